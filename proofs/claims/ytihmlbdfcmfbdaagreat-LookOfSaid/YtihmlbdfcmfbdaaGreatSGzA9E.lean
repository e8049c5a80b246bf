/-
  Part 5 of the proof: what the machine does and what the functions answer.
  Conditions: those that each lemma names.
-/
import Derived.Test.YtihmlbdfcmfbdaaGreatProg
import Derived.KernelRfl
import Derived.Test.YtihmlbdfcmfbdaaGreatSGzA9D
set_option linter.unusedSimpArgs false
set_option linter.unusedVariables false
set_option maxRecDepth 100000
namespace Gv
open Go Go.Proofs
section
variable {P:Program} {n:Nat} {all:List Oper}
theorem Pj (h:aL):h.view h.length=.dead:=by simp[aL.view,U8]
theorem TO {o:Oper} {T:Env} {h:aL} {s:SI} {K:V→View→Prop} (hg:dE n all T o=some true) (hc:∀ v eff rd,sI P s T h.view h.length=some (v,eff,rd)→cq P o T h.view h.length=some (v,eff,rd)) (hw:wI P s T h.view K) :
  ∃ v h' rd wr,dS P n all o T h v h' rd wr false∧jk h h'∧K v h'.view∧kO (uh P s) rd wr false h.length h'.length:=by
 obtain ⟨v,eff,rd,hs,hk⟩:=TT hw (Pj h)
 have ha:=hc _ _ _ hs
 have hlive:∀ id,id∈eff.wr→h.view id≠.dead:=fun id hid=>(mM ha id hid).1
 refine ⟨v,eff.apply h,rd,eff.wr,.op hg ha,?_,?_,?_,?_⟩
 ·intro id hid hd
  rw[lC hlive]
  cases eff with
  | none=>exact hd
  | new o=>simp only[bG.view,View.set]; rw[Va (by omega)]; exact hd
  | fj k o =>
   simp only[bG.view,View.set]
   rw[Va (by rintro rfl; exact hlive id (by simp[bG.wr]) hd)]; exact hd
  | bL k o =>
   simp only[bG.view,View.set]
   rw[Va (by omega)]
   split
   ·rfl
   ·exact hd
 ·rw[lC (fun id hid=>(mM ha id hid).1)]; exact hk
 ·intro h0
  obtain ⟨rfl,rfl⟩:=(sf hs).1 h0
  exact ⟨rfl,rfl,rfl,rfl⟩
 ·intro h1
  rcases Vy (uh P s) 1 with h2 | h2
  ·obtain ⟨rfl,rfl⟩:=(sf hs).1 (by omega); rfl
  ·exact (sf hs).2 (by omega)
theorem Jd {P:Program} {fr:Bool} {s:SI} {T:Env} {H:View} {n:Nat} {v:V} {eff:bG} {rd:List Nat} (h:sI P (yC P fr s) T H n=some (v,eff,rd)):sI P s T H n=some (v,eff,rd):=by
 unfold yC at h
 split at h
 ·split at h
  ·exact PW h
  ·exact h
 ·split at h
  ·rename_i hc
   simp only[Vm] at hc
   exact RB hc.2 h
  ·exact h
 ·exact h
theorem AH (P:Program) (fz:Fz) (o:Oper) :
  (∃ f args ats,o.op=.call { callee:=.value f,args:=args,argTypes:=ats }∧(mH P fz o=.call (SX.of f) (args.toList.map SX.of)∨mH P fz o=.Aa (SX.of f) (args.toList.map SX.of))) ∨
  (∃ t x,o.op=.box t x∧mH P fz o=.op (.jt (SX.of x)))∨(∃ s d x,o.op=.convert s d x∧uV P s d=true∧mH P fz o=.op (.gp (SX.of x)))∨mH P fz o=.op (yC P fz.fr (comp P o)):=by
 unfold mH
 split
 ·rename_i f args ats ho
  refine .inl ⟨f,args,ats,ho,?_⟩
  by_cases hq:(match o.dst with | some d=>fz.l.contains (200000+d) | none=>false)=true
  ·exact .inr (Vd hq)
  ·exact .inl (Va hq)
 ·rename_i t x ho
  by_cases hd:(match o.dst with | some d=>fz.l.contains d | none=>false)=true
  ·exact .inr (.inl ⟨t,x,ho,Vd hd⟩)
  ·refine .inr (.inr (.inr ?_))
   refine (Va hd).trans ?_
   simp only[comp,ho,yC]
 ·rename_i s d x ho
  by_cases hd:((match o.dst with | some d=>fz.l.contains d | none=>false) && uV P s d)=true
  ·exact .inr (.inr (.inl ⟨s,d,x,ho,by simp only[Vm] at hd; exact hd.2,Vd hd⟩))
  ·exact .inr (.inr (.inr (Va hd)))
 ·exact .inr (.inr (.inr rfl))
theorem dS.len {o:Oper} {T:Env} {h h':aL} {v:V} {rd wr:List Nat} {call:Bool} (st:dS P n all o T h v h' rd wr call):h.length≤h'.length:=by
 cases st with
 | skip=>exact Vj _
 | op _ _=>rename_i eff _ _ ; cases eff <;> simp[bG.apply]
 | jt _ _ _=>exact Vj _
 | gp _ _ _ _ _ _=>exact Vj _
 | call _ _ _ _ ha _ _=>exact ha.1
theorem RH {fz:Fz} {o:Oper} {T:Env} {h:aL} {quiet:Bool} {K:V→View→Prop} (hg:dE n all T o=some true) (hw:wB P quiet (mH P fz o) T h.view K) :
  ∃ v h' rd wr call,dS P n all o T h v h' rd wr call∧jk h h'∧K v h'.view∧kO (jf P quiet (mH P fz o)) rd wr call h.length h'.length:=by
 rcases AH P fz o with ⟨f,args,ats,ho,hc | hc⟩ | ⟨t,x,ho,hc⟩ | ⟨s,d,x,ho,hcv,hc⟩ | hc
 rotate_left
 ·rw[hc] at hw ⊢
  simp only[wB] at hw
  split at hw
  ·rename_i g first cap hf
   rw[Cv] at hw
   rw[SX.cO] at hf
   obtain ⟨hok,hq'⟩:=hw
   obtain ⟨r,h',hr,hold,hk⟩:=hq' h rfl
   refine ⟨r,h',[],[],true,.call hg ho hf hok hr (fun id hid _=>hold id hid) (fun id hid=>by simp at hid),fun id hid hd=>(hold id hid).trans hd,hk,?_,?_⟩
   ·intro h0; simp[jf] at h0
   ·intro _; rfl
  ·exact hw.elim
 rotate_right
 ·rw[hc] at hw ⊢
  simp only[wB] at hw
  split at hw
  ·rename_i g first cap hf
   rw[Cv] at hw
   rw[SX.cO] at hf
   split at hw
   ·rename_i hq
    obtain ⟨hok,hq'⟩:=hw
    obtain ⟨r,h',hr,hold,hk⟩:=hq' h rfl
    refine ⟨r,h',[],[],true,.call hg ho hf hok hr (fun id hid _=>hold id hid) (fun id hid=>by simp at hid),fun id hid hd=>(hold id hid).trans hd,hk,?_,?_⟩
    ·intro h0; simp[jf,hq] at h0
    ·intro _; rfl
   ·rename_i hq
    obtain ⟨hok,hq'⟩:=hw
    obtain ⟨r,h',hr,hst,hk⟩:=hq' h rfl
    refine ⟨r,h',[],List.range h.length,true,.call hg ho hf hok hr (fun id hid hn=>?_) (fun id hid=>by simpa using hid),hst,hk,Rc (by simp[jf,hq])⟩
    exact absurd (by simpa using hid) hn
  ·exact hw.elim
 ·rw[hc] at hw ⊢
  simp only[wB,wI,SX.cO] at hw
  exact ⟨_,h,[],[],false,.jt hg ho hw.1,.refl _,hw.2,fun _=>⟨rfl,rfl,rfl,rfl⟩,fun _=>rfl⟩
 ·rw[hc] at hw ⊢
  simp only[wB,wI,SX.cO] at hw
  obtain ⟨e,h1,h2,h3⟩:=Ap hcv
  split at hw
  ·rename_i st hx
   exact ⟨_,h,[],[],false,.gp hg ho h1 h2 h3 hx,.refl _,hw,fun _=>⟨rfl,rfl,rfl,rfl⟩,fun _=>rfl⟩
  ·exact hw.elim
 ·rw[hc] at hw ⊢
  obtain ⟨v,h',rd,wr,h1,h0,h2,h3⟩:=TO (s:=yC P fz.fr (comp P o)) hg (fun v eff rd hs=>JT (Jd hs)) hw
  exact ⟨v,h',rd,wr,false,h1,h0,h2,h3⟩
def gg (P:Program) (quiet:Bool) (l:List SO) (recs:List Rec):Prop :=
 l.length=recs.length∧∀ (i:Nat) (s:SO) (r:Rec),l[i]?=some s→recs[i]?=some r→kO (jf P quiet s.b) r.rd r.wr r.call r.lo r.hi
theorem gg.nil {quiet:Bool} : gg P quiet [] []:=⟨rfl,fun i s r h=>by simp at h⟩
theorem gg.cons {quiet:Bool} {l:List SO} {recs:List Rec} {s:SO} {r:Rec} (h:gg P quiet l recs) (hr:kO (jf P quiet s.b) r.rd r.wr r.call r.lo r.hi):gg P quiet (s :: l) (r :: recs):=by
 refine ⟨by simp[h.1],fun i s' r' hs hr'=>?_⟩
 cases i with
 | zero=>simp at hs hr'; subst hs hr'; exact hr
 | succ i=>exact h.2 i s' r' (by simpa using hs) (by simpa using hr')
theorem gg.append {quiet:Bool} {l l':List SO} {recs recs':List Rec} (h:gg P quiet l recs) (h':gg P quiet l' recs'):gg P quiet (l ++ l') (recs ++ recs'):=by
 refine ⟨by simp[h.1,h'.1],fun i s r hs hr=>?_⟩
 by_cases hi:i < l.length
 ·rw[Vz hi] at hs
  rw[Vz (h.1 ▸ hi)] at hr
  exact h.2 i s r hs hr
 ·rw[VN (by omega)] at hs
  rw[VN (by have:=h.1; omega)] at hr
  exact h'.2 (i - l.length) s r hs (by rw[h.1]; exact hr)
theorem tD {fz:Fz} {o:Oper} {s:SO} (h:FY P n all fz o=some s):rW n o=true∧s.dst=o.dst∧s.b=mH P fz o∧vU n all o=some s.guard:=by
 unfold FY at h
 split at h
 ·rename_i hd
  simp only[Vk] at h
  obtain ⟨g,hg,rfl⟩:=h
  exact ⟨hd,rfl,rfl,hg⟩
 ·simp at h
theorem Cl {o:Oper} {T:Env} (h:vU n all o=some none):dE n all T o=some true:=by
 unfold vU at h
 unfold dE
 split at h
 ·rename_i hg; rw[hg]
 ·split at h
  ·split at h
   ·simp at h
   ·simp at h
  ·simp at h
theorem lD {o:Oper} {T:Env} {d:Nat} {want:Bool} (h:vU n all o=some (some (d,want))) :
  (∀ b,T d=.val (.bool b)→dE n all T o=some (b == want))∧(T d=.bI []→dE n all T o=some false):=by
 unfold vU at h
 unfold dE
 split at h
 ·simp at h
 ·rename_i j w hg
  rw[hg]
  split at h
  ·rename_i d' hd
   split at h
   ·rename_i hlt
    simp at h
    obtain ⟨rfl,rfl⟩:=h
    simp only[hd,hlt,if_true]
    exact ⟨fun b hb=>by rw[hb],fun hb=>by rw[hb]⟩
   ·simp at h
  ·simp at h
theorem lJ {fz:Fz} {os:List Oper} (h:dM P n all fz os=some []):os=[]:=by
 cases os with
 | nil=>rfl
 | cons o r =>
  simp only[dM] at h
  split at h <;> simp at h
theorem mf {fz:Fz} {os:List Oper} {s:SO} {l:List SO} (h:dM P n all fz os=some (s :: l)):∃ o r,os=o :: r∧FY P n all fz o=some s∧dM P n all fz r=some l:=by
 cases os with
 | nil=>simp[dM] at h
 | cons o r =>
  simp only[dM] at h
  split at h
  ·rename_i s' l' h1 h2
   simp at h
   obtain ⟨rfl,rfl⟩:=h
   exact ⟨o,r,rfl,h1,h2⟩
  ·simp at h
theorem rj {fz:Fz} : ∀ {l l':List SO} {os:List Oper},dM P n all fz os=some (l ++ l')→∃ a b,os=a ++ b∧dM P n all fz a=some l∧dM P n all fz b=some l'
 | [],l',os,h=>⟨[],os,rfl,rfl,h⟩
 | s :: l,l',os,h=>by
  obtain ⟨o,r,rfl,h1,h2⟩:=mf h
  obtain ⟨a,b,rfl,h3,h4⟩:=rj h2
  exact ⟨o :: a,b,rfl,by simp[dM,h1,h3],h4⟩
theorem Tr.append {a b:List Oper} {T T1 T2:Env} {h h1 h2:aL} {r1 r2:List Rec} (x:Tr P n all a T h r1 T1 h1) (y:Tr P n all b T1 h1 r2 T2 h2):Tr P n all (a ++ b) T h (r1 ++ r2) T2 h2:=by
 induction x with
 | nil=>exact y
 | cons st hd _ ih=>exact .cons st hd (ih y)
theorem A6 {T:Env} {d:Nat} {v:V} (h:T d=v):T.put (some d) v=T:=by
 funext t
 simp only[Env.put]
 split
 ·rename_i e; subst e; exact h.symm
 ·rfl
theorem HM {fz:Fz} {quiet:Bool} {K:Env→View→Prop} (g:Option (Nat × Bool)):∀ (l:List (Option Nat × SB)) (os:List Oper) (T:Env) (h:aL),
  dM P n all fz os=some (l.map fun (d,b)=>⟨d,g,b⟩)→(∀ d w,g=some (d,w)→T d=.val (.bool w)∧(l.all fun x=>x.1 != some d)=true)→zG P quiet l T h.view K →
  ∃ recs T' h',Tr P n all os T h recs T' h'∧(jk h h'∧h.length≤h'.length)∧K T' h'.view∧gg P quiet (l.map fun (d,b)=>⟨d,g,b⟩) recs
 | [],os,T,h,hc,hg,hw=>by
  have:=lJ hc; subst this
  exact ⟨[],T,h,.nil,⟨.refl _,Vj _⟩,hw,.nil⟩
 | (d,b) :: l,os,T,h,hc,hg,hw=>by
  obtain ⟨o,r,rfl,h1,h2⟩:=mf hc
  obtain ⟨hd,hd1,hb1,hg1⟩:=tD h1
  simp only at hd1 hb1 hg1
  have hgv:dE n all T o=some true:=by
   cases g with
   | none=>exact Cl hg1
   | some p =>
    obtain ⟨d',w⟩:=p
    have:=(lD (T:=T) hg1).1 w (hg d' w rfl).1
    rw[this]; simp
  simp only[zG] at hw
  rw[hb1] at hw
  obtain ⟨v,h',rd,wr,call,st,hst,hk,hl⟩:=RH hgv hw
  obtain ⟨recs,T',h'',tr,hst',hk',hro⟩:=HM g l r (T.put d v) h' h2 (fun d' w e=>by
   have:=hg d' w e
   simp only[Wn,Vm,bne_iff_ne,ne_eq] at this
   refine ⟨?_,this.2.2⟩
   rw[← this.1]
   cases d with
   | none=>rfl
   | some t=>simp only[Env.put]; rw[Va]; intro e; subst e; exact this.2.1 rfl) hk
  rw[hd1] at tr
  have hlen:=st.len
  exact ⟨_,T',h'',.cons st hd tr,⟨hst.trans hst'.1 hlen,V1 hlen hst'.2⟩,hk',hro.cons (by rw[hb1]; exact hl)⟩
theorem DD {fz:Fz} {quiet:Bool} (d:Nat) (w:Bool) (h:aL):∀ (l:List (Option Nat × SB)) (os:List Oper) (T:Env),
  dM P n all fz os=some (l.map fun (d',b)=>⟨d',some (d,w),b⟩)→(T d=.val (.bool !w)∨T d=.bI [])→(l.all fun x=>x.1 != some d)=true →
  ∃ recs,Tr P n all os T h recs (iU l T) h∧gg P quiet (l.map fun (d',b)=>⟨d',some (d,w),b⟩) recs
 | [],os,T,hc,hd,hl=>by
  have:=lJ hc; subst this
  exact ⟨[],.nil,.nil⟩
 | (d',b) :: l,os,T,hc,hd,hl=>by
  obtain ⟨o,r,rfl,h1,h2⟩:=mf hc
  obtain ⟨hd0,hd1,hb1,hg1⟩:=tD h1
  simp only at hd1 hb1 hg1
  have hgv:dE n all T o=some false:=by
   rcases hd with hd | hd
   ·rw[(lD (T:=T) hg1).1 _ hd]; cases w <;> rfl
   ·exact (lD (T:=T) hg1).2 hd
  simp only[Wn,Vm,bne_iff_ne,ne_eq] at hl
  obtain ⟨recs,tr,hro⟩:=DD d w h l r (T.put d' (.bI [])) h2 (by
   have:(T.put d' (.bI [])) d=T d:=by
    cases d' with
    | none=>rfl
    | some t=>simp only[Env.put]; rw[Va]; intro e; subst e; exact hl.1 rfl
   rw[this]; exact hd) hl.2
  rw[hd1] at tr
  refine ⟨_,?_,hro.cons (r:=⟨[],[],false,h.length,h.length⟩) ⟨fun _=>⟨rfl,rfl,rfl,rfl⟩,fun _=>rfl⟩⟩
  have:=Tr.cons (.skip hgv) hd0 tr
  rw[iU,hd1]
  exact this
theorem TA {fz:Fz} {quiet:Bool} {K:Env→View→Prop} {g:SG} {os:List Oper} {T:Env} {h:aL} (hc:dM P n all fz os=some g.flat) (hok:tY g=true) (hw:wG P quiet g T h.view K) :
  ∃ recs T' h',Tr P n all os T h recs T' h'∧(jk h h'∧h.length≤h'.length)∧K T' h'.view∧gg P quiet g.flat recs:=by
 unfold wG at hw
 unfold SG.flat at hc ⊢
 unfold tY at hok
 split at hw
 ·rename_i hg
  rw[hg] at hc ⊢
  exact HM none g.ops os T h hc (fun d w e=>by simp at e) hw
 ·rename_i d want hg
  rw[hg] at hc hok ⊢
  simp only at hok
  split at hw
  ·rename_i b hb
   by_cases e:b=want
   ·subst e
    have:=hw.1 rfl
    rw[A6 hb] at this
    exact HM (some (d,b)) g.ops os T h hc (fun d' w e=>by simp at e; obtain ⟨rfl,rfl⟩:=e; exact ⟨hb,hok⟩) this
   ·have e':b = !want:=by cases b <;> cases want <;> simp_all
    have:=hw.2 e'
    subst e'
    rw[A6 hb] at this
    obtain ⟨recs,tr,hro⟩:=DD (quiet:=quiet) d want h g.ops os T hc (.inl hb) hok
    exact ⟨recs,_,h,tr,⟨.refl _,Vj _⟩,this,hro⟩
  ·rename_i hb
   obtain ⟨recs,tr,hro⟩:=DD (quiet:=quiet) d want h g.ops os T hc (.inr hb) hok
   exact ⟨recs,_,h,tr,⟨.refl _,Vj _⟩,hw,hro⟩
  ·exact hw.elim
theorem yJ {fz:Fz} {quiet:Bool} {K:Env→View→Prop} : ∀ (gs:List SG) (os:List Oper) (T:Env) (h:aL),dM P n all fz os=some (ki gs)→gs.all tY=true→xP P quiet gs T h.view K →
  ∃ recs T' h',Tr P n all os T h recs T' h'∧(jk h h'∧h.length≤h'.length)∧K T' h'.view∧gg P quiet (ki gs) recs
 | [],os,T,h,hc,_,hw=>by
  have:=lJ hc; subst this
  exact ⟨[],T,h,.nil,⟨.refl _,Vj _⟩,hw,.nil⟩
 | g :: gs,os,T,h,hc,hok,hw=>by
  simp only[ki,VC,List.flatten_cons] at hc ⊢
  simp only[Wn,Vm] at hok
  obtain ⟨a,b,rfl,h1,h2⟩:=rj hc
  obtain ⟨r1,T1,h1',tr1,st1,hk1,ro1⟩:=TA h1 hok.1 hw
  obtain ⟨r2,T2,h2',tr2,st2,hk2,ro2⟩:=yJ gs b T1 h1' h2 hok.2 hk1
  exact ⟨_,T2,h2',tr1.append tr2,⟨st1.1.trans st2.1 st1.2,V1 st1.2 st2.2⟩,hk2,ro1.append ro2⟩
theorem Tr.at_ {os:List Oper} {T T':Env} {h h':aL} {recs:List Rec} (tr:Tr P n all os T h recs T' h'):∀ (i:Nat) (o:Oper),os[i]?=some o →
  ∃ T1 h1 v h2 rd wr call recs2,recs[i]?=some ⟨rd,wr,call,h1.length,h2.length⟩∧dS P n all o T1 h1 v h2 rd wr call∧h.length≤h1.length∧Tr P n all (os.drop (i+1)) (T1.put o.dst v) h2 recs2 T' h'∧(∀ m,recs2[m]?=recs[i+1+m]?) ∧
   (∀ t,(∀ o'∈os.take i,o'.dst≠some t)→T1 t=T t):=by
 induction tr with
 | nil=>intro i o hi; simp at hi
 | @cons o0 rest T T' h h1 h' v rd wr call recs st hd tr ih =>
  intro i o hi
  cases i with
  | zero =>
   simp at hi; subst hi
   exact ⟨T,h,v,h1,rd,wr,call,recs,rfl,st,Vj _,by simpa using tr,fun m=>by rw[show 0+1+m=m+1 by omega,VU],fun t _=>rfl⟩
  | succ i =>
   simp at hi
   obtain ⟨T1,h2,v2,h3,rd2,S4,call2,recs2,e1,e2,e3,e4,e5,e6⟩:=ih i o hi
   have hlen:h.length≤h1.length:=by
    cases st with
    | skip=>exact Vj _
    | op _ _=>rename_i eff _ _; cases eff <;> simp[bG.apply]
    | jt _ _ _=>exact Vj _
    | gp _ _ _ _ _ _=>exact Vj _
    | call _ _ _ _ ha _ _=>exact ha.1
   refine ⟨T1,h2,v2,h3,rd2,S4,call2,recs2,by simpa using e1,e2,V1 hlen e3,by simpa using e4,fun m=>?_,fun t ht=>?_⟩
   ·rw[e5,show i+1+1+m=(i+1+m)+1 by omega,VU]
   ·simp only[WY,Vp] at ht
    rw[e6 t fun o' ho'=>ht o' (.inr ho')]
    have:=ht o0 (.inl rfl)
    cases hdst:o0.dst with
    | none=>rfl
    | some d=>simp only[Env.put]; rw[Va]; rintro rfl; exact this hdst
theorem Mc {o:Oper} {T:Env} {h h':aL} {v:V} {rd wr:List Nat} {call:Bool} (st:dS P n all o T h v h' rd wr call) (ha:AW o=true) (hg:o.guard=none):v=.ptr h.length 0 0:=by
 unfold AW at ha
 have hgv:dE n all T o=some true:=by unfold dE; rw[hg]
 cases st with
 | skip hs=>rw[hgv] at hs; simp at hs
 | op _ hop =>
  split at ha
  ·rename_i e ho
   simp only[cq,ho] at hop
   split at hop
   ·unfold lX at hop
    split at hop
    ·simp at hop; exact hop.1.symm
    ·simp at hop
   ·simp at hop
  ·simp at ha
 | jt _ ho _=>rw[ho] at ha; simp at ha
 | gp _ ho _ _ _ _=>rw[ho] at ha; simp at ha
 | call _ ho _ _ _ _ _=>rw[ho] at ha; simp at ha
theorem LO {o:Oper} {T:Env} {h h':aL} {v:V} {rd wr:List Nat} {call:Bool} {t id i j:Nat} (st:dS P n all o T h v h' rd wr call) (ha:kM o=some t) (ht:T t=.ptr id i j):wr=[id]∧call=false:=by
 unfold kM at ha
 split at ha
 ·rename_i ty t' x ho hg
  simp at ha; subst ha
  have hgv:dE n all T o=some true:=by unfold dE; rw[hg]
  cases st with
  | skip hs=>rw[hgv] at hs; simp at hs
  | op _ hop =>
   have e1:ev T (.tmp t')=.ptr id i j:=ht
   simp only[cq,ho,e1,qU] at hop
   split at hop
   ·split at hop
    ·simp only[Vb,Ve] at hop
     obtain ⟨_,he,_⟩:=hop
     rw[← he]; exact ⟨rfl,rfl⟩
    ·simp at hop
   ·simp at hop
  | jt _ ho' _=>rw[ho] at ho'; simp at ho'
  | gp _ ho' _ _ _ _=>rw[ho] at ho'; simp at ho'
  | call _ ho' _ _ _ _ _=>rw[ho] at ho'; simp at ho'
 ·simp at ha
theorem Np {o:Oper} {T:Env} {h h':aL} {v:V} {rd wr:List Nat} {call:Bool} (st:dS P n all o T h v h' rd wr call) (ha:Dm o=true):wr=[]∧call=false∧∀ id,id∈rd→id < h.length:=by
 unfold Dm at ha
 cases st with
 | skip _=>exact ⟨rfl,rfl,fun id hid=>by simp at hid⟩
 | op _ hop =>
  split at ha
  ·rename_i e a ho
   simp only[cq,ho,mG] at hop
   split at hop
   ·rename_i id i j hx
    split at hop
    ·rename_i z es hH
     split at hop
     ·simp only[Vk] at hop
      obtain ⟨_,_,hop⟩:=hop
      simp at hop
      obtain ⟨_,rfl,rfl⟩:=hop
      refine ⟨rfl,rfl,fun id' hid=>?_⟩
      simp at hid; subst hid
      exact iA (by rw[hH]; simp)
     ·simp at hop
    ·simp at hop
   ·simp only[Vk] at hop
    obtain ⟨_,_,hop⟩:=hop
    simp at hop
    obtain ⟨_,rfl,rfl⟩:=hop
    exact ⟨rfl,rfl,fun id hid=>by simp at hid⟩
   ·simp at hop
  ·simp at ha
 | jt _ ho _=>rw[ho] at ha; simp at ha
 | gp _ ho _ _ _ _=>rw[ho] at ha; simp at ha
 | call _ ho _ _ _ _ _=>rw[ho] at ha; simp at ha
theorem xq {T T':Env} {h h':aL} {recs:List Rec} (tr:Tr P n all all T h recs T' h') {i k:Nat} {a b:Rec} (hp:zO all i k=true) (ha:recs[i]?=some a) (hb:recs[k]?=some b):oM a b:=by
 unfold zO at hp
 split at hp
 ·rename_i oa ob hoa hob
  rw[Vm] at hp
  obtain ⟨hl,hp⟩:=hp
  split at hp
  ·rename_i t hst
   rw[List.any_eq_true] at hp
   obtain ⟨j,hj,hp⟩:=hp
   rw[V5] at hj
   rw[Vm,Vo] at hp
   obtain ⟨hij,hown⟩:=hp
   unfold SK at hown
   split at hown
   ·rename_i oj hoj
    simp only[Vm,Wd,VK,bne_iff_ne,ne_eq,Option.isNone_iff_eq_none] at hown
    obtain ⟨⟨⟨w1,w2⟩,w3⟩,w4⟩:=hown
    obtain ⟨T1,h1,v1,h2,rd1,TW,c1,recs1,e1,e2,e3,e4,e5,_⟩:=tr.at_ i oa hoa
    obtain ⟨Tj,hj1,vj,hj2,rdj,wrj,cj,recsj,f1,f2,f3,f4,f5,_⟩:=e4.at_ (j - (i+1)) oj (by rw[Xj,show i+1+(j - (i+1))=j by omega]; exact hoj)
    have hdr:(all.drop (i+1)).drop (j - (i+1)+1)=all.drop (j+1):=by rw[List.drop_drop]; congr 1; omega
    rw[hdr] at f4
    obtain ⟨Tk,hk1,vk,hk2,rdk,wrk,ck,recsk,g1,g2,g3,_,_,g6⟩:=f4.at_ (k - (j+1)) ob (by rw[Xj,show j+1+(k - (j+1))=k by omega]; exact hob)
    rw[ha] at e1
    have hae:=(Xm e1)
    have hbe:recs[k]?=some ⟨rdk,wrk,ck,hk1.length,hk2.length⟩:=by
     rw[← g1,f5,e5]; congr 1; omega
    rw[hb] at hbe
    have hbe:=Xm hbe
    have hv:=Mc f2 w3 w2
    have hTk:Tk t=.ptr hj1.length 0 0:=by
     rw[g6 t fun o' ho'=>w4 o' ho',w1,hv]
     simp[Env.put]
    obtain ⟨s1,s2⟩:=LO g2 hst hTk
    obtain ⟨l1,l2,l3⟩:=Np e2 hl
    rw[hae,hbe]
    have hlen:h1.length≤h2.length:=by
     cases e2 with
     | skip=>exact Vj _
     | op _ _=>rename_i eff _ _; cases eff <;> simp[bG.apply]
     | jt _ _ _=>exact Vj _
     | gp _ _ _ _ _ _=>exact Vj _
     | call _ _ _ _ ha _ _=>exact ha.1
    refine ⟨fun id hid=>by simp[l1] at hid,fun id hid=>?_,fun hc=>by simp[l2] at hc,fun _=>l1,fun id hid=>?_⟩
    ·simp only[s1,VY] at hid
     subst hid
     intro hr
     have:=l3 _ hr
     omega
    ·simp only[s1,VY] at hid
     subst hid
     simp only
     omega
   ·simp at hown
  ·simp at hp
 ·simp at hp
theorem PR {ls:List Nat} {recs:List Rec} {T T':Env} {hp hp':aL} (tr:Tr P n all all T hp recs T' hp') (h:FZ all ls=true) (hl:ls.length=recs.length) (hr:∀ (i x:Nat) (r:Rec),ls[i]?=some x→recs[i]?=some r→kO x r.rd r.wr r.call r.lo r.hi):uv all recs:=by
 intro i k a b hik ha hb ho
 have hi:i < recs.length:=(Vn.1 ha).1
 have hk:k < recs.length:=(Vn.1 hb).1
 unfold FZ at h
 simp only[VK] at h
 have h1:=h (ls[i]'(by omega),i) (by rw[Wb]; simp[U9 (show i < ls.length by omega)])
  (ls[k]'(by omega),k) (by rw[Wb]; simp[U9 (show k < ls.length by omega)])
 have la:=hr i _ a (U9 (by omega)) ha
 have lb:=hr k _ b (U9 (by omega)) hb
 simp only[hik,decide_true,Xf,ho,Xn,V7,Wd,Vm,Vo] at h1
 rcases h1 with ((h1 | h1) | h1) | h1
 ·obtain ⟨e1,e2,e3,e4⟩:=la.1 h1
  exact ⟨fun id hid=>by simp[e2] at hid,fun id _=>by simp[e1],fun hc=>by simp[e3] at hc,fun _=>e2,fun id _ hx=>by omega⟩
 ·obtain ⟨e1,e2,e3,e4⟩:=lb.1 h1
  exact ⟨fun id _=>by simp[e1],fun id hid=>by simp[e2] at hid,fun _=>e2,fun hc=>by simp[e3] at hc,fun id hid=>by simp[e2] at hid⟩
 ·have e1:=la.2 h1.1
  have e2:=lb.2 h1.2
  exact ⟨fun id hid=>by simp[e1] at hid,fun id hid=>by simp[e2] at hid,fun _=>e2,fun _=>e1,fun id hid=>by simp[e2] at hid⟩
 ·exact xq tr h1 ha hb
theorem Tr.keep {os:List Oper} {T T':Env} {h h':aL} {recs:List Rec} (tr:Tr P n all os T h recs T' h') {t:Nat} (ht:∀ o∈os,o.dst≠some t):T' t=T t:=by
 induction tr with
 | nil=>rfl
 | @cons o0 rest T T' h h1 h' v rd wr call recs st hd tr ih =>
  rw[ih fun o ho=>ht o (by simp[ho])]
  have:=ht o0 (by simp)
  cases hdst:o0.dst with
  | none=>rfl
  | some d=>simp only[Env.put]; rw[Va]; rintro rfl; exact this hdst
theorem wE {o:Oper} {T:Env} {h h':aL} {v:V} {rd wr:List Nat} {call:Bool} {t:Nat} (st:dS P n all o T h v h' rd wr call) (ha:r7 o=some t):wr=[]∧call=false∧h'.length=h.length∧∀ id,id∈rd→∃ i j,T t=.ptr id i j:=by
 unfold r7 at ha
 split at ha
 ·rename_i e t' ho
  simp at ha; subst ha
  cases st with
  | skip _=>exact ⟨rfl,rfl,rfl,fun id hid=>by simp at hid⟩
  | op _ hop =>
   simp only[cq,ho,mG] at hop
   split at hop
   ·rename_i id i j hx
    split at hop
    ·split at hop
     ·simp only[Vk] at hop
      obtain ⟨_,_,hop⟩:=hop
      simp at hop
      obtain ⟨_,rfl,rfl⟩:=hop
      refine ⟨rfl,rfl,rfl,fun id' hid=>?_⟩
      simp at hid; subst hid
      exact ⟨i,j,hx⟩
     ·simp at hop
    ·simp at hop
   ·simp only[Vk] at hop
    obtain ⟨_,_,hop⟩:=hop
    simp at hop
    obtain ⟨_,rfl,rfl⟩:=hop
    exact ⟨rfl,rfl,rfl,fun id hid=>by simp at hid⟩
   ·simp at hop
  | jt _ ho' _=>rw[ho] at ho'; simp at ho'
  | gp _ ho' _ _ _ _=>rw[ho] at ho'; simp at ho'
  | call _ ho' _ _ _ _ _=>rw[ho] at ho'; simp at ho'
 ·simp at ha
theorem wD {i t:Nat} (h:stays all i t=true):∀ o∈all.drop i,o.dst≠some t:=by
 intro o ho
 have:=VK.1 h o ho
 simpa using this
theorem A4 {aps:List (Nat × Nat)} {T:Env} {K:Prop} (hA:yn aps T K):∀ p∈aps,jj (T p.1) (T p.2):=by
 induction aps with
 | nil=>intro p hp; simp at hp
 | cons q l ih =>
  intro p hp
  rcases Vp.1 hp with rfl | hp
  ·exact hA.1
  ·exact ih hA.2 p hp
theorem yn.rest {aps:List (Nat × Nat)} {T:Env} {K:Prop} (hA:yn aps T K):K:=by
 induction aps with
 | nil=>exact hA
 | cons q l ih=>exact ih hA.2
theorem qq {T T':Env} {h h':aL} {recs:List Rec} (tr:Tr P n all all T h recs T' h') {i t:Nat} {o:Oper} (ho:all[i]?=some o) (hs:stays all i t=true) {r:Rec} (hr:recs[i]?=some r) :
  ∃ T1 h1 v h2,dS P n all o T1 h1 v h2 r.rd r.wr r.call∧r.lo=h1.length∧r.hi=h2.length∧T1 t=T' t:=by
 obtain ⟨T1,h1,v,h2,rd,wr,call,recs2,e1,e2,e3,e4,e5,e6⟩:=tr.at_ i o ho
 rw[hr] at e1
 have e1:=Xm e1
 subst e1
 refine ⟨T1,h1,v,h2,e2,rfl,rfl,?_⟩
 have hk:=wD hs
 have hi:i < all.length:=(Vn.1 ho).1
 have ho':all[i]=o:=(Vn.1 ho).2
 rw[VT hi,ho'] at hk
 rw[e4.keep fun o' ho'=>hk o' (by simp[ho'])]
 have:=hk o (by simp)
 cases hdst:o.dst with
 | none=>rfl
 | some d=>simp only[Env.put]; rw[Va]; rintro rfl; exact this hdst
theorem zQ {i a b j c d:Nat} (h:jj (.ptr i a b) (.ptr j c d)):i≠j:=h
theorem CM {i a b j c d e:Nat} (h:jj (.ptr i a b) (.sl j c d e)):i≠j:=h
theorem r0 {o:Oper} {T:Env} {h h':aL} {v:V} {rd wr:List Nat} {call:Bool} {t:Nat} (st:dS P n all o T h v h' rd wr call) (ha:pE o=some t) :
  call=false∧∀ id,id∈wr→(∃ i j,T t=.ptr id i j)∨∃ a b c,T t=.sl id a b c:=by
 unfold pE at ha
 split at ha
 ·rename_i t' hs
  simp at ha; subst ha
  unfold kM at hs
  split at hs
  ·rename_i ty t2 x ho hg
   simp at hs; subst hs
   cases st with
   | skip _=>exact ⟨rfl,fun id hid=>by simp at hid⟩
   | op _ hop =>
    simp only[cq,ho,qU] at hop
    split at hop
    ·rename_i id i j hx
     split at hop
     ·split at hop
      ·simp only[Vb,Ve] at hop
       obtain ⟨_,he,_⟩:=hop
       rw[← he]
       refine ⟨rfl,fun id' hid=>?_⟩
       simp[bG.wr] at hid; subst hid
       exact .inl ⟨i,j,hx⟩
      ·simp at hop
     ·simp at hop
    ·simp at hop
   | jt _ ho' _=>rw[ho] at ho'; simp at ho'
   | gp _ ho' _ _ _ _=>rw[ho] at ho'; simp at ho'
   | call _ ho' _ _ _ _ _=>rw[ho] at ho'; simp at ho'
  ·simp at hs
 ·unfold Ol at ha
  split at ha
  ·rename_i args ats ho hg
   split at ha
   ·rename_i t2 y hl
    simp at ha; subst ha
    cases st with
    | skip _=>exact ⟨rfl,fun id hid=>by simp at hid⟩
    | op _ hop =>
     simp only[cq,ho,hl] at hop
     split at hop
     ·unfold mY at hop
      split at hop
      ·split at hop
       ·simp at hop
       ·split at hop
        ·split at hop <;> first | (simp only[Vb,Ve] at hop; obtain ⟨_,he,_⟩:=hop; rw[← he]; exact ⟨rfl,fun id' hid=>by simp[bG.wr] at hid⟩) | simp at hop
        ·split at hop
         ·simp at hop
         ·split at hop
          ·split at hop
           ·simp only[Vb,Ve] at hop
            obtain ⟨_,he,_⟩:=hop
            rw[← he]; exact ⟨rfl,fun id' hid=>by simp[bG.wr] at hid⟩
           ·simp at hop
          ·rename_i id off len esz hx
           split at hop
           ·split at hop
            ·simp only[Vb,Ve] at hop
             obtain ⟨_,he,_⟩:=hop
             rw[← he]
             refine ⟨rfl,fun id' hid=>?_⟩
             simp[bG.wr] at hid; subst hid
             exact .inr ⟨off,len,esz,hx⟩
            ·simp at hop
           ·simp at hop
          ·simp at hop
      ·simp at hop
     ·split at hop
      ·unfold xf at hop
       repeat' (split at hop)
       all_goals first | (simp only[Vb,Ve] at hop; obtain ⟨_,he,_⟩:=hop; rw[← he]; exact ⟨rfl,fun id' hid=>by simp[bG.wr] at hid⟩) | simp at hop
      ·simp at hop
    | jt _ ho' _=>rw[ho] at ho'; simp at ho'
    | gp _ ho' _ _ _ _=>rw[ho] at ho'; simp at ho'
    | call _ ho' _ _ _ _ _=>rw[ho] at ho'; simp at ho'
   ·simp at ha
  ·simp at ha
theorem AQ {o:Oper} {T:Env} {h h':aL} {v:V} {rd wr:List Nat} {call:Bool} (st:dS P n all o T h v h' rd wr call) (ha:HH o=true):rd=[]∧wr=[]∧call=false:=by
 unfold HH at ha
 cases st with
 | skip _=>exact ⟨rfl,rfl,rfl⟩
 | op _ hop =>
  split at ha
  ·rename_i ty len parts ho
   simp only[cq,ho,iy] at hop
   have key:∀ {x:Option (V × bG × List Nat)} {e:bG},x=some (v,e,rd)→(∀ y,x=some y→y.2.1.wr=[]∧y.2.2=[])→rd=[]∧e.wr=[]:=fun hx hy=>⟨(hy _ hx).2,(hy _ hx).1⟩
   obtain ⟨k1,k2⟩:=key hop (by
    intro y hy
    repeat' (first | (split at hy) | (simp only[Vb] at hy; subst hy; exact ⟨rfl,rfl⟩) | (simp at hy; done)))
   exact ⟨k1,k2,rfl⟩
  ·rename_i e ho
   simp only[cq,ho] at hop
   split at hop
   ·unfold lX at hop
    split at hop
    ·simp only[Vb,Ve] at hop
     obtain ⟨_,he,hr⟩:=hop
     rw[← he,← hr]; exact ⟨rfl,rfl,rfl⟩
    ·simp at hop
   ·simp at hop
  ·simp at ha
 | jt _ ho _=>rw[ho] at ha; simp at ha
 | gp _ ho _ _ _ _=>rw[ho] at ha; simp at ha
 | call _ ho _ _ _ _ _=>rw[ho] at ha; simp at ha
theorem vT {o:Oper} {t:Nat} (h:kM o=some t):pE o=some t:=by unfold pE; rw[h]
theorem Mr {T T':Env} {h h':aL} {recs:List Rec} (tr:Tr P n all all T h recs T' h') {i k:Nat} {a b:Rec} {p:Nat × Nat} (hp:Cs all i k=some p) (hA:jj (T' p.1) (T' p.2)) (ha:recs[i]?=some a) (hb:recs[k]?=some b):oM a b:=by
 unfold Cs at hp
 split at hp
 ·rename_i oa ob hoa hob
  split at hp
  ·rename_i s t hl hs
   split at hp
   ·rename_i hst
    simp only[Vm] at hst
    simp at hp; subst hp
    obtain ⟨Ta,ha1,va,ha2,sa,la1,la2,ea⟩:=qq tr hoa hst.1 ha
    obtain ⟨Tb,hb1,vb,hb2,sb,_,_,eb⟩:=qq tr hob hst.2 hb
    obtain ⟨l1,l2,l3,l4⟩:=wE sa hl
    have hA:jj (Ta s) (Tb t):=by rw[ea,eb]; exact hA
    refine ⟨fun id hid=>by simp[l1] at hid,fun id hid hr=>?_,fun hc=>by simp[l2] at hc,fun _=>l1,fun id _ hx=>by omega⟩
    obtain ⟨i',j',e1⟩:=l4 id hr
    rw[e1] at hA
    rcases (r0 sb (vT hs)).2 id hid with ⟨c,d,hy⟩ | ⟨c,d,e,hy⟩
    ·rw[hy] at hA; exact zQ hA rfl
    ·rw[hy] at hA; exact CM hA rfl
   ·simp at hp
  ·split at hp
   ·rename_i t s hs hl
    split at hp
    ·rename_i hst
     simp only[Vm] at hst
     simp at hp; subst hp
     obtain ⟨Ta,ha1,va,ha2,sa,la1,la2,ea⟩:=qq tr hoa hst.1 ha
     obtain ⟨Tb,hb1,vb,hb2,sb,lb1,lb2,eb⟩:=qq tr hob hst.2 hb
     obtain ⟨l1,l2,l3,l4⟩:=wE sb hl
     have hA:jj (Tb s) (Ta t):=by rw[ea,eb]; exact hA
     refine ⟨fun id hid hr=>?_,fun id hid=>by simp[l1] at hid,fun hc=>l1,fun hc=>by simp[l2] at hc,fun id hid=>by simp[l1] at hid⟩
     obtain ⟨i',j',e1⟩:=l4 id hr
     rw[e1] at hA
     rcases (r0 sa (vT hs)).2 id hid with ⟨c,d,hy⟩ | ⟨c,d,e,hy⟩
     ·rw[hy] at hA; exact zQ hA rfl
     ·rw[hy] at hA; exact CM hA rfl
    ·simp at hp
   ·simp at hp
 ·simp at hp
theorem LF {T T':Env} {h h':aL} {recs:List Rec} (tr:Tr P n all all T h recs T' h') {i k:Nat} {a b:Rec} {p:Nat × Nat} (hp:DX all i k=some p) (hA:jj (T' p.1) (T' p.2)) (ha:recs[i]?=some a) (hb:recs[k]?=some b):oM a b:=by
 unfold DX at hp
 split at hp
 ·rename_i oa ob hoa hob
  split at hp
  ·rename_i s t hl hs
   split at hp
   ·rename_i hst
    simp only[Vm] at hst
    simp at hp; subst hp
    obtain ⟨Ta,ha1,va,ha2,sa,la1,la2,ea⟩:=qq tr hoa hst.1 ha
    obtain ⟨Tb,hb1,vb,hb2,sb,_,_,eb⟩:=qq tr hob hst.2 hb
    obtain ⟨l1,l2,l3,l4⟩:=wE sa hl
    have hA:jj (Ta s) (Tb t):=by rw[ea,eb]; exact hA
    refine ⟨fun id hid=>by simp[l1] at hid,fun id hid hr=>?_,fun hc=>by simp[l2] at hc,fun _=>l1,fun id _ hx=>by omega⟩
    obtain ⟨i',j',e1⟩:=l4 id hr
    rw[e1] at hA
    rcases (r0 sb hs).2 id hid with ⟨c,d,hy⟩ | ⟨c,d,e,hy⟩
    ·rw[hy] at hA; exact zQ hA rfl
    ·rw[hy] at hA; exact CM hA rfl
   ·simp at hp
  ·split at hp
   ·rename_i t s hs hl
    split at hp
    ·rename_i hst
     simp only[Vm] at hst
     simp at hp; subst hp
     obtain ⟨Ta,ha1,va,ha2,sa,la1,la2,ea⟩:=qq tr hoa hst.1 ha
     obtain ⟨Tb,hb1,vb,hb2,sb,lb1,lb2,eb⟩:=qq tr hob hst.2 hb
     obtain ⟨l1,l2,l3,l4⟩:=wE sb hl
     have hA:jj (Tb s) (Ta t):=by rw[ea,eb]; exact hA
     refine ⟨fun id hid hr=>?_,fun id hid=>by simp[l1] at hid,fun hc=>l1,fun hc=>by simp[l2] at hc,fun id hid=>by simp[l1] at hid⟩
     obtain ⟨i',j',e1⟩:=l4 id hr
     rw[e1] at hA
     rcases (r0 sa hs).2 id hid with ⟨c,d,hy⟩ | ⟨c,d,e,hy⟩
     ·rw[hy] at hA; exact zQ hA rfl
     ·rw[hy] at hA; exact CM hA rfl
    ·simp at hp
   ·simp at hp
 ·simp at hp
theorem Mq {l:List (Nat × Nat)} {aps:List (Nat × Nat)} (h:CO all l=some aps):∀ q∈l,∃ p∈aps,Cs all q.1 q.2=some p:=by
 induction l generalizing aps with
 | nil=>intro q hq; simp at hq
 | cons x r ih =>
  obtain ⟨i,k⟩:=x
  simp only[CO] at h
  split at h
  ·rename_i p l' h1 h2
   simp at h; subst h
   intro q hq
   rcases Vp.1 hq with rfl | hq
   ·exact ⟨p,by simp,h1⟩
   ·obtain ⟨p',hp',e⟩:=ih h2 q hq
    exact ⟨p',by simp[hp'],e⟩
  ·simp at h
theorem LX {l:List (Nat × Nat)} {aps:List (Nat × Nat)} (h:vp all l=some aps):∀ q∈l,∃ ps,(∀ p∈ps,p∈aps)∧zK all q.1 q.2=some ps:=by
 induction l generalizing aps with
 | nil=>intro q hq; simp at hq
 | cons x r ih =>
  obtain ⟨i,k⟩:=x
  simp only[vp] at h
  split at h
  ·rename_i p l' h1 h2
   simp at h; subst h
   intro q hq
   rcases Vp.1 hq with rfl | hq
   ·exact ⟨p,fun x hx=>by simp[hx],h1⟩
   ·obtain ⟨p',hp',e⟩:=ih h2 q hq
    exact ⟨p',fun x hx=>by simp[hp' x hx],e⟩
  ·simp at h
theorem Oo {H:View} {x:V} {xs:List (List V)} {rd:List Nat} (h:bZ H x=some (xs,rd)):∀ id,id∈rd→∃ a b c,x=.sl id a b c:=by
 unfold bZ at h
 split at h
 ·simp at h; obtain ⟨_,rfl⟩:=h; intro id hid; simp at hid
 ·simp at h; obtain ⟨_,rfl⟩:=h; intro id hid; simp at hid
 ·simp at h; obtain ⟨_,rfl⟩:=h; intro id hid; simp at hid
 ·simp at h; obtain ⟨_,rfl⟩:=h; intro id hid; simp at hid
 ·split at h
  ·split at h
   ·simp at h
    obtain ⟨_,rfl⟩:=h
    intro id hid
    simp at hid; subst hid
    exact ⟨_,_,_,rfl⟩
   ·simp at h
  ·simp at h
 ·simp at h; obtain ⟨_,rfl⟩:=h; intro id hid; simp at hid
 ·simp at h
theorem F5 {o:Oper} {T:Env} {h h':aL} {v:V} {rd wr:List Nat} {call:Bool} {t y d:Nat} (st:dS P n all o T h v h' rd wr call) (ha:zI o=some (t,y,d)) :
  call=false∧(∀ id,id∈wr→∃ a b c,T t=.sl id a b c)∧(∀ id,id∈rd→(∃ a b c,T t=.sl id a b c)∨∃ a b c,T y=.sl id a b c)∧(h.length < h'.length→∃ a b c,v=.sl h.length a b c)∧h'.length≤h.length+1∧o.dst=some d:=by
 unfold zI at ha
 split at ha
 ·rename_i args ats d' ho hg hd
  split at ha
  ·rename_i t2 y2 hl
   simp at ha
   obtain ⟨rfl,rfl,rfl⟩:=ha
   cases st with
   | skip _=>exact ⟨rfl,fun id hid=>by simp at hid,fun id hid=>by simp at hid,fun h=>by omega,by omega,hd⟩
   | op _ hop =>
    simp only[cq,ho,hl] at hop
    have nn:∀ {v':V} {eff':bG} {rd':List Nat},some (v',bG.none,([]:List Nat))=some (v,eff',rd')→false=false∧(∀ id,id∈eff'.wr→∃ a b c,T t2=.sl id a b c)∧(∀ id,id∈rd'→(∃ a b c,T t2=.sl id a b c)∨∃ a b c,T y2=.sl id a b c)∧(h.length < (eff'.apply h).length→∃ a b c,v=.sl h.length a b c)∧(eff'.apply h).length≤h.length+1∧o.dst=some d':=by
     intro v' eff' rd' e
     simp only[Vb,Ve] at e
     obtain ⟨_,rfl,rfl⟩:=e
     exact ⟨rfl,fun id hid=>by simp[bG.wr] at hid,fun id hid=>by simp at hid,fun h=>by simp[bG.apply] at h,by simp[bG.apply],hd⟩
    split at hop
    ·unfold mY at hop
     split at hop
     ·rename_i e xs rd' _ hel
      have hrd:=Oo hel
      split at hop
      ·simp at hop
      ·split at hop
       ·split at hop <;> first | exact nn hop | simp at hop
       ·split at hop
        ·simp at hop
        ·split at hop
         ·split at hop
          ·simp only[Vb,Ve] at hop
           obtain ⟨rfl,rfl,rfl⟩:=hop
           exact ⟨rfl,fun id hid=>by simp[bG.wr] at hid,fun id hid=>.inr (hrd id hid),fun _=>⟨_,_,_,rfl⟩,by simp[bG.apply],hd⟩
          ·simp at hop
         ·rename_i id off len esz hx
          split at hop
          ·split at hop
           ·simp only[Vb,Ve] at hop
            obtain ⟨rfl,rfl,rfl⟩:=hop
            refine ⟨rfl,fun id' hid=>?_,fun id' hid=>?_,fun _=>⟨_,_,_,rfl⟩,by simp[bG.apply],hd⟩
            ·simp[bG.wr] at hid; subst hid
             exact ⟨off,len,esz,hx⟩
            ·rcases Vp.1 hid with rfl | hid
             ·exact .inl ⟨off,len,esz,hx⟩
             ·exact .inr (hrd id' hid)
           ·simp at hop
          ·simp at hop
         ·simp at hop
     ·simp at hop
    ·split at hop
     ·unfold xf at hop
      split at hop
      ·split at hop
       ·split at hop
        ·exact nn hop
        ·split at hop
         ·simp only[Vb,Ve] at hop
          obtain ⟨rfl,rfl,rfl⟩:=hop
          exact ⟨rfl,fun id hid=>by simp[bG.wr] at hid,fun id hid=>by simp at hid,fun _=>⟨_,_,_,rfl⟩,by simp[bG.apply],hd⟩
         ·simp at hop
       ·simp at hop
      ·simp at hop
     ·simp at hop
   | jt _ ho' _=>rw[ho] at ho'; simp at ho'
   | gp _ ho' _ _ _ _=>rw[ho] at ho'; simp at ho'
   | call _ ho' _ _ _ _ _=>rw[ho] at ho'; simp at ho'
  ·simp at ha
 ·simp at ha
theorem Ow {T T':Env} {h h':aL} {recs:List Rec} (tr:Tr P n all all T h recs T' h') {i:Nat} {o:Oper} (ho:all[i]?=some o) {r:Rec} (hr:recs[i]?=some r) :
  ∃ T1 h1 v h2,dS P n all o T1 h1 v h2 r.rd r.wr r.call∧r.lo=h1.length∧r.hi=h2.length∧(∀ t,stays all i t=true→T1 t=T' t)∧∀ d,o.dst=some d→stays all (i+1) d=true→T' d=v:=by
 obtain ⟨T1,h1,v,h2,rd,wr,call,recs2,e1,e2,e3,e4,e5,e6⟩:=tr.at_ i o ho
 rw[hr] at e1
 have e1:=Xm e1
 subst e1
 refine ⟨T1,h1,v,h2,e2,rfl,rfl,fun t hs=>?_,fun d hd hs=>?_⟩
 ·have hk:=wD hs
  have hi:i < all.length:=(Vn.1 ho).1
  have ho':all[i]=o:=(Vn.1 ho).2
  rw[VT hi,ho'] at hk
  rw[e4.keep fun o' ho'=>hk o' (by simp[ho'])]
  have:=hk o (by simp)
  cases hdst:o.dst with
  | none=>rfl
  | some d=>simp only[Env.put]; rw[Va]; rintro rfl; exact this hdst
 ·rw[e4.keep (wD hs),hd]
  simp[Env.put]
theorem y0 {i a b c j d e f:Nat} (h:jj (.sl i a b c) (.sl j d e f)):i≠j:=h
theorem K5 {T T':Env} {h h':aL} {recs:List Rec} (tr:Tr P n all all T h recs T' h') {i k:Nat} {a b:Rec} {ps:List (Nat × Nat)} (hp:DZ all i k=some ps) (hA:∀ p∈ps,jj (T' p.1) (T' p.2)) (ha:recs[i]?=some a) (hb:recs[k]?=some b):oM a b:=by
 unfold DZ at hp
 split at hp
 ·rename_i oa ob hoa hob
  split at hp
  ·rename_i t y d t' y' d' h1 h2
   split at hp
   ·rename_i hst
    simp only[Vm] at hst
    obtain ⟨⟨⟨⟨s1,s2⟩,s3⟩,s4⟩,s5⟩:=hst
    simp at hp; subst hp
    have a1:=hA (t,t') (by simp)
    have a2:=hA (t,y') (by simp)
    have a3:=hA (t',y) (by simp)
    have a4:=hA (d,t') (by simp)
    simp only at a1 a2 a3 a4
    obtain ⟨Ta,ha1,va,ha2,sa,la1,la2,ea,da⟩:=Ow tr hoa ha
    obtain ⟨Tb,hb1,vb,hb2,sb,_,_,eb,_⟩:=Ow tr hob hb
    obtain ⟨p1,p2,p3,p4,p5,p6⟩:=F5 sa h1
    obtain ⟨q1,q2,q3,_⟩:=F5 sb h2
    have da:=da d p6 s3
    rw[← ea t s1,← eb t' s4] at a1
    rw[← ea t s1,← eb y' s5] at a2
    rw[← eb t' s4,← ea y s2] at a3
    rw[da,← eb t' s4] at a4
    refine ⟨fun id hid hr=>?_,fun id hid hr=>?_,fun hc=>by rw[p1] at hc; simp at hc,fun hc=>by rw[q1] at hc; simp at hc,fun id hid hx=>?_⟩
    ·obtain ⟨_,_,_,e⟩:=p2 id hid
     rcases q3 id hr with ⟨_,_,_,e'⟩ | ⟨_,_,_,e'⟩
     ·rw[e,e'] at a1; exact y0 a1 rfl
     ·rw[e,e'] at a2; exact y0 a2 rfl
    ·obtain ⟨_,_,_,e⟩:=q2 id hid
     rcases p3 id hr with ⟨_,_,_,e'⟩ | ⟨_,_,_,e'⟩
     ·rw[e',e] at a1; exact y0 a1 rfl
     ·rw[e,e'] at a3; exact y0 a3 rfl
    ·obtain ⟨_,_,_,e⟩:=q2 id hid
     obtain ⟨_,_,_,e'⟩:=p4 (by omega)
     have:id=ha1.length:=by omega
     subst this
     rw[e,e'] at a4; exact y0 a4 rfl
   ·simp at hp
  ·simp at hp
 ·simp at hp
theorem KO {T T':Env} {h h':aL} {recs:List Rec} (tr:Tr P n all all T h recs T' h') {i k:Nat} {a b:Rec} {ps:List (Nat × Nat)} (hp:zK all i k=some ps) (hA:∀ p∈ps,jj (T' p.1) (T' p.2)) (ha:recs[i]?=some a) (hb:recs[k]?=some b):oM a b:=by
 unfold zK at hp
 split at hp
 ·rename_i p h1
  simp at hp; subst hp
  exact LF tr h1 (hA p (by simp)) ha hb
 ·exact K5 tr hp hA ha hb
theorem Qa {ls:List Nat} {recs:List Rec} {T T':Env} {hp hp':aL} {aps:List (Nat × Nat)} (tr:Tr P n all all T hp recs T' hp') (h:CO all (kZ all ls)=some aps) (hA:∀ p∈aps,jj (T' p.1) (T' p.2)) (hl:ls.length=recs.length)
  (hr:∀ (i x:Nat) (r:Rec),ls[i]?=some x→recs[i]?=some r→kO x r.rd r.wr r.call r.lo r.hi):uv all recs:=by
 intro i k a b hik ha hb ho
 have hi:i < recs.length:=(Vn.1 ha).1
 have hk:k < recs.length:=(Vn.1 hb).1
 have la:=hr i _ a (U9 (by omega)) ha
 have lb:=hr k _ b (U9 (by omega)) hb
 have mi:(ls[i]'(by omega),i)∈ls.zipIdx:=by rw[Wb]; simp[U9 (show i < ls.length by omega)]
 have mk:(ls[k]'(by omega),k)∈ls.zipIdx:=by rw[Wb]; simp[U9 (show k < ls.length by omega)]
 by_cases h1:yK all (ls[i]'(by omega)) i (ls[k]'(by omega)) k=true
 ·unfold yK at h1
  simp only[hik,decide_true,Xf,ho,Xn,V7,Wd,Vm,Vo] at h1
  rcases h1 with ((h1 | h1) | h1) | h1
  ·obtain ⟨e1,e2,e3,e4⟩:=la.1 h1
   exact ⟨fun id hid=>by simp[e2] at hid,fun id _=>by simp[e1],fun hc=>by simp[e3] at hc,fun _=>e2,fun id _ hx=>by omega⟩
  ·obtain ⟨e1,e2,e3,e4⟩:=lb.1 h1
   exact ⟨fun id _=>by simp[e1],fun id hid=>by simp[e2] at hid,fun _=>e2,fun hc=>by simp[e3] at hc,fun id hid=>by simp[e2] at hid⟩
  ·have e1:=la.2 h1.1
   have e2:=lb.2 h1.2
   exact ⟨fun id hid=>by simp[e1] at hid,fun id hid=>by simp[e2] at hid,fun _=>e2,fun _=>e1,fun id hid=>by simp[e2] at hid⟩
  ·exact xq tr h1 ha hb
 ·have hm:(i,k)∈kZ all ls:=by
   unfold kZ
   rw[List.mem_flatMap]
   refine ⟨_,mi,?_⟩
   rw[Wm]
   exact ⟨_,mk,by simp only; rw[Va h1]⟩
  obtain ⟨p,hp,e⟩:=Mq h (i,k) hm
  exact Mr tr e (hA p hp) ha hb
theorem Ed {P:Program} {t:TypeId} {id:Nat} {q:V} {ok:Bool} {H1 H2:View} (h:H1 id=H2 id):fP P t (.mp id) q ok H1=fP P t (.mp id) q ok H2:=by
 unfold fP
 simp only[h]
theorem La {P:Program} {t:TypeId} {id:Nat} {q:V} {H1 H2:View} (h:H1 id=H2 id):ey P t (.mp id) q H1=ey P t (.mp id) q H2:=by
 cases hm:dB P t with
 | none=>simp only[ey,hm]
 | some x=>simp only[ey,hm,h]
theorem P3 {P:Program} {t:TypeId} {id:Nat} {q:V} {H:View} {v:V} {eff:bG} {rd:List Nat} (h:fP P t (.mp id) q false H=some (v,eff,rd)):eff=.none∧rd=[id]:=by
 simp only[fP,VA,if_false] at h
 repeat' (first | (simp only[Vb,Ve] at h; exact ⟨h.2.1.symm,h.2.2.symm⟩) | (split at h) | (simp at h; done))
theorem MO {P:Program} {t:TypeId} {id:Nat} {q:V} {H:View} {v:V} {eff:bG} {rd:List Nat} (h:ey P t (.mp id) q H=some (v,eff,rd)):∃ obj,eff=.fj id obj:=by
 cases hm:dB P t with
 | none=>simp[ey,hm] at h
 | some x =>
  simp only[ey,hm] at h
  repeat' (first | (simp only[Vb,Ve] at h; exact ⟨_,h.2.1.symm⟩) | (split at h) | (simp at h; done))
theorem F9 {o:Oper} {T:Env} {h h':aL} {v:V} {rd wr:List Nat} {call:Bool} (st:dS P n all o T h v h' rd wr call) (hg:dE n all T o=some true) (hb:∀ e x,o.op≠.box e x) (hc:∀ s d x,o.op≠.convert s d x) (hl:∀ c,o.op≠.call c) :
  ∃ eff,cq P o T h.view h.length=some (v,eff,rd)∧h'=eff.apply h∧wr=eff.wr∧call=false:=by
 cases st with
 | skip hs=>rw[hg] at hs; simp at hs
 | op _ hop=>exact ⟨_,hop,rfl,rfl,rfl⟩
 | jt _ ho _=>exact absurd ho (hb _ _)
 | gp _ ho _ _ _ _=>exact absurd ho (hc _ _ _)
 | call _ ho _ _ _ _ _=>exact absurd ho (hl _)
theorem RF {recs:List Rec} {Ts:Nat→Env} {hs:Nat→aL} {vs:Nat→V} (hst:Bt P n all recs Ts hs vs) (hl:recs.length=all.length) {k:Nat} (hk:k≤all.length) (hw:∀ j r,j < k→recs[j]?=some r→r.wr=[]) :
  ∀ j,j≤k→(hs 0).length≤(hs j).length∧∀ id,id < (hs 0).length→(hs j).view id=(hs 0).view id:=by
 intro j
 induction j with
 | zero=>intro _; exact ⟨Vj _,fun _ _=>rfl⟩
 | succ j ih =>
  intro hj
  obtain ⟨l1,l2⟩:=ih (by omega)
  obtain ⟨st,_,_,_,_⟩:=hst j all[j] (recs[j]'(by omega)) (U9 (by omega)) (U9 (by omega))
  refine ⟨V1 l1 (uc st),fun id hid=>?_⟩
  rw[r5 st (VH hid l1) (by rw[hw j _ (by omega) (U9 (by omega))]; simp)]
  exact l2 id hid
theorem pV {recs:List Rec} {Ts:Nat→Env} {hs:Nat→aL} {vs:Nat→V} (hst:Bt P n all recs Ts hs vs) (hl:recs.length=all.length) {i t:Nat} (h:stays all i t=true):∀ j,i≤j→j≤all.length→Ts j t=Ts i t:=by
 intro j hij hj
 refine zH (vs:=vs) (N:=all.length) (fun k o hk=>?_) rfl i j hij hj fun k o h1 h2 h3=>wD h o (by
  rw[List.mem_iff_getElem?]
  exact ⟨k - i,by rw[Xj,show i+(k - i)=k by omega]; exact h3⟩)
 have hk':k < all.length:=(Vn.1 hk).1
 exact (hst k o (recs[k]'(by omega)) hk (U9 (by omega))).2.2.1
theorem GV {ls:List Nat} {recs:List Rec} {T T':Env} {hp hp':aL} {aps:List (Nat × Nat)} {tp:Option (Nat × Nat)} (tr:Tr P n all all T hp recs T' hp') (h:vp all (F0 all ls tp)=some aps) (hA:∀ p∈aps,jj (T' p.1) (T' p.2)) (hl:ls.length=recs.length)
  (hr:∀ (i x:Nat) (r:Rec),ls[i]?=some x→recs[i]?=some r→kO x r.rd r.wr r.call r.lo r.hi) (htol:∀ p,tp=some p→∃ tol,FU all ls p.1 p.2=some tol∧LU P tol.1 (T' tol.2.1) (T' tol.2.2) hp.view):Lr P n all recs T T' hp:=by
 have main:∀ i k a b,i < k→recs[i]?=some a→recs[k]?=some b→ordered (fN all []) i k=false→tp≠some (i,k)→oM a b:=by
  intro i k a b hik ha hb ho hne
  have hi:i < recs.length:=(Vn.1 ha).1
  have hk:k < recs.length:=(Vn.1 hb).1
  have la:=hr i _ a (U9 (by omega)) ha
  have lb:=hr k _ b (U9 (by omega)) hb
  have mi:(ls[i]'(by omega),i)∈ls.zipIdx:=by rw[Wb]; simp[U9 (show i < ls.length by omega)]
  have mk:(ls[k]'(by omega),k)∈ls.zipIdx:=by rw[Wb]; simp[U9 (show k < ls.length by omega)]
  by_cases h1:yK all (ls[i]'(by omega)) i (ls[k]'(by omega)) k=true
  ·unfold yK at h1
   simp only[hik,decide_true,Xf,ho,Xn,V7,Wd,Vm,Vo] at h1
   rcases h1 with ((h1 | h1) | h1) | h1
   ·obtain ⟨e1,e2,e3,e4⟩:=la.1 h1
    exact ⟨fun id hid=>by simp[e2] at hid,fun id _=>by simp[e1],fun hc=>by simp[e3] at hc,fun _=>e2,fun id _ hx=>by omega⟩
   ·obtain ⟨e1,e2,e3,e4⟩:=lb.1 h1
    exact ⟨fun id _=>by simp[e1],fun id hid=>by simp[e2] at hid,fun _=>e2,fun hc=>by simp[e3] at hc,fun id hid=>by simp[e2] at hid⟩
   ·have e1:=la.2 h1.1
    have e2:=lb.2 h1.2
    exact ⟨fun id hid=>by simp[e1] at hid,fun id hid=>by simp[e2] at hid,fun _=>e2,fun _=>e1,fun id hid=>by simp[e2] at hid⟩
   ·exact xq tr h1 ha hb
  ·have hm:(i,k)∈kZ all ls:=by
    unfold kZ
    rw[List.mem_flatMap]
    refine ⟨_,mi,?_⟩
    rw[Wm]
    exact ⟨_,mk,by simp only; rw[Va h1]⟩
   by_cases hn:newAt all k=true
   ·unfold newAt at hn
    split at hn
    ·rename_i ob hob
     obtain ⟨T1,h1',v,h2,rd,wr,call,recs2,e1,e2,_⟩:=tr.at_ k ob hob
     rw[hb] at e1
     have e1:=Xm e1
     subst e1
     obtain ⟨n1,n2,n3⟩:=AQ e2 hn
     exact ⟨fun id _=>by simp[n1],fun id hid=>by simp[n2] at hid,fun _=>n2,fun hc=>by simp[n3] at hc,fun id hid=>by simp[n2] at hid⟩
    ·simp at hn
   ·obtain ⟨p,hp,e⟩:=LX h (i,k) (by
     unfold F0
     rw[VX]
     refine ⟨hm,?_⟩
     simp only[Vm,Xo,bne_iff_ne,ne_eq]
     exact ⟨by simpa using hn,hne⟩)
    exact KO tr e (fun q hq=>hA q (hp q hq)) ha hb
 cases tp with
 | none=>exact uv.T0 fun i k a b h1 h2 h3 h4=>main i k a b h1 h2 h3 h4 (by simp)
 | some p =>
  obtain ⟨i0,k0⟩:=p
  obtain ⟨tol,hto,htv⟩:=htol _ rfl
  intro Ts hs vs eT0 eh0 eTN hrl hst i
  by_cases hi:i=i0
  ·subst hi
   refine ⟨some k0,fun k a b h1 h2 h3 h4 h5=>main i k a b h1 h2 h3 h4 (fun e=>h5 (by simp at e; rw[e])),fun k a b o hk ha hb ho=>?_⟩
   simp at hk; subst hk
   unfold FU at hto
   simp only at hto
   split at hto
   ·rename_i oa ob hoa hob
    rw[ho] at hoa
    have hoa:=Xm hoa
    subst hoa
    split at hto
    ·rename_i t m q t' m' q' hop1 hop2 hg1 hg2
     split at hto
     ·rename_i hcond
      simp only[Vm,Wd,Vo,VK,V5] at hcond
      obtain ⟨⟨⟨⟨⟨⟨⟨⟨rfl,rfl⟩,rfl⟩,s1⟩,s2⟩,s3⟩,s4⟩,hik⟩,hloud⟩:=hcond
      simp only[Vb] at hto
      subst hto
      simp only at htv
      have hkl:k0 < all.length:=(Vn.1 hob).1
      have hwr:∀ j r,j < k0→recs[j]?=some r→r.wr=[]:=fun j r hj hrj=>by
       have h1:=hloud j hj
       have hj':j < ls.length:=by omega
       rw[U8,U9 hj'] at h1
       exact (hr j _ r (U9 hj') hrj).2 h1
      have hsame:=RF hst hrl (Nat.le_of_lt hkl) hwr
      have em:∀ j,i≤j→j≤all.length→Ts j m=T' m:=fun j h1 h2=>by
       rw[← eTN,pV hst hrl s1 j h1 h2,pV hst hrl s1 all.length (by omega) (Vj _)]
      have eq:∀ j,i≤j→j≤all.length→Ts j q=T' q:=fun j h1 h2=>by
       rw[← eTN,pV hst hrl s2 j h1 h2,pV hst hrl s2 all.length (by omega) (Vj _)]
      obtain ⟨sti,_,_,hlo,hhi⟩:=hst i o a ho ha
      obtain ⟨stk,_,_,_,_⟩:=hst k0 ob b hob hb
      have gi:dE n all (Ts i) o=some true:=by unfold dE; rw[hg1]
      have gk:dE n all (Ts k0) ob=some true:=by unfold dE; rw[hg2]
      unfold LU at htv
      split at htv
      ·rename_i id hid
       obtain ⟨⟨es0,c0,hmap⟩,htv⟩:=htv
       have hidl:id < hp.length:=iA (by rw[hmap]; simp)
       have hvk:(hs k0).view id=hp.view id:=by rw[(hsame k0 (Vj _)).2 id (by rw[eh0]; exact hidl),eh0]
       have hvi:(hs i).view id=hp.view id:=by rw[(hsame i (Nat.le_of_lt hik)).2 id (by rw[eh0]; exact hidl),eh0]
       obtain ⟨effi,hopi,hi',wri,cai⟩:=F9 sti gi (by rw[hop1]; simp) (by rw[hop1]; simp) (by rw[hop1]; simp)
       obtain ⟨effk,hopk,hk',wrk,cak⟩:=F9 stk gk (by rw[hop2]; simp) (by rw[hop2]; simp) (by rw[hop2]; simp)
       simp only[cq,hop1] at hopi
       simp only[cq,hop2] at hopk
       have e1:ev (Ts i) (.tmp m)=.mp id:=(em i (Vj _) (by omega)).trans hid
       have e2:ev (Ts i) (.tmp q)=T' q:=eq i (Vj _) (by omega)
       have e3:ev (Ts k0) (.tmp m)=.mp id:=(em k0 (by omega) (by omega)).trans hid
       have e4:ev (Ts k0) (.tmp q)=T' q:=eq k0 (by omega) (by omega)
       rw[e1,e2] at hopi
       rw[e3,e4,La hvk] at hopk
       obtain ⟨l1,l2⟩:=P3 hopi
       obtain ⟨obj,l3⟩:=MO hopk
       subst l1 l3
       have hkb:(hs (k0+1)).view id=obj:=by
        rw[hk',lC (fun id' hid'=>by
         simp only[bG.wr,VY] at hid'
         subst hid'
         rw[hvk,hmap]; simp)]
        simp[bG.view,View.set]
       refine ⟨hik,wri,cai,by rw[hlo,hhi,hi']; rfl,fun g hg hgv=>?_⟩
       have hidi:id < (hs i).length:=iA (by rw[hvi,hmap]; simp)
       have hgid:g.view id=(hp.view.set id obj) id:=by
        rw[hgv id hidi,wrk,Vd (by simp[bG.wr]),hkb]
        simp[View.set]
       have hlk:=htv _ _ _ hopk
       have hfin:cq P o (Ts i) g.view g.length=some (vs i,.none,a.rd):=by
        simp only[cq,hop1]
        rw[e1,e2,Ed hgid,hlk,← Ed hvi]
        exact hopi
       exact .op gi hfin
      ·exact htv.elim
     ·simp at hto
    ·simp at hto
   ·simp at hto
  ·exact ⟨none,fun k a b h1 h2 h3 h4 _=>main i k a b h1 h2 h3 h4 (fun e=>hi (by simp at e; exact e.1.symm)),fun k a b o h1=>by simp at h1⟩
theorem Qb (hm:P.follows .mixedOrders=true) {fz:Fz} {id:Nat} {ops:Array Oper} {sc:SC} {T:Env} {h:aL} {Q:Exit→Env→View→Prop} (hc:BF P n fz ops.toList=some sc) (hw:wS P sc T h.view Q) :
  ∃ e T' h',dc P n (.region id ops true) T h e T' h'∧(jk h h'∧h.length≤h'.length)∧Q e T' h'.view:=by
 unfold BF at hc
 split at hc
 ·simp at hc
 ·rename_i l hl
  split at hc
  ·simp at hc
  ·rename_i hok
   have hok:(group l).all tY=true:=by simpa using hok
   have hl':dM P n ops.toList fz ops.toList=some (ki (group l)):=by rw[gF]; exact hl
   split at hc
   ·rename_i ht
    simp only[Vk] at hc
    obtain ⟨aps,hap,rfl⟩:=hc
    obtain ⟨recs,T',h',tr,hst,hk,hro⟩:=yJ (group l) ops.toList T h hl' hok hw
    rw[gF] at hro
    refine ⟨.normal,T',h',?_,hst,hk.rest⟩
    have hcf:uv ops.toList recs:=Qa tr hap (A4 hk) (by simpa using hro.1) (fun i x r hx hr=>by
     simp only[Vc,Vk] at hx
     obtain ⟨s,hs,rfl⟩:=hx
     exact hro.2 i s r hs hr)
    simpa using zi hm (id:=id) tr ht hcf
   ·simp at hc
theorem QN (hm:P.follows .mixedOrders=true) {fz:Fz} {id:Nat} {ops:Array Oper} {sc:SC} {T:Env} {h:aL} {Q:Exit→Env→View→Prop} (hc:BM P n fz ops.toList=some sc) (hw:wS P sc T h.view Q) :
  ∃ e T' h',dc P n (.region id ops true) T h e T' h'∧(jk h h'∧h.length≤h'.length)∧Q e T' h'.view:=by
 unfold BM at hc
 split at hc
 ·simp at hc
 ·rename_i l hl
  split at hc
  ·simp at hc
  ·rename_i hok
   have hok:(group l).all tY=true:=by simpa using hok
   have hl':dM P n ops.toList fz ops.toList=some (ki (group l)):=by rw[gF]; exact hl
   split at hc
   ·rename_i ht
    split at hc
    ·simp only[Vk] at hc
     obtain ⟨aps,hap,rfl⟩:=hc
     obtain ⟨recs,T',h',tr,hst,hk,hro⟩:=yJ (group l) ops.toList T h hl' hok hw
     rw[gF] at hro
     refine ⟨.normal,T',h',?_,hst,hk.rest⟩
     have hcf:=GV tr hap (A4 hk) (by simpa using hro.1) (fun i x r hx hr=>by
      simp only[Vc,Vk] at hx
      obtain ⟨s,hs,rfl⟩:=hx
      exact hro.2 i s r hs hr) (fun p hp=>by simp at hp)
     simpa using v8 hm (id:=id) tr ht hcf
    ·rename_i p hp
     split at hc
     ·rename_i tol hto
      simp only[Vk] at hc
      obtain ⟨aps,hap,rfl⟩:=hc
      obtain ⟨recs,T',h',tr,hst,hk,hro⟩:=yJ (group l) ops.toList T h hl' hok hw
      rw[gF] at hro
      refine ⟨.normal,T',h',?_,hst,hk.2.rest⟩
      have hcf:=GV tr hap (A4 hk.2) (by simpa using hro.1) (fun i x r hx hr=>by
       simp only[Vc,Vk] at hx
       obtain ⟨s,hs,rfl⟩:=hx
       exact hro.2 i s r hs hr) (fun p' hp'=>by
        simp only[Vb] at hp'
        subst hp'
        exact ⟨tol,hto,hk.1⟩)
      simpa using v8 hm (id:=id) tr ht hcf
     ·simp at hc
   ·simp at hc
theorem sW (hm:P.follows .mixedOrders=true) {fz:Fz} {id:Nat} {ops:Array Oper} {draw quiet:Bool} {sc:SC} {T:Env} {h:aL} {Q:Exit→Env→View→Prop} (hc:rT P n fz ops.toList draw quiet=some sc) (hw:wS P sc T h.view Q) :
  ∃ e T' h',dc P n (.region id ops draw) T h e T' h'∧(jk h h'∧h.length≤h'.length)∧Q e T' h'.view:=by
 unfold rT at hc
 split at hc
 ·simp at hc
 ·rename_i l hl
  split at hc
  ·simp at hc
  ·rename_i hok
   have hok:(group l).all tY=true:=by simpa using hok
   have hl':dM P n ops.toList fz ops.toList=some (ki (group l)):=by rw[gF]; exact hl
   have key:xP P quiet (group l) T h.view (Q .normal)→(draw=true→ma ops.toList=true∧FZ ops.toList (l.map fun s=>jf P quiet s.b)=true) →
     ∃ e T' h',dc P n (.region id ops draw) T h e T' h'∧(jk h h'∧h.length≤h'.length)∧Q e T' h'.view:=by
    intro hw hdr
    obtain ⟨recs,T',h',tr,hst,hk,hro⟩:=yJ (group l) ops.toList T h hl' hok hw
    rw[gF] at hro
    refine ⟨.normal,T',h',?_,hst,hk⟩
    cases hd:draw with
    | false=>simpa using G6 (id:=id) tr
    | true =>
     obtain ⟨h1,h2⟩:=hdr hd
     have hcf:uv ops.toList recs:=PR tr h2 (by simpa using hro.1) (fun i x r hx hr=>by
      simp only[Vc,Vk] at hx
      obtain ⟨s,hs,rfl⟩:=hx
      exact hro.2 i s r hs hr)
     simpa using zi hm (id:=id) tr h1 hcf
   split at hc
   ·rename_i hd
    split at hc
    ·rename_i ht
     simp at hc; subst hc
     exact key hw (fun _=>by simpa using ht)
    ·simp at hc
   ·rename_i hd
    simp at hc; subst hc
    exact key hw (fun e=>absurd e hd)
theorem fp {a b:Option SC} {sc:SC} (h:orElse' a b=some sc):a=some sc∨b=some sc:=by
 cases a with
 | none=>exact .inr h
 | some x=>exact .inl h
theorem MG (hm:P.follows .mixedOrders=true) {fz:List Nat} {id:Nat} {ops:Array Oper} {draw:Bool} {sc:SC} {T:Env} {h:aL} {Q:Exit→Env→View→Prop} (hc:B7 P n fz ops.toList draw=some sc) (hw:wS P sc T h.view Q) :
  ∃ e T' h',dc P n (.region id ops draw) T h e T' h'∧(jk h h'∧h.length≤h'.length)∧Q e T' h'.view:=by
 unfold B7 at hc
 rcases fp hc with h1 | h1
 ·exact sW hm h1 hw
 ·clear hc
  split at h1
  ·rename_i hd
   subst hd
   rcases fp h1 with h0 | h1
   ·split at h0
    ·exact QN hm h0 hw
    ·simp at h0
   rcases fp h1 with h0 | h1
   ·split at h0
    ·exact sW hm h0 hw
    ·simp at h0
   rcases fp h1 with h2 | h2
   ·exact Qb hm h2 hw
   ·rcases fp h2 with h3 | h3
    ·exact sW hm h3 hw
    ·rcases fp h3 with h4 | h4
     ·exact sW hm h4 hw
     ·exact sW hm h4 hw
  ·simp at h1
theorem E5 {e:Exit} {a b:Prop} (h:Au e a b):(e=.normal∧a)∨(e≠.normal∧b):=by
 cases e with
 | normal=>exact .inl ⟨rfl,h⟩
 | _=>exact .inr ⟨by simp,h⟩
def rS (P:Program) (n:Nat) (fz:List Nat) (c:Code):Prop:=∀ sc:SC,dt P n fz c=some sc→∀ (T:Env) (h:aL) (Q:Exit→Env→View→Prop),wS P sc T h.view Q →
 ∃ e T' h',dc P n c T h e T' h'∧(jk h h'∧h.length≤h'.length)∧Q e T' h'.view
theorem EG {fz:List Nat} : rS P n fz .skip:=by
 intro sc hc T h Q hw; simp[dt] at hc; subst hc; exact ⟨_,T,h,.skip,⟨.refl _,Vj _⟩,hw⟩
theorem Hs {fz:List Nat} {x y:Code} (ihx:rS P n fz x) (ihy:rS P n fz y):rS P n fz (.seq x y):=by
 intro sc hc T h Q hw
 simp only[dt] at hc
 split at hc
 ·rename_i a b h1 h2
  simp at hc; subst hc
  simp only[wS] at hw
  obtain ⟨e,T1,h1',hx,st1,hq⟩:=ihx a h1 T h _ hw
  rcases E5 hq with ⟨rfl,hq⟩ | ⟨hne,hq⟩
  ·obtain ⟨e2,T2,h2',hy,st2,hq2⟩:=ihy b h2 T1 h1' _ hq
   exact ⟨e2,T2,h2',hx.seq hy,⟨st1.1.trans st2.1 st1.2,V1 st1.2 st2.2⟩,hq2⟩
  ·exact ⟨e,T1,h1',hx.KD hne,st1,hq⟩
 ·simp at hc
theorem oL {fz:Fz} {ops:List Oper} {draw quiet:Bool} {sc:SC} (h:rT P n fz ops draw quiet=some sc) (l:Nat):oG sc l=none:=by
 unfold rT at h
 repeat' (first | (simp only[Vb] at h; subst h; rfl) | (split at h) | (simp at h; done))
theorem Lz {fz:Fz} {ops:List Oper} {sc:SC} (h:BF P n fz ops=some sc) (l:Nat):oG sc l=none:=by
 unfold BF at h
 repeat' (first | (simp only[Vk] at h; obtain ⟨_,_,rfl⟩:=h; rfl) | (split at h) | (simp at h; done))
theorem Ma {fz:Fz} {ops:List Oper} {sc:SC} (h:BM P n fz ops=some sc) (l:Nat):oG sc l=none:=by
 unfold BM at h
 repeat' (first | (simp only[Vk] at h; obtain ⟨_,_,rfl⟩:=h; rfl) | (split at h) | (simp at h; done))
theorem Lg {fz:List Nat} {ops:List Oper} {draw:Bool} {sc:SC} (h:B7 P n fz ops draw=some sc) (l:Nat):oG sc l=none:=by
 unfold B7 at h
 rcases fp h with h1 | h1
 ·exact oL h1 l
 ·split at h1
  ·rcases fp h1 with h0 | h1
   ·split at h0
    ·exact Ma h0 l
    ·simp at h0
   rcases fp h1 with h0 | h1
   ·split at h0
    ·exact oL h0 l
    ·simp at h0
   rcases fp h1 with h2 | h2
   ·exact Lz h2 l
   ·rcases fp h2 with h3 | h3
    ·exact oL h3 l
    ·rcases fp h3 with h4 | h4
     ·exact oL h4 l
     ·exact oL h4 l
  ·simp at h1
theorem Pb {fz:List Nat} : ∀ (c:Code) (sc:SC),dt P n fz c=some sc→∀ l,match findLabel c l with
  | some rest=>∃ r,oG sc l=some r∧dt P n fz rest=some r
  | none=>oG sc l=none:=by
 intro c
 induction c with
 | seq x y ihx ihy =>
  intro sc hc l
  simp only[dt] at hc
  split at hc
  ·rename_i a b h1 h2
   simp at hc; subst hc
   have hx:=ihx a h1 l
   have hy:=ihy b h2 l
   simp only[findLabel,oG]
   cases h3:findLabel x l with
   | some rx =>
    rw[h3] at hx
    obtain ⟨r,e1,e2⟩:=hx
    exact ⟨.seq r b,by rw[e1],by simp only[dt,e2,h2]⟩
   | none =>
    rw[h3] at hx
    simp only at hx ⊢
    rw[hx]
    exact hy
  ·simp at hc
 | label l' =>
  intro sc hc l
  simp[dt] at hc; subst hc
  simp only[findLabel,oG]
  by_cases e:(l' == l)=true
  ·rw[Vd e]; exact ⟨.skip,by rw[Vd e],by simp[dt]⟩
  ·rw[Va e]; simp only; rw[Va e]
 | region id ops draw=>intro sc hc l; simp only[dt] at hc; simp only[findLabel]; exact Lg hc l
 | cond x y z _ _ =>
  intro sc hc l
  simp only[dt] at hc
  split at hc
  ·simp at hc; subst hc; rfl
  ·simp at hc
 | block id c _=>intro sc hc l; simp only[dt,Vk] at hc; obtain ⟨_,_,rfl⟩:=hc; rfl
 | loop c _=>intro sc hc l; simp only[dt,Vk] at hc; obtain ⟨_,_,rfl⟩:=hc; rfl
 | scope c _ =>
  intro sc hc l
  simp only[dt] at hc
  split at hc
  ·split at hc
   ·simp only[Vk] at hc; obtain ⟨_,_,rfl⟩:=hc; rfl
   ·simp at hc
  ·simp at hc
 | skip=>intro sc hc l; simp[dt] at hc; subst hc; rfl
 | exit id=>intro sc hc l; simp[dt] at hc; subst hc; rfl
 | ret=>intro sc hc l; simp[dt] at hc; subst hc; rfl
 | goto l'=>intro sc hc l; simp[dt] at hc; subst hc; rfl
 | _=>intro sc hc; simp[dt] at hc
theorem KW {fz:List Nat} {c:Code} (h0:rS P n fz c) (hr:∀ l rest,findLabel c l=some rest→rS P n fz rest):rS P n fz (.scope c):=by
 intro sc hc T h Q hw
 simp only[dt] at hc
 split at hc
 ·rename_i a h1
  split at hc
  ·rename_i l h2
   simp only[Vk] at hc
   obtain ⟨r,h3,rfl⟩:=hc
   have hf:=Pb c a h1 l
   cases h4:findLabel c l with
   | none=>rw[h4] at hf; simp only at hf; rw[hf] at h3; simp at h3
   | some rest =>
    rw[h4] at hf
    obtain ⟨r',e1,e2⟩:=hf
    rw[h3] at e1
    have e1:=Xm e1
    subst e1
    simp only[wS] at hw
    obtain ⟨I,K,hw1,hw2⟩:=hw
    have go:∀ k T (h:aL),I k T h.view→∃ e T' h',rK P n c rest T h e T' h'∧(jk h h'∧h.length≤h'.length)∧Q e T' h'.view:=by
     intro k
     induction k using Nat.strongRecOn with
     | ind k ihk =>
      intro T h hI
      obtain ⟨e,T1,h1',hx,st1,hq⟩:=hr l rest h4 r e2 T h _ (hw2 k T h.view hI)
      cases e with
      | goto l' =>
       obtain ⟨rfl,k',hlt,hI'⟩:=hq
       obtain ⟨e2,T2,h2',hy,st2,hq2⟩:=ihk k' hlt T1 h1' hI'
       exact ⟨e2,T2,h2',rK.jump hx h4 hy,⟨st1.1.trans st2.1 st1.2,V1 st1.2 st2.2⟩,hq2⟩
      | _=>exact ⟨_,T1,h1',.out hx rfl,st1,hq⟩
    obtain ⟨e,T1,h1',hx,st1,hq⟩:=h0 a h1 T h _ hw1
    cases e with
    | goto l' =>
     obtain ⟨rfl,k',_,hI'⟩:=hq
     obtain ⟨e2,T2,h2',hy,st2,hq2⟩:=go k' T1 h1' hI'
     exact ⟨e2,T2,h2',.scope (rK.jump hx h4 hy),⟨st1.1.trans st2.1 st1.2,V1 st1.2 st2.2⟩,hq2⟩
    | _=>exact ⟨_,T1,h1',.scope (.out hx rfl),st1,hq⟩
  ·simp at hc
 ·simp at hc
theorem PX (hm:P.follows .mixedOrders=true) {fz:List Nat} : ∀ c:Code,rS P n fz c∧∀ l rest,findLabel c l=some rest→rS P n fz rest:=by
 intro c
 induction c with
 | skip=>exact ⟨EG,fun l rest h=>by simp[findLabel] at h⟩
 | region id ops draw=>exact ⟨fun sc hc T h Q hw=>MG hm hc hw,fun l rest h=>by simp[findLabel] at h⟩
 | seq x y ihx ihy =>
  refine ⟨Hs ihx.1 ihy.1,fun l rest h=>?_⟩
  simp only[findLabel] at h
  split at h
  ·rename_i r hr
   simp only[Vb] at h; subst h
   exact Hs (ihx.2 _ _ hr) ihy.1
  ·exact ihy.2 _ _ h
 | cond c x y ihx ihy =>
  refine ⟨?_,fun l rest h=>by simp[findLabel] at h⟩
  intro sc hc T h Q hw
  simp only[dt] at hc
  split at hc
  ·rename_i a b h1 h2
   simp at hc; subst hc
   simp only[wS] at hw
   split at hw
   ·rename_i t ht
    have hT:qg (SX.of c) t T=T:=by
     unfold qg
     split
     ·rename_i k hk
      rw[hk] at ht
      exact A6 ht
     ·rfl
    rw[SX.cO] at ht
    cases t with
    | true =>
     have:=hw.1 rfl
     rw[hT] at this
     obtain ⟨e,T',h',hx,st,hq⟩:=ihx.1 a h1 T h Q this
     exact ⟨e,T',h',.cond ht hx,st,hq⟩
    | false =>
     have:=hw.2 rfl
     rw[hT] at this
     obtain ⟨e,T',h',hx,st,hq⟩:=ihy.1 b h2 T h Q this
     exact ⟨e,T',h',.cond ht hx,st,hq⟩
   ·exact hw.elim
  ·simp at hc
 | block id c ih =>
  refine ⟨?_,fun l rest h=>by simp[findLabel] at h⟩
  intro sc hc T h Q hw
  simp only[dt,Vk] at hc
  obtain ⟨a,h1,rfl⟩:=hc
  simp only[wS] at hw
  obtain ⟨e,T',h',hx,st,hq⟩:=ih.1 a h1 T h _ hw
  exact ⟨_,T',h',hx.block,st,hq⟩
 | loop c ih =>
  refine ⟨?_,fun l rest h=>by simp[findLabel] at h⟩
  intro sc hc T h Q hw
  simp only[dt,Vk] at hc
  obtain ⟨a,h1,rfl⟩:=hc
  simp only[wS] at hw
  obtain ⟨I,⟨k,hk⟩,hstep⟩:=hw
  have go:∀ k T (h:aL),I k T h.view→∃ e T' h',pY P n c T h e T' h'∧(jk h h'∧h.length≤h'.length)∧Q e T' h'.view:=by
   intro k
   induction k using Nat.strongRecOn with
   | ind k ihk =>
    intro T h hI
    obtain ⟨e,T1,h1',hx,st1,hq⟩:=ih.1 a h1 T h _ (hstep k T h.view hI)
    rcases E5 hq with ⟨rfl,k',hlt,hI'⟩ | ⟨hne,hq⟩
    ·obtain ⟨e2,T2,h2',hy,st2,hq2⟩:=ihk k' hlt T1 h1' hI'
     exact ⟨e2,T2,h2',.step hx hy,⟨st1.1.trans st2.1 st1.2,V1 st1.2 st2.2⟩,hq2⟩
    ·exact ⟨e,T1,h1',.out hx hne,st1,hq⟩
  obtain ⟨e,T',h',hx,st,hq⟩:=go k T h hk
  exact ⟨e,T',h',.loop hx,st,hq⟩
 | exit id=>exact ⟨fun sc hc T h Q hw=>by simp[dt] at hc; subst hc; exact ⟨_,T,h,.exit,⟨.refl _,Vj _⟩,hw⟩,fun l rest h=>by simp[findLabel] at h⟩
 | ret=>exact ⟨fun sc hc T h Q hw=>by simp[dt] at hc; subst hc; exact ⟨_,T,h,.ret,⟨.refl _,Vj _⟩,hw⟩,fun l rest h=>by simp[findLabel] at h⟩
 | label l'=>exact ⟨fun sc hc T h Q hw=>by simp[dt] at hc; subst hc; exact ⟨_,T,h,.label,⟨.refl _,Vj _⟩,hw⟩,fun l rest h=>by
   simp only[findLabel] at h
   split at h
   ·simp only[Vb] at h; subst h; exact EG
   ·simp at h⟩
 | goto l'=>exact ⟨fun sc hc T h Q hw=>by simp[dt] at hc; subst hc; exact ⟨_,T,h,.goto,⟨.refl _,Vj _⟩,hw⟩,fun l rest h=>by simp[findLabel] at h⟩
 | scope c ih=>exact ⟨KW ih.1 ih.2,fun l rest h=>by simp[findLabel] at h⟩
 | _=>exact ⟨fun sc hc=>by simp[dt] at hc,fun l rest h=>by simp[findLabel] at h⟩
theorem TS (hm:P.follows .mixedOrders=true) {fz:List Nat} (c:Code) (sc:SC) (hc:dt P n fz c=some sc) (T:Env) (h:aL) (Q:Exit→Env→View→Prop) (hw:wS P sc T h.view Q) :
 ∃ e T' h',dc P n c T h e T' h'∧(jk h h'∧h.length≤h'.length)∧Q e T' h'.view:=(PX hm c).1 sc hc T h Q hw
theorem TL {T:Env} {h:aL} {r:ResultVar} {l:List SR} {rest:List ResultVar} (hc:fO P (r :: rest)=some l):∃ s l',l=s :: l'∧fO P rest=some l'∧∀ K:V→Prop,wR T h.view s K→∃ v,sr P T h r=some v∧K v:=by
 cases r with
 | tmp t =>
  simp only[fO,Vk] at hc
  obtain ⟨l',h1,rfl⟩:=hc
  exact ⟨.tmp t,l',rfl,h1,fun K hk=>⟨_,rfl,hk⟩⟩
 | cell a t =>
  simp only[fO] at hc
  split at hc
  ·rename_i k l' h1 h2
   simp at hc; subst hc
   refine ⟨.cell a k,l',rfl,h2,fun K hk=>?_⟩
   simp only[wR] at hk
   simp only[sr,mG,xh h1]
   split at hk
   ·rename_i id i j ha
    split at hk
    ·rename_i es hH
     obtain ⟨hlt,hk⟩:=hk
     obtain ⟨v,hv,hk⟩:=pS hk
     exact ⟨v,by rw[ha]; simp only[hH]; rw[Vd hlt,hv]; rfl,hk⟩
    ·exact hk.elim
   ·rename_i e j ha
    obtain ⟨v,hv,hk⟩:=pS hk
    exact ⟨v,by rw[ha]; simp only; rw[hv]; rfl,hk⟩
   ·exact hk.elim
  ·simp at hc
theorem Mj {T:Env} {h:aL} {K:List V→Prop} : ∀ (rs:List ResultVar) (l:List SR) (acc:List V),fO P rs=some l→BB T h.view l acc K→∃ vs,mo P T h rs=some vs∧K (acc ++ vs)
 | [],l,acc,hc,hw=>by simp[fO] at hc; subst hc; exact ⟨[],rfl,by simpa [BB] using hw⟩
 | r :: rest,l,acc,hc,hw=>by
  obtain ⟨s,l',rfl,h1,h2⟩:=TL (T:=T) (h:=h) hc
  simp only[BB] at hw
  obtain ⟨v,hv,hk⟩:=h2 _ hw
  obtain ⟨vs,hvs,hk⟩:=Mj rest l' (acc ++ [v]) h1 hk
  exact ⟨v :: vs,by simp[mo,hv,hvs],by simpa using hk⟩
def wF (P:Program) (F:SF) (vs:List V) (H:View) (K:V→View→Prop):Prop :=
 vs.length≤F.n∧wS P F.code (ln vs) H fun e T' H'=>(e=.ret∨e=.normal)∧BB T' H' F.res [] fun l=>K (ah l) H'
theorem aC.of (hm:P.follows .mixedOrders=true) {f:FuncId} {fz:List Nat} {F:SF} (hF:aV P f fz=some F) {vs:List V} {H:View} {K:V→View→Prop} (hw:wF P F vs H K):aC P f vs H K:=by
 unfold aV at hF
 split at hF
 ·rename_i fn hfn
  split at hF
  ·rename_i c hb
   split at hF
   ·rename_i sc rs h1 h2 h3
    simp at hF; subst hF
    refine ⟨h3,?_⟩
    rintro h rfl
    obtain ⟨e,T',h',hx,st,he,hr⟩:=TS hm c sc h1 _ h _ hw.2
    obtain ⟨vs',hvs,hk⟩:=Mj _ _ [] h2 hr
    refine ⟨ah vs',h',bX.J5 hfn hb hw.1 hx he ?_,st.1,by simpa using hk⟩
    unfold LI
    rw[hvs]
    cases vs' with
    | nil=>rfl
    | cons a l=>cases l <;> rfl
   ·simp at hF
  ·simp at hF
 ·simp at hF
theorem aC.mono {f:FuncId} {vs:List V} {H:View} {K K':V→View→Prop} (h:aC P f vs H K) (hk:∀ r H',K r H'→K' r H'):aC P f vs H K' :=
 ⟨h.1,fun h0 e=>let ⟨r,h',a,s,b⟩:=h.2 h0 e; ⟨r,h',a,s,hk _ _ b⟩⟩
theorem aI.LZ {f:FuncId} {vs:List V} {H:View} {t:V} {K:V→View→Prop} (h:aI P f vs t) (hok:dJ P f=true) (hk:K t H):C6 P f vs H K :=
 ⟨hok,fun h0 e=>⟨t,h0,bX.gv h h0,fun _ _=>rfl,e ▸ hk⟩⟩
theorem aC.LZ {f:FuncId} {vs:List V} {H:View} {K:V→View→Prop} (h:aC P f vs H fun r H'=>(∀ id,H id≠.dead→H' id=H id)∧K r H'):C6 P f vs H K :=
 ⟨h.1,fun h0 e=>by
  obtain ⟨r,h',ha,st,hf,hk⟩:=h.2 h0 e
  refine ⟨r,h',ha,fun id hid=>?_,hk⟩
  by_cases hd:h0.view id=.dead
  ·rw[hd]; exact st id hid hd
  ·rw[← e] at hf; exact hf id hd⟩
end
inductive cD {α:Type} (x:α):Type where
 | mk
def fJ (s:ByteArray):List Int:=s.data.toList.map fun b=>(b.toNat:Int)
theorem eV (s:ByteArray):s.size=(fJ s).length:=by rw[fJ,Vg,bsize]
def aZ (P:Program) (c:SC) (T:Env) (H:View) (Q:Exit→Env→View→Prop) (_:cD (T,H,Q)):Prop:=wS P (.loop c) T H Q
def Tc (P:Program) (l:Nat) (c r:SC) (T:Env) (H:View) (Q:Exit→Env→View→Prop) (_:cD (T,H,Q)):Prop:=wS P (.scope l c r) T H Q
def aD (P:Program) (quiet:Bool) (f:FuncId) (vs:List V) (H:View) (K:V→View→Prop) (_:cD (H,K)):Prop :=
 if quiet then C6 P f vs H K else aC P f vs H K
def B6 {α:Type} (v:α) (F:α→Prop) (_:cD F):Prop:=F v
def ed (v:V) (F:V→Prop) (_:cD F):Prop:=F v
def Gs (o:cZ) (F:cZ→Prop) (_:cD F):Prop:=F o
def qF {α:Type} (o:Option α) (F:Option α→Prop) (_:cD F):Prop:=F o
def av (b:Bool) (A B:Prop) (_:cD (A,B)):Prop:=(b=true→A)∧(b=false→B)
theorem TX {α:Type} (v:α) (F:α→Prop) (w:cD F):B6 v F w=F v:=propext Iff.rfl
section
variable (F:V→Prop) (w:cD F)
theorem Kh (v:Value):ed (.val v) F w=F (.val v):=propext Iff.rfl
theorem Ji (k:Nat):ed (.emp k) F w=F (.emp k):=propext Iff.rfl
theorem Jy:ed .dV F w=F .dV:=propext Iff.rfl
theorem Kj (es:List (List V)):ed (.aK es) F w=F (.aK es):=propext Iff.rfl
theorem OF (a b c d:Nat):ed (.sl a b c d) F w=F (.sl a b c d):=propext Iff.rfl
theorem Ja (a b c:Nat):ed (.ptr a b c) F w=F (.ptr a b c):=propext Iff.rfl
theorem IB (e:List V) (j:Nat):ed (.aN e j) F w=F (.aN e j):=propext Iff.rfl
theorem M1 (a:Nat):ed (.mp a) F w=F (.mp a):=propext Iff.rfl
theorem Ox (f:FuncId) (a b:List V):ed (.fn f a b) F w=F (.fn f a b):=propext Iff.rfl
theorem Jo (cs:List V):ed (.agg cs) F w=F (.agg cs):=propext Iff.rfl
theorem Kg (cs:List V):ed (.bI cs) F w=F (.bI cs):=propext Iff.rfl
end
theorem Ko (F:cZ→Prop) (w:cD F) (k:Nat) (es:List (List V)):Gs (.arr k es) F w=F (.arr k es):=propext Iff.rfl
theorem Jq (F:cZ→Prop) (w:cD F) (es:List (V × V × Nat)) (k:Nat):Gs (.map es k) F w=F (.map es k):=propext Iff.rfl
theorem F7 {α:Type} (F:Option α→Prop) (w:cD F) (x:α):qF (some x) F w=F (some x):=propext Iff.rfl
theorem Hi (A B:Prop) (w:cD (A,B)):av true A B w=A:=by simp[av]
theorem Fc (A B:Prop) (w:cD (A,B)):av false A B w=B:=by simp[av]
theorem Kr (b:Bool) (A B:Prop) (w:cD (A,B)):av (!b) A B w=av b B A .mk:=by cases b <;> simp[av]
theorem av.split {b:Bool} {A B:Prop} {w:cD (A,B)} (h1:b=true→A) (h2:b=false→B):av b A B w:=⟨h1,h2⟩
theorem av.dec {p:Prop} [Decidable p] {A B:Prop} {w:cD (A,B)} (h1:p→A) (h2:¬ p→B):av (decide p) A B w:=⟨fun h=>h1 (by simpa using h),fun h=>h2 (by simpa using h)⟩
theorem av.eq {a b:Int} {A B:Prop} {w:cD (A,B)} (h1:a=b→A) (h2:¬ a=b→B):av (a == b) A B w:=⟨fun h=>h1 (by simpa using h),fun h=>h2 (by simpa using h)⟩
theorem av.ne {a b:Int} {A B:Prop} {w:cD (A,B)} (h1:¬ a=b→A) (h2:a=b→B):av (a != b) A B w:=⟨fun h=>h1 (by simpa using h),fun h=>h2 (by simpa using h)⟩
section
variable (P:Program) (T:Env) (H:View)
theorem Q8 (F:SF) (vs:List V) (K:V→View→Prop):wF P F vs H K=(vs.length≤F.n∧wS P F.code (ln vs) H fun e T' H'=>(e=.ret∨e=.normal)∧BB T' H' F.res [] fun l=>B6 (ah l) (fun v=>K v H') .mk):=propext Iff.rfl
theorem Kw (Q:Exit→Env→View→Prop):wS P .skip T H Q=Q .normal T H:=propext Iff.rfl
theorem EN (q:Bool) (gs:List SG) (Q:Exit→Env→View→Prop):wS P (.region q gs) T H Q=xP P q gs T H (Q .normal):=propext Iff.rfl
theorem C7 (aps:List (Nat × Nat)) (gs:List SG) (Q:Exit→Env→View→Prop):wS P (.si aps gs) T H Q=xP P false gs T H (fun T' H'=>yn aps T' (Q .normal T' H')):=propext Iff.rfl
theorem BI (tol:Nat × Nat × Nat) (aps:List (Nat × Nat)) (gs:List SG) (Q:Exit→Env→View→Prop):wS P (.DR tol aps gs) T H Q=xP P false gs T H (fun T' H'=>LU P tol.1 (T' tol.2.1) (T' tol.2.2) H∧yn aps T' (Q .normal T' H')):=propext Iff.rfl
theorem JJ (K:Prop):yn [] T K=K:=propext Iff.rfl
theorem HO (a b:Nat) (l:List (Nat × Nat)) (K:Prop):yn ((a,b) :: l) T K=(jj (T a) (T b)∧yn l T K):=propext Iff.rfl
theorem Kp (i j k i' j' k':Nat):jj (.ptr i j k) (.ptr i' j' k')=(i≠i'):=propext Iff.rfl
theorem zM (i j k a b c d:Nat):jj (.ptr i j k) (.sl a b c d)=(i≠a):=propext Iff.rfl
theorem wm (i j k e:Nat):jj (.ptr i j k) (.emp e)=True:=id rfl
theorem He (i j k:Nat):jj (.ptr i j k) .dV=True:=id rfl
theorem Hd (i j k:Nat) (es:List (List V)):jj (.ptr i j k) (.aK es)=True:=id rfl
theorem Kc (a b c d e f g h:Nat):jj (.sl a b c d) (.sl e f g h)=(a≠e):=propext Iff.rfl
theorem NR (a b c d e:Nat):jj (.sl a b c d) (.emp e)=True:=id rfl
theorem OV (a b c d:Nat):jj (.sl a b c d) .dV=True:=id rfl
theorem OD (a b c d:Nat) (es:List (List V)):jj (.sl a b c d) (.aK es)=True:=id rfl
theorem J3 (k:Nat) (v:V):jj (.emp k) v=True:=by cases v <;> rfl
theorem Kv (v:V):jj .dV v=True:=by cases v <;> rfl
theorem Kb (es:List (List V)) (v:V):jj (.aK es) v=True:=by cases v <;> rfl
theorem Ho (e:List V) (j:Nat) (v:V):jj (.aN e j) v=True:=by cases v <;> rfl
theorem Mt (x y:SC) (Q:Exit→Env→View→Prop):wS P (.seq x y) T H Q=wS P x T H fun e T' H'=>Au e (wS P y T' H' Q) (Q e T' H'):=propext Iff.rfl
theorem Jr (c:SX) (x y:SC) (Q:Exit→Env→View→Prop):wS P (.cond c x y) T H Q=ed (c.at T) (fun v=>match v with
 | .val (.bool b)=>av b (wS P x (qg c true T) H Q) (wS P y (qg c false T) H Q) .mk
 | _=>False) .mk:=propext Iff.rfl
theorem Hh (id:Nat) (c:SC) (Q:Exit→Env→View→Prop):wS P (.block id c) T H Q=wS P c T H fun e=>Q (pX id e):=propext Iff.rfl
theorem JD (id:Nat) (Q:Exit→Env→View→Prop):wS P (.exit id) T H Q=Q (.exit id) T H:=propext Iff.rfl
theorem MM (Q:Exit→Env→View→Prop):wS P .ret T H Q=Q .ret T H:=propext Iff.rfl
theorem HY (l:Nat) (c r:SC) (Q:Exit→Env→View→Prop):wS P (.scope l c r) T H Q=Tc P l c r T H Q .mk:=propext Iff.rfl
theorem GK (l:Nat) (Q:Exit→Env→View→Prop):wS P (.label l) T H Q=Q .normal T H:=propext Iff.rfl
theorem J6 (l:Nat) (Q:Exit→Env→View→Prop):wS P (.goto l) T H Q=Q (.goto l) T H:=propext Iff.rfl
theorem CX (l l':Nat) (a b:Prop):zU l (.goto l') a b=(l'=l∧a):=propext Iff.rfl
theorem yA (l:Nat) (a b:Prop):zU l .normal a b=b:=propext Iff.rfl
theorem Cq (l i:Nat) (a b:Prop):zU l (.exit i) a b=b:=propext Iff.rfl
theorem E8 (l:Nat) (a b:Prop):zU l .ret a b=b:=propext Iff.rfl
theorem Ik (l:Nat) (a b:Prop):Au (.goto l) a b=b:=propext Iff.rfl
theorem BL (i l:Nat):pX i (.goto l)=.goto l:=id rfl
theorem JV (c:SC) (Q:Exit→Env→View→Prop):wS P (.loop c) T H Q=aZ P c T H Q .mk:=propext Iff.rfl
theorem Kd (q:Bool) (K:Env→View→Prop):xP P q [] T H K=K T H:=propext Iff.rfl
theorem Gy (q:Bool) (g:SG) (r:List SG) (K:Env→View→Prop):xP P q (g :: r) T H K=wG P q g T H fun T' H'=>xP P q r T' H' K:=propext Iff.rfl
theorem J2 (q:Bool) (ops:List (Option Nat × SB)) (K:Env→View→Prop):wG P q ⟨none,ops⟩ T H K=zG P q ops T H K:=propext Iff.rfl
theorem JM (q:Bool) (d:Nat) (ops:List (Option Nat × SB)) (K:Env→View→Prop):wG P q ⟨some (d,true),ops⟩ T H K=ed (T d) (fun v=>match v with
 | .val (.bool b)=>av b (zG P q ops (T.put (some d) (.val (.bool true))) H K) (K (iU ops (T.put (some d) (.val (.bool false)))) H) .mk
 | .bI []=>K (iU ops T) H
 | _=>False) .mk:=propext Iff.rfl
theorem GZ (q:Bool) (d:Nat) (ops:List (Option Nat × SB)) (K:Env→View→Prop):wG P q ⟨some (d,false),ops⟩ T H K=ed (T d) (fun v=>match v with
  | .val (.bool b)=>av b (K (iU ops (T.put (some d) (.val (.bool true)))) H) (zG P q ops (T.put (some d) (.val (.bool false))) H K) .mk
  | .bI []=>K (iU ops T) H
  | _=>False) .mk:=by
 simp only[wG,ed]
 generalize T d=v
 cases v with
 | val x=>cases x <;> simp[av,and_comm]
 | bI l=>cases l <;> simp
 | _=>simp
theorem Ak:iU [] T=T:=id rfl
theorem yb (d:Option Nat) (b:SB) (r:List (Option Nat × SB)):iU ((d,b) :: r) T=iU r (T.put d (.bI [])):=id rfl
theorem Ky (q:Bool) (K:Env→View→Prop):zG P q [] T H K=K T H:=propext Iff.rfl
theorem G2 (q:Bool) (d:Option Nat) (b:SB) (r:List (Option Nat × SB)) (K:Env→View→Prop):zG P q ((d,b) :: r) T H K=wB P q b T H fun v H'=>B6 v (fun v'=>zG P q r (T.put d v') H' K) .mk:=propext Iff.rfl
theorem Q5 (q:Bool) (s:SI) (K:V→View→Prop):wB P q (.op s) T H K=wI P s T H K:=propext Iff.rfl
theorem Jk (q:Bool) (f:SX) (args:List SX) (K:V→View→Prop):wB P q (.call f args) T H K=ed (f.at T) (fun v=>match v with
 | .fn g first cap=>aD P q g (first ++ args.map (SX.at T) ++ cap) H K .mk
 | _=>False) .mk:=propext Iff.rfl
theorem It (q:Bool) (f:SX) (args:List SX) (K:V→View→Prop):wB P q (.Aa f args) T H K=ed (f.at T) (fun v=>match v with
 | .fn g first cap=>aD P true g (first ++ args.map (SX.at T) ++ cap) H K .mk
 | _=>False) .mk:=propext Iff.rfl
theorem Oi (x:SX) (K:V→View→Prop):wI P (.bL x) T H K=K (x.at T) H:=propext Iff.rfl
theorem Kf (c a b:SX) (K:V→View→Prop):wI P (.pick c a b) T H K=ed (c.at T) (fun v=>match v with
  | .val (.bool t)=>av t (K (a.at T) H) (K (b.at T) H) .mk
  | _=>False) .mk:=by
 simp only[wI,ed]
 generalize c.at T=v
 cases v with
 | val x =>
  cases x with
  | bool t=>cases t <;> simp[av]
  | _=>simp
 | _=>simp
theorem MN (x:SX) (K:V→View→Prop):wI P (.box x) T H K=ed (x.at T) (fun v=>v.cells.all aU=true∧B6 v.cells (fun cs=>∀ n,H n=.dead→K (.ptr n 0 0) (H.set n (.arr cs.length [cs]))) .mk) .mk:=propext Iff.rfl
theorem Nn (x:SX) (K:V→View→Prop):wI P (.jt x) T H K=ed (x.at T) (fun v=>v.cells.all aU=true∧B6 v.cells (fun cs=>K (.aN cs 0) H) .mk) .mk:=propext Iff.rfl
theorem Gt (z:List V) (K:V→View→Prop):wI P (.alloc z) T H K=(z.all aU=true∧∀ n,H n=.dead→K (.ptr n 0 0) (H.set n (.arr z.length [z]))):=propext Iff.rfl
theorem JS (sz:Option Nat) (a:SX) (K:V→View→Prop):wI P (.load sz a) T H K=ed (a.at T) (fun v=>match v with
 | .ptr id i j=>Gs (H id) (fun o=>match o with
  | .arr _ es=>i < es.length∧B6 (es.getD i []) (fun e=>jV sz e j fun v=>K v H) .mk
  | _=>False) .mk
 | .aN e j=>jV sz e j fun v=>K v H
 | _=>False) .mk:=propext Iff.rfl
theorem HU (sz:Option Nat) (a:SX) (K:V→View→Prop):wI P (.Ac sz a) T H K=ed (a.at T) (fun v=>match v with
 | .aN e j=>jV sz e j fun v=>K v H
 | _=>False) .mk:=propext Iff.rfl
theorem Iz (sz:Nat) (a x:SX) (K:V→View→Prop):wI P (.store sz a x) T H K=ed (a.at T) (fun v=>match v with
 | .ptr id i j=>Gs (H id) (fun o=>match o with
  | .arr esz es=>B6 (x.at T).cells (fun cs=>(i < es.length∧cs.length=sz∧j+cs.length≤esz∧cs.all aU=true) ∧
   B6 (es.set i (aa (es.getD i []) j cs)) (fun es'=>K .any (H.set id (.arr esz es'))) .mk) .mk
  | _=>False) .mk
 | _=>False) .mk:=propext Iff.rfl
theorem Kn (x:SX) (K:V→View→Prop):wI P (.Bb x) T H K=ed (x.at T) (fun v=>match v with
 | .ptr id i j=>K (.ptr id i j) H
 | .aN e j=>K (.aN e j) H
 | .fn f a b=>K (.fn f a b) H
 | _=>False) .mk:=propext Iff.rfl
theorem Kq (off:Nat) (x:SX) (K:V→View→Prop):wI P (.addr off x) T H K=ed (x.at T) (fun v=>match v with
 | .ptr id i j=>K (.ptr id i (j+off)) H
 | .aN e j=>K (.aN e (j+off)) H
 | _=>False) .mk:=propext Iff.rfl
theorem Gm (off:Nat) (sz:Option Nat) (x:SX) (K:V→View→Prop):wI P (.field off sz x) T H K=ed (x.at T) (fun v=>match v with
 | .agg cs=>jV sz cs off fun v=>K v H
 | _=>False) .mk:=propext Iff.rfl
theorem NB (sz:Nat) (x i:SX) (K:V→View→Prop):wI P (.idx sz x i) T H K=qF (asNat (i.at T)) (fun o=>match o with
  | none=>False
  | some q=>ed (x.at T) (fun v=>match v with
   | .sl id off len esz=>(q < len∧esz=sz)∧K (.ptr id (off+q) 0) H
   | .aK es=>qF es[q]? (fun o=>match o with
    | some e=>e.length=sz∧K (.aN e 0) H
    | none=>False) .mk
   | _=>False) .mk) .mk:=by
 simp only[wI,qF,ed]
 cases asNat (i.at T) with
 | none=>rfl
 | some q =>
  simp only
  cases x.at T with
  | aK es =>
   simp only
   cases h:es[q]? with
   | none=>simp
   | some e=>simp
  | _=>rfl
theorem JO (f:FuncId) (first cap:List SX) (K:V→View→Prop):wI P (.sD f first cap) T H K=K (.fn f (first.map (SX.at T)) (cap.map (SX.at T))) H:=propext Iff.rfl
theorem HI (K:V→View→Prop):wI P .nM T H K=(∀ n,H n=.dead→K (.mp n) (H.set n (.map [] 0))):=propext Iff.rfl
theorem MD (i:Nat) (x:SX) (K:V→View→Prop):wI P (.ext i x) T H K=ed (x.at T) (fun v=>match v with
 | .bI vs=>i < vs.length∧K (vs.getD i .any) H
 | _=>False) .mk:=propext Iff.rfl
theorem NC (x:SX) (K:V→View→Prop):wI P (.len x) T H K=qF (cH (x.at T)) (fun o=>match o with
 | some n=>K (ak n) H
 | none=>False) .mk:=propext Iff.rfl
theorem Jj (x:SX) (K:V→View→Prop):wI P (.pO x) T H K=ed (x.at T) (fun v=>match v with
 | .val (.string s)=>K (ak s.size) H
 | _=>False) .mk:=propext Iff.rfl
theorem Hv (op:BinOp) (x y:SX) (K:V→View→Prop):wI P (.arith op x y) T H K=ed (x.at T) (fun v=>ed (y.at T) (fun v'=>match v,v' with
 | .val (.int k a),.val (.int k' b)=>k=k'∧qF (ag op k a b) (fun o=>match o with | some v=>K (.val v) H | none=>False) .mk
 | _,_=>False) .mk) .mk:=propext Iff.rfl
theorem Rm (l:Bool) (x y:SX) (K:V→View→Prop):wI P (.sh l x y) T H K=ed (x.at T) (fun v=>ed (y.at T) (fun v'=>match v,v' with
 | .val (.int k a),.val (.int _ b)=>0≤b∧K (.val (.int k (DB l k a b))) H
 | _,_=>False) .mk) .mk:=propext Iff.rfl
theorem Nb (op:BinOp) (x y:SX) (K:V→View→Prop):wI P (.xN op x y) T H K=ed (x.at T) (fun v=>ed (y.at T) (fun v'=>match v,v' with
 | .val (.string a),.val (.string b)=>(match op with
  | .eql=>K (.val (.bool (ja a b))) H
  | .neq=>K (.val (.bool (!ja a b))) H
  | _=>False)
 | _,_=>False) .mk) .mk:=propext Iff.rfl
theorem J7 (x i:SX) (K:V→View→Prop):wI P (.iC x i) T H K=ed (x.at T) (fun v=>qF (asNat (i.at T)) (fun o=>match v,o with
  | .val (.string s),some q=>qF (fJ s)[q]? (fun o=>match o with
   | some c=>K (.val (.int .u8 c)) H
   | none=>False) .mk
  | _,_=>False) .mk) .mk:=by
 simp only[wI,qF,ed]
 generalize x.at T=v
 generalize asNat (i.at T)=o
 cases v with
 | val u =>
  cases u with
  | string s =>
   cases o with
   | none=>rfl
   | some q =>
    simp only[fJ,Vc]
    cases h:s.data.toList[q]? with
    | none=>simp
    | some e=>simp
  | _=>rfl
 | _=>rfl
theorem O7 (x:SX) (K:V→View→Prop):wI P (.not x) T H K=ed (x.at T) (fun v=>match v with
 | .val (.bool t)=>K (.val (.bool (!t))) H
 | _=>False) .mk:=propext Iff.rfl
theorem Ml (eq:Bool) (k:Nat) (x y:SX) (K:V→View→Prop):wI P (.nil eq k x y) T H K=qF (ai (ae k (x.at T)) (ae k (y.at T))) (fun o=>match o with
 | some b=>K (.val (.bool (if eq=true then b else !b))) H
 | none=>False) .mk:=propext Iff.rfl
theorem JU (x y:SX) (K:V→View→Prop):wI P (.beq true x y) T H K=ed (x.at T) (fun v=>ed (y.at T) (fun v'=>match v,v' with
 | .val (.bool a),.val (.bool b)=>K (.val (.bool (a == b))) H
 | _,_=>False) .mk) .mk:=propext Iff.rfl
theorem JN (x y:SX) (K:V→View→Prop):wI P (.beq false x y) T H K=ed (x.at T) (fun v=>ed (y.at T) (fun v'=>match v,v' with
 | .val (.bool a),.val (.bool b)=>K (.val (.bool (a != b))) H
 | _,_=>False) .mk) .mk:=propext Iff.rfl
theorem MX (x y:SX) (K:V→View→Prop):wI P (.mm true x y) T H K=ed (x.at T) (fun v=>ed (y.at T) (fun v'=>match v,v' with
 | .val (.int k a),.val (.int _ b)=>K (.val (.int k (if b > a then b else a))) H
 | _,_=>False) .mk) .mk:=propext Iff.rfl
theorem Na (x y:SX) (K:V→View→Prop):wI P (.mm false x y) T H K=ed (x.at T) (fun v=>ed (y.at T) (fun v'=>match v,v' with
 | .val (.int k a),.val (.int _ b)=>K (.val (.int k (if b < a then b else a))) H
 | _,_=>False) .mk) .mk:=propext Iff.rfl
theorem Jw (k:IntKind) (x:SX) (K:V→View→Prop):wI P (.conv k x) T H K=ed (x.at T) (fun v=>match v with
 | .val (.int _ a)=>K (.val (.int k (k.wrap a))) H
 | _=>False) .mk:=propext Iff.rfl
theorem GR (n k:Nat) (o:cZ):View.set H n o k=if k=n then o else H k:=id rfl
theorem Iq (z:List V) (parts:List (Nat × Nat × SX)) (K:V→View→Prop):wI P (.build z parts) T H K=qF (ab z (parts.map fun p=>(p.1,p.2.1,p.2.2.at T))) (fun o=>match o with
 | some cs=>K (.agg cs) H
 | none=>False) .mk:=propext Iff.rfl
theorem Eu (len sz:Nat) (z:List V) (parts:List (Nat × SX)) (K:V→View→Prop):wI P (.cg len sz z parts) T H K=qF (af sz (List.replicate len z) (parts.map fun p=>(p.1,p.2.at T))) (fun o=>match o with
 | some es=>∀ n,H n=.dead→K (.sl n 0 len sz) (H.set n (.arr sz es))
 | none=>False) .mk:=propext Iff.rfl
theorem Hb (sz:Nat) (x:SX) (lo hi:Option SX) (K:V→View→Prop):wI P (.slice sz x lo hi) T H K=qF (dW sz (x.at T) (lo.map (SX.at T)) (hi.map (SX.at T))) (fun o=>match o with
 | some (v,.none,_)=>K v H
 | _=>False) .mk:=propext Iff.rfl
theorem Jf (sz bytes:Nat) (z:List V) (l c:SX) (K:V→View→Prop):wI P (.make sz bytes z l c) T H K=qF (asNat (l.at T)) (fun a=>qF (asNat (c.at T)) (fun b=>match a,b with
 | some l,some c=>(l≤c∧c < aJ∧bytes * c < aJ)∧(c=0→K (.emp 2) H)∧(c≠0→∀ n,H n=.dead→K (.sl n 0 l sz) (H.set n (.arr sz (List.replicate l z))))
 | _,_=>False) .mk) .mk:=propext Iff.rfl
def mB (sz bytes:Nat) (x:V) (xs:List (List V)) (H:View) (K:V→View→Prop) (_:cD (H,K)):Prop:=if xs.isEmpty=true then (match x with
  | .emp k=>K (.emp k) H
  | .dV=>K .dV H
  | .aK es=>K (.aK es) H
  | .sl a b c d=>K (.sl a b c d) H
  | _=>False)
 else (xs.all fun e=>e.length == sz && e.all aU)=true∧(match x with
  | .emp _=>(xs.length * bytes < aJ∧xs.length < aJ)∧∀ n,H n=.dead→K (.sl n 0 xs.length sz) (H.set n (.arr sz xs))
  | .sl id off len esz=>match H id with
   | .arr _ es=>(off+len≤es.length∧esz=sz∧(len+xs.length) * bytes < aJ∧len+xs.length < aJ) ∧
    ∀ n,H n=.dead→K (.sl n 0 (len+xs.length) esz) ((H.set id .dead).set n (.arr esz ((es.drop off).take len ++ xs)))
   | _=>False
  | _=>False)
theorem ML (sz bytes:Nat) (x y:SX) (K:V→View→Prop):wI P (.app sz bytes x y) T H K=qF (bZ H (y.at T)) (fun o=>match o with
 | some (xs,_)=>mB sz bytes (x.at T) xs H K .mk
 | none=>False) .mk:=propext Iff.rfl
theorem y8 (sz bytes k:Nat) (xs:List (List V)) (K:V→View→Prop) (w:cD (H,K)) (h0:xs.isEmpty=false):mB sz bytes (.emp k) xs H K w=((xs.all fun e=>e.length == sz && e.all aU)=true∧(xs.length * bytes < aJ∧xs.length < aJ)∧∀ n,H n=.dead→K (.sl n 0 xs.length sz) (H.set n (.arr sz xs))):=by
 unfold mB; rw[Va (by rw[h0]; simp)]
theorem wC (sz bytes id off len esz:Nat) (xs:List (List V)) (K:V→View→Prop) (w:cD (H,K)) (h0:xs.isEmpty=false):mB sz bytes (.sl id off len esz) xs H K w=((xs.all fun e=>e.length == sz && e.all aU)=true∧Gs (H id) (fun o=>match o with
  | .arr _ es=>(off+len≤es.length∧esz=sz∧(len+xs.length) * bytes < aJ∧len+xs.length < aJ) ∧
   ∀ n,H n=.dead→K (.sl n 0 (len+xs.length) esz) ((H.set id .dead).set n (.arr esz ((es.drop off).take len ++ xs)))
  | _=>False) .mk):=by
 unfold mB Gs; rw[Va (by rw[h0]; simp)]
theorem rU (id off len esz z:Nat) (es:List (List V)) (hH:H id=.arr z es) (hl:off+(len+1)≤es.length):bZ H (.sl id off (len+1) esz)=some ((es.drop off).take (len+1),[id]):=by
 simp only[bZ,hH]; rw[Vd hl]
theorem As (es:List (List V)):bZ H (.aK es)=some (es,[]):=id rfl
theorem uM (k:Nat):bZ H (.emp k)=some ([],[]):=id rfl
theorem JP (x:SX) (K:V→View→Prop):wI P (.Dd x) T H K=ed (x.at T) (fun v=>match v with
 | .aK es=>qF (kV es) (fun o=>match o with
  | some l=>K (.val (.string ⟨l.toArray⟩)) H
  | none=>False) .mk
 | _=>False) .mk:=propext Iff.rfl
theorem JE (x:SX) (K:V→View→Prop):wI P (.gp x) T H K=ed (x.at T) (fun v=>match v with
 | .val (.string s)=>K (.aK (gK s)) H
 | _=>False) .mk:=propext Iff.rfl
def kz (P:Program) (op:Op) (ty:TypeId) (T:Env) (H:View) (K:V→View→Prop) (_:cD (T,H,K)):Prop:=wI P (.old op ty) T H K
theorem Mw (op:Op) (ty:TypeId) (K:V→View→Prop):wI P (.old op ty) T H K=kz P op ty T H K .mk:=propext Iff.rfl
theorem NN (t:Nat):ev T (.tmp t)=T t:=id rfl
theorem GB (v:Value):ev T (.const v)=fD v:=id rfl
theorem OZ (t:Nat):(SX.tmp t).at T=T t:=id rfl
theorem OQ (v:V):(SX.val v).at T=v:=id rfl
theorem JK (d t:Nat) (v:V):(T.put (some d) v) t=if t=d then v else T t:=id rfl
theorem GC (v:V):T.put none v=T:=id rfl
theorem Ie (vs:List V) (t:Nat):ln vs t=vs.getD t .any:=id rfl
theorem C0 (e:List V) (j:Nat) (K:V→Prop):jV none e j K=(j < e.length∧K (e.getD j .any)):=propext Iff.rfl
theorem BQ (n:Nat) (e:List V) (j:Nat) (K:V→Prop):jV (some n) e j K=(j+n≤e.length∧K (.agg ((e.drop j).take n))):=propext Iff.rfl
theorem BK (a b:Prop):Au .normal a b=a:=propext Iff.rfl
theorem HL (i:Nat) (a b:Prop):Au (.exit i) a b=b:=propext Iff.rfl
theorem Ju (a b:Prop):Au .ret a b=b:=propext Iff.rfl
theorem x9 (i:Nat):pX i .normal=.normal:=id rfl
theorem Fe (i:Nat):pX i .ret=.ret:=id rfl
theorem CJ (i j:Nat):pX i (.exit j)=if j=i then .normal else .exit j:=by simp only[pX]
theorem Ku (acc:List V) (K:List V→Prop):BB T H [] acc K=K acc:=propext Iff.rfl
theorem Gw (r:SR) (l:List SR) (acc:List V) (K:List V→Prop):BB T H (r :: l) acc K=wR T H r fun v=>BB T H l (acc ++ [v]) K:=propext Iff.rfl
theorem O6 (t:Nat) (K:V→Prop):wR T H (.tmp t) K=K (T t):=propext Iff.rfl
theorem Jl (t:Nat) (sz:Option Nat) (K:V→Prop):wR T H (.cell t sz) K=ed (T t) (fun v=>match v with
 | .ptr id i j=>Gs (H id) (fun o=>match o with
  | .arr _ es=>i < es.length∧B6 (es.getD i []) (fun e=>jV sz e j K) .mk
  | _=>False) .mk
 | .aN e j=>jV sz e j K
 | _=>False) .mk:=propext Iff.rfl
theorem Ek (t:Nat) (b:Bool):qg (.tmp t) b T=T.put (some t) (.val (.bool b)):=id rfl
theorem Eg (v:V) (b:Bool):qg (.val v) b T=T:=id rfl
theorem MI:(Exit.ret=Exit.ret∨Exit.ret=Exit.normal)=True:=by simp
theorem D5:(Exit.normal=Exit.ret∨Exit.normal=Exit.normal)=True:=by simp
end
section
variable {P:Program} {T:Env} {H:View}
theorem aZ.intro {c:SC} {Q:Exit→Env→View→Prop} {v:cD (T,H,Q)} (I:Nat→Env→View→Prop) (k:Nat) (h0:I k T H)
  (hs:∀ k T H,I k T H→wS P c T H fun e T' H'=>Au e (∃ k',k' < k∧I k' T' H') (Q e T' H')):aZ P c T H Q v:=by
 simp only[aZ,wS]
 exact ⟨I,⟨k,h0⟩,hs⟩
theorem aD.pure {q:Bool} {f:FuncId} {vs:List V} {K:V→View→Prop} {v:cD (H,K)} {t:V} (hc:aI P f vs t) (hok:dJ P f=true) (hk:K t H):aD P q f vs H K v:=by
 unfold aD
 cases q with
 | true=>exact hc.LZ hok hk
 | false =>
  refine ⟨hok,?_⟩
  rintro h rfl
  exact ⟨t,h,bX.gv hc h,.refl _,hk⟩
theorem aD.dP {f:FuncId} {vs:List V} {K:V→View→Prop} {v:cD (H,K)} (hc:aC P f vs H K):aD P false f vs H K v:=hc
theorem EX:aL.view []=fun _=>cZ.dead:=by funext id; simp[aL.view]
theorem aI.of {f:FuncId} {vs:List V} {t:V} (ht:∀ v∈vs,Tree v) (h:aC P f vs (fun _=>.dead) fun r H'=>∀ h':aL,h'.view=H'→Fr h' r t):aI P f vs t:=by
 obtain ⟨r,h',ha,_,hf⟩:=h.2 [] EX
 exact aI.w8 ht ha (hf h' rfl)
theorem wrap64 {x:Int} (h1 : -9223372036854775808≤x) (h2:x≤9223372036854775807):IntKind.wrap .i64 x=x:=by
 unfold IntKind.wrap
 have e1:(2:Int) ^ IntKind.i64.bits=18446744073709551616:=by rfl
 have e2:(2:Int) ^ (IntKind.i64.bits - 1)=9223372036854775808:=by rfl
 have e3:IntKind.i64.signed=true:=by rfl
 simp only[e1,e2,e3,Wo,Vo]
 split <;> omega
theorem Fs {k:IntKind} {i:Int} (h:0≤i):asNat (.val (.int k i))=some i.toNat:=by simp[asNat,h]
end
theorem Ez (v:Value):V.cells (.val v)=[.val v]:=id rfl
theorem vR (v:Value):aU (.val v)=true:=id rfl
theorem D9 (k:Nat):V.cells (.emp k)=[.emp k]:=id rfl
theorem zN (k:Nat):aU (.emp k)=true:=id rfl
theorem El  : V.cells .dV=[.dV]:=id rfl
theorem Jb  : aU .dV=true:=id rfl
theorem Fq (es:List (List V)):V.cells (.aK es)=[.aK es]:=id rfl
theorem Kk (es:List (List V)):aU (.aK es)=true:=id rfl
theorem Ge (a b c d:Nat):V.cells (.sl a b c d)=[.sl a b c d]:=id rfl
theorem N7 (a b c d:Nat):aU (.sl a b c d)=true:=id rfl
theorem D8 (a b c:Nat):V.cells (.ptr a b c)=[.ptr a b c]:=id rfl
theorem Jn (a b c:Nat):aU (.ptr a b c)=true:=id rfl
theorem CI (e:List V) (j:Nat):V.cells (.aN e j)=[.aN e j]:=id rfl
theorem Im (e:List V) (j:Nat):aU (.aN e j)=true:=id rfl
theorem GP (a:Nat):V.cells (.mp a)=[.mp a]:=id rfl
theorem MV (a:Nat):aU (.mp a)=true:=id rfl
theorem GF (f:FuncId) (a b:List V):V.cells (.fn f a b)=[.fn f a b]:=id rfl
theorem NX (f:FuncId) (a b:List V):aU (.fn f a b)=true:=id rfl
theorem Fp (cs:List V):V.cells (.agg cs)=cs:=id rfl
theorem J1 (k:Nat):cH (.emp k)=some 0:=id rfl
theorem Jc:cH .dV=some 0:=id rfl
theorem JB (es:List (List V)):cH (.aK es)=some es.length:=id rfl
theorem Oc (a b c d:Nat):cH (.sl a b c d)=some c:=id rfl
abbrev TZ {p:Prop} (_:p):Prop:=p
abbrev Wr:Prop:=TZ (And.intro @Q8 <| And.intro @Kw <| And.intro @EN <| And.intro @C7 <| And.intro @BI <| And.intro @JJ <| And.intro @HO <| And.intro @Mt <|
 And.intro @Jr <| And.intro @Hh <| And.intro @JD <| And.intro @MM <| And.intro @HY <| And.intro @GK <| And.intro @J6 <| And.intro @CX <| And.intro @yA <| And.intro @Cq <| And.intro @E8 <| And.intro @Ik <| And.intro @BL <|
 And.intro @JV <| And.intro @Kd <| And.intro @Gy <| And.intro @J2 <|
 And.intro @JM <| And.intro @GZ <| And.intro @Ak <| And.intro @yb <|
 And.intro @Ky <| And.intro @G2 <| And.intro @Q5 <| And.intro @Jk <| And.intro @It <|
 And.intro @Oi <| And.intro @Kf <| And.intro @MN <| And.intro @Nn <|
 And.intro @Gt <| And.intro @JS <| And.intro @HU <| And.intro @Iz <|
 And.intro @Kn <| And.intro @Kq <| And.intro @Gm <| And.intro @NB <|
 And.intro @JO <| And.intro @HI <| And.intro @MD <| And.intro @NC <|
 And.intro @Jj <| And.intro @Hv <| And.intro @Rm <| And.intro @Nb <| And.intro @J7 <|
 And.intro @O7 <| And.intro @Ml <| And.intro @JU <| And.intro @JN <|
 And.intro @MX <| And.intro @Na <| And.intro @Jw <| And.intro @JP <|
 And.intro @JE <| And.intro @Iq <| And.intro @Eu <| And.intro @Hb <|
 And.intro @Jf <| And.intro @ML <| And.intro @Mw <| And.intro @NN <| And.intro @GB <| And.intro @OZ <| And.intro @OQ <|
 And.intro @JK <| And.intro @GC <| And.intro @Ie <| And.intro @C0 <|
 And.intro @BQ <| And.intro @BK <| And.intro @HL <| And.intro @Ju <|
 And.intro @x9 <| And.intro @Fe <| And.intro @CJ <| And.intro @Ku <|
 And.intro @Gw <| And.intro @O6 <| And.intro @Jl <| And.intro @Ek @Eg)
theorem wr:Wr:=⟨@Q8,@Kw,@EN,@C7,@BI,@JJ,@HO,@Mt,@Jr,@Hh,@JD,@MM,@HY,@GK,@J6,@CX,@yA,@Cq,@E8,@Ik,@BL,@JV,@Kd,@Gy,@J2,@JM,@GZ,@Ak,@yb,@Ky,@G2,@Q5,@Jk,@It,@Oi,@Kf,@MN,@Nn,@Gt,@JS,@HU,@Iz,@Kn,@Kq,@Gm,@NB,@JO,@HI,@MD,@NC,@Jj,@Hv,@Rm,@Nb,@J7,@O7,@Ml,@JU,@JN,@MX,@Na,@Jw,@JP,@JE,@Iq,@Eu,@Hb,@Jf,@ML,@Mw,@NN,@GB,@OZ,@OQ,@JK,@GC,@Ie,@C0,@BQ,@BK,@HL,@Ju,@x9,@Fe,@CJ,@Ku,@Gw,@O6,@Jl,@Ek,@Eg⟩
abbrev Wq:Prop:=TZ (And.intro @eq_self.{1} <| And.intro @ne_eq.{1} <| And.intro @implies_true.{1} <| And.intro @implies_true.{0} <| And.intro @decide_true <| And.intro @decide_false <| And.intro @Kp <| And.intro @zM <| And.intro @wm <| And.intro @He <| And.intro @Hd <| And.intro @Ho <| And.intro @Kc <| And.intro @NR <| And.intro @OV <| And.intro @OD <| And.intro @J3 <| And.intro @Kv <| And.intro @Kb <| And.intro @Ez <| And.intro @vR <| And.intro @D9 <| And.intro @zN <| And.intro @El <| And.intro @Jb <| And.intro @Fq <| And.intro @Kk <| And.intro @Ge <| And.intro @N7 <| And.intro @D8 <| And.intro @Jn <| And.intro @CI <| And.intro @Im <| And.intro @GP <| And.intro @MV <| And.intro @GF <| And.intro @NX <| And.intro @Fp <| And.intro @J1 <| And.intro @Jc <| And.intro @JB <| And.intro @Oc <| And.intro @true_or <| And.intro @or_true <| And.intro @or_false <| And.intro @false_or <|
 And.intro @TX <| And.intro @Kh <| And.intro @Ji <| And.intro @Jy <|
 And.intro @Kj <| And.intro @OF <| And.intro @Ja <| And.intro @IB <|
 And.intro @M1 <| And.intro @Ox <| And.intro @Jo <| And.intro @Kg <|
 And.intro @Ko <| And.intro @Jq <| And.intro @F7 <| And.intro @Hi <|
 And.intro @Fc <| And.intro @Kr <| And.intro @List.getD_cons_zero.{0} <| And.intro @List.getD_cons_succ.{0} <|
 And.intro @List.length_cons.{0} <| And.intro @List.length_nil.{0} <| And.intro @List.length_map.{0,0} <| And.intro @wrap64 <|
 And.intro @true_and <| And.intro @and_true <| And.intro @and_self <| And.intro @Vo <|
 And.intro @Wp <| And.intro @List.all_cons.{0} <| And.intro @List.all_nil.{0} <| And.intro @Bool.and_self <|
 And.intro @List.nil_append.{0} <| And.intro @List.cons_append.{0} <| And.intro @Wa <| And.intro @Fs <|
 And.intro @Vv <| And.intro @MI <| And.intro @D5 <| And.intro @bne_iff_ne.{0} <|
 And.intro @beq_iff_eq.{0} <| And.intro @Bool.not_eq_true <| And.intro @Xf <| And.intro @Bool.not_false <|
 And.intro @List.append_nil.{0} <| And.intro @List.map_cons.{0,0} <| And.intro @List.map_nil.{0,0} <| And.intro @Bool.true_eq_false <|
 And.intro @VA <| And.intro @false_implies <| And.intro @true_implies <| And.intro @Bool.not_not <|
 And.intro @List.drop_zero.{0} <| And.intro @GR <| And.intro @List.set_cons_zero.{0} <| And.intro @List.set_cons_succ.{0} <|
 And.intro @List.drop_nil.{0} <| And.intro @W5 <| And.intro @List.replicate_zero.{0} <| And.intro @List.replicate_succ.{0} <|
 And.intro @As <| And.intro @uM <| And.intro @y8 <| And.intro @wC <|
 And.intro @List.isEmpty_cons.{0} <| And.intro @Option.map_none.{0,0} <| And.intro @Option.map_some.{0,0} <| And.intro @Nat.succ_ne_zero <|
 And.intro @List.take_succ_cons.{0} <| And.intro @List.take_zero.{0} <| And.intro @List.drop_succ_cons.{0} <| And.intro @bne_eq_false_iff_eq.{0} <|
 And.intro @beq_eq_false_iff_ne.{0} <| And.intro @not_true_eq_false <| And.intro @not_false_eq_true @Decidable.not_not)
theorem wq:Wq:=⟨@eq_self,@ne_eq,@implies_true,@implies_true,@decide_true,@decide_false,@Kp,@zM,@wm,@He,@Hd,@Ho,@Kc,@NR,@OV,@OD,@J3,@Kv,@Kb,@Ez,@vR,@D9,@zN,@El,@Jb,@Fq,@Kk,@Ge,@N7,@D8,@Jn,@CI,@Im,@GP,@MV,@GF,@NX,@Fp,@J1,@Jc,@JB,@Oc,@true_or,@or_true,@or_false,@false_or,@TX,@Kh,@Ji,@Jy,@Kj,@OF,@Ja,@IB,@M1,@Ox,@Jo,@Kg,@Ko,@Jq,@F7,@Hi,@Fc,@Kr,@Wh,@WZ,@Vr,@VJ,@Vg,@wrap64,@true_and,@and_true,@and_self,@Vo,@Wp,@Wn,@List.all_nil,@Bool.and_self,@V9,@VL,@Wa,@Fs,@Vv,@MI,@D5,@bne_iff_ne,@Wd,@Bool.not_eq_true,@Xf,@Bool.not_false,@Wx,@VC,@WM,@Bool.true_eq_false,@VA,@false_implies,@true_implies,@Bool.not_not,@Ww,@GR,@List.set_cons_zero,@List.set_cons_succ,@List.drop_nil,@W5,@List.replicate_zero,@List.replicate_succ,@As,@uM,@y8,@wC,@List.isEmpty_cons,@Option.map_none,@Vh,@Nat.succ_ne_zero,@WY,@List.take_zero,@List.drop_succ_cons,@bne_eq_false_iff_eq,@beq_eq_false_iff_ne,@not_true_eq_false,@not_false_eq_true,@Decidable.not_not⟩
inductive Bo:V→Prop
 | val (v:Value):Bo (.val v)
 | bI (cs:List V):(∀ i,i < cs.length→∃ v,cs.getD i .any=.val v)→Bo (.bI cs)
theorem Pm {Z Z':Nat→Prop} {μ μ':Mu} {hp hp':Array Obj} {t:V} {x:Value} (hf:Bo t) (h:aG Z μ hp t x):aG Z' μ' hp' t x:=by
 cases hf with
 | val=>cases h with | val _ hv=>exact .val _ hv
 | bI cs hc =>
  cases h with
  | bI _ aas h1 h2 =>
   refine .bI _ _ h1 fun i hi=>?_
   have:=h2 i hi
   obtain ⟨v,hv⟩:=hc i hi
   rw[hv] at this ⊢
   generalize aas.getD i undef=y at this ⊢
   cases this with | val _ hv=>exact .val _ hv
theorem bX.borrow {P:Program} {f:FuncId} {ts vs:List V} {t:V} {h:aL} (hc:aI P f ts t) (hf:Bo t) (hl:ts.length=vs.length)
  (hfr:∀ i,i < vs.length→Fr h (vs.getD i .any) (ts.getD i .any)):bX P f vs h t h:=by
 refine ⟨Vj _,fun Z μ F w xs hrel hr hfree=>?_⟩
 have hts:gf (fun b=>Z b∨jr μ b) μ w.heap ts xs:=⟨by rw[hl,hrel.1],fun i hi=>Cp hr (hfr i (by omega)) (hrel.2 i (by omega))⟩
 have hzl:∀ b,(Z b∨jr μ b)→b < w.heap.size:=by
  rintro b (hb | ⟨id,o,s,hb⟩)
  ·exact hr.cP b hb
  ·exact hr.lt _ _ _ _ hb
 refine (hc _ μ w xs hts hzl).mono ?_
 rintro e w' ⟨x,Z',rfl,hv,hs,hz,hz',ho⟩
 have hm:hU Z Z μ μ w.heap w'.heap:=⟨fun _ h=>h,fun b hb=>ho b (hr.cP b hb) (fun x=>x),fun _ _ h=>h,ho.qT⟩
 exact ⟨x,Z,μ,rfl,Pm hf (hv μ),⟨fun id=>(hr.obj id).mono hm rfl (fun b o s hx=>ho b (hr.lt _ _ _ _ hx) (fun x=>x)),hr.inj,fun id b o s hx=>VH (hr.lt _ _ _ _ hx) hs.size,fun b hb=>VH (hr.cP b hb) hs.size,hr.gX⟩,
  ⟨hs,hm,fun b hb _=>ho b hb (fun x=>x),fun b hb=>.inl hb,fun _ _ _ _ h=>.inl h⟩,fun _ _=>rfl⟩
def dT (H:View) (v t:V):Prop:=∀ h:aL,h.view=H→Fr h v t
theorem dT.tree {H:View} {v:V} (h:Tree v):dT H v v:=fun _ _=>.tree _ h
theorem dT.sl {H:View} {id off len esz z:Nat} {es:List (List V)} (hH:H id=.arr z es) (hle:off+len≤es.length) (ht:∀ e∈es,∀ v∈e,Tree v) :
  dT H (.sl id off len esz) (.aK ((es.drop off).take len)):=by
 rintro h rfl
 have hg:∀ i,i < len→((es.drop off).take len).getD i []=es.getD (off+i) []:=fun i hi=>by
  simp[U8,WL,hi]
 refine .sl id off len esz z es _ hH hle (by simp; omega) (fun i hi=>by rw[hg i hi]) (fun i j hi hj=>?_)
 rw[hg i hi] at hj ⊢
 refine .tree _ ?_
 have h1:off+i < es.length:=by omega
 have e1:es.getD (off+i) []=es[off+i]:=by simp[U8,h1]
 rw[e1] at hj ⊢
 have e2:(es[off+i]).getD j .any=(es[off+i])[j]:=by simp[U8,hj]
 rw[e2]
 exact ht _ (Vi _) _ (Vi _)
theorem aD.borrow {P:Program} {q:Bool} {f:FuncId} {H:View} {vs ts:List V} {K:V→View→Prop} {v:cD (H,K)} {t:V} (hc:aI P f ts t) (hok:dJ P f=true) (hf:Bo t) (hl:ts.length=vs.length)
  (hfr:∀ i,i < vs.length→dT H (vs.getD i .any) (ts.getD i .any)) (hk:K t H):aD P q f vs H K v:=by
 unfold aD
 cases q with
 | true=>exact ⟨hok,fun h e=>⟨t,h,bX.borrow hc hf hl (fun i hi=>hfr i hi h e),fun _ _=>rfl,e ▸ hk⟩⟩
 | false =>
  refine ⟨hok,?_⟩
  rintro h rfl
  exact ⟨t,h,bX.borrow hc hf hl (fun i hi=>hfr i hi h rfl),.refl _,hk⟩
abbrev gi (x:Int):V:=.val (.int .i64 x)
abbrev gb (x:Bool):V:=.val (.bool x)
abbrev gs (x:ByteArray):V:=.val (.string x)
theorem mixed:(Tryz.prog).follows .mixedOrders=true:=by kernel_rfl
def encI (l:List Int):V:=.aK (l.map fun x=>[gi x])
def bP (l:List Bool):V:=.aK (l.map fun x=>[gb x])
theorem eP (l:List Int):Tree (encI l):=by
 refine .aK _ fun i j hi hj=>?_
 simp only[Vg] at hi
 simp[U8,hi] at hj ⊢
 subst hj
 exact .val _
def aS {α:Type} (l:List α):Prop:=l.length < 4611686018427387904
def od:SC :=
 .seq (.seq (ao [aj 11 5,aj 12 0,aX 13 12,bc 14 .lss 11 13]) <|
 .cond (.tmp 14) (.skip) (.exit 0)) <|
 .seq (.block 1 (.seq (ao [aj 17 0,aj 18 5,aP 19 1 17 18,ax 20 19,aj 21 1,aj 22 5,aP 23 1 21 22,ax 24 23,bc 25 .neq 20 24]) <|
 .cond (.tmp 25) (.seq (ao [bK 4 false]) <|
 .ret) (.skip))) <|
 ao [aj 15 5,aQ 16 .add 15 1,aj 5 16]
def qS:SF:=⟨.seq (ao [bK 4 false]) <|
 .seq (.seq (ao [aj 6 0,aX 7 6,aj 8 1,aX 9 8,bc 10 .neq 7 9]) <|
 .cond (.tmp 10) (.seq (ao [bK 4 false]) <|
 .ret) (.skip)) <|
 .seq (.seq (ao [bj 5 0]) <|
 .block 0 (.loop od)) <|
 .seq (ao [bK 4 true]) <|
 .ret,
 [.tmp 4],26⟩
theorem vq:aV Tryz.prog 37 []=some qS:=by kernel_rfl
theorem RU {α:Type} [BEq α] [LawfulBEq α] {a b:List α} (h:a.length≠b.length):(a == b)=false:=by
 simp only[beq_eq_false_iff_ne]; intro e; exact h (by rw[e])
theorem RZ (a b:List Int) (ha:aS a) (H:View):aC Tryz.prog 37 [encI a,encI b] H fun r H'=>r=gb (a == b)∧H'=H:=by
 refine aC.of mixed vq ?_
 unfold aS at ha
 simp (disch:=omega) only [↓wr,seval,wq,ah,ag,ak,aa,ab,af,ai,ae,qS,encI]
 refine av.ne (fun h=>?_) (fun h=>?_)
 ·simp (disch:=omega) only [↓wr,seval,wq,ah,ag,ak,aa,ab,af,ai,ae]
  rw[RU (by omega)]
 ·simp (disch:=omega) only [↓wr,seval,wq,ah,ag,ak,aa,ab,af,ai,ae]
  refine aZ.intro (fun k T H'=>∃ i:Nat,i+k=a.length∧a.take i=b.take i∧T 0=encI a∧T 1=encI b∧T 5=gi i∧H'=H) a.length ?_ ?_
  ·exact ⟨0,by omega,by simp,rfl,rfl,rfl,rfl⟩
  ·rintro k T H' ⟨i,hk,hi,h0,h1,h5,rfl⟩
   simp (disch:=omega) only [↓wr,seval,wq,ah,ag,ak,aa,ab,af,ai,ae,od,h0,h1,h5,encI]
   refine av.dec (fun hc=>?_) (fun hc=>?_)
   ·have h2:a[i]?=some (a[i]'(by omega)):=U9 (by omega)
    have h3:b[i]?=some (b[i]'(by omega)):=U9 (by omega)
    simp (disch:=omega) only [↓wr,seval,wq,ah,ag,ak,aa,ab,af,ai,ae,h0,h1,h5,encI,Vc,h2,h3,Vh]
    refine av.ne (fun hd=>?_) (fun hd=>?_)
    ·simp (disch:=omega) only [↓wr,seval,wq,ah,ag,ak,aa,ab,af,ai,ae]
     have:(a == b)=false:=by
      simp only[beq_eq_false_iff_ne]; rintro rfl; exact hd rfl
     rw[this]
    ·simp (disch:=omega) only [↓wr,seval,wq,ah,ag,ak,aa,ab,af,ai,ae,h0,h1,h5,encI]
     refine ⟨k - 1,by omega,i+1,by omega,?_,rfl⟩
     rw[Vx,Vx,hi,h2,h3,hd]
   ·simp (disch:=omega) only [↓wr,seval,wq,ah,ag,ak,aa,ab,af,ai,ae,h0,h1,h5,encI]
    have:a=b:=by
     have e:i=a.length:=by omega
     rw[Vq (by omega),Vq (by omega)] at hi
     exact hi
    rw[this]; simp
theorem RE (a b:List Int) (ha:aS a):aI Tryz.prog 37 [encI a,encI b] (gb (a == b)) :=
 aI.of (by simp[eP]) ((RZ a b ha _).mono fun r H' h h' _=>by rw[h.1]; exact .tree _ (.val _))
theorem gN (l:List Bool):Tree (bP l):=by
 refine .aK _ fun i j hi hj=>?_
 simp only[Vg] at hi
 simp[U8,hi] at hj ⊢
 subst hj
 exact .val _
end Gv
