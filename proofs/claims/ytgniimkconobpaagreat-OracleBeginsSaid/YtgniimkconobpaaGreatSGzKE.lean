/-
  Part 5 of the proof: what the machine does and what the functions answer.
  Conditions: those that each lemma names.
-/
import Derived.Test.YtgniimkconobpaaGreatProg
import Derived.KernelRfl
import Derived.Test.YtgniimkconobpaaGreatSGzKD
set_option linter.unusedSimpArgs false
set_option linter.unusedVariables false
namespace Gv
open Go
section
variable {P:Program} {n:Nat} {all:List Oper}
theorem Gs (h:aE):h.view h.length=.dead:=by simp[aE.view,List.getD_eq_getElem?_getD]
theorem JJ {o:Oper} {T:Env} {h:aE} {s:SI} {K:V→View→Prop} (hg:cm n all T o=some true) (hc:∀ v az rd,sI P s T h.view h.length=some (v,az,rd)→bJ P o T h.view h.length=some (v,az,rd)) (hw:wI P s T h.view K) :
    ∃ v h' rd wr,cM P n all o T h v h' rd wr false∧fW h h'∧K v h'.view∧im (pz P s) rd wr false h.length h'.length:=by
  obtain ⟨v,az,rd,hs,hk⟩:=JT hw (Gs h)
  have ha:=hc _ _ _ hs
  have hlive:∀ id,id∈az.wr→h.view id≠.dead:=fun id hid=>(jI ha id hid).1
  refine ⟨v,az.apply h,rd,az.wr,.op hg ha,?_,?_,?_,?_⟩
  · intro id hid hd
    rw[iD hlive]
    cases az with
    | none=>exact hd
    | new o=>simp only[aZ.view,View.set]; rw[if_neg (by omega)]; exact hd
    | dM k o =>
      simp only[aZ.view,View.set]
      rw[if_neg (by rintro rfl; exact hlive id (by simp[aZ.wr]) hd)]; exact hd
    | ak k o =>
      simp only[aZ.view,View.set]
      rw[if_neg (by omega)]
      split
      · rfl
      · exact hd
  · rw[iD (fun id hid=>(jI ha id hid).1)]; exact hk
  · intro h0
    obtain ⟨rfl,rfl⟩:=(oh hs).1 h0
    exact ⟨rfl,rfl,rfl,rfl⟩
  · intro h1
    rcases Nat.lt_or_ge (pz P s) 1 with h2 | h2
    · obtain ⟨rfl,rfl⟩:=(oh hs).1 (by omega); rfl
    · exact (oh hs).2 (by omega)
theorem Ct {P:Program} {fr:Bool} {s:SI} {T:Env} {H:View} {n:Nat} {v:V} {az:aZ} {rd:List Nat} (h:sI P (tq P fr s) T H n=some (v,az,rd)):sI P s T H n=some (v,az,rd):=by
  unfold tq at h
  split at h
  · split at h
    · exact Hp h
    · exact h
  · split at h
    · rename_i hc
      simp only[Bool.and_eq_true] at hc
      exact Ia hc.2 h
    · exact h
  · exact h
theorem vf (P:Program) (fz:Fz) (o:Oper) :
    (∃ f args ats,o.op=.call { callee:=.value f,args:=args,argTypes:=ats }∧ky P fz o=.call (SX.of f) (args.toList.map SX.of)) ∨
    (∃ t x,o.op=.box t x∧ky P fz o=.op (.er (SX.of x)))∨(∃ s d x,o.op=.convert s d x∧qS P s d=true∧ky P fz o=.op (.eh (SX.of x)))∨ky P fz o=.op (tq P fz.fr (comp P o)):=by
  unfold ky
  split
  · rename_i f args ats ho; exact .inl ⟨f,args,ats,ho,rfl⟩
  · rename_i t x ho
    by_cases hd:(match o.dst with | some d=>fz.l.contains d | none=>false)=true
    · exact .inr (.inl ⟨t,x,ho,if_pos hd⟩)
    · refine .inr (.inr (.inr ?_))
      refine (if_neg hd).trans ?_
      simp only[comp,ho,tq]
  · rename_i s d x ho
    by_cases hd:((match o.dst with | some d=>fz.l.contains d | none=>false) && qS P s d)=true
    · exact .inr (.inr (.inl ⟨s,d,x,ho,by simp only[Bool.and_eq_true] at hd; exact hd.2,if_pos hd⟩))
    · exact .inr (.inr (.inr (if_neg hd)))
  · exact .inr (.inr (.inr rfl))
theorem cM.len {o:Oper} {T:Env} {h h':aE} {v:V} {rd wr:List Nat} {call:Bool} (st:cM P n all o T h v h' rd wr call):h.length≤h'.length:=by
  cases st with
  | skip=>exact Nat.le_refl _
  | op _ _=>rename_i az _ _ ; cases az <;> simp[aZ.apply]
  | er _ _ _=>exact Nat.le_refl _
  | eh _ _ _ _ _ _=>exact Nat.le_refl _
  | call _ _ _ _ ha _ _=>exact ha.1
theorem Ig {fz:Fz} {o:Oper} {T:Env} {h:aE} {quiet:Bool} {K:V→View→Prop} (hg:cm n all T o=some true) (hw:wB P quiet (ky P fz o) T h.view K) :
    ∃ v h' rd wr call,cM P n all o T h v h' rd wr call∧fW h h'∧K v h'.view∧im (fF P quiet (ky P fz o)) rd wr call h.length h'.length:=by
  rcases vf P fz o with ⟨f,args,ats,ho,hc⟩ | ⟨t,x,ho,hc⟩ | ⟨s,d,x,ho,hcv,hc⟩ | hc
  · rw[hc] at hw ⊢
    simp only[wB] at hw
    split at hw
    · rename_i g first cap hf
      rw[AS] at hw
      rw[SX.bQ] at hf
      split at hw
      · rename_i hq
        obtain ⟨hok,hq'⟩:=hw
        obtain ⟨r,h',hr,hold,hk⟩:=hq' h rfl
        refine ⟨r,h',[],[],true,.call hg ho hf hok hr (fun id hid _=>hold id hid) (fun id hid=>by simp at hid),fun id hid hd=>(hold id hid).trans hd,hk,?_,?_⟩
        · intro h0; simp[fF,hq] at h0
        · intro _; rfl
      · rename_i hq
        obtain ⟨hok,hq'⟩:=hw
        obtain ⟨r,h',hr,hst,hk⟩:=hq' h rfl
        refine ⟨r,h',[],List.range h.length,true,.call hg ho hf hok hr (fun id hid hn=>?_) (fun id hid=>by simpa using hid),hst,hk,HI (by simp[fF,hq])⟩
        exact absurd (by simpa using hid) hn
    · exact hw.elim
  · rw[hc] at hw ⊢
    simp only[wB,wI,SX.bQ] at hw
    exact ⟨_,h,[],[],false,.er hg ho hw.1,.refl _,hw.2,fun _=>⟨rfl,rfl,rfl,rfl⟩,fun _=>rfl⟩
  · rw[hc] at hw ⊢
    simp only[wB,wI,SX.bQ] at hw
    obtain ⟨e,h1,h2,h3⟩:=vd hcv
    split at hw
    · rename_i st hx
      exact ⟨_,h,[],[],false,.eh hg ho h1 h2 h3 hx,.refl _,hw,fun _=>⟨rfl,rfl,rfl,rfl⟩,fun _=>rfl⟩
    · exact hw.elim
  · rw[hc] at hw ⊢
    obtain ⟨v,h',rd,wr,h1,h0,h2,h3⟩:=JJ (s:=tq P fz.fr (comp P o)) hg (fun v az rd hs=>CF (Ct hs)) hw
    exact ⟨v,h',rd,wr,false,h1,h0,h2,h3⟩
def dS (P:Program) (quiet:Bool) (l:List SO) (recs:List Rec):Prop :=
  l.length=recs.length∧∀ (i:Nat) (s:SO) (r:Rec),l[i]?=some s→recs[i]?=some r→im (fF P quiet s.b) r.rd r.wr r.call r.lo r.hi
theorem dS.nil {quiet:Bool} : dS P quiet [] []:=⟨rfl,fun i s r h=>by simp at h⟩
theorem dS.cons {quiet:Bool} {l:List SO} {recs:List Rec} {s:SO} {r:Rec} (h:dS P quiet l recs) (hr:im (fF P quiet s.b) r.rd r.wr r.call r.lo r.hi):dS P quiet (s :: l) (r :: recs):=by
  refine ⟨by simp[h.1],fun i s' r' hs hr'=>?_⟩
  cases i with
  | zero=>simp at hs hr'; subst hs hr'; exact hr
  | succ i=>exact h.2 i s' r' (by simpa using hs) (by simpa using hr')
theorem dS.append {quiet:Bool} {l l':List SO} {recs recs':List Rec} (h:dS P quiet l recs) (h':dS P quiet l' recs'):dS P quiet (l ++ l') (recs ++ recs'):=by
  refine ⟨by simp[h.1,h'.1],fun i s r hs hr=>?_⟩
  by_cases hi:i < l.length
  · rw[List.getElem?_append_left hi] at hs
    rw[List.getElem?_append_left (h.1 ▸ hi)] at hr
    exact h.2 i s r hs hr
  · rw[List.getElem?_append_right (by omega)] at hs
    rw[List.getElem?_append_right (by have:=h.1; omega)] at hr
    exact h'.2 (i - l.length) s r hs (by rw[h.1]; exact hr)
theorem pI {fz:Fz} {o:Oper} {s:SO} (h:zV P n all fz o=some s):nI n o=true∧s.dst=o.dst∧s.b=ky P fz o∧qO n all o=some s.guard:=by
  unfold zV at h
  split at h
  · rename_i hd
    simp only[Option.map_eq_some_iff] at h
    obtain ⟨g,hg,rfl⟩:=h
    exact ⟨hd,rfl,rfl,hg⟩
  · simp at h
theorem wK {o:Oper} {T:Env} (h:qO n all o=some none):cm n all T o=some true:=by
  unfold qO at h
  unfold cm
  split at h
  · rename_i hg; rw[hg]
  · split at h
    · split at h
      · simp at h
      · simp at h
    · simp at h
theorem iy {o:Oper} {T:Env} {d:Nat} {want:Bool} (h:qO n all o=some (some (d,want))) :
    (∀ b,T d=.val (.bool b)→cm n all T o=some (b == want))∧(T d=.bt []→cm n all T o=some false):=by
  unfold qO at h
  unfold cm
  split at h
  · simp at h
  · rename_i j w hg
    rw[hg]
    split at h
    · rename_i d' hd
      split at h
      · rename_i hlt
        simp at h
        obtain ⟨rfl,rfl⟩:=h
        simp only[hd,hlt,if_true]
        exact ⟨fun b hb=>by rw[hb],fun hb=>by rw[hb]⟩
      · simp at h
    · simp at h
theorem iL {fz:Fz} {os:List Oper} (h:cw P n all fz os=some []):os=[]:=by
  cases os with
  | nil=>rfl
  | cons o r =>
    simp only[cw] at h
    split at h <;> simp at h
theorem jb {fz:Fz} {os:List Oper} {s:SO} {l:List SO} (h:cw P n all fz os=some (s :: l)):∃ o r,os=o :: r∧zV P n all fz o=some s∧cw P n all fz r=some l:=by
  cases os with
  | nil=>simp[cw] at h
  | cons o r =>
    simp only[cw] at h
    split at h
    · rename_i s' l' h1 h2
      simp at h
      obtain ⟨rfl,rfl⟩:=h
      exact ⟨o,r,rfl,h1,h2⟩
    · simp at h
theorem m5 {fz:Fz} : ∀ {l l':List SO} {os:List Oper},cw P n all fz os=some (l ++ l')→∃ a b,os=a ++ b∧cw P n all fz a=some l∧cw P n all fz b=some l'
  | [],l',os,h=>⟨[],os,rfl,rfl,h⟩
  | s :: l,l',os,h=>by
    obtain ⟨o,r,rfl,h1,h2⟩:=jb h
    obtain ⟨a,b,rfl,h3,h4⟩:=m5 h2
    exact ⟨o :: a,b,rfl,by simp[cw,h1,h3],h4⟩
theorem Tr.append {a b:List Oper} {T T1 T2:Env} {h h1 h2:aE} {r1 r2:List Rec} (x:Tr P n all a T h r1 T1 h1) (y:Tr P n all b T1 h1 r2 T2 h2):Tr P n all (a ++ b) T h (r1 ++ r2) T2 h2:=by
  induction x with
  | nil=>exact y
  | cons st hd _ ih=>exact .cons st hd (ih y)
theorem vI {T:Env} {d:Nat} {v:V} (h:T d=v):T.put (some d) v=T:=by
  funext t
  simp only[Env.put]
  split
  · rename_i e; subst e; exact h.symm
  · rfl
theorem AA {fz:Fz} {quiet:Bool} {K:Env→View→Prop} (g:Option (Nat × Bool)):∀ (l:List (Option Nat × SB)) (os:List Oper) (T:Env) (h:aE),
    cw P n all fz os=some (l.map fun (d,b)=>⟨d,g,b⟩)→(∀ d w,g=some (d,w)→T d=.val (.bool w)∧(l.all fun x=>x.1 != some d)=true)→uu P quiet l T h.view K →
    ∃ recs T' h',Tr P n all os T h recs T' h'∧(fW h h'∧h.length≤h'.length)∧K T' h'.view∧dS P quiet (l.map fun (d,b)=>⟨d,g,b⟩) recs
  | [],os,T,h,hc,hg,hw=>by
    have:=iL hc; subst this
    exact ⟨[],T,h,.nil,⟨.refl _,Nat.le_refl _⟩,hw,.nil⟩
  | (d,b) :: l,os,T,h,hc,hg,hw=>by
    obtain ⟨o,r,rfl,h1,h2⟩:=jb hc
    obtain ⟨hd,hd1,hb1,hg1⟩:=pI h1
    simp only at hd1 hb1 hg1
    have hgv:cm n all T o=some true:=by
      cases g with
      | none=>exact wK hg1
      | some p =>
        obtain ⟨d',w⟩:=p
        have:=(iy (T:=T) hg1).1 w (hg d' w rfl).1
        rw[this]; simp
    simp only[uu] at hw
    rw[hb1] at hw
    obtain ⟨v,h',rd,wr,call,st,hst,hk,hl⟩:=Ig hgv hw
    obtain ⟨recs,T',h'',tr,hst',hk',hro⟩:=AA g l r (T.put d v) h' h2 (fun d' w e=>by
      have:=hg d' w e
      simp only[List.all_cons,Bool.and_eq_true,bne_iff_ne,ne_eq] at this
      refine ⟨?_,this.2.2⟩
      rw[← this.1]
      cases d with
      | none=>rfl
      | some t=>simp only[Env.put]; rw[if_neg]; intro e; subst e; exact this.2.1 rfl) hk
    rw[hd1] at tr
    have hlen:=st.len
    exact ⟨_,T',h'',.cons st hd tr,⟨hst.trans hst'.1 hlen,Nat.le_trans hlen hst'.2⟩,hk',hro.cons (by rw[hb1]; exact hl)⟩
theorem yq {fz:Fz} {quiet:Bool} (d:Nat) (w:Bool) (h:aE):∀ (l:List (Option Nat × SB)) (os:List Oper) (T:Env),
    cw P n all fz os=some (l.map fun (d',b)=>⟨d',some (d,w),b⟩)→(T d=.val (.bool !w)∨T d=.bt [])→(l.all fun x=>x.1 != some d)=true →
    ∃ recs,Tr P n all os T h recs (fo l T) h∧dS P quiet (l.map fun (d',b)=>⟨d',some (d,w),b⟩) recs
  | [],os,T,hc,hd,hl=>by
    have:=iL hc; subst this
    exact ⟨[],.nil,.nil⟩
  | (d',b) :: l,os,T,hc,hd,hl=>by
    obtain ⟨o,r,rfl,h1,h2⟩:=jb hc
    obtain ⟨hd0,hd1,hb1,hg1⟩:=pI h1
    simp only at hd1 hb1 hg1
    have hgv:cm n all T o=some false:=by
      rcases hd with hd | hd
      · rw[(iy (T:=T) hg1).1 _ hd]; cases w <;> rfl
      · exact (iy (T:=T) hg1).2 hd
    simp only[List.all_cons,Bool.and_eq_true,bne_iff_ne,ne_eq] at hl
    obtain ⟨recs,tr,hro⟩:=yq d w h l r (T.put d' (.bt [])) h2 (by
      have:(T.put d' (.bt [])) d=T d:=by
        cases d' with
        | none=>rfl
        | some t=>simp only[Env.put]; rw[if_neg]; intro e; subst e; exact hl.1 rfl
      rw[this]; exact hd) hl.2
    rw[hd1] at tr
    refine ⟨_,?_,hro.cons (r:=⟨[],[],false,h.length,h.length⟩) ⟨fun _=>⟨rfl,rfl,rfl,rfl⟩,fun _=>rfl⟩⟩
    have:=Tr.cons (.skip hgv) hd0 tr
    rw[fo,hd1]
    exact this
theorem JN {fz:Fz} {quiet:Bool} {K:Env→View→Prop} {g:SG} {os:List Oper} {T:Env} {h:aE} (hc:cw P n all fz os=some g.flat) (hok:pE g=true) (hw:wG P quiet g T h.view K) :
    ∃ recs T' h',Tr P n all os T h recs T' h'∧(fW h h'∧h.length≤h'.length)∧K T' h'.view∧dS P quiet g.flat recs:=by
  unfold wG at hw
  unfold SG.flat at hc ⊢
  unfold pE at hok
  split at hw
  · rename_i hg
    rw[hg] at hc ⊢
    exact AA none g.ops os T h hc (fun d w e=>by simp at e) hw
  · rename_i d want hg
    rw[hg] at hc hok ⊢
    simp only at hok
    split at hw
    · rename_i b hb
      by_cases e:b=want
      · subst e
        have:=hw.1 rfl
        rw[vI hb] at this
        exact AA (some (d,b)) g.ops os T h hc (fun d' w e=>by simp at e; obtain ⟨rfl,rfl⟩:=e; exact ⟨hb,hok⟩) this
      · have e':b = !want:=by cases b <;> cases want <;> simp_all
        have:=hw.2 e'
        subst e'
        rw[vI hb] at this
        obtain ⟨recs,tr,hro⟩:=yq (quiet:=quiet) d want h g.ops os T hc (.inl hb) hok
        exact ⟨recs,_,h,tr,⟨.refl _,Nat.le_refl _⟩,this,hro⟩
    · rename_i hb
      obtain ⟨recs,tr,hro⟩:=yq (quiet:=quiet) d want h g.ops os T hc (.inr hb) hok
      exact ⟨recs,_,h,tr,⟨.refl _,Nat.le_refl _⟩,hw,hro⟩
    · exact hw.elim
theorem tX {fz:Fz} {quiet:Bool} {K:Env→View→Prop} : ∀ (gs:List SG) (os:List Oper) (T:Env) (h:aE),cw P n all fz os=some (gL gs)→gs.all pE=true→sD P quiet gs T h.view K →
    ∃ recs T' h',Tr P n all os T h recs T' h'∧(fW h h'∧h.length≤h'.length)∧K T' h'.view∧dS P quiet (gL gs) recs
  | [],os,T,h,hc,_,hw=>by
    have:=iL hc; subst this
    exact ⟨[],T,h,.nil,⟨.refl _,Nat.le_refl _⟩,hw,.nil⟩
  | g :: gs,os,T,h,hc,hok,hw=>by
    simp only[gL,List.map_cons,List.flatten_cons] at hc ⊢
    simp only[List.all_cons,Bool.and_eq_true] at hok
    obtain ⟨a,b,rfl,h1,h2⟩:=m5 hc
    obtain ⟨r1,T1,h1',tr1,st1,hk1,ro1⟩:=JN h1 hok.1 hw
    obtain ⟨r2,T2,h2',tr2,st2,hk2,ro2⟩:=tX gs b T1 h1' h2 hok.2 hk1
    exact ⟨_,T2,h2',tr1.append tr2,⟨st1.1.trans st2.1 st1.2,Nat.le_trans st1.2 st2.2⟩,hk2,ro1.append ro2⟩
theorem Tr.at_ {os:List Oper} {T T':Env} {h h':aE} {recs:List Rec} (tr:Tr P n all os T h recs T' h'):∀ (i:Nat) (o:Oper),os[i]?=some o →
    ∃ T1 h1 v h2 rd wr call recs2,recs[i]?=some ⟨rd,wr,call,h1.length,h2.length⟩∧cM P n all o T1 h1 v h2 rd wr call∧h.length≤h1.length∧Tr P n all (os.drop (i+1)) (T1.put o.dst v) h2 recs2 T' h'∧(∀ m,recs2[m]?=recs[i+1+m]?) ∧
      (∀ t,(∀ o'∈os.take i,o'.dst≠some t)→T1 t=T t):=by
  induction tr with
  | nil=>intro i o hi; simp at hi
  | @cons o0 rest T T' h h1 h' v rd wr call recs st hd tr ih =>
    intro i o hi
    cases i with
    | zero =>
      simp at hi; subst hi
      exact ⟨T,h,v,h1,rd,wr,call,recs,rfl,st,Nat.le_refl _,by simpa using tr,fun m=>by rw[show 0+1+m=m+1 by omega,List.getElem?_cons_succ],fun t _=>rfl⟩
    | succ i =>
      simp at hi
      obtain ⟨T1,h2,v2,h3,rd2,IU,call2,recs2,e1,e2,e3,e4,e5,e6⟩:=ih i o hi
      have hlen:h.length≤h1.length:=by
        cases st with
        | skip=>exact Nat.le_refl _
        | op _ _=>rename_i az _ _; cases az <;> simp[aZ.apply]
        | er _ _ _=>exact Nat.le_refl _
        | eh _ _ _ _ _ _=>exact Nat.le_refl _
        | call _ _ _ _ ha _ _=>exact ha.1
      refine ⟨T1,h2,v2,h3,rd2,IU,call2,recs2,by simpa using e1,e2,Nat.le_trans hlen e3,by simpa using e4,fun m=>?_,fun t ht=>?_⟩
      · rw[e5,show i+1+1+m=(i+1+m)+1 by omega,List.getElem?_cons_succ]
      · simp only[List.take_succ_cons,List.mem_cons] at ht
        rw[e6 t fun o' ho'=>ht o' (.inr ho')]
        have:=ht o0 (.inl rfl)
        cases hdst:o0.dst with
        | none=>rfl
        | some d=>simp only[Env.put]; rw[if_neg]; rintro rfl; exact this hdst
theorem DE {o:Oper} {T:Env} {h h':aE} {v:V} {rd wr:List Nat} {call:Bool} (st:cM P n all o T h v h' rd wr call) (ha:vG o=true) (hg:o.guard=none):v=.ptr h.length 0 0:=by
  unfold vG at ha
  have hgv:cm n all T o=some true:=by unfold cm; rw[hg]
  cases st with
  | skip hs=>rw[hgv] at hs; simp at hs
  | op _ hop =>
    split at ha
    · rename_i e ho
      simp only[bJ,ho] at hop
      split at hop
      · unfold iW at hop
        split at hop
        · simp at hop; exact hop.1.symm
        · simp at hop
      · simp at hop
    · simp at ha
  | er _ ho _=>rw[ho] at ha; simp at ha
  | eh _ ho _ _ _ _=>rw[ho] at ha; simp at ha
  | call _ ho _ _ _ _ _=>rw[ho] at ha; simp at ha
theorem Ds {o:Oper} {T:Env} {h h':aE} {v:V} {rd wr:List Nat} {call:Bool} {t id i j:Nat} (st:cM P n all o T h v h' rd wr call) (ha:hD o=some t) (ht:T t=.ptr id i j):wr=[id]∧call=false:=by
  unfold hD at ha
  split at ha
  · rename_i ty t' x ho hg
    simp at ha; subst ha
    have hgv:cm n all T o=some true:=by unfold cm; rw[hg]
    cases st with
    | skip hs=>rw[hgv] at hs; simp at hs
    | op _ hop =>
      have e1:ev T (.tmp t')=.ptr id i j:=ht
      simp only[bJ,ho,e1,mY] at hop
      split at hop
      · split at hop
        · simp only[Option.some.injEq,Prod.mk.injEq] at hop
          obtain ⟨_,he,_⟩:=hop
          rw[← he]; exact ⟨rfl,rfl⟩
        · simp at hop
      · simp at hop
    | er _ ho' _=>rw[ho] at ho'; simp at ho'
    | eh _ ho' _ _ _ _=>rw[ho] at ho'; simp at ho'
    | call _ ho' _ _ _ _ _=>rw[ho] at ho'; simp at ho'
  · simp at ha
theorem Gj {o:Oper} {T:Env} {h h':aE} {v:V} {rd wr:List Nat} {call:Bool} (st:cM P n all o T h v h' rd wr call) (ha:xT o=true):wr=[]∧call=false∧∀ id,id∈rd→id < h.length:=by
  unfold xT at ha
  cases st with
  | skip _=>exact ⟨rfl,rfl,fun id hid=>by simp at hid⟩
  | op _ hop =>
    split at ha
    · rename_i e a ho
      simp only[bJ,ho,jt] at hop
      split at hop
      · rename_i id i j hx
        split at hop
        · rename_i z es hH
          split at hop
          · simp only[Option.map_eq_some_iff] at hop
            obtain ⟨_,_,hop⟩:=hop
            simp at hop
            obtain ⟨_,rfl,rfl⟩:=hop
            refine ⟨rfl,rfl,fun id' hid=>?_⟩
            simp at hid; subst hid
            exact gv (by rw[hH]; simp)
          · simp at hop
        · simp at hop
      · simp only[Option.map_eq_some_iff] at hop
        obtain ⟨_,_,hop⟩:=hop
        simp at hop
        obtain ⟨_,rfl,rfl⟩:=hop
        exact ⟨rfl,rfl,fun id hid=>by simp at hid⟩
      · simp at hop
    · simp at ha
  | er _ ho _=>rw[ho] at ha; simp at ha
  | eh _ ho _ _ _ _=>rw[ho] at ha; simp at ha
  | call _ ho _ _ _ _ _=>rw[ho] at ha; simp at ha
theorem rm {T T':Env} {h h':aE} {recs:List Rec} (tr:Tr P n all all T h recs T' h') {i k:Nat} {a b:Rec} (hp:uU all i k=true) (ha:recs[i]?=some a) (hb:recs[k]?=some b):oq a b:=by
  unfold uU at hp
  split at hp
  · rename_i oa ob hoa hob
    rw[Bool.and_eq_true] at hp
    obtain ⟨hl,hp⟩:=hp
    split at hp
    · rename_i t hst
      rw[List.any_eq_true] at hp
      obtain ⟨j,hj,hp⟩:=hp
      rw[List.mem_range] at hj
      rw[Bool.and_eq_true,decide_eq_true_eq] at hp
      obtain ⟨hij,hown⟩:=hp
      unfold Jl at hown
      split at hown
      · rename_i oj hoj
        simp only[Bool.and_eq_true,beq_iff_eq,List.all_eq_true,bne_iff_ne,ne_eq,Option.isNone_iff_eq_none] at hown
        obtain ⟨⟨⟨w1,w2⟩,w3⟩,w4⟩:=hown
        obtain ⟨T1,h1,v1,h2,rd1,JZ,c1,recs1,e1,e2,e3,e4,e5,_⟩:=tr.at_ i oa hoa
        obtain ⟨Tj,hj1,vj,hj2,rdj,wrj,cj,recsj,f1,f2,f3,f4,f5,_⟩:=e4.at_ (j - (i+1)) oj (by rw[List.getElem?_drop,show i+1+(j - (i+1))=j by omega]; exact hoj)
        have hdr:(all.drop (i+1)).drop (j - (i+1)+1)=all.drop (j+1):=by rw[List.drop_drop]; congr 1; omega
        rw[hdr] at f4
        obtain ⟨Tk,hk1,vk,hk2,rdk,wrk,ck,recsk,g1,g2,g3,_,_,g6⟩:=f4.at_ (k - (j+1)) ob (by rw[List.getElem?_drop,show j+1+(k - (j+1))=k by omega]; exact hob)
        rw[ha] at e1
        have hae:=(Option.some.inj e1)
        have hbe:recs[k]?=some ⟨rdk,wrk,ck,hk1.length,hk2.length⟩:=by
          rw[← g1,f5,e5]; congr 1; omega
        rw[hb] at hbe
        have hbe:=Option.some.inj hbe
        have hv:=DE f2 w3 w2
        have hTk:Tk t=.ptr hj1.length 0 0:=by
          rw[g6 t fun o' ho'=>w4 o' ho',w1,hv]
          simp[Env.put]
        obtain ⟨s1,s2⟩:=Ds g2 hst hTk
        obtain ⟨l1,l2,l3⟩:=Gj e2 hl
        rw[hae,hbe]
        have hlen:h1.length≤h2.length:=by
          cases e2 with
          | skip=>exact Nat.le_refl _
          | op _ _=>rename_i az _ _; cases az <;> simp[aZ.apply]
          | er _ _ _=>exact Nat.le_refl _
          | eh _ _ _ _ _ _=>exact Nat.le_refl _
          | call _ _ _ _ ha _ _=>exact ha.1
        refine ⟨fun id hid=>by simp[l1] at hid,fun id hid=>?_,fun hc=>by simp[l2] at hc,fun _=>l1,fun id hid=>?_⟩
        · simp only[s1,List.mem_singleton] at hid
          subst hid
          intro hr
          have:=l3 _ hr
          omega
        · simp only[s1,List.mem_singleton] at hid
          subst hid
          simp only
          omega
      · simp at hown
    · simp at hp
  · simp at hp
theorem GM {ls:List Nat} {recs:List Rec} {T T':Env} {hp hp':aE} (tr:Tr P n all all T hp recs T' hp') (h:zK all ls=true) (hl:ls.length=recs.length) (hr:∀ (i x:Nat) (r:Rec),ls[i]?=some x→recs[i]?=some r→im x r.rd r.wr r.call r.lo r.hi):pY all recs:=by
  intro i k a b hik ha hb ho
  have hi:i < recs.length:=(List.getElem?_eq_some_iff.1 ha).1
  have hk:k < recs.length:=(List.getElem?_eq_some_iff.1 hb).1
  unfold zK at h
  simp only[List.all_eq_true] at h
  have h1:=h (ls[i]'(by omega),i) (by rw[List.mem_zipIdx_iff_getElem?]; simp[List.getElem?_eq_getElem (show i < ls.length by omega)])
    (ls[k]'(by omega),k) (by rw[List.mem_zipIdx_iff_getElem?]; simp[List.getElem?_eq_getElem (show k < ls.length by omega)])
  have la:=hr i _ a (List.getElem?_eq_getElem (by omega)) ha
  have lb:=hr k _ b (List.getElem?_eq_getElem (by omega)) hb
  simp only[hik,decide_true,Bool.not_true,ho,Bool.false_or,Bool.or_eq_true,beq_iff_eq,Bool.and_eq_true,decide_eq_true_eq] at h1
  rcases h1 with ((h1 | h1) | h1) | h1
  · obtain ⟨e1,e2,e3,e4⟩:=la.1 h1
    exact ⟨fun id hid=>by simp[e2] at hid,fun id _=>by simp[e1],fun hc=>by simp[e3] at hc,fun _=>e2,fun id _ hx=>by omega⟩
  · obtain ⟨e1,e2,e3,e4⟩:=lb.1 h1
    exact ⟨fun id _=>by simp[e1],fun id hid=>by simp[e2] at hid,fun _=>e2,fun hc=>by simp[e3] at hc,fun id hid=>by simp[e2] at hid⟩
  · have e1:=la.2 h1.1
    have e2:=lb.2 h1.2
    exact ⟨fun id hid=>by simp[e1] at hid,fun id hid=>by simp[e2] at hid,fun _=>e2,fun _=>e1,fun id hid=>by simp[e2] at hid⟩
  · exact rm tr h1 ha hb
theorem Tr.keep {os:List Oper} {T T':Env} {h h':aE} {recs:List Rec} (tr:Tr P n all os T h recs T' h') {t:Nat} (ht:∀ o∈os,o.dst≠some t):T' t=T t:=by
  induction tr with
  | nil=>rfl
  | @cons o0 rest T T' h h1 h' v rd wr call recs st hd tr ih =>
    rw[ih fun o ho=>ht o (by simp[ho])]
    have:=ht o0 (by simp)
    cases hdst:o0.dst with
    | none=>rfl
    | some d=>simp only[Env.put]; rw[if_neg]; rintro rfl; exact this hdst
theorem rQ {o:Oper} {T:Env} {h h':aE} {v:V} {rd wr:List Nat} {call:Bool} {t:Nat} (st:cM P n all o T h v h' rd wr call) (ha:od o=some t):wr=[]∧call=false∧h'.length=h.length∧∀ id,id∈rd→∃ i j,T t=.ptr id i j:=by
  unfold od at ha
  split at ha
  · rename_i e t' ho
    simp at ha; subst ha
    cases st with
    | skip _=>exact ⟨rfl,rfl,rfl,fun id hid=>by simp at hid⟩
    | op _ hop =>
      simp only[bJ,ho,jt] at hop
      split at hop
      · rename_i id i j hx
        split at hop
        · split at hop
          · simp only[Option.map_eq_some_iff] at hop
            obtain ⟨_,_,hop⟩:=hop
            simp at hop
            obtain ⟨_,rfl,rfl⟩:=hop
            refine ⟨rfl,rfl,rfl,fun id' hid=>?_⟩
            simp at hid; subst hid
            exact ⟨i,j,hx⟩
          · simp at hop
        · simp at hop
      · simp only[Option.map_eq_some_iff] at hop
        obtain ⟨_,_,hop⟩:=hop
        simp at hop
        obtain ⟨_,rfl,rfl⟩:=hop
        exact ⟨rfl,rfl,rfl,fun id hid=>by simp at hid⟩
      · simp at hop
    | er _ ho' _=>rw[ho] at ho'; simp at ho'
    | eh _ ho' _ _ _ _=>rw[ho] at ho'; simp at ho'
    | call _ ho' _ _ _ _ _=>rw[ho] at ho'; simp at ho'
  · simp at ha
theorem Bw {i t:Nat} (h:stays all i t=true):∀ o∈all.drop i,o.dst≠some t:=by
  intro o ho
  have:=List.all_eq_true.1 h o ho
  simpa using this
theorem vK {aps:List (Nat × Nat)} {T:Env} {K:Prop} (hA:tb aps T K):∀ p∈aps,jQ (T p.1) (T p.2):=by
  induction aps with
  | nil=>intro p hp; simp at hp
  | cons q l ih =>
    intro p hp
    rcases List.mem_cons.1 hp with rfl | hp
    · exact hA.1
    · exact ih hA.2 p hp
theorem tb.rest {aps:List (Nat × Nat)} {T:Env} {K:Prop} (hA:tb aps T K):K:=by
  induction aps with
  | nil=>exact hA
  | cons q l ih=>exact ih hA.2
theorem mr {T T':Env} {h h':aE} {recs:List Rec} (tr:Tr P n all all T h recs T' h') {i t:Nat} {o:Oper} (ho:all[i]?=some o) (hs:stays all i t=true) {r:Rec} (hr:recs[i]?=some r) :
    ∃ T1 h1 v h2,cM P n all o T1 h1 v h2 r.rd r.wr r.call∧r.lo=h1.length∧r.hi=h2.length∧T1 t=T' t:=by
  obtain ⟨T1,h1,v,h2,rd,wr,call,recs2,e1,e2,e3,e4,e5,e6⟩:=tr.at_ i o ho
  rw[hr] at e1
  have e1:=Option.some.inj e1
  subst e1
  refine ⟨T1,h1,v,h2,e2,rfl,rfl,?_⟩
  have hk:=Bw hs
  have hi:i < all.length:=(List.getElem?_eq_some_iff.1 ho).1
  have ho':all[i]=o:=(List.getElem?_eq_some_iff.1 ho).2
  rw[List.drop_eq_getElem_cons hi,ho'] at hk
  rw[e4.keep fun o' ho'=>hk o' (by simp[ho'])]
  have:=hk o (by simp)
  cases hdst:o.dst with
  | none=>rfl
  | some d=>simp only[Env.put]; rw[if_neg]; rintro rfl; exact this hdst
theorem uS {i a b j c d:Nat} (h:jQ (.ptr i a b) (.ptr j c d)):i≠j:=h
theorem xC {i a b j c d e:Nat} (h:jQ (.ptr i a b) (.sl j c d e)):i≠j:=h
theorem nP {o:Oper} {T:Env} {h h':aE} {v:V} {rd wr:List Nat} {call:Bool} {t:Nat} (st:cM P n all o T h v h' rd wr call) (ha:lP o=some t) :
    call=false∧∀ id,id∈wr→(∃ i j,T t=.ptr id i j)∨∃ a b c,T t=.sl id a b c:=by
  unfold lP at ha
  split at ha
  · rename_i t' hs
    simp at ha; subst ha
    unfold hD at hs
    split at hs
    · rename_i ty t2 x ho hg
      simp at hs; subst hs
      cases st with
      | skip _=>exact ⟨rfl,fun id hid=>by simp at hid⟩
      | op _ hop =>
        simp only[bJ,ho,mY] at hop
        split at hop
        · rename_i id i j hx
          split at hop
          · split at hop
            · simp only[Option.some.injEq,Prod.mk.injEq] at hop
              obtain ⟨_,he,_⟩:=hop
              rw[← he]
              refine ⟨rfl,fun id' hid=>?_⟩
              simp[aZ.wr] at hid; subst hid
              exact .inl ⟨i,j,hx⟩
            · simp at hop
          · simp at hop
        · simp at hop
      | er _ ho' _=>rw[ho] at ho'; simp at ho'
      | eh _ ho' _ _ _ _=>rw[ho] at ho'; simp at ho'
      | call _ ho' _ _ _ _ _=>rw[ho] at ho'; simp at ho'
    · simp at hs
  · unfold Gg at ha
    split at ha
    · rename_i args ats ho hg
      split at ha
      · rename_i t2 y hl
        simp at ha; subst ha
        cases st with
        | skip _=>exact ⟨rfl,fun id hid=>by simp at hid⟩
        | op _ hop =>
          simp only[bJ,ho,hl] at hop
          split at hop
          · unfold lO at hop
            split at hop
            · split at hop
              · simp at hop
              · split at hop
                · split at hop <;> first | (simp only[Option.some.injEq,Prod.mk.injEq] at hop; obtain ⟨_,he,_⟩:=hop; rw[← he]; exact ⟨rfl,fun id' hid=>by simp[aZ.wr] at hid⟩) | simp at hop
                · split at hop
                  · simp at hop
                  · split at hop
                    · split at hop
                      · simp only[Option.some.injEq,Prod.mk.injEq] at hop
                        obtain ⟨_,he,_⟩:=hop
                        rw[← he]; exact ⟨rfl,fun id' hid=>by simp[aZ.wr] at hid⟩
                      · simp at hop
                    · rename_i id off len esz hx
                      split at hop
                      · split at hop
                        · simp only[Option.some.injEq,Prod.mk.injEq] at hop
                          obtain ⟨_,he,_⟩:=hop
                          rw[← he]
                          refine ⟨rfl,fun id' hid=>?_⟩
                          simp[aZ.wr] at hid; subst hid
                          exact .inr ⟨off,len,esz,hx⟩
                        · simp at hop
                      · simp at hop
                    · simp at hop
            · simp at hop
          · simp at hop
        | er _ ho' _=>rw[ho] at ho'; simp at ho'
        | eh _ ho' _ _ _ _=>rw[ho] at ho'; simp at ho'
        | call _ ho' _ _ _ _ _=>rw[ho] at ho'; simp at ho'
      · simp at ha
    · simp at ha
theorem He {o:Oper} {T:Env} {h h':aE} {v:V} {rd wr:List Nat} {call:Bool} (st:cM P n all o T h v h' rd wr call) (ha:BE o=true):rd=[]∧wr=[]∧call=false:=by
  unfold BE at ha
  cases st with
  | skip _=>exact ⟨rfl,rfl,rfl⟩
  | op _ hop =>
    split at ha
    · rename_i ty len parts ho
      simp only[bJ,ho,eU] at hop
      have key:∀ {x:Option (V × aZ × List Nat)} {e:aZ},x=some (v,e,rd)→(∀ y,x=some y→y.2.1.wr=[]∧y.2.2=[])→rd=[]∧e.wr=[]:=fun hx hy=>⟨(hy _ hx).2,(hy _ hx).1⟩
      obtain ⟨k1,k2⟩:=key hop (by
        intro y hy
        repeat' (first | (split at hy) | (simp only[Option.some.injEq] at hy; subst hy; exact ⟨rfl,rfl⟩) | (simp at hy; done)))
      exact ⟨k1,k2,rfl⟩
    · rename_i e ho
      simp only[bJ,ho] at hop
      split at hop
      · unfold iW at hop
        split at hop
        · simp only[Option.some.injEq,Prod.mk.injEq] at hop
          obtain ⟨_,he,hr⟩:=hop
          rw[← he,← hr]; exact ⟨rfl,rfl,rfl⟩
        · simp at hop
      · simp at hop
    · simp at ha
  | er _ ho _=>rw[ho] at ha; simp at ha
  | eh _ ho _ _ _ _=>rw[ho] at ha; simp at ha
  | call _ ho _ _ _ _ _=>rw[ho] at ha; simp at ha
theorem qT {o:Oper} {t:Nat} (h:hD o=some t):lP o=some t:=by unfold lP; rw[h]
theorem Fp {T T':Env} {h h':aE} {recs:List Rec} (tr:Tr P n all all T h recs T' h') {i k:Nat} {a b:Rec} {p:Nat × Nat} (hp:wW all i k=some p) (hA:jQ (T' p.1) (T' p.2)) (ha:recs[i]?=some a) (hb:recs[k]?=some b):oq a b:=by
  unfold wW at hp
  split at hp
  · rename_i oa ob hoa hob
    split at hp
    · rename_i s t hl hs
      split at hp
      · rename_i hst
        simp only[Bool.and_eq_true] at hst
        simp at hp; subst hp
        obtain ⟨Ta,ha1,va,ha2,sa,la1,la2,ea⟩:=mr tr hoa hst.1 ha
        obtain ⟨Tb,hb1,vb,hb2,sb,_,_,eb⟩:=mr tr hob hst.2 hb
        obtain ⟨l1,l2,l3,l4⟩:=rQ sa hl
        have hA:jQ (Ta s) (Tb t):=by rw[ea,eb]; exact hA
        refine ⟨fun id hid=>by simp[l1] at hid,fun id hid hr=>?_,fun hc=>by simp[l2] at hc,fun _=>l1,fun id _ hx=>by omega⟩
        obtain ⟨i',j',e1⟩:=l4 id hr
        rw[e1] at hA
        rcases (nP sb (qT hs)).2 id hid with ⟨c,d,hy⟩ | ⟨c,d,e,hy⟩
        · rw[hy] at hA; exact uS hA rfl
        · rw[hy] at hA; exact xC hA rfl
      · simp at hp
    · split at hp
      · rename_i t s hs hl
        split at hp
        · rename_i hst
          simp only[Bool.and_eq_true] at hst
          simp at hp; subst hp
          obtain ⟨Ta,ha1,va,ha2,sa,la1,la2,ea⟩:=mr tr hoa hst.1 ha
          obtain ⟨Tb,hb1,vb,hb2,sb,lb1,lb2,eb⟩:=mr tr hob hst.2 hb
          obtain ⟨l1,l2,l3,l4⟩:=rQ sb hl
          have hA:jQ (Tb s) (Ta t):=by rw[ea,eb]; exact hA
          refine ⟨fun id hid hr=>?_,fun id hid=>by simp[l1] at hid,fun hc=>l1,fun hc=>by simp[l2] at hc,fun id hid=>by simp[l1] at hid⟩
          obtain ⟨i',j',e1⟩:=l4 id hr
          rw[e1] at hA
          rcases (nP sa (qT hs)).2 id hid with ⟨c,d,hy⟩ | ⟨c,d,e,hy⟩
          · rw[hy] at hA; exact uS hA rfl
          · rw[hy] at hA; exact xC hA rfl
        · simp at hp
      · simp at hp
  · simp at hp
theorem DU {T T':Env} {h h':aE} {recs:List Rec} (tr:Tr P n all all T h recs T' h') {i k:Nat} {a b:Rec} {p:Nat × Nat} (hp:uT all i k=some p) (hA:jQ (T' p.1) (T' p.2)) (ha:recs[i]?=some a) (hb:recs[k]?=some b):oq a b:=by
  unfold uT at hp
  split at hp
  · rename_i oa ob hoa hob
    split at hp
    · rename_i s t hl hs
      split at hp
      · rename_i hst
        simp only[Bool.and_eq_true] at hst
        simp at hp; subst hp
        obtain ⟨Ta,ha1,va,ha2,sa,la1,la2,ea⟩:=mr tr hoa hst.1 ha
        obtain ⟨Tb,hb1,vb,hb2,sb,_,_,eb⟩:=mr tr hob hst.2 hb
        obtain ⟨l1,l2,l3,l4⟩:=rQ sa hl
        have hA:jQ (Ta s) (Tb t):=by rw[ea,eb]; exact hA
        refine ⟨fun id hid=>by simp[l1] at hid,fun id hid hr=>?_,fun hc=>by simp[l2] at hc,fun _=>l1,fun id _ hx=>by omega⟩
        obtain ⟨i',j',e1⟩:=l4 id hr
        rw[e1] at hA
        rcases (nP sb hs).2 id hid with ⟨c,d,hy⟩ | ⟨c,d,e,hy⟩
        · rw[hy] at hA; exact uS hA rfl
        · rw[hy] at hA; exact xC hA rfl
      · simp at hp
    · split at hp
      · rename_i t s hs hl
        split at hp
        · rename_i hst
          simp only[Bool.and_eq_true] at hst
          simp at hp; subst hp
          obtain ⟨Ta,ha1,va,ha2,sa,la1,la2,ea⟩:=mr tr hoa hst.1 ha
          obtain ⟨Tb,hb1,vb,hb2,sb,lb1,lb2,eb⟩:=mr tr hob hst.2 hb
          obtain ⟨l1,l2,l3,l4⟩:=rQ sb hl
          have hA:jQ (Tb s) (Ta t):=by rw[ea,eb]; exact hA
          refine ⟨fun id hid hr=>?_,fun id hid=>by simp[l1] at hid,fun hc=>l1,fun hc=>by simp[l2] at hc,fun id hid=>by simp[l1] at hid⟩
          obtain ⟨i',j',e1⟩:=l4 id hr
          rw[e1] at hA
          rcases (nP sa hs).2 id hid with ⟨c,d,hy⟩ | ⟨c,d,e,hy⟩
          · rw[hy] at hA; exact uS hA rfl
          · rw[hy] at hA; exact xC hA rfl
        · simp at hp
      · simp at hp
  · simp at hp
theorem FX {l:List (Nat × Nat)} {aps:List (Nat × Nat)} (h:xb all l=some aps):∀ q∈l,∃ p∈aps,wW all q.1 q.2=some p:=by
  induction l generalizing aps with
  | nil=>intro q hq; simp at hq
  | cons x r ih =>
    obtain ⟨i,k⟩:=x
    simp only[xb] at h
    split at h
    · rename_i p l' h1 h2
      simp at h; subst h
      intro q hq
      rcases List.mem_cons.1 hq with rfl | hq
      · exact ⟨p,by simp,h1⟩
      · obtain ⟨p',hp',e⟩:=ih h2 q hq
        exact ⟨p',by simp[hp'],e⟩
    · simp at h
theorem Ed {l:List (Nat × Nat)} {aps:List (Nat × Nat)} (h:qN all l=some aps):∀ q∈l,∃ p∈aps,uT all q.1 q.2=some p:=by
  induction l generalizing aps with
  | nil=>intro q hq; simp at hq
  | cons x r ih =>
    obtain ⟨i,k⟩:=x
    simp only[qN] at h
    split at h
    · rename_i p l' h1 h2
      simp at h; subst h
      intro q hq
      rcases List.mem_cons.1 hq with rfl | hq
      · exact ⟨p,by simp,h1⟩
      · obtain ⟨p',hp',e⟩:=ih h2 q hq
        exact ⟨p',by simp[hp'],e⟩
    · simp at h
theorem Gy {ls:List Nat} {recs:List Rec} {T T':Env} {hp hp':aE} {aps:List (Nat × Nat)} (tr:Tr P n all all T hp recs T' hp') (h:xb all (gW all ls)=some aps) (hA:∀ p∈aps,jQ (T' p.1) (T' p.2)) (hl:ls.length=recs.length)
    (hr:∀ (i x:Nat) (r:Rec),ls[i]?=some x→recs[i]?=some r→im x r.rd r.wr r.call r.lo r.hi):pY all recs:=by
  intro i k a b hik ha hb ho
  have hi:i < recs.length:=(List.getElem?_eq_some_iff.1 ha).1
  have hk:k < recs.length:=(List.getElem?_eq_some_iff.1 hb).1
  have la:=hr i _ a (List.getElem?_eq_getElem (by omega)) ha
  have lb:=hr k _ b (List.getElem?_eq_getElem (by omega)) hb
  have mi:(ls[i]'(by omega),i)∈ls.zipIdx:=by rw[List.mem_zipIdx_iff_getElem?]; simp[List.getElem?_eq_getElem (show i < ls.length by omega)]
  have mk:(ls[k]'(by omega),k)∈ls.zipIdx:=by rw[List.mem_zipIdx_iff_getElem?]; simp[List.getElem?_eq_getElem (show k < ls.length by omega)]
  by_cases h1:um all (ls[i]'(by omega)) i (ls[k]'(by omega)) k=true
  · unfold um at h1
    simp only[hik,decide_true,Bool.not_true,ho,Bool.false_or,Bool.or_eq_true,beq_iff_eq,Bool.and_eq_true,decide_eq_true_eq] at h1
    rcases h1 with ((h1 | h1) | h1) | h1
    · obtain ⟨e1,e2,e3,e4⟩:=la.1 h1
      exact ⟨fun id hid=>by simp[e2] at hid,fun id _=>by simp[e1],fun hc=>by simp[e3] at hc,fun _=>e2,fun id _ hx=>by omega⟩
    · obtain ⟨e1,e2,e3,e4⟩:=lb.1 h1
      exact ⟨fun id _=>by simp[e1],fun id hid=>by simp[e2] at hid,fun _=>e2,fun hc=>by simp[e3] at hc,fun id hid=>by simp[e2] at hid⟩
    · have e1:=la.2 h1.1
      have e2:=lb.2 h1.2
      exact ⟨fun id hid=>by simp[e1] at hid,fun id hid=>by simp[e2] at hid,fun _=>e2,fun _=>e1,fun id hid=>by simp[e2] at hid⟩
    · exact rm tr h1 ha hb
  · have hm:(i,k)∈gW all ls:=by
      unfold gW
      rw[List.mem_flatMap]
      refine ⟨_,mi,?_⟩
      rw[List.mem_filterMap]
      exact ⟨_,mk,by simp only; rw[if_neg h1]⟩
    obtain ⟨p,hp,e⟩:=FX h (i,k) hm
    exact Fp tr e (hA p hp) ha hb
theorem yS {P:Program} {t:TypeId} {id:Nat} {q:V} {ok:Bool} {H1 H2:View} (h:H1 id=H2 id):dp P t (.mp id) q ok H1=dp P t (.mp id) q ok H2:=by
  unfold dp
  simp only[h]
theorem Dv {P:Program} {t:TypeId} {id:Nat} {q:V} {H1 H2:View} (h:H1 id=H2 id):cP P t (.mp id) q H1=cP P t (.mp id) q H2:=by
  cases hm:cY P t with
  | none=>simp only[cP,hm]
  | some x=>simp only[cP,hm,h]
theorem GD {P:Program} {t:TypeId} {id:Nat} {q:V} {H:View} {v:V} {az:aZ} {rd:List Nat} (h:dp P t (.mp id) q false H=some (v,az,rd)):az=.none∧rd=[id]:=by
  simp only[dp,Bool.false_eq_true,if_false] at h
  repeat' (first | (simp only[Option.some.injEq,Prod.mk.injEq] at h; exact ⟨h.2.1.symm,h.2.2.symm⟩) | (split at h) | (simp at h; done))
theorem FE {P:Program} {t:TypeId} {id:Nat} {q:V} {H:View} {v:V} {az:aZ} {rd:List Nat} (h:cP P t (.mp id) q H=some (v,az,rd)):∃ obj,az=.dM id obj:=by
  cases hm:cY P t with
  | none=>simp[cP,hm] at h
  | some x =>
    simp only[cP,hm] at h
    repeat' (first | (simp only[Option.some.injEq,Prod.mk.injEq] at h; exact ⟨_,h.2.1.symm⟩) | (split at h) | (simp at h; done))
theorem AV {o:Oper} {T:Env} {h h':aE} {v:V} {rd wr:List Nat} {call:Bool} (st:cM P n all o T h v h' rd wr call) (hg:cm n all T o=some true) (hb:∀ e x,o.op≠.box e x) (hc:∀ s d x,o.op≠.convert s d x) (hl:∀ c,o.op≠.call c) :
    ∃ az,bJ P o T h.view h.length=some (v,az,rd)∧h'=az.apply h∧wr=az.wr∧call=false:=by
  cases st with
  | skip hs=>rw[hg] at hs; simp at hs
  | op _ hop=>exact ⟨_,hop,rfl,rfl,rfl⟩
  | er _ ho _=>exact absurd ho (hb _ _)
  | eh _ ho _ _ _ _=>exact absurd ho (hc _ _ _)
  | call _ ho _ _ _ _ _=>exact absurd ho (hl _)
theorem H0 {recs:List Rec} {Ts:Nat→Env} {hs:Nat→aE} {vs:Nat→V} (hst:vM P n all recs Ts hs vs) (hl:recs.length=all.length) {k:Nat} (hk:k≤all.length) (hw:∀ j r,j < k→recs[j]?=some r→r.wr=[]) :
    ∀ j,j≤k→(hs 0).length≤(hs j).length∧∀ id,id < (hs 0).length→(hs j).view id=(hs 0).view id:=by
  intro j
  induction j with
  | zero=>intro _; exact ⟨Nat.le_refl _,fun _ _=>rfl⟩
  | succ j ih =>
    intro hj
    obtain ⟨l1,l2⟩:=ih (by omega)
    obtain ⟨st,_,_,_,_⟩:=hst j all[j] (recs[j]'(by omega)) (List.getElem?_eq_getElem (by omega)) (List.getElem?_eq_getElem (by omega))
    refine ⟨Nat.le_trans l1 (po st),fun id hid=>?_⟩
    rw[nJ st (Nat.lt_of_lt_of_le hid l1) (by rw[hw j _ (by omega) (List.getElem?_eq_getElem (by omega))]; simp)]
    exact l2 id hid
theorem l5 {recs:List Rec} {Ts:Nat→Env} {hs:Nat→aE} {vs:Nat→V} (hst:vM P n all recs Ts hs vs) (hl:recs.length=all.length) {i t:Nat} (h:stays all i t=true):∀ j,i≤j→j≤all.length→Ts j t=Ts i t:=by
  intro j hij hj
  refine uC (vs:=vs) (N:=all.length) (fun k o hk=>?_) rfl i j hij hj fun k o h1 h2 h3=>Bw h o (by
    rw[List.mem_iff_getElem?]
    exact ⟨k - i,by rw[List.getElem?_drop,show i+(k - i)=k by omega]; exact h3⟩)
  have hk':k < all.length:=(List.getElem?_eq_some_iff.1 hk).1
  exact (hst k o (recs[k]'(by omega)) hk (List.getElem?_eq_getElem (by omega))).2.2.1
theorem zX {ls:List Nat} {recs:List Rec} {T T':Env} {hp hp':aE} {aps:List (Nat × Nat)} {tp:Option (Nat × Nat)} (tr:Tr P n all all T hp recs T' hp') (h:qN all (zQ all ls tp)=some aps) (hA:∀ p∈aps,jQ (T' p.1) (T' p.2)) (hl:ls.length=recs.length)
    (hr:∀ (i x:Nat) (r:Rec),ls[i]?=some x→recs[i]?=some r→im x r.rd r.wr r.call r.lo r.hi) (htol:∀ p,tp=some p→∃ tol,zT all ls p.1 p.2=some tol∧A9 P tol.1 (T' tol.2.1) (T' tol.2.2) hp.view):Du P n all recs T T' hp:=by
  have main:∀ i k a b,i < k→recs[i]?=some a→recs[k]?=some b→ordered (dH all []) i k=false→tp≠some (i,k)→oq a b:=by
    intro i k a b hik ha hb ho hne
    have hi:i < recs.length:=(List.getElem?_eq_some_iff.1 ha).1
    have hk:k < recs.length:=(List.getElem?_eq_some_iff.1 hb).1
    have la:=hr i _ a (List.getElem?_eq_getElem (by omega)) ha
    have lb:=hr k _ b (List.getElem?_eq_getElem (by omega)) hb
    have mi:(ls[i]'(by omega),i)∈ls.zipIdx:=by rw[List.mem_zipIdx_iff_getElem?]; simp[List.getElem?_eq_getElem (show i < ls.length by omega)]
    have mk:(ls[k]'(by omega),k)∈ls.zipIdx:=by rw[List.mem_zipIdx_iff_getElem?]; simp[List.getElem?_eq_getElem (show k < ls.length by omega)]
    by_cases h1:um all (ls[i]'(by omega)) i (ls[k]'(by omega)) k=true
    · unfold um at h1
      simp only[hik,decide_true,Bool.not_true,ho,Bool.false_or,Bool.or_eq_true,beq_iff_eq,Bool.and_eq_true,decide_eq_true_eq] at h1
      rcases h1 with ((h1 | h1) | h1) | h1
      · obtain ⟨e1,e2,e3,e4⟩:=la.1 h1
        exact ⟨fun id hid=>by simp[e2] at hid,fun id _=>by simp[e1],fun hc=>by simp[e3] at hc,fun _=>e2,fun id _ hx=>by omega⟩
      · obtain ⟨e1,e2,e3,e4⟩:=lb.1 h1
        exact ⟨fun id _=>by simp[e1],fun id hid=>by simp[e2] at hid,fun _=>e2,fun hc=>by simp[e3] at hc,fun id hid=>by simp[e2] at hid⟩
      · have e1:=la.2 h1.1
        have e2:=lb.2 h1.2
        exact ⟨fun id hid=>by simp[e1] at hid,fun id hid=>by simp[e2] at hid,fun _=>e2,fun _=>e1,fun id hid=>by simp[e2] at hid⟩
      · exact rm tr h1 ha hb
    · have hm:(i,k)∈gW all ls:=by
        unfold gW
        rw[List.mem_flatMap]
        refine ⟨_,mi,?_⟩
        rw[List.mem_filterMap]
        exact ⟨_,mk,by simp only; rw[if_neg h1]⟩
      by_cases hn:newAt all k=true
      · unfold newAt at hn
        split at hn
        · rename_i ob hob
          obtain ⟨T1,h1',v,h2,rd,wr,call,recs2,e1,e2,_⟩:=tr.at_ k ob hob
          rw[hb] at e1
          have e1:=Option.some.inj e1
          subst e1
          obtain ⟨n1,n2,n3⟩:=He e2 hn
          exact ⟨fun id _=>by simp[n1],fun id hid=>by simp[n2] at hid,fun _=>n2,fun hc=>by simp[n3] at hc,fun id hid=>by simp[n2] at hid⟩
        · simp at hn
      · obtain ⟨p,hp,e⟩:=Ed h (i,k) (by
          unfold zQ
          rw[List.mem_filter]
          refine ⟨hm,?_⟩
          simp only[Bool.and_eq_true,Bool.not_eq_true',bne_iff_ne,ne_eq]
          exact ⟨by simpa using hn,hne⟩)
        exact DU tr e (hA p hp) ha hb
  cases tp with
  | none=>exact pY.JY fun i k a b h1 h2 h3 h4=>main i k a b h1 h2 h3 h4 (by simp)
  | some p =>
    obtain ⟨i0,k0⟩:=p
    obtain ⟨tol,hto,htv⟩:=htol _ rfl
    intro Ts hs vs eT0 eh0 eTN hrl hst i
    by_cases hi:i=i0
    · subst hi
      refine ⟨some k0,fun k a b h1 h2 h3 h4 h5=>main i k a b h1 h2 h3 h4 (fun e=>h5 (by simp at e; rw[e])),fun k a b o hk ha hb ho=>?_⟩
      simp at hk; subst hk
      unfold zT at hto
      simp only at hto
      split at hto
      · rename_i oa ob hoa hob
        rw[ho] at hoa
        have hoa:=Option.some.inj hoa
        subst hoa
        split at hto
        · rename_i t m q t' m' q' hop1 hop2 hg1 hg2
          split at hto
          · rename_i hcond
            simp only[Bool.and_eq_true,beq_iff_eq,decide_eq_true_eq,List.all_eq_true,List.mem_range] at hcond
            obtain ⟨⟨⟨⟨⟨⟨⟨⟨rfl,rfl⟩,rfl⟩,s1⟩,s2⟩,s3⟩,s4⟩,hik⟩,hloud⟩:=hcond
            simp only[Option.some.injEq] at hto
            subst hto
            simp only at htv
            have hkl:k0 < all.length:=(List.getElem?_eq_some_iff.1 hob).1
            have hwr:∀ j r,j < k0→recs[j]?=some r→r.wr=[]:=fun j r hj hrj=>by
              have h1:=hloud j hj
              have hj':j < ls.length:=by omega
              rw[List.getD_eq_getElem?_getD,List.getElem?_eq_getElem hj'] at h1
              exact (hr j _ r (List.getElem?_eq_getElem hj') hrj).2 h1
            have hsame:=H0 hst hrl (Nat.le_of_lt hkl) hwr
            have em:∀ j,i≤j→j≤all.length→Ts j m=T' m:=fun j h1 h2=>by
              rw[← eTN,l5 hst hrl s1 j h1 h2,l5 hst hrl s1 all.length (by omega) (Nat.le_refl _)]
            have eq:∀ j,i≤j→j≤all.length→Ts j q=T' q:=fun j h1 h2=>by
              rw[← eTN,l5 hst hrl s2 j h1 h2,l5 hst hrl s2 all.length (by omega) (Nat.le_refl _)]
            obtain ⟨sti,_,_,hlo,hhi⟩:=hst i o a ho ha
            obtain ⟨stk,_,_,_,_⟩:=hst k0 ob b hob hb
            have gi:cm n all (Ts i) o=some true:=by unfold cm; rw[hg1]
            have gk:cm n all (Ts k0) ob=some true:=by unfold cm; rw[hg2]
            unfold A9 at htv
            split at htv
            · rename_i id hid
              obtain ⟨⟨es0,c0,hmap⟩,htv⟩:=htv
              have hidl:id < hp.length:=gv (by rw[hmap]; simp)
              have hvk:(hs k0).view id=hp.view id:=by rw[(hsame k0 (Nat.le_refl _)).2 id (by rw[eh0]; exact hidl),eh0]
              have hvi:(hs i).view id=hp.view id:=by rw[(hsame i (Nat.le_of_lt hik)).2 id (by rw[eh0]; exact hidl),eh0]
              obtain ⟨effi,hopi,hi',wri,cai⟩:=AV sti gi (by rw[hop1]; simp) (by rw[hop1]; simp) (by rw[hop1]; simp)
              obtain ⟨effk,hopk,hk',wrk,cak⟩:=AV stk gk (by rw[hop2]; simp) (by rw[hop2]; simp) (by rw[hop2]; simp)
              simp only[bJ,hop1] at hopi
              simp only[bJ,hop2] at hopk
              have e1:ev (Ts i) (.tmp m)=.mp id:=(em i (Nat.le_refl _) (by omega)).trans hid
              have e2:ev (Ts i) (.tmp q)=T' q:=eq i (Nat.le_refl _) (by omega)
              have e3:ev (Ts k0) (.tmp m)=.mp id:=(em k0 (by omega) (by omega)).trans hid
              have e4:ev (Ts k0) (.tmp q)=T' q:=eq k0 (by omega) (by omega)
              rw[e1,e2] at hopi
              rw[e3,e4,Dv hvk] at hopk
              obtain ⟨l1,l2⟩:=GD hopi
              obtain ⟨obj,l3⟩:=FE hopk
              subst l1 l3
              have hkb:(hs (k0+1)).view id=obj:=by
                rw[hk',iD (fun id' hid'=>by
                  simp only[aZ.wr,List.mem_singleton] at hid'
                  subst hid'
                  rw[hvk,hmap]; simp)]
                simp[aZ.view,View.set]
              refine ⟨hik,wri,cai,by rw[hlo,hhi,hi']; rfl,fun g hg hgv=>?_⟩
              have hidi:id < (hs i).length:=gv (by rw[hvi,hmap]; simp)
              have hgid:g.view id=(hp.view.set id obj) id:=by
                rw[hgv id hidi,wrk,if_pos (by simp[aZ.wr]),hkb]
                simp[View.set]
              have hlk:=htv _ _ _ hopk
              have hfin:bJ P o (Ts i) g.view g.length=some (vs i,.none,a.rd):=by
                simp only[bJ,hop1]
                rw[e1,e2,yS hgid,hlk,← yS hvi]
                exact hopi
              exact .op gi hfin
            · exact htv.elim
          · simp at hto
        · simp at hto
      · simp at hto
    · exact ⟨none,fun k a b h1 h2 h3 h4 _=>main i k a b h1 h2 h3 h4 (fun e=>hi (by simp at e; exact e.1.symm)),fun k a b o h1=>by simp at h1⟩
theorem Hs (hm:P.follows .mixedOrders=true) {fz:Fz} {id:Nat} {ops:Array Oper} {sc:SC} {T:Env} {h:aE} {Q:Exit→Env→View→Prop} (hc:D9 P n fz ops.toList=some sc) (hw:wS P sc T h.view Q) :
    ∃ e T' h',ch P n (.region id ops true) T h e T' h'∧(fW h h'∧h.length≤h'.length)∧Q e T' h'.view:=by
  unfold D9 at hc
  split at hc
  · simp at hc
  · rename_i l hl
    split at hc
    · simp at hc
    · rename_i hok
      have hok:(group l).all pE=true:=by simpa using hok
      have hl':cw P n ops.toList fz ops.toList=some (gL (group l)):=by rw[dX]; exact hl
      split at hc
      · rename_i ht
        simp only[Option.map_eq_some_iff] at hc
        obtain ⟨aps,hap,rfl⟩:=hc
        obtain ⟨recs,T',h',tr,hst,hk,hro⟩:=tX (group l) ops.toList T h hl' hok hw
        rw[dX] at hro
        refine ⟨.normal,T',h',?_,hst,hk.rest⟩
        have hcf:pY ops.toList recs:=Gy tr hap (vK hk) (by simpa using hro.1) (fun i x r hx hr=>by
          simp only[List.getElem?_map,Option.map_eq_some_iff] at hx
          obtain ⟨s,hs,rfl⟩:=hx
          exact hro.2 i s r hs hr)
        simpa using th hm (id:=id) tr ht hcf
      · simp at hc
theorem GF (hm:P.follows .mixedOrders=true) {fz:Fz} {id:Nat} {ops:Array Oper} {sc:SC} {T:Env} {h:aE} {Q:Exit→Env→View→Prop} (hc:DN P n fz ops.toList=some sc) (hw:wS P sc T h.view Q) :
    ∃ e T' h',ch P n (.region id ops true) T h e T' h'∧(fW h h'∧h.length≤h'.length)∧Q e T' h'.view:=by
  unfold DN at hc
  split at hc
  · simp at hc
  · rename_i l hl
    split at hc
    · simp at hc
    · rename_i hok
      have hok:(group l).all pE=true:=by simpa using hok
      have hl':cw P n ops.toList fz ops.toList=some (gL (group l)):=by rw[dX]; exact hl
      split at hc
      · rename_i ht
        split at hc
        · simp only[Option.map_eq_some_iff] at hc
          obtain ⟨aps,hap,rfl⟩:=hc
          obtain ⟨recs,T',h',tr,hst,hk,hro⟩:=tX (group l) ops.toList T h hl' hok hw
          rw[dX] at hro
          refine ⟨.normal,T',h',?_,hst,hk.rest⟩
          have hcf:=zX tr hap (vK hk) (by simpa using hro.1) (fun i x r hx hr=>by
            simp only[List.getElem?_map,Option.map_eq_some_iff] at hx
            obtain ⟨s,hs,rfl⟩:=hx
            exact hro.2 i s r hs hr) (fun p hp=>by simp at hp)
          simpa using sf hm (id:=id) tr ht hcf
        · rename_i p hp
          split at hc
          · rename_i tol hto
            simp only[Option.map_eq_some_iff] at hc
            obtain ⟨aps,hap,rfl⟩:=hc
            obtain ⟨recs,T',h',tr,hst,hk,hro⟩:=tX (group l) ops.toList T h hl' hok hw
            rw[dX] at hro
            refine ⟨.normal,T',h',?_,hst,hk.2.rest⟩
            have hcf:=zX tr hap (vK hk.2) (by simpa using hro.1) (fun i x r hx hr=>by
              simp only[List.getElem?_map,Option.map_eq_some_iff] at hx
              obtain ⟨s,hs,rfl⟩:=hx
              exact hro.2 i s r hs hr) (fun p' hp'=>by
                simp only[Option.some.injEq] at hp'
                subst hp'
                exact ⟨tol,hto,hk.1⟩)
            simpa using sf hm (id:=id) tr ht hcf
          · simp at hc
      · simp at hc
theorem sj (hm:P.follows .mixedOrders=true) {fz:Fz} {id:Nat} {ops:Array Oper} {draw quiet:Bool} {sc:SC} {T:Env} {h:aE} {Q:Exit→Env→View→Prop} (hc:uH P n fz ops.toList draw quiet=some sc) (hw:wS P sc T h.view Q) :
    ∃ e T' h',ch P n (.region id ops draw) T h e T' h'∧(fW h h'∧h.length≤h'.length)∧Q e T' h'.view:=by
  unfold uH at hc
  split at hc
  · simp at hc
  · rename_i l hl
    split at hc
    · simp at hc
    · rename_i hok
      have hok:(group l).all pE=true:=by simpa using hok
      have hl':cw P n ops.toList fz ops.toList=some (gL (group l)):=by rw[dX]; exact hl
      have key:sD P quiet (group l) T h.view (Q .normal)→(draw=true→jd ops.toList=true∧zK ops.toList (l.map fun s=>fF P quiet s.b)=true) →
          ∃ e T' h',ch P n (.region id ops draw) T h e T' h'∧(fW h h'∧h.length≤h'.length)∧Q e T' h'.view:=by
        intro hw hdr
        obtain ⟨recs,T',h',tr,hst,hk,hro⟩:=tX (group l) ops.toList T h hl' hok hw
        rw[dX] at hro
        refine ⟨.normal,T',h',?_,hst,hk⟩
        cases hd:draw with
        | false=>simpa using Aa (id:=id) tr
        | true =>
          obtain ⟨h1,h2⟩:=hdr hd
          have hcf:pY ops.toList recs:=GM tr h2 (by simpa using hro.1) (fun i x r hx hr=>by
            simp only[List.getElem?_map,Option.map_eq_some_iff] at hx
            obtain ⟨s,hs,rfl⟩:=hx
            exact hro.2 i s r hs hr)
          simpa using th hm (id:=id) tr h1 hcf
      split at hc
      · rename_i hd
        split at hc
        · rename_i ht
          simp at hc; subst hc
          exact key hw (fun _=>by simpa using ht)
        · simp at hc
      · rename_i hd
        simp at hc; subst hc
        exact key hw (fun e=>absurd e hd)
theorem kf {a b:Option SC} {sc:SC} (h:orElse' a b=some sc):a=some sc∨b=some sc:=by
  cases a with
  | none=>exact .inr h
  | some x=>exact .inl h
theorem Gi (hm:P.follows .mixedOrders=true) {fz:List Nat} {id:Nat} {ops:Array Oper} {draw:Bool} {sc:SC} {T:Env} {h:aE} {Q:Exit→Env→View→Prop} (hc:DL P n fz ops.toList draw=some sc) (hw:wS P sc T h.view Q) :
    ∃ e T' h',ch P n (.region id ops draw) T h e T' h'∧(fW h h'∧h.length≤h'.length)∧Q e T' h'.view:=by
  unfold DL at hc
  rcases kf hc with h1 | h1
  · exact sj hm h1 hw
  · clear hc
    split at h1
    · rename_i hd
      subst hd
      rcases kf h1 with h0 | h1
      · split at h0
        · exact GF hm h0 hw
        · simp at h0
      rcases kf h1 with h2 | h2
      · exact Hs hm h2 hw
      · rcases kf h2 with h3 | h3
        · exact sj hm h3 hw
        · rcases kf h3 with h4 | h4
          · exact sj hm h4 hw
          · exact sj hm h4 hw
    · simp at h1
theorem yz {e:Exit} {a b:Prop} (h:wN e a b):(e=.normal∧a)∨(e≠.normal∧b):=by
  cases e with
  | normal=>exact .inl ⟨rfl,h⟩
  | _=>exact .inr ⟨by simp,h⟩
theorem JO (hm:P.follows .mixedOrders=true) {fz:List Nat} : ∀ (c:Code) (sc:SC),fI P n fz c=some sc→∀ (T:Env) (h:aE) (Q:Exit→Env→View→Prop),wS P sc T h.view Q →
    ∃ e T' h',ch P n c T h e T' h'∧(fW h h'∧h.length≤h'.length)∧Q e T' h'.view:=by
  intro c
  induction c with
  | skip=>intro sc hc T h Q hw; simp[fI] at hc; subst hc; exact ⟨_,T,h,.skip,⟨.refl _,Nat.le_refl _⟩,hw⟩
  | region id ops draw=>intro sc hc T h Q hw; exact Gi hm hc hw
  | seq x y ihx ihy =>
    intro sc hc T h Q hw
    simp only[fI] at hc
    split at hc
    · rename_i a b h1 h2
      simp at hc; subst hc
      simp only[wS] at hw
      obtain ⟨e,T1,h1',hx,st1,hq⟩:=ihx a h1 T h _ hw
      rcases yz hq with ⟨rfl,hq⟩ | ⟨hne,hq⟩
      · obtain ⟨e2,T2,h2',hy,st2,hq2⟩:=ihy b h2 T1 h1' _ hq
        exact ⟨e2,T2,h2',hx.seq hy,⟨st1.1.trans st2.1 st1.2,Nat.le_trans st1.2 st2.2⟩,hq2⟩
      · exact ⟨e,T1,h1',hx.CX hne,st1,hq⟩
    · simp at hc
  | cond c x y ihx ihy =>
    intro sc hc T h Q hw
    simp only[fI] at hc
    split at hc
    · rename_i a b h1 h2
      simp at hc; subst hc
      simp only[wS] at hw
      split at hw
      · rename_i t ht
        have hT:pw (SX.of c) t T=T:=by
          unfold pw
          split
          · rename_i k hk
            rw[hk] at ht
            exact vI ht
          · rfl
        rw[SX.bQ] at ht
        cases t with
        | true =>
          have:=hw.1 rfl
          rw[hT] at this
          obtain ⟨e,T',h',hx,st,hq⟩:=ihx a h1 T h Q this
          exact ⟨e,T',h',.cond ht hx,st,hq⟩
        | false =>
          have:=hw.2 rfl
          rw[hT] at this
          obtain ⟨e,T',h',hx,st,hq⟩:=ihy b h2 T h Q this
          exact ⟨e,T',h',.cond ht hx,st,hq⟩
      · exact hw.elim
    · simp at hc
  | block id c ih =>
    intro sc hc T h Q hw
    simp only[fI,Option.map_eq_some_iff] at hc
    obtain ⟨a,h1,rfl⟩:=hc
    simp only[wS] at hw
    obtain ⟨e,T',h',hx,st,hq⟩:=ih a h1 T h _ hw
    exact ⟨_,T',h',hx.block,st,hq⟩
  | loop c ih =>
    intro sc hc T h Q hw
    simp only[fI,Option.map_eq_some_iff] at hc
    obtain ⟨a,h1,rfl⟩:=hc
    simp only[wS] at hw
    obtain ⟨I,⟨k,hk⟩,hstep⟩:=hw
    have go:∀ k T (h:aE),I k T h.view→∃ e T' h',l0 P n c T h e T' h'∧(fW h h'∧h.length≤h'.length)∧Q e T' h'.view:=by
      intro k
      induction k using Nat.strongRecOn with
      | ind k ihk =>
        intro T h hI
        obtain ⟨e,T1,h1',hx,st1,hq⟩:=ih a h1 T h _ (hstep k T h.view hI)
        rcases yz hq with ⟨rfl,k',hlt,hI'⟩ | ⟨hne,hq⟩
        · obtain ⟨e2,T2,h2',hy,st2,hq2⟩:=ihk k' hlt T1 h1' hI'
          exact ⟨e2,T2,h2',.step hx hy,⟨st1.1.trans st2.1 st1.2,Nat.le_trans st1.2 st2.2⟩,hq2⟩
        · exact ⟨e,T1,h1',.out hx hne,st1,hq⟩
    obtain ⟨e,T',h',hx,st,hq⟩:=go k T h hk
    exact ⟨e,T',h',.loop hx,st,hq⟩
  | exit id=>intro sc hc T h Q hw; simp[fI] at hc; subst hc; exact ⟨_,T,h,.exit,⟨.refl _,Nat.le_refl _⟩,hw⟩
  | ret=>intro sc hc T h Q hw; simp[fI] at hc; subst hc; exact ⟨_,T,h,.ret,⟨.refl _,Nat.le_refl _⟩,hw⟩
  | _=>intro sc hc; simp[fI] at hc
theorem JM {T:Env} {h:aE} {r:ResultVar} {l:List SR} {rest:List ResultVar} (hc:dJ P (r :: rest)=some l):∃ s l',l=s :: l'∧dJ P rest=some l'∧∀ K:V→Prop,wR T h.view s K→∃ v,oQ P T h r=some v∧K v:=by
  cases r with
  | tmp t =>
    simp only[dJ,Option.map_eq_some_iff] at hc
    obtain ⟨l',h1,rfl⟩:=hc
    exact ⟨.tmp t,l',rfl,h1,fun K hk=>⟨_,rfl,hk⟩⟩
  | cell a t =>
    simp only[dJ] at hc
    split at hc
    · rename_i k l' h1 h2
      simp at hc; subst hc
      refine ⟨.cell a k,l',rfl,h2,fun K hk=>?_⟩
      simp only[wR] at hk
      simp only[oQ,jt,q9 h1]
      split at hk
      · rename_i id i j ha
        split at hk
        · rename_i es hH
          obtain ⟨hlt,hk⟩:=hk
          obtain ⟨v,hv,hk⟩:=lM hk
          exact ⟨v,by rw[ha]; simp only[hH]; rw[if_pos hlt,hv]; rfl,hk⟩
        · exact hk.elim
      · rename_i e j ha
        obtain ⟨v,hv,hk⟩:=lM hk
        exact ⟨v,by rw[ha]; simp only; rw[hv]; rfl,hk⟩
      · exact hk.elim
    · simp at hc
theorem EF {T:Env} {h:aE} {K:List V→Prop} : ∀ (rs:List ResultVar) (l:List SR) (acc:List V),dJ P rs=some l→xz T h.view l acc K→∃ vs,iZ P T h rs=some vs∧K (acc ++ vs)
  | [],l,acc,hc,hw=>by simp[dJ] at hc; subst hc; exact ⟨[],rfl,by simpa [xz] using hw⟩
  | r :: rest,l,acc,hc,hw=>by
    obtain ⟨s,l',rfl,h1,h2⟩:=JM (T:=T) (h:=h) hc
    simp only[xz] at hw
    obtain ⟨v,hv,hk⟩:=h2 _ hw
    obtain ⟨vs,hvs,hk⟩:=EF rest l' (acc ++ [v]) h1 hk
    exact ⟨v :: vs,by simp[iZ,hv,hvs],by simpa using hk⟩
def wF (P:Program) (F:SF) (vs:List V) (H:View) (K:V→View→Prop):Prop :=
  vs.length≤F.n∧wS P F.code (iq vs) H fun e T' H'=>(e=.ret∨e=.normal)∧xz T' H' F.res [] fun l=>K (ah l) H'
theorem aB.of (hm:P.follows .mixedOrders=true) {f:FuncId} {fz:List Nat} {F:SF} (hF:aR P f fz=some F) {vs:List V} {H:View} {K:V→View→Prop} (hw:wF P F vs H K):aB P f vs H K:=by
  unfold aR at hF
  split at hF
  · rename_i fn hfn
    split at hF
    · rename_i c hb
      split at hF
      · rename_i sc rs h1 h2 h3
        simp at hF; subst hF
        refine ⟨h3,?_⟩
        rintro h rfl
        obtain ⟨e,T',h',hx,st,he,hr⟩:=JO hm c sc h1 _ h _ hw.2
        obtain ⟨vs',hvs,hk⟩:=EF _ _ [] h2 hr
        refine ⟨ah vs',h',bL.CM hfn hb hw.1 hx he ?_,st.1,by simpa using hk⟩
        unfold DX
        rw[hvs]
        cases vs' with
        | nil=>rfl
        | cons a l=>cases l <;> rfl
      · simp at hF
    · simp at hF
  · simp at hF
theorem aB.mono {f:FuncId} {vs:List V} {H:View} {K K':V→View→Prop} (h:aB P f vs H K) (hk:∀ r H',K r H'→K' r H'):aB P f vs H K' :=
  ⟨h.1,fun h0 e=>let ⟨r,h',a,s,b⟩:=h.2 h0 e; ⟨r,h',a,s,hk _ _ b⟩⟩
theorem aC.Hm {f:FuncId} {vs:List V} {H:View} {t:V} {K:V→View→Prop} (h:aC P f vs t) (hok:cp P f=true) (hk:K t H):zW P f vs H K :=
  ⟨hok,fun h0 e=>⟨t,h0,bL.fj h h0,fun _ _=>rfl,e ▸ hk⟩⟩
theorem aB.Hm {f:FuncId} {vs:List V} {H:View} {K:V→View→Prop} (h:aB P f vs H fun r H'=>(∀ id,H id≠.dead→H' id=H id)∧K r H'):zW P f vs H K :=
  ⟨h.1,fun h0 e=>by
    obtain ⟨r,h',ha,st,hf,hk⟩:=h.2 h0 e
    refine ⟨r,h',ha,fun id hid=>?_,hk⟩
    by_cases hd:h0.view id=.dead
    · rw[hd]; exact st id hid hd
    · rw[← e] at hf; exact hf id hd⟩
end
end Gv
namespace Gv
open Go
inductive cg {α:Type} (x:α):Type where
  | mk
def dD (s:ByteArray):List Int:=s.data.toList.map fun b=>(b.toNat:Int)
theorem de (s:ByteArray):s.size=(dD s).length:=by rw[dD,List.length_map,bsize]
def bm (P:Program) (c:SC) (T:Env) (H:View) (Q:Exit→Env→View→Prop) (_:cg (T,H,Q)):Prop:=wS P (.loop c) T H Q
def ax (P:Program) (quiet:Bool) (f:FuncId) (vs:List V) (H:View) (K:V→View→Prop) (_:cg (H,K)):Prop :=
  if quiet then zW P f vs H K else aB P f vs H K
def wM {α:Type} (v:α) (F:α→Prop) (_:cg F):Prop:=F v
def cL (v:V) (F:V→Prop) (_:cg F):Prop:=F v
def Ab (o:bC) (F:bC→Prop) (_:cg F):Prop:=F o
def mN {α:Type} (o:Option α) (F:Option α→Prop) (_:cg F):Prop:=F o
def aq (b:Bool) (A B:Prop) (_:cg (A,B)):Prop:=(b=true→A)∧(b=false→B)
theorem J0 {α:Type} (v:α) (F:α→Prop) (w:cg F):wM v F w=F v:=propext Iff.rfl
section
variable (F:V→Prop) (w:cg F)
theorem CU (v:Value):cL (.val v) F w=F (.val v):=propext Iff.rfl
theorem CI (k:Nat):cL (.emp k) F w=F (.emp k):=propext Iff.rfl
theorem CQ:cL .dy F w=F .dy:=propext Iff.rfl
theorem C1 (es:List (List V)):cL (.aV es) F w=F (.aV es):=propext Iff.rfl
theorem EL (a b c d:Nat):cL (.sl a b c d) F w=F (.sl a b c d):=propext Iff.rfl
theorem Ci (a b c:Nat):cL (.ptr a b c) F w=F (.ptr a b c):=propext Iff.rfl
theorem BI (e:List V) (j:Nat):cL (.aI e j) F w=F (.aI e j):=propext Iff.rfl
theorem ED (a:Nat):cL (.mp a) F w=F (.mp a):=propext Iff.rfl
theorem F3 (f:FuncId) (a b:List V):cL (.fn f a b) F w=F (.fn f a b):=propext Iff.rfl
theorem Cn (cs:List V):cL (.agg cs) F w=F (.agg cs):=propext Iff.rfl
theorem CO (cs:List V):cL (.bt cs) F w=F (.bt cs):=propext Iff.rfl
end
theorem CY (F:bC→Prop) (w:cg F) (k:Nat) (es:List (List V)):Ab (.arr k es) F w=F (.arr k es):=propext Iff.rfl
theorem CP (F:bC→Prop) (w:cg F) (es:List (V × V × Nat)) (k:Nat):Ab (.map es k) F w=F (.map es k):=propext Iff.rfl
theorem Bk {α:Type} (F:Option α→Prop) (w:cg F) (x:α):mN (some x) F w=F (some x):=propext Iff.rfl
theorem AI (A B:Prop) (w:cg (A,B)):aq true A B w=A:=by simp[aq]
theorem zf (A B:Prop) (w:cg (A,B)):aq false A B w=B:=by simp[aq]
theorem CL (b:Bool) (A B:Prop) (w:cg (A,B)):aq (!b) A B w=aq b B A .mk:=by cases b <;> simp[aq]
theorem aq.split {b:Bool} {A B:Prop} {w:cg (A,B)} (h1:b=true→A) (h2:b=false→B):aq b A B w:=⟨h1,h2⟩
theorem aq.dec {p:Prop} [Decidable p] {A B:Prop} {w:cg (A,B)} (h1:p→A) (h2:¬ p→B):aq (decide p) A B w:=⟨fun h=>h1 (by simpa using h),fun h=>h2 (by simpa using h)⟩
theorem aq.eq {a b:Int} {A B:Prop} {w:cg (A,B)} (h1:a=b→A) (h2:¬ a=b→B):aq (a == b) A B w:=⟨fun h=>h1 (by simpa using h),fun h=>h2 (by simpa using h)⟩
theorem aq.ne {a b:Int} {A B:Prop} {w:cg (A,B)} (h1:¬ a=b→A) (h2:a=b→B):aq (a != b) A B w:=⟨fun h=>h1 (by simpa using h),fun h=>h2 (by simpa using h)⟩
section
variable (P:Program) (T:Env) (H:View)
theorem HL (F:SF) (vs:List V) (K:V→View→Prop):wF P F vs H K=(vs.length≤F.n∧wS P F.code (iq vs) H fun e T' H'=>(e=.ret∨e=.normal)∧xz T' H' F.res [] fun l=>wM (ah l) (fun v=>K v H') .mk):=propext Iff.rfl
theorem C9 (Q:Exit→Env→View→Prop):wS P .skip T H Q=Q .normal T H:=propext Iff.rfl
theorem yM (q:Bool) (gs:List SG) (Q:Exit→Env→View→Prop):wS P (.region q gs) T H Q=sD P q gs T H (Q .normal):=propext Iff.rfl
theorem xh (aps:List (Nat × Nat)) (gs:List SG) (Q:Exit→Env→View→Prop):wS P (.qy aps gs) T H Q=sD P false gs T H (fun T' H'=>tb aps T' (Q .normal T' H')):=propext Iff.rfl
theorem wi (tol:Nat × Nat × Nat) (aps:List (Nat × Nat)) (gs:List SG) (Q:Exit→Env→View→Prop):wS P (.uN tol aps gs) T H Q=sD P false gs T H (fun T' H'=>A9 P tol.1 (T' tol.2.1) (T' tol.2.2) H∧tb aps T' (Q .normal T' H')):=propext Iff.rfl
theorem Cr (K:Prop):tb [] T K=K:=propext Iff.rfl
theorem zY (a b:Nat) (l:List (Nat × Nat)) (K:Prop):tb ((a,b) :: l) T K=(jQ (T a) (T b)∧tb l T K):=propext Iff.rfl
theorem B9 (i j k i' j' k':Nat):jQ (.ptr i j k) (.ptr i' j' k')=(i≠i'):=propext Iff.rfl
theorem Dh (i j k a b c d:Nat):jQ (.ptr i j k) (.sl a b c d)=(i≠a):=propext Iff.rfl
theorem Ai (i j k e:Nat):jQ (.ptr i j k) (.emp e)=True:=id rfl
theorem A3 (i j k:Nat):jQ (.ptr i j k) .dy=True:=id rfl
theorem A0 (i j k:Nat) (es:List (List V)):jQ (.ptr i j k) (.aV es)=True:=id rfl
theorem Br (e:List V) (j:Nat) (v:V):jQ (.aI e j) v=True:=by cases v <;> rfl
theorem Fg (x y:SC) (Q:Exit→Env→View→Prop):wS P (.seq x y) T H Q=wS P x T H fun e T' H'=>wN e (wS P y T' H' Q) (Q e T' H'):=propext Iff.rfl
theorem CD (c:SX) (x y:SC) (Q:Exit→Env→View→Prop):wS P (.cond c x y) T H Q=cL (c.at T) (fun v=>match v with
    | .val (.bool b)=>aq b (wS P x (pw c true T) H Q) (wS P y (pw c false T) H Q) .mk
    | _=>False) .mk:=propext Iff.rfl
theorem AO (id:Nat) (c:SC) (Q:Exit→Env→View→Prop):wS P (.block id c) T H Q=wS P c T H fun e=>Q (nL id e):=propext Iff.rfl
theorem C4 (id:Nat) (Q:Exit→Env→View→Prop):wS P (.exit id) T H Q=Q (.exit id) T H:=propext Iff.rfl
theorem EI (Q:Exit→Env→View→Prop):wS P .ret T H Q=Q .ret T H:=propext Iff.rfl
theorem Dp (c:SC) (Q:Exit→Env→View→Prop):wS P (.loop c) T H Q=bm P c T H Q .mk:=propext Iff.rfl
theorem Dg (q:Bool) (K:Env→View→Prop):sD P q [] T H K=K T H:=propext Iff.rfl
theorem Ac (q:Bool) (g:SG) (r:List SG) (K:Env→View→Prop):sD P q (g :: r) T H K=wG P q g T H fun T' H'=>sD P q r T' H' K:=propext Iff.rfl
theorem Di (q:Bool) (ops:List (Option Nat × SB)) (K:Env→View→Prop):wG P q ⟨none,ops⟩ T H K=uu P q ops T H K:=propext Iff.rfl
theorem Cy (q:Bool) (d:Nat) (ops:List (Option Nat × SB)) (K:Env→View→Prop):wG P q ⟨some (d,true),ops⟩ T H K=cL (T d) (fun v=>match v with
    | .val (.bool b)=>aq b (uu P q ops (T.put (some d) (.val (.bool true))) H K) (K (fo ops (T.put (some d) (.val (.bool false)))) H) .mk
    | .bt []=>K (fo ops T) H
    | _=>False) .mk:=propext Iff.rfl
theorem BB (q:Bool) (d:Nat) (ops:List (Option Nat × SB)) (K:Env→View→Prop):wG P q ⟨some (d,false),ops⟩ T H K=cL (T d) (fun v=>match v with
    | .val (.bool b)=>aq b (K (fo ops (T.put (some d) (.val (.bool true)))) H) (uu P q ops (T.put (some d) (.val (.bool false))) H K) .mk
    | .bt []=>K (fo ops T) H
    | _=>False) .mk:=by
  simp only[wG,cL]
  generalize T d=v
  cases v with
  | val x=>cases x <;> simp[aq,and_comm]
  | bt l=>cases l <;> simp
  | _=>simp
theorem u6:fo [] T=T:=id rfl
theorem tY (d:Option Nat) (b:SB) (r:List (Option Nat × SB)):fo ((d,b) :: r) T=fo r (T.put d (.bt [])):=id rfl
theorem Dm (q:Bool) (K:Env→View→Prop):uu P q [] T H K=K T H:=propext Iff.rfl
theorem A4 (q:Bool) (d:Option Nat) (b:SB) (r:List (Option Nat × SB)) (K:Env→View→Prop):uu P q ((d,b) :: r) T H K=wB P q b T H fun v H'=>wM v (fun v'=>uu P q r (T.put d v') H' K) .mk:=propext Iff.rfl
theorem HK (q:Bool) (s:SI) (K:V→View→Prop):wB P q (.op s) T H K=wI P s T H K:=propext Iff.rfl
theorem Cs (q:Bool) (f:SX) (args:List SX) (K:V→View→Prop):wB P q (.call f args) T H K=cL (f.at T) (fun v=>match v with
    | .fn g first cap=>ax P q g (first ++ args.map (SX.at T) ++ cap) H K .mk
    | _=>False) .mk:=propext Iff.rfl
theorem EM (x:SX) (K:V→View→Prop):wI P (.ak x) T H K=K (x.at T) H:=propext Iff.rfl
theorem B7 (c a b:SX) (K:V→View→Prop):wI P (.pick c a b) T H K=cL (c.at T) (fun v=>match v with
    | .val (.bool t)=>aq t (K (a.at T) H) (K (b.at T) H) .mk
    | _=>False) .mk:=by
  simp only[wI,cL]
  generalize c.at T=v
  cases v with
  | val x =>
    cases x with
    | bool t=>cases t <;> simp[aq]
    | _=>simp
  | _=>simp
theorem Fk (x:SX) (K:V→View→Prop):wI P (.box x) T H K=cL (x.at T) (fun v=>v.cells.all aN=true∧wM v.cells (fun cs=>∀ n,H n=.dead→K (.ptr n 0 0) (H.set n (.arr cs.length [cs]))) .mk) .mk:=propext Iff.rfl
theorem EC (x:SX) (K:V→View→Prop):wI P (.er x) T H K=cL (x.at T) (fun v=>v.cells.all aN=true∧wM v.cells (fun cs=>K (.aI cs 0) H) .mk) .mk:=propext Iff.rfl
theorem By (z:List V) (K:V→View→Prop):wI P (.alloc z) T H K=(z.all aN=true∧∀ n,H n=.dead→K (.ptr n 0 0) (H.set n (.arr z.length [z]))):=propext Iff.rfl
theorem CA (sz:Option Nat) (a:SX) (K:V→View→Prop):wI P (.load sz a) T H K=cL (a.at T) (fun v=>match v with
    | .ptr id i j=>Ab (H id) (fun o=>match o with
      | .arr _ es=>i < es.length∧wM (es.getD i []) (fun e=>fZ sz e j fun v=>K v H) .mk
      | _=>False) .mk
    | .aI e j=>fZ sz e j fun v=>K v H
    | _=>False) .mk:=propext Iff.rfl
theorem Bv (sz:Option Nat) (a:SX) (K:V→View→Prop):wI P (.uA sz a) T H K=cL (a.at T) (fun v=>match v with
    | .aI e j=>fZ sz e j fun v=>K v H
    | _=>False) .mk:=propext Iff.rfl
theorem Ar (sz:Nat) (a x:SX) (K:V→View→Prop):wI P (.store sz a x) T H K=cL (a.at T) (fun v=>match v with
    | .ptr id i j=>Ab (H id) (fun o=>match o with
      | .arr esz es=>wM (x.at T).cells (fun cs=>(i < es.length∧cs.length=sz∧j+cs.length≤esz∧cs.all aN=true) ∧
          wM (es.set i (aa (es.getD i []) j cs)) (fun es'=>K .any (H.set id (.arr esz es'))) .mk) .mk
      | _=>False) .mk
    | _=>False) .mk:=propext Iff.rfl
theorem CE (x:SX) (K:V→View→Prop):wI P (.bc x) T H K=cL (x.at T) (fun v=>match v with
    | .ptr id i j=>K (.ptr id i j) H
    | .aI e j=>K (.aI e j) H
    | .fn f a b=>K (.fn f a b) H
    | _=>False) .mk:=propext Iff.rfl
theorem Db (off:Nat) (x:SX) (K:V→View→Prop):wI P (.addr off x) T H K=cL (x.at T) (fun v=>match v with
    | .ptr id i j=>K (.ptr id i (j+off)) H
    | .aI e j=>K (.aI e (j+off)) H
    | _=>False) .mk:=propext Iff.rfl
theorem BA (off:Nat) (sz:Option Nat) (x:SX) (K:V→View→Prop):wI P (.field off sz x) T H K=cL (x.at T) (fun v=>match v with
    | .agg cs=>fZ sz cs off fun v=>K v H
    | _=>False) .mk:=propext Iff.rfl
theorem Gc (sz:Nat) (x i:SX) (K:V→View→Prop):wI P (.idx sz x i) T H K=mN (asNat (i.at T)) (fun o=>match o with
    | none=>False
    | some q=>cL (x.at T) (fun v=>match v with
      | .sl id off len esz=>(q < len∧esz=sz)∧K (.ptr id (off+q) 0) H
      | .aV es=>mN es[q]? (fun o=>match o with
        | some e=>e.length=sz∧K (.aI e 0) H
        | none=>False) .mk
      | _=>False) .mk) .mk:=by
  simp only[wI,mN,cL]
  cases asNat (i.at T) with
  | none=>rfl
  | some q =>
    simp only
    cases x.at T with
    | aV es =>
      simp only
      cases h:es[q]? with
      | none=>simp
      | some e=>simp
    | _=>rfl
theorem Cj (f:FuncId) (first cap:List SX) (K:V→View→Prop):wI P (.ox f first cap) T H K=K (.fn f (first.map (SX.at T)) (cap.map (SX.at T))) H:=propext Iff.rfl
theorem Af (K:V→View→Prop):wI P .pD T H K=(∀ n,H n=.dead→K (.mp n) (H.set n (.map [] 0))):=propext Iff.rfl
theorem FF (i:Nat) (x:SX) (K:V→View→Prop):wI P (.ext i x) T H K=cL (x.at T) (fun v=>match v with
    | .bt vs=>i < vs.length∧K (vs.getD i .any) H
    | _=>False) .mk:=propext Iff.rfl
theorem F1 (x:SX) (K:V→View→Prop):wI P (.len x) T H K=mN (dT (x.at T)) (fun o=>match o with
    | some n=>K (al n) H
    | none=>False) .mk:=propext Iff.rfl
theorem CZ (x:SX) (K:V→View→Prop):wI P (.fB x) T H K=cL (x.at T) (fun v=>match v with
    | .val (.string s)=>K (al s.size) H
    | _=>False) .mk:=propext Iff.rfl
theorem z6 (op:BinOp) (x y:SX) (K:V→View→Prop):wI P (.arith op x y) T H K=cL (x.at T) (fun v=>cL (y.at T) (fun v'=>match v,v' with
    | .val (.int k a),.val (.int k' b)=>k=k'∧mN (ag op k a b) (fun o=>match o with | some v=>K (.val v) H | none=>False) .mk
    | _,_=>False) .mk) .mk:=propext Iff.rfl
theorem HO (l:Bool) (x y:SX) (K:V→View→Prop):wI P (.sh l x y) T H K=cL (x.at T) (fun v=>cL (y.at T) (fun v'=>match v,v' with
    | .val (.int k a),.val (.int _ b)=>0≤b∧K (.val (.int k (DP l k a b))) H
    | _,_=>False) .mk) .mk:=propext Iff.rfl
theorem EY (op:BinOp) (x y:SX) (K:V→View→Prop):wI P (.gV op x y) T H K=cL (x.at T) (fun v=>cL (y.at T) (fun v'=>match v,v' with
    | .val (.string a),.val (.string b)=>(match op with
      | .eql=>K (.val (.bool (iE a b))) H
      | .neq=>K (.val (.bool (!iE a b))) H
      | _=>False)
    | _,_=>False) .mk) .mk:=propext Iff.rfl
theorem Cv (x i:SX) (K:V→View→Prop):wI P (.cH x i) T H K=cL (x.at T) (fun v=>mN (asNat (i.at T)) (fun o=>match v,o with
    | .val (.string s),some q=>mN (dD s)[q]? (fun o=>match o with
      | some c=>K (.val (.int .u8 c)) H
      | none=>False) .mk
    | _,_=>False) .mk) .mk:=by
  simp only[wI,mN,cL]
  generalize x.at T=v
  generalize asNat (i.at T)=o
  cases v with
  | val u =>
    cases u with
    | string s =>
      cases o with
      | none=>rfl
      | some q =>
        simp only[dD,List.getElem?_map]
        cases h:s.data.toList[q]? with
        | none=>simp
        | some e=>simp
    | _=>rfl
  | _=>rfl
theorem Eu (x:SX) (K:V→View→Prop):wI P (.not x) T H K=cL (x.at T) (fun v=>match v with
    | .val (.bool t)=>K (.val (.bool (!t))) H
    | _=>False) .mk:=propext Iff.rfl
theorem Ga (eq:Bool) (k:Nat) (x y:SX) (K:V→View→Prop):wI P (.nil eq k x y) T H K=mN (ai (isNil k (x.at T)) (isNil k (y.at T))) (fun o=>match o with
    | some b=>K (.val (.bool (if eq=true then b else !b))) H
    | none=>False) .mk:=propext Iff.rfl
theorem CS (x y:SX) (K:V→View→Prop):wI P (.beq true x y) T H K=cL (x.at T) (fun v=>cL (y.at T) (fun v'=>match v,v' with
    | .val (.bool a),.val (.bool b)=>K (.val (.bool (a == b))) H
    | _,_=>False) .mk) .mk:=propext Iff.rfl
theorem C3 (x y:SX) (K:V→View→Prop):wI P (.beq false x y) T H K=cL (x.at T) (fun v=>cL (y.at T) (fun v'=>match v,v' with
    | .val (.bool a),.val (.bool b)=>K (.val (.bool (a != b))) H
    | _,_=>False) .mk) .mk:=propext Iff.rfl
theorem FZ (x y:SX) (K:V→View→Prop):wI P (.mm true x y) T H K=cL (x.at T) (fun v=>cL (y.at T) (fun v'=>match v,v' with
    | .val (.int k a),.val (.int _ b)=>K (.val (.int k (if b > a then b else a))) H
    | _,_=>False) .mk) .mk:=propext Iff.rfl
theorem Ft (x y:SX) (K:V→View→Prop):wI P (.mm false x y) T H K=cL (x.at T) (fun v=>cL (y.at T) (fun v'=>match v,v' with
    | .val (.int k a),.val (.int _ b)=>K (.val (.int k (if b < a then b else a))) H
    | _,_=>False) .mk) .mk:=propext Iff.rfl
theorem Cu (k:IntKind) (x:SX) (K:V→View→Prop):wI P (.conv k x) T H K=cL (x.at T) (fun v=>match v with
    | .val (.int _ a)=>K (.val (.int k (k.wrap a))) H
    | _=>False) .mk:=propext Iff.rfl
theorem Bg (n k:Nat) (o:bC):View.set H n o k=if k=n then o else H k:=id rfl
theorem BJ (z:List V) (parts:List (Nat × Nat × SX)) (K:V→View→Prop):wI P (.build z parts) T H K=mN (ae z (parts.map fun p=>(p.1,p.2.1,p.2.2.at T))) (fun o=>match o with
    | some cs=>K (.agg cs) H
    | none=>False) .mk:=propext Iff.rfl
theorem zq (len sz:Nat) (z:List V) (parts:List (Nat × SX)) (K:V→View→Prop):wI P (.bE len sz z parts) T H K=mN (af sz (List.replicate len z) (parts.map fun p=>(p.1,p.2.at T))) (fun o=>match o with
    | some es=>∀ n,H n=.dead→K (.sl n 0 len sz) (H.set n (.arr sz es))
    | none=>False) .mk:=propext Iff.rfl
theorem AY (sz:Nat) (x:SX) (lo hi:Option SX) (K:V→View→Prop):wI P (.slice sz x lo hi) T H K=mN (me sz (x.at T) (lo.map (SX.at T)) (hi.map (SX.at T))) (fun o=>match o with
    | some (v,.none,_)=>K v H
    | _=>False) .mk:=propext Iff.rfl
theorem C2 (sz bytes:Nat) (z:List V) (l c:SX) (K:V→View→Prop):wI P (.make sz bytes z l c) T H K=mN (asNat (l.at T)) (fun a=>mN (asNat (c.at T)) (fun b=>match a,b with
    | some l,some c=>(l≤c∧c < aF∧bytes * c < aF)∧(c=0→K (.emp 2) H)∧(c≠0→∀ n,H n=.dead→K (.sl n 0 l sz) (H.set n (.arr sz (List.replicate l z))))
    | _,_=>False) .mk) .mk:=propext Iff.rfl
def nH (sz bytes:Nat) (x:V) (xs:List (List V)) (H:View) (K:V→View→Prop) (_:cg (H,K)):Prop:=if xs.isEmpty=true then (match x with
        | .emp k=>K (.emp k) H
        | .dy=>K .dy H
        | .aV es=>K (.aV es) H
        | .sl a b c d=>K (.sl a b c d) H
        | _=>False)
      else (xs.all fun e=>e.length == sz && e.all aN)=true∧(match x with
        | .emp _=>(xs.length * bytes < aF∧xs.length < aF)∧∀ n,H n=.dead→K (.sl n 0 xs.length sz) (H.set n (.arr sz xs))
        | .sl id off len esz=>match H id with
          | .arr _ es=>(off+len≤es.length∧esz=sz∧(len+xs.length) * bytes < aF∧len+xs.length < aF) ∧
              ∀ n,H n=.dead→K (.sl n 0 (len+xs.length) esz) ((H.set id .dead).set n (.arr esz ((es.drop off).take len ++ xs)))
          | _=>False
        | _=>False)
theorem Eo (sz bytes:Nat) (x y:SX) (K:V→View→Prop):wI P (.app sz bytes x y) T H K=mN (bX H (y.at T)) (fun o=>match o with
    | some (xs,_)=>nH sz bytes (x.at T) xs H K .mk
    | none=>False) .mk:=propext Iff.rfl
theorem tu (sz bytes k:Nat) (xs:List (List V)) (K:V→View→Prop) (w:cg (H,K)) (h0:xs.isEmpty=false):nH sz bytes (.emp k) xs H K w=((xs.all fun e=>e.length == sz && e.all aN)=true∧(xs.length * bytes < aF∧xs.length < aF)∧∀ n,H n=.dead→K (.sl n 0 xs.length sz) (H.set n (.arr sz xs))):=by
  unfold nH; rw[if_neg (by rw[h0]; simp)]
theorem v8 (sz bytes id off len esz:Nat) (xs:List (List V)) (K:V→View→Prop) (w:cg (H,K)) (h0:xs.isEmpty=false):nH sz bytes (.sl id off len esz) xs H K w=((xs.all fun e=>e.length == sz && e.all aN)=true∧Ab (H id) (fun o=>match o with
          | .arr _ es=>(off+len≤es.length∧esz=sz∧(len+xs.length) * bytes < aF∧len+xs.length < aF) ∧
              ∀ n,H n=.dead→K (.sl n 0 (len+xs.length) esz) ((H.set id .dead).set n (.arr esz ((es.drop off).take len ++ xs)))
          | _=>False) .mk):=by
  unfold nH Ab; rw[if_neg (by rw[h0]; simp)]
theorem DI (id off len esz z:Nat) (es:List (List V)) (hH:H id=.arr z es) (hl:off+(len+1)≤es.length):bX H (.sl id off (len+1) esz)=some ((es.drop off).take (len+1),[id]):=by
  simp only[bX,hH]; rw[if_pos hl]
theorem vl (es:List (List V)):bX H (.aV es)=some (es,[]):=id rfl
theorem u9 (k:Nat):bX H (.emp k)=some ([],[]):=id rfl
theorem CJ (x:SX) (K:V→View→Prop):wI P (.yj x) T H K=cL (x.at T) (fun v=>match v with
    | .aV es=>mN (mP es) (fun o=>match o with
      | some l=>K (.val (.string ⟨l.toArray⟩)) H
      | none=>False) .mk
    | _=>False) .mk:=propext Iff.rfl
theorem CV (x:SX) (K:V→View→Prop):wI P (.eh x) T H K=cL (x.at T) (fun v=>match v with
    | .val (.string s)=>K (.aV (ed s)) H
    | _=>False) .mk:=propext Iff.rfl
def nO (P:Program) (op:Op) (ty:TypeId) (T:Env) (H:View) (K:V→View→Prop) (_:cg (T,H,K)):Prop:=wI P (.bj op ty) T H K
theorem E2 (op:Op) (ty:TypeId) (K:V→View→Prop):wI P (.bj op ty) T H K=nO P op ty T H K .mk:=propext Iff.rfl
theorem Gl (t:Nat):ev T (.tmp t)=T t:=id rfl
theorem AM (v:Value):ev T (.const v)=ew v:=id rfl
theorem FM (t:Nat):(SX.tmp t).at T=T t:=id rfl
theorem FI (v:V):(SX.val v).at T=v:=id rfl
theorem Cc (d t:Nat) (v:V):(T.put (some d) v) t=if t=d then v else T t:=id rfl
theorem AW (v:V):T.put none v=T:=id rfl
theorem Bt (vs:List V) (t:Nat):iq vs t=vs.getD t .any:=id rfl
theorem xl (e:List V) (j:Nat) (K:V→Prop):fZ none e j K=(j < e.length∧K (e.getD j .any)):=propext Iff.rfl
theorem xp (n:Nat) (e:List V) (j:Nat) (K:V→Prop):fZ (some n) e j K=(j+n≤e.length∧K (.agg ((e.drop j).take n))):=propext Iff.rfl
theorem xA (a b:Prop):wN .normal a b=a:=propext Iff.rfl
theorem Bb (i:Nat) (a b:Prop):wN (.exit i) a b=b:=propext Iff.rfl
theorem Cq (a b:Prop):wN .ret a b=b:=propext Iff.rfl
theorem tF (i:Nat):nL i .normal=.normal:=id rfl
theorem yJ (i:Nat):nL i .ret=.ret:=id rfl
theorem wV (i j:Nat):nL i (.exit j)=if j=i then .normal else .exit j:=by simp only[nL]
theorem B6 (acc:List V) (K:List V→Prop):xz T H [] acc K=K acc:=propext Iff.rfl
theorem AX (r:SR) (l:List SR) (acc:List V) (K:List V→Prop):xz T H (r :: l) acc K=wR T H r fun v=>xz T H l (acc ++ [v]) K:=propext Iff.rfl
theorem E3 (t:Nat) (K:V→Prop):wR T H (.tmp t) K=K (T t):=propext Iff.rfl
theorem Cm (t:Nat) (sz:Option Nat) (K:V→Prop):wR T H (.cell t sz) K=cL (T t) (fun v=>match v with
    | .ptr id i j=>Ab (H id) (fun o=>match o with
      | .arr _ es=>i < es.length∧wM (es.getD i []) (fun e=>fZ sz e j K) .mk
      | _=>False) .mk
    | .aI e j=>fZ sz e j K
    | _=>False) .mk:=propext Iff.rfl
theorem y5 (t:Nat) (b:Bool):pw (.tmp t) b T=T.put (some t) (.val (.bool b)):=id rfl
theorem yO (v:V) (b:Bool):pw (.val v) b T=T:=id rfl
theorem Gd:(Exit.ret=Exit.ret∨Exit.ret=Exit.normal)=True:=by simp
theorem yw:(Exit.normal=Exit.ret∨Exit.normal=Exit.normal)=True:=by simp
end
section
variable {P:Program} {T:Env} {H:View}
theorem bm.intro {c:SC} {Q:Exit→Env→View→Prop} {v:cg (T,H,Q)} (I:Nat→Env→View→Prop) (k:Nat) (h0:I k T H)
    (hs:∀ k T H,I k T H→wS P c T H fun e T' H'=>wN e (∃ k',k' < k∧I k' T' H') (Q e T' H')):bm P c T H Q v:=by
  simp only[bm,wS]
  exact ⟨I,⟨k,h0⟩,hs⟩
theorem ax.pure {q:Bool} {f:FuncId} {vs:List V} {K:V→View→Prop} {v:cg (H,K)} {t:V} (hc:aC P f vs t) (hok:cp P f=true) (hk:K t H):ax P q f vs H K v:=by
  unfold ax
  cases q with
  | true=>exact hc.Hm hok hk
  | false =>
    refine ⟨hok,?_⟩
    rintro h rfl
    exact ⟨t,h,bL.fj hc h,.refl _,hk⟩
theorem ax.ez {f:FuncId} {vs:List V} {K:V→View→Prop} {v:cg (H,K)} (hc:aB P f vs H K):ax P false f vs H K v:=hc
theorem zh:aE.view []=fun _=>bC.dead:=by funext id; simp[aE.view]
theorem aC.of {f:FuncId} {vs:List V} {t:V} (ht:∀ v∈vs,Tree v) (h:aB P f vs (fun _=>.dead) fun r H'=>∀ h':aE,h'.view=H'→Fr h' r t):aC P f vs t:=by
  obtain ⟨r,h',ha,_,hf⟩:=h.2 [] zh
  exact aC.r9 ht ha (hf h' rfl)
theorem wrap64 {x:Int} (h1 : -9223372036854775808≤x) (h2:x≤9223372036854775807):IntKind.wrap .i64 x=x:=by
  unfold IntKind.wrap
  have e1:(2:Int) ^ IntKind.i64.bits=18446744073709551616:=by rfl
  have e2:(2:Int) ^ (IntKind.i64.bits - 1)=9223372036854775808:=by rfl
  have e3:IntKind.i64.signed=true:=by rfl
  simp only[e1,e2,e3,Bool.true_and,decide_eq_true_eq]
  split <;> omega
theorem yV {k:IntKind} {i:Int} (h:0≤i):asNat (.val (.int k i))=some i.toNat:=by simp[asNat,h]
end
theorem yu (v:Value):V.cells (.val v)=[.val v]:=id rfl
theorem uM (v:Value):aN (.val v)=true:=id rfl
theorem zg (k:Nat):V.cells (.emp k)=[.emp k]:=id rfl
theorem Ca (k:Nat):aN (.emp k)=true:=id rfl
theorem yE  : V.cells .dy=[.dy]:=id rfl
theorem CR  : aN .dy=true:=id rfl
theorem yQ (es:List (List V)):V.cells (.aV es)=[.aV es]:=id rfl
theorem Cz (es:List (List V)):aN (.aV es)=true:=id rfl
theorem Bd (a b c d:Nat):V.cells (.sl a b c d)=[.sl a b c d]:=id rfl
theorem F8 (a b c d:Nat):aN (.sl a b c d)=true:=id rfl
theorem yx (a b c:Nat):V.cells (.ptr a b c)=[.ptr a b c]:=id rfl
theorem CC (a b c:Nat):aN (.ptr a b c)=true:=id rfl
theorem wE (e:List V) (j:Nat):V.cells (.aI e j)=[.aI e j]:=id rfl
theorem Al (e:List V) (j:Nat):aN (.aI e j)=true:=id rfl
theorem Aw (a:Nat):V.cells (.mp a)=[.mp a]:=id rfl
theorem Fv (a:Nat):aN (.mp a)=true:=id rfl
theorem Ba (f:FuncId) (a b:List V):V.cells (.fn f a b)=[.fn f a b]:=id rfl
theorem F6 (f:FuncId) (a b:List V):aN (.fn f a b)=true:=id rfl
theorem zd (cs:List V):V.cells (.agg cs)=cs:=id rfl
theorem Cd (k:Nat):dT (.emp k)=some 0:=id rfl
theorem CK:dT .dy=some 0:=id rfl
theorem CG (es:List (List V)):dT (.aV es)=some es.length:=id rfl
theorem Fu (a b c d:Nat):dT (.sl a b c d)=some c:=id rfl
abbrev JX {p:Prop} (_:p):Prop:=p
abbrev Wr:Prop:=JX (And.intro @HL <| And.intro @C9 <| And.intro @yM <| And.intro @xh <| And.intro @wi <| And.intro @Cr <| And.intro @zY <| And.intro @Fg <|
    And.intro @CD <| And.intro @AO <| And.intro @C4 <| And.intro @EI <|
    And.intro @Dp <| And.intro @Dg <| And.intro @Ac <| And.intro @Di <|
    And.intro @Cy <| And.intro @BB <| And.intro @u6 <| And.intro @tY <|
    And.intro @Dm <| And.intro @A4 <| And.intro @HK <| And.intro @Cs <|
    And.intro @EM <| And.intro @B7 <| And.intro @Fk <| And.intro @EC <|
    And.intro @By <| And.intro @CA <| And.intro @Bv <| And.intro @Ar <|
    And.intro @CE <| And.intro @Db <| And.intro @BA <| And.intro @Gc <|
    And.intro @Cj <| And.intro @Af <| And.intro @FF <| And.intro @F1 <|
    And.intro @CZ <| And.intro @z6 <| And.intro @HO <| And.intro @EY <| And.intro @Cv <|
    And.intro @Eu <| And.intro @Ga <| And.intro @CS <| And.intro @C3 <|
    And.intro @FZ <| And.intro @Ft <| And.intro @Cu <| And.intro @CJ <|
    And.intro @CV <| And.intro @BJ <| And.intro @zq <| And.intro @AY <|
    And.intro @C2 <| And.intro @Eo <| And.intro @E2 <| And.intro @Gl <| And.intro @AM <| And.intro @FM <| And.intro @FI <|
    And.intro @Cc <| And.intro @AW <| And.intro @Bt <| And.intro @xl <|
    And.intro @xp <| And.intro @xA <| And.intro @Bb <| And.intro @Cq <|
    And.intro @tF <| And.intro @yJ <| And.intro @wV <| And.intro @B6 <|
    And.intro @AX <| And.intro @E3 <| And.intro @Cm <| And.intro @y5 @yO)
theorem wr:Wr:=(And.intro @HL <| And.intro @C9 <| And.intro @yM <| And.intro @xh <| And.intro @wi <| And.intro @Cr <| And.intro @zY <| And.intro @Fg <|
    And.intro @CD <| And.intro @AO <| And.intro @C4 <| And.intro @EI <|
    And.intro @Dp <| And.intro @Dg <| And.intro @Ac <| And.intro @Di <|
    And.intro @Cy <| And.intro @BB <| And.intro @u6 <| And.intro @tY <|
    And.intro @Dm <| And.intro @A4 <| And.intro @HK <| And.intro @Cs <|
    And.intro @EM <| And.intro @B7 <| And.intro @Fk <| And.intro @EC <|
    And.intro @By <| And.intro @CA <| And.intro @Bv <| And.intro @Ar <|
    And.intro @CE <| And.intro @Db <| And.intro @BA <| And.intro @Gc <|
    And.intro @Cj <| And.intro @Af <| And.intro @FF <| And.intro @F1 <|
    And.intro @CZ <| And.intro @z6 <| And.intro @HO <| And.intro @EY <| And.intro @Cv <|
    And.intro @Eu <| And.intro @Ga <| And.intro @CS <| And.intro @C3 <|
    And.intro @FZ <| And.intro @Ft <| And.intro @Cu <| And.intro @CJ <|
    And.intro @CV <| And.intro @BJ <| And.intro @zq <| And.intro @AY <|
    And.intro @C2 <| And.intro @Eo <| And.intro @E2 <| And.intro @Gl <| And.intro @AM <| And.intro @FM <| And.intro @FI <|
    And.intro @Cc <| And.intro @AW <| And.intro @Bt <| And.intro @xl <|
    And.intro @xp <| And.intro @xA <| And.intro @Bb <| And.intro @Cq <|
    And.intro @tF <| And.intro @yJ <| And.intro @wV <| And.intro @B6 <|
    And.intro @AX <| And.intro @E3 <| And.intro @Cm <| And.intro @y5 @yO)
abbrev Wq:Prop:=JX (And.intro @eq_self.{1} <| And.intro @ne_eq.{1} <| And.intro @implies_true.{1} <| And.intro @implies_true.{0} <| And.intro @decide_true <| And.intro @decide_false <| And.intro @B9 <| And.intro @Dh <| And.intro @Ai <| And.intro @A3 <| And.intro @A0 <| And.intro @Br <| And.intro @yu <| And.intro @uM <| And.intro @zg <| And.intro @Ca <| And.intro @yE <| And.intro @CR <| And.intro @yQ <| And.intro @Cz <| And.intro @Bd <| And.intro @F8 <| And.intro @yx <| And.intro @CC <| And.intro @wE <| And.intro @Al <| And.intro @Aw <| And.intro @Fv <| And.intro @Ba <| And.intro @F6 <| And.intro @zd <| And.intro @Cd <| And.intro @CK <| And.intro @CG <| And.intro @Fu <| And.intro @true_or <| And.intro @or_true <| And.intro @or_false <| And.intro @false_or <|
    And.intro @J0 <| And.intro @CU <| And.intro @CI <| And.intro @CQ <|
    And.intro @C1 <| And.intro @EL <| And.intro @Ci <| And.intro @BI <|
    And.intro @ED <| And.intro @F3 <| And.intro @Cn <| And.intro @CO <|
    And.intro @CY <| And.intro @CP <| And.intro @Bk <| And.intro @AI <|
    And.intro @zf <| And.intro @CL <| And.intro @List.getD_cons_zero.{0} <| And.intro @List.getD_cons_succ.{0} <|
    And.intro @List.length_cons.{0} <| And.intro @List.length_nil.{0} <| And.intro @List.length_map.{0,0} <| And.intro @wrap64 <|
    And.intro @true_and <| And.intro @and_true <| And.intro @and_self <| And.intro @decide_eq_true_eq <|
    And.intro @decide_eq_false_iff_not <| And.intro @List.all_cons.{0} <| And.intro @List.all_nil.{0} <| And.intro @Bool.and_self <|
    And.intro @List.nil_append.{0} <| And.intro @List.cons_append.{0} <| And.intro @Nat.zero_add <| And.intro @yV <|
    And.intro @Int.toNat_natCast <| And.intro @Gd <| And.intro @yw <| And.intro @bne_iff_ne.{0} <|
    And.intro @beq_iff_eq.{0} <| And.intro @Bool.not_eq_true <| And.intro @Bool.not_true <| And.intro @Bool.not_false <|
    And.intro @List.append_nil.{0} <| And.intro @List.map_cons.{0,0} <| And.intro @List.map_nil.{0,0} <| And.intro @Bool.true_eq_false <|
    And.intro @Bool.false_eq_true <| And.intro @false_implies <| And.intro @true_implies <| And.intro @Bool.not_not <|
    And.intro @List.drop_zero.{0} <| And.intro @Bg <| And.intro @List.set_cons_zero.{0} <| And.intro @List.set_cons_succ.{0} <|
    And.intro @List.drop_nil.{0} <| And.intro @Nat.add_zero <| And.intro @List.replicate_zero.{0} <| And.intro @List.replicate_succ.{0} <|
    And.intro @vl <| And.intro @u9 <| And.intro @tu <| And.intro @v8 <|
    And.intro @List.isEmpty_cons.{0} <| And.intro @Option.map_none.{0,0} <| And.intro @Option.map_some.{0,0} <| And.intro @Nat.succ_ne_zero <|
    And.intro @List.take_succ_cons.{0} <| And.intro @List.take_zero.{0} <| And.intro @List.drop_succ_cons.{0} <| And.intro @bne_eq_false_iff_eq.{0} <|
    And.intro @beq_eq_false_iff_ne.{0} <| And.intro @not_true_eq_false <| And.intro @not_false_eq_true @Decidable.not_not)
theorem wq:Wq:=(And.intro @eq_self.{1} <| And.intro @ne_eq.{1} <| And.intro @implies_true.{1} <| And.intro @implies_true.{0} <| And.intro @decide_true <| And.intro @decide_false <| And.intro @B9 <| And.intro @Dh <| And.intro @Ai <| And.intro @A3 <| And.intro @A0 <| And.intro @Br <| And.intro @yu <| And.intro @uM <| And.intro @zg <| And.intro @Ca <| And.intro @yE <| And.intro @CR <| And.intro @yQ <| And.intro @Cz <| And.intro @Bd <| And.intro @F8 <| And.intro @yx <| And.intro @CC <| And.intro @wE <| And.intro @Al <| And.intro @Aw <| And.intro @Fv <| And.intro @Ba <| And.intro @F6 <| And.intro @zd <| And.intro @Cd <| And.intro @CK <| And.intro @CG <| And.intro @Fu <| And.intro @true_or <| And.intro @or_true <| And.intro @or_false <| And.intro @false_or <|
    And.intro @J0 <| And.intro @CU <| And.intro @CI <| And.intro @CQ <|
    And.intro @C1 <| And.intro @EL <| And.intro @Ci <| And.intro @BI <|
    And.intro @ED <| And.intro @F3 <| And.intro @Cn <| And.intro @CO <|
    And.intro @CY <| And.intro @CP <| And.intro @Bk <| And.intro @AI <|
    And.intro @zf <| And.intro @CL <| And.intro @List.getD_cons_zero.{0} <| And.intro @List.getD_cons_succ.{0} <|
    And.intro @List.length_cons.{0} <| And.intro @List.length_nil.{0} <| And.intro @List.length_map.{0,0} <| And.intro @wrap64 <|
    And.intro @true_and <| And.intro @and_true <| And.intro @and_self <| And.intro @decide_eq_true_eq <|
    And.intro @decide_eq_false_iff_not <| And.intro @List.all_cons.{0} <| And.intro @List.all_nil.{0} <| And.intro @Bool.and_self <|
    And.intro @List.nil_append.{0} <| And.intro @List.cons_append.{0} <| And.intro @Nat.zero_add <| And.intro @yV <|
    And.intro @Int.toNat_natCast <| And.intro @Gd <| And.intro @yw <| And.intro @bne_iff_ne.{0} <|
    And.intro @beq_iff_eq.{0} <| And.intro @Bool.not_eq_true <| And.intro @Bool.not_true <| And.intro @Bool.not_false <|
    And.intro @List.append_nil.{0} <| And.intro @List.map_cons.{0,0} <| And.intro @List.map_nil.{0,0} <| And.intro @Bool.true_eq_false <|
    And.intro @Bool.false_eq_true <| And.intro @false_implies <| And.intro @true_implies <| And.intro @Bool.not_not <|
    And.intro @List.drop_zero.{0} <| And.intro @Bg <| And.intro @List.set_cons_zero.{0} <| And.intro @List.set_cons_succ.{0} <|
    And.intro @List.drop_nil.{0} <| And.intro @Nat.add_zero <| And.intro @List.replicate_zero.{0} <| And.intro @List.replicate_succ.{0} <|
    And.intro @vl <| And.intro @u9 <| And.intro @tu <| And.intro @v8 <|
    And.intro @List.isEmpty_cons.{0} <| And.intro @Option.map_none.{0,0} <| And.intro @Option.map_some.{0,0} <| And.intro @Nat.succ_ne_zero <|
    And.intro @List.take_succ_cons.{0} <| And.intro @List.take_zero.{0} <| And.intro @List.drop_succ_cons.{0} <| And.intro @bne_eq_false_iff_eq.{0} <|
    And.intro @beq_eq_false_iff_ne.{0} <| And.intro @not_true_eq_false <| And.intro @not_false_eq_true @Decidable.not_not)
end Gv
namespace Gv
open Go
inductive te:V→Prop
  | val (v:Value):te (.val v)
  | bt (cs:List V):(∀ i,i < cs.length→∃ v,cs.getD i .any=.val v)→te (.bt cs)
theorem GX {Z Z':Nat→Prop} {μ μ':Mu} {hp hp':Array Obj} {t:V} {x:Value} (hf:te t) (h:ay Z μ hp t x):ay Z' μ' hp' t x:=by
  cases hf with
  | val=>cases h with | val _ hv=>exact .val _ hv
  | bt cs hc =>
    cases h with
    | bt _ aas h1 h2 =>
      refine .bt _ _ h1 fun i hi=>?_
      have:=h2 i hi
      obtain ⟨v,hv⟩:=hc i hi
      rw[hv] at this ⊢
      generalize aas.getD i undef=y at this ⊢
      cases this with | val _ hv=>exact .val _ hv
theorem bL.borrow {P:Program} {f:FuncId} {ts vs:List V} {t:V} {h:aE} (hc:aC P f ts t) (hf:te t) (hl:ts.length=vs.length)
    (hfr:∀ i,i < vs.length→Fr h (vs.getD i .any) (ts.getD i .any)):bL P f vs h t h:=by
  refine ⟨Nat.le_refl _,fun Z μ F w xs hrel hr hfree=>?_⟩
  have hts:dN (fun b=>Z b∨gS μ b) μ w.heap ts xs:=⟨by rw[hl,hrel.1],fun i hi=>Bn hr (hfr i (by omega)) (hrel.2 i (by omega))⟩
  have hzl:∀ b,(Z b∨gS μ b)→b < w.heap.size:=by
    rintro b (hb | ⟨id,o,s,hb⟩)
    · exact hr.bW b hb
    · exact hr.lt _ _ _ _ hb
  refine (hc _ μ w xs hts hzl).mono ?_
  rintro e w' ⟨x,Z',rfl,hv,hs,hz,hz',ho⟩
  have hm:ey Z Z μ μ w.heap w'.heap:=⟨fun _ h=>h,fun b hb=>ho b (hr.bW b hb) (fun x=>x),fun _ _ h=>h,ho.mQ⟩
  exact ⟨x,Z,μ,rfl,GX hf (hv μ),⟨fun id=>(hr.obj id).mono hm rfl (fun b o s hx=>ho b (hr.lt _ _ _ _ hx) (fun x=>x)),hr.inj,fun id b o s hx=>Nat.lt_of_lt_of_le (hr.lt _ _ _ _ hx) hs.size,fun b hb=>Nat.lt_of_lt_of_le (hr.bW b hb) hs.size,hr.eZ⟩,
    ⟨hs,hm,fun b hb _=>ho b hb (fun x=>x),fun b hb=>.inl hb,fun _ _ _ _ h=>.inl h⟩,fun _ _=>rfl⟩
def bS (H:View) (v t:V):Prop:=∀ h:aE,h.view=H→Fr h v t
theorem bS.tree {H:View} {v:V} (h:Tree v):bS H v v:=fun _ _=>.tree _ h
theorem bS.sl {H:View} {id off len esz z:Nat} {es:List (List V)} (hH:H id=.arr z es) (hle:off+len≤es.length) (ht:∀ e∈es,∀ v∈e,Tree v) :
    bS H (.sl id off len esz) (.aV ((es.drop off).take len)):=by
  rintro h rfl
  have hg:∀ i,i < len→((es.drop off).take len).getD i []=es.getD (off+i) []:=fun i hi=>by
    simp[List.getD_eq_getElem?_getD,List.getElem?_take,hi]
  refine .sl id off len esz z es _ hH hle (by simp; omega) (fun i hi=>by rw[hg i hi]) (fun i j hi hj=>?_)
  rw[hg i hi] at hj ⊢
  refine .tree _ ?_
  have h1:off+i < es.length:=by omega
  have e1:es.getD (off+i) []=es[off+i]:=by simp[List.getD_eq_getElem?_getD,h1]
  rw[e1] at hj ⊢
  have e2:(es[off+i]).getD j .any=(es[off+i])[j]:=by simp[List.getD_eq_getElem?_getD,hj]
  rw[e2]
  exact ht _ (List.getElem_mem _) _ (List.getElem_mem _)
theorem ax.borrow {P:Program} {q:Bool} {f:FuncId} {H:View} {vs ts:List V} {K:V→View→Prop} {v:cg (H,K)} {t:V} (hc:aC P f ts t) (hok:cp P f=true) (hf:te t) (hl:ts.length=vs.length)
    (hfr:∀ i,i < vs.length→bS H (vs.getD i .any) (ts.getD i .any)) (hk:K t H):ax P q f vs H K v:=by
  unfold ax
  cases q with
  | true=>exact ⟨hok,fun h e=>⟨t,h,bL.borrow hc hf hl (fun i hi=>hfr i hi h e),fun _ _=>rfl,e ▸ hk⟩⟩
  | false =>
    refine ⟨hok,?_⟩
    rintro h rfl
    exact ⟨t,h,bL.borrow hc hf hl (fun i hi=>hfr i hi h rfl),.refl _,hk⟩
end Gv
set_option linter.unusedSimpArgs false
set_option maxRecDepth 100000
namespace Gv
open Go Go.Proofs
abbrev gi (x:Int):V:=.val (.int .i64 x)
abbrev gb (x:Bool):V:=.val (.bool x)
abbrev gs (x:ByteArray):V:=.val (.string x)
theorem mixed:(Tryz.prog).follows .mixedOrders=true:=by kernel_rfl
def encI (l:List Int):V:=.aV (l.map fun x=>[gi x])
def bf (l:List Bool):V:=.aV (l.map fun x=>[gb x])
theorem cy (l:List Int):Tree (encI l):=by
  refine .aV _ fun i j hi hj=>?_
  simp only[List.length_map] at hi
  simp[List.getD_eq_getElem?_getD,hi] at hj ⊢
  subst hj
  exact .val _
def aK {α:Type} (l:List α):Prop:=l.length < 4611686018427387904
def kR:SC :=
  .seq (.seq (an [aj 11 5,aj 12 0,aX 13 12,bu 14 .lss 11 13]) <|
  .cond (.tmp 14) (.skip) (.exit 0)) <|
  .seq (.block 1 (.seq (an [aj 17 0,aj 18 5,aW 19 1 17 18,av 20 19,aj 21 1,aj 22 5,aW 23 1 21 22,av 24 23,bu 25 .neq 20 24]) <|
  .cond (.tmp 25) (.seq (an [bb 4 false]) <|
  .ret) (.skip))) <|
  an [aj 15 5,aH 16 .add 15 1,aj 5 16]
def mB:SF:=⟨.seq (an [bb 4 false]) <|
  .seq (.seq (an [aj 6 0,aX 7 6,aj 8 1,aX 9 8,bu 10 .neq 7 9]) <|
  .cond (.tmp 10) (.seq (an [bb 4 false]) <|
  .ret) (.skip)) <|
  .seq (.seq (an [bk 5 0]) <|
  .block 0 (.loop kR)) <|
  .seq (an [bb 4 true]) <|
  .ret,
  [.tmp 4],26⟩
theorem qq:aR Tryz.prog 19 []=some mB:=by kernel_rfl
theorem Ix {α:Type} [BEq α] [LawfulBEq α] {a b:List α} (h:a.length≠b.length):(a == b)=false:=by
  simp only[beq_eq_false_iff_ne]; intro e; exact h (by rw[e])
theorem IL (a b:List Int) (ha:aK a) (H:View):aB Tryz.prog 19 [encI a,encI b] H fun r H'=>r=gb (a == b)∧H'=H:=by
  refine aB.of mixed qq ?_
  unfold aK at ha
  simp (disch:=omega) only [↓wr,↓reduceIte,wq,ah,ag,al,aa,ae,af,ai,isNil,Nat.reduceEqDiff,Nat.reduceAdd,Nat.reduceLT,Nat.reduceLeDiff,Int.reduceNeg,Int.reduceToNat,reduceCtorEq,mB,encI]
  refine aq.ne (fun h=>?_) (fun h=>?_)
  · simp (disch:=omega) only [↓wr,↓reduceIte,wq,ah,ag,al,aa,ae,af,ai,isNil,Nat.reduceEqDiff,Nat.reduceAdd,Nat.reduceLT,Nat.reduceLeDiff,Int.reduceNeg,Int.reduceToNat,reduceCtorEq]
    rw[Ix (by omega)]
  · simp (disch:=omega) only [↓wr,↓reduceIte,wq,ah,ag,al,aa,ae,af,ai,isNil,Nat.reduceEqDiff,Nat.reduceAdd,Nat.reduceLT,Nat.reduceLeDiff,Int.reduceNeg,Int.reduceToNat,reduceCtorEq]
    refine bm.intro (fun k T H'=>∃ i:Nat,i+k=a.length∧a.take i=b.take i∧T 0=encI a∧T 1=encI b∧T 5=gi i∧H'=H) a.length ?_ ?_
    · exact ⟨0,by omega,by simp,rfl,rfl,rfl,rfl⟩
    · rintro k T H' ⟨i,hk,hi,h0,h1,h5,rfl⟩
      simp (disch:=omega) only [↓wr,↓reduceIte,wq,ah,ag,al,aa,ae,af,ai,isNil,Nat.reduceEqDiff,Nat.reduceAdd,Nat.reduceLT,Nat.reduceLeDiff,Int.reduceNeg,Int.reduceToNat,reduceCtorEq,kR,h0,h1,h5,encI]
      refine aq.dec (fun hc=>?_) (fun hc=>?_)
      · have h2:a[i]?=some (a[i]'(by omega)):=List.getElem?_eq_getElem (by omega)
        have h3:b[i]?=some (b[i]'(by omega)):=List.getElem?_eq_getElem (by omega)
        simp (disch:=omega) only [↓wr,↓reduceIte,wq,ah,ag,al,aa,ae,af,ai,isNil,Nat.reduceEqDiff,Nat.reduceAdd,Nat.reduceLT,Nat.reduceLeDiff,Int.reduceNeg,Int.reduceToNat,reduceCtorEq,h0,h1,h5,encI,List.getElem?_map,h2,h3,Option.map_some]
        refine aq.ne (fun hd=>?_) (fun hd=>?_)
        · simp (disch:=omega) only [↓wr,↓reduceIte,wq,ah,ag,al,aa,ae,af,ai,isNil,Nat.reduceEqDiff,Nat.reduceAdd,Nat.reduceLT,Nat.reduceLeDiff,Int.reduceNeg,Int.reduceToNat,reduceCtorEq]
          have:(a == b)=false:=by
            simp only[beq_eq_false_iff_ne]; rintro rfl; exact hd rfl
          rw[this]
        · simp (disch:=omega) only [↓wr,↓reduceIte,wq,ah,ag,al,aa,ae,af,ai,isNil,Nat.reduceEqDiff,Nat.reduceAdd,Nat.reduceLT,Nat.reduceLeDiff,Int.reduceNeg,Int.reduceToNat,reduceCtorEq,h0,h1,h5,encI]
          refine ⟨k - 1,by omega,i+1,by omega,?_,rfl⟩
          rw[List.take_add_one,List.take_add_one,hi,h2,h3,hd]
      · simp (disch:=omega) only [↓wr,↓reduceIte,wq,ah,ag,al,aa,ae,af,ai,isNil,Nat.reduceEqDiff,Nat.reduceAdd,Nat.reduceLT,Nat.reduceLeDiff,Int.reduceNeg,Int.reduceToNat,reduceCtorEq,h0,h1,h5,encI]
        have:a=b:=by
          have e:i=a.length:=by omega
          rw[List.take_of_length_le (by omega),List.take_of_length_le (by omega)] at hi
          exact hi
        rw[this]; simp
theorem Io (a b:List Int) (ha:aK a):aC Tryz.prog 19 [encI a,encI b] (gb (a == b)) :=
  aC.of (by simp[cy]) ((IL a b ha _).mono fun r H' h h' _=>by rw[h.1]; exact .tree _ (.val _))
theorem eT (l:List Bool):Tree (bf l):=by
  refine .aV _ fun i j hi hj=>?_
  simp only[List.length_map] at hi
  simp[List.getD_eq_getElem?_getD,hi] at hj ⊢
  subst hj
  exact .val _
end Gv
set_option linter.unusedSimpArgs false
set_option maxRecDepth 100000
namespace Gv
open Go Go.Proofs
structure Term where
  name:ByteArray
  level:Int
  assoc:Int
structure aO where
  left:Int
  right:List Int
  prec:Int
structure au where
  aA:List Term
  ar:List ByteArray
  rules:List aO
  start:Int
instance:Inhabited Term:=⟨⟨.empty,0,0⟩⟩
instance:Inhabited aO:=⟨⟨0,[],0⟩⟩
def cb (t:Term):List V:=[gs t.name,gi t.level,gi t.assoc]
def aG (r:aO):List V:=[gi r.left,encI r.right,gi r.prec]
def encS (l:List ByteArray):V:=.aV (l.map fun s=>[gs s])
def ao (g:au):List V:=[.aV (g.aA.map cb),encS g.ar,.aV (g.rules.map aG),gi g.start]
theorem gh {α:Type} (l:List α) (f:α→List V) (h:∀ x∈l,∀ v∈f x,Tree v):Tree (.aV (l.map f)):=by
  refine .aV _ fun i j hi hj=>?_
  simp only[List.length_map] at hi
  have e:(l.map f).getD i []=f l[i]:=by simp[List.getD_eq_getElem?_getD,hi]
  rw[e] at hj ⊢
  have e2:(f l[i]).getD j .any=(f l[i])[j]:=by simp[List.getD_eq_getElem?_getD,hj]
  rw[e2]
  exact h _ (List.getElem_mem _) _ (List.getElem_mem _)
theorem bT (cs:List V) (h:∀ v∈cs,Tree v):Tree (.agg cs):=by
  refine .agg _ fun i hi=>?_
  have e2:cs.getD i .any=cs[i]:=by simp[List.getD_eq_getElem?_getD,hi]
  rw[e2]; exact h _ (List.getElem_mem _)
theorem yX (l:List ByteArray):Tree (encS l):=gh _ _ fun x _ v hv=>by simp at hv; subst hv; exact .val _
theorem yW (t:Term):∀ v∈cb t,Tree v:=by intro v hv; simp[cb] at hv; rcases hv with rfl | rfl | rfl <;> exact .val _
theorem fS (r:aO):∀ v∈aG r,Tree v:=by
  intro v hv; simp[aG] at hv; rcases hv with rfl | rfl | rfl
  · exact .val _
  · exact cy _
  · exact .val _
theorem bH (g:au):∀ v∈ao g,Tree v:=by
  intro v hv; simp[ao] at hv; rcases hv with rfl | rfl | rfl | rfl
  · exact gh _ _ fun x _=>yW x
  · exact yX _
  · exact gh _ _ fun x _=>fS x
  · exact .val _
def bB (x:Int):Prop:=-9223372036854775808≤x∧x≤9223372036854775807
structure au.Ok (g:au):Prop where
  aA:aK g.aA
  ar:aK g.ar
  rules:aK g.rules
  start:bB g.start
  term:∀ t∈g.aA,bB t.level∧bB t.assoc
  bg:∀ r∈g.rules,bB r.left∧bB r.prec∧aK r.right∧∀ x∈r.right,bB x
def lH (g:au) (s:Int):Bool:=if 0≤s then decide (s < g.aA.length) else decide (-1 - s < g.ar.length)
def np:SF:=⟨.seq (an [da 2 0,bb 4 false]) <|
  .seq (.seq (an [aj 5 1,aH 6 .geq 5 0]) <|
  .cond (.tmp 6) (.seq (an [aj 7 1,aD 8 0 2,av 9 8,aX 10 9,bu 11 .lss 7 10,aj 4 11]) <|
  .ret) (.skip)) <|
  .seq (an [aj 12 1,((some 13),.op (.arith .sub (.val (.val (.int .i64 (-1)))) (.tmp 12))),aD 14 1 2,av 15 14,aX 16 15,bu 17 .lss 13 16,aj 4 17]) <|
  .ret,
  [.tmp 4],18⟩
theorem se:aR Tryz.prog 85 [2]=some np:=by kernel_rfl
theorem Jo (g:au) (s:Int) (hs:bB s) (H:View):aB Tryz.prog 85 [.agg (ao g),gi s] H fun r H'=>r=gb (lH g s)∧H'=H:=by
  refine aB.of mixed se ?_
  obtain ⟨h1,h2⟩:=hs
  simp (disch:=omega) only [↓wr,↓reduceIte,wq,ah,ag,al,aa,ae,af,ai,isNil,Nat.reduceEqDiff,Nat.reduceAdd,Nat.reduceLT,Nat.reduceLeDiff,Int.reduceNeg,Int.reduceToNat,reduceCtorEq,np,ao,encS]
  refine aq.dec (fun h=>?_) (fun h=>?_)
  · simp (disch:=omega) only [↓wr,↓reduceIte,wq,ah,ag,al,aa,ae,af,ai,isNil,Nat.reduceEqDiff,Nat.reduceAdd,Nat.reduceLT,Nat.reduceLeDiff,Int.reduceNeg,Int.reduceToNat,reduceCtorEq]
    simp[lH,show (0:Int)≤s from h]
  · simp (disch:=omega) only [↓wr,↓reduceIte,wq,ah,ag,al,aa,ae,af,ai,isNil,Nat.reduceEqDiff,Nat.reduceAdd,Nat.reduceLT,Nat.reduceLeDiff,Int.reduceNeg,Int.reduceToNat,reduceCtorEq]
    simp[lH,show ¬ (0:Int)≤s from h]
theorem Ja (g:au) (s:Int) (hs:bB s):aC Tryz.prog 85 [.agg (ao g),gi s] (gb (lH g s)) :=
  aC.of (by
    intro v hv; simp at hv
    rcases hv with rfl | rfl
    · exact bT _ (bH g)
    · exact .val _) ((Jo g s hs _).mono fun r H' h h' _=>by rw[h.1]; exact .tree _ (.val _))
def kW (g:au):Bool:=decide (40 < g.aA.length) || decide (40 < g.ar.length) || decide (60 < g.rules.length) || g.rules.any fun r=>decide (20 < r.right.length)
def j4:SC :=
  .seq (.seq (an [aj 20 3,aD 21 2 1,av 22 21,aX 23 22,bu 24 .lss 20 23]) <|
  .cond (.tmp 24) (.skip) (.exit 0)) <|
  .seq (.block 1 (.seq (an [aD 27 2 1,av 28 27,aj 29 3,aW 30 3 28 29,aD 31 1 30,av 32 31,aX 33 32,aH 34 .gtr 33 20]) <|
  .cond (.tmp 34) (.seq (an [bb 2 true]) <|
  .ret) (.skip))) <|
  an [aj 25 3,aH 26 .add 25 1,aj 3 26]
def lB:SF:=⟨.seq (an [da 1 0,bb 2 false]) <|
  .seq (.seq (.region false [⟨none,[aD 4 0 1,av 5 4,aX 6 5,aH 7 .gtr 6 40,aj 8 7]⟩,⟨(some (8,false)),[aD 9 1 1,av 10 9,aX 11 10,aH 12 .gtr 11 40]⟩,⟨none,[bN 13 8 12,aj 14 13]⟩,⟨(some (14,false)),[aD 15 2 1,av 16 15,aX 17 16,aH 18 .gtr 17 60]⟩,⟨none,[bN 19 14 18]⟩]) <|
  .cond (.tmp 19) (.seq (an [bb 2 true]) <|
  .ret) (.skip)) <|
  .seq (.seq (an [bk 3 0]) <|
  .block 0 (.loop j4)) <|
  .seq (an [bb 2 false]) <|
  .ret,
  [.tmp 2],35⟩
theorem qd:aR Tryz.prog 13 [1]=some lB:=by kernel_rfl
theorem Gu (g:au) (H:View):aB Tryz.prog 13 [.agg (ao g)] H fun r H'=>r=gb (kW g)∧H'=H:=by
  refine aB.of mixed qd ?_
  simp (disch:=omega) only [↓wr,↓reduceIte,wq,ah,ag,al,aa,ae,af,ai,isNil,Nat.reduceEqDiff,Nat.reduceAdd,Nat.reduceLT,Nat.reduceLeDiff,Int.reduceNeg,Int.reduceToNat,reduceCtorEq,lB,ao,encS]
  refine aq.dec (fun h1=>?_) (fun h1=>?_)
  · simp (disch:=omega) only [↓wr,↓reduceIte,wq,ah,ag,al,aa,ae,af,ai,isNil,Nat.reduceEqDiff,Nat.reduceAdd,Nat.reduceLT,Nat.reduceLeDiff,Int.reduceNeg,Int.reduceToNat,reduceCtorEq]
    simp[kW,show 40 < g.aA.length by omega]
  · simp (disch:=omega) only [↓wr,↓reduceIte,wq,ah,ag,al,aa,ae,af,ai,isNil,Nat.reduceEqDiff,Nat.reduceAdd,Nat.reduceLT,Nat.reduceLeDiff,Int.reduceNeg,Int.reduceToNat,reduceCtorEq]
    refine aq.dec (fun h2=>?_) (fun h2=>?_)
    · simp (disch:=omega) only [↓wr,↓reduceIte,wq,ah,ag,al,aa,ae,af,ai,isNil,Nat.reduceEqDiff,Nat.reduceAdd,Nat.reduceLT,Nat.reduceLeDiff,Int.reduceNeg,Int.reduceToNat,reduceCtorEq]
      simp[kW,show 40 < g.ar.length by omega]
    · simp (disch:=omega) only [↓wr,↓reduceIte,wq,ah,ag,al,aa,ae,af,ai,isNil,Nat.reduceEqDiff,Nat.reduceAdd,Nat.reduceLT,Nat.reduceLeDiff,Int.reduceNeg,Int.reduceToNat,reduceCtorEq]
      refine aq.dec (fun h3=>?_) (fun h3=>?_)
      · simp (disch:=omega) only [↓wr,↓reduceIte,wq,ah,ag,al,aa,ae,af,ai,isNil,Nat.reduceEqDiff,Nat.reduceAdd,Nat.reduceLT,Nat.reduceLeDiff,Int.reduceNeg,Int.reduceToNat,reduceCtorEq]
        simp[kW,show 60 < g.rules.length by omega]
      · simp (disch:=omega) only [↓wr,↓reduceIte,wq,ah,ag,al,aa,ae,af,ai,isNil,Nat.reduceEqDiff,Nat.reduceAdd,Nat.reduceLT,Nat.reduceLeDiff,Int.reduceNeg,Int.reduceToNat,reduceCtorEq]
        refine bm.intro (fun k T H'=>∃ i:Nat,i+k=g.rules.length∧(∀ r∈g.rules.take i,¬ 20 < r.right.length)∧T 1=.aI (ao g) 0∧T 3=gi i∧H'=H) g.rules.length ?_ ?_
        · exact ⟨0,by omega,by simp,rfl,rfl,rfl⟩
        · rintro k T H' ⟨i,hk,hi,e1,e3,rfl⟩
          simp (disch:=omega) only [↓wr,↓reduceIte,wq,ah,ag,al,aa,ae,af,ai,isNil,Nat.reduceEqDiff,Nat.reduceAdd,Nat.reduceLT,Nat.reduceLeDiff,Int.reduceNeg,Int.reduceToNat,reduceCtorEq,j4,e1,e3,ao]
          refine aq.dec (fun hc=>?_) (fun hc=>?_)
          · have hg:g.rules[i]?=some (g.rules[i]'(by omega)):=List.getElem?_eq_getElem (by omega)
            simp (disch:=omega) only [↓wr,↓reduceIte,wq,ah,ag,al,aa,ae,af,ai,isNil,Nat.reduceEqDiff,Nat.reduceAdd,Nat.reduceLT,Nat.reduceLeDiff,Int.reduceNeg,Int.reduceToNat,reduceCtorEq,e1,e3,ao,aG,encI,List.getElem?_map,hg,Option.map_some]
            refine aq.dec (fun hd=>?_) (fun hd=>?_)
            · simp (disch:=omega) only [↓wr,↓reduceIte,wq,ah,ag,al,aa,ae,af,ai,isNil,Nat.reduceEqDiff,Nat.reduceAdd,Nat.reduceLT,Nat.reduceLeDiff,Int.reduceNeg,Int.reduceToNat,reduceCtorEq]
              have:g.rules.any (fun r=>decide (20 < r.right.length))=true:=by
                simp only[List.any_eq_true,decide_eq_true_eq]
                exact ⟨g.rules[i]'(by omega),List.getElem_mem _,by omega⟩
              simp[kW,this]
            · simp (disch:=omega) only [↓wr,↓reduceIte,wq,ah,ag,al,aa,ae,af,ai,isNil,Nat.reduceEqDiff,Nat.reduceAdd,Nat.reduceLT,Nat.reduceLeDiff,Int.reduceNeg,Int.reduceToNat,reduceCtorEq,e1,e3]
              refine ⟨k - 1,by omega,i+1,by omega,?_,rfl,rfl⟩
              intro r hr
              rw[List.take_add_one,hg] at hr
              simp only[Option.toList_some,List.mem_append,List.mem_singleton] at hr
              rcases hr with hr | rfl
              · exact hi r hr
              · omega
          · simp (disch:=omega) only [↓wr,↓reduceIte,wq,ah,ag,al,aa,ae,af,ai,isNil,Nat.reduceEqDiff,Nat.reduceAdd,Nat.reduceLT,Nat.reduceLeDiff,Int.reduceNeg,Int.reduceToNat,reduceCtorEq,e1,e3]
            have e:i=g.rules.length:=by omega
            rw[List.take_of_length_le (by omega)] at hi
            have:g.rules.any (fun r=>decide (20 < r.right.length))=false:=by
              simp only[List.any_eq_false,decide_eq_true_eq]; exact hi
            simp only[kW,this]
            simp; omega
end Gv
set_option linter.unusedSimpArgs false
set_option maxRecDepth 100000
namespace Gv
open Go Go.Proofs
def ca (l:List Int) (is:List Bool) (aA:Bool):Bool:=l.all fun s=>if 0≤s then aA else is.getD (-1 - s).toNat false
def k8:SC :=
  .seq (.seq (an [aj 8 7,aj 9 0,aX 10 9,bu 11 .lss 8 10]) <|
  .cond (.tmp 11) (.skip) (.exit 0)) <|
  .seq (.block 1 (.seq (.region false [⟨none,[aj 14 0,aj 15 7,aW 16 1 14 15,av 17 16,aH 18 .geq 17 0,aj 19 18]⟩,⟨(some (19,true)),[aj 20 2,bP 21 20]⟩,⟨none,[cx 22 19 21,aj 23 22]⟩,⟨(some (23,false)),[aj 24 0,aj 25 7,aW 26 1 24 25,av 27 26,aH 28 .lss 27 0,aj 29 28]⟩,⟨(some (29,true)),[aj 30 1,aj 31 0,aj 32 7,aW 33 1 31 32,av 34 33,((some 35),.op (.arith .sub (.val (.val (.int .i64 (-1)))) (.tmp 34))),aW 36 1 30 35,av 37 36,bP 38 37]⟩,⟨(some (23,false)),[cx 39 29 38]⟩,⟨none,[bN 40 23 39]⟩]) <|
  .cond (.tmp 40) (.seq (an [bb 6 false]) <|
  .ret) (.skip))) <|
  an [aj 12 7,aH 13 .add 12 1,aj 7 13]
def nC:SF:=⟨.seq (an [bb 6 false]) <|
  .seq (.seq (an [bk 7 0]) <|
  .block 0 (.loop k8)) <|
  .seq (an [bb 6 true]) <|
  .ret,
  [.tmp 6],41⟩
theorem rr:aR Tryz.prog 79 []=some nC:=by kernel_rfl
theorem I5 (l:List Int) (is:List Bool) (t:Bool) (hl:aK l) (hs:∀ s∈l,bB s∧(s < 0→-1 - s < is.length)) (H:View) :
    aB Tryz.prog 79 [encI l,bf is,gb t] H fun r H'=>r=gb (ca l is t)∧H'=H:=by
  refine aB.of mixed rr ?_
  unfold aK at hl
  simp (disch:=omega) only [↓wr,↓reduceIte,wq,ah,ag,al,aa,ae,af,ai,isNil,Nat.reduceEqDiff,Nat.reduceAdd,Nat.reduceLT,Nat.reduceLeDiff,Int.reduceNeg,Int.reduceToNat,reduceCtorEq,nC]
  refine bm.intro (fun k T H'=>∃ i:Nat,i+k=l.length∧ca (l.take i) is t=true∧T 0=encI l∧T 1=bf is∧T 2=gb t∧T 7=gi i∧H'=H) l.length ?_ ?_
  · exact ⟨0,by omega,by simp[ca],rfl,rfl,rfl,rfl,rfl⟩
  · rintro k T H' ⟨i,hk,hi,h0,h1,h2,h7,rfl⟩
    simp (disch:=omega) only [↓wr,↓reduceIte,wq,ah,ag,al,aa,ae,af,ai,isNil,Nat.reduceEqDiff,Nat.reduceAdd,Nat.reduceLT,Nat.reduceLeDiff,Int.reduceNeg,Int.reduceToNat,reduceCtorEq,k8,h0,h1,h2,h7,encI]
    refine aq.dec (fun hc=>?_) (fun hc=>?_)
    · have hg:l[i]?=some (l[i]'(by omega)):=List.getElem?_eq_getElem (by omega)
      have hm:l[i]'(by omega)∈l:=List.getElem_mem _
      generalize l[i]'(by omega)=s at hg hm
      obtain ⟨⟨hs1,hs2⟩,hs3⟩:=hs s hm
      have hstep:ca (l.take (i+1)) is t=(if 0≤s then t else is.getD (-1 - s).toNat false):=by
        rw[List.take_add_one,hg]
        simp only[ca,Option.toList_some,List.all_append,List.all_cons,List.all_nil,Bool.and_true] at hi ⊢
        rw[hi,Bool.true_and]
      have hfail:(if 0≤s then t else is.getD (-1 - s).toNat false)=false→ca l is t=false:=by
        intro hb
        simp only[ca,List.all_eq_false]
        exact ⟨s,hm,by simpa using hb⟩
      simp (disch:=omega) only [↓wr,↓reduceIte,wq,ah,ag,al,aa,ae,af,ai,isNil,Nat.reduceEqDiff,Nat.reduceAdd,Nat.reduceLT,Nat.reduceLeDiff,Int.reduceNeg,Int.reduceToNat,reduceCtorEq,h0,h1,h2,h7,encI,List.getElem?_map,hg,Option.map_some]
      refine aq.dec (fun hd=>?_) (fun hd=>?_)
      · rw[if_pos (show 0≤s from hd)] at hstep hfail
        cases t with
        | true =>
          simp (disch:=omega) only [↓wr,↓reduceIte,wq,ah,ag,al,aa,ae,af,ai,isNil,Nat.reduceEqDiff,Nat.reduceAdd,Nat.reduceLT,Nat.reduceLeDiff,Int.reduceNeg,Int.reduceToNat,reduceCtorEq,h0,h1,h2,h7,encI,List.getElem?_map,hg,Option.map_some]
          refine aq.dec (fun hn=>absurd hn (by omega)) (fun _=>?_)
          simp (disch:=omega) only [↓wr,↓reduceIte,wq,ah,ag,al,aa,ae,af,ai,isNil,Nat.reduceEqDiff,Nat.reduceAdd,Nat.reduceLT,Nat.reduceLeDiff,Int.reduceNeg,Int.reduceToNat,reduceCtorEq,h0,h1,h2,h7,encI,bf,List.getElem?_map,hg,Option.map_some]
          exact ⟨k - 1,by omega,i+1,by omega,hstep,rfl⟩
        | false =>
          simp (disch:=omega) only [↓wr,↓reduceIte,wq,ah,ag,al,aa,ae,af,ai,isNil,Nat.reduceEqDiff,Nat.reduceAdd,Nat.reduceLT,Nat.reduceLeDiff,Int.reduceNeg,Int.reduceToNat,reduceCtorEq,h0,h1,h2,h7,encI,List.getElem?_map,hg,Option.map_some]
          rw[hfail rfl]
      · rw[if_neg (show ¬ 0≤s from hd)] at hstep hfail
        simp (disch:=omega) only [↓wr,↓reduceIte,wq,ah,ag,al,aa,ae,af,ai,isNil,Nat.reduceEqDiff,Nat.reduceAdd,Nat.reduceLT,Nat.reduceLeDiff,Int.reduceNeg,Int.reduceToNat,reduceCtorEq,h0,h1,h2,h7,encI,List.getElem?_map,hg,Option.map_some]
        refine aq.dec (fun hn=>?_) (fun hn=>absurd hn (by omega))
        have hb:is[(-1 - s).toNat]?=some (is[(-1 - s).toNat]'(by omega)):=List.getElem?_eq_getElem (by omega)
        have hbd:is.getD (-1 - s).toNat false=is[(-1 - s).toNat]'(by omega):=by simp[List.getD_eq_getElem?_getD,hb]
        rw[hbd] at hstep hfail
        generalize is[(-1 - s).toNat]'(by omega)=b at hb hstep hfail
        simp (disch:=omega) only [↓wr,↓reduceIte,wq,ah,ag,al,aa,ae,af,ai,isNil,Nat.reduceEqDiff,Nat.reduceAdd,Nat.reduceLT,Nat.reduceLeDiff,Int.reduceNeg,Int.reduceToNat,reduceCtorEq,h0,h1,h2,h7,encI,bf,List.getElem?_map,hg,hb,Option.map_some]
        cases b with
        | true =>
          simp (disch:=omega) only [↓wr,↓reduceIte,wq,ah,ag,al,aa,ae,af,ai,isNil,Nat.reduceEqDiff,Nat.reduceAdd,Nat.reduceLT,Nat.reduceLeDiff,Int.reduceNeg,Int.reduceToNat,reduceCtorEq,h0,h1,h2,h7,encI,bf,List.getElem?_map,hg,hb,Option.map_some]
          exact ⟨k - 1,by omega,i+1,by omega,hstep,rfl⟩
        | false =>
          simp (disch:=omega) only [↓wr,↓reduceIte,wq,ah,ag,al,aa,ae,af,ai,isNil,Nat.reduceEqDiff,Nat.reduceAdd,Nat.reduceLT,Nat.reduceLeDiff,Int.reduceNeg,Int.reduceToNat,reduceCtorEq,h0,h1,h2,h7,encI,bf,List.getElem?_map,hg,hb,Option.map_some]
          rw[hfail rfl]
    · simp (disch:=omega) only [↓wr,↓reduceIte,wq,ah,ag,al,aa,ae,af,ai,isNil,Nat.reduceEqDiff,Nat.reduceAdd,Nat.reduceLT,Nat.reduceLeDiff,Int.reduceNeg,Int.reduceToNat,reduceCtorEq,h0,h1,h2,h7]
      have e:i=l.length:=by omega
      rw[List.take_of_length_le (by omega)] at hi
      rw[hi]
end Gv
