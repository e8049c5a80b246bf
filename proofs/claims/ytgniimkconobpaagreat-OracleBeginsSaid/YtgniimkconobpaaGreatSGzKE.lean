/-
  Part 5 of the proof: what the machine does and what the functions answer.
  Conditions: those that each lemma names.
-/
import Derived.Test.YtgniimkconobpaaGreatProg
import Derived.KernelRfl
import Derived.Test.YtgniimkconobpaaGreatSGzKD
set_option linter.unusedSimpArgs false
set_option linter.unusedVariables false
namespace Gv
open Go
section
variable {P:Program} {n:Nat} {all:List Oper}
theorem Hc (h:aF):h.view h.length=.dead:=by simp[aF.view,List.getD_eq_getElem?_getD]
theorem JQ {o:Oper} {T:Env} {h:aF} {s:SI} {K:V→View→Prop} (hg:cp n all T o=some true) (hc:∀ v aB rd,sI P s T h.view h.length=some (v,aB,rd)→bN P o T h.view h.length=some (v,aB,rd)) (hw:wI P s T h.view K) :
    ∃ v h' rd wr,cQ P n all o T h v h' rd wr false∧fY h h'∧K v h'.view∧iq (o9 P s) rd wr false h.length h'.length:=by
  obtain ⟨v,aB,rd,hs,hk⟩:=JO hw (Hc h)
  have ha:=hc _ _ _ hs
  have hlive:∀ id,id∈aB.wr→h.view id≠.dead:=fun id hid=>(jM ha id hid).1
  refine ⟨v,aB.apply h,rd,aB.wr,.op hg ha,?_,?_,?_,?_⟩
  · intro id hid hd
    rw[iM hlive]
    cases aB with
    | none=>exact hd
    | new o=>simp only[bd.view,View.set]; rw[if_neg (by omega)]; exact hd
    | dN k o =>
      simp only[bd.view,View.set]
      rw[if_neg (by rintro rfl; exact hlive id (by simp[bd.wr]) hd)]; exact hd
    | bu k o =>
      simp only[bd.view,View.set]
      rw[if_neg (by omega)]
      split
      · rfl
      · exact hd
  · rw[iM (fun id hid=>(jM ha id hid).1)]; exact hk
  · intro h0
    obtain ⟨rfl,rfl⟩:=(og hs).1 h0
    exact ⟨rfl,rfl,rfl,rfl⟩
  · intro h1
    rcases Nat.lt_or_ge (o9 P s) 1 with h2 | h2
    · obtain ⟨rfl,rfl⟩:=(og hs).1 (by omega); rfl
    · exact (og hs).2 (by omega)
theorem C6 {P:Program} {fr:Bool} {s:SI} {T:Env} {H:View} {n:Nat} {v:V} {aB:bd} {rd:List Nat} (h:sI P (ue P fr s) T H n=some (v,aB,rd)):sI P s T H n=some (v,aB,rd):=by
  unfold ue at h
  split at h
  · split at h
    · exact Ho h
    · exact h
  · split at h
    · rename_i hc
      simp only[Bool.and_eq_true] at hc
      exact IF hc.2 h
    · exact h
  · exact h
theorem uZ (P:Program) (fz:Fz) (o:Oper) :
    (∃ f args ats,o.op=.call { callee:=.value f,args:=args,argTypes:=ats }∧kx P fz o=.call (SX.of f) (args.toList.map SX.of)) ∨
    (∃ t x,o.op=.box t x∧kx P fz o=.op (.fT (SX.of x)))∨(∃ s d x,o.op=.convert s d x∧qD P s d=true∧kx P fz o=.op (.ed (SX.of x)))∨kx P fz o=.op (ue P fz.fr (comp P o)):=by
  unfold kx
  split
  · rename_i f args ats ho; exact .inl ⟨f,args,ats,ho,rfl⟩
  · rename_i t x ho
    by_cases hd:(match o.dst with | some d=>fz.l.contains d | none=>false)=true
    · exact .inr (.inl ⟨t,x,ho,if_pos hd⟩)
    · refine .inr (.inr (.inr ?_))
      refine (if_neg hd).trans ?_
      simp only[comp,ho,ue]
  · rename_i s d x ho
    by_cases hd:((match o.dst with | some d=>fz.l.contains d | none=>false) && qD P s d)=true
    · exact .inr (.inr (.inl ⟨s,d,x,ho,by simp only[Bool.and_eq_true] at hd; exact hd.2,if_pos hd⟩))
    · exact .inr (.inr (.inr (if_neg hd)))
  · exact .inr (.inr (.inr rfl))
theorem cQ.len {o:Oper} {T:Env} {h h':aF} {v:V} {rd wr:List Nat} {call:Bool} (st:cQ P n all o T h v h' rd wr call):h.length≤h'.length:=by
  cases st with
  | skip=>exact Nat.le_refl _
  | op _ _=>rename_i aB _ _ ; cases aB <;> simp[bd.apply]
  | fT _ _ _=>exact Nat.le_refl _
  | ed _ _ _ _ _ _=>exact Nat.le_refl _
  | call _ _ _ _ ha _ _=>exact ha.1
theorem IM {fz:Fz} {o:Oper} {T:Env} {h:aF} {quiet:Bool} {K:V→View→Prop} (hg:cp n all T o=some true) (hw:wB P quiet (kx P fz o) T h.view K) :
    ∃ v h' rd wr call,cQ P n all o T h v h' rd wr call∧fY h h'∧K v h'.view∧iq (fG P quiet (kx P fz o)) rd wr call h.length h'.length:=by
  rcases uZ P fz o with ⟨f,args,ats,ho,hc⟩ | ⟨t,x,ho,hc⟩ | ⟨s,d,x,ho,hcv,hc⟩ | hc
  · rw[hc] at hw ⊢
    simp only[wB] at hw
    split at hw
    · rename_i g first cap hf
      rw[Bo] at hw
      rw[SX.bT] at hf
      split at hw
      · rename_i hq
        obtain ⟨hok,hq'⟩:=hw
        obtain ⟨r,h',hr,hold,hk⟩:=hq' h rfl
        refine ⟨r,h',[],[],true,.call hg ho hf hok hr (fun id hid _=>hold id hid) (fun id hid=>by simp at hid),fun id hid hd=>(hold id hid).trans hd,hk,?_,?_⟩
        · intro h0; simp[fG,hq] at h0
        · intro _; rfl
      · rename_i hq
        obtain ⟨hok,hq'⟩:=hw
        obtain ⟨r,h',hr,hst,hk⟩:=hq' h rfl
        refine ⟨r,h',[],List.range h.length,true,.call hg ho hf hok hr (fun id hid hn=>?_) (fun id hid=>by simpa using hid),hst,hk,HI (by simp[fG,hq])⟩
        exact absurd (by simpa using hid) hn
    · exact hw.elim
  · rw[hc] at hw ⊢
    simp only[wB,wI,SX.bT] at hw
    exact ⟨_,h,[],[],false,.fT hg ho hw.1,.refl _,hw.2,fun _=>⟨rfl,rfl,rfl,rfl⟩,fun _=>rfl⟩
  · rw[hc] at hw ⊢
    simp only[wB,wI,SX.bT] at hw
    obtain ⟨e,h1,h2,h3⟩:=vc hcv
    split at hw
    · rename_i st hx
      exact ⟨_,h,[],[],false,.ed hg ho h1 h2 h3 hx,.refl _,hw,fun _=>⟨rfl,rfl,rfl,rfl⟩,fun _=>rfl⟩
    · exact hw.elim
  · rw[hc] at hw ⊢
    obtain ⟨v,h',rd,wr,h1,h0,h2,h3⟩:=JQ (s:=ue P fz.fr (comp P o)) hg (fun v aB rd hs=>CQ (C6 hs)) hw
    exact ⟨v,h',rd,wr,false,h1,h0,h2,h3⟩
def dU (P:Program) (quiet:Bool) (l:List SO) (recs:List Rec):Prop :=
  l.length=recs.length∧∀ (i:Nat) (s:SO) (r:Rec),l[i]?=some s→recs[i]?=some r→iq (fG P quiet s.b) r.rd r.wr r.call r.lo r.hi
theorem dU.nil {quiet:Bool} : dU P quiet [] []:=⟨rfl,fun i s r h=>by simp at h⟩
theorem dU.cons {quiet:Bool} {l:List SO} {recs:List Rec} {s:SO} {r:Rec} (h:dU P quiet l recs) (hr:iq (fG P quiet s.b) r.rd r.wr r.call r.lo r.hi):dU P quiet (s :: l) (r :: recs):=by
  refine ⟨by simp[h.1],fun i s' r' hs hr'=>?_⟩
  cases i with
  | zero=>simp at hs hr'; subst hs hr'; exact hr
  | succ i=>exact h.2 i s' r' (by simpa using hs) (by simpa using hr')
theorem dU.append {quiet:Bool} {l l':List SO} {recs recs':List Rec} (h:dU P quiet l recs) (h':dU P quiet l' recs'):dU P quiet (l ++ l') (recs ++ recs'):=by
  refine ⟨by simp[h.1,h'.1],fun i s r hs hr=>?_⟩
  by_cases hi:i < l.length
  · rw[List.getElem?_append_left hi] at hs
    rw[List.getElem?_append_left (h.1 ▸ hi)] at hr
    exact h.2 i s r hs hr
  · rw[List.getElem?_append_right (by omega)] at hs
    rw[List.getElem?_append_right (by have:=h.1; omega)] at hr
    exact h'.2 (i - l.length) s r hs (by rw[h.1]; exact hr)
theorem pf {fz:Fz} {o:Oper} {s:SO} (h:zS P n all fz o=some s):nH n o=true∧s.dst=o.dst∧s.b=kx P fz o∧qv n all o=some s.guard:=by
  unfold zS at h
  split at h
  · rename_i hd
    simp only[Option.map_eq_some_iff] at h
    obtain ⟨g,hg,rfl⟩:=h
    exact ⟨hd,rfl,rfl,hg⟩
  · simp at h
theorem wC {o:Oper} {T:Env} (h:qv n all o=some none):cp n all T o=some true:=by
  unfold qv at h
  unfold cp
  split at h
  · rename_i hg; rw[hg]
  · split at h
    · split at h
      · simp at h
      · simp at h
    · simp at h
theorem iF {o:Oper} {T:Env} {d:Nat} {want:Bool} (h:qv n all o=some (some (d,want))) :
    (∀ b,T d=.val (.bool b)→cp n all T o=some (b == want))∧(T d=.bz []→cp n all T o=some false):=by
  unfold qv at h
  unfold cp
  split at h
  · simp at h
  · rename_i j w hg
    rw[hg]
    split at h
    · rename_i d' hd
      split at h
      · rename_i hlt
        simp at h
        obtain ⟨rfl,rfl⟩:=h
        simp only[hd,hlt,if_true]
        exact ⟨fun b hb=>by rw[hb],fun hb=>by rw[hb]⟩
      · simp at h
    · simp at h
theorem iI {fz:Fz} {os:List Oper} (h:cy P n all fz os=some []):os=[]:=by
  cases os with
  | nil=>rfl
  | cons o r =>
    simp only[cy] at h
    split at h <;> simp at h
theorem jj {fz:Fz} {os:List Oper} {s:SO} {l:List SO} (h:cy P n all fz os=some (s :: l)):∃ o r,os=o :: r∧zS P n all fz o=some s∧cy P n all fz r=some l:=by
  cases os with
  | nil=>simp[cy] at h
  | cons o r =>
    simp only[cy] at h
    split at h
    · rename_i s' l' h1 h2
      simp at h
      obtain ⟨rfl,rfl⟩:=h
      exact ⟨o,r,rfl,h1,h2⟩
    · simp at h
theorem m7 {fz:Fz} : ∀ {l l':List SO} {os:List Oper},cy P n all fz os=some (l ++ l')→∃ a b,os=a ++ b∧cy P n all fz a=some l∧cy P n all fz b=some l'
  | [],l',os,h=>⟨[],os,rfl,rfl,h⟩
  | s :: l,l',os,h=>by
    obtain ⟨o,r,rfl,h1,h2⟩:=jj h
    obtain ⟨a,b,rfl,h3,h4⟩:=m7 h2
    exact ⟨o :: a,b,rfl,by simp[cy,h1,h3],h4⟩
theorem Tr.append {a b:List Oper} {T T1 T2:Env} {h h1 h2:aF} {r1 r2:List Rec} (x:Tr P n all a T h r1 T1 h1) (y:Tr P n all b T1 h1 r2 T2 h2):Tr P n all (a ++ b) T h (r1 ++ r2) T2 h2:=by
  induction x with
  | nil=>exact y
  | cons st hd _ ih=>exact .cons st hd (ih y)
theorem vT {T:Env} {d:Nat} {v:V} (h:T d=v):T.put (some d) v=T:=by
  funext t
  simp only[Env.put]
  split
  · rename_i e; subst e; exact h.symm
  · rfl
theorem Ao {fz:Fz} {quiet:Bool} {K:Env→View→Prop} (g:Option (Nat × Bool)):∀ (l:List (Option Nat × SB)) (os:List Oper) (T:Env) (h:aF),
    cy P n all fz os=some (l.map fun (d,b)=>⟨d,g,b⟩)→(∀ d w,g=some (d,w)→T d=.val (.bool w)∧(l.all fun x=>x.1 != some d)=true)→tg P quiet l T h.view K →
    ∃ recs T' h',Tr P n all os T h recs T' h'∧(fY h h'∧h.length≤h'.length)∧K T' h'.view∧dU P quiet (l.map fun (d,b)=>⟨d,g,b⟩) recs
  | [],os,T,h,hc,hg,hw=>by
    have:=iI hc; subst this
    exact ⟨[],T,h,.nil,⟨.refl _,Nat.le_refl _⟩,hw,.nil⟩
  | (d,b) :: l,os,T,h,hc,hg,hw=>by
    obtain ⟨o,r,rfl,h1,h2⟩:=jj hc
    obtain ⟨hd,hd1,hb1,hg1⟩:=pf h1
    simp only at hd1 hb1 hg1
    have hgv:cp n all T o=some true:=by
      cases g with
      | none=>exact wC hg1
      | some p =>
        obtain ⟨d',w⟩:=p
        have:=(iF (T:=T) hg1).1 w (hg d' w rfl).1
        rw[this]; simp
    simp only[tg] at hw
    rw[hb1] at hw
    obtain ⟨v,h',rd,wr,call,st,hst,hk,hl⟩:=IM hgv hw
    obtain ⟨recs,T',h'',tr,hst',hk',hro⟩:=Ao g l r (T.put d v) h' h2 (fun d' w e=>by
      have:=hg d' w e
      simp only[List.all_cons,Bool.and_eq_true,bne_iff_ne,ne_eq] at this
      refine ⟨?_,this.2.2⟩
      rw[← this.1]
      cases d with
      | none=>rfl
      | some t=>simp only[Env.put]; rw[if_neg]; intro e; subst e; exact this.2.1 rfl) hk
    rw[hd1] at tr
    have hlen:=st.len
    exact ⟨_,T',h'',.cons st hd tr,⟨hst.trans hst'.1 hlen,Nat.le_trans hlen hst'.2⟩,hk',hro.cons (by rw[hb1]; exact hl)⟩
theorem yh {fz:Fz} {quiet:Bool} (d:Nat) (w:Bool) (h:aF):∀ (l:List (Option Nat × SB)) (os:List Oper) (T:Env),
    cy P n all fz os=some (l.map fun (d',b)=>⟨d',some (d,w),b⟩)→(T d=.val (.bool !w)∨T d=.bz [])→(l.all fun x=>x.1 != some d)=true →
    ∃ recs,Tr P n all os T h recs (fo l T) h∧dU P quiet (l.map fun (d',b)=>⟨d',some (d,w),b⟩) recs
  | [],os,T,hc,hd,hl=>by
    have:=iI hc; subst this
    exact ⟨[],.nil,.nil⟩
  | (d',b) :: l,os,T,hc,hd,hl=>by
    obtain ⟨o,r,rfl,h1,h2⟩:=jj hc
    obtain ⟨hd0,hd1,hb1,hg1⟩:=pf h1
    simp only at hd1 hb1 hg1
    have hgv:cp n all T o=some false:=by
      rcases hd with hd | hd
      · rw[(iF (T:=T) hg1).1 _ hd]; cases w <;> rfl
      · exact (iF (T:=T) hg1).2 hd
    simp only[List.all_cons,Bool.and_eq_true,bne_iff_ne,ne_eq] at hl
    obtain ⟨recs,tr,hro⟩:=yh d w h l r (T.put d' (.bz [])) h2 (by
      have:(T.put d' (.bz [])) d=T d:=by
        cases d' with
        | none=>rfl
        | some t=>simp only[Env.put]; rw[if_neg]; intro e; subst e; exact hl.1 rfl
      rw[this]; exact hd) hl.2
    rw[hd1] at tr
    refine ⟨_,?_,hro.cons (r:=⟨[],[],false,h.length,h.length⟩) ⟨fun _=>⟨rfl,rfl,rfl,rfl⟩,fun _=>rfl⟩⟩
    have:=Tr.cons (.skip hgv) hd0 tr
    rw[fo,hd1]
    exact this
theorem JH {fz:Fz} {quiet:Bool} {K:Env→View→Prop} {g:SG} {os:List Oper} {T:Env} {h:aF} (hc:cy P n all fz os=some g.flat) (hok:pJ g=true) (hw:wG P quiet g T h.view K) :
    ∃ recs T' h',Tr P n all os T h recs T' h'∧(fY h h'∧h.length≤h'.length)∧K T' h'.view∧dU P quiet g.flat recs:=by
  unfold wG at hw
  unfold SG.flat at hc ⊢
  unfold pJ at hok
  split at hw
  · rename_i hg
    rw[hg] at hc ⊢
    exact Ao none g.ops os T h hc (fun d w e=>by simp at e) hw
  · rename_i d want hg
    rw[hg] at hc hok ⊢
    simp only at hok
    split at hw
    · rename_i b hb
      by_cases e:b=want
      · subst e
        have:=hw.1 rfl
        rw[vT hb] at this
        exact Ao (some (d,b)) g.ops os T h hc (fun d' w e=>by simp at e; obtain ⟨rfl,rfl⟩:=e; exact ⟨hb,hok⟩) this
      · have e':b = !want:=by cases b <;> cases want <;> simp_all
        have:=hw.2 e'
        subst e'
        rw[vT hb] at this
        obtain ⟨recs,tr,hro⟩:=yh (quiet:=quiet) d want h g.ops os T hc (.inl hb) hok
        exact ⟨recs,_,h,tr,⟨.refl _,Nat.le_refl _⟩,this,hro⟩
    · rename_i hb
      obtain ⟨recs,tr,hro⟩:=yh (quiet:=quiet) d want h g.ops os T hc (.inr hb) hok
      exact ⟨recs,_,h,tr,⟨.refl _,Nat.le_refl _⟩,hw,hro⟩
    · exact hw.elim
theorem tj {fz:Fz} {quiet:Bool} {K:Env→View→Prop} : ∀ (gs:List SG) (os:List Oper) (T:Env) (h:aF),cy P n all fz os=some (gW gs)→gs.all pJ=true→sO P quiet gs T h.view K →
    ∃ recs T' h',Tr P n all os T h recs T' h'∧(fY h h'∧h.length≤h'.length)∧K T' h'.view∧dU P quiet (gW gs) recs
  | [],os,T,h,hc,_,hw=>by
    have:=iI hc; subst this
    exact ⟨[],T,h,.nil,⟨.refl _,Nat.le_refl _⟩,hw,.nil⟩
  | g :: gs,os,T,h,hc,hok,hw=>by
    simp only[gW,List.map_cons,List.flatten_cons] at hc ⊢
    simp only[List.all_cons,Bool.and_eq_true] at hok
    obtain ⟨a,b,rfl,h1,h2⟩:=m7 hc
    obtain ⟨r1,T1,h1',tr1,st1,hk1,ro1⟩:=JH h1 hok.1 hw
    obtain ⟨r2,T2,h2',tr2,st2,hk2,ro2⟩:=tj gs b T1 h1' h2 hok.2 hk1
    exact ⟨_,T2,h2',tr1.append tr2,⟨st1.1.trans st2.1 st1.2,Nat.le_trans st1.2 st2.2⟩,hk2,ro1.append ro2⟩
theorem Tr.at_ {os:List Oper} {T T':Env} {h h':aF} {recs:List Rec} (tr:Tr P n all os T h recs T' h'):∀ (i:Nat) (o:Oper),os[i]?=some o →
    ∃ T1 h1 v h2 rd wr call recs2,recs[i]?=some ⟨rd,wr,call,h1.length,h2.length⟩∧cQ P n all o T1 h1 v h2 rd wr call∧h.length≤h1.length∧Tr P n all (os.drop (i+1)) (T1.put o.dst v) h2 recs2 T' h'∧(∀ m,recs2[m]?=recs[i+1+m]?) ∧
      (∀ t,(∀ o'∈os.take i,o'.dst≠some t)→T1 t=T t):=by
  induction tr with
  | nil=>intro i o hi; simp at hi
  | @cons o0 rest T T' h h1 h' v rd wr call recs st hd tr ih =>
    intro i o hi
    cases i with
    | zero =>
      simp at hi; subst hi
      exact ⟨T,h,v,h1,rd,wr,call,recs,rfl,st,Nat.le_refl _,by simpa using tr,fun m=>by rw[show 0+1+m=m+1 by omega,List.getElem?_cons_succ],fun t _=>rfl⟩
    | succ i =>
      simp at hi
      obtain ⟨T1,h2,v2,h3,rd2,I5,call2,recs2,e1,e2,e3,e4,e5,e6⟩:=ih i o hi
      have hlen:h.length≤h1.length:=by
        cases st with
        | skip=>exact Nat.le_refl _
        | op _ _=>rename_i aB _ _; cases aB <;> simp[bd.apply]
        | fT _ _ _=>exact Nat.le_refl _
        | ed _ _ _ _ _ _=>exact Nat.le_refl _
        | call _ _ _ _ ha _ _=>exact ha.1
      refine ⟨T1,h2,v2,h3,rd2,I5,call2,recs2,by simpa using e1,e2,Nat.le_trans hlen e3,by simpa using e4,fun m=>?_,fun t ht=>?_⟩
      · rw[e5,show i+1+1+m=(i+1+m)+1 by omega,List.getElem?_cons_succ]
      · simp only[List.take_succ_cons,List.mem_cons] at ht
        rw[e6 t fun o' ho'=>ht o' (.inr ho')]
        have:=ht o0 (.inl rfl)
        cases hdst:o0.dst with
        | none=>rfl
        | some d=>simp only[Env.put]; rw[if_neg]; rintro rfl; exact this hdst
theorem DP {o:Oper} {T:Env} {h h':aF} {v:V} {rd wr:List Nat} {call:Bool} (st:cQ P n all o T h v h' rd wr call) (ha:vR o=true) (hg:o.guard=none):v=.ptr h.length 0 0:=by
  unfold vR at ha
  have hgv:cp n all T o=some true:=by unfold cp; rw[hg]
  cases st with
  | skip hs=>rw[hgv] at hs; simp at hs
  | op _ hop =>
    split at ha
    · rename_i e ho
      simp only[bN,ho] at hop
      split at hop
      · unfold iV at hop
        split at hop
        · simp at hop; exact hop.1.symm
        · simp at hop
      · simp at hop
    · simp at ha
  | fT _ ho _=>rw[ho] at ha; simp at ha
  | ed _ ho _ _ _ _=>rw[ho] at ha; simp at ha
  | call _ ho _ _ _ _ _=>rw[ho] at ha; simp at ha
theorem DB {o:Oper} {T:Env} {h h':aF} {v:V} {rd wr:List Nat} {call:Bool} {t id i j:Nat} (st:cQ P n all o T h v h' rd wr call) (ha:ig o=some t) (ht:T t=.ptr id i j):wr=[id]∧call=false:=by
  unfold ig at ha
  split at ha
  · rename_i ty t' x ho hg
    simp at ha; subst ha
    have hgv:cp n all T o=some true:=by unfold cp; rw[hg]
    cases st with
    | skip hs=>rw[hgv] at hs; simp at hs
    | op _ hop =>
      have e1:ev T (.tmp t')=.ptr id i j:=ht
      simp only[bN,ho,e1,mC] at hop
      split at hop
      · split at hop
        · simp only[Option.some.injEq,Prod.mk.injEq] at hop
          obtain ⟨_,he,_⟩:=hop
          rw[← he]; exact ⟨rfl,rfl⟩
        · simp at hop
      · simp at hop
    | fT _ ho' _=>rw[ho] at ho'; simp at ho'
    | ed _ ho' _ _ _ _=>rw[ho] at ho'; simp at ho'
    | call _ ho' _ _ _ _ _=>rw[ho] at ho'; simp at ho'
  · simp at ha
theorem FB {o:Oper} {T:Env} {h h':aF} {v:V} {rd wr:List Nat} {call:Bool} (st:cQ P n all o T h v h' rd wr call) (ha:ym o=true):wr=[]∧call=false∧∀ id,id∈rd→id < h.length:=by
  unfold ym at ha
  cases st with
  | skip _=>exact ⟨rfl,rfl,fun id hid=>by simp at hid⟩
  | op _ hop =>
    split at ha
    · rename_i e a ho
      simp only[bN,ho,jy] at hop
      split at hop
      · rename_i id i j hx
        split at hop
        · rename_i z es hH
          split at hop
          · simp only[Option.map_eq_some_iff] at hop
            obtain ⟨_,_,hop⟩:=hop
            simp at hop
            obtain ⟨_,rfl,rfl⟩:=hop
            refine ⟨rfl,rfl,fun id' hid=>?_⟩
            simp at hid; subst hid
            exact gx (by rw[hH]; simp)
          · simp at hop
        · simp at hop
      · simp only[Option.map_eq_some_iff] at hop
        obtain ⟨_,_,hop⟩:=hop
        simp at hop
        obtain ⟨_,rfl,rfl⟩:=hop
        exact ⟨rfl,rfl,fun id hid=>by simp at hid⟩
      · simp at hop
    · simp at ha
  | fT _ ho _=>rw[ho] at ha; simp at ha
  | ed _ ho _ _ _ _=>rw[ho] at ha; simp at ha
  | call _ ho _ _ _ _ _=>rw[ho] at ha; simp at ha
theorem rr {T T':Env} {h h':aF} {recs:List Rec} (tr:Tr P n all all T h recs T' h') {i k:Nat} {a b:Rec} (hp:uH all i k=true) (ha:recs[i]?=some a) (hb:recs[k]?=some b):oB a b:=by
  unfold uH at hp
  split at hp
  · rename_i oa ob hoa hob
    rw[Bool.and_eq_true] at hp
    obtain ⟨hl,hp⟩:=hp
    split at hp
    · rename_i t hst
      rw[List.any_eq_true] at hp
      obtain ⟨j,hj,hp⟩:=hp
      rw[List.mem_range] at hj
      rw[Bool.and_eq_true,decide_eq_true_eq] at hp
      obtain ⟨hij,hown⟩:=hp
      unfold Jp at hown
      split at hown
      · rename_i oj hoj
        simp only[Bool.and_eq_true,beq_iff_eq,List.all_eq_true,bne_iff_ne,ne_eq,Option.isNone_iff_eq_none] at hown
        obtain ⟨⟨⟨w1,w2⟩,w3⟩,w4⟩:=hown
        obtain ⟨T1,h1,v1,h2,rd1,JY,c1,recs1,e1,e2,e3,e4,e5,_⟩:=tr.at_ i oa hoa
        obtain ⟨Tj,hj1,vj,hj2,rdj,wrj,cj,recsj,f1,f2,f3,f4,f5,_⟩:=e4.at_ (j - (i+1)) oj (by rw[List.getElem?_drop,show i+1+(j - (i+1))=j by omega]; exact hoj)
        have hdr:(all.drop (i+1)).drop (j - (i+1)+1)=all.drop (j+1):=by rw[List.drop_drop]; congr 1; omega
        rw[hdr] at f4
        obtain ⟨Tk,hk1,vk,hk2,rdk,wrk,ck,recsk,g1,g2,g3,_,_,g6⟩:=f4.at_ (k - (j+1)) ob (by rw[List.getElem?_drop,show j+1+(k - (j+1))=k by omega]; exact hob)
        rw[ha] at e1
        have hae:=(Option.some.inj e1)
        have hbe:recs[k]?=some ⟨rdk,wrk,ck,hk1.length,hk2.length⟩:=by
          rw[← g1,f5,e5]; congr 1; omega
        rw[hb] at hbe
        have hbe:=Option.some.inj hbe
        have hv:=DP f2 w3 w2
        have hTk:Tk t=.ptr hj1.length 0 0:=by
          rw[g6 t fun o' ho'=>w4 o' ho',w1,hv]
          simp[Env.put]
        obtain ⟨s1,s2⟩:=DB g2 hst hTk
        obtain ⟨l1,l2,l3⟩:=FB e2 hl
        rw[hae,hbe]
        have hlen:h1.length≤h2.length:=by
          cases e2 with
          | skip=>exact Nat.le_refl _
          | op _ _=>rename_i aB _ _; cases aB <;> simp[bd.apply]
          | fT _ _ _=>exact Nat.le_refl _
          | ed _ _ _ _ _ _=>exact Nat.le_refl _
          | call _ _ _ _ ha _ _=>exact ha.1
        refine ⟨fun id hid=>by simp[l1] at hid,fun id hid=>?_,fun hc=>by simp[l2] at hc,fun _=>l1,fun id hid=>?_⟩
        · simp only[s1,List.mem_singleton] at hid
          subst hid
          intro hr
          have:=l3 _ hr
          omega
        · simp only[s1,List.mem_singleton] at hid
          subst hid
          simp only
          omega
      · simp at hown
    · simp at hp
  · simp at hp
theorem GO {ls:List Nat} {recs:List Rec} {T T':Env} {hp hp':aF} (tr:Tr P n all all T hp recs T' hp') (h:zR all ls=true) (hl:ls.length=recs.length) (hr:∀ (i x:Nat) (r:Rec),ls[i]?=some x→recs[i]?=some r→iq x r.rd r.wr r.call r.lo r.hi):pL all recs:=by
  intro i k a b hik ha hb ho
  have hi:i < recs.length:=(List.getElem?_eq_some_iff.1 ha).1
  have hk:k < recs.length:=(List.getElem?_eq_some_iff.1 hb).1
  unfold zR at h
  simp only[List.all_eq_true] at h
  have h1:=h (ls[i]'(by omega),i) (by rw[List.mem_zipIdx_iff_getElem?]; simp[List.getElem?_eq_getElem (show i < ls.length by omega)])
    (ls[k]'(by omega),k) (by rw[List.mem_zipIdx_iff_getElem?]; simp[List.getElem?_eq_getElem (show k < ls.length by omega)])
  have la:=hr i _ a (List.getElem?_eq_getElem (by omega)) ha
  have lb:=hr k _ b (List.getElem?_eq_getElem (by omega)) hb
  simp only[hik,decide_true,Bool.not_true,ho,Bool.false_or,Bool.or_eq_true,beq_iff_eq,Bool.and_eq_true,decide_eq_true_eq] at h1
  rcases h1 with ((h1 | h1) | h1) | h1
  · obtain ⟨e1,e2,e3,e4⟩:=la.1 h1
    exact ⟨fun id hid=>by simp[e2] at hid,fun id _=>by simp[e1],fun hc=>by simp[e3] at hc,fun _=>e2,fun id _ hx=>by omega⟩
  · obtain ⟨e1,e2,e3,e4⟩:=lb.1 h1
    exact ⟨fun id _=>by simp[e1],fun id hid=>by simp[e2] at hid,fun _=>e2,fun hc=>by simp[e3] at hc,fun id hid=>by simp[e2] at hid⟩
  · have e1:=la.2 h1.1
    have e2:=lb.2 h1.2
    exact ⟨fun id hid=>by simp[e1] at hid,fun id hid=>by simp[e2] at hid,fun _=>e2,fun _=>e1,fun id hid=>by simp[e2] at hid⟩
  · exact rr tr h1 ha hb
theorem Tr.keep {os:List Oper} {T T':Env} {h h':aF} {recs:List Rec} (tr:Tr P n all os T h recs T' h') {t:Nat} (ht:∀ o∈os,o.dst≠some t):T' t=T t:=by
  induction tr with
  | nil=>rfl
  | @cons o0 rest T T' h h1 h' v rd wr call recs st hd tr ih =>
    rw[ih fun o ho=>ht o (by simp[ho])]
    have:=ht o0 (by simp)
    cases hdst:o0.dst with
    | none=>rfl
    | some d=>simp only[Env.put]; rw[if_neg]; rintro rfl; exact this hdst
theorem ri {o:Oper} {T:Env} {h h':aF} {v:V} {rd wr:List Nat} {call:Bool} {t:Nat} (st:cQ P n all o T h v h' rd wr call) (ha:oc o=some t):wr=[]∧call=false∧h'.length=h.length∧∀ id,id∈rd→∃ i j,T t=.ptr id i j:=by
  unfold oc at ha
  split at ha
  · rename_i e t' ho
    simp at ha; subst ha
    cases st with
    | skip _=>exact ⟨rfl,rfl,rfl,fun id hid=>by simp at hid⟩
    | op _ hop =>
      simp only[bN,ho,jy] at hop
      split at hop
      · rename_i id i j hx
        split at hop
        · split at hop
          · simp only[Option.map_eq_some_iff] at hop
            obtain ⟨_,_,hop⟩:=hop
            simp at hop
            obtain ⟨_,rfl,rfl⟩:=hop
            refine ⟨rfl,rfl,rfl,fun id' hid=>?_⟩
            simp at hid; subst hid
            exact ⟨i,j,hx⟩
          · simp at hop
        · simp at hop
      · simp only[Option.map_eq_some_iff] at hop
        obtain ⟨_,_,hop⟩:=hop
        simp at hop
        obtain ⟨_,rfl,rfl⟩:=hop
        exact ⟨rfl,rfl,rfl,fun id hid=>by simp at hid⟩
      · simp at hop
    | fT _ ho' _=>rw[ho] at ho'; simp at ho'
    | ed _ ho' _ _ _ _=>rw[ho] at ho'; simp at ho'
    | call _ ho' _ _ _ _ _=>rw[ho] at ho'; simp at ho'
  · simp at ha
theorem Bj {i t:Nat} (h:stays all i t=true):∀ o∈all.drop i,o.dst≠some t:=by
  intro o ho
  have:=List.all_eq_true.1 h o ho
  simpa using this
theorem vX {aps:List (Nat × Nat)} {T:Env} {K:Prop} (hA:tA aps T K):∀ p∈aps,jZ (T p.1) (T p.2):=by
  induction aps with
  | nil=>intro p hp; simp at hp
  | cons q l ih =>
    intro p hp
    rcases List.mem_cons.1 hp with rfl | hp
    · exact hA.1
    · exact ih hA.2 p hp
theorem tA.rest {aps:List (Nat × Nat)} {T:Env} {K:Prop} (hA:tA aps T K):K:=by
  induction aps with
  | nil=>exact hA
  | cons q l ih=>exact ih hA.2
theorem mO {T T':Env} {h h':aF} {recs:List Rec} (tr:Tr P n all all T h recs T' h') {i t:Nat} {o:Oper} (ho:all[i]?=some o) (hs:stays all i t=true) {r:Rec} (hr:recs[i]?=some r) :
    ∃ T1 h1 v h2,cQ P n all o T1 h1 v h2 r.rd r.wr r.call∧r.lo=h1.length∧r.hi=h2.length∧T1 t=T' t:=by
  obtain ⟨T1,h1,v,h2,rd,wr,call,recs2,e1,e2,e3,e4,e5,e6⟩:=tr.at_ i o ho
  rw[hr] at e1
  have e1:=Option.some.inj e1
  subst e1
  refine ⟨T1,h1,v,h2,e2,rfl,rfl,?_⟩
  have hk:=Bj hs
  have hi:i < all.length:=(List.getElem?_eq_some_iff.1 ho).1
  have ho':all[i]=o:=(List.getElem?_eq_some_iff.1 ho).2
  rw[List.drop_eq_getElem_cons hi,ho'] at hk
  rw[e4.keep fun o' ho'=>hk o' (by simp[ho'])]
  have:=hk o (by simp)
  cases hdst:o.dst with
  | none=>rfl
  | some d=>simp only[Env.put]; rw[if_neg]; rintro rfl; exact this hdst
theorem uE {i a b j c d:Nat} (h:jZ (.ptr i a b) (.ptr j c d)):i≠j:=h
theorem wu {i a b j c d e:Nat} (h:jZ (.ptr i a b) (.sl j c d e)):i≠j:=h
theorem nR {o:Oper} {T:Env} {h h':aF} {v:V} {rd wr:List Nat} {call:Bool} {t:Nat} (st:cQ P n all o T h v h' rd wr call) (ha:lW o=some t) :
    call=false∧∀ id,id∈wr→(∃ i j,T t=.ptr id i j)∨∃ a b c,T t=.sl id a b c:=by
  unfold lW at ha
  split at ha
  · rename_i t' hs
    simp at ha; subst ha
    unfold ig at hs
    split at hs
    · rename_i ty t2 x ho hg
      simp at hs; subst hs
      cases st with
      | skip _=>exact ⟨rfl,fun id hid=>by simp at hid⟩
      | op _ hop =>
        simp only[bN,ho,mC] at hop
        split at hop
        · rename_i id i j hx
          split at hop
          · split at hop
            · simp only[Option.some.injEq,Prod.mk.injEq] at hop
              obtain ⟨_,he,_⟩:=hop
              rw[← he]
              refine ⟨rfl,fun id' hid=>?_⟩
              simp[bd.wr] at hid; subst hid
              exact .inl ⟨i,j,hx⟩
            · simp at hop
          · simp at hop
        · simp at hop
      | fT _ ho' _=>rw[ho] at ho'; simp at ho'
      | ed _ ho' _ _ _ _=>rw[ho] at ho'; simp at ho'
      | call _ ho' _ _ _ _ _=>rw[ho] at ho'; simp at ho'
    · simp at hs
  · unfold FD at ha
    split at ha
    · rename_i args ats ho hg
      split at ha
      · rename_i t2 y hl
        simp at ha; subst ha
        cases st with
        | skip _=>exact ⟨rfl,fun id hid=>by simp at hid⟩
        | op _ hop =>
          simp only[bN,ho,hl] at hop
          split at hop
          · unfold lF at hop
            split at hop
            · split at hop
              · simp at hop
              · split at hop
                · split at hop <;> first | (simp only[Option.some.injEq,Prod.mk.injEq] at hop; obtain ⟨_,he,_⟩:=hop; rw[← he]; exact ⟨rfl,fun id' hid=>by simp[bd.wr] at hid⟩) | simp at hop
                · split at hop
                  · simp at hop
                  · split at hop
                    · split at hop
                      · simp only[Option.some.injEq,Prod.mk.injEq] at hop
                        obtain ⟨_,he,_⟩:=hop
                        rw[← he]; exact ⟨rfl,fun id' hid=>by simp[bd.wr] at hid⟩
                      · simp at hop
                    · rename_i id off len esz hx
                      split at hop
                      · split at hop
                        · simp only[Option.some.injEq,Prod.mk.injEq] at hop
                          obtain ⟨_,he,_⟩:=hop
                          rw[← he]
                          refine ⟨rfl,fun id' hid=>?_⟩
                          simp[bd.wr] at hid; subst hid
                          exact .inr ⟨off,len,esz,hx⟩
                        · simp at hop
                      · simp at hop
                    · simp at hop
            · simp at hop
          · simp at hop
        | fT _ ho' _=>rw[ho] at ho'; simp at ho'
        | ed _ ho' _ _ _ _=>rw[ho] at ho'; simp at ho'
        | call _ ho' _ _ _ _ _=>rw[ho] at ho'; simp at ho'
      · simp at ha
    · simp at ha
theorem GL {o:Oper} {T:Env} {h h':aF} {v:V} {rd wr:List Nat} {call:Bool} (st:cQ P n all o T h v h' rd wr call) (ha:AI o=true):rd=[]∧wr=[]∧call=false:=by
  unfold AI at ha
  cases st with
  | skip _=>exact ⟨rfl,rfl,rfl⟩
  | op _ hop =>
    split at ha
    · rename_i ty len parts ho
      simp only[bN,ho,eS] at hop
      have key:∀ {x:Option (V × bd × List Nat)} {e:bd},x=some (v,e,rd)→(∀ y,x=some y→y.2.1.wr=[]∧y.2.2=[])→rd=[]∧e.wr=[]:=fun hx hy=>⟨(hy _ hx).2,(hy _ hx).1⟩
      obtain ⟨k1,k2⟩:=key hop (by
        intro y hy
        repeat' (first | (split at hy) | (simp only[Option.some.injEq] at hy; subst hy; exact ⟨rfl,rfl⟩) | (simp at hy; done)))
      exact ⟨k1,k2,rfl⟩
    · rename_i e ho
      simp only[bN,ho] at hop
      split at hop
      · unfold iV at hop
        split at hop
        · simp only[Option.some.injEq,Prod.mk.injEq] at hop
          obtain ⟨_,he,hr⟩:=hop
          rw[← he,← hr]; exact ⟨rfl,rfl,rfl⟩
        · simp at hop
      · simp at hop
    · simp at ha
  | fT _ ho _=>rw[ho] at ha; simp at ha
  | ed _ ho _ _ _ _=>rw[ho] at ha; simp at ha
  | call _ ho _ _ _ _ _=>rw[ho] at ha; simp at ha
theorem qU {o:Oper} {t:Nat} (h:ig o=some t):lW o=some t:=by unfold lW; rw[h]
theorem E0 {T T':Env} {h h':aF} {recs:List Rec} (tr:Tr P n all all T h recs T' h') {i k:Nat} {a b:Rec} {p:Nat × Nat} (hp:wx all i k=some p) (hA:jZ (T' p.1) (T' p.2)) (ha:recs[i]?=some a) (hb:recs[k]?=some b):oB a b:=by
  unfold wx at hp
  split at hp
  · rename_i oa ob hoa hob
    split at hp
    · rename_i s t hl hs
      split at hp
      · rename_i hst
        simp only[Bool.and_eq_true] at hst
        simp at hp; subst hp
        obtain ⟨Ta,ha1,va,ha2,sa,la1,la2,ea⟩:=mO tr hoa hst.1 ha
        obtain ⟨Tb,hb1,vb,hb2,sb,_,_,eb⟩:=mO tr hob hst.2 hb
        obtain ⟨l1,l2,l3,l4⟩:=ri sa hl
        have hA:jZ (Ta s) (Tb t):=by rw[ea,eb]; exact hA
        refine ⟨fun id hid=>by simp[l1] at hid,fun id hid hr=>?_,fun hc=>by simp[l2] at hc,fun _=>l1,fun id _ hx=>by omega⟩
        obtain ⟨i',j',e1⟩:=l4 id hr
        rw[e1] at hA
        rcases (nR sb (qU hs)).2 id hid with ⟨c,d,hy⟩ | ⟨c,d,e,hy⟩
        · rw[hy] at hA; exact uE hA rfl
        · rw[hy] at hA; exact wu hA rfl
      · simp at hp
    · split at hp
      · rename_i t s hs hl
        split at hp
        · rename_i hst
          simp only[Bool.and_eq_true] at hst
          simp at hp; subst hp
          obtain ⟨Ta,ha1,va,ha2,sa,la1,la2,ea⟩:=mO tr hoa hst.1 ha
          obtain ⟨Tb,hb1,vb,hb2,sb,lb1,lb2,eb⟩:=mO tr hob hst.2 hb
          obtain ⟨l1,l2,l3,l4⟩:=ri sb hl
          have hA:jZ (Tb s) (Ta t):=by rw[ea,eb]; exact hA
          refine ⟨fun id hid hr=>?_,fun id hid=>by simp[l1] at hid,fun hc=>l1,fun hc=>by simp[l2] at hc,fun id hid=>by simp[l1] at hid⟩
          obtain ⟨i',j',e1⟩:=l4 id hr
          rw[e1] at hA
          rcases (nR sa (qU hs)).2 id hid with ⟨c,d,hy⟩ | ⟨c,d,e,hy⟩
          · rw[hy] at hA; exact uE hA rfl
          · rw[hy] at hA; exact wu hA rfl
        · simp at hp
      · simp at hp
  · simp at hp
theorem El {T T':Env} {h h':aF} {recs:List Rec} (tr:Tr P n all all T h recs T' h') {i k:Nat} {a b:Rec} {p:Nat × Nat} (hp:uF all i k=some p) (hA:jZ (T' p.1) (T' p.2)) (ha:recs[i]?=some a) (hb:recs[k]?=some b):oB a b:=by
  unfold uF at hp
  split at hp
  · rename_i oa ob hoa hob
    split at hp
    · rename_i s t hl hs
      split at hp
      · rename_i hst
        simp only[Bool.and_eq_true] at hst
        simp at hp; subst hp
        obtain ⟨Ta,ha1,va,ha2,sa,la1,la2,ea⟩:=mO tr hoa hst.1 ha
        obtain ⟨Tb,hb1,vb,hb2,sb,_,_,eb⟩:=mO tr hob hst.2 hb
        obtain ⟨l1,l2,l3,l4⟩:=ri sa hl
        have hA:jZ (Ta s) (Tb t):=by rw[ea,eb]; exact hA
        refine ⟨fun id hid=>by simp[l1] at hid,fun id hid hr=>?_,fun hc=>by simp[l2] at hc,fun _=>l1,fun id _ hx=>by omega⟩
        obtain ⟨i',j',e1⟩:=l4 id hr
        rw[e1] at hA
        rcases (nR sb hs).2 id hid with ⟨c,d,hy⟩ | ⟨c,d,e,hy⟩
        · rw[hy] at hA; exact uE hA rfl
        · rw[hy] at hA; exact wu hA rfl
      · simp at hp
    · split at hp
      · rename_i t s hs hl
        split at hp
        · rename_i hst
          simp only[Bool.and_eq_true] at hst
          simp at hp; subst hp
          obtain ⟨Ta,ha1,va,ha2,sa,la1,la2,ea⟩:=mO tr hoa hst.1 ha
          obtain ⟨Tb,hb1,vb,hb2,sb,lb1,lb2,eb⟩:=mO tr hob hst.2 hb
          obtain ⟨l1,l2,l3,l4⟩:=ri sb hl
          have hA:jZ (Tb s) (Ta t):=by rw[ea,eb]; exact hA
          refine ⟨fun id hid hr=>?_,fun id hid=>by simp[l1] at hid,fun hc=>l1,fun hc=>by simp[l2] at hc,fun id hid=>by simp[l1] at hid⟩
          obtain ⟨i',j',e1⟩:=l4 id hr
          rw[e1] at hA
          rcases (nR sa hs).2 id hid with ⟨c,d,hy⟩ | ⟨c,d,e,hy⟩
          · rw[hy] at hA; exact uE hA rfl
          · rw[hy] at hA; exact wu hA rfl
        · simp at hp
      · simp at hp
  · simp at hp
theorem FO {l:List (Nat × Nat)} {aps:List (Nat × Nat)} (h:wO all l=some aps):∀ q∈l,∃ p∈aps,wx all q.1 q.2=some p:=by
  induction l generalizing aps with
  | nil=>intro q hq; simp at hq
  | cons x r ih =>
    obtain ⟨i,k⟩:=x
    simp only[wO] at h
    split at h
    · rename_i p l' h1 h2
      simp at h; subst h
      intro q hq
      rcases List.mem_cons.1 hq with rfl | hq
      · exact ⟨p,by simp,h1⟩
      · obtain ⟨p',hp',e⟩:=ih h2 q hq
        exact ⟨p',by simp[hp'],e⟩
    · simp at h
theorem Du {l:List (Nat × Nat)} {aps:List (Nat × Nat)} (h:qI all l=some aps):∀ q∈l,∃ p∈aps,uF all q.1 q.2=some p:=by
  induction l generalizing aps with
  | nil=>intro q hq; simp at hq
  | cons x r ih =>
    obtain ⟨i,k⟩:=x
    simp only[qI] at h
    split at h
    · rename_i p l' h1 h2
      simp at h; subst h
      intro q hq
      rcases List.mem_cons.1 hq with rfl | hq
      · exact ⟨p,by simp,h1⟩
      · obtain ⟨p',hp',e⟩:=ih h2 q hq
        exact ⟨p',by simp[hp'],e⟩
    · simp at h
theorem GZ {ls:List Nat} {recs:List Rec} {T T':Env} {hp hp':aF} {aps:List (Nat × Nat)} (tr:Tr P n all all T hp recs T' hp') (h:wO all (gZ all ls)=some aps) (hA:∀ p∈aps,jZ (T' p.1) (T' p.2)) (hl:ls.length=recs.length)
    (hr:∀ (i x:Nat) (r:Rec),ls[i]?=some x→recs[i]?=some r→iq x r.rd r.wr r.call r.lo r.hi):pL all recs:=by
  intro i k a b hik ha hb ho
  have hi:i < recs.length:=(List.getElem?_eq_some_iff.1 ha).1
  have hk:k < recs.length:=(List.getElem?_eq_some_iff.1 hb).1
  have la:=hr i _ a (List.getElem?_eq_getElem (by omega)) ha
  have lb:=hr k _ b (List.getElem?_eq_getElem (by omega)) hb
  have mi:(ls[i]'(by omega),i)∈ls.zipIdx:=by rw[List.mem_zipIdx_iff_getElem?]; simp[List.getElem?_eq_getElem (show i < ls.length by omega)]
  have mk:(ls[k]'(by omega),k)∈ls.zipIdx:=by rw[List.mem_zipIdx_iff_getElem?]; simp[List.getElem?_eq_getElem (show k < ls.length by omega)]
  by_cases h1:tu all (ls[i]'(by omega)) i (ls[k]'(by omega)) k=true
  · unfold tu at h1
    simp only[hik,decide_true,Bool.not_true,ho,Bool.false_or,Bool.or_eq_true,beq_iff_eq,Bool.and_eq_true,decide_eq_true_eq] at h1
    rcases h1 with ((h1 | h1) | h1) | h1
    · obtain ⟨e1,e2,e3,e4⟩:=la.1 h1
      exact ⟨fun id hid=>by simp[e2] at hid,fun id _=>by simp[e1],fun hc=>by simp[e3] at hc,fun _=>e2,fun id _ hx=>by omega⟩
    · obtain ⟨e1,e2,e3,e4⟩:=lb.1 h1
      exact ⟨fun id _=>by simp[e1],fun id hid=>by simp[e2] at hid,fun _=>e2,fun hc=>by simp[e3] at hc,fun id hid=>by simp[e2] at hid⟩
    · have e1:=la.2 h1.1
      have e2:=lb.2 h1.2
      exact ⟨fun id hid=>by simp[e1] at hid,fun id hid=>by simp[e2] at hid,fun _=>e2,fun _=>e1,fun id hid=>by simp[e2] at hid⟩
    · exact rr tr h1 ha hb
  · have hm:(i,k)∈gZ all ls:=by
      unfold gZ
      rw[List.mem_flatMap]
      refine ⟨_,mi,?_⟩
      rw[List.mem_filterMap]
      exact ⟨_,mk,by simp only; rw[if_neg h1]⟩
    obtain ⟨p,hp,e⟩:=FO h (i,k) hm
    exact E0 tr e (hA p hp) ha hb
theorem yA {P:Program} {t:TypeId} {id:Nat} {q:V} {ok:Bool} {H1 H2:View} (h:H1 id=H2 id):dr P t (.mp id) q ok H1=dr P t (.mp id) q ok H2:=by
  unfold dr
  simp only[h]
theorem DM {P:Program} {t:TypeId} {id:Nat} {q:V} {H1 H2:View} (h:H1 id=H2 id):cW P t (.mp id) q H1=cW P t (.mp id) q H2:=by
  cases hm:c4 P t with
  | none=>simp only[cW,hm]
  | some x=>simp only[cW,hm,h]
theorem HA {P:Program} {t:TypeId} {id:Nat} {q:V} {H:View} {v:V} {aB:bd} {rd:List Nat} (h:dr P t (.mp id) q false H=some (v,aB,rd)):aB=.none∧rd=[id]:=by
  simp only[dr,Bool.false_eq_true,if_false] at h
  repeat' (first | (simp only[Option.some.injEq,Prod.mk.injEq] at h; exact ⟨h.2.1.symm,h.2.2.symm⟩) | (split at h) | (simp at h; done))
theorem EI {P:Program} {t:TypeId} {id:Nat} {q:V} {H:View} {v:V} {aB:bd} {rd:List Nat} (h:cW P t (.mp id) q H=some (v,aB,rd)):∃ obj,aB=.dN id obj:=by
  cases hm:c4 P t with
  | none=>simp[cW,hm] at h
  | some x =>
    simp only[cW,hm] at h
    repeat' (first | (simp only[Option.some.injEq,Prod.mk.injEq] at h; exact ⟨_,h.2.1.symm⟩) | (split at h) | (simp at h; done))
theorem BK {o:Oper} {T:Env} {h h':aF} {v:V} {rd wr:List Nat} {call:Bool} (st:cQ P n all o T h v h' rd wr call) (hg:cp n all T o=some true) (hb:∀ e x,o.op≠.box e x) (hc:∀ s d x,o.op≠.convert s d x) (hl:∀ c,o.op≠.call c) :
    ∃ aB,bN P o T h.view h.length=some (v,aB,rd)∧h'=aB.apply h∧wr=aB.wr∧call=false:=by
  cases st with
  | skip hs=>rw[hg] at hs; simp at hs
  | op _ hop=>exact ⟨_,hop,rfl,rfl,rfl⟩
  | fT _ ho _=>exact absurd ho (hb _ _)
  | ed _ ho _ _ _ _=>exact absurd ho (hc _ _ _)
  | call _ ho _ _ _ _ _=>exact absurd ho (hl _)
theorem IH {recs:List Rec} {Ts:Nat→Env} {hs:Nat→aF} {vs:Nat→V} (hst:vS P n all recs Ts hs vs) (hl:recs.length=all.length) {k:Nat} (hk:k≤all.length) (hw:∀ j r,j < k→recs[j]?=some r→r.wr=[]) :
    ∀ j,j≤k→(hs 0).length≤(hs j).length∧∀ id,id < (hs 0).length→(hs j).view id=(hs 0).view id:=by
  intro j
  induction j with
  | zero=>intro _; exact ⟨Nat.le_refl _,fun _ _=>rfl⟩
  | succ j ih =>
    intro hj
    obtain ⟨l1,l2⟩:=ih (by omega)
    obtain ⟨st,_,_,_,_⟩:=hst j all[j] (recs[j]'(by omega)) (List.getElem?_eq_getElem (by omega)) (List.getElem?_eq_getElem (by omega))
    refine ⟨Nat.le_trans l1 (pI st),fun id hid=>?_⟩
    rw[nQ st (Nat.lt_of_lt_of_le hid l1) (by rw[hw j _ (by omega) (List.getElem?_eq_getElem (by omega))]; simp)]
    exact l2 id hid
theorem lZ {recs:List Rec} {Ts:Nat→Env} {hs:Nat→aF} {vs:Nat→V} (hst:vS P n all recs Ts hs vs) (hl:recs.length=all.length) {i t:Nat} (h:stays all i t=true):∀ j,i≤j→j≤all.length→Ts j t=Ts i t:=by
  intro j hij hj
  refine uT (vs:=vs) (N:=all.length) (fun k o hk=>?_) rfl i j hij hj fun k o h1 h2 h3=>Bj h o (by
    rw[List.mem_iff_getElem?]
    exact ⟨k - i,by rw[List.getElem?_drop,show i+(k - i)=k by omega]; exact h3⟩)
  have hk':k < all.length:=(List.getElem?_eq_some_iff.1 hk).1
  exact (hst k o (recs[k]'(by omega)) hk (List.getElem?_eq_getElem (by omega))).2.2.1
theorem Bx {ls:List Nat} {recs:List Rec} {T T':Env} {hp hp':aF} {aps:List (Nat × Nat)} {tp:Option (Nat × Nat)} (tr:Tr P n all all T hp recs T' hp') (h:qI all (zT all ls tp)=some aps) (hA:∀ p∈aps,jZ (T' p.1) (T' p.2)) (hl:ls.length=recs.length)
    (hr:∀ (i x:Nat) (r:Rec),ls[i]?=some x→recs[i]?=some r→iq x r.rd r.wr r.call r.lo r.hi) (htol:∀ p,tp=some p→∃ tol,zQ all ls p.1 p.2=some tol∧AG P tol.1 (T' tol.2.1) (T' tol.2.2) hp.view):Eg P n all recs T T' hp:=by
  have main:∀ i k a b,i < k→recs[i]?=some a→recs[k]?=some b→ordered (dI all []) i k=false→tp≠some (i,k)→oB a b:=by
    intro i k a b hik ha hb ho hne
    have hi:i < recs.length:=(List.getElem?_eq_some_iff.1 ha).1
    have hk:k < recs.length:=(List.getElem?_eq_some_iff.1 hb).1
    have la:=hr i _ a (List.getElem?_eq_getElem (by omega)) ha
    have lb:=hr k _ b (List.getElem?_eq_getElem (by omega)) hb
    have mi:(ls[i]'(by omega),i)∈ls.zipIdx:=by rw[List.mem_zipIdx_iff_getElem?]; simp[List.getElem?_eq_getElem (show i < ls.length by omega)]
    have mk:(ls[k]'(by omega),k)∈ls.zipIdx:=by rw[List.mem_zipIdx_iff_getElem?]; simp[List.getElem?_eq_getElem (show k < ls.length by omega)]
    by_cases h1:tu all (ls[i]'(by omega)) i (ls[k]'(by omega)) k=true
    · unfold tu at h1
      simp only[hik,decide_true,Bool.not_true,ho,Bool.false_or,Bool.or_eq_true,beq_iff_eq,Bool.and_eq_true,decide_eq_true_eq] at h1
      rcases h1 with ((h1 | h1) | h1) | h1
      · obtain ⟨e1,e2,e3,e4⟩:=la.1 h1
        exact ⟨fun id hid=>by simp[e2] at hid,fun id _=>by simp[e1],fun hc=>by simp[e3] at hc,fun _=>e2,fun id _ hx=>by omega⟩
      · obtain ⟨e1,e2,e3,e4⟩:=lb.1 h1
        exact ⟨fun id _=>by simp[e1],fun id hid=>by simp[e2] at hid,fun _=>e2,fun hc=>by simp[e3] at hc,fun id hid=>by simp[e2] at hid⟩
      · have e1:=la.2 h1.1
        have e2:=lb.2 h1.2
        exact ⟨fun id hid=>by simp[e1] at hid,fun id hid=>by simp[e2] at hid,fun _=>e2,fun _=>e1,fun id hid=>by simp[e2] at hid⟩
      · exact rr tr h1 ha hb
    · have hm:(i,k)∈gZ all ls:=by
        unfold gZ
        rw[List.mem_flatMap]
        refine ⟨_,mi,?_⟩
        rw[List.mem_filterMap]
        exact ⟨_,mk,by simp only; rw[if_neg h1]⟩
      by_cases hn:newAt all k=true
      · unfold newAt at hn
        split at hn
        · rename_i ob hob
          obtain ⟨T1,h1',v,h2,rd,wr,call,recs2,e1,e2,_⟩:=tr.at_ k ob hob
          rw[hb] at e1
          have e1:=Option.some.inj e1
          subst e1
          obtain ⟨n1,n2,n3⟩:=GL e2 hn
          exact ⟨fun id _=>by simp[n1],fun id hid=>by simp[n2] at hid,fun _=>n2,fun hc=>by simp[n3] at hc,fun id hid=>by simp[n2] at hid⟩
        · simp at hn
      · obtain ⟨p,hp,e⟩:=Du h (i,k) (by
          unfold zT
          rw[List.mem_filter]
          refine ⟨hm,?_⟩
          simp only[Bool.and_eq_true,Bool.not_eq_true',bne_iff_ne,ne_eq]
          exact ⟨by simpa using hn,hne⟩)
        exact El tr e (hA p hp) ha hb
  cases tp with
  | none=>exact pL.J0 fun i k a b h1 h2 h3 h4=>main i k a b h1 h2 h3 h4 (by simp)
  | some p =>
    obtain ⟨i0,k0⟩:=p
    obtain ⟨tol,hto,htv⟩:=htol _ rfl
    intro Ts hs vs eT0 eh0 eTN hrl hst i
    by_cases hi:i=i0
    · subst hi
      refine ⟨some k0,fun k a b h1 h2 h3 h4 h5=>main i k a b h1 h2 h3 h4 (fun e=>h5 (by simp at e; rw[e])),fun k a b o hk ha hb ho=>?_⟩
      simp at hk; subst hk
      unfold zQ at hto
      simp only at hto
      split at hto
      · rename_i oa ob hoa hob
        rw[ho] at hoa
        have hoa:=Option.some.inj hoa
        subst hoa
        split at hto
        · rename_i t m q t' m' q' hop1 hop2 hg1 hg2
          split at hto
          · rename_i hcond
            simp only[Bool.and_eq_true,beq_iff_eq,decide_eq_true_eq,List.all_eq_true,List.mem_range] at hcond
            obtain ⟨⟨⟨⟨⟨⟨⟨⟨rfl,rfl⟩,rfl⟩,s1⟩,s2⟩,s3⟩,s4⟩,hik⟩,hloud⟩:=hcond
            simp only[Option.some.injEq] at hto
            subst hto
            simp only at htv
            have hkl:k0 < all.length:=(List.getElem?_eq_some_iff.1 hob).1
            have hwr:∀ j r,j < k0→recs[j]?=some r→r.wr=[]:=fun j r hj hrj=>by
              have h1:=hloud j hj
              have hj':j < ls.length:=by omega
              rw[List.getD_eq_getElem?_getD,List.getElem?_eq_getElem hj'] at h1
              exact (hr j _ r (List.getElem?_eq_getElem hj') hrj).2 h1
            have hsame:=IH hst hrl (Nat.le_of_lt hkl) hwr
            have em:∀ j,i≤j→j≤all.length→Ts j m=T' m:=fun j h1 h2=>by
              rw[← eTN,lZ hst hrl s1 j h1 h2,lZ hst hrl s1 all.length (by omega) (Nat.le_refl _)]
            have eq:∀ j,i≤j→j≤all.length→Ts j q=T' q:=fun j h1 h2=>by
              rw[← eTN,lZ hst hrl s2 j h1 h2,lZ hst hrl s2 all.length (by omega) (Nat.le_refl _)]
            obtain ⟨sti,_,_,hlo,hhi⟩:=hst i o a ho ha
            obtain ⟨stk,_,_,_,_⟩:=hst k0 ob b hob hb
            have gi:cp n all (Ts i) o=some true:=by unfold cp; rw[hg1]
            have gk:cp n all (Ts k0) ob=some true:=by unfold cp; rw[hg2]
            unfold AG at htv
            split at htv
            · rename_i id hid
              obtain ⟨⟨es0,c0,hmap⟩,htv⟩:=htv
              have hidl:id < hp.length:=gx (by rw[hmap]; simp)
              have hvk:(hs k0).view id=hp.view id:=by rw[(hsame k0 (Nat.le_refl _)).2 id (by rw[eh0]; exact hidl),eh0]
              have hvi:(hs i).view id=hp.view id:=by rw[(hsame i (Nat.le_of_lt hik)).2 id (by rw[eh0]; exact hidl),eh0]
              obtain ⟨effi,hopi,hi',wri,cai⟩:=BK sti gi (by rw[hop1]; simp) (by rw[hop1]; simp) (by rw[hop1]; simp)
              obtain ⟨effk,hopk,hk',wrk,cak⟩:=BK stk gk (by rw[hop2]; simp) (by rw[hop2]; simp) (by rw[hop2]; simp)
              simp only[bN,hop1] at hopi
              simp only[bN,hop2] at hopk
              have e1:ev (Ts i) (.tmp m)=.mp id:=(em i (Nat.le_refl _) (by omega)).trans hid
              have e2:ev (Ts i) (.tmp q)=T' q:=eq i (Nat.le_refl _) (by omega)
              have e3:ev (Ts k0) (.tmp m)=.mp id:=(em k0 (by omega) (by omega)).trans hid
              have e4:ev (Ts k0) (.tmp q)=T' q:=eq k0 (by omega) (by omega)
              rw[e1,e2] at hopi
              rw[e3,e4,DM hvk] at hopk
              obtain ⟨l1,l2⟩:=HA hopi
              obtain ⟨obj,l3⟩:=EI hopk
              subst l1 l3
              have hkb:(hs (k0+1)).view id=obj:=by
                rw[hk',iM (fun id' hid'=>by
                  simp only[bd.wr,List.mem_singleton] at hid'
                  subst hid'
                  rw[hvk,hmap]; simp)]
                simp[bd.view,View.set]
              refine ⟨hik,wri,cai,by rw[hlo,hhi,hi']; rfl,fun g hg hgv=>?_⟩
              have hidi:id < (hs i).length:=gx (by rw[hvi,hmap]; simp)
              have hgid:g.view id=(hp.view.set id obj) id:=by
                rw[hgv id hidi,wrk,if_pos (by simp[bd.wr]),hkb]
                simp[View.set]
              have hlk:=htv _ _ _ hopk
              have hfin:bN P o (Ts i) g.view g.length=some (vs i,.none,a.rd):=by
                simp only[bN,hop1]
                rw[e1,e2,yA hgid,hlk,← yA hvi]
                exact hopi
              exact .op gi hfin
            · exact htv.elim
          · simp at hto
        · simp at hto
      · simp at hto
    · exact ⟨none,fun k a b h1 h2 h3 h4 _=>main i k a b h1 h2 h3 h4 (fun e=>hi (by simp at e; exact e.1.symm)),fun k a b o h1=>by simp at h1⟩
theorem GB (hm:P.follows .mixedOrders=true) {fz:Fz} {id:Nat} {ops:Array Oper} {sc:SC} {T:Env} {h:aF} {Q:Exit→Env→View→Prop} (hc:Ec P n fz ops.toList=some sc) (hw:wS P sc T h.view Q) :
    ∃ e T' h',cq P n (.region id ops true) T h e T' h'∧(fY h h'∧h.length≤h'.length)∧Q e T' h'.view:=by
  unfold Ec at hc
  split at hc
  · simp at hc
  · rename_i l hl
    split at hc
    · simp at hc
    · rename_i hok
      have hok:(group l).all pJ=true:=by simpa using hok
      have hl':cy P n ops.toList fz ops.toList=some (gW (group l)):=by rw[dY]; exact hl
      split at hc
      · rename_i ht
        simp only[Option.map_eq_some_iff] at hc
        obtain ⟨aps,hap,rfl⟩:=hc
        obtain ⟨recs,T',h',tr,hst,hk,hro⟩:=tj (group l) ops.toList T h hl' hok hw
        rw[dY] at hro
        refine ⟨.normal,T',h',?_,hst,hk.rest⟩
        have hcf:pL ops.toList recs:=GZ tr hap (vX hk) (by simpa using hro.1) (fun i x r hx hr=>by
          simp only[List.getElem?_map,Option.map_eq_some_iff] at hx
          obtain ⟨s,hs,rfl⟩:=hx
          exact hro.2 i s r hs hr)
        simpa using tF hm (id:=id) tr ht hcf
      · simp at hc
theorem G0 (hm:P.follows .mixedOrders=true) {fz:Fz} {id:Nat} {ops:Array Oper} {sc:SC} {T:Env} {h:aF} {Q:Exit→Env→View→Prop} (hc:DR P n fz ops.toList=some sc) (hw:wS P sc T h.view Q) :
    ∃ e T' h',cq P n (.region id ops true) T h e T' h'∧(fY h h'∧h.length≤h'.length)∧Q e T' h'.view:=by
  unfold DR at hc
  split at hc
  · simp at hc
  · rename_i l hl
    split at hc
    · simp at hc
    · rename_i hok
      have hok:(group l).all pJ=true:=by simpa using hok
      have hl':cy P n ops.toList fz ops.toList=some (gW (group l)):=by rw[dY]; exact hl
      split at hc
      · rename_i ht
        split at hc
        · simp only[Option.map_eq_some_iff] at hc
          obtain ⟨aps,hap,rfl⟩:=hc
          obtain ⟨recs,T',h',tr,hst,hk,hro⟩:=tj (group l) ops.toList T h hl' hok hw
          rw[dY] at hro
          refine ⟨.normal,T',h',?_,hst,hk.rest⟩
          have hcf:=Bx tr hap (vX hk) (by simpa using hro.1) (fun i x r hx hr=>by
            simp only[List.getElem?_map,Option.map_eq_some_iff] at hx
            obtain ⟨s,hs,rfl⟩:=hx
            exact hro.2 i s r hs hr) (fun p hp=>by simp at hp)
          simpa using rZ hm (id:=id) tr ht hcf
        · rename_i p hp
          split at hc
          · rename_i tol hto
            simp only[Option.map_eq_some_iff] at hc
            obtain ⟨aps,hap,rfl⟩:=hc
            obtain ⟨recs,T',h',tr,hst,hk,hro⟩:=tj (group l) ops.toList T h hl' hok hw
            rw[dY] at hro
            refine ⟨.normal,T',h',?_,hst,hk.2.rest⟩
            have hcf:=Bx tr hap (vX hk.2) (by simpa using hro.1) (fun i x r hx hr=>by
              simp only[List.getElem?_map,Option.map_eq_some_iff] at hx
              obtain ⟨s,hs,rfl⟩:=hx
              exact hro.2 i s r hs hr) (fun p' hp'=>by
                simp only[Option.some.injEq] at hp'
                subst hp'
                exact ⟨tol,hto,hk.1⟩)
            simpa using rZ hm (id:=id) tr ht hcf
          · simp at hc
      · simp at hc
theorem rH (hm:P.follows .mixedOrders=true) {fz:Fz} {id:Nat} {ops:Array Oper} {draw quiet:Bool} {sc:SC} {T:Env} {h:aF} {Q:Exit→Env→View→Prop} (hc:uQ P n fz ops.toList draw quiet=some sc) (hw:wS P sc T h.view Q) :
    ∃ e T' h',cq P n (.region id ops draw) T h e T' h'∧(fY h h'∧h.length≤h'.length)∧Q e T' h'.view:=by
  unfold uQ at hc
  split at hc
  · simp at hc
  · rename_i l hl
    split at hc
    · simp at hc
    · rename_i hok
      have hok:(group l).all pJ=true:=by simpa using hok
      have hl':cy P n ops.toList fz ops.toList=some (gW (group l)):=by rw[dY]; exact hl
      have key:sO P quiet (group l) T h.view (Q .normal)→(draw=true→jn ops.toList=true∧zR ops.toList (l.map fun s=>fG P quiet s.b)=true) →
          ∃ e T' h',cq P n (.region id ops draw) T h e T' h'∧(fY h h'∧h.length≤h'.length)∧Q e T' h'.view:=by
        intro hw hdr
        obtain ⟨recs,T',h',tr,hst,hk,hro⟩:=tj (group l) ops.toList T h hl' hok hw
        rw[dY] at hro
        refine ⟨.normal,T',h',?_,hst,hk⟩
        cases hd:draw with
        | false=>simpa using Af (id:=id) tr
        | true =>
          obtain ⟨h1,h2⟩:=hdr hd
          have hcf:pL ops.toList recs:=GO tr h2 (by simpa using hro.1) (fun i x r hx hr=>by
            simp only[List.getElem?_map,Option.map_eq_some_iff] at hx
            obtain ⟨s,hs,rfl⟩:=hx
            exact hro.2 i s r hs hr)
          simpa using tF hm (id:=id) tr h1 hcf
      split at hc
      · rename_i hd
        split at hc
        · rename_i ht
          simp at hc; subst hc
          exact key hw (fun _=>by simpa using ht)
        · simp at hc
      · rename_i hd
        simp at hc; subst hc
        exact key hw (fun e=>absurd e hd)
theorem kD {a b:Option SC} {sc:SC} (h:orElse' a b=some sc):a=some sc∨b=some sc:=by
  cases a with
  | none=>exact .inr h
  | some x=>exact .inl h
theorem EK (hm:P.follows .mixedOrders=true) {fz:List Nat} {id:Nat} {ops:Array Oper} {draw:Bool} {sc:SC} {T:Env} {h:aF} {Q:Exit→Env→View→Prop} (hc:DJ P n fz ops.toList draw=some sc) (hw:wS P sc T h.view Q) :
    ∃ e T' h',cq P n (.region id ops draw) T h e T' h'∧(fY h h'∧h.length≤h'.length)∧Q e T' h'.view:=by
  unfold DJ at hc
  rcases kD hc with h1 | h1
  · exact rH hm h1 hw
  · clear hc
    split at h1
    · rename_i hd
      subst hd
      rcases kD h1 with h0 | h1
      · split at h0
        · exact G0 hm h0 hw
        · simp at h0
      rcases kD h1 with h2 | h2
      · exact GB hm h2 hw
      · rcases kD h2 with h3 | h3
        · exact rH hm h3 hw
        · rcases kD h3 with h4 | h4
          · exact rH hm h4 hw
          · exact rH hm h4 hw
    · simp at h1
theorem zp {e:Exit} {a b:Prop} (h:xq e a b):(e=.normal∧a)∨(e≠.normal∧b):=by
  cases e with
  | normal=>exact .inl ⟨rfl,h⟩
  | _=>exact .inr ⟨by simp,h⟩
theorem JL (hm:P.follows .mixedOrders=true) {fz:List Nat} : ∀ (c:Code) (sc:SC),fJ P n fz c=some sc→∀ (T:Env) (h:aF) (Q:Exit→Env→View→Prop),wS P sc T h.view Q →
    ∃ e T' h',cq P n c T h e T' h'∧(fY h h'∧h.length≤h'.length)∧Q e T' h'.view:=by
  intro c
  induction c with
  | skip=>intro sc hc T h Q hw; simp[fJ] at hc; subst hc; exact ⟨_,T,h,.skip,⟨.refl _,Nat.le_refl _⟩,hw⟩
  | region id ops draw=>intro sc hc T h Q hw; exact EK hm hc hw
  | seq x y ihx ihy =>
    intro sc hc T h Q hw
    simp only[fJ] at hc
    split at hc
    · rename_i a b h1 h2
      simp at hc; subst hc
      simp only[wS] at hw
      obtain ⟨e,T1,h1',hx,st1,hq⟩:=ihx a h1 T h _ hw
      rcases zp hq with ⟨rfl,hq⟩ | ⟨hne,hq⟩
      · obtain ⟨e2,T2,h2',hy,st2,hq2⟩:=ihy b h2 T1 h1' _ hq
        exact ⟨e2,T2,h2',hx.seq hy,⟨st1.1.trans st2.1 st1.2,Nat.le_trans st1.2 st2.2⟩,hq2⟩
      · exact ⟨e,T1,h1',hx.CS hne,st1,hq⟩
    · simp at hc
  | cond c x y ihx ihy =>
    intro sc hc T h Q hw
    simp only[fJ] at hc
    split at hc
    · rename_i a b h1 h2
      simp at hc; subst hc
      simp only[wS] at hw
      split at hw
      · rename_i t ht
        have hT:pD (SX.of c) t T=T:=by
          unfold pD
          split
          · rename_i k hk
            rw[hk] at ht
            exact vT ht
          · rfl
        rw[SX.bT] at ht
        cases t with
        | true =>
          have:=hw.1 rfl
          rw[hT] at this
          obtain ⟨e,T',h',hx,st,hq⟩:=ihx a h1 T h Q this
          exact ⟨e,T',h',.cond ht hx,st,hq⟩
        | false =>
          have:=hw.2 rfl
          rw[hT] at this
          obtain ⟨e,T',h',hx,st,hq⟩:=ihy b h2 T h Q this
          exact ⟨e,T',h',.cond ht hx,st,hq⟩
      · exact hw.elim
    · simp at hc
  | block id c ih =>
    intro sc hc T h Q hw
    simp only[fJ,Option.map_eq_some_iff] at hc
    obtain ⟨a,h1,rfl⟩:=hc
    simp only[wS] at hw
    obtain ⟨e,T',h',hx,st,hq⟩:=ih a h1 T h _ hw
    exact ⟨_,T',h',hx.block,st,hq⟩
  | loop c ih =>
    intro sc hc T h Q hw
    simp only[fJ,Option.map_eq_some_iff] at hc
    obtain ⟨a,h1,rfl⟩:=hc
    simp only[wS] at hw
    obtain ⟨I,⟨k,hk⟩,hstep⟩:=hw
    have go:∀ k T (h:aF),I k T h.view→∃ e T' h',l6 P n c T h e T' h'∧(fY h h'∧h.length≤h'.length)∧Q e T' h'.view:=by
      intro k
      induction k using Nat.strongRecOn with
      | ind k ihk =>
        intro T h hI
        obtain ⟨e,T1,h1',hx,st1,hq⟩:=ih a h1 T h _ (hstep k T h.view hI)
        rcases zp hq with ⟨rfl,k',hlt,hI'⟩ | ⟨hne,hq⟩
        · obtain ⟨e2,T2,h2',hy,st2,hq2⟩:=ihk k' hlt T1 h1' hI'
          exact ⟨e2,T2,h2',.step hx hy,⟨st1.1.trans st2.1 st1.2,Nat.le_trans st1.2 st2.2⟩,hq2⟩
        · exact ⟨e,T1,h1',.out hx hne,st1,hq⟩
    obtain ⟨e,T',h',hx,st,hq⟩:=go k T h hk
    exact ⟨e,T',h',.loop hx,st,hq⟩
  | exit id=>intro sc hc T h Q hw; simp[fJ] at hc; subst hc; exact ⟨_,T,h,.exit,⟨.refl _,Nat.le_refl _⟩,hw⟩
  | ret=>intro sc hc T h Q hw; simp[fJ] at hc; subst hc; exact ⟨_,T,h,.ret,⟨.refl _,Nat.le_refl _⟩,hw⟩
  | _=>intro sc hc; simp[fJ] at hc
theorem JI {T:Env} {h:aF} {r:ResultVar} {l:List SR} {rest:List ResultVar} (hc:dL P (r :: rest)=some l):∃ s l',l=s :: l'∧dL P rest=some l'∧∀ K:V→Prop,wR T h.view s K→∃ v,oJ P T h r=some v∧K v:=by
  cases r with
  | tmp t =>
    simp only[dL,Option.map_eq_some_iff] at hc
    obtain ⟨l',h1,rfl⟩:=hc
    exact ⟨.tmp t,l',rfl,h1,fun K hk=>⟨_,rfl,hk⟩⟩
  | cell a t =>
    simp only[dL] at hc
    split at hc
    · rename_i k l' h1 h2
      simp at hc; subst hc
      refine ⟨.cell a k,l',rfl,h2,fun K hk=>?_⟩
      simp only[wR] at hk
      simp only[oJ,jy,rR h1]
      split at hk
      · rename_i id i j ha
        split at hk
        · rename_i es hH
          obtain ⟨hlt,hk⟩:=hk
          obtain ⟨v,hv,hk⟩:=lJ hk
          exact ⟨v,by rw[ha]; simp only[hH]; rw[if_pos hlt,hv]; rfl,hk⟩
        · exact hk.elim
      · rename_i e j ha
        obtain ⟨v,hv,hk⟩:=lJ hk
        exact ⟨v,by rw[ha]; simp only; rw[hv]; rfl,hk⟩
      · exact hk.elim
    · simp at hc
theorem Ge {T:Env} {h:aF} {K:List V→Prop} : ∀ (rs:List ResultVar) (l:List SR) (acc:List V),dL P rs=some l→xi T h.view l acc K→∃ vs,jr P T h rs=some vs∧K (acc ++ vs)
  | [],l,acc,hc,hw=>by simp[dL] at hc; subst hc; exact ⟨[],rfl,by simpa [xi] using hw⟩
  | r :: rest,l,acc,hc,hw=>by
    obtain ⟨s,l',rfl,h1,h2⟩:=JI (T:=T) (h:=h) hc
    simp only[xi] at hw
    obtain ⟨v,hv,hk⟩:=h2 _ hw
    obtain ⟨vs,hvs,hk⟩:=Ge rest l' (acc ++ [v]) h1 hk
    exact ⟨v :: vs,by simp[jr,hv,hvs],by simpa using hk⟩
def wF (P:Program) (F:SF) (vs:List V) (H:View) (K:V→View→Prop):Prop :=
  vs.length≤F.n∧wS P F.code (iz vs) H fun e T' H'=>(e=.ret∨e=.normal)∧xi T' H' F.res [] fun l=>K (ai l) H'
theorem aD.of (hm:P.follows .mixedOrders=true) {f:FuncId} {fz:List Nat} {F:SF} (hF:aX P f fz=some F) {vs:List V} {H:View} {K:V→View→Prop} (hw:wF P F vs H K):aD P f vs H K:=by
  unfold aX at hF
  split at hF
  · rename_i fn hfn
    split at hF
    · rename_i c hb
      split at hF
      · rename_i sc rs h1 h2 h3
        simp at hF; subst hF
        refine ⟨h3,?_⟩
        rintro h rfl
        obtain ⟨e,T',h',hx,st,he,hr⟩:=JL hm c sc h1 _ h _ hw.2
        obtain ⟨vs',hvs,hk⟩:=Ge _ _ [] h2 hr
        refine ⟨ai vs',h',bP.Dl hfn hb hw.1 hx he ?_,st.1,by simpa using hk⟩
        unfold D3
        rw[hvs]
        cases vs' with
        | nil=>rfl
        | cons a l=>cases l <;> rfl
      · simp at hF
    · simp at hF
  · simp at hF
theorem aD.mono {f:FuncId} {vs:List V} {H:View} {K K':V→View→Prop} (h:aD P f vs H K) (hk:∀ r H',K r H'→K' r H'):aD P f vs H K' :=
  ⟨h.1,fun h0 e=>let ⟨r,h',a,s,b⟩:=h.2 h0 e; ⟨r,h',a,s,hk _ _ b⟩⟩
theorem aE.Hl {f:FuncId} {vs:List V} {H:View} {t:V} {K:V→View→Prop} (h:aE P f vs t) (hok:ct P f=true) (hk:K t H):zW P f vs H K :=
  ⟨hok,fun h0 e=>⟨t,h0,bP.fj h h0,fun _ _=>rfl,e ▸ hk⟩⟩
theorem aD.Hl {f:FuncId} {vs:List V} {H:View} {K:V→View→Prop} (h:aD P f vs H fun r H'=>(∀ id,H id≠.dead→H' id=H id)∧K r H'):zW P f vs H K :=
  ⟨h.1,fun h0 e=>by
    obtain ⟨r,h',ha,st,hf,hk⟩:=h.2 h0 e
    refine ⟨r,h',ha,fun id hid=>?_,hk⟩
    by_cases hd:h0.view id=.dead
    · rw[hd]; exact st id hid hd
    · rw[← e] at hf; exact hf id hd⟩
end
end Gv
namespace Gv
open Go
inductive cn {α:Type} (x:α):Type where
  | mk
def dF (s:ByteArray):List Int:=s.data.toList.map fun b=>(b.toNat:Int)
theorem dg (s:ByteArray):s.size=(dF s).length:=by rw[dF,List.length_map,bsize]
def bo (P:Program) (c:SC) (T:Env) (H:View) (Q:Exit→Env→View→Prop) (_:cn (T,H,Q)):Prop:=wS P (.loop c) T H Q
def az (P:Program) (quiet:Bool) (f:FuncId) (vs:List V) (H:View) (K:V→View→Prop) (_:cn (H,K)):Prop :=
  if quiet then zW P f vs H K else aD P f vs H K
def xo {α:Type} (v:α) (F:α→Prop) (_:cn F):Prop:=F v
def cP (v:V) (F:V→Prop) (_:cn F):Prop:=F v
def AV (o:bE) (F:bE→Prop) (_:cn F):Prop:=F o
def mN {α:Type} (o:Option α) (F:Option α→Prop) (_:cn F):Prop:=F o
def aq (b:Bool) (A B:Prop) (_:cn (A,B)):Prop:=(b=true→A)∧(b=false→B)
theorem JX {α:Type} (v:α) (F:α→Prop) (w:cn F):xo v F w=F v:=propext Iff.rfl
section
variable (F:V→Prop) (w:cn F)
theorem Cb (v:Value):cP (.val v) F w=F (.val v):=propext Iff.rfl
theorem Cg (k:Nat):cP (.emp k) F w=F (.emp k):=propext Iff.rfl
theorem CV:cP .dD F w=F .dD:=propext Iff.rfl
theorem Di (es:List (List V)):cP (.bc es) F w=F (.bc es):=propext Iff.rfl
theorem Er (a b c d:Nat):cP (.sl a b c d) F w=F (.sl a b c d):=propext Iff.rfl
theorem CB (a b c:Nat):cP (.ptr a b c) F w=F (.ptr a b c):=propext Iff.rfl
theorem Bz (e:List V) (j:Nat):cP (.aK e j) F w=F (.aK e j):=propext Iff.rfl
theorem Ex (a:Nat):cP (.mp a) F w=F (.mp a):=propext Iff.rfl
theorem EU (f:FuncId) (a b:List V):cP (.fn f a b) F w=F (.fn f a b):=propext Iff.rfl
theorem Cj (cs:List V):cP (.agg cs) F w=F (.agg cs):=propext Iff.rfl
theorem Cf (cs:List V):cP (.bz cs) F w=F (.bz cs):=propext Iff.rfl
end
theorem CX (F:bE→Prop) (w:cn F) (k:Nat) (es:List (List V)):AV (.arr k es) F w=F (.arr k es):=propext Iff.rfl
theorem Dc (F:bE→Prop) (w:cn F) (es:List (V × V × Nat)) (k:Nat):AV (.map es k) F w=F (.map es k):=propext Iff.rfl
theorem Bw {α:Type} (F:Option α→Prop) (w:cn F) (x:α):mN (some x) F w=F (some x):=propext Iff.rfl
theorem By (A B:Prop) (w:cn (A,B)):aq true A B w=A:=by simp[aq]
theorem zo (A B:Prop) (w:cn (A,B)):aq false A B w=B:=by simp[aq]
theorem Cz (b:Bool) (A B:Prop) (w:cn (A,B)):aq (!b) A B w=aq b B A .mk:=by cases b <;> simp[aq]
theorem aq.split {b:Bool} {A B:Prop} {w:cn (A,B)} (h1:b=true→A) (h2:b=false→B):aq b A B w:=⟨h1,h2⟩
theorem aq.dec {p:Prop} [Decidable p] {A B:Prop} {w:cn (A,B)} (h1:p→A) (h2:¬ p→B):aq (decide p) A B w:=⟨fun h=>h1 (by simpa using h),fun h=>h2 (by simpa using h)⟩
theorem aq.eq {a b:Int} {A B:Prop} {w:cn (A,B)} (h1:a=b→A) (h2:¬ a=b→B):aq (a == b) A B w:=⟨fun h=>h1 (by simpa using h),fun h=>h2 (by simpa using h)⟩
theorem aq.ne {a b:Int} {A B:Prop} {w:cn (A,B)} (h1:¬ a=b→A) (h2:a=b→B):aq (a != b) A B w:=⟨fun h=>h1 (by simpa using h),fun h=>h2 (by simpa using h)⟩
section
variable (P:Program) (T:Env) (H:View)
theorem HN (F:SF) (vs:List V) (K:V→View→Prop):wF P F vs H K=(vs.length≤F.n∧wS P F.code (iz vs) H fun e T' H'=>(e=.ret∨e=.normal)∧xi T' H' F.res [] fun l=>xo (ai l) (fun v=>K v H') .mk):=propext Iff.rfl
theorem Dk (Q:Exit→Env→View→Prop):wS P .skip T H Q=Q .normal T H:=propext Iff.rfl
theorem zl (q:Bool) (gs:List SG) (Q:Exit→Env→View→Prop):wS P (.region q gs) T H Q=sO P q gs T H (Q .normal):=propext Iff.rfl
theorem xD (aps:List (Nat × Nat)) (gs:List SG) (Q:Exit→Env→View→Prop):wS P (.qp aps gs) T H Q=sO P false gs T H (fun T' H'=>tA aps T' (Q .normal T' H')):=propext Iff.rfl
theorem wH (tol:Nat × Nat × Nat) (aps:List (Nat × Nat)) (gs:List SG) (Q:Exit→Env→View→Prop):wS P (.uC tol aps gs) T H Q=sO P false gs T H (fun T' H'=>AG P tol.1 (T' tol.2.1) (T' tol.2.2) H∧tA aps T' (Q .normal T' H')):=propext Iff.rfl
theorem CW (K:Prop):tA [] T K=K:=propext Iff.rfl
theorem Br (a b:Nat) (l:List (Nat × Nat)) (K:Prop):tA ((a,b) :: l) T K=(jZ (T a) (T b)∧tA l T K):=propext Iff.rfl
theorem CF (i j k i' j' k':Nat):jZ (.ptr i j k) (.ptr i' j' k')=(i≠i'):=propext Iff.rfl
theorem C4 (i j k a b c d:Nat):jZ (.ptr i j k) (.sl a b c d)=(i≠a):=propext Iff.rfl
theorem Ag (i j k e:Nat):jZ (.ptr i j k) (.emp e)=True:=id rfl
theorem AF (i j k:Nat):jZ (.ptr i j k) .dD=True:=id rfl
theorem Aj (i j k:Nat) (es:List (List V)):jZ (.ptr i j k) (.bc es)=True:=id rfl
theorem Bk (e:List V) (j:Nat) (v:V):jZ (.aK e j) v=True:=by cases v <;> rfl
theorem EG (x y:SC) (Q:Exit→Env→View→Prop):wS P (.seq x y) T H Q=wS P x T H fun e T' H'=>xq e (wS P y T' H' Q) (Q e T' H'):=propext Iff.rfl
theorem CL (c:SX) (x y:SC) (Q:Exit→Env→View→Prop):wS P (.cond c x y) T H Q=cP (c.at T) (fun v=>match v with
    | .val (.bool b)=>aq b (wS P x (pD c true T) H Q) (wS P y (pD c false T) H Q) .mk
    | _=>False) .mk:=propext Iff.rfl
theorem AS (id:Nat) (c:SC) (Q:Exit→Env→View→Prop):wS P (.block id c) T H Q=wS P c T H fun e=>Q (nV id e):=propext Iff.rfl
theorem Dd (id:Nat) (Q:Exit→Env→View→Prop):wS P (.exit id) T H Q=Q (.exit id) T H:=propext Iff.rfl
theorem Es (Q:Exit→Env→View→Prop):wS P .ret T H Q=Q .ret T H:=propext Iff.rfl
theorem Ca (c:SC) (Q:Exit→Env→View→Prop):wS P (.loop c) T H Q=bo P c T H Q .mk:=propext Iff.rfl
theorem B9 (q:Bool) (K:Env→View→Prop):sO P q [] T H K=K T H:=propext Iff.rfl
theorem A3 (q:Bool) (g:SG) (r:List SG) (K:Env→View→Prop):sO P q (g :: r) T H K=wG P q g T H fun T' H'=>sO P q r T' H' K:=propext Iff.rfl
theorem Cr (q:Bool) (ops:List (Option Nat × SB)) (K:Env→View→Prop):wG P q ⟨none,ops⟩ T H K=tg P q ops T H K:=propext Iff.rfl
theorem Cu (q:Bool) (d:Nat) (ops:List (Option Nat × SB)) (K:Env→View→Prop):wG P q ⟨some (d,true),ops⟩ T H K=cP (T d) (fun v=>match v with
    | .val (.bool b)=>aq b (tg P q ops (T.put (some d) (.val (.bool true))) H K) (K (fo ops (T.put (some d) (.val (.bool false)))) H) .mk
    | .bz []=>K (fo ops T) H
    | _=>False) .mk:=propext Iff.rfl
theorem Bm (q:Bool) (d:Nat) (ops:List (Option Nat × SB)) (K:Env→View→Prop):wG P q ⟨some (d,false),ops⟩ T H K=cP (T d) (fun v=>match v with
    | .val (.bool b)=>aq b (K (fo ops (T.put (some d) (.val (.bool true)))) H) (tg P q ops (T.put (some d) (.val (.bool false))) H K) .mk
    | .bz []=>K (fo ops T) H
    | _=>False) .mk:=by
  simp only[wG,cP]
  generalize T d=v
  cases v with
  | val x=>cases x <;> simp[aq,and_comm]
  | bz l=>cases l <;> simp
  | _=>simp
theorem vl:fo [] T=T:=id rfl
theorem tc (d:Option Nat) (b:SB) (r:List (Option Nat × SB)):fo ((d,b) :: r) T=fo r (T.put d (.bz [])):=id rfl
theorem Dp (q:Bool) (K:Env→View→Prop):tg P q [] T H K=K T H:=propext Iff.rfl
theorem Bb (q:Bool) (d:Option Nat) (b:SB) (r:List (Option Nat × SB)) (K:Env→View→Prop):tg P q ((d,b) :: r) T H K=wB P q b T H fun v H'=>xo v (fun v'=>tg P q r (T.put d v') H' K) .mk:=propext Iff.rfl
theorem HJ (q:Bool) (s:SI) (K:V→View→Prop):wB P q (.op s) T H K=wI P s T H K:=propext Iff.rfl
theorem CP (q:Bool) (f:SX) (args:List SX) (K:V→View→Prop):wB P q (.call f args) T H K=cP (f.at T) (fun v=>match v with
    | .fn g first cap=>az P q g (first ++ args.map (SX.at T) ++ cap) H K .mk
    | _=>False) .mk:=propext Iff.rfl
theorem FG (x:SX) (K:V→View→Prop):wI P (.bu x) T H K=K (x.at T) H:=propext Iff.rfl
theorem C8 (c a b:SX) (K:V→View→Prop):wI P (.pick c a b) T H K=cP (c.at T) (fun v=>match v with
    | .val (.bool t)=>aq t (K (a.at T) H) (K (b.at T) H) .mk
    | _=>False) .mk:=by
  simp only[wI,cP]
  generalize c.at T=v
  cases v with
  | val x =>
    cases x with
    | bool t=>cases t <;> simp[aq]
    | _=>simp
  | _=>simp
theorem Fx (x:SX) (K:V→View→Prop):wI P (.box x) T H K=cP (x.at T) (fun v=>v.cells.all aS=true∧xo v.cells (fun cs=>∀ n,H n=.dead→K (.ptr n 0 0) (H.set n (.arr cs.length [cs]))) .mk) .mk:=propext Iff.rfl
theorem FF (x:SX) (K:V→View→Prop):wI P (.fT x) T H K=cP (x.at T) (fun v=>v.cells.all aS=true∧xo v.cells (fun cs=>K (.aK cs 0) H) .mk) .mk:=propext Iff.rfl
theorem Ai (z:List V) (K:V→View→Prop):wI P (.alloc z) T H K=(z.all aS=true∧∀ n,H n=.dead→K (.ptr n 0 0) (H.set n (.arr z.length [z]))):=propext Iff.rfl
theorem C2 (sz:Option Nat) (a:SX) (K:V→View→Prop):wI P (.load sz a) T H K=cP (a.at T) (fun v=>match v with
    | .ptr id i j=>AV (H id) (fun o=>match o with
      | .arr _ es=>i < es.length∧xo (es.getD i []) (fun e=>gg sz e j fun v=>K v H) .mk
      | _=>False) .mk
    | .aK e j=>gg sz e j fun v=>K v H
    | _=>False) .mk:=propext Iff.rfl
theorem Bt (sz:Option Nat) (a:SX) (K:V→View→Prop):wI P (.uA sz a) T H K=cP (a.at T) (fun v=>match v with
    | .aK e j=>gg sz e j fun v=>K v H
    | _=>False) .mk:=propext Iff.rfl
theorem BJ (sz:Nat) (a x:SX) (K:V→View→Prop):wI P (.store sz a x) T H K=cP (a.at T) (fun v=>match v with
    | .ptr id i j=>AV (H id) (fun o=>match o with
      | .arr esz es=>xo (x.at T).cells (fun cs=>(i < es.length∧cs.length=sz∧j+cs.length≤esz∧cs.all aS=true) ∧
          xo (es.set i (ae (es.getD i []) j cs)) (fun es'=>K .any (H.set id (.arr esz es'))) .mk) .mk
      | _=>False) .mk
    | _=>False) .mk:=propext Iff.rfl
theorem CT (x:SX) (K:V→View→Prop):wI P (.vw x) T H K=cP (x.at T) (fun v=>match v with
    | .ptr id i j=>K (.ptr id i j) H
    | .aK e j=>K (.aK e j) H
    | .fn f a b=>K (.fn f a b) H
    | _=>False) .mk:=propext Iff.rfl
theorem Co (off:Nat) (x:SX) (K:V→View→Prop):wI P (.addr off x) T H K=cP (x.at T) (fun v=>match v with
    | .ptr id i j=>K (.ptr id i (j+off)) H
    | .aK e j=>K (.aK e (j+off)) H
    | _=>False) .mk:=propext Iff.rfl
theorem BD (off:Nat) (sz:Option Nat) (x:SX) (K:V→View→Prop):wI P (.field off sz x) T H K=cP (x.at T) (fun v=>match v with
    | .agg cs=>gg sz cs off fun v=>K v H
    | _=>False) .mk:=propext Iff.rfl
theorem FM (sz:Nat) (x i:SX) (K:V→View→Prop):wI P (.idx sz x i) T H K=mN (asNat (i.at T)) (fun o=>match o with
    | none=>False
    | some q=>cP (x.at T) (fun v=>match v with
      | .sl id off len esz=>(q < len∧esz=sz)∧K (.ptr id (off+q) 0) H
      | .bc es=>mN es[q]? (fun o=>match o with
        | some e=>e.length=sz∧K (.aK e 0) H
        | none=>False) .mk
      | _=>False) .mk) .mk:=by
  simp only[wI,mN,cP]
  cases asNat (i.at T) with
  | none=>rfl
  | some q =>
    simp only
    cases x.at T with
    | bc es =>
      simp only
      cases h:es[q]? with
      | none=>simp
      | some e=>simp
    | _=>rfl
theorem Cy (f:FuncId) (first cap:List SX) (K:V→View→Prop):wI P (.oL f first cap) T H K=K (.fn f (first.map (SX.at T)) (cap.map (SX.at T))) H:=propext Iff.rfl
theorem Bl (K:V→View→Prop):wI P .pa T H K=(∀ n,H n=.dead→K (.mp n) (H.set n (.map [] 0))):=propext Iff.rfl
theorem EV (i:Nat) (x:SX) (K:V→View→Prop):wI P (.ext i x) T H K=cP (x.at T) (fun v=>match v with
    | .bz vs=>i < vs.length∧K (vs.getD i .any) H
    | _=>False) .mk:=propext Iff.rfl
theorem F8 (x:SX) (K:V→View→Prop):wI P (.len x) T H K=mN (dV (x.at T)) (fun o=>match o with
    | some n=>K (ak n) H
    | none=>False) .mk:=propext Iff.rfl
theorem Dj (x:SX) (K:V→View→Prop):wI P (.fC x) T H K=cP (x.at T) (fun v=>match v with
    | .val (.string s)=>K (ak s.size) H
    | _=>False) .mk:=propext Iff.rfl
theorem Al (op:BinOp) (x y:SX) (K:V→View→Prop):wI P (.arith op x y) T H K=cP (x.at T) (fun v=>cP (y.at T) (fun v'=>match v,v' with
    | .val (.int k a),.val (.int k' b)=>k=k'∧mN (ah op k a b) (fun o=>match o with | some v=>K (.val v) H | none=>False) .mk
    | _,_=>False) .mk) .mk:=propext Iff.rfl
theorem HP (l:Bool) (x y:SX) (K:V→View→Prop):wI P (.sh l x y) T H K=cP (x.at T) (fun v=>cP (y.at T) (fun v'=>match v,v' with
    | .val (.int k a),.val (.int _ b)=>0≤b∧K (.val (.int k (Dv l k a b))) H
    | _,_=>False) .mk) .mk:=propext Iff.rfl
theorem Gk (op:BinOp) (x y:SX) (K:V→View→Prop):wI P (.hO op x y) T H K=cP (x.at T) (fun v=>cP (y.at T) (fun v'=>match v,v' with
    | .val (.string a),.val (.string b)=>(match op with
      | .eql=>K (.val (.bool (iD a b))) H
      | .neq=>K (.val (.bool (!iD a b))) H
      | _=>False)
    | _,_=>False) .mk) .mk:=propext Iff.rfl
theorem C3 (x i:SX) (K:V→View→Prop):wI P (.cM x i) T H K=cP (x.at T) (fun v=>mN (asNat (i.at T)) (fun o=>match v,o with
    | .val (.string s),some q=>mN (dF s)[q]? (fun o=>match o with
      | some c=>K (.val (.int .u8 c)) H
      | none=>False) .mk
    | _,_=>False) .mk) .mk:=by
  simp only[wI,mN,cP]
  generalize x.at T=v
  generalize asNat (i.at T)=o
  cases v with
  | val u =>
    cases u with
    | string s =>
      cases o with
      | none=>rfl
      | some q =>
        simp only[dF,List.getElem?_map]
        cases h:s.data.toList[q]? with
        | none=>simp
        | some e=>simp
    | _=>rfl
  | _=>rfl
theorem EB (x:SX) (K:V→View→Prop):wI P (.not x) T H K=cP (x.at T) (fun v=>match v with
    | .val (.bool t)=>K (.val (.bool (!t))) H
    | _=>False) .mk:=propext Iff.rfl
theorem EL (eq:Bool) (k:Nat) (x y:SX) (K:V→View→Prop):wI P (.nil eq k x y) T H K=mN (aj (isNil k (x.at T)) (isNil k (y.at T))) (fun o=>match o with
    | some b=>K (.val (.bool (if eq=true then b else !b))) H
    | none=>False) .mk:=propext Iff.rfl
theorem CU (x y:SX) (K:V→View→Prop):wI P (.beq true x y) T H K=cP (x.at T) (fun v=>cP (y.at T) (fun v'=>match v,v' with
    | .val (.bool a),.val (.bool b)=>K (.val (.bool (a == b))) H
    | _,_=>False) .mk) .mk:=propext Iff.rfl
theorem CZ (x y:SX) (K:V→View→Prop):wI P (.beq false x y) T H K=cP (x.at T) (fun v=>cP (y.at T) (fun v'=>match v,v' with
    | .val (.bool a),.val (.bool b)=>K (.val (.bool (a != b))) H
    | _,_=>False) .mk) .mk:=propext Iff.rfl
theorem EA (x y:SX) (K:V→View→Prop):wI P (.mm true x y) T H K=cP (x.at T) (fun v=>cP (y.at T) (fun v'=>match v,v' with
    | .val (.int k a),.val (.int _ b)=>K (.val (.int k (if b > a then b else a))) H
    | _,_=>False) .mk) .mk:=propext Iff.rfl
theorem EX (x y:SX) (K:V→View→Prop):wI P (.mm false x y) T H K=cP (x.at T) (fun v=>cP (y.at T) (fun v'=>match v,v' with
    | .val (.int k a),.val (.int _ b)=>K (.val (.int k (if b < a then b else a))) H
    | _,_=>False) .mk) .mk:=propext Iff.rfl
theorem CH (k:IntKind) (x:SX) (K:V→View→Prop):wI P (.conv k x) T H K=cP (x.at T) (fun v=>match v with
    | .val (.int _ a)=>K (.val (.int k (k.wrap a))) H
    | _=>False) .mk:=propext Iff.rfl
theorem Bh (n k:Nat) (o:bE):View.set H n o k=if k=n then o else H k:=id rfl
theorem BF (z:List V) (parts:List (Nat × Nat × SX)) (K:V→View→Prop):wI P (.build z parts) T H K=mN (af z (parts.map fun p=>(p.1,p.2.1,p.2.2.at T))) (fun o=>match o with
    | some cs=>K (.agg cs) H
    | none=>False) .mk:=propext Iff.rfl
theorem yK (len sz:Nat) (z:List V) (parts:List (Nat × SX)) (K:V→View→Prop):wI P (.bH len sz z parts) T H K=mN (ag sz (List.replicate len z) (parts.map fun p=>(p.1,p.2.at T))) (fun o=>match o with
    | some es=>∀ n,H n=.dead→K (.sl n 0 len sz) (H.set n (.arr sz es))
    | none=>False) .mk:=propext Iff.rfl
theorem Ax (sz:Nat) (x:SX) (lo hi:Option SX) (K:V→View→Prop):wI P (.slice sz x lo hi) T H K=mN (mI sz (x.at T) (lo.map (SX.at T)) (hi.map (SX.at T))) (fun o=>match o with
    | some (v,.none,_)=>K v H
    | _=>False) .mk:=propext Iff.rfl
theorem Da (sz bytes:Nat) (z:List V) (l c:SX) (K:V→View→Prop):wI P (.make sz bytes z l c) T H K=mN (asNat (l.at T)) (fun a=>mN (asNat (c.at T)) (fun b=>match a,b with
    | some l,some c=>(l≤c∧c < aI∧bytes * c < aI)∧(c=0→K (.emp 2) H)∧(c≠0→∀ n,H n=.dead→K (.sl n 0 l sz) (H.set n (.arr sz (List.replicate l z))))
    | _,_=>False) .mk) .mk:=propext Iff.rfl
def nK (sz bytes:Nat) (x:V) (xs:List (List V)) (H:View) (K:V→View→Prop) (_:cn (H,K)):Prop:=if xs.isEmpty=true then (match x with
        | .emp k=>K (.emp k) H
        | .dD=>K .dD H
        | .bc es=>K (.bc es) H
        | .sl a b c d=>K (.sl a b c d) H
        | _=>False)
      else (xs.all fun e=>e.length == sz && e.all aS)=true∧(match x with
        | .emp _=>(xs.length * bytes < aI∧xs.length < aI)∧∀ n,H n=.dead→K (.sl n 0 xs.length sz) (H.set n (.arr sz xs))
        | .sl id off len esz=>match H id with
          | .arr _ es=>(off+len≤es.length∧esz=sz∧(len+xs.length) * bytes < aI∧len+xs.length < aI) ∧
              ∀ n,H n=.dead→K (.sl n 0 (len+xs.length) esz) ((H.set id .dead).set n (.arr esz ((es.drop off).take len ++ xs)))
          | _=>False
        | _=>False)
theorem Gh (sz bytes:Nat) (x y:SX) (K:V→View→Prop):wI P (.app sz bytes x y) T H K=mN (b6 H (y.at T)) (fun o=>match o with
    | some (xs,_)=>nK sz bytes (x.at T) xs H K .mk
    | none=>False) .mk:=propext Iff.rfl
theorem tK (sz bytes k:Nat) (xs:List (List V)) (K:V→View→Prop) (w:cn (H,K)) (h0:xs.isEmpty=false):nK sz bytes (.emp k) xs H K w=((xs.all fun e=>e.length == sz && e.all aS)=true∧(xs.length * bytes < aI∧xs.length < aI)∧∀ n,H n=.dead→K (.sl n 0 xs.length sz) (H.set n (.arr sz xs))):=by
  unfold nK; rw[if_neg (by rw[h0]; simp)]
theorem vK (sz bytes id off len esz:Nat) (xs:List (List V)) (K:V→View→Prop) (w:cn (H,K)) (h0:xs.isEmpty=false):nK sz bytes (.sl id off len esz) xs H K w=((xs.all fun e=>e.length == sz && e.all aS)=true∧AV (H id) (fun o=>match o with
          | .arr _ es=>(off+len≤es.length∧esz=sz∧(len+xs.length) * bytes < aI∧len+xs.length < aI) ∧
              ∀ n,H n=.dead→K (.sl n 0 (len+xs.length) esz) ((H.set id .dead).set n (.arr esz ((es.drop off).take len ++ xs)))
          | _=>False) .mk):=by
  unfold nK AV; rw[if_neg (by rw[h0]; simp)]
theorem D6 (id off len esz z:Nat) (es:List (List V)) (hH:H id=.arr z es) (hl:off+(len+1)≤es.length):b6 H (.sl id off (len+1) esz)=some ((es.drop off).take (len+1),[id]):=by
  simp only[b6,hH]; rw[if_pos hl]
theorem vn (es:List (List V)):b6 H (.bc es)=some (es,[]):=id rfl
theorem vi (k:Nat):b6 H (.emp k)=some ([],[]):=id rfl
theorem Cs (x:SX) (K:V→View→Prop):wI P (.xM x) T H K=cP (x.at T) (fun v=>match v with
    | .bc es=>mN (mq es) (fun o=>match o with
      | some l=>K (.val (.string ⟨l.toArray⟩)) H
      | none=>False) .mk
    | _=>False) .mk:=propext Iff.rfl
theorem Cp (x:SX) (K:V→View→Prop):wI P (.ed x) T H K=cP (x.at T) (fun v=>match v with
    | .val (.string s)=>K (.bc (ee s)) H
    | _=>False) .mk:=propext Iff.rfl
def nO (P:Program) (op:Op) (ty:TypeId) (T:Env) (H:View) (K:V→View→Prop) (_:cn (T,H,K)):Prop:=wI P (.bm op ty) T H K
theorem Fa (op:Op) (ty:TypeId) (K:V→View→Prop):wI P (.bm op ty) T H K=nO P op ty T H K .mk:=propext Iff.rfl
theorem Fb (t:Nat):ev T (.tmp t)=T t:=id rfl
theorem BH (v:Value):ev T (.const v)=ew v:=id rfl
theorem FQ (t:Nat):(SX.tmp t).at T=T t:=id rfl
theorem E7 (v:V):(SX.val v).at T=v:=id rfl
theorem CE (d t:Nat) (v:V):(T.put (some d) v) t=if t=d then v else T t:=id rfl
theorem AY (v:V):T.put none v=T:=id rfl
theorem As (vs:List V) (t:Nat):iz vs t=vs.getD t .any:=id rfl
theorem xb (e:List V) (j:Nat) (K:V→Prop):gg none e j K=(j < e.length∧K (e.getD j .any)):=propext Iff.rfl
theorem xp (n:Nat) (e:List V) (j:Nat) (K:V→Prop):gg (some n) e j K=(j+n≤e.length∧K (.agg ((e.drop j).take n))):=propext Iff.rfl
theorem wV (a b:Prop):xq .normal a b=a:=propext Iff.rfl
theorem Ab (i:Nat) (a b:Prop):xq (.exit i) a b=b:=propext Iff.rfl
theorem Cm (a b:Prop):xq .ret a b=b:=propext Iff.rfl
theorem tR (i:Nat):nV i .normal=.normal:=id rfl
theorem zd (i:Nat):nV i .ret=.ret:=id rfl
theorem wP (i j:Nat):nV i (.exit j)=if j=i then .normal else .exit j:=by simp only[nV]
theorem Ct (acc:List V) (K:List V→Prop):xi T H [] acc K=K acc:=propext Iff.rfl
theorem Ar (r:SR) (l:List SR) (acc:List V) (K:List V→Prop):xi T H (r :: l) acc K=wR T H r fun v=>xi T H l (acc ++ [v]) K:=propext Iff.rfl
theorem FY (t:Nat) (K:V→Prop):wR T H (.tmp t) K=K (T t):=propext Iff.rfl
theorem Ds (t:Nat) (sz:Option Nat) (K:V→Prop):wR T H (.cell t sz) K=cP (T t) (fun v=>match v with
    | .ptr id i j=>AV (H id) (fun o=>match o with
      | .arr _ es=>i < es.length∧xo (es.getD i []) (fun e=>gg sz e j K) .mk
      | _=>False) .mk
    | .aK e j=>gg sz e j K
    | _=>False) .mk:=propext Iff.rfl
theorem y0 (t:Nat) (b:Bool):pD (.tmp t) b T=T.put (some t) (.val (.bool b)):=id rfl
theorem yN (v:V) (b:Bool):pD (.val v) b T=T:=id rfl
theorem FN:(Exit.ret=Exit.ret∨Exit.ret=Exit.normal)=True:=by simp
theorem yZ:(Exit.normal=Exit.ret∨Exit.normal=Exit.normal)=True:=by simp
end
section
variable {P:Program} {T:Env} {H:View}
theorem bo.intro {c:SC} {Q:Exit→Env→View→Prop} {v:cn (T,H,Q)} (I:Nat→Env→View→Prop) (k:Nat) (h0:I k T H)
    (hs:∀ k T H,I k T H→wS P c T H fun e T' H'=>xq e (∃ k',k' < k∧I k' T' H') (Q e T' H')):bo P c T H Q v:=by
  simp only[bo,wS]
  exact ⟨I,⟨k,h0⟩,hs⟩
theorem az.pure {q:Bool} {f:FuncId} {vs:List V} {K:V→View→Prop} {v:cn (H,K)} {t:V} (hc:aE P f vs t) (hok:ct P f=true) (hk:K t H):az P q f vs H K v:=by
  unfold az
  cases q with
  | true=>exact hc.Hl hok hk
  | false =>
    refine ⟨hok,?_⟩
    rintro h rfl
    exact ⟨t,h,bP.fj hc h,.refl _,hk⟩
theorem az.ez {f:FuncId} {vs:List V} {K:V→View→Prop} {v:cn (H,K)} (hc:aD P f vs H K):az P false f vs H K v:=hc
theorem yH:aF.view []=fun _=>bE.dead:=by funext id; simp[aF.view]
theorem aE.of {f:FuncId} {vs:List V} {t:V} (ht:∀ v∈vs,Tree v) (h:aD P f vs (fun _=>.dead) fun r H'=>∀ h':aF,h'.view=H'→Fr h' r t):aE P f vs t:=by
  obtain ⟨r,h',ha,_,hf⟩:=h.2 [] yH
  exact aE.q9 ht ha (hf h' rfl)
theorem wrap64 {x:Int} (h1 : -9223372036854775808≤x) (h2:x≤9223372036854775807):IntKind.wrap .i64 x=x:=by
  unfold IntKind.wrap
  have e1:(2:Int) ^ IntKind.i64.bits=18446744073709551616:=by rfl
  have e2:(2:Int) ^ (IntKind.i64.bits - 1)=9223372036854775808:=by rfl
  have e3:IntKind.i64.signed=true:=by rfl
  simp only[e1,e2,e3,Bool.true_and,decide_eq_true_eq]
  split <;> omega
theorem yI {k:IntKind} {i:Int} (h:0≤i):asNat (.val (.int k i))=some i.toNat:=by simp[asNat,h]
end
theorem zr (v:Value):V.cells (.val v)=[.val v]:=id rfl
theorem uK (v:Value):aS (.val v)=true:=id rfl
theorem zn (k:Nat):V.cells (.emp k)=[.emp k]:=id rfl
theorem Cc (k:Nat):aS (.emp k)=true:=id rfl
theorem y3  : V.cells .dD=[.dD]:=id rfl
theorem CJ  : aS .dD=true:=id rfl
theorem zy (es:List (List V)):V.cells (.bc es)=[.bc es]:=id rfl
theorem C7 (es:List (List V)):aS (.bc es)=true:=id rfl
theorem Ak (a b c d:Nat):V.cells (.sl a b c d)=[.sl a b c d]:=id rfl
theorem Fp (a b c d:Nat):aS (.sl a b c d)=true:=id rfl
theorem ze (a b c:Nat):V.cells (.ptr a b c)=[.ptr a b c]:=id rfl
theorem CR (a b c:Nat):aS (.ptr a b c)=true:=id rfl
theorem we (e:List V) (j:Nat):V.cells (.aK e j)=[.aK e j]:=id rfl
theorem AH (e:List V) (j:Nat):aS (.aK e j)=true:=id rfl
theorem BE (a:Nat):V.cells (.mp a)=[.mp a]:=id rfl
theorem E8 (a:Nat):aS (.mp a)=true:=id rfl
theorem Ah (f:FuncId) (a b:List V):V.cells (.fn f a b)=[.fn f a b]:=id rfl
theorem E5 (f:FuncId) (a b:List V):aS (.fn f a b)=true:=id rfl
theorem yx (cs:List V):V.cells (.agg cs)=cs:=id rfl
theorem CM (k:Nat):dV (.emp k)=some 0:=id rfl
theorem CA:dV .dD=some 0:=id rfl
theorem Df (es:List (List V)):dV (.bc es)=some es.length:=id rfl
theorem F6 (a b c d:Nat):dV (.sl a b c d)=some c:=id rfl
abbrev J1 {p:Prop} (_:p):Prop:=p
abbrev Wr:Prop:=J1 (And.intro @HN <| And.intro @Dk <| And.intro @zl <| And.intro @xD <| And.intro @wH <| And.intro @CW <| And.intro @Br <| And.intro @EG <|
    And.intro @CL <| And.intro @AS <| And.intro @Dd <| And.intro @Es <|
    And.intro @Ca <| And.intro @B9 <| And.intro @A3 <| And.intro @Cr <|
    And.intro @Cu <| And.intro @Bm <| And.intro @vl <| And.intro @tc <|
    And.intro @Dp <| And.intro @Bb <| And.intro @HJ <| And.intro @CP <|
    And.intro @FG <| And.intro @C8 <| And.intro @Fx <| And.intro @FF <|
    And.intro @Ai <| And.intro @C2 <| And.intro @Bt <| And.intro @BJ <|
    And.intro @CT <| And.intro @Co <| And.intro @BD <| And.intro @FM <|
    And.intro @Cy <| And.intro @Bl <| And.intro @EV <| And.intro @F8 <|
    And.intro @Dj <| And.intro @Al <| And.intro @HP <| And.intro @Gk <| And.intro @C3 <|
    And.intro @EB <| And.intro @EL <| And.intro @CU <| And.intro @CZ <|
    And.intro @EA <| And.intro @EX <| And.intro @CH <| And.intro @Cs <|
    And.intro @Cp <| And.intro @BF <| And.intro @yK <| And.intro @Ax <|
    And.intro @Da <| And.intro @Gh <| And.intro @Fa <| And.intro @Fb <| And.intro @BH <| And.intro @FQ <| And.intro @E7 <|
    And.intro @CE <| And.intro @AY <| And.intro @As <| And.intro @xb <|
    And.intro @xp <| And.intro @wV <| And.intro @Ab <| And.intro @Cm <|
    And.intro @tR <| And.intro @zd <| And.intro @wP <| And.intro @Ct <|
    And.intro @Ar <| And.intro @FY <| And.intro @Ds <| And.intro @y0 @yN)
theorem wr:Wr:=(And.intro @HN <| And.intro @Dk <| And.intro @zl <| And.intro @xD <| And.intro @wH <| And.intro @CW <| And.intro @Br <| And.intro @EG <|
    And.intro @CL <| And.intro @AS <| And.intro @Dd <| And.intro @Es <|
    And.intro @Ca <| And.intro @B9 <| And.intro @A3 <| And.intro @Cr <|
    And.intro @Cu <| And.intro @Bm <| And.intro @vl <| And.intro @tc <|
    And.intro @Dp <| And.intro @Bb <| And.intro @HJ <| And.intro @CP <|
    And.intro @FG <| And.intro @C8 <| And.intro @Fx <| And.intro @FF <|
    And.intro @Ai <| And.intro @C2 <| And.intro @Bt <| And.intro @BJ <|
    And.intro @CT <| And.intro @Co <| And.intro @BD <| And.intro @FM <|
    And.intro @Cy <| And.intro @Bl <| And.intro @EV <| And.intro @F8 <|
    And.intro @Dj <| And.intro @Al <| And.intro @HP <| And.intro @Gk <| And.intro @C3 <|
    And.intro @EB <| And.intro @EL <| And.intro @CU <| And.intro @CZ <|
    And.intro @EA <| And.intro @EX <| And.intro @CH <| And.intro @Cs <|
    And.intro @Cp <| And.intro @BF <| And.intro @yK <| And.intro @Ax <|
    And.intro @Da <| And.intro @Gh <| And.intro @Fa <| And.intro @Fb <| And.intro @BH <| And.intro @FQ <| And.intro @E7 <|
    And.intro @CE <| And.intro @AY <| And.intro @As <| And.intro @xb <|
    And.intro @xp <| And.intro @wV <| And.intro @Ab <| And.intro @Cm <|
    And.intro @tR <| And.intro @zd <| And.intro @wP <| And.intro @Ct <|
    And.intro @Ar <| And.intro @FY <| And.intro @Ds <| And.intro @y0 @yN)
abbrev Wq:Prop:=J1 (And.intro @eq_self.{1} <| And.intro @ne_eq.{1} <| And.intro @implies_true.{1} <| And.intro @implies_true.{0} <| And.intro @decide_true <| And.intro @decide_false <| And.intro @CF <| And.intro @C4 <| And.intro @Ag <| And.intro @AF <| And.intro @Aj <| And.intro @Bk <| And.intro @zr <| And.intro @uK <| And.intro @zn <| And.intro @Cc <| And.intro @y3 <| And.intro @CJ <| And.intro @zy <| And.intro @C7 <| And.intro @Ak <| And.intro @Fp <| And.intro @ze <| And.intro @CR <| And.intro @we <| And.intro @AH <| And.intro @BE <| And.intro @E8 <| And.intro @Ah <| And.intro @E5 <| And.intro @yx <| And.intro @CM <| And.intro @CA <| And.intro @Df <| And.intro @F6 <| And.intro @true_or <| And.intro @or_true <| And.intro @or_false <| And.intro @false_or <|
    And.intro @JX <| And.intro @Cb <| And.intro @Cg <| And.intro @CV <|
    And.intro @Di <| And.intro @Er <| And.intro @CB <| And.intro @Bz <|
    And.intro @Ex <| And.intro @EU <| And.intro @Cj <| And.intro @Cf <|
    And.intro @CX <| And.intro @Dc <| And.intro @Bw <| And.intro @By <|
    And.intro @zo <| And.intro @Cz <| And.intro @List.getD_cons_zero.{0} <| And.intro @List.getD_cons_succ.{0} <|
    And.intro @List.length_cons.{0} <| And.intro @List.length_nil.{0} <| And.intro @List.length_map.{0,0} <| And.intro @wrap64 <|
    And.intro @true_and <| And.intro @and_true <| And.intro @and_self <| And.intro @decide_eq_true_eq <|
    And.intro @decide_eq_false_iff_not <| And.intro @List.all_cons.{0} <| And.intro @List.all_nil.{0} <| And.intro @Bool.and_self <|
    And.intro @List.nil_append.{0} <| And.intro @List.cons_append.{0} <| And.intro @Nat.zero_add <| And.intro @yI <|
    And.intro @Int.toNat_natCast <| And.intro @FN <| And.intro @yZ <| And.intro @bne_iff_ne.{0} <|
    And.intro @beq_iff_eq.{0} <| And.intro @Bool.not_eq_true <| And.intro @Bool.not_true <| And.intro @Bool.not_false <|
    And.intro @List.append_nil.{0} <| And.intro @List.map_cons.{0,0} <| And.intro @List.map_nil.{0,0} <| And.intro @Bool.true_eq_false <|
    And.intro @Bool.false_eq_true <| And.intro @false_implies <| And.intro @true_implies <| And.intro @Bool.not_not <|
    And.intro @List.drop_zero.{0} <| And.intro @Bh <| And.intro @List.set_cons_zero.{0} <| And.intro @List.set_cons_succ.{0} <|
    And.intro @List.drop_nil.{0} <| And.intro @Nat.add_zero <| And.intro @List.replicate_zero.{0} <| And.intro @List.replicate_succ.{0} <|
    And.intro @vn <| And.intro @vi <| And.intro @tK <| And.intro @vK <|
    And.intro @List.isEmpty_cons.{0} <| And.intro @Option.map_none.{0,0} <| And.intro @Option.map_some.{0,0} <| And.intro @Nat.succ_ne_zero <|
    And.intro @List.take_succ_cons.{0} <| And.intro @List.take_zero.{0} <| And.intro @List.drop_succ_cons.{0} <| And.intro @bne_eq_false_iff_eq.{0} <|
    And.intro @beq_eq_false_iff_ne.{0} <| And.intro @not_true_eq_false <| And.intro @not_false_eq_true @Decidable.not_not)
theorem wq:Wq:=(And.intro @eq_self.{1} <| And.intro @ne_eq.{1} <| And.intro @implies_true.{1} <| And.intro @implies_true.{0} <| And.intro @decide_true <| And.intro @decide_false <| And.intro @CF <| And.intro @C4 <| And.intro @Ag <| And.intro @AF <| And.intro @Aj <| And.intro @Bk <| And.intro @zr <| And.intro @uK <| And.intro @zn <| And.intro @Cc <| And.intro @y3 <| And.intro @CJ <| And.intro @zy <| And.intro @C7 <| And.intro @Ak <| And.intro @Fp <| And.intro @ze <| And.intro @CR <| And.intro @we <| And.intro @AH <| And.intro @BE <| And.intro @E8 <| And.intro @Ah <| And.intro @E5 <| And.intro @yx <| And.intro @CM <| And.intro @CA <| And.intro @Df <| And.intro @F6 <| And.intro @true_or <| And.intro @or_true <| And.intro @or_false <| And.intro @false_or <|
    And.intro @JX <| And.intro @Cb <| And.intro @Cg <| And.intro @CV <|
    And.intro @Di <| And.intro @Er <| And.intro @CB <| And.intro @Bz <|
    And.intro @Ex <| And.intro @EU <| And.intro @Cj <| And.intro @Cf <|
    And.intro @CX <| And.intro @Dc <| And.intro @Bw <| And.intro @By <|
    And.intro @zo <| And.intro @Cz <| And.intro @List.getD_cons_zero.{0} <| And.intro @List.getD_cons_succ.{0} <|
    And.intro @List.length_cons.{0} <| And.intro @List.length_nil.{0} <| And.intro @List.length_map.{0,0} <| And.intro @wrap64 <|
    And.intro @true_and <| And.intro @and_true <| And.intro @and_self <| And.intro @decide_eq_true_eq <|
    And.intro @decide_eq_false_iff_not <| And.intro @List.all_cons.{0} <| And.intro @List.all_nil.{0} <| And.intro @Bool.and_self <|
    And.intro @List.nil_append.{0} <| And.intro @List.cons_append.{0} <| And.intro @Nat.zero_add <| And.intro @yI <|
    And.intro @Int.toNat_natCast <| And.intro @FN <| And.intro @yZ <| And.intro @bne_iff_ne.{0} <|
    And.intro @beq_iff_eq.{0} <| And.intro @Bool.not_eq_true <| And.intro @Bool.not_true <| And.intro @Bool.not_false <|
    And.intro @List.append_nil.{0} <| And.intro @List.map_cons.{0,0} <| And.intro @List.map_nil.{0,0} <| And.intro @Bool.true_eq_false <|
    And.intro @Bool.false_eq_true <| And.intro @false_implies <| And.intro @true_implies <| And.intro @Bool.not_not <|
    And.intro @List.drop_zero.{0} <| And.intro @Bh <| And.intro @List.set_cons_zero.{0} <| And.intro @List.set_cons_succ.{0} <|
    And.intro @List.drop_nil.{0} <| And.intro @Nat.add_zero <| And.intro @List.replicate_zero.{0} <| And.intro @List.replicate_succ.{0} <|
    And.intro @vn <| And.intro @vi <| And.intro @tK <| And.intro @vK <|
    And.intro @List.isEmpty_cons.{0} <| And.intro @Option.map_none.{0,0} <| And.intro @Option.map_some.{0,0} <| And.intro @Nat.succ_ne_zero <|
    And.intro @List.take_succ_cons.{0} <| And.intro @List.take_zero.{0} <| And.intro @List.drop_succ_cons.{0} <| And.intro @bne_eq_false_iff_eq.{0} <|
    And.intro @beq_eq_false_iff_ne.{0} <| And.intro @not_true_eq_false <| And.intro @not_false_eq_true @Decidable.not_not)
end Gv
namespace Gv
open Go
inductive tQ:V→Prop
  | val (v:Value):tQ (.val v)
  | bz (cs:List V):(∀ i,i < cs.length→∃ v,cs.getD i .any=.val v)→tQ (.bz cs)
theorem Hm {Z Z':Nat→Prop} {μ μ':Mu} {hp hp':Array Obj} {t:V} {x:Value} (hf:tQ t) (h:aA Z μ hp t x):aA Z' μ' hp' t x:=by
  cases hf with
  | val=>cases h with | val _ hv=>exact .val _ hv
  | bz cs hc =>
    cases h with
    | bz _ aas h1 h2 =>
      refine .bz _ _ h1 fun i hi=>?_
      have:=h2 i hi
      obtain ⟨v,hv⟩:=hc i hi
      rw[hv] at this ⊢
      generalize aas.getD i undef=y at this ⊢
      cases this with | val _ hv=>exact .val _ hv
theorem bP.borrow {P:Program} {f:FuncId} {ts vs:List V} {t:V} {h:aF} (hc:aE P f ts t) (hf:tQ t) (hl:ts.length=vs.length)
    (hfr:∀ i,i < vs.length→Fr h (vs.getD i .any) (ts.getD i .any)):bP P f vs h t h:=by
  refine ⟨Nat.le_refl _,fun Z μ F w xs hrel hr hfree=>?_⟩
  have hts:dR (fun b=>Z b∨gQ μ b) μ w.heap ts xs:=⟨by rw[hl,hrel.1],fun i hi=>Ba hr (hfr i (by omega)) (hrel.2 i (by omega))⟩
  have hzl:∀ b,(Z b∨gQ μ b)→b < w.heap.size:=by
    rintro b (hb | ⟨id,o,s,hb⟩)
    · exact hr.bZ b hb
    · exact hr.lt _ _ _ _ hb
  refine (hc _ μ w xs hts hzl).mono ?_
  rintro e w' ⟨x,Z',rfl,hv,hs,hz,hz',ho⟩
  have hm:eA Z Z μ μ w.heap w'.heap:=⟨fun _ h=>h,fun b hb=>ho b (hr.bZ b hb) (fun x=>x),fun _ _ h=>h,ho.mc⟩
  exact ⟨x,Z,μ,rfl,Hm hf (hv μ),⟨fun id=>(hr.obj id).mono hm rfl (fun b o s hx=>ho b (hr.lt _ _ _ _ hx) (fun x=>x)),hr.inj,fun id b o s hx=>Nat.lt_of_lt_of_le (hr.lt _ _ _ _ hx) hs.size,fun b hb=>Nat.lt_of_lt_of_le (hr.bZ b hb) hs.size,hr.fb⟩,
    ⟨hs,hm,fun b hb _=>ho b hb (fun x=>x),fun b hb=>.inl hb,fun _ _ _ _ h=>.inl h⟩,fun _ _=>rfl⟩
def bW (H:View) (v t:V):Prop:=∀ h:aF,h.view=H→Fr h v t
theorem bW.tree {H:View} {v:V} (h:Tree v):bW H v v:=fun _ _=>.tree _ h
theorem bW.sl {H:View} {id off len esz z:Nat} {es:List (List V)} (hH:H id=.arr z es) (hle:off+len≤es.length) (ht:∀ e∈es,∀ v∈e,Tree v) :
    bW H (.sl id off len esz) (.bc ((es.drop off).take len)):=by
  rintro h rfl
  have hg:∀ i,i < len→((es.drop off).take len).getD i []=es.getD (off+i) []:=fun i hi=>by
    simp[List.getD_eq_getElem?_getD,List.getElem?_take,hi]
  refine .sl id off len esz z es _ hH hle (by simp; omega) (fun i hi=>by rw[hg i hi]) (fun i j hi hj=>?_)
  rw[hg i hi] at hj ⊢
  refine .tree _ ?_
  have h1:off+i < es.length:=by omega
  have e1:es.getD (off+i) []=es[off+i]:=by simp[List.getD_eq_getElem?_getD,h1]
  rw[e1] at hj ⊢
  have e2:(es[off+i]).getD j .any=(es[off+i])[j]:=by simp[List.getD_eq_getElem?_getD,hj]
  rw[e2]
  exact ht _ (List.getElem_mem _) _ (List.getElem_mem _)
theorem az.borrow {P:Program} {q:Bool} {f:FuncId} {H:View} {vs ts:List V} {K:V→View→Prop} {v:cn (H,K)} {t:V} (hc:aE P f ts t) (hok:ct P f=true) (hf:tQ t) (hl:ts.length=vs.length)
    (hfr:∀ i,i < vs.length→bW H (vs.getD i .any) (ts.getD i .any)) (hk:K t H):az P q f vs H K v:=by
  unfold az
  cases q with
  | true=>exact ⟨hok,fun h e=>⟨t,h,bP.borrow hc hf hl (fun i hi=>hfr i hi h e),fun _ _=>rfl,e ▸ hk⟩⟩
  | false =>
    refine ⟨hok,?_⟩
    rintro h rfl
    exact ⟨t,h,bP.borrow hc hf hl (fun i hi=>hfr i hi h rfl),.refl _,hk⟩
end Gv
set_option linter.unusedSimpArgs false
set_option maxRecDepth 100000
namespace Gv
open Go Go.Proofs
abbrev gi (x:Int):V:=.val (.int .i64 x)
abbrev gb (x:Bool):V:=.val (.bool x)
abbrev gs (x:ByteArray):V:=.val (.string x)
theorem mixed:(Tryz.prog).follows .mixedOrders=true:=by kernel_rfl
def encI (l:List Int):V:=.bc (l.map fun x=>[gi x])
def bk (l:List Bool):V:=.bc (l.map fun x=>[gb x])
theorem cz (l:List Int):Tree (encI l):=by
  refine .bc _ fun i j hi hj=>?_
  simp only[List.length_map] at hi
  simp[List.getD_eq_getElem?_getD,hi] at hj ⊢
  subst hj
  exact .val _
def aP {α:Type} (l:List α):Prop:=l.length < 4611686018427387904
def kA:SC :=
  .seq (.seq (al [aa 11 5,aa 12 0,aL 13 12,bb 14 .lss 11 13]) <|
  .cond (.tmp 14) (.skip) (.exit 0)) <|
  .seq (.block 1 (.seq (al [aa 17 0,aa 18 5,aN 19 1 17 18,an 20 19,aa 21 1,aa 22 5,aN 23 1 21 22,an 24 23,bb 25 .neq 20 24]) <|
  .cond (.tmp 25) (.seq (al [aU 4 false]) <|
  .ret) (.skip))) <|
  al [aa 15 5,ay 16 .add 15 1,aa 5 16]
def m4:SF:=⟨.seq (al [aU 4 false]) <|
  .seq (.seq (al [aa 6 0,aL 7 6,aa 8 1,aL 9 8,bb 10 .neq 7 9]) <|
  .cond (.tmp 10) (.seq (al [aU 4 false]) <|
  .ret) (.skip)) <|
  .seq (.seq (al [aH 5 0]) <|
  .block 0 (.loop kA)) <|
  .seq (al [aU 4 true]) <|
  .ret,
  [.tmp 4],26⟩
theorem qq:aX Tryz.prog 19 []=some m4:=by kernel_rfl
theorem Ia {α:Type} [BEq α] [LawfulBEq α] {a b:List α} (h:a.length≠b.length):(a == b)=false:=by
  simp only[beq_eq_false_iff_ne]; intro e; exact h (by rw[e])
theorem Iy (a b:List Int) (ha:aP a) (H:View):aD Tryz.prog 19 [encI a,encI b] H fun r H'=>r=gb (a == b)∧H'=H:=by
  refine aD.of mixed qq ?_
  unfold aP at ha
  simp (disch:=omega) only [↓wr,↓reduceIte,wq,ai,ah,ak,ae,af,ag,aj,isNil,Nat.reduceEqDiff,Nat.reduceAdd,Nat.reduceLT,Nat.reduceLeDiff,Int.reduceNeg,Int.reduceToNat,reduceCtorEq,m4,encI]
  refine aq.ne (fun h=>?_) (fun h=>?_)
  · simp (disch:=omega) only [↓wr,↓reduceIte,wq,ai,ah,ak,ae,af,ag,aj,isNil,Nat.reduceEqDiff,Nat.reduceAdd,Nat.reduceLT,Nat.reduceLeDiff,Int.reduceNeg,Int.reduceToNat,reduceCtorEq]
    rw[Ia (by omega)]
  · simp (disch:=omega) only [↓wr,↓reduceIte,wq,ai,ah,ak,ae,af,ag,aj,isNil,Nat.reduceEqDiff,Nat.reduceAdd,Nat.reduceLT,Nat.reduceLeDiff,Int.reduceNeg,Int.reduceToNat,reduceCtorEq]
    refine bo.intro (fun k T H'=>∃ i:Nat,i+k=a.length∧a.take i=b.take i∧T 0=encI a∧T 1=encI b∧T 5=gi i∧H'=H) a.length ?_ ?_
    · exact ⟨0,by omega,by simp,rfl,rfl,rfl,rfl⟩
    · rintro k T H' ⟨i,hk,hi,h0,h1,h5,rfl⟩
      simp (disch:=omega) only [↓wr,↓reduceIte,wq,ai,ah,ak,ae,af,ag,aj,isNil,Nat.reduceEqDiff,Nat.reduceAdd,Nat.reduceLT,Nat.reduceLeDiff,Int.reduceNeg,Int.reduceToNat,reduceCtorEq,kA,h0,h1,h5,encI]
      refine aq.dec (fun hc=>?_) (fun hc=>?_)
      · have h2:a[i]?=some (a[i]'(by omega)):=List.getElem?_eq_getElem (by omega)
        have h3:b[i]?=some (b[i]'(by omega)):=List.getElem?_eq_getElem (by omega)
        simp (disch:=omega) only [↓wr,↓reduceIte,wq,ai,ah,ak,ae,af,ag,aj,isNil,Nat.reduceEqDiff,Nat.reduceAdd,Nat.reduceLT,Nat.reduceLeDiff,Int.reduceNeg,Int.reduceToNat,reduceCtorEq,h0,h1,h5,encI,List.getElem?_map,h2,h3,Option.map_some]
        refine aq.ne (fun hd=>?_) (fun hd=>?_)
        · simp (disch:=omega) only [↓wr,↓reduceIte,wq,ai,ah,ak,ae,af,ag,aj,isNil,Nat.reduceEqDiff,Nat.reduceAdd,Nat.reduceLT,Nat.reduceLeDiff,Int.reduceNeg,Int.reduceToNat,reduceCtorEq]
          have:(a == b)=false:=by
            simp only[beq_eq_false_iff_ne]; rintro rfl; exact hd rfl
          rw[this]
        · simp (disch:=omega) only [↓wr,↓reduceIte,wq,ai,ah,ak,ae,af,ag,aj,isNil,Nat.reduceEqDiff,Nat.reduceAdd,Nat.reduceLT,Nat.reduceLeDiff,Int.reduceNeg,Int.reduceToNat,reduceCtorEq,h0,h1,h5,encI]
          refine ⟨k - 1,by omega,i+1,by omega,?_,rfl⟩
          rw[List.take_add_one,List.take_add_one,hi,h2,h3,hd]
      · simp (disch:=omega) only [↓wr,↓reduceIte,wq,ai,ah,ak,ae,af,ag,aj,isNil,Nat.reduceEqDiff,Nat.reduceAdd,Nat.reduceLT,Nat.reduceLeDiff,Int.reduceNeg,Int.reduceToNat,reduceCtorEq,h0,h1,h5,encI]
        have:a=b:=by
          have e:i=a.length:=by omega
          rw[List.take_of_length_le (by omega),List.take_of_length_le (by omega)] at hi
          exact hi
        rw[this]; simp
theorem IA (a b:List Int) (ha:aP a):aE Tryz.prog 19 [encI a,encI b] (gb (a == b)) :=
  aE.of (by simp[cz]) ((Iy a b ha _).mono fun r H' h h' _=>by rw[h.1]; exact .tree _ (.val _))
theorem eQ (l:List Bool):Tree (bk l):=by
  refine .bc _ fun i j hi hj=>?_
  simp only[List.length_map] at hi
  simp[List.getD_eq_getElem?_getD,hi] at hj ⊢
  subst hj
  exact .val _
end Gv
set_option linter.unusedSimpArgs false
set_option maxRecDepth 100000
namespace Gv
open Go Go.Proofs
structure Term where
  name:ByteArray
  level:Int
  assoc:Int
structure aT where
  left:Int
  right:List Int
  prec:Int
structure av where
  aC:List Term
  au:List ByteArray
  rules:List aT
  start:Int
instance:Inhabited Term:=⟨⟨.empty,0,0⟩⟩
instance:Inhabited aT:=⟨⟨0,[],0⟩⟩
def ch (t:Term):List V:=[gs t.name,gi t.level,gi t.assoc]
def aJ (r:aT):List V:=[gi r.left,encI r.right,gi r.prec]
def encS (l:List ByteArray):V:=.bc (l.map fun s=>[gs s])
def ao (g:av):List V:=[.bc (g.aC.map ch),encS g.au,.bc (g.rules.map aJ),gi g.start]
theorem fX {α:Type} (l:List α) (f:α→List V) (h:∀ x∈l,∀ v∈f x,Tree v):Tree (.bc (l.map f)):=by
  refine .bc _ fun i j hi hj=>?_
  simp only[List.length_map] at hi
  have e:(l.map f).getD i []=f l[i]:=by simp[List.getD_eq_getElem?_getD,hi]
  rw[e] at hj ⊢
  have e2:(f l[i]).getD j .any=(f l[i])[j]:=by simp[List.getD_eq_getElem?_getD,hj]
  rw[e2]
  exact h _ (List.getElem_mem _) _ (List.getElem_mem _)
theorem bV (cs:List V) (h:∀ v∈cs,Tree v):Tree (.agg cs):=by
  refine .agg _ fun i hi=>?_
  have e2:cs.getD i .any=cs[i]:=by simp[List.getD_eq_getElem?_getD,hi]
  rw[e2]; exact h _ (List.getElem_mem _)
theorem yw (l:List ByteArray):Tree (encS l):=fX _ _ fun x _ v hv=>by simp at hv; subst hv; exact .val _
theorem zw (t:Term):∀ v∈ch t,Tree v:=by intro v hv; simp[ch] at hv; rcases hv with rfl | rfl | rfl <;> exact .val _
theorem fU (r:aT):∀ v∈aJ r,Tree v:=by
  intro v hv; simp[aJ] at hv; rcases hv with rfl | rfl | rfl
  · exact .val _
  · exact cz _
  · exact .val _
theorem bK (g:av):∀ v∈ao g,Tree v:=by
  intro v hv; simp[ao] at hv; rcases hv with rfl | rfl | rfl | rfl
  · exact fX _ _ fun x _=>zw x
  · exact yw _
  · exact fX _ _ fun x _=>fU x
  · exact .val _
def bF (x:Int):Prop:=-9223372036854775808≤x∧x≤9223372036854775807
structure av.Ok (g:av):Prop where
  aC:aP g.aC
  au:aP g.au
  rules:aP g.rules
  start:bF g.start
  term:∀ t∈g.aC,bF t.level∧bF t.assoc
  bj:∀ r∈g.rules,bF r.left∧bF r.prec∧aP r.right∧∀ x∈r.right,bF x
def lS (g:av) (s:Int):Bool:=if 0≤s then decide (s < g.aC.length) else decide (-1 - s < g.au.length)
def nF:SF:=⟨.seq (al [cE 2 0,aU 4 false]) <|
  .seq (.seq (al [aa 5 1,ay 6 .geq 5 0]) <|
  .cond (.tmp 6) (.seq (al [aa 7 1,ar 8 0 2,an 9 8,aL 10 9,bb 11 .lss 7 10,aa 4 11]) <|
  .ret) (.skip)) <|
  .seq (al [aa 12 1,((some 13),.op (.arith .sub (.val (.val (.int .i64 (-1)))) (.tmp 12))),ar 14 1 2,an 15 14,aL 16 15,bb 17 .lss 13 16,aa 4 17]) <|
  .ret,
  [.tmp 4],18⟩
theorem rY:aX Tryz.prog 85 [2]=some nF:=by kernel_rfl
theorem IZ (g:av) (s:Int) (hs:bF s) (H:View):aD Tryz.prog 85 [.agg (ao g),gi s] H fun r H'=>r=gb (lS g s)∧H'=H:=by
  refine aD.of mixed rY ?_
  obtain ⟨h1,h2⟩:=hs
  simp (disch:=omega) only [↓wr,↓reduceIte,wq,ai,ah,ak,ae,af,ag,aj,isNil,Nat.reduceEqDiff,Nat.reduceAdd,Nat.reduceLT,Nat.reduceLeDiff,Int.reduceNeg,Int.reduceToNat,reduceCtorEq,nF,ao,encS]
  refine aq.dec (fun h=>?_) (fun h=>?_)
  · simp (disch:=omega) only [↓wr,↓reduceIte,wq,ai,ah,ak,ae,af,ag,aj,isNil,Nat.reduceEqDiff,Nat.reduceAdd,Nat.reduceLT,Nat.reduceLeDiff,Int.reduceNeg,Int.reduceToNat,reduceCtorEq]
    simp[lS,show (0:Int)≤s from h]
  · simp (disch:=omega) only [↓wr,↓reduceIte,wq,ai,ah,ak,ae,af,ag,aj,isNil,Nat.reduceEqDiff,Nat.reduceAdd,Nat.reduceLT,Nat.reduceLeDiff,Int.reduceNeg,Int.reduceToNat,reduceCtorEq]
    simp[lS,show ¬ (0:Int)≤s from h]
theorem Jo (g:av) (s:Int) (hs:bF s):aE Tryz.prog 85 [.agg (ao g),gi s] (gb (lS g s)) :=
  aE.of (by
    intro v hv; simp at hv
    rcases hv with rfl | rfl
    · exact bV _ (bK g)
    · exact .val _) ((IZ g s hs _).mono fun r H' h h' _=>by rw[h.1]; exact .tree _ (.val _))
def kX (g:av):Bool:=decide (40 < g.aC.length) || decide (40 < g.au.length) || decide (60 < g.rules.length) || g.rules.any fun r=>decide (20 < r.right.length)
def j0:SC :=
  .seq (.seq (al [aa 20 3,ar 21 2 1,an 22 21,aL 23 22,bb 24 .lss 20 23]) <|
  .cond (.tmp 24) (.skip) (.exit 0)) <|
  .seq (.block 1 (.seq (al [ar 27 2 1,an 28 27,aa 29 3,aN 30 3 28 29,ar 31 1 30,an 32 31,aL 33 32,ay 34 .gtr 33 20]) <|
  .cond (.tmp 34) (.seq (al [aU 2 true]) <|
  .ret) (.skip))) <|
  al [aa 25 3,ay 26 .add 25 1,aa 3 26]
def lA:SF:=⟨.seq (al [cE 1 0,aU 2 false]) <|
  .seq (.seq (.region false [⟨none,[ar 4 0 1,an 5 4,aL 6 5,ay 7 .gtr 6 40,aa 8 7]⟩,⟨(some (8,false)),[ar 9 1 1,an 10 9,aL 11 10,ay 12 .gtr 11 40]⟩,⟨none,[bt 13 8 12,aa 14 13]⟩,⟨(some (14,false)),[ar 15 2 1,an 16 15,aL 17 16,ay 18 .gtr 17 60]⟩,⟨none,[bt 19 14 18]⟩]) <|
  .cond (.tmp 19) (.seq (al [aU 2 true]) <|
  .ret) (.skip)) <|
  .seq (.seq (al [aH 3 0]) <|
  .block 0 (.loop j0)) <|
  .seq (al [aU 2 false]) <|
  .ret,
  [.tmp 2],35⟩
theorem pS:aX Tryz.prog 13 [1]=some lA:=by kernel_rfl
theorem Hd (g:av) (H:View):aD Tryz.prog 13 [.agg (ao g)] H fun r H'=>r=gb (kX g)∧H'=H:=by
  refine aD.of mixed pS ?_
  simp (disch:=omega) only [↓wr,↓reduceIte,wq,ai,ah,ak,ae,af,ag,aj,isNil,Nat.reduceEqDiff,Nat.reduceAdd,Nat.reduceLT,Nat.reduceLeDiff,Int.reduceNeg,Int.reduceToNat,reduceCtorEq,lA,ao,encS]
  refine aq.dec (fun h1=>?_) (fun h1=>?_)
  · simp (disch:=omega) only [↓wr,↓reduceIte,wq,ai,ah,ak,ae,af,ag,aj,isNil,Nat.reduceEqDiff,Nat.reduceAdd,Nat.reduceLT,Nat.reduceLeDiff,Int.reduceNeg,Int.reduceToNat,reduceCtorEq]
    simp[kX,show 40 < g.aC.length by omega]
  · simp (disch:=omega) only [↓wr,↓reduceIte,wq,ai,ah,ak,ae,af,ag,aj,isNil,Nat.reduceEqDiff,Nat.reduceAdd,Nat.reduceLT,Nat.reduceLeDiff,Int.reduceNeg,Int.reduceToNat,reduceCtorEq]
    refine aq.dec (fun h2=>?_) (fun h2=>?_)
    · simp (disch:=omega) only [↓wr,↓reduceIte,wq,ai,ah,ak,ae,af,ag,aj,isNil,Nat.reduceEqDiff,Nat.reduceAdd,Nat.reduceLT,Nat.reduceLeDiff,Int.reduceNeg,Int.reduceToNat,reduceCtorEq]
      simp[kX,show 40 < g.au.length by omega]
    · simp (disch:=omega) only [↓wr,↓reduceIte,wq,ai,ah,ak,ae,af,ag,aj,isNil,Nat.reduceEqDiff,Nat.reduceAdd,Nat.reduceLT,Nat.reduceLeDiff,Int.reduceNeg,Int.reduceToNat,reduceCtorEq]
      refine aq.dec (fun h3=>?_) (fun h3=>?_)
      · simp (disch:=omega) only [↓wr,↓reduceIte,wq,ai,ah,ak,ae,af,ag,aj,isNil,Nat.reduceEqDiff,Nat.reduceAdd,Nat.reduceLT,Nat.reduceLeDiff,Int.reduceNeg,Int.reduceToNat,reduceCtorEq]
        simp[kX,show 60 < g.rules.length by omega]
      · simp (disch:=omega) only [↓wr,↓reduceIte,wq,ai,ah,ak,ae,af,ag,aj,isNil,Nat.reduceEqDiff,Nat.reduceAdd,Nat.reduceLT,Nat.reduceLeDiff,Int.reduceNeg,Int.reduceToNat,reduceCtorEq]
        refine bo.intro (fun k T H'=>∃ i:Nat,i+k=g.rules.length∧(∀ r∈g.rules.take i,¬ 20 < r.right.length)∧T 1=.aK (ao g) 0∧T 3=gi i∧H'=H) g.rules.length ?_ ?_
        · exact ⟨0,by omega,by simp,rfl,rfl,rfl⟩
        · rintro k T H' ⟨i,hk,hi,e1,e3,rfl⟩
          simp (disch:=omega) only [↓wr,↓reduceIte,wq,ai,ah,ak,ae,af,ag,aj,isNil,Nat.reduceEqDiff,Nat.reduceAdd,Nat.reduceLT,Nat.reduceLeDiff,Int.reduceNeg,Int.reduceToNat,reduceCtorEq,j0,e1,e3,ao]
          refine aq.dec (fun hc=>?_) (fun hc=>?_)
          · have hg:g.rules[i]?=some (g.rules[i]'(by omega)):=List.getElem?_eq_getElem (by omega)
            simp (disch:=omega) only [↓wr,↓reduceIte,wq,ai,ah,ak,ae,af,ag,aj,isNil,Nat.reduceEqDiff,Nat.reduceAdd,Nat.reduceLT,Nat.reduceLeDiff,Int.reduceNeg,Int.reduceToNat,reduceCtorEq,e1,e3,ao,aJ,encI,List.getElem?_map,hg,Option.map_some]
            refine aq.dec (fun hd=>?_) (fun hd=>?_)
            · simp (disch:=omega) only [↓wr,↓reduceIte,wq,ai,ah,ak,ae,af,ag,aj,isNil,Nat.reduceEqDiff,Nat.reduceAdd,Nat.reduceLT,Nat.reduceLeDiff,Int.reduceNeg,Int.reduceToNat,reduceCtorEq]
              have:g.rules.any (fun r=>decide (20 < r.right.length))=true:=by
                simp only[List.any_eq_true,decide_eq_true_eq]
                exact ⟨g.rules[i]'(by omega),List.getElem_mem _,by omega⟩
              simp[kX,this]
            · simp (disch:=omega) only [↓wr,↓reduceIte,wq,ai,ah,ak,ae,af,ag,aj,isNil,Nat.reduceEqDiff,Nat.reduceAdd,Nat.reduceLT,Nat.reduceLeDiff,Int.reduceNeg,Int.reduceToNat,reduceCtorEq,e1,e3]
              refine ⟨k - 1,by omega,i+1,by omega,?_,rfl,rfl⟩
              intro r hr
              rw[List.take_add_one,hg] at hr
              simp only[Option.toList_some,List.mem_append,List.mem_singleton] at hr
              rcases hr with hr | rfl
              · exact hi r hr
              · omega
          · simp (disch:=omega) only [↓wr,↓reduceIte,wq,ai,ah,ak,ae,af,ag,aj,isNil,Nat.reduceEqDiff,Nat.reduceAdd,Nat.reduceLT,Nat.reduceLeDiff,Int.reduceNeg,Int.reduceToNat,reduceCtorEq,e1,e3]
            have e:i=g.rules.length:=by omega
            rw[List.take_of_length_le (by omega)] at hi
            have:g.rules.any (fun r=>decide (20 < r.right.length))=false:=by
              simp only[List.any_eq_false,decide_eq_true_eq]; exact hi
            simp only[kX,this]
            simp; omega
end Gv
set_option linter.unusedSimpArgs false
set_option maxRecDepth 100000
namespace Gv
open Go Go.Proofs
def cg (l:List Int) (is:List Bool) (aC:Bool):Bool:=l.all fun s=>if 0≤s then aC else is.getD (-1 - s).toNat false
def lB:SC :=
  .seq (.seq (al [aa 8 7,aa 9 0,aL 10 9,bb 11 .lss 8 10]) <|
  .cond (.tmp 11) (.skip) (.exit 0)) <|
  .seq (.block 1 (.seq (.region false [⟨none,[aa 14 0,aa 15 7,aN 16 1 14 15,an 17 16,ay 18 .geq 17 0,aa 19 18]⟩,⟨(some (19,true)),[aa 20 2,bL 21 20]⟩,⟨none,[br 22 19 21,aa 23 22]⟩,⟨(some (23,false)),[aa 24 0,aa 25 7,aN 26 1 24 25,an 27 26,ay 28 .lss 27 0,aa 29 28]⟩,⟨(some (29,true)),[aa 30 1,aa 31 0,aa 32 7,aN 33 1 31 32,an 34 33,((some 35),.op (.arith .sub (.val (.val (.int .i64 (-1)))) (.tmp 34))),aN 36 1 30 35,an 37 36,bL 38 37]⟩,⟨(some (23,false)),[br 39 29 38]⟩,⟨none,[bt 40 23 39]⟩]) <|
  .cond (.tmp 40) (.seq (al [aU 6 false]) <|
  .ret) (.skip))) <|
  al [aa 12 7,ay 13 .add 12 1,aa 7 13]
def np:SF:=⟨.seq (al [aU 6 false]) <|
  .seq (.seq (al [aH 7 0]) <|
  .block 0 (.loop lB)) <|
  .seq (al [aU 6 true]) <|
  .ret,
  [.tmp 6],41⟩
theorem rN:aX Tryz.prog 79 []=some np:=by kernel_rfl
theorem IU (l:List Int) (is:List Bool) (t:Bool) (hl:aP l) (hs:∀ s∈l,bF s∧(s < 0→-1 - s < is.length)) (H:View) :
    aD Tryz.prog 79 [encI l,bk is,gb t] H fun r H'=>r=gb (cg l is t)∧H'=H:=by
  refine aD.of mixed rN ?_
  unfold aP at hl
  simp (disch:=omega) only [↓wr,↓reduceIte,wq,ai,ah,ak,ae,af,ag,aj,isNil,Nat.reduceEqDiff,Nat.reduceAdd,Nat.reduceLT,Nat.reduceLeDiff,Int.reduceNeg,Int.reduceToNat,reduceCtorEq,np]
  refine bo.intro (fun k T H'=>∃ i:Nat,i+k=l.length∧cg (l.take i) is t=true∧T 0=encI l∧T 1=bk is∧T 2=gb t∧T 7=gi i∧H'=H) l.length ?_ ?_
  · exact ⟨0,by omega,by simp[cg],rfl,rfl,rfl,rfl,rfl⟩
  · rintro k T H' ⟨i,hk,hi,h0,h1,h2,h7,rfl⟩
    simp (disch:=omega) only [↓wr,↓reduceIte,wq,ai,ah,ak,ae,af,ag,aj,isNil,Nat.reduceEqDiff,Nat.reduceAdd,Nat.reduceLT,Nat.reduceLeDiff,Int.reduceNeg,Int.reduceToNat,reduceCtorEq,lB,h0,h1,h2,h7,encI]
    refine aq.dec (fun hc=>?_) (fun hc=>?_)
    · have hg:l[i]?=some (l[i]'(by omega)):=List.getElem?_eq_getElem (by omega)
      have hm:l[i]'(by omega)∈l:=List.getElem_mem _
      generalize l[i]'(by omega)=s at hg hm
      obtain ⟨⟨hs1,hs2⟩,hs3⟩:=hs s hm
      have hstep:cg (l.take (i+1)) is t=(if 0≤s then t else is.getD (-1 - s).toNat false):=by
        rw[List.take_add_one,hg]
        simp only[cg,Option.toList_some,List.all_append,List.all_cons,List.all_nil,Bool.and_true] at hi ⊢
        rw[hi,Bool.true_and]
      have hfail:(if 0≤s then t else is.getD (-1 - s).toNat false)=false→cg l is t=false:=by
        intro hb
        simp only[cg,List.all_eq_false]
        exact ⟨s,hm,by simpa using hb⟩
      simp (disch:=omega) only [↓wr,↓reduceIte,wq,ai,ah,ak,ae,af,ag,aj,isNil,Nat.reduceEqDiff,Nat.reduceAdd,Nat.reduceLT,Nat.reduceLeDiff,Int.reduceNeg,Int.reduceToNat,reduceCtorEq,h0,h1,h2,h7,encI,List.getElem?_map,hg,Option.map_some]
      refine aq.dec (fun hd=>?_) (fun hd=>?_)
      · rw[if_pos (show 0≤s from hd)] at hstep hfail
        cases t with
        | true =>
          simp (disch:=omega) only [↓wr,↓reduceIte,wq,ai,ah,ak,ae,af,ag,aj,isNil,Nat.reduceEqDiff,Nat.reduceAdd,Nat.reduceLT,Nat.reduceLeDiff,Int.reduceNeg,Int.reduceToNat,reduceCtorEq,h0,h1,h2,h7,encI,List.getElem?_map,hg,Option.map_some]
          refine aq.dec (fun hn=>absurd hn (by omega)) (fun _=>?_)
          simp (disch:=omega) only [↓wr,↓reduceIte,wq,ai,ah,ak,ae,af,ag,aj,isNil,Nat.reduceEqDiff,Nat.reduceAdd,Nat.reduceLT,Nat.reduceLeDiff,Int.reduceNeg,Int.reduceToNat,reduceCtorEq,h0,h1,h2,h7,encI,bk,List.getElem?_map,hg,Option.map_some]
          exact ⟨k - 1,by omega,i+1,by omega,hstep,rfl⟩
        | false =>
          simp (disch:=omega) only [↓wr,↓reduceIte,wq,ai,ah,ak,ae,af,ag,aj,isNil,Nat.reduceEqDiff,Nat.reduceAdd,Nat.reduceLT,Nat.reduceLeDiff,Int.reduceNeg,Int.reduceToNat,reduceCtorEq,h0,h1,h2,h7,encI,List.getElem?_map,hg,Option.map_some]
          rw[hfail rfl]
      · rw[if_neg (show ¬ 0≤s from hd)] at hstep hfail
        simp (disch:=omega) only [↓wr,↓reduceIte,wq,ai,ah,ak,ae,af,ag,aj,isNil,Nat.reduceEqDiff,Nat.reduceAdd,Nat.reduceLT,Nat.reduceLeDiff,Int.reduceNeg,Int.reduceToNat,reduceCtorEq,h0,h1,h2,h7,encI,List.getElem?_map,hg,Option.map_some]
        refine aq.dec (fun hn=>?_) (fun hn=>absurd hn (by omega))
        have hb:is[(-1 - s).toNat]?=some (is[(-1 - s).toNat]'(by omega)):=List.getElem?_eq_getElem (by omega)
        have hbd:is.getD (-1 - s).toNat false=is[(-1 - s).toNat]'(by omega):=by simp[List.getD_eq_getElem?_getD,hb]
        rw[hbd] at hstep hfail
        generalize is[(-1 - s).toNat]'(by omega)=b at hb hstep hfail
        simp (disch:=omega) only [↓wr,↓reduceIte,wq,ai,ah,ak,ae,af,ag,aj,isNil,Nat.reduceEqDiff,Nat.reduceAdd,Nat.reduceLT,Nat.reduceLeDiff,Int.reduceNeg,Int.reduceToNat,reduceCtorEq,h0,h1,h2,h7,encI,bk,List.getElem?_map,hg,hb,Option.map_some]
        cases b with
        | true =>
          simp (disch:=omega) only [↓wr,↓reduceIte,wq,ai,ah,ak,ae,af,ag,aj,isNil,Nat.reduceEqDiff,Nat.reduceAdd,Nat.reduceLT,Nat.reduceLeDiff,Int.reduceNeg,Int.reduceToNat,reduceCtorEq,h0,h1,h2,h7,encI,bk,List.getElem?_map,hg,hb,Option.map_some]
          exact ⟨k - 1,by omega,i+1,by omega,hstep,rfl⟩
        | false =>
          simp (disch:=omega) only [↓wr,↓reduceIte,wq,ai,ah,ak,ae,af,ag,aj,isNil,Nat.reduceEqDiff,Nat.reduceAdd,Nat.reduceLT,Nat.reduceLeDiff,Int.reduceNeg,Int.reduceToNat,reduceCtorEq,h0,h1,h2,h7,encI,bk,List.getElem?_map,hg,hb,Option.map_some]
          rw[hfail rfl]
    · simp (disch:=omega) only [↓wr,↓reduceIte,wq,ai,ah,ak,ae,af,ag,aj,isNil,Nat.reduceEqDiff,Nat.reduceAdd,Nat.reduceLT,Nat.reduceLeDiff,Int.reduceNeg,Int.reduceToNat,reduceCtorEq,h0,h1,h2,h7]
      have e:i=l.length:=by omega
      rw[List.take_of_length_le (by omega)] at hi
      rw[hi]
end Gv
