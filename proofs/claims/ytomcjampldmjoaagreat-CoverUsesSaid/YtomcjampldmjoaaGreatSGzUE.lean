/-
  Part 5 of the proof: what the machine does and what the functions answer.
  Conditions: those that each lemma names.
-/
import Derived.Test.YtomcjampldmjoaaGreatProg
import Derived.KernelRfl
import Derived.Test.YtomcjampldmjoaaGreatSGzUD
set_option linter.unusedSimpArgs false
set_option linter.unusedVariables false
namespace Gv
open Go
section
variable {P:Program} {n:Nat} {all:List Oper}
theorem Jh (h:aC):h.view h.length=.dead:=by simp[aC.view,List.getD_eq_getElem?_getD]
theorem Mo {o:Oper} {T:Env} {h:aC} {s:SI} {K:V→View→Prop} (hg:cq n all T o=some true) (hc:∀ v az rd,sI P s T h.view h.length=some (v,az,rd)→bM P o T h.view h.length=some (v,az,rd)) (hw:wI P s T h.view K) :
    ∃ v h' rd wr,cI P n all o T h v h' rd wr false∧gP h h'∧K v h'.view∧iO (pL P s) rd wr false h.length h'.length:=by
  obtain ⟨v,az,rd,hs,hk⟩:=Mj hw (Jh h)
  have ha:=hc _ _ _ hs
  have hlive:∀ id,id∈az.wr→h.view id≠.dead:=fun id hid=>(jV ha id hid).1
  refine ⟨v,az.apply h,rd,az.wr,.op hg ha,?_,?_,?_,?_⟩
  · intro id hid hd
    rw[iS hlive]
    cases az with
    | none=>exact hd
    | new o=>simp only[aU.view,View.set]; rw[if_neg (by omega)]; exact hd
    | eQ k o =>
      simp only[aU.view,View.set]
      rw[if_neg (by rintro rfl; exact hlive id (by simp[aU.wr]) hd)]; exact hd
    | bd k o =>
      simp only[aU.view,View.set]
      rw[if_neg (by omega)]
      split
      · rfl
      · exact hd
  · rw[iS (fun id hid=>(jV ha id hid).1)]; exact hk
  · intro h0
    obtain ⟨rfl,rfl⟩:=(oy hs).1 h0
    exact ⟨rfl,rfl,rfl,rfl⟩
  · intro h1
    rcases Nat.lt_or_ge (pL P s) 1 with h2 | h2
    · obtain ⟨rfl,rfl⟩:=(oy hs).1 (by omega); rfl
    · exact (oy hs).2 (by omega)
theorem DH {P:Program} {fr:Bool} {s:SI} {T:Env} {H:View} {n:Nat} {v:V} {az:aU} {rd:List Nat} (h:sI P (uA P fr s) T H n=some (v,az,rd)):sI P s T H n=some (v,az,rd):=by
  unfold uA at h
  split at h
  · split at h
    · exact Jl h
    · exact h
  · split at h
    · rename_i hc
      simp only[Bool.and_eq_true] at hc
      exact Lg hc.2 h
    · exact h
  · exact h
theorem vV (P:Program) (fz:Fz) (o:Oper) :
    (∃ f args ats,o.op=.call { callee:=.value f,args:=args,argTypes:=ats }∧kJ P fz o=.call (SX.of f) (args.toList.map SX.of)) ∨
    (∃ t x,o.op=.box t x∧kJ P fz o=.op (.gh (SX.of x)))∨(∃ s d x,o.op=.convert s d x∧qM P s d=true∧kJ P fz o=.op (.dW (SX.of x)))∨kJ P fz o=.op (uA P fz.fr (comp P o)):=by
  unfold kJ
  split
  · rename_i f args ats ho; exact .inl ⟨f,args,ats,ho,rfl⟩
  · rename_i t x ho
    by_cases hd:(match o.dst with | some d=>fz.l.contains d | none=>false)=true
    · exact .inr (.inl ⟨t,x,ho,if_pos hd⟩)
    · refine .inr (.inr (.inr ?_))
      refine (if_neg hd).trans ?_
      simp only[comp,ho,uA]
  · rename_i s d x ho
    by_cases hd:((match o.dst with | some d=>fz.l.contains d | none=>false) && qM P s d)=true
    · exact .inr (.inr (.inl ⟨s,d,x,ho,by simp only[Bool.and_eq_true] at hd; exact hd.2,if_pos hd⟩))
    · exact .inr (.inr (.inr (if_neg hd)))
  · exact .inr (.inr (.inr rfl))
theorem cI.len {o:Oper} {T:Env} {h h':aC} {v:V} {rd wr:List Nat} {call:Bool} (st:cI P n all o T h v h' rd wr call):h.length≤h'.length:=by
  cases st with
  | skip=>exact Nat.le_refl _
  | op _ _=>rename_i az _ _ ; cases az <;> simp[aU.apply]
  | gh _ _ _=>exact Nat.le_refl _
  | dW _ _ _ _ _ _=>exact Nat.le_refl _
  | call _ _ _ _ ha _ _=>exact ha.1
theorem Ls {fz:Fz} {o:Oper} {T:Env} {h:aC} {quiet:Bool} {K:V→View→Prop} (hg:cq n all T o=some true) (hw:wB P quiet (kJ P fz o) T h.view K) :
    ∃ v h' rd wr call,cI P n all o T h v h' rd wr call∧gP h h'∧K v h'.view∧iO (fU P quiet (kJ P fz o)) rd wr call h.length h'.length:=by
  rcases vV P fz o with ⟨f,args,ats,ho,hc⟩ | ⟨t,x,ho,hc⟩ | ⟨s,d,x,ho,hcv,hc⟩ | hc
  · rw[hc] at hw ⊢
    simp only[wB] at hw
    split at hw
    · rename_i g first cap hf
      rw[BW] at hw
      rw[SX.bV] at hf
      split at hw
      · rename_i hq
        obtain ⟨hok,hq'⟩:=hw
        obtain ⟨r,h',hr,hold,hk⟩:=hq' h rfl
        refine ⟨r,h',[],[],true,.call hg ho hf hok hr (fun id hid _=>hold id hid) (fun id hid=>by simp at hid),fun id hid hd=>(hold id hid).trans hd,hk,?_,?_⟩
        · intro h0; simp[fU,hq] at h0
        · intro _; rfl
      · rename_i hq
        obtain ⟨hok,hq'⟩:=hw
        obtain ⟨r,h',hr,hst,hk⟩:=hq' h rfl
        refine ⟨r,h',[],List.range h.length,true,.call hg ho hf hok hr (fun id hid hn=>?_) (fun id hid=>by simpa using hid),hst,hk,Kw (by simp[fU,hq])⟩
        exact absurd (by simpa using hid) hn
    · exact hw.elim
  · rw[hc] at hw ⊢
    simp only[wB,wI,SX.bV] at hw
    exact ⟨_,h,[],[],false,.gh hg ho hw.1,.refl _,hw.2,fun _=>⟨rfl,rfl,rfl,rfl⟩,fun _=>rfl⟩
  · rw[hc] at hw ⊢
    simp only[wB,wI,SX.bV] at hw
    obtain ⟨e,h1,h2,h3⟩:=vM hcv
    split at hw
    · rename_i st hx
      exact ⟨_,h,[],[],false,.dW hg ho h1 h2 h3 hx,.refl _,hw,fun _=>⟨rfl,rfl,rfl,rfl⟩,fun _=>rfl⟩
    · exact hw.elim
  · rw[hc] at hw ⊢
    obtain ⟨v,h',rd,wr,h1,h0,h2,h3⟩:=Mo (s:=uA P fz.fr (comp P o)) hg (fun v az rd hs=>Ez (DH hs)) hw
    exact ⟨v,h',rd,wr,false,h1,h0,h2,h3⟩
def dQ (P:Program) (quiet:Bool) (l:List SO) (recs:List Rec):Prop :=
  l.length=recs.length∧∀ (i:Nat) (s:SO) (r:Rec),l[i]?=some s→recs[i]?=some r→iO (fU P quiet s.b) r.rd r.wr r.call r.lo r.hi
theorem dQ.nil {quiet:Bool} : dQ P quiet [] []:=⟨rfl,fun i s r h=>by simp at h⟩
theorem dQ.cons {quiet:Bool} {l:List SO} {recs:List Rec} {s:SO} {r:Rec} (h:dQ P quiet l recs) (hr:iO (fU P quiet s.b) r.rd r.wr r.call r.lo r.hi):dQ P quiet (s :: l) (r :: recs):=by
  refine ⟨by simp[h.1],fun i s' r' hs hr'=>?_⟩
  cases i with
  | zero=>simp at hs hr'; subst hs hr'; exact hr
  | succ i=>exact h.2 i s' r' (by simpa using hs) (by simpa using hr')
theorem dQ.append {quiet:Bool} {l l':List SO} {recs recs':List Rec} (h:dQ P quiet l recs) (h':dQ P quiet l' recs'):dQ P quiet (l ++ l') (recs ++ recs'):=by
  refine ⟨by simp[h.1,h'.1],fun i s r hs hr=>?_⟩
  by_cases hi:i < l.length
  · rw[List.getElem?_append_left hi] at hs
    rw[List.getElem?_append_left (h.1 ▸ hi)] at hr
    exact h.2 i s r hs hr
  · rw[List.getElem?_append_right (by omega)] at hs
    rw[List.getElem?_append_right (by have:=h.1; omega)] at hr
    exact h'.2 (i - l.length) s r hs (by rw[h.1]; exact hr)
theorem pZ {fz:Fz} {o:Oper} {s:SO} (h:A1 P n all fz o=some s):nU n o=true∧s.dst=o.dst∧s.b=kJ P fz o∧qS n all o=some s.guard:=by
  unfold A1 at h
  split at h
  · rename_i hd
    simp only[Option.map_eq_some_iff] at h
    obtain ⟨g,hg,rfl⟩:=h
    exact ⟨hd,rfl,rfl,hg⟩
  · simp at h
theorem x3 {o:Oper} {T:Env} (h:qS n all o=some none):cq n all T o=some true:=by
  unfold qS at h
  unfold cq
  split at h
  · rename_i hg; rw[hg]
  · split at h
    · split at h
      · simp at h
      · simp at h
    · simp at h
theorem jf {o:Oper} {T:Env} {d:Nat} {want:Bool} (h:qS n all o=some (some (d,want))) :
    (∀ b,T d=.val (.bool b)→cq n all T o=some (b == want))∧(T d=.bg []→cq n all T o=some false):=by
  unfold qS at h
  unfold cq
  split at h
  · simp at h
  · rename_i j w hg
    rw[hg]
    split at h
    · rename_i d' hd
      split at h
      · rename_i hlt
        simp at h
        obtain ⟨rfl,rfl⟩:=h
        simp only[hd,hlt,if_true]
        exact ⟨fun b hb=>by rw[hb],fun hb=>by rw[hb]⟩
      · simp at h
    · simp at h
theorem iW {fz:Fz} {os:List Oper} (h:cD P n all fz os=some []):os=[]:=by
  cases os with
  | nil=>rfl
  | cons o r =>
    simp only[cD] at h
    split at h <;> simp at h
theorem jE {fz:Fz} {os:List Oper} {s:SO} {l:List SO} (h:cD P n all fz os=some (s :: l)):∃ o r,os=o :: r∧A1 P n all fz o=some s∧cD P n all fz r=some l:=by
  cases os with
  | nil=>simp[cD] at h
  | cons o r =>
    simp only[cD] at h
    split at h
    · rename_i s' l' h1 h2
      simp at h
      obtain ⟨rfl,rfl⟩:=h
      exact ⟨o,r,rfl,h1,h2⟩
    · simp at h
theorem nC {fz:Fz} : ∀ {l l':List SO} {os:List Oper},cD P n all fz os=some (l ++ l')→∃ a b,os=a ++ b∧cD P n all fz a=some l∧cD P n all fz b=some l'
  | [],l',os,h=>⟨[],os,rfl,rfl,h⟩
  | s :: l,l',os,h=>by
    obtain ⟨o,r,rfl,h1,h2⟩:=jE h
    obtain ⟨a,b,rfl,h3,h4⟩:=nC h2
    exact ⟨o :: a,b,rfl,by simp[cD,h1,h3],h4⟩
theorem Tr.append {a b:List Oper} {T T1 T2:Env} {h h1 h2:aC} {r1 r2:List Rec} (x:Tr P n all a T h r1 T1 h1) (y:Tr P n all b T1 h1 r2 T2 h2):Tr P n all (a ++ b) T h (r1 ++ r2) T2 h2:=by
  induction x with
  | nil=>exact y
  | cons st hd _ ih=>exact .cons st hd (ih y)
theorem wY {T:Env} {d:Nat} {v:V} (h:T d=v):T.put (some d) v=T:=by
  funext t
  simp only[Env.put]
  split
  · rename_i e; subst e; exact h.symm
  · rfl
theorem CQ {fz:Fz} {quiet:Bool} {K:Env→View→Prop} (g:Option (Nat × Bool)):∀ (l:List (Option Nat × SB)) (os:List Oper) (T:Env) (h:aC),
    cD P n all fz os=some (l.map fun (d,b)=>⟨d,g,b⟩)→(∀ d w,g=some (d,w)→T d=.val (.bool w)∧(l.all fun x=>x.1 != some d)=true)→uM P quiet l T h.view K →
    ∃ recs T' h',Tr P n all os T h recs T' h'∧(gP h h'∧h.length≤h'.length)∧K T' h'.view∧dQ P quiet (l.map fun (d,b)=>⟨d,g,b⟩) recs
  | [],os,T,h,hc,hg,hw=>by
    have:=iW hc; subst this
    exact ⟨[],T,h,.nil,⟨.refl _,Nat.le_refl _⟩,hw,.nil⟩
  | (d,b) :: l,os,T,h,hc,hg,hw=>by
    obtain ⟨o,r,rfl,h1,h2⟩:=jE hc
    obtain ⟨hd,hd1,hb1,hg1⟩:=pZ h1
    simp only at hd1 hb1 hg1
    have hgv:cq n all T o=some true:=by
      cases g with
      | none=>exact x3 hg1
      | some p =>
        obtain ⟨d',w⟩:=p
        have:=(jf (T:=T) hg1).1 w (hg d' w rfl).1
        rw[this]; simp
    simp only[uM] at hw
    rw[hb1] at hw
    obtain ⟨v,h',rd,wr,call,st,hst,hk,hl⟩:=Ls hgv hw
    obtain ⟨recs,T',h'',tr,hst',hk',hro⟩:=CQ g l r (T.put d v) h' h2 (fun d' w e=>by
      have:=hg d' w e
      simp only[List.all_cons,Bool.and_eq_true,bne_iff_ne,ne_eq] at this
      refine ⟨?_,this.2.2⟩
      rw[← this.1]
      cases d with
      | none=>rfl
      | some t=>simp only[Env.put]; rw[if_neg]; intro e; subst e; exact this.2.1 rfl) hk
    rw[hd1] at tr
    have hlen:=st.len
    exact ⟨_,T',h'',.cons st hd tr,⟨hst.trans hst'.1 hlen,Nat.le_trans hlen hst'.2⟩,hk',hro.cons (by rw[hb1]; exact hl)⟩
theorem y1 {fz:Fz} {quiet:Bool} (d:Nat) (w:Bool) (h:aC):∀ (l:List (Option Nat × SB)) (os:List Oper) (T:Env),
    cD P n all fz os=some (l.map fun (d',b)=>⟨d',some (d,w),b⟩)→(T d=.val (.bool !w)∨T d=.bg [])→(l.all fun x=>x.1 != some d)=true →
    ∃ recs,Tr P n all os T h recs (fy l T) h∧dQ P quiet (l.map fun (d',b)=>⟨d',some (d,w),b⟩) recs
  | [],os,T,hc,hd,hl=>by
    have:=iW hc; subst this
    exact ⟨[],.nil,.nil⟩
  | (d',b) :: l,os,T,hc,hd,hl=>by
    obtain ⟨o,r,rfl,h1,h2⟩:=jE hc
    obtain ⟨hd0,hd1,hb1,hg1⟩:=pZ h1
    simp only at hd1 hb1 hg1
    have hgv:cq n all T o=some false:=by
      rcases hd with hd | hd
      · rw[(jf (T:=T) hg1).1 _ hd]; cases w <;> rfl
      · exact (jf (T:=T) hg1).2 hd
    simp only[List.all_cons,Bool.and_eq_true,bne_iff_ne,ne_eq] at hl
    obtain ⟨recs,tr,hro⟩:=y1 d w h l r (T.put d' (.bg [])) h2 (by
      have:(T.put d' (.bg [])) d=T d:=by
        cases d' with
        | none=>rfl
        | some t=>simp only[Env.put]; rw[if_neg]; intro e; subst e; exact hl.1 rfl
      rw[this]; exact hd) hl.2
    rw[hd1] at tr
    refine ⟨_,?_,hro.cons (r:=⟨[],[],false,h.length,h.length⟩) ⟨fun _=>⟨rfl,rfl,rfl,rfl⟩,fun _=>rfl⟩⟩
    have:=Tr.cons (.skip hgv) hd0 tr
    rw[fy,hd1]
    exact this
theorem Mi {fz:Fz} {quiet:Bool} {K:Env→View→Prop} {g:SG} {os:List Oper} {T:Env} {h:aC} (hc:cD P n all fz os=some g.flat) (hok:pS g=true) (hw:wG P quiet g T h.view K) :
    ∃ recs T' h',Tr P n all os T h recs T' h'∧(gP h h'∧h.length≤h'.length)∧K T' h'.view∧dQ P quiet g.flat recs:=by
  unfold wG at hw
  unfold SG.flat at hc ⊢
  unfold pS at hok
  split at hw
  · rename_i hg
    rw[hg] at hc ⊢
    exact CQ none g.ops os T h hc (fun d w e=>by simp at e) hw
  · rename_i d want hg
    rw[hg] at hc hok ⊢
    simp only at hok
    split at hw
    · rename_i b hb
      by_cases e:b=want
      · subst e
        have:=hw.1 rfl
        rw[wY hb] at this
        exact CQ (some (d,b)) g.ops os T h hc (fun d' w e=>by simp at e; obtain ⟨rfl,rfl⟩:=e; exact ⟨hb,hok⟩) this
      · have e':b = !want:=by cases b <;> cases want <;> simp_all
        have:=hw.2 e'
        subst e'
        rw[wY hb] at this
        obtain ⟨recs,tr,hro⟩:=y1 (quiet:=quiet) d want h g.ops os T hc (.inl hb) hok
        exact ⟨recs,_,h,tr,⟨.refl _,Nat.le_refl _⟩,this,hro⟩
    · rename_i hb
      obtain ⟨recs,tr,hro⟩:=y1 (quiet:=quiet) d want h g.ops os T hc (.inr hb) hok
      exact ⟨recs,_,h,tr,⟨.refl _,Nat.le_refl _⟩,hw,hro⟩
    · exact hw.elim
theorem uq {fz:Fz} {quiet:Bool} {K:Env→View→Prop} : ∀ (gs:List SG) (os:List Oper) (T:Env) (h:aC),cD P n all fz os=some (hZ gs)→gs.all pS=true→tb P quiet gs T h.view K →
    ∃ recs T' h',Tr P n all os T h recs T' h'∧(gP h h'∧h.length≤h'.length)∧K T' h'.view∧dQ P quiet (hZ gs) recs
  | [],os,T,h,hc,_,hw=>by
    have:=iW hc; subst this
    exact ⟨[],T,h,.nil,⟨.refl _,Nat.le_refl _⟩,hw,.nil⟩
  | g :: gs,os,T,h,hc,hok,hw=>by
    simp only[hZ,List.map_cons,List.flatten_cons] at hc ⊢
    simp only[List.all_cons,Bool.and_eq_true] at hok
    obtain ⟨a,b,rfl,h1,h2⟩:=nC hc
    obtain ⟨r1,T1,h1',tr1,st1,hk1,ro1⟩:=Mi h1 hok.1 hw
    obtain ⟨r2,T2,h2',tr2,st2,hk2,ro2⟩:=uq gs b T1 h1' h2 hok.2 hk1
    exact ⟨_,T2,h2',tr1.append tr2,⟨st1.1.trans st2.1 st1.2,Nat.le_trans st1.2 st2.2⟩,hk2,ro1.append ro2⟩
theorem Tr.at_ {os:List Oper} {T T':Env} {h h':aC} {recs:List Rec} (tr:Tr P n all os T h recs T' h'):∀ (i:Nat) (o:Oper),os[i]?=some o →
    ∃ T1 h1 v h2 rd wr call recs2,recs[i]?=some ⟨rd,wr,call,h1.length,h2.length⟩∧cI P n all o T1 h1 v h2 rd wr call∧h.length≤h1.length∧Tr P n all (os.drop (i+1)) (T1.put o.dst v) h2 recs2 T' h'∧(∀ m,recs2[m]?=recs[i+1+m]?) ∧
      (∀ t,(∀ o'∈os.take i,o'.dst≠some t)→T1 t=T t):=by
  induction tr with
  | nil=>intro i o hi; simp at hi
  | @cons o0 rest T T' h h1 h' v rd wr call recs st hd tr ih =>
    intro i o hi
    cases i with
    | zero =>
      simp at hi; subst hi
      exact ⟨T,h,v,h1,rd,wr,call,recs,rfl,st,Nat.le_refl _,by simpa using tr,fun m=>by rw[show 0+1+m=m+1 by omega,List.getElem?_cons_succ],fun t _=>rfl⟩
    | succ i =>
      simp at hi
      obtain ⟨T1,h2,v2,h3,rd2,LW,call2,recs2,e1,e2,e3,e4,e5,e6⟩:=ih i o hi
      have hlen:h.length≤h1.length:=by
        cases st with
        | skip=>exact Nat.le_refl _
        | op _ _=>rename_i az _ _; cases az <;> simp[aU.apply]
        | gh _ _ _=>exact Nat.le_refl _
        | dW _ _ _ _ _ _=>exact Nat.le_refl _
        | call _ _ _ _ ha _ _=>exact ha.1
      refine ⟨T1,h2,v2,h3,rd2,LW,call2,recs2,by simpa using e1,e2,Nat.le_trans hlen e3,by simpa using e4,fun m=>?_,fun t ht=>?_⟩
      · rw[e5,show i+1+1+m=(i+1+m)+1 by omega,List.getElem?_cons_succ]
      · simp only[List.take_succ_cons,List.mem_cons] at ht
        rw[e6 t fun o' ho'=>ht o' (.inr ho')]
        have:=ht o0 (.inl rfl)
        cases hdst:o0.dst with
        | none=>rfl
        | some d=>simp only[Env.put]; rw[if_neg]; rintro rfl; exact this hdst
theorem E0 {o:Oper} {T:Env} {h h':aC} {v:V} {rd wr:List Nat} {call:Bool} (st:cI P n all o T h v h' rd wr call) (ha:wm o=true) (hg:o.guard=none):v=.ptr h.length 0 0:=by
  unfold wm at ha
  have hgv:cq n all T o=some true:=by unfold cq; rw[hg]
  cases st with
  | skip hs=>rw[hgv] at hs; simp at hs
  | op _ hop =>
    split at ha
    · rename_i e ho
      simp only[bM,ho] at hop
      split at hop
      · unfold jy at hop
        split at hop
        · simp at hop; exact hop.1.symm
        · simp at hop
      · simp at hop
    · simp at ha
  | gh _ ho _=>rw[ho] at ha; simp at ha
  | dW _ ho _ _ _ _=>rw[ho] at ha; simp at ha
  | call _ ho _ _ _ _ _=>rw[ho] at ha; simp at ha
theorem Fb {o:Oper} {T:Env} {h h':aC} {v:V} {rd wr:List Nat} {call:Bool} {t id i j:Nat} (st:cI P n all o T h v h' rd wr call) (ha:iE o=some t) (ht:T t=.ptr id i j):wr=[id]∧call=false:=by
  unfold iE at ha
  split at ha
  · rename_i ty t' x ho hg
    simp at ha; subst ha
    have hgv:cq n all T o=some true:=by unfold cq; rw[hg]
    cases st with
    | skip hs=>rw[hgv] at hs; simp at hs
    | op _ hop =>
      have e1:ev T (.tmp t')=.ptr id i j:=ht
      simp only[bM,ho,e1,mQ] at hop
      split at hop
      · split at hop
        · simp only[Option.some.injEq,Prod.mk.injEq] at hop
          obtain ⟨_,he,_⟩:=hop
          rw[← he]; exact ⟨rfl,rfl⟩
        · simp at hop
      · simp at hop
    | gh _ ho' _=>rw[ho] at ho'; simp at ho'
    | dW _ ho' _ _ _ _=>rw[ho] at ho'; simp at ho'
    | call _ ho' _ _ _ _ _=>rw[ho] at ho'; simp at ho'
  · simp at ha
theorem Io {o:Oper} {T:Env} {h h':aC} {v:V} {rd wr:List Nat} {call:Bool} (st:cI P n all o T h v h' rd wr call) (ha:y6 o=true):wr=[]∧call=false∧∀ id,id∈rd→id < h.length:=by
  unfold y6 at ha
  cases st with
  | skip _=>exact ⟨rfl,rfl,fun id hid=>by simp at hid⟩
  | op _ hop =>
    split at ha
    · rename_i e a ho
      simp only[bM,ho,jN] at hop
      split at hop
      · rename_i id i j hx
        split at hop
        · rename_i z es hH
          split at hop
          · simp only[Option.map_eq_some_iff] at hop
            obtain ⟨_,_,hop⟩:=hop
            simp at hop
            obtain ⟨_,rfl,rfl⟩:=hop
            refine ⟨rfl,rfl,fun id' hid=>?_⟩
            simp at hid; subst hid
            exact g8 (by rw[hH]; simp)
          · simp at hop
        · simp at hop
      · simp only[Option.map_eq_some_iff] at hop
        obtain ⟨_,_,hop⟩:=hop
        simp at hop
        obtain ⟨_,rfl,rfl⟩:=hop
        exact ⟨rfl,rfl,fun id hid=>by simp at hid⟩
      · simp at hop
    · simp at ha
  | gh _ ho _=>rw[ho] at ha; simp at ha
  | dW _ ho _ _ _ _=>rw[ho] at ha; simp at ha
  | call _ ho _ _ _ _ _=>rw[ho] at ha; simp at ha
theorem sr {T T':Env} {h h':aC} {recs:List Rec} (tr:Tr P n all all T h recs T' h') {i k:Nat} {a b:Rec} (hp:vg all i k=true) (ha:recs[i]?=some a) (hb:recs[k]?=some b):kQ a b:=by
  unfold vg at hp
  split at hp
  · rename_i oa ob hoa hob
    rw[Bool.and_eq_true] at hp
    obtain ⟨hl,hp⟩:=hp
    split at hp
    · rename_i t hst
      rw[List.any_eq_true] at hp
      obtain ⟨j,hj,hp⟩:=hp
      rw[List.mem_range] at hj
      rw[Bool.and_eq_true,decide_eq_true_eq] at hp
      obtain ⟨hij,hown⟩:=hp
      unfold Ma at hown
      split at hown
      · rename_i oj hoj
        simp only[Bool.and_eq_true,beq_iff_eq,List.all_eq_true,bne_iff_ne,ne_eq,Option.isNone_iff_eq_none] at hown
        obtain ⟨⟨⟨w1,w2⟩,w3⟩,w4⟩:=hown
        obtain ⟨T1,h1,v1,h2,rd1,MG,c1,recs1,e1,e2,e3,e4,e5,_⟩:=tr.at_ i oa hoa
        obtain ⟨Tj,hj1,vj,hj2,rdj,wrj,cj,recsj,f1,f2,f3,f4,f5,_⟩:=e4.at_ (j - (i+1)) oj (by rw[List.getElem?_drop,show i+1+(j - (i+1))=j by omega]; exact hoj)
        have hdr:(all.drop (i+1)).drop (j - (i+1)+1)=all.drop (j+1):=by rw[List.drop_drop]; congr 1; omega
        rw[hdr] at f4
        obtain ⟨Tk,hk1,vk,hk2,rdk,wrk,ck,recsk,g1,g2,g3,_,_,g6⟩:=f4.at_ (k - (j+1)) ob (by rw[List.getElem?_drop,show j+1+(k - (j+1))=k by omega]; exact hob)
        rw[ha] at e1
        have hae:=(Option.some.inj e1)
        have hbe:recs[k]?=some ⟨rdk,wrk,ck,hk1.length,hk2.length⟩:=by
          rw[← g1,f5,e5]; congr 1; omega
        rw[hb] at hbe
        have hbe:=Option.some.inj hbe
        have hv:=E0 f2 w3 w2
        have hTk:Tk t=.ptr hj1.length 0 0:=by
          rw[g6 t fun o' ho'=>w4 o' ho',w1,hv]
          simp[Env.put]
        obtain ⟨s1,s2⟩:=Fb g2 hst hTk
        obtain ⟨l1,l2,l3⟩:=Io e2 hl
        rw[hae,hbe]
        have hlen:h1.length≤h2.length:=by
          cases e2 with
          | skip=>exact Nat.le_refl _
          | op _ _=>rename_i az _ _; cases az <;> simp[aU.apply]
          | gh _ _ _=>exact Nat.le_refl _
          | dW _ _ _ _ _ _=>exact Nat.le_refl _
          | call _ _ _ _ ha _ _=>exact ha.1
        refine ⟨fun id hid=>by simp[l1] at hid,fun id hid=>?_,fun hc=>by simp[l2] at hc,fun _=>l1,fun id hid=>?_⟩
        · simp only[s1,List.mem_singleton] at hid
          subst hid
          intro hr
          have:=l3 _ hr
          omega
        · simp only[s1,List.mem_singleton] at hid
          subst hid
          simp only
          omega
      · simp at hown
    · simp at hp
  · simp at hp
theorem JQ {ls:List Nat} {recs:List Rec} {T T':Env} {hp hp':aC} (tr:Tr P n all all T hp recs T' hp') (h:A9 all ls=true) (hl:ls.length=recs.length) (hr:∀ (i x:Nat) (r:Rec),ls[i]?=some x→recs[i]?=some r→iO x r.rd r.wr r.call r.lo r.hi):qt all recs:=by
  intro i k a b hik ha hb ho
  have hi:i < recs.length:=(List.getElem?_eq_some_iff.1 ha).1
  have hk:k < recs.length:=(List.getElem?_eq_some_iff.1 hb).1
  unfold A9 at h
  simp only[List.all_eq_true] at h
  have h1:=h (ls[i]'(by omega),i) (by rw[List.mem_zipIdx_iff_getElem?]; simp[List.getElem?_eq_getElem (show i < ls.length by omega)])
    (ls[k]'(by omega),k) (by rw[List.mem_zipIdx_iff_getElem?]; simp[List.getElem?_eq_getElem (show k < ls.length by omega)])
  have la:=hr i _ a (List.getElem?_eq_getElem (by omega)) ha
  have lb:=hr k _ b (List.getElem?_eq_getElem (by omega)) hb
  simp only[hik,decide_true,Bool.not_true,ho,Bool.false_or,Bool.or_eq_true,beq_iff_eq,Bool.and_eq_true,decide_eq_true_eq] at h1
  rcases h1 with ((h1 | h1) | h1) | h1
  · obtain ⟨e1,e2,e3,e4⟩:=la.1 h1
    exact ⟨fun id hid=>by simp[e2] at hid,fun id _=>by simp[e1],fun hc=>by simp[e3] at hc,fun _=>e2,fun id _ hx=>by omega⟩
  · obtain ⟨e1,e2,e3,e4⟩:=lb.1 h1
    exact ⟨fun id _=>by simp[e1],fun id hid=>by simp[e2] at hid,fun _=>e2,fun hc=>by simp[e3] at hc,fun id hid=>by simp[e2] at hid⟩
  · have e1:=la.2 h1.1
    have e2:=lb.2 h1.2
    exact ⟨fun id hid=>by simp[e1] at hid,fun id hid=>by simp[e2] at hid,fun _=>e2,fun _=>e1,fun id hid=>by simp[e2] at hid⟩
  · exact sr tr h1 ha hb
theorem Tr.keep {os:List Oper} {T T':Env} {h h':aC} {recs:List Rec} (tr:Tr P n all os T h recs T' h') {t:Nat} (ht:∀ o∈os,o.dst≠some t):T' t=T t:=by
  induction tr with
  | nil=>rfl
  | @cons o0 rest T T' h h1 h' v rd wr call recs st hd tr ih =>
    rw[ih fun o ho=>ht o (by simp[ho])]
    have:=ht o0 (by simp)
    cases hdst:o0.dst with
    | none=>rfl
    | some d=>simp only[Env.put]; rw[if_neg]; rintro rfl; exact this hdst
theorem sw {o:Oper} {T:Env} {h h':aC} {v:V} {rd wr:List Nat} {call:Bool} {t:Nat} (st:cI P n all o T h v h' rd wr call) (ha:ot o=some t):wr=[]∧call=false∧h'.length=h.length∧∀ id,id∈rd→∃ i j,T t=.ptr id i j:=by
  unfold ot at ha
  split at ha
  · rename_i e t' ho
    simp at ha; subst ha
    cases st with
    | skip _=>exact ⟨rfl,rfl,rfl,fun id hid=>by simp at hid⟩
    | op _ hop =>
      simp only[bM,ho,jN] at hop
      split at hop
      · rename_i id i j hx
        split at hop
        · split at hop
          · simp only[Option.map_eq_some_iff] at hop
            obtain ⟨_,_,hop⟩:=hop
            simp at hop
            obtain ⟨_,rfl,rfl⟩:=hop
            refine ⟨rfl,rfl,rfl,fun id' hid=>?_⟩
            simp at hid; subst hid
            exact ⟨i,j,hx⟩
          · simp at hop
        · simp at hop
      · simp only[Option.map_eq_some_iff] at hop
        obtain ⟨_,_,hop⟩:=hop
        simp at hop
        obtain ⟨_,rfl,rfl⟩:=hop
        exact ⟨rfl,rfl,rfl,fun id hid=>by simp at hid⟩
      · simp at hop
    | gh _ ho' _=>rw[ho] at ho'; simp at ho'
    | dW _ ho' _ _ _ _=>rw[ho] at ho'; simp at ho'
    | call _ ho' _ _ _ _ _=>rw[ho] at ho'; simp at ho'
  · simp at ha
theorem rQ {i t:Nat} (h:stays all i t=true):∀ o∈all.drop i,o.dst≠some t:=by
  intro o ho
  have:=List.all_eq_true.1 h o ho
  simpa using this
theorem wx {aps:List (Nat × Nat)} {T:Env} {K:Prop} (hA:uY aps T K):∀ p∈aps,fF (T p.1) (T p.2):=by
  induction aps with
  | nil=>intro p hp; simp at hp
  | cons q l ih =>
    intro p hp
    rcases List.mem_cons.1 hp with rfl | hp
    · exact hA.1
    · exact ih hA.2 p hp
theorem uY.rest {aps:List (Nat × Nat)} {T:Env} {K:Prop} (hA:uY aps T K):K:=by
  induction aps with
  | nil=>exact hA
  | cons q l ih=>exact ih hA.2
theorem mR {T T':Env} {h h':aC} {recs:List Rec} (tr:Tr P n all all T h recs T' h') {i t:Nat} {o:Oper} (ho:all[i]?=some o) (hs:stays all i t=true) {r:Rec} (hr:recs[i]?=some r) :
    ∃ T1 h1 v h2,cI P n all o T1 h1 v h2 r.rd r.wr r.call∧r.lo=h1.length∧r.hi=h2.length∧T1 t=T' t:=by
  obtain ⟨T1,h1,v,h2,rd,wr,call,recs2,e1,e2,e3,e4,e5,e6⟩:=tr.at_ i o ho
  rw[hr] at e1
  have e1:=Option.some.inj e1
  subst e1
  refine ⟨T1,h1,v,h2,e2,rfl,rfl,?_⟩
  have hk:=rQ hs
  have hi:i < all.length:=(List.getElem?_eq_some_iff.1 ho).1
  have ho':all[i]=o:=(List.getElem?_eq_some_iff.1 ho).2
  rw[List.drop_eq_getElem_cons hi,ho'] at hk
  rw[e4.keep fun o' ho'=>hk o' (by simp[ho'])]
  have:=hk o (by simp)
  cases hdst:o.dst with
  | none=>rfl
  | some d=>simp only[Env.put]; rw[if_neg]; rintro rfl; exact this hdst
theorem u5 {i a b j c d:Nat} (h:fF (.ptr i a b) (.ptr j c d)):i≠j:=h
theorem xe {i a b j c d e:Nat} (h:fF (.ptr i a b) (.sl j c d e)):i≠j:=h
theorem n0 {o:Oper} {T:Env} {h h':aC} {v:V} {rd wr:List Nat} {call:Bool} {t:Nat} (st:cI P n all o T h v h' rd wr call) (ha:l9 o=some t) :
    call=false∧∀ id,id∈wr→(∃ i j,T t=.ptr id i j)∨∃ a b c,T t=.sl id a b c:=by
  unfold l9 at ha
  split at ha
  · rename_i t' hs
    simp at ha; subst ha
    unfold iE at hs
    split at hs
    · rename_i ty t2 x ho hg
      simp at hs; subst hs
      cases st with
      | skip _=>exact ⟨rfl,fun id hid=>by simp at hid⟩
      | op _ hop =>
        simp only[bM,ho,mQ] at hop
        split at hop
        · rename_i id i j hx
          split at hop
          · split at hop
            · simp only[Option.some.injEq,Prod.mk.injEq] at hop
              obtain ⟨_,he,_⟩:=hop
              rw[← he]
              refine ⟨rfl,fun id' hid=>?_⟩
              simp[aU.wr] at hid; subst hid
              exact .inl ⟨i,j,hx⟩
            · simp at hop
          · simp at hop
        · simp at hop
      | gh _ ho' _=>rw[ho] at ho'; simp at ho'
      | dW _ ho' _ _ _ _=>rw[ho] at ho'; simp at ho'
      | call _ ho' _ _ _ _ _=>rw[ho] at ho'; simp at ho'
    · simp at hs
  · unfold GW at ha
    split at ha
    · rename_i args ats ho hg
      split at ha
      · rename_i t2 y hl
        simp at ha; subst ha
        cases st with
        | skip _=>exact ⟨rfl,fun id hid=>by simp at hid⟩
        | op _ hop =>
          simp only[bM,ho,hl] at hop
          split at hop
          · unfold j8 at hop
            split at hop
            · split at hop
              · simp at hop
              · split at hop
                · split at hop <;> first | (simp only[Option.some.injEq,Prod.mk.injEq] at hop; obtain ⟨_,he,_⟩:=hop; rw[← he]; exact ⟨rfl,fun id' hid=>by simp[aU.wr] at hid⟩) | simp at hop
                · split at hop
                  · simp at hop
                  · split at hop
                    · split at hop
                      · simp only[Option.some.injEq,Prod.mk.injEq] at hop
                        obtain ⟨_,he,_⟩:=hop
                        rw[← he]; exact ⟨rfl,fun id' hid=>by simp[aU.wr] at hid⟩
                      · simp at hop
                    · rename_i id off len esz hx
                      split at hop
                      · split at hop
                        · simp only[Option.some.injEq,Prod.mk.injEq] at hop
                          obtain ⟨_,he,_⟩:=hop
                          rw[← he]
                          refine ⟨rfl,fun id' hid=>?_⟩
                          simp[aU.wr] at hid; subst hid
                          exact .inr ⟨off,len,esz,hx⟩
                        · simp at hop
                      · simp at hop
                    · simp at hop
            · simp at hop
          · split at hop
            · unfold oo at hop
              repeat' (split at hop)
              all_goals first | (simp only[Option.some.injEq,Prod.mk.injEq] at hop; obtain ⟨_,he,_⟩:=hop; rw[← he]; exact ⟨rfl,fun id' hid=>by simp[aU.wr] at hid⟩) | simp at hop
            · simp at hop
        | gh _ ho' _=>rw[ho] at ho'; simp at ho'
        | dW _ ho' _ _ _ _=>rw[ho] at ho'; simp at ho'
        | call _ ho' _ _ _ _ _=>rw[ho] at ho'; simp at ho'
      · simp at ha
    · simp at ha
theorem JP {o:Oper} {T:Env} {h h':aC} {v:V} {rd wr:List Nat} {call:Bool} (st:cI P n all o T h v h' rd wr call) (ha:Be o=true):rd=[]∧wr=[]∧call=false:=by
  unfold Be at ha
  cases st with
  | skip _=>exact ⟨rfl,rfl,rfl⟩
  | op _ hop =>
    split at ha
    · rename_i ty len parts ho
      simp only[bM,ho,eV] at hop
      have key:∀ {x:Option (V × aU × List Nat)} {e:aU},x=some (v,e,rd)→(∀ y,x=some y→y.2.1.wr=[]∧y.2.2=[])→rd=[]∧e.wr=[]:=fun hx hy=>⟨(hy _ hx).2,(hy _ hx).1⟩
      obtain ⟨k1,k2⟩:=key hop (by
        intro y hy
        repeat' (first | (split at hy) | (simp only[Option.some.injEq] at hy; subst hy; exact ⟨rfl,rfl⟩) | (simp at hy; done)))
      exact ⟨k1,k2,rfl⟩
    · rename_i e ho
      simp only[bM,ho] at hop
      split at hop
      · unfold jy at hop
        split at hop
        · simp only[Option.some.injEq,Prod.mk.injEq] at hop
          obtain ⟨_,he,hr⟩:=hop
          rw[← he,← hr]; exact ⟨rfl,rfl,rfl⟩
        · simp at hop
      · simp at hop
    · simp at ha
  | gh _ ho _=>rw[ho] at ha; simp at ha
  | dW _ ho _ _ _ _=>rw[ho] at ha; simp at ha
  | call _ ho _ _ _ _ _=>rw[ho] at ha; simp at ha
theorem rH {o:Oper} {t:Nat} (h:iE o=some t):l9 o=some t:=by unfold l9; rw[h]
theorem GN {T T':Env} {h h':aC} {recs:List Rec} (tr:Tr P n all all T h recs T' h') {i k:Nat} {a b:Rec} {p:Nat × Nat} (hp:xM all i k=some p) (hA:fF (T' p.1) (T' p.2)) (ha:recs[i]?=some a) (hb:recs[k]?=some b):kQ a b:=by
  unfold xM at hp
  split at hp
  · rename_i oa ob hoa hob
    split at hp
    · rename_i s t hl hs
      split at hp
      · rename_i hst
        simp only[Bool.and_eq_true] at hst
        simp at hp; subst hp
        obtain ⟨Ta,ha1,va,ha2,sa,la1,la2,ea⟩:=mR tr hoa hst.1 ha
        obtain ⟨Tb,hb1,vb,hb2,sb,_,_,eb⟩:=mR tr hob hst.2 hb
        obtain ⟨l1,l2,l3,l4⟩:=sw sa hl
        have hA:fF (Ta s) (Tb t):=by rw[ea,eb]; exact hA
        refine ⟨fun id hid=>by simp[l1] at hid,fun id hid hr=>?_,fun hc=>by simp[l2] at hc,fun _=>l1,fun id _ hx=>by omega⟩
        obtain ⟨i',j',e1⟩:=l4 id hr
        rw[e1] at hA
        rcases (n0 sb (rH hs)).2 id hid with ⟨c,d,hy⟩ | ⟨c,d,e,hy⟩
        · rw[hy] at hA; exact u5 hA rfl
        · rw[hy] at hA; exact xe hA rfl
      · simp at hp
    · split at hp
      · rename_i t s hs hl
        split at hp
        · rename_i hst
          simp only[Bool.and_eq_true] at hst
          simp at hp; subst hp
          obtain ⟨Ta,ha1,va,ha2,sa,la1,la2,ea⟩:=mR tr hoa hst.1 ha
          obtain ⟨Tb,hb1,vb,hb2,sb,lb1,lb2,eb⟩:=mR tr hob hst.2 hb
          obtain ⟨l1,l2,l3,l4⟩:=sw sb hl
          have hA:fF (Tb s) (Ta t):=by rw[ea,eb]; exact hA
          refine ⟨fun id hid hr=>?_,fun id hid=>by simp[l1] at hid,fun hc=>l1,fun hc=>by simp[l2] at hc,fun id hid=>by simp[l1] at hid⟩
          obtain ⟨i',j',e1⟩:=l4 id hr
          rw[e1] at hA
          rcases (n0 sa (rH hs)).2 id hid with ⟨c,d,hy⟩ | ⟨c,d,e,hy⟩
          · rw[hy] at hA; exact u5 hA rfl
          · rw[hy] at hA; exact xe hA rfl
        · simp at hp
      · simp at hp
  · simp at hp
theorem FN {T T':Env} {h h':aC} {recs:List Rec} (tr:Tr P n all all T h recs T' h') {i k:Nat} {a b:Rec} {p:Nat × Nat} (hp:zd all i k=some p) (hA:fF (T' p.1) (T' p.2)) (ha:recs[i]?=some a) (hb:recs[k]?=some b):kQ a b:=by
  unfold zd at hp
  split at hp
  · rename_i oa ob hoa hob
    split at hp
    · rename_i s t hl hs
      split at hp
      · rename_i hst
        simp only[Bool.and_eq_true] at hst
        simp at hp; subst hp
        obtain ⟨Ta,ha1,va,ha2,sa,la1,la2,ea⟩:=mR tr hoa hst.1 ha
        obtain ⟨Tb,hb1,vb,hb2,sb,_,_,eb⟩:=mR tr hob hst.2 hb
        obtain ⟨l1,l2,l3,l4⟩:=sw sa hl
        have hA:fF (Ta s) (Tb t):=by rw[ea,eb]; exact hA
        refine ⟨fun id hid=>by simp[l1] at hid,fun id hid hr=>?_,fun hc=>by simp[l2] at hc,fun _=>l1,fun id _ hx=>by omega⟩
        obtain ⟨i',j',e1⟩:=l4 id hr
        rw[e1] at hA
        rcases (n0 sb hs).2 id hid with ⟨c,d,hy⟩ | ⟨c,d,e,hy⟩
        · rw[hy] at hA; exact u5 hA rfl
        · rw[hy] at hA; exact xe hA rfl
      · simp at hp
    · split at hp
      · rename_i t s hs hl
        split at hp
        · rename_i hst
          simp only[Bool.and_eq_true] at hst
          simp at hp; subst hp
          obtain ⟨Ta,ha1,va,ha2,sa,la1,la2,ea⟩:=mR tr hoa hst.1 ha
          obtain ⟨Tb,hb1,vb,hb2,sb,lb1,lb2,eb⟩:=mR tr hob hst.2 hb
          obtain ⟨l1,l2,l3,l4⟩:=sw sb hl
          have hA:fF (Tb s) (Ta t):=by rw[ea,eb]; exact hA
          refine ⟨fun id hid hr=>?_,fun id hid=>by simp[l1] at hid,fun hc=>l1,fun hc=>by simp[l2] at hc,fun id hid=>by simp[l1] at hid⟩
          obtain ⟨i',j',e1⟩:=l4 id hr
          rw[e1] at hA
          rcases (n0 sa hs).2 id hid with ⟨c,d,hy⟩ | ⟨c,d,e,hy⟩
          · rw[hy] at hA; exact u5 hA rfl
          · rw[hy] at hA; exact xe hA rfl
        · simp at hp
      · simp at hp
  · simp at hp
theorem Ht {l:List (Nat × Nat)} {aps:List (Nat × Nat)} (h:yx all l=some aps):∀ q∈l,∃ p∈aps,xM all q.1 q.2=some p:=by
  induction l generalizing aps with
  | nil=>intro q hq; simp at hq
  | cons x r ih =>
    obtain ⟨i,k⟩:=x
    simp only[yx] at h
    split at h
    · rename_i p l' h1 h2
      simp at h; subst h
      intro q hq
      rcases List.mem_cons.1 hq with rfl | hq
      · exact ⟨p,by simp,h1⟩
      · obtain ⟨p',hp',e⟩:=ih h2 q hq
        exact ⟨p',by simp[hp'],e⟩
    · simp at h
theorem Gg {l:List (Nat × Nat)} {aps:List (Nat × Nat)} (h:qX all l=some aps):∀ q∈l,∃ ps,(∀ p∈ps,p∈aps)∧vi all q.1 q.2=some ps:=by
  induction l generalizing aps with
  | nil=>intro q hq; simp at hq
  | cons x r ih =>
    obtain ⟨i,k⟩:=x
    simp only[qX] at h
    split at h
    · rename_i p l' h1 h2
      simp at h; subst h
      intro q hq
      rcases List.mem_cons.1 hq with rfl | hq
      · exact ⟨p,fun x hx=>by simp[hx],h1⟩
      · obtain ⟨p',hp',e⟩:=ih h2 q hq
        exact ⟨p',fun x hx=>by simp[hp' x hx],e⟩
    · simp at h
theorem IA {H:View} {x:V} {xs:List (List V)} {rd:List Nat} (h:bO H x=some (xs,rd)):∀ id,id∈rd→∃ a b c,x=.sl id a b c:=by
  unfold bO at h
  split at h
  · simp at h; obtain ⟨_,rfl⟩:=h; intro id hid; simp at hid
  · simp at h; obtain ⟨_,rfl⟩:=h; intro id hid; simp at hid
  · simp at h; obtain ⟨_,rfl⟩:=h; intro id hid; simp at hid
  · simp at h; obtain ⟨_,rfl⟩:=h; intro id hid; simp at hid
  · split at h
    · split at h
      · simp at h
        obtain ⟨_,rfl⟩:=h
        intro id hid
        simp at hid; subst hid
        exact ⟨_,_,_,rfl⟩
      · simp at h
    · simp at h
  · simp at h; obtain ⟨_,rfl⟩:=h; intro id hid; simp at hid
  · simp at h
theorem Bt {o:Oper} {T:Env} {h h':aC} {v:V} {rd wr:List Nat} {call:Bool} {t y d:Nat} (st:cI P n all o T h v h' rd wr call) (ha:vl o=some (t,y,d)) :
    call=false∧(∀ id,id∈wr→∃ a b c,T t=.sl id a b c)∧(∀ id,id∈rd→(∃ a b c,T t=.sl id a b c)∨∃ a b c,T y=.sl id a b c)∧(h.length < h'.length→∃ a b c,v=.sl h.length a b c)∧h'.length≤h.length+1∧o.dst=some d:=by
  unfold vl at ha
  split at ha
  · rename_i args ats d' ho hg hd
    split at ha
    · rename_i t2 y2 hl
      simp at ha
      obtain ⟨rfl,rfl,rfl⟩:=ha
      cases st with
      | skip _=>exact ⟨rfl,fun id hid=>by simp at hid,fun id hid=>by simp at hid,fun h=>by omega,by omega,hd⟩
      | op _ hop =>
        simp only[bM,ho,hl] at hop
        have nn:∀ {v':V} {eff':aU} {rd':List Nat},some (v',aU.none,([]:List Nat))=some (v,eff',rd')→false=false∧(∀ id,id∈eff'.wr→∃ a b c,T t2=.sl id a b c)∧(∀ id,id∈rd'→(∃ a b c,T t2=.sl id a b c)∨∃ a b c,T y2=.sl id a b c)∧(h.length < (eff'.apply h).length→∃ a b c,v=.sl h.length a b c)∧(eff'.apply h).length≤h.length+1∧o.dst=some d':=by
          intro v' eff' rd' e
          simp only[Option.some.injEq,Prod.mk.injEq] at e
          obtain ⟨_,rfl,rfl⟩:=e
          exact ⟨rfl,fun id hid=>by simp[aU.wr] at hid,fun id hid=>by simp at hid,fun h=>by simp[aU.apply] at h,by simp[aU.apply],hd⟩
        split at hop
        · unfold j8 at hop
          split at hop
          · rename_i e xs rd' _ hel
            have hrd:=IA hel
            split at hop
            · simp at hop
            · split at hop
              · split at hop <;> first | exact nn hop | simp at hop
              · split at hop
                · simp at hop
                · split at hop
                  · split at hop
                    · simp only[Option.some.injEq,Prod.mk.injEq] at hop
                      obtain ⟨rfl,rfl,rfl⟩:=hop
                      exact ⟨rfl,fun id hid=>by simp[aU.wr] at hid,fun id hid=>.inr (hrd id hid),fun _=>⟨_,_,_,rfl⟩,by simp[aU.apply],hd⟩
                    · simp at hop
                  · rename_i id off len esz hx
                    split at hop
                    · split at hop
                      · simp only[Option.some.injEq,Prod.mk.injEq] at hop
                        obtain ⟨rfl,rfl,rfl⟩:=hop
                        refine ⟨rfl,fun id' hid=>?_,fun id' hid=>?_,fun _=>⟨_,_,_,rfl⟩,by simp[aU.apply],hd⟩
                        · simp[aU.wr] at hid; subst hid
                          exact ⟨off,len,esz,hx⟩
                        · rcases List.mem_cons.1 hid with rfl | hid
                          · exact .inl ⟨off,len,esz,hx⟩
                          · exact .inr (hrd id' hid)
                      · simp at hop
                    · simp at hop
                  · simp at hop
          · simp at hop
        · split at hop
          · unfold oo at hop
            split at hop
            · split at hop
              · split at hop
                · exact nn hop
                · split at hop
                  · simp only[Option.some.injEq,Prod.mk.injEq] at hop
                    obtain ⟨rfl,rfl,rfl⟩:=hop
                    exact ⟨rfl,fun id hid=>by simp[aU.wr] at hid,fun id hid=>by simp at hid,fun _=>⟨_,_,_,rfl⟩,by simp[aU.apply],hd⟩
                  · simp at hop
              · simp at hop
            · simp at hop
          · simp at hop
      | gh _ ho' _=>rw[ho] at ho'; simp at ho'
      | dW _ ho' _ _ _ _=>rw[ho] at ho'; simp at ho'
      | call _ ho' _ _ _ _ _=>rw[ho] at ho'; simp at ho'
    · simp at ha
  · simp at ha
theorem Ho {T T':Env} {h h':aC} {recs:List Rec} (tr:Tr P n all all T h recs T' h') {i:Nat} {o:Oper} (ho:all[i]?=some o) {r:Rec} (hr:recs[i]?=some r) :
    ∃ T1 h1 v h2,cI P n all o T1 h1 v h2 r.rd r.wr r.call∧r.lo=h1.length∧r.hi=h2.length∧(∀ t,stays all i t=true→T1 t=T' t)∧∀ d,o.dst=some d→stays all (i+1) d=true→T' d=v:=by
  obtain ⟨T1,h1,v,h2,rd,wr,call,recs2,e1,e2,e3,e4,e5,e6⟩:=tr.at_ i o ho
  rw[hr] at e1
  have e1:=Option.some.inj e1
  subst e1
  refine ⟨T1,h1,v,h2,e2,rfl,rfl,fun t hs=>?_,fun d hd hs=>?_⟩
  · have hk:=rQ hs
    have hi:i < all.length:=(List.getElem?_eq_some_iff.1 ho).1
    have ho':all[i]=o:=(List.getElem?_eq_some_iff.1 ho).2
    rw[List.drop_eq_getElem_cons hi,ho'] at hk
    rw[e4.keep fun o' ho'=>hk o' (by simp[ho'])]
    have:=hk o (by simp)
    cases hdst:o.dst with
    | none=>rfl
    | some d=>simp only[Env.put]; rw[if_neg]; rintro rfl; exact this hdst
  · rw[e4.keep (rQ hs),hd]
    simp[Env.put]
theorem ui {i a b c j d e f:Nat} (h:fF (.sl i a b c) (.sl j d e f)):i≠j:=h
theorem Ft {T T':Env} {h h':aC} {recs:List Rec} (tr:Tr P n all all T h recs T' h') {i k:Nat} {a b:Rec} {ps:List (Nat × Nat)} (hp:yF all i k=some ps) (hA:∀ p∈ps,fF (T' p.1) (T' p.2)) (ha:recs[i]?=some a) (hb:recs[k]?=some b):kQ a b:=by
  unfold yF at hp
  split at hp
  · rename_i oa ob hoa hob
    split at hp
    · rename_i t y d t' y' d' h1 h2
      split at hp
      · rename_i hst
        simp only[Bool.and_eq_true] at hst
        obtain ⟨⟨⟨⟨s1,s2⟩,s3⟩,s4⟩,s5⟩:=hst
        simp at hp; subst hp
        have a1:=hA (t,t') (by simp)
        have a2:=hA (t,y') (by simp)
        have a3:=hA (t',y) (by simp)
        have a4:=hA (d,t') (by simp)
        simp only at a1 a2 a3 a4
        obtain ⟨Ta,ha1,va,ha2,sa,la1,la2,ea,da⟩:=Ho tr hoa ha
        obtain ⟨Tb,hb1,vb,hb2,sb,_,_,eb,_⟩:=Ho tr hob hb
        obtain ⟨p1,p2,p3,p4,p5,p6⟩:=Bt sa h1
        obtain ⟨q1,q2,q3,_⟩:=Bt sb h2
        have da:=da d p6 s3
        rw[← ea t s1,← eb t' s4] at a1
        rw[← ea t s1,← eb y' s5] at a2
        rw[← eb t' s4,← ea y s2] at a3
        rw[da,← eb t' s4] at a4
        refine ⟨fun id hid hr=>?_,fun id hid hr=>?_,fun hc=>by rw[p1] at hc; simp at hc,fun hc=>by rw[q1] at hc; simp at hc,fun id hid hx=>?_⟩
        · obtain ⟨_,_,_,e⟩:=p2 id hid
          rcases q3 id hr with ⟨_,_,_,e'⟩ | ⟨_,_,_,e'⟩
          · rw[e,e'] at a1; exact ui a1 rfl
          · rw[e,e'] at a2; exact ui a2 rfl
        · obtain ⟨_,_,_,e⟩:=q2 id hid
          rcases p3 id hr with ⟨_,_,_,e'⟩ | ⟨_,_,_,e'⟩
          · rw[e',e] at a1; exact ui a1 rfl
          · rw[e,e'] at a3; exact ui a3 rfl
        · obtain ⟨_,_,_,e⟩:=q2 id hid
          obtain ⟨_,_,_,e'⟩:=p4 (by omega)
          have:id=ha1.length:=by omega
          subst this
          rw[e,e'] at a4; exact ui a4 rfl
      · simp at hp
    · simp at hp
  · simp at hp
theorem E7 {T T':Env} {h h':aC} {recs:List Rec} (tr:Tr P n all all T h recs T' h') {i k:Nat} {a b:Rec} {ps:List (Nat × Nat)} (hp:vi all i k=some ps) (hA:∀ p∈ps,fF (T' p.1) (T' p.2)) (ha:recs[i]?=some a) (hb:recs[k]?=some b):kQ a b:=by
  unfold vi at hp
  split at hp
  · rename_i p h1
    simp at hp; subst hp
    exact FN tr h1 (hA p (by simp)) ha hb
  · exact Ft tr hp hA ha hb
theorem IV {ls:List Nat} {recs:List Rec} {T T':Env} {hp hp':aC} {aps:List (Nat × Nat)} (tr:Tr P n all all T hp recs T' hp') (h:yx all (iN all ls)=some aps) (hA:∀ p∈aps,fF (T' p.1) (T' p.2)) (hl:ls.length=recs.length)
    (hr:∀ (i x:Nat) (r:Rec),ls[i]?=some x→recs[i]?=some r→iO x r.rd r.wr r.call r.lo r.hi):qt all recs:=by
  intro i k a b hik ha hb ho
  have hi:i < recs.length:=(List.getElem?_eq_some_iff.1 ha).1
  have hk:k < recs.length:=(List.getElem?_eq_some_iff.1 hb).1
  have la:=hr i _ a (List.getElem?_eq_getElem (by omega)) ha
  have lb:=hr k _ b (List.getElem?_eq_getElem (by omega)) hb
  have mi:(ls[i]'(by omega),i)∈ls.zipIdx:=by rw[List.mem_zipIdx_iff_getElem?]; simp[List.getElem?_eq_getElem (show i < ls.length by omega)]
  have mk:(ls[k]'(by omega),k)∈ls.zipIdx:=by rw[List.mem_zipIdx_iff_getElem?]; simp[List.getElem?_eq_getElem (show k < ls.length by omega)]
  by_cases h1:uO all (ls[i]'(by omega)) i (ls[k]'(by omega)) k=true
  · unfold uO at h1
    simp only[hik,decide_true,Bool.not_true,ho,Bool.false_or,Bool.or_eq_true,beq_iff_eq,Bool.and_eq_true,decide_eq_true_eq] at h1
    rcases h1 with ((h1 | h1) | h1) | h1
    · obtain ⟨e1,e2,e3,e4⟩:=la.1 h1
      exact ⟨fun id hid=>by simp[e2] at hid,fun id _=>by simp[e1],fun hc=>by simp[e3] at hc,fun _=>e2,fun id _ hx=>by omega⟩
    · obtain ⟨e1,e2,e3,e4⟩:=lb.1 h1
      exact ⟨fun id _=>by simp[e1],fun id hid=>by simp[e2] at hid,fun _=>e2,fun hc=>by simp[e3] at hc,fun id hid=>by simp[e2] at hid⟩
    · have e1:=la.2 h1.1
      have e2:=lb.2 h1.2
      exact ⟨fun id hid=>by simp[e1] at hid,fun id hid=>by simp[e2] at hid,fun _=>e2,fun _=>e1,fun id hid=>by simp[e2] at hid⟩
    · exact sr tr h1 ha hb
  · have hm:(i,k)∈iN all ls:=by
      unfold iN
      rw[List.mem_flatMap]
      refine ⟨_,mi,?_⟩
      rw[List.mem_filterMap]
      exact ⟨_,mk,by simp only; rw[if_neg h1]⟩
    obtain ⟨p,hp,e⟩:=Ht h (i,k) hm
    exact GN tr e (hA p hp) ha hb
theorem zW {P:Program} {t:TypeId} {id:Nat} {q:V} {ok:Bool} {H1 H2:View} (h:H1 id=H2 id):dU P t (.mp id) q ok H1=dU P t (.mp id) q ok H2:=by
  unfold dU
  simp only[h]
theorem FC {P:Program} {t:TypeId} {id:Nat} {q:V} {H1 H2:View} (h:H1 id=H2 id):dE P t (.mp id) q H1=dE P t (.mp id) q H2:=by
  cases hm:dV P t with
  | none=>simp only[dE,hm]
  | some x=>simp only[dE,hm,h]
theorem Jf {P:Program} {t:TypeId} {id:Nat} {q:V} {H:View} {v:V} {az:aU} {rd:List Nat} (h:dU P t (.mp id) q false H=some (v,az,rd)):az=.none∧rd=[id]:=by
  simp only[dU,Bool.false_eq_true,if_false] at h
  repeat' (first | (simp only[Option.some.injEq,Prod.mk.injEq] at h; exact ⟨h.2.1.symm,h.2.2.symm⟩) | (split at h) | (simp at h; done))
theorem IB {P:Program} {t:TypeId} {id:Nat} {q:V} {H:View} {v:V} {az:aU} {rd:List Nat} (h:dE P t (.mp id) q H=some (v,az,rd)):∃ obj,az=.eQ id obj:=by
  cases hm:dV P t with
  | none=>simp[dE,hm] at h
  | some x =>
    simp only[dE,hm] at h
    repeat' (first | (simp only[Option.some.injEq,Prod.mk.injEq] at h; exact ⟨_,h.2.1.symm⟩) | (split at h) | (simp at h; done))
theorem Bb {o:Oper} {T:Env} {h h':aC} {v:V} {rd wr:List Nat} {call:Bool} (st:cI P n all o T h v h' rd wr call) (hg:cq n all T o=some true) (hb:∀ e x,o.op≠.box e x) (hc:∀ s d x,o.op≠.convert s d x) (hl:∀ c,o.op≠.call c) :
    ∃ az,bM P o T h.view h.length=some (v,az,rd)∧h'=az.apply h∧wr=az.wr∧call=false:=by
  cases st with
  | skip hs=>rw[hg] at hs; simp at hs
  | op _ hop=>exact ⟨_,hop,rfl,rfl,rfl⟩
  | gh _ ho _=>exact absurd ho (hb _ _)
  | dW _ ho _ _ _ _=>exact absurd ho (hc _ _ _)
  | call _ ho _ _ _ _ _=>exact absurd ho (hl _)
theorem KM {recs:List Rec} {Ts:Nat→Env} {hs:Nat→aC} {vs:Nat→V} (hst:wP P n all recs Ts hs vs) (hl:recs.length=all.length) {k:Nat} (hk:k≤all.length) (hw:∀ j r,j < k→recs[j]?=some r→r.wr=[]) :
    ∀ j,j≤k→(hs 0).length≤(hs j).length∧∀ id,id < (hs 0).length→(hs j).view id=(hs 0).view id:=by
  intro j
  induction j with
  | zero=>intro _; exact ⟨Nat.le_refl _,fun _ _=>rfl⟩
  | succ j ih =>
    intro hj
    obtain ⟨l1,l2⟩:=ih (by omega)
    obtain ⟨st,_,_,_,_⟩:=hst j all[j] (recs[j]'(by omega)) (List.getElem?_eq_getElem (by omega)) (List.getElem?_eq_getElem (by omega))
    refine ⟨Nat.le_trans l1 (pn st),fun id hid=>?_⟩
    rw[nT st (Nat.lt_of_lt_of_le hid l1) (by rw[hw j _ (by omega) (List.getElem?_eq_getElem (by omega))]; simp)]
    exact l2 id hid
theorem mC {recs:List Rec} {Ts:Nat→Env} {hs:Nat→aC} {vs:Nat→V} (hst:wP P n all recs Ts hs vs) (hl:recs.length=all.length) {i t:Nat} (h:stays all i t=true):∀ j,i≤j→j≤all.length→Ts j t=Ts i t:=by
  intro j hij hj
  refine vq (vs:=vs) (N:=all.length) (fun k o hk=>?_) rfl i j hij hj fun k o h1 h2 h3=>rQ h o (by
    rw[List.mem_iff_getElem?]
    exact ⟨k - i,by rw[List.getElem?_drop,show i+(k - i)=k by omega]; exact h3⟩)
  have hk':k < all.length:=(List.getElem?_eq_some_iff.1 hk).1
  exact (hst k o (recs[k]'(by omega)) hk (List.getElem?_eq_getElem (by omega))).2.2.1
theorem B4 {ls:List Nat} {recs:List Rec} {T T':Env} {hp hp':aC} {aps:List (Nat × Nat)} {tp:Option (Nat × Nat)} (tr:Tr P n all all T hp recs T' hp') (h:qX all (A7 all ls tp)=some aps) (hA:∀ p∈aps,fF (T' p.1) (T' p.2)) (hl:ls.length=recs.length)
    (hr:∀ (i x:Nat) (r:Rec),ls[i]?=some x→recs[i]?=some r→iO x r.rd r.wr r.call r.lo r.hi) (htol:∀ p,tp=some p→∃ tol,A0 all ls p.1 p.2=some tol∧Fw P tol.1 (T' tol.2.1) (T' tol.2.2) hp.view):F6 P n all recs T T' hp:=by
  have main:∀ i k a b,i < k→recs[i]?=some a→recs[k]?=some b→ordered (dL all []) i k=false→tp≠some (i,k)→kQ a b:=by
    intro i k a b hik ha hb ho hne
    have hi:i < recs.length:=(List.getElem?_eq_some_iff.1 ha).1
    have hk:k < recs.length:=(List.getElem?_eq_some_iff.1 hb).1
    have la:=hr i _ a (List.getElem?_eq_getElem (by omega)) ha
    have lb:=hr k _ b (List.getElem?_eq_getElem (by omega)) hb
    have mi:(ls[i]'(by omega),i)∈ls.zipIdx:=by rw[List.mem_zipIdx_iff_getElem?]; simp[List.getElem?_eq_getElem (show i < ls.length by omega)]
    have mk:(ls[k]'(by omega),k)∈ls.zipIdx:=by rw[List.mem_zipIdx_iff_getElem?]; simp[List.getElem?_eq_getElem (show k < ls.length by omega)]
    by_cases h1:uO all (ls[i]'(by omega)) i (ls[k]'(by omega)) k=true
    · unfold uO at h1
      simp only[hik,decide_true,Bool.not_true,ho,Bool.false_or,Bool.or_eq_true,beq_iff_eq,Bool.and_eq_true,decide_eq_true_eq] at h1
      rcases h1 with ((h1 | h1) | h1) | h1
      · obtain ⟨e1,e2,e3,e4⟩:=la.1 h1
        exact ⟨fun id hid=>by simp[e2] at hid,fun id _=>by simp[e1],fun hc=>by simp[e3] at hc,fun _=>e2,fun id _ hx=>by omega⟩
      · obtain ⟨e1,e2,e3,e4⟩:=lb.1 h1
        exact ⟨fun id _=>by simp[e1],fun id hid=>by simp[e2] at hid,fun _=>e2,fun hc=>by simp[e3] at hc,fun id hid=>by simp[e2] at hid⟩
      · have e1:=la.2 h1.1
        have e2:=lb.2 h1.2
        exact ⟨fun id hid=>by simp[e1] at hid,fun id hid=>by simp[e2] at hid,fun _=>e2,fun _=>e1,fun id hid=>by simp[e2] at hid⟩
      · exact sr tr h1 ha hb
    · have hm:(i,k)∈iN all ls:=by
        unfold iN
        rw[List.mem_flatMap]
        refine ⟨_,mi,?_⟩
        rw[List.mem_filterMap]
        exact ⟨_,mk,by simp only; rw[if_neg h1]⟩
      by_cases hn:newAt all k=true
      · unfold newAt at hn
        split at hn
        · rename_i ob hob
          obtain ⟨T1,h1',v,h2,rd,wr,call,recs2,e1,e2,_⟩:=tr.at_ k ob hob
          rw[hb] at e1
          have e1:=Option.some.inj e1
          subst e1
          obtain ⟨n1,n2,n3⟩:=JP e2 hn
          exact ⟨fun id _=>by simp[n1],fun id hid=>by simp[n2] at hid,fun _=>n2,fun hc=>by simp[n3] at hc,fun id hid=>by simp[n2] at hid⟩
        · simp at hn
      · obtain ⟨p,hp,e⟩:=Gg h (i,k) (by
          unfold A7
          rw[List.mem_filter]
          refine ⟨hm,?_⟩
          simp only[Bool.and_eq_true,Bool.not_eq_true',bne_iff_ne,ne_eq]
          exact ⟨by simpa using hn,hne⟩)
        exact E7 tr e (fun q hq=>hA q (hp q hq)) ha hb
  cases tp with
  | none=>exact qt.ME fun i k a b h1 h2 h3 h4=>main i k a b h1 h2 h3 h4 (by simp)
  | some p =>
    obtain ⟨i0,k0⟩:=p
    obtain ⟨tol,hto,htv⟩:=htol _ rfl
    intro Ts hs vs eT0 eh0 eTN hrl hst i
    by_cases hi:i=i0
    · subst hi
      refine ⟨some k0,fun k a b h1 h2 h3 h4 h5=>main i k a b h1 h2 h3 h4 (fun e=>h5 (by simp at e; rw[e])),fun k a b o hk ha hb ho=>?_⟩
      simp at hk; subst hk
      unfold A0 at hto
      simp only at hto
      split at hto
      · rename_i oa ob hoa hob
        rw[ho] at hoa
        have hoa:=Option.some.inj hoa
        subst hoa
        split at hto
        · rename_i t m q t' m' q' hop1 hop2 hg1 hg2
          split at hto
          · rename_i hcond
            simp only[Bool.and_eq_true,beq_iff_eq,decide_eq_true_eq,List.all_eq_true,List.mem_range] at hcond
            obtain ⟨⟨⟨⟨⟨⟨⟨⟨rfl,rfl⟩,rfl⟩,s1⟩,s2⟩,s3⟩,s4⟩,hik⟩,hloud⟩:=hcond
            simp only[Option.some.injEq] at hto
            subst hto
            simp only at htv
            have hkl:k0 < all.length:=(List.getElem?_eq_some_iff.1 hob).1
            have hwr:∀ j r,j < k0→recs[j]?=some r→r.wr=[]:=fun j r hj hrj=>by
              have h1:=hloud j hj
              have hj':j < ls.length:=by omega
              rw[List.getD_eq_getElem?_getD,List.getElem?_eq_getElem hj'] at h1
              exact (hr j _ r (List.getElem?_eq_getElem hj') hrj).2 h1
            have hsame:=KM hst hrl (Nat.le_of_lt hkl) hwr
            have em:∀ j,i≤j→j≤all.length→Ts j m=T' m:=fun j h1 h2=>by
              rw[← eTN,mC hst hrl s1 j h1 h2,mC hst hrl s1 all.length (by omega) (Nat.le_refl _)]
            have eq:∀ j,i≤j→j≤all.length→Ts j q=T' q:=fun j h1 h2=>by
              rw[← eTN,mC hst hrl s2 j h1 h2,mC hst hrl s2 all.length (by omega) (Nat.le_refl _)]
            obtain ⟨sti,_,_,hlo,hhi⟩:=hst i o a ho ha
            obtain ⟨stk,_,_,_,_⟩:=hst k0 ob b hob hb
            have gi:cq n all (Ts i) o=some true:=by unfold cq; rw[hg1]
            have gk:cq n all (Ts k0) ob=some true:=by unfold cq; rw[hg2]
            unfold Fw at htv
            split at htv
            · rename_i id hid
              obtain ⟨⟨es0,c0,hmap⟩,htv⟩:=htv
              have hidl:id < hp.length:=g8 (by rw[hmap]; simp)
              have hvk:(hs k0).view id=hp.view id:=by rw[(hsame k0 (Nat.le_refl _)).2 id (by rw[eh0]; exact hidl),eh0]
              have hvi:(hs i).view id=hp.view id:=by rw[(hsame i (Nat.le_of_lt hik)).2 id (by rw[eh0]; exact hidl),eh0]
              obtain ⟨effi,hopi,hi',wri,cai⟩:=Bb sti gi (by rw[hop1]; simp) (by rw[hop1]; simp) (by rw[hop1]; simp)
              obtain ⟨effk,hopk,hk',wrk,cak⟩:=Bb stk gk (by rw[hop2]; simp) (by rw[hop2]; simp) (by rw[hop2]; simp)
              simp only[bM,hop1] at hopi
              simp only[bM,hop2] at hopk
              have e1:ev (Ts i) (.tmp m)=.mp id:=(em i (Nat.le_refl _) (by omega)).trans hid
              have e2:ev (Ts i) (.tmp q)=T' q:=eq i (Nat.le_refl _) (by omega)
              have e3:ev (Ts k0) (.tmp m)=.mp id:=(em k0 (by omega) (by omega)).trans hid
              have e4:ev (Ts k0) (.tmp q)=T' q:=eq k0 (by omega) (by omega)
              rw[e1,e2] at hopi
              rw[e3,e4,FC hvk] at hopk
              obtain ⟨l1,l2⟩:=Jf hopi
              obtain ⟨obj,l3⟩:=IB hopk
              subst l1 l3
              have hkb:(hs (k0+1)).view id=obj:=by
                rw[hk',iS (fun id' hid'=>by
                  simp only[aU.wr,List.mem_singleton] at hid'
                  subst hid'
                  rw[hvk,hmap]; simp)]
                simp[aU.view,View.set]
              refine ⟨hik,wri,cai,by rw[hlo,hhi,hi']; rfl,fun g hg hgv=>?_⟩
              have hidi:id < (hs i).length:=g8 (by rw[hvi,hmap]; simp)
              have hgid:g.view id=(hp.view.set id obj) id:=by
                rw[hgv id hidi,wrk,if_pos (by simp[aU.wr]),hkb]
                simp[View.set]
              have hlk:=htv _ _ _ hopk
              have hfin:bM P o (Ts i) g.view g.length=some (vs i,.none,a.rd):=by
                simp only[bM,hop1]
                rw[e1,e2,zW hgid,hlk,← zW hvi]
                exact hopi
              exact .op gi hfin
            · exact htv.elim
          · simp at hto
        · simp at hto
      · simp at hto
    · exact ⟨none,fun k a b h1 h2 h3 h4 _=>main i k a b h1 h2 h3 h4 (fun e=>hi (by simp at e; exact e.1.symm)),fun k a b o h1=>by simp at h1⟩
theorem JR (hm:P.follows .mixedOrders=true) {fz:Fz} {id:Nat} {ops:Array Oper} {sc:SC} {T:Env} {h:aC} {Q:Exit→Env→View→Prop} (hc:FG P n fz ops.toList=some sc) (hw:wS P sc T h.view Q) :
    ∃ e T' h',ct P n (.region id ops true) T h e T' h'∧(gP h h'∧h.length≤h'.length)∧Q e T' h'.view:=by
  unfold FG at hc
  split at hc
  · simp at hc
  · rename_i l hl
    split at hc
    · simp at hc
    · rename_i hok
      have hok:(group l).all pS=true:=by simpa using hok
      have hl':cD P n ops.toList fz ops.toList=some (hZ (group l)):=by rw[dZ]; exact hl
      split at hc
      · rename_i ht
        simp only[Option.map_eq_some_iff] at hc
        obtain ⟨aps,hap,rfl⟩:=hc
        obtain ⟨recs,T',h',tr,hst,hk,hro⟩:=uq (group l) ops.toList T h hl' hok hw
        rw[dZ] at hro
        refine ⟨.normal,T',h',?_,hst,hk.rest⟩
        have hcf:qt ops.toList recs:=IV tr hap (wx hk) (by simpa using hro.1) (fun i x r hx hr=>by
          simp only[List.getElem?_map,Option.map_eq_some_iff] at hx
          obtain ⟨s,hs,rfl⟩:=hx
          exact hro.2 i s r hs hr)
        simpa using uN hm (id:=id) tr ht hcf
      · simp at hc
theorem Jw (hm:P.follows .mixedOrders=true) {fz:Fz} {id:Nat} {ops:Array Oper} {sc:SC} {T:Env} {h:aC} {Q:Exit→Env→View→Prop} (hc:FM P n fz ops.toList=some sc) (hw:wS P sc T h.view Q) :
    ∃ e T' h',ct P n (.region id ops true) T h e T' h'∧(gP h h'∧h.length≤h'.length)∧Q e T' h'.view:=by
  unfold FM at hc
  split at hc
  · simp at hc
  · rename_i l hl
    split at hc
    · simp at hc
    · rename_i hok
      have hok:(group l).all pS=true:=by simpa using hok
      have hl':cD P n ops.toList fz ops.toList=some (hZ (group l)):=by rw[dZ]; exact hl
      split at hc
      · rename_i ht
        split at hc
        · simp only[Option.map_eq_some_iff] at hc
          obtain ⟨aps,hap,rfl⟩:=hc
          obtain ⟨recs,T',h',tr,hst,hk,hro⟩:=uq (group l) ops.toList T h hl' hok hw
          rw[dZ] at hro
          refine ⟨.normal,T',h',?_,hst,hk.rest⟩
          have hcf:=B4 tr hap (wx hk) (by simpa using hro.1) (fun i x r hx hr=>by
            simp only[List.getElem?_map,Option.map_eq_some_iff] at hx
            obtain ⟨s,hs,rfl⟩:=hx
            exact hro.2 i s r hs hr) (fun p hp=>by simp at hp)
          simpa using r8 hm (id:=id) tr ht hcf
        · rename_i p hp
          split at hc
          · rename_i tol hto
            simp only[Option.map_eq_some_iff] at hc
            obtain ⟨aps,hap,rfl⟩:=hc
            obtain ⟨recs,T',h',tr,hst,hk,hro⟩:=uq (group l) ops.toList T h hl' hok hw
            rw[dZ] at hro
            refine ⟨.normal,T',h',?_,hst,hk.2.rest⟩
            have hcf:=B4 tr hap (wx hk.2) (by simpa using hro.1) (fun i x r hx hr=>by
              simp only[List.getElem?_map,Option.map_eq_some_iff] at hx
              obtain ⟨s,hs,rfl⟩:=hx
              exact hro.2 i s r hs hr) (fun p' hp'=>by
                simp only[Option.some.injEq] at hp'
                subst hp'
                exact ⟨tol,hto,hk.1⟩)
            simpa using r8 hm (id:=id) tr ht hcf
          · simp at hc
      · simp at hc
theorem sy (hm:P.follows .mixedOrders=true) {fz:Fz} {id:Nat} {ops:Array Oper} {draw quiet:Bool} {sc:SC} {T:Env} {h:aC} {Q:Exit→Env→View→Prop} (hc:vm P n fz ops.toList draw quiet=some sc) (hw:wS P sc T h.view Q) :
    ∃ e T' h',ct P n (.region id ops draw) T h e T' h'∧(gP h h'∧h.length≤h'.length)∧Q e T' h'.view:=by
  unfold vm at hc
  split at hc
  · simp at hc
  · rename_i l hl
    split at hc
    · simp at hc
    · rename_i hok
      have hok:(group l).all pS=true:=by simpa using hok
      have hl':cD P n ops.toList fz ops.toList=some (hZ (group l)):=by rw[dZ]; exact hl
      have key:tb P quiet (group l) T h.view (Q .normal)→(draw=true→jD ops.toList=true∧A9 ops.toList (l.map fun s=>fU P quiet s.b)=true) →
          ∃ e T' h',ct P n (.region id ops draw) T h e T' h'∧(gP h h'∧h.length≤h'.length)∧Q e T' h'.view:=by
        intro hw hdr
        obtain ⟨recs,T',h',tr,hst,hk,hro⟩:=uq (group l) ops.toList T h hl' hok hw
        rw[dZ] at hro
        refine ⟨.normal,T',h',?_,hst,hk⟩
        cases hd:draw with
        | false=>simpa using BR (id:=id) tr
        | true =>
          obtain ⟨h1,h2⟩:=hdr hd
          have hcf:qt ops.toList recs:=JQ tr h2 (by simpa using hro.1) (fun i x r hx hr=>by
            simp only[List.getElem?_map,Option.map_eq_some_iff] at hx
            obtain ⟨s,hs,rfl⟩:=hx
            exact hro.2 i s r hs hr)
          simpa using uN hm (id:=id) tr h1 hcf
      split at hc
      · rename_i hd
        split at hc
        · rename_i ht
          simp at hc; subst hc
          exact key hw (fun _=>by simpa using ht)
        · simp at hc
      · rename_i hd
        simp at hc; subst hc
        exact key hw (fun e=>absurd e hd)
theorem kO {a b:Option SC} {sc:SC} (h:orElse' a b=some sc):a=some sc∨b=some sc:=by
  cases a with
  | none=>exact .inr h
  | some x=>exact .inl h
theorem G2 (hm:P.follows .mixedOrders=true) {fz:List Nat} {id:Nat} {ops:Array Oper} {draw:Bool} {sc:SC} {T:Env} {h:aC} {Q:Exit→Env→View→Prop} (hc:FZ P n fz ops.toList draw=some sc) (hw:wS P sc T h.view Q) :
    ∃ e T' h',ct P n (.region id ops draw) T h e T' h'∧(gP h h'∧h.length≤h'.length)∧Q e T' h'.view:=by
  unfold FZ at hc
  rcases kO hc with h1 | h1
  · exact sy hm h1 hw
  · clear hc
    split at h1
    · rename_i hd
      subst hd
      rcases kO h1 with h0 | h1
      · split at h0
        · exact Jw hm h0 hw
        · simp at h0
      rcases kO h1 with h2 | h2
      · exact JR hm h2 hw
      · rcases kO h2 with h3 | h3
        · exact sy hm h3 hw
        · rcases kO h3 with h4 | h4
          · exact sy hm h4 hw
          · exact sy hm h4 hw
    · simp at h1
theorem Aq {e:Exit} {a b:Prop} (h:xd e a b):(e=.normal∧a)∨(e≠.normal∧b):=by
  cases e with
  | normal=>exact .inl ⟨rfl,h⟩
  | _=>exact .inr ⟨by simp,h⟩
theorem MB (hm:P.follows .mixedOrders=true) {fz:List Nat} : ∀ (c:Code) (sc:SC),fQ P n fz c=some sc→∀ (T:Env) (h:aC) (Q:Exit→Env→View→Prop),wS P sc T h.view Q →
    ∃ e T' h',ct P n c T h e T' h'∧(gP h h'∧h.length≤h'.length)∧Q e T' h'.view:=by
  intro c
  induction c with
  | skip=>intro sc hc T h Q hw; simp[fQ] at hc; subst hc; exact ⟨_,T,h,.skip,⟨.refl _,Nat.le_refl _⟩,hw⟩
  | region id ops draw=>intro sc hc T h Q hw; exact G2 hm hc hw
  | seq x y ihx ihy =>
    intro sc hc T h Q hw
    simp only[fQ] at hc
    split at hc
    · rename_i a b h1 h2
      simp at hc; subst hc
      simp only[wS] at hw
      obtain ⟨e,T1,h1',hx,st1,hq⟩:=ihx a h1 T h _ hw
      rcases Aq hq with ⟨rfl,hq⟩ | ⟨hne,hq⟩
      · obtain ⟨e2,T2,h2',hy,st2,hq2⟩:=ihy b h2 T1 h1' _ hq
        exact ⟨e2,T2,h2',hx.seq hy,⟨st1.1.trans st2.1 st1.2,Nat.le_trans st1.2 st2.2⟩,hq2⟩
      · exact ⟨e,T1,h1',hx.DP hne,st1,hq⟩
    · simp at hc
  | cond c x y ihx ihy =>
    intro sc hc T h Q hw
    simp only[fQ] at hc
    split at hc
    · rename_i a b h1 h2
      simp at hc; subst hc
      simp only[wS] at hw
      split at hw
      · rename_i t ht
        have hT:pB (SX.of c) t T=T:=by
          unfold pB
          split
          · rename_i k hk
            rw[hk] at ht
            exact wY ht
          · rfl
        rw[SX.bV] at ht
        cases t with
        | true =>
          have:=hw.1 rfl
          rw[hT] at this
          obtain ⟨e,T',h',hx,st,hq⟩:=ihx a h1 T h Q this
          exact ⟨e,T',h',.cond ht hx,st,hq⟩
        | false =>
          have:=hw.2 rfl
          rw[hT] at this
          obtain ⟨e,T',h',hx,st,hq⟩:=ihy b h2 T h Q this
          exact ⟨e,T',h',.cond ht hx,st,hq⟩
      · exact hw.elim
    · simp at hc
  | block id c ih =>
    intro sc hc T h Q hw
    simp only[fQ,Option.map_eq_some_iff] at hc
    obtain ⟨a,h1,rfl⟩:=hc
    simp only[wS] at hw
    obtain ⟨e,T',h',hx,st,hq⟩:=ih a h1 T h _ hw
    exact ⟨_,T',h',hx.block,st,hq⟩
  | loop c ih =>
    intro sc hc T h Q hw
    simp only[fQ,Option.map_eq_some_iff] at hc
    obtain ⟨a,h1,rfl⟩:=hc
    simp only[wS] at hw
    obtain ⟨I,⟨k,hk⟩,hstep⟩:=hw
    have go:∀ k T (h:aC),I k T h.view→∃ e T' h',mB P n c T h e T' h'∧(gP h h'∧h.length≤h'.length)∧Q e T' h'.view:=by
      intro k
      induction k using Nat.strongRecOn with
      | ind k ihk =>
        intro T h hI
        obtain ⟨e,T1,h1',hx,st1,hq⟩:=ih a h1 T h _ (hstep k T h.view hI)
        rcases Aq hq with ⟨rfl,k',hlt,hI'⟩ | ⟨hne,hq⟩
        · obtain ⟨e2,T2,h2',hy,st2,hq2⟩:=ihk k' hlt T1 h1' hI'
          exact ⟨e2,T2,h2',.step hx hy,⟨st1.1.trans st2.1 st1.2,Nat.le_trans st1.2 st2.2⟩,hq2⟩
        · exact ⟨e,T1,h1',.out hx hne,st1,hq⟩
    obtain ⟨e,T',h',hx,st,hq⟩:=go k T h hk
    exact ⟨e,T',h',.loop hx,st,hq⟩
  | exit id=>intro sc hc T h Q hw; simp[fQ] at hc; subst hc; exact ⟨_,T,h,.exit,⟨.refl _,Nat.le_refl _⟩,hw⟩
  | ret=>intro sc hc T h Q hw; simp[fQ] at hc; subst hc; exact ⟨_,T,h,.ret,⟨.refl _,Nat.le_refl _⟩,hw⟩
  | _=>intro sc hc; simp[fQ] at hc
theorem Ms {T:Env} {h:aC} {r:ResultVar} {l:List SR} {rest:List ResultVar} (hc:dN P (r :: rest)=some l):∃ s l',l=s :: l'∧dN P rest=some l'∧∀ K:V→Prop,wR T h.view s K→∃ v,o9 P T h r=some v∧K v:=by
  cases r with
  | tmp t =>
    simp only[dN,Option.map_eq_some_iff] at hc
    obtain ⟨l',h1,rfl⟩:=hc
    exact ⟨.tmp t,l',rfl,h1,fun K hk=>⟨_,rfl,hk⟩⟩
  | cell a t =>
    simp only[dN] at hc
    split at hc
    · rename_i k l' h1 h2
      simp at hc; subst hc
      refine ⟨.cell a k,l',rfl,h2,fun K hk=>?_⟩
      simp only[wR] at hk
      simp only[o9,jN,rU h1]
      split at hk
      · rename_i id i j ha
        split at hk
        · rename_i es hH
          obtain ⟨hlt,hk⟩:=hk
          obtain ⟨v,hv,hk⟩:=mj hk
          exact ⟨v,by rw[ha]; simp only[hH]; rw[if_pos hlt,hv]; rfl,hk⟩
        · exact hk.elim
      · rename_i e j ha
        obtain ⟨v,hv,hk⟩:=mj hk
        exact ⟨v,by rw[ha]; simp only; rw[hv]; rfl,hk⟩
      · exact hk.elim
    · simp at hc
theorem Ig {T:Env} {h:aC} {K:List V→Prop} : ∀ (rs:List ResultVar) (l:List SR) (acc:List V),dN P rs=some l→xB T h.view l acc K→∃ vs,jI P T h rs=some vs∧K (acc ++ vs)
  | [],l,acc,hc,hw=>by simp[dN] at hc; subst hc; exact ⟨[],rfl,by simpa [xB] using hw⟩
  | r :: rest,l,acc,hc,hw=>by
    obtain ⟨s,l',rfl,h1,h2⟩:=Ms (T:=T) (h:=h) hc
    simp only[xB] at hw
    obtain ⟨v,hv,hk⟩:=h2 _ hw
    obtain ⟨vs,hvs,hk⟩:=Ig rest l' (acc ++ [v]) h1 hk
    exact ⟨v :: vs,by simp[jI,hv,hvs],by simpa using hk⟩
def wF (P:Program) (F:SF) (vs:List V) (H:View) (K:V→View→Prop):Prop :=
  vs.length≤F.n∧wS P F.code (jg vs) H fun e T' H'=>(e=.ret∨e=.normal)∧xB T' H' F.res [] fun l=>K (ah l) H'
theorem aB.of (hm:P.follows .mixedOrders=true) {f:FuncId} {fz:List Nat} {F:SF} (hF:aV P f fz=some F) {vs:List V} {H:View} {K:V→View→Prop} (hw:wF P F vs H K):aB P f vs H K:=by
  unfold aV at hF
  split at hF
  · rename_i fn hfn
    split at hF
    · rename_i c hb
      split at hF
      · rename_i sc rs h1 h2 h3
        simp at hF; subst hF
        refine ⟨h3,?_⟩
        rintro h rfl
        obtain ⟨e,T',h',hx,st,he,hr⟩:=MB hm c sc h1 _ h _ hw.2
        obtain ⟨vs',hvs,hk⟩:=Ig _ _ [] h2 hr
        refine ⟨ah vs',h',bL.DE hfn hb hw.1 hx he ?_,st.1,by simpa using hk⟩
        unfold E8
        rw[hvs]
        cases vs' with
        | nil=>rfl
        | cons a l=>cases l <;> rfl
      · simp at hF
    · simp at hF
  · simp at hF
theorem aB.mono {f:FuncId} {vs:List V} {H:View} {K K':V→View→Prop} (h:aB P f vs H K) (hk:∀ r H',K r H'→K' r H'):aB P f vs H K' :=
  ⟨h.1,fun h0 e=>let ⟨r,h',a,s,b⟩:=h.2 h0 e; ⟨r,h',a,s,hk _ _ b⟩⟩
theorem aE.JK {f:FuncId} {vs:List V} {H:View} {t:V} {K:V→View→Prop} (h:aE P f vs t) (hok:cy P f=true) (hk:K t H):A8 P f vs H K :=
  ⟨hok,fun h0 e=>⟨t,h0,bL.fw h h0,fun _ _=>rfl,e ▸ hk⟩⟩
theorem aB.JK {f:FuncId} {vs:List V} {H:View} {K:V→View→Prop} (h:aB P f vs H fun r H'=>(∀ id,H id≠.dead→H' id=H id)∧K r H'):A8 P f vs H K :=
  ⟨h.1,fun h0 e=>by
    obtain ⟨r,h',ha,st,hf,hk⟩:=h.2 h0 e
    refine ⟨r,h',ha,fun id hid=>?_,hk⟩
    by_cases hd:h0.view id=.dead
    · rw[hd]; exact st id hid hd
    · rw[← e] at hf; exact hf id hd⟩
end
end Gv
namespace Gv
open Go
inductive cm {α:Type} (x:α):Type where
  | mk
def dI (s:ByteArray):List Int:=s.data.toList.map fun b=>(b.toNat:Int)
theorem di (s:ByteArray):s.size=(dI s).length:=by rw[dI,List.length_map,bsize]
def bw (P:Program) (c:SC) (T:Env) (H:View) (Q:Exit→Env→View→Prop) (_:cm (T,H,Q)):Prop:=wS P (.loop c) T H Q
def aF (P:Program) (quiet:Bool) (f:FuncId) (vs:List V) (H:View) (K:V→View→Prop) (_:cm (H,K)):Prop :=
  if quiet then A8 P f vs H K else aB P f vs H K
def yu {α:Type} (v:α) (F:α→Prop) (_:cm F):Prop:=F v
def cT (v:V) (F:V→Prop) (_:cm F):Prop:=F v
def CN (o:bN) (F:bN→Prop) (_:cm F):Prop:=F o
def mV {α:Type} (o:Option α) (F:Option α→Prop) (_:cm F):Prop:=F o
def an (b:Bool) (A B:Prop) (_:cm (A,B)):Prop:=(b=true→A)∧(b=false→B)
theorem MI {α:Type} (v:α) (F:α→Prop) (w:cm F):yu v F w=F v:=propext Iff.rfl
section
variable (F:V→Prop) (w:cm F)
theorem EX (v:Value):cT (.val v) F w=F (.val v):=propext Iff.rfl
theorem EO (k:Nat):cT (.emp k) F w=F (.emp k):=propext Iff.rfl
theorem DK:cT .de F w=F .de:=propext Iff.rfl
theorem DQ (es:List (List V)):cT (.aN es) F w=F (.aN es):=propext Iff.rfl
theorem Gu (a b c d:Nat):cT (.sl a b c d) F w=F (.sl a b c d):=propext Iff.rfl
theorem Ek (a b c:Nat):cT (.ptr a b c) F w=F (.ptr a b c):=propext Iff.rfl
theorem CM (e:List V) (j:Nat):cT (.aR e j) F w=F (.aR e j):=propext Iff.rfl
theorem HV (a:Nat):cT (.mp a) F w=F (.mp a):=propext Iff.rfl
theorem IF (f:FuncId) (a b:List V):cT (.fn f a b) F w=F (.fn f a b):=propext Iff.rfl
theorem DM (cs:List V):cT (.agg cs) F w=F (.agg cs):=propext Iff.rfl
theorem Eo (cs:List V):cT (.bg cs) F w=F (.bg cs):=propext Iff.rfl
end
theorem En (F:bN→Prop) (w:cm F) (k:Nat) (es:List (List V)):CN (.arr k es) F w=F (.arr k es):=propext Iff.rfl
theorem EW (F:bN→Prop) (w:cm F) (es:List (V × V × Nat)) (k:Nat):CN (.map es k) F w=F (.map es k):=propext Iff.rfl
theorem CJ {α:Type} (F:Option α→Prop) (w:cm F) (x:α):mV (some x) F w=F (some x):=propext Iff.rfl
theorem Cr (A B:Prop) (w:cm (A,B)):an true A B w=A:=by simp[an]
theorem Ab (A B:Prop) (w:cm (A,B)):an false A B w=B:=by simp[an]
theorem Ed (b:Bool) (A B:Prop) (w:cm (A,B)):an (!b) A B w=an b B A .mk:=by cases b <;> simp[an]
theorem an.split {b:Bool} {A B:Prop} {w:cm (A,B)} (h1:b=true→A) (h2:b=false→B):an b A B w:=⟨h1,h2⟩
theorem an.dec {p:Prop} [Decidable p] {A B:Prop} {w:cm (A,B)} (h1:p→A) (h2:¬ p→B):an (decide p) A B w:=⟨fun h=>h1 (by simpa using h),fun h=>h2 (by simpa using h)⟩
theorem an.eq {a b:Int} {A B:Prop} {w:cm (A,B)} (h1:a=b→A) (h2:¬ a=b→B):an (a == b) A B w:=⟨fun h=>h1 (by simpa using h),fun h=>h2 (by simpa using h)⟩
theorem an.ne {a b:Int} {A B:Prop} {w:cm (A,B)} (h1:¬ a=b→A) (h2:a=b→B):an (a != b) A B w:=⟨fun h=>h1 (by simpa using h),fun h=>h2 (by simpa using h)⟩
section
variable (P:Program) (T:Env) (H:View)
theorem Kj (F:SF) (vs:List V) (K:V→View→Prop):wF P F vs H K=(vs.length≤F.n∧wS P F.code (jg vs) H fun e T' H'=>(e=.ret∨e=.normal)∧xB T' H' F.res [] fun l=>yu (ah l) (fun v=>K v H') .mk):=propext Iff.rfl
theorem Ee (Q:Exit→Env→View→Prop):wS P .skip T H Q=Q .normal T H:=propext Iff.rfl
theorem Az (q:Bool) (gs:List SG) (Q:Exit→Env→View→Prop):wS P (.region q gs) T H Q=tb P q gs T H (Q .normal):=propext Iff.rfl
theorem x9 (aps:List (Nat × Nat)) (gs:List SG) (Q:Exit→Env→View→Prop):wS P (.q0 aps gs) T H Q=tb P false gs T H (fun T' H'=>uY aps T' (Q .normal T' H')):=propext Iff.rfl
theorem xc (tol:Nat × Nat × Nat) (aps:List (Nat × Nat)) (gs:List SG) (Q:Exit→Env→View→Prop):wS P (.yI tol aps gs) T H Q=tb P false gs T H (fun T' H'=>Fw P tol.1 (T' tol.2.1) (T' tol.2.2) H∧uY aps T' (Q .normal T' H')):=propext Iff.rfl
theorem DJ (K:Prop):uY [] T K=K:=propext Iff.rfl
theorem BQ (a b:Nat) (l:List (Nat × Nat)) (K:Prop):uY ((a,b) :: l) T K=(fF (T a) (T b)∧uY l T K):=propext Iff.rfl
theorem EL (i j k i' j' k':Nat):fF (.ptr i j k) (.ptr i' j' k')=(i≠i'):=propext Iff.rfl
theorem DB (i j k a b c d:Nat):fF (.ptr i j k) (.sl a b c d)=(i≠a):=propext Iff.rfl
theorem Co (i j k e:Nat):fF (.ptr i j k) (.emp e)=True:=id rfl
theorem Cs (i j k:Nat):fF (.ptr i j k) .de=True:=id rfl
theorem BM (i j k:Nat) (es:List (List V)):fF (.ptr i j k) (.aN es)=True:=id rfl
theorem EZ (a b c d e f g h:Nat):fF (.sl a b c d) (.sl e f g h)=(a≠e):=propext Iff.rfl
theorem Gr (a b c d e:Nat):fF (.sl a b c d) (.emp e)=True:=id rfl
theorem GG (a b c d:Nat):fF (.sl a b c d) .de=True:=id rfl
theorem HX (a b c d:Nat) (es:List (List V)):fF (.sl a b c d) (.aN es)=True:=id rfl
theorem Eh (k:Nat) (v:V):fF (.emp k) v=True:=by cases v <;> rfl
theorem Eu (v:V):fF .de v=True:=by cases v <;> rfl
theorem DN (es:List (List V)) (v:V):fF (.aN es) v=True:=by cases v <;> rfl
theorem CS (e:List V) (j:Nat) (v:V):fF (.aR e j) v=True:=by cases v <;> rfl
theorem GC (x y:SC) (Q:Exit→Env→View→Prop):wS P (.seq x y) T H Q=wS P x T H fun e T' H'=>xd e (wS P y T' H' Q) (Q e T' H'):=propext Iff.rfl
theorem EJ (c:SX) (x y:SC) (Q:Exit→Env→View→Prop):wS P (.cond c x y) T H Q=cT (c.at T) (fun v=>match v with
    | .val (.bool b)=>an b (wS P x (pB c true T) H Q) (wS P y (pB c false T) H Q) .mk
    | _=>False) .mk:=propext Iff.rfl
theorem BL (id:Nat) (c:SC) (Q:Exit→Env→View→Prop):wS P (.block id c) T H Q=wS P c T H fun e=>Q (nS id e):=propext Iff.rfl
theorem D8 (id:Nat) (Q:Exit→Env→View→Prop):wS P (.exit id) T H Q=Q (.exit id) T H:=propext Iff.rfl
theorem HS (Q:Exit→Env→View→Prop):wS P .ret T H Q=Q .ret T H:=propext Iff.rfl
theorem Dx (c:SC) (Q:Exit→Env→View→Prop):wS P (.loop c) T H Q=bw P c T H Q .mk:=propext Iff.rfl
theorem D1 (q:Bool) (K:Env→View→Prop):tb P q [] T H K=K T H:=propext Iff.rfl
theorem BO (q:Bool) (g:SG) (r:List SG) (K:Env→View→Prop):tb P q (g :: r) T H K=wG P q g T H fun T' H'=>tb P q r T' H' K:=propext Iff.rfl
theorem D6 (q:Bool) (ops:List (Option Nat × SB)) (K:Env→View→Prop):wG P q ⟨none,ops⟩ T H K=uM P q ops T H K:=propext Iff.rfl
theorem D2 (q:Bool) (d:Nat) (ops:List (Option Nat × SB)) (K:Env→View→Prop):wG P q ⟨some (d,true),ops⟩ T H K=cT (T d) (fun v=>match v with
    | .val (.bool b)=>an b (uM P q ops (T.put (some d) (.val (.bool true))) H K) (K (fy ops (T.put (some d) (.val (.bool false)))) H) .mk
    | .bg []=>K (fy ops T) H
    | _=>False) .mk:=propext Iff.rfl
theorem B3 (q:Bool) (d:Nat) (ops:List (Option Nat × SB)) (K:Env→View→Prop):wG P q ⟨some (d,false),ops⟩ T H K=cT (T d) (fun v=>match v with
    | .val (.bool b)=>an b (K (fy ops (T.put (some d) (.val (.bool true)))) H) (uM P q ops (T.put (some d) (.val (.bool false))) H K) .mk
    | .bg []=>K (fy ops T) H
    | _=>False) .mk:=by
  simp only[wG,cT]
  generalize T d=v
  cases v with
  | val x=>cases x <;> simp[an,and_comm]
  | bg l=>cases l <;> simp
  | _=>simp
theorem vA:fy [] T=T:=id rfl
theorem uj (d:Option Nat) (b:SB) (r:List (Option Nat × SB)):fy ((d,b) :: r) T=fy r (T.put d (.bg [])):=id rfl
theorem Dy (q:Bool) (K:Env→View→Prop):uM P q [] T H K=K T H:=propext Iff.rfl
theorem Bd (q:Bool) (d:Option Nat) (b:SB) (r:List (Option Nat × SB)) (K:Env→View→Prop):uM P q ((d,b) :: r) T H K=wB P q b T H fun v H'=>yu v (fun v'=>uM P q r (T.put d v') H' K) .mk:=propext Iff.rfl
theorem Kq (q:Bool) (s:SI) (K:V→View→Prop):wB P q (.op s) T H K=wI P s T H K:=propext Iff.rfl
theorem EY (q:Bool) (f:SX) (args:List SX) (K:V→View→Prop):wB P q (.call f args) T H K=cT (f.at T) (fun v=>match v with
    | .fn g first cap=>aF P q g (first ++ args.map (SX.at T) ++ cap) H K .mk
    | _=>False) .mk:=propext Iff.rfl
theorem Ia (x:SX) (K:V→View→Prop):wI P (.bd x) T H K=K (x.at T) H:=propext Iff.rfl
theorem Er (c a b:SX) (K:V→View→Prop):wI P (.pick c a b) T H K=cT (c.at T) (fun v=>match v with
    | .val (.bool t)=>an t (K (a.at T) H) (K (b.at T) H) .mk
    | _=>False) .mk:=by
  simp only[wI,cT]
  generalize c.at T=v
  cases v with
  | val x =>
    cases x with
    | bool t=>cases t <;> simp[an]
    | _=>simp
  | _=>simp
theorem HH (x:SX) (K:V→View→Prop):wI P (.box x) T H K=cT (x.at T) (fun v=>v.cells.all aM=true∧yu v.cells (fun cs=>∀ n,H n=.dead→K (.ptr n 0 0) (H.set n (.arr cs.length [cs]))) .mk) .mk:=propext Iff.rfl
theorem G5 (x:SX) (K:V→View→Prop):wI P (.gh x) T H K=cT (x.at T) (fun v=>v.cells.all aM=true∧yu v.cells (fun cs=>K (.aR cs 0) H) .mk) .mk:=propext Iff.rfl
theorem Bn (z:List V) (K:V→View→Prop):wI P (.alloc z) T H K=(z.all aM=true∧∀ n,H n=.dead→K (.ptr n 0 0) (H.set n (.arr z.length [z]))):=propext Iff.rfl
theorem EN (sz:Option Nat) (a:SX) (K:V→View→Prop):wI P (.load sz a) T H K=cT (a.at T) (fun v=>match v with
    | .ptr id i j=>CN (H id) (fun o=>match o with
      | .arr _ es=>i < es.length∧yu (es.getD i []) (fun e=>gK sz e j fun v=>K v H) .mk
      | _=>False) .mk
    | .aR e j=>gK sz e j fun v=>K v H
    | _=>False) .mk:=propext Iff.rfl
theorem Bz (sz:Option Nat) (a:SX) (K:V→View→Prop):wI P (.ve sz a) T H K=cT (a.at T) (fun v=>match v with
    | .aR e j=>gK sz e j fun v=>K v H
    | _=>False) .mk:=propext Iff.rfl
theorem BE (sz:Nat) (a x:SX) (K:V→View→Prop):wI P (.store sz a x) T H K=cT (a.at T) (fun v=>match v with
    | .ptr id i j=>CN (H id) (fun o=>match o with
      | .arr esz es=>yu (x.at T).cells (fun cs=>(i < es.length∧cs.length=sz∧j+cs.length≤esz∧cs.all aM=true) ∧
          yu (es.set i (ab (es.getD i []) j cs)) (fun es'=>K .any (H.set id (.arr esz es'))) .mk) .mk
      | _=>False) .mk
    | _=>False) .mk:=propext Iff.rfl
theorem Ei (x:SX) (K:V→View→Prop):wI P (.w6 x) T H K=cT (x.at T) (fun v=>match v with
    | .ptr id i j=>K (.ptr id i j) H
    | .aR e j=>K (.aR e j) H
    | .fn f a b=>K (.fn f a b) H
    | _=>False) .mk:=propext Iff.rfl
theorem DS (off:Nat) (x:SX) (K:V→View→Prop):wI P (.addr off x) T H K=cT (x.at T) (fun v=>match v with
    | .ptr id i j=>K (.ptr id i (j+off)) H
    | .aR e j=>K (.aR e (j+off)) H
    | _=>False) .mk:=propext Iff.rfl
theorem CA (off:Nat) (sz:Option Nat) (x:SX) (K:V→View→Prop):wI P (.field off sz x) T H K=cT (x.at T) (fun v=>match v with
    | .agg cs=>gK sz cs off fun v=>K v H
    | _=>False) .mk:=propext Iff.rfl
theorem HY (sz:Nat) (x i:SX) (K:V→View→Prop):wI P (.idx sz x i) T H K=mV (asNat (i.at T)) (fun o=>match o with
    | none=>False
    | some q=>cT (x.at T) (fun v=>match v with
      | .sl id off len esz=>(q < len∧esz=sz)∧K (.ptr id (off+q) 0) H
      | .aN es=>mV es[q]? (fun o=>match o with
        | some e=>e.length=sz∧K (.aR e 0) H
        | none=>False) .mk
      | _=>False) .mk) .mk:=by
  simp only[wI,mV,cT]
  cases asNat (i.at T) with
  | none=>rfl
  | some q =>
    simp only
    cases x.at T with
    | aN es =>
      simp only
      cases h:es[q]? with
      | none=>simp
      | some e=>simp
    | _=>rfl
theorem Ef (f:FuncId) (first cap:List SX) (K:V→View→Prop):wI P (.sJ f first cap) T H K=K (.fn f (first.map (SX.at T)) (cap.map (SX.at T))) H:=propext Iff.rfl
theorem BI (K:V→View→Prop):wI P .pU T H K=(∀ n,H n=.dead→K (.mp n) (H.set n (.map [] 0))):=propext Iff.rfl
theorem HM (i:Nat) (x:SX) (K:V→View→Prop):wI P (.ext i x) T H K=cT (x.at T) (fun v=>match v with
    | .bg vs=>i < vs.length∧K (vs.getD i .any) H
    | _=>False) .mk:=propext Iff.rfl
theorem Hw (x:SX) (K:V→View→Prop):wI P (.len x) T H K=mV (dB (x.at T)) (fun o=>match o with
    | some n=>K (aj n) H
    | none=>False) .mk:=propext Iff.rfl
theorem Ew (x:SX) (K:V→View→Prop):wI P (.fM x) T H K=cT (x.at T) (fun v=>match v with
    | .val (.string s)=>K (aj s.size) H
    | _=>False) .mk:=propext Iff.rfl
theorem CC (op:BinOp) (x y:SX) (K:V→View→Prop):wI P (.arith op x y) T H K=cT (x.at T) (fun v=>cT (y.at T) (fun v'=>match v,v' with
    | .val (.int k a),.val (.int k' b)=>k=k'∧mV (ag op k a b) (fun o=>match o with | some v=>K (.val v) H | none=>False) .mk
    | _,_=>False) .mk) .mk:=propext Iff.rfl
theorem Ku (l:Bool) (x y:SX) (K:V→View→Prop):wI P (.sh l x y) T H K=cT (x.at T) (fun v=>cT (y.at T) (fun v'=>match v,v' with
    | .val (.int k a),.val (.int _ b)=>0≤b∧K (.val (.int k (FY l k a b))) H
    | _,_=>False) .mk) .mk:=propext Iff.rfl
theorem HZ (op:BinOp) (x y:SX) (K:V→View→Prop):wI P (.ia op x y) T H K=cT (x.at T) (fun v=>cT (y.at T) (fun v'=>match v,v' with
    | .val (.string a),.val (.string b)=>(match op with
      | .eql=>K (.val (.bool (fE a b))) H
      | .neq=>K (.val (.bool (!fE a b))) H
      | _=>False)
    | _,_=>False) .mk) .mk:=propext Iff.rfl
theorem EC (x i:SX) (K:V→View→Prop):wI P (.cU x i) T H K=cT (x.at T) (fun v=>mV (asNat (i.at T)) (fun o=>match v,o with
    | .val (.string s),some q=>mV (dI s)[q]? (fun o=>match o with
      | some c=>K (.val (.int .u8 c)) H
      | none=>False) .mk
    | _,_=>False) .mk) .mk:=by
  simp only[wI,mV,cT]
  generalize x.at T=v
  generalize asNat (i.at T)=o
  cases v with
  | val u =>
    cases u with
    | string s =>
      cases o with
      | none=>rfl
      | some q =>
        simp only[dI,List.getElem?_map]
        cases h:s.data.toList[q]? with
        | none=>simp
        | some e=>simp
    | _=>rfl
  | _=>rfl
theorem Hj (x:SX) (K:V→View→Prop):wI P (.not x) T H K=cT (x.at T) (fun v=>match v with
    | .val (.bool t)=>K (.val (.bool (!t))) H
    | _=>False) .mk:=propext Iff.rfl
theorem Gt (eq:Bool) (k:Nat) (x y:SX) (K:V→View→Prop):wI P (.nil eq k x y) T H K=mV (ai (isNil k (x.at T)) (isNil k (y.at T))) (fun o=>match o with
    | some b=>K (.val (.bool (if eq=true then b else !b))) H
    | none=>False) .mk:=propext Iff.rfl
theorem EV (x y:SX) (K:V→View→Prop):wI P (.beq true x y) T H K=cT (x.at T) (fun v=>cT (y.at T) (fun v'=>match v,v' with
    | .val (.bool a),.val (.bool b)=>K (.val (.bool (a == b))) H
    | _,_=>False) .mk) .mk:=propext Iff.rfl
theorem EA (x y:SX) (K:V→View→Prop):wI P (.beq false x y) T H K=cT (x.at T) (fun v=>cT (y.at T) (fun v'=>match v,v' with
    | .val (.bool a),.val (.bool b)=>K (.val (.bool (a != b))) H
    | _,_=>False) .mk) .mk:=propext Iff.rfl
theorem HK (x y:SX) (K:V→View→Prop):wI P (.mm true x y) T H K=cT (x.at T) (fun v=>cT (y.at T) (fun v'=>match v,v' with
    | .val (.int k a),.val (.int _ b)=>K (.val (.int k (if b > a then b else a))) H
    | _,_=>False) .mk) .mk:=propext Iff.rfl
theorem Ib (x y:SX) (K:V→View→Prop):wI P (.mm false x y) T H K=cT (x.at T) (fun v=>cT (y.at T) (fun v'=>match v,v' with
    | .val (.int k a),.val (.int _ b)=>K (.val (.int k (if b < a then b else a))) H
    | _,_=>False) .mk) .mk:=propext Iff.rfl
theorem ED (k:IntKind) (x:SX) (K:V→View→Prop):wI P (.conv k x) T H K=cT (x.at T) (fun v=>match v with
    | .val (.int _ a)=>K (.val (.int k (k.wrap a))) H
    | _=>False) .mk:=propext Iff.rfl
theorem Bw (n k:Nat) (o:bN):View.set H n o k=if k=n then o else H k:=id rfl
theorem BK (z:List V) (parts:List (Nat × Nat × SX)) (K:V→View→Prop):wI P (.build z parts) T H K=mV (ae z (parts.map fun p=>(p.1,p.2.1,p.2.2.at T))) (fun o=>match o with
    | some cs=>K (.agg cs) H
    | none=>False) .mk:=propext Iff.rfl
theorem AA (len sz:Nat) (z:List V) (parts:List (Nat × SX)) (K:V→View→Prop):wI P (.bE len sz z parts) T H K=mV (af sz (List.replicate len z) (parts.map fun p=>(p.1,p.2.at T))) (fun o=>match o with
    | some es=>∀ n,H n=.dead→K (.sl n 0 len sz) (H.set n (.arr sz es))
    | none=>False) .mk:=propext Iff.rfl
theorem By (sz:Nat) (x:SX) (lo hi:Option SX) (K:V→View→Prop):wI P (.slice sz x lo hi) T H K=mV (fX sz (x.at T) (lo.map (SX.at T)) (hi.map (SX.at T))) (fun o=>match o with
    | some (v,.none,_)=>K v H
    | _=>False) .mk:=propext Iff.rfl
theorem Dz (sz bytes:Nat) (z:List V) (l c:SX) (K:V→View→Prop):wI P (.make sz bytes z l c) T H K=mV (asNat (l.at T)) (fun a=>mV (asNat (c.at T)) (fun b=>match a,b with
    | some l,some c=>(l≤c∧c < aL∧bytes * c < aL)∧(c=0→K (.emp 2) H)∧(c≠0→∀ n,H n=.dead→K (.sl n 0 l sz) (H.set n (.arr sz (List.replicate l z))))
    | _,_=>False) .mk) .mk:=propext Iff.rfl
def k9 (sz bytes:Nat) (x:V) (xs:List (List V)) (H:View) (K:V→View→Prop) (_:cm (H,K)):Prop:=if xs.isEmpty=true then (match x with
        | .emp k=>K (.emp k) H
        | .de=>K .de H
        | .aN es=>K (.aN es) H
        | .sl a b c d=>K (.sl a b c d) H
        | _=>False)
      else (xs.all fun e=>e.length == sz && e.all aM)=true∧(match x with
        | .emp _=>(xs.length * bytes < aL∧xs.length < aL)∧∀ n,H n=.dead→K (.sl n 0 xs.length sz) (H.set n (.arr sz xs))
        | .sl id off len esz=>match H id with
          | .arr _ es=>(off+len≤es.length∧esz=sz∧(len+xs.length) * bytes < aL∧len+xs.length < aL) ∧
              ∀ n,H n=.dead→K (.sl n 0 (len+xs.length) esz) ((H.set id .dead).set n (.arr esz ((es.drop off).take len ++ xs)))
          | _=>False
        | _=>False)
theorem GX (sz bytes:Nat) (x y:SX) (K:V→View→Prop):wI P (.app sz bytes x y) T H K=mV (bO H (y.at T)) (fun o=>match o with
    | some (xs,_)=>k9 sz bytes (x.at T) xs H K .mk
    | none=>False) .mk:=propext Iff.rfl
theorem uZ (sz bytes k:Nat) (xs:List (List V)) (K:V→View→Prop) (w:cm (H,K)) (h0:xs.isEmpty=false):k9 sz bytes (.emp k) xs H K w=((xs.all fun e=>e.length == sz && e.all aM)=true∧(xs.length * bytes < aL∧xs.length < aL)∧∀ n,H n=.dead→K (.sl n 0 xs.length sz) (H.set n (.arr sz xs))):=by
  unfold k9; rw[if_neg (by rw[h0]; simp)]
theorem oz (sz bytes id off len esz:Nat) (xs:List (List V)) (K:V→View→Prop) (w:cm (H,K)) (h0:xs.isEmpty=false):k9 sz bytes (.sl id off len esz) xs H K w=((xs.all fun e=>e.length == sz && e.all aM)=true∧CN (H id) (fun o=>match o with
          | .arr _ es=>(off+len≤es.length∧esz=sz∧(len+xs.length) * bytes < aL∧len+xs.length < aL) ∧
              ∀ n,H n=.dead→K (.sl n 0 (len+xs.length) esz) ((H.set id .dead).set n (.arr esz ((es.drop off).take len ++ xs)))
          | _=>False) .mk):=by
  unfold k9 CN; rw[if_neg (by rw[h0]; simp)]
theorem sn (id off len esz z:Nat) (es:List (List V)) (hH:H id=.arr z es) (hl:off+(len+1)≤es.length):bO H (.sl id off (len+1) esz)=some ((es.drop off).take (len+1),[id]):=by
  simp only[bO,hH]; rw[if_pos hl]
theorem qn (es:List (List V)):bO H (.aN es)=some (es,[]):=id rfl
theorem qo (k:Nat):bO H (.emp k)=some ([],[]):=id rfl
theorem Ej (x:SX) (K:V→View→Prop):wI P (.y7 x) T H K=cT (x.at T) (fun v=>match v with
    | .aN es=>mV (mI es) (fun o=>match o with
      | some l=>K (.val (.string ⟨l.toArray⟩)) H
      | none=>False) .mk
    | _=>False) .mk:=propext Iff.rfl
theorem DL (x:SX) (K:V→View→Prop):wI P (.dW x) T H K=cT (x.at T) (fun v=>match v with
    | .val (.string s)=>K (.aN (er s)) H
    | _=>False) .mk:=propext Iff.rfl
def mz (P:Program) (op:Op) (ty:TypeId) (T:Env) (H:View) (K:V→View→Prop) (_:cm (T,H,K)):Prop:=wI P (.old op ty) T H K
theorem IG (op:Op) (ty:TypeId) (K:V→View→Prop):wI P (.old op ty) T H K=mz P op ty T H K .mk:=propext Iff.rfl
theorem IL (t:Nat):ev T (.tmp t)=T t:=id rfl
theorem Cl (v:Value):ev T (.const v)=eK v:=id rfl
theorem Gq (t:Nat):(SX.tmp t).at T=T t:=id rfl
theorem HC (v:V):(SX.val v).at T=v:=id rfl
theorem Eg (d t:Nat) (v:V):(T.put (some d) v) t=if t=d then v else T t:=id rfl
theorem Bj (v:V):T.put none v=T:=id rfl
theorem Cb (vs:List V) (t:Nat):jg vs t=vs.getD t .any:=id rfl
theorem xy (e:List V) (j:Nat) (K:V→Prop):gK none e j K=(j < e.length∧K (e.getD j .any)):=propext Iff.rfl
theorem xW (n:Nat) (e:List V) (j:Nat) (K:V→Prop):gK (some n) e j K=(j+n≤e.length∧K (.agg ((e.drop j).take n))):=propext Iff.rfl
theorem xF (a b:Prop):xd .normal a b=a:=propext Iff.rfl
theorem Cf (i:Nat) (a b:Prop):xd (.exit i) a b=b:=propext Iff.rfl
theorem D7 (a b:Prop):xd .ret a b=b:=propext Iff.rfl
theorem uK (i:Nat):nS i .normal=.normal:=id rfl
theorem Ar (i:Nat):nS i .ret=.ret:=id rfl
theorem x5 (i j:Nat):nS i (.exit j)=if j=i then .normal else .exit j:=by simp only[nS]
theorem Es (acc:List V) (K:List V→Prop):xB T H [] acc K=K acc:=propext Iff.rfl
theorem B8 (r:SR) (l:List SR) (acc:List V) (K:List V→Prop):xB T H (r :: l) acc K=wR T H r fun v=>xB T H l (acc ++ [v]) K:=propext Iff.rfl
theorem Ie (t:Nat) (K:V→Prop):wR T H (.tmp t) K=K (T t):=propext Iff.rfl
theorem D5 (t:Nat) (sz:Option Nat) (K:V→Prop):wR T H (.cell t sz) K=cT (T t) (fun v=>match v with
    | .ptr id i j=>CN (H id) (fun o=>match o with
      | .arr _ es=>i < es.length∧yu (es.getD i []) (fun e=>gK sz e j K) .mk
      | _=>False) .mk
    | .aR e j=>gK sz e j K
    | _=>False) .mk:=propext Iff.rfl
theorem zw (t:Nat) (b:Bool):pB (.tmp t) b T=T.put (some t) (.val (.bool b)):=id rfl
theorem zD (v:V) (b:Bool):pB (.val v) b T=T:=id rfl
theorem GJ:(Exit.ret=Exit.ret∨Exit.ret=Exit.normal)=True:=by simp
theorem zO:(Exit.normal=Exit.ret∨Exit.normal=Exit.normal)=True:=by simp
end
section
variable {P:Program} {T:Env} {H:View}
theorem bw.intro {c:SC} {Q:Exit→Env→View→Prop} {v:cm (T,H,Q)} (I:Nat→Env→View→Prop) (k:Nat) (h0:I k T H)
    (hs:∀ k T H,I k T H→wS P c T H fun e T' H'=>xd e (∃ k',k' < k∧I k' T' H') (Q e T' H')):bw P c T H Q v:=by
  simp only[bw,wS]
  exact ⟨I,⟨k,h0⟩,hs⟩
theorem aF.pure {q:Bool} {f:FuncId} {vs:List V} {K:V→View→Prop} {v:cm (H,K)} {t:V} (hc:aE P f vs t) (hok:cy P f=true) (hk:K t H):aF P q f vs H K v:=by
  unfold aF
  cases q with
  | true=>exact hc.JK hok hk
  | false =>
    refine ⟨hok,?_⟩
    rintro h rfl
    exact ⟨t,h,bL.fw hc h,.refl _,hk⟩
theorem aF.gH {f:FuncId} {vs:List V} {K:V→View→Prop} {v:cm (H,K)} (hc:aB P f vs H K):aF P false f vs H K v:=hc
theorem Au:aC.view []=fun _=>bN.dead:=by funext id; simp[aC.view]
theorem aE.of {f:FuncId} {vs:List V} {t:V} (ht:∀ v∈vs,Tree v) (h:aB P f vs (fun _=>.dead) fun r H'=>∀ h':aC,h'.view=H'→Fr h' r t):aE P f vs t:=by
  obtain ⟨r,h',ha,_,hf⟩:=h.2 [] Au
  exact aE.sF ht ha (hf h' rfl)
theorem wrap64 {x:Int} (h1 : -9223372036854775808≤x) (h2:x≤9223372036854775807):IntKind.wrap .i64 x=x:=by
  unfold IntKind.wrap
  have e1:(2:Int) ^ IntKind.i64.bits=18446744073709551616:=by rfl
  have e2:(2:Int) ^ (IntKind.i64.bits - 1)=9223372036854775808:=by rfl
  have e3:IntKind.i64.signed=true:=by rfl
  simp only[e1,e2,e3,Bool.true_and,decide_eq_true_eq]
  split <;> omega
theorem Ak {k:IntKind} {i:Int} (h:0≤i):asNat (.val (.int k i))=some i.toNat:=by simp[asNat,h]
end
theorem zN (v:Value):V.cells (.val v)=[.val v]:=id rfl
theorem y0 (v:Value):aM (.val v)=true:=id rfl
theorem zF (k:Nat):V.cells (.emp k)=[.emp k]:=id rfl
theorem ET (k:Nat):aM (.emp k)=true:=id rfl
theorem Ac  : V.cells .de=[.de]:=id rfl
theorem Ep  : aM .de=true:=id rfl
theorem zS (es:List (List V)):V.cells (.aN es)=[.aN es]:=id rfl
theorem DU (es:List (List V)):aM (.aN es)=true:=id rfl
theorem CZ (a b c d:Nat):V.cells (.sl a b c d)=[.sl a b c d]:=id rfl
theorem IJ (a b c d:Nat):aM (.sl a b c d)=true:=id rfl
theorem zT (a b c:Nat):V.cells (.ptr a b c)=[.ptr a b c]:=id rfl
theorem Ey (a b c:Nat):aM (.ptr a b c)=true:=id rfl
theorem xt (e:List V) (j:Nat):V.cells (.aR e j)=[.aR e j]:=id rfl
theorem CG (e:List V) (j:Nat):aM (.aR e j)=true:=id rfl
theorem C5 (a:Nat):V.cells (.mp a)=[.mp a]:=id rfl
theorem Hs (a:Nat):aM (.mp a)=true:=id rfl
theorem C8 (f:FuncId) (a b:List V):V.cells (.fn f a b)=[.fn f a b]:=id rfl
theorem Is (f:FuncId) (a b:List V):aM (.fn f a b)=true:=id rfl
theorem Aw (cs:List V):V.cells (.agg cs)=cs:=id rfl
theorem DW (k:Nat):dB (.emp k)=some 0:=id rfl
theorem D3:dB .de=some 0:=id rfl
theorem Eb (es:List (List V)):dB (.aN es)=some es.length:=id rfl
theorem Hm (a b c d:Nat):dB (.sl a b c d)=some c:=id rfl
abbrev MJ {p:Prop} (_:p):Prop:=p
abbrev Wr:Prop:=MJ (And.intro @Kj <| And.intro @Ee <| And.intro @Az <| And.intro @x9 <| And.intro @xc <| And.intro @DJ <| And.intro @BQ <| And.intro @GC <|
    And.intro @EJ <| And.intro @BL <| And.intro @D8 <| And.intro @HS <|
    And.intro @Dx <| And.intro @D1 <| And.intro @BO <| And.intro @D6 <|
    And.intro @D2 <| And.intro @B3 <| And.intro @vA <| And.intro @uj <|
    And.intro @Dy <| And.intro @Bd <| And.intro @Kq <| And.intro @EY <|
    And.intro @Ia <| And.intro @Er <| And.intro @HH <| And.intro @G5 <|
    And.intro @Bn <| And.intro @EN <| And.intro @Bz <| And.intro @BE <|
    And.intro @Ei <| And.intro @DS <| And.intro @CA <| And.intro @HY <|
    And.intro @Ef <| And.intro @BI <| And.intro @HM <| And.intro @Hw <|
    And.intro @Ew <| And.intro @CC <| And.intro @Ku <| And.intro @HZ <| And.intro @EC <|
    And.intro @Hj <| And.intro @Gt <| And.intro @EV <| And.intro @EA <|
    And.intro @HK <| And.intro @Ib <| And.intro @ED <| And.intro @Ej <|
    And.intro @DL <| And.intro @BK <| And.intro @AA <| And.intro @By <|
    And.intro @Dz <| And.intro @GX <| And.intro @IG <| And.intro @IL <| And.intro @Cl <| And.intro @Gq <| And.intro @HC <|
    And.intro @Eg <| And.intro @Bj <| And.intro @Cb <| And.intro @xy <|
    And.intro @xW <| And.intro @xF <| And.intro @Cf <| And.intro @D7 <|
    And.intro @uK <| And.intro @Ar <| And.intro @x5 <| And.intro @Es <|
    And.intro @B8 <| And.intro @Ie <| And.intro @D5 <| And.intro @zw @zD)
theorem wr:Wr:=(And.intro @Kj <| And.intro @Ee <| And.intro @Az <| And.intro @x9 <| And.intro @xc <| And.intro @DJ <| And.intro @BQ <| And.intro @GC <|
    And.intro @EJ <| And.intro @BL <| And.intro @D8 <| And.intro @HS <|
    And.intro @Dx <| And.intro @D1 <| And.intro @BO <| And.intro @D6 <|
    And.intro @D2 <| And.intro @B3 <| And.intro @vA <| And.intro @uj <|
    And.intro @Dy <| And.intro @Bd <| And.intro @Kq <| And.intro @EY <|
    And.intro @Ia <| And.intro @Er <| And.intro @HH <| And.intro @G5 <|
    And.intro @Bn <| And.intro @EN <| And.intro @Bz <| And.intro @BE <|
    And.intro @Ei <| And.intro @DS <| And.intro @CA <| And.intro @HY <|
    And.intro @Ef <| And.intro @BI <| And.intro @HM <| And.intro @Hw <|
    And.intro @Ew <| And.intro @CC <| And.intro @Ku <| And.intro @HZ <| And.intro @EC <|
    And.intro @Hj <| And.intro @Gt <| And.intro @EV <| And.intro @EA <|
    And.intro @HK <| And.intro @Ib <| And.intro @ED <| And.intro @Ej <|
    And.intro @DL <| And.intro @BK <| And.intro @AA <| And.intro @By <|
    And.intro @Dz <| And.intro @GX <| And.intro @IG <| And.intro @IL <| And.intro @Cl <| And.intro @Gq <| And.intro @HC <|
    And.intro @Eg <| And.intro @Bj <| And.intro @Cb <| And.intro @xy <|
    And.intro @xW <| And.intro @xF <| And.intro @Cf <| And.intro @D7 <|
    And.intro @uK <| And.intro @Ar <| And.intro @x5 <| And.intro @Es <|
    And.intro @B8 <| And.intro @Ie <| And.intro @D5 <| And.intro @zw @zD)
abbrev Wq:Prop:=MJ (And.intro @eq_self.{1} <| And.intro @ne_eq.{1} <| And.intro @implies_true.{1} <| And.intro @implies_true.{0} <| And.intro @decide_true <| And.intro @decide_false <| And.intro @EL <| And.intro @DB <| And.intro @Co <| And.intro @Cs <| And.intro @BM <| And.intro @CS <| And.intro @EZ <| And.intro @Gr <| And.intro @GG <| And.intro @HX <| And.intro @Eh <| And.intro @Eu <| And.intro @DN <| And.intro @zN <| And.intro @y0 <| And.intro @zF <| And.intro @ET <| And.intro @Ac <| And.intro @Ep <| And.intro @zS <| And.intro @DU <| And.intro @CZ <| And.intro @IJ <| And.intro @zT <| And.intro @Ey <| And.intro @xt <| And.intro @CG <| And.intro @C5 <| And.intro @Hs <| And.intro @C8 <| And.intro @Is <| And.intro @Aw <| And.intro @DW <| And.intro @D3 <| And.intro @Eb <| And.intro @Hm <| And.intro @true_or <| And.intro @or_true <| And.intro @or_false <| And.intro @false_or <|
    And.intro @MI <| And.intro @EX <| And.intro @EO <| And.intro @DK <|
    And.intro @DQ <| And.intro @Gu <| And.intro @Ek <| And.intro @CM <|
    And.intro @HV <| And.intro @IF <| And.intro @DM <| And.intro @Eo <|
    And.intro @En <| And.intro @EW <| And.intro @CJ <| And.intro @Cr <|
    And.intro @Ab <| And.intro @Ed <| And.intro @List.getD_cons_zero.{0} <| And.intro @List.getD_cons_succ.{0} <|
    And.intro @List.length_cons.{0} <| And.intro @List.length_nil.{0} <| And.intro @List.length_map.{0,0} <| And.intro @wrap64 <|
    And.intro @true_and <| And.intro @and_true <| And.intro @and_self <| And.intro @decide_eq_true_eq <|
    And.intro @decide_eq_false_iff_not <| And.intro @List.all_cons.{0} <| And.intro @List.all_nil.{0} <| And.intro @Bool.and_self <|
    And.intro @List.nil_append.{0} <| And.intro @List.cons_append.{0} <| And.intro @Nat.zero_add <| And.intro @Ak <|
    And.intro @Int.toNat_natCast <| And.intro @GJ <| And.intro @zO <| And.intro @bne_iff_ne.{0} <|
    And.intro @beq_iff_eq.{0} <| And.intro @Bool.not_eq_true <| And.intro @Bool.not_true <| And.intro @Bool.not_false <|
    And.intro @List.append_nil.{0} <| And.intro @List.map_cons.{0,0} <| And.intro @List.map_nil.{0,0} <| And.intro @Bool.true_eq_false <|
    And.intro @Bool.false_eq_true <| And.intro @false_implies <| And.intro @true_implies <| And.intro @Bool.not_not <|
    And.intro @List.drop_zero.{0} <| And.intro @Bw <| And.intro @List.set_cons_zero.{0} <| And.intro @List.set_cons_succ.{0} <|
    And.intro @List.drop_nil.{0} <| And.intro @Nat.add_zero <| And.intro @List.replicate_zero.{0} <| And.intro @List.replicate_succ.{0} <|
    And.intro @qn <| And.intro @qo <| And.intro @uZ <| And.intro @oz <|
    And.intro @List.isEmpty_cons.{0} <| And.intro @Option.map_none.{0,0} <| And.intro @Option.map_some.{0,0} <| And.intro @Nat.succ_ne_zero <|
    And.intro @List.take_succ_cons.{0} <| And.intro @List.take_zero.{0} <| And.intro @List.drop_succ_cons.{0} <| And.intro @bne_eq_false_iff_eq.{0} <|
    And.intro @beq_eq_false_iff_ne.{0} <| And.intro @not_true_eq_false <| And.intro @not_false_eq_true @Decidable.not_not)
theorem wq:Wq:=(And.intro @eq_self.{1} <| And.intro @ne_eq.{1} <| And.intro @implies_true.{1} <| And.intro @implies_true.{0} <| And.intro @decide_true <| And.intro @decide_false <| And.intro @EL <| And.intro @DB <| And.intro @Co <| And.intro @Cs <| And.intro @BM <| And.intro @CS <| And.intro @EZ <| And.intro @Gr <| And.intro @GG <| And.intro @HX <| And.intro @Eh <| And.intro @Eu <| And.intro @DN <| And.intro @zN <| And.intro @y0 <| And.intro @zF <| And.intro @ET <| And.intro @Ac <| And.intro @Ep <| And.intro @zS <| And.intro @DU <| And.intro @CZ <| And.intro @IJ <| And.intro @zT <| And.intro @Ey <| And.intro @xt <| And.intro @CG <| And.intro @C5 <| And.intro @Hs <| And.intro @C8 <| And.intro @Is <| And.intro @Aw <| And.intro @DW <| And.intro @D3 <| And.intro @Eb <| And.intro @Hm <| And.intro @true_or <| And.intro @or_true <| And.intro @or_false <| And.intro @false_or <|
    And.intro @MI <| And.intro @EX <| And.intro @EO <| And.intro @DK <|
    And.intro @DQ <| And.intro @Gu <| And.intro @Ek <| And.intro @CM <|
    And.intro @HV <| And.intro @IF <| And.intro @DM <| And.intro @Eo <|
    And.intro @En <| And.intro @EW <| And.intro @CJ <| And.intro @Cr <|
    And.intro @Ab <| And.intro @Ed <| And.intro @List.getD_cons_zero.{0} <| And.intro @List.getD_cons_succ.{0} <|
    And.intro @List.length_cons.{0} <| And.intro @List.length_nil.{0} <| And.intro @List.length_map.{0,0} <| And.intro @wrap64 <|
    And.intro @true_and <| And.intro @and_true <| And.intro @and_self <| And.intro @decide_eq_true_eq <|
    And.intro @decide_eq_false_iff_not <| And.intro @List.all_cons.{0} <| And.intro @List.all_nil.{0} <| And.intro @Bool.and_self <|
    And.intro @List.nil_append.{0} <| And.intro @List.cons_append.{0} <| And.intro @Nat.zero_add <| And.intro @Ak <|
    And.intro @Int.toNat_natCast <| And.intro @GJ <| And.intro @zO <| And.intro @bne_iff_ne.{0} <|
    And.intro @beq_iff_eq.{0} <| And.intro @Bool.not_eq_true <| And.intro @Bool.not_true <| And.intro @Bool.not_false <|
    And.intro @List.append_nil.{0} <| And.intro @List.map_cons.{0,0} <| And.intro @List.map_nil.{0,0} <| And.intro @Bool.true_eq_false <|
    And.intro @Bool.false_eq_true <| And.intro @false_implies <| And.intro @true_implies <| And.intro @Bool.not_not <|
    And.intro @List.drop_zero.{0} <| And.intro @Bw <| And.intro @List.set_cons_zero.{0} <| And.intro @List.set_cons_succ.{0} <|
    And.intro @List.drop_nil.{0} <| And.intro @Nat.add_zero <| And.intro @List.replicate_zero.{0} <| And.intro @List.replicate_succ.{0} <|
    And.intro @qn <| And.intro @qo <| And.intro @uZ <| And.intro @oz <|
    And.intro @List.isEmpty_cons.{0} <| And.intro @Option.map_none.{0,0} <| And.intro @Option.map_some.{0,0} <| And.intro @Nat.succ_ne_zero <|
    And.intro @List.take_succ_cons.{0} <| And.intro @List.take_zero.{0} <| And.intro @List.drop_succ_cons.{0} <| And.intro @bne_eq_false_iff_eq.{0} <|
    And.intro @beq_eq_false_iff_ne.{0} <| And.intro @not_true_eq_false <| And.intro @not_false_eq_true @Decidable.not_not)
end Gv
namespace Gv
open Go
inductive wU:V→Prop
  | val (v:Value):wU (.val v)
  | bg (cs:List V):(∀ i,i < cs.length→∃ v,cs.getD i .any=.val v)→wU (.bg cs)
theorem J2 {Z Z':Nat→Prop} {μ μ':Mu} {hp hp':Array Obj} {t:V} {x:Value} (hf:wU t) (h:aw Z μ hp t x):aw Z' μ' hp' t x:=by
  cases hf with
  | val=>cases h with | val _ hv=>exact .val _ hv
  | bg cs hc =>
    cases h with
    | bg _ aas h1 h2 =>
      refine .bg _ _ h1 fun i hi=>?_
      have:=h2 i hi
      obtain ⟨v,hv⟩:=hc i hi
      rw[hv] at this ⊢
      generalize aas.getD i undef=y at this ⊢
      cases this with | val _ hv=>exact .val _ hv
theorem bL.borrow {P:Program} {f:FuncId} {ts vs:List V} {t:V} {h:aC} (hc:aE P f ts t) (hf:wU t) (hl:ts.length=vs.length)
    (hfr:∀ i,i < vs.length→Fr h (vs.getD i .any) (ts.getD i .any)):bL P f vs h t h:=by
  refine ⟨Nat.le_refl _,fun Z μ F w xs hrel hr hfree=>?_⟩
  have hts:dG (fun b=>Z b∨fW μ b) μ w.heap ts xs:=⟨by rw[hl,hrel.1],fun i hi=>yd hr (hfr i (by omega)) (hrel.2 i (by omega))⟩
  have hzl:∀ b,(Z b∨fW μ b)→b < w.heap.size:=by
    rintro b (hb | ⟨id,o,s,hb⟩)
    · exact hr.bZ b hb
    · exact hr.lt _ _ _ _ hb
  refine (hc _ μ w xs hts hzl).mono ?_
  rintro e w' ⟨x,Z',rfl,hv,hs,hz,hz',ho⟩
  have hm:eL Z Z μ μ w.heap w'.heap:=⟨fun _ h=>h,fun b hb=>ho b (hr.bZ b hb) (fun x=>x),fun _ _ h=>h,ho.mX⟩
  exact ⟨x,Z,μ,rfl,J2 hf (hv μ),⟨fun id=>(hr.obj id).mono hm rfl (fun b o s hx=>ho b (hr.lt _ _ _ _ hx) (fun x=>x)),hr.inj,fun id b o s hx=>Nat.lt_of_lt_of_le (hr.lt _ _ _ _ hx) hs.size,fun b hb=>Nat.lt_of_lt_of_le (hr.bZ b hb) hs.size,hr.fh⟩,
    ⟨hs,hm,fun b hb _=>ho b hb (fun x=>x),fun b hb=>.inl hb,fun _ _ _ _ h=>.inl h⟩,fun _ _=>rfl⟩
def dt (H:View) (v t:V):Prop:=∀ h:aC,h.view=H→Fr h v t
theorem dt.tree {H:View} {v:V} (h:Tree v):dt H v v:=fun _ _=>.tree _ h
theorem dt.sl {H:View} {id off len esz z:Nat} {es:List (List V)} (hH:H id=.arr z es) (hle:off+len≤es.length) (ht:∀ e∈es,∀ v∈e,Tree v) :
    dt H (.sl id off len esz) (.aN ((es.drop off).take len)):=by
  rintro h rfl
  have hg:∀ i,i < len→((es.drop off).take len).getD i []=es.getD (off+i) []:=fun i hi=>by
    simp[List.getD_eq_getElem?_getD,List.getElem?_take,hi]
  refine .sl id off len esz z es _ hH hle (by simp; omega) (fun i hi=>by rw[hg i hi]) (fun i j hi hj=>?_)
  rw[hg i hi] at hj ⊢
  refine .tree _ ?_
  have h1:off+i < es.length:=by omega
  have e1:es.getD (off+i) []=es[off+i]:=by simp[List.getD_eq_getElem?_getD,h1]
  rw[e1] at hj ⊢
  have e2:(es[off+i]).getD j .any=(es[off+i])[j]:=by simp[List.getD_eq_getElem?_getD,hj]
  rw[e2]
  exact ht _ (List.getElem_mem _) _ (List.getElem_mem _)
theorem aF.borrow {P:Program} {q:Bool} {f:FuncId} {H:View} {vs ts:List V} {K:V→View→Prop} {v:cm (H,K)} {t:V} (hc:aE P f ts t) (hok:cy P f=true) (hf:wU t) (hl:ts.length=vs.length)
    (hfr:∀ i,i < vs.length→dt H (vs.getD i .any) (ts.getD i .any)) (hk:K t H):aF P q f vs H K v:=by
  unfold aF
  cases q with
  | true=>exact ⟨hok,fun h e=>⟨t,h,bL.borrow hc hf hl (fun i hi=>hfr i hi h e),fun _ _=>rfl,e ▸ hk⟩⟩
  | false =>
    refine ⟨hok,?_⟩
    rintro h rfl
    exact ⟨t,h,bL.borrow hc hf hl (fun i hi=>hfr i hi h rfl),.refl _,hk⟩
end Gv
set_option linter.unusedSimpArgs false
set_option maxRecDepth 100000
namespace Gv
open Go Go.Proofs
abbrev gi (x:Int):V:=.val (.int .i64 x)
abbrev gb (x:Bool):V:=.val (.bool x)
abbrev gs (x:ByteArray):V:=.val (.string x)
theorem mixed:(Tryz.prog).follows .mixedOrders=true:=by kernel_rfl
def encI (l:List Int):V:=.aN (l.map fun x=>[gi x])
def bR (l:List Bool):V:=.aN (l.map fun x=>[gb x])
theorem du (l:List Int):Tree (encI l):=by
  refine .aN _ fun i j hi hj=>?_
  simp only[List.length_map] at hi
  simp[List.getD_eq_getElem?_getD,hi] at hj ⊢
  subst hj
  exact .val _
def aH {α:Type} (l:List α):Prop:=l.length < 4611686018427387904
def kV:SC :=
  .seq (.seq (ak [aa 11 5,aa 12 0,aQ 13 12,aS 14 .lss 11 13]) <|
  .cond (.tmp 14) (.skip) (.exit 0)) <|
  .seq (.block 1 (.seq (ak [aa 17 0,aa 18 5,bo 19 1 17 18,aq 20 19,aa 21 1,aa 22 5,bo 23 1 21 22,aq 24 23,aS 25 .neq 20 24]) <|
  .cond (.tmp 25) (.seq (ak [aW 4 false]) <|
  .ret) (.skip))) <|
  ak [aa 15 5,aA 16 .add 15 1,aa 5 16]
def mK:SF:=⟨.seq (ak [aW 4 false]) <|
  .seq (.seq (ak [aa 6 0,aQ 7 6,aa 8 1,aQ 9 8,aS 10 .neq 7 9]) <|
  .cond (.tmp 10) (.seq (ak [aW 4 false]) <|
  .ret) (.skip)) <|
  .seq (.seq (ak [aI 5 0]) <|
  .block 0 (.loop kV)) <|
  .seq (ak [aW 4 true]) <|
  .ret,
  [.tmp 4],26⟩
theorem qY:aV Tryz.prog 17 []=some mK:=by kernel_rfl
theorem yJ {α:Type} [BEq α] [LawfulBEq α] {a b:List α} (h:a.length≠b.length):(a == b)=false:=by
  simp only[beq_eq_false_iff_ne]; intro e; exact h (by rw[e])
theorem KY (a b:List Int) (ha:aH a) (H:View):aB Tryz.prog 17 [encI a,encI b] H fun r H'=>r=gb (a == b)∧H'=H:=by
  refine aB.of mixed qY ?_
  unfold aH at ha
  simp (disch:=omega) only [↓wr,↓reduceIte,wq,ah,ag,aj,ab,ae,af,ai,isNil,Nat.reduceEqDiff,Nat.reduceAdd,Nat.reduceLT,Nat.reduceLeDiff,Int.reduceNeg,Int.reduceToNat,reduceCtorEq,mK,encI]
  refine an.ne (fun h=>?_) (fun h=>?_)
  · simp (disch:=omega) only [↓wr,↓reduceIte,wq,ah,ag,aj,ab,ae,af,ai,isNil,Nat.reduceEqDiff,Nat.reduceAdd,Nat.reduceLT,Nat.reduceLeDiff,Int.reduceNeg,Int.reduceToNat,reduceCtorEq]
    rw[yJ (by omega)]
  · simp (disch:=omega) only [↓wr,↓reduceIte,wq,ah,ag,aj,ab,ae,af,ai,isNil,Nat.reduceEqDiff,Nat.reduceAdd,Nat.reduceLT,Nat.reduceLeDiff,Int.reduceNeg,Int.reduceToNat,reduceCtorEq]
    refine bw.intro (fun k T H'=>∃ i:Nat,i+k=a.length∧a.take i=b.take i∧T 0=encI a∧T 1=encI b∧T 5=gi i∧H'=H) a.length ?_ ?_
    · exact ⟨0,by omega,by simp,rfl,rfl,rfl,rfl⟩
    · rintro k T H' ⟨i,hk,hi,h0,h1,h5,rfl⟩
      simp (disch:=omega) only [↓wr,↓reduceIte,wq,ah,ag,aj,ab,ae,af,ai,isNil,Nat.reduceEqDiff,Nat.reduceAdd,Nat.reduceLT,Nat.reduceLeDiff,Int.reduceNeg,Int.reduceToNat,reduceCtorEq,kV,h0,h1,h5,encI]
      refine an.dec (fun hc=>?_) (fun hc=>?_)
      · have h2:a[i]?=some (a[i]'(by omega)):=List.getElem?_eq_getElem (by omega)
        have h3:b[i]?=some (b[i]'(by omega)):=List.getElem?_eq_getElem (by omega)
        simp (disch:=omega) only [↓wr,↓reduceIte,wq,ah,ag,aj,ab,ae,af,ai,isNil,Nat.reduceEqDiff,Nat.reduceAdd,Nat.reduceLT,Nat.reduceLeDiff,Int.reduceNeg,Int.reduceToNat,reduceCtorEq,h0,h1,h5,encI,List.getElem?_map,h2,h3,Option.map_some]
        refine an.ne (fun hd=>?_) (fun hd=>?_)
        · simp (disch:=omega) only [↓wr,↓reduceIte,wq,ah,ag,aj,ab,ae,af,ai,isNil,Nat.reduceEqDiff,Nat.reduceAdd,Nat.reduceLT,Nat.reduceLeDiff,Int.reduceNeg,Int.reduceToNat,reduceCtorEq]
          have:(a == b)=false:=by
            simp only[beq_eq_false_iff_ne]; rintro rfl; exact hd rfl
          rw[this]
        · simp (disch:=omega) only [↓wr,↓reduceIte,wq,ah,ag,aj,ab,ae,af,ai,isNil,Nat.reduceEqDiff,Nat.reduceAdd,Nat.reduceLT,Nat.reduceLeDiff,Int.reduceNeg,Int.reduceToNat,reduceCtorEq,h0,h1,h5,encI]
          refine ⟨k - 1,by omega,i+1,by omega,?_,rfl⟩
          rw[List.take_add_one,List.take_add_one,hi,h2,h3,hd]
      · simp (disch:=omega) only [↓wr,↓reduceIte,wq,ah,ag,aj,ab,ae,af,ai,isNil,Nat.reduceEqDiff,Nat.reduceAdd,Nat.reduceLT,Nat.reduceLeDiff,Int.reduceNeg,Int.reduceToNat,reduceCtorEq,h0,h1,h5,encI]
        have:a=b:=by
          have e:i=a.length:=by omega
          rw[List.take_of_length_le (by omega),List.take_of_length_le (by omega)] at hi
          exact hi
        rw[this]; simp
theorem D0 (a b:List Int) (ha:aH a):aE Tryz.prog 17 [encI a,encI b] (gb (a == b)) :=
  aE.of (by simp[du]) ((KY a b ha _).mono fun r H' h h' _=>by rw[h.1]; exact .tree _ (.val _))
theorem iG (l:List Bool):Tree (bR l):=by
  refine .aN _ fun i j hi hj=>?_
  simp only[List.length_map] at hi
  simp[List.getD_eq_getElem?_getD,hi] at hj ⊢
  subst hj
  exact .val _
end Gv
set_option linter.unusedSimpArgs false
set_option maxRecDepth 100000
namespace Gv
open Go Go.Proofs
structure Term where
  name:ByteArray
  level:Int
  assoc:Int
structure aJ where
  left:Int
  right:List Int
  prec:Int
structure al where
  ay:List Term
  ax:List ByteArray
  rules:List aJ
  start:Int
instance:Inhabited Term:=⟨⟨.empty,0,0⟩⟩
instance:Inhabited aJ:=⟨⟨0,[],0⟩⟩
def cz (t:Term):List V:=[gs t.name,gi t.level,gi t.assoc]
def bf (r:aJ):List V:=[gi r.left,encI r.right,gi r.prec]
def encS (l:List ByteArray):V:=.aN (l.map fun s=>[gs s])
def av (g:al):List V:=[.aN (g.ay.map cz),encS g.ax,.aN (g.rules.map bf),gi g.start]
theorem eM {α:Type} (l:List α) (f:α→List V) (h:∀ x∈l,∀ v∈f x,Tree v):Tree (.aN (l.map f)):=by
  refine .aN _ fun i j hi hj=>?_
  simp only[List.length_map] at hi
  have e:(l.map f).getD i []=f l[i]:=by simp[List.getD_eq_getElem?_getD,hi]
  rw[e] at hj ⊢
  have e2:(f l[i]).getD j .any=(f l[i])[j]:=by simp[List.getD_eq_getElem?_getD,hj]
  rw[e2]
  exact h _ (List.getElem_mem _) _ (List.getElem_mem _)
theorem dp (cs:List V) (h:∀ v∈cs,Tree v):Tree (.agg cs):=by
  refine .agg _ fun i hi=>?_
  have e2:cs.getD i .any=cs[i]:=by simp[List.getD_eq_getElem?_getD,hi]
  rw[e2]; exact h _ (List.getElem_mem _)
theorem uG (l:List ByteArray):Tree (encS l):=eM _ _ fun x _ v hv=>by simp at hv; subst hv; exact .val _
theorem pE (t:Term):∀ v∈cz t,Tree v:=by intro v hv; simp[cz] at hv; rcases hv with rfl | rfl | rfl <;> exact .val _
theorem eZ (r:aJ):∀ v∈bf r,Tree v:=by
  intro v hv; simp[bf] at hv; rcases hv with rfl | rfl | rfl
  · exact .val _
  · exact du _
  · exact .val _
theorem dD (g:al):∀ v∈av g,Tree v:=by
  intro v hv; simp[av] at hv; rcases hv with rfl | rfl | rfl | rfl
  · exact eM _ _ fun x _=>pE x
  · exact uG _
  · exact eM _ _ fun x _=>eZ x
  · exact .val _
def bT (x:Int):Prop:=-9223372036854775808≤x∧x≤9223372036854775807
structure al.Ok (g:al):Prop where
  ay:aH g.ay
  ax:aH g.ax
  rules:aH g.rules
  start:bT g.start
  term:∀ t∈g.ay,bT t.level∧bT t.assoc
  bb:∀ r∈g.rules,bT r.left∧bT r.prec∧aH r.right∧∀ x∈r.right,bT x
def iA (g:al) (s:Int):Bool:=if 0≤s then decide (s < g.ay.length) else decide (-1 - s < g.ax.length)
def nO:SF:=⟨.seq (ak [c8 2 0,aW 4 false]) <|
  .seq (.seq (ak [aa 5 1,aA 6 .geq 5 0]) <|
  .cond (.tmp 6) (.seq (ak [aa 7 1,ao 8 0 2,aq 9 8,aQ 10 9,aS 11 .lss 7 10,aa 4 11]) <|
  .ret) (.skip)) <|
  .seq (ak [aa 12 1,((some 13),.op (.arith .sub (.val (.val (.int .i64 (-1)))) (.tmp 12))),ao 14 1 2,aq 15 14,aQ 16 15,aS 17 .lss 13 16,aa 4 17]) <|
  .ret,
  [.tmp 4],18⟩
theorem r6:aV Tryz.prog 143 [2]=some nO:=by kernel_rfl
theorem Lx (g:al) (s:Int) (hs:bT s) (H:View):aB Tryz.prog 143 [.agg (av g),gi s] H fun r H'=>r=gb (iA g s)∧H'=H:=by
  refine aB.of mixed r6 ?_
  obtain ⟨h1,h2⟩:=hs
  simp (disch:=omega) only [↓wr,↓reduceIte,wq,ah,ag,aj,ab,ae,af,ai,isNil,Nat.reduceEqDiff,Nat.reduceAdd,Nat.reduceLT,Nat.reduceLeDiff,Int.reduceNeg,Int.reduceToNat,reduceCtorEq,nO,av,encS]
  refine an.dec (fun h=>?_) (fun h=>?_)
  · simp (disch:=omega) only [↓wr,↓reduceIte,wq,ah,ag,aj,ab,ae,af,ai,isNil,Nat.reduceEqDiff,Nat.reduceAdd,Nat.reduceLT,Nat.reduceLeDiff,Int.reduceNeg,Int.reduceToNat,reduceCtorEq]
    simp[iA,show (0:Int)≤s from h]
  · simp (disch:=omega) only [↓wr,↓reduceIte,wq,ah,ag,aj,ab,ae,af,ai,isNil,Nat.reduceEqDiff,Nat.reduceAdd,Nat.reduceLT,Nat.reduceLeDiff,Int.reduceNeg,Int.reduceToNat,reduceCtorEq]
    simp[iA,show ¬ (0:Int)≤s from h]
theorem LU (g:al) (s:Int) (hs:bT s):aE Tryz.prog 143 [.agg (av g),gi s] (gb (iA g s)) :=
  aE.of (by
    intro v hv; simp at hv
    rcases hv with rfl | rfl
    · exact dp _ (dD g)
    · exact .val _) ((Lx g s hs _).mono fun r H' h h' _=>by rw[h.1]; exact .tree _ (.val _))
def kU (g:al):Bool:=decide (40 < g.ay.length) || decide (40 < g.ax.length) || decide (60 < g.rules.length) || g.rules.any fun r=>decide (20 < r.right.length)
def ka:SC :=
  .seq (.seq (ak [aa 20 3,ao 21 2 1,aq 22 21,aQ 23 22,aS 24 .lss 20 23]) <|
  .cond (.tmp 24) (.skip) (.exit 0)) <|
  .seq (.block 1 (.seq (ak [ao 27 2 1,aq 28 27,aa 29 3,bo 30 3 28 29,ao 31 1 30,aq 32 31,aQ 33 32,aA 34 .gtr 33 20]) <|
  .cond (.tmp 34) (.seq (ak [aW 2 true]) <|
  .ret) (.skip))) <|
  ak [aa 25 3,aA 26 .add 25 1,aa 3 26]
def lE:SF:=⟨.seq (ak [c8 1 0,aW 2 false]) <|
  .seq (.seq (.region false [⟨none,[ao 4 0 1,aq 5 4,aQ 6 5,aA 7 .gtr 6 40,aa 8 7]⟩,⟨(some (8,false)),[ao 9 1 1,aq 10 9,aQ 11 10,aA 12 .gtr 11 40]⟩,⟨none,[bC 13 8 12,aa 14 13]⟩,⟨(some (14,false)),[ao 15 2 1,aq 16 15,aQ 17 16,aA 18 .gtr 17 60]⟩,⟨none,[bC 19 14 18]⟩]) <|
  .cond (.tmp 19) (.seq (ak [aW 2 true]) <|
  .ret) (.skip)) <|
  .seq (.seq (ak [aI 3 0]) <|
  .block 0 (.loop ka)) <|
  .seq (ak [aW 2 false]) <|
  .ret,
  [.tmp 2],35⟩
theorem qE:aV Tryz.prog 12 [1]=some lE:=by kernel_rfl
theorem Jk (g:al) (H:View):aB Tryz.prog 12 [.agg (av g)] H fun r H'=>r=gb (kU g)∧H'=H:=by
  refine aB.of mixed qE ?_
  simp (disch:=omega) only [↓wr,↓reduceIte,wq,ah,ag,aj,ab,ae,af,ai,isNil,Nat.reduceEqDiff,Nat.reduceAdd,Nat.reduceLT,Nat.reduceLeDiff,Int.reduceNeg,Int.reduceToNat,reduceCtorEq,lE,av,encS]
  refine an.dec (fun h1=>?_) (fun h1=>?_)
  · simp (disch:=omega) only [↓wr,↓reduceIte,wq,ah,ag,aj,ab,ae,af,ai,isNil,Nat.reduceEqDiff,Nat.reduceAdd,Nat.reduceLT,Nat.reduceLeDiff,Int.reduceNeg,Int.reduceToNat,reduceCtorEq]
    simp[kU,show 40 < g.ay.length by omega]
  · simp (disch:=omega) only [↓wr,↓reduceIte,wq,ah,ag,aj,ab,ae,af,ai,isNil,Nat.reduceEqDiff,Nat.reduceAdd,Nat.reduceLT,Nat.reduceLeDiff,Int.reduceNeg,Int.reduceToNat,reduceCtorEq]
    refine an.dec (fun h2=>?_) (fun h2=>?_)
    · simp (disch:=omega) only [↓wr,↓reduceIte,wq,ah,ag,aj,ab,ae,af,ai,isNil,Nat.reduceEqDiff,Nat.reduceAdd,Nat.reduceLT,Nat.reduceLeDiff,Int.reduceNeg,Int.reduceToNat,reduceCtorEq]
      simp[kU,show 40 < g.ax.length by omega]
    · simp (disch:=omega) only [↓wr,↓reduceIte,wq,ah,ag,aj,ab,ae,af,ai,isNil,Nat.reduceEqDiff,Nat.reduceAdd,Nat.reduceLT,Nat.reduceLeDiff,Int.reduceNeg,Int.reduceToNat,reduceCtorEq]
      refine an.dec (fun h3=>?_) (fun h3=>?_)
      · simp (disch:=omega) only [↓wr,↓reduceIte,wq,ah,ag,aj,ab,ae,af,ai,isNil,Nat.reduceEqDiff,Nat.reduceAdd,Nat.reduceLT,Nat.reduceLeDiff,Int.reduceNeg,Int.reduceToNat,reduceCtorEq]
        simp[kU,show 60 < g.rules.length by omega]
      · simp (disch:=omega) only [↓wr,↓reduceIte,wq,ah,ag,aj,ab,ae,af,ai,isNil,Nat.reduceEqDiff,Nat.reduceAdd,Nat.reduceLT,Nat.reduceLeDiff,Int.reduceNeg,Int.reduceToNat,reduceCtorEq]
        refine bw.intro (fun k T H'=>∃ i:Nat,i+k=g.rules.length∧(∀ r∈g.rules.take i,¬ 20 < r.right.length)∧T 1=.aR (av g) 0∧T 3=gi i∧H'=H) g.rules.length ?_ ?_
        · exact ⟨0,by omega,by simp,rfl,rfl,rfl⟩
        · rintro k T H' ⟨i,hk,hi,e1,e3,rfl⟩
          simp (disch:=omega) only [↓wr,↓reduceIte,wq,ah,ag,aj,ab,ae,af,ai,isNil,Nat.reduceEqDiff,Nat.reduceAdd,Nat.reduceLT,Nat.reduceLeDiff,Int.reduceNeg,Int.reduceToNat,reduceCtorEq,ka,e1,e3,av]
          refine an.dec (fun hc=>?_) (fun hc=>?_)
          · have hg:g.rules[i]?=some (g.rules[i]'(by omega)):=List.getElem?_eq_getElem (by omega)
            simp (disch:=omega) only [↓wr,↓reduceIte,wq,ah,ag,aj,ab,ae,af,ai,isNil,Nat.reduceEqDiff,Nat.reduceAdd,Nat.reduceLT,Nat.reduceLeDiff,Int.reduceNeg,Int.reduceToNat,reduceCtorEq,e1,e3,av,bf,encI,List.getElem?_map,hg,Option.map_some]
            refine an.dec (fun hd=>?_) (fun hd=>?_)
            · simp (disch:=omega) only [↓wr,↓reduceIte,wq,ah,ag,aj,ab,ae,af,ai,isNil,Nat.reduceEqDiff,Nat.reduceAdd,Nat.reduceLT,Nat.reduceLeDiff,Int.reduceNeg,Int.reduceToNat,reduceCtorEq]
              have:g.rules.any (fun r=>decide (20 < r.right.length))=true:=by
                simp only[List.any_eq_true,decide_eq_true_eq]
                exact ⟨g.rules[i]'(by omega),List.getElem_mem _,by omega⟩
              simp[kU,this]
            · simp (disch:=omega) only [↓wr,↓reduceIte,wq,ah,ag,aj,ab,ae,af,ai,isNil,Nat.reduceEqDiff,Nat.reduceAdd,Nat.reduceLT,Nat.reduceLeDiff,Int.reduceNeg,Int.reduceToNat,reduceCtorEq,e1,e3]
              refine ⟨k - 1,by omega,i+1,by omega,?_,rfl,rfl⟩
              intro r hr
              rw[List.take_add_one,hg] at hr
              simp only[Option.toList_some,List.mem_append,List.mem_singleton] at hr
              rcases hr with hr | rfl
              · exact hi r hr
              · omega
          · simp (disch:=omega) only [↓wr,↓reduceIte,wq,ah,ag,aj,ab,ae,af,ai,isNil,Nat.reduceEqDiff,Nat.reduceAdd,Nat.reduceLT,Nat.reduceLeDiff,Int.reduceNeg,Int.reduceToNat,reduceCtorEq,e1,e3]
            have e:i=g.rules.length:=by omega
            rw[List.take_of_length_le (by omega)] at hi
            have:g.rules.any (fun r=>decide (20 < r.right.length))=false:=by
              simp only[List.any_eq_false,decide_eq_true_eq]; exact hi
            simp only[kU,this]
            simp; omega
end Gv
