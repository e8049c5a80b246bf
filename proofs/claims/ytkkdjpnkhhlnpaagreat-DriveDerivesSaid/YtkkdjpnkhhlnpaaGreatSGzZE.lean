/-
  Part 5 of the proof: what the machine does and what the functions answer.
  Conditions: those that each lemma names.
-/
import Derived.Test.YtkkdjpnkhhlnpaaGreatProg
import Derived.KernelRfl
import Derived.Test.YtkkdjpnkhhlnpaaGreatSGzZD
set_option linter.unusedSimpArgs false
set_option linter.unusedVariables false
set_option maxRecDepth 100000
namespace Gv
open Go Go.Proofs
section
variable {P:Program} {n:Nat} {all:List Oper}
theorem view_end (h:Heap):h.view h.length=.dead:=by simp[Heap.view,List.getD_eq_getElem?_getD]
theorem op_ok {o:Oper} {T:Env} {h:Heap} {s:SI} {K:V→View→Prop} (hg:guardV n all T o=some true) (hc:∀ v eff rd,sI P s T h.view h.length=some (v,eff,rd)→aop P o T h.view h.length=some (v,eff,rd)) (hw:wI P s T h.view K) :
    ∃ v h' rd wr,OStep P n all o T h v h' rd wr false∧Stay h h'∧K v h'.view∧LoudOk (loudI P s) rd wr false h.length h'.length:=by
  obtain ⟨v,eff,rd,hs,hk⟩:=wI_ok hw (view_end h)
  have ha:=hc _ _ _ hs
  have hlive:∀ id,id∈eff.wr→h.view id≠.dead:=fun id hid=>(aop_live ha id hid).1
  refine ⟨v,eff.apply h,rd,eff.wr,.op hg ha,?_,?_,?_,?_⟩
  · intro id hid hd
    rw[apply_view hlive]
    cases eff with
    | none=>exact hd
    | new o=>simp only[Eff.view,View.set]; rw[if_neg (by omega)]; exact hd
    | upd k o =>
      simp only[Eff.view,View.set]
      rw[if_neg (by rintro rfl; exact hlive id (by simp[Eff.wr]) hd)]; exact hd
    | mov k o =>
      simp only[Eff.view,View.set]
      rw[if_neg (by omega)]
      split
      · rfl
      · exact hd
  · rw[apply_view (fun id hid=>(aop_live ha id hid).1)]; exact hk
  · intro h0
    obtain ⟨rfl,rfl⟩:=(sI_loud hs).1 h0
    exact ⟨rfl,rfl,rfl,rfl⟩
  · intro h1
    rcases Nat.lt_or_ge (loudI P s) 1 with h2 | h2
    · obtain ⟨rfl,rfl⟩:=(sI_loud hs).1 (by omega); rfl
    · exact (sI_loud hs).2 (by omega)
theorem froz_ok {P:Program} {fr:Bool} {s:SI} {T:Env} {H:View} {n:Nat} {v:V} {eff:Eff} {rd:List Nat} (h:sI P (froz P fr s) T H n=some (v,eff,rd)):sI P s T H n=some (v,eff,rd):=by
  unfold froz at h
  split at h
  · split at h
    · exact loadF_ok h
    · exact h
  · split at h
    · rename_i hc
      simp only[Bool.and_eq_true] at hc
      exact strF_ok hc.2 h
    · exact h
  · exact h
theorem compB_cases (P:Program) (fz:Fz) (o:Oper) :
    (∃ f args ats,o.op=.call { callee:=.value f,args:=args,argTypes:=ats }∧compB P fz o=.call (SX.of f) (args.toList.map SX.of)) ∨
    (∃ t x,o.op=.box t x∧compB P fz o=.op (.frz (SX.of x)))∨(∃ s d x,o.op=.convert s d x∧toBytes P s d=true∧compB P fz o=.op (.frzB (SX.of x)))∨compB P fz o=.op (froz P fz.fr (comp P o)):=by
  unfold compB
  split
  · rename_i f args ats ho; exact .inl ⟨f,args,ats,ho,rfl⟩
  · rename_i t x ho
    by_cases hd:(match o.dst with | some d=>fz.l.contains d | none=>false)=true
    · exact .inr (.inl ⟨t,x,ho,if_pos hd⟩)
    · refine .inr (.inr (.inr ?_))
      refine (if_neg hd).trans ?_
      simp only[comp,ho,froz]
  · rename_i s d x ho
    by_cases hd:((match o.dst with | some d=>fz.l.contains d | none=>false) && toBytes P s d)=true
    · exact .inr (.inr (.inl ⟨s,d,x,ho,by simp only[Bool.and_eq_true] at hd; exact hd.2,if_pos hd⟩))
    · exact .inr (.inr (.inr (if_neg hd)))
  · exact .inr (.inr (.inr rfl))
theorem OStep.len {o:Oper} {T:Env} {h h':Heap} {v:V} {rd wr:List Nat} {call:Bool} (st:OStep P n all o T h v h' rd wr call):h.length≤h'.length:=by
  cases st with
  | skip=>exact Nat.le_refl _
  | op _ _=>rename_i eff _ _ ; cases eff <;> simp[Eff.apply]
  | frz _ _ _=>exact Nat.le_refl _
  | frzB _ _ _ _ _ _=>exact Nat.le_refl _
  | call _ _ _ _ ha _ _=>exact ha.1
theorem body_ok {fz:Fz} {o:Oper} {T:Env} {h:Heap} {quiet:Bool} {K:V→View→Prop} (hg:guardV n all T o=some true) (hw:wB P quiet (compB P fz o) T h.view K) :
    ∃ v h' rd wr call,OStep P n all o T h v h' rd wr call∧Stay h h'∧K v h'.view∧LoudOk (loudB P quiet (compB P fz o)) rd wr call h.length h'.length:=by
  rcases compB_cases P fz o with ⟨f,args,ats,ho,hc⟩ | ⟨t,x,ho,hc⟩ | ⟨s,d,x,ho,hcv,hc⟩ | hc
  · rw[hc] at hw ⊢
    simp only[wB] at hw
    split at hw
    · rename_i g first cap hf
      rw[map_of] at hw
      rw[SX.of_at] at hf
      split at hw
      · rename_i hq
        obtain ⟨hok,hq'⟩:=hw
        obtain ⟨r,h',hr,hold,hk⟩:=hq' h rfl
        refine ⟨r,h',[],[],true,.call hg ho hf hok hr (fun id hid _=>hold id hid) (fun id hid=>by simp at hid),fun id hid hd=>(hold id hid).trans hd,hk,?_,?_⟩
        · intro h0; simp[loudB,hq] at h0
        · intro _; rfl
      · rename_i hq
        obtain ⟨hok,hq'⟩:=hw
        obtain ⟨r,h',hr,hst,hk⟩:=hq' h rfl
        refine ⟨r,h',[],List.range h.length,true,.call hg ho hf hok hr (fun id hid hn=>?_) (fun id hid=>by simpa using hid),hst,hk,loud2 (by simp[loudB,hq])⟩
        exact absurd (by simpa using hid) hn
    · exact hw.elim
  · rw[hc] at hw ⊢
    simp only[wB,wI,SX.of_at] at hw
    exact ⟨_,h,[],[],false,.frz hg ho hw.1,.refl _,hw.2,fun _=>⟨rfl,rfl,rfl,rfl⟩,fun _=>rfl⟩
  · rw[hc] at hw ⊢
    simp only[wB,wI,SX.of_at] at hw
    obtain ⟨e,h1,h2,h3⟩:=toBytes_inv hcv
    split at hw
    · rename_i st hx
      exact ⟨_,h,[],[],false,.frzB hg ho h1 h2 h3 hx,.refl _,hw,fun _=>⟨rfl,rfl,rfl,rfl⟩,fun _=>rfl⟩
    · exact hw.elim
  · rw[hc] at hw ⊢
    obtain ⟨v,h',rd,wr,h1,h0,h2,h3⟩:=op_ok (s:=froz P fz.fr (comp P o)) hg (fun v eff rd hs=>comp_ok (froz_ok hs)) hw
    exact ⟨v,h',rd,wr,false,h1,h0,h2,h3⟩
def RecsOk (P:Program) (quiet:Bool) (l:List SO) (recs:List Rec):Prop :=
  l.length=recs.length∧∀ (i:Nat) (s:SO) (r:Rec),l[i]?=some s→recs[i]?=some r→LoudOk (loudB P quiet s.b) r.rd r.wr r.call r.lo r.hi
theorem RecsOk.nil {quiet:Bool} : RecsOk P quiet [] []:=⟨rfl,fun i s r h=>by simp at h⟩
theorem RecsOk.cons {quiet:Bool} {l:List SO} {recs:List Rec} {s:SO} {r:Rec} (h:RecsOk P quiet l recs) (hr:LoudOk (loudB P quiet s.b) r.rd r.wr r.call r.lo r.hi):RecsOk P quiet (s :: l) (r :: recs):=by
  refine ⟨by simp[h.1],fun i s' r' hs hr'=>?_⟩
  cases i with
  | zero=>simp at hs hr'; subst hs hr'; exact hr
  | succ i=>exact h.2 i s' r' (by simpa using hs) (by simpa using hr')
theorem RecsOk.append {quiet:Bool} {l l':List SO} {recs recs':List Rec} (h:RecsOk P quiet l recs) (h':RecsOk P quiet l' recs'):RecsOk P quiet (l ++ l') (recs ++ recs'):=by
  refine ⟨by simp[h.1,h'.1],fun i s r hs hr=>?_⟩
  by_cases hi:i < l.length
  · rw[List.getElem?_append_left hi] at hs
    rw[List.getElem?_append_left (h.1 ▸ hi)] at hr
    exact h.2 i s r hs hr
  · rw[List.getElem?_append_right (by omega)] at hs
    rw[List.getElem?_append_right (by have:=h.1; omega)] at hr
    exact h'.2 (i - l.length) s r hs (by rw[h.1]; exact hr)
theorem compO_inv {fz:Fz} {o:Oper} {s:SO} (h:compO P n all fz o=some s):dstOk n o=true∧s.dst=o.dst∧s.b=compB P fz o∧guardS n all o=some s.guard:=by
  unfold compO at h
  split at h
  · rename_i hd
    simp only[Option.map_eq_some_iff] at h
    obtain ⟨g,hg,rfl⟩:=h
    exact ⟨hd,rfl,rfl,hg⟩
  · simp at h
theorem guard_none {o:Oper} {T:Env} (h:guardS n all o=some none):guardV n all T o=some true:=by
  unfold guardS at h
  unfold guardV
  split at h
  · rename_i hg; rw[hg]
  · split at h
    · split at h
      · simp at h
      · simp at h
    · simp at h
theorem guard_some {o:Oper} {T:Env} {d:Nat} {want:Bool} (h:guardS n all o=some (some (d,want))) :
    (∀ b,T d=.val (.bool b)→guardV n all T o=some (b == want))∧(T d=.tup []→guardV n all T o=some false):=by
  unfold guardS at h
  unfold guardV
  split at h
  · simp at h
  · rename_i j w hg
    rw[hg]
    split at h
    · rename_i d' hd
      split at h
      · rename_i hlt
        simp at h
        obtain ⟨rfl,rfl⟩:=h
        simp only[hd,hlt,if_true]
        exact ⟨fun b hb=>by rw[hb],fun hb=>by rw[hb]⟩
      · simp at h
    · simp at h
theorem compOs_nil {fz:Fz} {os:List Oper} (h:compOs P n all fz os=some []):os=[]:=by
  cases os with
  | nil=>rfl
  | cons o r =>
    simp only[compOs] at h
    split at h <;> simp at h
theorem compOs_cons {fz:Fz} {os:List Oper} {s:SO} {l:List SO} (h:compOs P n all fz os=some (s :: l)):∃ o r,os=o :: r∧compO P n all fz o=some s∧compOs P n all fz r=some l:=by
  cases os with
  | nil=>simp[compOs] at h
  | cons o r =>
    simp only[compOs] at h
    split at h
    · rename_i s' l' h1 h2
      simp at h
      obtain ⟨rfl,rfl⟩:=h
      exact ⟨o,r,rfl,h1,h2⟩
    · simp at h
theorem compOs_append {fz:Fz} : ∀ {l l':List SO} {os:List Oper},compOs P n all fz os=some (l ++ l')→∃ a b,os=a ++ b∧compOs P n all fz a=some l∧compOs P n all fz b=some l'
  | [],l',os,h=>⟨[],os,rfl,rfl,h⟩
  | s :: l,l',os,h=>by
    obtain ⟨o,r,rfl,h1,h2⟩:=compOs_cons h
    obtain ⟨a,b,rfl,h3,h4⟩:=compOs_append h2
    exact ⟨o :: a,b,rfl,by simp[compOs,h1,h3],h4⟩
theorem Tr.append {a b:List Oper} {T T1 T2:Env} {h h1 h2:Heap} {r1 r2:List Rec} (x:Tr P n all a T h r1 T1 h1) (y:Tr P n all b T1 h1 r2 T2 h2):Tr P n all (a ++ b) T h (r1 ++ r2) T2 h2:=by
  induction x with
  | nil=>exact y
  | cons st hd _ ih=>exact .cons st hd (ih y)
theorem put_same {T:Env} {d:Nat} {v:V} (h:T d=v):T.put (some d) v=T:=by
  funext t
  simp only[Env.put]
  split
  · rename_i e; subst e; exact h.symm
  · rfl
theorem wBs_ok {fz:Fz} {quiet:Bool} {K:Env→View→Prop} (g:Option (Nat × Bool)):∀ (l:List (Option Nat × SB)) (os:List Oper) (T:Env) (h:Heap),
    compOs P n all fz os=some (l.map fun (d,b)=>⟨d,g,b⟩)→(∀ d w,g=some (d,w)→T d=.val (.bool w)∧(l.all fun x=>x.1 != some d)=true)→wBs P quiet l T h.view K →
    ∃ recs T' h',Tr P n all os T h recs T' h'∧(Stay h h'∧h.length≤h'.length)∧K T' h'.view∧RecsOk P quiet (l.map fun (d,b)=>⟨d,g,b⟩) recs
  | [],os,T,h,hc,hg,hw=>by
    have:=compOs_nil hc; subst this
    exact ⟨[],T,h,.nil,⟨.refl _,Nat.le_refl _⟩,hw,.nil⟩
  | (d,b) :: l,os,T,h,hc,hg,hw=>by
    obtain ⟨o,r,rfl,h1,h2⟩:=compOs_cons hc
    obtain ⟨hd,hd1,hb1,hg1⟩:=compO_inv h1
    simp only at hd1 hb1 hg1
    have hgv:guardV n all T o=some true:=by
      cases g with
      | none=>exact guard_none hg1
      | some p =>
        obtain ⟨d',w⟩:=p
        have:=(guard_some (T:=T) hg1).1 w (hg d' w rfl).1
        rw[this]; simp
    simp only[wBs] at hw
    rw[hb1] at hw
    obtain ⟨v,h',rd,wr,call,st,hst,hk,hl⟩:=body_ok hgv hw
    obtain ⟨recs,T',h'',tr,hst',hk',hro⟩:=wBs_ok g l r (T.put d v) h' h2 (fun d' w e=>by
      have:=hg d' w e
      simp only[List.all_cons,Bool.and_eq_true,bne_iff_ne,ne_eq] at this
      refine ⟨?_,this.2.2⟩
      rw[← this.1]
      cases d with
      | none=>rfl
      | some t=>simp only[Env.put]; rw[if_neg]; intro e; subst e; exact this.2.1 rfl) hk
    rw[hd1] at tr
    have hlen:=st.len
    exact ⟨_,T',h'',.cons st hd tr,⟨hst.trans hst'.1 hlen,Nat.le_trans hlen hst'.2⟩,hk',hro.cons (by rw[hb1]; exact hl)⟩
theorem skip_ok {fz:Fz} {quiet:Bool} (d:Nat) (w:Bool) (h:Heap):∀ (l:List (Option Nat × SB)) (os:List Oper) (T:Env),
    compOs P n all fz os=some (l.map fun (d',b)=>⟨d',some (d,w),b⟩)→(T d=.val (.bool !w)∨T d=.tup [])→(l.all fun x=>x.1 != some d)=true →
    ∃ recs,Tr P n all os T h recs (skipAll l T) h∧RecsOk P quiet (l.map fun (d',b)=>⟨d',some (d,w),b⟩) recs
  | [],os,T,hc,hd,hl=>by
    have:=compOs_nil hc; subst this
    exact ⟨[],.nil,.nil⟩
  | (d',b) :: l,os,T,hc,hd,hl=>by
    obtain ⟨o,r,rfl,h1,h2⟩:=compOs_cons hc
    obtain ⟨hd0,hd1,hb1,hg1⟩:=compO_inv h1
    simp only at hd1 hb1 hg1
    have hgv:guardV n all T o=some false:=by
      rcases hd with hd | hd
      · rw[(guard_some (T:=T) hg1).1 _ hd]; cases w <;> rfl
      · exact (guard_some (T:=T) hg1).2 hd
    simp only[List.all_cons,Bool.and_eq_true,bne_iff_ne,ne_eq] at hl
    obtain ⟨recs,tr,hro⟩:=skip_ok d w h l r (T.put d' (.tup [])) h2 (by
      have:(T.put d' (.tup [])) d=T d:=by
        cases d' with
        | none=>rfl
        | some t=>simp only[Env.put]; rw[if_neg]; intro e; subst e; exact hl.1 rfl
      rw[this]; exact hd) hl.2
    rw[hd1] at tr
    refine ⟨_,?_,hro.cons (r:=⟨[],[],false,h.length,h.length⟩) ⟨fun _=>⟨rfl,rfl,rfl,rfl⟩,fun _=>rfl⟩⟩
    have:=Tr.cons (.skip hgv) hd0 tr
    rw[skipAll,hd1]
    exact this
theorem wG_ok {fz:Fz} {quiet:Bool} {K:Env→View→Prop} {g:SG} {os:List Oper} {T:Env} {h:Heap} (hc:compOs P n all fz os=some g.flat) (hok:okG g=true) (hw:wG P quiet g T h.view K) :
    ∃ recs T' h',Tr P n all os T h recs T' h'∧(Stay h h'∧h.length≤h'.length)∧K T' h'.view∧RecsOk P quiet g.flat recs:=by
  unfold wG at hw
  unfold SG.flat at hc ⊢
  unfold okG at hok
  split at hw
  · rename_i hg
    rw[hg] at hc ⊢
    exact wBs_ok none g.ops os T h hc (fun d w e=>by simp at e) hw
  · rename_i d want hg
    rw[hg] at hc hok ⊢
    simp only at hok
    split at hw
    · rename_i b hb
      by_cases e:b=want
      · subst e
        have:=hw.1 rfl
        rw[put_same hb] at this
        exact wBs_ok (some (d,b)) g.ops os T h hc (fun d' w e=>by simp at e; obtain ⟨rfl,rfl⟩:=e; exact ⟨hb,hok⟩) this
      · have e':b = !want:=by cases b <;> cases want <;> simp_all
        have:=hw.2 e'
        subst e'
        rw[put_same hb] at this
        obtain ⟨recs,tr,hro⟩:=skip_ok (quiet:=quiet) d want h g.ops os T hc (.inl hb) hok
        exact ⟨recs,_,h,tr,⟨.refl _,Nat.le_refl _⟩,this,hro⟩
    · rename_i hb
      obtain ⟨recs,tr,hro⟩:=skip_ok (quiet:=quiet) d want h g.ops os T hc (.inr hb) hok
      exact ⟨recs,_,h,tr,⟨.refl _,Nat.le_refl _⟩,hw,hro⟩
    · exact hw.elim
theorem wGs_ok {fz:Fz} {quiet:Bool} {K:Env→View→Prop} : ∀ (gs:List SG) (os:List Oper) (T:Env) (h:Heap),compOs P n all fz os=some (flatG gs)→gs.all okG=true→wGs P quiet gs T h.view K →
    ∃ recs T' h',Tr P n all os T h recs T' h'∧(Stay h h'∧h.length≤h'.length)∧K T' h'.view∧RecsOk P quiet (flatG gs) recs
  | [],os,T,h,hc,_,hw=>by
    have:=compOs_nil hc; subst this
    exact ⟨[],T,h,.nil,⟨.refl _,Nat.le_refl _⟩,hw,.nil⟩
  | g :: gs,os,T,h,hc,hok,hw=>by
    simp only[flatG,List.map_cons,List.flatten_cons] at hc ⊢
    simp only[List.all_cons,Bool.and_eq_true] at hok
    obtain ⟨a,b,rfl,h1,h2⟩:=compOs_append hc
    obtain ⟨r1,T1,h1',tr1,st1,hk1,ro1⟩:=wG_ok h1 hok.1 hw
    obtain ⟨r2,T2,h2',tr2,st2,hk2,ro2⟩:=wGs_ok gs b T1 h1' h2 hok.2 hk1
    exact ⟨_,T2,h2',tr1.append tr2,⟨st1.1.trans st2.1 st1.2,Nat.le_trans st1.2 st2.2⟩,hk2,ro1.append ro2⟩
theorem Tr.at_ {os:List Oper} {T T':Env} {h h':Heap} {recs:List Rec} (tr:Tr P n all os T h recs T' h'):∀ (i:Nat) (o:Oper),os[i]?=some o →
    ∃ T1 h1 v h2 rd wr call recs2,recs[i]?=some ⟨rd,wr,call,h1.length,h2.length⟩∧OStep P n all o T1 h1 v h2 rd wr call∧h.length≤h1.length∧Tr P n all (os.drop (i+1)) (T1.put o.dst v) h2 recs2 T' h'∧(∀ m,recs2[m]?=recs[i+1+m]?) ∧
      (∀ t,(∀ o'∈os.take i,o'.dst≠some t)→T1 t=T t):=by
  induction tr with
  | nil=>intro i o hi; simp at hi
  | @cons o0 rest T T' h h1 h' v rd wr call recs st hd tr ih =>
    intro i o hi
    cases i with
    | zero =>
      simp at hi; subst hi
      exact ⟨T,h,v,h1,rd,wr,call,recs,rfl,st,Nat.le_refl _,by simpa using tr,fun m=>by rw[show 0+1+m=m+1 by omega,List.getElem?_cons_succ],fun t _=>rfl⟩
    | succ i =>
      simp at hi
      obtain ⟨T1,h2,v2,h3,rd2,wr2,call2,recs2,e1,e2,e3,e4,e5,e6⟩:=ih i o hi
      have hlen:h.length≤h1.length:=by
        cases st with
        | skip=>exact Nat.le_refl _
        | op _ _=>rename_i eff _ _; cases eff <;> simp[Eff.apply]
        | frz _ _ _=>exact Nat.le_refl _
        | frzB _ _ _ _ _ _=>exact Nat.le_refl _
        | call _ _ _ _ ha _ _=>exact ha.1
      refine ⟨T1,h2,v2,h3,rd2,wr2,call2,recs2,by simpa using e1,e2,Nat.le_trans hlen e3,by simpa using e4,fun m=>?_,fun t ht=>?_⟩
      · rw[e5,show i+1+1+m=(i+1+m)+1 by omega,List.getElem?_cons_succ]
      · simp only[List.take_succ_cons,List.mem_cons] at ht
        rw[e6 t fun o' ho'=>ht o' (.inr ho')]
        have:=ht o0 (.inl rfl)
        cases hdst:o0.dst with
        | none=>rfl
        | some d=>simp only[Env.put]; rw[if_neg]; rintro rfl; exact this hdst
theorem step_alloc {o:Oper} {T:Env} {h h':Heap} {v:V} {rd wr:List Nat} {call:Bool} (st:OStep P n all o T h v h' rd wr call) (ha:isAllocO o=true) (hg:o.guard=none):v=.ptr h.length 0 0:=by
  unfold isAllocO at ha
  have hgv:guardV n all T o=some true:=by unfold guardV; rw[hg]
  cases st with
  | skip hs=>rw[hgv] at hs; simp at hs
  | op _ hop =>
    split at ha
    · rename_i e ho
      simp only[aop,ho] at hop
      split at hop
      · unfold aBox at hop
        split at hop
        · simp at hop; exact hop.1.symm
        · simp at hop
      · simp at hop
    · simp at ha
  | frz _ ho _=>rw[ho] at ha; simp at ha
  | frzB _ ho _ _ _ _=>rw[ho] at ha; simp at ha
  | call _ ho _ _ _ _ _=>rw[ho] at ha; simp at ha
theorem step_store {o:Oper} {T:Env} {h h':Heap} {v:V} {rd wr:List Nat} {call:Bool} {t id i j:Nat} (st:OStep P n all o T h v h' rd wr call) (ha:storeTmp o=some t) (ht:T t=.ptr id i j):wr=[id]∧call=false:=by
  unfold storeTmp at ha
  split at ha
  · rename_i ty t' x ho hg
    simp at ha; subst ha
    have hgv:guardV n all T o=some true:=by unfold guardV; rw[hg]
    cases st with
    | skip hs=>rw[hgv] at hs; simp at hs
    | op _ hop =>
      have e1:ev T (.tmp t')=.ptr id i j:=ht
      simp only[aop,ho,e1,aStore] at hop
      split at hop
      · split at hop
        · simp only[Option.some.injEq,Prod.mk.injEq] at hop
          obtain ⟨_,he,_⟩:=hop
          rw[← he]; exact ⟨rfl,rfl⟩
        · simp at hop
      · simp at hop
    | frz _ ho' _=>rw[ho] at ho'; simp at ho'
    | frzB _ ho' _ _ _ _=>rw[ho] at ho'; simp at ho'
    | call _ ho' _ _ _ _ _=>rw[ho] at ho'; simp at ho'
  · simp at ha
theorem step_load {o:Oper} {T:Env} {h h':Heap} {v:V} {rd wr:List Nat} {call:Bool} (st:OStep P n all o T h v h' rd wr call) (ha:isLoadO o=true):wr=[]∧call=false∧∀ id,id∈rd→id < h.length:=by
  unfold isLoadO at ha
  cases st with
  | skip _=>exact ⟨rfl,rfl,fun id hid=>by simp at hid⟩
  | op _ hop =>
    split at ha
    · rename_i e a ho
      simp only[aop,ho,aLoad] at hop
      split at hop
      · rename_i id i j hx
        split at hop
        · rename_i z es hH
          split at hop
          · simp only[Option.map_eq_some_iff] at hop
            obtain ⟨_,_,hop⟩:=hop
            simp at hop
            obtain ⟨_,rfl,rfl⟩:=hop
            refine ⟨rfl,rfl,fun id' hid=>?_⟩
            simp at hid; subst hid
            exact view_ne (by rw[hH]; simp)
          · simp at hop
        · simp at hop
      · simp only[Option.map_eq_some_iff] at hop
        obtain ⟨_,_,hop⟩:=hop
        simp at hop
        obtain ⟨_,rfl,rfl⟩:=hop
        exact ⟨rfl,rfl,fun id hid=>by simp at hid⟩
      · simp at hop
    · simp at ha
  | frz _ ho _=>rw[ho] at ha; simp at ha
  | frzB _ ho _ _ _ _=>rw[ho] at ha; simp at ha
  | call _ ho _ _ _ _ _=>rw[ho] at ha; simp at ha
theorem newPair_ok {T T':Env} {h h':Heap} {recs:List Rec} (tr:Tr P n all all T h recs T' h') {i k:Nat} {a b:Rec} (hp:newPair all i k=true) (ha:recs[i]?=some a) (hb:recs[k]?=some b):NoConf a b:=by
  unfold newPair at hp
  split at hp
  · rename_i oa ob hoa hob
    rw[Bool.and_eq_true] at hp
    obtain ⟨hl,hp⟩:=hp
    split at hp
    · rename_i t hst
      rw[List.any_eq_true] at hp
      obtain ⟨j,hj,hp⟩:=hp
      rw[List.mem_range] at hj
      rw[Bool.and_eq_true,decide_eq_true_eq] at hp
      obtain ⟨hij,hown⟩:=hp
      unfold ownB at hown
      split at hown
      · rename_i oj hoj
        simp only[Bool.and_eq_true,beq_iff_eq,List.all_eq_true,bne_iff_ne,ne_eq,Option.isNone_iff_eq_none] at hown
        obtain ⟨⟨⟨w1,w2⟩,w3⟩,w4⟩:=hown
        obtain ⟨T1,h1,v1,h2,rd1,wr1,c1,recs1,e1,e2,e3,e4,e5,_⟩:=tr.at_ i oa hoa
        obtain ⟨Tj,hj1,vj,hj2,rdj,wrj,cj,recsj,f1,f2,f3,f4,f5,_⟩:=e4.at_ (j - (i+1)) oj (by rw[List.getElem?_drop,show i+1+(j - (i+1))=j by omega]; exact hoj)
        have hdr:(all.drop (i+1)).drop (j - (i+1)+1)=all.drop (j+1):=by rw[List.drop_drop]; congr 1; omega
        rw[hdr] at f4
        obtain ⟨Tk,hk1,vk,hk2,rdk,wrk,ck,recsk,g1,g2,g3,_,_,g6⟩:=f4.at_ (k - (j+1)) ob (by rw[List.getElem?_drop,show j+1+(k - (j+1))=k by omega]; exact hob)
        rw[ha] at e1
        have hae:=(Option.some.inj e1)
        have hbe:recs[k]?=some ⟨rdk,wrk,ck,hk1.length,hk2.length⟩:=by
          rw[← g1,f5,e5]; congr 1; omega
        rw[hb] at hbe
        have hbe:=Option.some.inj hbe
        have hv:=step_alloc f2 w3 w2
        have hTk:Tk t=.ptr hj1.length 0 0:=by
          rw[g6 t fun o' ho'=>w4 o' ho',w1,hv]
          simp[Env.put]
        obtain ⟨s1,s2⟩:=step_store g2 hst hTk
        obtain ⟨l1,l2,l3⟩:=step_load e2 hl
        rw[hae,hbe]
        have hlen:h1.length≤h2.length:=by
          cases e2 with
          | skip=>exact Nat.le_refl _
          | op _ _=>rename_i eff _ _; cases eff <;> simp[Eff.apply]
          | frz _ _ _=>exact Nat.le_refl _
          | frzB _ _ _ _ _ _=>exact Nat.le_refl _
          | call _ _ _ _ ha _ _=>exact ha.1
        refine ⟨fun id hid=>by simp[l1] at hid,fun id hid=>?_,fun hc=>by simp[l2] at hc,fun _=>l1,fun id hid=>?_⟩
        · simp only[s1,List.mem_singleton] at hid
          subst hid
          intro hr
          have:=l3 _ hr
          omega
        · simp only[s1,List.mem_singleton] at hid
          subst hid
          simp only
          omega
      · simp at hown
    · simp at hp
  · simp at hp
theorem confS_ok {ls:List Nat} {recs:List Rec} {T T':Env} {hp hp':Heap} (tr:Tr P n all all T hp recs T' hp') (h:confS all ls=true) (hl:ls.length=recs.length) (hr:∀ (i x:Nat) (r:Rec),ls[i]?=some x→recs[i]?=some r→LoudOk x r.rd r.wr r.call r.lo r.hi):Conf all recs:=by
  intro i k a b hik ha hb ho
  have hi:i < recs.length:=(List.getElem?_eq_some_iff.1 ha).1
  have hk:k < recs.length:=(List.getElem?_eq_some_iff.1 hb).1
  unfold confS at h
  simp only[List.all_eq_true] at h
  have h1:=h (ls[i]'(by omega),i) (by rw[List.mem_zipIdx_iff_getElem?]; simp[List.getElem?_eq_getElem (show i < ls.length by omega)])
    (ls[k]'(by omega),k) (by rw[List.mem_zipIdx_iff_getElem?]; simp[List.getElem?_eq_getElem (show k < ls.length by omega)])
  have la:=hr i _ a (List.getElem?_eq_getElem (by omega)) ha
  have lb:=hr k _ b (List.getElem?_eq_getElem (by omega)) hb
  simp only[hik,decide_true,Bool.not_true,ho,Bool.false_or,Bool.or_eq_true,beq_iff_eq,Bool.and_eq_true,decide_eq_true_eq] at h1
  rcases h1 with ((h1 | h1) | h1) | h1
  · obtain ⟨e1,e2,e3,e4⟩:=la.1 h1
    exact ⟨fun id hid=>by simp[e2] at hid,fun id _=>by simp[e1],fun hc=>by simp[e3] at hc,fun _=>e2,fun id _ hx=>by omega⟩
  · obtain ⟨e1,e2,e3,e4⟩:=lb.1 h1
    exact ⟨fun id _=>by simp[e1],fun id hid=>by simp[e2] at hid,fun _=>e2,fun hc=>by simp[e3] at hc,fun id hid=>by simp[e2] at hid⟩
  · have e1:=la.2 h1.1
    have e2:=lb.2 h1.2
    exact ⟨fun id hid=>by simp[e1] at hid,fun id hid=>by simp[e2] at hid,fun _=>e2,fun _=>e1,fun id hid=>by simp[e2] at hid⟩
  · exact newPair_ok tr h1 ha hb
theorem Tr.keep {os:List Oper} {T T':Env} {h h':Heap} {recs:List Rec} (tr:Tr P n all os T h recs T' h') {t:Nat} (ht:∀ o∈os,o.dst≠some t):T' t=T t:=by
  induction tr with
  | nil=>rfl
  | @cons o0 rest T T' h h1 h' v rd wr call recs st hd tr ih =>
    rw[ih fun o ho=>ht o (by simp[ho])]
    have:=ht o0 (by simp)
    cases hdst:o0.dst with
    | none=>rfl
    | some d=>simp only[Env.put]; rw[if_neg]; rintro rfl; exact this hdst
theorem step_len {o:Oper} {T:Env} {h h':Heap} {v:V} {rd wr:List Nat} {call:Bool} {t:Nat} (st:OStep P n all o T h v h' rd wr call) (ha:loadTmp o=some t):wr=[]∧call=false∧h'.length=h.length∧∀ id,id∈rd→∃ i j,T t=.ptr id i j:=by
  unfold loadTmp at ha
  split at ha
  · rename_i e t' ho
    simp at ha; subst ha
    cases st with
    | skip _=>exact ⟨rfl,rfl,rfl,fun id hid=>by simp at hid⟩
    | op _ hop =>
      simp only[aop,ho,aLoad] at hop
      split at hop
      · rename_i id i j hx
        split at hop
        · split at hop
          · simp only[Option.map_eq_some_iff] at hop
            obtain ⟨_,_,hop⟩:=hop
            simp at hop
            obtain ⟨_,rfl,rfl⟩:=hop
            refine ⟨rfl,rfl,rfl,fun id' hid=>?_⟩
            simp at hid; subst hid
            exact ⟨i,j,hx⟩
          · simp at hop
        · simp at hop
      · simp only[Option.map_eq_some_iff] at hop
        obtain ⟨_,_,hop⟩:=hop
        simp at hop
        obtain ⟨_,rfl,rfl⟩:=hop
        exact ⟨rfl,rfl,rfl,fun id hid=>by simp at hid⟩
      · simp at hop
    | frz _ ho' _=>rw[ho] at ho'; simp at ho'
    | frzB _ ho' _ _ _ _=>rw[ho] at ho'; simp at ho'
    | call _ ho' _ _ _ _ _=>rw[ho] at ho'; simp at ho'
  · simp at ha
theorem stays_ok {i t:Nat} (h:stays all i t=true):∀ o∈all.drop i,o.dst≠some t:=by
  intro o ho
  have:=List.all_eq_true.1 h o ho
  simpa using this
theorem apAll_ok {aps:List (Nat × Nat)} {T:Env} {K:Prop} (hA:Aps aps T K):∀ p∈aps,ApV (T p.1) (T p.2):=by
  induction aps with
  | nil=>intro p hp; simp at hp
  | cons q l ih =>
    intro p hp
    rcases List.mem_cons.1 hp with rfl | hp
    · exact hA.1
    · exact ih hA.2 p hp
theorem Aps.rest {aps:List (Nat × Nat)} {T:Env} {K:Prop} (hA:Aps aps T K):K:=by
  induction aps with
  | nil=>exact hA
  | cons q l ih=>exact ih hA.2
theorem at_end {T T':Env} {h h':Heap} {recs:List Rec} (tr:Tr P n all all T h recs T' h') {i t:Nat} {o:Oper} (ho:all[i]?=some o) (hs:stays all i t=true) {r:Rec} (hr:recs[i]?=some r) :
    ∃ T1 h1 v h2,OStep P n all o T1 h1 v h2 r.rd r.wr r.call∧r.lo=h1.length∧r.hi=h2.length∧T1 t=T' t:=by
  obtain ⟨T1,h1,v,h2,rd,wr,call,recs2,e1,e2,e3,e4,e5,e6⟩:=tr.at_ i o ho
  rw[hr] at e1
  have e1:=Option.some.inj e1
  subst e1
  refine ⟨T1,h1,v,h2,e2,rfl,rfl,?_⟩
  have hk:=stays_ok hs
  have hi:i < all.length:=(List.getElem?_eq_some_iff.1 ho).1
  have ho':all[i]=o:=(List.getElem?_eq_some_iff.1 ho).2
  rw[List.drop_eq_getElem_cons hi,ho'] at hk
  rw[e4.keep fun o' ho'=>hk o' (by simp[ho'])]
  have:=hk o (by simp)
  cases hdst:o.dst with
  | none=>rfl
  | some d=>simp only[Env.put]; rw[if_neg]; rintro rfl; exact this hdst
theorem apV_inv {i a b j c d:Nat} (h:ApV (.ptr i a b) (.ptr j c d)):i≠j:=h
theorem apV_sl {i a b j c d e:Nat} (h:ApV (.ptr i a b) (.sl j c d e)):i≠j:=h
theorem step_write {o:Oper} {T:Env} {h h':Heap} {v:V} {rd wr:List Nat} {call:Bool} {t:Nat} (st:OStep P n all o T h v h' rd wr call) (ha:writeTmp o=some t) :
    call=false∧∀ id,id∈wr→(∃ i j,T t=.ptr id i j)∨∃ a b c,T t=.sl id a b c:=by
  unfold writeTmp at ha
  split at ha
  · rename_i t' hs
    simp at ha; subst ha
    unfold storeTmp at hs
    split at hs
    · rename_i ty t2 x ho hg
      simp at hs; subst hs
      cases st with
      | skip _=>exact ⟨rfl,fun id hid=>by simp at hid⟩
      | op _ hop =>
        simp only[aop,ho,aStore] at hop
        split at hop
        · rename_i id i j hx
          split at hop
          · split at hop
            · simp only[Option.some.injEq,Prod.mk.injEq] at hop
              obtain ⟨_,he,_⟩:=hop
              rw[← he]
              refine ⟨rfl,fun id' hid=>?_⟩
              simp[Eff.wr] at hid; subst hid
              exact .inl ⟨i,j,hx⟩
            · simp at hop
          · simp at hop
        · simp at hop
      | frz _ ho' _=>rw[ho] at ho'; simp at ho'
      | frzB _ ho' _ _ _ _=>rw[ho] at ho'; simp at ho'
      | call _ ho' _ _ _ _ _=>rw[ho] at ho'; simp at ho'
    · simp at hs
  · unfold appTmp at ha
    split at ha
    · rename_i args ats ho hg
      split at ha
      · rename_i t2 y hl
        simp at ha; subst ha
        cases st with
        | skip _=>exact ⟨rfl,fun id hid=>by simp at hid⟩
        | op _ hop =>
          simp only[aop,ho,hl] at hop
          split at hop
          · unfold aAppend at hop
            split at hop
            · split at hop
              · simp at hop
              · split at hop
                · split at hop <;> first | (simp only[Option.some.injEq,Prod.mk.injEq] at hop; obtain ⟨_,he,_⟩:=hop; rw[← he]; exact ⟨rfl,fun id' hid=>by simp[Eff.wr] at hid⟩) | simp at hop
                · split at hop
                  · simp at hop
                  · split at hop
                    · split at hop
                      · simp only[Option.some.injEq,Prod.mk.injEq] at hop
                        obtain ⟨_,he,_⟩:=hop
                        rw[← he]; exact ⟨rfl,fun id' hid=>by simp[Eff.wr] at hid⟩
                      · simp at hop
                    · rename_i id off len esz hx
                      split at hop
                      · split at hop
                        · simp only[Option.some.injEq,Prod.mk.injEq] at hop
                          obtain ⟨_,he,_⟩:=hop
                          rw[← he]
                          refine ⟨rfl,fun id' hid=>?_⟩
                          simp[Eff.wr] at hid; subst hid
                          exact .inr ⟨off,len,esz,hx⟩
                        · simp at hop
                      · simp at hop
                    · simp at hop
            · simp at hop
          · split at hop
            · unfold aAppZ at hop
              repeat' (split at hop)
              all_goals first | (simp only[Option.some.injEq,Prod.mk.injEq] at hop; obtain ⟨_,he,_⟩:=hop; rw[← he]; exact ⟨rfl,fun id' hid=>by simp[Eff.wr] at hid⟩) | simp at hop
            · simp at hop
        | frz _ ho' _=>rw[ho] at ho'; simp at ho'
        | frzB _ ho' _ _ _ _=>rw[ho] at ho'; simp at ho'
        | call _ ho' _ _ _ _ _=>rw[ho] at ho'; simp at ho'
      · simp at ha
    · simp at ha
theorem step_new {o:Oper} {T:Env} {h h':Heap} {v:V} {rd wr:List Nat} {call:Bool} (st:OStep P n all o T h v h' rd wr call) (ha:isNewO o=true):rd=[]∧wr=[]∧call=false:=by
  unfold isNewO at ha
  cases st with
  | skip _=>exact ⟨rfl,rfl,rfl⟩
  | op _ hop =>
    split at ha
    · rename_i ty len parts ho
      simp only[aop,ho,aBuildSlice] at hop
      have key:∀ {x:Option (V × Eff × List Nat)} {e:Eff},x=some (v,e,rd)→(∀ y,x=some y→y.2.1.wr=[]∧y.2.2=[])→rd=[]∧e.wr=[]:=fun hx hy=>⟨(hy _ hx).2,(hy _ hx).1⟩
      obtain ⟨k1,k2⟩:=key hop (by
        intro y hy
        repeat' (first | (split at hy) | (simp only[Option.some.injEq] at hy; subst hy; exact ⟨rfl,rfl⟩) | (simp at hy; done)))
      exact ⟨k1,k2,rfl⟩
    · rename_i e ho
      simp only[aop,ho] at hop
      split at hop
      · unfold aBox at hop
        split at hop
        · simp only[Option.some.injEq,Prod.mk.injEq] at hop
          obtain ⟨_,he,hr⟩:=hop
          rw[← he,← hr]; exact ⟨rfl,rfl,rfl⟩
        · simp at hop
      · simp at hop
    · simp at ha
  | frz _ ho _=>rw[ho] at ha; simp at ha
  | frzB _ ho _ _ _ _=>rw[ho] at ha; simp at ha
  | call _ ho _ _ _ _ _=>rw[ho] at ha; simp at ha
theorem storeTmp_write {o:Oper} {t:Nat} (h:storeTmp o=some t):writeTmp o=some t:=by unfold writeTmp; rw[h]
theorem apPair_ok {T T':Env} {h h':Heap} {recs:List Rec} (tr:Tr P n all all T h recs T' h') {i k:Nat} {a b:Rec} {p:Nat × Nat} (hp:apPair all i k=some p) (hA:ApV (T' p.1) (T' p.2)) (ha:recs[i]?=some a) (hb:recs[k]?=some b):NoConf a b:=by
  unfold apPair at hp
  split at hp
  · rename_i oa ob hoa hob
    split at hp
    · rename_i s t hl hs
      split at hp
      · rename_i hst
        simp only[Bool.and_eq_true] at hst
        simp at hp; subst hp
        obtain ⟨Ta,ha1,va,ha2,sa,la1,la2,ea⟩:=at_end tr hoa hst.1 ha
        obtain ⟨Tb,hb1,vb,hb2,sb,_,_,eb⟩:=at_end tr hob hst.2 hb
        obtain ⟨l1,l2,l3,l4⟩:=step_len sa hl
        have hA:ApV (Ta s) (Tb t):=by rw[ea,eb]; exact hA
        refine ⟨fun id hid=>by simp[l1] at hid,fun id hid hr=>?_,fun hc=>by simp[l2] at hc,fun _=>l1,fun id _ hx=>by omega⟩
        obtain ⟨i',j',e1⟩:=l4 id hr
        rw[e1] at hA
        rcases (step_write sb (storeTmp_write hs)).2 id hid with ⟨c,d,hy⟩ | ⟨c,d,e,hy⟩
        · rw[hy] at hA; exact apV_inv hA rfl
        · rw[hy] at hA; exact apV_sl hA rfl
      · simp at hp
    · split at hp
      · rename_i t s hs hl
        split at hp
        · rename_i hst
          simp only[Bool.and_eq_true] at hst
          simp at hp; subst hp
          obtain ⟨Ta,ha1,va,ha2,sa,la1,la2,ea⟩:=at_end tr hoa hst.1 ha
          obtain ⟨Tb,hb1,vb,hb2,sb,lb1,lb2,eb⟩:=at_end tr hob hst.2 hb
          obtain ⟨l1,l2,l3,l4⟩:=step_len sb hl
          have hA:ApV (Tb s) (Ta t):=by rw[ea,eb]; exact hA
          refine ⟨fun id hid hr=>?_,fun id hid=>by simp[l1] at hid,fun hc=>l1,fun hc=>by simp[l2] at hc,fun id hid=>by simp[l1] at hid⟩
          obtain ⟨i',j',e1⟩:=l4 id hr
          rw[e1] at hA
          rcases (step_write sa (storeTmp_write hs)).2 id hid with ⟨c,d,hy⟩ | ⟨c,d,e,hy⟩
          · rw[hy] at hA; exact apV_inv hA rfl
          · rw[hy] at hA; exact apV_sl hA rfl
        · simp at hp
      · simp at hp
  · simp at hp
theorem apPairM_ok {T T':Env} {h h':Heap} {recs:List Rec} (tr:Tr P n all all T h recs T' h') {i k:Nat} {a b:Rec} {p:Nat × Nat} (hp:apPairM all i k=some p) (hA:ApV (T' p.1) (T' p.2)) (ha:recs[i]?=some a) (hb:recs[k]?=some b):NoConf a b:=by
  unfold apPairM at hp
  split at hp
  · rename_i oa ob hoa hob
    split at hp
    · rename_i s t hl hs
      split at hp
      · rename_i hst
        simp only[Bool.and_eq_true] at hst
        simp at hp; subst hp
        obtain ⟨Ta,ha1,va,ha2,sa,la1,la2,ea⟩:=at_end tr hoa hst.1 ha
        obtain ⟨Tb,hb1,vb,hb2,sb,_,_,eb⟩:=at_end tr hob hst.2 hb
        obtain ⟨l1,l2,l3,l4⟩:=step_len sa hl
        have hA:ApV (Ta s) (Tb t):=by rw[ea,eb]; exact hA
        refine ⟨fun id hid=>by simp[l1] at hid,fun id hid hr=>?_,fun hc=>by simp[l2] at hc,fun _=>l1,fun id _ hx=>by omega⟩
        obtain ⟨i',j',e1⟩:=l4 id hr
        rw[e1] at hA
        rcases (step_write sb hs).2 id hid with ⟨c,d,hy⟩ | ⟨c,d,e,hy⟩
        · rw[hy] at hA; exact apV_inv hA rfl
        · rw[hy] at hA; exact apV_sl hA rfl
      · simp at hp
    · split at hp
      · rename_i t s hs hl
        split at hp
        · rename_i hst
          simp only[Bool.and_eq_true] at hst
          simp at hp; subst hp
          obtain ⟨Ta,ha1,va,ha2,sa,la1,la2,ea⟩:=at_end tr hoa hst.1 ha
          obtain ⟨Tb,hb1,vb,hb2,sb,lb1,lb2,eb⟩:=at_end tr hob hst.2 hb
          obtain ⟨l1,l2,l3,l4⟩:=step_len sb hl
          have hA:ApV (Tb s) (Ta t):=by rw[ea,eb]; exact hA
          refine ⟨fun id hid hr=>?_,fun id hid=>by simp[l1] at hid,fun hc=>l1,fun hc=>by simp[l2] at hc,fun id hid=>by simp[l1] at hid⟩
          obtain ⟨i',j',e1⟩:=l4 id hr
          rw[e1] at hA
          rcases (step_write sa hs).2 id hid with ⟨c,d,hy⟩ | ⟨c,d,e,hy⟩
          · rw[hy] at hA; exact apV_inv hA rfl
          · rw[hy] at hA; exact apV_sl hA rfl
        · simp at hp
      · simp at hp
  · simp at hp
theorem apAll_mem {l:List (Nat × Nat)} {aps:List (Nat × Nat)} (h:apAll all l=some aps):∀ q∈l,∃ p∈aps,apPair all q.1 q.2=some p:=by
  induction l generalizing aps with
  | nil=>intro q hq; simp at hq
  | cons x r ih =>
    obtain ⟨i,k⟩:=x
    simp only[apAll] at h
    split at h
    · rename_i p l' h1 h2
      simp at h; subst h
      intro q hq
      rcases List.mem_cons.1 hq with rfl | hq
      · exact ⟨p,by simp,h1⟩
      · obtain ⟨p',hp',e⟩:=ih h2 q hq
        exact ⟨p',by simp[hp'],e⟩
    · simp at h
theorem apAllM_mem {l:List (Nat × Nat)} {aps:List (Nat × Nat)} (h:apAllM all l=some aps):∀ q∈l,∃ ps,(∀ p∈ps,p∈aps)∧apPairs all q.1 q.2=some ps:=by
  induction l generalizing aps with
  | nil=>intro q hq; simp at hq
  | cons x r ih =>
    obtain ⟨i,k⟩:=x
    simp only[apAllM] at h
    split at h
    · rename_i p l' h1 h2
      simp at h; subst h
      intro q hq
      rcases List.mem_cons.1 hq with rfl | hq
      · exact ⟨p,fun x hx=>by simp[hx],h1⟩
      · obtain ⟨p',hp',e⟩:=ih h2 q hq
        exact ⟨p',fun x hx=>by simp[hp' x hx],e⟩
    · simp at h
theorem elems_rdS {H:View} {x:V} {xs:List (List V)} {rd:List Nat} (h:elemsOf H x=some (xs,rd)):∀ id,id∈rd→∃ a b c,x=.sl id a b c:=by
  unfold elemsOf at h
  split at h
  · simp at h; obtain ⟨_,rfl⟩:=h; intro id hid; simp at hid
  · simp at h; obtain ⟨_,rfl⟩:=h; intro id hid; simp at hid
  · simp at h; obtain ⟨_,rfl⟩:=h; intro id hid; simp at hid
  · simp at h; obtain ⟨_,rfl⟩:=h; intro id hid; simp at hid
  · split at h
    · split at h
      · simp at h
        obtain ⟨_,rfl⟩:=h
        intro id hid
        simp at hid; subst hid
        exact ⟨_,_,_,rfl⟩
      · simp at h
    · simp at h
  · simp at h; obtain ⟨_,rfl⟩:=h; intro id hid; simp at hid
  · simp at h
theorem step_app {o:Oper} {T:Env} {h h':Heap} {v:V} {rd wr:List Nat} {call:Bool} {t y d:Nat} (st:OStep P n all o T h v h' rd wr call) (ha:appTmps o=some (t,y,d)) :
    call=false∧(∀ id,id∈wr→∃ a b c,T t=.sl id a b c)∧(∀ id,id∈rd→(∃ a b c,T t=.sl id a b c)∨∃ a b c,T y=.sl id a b c)∧(h.length < h'.length→∃ a b c,v=.sl h.length a b c)∧h'.length≤h.length+1∧o.dst=some d:=by
  unfold appTmps at ha
  split at ha
  · rename_i args ats d' ho hg hd
    split at ha
    · rename_i t2 y2 hl
      simp at ha
      obtain ⟨rfl,rfl,rfl⟩:=ha
      cases st with
      | skip _=>exact ⟨rfl,fun id hid=>by simp at hid,fun id hid=>by simp at hid,fun h=>by omega,by omega,hd⟩
      | op _ hop =>
        simp only[aop,ho,hl] at hop
        have nn:∀ {v':V} {eff':Eff} {rd':List Nat},some (v',Eff.none,([]:List Nat))=some (v,eff',rd')→false=false∧(∀ id,id∈eff'.wr→∃ a b c,T t2=.sl id a b c)∧(∀ id,id∈rd'→(∃ a b c,T t2=.sl id a b c)∨∃ a b c,T y2=.sl id a b c)∧(h.length < (eff'.apply h).length→∃ a b c,v=.sl h.length a b c)∧(eff'.apply h).length≤h.length+1∧o.dst=some d':=by
          intro v' eff' rd' e
          simp only[Option.some.injEq,Prod.mk.injEq] at e
          obtain ⟨_,rfl,rfl⟩:=e
          exact ⟨rfl,fun id hid=>by simp[Eff.wr] at hid,fun id hid=>by simp at hid,fun h=>by simp[Eff.apply] at h,by simp[Eff.apply],hd⟩
        split at hop
        · unfold aAppend at hop
          split at hop
          · rename_i e xs rd' _ hel
            have hrd:=elems_rdS hel
            split at hop
            · simp at hop
            · split at hop
              · split at hop <;> first | exact nn hop | simp at hop
              · split at hop
                · simp at hop
                · split at hop
                  · split at hop
                    · simp only[Option.some.injEq,Prod.mk.injEq] at hop
                      obtain ⟨rfl,rfl,rfl⟩:=hop
                      exact ⟨rfl,fun id hid=>by simp[Eff.wr] at hid,fun id hid=>.inr (hrd id hid),fun _=>⟨_,_,_,rfl⟩,by simp[Eff.apply],hd⟩
                    · simp at hop
                  · rename_i id off len esz hx
                    split at hop
                    · split at hop
                      · simp only[Option.some.injEq,Prod.mk.injEq] at hop
                        obtain ⟨rfl,rfl,rfl⟩:=hop
                        refine ⟨rfl,fun id' hid=>?_,fun id' hid=>?_,fun _=>⟨_,_,_,rfl⟩,by simp[Eff.apply],hd⟩
                        · simp[Eff.wr] at hid; subst hid
                          exact ⟨off,len,esz,hx⟩
                        · rcases List.mem_cons.1 hid with rfl | hid
                          · exact .inl ⟨off,len,esz,hx⟩
                          · exact .inr (hrd id' hid)
                      · simp at hop
                    · simp at hop
                  · simp at hop
          · simp at hop
        · split at hop
          · unfold aAppZ at hop
            split at hop
            · split at hop
              · split at hop
                · exact nn hop
                · split at hop
                  · simp only[Option.some.injEq,Prod.mk.injEq] at hop
                    obtain ⟨rfl,rfl,rfl⟩:=hop
                    exact ⟨rfl,fun id hid=>by simp[Eff.wr] at hid,fun id hid=>by simp at hid,fun _=>⟨_,_,_,rfl⟩,by simp[Eff.apply],hd⟩
                  · simp at hop
              · simp at hop
            · simp at hop
          · simp at hop
      | frz _ ho' _=>rw[ho] at ho'; simp at ho'
      | frzB _ ho' _ _ _ _=>rw[ho] at ho'; simp at ho'
      | call _ ho' _ _ _ _ _=>rw[ho] at ho'; simp at ho'
    · simp at ha
  · simp at ha
theorem at_all {T T':Env} {h h':Heap} {recs:List Rec} (tr:Tr P n all all T h recs T' h') {i:Nat} {o:Oper} (ho:all[i]?=some o) {r:Rec} (hr:recs[i]?=some r) :
    ∃ T1 h1 v h2,OStep P n all o T1 h1 v h2 r.rd r.wr r.call∧r.lo=h1.length∧r.hi=h2.length∧(∀ t,stays all i t=true→T1 t=T' t)∧∀ d,o.dst=some d→stays all (i+1) d=true→T' d=v:=by
  obtain ⟨T1,h1,v,h2,rd,wr,call,recs2,e1,e2,e3,e4,e5,e6⟩:=tr.at_ i o ho
  rw[hr] at e1
  have e1:=Option.some.inj e1
  subst e1
  refine ⟨T1,h1,v,h2,e2,rfl,rfl,fun t hs=>?_,fun d hd hs=>?_⟩
  · have hk:=stays_ok hs
    have hi:i < all.length:=(List.getElem?_eq_some_iff.1 ho).1
    have ho':all[i]=o:=(List.getElem?_eq_some_iff.1 ho).2
    rw[List.drop_eq_getElem_cons hi,ho'] at hk
    rw[e4.keep fun o' ho'=>hk o' (by simp[ho'])]
    have:=hk o (by simp)
    cases hdst:o.dst with
    | none=>rfl
    | some d=>simp only[Env.put]; rw[if_neg]; rintro rfl; exact this hdst
  · rw[e4.keep (stays_ok hs),hd]
    simp[Env.put]
theorem apV_ss {i a b c j d e f:Nat} (h:ApV (.sl i a b c) (.sl j d e f)):i≠j:=h
theorem appPair_ok {T T':Env} {h h':Heap} {recs:List Rec} (tr:Tr P n all all T h recs T' h') {i k:Nat} {a b:Rec} {ps:List (Nat × Nat)} (hp:appPair all i k=some ps) (hA:∀ p∈ps,ApV (T' p.1) (T' p.2)) (ha:recs[i]?=some a) (hb:recs[k]?=some b):NoConf a b:=by
  unfold appPair at hp
  split at hp
  · rename_i oa ob hoa hob
    split at hp
    · rename_i t y d t' y' d' h1 h2
      split at hp
      · rename_i hst
        simp only[Bool.and_eq_true] at hst
        obtain ⟨⟨⟨⟨s1,s2⟩,s3⟩,s4⟩,s5⟩:=hst
        simp at hp; subst hp
        have a1:=hA (t,t') (by simp)
        have a2:=hA (t,y') (by simp)
        have a3:=hA (t',y) (by simp)
        have a4:=hA (d,t') (by simp)
        simp only at a1 a2 a3 a4
        obtain ⟨Ta,ha1,va,ha2,sa,la1,la2,ea,da⟩:=at_all tr hoa ha
        obtain ⟨Tb,hb1,vb,hb2,sb,_,_,eb,_⟩:=at_all tr hob hb
        obtain ⟨p1,p2,p3,p4,p5,p6⟩:=step_app sa h1
        obtain ⟨q1,q2,q3,_⟩:=step_app sb h2
        have da:=da d p6 s3
        rw[← ea t s1,← eb t' s4] at a1
        rw[← ea t s1,← eb y' s5] at a2
        rw[← eb t' s4,← ea y s2] at a3
        rw[da,← eb t' s4] at a4
        refine ⟨fun id hid hr=>?_,fun id hid hr=>?_,fun hc=>by rw[p1] at hc; simp at hc,fun hc=>by rw[q1] at hc; simp at hc,fun id hid hx=>?_⟩
        · obtain ⟨_,_,_,e⟩:=p2 id hid
          rcases q3 id hr with ⟨_,_,_,e'⟩ | ⟨_,_,_,e'⟩
          · rw[e,e'] at a1; exact apV_ss a1 rfl
          · rw[e,e'] at a2; exact apV_ss a2 rfl
        · obtain ⟨_,_,_,e⟩:=q2 id hid
          rcases p3 id hr with ⟨_,_,_,e'⟩ | ⟨_,_,_,e'⟩
          · rw[e',e] at a1; exact apV_ss a1 rfl
          · rw[e,e'] at a3; exact apV_ss a3 rfl
        · obtain ⟨_,_,_,e⟩:=q2 id hid
          obtain ⟨_,_,_,e'⟩:=p4 (by omega)
          have:id=ha1.length:=by omega
          subst this
          rw[e,e'] at a4; exact apV_ss a4 rfl
      · simp at hp
    · simp at hp
  · simp at hp
theorem apPairs_ok {T T':Env} {h h':Heap} {recs:List Rec} (tr:Tr P n all all T h recs T' h') {i k:Nat} {a b:Rec} {ps:List (Nat × Nat)} (hp:apPairs all i k=some ps) (hA:∀ p∈ps,ApV (T' p.1) (T' p.2)) (ha:recs[i]?=some a) (hb:recs[k]?=some b):NoConf a b:=by
  unfold apPairs at hp
  split at hp
  · rename_i p h1
    simp at hp; subst hp
    exact apPairM_ok tr h1 (hA p (by simp)) ha hb
  · exact appPair_ok tr hp hA ha hb
theorem confA_ok {ls:List Nat} {recs:List Rec} {T T':Env} {hp hp':Heap} {aps:List (Nat × Nat)} (tr:Tr P n all all T hp recs T' hp') (h:apAll all (badPairs all ls)=some aps) (hA:∀ p∈aps,ApV (T' p.1) (T' p.2)) (hl:ls.length=recs.length)
    (hr:∀ (i x:Nat) (r:Rec),ls[i]?=some x→recs[i]?=some r→LoudOk x r.rd r.wr r.call r.lo r.hi):Conf all recs:=by
  intro i k a b hik ha hb ho
  have hi:i < recs.length:=(List.getElem?_eq_some_iff.1 ha).1
  have hk:k < recs.length:=(List.getElem?_eq_some_iff.1 hb).1
  have la:=hr i _ a (List.getElem?_eq_getElem (by omega)) ha
  have lb:=hr k _ b (List.getElem?_eq_getElem (by omega)) hb
  have mi:(ls[i]'(by omega),i)∈ls.zipIdx:=by rw[List.mem_zipIdx_iff_getElem?]; simp[List.getElem?_eq_getElem (show i < ls.length by omega)]
  have mk:(ls[k]'(by omega),k)∈ls.zipIdx:=by rw[List.mem_zipIdx_iff_getElem?]; simp[List.getElem?_eq_getElem (show k < ls.length by omega)]
  by_cases h1:pairOk all (ls[i]'(by omega)) i (ls[k]'(by omega)) k=true
  · unfold pairOk at h1
    simp only[hik,decide_true,Bool.not_true,ho,Bool.false_or,Bool.or_eq_true,beq_iff_eq,Bool.and_eq_true,decide_eq_true_eq] at h1
    rcases h1 with ((h1 | h1) | h1) | h1
    · obtain ⟨e1,e2,e3,e4⟩:=la.1 h1
      exact ⟨fun id hid=>by simp[e2] at hid,fun id _=>by simp[e1],fun hc=>by simp[e3] at hc,fun _=>e2,fun id _ hx=>by omega⟩
    · obtain ⟨e1,e2,e3,e4⟩:=lb.1 h1
      exact ⟨fun id _=>by simp[e1],fun id hid=>by simp[e2] at hid,fun _=>e2,fun hc=>by simp[e3] at hc,fun id hid=>by simp[e2] at hid⟩
    · have e1:=la.2 h1.1
      have e2:=lb.2 h1.2
      exact ⟨fun id hid=>by simp[e1] at hid,fun id hid=>by simp[e2] at hid,fun _=>e2,fun _=>e1,fun id hid=>by simp[e2] at hid⟩
    · exact newPair_ok tr h1 ha hb
  · have hm:(i,k)∈badPairs all ls:=by
      unfold badPairs
      rw[List.mem_flatMap]
      refine ⟨_,mi,?_⟩
      rw[List.mem_filterMap]
      exact ⟨_,mk,by simp only; rw[if_neg h1]⟩
    obtain ⟨p,hp,e⟩:=apAll_mem h (i,k) hm
    exact apPair_ok tr e (hA p hp) ha hb
theorem look_same {P:Program} {t:TypeId} {id:Nat} {q:V} {ok:Bool} {H1 H2:View} (h:H1 id=H2 id):aLookup P t (.mp id) q ok H1=aLookup P t (.mp id) q ok H2:=by
  unfold aLookup
  simp only[h]
theorem entry_same {P:Program} {t:TypeId} {id:Nat} {q:V} {H1 H2:View} (h:H1 id=H2 id):aMapEntry P t (.mp id) q H1=aMapEntry P t (.mp id) q H2:=by
  cases hm:mapTypes P t with
  | none=>simp only[aMapEntry,hm]
  | some x=>simp only[aMapEntry,hm,h]
theorem look_inv {P:Program} {t:TypeId} {id:Nat} {q:V} {H:View} {v:V} {eff:Eff} {rd:List Nat} (h:aLookup P t (.mp id) q false H=some (v,eff,rd)):eff=.none∧rd=[id]:=by
  simp only[aLookup,Bool.false_eq_true,if_false] at h
  repeat' (first | (simp only[Option.some.injEq,Prod.mk.injEq] at h; exact ⟨h.2.1.symm,h.2.2.symm⟩) | (split at h) | (simp at h; done))
theorem entry_inv {P:Program} {t:TypeId} {id:Nat} {q:V} {H:View} {v:V} {eff:Eff} {rd:List Nat} (h:aMapEntry P t (.mp id) q H=some (v,eff,rd)):∃ obj,eff=.upd id obj:=by
  cases hm:mapTypes P t with
  | none=>simp[aMapEntry,hm] at h
  | some x =>
    simp only[aMapEntry,hm] at h
    repeat' (first | (simp only[Option.some.injEq,Prod.mk.injEq] at h; exact ⟨_,h.2.1.symm⟩) | (split at h) | (simp at h; done))
theorem ostep_op {o:Oper} {T:Env} {h h':Heap} {v:V} {rd wr:List Nat} {call:Bool} (st:OStep P n all o T h v h' rd wr call) (hg:guardV n all T o=some true) (hb:∀ e x,o.op≠.box e x) (hc:∀ s d x,o.op≠.convert s d x) (hl:∀ c,o.op≠.call c) :
    ∃ eff,aop P o T h.view h.length=some (v,eff,rd)∧h'=eff.apply h∧wr=eff.wr∧call=false:=by
  cases st with
  | skip hs=>rw[hg] at hs; simp at hs
  | op _ hop=>exact ⟨_,hop,rfl,rfl,rfl⟩
  | frz _ ho _=>exact absurd ho (hb _ _)
  | frzB _ ho _ _ _ _=>exact absurd ho (hc _ _ _)
  | call _ ho _ _ _ _ _=>exact absurd ho (hl _)
theorem hs_same {recs:List Rec} {Ts:Nat→Env} {hs:Nat→Heap} {vs:Nat→V} (hst:StatesOf P n all recs Ts hs vs) (hl:recs.length=all.length) {k:Nat} (hk:k≤all.length) (hw:∀ j r,j < k→recs[j]?=some r→r.wr=[]) :
    ∀ j,j≤k→(hs 0).length≤(hs j).length∧∀ id,id < (hs 0).length→(hs j).view id=(hs 0).view id:=by
  intro j
  induction j with
  | zero=>intro _; exact ⟨Nat.le_refl _,fun _ _=>rfl⟩
  | succ j ih =>
    intro hj
    obtain ⟨l1,l2⟩:=ih (by omega)
    obtain ⟨st,_,_,_,_⟩:=hst j all[j] (recs[j]'(by omega)) (List.getElem?_eq_getElem (by omega)) (List.getElem?_eq_getElem (by omega))
    refine ⟨Nat.le_trans l1 (ostep_len st),fun id hid=>?_⟩
    rw[ostep_view st (Nat.lt_of_lt_of_le hid l1) (by rw[hw j _ (by omega) (List.getElem?_eq_getElem (by omega))]; simp)]
    exact l2 id hid
theorem states_keep {recs:List Rec} {Ts:Nat→Env} {hs:Nat→Heap} {vs:Nat→V} (hst:StatesOf P n all recs Ts hs vs) (hl:recs.length=all.length) {i t:Nat} (h:stays all i t=true):∀ j,i≤j→j≤all.length→Ts j t=Ts i t:=by
  intro j hij hj
  refine ts_same (vs:=vs) (N:=all.length) (fun k o hk=>?_) rfl i j hij hj fun k o h1 h2 h3=>stays_ok h o (by
    rw[List.mem_iff_getElem?]
    exact ⟨k - i,by rw[List.getElem?_drop,show i+(k - i)=k by omega]; exact h3⟩)
  have hk':k < all.length:=(List.getElem?_eq_some_iff.1 hk).1
  exact (hst k o (recs[k]'(by omega)) hk (List.getElem?_eq_getElem (by omega))).2.2.1
theorem confM_ok {ls:List Nat} {recs:List Rec} {T T':Env} {hp hp':Heap} {aps:List (Nat × Nat)} {tp:Option (Nat × Nat)} (tr:Tr P n all all T hp recs T' hp') (h:apAllM all (restM all ls tp)=some aps) (hA:∀ p∈aps,ApV (T' p.1) (T' p.2)) (hl:ls.length=recs.length)
    (hr:∀ (i x:Nat) (r:Rec),ls[i]?=some x→recs[i]?=some r→LoudOk x r.rd r.wr r.call r.lo r.hi) (htol:∀ p,tp=some p→∃ tol,tolOf all ls p.1 p.2=some tol∧TolV P tol.1 (T' tol.2.1) (T' tol.2.2) hp.view):ConfT P n all recs T T' hp:=by
  have main:∀ i k a b,i < k→recs[i]?=some a→recs[k]?=some b→ordered (befs all []) i k=false→tp≠some (i,k)→NoConf a b:=by
    intro i k a b hik ha hb ho hne
    have hi:i < recs.length:=(List.getElem?_eq_some_iff.1 ha).1
    have hk:k < recs.length:=(List.getElem?_eq_some_iff.1 hb).1
    have la:=hr i _ a (List.getElem?_eq_getElem (by omega)) ha
    have lb:=hr k _ b (List.getElem?_eq_getElem (by omega)) hb
    have mi:(ls[i]'(by omega),i)∈ls.zipIdx:=by rw[List.mem_zipIdx_iff_getElem?]; simp[List.getElem?_eq_getElem (show i < ls.length by omega)]
    have mk:(ls[k]'(by omega),k)∈ls.zipIdx:=by rw[List.mem_zipIdx_iff_getElem?]; simp[List.getElem?_eq_getElem (show k < ls.length by omega)]
    by_cases h1:pairOk all (ls[i]'(by omega)) i (ls[k]'(by omega)) k=true
    · unfold pairOk at h1
      simp only[hik,decide_true,Bool.not_true,ho,Bool.false_or,Bool.or_eq_true,beq_iff_eq,Bool.and_eq_true,decide_eq_true_eq] at h1
      rcases h1 with ((h1 | h1) | h1) | h1
      · obtain ⟨e1,e2,e3,e4⟩:=la.1 h1
        exact ⟨fun id hid=>by simp[e2] at hid,fun id _=>by simp[e1],fun hc=>by simp[e3] at hc,fun _=>e2,fun id _ hx=>by omega⟩
      · obtain ⟨e1,e2,e3,e4⟩:=lb.1 h1
        exact ⟨fun id _=>by simp[e1],fun id hid=>by simp[e2] at hid,fun _=>e2,fun hc=>by simp[e3] at hc,fun id hid=>by simp[e2] at hid⟩
      · have e1:=la.2 h1.1
        have e2:=lb.2 h1.2
        exact ⟨fun id hid=>by simp[e1] at hid,fun id hid=>by simp[e2] at hid,fun _=>e2,fun _=>e1,fun id hid=>by simp[e2] at hid⟩
      · exact newPair_ok tr h1 ha hb
    · have hm:(i,k)∈badPairs all ls:=by
        unfold badPairs
        rw[List.mem_flatMap]
        refine ⟨_,mi,?_⟩
        rw[List.mem_filterMap]
        exact ⟨_,mk,by simp only; rw[if_neg h1]⟩
      by_cases hn:newAt all k=true
      · unfold newAt at hn
        split at hn
        · rename_i ob hob
          obtain ⟨T1,h1',v,h2,rd,wr,call,recs2,e1,e2,_⟩:=tr.at_ k ob hob
          rw[hb] at e1
          have e1:=Option.some.inj e1
          subst e1
          obtain ⟨n1,n2,n3⟩:=step_new e2 hn
          exact ⟨fun id _=>by simp[n1],fun id hid=>by simp[n2] at hid,fun _=>n2,fun hc=>by simp[n3] at hc,fun id hid=>by simp[n2] at hid⟩
        · simp at hn
      · obtain ⟨p,hp,e⟩:=apAllM_mem h (i,k) (by
          unfold restM
          rw[List.mem_filter]
          refine ⟨hm,?_⟩
          simp only[Bool.and_eq_true,Bool.not_eq_true',bne_iff_ne,ne_eq]
          exact ⟨by simpa using hn,hne⟩)
        exact apPairs_ok tr e (fun q hq=>hA q (hp q hq)) ha hb
  cases tp with
  | none=>exact Conf.toT fun i k a b h1 h2 h3 h4=>main i k a b h1 h2 h3 h4 (by simp)
  | some p =>
    obtain ⟨i0,k0⟩:=p
    obtain ⟨tol,hto,htv⟩:=htol _ rfl
    intro Ts hs vs eT0 eh0 eTN hrl hst i
    by_cases hi:i=i0
    · subst hi
      refine ⟨some k0,fun k a b h1 h2 h3 h4 h5=>main i k a b h1 h2 h3 h4 (fun e=>h5 (by simp at e; rw[e])),fun k a b o hk ha hb ho=>?_⟩
      simp at hk; subst hk
      unfold tolOf at hto
      simp only at hto
      split at hto
      · rename_i oa ob hoa hob
        rw[ho] at hoa
        have hoa:=Option.some.inj hoa
        subst hoa
        split at hto
        · rename_i t m q t' m' q' hop1 hop2 hg1 hg2
          split at hto
          · rename_i hcond
            simp only[Bool.and_eq_true,beq_iff_eq,decide_eq_true_eq,List.all_eq_true,List.mem_range] at hcond
            obtain ⟨⟨⟨⟨⟨⟨⟨⟨rfl,rfl⟩,rfl⟩,s1⟩,s2⟩,s3⟩,s4⟩,hik⟩,hloud⟩:=hcond
            simp only[Option.some.injEq] at hto
            subst hto
            simp only at htv
            have hkl:k0 < all.length:=(List.getElem?_eq_some_iff.1 hob).1
            have hwr:∀ j r,j < k0→recs[j]?=some r→r.wr=[]:=fun j r hj hrj=>by
              have h1:=hloud j hj
              have hj':j < ls.length:=by omega
              rw[List.getD_eq_getElem?_getD,List.getElem?_eq_getElem hj'] at h1
              exact (hr j _ r (List.getElem?_eq_getElem hj') hrj).2 h1
            have hsame:=hs_same hst hrl (Nat.le_of_lt hkl) hwr
            have em:∀ j,i≤j→j≤all.length→Ts j m=T' m:=fun j h1 h2=>by
              rw[← eTN,states_keep hst hrl s1 j h1 h2,states_keep hst hrl s1 all.length (by omega) (Nat.le_refl _)]
            have eq:∀ j,i≤j→j≤all.length→Ts j q=T' q:=fun j h1 h2=>by
              rw[← eTN,states_keep hst hrl s2 j h1 h2,states_keep hst hrl s2 all.length (by omega) (Nat.le_refl _)]
            obtain ⟨sti,_,_,hlo,hhi⟩:=hst i o a ho ha
            obtain ⟨stk,_,_,_,_⟩:=hst k0 ob b hob hb
            have gi:guardV n all (Ts i) o=some true:=by unfold guardV; rw[hg1]
            have gk:guardV n all (Ts k0) ob=some true:=by unfold guardV; rw[hg2]
            unfold TolV at htv
            split at htv
            · rename_i id hid
              obtain ⟨⟨es0,c0,hmap⟩,htv⟩:=htv
              have hidl:id < hp.length:=view_ne (by rw[hmap]; simp)
              have hvk:(hs k0).view id=hp.view id:=by rw[(hsame k0 (Nat.le_refl _)).2 id (by rw[eh0]; exact hidl),eh0]
              have hvi:(hs i).view id=hp.view id:=by rw[(hsame i (Nat.le_of_lt hik)).2 id (by rw[eh0]; exact hidl),eh0]
              obtain ⟨effi,hopi,hi',wri,cai⟩:=ostep_op sti gi (by rw[hop1]; simp) (by rw[hop1]; simp) (by rw[hop1]; simp)
              obtain ⟨effk,hopk,hk',wrk,cak⟩:=ostep_op stk gk (by rw[hop2]; simp) (by rw[hop2]; simp) (by rw[hop2]; simp)
              simp only[aop,hop1] at hopi
              simp only[aop,hop2] at hopk
              have e1:ev (Ts i) (.tmp m)=.mp id:=(em i (Nat.le_refl _) (by omega)).trans hid
              have e2:ev (Ts i) (.tmp q)=T' q:=eq i (Nat.le_refl _) (by omega)
              have e3:ev (Ts k0) (.tmp m)=.mp id:=(em k0 (by omega) (by omega)).trans hid
              have e4:ev (Ts k0) (.tmp q)=T' q:=eq k0 (by omega) (by omega)
              rw[e1,e2] at hopi
              rw[e3,e4,entry_same hvk] at hopk
              obtain ⟨l1,l2⟩:=look_inv hopi
              obtain ⟨obj,l3⟩:=entry_inv hopk
              subst l1 l3
              have hkb:(hs (k0+1)).view id=obj:=by
                rw[hk',apply_view (fun id' hid'=>by
                  simp only[Eff.wr,List.mem_singleton] at hid'
                  subst hid'
                  rw[hvk,hmap]; simp)]
                simp[Eff.view,View.set]
              refine ⟨hik,wri,cai,by rw[hlo,hhi,hi']; rfl,fun g hg hgv=>?_⟩
              have hidi:id < (hs i).length:=view_ne (by rw[hvi,hmap]; simp)
              have hgid:g.view id=(hp.view.set id obj) id:=by
                rw[hgv id hidi,wrk,if_pos (by simp[Eff.wr]),hkb]
                simp[View.set]
              have hlk:=htv _ _ _ hopk
              have hfin:aop P o (Ts i) g.view g.length=some (vs i,.none,a.rd):=by
                simp only[aop,hop1]
                rw[e1,e2,look_same hgid,hlk,← look_same hvi]
                exact hopi
              exact .op gi hfin
            · exact htv.elim
          · simp at hto
        · simp at hto
      · simp at hto
    · exact ⟨none,fun k a b h1 h2 h3 h4 _=>main i k a b h1 h2 h3 h4 (fun e=>hi (by simp at e; exact e.1.symm)),fun k a b o h1=>by simp at h1⟩
theorem compA_ok (hm:P.follows .mixedOrders=true) {fz:Fz} {id:Nat} {ops:Array Oper} {sc:SC} {T:Env} {h:Heap} {Q:Exit→Env→View→Prop} (hc:compA P n fz ops.toList=some sc) (hw:wS P sc T h.view Q) :
    ∃ e T' h',Exec P n (.region id ops true) T h e T' h'∧(Stay h h'∧h.length≤h'.length)∧Q e T' h'.view:=by
  unfold compA at hc
  split at hc
  · simp at hc
  · rename_i l hl
    split at hc
    · simp at hc
    · rename_i hok
      have hok:(group l).all okG=true:=by simpa using hok
      have hl':compOs P n ops.toList fz ops.toList=some (flatG (group l)):=by rw[group_flat]; exact hl
      split at hc
      · rename_i ht
        simp only[Option.map_eq_some_iff] at hc
        obtain ⟨aps,hap,rfl⟩:=hc
        obtain ⟨recs,T',h',tr,hst,hk,hro⟩:=wGs_ok (group l) ops.toList T h hl' hok hw
        rw[group_flat] at hro
        refine ⟨.normal,T',h',?_,hst,hk.rest⟩
        have hcf:Conf ops.toList recs:=confA_ok tr hap (apAll_ok hk) (by simpa using hro.1) (fun i x r hx hr=>by
          simp only[List.getElem?_map,Option.map_eq_some_iff] at hx
          obtain ⟨s,hs,rfl⟩:=hx
          exact hro.2 i s r hs hr)
        simpa using draw_exec hm (id:=id) tr ht hcf
      · simp at hc
theorem compM_ok (hm:P.follows .mixedOrders=true) {fz:Fz} {id:Nat} {ops:Array Oper} {sc:SC} {T:Env} {h:Heap} {Q:Exit→Env→View→Prop} (hc:compM P n fz ops.toList=some sc) (hw:wS P sc T h.view Q) :
    ∃ e T' h',Exec P n (.region id ops true) T h e T' h'∧(Stay h h'∧h.length≤h'.length)∧Q e T' h'.view:=by
  unfold compM at hc
  split at hc
  · simp at hc
  · rename_i l hl
    split at hc
    · simp at hc
    · rename_i hok
      have hok:(group l).all okG=true:=by simpa using hok
      have hl':compOs P n ops.toList fz ops.toList=some (flatG (group l)):=by rw[group_flat]; exact hl
      split at hc
      · rename_i ht
        split at hc
        · simp only[Option.map_eq_some_iff] at hc
          obtain ⟨aps,hap,rfl⟩:=hc
          obtain ⟨recs,T',h',tr,hst,hk,hro⟩:=wGs_ok (group l) ops.toList T h hl' hok hw
          rw[group_flat] at hro
          refine ⟨.normal,T',h',?_,hst,hk.rest⟩
          have hcf:=confM_ok tr hap (apAll_ok hk) (by simpa using hro.1) (fun i x r hx hr=>by
            simp only[List.getElem?_map,Option.map_eq_some_iff] at hx
            obtain ⟨s,hs,rfl⟩:=hx
            exact hro.2 i s r hs hr) (fun p hp=>by simp at hp)
          simpa using draw_execT hm (id:=id) tr ht hcf
        · rename_i p hp
          split at hc
          · rename_i tol hto
            simp only[Option.map_eq_some_iff] at hc
            obtain ⟨aps,hap,rfl⟩:=hc
            obtain ⟨recs,T',h',tr,hst,hk,hro⟩:=wGs_ok (group l) ops.toList T h hl' hok hw
            rw[group_flat] at hro
            refine ⟨.normal,T',h',?_,hst,hk.2.rest⟩
            have hcf:=confM_ok tr hap (apAll_ok hk.2) (by simpa using hro.1) (fun i x r hx hr=>by
              simp only[List.getElem?_map,Option.map_eq_some_iff] at hx
              obtain ⟨s,hs,rfl⟩:=hx
              exact hro.2 i s r hs hr) (fun p' hp'=>by
                simp only[Option.some.injEq] at hp'
                subst hp'
                exact ⟨tol,hto,hk.1⟩)
            simpa using draw_execT hm (id:=id) tr ht hcf
          · simp at hc
      · simp at hc
theorem compT_ok (hm:P.follows .mixedOrders=true) {fz:Fz} {id:Nat} {ops:Array Oper} {draw quiet:Bool} {sc:SC} {T:Env} {h:Heap} {Q:Exit→Env→View→Prop} (hc:compT P n fz ops.toList draw quiet=some sc) (hw:wS P sc T h.view Q) :
    ∃ e T' h',Exec P n (.region id ops draw) T h e T' h'∧(Stay h h'∧h.length≤h'.length)∧Q e T' h'.view:=by
  unfold compT at hc
  split at hc
  · simp at hc
  · rename_i l hl
    split at hc
    · simp at hc
    · rename_i hok
      have hok:(group l).all okG=true:=by simpa using hok
      have hl':compOs P n ops.toList fz ops.toList=some (flatG (group l)):=by rw[group_flat]; exact hl
      have key:wGs P quiet (group l) T h.view (Q .normal)→(draw=true→tmpsOk ops.toList=true∧confS ops.toList (l.map fun s=>loudB P quiet s.b)=true) →
          ∃ e T' h',Exec P n (.region id ops draw) T h e T' h'∧(Stay h h'∧h.length≤h'.length)∧Q e T' h'.view:=by
        intro hw hdr
        obtain ⟨recs,T',h',tr,hst,hk,hro⟩:=wGs_ok (group l) ops.toList T h hl' hok hw
        rw[group_flat] at hro
        refine ⟨.normal,T',h',?_,hst,hk⟩
        cases hd:draw with
        | false=>simpa using seq_exec (id:=id) tr
        | true =>
          obtain ⟨h1,h2⟩:=hdr hd
          have hcf:Conf ops.toList recs:=confS_ok tr h2 (by simpa using hro.1) (fun i x r hx hr=>by
            simp only[List.getElem?_map,Option.map_eq_some_iff] at hx
            obtain ⟨s,hs,rfl⟩:=hx
            exact hro.2 i s r hs hr)
          simpa using draw_exec hm (id:=id) tr h1 hcf
      split at hc
      · rename_i hd
        split at hc
        · rename_i ht
          simp at hc; subst hc
          exact key hw (fun _=>by simpa using ht)
        · simp at hc
      · rename_i hd
        simp at hc; subst hc
        exact key hw (fun e=>absurd e hd)
theorem orElse_inv {a b:Option SC} {sc:SC} (h:orElse' a b=some sc):a=some sc∨b=some sc:=by
  cases a with
  | none=>exact .inr h
  | some x=>exact .inl h
theorem region_ok (hm:P.follows .mixedOrders=true) {fz:List Nat} {id:Nat} {ops:Array Oper} {draw:Bool} {sc:SC} {T:Env} {h:Heap} {Q:Exit→Env→View→Prop} (hc:compR P n fz ops.toList draw=some sc) (hw:wS P sc T h.view Q) :
    ∃ e T' h',Exec P n (.region id ops draw) T h e T' h'∧(Stay h h'∧h.length≤h'.length)∧Q e T' h'.view:=by
  unfold compR at hc
  rcases orElse_inv hc with h1 | h1
  · exact compT_ok hm h1 hw
  · clear hc
    split at h1
    · rename_i hd
      subst hd
      rcases orElse_inv h1 with h0 | h1
      · split at h0
        · exact compM_ok hm h0 hw
        · simp at h0
      rcases orElse_inv h1 with h2 | h2
      · exact compA_ok hm h2 hw
      · rcases orElse_inv h2 with h3 | h3
        · exact compT_ok hm h3 hw
        · rcases orElse_inv h3 with h4 | h4
          · exact compT_ok hm h4 hw
          · exact compT_ok hm h4 hw
    · simp at h1
theorem ifN_split {e:Exit} {a b:Prop} (h:ifN e a b):(e=.normal∧a)∨(e≠.normal∧b):=by
  cases e with
  | normal=>exact .inl ⟨rfl,h⟩
  | _=>exact .inr ⟨by simp,h⟩
def GoodC (P:Program) (n:Nat) (fz:List Nat) (c:Code):Prop:=∀ sc:SC,compC P n fz c=some sc→∀ (T:Env) (h:Heap) (Q:Exit→Env→View→Prop),wS P sc T h.view Q →
    ∃ e T' h',Exec P n c T h e T' h'∧(Stay h h'∧h.length≤h'.length)∧Q e T' h'.view
theorem good_skip {fz:List Nat} : GoodC P n fz .skip:=by
  intro sc hc T h Q hw; simp[compC] at hc; subst hc; exact ⟨_,T,h,.skip,⟨.refl _,Nat.le_refl _⟩,hw⟩
theorem good_seq {fz:List Nat} {x y:Code} (ihx:GoodC P n fz x) (ihy:GoodC P n fz y):GoodC P n fz (.seq x y):=by
  intro sc hc T h Q hw
  simp only[compC] at hc
  split at hc
  · rename_i a b h1 h2
    simp at hc; subst hc
    simp only[wS] at hw
    obtain ⟨e,T1,h1',hx,st1,hq⟩:=ihx a h1 T h _ hw
    rcases ifN_split hq with ⟨rfl,hq⟩ | ⟨hne,hq⟩
    · obtain ⟨e2,T2,h2',hy,st2,hq2⟩:=ihy b h2 T1 h1' _ hq
      exact ⟨e2,T2,h2',hx.seq hy,⟨st1.1.trans st2.1 st1.2,Nat.le_trans st1.2 st2.2⟩,hq2⟩
    · exact ⟨e,T1,h1',hx.seq_out hne,st1,hq⟩
  · simp at hc
theorem compT_find {fz:Fz} {ops:List Oper} {draw quiet:Bool} {sc:SC} (h:compT P n fz ops draw quiet=some sc) (l:Nat):findS sc l=none:=by
  unfold compT at h
  repeat' (first | (simp only[Option.some.injEq] at h; subst h; rfl) | (split at h) | (simp at h; done))
theorem compA_find {fz:Fz} {ops:List Oper} {sc:SC} (h:compA P n fz ops=some sc) (l:Nat):findS sc l=none:=by
  unfold compA at h
  repeat' (first | (simp only[Option.map_eq_some_iff] at h; obtain ⟨_,_,rfl⟩:=h; rfl) | (split at h) | (simp at h; done))
theorem compM_find {fz:Fz} {ops:List Oper} {sc:SC} (h:compM P n fz ops=some sc) (l:Nat):findS sc l=none:=by
  unfold compM at h
  repeat' (first | (simp only[Option.map_eq_some_iff] at h; obtain ⟨_,_,rfl⟩:=h; rfl) | (split at h) | (simp at h; done))
theorem compR_find {fz:List Nat} {ops:List Oper} {draw:Bool} {sc:SC} (h:compR P n fz ops draw=some sc) (l:Nat):findS sc l=none:=by
  unfold compR at h
  rcases orElse_inv h with h1 | h1
  · exact compT_find h1 l
  · split at h1
    · rcases orElse_inv h1 with h0 | h1
      · split at h0
        · exact compM_find h0 l
        · simp at h0
      rcases orElse_inv h1 with h2 | h2
      · exact compA_find h2 l
      · rcases orElse_inv h2 with h3 | h3
        · exact compT_find h3 l
        · rcases orElse_inv h3 with h4 | h4
          · exact compT_find h4 l
          · exact compT_find h4 l
    · simp at h1
theorem find_comp {fz:List Nat} : ∀ (c:Code) (sc:SC),compC P n fz c=some sc→∀ l,match findLabel c l with
    | some rest=>∃ r,findS sc l=some r∧compC P n fz rest=some r
    | none=>findS sc l=none:=by
  intro c
  induction c with
  | seq x y ihx ihy =>
    intro sc hc l
    simp only[compC] at hc
    split at hc
    · rename_i a b h1 h2
      simp at hc; subst hc
      have hx:=ihx a h1 l
      have hy:=ihy b h2 l
      simp only[findLabel,findS]
      cases h3:findLabel x l with
      | some rx =>
        rw[h3] at hx
        obtain ⟨r,e1,e2⟩:=hx
        exact ⟨.seq r b,by rw[e1],by simp only[compC,e2,h2]⟩
      | none =>
        rw[h3] at hx
        simp only at hx ⊢
        rw[hx]
        exact hy
    · simp at hc
  | label l' =>
    intro sc hc l
    simp[compC] at hc; subst hc
    simp only[findLabel,findS]
    by_cases e:(l' == l)=true
    · rw[if_pos e]; exact ⟨.skip,by rw[if_pos e],by simp[compC]⟩
    · rw[if_neg e]; simp only; rw[if_neg e]
  | region id ops draw=>intro sc hc l; simp only[compC] at hc; simp only[findLabel]; exact compR_find hc l
  | cond x y z _ _ =>
    intro sc hc l
    simp only[compC] at hc
    split at hc
    · simp at hc; subst hc; rfl
    · simp at hc
  | block id c _=>intro sc hc l; simp only[compC,Option.map_eq_some_iff] at hc; obtain ⟨_,_,rfl⟩:=hc; rfl
  | loop c _=>intro sc hc l; simp only[compC,Option.map_eq_some_iff] at hc; obtain ⟨_,_,rfl⟩:=hc; rfl
  | scope c _ =>
    intro sc hc l
    simp only[compC] at hc
    split at hc
    · split at hc
      · simp only[Option.map_eq_some_iff] at hc; obtain ⟨_,_,rfl⟩:=hc; rfl
      · simp at hc
    · simp at hc
  | skip=>intro sc hc l; simp[compC] at hc; subst hc; rfl
  | exit id=>intro sc hc l; simp[compC] at hc; subst hc; rfl
  | ret=>intro sc hc l; simp[compC] at hc; subst hc; rfl
  | goto l'=>intro sc hc l; simp[compC] at hc; subst hc; rfl
  | _=>intro sc hc; simp[compC] at hc
theorem good_scope {fz:List Nat} {c:Code} (h0:GoodC P n fz c) (hr:∀ l rest,findLabel c l=some rest→GoodC P n fz rest):GoodC P n fz (.scope c):=by
  intro sc hc T h Q hw
  simp only[compC] at hc
  split at hc
  · rename_i a h1
    split at hc
    · rename_i l h2
      simp only[Option.map_eq_some_iff] at hc
      obtain ⟨r,h3,rfl⟩:=hc
      have hf:=find_comp c a h1 l
      cases h4:findLabel c l with
      | none=>rw[h4] at hf; simp only at hf; rw[hf] at h3; simp at h3
      | some rest =>
        rw[h4] at hf
        obtain ⟨r',e1,e2⟩:=hf
        rw[h3] at e1
        have e1:=Option.some.inj e1
        subst e1
        simp only[wS] at hw
        obtain ⟨I,K,hw1,hw2⟩:=hw
        have go:∀ k T (h:Heap),I k T h.view→∃ e T' h',ExecS P n c rest T h e T' h'∧(Stay h h'∧h.length≤h'.length)∧Q e T' h'.view:=by
          intro k
          induction k using Nat.strongRecOn with
          | ind k ihk =>
            intro T h hI
            obtain ⟨e,T1,h1',hx,st1,hq⟩:=hr l rest h4 r e2 T h _ (hw2 k T h.view hI)
            cases e with
            | goto l' =>
              obtain ⟨rfl,k',hlt,hI'⟩:=hq
              obtain ⟨e2,T2,h2',hy,st2,hq2⟩:=ihk k' hlt T1 h1' hI'
              exact ⟨e2,T2,h2',ExecS.jump hx h4 hy,⟨st1.1.trans st2.1 st1.2,Nat.le_trans st1.2 st2.2⟩,hq2⟩
            | _=>exact ⟨_,T1,h1',.out hx rfl,st1,hq⟩
        obtain ⟨e,T1,h1',hx,st1,hq⟩:=h0 a h1 T h _ hw1
        cases e with
        | goto l' =>
          obtain ⟨rfl,k',_,hI'⟩:=hq
          obtain ⟨e2,T2,h2',hy,st2,hq2⟩:=go k' T1 h1' hI'
          exact ⟨e2,T2,h2',.scope (ExecS.jump hx h4 hy),⟨st1.1.trans st2.1 st1.2,Nat.le_trans st1.2 st2.2⟩,hq2⟩
        | _=>exact ⟨_,T1,h1',.scope (.out hx rfl),st1,hq⟩
    · simp at hc
  · simp at hc
theorem good_all (hm:P.follows .mixedOrders=true) {fz:List Nat} : ∀ c:Code,GoodC P n fz c∧∀ l rest,findLabel c l=some rest→GoodC P n fz rest:=by
  intro c
  induction c with
  | skip=>exact ⟨good_skip,fun l rest h=>by simp[findLabel] at h⟩
  | region id ops draw=>exact ⟨fun sc hc T h Q hw=>region_ok hm hc hw,fun l rest h=>by simp[findLabel] at h⟩
  | seq x y ihx ihy =>
    refine ⟨good_seq ihx.1 ihy.1,fun l rest h=>?_⟩
    simp only[findLabel] at h
    split at h
    · rename_i r hr
      simp only[Option.some.injEq] at h; subst h
      exact good_seq (ihx.2 _ _ hr) ihy.1
    · exact ihy.2 _ _ h
  | cond c x y ihx ihy =>
    refine ⟨?_,fun l rest h=>by simp[findLabel] at h⟩
    intro sc hc T h Q hw
    simp only[compC] at hc
    split at hc
    · rename_i a b h1 h2
      simp at hc; subst hc
      simp only[wS] at hw
      split at hw
      · rename_i t ht
        have hT:condT (SX.of c) t T=T:=by
          unfold condT
          split
          · rename_i k hk
            rw[hk] at ht
            exact put_same ht
          · rfl
        rw[SX.of_at] at ht
        cases t with
        | true =>
          have:=hw.1 rfl
          rw[hT] at this
          obtain ⟨e,T',h',hx,st,hq⟩:=ihx.1 a h1 T h Q this
          exact ⟨e,T',h',.cond ht hx,st,hq⟩
        | false =>
          have:=hw.2 rfl
          rw[hT] at this
          obtain ⟨e,T',h',hx,st,hq⟩:=ihy.1 b h2 T h Q this
          exact ⟨e,T',h',.cond ht hx,st,hq⟩
      · exact hw.elim
    · simp at hc
  | block id c ih =>
    refine ⟨?_,fun l rest h=>by simp[findLabel] at h⟩
    intro sc hc T h Q hw
    simp only[compC,Option.map_eq_some_iff] at hc
    obtain ⟨a,h1,rfl⟩:=hc
    simp only[wS] at hw
    obtain ⟨e,T',h',hx,st,hq⟩:=ih.1 a h1 T h _ hw
    exact ⟨_,T',h',hx.block,st,hq⟩
  | loop c ih =>
    refine ⟨?_,fun l rest h=>by simp[findLabel] at h⟩
    intro sc hc T h Q hw
    simp only[compC,Option.map_eq_some_iff] at hc
    obtain ⟨a,h1,rfl⟩:=hc
    simp only[wS] at hw
    obtain ⟨I,⟨k,hk⟩,hstep⟩:=hw
    have go:∀ k T (h:Heap),I k T h.view→∃ e T' h',ExecL P n c T h e T' h'∧(Stay h h'∧h.length≤h'.length)∧Q e T' h'.view:=by
      intro k
      induction k using Nat.strongRecOn with
      | ind k ihk =>
        intro T h hI
        obtain ⟨e,T1,h1',hx,st1,hq⟩:=ih.1 a h1 T h _ (hstep k T h.view hI)
        rcases ifN_split hq with ⟨rfl,k',hlt,hI'⟩ | ⟨hne,hq⟩
        · obtain ⟨e2,T2,h2',hy,st2,hq2⟩:=ihk k' hlt T1 h1' hI'
          exact ⟨e2,T2,h2',.step hx hy,⟨st1.1.trans st2.1 st1.2,Nat.le_trans st1.2 st2.2⟩,hq2⟩
        · exact ⟨e,T1,h1',.out hx hne,st1,hq⟩
    obtain ⟨e,T',h',hx,st,hq⟩:=go k T h hk
    exact ⟨e,T',h',.loop hx,st,hq⟩
  | exit id=>exact ⟨fun sc hc T h Q hw=>by simp[compC] at hc; subst hc; exact ⟨_,T,h,.exit,⟨.refl _,Nat.le_refl _⟩,hw⟩,fun l rest h=>by simp[findLabel] at h⟩
  | ret=>exact ⟨fun sc hc T h Q hw=>by simp[compC] at hc; subst hc; exact ⟨_,T,h,.ret,⟨.refl _,Nat.le_refl _⟩,hw⟩,fun l rest h=>by simp[findLabel] at h⟩
  | label l'=>exact ⟨fun sc hc T h Q hw=>by simp[compC] at hc; subst hc; exact ⟨_,T,h,.label,⟨.refl _,Nat.le_refl _⟩,hw⟩,fun l rest h=>by
      simp only[findLabel] at h
      split at h
      · simp only[Option.some.injEq] at h; subst h; exact good_skip
      · simp at h⟩
  | goto l'=>exact ⟨fun sc hc T h Q hw=>by simp[compC] at hc; subst hc; exact ⟨_,T,h,.goto,⟨.refl _,Nat.le_refl _⟩,hw⟩,fun l rest h=>by simp[findLabel] at h⟩
  | scope c ih=>exact ⟨good_scope ih.1 ih.2,fun l rest h=>by simp[findLabel] at h⟩
  | _=>exact ⟨fun sc hc=>by simp[compC] at hc,fun l rest h=>by simp[findLabel] at h⟩
theorem wS_ok (hm:P.follows .mixedOrders=true) {fz:List Nat} (c:Code) (sc:SC) (hc:compC P n fz c=some sc) (T:Env) (h:Heap) (Q:Exit→Env→View→Prop) (hw:wS P sc T h.view Q) :
    ∃ e T' h',Exec P n c T h e T' h'∧(Stay h h'∧h.length≤h'.length)∧Q e T' h'.view:=(good_all hm c).1 sc hc T h Q hw
theorem wR_ok {T:Env} {h:Heap} {r:ResultVar} {l:List SR} {rest:List ResultVar} (hc:compRes P (r :: rest)=some l):∃ s l',l=s :: l'∧compRes P rest=some l'∧∀ K:V→Prop,wR T h.view s K→∃ v,resOne P T h r=some v∧K v:=by
  cases r with
  | tmp t =>
    simp only[compRes,Option.map_eq_some_iff] at hc
    obtain ⟨l',h1,rfl⟩:=hc
    exact ⟨.tmp t,l',rfl,h1,fun K hk=>⟨_,rfl,hk⟩⟩
  | cell a t =>
    simp only[compRes] at hc
    split at hc
    · rename_i k l' h1 h2
      simp at hc; subst hc
      refine ⟨.cell a k,l',rfl,h2,fun K hk=>?_⟩
      simp only[wR] at hk
      simp only[resOne,aLoad,partK_ok h1]
      split at hk
      · rename_i id i j ha
        split at hk
        · rename_i es hH
          obtain ⟨hlt,hk⟩:=hk
          obtain ⟨v,hv,hk⟩:=wPart_ok hk
          exact ⟨v,by rw[ha]; simp only[hH]; rw[if_pos hlt,hv]; rfl,hk⟩
        · exact hk.elim
      · rename_i e j ha
        obtain ⟨v,hv,hk⟩:=wPart_ok hk
        exact ⟨v,by rw[ha]; simp only; rw[hv]; rfl,hk⟩
      · exact hk.elim
    · simp at hc
theorem wRs_ok {T:Env} {h:Heap} {K:List V→Prop} : ∀ (rs:List ResultVar) (l:List SR) (acc:List V),compRes P rs=some l→wRs T h.view l acc K→∃ vs,resAll P T h rs=some vs∧K (acc ++ vs)
  | [],l,acc,hc,hw=>by simp[compRes] at hc; subst hc; exact ⟨[],rfl,by simpa [wRs] using hw⟩
  | r :: rest,l,acc,hc,hw=>by
    obtain ⟨s,l',rfl,h1,h2⟩:=wR_ok (T:=T) (h:=h) hc
    simp only[wRs] at hw
    obtain ⟨v,hv,hk⟩:=h2 _ hw
    obtain ⟨vs,hvs,hk⟩:=wRs_ok rest l' (acc ++ [v]) h1 hk
    exact ⟨v :: vs,by simp[resAll,hv,hvs],by simpa using hk⟩
def wF (P:Program) (F:SF) (vs:List V) (H:View) (K:V→View→Prop):Prop :=
  vs.length≤F.n∧wS P F.code (argsEnv vs) H fun e T' H'=>(e=.ret∨e=.normal)∧wRs T' H' F.res [] fun l=>K (oneV l) H'
theorem MCall.of (hm:P.follows .mixedOrders=true) {f:FuncId} {fz:List Nat} {F:SF} (hF:compF P f fz=some F) {vs:List V} {H:View} {K:V→View→Prop} (hw:wF P F vs H K):MCall P f vs H K:=by
  unfold compF at hF
  split at hF
  · rename_i fn hfn
    split at hF
    · rename_i c hb
      split at hF
      · rename_i sc rs h1 h2 h3
        simp at hF; subst hF
        refine ⟨h3,?_⟩
        rintro h rfl
        obtain ⟨e,T',h',hx,st,he,hr⟩:=wS_ok hm c sc h1 _ h _ hw.2
        obtain ⟨vs',hvs,hk⟩:=wRs_ok _ _ [] h2 hr
        refine ⟨oneV vs',h',ACall.of_exec hfn hb hw.1 hx he ?_,st.1,by simpa using hk⟩
        unfold resV
        rw[hvs]
        cases vs' with
        | nil=>rfl
        | cons a l=>cases l <;> rfl
      · simp at hF
    · simp at hF
  · simp at hF
theorem MCall.mono {f:FuncId} {vs:List V} {H:View} {K K':V→View→Prop} (h:MCall P f vs H K) (hk:∀ r H',K r H'→K' r H'):MCall P f vs H K' :=
  ⟨h.1,fun h0 e=>let ⟨r,h',a,s,b⟩:=h.2 h0 e; ⟨r,h',a,s,hk _ _ b⟩⟩
theorem PCall.to_q {f:FuncId} {vs:List V} {H:View} {t:V} {K:V→View→Prop} (h:PCall P f vs t) (hok:calleeOk P f=true) (hk:K t H):QCall P f vs H K :=
  ⟨hok,fun h0 e=>⟨t,h0,ACall.of_pure h h0,fun _ _=>rfl,e ▸ hk⟩⟩
theorem MCall.to_q {f:FuncId} {vs:List V} {H:View} {K:V→View→Prop} (h:MCall P f vs H fun r H'=>(∀ id,H id≠.dead→H' id=H id)∧K r H'):QCall P f vs H K :=
  ⟨h.1,fun h0 e=>by
    obtain ⟨r,h',ha,st,hf,hk⟩:=h.2 h0 e
    refine ⟨r,h',ha,fun id hid=>?_,hk⟩
    by_cases hd:h0.view id=.dead
    · rw[hd]; exact st id hid hd
    · rw[← e] at hf; exact hf id hd⟩
end
inductive Veil {α:Type} (x:α):Type where
  | mk
def bts (s:ByteArray):List Int:=s.data.toList.map fun b=>(b.toNat:Int)
theorem bts_len (s:ByteArray):s.size=(bts s).length:=by rw[bts,List.length_map,bsize]
def LoopG (P:Program) (c:SC) (T:Env) (H:View) (Q:Exit→Env→View→Prop) (_:Veil (T,H,Q)):Prop:=wS P (.loop c) T H Q
def ScopeG (P:Program) (l:Nat) (c r:SC) (T:Env) (H:View) (Q:Exit→Env→View→Prop) (_:Veil (T,H,Q)):Prop:=wS P (.scope l c r) T H Q
def CallG (P:Program) (quiet:Bool) (f:FuncId) (vs:List V) (H:View) (K:V→View→Prop) (_:Veil (H,K)):Prop :=
  if quiet then QCall P f vs H K else MCall P f vs H K
def Go0 {α:Type} (v:α) (F:α→Prop) (_:Veil F):Prop:=F v
def Go1 (v:V) (F:V→Prop) (_:Veil F):Prop:=F v
def GoA (o:AObj) (F:AObj→Prop) (_:Veil F):Prop:=F o
def GoO {α:Type} (o:Option α) (F:Option α→Prop) (_:Veil F):Prop:=F o
def GoB (b:Bool) (A B:Prop) (_:Veil (A,B)):Prop:=(b=true→A)∧(b=false→B)
theorem go0 {α:Type} (v:α) (F:α→Prop) (w:Veil F):Go0 v F w=F v:=propext Iff.rfl
section
variable (F:V→Prop) (w:Veil F)
theorem go1_val (v:Value):Go1 (.val v) F w=F (.val v):=propext Iff.rfl
theorem go1_emp (k:Nat):Go1 (.emp k) F w=F (.emp k):=propext Iff.rfl
theorem go1_nem:Go1 .nem F w=F .nem:=propext Iff.rfl
theorem go1_fro (es:List (List V)):Go1 (.fro es) F w=F (.fro es):=propext Iff.rfl
theorem go1_sl (a b c d:Nat):Go1 (.sl a b c d) F w=F (.sl a b c d):=propext Iff.rfl
theorem go1_ptr (a b c:Nat):Go1 (.ptr a b c) F w=F (.ptr a b c):=propext Iff.rfl
theorem go1_fptr (e:List V) (j:Nat):Go1 (.fptr e j) F w=F (.fptr e j):=propext Iff.rfl
theorem go1_mp (a:Nat):Go1 (.mp a) F w=F (.mp a):=propext Iff.rfl
theorem go1_fn (f:FuncId) (a b:List V):Go1 (.fn f a b) F w=F (.fn f a b):=propext Iff.rfl
theorem go1_agg (cs:List V):Go1 (.agg cs) F w=F (.agg cs):=propext Iff.rfl
theorem go1_tup (cs:List V):Go1 (.tup cs) F w=F (.tup cs):=propext Iff.rfl
end
theorem goA_arr (F:AObj→Prop) (w:Veil F) (k:Nat) (es:List (List V)):GoA (.arr k es) F w=F (.arr k es):=propext Iff.rfl
theorem goA_map (F:AObj→Prop) (w:Veil F) (es:List (V × V × Nat)) (k:Nat):GoA (.map es k) F w=F (.map es k):=propext Iff.rfl
theorem goO_some {α:Type} (F:Option α→Prop) (w:Veil F) (x:α):GoO (some x) F w=F (some x):=propext Iff.rfl
theorem goB_true (A B:Prop) (w:Veil (A,B)):GoB true A B w=A:=by simp[GoB]
theorem goB_false (A B:Prop) (w:Veil (A,B)):GoB false A B w=B:=by simp[GoB]
theorem goB_not (b:Bool) (A B:Prop) (w:Veil (A,B)):GoB (!b) A B w=GoB b B A .mk:=by cases b <;> simp[GoB]
theorem GoB.split {b:Bool} {A B:Prop} {w:Veil (A,B)} (h1:b=true→A) (h2:b=false→B):GoB b A B w:=⟨h1,h2⟩
theorem GoB.dec {p:Prop} [Decidable p] {A B:Prop} {w:Veil (A,B)} (h1:p→A) (h2:¬ p→B):GoB (decide p) A B w:=⟨fun h=>h1 (by simpa using h),fun h=>h2 (by simpa using h)⟩
theorem GoB.eq {a b:Int} {A B:Prop} {w:Veil (A,B)} (h1:a=b→A) (h2:¬ a=b→B):GoB (a == b) A B w:=⟨fun h=>h1 (by simpa using h),fun h=>h2 (by simpa using h)⟩
theorem GoB.ne {a b:Int} {A B:Prop} {w:Veil (A,B)} (h1:¬ a=b→A) (h2:a=b→B):GoB (a != b) A B w:=⟨fun h=>h1 (by simpa using h),fun h=>h2 (by simpa using h)⟩
section
variable (P:Program) (T:Env) (H:View)
theorem wF_eq (F:SF) (vs:List V) (K:V→View→Prop):wF P F vs H K=(vs.length≤F.n∧wS P F.code (argsEnv vs) H fun e T' H'=>(e=.ret∨e=.normal)∧wRs T' H' F.res [] fun l=>Go0 (oneV l) (fun v=>K v H') .mk):=propext Iff.rfl
theorem wS_skip (Q:Exit→Env→View→Prop):wS P .skip T H Q=Q .normal T H:=propext Iff.rfl
theorem wS_region (q:Bool) (gs:List SG) (Q:Exit→Env→View→Prop):wS P (.region q gs) T H Q=wGs P q gs T H (Q .normal):=propext Iff.rfl
theorem wS_regionA (aps:List (Nat × Nat)) (gs:List SG) (Q:Exit→Env→View→Prop):wS P (.regionA aps gs) T H Q=wGs P false gs T H (fun T' H'=>Aps aps T' (Q .normal T' H')):=propext Iff.rfl
theorem wS_regionM (tol:Nat × Nat × Nat) (aps:List (Nat × Nat)) (gs:List SG) (Q:Exit→Env→View→Prop):wS P (.regionM tol aps gs) T H Q=wGs P false gs T H (fun T' H'=>TolV P tol.1 (T' tol.2.1) (T' tol.2.2) H∧Aps aps T' (Q .normal T' H')):=propext Iff.rfl
theorem aps_nil (K:Prop):Aps [] T K=K:=propext Iff.rfl
theorem aps_cons (a b:Nat) (l:List (Nat × Nat)) (K:Prop):Aps ((a,b) :: l) T K=(ApV (T a) (T b)∧Aps l T K):=propext Iff.rfl
theorem apV_ptr (i j k i' j' k':Nat):ApV (.ptr i j k) (.ptr i' j' k')=(i≠i'):=propext Iff.rfl
theorem apV_psl (i j k a b c d:Nat):ApV (.ptr i j k) (.sl a b c d)=(i≠a):=propext Iff.rfl
theorem apV_pemp (i j k e:Nat):ApV (.ptr i j k) (.emp e)=True:=id rfl
theorem apV_pnem (i j k:Nat):ApV (.ptr i j k) .nem=True:=id rfl
theorem apV_pfro (i j k:Nat) (es:List (List V)):ApV (.ptr i j k) (.fro es)=True:=id rfl
theorem apV_ss' (a b c d e f g h:Nat):ApV (.sl a b c d) (.sl e f g h)=(a≠e):=propext Iff.rfl
theorem apV_se (a b c d e:Nat):ApV (.sl a b c d) (.emp e)=True:=id rfl
theorem apV_sn (a b c d:Nat):ApV (.sl a b c d) .nem=True:=id rfl
theorem apV_sf (a b c d:Nat) (es:List (List V)):ApV (.sl a b c d) (.fro es)=True:=id rfl
theorem apV_emp (k:Nat) (v:V):ApV (.emp k) v=True:=by cases v <;> rfl
theorem apV_nem (v:V):ApV .nem v=True:=by cases v <;> rfl
theorem apV_fro (es:List (List V)) (v:V):ApV (.fro es) v=True:=by cases v <;> rfl
theorem apV_fptr (e:List V) (j:Nat) (v:V):ApV (.fptr e j) v=True:=by cases v <;> rfl
theorem wS_seq (x y:SC) (Q:Exit→Env→View→Prop):wS P (.seq x y) T H Q=wS P x T H fun e T' H'=>ifN e (wS P y T' H' Q) (Q e T' H'):=propext Iff.rfl
theorem wS_cond (c:SX) (x y:SC) (Q:Exit→Env→View→Prop):wS P (.cond c x y) T H Q=Go1 (c.at T) (fun v=>match v with
    | .val (.bool b)=>GoB b (wS P x (condT c true T) H Q) (wS P y (condT c false T) H Q) .mk
    | _=>False) .mk:=propext Iff.rfl
theorem wS_block (id:Nat) (c:SC) (Q:Exit→Env→View→Prop):wS P (.block id c) T H Q=wS P c T H fun e=>Q (outOf id e):=propext Iff.rfl
theorem wS_exit (id:Nat) (Q:Exit→Env→View→Prop):wS P (.exit id) T H Q=Q (.exit id) T H:=propext Iff.rfl
theorem wS_ret (Q:Exit→Env→View→Prop):wS P .ret T H Q=Q .ret T H:=propext Iff.rfl
theorem wS_scope (l:Nat) (c r:SC) (Q:Exit→Env→View→Prop):wS P (.scope l c r) T H Q=ScopeG P l c r T H Q .mk:=propext Iff.rfl
theorem wS_label (l:Nat) (Q:Exit→Env→View→Prop):wS P (.label l) T H Q=Q .normal T H:=propext Iff.rfl
theorem wS_goto (l:Nat) (Q:Exit→Env→View→Prop):wS P (.goto l) T H Q=Q (.goto l) T H:=propext Iff.rfl
theorem gotoN_goto (l l':Nat) (a b:Prop):gotoN l (.goto l') a b=(l'=l∧a):=propext Iff.rfl
theorem gotoN_normal (l:Nat) (a b:Prop):gotoN l .normal a b=b:=propext Iff.rfl
theorem gotoN_exit (l i:Nat) (a b:Prop):gotoN l (.exit i) a b=b:=propext Iff.rfl
theorem gotoN_ret (l:Nat) (a b:Prop):gotoN l .ret a b=b:=propext Iff.rfl
theorem ifN_goto (l:Nat) (a b:Prop):ifN (.goto l) a b=b:=propext Iff.rfl
theorem outOf_goto (i l:Nat):outOf i (.goto l)=.goto l:=id rfl
theorem wS_loop (c:SC) (Q:Exit→Env→View→Prop):wS P (.loop c) T H Q=LoopG P c T H Q .mk:=propext Iff.rfl
theorem wGs_nil (q:Bool) (K:Env→View→Prop):wGs P q [] T H K=K T H:=propext Iff.rfl
theorem wGs_cons (q:Bool) (g:SG) (r:List SG) (K:Env→View→Prop):wGs P q (g :: r) T H K=wG P q g T H fun T' H'=>wGs P q r T' H' K:=propext Iff.rfl
theorem wG_none (q:Bool) (ops:List (Option Nat × SB)) (K:Env→View→Prop):wG P q ⟨none,ops⟩ T H K=wBs P q ops T H K:=propext Iff.rfl
theorem wG_true (q:Bool) (d:Nat) (ops:List (Option Nat × SB)) (K:Env→View→Prop):wG P q ⟨some (d,true),ops⟩ T H K=Go1 (T d) (fun v=>match v with
    | .val (.bool b)=>GoB b (wBs P q ops (T.put (some d) (.val (.bool true))) H K) (K (skipAll ops (T.put (some d) (.val (.bool false)))) H) .mk
    | .tup []=>K (skipAll ops T) H
    | _=>False) .mk:=propext Iff.rfl
theorem wG_false (q:Bool) (d:Nat) (ops:List (Option Nat × SB)) (K:Env→View→Prop):wG P q ⟨some (d,false),ops⟩ T H K=Go1 (T d) (fun v=>match v with
    | .val (.bool b)=>GoB b (K (skipAll ops (T.put (some d) (.val (.bool true)))) H) (wBs P q ops (T.put (some d) (.val (.bool false))) H K) .mk
    | .tup []=>K (skipAll ops T) H
    | _=>False) .mk:=by
  simp only[wG,Go1]
  generalize T d=v
  cases v with
  | val x=>cases x <;> simp[GoB,and_comm]
  | tup l=>cases l <;> simp
  | _=>simp
theorem skipAll_nil:skipAll [] T=T:=id rfl
theorem skipAll_cons (d:Option Nat) (b:SB) (r:List (Option Nat × SB)):skipAll ((d,b) :: r) T=skipAll r (T.put d (.tup [])):=id rfl
theorem wBs_nil (q:Bool) (K:Env→View→Prop):wBs P q [] T H K=K T H:=propext Iff.rfl
theorem wBs_cons (q:Bool) (d:Option Nat) (b:SB) (r:List (Option Nat × SB)) (K:Env→View→Prop):wBs P q ((d,b) :: r) T H K=wB P q b T H fun v H'=>Go0 v (fun v'=>wBs P q r (T.put d v') H' K) .mk:=propext Iff.rfl
theorem wB_op (q:Bool) (s:SI) (K:V→View→Prop):wB P q (.op s) T H K=wI P s T H K:=propext Iff.rfl
theorem wB_call (q:Bool) (f:SX) (args:List SX) (K:V→View→Prop):wB P q (.call f args) T H K=Go1 (f.at T) (fun v=>match v with
    | .fn g first cap=>CallG P q g (first ++ args.map (SX.at T) ++ cap) H K .mk
    | _=>False) .mk:=propext Iff.rfl
theorem wI_mov (x:SX) (K:V→View→Prop):wI P (.mov x) T H K=K (x.at T) H:=propext Iff.rfl
theorem wI_pick (c a b:SX) (K:V→View→Prop):wI P (.pick c a b) T H K=Go1 (c.at T) (fun v=>match v with
    | .val (.bool t)=>GoB t (K (a.at T) H) (K (b.at T) H) .mk
    | _=>False) .mk:=by
  simp only[wI,Go1]
  generalize c.at T=v
  cases v with
  | val x =>
    cases x with
    | bool t=>cases t <;> simp[GoB]
    | _=>simp
  | _=>simp
theorem wI_box (x:SX) (K:V→View→Prop):wI P (.box x) T H K=Go1 (x.at T) (fun v=>v.cells.all cellOk=true∧Go0 v.cells (fun cs=>∀ n,H n=.dead→K (.ptr n 0 0) (H.set n (.arr cs.length [cs]))) .mk) .mk:=propext Iff.rfl
theorem wI_frz (x:SX) (K:V→View→Prop):wI P (.frz x) T H K=Go1 (x.at T) (fun v=>v.cells.all cellOk=true∧Go0 v.cells (fun cs=>K (.fptr cs 0) H) .mk) .mk:=propext Iff.rfl
theorem wI_alloc (z:List V) (K:V→View→Prop):wI P (.alloc z) T H K=(z.all cellOk=true∧∀ n,H n=.dead→K (.ptr n 0 0) (H.set n (.arr z.length [z]))):=propext Iff.rfl
theorem wI_load (sz:Option Nat) (a:SX) (K:V→View→Prop):wI P (.load sz a) T H K=Go1 (a.at T) (fun v=>match v with
    | .ptr id i j=>GoA (H id) (fun o=>match o with
      | .arr _ es=>i < es.length∧Go0 (es.getD i []) (fun e=>wPart sz e j fun v=>K v H) .mk
      | _=>False) .mk
    | .fptr e j=>wPart sz e j fun v=>K v H
    | _=>False) .mk:=propext Iff.rfl
theorem wI_loadF (sz:Option Nat) (a:SX) (K:V→View→Prop):wI P (.loadF sz a) T H K=Go1 (a.at T) (fun v=>match v with
    | .fptr e j=>wPart sz e j fun v=>K v H
    | _=>False) .mk:=propext Iff.rfl
theorem wI_store (sz:Nat) (a x:SX) (K:V→View→Prop):wI P (.store sz a x) T H K=Go1 (a.at T) (fun v=>match v with
    | .ptr id i j=>GoA (H id) (fun o=>match o with
      | .arr esz es=>Go0 (x.at T).cells (fun cs=>(i < es.length∧cs.length=sz∧j+cs.length≤esz∧cs.all cellOk=true) ∧
          Go0 (es.set i (splice (es.getD i []) j cs)) (fun es'=>K .any (H.set id (.arr esz es'))) .mk) .mk
      | _=>False) .mk
    | _=>False) .mk:=propext Iff.rfl
theorem wI_nilc (x:SX) (K:V→View→Prop):wI P (.nilc x) T H K=Go1 (x.at T) (fun v=>match v with
    | .ptr id i j=>K (.ptr id i j) H
    | .fptr e j=>K (.fptr e j) H
    | .fn f a b=>K (.fn f a b) H
    | _=>False) .mk:=propext Iff.rfl
theorem wI_addr (off:Nat) (x:SX) (K:V→View→Prop):wI P (.addr off x) T H K=Go1 (x.at T) (fun v=>match v with
    | .ptr id i j=>K (.ptr id i (j+off)) H
    | .fptr e j=>K (.fptr e (j+off)) H
    | _=>False) .mk:=propext Iff.rfl
theorem wI_field (off:Nat) (sz:Option Nat) (x:SX) (K:V→View→Prop):wI P (.field off sz x) T H K=Go1 (x.at T) (fun v=>match v with
    | .agg cs=>wPart sz cs off fun v=>K v H
    | _=>False) .mk:=propext Iff.rfl
theorem wI_idx (sz:Nat) (x i:SX) (K:V→View→Prop):wI P (.idx sz x i) T H K=GoO (asNat (i.at T)) (fun o=>match o with
    | none=>False
    | some q=>Go1 (x.at T) (fun v=>match v with
      | .sl id off len esz=>(q < len∧esz=sz)∧K (.ptr id (off+q) 0) H
      | .fro es=>GoO es[q]? (fun o=>match o with
        | some e=>e.length=sz∧K (.fptr e 0) H
        | none=>False) .mk
      | _=>False) .mk) .mk:=by
  simp only[wI,GoO,Go1]
  cases asNat (i.at T) with
  | none=>rfl
  | some q =>
    simp only
    cases x.at T with
    | fro es =>
      simp only
      cases h:es[q]? with
      | none=>simp
      | some e=>simp
    | _=>rfl
theorem wI_mkfn (f:FuncId) (first cap:List SX) (K:V→View→Prop):wI P (.mkfn f first cap) T H K=K (.fn f (first.map (SX.at T)) (cap.map (SX.at T))) H:=propext Iff.rfl
theorem wI_mkmap (K:V→View→Prop):wI P .mkmap T H K=(∀ n,H n=.dead→K (.mp n) (H.set n (.map [] 0))):=propext Iff.rfl
theorem wI_ext (i:Nat) (x:SX) (K:V→View→Prop):wI P (.ext i x) T H K=Go1 (x.at T) (fun v=>match v with
    | .tup vs=>i < vs.length∧K (vs.getD i .any) H
    | _=>False) .mk:=propext Iff.rfl
theorem wI_len (x:SX) (K:V→View→Prop):wI P (.len x) T H K=GoO (lenV (x.at T)) (fun o=>match o with
    | some n=>K (goI n) H
    | none=>False) .mk:=propext Iff.rfl
theorem wI_lenS (x:SX) (K:V→View→Prop):wI P (.lenS x) T H K=Go1 (x.at T) (fun v=>match v with
    | .val (.string s)=>K (goI s.size) H
    | _=>False) .mk:=propext Iff.rfl
theorem wI_arith (op:BinOp) (x y:SX) (K:V→View→Prop):wI P (.arith op x y) T H K=Go1 (x.at T) (fun v=>Go1 (y.at T) (fun v'=>match v,v' with
    | .val (.int k a),.val (.int k' b)=>k=k'∧GoO (intOp op k a b) (fun o=>match o with | some v=>K (.val v) H | none=>False) .mk
    | _,_=>False) .mk) .mk:=propext Iff.rfl
theorem wI_sh (l:Bool) (x y:SX) (K:V→View→Prop):wI P (.sh l x y) T H K=Go1 (x.at T) (fun v=>Go1 (y.at T) (fun v'=>match v,v' with
    | .val (.int k a),.val (.int _ b)=>0≤b∧K (.val (.int k (shOp l k a b))) H
    | _,_=>False) .mk) .mk:=propext Iff.rfl
theorem wI_sop (op:BinOp) (x y:SX) (K:V→View→Prop):wI P (.sop op x y) T H K=Go1 (x.at T) (fun v=>Go1 (y.at T) (fun v'=>match v,v' with
    | .val (.string a),.val (.string b)=>(match op with
      | .eql=>K (.val (.bool (strEq a b))) H
      | .neq=>K (.val (.bool (!strEq a b))) H
      | _=>False)
    | _,_=>False) .mk) .mk:=propext Iff.rfl
theorem wI_sidx (x i:SX) (K:V→View→Prop):wI P (.sidx x i) T H K=Go1 (x.at T) (fun v=>GoO (asNat (i.at T)) (fun o=>match v,o with
    | .val (.string s),some q=>GoO (bts s)[q]? (fun o=>match o with
      | some c=>K (.val (.int .u8 c)) H
      | none=>False) .mk
    | _,_=>False) .mk) .mk:=by
  simp only[wI,GoO,Go1]
  generalize x.at T=v
  generalize asNat (i.at T)=o
  cases v with
  | val u =>
    cases u with
    | string s =>
      cases o with
      | none=>rfl
      | some q =>
        simp only[bts,List.getElem?_map]
        cases h:s.data.toList[q]? with
        | none=>simp
        | some e=>simp
    | _=>rfl
  | _=>rfl
theorem wI_not (x:SX) (K:V→View→Prop):wI P (.not x) T H K=Go1 (x.at T) (fun v=>match v with
    | .val (.bool t)=>K (.val (.bool (!t))) H
    | _=>False) .mk:=propext Iff.rfl
theorem wI_nil (eq:Bool) (k:Nat) (x y:SX) (K:V→View→Prop):wI P (.nil eq k x y) T H K=GoO (nilB (isNil k (x.at T)) (isNil k (y.at T))) (fun o=>match o with
    | some b=>K (.val (.bool (if eq=true then b else !b))) H
    | none=>False) .mk:=propext Iff.rfl
theorem wI_beqT (x y:SX) (K:V→View→Prop):wI P (.beq true x y) T H K=Go1 (x.at T) (fun v=>Go1 (y.at T) (fun v'=>match v,v' with
    | .val (.bool a),.val (.bool b)=>K (.val (.bool (a == b))) H
    | _,_=>False) .mk) .mk:=propext Iff.rfl
theorem wI_beqF (x y:SX) (K:V→View→Prop):wI P (.beq false x y) T H K=Go1 (x.at T) (fun v=>Go1 (y.at T) (fun v'=>match v,v' with
    | .val (.bool a),.val (.bool b)=>K (.val (.bool (a != b))) H
    | _,_=>False) .mk) .mk:=propext Iff.rfl
theorem wI_max (x y:SX) (K:V→View→Prop):wI P (.mm true x y) T H K=Go1 (x.at T) (fun v=>Go1 (y.at T) (fun v'=>match v,v' with
    | .val (.int k a),.val (.int _ b)=>K (.val (.int k (if b > a then b else a))) H
    | _,_=>False) .mk) .mk:=propext Iff.rfl
theorem wI_min (x y:SX) (K:V→View→Prop):wI P (.mm false x y) T H K=Go1 (x.at T) (fun v=>Go1 (y.at T) (fun v'=>match v,v' with
    | .val (.int k a),.val (.int _ b)=>K (.val (.int k (if b < a then b else a))) H
    | _,_=>False) .mk) .mk:=propext Iff.rfl
theorem wI_conv (k:IntKind) (x:SX) (K:V→View→Prop):wI P (.conv k x) T H K=Go1 (x.at T) (fun v=>match v with
    | .val (.int _ a)=>K (.val (.int k (k.wrap a))) H
    | _=>False) .mk:=propext Iff.rfl
theorem vset_get (n k:Nat) (o:AObj):View.set H n o k=if k=n then o else H k:=id rfl
theorem wI_build (z:List V) (parts:List (Nat × Nat × SX)) (K:V→View→Prop):wI P (.build z parts) T H K=GoO (sBuild z (parts.map fun p=>(p.1,p.2.1,p.2.2.at T))) (fun o=>match o with
    | some cs=>K (.agg cs) H
    | none=>False) .mk:=propext Iff.rfl
theorem wI_bslice (len sz:Nat) (z:List V) (parts:List (Nat × SX)) (K:V→View→Prop):wI P (.bslice len sz z parts) T H K=GoO (fillE sz (List.replicate len z) (parts.map fun p=>(p.1,p.2.at T))) (fun o=>match o with
    | some es=>∀ n,H n=.dead→K (.sl n 0 len sz) (H.set n (.arr sz es))
    | none=>False) .mk:=propext Iff.rfl
theorem wI_slice (sz:Nat) (x:SX) (lo hi:Option SX) (K:V→View→Prop):wI P (.slice sz x lo hi) T H K=GoO (sSlice sz (x.at T) (lo.map (SX.at T)) (hi.map (SX.at T))) (fun o=>match o with
    | some (v,.none,_)=>K v H
    | _=>False) .mk:=propext Iff.rfl
theorem wI_make (sz bytes:Nat) (z:List V) (l c:SX) (K:V→View→Prop):wI P (.make sz bytes z l c) T H K=GoO (asNat (l.at T)) (fun a=>GoO (asNat (c.at T)) (fun b=>match a,b with
    | some l,some c=>(l≤c∧c < limit∧bytes * c < limit)∧(c=0→K (.emp 2) H)∧(c≠0→∀ n,H n=.dead→K (.sl n 0 l sz) (H.set n (.arr sz (List.replicate l z))))
    | _,_=>False) .mk) .mk:=propext Iff.rfl
def GoApp (sz bytes:Nat) (x:V) (xs:List (List V)) (H:View) (K:V→View→Prop) (_:Veil (H,K)):Prop:=if xs.isEmpty=true then (match x with
        | .emp k=>K (.emp k) H
        | .nem=>K .nem H
        | .fro es=>K (.fro es) H
        | .sl a b c d=>K (.sl a b c d) H
        | _=>False)
      else (xs.all fun e=>e.length == sz && e.all cellOk)=true∧(match x with
        | .emp _=>(xs.length * bytes < limit∧xs.length < limit)∧∀ n,H n=.dead→K (.sl n 0 xs.length sz) (H.set n (.arr sz xs))
        | .sl id off len esz=>match H id with
          | .arr _ es=>(off+len≤es.length∧esz=sz∧(len+xs.length) * bytes < limit∧len+xs.length < limit) ∧
              ∀ n,H n=.dead→K (.sl n 0 (len+xs.length) esz) ((H.set id .dead).set n (.arr esz ((es.drop off).take len ++ xs)))
          | _=>False
        | _=>False)
theorem wI_app (sz bytes:Nat) (x y:SX) (K:V→View→Prop):wI P (.app sz bytes x y) T H K=GoO (elemsOf H (y.at T)) (fun o=>match o with
    | some (xs,_)=>GoApp sz bytes (x.at T) xs H K .mk
    | none=>False) .mk:=propext Iff.rfl
theorem goApp_emp (sz bytes k:Nat) (xs:List (List V)) (K:V→View→Prop) (w:Veil (H,K)) (h0:xs.isEmpty=false):GoApp sz bytes (.emp k) xs H K w=((xs.all fun e=>e.length == sz && e.all cellOk)=true∧(xs.length * bytes < limit∧xs.length < limit)∧∀ n,H n=.dead→K (.sl n 0 xs.length sz) (H.set n (.arr sz xs))):=by
  unfold GoApp; rw[if_neg (by rw[h0]; simp)]
theorem goApp_sl (sz bytes id off len esz:Nat) (xs:List (List V)) (K:V→View→Prop) (w:Veil (H,K)) (h0:xs.isEmpty=false):GoApp sz bytes (.sl id off len esz) xs H K w=((xs.all fun e=>e.length == sz && e.all cellOk)=true∧GoA (H id) (fun o=>match o with
          | .arr _ es=>(off+len≤es.length∧esz=sz∧(len+xs.length) * bytes < limit∧len+xs.length < limit) ∧
              ∀ n,H n=.dead→K (.sl n 0 (len+xs.length) esz) ((H.set id .dead).set n (.arr esz ((es.drop off).take len ++ xs)))
          | _=>False) .mk):=by
  unfold GoApp GoA; rw[if_neg (by rw[h0]; simp)]
theorem elemsOf_sl (id off len esz z:Nat) (es:List (List V)) (hH:H id=.arr z es) (hl:off+(len+1)≤es.length):elemsOf H (.sl id off (len+1) esz)=some ((es.drop off).take (len+1),[id]):=by
  simp only[elemsOf,hH]; rw[if_pos hl]
theorem elemsOf_fro (es:List (List V)):elemsOf H (.fro es)=some (es,[]):=id rfl
theorem elemsOf_emp (k:Nat):elemsOf H (.emp k)=some ([],[]):=id rfl
theorem wI_strF (x:SX) (K:V→View→Prop):wI P (.strF x) T H K=Go1 (x.at T) (fun v=>match v with
    | .fro es=>GoO (textOf es) (fun o=>match o with
      | some l=>K (.val (.string ⟨l.toArray⟩)) H
      | none=>False) .mk
    | _=>False) .mk:=propext Iff.rfl
theorem wI_frzB (x:SX) (K:V→View→Prop):wI P (.frzB x) T H K=Go1 (x.at T) (fun v=>match v with
    | .val (.string s)=>K (.fro (bytesE s)) H
    | _=>False) .mk:=propext Iff.rfl
def GoOld (P:Program) (op:Op) (ty:TypeId) (T:Env) (H:View) (K:V→View→Prop) (_:Veil (T,H,K)):Prop:=wI P (.old op ty) T H K
theorem wI_old (op:Op) (ty:TypeId) (K:V→View→Prop):wI P (.old op ty) T H K=GoOld P op ty T H K .mk:=propext Iff.rfl
theorem ev_tmp (t:Nat):ev T (.tmp t)=T t:=id rfl
theorem ev_const (v:Value):ev T (.const v)=ofVal v:=id rfl
theorem at_tmp (t:Nat):(SX.tmp t).at T=T t:=id rfl
theorem at_val (v:V):(SX.val v).at T=v:=id rfl
theorem put_get (d t:Nat) (v:V):(T.put (some d) v) t=if t=d then v else T t:=id rfl
theorem put_none (v:V):T.put none v=T:=id rfl
theorem args_get (vs:List V) (t:Nat):argsEnv vs t=vs.getD t .any:=id rfl
theorem wPart_none (e:List V) (j:Nat) (K:V→Prop):wPart none e j K=(j < e.length∧K (e.getD j .any)):=propext Iff.rfl
theorem wPart_some (n:Nat) (e:List V) (j:Nat) (K:V→Prop):wPart (some n) e j K=(j+n≤e.length∧K (.agg ((e.drop j).take n))):=propext Iff.rfl
theorem ifN_normal (a b:Prop):ifN .normal a b=a:=propext Iff.rfl
theorem ifN_exit (i:Nat) (a b:Prop):ifN (.exit i) a b=b:=propext Iff.rfl
theorem ifN_ret (a b:Prop):ifN .ret a b=b:=propext Iff.rfl
theorem outOf_normal (i:Nat):outOf i .normal=.normal:=id rfl
theorem outOf_ret (i:Nat):outOf i .ret=.ret:=id rfl
theorem outOf_exit (i j:Nat):outOf i (.exit j)=if j=i then .normal else .exit j:=by simp only[outOf]
theorem wRs_nil (acc:List V) (K:List V→Prop):wRs T H [] acc K=K acc:=propext Iff.rfl
theorem wRs_cons (r:SR) (l:List SR) (acc:List V) (K:List V→Prop):wRs T H (r :: l) acc K=wR T H r fun v=>wRs T H l (acc ++ [v]) K:=propext Iff.rfl
theorem wR_tmp (t:Nat) (K:V→Prop):wR T H (.tmp t) K=K (T t):=propext Iff.rfl
theorem wR_cell (t:Nat) (sz:Option Nat) (K:V→Prop):wR T H (.cell t sz) K=Go1 (T t) (fun v=>match v with
    | .ptr id i j=>GoA (H id) (fun o=>match o with
      | .arr _ es=>i < es.length∧Go0 (es.getD i []) (fun e=>wPart sz e j K) .mk
      | _=>False) .mk
    | .fptr e j=>wPart sz e j K
    | _=>False) .mk:=propext Iff.rfl
theorem condT_tmp (t:Nat) (b:Bool):condT (.tmp t) b T=T.put (some t) (.val (.bool b)):=id rfl
theorem condT_val (v:V) (b:Bool):condT (.val v) b T=T:=id rfl
theorem ret_or:(Exit.ret=Exit.ret∨Exit.ret=Exit.normal)=True:=by simp
theorem normal_or:(Exit.normal=Exit.ret∨Exit.normal=Exit.normal)=True:=by simp
end
section
variable {P:Program} {T:Env} {H:View}
theorem LoopG.intro {c:SC} {Q:Exit→Env→View→Prop} {v:Veil (T,H,Q)} (I:Nat→Env→View→Prop) (k:Nat) (h0:I k T H)
    (hs:∀ k T H,I k T H→wS P c T H fun e T' H'=>ifN e (∃ k',k' < k∧I k' T' H') (Q e T' H')):LoopG P c T H Q v:=by
  simp only[LoopG,wS]
  exact ⟨I,⟨k,h0⟩,hs⟩
theorem ScopeG.intro {l:Nat} {c r:SC} {Q:Exit→Env→View→Prop} {v:Veil (T,H,Q)} (I:Nat→Env→View→Prop) (K:Nat)
    (hs:∀ k T H,I k T H→wS P r T H fun e T' H'=>gotoN l e (∃ k',k' < k∧I k' T' H') (Q e T' H'))
    (h0:(∀ k T H,I k T H→wS P r T H fun e T' H'=>gotoN l e (∃ k',k' < k∧I k' T' H') (Q e T' H'))→wS P c T H fun e T' H'=>gotoN l e (∃ k,k < K∧I k T' H') (Q e T' H')):ScopeG P l c r T H Q v:=by
  simp only[ScopeG,wS]
  exact ⟨I,K,h0 hs,hs⟩
theorem CallG.pure {q:Bool} {f:FuncId} {vs:List V} {K:V→View→Prop} {v:Veil (H,K)} {t:V} (hc:PCall P f vs t) (hok:calleeOk P f=true) (hk:K t H):CallG P q f vs H K v:=by
  unfold CallG
  cases q with
  | true=>exact hc.to_q hok hk
  | false =>
    refine ⟨hok,?_⟩
    rintro h rfl
    exact ⟨t,h,ACall.of_pure hc h,.refl _,hk⟩
theorem CallG.loud {f:FuncId} {vs:List V} {K:V→View→Prop} {v:Veil (H,K)} (hc:MCall P f vs H K):CallG P false f vs H K v:=hc
theorem dead_view:Heap.view []=fun _=>AObj.dead:=by funext id; simp[Heap.view]
theorem PCall.of {f:FuncId} {vs:List V} {t:V} (ht:∀ v∈vs,Tree v) (h:MCall P f vs (fun _=>.dead) fun r H'=>∀ h':Heap,h'.view=H'→Fr h' r t):PCall P f vs t:=by
  obtain ⟨r,h',ha,_,hf⟩:=h.2 [] dead_view
  exact PCall.of_acall ht ha (hf h' rfl)
theorem wrap64 {x:Int} (h1 : -9223372036854775808≤x) (h2:x≤9223372036854775807):IntKind.wrap .i64 x=x:=by
  unfold IntKind.wrap
  have e1:(2:Int) ^ IntKind.i64.bits=18446744073709551616:=by rfl
  have e2:(2:Int) ^ (IntKind.i64.bits - 1)=9223372036854775808:=by rfl
  have e3:IntKind.i64.signed=true:=by rfl
  simp only[e1,e2,e3,Bool.true_and,decide_eq_true_eq]
  split <;> omega
theorem asNat_int {k:IntKind} {i:Int} (h:0≤i):asNat (.val (.int k i))=some i.toNat:=by simp[asNat,h]
end
theorem cells_val (v:Value):V.cells (.val v)=[.val v]:=id rfl
theorem cok_val (v:Value):cellOk (.val v)=true:=id rfl
theorem cells_emp (k:Nat):V.cells (.emp k)=[.emp k]:=id rfl
theorem cok_emp (k:Nat):cellOk (.emp k)=true:=id rfl
theorem cells_nem  : V.cells .nem=[.nem]:=id rfl
theorem cok_nem  : cellOk .nem=true:=id rfl
theorem cells_fro (es:List (List V)):V.cells (.fro es)=[.fro es]:=id rfl
theorem cok_fro (es:List (List V)):cellOk (.fro es)=true:=id rfl
theorem cells_sl (a b c d:Nat):V.cells (.sl a b c d)=[.sl a b c d]:=id rfl
theorem cok_sl (a b c d:Nat):cellOk (.sl a b c d)=true:=id rfl
theorem cells_ptr (a b c:Nat):V.cells (.ptr a b c)=[.ptr a b c]:=id rfl
theorem cok_ptr (a b c:Nat):cellOk (.ptr a b c)=true:=id rfl
theorem cells_fptr (e:List V) (j:Nat):V.cells (.fptr e j)=[.fptr e j]:=id rfl
theorem cok_fptr (e:List V) (j:Nat):cellOk (.fptr e j)=true:=id rfl
theorem cells_mp (a:Nat):V.cells (.mp a)=[.mp a]:=id rfl
theorem cok_mp (a:Nat):cellOk (.mp a)=true:=id rfl
theorem cells_fn (f:FuncId) (a b:List V):V.cells (.fn f a b)=[.fn f a b]:=id rfl
theorem cok_fn (f:FuncId) (a b:List V):cellOk (.fn f a b)=true:=id rfl
theorem cells_agg (cs:List V):V.cells (.agg cs)=cs:=id rfl
theorem len_emp (k:Nat):lenV (.emp k)=some 0:=id rfl
theorem len_nem:lenV .nem=some 0:=id rfl
theorem len_fro (es:List (List V)):lenV (.fro es)=some es.length:=id rfl
theorem len_sl (a b c d:Nat):lenV (.sl a b c d)=some c:=id rfl
abbrev OfP {p:Prop} (_:p):Prop:=p
abbrev Wr:Prop:=OfP (And.intro @wF_eq <| And.intro @wS_skip <| And.intro @wS_region <| And.intro @wS_regionA <| And.intro @wS_regionM <| And.intro @aps_nil <| And.intro @aps_cons <| And.intro @wS_seq <|
    And.intro @wS_cond <| And.intro @wS_block <| And.intro @wS_exit <| And.intro @wS_ret <| And.intro @wS_scope <| And.intro @wS_label <| And.intro @wS_goto <| And.intro @gotoN_goto <| And.intro @gotoN_normal <| And.intro @gotoN_exit <| And.intro @gotoN_ret <| And.intro @ifN_goto <| And.intro @outOf_goto <|
    And.intro @wS_loop <| And.intro @wGs_nil <| And.intro @wGs_cons <| And.intro @wG_none <|
    And.intro @wG_true <| And.intro @wG_false <| And.intro @skipAll_nil <| And.intro @skipAll_cons <|
    And.intro @wBs_nil <| And.intro @wBs_cons <| And.intro @wB_op <| And.intro @wB_call <|
    And.intro @wI_mov <| And.intro @wI_pick <| And.intro @wI_box <| And.intro @wI_frz <|
    And.intro @wI_alloc <| And.intro @wI_load <| And.intro @wI_loadF <| And.intro @wI_store <|
    And.intro @wI_nilc <| And.intro @wI_addr <| And.intro @wI_field <| And.intro @wI_idx <|
    And.intro @wI_mkfn <| And.intro @wI_mkmap <| And.intro @wI_ext <| And.intro @wI_len <|
    And.intro @wI_lenS <| And.intro @wI_arith <| And.intro @wI_sh <| And.intro @wI_sop <| And.intro @wI_sidx <|
    And.intro @wI_not <| And.intro @wI_nil <| And.intro @wI_beqT <| And.intro @wI_beqF <|
    And.intro @wI_max <| And.intro @wI_min <| And.intro @wI_conv <| And.intro @wI_strF <|
    And.intro @wI_frzB <| And.intro @wI_build <| And.intro @wI_bslice <| And.intro @wI_slice <|
    And.intro @wI_make <| And.intro @wI_app <| And.intro @wI_old <| And.intro @ev_tmp <| And.intro @ev_const <| And.intro @at_tmp <| And.intro @at_val <|
    And.intro @put_get <| And.intro @put_none <| And.intro @args_get <| And.intro @wPart_none <|
    And.intro @wPart_some <| And.intro @ifN_normal <| And.intro @ifN_exit <| And.intro @ifN_ret <|
    And.intro @outOf_normal <| And.intro @outOf_ret <| And.intro @outOf_exit <| And.intro @wRs_nil <|
    And.intro @wRs_cons <| And.intro @wR_tmp <| And.intro @wR_cell <| And.intro @condT_tmp @condT_val)
theorem wr:Wr:=(And.intro @wF_eq <| And.intro @wS_skip <| And.intro @wS_region <| And.intro @wS_regionA <| And.intro @wS_regionM <| And.intro @aps_nil <| And.intro @aps_cons <| And.intro @wS_seq <|
    And.intro @wS_cond <| And.intro @wS_block <| And.intro @wS_exit <| And.intro @wS_ret <| And.intro @wS_scope <| And.intro @wS_label <| And.intro @wS_goto <| And.intro @gotoN_goto <| And.intro @gotoN_normal <| And.intro @gotoN_exit <| And.intro @gotoN_ret <| And.intro @ifN_goto <| And.intro @outOf_goto <|
    And.intro @wS_loop <| And.intro @wGs_nil <| And.intro @wGs_cons <| And.intro @wG_none <|
    And.intro @wG_true <| And.intro @wG_false <| And.intro @skipAll_nil <| And.intro @skipAll_cons <|
    And.intro @wBs_nil <| And.intro @wBs_cons <| And.intro @wB_op <| And.intro @wB_call <|
    And.intro @wI_mov <| And.intro @wI_pick <| And.intro @wI_box <| And.intro @wI_frz <|
    And.intro @wI_alloc <| And.intro @wI_load <| And.intro @wI_loadF <| And.intro @wI_store <|
    And.intro @wI_nilc <| And.intro @wI_addr <| And.intro @wI_field <| And.intro @wI_idx <|
    And.intro @wI_mkfn <| And.intro @wI_mkmap <| And.intro @wI_ext <| And.intro @wI_len <|
    And.intro @wI_lenS <| And.intro @wI_arith <| And.intro @wI_sh <| And.intro @wI_sop <| And.intro @wI_sidx <|
    And.intro @wI_not <| And.intro @wI_nil <| And.intro @wI_beqT <| And.intro @wI_beqF <|
    And.intro @wI_max <| And.intro @wI_min <| And.intro @wI_conv <| And.intro @wI_strF <|
    And.intro @wI_frzB <| And.intro @wI_build <| And.intro @wI_bslice <| And.intro @wI_slice <|
    And.intro @wI_make <| And.intro @wI_app <| And.intro @wI_old <| And.intro @ev_tmp <| And.intro @ev_const <| And.intro @at_tmp <| And.intro @at_val <|
    And.intro @put_get <| And.intro @put_none <| And.intro @args_get <| And.intro @wPart_none <|
    And.intro @wPart_some <| And.intro @ifN_normal <| And.intro @ifN_exit <| And.intro @ifN_ret <|
    And.intro @outOf_normal <| And.intro @outOf_ret <| And.intro @outOf_exit <| And.intro @wRs_nil <|
    And.intro @wRs_cons <| And.intro @wR_tmp <| And.intro @wR_cell <| And.intro @condT_tmp @condT_val)
abbrev Wq:Prop:=OfP (And.intro @eq_self.{1} <| And.intro @ne_eq.{1} <| And.intro @implies_true.{1} <| And.intro @implies_true.{0} <| And.intro @decide_true <| And.intro @decide_false <| And.intro @apV_ptr <| And.intro @apV_psl <| And.intro @apV_pemp <| And.intro @apV_pnem <| And.intro @apV_pfro <| And.intro @apV_fptr <| And.intro @apV_ss' <| And.intro @apV_se <| And.intro @apV_sn <| And.intro @apV_sf <| And.intro @apV_emp <| And.intro @apV_nem <| And.intro @apV_fro <| And.intro @cells_val <| And.intro @cok_val <| And.intro @cells_emp <| And.intro @cok_emp <| And.intro @cells_nem <| And.intro @cok_nem <| And.intro @cells_fro <| And.intro @cok_fro <| And.intro @cells_sl <| And.intro @cok_sl <| And.intro @cells_ptr <| And.intro @cok_ptr <| And.intro @cells_fptr <| And.intro @cok_fptr <| And.intro @cells_mp <| And.intro @cok_mp <| And.intro @cells_fn <| And.intro @cok_fn <| And.intro @cells_agg <| And.intro @len_emp <| And.intro @len_nem <| And.intro @len_fro <| And.intro @len_sl <| And.intro @true_or <| And.intro @or_true <| And.intro @or_false <| And.intro @false_or <|
    And.intro @go0 <| And.intro @go1_val <| And.intro @go1_emp <| And.intro @go1_nem <|
    And.intro @go1_fro <| And.intro @go1_sl <| And.intro @go1_ptr <| And.intro @go1_fptr <|
    And.intro @go1_mp <| And.intro @go1_fn <| And.intro @go1_agg <| And.intro @go1_tup <|
    And.intro @goA_arr <| And.intro @goA_map <| And.intro @goO_some <| And.intro @goB_true <|
    And.intro @goB_false <| And.intro @goB_not <| And.intro @List.getD_cons_zero.{0} <| And.intro @List.getD_cons_succ.{0} <|
    And.intro @List.length_cons.{0} <| And.intro @List.length_nil.{0} <| And.intro @List.length_map.{0,0} <| And.intro @wrap64 <|
    And.intro @true_and <| And.intro @and_true <| And.intro @and_self <| And.intro @decide_eq_true_eq <|
    And.intro @decide_eq_false_iff_not <| And.intro @List.all_cons.{0} <| And.intro @List.all_nil.{0} <| And.intro @Bool.and_self <|
    And.intro @List.nil_append.{0} <| And.intro @List.cons_append.{0} <| And.intro @Nat.zero_add <| And.intro @asNat_int <|
    And.intro @Int.toNat_natCast <| And.intro @ret_or <| And.intro @normal_or <| And.intro @bne_iff_ne.{0} <|
    And.intro @beq_iff_eq.{0} <| And.intro @Bool.not_eq_true <| And.intro @Bool.not_true <| And.intro @Bool.not_false <|
    And.intro @List.append_nil.{0} <| And.intro @List.map_cons.{0,0} <| And.intro @List.map_nil.{0,0} <| And.intro @Bool.true_eq_false <|
    And.intro @Bool.false_eq_true <| And.intro @false_implies <| And.intro @true_implies <| And.intro @Bool.not_not <|
    And.intro @List.drop_zero.{0} <| And.intro @vset_get <| And.intro @List.set_cons_zero.{0} <| And.intro @List.set_cons_succ.{0} <|
    And.intro @List.drop_nil.{0} <| And.intro @Nat.add_zero <| And.intro @List.replicate_zero.{0} <| And.intro @List.replicate_succ.{0} <|
    And.intro @elemsOf_fro <| And.intro @elemsOf_emp <| And.intro @goApp_emp <| And.intro @goApp_sl <|
    And.intro @List.isEmpty_cons.{0} <| And.intro @Option.map_none.{0,0} <| And.intro @Option.map_some.{0,0} <| And.intro @Nat.succ_ne_zero <|
    And.intro @List.take_succ_cons.{0} <| And.intro @List.take_zero.{0} <| And.intro @List.drop_succ_cons.{0} <| And.intro @bne_eq_false_iff_eq.{0} <|
    And.intro @beq_eq_false_iff_ne.{0} <| And.intro @not_true_eq_false <| And.intro @not_false_eq_true @Decidable.not_not)
theorem wq:Wq:=(And.intro @eq_self.{1} <| And.intro @ne_eq.{1} <| And.intro @implies_true.{1} <| And.intro @implies_true.{0} <| And.intro @decide_true <| And.intro @decide_false <| And.intro @apV_ptr <| And.intro @apV_psl <| And.intro @apV_pemp <| And.intro @apV_pnem <| And.intro @apV_pfro <| And.intro @apV_fptr <| And.intro @apV_ss' <| And.intro @apV_se <| And.intro @apV_sn <| And.intro @apV_sf <| And.intro @apV_emp <| And.intro @apV_nem <| And.intro @apV_fro <| And.intro @cells_val <| And.intro @cok_val <| And.intro @cells_emp <| And.intro @cok_emp <| And.intro @cells_nem <| And.intro @cok_nem <| And.intro @cells_fro <| And.intro @cok_fro <| And.intro @cells_sl <| And.intro @cok_sl <| And.intro @cells_ptr <| And.intro @cok_ptr <| And.intro @cells_fptr <| And.intro @cok_fptr <| And.intro @cells_mp <| And.intro @cok_mp <| And.intro @cells_fn <| And.intro @cok_fn <| And.intro @cells_agg <| And.intro @len_emp <| And.intro @len_nem <| And.intro @len_fro <| And.intro @len_sl <| And.intro @true_or <| And.intro @or_true <| And.intro @or_false <| And.intro @false_or <|
    And.intro @go0 <| And.intro @go1_val <| And.intro @go1_emp <| And.intro @go1_nem <|
    And.intro @go1_fro <| And.intro @go1_sl <| And.intro @go1_ptr <| And.intro @go1_fptr <|
    And.intro @go1_mp <| And.intro @go1_fn <| And.intro @go1_agg <| And.intro @go1_tup <|
    And.intro @goA_arr <| And.intro @goA_map <| And.intro @goO_some <| And.intro @goB_true <|
    And.intro @goB_false <| And.intro @goB_not <| And.intro @List.getD_cons_zero.{0} <| And.intro @List.getD_cons_succ.{0} <|
    And.intro @List.length_cons.{0} <| And.intro @List.length_nil.{0} <| And.intro @List.length_map.{0,0} <| And.intro @wrap64 <|
    And.intro @true_and <| And.intro @and_true <| And.intro @and_self <| And.intro @decide_eq_true_eq <|
    And.intro @decide_eq_false_iff_not <| And.intro @List.all_cons.{0} <| And.intro @List.all_nil.{0} <| And.intro @Bool.and_self <|
    And.intro @List.nil_append.{0} <| And.intro @List.cons_append.{0} <| And.intro @Nat.zero_add <| And.intro @asNat_int <|
    And.intro @Int.toNat_natCast <| And.intro @ret_or <| And.intro @normal_or <| And.intro @bne_iff_ne.{0} <|
    And.intro @beq_iff_eq.{0} <| And.intro @Bool.not_eq_true <| And.intro @Bool.not_true <| And.intro @Bool.not_false <|
    And.intro @List.append_nil.{0} <| And.intro @List.map_cons.{0,0} <| And.intro @List.map_nil.{0,0} <| And.intro @Bool.true_eq_false <|
    And.intro @Bool.false_eq_true <| And.intro @false_implies <| And.intro @true_implies <| And.intro @Bool.not_not <|
    And.intro @List.drop_zero.{0} <| And.intro @vset_get <| And.intro @List.set_cons_zero.{0} <| And.intro @List.set_cons_succ.{0} <|
    And.intro @List.drop_nil.{0} <| And.intro @Nat.add_zero <| And.intro @List.replicate_zero.{0} <| And.intro @List.replicate_succ.{0} <|
    And.intro @elemsOf_fro <| And.intro @elemsOf_emp <| And.intro @goApp_emp <| And.intro @goApp_sl <|
    And.intro @List.isEmpty_cons.{0} <| And.intro @Option.map_none.{0,0} <| And.intro @Option.map_some.{0,0} <| And.intro @Nat.succ_ne_zero <|
    And.intro @List.take_succ_cons.{0} <| And.intro @List.take_zero.{0} <| And.intro @List.drop_succ_cons.{0} <| And.intro @bne_eq_false_iff_eq.{0} <|
    And.intro @beq_eq_false_iff_ne.{0} <| And.intro @not_true_eq_false <| And.intro @not_false_eq_true @Decidable.not_not)
inductive Bare:V→Prop
  | val (v:Value):Bare (.val v)
  | tup (cs:List V):(∀ i,i < cs.length→∃ v,cs.getD i .any=.val v)→Bare (.tup cs)
theorem flat_rel {Z Z':Nat→Prop} {μ μ':Mu} {hp hp':Array Obj} {t:V} {x:Value} (hf:Bare t) (h:VRel Z μ hp t x):VRel Z' μ' hp' t x:=by
  cases hf with
  | val=>cases h with | val _ hv=>exact .val _ hv
  | tup cs hc =>
    cases h with
    | tup _ aas h1 h2 =>
      refine .tup _ _ h1 fun i hi=>?_
      have:=h2 i hi
      obtain ⟨v,hv⟩:=hc i hi
      rw[hv] at this ⊢
      generalize aas.getD i undef=y at this ⊢
      cases this with | val _ hv=>exact .val _ hv
theorem ACall.borrow {P:Program} {f:FuncId} {ts vs:List V} {t:V} {h:Heap} (hc:PCall P f ts t) (hf:Bare t) (hl:ts.length=vs.length)
    (hfr:∀ i,i < vs.length→Fr h (vs.getD i .any) (ts.getD i .any)):ACall P f vs h t h:=by
  refine ⟨Nat.le_refl _,fun Z μ F w xs hrel hr hfree=>?_⟩
  have hts:VRels (fun b=>Z b∨hasMu μ b) μ w.heap ts xs:=⟨by rw[hl,hrel.1],fun i hi=>fr_rel hr (hfr i (by omega)) (hrel.2 i (by omega))⟩
  have hzl:∀ b,(Z b∨hasMu μ b)→b < w.heap.size:=by
    rintro b (hb | ⟨id,o,s,hb⟩)
    · exact hr.zlt b hb
    · exact hr.lt _ _ _ _ hb
  refine (hc _ μ w xs hts hzl).mono ?_
  rintro e w' ⟨x,Z',rfl,hv,hs,hz,hz',ho⟩
  have hm:Mono Z Z μ μ w.heap w'.heap:=⟨fun _ h=>h,fun b hb=>ho b (hr.zlt b hb) (fun x=>x),fun _ _ h=>h,ho.shapes⟩
  exact ⟨x,Z,μ,rfl,flat_rel hf (hv μ),⟨fun id=>(hr.obj id).mono hm rfl (fun b o s hx=>ho b (hr.lt _ _ _ _ hx) (fun x=>x)),hr.inj,fun id b o s hx=>Nat.lt_of_lt_of_le (hr.lt _ _ _ _ hx) hs.size,fun b hb=>Nat.lt_of_lt_of_le (hr.zlt b hb) hs.size,hr.zmu⟩,
    ⟨hs,hm,fun b hb _=>ho b hb (fun x=>x),fun b hb=>.inl hb,fun _ _ _ _ h=>.inl h⟩,fun _ _=>rfl⟩
def Lent (H:View) (v t:V):Prop:=∀ h:Heap,h.view=H→Fr h v t
theorem Lent.tree {H:View} {v:V} (h:Tree v):Lent H v v:=fun _ _=>.tree _ h
theorem Lent.sl {H:View} {id off len esz z:Nat} {es:List (List V)} (hH:H id=.arr z es) (hle:off+len≤es.length) (ht:∀ e∈es,∀ v∈e,Tree v) :
    Lent H (.sl id off len esz) (.fro ((es.drop off).take len)):=by
  rintro h rfl
  have hg:∀ i,i < len→((es.drop off).take len).getD i []=es.getD (off+i) []:=fun i hi=>by
    simp[List.getD_eq_getElem?_getD,hi]
  refine .sl id off len esz z es _ hH hle (by simp; omega) (fun i hi=>by rw[hg i hi]) (fun i j hi hj=>?_)
  rw[hg i hi] at hj ⊢
  refine .tree _ ?_
  have h1:off+i < es.length:=by omega
  have e1:es.getD (off+i) []=es[off+i]:=by simp[List.getD_eq_getElem?_getD,h1]
  rw[e1] at hj ⊢
  have e2:(es[off+i]).getD j .any=(es[off+i])[j]:=by simp[List.getD_eq_getElem?_getD,hj]
  rw[e2]
  exact ht _ (List.getElem_mem _) _ (List.getElem_mem _)
theorem CallG.borrow {P:Program} {q:Bool} {f:FuncId} {H:View} {vs ts:List V} {K:V→View→Prop} {v:Veil (H,K)} {t:V} (hc:PCall P f ts t) (hok:calleeOk P f=true) (hf:Bare t) (hl:ts.length=vs.length)
    (hfr:∀ i,i < vs.length→Lent H (vs.getD i .any) (ts.getD i .any)) (hk:K t H):CallG P q f vs H K v:=by
  unfold CallG
  cases q with
  | true=>exact ⟨hok,fun h e=>⟨t,h,ACall.borrow hc hf hl (fun i hi=>hfr i hi h e),fun _ _=>rfl,e ▸ hk⟩⟩
  | false =>
    refine ⟨hok,?_⟩
    rintro h rfl
    exact ⟨t,h,ACall.borrow hc hf hl (fun i hi=>hfr i hi h rfl),.refl _,hk⟩
abbrev gi (x:Int):V:=.val (.int .i64 x)
abbrev gb (x:Bool):V:=.val (.bool x)
abbrev gs (x:ByteArray):V:=.val (.string x)
theorem mixed:(Tryz.prog).follows .mixedOrders=true:=by kernel_rfl
def encI (l:List Int):V:=.fro (l.map fun x=>[gi x])
def encB (l:List Bool):V:=.fro (l.map fun x=>[gb x])
theorem encI_tree (l:List Int):Tree (encI l):=by
  refine .fro _ fun i j hi hj=>?_
  simp only[List.length_map] at hi
  simp[List.getD_eq_getElem?_getD,hi] at hj ⊢
  subst hj
  exact .val _
def Short {α:Type} (l:List α):Prop:=l.length < 4611686018427387904
def B_gerundref03_Ints_0:SC :=
  .seq (.seq (ab [aa 11 5,aa 12 0,aj 13 12,ak 14 .lss 11 13]) <|
  .cond (.tmp 14) (.skip) (.exit 0)) <|
  .seq (.block 1 (.seq (ab [aa 17 0,aa 18 5,av 19 1 17 18,ae 20 19,aa 21 1,aa 22 5,av 23 1 21 22,ae 24 23,ak 25 .neq 20 24]) <|
  .cond (.tmp 25) (.seq (ab [aw 4 false]) <|
  .ret) (.skip))) <|
  ab [aa 15 5,ah 16 .add 15 1,aa 5 16]
def S_gerundref03_Ints:SF:=⟨.seq (ab [aw 4 false]) <|
  .seq (.seq (ab [aa 6 0,aj 7 6,aa 8 1,aj 9 8,ak 10 .neq 7 9]) <|
  .cond (.tmp 10) (.seq (ab [aw 4 false]) <|
  .ret) (.skip)) <|
  .seq (.seq (ab [ai 5 0]) <|
  .block 0 (.loop B_gerundref03_Ints_0)) <|
  .seq (ab [aw 4 true]) <|
  .ret,
  [.tmp 4],26⟩
theorem S_gerundref03_Ints_ok:compF Tryz.prog 21 []=some S_gerundref03_Ints:=by kernel_rfl
theorem beq_off {α:Type} [BEq α] [LawfulBEq α] {a b:List α} (h:a.length≠b.length):(a == b)=false:=by
  simp only[beq_eq_false_iff_ne]; intro e; exact h (by rw[e])
theorem mc_Ints (a b:List Int) (ha:Short a) (H:View):MCall Tryz.prog 21 [encI a,encI b] H fun r H'=>r=gb (a == b)∧H'=H:=by
  refine MCall.of mixed S_gerundref03_Ints_ok ?_
  unfold Short at ha
  simp (disch:=omega) only [↓wr,↓reduceIte,wq,oneV,intOp,goI,Nat.reduceEqDiff,Nat.reduceAdd,Nat.reduceLeDiff,reduceCtorEq,S_gerundref03_Ints,encI]
  refine GoB.ne (fun h=>?_) (fun h=>?_)
  · simp (disch:=omega) only [↓wr,↓reduceIte,wq,reduceCtorEq]
    rw[beq_off (by omega)]
  · simp (disch:=omega) only [↓wr,wq]
    refine LoopG.intro (fun k T H'=>∃ i:Nat,i+k=a.length∧a.take i=b.take i∧T 0=encI a∧T 1=encI b∧T 5=gi i∧H'=H) a.length ?_ ?_
    · exact ⟨0,by omega,by simp,rfl,rfl,rfl,rfl⟩
    · rintro k T H' ⟨i,hk,hi,h0,h1,h5,rfl⟩
      simp (disch:=omega) only [↓wr,↓reduceIte,wq,intOp,goI,Nat.reduceEqDiff,reduceCtorEq,B_gerundref03_Ints_0,h0,h5,encI]
      refine GoB.dec (fun hc=>?_) (fun hc=>?_)
      · have h2:a[i]?=some (a[i]'(by omega)):=List.getElem?_eq_getElem (by omega)
        have h3:b[i]?=some (b[i]'(by omega)):=List.getElem?_eq_getElem (by omega)
        simp (disch:=omega) only [↓wr,↓reduceIte,wq,intOp,Nat.reduceEqDiff,Nat.reduceLT,reduceCtorEq,h0,h1,h5,encI,List.getElem?_map,h2,h3]
        refine GoB.ne (fun hd=>?_) (fun hd=>?_)
        · simp (disch:=omega) only [↓wr,↓reduceIte,wq,intOp,Nat.reduceEqDiff,reduceCtorEq]
          have:(a == b)=false:=by
            simp only[beq_eq_false_iff_ne]; rintro rfl; exact hd rfl
          rw[this]
        · simp (disch:=omega) only [↓wr,↓reduceIte,wq,intOp,Nat.reduceEqDiff,reduceCtorEq,h0,h1,h5,encI]
          refine ⟨k - 1,by omega,i+1,by omega,?_,rfl⟩
          rw[List.take_add_one,List.take_add_one,hi,h2,h3,hd]
      · simp (disch:=omega) only [↓wr,↓reduceIte,wq,Nat.reduceEqDiff,reduceCtorEq]
        have:a=b:=by
          have e:i=a.length:=by omega
          rw[List.take_of_length_le (by omega),List.take_of_length_le (by omega)] at hi
          exact hi
        rw[this]; simp
theorem pc_Ints (a b:List Int) (ha:Short a):PCall Tryz.prog 21 [encI a,encI b] (gb (a == b)) :=
  PCall.of (by simp[encI_tree]) ((mc_Ints a b ha _).mono fun r H' h h' _=>by rw[h.1]; exact .tree _ (.val _))
theorem encB_tree (l:List Bool):Tree (encB l):=by
  refine .fro _ fun i j hi hj=>?_
  simp only[List.length_map] at hi
  simp[List.getD_eq_getElem?_getD,hi] at hj ⊢
  subst hj
  exact .val _
end Gv
