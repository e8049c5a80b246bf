/-
  Part 5 of the proof: what the machine does and what the functions answer.
  Conditions: those that each lemma names.
-/
import Derived.Test.YtgniimkconobpaaGreatProg
import Derived.KernelRfl
import Derived.Test.YtgniimkconobpaaGreatSGzOD
set_option linter.unusedSimpArgs false
set_option linter.unusedVariables false
namespace Gv
open Go
section
variable {P:Program} {n:Nat} {all:List Oper}
theorem Hj (h:aE):h.view h.length=.dead:=by simp[aE.view,List.getD_eq_getElem?_getD]
theorem Jo {o:Oper} {T:Env} {h:aE} {s:SI} {K:V→View→Prop} (hg:bW n all T o=some true) (hc:∀ v aA rd,sI P s T h.view h.length=some (v,aA,rd)→bz P o T h.view h.length=some (v,aA,rd)) (hw:wI P s T h.view K) :
    ∃ v h' rd wr,cw P n all o T h v h' rd wr false∧fv h h'∧K v h'.view∧gH (oN P s) rd wr false h.length h'.length:=by
  obtain ⟨v,aA,rd,hs,hk⟩:=JA hw (Hj h)
  have ha:=hc _ _ _ hs
  have hlive:∀ id,id∈aA.wr→h.view id≠.dead:=fun id hid=>(iR ha id hid).1
  refine ⟨v,aA.apply h,rd,aA.wr,.op hg ha,?_,?_,?_,?_⟩
  · intro id hid hd
    rw[gK hlive]
    cases aA with
    | none=>exact hd
    | new o=>simp only[ba.view,View.set]; rw[if_neg (by omega)]; exact hd
    | dw k o =>
      simp only[ba.view,View.set]
      rw[if_neg (by rintro rfl; exact hlive id (by simp[ba.wr]) hd)]; exact hd
    | bg k o =>
      simp only[ba.view,View.set]
      rw[if_neg (by omega)]
      split
      · rfl
      · exact hd
  · rw[gK (fun id hid=>(iR ha id hid).1)]; exact hk
  · intro h0
    obtain ⟨rfl,rfl⟩:=(nv hs).1 h0
    exact ⟨rfl,rfl,rfl,rfl⟩
  · intro h1
    rcases Nat.lt_or_ge (oN P s) 1 with h2 | h2
    · obtain ⟨rfl,rfl⟩:=(nv hs).1 (by omega); rfl
    · exact (nv hs).2 (by omega)
theorem BZ {P:Program} {fr:Bool} {s:SI} {T:Env} {H:View} {n:Nat} {v:V} {aA:ba} {rd:List Nat} (h:sI P (tH P fr s) T H n=some (v,aA,rd)):sI P s T H n=some (v,aA,rd):=by
  unfold tH at h
  split at h
  · split at h
    · exact Gi h
    · exact h
  · split at h
    · rename_i hc
      simp only[Bool.and_eq_true] at hc
      exact Iu hc.2 h
    · exact h
  · exact h
theorem uv (P:Program) (fz:Fz) (o:Oper) :
    (∃ f args ats,o.op=.call { callee:=.value f,args:=args,argTypes:=ats }∧jJ P fz o=.call (SX.of f) (args.toList.map SX.of)) ∨
    (∃ t x,o.op=.box t x∧jJ P fz o=.op (.fg (SX.of x)))∨(∃ s d x,o.op=.convert s d x∧qz P s d=true∧jJ P fz o=.op (.dH (SX.of x)))∨jJ P fz o=.op (tH P fz.fr (comp P o)):=by
  unfold jJ
  split
  · rename_i f args ats ho; exact .inl ⟨f,args,ats,ho,rfl⟩
  · rename_i t x ho
    by_cases hd:(match o.dst with | some d=>fz.l.contains d | none=>false)=true
    · exact .inr (.inl ⟨t,x,ho,if_pos hd⟩)
    · refine .inr (.inr (.inr ?_))
      refine (if_neg hd).trans ?_
      simp only[comp,ho,tH]
  · rename_i s d x ho
    by_cases hd:((match o.dst with | some d=>fz.l.contains d | none=>false) && qz P s d)=true
    · exact .inr (.inr (.inl ⟨s,d,x,ho,by simp only[Bool.and_eq_true] at hd; exact hd.2,if_pos hd⟩))
    · exact .inr (.inr (.inr (if_neg hd)))
  · exact .inr (.inr (.inr rfl))
theorem cw.len {o:Oper} {T:Env} {h h':aE} {v:V} {rd wr:List Nat} {call:Bool} (st:cw P n all o T h v h' rd wr call):h.length≤h'.length:=by
  cases st with
  | skip=>exact Nat.le_refl _
  | op _ _=>rename_i aA _ _ ; cases aA <;> simp[ba.apply]
  | fg _ _ _=>exact Nat.le_refl _
  | dH _ _ _ _ _ _=>exact Nat.le_refl _
  | call _ _ _ _ ha _ _=>exact ha.1
theorem Iz {fz:Fz} {o:Oper} {T:Env} {h:aE} {quiet:Bool} {K:V→View→Prop} (hg:bW n all T o=some true) (hw:wB P quiet (jJ P fz o) T h.view K) :
    ∃ v h' rd wr call,cw P n all o T h v h' rd wr call∧fv h h'∧K v h'.view∧gH (eS P quiet (jJ P fz o)) rd wr call h.length h'.length:=by
  rcases uv P fz o with ⟨f,args,ats,ho,hc⟩ | ⟨t,x,ho,hc⟩ | ⟨s,d,x,ho,hcv,hc⟩ | hc
  · rw[hc] at hw ⊢
    simp only[wB] at hw
    split at hw
    · rename_i g first cap hf
      rw[AH] at hw
      rw[SX.bI] at hf
      split at hw
      · rename_i hq
        obtain ⟨hok,hq'⟩:=hw
        obtain ⟨r,h',hr,hold,hk⟩:=hq' h rfl
        refine ⟨r,h',[],[],true,.call hg ho hf hok hr (fun id hid _=>hold id hid) (fun id hid=>by simp at hid),fun id hid hd=>(hold id hid).trans hd,hk,?_,?_⟩
        · intro h0; simp[eS,hq] at h0
        · intro _; rfl
      · rename_i hq
        obtain ⟨hok,hq'⟩:=hw
        obtain ⟨r,h',hr,hst,hk⟩:=hq' h rfl
        refine ⟨r,h',[],List.range h.length,true,.call hg ho hf hok hr (fun id hid hn=>?_) (fun id hid=>by simpa using hid),hst,hk,Hr (by simp[eS,hq])⟩
        exact absurd (by simpa using hid) hn
    · exact hw.elim
  · rw[hc] at hw ⊢
    simp only[wB,wI,SX.bI] at hw
    exact ⟨_,h,[],[],false,.fg hg ho hw.1,.refl _,hw.2,fun _=>⟨rfl,rfl,rfl,rfl⟩,fun _=>rfl⟩
  · rw[hc] at hw ⊢
    simp only[wB,wI,SX.bI] at hw
    obtain ⟨e,h1,h2,h3⟩:=uc hcv
    split at hw
    · rename_i st hx
      exact ⟨_,h,[],[],false,.dH hg ho h1 h2 h3 hx,.refl _,hw,fun _=>⟨rfl,rfl,rfl,rfl⟩,fun _=>rfl⟩
    · exact hw.elim
  · rw[hc] at hw ⊢
    obtain ⟨v,h',rd,wr,h1,h0,h2,h3⟩:=Jo (s:=tH P fz.fr (comp P o)) hg (fun v aA rd hs=>BT (BZ hs)) hw
    exact ⟨v,h',rd,wr,false,h1,h0,h2,h3⟩
def dz (P:Program) (quiet:Bool) (l:List SO) (recs:List Rec):Prop :=
  l.length=recs.length∧∀ (i:Nat) (s:SO) (r:Rec),l[i]?=some s→recs[i]?=some r→gH (eS P quiet s.b) r.rd r.wr r.call r.lo r.hi
theorem dz.nil {quiet:Bool} : dz P quiet [] []:=⟨rfl,fun i s r h=>by simp at h⟩
theorem dz.cons {quiet:Bool} {l:List SO} {recs:List Rec} {s:SO} {r:Rec} (h:dz P quiet l recs) (hr:gH (eS P quiet s.b) r.rd r.wr r.call r.lo r.hi):dz P quiet (s :: l) (r :: recs):=by
  refine ⟨by simp[h.1],fun i s' r' hs hr'=>?_⟩
  cases i with
  | zero=>simp at hs hr'; subst hs hr'; exact hr
  | succ i=>exact h.2 i s' r' (by simpa using hs) (by simpa using hr')
theorem dz.append {quiet:Bool} {l l':List SO} {recs recs':List Rec} (h:dz P quiet l recs) (h':dz P quiet l' recs'):dz P quiet (l ++ l') (recs ++ recs'):=by
  refine ⟨by simp[h.1,h'.1],fun i s r hs hr=>?_⟩
  by_cases hi:i < l.length
  · rw[List.getElem?_append_left hi] at hs
    rw[List.getElem?_append_left (h.1 ▸ hi)] at hr
    exact h.2 i s r hs hr
  · rw[List.getElem?_append_right (by omega)] at hs
    rw[List.getElem?_append_right (by have:=h.1; omega)] at hr
    exact h'.2 (i - l.length) s r hs (by rw[h.1]; exact hr)
theorem ou {fz:Fz} {o:Oper} {s:SO} (h:za P n all fz o=some s):ni n o=true∧s.dst=o.dst∧s.b=jJ P fz o∧p8 n all o=some s.guard:=by
  unfold za at h
  split at h
  · rename_i hd
    simp only[Option.map_eq_some_iff] at h
    obtain ⟨g,hg,rfl⟩:=h
    exact ⟨hd,rfl,rfl,hg⟩
  · simp at h
theorem wy {o:Oper} {T:Env} (h:p8 n all o=some none):bW n all T o=some true:=by
  unfold p8 at h
  unfold bW
  split at h
  · rename_i hg; rw[hg]
  · split at h
    · split at h
      · simp at h
      · simp at h
    · simp at h
theorem gY {o:Oper} {T:Env} {d:Nat} {want:Bool} (h:p8 n all o=some (some (d,want))) :
    (∀ b,T d=.val (.bool b)→bW n all T o=some (b == want))∧(T d=.bp []→bW n all T o=some false):=by
  unfold p8 at h
  unfold bW
  split at h
  · simp at h
  · rename_i j w hg
    rw[hg]
    split at h
    · rename_i d' hd
      split at h
      · rename_i hlt
        simp at h
        obtain ⟨rfl,rfl⟩:=h
        simp only[hd,hlt,if_true]
        exact ⟨fun b hb=>by rw[hb],fun hb=>by rw[hb]⟩
      · simp at h
    · simp at h
theorem gQ {fz:Fz} {os:List Oper} (h:b9 P n all fz os=some []):os=[]:=by
  cases os with
  | nil=>rfl
  | cons o r =>
    simp only[b9] at h
    split at h <;> simp at h
theorem iy {fz:Fz} {os:List Oper} {s:SO} {l:List SO} (h:b9 P n all fz os=some (s :: l)):∃ o r,os=o :: r∧za P n all fz o=some s∧b9 P n all fz r=some l:=by
  cases os with
  | nil=>simp[b9] at h
  | cons o r =>
    simp only[b9] at h
    split at h
    · rename_i s' l' h1 h2
      simp at h
      obtain ⟨rfl,rfl⟩:=h
      exact ⟨o,r,rfl,h1,h2⟩
    · simp at h
theorem mw {fz:Fz} : ∀ {l l':List SO} {os:List Oper},b9 P n all fz os=some (l ++ l')→∃ a b,os=a ++ b∧b9 P n all fz a=some l∧b9 P n all fz b=some l'
  | [],l',os,h=>⟨[],os,rfl,rfl,h⟩
  | s :: l,l',os,h=>by
    obtain ⟨o,r,rfl,h1,h2⟩:=iy h
    obtain ⟨a,b,rfl,h3,h4⟩:=mw h2
    exact ⟨o :: a,b,rfl,by simp[b9,h1,h3],h4⟩
theorem Tr.append {a b:List Oper} {T T1 T2:Env} {h h1 h2:aE} {r1 r2:List Rec} (x:Tr P n all a T h r1 T1 h1) (y:Tr P n all b T1 h1 r2 T2 h2):Tr P n all (a ++ b) T h (r1 ++ r2) T2 h2:=by
  induction x with
  | nil=>exact y
  | cons st hd _ ih=>exact .cons st hd (ih y)
theorem uM {T:Env} {d:Nat} {v:V} (h:T d=v):T.put (some d) v=T:=by
  funext t
  simp only[Env.put]
  split
  · rename_i e; subst e; exact h.symm
  · rfl
theorem zu {fz:Fz} {quiet:Bool} {K:Env→View→Prop} (g:Option (Nat × Bool)):∀ (l:List (Option Nat × SB)) (os:List Oper) (T:Env) (h:aE),
    b9 P n all fz os=some (l.map fun (d,b)=>⟨d,g,b⟩)→(∀ d w,g=some (d,w)→T d=.val (.bool w)∧(l.all fun x=>x.1 != some d)=true)→s6 P quiet l T h.view K →
    ∃ recs T' h',Tr P n all os T h recs T' h'∧(fv h h'∧h.length≤h'.length)∧K T' h'.view∧dz P quiet (l.map fun (d,b)=>⟨d,g,b⟩) recs
  | [],os,T,h,hc,hg,hw=>by
    have:=gQ hc; subst this
    exact ⟨[],T,h,.nil,⟨.refl _,Nat.le_refl _⟩,hw,.nil⟩
  | (d,b) :: l,os,T,h,hc,hg,hw=>by
    obtain ⟨o,r,rfl,h1,h2⟩:=iy hc
    obtain ⟨hd,hd1,hb1,hg1⟩:=ou h1
    simp only at hd1 hb1 hg1
    have hgv:bW n all T o=some true:=by
      cases g with
      | none=>exact wy hg1
      | some p =>
        obtain ⟨d',w⟩:=p
        have:=(gY (T:=T) hg1).1 w (hg d' w rfl).1
        rw[this]; simp
    simp only[s6] at hw
    rw[hb1] at hw
    obtain ⟨v,h',rd,wr,call,st,hst,hk,hl⟩:=Iz hgv hw
    obtain ⟨recs,T',h'',tr,hst',hk',hro⟩:=zu g l r (T.put d v) h' h2 (fun d' w e=>by
      have:=hg d' w e
      simp only[List.all_cons,Bool.and_eq_true,bne_iff_ne,ne_eq] at this
      refine ⟨?_,this.2.2⟩
      rw[← this.1]
      cases d with
      | none=>rfl
      | some t=>simp only[Env.put]; rw[if_neg]; intro e; subst e; exact this.2.1 rfl) hk
    rw[hd1] at tr
    have hlen:=st.len
    exact ⟨_,T',h'',.cons st hd tr,⟨hst.trans hst'.1 hlen,Nat.le_trans hlen hst'.2⟩,hk',hro.cons (by rw[hb1]; exact hl)⟩
theorem w7 {fz:Fz} {quiet:Bool} (d:Nat) (w:Bool) (h:aE):∀ (l:List (Option Nat × SB)) (os:List Oper) (T:Env),
    b9 P n all fz os=some (l.map fun (d',b)=>⟨d',some (d,w),b⟩)→(T d=.val (.bool !w)∨T d=.bp [])→(l.all fun x=>x.1 != some d)=true →
    ∃ recs,Tr P n all os T h recs (eF l T) h∧dz P quiet (l.map fun (d',b)=>⟨d',some (d,w),b⟩) recs
  | [],os,T,hc,hd,hl=>by
    have:=gQ hc; subst this
    exact ⟨[],.nil,.nil⟩
  | (d',b) :: l,os,T,hc,hd,hl=>by
    obtain ⟨o,r,rfl,h1,h2⟩:=iy hc
    obtain ⟨hd0,hd1,hb1,hg1⟩:=ou h1
    simp only at hd1 hb1 hg1
    have hgv:bW n all T o=some false:=by
      rcases hd with hd | hd
      · rw[(gY (T:=T) hg1).1 _ hd]; cases w <;> rfl
      · exact (gY (T:=T) hg1).2 hd
    simp only[List.all_cons,Bool.and_eq_true,bne_iff_ne,ne_eq] at hl
    obtain ⟨recs,tr,hro⟩:=w7 d w h l r (T.put d' (.bp [])) h2 (by
      have:(T.put d' (.bp [])) d=T d:=by
        cases d' with
        | none=>rfl
        | some t=>simp only[Env.put]; rw[if_neg]; intro e; subst e; exact hl.1 rfl
      rw[this]; exact hd) hl.2
    rw[hd1] at tr
    refine ⟨_,?_,hro.cons (r:=⟨[],[],false,h.length,h.length⟩) ⟨fun _=>⟨rfl,rfl,rfl,rfl⟩,fun _=>rfl⟩⟩
    have:=Tr.cons (.skip hgv) hd0 tr
    rw[eF,hd1]
    exact this
theorem JC {fz:Fz} {quiet:Bool} {K:Env→View→Prop} {g:SG} {os:List Oper} {T:Env} {h:aE} (hc:b9 P n all fz os=some g.flat) (hok:oL g=true) (hw:wG P quiet g T h.view K) :
    ∃ recs T' h',Tr P n all os T h recs T' h'∧(fv h h'∧h.length≤h'.length)∧K T' h'.view∧dz P quiet g.flat recs:=by
  unfold wG at hw
  unfold SG.flat at hc ⊢
  unfold oL at hok
  split at hw
  · rename_i hg
    rw[hg] at hc ⊢
    exact zu none g.ops os T h hc (fun d w e=>by simp at e) hw
  · rename_i d want hg
    rw[hg] at hc hok ⊢
    simp only at hok
    split at hw
    · rename_i b hb
      by_cases e:b=want
      · subst e
        have:=hw.1 rfl
        rw[uM hb] at this
        exact zu (some (d,b)) g.ops os T h hc (fun d' w e=>by simp at e; obtain ⟨rfl,rfl⟩:=e; exact ⟨hb,hok⟩) this
      · have e':b = !want:=by cases b <;> cases want <;> simp_all
        have:=hw.2 e'
        subst e'
        rw[uM hb] at this
        obtain ⟨recs,tr,hro⟩:=w7 (quiet:=quiet) d want h g.ops os T hc (.inl hb) hok
        exact ⟨recs,_,h,tr,⟨.refl _,Nat.le_refl _⟩,this,hro⟩
    · rename_i hb
      obtain ⟨recs,tr,hro⟩:=w7 (quiet:=quiet) d want h g.ops os T hc (.inr hb) hok
      exact ⟨recs,_,h,tr,⟨.refl _,Nat.le_refl _⟩,hw,hro⟩
    · exact hw.elim
theorem tl {fz:Fz} {quiet:Bool} {K:Env→View→Prop} : ∀ (gs:List SG) (os:List Oper) (T:Env) (h:aE),b9 P n all fz os=some (fZ gs)→gs.all oL=true→se P quiet gs T h.view K →
    ∃ recs T' h',Tr P n all os T h recs T' h'∧(fv h h'∧h.length≤h'.length)∧K T' h'.view∧dz P quiet (fZ gs) recs
  | [],os,T,h,hc,_,hw=>by
    have:=gQ hc; subst this
    exact ⟨[],T,h,.nil,⟨.refl _,Nat.le_refl _⟩,hw,.nil⟩
  | g :: gs,os,T,h,hc,hok,hw=>by
    simp only[fZ,List.map_cons,List.flatten_cons] at hc ⊢
    simp only[List.all_cons,Bool.and_eq_true] at hok
    obtain ⟨a,b,rfl,h1,h2⟩:=mw hc
    obtain ⟨r1,T1,h1',tr1,st1,hk1,ro1⟩:=JC h1 hok.1 hw
    obtain ⟨r2,T2,h2',tr2,st2,hk2,ro2⟩:=tl gs b T1 h1' h2 hok.2 hk1
    exact ⟨_,T2,h2',tr1.append tr2,⟨st1.1.trans st2.1 st1.2,Nat.le_trans st1.2 st2.2⟩,hk2,ro1.append ro2⟩
theorem Tr.at_ {os:List Oper} {T T':Env} {h h':aE} {recs:List Rec} (tr:Tr P n all os T h recs T' h'):∀ (i:Nat) (o:Oper),os[i]?=some o →
    ∃ T1 h1 v h2 rd wr call recs2,recs[i]?=some ⟨rd,wr,call,h1.length,h2.length⟩∧cw P n all o T1 h1 v h2 rd wr call∧h.length≤h1.length∧Tr P n all (os.drop (i+1)) (T1.put o.dst v) h2 recs2 T' h'∧(∀ m,recs2[m]?=recs[i+1+m]?) ∧
      (∀ t,(∀ o'∈os.take i,o'.dst≠some t)→T1 t=T t):=by
  induction tr with
  | nil=>intro i o hi; simp at hi
  | @cons o0 rest T T' h h1 h' v rd wr call recs st hd tr ih =>
    intro i o hi
    cases i with
    | zero =>
      simp at hi; subst hi
      exact ⟨T,h,v,h1,rd,wr,call,recs,rfl,st,Nat.le_refl _,by simpa using tr,fun m=>by rw[show 0+1+m=m+1 by omega,List.getElem?_cons_succ],fun t _=>rfl⟩
    | succ i =>
      simp at hi
      obtain ⟨T1,h2,v2,h3,rd2,Jf,call2,recs2,e1,e2,e3,e4,e5,e6⟩:=ih i o hi
      have hlen:h.length≤h1.length:=by
        cases st with
        | skip=>exact Nat.le_refl _
        | op _ _=>rename_i aA _ _; cases aA <;> simp[ba.apply]
        | fg _ _ _=>exact Nat.le_refl _
        | dH _ _ _ _ _ _=>exact Nat.le_refl _
        | call _ _ _ _ ha _ _=>exact ha.1
      refine ⟨T1,h2,v2,h3,rd2,Jf,call2,recs2,by simpa using e1,e2,Nat.le_trans hlen e3,by simpa using e4,fun m=>?_,fun t ht=>?_⟩
      · rw[e5,show i+1+1+m=(i+1+m)+1 by omega,List.getElem?_cons_succ]
      · simp only[List.take_succ_cons,List.mem_cons] at ht
        rw[e6 t fun o' ho'=>ht o' (.inr ho')]
        have:=ht o0 (.inl rfl)
        cases hdst:o0.dst with
        | none=>rfl
        | some d=>simp only[Env.put]; rw[if_neg]; rintro rfl; exact this hdst
theorem DE {o:Oper} {T:Env} {h h':aE} {v:V} {rd wr:List Nat} {call:Bool} (st:cw P n all o T h v h' rd wr call) (ha:vu o=true) (hg:o.guard=none):v=.ptr h.length 0 0:=by
  unfold vu at ha
  have hgv:bW n all T o=some true:=by unfold bW; rw[hg]
  cases st with
  | skip hs=>rw[hgv] at hs; simp at hs
  | op _ hop =>
    split at ha
    · rename_i e ho
      simp only[bz,ho] at hop
      split at hop
      · unfold ij at hop
        split at hop
        · simp at hop; exact hop.1.symm
        · simp at hop
      · simp at hop
    · simp at ha
  | fg _ ho _=>rw[ho] at ha; simp at ha
  | dH _ ho _ _ _ _=>rw[ho] at ha; simp at ha
  | call _ ho _ _ _ _ _=>rw[ho] at ha; simp at ha
theorem C9 {o:Oper} {T:Env} {h h':aE} {v:V} {rd wr:List Nat} {call:Bool} {t id i j:Nat} (st:cw P n all o T h v h' rd wr call) (ha:gD o=some t) (ht:T t=.ptr id i j):wr=[id]∧call=false:=by
  unfold gD at ha
  split at ha
  · rename_i ty t' x ho hg
    simp at ha; subst ha
    have hgv:bW n all T o=some true:=by unfold bW; rw[hg]
    cases st with
    | skip hs=>rw[hgv] at hs; simp at hs
    | op _ hop =>
      have e1:ev T (.tmp t')=.ptr id i j:=ht
      simp only[bz,ho,e1,lT] at hop
      split at hop
      · split at hop
        · simp only[Option.some.injEq,Prod.mk.injEq] at hop
          obtain ⟨_,he,_⟩:=hop
          rw[← he]; exact ⟨rfl,rfl⟩
        · simp at hop
      · simp at hop
    | fg _ ho' _=>rw[ho] at ho'; simp at ho'
    | dH _ ho' _ _ _ _=>rw[ho] at ho'; simp at ho'
    | call _ ho' _ _ _ _ _=>rw[ho] at ho'; simp at ho'
  · simp at ha
theorem FJ {o:Oper} {T:Env} {h h':aE} {v:V} {rd wr:List Nat} {call:Bool} (st:cw P n all o T h v h' rd wr call) (ha:xw o=true):wr=[]∧call=false∧∀ id,id∈rd→id < h.length:=by
  unfold xw at ha
  cases st with
  | skip _=>exact ⟨rfl,rfl,fun id hid=>by simp at hid⟩
  | op _ hop =>
    split at ha
    · rename_i e a ho
      simp only[bz,ho,iH] at hop
      split at hop
      · rename_i id i j hx
        split at hop
        · rename_i z es hH
          split at hop
          · simp only[Option.map_eq_some_iff] at hop
            obtain ⟨_,_,hop⟩:=hop
            simp at hop
            obtain ⟨_,rfl,rfl⟩:=hop
            refine ⟨rfl,rfl,fun id' hid=>?_⟩
            simp at hid; subst hid
            exact fE (by rw[hH]; simp)
          · simp at hop
        · simp at hop
      · simp only[Option.map_eq_some_iff] at hop
        obtain ⟨_,_,hop⟩:=hop
        simp at hop
        obtain ⟨_,rfl,rfl⟩:=hop
        exact ⟨rfl,rfl,fun id hid=>by simp at hid⟩
      · simp at hop
    · simp at ha
  | fg _ ho _=>rw[ho] at ha; simp at ha
  | dH _ ho _ _ _ _=>rw[ho] at ha; simp at ha
  | call _ ho _ _ _ _ _=>rw[ho] at ha; simp at ha
theorem rF {T T':Env} {h h':aE} {recs:List Rec} (tr:Tr P n all all T h recs T' h') {i k:Nat} {a b:Rec} (hp:tP all i k=true) (ha:recs[i]?=some a) (hb:recs[k]?=some b):nU a b:=by
  unfold tP at hp
  split at hp
  · rename_i oa ob hoa hob
    rw[Bool.and_eq_true] at hp
    obtain ⟨hl,hp⟩:=hp
    split at hp
    · rename_i t hst
      rw[List.any_eq_true] at hp
      obtain ⟨j,hj,hp⟩:=hp
      rw[List.mem_range] at hj
      rw[Bool.and_eq_true,decide_eq_true_eq] at hp
      obtain ⟨hij,hown⟩:=hp
      unfold IE at hown
      split at hown
      · rename_i oj hoj
        simp only[Bool.and_eq_true,beq_iff_eq,List.all_eq_true,bne_iff_ne,ne_eq,Option.isNone_iff_eq_none] at hown
        obtain ⟨⟨⟨w1,w2⟩,w3⟩,w4⟩:=hown
        obtain ⟨T1,h1,v1,h2,rd1,JF,c1,recs1,e1,e2,e3,e4,e5,_⟩:=tr.at_ i oa hoa
        obtain ⟨Tj,hj1,vj,hj2,rdj,wrj,cj,recsj,f1,f2,f3,f4,f5,_⟩:=e4.at_ (j - (i+1)) oj (by rw[List.getElem?_drop,show i+1+(j - (i+1))=j by omega]; exact hoj)
        have hdr:(all.drop (i+1)).drop (j - (i+1)+1)=all.drop (j+1):=by rw[List.drop_drop]; congr 1; omega
        rw[hdr] at f4
        obtain ⟨Tk,hk1,vk,hk2,rdk,wrk,ck,recsk,g1,g2,g3,_,_,g6⟩:=f4.at_ (k - (j+1)) ob (by rw[List.getElem?_drop,show j+1+(k - (j+1))=k by omega]; exact hob)
        rw[ha] at e1
        have hae:=(Option.some.inj e1)
        have hbe:recs[k]?=some ⟨rdk,wrk,ck,hk1.length,hk2.length⟩:=by
          rw[← g1,f5,e5]; congr 1; omega
        rw[hb] at hbe
        have hbe:=Option.some.inj hbe
        have hv:=DE f2 w3 w2
        have hTk:Tk t=.ptr hj1.length 0 0:=by
          rw[g6 t fun o' ho'=>w4 o' ho',w1,hv]
          simp[Env.put]
        obtain ⟨s1,s2⟩:=C9 g2 hst hTk
        obtain ⟨l1,l2,l3⟩:=FJ e2 hl
        rw[hae,hbe]
        have hlen:h1.length≤h2.length:=by
          cases e2 with
          | skip=>exact Nat.le_refl _
          | op _ _=>rename_i aA _ _; cases aA <;> simp[ba.apply]
          | fg _ _ _=>exact Nat.le_refl _
          | dH _ _ _ _ _ _=>exact Nat.le_refl _
          | call _ _ _ _ ha _ _=>exact ha.1
        refine ⟨fun id hid=>by simp[l1] at hid,fun id hid=>?_,fun hc=>by simp[l2] at hc,fun _=>l1,fun id hid=>?_⟩
        · simp only[s1,List.mem_singleton] at hid
          subst hid
          intro hr
          have:=l3 _ hr
          omega
        · simp only[s1,List.mem_singleton] at hid
          subst hid
          simp only
          omega
      · simp at hown
    · simp at hp
  · simp at hp
theorem G0 {ls:List Nat} {recs:List Rec} {T T':Env} {hp hp':aE} (tr:Tr P n all all T hp recs T' hp') (h:y6 all ls=true) (hl:ls.length=recs.length) (hr:∀ (i x:Nat) (r:Rec),ls[i]?=some x→recs[i]?=some r→gH x r.rd r.wr r.call r.lo r.hi):oZ all recs:=by
  intro i k a b hik ha hb ho
  have hi:i < recs.length:=(List.getElem?_eq_some_iff.1 ha).1
  have hk:k < recs.length:=(List.getElem?_eq_some_iff.1 hb).1
  unfold y6 at h
  simp only[List.all_eq_true] at h
  have h1:=h (ls[i]'(by omega),i) (by rw[List.mem_zipIdx_iff_getElem?]; simp[List.getElem?_eq_getElem (show i < ls.length by omega)])
    (ls[k]'(by omega),k) (by rw[List.mem_zipIdx_iff_getElem?]; simp[List.getElem?_eq_getElem (show k < ls.length by omega)])
  have la:=hr i _ a (List.getElem?_eq_getElem (by omega)) ha
  have lb:=hr k _ b (List.getElem?_eq_getElem (by omega)) hb
  simp only[hik,decide_true,Bool.not_true,ho,Bool.false_or,Bool.or_eq_true,beq_iff_eq,Bool.and_eq_true,decide_eq_true_eq] at h1
  rcases h1 with ((h1 | h1) | h1) | h1
  · obtain ⟨e1,e2,e3,e4⟩:=la.1 h1
    exact ⟨fun id hid=>by simp[e2] at hid,fun id _=>by simp[e1],fun hc=>by simp[e3] at hc,fun _=>e2,fun id _ hx=>by omega⟩
  · obtain ⟨e1,e2,e3,e4⟩:=lb.1 h1
    exact ⟨fun id _=>by simp[e1],fun id hid=>by simp[e2] at hid,fun _=>e2,fun hc=>by simp[e3] at hc,fun id hid=>by simp[e2] at hid⟩
  · have e1:=la.2 h1.1
    have e2:=lb.2 h1.2
    exact ⟨fun id hid=>by simp[e1] at hid,fun id hid=>by simp[e2] at hid,fun _=>e2,fun _=>e1,fun id hid=>by simp[e2] at hid⟩
  · exact rF tr h1 ha hb
theorem Tr.keep {os:List Oper} {T T':Env} {h h':aE} {recs:List Rec} (tr:Tr P n all os T h recs T' h') {t:Nat} (ht:∀ o∈os,o.dst≠some t):T' t=T t:=by
  induction tr with
  | nil=>rfl
  | @cons o0 rest T T' h h1 h' v rd wr call recs st hd tr ih =>
    rw[ih fun o ho=>ht o (by simp[ho])]
    have:=ht o0 (by simp)
    cases hdst:o0.dst with
    | none=>rfl
    | some d=>simp only[Env.put]; rw[if_neg]; rintro rfl; exact this hdst
theorem rL {o:Oper} {T:Env} {h h':aE} {v:V} {rd wr:List Nat} {call:Bool} {t:Nat} (st:cw P n all o T h v h' rd wr call) (ha:nA o=some t):wr=[]∧call=false∧h'.length=h.length∧∀ id,id∈rd→∃ i j,T t=.ptr id i j:=by
  unfold nA at ha
  split at ha
  · rename_i e t' ho
    simp at ha; subst ha
    cases st with
    | skip _=>exact ⟨rfl,rfl,rfl,fun id hid=>by simp at hid⟩
    | op _ hop =>
      simp only[bz,ho,iH] at hop
      split at hop
      · rename_i id i j hx
        split at hop
        · split at hop
          · simp only[Option.map_eq_some_iff] at hop
            obtain ⟨_,_,hop⟩:=hop
            simp at hop
            obtain ⟨_,rfl,rfl⟩:=hop
            refine ⟨rfl,rfl,rfl,fun id' hid=>?_⟩
            simp at hid; subst hid
            exact ⟨i,j,hx⟩
          · simp at hop
        · simp at hop
      · simp only[Option.map_eq_some_iff] at hop
        obtain ⟨_,_,hop⟩:=hop
        simp at hop
        obtain ⟨_,rfl,rfl⟩:=hop
        exact ⟨rfl,rfl,rfl,fun id hid=>by simp at hid⟩
      · simp at hop
    | fg _ ho' _=>rw[ho] at ho'; simp at ho'
    | dH _ ho' _ _ _ _=>rw[ho] at ho'; simp at ho'
    | call _ ho' _ _ _ _ _=>rw[ho] at ho'; simp at ho'
  · simp at ha
theorem zY {i t:Nat} (h:stays all i t=true):∀ o∈all.drop i,o.dst≠some t:=by
  intro o ho
  have:=List.all_eq_true.1 h o ho
  simpa using this
theorem uJ {aps:List (Nat × Nat)} {T:Env} {K:Prop} (hA:sV aps T K):∀ p∈aps,jm (T p.1) (T p.2):=by
  induction aps with
  | nil=>intro p hp; simp at hp
  | cons q l ih =>
    intro p hp
    rcases List.mem_cons.1 hp with rfl | hp
    · exact hA.1
    · exact ih hA.2 p hp
theorem sV.rest {aps:List (Nat × Nat)} {T:Env} {K:Prop} (hA:sV aps T K):K:=by
  induction aps with
  | nil=>exact hA
  | cons q l ih=>exact ih hA.2
theorem lY {T T':Env} {h h':aE} {recs:List Rec} (tr:Tr P n all all T h recs T' h') {i t:Nat} {o:Oper} (ho:all[i]?=some o) (hs:stays all i t=true) {r:Rec} (hr:recs[i]?=some r) :
    ∃ T1 h1 v h2,cw P n all o T1 h1 v h2 r.rd r.wr r.call∧r.lo=h1.length∧r.hi=h2.length∧T1 t=T' t:=by
  obtain ⟨T1,h1,v,h2,rd,wr,call,recs2,e1,e2,e3,e4,e5,e6⟩:=tr.at_ i o ho
  rw[hr] at e1
  have e1:=Option.some.inj e1
  subst e1
  refine ⟨T1,h1,v,h2,e2,rfl,rfl,?_⟩
  have hk:=zY hs
  have hi:i < all.length:=(List.getElem?_eq_some_iff.1 ho).1
  have ho':all[i]=o:=(List.getElem?_eq_some_iff.1 ho).2
  rw[List.drop_eq_getElem_cons hi,ho'] at hk
  rw[e4.keep fun o' ho'=>hk o' (by simp[ho'])]
  have:=hk o (by simp)
  cases hdst:o.dst with
  | none=>rfl
  | some d=>simp only[Env.put]; rw[if_neg]; rintro rfl; exact this hdst
theorem tX {i a b j c d:Nat} (h:jm (.ptr i a b) (.ptr j c d)):i≠j:=h
theorem wx {i a b j c d e:Nat} (h:jm (.ptr i a b) (.sl j c d e)):i≠j:=h
theorem m8 {o:Oper} {T:Env} {h h':aE} {v:V} {rd wr:List Nat} {call:Bool} {t:Nat} (st:cw P n all o T h v h' rd wr call) (ha:kI o=some t) :
    call=false∧∀ id,id∈wr→(∃ i j,T t=.ptr id i j)∨∃ a b c,T t=.sl id a b c:=by
  unfold kI at ha
  split at ha
  · rename_i t' hs
    simp at ha; subst ha
    unfold gD at hs
    split at hs
    · rename_i ty t2 x ho hg
      simp at hs; subst hs
      cases st with
      | skip _=>exact ⟨rfl,fun id hid=>by simp at hid⟩
      | op _ hop =>
        simp only[bz,ho,lT] at hop
        split at hop
        · rename_i id i j hx
          split at hop
          · split at hop
            · simp only[Option.some.injEq,Prod.mk.injEq] at hop
              obtain ⟨_,he,_⟩:=hop
              rw[← he]
              refine ⟨rfl,fun id' hid=>?_⟩
              simp[ba.wr] at hid; subst hid
              exact .inl ⟨i,j,hx⟩
            · simp at hop
          · simp at hop
        · simp at hop
      | fg _ ho' _=>rw[ho] at ho'; simp at ho'
      | dH _ ho' _ _ _ _=>rw[ho] at ho'; simp at ho'
      | call _ ho' _ _ _ _ _=>rw[ho] at ho'; simp at ho'
    · simp at hs
  · unfold FU at ha
    split at ha
    · rename_i args ats ho hg
      split at ha
      · rename_i t2 y hl
        simp at ha; subst ha
        cases st with
        | skip _=>exact ⟨rfl,fun id hid=>by simp at hid⟩
        | op _ hop =>
          simp only[bz,ho,hl] at hop
          split at hop
          · unfold kT at hop
            split at hop
            · split at hop
              · simp at hop
              · split at hop
                · split at hop <;> first | (simp only[Option.some.injEq,Prod.mk.injEq] at hop; obtain ⟨_,he,_⟩:=hop; rw[← he]; exact ⟨rfl,fun id' hid=>by simp[ba.wr] at hid⟩) | simp at hop
                · split at hop
                  · simp at hop
                  · split at hop
                    · split at hop
                      · simp only[Option.some.injEq,Prod.mk.injEq] at hop
                        obtain ⟨_,he,_⟩:=hop
                        rw[← he]; exact ⟨rfl,fun id' hid=>by simp[ba.wr] at hid⟩
                      · simp at hop
                    · rename_i id off len esz hx
                      split at hop
                      · split at hop
                        · simp only[Option.some.injEq,Prod.mk.injEq] at hop
                          obtain ⟨_,he,_⟩:=hop
                          rw[← he]
                          refine ⟨rfl,fun id' hid=>?_⟩
                          simp[ba.wr] at hid; subst hid
                          exact .inr ⟨off,len,esz,hx⟩
                        · simp at hop
                      · simp at hop
                    · simp at hop
            · simp at hop
          · simp at hop
        | fg _ ho' _=>rw[ho] at ho'; simp at ho'
        | dH _ ho' _ _ _ _=>rw[ho] at ho'; simp at ho'
        | call _ ho' _ _ _ _ _=>rw[ho] at ho'; simp at ho'
      · simp at ha
    · simp at ha
theorem G3 {o:Oper} {T:Env} {h h':aE} {v:V} {rd wr:List Nat} {call:Bool} (st:cw P n all o T h v h' rd wr call) (ha:Ae o=true):rd=[]∧wr=[]∧call=false:=by
  unfold Ae at ha
  cases st with
  | skip _=>exact ⟨rfl,rfl,rfl⟩
  | op _ hop =>
    split at ha
    · rename_i ty len parts ho
      simp only[bz,ho,ei] at hop
      have key:∀ {x:Option (V × ba × List Nat)} {e:ba},x=some (v,e,rd)→(∀ y,x=some y→y.2.1.wr=[]∧y.2.2=[])→rd=[]∧e.wr=[]:=fun hx hy=>⟨(hy _ hx).2,(hy _ hx).1⟩
      obtain ⟨k1,k2⟩:=key hop (by
        intro y hy
        repeat' (first | (split at hy) | (simp only[Option.some.injEq] at hy; subst hy; exact ⟨rfl,rfl⟩) | (simp at hy; done)))
      exact ⟨k1,k2,rfl⟩
    · rename_i e ho
      simp only[bz,ho] at hop
      split at hop
      · unfold ij at hop
        split at hop
        · simp only[Option.some.injEq,Prod.mk.injEq] at hop
          obtain ⟨_,he,hr⟩:=hop
          rw[← he,← hr]; exact ⟨rfl,rfl,rfl⟩
        · simp at hop
      · simp at hop
    · simp at ha
  | fg _ ho _=>rw[ho] at ha; simp at ha
  | dH _ ho _ _ _ _=>rw[ho] at ha; simp at ha
  | call _ ho _ _ _ _ _=>rw[ho] at ha; simp at ha
theorem qi {o:Oper} {t:Nat} (h:gD o=some t):kI o=some t:=by unfold kI; rw[h]
theorem Fa {T T':Env} {h h':aE} {recs:List Rec} (tr:Tr P n all all T h recs T' h') {i k:Nat} {a b:Rec} {p:Nat × Nat} (hp:we all i k=some p) (hA:jm (T' p.1) (T' p.2)) (ha:recs[i]?=some a) (hb:recs[k]?=some b):nU a b:=by
  unfold we at hp
  split at hp
  · rename_i oa ob hoa hob
    split at hp
    · rename_i s t hl hs
      split at hp
      · rename_i hst
        simp only[Bool.and_eq_true] at hst
        simp at hp; subst hp
        obtain ⟨Ta,ha1,va,ha2,sa,la1,la2,ea⟩:=lY tr hoa hst.1 ha
        obtain ⟨Tb,hb1,vb,hb2,sb,_,_,eb⟩:=lY tr hob hst.2 hb
        obtain ⟨l1,l2,l3,l4⟩:=rL sa hl
        have hA:jm (Ta s) (Tb t):=by rw[ea,eb]; exact hA
        refine ⟨fun id hid=>by simp[l1] at hid,fun id hid hr=>?_,fun hc=>by simp[l2] at hc,fun _=>l1,fun id _ hx=>by omega⟩
        obtain ⟨i',j',e1⟩:=l4 id hr
        rw[e1] at hA
        rcases (m8 sb (qi hs)).2 id hid with ⟨c,d,hy⟩ | ⟨c,d,e,hy⟩
        · rw[hy] at hA; exact tX hA rfl
        · rw[hy] at hA; exact wx hA rfl
      · simp at hp
    · split at hp
      · rename_i t s hs hl
        split at hp
        · rename_i hst
          simp only[Bool.and_eq_true] at hst
          simp at hp; subst hp
          obtain ⟨Ta,ha1,va,ha2,sa,la1,la2,ea⟩:=lY tr hoa hst.1 ha
          obtain ⟨Tb,hb1,vb,hb2,sb,lb1,lb2,eb⟩:=lY tr hob hst.2 hb
          obtain ⟨l1,l2,l3,l4⟩:=rL sb hl
          have hA:jm (Tb s) (Ta t):=by rw[ea,eb]; exact hA
          refine ⟨fun id hid hr=>?_,fun id hid=>by simp[l1] at hid,fun hc=>l1,fun hc=>by simp[l2] at hc,fun id hid=>by simp[l1] at hid⟩
          obtain ⟨i',j',e1⟩:=l4 id hr
          rw[e1] at hA
          rcases (m8 sa (qi hs)).2 id hid with ⟨c,d,hy⟩ | ⟨c,d,e,hy⟩
          · rw[hy] at hA; exact tX hA rfl
          · rw[hy] at hA; exact wx hA rfl
        · simp at hp
      · simp at hp
  · simp at hp
theorem Dv {T T':Env} {h h':aE} {recs:List Rec} (tr:Tr P n all all T h recs T' h') {i k:Nat} {a b:Rec} {p:Nat × Nat} (hp:tR all i k=some p) (hA:jm (T' p.1) (T' p.2)) (ha:recs[i]?=some a) (hb:recs[k]?=some b):nU a b:=by
  unfold tR at hp
  split at hp
  · rename_i oa ob hoa hob
    split at hp
    · rename_i s t hl hs
      split at hp
      · rename_i hst
        simp only[Bool.and_eq_true] at hst
        simp at hp; subst hp
        obtain ⟨Ta,ha1,va,ha2,sa,la1,la2,ea⟩:=lY tr hoa hst.1 ha
        obtain ⟨Tb,hb1,vb,hb2,sb,_,_,eb⟩:=lY tr hob hst.2 hb
        obtain ⟨l1,l2,l3,l4⟩:=rL sa hl
        have hA:jm (Ta s) (Tb t):=by rw[ea,eb]; exact hA
        refine ⟨fun id hid=>by simp[l1] at hid,fun id hid hr=>?_,fun hc=>by simp[l2] at hc,fun _=>l1,fun id _ hx=>by omega⟩
        obtain ⟨i',j',e1⟩:=l4 id hr
        rw[e1] at hA
        rcases (m8 sb hs).2 id hid with ⟨c,d,hy⟩ | ⟨c,d,e,hy⟩
        · rw[hy] at hA; exact tX hA rfl
        · rw[hy] at hA; exact wx hA rfl
      · simp at hp
    · split at hp
      · rename_i t s hs hl
        split at hp
        · rename_i hst
          simp only[Bool.and_eq_true] at hst
          simp at hp; subst hp
          obtain ⟨Ta,ha1,va,ha2,sa,la1,la2,ea⟩:=lY tr hoa hst.1 ha
          obtain ⟨Tb,hb1,vb,hb2,sb,lb1,lb2,eb⟩:=lY tr hob hst.2 hb
          obtain ⟨l1,l2,l3,l4⟩:=rL sb hl
          have hA:jm (Tb s) (Ta t):=by rw[ea,eb]; exact hA
          refine ⟨fun id hid hr=>?_,fun id hid=>by simp[l1] at hid,fun hc=>l1,fun hc=>by simp[l2] at hc,fun id hid=>by simp[l1] at hid⟩
          obtain ⟨i',j',e1⟩:=l4 id hr
          rw[e1] at hA
          rcases (m8 sa hs).2 id hid with ⟨c,d,hy⟩ | ⟨c,d,e,hy⟩
          · rw[hy] at hA; exact tX hA rfl
          · rw[hy] at hA; exact wx hA rfl
        · simp at hp
      · simp at hp
  · simp at hp
theorem Fu {l:List (Nat × Nat)} {aps:List (Nat × Nat)} (h:v7 all l=some aps):∀ q∈l,∃ p∈aps,we all q.1 q.2=some p:=by
  induction l generalizing aps with
  | nil=>intro q hq; simp at hq
  | cons x r ih =>
    obtain ⟨i,k⟩:=x
    simp only[v7] at h
    split at h
    · rename_i p l' h1 h2
      simp at h; subst h
      intro q hq
      rcases List.mem_cons.1 hq with rfl | hq
      · exact ⟨p,by simp,h1⟩
      · obtain ⟨p',hp',e⟩:=ih h2 q hq
        exact ⟨p',by simp[hp'],e⟩
    · simp at h
theorem Dg {l:List (Nat × Nat)} {aps:List (Nat × Nat)} (h:pE all l=some aps):∀ q∈l,∃ p∈aps,tR all q.1 q.2=some p:=by
  induction l generalizing aps with
  | nil=>intro q hq; simp at hq
  | cons x r ih =>
    obtain ⟨i,k⟩:=x
    simp only[pE] at h
    split at h
    · rename_i p l' h1 h2
      simp at h; subst h
      intro q hq
      rcases List.mem_cons.1 hq with rfl | hq
      · exact ⟨p,by simp,h1⟩
      · obtain ⟨p',hp',e⟩:=ih h2 q hq
        exact ⟨p',by simp[hp'],e⟩
    · simp at h
theorem GA {ls:List Nat} {recs:List Rec} {T T':Env} {hp hp':aE} {aps:List (Nat × Nat)} (tr:Tr P n all all T hp recs T' hp') (h:v7 all (gA all ls)=some aps) (hA:∀ p∈aps,jm (T' p.1) (T' p.2)) (hl:ls.length=recs.length)
    (hr:∀ (i x:Nat) (r:Rec),ls[i]?=some x→recs[i]?=some r→gH x r.rd r.wr r.call r.lo r.hi):oZ all recs:=by
  intro i k a b hik ha hb ho
  have hi:i < recs.length:=(List.getElem?_eq_some_iff.1 ha).1
  have hk:k < recs.length:=(List.getElem?_eq_some_iff.1 hb).1
  have la:=hr i _ a (List.getElem?_eq_getElem (by omega)) ha
  have lb:=hr k _ b (List.getElem?_eq_getElem (by omega)) hb
  have mi:(ls[i]'(by omega),i)∈ls.zipIdx:=by rw[List.mem_zipIdx_iff_getElem?]; simp[List.getElem?_eq_getElem (show i < ls.length by omega)]
  have mk:(ls[k]'(by omega),k)∈ls.zipIdx:=by rw[List.mem_zipIdx_iff_getElem?]; simp[List.getElem?_eq_getElem (show k < ls.length by omega)]
  by_cases h1:sL all (ls[i]'(by omega)) i (ls[k]'(by omega)) k=true
  · unfold sL at h1
    simp only[hik,decide_true,Bool.not_true,ho,Bool.false_or,Bool.or_eq_true,beq_iff_eq,Bool.and_eq_true,decide_eq_true_eq] at h1
    rcases h1 with ((h1 | h1) | h1) | h1
    · obtain ⟨e1,e2,e3,e4⟩:=la.1 h1
      exact ⟨fun id hid=>by simp[e2] at hid,fun id _=>by simp[e1],fun hc=>by simp[e3] at hc,fun _=>e2,fun id _ hx=>by omega⟩
    · obtain ⟨e1,e2,e3,e4⟩:=lb.1 h1
      exact ⟨fun id _=>by simp[e1],fun id hid=>by simp[e2] at hid,fun _=>e2,fun hc=>by simp[e3] at hc,fun id hid=>by simp[e2] at hid⟩
    · have e1:=la.2 h1.1
      have e2:=lb.2 h1.2
      exact ⟨fun id hid=>by simp[e1] at hid,fun id hid=>by simp[e2] at hid,fun _=>e2,fun _=>e1,fun id hid=>by simp[e2] at hid⟩
    · exact rF tr h1 ha hb
  · have hm:(i,k)∈gA all ls:=by
      unfold gA
      rw[List.mem_flatMap]
      refine ⟨_,mi,?_⟩
      rw[List.mem_filterMap]
      exact ⟨_,mk,by simp only; rw[if_neg h1]⟩
    obtain ⟨p,hp,e⟩:=Fu h (i,k) hm
    exact Fa tr e (hA p hp) ha hb
theorem yO {P:Program} {t:TypeId} {id:Nat} {q:V} {ok:Bool} {H1 H2:View} (h:H1 id=H2 id):dc P t (.mp id) q ok H1=dc P t (.mp id) q ok H2:=by
  unfold dc
  simp only[h]
theorem Dp {P:Program} {t:TypeId} {id:Nat} {q:V} {H1 H2:View} (h:H1 id=H2 id):cy P t (.mp id) q H1=cy P t (.mp id) q H2:=by
  cases hm:cL P t with
  | none=>simp only[cy,hm]
  | some x=>simp only[cy,hm,h]
theorem GL {P:Program} {t:TypeId} {id:Nat} {q:V} {H:View} {v:V} {aA:ba} {rd:List Nat} (h:dc P t (.mp id) q false H=some (v,aA,rd)):aA=.none∧rd=[id]:=by
  simp only[dc,Bool.false_eq_true,if_false] at h
  repeat' (first | (simp only[Option.some.injEq,Prod.mk.injEq] at h; exact ⟨h.2.1.symm,h.2.2.symm⟩) | (split at h) | (simp at h; done))
theorem Et {P:Program} {t:TypeId} {id:Nat} {q:V} {H:View} {v:V} {aA:ba} {rd:List Nat} (h:cy P t (.mp id) q H=some (v,aA,rd)):∃ obj,aA=.dw id obj:=by
  cases hm:cL P t with
  | none=>simp[cy,hm] at h
  | some x =>
    simp only[cy,hm] at h
    repeat' (first | (simp only[Option.some.injEq,Prod.mk.injEq] at h; exact ⟨_,h.2.1.symm⟩) | (split at h) | (simp at h; done))
theorem Ab {o:Oper} {T:Env} {h h':aE} {v:V} {rd wr:List Nat} {call:Bool} (st:cw P n all o T h v h' rd wr call) (hg:bW n all T o=some true) (hb:∀ e x,o.op≠.box e x) (hc:∀ s d x,o.op≠.convert s d x) (hl:∀ c,o.op≠.call c) :
    ∃ aA,bz P o T h.view h.length=some (v,aA,rd)∧h'=aA.apply h∧wr=aA.wr∧call=false:=by
  cases st with
  | skip hs=>rw[hg] at hs; simp at hs
  | op _ hop=>exact ⟨_,hop,rfl,rfl,rfl⟩
  | fg _ ho _=>exact absurd ho (hb _ _)
  | dH _ ho _ _ _ _=>exact absurd ho (hc _ _ _)
  | call _ ho _ _ _ _ _=>exact absurd ho (hl _)
theorem Ih {recs:List Rec} {Ts:Nat→Env} {hs:Nat→aE} {vs:Nat→V} (hst:uN P n all recs Ts hs vs) (hl:recs.length=all.length) {k:Nat} (hk:k≤all.length) (hw:∀ j r,j < k→recs[j]?=some r→r.wr=[]) :
    ∀ j,j≤k→(hs 0).length≤(hs j).length∧∀ id,id < (hs 0).length→(hs j).view id=(hs 0).view id:=by
  intro j
  induction j with
  | zero=>intro _; exact ⟨Nat.le_refl _,fun _ _=>rfl⟩
  | succ j ih =>
    intro hj
    obtain ⟨l1,l2⟩:=ih (by omega)
    obtain ⟨st,_,_,_,_⟩:=hst j all[j] (recs[j]'(by omega)) (List.getElem?_eq_getElem (by omega)) (List.getElem?_eq_getElem (by omega))
    refine ⟨Nat.le_trans l1 (oF st),fun id hid=>?_⟩
    rw[nf st (Nat.lt_of_lt_of_le hid l1) (by rw[hw j _ (by omega) (List.getElem?_eq_getElem (by omega))]; simp)]
    exact l2 id hid
theorem ld {recs:List Rec} {Ts:Nat→Env} {hs:Nat→aE} {vs:Nat→V} (hst:uN P n all recs Ts hs vs) (hl:recs.length=all.length) {i t:Nat} (h:stays all i t=true):∀ j,i≤j→j≤all.length→Ts j t=Ts i t:=by
  intro j hij hj
  refine tU (vs:=vs) (N:=all.length) (fun k o hk=>?_) rfl i j hij hj fun k o h1 h2 h3=>zY h o (by
    rw[List.mem_iff_getElem?]
    exact ⟨k - i,by rw[List.getElem?_drop,show i+(k - i)=k by omega]; exact h3⟩)
  have hk':k < all.length:=(List.getElem?_eq_some_iff.1 hk).1
  exact (hst k o (recs[k]'(by omega)) hk (List.getElem?_eq_getElem (by omega))).2.2.1
theorem zp {ls:List Nat} {recs:List Rec} {T T':Env} {hp hp':aE} {aps:List (Nat × Nat)} {tp:Option (Nat × Nat)} (tr:Tr P n all all T hp recs T' hp') (h:pE all (y7 all ls tp)=some aps) (hA:∀ p∈aps,jm (T' p.1) (T' p.2)) (hl:ls.length=recs.length)
    (hr:∀ (i x:Nat) (r:Rec),ls[i]?=some x→recs[i]?=some r→gH x r.rd r.wr r.call r.lo r.hi) (htol:∀ p,tp=some p→∃ tol,y9 all ls p.1 p.2=some tol∧Ad P tol.1 (T' tol.2.1) (T' tol.2.2) hp.view):DO P n all recs T T' hp:=by
  have main:∀ i k a b,i < k→recs[i]?=some a→recs[k]?=some b→ordered (dp all []) i k=false→tp≠some (i,k)→nU a b:=by
    intro i k a b hik ha hb ho hne
    have hi:i < recs.length:=(List.getElem?_eq_some_iff.1 ha).1
    have hk:k < recs.length:=(List.getElem?_eq_some_iff.1 hb).1
    have la:=hr i _ a (List.getElem?_eq_getElem (by omega)) ha
    have lb:=hr k _ b (List.getElem?_eq_getElem (by omega)) hb
    have mi:(ls[i]'(by omega),i)∈ls.zipIdx:=by rw[List.mem_zipIdx_iff_getElem?]; simp[List.getElem?_eq_getElem (show i < ls.length by omega)]
    have mk:(ls[k]'(by omega),k)∈ls.zipIdx:=by rw[List.mem_zipIdx_iff_getElem?]; simp[List.getElem?_eq_getElem (show k < ls.length by omega)]
    by_cases h1:sL all (ls[i]'(by omega)) i (ls[k]'(by omega)) k=true
    · unfold sL at h1
      simp only[hik,decide_true,Bool.not_true,ho,Bool.false_or,Bool.or_eq_true,beq_iff_eq,Bool.and_eq_true,decide_eq_true_eq] at h1
      rcases h1 with ((h1 | h1) | h1) | h1
      · obtain ⟨e1,e2,e3,e4⟩:=la.1 h1
        exact ⟨fun id hid=>by simp[e2] at hid,fun id _=>by simp[e1],fun hc=>by simp[e3] at hc,fun _=>e2,fun id _ hx=>by omega⟩
      · obtain ⟨e1,e2,e3,e4⟩:=lb.1 h1
        exact ⟨fun id _=>by simp[e1],fun id hid=>by simp[e2] at hid,fun _=>e2,fun hc=>by simp[e3] at hc,fun id hid=>by simp[e2] at hid⟩
      · have e1:=la.2 h1.1
        have e2:=lb.2 h1.2
        exact ⟨fun id hid=>by simp[e1] at hid,fun id hid=>by simp[e2] at hid,fun _=>e2,fun _=>e1,fun id hid=>by simp[e2] at hid⟩
      · exact rF tr h1 ha hb
    · have hm:(i,k)∈gA all ls:=by
        unfold gA
        rw[List.mem_flatMap]
        refine ⟨_,mi,?_⟩
        rw[List.mem_filterMap]
        exact ⟨_,mk,by simp only; rw[if_neg h1]⟩
      by_cases hn:newAt all k=true
      · unfold newAt at hn
        split at hn
        · rename_i ob hob
          obtain ⟨T1,h1',v,h2,rd,wr,call,recs2,e1,e2,_⟩:=tr.at_ k ob hob
          rw[hb] at e1
          have e1:=Option.some.inj e1
          subst e1
          obtain ⟨n1,n2,n3⟩:=G3 e2 hn
          exact ⟨fun id _=>by simp[n1],fun id hid=>by simp[n2] at hid,fun _=>n2,fun hc=>by simp[n3] at hc,fun id hid=>by simp[n2] at hid⟩
        · simp at hn
      · obtain ⟨p,hp,e⟩:=Dg h (i,k) (by
          unfold y7
          rw[List.mem_filter]
          refine ⟨hm,?_⟩
          simp only[Bool.and_eq_true,Bool.not_eq_true',bne_iff_ne,ne_eq]
          exact ⟨by simpa using hn,hne⟩)
        exact Dv tr e (hA p hp) ha hb
  cases tp with
  | none=>exact oZ.JJ fun i k a b h1 h2 h3 h4=>main i k a b h1 h2 h3 h4 (by simp)
  | some p =>
    obtain ⟨i0,k0⟩:=p
    obtain ⟨tol,hto,htv⟩:=htol _ rfl
    intro Ts hs vs eT0 eh0 eTN hrl hst i
    by_cases hi:i=i0
    · subst hi
      refine ⟨some k0,fun k a b h1 h2 h3 h4 h5=>main i k a b h1 h2 h3 h4 (fun e=>h5 (by simp at e; rw[e])),fun k a b o hk ha hb ho=>?_⟩
      simp at hk; subst hk
      unfold y9 at hto
      simp only at hto
      split at hto
      · rename_i oa ob hoa hob
        rw[ho] at hoa
        have hoa:=Option.some.inj hoa
        subst hoa
        split at hto
        · rename_i t m q t' m' q' hop1 hop2 hg1 hg2
          split at hto
          · rename_i hcond
            simp only[Bool.and_eq_true,beq_iff_eq,decide_eq_true_eq,List.all_eq_true,List.mem_range] at hcond
            obtain ⟨⟨⟨⟨⟨⟨⟨⟨rfl,rfl⟩,rfl⟩,s1⟩,s2⟩,s3⟩,s4⟩,hik⟩,hloud⟩:=hcond
            simp only[Option.some.injEq] at hto
            subst hto
            simp only at htv
            have hkl:k0 < all.length:=(List.getElem?_eq_some_iff.1 hob).1
            have hwr:∀ j r,j < k0→recs[j]?=some r→r.wr=[]:=fun j r hj hrj=>by
              have h1:=hloud j hj
              have hj':j < ls.length:=by omega
              rw[List.getD_eq_getElem?_getD,List.getElem?_eq_getElem hj'] at h1
              exact (hr j _ r (List.getElem?_eq_getElem hj') hrj).2 h1
            have hsame:=Ih hst hrl (Nat.le_of_lt hkl) hwr
            have em:∀ j,i≤j→j≤all.length→Ts j m=T' m:=fun j h1 h2=>by
              rw[← eTN,ld hst hrl s1 j h1 h2,ld hst hrl s1 all.length (by omega) (Nat.le_refl _)]
            have eq:∀ j,i≤j→j≤all.length→Ts j q=T' q:=fun j h1 h2=>by
              rw[← eTN,ld hst hrl s2 j h1 h2,ld hst hrl s2 all.length (by omega) (Nat.le_refl _)]
            obtain ⟨sti,_,_,hlo,hhi⟩:=hst i o a ho ha
            obtain ⟨stk,_,_,_,_⟩:=hst k0 ob b hob hb
            have gi:bW n all (Ts i) o=some true:=by unfold bW; rw[hg1]
            have gk:bW n all (Ts k0) ob=some true:=by unfold bW; rw[hg2]
            unfold Ad at htv
            split at htv
            · rename_i id hid
              obtain ⟨⟨es0,c0,hmap⟩,htv⟩:=htv
              have hidl:id < hp.length:=fE (by rw[hmap]; simp)
              have hvk:(hs k0).view id=hp.view id:=by rw[(hsame k0 (Nat.le_refl _)).2 id (by rw[eh0]; exact hidl),eh0]
              have hvi:(hs i).view id=hp.view id:=by rw[(hsame i (Nat.le_of_lt hik)).2 id (by rw[eh0]; exact hidl),eh0]
              obtain ⟨effi,hopi,hi',wri,cai⟩:=Ab sti gi (by rw[hop1]; simp) (by rw[hop1]; simp) (by rw[hop1]; simp)
              obtain ⟨effk,hopk,hk',wrk,cak⟩:=Ab stk gk (by rw[hop2]; simp) (by rw[hop2]; simp) (by rw[hop2]; simp)
              simp only[bz,hop1] at hopi
              simp only[bz,hop2] at hopk
              have e1:ev (Ts i) (.tmp m)=.mp id:=(em i (Nat.le_refl _) (by omega)).trans hid
              have e2:ev (Ts i) (.tmp q)=T' q:=eq i (Nat.le_refl _) (by omega)
              have e3:ev (Ts k0) (.tmp m)=.mp id:=(em k0 (by omega) (by omega)).trans hid
              have e4:ev (Ts k0) (.tmp q)=T' q:=eq k0 (by omega) (by omega)
              rw[e1,e2] at hopi
              rw[e3,e4,Dp hvk] at hopk
              obtain ⟨l1,l2⟩:=GL hopi
              obtain ⟨obj,l3⟩:=Et hopk
              subst l1 l3
              have hkb:(hs (k0+1)).view id=obj:=by
                rw[hk',gK (fun id' hid'=>by
                  simp only[ba.wr,List.mem_singleton] at hid'
                  subst hid'
                  rw[hvk,hmap]; simp)]
                simp[ba.view,View.set]
              refine ⟨hik,wri,cai,by rw[hlo,hhi,hi']; rfl,fun g hg hgv=>?_⟩
              have hidi:id < (hs i).length:=fE (by rw[hvi,hmap]; simp)
              have hgid:g.view id=(hp.view.set id obj) id:=by
                rw[hgv id hidi,wrk,if_pos (by simp[ba.wr]),hkb]
                simp[View.set]
              have hlk:=htv _ _ _ hopk
              have hfin:bz P o (Ts i) g.view g.length=some (vs i,.none,a.rd):=by
                simp only[bz,hop1]
                rw[e1,e2,yO hgid,hlk,← yO hvi]
                exact hopi
              exact .op gi hfin
            · exact htv.elim
          · simp at hto
        · simp at hto
      · simp at hto
    · exact ⟨none,fun k a b h1 h2 h3 h4 _=>main i k a b h1 h2 h3 h4 (fun e=>hi (by simp at e; exact e.1.symm)),fun k a b o h1=>by simp at h1⟩
theorem G2 (hm:P.follows .mixedOrders=true) {fz:Fz} {id:Nat} {ops:Array Oper} {sc:SC} {T:Env} {h:aE} {Q:Exit→Env→View→Prop} (hc:DH P n fz ops.toList=some sc) (hw:wS P sc T h.view Q) :
    ∃ e T' h',bX P n (.region id ops true) T h e T' h'∧(fv h h'∧h.length≤h'.length)∧Q e T' h'.view:=by
  unfold DH at hc
  split at hc
  · simp at hc
  · rename_i l hl
    split at hc
    · simp at hc
    · rename_i hok
      have hok:(group l).all oL=true:=by simpa using hok
      have hl':b9 P n ops.toList fz ops.toList=some (fZ (group l)):=by rw[dC]; exact hl
      split at hc
      · rename_i ht
        simp only[Option.map_eq_some_iff] at hc
        obtain ⟨aps,hap,rfl⟩:=hc
        obtain ⟨recs,T',h',tr,hst,hk,hro⟩:=tl (group l) ops.toList T h hl' hok hw
        rw[dC] at hro
        refine ⟨.normal,T',h',?_,hst,hk.rest⟩
        have hcf:oZ ops.toList recs:=GA tr hap (uJ hk) (by simpa using hro.1) (fun i x r hx hr=>by
          simp only[List.getElem?_map,Option.map_eq_some_iff] at hx
          obtain ⟨s,hs,rfl⟩:=hx
          exact hro.2 i s r hs hr)
        simpa using tg hm (id:=id) tr ht hcf
      · simp at hc
theorem Gg (hm:P.follows .mixedOrders=true) {fz:Fz} {id:Nat} {ops:Array Oper} {sc:SC} {T:Env} {h:aE} {Q:Exit→Env→View→Prop} (hc:Df P n fz ops.toList=some sc) (hw:wS P sc T h.view Q) :
    ∃ e T' h',bX P n (.region id ops true) T h e T' h'∧(fv h h'∧h.length≤h'.length)∧Q e T' h'.view:=by
  unfold Df at hc
  split at hc
  · simp at hc
  · rename_i l hl
    split at hc
    · simp at hc
    · rename_i hok
      have hok:(group l).all oL=true:=by simpa using hok
      have hl':b9 P n ops.toList fz ops.toList=some (fZ (group l)):=by rw[dC]; exact hl
      split at hc
      · rename_i ht
        split at hc
        · simp only[Option.map_eq_some_iff] at hc
          obtain ⟨aps,hap,rfl⟩:=hc
          obtain ⟨recs,T',h',tr,hst,hk,hro⟩:=tl (group l) ops.toList T h hl' hok hw
          rw[dC] at hro
          refine ⟨.normal,T',h',?_,hst,hk.rest⟩
          have hcf:=zp tr hap (uJ hk) (by simpa using hro.1) (fun i x r hx hr=>by
            simp only[List.getElem?_map,Option.map_eq_some_iff] at hx
            obtain ⟨s,hs,rfl⟩:=hx
            exact hro.2 i s r hs hr) (fun p hp=>by simp at hp)
          simpa using qJ hm (id:=id) tr ht hcf
        · rename_i p hp
          split at hc
          · rename_i tol hto
            simp only[Option.map_eq_some_iff] at hc
            obtain ⟨aps,hap,rfl⟩:=hc
            obtain ⟨recs,T',h',tr,hst,hk,hro⟩:=tl (group l) ops.toList T h hl' hok hw
            rw[dC] at hro
            refine ⟨.normal,T',h',?_,hst,hk.2.rest⟩
            have hcf:=zp tr hap (uJ hk.2) (by simpa using hro.1) (fun i x r hx hr=>by
              simp only[List.getElem?_map,Option.map_eq_some_iff] at hx
              obtain ⟨s,hs,rfl⟩:=hx
              exact hro.2 i s r hs hr) (fun p' hp'=>by
                simp only[Option.some.injEq] at hp'
                subst hp'
                exact ⟨tol,hto,hk.1⟩)
            simpa using qJ hm (id:=id) tr ht hcf
          · simp at hc
      · simp at hc
theorem rR (hm:P.follows .mixedOrders=true) {fz:Fz} {id:Nat} {ops:Array Oper} {draw quiet:Bool} {sc:SC} {T:Env} {h:aE} {Q:Exit→Env→View→Prop} (hc:tS P n fz ops.toList draw quiet=some sc) (hw:wS P sc T h.view Q) :
    ∃ e T' h',bX P n (.region id ops draw) T h e T' h'∧(fv h h'∧h.length≤h'.length)∧Q e T' h'.view:=by
  unfold tS at hc
  split at hc
  · simp at hc
  · rename_i l hl
    split at hc
    · simp at hc
    · rename_i hok
      have hok:(group l).all oL=true:=by simpa using hok
      have hl':b9 P n ops.toList fz ops.toList=some (fZ (group l)):=by rw[dC]; exact hl
      have key:se P quiet (group l) T h.view (Q .normal)→(draw=true→ir ops.toList=true∧y6 ops.toList (l.map fun s=>eS P quiet s.b)=true) →
          ∃ e T' h',bX P n (.region id ops draw) T h e T' h'∧(fv h h'∧h.length≤h'.length)∧Q e T' h'.view:=by
        intro hw hdr
        obtain ⟨recs,T',h',tr,hst,hk,hro⟩:=tl (group l) ops.toList T h hl' hok hw
        rw[dC] at hro
        refine ⟨.normal,T',h',?_,hst,hk⟩
        cases hd:draw with
        | false=>simpa using zD (id:=id) tr
        | true =>
          obtain ⟨h1,h2⟩:=hdr hd
          have hcf:oZ ops.toList recs:=G0 tr h2 (by simpa using hro.1) (fun i x r hx hr=>by
            simp only[List.getElem?_map,Option.map_eq_some_iff] at hx
            obtain ⟨s,hs,rfl⟩:=hx
            exact hro.2 i s r hs hr)
          simpa using tg hm (id:=id) tr h1 hcf
      split at hc
      · rename_i hd
        split at hc
        · rename_i ht
          simp at hc; subst hc
          exact key hw (fun _=>by simpa using ht)
        · simp at hc
      · rename_i hd
        simp at hc; subst hc
        exact key hw (fun e=>absurd e hd)
theorem jO {a b:Option SC} {sc:SC} (h:orElse' a b=some sc):a=some sc∨b=some sc:=by
  cases a with
  | none=>exact .inr h
  | some x=>exact .inl h
theorem Fl (hm:P.follows .mixedOrders=true) {fz:List Nat} {id:Nat} {ops:Array Oper} {draw:Bool} {sc:SC} {T:Env} {h:aE} {Q:Exit→Env→View→Prop} (hc:DV P n fz ops.toList draw=some sc) (hw:wS P sc T h.view Q) :
    ∃ e T' h',bX P n (.region id ops draw) T h e T' h'∧(fv h h'∧h.length≤h'.length)∧Q e T' h'.view:=by
  unfold DV at hc
  rcases jO hc with h1 | h1
  · exact rR hm h1 hw
  · clear hc
    split at h1
    · rename_i hd
      subst hd
      rcases jO h1 with h0 | h1
      · split at h0
        · exact Gg hm h0 hw
        · simp at h0
      rcases jO h1 with h2 | h2
      · exact G2 hm h2 hw
      · rcases jO h2 with h3 | h3
        · exact rR hm h3 hw
        · rcases jO h3 with h4 | h4
          · exact rR hm h4 hw
          · exact rR hm h4 hw
    · simp at h1
theorem x7 {e:Exit} {a b:Prop} (h:vI e a b):(e=.normal∧a)∨(e≠.normal∧b):=by
  cases e with
  | normal=>exact .inl ⟨rfl,h⟩
  | _=>exact .inr ⟨by simp,h⟩
theorem JD (hm:P.follows .mixedOrders=true) {fz:List Nat} : ∀ (c:Code) (sc:SC),eV P n fz c=some sc→∀ (T:Env) (h:aE) (Q:Exit→Env→View→Prop),wS P sc T h.view Q →
    ∃ e T' h',bX P n c T h e T' h'∧(fv h h'∧h.length≤h'.length)∧Q e T' h'.view:=by
  intro c
  induction c with
  | skip=>intro sc hc T h Q hw; simp[eV] at hc; subst hc; exact ⟨_,T,h,.skip,⟨.refl _,Nat.le_refl _⟩,hw⟩
  | region id ops draw=>intro sc hc T h Q hw; exact Fl hm hc hw
  | seq x y ihx ihy =>
    intro sc hc T h Q hw
    simp only[eV] at hc
    split at hc
    · rename_i a b h1 h2
      simp at hc; subst hc
      simp only[wS] at hw
      obtain ⟨e,T1,h1',hx,st1,hq⟩:=ihx a h1 T h _ hw
      rcases x7 hq with ⟨rfl,hq⟩ | ⟨hne,hq⟩
      · obtain ⟨e2,T2,h2',hy,st2,hq2⟩:=ihy b h2 T1 h1' _ hq
        exact ⟨e2,T2,h2',hx.seq hy,⟨st1.1.trans st2.1 st1.2,Nat.le_trans st1.2 st2.2⟩,hq2⟩
      · exact ⟨e,T1,h1',hx.BW hne,st1,hq⟩
    · simp at hc
  | cond c x y ihx ihy =>
    intro sc hc T h Q hw
    simp only[eV] at hc
    split at hc
    · rename_i a b h1 h2
      simp at hc; subst hc
      simp only[wS] at hw
      split at hw
      · rename_i t ht
        have hT:oA (SX.of c) t T=T:=by
          unfold oA
          split
          · rename_i k hk
            rw[hk] at ht
            exact uM ht
          · rfl
        rw[SX.bI] at ht
        cases t with
        | true =>
          have:=hw.1 rfl
          rw[hT] at this
          obtain ⟨e,T',h',hx,st,hq⟩:=ihx a h1 T h Q this
          exact ⟨e,T',h',.cond ht hx,st,hq⟩
        | false =>
          have:=hw.2 rfl
          rw[hT] at this
          obtain ⟨e,T',h',hx,st,hq⟩:=ihy b h2 T h Q this
          exact ⟨e,T',h',.cond ht hx,st,hq⟩
      · exact hw.elim
    · simp at hc
  | block id c ih =>
    intro sc hc T h Q hw
    simp only[eV,Option.map_eq_some_iff] at hc
    obtain ⟨a,h1,rfl⟩:=hc
    simp only[wS] at hw
    obtain ⟨e,T',h',hx,st,hq⟩:=ih a h1 T h _ hw
    exact ⟨_,T',h',hx.block,st,hq⟩
  | loop c ih =>
    intro sc hc T h Q hw
    simp only[eV,Option.map_eq_some_iff] at hc
    obtain ⟨a,h1,rfl⟩:=hc
    simp only[wS] at hw
    obtain ⟨I,⟨k,hk⟩,hstep⟩:=hw
    have go:∀ k T (h:aE),I k T h.view→∃ e T' h',lf P n c T h e T' h'∧(fv h h'∧h.length≤h'.length)∧Q e T' h'.view:=by
      intro k
      induction k using Nat.strongRecOn with
      | ind k ihk =>
        intro T h hI
        obtain ⟨e,T1,h1',hx,st1,hq⟩:=ih a h1 T h _ (hstep k T h.view hI)
        rcases x7 hq with ⟨rfl,k',hlt,hI'⟩ | ⟨hne,hq⟩
        · obtain ⟨e2,T2,h2',hy,st2,hq2⟩:=ihk k' hlt T1 h1' hI'
          exact ⟨e2,T2,h2',.step hx hy,⟨st1.1.trans st2.1 st1.2,Nat.le_trans st1.2 st2.2⟩,hq2⟩
        · exact ⟨e,T1,h1',.out hx hne,st1,hq⟩
    obtain ⟨e,T',h',hx,st,hq⟩:=go k T h hk
    exact ⟨e,T',h',.loop hx,st,hq⟩
  | exit id=>intro sc hc T h Q hw; simp[eV] at hc; subst hc; exact ⟨_,T,h,.exit,⟨.refl _,Nat.le_refl _⟩,hw⟩
  | ret=>intro sc hc T h Q hw; simp[eV] at hc; subst hc; exact ⟨_,T,h,.ret,⟨.refl _,Nat.le_refl _⟩,hw⟩
  | _=>intro sc hc; simp[eV] at hc
theorem Jm {T:Env} {h:aE} {r:ResultVar} {l:List SR} {rest:List ResultVar} (hc:dr P (r :: rest)=some l):∃ s l',l=s :: l'∧dr P rest=some l'∧∀ K:V→Prop,wR T h.view s K→∃ v,nC P T h r=some v∧K v:=by
  cases r with
  | tmp t =>
    simp only[dr,Option.map_eq_some_iff] at hc
    obtain ⟨l',h1,rfl⟩:=hc
    exact ⟨.tmp t,l',rfl,h1,fun K hk=>⟨_,rfl,hk⟩⟩
  | cell a t =>
    simp only[dr] at hc
    split at hc
    · rename_i k l' h1 h2
      simp at hc; subst hc
      refine ⟨.cell a k,l',rfl,h2,fun K hk=>?_⟩
      simp only[wR] at hk
      simp only[nC,iH,rB h1]
      split at hk
      · rename_i id i j ha
        split at hk
        · rename_i es hH
          obtain ⟨hlt,hk⟩:=hk
          obtain ⟨v,hv,hk⟩:=kL hk
          exact ⟨v,by rw[ha]; simp only[hH]; rw[if_pos hlt,hv]; rfl,hk⟩
        · exact hk.elim
      · rename_i e j ha
        obtain ⟨v,hv,hk⟩:=kL hk
        exact ⟨v,by rw[ha]; simp only; rw[hv]; rfl,hk⟩
      · exact hk.elim
    · simp at hc
theorem Er {T:Env} {h:aE} {K:List V→Prop} : ∀ (rs:List ResultVar) (l:List SR) (acc:List V),dr P rs=some l→wk T h.view l acc K→∃ vs,iu P T h rs=some vs∧K (acc ++ vs)
  | [],l,acc,hc,hw=>by simp[dr] at hc; subst hc; exact ⟨[],rfl,by simpa [wk] using hw⟩
  | r :: rest,l,acc,hc,hw=>by
    obtain ⟨s,l',rfl,h1,h2⟩:=Jm (T:=T) (h:=h) hc
    simp only[wk] at hw
    obtain ⟨v,hv,hk⟩:=h2 _ hw
    obtain ⟨vs,hvs,hk⟩:=Er rest l' (acc ++ [v]) h1 hk
    exact ⟨v :: vs,by simp[iu,hv,hvs],by simpa using hk⟩
def wF (P:Program) (F:SF) (vs:List V) (H:View) (K:V→View→Prop):Prop :=
  vs.length≤F.n∧wS P F.code (gT vs) H fun e T' H'=>(e=.ret∨e=.normal)∧wk T' H' F.res [] fun l=>K (ai l) H'
theorem aB.of (hm:P.follows .mixedOrders=true) {f:FuncId} {fz:List Nat} {F:SF} (hF:aR P f fz=some F) {vs:List V} {H:View} {K:V→View→Prop} (hw:wF P F vs H K):aB P f vs H K:=by
  unfold aR at hF
  split at hF
  · rename_i fn hfn
    split at hF
    · rename_i c hb
      split at hF
      · rename_i sc rs h1 h2 h3
        simp at hF; subst hF
        refine ⟨h3,?_⟩
        rintro h rfl
        obtain ⟨e,T',h',hx,st,he,hr⟩:=JD hm c sc h1 _ h _ hw.2
        obtain ⟨vs',hvs,hk⟩:=Er _ _ [] h2 hr
        refine ⟨ai vs',h',bL.Cj hfn hb hw.1 hx he ?_,st.1,by simpa using hk⟩
        unfold Du
        rw[hvs]
        cases vs' with
        | nil=>rfl
        | cons a l=>cases l <;> rfl
      · simp at hF
    · simp at hF
  · simp at hF
theorem aB.mono {f:FuncId} {vs:List V} {H:View} {K K':V→View→Prop} (h:aB P f vs H K) (hk:∀ r H',K r H'→K' r H'):aB P f vs H K' :=
  ⟨h.1,fun h0 e=>let ⟨r,h',a,s,b⟩:=h.2 h0 e; ⟨r,h',a,s,hk _ _ b⟩⟩
theorem aC.GK {f:FuncId} {vs:List V} {H:View} {t:V} {K:V→View→Prop} (h:aC P f vs t) (hok:bY P f=true) (hk:K t H):y8 P f vs H K :=
  ⟨hok,fun h0 e=>⟨t,h0,bL.gZ h h0,fun _ _=>rfl,e ▸ hk⟩⟩
theorem aB.GK {f:FuncId} {vs:List V} {H:View} {K:V→View→Prop} (h:aB P f vs H fun r H'=>(∀ id,H id≠.dead→H' id=H id)∧K r H'):y8 P f vs H K :=
  ⟨h.1,fun h0 e=>by
    obtain ⟨r,h',ha,st,hf,hk⟩:=h.2 h0 e
    refine ⟨r,h',ha,fun id hid=>?_,hk⟩
    by_cases hd:h0.view id=.dead
    · rw[hd]; exact st id hid hd
    · rw[← e] at hf; exact hf id hd⟩
end
end Gv
namespace Gv
open Go
inductive bP {α:Type} (x:α):Type where
  | mk
def df (s:ByteArray):List Int:=s.data.toList.map fun b=>(b.toNat:Int)
theorem cQ (s:ByteArray):s.size=(df s).length:=by rw[df,List.length_map,bsize]
def bo (P:Program) (c:SC) (T:Env) (H:View) (Q:Exit→Env→View→Prop) (_:bP (T,H,Q)):Prop:=wS P (.loop c) T H Q
def az (P:Program) (quiet:Bool) (f:FuncId) (vs:List V) (H:View) (K:V→View→Prop) (_:bP (H,K)):Prop :=
  if quiet then y8 P f vs H K else aB P f vs H K
def vL {α:Type} (v:α) (F:α→Prop) (_:bP F):Prop:=F v
def cu (v:V) (F:V→Prop) (_:bP F):Prop:=F v
def A4 (o:br) (F:br→Prop) (_:bP F):Prop:=F o
def lU {α:Type} (o:Option α) (F:Option α→Prop) (_:bP F):Prop:=F o
def an (b:Bool) (A B:Prop) (_:bP (A,B)):Prop:=(b=true→A)∧(b=false→B)
theorem JG {α:Type} (v:α) (F:α→Prop) (w:bP F):vL v F w=F v:=propext Iff.rfl
section
variable (F:V→Prop) (w:bP F)
theorem CT (v:Value):cu (.val v) F w=F (.val v):=propext Iff.rfl
theorem BO (k:Nat):cu (.emp k) F w=F (.emp k):=propext Iff.rfl
theorem B9:cu .dq F w=F .dq:=propext Iff.rfl
theorem BQ (es:List (List V)):cu (.aY es) F w=F (.aY es):=propext Iff.rfl
theorem Fj (a b c d:Nat):cu (.sl a b c d) F w=F (.sl a b c d):=propext Iff.rfl
theorem Cp (a b c:Nat):cu (.ptr a b c) F w=F (.ptr a b c):=propext Iff.rfl
theorem zQ (e:List V) (j:Nat):cu (.aJ e j) F w=F (.aJ e j):=propext Iff.rfl
theorem Fx (a:Nat):cu (.mp a) F w=F (.mp a):=propext Iff.rfl
theorem EJ (f:FuncId) (a b:List V):cu (.fn f a b) F w=F (.fn f a b):=propext Iff.rfl
theorem CQ (cs:List V):cu (.agg cs) F w=F (.agg cs):=propext Iff.rfl
theorem CD (cs:List V):cu (.bp cs) F w=F (.bp cs):=propext Iff.rfl
end
theorem Cn (F:br→Prop) (w:bP F) (k:Nat) (es:List (List V)):A4 (.arr k es) F w=F (.arr k es):=propext Iff.rfl
theorem C0 (F:br→Prop) (w:bP F) (es:List (V × V × Nat)) (k:Nat):A4 (.map es k) F w=F (.map es k):=propext Iff.rfl
theorem Av {α:Type} (F:Option α→Prop) (w:bP F) (x:α):lU (some x) F w=F (some x):=propext Iff.rfl
theorem AX (A B:Prop) (w:bP (A,B)):an true A B w=A:=by simp[an]
theorem yx (A B:Prop) (w:bP (A,B)):an false A B w=B:=by simp[an]
theorem CR (b:Bool) (A B:Prop) (w:bP (A,B)):an (!b) A B w=an b B A .mk:=by cases b <;> simp[an]
theorem an.split {b:Bool} {A B:Prop} {w:bP (A,B)} (h1:b=true→A) (h2:b=false→B):an b A B w:=⟨h1,h2⟩
theorem an.dec {p:Prop} [Decidable p] {A B:Prop} {w:bP (A,B)} (h1:p→A) (h2:¬ p→B):an (decide p) A B w:=⟨fun h=>h1 (by simpa using h),fun h=>h2 (by simpa using h)⟩
theorem an.eq {a b:Int} {A B:Prop} {w:bP (A,B)} (h1:a=b→A) (h2:¬ a=b→B):an (a == b) A B w:=⟨fun h=>h1 (by simpa using h),fun h=>h2 (by simpa using h)⟩
theorem an.ne {a b:Int} {A B:Prop} {w:bP (A,B)} (h1:¬ a=b→A) (h2:a=b→B):an (a != b) A B w:=⟨fun h=>h1 (by simpa using h),fun h=>h2 (by simpa using h)⟩
section
variable (P:Program) (T:Env) (H:View)
theorem HD (F:SF) (vs:List V) (K:V→View→Prop):wF P F vs H K=(vs.length≤F.n∧wS P F.code (gT vs) H fun e T' H'=>(e=.ret∨e=.normal)∧wk T' H' F.res [] fun l=>vL (ai l) (fun v=>K v H') .mk):=propext Iff.rfl
theorem B3 (Q:Exit→Env→View→Prop):wS P .skip T H Q=Q .normal T H:=propext Iff.rfl
theorem xR (q:Bool) (gs:List SG) (Q:Exit→Env→View→Prop):wS P (.region q gs) T H Q=se P q gs T H (Q .normal):=propext Iff.rfl
theorem vP (aps:List (Nat × Nat)) (gs:List SG) (Q:Exit→Env→View→Prop):wS P (.np aps gs) T H Q=se P false gs T H (fun T' H'=>sV aps T' (Q .normal T' H')):=propext Iff.rfl
theorem wY (tol:Nat × Nat × Nat) (aps:List (Nat × Nat)) (gs:List SG) (Q:Exit→Env→View→Prop):wS P (.tL tol aps gs) T H Q=se P false gs T H (fun T' H'=>Ad P tol.1 (T' tol.2.1) (T' tol.2.2) H∧sV aps T' (Q .normal T' H')):=propext Iff.rfl
theorem CA (K:Prop):sV [] T K=K:=propext Iff.rfl
theorem zI (a b:Nat) (l:List (Nat × Nat)) (K:Prop):sV ((a,b) :: l) T K=(jm (T a) (T b)∧sV l T K):=propext Iff.rfl
theorem CU (i j k i' j' k':Nat):jm (.ptr i j k) (.ptr i' j' k')=(i≠i'):=propext Iff.rfl
theorem Cs (i j k a b c d:Nat):jm (.ptr i j k) (.sl a b c d)=(i≠a):=propext Iff.rfl
theorem zi (i j k e:Nat):jm (.ptr i j k) (.emp e)=True:=id rfl
theorem zJ (i j k:Nat):jm (.ptr i j k) .dq=True:=id rfl
theorem AS (i j k:Nat) (es:List (List V)):jm (.ptr i j k) (.aY es)=True:=id rfl
theorem AE (e:List V) (j:Nat) (v:V):jm (.aJ e j) v=True:=by cases v <;> rfl
theorem Ew (x y:SC) (Q:Exit→Env→View→Prop):wS P (.seq x y) T H Q=wS P x T H fun e T' H'=>vI e (wS P y T' H' Q) (Q e T' H'):=propext Iff.rfl
theorem BN (c:SX) (x y:SC) (Q:Exit→Env→View→Prop):wS P (.cond c x y) T H Q=cu (c.at T) (fun v=>match v with
    | .val (.bool b)=>an b (wS P x (oA c true T) H Q) (wS P y (oA c false T) H Q) .mk
    | _=>False) .mk:=propext Iff.rfl
theorem AO (id:Nat) (c:SC) (Q:Exit→Env→View→Prop):wS P (.block id c) T H Q=wS P c T H fun e=>Q (m3 id e):=propext Iff.rfl
theorem CI (id:Nat) (Q:Exit→Env→View→Prop):wS P (.exit id) T H Q=Q (.exit id) T H:=propext Iff.rfl
theorem Ff (Q:Exit→Env→View→Prop):wS P .ret T H Q=Q .ret T H:=propext Iff.rfl
theorem BL (c:SC) (Q:Exit→Env→View→Prop):wS P (.loop c) T H Q=bo P c T H Q .mk:=propext Iff.rfl
theorem CS (q:Bool) (K:Env→View→Prop):se P q [] T H K=K T H:=propext Iff.rfl
theorem AT (q:Bool) (g:SG) (r:List SG) (K:Env→View→Prop):se P q (g :: r) T H K=wG P q g T H fun T' H'=>se P q r T' H' K:=propext Iff.rfl
theorem CX (q:Bool) (ops:List (Option Nat × SB)) (K:Env→View→Prop):wG P q ⟨none,ops⟩ T H K=s6 P q ops T H K:=propext Iff.rfl
theorem BR (q:Bool) (d:Nat) (ops:List (Option Nat × SB)) (K:Env→View→Prop):wG P q ⟨some (d,true),ops⟩ T H K=cu (T d) (fun v=>match v with
    | .val (.bool b)=>an b (s6 P q ops (T.put (some d) (.val (.bool true))) H K) (K (eF ops (T.put (some d) (.val (.bool false)))) H) .mk
    | .bp []=>K (eF ops T) H
    | _=>False) .mk:=propext Iff.rfl
theorem zV (q:Bool) (d:Nat) (ops:List (Option Nat × SB)) (K:Env→View→Prop):wG P q ⟨some (d,false),ops⟩ T H K=cu (T d) (fun v=>match v with
    | .val (.bool b)=>an b (K (eF ops (T.put (some d) (.val (.bool true)))) H) (s6 P q ops (T.put (some d) (.val (.bool false))) H K) .mk
    | .bp []=>K (eF ops T) H
    | _=>False) .mk:=by
  simp only[wG,cu]
  generalize T d=v
  cases v with
  | val x=>cases x <;> simp[an,and_comm]
  | bp l=>cases l <;> simp
  | _=>simp
theorem ud:eF [] T=T:=id rfl
theorem sS (d:Option Nat) (b:SB) (r:List (Option Nat × SB)):eF ((d,b) :: r) T=eF r (T.put d (.bp [])):=id rfl
theorem CC (q:Bool) (K:Env→View→Prop):s6 P q [] T H K=K T H:=propext Iff.rfl
theorem zN (q:Bool) (d:Option Nat) (b:SB) (r:List (Option Nat × SB)) (K:Env→View→Prop):s6 P q ((d,b) :: r) T H K=wB P q b T H fun v H'=>vL v (fun v'=>s6 P q r (T.put d v') H' K) .mk:=propext Iff.rfl
theorem Hz (q:Bool) (s:SI) (K:V→View→Prop):wB P q (.op s) T H K=wI P s T H K:=propext Iff.rfl
theorem Cf (q:Bool) (f:SX) (args:List SX) (K:V→View→Prop):wB P q (.call f args) T H K=cu (f.at T) (fun v=>match v with
    | .fn g first cap=>az P q g (first ++ args.map (SX.at T) ++ cap) H K .mk
    | _=>False) .mk:=propext Iff.rfl
theorem D9 (x:SX) (K:V→View→Prop):wI P (.bg x) T H K=K (x.at T) H:=propext Iff.rfl
theorem CE (c a b:SX) (K:V→View→Prop):wI P (.pick c a b) T H K=cu (c.at T) (fun v=>match v with
    | .val (.bool t)=>an t (K (a.at T) H) (K (b.at T) H) .mk
    | _=>False) .mk:=by
  simp only[wI,cu]
  generalize c.at T=v
  cases v with
  | val x =>
    cases x with
    | bool t=>cases t <;> simp[an]
    | _=>simp
  | _=>simp
theorem Ft (x:SX) (K:V→View→Prop):wI P (.box x) T H K=cu (x.at T) (fun v=>v.cells.all aN=true∧vL v.cells (fun cs=>∀ n,H n=.dead→K (.ptr n 0 0) (H.set n (.arr cs.length [cs]))) .mk) .mk:=propext Iff.rfl
theorem En (x:SX) (K:V→View→Prop):wI P (.fg x) T H K=cu (x.at T) (fun v=>v.cells.all aN=true∧vL v.cells (fun cs=>K (.aJ cs 0) H) .mk) .mk:=propext Iff.rfl
theorem Aw (z:List V) (K:V→View→Prop):wI P (.alloc z) T H K=(z.all aN=true∧∀ n,H n=.dead→K (.ptr n 0 0) (H.set n (.arr z.length [z]))):=propext Iff.rfl
theorem CG (sz:Option Nat) (a:SX) (K:V→View→Prop):wI P (.load sz a) T H K=cu (a.at T) (fun v=>match v with
    | .ptr id i j=>A4 (H id) (fun o=>match o with
      | .arr _ es=>i < es.length∧vL (es.getD i []) (fun e=>fk sz e j fun v=>K v H) .mk
      | _=>False) .mk
    | .aJ e j=>fk sz e j fun v=>K v H
    | _=>False) .mk:=propext Iff.rfl
theorem Ag (sz:Option Nat) (a:SX) (K:V→View→Prop):wI P (.tY sz a) T H K=cu (a.at T) (fun v=>match v with
    | .aJ e j=>fk sz e j fun v=>K v H
    | _=>False) .mk:=propext Iff.rfl
theorem Af (sz:Nat) (a x:SX) (K:V→View→Prop):wI P (.store sz a x) T H K=cu (a.at T) (fun v=>match v with
    | .ptr id i j=>A4 (H id) (fun o=>match o with
      | .arr esz es=>vL (x.at T).cells (fun cs=>(i < es.length∧cs.length=sz∧j+cs.length≤esz∧cs.all aN=true) ∧
          vL (es.set i (ae (es.getD i []) j cs)) (fun es'=>K .any (H.set id (.arr esz es'))) .mk) .mk
      | _=>False) .mk
    | _=>False) .mk:=propext Iff.rfl
theorem B6 (x:SX) (K:V→View→Prop):wI P (.uS x) T H K=cu (x.at T) (fun v=>match v with
    | .ptr id i j=>K (.ptr id i j) H
    | .aJ e j=>K (.aJ e j) H
    | .fn f a b=>K (.fn f a b) H
    | _=>False) .mk:=propext Iff.rfl
theorem Ca (off:Nat) (x:SX) (K:V→View→Prop):wI P (.addr off x) T H K=cu (x.at T) (fun v=>match v with
    | .ptr id i j=>K (.ptr id i (j+off)) H
    | .aJ e j=>K (.aJ e (j+off)) H
    | _=>False) .mk:=propext Iff.rfl
theorem zS (off:Nat) (sz:Option Nat) (x:SX) (K:V→View→Prop):wI P (.field off sz x) T H K=cu (x.at T) (fun v=>match v with
    | .agg cs=>fk sz cs off fun v=>K v H
    | _=>False) .mk:=propext Iff.rfl
theorem FK (sz:Nat) (x i:SX) (K:V→View→Prop):wI P (.idx sz x i) T H K=lU (asNat (i.at T)) (fun o=>match o with
    | none=>False
    | some q=>cu (x.at T) (fun v=>match v with
      | .sl id off len esz=>(q < len∧esz=sz)∧K (.ptr id (off+q) 0) H
      | .aY es=>lU es[q]? (fun o=>match o with
        | some e=>e.length=sz∧K (.aJ e 0) H
        | none=>False) .mk
      | _=>False) .mk) .mk:=by
  simp only[wI,lU,cu]
  cases asNat (i.at T) with
  | none=>rfl
  | some q =>
    simp only
    cases x.at T with
    | aY es =>
      simp only
      cases h:es[q]? with
      | none=>simp
      | some e=>simp
    | _=>rfl
theorem B2 (f:FuncId) (first cap:List SX) (K:V→View→Prop):wI P (.q9 f first cap) T H K=K (.fn f (first.map (SX.at T)) (cap.map (SX.at T))) H:=propext Iff.rfl
theorem As (K:V→View→Prop):wI P .qF T H K=(∀ n,H n=.dead→K (.mp n) (H.set n (.map [] 0))):=propext Iff.rfl
theorem F6 (i:Nat) (x:SX) (K:V→View→Prop):wI P (.ext i x) T H K=cu (x.at T) (fun v=>match v with
    | .bp vs=>i < vs.length∧K (vs.getD i .any) H
    | _=>False) .mk:=propext Iff.rfl
theorem ED (x:SX) (K:V→View→Prop):wI P (.len x) T H K=lU (dK (x.at T)) (fun o=>match o with
    | some n=>K (ak n) H
    | none=>False) .mk:=propext Iff.rfl
theorem BV (x:SX) (K:V→View→Prop):wI P (.eO x) T H K=cu (x.at T) (fun v=>match v with
    | .val (.string s)=>K (ak s.size) H
    | _=>False) .mk:=propext Iff.rfl
theorem AN (op:BinOp) (x y:SX) (K:V→View→Prop):wI P (.arith op x y) T H K=cu (x.at T) (fun v=>cu (y.at T) (fun v'=>match v,v' with
    | .val (.int k a),.val (.int k' b)=>k=k'∧lU (ah op k a b) (fun o=>match o with | some v=>K (.val v) H | none=>False) .mk
    | _,_=>False) .mk) .mk:=propext Iff.rfl
theorem HF (l:Bool) (x y:SX) (K:V→View→Prop):wI P (.sh l x y) T H K=cu (x.at T) (fun v=>cu (y.at T) (fun v'=>match v,v' with
    | .val (.int k a),.val (.int _ b)=>0≤b∧K (.val (.int k (Dt l k a b))) H
    | _,_=>False) .mk) .mk:=propext Iff.rfl
theorem Fi (op:BinOp) (x y:SX) (K:V→View→Prop):wI P (.fO op x y) T H K=cu (x.at T) (fun v=>cu (y.at T) (fun v'=>match v,v' with
    | .val (.string a),.val (.string b)=>(match op with
      | .eql=>K (.val (.bool (fo a b))) H
      | .neq=>K (.val (.bool (!fo a b))) H
      | _=>False)
    | _,_=>False) .mk) .mk:=propext Iff.rfl
theorem CF (x i:SX) (K:V→View→Prop):wI P (.ct x i) T H K=cu (x.at T) (fun v=>lU (asNat (i.at T)) (fun o=>match v,o with
    | .val (.string s),some q=>lU (df s)[q]? (fun o=>match o with
      | some c=>K (.val (.int .u8 c)) H
      | none=>False) .mk
    | _,_=>False) .mk) .mk:=by
  simp only[wI,lU,cu]
  generalize x.at T=v
  generalize asNat (i.at T)=o
  cases v with
  | val u =>
    cases u with
    | string s =>
      cases o with
      | none=>rfl
      | some q =>
        simp only[df,List.getElem?_map]
        cases h:s.data.toList[q]? with
        | none=>simp
        | some e=>simp
    | _=>rfl
  | _=>rfl
theorem FD (x:SX) (K:V→View→Prop):wI P (.not x) T H K=cu (x.at T) (fun v=>match v with
    | .val (.bool t)=>K (.val (.bool (!t))) H
    | _=>False) .mk:=propext Iff.rfl
theorem Fc (eq:Bool) (k:Nat) (x y:SX) (K:V→View→Prop):wI P (.nil eq k x y) T H K=lU (aj (isNil k (x.at T)) (isNil k (y.at T))) (fun o=>match o with
    | some b=>K (.val (.bool (if eq=true then b else !b))) H
    | none=>False) .mk:=propext Iff.rfl
theorem C2 (x y:SX) (K:V→View→Prop):wI P (.beq true x y) T H K=cu (x.at T) (fun v=>cu (y.at T) (fun v'=>match v,v' with
    | .val (.bool a),.val (.bool b)=>K (.val (.bool (a == b))) H
    | _,_=>False) .mk) .mk:=propext Iff.rfl
theorem Cg (x y:SX) (K:V→View→Prop):wI P (.beq false x y) T H K=cu (x.at T) (fun v=>cu (y.at T) (fun v'=>match v,v' with
    | .val (.bool a),.val (.bool b)=>K (.val (.bool (a != b))) H
    | _,_=>False) .mk) .mk:=propext Iff.rfl
theorem FG (x y:SX) (K:V→View→Prop):wI P (.mm true x y) T H K=cu (x.at T) (fun v=>cu (y.at T) (fun v'=>match v,v' with
    | .val (.int k a),.val (.int _ b)=>K (.val (.int k (if b > a then b else a))) H
    | _,_=>False) .mk) .mk:=propext Iff.rfl
theorem EG (x y:SX) (K:V→View→Prop):wI P (.mm false x y) T H K=cu (x.at T) (fun v=>cu (y.at T) (fun v'=>match v,v' with
    | .val (.int k a),.val (.int _ b)=>K (.val (.int k (if b < a then b else a))) H
    | _,_=>False) .mk) .mk:=propext Iff.rfl
theorem Cc (k:IntKind) (x:SX) (K:V→View→Prop):wI P (.conv k x) T H K=cu (x.at T) (fun v=>match v with
    | .val (.int _ a)=>K (.val (.int k (k.wrap a))) H
    | _=>False) .mk:=propext Iff.rfl
theorem Ak (n k:Nat) (o:br):View.set H n o k=if k=n then o else H k:=id rfl
theorem A2 (z:List V) (parts:List (Nat × Nat × SX)) (K:V→View→Prop):wI P (.build z parts) T H K=lU (af z (parts.map fun p=>(p.1,p.2.1,p.2.2.at T))) (fun o=>match o with
    | some cs=>K (.agg cs) H
    | none=>False) .mk:=propext Iff.rfl
theorem yr (len sz:Nat) (z:List V) (parts:List (Nat × SX)) (K:V→View→Prop):wI P (.bu len sz z parts) T H K=lU (ag sz (List.replicate len z) (parts.map fun p=>(p.1,p.2.at T))) (fun o=>match o with
    | some es=>∀ n,H n=.dead→K (.sl n 0 len sz) (H.set n (.arr sz es))
    | none=>False) .mk:=propext Iff.rfl
theorem zA (sz:Nat) (x:SX) (lo hi:Option SX) (K:V→View→Prop):wI P (.slice sz x lo hi) T H K=lU (pQ sz (x.at T) (lo.map (SX.at T)) (hi.map (SX.at T))) (fun o=>match o with
    | some (v,.none,_)=>K v H
    | _=>False) .mk:=propext Iff.rfl
theorem Cd (sz bytes:Nat) (z:List V) (l c:SX) (K:V→View→Prop):wI P (.make sz bytes z l c) T H K=lU (asNat (l.at T)) (fun a=>lU (asNat (c.at T)) (fun b=>match a,b with
    | some l,some c=>(l≤c∧c < aM∧bytes * c < aM)∧(c=0→K (.emp 2) H)∧(c≠0→∀ n,H n=.dead→K (.sl n 0 l sz) (H.set n (.arr sz (List.replicate l z))))
    | _,_=>False) .mk) .mk:=propext Iff.rfl
def nj (sz bytes:Nat) (x:V) (xs:List (List V)) (H:View) (K:V→View→Prop) (_:bP (H,K)):Prop:=if xs.isEmpty=true then (match x with
        | .emp k=>K (.emp k) H
        | .dq=>K .dq H
        | .aY es=>K (.aY es) H
        | .sl a b c d=>K (.sl a b c d) H
        | _=>False)
      else (xs.all fun e=>e.length == sz && e.all aN)=true∧(match x with
        | .emp _=>(xs.length * bytes < aM∧xs.length < aM)∧∀ n,H n=.dead→K (.sl n 0 xs.length sz) (H.set n (.arr sz xs))
        | .sl id off len esz=>match H id with
          | .arr _ es=>(off+len≤es.length∧esz=sz∧(len+xs.length) * bytes < aM∧len+xs.length < aM) ∧
              ∀ n,H n=.dead→K (.sl n 0 (len+xs.length) esz) ((H.set id .dead).set n (.arr esz ((es.drop off).take len ++ xs)))
          | _=>False
        | _=>False)
theorem EZ (sz bytes:Nat) (x y:SX) (K:V→View→Prop):wI P (.app sz bytes x y) T H K=lU (bD H (y.at T)) (fun o=>match o with
    | some (xs,_)=>nj sz bytes (x.at T) xs H K .mk
    | none=>False) .mk:=propext Iff.rfl
theorem tA (sz bytes k:Nat) (xs:List (List V)) (K:V→View→Prop) (w:bP (H,K)) (h0:xs.isEmpty=false):nj sz bytes (.emp k) xs H K w=((xs.all fun e=>e.length == sz && e.all aN)=true∧(xs.length * bytes < aM∧xs.length < aM)∧∀ n,H n=.dead→K (.sl n 0 xs.length sz) (H.set n (.arr sz xs))):=by
  unfold nj; rw[if_neg (by rw[h0]; simp)]
theorem vA (sz bytes id off len esz:Nat) (xs:List (List V)) (K:V→View→Prop) (w:bP (H,K)) (h0:xs.isEmpty=false):nj sz bytes (.sl id off len esz) xs H K w=((xs.all fun e=>e.length == sz && e.all aN)=true∧A4 (H id) (fun o=>match o with
          | .arr _ es=>(off+len≤es.length∧esz=sz∧(len+xs.length) * bytes < aM∧len+xs.length < aM) ∧
              ∀ n,H n=.dead→K (.sl n 0 (len+xs.length) esz) ((H.set id .dead).set n (.arr esz ((es.drop off).take len ++ xs)))
          | _=>False) .mk):=by
  unfold nj A4; rw[if_neg (by rw[h0]; simp)]
theorem rz (id off len esz z:Nat) (es:List (List V)) (hH:H id=.arr z es) (hl:off+(len+1)≤es.length):bD H (.sl id off (len+1) esz)=some ((es.drop off).take (len+1),[id]):=by
  simp only[bD,hH]; rw[if_pos hl]
theorem uw (es:List (List V)):bD H (.aY es)=some (es,[]):=id rfl
theorem pw (k:Nat):bD H (.emp k)=some ([],[]):=id rfl
theorem Ct (x:SX) (K:V→View→Prop):wI P (.xz x) T H K=cu (x.at T) (fun v=>match v with
    | .aY es=>lU (lz es) (fun o=>match o with
      | some l=>K (.val (.string ⟨l.toArray⟩)) H
      | none=>False) .mk
    | _=>False) .mk:=propext Iff.rfl
theorem CV (x:SX) (K:V→View→Prop):wI P (.dH x) T H K=cu (x.at T) (fun v=>match v with
    | .val (.string s)=>K (.aY (dL s)) H
    | _=>False) .mk:=propext Iff.rfl
def mW (P:Program) (op:Op) (ty:TypeId) (T:Env) (H:View) (K:V→View→Prop) (_:bP (T,H,K)):Prop:=wI P (.bc op ty) T H K
theorem FO (op:Op) (ty:TypeId) (K:V→View→Prop):wI P (.bc op ty) T H K=mW P op ty T H K .mk:=propext Iff.rfl
theorem F4 (t:Nat):ev T (.tmp t)=T t:=id rfl
theorem AZ (v:Value):ev T (.const v)=dP v:=id rfl
theorem E2 (t:Nat):(SX.tmp t).at T=T t:=id rfl
theorem EE (v:V):(SX.val v).at T=v:=id rfl
theorem CO (d t:Nat) (v:V):(T.put (some d) v) t=if t=d then v else T t:=id rfl
theorem Ay (v:V):T.put none v=T:=id rfl
theorem AP (vs:List V) (t:Nat):gT vs t=vs.getD t .any:=id rfl
theorem vW (e:List V) (j:Nat) (K:V→Prop):fk none e j K=(j < e.length∧K (e.getD j .any)):=propext Iff.rfl
theorem vD (n:Nat) (e:List V) (j:Nat) (K:V→Prop):fk (some n) e j K=(j+n≤e.length∧K (.agg ((e.drop j).take n))):=propext Iff.rfl
theorem vG (a b:Prop):vI .normal a b=a:=propext Iff.rfl
theorem AI (i:Nat) (a b:Prop):vI (.exit i) a b=b:=propext Iff.rfl
theorem CB (a b:Prop):vI .ret a b=b:=propext Iff.rfl
theorem sE (i:Nat):m3 i .normal=.normal:=id rfl
theorem xT (i:Nat):m3 i .ret=.ret:=id rfl
theorem vR (i j:Nat):m3 i (.exit j)=if j=i then .normal else .exit j:=by simp only[m3]
theorem C4 (acc:List V) (K:List V→Prop):wk T H [] acc K=K acc:=propext Iff.rfl
theorem zF (r:SR) (l:List SR) (acc:List V) (K:List V→Prop):wk T H (r :: l) acc K=wR T H r fun v=>wk T H l (acc ++ [v]) K:=propext Iff.rfl
theorem Ea (t:Nat) (K:V→Prop):wR T H (.tmp t) K=K (T t):=propext Iff.rfl
theorem Ci (t:Nat) (sz:Option Nat) (K:V→Prop):wR T H (.cell t sz) K=cu (T t) (fun v=>match v with
    | .ptr id i j=>A4 (H id) (fun o=>match o with
      | .arr _ es=>i < es.length∧vL (es.getD i []) (fun e=>fk sz e j K) .mk
      | _=>False) .mk
    | .aJ e j=>fk sz e j K
    | _=>False) .mk:=propext Iff.rfl
theorem yh (t:Nat) (b:Bool):oA (.tmp t) b T=T.put (some t) (.val (.bool b)):=id rfl
theorem yC (v:V) (b:Bool):oA (.val v) b T=T:=id rfl
theorem Eb:(Exit.ret=Exit.ret∨Exit.ret=Exit.normal)=True:=by simp
theorem yp:(Exit.normal=Exit.ret∨Exit.normal=Exit.normal)=True:=by simp
end
section
variable {P:Program} {T:Env} {H:View}
theorem bo.intro {c:SC} {Q:Exit→Env→View→Prop} {v:bP (T,H,Q)} (I:Nat→Env→View→Prop) (k:Nat) (h0:I k T H)
    (hs:∀ k T H,I k T H→wS P c T H fun e T' H'=>vI e (∃ k',k' < k∧I k' T' H') (Q e T' H')):bo P c T H Q v:=by
  simp only[bo,wS]
  exact ⟨I,⟨k,h0⟩,hs⟩
theorem az.pure {q:Bool} {f:FuncId} {vs:List V} {K:V→View→Prop} {v:bP (H,K)} {t:V} (hc:aC P f vs t) (hok:bY P f=true) (hk:K t H):az P q f vs H K v:=by
  unfold az
  cases q with
  | true=>exact hc.GK hok hk
  | false =>
    refine ⟨hok,?_⟩
    rintro h rfl
    exact ⟨t,h,bL.gZ hc h,.refl _,hk⟩
theorem az.dg {f:FuncId} {vs:List V} {K:V→View→Prop} {v:bP (H,K)} (hc:aB P f vs H K):az P false f vs H K v:=hc
theorem yk:aE.view []=fun _=>br.dead:=by funext id; simp[aE.view]
theorem aC.of {f:FuncId} {vs:List V} {t:V} (ht:∀ v∈vs,Tree v) (h:aB P f vs (fun _=>.dead) fun r H'=>∀ h':aE,h'.view=H'→Fr h' r t):aC P f vs t:=by
  obtain ⟨r,h',ha,_,hf⟩:=h.2 [] yk
  exact aC.qY ht ha (hf h' rfl)
theorem wrap64 {x:Int} (h1 : -9223372036854775808≤x) (h2:x≤9223372036854775807):IntKind.wrap .i64 x=x:=by
  unfold IntKind.wrap
  have e1:(2:Int) ^ IntKind.i64.bits=18446744073709551616:=by rfl
  have e2:(2:Int) ^ (IntKind.i64.bits - 1)=9223372036854775808:=by rfl
  have e3:IntKind.i64.signed=true:=by rfl
  simp only[e1,e2,e3,Bool.true_and,decide_eq_true_eq]
  split <;> omega
theorem yw {k:IntKind} {i:Int} (h:0≤i):asNat (.val (.int k i))=some i.toNat:=by simp[asNat,h]
end
theorem yJ (v:Value):V.cells (.val v)=[.val v]:=id rfl
theorem w6 (v:Value):aN (.val v)=true:=id rfl
theorem yA (k:Nat):V.cells (.emp k)=[.emp k]:=id rfl
theorem Cy (k:Nat):aN (.emp k)=true:=id rfl
theorem yj  : V.cells .dq=[.dq]:=id rfl
theorem CW  : aN .dq=true:=id rfl
theorem yR (es:List (List V)):V.cells (.aY es)=[.aY es]:=id rfl
theorem CY (es:List (List V)):aN (.aY es)=true:=id rfl
theorem AG (a b c d:Nat):V.cells (.sl a b c d)=[.sl a b c d]:=id rfl
theorem E1 (a b c d:Nat):aN (.sl a b c d)=true:=id rfl
theorem yo (a b c:Nat):V.cells (.ptr a b c)=[.ptr a b c]:=id rfl
theorem CH (a b c:Nat):aN (.ptr a b c)=true:=id rfl
theorem wo (e:List V) (j:Nat):V.cells (.aJ e j)=[.aJ e j]:=id rfl
theorem AW (e:List V) (j:Nat):aN (.aJ e j)=true:=id rfl
theorem Bj (a:Nat):V.cells (.mp a)=[.mp a]:=id rfl
theorem Gc (a:Nat):aN (.mp a)=true:=id rfl
theorem AR (f:FuncId) (a b:List V):V.cells (.fn f a b)=[.fn f a b]:=id rfl
theorem EB (f:FuncId) (a b:List V):aN (.fn f a b)=true:=id rfl
theorem yU (cs:List V):V.cells (.agg cs)=cs:=id rfl
theorem CJ (k:Nat):dK (.emp k)=some 0:=id rfl
theorem Ce:dK .dq=some 0:=id rfl
theorem Co (es:List (List V)):dK (.aY es)=some es.length:=id rfl
theorem Gd (a b c d:Nat):dK (.sl a b c d)=some c:=id rfl
abbrev JK {p:Prop} (_:p):Prop:=p
abbrev Wr:Prop:=JK (And.intro @HD <| And.intro @B3 <| And.intro @xR <| And.intro @vP <| And.intro @wY <| And.intro @CA <| And.intro @zI <| And.intro @Ew <|
    And.intro @BN <| And.intro @AO <| And.intro @CI <| And.intro @Ff <|
    And.intro @BL <| And.intro @CS <| And.intro @AT <| And.intro @CX <|
    And.intro @BR <| And.intro @zV <| And.intro @ud <| And.intro @sS <|
    And.intro @CC <| And.intro @zN <| And.intro @Hz <| And.intro @Cf <|
    And.intro @D9 <| And.intro @CE <| And.intro @Ft <| And.intro @En <|
    And.intro @Aw <| And.intro @CG <| And.intro @Ag <| And.intro @Af <|
    And.intro @B6 <| And.intro @Ca <| And.intro @zS <| And.intro @FK <|
    And.intro @B2 <| And.intro @As <| And.intro @F6 <| And.intro @ED <|
    And.intro @BV <| And.intro @AN <| And.intro @HF <| And.intro @Fi <| And.intro @CF <|
    And.intro @FD <| And.intro @Fc <| And.intro @C2 <| And.intro @Cg <|
    And.intro @FG <| And.intro @EG <| And.intro @Cc <| And.intro @Ct <|
    And.intro @CV <| And.intro @A2 <| And.intro @yr <| And.intro @zA <|
    And.intro @Cd <| And.intro @EZ <| And.intro @FO <| And.intro @F4 <| And.intro @AZ <| And.intro @E2 <| And.intro @EE <|
    And.intro @CO <| And.intro @Ay <| And.intro @AP <| And.intro @vW <|
    And.intro @vD <| And.intro @vG <| And.intro @AI <| And.intro @CB <|
    And.intro @sE <| And.intro @xT <| And.intro @vR <| And.intro @C4 <|
    And.intro @zF <| And.intro @Ea <| And.intro @Ci <| And.intro @yh @yC)
theorem wr:Wr:=(And.intro @HD <| And.intro @B3 <| And.intro @xR <| And.intro @vP <| And.intro @wY <| And.intro @CA <| And.intro @zI <| And.intro @Ew <|
    And.intro @BN <| And.intro @AO <| And.intro @CI <| And.intro @Ff <|
    And.intro @BL <| And.intro @CS <| And.intro @AT <| And.intro @CX <|
    And.intro @BR <| And.intro @zV <| And.intro @ud <| And.intro @sS <|
    And.intro @CC <| And.intro @zN <| And.intro @Hz <| And.intro @Cf <|
    And.intro @D9 <| And.intro @CE <| And.intro @Ft <| And.intro @En <|
    And.intro @Aw <| And.intro @CG <| And.intro @Ag <| And.intro @Af <|
    And.intro @B6 <| And.intro @Ca <| And.intro @zS <| And.intro @FK <|
    And.intro @B2 <| And.intro @As <| And.intro @F6 <| And.intro @ED <|
    And.intro @BV <| And.intro @AN <| And.intro @HF <| And.intro @Fi <| And.intro @CF <|
    And.intro @FD <| And.intro @Fc <| And.intro @C2 <| And.intro @Cg <|
    And.intro @FG <| And.intro @EG <| And.intro @Cc <| And.intro @Ct <|
    And.intro @CV <| And.intro @A2 <| And.intro @yr <| And.intro @zA <|
    And.intro @Cd <| And.intro @EZ <| And.intro @FO <| And.intro @F4 <| And.intro @AZ <| And.intro @E2 <| And.intro @EE <|
    And.intro @CO <| And.intro @Ay <| And.intro @AP <| And.intro @vW <|
    And.intro @vD <| And.intro @vG <| And.intro @AI <| And.intro @CB <|
    And.intro @sE <| And.intro @xT <| And.intro @vR <| And.intro @C4 <|
    And.intro @zF <| And.intro @Ea <| And.intro @Ci <| And.intro @yh @yC)
abbrev Wq:Prop:=JK (And.intro @eq_self.{1} <| And.intro @ne_eq.{1} <| And.intro @implies_true.{1} <| And.intro @implies_true.{0} <| And.intro @decide_true <| And.intro @decide_false <| And.intro @CU <| And.intro @Cs <| And.intro @zi <| And.intro @zJ <| And.intro @AS <| And.intro @AE <| And.intro @yJ <| And.intro @w6 <| And.intro @yA <| And.intro @Cy <| And.intro @yj <| And.intro @CW <| And.intro @yR <| And.intro @CY <| And.intro @AG <| And.intro @E1 <| And.intro @yo <| And.intro @CH <| And.intro @wo <| And.intro @AW <| And.intro @Bj <| And.intro @Gc <| And.intro @AR <| And.intro @EB <| And.intro @yU <| And.intro @CJ <| And.intro @Ce <| And.intro @Co <| And.intro @Gd <| And.intro @true_or <| And.intro @or_true <| And.intro @or_false <| And.intro @false_or <|
    And.intro @JG <| And.intro @CT <| And.intro @BO <| And.intro @B9 <|
    And.intro @BQ <| And.intro @Fj <| And.intro @Cp <| And.intro @zQ <|
    And.intro @Fx <| And.intro @EJ <| And.intro @CQ <| And.intro @CD <|
    And.intro @Cn <| And.intro @C0 <| And.intro @Av <| And.intro @AX <|
    And.intro @yx <| And.intro @CR <| And.intro @List.getD_cons_zero.{0} <| And.intro @List.getD_cons_succ.{0} <|
    And.intro @List.length_cons.{0} <| And.intro @List.length_nil.{0} <| And.intro @List.length_map.{0,0} <| And.intro @wrap64 <|
    And.intro @true_and <| And.intro @and_true <| And.intro @and_self <| And.intro @decide_eq_true_eq <|
    And.intro @decide_eq_false_iff_not <| And.intro @List.all_cons.{0} <| And.intro @List.all_nil.{0} <| And.intro @Bool.and_self <|
    And.intro @List.nil_append.{0} <| And.intro @List.cons_append.{0} <| And.intro @Nat.zero_add <| And.intro @yw <|
    And.intro @Int.toNat_natCast <| And.intro @Eb <| And.intro @yp <| And.intro @bne_iff_ne.{0} <|
    And.intro @beq_iff_eq.{0} <| And.intro @Bool.not_eq_true <| And.intro @Bool.not_true <| And.intro @Bool.not_false <|
    And.intro @List.append_nil.{0} <| And.intro @List.map_cons.{0,0} <| And.intro @List.map_nil.{0,0} <| And.intro @Bool.true_eq_false <|
    And.intro @Bool.false_eq_true <| And.intro @false_implies <| And.intro @true_implies <| And.intro @Bool.not_not <|
    And.intro @List.drop_zero.{0} <| And.intro @Ak <| And.intro @List.set_cons_zero.{0} <| And.intro @List.set_cons_succ.{0} <|
    And.intro @List.drop_nil.{0} <| And.intro @Nat.add_zero <| And.intro @List.replicate_zero.{0} <| And.intro @List.replicate_succ.{0} <|
    And.intro @uw <| And.intro @pw <| And.intro @tA <| And.intro @vA <|
    And.intro @List.isEmpty_cons.{0} <| And.intro @Option.map_none.{0,0} <| And.intro @Option.map_some.{0,0} <| And.intro @Nat.succ_ne_zero <|
    And.intro @List.take_succ_cons.{0} <| And.intro @List.take_zero.{0} <| And.intro @List.drop_succ_cons.{0} <| And.intro @bne_eq_false_iff_eq.{0} <|
    And.intro @beq_eq_false_iff_ne.{0} <| And.intro @not_true_eq_false <| And.intro @not_false_eq_true @Decidable.not_not)
theorem wq:Wq:=(And.intro @eq_self.{1} <| And.intro @ne_eq.{1} <| And.intro @implies_true.{1} <| And.intro @implies_true.{0} <| And.intro @decide_true <| And.intro @decide_false <| And.intro @CU <| And.intro @Cs <| And.intro @zi <| And.intro @zJ <| And.intro @AS <| And.intro @AE <| And.intro @yJ <| And.intro @w6 <| And.intro @yA <| And.intro @Cy <| And.intro @yj <| And.intro @CW <| And.intro @yR <| And.intro @CY <| And.intro @AG <| And.intro @E1 <| And.intro @yo <| And.intro @CH <| And.intro @wo <| And.intro @AW <| And.intro @Bj <| And.intro @Gc <| And.intro @AR <| And.intro @EB <| And.intro @yU <| And.intro @CJ <| And.intro @Ce <| And.intro @Co <| And.intro @Gd <| And.intro @true_or <| And.intro @or_true <| And.intro @or_false <| And.intro @false_or <|
    And.intro @JG <| And.intro @CT <| And.intro @BO <| And.intro @B9 <|
    And.intro @BQ <| And.intro @Fj <| And.intro @Cp <| And.intro @zQ <|
    And.intro @Fx <| And.intro @EJ <| And.intro @CQ <| And.intro @CD <|
    And.intro @Cn <| And.intro @C0 <| And.intro @Av <| And.intro @AX <|
    And.intro @yx <| And.intro @CR <| And.intro @List.getD_cons_zero.{0} <| And.intro @List.getD_cons_succ.{0} <|
    And.intro @List.length_cons.{0} <| And.intro @List.length_nil.{0} <| And.intro @List.length_map.{0,0} <| And.intro @wrap64 <|
    And.intro @true_and <| And.intro @and_true <| And.intro @and_self <| And.intro @decide_eq_true_eq <|
    And.intro @decide_eq_false_iff_not <| And.intro @List.all_cons.{0} <| And.intro @List.all_nil.{0} <| And.intro @Bool.and_self <|
    And.intro @List.nil_append.{0} <| And.intro @List.cons_append.{0} <| And.intro @Nat.zero_add <| And.intro @yw <|
    And.intro @Int.toNat_natCast <| And.intro @Eb <| And.intro @yp <| And.intro @bne_iff_ne.{0} <|
    And.intro @beq_iff_eq.{0} <| And.intro @Bool.not_eq_true <| And.intro @Bool.not_true <| And.intro @Bool.not_false <|
    And.intro @List.append_nil.{0} <| And.intro @List.map_cons.{0,0} <| And.intro @List.map_nil.{0,0} <| And.intro @Bool.true_eq_false <|
    And.intro @Bool.false_eq_true <| And.intro @false_implies <| And.intro @true_implies <| And.intro @Bool.not_not <|
    And.intro @List.drop_zero.{0} <| And.intro @Ak <| And.intro @List.set_cons_zero.{0} <| And.intro @List.set_cons_succ.{0} <|
    And.intro @List.drop_nil.{0} <| And.intro @Nat.add_zero <| And.intro @List.replicate_zero.{0} <| And.intro @List.replicate_succ.{0} <|
    And.intro @uw <| And.intro @pw <| And.intro @tA <| And.intro @vA <|
    And.intro @List.isEmpty_cons.{0} <| And.intro @Option.map_none.{0,0} <| And.intro @Option.map_some.{0,0} <| And.intro @Nat.succ_ne_zero <|
    And.intro @List.take_succ_cons.{0} <| And.intro @List.take_zero.{0} <| And.intro @List.drop_succ_cons.{0} <| And.intro @bne_eq_false_iff_eq.{0} <|
    And.intro @beq_eq_false_iff_ne.{0} <| And.intro @not_true_eq_false <| And.intro @not_false_eq_true @Decidable.not_not)
end Gv
namespace Gv
open Go
inductive uK:V→Prop
  | val (v:Value):uK (.val v)
  | bp (cs:List V):(∀ i,i < cs.length→∃ v,cs.getD i .any=.val v)→uK (.bp cs)
theorem Gp {Z Z':Nat→Prop} {μ μ':Mu} {hp hp':Array Obj} {t:V} {x:Value} (hf:uK t) (h:ay Z μ hp t x):ay Z' μ' hp' t x:=by
  cases hf with
  | val=>cases h with | val _ hv=>exact .val _ hv
  | bp cs hc =>
    cases h with
    | bp _ aas h1 h2 =>
      refine .bp _ _ h1 fun i hi=>?_
      have:=h2 i hi
      obtain ⟨v,hv⟩:=hc i hi
      rw[hv] at this ⊢
      generalize aas.getD i undef=y at this ⊢
      cases this with | val _ hv=>exact .val _ hv
theorem bL.borrow {P:Program} {f:FuncId} {ts vs:List V} {t:V} {h:aE} (hc:aC P f ts t) (hf:uK t) (hl:ts.length=vs.length)
    (hfr:∀ i,i < vs.length→Fr h (vs.getD i .any) (ts.getD i .any)):bL P f vs h t h:=by
  refine ⟨Nat.le_refl _,fun Z μ F w xs hrel hr hfree=>?_⟩
  have hts:dx (fun b=>Z b∨fV μ b) μ w.heap ts xs:=⟨by rw[hl,hrel.1],fun i hi=>AY hr (hfr i (by omega)) (hrel.2 i (by omega))⟩
  have hzl:∀ b,(Z b∨fV μ b)→b < w.heap.size:=by
    rintro b (hb | ⟨id,o,s,hb⟩)
    · exact hr.bM b hb
    · exact hr.lt _ _ _ _ hb
  refine (hc _ μ w xs hts hzl).mono ?_
  rintro e w' ⟨x,Z',rfl,hv,hs,hz,hz',ho⟩
  have hm:dR Z Z μ μ w.heap w'.heap:=⟨fun _ h=>h,fun b hb=>ho b (hr.bM b hb) (fun x=>x),fun _ _ h=>h,ho.lI⟩
  exact ⟨x,Z,μ,rfl,Gp hf (hv μ),⟨fun id=>(hr.obj id).mono hm rfl (fun b o s hx=>ho b (hr.lt _ _ _ _ hx) (fun x=>x)),hr.inj,fun id b o s hx=>Nat.lt_of_lt_of_le (hr.lt _ _ _ _ hx) hs.size,fun b hb=>Nat.lt_of_lt_of_le (hr.bM b hb) hs.size,hr.ew⟩,
    ⟨hs,hm,fun b hb _=>ho b hb (fun x=>x),fun b hb=>.inl hb,fun _ _ _ _ h=>.inl h⟩,fun _ _=>rfl⟩
def cO (H:View) (v t:V):Prop:=∀ h:aE,h.view=H→Fr h v t
theorem cO.tree {H:View} {v:V} (h:Tree v):cO H v v:=fun _ _=>.tree _ h
theorem cO.sl {H:View} {id off len esz z:Nat} {es:List (List V)} (hH:H id=.arr z es) (hle:off+len≤es.length) (ht:∀ e∈es,∀ v∈e,Tree v) :
    cO H (.sl id off len esz) (.aY ((es.drop off).take len)):=by
  rintro h rfl
  have hg:∀ i,i < len→((es.drop off).take len).getD i []=es.getD (off+i) []:=fun i hi=>by
    simp[List.getD_eq_getElem?_getD,List.getElem?_take,hi]
  refine .sl id off len esz z es _ hH hle (by simp; omega) (fun i hi=>by rw[hg i hi]) (fun i j hi hj=>?_)
  rw[hg i hi] at hj ⊢
  refine .tree _ ?_
  have h1:off+i < es.length:=by omega
  have e1:es.getD (off+i) []=es[off+i]:=by simp[List.getD_eq_getElem?_getD,h1]
  rw[e1] at hj ⊢
  have e2:(es[off+i]).getD j .any=(es[off+i])[j]:=by simp[List.getD_eq_getElem?_getD,hj]
  rw[e2]
  exact ht _ (List.getElem_mem _) _ (List.getElem_mem _)
theorem az.borrow {P:Program} {q:Bool} {f:FuncId} {H:View} {vs ts:List V} {K:V→View→Prop} {v:bP (H,K)} {t:V} (hc:aC P f ts t) (hok:bY P f=true) (hf:uK t) (hl:ts.length=vs.length)
    (hfr:∀ i,i < vs.length→cO H (vs.getD i .any) (ts.getD i .any)) (hk:K t H):az P q f vs H K v:=by
  unfold az
  cases q with
  | true=>exact ⟨hok,fun h e=>⟨t,h,bL.borrow hc hf hl (fun i hi=>hfr i hi h e),fun _ _=>rfl,e ▸ hk⟩⟩
  | false =>
    refine ⟨hok,?_⟩
    rintro h rfl
    exact ⟨t,h,bL.borrow hc hf hl (fun i hi=>hfr i hi h rfl),.refl _,hk⟩
end Gv
set_option linter.unusedSimpArgs false
set_option maxRecDepth 100000
namespace Gv
open Go Go.Proofs
abbrev gi (x:Int):V:=.val (.int .i64 x)
abbrev gb (x:Bool):V:=.val (.bool x)
abbrev gs (x:ByteArray):V:=.val (.string x)
theorem mixed:(Tryz.prog).follows .mixedOrders=true:=by kernel_rfl
def encI (l:List Int):V:=.aY (l.map fun x=>[gi x])
def cE (l:List Bool):V:=.aY (l.map fun x=>[gb x])
theorem cn (l:List Int):Tree (encI l):=by
  refine .aY _ fun i j hi hj=>?_
  simp only[List.length_map] at hi
  simp[List.getD_eq_getElem?_getD,hi] at hj ⊢
  subst hj
  exact .val _
def aL {α:Type} (l:List α):Prop:=l.length < 4611686018427387904
def j6:SC :=
  .seq (.seq (al [aa 11 5,aa 12 0,aI 13 12,aK 14 .lss 11 13]) <|
  .cond (.tmp 14) (.skip) (.exit 0)) <|
  .seq (.block 1 (.seq (al [aa 17 0,aa 18 5,aX 19 1 17 18,ao 20 19,aa 21 1,aa 22 5,aX 23 1 21 22,ao 24 23,aK 25 .neq 20 24]) <|
  .cond (.tmp 25) (.seq (al [aP 4 false]) <|
  .ret) (.skip))) <|
  al [aa 15 5,ax 16 .add 15 1,aa 5 16]
def lJ:SF:=⟨.seq (al [aP 4 false]) <|
  .seq (.seq (al [aa 6 0,aI 7 6,aa 8 1,aI 9 8,aK 10 .neq 7 9]) <|
  .cond (.tmp 10) (.seq (al [aP 4 false]) <|
  .ret) (.skip)) <|
  .seq (.seq (al [aG 5 0]) <|
  .block 0 (.loop j6)) <|
  .seq (al [aP 4 true]) <|
  .ret,
  [.tmp 4],26⟩
theorem pN:aR Tryz.prog 19 []=some lJ:=by kernel_rfl
theorem Cv {α:Type} [BEq α] [LawfulBEq α] {a b:List α} (h:a.length≠b.length):(a == b)=false:=by
  simp only[beq_eq_false_iff_ne]; intro e; exact h (by rw[e])
theorem Iy (a b:List Int) (ha:aL a) (H:View):aB Tryz.prog 19 [encI a,encI b] H fun r H'=>r=gb (a == b)∧H'=H:=by
  refine aB.of mixed pN ?_
  unfold aL at ha
  simp (disch:=omega) only [↓wr,↓reduceIte,wq,ai,ah,ak,ae,af,ag,aj,isNil,Nat.reduceEqDiff,Nat.reduceAdd,Nat.reduceLT,Nat.reduceLeDiff,Int.reduceNeg,Int.reduceToNat,reduceCtorEq,lJ,encI]
  refine an.ne (fun h=>?_) (fun h=>?_)
  · simp (disch:=omega) only [↓wr,↓reduceIte,wq,ai,ah,ak,ae,af,ag,aj,isNil,Nat.reduceEqDiff,Nat.reduceAdd,Nat.reduceLT,Nat.reduceLeDiff,Int.reduceNeg,Int.reduceToNat,reduceCtorEq]
    rw[Cv (by omega)]
  · simp (disch:=omega) only [↓wr,↓reduceIte,wq,ai,ah,ak,ae,af,ag,aj,isNil,Nat.reduceEqDiff,Nat.reduceAdd,Nat.reduceLT,Nat.reduceLeDiff,Int.reduceNeg,Int.reduceToNat,reduceCtorEq]
    refine bo.intro (fun k T H'=>∃ i:Nat,i+k=a.length∧a.take i=b.take i∧T 0=encI a∧T 1=encI b∧T 5=gi i∧H'=H) a.length ?_ ?_
    · exact ⟨0,by omega,by simp,rfl,rfl,rfl,rfl⟩
    · rintro k T H' ⟨i,hk,hi,h0,h1,h5,rfl⟩
      simp (disch:=omega) only [↓wr,↓reduceIte,wq,ai,ah,ak,ae,af,ag,aj,isNil,Nat.reduceEqDiff,Nat.reduceAdd,Nat.reduceLT,Nat.reduceLeDiff,Int.reduceNeg,Int.reduceToNat,reduceCtorEq,j6,h0,h1,h5,encI]
      refine an.dec (fun hc=>?_) (fun hc=>?_)
      · have h2:a[i]?=some (a[i]'(by omega)):=List.getElem?_eq_getElem (by omega)
        have h3:b[i]?=some (b[i]'(by omega)):=List.getElem?_eq_getElem (by omega)
        simp (disch:=omega) only [↓wr,↓reduceIte,wq,ai,ah,ak,ae,af,ag,aj,isNil,Nat.reduceEqDiff,Nat.reduceAdd,Nat.reduceLT,Nat.reduceLeDiff,Int.reduceNeg,Int.reduceToNat,reduceCtorEq,h0,h1,h5,encI,List.getElem?_map,h2,h3,Option.map_some]
        refine an.ne (fun hd=>?_) (fun hd=>?_)
        · simp (disch:=omega) only [↓wr,↓reduceIte,wq,ai,ah,ak,ae,af,ag,aj,isNil,Nat.reduceEqDiff,Nat.reduceAdd,Nat.reduceLT,Nat.reduceLeDiff,Int.reduceNeg,Int.reduceToNat,reduceCtorEq]
          have:(a == b)=false:=by
            simp only[beq_eq_false_iff_ne]; rintro rfl; exact hd rfl
          rw[this]
        · simp (disch:=omega) only [↓wr,↓reduceIte,wq,ai,ah,ak,ae,af,ag,aj,isNil,Nat.reduceEqDiff,Nat.reduceAdd,Nat.reduceLT,Nat.reduceLeDiff,Int.reduceNeg,Int.reduceToNat,reduceCtorEq,h0,h1,h5,encI]
          refine ⟨k - 1,by omega,i+1,by omega,?_,rfl⟩
          rw[List.take_add_one,List.take_add_one,hi,h2,h3,hd]
      · simp (disch:=omega) only [↓wr,↓reduceIte,wq,ai,ah,ak,ae,af,ag,aj,isNil,Nat.reduceEqDiff,Nat.reduceAdd,Nat.reduceLT,Nat.reduceLeDiff,Int.reduceNeg,Int.reduceToNat,reduceCtorEq,h0,h1,h5,encI]
        have:a=b:=by
          have e:i=a.length:=by omega
          rw[List.take_of_length_le (by omega),List.take_of_length_le (by omega)] at hi
          exact hi
        rw[this]; simp
theorem xx (a b:List Int) (ha:aL a):aC Tryz.prog 19 [encI a,encI b] (gb (a == b)) :=
  aC.of (by simp[cn]) ((Iy a b ha _).mono fun r H' h h' _=>by rw[h.1]; exact .tree _ (.val _))
theorem oK (l:List Bool):Tree (cE l):=by
  refine .aY _ fun i j hi hj=>?_
  simp only[List.length_map] at hi
  simp[List.getD_eq_getElem?_getD,hi] at hj ⊢
  subst hj
  exact .val _
end Gv
set_option linter.unusedSimpArgs false
set_option maxRecDepth 100000
namespace Gv
open Go Go.Proofs
structure Term where
  name:ByteArray
  level:Int
  assoc:Int
structure aZ where
  left:Int
  right:List Int
  prec:Int
structure au where
  aw:List Term
  aD:List ByteArray
  rules:List aZ
  start:Int
instance:Inhabited Term:=⟨⟨.empty,0,0⟩⟩
instance:Inhabited aZ:=⟨⟨0,[],0⟩⟩
def cZ (t:Term):List V:=[gs t.name,gi t.level,gi t.assoc]
def bj (r:aZ):List V:=[gi r.left,encI r.right,gi r.prec]
def encS (l:List ByteArray):V:=.aY (l.map fun s=>[gs s])
def ar (g:au):List V:=[.aY (g.aw.map cZ),encS g.aD,.aY (g.rules.map bj),gi g.start]
theorem fq {α:Type} (l:List α) (f:α→List V) (h:∀ x∈l,∀ v∈f x,Tree v):Tree (.aY (l.map f)):=by
  refine .aY _ fun i j hi hj=>?_
  simp only[List.length_map] at hi
  have e:(l.map f).getD i []=f l[i]:=by simp[List.getD_eq_getElem?_getD,hi]
  rw[e] at hj ⊢
  have e2:(f l[i]).getD j .any=(f l[i])[j]:=by simp[List.getD_eq_getElem?_getD,hj]
  rw[e2]
  exact h _ (List.getElem_mem _) _ (List.getElem_mem _)
theorem bF (cs:List V) (h:∀ v∈cs,Tree v):Tree (.agg cs):=by
  refine .agg _ fun i hi=>?_
  have e2:cs.getD i .any=cs[i]:=by simp[List.getD_eq_getElem?_getD,hi]
  rw[e2]; exact h _ (List.getElem_mem _)
theorem yz (l:List ByteArray):Tree (encS l):=fq _ _ fun x _ v hv=>by simp at hv; subst hv; exact .val _
theorem yK (t:Term):∀ v∈cZ t,Tree v:=by intro v hv; simp[cZ] at hv; rcases hv with rfl | rfl | rfl <;> exact .val _
theorem gn (r:aZ):∀ v∈bj r,Tree v:=by
  intro v hv; simp[bj] at hv; rcases hv with rfl | rfl | rfl
  · exact .val _
  · exact cn _
  · exact .val _
theorem bB (g:au):∀ v∈ar g,Tree v:=by
  intro v hv; simp[ar] at hv; rcases hv with rfl | rfl | rfl | rfl
  · exact fq _ _ fun x _=>yK x
  · exact yz _
  · exact fq _ _ fun x _=>gn x
  · exact .val _
def bJ (x:Int):Prop:=-9223372036854775808≤x∧x≤9223372036854775807
structure au.Ok (g:au):Prop where
  aw:aL g.aw
  aD:aL g.aD
  rules:aL g.rules
  start:bJ g.start
  term:∀ t∈g.aw,bJ t.level∧bJ t.assoc
  bq:∀ r∈g.rules,bJ r.left∧bJ r.prec∧aL r.right∧∀ x∈r.right,bJ x
def kS (g:au) (s:Int):Bool:=if 0≤s then decide (s < g.aw.length) else decide (-1 - s < g.aD.length)
def mM:SF:=⟨.seq (al [b7 2 0,aP 4 false]) <|
  .seq (.seq (al [aa 5 1,ax 6 .geq 5 0]) <|
  .cond (.tmp 6) (.seq (al [aa 7 1,aq 8 0 2,ao 9 8,aI 10 9,aK 11 .lss 7 10,aa 4 11]) <|
  .ret) (.skip)) <|
  .seq (al [aa 12 1,((some 13),.op (.arith .sub (.val (.val (.int .i64 (-1)))) (.tmp 12))),aq 14 1 2,ao 15 14,aI 16 15,aK 17 .lss 13 16,aa 4 17]) <|
  .ret,
  [.tmp 4],18⟩
theorem q8:aR Tryz.prog 85 [2]=some mM:=by kernel_rfl
theorem Jb (g:au) (s:Int) (hs:bJ s) (H:View):aB Tryz.prog 85 [.agg (ar g),gi s] H fun r H'=>r=gb (kS g s)∧H'=H:=by
  refine aB.of mixed q8 ?_
  obtain ⟨h1,h2⟩:=hs
  simp (disch:=omega) only [↓wr,↓reduceIte,wq,ai,ah,ak,ae,af,ag,aj,isNil,Nat.reduceEqDiff,Nat.reduceAdd,Nat.reduceLT,Nat.reduceLeDiff,Int.reduceNeg,Int.reduceToNat,reduceCtorEq,mM,ar,encS]
  refine an.dec (fun h=>?_) (fun h=>?_)
  · simp (disch:=omega) only [↓wr,↓reduceIte,wq,ai,ah,ak,ae,af,ag,aj,isNil,Nat.reduceEqDiff,Nat.reduceAdd,Nat.reduceLT,Nat.reduceLeDiff,Int.reduceNeg,Int.reduceToNat,reduceCtorEq]
    simp[kS,show (0:Int)≤s from h]
  · simp (disch:=omega) only [↓wr,↓reduceIte,wq,ai,ah,ak,ae,af,ag,aj,isNil,Nat.reduceEqDiff,Nat.reduceAdd,Nat.reduceLT,Nat.reduceLeDiff,Int.reduceNeg,Int.reduceToNat,reduceCtorEq]
    simp[kS,show ¬ (0:Int)≤s from h]
theorem I1 (g:au) (s:Int) (hs:bJ s):aC Tryz.prog 85 [.agg (ar g),gi s] (gb (kS g s)) :=
  aC.of (by
    intro v hv; simp at hv
    rcases hv with rfl | rfl
    · exact bF _ (bB g)
    · exact .val _) ((Jb g s hs _).mono fun r H' h h' _=>by rw[h.1]; exact .tree _ (.val _))
def gq (g:au):Bool:=decide (40 < g.aw.length) || decide (40 < g.aD.length) || decide (60 < g.rules.length) || g.rules.any fun r=>decide (20 < r.right.length)
def jq:SC :=
  .seq (.seq (al [aa 20 3,aq 21 2 1,ao 22 21,aI 23 22,aK 24 .lss 20 23]) <|
  .cond (.tmp 24) (.skip) (.exit 0)) <|
  .seq (.block 1 (.seq (al [aq 27 2 1,ao 28 27,aa 29 3,aX 30 3 28 29,aq 31 1 30,ao 32 31,aI 33 32,ax 34 .gtr 33 20]) <|
  .cond (.tmp 34) (.seq (al [aP 2 true]) <|
  .ret) (.skip))) <|
  al [aa 25 3,ax 26 .add 25 1,aa 3 26]
def kj:SF:=⟨.seq (al [b7 1 0,aP 2 false]) <|
  .seq (.seq (.region false [⟨none,[aq 4 0 1,ao 5 4,aI 6 5,ax 7 .gtr 6 40,aa 8 7]⟩,⟨(some (8,false)),[aq 9 1 1,ao 10 9,aI 11 10,ax 12 .gtr 11 40]⟩,⟨none,[bf 13 8 12,aa 14 13]⟩,⟨(some (14,false)),[aq 15 2 1,ao 16 15,aI 17 16,ax 18 .gtr 17 60]⟩,⟨none,[bf 19 14 18]⟩]) <|
  .cond (.tmp 19) (.seq (al [aP 2 true]) <|
  .ret) (.skip)) <|
  .seq (.seq (al [aG 3 0]) <|
  .block 0 (.loop jq)) <|
  .seq (al [aP 2 false]) <|
  .ret,
  [.tmp 2],35⟩
theorem oY:aR Tryz.prog 13 [1]=some kj:=by kernel_rfl
theorem Gx (g:au) (H:View):aB Tryz.prog 13 [.agg (ar g)] H fun r H'=>r=gb (gq g)∧H'=H:=by
  refine aB.of mixed oY ?_
  simp (disch:=omega) only [↓wr,↓reduceIte,wq,ai,ah,ak,ae,af,ag,aj,isNil,Nat.reduceEqDiff,Nat.reduceAdd,Nat.reduceLT,Nat.reduceLeDiff,Int.reduceNeg,Int.reduceToNat,reduceCtorEq,kj,ar,encS]
  refine an.dec (fun h1=>?_) (fun h1=>?_)
  · simp (disch:=omega) only [↓wr,↓reduceIte,wq,ai,ah,ak,ae,af,ag,aj,isNil,Nat.reduceEqDiff,Nat.reduceAdd,Nat.reduceLT,Nat.reduceLeDiff,Int.reduceNeg,Int.reduceToNat,reduceCtorEq]
    simp[gq,show 40 < g.aw.length by omega]
  · simp (disch:=omega) only [↓wr,↓reduceIte,wq,ai,ah,ak,ae,af,ag,aj,isNil,Nat.reduceEqDiff,Nat.reduceAdd,Nat.reduceLT,Nat.reduceLeDiff,Int.reduceNeg,Int.reduceToNat,reduceCtorEq]
    refine an.dec (fun h2=>?_) (fun h2=>?_)
    · simp (disch:=omega) only [↓wr,↓reduceIte,wq,ai,ah,ak,ae,af,ag,aj,isNil,Nat.reduceEqDiff,Nat.reduceAdd,Nat.reduceLT,Nat.reduceLeDiff,Int.reduceNeg,Int.reduceToNat,reduceCtorEq]
      simp[gq,show 40 < g.aD.length by omega]
    · simp (disch:=omega) only [↓wr,↓reduceIte,wq,ai,ah,ak,ae,af,ag,aj,isNil,Nat.reduceEqDiff,Nat.reduceAdd,Nat.reduceLT,Nat.reduceLeDiff,Int.reduceNeg,Int.reduceToNat,reduceCtorEq]
      refine an.dec (fun h3=>?_) (fun h3=>?_)
      · simp (disch:=omega) only [↓wr,↓reduceIte,wq,ai,ah,ak,ae,af,ag,aj,isNil,Nat.reduceEqDiff,Nat.reduceAdd,Nat.reduceLT,Nat.reduceLeDiff,Int.reduceNeg,Int.reduceToNat,reduceCtorEq]
        simp[gq,show 60 < g.rules.length by omega]
      · simp (disch:=omega) only [↓wr,↓reduceIte,wq,ai,ah,ak,ae,af,ag,aj,isNil,Nat.reduceEqDiff,Nat.reduceAdd,Nat.reduceLT,Nat.reduceLeDiff,Int.reduceNeg,Int.reduceToNat,reduceCtorEq]
        refine bo.intro (fun k T H'=>∃ i:Nat,i+k=g.rules.length∧(∀ r∈g.rules.take i,¬ 20 < r.right.length)∧T 1=.aJ (ar g) 0∧T 3=gi i∧H'=H) g.rules.length ?_ ?_
        · exact ⟨0,by omega,by simp,rfl,rfl,rfl⟩
        · rintro k T H' ⟨i,hk,hi,e1,e3,rfl⟩
          simp (disch:=omega) only [↓wr,↓reduceIte,wq,ai,ah,ak,ae,af,ag,aj,isNil,Nat.reduceEqDiff,Nat.reduceAdd,Nat.reduceLT,Nat.reduceLeDiff,Int.reduceNeg,Int.reduceToNat,reduceCtorEq,jq,e1,e3,ar]
          refine an.dec (fun hc=>?_) (fun hc=>?_)
          · have hg:g.rules[i]?=some (g.rules[i]'(by omega)):=List.getElem?_eq_getElem (by omega)
            simp (disch:=omega) only [↓wr,↓reduceIte,wq,ai,ah,ak,ae,af,ag,aj,isNil,Nat.reduceEqDiff,Nat.reduceAdd,Nat.reduceLT,Nat.reduceLeDiff,Int.reduceNeg,Int.reduceToNat,reduceCtorEq,e1,e3,ar,bj,encI,List.getElem?_map,hg,Option.map_some]
            refine an.dec (fun hd=>?_) (fun hd=>?_)
            · simp (disch:=omega) only [↓wr,↓reduceIte,wq,ai,ah,ak,ae,af,ag,aj,isNil,Nat.reduceEqDiff,Nat.reduceAdd,Nat.reduceLT,Nat.reduceLeDiff,Int.reduceNeg,Int.reduceToNat,reduceCtorEq]
              have:g.rules.any (fun r=>decide (20 < r.right.length))=true:=by
                simp only[List.any_eq_true,decide_eq_true_eq]
                exact ⟨g.rules[i]'(by omega),List.getElem_mem _,by omega⟩
              simp[gq,this]
            · simp (disch:=omega) only [↓wr,↓reduceIte,wq,ai,ah,ak,ae,af,ag,aj,isNil,Nat.reduceEqDiff,Nat.reduceAdd,Nat.reduceLT,Nat.reduceLeDiff,Int.reduceNeg,Int.reduceToNat,reduceCtorEq,e1,e3]
              refine ⟨k - 1,by omega,i+1,by omega,?_,rfl,rfl⟩
              intro r hr
              rw[List.take_add_one,hg] at hr
              simp only[Option.toList_some,List.mem_append,List.mem_singleton] at hr
              rcases hr with hr | rfl
              · exact hi r hr
              · omega
          · simp (disch:=omega) only [↓wr,↓reduceIte,wq,ai,ah,ak,ae,af,ag,aj,isNil,Nat.reduceEqDiff,Nat.reduceAdd,Nat.reduceLT,Nat.reduceLeDiff,Int.reduceNeg,Int.reduceToNat,reduceCtorEq,e1,e3]
            have e:i=g.rules.length:=by omega
            rw[List.take_of_length_le (by omega)] at hi
            have:g.rules.any (fun r=>decide (20 < r.right.length))=false:=by
              simp only[List.any_eq_false,decide_eq_true_eq]; exact hi
            simp only[gq,this]
            simp; omega
end Gv
set_option linter.unusedSimpArgs false
set_option maxRecDepth 100000
namespace Gv
open Go Go.Proofs
def da (l:List Int) (is:List Bool) (aw:Bool):Bool:=l.all fun s=>if 0≤s then aw else is.getD (-1 - s).toNat false
end Gv
