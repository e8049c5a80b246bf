/-
  Part 5 of the proof: what the machine does and what the functions answer.
  Conditions: those that each lemma names.
-/
import Derived.Test.YtihmlbdfcmfbdaaGreatProg
import Derived.KernelRfl
import Derived.Test.YtihmlbdfcmfbdaaGreatSGzA8D
set_option linter.unusedSimpArgs false
set_option linter.unusedVariables false
set_option maxRecDepth 100000
namespace Gv
open Go Go.Proofs
section
variable {P:Program} {n:Nat} {all:List Oper}
theorem KL (h:aB):h.view h.length=.dead:=by simp[aB.view,List.getD_eq_getElem?_getD]
theorem N8 {o:Oper} {T:Env} {h:aB} {s:SI} {K:V→View→Prop} (hg:cM n all T o=some true) (hc:∀ v eff rd,sI P s T h.view h.length=some (v,eff,rd)→bT P o T h.view h.length=some (v,eff,rd)) (hw:wI P s T h.view K) :
    ∃ v h' rd wr,c5 P n all o T h v h' rd wr false∧gC h h'∧K v h'.view∧jb (qc P s) rd wr false h.length h'.length:=by
  obtain ⟨v,eff,rd,hs,hk⟩:=On hw (KL h)
  have ha:=hc _ _ _ hs
  have hlive:∀ id,id∈eff.wr→h.view id≠.dead:=fun id hid=>(km ha id hid).1
  refine ⟨v,eff.apply h,rd,eff.wr,.op hg ha,?_,?_,?_,?_⟩
  · intro id hid hd
    rw[jJ hlive]
    cases eff with
    | none=>exact hd
    | new o=>simp only[aY.view,View.set]; rw[if_neg (by omega)]; exact hd
    | eC k o =>
      simp only[aY.view,View.set]
      rw[if_neg (by rintro rfl; exact hlive id (by simp[aY.wr]) hd)]; exact hd
    | bj k o =>
      simp only[aY.view,View.set]
      rw[if_neg (by omega)]
      split
      · rfl
      · exact hd
  · rw[jJ (fun id hid=>(km ha id hid).1)]; exact hk
  · intro h0
    obtain ⟨rfl,rfl⟩:=(oV hs).1 h0
    exact ⟨rfl,rfl,rfl,rfl⟩
  · intro h1
    rcases Nat.lt_or_ge (qc P s) 1 with h2 | h2
    · obtain ⟨rfl,rfl⟩:=(oV hs).1 (by omega); rfl
    · exact (oV hs).2 (by omega)
theorem Fw {P:Program} {fr:Bool} {s:SI} {T:Env} {H:View} {n:Nat} {v:V} {eff:aY} {rd:List Nat} (h:sI P (uv P fr s) T H n=some (v,eff,rd)):sI P s T H n=some (v,eff,rd):=by
  unfold uv at h
  split at h
  · split at h
    · exact KU h
    · exact h
  · split at h
    · rename_i hc
      simp only[Bool.and_eq_true] at hc
      exact MF hc.2 h
    · exact h
  · exact h
theorem wx (P:Program) (fz:Fz) (o:Oper) :
    (∃ f args ats,o.op=.call { callee:=.value f,args:=args,argTypes:=ats }∧lO P fz o=.call (SX.of f) (args.toList.map SX.of)) ∨
    (∃ t x,o.op=.box t x∧lO P fz o=.op (.gV (SX.of x)))∨(∃ s d x,o.op=.convert s d x∧r8 P s d=true∧lO P fz o=.op (.eS (SX.of x)))∨lO P fz o=.op (uv P fz.fr (comp P o)):=by
  unfold lO
  split
  · rename_i f args ats ho; exact .inl ⟨f,args,ats,ho,rfl⟩
  · rename_i t x ho
    by_cases hd:(match o.dst with | some d=>fz.l.contains d | none=>false)=true
    · exact .inr (.inl ⟨t,x,ho,if_pos hd⟩)
    · refine .inr (.inr (.inr ?_))
      refine (if_neg hd).trans ?_
      simp only[comp,ho,uv]
  · rename_i s d x ho
    by_cases hd:((match o.dst with | some d=>fz.l.contains d | none=>false) && r8 P s d)=true
    · exact .inr (.inr (.inl ⟨s,d,x,ho,by simp only[Bool.and_eq_true] at hd; exact hd.2,if_pos hd⟩))
    · exact .inr (.inr (.inr (if_neg hd)))
  · exact .inr (.inr (.inr rfl))
theorem c5.len {o:Oper} {T:Env} {h h':aB} {v:V} {rd wr:List Nat} {call:Bool} (st:c5 P n all o T h v h' rd wr call):h.length≤h'.length:=by
  cases st with
  | skip=>exact Nat.le_refl _
  | op _ _=>rename_i eff _ _ ; cases eff <;> simp[aY.apply]
  | gV _ _ _=>exact Nat.le_refl _
  | eS _ _ _ _ _ _=>exact Nat.le_refl _
  | call _ _ _ _ ha _ _=>exact ha.1
theorem MQ {fz:Fz} {o:Oper} {T:Env} {h:aB} {quiet:Bool} {K:V→View→Prop} (hg:cM n all T o=some true) (hw:wB P quiet (lO P fz o) T h.view K) :
    ∃ v h' rd wr call,c5 P n all o T h v h' rd wr call∧gC h h'∧K v h'.view∧jb (gK P quiet (lO P fz o)) rd wr call h.length h'.length:=by
  rcases wx P fz o with ⟨f,args,ats,ho,hc⟩ | ⟨t,x,ho,hc⟩ | ⟨s,d,x,ho,hcv,hc⟩ | hc
  · rw[hc] at hw ⊢
    simp only[wB] at hw
    split at hw
    · rename_i g first cap hf
      rw[CN] at hw
      rw[SX.ca] at hf
      split at hw
      · rename_i hq
        obtain ⟨hok,hq'⟩:=hw
        obtain ⟨r,h',hr,hold,hk⟩:=hq' h rfl
        refine ⟨r,h',[],[],true,.call hg ho hf hok hr (fun id hid _=>hold id hid) (fun id hid=>by simp at hid),fun id hid hd=>(hold id hid).trans hd,hk,?_,?_⟩
        · intro h0; simp[gK,hq] at h0
        · intro _; rfl
      · rename_i hq
        obtain ⟨hok,hq'⟩:=hw
        obtain ⟨r,h',hr,hst,hk⟩:=hq' h rfl
        refine ⟨r,h',[],List.range h.length,true,.call hg ho hf hok hr (fun id hid hn=>?_) (fun id hid=>by simpa using hid),hst,hk,L4 (by simp[gK,hq])⟩
        exact absurd (by simpa using hid) hn
    · exact hw.elim
  · rw[hc] at hw ⊢
    simp only[wB,wI,SX.ca] at hw
    exact ⟨_,h,[],[],false,.gV hg ho hw.1,.refl _,hw.2,fun _=>⟨rfl,rfl,rfl,rfl⟩,fun _=>rfl⟩
  · rw[hc] at hw ⊢
    simp only[wB,wI,SX.ca] at hw
    obtain ⟨e,h1,h2,h3⟩:=wW hcv
    split at hw
    · rename_i st hx
      exact ⟨_,h,[],[],false,.eS hg ho h1 h2 h3 hx,.refl _,hw,fun _=>⟨rfl,rfl,rfl,rfl⟩,fun _=>rfl⟩
    · exact hw.elim
  · rw[hc] at hw ⊢
    obtain ⟨v,h',rd,wr,h1,h0,h2,h3⟩:=N8 (s:=uv P fz.fr (comp P o)) hg (fun v eff rd hs=>Gk (Fw hs)) hw
    exact ⟨v,h',rd,wr,false,h1,h0,h2,h3⟩
def eN (P:Program) (quiet:Bool) (l:List SO) (recs:List Rec):Prop :=
  l.length=recs.length∧∀ (i:Nat) (s:SO) (r:Rec),l[i]?=some s→recs[i]?=some r→jb (gK P quiet s.b) r.rd r.wr r.call r.lo r.hi
theorem eN.nil {quiet:Bool} : eN P quiet [] []:=⟨rfl,fun i s r h=>by simp at h⟩
theorem eN.cons {quiet:Bool} {l:List SO} {recs:List Rec} {s:SO} {r:Rec} (h:eN P quiet l recs) (hr:jb (gK P quiet s.b) r.rd r.wr r.call r.lo r.hi):eN P quiet (s :: l) (r :: recs):=by
  refine ⟨by simp[h.1],fun i s' r' hs hr'=>?_⟩
  cases i with
  | zero=>simp at hs hr'; subst hs hr'; exact hr
  | succ i=>exact h.2 i s' r' (by simpa using hs) (by simpa using hr')
theorem eN.append {quiet:Bool} {l l':List SO} {recs recs':List Rec} (h:eN P quiet l recs) (h':eN P quiet l' recs'):eN P quiet (l ++ l') (recs ++ recs'):=by
  refine ⟨by simp[h.1,h'.1],fun i s r hs hr=>?_⟩
  by_cases hi:i < l.length
  · rw[List.getElem?_append_left hi] at hs
    rw[List.getElem?_append_left (h.1 ▸ hi)] at hr
    exact h.2 i s r hs hr
  · rw[List.getElem?_append_right (by omega)] at hs
    rw[List.getElem?_append_right (by have:=h.1; omega)] at hr
    exact h'.2 (i - l.length) s r hs (by rw[h.1]; exact hr)
theorem qu {fz:Fz} {o:Oper} {s:SO} (h:Cu P n all fz o=some s):oQ n o=true∧s.dst=o.dst∧s.b=lO P fz o∧rH n all o=some s.guard:=by
  unfold Cu at h
  split at h
  · rename_i hd
    simp only[Option.map_eq_some_iff] at h
    obtain ⟨g,hg,rfl⟩:=h
    exact ⟨hd,rfl,rfl,hg⟩
  · simp at h
theorem za {o:Oper} {T:Env} (h:rH n all o=some none):cM n all T o=some true:=by
  unfold rH at h
  unfold cM
  split at h
  · rename_i hg; rw[hg]
  · split at h
    · split at h
      · simp at h
      · simp at h
    · simp at h
theorem ju {o:Oper} {T:Env} {d:Nat} {want:Bool} (h:rH n all o=some (some (d,want))) :
    (∀ b,T d=.val (.bool b)→cM n all T o=some (b == want))∧(T d=.bc []→cM n all T o=some false):=by
  unfold rH at h
  unfold cM
  split at h
  · simp at h
  · rename_i j w hg
    rw[hg]
    split at h
    · rename_i d' hd
      split at h
      · rename_i hlt
        simp at h
        obtain ⟨rfl,rfl⟩:=h
        simp only[hd,hlt,if_true]
        exact ⟨fun b hb=>by rw[hb],fun hb=>by rw[hb]⟩
      · simp at h
    · simp at h
theorem jE {fz:Fz} {os:List Oper} (h:cU P n all fz os=some []):os=[]:=by
  cases os with
  | nil=>rfl
  | cons o r =>
    simp only[cU] at h
    split at h <;> simp at h
theorem j9 {fz:Fz} {os:List Oper} {s:SO} {l:List SO} (h:cU P n all fz os=some (s :: l)):∃ o r,os=o :: r∧Cu P n all fz o=some s∧cU P n all fz r=some l:=by
  cases os with
  | nil=>simp[cU] at h
  | cons o r =>
    simp only[cU] at h
    split at h
    · rename_i s' l' h1 h2
      simp at h
      obtain ⟨rfl,rfl⟩:=h
      exact ⟨o,r,rfl,h1,h2⟩
    · simp at h
theorem oh {fz:Fz} : ∀ {l l':List SO} {os:List Oper},cU P n all fz os=some (l ++ l')→∃ a b,os=a ++ b∧cU P n all fz a=some l∧cU P n all fz b=some l'
  | [],l',os,h=>⟨[],os,rfl,rfl,h⟩
  | s :: l,l',os,h=>by
    obtain ⟨o,r,rfl,h1,h2⟩:=j9 h
    obtain ⟨a,b,rfl,h3,h4⟩:=oh h2
    exact ⟨o :: a,b,rfl,by simp[cU,h1,h3],h4⟩
theorem Tr.append {a b:List Oper} {T T1 T2:Env} {h h1 h2:aB} {r1 r2:List Rec} (x:Tr P n all a T h r1 T1 h1) (y:Tr P n all b T1 h1 r2 T2 h2):Tr P n all (a ++ b) T h (r1 ++ r2) T2 h2:=by
  induction x with
  | nil=>exact y
  | cons st hd _ ih=>exact .cons st hd (ih y)
theorem xp {T:Env} {d:Nat} {v:V} (h:T d=v):T.put (some d) v=T:=by
  funext t
  simp only[Env.put]
  split
  · rename_i e; subst e; exact h.symm
  · rfl
theorem CP {fz:Fz} {quiet:Bool} {K:Env→View→Prop} (g:Option (Nat × Bool)):∀ (l:List (Option Nat × SB)) (os:List Oper) (T:Env) (h:aB),
    cU P n all fz os=some (l.map fun (d,b)=>⟨d,g,b⟩)→(∀ d w,g=some (d,w)→T d=.val (.bool w)∧(l.all fun x=>x.1 != some d)=true)→vg P quiet l T h.view K →
    ∃ recs T' h',Tr P n all os T h recs T' h'∧(gC h h'∧h.length≤h'.length)∧K T' h'.view∧eN P quiet (l.map fun (d,b)=>⟨d,g,b⟩) recs
  | [],os,T,h,hc,hg,hw=>by
    have:=jE hc; subst this
    exact ⟨[],T,h,.nil,⟨.refl _,Nat.le_refl _⟩,hw,.nil⟩
  | (d,b) :: l,os,T,h,hc,hg,hw=>by
    obtain ⟨o,r,rfl,h1,h2⟩:=j9 hc
    obtain ⟨hd,hd1,hb1,hg1⟩:=qu h1
    simp only at hd1 hb1 hg1
    have hgv:cM n all T o=some true:=by
      cases g with
      | none=>exact za hg1
      | some p =>
        obtain ⟨d',w⟩:=p
        have:=(ju (T:=T) hg1).1 w (hg d' w rfl).1
        rw[this]; simp
    simp only[vg] at hw
    rw[hb1] at hw
    obtain ⟨v,h',rd,wr,call,st,hst,hk,hl⟩:=MQ hgv hw
    obtain ⟨recs,T',h'',tr,hst',hk',hro⟩:=CP g l r (T.put d v) h' h2 (fun d' w e=>by
      have:=hg d' w e
      simp only[List.all_cons,Bool.and_eq_true,bne_iff_ne,ne_eq] at this
      refine ⟨?_,this.2.2⟩
      rw[← this.1]
      cases d with
      | none=>rfl
      | some t=>simp only[Env.put]; rw[if_neg]; intro e; subst e; exact this.2.1 rfl) hk
    rw[hd1] at tr
    have hlen:=st.len
    exact ⟨_,T',h'',.cons st hd tr,⟨hst.trans hst'.1 hlen,Nat.le_trans hlen hst'.2⟩,hk',hro.cons (by rw[hb1]; exact hl)⟩
theorem AO {fz:Fz} {quiet:Bool} (d:Nat) (w:Bool) (h:aB):∀ (l:List (Option Nat × SB)) (os:List Oper) (T:Env),
    cU P n all fz os=some (l.map fun (d',b)=>⟨d',some (d,w),b⟩)→(T d=.val (.bool !w)∨T d=.bc [])→(l.all fun x=>x.1 != some d)=true →
    ∃ recs,Tr P n all os T h recs (gm l T) h∧eN P quiet (l.map fun (d',b)=>⟨d',some (d,w),b⟩) recs
  | [],os,T,hc,hd,hl=>by
    have:=jE hc; subst this
    exact ⟨[],.nil,.nil⟩
  | (d',b) :: l,os,T,hc,hd,hl=>by
    obtain ⟨o,r,rfl,h1,h2⟩:=j9 hc
    obtain ⟨hd0,hd1,hb1,hg1⟩:=qu h1
    simp only at hd1 hb1 hg1
    have hgv:cM n all T o=some false:=by
      rcases hd with hd | hd
      · rw[(ju (T:=T) hg1).1 _ hd]; cases w <;> rfl
      · exact (ju (T:=T) hg1).2 hd
    simp only[List.all_cons,Bool.and_eq_true,bne_iff_ne,ne_eq] at hl
    obtain ⟨recs,tr,hro⟩:=AO d w h l r (T.put d' (.bc [])) h2 (by
      have:(T.put d' (.bc [])) d=T d:=by
        cases d' with
        | none=>rfl
        | some t=>simp only[Env.put]; rw[if_neg]; intro e; subst e; exact hl.1 rfl
      rw[this]; exact hd) hl.2
    rw[hd1] at tr
    refine ⟨_,?_,hro.cons (r:=⟨[],[],false,h.length,h.length⟩) ⟨fun _=>⟨rfl,rfl,rfl,rfl⟩,fun _=>rfl⟩⟩
    have:=Tr.cons (.skip hgv) hd0 tr
    rw[gm,hd1]
    exact this
theorem Od {fz:Fz} {quiet:Bool} {K:Env→View→Prop} {g:SG} {os:List Oper} {T:Env} {h:aB} (hc:cU P n all fz os=some g.flat) (hok:qh g=true) (hw:wG P quiet g T h.view K) :
    ∃ recs T' h',Tr P n all os T h recs T' h'∧(gC h h'∧h.length≤h'.length)∧K T' h'.view∧eN P quiet g.flat recs:=by
  unfold wG at hw
  unfold SG.flat at hc ⊢
  unfold qh at hok
  split at hw
  · rename_i hg
    rw[hg] at hc ⊢
    exact CP none g.ops os T h hc (fun d w e=>by simp at e) hw
  · rename_i d want hg
    rw[hg] at hc hok ⊢
    simp only at hok
    split at hw
    · rename_i b hb
      by_cases e:b=want
      · subst e
        have:=hw.1 rfl
        rw[xp hb] at this
        exact CP (some (d,b)) g.ops os T h hc (fun d' w e=>by simp at e; obtain ⟨rfl,rfl⟩:=e; exact ⟨hb,hok⟩) this
      · have e':b = !want:=by cases b <;> cases want <;> simp_all
        have:=hw.2 e'
        subst e'
        rw[xp hb] at this
        obtain ⟨recs,tr,hro⟩:=AO (quiet:=quiet) d want h g.ops os T hc (.inl hb) hok
        exact ⟨recs,_,h,tr,⟨.refl _,Nat.le_refl _⟩,this,hro⟩
    · rename_i hb
      obtain ⟨recs,tr,hro⟩:=AO (quiet:=quiet) d want h g.ops os T hc (.inr hb) hok
      exact ⟨recs,_,h,tr,⟨.refl _,Nat.le_refl _⟩,hw,hro⟩
    · exact hw.elim
theorem uR {fz:Fz} {quiet:Bool} {K:Env→View→Prop} : ∀ (gs:List SG) (os:List Oper) (T:Env) (h:aB),cU P n all fz os=some (iN gs)→gs.all qh=true→tL P quiet gs T h.view K →
    ∃ recs T' h',Tr P n all os T h recs T' h'∧(gC h h'∧h.length≤h'.length)∧K T' h'.view∧eN P quiet (iN gs) recs
  | [],os,T,h,hc,_,hw=>by
    have:=jE hc; subst this
    exact ⟨[],T,h,.nil,⟨.refl _,Nat.le_refl _⟩,hw,.nil⟩
  | g :: gs,os,T,h,hc,hok,hw=>by
    simp only[iN,List.map_cons,List.flatten_cons] at hc ⊢
    simp only[List.all_cons,Bool.and_eq_true] at hok
    obtain ⟨a,b,rfl,h1,h2⟩:=oh hc
    obtain ⟨r1,T1,h1',tr1,st1,hk1,ro1⟩:=Od h1 hok.1 hw
    obtain ⟨r2,T2,h2',tr2,st2,hk2,ro2⟩:=uR gs b T1 h1' h2 hok.2 hk1
    exact ⟨_,T2,h2',tr1.append tr2,⟨st1.1.trans st2.1 st1.2,Nat.le_trans st1.2 st2.2⟩,hk2,ro1.append ro2⟩
theorem Tr.at_ {os:List Oper} {T T':Env} {h h':aB} {recs:List Rec} (tr:Tr P n all os T h recs T' h'):∀ (i:Nat) (o:Oper),os[i]?=some o →
    ∃ T1 h1 v h2 rd wr call recs2,recs[i]?=some ⟨rd,wr,call,h1.length,h2.length⟩∧c5 P n all o T1 h1 v h2 rd wr call∧h.length≤h1.length∧Tr P n all (os.drop (i+1)) (T1.put o.dst v) h2 recs2 T' h'∧(∀ m,recs2[m]?=recs[i+1+m]?) ∧
      (∀ t,(∀ o'∈os.take i,o'.dst≠some t)→T1 t=T t):=by
  induction tr with
  | nil=>intro i o hi; simp at hi
  | @cons o0 rest T T' h h1 h' v rd wr call recs st hd tr ih =>
    intro i o hi
    cases i with
    | zero =>
      simp at hi; subst hi
      exact ⟨T,h,v,h1,rd,wr,call,recs,rfl,st,Nat.le_refl _,by simpa using tr,fun m=>by rw[show 0+1+m=m+1 by omega,List.getElem?_cons_succ],fun t _=>rfl⟩
    | succ i =>
      simp at hi
      obtain ⟨T1,h2,v2,h3,rd2,Nq,call2,recs2,e1,e2,e3,e4,e5,e6⟩:=ih i o hi
      have hlen:h.length≤h1.length:=by
        cases st with
        | skip=>exact Nat.le_refl _
        | op _ _=>rename_i eff _ _; cases eff <;> simp[aY.apply]
        | gV _ _ _=>exact Nat.le_refl _
        | eS _ _ _ _ _ _=>exact Nat.le_refl _
        | call _ _ _ _ ha _ _=>exact ha.1
      refine ⟨T1,h2,v2,h3,rd2,Nq,call2,recs2,by simpa using e1,e2,Nat.le_trans hlen e3,by simpa using e4,fun m=>?_,fun t ht=>?_⟩
      · rw[e5,show i+1+1+m=(i+1+m)+1 by omega,List.getElem?_cons_succ]
      · simp only[List.take_succ_cons,List.mem_cons] at ht
        rw[e6 t fun o' ho'=>ht o' (.inr ho')]
        have:=ht o0 (.inl rfl)
        cases hdst:o0.dst with
        | none=>rfl
        | some d=>simp only[Env.put]; rw[if_neg]; rintro rfl; exact this hdst
theorem HW {o:Oper} {T:Env} {h h':aB} {v:V} {rd wr:List Nat} {call:Bool} (st:c5 P n all o T h v h' rd wr call) (ha:xT o=true) (hg:o.guard=none):v=.ptr h.length 0 0:=by
  unfold xT at ha
  have hgv:cM n all T o=some true:=by unfold cM; rw[hg]
  cases st with
  | skip hs=>rw[hgv] at hs; simp at hs
  | op _ hop =>
    split at ha
    · rename_i e ho
      simp only[bT,ho] at hop
      split at hop
      · unfold j0 at hop
        split at hop
        · simp at hop; exact hop.1.symm
        · simp at hop
      · simp at hop
    · simp at ha
  | gV _ ho _=>rw[ho] at ha; simp at ha
  | eS _ ho _ _ _ _=>rw[ho] at ha; simp at ha
  | call _ ho _ _ _ _ _=>rw[ho] at ha; simp at ha
theorem HE {o:Oper} {T:Env} {h h':aB} {v:V} {rd wr:List Nat} {call:Bool} {t id i j:Nat} (st:c5 P n all o T h v h' rd wr call) (ha:jj o=some t) (ht:T t=.ptr id i j):wr=[id]∧call=false:=by
  unfold jj at ha
  split at ha
  · rename_i ty t' x ho hg
    simp at ha; subst ha
    have hgv:cM n all T o=some true:=by unfold cM; rw[hg]
    cases st with
    | skip hs=>rw[hgv] at hs; simp at hs
    | op _ hop =>
      have e1:ev T (.tmp t')=.ptr id i j:=ht
      simp only[bT,ho,e1,nq] at hop
      split at hop
      · split at hop
        · simp only[Option.some.injEq,Prod.mk.injEq] at hop
          obtain ⟨_,he,_⟩:=hop
          rw[← he]; exact ⟨rfl,rfl⟩
        · simp at hop
      · simp at hop
    | gV _ ho' _=>rw[ho] at ho'; simp at ho'
    | eS _ ho' _ _ _ _=>rw[ho] at ho'; simp at ho'
    | call _ ho' _ _ _ _ _=>rw[ho] at ho'; simp at ho'
  · simp at ha
theorem IK {o:Oper} {T:Env} {h h':aB} {v:V} {rd wr:List Nat} {call:Bool} (st:c5 P n all o T h v h' rd wr call) (ha:z6 o=true):wr=[]∧call=false∧∀ id,id∈rd→id < h.length:=by
  unfold z6 at ha
  cases st with
  | skip _=>exact ⟨rfl,rfl,fun id hid=>by simp at hid⟩
  | op _ hop =>
    split at ha
    · rename_i e a ho
      simp only[bT,ho,kh] at hop
      split at hop
      · rename_i id i j hx
        split at hop
        · rename_i z es hH
          split at hop
          · simp only[Option.map_eq_some_iff] at hop
            obtain ⟨_,_,hop⟩:=hop
            simp at hop
            obtain ⟨_,rfl,rfl⟩:=hop
            refine ⟨rfl,rfl,fun id' hid=>?_⟩
            simp at hid; subst hid
            exact fU (by rw[hH]; simp)
          · simp at hop
        · simp at hop
      · simp only[Option.map_eq_some_iff] at hop
        obtain ⟨_,_,hop⟩:=hop
        simp at hop
        obtain ⟨_,rfl,rfl⟩:=hop
        exact ⟨rfl,rfl,fun id hid=>by simp at hid⟩
      · simp at hop
    · simp at ha
  | gV _ ho _=>rw[ho] at ha; simp at ha
  | eS _ ho _ _ _ _=>rw[ho] at ha; simp at ha
  | call _ ho _ _ _ _ _=>rw[ho] at ha; simp at ha
theorem s7 {T T':Env} {h h':aB} {recs:List Rec} (tr:Tr P n all all T h recs T' h') {i k:Nat} {a b:Rec} (hp:vS all i k=true) (ha:recs[i]?=some a) (hb:recs[k]?=some b):lE a b:=by
  unfold vS at hp
  split at hp
  · rename_i oa ob hoa hob
    rw[Bool.and_eq_true] at hp
    obtain ⟨hl,hp⟩:=hp
    split at hp
    · rename_i t hst
      rw[List.any_eq_true] at hp
      obtain ⟨j,hj,hp⟩:=hp
      rw[List.mem_range] at hj
      rw[Bool.and_eq_true,decide_eq_true_eq] at hp
      obtain ⟨hij,hown⟩:=hp
      unfold NH at hown
      split at hown
      · rename_i oj hoj
        simp only[Bool.and_eq_true,beq_iff_eq,List.all_eq_true,bne_iff_ne,ne_eq,Option.isNone_iff_eq_none] at hown
        obtain ⟨⟨⟨w1,w2⟩,w3⟩,w4⟩:=hown
        obtain ⟨T1,h1,v1,h2,rd1,Oo,c1,recs1,e1,e2,e3,e4,e5,_⟩:=tr.at_ i oa hoa
        obtain ⟨Tj,hj1,vj,hj2,rdj,wrj,cj,recsj,f1,f2,f3,f4,f5,_⟩:=e4.at_ (j - (i+1)) oj (by rw[List.getElem?_drop,show i+1+(j - (i+1))=j by omega]; exact hoj)
        have hdr:(all.drop (i+1)).drop (j - (i+1)+1)=all.drop (j+1):=by rw[List.drop_drop]; congr 1; omega
        rw[hdr] at f4
        obtain ⟨Tk,hk1,vk,hk2,rdk,wrk,ck,recsk,g1,g2,g3,_,_,g6⟩:=f4.at_ (k - (j+1)) ob (by rw[List.getElem?_drop,show j+1+(k - (j+1))=k by omega]; exact hob)
        rw[ha] at e1
        have hae:=(Option.some.inj e1)
        have hbe:recs[k]?=some ⟨rdk,wrk,ck,hk1.length,hk2.length⟩:=by
          rw[← g1,f5,e5]; congr 1; omega
        rw[hb] at hbe
        have hbe:=Option.some.inj hbe
        have hv:=HW f2 w3 w2
        have hTk:Tk t=.ptr hj1.length 0 0:=by
          rw[g6 t fun o' ho'=>w4 o' ho',w1,hv]
          simp[Env.put]
        obtain ⟨s1,s2⟩:=HE g2 hst hTk
        obtain ⟨l1,l2,l3⟩:=IK e2 hl
        rw[hae,hbe]
        have hlen:h1.length≤h2.length:=by
          cases e2 with
          | skip=>exact Nat.le_refl _
          | op _ _=>rename_i eff _ _; cases eff <;> simp[aY.apply]
          | gV _ _ _=>exact Nat.le_refl _
          | eS _ _ _ _ _ _=>exact Nat.le_refl _
          | call _ _ _ _ ha _ _=>exact ha.1
        refine ⟨fun id hid=>by simp[l1] at hid,fun id hid=>?_,fun hc=>by simp[l2] at hc,fun _=>l1,fun id hid=>?_⟩
        · simp only[s1,List.mem_singleton] at hid
          subst hid
          intro hr
          have:=l3 _ hr
          omega
        · simp only[s1,List.mem_singleton] at hid
          subst hid
          simp only
          omega
      · simp at hown
    · simp at hp
  · simp at hp
theorem Li {ls:List Nat} {recs:List Rec} {T T':Env} {hp hp':aB} (tr:Tr P n all all T hp recs T' hp') (h:CB all ls=true) (hl:ls.length=recs.length) (hr:∀ (i x:Nat) (r:Rec),ls[i]?=some x→recs[i]?=some r→jb x r.rd r.wr r.call r.lo r.hi):qS all recs:=by
  intro i k a b hik ha hb ho
  have hi:i < recs.length:=(List.getElem?_eq_some_iff.1 ha).1
  have hk:k < recs.length:=(List.getElem?_eq_some_iff.1 hb).1
  unfold CB at h
  simp only[List.all_eq_true] at h
  have h1:=h (ls[i]'(by omega),i) (by rw[List.mem_zipIdx_iff_getElem?]; simp[List.getElem?_eq_getElem (show i < ls.length by omega)])
    (ls[k]'(by omega),k) (by rw[List.mem_zipIdx_iff_getElem?]; simp[List.getElem?_eq_getElem (show k < ls.length by omega)])
  have la:=hr i _ a (List.getElem?_eq_getElem (by omega)) ha
  have lb:=hr k _ b (List.getElem?_eq_getElem (by omega)) hb
  simp only[hik,decide_true,Bool.not_true,ho,Bool.false_or,Bool.or_eq_true,beq_iff_eq,Bool.and_eq_true,decide_eq_true_eq] at h1
  rcases h1 with ((h1 | h1) | h1) | h1
  · obtain ⟨e1,e2,e3,e4⟩:=la.1 h1
    exact ⟨fun id hid=>by simp[e2] at hid,fun id _=>by simp[e1],fun hc=>by simp[e3] at hc,fun _=>e2,fun id _ hx=>by omega⟩
  · obtain ⟨e1,e2,e3,e4⟩:=lb.1 h1
    exact ⟨fun id _=>by simp[e1],fun id hid=>by simp[e2] at hid,fun _=>e2,fun hc=>by simp[e3] at hc,fun id hid=>by simp[e2] at hid⟩
  · have e1:=la.2 h1.1
    have e2:=lb.2 h1.2
    exact ⟨fun id hid=>by simp[e1] at hid,fun id hid=>by simp[e2] at hid,fun _=>e2,fun _=>e1,fun id hid=>by simp[e2] at hid⟩
  · exact s7 tr h1 ha hb
theorem Tr.keep {os:List Oper} {T T':Env} {h h':aB} {recs:List Rec} (tr:Tr P n all os T h recs T' h') {t:Nat} (ht:∀ o∈os,o.dst≠some t):T' t=T t:=by
  induction tr with
  | nil=>rfl
  | @cons o0 rest T T' h h1 h' v rd wr call recs st hd tr ih =>
    rw[ih fun o ho=>ht o (by simp[ho])]
    have:=ht o0 (by simp)
    cases hdst:o0.dst with
    | none=>rfl
    | some d=>simp only[Env.put]; rw[if_neg]; rintro rfl; exact this hdst
theorem sM {o:Oper} {T:Env} {h h':aB} {v:V} {rd wr:List Nat} {call:Bool} {t:Nat} (st:c5 P n all o T h v h' rd wr call) (ha:oX o=some t):wr=[]∧call=false∧h'.length=h.length∧∀ id,id∈rd→∃ i j,T t=.ptr id i j:=by
  unfold oX at ha
  split at ha
  · rename_i e t' ho
    simp at ha; subst ha
    cases st with
    | skip _=>exact ⟨rfl,rfl,rfl,fun id hid=>by simp at hid⟩
    | op _ hop =>
      simp only[bT,ho,kh] at hop
      split at hop
      · rename_i id i j hx
        split at hop
        · split at hop
          · simp only[Option.map_eq_some_iff] at hop
            obtain ⟨_,_,hop⟩:=hop
            simp at hop
            obtain ⟨_,rfl,rfl⟩:=hop
            refine ⟨rfl,rfl,rfl,fun id' hid=>?_⟩
            simp at hid; subst hid
            exact ⟨i,j,hx⟩
          · simp at hop
        · simp at hop
      · simp only[Option.map_eq_some_iff] at hop
        obtain ⟨_,_,hop⟩:=hop
        simp at hop
        obtain ⟨_,rfl,rfl⟩:=hop
        exact ⟨rfl,rfl,rfl,fun id hid=>by simp at hid⟩
      · simp at hop
    | gV _ ho' _=>rw[ho] at ho'; simp at ho'
    | eS _ ho' _ _ _ _=>rw[ho] at ho'; simp at ho'
    | call _ ho' _ _ _ _ _=>rw[ho] at ho'; simp at ho'
  · simp at ha
theorem sD {i t:Nat} (h:stays all i t=true):∀ o∈all.drop i,o.dst≠some t:=by
  intro o ho
  have:=List.all_eq_true.1 h o ho
  simpa using this
theorem xL {aps:List (Nat × Nat)} {T:Env} {K:Prop} (hA:ve aps T K):∀ p∈aps,gp (T p.1) (T p.2):=by
  induction aps with
  | nil=>intro p hp; simp at hp
  | cons q l ih =>
    intro p hp
    rcases List.mem_cons.1 hp with rfl | hp
    · exact hA.1
    · exact ih hA.2 p hp
theorem ve.rest {aps:List (Nat × Nat)} {T:Env} {K:Prop} (hA:ve aps T K):K:=by
  induction aps with
  | nil=>exact hA
  | cons q l ih=>exact ih hA.2
theorem nP {T T':Env} {h h':aB} {recs:List Rec} (tr:Tr P n all all T h recs T' h') {i t:Nat} {o:Oper} (ho:all[i]?=some o) (hs:stays all i t=true) {r:Rec} (hr:recs[i]?=some r) :
    ∃ T1 h1 v h2,c5 P n all o T1 h1 v h2 r.rd r.wr r.call∧r.lo=h1.length∧r.hi=h2.length∧T1 t=T' t:=by
  obtain ⟨T1,h1,v,h2,rd,wr,call,recs2,e1,e2,e3,e4,e5,e6⟩:=tr.at_ i o ho
  rw[hr] at e1
  have e1:=Option.some.inj e1
  subst e1
  refine ⟨T1,h1,v,h2,e2,rfl,rfl,?_⟩
  have hk:=sD hs
  have hi:i < all.length:=(List.getElem?_eq_some_iff.1 ho).1
  have ho':all[i]=o:=(List.getElem?_eq_some_iff.1 ho).2
  rw[List.drop_eq_getElem_cons hi,ho'] at hk
  rw[e4.keep fun o' ho'=>hk o' (by simp[ho'])]
  have:=hk o (by simp)
  cases hdst:o.dst with
  | none=>rfl
  | some d=>simp only[Env.put]; rw[if_neg]; rintro rfl; exact this hdst
theorem wa {i a b j c d:Nat} (h:gp (.ptr i a b) (.ptr j c d)):i≠j:=h
theorem zx {i a b j c d e:Nat} (h:gp (.ptr i a b) (.sl j c d e)):i≠j:=h
theorem oG {o:Oper} {T:Env} {h h':aB} {v:V} {rd wr:List Nat} {call:Bool} {t:Nat} (st:c5 P n all o T h v h' rd wr call) (ha:mq o=some t) :
    call=false∧∀ id,id∈wr→(∃ i j,T t=.ptr id i j)∨∃ a b c,T t=.sl id a b c:=by
  unfold mq at ha
  split at ha
  · rename_i t' hs
    simp at ha; subst ha
    unfold jj at hs
    split at hs
    · rename_i ty t2 x ho hg
      simp at hs; subst hs
      cases st with
      | skip _=>exact ⟨rfl,fun id hid=>by simp at hid⟩
      | op _ hop =>
        simp only[bT,ho,nq] at hop
        split at hop
        · rename_i id i j hx
          split at hop
          · split at hop
            · simp only[Option.some.injEq,Prod.mk.injEq] at hop
              obtain ⟨_,he,_⟩:=hop
              rw[← he]
              refine ⟨rfl,fun id' hid=>?_⟩
              simp[aY.wr] at hid; subst hid
              exact .inl ⟨i,j,hx⟩
            · simp at hop
          · simp at hop
        · simp at hop
      | gV _ ho' _=>rw[ho] at ho'; simp at ho'
      | eS _ ho' _ _ _ _=>rw[ho] at ho'; simp at ho'
      | call _ ho' _ _ _ _ _=>rw[ho] at ho'; simp at ho'
    · simp at hs
  · unfold JB at ha
    split at ha
    · rename_i args ats ho hg
      split at ha
      · rename_i t2 y hl
        simp at ha; subst ha
        cases st with
        | skip _=>exact ⟨rfl,fun id hid=>by simp at hid⟩
        | op _ hop =>
          simp only[bT,ho,hl] at hop
          split at hop
          · unfold kH at hop
            split at hop
            · split at hop
              · simp at hop
              · split at hop
                · split at hop <;> first | (simp only[Option.some.injEq,Prod.mk.injEq] at hop; obtain ⟨_,he,_⟩:=hop; rw[← he]; exact ⟨rfl,fun id' hid=>by simp[aY.wr] at hid⟩) | simp at hop
                · split at hop
                  · simp at hop
                  · split at hop
                    · split at hop
                      · simp only[Option.some.injEq,Prod.mk.injEq] at hop
                        obtain ⟨_,he,_⟩:=hop
                        rw[← he]; exact ⟨rfl,fun id' hid=>by simp[aY.wr] at hid⟩
                      · simp at hop
                    · rename_i id off len esz hx
                      split at hop
                      · split at hop
                        · simp only[Option.some.injEq,Prod.mk.injEq] at hop
                          obtain ⟨_,he,_⟩:=hop
                          rw[← he]
                          refine ⟨rfl,fun id' hid=>?_⟩
                          simp[aY.wr] at hid; subst hid
                          exact .inr ⟨off,len,esz,hx⟩
                        · simp at hop
                      · simp at hop
                    · simp at hop
            · simp at hop
          · split at hop
            · unfold sQ at hop
              repeat' (split at hop)
              all_goals first | (simp only[Option.some.injEq,Prod.mk.injEq] at hop; obtain ⟨_,he,_⟩:=hop; rw[← he]; exact ⟨rfl,fun id' hid=>by simp[aY.wr] at hid⟩) | simp at hop
            · simp at hop
        | gV _ ho' _=>rw[ho] at ho'; simp at ho'
        | eS _ ho' _ _ _ _=>rw[ho] at ho'; simp at ho'
        | call _ ho' _ _ _ _ _=>rw[ho] at ho'; simp at ho'
      · simp at ha
    · simp at ha
theorem KK {o:Oper} {T:Env} {h h':aB} {v:V} {rd wr:List Nat} {call:Bool} (st:c5 P n all o T h v h' rd wr call) (ha:EU o=true):rd=[]∧wr=[]∧call=false:=by
  unfold EU at ha
  cases st with
  | skip _=>exact ⟨rfl,rfl,rfl⟩
  | op _ hop =>
    split at ha
    · rename_i ty len parts ho
      simp only[bT,ho,fN] at hop
      have key:∀ {x:Option (V × aY × List Nat)} {e:aY},x=some (v,e,rd)→(∀ y,x=some y→y.2.1.wr=[]∧y.2.2=[])→rd=[]∧e.wr=[]:=fun hx hy=>⟨(hy _ hx).2,(hy _ hx).1⟩
      obtain ⟨k1,k2⟩:=key hop (by
        intro y hy
        repeat' (first | (split at hy) | (simp only[Option.some.injEq] at hy; subst hy; exact ⟨rfl,rfl⟩) | (simp at hy; done)))
      exact ⟨k1,k2,rfl⟩
    · rename_i e ho
      simp only[bT,ho] at hop
      split at hop
      · unfold j0 at hop
        split at hop
        · simp only[Option.some.injEq,Prod.mk.injEq] at hop
          obtain ⟨_,he,hr⟩:=hop
          rw[← he,← hr]; exact ⟨rfl,rfl,rfl⟩
        · simp at hop
      · simp at hop
    · simp at ha
  | gV _ ho _=>rw[ho] at ha; simp at ha
  | eS _ ho _ _ _ _=>rw[ho] at ha; simp at ha
  | call _ ho _ _ _ _ _=>rw[ho] at ha; simp at ha
theorem si {o:Oper} {t:Nat} (h:jj o=some t):mq o=some t:=by unfold mq; rw[h]
theorem Iy {T T':Env} {h h':aB} {recs:List Rec} (tr:Tr P n all all T h recs T' h') {i k:Nat} {a b:Rec} {p:Nat × Nat} (hp:y5 all i k=some p) (hA:gp (T' p.1) (T' p.2)) (ha:recs[i]?=some a) (hb:recs[k]?=some b):lE a b:=by
  unfold y5 at hp
  split at hp
  · rename_i oa ob hoa hob
    split at hp
    · rename_i s t hl hs
      split at hp
      · rename_i hst
        simp only[Bool.and_eq_true] at hst
        simp at hp; subst hp
        obtain ⟨Ta,ha1,va,ha2,sa,la1,la2,ea⟩:=nP tr hoa hst.1 ha
        obtain ⟨Tb,hb1,vb,hb2,sb,_,_,eb⟩:=nP tr hob hst.2 hb
        obtain ⟨l1,l2,l3,l4⟩:=sM sa hl
        have hA:gp (Ta s) (Tb t):=by rw[ea,eb]; exact hA
        refine ⟨fun id hid=>by simp[l1] at hid,fun id hid hr=>?_,fun hc=>by simp[l2] at hc,fun _=>l1,fun id _ hx=>by omega⟩
        obtain ⟨i',j',e1⟩:=l4 id hr
        rw[e1] at hA
        rcases (oG sb (si hs)).2 id hid with ⟨c,d,hy⟩ | ⟨c,d,e,hy⟩
        · rw[hy] at hA; exact wa hA rfl
        · rw[hy] at hA; exact zx hA rfl
      · simp at hp
    · split at hp
      · rename_i t s hs hl
        split at hp
        · rename_i hst
          simp only[Bool.and_eq_true] at hst
          simp at hp; subst hp
          obtain ⟨Ta,ha1,va,ha2,sa,la1,la2,ea⟩:=nP tr hoa hst.1 ha
          obtain ⟨Tb,hb1,vb,hb2,sb,lb1,lb2,eb⟩:=nP tr hob hst.2 hb
          obtain ⟨l1,l2,l3,l4⟩:=sM sb hl
          have hA:gp (Tb s) (Ta t):=by rw[ea,eb]; exact hA
          refine ⟨fun id hid hr=>?_,fun id hid=>by simp[l1] at hid,fun hc=>l1,fun hc=>by simp[l2] at hc,fun id hid=>by simp[l1] at hid⟩
          obtain ⟨i',j',e1⟩:=l4 id hr
          rw[e1] at hA
          rcases (oG sa (si hs)).2 id hid with ⟨c,d,hy⟩ | ⟨c,d,e,hy⟩
          · rw[hy] at hA; exact wa hA rfl
          · rw[hy] at hA; exact zx hA rfl
        · simp at hp
      · simp at hp
  · simp at hp
theorem HI {T T':Env} {h h':aB} {recs:List Rec} (tr:Tr P n all all T h recs T' h') {i k:Nat} {a b:Rec} {p:Nat × Nat} (hp:Ab all i k=some p) (hA:gp (T' p.1) (T' p.2)) (ha:recs[i]?=some a) (hb:recs[k]?=some b):lE a b:=by
  unfold Ab at hp
  split at hp
  · rename_i oa ob hoa hob
    split at hp
    · rename_i s t hl hs
      split at hp
      · rename_i hst
        simp only[Bool.and_eq_true] at hst
        simp at hp; subst hp
        obtain ⟨Ta,ha1,va,ha2,sa,la1,la2,ea⟩:=nP tr hoa hst.1 ha
        obtain ⟨Tb,hb1,vb,hb2,sb,_,_,eb⟩:=nP tr hob hst.2 hb
        obtain ⟨l1,l2,l3,l4⟩:=sM sa hl
        have hA:gp (Ta s) (Tb t):=by rw[ea,eb]; exact hA
        refine ⟨fun id hid=>by simp[l1] at hid,fun id hid hr=>?_,fun hc=>by simp[l2] at hc,fun _=>l1,fun id _ hx=>by omega⟩
        obtain ⟨i',j',e1⟩:=l4 id hr
        rw[e1] at hA
        rcases (oG sb hs).2 id hid with ⟨c,d,hy⟩ | ⟨c,d,e,hy⟩
        · rw[hy] at hA; exact wa hA rfl
        · rw[hy] at hA; exact zx hA rfl
      · simp at hp
    · split at hp
      · rename_i t s hs hl
        split at hp
        · rename_i hst
          simp only[Bool.and_eq_true] at hst
          simp at hp; subst hp
          obtain ⟨Ta,ha1,va,ha2,sa,la1,la2,ea⟩:=nP tr hoa hst.1 ha
          obtain ⟨Tb,hb1,vb,hb2,sb,lb1,lb2,eb⟩:=nP tr hob hst.2 hb
          obtain ⟨l1,l2,l3,l4⟩:=sM sb hl
          have hA:gp (Tb s) (Ta t):=by rw[ea,eb]; exact hA
          refine ⟨fun id hid hr=>?_,fun id hid=>by simp[l1] at hid,fun hc=>l1,fun hc=>by simp[l2] at hc,fun id hid=>by simp[l1] at hid⟩
          obtain ⟨i',j',e1⟩:=l4 id hr
          rw[e1] at hA
          rcases (oG sa hs).2 id hid with ⟨c,d,hy⟩ | ⟨c,d,e,hy⟩
          · rw[hy] at hA; exact wa hA rfl
          · rw[hy] at hA; exact zx hA rfl
        · simp at hp
      · simp at hp
  · simp at hp
theorem Iu {l:List (Nat × Nat)} {aps:List (Nat × Nat)} (h:yj all l=some aps):∀ q∈l,∃ p∈aps,y5 all q.1 q.2=some p:=by
  induction l generalizing aps with
  | nil=>intro q hq; simp at hq
  | cons x r ih =>
    obtain ⟨i,k⟩:=x
    simp only[yj] at h
    split at h
    · rename_i p l' h1 h2
      simp at h; subst h
      intro q hq
      rcases List.mem_cons.1 hq with rfl | hq
      · exact ⟨p,by simp,h1⟩
      · obtain ⟨p',hp',e⟩:=ih h2 q hq
        exact ⟨p',by simp[hp'],e⟩
    · simp at h
theorem G0 {l:List (Nat × Nat)} {aps:List (Nat × Nat)} (h:sj all l=some aps):∀ q∈l,∃ ps,(∀ p∈ps,p∈aps)∧wc all q.1 q.2=some ps:=by
  induction l generalizing aps with
  | nil=>intro q hq; simp at hq
  | cons x r ih =>
    obtain ⟨i,k⟩:=x
    simp only[sj] at h
    split at h
    · rename_i p l' h1 h2
      simp at h; subst h
      intro q hq
      rcases List.mem_cons.1 hq with rfl | hq
      · exact ⟨p,fun x hx=>by simp[hx],h1⟩
      · obtain ⟨p',hp',e⟩:=ih h2 q hq
        exact ⟨p',fun x hx=>by simp[hp' x hx],e⟩
    · simp at h
theorem II {H:View} {x:V} {xs:List (List V)} {rd:List Nat} (h:bG H x=some (xs,rd)):∀ id,id∈rd→∃ a b c,x=.sl id a b c:=by
  unfold bG at h
  split at h
  · simp at h; obtain ⟨_,rfl⟩:=h; intro id hid; simp at hid
  · simp at h; obtain ⟨_,rfl⟩:=h; intro id hid; simp at hid
  · simp at h; obtain ⟨_,rfl⟩:=h; intro id hid; simp at hid
  · simp at h; obtain ⟨_,rfl⟩:=h; intro id hid; simp at hid
  · split at h
    · split at h
      · simp at h
        obtain ⟨_,rfl⟩:=h
        intro id hid
        simp at hid; subst hid
        exact ⟨_,_,_,rfl⟩
      · simp at h
    · simp at h
  · simp at h; obtain ⟨_,rfl⟩:=h; intro id hid; simp at hid
  · simp at h
theorem DH {o:Oper} {T:Env} {h h':aB} {v:V} {rd wr:List Nat} {call:Bool} {t y d:Nat} (st:c5 P n all o T h v h' rd wr call) (ha:vV o=some (t,y,d)) :
    call=false∧(∀ id,id∈wr→∃ a b c,T t=.sl id a b c)∧(∀ id,id∈rd→(∃ a b c,T t=.sl id a b c)∨∃ a b c,T y=.sl id a b c)∧(h.length < h'.length→∃ a b c,v=.sl h.length a b c)∧h'.length≤h.length+1∧o.dst=some d:=by
  unfold vV at ha
  split at ha
  · rename_i args ats d' ho hg hd
    split at ha
    · rename_i t2 y2 hl
      simp at ha
      obtain ⟨rfl,rfl,rfl⟩:=ha
      cases st with
      | skip _=>exact ⟨rfl,fun id hid=>by simp at hid,fun id hid=>by simp at hid,fun h=>by omega,by omega,hd⟩
      | op _ hop =>
        simp only[bT,ho,hl] at hop
        have nn:∀ {v':V} {eff':aY} {rd':List Nat},some (v',aY.none,([]:List Nat))=some (v,eff',rd')→false=false∧(∀ id,id∈eff'.wr→∃ a b c,T t2=.sl id a b c)∧(∀ id,id∈rd'→(∃ a b c,T t2=.sl id a b c)∨∃ a b c,T y2=.sl id a b c)∧(h.length < (eff'.apply h).length→∃ a b c,v=.sl h.length a b c)∧(eff'.apply h).length≤h.length+1∧o.dst=some d':=by
          intro v' eff' rd' e
          simp only[Option.some.injEq,Prod.mk.injEq] at e
          obtain ⟨_,rfl,rfl⟩:=e
          exact ⟨rfl,fun id hid=>by simp[aY.wr] at hid,fun id hid=>by simp at hid,fun h=>by simp[aY.apply] at h,by simp[aY.apply],hd⟩
        split at hop
        · unfold kH at hop
          split at hop
          · rename_i e xs rd' _ hel
            have hrd:=II hel
            split at hop
            · simp at hop
            · split at hop
              · split at hop <;> first | exact nn hop | simp at hop
              · split at hop
                · simp at hop
                · split at hop
                  · split at hop
                    · simp only[Option.some.injEq,Prod.mk.injEq] at hop
                      obtain ⟨rfl,rfl,rfl⟩:=hop
                      exact ⟨rfl,fun id hid=>by simp[aY.wr] at hid,fun id hid=>.inr (hrd id hid),fun _=>⟨_,_,_,rfl⟩,by simp[aY.apply],hd⟩
                    · simp at hop
                  · rename_i id off len esz hx
                    split at hop
                    · split at hop
                      · simp only[Option.some.injEq,Prod.mk.injEq] at hop
                        obtain ⟨rfl,rfl,rfl⟩:=hop
                        refine ⟨rfl,fun id' hid=>?_,fun id' hid=>?_,fun _=>⟨_,_,_,rfl⟩,by simp[aY.apply],hd⟩
                        · simp[aY.wr] at hid; subst hid
                          exact ⟨off,len,esz,hx⟩
                        · rcases List.mem_cons.1 hid with rfl | hid
                          · exact .inl ⟨off,len,esz,hx⟩
                          · exact .inr (hrd id' hid)
                      · simp at hop
                    · simp at hop
                  · simp at hop
          · simp at hop
        · split at hop
          · unfold sQ at hop
            split at hop
            · split at hop
              · split at hop
                · exact nn hop
                · split at hop
                  · simp only[Option.some.injEq,Prod.mk.injEq] at hop
                    obtain ⟨rfl,rfl,rfl⟩:=hop
                    exact ⟨rfl,fun id hid=>by simp[aY.wr] at hid,fun id hid=>by simp at hid,fun _=>⟨_,_,_,rfl⟩,by simp[aY.apply],hd⟩
                  · simp at hop
              · simp at hop
            · simp at hop
          · simp at hop
      | gV _ ho' _=>rw[ho] at ho'; simp at ho'
      | eS _ ho' _ _ _ _=>rw[ho] at ho'; simp at ho'
      | call _ ho' _ _ _ _ _=>rw[ho] at ho'; simp at ho'
    · simp at ha
  · simp at ha
theorem Jy {T T':Env} {h h':aB} {recs:List Rec} (tr:Tr P n all all T h recs T' h') {i:Nat} {o:Oper} (ho:all[i]?=some o) {r:Rec} (hr:recs[i]?=some r) :
    ∃ T1 h1 v h2,c5 P n all o T1 h1 v h2 r.rd r.wr r.call∧r.lo=h1.length∧r.hi=h2.length∧(∀ t,stays all i t=true→T1 t=T' t)∧∀ d,o.dst=some d→stays all (i+1) d=true→T' d=v:=by
  obtain ⟨T1,h1,v,h2,rd,wr,call,recs2,e1,e2,e3,e4,e5,e6⟩:=tr.at_ i o ho
  rw[hr] at e1
  have e1:=Option.some.inj e1
  subst e1
  refine ⟨T1,h1,v,h2,e2,rfl,rfl,fun t hs=>?_,fun d hd hs=>?_⟩
  · have hk:=sD hs
    have hi:i < all.length:=(List.getElem?_eq_some_iff.1 ho).1
    have ho':all[i]=o:=(List.getElem?_eq_some_iff.1 ho).2
    rw[List.drop_eq_getElem_cons hi,ho'] at hk
    rw[e4.keep fun o' ho'=>hk o' (by simp[ho'])]
    have:=hk o (by simp)
    cases hdst:o.dst with
    | none=>rfl
    | some d=>simp only[Env.put]; rw[if_neg]; rintro rfl; exact this hdst
  · rw[e4.keep (sD hs),hd]
    simp[Env.put]
theorem vE {i a b c j d e f:Nat} (h:gp (.sl i a b c) (.sl j d e f)):i≠j:=h
theorem HC {T T':Env} {h h':aB} {recs:List Rec} (tr:Tr P n all all T h recs T' h') {i k:Nat} {a b:Rec} {ps:List (Nat × Nat)} (hp:z7 all i k=some ps) (hA:∀ p∈ps,gp (T' p.1) (T' p.2)) (ha:recs[i]?=some a) (hb:recs[k]?=some b):lE a b:=by
  unfold z7 at hp
  split at hp
  · rename_i oa ob hoa hob
    split at hp
    · rename_i t y d t' y' d' h1 h2
      split at hp
      · rename_i hst
        simp only[Bool.and_eq_true] at hst
        obtain ⟨⟨⟨⟨s1,s2⟩,s3⟩,s4⟩,s5⟩:=hst
        simp at hp; subst hp
        have a1:=hA (t,t') (by simp)
        have a2:=hA (t,y') (by simp)
        have a3:=hA (t',y) (by simp)
        have a4:=hA (d,t') (by simp)
        simp only at a1 a2 a3 a4
        obtain ⟨Ta,ha1,va,ha2,sa,la1,la2,ea,da⟩:=Jy tr hoa ha
        obtain ⟨Tb,hb1,vb,hb2,sb,_,_,eb,_⟩:=Jy tr hob hb
        obtain ⟨p1,p2,p3,p4,p5,p6⟩:=DH sa h1
        obtain ⟨q1,q2,q3,_⟩:=DH sb h2
        have da:=da d p6 s3
        rw[← ea t s1,← eb t' s4] at a1
        rw[← ea t s1,← eb y' s5] at a2
        rw[← eb t' s4,← ea y s2] at a3
        rw[da,← eb t' s4] at a4
        refine ⟨fun id hid hr=>?_,fun id hid hr=>?_,fun hc=>by rw[p1] at hc; simp at hc,fun hc=>by rw[q1] at hc; simp at hc,fun id hid hx=>?_⟩
        · obtain ⟨_,_,_,e⟩:=p2 id hid
          rcases q3 id hr with ⟨_,_,_,e'⟩ | ⟨_,_,_,e'⟩
          · rw[e,e'] at a1; exact vE a1 rfl
          · rw[e,e'] at a2; exact vE a2 rfl
        · obtain ⟨_,_,_,e⟩:=q2 id hid
          rcases p3 id hr with ⟨_,_,_,e'⟩ | ⟨_,_,_,e'⟩
          · rw[e',e] at a1; exact vE a1 rfl
          · rw[e,e'] at a3; exact vE a3 rfl
        · obtain ⟨_,_,_,e⟩:=q2 id hid
          obtain ⟨_,_,_,e'⟩:=p4 (by omega)
          have:id=ha1.length:=by omega
          subst this
          rw[e,e'] at a4; exact vE a4 rfl
      · simp at hp
    · simp at hp
  · simp at hp
theorem Hz {T T':Env} {h h':aB} {recs:List Rec} (tr:Tr P n all all T h recs T' h') {i k:Nat} {a b:Rec} {ps:List (Nat × Nat)} (hp:wc all i k=some ps) (hA:∀ p∈ps,gp (T' p.1) (T' p.2)) (ha:recs[i]?=some a) (hb:recs[k]?=some b):lE a b:=by
  unfold wc at hp
  split at hp
  · rename_i p h1
    simp at hp; subst hp
    exact HI tr h1 (hA p (by simp)) ha hb
  · exact HC tr hp hA ha hb
theorem KP {ls:List Nat} {recs:List Rec} {T T':Env} {hp hp':aB} {aps:List (Nat × Nat)} (tr:Tr P n all all T hp recs T' hp') (h:yj all (jk all ls)=some aps) (hA:∀ p∈aps,gp (T' p.1) (T' p.2)) (hl:ls.length=recs.length)
    (hr:∀ (i x:Nat) (r:Rec),ls[i]?=some x→recs[i]?=some r→jb x r.rd r.wr r.call r.lo r.hi):qS all recs:=by
  intro i k a b hik ha hb ho
  have hi:i < recs.length:=(List.getElem?_eq_some_iff.1 ha).1
  have hk:k < recs.length:=(List.getElem?_eq_some_iff.1 hb).1
  have la:=hr i _ a (List.getElem?_eq_getElem (by omega)) ha
  have lb:=hr k _ b (List.getElem?_eq_getElem (by omega)) hb
  have mi:(ls[i]'(by omega),i)∈ls.zipIdx:=by rw[List.mem_zipIdx_iff_getElem?]; simp[List.getElem?_eq_getElem (show i < ls.length by omega)]
  have mk:(ls[k]'(by omega),k)∈ls.zipIdx:=by rw[List.mem_zipIdx_iff_getElem?]; simp[List.getElem?_eq_getElem (show k < ls.length by omega)]
  by_cases h1:u5 all (ls[i]'(by omega)) i (ls[k]'(by omega)) k=true
  · unfold u5 at h1
    simp only[hik,decide_true,Bool.not_true,ho,Bool.false_or,Bool.or_eq_true,beq_iff_eq,Bool.and_eq_true,decide_eq_true_eq] at h1
    rcases h1 with ((h1 | h1) | h1) | h1
    · obtain ⟨e1,e2,e3,e4⟩:=la.1 h1
      exact ⟨fun id hid=>by simp[e2] at hid,fun id _=>by simp[e1],fun hc=>by simp[e3] at hc,fun _=>e2,fun id _ hx=>by omega⟩
    · obtain ⟨e1,e2,e3,e4⟩:=lb.1 h1
      exact ⟨fun id _=>by simp[e1],fun id hid=>by simp[e2] at hid,fun _=>e2,fun hc=>by simp[e3] at hc,fun id hid=>by simp[e2] at hid⟩
    · have e1:=la.2 h1.1
      have e2:=lb.2 h1.2
      exact ⟨fun id hid=>by simp[e1] at hid,fun id hid=>by simp[e2] at hid,fun _=>e2,fun _=>e1,fun id hid=>by simp[e2] at hid⟩
    · exact s7 tr h1 ha hb
  · have hm:(i,k)∈jk all ls:=by
      unfold jk
      rw[List.mem_flatMap]
      refine ⟨_,mi,?_⟩
      rw[List.mem_filterMap]
      exact ⟨_,mk,by simp only; rw[if_neg h1]⟩
    obtain ⟨p,hp,e⟩:=Iu h (i,k) hm
    exact Iy tr e (hA p hp) ha hb
theorem Bt {P:Program} {t:TypeId} {id:Nat} {q:V} {ok:Bool} {H1 H2:View} (h:H1 id=H2 id):eQ P t (.mp id) q ok H1=eQ P t (.mp id) q ok H2:=by
  unfold eQ
  simp only[h]
theorem G3 {P:Program} {t:TypeId} {id:Nat} {q:V} {H1 H2:View} (h:H1 id=H2 id):dY P t (.mp id) q H1=dY P t (.mp id) q H2:=by
  cases hm:eR P t with
  | none=>simp only[dY,hm]
  | some x=>simp only[dY,hm,h]
theorem LL {P:Program} {t:TypeId} {id:Nat} {q:V} {H:View} {v:V} {eff:aY} {rd:List Nat} (h:eQ P t (.mp id) q false H=some (v,eff,rd)):eff=.none∧rd=[id]:=by
  simp only[eQ,Bool.false_eq_true,if_false] at h
  repeat' (first | (simp only[Option.some.injEq,Prod.mk.injEq] at h; exact ⟨h.2.1.symm,h.2.2.symm⟩) | (split at h) | (simp at h; done))
theorem Jl {P:Program} {t:TypeId} {id:Nat} {q:V} {H:View} {v:V} {eff:aY} {rd:List Nat} (h:dY P t (.mp id) q H=some (v,eff,rd)):∃ obj,eff=.eC id obj:=by
  cases hm:eR P t with
  | none=>simp[dY,hm] at h
  | some x =>
    simp only[dY,hm] at h
    repeat' (first | (simp only[Option.some.injEq,Prod.mk.injEq] at h; exact ⟨_,h.2.1.symm⟩) | (split at h) | (simp at h; done))
theorem Db {o:Oper} {T:Env} {h h':aB} {v:V} {rd wr:List Nat} {call:Bool} (st:c5 P n all o T h v h' rd wr call) (hg:cM n all T o=some true) (hb:∀ e x,o.op≠.box e x) (hc:∀ s d x,o.op≠.convert s d x) (hl:∀ c,o.op≠.call c) :
    ∃ eff,bT P o T h.view h.length=some (v,eff,rd)∧h'=eff.apply h∧wr=eff.wr∧call=false:=by
  cases st with
  | skip hs=>rw[hg] at hs; simp at hs
  | op _ hop=>exact ⟨_,hop,rfl,rfl,rfl⟩
  | gV _ ho _=>exact absurd ho (hb _ _)
  | eS _ ho _ _ _ _=>exact absurd ho (hc _ _ _)
  | call _ ho _ _ _ _ _=>exact absurd ho (hl _)
theorem M4 {recs:List Rec} {Ts:Nat→Env} {hs:Nat→aB} {vs:Nat→V} (hst:x7 P n all recs Ts hs vs) (hl:recs.length=all.length) {k:Nat} (hk:k≤all.length) (hw:∀ j r,j < k→recs[j]?=some r→r.wr=[]) :
    ∀ j,j≤k→(hs 0).length≤(hs j).length∧∀ id,id < (hs 0).length→(hs j).view id=(hs 0).view id:=by
  intro j
  induction j with
  | zero=>intro _; exact ⟨Nat.le_refl _,fun _ _=>rfl⟩
  | succ j ih =>
    intro hj
    obtain ⟨l1,l2⟩:=ih (by omega)
    obtain ⟨st,_,_,_,_⟩:=hst j all[j] (recs[j]'(by omega)) (List.getElem?_eq_getElem (by omega)) (List.getElem?_eq_getElem (by omega))
    refine ⟨Nat.le_trans l1 (qk st),fun id hid=>?_⟩
    rw[oH st (Nat.lt_of_lt_of_le hid l1) (by rw[hw j _ (by omega) (List.getElem?_eq_getElem (by omega))]; simp)]
    exact l2 id hid
theorem mT {recs:List Rec} {Ts:Nat→Env} {hs:Nat→aB} {vs:Nat→V} (hst:x7 P n all recs Ts hs vs) (hl:recs.length=all.length) {i t:Nat} (h:stays all i t=true):∀ j,i≤j→j≤all.length→Ts j t=Ts i t:=by
  intro j hij hj
  refine vX (vs:=vs) (N:=all.length) (fun k o hk=>?_) rfl i j hij hj fun k o h1 h2 h3=>sD h o (by
    rw[List.mem_iff_getElem?]
    exact ⟨k - i,by rw[List.getElem?_drop,show i+(k - i)=k by omega]; exact h3⟩)
  have hk':k < all.length:=(List.getElem?_eq_some_iff.1 hk).1
  exact (hst k o (recs[k]'(by omega)) hk (List.getElem?_eq_getElem (by omega))).2.2.1
theorem EB {ls:List Nat} {recs:List Rec} {T T':Env} {hp hp':aB} {aps:List (Nat × Nat)} {tp:Option (Nat × Nat)} (tr:Tr P n all all T hp recs T' hp') (h:sj all (Cx all ls tp)=some aps) (hA:∀ p∈aps,gp (T' p.1) (T' p.2)) (hl:ls.length=recs.length)
    (hr:∀ (i x:Nat) (r:Rec),ls[i]?=some x→recs[i]?=some r→jb x r.rd r.wr r.call r.lo r.hi) (htol:∀ p,tp=some p→∃ tol,Cy all ls p.1 p.2=some tol∧HV P tol.1 (T' tol.2.1) (T' tol.2.2) hp.view):Ht P n all recs T T' hp:=by
  have main:∀ i k a b,i < k→recs[i]?=some a→recs[k]?=some b→ordered (er all []) i k=false→tp≠some (i,k)→lE a b:=by
    intro i k a b hik ha hb ho hne
    have hi:i < recs.length:=(List.getElem?_eq_some_iff.1 ha).1
    have hk:k < recs.length:=(List.getElem?_eq_some_iff.1 hb).1
    have la:=hr i _ a (List.getElem?_eq_getElem (by omega)) ha
    have lb:=hr k _ b (List.getElem?_eq_getElem (by omega)) hb
    have mi:(ls[i]'(by omega),i)∈ls.zipIdx:=by rw[List.mem_zipIdx_iff_getElem?]; simp[List.getElem?_eq_getElem (show i < ls.length by omega)]
    have mk:(ls[k]'(by omega),k)∈ls.zipIdx:=by rw[List.mem_zipIdx_iff_getElem?]; simp[List.getElem?_eq_getElem (show k < ls.length by omega)]
    by_cases h1:u5 all (ls[i]'(by omega)) i (ls[k]'(by omega)) k=true
    · unfold u5 at h1
      simp only[hik,decide_true,Bool.not_true,ho,Bool.false_or,Bool.or_eq_true,beq_iff_eq,Bool.and_eq_true,decide_eq_true_eq] at h1
      rcases h1 with ((h1 | h1) | h1) | h1
      · obtain ⟨e1,e2,e3,e4⟩:=la.1 h1
        exact ⟨fun id hid=>by simp[e2] at hid,fun id _=>by simp[e1],fun hc=>by simp[e3] at hc,fun _=>e2,fun id _ hx=>by omega⟩
      · obtain ⟨e1,e2,e3,e4⟩:=lb.1 h1
        exact ⟨fun id _=>by simp[e1],fun id hid=>by simp[e2] at hid,fun _=>e2,fun hc=>by simp[e3] at hc,fun id hid=>by simp[e2] at hid⟩
      · have e1:=la.2 h1.1
        have e2:=lb.2 h1.2
        exact ⟨fun id hid=>by simp[e1] at hid,fun id hid=>by simp[e2] at hid,fun _=>e2,fun _=>e1,fun id hid=>by simp[e2] at hid⟩
      · exact s7 tr h1 ha hb
    · have hm:(i,k)∈jk all ls:=by
        unfold jk
        rw[List.mem_flatMap]
        refine ⟨_,mi,?_⟩
        rw[List.mem_filterMap]
        exact ⟨_,mk,by simp only; rw[if_neg h1]⟩
      by_cases hn:newAt all k=true
      · unfold newAt at hn
        split at hn
        · rename_i ob hob
          obtain ⟨T1,h1',v,h2,rd,wr,call,recs2,e1,e2,_⟩:=tr.at_ k ob hob
          rw[hb] at e1
          have e1:=Option.some.inj e1
          subst e1
          obtain ⟨n1,n2,n3⟩:=KK e2 hn
          exact ⟨fun id _=>by simp[n1],fun id hid=>by simp[n2] at hid,fun _=>n2,fun hc=>by simp[n3] at hc,fun id hid=>by simp[n2] at hid⟩
        · simp at hn
      · obtain ⟨p,hp,e⟩:=G0 h (i,k) (by
          unfold Cx
          rw[List.mem_filter]
          refine ⟨hm,?_⟩
          simp only[Bool.and_eq_true,Bool.not_eq_true',bne_iff_ne,ne_eq]
          exact ⟨by simpa using hn,hne⟩)
        exact Hz tr e (fun q hq=>hA q (hp q hq)) ha hb
  cases tp with
  | none=>exact qS.Ow fun i k a b h1 h2 h3 h4=>main i k a b h1 h2 h3 h4 (by simp)
  | some p =>
    obtain ⟨i0,k0⟩:=p
    obtain ⟨tol,hto,htv⟩:=htol _ rfl
    intro Ts hs vs eT0 eh0 eTN hrl hst i
    by_cases hi:i=i0
    · subst hi
      refine ⟨some k0,fun k a b h1 h2 h3 h4 h5=>main i k a b h1 h2 h3 h4 (fun e=>h5 (by simp at e; rw[e])),fun k a b o hk ha hb ho=>?_⟩
      simp at hk; subst hk
      unfold Cy at hto
      simp only at hto
      split at hto
      · rename_i oa ob hoa hob
        rw[ho] at hoa
        have hoa:=Option.some.inj hoa
        subst hoa
        split at hto
        · rename_i t m q t' m' q' hop1 hop2 hg1 hg2
          split at hto
          · rename_i hcond
            simp only[Bool.and_eq_true,beq_iff_eq,decide_eq_true_eq,List.all_eq_true,List.mem_range] at hcond
            obtain ⟨⟨⟨⟨⟨⟨⟨⟨rfl,rfl⟩,rfl⟩,s1⟩,s2⟩,s3⟩,s4⟩,hik⟩,hloud⟩:=hcond
            simp only[Option.some.injEq] at hto
            subst hto
            simp only at htv
            have hkl:k0 < all.length:=(List.getElem?_eq_some_iff.1 hob).1
            have hwr:∀ j r,j < k0→recs[j]?=some r→r.wr=[]:=fun j r hj hrj=>by
              have h1:=hloud j hj
              have hj':j < ls.length:=by omega
              rw[List.getD_eq_getElem?_getD,List.getElem?_eq_getElem hj'] at h1
              exact (hr j _ r (List.getElem?_eq_getElem hj') hrj).2 h1
            have hsame:=M4 hst hrl (Nat.le_of_lt hkl) hwr
            have em:∀ j,i≤j→j≤all.length→Ts j m=T' m:=fun j h1 h2=>by
              rw[← eTN,mT hst hrl s1 j h1 h2,mT hst hrl s1 all.length (by omega) (Nat.le_refl _)]
            have eq:∀ j,i≤j→j≤all.length→Ts j q=T' q:=fun j h1 h2=>by
              rw[← eTN,mT hst hrl s2 j h1 h2,mT hst hrl s2 all.length (by omega) (Nat.le_refl _)]
            obtain ⟨sti,_,_,hlo,hhi⟩:=hst i o a ho ha
            obtain ⟨stk,_,_,_,_⟩:=hst k0 ob b hob hb
            have gi:cM n all (Ts i) o=some true:=by unfold cM; rw[hg1]
            have gk:cM n all (Ts k0) ob=some true:=by unfold cM; rw[hg2]
            unfold HV at htv
            split at htv
            · rename_i id hid
              obtain ⟨⟨es0,c0,hmap⟩,htv⟩:=htv
              have hidl:id < hp.length:=fU (by rw[hmap]; simp)
              have hvk:(hs k0).view id=hp.view id:=by rw[(hsame k0 (Nat.le_refl _)).2 id (by rw[eh0]; exact hidl),eh0]
              have hvi:(hs i).view id=hp.view id:=by rw[(hsame i (Nat.le_of_lt hik)).2 id (by rw[eh0]; exact hidl),eh0]
              obtain ⟨effi,hopi,hi',wri,cai⟩:=Db sti gi (by rw[hop1]; simp) (by rw[hop1]; simp) (by rw[hop1]; simp)
              obtain ⟨effk,hopk,hk',wrk,cak⟩:=Db stk gk (by rw[hop2]; simp) (by rw[hop2]; simp) (by rw[hop2]; simp)
              simp only[bT,hop1] at hopi
              simp only[bT,hop2] at hopk
              have e1:ev (Ts i) (.tmp m)=.mp id:=(em i (Nat.le_refl _) (by omega)).trans hid
              have e2:ev (Ts i) (.tmp q)=T' q:=eq i (Nat.le_refl _) (by omega)
              have e3:ev (Ts k0) (.tmp m)=.mp id:=(em k0 (by omega) (by omega)).trans hid
              have e4:ev (Ts k0) (.tmp q)=T' q:=eq k0 (by omega) (by omega)
              rw[e1,e2] at hopi
              rw[e3,e4,G3 hvk] at hopk
              obtain ⟨l1,l2⟩:=LL hopi
              obtain ⟨obj,l3⟩:=Jl hopk
              subst l1 l3
              have hkb:(hs (k0+1)).view id=obj:=by
                rw[hk',jJ (fun id' hid'=>by
                  simp only[aY.wr,List.mem_singleton] at hid'
                  subst hid'
                  rw[hvk,hmap]; simp)]
                simp[aY.view,View.set]
              refine ⟨hik,wri,cai,by rw[hlo,hhi,hi']; rfl,fun g hg hgv=>?_⟩
              have hidi:id < (hs i).length:=fU (by rw[hvi,hmap]; simp)
              have hgid:g.view id=(hp.view.set id obj) id:=by
                rw[hgv id hidi,wrk,if_pos (by simp[aY.wr]),hkb]
                simp[View.set]
              have hlk:=htv _ _ _ hopk
              have hfin:bT P o (Ts i) g.view g.length=some (vs i,.none,a.rd):=by
                simp only[bT,hop1]
                rw[e1,e2,Bt hgid,hlk,← Bt hvi]
                exact hopi
              exact .op gi hfin
            · exact htv.elim
          · simp at hto
        · simp at hto
      · simp at hto
    · exact ⟨none,fun k a b h1 h2 h3 h4 _=>main i k a b h1 h2 h3 h4 (fun e=>hi (by simp at e; exact e.1.symm)),fun k a b o h1=>by simp at h1⟩
theorem LK (hm:P.follows .mixedOrders=true) {fz:Fz} {id:Nat} {ops:Array Oper} {sc:SC} {T:Env} {h:aB} {Q:Exit→Env→View→Prop} (hc:zG P n fz ops.toList=some sc) (hw:wS P sc T h.view Q) :
    ∃ e T' h',cq P n (.region id ops true) T h e T' h'∧(gC h h'∧h.length≤h'.length)∧Q e T' h'.view:=by
  unfold zG at hc
  split at hc
  · simp at hc
  · rename_i l hl
    split at hc
    · simp at hc
    · rename_i hok
      have hok:(group l).all qh=true:=by simpa using hok
      have hl':cU P n ops.toList fz ops.toList=some (iN (group l)):=by rw[e9]; exact hl
      split at hc
      · rename_i ht
        simp only[Option.map_eq_some_iff] at hc
        obtain ⟨aps,hap,rfl⟩:=hc
        obtain ⟨recs,T',h',tr,hst,hk,hro⟩:=uR (group l) ops.toList T h hl' hok hw
        rw[e9] at hro
        refine ⟨.normal,T',h',?_,hst,hk.rest⟩
        have hcf:qS ops.toList recs:=KP tr hap (xL hk) (by simpa using hro.1) (fun i x r hx hr=>by
          simp only[List.getElem?_map,Option.map_eq_some_iff] at hx
          obtain ⟨s,hs,rfl⟩:=hx
          exact hro.2 i s r hs hr)
        simpa using uE hm (id:=id) tr ht hcf
      · simp at hc
theorem Ld (hm:P.follows .mixedOrders=true) {fz:Fz} {id:Nat} {ops:Array Oper} {sc:SC} {T:Env} {h:aB} {Q:Exit→Env→View→Prop} (hc:yN P n fz ops.toList=some sc) (hw:wS P sc T h.view Q) :
    ∃ e T' h',cq P n (.region id ops true) T h e T' h'∧(gC h h'∧h.length≤h'.length)∧Q e T' h'.view:=by
  unfold yN at hc
  split at hc
  · simp at hc
  · rename_i l hl
    split at hc
    · simp at hc
    · rename_i hok
      have hok:(group l).all qh=true:=by simpa using hok
      have hl':cU P n ops.toList fz ops.toList=some (iN (group l)):=by rw[e9]; exact hl
      split at hc
      · rename_i ht
        split at hc
        · simp only[Option.map_eq_some_iff] at hc
          obtain ⟨aps,hap,rfl⟩:=hc
          obtain ⟨recs,T',h',tr,hst,hk,hro⟩:=uR (group l) ops.toList T h hl' hok hw
          rw[e9] at hro
          refine ⟨.normal,T',h',?_,hst,hk.rest⟩
          have hcf:=EB tr hap (xL hk) (by simpa using hro.1) (fun i x r hx hr=>by
            simp only[List.getElem?_map,Option.map_eq_some_iff] at hx
            obtain ⟨s,hs,rfl⟩:=hx
            exact hro.2 i s r hs hr) (fun p hp=>by simp at hp)
          simpa using sV hm (id:=id) tr ht hcf
        · rename_i p hp
          split at hc
          · rename_i tol hto
            simp only[Option.map_eq_some_iff] at hc
            obtain ⟨aps,hap,rfl⟩:=hc
            obtain ⟨recs,T',h',tr,hst,hk,hro⟩:=uR (group l) ops.toList T h hl' hok hw
            rw[e9] at hro
            refine ⟨.normal,T',h',?_,hst,hk.2.rest⟩
            have hcf:=EB tr hap (xL hk.2) (by simpa using hro.1) (fun i x r hx hr=>by
              simp only[List.getElem?_map,Option.map_eq_some_iff] at hx
              obtain ⟨s,hs,rfl⟩:=hx
              exact hro.2 i s r hs hr) (fun p' hp'=>by
                simp only[Option.some.injEq] at hp'
                subst hp'
                exact ⟨tol,hto,hk.1⟩)
            simpa using sV hm (id:=id) tr ht hcf
          · simp at hc
      · simp at hc
theorem pc (hm:P.follows .mixedOrders=true) {fz:Fz} {id:Nat} {ops:Array Oper} {draw quiet:Bool} {sc:SC} {T:Env} {h:aB} {Q:Exit→Env→View→Prop} (hc:oU P n fz ops.toList draw quiet=some sc) (hw:wS P sc T h.view Q) :
    ∃ e T' h',cq P n (.region id ops draw) T h e T' h'∧(gC h h'∧h.length≤h'.length)∧Q e T' h'.view:=by
  unfold oU at hc
  split at hc
  · simp at hc
  · rename_i l hl
    split at hc
    · simp at hc
    · rename_i hok
      have hok:(group l).all qh=true:=by simpa using hok
      have hl':cU P n ops.toList fz ops.toList=some (iN (group l)):=by rw[e9]; exact hl
      have key:tL P quiet (group l) T h.view (Q .normal)→(draw=true→j5 ops.toList=true∧CB ops.toList (l.map fun s=>gK P quiet s.b)=true) →
          ∃ e T' h',cq P n (.region id ops draw) T h e T' h'∧(gC h h'∧h.length≤h'.length)∧Q e T' h'.view:=by
        intro hw hdr
        obtain ⟨recs,T',h',tr,hst,hk,hro⟩:=uR (group l) ops.toList T h hl' hok hw
        rw[e9] at hro
        refine ⟨.normal,T',h',?_,hst,hk⟩
        cases hd:draw with
        | false=>simpa using Ez (id:=id) tr
        | true =>
          obtain ⟨h1,h2⟩:=hdr hd
          have hcf:qS ops.toList recs:=Li tr h2 (by simpa using hro.1) (fun i x r hx hr=>by
            simp only[List.getElem?_map,Option.map_eq_some_iff] at hx
            obtain ⟨s,hs,rfl⟩:=hx
            exact hro.2 i s r hs hr)
          simpa using uE hm (id:=id) tr h1 hcf
      split at hc
      · rename_i hd
        split at hc
        · rename_i ht
          simp at hc; subst hc
          exact key hw (fun _=>by simpa using ht)
        · simp at hc
      · rename_i hd
        simp at hc; subst hc
        exact key hw (fun e=>absurd e hd)
theorem dO {a b:Option SC} {sc:SC} (h:orElse' a b=some sc):a=some sc∨b=some sc:=by
  cases a with
  | none=>exact .inr h
  | some x=>exact .inl h
theorem Jk (hm:P.follows .mixedOrders=true) {fz:List Nat} {id:Nat} {ops:Array Oper} {draw:Bool} {sc:SC} {T:Env} {h:aB} {Q:Exit→Env→View→Prop} (hc:zD P n fz ops.toList draw=some sc) (hw:wS P sc T h.view Q) :
    ∃ e T' h',cq P n (.region id ops draw) T h e T' h'∧(gC h h'∧h.length≤h'.length)∧Q e T' h'.view:=by
  unfold zD at hc
  rcases dO hc with h1 | h1
  · exact pc hm h1 hw
  · clear hc
    split at h1
    · rename_i hd
      subst hd
      rcases dO h1 with h0 | h1
      · split at h0
        · exact Ld hm h0 hw
        · simp at h0
      rcases dO h1 with h0 | h1
      · split at h0
        · exact pc hm h0 hw
        · simp at h0
      rcases dO h1 with h2 | h2
      · exact LK hm h2 hw
      · rcases dO h2 with h3 | h3
        · exact pc hm h3 hw
        · rcases dO h3 with h4 | h4
          · exact pc hm h4 hw
          · exact pc hm h4 hw
    · simp at h1
theorem A8 {e:Exit} {a b:Prop} (h:wU e a b):(e=.normal∧a)∨(e≠.normal∧b):=by
  cases e with
  | normal=>exact .inl ⟨rfl,h⟩
  | _=>exact .inr ⟨by simp,h⟩
def oO (P:Program) (n:Nat) (fz:List Nat) (c:Code):Prop:=∀ sc:SC,cw P n fz c=some sc→∀ (T:Env) (h:aB) (Q:Exit→Env→View→Prop),wS P sc T h.view Q →
    ∃ e T' h',cq P n c T h e T' h'∧(gC h h'∧h.length≤h'.length)∧Q e T' h'.view
theorem Bu {fz:List Nat} : oO P n fz .skip:=by
  intro sc hc T h Q hw; simp[cw] at hc; subst hc; exact ⟨_,T,h,.skip,⟨.refl _,Nat.le_refl _⟩,hw⟩
theorem D0 {fz:List Nat} {x y:Code} (ihx:oO P n fz x) (ihy:oO P n fz y):oO P n fz (.seq x y):=by
  intro sc hc T h Q hw
  simp only[cw] at hc
  split at hc
  · rename_i a b h1 h2
    simp at hc; subst hc
    simp only[wS] at hw
    obtain ⟨e,T1,h1',hx,st1,hq⟩:=ihx a h1 T h _ hw
    rcases A8 hq with ⟨rfl,hq⟩ | ⟨hne,hq⟩
    · obtain ⟨e2,T2,h2',hy,st2,hq2⟩:=ihy b h2 T1 h1' _ hq
      exact ⟨e2,T2,h2',hx.seq hy,⟨st1.1.trans st2.1 st1.2,Nat.le_trans st1.2 st2.2⟩,hq2⟩
    · exact ⟨e,T1,h1',hx.FK hne,st1,hq⟩
  · simp at hc
theorem lD {fz:Fz} {ops:List Oper} {draw quiet:Bool} {sc:SC} (h:oU P n fz ops draw quiet=some sc) (l:Nat):lN sc l=none:=by
  unfold oU at h
  repeat' (first | (simp only[Option.some.injEq] at h; subst h; rfl) | (split at h) | (simp at h; done))
theorem HD {fz:Fz} {ops:List Oper} {sc:SC} (h:zG P n fz ops=some sc) (l:Nat):lN sc l=none:=by
  unfold zG at h
  repeat' (first | (simp only[Option.map_eq_some_iff] at h; obtain ⟨_,_,rfl⟩:=h; rfl) | (split at h) | (simp at h; done))
theorem G6 {fz:Fz} {ops:List Oper} {sc:SC} (h:yN P n fz ops=some sc) (l:Nat):lN sc l=none:=by
  unfold yN at h
  repeat' (first | (simp only[Option.map_eq_some_iff] at h; obtain ⟨_,_,rfl⟩:=h; rfl) | (split at h) | (simp at h; done))
theorem GM {fz:List Nat} {ops:List Oper} {draw:Bool} {sc:SC} (h:zD P n fz ops draw=some sc) (l:Nat):lN sc l=none:=by
  unfold zD at h
  rcases dO h with h1 | h1
  · exact lD h1 l
  · split at h1
    · rcases dO h1 with h0 | h1
      · split at h0
        · exact G6 h0 l
        · simp at h0
      rcases dO h1 with h0 | h1
      · split at h0
        · exact lD h0 l
        · simp at h0
      rcases dO h1 with h2 | h2
      · exact HD h2 l
      · rcases dO h2 with h3 | h3
        · exact lD h3 l
        · rcases dO h3 with h4 | h4
          · exact lD h4 l
          · exact lD h4 l
    · simp at h1
theorem JY {fz:List Nat} : ∀ (c:Code) (sc:SC),cw P n fz c=some sc→∀ l,match findLabel c l with
    | some rest=>∃ r,lN sc l=some r∧cw P n fz rest=some r
    | none=>lN sc l=none:=by
  intro c
  induction c with
  | seq x y ihx ihy =>
    intro sc hc l
    simp only[cw] at hc
    split at hc
    · rename_i a b h1 h2
      simp at hc; subst hc
      have hx:=ihx a h1 l
      have hy:=ihy b h2 l
      simp only[findLabel,lN]
      cases h3:findLabel x l with
      | some rx =>
        rw[h3] at hx
        obtain ⟨r,e1,e2⟩:=hx
        exact ⟨.seq r b,by rw[e1],by simp only[cw,e2,h2]⟩
      | none =>
        rw[h3] at hx
        simp only at hx ⊢
        rw[hx]
        exact hy
    · simp at hc
  | label l' =>
    intro sc hc l
    simp[cw] at hc; subst hc
    simp only[findLabel,lN]
    by_cases e:(l' == l)=true
    · rw[if_pos e]; exact ⟨.skip,by rw[if_pos e],by simp[cw]⟩
    · rw[if_neg e]; simp only; rw[if_neg e]
  | region id ops draw=>intro sc hc l; simp only[cw] at hc; simp only[findLabel]; exact GM hc l
  | cond x y z _ _ =>
    intro sc hc l
    simp only[cw] at hc
    split at hc
    · simp at hc; subst hc; rfl
    · simp at hc
  | block id c _=>intro sc hc l; simp only[cw,Option.map_eq_some_iff] at hc; obtain ⟨_,_,rfl⟩:=hc; rfl
  | loop c _=>intro sc hc l; simp only[cw,Option.map_eq_some_iff] at hc; obtain ⟨_,_,rfl⟩:=hc; rfl
  | scope c _ =>
    intro sc hc l
    simp only[cw] at hc
    split at hc
    · split at hc
      · simp only[Option.map_eq_some_iff] at hc; obtain ⟨_,_,rfl⟩:=hc; rfl
      · simp at hc
    · simp at hc
  | skip=>intro sc hc l; simp[cw] at hc; subst hc; rfl
  | exit id=>intro sc hc l; simp[cw] at hc; subst hc; rfl
  | ret=>intro sc hc l; simp[cw] at hc; subst hc; rfl
  | goto l'=>intro sc hc l; simp[cw] at hc; subst hc; rfl
  | _=>intro sc hc; simp[cw] at hc
theorem GP {fz:List Nat} {c:Code} (h0:oO P n fz c) (hr:∀ l rest,findLabel c l=some rest→oO P n fz rest):oO P n fz (.scope c):=by
  intro sc hc T h Q hw
  simp only[cw] at hc
  split at hc
  · rename_i a h1
    split at hc
    · rename_i l h2
      simp only[Option.map_eq_some_iff] at hc
      obtain ⟨r,h3,rfl⟩:=hc
      have hf:=JY c a h1 l
      cases h4:findLabel c l with
      | none=>rw[h4] at hf; simp only at hf; rw[hf] at h3; simp at h3
      | some rest =>
        rw[h4] at hf
        obtain ⟨r',e1,e2⟩:=hf
        rw[h3] at e1
        have e1:=Option.some.inj e1
        subst e1
        simp only[wS] at hw
        obtain ⟨I,K,hw1,hw2⟩:=hw
        have go:∀ k T (h:aB),I k T h.view→∃ e T' h',oK P n c rest T h e T' h'∧(gC h h'∧h.length≤h'.length)∧Q e T' h'.view:=by
          intro k
          induction k using Nat.strongRecOn with
          | ind k ihk =>
            intro T h hI
            obtain ⟨e,T1,h1',hx,st1,hq⟩:=hr l rest h4 r e2 T h _ (hw2 k T h.view hI)
            cases e with
            | goto l' =>
              obtain ⟨rfl,k',hlt,hI'⟩:=hq
              obtain ⟨e2,T2,h2',hy,st2,hq2⟩:=ihk k' hlt T1 h1' hI'
              exact ⟨e2,T2,h2',oK.jump hx h4 hy,⟨st1.1.trans st2.1 st1.2,Nat.le_trans st1.2 st2.2⟩,hq2⟩
            | _=>exact ⟨_,T1,h1',.out hx rfl,st1,hq⟩
        obtain ⟨e,T1,h1',hx,st1,hq⟩:=h0 a h1 T h _ hw1
        cases e with
        | goto l' =>
          obtain ⟨rfl,k',_,hI'⟩:=hq
          obtain ⟨e2,T2,h2',hy,st2,hq2⟩:=go k' T1 h1' hI'
          exact ⟨e2,T2,h2',.scope (oK.jump hx h4 hy),⟨st1.1.trans st2.1 st1.2,Nat.le_trans st1.2 st2.2⟩,hq2⟩
        | _=>exact ⟨_,T1,h1',.scope (.out hx rfl),st1,hq⟩
    · simp at hc
  · simp at hc
theorem LW (hm:P.follows .mixedOrders=true) {fz:List Nat} : ∀ c:Code,oO P n fz c∧∀ l rest,findLabel c l=some rest→oO P n fz rest:=by
  intro c
  induction c with
  | skip=>exact ⟨Bu,fun l rest h=>by simp[findLabel] at h⟩
  | region id ops draw=>exact ⟨fun sc hc T h Q hw=>Jk hm hc hw,fun l rest h=>by simp[findLabel] at h⟩
  | seq x y ihx ihy =>
    refine ⟨D0 ihx.1 ihy.1,fun l rest h=>?_⟩
    simp only[findLabel] at h
    split at h
    · rename_i r hr
      simp only[Option.some.injEq] at h; subst h
      exact D0 (ihx.2 _ _ hr) ihy.1
    · exact ihy.2 _ _ h
  | cond c x y ihx ihy =>
    refine ⟨?_,fun l rest h=>by simp[findLabel] at h⟩
    intro sc hc T h Q hw
    simp only[cw] at hc
    split at hc
    · rename_i a b h1 h2
      simp at hc; subst hc
      simp only[wS] at hw
      split at hw
      · rename_i t ht
        have hT:qb (SX.of c) t T=T:=by
          unfold qb
          split
          · rename_i k hk
            rw[hk] at ht
            exact xp ht
          · rfl
        rw[SX.ca] at ht
        cases t with
        | true =>
          have:=hw.1 rfl
          rw[hT] at this
          obtain ⟨e,T',h',hx,st,hq⟩:=ihx.1 a h1 T h Q this
          exact ⟨e,T',h',.cond ht hx,st,hq⟩
        | false =>
          have:=hw.2 rfl
          rw[hT] at this
          obtain ⟨e,T',h',hx,st,hq⟩:=ihy.1 b h2 T h Q this
          exact ⟨e,T',h',.cond ht hx,st,hq⟩
      · exact hw.elim
    · simp at hc
  | block id c ih =>
    refine ⟨?_,fun l rest h=>by simp[findLabel] at h⟩
    intro sc hc T h Q hw
    simp only[cw,Option.map_eq_some_iff] at hc
    obtain ⟨a,h1,rfl⟩:=hc
    simp only[wS] at hw
    obtain ⟨e,T',h',hx,st,hq⟩:=ih.1 a h1 T h _ hw
    exact ⟨_,T',h',hx.block,st,hq⟩
  | loop c ih =>
    refine ⟨?_,fun l rest h=>by simp[findLabel] at h⟩
    intro sc hc T h Q hw
    simp only[cw,Option.map_eq_some_iff] at hc
    obtain ⟨a,h1,rfl⟩:=hc
    simp only[wS] at hw
    obtain ⟨I,⟨k,hk⟩,hstep⟩:=hw
    have go:∀ k T (h:aB),I k T h.view→∃ e T' h',mV P n c T h e T' h'∧(gC h h'∧h.length≤h'.length)∧Q e T' h'.view:=by
      intro k
      induction k using Nat.strongRecOn with
      | ind k ihk =>
        intro T h hI
        obtain ⟨e,T1,h1',hx,st1,hq⟩:=ih.1 a h1 T h _ (hstep k T h.view hI)
        rcases A8 hq with ⟨rfl,k',hlt,hI'⟩ | ⟨hne,hq⟩
        · obtain ⟨e2,T2,h2',hy,st2,hq2⟩:=ihk k' hlt T1 h1' hI'
          exact ⟨e2,T2,h2',.step hx hy,⟨st1.1.trans st2.1 st1.2,Nat.le_trans st1.2 st2.2⟩,hq2⟩
        · exact ⟨e,T1,h1',.out hx hne,st1,hq⟩
    obtain ⟨e,T',h',hx,st,hq⟩:=go k T h hk
    exact ⟨e,T',h',.loop hx,st,hq⟩
  | exit id=>exact ⟨fun sc hc T h Q hw=>by simp[cw] at hc; subst hc; exact ⟨_,T,h,.exit,⟨.refl _,Nat.le_refl _⟩,hw⟩,fun l rest h=>by simp[findLabel] at h⟩
  | ret=>exact ⟨fun sc hc T h Q hw=>by simp[cw] at hc; subst hc; exact ⟨_,T,h,.ret,⟨.refl _,Nat.le_refl _⟩,hw⟩,fun l rest h=>by simp[findLabel] at h⟩
  | label l'=>exact ⟨fun sc hc T h Q hw=>by simp[cw] at hc; subst hc; exact ⟨_,T,h,.label,⟨.refl _,Nat.le_refl _⟩,hw⟩,fun l rest h=>by
      simp only[findLabel] at h
      split at h
      · simp only[Option.some.injEq] at h; subst h; exact Bu
      · simp at h⟩
  | goto l'=>exact ⟨fun sc hc T h Q hw=>by simp[cw] at hc; subst hc; exact ⟨_,T,h,.goto,⟨.refl _,Nat.le_refl _⟩,hw⟩,fun l rest h=>by simp[findLabel] at h⟩
  | scope c ih=>exact ⟨GP ih.1 ih.2,fun l rest h=>by simp[findLabel] at h⟩
  | _=>exact ⟨fun sc hc=>by simp[cw] at hc,fun l rest h=>by simp[findLabel] at h⟩
theorem N7 (hm:P.follows .mixedOrders=true) {fz:List Nat} (c:Code) (sc:SC) (hc:cw P n fz c=some sc) (T:Env) (h:aB) (Q:Exit→Env→View→Prop) (hw:wS P sc T h.view Q) :
    ∃ e T' h',cq P n c T h e T' h'∧(gC h h'∧h.length≤h'.length)∧Q e T' h'.view:=(LW hm c).1 sc hc T h Q hw
theorem N1 {T:Env} {h:aB} {r:ResultVar} {l:List SR} {rest:List ResultVar} (hc:eu P (r :: rest)=some l):∃ s l',l=s :: l'∧eu P rest=some l'∧∀ K:V→Prop,wR T h.view s K→∃ v,pa P T h r=some v∧K v:=by
  cases r with
  | tmp t =>
    simp only[eu,Option.map_eq_some_iff] at hc
    obtain ⟨l',h1,rfl⟩:=hc
    exact ⟨.tmp t,l',rfl,h1,fun K hk=>⟨_,rfl,hk⟩⟩
  | cell a t =>
    simp only[eu] at hc
    split at hc
    · rename_i k l' h1 h2
      simp at hc; subst hc
      refine ⟨.cell a k,l',rfl,h2,fun K hk=>?_⟩
      simp only[wR] at hk
      simp only[pa,kh,te h1]
      split at hk
      · rename_i id i j ha
        split at hk
        · rename_i es hH
          obtain ⟨hlt,hk⟩:=hk
          obtain ⟨v,hv,hk⟩:=mD hk
          exact ⟨v,by rw[ha]; simp only[hH]; rw[if_pos hlt,hv]; rfl,hk⟩
        · exact hk.elim
      · rename_i e j ha
        obtain ⟨v,hv,hk⟩:=mD hk
        exact ⟨v,by rw[ha]; simp only; rw[hv]; rfl,hk⟩
      · exact hk.elim
    · simp at hc
theorem JJ {T:Env} {h:aB} {K:List V→Prop} : ∀ (rs:List ResultVar) (l:List SR) (acc:List V),eu P rs=some l→yx T h.view l acc K→∃ vs,ka P T h rs=some vs∧K (acc ++ vs)
  | [],l,acc,hc,hw=>by simp[eu] at hc; subst hc; exact ⟨[],rfl,by simpa [yx] using hw⟩
  | r :: rest,l,acc,hc,hw=>by
    obtain ⟨s,l',rfl,h1,h2⟩:=N1 (T:=T) (h:=h) hc
    simp only[yx] at hw
    obtain ⟨v,hv,hk⟩:=h2 _ hw
    obtain ⟨vs,hvs,hk⟩:=JJ rest l' (acc ++ [v]) h1 hk
    exact ⟨v :: vs,by simp[ka,hv,hvs],by simpa using hk⟩
def wF (P:Program) (F:SF) (vs:List V) (H:View) (K:V→View→Prop):Prop :=
  vs.length≤F.n∧wS P F.code (jI vs) H fun e T' H'=>(e=.ret∨e=.normal)∧yx T' H' F.res [] fun l=>K (ah l) H'
theorem aA.of (hm:P.follows .mixedOrders=true) {f:FuncId} {fz:List Nat} {F:SF} (hF:bh P f fz=some F) {vs:List V} {H:View} {K:V→View→Prop} (hw:wF P F vs H K):aA P f vs H K:=by
  unfold bh at hF
  split at hF
  · rename_i fn hfn
    split at hF
    · rename_i c hb
      split at hF
      · rename_i sc rs h1 h2 h3
        simp at hF; subst hF
        refine ⟨h3,?_⟩
        rintro h rfl
        obtain ⟨e,T',h',hx,st,he,hr⟩:=N7 hm c sc h1 _ h _ hw.2
        obtain ⟨vs',hvs,hk⟩:=JJ _ _ [] h2 hr
        refine ⟨ah vs',h',bw.Fp hfn hb hw.1 hx he ?_,st.1,by simpa using hk⟩
        unfold Hg
        rw[hvs]
        cases vs' with
        | nil=>rfl
        | cons a l=>cases l <;> rfl
      · simp at hF
    · simp at hF
  · simp at hF
theorem aA.mono {f:FuncId} {vs:List V} {H:View} {K K':V→View→Prop} (h:aA P f vs H K) (hk:∀ r H',K r H'→K' r H'):aA P f vs H K' :=
  ⟨h.1,fun h0 e=>let ⟨r,h',a,s,b⟩:=h.2 h0 e; ⟨r,h',a,s,hk _ _ b⟩⟩
theorem aC.DN {f:FuncId} {vs:List V} {H:View} {t:V} {K:V→View→Prop} (h:aC P f vs t) (hok:cR P f=true) (hk:K t H):CG P f vs H K :=
  ⟨hok,fun h0 e=>⟨t,h0,bw.eT h h0,fun _ _=>rfl,e ▸ hk⟩⟩
theorem aA.DN {f:FuncId} {vs:List V} {H:View} {K:V→View→Prop} (h:aA P f vs H fun r H'=>(∀ id,H id≠.dead→H' id=H id)∧K r H'):CG P f vs H K :=
  ⟨h.1,fun h0 e=>by
    obtain ⟨r,h',ha,st,hf,hk⟩:=h.2 h0 e
    refine ⟨r,h',ha,fun id hid=>?_,hk⟩
    by_cases hd:h0.view id=.dead
    · rw[hd]; exact st id hid hd
    · rw[← e] at hf; exact hf id hd⟩
end
inductive cp {α:Type} (x:α):Type where
  | mk
def eh (s:ByteArray):List Int:=s.data.toList.map fun b=>(b.toNat:Int)
theorem dG (s:ByteArray):s.size=(eh s).length:=by rw[eh,List.length_map,bsize]
def bK (P:Program) (c:SC) (T:Env) (H:View) (Q:Exit→Env→View→Prop) (_:cp (T,H,Q)):Prop:=wS P (.loop c) T H Q
def zm (P:Program) (l:Nat) (c r:SC) (T:Env) (H:View) (Q:Exit→Env→View→Prop) (_:cp (T,H,Q)):Prop:=wS P (.scope l c r) T H Q
def aE (P:Program) (quiet:Bool) (f:FuncId) (vs:List V) (H:View) (K:V→View→Prop) (_:cp (H,K)):Prop :=
  if quiet then CG P f vs H K else aA P f vs H K
def yI {α:Type} (v:α) (F:α→Prop) (_:cp F):Prop:=F v
def df (v:V) (F:V→Prop) (_:cp F):Prop:=F v
def DR (o:bI) (F:bI→Prop) (_:cp F):Prop:=F o
def m9 {α:Type} (o:Option α) (F:Option α→Prop) (_:cp F):Prop:=F o
def au (b:Bool) (A B:Prop) (_:cp (A,B)):Prop:=(b=true→A)∧(b=false→B)
theorem Oq {α:Type} (v:α) (F:α→Prop) (w:cp F):yI v F w=F v:=propext Iff.rfl
section
variable (F:V→Prop) (w:cp F)
theorem Gy (v:Value):df (.val v) F w=F (.val v):=propext Iff.rfl
theorem FJ (k:Nat):df (.emp k) F w=F (.emp k):=propext Iff.rfl
theorem GC:df .c8 F w=F .c8:=propext Iff.rfl
theorem GH (es:List (List V)):df (.aK es) F w=F (.aK es):=propext Iff.rfl
theorem Ih (a b c d:Nat):df (.sl a b c d) F w=F (.sl a b c d):=propext Iff.rfl
theorem FH (a b c:Nat):df (.ptr a b c) F w=F (.ptr a b c):=propext Iff.rfl
theorem Eg (e:List V) (j:Nat):df (.aU e j) F w=F (.aU e j):=propext Iff.rfl
theorem Iq (a:Nat):df (.mp a) F w=F (.mp a):=propext Iff.rfl
theorem Ik (f:FuncId) (a b:List V):df (.fn f a b) F w=F (.fn f a b):=propext Iff.rfl
theorem GJ (cs:List V):df (.agg cs) F w=F (.agg cs):=propext Iff.rfl
theorem Gj (cs:List V):df (.bc cs) F w=F (.bc cs):=propext Iff.rfl
end
theorem GK (F:bI→Prop) (w:cp F) (k:Nat) (es:List (List V)):DR (.arr k es) F w=F (.arr k es):=propext Iff.rfl
theorem Fl (F:bI→Prop) (w:cp F) (es:List (V × V × Nat)) (k:Nat):DR (.map es k) F w=F (.map es k):=propext Iff.rfl
theorem Ev {α:Type} (F:Option α→Prop) (w:cp F) (x:α):m9 (some x) F w=F (some x):=propext Iff.rfl
theorem CX (A B:Prop) (w:cp (A,B)):au true A B w=A:=by simp[au]
theorem Bg (A B:Prop) (w:cp (A,B)):au false A B w=B:=by simp[au]
theorem F7 (b:Bool) (A B:Prop) (w:cp (A,B)):au (!b) A B w=au b B A .mk:=by cases b <;> simp[au]
theorem au.split {b:Bool} {A B:Prop} {w:cp (A,B)} (h1:b=true→A) (h2:b=false→B):au b A B w:=⟨h1,h2⟩
theorem au.dec {p:Prop} [Decidable p] {A B:Prop} {w:cp (A,B)} (h1:p→A) (h2:¬ p→B):au (decide p) A B w:=⟨fun h=>h1 (by simpa using h),fun h=>h2 (by simpa using h)⟩
theorem au.eq {a b:Int} {A B:Prop} {w:cp (A,B)} (h1:a=b→A) (h2:¬ a=b→B):au (a == b) A B w:=⟨fun h=>h1 (by simpa using h),fun h=>h2 (by simpa using h)⟩
theorem au.ne {a b:Int} {A B:Prop} {w:cp (A,B)} (h1:¬ a=b→A) (h2:a=b→B):au (a != b) A B w:=⟨fun h=>h1 (by simpa using h),fun h=>h2 (by simpa using h)⟩
section
variable (P:Program) (T:Env) (H:View)
theorem Mn (F:SF) (vs:List V) (K:V→View→Prop):wF P F vs H K=(vs.length≤F.n∧wS P F.code (jI vs) H fun e T' H'=>(e=.ret∨e=.normal)∧yx T' H' F.res [] fun l=>yI (ah l) (fun v=>K v H') .mk):=propext Iff.rfl
theorem Gq (Q:Exit→Env→View→Prop):wS P .skip T H Q=Q .normal T H:=propext Iff.rfl
theorem Bb (q:Bool) (gs:List SG) (Q:Exit→Env→View→Prop):wS P (.region q gs) T H Q=tL P q gs T H (Q .normal):=propext Iff.rfl
theorem y7 (aps:List (Nat × Nat)) (gs:List SG) (Q:Exit→Env→View→Prop):wS P (.v8 aps gs) T H Q=tL P false gs T H (fun T' H'=>ve aps T' (Q .normal T' H')):=propext Iff.rfl
theorem yF (tol:Nat × Nat × Nat) (aps:List (Nat × Nat)) (gs:List SG) (Q:Exit→Env→View→Prop):wS P (.AV tol aps gs) T H Q=tL P false gs T H (fun T' H'=>HV P tol.1 (T' tol.2.1) (T' tol.2.2) H∧ve aps T' (Q .normal T' H')):=propext Iff.rfl
theorem Gx (K:Prop):ve [] T K=K:=propext Iff.rfl
theorem Dg (a b:Nat) (l:List (Nat × Nat)) (K:Prop):ve ((a,b) :: l) T K=(gp (T a) (T b)∧ve l T K):=propext Iff.rfl
theorem Fm (i j k i' j' k':Nat):gp (.ptr i j k) (.ptr i' j' k')=(i≠i'):=propext Iff.rfl
theorem Gt (i j k a b c d:Nat):gp (.ptr i j k) (.sl a b c d)=(i≠a):=propext Iff.rfl
theorem CR (i j k e:Nat):gp (.ptr i j k) (.emp e)=True:=id rfl
theorem Dh (i j k:Nat):gp (.ptr i j k) .c8=True:=id rfl
theorem Ep (i j k:Nat) (es:List (List V)):gp (.ptr i j k) (.aK es)=True:=id rfl
theorem FV (a b c d e f g h:Nat):gp (.sl a b c d) (.sl e f g h)=(a≠e):=propext Iff.rfl
theorem Jc (a b c d e:Nat):gp (.sl a b c d) (.emp e)=True:=id rfl
theorem JA (a b c d:Nat):gp (.sl a b c d) .c8=True:=id rfl
theorem Kd (a b c d:Nat) (es:List (List V)):gp (.sl a b c d) (.aK es)=True:=id rfl
theorem FE (k:Nat) (v:V):gp (.emp k) v=True:=by cases v <;> rfl
theorem F6 (v:V):gp .c8 v=True:=by cases v <;> rfl
theorem F2 (es:List (List V)) (v:V):gp (.aK es) v=True:=by cases v <;> rfl
theorem C1 (e:List V) (j:Nat) (v:V):gp (.aU e j) v=True:=by cases v <;> rfl
theorem It (x y:SC) (Q:Exit→Env→View→Prop):wS P (.seq x y) T H Q=wS P x T H fun e T' H'=>wU e (wS P y T' H' Q) (Q e T' H'):=propext Iff.rfl
theorem FI (c:SX) (x y:SC) (Q:Exit→Env→View→Prop):wS P (.cond c x y) T H Q=df (c.at T) (fun v=>match v with
    | .val (.bool b)=>au b (wS P x (qb c true T) H Q) (wS P y (qb c false T) H Q) .mk
    | _=>False) .mk:=propext Iff.rfl
theorem D2 (id:Nat) (c:SC) (Q:Exit→Env→View→Prop):wS P (.block id c) T H Q=wS P c T H fun e=>Q (mR id e):=propext Iff.rfl
theorem GA (id:Nat) (Q:Exit→Env→View→Prop):wS P (.exit id) T H Q=Q (.exit id) T H:=propext Iff.rfl
theorem Ks (Q:Exit→Env→View→Prop):wS P .ret T H Q=Q .ret T H:=propext Iff.rfl
theorem Dd (l:Nat) (c r:SC) (Q:Exit→Env→View→Prop):wS P (.scope l c r) T H Q=zm P l c r T H Q .mk:=propext Iff.rfl
theorem Dv (l:Nat) (Q:Exit→Env→View→Prop):wS P (.label l) T H Q=Q .normal T H:=propext Iff.rfl
theorem FM (l:Nat) (Q:Exit→Env→View→Prop):wS P (.goto l) T H Q=Q (.goto l) T H:=propext Iff.rfl
theorem ym (l l':Nat) (a b:Prop):oT l (.goto l') a b=(l'=l∧a):=propext Iff.rfl
theorem uM (l:Nat) (a b:Prop):oT l .normal a b=b:=propext Iff.rfl
theorem y8 (l i:Nat) (a b:Prop):oT l (.exit i) a b=b:=propext Iff.rfl
theorem Bj (l:Nat) (a b:Prop):oT l .ret a b=b:=propext Iff.rfl
theorem Eu (l:Nat) (a b:Prop):wU (.goto l) a b=b:=propext Iff.rfl
theorem y3 (i l:Nat):mR i (.goto l)=.goto l:=id rfl
theorem GI (c:SC) (Q:Exit→Env→View→Prop):wS P (.loop c) T H Q=bK P c T H Q .mk:=propext Iff.rfl
theorem F1 (q:Bool) (K:Env→View→Prop):tL P q [] T H K=K T H:=propext Iff.rfl
theorem DE (q:Bool) (g:SG) (r:List SG) (K:Env→View→Prop):tL P q (g :: r) T H K=wG P q g T H fun T' H'=>tL P q r T' H' K:=propext Iff.rfl
theorem FR (q:Bool) (ops:List (Option Nat × SB)) (K:Env→View→Prop):wG P q ⟨none,ops⟩ T H K=vg P q ops T H K:=propext Iff.rfl
theorem GB (q:Bool) (d:Nat) (ops:List (Option Nat × SB)) (K:Env→View→Prop):wG P q ⟨some (d,true),ops⟩ T H K=df (T d) (fun v=>match v with
    | .val (.bool b)=>au b (vg P q ops (T.put (some d) (.val (.bool true))) H K) (K (gm ops (T.put (some d) (.val (.bool false)))) H) .mk
    | .bc []=>K (gm ops T) H
    | _=>False) .mk:=propext Iff.rfl
theorem Du (q:Bool) (d:Nat) (ops:List (Option Nat × SB)) (K:Env→View→Prop):wG P q ⟨some (d,false),ops⟩ T H K=df (T d) (fun v=>match v with
    | .val (.bool b)=>au b (K (gm ops (T.put (some d) (.val (.bool true)))) H) (vg P q ops (T.put (some d) (.val (.bool false))) H K) .mk
    | .bc []=>K (gm ops T) H
    | _=>False) .mk:=by
  simp only[wG,df]
  generalize T d=v
  cases v with
  | val x=>cases x <;> simp[au,and_comm]
  | bc l=>cases l <;> simp
  | _=>simp
theorem wJ:gm [] T=T:=id rfl
theorem vm (d:Option Nat) (b:SB) (r:List (Option Nat × SB)):gm ((d,b) :: r) T=gm r (T.put d (.bc [])):=id rfl
theorem Gn (q:Bool) (K:Env→View→Prop):vg P q [] T H K=K T H:=propext Iff.rfl
theorem Dm (q:Bool) (d:Option Nat) (b:SB) (r:List (Option Nat × SB)) (K:Env→View→Prop):vg P q ((d,b) :: r) T H K=wB P q b T H fun v H'=>yI v (fun v'=>vg P q r (T.put d v') H' K) .mk:=propext Iff.rfl
theorem L0 (q:Bool) (s:SI) (K:V→View→Prop):wB P q (.op s) T H K=wI P s T H K:=propext Iff.rfl
theorem FG (q:Bool) (f:SX) (args:List SX) (K:V→View→Prop):wB P q (.call f args) T H K=df (f.at T) (fun v=>match v with
    | .fn g first cap=>aE P q g (first ++ args.map (SX.at T) ++ cap) H K .mk
    | _=>False) .mk:=propext Iff.rfl
theorem J2 (x:SX) (K:V→View→Prop):wI P (.bj x) T H K=K (x.at T) H:=propext Iff.rfl
theorem FT (c a b:SX) (K:V→View→Prop):wI P (.pick c a b) T H K=df (c.at T) (fun v=>match v with
    | .val (.bool t)=>au t (K (a.at T) H) (K (b.at T) H) .mk
    | _=>False) .mk:=by
  simp only[wI,df]
  generalize c.at T=v
  cases v with
  | val x =>
    cases x with
    | bool t=>cases t <;> simp[au]
    | _=>simp
  | _=>simp
theorem Jr (x:SX) (K:V→View→Prop):wI P (.box x) T H K=df (x.at T) (fun v=>v.cells.all aR=true∧yI v.cells (fun cs=>∀ n,H n=.dead→K (.ptr n 0 0) (H.set n (.arr cs.length [cs]))) .mk) .mk:=propext Iff.rfl
theorem Ii (x:SX) (K:V→View→Prop):wI P (.gV x) T H K=df (x.at T) (fun v=>v.cells.all aR=true∧yI v.cells (fun cs=>K (.aU cs 0) H) .mk) .mk:=propext Iff.rfl
theorem C9 (z:List V) (K:V→View→Prop):wI P (.alloc z) T H K=(z.all aR=true∧∀ n,H n=.dead→K (.ptr n 0 0) (H.set n (.arr z.length [z]))):=propext Iff.rfl
theorem FO (sz:Option Nat) (a:SX) (K:V→View→Prop):wI P (.load sz a) T H K=df (a.at T) (fun v=>match v with
    | .ptr id i j=>DR (H id) (fun o=>match o with
      | .arr _ es=>i < es.length∧yI (es.getD i []) (fun e=>ie sz e j fun v=>K v H) .mk
      | _=>False) .mk
    | .aU e j=>ie sz e j fun v=>K v H
    | _=>False) .mk:=propext Iff.rfl
theorem Ed (sz:Option Nat) (a:SX) (K:V→View→Prop):wI P (.sy sz a) T H K=df (a.at T) (fun v=>match v with
    | .aU e j=>ie sz e j fun v=>K v H
    | _=>False) .mk:=propext Iff.rfl
theorem EE (sz:Nat) (a x:SX) (K:V→View→Prop):wI P (.store sz a x) T H K=df (a.at T) (fun v=>match v with
    | .ptr id i j=>DR (H id) (fun o=>match o with
      | .arr esz es=>yI (x.at T).cells (fun cs=>(i < es.length∧cs.length=sz∧j+cs.length≤esz∧cs.all aR=true) ∧
          yI (es.set i (ab (es.getD i []) j cs)) (fun es'=>K .any (H.set id (.arr esz es'))) .mk) .mk
      | _=>False) .mk
    | _=>False) .mk:=propext Iff.rfl
theorem F3 (x:SX) (K:V→View→Prop):wI P (.x4 x) T H K=df (x.at T) (fun v=>match v with
    | .ptr id i j=>K (.ptr id i j) H
    | .aU e j=>K (.aU e j) H
    | .fn f a b=>K (.fn f a b) H
    | _=>False) .mk:=propext Iff.rfl
theorem FC (off:Nat) (x:SX) (K:V→View→Prop):wI P (.addr off x) T H K=df (x.at T) (fun v=>match v with
    | .ptr id i j=>K (.ptr id i (j+off)) H
    | .aU e j=>K (.aU e (j+off)) H
    | _=>False) .mk:=propext Iff.rfl
theorem Ec (off:Nat) (sz:Option Nat) (x:SX) (K:V→View→Prop):wI P (.field off sz x) T H K=df (x.at T) (fun v=>match v with
    | .agg cs=>ie sz cs off fun v=>K v H
    | _=>False) .mk:=propext Iff.rfl
theorem Jg (sz:Nat) (x i:SX) (K:V→View→Prop):wI P (.idx sz x i) T H K=m9 (asNat (i.at T)) (fun o=>match o with
    | none=>False
    | some q=>df (x.at T) (fun v=>match v with
      | .sl id off len esz=>(q < len∧esz=sz)∧K (.ptr id (off+q) 0) H
      | .aK es=>m9 es[q]? (fun o=>match o with
        | some e=>e.length=sz∧K (.aU e 0) H
        | none=>False) .mk
      | _=>False) .mk) .mk:=by
  simp only[wI,m9,df]
  cases asNat (i.at T) with
  | none=>rfl
  | some q =>
    simp only
    cases x.at T with
    | aK es =>
      simp only
      cases h:es[q]? with
      | none=>simp
      | some e=>simp
    | _=>rfl
theorem Gw (f:FuncId) (first cap:List SX) (K:V→View→Prop):wI P (.pL f first cap) T H K=K (.fn f (first.map (SX.at T)) (cap.map (SX.at T))) H:=propext Iff.rfl
theorem C5 (K:V→View→Prop):wI P .kX T H K=(∀ n,H n=.dead→K (.mp n) (H.set n (.map [] 0))):=propext Iff.rfl
theorem IE (i:Nat) (x:SX) (K:V→View→Prop):wI P (.ext i x) T H K=df (x.at T) (fun v=>match v with
    | .bc vs=>i < vs.length∧K (vs.getD i .any) H
    | _=>False) .mk:=propext Iff.rfl
theorem Ix (x:SX) (K:V→View→Prop):wI P (.len x) T H K=m9 (cH (x.at T)) (fun o=>match o with
    | some n=>K (aj n) H
    | none=>False) .mk:=propext Iff.rfl
theorem Gm (x:SX) (K:V→View→Prop):wI P (.gG x) T H K=df (x.at T) (fun v=>match v with
    | .val (.string s)=>K (aj s.size) H
    | _=>False) .mk:=propext Iff.rfl
theorem Eo (op:BinOp) (x y:SX) (K:V→View→Prop):wI P (.arith op x y) T H K=df (x.at T) (fun v=>df (y.at T) (fun v'=>match v,v' with
    | .val (.int k a),.val (.int k' b)=>k=k'∧m9 (ag op k a b) (fun o=>match o with | some v=>K (.val v) H | none=>False) .mk
    | _,_=>False) .mk) .mk:=propext Iff.rfl
theorem L3 (l:Bool) (x y:SX) (K:V→View→Prop):wI P (.sh l x y) T H K=df (x.at T) (fun v=>df (y.at T) (fun v'=>match v,v' with
    | .val (.int k a),.val (.int _ b)=>0≤b∧K (.val (.int k (GL l k a b))) H
    | _,_=>False) .mk) .mk:=propext Iff.rfl
theorem JG (op:BinOp) (x y:SX) (K:V→View→Prop):wI P (.iO op x y) T H K=df (x.at T) (fun v=>df (y.at T) (fun v'=>match v,v' with
    | .val (.string a),.val (.string b)=>(match op with
      | .eql=>K (.val (.bool (gB a b))) H
      | .neq=>K (.val (.bool (!gB a b))) H
      | _=>False)
    | _,_=>False) .mk) .mk:=propext Iff.rfl
theorem Fv (x i:SX) (K:V→View→Prop):wI P (.c7 x i) T H K=df (x.at T) (fun v=>m9 (asNat (i.at T)) (fun o=>match v,o with
    | .val (.string s),some q=>m9 (eh s)[q]? (fun o=>match o with
      | some c=>K (.val (.int .u8 c)) H
      | none=>False) .mk
    | _,_=>False) .mk) .mk:=by
  simp only[wI,m9,df]
  generalize x.at T=v
  generalize asNat (i.at T)=o
  cases v with
  | val u =>
    cases u with
    | string s =>
      cases o with
      | none=>rfl
      | some q =>
        simp only[eh,List.getElem?_map]
        cases h:s.data.toList[q]? with
        | none=>simp
        | some e=>simp
    | _=>rfl
  | _=>rfl
theorem Je (x:SX) (K:V→View→Prop):wI P (.not x) T H K=df (x.at T) (fun v=>match v with
    | .val (.bool t)=>K (.val (.bool (!t))) H
    | _=>False) .mk:=propext Iff.rfl
theorem Io (eq:Bool) (k:Nat) (x y:SX) (K:V→View→Prop):wI P (.nil eq k x y) T H K=m9 (ai (isNil k (x.at T)) (isNil k (y.at T))) (fun o=>match o with
    | some b=>K (.val (.bool (if eq=true then b else !b))) H
    | none=>False) .mk:=propext Iff.rfl
theorem GG (x y:SX) (K:V→View→Prop):wI P (.beq true x y) T H K=df (x.at T) (fun v=>df (y.at T) (fun v'=>match v,v' with
    | .val (.bool a),.val (.bool b)=>K (.val (.bool (a == b))) H
    | _,_=>False) .mk) .mk:=propext Iff.rfl
theorem F5 (x y:SX) (K:V→View→Prop):wI P (.beq false x y) T H K=df (x.at T) (fun v=>df (y.at T) (fun v'=>match v,v' with
    | .val (.bool a),.val (.bool b)=>K (.val (.bool (a != b))) H
    | _,_=>False) .mk) .mk:=propext Iff.rfl
theorem Jo (x y:SX) (K:V→View→Prop):wI P (.mm true x y) T H K=df (x.at T) (fun v=>df (y.at T) (fun v'=>match v,v' with
    | .val (.int k a),.val (.int _ b)=>K (.val (.int k (if b > a then b else a))) H
    | _,_=>False) .mk) .mk:=propext Iff.rfl
theorem I6 (x y:SX) (K:V→View→Prop):wI P (.mm false x y) T H K=df (x.at T) (fun v=>df (y.at T) (fun v'=>match v,v' with
    | .val (.int k a),.val (.int _ b)=>K (.val (.int k (if b < a then b else a))) H
    | _,_=>False) .mk) .mk:=propext Iff.rfl
theorem FX (k:IntKind) (x:SX) (K:V→View→Prop):wI P (.conv k x) T H K=df (x.at T) (fun v=>match v with
    | .val (.int _ a)=>K (.val (.int k (k.wrap a))) H
    | _=>False) .mk:=propext Iff.rfl
theorem DO (n k:Nat) (o:bI):View.set H n o k=if k=n then o else H k:=id rfl
theorem Ej (z:List V) (parts:List (Nat × Nat × SX)) (K:V→View→Prop):wI P (.build z parts) T H K=m9 (ae z (parts.map fun p=>(p.1,p.2.1,p.2.2.at T))) (fun o=>match o with
    | some cs=>K (.agg cs) H
    | none=>False) .mk:=propext Iff.rfl
theorem AW (len sz:Nat) (z:List V) (parts:List (Nat × SX)) (K:V→View→Prop):wI P (.bD len sz z parts) T H K=m9 (af sz (List.replicate len z) (parts.map fun p=>(p.1,p.2.at T))) (fun o=>match o with
    | some es=>∀ n,H n=.dead→K (.sl n 0 len sz) (H.set n (.arr sz es))
    | none=>False) .mk:=propext Iff.rfl
theorem EK (sz:Nat) (x:SX) (lo hi:Option SX) (K:V→View→Prop):wI P (.slice sz x lo hi) T H K=m9 (j6 sz (x.at T) (lo.map (SX.at T)) (hi.map (SX.at T))) (fun o=>match o with
    | some (v,.none,_)=>K v H
    | _=>False) .mk:=propext Iff.rfl
theorem Gf (sz bytes:Nat) (z:List V) (l c:SX) (K:V→View→Prop):wI P (.make sz bytes z l c) T H K=m9 (asNat (l.at T)) (fun a=>m9 (asNat (c.at T)) (fun b=>match a,b with
    | some l,some c=>(l≤c∧c < aW∧bytes * c < aW)∧(c=0→K (.emp 2) H)∧(c≠0→∀ n,H n=.dead→K (.sl n 0 l sz) (H.set n (.arr sz (List.replicate l z))))
    | _,_=>False) .mk) .mk:=propext Iff.rfl
def oR (sz bytes:Nat) (x:V) (xs:List (List V)) (H:View) (K:V→View→Prop) (_:cp (H,K)):Prop:=if xs.isEmpty=true then (match x with
        | .emp k=>K (.emp k) H
        | .c8=>K .c8 H
        | .aK es=>K (.aK es) H
        | .sl a b c d=>K (.sl a b c d) H
        | _=>False)
      else (xs.all fun e=>e.length == sz && e.all aR)=true∧(match x with
        | .emp _=>(xs.length * bytes < aW∧xs.length < aW)∧∀ n,H n=.dead→K (.sl n 0 xs.length sz) (H.set n (.arr sz xs))
        | .sl id off len esz=>match H id with
          | .arr _ es=>(off+len≤es.length∧esz=sz∧(len+xs.length) * bytes < aW∧len+xs.length < aW) ∧
              ∀ n,H n=.dead→K (.sl n 0 (len+xs.length) esz) ((H.set id .dead).set n (.arr esz ((es.drop off).take len ++ xs)))
          | _=>False
        | _=>False)
theorem JF (sz bytes:Nat) (x y:SX) (K:V→View→Prop):wI P (.app sz bytes x y) T H K=m9 (bG H (y.at T)) (fun o=>match o with
    | some (xs,_)=>oR sz bytes (x.at T) xs H K .mk
    | none=>False) .mk:=propext Iff.rfl
theorem uA (sz bytes k:Nat) (xs:List (List V)) (K:V→View→Prop) (w:cp (H,K)) (h0:xs.isEmpty=false):oR sz bytes (.emp k) xs H K w=((xs.all fun e=>e.length == sz && e.all aR)=true∧(xs.length * bytes < aW∧xs.length < aW)∧∀ n,H n=.dead→K (.sl n 0 xs.length sz) (H.set n (.arr sz xs))):=by
  unfold oR; rw[if_neg (by rw[h0]; simp)]
theorem xB (sz bytes id off len esz:Nat) (xs:List (List V)) (K:V→View→Prop) (w:cp (H,K)) (h0:xs.isEmpty=false):oR sz bytes (.sl id off len esz) xs H K w=((xs.all fun e=>e.length == sz && e.all aR)=true∧DR (H id) (fun o=>match o with
          | .arr _ es=>(off+len≤es.length∧esz=sz∧(len+xs.length) * bytes < aW∧len+xs.length < aW) ∧
              ∀ n,H n=.dead→K (.sl n 0 (len+xs.length) esz) ((H.set id .dead).set n (.arr esz ((es.drop off).take len ++ xs)))
          | _=>False) .mk):=by
  unfold oR DR; rw[if_neg (by rw[h0]; simp)]
theorem oM (id off len esz z:Nat) (es:List (List V)) (hH:H id=.arr z es) (hl:off+(len+1)≤es.length):bG H (.sl id off (len+1) esz)=some ((es.drop off).take (len+1),[id]):=by
  simp only[bG,hH]; rw[if_pos hl]
theorem qH (es:List (List V)):bG H (.aK es)=some (es,[]):=id rfl
theorem qD (k:Nat):bG H (.emp k)=some ([],[]):=id rfl
theorem F4 (x:SX) (K:V→View→Prop):wI P (.AN x) T H K=df (x.at T) (fun v=>match v with
    | .aK es=>m9 (jl es) (fun o=>match o with
      | some l=>K (.val (.string ⟨l.toArray⟩)) H
      | none=>False) .mk
    | _=>False) .mk:=propext Iff.rfl
theorem Fu (x:SX) (K:V→View→Prop):wI P (.eS x) T H K=df (x.at T) (fun v=>match v with
    | .val (.string s)=>K (.aK (fi s)) H
    | _=>False) .mk:=propext Iff.rfl
def m0 (P:Program) (op:Op) (ty:TypeId) (T:Env) (H:View) (K:V→View→Prop) (_:cp (T,H,K)):Prop:=wI P (.old op ty) T H K
theorem IM (op:Op) (ty:TypeId) (K:V→View→Prop):wI P (.old op ty) T H K=m0 P op ty T H K .mk:=propext Iff.rfl
theorem Ko (t:Nat):ev T (.tmp t)=T t:=id rfl
theorem DA (v:Value):ev T (.const v)=dZ v:=id rfl
theorem Ij (t:Nat):(SX.tmp t).at T=T t:=id rfl
theorem JM (v:V):(SX.val v).at T=v:=id rfl
theorem FB (d t:Nat) (v:V):(T.put (some d) v) t=if t=d then v else T t:=id rfl
theorem Dw (v:V):T.put none v=T:=id rfl
theorem C2 (vs:List V) (t:Nat):jI vs t=vs.getD t .any:=id rfl
theorem yR (e:List V) (j:Nat) (K:V→Prop):ie none e j K=(j < e.length∧K (e.getD j .any)):=propext Iff.rfl
theorem zj (n:Nat) (e:List V) (j:Nat) (K:V→Prop):ie (some n) e j K=(j+n≤e.length∧K (.agg ((e.drop j).take n))):=propext Iff.rfl
theorem zr (a b:Prop):wU .normal a b=a:=propext Iff.rfl
theorem DI (i:Nat) (a b:Prop):wU (.exit i) a b=b:=propext Iff.rfl
theorem Fx (a b:Prop):wU .ret a b=b:=propext Iff.rfl
theorem vc (i:Nat):mR i .normal=.normal:=id rfl
theorem Bn (i:Nat):mR i .ret=.ret:=id rfl
theorem yU (i j:Nat):mR i (.exit j)=if j=i then .normal else .exit j:=by simp only[mR]
theorem Fs (acc:List V) (K:List V→Prop):yx T H [] acc K=K acc:=propext Iff.rfl
theorem Ee (r:SR) (l:List SR) (acc:List V) (K:List V→Prop):yx T H (r :: l) acc K=wR T H r fun v=>yx T H l (acc ++ [v]) K:=propext Iff.rfl
theorem IU (t:Nat) (K:V→Prop):wR T H (.tmp t) K=K (T t):=propext Iff.rfl
theorem Gp (t:Nat) (sz:Option Nat) (K:V→Prop):wR T H (.cell t sz) K=df (T t) (fun v=>match v with
    | .ptr id i j=>DR (H id) (fun o=>match o with
      | .arr _ es=>i < es.length∧yI (es.getD i []) (fun e=>ie sz e j K) .mk
      | _=>False) .mk
    | .aU e j=>ie sz e j K
    | _=>False) .mk:=propext Iff.rfl
theorem B8 (t:Nat) (b:Bool):qb (.tmp t) b T=T.put (some t) (.val (.bool b)):=id rfl
theorem Bv (v:V) (b:Bool):qb (.val v) b T=T:=id rfl
theorem I0:(Exit.ret=Exit.ret∨Exit.ret=Exit.normal)=True:=by simp
theorem B7:(Exit.normal=Exit.ret∨Exit.normal=Exit.normal)=True:=by simp
end
section
variable {P:Program} {T:Env} {H:View}
theorem bK.intro {c:SC} {Q:Exit→Env→View→Prop} {v:cp (T,H,Q)} (I:Nat→Env→View→Prop) (k:Nat) (h0:I k T H)
    (hs:∀ k T H,I k T H→wS P c T H fun e T' H'=>wU e (∃ k',k' < k∧I k' T' H') (Q e T' H')):bK P c T H Q v:=by
  simp only[bK,wS]
  exact ⟨I,⟨k,h0⟩,hs⟩
theorem zm.intro {l:Nat} {c r:SC} {Q:Exit→Env→View→Prop} {v:cp (T,H,Q)} (I:Nat→Env→View→Prop) (K:Nat)
    (hs:∀ k T H,I k T H→wS P r T H fun e T' H'=>oT l e (∃ k',k' < k∧I k' T' H') (Q e T' H'))
    (h0:(∀ k T H,I k T H→wS P r T H fun e T' H'=>oT l e (∃ k',k' < k∧I k' T' H') (Q e T' H'))→wS P c T H fun e T' H'=>oT l e (∃ k,k < K∧I k T' H') (Q e T' H')):zm P l c r T H Q v:=by
  simp only[zm,wS]
  exact ⟨I,K,h0 hs,hs⟩
theorem aE.pure {q:Bool} {f:FuncId} {vs:List V} {K:V→View→Prop} {v:cp (H,K)} {t:V} (hc:aC P f vs t) (hok:cR P f=true) (hk:K t H):aE P q f vs H K v:=by
  unfold aE
  cases q with
  | true=>exact hc.DN hok hk
  | false =>
    refine ⟨hok,?_⟩
    rintro h rfl
    exact ⟨t,h,bw.eT hc h,.refl _,hk⟩
theorem aE.gF {f:FuncId} {vs:List V} {K:V→View→Prop} {v:cp (H,K)} (hc:aA P f vs H K):aE P false f vs H K v:=hc
theorem BI:aB.view []=fun _=>bI.dead:=by funext id; simp[aB.view]
theorem aC.of {f:FuncId} {vs:List V} {t:V} (ht:∀ v∈vs,Tree v) (h:aA P f vs (fun _=>.dead) fun r H'=>∀ h':aB,h'.view=H'→Fr h' r t):aC P f vs t:=by
  obtain ⟨r,h',ha,_,hf⟩:=h.2 [] BI
  exact aC.sn ht ha (hf h' rfl)
theorem wrap64 {x:Int} (h1 : -9223372036854775808≤x) (h2:x≤9223372036854775807):IntKind.wrap .i64 x=x:=by
  unfold IntKind.wrap
  have e1:(2:Int) ^ IntKind.i64.bits=18446744073709551616:=by rfl
  have e2:(2:Int) ^ (IntKind.i64.bits - 1)=9223372036854775808:=by rfl
  have e3:IntKind.i64.signed=true:=by rfl
  simp only[e1,e2,e3,Bool.true_and,decide_eq_true_eq]
  split <;> omega
theorem BF {k:IntKind} {i:Int} (h:0≤i):asNat (.val (.int k i))=some i.toNat:=by simp[asNat,h]
end
theorem Bo (v:Value):V.cells (.val v)=[.val v]:=id rfl
theorem AG (v:Value):aR (.val v)=true:=id rfl
theorem BY (k:Nat):V.cells (.emp k)=[.emp k]:=id rfl
theorem AE (k:Nat):aR (.emp k)=true:=id rfl
theorem A3  : V.cells .c8=[.c8]:=id rfl
theorem Gs  : aR .c8=true:=id rfl
theorem BG (es:List (List V)):V.cells (.aK es)=[.aK es]:=id rfl
theorem GF (es:List (List V)):aR (.aK es)=true:=id rfl
theorem En (a b c d:Nat):V.cells (.sl a b c d)=[.sl a b c d]:=id rfl
theorem Kz (a b c d:Nat):aR (.sl a b c d)=true:=id rfl
theorem Bx (a b c:Nat):V.cells (.ptr a b c)=[.ptr a b c]:=id rfl
theorem Fy (a b c:Nat):aR (.ptr a b c)=true:=id rfl
theorem zu (e:List V) (j:Nat):V.cells (.aU e j)=[.aU e j]:=id rfl
theorem Dx (e:List V) (j:Nat):aR (.aU e j)=true:=id rfl
theorem Dn (a:Nat):V.cells (.mp a)=[.mp a]:=id rfl
theorem I5 (a:Nat):aR (.mp a)=true:=id rfl
theorem DY (f:FuncId) (a b:List V):V.cells (.fn f a b)=[.fn f a b]:=id rfl
theorem I9 (f:FuncId) (a b:List V):aR (.fn f a b)=true:=id rfl
theorem B0 (cs:List V):V.cells (.agg cs)=cs:=id rfl
theorem FY (k:Nat):cH (.emp k)=some 0:=id rfl
theorem Gr:cH .c8=some 0:=id rfl
theorem Gb (es:List (List V)):cH (.aK es)=some es.length:=id rfl
theorem IV (a b c d:Nat):cH (.sl a b c d)=some c:=id rfl
abbrev Ou {p:Prop} (_:p):Prop:=p
abbrev Wr:Prop:=Ou (And.intro @Mn <| And.intro @Gq <| And.intro @Bb <| And.intro @y7 <| And.intro @yF <| And.intro @Gx <| And.intro @Dg <| And.intro @It <|
    And.intro @FI <| And.intro @D2 <| And.intro @GA <| And.intro @Ks <| And.intro @Dd <| And.intro @Dv <| And.intro @FM <| And.intro @ym <| And.intro @uM <| And.intro @y8 <| And.intro @Bj <| And.intro @Eu <| And.intro @y3 <|
    And.intro @GI <| And.intro @F1 <| And.intro @DE <| And.intro @FR <|
    And.intro @GB <| And.intro @Du <| And.intro @wJ <| And.intro @vm <|
    And.intro @Gn <| And.intro @Dm <| And.intro @L0 <| And.intro @FG <|
    And.intro @J2 <| And.intro @FT <| And.intro @Jr <| And.intro @Ii <|
    And.intro @C9 <| And.intro @FO <| And.intro @Ed <| And.intro @EE <|
    And.intro @F3 <| And.intro @FC <| And.intro @Ec <| And.intro @Jg <|
    And.intro @Gw <| And.intro @C5 <| And.intro @IE <| And.intro @Ix <|
    And.intro @Gm <| And.intro @Eo <| And.intro @L3 <| And.intro @JG <| And.intro @Fv <|
    And.intro @Je <| And.intro @Io <| And.intro @GG <| And.intro @F5 <|
    And.intro @Jo <| And.intro @I6 <| And.intro @FX <| And.intro @F4 <|
    And.intro @Fu <| And.intro @Ej <| And.intro @AW <| And.intro @EK <|
    And.intro @Gf <| And.intro @JF <| And.intro @IM <| And.intro @Ko <| And.intro @DA <| And.intro @Ij <| And.intro @JM <|
    And.intro @FB <| And.intro @Dw <| And.intro @C2 <| And.intro @yR <|
    And.intro @zj <| And.intro @zr <| And.intro @DI <| And.intro @Fx <|
    And.intro @vc <| And.intro @Bn <| And.intro @yU <| And.intro @Fs <|
    And.intro @Ee <| And.intro @IU <| And.intro @Gp <| And.intro @B8 @Bv)
theorem wr:Wr:=(And.intro @Mn <| And.intro @Gq <| And.intro @Bb <| And.intro @y7 <| And.intro @yF <| And.intro @Gx <| And.intro @Dg <| And.intro @It <|
    And.intro @FI <| And.intro @D2 <| And.intro @GA <| And.intro @Ks <| And.intro @Dd <| And.intro @Dv <| And.intro @FM <| And.intro @ym <| And.intro @uM <| And.intro @y8 <| And.intro @Bj <| And.intro @Eu <| And.intro @y3 <|
    And.intro @GI <| And.intro @F1 <| And.intro @DE <| And.intro @FR <|
    And.intro @GB <| And.intro @Du <| And.intro @wJ <| And.intro @vm <|
    And.intro @Gn <| And.intro @Dm <| And.intro @L0 <| And.intro @FG <|
    And.intro @J2 <| And.intro @FT <| And.intro @Jr <| And.intro @Ii <|
    And.intro @C9 <| And.intro @FO <| And.intro @Ed <| And.intro @EE <|
    And.intro @F3 <| And.intro @FC <| And.intro @Ec <| And.intro @Jg <|
    And.intro @Gw <| And.intro @C5 <| And.intro @IE <| And.intro @Ix <|
    And.intro @Gm <| And.intro @Eo <| And.intro @L3 <| And.intro @JG <| And.intro @Fv <|
    And.intro @Je <| And.intro @Io <| And.intro @GG <| And.intro @F5 <|
    And.intro @Jo <| And.intro @I6 <| And.intro @FX <| And.intro @F4 <|
    And.intro @Fu <| And.intro @Ej <| And.intro @AW <| And.intro @EK <|
    And.intro @Gf <| And.intro @JF <| And.intro @IM <| And.intro @Ko <| And.intro @DA <| And.intro @Ij <| And.intro @JM <|
    And.intro @FB <| And.intro @Dw <| And.intro @C2 <| And.intro @yR <|
    And.intro @zj <| And.intro @zr <| And.intro @DI <| And.intro @Fx <|
    And.intro @vc <| And.intro @Bn <| And.intro @yU <| And.intro @Fs <|
    And.intro @Ee <| And.intro @IU <| And.intro @Gp <| And.intro @B8 @Bv)
abbrev Wq:Prop:=Ou (And.intro @eq_self.{1} <| And.intro @ne_eq.{1} <| And.intro @implies_true.{1} <| And.intro @implies_true.{0} <| And.intro @decide_true <| And.intro @decide_false <| And.intro @Fm <| And.intro @Gt <| And.intro @CR <| And.intro @Dh <| And.intro @Ep <| And.intro @C1 <| And.intro @FV <| And.intro @Jc <| And.intro @JA <| And.intro @Kd <| And.intro @FE <| And.intro @F6 <| And.intro @F2 <| And.intro @Bo <| And.intro @AG <| And.intro @BY <| And.intro @AE <| And.intro @A3 <| And.intro @Gs <| And.intro @BG <| And.intro @GF <| And.intro @En <| And.intro @Kz <| And.intro @Bx <| And.intro @Fy <| And.intro @zu <| And.intro @Dx <| And.intro @Dn <| And.intro @I5 <| And.intro @DY <| And.intro @I9 <| And.intro @B0 <| And.intro @FY <| And.intro @Gr <| And.intro @Gb <| And.intro @IV <| And.intro @true_or <| And.intro @or_true <| And.intro @or_false <| And.intro @false_or <|
    And.intro @Oq <| And.intro @Gy <| And.intro @FJ <| And.intro @GC <|
    And.intro @GH <| And.intro @Ih <| And.intro @FH <| And.intro @Eg <|
    And.intro @Iq <| And.intro @Ik <| And.intro @GJ <| And.intro @Gj <|
    And.intro @GK <| And.intro @Fl <| And.intro @Ev <| And.intro @CX <|
    And.intro @Bg <| And.intro @F7 <| And.intro @List.getD_cons_zero.{0} <| And.intro @List.getD_cons_succ.{0} <|
    And.intro @List.length_cons.{0} <| And.intro @List.length_nil.{0} <| And.intro @List.length_map.{0,0} <| And.intro @wrap64 <|
    And.intro @true_and <| And.intro @and_true <| And.intro @and_self <| And.intro @decide_eq_true_eq <|
    And.intro @decide_eq_false_iff_not <| And.intro @List.all_cons.{0} <| And.intro @List.all_nil.{0} <| And.intro @Bool.and_self <|
    And.intro @List.nil_append.{0} <| And.intro @List.cons_append.{0} <| And.intro @Nat.zero_add <| And.intro @BF <|
    And.intro @Int.toNat_natCast <| And.intro @I0 <| And.intro @B7 <| And.intro @bne_iff_ne.{0} <|
    And.intro @beq_iff_eq.{0} <| And.intro @Bool.not_eq_true <| And.intro @Bool.not_true <| And.intro @Bool.not_false <|
    And.intro @List.append_nil.{0} <| And.intro @List.map_cons.{0,0} <| And.intro @List.map_nil.{0,0} <| And.intro @Bool.true_eq_false <|
    And.intro @Bool.false_eq_true <| And.intro @false_implies <| And.intro @true_implies <| And.intro @Bool.not_not <|
    And.intro @List.drop_zero.{0} <| And.intro @DO <| And.intro @List.set_cons_zero.{0} <| And.intro @List.set_cons_succ.{0} <|
    And.intro @List.drop_nil.{0} <| And.intro @Nat.add_zero <| And.intro @List.replicate_zero.{0} <| And.intro @List.replicate_succ.{0} <|
    And.intro @qH <| And.intro @qD <| And.intro @uA <| And.intro @xB <|
    And.intro @List.isEmpty_cons.{0} <| And.intro @Option.map_none.{0,0} <| And.intro @Option.map_some.{0,0} <| And.intro @Nat.succ_ne_zero <|
    And.intro @List.take_succ_cons.{0} <| And.intro @List.take_zero.{0} <| And.intro @List.drop_succ_cons.{0} <| And.intro @bne_eq_false_iff_eq.{0} <|
    And.intro @beq_eq_false_iff_ne.{0} <| And.intro @not_true_eq_false <| And.intro @not_false_eq_true @Decidable.not_not)
theorem wq:Wq:=(And.intro @eq_self.{1} <| And.intro @ne_eq.{1} <| And.intro @implies_true.{1} <| And.intro @implies_true.{0} <| And.intro @decide_true <| And.intro @decide_false <| And.intro @Fm <| And.intro @Gt <| And.intro @CR <| And.intro @Dh <| And.intro @Ep <| And.intro @C1 <| And.intro @FV <| And.intro @Jc <| And.intro @JA <| And.intro @Kd <| And.intro @FE <| And.intro @F6 <| And.intro @F2 <| And.intro @Bo <| And.intro @AG <| And.intro @BY <| And.intro @AE <| And.intro @A3 <| And.intro @Gs <| And.intro @BG <| And.intro @GF <| And.intro @En <| And.intro @Kz <| And.intro @Bx <| And.intro @Fy <| And.intro @zu <| And.intro @Dx <| And.intro @Dn <| And.intro @I5 <| And.intro @DY <| And.intro @I9 <| And.intro @B0 <| And.intro @FY <| And.intro @Gr <| And.intro @Gb <| And.intro @IV <| And.intro @true_or <| And.intro @or_true <| And.intro @or_false <| And.intro @false_or <|
    And.intro @Oq <| And.intro @Gy <| And.intro @FJ <| And.intro @GC <|
    And.intro @GH <| And.intro @Ih <| And.intro @FH <| And.intro @Eg <|
    And.intro @Iq <| And.intro @Ik <| And.intro @GJ <| And.intro @Gj <|
    And.intro @GK <| And.intro @Fl <| And.intro @Ev <| And.intro @CX <|
    And.intro @Bg <| And.intro @F7 <| And.intro @List.getD_cons_zero.{0} <| And.intro @List.getD_cons_succ.{0} <|
    And.intro @List.length_cons.{0} <| And.intro @List.length_nil.{0} <| And.intro @List.length_map.{0,0} <| And.intro @wrap64 <|
    And.intro @true_and <| And.intro @and_true <| And.intro @and_self <| And.intro @decide_eq_true_eq <|
    And.intro @decide_eq_false_iff_not <| And.intro @List.all_cons.{0} <| And.intro @List.all_nil.{0} <| And.intro @Bool.and_self <|
    And.intro @List.nil_append.{0} <| And.intro @List.cons_append.{0} <| And.intro @Nat.zero_add <| And.intro @BF <|
    And.intro @Int.toNat_natCast <| And.intro @I0 <| And.intro @B7 <| And.intro @bne_iff_ne.{0} <|
    And.intro @beq_iff_eq.{0} <| And.intro @Bool.not_eq_true <| And.intro @Bool.not_true <| And.intro @Bool.not_false <|
    And.intro @List.append_nil.{0} <| And.intro @List.map_cons.{0,0} <| And.intro @List.map_nil.{0,0} <| And.intro @Bool.true_eq_false <|
    And.intro @Bool.false_eq_true <| And.intro @false_implies <| And.intro @true_implies <| And.intro @Bool.not_not <|
    And.intro @List.drop_zero.{0} <| And.intro @DO <| And.intro @List.set_cons_zero.{0} <| And.intro @List.set_cons_succ.{0} <|
    And.intro @List.drop_nil.{0} <| And.intro @Nat.add_zero <| And.intro @List.replicate_zero.{0} <| And.intro @List.replicate_succ.{0} <|
    And.intro @qH <| And.intro @qD <| And.intro @uA <| And.intro @xB <|
    And.intro @List.isEmpty_cons.{0} <| And.intro @Option.map_none.{0,0} <| And.intro @Option.map_some.{0,0} <| And.intro @Nat.succ_ne_zero <|
    And.intro @List.take_succ_cons.{0} <| And.intro @List.take_zero.{0} <| And.intro @List.drop_succ_cons.{0} <| And.intro @bne_eq_false_iff_eq.{0} <|
    And.intro @beq_eq_false_iff_ne.{0} <| And.intro @not_true_eq_false <| And.intro @not_false_eq_true @Decidable.not_not)
inductive xz:V→Prop
  | val (v:Value):xz (.val v)
  | bc (cs:List V):(∀ i,i < cs.length→∃ v,cs.getD i .any=.val v)→xz (.bc cs)
theorem LA {Z Z':Nat→Prop} {μ μ':Mu} {hp hp':Array Obj} {t:V} {x:Value} (hf:xz t) (h:ay Z μ hp t x):ay Z' μ' hp' t x:=by
  cases hf with
  | val=>cases h with | val _ hv=>exact .val _ hv
  | bc cs hc =>
    cases h with
    | bc _ aas h1 h2 =>
      refine .bc _ _ h1 fun i hi=>?_
      have:=h2 i hi
      obtain ⟨v,hv⟩:=hc i hi
      rw[hv] at this ⊢
      generalize aas.getD i undef=y at this ⊢
      cases this with | val _ hv=>exact .val _ hv
theorem bw.borrow {P:Program} {f:FuncId} {ts vs:List V} {t:V} {h:aB} (hc:aC P f ts t) (hf:xz t) (hl:ts.length=vs.length)
    (hfr:∀ i,i < vs.length→Fr h (vs.getD i .any) (ts.getD i .any)):bw P f vs h t h:=by
  refine ⟨Nat.le_refl _,fun Z μ F w xs hrel hr hfree=>?_⟩
  have hts:dR (fun b=>Z b∨gL μ b) μ w.heap ts xs:=⟨by rw[hl,hrel.1],fun i hi=>zB hr (hfr i (by omega)) (hrel.2 i (by omega))⟩
  have hzl:∀ b,(Z b∨gL μ b)→b < w.heap.size:=by
    rintro b (hb | ⟨id,o,s,hb⟩)
    · exact hr.bZ b hb
    · exact hr.lt _ _ _ _ hb
  refine (hc _ μ w xs hts hzl).mono ?_
  rintro e w' ⟨x,Z',rfl,hv,hs,hz,hz',ho⟩
  have hm:fj Z Z μ μ w.heap w'.heap:=⟨fun _ h=>h,fun b hb=>ho b (hr.bZ b hb) (fun x=>x),fun _ _ h=>h,ho.nL⟩
  exact ⟨x,Z,μ,rfl,LA hf (hv μ),⟨fun id=>(hr.obj id).mono hm rfl (fun b o s hx=>ho b (hr.lt _ _ _ _ hx) (fun x=>x)),hr.inj,fun id b o s hx=>Nat.lt_of_lt_of_le (hr.lt _ _ _ _ hx) hs.size,fun b hb=>Nat.lt_of_lt_of_le (hr.bZ b hb) hs.size,hr.fq⟩,
    ⟨hs,hm,fun b hb _=>ho b hb (fun x=>x),fun b hb=>.inl hb,fun _ _ _ _ h=>.inl h⟩,fun _ _=>rfl⟩
def eK (H:View) (v t:V):Prop:=∀ h:aB,h.view=H→Fr h v t
theorem eK.tree {H:View} {v:V} (h:Tree v):eK H v v:=fun _ _=>.tree _ h
theorem eK.sl {H:View} {id off len esz z:Nat} {es:List (List V)} (hH:H id=.arr z es) (hle:off+len≤es.length) (ht:∀ e∈es,∀ v∈e,Tree v) :
    eK H (.sl id off len esz) (.aK ((es.drop off).take len)):=by
  rintro h rfl
  have hg:∀ i,i < len→((es.drop off).take len).getD i []=es.getD (off+i) []:=fun i hi=>by
    simp[List.getD_eq_getElem?_getD,List.getElem?_take,hi]
  refine .sl id off len esz z es _ hH hle (by simp; omega) (fun i hi=>by rw[hg i hi]) (fun i j hi hj=>?_)
  rw[hg i hi] at hj ⊢
  refine .tree _ ?_
  have h1:off+i < es.length:=by omega
  have e1:es.getD (off+i) []=es[off+i]:=by simp[List.getD_eq_getElem?_getD,h1]
  rw[e1] at hj ⊢
  have e2:(es[off+i]).getD j .any=(es[off+i])[j]:=by simp[List.getD_eq_getElem?_getD,hj]
  rw[e2]
  exact ht _ (List.getElem_mem _) _ (List.getElem_mem _)
theorem aE.borrow {P:Program} {q:Bool} {f:FuncId} {H:View} {vs ts:List V} {K:V→View→Prop} {v:cp (H,K)} {t:V} (hc:aC P f ts t) (hok:cR P f=true) (hf:xz t) (hl:ts.length=vs.length)
    (hfr:∀ i,i < vs.length→eK H (vs.getD i .any) (ts.getD i .any)) (hk:K t H):aE P q f vs H K v:=by
  unfold aE
  cases q with
  | true=>exact ⟨hok,fun h e=>⟨t,h,bw.borrow hc hf hl (fun i hi=>hfr i hi h e),fun _ _=>rfl,e ▸ hk⟩⟩
  | false =>
    refine ⟨hok,?_⟩
    rintro h rfl
    exact ⟨t,h,bw.borrow hc hf hl (fun i hi=>hfr i hi h rfl),.refl _,hk⟩
abbrev gi (x:Int):V:=.val (.int .i64 x)
abbrev gb (x:Bool):V:=.val (.bool x)
abbrev gs (x:ByteArray):V:=.val (.string x)
theorem mixed:(Tryz.prog).follows .mixedOrders=true:=by kernel_rfl
def encI (l:List Int):V:=.aK (l.map fun x=>[gi x])
def di (l:List Bool):V:=.aK (l.map fun x=>[gb x])
theorem iY (l:List Int):Tree (encI l):=by
  refine .aK _ fun i j hi hj=>?_
  simp only[List.length_map] at hi
  simp[List.getD_eq_getElem?_getD,hi] at hj ⊢
  subst hj
  exact .val _
def bo {α:Type} (l:List α):Prop:=l.length < 4611686018427387904
theorem kQ (l:List Bool):Tree (di l):=by
  refine .aK _ fun i j hi hj=>?_
  simp only[List.length_map] at hi
  simp[List.getD_eq_getElem?_getD,hi] at hj ⊢
  subst hj
  exact .val _
end Gv
