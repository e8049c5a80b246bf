/-
  Part 5 of the proof: what the machine does and what the functions answer.
  Conditions: those that each lemma names.
-/
import Derived.Test.YtkkdjpnkhhlnpaaGreatProg
import Derived.KernelRfl
import Derived.Test.YtkkdjpnkhhlnpaaGreatSGzA1D
set_option linter.unusedSimpArgs false
set_option linter.unusedVariables false
set_option maxRecDepth 100000
namespace Gv
open Go Go.Proofs
section
variable {P:Program} {n:Nat} {all:List Oper}
theorem FC (h:ax):h.view h.length=.dead:=by simp[ax.view,List.getD_eq_getElem?_getD]
theorem H7 {o:Oper} {T:Env} {h:ax} {s:SI} {K:V→View→Prop} (hg:bM n all T o=some true) (hc:∀ v av rd,sI P s T h.view h.length=some (v,av,rd)→bp P o T h.view h.length=some (v,av,rd)) (hw:wI P s T h.view K) :
    ∃ v h' rd wr,b3 P n all o T h v h' rd wr false∧eO h h'∧K v h'.view∧gD (nX P s) rd wr false h.length h'.length:=by
  obtain ⟨v,av,rd,hs,hk⟩:=Ik hw (FC h)
  have ha:=hc _ _ _ hs
  have hlive:∀ id,id∈av.wr→h.view id≠.dead:=fun id hid=>(iD ha id hid).1
  refine ⟨v,av.apply h,rd,av.wr,.op hg ha,?_,?_,?_,?_⟩
  · intro id hid hd
    rw[gY hlive]
    cases av with
    | none=>exact hd
    | new o=>simp only[aQ.view,View.set]; rw[if_neg (by omega)]; exact hd
    | dQ k o =>
      simp only[aQ.view,View.set]
      rw[if_neg (by rintro rfl; exact hlive id (by simp[aQ.wr]) hd)]; exact hd
    | aW k o =>
      simp only[aQ.view,View.set]
      rw[if_neg (by omega)]
      split
      · rfl
      · exact hd
  · rw[gY (fun id hid=>(iD ha id hid).1)]; exact hk
  · intro h0
    obtain ⟨rfl,rfl⟩:=(my hs).1 h0
    exact ⟨rfl,rfl,rfl,rfl⟩
  · intro h1
    rcases Nat.lt_or_ge (nX P s) 1 with h2 | h2
    · obtain ⟨rfl,rfl⟩:=(my hs).1 (by omega); rfl
    · exact (my hs).2 (by omega)
theorem A2 {P:Program} {fr:Bool} {s:SI} {T:Env} {H:View} {n:Nat} {v:V} {av:aQ} {rd:List Nat} (h:sI P (rp P fr s) T H n=some (v,av,rd)):sI P s T H n=some (v,av,rd):=by
  unfold rp at h
  split at h
  · split at h
    · exact Fo h
    · exact h
  · split at h
    · rename_i hc
      simp only[Bool.and_eq_true] at hc
      exact GL hc.2 h
    · exact h
  · exact h
theorem tu (P:Program) (fz:Fz) (o:Oper) :
    (∃ f args ats,o.op=.call { callee:=.value f,args:=args,argTypes:=ats }∧jJ P fz o=.call (SX.of f) (args.toList.map SX.of)) ∨
    (∃ t x,o.op=.box t x∧jJ P fz o=.op (.eX (SX.of x)))∨(∃ s d x,o.op=.convert s d x∧oS P s d=true∧jJ P fz o=.op (.dn (SX.of x)))∨jJ P fz o=.op (rp P fz.fr (comp P o)):=by
  unfold jJ
  split
  · rename_i f args ats ho; exact .inl ⟨f,args,ats,ho,rfl⟩
  · rename_i t x ho
    by_cases hd:(match o.dst with | some d=>fz.l.contains d | none=>false)=true
    · exact .inr (.inl ⟨t,x,ho,if_pos hd⟩)
    · refine .inr (.inr (.inr ?_))
      refine (if_neg hd).trans ?_
      simp only[comp,ho,rp]
  · rename_i s d x ho
    by_cases hd:((match o.dst with | some d=>fz.l.contains d | none=>false) && oS P s d)=true
    · exact .inr (.inr (.inl ⟨s,d,x,ho,by simp only[Bool.and_eq_true] at hd; exact hd.2,if_pos hd⟩))
    · exact .inr (.inr (.inr (if_neg hd)))
  · exact .inr (.inr (.inr rfl))
theorem b3.len {o:Oper} {T:Env} {h h':ax} {v:V} {rd wr:List Nat} {call:Bool} (st:b3 P n all o T h v h' rd wr call):h.length≤h'.length:=by
  cases st with
  | skip=>exact Nat.le_refl _
  | op _ _=>rename_i av _ _ ; cases av <;> simp[aQ.apply]
  | eX _ _ _=>exact Nat.le_refl _
  | dn _ _ _ _ _ _=>exact Nat.le_refl _
  | call _ _ _ _ ha _ _=>exact ha.1
theorem GY {fz:Fz} {o:Oper} {T:Env} {h:ax} {quiet:Bool} {K:V→View→Prop} (hg:bM n all T o=some true) (hw:wB P quiet (jJ P fz o) T h.view K) :
    ∃ v h' rd wr call,b3 P n all o T h v h' rd wr call∧eO h h'∧K v h'.view∧gD (eT P quiet (jJ P fz o)) rd wr call h.length h'.length:=by
  rcases tu P fz o with ⟨f,args,ats,ho,hc⟩ | ⟨t,x,ho,hc⟩ | ⟨s,d,x,ho,hcv,hc⟩ | hc
  · rw[hc] at hw ⊢
    simp only[wB] at hw
    split at hw
    · rename_i g first cap hf
      rw[z1] at hw
      rw[SX.bz] at hf
      split at hw
      · rename_i hq
        obtain ⟨hok,hq'⟩:=hw
        obtain ⟨r,h',hr,hold,hk⟩:=hq' h rfl
        refine ⟨r,h',[],[],true,.call hg ho hf hok hr (fun id hid _=>hold id hid) (fun id hid=>by simp at hid),fun id hid hd=>(hold id hid).trans hd,hk,?_,?_⟩
        · intro h0; simp[eT,hq] at h0
        · intro _; rfl
      · rename_i hq
        obtain ⟨hok,hq'⟩:=hw
        obtain ⟨r,h',hr,hst,hk⟩:=hq' h rfl
        refine ⟨r,h',[],List.range h.length,true,.call hg ho hf hok hr (fun id hid hn=>?_) (fun id hid=>by simpa using hid),hst,hk,GK (by simp[eT,hq])⟩
        exact absurd (by simpa using hid) hn
    · exact hw.elim
  · rw[hc] at hw ⊢
    simp only[wB,wI,SX.bz] at hw
    exact ⟨_,h,[],[],false,.eX hg ho hw.1,.refl _,hw.2,fun _=>⟨rfl,rfl,rfl,rfl⟩,fun _=>rfl⟩
  · rw[hc] at hw ⊢
    simp only[wB,wI,SX.bz] at hw
    obtain ⟨e,h1,h2,h3⟩:=tq hcv
    split at hw
    · rename_i st hx
      exact ⟨_,h,[],[],false,.dn hg ho h1 h2 h3 hx,.refl _,hw,fun _=>⟨rfl,rfl,rfl,rfl⟩,fun _=>rfl⟩
    · exact hw.elim
  · rw[hc] at hw ⊢
    obtain ⟨v,h',rd,wr,h1,h0,h2,h3⟩:=H7 (s:=rp P fz.fr (comp P o)) hg (fun v av rd hs=>B8 (A2 hs)) hw
    exact ⟨v,h',rd,wr,false,h1,h0,h2,h3⟩
def de (P:Program) (quiet:Bool) (l:List SO) (recs:List Rec):Prop :=
  l.length=recs.length∧∀ (i:Nat) (s:SO) (r:Rec),l[i]?=some s→recs[i]?=some r→gD (eT P quiet s.b) r.rd r.wr r.call r.lo r.hi
theorem de.nil {quiet:Bool} : de P quiet [] []:=⟨rfl,fun i s r h=>by simp at h⟩
theorem de.cons {quiet:Bool} {l:List SO} {recs:List Rec} {s:SO} {r:Rec} (h:de P quiet l recs) (hr:gD (eT P quiet s.b) r.rd r.wr r.call r.lo r.hi):de P quiet (s :: l) (r :: recs):=by
  refine ⟨by simp[h.1],fun i s' r' hs hr'=>?_⟩
  cases i with
  | zero=>simp at hs hr'; subst hs hr'; exact hr
  | succ i=>exact h.2 i s' r' (by simpa using hs) (by simpa using hr')
theorem de.append {quiet:Bool} {l l':List SO} {recs recs':List Rec} (h:de P quiet l recs) (h':de P quiet l' recs'):de P quiet (l ++ l') (recs ++ recs'):=by
  refine ⟨by simp[h.1,h'.1],fun i s r hs hr=>?_⟩
  by_cases hi:i < l.length
  · rw[List.getElem?_append_left hi] at hs
    rw[List.getElem?_append_left (h.1 ▸ hi)] at hr
    exact h.2 i s r hs hr
  · rw[List.getElem?_append_right (by omega)] at hs
    rw[List.getElem?_append_right (by have:=h.1; omega)] at hr
    exact h'.2 (i - l.length) s r hs (by rw[h.1]; exact hr)
theorem nV {fz:Fz} {o:Oper} {s:SO} (h:yx P n all fz o=some s):me n o=true∧s.dst=o.dst∧s.b=jJ P fz o∧pw n all o=some s.guard:=by
  unfold yx at h
  split at h
  · rename_i hd
    simp only[Option.map_eq_some_iff] at h
    obtain ⟨g,hg,rfl⟩:=h
    exact ⟨hd,rfl,rfl,hg⟩
  · simp at h
theorem vC {o:Oper} {T:Env} (h:pw n all o=some none):bM n all T o=some true:=by
  unfold pw at h
  unfold bM
  split at h
  · rename_i hg; rw[hg]
  · split at h
    · split at h
      · simp at h
      · simp at h
    · simp at h
theorem gQ {o:Oper} {T:Env} {d:Nat} {want:Bool} (h:pw n all o=some (some (d,want))) :
    (∀ b,T d=.val (.bool b)→bM n all T o=some (b == want))∧(T d=.bg []→bM n all T o=some false):=by
  unfold pw at h
  unfold bM
  split at h
  · simp at h
  · rename_i j w hg
    rw[hg]
    split at h
    · rename_i d' hd
      split at h
      · rename_i hlt
        simp at h
        obtain ⟨rfl,rfl⟩:=h
        simp only[hd,hlt,if_true]
        exact ⟨fun b hb=>by rw[hb],fun hb=>by rw[hb]⟩
      · simp at h
    · simp at h
theorem gX {fz:Fz} {os:List Oper} (h:bU P n all fz os=some []):os=[]:=by
  cases os with
  | nil=>rfl
  | cons o r =>
    simp only[bU] at h
    split at h <;> simp at h
theorem hO {fz:Fz} {os:List Oper} {s:SO} {l:List SO} (h:bU P n all fz os=some (s :: l)):∃ o r,os=o :: r∧yx P n all fz o=some s∧bU P n all fz r=some l:=by
  cases os with
  | nil=>simp[bU] at h
  | cons o r =>
    simp only[bU] at h
    split at h
    · rename_i s' l' h1 h2
      simp at h
      obtain ⟨rfl,rfl⟩:=h
      exact ⟨o,r,rfl,h1,h2⟩
    · simp at h
theorem lE {fz:Fz} : ∀ {l l':List SO} {os:List Oper},bU P n all fz os=some (l ++ l')→∃ a b,os=a ++ b∧bU P n all fz a=some l∧bU P n all fz b=some l'
  | [],l',os,h=>⟨[],os,rfl,rfl,h⟩
  | s :: l,l',os,h=>by
    obtain ⟨o,r,rfl,h1,h2⟩:=hO h
    obtain ⟨a,b,rfl,h3,h4⟩:=lE h2
    exact ⟨o :: a,b,rfl,by simp[bU,h1,h3],h4⟩
theorem Tr.append {a b:List Oper} {T T1 T2:Env} {h h1 h2:ax} {r1 r2:List Rec} (x:Tr P n all a T h r1 T1 h1) (y:Tr P n all b T1 h1 r2 T2 h2):Tr P n all (a ++ b) T h (r1 ++ r2) T2 h2:=by
  induction x with
  | nil=>exact y
  | cons st hd _ ih=>exact .cons st hd (ih y)
theorem ud {T:Env} {d:Nat} {v:V} (h:T d=v):T.put (some d) v=T:=by
  funext t
  simp only[Env.put]
  split
  · rename_i e; subst e; exact h.symm
  · rfl
theorem zh {fz:Fz} {quiet:Bool} {K:Env→View→Prop} (g:Option (Nat × Bool)):∀ (l:List (Option Nat × SB)) (os:List Oper) (T:Env) (h:ax),
    bU P n all fz os=some (l.map fun (d,b)=>⟨d,g,b⟩)→(∀ d w,g=some (d,w)→T d=.val (.bool w)∧(l.all fun x=>x.1 != some d)=true)→sg P quiet l T h.view K →
    ∃ recs T' h',Tr P n all os T h recs T' h'∧(eO h h'∧h.length≤h'.length)∧K T' h'.view∧de P quiet (l.map fun (d,b)=>⟨d,g,b⟩) recs
  | [],os,T,h,hc,hg,hw=>by
    have:=gX hc; subst this
    exact ⟨[],T,h,.nil,⟨.refl _,Nat.le_refl _⟩,hw,.nil⟩
  | (d,b) :: l,os,T,h,hc,hg,hw=>by
    obtain ⟨o,r,rfl,h1,h2⟩:=hO hc
    obtain ⟨hd,hd1,hb1,hg1⟩:=nV h1
    simp only at hd1 hb1 hg1
    have hgv:bM n all T o=some true:=by
      cases g with
      | none=>exact vC hg1
      | some p =>
        obtain ⟨d',w⟩:=p
        have:=(gQ (T:=T) hg1).1 w (hg d' w rfl).1
        rw[this]; simp
    simp only[sg] at hw
    rw[hb1] at hw
    obtain ⟨v,h',rd,wr,call,st,hst,hk,hl⟩:=GY hgv hw
    obtain ⟨recs,T',h'',tr,hst',hk',hro⟩:=zh g l r (T.put d v) h' h2 (fun d' w e=>by
      have:=hg d' w e
      simp only[List.all_cons,Bool.and_eq_true,bne_iff_ne,ne_eq] at this
      refine ⟨?_,this.2.2⟩
      rw[← this.1]
      cases d with
      | none=>rfl
      | some t=>simp only[Env.put]; rw[if_neg]; intro e; subst e; exact this.2.1 rfl) hk
    rw[hd1] at tr
    have hlen:=st.len
    exact ⟨_,T',h'',.cons st hd tr,⟨hst.trans hst'.1 hlen,Nat.le_trans hlen hst'.2⟩,hk',hro.cons (by rw[hb1]; exact hl)⟩
theorem wT {fz:Fz} {quiet:Bool} (d:Nat) (w:Bool) (h:ax):∀ (l:List (Option Nat × SB)) (os:List Oper) (T:Env),
    bU P n all fz os=some (l.map fun (d',b)=>⟨d',some (d,w),b⟩)→(T d=.val (.bool !w)∨T d=.bg [])→(l.all fun x=>x.1 != some d)=true →
    ∃ recs,Tr P n all os T h recs (ey l T) h∧de P quiet (l.map fun (d',b)=>⟨d',some (d,w),b⟩) recs
  | [],os,T,hc,hd,hl=>by
    have:=gX hc; subst this
    exact ⟨[],.nil,.nil⟩
  | (d',b) :: l,os,T,hc,hd,hl=>by
    obtain ⟨o,r,rfl,h1,h2⟩:=hO hc
    obtain ⟨hd0,hd1,hb1,hg1⟩:=nV h1
    simp only at hd1 hb1 hg1
    have hgv:bM n all T o=some false:=by
      rcases hd with hd | hd
      · rw[(gQ (T:=T) hg1).1 _ hd]; cases w <;> rfl
      · exact (gQ (T:=T) hg1).2 hd
    simp only[List.all_cons,Bool.and_eq_true,bne_iff_ne,ne_eq] at hl
    obtain ⟨recs,tr,hro⟩:=wT d w h l r (T.put d' (.bg [])) h2 (by
      have:(T.put d' (.bg [])) d=T d:=by
        cases d' with
        | none=>rfl
        | some t=>simp only[Env.put]; rw[if_neg]; intro e; subst e; exact hl.1 rfl
      rw[this]; exact hd) hl.2
    rw[hd1] at tr
    refine ⟨_,?_,hro.cons (r:=⟨[],[],false,h.length,h.length⟩) ⟨fun _=>⟨rfl,rfl,rfl,rfl⟩,fun _=>rfl⟩⟩
    have:=Tr.cons (.skip hgv) hd0 tr
    rw[ey,hd1]
    exact this
theorem Ie {fz:Fz} {quiet:Bool} {K:Env→View→Prop} {g:SG} {os:List Oper} {T:Env} {h:ax} (hc:bU P n all fz os=some g.flat) (hok:nD g=true) (hw:wG P quiet g T h.view K) :
    ∃ recs T' h',Tr P n all os T h recs T' h'∧(eO h h'∧h.length≤h'.length)∧K T' h'.view∧de P quiet g.flat recs:=by
  unfold wG at hw
  unfold SG.flat at hc ⊢
  unfold nD at hok
  split at hw
  · rename_i hg
    rw[hg] at hc ⊢
    exact zh none g.ops os T h hc (fun d w e=>by simp at e) hw
  · rename_i d want hg
    rw[hg] at hc hok ⊢
    simp only at hok
    split at hw
    · rename_i b hb
      by_cases e:b=want
      · subst e
        have:=hw.1 rfl
        rw[ud hb] at this
        exact zh (some (d,b)) g.ops os T h hc (fun d' w e=>by simp at e; obtain ⟨rfl,rfl⟩:=e; exact ⟨hb,hok⟩) this
      · have e':b = !want:=by cases b <;> cases want <;> simp_all
        have:=hw.2 e'
        subst e'
        rw[ud hb] at this
        obtain ⟨recs,tr,hro⟩:=wT (quiet:=quiet) d want h g.ops os T hc (.inl hb) hok
        exact ⟨recs,_,h,tr,⟨.refl _,Nat.le_refl _⟩,this,hro⟩
    · rename_i hb
      obtain ⟨recs,tr,hro⟩:=wT (quiet:=quiet) d want h g.ops os T hc (.inr hb) hok
      exact ⟨recs,_,h,tr,⟨.refl _,Nat.le_refl _⟩,hw,hro⟩
    · exact hw.elim
theorem rK {fz:Fz} {quiet:Bool} {K:Env→View→Prop} : ∀ (gs:List SG) (os:List Oper) (T:Env) (h:ax),bU P n all fz os=some (fW gs)→gs.all nD=true→qH P quiet gs T h.view K →
    ∃ recs T' h',Tr P n all os T h recs T' h'∧(eO h h'∧h.length≤h'.length)∧K T' h'.view∧de P quiet (fW gs) recs
  | [],os,T,h,hc,_,hw=>by
    have:=gX hc; subst this
    exact ⟨[],T,h,.nil,⟨.refl _,Nat.le_refl _⟩,hw,.nil⟩
  | g :: gs,os,T,h,hc,hok,hw=>by
    simp only[fW,List.map_cons,List.flatten_cons] at hc ⊢
    simp only[List.all_cons,Bool.and_eq_true] at hok
    obtain ⟨a,b,rfl,h1,h2⟩:=lE hc
    obtain ⟨r1,T1,h1',tr1,st1,hk1,ro1⟩:=Ie h1 hok.1 hw
    obtain ⟨r2,T2,h2',tr2,st2,hk2,ro2⟩:=rK gs b T1 h1' h2 hok.2 hk1
    exact ⟨_,T2,h2',tr1.append tr2,⟨st1.1.trans st2.1 st1.2,Nat.le_trans st1.2 st2.2⟩,hk2,ro1.append ro2⟩
theorem Tr.at_ {os:List Oper} {T T':Env} {h h':ax} {recs:List Rec} (tr:Tr P n all os T h recs T' h'):∀ (i:Nat) (o:Oper),os[i]?=some o →
    ∃ T1 h1 v h2 rd wr call recs2,recs[i]?=some ⟨rd,wr,call,h1.length,h2.length⟩∧b3 P n all o T1 h1 v h2 rd wr call∧h.length≤h1.length∧Tr P n all (os.drop (i+1)) (T1.put o.dst v) h2 recs2 T' h'∧(∀ m,recs2[m]?=recs[i+1+m]?) ∧
      (∀ t,(∀ o'∈os.take i,o'.dst≠some t)→T1 t=T t):=by
  induction tr with
  | nil=>intro i o hi; simp at hi
  | @cons o0 rest T T' h h1 h' v rd wr call recs st hd tr ih =>
    intro i o hi
    cases i with
    | zero =>
      simp at hi; subst hi
      exact ⟨T,h,v,h1,rd,wr,call,recs,rfl,st,Nat.le_refl _,by simpa using tr,fun m=>by rw[show 0+1+m=m+1 by omega,List.getElem?_cons_succ],fun t _=>rfl⟩
    | succ i =>
      simp at hi
      obtain ⟨T1,h2,v2,h3,rd2,HN,call2,recs2,e1,e2,e3,e4,e5,e6⟩:=ih i o hi
      have hlen:h.length≤h1.length:=by
        cases st with
        | skip=>exact Nat.le_refl _
        | op _ _=>rename_i av _ _; cases av <;> simp[aQ.apply]
        | eX _ _ _=>exact Nat.le_refl _
        | dn _ _ _ _ _ _=>exact Nat.le_refl _
        | call _ _ _ _ ha _ _=>exact ha.1
      refine ⟨T1,h2,v2,h3,rd2,HN,call2,recs2,by simpa using e1,e2,Nat.le_trans hlen e3,by simpa using e4,fun m=>?_,fun t ht=>?_⟩
      · rw[e5,show i+1+1+m=(i+1+m)+1 by omega,List.getElem?_cons_succ]
      · simp only[List.take_succ_cons,List.mem_cons] at ht
        rw[e6 t fun o' ho'=>ht o' (.inr ho')]
        have:=ht o0 (.inl rfl)
        cases hdst:o0.dst with
        | none=>rfl
        | some d=>simp only[Env.put]; rw[if_neg]; rintro rfl; exact this hdst
theorem CK {o:Oper} {T:Env} {h h':ax} {v:V} {rd wr:List Nat} {call:Bool} (st:b3 P n all o T h v h' rd wr call) (ha:uh o=true) (hg:o.guard=none):v=.ptr h.length 0 0:=by
  unfold uh at ha
  have hgv:bM n all T o=some true:=by unfold bM; rw[hg]
  cases st with
  | skip hs=>rw[hgv] at hs; simp at hs
  | op _ hop =>
    split at ha
    · rename_i e ho
      simp only[bp,ho] at hop
      split at hop
      · unfold hD at hop
        split at hop
        · simp at hop; exact hop.1.symm
        · simp at hop
      · simp at hop
    · simp at ha
  | eX _ ho _=>rw[ho] at ha; simp at ha
  | dn _ ho _ _ _ _=>rw[ho] at ha; simp at ha
  | call _ ho _ _ _ _ _=>rw[ho] at ha; simp at ha
theorem CQ {o:Oper} {T:Env} {h h':ax} {v:V} {rd wr:List Nat} {call:Bool} {t id i j:Nat} (st:b3 P n all o T h v h' rd wr call) (ha:gF o=some t) (ht:T t=.ptr id i j):wr=[id]∧call=false:=by
  unfold gF at ha
  split at ha
  · rename_i ty t' x ho hg
    simp at ha; subst ha
    have hgv:bM n all T o=some true:=by unfold bM; rw[hg]
    cases st with
    | skip hs=>rw[hgv] at hs; simp at hs
    | op _ hop =>
      have e1:ev T (.tmp t')=.ptr id i j:=ht
      simp only[bp,ho,e1,lp] at hop
      split at hop
      · split at hop
        · simp only[Option.some.injEq,Prod.mk.injEq] at hop
          obtain ⟨_,he,_⟩:=hop
          rw[← he]; exact ⟨rfl,rfl⟩
        · simp at hop
      · simp at hop
    | eX _ ho' _=>rw[ho] at ho'; simp at ho'
    | dn _ ho' _ _ _ _=>rw[ho] at ho'; simp at ho'
    | call _ ho' _ _ _ _ _=>rw[ho] at ho'; simp at ho'
  · simp at ha
theorem Ey {o:Oper} {T:Env} {h h':ax} {v:V} {rd wr:List Nat} {call:Bool} (st:b3 P n all o T h v h' rd wr call) (ha:wk o=true):wr=[]∧call=false∧∀ id,id∈rd→id < h.length:=by
  unfold wk at ha
  cases st with
  | skip _=>exact ⟨rfl,rfl,fun id hid=>by simp at hid⟩
  | op _ hop =>
    split at ha
    · rename_i e a ho
      simp only[bp,ho,iq] at hop
      split at hop
      · rename_i id i j hx
        split at hop
        · rename_i z es hH
          split at hop
          · simp only[Option.map_eq_some_iff] at hop
            obtain ⟨_,_,hop⟩:=hop
            simp at hop
            obtain ⟨_,rfl,rfl⟩:=hop
            refine ⟨rfl,rfl,fun id' hid=>?_⟩
            simp at hid; subst hid
            exact fO (by rw[hH]; simp)
          · simp at hop
        · simp at hop
      · simp only[Option.map_eq_some_iff] at hop
        obtain ⟨_,_,hop⟩:=hop
        simp at hop
        obtain ⟨_,rfl,rfl⟩:=hop
        exact ⟨rfl,rfl,fun id hid=>by simp at hid⟩
      · simp at hop
    · simp at ha
  | eX _ ho _=>rw[ho] at ha; simp at ha
  | dn _ ho _ _ _ _=>rw[ho] at ha; simp at ha
  | call _ ho _ _ _ _ _=>rw[ho] at ha; simp at ha
theorem qh {T T':Env} {h h':ax} {recs:List Rec} (tr:Tr P n all all T h recs T' h') {i k:Nat} {a b:Rec} (hp:sN all i k=true) (ha:recs[i]?=some a) (hb:recs[k]?=some b):jh a b:=by
  unfold sN at hp
  split at hp
  · rename_i oa ob hoa hob
    rw[Bool.and_eq_true] at hp
    obtain ⟨hl,hp⟩:=hp
    split at hp
    · rename_i t hst
      rw[List.any_eq_true] at hp
      obtain ⟨j,hj,hp⟩:=hp
      rw[List.mem_range] at hj
      rw[Bool.and_eq_true,decide_eq_true_eq] at hp
      obtain ⟨hij,hown⟩:=hp
      unfold HV at hown
      split at hown
      · rename_i oj hoj
        simp only[Bool.and_eq_true,beq_iff_eq,List.all_eq_true,bne_iff_ne,ne_eq,Option.isNone_iff_eq_none] at hown
        obtain ⟨⟨⟨w1,w2⟩,w3⟩,w4⟩:=hown
        obtain ⟨T1,h1,v1,h2,rd1,Ip,c1,recs1,e1,e2,e3,e4,e5,_⟩:=tr.at_ i oa hoa
        obtain ⟨Tj,hj1,vj,hj2,rdj,wrj,cj,recsj,f1,f2,f3,f4,f5,_⟩:=e4.at_ (j - (i+1)) oj (by rw[List.getElem?_drop,show i+1+(j - (i+1))=j by omega]; exact hoj)
        have hdr:(all.drop (i+1)).drop (j - (i+1)+1)=all.drop (j+1):=by rw[List.drop_drop]; congr 1; omega
        rw[hdr] at f4
        obtain ⟨Tk,hk1,vk,hk2,rdk,wrk,ck,recsk,g1,g2,g3,_,_,g6⟩:=f4.at_ (k - (j+1)) ob (by rw[List.getElem?_drop,show j+1+(k - (j+1))=k by omega]; exact hob)
        rw[ha] at e1
        have hae:=(Option.some.inj e1)
        have hbe:recs[k]?=some ⟨rdk,wrk,ck,hk1.length,hk2.length⟩:=by
          rw[← g1,f5,e5]; congr 1; omega
        rw[hb] at hbe
        have hbe:=Option.some.inj hbe
        have hv:=CK f2 w3 w2
        have hTk:Tk t=.ptr hj1.length 0 0:=by
          rw[g6 t fun o' ho'=>w4 o' ho',w1,hv]
          simp[Env.put]
        obtain ⟨s1,s2⟩:=CQ g2 hst hTk
        obtain ⟨l1,l2,l3⟩:=Ey e2 hl
        rw[hae,hbe]
        have hlen:h1.length≤h2.length:=by
          cases e2 with
          | skip=>exact Nat.le_refl _
          | op _ _=>rename_i av _ _; cases av <;> simp[aQ.apply]
          | eX _ _ _=>exact Nat.le_refl _
          | dn _ _ _ _ _ _=>exact Nat.le_refl _
          | call _ _ _ _ ha _ _=>exact ha.1
        refine ⟨fun id hid=>by simp[l1] at hid,fun id hid=>?_,fun hc=>by simp[l2] at hc,fun _=>l1,fun id hid=>?_⟩
        · simp only[s1,List.mem_singleton] at hid
          subst hid
          intro hr
          have:=l3 _ hr
          omega
        · simp only[s1,List.mem_singleton] at hid
          subst hid
          simp only
          omega
      · simp at hown
    · simp at hp
  · simp at hp
theorem Fm {ls:List Nat} {recs:List Rec} {T T':Env} {hp hp':ax} (tr:Tr P n all all T hp recs T' hp') (h:yu all ls=true) (hl:ls.length=recs.length) (hr:∀ (i x:Nat) (r:Rec),ls[i]?=some x→recs[i]?=some r→gD x r.rd r.wr r.call r.lo r.hi):n0 all recs:=by
  intro i k a b hik ha hb ho
  have hi:i < recs.length:=(List.getElem?_eq_some_iff.1 ha).1
  have hk:k < recs.length:=(List.getElem?_eq_some_iff.1 hb).1
  unfold yu at h
  simp only[List.all_eq_true] at h
  have h1:=h (ls[i]'(by omega),i) (by rw[List.mem_zipIdx_iff_getElem?]; simp[List.getElem?_eq_getElem (show i < ls.length by omega)])
    (ls[k]'(by omega),k) (by rw[List.mem_zipIdx_iff_getElem?]; simp[List.getElem?_eq_getElem (show k < ls.length by omega)])
  have la:=hr i _ a (List.getElem?_eq_getElem (by omega)) ha
  have lb:=hr k _ b (List.getElem?_eq_getElem (by omega)) hb
  simp only[hik,decide_true,Bool.not_true,ho,Bool.false_or,Bool.or_eq_true,beq_iff_eq,Bool.and_eq_true,decide_eq_true_eq] at h1
  rcases h1 with ((h1 | h1) | h1) | h1
  · obtain ⟨e1,e2,e3,e4⟩:=la.1 h1
    exact ⟨fun id hid=>by simp[e2] at hid,fun id _=>by simp[e1],fun hc=>by simp[e3] at hc,fun _=>e2,fun id _ hx=>by omega⟩
  · obtain ⟨e1,e2,e3,e4⟩:=lb.1 h1
    exact ⟨fun id _=>by simp[e1],fun id hid=>by simp[e2] at hid,fun _=>e2,fun hc=>by simp[e3] at hc,fun id hid=>by simp[e2] at hid⟩
  · have e1:=la.2 h1.1
    have e2:=lb.2 h1.2
    exact ⟨fun id hid=>by simp[e1] at hid,fun id hid=>by simp[e2] at hid,fun _=>e2,fun _=>e1,fun id hid=>by simp[e2] at hid⟩
  · exact qh tr h1 ha hb
theorem Tr.keep {os:List Oper} {T T':Env} {h h':ax} {recs:List Rec} (tr:Tr P n all os T h recs T' h') {t:Nat} (ht:∀ o∈os,o.dst≠some t):T' t=T t:=by
  induction tr with
  | nil=>rfl
  | @cons o0 rest T T' h h1 h' v rd wr call recs st hd tr ih =>
    rw[ih fun o ho=>ht o (by simp[ho])]
    have:=ht o0 (by simp)
    cases hdst:o0.dst with
    | none=>rfl
    | some d=>simp only[Env.put]; rw[if_neg]; rintro rfl; exact this hdst
theorem pQ {o:Oper} {T:Env} {h h':ax} {v:V} {rd wr:List Nat} {call:Bool} {t:Nat} (st:b3 P n all o T h v h' rd wr call) (ha:mz o=some t):wr=[]∧call=false∧h'.length=h.length∧∀ id,id∈rd→∃ i j,T t=.ptr id i j:=by
  unfold mz at ha
  split at ha
  · rename_i e t' ho
    simp at ha; subst ha
    cases st with
    | skip _=>exact ⟨rfl,rfl,rfl,fun id hid=>by simp at hid⟩
    | op _ hop =>
      simp only[bp,ho,iq] at hop
      split at hop
      · rename_i id i j hx
        split at hop
        · split at hop
          · simp only[Option.map_eq_some_iff] at hop
            obtain ⟨_,_,hop⟩:=hop
            simp at hop
            obtain ⟨_,rfl,rfl⟩:=hop
            refine ⟨rfl,rfl,rfl,fun id' hid=>?_⟩
            simp at hid; subst hid
            exact ⟨i,j,hx⟩
          · simp at hop
        · simp at hop
      · simp only[Option.map_eq_some_iff] at hop
        obtain ⟨_,_,hop⟩:=hop
        simp at hop
        obtain ⟨_,rfl,rfl⟩:=hop
        exact ⟨rfl,rfl,rfl,fun id hid=>by simp at hid⟩
      · simp at hop
    | eX _ ho' _=>rw[ho] at ho'; simp at ho'
    | dn _ ho' _ _ _ _=>rw[ho] at ho'; simp at ho'
    | call _ ho' _ _ _ _ _=>rw[ho] at ho'; simp at ho'
  · simp at ha
theorem pU {i t:Nat} (h:stays all i t=true):∀ o∈all.drop i,o.dst≠some t:=by
  intro o ho
  have:=List.all_eq_true.1 h o ho
  simpa using this
theorem tZ {aps:List (Nat × Nat)} {T:Env} {K:Prop} (hA:rz aps T K):∀ p∈aps,eF (T p.1) (T p.2):=by
  induction aps with
  | nil=>intro p hp; simp at hp
  | cons q l ih =>
    intro p hp
    rcases List.mem_cons.1 hp with rfl | hp
    · exact hA.1
    · exact ih hA.2 p hp
theorem rz.rest {aps:List (Nat × Nat)} {T:Env} {K:Prop} (hA:rz aps T K):K:=by
  induction aps with
  | nil=>exact hA
  | cons q l ih=>exact ih hA.2
theorem kR {T T':Env} {h h':ax} {recs:List Rec} (tr:Tr P n all all T h recs T' h') {i t:Nat} {o:Oper} (ho:all[i]?=some o) (hs:stays all i t=true) {r:Rec} (hr:recs[i]?=some r) :
    ∃ T1 h1 v h2,b3 P n all o T1 h1 v h2 r.rd r.wr r.call∧r.lo=h1.length∧r.hi=h2.length∧T1 t=T' t:=by
  obtain ⟨T1,h1,v,h2,rd,wr,call,recs2,e1,e2,e3,e4,e5,e6⟩:=tr.at_ i o ho
  rw[hr] at e1
  have e1:=Option.some.inj e1
  subst e1
  refine ⟨T1,h1,v,h2,e2,rfl,rfl,?_⟩
  have hk:=pU hs
  have hi:i < all.length:=(List.getElem?_eq_some_iff.1 ho).1
  have ho':all[i]=o:=(List.getElem?_eq_some_iff.1 ho).2
  rw[List.drop_eq_getElem_cons hi,ho'] at hk
  rw[e4.keep fun o' ho'=>hk o' (by simp[ho'])]
  have:=hk o (by simp)
  cases hdst:o.dst with
  | none=>rfl
  | some d=>simp only[Env.put]; rw[if_neg]; rintro rfl; exact this hdst
theorem s6 {i a b j c d:Nat} (h:eF (.ptr i a b) (.ptr j c d)):i≠j:=h
theorem uB {i a b j c d e:Nat} (h:eF (.ptr i a b) (.sl j c d e)):i≠j:=h
theorem ma {o:Oper} {T:Env} {h h':ax} {v:V} {rd wr:List Nat} {call:Bool} {t:Nat} (st:b3 P n all o T h v h' rd wr call) (ha:ke o=some t) :
    call=false∧∀ id,id∈wr→(∃ i j,T t=.ptr id i j)∨∃ a b c,T t=.sl id a b c:=by
  unfold ke at ha
  split at ha
  · rename_i t' hs
    simp at ha; subst ha
    unfold gF at hs
    split at hs
    · rename_i ty t2 x ho hg
      simp at hs; subst hs
      cases st with
      | skip _=>exact ⟨rfl,fun id hid=>by simp at hid⟩
      | op _ hop =>
        simp only[bp,ho,lp] at hop
        split at hop
        · rename_i id i j hx
          split at hop
          · split at hop
            · simp only[Option.some.injEq,Prod.mk.injEq] at hop
              obtain ⟨_,he,_⟩:=hop
              rw[← he]
              refine ⟨rfl,fun id' hid=>?_⟩
              simp[aQ.wr] at hid; subst hid
              exact .inl ⟨i,j,hx⟩
            · simp at hop
          · simp at hop
        · simp at hop
      | eX _ ho' _=>rw[ho] at ho'; simp at ho'
      | dn _ ho' _ _ _ _=>rw[ho] at ho'; simp at ho'
      | call _ ho' _ _ _ _ _=>rw[ho] at ho'; simp at ho'
    · simp at hs
  · unfold DM at ha
    split at ha
    · rename_i args ats ho hg
      split at ha
      · rename_i t2 y hl
        simp at ha; subst ha
        cases st with
        | skip _=>exact ⟨rfl,fun id hid=>by simp at hid⟩
        | op _ hop =>
          simp only[bp,ho,hl] at hop
          split at hop
          · unfold iN at hop
            split at hop
            · split at hop
              · simp at hop
              · split at hop
                · split at hop <;> first | (simp only[Option.some.injEq,Prod.mk.injEq] at hop; obtain ⟨_,he,_⟩:=hop; rw[← he]; exact ⟨rfl,fun id' hid=>by simp[aQ.wr] at hid⟩) | simp at hop
                · split at hop
                  · simp at hop
                  · split at hop
                    · split at hop
                      · simp only[Option.some.injEq,Prod.mk.injEq] at hop
                        obtain ⟨_,he,_⟩:=hop
                        rw[← he]; exact ⟨rfl,fun id' hid=>by simp[aQ.wr] at hid⟩
                      · simp at hop
                    · rename_i id off len esz hx
                      split at hop
                      · split at hop
                        · simp only[Option.some.injEq,Prod.mk.injEq] at hop
                          obtain ⟨_,he,_⟩:=hop
                          rw[← he]
                          refine ⟨rfl,fun id' hid=>?_⟩
                          simp[aQ.wr] at hid; subst hid
                          exact .inr ⟨off,len,esz,hx⟩
                        · simp at hop
                      · simp at hop
                    · simp at hop
            · simp at hop
          · split at hop
            · unfold pO at hop
              repeat' (split at hop)
              all_goals first | (simp only[Option.some.injEq,Prod.mk.injEq] at hop; obtain ⟨_,he,_⟩:=hop; rw[← he]; exact ⟨rfl,fun id' hid=>by simp[aQ.wr] at hid⟩) | simp at hop
            · simp at hop
        | eX _ ho' _=>rw[ho] at ho'; simp at ho'
        | dn _ ho' _ _ _ _=>rw[ho] at ho'; simp at ho'
        | call _ ho' _ _ _ _ _=>rw[ho] at ho'; simp at ho'
      · simp at ha
    · simp at ha
theorem FH {o:Oper} {T:Env} {h h':ax} {v:V} {rd wr:List Nat} {call:Bool} (st:b3 P n all o T h v h' rd wr call) (ha:zI o=true):rd=[]∧wr=[]∧call=false:=by
  unfold zI at ha
  cases st with
  | skip _=>exact ⟨rfl,rfl,rfl⟩
  | op _ hop =>
    split at ha
    · rename_i ty len parts ho
      simp only[bp,ho,dX] at hop
      have key:∀ {x:Option (V × aQ × List Nat)} {e:aQ},x=some (v,e,rd)→(∀ y,x=some y→y.2.1.wr=[]∧y.2.2=[])→rd=[]∧e.wr=[]:=fun hx hy=>⟨(hy _ hx).2,(hy _ hx).1⟩
      obtain ⟨k1,k2⟩:=key hop (by
        intro y hy
        repeat' (first | (split at hy) | (simp only[Option.some.injEq] at hy; subst hy; exact ⟨rfl,rfl⟩) | (simp at hy; done)))
      exact ⟨k1,k2,rfl⟩
    · rename_i e ho
      simp only[bp,ho] at hop
      split at hop
      · unfold hD at hop
        split at hop
        · simp only[Option.some.injEq,Prod.mk.injEq] at hop
          obtain ⟨_,he,hr⟩:=hop
          rw[← he,← hr]; exact ⟨rfl,rfl,rfl⟩
        · simp at hop
      · simp at hop
    · simp at ha
  | eX _ ho _=>rw[ho] at ha; simp at ha
  | dn _ ho _ _ _ _=>rw[ho] at ha; simp at ha
  | call _ ho _ _ _ _ _=>rw[ho] at ha; simp at ha
theorem pC {o:Oper} {t:Nat} (h:gF o=some t):ke o=some t:=by unfold ke; rw[h]
theorem DJ {T T':Env} {h h':ax} {recs:List Rec} (tr:Tr P n all all T h recs T' h') {i k:Nat} {a b:Rec} {p:Nat × Nat} (hp:vn all i k=some p) (hA:eF (T' p.1) (T' p.2)) (ha:recs[i]?=some a) (hb:recs[k]?=some b):jh a b:=by
  unfold vn at hp
  split at hp
  · rename_i oa ob hoa hob
    split at hp
    · rename_i s t hl hs
      split at hp
      · rename_i hst
        simp only[Bool.and_eq_true] at hst
        simp at hp; subst hp
        obtain ⟨Ta,ha1,va,ha2,sa,la1,la2,ea⟩:=kR tr hoa hst.1 ha
        obtain ⟨Tb,hb1,vb,hb2,sb,_,_,eb⟩:=kR tr hob hst.2 hb
        obtain ⟨l1,l2,l3,l4⟩:=pQ sa hl
        have hA:eF (Ta s) (Tb t):=by rw[ea,eb]; exact hA
        refine ⟨fun id hid=>by simp[l1] at hid,fun id hid hr=>?_,fun hc=>by simp[l2] at hc,fun _=>l1,fun id _ hx=>by omega⟩
        obtain ⟨i',j',e1⟩:=l4 id hr
        rw[e1] at hA
        rcases (ma sb (pC hs)).2 id hid with ⟨c,d,hy⟩ | ⟨c,d,e,hy⟩
        · rw[hy] at hA; exact s6 hA rfl
        · rw[hy] at hA; exact uB hA rfl
      · simp at hp
    · split at hp
      · rename_i t s hs hl
        split at hp
        · rename_i hst
          simp only[Bool.and_eq_true] at hst
          simp at hp; subst hp
          obtain ⟨Ta,ha1,va,ha2,sa,la1,la2,ea⟩:=kR tr hoa hst.1 ha
          obtain ⟨Tb,hb1,vb,hb2,sb,lb1,lb2,eb⟩:=kR tr hob hst.2 hb
          obtain ⟨l1,l2,l3,l4⟩:=pQ sb hl
          have hA:eF (Tb s) (Ta t):=by rw[ea,eb]; exact hA
          refine ⟨fun id hid hr=>?_,fun id hid=>by simp[l1] at hid,fun hc=>l1,fun hc=>by simp[l2] at hc,fun id hid=>by simp[l1] at hid⟩
          obtain ⟨i',j',e1⟩:=l4 id hr
          rw[e1] at hA
          rcases (ma sa (pC hs)).2 id hid with ⟨c,d,hy⟩ | ⟨c,d,e,hy⟩
          · rw[hy] at hA; exact s6 hA rfl
          · rw[hy] at hA; exact uB hA rfl
        · simp at hp
      · simp at hp
  · simp at hp
theorem CT {T T':Env} {h h':ax} {recs:List Rec} (tr:Tr P n all all T h recs T' h') {i k:Nat} {a b:Rec} {p:Nat × Nat} (hp:v8 all i k=some p) (hA:eF (T' p.1) (T' p.2)) (ha:recs[i]?=some a) (hb:recs[k]?=some b):jh a b:=by
  unfold v8 at hp
  split at hp
  · rename_i oa ob hoa hob
    split at hp
    · rename_i s t hl hs
      split at hp
      · rename_i hst
        simp only[Bool.and_eq_true] at hst
        simp at hp; subst hp
        obtain ⟨Ta,ha1,va,ha2,sa,la1,la2,ea⟩:=kR tr hoa hst.1 ha
        obtain ⟨Tb,hb1,vb,hb2,sb,_,_,eb⟩:=kR tr hob hst.2 hb
        obtain ⟨l1,l2,l3,l4⟩:=pQ sa hl
        have hA:eF (Ta s) (Tb t):=by rw[ea,eb]; exact hA
        refine ⟨fun id hid=>by simp[l1] at hid,fun id hid hr=>?_,fun hc=>by simp[l2] at hc,fun _=>l1,fun id _ hx=>by omega⟩
        obtain ⟨i',j',e1⟩:=l4 id hr
        rw[e1] at hA
        rcases (ma sb hs).2 id hid with ⟨c,d,hy⟩ | ⟨c,d,e,hy⟩
        · rw[hy] at hA; exact s6 hA rfl
        · rw[hy] at hA; exact uB hA rfl
      · simp at hp
    · split at hp
      · rename_i t s hs hl
        split at hp
        · rename_i hst
          simp only[Bool.and_eq_true] at hst
          simp at hp; subst hp
          obtain ⟨Ta,ha1,va,ha2,sa,la1,la2,ea⟩:=kR tr hoa hst.1 ha
          obtain ⟨Tb,hb1,vb,hb2,sb,lb1,lb2,eb⟩:=kR tr hob hst.2 hb
          obtain ⟨l1,l2,l3,l4⟩:=pQ sb hl
          have hA:eF (Tb s) (Ta t):=by rw[ea,eb]; exact hA
          refine ⟨fun id hid hr=>?_,fun id hid=>by simp[l1] at hid,fun hc=>l1,fun hc=>by simp[l2] at hc,fun id hid=>by simp[l1] at hid⟩
          obtain ⟨i',j',e1⟩:=l4 id hr
          rw[e1] at hA
          rcases (ma sa hs).2 id hid with ⟨c,d,hy⟩ | ⟨c,d,e,hy⟩
          · rw[hy] at hA; exact s6 hA rfl
          · rw[hy] at hA; exact uB hA rfl
        · simp at hp
      · simp at hp
  · simp at hp
theorem Fi {l:List (Nat × Nat)} {aps:List (Nat × Nat)} (h:uT all l=some aps):∀ q∈l,∃ p∈aps,vn all q.1 q.2=some p:=by
  induction l generalizing aps with
  | nil=>intro q hq; simp at hq
  | cons x r ih =>
    obtain ⟨i,k⟩:=x
    simp only[uT] at h
    split at h
    · rename_i p l' h1 h2
      simp at h; subst h
      intro q hq
      rcases List.mem_cons.1 hq with rfl | hq
      · exact ⟨p,by simp,h1⟩
      · obtain ⟨p',hp',e⟩:=ih h2 q hq
        exact ⟨p',by simp[hp'],e⟩
    · simp at h
theorem CP {l:List (Nat × Nat)} {aps:List (Nat × Nat)} (h:oQ all l=some aps):∀ q∈l,∃ ps,(∀ p∈ps,p∈aps)∧sL all q.1 q.2=some ps:=by
  induction l generalizing aps with
  | nil=>intro q hq; simp at hq
  | cons x r ih =>
    obtain ⟨i,k⟩:=x
    simp only[oQ] at h
    split at h
    · rename_i p l' h1 h2
      simp at h; subst h
      intro q hq
      rcases List.mem_cons.1 hq with rfl | hq
      · exact ⟨p,fun x hx=>by simp[hx],h1⟩
      · obtain ⟨p',hp',e⟩:=ih h2 q hq
        exact ⟨p',fun x hx=>by simp[hp' x hx],e⟩
    · simp at h
theorem E3 {H:View} {x:V} {xs:List (List V)} {rd:List Nat} (h:bH H x=some (xs,rd)):∀ id,id∈rd→∃ a b c,x=.sl id a b c:=by
  unfold bH at h
  split at h
  · simp at h; obtain ⟨_,rfl⟩:=h; intro id hid; simp at hid
  · simp at h; obtain ⟨_,rfl⟩:=h; intro id hid; simp at hid
  · simp at h; obtain ⟨_,rfl⟩:=h; intro id hid; simp at hid
  · simp at h; obtain ⟨_,rfl⟩:=h; intro id hid; simp at hid
  · split at h
    · split at h
      · simp at h
        obtain ⟨_,rfl⟩:=h
        intro id hid
        simp at hid; subst hid
        exact ⟨_,_,_,rfl⟩
      · simp at h
    · simp at h
  · simp at h; obtain ⟨_,rfl⟩:=h; intro id hid; simp at hid
  · simp at h
theorem Aq {o:Oper} {T:Env} {h h':ax} {v:V} {rd wr:List Nat} {call:Bool} {t y d:Nat} (st:b3 P n all o T h v h' rd wr call) (ha:sW o=some (t,y,d)) :
    call=false∧(∀ id,id∈wr→∃ a b c,T t=.sl id a b c)∧(∀ id,id∈rd→(∃ a b c,T t=.sl id a b c)∨∃ a b c,T y=.sl id a b c)∧(h.length < h'.length→∃ a b c,v=.sl h.length a b c)∧h'.length≤h.length+1∧o.dst=some d:=by
  unfold sW at ha
  split at ha
  · rename_i args ats d' ho hg hd
    split at ha
    · rename_i t2 y2 hl
      simp at ha
      obtain ⟨rfl,rfl,rfl⟩:=ha
      cases st with
      | skip _=>exact ⟨rfl,fun id hid=>by simp at hid,fun id hid=>by simp at hid,fun h=>by omega,by omega,hd⟩
      | op _ hop =>
        simp only[bp,ho,hl] at hop
        have nn:∀ {v':V} {eff':aQ} {rd':List Nat},some (v',aQ.none,([]:List Nat))=some (v,eff',rd')→false=false∧(∀ id,id∈eff'.wr→∃ a b c,T t2=.sl id a b c)∧(∀ id,id∈rd'→(∃ a b c,T t2=.sl id a b c)∨∃ a b c,T y2=.sl id a b c)∧(h.length < (eff'.apply h).length→∃ a b c,v=.sl h.length a b c)∧(eff'.apply h).length≤h.length+1∧o.dst=some d':=by
          intro v' eff' rd' e
          simp only[Option.some.injEq,Prod.mk.injEq] at e
          obtain ⟨_,rfl,rfl⟩:=e
          exact ⟨rfl,fun id hid=>by simp[aQ.wr] at hid,fun id hid=>by simp at hid,fun h=>by simp[aQ.apply] at h,by simp[aQ.apply],hd⟩
        split at hop
        · unfold iN at hop
          split at hop
          · rename_i e xs rd' _ hel
            have hrd:=E3 hel
            split at hop
            · simp at hop
            · split at hop
              · split at hop <;> first | exact nn hop | simp at hop
              · split at hop
                · simp at hop
                · split at hop
                  · split at hop
                    · simp only[Option.some.injEq,Prod.mk.injEq] at hop
                      obtain ⟨rfl,rfl,rfl⟩:=hop
                      exact ⟨rfl,fun id hid=>by simp[aQ.wr] at hid,fun id hid=>.inr (hrd id hid),fun _=>⟨_,_,_,rfl⟩,by simp[aQ.apply],hd⟩
                    · simp at hop
                  · rename_i id off len esz hx
                    split at hop
                    · split at hop
                      · simp only[Option.some.injEq,Prod.mk.injEq] at hop
                        obtain ⟨rfl,rfl,rfl⟩:=hop
                        refine ⟨rfl,fun id' hid=>?_,fun id' hid=>?_,fun _=>⟨_,_,_,rfl⟩,by simp[aQ.apply],hd⟩
                        · simp[aQ.wr] at hid; subst hid
                          exact ⟨off,len,esz,hx⟩
                        · rcases List.mem_cons.1 hid with rfl | hid
                          · exact .inl ⟨off,len,esz,hx⟩
                          · exact .inr (hrd id' hid)
                      · simp at hop
                    · simp at hop
                  · simp at hop
          · simp at hop
        · split at hop
          · unfold pO at hop
            split at hop
            · split at hop
              · split at hop
                · exact nn hop
                · split at hop
                  · simp only[Option.some.injEq,Prod.mk.injEq] at hop
                    obtain ⟨rfl,rfl,rfl⟩:=hop
                    exact ⟨rfl,fun id hid=>by simp[aQ.wr] at hid,fun id hid=>by simp at hid,fun _=>⟨_,_,_,rfl⟩,by simp[aQ.apply],hd⟩
                  · simp at hop
              · simp at hop
            · simp at hop
          · simp at hop
      | eX _ ho' _=>rw[ho] at ho'; simp at ho'
      | dn _ ho' _ _ _ _=>rw[ho] at ho'; simp at ho'
      | call _ ho' _ _ _ _ _=>rw[ho] at ho'; simp at ho'
    · simp at ha
  · simp at ha
theorem Eo {T T':Env} {h h':ax} {recs:List Rec} (tr:Tr P n all all T h recs T' h') {i:Nat} {o:Oper} (ho:all[i]?=some o) {r:Rec} (hr:recs[i]?=some r) :
    ∃ T1 h1 v h2,b3 P n all o T1 h1 v h2 r.rd r.wr r.call∧r.lo=h1.length∧r.hi=h2.length∧(∀ t,stays all i t=true→T1 t=T' t)∧∀ d,o.dst=some d→stays all (i+1) d=true→T' d=v:=by
  obtain ⟨T1,h1,v,h2,rd,wr,call,recs2,e1,e2,e3,e4,e5,e6⟩:=tr.at_ i o ho
  rw[hr] at e1
  have e1:=Option.some.inj e1
  subst e1
  refine ⟨T1,h1,v,h2,e2,rfl,rfl,fun t hs=>?_,fun d hd hs=>?_⟩
  · have hk:=pU hs
    have hi:i < all.length:=(List.getElem?_eq_some_iff.1 ho).1
    have ho':all[i]=o:=(List.getElem?_eq_some_iff.1 ho).2
    rw[List.drop_eq_getElem_cons hi,ho'] at hk
    rw[e4.keep fun o' ho'=>hk o' (by simp[ho'])]
    have:=hk o (by simp)
    cases hdst:o.dst with
    | none=>rfl
    | some d=>simp only[Env.put]; rw[if_neg]; rintro rfl; exact this hdst
  · rw[e4.keep (pU hs),hd]
    simp[Env.put]
theorem r9 {i a b c j d e f:Nat} (h:eF (.sl i a b c) (.sl j d e f)):i≠j:=h
theorem Cr {T T':Env} {h h':ax} {recs:List Rec} (tr:Tr P n all all T h recs T' h') {i k:Nat} {a b:Rec} {ps:List (Nat × Nat)} (hp:wj all i k=some ps) (hA:∀ p∈ps,eF (T' p.1) (T' p.2)) (ha:recs[i]?=some a) (hb:recs[k]?=some b):jh a b:=by
  unfold wj at hp
  split at hp
  · rename_i oa ob hoa hob
    split at hp
    · rename_i t y d t' y' d' h1 h2
      split at hp
      · rename_i hst
        simp only[Bool.and_eq_true] at hst
        obtain ⟨⟨⟨⟨s1,s2⟩,s3⟩,s4⟩,s5⟩:=hst
        simp at hp; subst hp
        have a1:=hA (t,t') (by simp)
        have a2:=hA (t,y') (by simp)
        have a3:=hA (t',y) (by simp)
        have a4:=hA (d,t') (by simp)
        simp only at a1 a2 a3 a4
        obtain ⟨Ta,ha1,va,ha2,sa,la1,la2,ea,da⟩:=Eo tr hoa ha
        obtain ⟨Tb,hb1,vb,hb2,sb,_,_,eb,_⟩:=Eo tr hob hb
        obtain ⟨p1,p2,p3,p4,p5,p6⟩:=Aq sa h1
        obtain ⟨q1,q2,q3,_⟩:=Aq sb h2
        have da:=da d p6 s3
        rw[← ea t s1,← eb t' s4] at a1
        rw[← ea t s1,← eb y' s5] at a2
        rw[← eb t' s4,← ea y s2] at a3
        rw[da,← eb t' s4] at a4
        refine ⟨fun id hid hr=>?_,fun id hid hr=>?_,fun hc=>by rw[p1] at hc; simp at hc,fun hc=>by rw[q1] at hc; simp at hc,fun id hid hx=>?_⟩
        · obtain ⟨_,_,_,e⟩:=p2 id hid
          rcases q3 id hr with ⟨_,_,_,e'⟩ | ⟨_,_,_,e'⟩
          · rw[e,e'] at a1; exact r9 a1 rfl
          · rw[e,e'] at a2; exact r9 a2 rfl
        · obtain ⟨_,_,_,e⟩:=q2 id hid
          rcases p3 id hr with ⟨_,_,_,e'⟩ | ⟨_,_,_,e'⟩
          · rw[e',e] at a1; exact r9 a1 rfl
          · rw[e,e'] at a3; exact r9 a3 rfl
        · obtain ⟨_,_,_,e⟩:=q2 id hid
          obtain ⟨_,_,_,e'⟩:=p4 (by omega)
          have:id=ha1.length:=by omega
          subst this
          rw[e,e'] at a4; exact r9 a4 rfl
      · simp at hp
    · simp at hp
  · simp at hp
theorem Ch {T T':Env} {h h':ax} {recs:List Rec} (tr:Tr P n all all T h recs T' h') {i k:Nat} {a b:Rec} {ps:List (Nat × Nat)} (hp:sL all i k=some ps) (hA:∀ p∈ps,eF (T' p.1) (T' p.2)) (ha:recs[i]?=some a) (hb:recs[k]?=some b):jh a b:=by
  unfold sL at hp
  split at hp
  · rename_i p h1
    simp at hp; subst hp
    exact CT tr h1 (hA p (by simp)) ha hb
  · exact Cr tr hp hA ha hb
theorem Gm {ls:List Nat} {recs:List Rec} {T T':Env} {hp hp':ax} {aps:List (Nat × Nat)} (tr:Tr P n all all T hp recs T' hp') (h:uT all (gG all ls)=some aps) (hA:∀ p∈aps,eF (T' p.1) (T' p.2)) (hl:ls.length=recs.length)
    (hr:∀ (i x:Nat) (r:Rec),ls[i]?=some x→recs[i]?=some r→gD x r.rd r.wr r.call r.lo r.hi):n0 all recs:=by
  intro i k a b hik ha hb ho
  have hi:i < recs.length:=(List.getElem?_eq_some_iff.1 ha).1
  have hk:k < recs.length:=(List.getElem?_eq_some_iff.1 hb).1
  have la:=hr i _ a (List.getElem?_eq_getElem (by omega)) ha
  have lb:=hr k _ b (List.getElem?_eq_getElem (by omega)) hb
  have mi:(ls[i]'(by omega),i)∈ls.zipIdx:=by rw[List.mem_zipIdx_iff_getElem?]; simp[List.getElem?_eq_getElem (show i < ls.length by omega)]
  have mk:(ls[k]'(by omega),k)∈ls.zipIdx:=by rw[List.mem_zipIdx_iff_getElem?]; simp[List.getElem?_eq_getElem (show k < ls.length by omega)]
  by_cases h1:rR all (ls[i]'(by omega)) i (ls[k]'(by omega)) k=true
  · unfold rR at h1
    simp only[hik,decide_true,Bool.not_true,ho,Bool.false_or,Bool.or_eq_true,beq_iff_eq,Bool.and_eq_true,decide_eq_true_eq] at h1
    rcases h1 with ((h1 | h1) | h1) | h1
    · obtain ⟨e1,e2,e3,e4⟩:=la.1 h1
      exact ⟨fun id hid=>by simp[e2] at hid,fun id _=>by simp[e1],fun hc=>by simp[e3] at hc,fun _=>e2,fun id _ hx=>by omega⟩
    · obtain ⟨e1,e2,e3,e4⟩:=lb.1 h1
      exact ⟨fun id _=>by simp[e1],fun id hid=>by simp[e2] at hid,fun _=>e2,fun hc=>by simp[e3] at hc,fun id hid=>by simp[e2] at hid⟩
    · have e1:=la.2 h1.1
      have e2:=lb.2 h1.2
      exact ⟨fun id hid=>by simp[e1] at hid,fun id hid=>by simp[e2] at hid,fun _=>e2,fun _=>e1,fun id hid=>by simp[e2] at hid⟩
    · exact qh tr h1 ha hb
  · have hm:(i,k)∈gG all ls:=by
      unfold gG
      rw[List.mem_flatMap]
      refine ⟨_,mi,?_⟩
      rw[List.mem_filterMap]
      exact ⟨_,mk,by simp only; rw[if_neg h1]⟩
    obtain ⟨p,hp,e⟩:=Fi h (i,k) hm
    exact DJ tr e (hA p hp) ha hb
theorem xY {P:Program} {t:TypeId} {id:Nat} {q:V} {ok:Bool} {H1 H2:View} (h:H1 id=H2 id):dq P t (.mp id) q ok H1=dq P t (.mp id) q ok H2:=by
  unfold dq
  simp only[h]
theorem CU {P:Program} {t:TypeId} {id:Nat} {q:V} {H1 H2:View} (h:H1 id=H2 id):cO P t (.mp id) q H1=cO P t (.mp id) q H2:=by
  cases hm:dm P t with
  | none=>simp only[cO,hm]
  | some x=>simp only[cO,hm,h]
theorem FX {P:Program} {t:TypeId} {id:Nat} {q:V} {H:View} {v:V} {av:aQ} {rd:List Nat} (h:dq P t (.mp id) q false H=some (v,av,rd)):av=.none∧rd=[id]:=by
  simp only[dq,Bool.false_eq_true,if_false] at h
  repeat' (first | (simp only[Option.some.injEq,Prod.mk.injEq] at h; exact ⟨h.2.1.symm,h.2.2.symm⟩) | (split at h) | (simp at h; done))
theorem Dk {P:Program} {t:TypeId} {id:Nat} {q:V} {H:View} {v:V} {av:aQ} {rd:List Nat} (h:cO P t (.mp id) q H=some (v,av,rd)):∃ obj,av=.dQ id obj:=by
  cases hm:dm P t with
  | none=>simp[cO,hm] at h
  | some x =>
    simp only[cO,hm] at h
    repeat' (first | (simp only[Option.some.injEq,Prod.mk.injEq] at h; exact ⟨_,h.2.1.symm⟩) | (split at h) | (simp at h; done))
theorem y4 {o:Oper} {T:Env} {h h':ax} {v:V} {rd wr:List Nat} {call:Bool} (st:b3 P n all o T h v h' rd wr call) (hg:bM n all T o=some true) (hb:∀ e x,o.op≠.box e x) (hc:∀ s d x,o.op≠.convert s d x) (hl:∀ c,o.op≠.call c) :
    ∃ av,bp P o T h.view h.length=some (v,av,rd)∧h'=av.apply h∧wr=av.wr∧call=false:=by
  cases st with
  | skip hs=>rw[hg] at hs; simp at hs
  | op _ hop=>exact ⟨_,hop,rfl,rfl,rfl⟩
  | eX _ ho _=>exact absurd ho (hb _ _)
  | dn _ ho _ _ _ _=>exact absurd ho (hc _ _ _)
  | call _ ho _ _ _ _ _=>exact absurd ho (hl _)
theorem GZ {recs:List Rec} {Ts:Nat→Env} {hs:Nat→ax} {vs:Nat→V} (hst:tW P n all recs Ts hs vs) (hl:recs.length=all.length) {k:Nat} (hk:k≤all.length) (hw:∀ j r,j < k→recs[j]?=some r→r.wr=[]) :
    ∀ j,j≤k→(hs 0).length≤(hs j).length∧∀ id,id < (hs 0).length→(hs j).view id=(hs 0).view id:=by
  intro j
  induction j with
  | zero=>intro _; exact ⟨Nat.le_refl _,fun _ _=>rfl⟩
  | succ j ih =>
    intro hj
    obtain ⟨l1,l2⟩:=ih (by omega)
    obtain ⟨st,_,_,_,_⟩:=hst j all[j] (recs[j]'(by omega)) (List.getElem?_eq_getElem (by omega)) (List.getElem?_eq_getElem (by omega))
    refine ⟨Nat.le_trans l1 (nk st),fun id hid=>?_⟩
    rw[mc st (Nat.lt_of_lt_of_le hid l1) (by rw[hw j _ (by omega) (List.getElem?_eq_getElem (by omega))]; simp)]
    exact l2 id hid
theorem kN {recs:List Rec} {Ts:Nat→Env} {hs:Nat→ax} {vs:Nat→V} (hst:tW P n all recs Ts hs vs) (hl:recs.length=all.length) {i t:Nat} (h:stays all i t=true):∀ j,i≤j→j≤all.length→Ts j t=Ts i t:=by
  intro j hij hj
  refine sU (vs:=vs) (N:=all.length) (fun k o hk=>?_) rfl i j hij hj fun k o h1 h2 h3=>pU h o (by
    rw[List.mem_iff_getElem?]
    exact ⟨k - i,by rw[List.getElem?_drop,show i+(k - i)=k by omega]; exact h3⟩)
  have hk':k < all.length:=(List.getElem?_eq_some_iff.1 hk).1
  exact (hst k o (recs[k]'(by omega)) hk (List.getElem?_eq_getElem (by omega))).2.2.1
theorem Ah {ls:List Nat} {recs:List Rec} {T T':Env} {hp hp':ax} {aps:List (Nat × Nat)} {tp:Option (Nat × Nat)} (tr:Tr P n all all T hp recs T' hp') (h:oQ all (yA all ls tp)=some aps) (hA:∀ p∈aps,eF (T' p.1) (T' p.2)) (hl:ls.length=recs.length)
    (hr:∀ (i x:Nat) (r:Rec),ls[i]?=some x→recs[i]?=some r→gD x r.rd r.wr r.call r.lo r.hi) (htol:∀ p,tp=some p→∃ tol,yy all ls p.1 p.2=some tol∧Cl P tol.1 (T' tol.2.1) (T' tol.2.2) hp.view):CX P n all recs T T' hp:=by
  have main:∀ i k a b,i < k→recs[i]?=some a→recs[k]?=some b→ordered (cY all []) i k=false→tp≠some (i,k)→jh a b:=by
    intro i k a b hik ha hb ho hne
    have hi:i < recs.length:=(List.getElem?_eq_some_iff.1 ha).1
    have hk:k < recs.length:=(List.getElem?_eq_some_iff.1 hb).1
    have la:=hr i _ a (List.getElem?_eq_getElem (by omega)) ha
    have lb:=hr k _ b (List.getElem?_eq_getElem (by omega)) hb
    have mi:(ls[i]'(by omega),i)∈ls.zipIdx:=by rw[List.mem_zipIdx_iff_getElem?]; simp[List.getElem?_eq_getElem (show i < ls.length by omega)]
    have mk:(ls[k]'(by omega),k)∈ls.zipIdx:=by rw[List.mem_zipIdx_iff_getElem?]; simp[List.getElem?_eq_getElem (show k < ls.length by omega)]
    by_cases h1:rR all (ls[i]'(by omega)) i (ls[k]'(by omega)) k=true
    · unfold rR at h1
      simp only[hik,decide_true,Bool.not_true,ho,Bool.false_or,Bool.or_eq_true,beq_iff_eq,Bool.and_eq_true,decide_eq_true_eq] at h1
      rcases h1 with ((h1 | h1) | h1) | h1
      · obtain ⟨e1,e2,e3,e4⟩:=la.1 h1
        exact ⟨fun id hid=>by simp[e2] at hid,fun id _=>by simp[e1],fun hc=>by simp[e3] at hc,fun _=>e2,fun id _ hx=>by omega⟩
      · obtain ⟨e1,e2,e3,e4⟩:=lb.1 h1
        exact ⟨fun id _=>by simp[e1],fun id hid=>by simp[e2] at hid,fun _=>e2,fun hc=>by simp[e3] at hc,fun id hid=>by simp[e2] at hid⟩
      · have e1:=la.2 h1.1
        have e2:=lb.2 h1.2
        exact ⟨fun id hid=>by simp[e1] at hid,fun id hid=>by simp[e2] at hid,fun _=>e2,fun _=>e1,fun id hid=>by simp[e2] at hid⟩
      · exact qh tr h1 ha hb
    · have hm:(i,k)∈gG all ls:=by
        unfold gG
        rw[List.mem_flatMap]
        refine ⟨_,mi,?_⟩
        rw[List.mem_filterMap]
        exact ⟨_,mk,by simp only; rw[if_neg h1]⟩
      by_cases hn:newAt all k=true
      · unfold newAt at hn
        split at hn
        · rename_i ob hob
          obtain ⟨T1,h1',v,h2,rd,wr,call,recs2,e1,e2,_⟩:=tr.at_ k ob hob
          rw[hb] at e1
          have e1:=Option.some.inj e1
          subst e1
          obtain ⟨n1,n2,n3⟩:=FH e2 hn
          exact ⟨fun id _=>by simp[n1],fun id hid=>by simp[n2] at hid,fun _=>n2,fun hc=>by simp[n3] at hc,fun id hid=>by simp[n2] at hid⟩
        · simp at hn
      · obtain ⟨p,hp,e⟩:=CP h (i,k) (by
          unfold yA
          rw[List.mem_filter]
          refine ⟨hm,?_⟩
          simp only[Bool.and_eq_true,Bool.not_eq_true',bne_iff_ne,ne_eq]
          exact ⟨by simpa using hn,hne⟩)
        exact Ch tr e (fun q hq=>hA q (hp q hq)) ha hb
  cases tp with
  | none=>exact n0.Iq fun i k a b h1 h2 h3 h4=>main i k a b h1 h2 h3 h4 (by simp)
  | some p =>
    obtain ⟨i0,k0⟩:=p
    obtain ⟨tol,hto,htv⟩:=htol _ rfl
    intro Ts hs vs eT0 eh0 eTN hrl hst i
    by_cases hi:i=i0
    · subst hi
      refine ⟨some k0,fun k a b h1 h2 h3 h4 h5=>main i k a b h1 h2 h3 h4 (fun e=>h5 (by simp at e; rw[e])),fun k a b o hk ha hb ho=>?_⟩
      simp at hk; subst hk
      unfold yy at hto
      simp only at hto
      split at hto
      · rename_i oa ob hoa hob
        rw[ho] at hoa
        have hoa:=Option.some.inj hoa
        subst hoa
        split at hto
        · rename_i t m q t' m' q' hop1 hop2 hg1 hg2
          split at hto
          · rename_i hcond
            simp only[Bool.and_eq_true,beq_iff_eq,decide_eq_true_eq,List.all_eq_true,List.mem_range] at hcond
            obtain ⟨⟨⟨⟨⟨⟨⟨⟨rfl,rfl⟩,rfl⟩,s1⟩,s2⟩,s3⟩,s4⟩,hik⟩,hloud⟩:=hcond
            simp only[Option.some.injEq] at hto
            subst hto
            simp only at htv
            have hkl:k0 < all.length:=(List.getElem?_eq_some_iff.1 hob).1
            have hwr:∀ j r,j < k0→recs[j]?=some r→r.wr=[]:=fun j r hj hrj=>by
              have h1:=hloud j hj
              have hj':j < ls.length:=by omega
              rw[List.getD_eq_getElem?_getD,List.getElem?_eq_getElem hj'] at h1
              exact (hr j _ r (List.getElem?_eq_getElem hj') hrj).2 h1
            have hsame:=GZ hst hrl (Nat.le_of_lt hkl) hwr
            have em:∀ j,i≤j→j≤all.length→Ts j m=T' m:=fun j h1 h2=>by
              rw[← eTN,kN hst hrl s1 j h1 h2,kN hst hrl s1 all.length (by omega) (Nat.le_refl _)]
            have eq:∀ j,i≤j→j≤all.length→Ts j q=T' q:=fun j h1 h2=>by
              rw[← eTN,kN hst hrl s2 j h1 h2,kN hst hrl s2 all.length (by omega) (Nat.le_refl _)]
            obtain ⟨sti,_,_,hlo,hhi⟩:=hst i o a ho ha
            obtain ⟨stk,_,_,_,_⟩:=hst k0 ob b hob hb
            have gi:bM n all (Ts i) o=some true:=by unfold bM; rw[hg1]
            have gk:bM n all (Ts k0) ob=some true:=by unfold bM; rw[hg2]
            unfold Cl at htv
            split at htv
            · rename_i id hid
              obtain ⟨⟨es0,c0,hmap⟩,htv⟩:=htv
              have hidl:id < hp.length:=fO (by rw[hmap]; simp)
              have hvk:(hs k0).view id=hp.view id:=by rw[(hsame k0 (Nat.le_refl _)).2 id (by rw[eh0]; exact hidl),eh0]
              have hvi:(hs i).view id=hp.view id:=by rw[(hsame i (Nat.le_of_lt hik)).2 id (by rw[eh0]; exact hidl),eh0]
              obtain ⟨effi,hopi,hi',wri,cai⟩:=y4 sti gi (by rw[hop1]; simp) (by rw[hop1]; simp) (by rw[hop1]; simp)
              obtain ⟨effk,hopk,hk',wrk,cak⟩:=y4 stk gk (by rw[hop2]; simp) (by rw[hop2]; simp) (by rw[hop2]; simp)
              simp only[bp,hop1] at hopi
              simp only[bp,hop2] at hopk
              have e1:ev (Ts i) (.tmp m)=.mp id:=(em i (Nat.le_refl _) (by omega)).trans hid
              have e2:ev (Ts i) (.tmp q)=T' q:=eq i (Nat.le_refl _) (by omega)
              have e3:ev (Ts k0) (.tmp m)=.mp id:=(em k0 (by omega) (by omega)).trans hid
              have e4:ev (Ts k0) (.tmp q)=T' q:=eq k0 (by omega) (by omega)
              rw[e1,e2] at hopi
              rw[e3,e4,CU hvk] at hopk
              obtain ⟨l1,l2⟩:=FX hopi
              obtain ⟨obj,l3⟩:=Dk hopk
              subst l1 l3
              have hkb:(hs (k0+1)).view id=obj:=by
                rw[hk',gY (fun id' hid'=>by
                  simp only[aQ.wr,List.mem_singleton] at hid'
                  subst hid'
                  rw[hvk,hmap]; simp)]
                simp[aQ.view,View.set]
              refine ⟨hik,wri,cai,by rw[hlo,hhi,hi']; rfl,fun g hg hgv=>?_⟩
              have hidi:id < (hs i).length:=fO (by rw[hvi,hmap]; simp)
              have hgid:g.view id=(hp.view.set id obj) id:=by
                rw[hgv id hidi,wrk,if_pos (by simp[aQ.wr]),hkb]
                simp[View.set]
              have hlk:=htv _ _ _ hopk
              have hfin:bp P o (Ts i) g.view g.length=some (vs i,.none,a.rd):=by
                simp only[bp,hop1]
                rw[e1,e2,xY hgid,hlk,← xY hvi]
                exact hopi
              exact .op gi hfin
            · exact htv.elim
          · simp at hto
        · simp at hto
      · simp at hto
    · exact ⟨none,fun k a b h1 h2 h3 h4 _=>main i k a b h1 h2 h3 h4 (fun e=>hi (by simp at e; exact e.1.symm)),fun k a b o h1=>by simp at h1⟩
theorem FV (hm:P.follows .mixedOrders=true) {fz:Fz} {id:Nat} {ops:Array Oper} {sc:SC} {T:Env} {h:ax} {Q:Exit→Env→View→Prop} (hc:u9 P n fz ops.toList=some sc) (hw:wS P sc T h.view Q) :
    ∃ e T' h',bD P n (.region id ops true) T h e T' h'∧(eO h h'∧h.length≤h'.length)∧Q e T' h'.view:=by
  unfold u9 at hc
  split at hc
  · simp at hc
  · rename_i l hl
    split at hc
    · simp at hc
    · rename_i hok
      have hok:(group l).all nD=true:=by simpa using hok
      have hl':bU P n ops.toList fz ops.toList=some (fW (group l)):=by rw[dw]; exact hl
      split at hc
      · rename_i ht
        simp only[Option.map_eq_some_iff] at hc
        obtain ⟨aps,hap,rfl⟩:=hc
        obtain ⟨recs,T',h',tr,hst,hk,hro⟩:=rK (group l) ops.toList T h hl' hok hw
        rw[dw] at hro
        refine ⟨.normal,T',h',?_,hst,hk.rest⟩
        have hcf:n0 ops.toList recs:=Gm tr hap (tZ hk) (by simpa using hro.1) (fun i x r hx hr=>by
          simp only[List.getElem?_map,Option.map_eq_some_iff] at hx
          obtain ⟨s,hs,rfl⟩:=hx
          exact hro.2 i s r hs hr)
        simpa using se hm (id:=id) tr ht hcf
      · simp at hc
theorem F9 (hm:P.follows .mixedOrders=true) {fz:Fz} {id:Nat} {ops:Array Oper} {sc:SC} {T:Env} {h:ax} {Q:Exit→Env→View→Prop} (hc:vO P n fz ops.toList=some sc) (hw:wS P sc T h.view Q) :
    ∃ e T' h',bD P n (.region id ops true) T h e T' h'∧(eO h h'∧h.length≤h'.length)∧Q e T' h'.view:=by
  unfold vO at hc
  split at hc
  · simp at hc
  · rename_i l hl
    split at hc
    · simp at hc
    · rename_i hok
      have hok:(group l).all nD=true:=by simpa using hok
      have hl':bU P n ops.toList fz ops.toList=some (fW (group l)):=by rw[dw]; exact hl
      split at hc
      · rename_i ht
        split at hc
        · simp only[Option.map_eq_some_iff] at hc
          obtain ⟨aps,hap,rfl⟩:=hc
          obtain ⟨recs,T',h',tr,hst,hk,hro⟩:=rK (group l) ops.toList T h hl' hok hw
          rw[dw] at hro
          refine ⟨.normal,T',h',?_,hst,hk.rest⟩
          have hcf:=Ah tr hap (tZ hk) (by simpa using hro.1) (fun i x r hx hr=>by
            simp only[List.getElem?_map,Option.map_eq_some_iff] at hx
            obtain ⟨s,hs,rfl⟩:=hx
            exact hro.2 i s r hs hr) (fun p hp=>by simp at hp)
          simpa using qd hm (id:=id) tr ht hcf
        · rename_i p hp
          split at hc
          · rename_i tol hto
            simp only[Option.map_eq_some_iff] at hc
            obtain ⟨aps,hap,rfl⟩:=hc
            obtain ⟨recs,T',h',tr,hst,hk,hro⟩:=rK (group l) ops.toList T h hl' hok hw
            rw[dw] at hro
            refine ⟨.normal,T',h',?_,hst,hk.2.rest⟩
            have hcf:=Ah tr hap (tZ hk.2) (by simpa using hro.1) (fun i x r hx hr=>by
              simp only[List.getElem?_map,Option.map_eq_some_iff] at hx
              obtain ⟨s,hs,rfl⟩:=hx
              exact hro.2 i s r hs hr) (fun p' hp'=>by
                simp only[Option.some.injEq] at hp'
                subst hp'
                exact ⟨tol,hto,hk.1⟩)
            simpa using qd hm (id:=id) tr ht hcf
          · simp at hc
      · simp at hc
theorem pV (hm:P.follows .mixedOrders=true) {fz:Fz} {id:Nat} {ops:Array Oper} {draw quiet:Bool} {sc:SC} {T:Env} {h:ax} {Q:Exit→Env→View→Prop} (hc:nh P n fz ops.toList draw quiet=some sc) (hw:wS P sc T h.view Q) :
    ∃ e T' h',bD P n (.region id ops draw) T h e T' h'∧(eO h h'∧h.length≤h'.length)∧Q e T' h'.view:=by
  unfold nh at hc
  split at hc
  · simp at hc
  · rename_i l hl
    split at hc
    · simp at hc
    · rename_i hok
      have hok:(group l).all nD=true:=by simpa using hok
      have hl':bU P n ops.toList fz ops.toList=some (fW (group l)):=by rw[dw]; exact hl
      have key:qH P quiet (group l) T h.view (Q .normal)→(draw=true→ic ops.toList=true∧yu ops.toList (l.map fun s=>eT P quiet s.b)=true) →
          ∃ e T' h',bD P n (.region id ops draw) T h e T' h'∧(eO h h'∧h.length≤h'.length)∧Q e T' h'.view:=by
        intro hw hdr
        obtain ⟨recs,T',h',tr,hst,hk,hro⟩:=rK (group l) ops.toList T h hl' hok hw
        rw[dw] at hro
        refine ⟨.normal,T',h',?_,hst,hk⟩
        cases hd:draw with
        | false=>simpa using zA (id:=id) tr
        | true =>
          obtain ⟨h1,h2⟩:=hdr hd
          have hcf:n0 ops.toList recs:=Fm tr h2 (by simpa using hro.1) (fun i x r hx hr=>by
            simp only[List.getElem?_map,Option.map_eq_some_iff] at hx
            obtain ⟨s,hs,rfl⟩:=hx
            exact hro.2 i s r hs hr)
          simpa using se hm (id:=id) tr h1 hcf
      split at hc
      · rename_i hd
        split at hc
        · rename_i ht
          simp at hc; subst hc
          exact key hw (fun _=>by simpa using ht)
        · simp at hc
      · rename_i hd
        simp at hc; subst hc
        exact key hw (fun e=>absurd e hd)
theorem dy {a b:Option SC} {sc:SC} (h:orElse' a b=some sc):a=some sc∨b=some sc:=by
  cases a with
  | none=>exact .inr h
  | some x=>exact .inl h
theorem Di (hm:P.follows .mixedOrders=true) {fz:List Nat} {id:Nat} {ops:Array Oper} {draw:Bool} {sc:SC} {T:Env} {h:ax} {Q:Exit→Env→View→Prop} (hc:u5 P n fz ops.toList draw=some sc) (hw:wS P sc T h.view Q) :
    ∃ e T' h',bD P n (.region id ops draw) T h e T' h'∧(eO h h'∧h.length≤h'.length)∧Q e T' h'.view:=by
  unfold u5 at hc
  rcases dy hc with h1 | h1
  · exact pV hm h1 hw
  · clear hc
    split at h1
    · rename_i hd
      subst hd
      rcases dy h1 with h0 | h1
      · split at h0
        · exact F9 hm h0 hw
        · simp at h0
      rcases dy h1 with h2 | h2
      · exact FV hm h2 hw
      · rcases dy h2 with h3 | h3
        · exact pV hm h3 hw
        · rcases dy h3 with h4 | h4
          · exact pV hm h4 hw
          · exact pV hm h4 hw
    · simp at h1
theorem xg {e:Exit} {a b:Prop} (h:tl e a b):(e=.normal∧a)∨(e≠.normal∧b):=by
  cases e with
  | normal=>exact .inl ⟨rfl,h⟩
  | _=>exact .inr ⟨by simp,h⟩
def mn (P:Program) (n:Nat) (fz:List Nat) (c:Code):Prop:=∀ sc:SC,bG P n fz c=some sc→∀ (T:Env) (h:ax) (Q:Exit→Env→View→Prop),wS P sc T h.view Q →
    ∃ e T' h',bD P n c T h e T' h'∧(eO h h'∧h.length≤h'.length)∧Q e T' h'.view
theorem xQ {fz:List Nat} : mn P n fz .skip:=by
  intro sc hc T h Q hw; simp[bG] at hc; subst hc; exact ⟨_,T,h,.skip,⟨.refl _,Nat.le_refl _⟩,hw⟩
theorem yK {fz:List Nat} {x y:Code} (ihx:mn P n fz x) (ihy:mn P n fz y):mn P n fz (.seq x y):=by
  intro sc hc T h Q hw
  simp only[bG] at hc
  split at hc
  · rename_i a b h1 h2
    simp at hc; subst hc
    simp only[wS] at hw
    obtain ⟨e,T1,h1',hx,st1,hq⟩:=ihx a h1 T h _ hw
    rcases xg hq with ⟨rfl,hq⟩ | ⟨hne,hq⟩
    · obtain ⟨e2,T2,h2',hy,st2,hq2⟩:=ihy b h2 T1 h1' _ hq
      exact ⟨e2,T2,h2',hx.seq hy,⟨st1.1.trans st2.1 st1.2,Nat.le_trans st1.2 st2.2⟩,hq2⟩
    · exact ⟨e,T1,h1',hx.A6 hne,st1,hq⟩
  · simp at hc
theorem ml {fz:Fz} {ops:List Oper} {draw quiet:Bool} {sc:SC} (h:nh P n fz ops draw quiet=some sc) (l:Nat):js sc l=none:=by
  unfold nh at h
  repeat' (first | (simp only[Option.some.injEq] at h; subst h; rfl) | (split at h) | (simp at h; done))
theorem Cw {fz:Fz} {ops:List Oper} {sc:SC} (h:u9 P n fz ops=some sc) (l:Nat):js sc l=none:=by
  unfold u9 at h
  repeat' (first | (simp only[Option.map_eq_some_iff] at h; obtain ⟨_,_,rfl⟩:=h; rfl) | (split at h) | (simp at h; done))
theorem Cz {fz:Fz} {ops:List Oper} {sc:SC} (h:vO P n fz ops=some sc) (l:Nat):js sc l=none:=by
  unfold vO at h
  repeat' (first | (simp only[Option.map_eq_some_iff] at h; obtain ⟨_,_,rfl⟩:=h; rfl) | (split at h) | (simp at h; done))
theorem Cu {fz:List Nat} {ops:List Oper} {draw:Bool} {sc:SC} (h:u5 P n fz ops draw=some sc) (l:Nat):js sc l=none:=by
  unfold u5 at h
  rcases dy h with h1 | h1
  · exact ml h1 l
  · split at h1
    · rcases dy h1 with h0 | h1
      · split at h0
        · exact Cz h0 l
        · simp at h0
      rcases dy h1 with h2 | h2
      · exact Cw h2 l
      · rcases dy h2 with h3 | h3
        · exact ml h3 l
        · rcases dy h3 with h4 | h4
          · exact ml h4 l
          · exact ml h4 l
    · simp at h1
theorem Dp {fz:List Nat} : ∀ (c:Code) (sc:SC),bG P n fz c=some sc→∀ l,match findLabel c l with
    | some rest=>∃ r,js sc l=some r∧bG P n fz rest=some r
    | none=>js sc l=none:=by
  intro c
  induction c with
  | seq x y ihx ihy =>
    intro sc hc l
    simp only[bG] at hc
    split at hc
    · rename_i a b h1 h2
      simp at hc; subst hc
      have hx:=ihx a h1 l
      have hy:=ihy b h2 l
      simp only[findLabel,js]
      cases h3:findLabel x l with
      | some rx =>
        rw[h3] at hx
        obtain ⟨r,e1,e2⟩:=hx
        exact ⟨.seq r b,by rw[e1],by simp only[bG,e2,h2]⟩
      | none =>
        rw[h3] at hx
        simp only at hx ⊢
        rw[hx]
        exact hy
    · simp at hc
  | label l' =>
    intro sc hc l
    simp[bG] at hc; subst hc
    simp only[findLabel,js]
    by_cases e:(l' == l)=true
    · rw[if_pos e]; exact ⟨.skip,by rw[if_pos e],by simp[bG]⟩
    · rw[if_neg e]; simp only; rw[if_neg e]
  | region id ops draw=>intro sc hc l; simp only[bG] at hc; simp only[findLabel]; exact Cu hc l
  | cond x y z _ _ =>
    intro sc hc l
    simp only[bG] at hc
    split at hc
    · simp at hc; subst hc; rfl
    · simp at hc
  | block id c _=>intro sc hc l; simp only[bG,Option.map_eq_some_iff] at hc; obtain ⟨_,_,rfl⟩:=hc; rfl
  | loop c _=>intro sc hc l; simp only[bG,Option.map_eq_some_iff] at hc; obtain ⟨_,_,rfl⟩:=hc; rfl
  | scope c _ =>
    intro sc hc l
    simp only[bG] at hc
    split at hc
    · split at hc
      · simp only[Option.map_eq_some_iff] at hc; obtain ⟨_,_,rfl⟩:=hc; rfl
      · simp at hc
    · simp at hc
  | skip=>intro sc hc l; simp[bG] at hc; subst hc; rfl
  | exit id=>intro sc hc l; simp[bG] at hc; subst hc; rfl
  | ret=>intro sc hc l; simp[bG] at hc; subst hc; rfl
  | goto l'=>intro sc hc l; simp[bG] at hc; subst hc; rfl
  | _=>intro sc hc; simp[bG] at hc
theorem CE {fz:List Nat} {c:Code} (h0:mn P n fz c) (hr:∀ l rest,findLabel c l=some rest→mn P n fz rest):mn P n fz (.scope c):=by
  intro sc hc T h Q hw
  simp only[bG] at hc
  split at hc
  · rename_i a h1
    split at hc
    · rename_i l h2
      simp only[Option.map_eq_some_iff] at hc
      obtain ⟨r,h3,rfl⟩:=hc
      have hf:=Dp c a h1 l
      cases h4:findLabel c l with
      | none=>rw[h4] at hf; simp only at hf; rw[hf] at h3; simp at h3
      | some rest =>
        rw[h4] at hf
        obtain ⟨r',e1,e2⟩:=hf
        rw[h3] at e1
        have e1:=Option.some.inj e1
        subst e1
        simp only[wS] at hw
        obtain ⟨I,K,hw1,hw2⟩:=hw
        have go:∀ k T (h:ax),I k T h.view→∃ e T' h',l6 P n c rest T h e T' h'∧(eO h h'∧h.length≤h'.length)∧Q e T' h'.view:=by
          intro k
          induction k using Nat.strongRecOn with
          | ind k ihk =>
            intro T h hI
            obtain ⟨e,T1,h1',hx,st1,hq⟩:=hr l rest h4 r e2 T h _ (hw2 k T h.view hI)
            cases e with
            | goto l' =>
              obtain ⟨rfl,k',hlt,hI'⟩:=hq
              obtain ⟨e2,T2,h2',hy,st2,hq2⟩:=ihk k' hlt T1 h1' hI'
              exact ⟨e2,T2,h2',l6.jump hx h4 hy,⟨st1.1.trans st2.1 st1.2,Nat.le_trans st1.2 st2.2⟩,hq2⟩
            | _=>exact ⟨_,T1,h1',.out hx rfl,st1,hq⟩
        obtain ⟨e,T1,h1',hx,st1,hq⟩:=h0 a h1 T h _ hw1
        cases e with
        | goto l' =>
          obtain ⟨rfl,k',_,hI'⟩:=hq
          obtain ⟨e2,T2,h2',hy,st2,hq2⟩:=go k' T1 h1' hI'
          exact ⟨e2,T2,h2',.scope (l6.jump hx h4 hy),⟨st1.1.trans st2.1 st1.2,Nat.le_trans st1.2 st2.2⟩,hq2⟩
        | _=>exact ⟨_,T1,h1',.scope (.out hx rfl),st1,hq⟩
    · simp at hc
  · simp at hc
theorem FT (hm:P.follows .mixedOrders=true) {fz:List Nat} : ∀ c:Code,mn P n fz c∧∀ l rest,findLabel c l=some rest→mn P n fz rest:=by
  intro c
  induction c with
  | skip=>exact ⟨xQ,fun l rest h=>by simp[findLabel] at h⟩
  | region id ops draw=>exact ⟨fun sc hc T h Q hw=>Di hm hc hw,fun l rest h=>by simp[findLabel] at h⟩
  | seq x y ihx ihy =>
    refine ⟨yK ihx.1 ihy.1,fun l rest h=>?_⟩
    simp only[findLabel] at h
    split at h
    · rename_i r hr
      simp only[Option.some.injEq] at h; subst h
      exact yK (ihx.2 _ _ hr) ihy.1
    · exact ihy.2 _ _ h
  | cond c x y ihx ihy =>
    refine ⟨?_,fun l rest h=>by simp[findLabel] at h⟩
    intro sc hc T h Q hw
    simp only[bG] at hc
    split at hc
    · rename_i a b h1 h2
      simp at hc; subst hc
      simp only[wS] at hw
      split at hw
      · rename_i t ht
        have hT:nK (SX.of c) t T=T:=by
          unfold nK
          split
          · rename_i k hk
            rw[hk] at ht
            exact ud ht
          · rfl
        rw[SX.bz] at ht
        cases t with
        | true =>
          have:=hw.1 rfl
          rw[hT] at this
          obtain ⟨e,T',h',hx,st,hq⟩:=ihx.1 a h1 T h Q this
          exact ⟨e,T',h',.cond ht hx,st,hq⟩
        | false =>
          have:=hw.2 rfl
          rw[hT] at this
          obtain ⟨e,T',h',hx,st,hq⟩:=ihy.1 b h2 T h Q this
          exact ⟨e,T',h',.cond ht hx,st,hq⟩
      · exact hw.elim
    · simp at hc
  | block id c ih =>
    refine ⟨?_,fun l rest h=>by simp[findLabel] at h⟩
    intro sc hc T h Q hw
    simp only[bG,Option.map_eq_some_iff] at hc
    obtain ⟨a,h1,rfl⟩:=hc
    simp only[wS] at hw
    obtain ⟨e,T',h',hx,st,hq⟩:=ih.1 a h1 T h _ hw
    exact ⟨_,T',h',hx.block,st,hq⟩
  | loop c ih =>
    refine ⟨?_,fun l rest h=>by simp[findLabel] at h⟩
    intro sc hc T h Q hw
    simp only[bG,Option.map_eq_some_iff] at hc
    obtain ⟨a,h1,rfl⟩:=hc
    simp only[wS] at hw
    obtain ⟨I,⟨k,hk⟩,hstep⟩:=hw
    have go:∀ k T (h:ax),I k T h.view→∃ e T' h',kI P n c T h e T' h'∧(eO h h'∧h.length≤h'.length)∧Q e T' h'.view:=by
      intro k
      induction k using Nat.strongRecOn with
      | ind k ihk =>
        intro T h hI
        obtain ⟨e,T1,h1',hx,st1,hq⟩:=ih.1 a h1 T h _ (hstep k T h.view hI)
        rcases xg hq with ⟨rfl,k',hlt,hI'⟩ | ⟨hne,hq⟩
        · obtain ⟨e2,T2,h2',hy,st2,hq2⟩:=ihk k' hlt T1 h1' hI'
          exact ⟨e2,T2,h2',.step hx hy,⟨st1.1.trans st2.1 st1.2,Nat.le_trans st1.2 st2.2⟩,hq2⟩
        · exact ⟨e,T1,h1',.out hx hne,st1,hq⟩
    obtain ⟨e,T',h',hx,st,hq⟩:=go k T h hk
    exact ⟨e,T',h',.loop hx,st,hq⟩
  | exit id=>exact ⟨fun sc hc T h Q hw=>by simp[bG] at hc; subst hc; exact ⟨_,T,h,.exit,⟨.refl _,Nat.le_refl _⟩,hw⟩,fun l rest h=>by simp[findLabel] at h⟩
  | ret=>exact ⟨fun sc hc T h Q hw=>by simp[bG] at hc; subst hc; exact ⟨_,T,h,.ret,⟨.refl _,Nat.le_refl _⟩,hw⟩,fun l rest h=>by simp[findLabel] at h⟩
  | label l'=>exact ⟨fun sc hc T h Q hw=>by simp[bG] at hc; subst hc; exact ⟨_,T,h,.label,⟨.refl _,Nat.le_refl _⟩,hw⟩,fun l rest h=>by
      simp only[findLabel] at h
      split at h
      · simp only[Option.some.injEq] at h; subst h; exact xQ
      · simp at h⟩
  | goto l'=>exact ⟨fun sc hc T h Q hw=>by simp[bG] at hc; subst hc; exact ⟨_,T,h,.goto,⟨.refl _,Nat.le_refl _⟩,hw⟩,fun l rest h=>by simp[findLabel] at h⟩
  | scope c ih=>exact ⟨CE ih.1 ih.2,fun l rest h=>by simp[findLabel] at h⟩
  | _=>exact ⟨fun sc hc=>by simp[bG] at hc,fun l rest h=>by simp[findLabel] at h⟩
theorem Ij (hm:P.follows .mixedOrders=true) {fz:List Nat} (c:Code) (sc:SC) (hc:bG P n fz c=some sc) (T:Env) (h:ax) (Q:Exit→Env→View→Prop) (hw:wS P sc T h.view Q) :
    ∃ e T' h',bD P n c T h e T' h'∧(eO h h'∧h.length≤h'.length)∧Q e T' h'.view:=(FT hm c).1 sc hc T h Q hw
theorem H6 {T:Env} {h:ax} {r:ResultVar} {l:List SR} {rest:List ResultVar} (hc:c6 P (r :: rest)=some l):∃ s l',l=s :: l'∧c6 P rest=some l'∧∀ K:V→Prop,wR T h.view s K→∃ v,mE P T h r=some v∧K v:=by
  cases r with
  | tmp t =>
    simp only[c6,Option.map_eq_some_iff] at hc
    obtain ⟨l',h1,rfl⟩:=hc
    exact ⟨.tmp t,l',rfl,h1,fun K hk=>⟨_,rfl,hk⟩⟩
  | cell a t =>
    simp only[c6] at hc
    split at hc
    · rename_i k l' h1 h2
      simp at hc; subst hc
      refine ⟨.cell a k,l',rfl,h2,fun K hk=>?_⟩
      simp only[wR] at hk
      simp only[mE,iq,qq h1]
      split at hk
      · rename_i id i j ha
        split at hk
        · rename_i es hH
          obtain ⟨hlt,hk⟩:=hk
          obtain ⟨v,hv,hk⟩:=kB hk
          exact ⟨v,by rw[ha]; simp only[hH]; rw[if_pos hlt,hv]; rfl,hk⟩
        · exact hk.elim
      · rename_i e j ha
        obtain ⟨v,hv,hk⟩:=kB hk
        exact ⟨v,by rw[ha]; simp only; rw[hv]; rfl,hk⟩
      · exact hk.elim
    · simp at hc
theorem D4 {T:Env} {h:ax} {K:List V→Prop} : ∀ (rs:List ResultVar) (l:List SR) (acc:List V),c6 P rs=some l→uG T h.view l acc K→∃ vs,hQ P T h rs=some vs∧K (acc ++ vs)
  | [],l,acc,hc,hw=>by simp[c6] at hc; subst hc; exact ⟨[],rfl,by simpa [uG] using hw⟩
  | r :: rest,l,acc,hc,hw=>by
    obtain ⟨s,l',rfl,h1,h2⟩:=H6 (T:=T) (h:=h) hc
    simp only[uG] at hw
    obtain ⟨v,hv,hk⟩:=h2 _ hw
    obtain ⟨vs,hvs,hk⟩:=D4 rest l' (acc ++ [v]) h1 hk
    exact ⟨v :: vs,by simp[hQ,hv,hvs],by simpa using hk⟩
def wF (P:Program) (F:SF) (vs:List V) (H:View) (K:V→View→Prop):Prop :=
  vs.length≤F.n∧wS P F.code (gM vs) H fun e T' H'=>(e=.ret∨e=.normal)∧uG T' H' F.res [] fun l=>K (ai l) H'
theorem aA.of (hm:P.follows .mixedOrders=true) {f:FuncId} {fz:List Nat} {F:SF} (hF:aY P f fz=some F) {vs:List V} {H:View} {K:V→View→Prop} (hw:wF P F vs H K):aA P f vs H K:=by
  unfold aY at hF
  split at hF
  · rename_i fn hfn
    split at hF
    · rename_i c hb
      split at hF
      · rename_i sc rs h1 h2 h3
        simp at hF; subst hF
        refine ⟨h3,?_⟩
        rintro h rfl
        obtain ⟨e,T',h',hx,st,he,hr⟩:=Ij hm c sc h1 _ h _ hw.2
        obtain ⟨vs',hvs,hk⟩:=D4 _ _ [] h2 hr
        refine ⟨ai vs',h',bm.Bt hfn hb hw.1 hx he ?_,st.1,by simpa using hk⟩
        unfold Cd
        rw[hvs]
        cases vs' with
        | nil=>rfl
        | cons a l=>cases l <;> rfl
      · simp at hF
    · simp at hF
  · simp at hF
theorem aA.mono {f:FuncId} {vs:List V} {H:View} {K K':V→View→Prop} (h:aA P f vs H K) (hk:∀ r H',K r H'→K' r H'):aA P f vs H K' :=
  ⟨h.1,fun h0 e=>let ⟨r,h',a,s,b⟩:=h.2 h0 e; ⟨r,h',a,s,hk _ _ b⟩⟩
theorem az.FA {f:FuncId} {vs:List V} {H:View} {t:V} {K:V→View→Prop} (h:az P f vs t) (hok:bQ P f=true) (hk:K t H):yD P f vs H K :=
  ⟨hok,fun h0 e=>⟨t,h0,bm.eA h h0,fun _ _=>rfl,e ▸ hk⟩⟩
theorem aA.FA {f:FuncId} {vs:List V} {H:View} {K:V→View→Prop} (h:aA P f vs H fun r H'=>(∀ id,H id≠.dead→H' id=H id)∧K r H'):yD P f vs H K :=
  ⟨h.1,fun h0 e=>by
    obtain ⟨r,h',ha,st,hf,hk⟩:=h.2 h0 e
    refine ⟨r,h',ha,fun id hid=>?_,hk⟩
    by_cases hd:h0.view id=.dead
    · rw[hd]; exact st id hid hd
    · rw[← e] at hf; exact hf id hd⟩
end
inductive bR {α:Type} (x:α):Type where
  | mk
def c5 (s:ByteArray):List Int:=s.data.toList.map fun b=>(b.toNat:Int)
theorem cy (s:ByteArray):s.size=(c5 s).length:=by rw[c5,List.length_map,bsize]
def bt (P:Program) (c:SC) (T:Env) (H:View) (Q:Exit→Env→View→Prop) (_:bR (T,H,Q)):Prop:=wS P (.loop c) T H Q
def HS (P:Program) (l:Nat) (c r:SC) (T:Env) (H:View) (Q:Exit→Env→View→Prop) (_:bR (T,H,Q)):Prop:=wS P (.scope l c r) T H Q
def aK (P:Program) (quiet:Bool) (f:FuncId) (vs:List V) (H:View) (K:V→View→Prop) (_:bR (H,K)):Prop :=
  if quiet then yD P f vs H K else aA P f vs H K
def vA {α:Type} (v:α) (F:α→Prop) (_:bR F):Prop:=F v
def b6 (v:V) (F:V→Prop) (_:bR F):Prop:=F v
def zB (o:cZ) (F:cZ→Prop) (_:bR F):Prop:=F o
def k6 {α:Type} (o:Option α) (F:Option α→Prop) (_:bR F):Prop:=F o
def ar (b:Bool) (A B:Prop) (_:bR (A,B)):Prop:=(b=true→A)∧(b=false→B)
theorem Io {α:Type} (v:α) (F:α→Prop) (w:bR F):vA v F w=F v:=propext Iff.rfl
section
variable (F:V→Prop) (w:bR F)
theorem AZ (v:Value):b6 (.val v) F w=F (.val v):=propext Iff.rfl
theorem BD (k:Nat):b6 (.emp k) F w=F (.emp k):=propext Iff.rfl
theorem Br:b6 .cp F w=F .cp:=propext Iff.rfl
theorem B2 (es:List (List V)):b6 (.aP es) F w=F (.aP es):=propext Iff.rfl
theorem DY (a b c d:Nat):b6 (.sl a b c d) F w=F (.sl a b c d):=propext Iff.rfl
theorem Bi (a b c:Nat):b6 (.ptr a b c) F w=F (.ptr a b c):=propext Iff.rfl
theorem zF (e:List V) (j:Nat):b6 (.aN e j) F w=F (.aN e j):=propext Iff.rfl
theorem EB (a:Nat):b6 (.mp a) F w=F (.mp a):=propext Iff.rfl
theorem Dg (f:FuncId) (a b:List V):b6 (.fn f a b) F w=F (.fn f a b):=propext Iff.rfl
theorem Bp (cs:List V):b6 (.agg cs) F w=F (.agg cs):=propext Iff.rfl
theorem BU (cs:List V):b6 (.bg cs) F w=F (.bg cs):=propext Iff.rfl
end
theorem BO (F:cZ→Prop) (w:bR F) (k:Nat) (es:List (List V)):zB (.arr k es) F w=F (.arr k es):=propext Iff.rfl
theorem Bm (F:cZ→Prop) (w:bR F) (es:List (V × V × Nat)) (k:Nat):zB (.map es k) F w=F (.map es k):=propext Iff.rfl
theorem zR {α:Type} (F:Option α→Prop) (w:bR F) (x:α):k6 (some x) F w=F (some x):=propext Iff.rfl
theorem Ad (A B:Prop) (w:bR (A,B)):ar true A B w=A:=by simp[ar]
theorem xt (A B:Prop) (w:bR (A,B)):ar false A B w=B:=by simp[ar]
theorem BN (b:Bool) (A B:Prop) (w:bR (A,B)):ar (!b) A B w=ar b B A .mk:=by cases b <;> simp[ar]
theorem ar.split {b:Bool} {A B:Prop} {w:bR (A,B)} (h1:b=true→A) (h2:b=false→B):ar b A B w:=⟨h1,h2⟩
theorem ar.dec {p:Prop} [Decidable p] {A B:Prop} {w:bR (A,B)} (h1:p→A) (h2:¬ p→B):ar (decide p) A B w:=⟨fun h=>h1 (by simpa using h),fun h=>h2 (by simpa using h)⟩
theorem ar.eq {a b:Int} {A B:Prop} {w:bR (A,B)} (h1:a=b→A) (h2:¬ a=b→B):ar (a == b) A B w:=⟨fun h=>h1 (by simpa using h),fun h=>h2 (by simpa using h)⟩
theorem ar.ne {a b:Int} {A B:Prop} {w:bR (A,B)} (h1:¬ a=b→A) (h2:a=b→B):ar (a != b) A B w:=⟨fun h=>h1 (by simpa using h),fun h=>h2 (by simpa using h)⟩
section
variable (P:Program) (T:Env) (H:View)
theorem Gy (F:SF) (vs:List V) (K:V→View→Prop):wF P F vs H K=(vs.length≤F.n∧wS P F.code (gM vs) H fun e T' H'=>(e=.ret∨e=.normal)∧uG T' H' F.res [] fun l=>vA (ai l) (fun v=>K v H') .mk):=propext Iff.rfl
theorem Bn (Q:Exit→Env→View→Prop):wS P .skip T H Q=Q .normal T H:=propext Iff.rfl
theorem xE (q:Bool) (gs:List SG) (Q:Exit→Env→View→Prop):wS P (.region q gs) T H Q=qH P q gs T H (Q .normal):=propext Iff.rfl
theorem vh (aps:List (Nat × Nat)) (gs:List SG) (Q:Exit→Env→View→Prop):wS P (.sT aps gs) T H Q=qH P false gs T H (fun T' H'=>rz aps T' (Q .normal T' H')):=propext Iff.rfl
theorem vt (tol:Nat × Nat × Nat) (aps:List (Nat × Nat)) (gs:List SG) (Q:Exit→Env→View→Prop):wS P (.v7 tol aps gs) T H Q=qH P false gs T H (fun T' H'=>Cl P tol.1 (T' tol.2.1) (T' tol.2.2) H∧rz aps T' (Q .normal T' H')):=propext Iff.rfl
theorem BS (K:Prop):rz [] T K=K:=propext Iff.rfl
theorem z2 (a b:Nat) (l:List (Nat × Nat)) (K:Prop):rz ((a,b) :: l) T K=(eF (T a) (T b)∧rz l T K):=propext Iff.rfl
theorem BM (i j k i' j' k':Nat):eF (.ptr i j k) (.ptr i' j' k')=(i≠i'):=propext Iff.rfl
theorem Bc (i j k a b c d:Nat):eF (.ptr i j k) (.sl a b c d)=(i≠a):=propext Iff.rfl
theorem zS (i j k e:Nat):eF (.ptr i j k) (.emp e)=True:=id rfl
theorem yI (i j k:Nat):eF (.ptr i j k) .cp=True:=id rfl
theorem zj (i j k:Nat) (es:List (List V)):eF (.ptr i j k) (.aP es)=True:=id rfl
theorem BJ (a b c d e f g h:Nat):eF (.sl a b c d) (.sl e f g h)=(a≠e):=propext Iff.rfl
theorem D8 (a b c d e:Nat):eF (.sl a b c d) (.emp e)=True:=id rfl
theorem Er (a b c d:Nat):eF (.sl a b c d) .cp=True:=id rfl
theorem Dy (a b c d:Nat) (es:List (List V)):eF (.sl a b c d) (.aP es)=True:=id rfl
theorem Bk (k:Nat) (v:V):eF (.emp k) v=True:=by cases v <;> rfl
theorem Bz (v:V):eF .cp v=True:=by cases v <;> rfl
theorem BX (es:List (List V)) (v:V):eF (.aP es) v=True:=by cases v <;> rfl
theorem zp (e:List V) (j:Nat) (v:V):eF (.aN e j) v=True:=by cases v <;> rfl
theorem Fh (x y:SC) (Q:Exit→Env→View→Prop):wS P (.seq x y) T H Q=wS P x T H fun e T' H'=>tl e (wS P y T' H' Q) (Q e T' H'):=propext Iff.rfl
theorem Bo (c:SX) (x y:SC) (Q:Exit→Env→View→Prop):wS P (.cond c x y) T H Q=b6 (c.at T) (fun v=>match v with
    | .val (.bool b)=>ar b (wS P x (nK c true T) H Q) (wS P y (nK c false T) H Q) .mk
    | _=>False) .mk:=propext Iff.rfl
theorem zD (id:Nat) (c:SC) (Q:Exit→Env→View→Prop):wS P (.block id c) T H Q=wS P c T H fun e=>Q (kP id e):=propext Iff.rfl
theorem Bb (id:Nat) (Q:Exit→Env→View→Prop):wS P (.exit id) T H Q=Q (.exit id) T H:=propext Iff.rfl
theorem Ej (Q:Exit→Env→View→Prop):wS P .ret T H Q=Q .ret T H:=propext Iff.rfl
theorem Ag (l:Nat) (c r:SC) (Q:Exit→Env→View→Prop):wS P (.scope l c r) T H Q=HS P l c r T H Q .mk:=propext Iff.rfl
theorem zb (l:Nat) (Q:Exit→Env→View→Prop):wS P (.label l) T H Q=Q .normal T H:=propext Iff.rfl
theorem BH (l:Nat) (Q:Exit→Env→View→Prop):wS P (.goto l) T H Q=Q (.goto l) T H:=propext Iff.rfl
theorem vS (l l':Nat) (a b:Prop):sY l (.goto l') a b=(l'=l∧a):=propext Iff.rfl
theorem rH (l:Nat) (a b:Prop):sY l .normal a b=b:=propext Iff.rfl
theorem vw (l i:Nat) (a b:Prop):sY l (.exit i) a b=b:=propext Iff.rfl
theorem x3 (l:Nat) (a b:Prop):sY l .ret a b=b:=propext Iff.rfl
theorem yQ (l:Nat) (a b:Prop):tl (.goto l) a b=b:=propext Iff.rfl
theorem uH (i l:Nat):kP i (.goto l)=.goto l:=id rfl
theorem A5 (c:SC) (Q:Exit→Env→View→Prop):wS P (.loop c) T H Q=bt P c T H Q .mk:=propext Iff.rfl
theorem BZ (q:Bool) (K:Env→View→Prop):qH P q [] T H K=K T H:=propext Iff.rfl
theorem zP (q:Bool) (g:SG) (r:List SG) (K:Env→View→Prop):qH P q (g :: r) T H K=wG P q g T H fun T' H'=>qH P q r T' H' K:=propext Iff.rfl
theorem Bj (q:Bool) (ops:List (Option Nat × SB)) (K:Env→View→Prop):wG P q ⟨none,ops⟩ T H K=sg P q ops T H K:=propext Iff.rfl
theorem Bf (q:Bool) (d:Nat) (ops:List (Option Nat × SB)) (K:Env→View→Prop):wG P q ⟨some (d,true),ops⟩ T H K=b6 (T d) (fun v=>match v with
    | .val (.bool b)=>ar b (sg P q ops (T.put (some d) (.val (.bool true))) H K) (K (ey ops (T.put (some d) (.val (.bool false)))) H) .mk
    | .bg []=>K (ey ops T) H
    | _=>False) .mk:=propext Iff.rfl
theorem yR (q:Bool) (d:Nat) (ops:List (Option Nat × SB)) (K:Env→View→Prop):wG P q ⟨some (d,false),ops⟩ T H K=b6 (T d) (fun v=>match v with
    | .val (.bool b)=>ar b (K (ey ops (T.put (some d) (.val (.bool true)))) H) (sg P q ops (T.put (some d) (.val (.bool false))) H K) .mk
    | .bg []=>K (ey ops T) H
    | _=>False) .mk:=by
  simp only[wG,b6]
  generalize T d=v
  cases v with
  | val x=>cases x <;> simp[ar,and_comm]
  | bg l=>cases l <;> simp
  | _=>simp
theorem tc:ey [] T=T:=id rfl
theorem rY (d:Option Nat) (b:SB) (r:List (Option Nat × SB)):ey ((d,b) :: r) T=ey r (T.put d (.bg [])):=id rfl
theorem A7 (q:Bool) (K:Env→View→Prop):sg P q [] T H K=K T H:=propext Iff.rfl
theorem Ac (q:Bool) (d:Option Nat) (b:SB) (r:List (Option Nat × SB)) (K:Env→View→Prop):sg P q ((d,b) :: r) T H K=wB P q b T H fun v H'=>vA v (fun v'=>sg P q r (T.put d v') H' K) .mk:=propext Iff.rfl
theorem Gr (q:Bool) (s:SI) (K:V→View→Prop):wB P q (.op s) T H K=wI P s T H K:=propext Iff.rfl
theorem Bq (q:Bool) (f:SX) (args:List SX) (K:V→View→Prop):wB P q (.call f args) T H K=b6 (f.at T) (fun v=>match v with
    | .fn g first cap=>aK P q g (first ++ args.map (SX.at T) ++ cap) H K .mk
    | _=>False) .mk:=propext Iff.rfl
theorem EC (x:SX) (K:V→View→Prop):wI P (.aW x) T H K=K (x.at T) H:=propext Iff.rfl
theorem BB (c a b:SX) (K:V→View→Prop):wI P (.pick c a b) T H K=b6 (c.at T) (fun v=>match v with
    | .val (.bool t)=>ar t (K (a.at T) H) (K (b.at T) H) .mk
    | _=>False) .mk:=by
  simp only[wI,b6]
  generalize c.at T=v
  cases v with
  | val x =>
    cases x with
    | bool t=>cases t <;> simp[ar]
    | _=>simp
  | _=>simp
theorem D6 (x:SX) (K:V→View→Prop):wI P (.box x) T H K=b6 (x.at T) (fun v=>v.cells.all aS=true∧vA v.cells (fun cs=>∀ n,H n=.dead→K (.ptr n 0 0) (H.set n (.arr cs.length [cs]))) .mk) .mk:=propext Iff.rfl
theorem Eh (x:SX) (K:V→View→Prop):wI P (.eX x) T H K=b6 (x.at T) (fun v=>v.cells.all aS=true∧vA v.cells (fun cs=>K (.aN cs 0) H) .mk) .mk:=propext Iff.rfl
theorem zN (z:List V) (K:V→View→Prop):wI P (.alloc z) T H K=(z.all aS=true∧∀ n,H n=.dead→K (.ptr n 0 0) (H.set n (.arr z.length [z]))):=propext Iff.rfl
theorem Ba (sz:Option Nat) (a:SX) (K:V→View→Prop):wI P (.load sz a) T H K=b6 (a.at T) (fun v=>match v with
    | .ptr id i j=>zB (H id) (fun o=>match o with
      | .arr _ es=>i < es.length∧vA (es.getD i []) (fun e=>fB sz e j fun v=>K v H) .mk
      | _=>False) .mk
    | .aN e j=>fB sz e j fun v=>K v H
    | _=>False) .mk:=propext Iff.rfl
theorem yH (sz:Option Nat) (a:SX) (K:V→View→Prop):wI P (.sM sz a) T H K=b6 (a.at T) (fun v=>match v with
    | .aN e j=>fB sz e j fun v=>K v H
    | _=>False) .mk:=propext Iff.rfl
theorem zO (sz:Nat) (a x:SX) (K:V→View→Prop):wI P (.store sz a x) T H K=b6 (a.at T) (fun v=>match v with
    | .ptr id i j=>zB (H id) (fun o=>match o with
      | .arr esz es=>vA (x.at T).cells (fun cs=>(i < es.length∧cs.length=sz∧j+cs.length≤esz∧cs.all aS=true) ∧
          vA (es.set i (ab (es.getD i []) j cs)) (fun es'=>K .any (H.set id (.arr esz es'))) .mk) .mk
      | _=>False) .mk
    | _=>False) .mk:=propext Iff.rfl
theorem BW (x:SX) (K:V→View→Prop):wI P (.ux x) T H K=b6 (x.at T) (fun v=>match v with
    | .ptr id i j=>K (.ptr id i j) H
    | .aN e j=>K (.aN e j) H
    | .fn f a b=>K (.fn f a b) H
    | _=>False) .mk:=propext Iff.rfl
theorem BI (off:Nat) (x:SX) (K:V→View→Prop):wI P (.addr off x) T H K=b6 (x.at T) (fun v=>match v with
    | .ptr id i j=>K (.ptr id i (j+off)) H
    | .aN e j=>K (.aN e (j+off)) H
    | _=>False) .mk:=propext Iff.rfl
theorem y1 (off:Nat) (sz:Option Nat) (x:SX) (K:V→View→Prop):wI P (.field off sz x) T H K=b6 (x.at T) (fun v=>match v with
    | .agg cs=>fB sz cs off fun v=>K v H
    | _=>False) .mk:=propext Iff.rfl
theorem Du (sz:Nat) (x i:SX) (K:V→View→Prop):wI P (.idx sz x i) T H K=k6 (asNat (i.at T)) (fun o=>match o with
    | none=>False
    | some q=>b6 (x.at T) (fun v=>match v with
      | .sl id off len esz=>(q < len∧esz=sz)∧K (.ptr id (off+q) 0) H
      | .aP es=>k6 es[q]? (fun o=>match o with
        | some e=>e.length=sz∧K (.aN e 0) H
        | none=>False) .mk
      | _=>False) .mk) .mk:=by
  simp only[wI,k6,b6]
  cases asNat (i.at T) with
  | none=>rfl
  | some q =>
    simp only
    cases x.at T with
    | aP es =>
      simp only
      cases h:es[q]? with
      | none=>simp
      | some e=>simp
    | _=>rfl
theorem Be (f:FuncId) (first cap:List SX) (K:V→View→Prop):wI P (.iA f first cap) T H K=K (.fn f (first.map (SX.at T)) (cap.map (SX.at T))) H:=propext Iff.rfl
theorem za (K:V→View→Prop):wI P .ju T H K=(∀ n,H n=.dead→K (.mp n) (H.set n (.map [] 0))):=propext Iff.rfl
theorem ED (i:Nat) (x:SX) (K:V→View→Prop):wI P (.ext i x) T H K=b6 (x.at T) (fun v=>match v with
    | .bg vs=>i < vs.length∧K (vs.getD i .any) H
    | _=>False) .mk:=propext Iff.rfl
theorem E9 (x:SX) (K:V→View→Prop):wI P (.len x) T H K=k6 (dP (x.at T)) (fun o=>match o with
    | some n=>K (an n) H
    | none=>False) .mk:=propext Iff.rfl
theorem AW (x:SX) (K:V→View→Prop):wI P (.eL x) T H K=b6 (x.at T) (fun v=>match v with
    | .val (.string s)=>K (an s.size) H
    | _=>False) .mk:=propext Iff.rfl
theorem Ao (op:BinOp) (x y:SX) (K:V→View→Prop):wI P (.arith op x y) T H K=b6 (x.at T) (fun v=>b6 (y.at T) (fun v'=>match v,v' with
    | .val (.int k a),.val (.int k' b)=>k=k'∧k6 (ah op k a b) (fun o=>match o with | some v=>K (.val v) H | none=>False) .mk
    | _,_=>False) .mk) .mk:=propext Iff.rfl
theorem GF (l:Bool) (x y:SX) (K:V→View→Prop):wI P (.sh l x y) T H K=b6 (x.at T) (fun v=>b6 (y.at T) (fun v'=>match v,v' with
    | .val (.int k a),.val (.int _ b)=>0≤b∧K (.val (.int k (C7 l k a b))) H
    | _,_=>False) .mk) .mk:=propext Iff.rfl
theorem Ek (op:BinOp) (x y:SX) (K:V→View→Prop):wI P (.fX op x y) T H K=b6 (x.at T) (fun v=>b6 (y.at T) (fun v'=>match v,v' with
    | .val (.string a),.val (.string b)=>(match op with
      | .eql=>K (.val (.bool (eH a b))) H
      | .neq=>K (.val (.bool (!eH a b))) H
      | _=>False)
    | _,_=>False) .mk) .mk:=propext Iff.rfl
theorem B1 (x i:SX) (K:V→View→Prop):wI P (.b4 x i) T H K=b6 (x.at T) (fun v=>k6 (asNat (i.at T)) (fun o=>match v,o with
    | .val (.string s),some q=>k6 (c5 s)[q]? (fun o=>match o with
      | some c=>K (.val (.int .u8 c)) H
      | none=>False) .mk
    | _,_=>False) .mk) .mk:=by
  simp only[wI,k6,b6]
  generalize x.at T=v
  generalize asNat (i.at T)=o
  cases v with
  | val u =>
    cases u with
    | string s =>
      cases o with
      | none=>rfl
      | some q =>
        simp only[c5,List.getElem?_map]
        cases h:s.data.toList[q]? with
        | none=>simp
        | some e=>simp
    | _=>rfl
  | _=>rfl
theorem E2 (x:SX) (K:V→View→Prop):wI P (.not x) T H K=b6 (x.at T) (fun v=>match v with
    | .val (.bool t)=>K (.val (.bool (!t))) H
    | _=>False) .mk:=propext Iff.rfl
theorem DH (eq:Bool) (k:Nat) (x y:SX) (K:V→View→Prop):wI P (.nil eq k x y) T H K=k6 (aj (isNil k (x.at T)) (isNil k (y.at T))) (fun o=>match o with
    | some b=>K (.val (.bool (if eq=true then b else !b))) H
    | none=>False) .mk:=propext Iff.rfl
theorem B6 (x y:SX) (K:V→View→Prop):wI P (.beq true x y) T H K=b6 (x.at T) (fun v=>b6 (y.at T) (fun v'=>match v,v' with
    | .val (.bool a),.val (.bool b)=>K (.val (.bool (a == b))) H
    | _,_=>False) .mk) .mk:=propext Iff.rfl
theorem BQ (x y:SX) (K:V→View→Prop):wI P (.beq false x y) T H K=b6 (x.at T) (fun v=>b6 (y.at T) (fun v'=>match v,v' with
    | .val (.bool a),.val (.bool b)=>K (.val (.bool (a != b))) H
    | _,_=>False) .mk) .mk:=propext Iff.rfl
theorem EE (x y:SX) (K:V→View→Prop):wI P (.mm true x y) T H K=b6 (x.at T) (fun v=>b6 (y.at T) (fun v'=>match v,v' with
    | .val (.int k a),.val (.int _ b)=>K (.val (.int k (if b > a then b else a))) H
    | _,_=>False) .mk) .mk:=propext Iff.rfl
theorem Dm (x y:SX) (K:V→View→Prop):wI P (.mm false x y) T H K=b6 (x.at T) (fun v=>b6 (y.at T) (fun v'=>match v,v' with
    | .val (.int k a),.val (.int _ b)=>K (.val (.int k (if b < a then b else a))) H
    | _,_=>False) .mk) .mk:=propext Iff.rfl
theorem Cb (k:IntKind) (x:SX) (K:V→View→Prop):wI P (.conv k x) T H K=b6 (x.at T) (fun v=>match v with
    | .val (.int _ a)=>K (.val (.int k (k.wrap a))) H
    | _=>False) .mk:=propext Iff.rfl
theorem yY (n k:Nat) (o:cZ):View.set H n o k=if k=n then o else H k:=id rfl
theorem y0 (z:List V) (parts:List (Nat × Nat × SX)) (K:V→View→Prop):wI P (.build z parts) T H K=k6 (ae z (parts.map fun p=>(p.1,p.2.1,p.2.2.at T))) (fun o=>match o with
    | some cs=>K (.agg cs) H
    | none=>False) .mk:=propext Iff.rfl
theorem x8 (len sz:Nat) (z:List V) (parts:List (Nat × SX)) (K:V→View→Prop):wI P (.bf len sz z parts) T H K=k6 (ag sz (List.replicate len z) (parts.map fun p=>(p.1,p.2.at T))) (fun o=>match o with
    | some es=>∀ n,H n=.dead→K (.sl n 0 len sz) (H.set n (.arr sz es))
    | none=>False) .mk:=propext Iff.rfl
theorem Ak (sz:Nat) (x:SX) (lo hi:Option SX) (K:V→View→Prop):wI P (.slice sz x lo hi) T H K=k6 (oO sz (x.at T) (lo.map (SX.at T)) (hi.map (SX.at T))) (fun o=>match o with
    | some (v,.none,_)=>K v H
    | _=>False) .mk:=propext Iff.rfl
theorem A1 (sz bytes:Nat) (z:List V) (l c:SX) (K:V→View→Prop):wI P (.make sz bytes z l c) T H K=k6 (asNat (l.at T)) (fun a=>k6 (asNat (c.at T)) (fun b=>match a,b with
    | some l,some c=>(l≤c∧c < aZ∧bytes * c < aZ)∧(c=0→K (.emp 2) H)∧(c≠0→∀ n,H n=.dead→K (.sl n 0 l sz) (H.set n (.arr sz (List.replicate l z))))
    | _,_=>False) .mk) .mk:=propext Iff.rfl
def mb (sz bytes:Nat) (x:V) (xs:List (List V)) (H:View) (K:V→View→Prop) (_:bR (H,K)):Prop:=if xs.isEmpty=true then (match x with
        | .emp k=>K (.emp k) H
        | .cp=>K .cp H
        | .aP es=>K (.aP es) H
        | .sl a b c d=>K (.sl a b c d) H
        | _=>False)
      else (xs.all fun e=>e.length == sz && e.all aS)=true∧(match x with
        | .emp _=>(xs.length * bytes < aZ∧xs.length < aZ)∧∀ n,H n=.dead→K (.sl n 0 xs.length sz) (H.set n (.arr sz xs))
        | .sl id off len esz=>match H id with
          | .arr _ es=>(off+len≤es.length∧esz=sz∧(len+xs.length) * bytes < aZ∧len+xs.length < aZ) ∧
              ∀ n,H n=.dead→K (.sl n 0 (len+xs.length) esz) ((H.set id .dead).set n (.arr esz ((es.drop off).take len ++ xs)))
          | _=>False
        | _=>False)
theorem EZ (sz bytes:Nat) (x y:SX) (K:V→View→Prop):wI P (.app sz bytes x y) T H K=k6 (bH H (y.at T)) (fun o=>match o with
    | some (xs,_)=>mb sz bytes (x.at T) xs H K .mk
    | none=>False) .mk:=propext Iff.rfl
theorem sq (sz bytes k:Nat) (xs:List (List V)) (K:V→View→Prop) (w:bR (H,K)) (h0:xs.isEmpty=false):mb sz bytes (.emp k) xs H K w=((xs.all fun e=>e.length == sz && e.all aS)=true∧(xs.length * bytes < aZ∧xs.length < aZ)∧∀ n,H n=.dead→K (.sl n 0 xs.length sz) (H.set n (.arr sz xs))):=by
  unfold mb; rw[if_neg (by rw[h0]; simp)]
theorem tI (sz bytes id off len esz:Nat) (xs:List (List V)) (K:V→View→Prop) (w:bR (H,K)) (h0:xs.isEmpty=false):mb sz bytes (.sl id off len esz) xs H K w=((xs.all fun e=>e.length == sz && e.all aS)=true∧zB (H id) (fun o=>match o with
          | .arr _ es=>(off+len≤es.length∧esz=sz∧(len+xs.length) * bytes < aZ∧len+xs.length < aZ) ∧
              ∀ n,H n=.dead→K (.sl n 0 (len+xs.length) esz) ((H.set id .dead).set n (.arr esz ((es.drop off).take len ++ xs)))
          | _=>False) .mk):=by
  unfold mb zB; rw[if_neg (by rw[h0]; simp)]
theorem tx (es:List (List V)):bH H (.aP es)=some (es,[]):=id rfl
theorem tB (k:Nat):bH H (.emp k)=some ([],[]):=id rfl
theorem Ca (x:SX) (K:V→View→Prop):wI P (.wm x) T H K=b6 (x.at T) (fun v=>match v with
    | .aP es=>k6 (kV es) (fun o=>match o with
      | some l=>K (.val (.string ⟨l.toArray⟩)) H
      | none=>False) .mk
    | _=>False) .mk:=propext Iff.rfl
theorem BV (x:SX) (K:V→View→Prop):wI P (.dn x) T H K=b6 (x.at T) (fun v=>match v with
    | .val (.string s)=>K (.aP (dF s)) H
    | _=>False) .mk:=propext Iff.rfl
def sZ (P:Program) (op:Op) (ty:TypeId) (T:Env) (H:View) (K:V→View→Prop) (_:bR (T,H,K)):Prop:=wI P (.old op ty) T H K
theorem DU (op:Op) (ty:TypeId) (K:V→View→Prop):wI P (.old op ty) T H K=sZ P op ty T H K .mk:=propext Iff.rfl
theorem Ei (t:Nat):ev T (.tmp t)=T t:=id rfl
theorem zZ (v:Value):ev T (.const v)=dO v:=id rfl
theorem EX (t:Nat):(SX.tmp t).at T=T t:=id rfl
theorem Ff (v:V):(SX.val v).at T=v:=id rfl
theorem B7 (d t:Nat) (v:V):(T.put (some d) v) t=if t=d then v else T t:=id rfl
theorem Af (v:V):T.put none v=T:=id rfl
theorem zM (vs:List V) (t:Nat):gM vs t=vs.getD t .any:=id rfl
theorem uC (e:List V) (j:Nat) (K:V→Prop):fB none e j K=(j < e.length∧K (e.getD j .any)):=propext Iff.rfl
theorem uF (n:Nat) (e:List V) (j:Nat) (K:V→Prop):fB (some n) e j K=(j+n≤e.length∧K (.agg ((e.drop j).take n))):=propext Iff.rfl
theorem vf (a b:Prop):tl .normal a b=a:=propext Iff.rfl
theorem y9 (i:Nat) (a b:Prop):tl (.exit i) a b=b:=propext Iff.rfl
theorem Bd (a b:Prop):tl .ret a b=b:=propext Iff.rfl
theorem rS (i:Nat):kP i .normal=.normal:=id rfl
theorem xV (i:Nat):kP i .ret=.ret:=id rfl
theorem vp (i j:Nat):kP i (.exit j)=if j=i then .normal else .exit j:=by simp only[kP]
theorem B3 (acc:List V) (K:List V→Prop):uG T H [] acc K=K acc:=propext Iff.rfl
theorem yJ (r:SR) (l:List SR) (acc:List V) (K:List V→Prop):uG T H (r :: l) acc K=wR T H r fun v=>uG T H l (acc ++ [v]) K:=propext Iff.rfl
theorem Eb (t:Nat) (K:V→Prop):wR T H (.tmp t) K=K (T t):=propext Iff.rfl
theorem BK (t:Nat) (sz:Option Nat) (K:V→Prop):wR T H (.cell t sz) K=b6 (T t) (fun v=>match v with
    | .ptr id i j=>zB (H id) (fun o=>match o with
      | .arr _ es=>i < es.length∧vA (es.getD i []) (fun e=>fB sz e j K) .mk
      | _=>False) .mk
    | .aN e j=>fB sz e j K
    | _=>False) .mk:=propext Iff.rfl
theorem xq (t:Nat) (b:Bool):nK (.tmp t) b T=T.put (some t) (.val (.bool b)):=id rfl
theorem xn (v:V) (b:Bool):nK (.val v) b T=T:=id rfl
theorem DA:(Exit.ret=Exit.ret∨Exit.ret=Exit.normal)=True:=by simp
theorem x9:(Exit.normal=Exit.ret∨Exit.normal=Exit.normal)=True:=by simp
end
section
variable {P:Program} {T:Env} {H:View}
theorem bt.intro {c:SC} {Q:Exit→Env→View→Prop} {v:bR (T,H,Q)} (I:Nat→Env→View→Prop) (k:Nat) (h0:I k T H)
    (hs:∀ k T H,I k T H→wS P c T H fun e T' H'=>tl e (∃ k',k' < k∧I k' T' H') (Q e T' H')):bt P c T H Q v:=by
  simp only[bt,wS]
  exact ⟨I,⟨k,h0⟩,hs⟩
theorem aK.pure {q:Bool} {f:FuncId} {vs:List V} {K:V→View→Prop} {v:bR (H,K)} {t:V} (hc:az P f vs t) (hok:bQ P f=true) (hk:K t H):aK P q f vs H K v:=by
  unfold aK
  cases q with
  | true=>exact hc.FA hok hk
  | false =>
    refine ⟨hok,?_⟩
    rintro h rfl
    exact ⟨t,h,bm.eA hc h,.refl _,hk⟩
theorem aK.mJ {f:FuncId} {vs:List V} {K:V→View→Prop} {v:bR (H,K)} (hc:aA P f vs H K):aK P false f vs H K v:=hc
theorem xR:ax.view []=fun _=>cZ.dead:=by funext id; simp[ax.view]
theorem az.of {f:FuncId} {vs:List V} {t:V} (ht:∀ v∈vs,Tree v) (h:aA P f vs (fun _=>.dead) fun r H'=>∀ h':ax,h'.view=H'→Fr h' r t):az P f vs t:=by
  obtain ⟨r,h',ha,_,hf⟩:=h.2 [] xR
  exact az.ql ht ha (hf h' rfl)
theorem wrap64 {x:Int} (h1 : -9223372036854775808≤x) (h2:x≤9223372036854775807):IntKind.wrap .i64 x=x:=by
  unfold IntKind.wrap
  have e1:(2:Int) ^ IntKind.i64.bits=18446744073709551616:=by rfl
  have e2:(2:Int) ^ (IntKind.i64.bits - 1)=9223372036854775808:=by rfl
  have e3:IntKind.i64.signed=true:=by rfl
  simp only[e1,e2,e3,Bool.true_and,decide_eq_true_eq]
  split <;> omega
theorem xF {k:IntKind} {i:Int} (h:0≤i):asNat (.val (.int k i))=some i.toNat:=by simp[asNat,h]
end
theorem xk (v:Value):V.cells (.val v)=[.val v]:=id rfl
theorem wu (v:Value):aS (.val v)=true:=id rfl
theorem xl (k:Nat):V.cells (.emp k)=[.emp k]:=id rfl
theorem B5 (k:Nat):aS (.emp k)=true:=id rfl
theorem xu  : V.cells .cp=[.cp]:=id rfl
theorem A3  : aS .cp=true:=id rfl
theorem xh (es:List (List V)):V.cells (.aP es)=[.aP es]:=id rfl
theorem A8 (es:List (List V)):aS (.aP es)=true:=id rfl
theorem z8 (a b c d:Nat):V.cells (.sl a b c d)=[.sl a b c d]:=id rfl
theorem DI (a b c d:Nat):aS (.sl a b c d)=true:=id rfl
theorem xN (a b c:Nat):V.cells (.ptr a b c)=[.ptr a b c]:=id rfl
theorem BG (a b c:Nat):aS (.ptr a b c)=true:=id rfl
theorem vl (e:List V) (j:Nat):V.cells (.aN e j)=[.aN e j]:=id rfl
theorem yT (e:List V) (j:Nat):aS (.aN e j)=true:=id rfl
theorem yZ (a:Nat):V.cells (.mp a)=[.mp a]:=id rfl
theorem Dl (a:Nat):aS (.mp a)=true:=id rfl
theorem Ap (f:FuncId) (a b:List V):V.cells (.fn f a b)=[.fn f a b]:=id rfl
theorem EH (f:FuncId) (a b:List V):aS (.fn f a b)=true:=id rfl
theorem xL (cs:List V):V.cells (.agg cs)=cs:=id rfl
theorem Bx (k:Nat):dP (.emp k)=some 0:=id rfl
theorem B4:dP .cp=some 0:=id rfl
theorem BT (es:List (List V)):dP (.aP es)=some es.length:=id rfl
theorem Ep (a b c d:Nat):dP (.sl a b c d)=some c:=id rfl
abbrev Ir {p:Prop} (_:p):Prop:=p
abbrev Wr:Prop:=Ir (And.intro @Gy <| And.intro @Bn <| And.intro @xE <| And.intro @vh <| And.intro @vt <| And.intro @BS <| And.intro @z2 <| And.intro @Fh <|
    And.intro @Bo <| And.intro @zD <| And.intro @Bb <| And.intro @Ej <| And.intro @Ag <| And.intro @zb <| And.intro @BH <| And.intro @vS <| And.intro @rH <| And.intro @vw <| And.intro @x3 <| And.intro @yQ <| And.intro @uH <|
    And.intro @A5 <| And.intro @BZ <| And.intro @zP <| And.intro @Bj <|
    And.intro @Bf <| And.intro @yR <| And.intro @tc <| And.intro @rY <|
    And.intro @A7 <| And.intro @Ac <| And.intro @Gr <| And.intro @Bq <|
    And.intro @EC <| And.intro @BB <| And.intro @D6 <| And.intro @Eh <|
    And.intro @zN <| And.intro @Ba <| And.intro @yH <| And.intro @zO <|
    And.intro @BW <| And.intro @BI <| And.intro @y1 <| And.intro @Du <|
    And.intro @Be <| And.intro @za <| And.intro @ED <| And.intro @E9 <|
    And.intro @AW <| And.intro @Ao <| And.intro @GF <| And.intro @Ek <| And.intro @B1 <|
    And.intro @E2 <| And.intro @DH <| And.intro @B6 <| And.intro @BQ <|
    And.intro @EE <| And.intro @Dm <| And.intro @Cb <| And.intro @Ca <|
    And.intro @BV <| And.intro @y0 <| And.intro @x8 <| And.intro @Ak <|
    And.intro @A1 <| And.intro @EZ <| And.intro @DU <| And.intro @Ei <| And.intro @zZ <| And.intro @EX <| And.intro @Ff <|
    And.intro @B7 <| And.intro @Af <| And.intro @zM <| And.intro @uC <|
    And.intro @uF <| And.intro @vf <| And.intro @y9 <| And.intro @Bd <|
    And.intro @rS <| And.intro @xV <| And.intro @vp <| And.intro @B3 <|
    And.intro @yJ <| And.intro @Eb <| And.intro @BK <| And.intro @xq @xn)
theorem wr:Wr:=(And.intro @Gy <| And.intro @Bn <| And.intro @xE <| And.intro @vh <| And.intro @vt <| And.intro @BS <| And.intro @z2 <| And.intro @Fh <|
    And.intro @Bo <| And.intro @zD <| And.intro @Bb <| And.intro @Ej <| And.intro @Ag <| And.intro @zb <| And.intro @BH <| And.intro @vS <| And.intro @rH <| And.intro @vw <| And.intro @x3 <| And.intro @yQ <| And.intro @uH <|
    And.intro @A5 <| And.intro @BZ <| And.intro @zP <| And.intro @Bj <|
    And.intro @Bf <| And.intro @yR <| And.intro @tc <| And.intro @rY <|
    And.intro @A7 <| And.intro @Ac <| And.intro @Gr <| And.intro @Bq <|
    And.intro @EC <| And.intro @BB <| And.intro @D6 <| And.intro @Eh <|
    And.intro @zN <| And.intro @Ba <| And.intro @yH <| And.intro @zO <|
    And.intro @BW <| And.intro @BI <| And.intro @y1 <| And.intro @Du <|
    And.intro @Be <| And.intro @za <| And.intro @ED <| And.intro @E9 <|
    And.intro @AW <| And.intro @Ao <| And.intro @GF <| And.intro @Ek <| And.intro @B1 <|
    And.intro @E2 <| And.intro @DH <| And.intro @B6 <| And.intro @BQ <|
    And.intro @EE <| And.intro @Dm <| And.intro @Cb <| And.intro @Ca <|
    And.intro @BV <| And.intro @y0 <| And.intro @x8 <| And.intro @Ak <|
    And.intro @A1 <| And.intro @EZ <| And.intro @DU <| And.intro @Ei <| And.intro @zZ <| And.intro @EX <| And.intro @Ff <|
    And.intro @B7 <| And.intro @Af <| And.intro @zM <| And.intro @uC <|
    And.intro @uF <| And.intro @vf <| And.intro @y9 <| And.intro @Bd <|
    And.intro @rS <| And.intro @xV <| And.intro @vp <| And.intro @B3 <|
    And.intro @yJ <| And.intro @Eb <| And.intro @BK <| And.intro @xq @xn)
abbrev Wq:Prop:=Ir (And.intro @eq_self.{1} <| And.intro @ne_eq.{1} <| And.intro @implies_true.{1} <| And.intro @implies_true.{0} <| And.intro @decide_true <| And.intro @decide_false <| And.intro @BM <| And.intro @Bc <| And.intro @zS <| And.intro @yI <| And.intro @zj <| And.intro @zp <| And.intro @BJ <| And.intro @D8 <| And.intro @Er <| And.intro @Dy <| And.intro @Bk <| And.intro @Bz <| And.intro @BX <| And.intro @xk <| And.intro @wu <| And.intro @xl <| And.intro @B5 <| And.intro @xu <| And.intro @A3 <| And.intro @xh <| And.intro @A8 <| And.intro @z8 <| And.intro @DI <| And.intro @xN <| And.intro @BG <| And.intro @vl <| And.intro @yT <| And.intro @yZ <| And.intro @Dl <| And.intro @Ap <| And.intro @EH <| And.intro @xL <| And.intro @Bx <| And.intro @B4 <| And.intro @BT <| And.intro @Ep <| And.intro @true_or <| And.intro @or_true <| And.intro @or_false <| And.intro @false_or <|
    And.intro @Io <| And.intro @AZ <| And.intro @BD <| And.intro @Br <|
    And.intro @B2 <| And.intro @DY <| And.intro @Bi <| And.intro @zF <|
    And.intro @EB <| And.intro @Dg <| And.intro @Bp <| And.intro @BU <|
    And.intro @BO <| And.intro @Bm <| And.intro @zR <| And.intro @Ad <|
    And.intro @xt <| And.intro @BN <| And.intro @List.getD_cons_zero.{0} <| And.intro @List.getD_cons_succ.{0} <|
    And.intro @List.length_cons.{0} <| And.intro @List.length_nil.{0} <| And.intro @List.length_map.{0,0} <| And.intro @wrap64 <|
    And.intro @true_and <| And.intro @and_true <| And.intro @and_self <| And.intro @decide_eq_true_eq <|
    And.intro @decide_eq_false_iff_not <| And.intro @List.all_cons.{0} <| And.intro @List.all_nil.{0} <| And.intro @Bool.and_self <|
    And.intro @List.nil_append.{0} <| And.intro @List.cons_append.{0} <| And.intro @Nat.zero_add <| And.intro @xF <|
    And.intro @Int.toNat_natCast <| And.intro @DA <| And.intro @x9 <| And.intro @bne_iff_ne.{0} <|
    And.intro @beq_iff_eq.{0} <| And.intro @Bool.not_eq_true <| And.intro @Bool.not_true <| And.intro @Bool.not_false <|
    And.intro @List.append_nil.{0} <| And.intro @List.map_cons.{0,0} <| And.intro @List.map_nil.{0,0} <| And.intro @Bool.true_eq_false <|
    And.intro @Bool.false_eq_true <| And.intro @false_implies <| And.intro @true_implies <| And.intro @Bool.not_not <|
    And.intro @List.drop_zero.{0} <| And.intro @yY <| And.intro @List.set_cons_zero.{0} <| And.intro @List.set_cons_succ.{0} <|
    And.intro @List.drop_nil.{0} <| And.intro @Nat.add_zero <| And.intro @List.replicate_zero.{0} <| And.intro @List.replicate_succ.{0} <|
    And.intro @tx <| And.intro @tB <| And.intro @sq <| And.intro @tI <|
    And.intro @List.isEmpty_cons.{0} <| And.intro @Option.map_none.{0,0} <| And.intro @Option.map_some.{0,0} <| And.intro @Nat.succ_ne_zero <|
    And.intro @List.take_succ_cons.{0} <| And.intro @List.take_zero.{0} <| And.intro @List.drop_succ_cons.{0} <| And.intro @bne_eq_false_iff_eq.{0} <|
    And.intro @beq_eq_false_iff_ne.{0} <| And.intro @not_true_eq_false <| And.intro @not_false_eq_true @Decidable.not_not)
theorem wq:Wq:=(And.intro @eq_self.{1} <| And.intro @ne_eq.{1} <| And.intro @implies_true.{1} <| And.intro @implies_true.{0} <| And.intro @decide_true <| And.intro @decide_false <| And.intro @BM <| And.intro @Bc <| And.intro @zS <| And.intro @yI <| And.intro @zj <| And.intro @zp <| And.intro @BJ <| And.intro @D8 <| And.intro @Er <| And.intro @Dy <| And.intro @Bk <| And.intro @Bz <| And.intro @BX <| And.intro @xk <| And.intro @wu <| And.intro @xl <| And.intro @B5 <| And.intro @xu <| And.intro @A3 <| And.intro @xh <| And.intro @A8 <| And.intro @z8 <| And.intro @DI <| And.intro @xN <| And.intro @BG <| And.intro @vl <| And.intro @yT <| And.intro @yZ <| And.intro @Dl <| And.intro @Ap <| And.intro @EH <| And.intro @xL <| And.intro @Bx <| And.intro @B4 <| And.intro @BT <| And.intro @Ep <| And.intro @true_or <| And.intro @or_true <| And.intro @or_false <| And.intro @false_or <|
    And.intro @Io <| And.intro @AZ <| And.intro @BD <| And.intro @Br <|
    And.intro @B2 <| And.intro @DY <| And.intro @Bi <| And.intro @zF <|
    And.intro @EB <| And.intro @Dg <| And.intro @Bp <| And.intro @BU <|
    And.intro @BO <| And.intro @Bm <| And.intro @zR <| And.intro @Ad <|
    And.intro @xt <| And.intro @BN <| And.intro @List.getD_cons_zero.{0} <| And.intro @List.getD_cons_succ.{0} <|
    And.intro @List.length_cons.{0} <| And.intro @List.length_nil.{0} <| And.intro @List.length_map.{0,0} <| And.intro @wrap64 <|
    And.intro @true_and <| And.intro @and_true <| And.intro @and_self <| And.intro @decide_eq_true_eq <|
    And.intro @decide_eq_false_iff_not <| And.intro @List.all_cons.{0} <| And.intro @List.all_nil.{0} <| And.intro @Bool.and_self <|
    And.intro @List.nil_append.{0} <| And.intro @List.cons_append.{0} <| And.intro @Nat.zero_add <| And.intro @xF <|
    And.intro @Int.toNat_natCast <| And.intro @DA <| And.intro @x9 <| And.intro @bne_iff_ne.{0} <|
    And.intro @beq_iff_eq.{0} <| And.intro @Bool.not_eq_true <| And.intro @Bool.not_true <| And.intro @Bool.not_false <|
    And.intro @List.append_nil.{0} <| And.intro @List.map_cons.{0,0} <| And.intro @List.map_nil.{0,0} <| And.intro @Bool.true_eq_false <|
    And.intro @Bool.false_eq_true <| And.intro @false_implies <| And.intro @true_implies <| And.intro @Bool.not_not <|
    And.intro @List.drop_zero.{0} <| And.intro @yY <| And.intro @List.set_cons_zero.{0} <| And.intro @List.set_cons_succ.{0} <|
    And.intro @List.drop_nil.{0} <| And.intro @Nat.add_zero <| And.intro @List.replicate_zero.{0} <| And.intro @List.replicate_succ.{0} <|
    And.intro @tx <| And.intro @tB <| And.intro @sq <| And.intro @tI <|
    And.intro @List.isEmpty_cons.{0} <| And.intro @Option.map_none.{0,0} <| And.intro @Option.map_some.{0,0} <| And.intro @Nat.succ_ne_zero <|
    And.intro @List.take_succ_cons.{0} <| And.intro @List.take_zero.{0} <| And.intro @List.drop_succ_cons.{0} <| And.intro @bne_eq_false_iff_eq.{0} <|
    And.intro @beq_eq_false_iff_ne.{0} <| And.intro @not_true_eq_false <| And.intro @not_false_eq_true @Decidable.not_not)
inductive ub:V→Prop
  | val (v:Value):ub (.val v)
  | bg (cs:List V):(∀ i,i < cs.length→∃ v,cs.getD i .any=.val v)→ub (.bg cs)
theorem FM {Z Z':Nat→Prop} {μ μ':Mu} {hp hp':Array Obj} {t:V} {x:Value} (hf:ub t) (h:au Z μ hp t x):au Z' μ' hp' t x:=by
  cases hf with
  | val=>cases h with | val _ hv=>exact .val _ hv
  | bg cs hc =>
    cases h with
    | bg _ aas h1 h2 =>
      refine .bg _ _ h1 fun i hi=>?_
      have:=h2 i hi
      obtain ⟨v,hv⟩:=hc i hi
      rw[hv] at this ⊢
      generalize aas.getD i undef=y at this ⊢
      cases this with | val _ hv=>exact .val _ hv
theorem bm.borrow {P:Program} {f:FuncId} {ts vs:List V} {t:V} {h:ax} (hc:az P f ts t) (hf:ub t) (hl:ts.length=vs.length)
    (hfr:∀ i,i < vs.length→Fr h (vs.getD i .any) (ts.getD i .any)):bm P f vs h t h:=by
  refine ⟨Nat.le_refl _,fun Z μ F w xs hrel hr hfree=>?_⟩
  have hts:dA (fun b=>Z b∨eS μ b) μ w.heap ts xs:=⟨by rw[hl,hrel.1],fun i hi=>vr hr (hfr i (by omega)) (hrel.2 i (by omega))⟩
  have hzl:∀ b,(Z b∨eS μ b)→b < w.heap.size:=by
    rintro b (hb | ⟨id,o,s,hb⟩)
    · exact hr.bB b hb
    · exact hr.lt _ _ _ _ hb
  refine (hc _ μ w xs hts hzl).mono ?_
  rintro e w' ⟨x,Z',rfl,hv,hs,hz,hz',ho⟩
  have hm:dT Z Z μ μ w.heap w'.heap:=⟨fun _ h=>h,fun b hb=>ho b (hr.bB b hb) (fun x=>x),fun _ _ h=>h,ho.ll⟩
  exact ⟨x,Z,μ,rfl,FM hf (hv μ),⟨fun id=>(hr.obj id).mono hm rfl (fun b o s hx=>ho b (hr.lt _ _ _ _ hx) (fun x=>x)),hr.inj,fun id b o s hx=>Nat.lt_of_lt_of_le (hr.lt _ _ _ _ hx) hs.size,fun b hb=>Nat.lt_of_lt_of_le (hr.bB b hb) hs.size,hr.ee⟩,
    ⟨hs,hm,fun b hb _=>ho b hb (fun x=>x),fun b hb=>.inl hb,fun _ _ _ _ h=>.inl h⟩,fun _ _=>rfl⟩
def fS (H:View) (v t:V):Prop:=∀ h:ax,h.view=H→Fr h v t
theorem fS.tree {H:View} {v:V} (h:Tree v):fS H v v:=fun _ _=>.tree _ h
theorem fS.sl {H:View} {id off len esz z:Nat} {es:List (List V)} (hH:H id=.arr z es) (hle:off+len≤es.length) (ht:∀ e∈es,∀ v∈e,Tree v) :
    fS H (.sl id off len esz) (.aP ((es.drop off).take len)):=by
  rintro h rfl
  have hg:∀ i,i < len→((es.drop off).take len).getD i []=es.getD (off+i) []:=fun i hi=>by
    simp[List.getD_eq_getElem?_getD,List.getElem?_take,hi]
  refine .sl id off len esz z es _ hH hle (by simp; omega) (fun i hi=>by rw[hg i hi]) (fun i j hi hj=>?_)
  rw[hg i hi] at hj ⊢
  refine .tree _ ?_
  have h1:off+i < es.length:=by omega
  have e1:es.getD (off+i) []=es[off+i]:=by simp[List.getD_eq_getElem?_getD,h1]
  rw[e1] at hj ⊢
  have e2:(es[off+i]).getD j .any=(es[off+i])[j]:=by simp[List.getD_eq_getElem?_getD,hj]
  rw[e2]
  exact ht _ (List.getElem_mem _) _ (List.getElem_mem _)
theorem aK.borrow {P:Program} {q:Bool} {f:FuncId} {H:View} {vs ts:List V} {K:V→View→Prop} {v:bR (H,K)} {t:V} (hc:az P f ts t) (hok:bQ P f=true) (hf:ub t) (hl:ts.length=vs.length)
    (hfr:∀ i,i < vs.length→fS H (vs.getD i .any) (ts.getD i .any)) (hk:K t H):aK P q f vs H K v:=by
  unfold aK
  cases q with
  | true=>exact ⟨hok,fun h e=>⟨t,h,bm.borrow hc hf hl (fun i hi=>hfr i hi h e),fun _ _=>rfl,e ▸ hk⟩⟩
  | false =>
    refine ⟨hok,?_⟩
    rintro h rfl
    exact ⟨t,h,bm.borrow hc hf hl (fun i hi=>hfr i hi h rfl),.refl _,hk⟩
abbrev gi (x:Int):V:=.val (.int .i64 x)
abbrev gb (x:Bool):V:=.val (.bool x)
abbrev gs (x:ByteArray):V:=.val (.string x)
theorem mixed:(Tryz.prog).follows .mixedOrders=true:=by kernel_rfl
def encI (l:List Int):V:=.aP (l.map fun x=>[gi x])
def cB (l:List Bool):V:=.aP (l.map fun x=>[gb x])
theorem nG (l:List Int):Tree (encI l):=by
  refine .aP _ fun i j hi hj=>?_
  simp only[List.length_map] at hi
  simp[List.getD_eq_getElem?_getD,hi] at hj ⊢
  subst hj
  exact .val _
def aU {α:Type} (l:List α):Prop:=l.length < 4611686018427387904
theorem iK (l:List Bool):Tree (cB l):=by
  refine .aP _ fun i j hi hj=>?_
  simp only[List.length_map] at hi
  simp[List.getD_eq_getElem?_getD,hi] at hj ⊢
  subst hj
  exact .val _
end Gv
