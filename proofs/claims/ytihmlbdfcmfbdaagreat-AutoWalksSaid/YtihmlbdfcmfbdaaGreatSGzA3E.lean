/-
  Part 5 of the proof: what the machine does and what the functions answer.
  Conditions: those that each lemma names.
-/
import Derived.Test.YtihmlbdfcmfbdaaGreatProg
import Derived.KernelRfl
import Derived.Test.YtihmlbdfcmfbdaaGreatSGzA3D
set_option linter.unusedSimpArgs false
set_option linter.unusedVariables false
set_option maxRecDepth 100000
namespace Gv
open Go Go.Proofs
section
variable {P:Program} {n:Nat} {all:List Oper}
theorem Gz (h:av):h.view h.length=.dead:=by simp[av.view,List.getD_eq_getElem?_getD]
theorem Jc {o:Oper} {T:Env} {h:av} {s:SI} {K:V→View→Prop} (hg:bU n all T o=some true) (hc:∀ v au rd,sI P s T h.view h.length=some (v,au,rd)→bt P o T h.view h.length=some (v,au,rd)) (hw:wI P s T h.view K) :
    ∃ v h' rd wr,cg P n all o T h v h' rd wr false∧fa h h'∧K v h'.view∧gR (nE P s) rd wr false h.length h'.length:=by
  obtain ⟨v,au,rd,hs,hk⟩:=I9 hw (Gz h)
  have ha:=hc _ _ _ hs
  have hlive:∀ id,id∈au.wr→h.view id≠.dead:=fun id hid=>(iP ha id hid).1
  refine ⟨v,au.apply h,rd,au.wr,.op hg ha,?_,?_,?_,?_⟩
  · intro id hid hd
    rw[hU hlive]
    cases au with
    | none=>exact hd
    | new o=>simp only[aM.view,View.set]; rw[if_neg (by omega)]; exact hd
    | ec k o =>
      simp only[aM.view,View.set]
      rw[if_neg (by rintro rfl; exact hlive id (by simp[aM.wr]) hd)]; exact hd
    | bc k o =>
      simp only[aM.view,View.set]
      rw[if_neg (by omega)]
      split
      · rfl
      · exact hd
  · rw[hU (fun id hid=>(iP ha id hid).1)]; exact hk
  · intro h0
    obtain ⟨rfl,rfl⟩:=(l5 hs).1 h0
    exact ⟨rfl,rfl,rfl,rfl⟩
  · intro h1
    rcases Nat.lt_or_ge (nE P s) 1 with h2 | h2
    · obtain ⟨rfl,rfl⟩:=(l5 hs).1 (by omega); rfl
    · exact (l5 hs).2 (by omega)
theorem Cf {P:Program} {fr:Bool} {s:SI} {T:Env} {H:View} {n:Nat} {v:V} {au:aM} {rd:List Nat} (h:sI P (se P fr s) T H n=some (v,au,rd)):sI P s T H n=some (v,au,rd):=by
  unfold se at h
  split at h
  · split at h
    · exact GO h
    · exact h
  · split at h
    · rename_i hc
      simp only[Bool.and_eq_true] at hc
      exact H9 hc.2 h
    · exact h
  · exact h
theorem sR (P:Program) (fz:Fz) (o:Oper) :
    (∃ f args ats,o.op=.call { callee:=.value f,args:=args,argTypes:=ats }∧jw P fz o=.call (SX.of f) (args.toList.map SX.of)) ∨
    (∃ t x,o.op=.box t x∧jw P fz o=.op (.fq (SX.of x)))∨(∃ s d x,o.op=.convert s d x∧oV P s d=true∧jw P fz o=.op (.dG (SX.of x)))∨jw P fz o=.op (se P fz.fr (comp P o)):=by
  unfold jw
  split
  · rename_i f args ats ho; exact .inl ⟨f,args,ats,ho,rfl⟩
  · rename_i t x ho
    by_cases hd:(match o.dst with | some d=>fz.l.contains d | none=>false)=true
    · exact .inr (.inl ⟨t,x,ho,if_pos hd⟩)
    · refine .inr (.inr (.inr ?_))
      refine (if_neg hd).trans ?_
      simp only[comp,ho,se]
  · rename_i s d x ho
    by_cases hd:((match o.dst with | some d=>fz.l.contains d | none=>false) && oV P s d)=true
    · exact .inr (.inr (.inl ⟨s,d,x,ho,by simp only[Bool.and_eq_true] at hd; exact hd.2,if_pos hd⟩))
    · exact .inr (.inr (.inr (if_neg hd)))
  · exact .inr (.inr (.inr rfl))
theorem cg.len {o:Oper} {T:Env} {h h':av} {v:V} {rd wr:List Nat} {call:Bool} (st:cg P n all o T h v h' rd wr call):h.length≤h'.length:=by
  cases st with
  | skip=>exact Nat.le_refl _
  | op _ _=>rename_i au _ _ ; cases au <;> simp[aM.apply]
  | fq _ _ _=>exact Nat.le_refl _
  | dG _ _ _ _ _ _=>exact Nat.le_refl _
  | call _ _ _ _ ha _ _=>exact ha.1
theorem HE {fz:Fz} {o:Oper} {T:Env} {h:av} {quiet:Bool} {K:V→View→Prop} (hg:bU n all T o=some true) (hw:wB P quiet (jw P fz o) T h.view K) :
    ∃ v h' rd wr call,cg P n all o T h v h' rd wr call∧fa h h'∧K v h'.view∧gR (ff P quiet (jw P fz o)) rd wr call h.length h'.length:=by
  rcases sR P fz o with ⟨f,args,ats,ho,hc⟩ | ⟨t,x,ho,hc⟩ | ⟨s,d,x,ho,hcv,hc⟩ | hc
  · rw[hc] at hw ⊢
    simp only[wB] at hw
    split at hw
    · rename_i g first cap hf
      rw[zV] at hw
      rw[SX.bE] at hf
      split at hw
      · rename_i hq
        obtain ⟨hok,hq'⟩:=hw
        obtain ⟨r,h',hr,hold,hk⟩:=hq' h rfl
        refine ⟨r,h',[],[],true,.call hg ho hf hok hr (fun id hid _=>hold id hid) (fun id hid=>by simp at hid),fun id hid hd=>(hold id hid).trans hd,hk,?_,?_⟩
        · intro h0; simp[ff,hq] at h0
        · intro _; rfl
      · rename_i hq
        obtain ⟨hok,hq'⟩:=hw
        obtain ⟨r,h',hr,hst,hk⟩:=hq' h rfl
        refine ⟨r,h',[],List.range h.length,true,.call hg ho hf hok hr (fun id hid hn=>?_) (fun id hid=>by simpa using hid),hst,hk,Hf (by simp[ff,hq])⟩
        exact absurd (by simpa using hid) hn
    · exact hw.elim
  · rw[hc] at hw ⊢
    simp only[wB,wI,SX.bE] at hw
    exact ⟨_,h,[],[],false,.fq hg ho hw.1,.refl _,hw.2,fun _=>⟨rfl,rfl,rfl,rfl⟩,fun _=>rfl⟩
  · rw[hc] at hw ⊢
    simp only[wB,wI,SX.bE] at hw
    obtain ⟨e,h1,h2,h3⟩:=sZ hcv
    split at hw
    · rename_i st hx
      exact ⟨_,h,[],[],false,.dG hg ho h1 h2 h3 hx,.refl _,hw,fun _=>⟨rfl,rfl,rfl,rfl⟩,fun _=>rfl⟩
    · exact hw.elim
  · rw[hc] at hw ⊢
    obtain ⟨v,h',rd,wr,h1,h0,h2,h3⟩:=Jc (s:=se P fz.fr (comp P o)) hg (fun v au rd hs=>Bt (Cf hs)) hw
    exact ⟨v,h',rd,wr,false,h1,h0,h2,h3⟩
def dC (P:Program) (quiet:Bool) (l:List SO) (recs:List Rec):Prop :=
  l.length=recs.length∧∀ (i:Nat) (s:SO) (r:Rec),l[i]?=some s→recs[i]?=some r→gR (ff P quiet s.b) r.rd r.wr r.call r.lo r.hi
theorem dC.nil {quiet:Bool} : dC P quiet [] []:=⟨rfl,fun i s r h=>by simp at h⟩
theorem dC.cons {quiet:Bool} {l:List SO} {recs:List Rec} {s:SO} {r:Rec} (h:dC P quiet l recs) (hr:gR (ff P quiet s.b) r.rd r.wr r.call r.lo r.hi):dC P quiet (s :: l) (r :: recs):=by
  refine ⟨by simp[h.1],fun i s' r' hs hr'=>?_⟩
  cases i with
  | zero=>simp at hs hr'; subst hs hr'; exact hr
  | succ i=>exact h.2 i s' r' (by simpa using hs) (by simpa using hr')
theorem dC.append {quiet:Bool} {l l':List SO} {recs recs':List Rec} (h:dC P quiet l recs) (h':dC P quiet l' recs'):dC P quiet (l ++ l') (recs ++ recs'):=by
  refine ⟨by simp[h.1,h'.1],fun i s r hs hr=>?_⟩
  by_cases hi:i < l.length
  · rw[List.getElem?_append_left hi] at hs
    rw[List.getElem?_append_left (h.1 ▸ hi)] at hr
    exact h.2 i s r hs hr
  · rw[List.getElem?_append_right (by omega)] at hs
    rw[List.getElem?_append_right (by have:=h.1; omega)] at hr
    exact h'.2 (i - l.length) s r hs (by rw[h.1]; exact hr)
theorem nF {fz:Fz} {o:Oper} {s:SO} (h:yN P n all fz o=some s):lV n o=true∧s.dst=o.dst∧s.b=jw P fz o∧oy n all o=some s.guard:=by
  unfold yN at h
  split at h
  · rename_i hd
    simp only[Option.map_eq_some_iff] at h
    obtain ⟨g,hg,rfl⟩:=h
    exact ⟨hd,rfl,rfl,hg⟩
  · simp at h
theorem vN {o:Oper} {T:Env} (h:oy n all o=some none):bU n all T o=some true:=by
  unfold oy at h
  unfold bU
  split at h
  · rename_i hg; rw[hg]
  · split at h
    · split at h
      · simp at h
      · simp at h
    · simp at h
theorem gS {o:Oper} {T:Env} {d:Nat} {want:Bool} (h:oy n all o=some (some (d,want))) :
    (∀ b,T d=.val (.bool b)→bU n all T o=some (b == want))∧(T d=.aV []→bU n all T o=some false):=by
  unfold oy at h
  unfold bU
  split at h
  · simp at h
  · rename_i j w hg
    rw[hg]
    split at h
    · rename_i d' hd
      split at h
      · rename_i hlt
        simp at h
        obtain ⟨rfl,rfl⟩:=h
        simp only[hd,hlt,if_true]
        exact ⟨fun b hb=>by rw[hb],fun hb=>by rw[hb]⟩
      · simp at h
    · simp at h
theorem gX {fz:Fz} {os:List Oper} (h:ca P n all fz os=some []):os=[]:=by
  cases os with
  | nil=>rfl
  | cons o r =>
    simp only[ca] at h
    split at h <;> simp at h
theorem iB {fz:Fz} {os:List Oper} {s:SO} {l:List SO} (h:ca P n all fz os=some (s :: l)):∃ o r,os=o :: r∧yN P n all fz o=some s∧ca P n all fz r=some l:=by
  cases os with
  | nil=>simp[ca] at h
  | cons o r =>
    simp only[ca] at h
    split at h
    · rename_i s' l' h1 h2
      simp at h
      obtain ⟨rfl,rfl⟩:=h
      exact ⟨o,r,rfl,h1,h2⟩
    · simp at h
theorem lA {fz:Fz} : ∀ {l l':List SO} {os:List Oper},ca P n all fz os=some (l ++ l')→∃ a b,os=a ++ b∧ca P n all fz a=some l∧ca P n all fz b=some l'
  | [],l',os,h=>⟨[],os,rfl,rfl,h⟩
  | s :: l,l',os,h=>by
    obtain ⟨o,r,rfl,h1,h2⟩:=iB h
    obtain ⟨a,b,rfl,h3,h4⟩:=lA h2
    exact ⟨o :: a,b,rfl,by simp[ca,h1,h3],h4⟩
theorem Tr.append {a b:List Oper} {T T1 T2:Env} {h h1 h2:av} {r1 r2:List Rec} (x:Tr P n all a T h r1 T1 h1) (y:Tr P n all b T1 h1 r2 T2 h2):Tr P n all (a ++ b) T h (r1 ++ r2) T2 h2:=by
  induction x with
  | nil=>exact y
  | cons st hd _ ih=>exact .cons st hd (ih y)
theorem tD {T:Env} {d:Nat} {v:V} (h:T d=v):T.put (some d) v=T:=by
  funext t
  simp only[Env.put]
  split
  · rename_i e; subst e; exact h.symm
  · rfl
theorem zE {fz:Fz} {quiet:Bool} {K:Env→View→Prop} (g:Option (Nat × Bool)):∀ (l:List (Option Nat × SB)) (os:List Oper) (T:Env) (h:av),
    ca P n all fz os=some (l.map fun (d,b)=>⟨d,g,b⟩)→(∀ d w,g=some (d,w)→T d=.val (.bool w)∧(l.all fun x=>x.1 != some d)=true)→qZ P quiet l T h.view K →
    ∃ recs T' h',Tr P n all os T h recs T' h'∧(fa h h'∧h.length≤h'.length)∧K T' h'.view∧dC P quiet (l.map fun (d,b)=>⟨d,g,b⟩) recs
  | [],os,T,h,hc,hg,hw=>by
    have:=gX hc; subst this
    exact ⟨[],T,h,.nil,⟨.refl _,Nat.le_refl _⟩,hw,.nil⟩
  | (d,b) :: l,os,T,h,hc,hg,hw=>by
    obtain ⟨o,r,rfl,h1,h2⟩:=iB hc
    obtain ⟨hd,hd1,hb1,hg1⟩:=nF h1
    simp only at hd1 hb1 hg1
    have hgv:bU n all T o=some true:=by
      cases g with
      | none=>exact vN hg1
      | some p =>
        obtain ⟨d',w⟩:=p
        have:=(gS (T:=T) hg1).1 w (hg d' w rfl).1
        rw[this]; simp
    simp only[qZ] at hw
    rw[hb1] at hw
    obtain ⟨v,h',rd,wr,call,st,hst,hk,hl⟩:=HE hgv hw
    obtain ⟨recs,T',h'',tr,hst',hk',hro⟩:=zE g l r (T.put d v) h' h2 (fun d' w e=>by
      have:=hg d' w e
      simp only[List.all_cons,Bool.and_eq_true,bne_iff_ne,ne_eq] at this
      refine ⟨?_,this.2.2⟩
      rw[← this.1]
      cases d with
      | none=>rfl
      | some t=>simp only[Env.put]; rw[if_neg]; intro e; subst e; exact this.2.1 rfl) hk
    rw[hd1] at tr
    have hlen:=st.len
    exact ⟨_,T',h'',.cons st hd tr,⟨hst.trans hst'.1 hlen,Nat.le_trans hlen hst'.2⟩,hk',hro.cons (by rw[hb1]; exact hl)⟩
theorem wh {fz:Fz} {quiet:Bool} (d:Nat) (w:Bool) (h:av):∀ (l:List (Option Nat × SB)) (os:List Oper) (T:Env),
    ca P n all fz os=some (l.map fun (d',b)=>⟨d',some (d,w),b⟩)→(T d=.val (.bool !w)∨T d=.aV [])→(l.all fun x=>x.1 != some d)=true →
    ∃ recs,Tr P n all os T h recs (eR l T) h∧dC P quiet (l.map fun (d',b)=>⟨d',some (d,w),b⟩) recs
  | [],os,T,hc,hd,hl=>by
    have:=gX hc; subst this
    exact ⟨[],.nil,.nil⟩
  | (d',b) :: l,os,T,hc,hd,hl=>by
    obtain ⟨o,r,rfl,h1,h2⟩:=iB hc
    obtain ⟨hd0,hd1,hb1,hg1⟩:=nF h1
    simp only at hd1 hb1 hg1
    have hgv:bU n all T o=some false:=by
      rcases hd with hd | hd
      · rw[(gS (T:=T) hg1).1 _ hd]; cases w <;> rfl
      · exact (gS (T:=T) hg1).2 hd
    simp only[List.all_cons,Bool.and_eq_true,bne_iff_ne,ne_eq] at hl
    obtain ⟨recs,tr,hro⟩:=wh d w h l r (T.put d' (.aV [])) h2 (by
      have:(T.put d' (.aV [])) d=T d:=by
        cases d' with
        | none=>rfl
        | some t=>simp only[Env.put]; rw[if_neg]; intro e; subst e; exact hl.1 rfl
      rw[this]; exact hd) hl.2
    rw[hd1] at tr
    refine ⟨_,?_,hro.cons (r:=⟨[],[],false,h.length,h.length⟩) ⟨fun _=>⟨rfl,rfl,rfl,rfl⟩,fun _=>rfl⟩⟩
    have:=Tr.cons (.skip hgv) hd0 tr
    rw[eR,hd1]
    exact this
theorem I4 {fz:Fz} {quiet:Bool} {K:Env→View→Prop} {g:SG} {os:List Oper} {T:Env} {h:av} (hc:ca P n all fz os=some g.flat) (hok:nD g=true) (hw:wG P quiet g T h.view K) :
    ∃ recs T' h',Tr P n all os T h recs T' h'∧(fa h h'∧h.length≤h'.length)∧K T' h'.view∧dC P quiet g.flat recs:=by
  unfold wG at hw
  unfold SG.flat at hc ⊢
  unfold nD at hok
  split at hw
  · rename_i hg
    rw[hg] at hc ⊢
    exact zE none g.ops os T h hc (fun d w e=>by simp at e) hw
  · rename_i d want hg
    rw[hg] at hc hok ⊢
    simp only at hok
    split at hw
    · rename_i b hb
      by_cases e:b=want
      · subst e
        have:=hw.1 rfl
        rw[tD hb] at this
        exact zE (some (d,b)) g.ops os T h hc (fun d' w e=>by simp at e; obtain ⟨rfl,rfl⟩:=e; exact ⟨hb,hok⟩) this
      · have e':b = !want:=by cases b <;> cases want <;> simp_all
        have:=hw.2 e'
        subst e'
        rw[tD hb] at this
        obtain ⟨recs,tr,hro⟩:=wh (quiet:=quiet) d want h g.ops os T hc (.inl hb) hok
        exact ⟨recs,_,h,tr,⟨.refl _,Nat.le_refl _⟩,this,hro⟩
    · rename_i hb
      obtain ⟨recs,tr,hro⟩:=wh (quiet:=quiet) d want h g.ops os T hc (.inr hb) hok
      exact ⟨recs,_,h,tr,⟨.refl _,Nat.le_refl _⟩,hw,hro⟩
    · exact hw.elim
theorem qW {fz:Fz} {quiet:Bool} {K:Env→View→Prop} : ∀ (gs:List SG) (os:List Oper) (T:Env) (h:av),ca P n all fz os=some (gz gs)→gs.all nD=true→qw P quiet gs T h.view K →
    ∃ recs T' h',Tr P n all os T h recs T' h'∧(fa h h'∧h.length≤h'.length)∧K T' h'.view∧dC P quiet (gz gs) recs
  | [],os,T,h,hc,_,hw=>by
    have:=gX hc; subst this
    exact ⟨[],T,h,.nil,⟨.refl _,Nat.le_refl _⟩,hw,.nil⟩
  | g :: gs,os,T,h,hc,hok,hw=>by
    simp only[gz,List.map_cons,List.flatten_cons] at hc ⊢
    simp only[List.all_cons,Bool.and_eq_true] at hok
    obtain ⟨a,b,rfl,h1,h2⟩:=lA hc
    obtain ⟨r1,T1,h1',tr1,st1,hk1,ro1⟩:=I4 h1 hok.1 hw
    obtain ⟨r2,T2,h2',tr2,st2,hk2,ro2⟩:=qW gs b T1 h1' h2 hok.2 hk1
    exact ⟨_,T2,h2',tr1.append tr2,⟨st1.1.trans st2.1 st1.2,Nat.le_trans st1.2 st2.2⟩,hk2,ro1.append ro2⟩
theorem Tr.at_ {os:List Oper} {T T':Env} {h h':av} {recs:List Rec} (tr:Tr P n all os T h recs T' h'):∀ (i:Nat) (o:Oper),os[i]?=some o →
    ∃ T1 h1 v h2 rd wr call recs2,recs[i]?=some ⟨rd,wr,call,h1.length,h2.length⟩∧cg P n all o T1 h1 v h2 rd wr call∧h.length≤h1.length∧Tr P n all (os.drop (i+1)) (T1.put o.dst v) h2 recs2 T' h'∧(∀ m,recs2[m]?=recs[i+1+m]?) ∧
      (∀ t,(∀ o'∈os.take i,o'.dst≠some t)→T1 t=T t):=by
  induction tr with
  | nil=>intro i o hi; simp at hi
  | @cons o0 rest T T' h h1 h' v rd wr call recs st hd tr ih =>
    intro i o hi
    cases i with
    | zero =>
      simp at hi; subst hi
      exact ⟨T,h,v,h1,rd,wr,call,recs,rfl,st,Nat.le_refl _,by simpa using tr,fun m=>by rw[show 0+1+m=m+1 by omega,List.getElem?_cons_succ],fun t _=>rfl⟩
    | succ i =>
      simp at hi
      obtain ⟨T1,h2,v2,h3,rd2,Ip,call2,recs2,e1,e2,e3,e4,e5,e6⟩:=ih i o hi
      have hlen:h.length≤h1.length:=by
        cases st with
        | skip=>exact Nat.le_refl _
        | op _ _=>rename_i au _ _; cases au <;> simp[aM.apply]
        | fq _ _ _=>exact Nat.le_refl _
        | dG _ _ _ _ _ _=>exact Nat.le_refl _
        | call _ _ _ _ ha _ _=>exact ha.1
      refine ⟨T1,h2,v2,h3,rd2,Ip,call2,recs2,by simpa using e1,e2,Nat.le_trans hlen e3,by simpa using e4,fun m=>?_,fun t ht=>?_⟩
      · rw[e5,show i+1+1+m=(i+1+m)+1 by omega,List.getElem?_cons_succ]
      · simp only[List.take_succ_cons,List.mem_cons] at ht
        rw[e6 t fun o' ho'=>ht o' (.inr ho')]
        have:=ht o0 (.inl rfl)
        cases hdst:o0.dst with
        | none=>rfl
        | some d=>simp only[Env.put]; rw[if_neg]; rintro rfl; exact this hdst
theorem C6 {o:Oper} {T:Env} {h h':av} {v:V} {rd wr:List Nat} {call:Bool} (st:cg P n all o T h v h' rd wr call) (ha:uo o=true) (hg:o.guard=none):v=.ptr h.length 0 0:=by
  unfold uo at ha
  have hgv:bU n all T o=some true:=by unfold bU; rw[hg]
  cases st with
  | skip hs=>rw[hgv] at hs; simp at hs
  | op _ hop =>
    split at ha
    · rename_i e ho
      simp only[bt,ho] at hop
      split at hop
      · unfold im at hop
        split at hop
        · simp at hop; exact hop.1.symm
        · simp at hop
      · simp at hop
    · simp at ha
  | fq _ ho _=>rw[ho] at ha; simp at ha
  | dG _ ho _ _ _ _=>rw[ho] at ha; simp at ha
  | call _ ho _ _ _ _ _=>rw[ho] at ha; simp at ha
theorem CU {o:Oper} {T:Env} {h h':av} {v:V} {rd wr:List Nat} {call:Bool} {t id i j:Nat} (st:cg P n all o T h v h' rd wr call) (ha:gG o=some t) (ht:T t=.ptr id i j):wr=[id]∧call=false:=by
  unfold gG at ha
  split at ha
  · rename_i ty t' x ho hg
    simp at ha; subst ha
    have hgv:bU n all T o=some true:=by unfold bU; rw[hg]
    cases st with
    | skip hs=>rw[hgv] at hs; simp at hs
    | op _ hop =>
      have e1:ev T (.tmp t')=.ptr id i j:=ht
      simp only[bt,ho,e1,kX] at hop
      split at hop
      · split at hop
        · simp only[Option.some.injEq,Prod.mk.injEq] at hop
          obtain ⟨_,he,_⟩:=hop
          rw[← he]; exact ⟨rfl,rfl⟩
        · simp at hop
      · simp at hop
    | fq _ ho' _=>rw[ho] at ho'; simp at ho'
    | dG _ ho' _ _ _ _=>rw[ho] at ho'; simp at ho'
    | call _ ho' _ _ _ _ _=>rw[ho] at ho'; simp at ho'
  · simp at ha
theorem FN {o:Oper} {T:Env} {h h':av} {v:V} {rd wr:List Nat} {call:Bool} (st:cg P n all o T h v h' rd wr call) (ha:xc o=true):wr=[]∧call=false∧∀ id,id∈rd→id < h.length:=by
  unfold xc at ha
  cases st with
  | skip _=>exact ⟨rfl,rfl,fun id hid=>by simp at hid⟩
  | op _ hop =>
    split at ha
    · rename_i e a ho
      simp only[bt,ho,iE] at hop
      split at hop
      · rename_i id i j hx
        split at hop
        · rename_i z es hH
          split at hop
          · simp only[Option.map_eq_some_iff] at hop
            obtain ⟨_,_,hop⟩:=hop
            simp at hop
            obtain ⟨_,rfl,rfl⟩:=hop
            refine ⟨rfl,rfl,fun id' hid=>?_⟩
            simp at hid; subst hid
            exact ga (by rw[hH]; simp)
          · simp at hop
        · simp at hop
      · simp only[Option.map_eq_some_iff] at hop
        obtain ⟨_,_,hop⟩:=hop
        simp at hop
        obtain ⟨_,rfl,rfl⟩:=hop
        exact ⟨rfl,rfl,fun id hid=>by simp at hid⟩
      · simp at hop
    · simp at ha
  | fq _ ho _=>rw[ho] at ha; simp at ha
  | dG _ ho _ _ _ _=>rw[ho] at ha; simp at ha
  | call _ ho _ _ _ _ _=>rw[ho] at ha; simp at ha
theorem pQ {T T':Env} {h h':av} {recs:List Rec} (tr:Tr P n all all T h recs T' h') {i k:Nat} {a b:Rec} (hp:sk all i k=true) (ha:recs[i]?=some a) (hb:recs[k]?=some b):jA a b:=by
  unfold sk at hp
  split at hp
  · rename_i oa ob hoa hob
    rw[Bool.and_eq_true] at hp
    obtain ⟨hl,hp⟩:=hp
    split at hp
    · rename_i t hst
      rw[List.any_eq_true] at hp
      obtain ⟨j,hj,hp⟩:=hp
      rw[List.mem_range] at hj
      rw[Bool.and_eq_true,decide_eq_true_eq] at hp
      obtain ⟨hij,hown⟩:=hp
      unfold IE at hown
      split at hown
      · rename_i oj hoj
        simp only[Bool.and_eq_true,beq_iff_eq,List.all_eq_true,bne_iff_ne,ne_eq,Option.isNone_iff_eq_none] at hown
        obtain ⟨⟨⟨w1,w2⟩,w3⟩,w4⟩:=hown
        obtain ⟨T1,h1,v1,h2,rd1,Jn,c1,recs1,e1,e2,e3,e4,e5,_⟩:=tr.at_ i oa hoa
        obtain ⟨Tj,hj1,vj,hj2,rdj,wrj,cj,recsj,f1,f2,f3,f4,f5,_⟩:=e4.at_ (j - (i+1)) oj (by rw[List.getElem?_drop,show i+1+(j - (i+1))=j by omega]; exact hoj)
        have hdr:(all.drop (i+1)).drop (j - (i+1)+1)=all.drop (j+1):=by rw[List.drop_drop]; congr 1; omega
        rw[hdr] at f4
        obtain ⟨Tk,hk1,vk,hk2,rdk,wrk,ck,recsk,g1,g2,g3,_,_,g6⟩:=f4.at_ (k - (j+1)) ob (by rw[List.getElem?_drop,show j+1+(k - (j+1))=k by omega]; exact hob)
        rw[ha] at e1
        have hae:=(Option.some.inj e1)
        have hbe:recs[k]?=some ⟨rdk,wrk,ck,hk1.length,hk2.length⟩:=by
          rw[← g1,f5,e5]; congr 1; omega
        rw[hb] at hbe
        have hbe:=Option.some.inj hbe
        have hv:=C6 f2 w3 w2
        have hTk:Tk t=.ptr hj1.length 0 0:=by
          rw[g6 t fun o' ho'=>w4 o' ho',w1,hv]
          simp[Env.put]
        obtain ⟨s1,s2⟩:=CU g2 hst hTk
        obtain ⟨l1,l2,l3⟩:=FN e2 hl
        rw[hae,hbe]
        have hlen:h1.length≤h2.length:=by
          cases e2 with
          | skip=>exact Nat.le_refl _
          | op _ _=>rename_i au _ _; cases au <;> simp[aM.apply]
          | fq _ _ _=>exact Nat.le_refl _
          | dG _ _ _ _ _ _=>exact Nat.le_refl _
          | call _ _ _ _ ha _ _=>exact ha.1
        refine ⟨fun id hid=>by simp[l1] at hid,fun id hid=>?_,fun hc=>by simp[l2] at hc,fun _=>l1,fun id hid=>?_⟩
        · simp only[s1,List.mem_singleton] at hid
          subst hid
          intro hr
          have:=l3 _ hr
          omega
        · simp only[s1,List.mem_singleton] at hid
          subst hid
          simp only
          omega
      · simp at hown
    · simp at hp
  · simp at hp
theorem GD {ls:List Nat} {recs:List Rec} {T T':Env} {hp hp':av} (tr:Tr P n all all T hp recs T' hp') (h:yH all ls=true) (hl:ls.length=recs.length) (hr:∀ (i x:Nat) (r:Rec),ls[i]?=some x→recs[i]?=some r→gR x r.rd r.wr r.call r.lo r.hi):nT all recs:=by
  intro i k a b hik ha hb ho
  have hi:i < recs.length:=(List.getElem?_eq_some_iff.1 ha).1
  have hk:k < recs.length:=(List.getElem?_eq_some_iff.1 hb).1
  unfold yH at h
  simp only[List.all_eq_true] at h
  have h1:=h (ls[i]'(by omega),i) (by rw[List.mem_zipIdx_iff_getElem?]; simp[List.getElem?_eq_getElem (show i < ls.length by omega)])
    (ls[k]'(by omega),k) (by rw[List.mem_zipIdx_iff_getElem?]; simp[List.getElem?_eq_getElem (show k < ls.length by omega)])
  have la:=hr i _ a (List.getElem?_eq_getElem (by omega)) ha
  have lb:=hr k _ b (List.getElem?_eq_getElem (by omega)) hb
  simp only[hik,decide_true,Bool.not_true,ho,Bool.false_or,Bool.or_eq_true,beq_iff_eq,Bool.and_eq_true,decide_eq_true_eq] at h1
  rcases h1 with ((h1 | h1) | h1) | h1
  · obtain ⟨e1,e2,e3,e4⟩:=la.1 h1
    exact ⟨fun id hid=>by simp[e2] at hid,fun id _=>by simp[e1],fun hc=>by simp[e3] at hc,fun _=>e2,fun id _ hx=>by omega⟩
  · obtain ⟨e1,e2,e3,e4⟩:=lb.1 h1
    exact ⟨fun id _=>by simp[e1],fun id hid=>by simp[e2] at hid,fun _=>e2,fun hc=>by simp[e3] at hc,fun id hid=>by simp[e2] at hid⟩
  · have e1:=la.2 h1.1
    have e2:=lb.2 h1.2
    exact ⟨fun id hid=>by simp[e1] at hid,fun id hid=>by simp[e2] at hid,fun _=>e2,fun _=>e1,fun id hid=>by simp[e2] at hid⟩
  · exact pQ tr h1 ha hb
theorem Tr.keep {os:List Oper} {T T':Env} {h h':av} {recs:List Rec} (tr:Tr P n all os T h recs T' h') {t:Nat} (ht:∀ o∈os,o.dst≠some t):T' t=T t:=by
  induction tr with
  | nil=>rfl
  | @cons o0 rest T T' h h1 h' v rd wr call recs st hd tr ih =>
    rw[ih fun o ho=>ht o (by simp[ho])]
    have:=ht o0 (by simp)
    cases hdst:o0.dst with
    | none=>rfl
    | some d=>simp only[Env.put]; rw[if_neg]; rintro rfl; exact this hdst
theorem p7 {o:Oper} {T:Env} {h h':av} {v:V} {rd wr:List Nat} {call:Bool} {t:Nat} (st:cg P n all o T h v h' rd wr call) (ha:ma o=some t):wr=[]∧call=false∧h'.length=h.length∧∀ id,id∈rd→∃ i j,T t=.ptr id i j:=by
  unfold ma at ha
  split at ha
  · rename_i e t' ho
    simp at ha; subst ha
    cases st with
    | skip _=>exact ⟨rfl,rfl,rfl,fun id hid=>by simp at hid⟩
    | op _ hop =>
      simp only[bt,ho,iE] at hop
      split at hop
      · rename_i id i j hx
        split at hop
        · split at hop
          · simp only[Option.map_eq_some_iff] at hop
            obtain ⟨_,_,hop⟩:=hop
            simp at hop
            obtain ⟨_,rfl,rfl⟩:=hop
            refine ⟨rfl,rfl,rfl,fun id' hid=>?_⟩
            simp at hid; subst hid
            exact ⟨i,j,hx⟩
          · simp at hop
        · simp at hop
      · simp only[Option.map_eq_some_iff] at hop
        obtain ⟨_,_,hop⟩:=hop
        simp at hop
        obtain ⟨_,rfl,rfl⟩:=hop
        exact ⟨rfl,rfl,rfl,fun id hid=>by simp at hid⟩
      · simp at hop
    | fq _ ho' _=>rw[ho] at ho'; simp at ho'
    | dG _ ho' _ _ _ _=>rw[ho] at ho'; simp at ho'
    | call _ ho' _ _ _ _ _=>rw[ho] at ho'; simp at ho'
  · simp at ha
theorem pA {i t:Nat} (h:stays all i t=true):∀ o∈all.drop i,o.dst≠some t:=by
  intro o ho
  have:=List.all_eq_true.1 h o ho
  simpa using this
theorem tC {aps:List (Nat × Nat)} {T:Env} {K:Prop} (hA:qR aps T K):∀ p∈aps,eT (T p.1) (T p.2):=by
  induction aps with
  | nil=>intro p hp; simp at hp
  | cons q l ih =>
    intro p hp
    rcases List.mem_cons.1 hp with rfl | hp
    · exact hA.1
    · exact ih hA.2 p hp
theorem qR.rest {aps:List (Nat × Nat)} {T:Env} {K:Prop} (hA:qR aps T K):K:=by
  induction aps with
  | nil=>exact hA
  | cons q l ih=>exact ih hA.2
theorem ll {T T':Env} {h h':av} {recs:List Rec} (tr:Tr P n all all T h recs T' h') {i t:Nat} {o:Oper} (ho:all[i]?=some o) (hs:stays all i t=true) {r:Rec} (hr:recs[i]?=some r) :
    ∃ T1 h1 v h2,cg P n all o T1 h1 v h2 r.rd r.wr r.call∧r.lo=h1.length∧r.hi=h2.length∧T1 t=T' t:=by
  obtain ⟨T1,h1,v,h2,rd,wr,call,recs2,e1,e2,e3,e4,e5,e6⟩:=tr.at_ i o ho
  rw[hr] at e1
  have e1:=Option.some.inj e1
  subst e1
  refine ⟨T1,h1,v,h2,e2,rfl,rfl,?_⟩
  have hk:=pA hs
  have hi:i < all.length:=(List.getElem?_eq_some_iff.1 ho).1
  have ho':all[i]=o:=(List.getElem?_eq_some_iff.1 ho).2
  rw[List.drop_eq_getElem_cons hi,ho'] at hk
  rw[e4.keep fun o' ho'=>hk o' (by simp[ho'])]
  have:=hk o (by simp)
  cases hdst:o.dst with
  | none=>rfl
  | some d=>simp only[Env.put]; rw[if_neg]; rintro rfl; exact this hdst
theorem so {i a b j c d:Nat} (h:eT (.ptr i a b) (.ptr j c d)):i≠j:=h
theorem uR {i a b j c d e:Nat} (h:eT (.ptr i a b) (.sl j c d e)):i≠j:=h
theorem lS {o:Oper} {T:Env} {h h':av} {v:V} {rd wr:List Nat} {call:Bool} {t:Nat} (st:cg P n all o T h v h' rd wr call) (ha:kj o=some t) :
    call=false∧∀ id,id∈wr→(∃ i j,T t=.ptr id i j)∨∃ a b c,T t=.sl id a b c:=by
  unfold kj at ha
  split at ha
  · rename_i t' hs
    simp at ha; subst ha
    unfold gG at hs
    split at hs
    · rename_i ty t2 x ho hg
      simp at hs; subst hs
      cases st with
      | skip _=>exact ⟨rfl,fun id hid=>by simp at hid⟩
      | op _ hop =>
        simp only[bt,ho,kX] at hop
        split at hop
        · rename_i id i j hx
          split at hop
          · split at hop
            · simp only[Option.some.injEq,Prod.mk.injEq] at hop
              obtain ⟨_,he,_⟩:=hop
              rw[← he]
              refine ⟨rfl,fun id' hid=>?_⟩
              simp[aM.wr] at hid; subst hid
              exact .inl ⟨i,j,hx⟩
            · simp at hop
          · simp at hop
        · simp at hop
      | fq _ ho' _=>rw[ho] at ho'; simp at ho'
      | dG _ ho' _ _ _ _=>rw[ho] at ho'; simp at ho'
      | call _ ho' _ _ _ _ _=>rw[ho] at ho'; simp at ho'
    · simp at hs
  · unfold E5 at ha
    split at ha
    · rename_i args ats ho hg
      split at ha
      · rename_i t2 y hl
        simp at ha; subst ha
        cases st with
        | skip _=>exact ⟨rfl,fun id hid=>by simp at hid⟩
        | op _ hop =>
          simp only[bt,ho,hl] at hop
          split at hop
          · unfold iU at hop
            split at hop
            · split at hop
              · simp at hop
              · split at hop
                · split at hop <;> first | (simp only[Option.some.injEq,Prod.mk.injEq] at hop; obtain ⟨_,he,_⟩:=hop; rw[← he]; exact ⟨rfl,fun id' hid=>by simp[aM.wr] at hid⟩) | simp at hop
                · split at hop
                  · simp at hop
                  · split at hop
                    · split at hop
                      · simp only[Option.some.injEq,Prod.mk.injEq] at hop
                        obtain ⟨_,he,_⟩:=hop
                        rw[← he]; exact ⟨rfl,fun id' hid=>by simp[aM.wr] at hid⟩
                      · simp at hop
                    · rename_i id off len esz hx
                      split at hop
                      · split at hop
                        · simp only[Option.some.injEq,Prod.mk.injEq] at hop
                          obtain ⟨_,he,_⟩:=hop
                          rw[← he]
                          refine ⟨rfl,fun id' hid=>?_⟩
                          simp[aM.wr] at hid; subst hid
                          exact .inr ⟨off,len,esz,hx⟩
                        · simp at hop
                      · simp at hop
                    · simp at hop
            · simp at hop
          · split at hop
            · unfold pF at hop
              repeat' (split at hop)
              all_goals first | (simp only[Option.some.injEq,Prod.mk.injEq] at hop; obtain ⟨_,he,_⟩:=hop; rw[← he]; exact ⟨rfl,fun id' hid=>by simp[aM.wr] at hid⟩) | simp at hop
            · simp at hop
        | fq _ ho' _=>rw[ho] at ho'; simp at ho'
        | dG _ ho' _ _ _ _=>rw[ho] at ho'; simp at ho'
        | call _ ho' _ _ _ _ _=>rw[ho] at ho'; simp at ho'
      · simp at ha
    · simp at ha
theorem GS {o:Oper} {T:Env} {h h':av} {v:V} {rd wr:List Nat} {call:Bool} (st:cg P n all o T h v h' rd wr call) (ha:zn o=true):rd=[]∧wr=[]∧call=false:=by
  unfold zn at ha
  cases st with
  | skip _=>exact ⟨rfl,rfl,rfl⟩
  | op _ hop =>
    split at ha
    · rename_i ty len parts ho
      simp only[bt,ho,ep] at hop
      have key:∀ {x:Option (V × aM × List Nat)} {e:aM},x=some (v,e,rd)→(∀ y,x=some y→y.2.1.wr=[]∧y.2.2=[])→rd=[]∧e.wr=[]:=fun hx hy=>⟨(hy _ hx).2,(hy _ hx).1⟩
      obtain ⟨k1,k2⟩:=key hop (by
        intro y hy
        repeat' (first | (split at hy) | (simp only[Option.some.injEq] at hy; subst hy; exact ⟨rfl,rfl⟩) | (simp at hy; done)))
      exact ⟨k1,k2,rfl⟩
    · rename_i e ho
      simp only[bt,ho] at hop
      split at hop
      · unfold im at hop
        split at hop
        · simp only[Option.some.injEq,Prod.mk.injEq] at hop
          obtain ⟨_,he,hr⟩:=hop
          rw[← he,← hr]; exact ⟨rfl,rfl,rfl⟩
        · simp at hop
      · simp at hop
    · simp at ha
  | fq _ ho _=>rw[ho] at ha; simp at ha
  | dG _ ho _ _ _ _=>rw[ho] at ha; simp at ha
  | call _ ho _ _ _ _ _=>rw[ho] at ha; simp at ha
theorem oC {o:Oper} {t:Nat} (h:gG o=some t):kj o=some t:=by unfold kj; rw[h]
theorem Em {T T':Env} {h h':av} {recs:List Rec} (tr:Tr P n all all T h recs T' h') {i k:Nat} {a b:Rec} {p:Nat × Nat} (hp:uv all i k=some p) (hA:eT (T' p.1) (T' p.2)) (ha:recs[i]?=some a) (hb:recs[k]?=some b):jA a b:=by
  unfold uv at hp
  split at hp
  · rename_i oa ob hoa hob
    split at hp
    · rename_i s t hl hs
      split at hp
      · rename_i hst
        simp only[Bool.and_eq_true] at hst
        simp at hp; subst hp
        obtain ⟨Ta,ha1,va,ha2,sa,la1,la2,ea⟩:=ll tr hoa hst.1 ha
        obtain ⟨Tb,hb1,vb,hb2,sb,_,_,eb⟩:=ll tr hob hst.2 hb
        obtain ⟨l1,l2,l3,l4⟩:=p7 sa hl
        have hA:eT (Ta s) (Tb t):=by rw[ea,eb]; exact hA
        refine ⟨fun id hid=>by simp[l1] at hid,fun id hid hr=>?_,fun hc=>by simp[l2] at hc,fun _=>l1,fun id _ hx=>by omega⟩
        obtain ⟨i',j',e1⟩:=l4 id hr
        rw[e1] at hA
        rcases (lS sb (oC hs)).2 id hid with ⟨c,d,hy⟩ | ⟨c,d,e,hy⟩
        · rw[hy] at hA; exact so hA rfl
        · rw[hy] at hA; exact uR hA rfl
      · simp at hp
    · split at hp
      · rename_i t s hs hl
        split at hp
        · rename_i hst
          simp only[Bool.and_eq_true] at hst
          simp at hp; subst hp
          obtain ⟨Ta,ha1,va,ha2,sa,la1,la2,ea⟩:=ll tr hoa hst.1 ha
          obtain ⟨Tb,hb1,vb,hb2,sb,lb1,lb2,eb⟩:=ll tr hob hst.2 hb
          obtain ⟨l1,l2,l3,l4⟩:=p7 sb hl
          have hA:eT (Tb s) (Ta t):=by rw[ea,eb]; exact hA
          refine ⟨fun id hid hr=>?_,fun id hid=>by simp[l1] at hid,fun hc=>l1,fun hc=>by simp[l2] at hc,fun id hid=>by simp[l1] at hid⟩
          obtain ⟨i',j',e1⟩:=l4 id hr
          rw[e1] at hA
          rcases (lS sa (oC hs)).2 id hid with ⟨c,d,hy⟩ | ⟨c,d,e,hy⟩
          · rw[hy] at hA; exact so hA rfl
          · rw[hy] at hA; exact uR hA rfl
        · simp at hp
      · simp at hp
  · simp at hp
theorem C2 {T T':Env} {h h':av} {recs:List Rec} (tr:Tr P n all all T h recs T' h') {i k:Nat} {a b:Rec} {p:Nat × Nat} (hp:v8 all i k=some p) (hA:eT (T' p.1) (T' p.2)) (ha:recs[i]?=some a) (hb:recs[k]?=some b):jA a b:=by
  unfold v8 at hp
  split at hp
  · rename_i oa ob hoa hob
    split at hp
    · rename_i s t hl hs
      split at hp
      · rename_i hst
        simp only[Bool.and_eq_true] at hst
        simp at hp; subst hp
        obtain ⟨Ta,ha1,va,ha2,sa,la1,la2,ea⟩:=ll tr hoa hst.1 ha
        obtain ⟨Tb,hb1,vb,hb2,sb,_,_,eb⟩:=ll tr hob hst.2 hb
        obtain ⟨l1,l2,l3,l4⟩:=p7 sa hl
        have hA:eT (Ta s) (Tb t):=by rw[ea,eb]; exact hA
        refine ⟨fun id hid=>by simp[l1] at hid,fun id hid hr=>?_,fun hc=>by simp[l2] at hc,fun _=>l1,fun id _ hx=>by omega⟩
        obtain ⟨i',j',e1⟩:=l4 id hr
        rw[e1] at hA
        rcases (lS sb hs).2 id hid with ⟨c,d,hy⟩ | ⟨c,d,e,hy⟩
        · rw[hy] at hA; exact so hA rfl
        · rw[hy] at hA; exact uR hA rfl
      · simp at hp
    · split at hp
      · rename_i t s hs hl
        split at hp
        · rename_i hst
          simp only[Bool.and_eq_true] at hst
          simp at hp; subst hp
          obtain ⟨Ta,ha1,va,ha2,sa,la1,la2,ea⟩:=ll tr hoa hst.1 ha
          obtain ⟨Tb,hb1,vb,hb2,sb,lb1,lb2,eb⟩:=ll tr hob hst.2 hb
          obtain ⟨l1,l2,l3,l4⟩:=p7 sb hl
          have hA:eT (Tb s) (Ta t):=by rw[ea,eb]; exact hA
          refine ⟨fun id hid hr=>?_,fun id hid=>by simp[l1] at hid,fun hc=>l1,fun hc=>by simp[l2] at hc,fun id hid=>by simp[l1] at hid⟩
          obtain ⟨i',j',e1⟩:=l4 id hr
          rw[e1] at hA
          rcases (lS sa hs).2 id hid with ⟨c,d,hy⟩ | ⟨c,d,e,hy⟩
          · rw[hy] at hA; exact so hA rfl
          · rw[hy] at hA; exact uR hA rfl
        · simp at hp
      · simp at hp
  · simp at hp
theorem DP {l:List (Nat × Nat)} {aps:List (Nat × Nat)} (h:vK all l=some aps):∀ q∈l,∃ p∈aps,uv all q.1 q.2=some p:=by
  induction l generalizing aps with
  | nil=>intro q hq; simp at hq
  | cons x r ih =>
    obtain ⟨i,k⟩:=x
    simp only[vK] at h
    split at h
    · rename_i p l' h1 h2
      simp at h; subst h
      intro q hq
      rcases List.mem_cons.1 hq with rfl | hq
      · exact ⟨p,by simp,h1⟩
      · obtain ⟨p',hp',e⟩:=ih h2 q hq
        exact ⟨p',by simp[hp'],e⟩
    · simp at h
theorem DG {l:List (Nat × Nat)} {aps:List (Nat × Nat)} (h:oJ all l=some aps):∀ q∈l,∃ ps,(∀ p∈ps,p∈aps)∧sq all q.1 q.2=some ps:=by
  induction l generalizing aps with
  | nil=>intro q hq; simp at hq
  | cons x r ih =>
    obtain ⟨i,k⟩:=x
    simp only[oJ] at h
    split at h
    · rename_i p l' h1 h2
      simp at h; subst h
      intro q hq
      rcases List.mem_cons.1 hq with rfl | hq
      · exact ⟨p,fun x hx=>by simp[hx],h1⟩
      · obtain ⟨p',hp',e⟩:=ih h2 q hq
        exact ⟨p',fun x hx=>by simp[hp' x hx],e⟩
    · simp at h
theorem Ed {H:View} {x:V} {xs:List (List V)} {rd:List Nat} (h:bB H x=some (xs,rd)):∀ id,id∈rd→∃ a b c,x=.sl id a b c:=by
  unfold bB at h
  split at h
  · simp at h; obtain ⟨_,rfl⟩:=h; intro id hid; simp at hid
  · simp at h; obtain ⟨_,rfl⟩:=h; intro id hid; simp at hid
  · simp at h; obtain ⟨_,rfl⟩:=h; intro id hid; simp at hid
  · simp at h; obtain ⟨_,rfl⟩:=h; intro id hid; simp at hid
  · split at h
    · split at h
      · simp at h
        obtain ⟨_,rfl⟩:=h
        intro id hid
        simp at hid; subst hid
        exact ⟨_,_,_,rfl⟩
      · simp at h
    · simp at h
  · simp at h; obtain ⟨_,rfl⟩:=h; intro id hid; simp at hid
  · simp at h
theorem yQ {o:Oper} {T:Env} {h h':av} {v:V} {rd wr:List Nat} {call:Bool} {t y d:Nat} (st:cg P n all o T h v h' rd wr call) (ha:sL o=some (t,y,d)) :
    call=false∧(∀ id,id∈wr→∃ a b c,T t=.sl id a b c)∧(∀ id,id∈rd→(∃ a b c,T t=.sl id a b c)∨∃ a b c,T y=.sl id a b c)∧(h.length < h'.length→∃ a b c,v=.sl h.length a b c)∧h'.length≤h.length+1∧o.dst=some d:=by
  unfold sL at ha
  split at ha
  · rename_i args ats d' ho hg hd
    split at ha
    · rename_i t2 y2 hl
      simp at ha
      obtain ⟨rfl,rfl,rfl⟩:=ha
      cases st with
      | skip _=>exact ⟨rfl,fun id hid=>by simp at hid,fun id hid=>by simp at hid,fun h=>by omega,by omega,hd⟩
      | op _ hop =>
        simp only[bt,ho,hl] at hop
        have nn:∀ {v':V} {eff':aM} {rd':List Nat},some (v',aM.none,([]:List Nat))=some (v,eff',rd')→false=false∧(∀ id,id∈eff'.wr→∃ a b c,T t2=.sl id a b c)∧(∀ id,id∈rd'→(∃ a b c,T t2=.sl id a b c)∨∃ a b c,T y2=.sl id a b c)∧(h.length < (eff'.apply h).length→∃ a b c,v=.sl h.length a b c)∧(eff'.apply h).length≤h.length+1∧o.dst=some d':=by
          intro v' eff' rd' e
          simp only[Option.some.injEq,Prod.mk.injEq] at e
          obtain ⟨_,rfl,rfl⟩:=e
          exact ⟨rfl,fun id hid=>by simp[aM.wr] at hid,fun id hid=>by simp at hid,fun h=>by simp[aM.apply] at h,by simp[aM.apply],hd⟩
        split at hop
        · unfold iU at hop
          split at hop
          · rename_i e xs rd' _ hel
            have hrd:=Ed hel
            split at hop
            · simp at hop
            · split at hop
              · split at hop <;> first | exact nn hop | simp at hop
              · split at hop
                · simp at hop
                · split at hop
                  · split at hop
                    · simp only[Option.some.injEq,Prod.mk.injEq] at hop
                      obtain ⟨rfl,rfl,rfl⟩:=hop
                      exact ⟨rfl,fun id hid=>by simp[aM.wr] at hid,fun id hid=>.inr (hrd id hid),fun _=>⟨_,_,_,rfl⟩,by simp[aM.apply],hd⟩
                    · simp at hop
                  · rename_i id off len esz hx
                    split at hop
                    · split at hop
                      · simp only[Option.some.injEq,Prod.mk.injEq] at hop
                        obtain ⟨rfl,rfl,rfl⟩:=hop
                        refine ⟨rfl,fun id' hid=>?_,fun id' hid=>?_,fun _=>⟨_,_,_,rfl⟩,by simp[aM.apply],hd⟩
                        · simp[aM.wr] at hid; subst hid
                          exact ⟨off,len,esz,hx⟩
                        · rcases List.mem_cons.1 hid with rfl | hid
                          · exact .inl ⟨off,len,esz,hx⟩
                          · exact .inr (hrd id' hid)
                      · simp at hop
                    · simp at hop
                  · simp at hop
          · simp at hop
        · split at hop
          · unfold pF at hop
            split at hop
            · split at hop
              · split at hop
                · exact nn hop
                · split at hop
                  · simp only[Option.some.injEq,Prod.mk.injEq] at hop
                    obtain ⟨rfl,rfl,rfl⟩:=hop
                    exact ⟨rfl,fun id hid=>by simp[aM.wr] at hid,fun id hid=>by simp at hid,fun _=>⟨_,_,_,rfl⟩,by simp[aM.apply],hd⟩
                  · simp at hop
              · simp at hop
            · simp at hop
          · simp at hop
      | fq _ ho' _=>rw[ho] at ho'; simp at ho'
      | dG _ ho' _ _ _ _=>rw[ho] at ho'; simp at ho'
      | call _ ho' _ _ _ _ _=>rw[ho] at ho'; simp at ho'
    · simp at ha
  · simp at ha
theorem Et {T T':Env} {h h':av} {recs:List Rec} (tr:Tr P n all all T h recs T' h') {i:Nat} {o:Oper} (ho:all[i]?=some o) {r:Rec} (hr:recs[i]?=some r) :
    ∃ T1 h1 v h2,cg P n all o T1 h1 v h2 r.rd r.wr r.call∧r.lo=h1.length∧r.hi=h2.length∧(∀ t,stays all i t=true→T1 t=T' t)∧∀ d,o.dst=some d→stays all (i+1) d=true→T' d=v:=by
  obtain ⟨T1,h1,v,h2,rd,wr,call,recs2,e1,e2,e3,e4,e5,e6⟩:=tr.at_ i o ho
  rw[hr] at e1
  have e1:=Option.some.inj e1
  subst e1
  refine ⟨T1,h1,v,h2,e2,rfl,rfl,fun t hs=>?_,fun d hd hs=>?_⟩
  · have hk:=pA hs
    have hi:i < all.length:=(List.getElem?_eq_some_iff.1 ho).1
    have ho':all[i]=o:=(List.getElem?_eq_some_iff.1 ho).2
    rw[List.drop_eq_getElem_cons hi,ho'] at hk
    rw[e4.keep fun o' ho'=>hk o' (by simp[ho'])]
    have:=hk o (by simp)
    cases hdst:o.dst with
    | none=>rfl
    | some d=>simp only[Env.put]; rw[if_neg]; rintro rfl; exact this hdst
  · rw[e4.keep (pA hs),hd]
    simp[Env.put]
theorem q7 {i a b c j d e f:Nat} (h:eT (.sl i a b c) (.sl j d e f)):i≠j:=h
theorem DI {T T':Env} {h h':av} {recs:List Rec} (tr:Tr P n all all T h recs T' h') {i k:Nat} {a b:Rec} {ps:List (Nat × Nat)} (hp:wu all i k=some ps) (hA:∀ p∈ps,eT (T' p.1) (T' p.2)) (ha:recs[i]?=some a) (hb:recs[k]?=some b):jA a b:=by
  unfold wu at hp
  split at hp
  · rename_i oa ob hoa hob
    split at hp
    · rename_i t y d t' y' d' h1 h2
      split at hp
      · rename_i hst
        simp only[Bool.and_eq_true] at hst
        obtain ⟨⟨⟨⟨s1,s2⟩,s3⟩,s4⟩,s5⟩:=hst
        simp at hp; subst hp
        have a1:=hA (t,t') (by simp)
        have a2:=hA (t,y') (by simp)
        have a3:=hA (t',y) (by simp)
        have a4:=hA (d,t') (by simp)
        simp only at a1 a2 a3 a4
        obtain ⟨Ta,ha1,va,ha2,sa,la1,la2,ea,da⟩:=Et tr hoa ha
        obtain ⟨Tb,hb1,vb,hb2,sb,_,_,eb,_⟩:=Et tr hob hb
        obtain ⟨p1,p2,p3,p4,p5,p6⟩:=yQ sa h1
        obtain ⟨q1,q2,q3,_⟩:=yQ sb h2
        have da:=da d p6 s3
        rw[← ea t s1,← eb t' s4] at a1
        rw[← ea t s1,← eb y' s5] at a2
        rw[← eb t' s4,← ea y s2] at a3
        rw[da,← eb t' s4] at a4
        refine ⟨fun id hid hr=>?_,fun id hid hr=>?_,fun hc=>by rw[p1] at hc; simp at hc,fun hc=>by rw[q1] at hc; simp at hc,fun id hid hx=>?_⟩
        · obtain ⟨_,_,_,e⟩:=p2 id hid
          rcases q3 id hr with ⟨_,_,_,e'⟩ | ⟨_,_,_,e'⟩
          · rw[e,e'] at a1; exact q7 a1 rfl
          · rw[e,e'] at a2; exact q7 a2 rfl
        · obtain ⟨_,_,_,e⟩:=q2 id hid
          rcases p3 id hr with ⟨_,_,_,e'⟩ | ⟨_,_,_,e'⟩
          · rw[e',e] at a1; exact q7 a1 rfl
          · rw[e,e'] at a3; exact q7 a3 rfl
        · obtain ⟨_,_,_,e⟩:=q2 id hid
          obtain ⟨_,_,_,e'⟩:=p4 (by omega)
          have:id=ha1.length:=by omega
          subst this
          rw[e,e'] at a4; exact q7 a4 rfl
      · simp at hp
    · simp at hp
  · simp at hp
theorem CN {T T':Env} {h h':av} {recs:List Rec} (tr:Tr P n all all T h recs T' h') {i k:Nat} {a b:Rec} {ps:List (Nat × Nat)} (hp:sq all i k=some ps) (hA:∀ p∈ps,eT (T' p.1) (T' p.2)) (ha:recs[i]?=some a) (hb:recs[k]?=some b):jA a b:=by
  unfold sq at hp
  split at hp
  · rename_i p h1
    simp at hp; subst hp
    exact C2 tr h1 (hA p (by simp)) ha hb
  · exact DI tr hp hA ha hb
theorem GU {ls:List Nat} {recs:List Rec} {T T':Env} {hp hp':av} {aps:List (Nat × Nat)} (tr:Tr P n all all T hp recs T' hp') (h:vK all (gH all ls)=some aps) (hA:∀ p∈aps,eT (T' p.1) (T' p.2)) (hl:ls.length=recs.length)
    (hr:∀ (i x:Nat) (r:Rec),ls[i]?=some x→recs[i]?=some r→gR x r.rd r.wr r.call r.lo r.hi):nT all recs:=by
  intro i k a b hik ha hb ho
  have hi:i < recs.length:=(List.getElem?_eq_some_iff.1 ha).1
  have hk:k < recs.length:=(List.getElem?_eq_some_iff.1 hb).1
  have la:=hr i _ a (List.getElem?_eq_getElem (by omega)) ha
  have lb:=hr k _ b (List.getElem?_eq_getElem (by omega)) hb
  have mi:(ls[i]'(by omega),i)∈ls.zipIdx:=by rw[List.mem_zipIdx_iff_getElem?]; simp[List.getElem?_eq_getElem (show i < ls.length by omega)]
  have mk:(ls[k]'(by omega),k)∈ls.zipIdx:=by rw[List.mem_zipIdx_iff_getElem?]; simp[List.getElem?_eq_getElem (show k < ls.length by omega)]
  by_cases h1:rz all (ls[i]'(by omega)) i (ls[k]'(by omega)) k=true
  · unfold rz at h1
    simp only[hik,decide_true,Bool.not_true,ho,Bool.false_or,Bool.or_eq_true,beq_iff_eq,Bool.and_eq_true,decide_eq_true_eq] at h1
    rcases h1 with ((h1 | h1) | h1) | h1
    · obtain ⟨e1,e2,e3,e4⟩:=la.1 h1
      exact ⟨fun id hid=>by simp[e2] at hid,fun id _=>by simp[e1],fun hc=>by simp[e3] at hc,fun _=>e2,fun id _ hx=>by omega⟩
    · obtain ⟨e1,e2,e3,e4⟩:=lb.1 h1
      exact ⟨fun id _=>by simp[e1],fun id hid=>by simp[e2] at hid,fun _=>e2,fun hc=>by simp[e3] at hc,fun id hid=>by simp[e2] at hid⟩
    · have e1:=la.2 h1.1
      have e2:=lb.2 h1.2
      exact ⟨fun id hid=>by simp[e1] at hid,fun id hid=>by simp[e2] at hid,fun _=>e2,fun _=>e1,fun id hid=>by simp[e2] at hid⟩
    · exact pQ tr h1 ha hb
  · have hm:(i,k)∈gH all ls:=by
      unfold gH
      rw[List.mem_flatMap]
      refine ⟨_,mi,?_⟩
      rw[List.mem_filterMap]
      exact ⟨_,mk,by simp only; rw[if_neg h1]⟩
    obtain ⟨p,hp,e⟩:=DP h (i,k) hm
    exact Em tr e (hA p hp) ha hb
theorem yb {P:Program} {t:TypeId} {id:Nat} {q:V} {ok:Bool} {H1 H2:View} (h:H1 id=H2 id):dH P t (.mp id) q ok H1=dH P t (.mp id) q ok H2:=by
  unfold dH
  simp only[h]
theorem Dp {P:Program} {t:TypeId} {id:Nat} {q:V} {H1 H2:View} (h:H1 id=H2 id):db P t (.mp id) q H1=db P t (.mp id) q H2:=by
  cases hm:dI P t with
  | none=>simp only[db,hm]
  | some x=>simp only[db,hm,h]
theorem Gg {P:Program} {t:TypeId} {id:Nat} {q:V} {H:View} {v:V} {au:aM} {rd:List Nat} (h:dH P t (.mp id) q false H=some (v,au,rd)):au=.none∧rd=[id]:=by
  simp only[dH,Bool.false_eq_true,if_false] at h
  repeat' (first | (simp only[Option.some.injEq,Prod.mk.injEq] at h; exact ⟨h.2.1.symm,h.2.2.symm⟩) | (split at h) | (simp at h; done))
theorem Fk {P:Program} {t:TypeId} {id:Nat} {q:V} {H:View} {v:V} {au:aM} {rd:List Nat} (h:db P t (.mp id) q H=some (v,au,rd)):∃ obj,au=.ec id obj:=by
  cases hm:dI P t with
  | none=>simp[db,hm] at h
  | some x =>
    simp only[db,hm] at h
    repeat' (first | (simp only[Option.some.injEq,Prod.mk.injEq] at h; exact ⟨_,h.2.1.symm⟩) | (split at h) | (simp at h; done))
theorem AN {o:Oper} {T:Env} {h h':av} {v:V} {rd wr:List Nat} {call:Bool} (st:cg P n all o T h v h' rd wr call) (hg:bU n all T o=some true) (hb:∀ e x,o.op≠.box e x) (hc:∀ s d x,o.op≠.convert s d x) (hl:∀ c,o.op≠.call c) :
    ∃ au,bt P o T h.view h.length=some (v,au,rd)∧h'=au.apply h∧wr=au.wr∧call=false:=by
  cases st with
  | skip hs=>rw[hg] at hs; simp at hs
  | op _ hop=>exact ⟨_,hop,rfl,rfl,rfl⟩
  | fq _ ho _=>exact absurd ho (hb _ _)
  | dG _ ho _ _ _ _=>exact absurd ho (hc _ _ _)
  | call _ ho _ _ _ _ _=>exact absurd ho (hl _)
theorem HG {recs:List Rec} {Ts:Nat→Env} {hs:Nat→av} {vs:Nat→V} (hst:tE P n all recs Ts hs vs) (hl:recs.length=all.length) {k:Nat} (hk:k≤all.length) (hw:∀ j r,j < k→recs[j]?=some r→r.wr=[]) :
    ∀ j,j≤k→(hs 0).length≤(hs j).length∧∀ id,id < (hs 0).length→(hs j).view id=(hs 0).view id:=by
  intro j
  induction j with
  | zero=>intro _; exact ⟨Nat.le_refl _,fun _ _=>rfl⟩
  | succ j ih =>
    intro hj
    obtain ⟨l1,l2⟩:=ih (by omega)
    obtain ⟨st,_,_,_,_⟩:=hst j all[j] (recs[j]'(by omega)) (List.getElem?_eq_getElem (by omega)) (List.getElem?_eq_getElem (by omega))
    refine ⟨Nat.le_trans l1 (nq st),fun id hid=>?_⟩
    rw[lZ st (Nat.lt_of_lt_of_le hid l1) (by rw[hw j _ (by omega) (List.getElem?_eq_getElem (by omega))]; simp)]
    exact l2 id hid
theorem ks {recs:List Rec} {Ts:Nat→Env} {hs:Nat→av} {vs:Nat→V} (hst:tE P n all recs Ts hs vs) (hl:recs.length=all.length) {i t:Nat} (h:stays all i t=true):∀ j,i≤j→j≤all.length→Ts j t=Ts i t:=by
  intro j hij hj
  refine sm (vs:=vs) (N:=all.length) (fun k o hk=>?_) rfl i j hij hj fun k o h1 h2 h3=>pA h o (by
    rw[List.mem_iff_getElem?]
    exact ⟨k - i,by rw[List.getElem?_drop,show i+(k - i)=k by omega]; exact h3⟩)
  have hk':k < all.length:=(List.getElem?_eq_some_iff.1 hk).1
  exact (hst k o (recs[k]'(by omega)) hk (List.getElem?_eq_getElem (by omega))).2.2.1
theorem zM {ls:List Nat} {recs:List Rec} {T T':Env} {hp hp':av} {aps:List (Nat × Nat)} {tp:Option (Nat × Nat)} (tr:Tr P n all all T hp recs T' hp') (h:oJ all (yL all ls tp)=some aps) (hA:∀ p∈aps,eT (T' p.1) (T' p.2)) (hl:ls.length=recs.length)
    (hr:∀ (i x:Nat) (r:Rec),ls[i]?=some x→recs[i]?=some r→gR x r.rd r.wr r.call r.lo r.hi) (htol:∀ p,tp=some p→∃ tol,yK all ls p.1 p.2=some tol∧C5 P tol.1 (T' tol.2.1) (T' tol.2.2) hp.view):Db P n all recs T T' hp:=by
  have main:∀ i k a b,i < k→recs[i]?=some a→recs[k]?=some b→ordered (dk all []) i k=false→tp≠some (i,k)→jA a b:=by
    intro i k a b hik ha hb ho hne
    have hi:i < recs.length:=(List.getElem?_eq_some_iff.1 ha).1
    have hk:k < recs.length:=(List.getElem?_eq_some_iff.1 hb).1
    have la:=hr i _ a (List.getElem?_eq_getElem (by omega)) ha
    have lb:=hr k _ b (List.getElem?_eq_getElem (by omega)) hb
    have mi:(ls[i]'(by omega),i)∈ls.zipIdx:=by rw[List.mem_zipIdx_iff_getElem?]; simp[List.getElem?_eq_getElem (show i < ls.length by omega)]
    have mk:(ls[k]'(by omega),k)∈ls.zipIdx:=by rw[List.mem_zipIdx_iff_getElem?]; simp[List.getElem?_eq_getElem (show k < ls.length by omega)]
    by_cases h1:rz all (ls[i]'(by omega)) i (ls[k]'(by omega)) k=true
    · unfold rz at h1
      simp only[hik,decide_true,Bool.not_true,ho,Bool.false_or,Bool.or_eq_true,beq_iff_eq,Bool.and_eq_true,decide_eq_true_eq] at h1
      rcases h1 with ((h1 | h1) | h1) | h1
      · obtain ⟨e1,e2,e3,e4⟩:=la.1 h1
        exact ⟨fun id hid=>by simp[e2] at hid,fun id _=>by simp[e1],fun hc=>by simp[e3] at hc,fun _=>e2,fun id _ hx=>by omega⟩
      · obtain ⟨e1,e2,e3,e4⟩:=lb.1 h1
        exact ⟨fun id _=>by simp[e1],fun id hid=>by simp[e2] at hid,fun _=>e2,fun hc=>by simp[e3] at hc,fun id hid=>by simp[e2] at hid⟩
      · have e1:=la.2 h1.1
        have e2:=lb.2 h1.2
        exact ⟨fun id hid=>by simp[e1] at hid,fun id hid=>by simp[e2] at hid,fun _=>e2,fun _=>e1,fun id hid=>by simp[e2] at hid⟩
      · exact pQ tr h1 ha hb
    · have hm:(i,k)∈gH all ls:=by
        unfold gH
        rw[List.mem_flatMap]
        refine ⟨_,mi,?_⟩
        rw[List.mem_filterMap]
        exact ⟨_,mk,by simp only; rw[if_neg h1]⟩
      by_cases hn:newAt all k=true
      · unfold newAt at hn
        split at hn
        · rename_i ob hob
          obtain ⟨T1,h1',v,h2,rd,wr,call,recs2,e1,e2,_⟩:=tr.at_ k ob hob
          rw[hb] at e1
          have e1:=Option.some.inj e1
          subst e1
          obtain ⟨n1,n2,n3⟩:=GS e2 hn
          exact ⟨fun id _=>by simp[n1],fun id hid=>by simp[n2] at hid,fun _=>n2,fun hc=>by simp[n3] at hc,fun id hid=>by simp[n2] at hid⟩
        · simp at hn
      · obtain ⟨p,hp,e⟩:=DG h (i,k) (by
          unfold yL
          rw[List.mem_filter]
          refine ⟨hm,?_⟩
          simp only[Bool.and_eq_true,Bool.not_eq_true',bne_iff_ne,ne_eq]
          exact ⟨by simpa using hn,hne⟩)
        exact CN tr e (fun q hq=>hA q (hp q hq)) ha hb
  cases tp with
  | none=>exact nT.Jl fun i k a b h1 h2 h3 h4=>main i k a b h1 h2 h3 h4 (by simp)
  | some p =>
    obtain ⟨i0,k0⟩:=p
    obtain ⟨tol,hto,htv⟩:=htol _ rfl
    intro Ts hs vs eT0 eh0 eTN hrl hst i
    by_cases hi:i=i0
    · subst hi
      refine ⟨some k0,fun k a b h1 h2 h3 h4 h5=>main i k a b h1 h2 h3 h4 (fun e=>h5 (by simp at e; rw[e])),fun k a b o hk ha hb ho=>?_⟩
      simp at hk; subst hk
      unfold yK at hto
      simp only at hto
      split at hto
      · rename_i oa ob hoa hob
        rw[ho] at hoa
        have hoa:=Option.some.inj hoa
        subst hoa
        split at hto
        · rename_i t m q t' m' q' hop1 hop2 hg1 hg2
          split at hto
          · rename_i hcond
            simp only[Bool.and_eq_true,beq_iff_eq,decide_eq_true_eq,List.all_eq_true,List.mem_range] at hcond
            obtain ⟨⟨⟨⟨⟨⟨⟨⟨rfl,rfl⟩,rfl⟩,s1⟩,s2⟩,s3⟩,s4⟩,hik⟩,hloud⟩:=hcond
            simp only[Option.some.injEq] at hto
            subst hto
            simp only at htv
            have hkl:k0 < all.length:=(List.getElem?_eq_some_iff.1 hob).1
            have hwr:∀ j r,j < k0→recs[j]?=some r→r.wr=[]:=fun j r hj hrj=>by
              have h1:=hloud j hj
              have hj':j < ls.length:=by omega
              rw[List.getD_eq_getElem?_getD,List.getElem?_eq_getElem hj'] at h1
              exact (hr j _ r (List.getElem?_eq_getElem hj') hrj).2 h1
            have hsame:=HG hst hrl (Nat.le_of_lt hkl) hwr
            have em:∀ j,i≤j→j≤all.length→Ts j m=T' m:=fun j h1 h2=>by
              rw[← eTN,ks hst hrl s1 j h1 h2,ks hst hrl s1 all.length (by omega) (Nat.le_refl _)]
            have eq:∀ j,i≤j→j≤all.length→Ts j q=T' q:=fun j h1 h2=>by
              rw[← eTN,ks hst hrl s2 j h1 h2,ks hst hrl s2 all.length (by omega) (Nat.le_refl _)]
            obtain ⟨sti,_,_,hlo,hhi⟩:=hst i o a ho ha
            obtain ⟨stk,_,_,_,_⟩:=hst k0 ob b hob hb
            have gi:bU n all (Ts i) o=some true:=by unfold bU; rw[hg1]
            have gk:bU n all (Ts k0) ob=some true:=by unfold bU; rw[hg2]
            unfold C5 at htv
            split at htv
            · rename_i id hid
              obtain ⟨⟨es0,c0,hmap⟩,htv⟩:=htv
              have hidl:id < hp.length:=ga (by rw[hmap]; simp)
              have hvk:(hs k0).view id=hp.view id:=by rw[(hsame k0 (Nat.le_refl _)).2 id (by rw[eh0]; exact hidl),eh0]
              have hvi:(hs i).view id=hp.view id:=by rw[(hsame i (Nat.le_of_lt hik)).2 id (by rw[eh0]; exact hidl),eh0]
              obtain ⟨effi,hopi,hi',wri,cai⟩:=AN sti gi (by rw[hop1]; simp) (by rw[hop1]; simp) (by rw[hop1]; simp)
              obtain ⟨effk,hopk,hk',wrk,cak⟩:=AN stk gk (by rw[hop2]; simp) (by rw[hop2]; simp) (by rw[hop2]; simp)
              simp only[bt,hop1] at hopi
              simp only[bt,hop2] at hopk
              have e1:ev (Ts i) (.tmp m)=.mp id:=(em i (Nat.le_refl _) (by omega)).trans hid
              have e2:ev (Ts i) (.tmp q)=T' q:=eq i (Nat.le_refl _) (by omega)
              have e3:ev (Ts k0) (.tmp m)=.mp id:=(em k0 (by omega) (by omega)).trans hid
              have e4:ev (Ts k0) (.tmp q)=T' q:=eq k0 (by omega) (by omega)
              rw[e1,e2] at hopi
              rw[e3,e4,Dp hvk] at hopk
              obtain ⟨l1,l2⟩:=Gg hopi
              obtain ⟨obj,l3⟩:=Fk hopk
              subst l1 l3
              have hkb:(hs (k0+1)).view id=obj:=by
                rw[hk',hU (fun id' hid'=>by
                  simp only[aM.wr,List.mem_singleton] at hid'
                  subst hid'
                  rw[hvk,hmap]; simp)]
                simp[aM.view,View.set]
              refine ⟨hik,wri,cai,by rw[hlo,hhi,hi']; rfl,fun g hg hgv=>?_⟩
              have hidi:id < (hs i).length:=ga (by rw[hvi,hmap]; simp)
              have hgid:g.view id=(hp.view.set id obj) id:=by
                rw[hgv id hidi,wrk,if_pos (by simp[aM.wr]),hkb]
                simp[View.set]
              have hlk:=htv _ _ _ hopk
              have hfin:bt P o (Ts i) g.view g.length=some (vs i,.none,a.rd):=by
                simp only[bt,hop1]
                rw[e1,e2,yb hgid,hlk,← yb hvi]
                exact hopi
              exact .op gi hfin
            · exact htv.elim
          · simp at hto
        · simp at hto
      · simp at hto
    · exact ⟨none,fun k a b h1 h2 h3 h4 _=>main i k a b h1 h2 h3 h4 (fun e=>hi (by simp at e; exact e.1.symm)),fun k a b o h1=>by simp at h1⟩
theorem Ga (hm:P.follows .mixedOrders=true) {fz:Fz} {id:Nat} {ops:Array Oper} {sc:SC} {T:Env} {h:av} {Q:Exit→Env→View→Prop} (hc:vB P n fz ops.toList=some sc) (hw:wS P sc T h.view Q) :
    ∃ e T' h',bK P n (.region id ops true) T h e T' h'∧(fa h h'∧h.length≤h'.length)∧Q e T' h'.view:=by
  unfold vB at hc
  split at hc
  · simp at hc
  · rename_i l hl
    split at hc
    · simp at hc
    · rename_i hok
      have hok:(group l).all nD=true:=by simpa using hok
      have hl':ca P n ops.toList fz ops.toList=some (gz (group l)):=by rw[dO]; exact hl
      split at hc
      · rename_i ht
        simp only[Option.map_eq_some_iff] at hc
        obtain ⟨aps,hap,rfl⟩:=hc
        obtain ⟨recs,T',h',tr,hst,hk,hro⟩:=qW (group l) ops.toList T h hl' hok hw
        rw[dO] at hro
        refine ⟨.normal,T',h',?_,hst,hk.rest⟩
        have hcf:nT ops.toList recs:=GU tr hap (tC hk) (by simpa using hro.1) (fun i x r hx hr=>by
          simp only[List.getElem?_map,Option.map_eq_some_iff] at hx
          obtain ⟨s,hs,rfl⟩:=hx
          exact hro.2 i s r hs hr)
        simpa using rM hm (id:=id) tr ht hcf
      · simp at hc
theorem Ge (hm:P.follows .mixedOrders=true) {fz:Fz} {id:Nat} {ops:Array Oper} {sc:SC} {T:Env} {h:av} {Q:Exit→Env→View→Prop} (hc:uQ P n fz ops.toList=some sc) (hw:wS P sc T h.view Q) :
    ∃ e T' h',bK P n (.region id ops true) T h e T' h'∧(fa h h'∧h.length≤h'.length)∧Q e T' h'.view:=by
  unfold uQ at hc
  split at hc
  · simp at hc
  · rename_i l hl
    split at hc
    · simp at hc
    · rename_i hok
      have hok:(group l).all nD=true:=by simpa using hok
      have hl':ca P n ops.toList fz ops.toList=some (gz (group l)):=by rw[dO]; exact hl
      split at hc
      · rename_i ht
        split at hc
        · simp only[Option.map_eq_some_iff] at hc
          obtain ⟨aps,hap,rfl⟩:=hc
          obtain ⟨recs,T',h',tr,hst,hk,hro⟩:=qW (group l) ops.toList T h hl' hok hw
          rw[dO] at hro
          refine ⟨.normal,T',h',?_,hst,hk.rest⟩
          have hcf:=zM tr hap (tC hk) (by simpa using hro.1) (fun i x r hx hr=>by
            simp only[List.getElem?_map,Option.map_eq_some_iff] at hx
            obtain ⟨s,hs,rfl⟩:=hx
            exact hro.2 i s r hs hr) (fun p hp=>by simp at hp)
          simpa using pH hm (id:=id) tr ht hcf
        · rename_i p hp
          split at hc
          · rename_i tol hto
            simp only[Option.map_eq_some_iff] at hc
            obtain ⟨aps,hap,rfl⟩:=hc
            obtain ⟨recs,T',h',tr,hst,hk,hro⟩:=qW (group l) ops.toList T h hl' hok hw
            rw[dO] at hro
            refine ⟨.normal,T',h',?_,hst,hk.2.rest⟩
            have hcf:=zM tr hap (tC hk.2) (by simpa using hro.1) (fun i x r hx hr=>by
              simp only[List.getElem?_map,Option.map_eq_some_iff] at hx
              obtain ⟨s,hs,rfl⟩:=hx
              exact hro.2 i s r hs hr) (fun p' hp'=>by
                simp only[Option.some.injEq] at hp'
                subst hp'
                exact ⟨tol,hto,hk.1⟩)
            simpa using pH hm (id:=id) tr ht hcf
          · simp at hc
      · simp at hc
theorem pL (hm:P.follows .mixedOrders=true) {fz:Fz} {id:Nat} {ops:Array Oper} {draw quiet:Bool} {sc:SC} {T:Env} {h:av} {Q:Exit→Env→View→Prop} (hc:nj P n fz ops.toList draw quiet=some sc) (hw:wS P sc T h.view Q) :
    ∃ e T' h',bK P n (.region id ops draw) T h e T' h'∧(fa h h'∧h.length≤h'.length)∧Q e T' h'.view:=by
  unfold nj at hc
  split at hc
  · simp at hc
  · rename_i l hl
    split at hc
    · simp at hc
    · rename_i hok
      have hok:(group l).all nD=true:=by simpa using hok
      have hl':ca P n ops.toList fz ops.toList=some (gz (group l)):=by rw[dO]; exact hl
      have key:qw P quiet (group l) T h.view (Q .normal)→(draw=true→iA ops.toList=true∧yH ops.toList (l.map fun s=>ff P quiet s.b)=true) →
          ∃ e T' h',bK P n (.region id ops draw) T h e T' h'∧(fa h h'∧h.length≤h'.length)∧Q e T' h'.view:=by
        intro hw hdr
        obtain ⟨recs,T',h',tr,hst,hk,hro⟩:=qW (group l) ops.toList T h hl' hok hw
        rw[dO] at hro
        refine ⟨.normal,T',h',?_,hst,hk⟩
        cases hd:draw with
        | false=>simpa using AD (id:=id) tr
        | true =>
          obtain ⟨h1,h2⟩:=hdr hd
          have hcf:nT ops.toList recs:=GD tr h2 (by simpa using hro.1) (fun i x r hx hr=>by
            simp only[List.getElem?_map,Option.map_eq_some_iff] at hx
            obtain ⟨s,hs,rfl⟩:=hx
            exact hro.2 i s r hs hr)
          simpa using rM hm (id:=id) tr h1 hcf
      split at hc
      · rename_i hd
        split at hc
        · rename_i ht
          simp at hc; subst hc
          exact key hw (fun _=>by simpa using ht)
        · simp at hc
      · rename_i hd
        simp at hc; subst hc
        exact key hw (fun e=>absurd e hd)
theorem dQ {a b:Option SC} {sc:SC} (h:orElse' a b=some sc):a=some sc∨b=some sc:=by
  cases a with
  | none=>exact .inr h
  | some x=>exact .inl h
theorem FG (hm:P.follows .mixedOrders=true) {fz:List Nat} {id:Nat} {ops:Array Oper} {draw:Bool} {sc:SC} {T:Env} {h:av} {Q:Exit→Env→View→Prop} (hc:vr P n fz ops.toList draw=some sc) (hw:wS P sc T h.view Q) :
    ∃ e T' h',bK P n (.region id ops draw) T h e T' h'∧(fa h h'∧h.length≤h'.length)∧Q e T' h'.view:=by
  unfold vr at hc
  rcases dQ hc with h1 | h1
  · exact pL hm h1 hw
  · clear hc
    split at h1
    · rename_i hd
      subst hd
      rcases dQ h1 with h0 | h1
      · split at h0
        · exact Ge hm h0 hw
        · simp at h0
      rcases dQ h1 with h2 | h2
      · exact Ga hm h2 hw
      · rcases dQ h2 with h3 | h3
        · exact pL hm h3 hw
        · rcases dQ h3 with h4 | h4
          · exact pL hm h4 hw
          · exact pL hm h4 hw
    · simp at h1
theorem x8 {e:Exit} {a b:Prop} (h:ta e a b):(e=.normal∧a)∨(e≠.normal∧b):=by
  cases e with
  | normal=>exact .inl ⟨rfl,h⟩
  | _=>exact .inr ⟨by simp,h⟩
def lM (P:Program) (n:Nat) (fz:List Nat) (c:Code):Prop:=∀ sc:SC,bO P n fz c=some sc→∀ (T:Env) (h:av) (Q:Exit→Env→View→Prop),wS P sc T h.view Q →
    ∃ e T' h',bK P n c T h e T' h'∧(fa h h'∧h.length≤h'.length)∧Q e T' h'.view
theorem xE {fz:List Nat} : lM P n fz .skip:=by
  intro sc hc T h Q hw; simp[bO] at hc; subst hc; exact ⟨_,T,h,.skip,⟨.refl _,Nat.le_refl _⟩,hw⟩
theorem zk {fz:List Nat} {x y:Code} (ihx:lM P n fz x) (ihy:lM P n fz y):lM P n fz (.seq x y):=by
  intro sc hc T h Q hw
  simp only[bO] at hc
  split at hc
  · rename_i a b h1 h2
    simp at hc; subst hc
    simp only[wS] at hw
    obtain ⟨e,T1,h1',hx,st1,hq⟩:=ihx a h1 T h _ hw
    rcases x8 hq with ⟨rfl,hq⟩ | ⟨hne,hq⟩
    · obtain ⟨e2,T2,h2',hy,st2,hq2⟩:=ihy b h2 T1 h1' _ hq
      exact ⟨e2,T2,h2',hx.seq hy,⟨st1.1.trans st2.1 st1.2,Nat.le_trans st1.2 st2.2⟩,hq2⟩
    · exact ⟨e,T1,h1',hx.Ce hne,st1,hq⟩
  · simp at hc
theorem lP {fz:Fz} {ops:List Oper} {draw quiet:Bool} {sc:SC} (h:nj P n fz ops draw quiet=some sc) (l:Nat):jI sc l=none:=by
  unfold nj at h
  repeat' (first | (simp only[Option.some.injEq] at h; subst h; rfl) | (split at h) | (simp at h; done))
theorem CA {fz:Fz} {ops:List Oper} {sc:SC} (h:vB P n fz ops=some sc) (l:Nat):jI sc l=none:=by
  unfold vB at h
  repeat' (first | (simp only[Option.map_eq_some_iff] at h; obtain ⟨_,_,rfl⟩:=h; rfl) | (split at h) | (simp at h; done))
theorem Dk {fz:Fz} {ops:List Oper} {sc:SC} (h:uQ P n fz ops=some sc) (l:Nat):jI sc l=none:=by
  unfold uQ at h
  repeat' (first | (simp only[Option.map_eq_some_iff] at h; obtain ⟨_,_,rfl⟩:=h; rfl) | (split at h) | (simp at h; done))
theorem CH {fz:List Nat} {ops:List Oper} {draw:Bool} {sc:SC} (h:vr P n fz ops draw=some sc) (l:Nat):jI sc l=none:=by
  unfold vr at h
  rcases dQ h with h1 | h1
  · exact lP h1 l
  · split at h1
    · rcases dQ h1 with h0 | h1
      · split at h0
        · exact Dk h0 l
        · simp at h0
      rcases dQ h1 with h2 | h2
      · exact CA h2 l
      · rcases dQ h2 with h3 | h3
        · exact lP h3 l
        · rcases dQ h3 with h4 | h4
          · exact lP h4 l
          · exact lP h4 l
    · simp at h1
theorem Eu {fz:List Nat} : ∀ (c:Code) (sc:SC),bO P n fz c=some sc→∀ l,match findLabel c l with
    | some rest=>∃ r,jI sc l=some r∧bO P n fz rest=some r
    | none=>jI sc l=none:=by
  intro c
  induction c with
  | seq x y ihx ihy =>
    intro sc hc l
    simp only[bO] at hc
    split at hc
    · rename_i a b h1 h2
      simp at hc; subst hc
      have hx:=ihx a h1 l
      have hy:=ihy b h2 l
      simp only[findLabel,jI]
      cases h3:findLabel x l with
      | some rx =>
        rw[h3] at hx
        obtain ⟨r,e1,e2⟩:=hx
        exact ⟨.seq r b,by rw[e1],by simp only[bO,e2,h2]⟩
      | none =>
        rw[h3] at hx
        simp only at hx ⊢
        rw[hx]
        exact hy
    · simp at hc
  | label l' =>
    intro sc hc l
    simp[bO] at hc; subst hc
    simp only[findLabel,jI]
    by_cases e:(l' == l)=true
    · rw[if_pos e]; exact ⟨.skip,by rw[if_pos e],by simp[bO]⟩
    · rw[if_neg e]; simp only; rw[if_neg e]
  | region id ops draw=>intro sc hc l; simp only[bO] at hc; simp only[findLabel]; exact CH hc l
  | cond x y z _ _ =>
    intro sc hc l
    simp only[bO] at hc
    split at hc
    · simp at hc; subst hc; rfl
    · simp at hc
  | block id c _=>intro sc hc l; simp only[bO,Option.map_eq_some_iff] at hc; obtain ⟨_,_,rfl⟩:=hc; rfl
  | loop c _=>intro sc hc l; simp only[bO,Option.map_eq_some_iff] at hc; obtain ⟨_,_,rfl⟩:=hc; rfl
  | scope c _ =>
    intro sc hc l
    simp only[bO] at hc
    split at hc
    · split at hc
      · simp only[Option.map_eq_some_iff] at hc; obtain ⟨_,_,rfl⟩:=hc; rfl
      · simp at hc
    · simp at hc
  | skip=>intro sc hc l; simp[bO] at hc; subst hc; rfl
  | exit id=>intro sc hc l; simp[bO] at hc; subst hc; rfl
  | ret=>intro sc hc l; simp[bO] at hc; subst hc; rfl
  | goto l'=>intro sc hc l; simp[bO] at hc; subst hc; rfl
  | _=>intro sc hc; simp[bO] at hc
theorem CB {fz:List Nat} {c:Code} (h0:lM P n fz c) (hr:∀ l rest,findLabel c l=some rest→lM P n fz rest):lM P n fz (.scope c):=by
  intro sc hc T h Q hw
  simp only[bO] at hc
  split at hc
  · rename_i a h1
    split at hc
    · rename_i l h2
      simp only[Option.map_eq_some_iff] at hc
      obtain ⟨r,h3,rfl⟩:=hc
      have hf:=Eu c a h1 l
      cases h4:findLabel c l with
      | none=>rw[h4] at hf; simp only at hf; rw[hf] at h3; simp at h3
      | some rest =>
        rw[h4] at hf
        obtain ⟨r',e1,e2⟩:=hf
        rw[h3] at e1
        have e1:=Option.some.inj e1
        subst e1
        simp only[wS] at hw
        obtain ⟨I,K,hw1,hw2⟩:=hw
        have go:∀ k T (h:av),I k T h.view→∃ e T' h',lN P n c rest T h e T' h'∧(fa h h'∧h.length≤h'.length)∧Q e T' h'.view:=by
          intro k
          induction k using Nat.strongRecOn with
          | ind k ihk =>
            intro T h hI
            obtain ⟨e,T1,h1',hx,st1,hq⟩:=hr l rest h4 r e2 T h _ (hw2 k T h.view hI)
            cases e with
            | goto l' =>
              obtain ⟨rfl,k',hlt,hI'⟩:=hq
              obtain ⟨e2,T2,h2',hy,st2,hq2⟩:=ihk k' hlt T1 h1' hI'
              exact ⟨e2,T2,h2',lN.jump hx h4 hy,⟨st1.1.trans st2.1 st1.2,Nat.le_trans st1.2 st2.2⟩,hq2⟩
            | _=>exact ⟨_,T1,h1',.out hx rfl,st1,hq⟩
        obtain ⟨e,T1,h1',hx,st1,hq⟩:=h0 a h1 T h _ hw1
        cases e with
        | goto l' =>
          obtain ⟨rfl,k',_,hI'⟩:=hq
          obtain ⟨e2,T2,h2',hy,st2,hq2⟩:=go k' T1 h1' hI'
          exact ⟨e2,T2,h2',.scope (lN.jump hx h4 hy),⟨st1.1.trans st2.1 st1.2,Nat.le_trans st1.2 st2.2⟩,hq2⟩
        | _=>exact ⟨_,T1,h1',.scope (.out hx rfl),st1,hq⟩
    · simp at hc
  · simp at hc
theorem GX (hm:P.follows .mixedOrders=true) {fz:List Nat} : ∀ c:Code,lM P n fz c∧∀ l rest,findLabel c l=some rest→lM P n fz rest:=by
  intro c
  induction c with
  | skip=>exact ⟨xE,fun l rest h=>by simp[findLabel] at h⟩
  | region id ops draw=>exact ⟨fun sc hc T h Q hw=>FG hm hc hw,fun l rest h=>by simp[findLabel] at h⟩
  | seq x y ihx ihy =>
    refine ⟨zk ihx.1 ihy.1,fun l rest h=>?_⟩
    simp only[findLabel] at h
    split at h
    · rename_i r hr
      simp only[Option.some.injEq] at h; subst h
      exact zk (ihx.2 _ _ hr) ihy.1
    · exact ihy.2 _ _ h
  | cond c x y ihx ihy =>
    refine ⟨?_,fun l rest h=>by simp[findLabel] at h⟩
    intro sc hc T h Q hw
    simp only[bO] at hc
    split at hc
    · rename_i a b h1 h2
      simp at hc; subst hc
      simp only[wS] at hw
      split at hw
      · rename_i t ht
        have hT:m9 (SX.of c) t T=T:=by
          unfold m9
          split
          · rename_i k hk
            rw[hk] at ht
            exact tD ht
          · rfl
        rw[SX.bE] at ht
        cases t with
        | true =>
          have:=hw.1 rfl
          rw[hT] at this
          obtain ⟨e,T',h',hx,st,hq⟩:=ihx.1 a h1 T h Q this
          exact ⟨e,T',h',.cond ht hx,st,hq⟩
        | false =>
          have:=hw.2 rfl
          rw[hT] at this
          obtain ⟨e,T',h',hx,st,hq⟩:=ihy.1 b h2 T h Q this
          exact ⟨e,T',h',.cond ht hx,st,hq⟩
      · exact hw.elim
    · simp at hc
  | block id c ih =>
    refine ⟨?_,fun l rest h=>by simp[findLabel] at h⟩
    intro sc hc T h Q hw
    simp only[bO,Option.map_eq_some_iff] at hc
    obtain ⟨a,h1,rfl⟩:=hc
    simp only[wS] at hw
    obtain ⟨e,T',h',hx,st,hq⟩:=ih.1 a h1 T h _ hw
    exact ⟨_,T',h',hx.block,st,hq⟩
  | loop c ih =>
    refine ⟨?_,fun l rest h=>by simp[findLabel] at h⟩
    intro sc hc T h Q hw
    simp only[bO,Option.map_eq_some_iff] at hc
    obtain ⟨a,h1,rfl⟩:=hc
    simp only[wS] at hw
    obtain ⟨I,⟨k,hk⟩,hstep⟩:=hw
    have go:∀ k T (h:av),I k T h.view→∃ e T' h',kq P n c T h e T' h'∧(fa h h'∧h.length≤h'.length)∧Q e T' h'.view:=by
      intro k
      induction k using Nat.strongRecOn with
      | ind k ihk =>
        intro T h hI
        obtain ⟨e,T1,h1',hx,st1,hq⟩:=ih.1 a h1 T h _ (hstep k T h.view hI)
        rcases x8 hq with ⟨rfl,k',hlt,hI'⟩ | ⟨hne,hq⟩
        · obtain ⟨e2,T2,h2',hy,st2,hq2⟩:=ihk k' hlt T1 h1' hI'
          exact ⟨e2,T2,h2',.step hx hy,⟨st1.1.trans st2.1 st1.2,Nat.le_trans st1.2 st2.2⟩,hq2⟩
        · exact ⟨e,T1,h1',.out hx hne,st1,hq⟩
    obtain ⟨e,T',h',hx,st,hq⟩:=go k T h hk
    exact ⟨e,T',h',.loop hx,st,hq⟩
  | exit id=>exact ⟨fun sc hc T h Q hw=>by simp[bO] at hc; subst hc; exact ⟨_,T,h,.exit,⟨.refl _,Nat.le_refl _⟩,hw⟩,fun l rest h=>by simp[findLabel] at h⟩
  | ret=>exact ⟨fun sc hc T h Q hw=>by simp[bO] at hc; subst hc; exact ⟨_,T,h,.ret,⟨.refl _,Nat.le_refl _⟩,hw⟩,fun l rest h=>by simp[findLabel] at h⟩
  | label l'=>exact ⟨fun sc hc T h Q hw=>by simp[bO] at hc; subst hc; exact ⟨_,T,h,.label,⟨.refl _,Nat.le_refl _⟩,hw⟩,fun l rest h=>by
      simp only[findLabel] at h
      split at h
      · simp only[Option.some.injEq] at h; subst h; exact xE
      · simp at h⟩
  | goto l'=>exact ⟨fun sc hc T h Q hw=>by simp[bO] at hc; subst hc; exact ⟨_,T,h,.goto,⟨.refl _,Nat.le_refl _⟩,hw⟩,fun l rest h=>by simp[findLabel] at h⟩
  | scope c ih=>exact ⟨CB ih.1 ih.2,fun l rest h=>by simp[findLabel] at h⟩
  | _=>exact ⟨fun sc hc=>by simp[bO] at hc,fun l rest h=>by simp[findLabel] at h⟩
theorem I2 (hm:P.follows .mixedOrders=true) {fz:List Nat} (c:Code) (sc:SC) (hc:bO P n fz c=some sc) (T:Env) (h:av) (Q:Exit→Env→View→Prop) (hw:wS P sc T h.view Q) :
    ∃ e T' h',bK P n c T h e T' h'∧(fa h h'∧h.length≤h'.length)∧Q e T' h'.view:=(GX hm c).1 sc hc T h Q hw
theorem I7 {T:Env} {h:av} {r:ResultVar} {l:List SR} {rest:List ResultVar} (hc:dq P (r :: rest)=some l):∃ s l',l=s :: l'∧dq P rest=some l'∧∀ K:V→Prop,wR T h.view s K→∃ v,mq P T h r=some v∧K v:=by
  cases r with
  | tmp t =>
    simp only[dq,Option.map_eq_some_iff] at hc
    obtain ⟨l',h1,rfl⟩:=hc
    exact ⟨.tmp t,l',rfl,h1,fun K hk=>⟨_,rfl,hk⟩⟩
  | cell a t =>
    simp only[dq] at hc
    split at hc
    · rename_i k l' h1 h2
      simp at hc; subst hc
      refine ⟨.cell a k,l',rfl,h2,fun K hk=>?_⟩
      simp only[wR] at hk
      simp only[mq,iE,pT h1]
      split at hk
      · rename_i id i j ha
        split at hk
        · rename_i es hH
          obtain ⟨hlt,hk⟩:=hk
          obtain ⟨v,hv,hk⟩:=kc hk
          exact ⟨v,by rw[ha]; simp only[hH]; rw[if_pos hlt,hv]; rfl,hk⟩
        · exact hk.elim
      · rename_i e j ha
        obtain ⟨v,hv,hk⟩:=kc hk
        exact ⟨v,by rw[ha]; simp only; rw[hv]; rfl,hk⟩
      · exact hk.elim
    · simp at hc
theorem D9 {T:Env} {h:av} {K:List V→Prop} : ∀ (rs:List ResultVar) (l:List SR) (acc:List V),dq P rs=some l→vQ T h.view l acc K→∃ vs,iy P T h rs=some vs∧K (acc ++ vs)
  | [],l,acc,hc,hw=>by simp[dq] at hc; subst hc; exact ⟨[],rfl,by simpa [vQ] using hw⟩
  | r :: rest,l,acc,hc,hw=>by
    obtain ⟨s,l',rfl,h1,h2⟩:=I7 (T:=T) (h:=h) hc
    simp only[vQ] at hw
    obtain ⟨v,hv,hk⟩:=h2 _ hw
    obtain ⟨vs,hvs,hk⟩:=D9 rest l' (acc ++ [v]) h1 hk
    exact ⟨v :: vs,by simp[iy,hv,hvs],by simpa using hk⟩
def wF (P:Program) (F:SF) (vs:List V) (H:View) (K:V→View→Prop):Prop :=
  vs.length≤F.n∧wS P F.code (gY vs) H fun e T' H'=>(e=.ret∨e=.normal)∧vQ T' H' F.res [] fun l=>K (ai l) H'
theorem aH.of (hm:P.follows .mixedOrders=true) {f:FuncId} {fz:List Nat} {F:SF} (hF:bD P f fz=some F) {vs:List V} {H:View} {K:V→View→Prop} (hw:wF P F vs H K):aH P f vs H K:=by
  unfold bD at hF
  split at hF
  · rename_i fn hfn
    split at hF
    · rename_i c hb
      split at hF
      · rename_i sc rs h1 h2 h3
        simp at hF; subst hF
        refine ⟨h3,?_⟩
        rintro h rfl
        obtain ⟨e,T',h',hx,st,he,hr⟩:=I2 hm c sc h1 _ h _ hw.2
        obtain ⟨vs',hvs,hk⟩:=D9 _ _ [] h2 hr
        refine ⟨ai vs',h',bo.Cg hfn hb hw.1 hx he ?_,st.1,by simpa using hk⟩
        unfold DD
        rw[hvs]
        cases vs' with
        | nil=>rfl
        | cons a l=>cases l <;> rfl
      · simp at hF
    · simp at hF
  · simp at hF
theorem aH.mono {f:FuncId} {vs:List V} {H:View} {K K':V→View→Prop} (h:aH P f vs H K) (hk:∀ r H',K r H'→K' r H'):aH P f vs H K' :=
  ⟨h.1,fun h0 e=>let ⟨r,h',a,s,b⟩:=h.2 h0 e; ⟨r,h',a,s,hk _ _ b⟩⟩
theorem aC.DE {f:FuncId} {vs:List V} {H:View} {t:V} {K:V→View→Prop} (h:aC P f vs t) (hok:b7 P f=true) (hk:K t H):yD P f vs H K :=
  ⟨hok,fun h0 e=>⟨t,h0,bo.eQ h h0,fun _ _=>rfl,e ▸ hk⟩⟩
theorem aH.DE {f:FuncId} {vs:List V} {H:View} {K:V→View→Prop} (h:aH P f vs H fun r H'=>(∀ id,H id≠.dead→H' id=H id)∧K r H'):yD P f vs H K :=
  ⟨h.1,fun h0 e=>by
    obtain ⟨r,h',ha,st,hf,hk⟩:=h.2 h0 e
    refine ⟨r,h',ha,fun id hid=>?_,hk⟩
    by_cases hd:h0.view id=.dead
    · rw[hd]; exact st id hid hd
    · rw[← e] at hf; exact hf id hd⟩
end
inductive bS {α:Type} (x:α):Type where
  | mk
def eZ (s:ByteArray):List Int:=s.data.toList.map fun b=>(b.toNat:Int)
theorem fY (s:ByteArray):s.size=(eZ s).length:=by rw[eZ,List.length_map,bsize]
def cD (P:Program) (c:SC) (T:Env) (H:View) (Q:Exit→Env→View→Prop) (_:bS (T,H,Q)):Prop:=wS P (.loop c) T H Q
def uK (P:Program) (l:Nat) (c r:SC) (T:Env) (H:View) (Q:Exit→Env→View→Prop) (_:bS (T,H,Q)):Prop:=wS P (.scope l c r) T H Q
def aN (P:Program) (quiet:Bool) (f:FuncId) (vs:List V) (H:View) (K:V→View→Prop) (_:bS (H,K)):Prop :=
  if quiet then yD P f vs H K else aH P f vs H K
def uP {α:Type} (v:α) (F:α→Prop) (_:bS F):Prop:=F v
def cx (v:V) (F:V→Prop) (_:bS F):Prop:=F v
def Am (o:br) (F:br→Prop) (_:bS F):Prop:=F o
def ld {α:Type} (o:Option α) (F:Option α→Prop) (_:bS F):Prop:=F o
def ax (b:Bool) (A B:Prop) (_:bS (A,B)):Prop:=(b=true→A)∧(b=false→B)
theorem Jo {α:Type} (v:α) (F:α→Prop) (w:bS F):uP v F w=F v:=propext Iff.rfl
section
variable (F:V→Prop) (w:bS F)
theorem B0 (v:Value):cx (.val v) F w=F (.val v):=propext Iff.rfl
theorem BY (k:Nat):cx (.emp k) F w=F (.emp k):=propext Iff.rfl
theorem Cp:cx .cL F w=F .cL:=propext Iff.rfl
theorem Co (es:List (List V)):cx (.aI es) F w=F (.aI es):=propext Iff.rfl
theorem DZ (a b c d:Nat):cx (.sl a b c d) F w=F (.sl a b c d):=propext Iff.rfl
theorem B8 (a b c:Nat):cx (.ptr a b c) F w=F (.ptr a b c):=propext Iff.rfl
theorem y8 (e:List V) (j:Nat):cx (.aS e j) F w=F (.aS e j):=propext Iff.rfl
theorem ET (a:Nat):cx (.mp a) F w=F (.mp a):=propext Iff.rfl
theorem D2 (f:FuncId) (a b:List V):cx (.fn f a b) F w=F (.fn f a b):=propext Iff.rfl
theorem B7 (cs:List V):cx (.agg cs) F w=F (.agg cs):=propext Iff.rfl
theorem BE (cs:List V):cx (.aV cs) F w=F (.aV cs):=propext Iff.rfl
end
theorem Bp (F:br→Prop) (w:bS F) (k:Nat) (es:List (List V)):Am (.arr k es) F w=F (.arr k es):=propext Iff.rfl
theorem BJ (F:br→Prop) (w:bS F) (es:List (V × V × Nat)) (k:Nat):Am (.map es k) F w=F (.map es k):=propext Iff.rfl
theorem Ag {α:Type} (F:Option α→Prop) (w:bS F) (x:α):ld (some x) F w=F (some x):=propext Iff.rfl
theorem y1 (A B:Prop) (w:bS (A,B)):ax true A B w=A:=by simp[ax]
theorem x6 (A B:Prop) (w:bS (A,B)):ax false A B w=B:=by simp[ax]
theorem Bq (b:Bool) (A B:Prop) (w:bS (A,B)):ax (!b) A B w=ax b B A .mk:=by cases b <;> simp[ax]
theorem ax.split {b:Bool} {A B:Prop} {w:bS (A,B)} (h1:b=true→A) (h2:b=false→B):ax b A B w:=⟨h1,h2⟩
theorem ax.dec {p:Prop} [Decidable p] {A B:Prop} {w:bS (A,B)} (h1:p→A) (h2:¬ p→B):ax (decide p) A B w:=⟨fun h=>h1 (by simpa using h),fun h=>h2 (by simpa using h)⟩
theorem ax.eq {a b:Int} {A B:Prop} {w:bS (A,B)} (h1:a=b→A) (h2:¬ a=b→B):ax (a == b) A B w:=⟨fun h=>h1 (by simpa using h),fun h=>h2 (by simpa using h)⟩
theorem ax.ne {a b:Int} {A B:Prop} {w:bS (A,B)} (h1:¬ a=b→A) (h2:a=b→B):ax (a != b) A B w:=⟨fun h=>h1 (by simpa using h),fun h=>h2 (by simpa using h)⟩
section
variable (P:Program) (T:Env) (H:View)
theorem Hl (F:SF) (vs:List V) (K:V→View→Prop):wF P F vs H K=(vs.length≤F.n∧wS P F.code (gY vs) H fun e T' H'=>(e=.ret∨e=.normal)∧vQ T' H' F.res [] fun l=>uP (ai l) (fun v=>K v H') .mk):=propext Iff.rfl
theorem BB (Q:Exit→Env→View→Prop):wS P .skip T H Q=Q .normal T H:=propext Iff.rfl
theorem xq (q:Bool) (gs:List SG) (Q:Exit→Env→View→Prop):wS P (.region q gs) T H Q=qw P q gs T H (Q .normal):=propext Iff.rfl
theorem u9 (aps:List (Nat × Nat)) (gs:List SG) (Q:Exit→Env→View→Prop):wS P (.sw aps gs) T H Q=qw P false gs T H (fun T' H'=>qR aps T' (Q .normal T' H')):=propext Iff.rfl
theorem vW (tol:Nat × Nat × Nat) (aps:List (Nat × Nat)) (gs:List SG) (Q:Exit→Env→View→Prop):wS P (.wD tol aps gs) T H Q=qw P false gs T H (fun T' H'=>C5 P tol.1 (T' tol.2.1) (T' tol.2.2) H∧qR aps T' (Q .normal T' H')):=propext Iff.rfl
theorem BW (K:Prop):qR [] T K=K:=propext Iff.rfl
theorem z8 (a b:Nat) (l:List (Nat × Nat)) (K:Prop):qR ((a,b) :: l) T K=(eT (T a) (T b)∧qR l T K):=propext Iff.rfl
theorem B1 (i j k i' j' k':Nat):eT (.ptr i j k) (.ptr i' j' k')=(i≠i'):=propext Iff.rfl
theorem BL (i j k a b c d:Nat):eT (.ptr i j k) (.sl a b c d)=(i≠a):=propext Iff.rfl
theorem Aq (i j k e:Nat):eT (.ptr i j k) (.emp e)=True:=id rfl
theorem zh (i j k:Nat):eT (.ptr i j k) .cL=True:=id rfl
theorem AM (i j k:Nat) (es:List (List V)):eT (.ptr i j k) (.aI es)=True:=id rfl
theorem Bv (a b c d e f g h:Nat):eT (.sl a b c d) (.sl e f g h)=(a≠e):=propext Iff.rfl
theorem Ff (a b c d e:Nat):eT (.sl a b c d) (.emp e)=True:=id rfl
theorem Fj (a b c d:Nat):eT (.sl a b c d) .cL=True:=id rfl
theorem DY (a b c d:Nat) (es:List (List V)):eT (.sl a b c d) (.aI es)=True:=id rfl
theorem By (k:Nat) (v:V):eT (.emp k) v=True:=by cases v <;> rfl
theorem Br (v:V):eT .cL v=True:=by cases v <;> rfl
theorem BG (es:List (List V)) (v:V):eT (.aI es) v=True:=by cases v <;> rfl
theorem AG (e:List V) (j:Nat) (v:V):eT (.aS e j) v=True:=by cases v <;> rfl
theorem Ei (x y:SC) (Q:Exit→Env→View→Prop):wS P (.seq x y) T H Q=wS P x T H fun e T' H'=>ta e (wS P y T' H' Q) (Q e T' H'):=propext Iff.rfl
theorem Bk (c:SX) (x y:SC) (Q:Exit→Env→View→Prop):wS P (.cond c x y) T H Q=cx (c.at T) (fun v=>match v with
    | .val (.bool b)=>ax b (wS P x (m9 c true T) H Q) (wS P y (m9 c false T) H Q) .mk
    | _=>False) .mk:=propext Iff.rfl
theorem zN (id:Nat) (c:SC) (Q:Exit→Env→View→Prop):wS P (.block id c) T H Q=wS P c T H fun e=>Q (kp id e):=propext Iff.rfl
theorem Bg (id:Nat) (Q:Exit→Env→View→Prop):wS P (.exit id) T H Q=Q (.exit id) T H:=propext Iff.rfl
theorem EP (Q:Exit→Env→View→Prop):wS P .ret T H Q=Q .ret T H:=propext Iff.rfl
theorem AR (l:Nat) (c r:SC) (Q:Exit→Env→View→Prop):wS P (.scope l c r) T H Q=uK P l c r T H Q .mk:=propext Iff.rfl
theorem yV (l:Nat) (Q:Exit→Env→View→Prop):wS P (.label l) T H Q=Q .normal T H:=propext Iff.rfl
theorem Bd (l:Nat) (Q:Exit→Env→View→Prop):wS P (.goto l) T H Q=Q (.goto l) T H:=propext Iff.rfl
theorem uE (l l':Nat) (a b:Prop):lQ l (.goto l') a b=(l'=l∧a):=propext Iff.rfl
theorem rN (l:Nat) (a b:Prop):lQ l .normal a b=b:=propext Iff.rfl
theorem vp (l i:Nat) (a b:Prop):lQ l (.exit i) a b=b:=propext Iff.rfl
theorem xO (l:Nat) (a b:Prop):lQ l .ret a b=b:=propext Iff.rfl
theorem AH (l:Nat) (a b:Prop):ta (.goto l) a b=b:=propext Iff.rfl
theorem vy (i l:Nat):kp i (.goto l)=.goto l:=id rfl
theorem Bb (c:SC) (Q:Exit→Env→View→Prop):wS P (.loop c) T H Q=cD P c T H Q .mk:=propext Iff.rfl
theorem Bw (q:Bool) (K:Env→View→Prop):qw P q [] T H K=K T H:=propext Iff.rfl
theorem AA (q:Bool) (g:SG) (r:List SG) (K:Env→View→Prop):qw P q (g :: r) T H K=wG P q g T H fun T' H'=>qw P q r T' H' K:=propext Iff.rfl
theorem Cw (q:Bool) (ops:List (Option Nat × SB)) (K:Env→View→Prop):wG P q ⟨none,ops⟩ T H K=qZ P q ops T H K:=propext Iff.rfl
theorem Cd (q:Bool) (d:Nat) (ops:List (Option Nat × SB)) (K:Env→View→Prop):wG P q ⟨some (d,true),ops⟩ T H K=cx (T d) (fun v=>match v with
    | .val (.bool b)=>ax b (qZ P q ops (T.put (some d) (.val (.bool true))) H K) (K (eR ops (T.put (some d) (.val (.bool false)))) H) .mk
    | .aV []=>K (eR ops T) H
    | _=>False) .mk:=propext Iff.rfl
theorem AF (q:Bool) (d:Nat) (ops:List (Option Nat × SB)) (K:Env→View→Prop):wG P q ⟨some (d,false),ops⟩ T H K=cx (T d) (fun v=>match v with
    | .val (.bool b)=>ax b (K (eR ops (T.put (some d) (.val (.bool true)))) H) (qZ P q ops (T.put (some d) (.val (.bool false))) H K) .mk
    | .aV []=>K (eR ops T) H
    | _=>False) .mk:=by
  simp only[wG,cx]
  generalize T d=v
  cases v with
  | val x=>cases x <;> simp[ax,and_comm]
  | aV l=>cases l <;> simp
  | _=>simp
theorem s9:eR [] T=T:=id rfl
theorem r8 (d:Option Nat) (b:SB) (r:List (Option Nat × SB)):eR ((d,b) :: r) T=eR r (T.put d (.aV [])):=id rfl
theorem Cm (q:Bool) (K:Env→View→Prop):qZ P q [] T H K=K T H:=propext Iff.rfl
theorem zl (q:Bool) (d:Option Nat) (b:SB) (r:List (Option Nat × SB)) (K:Env→View→Prop):qZ P q ((d,b) :: r) T H K=wB P q b T H fun v H'=>uP v (fun v'=>qZ P q r (T.put d v') H' K) .mk:=propext Iff.rfl
theorem G7 (q:Bool) (s:SI) (K:V→View→Prop):wB P q (.op s) T H K=wI P s T H K:=propext Iff.rfl
theorem Ci (q:Bool) (f:SX) (args:List SX) (K:V→View→Prop):wB P q (.call f args) T H K=cx (f.at T) (fun v=>match v with
    | .fn g first cap=>aN P q g (first ++ args.map (SX.at T) ++ cap) H K .mk
    | _=>False) .mk:=propext Iff.rfl
theorem E3 (x:SX) (K:V→View→Prop):wI P (.bc x) T H K=K (x.at T) H:=propext Iff.rfl
theorem BN (c a b:SX) (K:V→View→Prop):wI P (.pick c a b) T H K=cx (c.at T) (fun v=>match v with
    | .val (.bool t)=>ax t (K (a.at T) H) (K (b.at T) H) .mk
    | _=>False) .mk:=by
  simp only[wI,cx]
  generalize c.at T=v
  cases v with
  | val x =>
    cases x with
    | bool t=>cases t <;> simp[ax]
    | _=>simp
  | _=>simp
theorem Fc (x:SX) (K:V→View→Prop):wI P (.box x) T H K=cx (x.at T) (fun v=>v.cells.all aL=true∧uP v.cells (fun cs=>∀ n,H n=.dead→K (.ptr n 0 0) (H.set n (.arr cs.length [cs]))) .mk) .mk:=propext Iff.rfl
theorem DT (x:SX) (K:V→View→Prop):wI P (.fq x) T H K=cx (x.at T) (fun v=>v.cells.all aL=true∧uP v.cells (fun cs=>K (.aS cs 0) H) .mk) .mk:=propext Iff.rfl
theorem zg (z:List V) (K:V→View→Prop):wI P (.alloc z) T H K=(z.all aL=true∧∀ n,H n=.dead→K (.ptr n 0 0) (H.set n (.arr z.length [z]))):=propext Iff.rfl
theorem Cb (sz:Option Nat) (a:SX) (K:V→View→Prop):wI P (.load sz a) T H K=cx (a.at T) (fun v=>match v with
    | .ptr id i j=>Am (H id) (fun o=>match o with
      | .arr _ es=>i < es.length∧uP (es.getD i []) (fun e=>fO sz e j fun v=>K v H) .mk
      | _=>False) .mk
    | .aS e j=>fO sz e j fun v=>K v H
    | _=>False) .mk:=propext Iff.rfl
theorem zp (sz:Option Nat) (a:SX) (K:V→View→Prop):wI P (.su sz a) T H K=cx (a.at T) (fun v=>match v with
    | .aS e j=>fO sz e j fun v=>K v H
    | _=>False) .mk:=propext Iff.rfl
theorem yT (sz:Nat) (a x:SX) (K:V→View→Prop):wI P (.store sz a x) T H K=cx (a.at T) (fun v=>match v with
    | .ptr id i j=>Am (H id) (fun o=>match o with
      | .arr esz es=>uP (x.at T).cells (fun cs=>(i < es.length∧cs.length=sz∧j+cs.length≤esz∧cs.all aL=true) ∧
          uP (es.set i (ab (es.getD i []) j cs)) (fun es'=>K .any (H.set id (.arr esz es'))) .mk) .mk
      | _=>False) .mk
    | _=>False) .mk:=propext Iff.rfl
theorem BH (x:SX) (K:V→View→Prop):wI P (.tQ x) T H K=cx (x.at T) (fun v=>match v with
    | .ptr id i j=>K (.ptr id i j) H
    | .aS e j=>K (.aS e j) H
    | .fn f a b=>K (.fn f a b) H
    | _=>False) .mk:=propext Iff.rfl
theorem Bh (off:Nat) (x:SX) (K:V→View→Prop):wI P (.addr off x) T H K=cx (x.at T) (fun v=>match v with
    | .ptr id i j=>K (.ptr id i (j+off)) H
    | .aS e j=>K (.aS e (j+off)) H
    | _=>False) .mk:=propext Iff.rfl
theorem yS (off:Nat) (sz:Option Nat) (x:SX) (K:V→View→Prop):wI P (.field off sz x) T H K=cx (x.at T) (fun v=>match v with
    | .agg cs=>fO sz cs off fun v=>K v H
    | _=>False) .mk:=propext Iff.rfl
theorem Fe (sz:Nat) (x i:SX) (K:V→View→Prop):wI P (.idx sz x i) T H K=ld (asNat (i.at T)) (fun o=>match o with
    | none=>False
    | some q=>cx (x.at T) (fun v=>match v with
      | .sl id off len esz=>(q < len∧esz=sz)∧K (.ptr id (off+q) 0) H
      | .aI es=>ld es[q]? (fun o=>match o with
        | some e=>e.length=sz∧K (.aS e 0) H
        | none=>False) .mk
      | _=>False) .mk) .mk:=by
  simp only[wI,ld,cx]
  cases asNat (i.at T) with
  | none=>rfl
  | some q =>
    simp only
    cases x.at T with
    | aI es =>
      simp only
      cases h:es[q]? with
      | none=>simp
      | some e=>simp
    | _=>rfl
theorem Bf (f:FuncId) (first cap:List SX) (K:V→View→Prop):wI P (.mj f first cap) T H K=K (.fn f (first.map (SX.at T)) (cap.map (SX.at T))) H:=propext Iff.rfl
theorem zf (K:V→View→Prop):wI P .lW T H K=(∀ n,H n=.dead→K (.mp n) (H.set n (.map [] 0))):=propext Iff.rfl
theorem FE (i:Nat) (x:SX) (K:V→View→Prop):wI P (.ext i x) T H K=cx (x.at T) (fun v=>match v with
    | .aV vs=>i < vs.length∧K (vs.getD i .any) H
    | _=>False) .mk:=propext Iff.rfl
theorem EI (x:SX) (K:V→View→Prop):wI P (.len x) T H K=ld (cT (x.at T)) (fun o=>match o with
    | some n=>K (ak n) H
    | none=>False) .mk:=propext Iff.rfl
theorem BT (x:SX) (K:V→View→Prop):wI P (.ik x) T H K=cx (x.at T) (fun v=>match v with
    | .val (.string s)=>K (ak s.size) H
    | _=>False) .mk:=propext Iff.rfl
theorem zH (op:BinOp) (x y:SX) (K:V→View→Prop):wI P (.arith op x y) T H K=cx (x.at T) (fun v=>cx (y.at T) (fun v'=>match v,v' with
    | .val (.int k a),.val (.int k' b)=>k=k'∧ld (ag op k a b) (fun o=>match o with | some v=>K (.val v) H | none=>False) .mk
    | _,_=>False) .mk) .mk:=propext Iff.rfl
theorem G2 (l:Bool) (x y:SX) (K:V→View→Prop):wI P (.sh l x y) T H K=cx (x.at T) (fun v=>cx (y.at T) (fun v'=>match v,v' with
    | .val (.int k a),.val (.int _ b)=>0≤b∧K (.val (.int k (Ds l k a b))) H
    | _,_=>False) .mk) .mk:=propext Iff.rfl
theorem Er (op:BinOp) (x y:SX) (K:V→View→Prop):wI P (.hZ op x y) T H K=cx (x.at T) (fun v=>cx (y.at T) (fun v'=>match v,v' with
    | .val (.string a),.val (.string b)=>(match op with
      | .eql=>K (.val (.bool (eX a b))) H
      | .neq=>K (.val (.bool (!eX a b))) H
      | _=>False)
    | _,_=>False) .mk) .mk:=propext Iff.rfl
theorem Ca (x i:SX) (K:V→View→Prop):wI P (.ee x i) T H K=cx (x.at T) (fun v=>ld (asNat (i.at T)) (fun o=>match v,o with
    | .val (.string s),some q=>ld (eZ s)[q]? (fun o=>match o with
      | some c=>K (.val (.int .u8 c)) H
      | none=>False) .mk
    | _,_=>False) .mk) .mk:=by
  simp only[wI,ld,cx]
  generalize x.at T=v
  generalize asNat (i.at T)=o
  cases v with
  | val u =>
    cases u with
    | string s =>
      cases o with
      | none=>rfl
      | some q =>
        simp only[eZ,List.getElem?_map]
        cases h:s.data.toList[q]? with
        | none=>simp
        | some e=>simp
    | _=>rfl
  | _=>rfl
theorem EF (x:SX) (K:V→View→Prop):wI P (.not x) T H K=cx (x.at T) (fun v=>match v with
    | .val (.bool t)=>K (.val (.bool (!t))) H
    | _=>False) .mk:=propext Iff.rfl
theorem Ew (eq:Bool) (k:Nat) (x y:SX) (K:V→View→Prop):wI P (.nil eq k x y) T H K=ld (aj (isNil k (x.at T)) (isNil k (y.at T))) (fun o=>match o with
    | some b=>K (.val (.bool (if eq=true then b else !b))) H
    | none=>False) .mk:=propext Iff.rfl
theorem Cr (x y:SX) (K:V→View→Prop):wI P (.beq true x y) T H K=cx (x.at T) (fun v=>cx (y.at T) (fun v'=>match v,v' with
    | .val (.bool a),.val (.bool b)=>K (.val (.bool (a == b))) H
    | _,_=>False) .mk) .mk:=propext Iff.rfl
theorem BO (x y:SX) (K:V→View→Prop):wI P (.beq false x y) T H K=cx (x.at T) (fun v=>cx (y.at T) (fun v'=>match v,v' with
    | .val (.bool a),.val (.bool b)=>K (.val (.bool (a != b))) H
    | _,_=>False) .mk) .mk:=propext Iff.rfl
theorem DW (x y:SX) (K:V→View→Prop):wI P (.mm true x y) T H K=cx (x.at T) (fun v=>cx (y.at T) (fun v'=>match v,v' with
    | .val (.int k a),.val (.int _ b)=>K (.val (.int k (if b > a then b else a))) H
    | _,_=>False) .mk) .mk:=propext Iff.rfl
theorem DU (x y:SX) (K:V→View→Prop):wI P (.mm false x y) T H K=cx (x.at T) (fun v=>cx (y.at T) (fun v'=>match v,v' with
    | .val (.int k a),.val (.int _ b)=>K (.val (.int k (if b < a then b else a))) H
    | _,_=>False) .mk) .mk:=propext Iff.rfl
theorem B2 (k:IntKind) (x:SX) (K:V→View→Prop):wI P (.conv k x) T H K=cx (x.at T) (fun v=>match v with
    | .val (.int _ a)=>K (.val (.int k (k.wrap a))) H
    | _=>False) .mk:=propext Iff.rfl
theorem z6 (n k:Nat) (o:br):View.set H n o k=if k=n then o else H k:=id rfl
theorem zq (z:List V) (parts:List (Nat × Nat × SX)) (K:V→View→Prop):wI P (.build z parts) T H K=ld (ae z (parts.map fun p=>(p.1,p.2.1,p.2.2.at T))) (fun o=>match o with
    | some cs=>K (.agg cs) H
    | none=>False) .mk:=propext Iff.rfl
theorem xy (len sz:Nat) (z:List V) (parts:List (Nat × SX)) (K:V→View→Prop):wI P (.bz len sz z parts) T H K=ld (af sz (List.replicate len z) (parts.map fun p=>(p.1,p.2.at T))) (fun o=>match o with
    | some es=>∀ n,H n=.dead→K (.sl n 0 len sz) (H.set n (.arr sz es))
    | none=>False) .mk:=propext Iff.rfl
theorem AP (sz:Nat) (x:SX) (lo hi:Option SX) (K:V→View→Prop):wI P (.slice sz x lo hi) T H K=ld (o5 sz (x.at T) (lo.map (SX.at T)) (hi.map (SX.at T))) (fun o=>match o with
    | some (v,.none,_)=>K v H
    | _=>False) .mk:=propext Iff.rfl
theorem Bo (sz bytes:Nat) (z:List V) (l c:SX) (K:V→View→Prop):wI P (.make sz bytes z l c) T H K=ld (asNat (l.at T)) (fun a=>ld (asNat (c.at T)) (fun b=>match a,b with
    | some l,some c=>(l≤c∧c < bb∧bytes * c < bb)∧(c=0→K (.emp 2) H)∧(c≠0→∀ n,H n=.dead→K (.sl n 0 l sz) (H.set n (.arr sz (List.replicate l z))))
    | _,_=>False) .mk) .mk:=propext Iff.rfl
def lR (sz bytes:Nat) (x:V) (xs:List (List V)) (H:View) (K:V→View→Prop) (_:bS (H,K)):Prop:=if xs.isEmpty=true then (match x with
        | .emp k=>K (.emp k) H
        | .cL=>K .cL H
        | .aI es=>K (.aI es) H
        | .sl a b c d=>K (.sl a b c d) H
        | _=>False)
      else (xs.all fun e=>e.length == sz && e.all aL)=true∧(match x with
        | .emp _=>(xs.length * bytes < bb∧xs.length < bb)∧∀ n,H n=.dead→K (.sl n 0 xs.length sz) (H.set n (.arr sz xs))
        | .sl id off len esz=>match H id with
          | .arr _ es=>(off+len≤es.length∧esz=sz∧(len+xs.length) * bytes < bb∧len+xs.length < bb) ∧
              ∀ n,H n=.dead→K (.sl n 0 (len+xs.length) esz) ((H.set id .dead).set n (.arr esz ((es.drop off).take len ++ xs)))
          | _=>False
        | _=>False)
theorem E7 (sz bytes:Nat) (x y:SX) (K:V→View→Prop):wI P (.app sz bytes x y) T H K=ld (bB H (y.at T)) (fun o=>match o with
    | some (xs,_)=>lR sz bytes (x.at T) xs H K .mk
    | none=>False) .mk:=propext Iff.rfl
theorem q5 (sz bytes k:Nat) (xs:List (List V)) (K:V→View→Prop) (w:bS (H,K)) (h0:xs.isEmpty=false):lR sz bytes (.emp k) xs H K w=((xs.all fun e=>e.length == sz && e.all aL)=true∧(xs.length * bytes < bb∧xs.length < bb)∧∀ n,H n=.dead→K (.sl n 0 xs.length sz) (H.set n (.arr sz xs))):=by
  unfold lR; rw[if_neg (by rw[h0]; simp)]
theorem tG (sz bytes id off len esz:Nat) (xs:List (List V)) (K:V→View→Prop) (w:bS (H,K)) (h0:xs.isEmpty=false):lR sz bytes (.sl id off len esz) xs H K w=((xs.all fun e=>e.length == sz && e.all aL)=true∧Am (H id) (fun o=>match o with
          | .arr _ es=>(off+len≤es.length∧esz=sz∧(len+xs.length) * bytes < bb∧len+xs.length < bb) ∧
              ∀ n,H n=.dead→K (.sl n 0 (len+xs.length) esz) ((H.set id .dead).set n (.arr esz ((es.drop off).take len ++ xs)))
          | _=>False) .mk):=by
  unfold lR Am; rw[if_neg (by rw[h0]; simp)]
theorem uW (id off len esz z:Nat) (es:List (List V)) (hH:H id=.arr z es) (hl:off+(len+1)≤es.length):bB H (.sl id off (len+1) esz)=some ((es.drop off).take (len+1),[id]):=by
  simp only[bB,hH]; rw[if_pos hl]
theorem nV (es:List (List V)):bB H (.aI es)=some (es,[]):=id rfl
theorem oh (k:Nat):bB H (.emp k)=some ([],[]):=id rfl
theorem Cc (x:SX) (K:V→View→Prop):wI P (.wa x) T H K=cx (x.at T) (fun v=>match v with
    | .aI es=>ld (kP es) (fun o=>match o with
      | some l=>K (.val (.string ⟨l.toArray⟩)) H
      | none=>False) .mk
    | _=>False) .mk:=propext Iff.rfl
theorem Cj (x:SX) (K:V→View→Prop):wI P (.dG x) T H K=cx (x.at T) (fun v=>match v with
    | .val (.string s)=>K (.aI (dW s)) H
    | _=>False) .mk:=propext Iff.rfl
def sG (P:Program) (op:Op) (ty:TypeId) (T:Env) (H:View) (K:V→View→Prop) (_:bS (T,H,K)):Prop:=wI P (.old op ty) T H K
theorem FR (op:Op) (ty:TypeId) (K:V→View→Prop):wI P (.old op ty) T H K=sG P op ty T H K .mk:=propext Iff.rfl
theorem Fh (t:Nat):ev T (.tmp t)=T t:=id rfl
theorem Ae (v:Value):ev T (.const v)=dc v:=id rfl
theorem FT (t:Nat):(SX.tmp t).at T=T t:=id rfl
theorem D6 (v:V):(SX.val v).at T=v:=id rfl
theorem BZ (d t:Nat) (v:V):(T.put (some d) v) t=if t=d then v else T t:=id rfl
theorem zu (v:V):T.put none v=T:=id rfl
theorem zw (vs:List V) (t:Nat):gY vs t=vs.getD t .any:=id rfl
theorem vI (e:List V) (j:Nat) (K:V→Prop):fO none e j K=(j < e.length∧K (e.getD j .any)):=propext Iff.rfl
theorem u7 (n:Nat) (e:List V) (j:Nat) (K:V→Prop):fO (some n) e j K=(j+n≤e.length∧K (.agg ((e.drop j).take n))):=propext Iff.rfl
theorem uH (a b:Prop):ta .normal a b=a:=propext Iff.rfl
theorem zj (i:Nat) (a b:Prop):ta (.exit i) a b=b:=propext Iff.rfl
theorem BS (a b:Prop):ta .ret a b=b:=propext Iff.rfl
theorem r9 (i:Nat):kp i .normal=.normal:=id rfl
theorem xS (i:Nat):kp i .ret=.ret:=id rfl
theorem vz (i j:Nat):kp i (.exit j)=if j=i then .normal else .exit j:=by simp only[kp]
theorem Bm (acc:List V) (K:List V→Prop):vQ T H [] acc K=K acc:=propext Iff.rfl
theorem y4 (r:SR) (l:List SR) (acc:List V) (K:List V→Prop):vQ T H (r :: l) acc K=wR T H r fun v=>vQ T H l (acc ++ [v]) K:=propext Iff.rfl
theorem Fm (t:Nat) (K:V→Prop):wR T H (.tmp t) K=K (T t):=propext Iff.rfl
theorem Bx (t:Nat) (sz:Option Nat) (K:V→Prop):wR T H (.cell t sz) K=cx (T t) (fun v=>match v with
    | .ptr id i j=>Am (H id) (fun o=>match o with
      | .arr _ es=>i < es.length∧uP (es.getD i []) (fun e=>fO sz e j K) .mk
      | _=>False) .mk
    | .aS e j=>fO sz e j K
    | _=>False) .mk:=propext Iff.rfl
theorem xt (t:Nat) (b:Bool):m9 (.tmp t) b T=T.put (some t) (.val (.bool b)):=id rfl
theorem xZ (v:V) (b:Bool):m9 (.val v) b T=T:=id rfl
theorem D7:(Exit.ret=Exit.ret∨Exit.ret=Exit.normal)=True:=by simp
theorem xR:(Exit.normal=Exit.ret∨Exit.normal=Exit.normal)=True:=by simp
end
section
variable {P:Program} {T:Env} {H:View}
theorem cD.intro {c:SC} {Q:Exit→Env→View→Prop} {v:bS (T,H,Q)} (I:Nat→Env→View→Prop) (k:Nat) (h0:I k T H)
    (hs:∀ k T H,I k T H→wS P c T H fun e T' H'=>ta e (∃ k',k' < k∧I k' T' H') (Q e T' H')):cD P c T H Q v:=by
  simp only[cD,wS]
  exact ⟨I,⟨k,h0⟩,hs⟩
theorem uK.intro {l:Nat} {c r:SC} {Q:Exit→Env→View→Prop} {v:bS (T,H,Q)} (I:Nat→Env→View→Prop) (K:Nat)
    (hs:∀ k T H,I k T H→wS P r T H fun e T' H'=>lQ l e (∃ k',k' < k∧I k' T' H') (Q e T' H'))
    (h0:(∀ k T H,I k T H→wS P r T H fun e T' H'=>lQ l e (∃ k',k' < k∧I k' T' H') (Q e T' H'))→wS P c T H fun e T' H'=>lQ l e (∃ k,k < K∧I k T' H') (Q e T' H')):uK P l c r T H Q v:=by
  simp only[uK,wS]
  exact ⟨I,K,h0 hs,hs⟩
theorem aN.pure {q:Bool} {f:FuncId} {vs:List V} {K:V→View→Prop} {v:bS (H,K)} {t:V} (hc:aC P f vs t) (hok:b7 P f=true) (hk:K t H):aN P q f vs H K v:=by
  unfold aN
  cases q with
  | true=>exact hc.DE hok hk
  | false =>
    refine ⟨hok,?_⟩
    rintro h rfl
    exact ⟨t,h,bo.eQ hc h,.refl _,hk⟩
theorem aN.wi {f:FuncId} {vs:List V} {K:V→View→Prop} {v:bS (H,K)} (hc:aH P f vs H K):aN P false f vs H K v:=hc
theorem xD:av.view []=fun _=>br.dead:=by funext id; simp[av.view]
theorem aC.of {f:FuncId} {vs:List V} {t:V} (ht:∀ v∈vs,Tree v) (h:aH P f vs (fun _=>.dead) fun r H'=>∀ h':av,h'.view=H'→Fr h' r t):aC P f vs t:=by
  obtain ⟨r,h',ha,_,hf⟩:=h.2 [] xD
  exact aC.py ht ha (hf h' rfl)
theorem wrap64 {x:Int} (h1 : -9223372036854775808≤x) (h2:x≤9223372036854775807):IntKind.wrap .i64 x=x:=by
  unfold IntKind.wrap
  have e1:(2:Int) ^ IntKind.i64.bits=18446744073709551616:=by rfl
  have e2:(2:Int) ^ (IntKind.i64.bits - 1)=9223372036854775808:=by rfl
  have e3:IntKind.i64.signed=true:=by rfl
  simp only[e1,e2,e3,Bool.true_and,decide_eq_true_eq]
  split <;> omega
theorem xG {k:IntKind} {i:Int} (h:0≤i):asNat (.val (.int k i))=some i.toNat:=by simp[asNat,h]
end
theorem xz (v:Value):V.cells (.val v)=[.val v]:=id rfl
theorem vY (v:Value):aL (.val v)=true:=id rfl
theorem xg (k:Nat):V.cells (.emp k)=[.emp k]:=id rfl
theorem Bl (k:Nat):aL (.emp k)=true:=id rfl
theorem xY  : V.cells .cL=[.cL]:=id rfl
theorem Bj  : aL .cL=true:=id rfl
theorem xw (es:List (List V)):V.cells (.aI es)=[.aI es]:=id rfl
theorem Be (es:List (List V)):aL (.aI es)=true:=id rfl
theorem yX (a b c d:Nat):V.cells (.sl a b c d)=[.sl a b c d]:=id rfl
theorem EB (a b c d:Nat):aL (.sl a b c d)=true:=id rfl
theorem xH (a b c:Nat):V.cells (.ptr a b c)=[.ptr a b c]:=id rfl
theorem Bu (a b c:Nat):aL (.ptr a b c)=true:=id rfl
theorem uB (e:List V) (j:Nat):V.cells (.aS e j)=[.aS e j]:=id rfl
theorem Aa (e:List V) (j:Nat):aL (.aS e j)=true:=id rfl
theorem Ax (a:Nat):V.cells (.mp a)=[.mp a]:=id rfl
theorem D8 (a:Nat):aL (.mp a)=true:=id rfl
theorem Au (f:FuncId) (a b:List V):V.cells (.fn f a b)=[.fn f a b]:=id rfl
theorem DO (f:FuncId) (a b:List V):aL (.fn f a b)=true:=id rfl
theorem xB (cs:List V):V.cells (.agg cs)=cs:=id rfl
theorem Bz (k:Nat):cT (.emp k)=some 0:=id rfl
theorem BR:cT .cL=some 0:=id rfl
theorem BA (es:List (List V)):cT (.aI es)=some es.length:=id rfl
theorem FL (a b c d:Nat):cT (.sl a b c d)=some c:=id rfl
abbrev Jk {p:Prop} (_:p):Prop:=p
abbrev Wr:Prop:=Jk (And.intro @Hl <| And.intro @BB <| And.intro @xq <| And.intro @u9 <| And.intro @vW <| And.intro @BW <| And.intro @z8 <| And.intro @Ei <|
    And.intro @Bk <| And.intro @zN <| And.intro @Bg <| And.intro @EP <| And.intro @AR <| And.intro @yV <| And.intro @Bd <| And.intro @uE <| And.intro @rN <| And.intro @vp <| And.intro @xO <| And.intro @AH <| And.intro @vy <|
    And.intro @Bb <| And.intro @Bw <| And.intro @AA <| And.intro @Cw <|
    And.intro @Cd <| And.intro @AF <| And.intro @s9 <| And.intro @r8 <|
    And.intro @Cm <| And.intro @zl <| And.intro @G7 <| And.intro @Ci <|
    And.intro @E3 <| And.intro @BN <| And.intro @Fc <| And.intro @DT <|
    And.intro @zg <| And.intro @Cb <| And.intro @zp <| And.intro @yT <|
    And.intro @BH <| And.intro @Bh <| And.intro @yS <| And.intro @Fe <|
    And.intro @Bf <| And.intro @zf <| And.intro @FE <| And.intro @EI <|
    And.intro @BT <| And.intro @zH <| And.intro @G2 <| And.intro @Er <| And.intro @Ca <|
    And.intro @EF <| And.intro @Ew <| And.intro @Cr <| And.intro @BO <|
    And.intro @DW <| And.intro @DU <| And.intro @B2 <| And.intro @Cc <|
    And.intro @Cj <| And.intro @zq <| And.intro @xy <| And.intro @AP <|
    And.intro @Bo <| And.intro @E7 <| And.intro @FR <| And.intro @Fh <| And.intro @Ae <| And.intro @FT <| And.intro @D6 <|
    And.intro @BZ <| And.intro @zu <| And.intro @zw <| And.intro @vI <|
    And.intro @u7 <| And.intro @uH <| And.intro @zj <| And.intro @BS <|
    And.intro @r9 <| And.intro @xS <| And.intro @vz <| And.intro @Bm <|
    And.intro @y4 <| And.intro @Fm <| And.intro @Bx <| And.intro @xt @xZ)
theorem wr:Wr:=(And.intro @Hl <| And.intro @BB <| And.intro @xq <| And.intro @u9 <| And.intro @vW <| And.intro @BW <| And.intro @z8 <| And.intro @Ei <|
    And.intro @Bk <| And.intro @zN <| And.intro @Bg <| And.intro @EP <| And.intro @AR <| And.intro @yV <| And.intro @Bd <| And.intro @uE <| And.intro @rN <| And.intro @vp <| And.intro @xO <| And.intro @AH <| And.intro @vy <|
    And.intro @Bb <| And.intro @Bw <| And.intro @AA <| And.intro @Cw <|
    And.intro @Cd <| And.intro @AF <| And.intro @s9 <| And.intro @r8 <|
    And.intro @Cm <| And.intro @zl <| And.intro @G7 <| And.intro @Ci <|
    And.intro @E3 <| And.intro @BN <| And.intro @Fc <| And.intro @DT <|
    And.intro @zg <| And.intro @Cb <| And.intro @zp <| And.intro @yT <|
    And.intro @BH <| And.intro @Bh <| And.intro @yS <| And.intro @Fe <|
    And.intro @Bf <| And.intro @zf <| And.intro @FE <| And.intro @EI <|
    And.intro @BT <| And.intro @zH <| And.intro @G2 <| And.intro @Er <| And.intro @Ca <|
    And.intro @EF <| And.intro @Ew <| And.intro @Cr <| And.intro @BO <|
    And.intro @DW <| And.intro @DU <| And.intro @B2 <| And.intro @Cc <|
    And.intro @Cj <| And.intro @zq <| And.intro @xy <| And.intro @AP <|
    And.intro @Bo <| And.intro @E7 <| And.intro @FR <| And.intro @Fh <| And.intro @Ae <| And.intro @FT <| And.intro @D6 <|
    And.intro @BZ <| And.intro @zu <| And.intro @zw <| And.intro @vI <|
    And.intro @u7 <| And.intro @uH <| And.intro @zj <| And.intro @BS <|
    And.intro @r9 <| And.intro @xS <| And.intro @vz <| And.intro @Bm <|
    And.intro @y4 <| And.intro @Fm <| And.intro @Bx <| And.intro @xt @xZ)
abbrev Wq:Prop:=Jk (And.intro @eq_self.{1} <| And.intro @ne_eq.{1} <| And.intro @implies_true.{1} <| And.intro @implies_true.{0} <| And.intro @decide_true <| And.intro @decide_false <| And.intro @B1 <| And.intro @BL <| And.intro @Aq <| And.intro @zh <| And.intro @AM <| And.intro @AG <| And.intro @Bv <| And.intro @Ff <| And.intro @Fj <| And.intro @DY <| And.intro @By <| And.intro @Br <| And.intro @BG <| And.intro @xz <| And.intro @vY <| And.intro @xg <| And.intro @Bl <| And.intro @xY <| And.intro @Bj <| And.intro @xw <| And.intro @Be <| And.intro @yX <| And.intro @EB <| And.intro @xH <| And.intro @Bu <| And.intro @uB <| And.intro @Aa <| And.intro @Ax <| And.intro @D8 <| And.intro @Au <| And.intro @DO <| And.intro @xB <| And.intro @Bz <| And.intro @BR <| And.intro @BA <| And.intro @FL <| And.intro @true_or <| And.intro @or_true <| And.intro @or_false <| And.intro @false_or <|
    And.intro @Jo <| And.intro @B0 <| And.intro @BY <| And.intro @Cp <|
    And.intro @Co <| And.intro @DZ <| And.intro @B8 <| And.intro @y8 <|
    And.intro @ET <| And.intro @D2 <| And.intro @B7 <| And.intro @BE <|
    And.intro @Bp <| And.intro @BJ <| And.intro @Ag <| And.intro @y1 <|
    And.intro @x6 <| And.intro @Bq <| And.intro @List.getD_cons_zero.{0} <| And.intro @List.getD_cons_succ.{0} <|
    And.intro @List.length_cons.{0} <| And.intro @List.length_nil.{0} <| And.intro @List.length_map.{0,0} <| And.intro @wrap64 <|
    And.intro @true_and <| And.intro @and_true <| And.intro @and_self <| And.intro @decide_eq_true_eq <|
    And.intro @decide_eq_false_iff_not <| And.intro @List.all_cons.{0} <| And.intro @List.all_nil.{0} <| And.intro @Bool.and_self <|
    And.intro @List.nil_append.{0} <| And.intro @List.cons_append.{0} <| And.intro @Nat.zero_add <| And.intro @xG <|
    And.intro @Int.toNat_natCast <| And.intro @D7 <| And.intro @xR <| And.intro @bne_iff_ne.{0} <|
    And.intro @beq_iff_eq.{0} <| And.intro @Bool.not_eq_true <| And.intro @Bool.not_true <| And.intro @Bool.not_false <|
    And.intro @List.append_nil.{0} <| And.intro @List.map_cons.{0,0} <| And.intro @List.map_nil.{0,0} <| And.intro @Bool.true_eq_false <|
    And.intro @Bool.false_eq_true <| And.intro @false_implies <| And.intro @true_implies <| And.intro @Bool.not_not <|
    And.intro @List.drop_zero.{0} <| And.intro @z6 <| And.intro @List.set_cons_zero.{0} <| And.intro @List.set_cons_succ.{0} <|
    And.intro @List.drop_nil.{0} <| And.intro @Nat.add_zero <| And.intro @List.replicate_zero.{0} <| And.intro @List.replicate_succ.{0} <|
    And.intro @nV <| And.intro @oh <| And.intro @q5 <| And.intro @tG <|
    And.intro @List.isEmpty_cons.{0} <| And.intro @Option.map_none.{0,0} <| And.intro @Option.map_some.{0,0} <| And.intro @Nat.succ_ne_zero <|
    And.intro @List.take_succ_cons.{0} <| And.intro @List.take_zero.{0} <| And.intro @List.drop_succ_cons.{0} <| And.intro @bne_eq_false_iff_eq.{0} <|
    And.intro @beq_eq_false_iff_ne.{0} <| And.intro @not_true_eq_false <| And.intro @not_false_eq_true @Decidable.not_not)
theorem wq:Wq:=(And.intro @eq_self.{1} <| And.intro @ne_eq.{1} <| And.intro @implies_true.{1} <| And.intro @implies_true.{0} <| And.intro @decide_true <| And.intro @decide_false <| And.intro @B1 <| And.intro @BL <| And.intro @Aq <| And.intro @zh <| And.intro @AM <| And.intro @AG <| And.intro @Bv <| And.intro @Ff <| And.intro @Fj <| And.intro @DY <| And.intro @By <| And.intro @Br <| And.intro @BG <| And.intro @xz <| And.intro @vY <| And.intro @xg <| And.intro @Bl <| And.intro @xY <| And.intro @Bj <| And.intro @xw <| And.intro @Be <| And.intro @yX <| And.intro @EB <| And.intro @xH <| And.intro @Bu <| And.intro @uB <| And.intro @Aa <| And.intro @Ax <| And.intro @D8 <| And.intro @Au <| And.intro @DO <| And.intro @xB <| And.intro @Bz <| And.intro @BR <| And.intro @BA <| And.intro @FL <| And.intro @true_or <| And.intro @or_true <| And.intro @or_false <| And.intro @false_or <|
    And.intro @Jo <| And.intro @B0 <| And.intro @BY <| And.intro @Cp <|
    And.intro @Co <| And.intro @DZ <| And.intro @B8 <| And.intro @y8 <|
    And.intro @ET <| And.intro @D2 <| And.intro @B7 <| And.intro @BE <|
    And.intro @Bp <| And.intro @BJ <| And.intro @Ag <| And.intro @y1 <|
    And.intro @x6 <| And.intro @Bq <| And.intro @List.getD_cons_zero.{0} <| And.intro @List.getD_cons_succ.{0} <|
    And.intro @List.length_cons.{0} <| And.intro @List.length_nil.{0} <| And.intro @List.length_map.{0,0} <| And.intro @wrap64 <|
    And.intro @true_and <| And.intro @and_true <| And.intro @and_self <| And.intro @decide_eq_true_eq <|
    And.intro @decide_eq_false_iff_not <| And.intro @List.all_cons.{0} <| And.intro @List.all_nil.{0} <| And.intro @Bool.and_self <|
    And.intro @List.nil_append.{0} <| And.intro @List.cons_append.{0} <| And.intro @Nat.zero_add <| And.intro @xG <|
    And.intro @Int.toNat_natCast <| And.intro @D7 <| And.intro @xR <| And.intro @bne_iff_ne.{0} <|
    And.intro @beq_iff_eq.{0} <| And.intro @Bool.not_eq_true <| And.intro @Bool.not_true <| And.intro @Bool.not_false <|
    And.intro @List.append_nil.{0} <| And.intro @List.map_cons.{0,0} <| And.intro @List.map_nil.{0,0} <| And.intro @Bool.true_eq_false <|
    And.intro @Bool.false_eq_true <| And.intro @false_implies <| And.intro @true_implies <| And.intro @Bool.not_not <|
    And.intro @List.drop_zero.{0} <| And.intro @z6 <| And.intro @List.set_cons_zero.{0} <| And.intro @List.set_cons_succ.{0} <|
    And.intro @List.drop_nil.{0} <| And.intro @Nat.add_zero <| And.intro @List.replicate_zero.{0} <| And.intro @List.replicate_succ.{0} <|
    And.intro @nV <| And.intro @oh <| And.intro @q5 <| And.intro @tG <|
    And.intro @List.isEmpty_cons.{0} <| And.intro @Option.map_none.{0,0} <| And.intro @Option.map_some.{0,0} <| And.intro @Nat.succ_ne_zero <|
    And.intro @List.take_succ_cons.{0} <| And.intro @List.take_zero.{0} <| And.intro @List.drop_succ_cons.{0} <| And.intro @bne_eq_false_iff_eq.{0} <|
    And.intro @beq_eq_false_iff_ne.{0} <| And.intro @not_true_eq_false <| And.intro @not_false_eq_true @Decidable.not_not)
inductive tT:V→Prop
  | val (v:Value):tT (.val v)
  | aV (cs:List V):(∀ i,i < cs.length→∃ v,cs.getD i .any=.val v)→tT (.aV cs)
theorem GH {Z Z':Nat→Prop} {μ μ':Mu} {hp hp':Array Obj} {t:V} {x:Value} (hf:tT t) (h:ao Z μ hp t x):ao Z' μ' hp' t x:=by
  cases hf with
  | val=>cases h with | val _ hv=>exact .val _ hv
  | aV cs hc =>
    cases h with
    | aV _ aas h1 h2 =>
      refine .aV _ _ h1 fun i hi=>?_
      have:=h2 i hi
      obtain ⟨v,hv⟩:=hc i hi
      rw[hv] at this ⊢
      generalize aas.getD i undef=y at this ⊢
      cases this with | val _ hv=>exact .val _ hv
theorem bo.borrow {P:Program} {f:FuncId} {ts vs:List V} {t:V} {h:av} (hc:aC P f ts t) (hf:tT t) (hl:ts.length=vs.length)
    (hfr:∀ i,i < vs.length→Fr h (vs.getD i .any) (ts.getD i .any)):bo P f vs h t h:=by
  refine ⟨Nat.le_refl _,fun Z μ F w xs hrel hr hfree=>?_⟩
  have hts:dd (fun b=>Z b∨fj μ b) μ w.heap ts xs:=⟨by rw[hl,hrel.1],fun i hi=>vl hr (hfr i (by omega)) (hrel.2 i (by omega))⟩
  have hzl:∀ b,(Z b∨fj μ b)→b < w.heap.size:=by
    rintro b (hb | ⟨id,o,s,hb⟩)
    · exact hr.bG b hb
    · exact hr.lt _ _ _ _ hb
  refine (hc _ μ w xs hts hzl).mono ?_
  rintro e w' ⟨x,Z',rfl,hv,hs,hz,hz',ho⟩
  have hm:dU Z Z μ μ w.heap w'.heap:=⟨fun _ h=>h,fun b hb=>ho b (hr.bG b hb) (fun x=>x),fun _ _ h=>h,ho.kI⟩
  exact ⟨x,Z,μ,rfl,GH hf (hv μ),⟨fun id=>(hr.obj id).mono hm rfl (fun b o s hx=>ho b (hr.lt _ _ _ _ hx) (fun x=>x)),hr.inj,fun id b o s hx=>Nat.lt_of_lt_of_le (hr.lt _ _ _ _ hx) hs.size,fun b hb=>Nat.lt_of_lt_of_le (hr.bG b hb) hs.size,hr.er⟩,
    ⟨hs,hm,fun b hb _=>ho b hb (fun x=>x),fun b hb=>.inl hb,fun _ _ _ _ h=>.inl h⟩,fun _ _=>rfl⟩
def dz (H:View) (v t:V):Prop:=∀ h:av,h.view=H→Fr h v t
theorem dz.tree {H:View} {v:V} (h:Tree v):dz H v v:=fun _ _=>.tree _ h
theorem dz.sl {H:View} {id off len esz z:Nat} {es:List (List V)} (hH:H id=.arr z es) (hle:off+len≤es.length) (ht:∀ e∈es,∀ v∈e,Tree v) :
    dz H (.sl id off len esz) (.aI ((es.drop off).take len)):=by
  rintro h rfl
  have hg:∀ i,i < len→((es.drop off).take len).getD i []=es.getD (off+i) []:=fun i hi=>by
    simp[List.getD_eq_getElem?_getD,List.getElem?_take,hi]
  refine .sl id off len esz z es _ hH hle (by simp; omega) (fun i hi=>by rw[hg i hi]) (fun i j hi hj=>?_)
  rw[hg i hi] at hj ⊢
  refine .tree _ ?_
  have h1:off+i < es.length:=by omega
  have e1:es.getD (off+i) []=es[off+i]:=by simp[List.getD_eq_getElem?_getD,h1]
  rw[e1] at hj ⊢
  have e2:(es[off+i]).getD j .any=(es[off+i])[j]:=by simp[List.getD_eq_getElem?_getD,hj]
  rw[e2]
  exact ht _ (List.getElem_mem _) _ (List.getElem_mem _)
theorem aN.borrow {P:Program} {q:Bool} {f:FuncId} {H:View} {vs ts:List V} {K:V→View→Prop} {v:bS (H,K)} {t:V} (hc:aC P f ts t) (hok:b7 P f=true) (hf:tT t) (hl:ts.length=vs.length)
    (hfr:∀ i,i < vs.length→dz H (vs.getD i .any) (ts.getD i .any)) (hk:K t H):aN P q f vs H K v:=by
  unfold aN
  cases q with
  | true=>exact ⟨hok,fun h e=>⟨t,h,bo.borrow hc hf hl (fun i hi=>hfr i hi h e),fun _ _=>rfl,e ▸ hk⟩⟩
  | false =>
    refine ⟨hok,?_⟩
    rintro h rfl
    exact ⟨t,h,bo.borrow hc hf hl (fun i hi=>hfr i hi h rfl),.refl _,hk⟩
abbrev gi (x:Int):V:=.val (.int .i64 x)
abbrev gb (x:Bool):V:=.val (.bool x)
abbrev gs (x:ByteArray):V:=.val (.string x)
theorem mixed:(Tryz.prog).follows .mixedOrders=true:=by kernel_rfl
def encI (l:List Int):V:=.aI (l.map fun x=>[gi x])
def cB (l:List Bool):V:=.aI (l.map fun x=>[gb x])
theorem fF (l:List Int):Tree (encI l):=by
  refine .aI _ fun i j hi hj=>?_
  simp only[List.length_map] at hi
  simp[List.getD_eq_getElem?_getD,hi] at hj ⊢
  subst hj
  exact .val _
def aJ {α:Type} (l:List α):Prop:=l.length < 4611686018427387904
theorem jb (l:List Bool):Tree (cB l):=by
  refine .aI _ fun i j hi hj=>?_
  simp only[List.length_map] at hi
  simp[List.getD_eq_getElem?_getD,hi] at hj ⊢
  subst hj
  exact .val _
structure Term where
  name:ByteArray
  level:Int
  assoc:Int
structure aE where
  left:Int
  right:List Int
  prec:Int
structure al where
  az:List Term
  ay:List ByteArray
  rules:List aE
  start:Int
instance:Inhabited Term:=⟨⟨.empty,0,0⟩⟩
instance:Inhabited aE:=⟨⟨0,[],0⟩⟩
def cF (t:Term):List V:=[gs t.name,gi t.level,gi t.assoc]
def bf (r:aE):List V:=[gi r.left,encI r.right,gi r.prec]
def encS (l:List ByteArray):V:=.aI (l.map fun s=>[gs s])
def aX (g:al):List V:=[.aI (g.az.map cF),encS g.ay,.aI (g.rules.map bf),gi g.start]
theorem di {α:Type} (l:List α) (f:α→List V) (h:∀ x∈l,∀ v∈f x,Tree v):Tree (.aI (l.map f)):=by
  refine .aI _ fun i j hi hj=>?_
  simp only[List.length_map] at hi
  have e:(l.map f).getD i []=f l[i]:=by simp[List.getD_eq_getElem?_getD,hi]
  rw[e] at hj ⊢
  have e2:(f l[i]).getD j .any=(f l[i])[j]:=by simp[List.getD_eq_getElem?_getD,hj]
  rw[e2]
  exact h _ (List.getElem_mem _) _ (List.getElem_mem _)
theorem fL (cs:List V) (h:∀ v∈cs,Tree v):Tree (.agg cs):=by
  refine .agg _ fun i hi=>?_
  have e2:cs.getD i .any=cs[i]:=by simp[List.getD_eq_getElem?_getD,hi]
  rw[e2]; exact h _ (List.getElem_mem _)
theorem rA (l:List ByteArray):Tree (encS l):=di _ _ fun x _ v hv=>by simp at hv; subst hv; exact .val _
theorem nh (t:Term):∀ v∈cF t,Tree v:=by intro v hv; simp[cF] at hv; rcases hv with rfl | rfl | rfl <;> exact .val _
theorem ey (r:aE):∀ v∈bf r,Tree v:=by
  intro v hv; simp[bf] at hv; rcases hv with rfl | rfl | rfl
  · exact .val _
  · exact fF _
  · exact .val _
theorem iT (g:al):∀ v∈aX g,Tree v:=by
  intro v hv; simp[aX] at hv; rcases hv with rfl | rfl | rfl | rfl
  · exact di _ _ fun x _=>nh x
  · exact rA _
  · exact di _ _ fun x _=>ey x
  · exact .val _
def bw (x:Int):Prop:=-9223372036854775808≤x∧x≤9223372036854775807
structure al.Ok (g:al):Prop where
  az:aJ g.az
  ay:aJ g.ay
  rules:aJ g.rules
  start:bw g.start
  term:∀ t∈g.az,bw t.level∧bw t.assoc
  aZ:∀ r∈g.rules,bw r.left∧bw r.prec∧aJ r.right∧∀ x∈r.right,bw x
def nR (g:al) (s:Int):Bool:=if 0≤s then decide (s < g.az.length) else decide (-1 - s < g.ay.length)
def eh (l:List Int) (is:List Bool) (az:Bool):Bool:=l.all fun s=>if 0≤s then az else is.getD (-1 - s).toNat false
abbrev gy (x:Int):V:=.val (.int .u8 x)
def zF (c:Int):Bool:=(decide (97≤c) && decide (c≤122)) || (decide (65≤c) && decide (c≤90)) || c == 95
def ve (c:Int):Bool:=zF c || (decide (48≤c) && decide (c≤57)) || c == 46
def gx (l:List Int):Bool:=decide (0 < l.length) && decide (l.length≤20) && (match l with | c :: _=>zF c | []=>false) && l.all ve
def nZ:List Int→Bool
  | [a,b,c]=>a == 39 && c == 39 && decide (32≤b) && decide (b≤126) && b != 39 && b != 92
  | [a,b,c,d]=>a == 39 && d == 39 && b == 92 && (c == 110 || c == 116 || c == 92 || c == 39)
  | _=>false
theorem sy (s:ByteArray):∀ v∈[gs s],Tree v:=by intro v hv; simp at hv; subst hv; exact .val _
def vc (l:List Int):Bool:=gx l || nZ l
def rT (s:ByteArray):List ByteArray→Int→Int
  | [],_=>-1
  | x :: l,i=>if eX x s=true then i else rT s l (i+1)
def nC (g:al) (s:ByteArray):Int:=rT s (g.az.map Term.name) 0
def zo (g:al) (s:ByteArray):Int:=rT s g.ay 0
theorem kb {α:Type} {l:List α} {i:Nat} (h:i < l.length):l.drop i=l[i] :: l.drop (i+1):=List.drop_eq_getElem_cons h
theorem oZ (g:al):∀ v∈[V.agg (aX g)],Tree v:=by intro v hv; simp at hv; subst hv; exact fL _ (iT g)
theorem Gl (g:al) (x:Int):∀ v∈[V.agg (aX g),gi x],Tree v:=by
  intro v hv; simp at hv
  rcases hv with rfl | rfl
  · exact fL _ (iT g)
  · exact .val _
theorem aC.val {P:Program} {f:FuncId} {vs:List V} {x:Value} (ht:∀ v∈vs,Tree v) (h:∀ H,aH P f vs H fun r _=>r=.val x):aC P f vs (.val x) :=
  aC.of ht ((h _).mono fun r H' e h' _=>by rw[e]; exact .tree _ (.val _))
def jn (n:Int):List Term→Int→Option Int
  | [],way=>some way
  | t :: r,way=>if t.level=n then (if way≠0∧way≠t.assoc then none else jn n r t.assoc) else jn n r way
def gO (l:List Term) (n:Int):Bool:=match jn n l 0 with
  | some w=>w != 0
  | none=>false
def uX (g:al) (t:Term):Bool:=(List.range t.level.toNat).all fun k=>gO g.az ((k:Int)+1)
def mZ (g:al) (i:Int) (t:Term):Bool :=
  vc (eZ t.name) && (nC g t.name == i) && decide (0≤t.level) && decide (t.level≤24) && decide (0≤t.assoc) && decide (t.assoc≤3) && ((t.level == 0) == (t.assoc == 0)) && uX g t
def kN (g:al):List Term→Int→Bool
  | [],_=>true
  | t :: r,i=>mZ g i t && kN g r (i+1)
def sC (g:al):Bool:=decide (g.az.length≤24) && kN g g.az 0
def og (g:al) (i:Int) (s:ByteArray):Bool:=gx (eZ s) && (zo g s == i) && decide (nC g s < 0)
def vG (g:al):List ByteArray→Int→Bool
  | [],_=>true
  | s :: r,i=>og g i s && vG g r (i+1)
def vJ (g:al):Bool:=decide (1≤g.ay.length) && decide (g.ay.length≤16) && vG g g.ay 0
def tK (g:al) (prec s:Int):Bool:=nR g s && !(decide (0≤s) && prec == -1)
def kr (g:al) (r:aE):Bool:=decide (r.right.length≤6) && decide (-1≤r.prec) && decide (r.prec < g.az.length) && r.right.all (tK g r.prec)
theorem Gc (g:al) (r:aE):∀ v∈[V.agg (aX g),V.agg (bf r)],Tree v:=by
  intro v hv; simp at hv
  rcases hv with rfl | rfl
  · exact fL _ (iT g)
  · exact fL _ (ey r)
def gJ (g:al):List aE→Int→Bool
  | [],top=>top == (g.ay.length:Int) - 1
  | r :: l,top=>decide (0≤r.left) && decide (r.left≤top+1) && kr g r && gJ g l (if r.left > top then r.left else top)
def bu (g:al):Bool :=
  sC g && vJ g && decide (1≤g.rules.length) && decide (g.rules.length≤40) && decide (0≤g.start) && decide (g.start < g.ay.length) && gJ g g.rules (-1)
end Gv
