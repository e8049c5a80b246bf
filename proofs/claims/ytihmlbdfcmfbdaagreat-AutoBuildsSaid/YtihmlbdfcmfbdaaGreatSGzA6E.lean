/-
  Part 5 of the proof: what the machine does and what the functions answer.
  Conditions: those that each lemma names.
-/
import Derived.Test.YtihmlbdfcmfbdaaGreatProg
import Derived.KernelRfl
import Derived.Test.YtihmlbdfcmfbdaaGreatSGzA6D
set_option linter.unusedSimpArgs false
set_option linter.unusedVariables false
set_option maxRecDepth 100000
namespace Gv
open Go Go.Proofs
section
variable {P:Program} {n:Nat} {all:List Oper}
theorem L5 (h:aE):h.view h.length=.dead:=by simp[aE.view,List.getD_eq_getElem?_getD]
theorem PK {o:Oper} {T:Env} {h:aE} {s:SI} {K:V→View→Prop} (hg:c7 n all T o=some true) (hc:∀ v eff rd,sI P s T h.view h.length=some (v,eff,rd)→bY P o T h.view h.length=some (v,eff,rd)) (hw:wI P s T h.view K) :
    ∃ v h' rd wr,di P n all o T h v h' rd wr false∧gU h h'∧K v h'.view∧jI (rB P s) rd wr false h.length h'.length:=by
  obtain ⟨v,eff,rd,hs,hk⟩:=PE hw (L5 h)
  have ha:=hc _ _ _ hs
  have hlive:∀ id,id∈eff.wr→h.view id≠.dead:=fun id hid=>(kS ha id hid).1
  refine ⟨v,eff.apply h,rd,eff.wr,.op hg ha,?_,?_,?_,?_⟩
  · intro id hid hd
    rw[jU hlive]
    cases eff with
    | none=>exact hd
    | new o=>simp only[bj.view,View.set]; rw[if_neg (by omega)]; exact hd
    | eQ k o =>
      simp only[bj.view,View.set]
      rw[if_neg (by rintro rfl; exact hlive id (by simp[bj.wr]) hd)]; exact hd
    | bm k o =>
      simp only[bj.view,View.set]
      rw[if_neg (by omega)]
      split
      · rfl
      · exact hd
  · rw[jU (fun id hid=>(kS ha id hid).1)]; exact hk
  · intro h0
    obtain ⟨rfl,rfl⟩:=(qf hs).1 h0
    exact ⟨rfl,rfl,rfl,rfl⟩
  · intro h1
    rcases Nat.lt_or_ge (rB P s) 1 with h2 | h2
    · obtain ⟨rfl,rfl⟩:=(qf hs).1 (by omega); rfl
    · exact (qf hs).2 (by omega)
theorem GA {P:Program} {fr:Bool} {s:SI} {T:Env} {H:View} {n:Nat} {v:V} {eff:bj} {rd:List Nat} (h:sI P (wx P fr s) T H n=some (v,eff,rd)):sI P s T H n=some (v,eff,rd):=by
  unfold wx at h
  split at h
  · split at h
    · exact L2 h
    · exact h
  · split at h
    · rename_i hc
      simp only[Bool.and_eq_true] at hc
      exact Ol hc.2 h
    · exact h
  · exact h
theorem yy (P:Program) (fz:Fz) (o:Oper) :
    (∃ f args ats,o.op=.call { callee:=.value f,args:=args,argTypes:=ats }∧lI P fz o=.call (SX.of f) (args.toList.map SX.of)) ∨
    (∃ t x,o.op=.box t x∧lI P fz o=.op (.hZ (SX.of x)))∨(∃ s d x,o.op=.convert s d x∧tK P s d=true∧lI P fz o=.op (.fq (SX.of x)))∨lI P fz o=.op (wx P fz.fr (comp P o)):=by
  unfold lI
  split
  · rename_i f args ats ho; exact .inl ⟨f,args,ats,ho,rfl⟩
  · rename_i t x ho
    by_cases hd:(match o.dst with | some d=>fz.l.contains d | none=>false)=true
    · exact .inr (.inl ⟨t,x,ho,if_pos hd⟩)
    · refine .inr (.inr (.inr ?_))
      refine (if_neg hd).trans ?_
      simp only[comp,ho,wx]
  · rename_i s d x ho
    by_cases hd:((match o.dst with | some d=>fz.l.contains d | none=>false) && tK P s d)=true
    · exact .inr (.inr (.inl ⟨s,d,x,ho,by simp only[Bool.and_eq_true] at hd; exact hd.2,if_pos hd⟩))
    · exact .inr (.inr (.inr (if_neg hd)))
  · exact .inr (.inr (.inr rfl))
theorem di.len {o:Oper} {T:Env} {h h':aE} {v:V} {rd wr:List Nat} {call:Bool} (st:di P n all o T h v h' rd wr call):h.length≤h'.length:=by
  cases st with
  | skip=>exact Nat.le_refl _
  | op _ _=>rename_i eff _ _ ; cases eff <;> simp[bj.apply]
  | hZ _ _ _=>exact Nat.le_refl _
  | fq _ _ _ _ _ _=>exact Nat.le_refl _
  | call _ _ _ _ ha _ _=>exact ha.1
theorem Oc {fz:Fz} {o:Oper} {T:Env} {h:aE} {quiet:Bool} {K:V→View→Prop} (hg:c7 n all T o=some true) (hw:wB P quiet (lI P fz o) T h.view K) :
    ∃ v h' rd wr call,di P n all o T h v h' rd wr call∧gU h h'∧K v h'.view∧jI (hD P quiet (lI P fz o)) rd wr call h.length h'.length:=by
  rcases yy P fz o with ⟨f,args,ats,ho,hc⟩ | ⟨t,x,ho,hc⟩ | ⟨s,d,x,ho,hcv,hc⟩ | hc
  · rw[hc] at hw ⊢
    simp only[wB] at hw
    split at hw
    · rename_i g first cap hf
      rw[Fp] at hw
      rw[SX.cr] at hf
      split at hw
      · rename_i hq
        obtain ⟨hok,hq'⟩:=hw
        obtain ⟨r,h',hr,hold,hk⟩:=hq' h rfl
        refine ⟨r,h',[],[],true,.call hg ho hf hok hr (fun id hid _=>hold id hid) (fun id hid=>by simp at hid),fun id hid hd=>(hold id hid).trans hd,hk,?_,?_⟩
        · intro h0; simp[hD,hq] at h0
        · intro _; rfl
      · rename_i hq
        obtain ⟨hok,hq'⟩:=hw
        obtain ⟨r,h',hr,hst,hk⟩:=hq' h rfl
        refine ⟨r,h',[],List.range h.length,true,.call hg ho hf hok hr (fun id hid hn=>?_) (fun id hid=>by simpa using hid),hst,hk,NA (by simp[hD,hq])⟩
        exact absurd (by simpa using hid) hn
    · exact hw.elim
  · rw[hc] at hw ⊢
    simp only[wB,wI,SX.cr] at hw
    exact ⟨_,h,[],[],false,.hZ hg ho hw.1,.refl _,hw.2,fun _=>⟨rfl,rfl,rfl,rfl⟩,fun _=>rfl⟩
  · rw[hc] at hw ⊢
    simp only[wB,wI,SX.cr] at hw
    obtain ⟨e,h1,h2,h3⟩:=yh hcv
    split at hw
    · rename_i st hx
      exact ⟨_,h,[],[],false,.fq hg ho h1 h2 h3 hx,.refl _,hw,fun _=>⟨rfl,rfl,rfl,rfl⟩,fun _=>rfl⟩
    · exact hw.elim
  · rw[hc] at hw ⊢
    obtain ⟨v,h',rd,wr,h1,h0,h2,h3⟩:=PK (s:=wx P fz.fr (comp P o)) hg (fun v eff rd hs=>HA (GA hs)) hw
    exact ⟨v,h',rd,wr,false,h1,h0,h2,h3⟩
def e9 (P:Program) (quiet:Bool) (l:List SO) (recs:List Rec):Prop :=
  l.length=recs.length∧∀ (i:Nat) (s:SO) (r:Rec),l[i]?=some s→recs[i]?=some r→jI (hD P quiet s.b) r.rd r.wr r.call r.lo r.hi
theorem e9.nil {quiet:Bool} : e9 P quiet [] []:=⟨rfl,fun i s r h=>by simp at h⟩
theorem e9.cons {quiet:Bool} {l:List SO} {recs:List Rec} {s:SO} {r:Rec} (h:e9 P quiet l recs) (hr:jI (hD P quiet s.b) r.rd r.wr r.call r.lo r.hi):e9 P quiet (s :: l) (r :: recs):=by
  refine ⟨by simp[h.1],fun i s' r' hs hr'=>?_⟩
  cases i with
  | zero=>simp at hs hr'; subst hs hr'; exact hr
  | succ i=>exact h.2 i s' r' (by simpa using hs) (by simpa using hr')
theorem e9.append {quiet:Bool} {l l':List SO} {recs recs':List Rec} (h:e9 P quiet l recs) (h':e9 P quiet l' recs'):e9 P quiet (l ++ l') (recs ++ recs'):=by
  refine ⟨by simp[h.1,h'.1],fun i s r hs hr=>?_⟩
  by_cases hi:i < l.length
  · rw[List.getElem?_append_left hi] at hs
    rw[List.getElem?_append_left (h.1 ▸ hi)] at hr
    exact h.2 i s r hs hr
  · rw[List.getElem?_append_right (by omega)] at hs
    rw[List.getElem?_append_right (by have:=h.1; omega)] at hr
    exact h'.2 (i - l.length) s r hs (by rw[h.1]; exact hr)
theorem rA {fz:Fz} {o:Oper} {s:SO} (h:DL P n all fz o=some s):pO n o=true∧s.dst=o.dst∧s.b=lI P fz o∧tQ n all o=some s.guard:=by
  unfold DL at h
  split at h
  · rename_i hd
    simp only[Option.map_eq_some_iff] at h
    obtain ⟨g,hg,rfl⟩:=h
    exact ⟨hd,rfl,rfl,hg⟩
  · simp at h
theorem zO {o:Oper} {T:Env} (h:tQ n all o=some none):c7 n all T o=some true:=by
  unfold tQ at h
  unfold c7
  split at h
  · rename_i hg; rw[hg]
  · split at h
    · split at h
      · simp at h
      · simp at h
    · simp at h
theorem j1 {o:Oper} {T:Env} {d:Nat} {want:Bool} (h:tQ n all o=some (some (d,want))) :
    (∀ b,T d=.val (.bool b)→c7 n all T o=some (b == want))∧(T d=.bu []→c7 n all T o=some false):=by
  unfold tQ at h
  unfold c7
  split at h
  · simp at h
  · rename_i j w hg
    rw[hg]
    split at h
    · rename_i d' hd
      split at h
      · rename_i hlt
        simp at h
        obtain ⟨rfl,rfl⟩:=h
        simp only[hd,hlt,if_true]
        exact ⟨fun b hb=>by rw[hb],fun hb=>by rw[hb]⟩
      · simp at h
    · simp at h
theorem j5 {fz:Fz} {os:List Oper} (h:df P n all fz os=some []):os=[]:=by
  cases os with
  | nil=>rfl
  | cons o r =>
    simp only[df] at h
    split at h <;> simp at h
theorem kB {fz:Fz} {os:List Oper} {s:SO} {l:List SO} (h:df P n all fz os=some (s :: l)):∃ o r,os=o :: r∧DL P n all fz o=some s∧df P n all fz r=some l:=by
  cases os with
  | nil=>simp[df] at h
  | cons o r =>
    simp only[df] at h
    split at h
    · rename_i s' l' h1 h2
      simp at h
      obtain ⟨rfl,rfl⟩:=h
      exact ⟨o,r,rfl,h1,h2⟩
    · simp at h
theorem py {fz:Fz} : ∀ {l l':List SO} {os:List Oper},df P n all fz os=some (l ++ l')→∃ a b,os=a ++ b∧df P n all fz a=some l∧df P n all fz b=some l'
  | [],l',os,h=>⟨[],os,rfl,rfl,h⟩
  | s :: l,l',os,h=>by
    obtain ⟨o,r,rfl,h1,h2⟩:=kB h
    obtain ⟨a,b,rfl,h3,h4⟩:=py h2
    exact ⟨o :: a,b,rfl,by simp[df,h1,h3],h4⟩
theorem Tr.append {a b:List Oper} {T T1 T2:Env} {h h1 h2:aE} {r1 r2:List Rec} (x:Tr P n all a T h r1 T1 h1) (y:Tr P n all b T1 h1 r2 T2 h2):Tr P n all (a ++ b) T h (r1 ++ r2) T2 h2:=by
  induction x with
  | nil=>exact y
  | cons st hd _ ih=>exact .cons st hd (ih y)
theorem zr {T:Env} {d:Nat} {v:V} (h:T d=v):T.put (some d) v=T:=by
  funext t
  simp only[Env.put]
  split
  · rename_i e; subst e; exact h.symm
  · rfl
theorem FR {fz:Fz} {quiet:Bool} {K:Env→View→Prop} (g:Option (Nat × Bool)):∀ (l:List (Option Nat × SB)) (os:List Oper) (T:Env) (h:aE),
    df P n all fz os=some (l.map fun (d,b)=>⟨d,g,b⟩)→(∀ d w,g=some (d,w)→T d=.val (.bool w)∧(l.all fun x=>x.1 != some d)=true)→vV P quiet l T h.view K →
    ∃ recs T' h',Tr P n all os T h recs T' h'∧(gU h h'∧h.length≤h'.length)∧K T' h'.view∧e9 P quiet (l.map fun (d,b)=>⟨d,g,b⟩) recs
  | [],os,T,h,hc,hg,hw=>by
    have:=j5 hc; subst this
    exact ⟨[],T,h,.nil,⟨.refl _,Nat.le_refl _⟩,hw,.nil⟩
  | (d,b) :: l,os,T,h,hc,hg,hw=>by
    obtain ⟨o,r,rfl,h1,h2⟩:=kB hc
    obtain ⟨hd,hd1,hb1,hg1⟩:=rA h1
    simp only at hd1 hb1 hg1
    have hgv:c7 n all T o=some true:=by
      cases g with
      | none=>exact zO hg1
      | some p =>
        obtain ⟨d',w⟩:=p
        have:=(j1 (T:=T) hg1).1 w (hg d' w rfl).1
        rw[this]; simp
    simp only[vV] at hw
    rw[hb1] at hw
    obtain ⟨v,h',rd,wr,call,st,hst,hk,hl⟩:=Oc hgv hw
    obtain ⟨recs,T',h'',tr,hst',hk',hro⟩:=FR g l r (T.put d v) h' h2 (fun d' w e=>by
      have:=hg d' w e
      simp only[List.all_cons,Bool.and_eq_true,bne_iff_ne,ne_eq] at this
      refine ⟨?_,this.2.2⟩
      rw[← this.1]
      cases d with
      | none=>rfl
      | some t=>simp only[Env.put]; rw[if_neg]; intro e; subst e; exact this.2.1 rfl) hk
    rw[hd1] at tr
    have hlen:=st.len
    exact ⟨_,T',h'',.cons st hd tr,⟨hst.trans hst'.1 hlen,Nat.le_trans hlen hst'.2⟩,hk',hro.cons (by rw[hb1]; exact hl)⟩
theorem BC {fz:Fz} {quiet:Bool} (d:Nat) (w:Bool) (h:aE):∀ (l:List (Option Nat × SB)) (os:List Oper) (T:Env),
    df P n all fz os=some (l.map fun (d',b)=>⟨d',some (d,w),b⟩)→(T d=.val (.bool !w)∨T d=.bu [])→(l.all fun x=>x.1 != some d)=true →
    ∃ recs,Tr P n all os T h recs (gF l T) h∧e9 P quiet (l.map fun (d',b)=>⟨d',some (d,w),b⟩) recs
  | [],os,T,hc,hd,hl=>by
    have:=j5 hc; subst this
    exact ⟨[],.nil,.nil⟩
  | (d',b) :: l,os,T,hc,hd,hl=>by
    obtain ⟨o,r,rfl,h1,h2⟩:=kB hc
    obtain ⟨hd0,hd1,hb1,hg1⟩:=rA h1
    simp only at hd1 hb1 hg1
    have hgv:c7 n all T o=some false:=by
      rcases hd with hd | hd
      · rw[(j1 (T:=T) hg1).1 _ hd]; cases w <;> rfl
      · exact (j1 (T:=T) hg1).2 hd
    simp only[List.all_cons,Bool.and_eq_true,bne_iff_ne,ne_eq] at hl
    obtain ⟨recs,tr,hro⟩:=BC d w h l r (T.put d' (.bu [])) h2 (by
      have:(T.put d' (.bu [])) d=T d:=by
        cases d' with
        | none=>rfl
        | some t=>simp only[Env.put]; rw[if_neg]; intro e; subst e; exact hl.1 rfl
      rw[this]; exact hd) hl.2
    rw[hd1] at tr
    refine ⟨_,?_,hro.cons (r:=⟨[],[],false,h.length,h.length⟩) ⟨fun _=>⟨rfl,rfl,rfl,rfl⟩,fun _=>rfl⟩⟩
    have:=Tr.cons (.skip hgv) hd0 tr
    rw[gF,hd1]
    exact this
theorem PS {fz:Fz} {quiet:Bool} {K:Env→View→Prop} {g:SG} {os:List Oper} {T:Env} {h:aE} (hc:df P n all fz os=some g.flat) (hok:rS g=true) (hw:wG P quiet g T h.view K) :
    ∃ recs T' h',Tr P n all os T h recs T' h'∧(gU h h'∧h.length≤h'.length)∧K T' h'.view∧e9 P quiet g.flat recs:=by
  unfold wG at hw
  unfold SG.flat at hc ⊢
  unfold rS at hok
  split at hw
  · rename_i hg
    rw[hg] at hc ⊢
    exact FR none g.ops os T h hc (fun d w e=>by simp at e) hw
  · rename_i d want hg
    rw[hg] at hc hok ⊢
    simp only at hok
    split at hw
    · rename_i b hb
      by_cases e:b=want
      · subst e
        have:=hw.1 rfl
        rw[zr hb] at this
        exact FR (some (d,b)) g.ops os T h hc (fun d' w e=>by simp at e; obtain ⟨rfl,rfl⟩:=e; exact ⟨hb,hok⟩) this
      · have e':b = !want:=by cases b <;> cases want <;> simp_all
        have:=hw.2 e'
        subst e'
        rw[zr hb] at this
        obtain ⟨recs,tr,hro⟩:=BC (quiet:=quiet) d want h g.ops os T hc (.inl hb) hok
        exact ⟨recs,_,h,tr,⟨.refl _,Nat.le_refl _⟩,this,hro⟩
    · rename_i hb
      obtain ⟨recs,tr,hro⟩:=BC (quiet:=quiet) d want h g.ops os T hc (.inr hb) hok
      exact ⟨recs,_,h,tr,⟨.refl _,Nat.le_refl _⟩,hw,hro⟩
    · exact hw.elim
theorem we {fz:Fz} {quiet:Bool} {K:Env→View→Prop} : ∀ (gs:List SG) (os:List Oper) (T:Env) (h:aE),df P n all fz os=some (jd gs)→gs.all rS=true→vp P quiet gs T h.view K →
    ∃ recs T' h',Tr P n all os T h recs T' h'∧(gU h h'∧h.length≤h'.length)∧K T' h'.view∧e9 P quiet (jd gs) recs
  | [],os,T,h,hc,_,hw=>by
    have:=j5 hc; subst this
    exact ⟨[],T,h,.nil,⟨.refl _,Nat.le_refl _⟩,hw,.nil⟩
  | g :: gs,os,T,h,hc,hok,hw=>by
    simp only[jd,List.map_cons,List.flatten_cons] at hc ⊢
    simp only[List.all_cons,Bool.and_eq_true] at hok
    obtain ⟨a,b,rfl,h1,h2⟩:=py hc
    obtain ⟨r1,T1,h1',tr1,st1,hk1,ro1⟩:=PS h1 hok.1 hw
    obtain ⟨r2,T2,h2',tr2,st2,hk2,ro2⟩:=we gs b T1 h1' h2 hok.2 hk1
    exact ⟨_,T2,h2',tr1.append tr2,⟨st1.1.trans st2.1 st1.2,Nat.le_trans st1.2 st2.2⟩,hk2,ro1.append ro2⟩
theorem Tr.at_ {os:List Oper} {T T':Env} {h h':aE} {recs:List Rec} (tr:Tr P n all os T h recs T' h'):∀ (i:Nat) (o:Oper),os[i]?=some o →
    ∃ T1 h1 v h2 rd wr call recs2,recs[i]?=some ⟨rd,wr,call,h1.length,h2.length⟩∧di P n all o T1 h1 v h2 rd wr call∧h.length≤h1.length∧Tr P n all (os.drop (i+1)) (T1.put o.dst v) h2 recs2 T' h'∧(∀ m,recs2[m]?=recs[i+1+m]?) ∧
      (∀ t,(∀ o'∈os.take i,o'.dst≠some t)→T1 t=T t):=by
  induction tr with
  | nil=>intro i o hi; simp at hi
  | @cons o0 rest T T' h h1 h' v rd wr call recs st hd tr ih =>
    intro i o hi
    cases i with
    | zero =>
      simp at hi; subst hi
      exact ⟨T,h,v,h1,rd,wr,call,recs,rfl,st,Nat.le_refl _,by simpa using tr,fun m=>by rw[show 0+1+m=m+1 by omega,List.getElem?_cons_succ],fun t _=>rfl⟩
    | succ i =>
      simp at hi
      obtain ⟨T1,h2,v2,h3,rd2,OD,call2,recs2,e1,e2,e3,e4,e5,e6⟩:=ih i o hi
      have hlen:h.length≤h1.length:=by
        cases st with
        | skip=>exact Nat.le_refl _
        | op _ _=>rename_i eff _ _; cases eff <;> simp[bj.apply]
        | hZ _ _ _=>exact Nat.le_refl _
        | fq _ _ _ _ _ _=>exact Nat.le_refl _
        | call _ _ _ _ ha _ _=>exact ha.1
      refine ⟨T1,h2,v2,h3,rd2,OD,call2,recs2,by simpa using e1,e2,Nat.le_trans hlen e3,by simpa using e4,fun m=>?_,fun t ht=>?_⟩
      · rw[e5,show i+1+1+m=(i+1+m)+1 by omega,List.getElem?_cons_succ]
      · simp only[List.take_succ_cons,List.mem_cons] at ht
        rw[e6 t fun o' ho'=>ht o' (.inr ho')]
        have:=ht o0 (.inl rfl)
        cases hdst:o0.dst with
        | none=>rfl
        | some d=>simp only[Env.put]; rw[if_neg]; rintro rfl; exact this hdst
theorem I6 {o:Oper} {T:Env} {h h':aE} {v:V} {rd wr:List Nat} {call:Bool} (st:di P n all o T h v h' rd wr call) (ha:zb o=true) (hg:o.guard=none):v=.ptr h.length 0 0:=by
  unfold zb at ha
  have hgv:c7 n all T o=some true:=by unfold c7; rw[hg]
  cases st with
  | skip hs=>rw[hgv] at hs; simp at hs
  | op _ hop =>
    split at ha
    · rename_i e ho
      simp only[bY,ho] at hop
      split at hop
      · unfold kr at hop
        split at hop
        · simp at hop; exact hop.1.symm
        · simp at hop
      · simp at hop
    · simp at ha
  | hZ _ ho _=>rw[ho] at ha; simp at ha
  | fq _ ho _ _ _ _=>rw[ho] at ha; simp at ha
  | call _ ho _ _ _ _ _=>rw[ho] at ha; simp at ha
theorem It {o:Oper} {T:Env} {h h':aE} {v:V} {rd wr:List Nat} {call:Bool} {t id i j:Nat} (st:di P n all o T h v h' rd wr call) (ha:ju o=some t) (ht:T t=.ptr id i j):wr=[id]∧call=false:=by
  unfold ju at ha
  split at ha
  · rename_i ty t' x ho hg
    simp at ha; subst ha
    have hgv:c7 n all T o=some true:=by unfold c7; rw[hg]
    cases st with
    | skip hs=>rw[hgv] at hs; simp at hs
    | op _ hop =>
      have e1:ev T (.tmp t')=.ptr id i j:=ht
      simp only[bY,ho,e1,oW] at hop
      split at hop
      · split at hop
        · simp only[Option.some.injEq,Prod.mk.injEq] at hop
          obtain ⟨_,he,_⟩:=hop
          rw[← he]; exact ⟨rfl,rfl⟩
        · simp at hop
      · simp at hop
    | hZ _ ho' _=>rw[ho] at ho'; simp at ho'
    | fq _ ho' _ _ _ _=>rw[ho] at ho'; simp at ho'
    | call _ ho' _ _ _ _ _=>rw[ho] at ho'; simp at ho'
  · simp at ha
theorem Jz {o:Oper} {T:Env} {h h':aE} {v:V} {rd wr:List Nat} {call:Bool} (st:di P n all o T h v h' rd wr call) (ha:B9 o=true):wr=[]∧call=false∧∀ id,id∈rd→id < h.length:=by
  unfold B9 at ha
  cases st with
  | skip _=>exact ⟨rfl,rfl,fun id hid=>by simp at hid⟩
  | op _ hop =>
    split at ha
    · rename_i e a ho
      simp only[bY,ho,kN] at hop
      split at hop
      · rename_i id i j hx
        split at hop
        · rename_i z es hH
          split at hop
          · simp only[Option.map_eq_some_iff] at hop
            obtain ⟨_,_,hop⟩:=hop
            simp at hop
            obtain ⟨_,rfl,rfl⟩:=hop
            refine ⟨rfl,rfl,fun id' hid=>?_⟩
            simp at hid; subst hid
            exact gq (by rw[hH]; simp)
          · simp at hop
        · simp at hop
      · simp only[Option.map_eq_some_iff] at hop
        obtain ⟨_,_,hop⟩:=hop
        simp at hop
        obtain ⟨_,rfl,rfl⟩:=hop
        exact ⟨rfl,rfl,fun id hid=>by simp at hid⟩
      · simp at hop
    · simp at ha
  | hZ _ ho _=>rw[ho] at ha; simp at ha
  | fq _ ho _ _ _ _=>rw[ho] at ha; simp at ha
  | call _ ho _ _ _ _ _=>rw[ho] at ha; simp at ha
theorem uU {T T':Env} {h h':aE} {recs:List Rec} (tr:Tr P n all all T h recs T' h') {i k:Nat} {a b:Rec} (hp:x8 all i k=true) (ha:recs[i]?=some a) (hb:recs[k]?=some b):mM a b:=by
  unfold x8 at hp
  split at hp
  · rename_i oa ob hoa hob
    rw[Bool.and_eq_true] at hp
    obtain ⟨hl,hp⟩:=hp
    split at hp
    · rename_i t hst
      rw[List.any_eq_true] at hp
      obtain ⟨j,hj,hp⟩:=hp
      rw[List.mem_range] at hj
      rw[Bool.and_eq_true,decide_eq_true_eq] at hp
      obtain ⟨hij,hown⟩:=hp
      unfold ON at hown
      split at hown
      · rename_i oj hoj
        simp only[Bool.and_eq_true,beq_iff_eq,List.all_eq_true,bne_iff_ne,ne_eq,Option.isNone_iff_eq_none] at hown
        obtain ⟨⟨⟨w1,w2⟩,w3⟩,w4⟩:=hown
        obtain ⟨T1,h1,v1,h2,rd1,PZ,c1,recs1,e1,e2,e3,e4,e5,_⟩:=tr.at_ i oa hoa
        obtain ⟨Tj,hj1,vj,hj2,rdj,wrj,cj,recsj,f1,f2,f3,f4,f5,_⟩:=e4.at_ (j - (i+1)) oj (by rw[List.getElem?_drop,show i+1+(j - (i+1))=j by omega]; exact hoj)
        have hdr:(all.drop (i+1)).drop (j - (i+1)+1)=all.drop (j+1):=by rw[List.drop_drop]; congr 1; omega
        rw[hdr] at f4
        obtain ⟨Tk,hk1,vk,hk2,rdk,wrk,ck,recsk,g1,g2,g3,_,_,g6⟩:=f4.at_ (k - (j+1)) ob (by rw[List.getElem?_drop,show j+1+(k - (j+1))=k by omega]; exact hob)
        rw[ha] at e1
        have hae:=(Option.some.inj e1)
        have hbe:recs[k]?=some ⟨rdk,wrk,ck,hk1.length,hk2.length⟩:=by
          rw[← g1,f5,e5]; congr 1; omega
        rw[hb] at hbe
        have hbe:=Option.some.inj hbe
        have hv:=I6 f2 w3 w2
        have hTk:Tk t=.ptr hj1.length 0 0:=by
          rw[g6 t fun o' ho'=>w4 o' ho',w1,hv]
          simp[Env.put]
        obtain ⟨s1,s2⟩:=It g2 hst hTk
        obtain ⟨l1,l2,l3⟩:=Jz e2 hl
        rw[hae,hbe]
        have hlen:h1.length≤h2.length:=by
          cases e2 with
          | skip=>exact Nat.le_refl _
          | op _ _=>rename_i eff _ _; cases eff <;> simp[bj.apply]
          | hZ _ _ _=>exact Nat.le_refl _
          | fq _ _ _ _ _ _=>exact Nat.le_refl _
          | call _ _ _ _ ha _ _=>exact ha.1
        refine ⟨fun id hid=>by simp[l1] at hid,fun id hid=>?_,fun hc=>by simp[l2] at hc,fun _=>l1,fun id hid=>?_⟩
        · simp only[s1,List.mem_singleton] at hid
          subst hid
          intro hr
          have:=l3 _ hr
          omega
        · simp only[s1,List.mem_singleton] at hid
          subst hid
          simp only
          omega
      · simp at hown
    · simp at hp
  · simp at hp
theorem Nd {ls:List Nat} {recs:List Rec} {T T':Env} {hp hp':aE} (tr:Tr P n all all T hp recs T' hp') (h:DP all ls=true) (hl:ls.length=recs.length) (hr:∀ (i x:Nat) (r:Rec),ls[i]?=some x→recs[i]?=some r→jI x r.rd r.wr r.call r.lo r.hi):sd all recs:=by
  intro i k a b hik ha hb ho
  have hi:i < recs.length:=(List.getElem?_eq_some_iff.1 ha).1
  have hk:k < recs.length:=(List.getElem?_eq_some_iff.1 hb).1
  unfold DP at h
  simp only[List.all_eq_true] at h
  have h1:=h (ls[i]'(by omega),i) (by rw[List.mem_zipIdx_iff_getElem?]; simp[List.getElem?_eq_getElem (show i < ls.length by omega)])
    (ls[k]'(by omega),k) (by rw[List.mem_zipIdx_iff_getElem?]; simp[List.getElem?_eq_getElem (show k < ls.length by omega)])
  have la:=hr i _ a (List.getElem?_eq_getElem (by omega)) ha
  have lb:=hr k _ b (List.getElem?_eq_getElem (by omega)) hb
  simp only[hik,decide_true,Bool.not_true,ho,Bool.false_or,Bool.or_eq_true,beq_iff_eq,Bool.and_eq_true,decide_eq_true_eq] at h1
  rcases h1 with ((h1 | h1) | h1) | h1
  · obtain ⟨e1,e2,e3,e4⟩:=la.1 h1
    exact ⟨fun id hid=>by simp[e2] at hid,fun id _=>by simp[e1],fun hc=>by simp[e3] at hc,fun _=>e2,fun id _ hx=>by omega⟩
  · obtain ⟨e1,e2,e3,e4⟩:=lb.1 h1
    exact ⟨fun id _=>by simp[e1],fun id hid=>by simp[e2] at hid,fun _=>e2,fun hc=>by simp[e3] at hc,fun id hid=>by simp[e2] at hid⟩
  · have e1:=la.2 h1.1
    have e2:=lb.2 h1.2
    exact ⟨fun id hid=>by simp[e1] at hid,fun id hid=>by simp[e2] at hid,fun _=>e2,fun _=>e1,fun id hid=>by simp[e2] at hid⟩
  · exact uU tr h1 ha hb
theorem Tr.keep {os:List Oper} {T T':Env} {h h':aE} {recs:List Rec} (tr:Tr P n all os T h recs T' h') {t:Nat} (ht:∀ o∈os,o.dst≠some t):T' t=T t:=by
  induction tr with
  | nil=>rfl
  | @cons o0 rest T T' h h1 h' v rd wr call recs st hd tr ih =>
    rw[ih fun o ho=>ht o (by simp[ho])]
    have:=ht o0 (by simp)
    cases hdst:o0.dst with
    | none=>rfl
    | some d=>simp only[Env.put]; rw[if_neg]; rintro rfl; exact this hdst
theorem u7 {o:Oper} {T:Env} {h h':aE} {v:V} {rd wr:List Nat} {call:Bool} {t:Nat} (st:di P n all o T h v h' rd wr call) (ha:qd o=some t):wr=[]∧call=false∧h'.length=h.length∧∀ id,id∈rd→∃ i j,T t=.ptr id i j:=by
  unfold qd at ha
  split at ha
  · rename_i e t' ho
    simp at ha; subst ha
    cases st with
    | skip _=>exact ⟨rfl,rfl,rfl,fun id hid=>by simp at hid⟩
    | op _ hop =>
      simp only[bY,ho,kN] at hop
      split at hop
      · rename_i id i j hx
        split at hop
        · split at hop
          · simp only[Option.map_eq_some_iff] at hop
            obtain ⟨_,_,hop⟩:=hop
            simp at hop
            obtain ⟨_,rfl,rfl⟩:=hop
            refine ⟨rfl,rfl,rfl,fun id' hid=>?_⟩
            simp at hid; subst hid
            exact ⟨i,j,hx⟩
          · simp at hop
        · simp at hop
      · simp only[Option.map_eq_some_iff] at hop
        obtain ⟨_,_,hop⟩:=hop
        simp at hop
        obtain ⟨_,rfl,rfl⟩:=hop
        exact ⟨rfl,rfl,rfl,fun id hid=>by simp at hid⟩
      · simp at hop
    | hZ _ ho' _=>rw[ho] at ho'; simp at ho'
    | fq _ ho' _ _ _ _=>rw[ho] at ho'; simp at ho'
    | call _ ho' _ _ _ _ _=>rw[ho] at ho'; simp at ho'
  · simp at ha
theorem uf {i t:Nat} (h:stays all i t=true):∀ o∈all.drop i,o.dst≠some t:=by
  intro o ho
  have:=List.all_eq_true.1 h o ho
  simpa using this
theorem zB {aps:List (Nat × Nat)} {T:Env} {K:Prop} (hA:xt aps T K):∀ p∈aps,gJ (T p.1) (T p.2):=by
  induction aps with
  | nil=>intro p hp; simp at hp
  | cons q l ih =>
    intro p hp
    rcases List.mem_cons.1 hp with rfl | hp
    · exact hA.1
    · exact ih hA.2 p hp
theorem xt.rest {aps:List (Nat × Nat)} {T:Env} {K:Prop} (hA:xt aps T K):K:=by
  induction aps with
  | nil=>exact hA
  | cons q l ih=>exact ih hA.2
theorem oY {T T':Env} {h h':aE} {recs:List Rec} (tr:Tr P n all all T h recs T' h') {i t:Nat} {o:Oper} (ho:all[i]?=some o) (hs:stays all i t=true) {r:Rec} (hr:recs[i]?=some r) :
    ∃ T1 h1 v h2,di P n all o T1 h1 v h2 r.rd r.wr r.call∧r.lo=h1.length∧r.hi=h2.length∧T1 t=T' t:=by
  obtain ⟨T1,h1,v,h2,rd,wr,call,recs2,e1,e2,e3,e4,e5,e6⟩:=tr.at_ i o ho
  rw[hr] at e1
  have e1:=Option.some.inj e1
  subst e1
  refine ⟨T1,h1,v,h2,e2,rfl,rfl,?_⟩
  have hk:=uf hs
  have hi:i < all.length:=(List.getElem?_eq_some_iff.1 ho).1
  have ho':all[i]=o:=(List.getElem?_eq_some_iff.1 ho).2
  rw[List.drop_eq_getElem_cons hi,ho'] at hk
  rw[e4.keep fun o' ho'=>hk o' (by simp[ho'])]
  have:=hk o (by simp)
  cases hdst:o.dst with
  | none=>rfl
  | some d=>simp only[Env.put]; rw[if_neg]; rintro rfl; exact this hdst
theorem xJ {i a b j c d:Nat} (h:gJ (.ptr i a b) (.ptr j c d)):i≠j:=h
theorem AO {i a b j c d e:Nat} (h:gJ (.ptr i a b) (.sl j c d e)):i≠j:=h
theorem p7 {o:Oper} {T:Env} {h h':aE} {v:V} {rd wr:List Nat} {call:Bool} {t:Nat} (st:di P n all o T h v h' rd wr call) (ha:nr o=some t) :
    call=false∧∀ id,id∈wr→(∃ i j,T t=.ptr id i j)∨∃ a b c,T t=.sl id a b c:=by
  unfold nr at ha
  split at ha
  · rename_i t' hs
    simp at ha; subst ha
    unfold ju at hs
    split at hs
    · rename_i ty t2 x ho hg
      simp at hs; subst hs
      cases st with
      | skip _=>exact ⟨rfl,fun id hid=>by simp at hid⟩
      | op _ hop =>
        simp only[bY,ho,oW] at hop
        split at hop
        · rename_i id i j hx
          split at hop
          · split at hop
            · simp only[Option.some.injEq,Prod.mk.injEq] at hop
              obtain ⟨_,he,_⟩:=hop
              rw[← he]
              refine ⟨rfl,fun id' hid=>?_⟩
              simp[bj.wr] at hid; subst hid
              exact .inl ⟨i,j,hx⟩
            · simp at hop
          · simp at hop
        · simp at hop
      | hZ _ ho' _=>rw[ho] at ho'; simp at ho'
      | fq _ ho' _ _ _ _=>rw[ho] at ho'; simp at ho'
      | call _ ho' _ _ _ _ _=>rw[ho] at ho'; simp at ho'
    · simp at hs
  · unfold KV at ha
    split at ha
    · rename_i args ats ho hg
      split at ha
      · rename_i t2 y hl
        simp at ha; subst ha
        cases st with
        | skip _=>exact ⟨rfl,fun id hid=>by simp at hid⟩
        | op _ hop =>
          simp only[bY,ho,hl] at hop
          split at hop
          · unfold lx at hop
            split at hop
            · split at hop
              · simp at hop
              · split at hop
                · split at hop <;> first | (simp only[Option.some.injEq,Prod.mk.injEq] at hop; obtain ⟨_,he,_⟩:=hop; rw[← he]; exact ⟨rfl,fun id' hid=>by simp[bj.wr] at hid⟩) | simp at hop
                · split at hop
                  · simp at hop
                  · split at hop
                    · split at hop
                      · simp only[Option.some.injEq,Prod.mk.injEq] at hop
                        obtain ⟨_,he,_⟩:=hop
                        rw[← he]; exact ⟨rfl,fun id' hid=>by simp[bj.wr] at hid⟩
                      · simp at hop
                    · rename_i id off len esz hx
                      split at hop
                      · split at hop
                        · simp only[Option.some.injEq,Prod.mk.injEq] at hop
                          obtain ⟨_,he,_⟩:=hop
                          rw[← he]
                          refine ⟨rfl,fun id' hid=>?_⟩
                          simp[bj.wr] at hid; subst hid
                          exact .inr ⟨off,len,esz,hx⟩
                        · simp at hop
                      · simp at hop
                    · simp at hop
            · simp at hop
          · split at hop
            · unfold uS at hop
              repeat' (split at hop)
              all_goals first | (simp only[Option.some.injEq,Prod.mk.injEq] at hop; obtain ⟨_,he,_⟩:=hop; rw[← he]; exact ⟨rfl,fun id' hid=>by simp[bj.wr] at hid⟩) | simp at hop
            · simp at hop
        | hZ _ ho' _=>rw[ho] at ho'; simp at ho'
        | fq _ ho' _ _ _ _=>rw[ho] at ho'; simp at ho'
        | call _ ho' _ _ _ _ _=>rw[ho] at ho'; simp at ho'
      · simp at ha
    · simp at ha
theorem M3 {o:Oper} {T:Env} {h h':aE} {v:V} {rd wr:List Nat} {call:Bool} (st:di P n all o T h v h' rd wr call) (ha:FZ o=true):rd=[]∧wr=[]∧call=false:=by
  unfold FZ at ha
  cases st with
  | skip _=>exact ⟨rfl,rfl,rfl⟩
  | op _ hop =>
    split at ha
    · rename_i ty len parts ho
      simp only[bY,ho,gj] at hop
      have key:∀ {x:Option (V × bj × List Nat)} {e:bj},x=some (v,e,rd)→(∀ y,x=some y→y.2.1.wr=[]∧y.2.2=[])→rd=[]∧e.wr=[]:=fun hx hy=>⟨(hy _ hx).2,(hy _ hx).1⟩
      obtain ⟨k1,k2⟩:=key hop (by
        intro y hy
        repeat' (first | (split at hy) | (simp only[Option.some.injEq] at hy; subst hy; exact ⟨rfl,rfl⟩) | (simp at hy; done)))
      exact ⟨k1,k2,rfl⟩
    · rename_i e ho
      simp only[bY,ho] at hop
      split at hop
      · unfold kr at hop
        split at hop
        · simp only[Option.some.injEq,Prod.mk.injEq] at hop
          obtain ⟨_,he,hr⟩:=hop
          rw[← he,← hr]; exact ⟨rfl,rfl,rfl⟩
        · simp at hop
      · simp at hop
    · simp at ha
  | hZ _ ho _=>rw[ho] at ha; simp at ha
  | fq _ ho _ _ _ _=>rw[ho] at ha; simp at ha
  | call _ ho _ _ _ _ _=>rw[ho] at ha; simp at ha
theorem tR {o:Oper} {t:Nat} (h:ju o=some t):nr o=some t:=by unfold nr; rw[h]
theorem KJ {T T':Env} {h h':aE} {recs:List Rec} (tr:Tr P n all all T h recs T' h') {i k:Nat} {a b:Rec} {p:Nat × Nat} (hp:A6 all i k=some p) (hA:gJ (T' p.1) (T' p.2)) (ha:recs[i]?=some a) (hb:recs[k]?=some b):mM a b:=by
  unfold A6 at hp
  split at hp
  · rename_i oa ob hoa hob
    split at hp
    · rename_i s t hl hs
      split at hp
      · rename_i hst
        simp only[Bool.and_eq_true] at hst
        simp at hp; subst hp
        obtain ⟨Ta,ha1,va,ha2,sa,la1,la2,ea⟩:=oY tr hoa hst.1 ha
        obtain ⟨Tb,hb1,vb,hb2,sb,_,_,eb⟩:=oY tr hob hst.2 hb
        obtain ⟨l1,l2,l3,l4⟩:=u7 sa hl
        have hA:gJ (Ta s) (Tb t):=by rw[ea,eb]; exact hA
        refine ⟨fun id hid=>by simp[l1] at hid,fun id hid hr=>?_,fun hc=>by simp[l2] at hc,fun _=>l1,fun id _ hx=>by omega⟩
        obtain ⟨i',j',e1⟩:=l4 id hr
        rw[e1] at hA
        rcases (p7 sb (tR hs)).2 id hid with ⟨c,d,hy⟩ | ⟨c,d,e,hy⟩
        · rw[hy] at hA; exact xJ hA rfl
        · rw[hy] at hA; exact AO hA rfl
      · simp at hp
    · split at hp
      · rename_i t s hs hl
        split at hp
        · rename_i hst
          simp only[Bool.and_eq_true] at hst
          simp at hp; subst hp
          obtain ⟨Ta,ha1,va,ha2,sa,la1,la2,ea⟩:=oY tr hoa hst.1 ha
          obtain ⟨Tb,hb1,vb,hb2,sb,lb1,lb2,eb⟩:=oY tr hob hst.2 hb
          obtain ⟨l1,l2,l3,l4⟩:=u7 sb hl
          have hA:gJ (Tb s) (Ta t):=by rw[ea,eb]; exact hA
          refine ⟨fun id hid hr=>?_,fun id hid=>by simp[l1] at hid,fun hc=>l1,fun hc=>by simp[l2] at hc,fun id hid=>by simp[l1] at hid⟩
          obtain ⟨i',j',e1⟩:=l4 id hr
          rw[e1] at hA
          rcases (p7 sa (tR hs)).2 id hid with ⟨c,d,hy⟩ | ⟨c,d,e,hy⟩
          · rw[hy] at hA; exact xJ hA rfl
          · rw[hy] at hA; exact AO hA rfl
        · simp at hp
      · simp at hp
  · simp at hp
theorem I5 {T T':Env} {h h':aE} {recs:List Rec} (tr:Tr P n all all T h recs T' h') {i k:Nat} {a b:Rec} {p:Nat × Nat} (hp:Br all i k=some p) (hA:gJ (T' p.1) (T' p.2)) (ha:recs[i]?=some a) (hb:recs[k]?=some b):mM a b:=by
  unfold Br at hp
  split at hp
  · rename_i oa ob hoa hob
    split at hp
    · rename_i s t hl hs
      split at hp
      · rename_i hst
        simp only[Bool.and_eq_true] at hst
        simp at hp; subst hp
        obtain ⟨Ta,ha1,va,ha2,sa,la1,la2,ea⟩:=oY tr hoa hst.1 ha
        obtain ⟨Tb,hb1,vb,hb2,sb,_,_,eb⟩:=oY tr hob hst.2 hb
        obtain ⟨l1,l2,l3,l4⟩:=u7 sa hl
        have hA:gJ (Ta s) (Tb t):=by rw[ea,eb]; exact hA
        refine ⟨fun id hid=>by simp[l1] at hid,fun id hid hr=>?_,fun hc=>by simp[l2] at hc,fun _=>l1,fun id _ hx=>by omega⟩
        obtain ⟨i',j',e1⟩:=l4 id hr
        rw[e1] at hA
        rcases (p7 sb hs).2 id hid with ⟨c,d,hy⟩ | ⟨c,d,e,hy⟩
        · rw[hy] at hA; exact xJ hA rfl
        · rw[hy] at hA; exact AO hA rfl
      · simp at hp
    · split at hp
      · rename_i t s hs hl
        split at hp
        · rename_i hst
          simp only[Bool.and_eq_true] at hst
          simp at hp; subst hp
          obtain ⟨Ta,ha1,va,ha2,sa,la1,la2,ea⟩:=oY tr hoa hst.1 ha
          obtain ⟨Tb,hb1,vb,hb2,sb,lb1,lb2,eb⟩:=oY tr hob hst.2 hb
          obtain ⟨l1,l2,l3,l4⟩:=u7 sb hl
          have hA:gJ (Tb s) (Ta t):=by rw[ea,eb]; exact hA
          refine ⟨fun id hid hr=>?_,fun id hid=>by simp[l1] at hid,fun hc=>l1,fun hc=>by simp[l2] at hc,fun id hid=>by simp[l1] at hid⟩
          obtain ⟨i',j',e1⟩:=l4 id hr
          rw[e1] at hA
          rcases (p7 sa hs).2 id hid with ⟨c,d,hy⟩ | ⟨c,d,e,hy⟩
          · rw[hy] at hA; exact xJ hA rfl
          · rw[hy] at hA; exact AO hA rfl
        · simp at hp
      · simp at hp
  · simp at hp
theorem Lb {l:List (Nat × Nat)} {aps:List (Nat × Nat)} (h:zS all l=some aps):∀ q∈l,∃ p∈aps,A6 all q.1 q.2=some p:=by
  induction l generalizing aps with
  | nil=>intro q hq; simp at hq
  | cons x r ih =>
    obtain ⟨i,k⟩:=x
    simp only[zS] at h
    split at h
    · rename_i p l' h1 h2
      simp at h; subst h
      intro q hq
      rcases List.mem_cons.1 hq with rfl | hq
      · exact ⟨p,by simp,h1⟩
      · obtain ⟨p',hp',e⟩:=ih h2 q hq
        exact ⟨p',by simp[hp'],e⟩
    · simp at h
theorem IT {l:List (Nat × Nat)} {aps:List (Nat × Nat)} (h:tu all l=some aps):∀ q∈l,∃ ps,(∀ p∈ps,p∈aps)∧xH all q.1 q.2=some ps:=by
  induction l generalizing aps with
  | nil=>intro q hq; simp at hq
  | cons x r ih =>
    obtain ⟨i,k⟩:=x
    simp only[tu] at h
    split at h
    · rename_i p l' h1 h2
      simp at h; subst h
      intro q hq
      rcases List.mem_cons.1 hq with rfl | hq
      · exact ⟨p,fun x hx=>by simp[hx],h1⟩
      · obtain ⟨p',hp',e⟩:=ih h2 q hq
        exact ⟨p',fun x hx=>by simp[hp' x hx],e⟩
    · simp at h
theorem JH {H:View} {x:V} {xs:List (List V)} {rd:List Nat} (h:bI H x=some (xs,rd)):∀ id,id∈rd→∃ a b c,x=.sl id a b c:=by
  unfold bI at h
  split at h
  · simp at h; obtain ⟨_,rfl⟩:=h; intro id hid; simp at hid
  · simp at h; obtain ⟨_,rfl⟩:=h; intro id hid; simp at hid
  · simp at h; obtain ⟨_,rfl⟩:=h; intro id hid; simp at hid
  · simp at h; obtain ⟨_,rfl⟩:=h; intro id hid; simp at hid
  · split at h
    · split at h
      · simp at h
        obtain ⟨_,rfl⟩:=h
        intro id hid
        simp at hid; subst hid
        exact ⟨_,_,_,rfl⟩
      · simp at h
    · simp at h
  · simp at h; obtain ⟨_,rfl⟩:=h; intro id hid; simp at hid
  · simp at h
theorem FQ {o:Oper} {T:Env} {h h':aE} {v:V} {rd wr:List Nat} {call:Bool} {t y d:Nat} (st:di P n all o T h v h' rd wr call) (ha:xT o=some (t,y,d)) :
    call=false∧(∀ id,id∈wr→∃ a b c,T t=.sl id a b c)∧(∀ id,id∈rd→(∃ a b c,T t=.sl id a b c)∨∃ a b c,T y=.sl id a b c)∧(h.length < h'.length→∃ a b c,v=.sl h.length a b c)∧h'.length≤h.length+1∧o.dst=some d:=by
  unfold xT at ha
  split at ha
  · rename_i args ats d' ho hg hd
    split at ha
    · rename_i t2 y2 hl
      simp at ha
      obtain ⟨rfl,rfl,rfl⟩:=ha
      cases st with
      | skip _=>exact ⟨rfl,fun id hid=>by simp at hid,fun id hid=>by simp at hid,fun h=>by omega,by omega,hd⟩
      | op _ hop =>
        simp only[bY,ho,hl] at hop
        have nn:∀ {v':V} {eff':bj} {rd':List Nat},some (v',bj.none,([]:List Nat))=some (v,eff',rd')→false=false∧(∀ id,id∈eff'.wr→∃ a b c,T t2=.sl id a b c)∧(∀ id,id∈rd'→(∃ a b c,T t2=.sl id a b c)∨∃ a b c,T y2=.sl id a b c)∧(h.length < (eff'.apply h).length→∃ a b c,v=.sl h.length a b c)∧(eff'.apply h).length≤h.length+1∧o.dst=some d':=by
          intro v' eff' rd' e
          simp only[Option.some.injEq,Prod.mk.injEq] at e
          obtain ⟨_,rfl,rfl⟩:=e
          exact ⟨rfl,fun id hid=>by simp[bj.wr] at hid,fun id hid=>by simp at hid,fun h=>by simp[bj.apply] at h,by simp[bj.apply],hd⟩
        split at hop
        · unfold lx at hop
          split at hop
          · rename_i e xs rd' _ hel
            have hrd:=JH hel
            split at hop
            · simp at hop
            · split at hop
              · split at hop <;> first | exact nn hop | simp at hop
              · split at hop
                · simp at hop
                · split at hop
                  · split at hop
                    · simp only[Option.some.injEq,Prod.mk.injEq] at hop
                      obtain ⟨rfl,rfl,rfl⟩:=hop
                      exact ⟨rfl,fun id hid=>by simp[bj.wr] at hid,fun id hid=>.inr (hrd id hid),fun _=>⟨_,_,_,rfl⟩,by simp[bj.apply],hd⟩
                    · simp at hop
                  · rename_i id off len esz hx
                    split at hop
                    · split at hop
                      · simp only[Option.some.injEq,Prod.mk.injEq] at hop
                        obtain ⟨rfl,rfl,rfl⟩:=hop
                        refine ⟨rfl,fun id' hid=>?_,fun id' hid=>?_,fun _=>⟨_,_,_,rfl⟩,by simp[bj.apply],hd⟩
                        · simp[bj.wr] at hid; subst hid
                          exact ⟨off,len,esz,hx⟩
                        · rcases List.mem_cons.1 hid with rfl | hid
                          · exact .inl ⟨off,len,esz,hx⟩
                          · exact .inr (hrd id' hid)
                      · simp at hop
                    · simp at hop
                  · simp at hop
          · simp at hop
        · split at hop
          · unfold uS at hop
            split at hop
            · split at hop
              · split at hop
                · exact nn hop
                · split at hop
                  · simp only[Option.some.injEq,Prod.mk.injEq] at hop
                    obtain ⟨rfl,rfl,rfl⟩:=hop
                    exact ⟨rfl,fun id hid=>by simp[bj.wr] at hid,fun id hid=>by simp at hid,fun _=>⟨_,_,_,rfl⟩,by simp[bj.apply],hd⟩
                  · simp at hop
              · simp at hop
            · simp at hop
          · simp at hop
      | hZ _ ho' _=>rw[ho] at ho'; simp at ho'
      | fq _ ho' _ _ _ _=>rw[ho] at ho'; simp at ho'
      | call _ ho' _ _ _ _ _=>rw[ho] at ho'; simp at ho'
    · simp at ha
  · simp at ha
theorem J1 {T T':Env} {h h':aE} {recs:List Rec} (tr:Tr P n all all T h recs T' h') {i:Nat} {o:Oper} (ho:all[i]?=some o) {r:Rec} (hr:recs[i]?=some r) :
    ∃ T1 h1 v h2,di P n all o T1 h1 v h2 r.rd r.wr r.call∧r.lo=h1.length∧r.hi=h2.length∧(∀ t,stays all i t=true→T1 t=T' t)∧∀ d,o.dst=some d→stays all (i+1) d=true→T' d=v:=by
  obtain ⟨T1,h1,v,h2,rd,wr,call,recs2,e1,e2,e3,e4,e5,e6⟩:=tr.at_ i o ho
  rw[hr] at e1
  have e1:=Option.some.inj e1
  subst e1
  refine ⟨T1,h1,v,h2,e2,rfl,rfl,fun t hs=>?_,fun d hd hs=>?_⟩
  · have hk:=uf hs
    have hi:i < all.length:=(List.getElem?_eq_some_iff.1 ho).1
    have ho':all[i]=o:=(List.getElem?_eq_some_iff.1 ho).2
    rw[List.drop_eq_getElem_cons hi,ho'] at hk
    rw[e4.keep fun o' ho'=>hk o' (by simp[ho'])]
    have:=hk o (by simp)
    cases hdst:o.dst with
    | none=>rfl
    | some d=>simp only[Env.put]; rw[if_neg]; rintro rfl; exact this hdst
  · rw[e4.keep (uf hs),hd]
    simp[Env.put]
theorem xe {i a b c j d e f:Nat} (h:gJ (.sl i a b c) (.sl j d e f)):i≠j:=h
theorem IA {T T':Env} {h h':aE} {recs:List Rec} (tr:Tr P n all all T h recs T' h') {i k:Nat} {a b:Rec} {ps:List (Nat × Nat)} (hp:Bk all i k=some ps) (hA:∀ p∈ps,gJ (T' p.1) (T' p.2)) (ha:recs[i]?=some a) (hb:recs[k]?=some b):mM a b:=by
  unfold Bk at hp
  split at hp
  · rename_i oa ob hoa hob
    split at hp
    · rename_i t y d t' y' d' h1 h2
      split at hp
      · rename_i hst
        simp only[Bool.and_eq_true] at hst
        obtain ⟨⟨⟨⟨s1,s2⟩,s3⟩,s4⟩,s5⟩:=hst
        simp at hp; subst hp
        have a1:=hA (t,t') (by simp)
        have a2:=hA (t,y') (by simp)
        have a3:=hA (t',y) (by simp)
        have a4:=hA (d,t') (by simp)
        simp only at a1 a2 a3 a4
        obtain ⟨Ta,ha1,va,ha2,sa,la1,la2,ea,da⟩:=J1 tr hoa ha
        obtain ⟨Tb,hb1,vb,hb2,sb,_,_,eb,_⟩:=J1 tr hob hb
        obtain ⟨p1,p2,p3,p4,p5,p6⟩:=FQ sa h1
        obtain ⟨q1,q2,q3,_⟩:=FQ sb h2
        have da:=da d p6 s3
        rw[← ea t s1,← eb t' s4] at a1
        rw[← ea t s1,← eb y' s5] at a2
        rw[← eb t' s4,← ea y s2] at a3
        rw[da,← eb t' s4] at a4
        refine ⟨fun id hid hr=>?_,fun id hid hr=>?_,fun hc=>by rw[p1] at hc; simp at hc,fun hc=>by rw[q1] at hc; simp at hc,fun id hid hx=>?_⟩
        · obtain ⟨_,_,_,e⟩:=p2 id hid
          rcases q3 id hr with ⟨_,_,_,e'⟩ | ⟨_,_,_,e'⟩
          · rw[e,e'] at a1; exact xe a1 rfl
          · rw[e,e'] at a2; exact xe a2 rfl
        · obtain ⟨_,_,_,e⟩:=q2 id hid
          rcases p3 id hr with ⟨_,_,_,e'⟩ | ⟨_,_,_,e'⟩
          · rw[e',e] at a1; exact xe a1 rfl
          · rw[e,e'] at a3; exact xe a3 rfl
        · obtain ⟨_,_,_,e⟩:=q2 id hid
          obtain ⟨_,_,_,e'⟩:=p4 (by omega)
          have:id=ha1.length:=by omega
          subst this
          rw[e,e'] at a4; exact xe a4 rfl
      · simp at hp
    · simp at hp
  · simp at hp
theorem Jd {T T':Env} {h h':aE} {recs:List Rec} (tr:Tr P n all all T h recs T' h') {i k:Nat} {a b:Rec} {ps:List (Nat × Nat)} (hp:xH all i k=some ps) (hA:∀ p∈ps,gJ (T' p.1) (T' p.2)) (ha:recs[i]?=some a) (hb:recs[k]?=some b):mM a b:=by
  unfold xH at hp
  split at hp
  · rename_i p h1
    simp at hp; subst hp
    exact I5 tr h1 (hA p (by simp)) ha hb
  · exact IA tr hp hA ha hb
theorem Mb {ls:List Nat} {recs:List Rec} {T T':Env} {hp hp':aE} {aps:List (Nat × Nat)} (tr:Tr P n all all T hp recs T' hp') (h:zS all (jz all ls)=some aps) (hA:∀ p∈aps,gJ (T' p.1) (T' p.2)) (hl:ls.length=recs.length)
    (hr:∀ (i x:Nat) (r:Rec),ls[i]?=some x→recs[i]?=some r→jI x r.rd r.wr r.call r.lo r.hi):sd all recs:=by
  intro i k a b hik ha hb ho
  have hi:i < recs.length:=(List.getElem?_eq_some_iff.1 ha).1
  have hk:k < recs.length:=(List.getElem?_eq_some_iff.1 hb).1
  have la:=hr i _ a (List.getElem?_eq_getElem (by omega)) ha
  have lb:=hr k _ b (List.getElem?_eq_getElem (by omega)) hb
  have mi:(ls[i]'(by omega),i)∈ls.zipIdx:=by rw[List.mem_zipIdx_iff_getElem?]; simp[List.getElem?_eq_getElem (show i < ls.length by omega)]
  have mk:(ls[k]'(by omega),k)∈ls.zipIdx:=by rw[List.mem_zipIdx_iff_getElem?]; simp[List.getElem?_eq_getElem (show k < ls.length by omega)]
  by_cases h1:wg all (ls[i]'(by omega)) i (ls[k]'(by omega)) k=true
  · unfold wg at h1
    simp only[hik,decide_true,Bool.not_true,ho,Bool.false_or,Bool.or_eq_true,beq_iff_eq,Bool.and_eq_true,decide_eq_true_eq] at h1
    rcases h1 with ((h1 | h1) | h1) | h1
    · obtain ⟨e1,e2,e3,e4⟩:=la.1 h1
      exact ⟨fun id hid=>by simp[e2] at hid,fun id _=>by simp[e1],fun hc=>by simp[e3] at hc,fun _=>e2,fun id _ hx=>by omega⟩
    · obtain ⟨e1,e2,e3,e4⟩:=lb.1 h1
      exact ⟨fun id _=>by simp[e1],fun id hid=>by simp[e2] at hid,fun _=>e2,fun hc=>by simp[e3] at hc,fun id hid=>by simp[e2] at hid⟩
    · have e1:=la.2 h1.1
      have e2:=lb.2 h1.2
      exact ⟨fun id hid=>by simp[e1] at hid,fun id hid=>by simp[e2] at hid,fun _=>e2,fun _=>e1,fun id hid=>by simp[e2] at hid⟩
    · exact uU tr h1 ha hb
  · have hm:(i,k)∈jz all ls:=by
      unfold jz
      rw[List.mem_flatMap]
      refine ⟨_,mi,?_⟩
      rw[List.mem_filterMap]
      exact ⟨_,mk,by simp only; rw[if_neg h1]⟩
    obtain ⟨p,hp,e⟩:=Lb h (i,k) hm
    exact KJ tr e (hA p hp) ha hb
theorem Cl {P:Program} {t:TypeId} {id:Nat} {q:V} {ok:Bool} {H1 H2:View} (h:H1 id=H2 id):fp P t (.mp id) q ok H1=fp P t (.mp id) q ok H2:=by
  unfold fp
  simp only[h]
theorem Ju {P:Program} {t:TypeId} {id:Nat} {q:V} {H1 H2:View} (h:H1 id=H2 id):ez P t (.mp id) q H1=ez P t (.mp id) q H2:=by
  cases hm:fu P t with
  | none=>simp only[ez,hm]
  | some x=>simp only[ez,hm,h]
theorem MO {P:Program} {t:TypeId} {id:Nat} {q:V} {H:View} {v:V} {eff:bj} {rd:List Nat} (h:fp P t (.mp id) q false H=some (v,eff,rd)):eff=.none∧rd=[id]:=by
  simp only[fp,Bool.false_eq_true,if_false] at h
  repeat' (first | (simp only[Option.some.injEq,Prod.mk.injEq] at h; exact ⟨h.2.1.symm,h.2.2.symm⟩) | (split at h) | (simp at h; done))
theorem Kd {P:Program} {t:TypeId} {id:Nat} {q:V} {H:View} {v:V} {eff:bj} {rd:List Nat} (h:ez P t (.mp id) q H=some (v,eff,rd)):∃ obj,eff=.eQ id obj:=by
  cases hm:fu P t with
  | none=>simp[ez,hm] at h
  | some x =>
    simp only[ez,hm] at h
    repeat' (first | (simp only[Option.some.injEq,Prod.mk.injEq] at h; exact ⟨_,h.2.1.symm⟩) | (split at h) | (simp at h; done))
theorem EF {o:Oper} {T:Env} {h h':aE} {v:V} {rd wr:List Nat} {call:Bool} (st:di P n all o T h v h' rd wr call) (hg:c7 n all T o=some true) (hb:∀ e x,o.op≠.box e x) (hc:∀ s d x,o.op≠.convert s d x) (hl:∀ c,o.op≠.call c) :
    ∃ eff,bY P o T h.view h.length=some (v,eff,rd)∧h'=eff.apply h∧wr=eff.wr∧call=false:=by
  cases st with
  | skip hs=>rw[hg] at hs; simp at hs
  | op _ hop=>exact ⟨_,hop,rfl,rfl,rfl⟩
  | hZ _ ho _=>exact absurd ho (hb _ _)
  | fq _ ho _ _ _ _=>exact absurd ho (hc _ _ _)
  | call _ ho _ _ _ _ _=>exact absurd ho (hl _)
theorem Oo {recs:List Rec} {Ts:Nat→Env} {hs:Nat→aE} {vs:Nat→V} (hst:zi P n all recs Ts hs vs) (hl:recs.length=all.length) {k:Nat} (hk:k≤all.length) (hw:∀ j r,j < k→recs[j]?=some r→r.wr=[]) :
    ∀ j,j≤k→(hs 0).length≤(hs j).length∧∀ id,id < (hs 0).length→(hs j).view id=(hs 0).view id:=by
  intro j
  induction j with
  | zero=>intro _; exact ⟨Nat.le_refl _,fun _ _=>rfl⟩
  | succ j ih =>
    intro hj
    obtain ⟨l1,l2⟩:=ih (by omega)
    obtain ⟨st,_,_,_,_⟩:=hst j all[j] (recs[j]'(by omega)) (List.getElem?_eq_getElem (by omega)) (List.getElem?_eq_getElem (by omega))
    refine ⟨Nat.le_trans l1 (rM st),fun id hid=>?_⟩
    rw[pQ st (Nat.lt_of_lt_of_le hid l1) (by rw[hw j _ (by omega) (List.getElem?_eq_getElem (by omega))]; simp)]
    exact l2 id hid
theorem oh {recs:List Rec} {Ts:Nat→Env} {hs:Nat→aE} {vs:Nat→V} (hst:zi P n all recs Ts hs vs) (hl:recs.length=all.length) {i t:Nat} (h:stays all i t=true):∀ j,i≤j→j≤all.length→Ts j t=Ts i t:=by
  intro j hij hj
  refine x6 (vs:=vs) (N:=all.length) (fun k o hk=>?_) rfl i j hij hj fun k o h1 h2 h3=>uf h o (by
    rw[List.mem_iff_getElem?]
    exact ⟨k - i,by rw[List.getElem?_drop,show i+(k - i)=k by omega]; exact h3⟩)
  have hk':k < all.length:=(List.getElem?_eq_some_iff.1 hk).1
  exact (hst k o (recs[k]'(by omega)) hk (List.getElem?_eq_getElem (by omega))).2.2.1
theorem Fx {ls:List Nat} {recs:List Rec} {T T':Env} {hp hp':aE} {aps:List (Nat × Nat)} {tp:Option (Nat × Nat)} (tr:Tr P n all all T hp recs T' hp') (h:tu all (DH all ls tp)=some aps) (hA:∀ p∈aps,gJ (T' p.1) (T' p.2)) (hl:ls.length=recs.length)
    (hr:∀ (i x:Nat) (r:Rec),ls[i]?=some x→recs[i]?=some r→jI x r.rd r.wr r.call r.lo r.hi) (htol:∀ p,tp=some p→∃ tol,DI all ls p.1 p.2=some tol∧I1 P tol.1 (T' tol.2.1) (T' tol.2.2) hp.view):Ic P n all recs T T' hp:=by
  have main:∀ i k a b,i < k→recs[i]?=some a→recs[k]?=some b→ordered (eK all []) i k=false→tp≠some (i,k)→mM a b:=by
    intro i k a b hik ha hb ho hne
    have hi:i < recs.length:=(List.getElem?_eq_some_iff.1 ha).1
    have hk:k < recs.length:=(List.getElem?_eq_some_iff.1 hb).1
    have la:=hr i _ a (List.getElem?_eq_getElem (by omega)) ha
    have lb:=hr k _ b (List.getElem?_eq_getElem (by omega)) hb
    have mi:(ls[i]'(by omega),i)∈ls.zipIdx:=by rw[List.mem_zipIdx_iff_getElem?]; simp[List.getElem?_eq_getElem (show i < ls.length by omega)]
    have mk:(ls[k]'(by omega),k)∈ls.zipIdx:=by rw[List.mem_zipIdx_iff_getElem?]; simp[List.getElem?_eq_getElem (show k < ls.length by omega)]
    by_cases h1:wg all (ls[i]'(by omega)) i (ls[k]'(by omega)) k=true
    · unfold wg at h1
      simp only[hik,decide_true,Bool.not_true,ho,Bool.false_or,Bool.or_eq_true,beq_iff_eq,Bool.and_eq_true,decide_eq_true_eq] at h1
      rcases h1 with ((h1 | h1) | h1) | h1
      · obtain ⟨e1,e2,e3,e4⟩:=la.1 h1
        exact ⟨fun id hid=>by simp[e2] at hid,fun id _=>by simp[e1],fun hc=>by simp[e3] at hc,fun _=>e2,fun id _ hx=>by omega⟩
      · obtain ⟨e1,e2,e3,e4⟩:=lb.1 h1
        exact ⟨fun id _=>by simp[e1],fun id hid=>by simp[e2] at hid,fun _=>e2,fun hc=>by simp[e3] at hc,fun id hid=>by simp[e2] at hid⟩
      · have e1:=la.2 h1.1
        have e2:=lb.2 h1.2
        exact ⟨fun id hid=>by simp[e1] at hid,fun id hid=>by simp[e2] at hid,fun _=>e2,fun _=>e1,fun id hid=>by simp[e2] at hid⟩
      · exact uU tr h1 ha hb
    · have hm:(i,k)∈jz all ls:=by
        unfold jz
        rw[List.mem_flatMap]
        refine ⟨_,mi,?_⟩
        rw[List.mem_filterMap]
        exact ⟨_,mk,by simp only; rw[if_neg h1]⟩
      by_cases hn:newAt all k=true
      · unfold newAt at hn
        split at hn
        · rename_i ob hob
          obtain ⟨T1,h1',v,h2,rd,wr,call,recs2,e1,e2,_⟩:=tr.at_ k ob hob
          rw[hb] at e1
          have e1:=Option.some.inj e1
          subst e1
          obtain ⟨n1,n2,n3⟩:=M3 e2 hn
          exact ⟨fun id _=>by simp[n1],fun id hid=>by simp[n2] at hid,fun _=>n2,fun hc=>by simp[n3] at hc,fun id hid=>by simp[n2] at hid⟩
        · simp at hn
      · obtain ⟨p,hp,e⟩:=IT h (i,k) (by
          unfold DH
          rw[List.mem_filter]
          refine ⟨hm,?_⟩
          simp only[Bool.and_eq_true,Bool.not_eq_true',bne_iff_ne,ne_eq]
          exact ⟨by simpa using hn,hne⟩)
        exact Jd tr e (fun q hq=>hA q (hp q hq)) ha hb
  cases tp with
  | none=>exact sd.PU fun i k a b h1 h2 h3 h4=>main i k a b h1 h2 h3 h4 (by simp)
  | some p =>
    obtain ⟨i0,k0⟩:=p
    obtain ⟨tol,hto,htv⟩:=htol _ rfl
    intro Ts hs vs eT0 eh0 eTN hrl hst i
    by_cases hi:i=i0
    · subst hi
      refine ⟨some k0,fun k a b h1 h2 h3 h4 h5=>main i k a b h1 h2 h3 h4 (fun e=>h5 (by simp at e; rw[e])),fun k a b o hk ha hb ho=>?_⟩
      simp at hk; subst hk
      unfold DI at hto
      simp only at hto
      split at hto
      · rename_i oa ob hoa hob
        rw[ho] at hoa
        have hoa:=Option.some.inj hoa
        subst hoa
        split at hto
        · rename_i t m q t' m' q' hop1 hop2 hg1 hg2
          split at hto
          · rename_i hcond
            simp only[Bool.and_eq_true,beq_iff_eq,decide_eq_true_eq,List.all_eq_true,List.mem_range] at hcond
            obtain ⟨⟨⟨⟨⟨⟨⟨⟨rfl,rfl⟩,rfl⟩,s1⟩,s2⟩,s3⟩,s4⟩,hik⟩,hloud⟩:=hcond
            simp only[Option.some.injEq] at hto
            subst hto
            simp only at htv
            have hkl:k0 < all.length:=(List.getElem?_eq_some_iff.1 hob).1
            have hwr:∀ j r,j < k0→recs[j]?=some r→r.wr=[]:=fun j r hj hrj=>by
              have h1:=hloud j hj
              have hj':j < ls.length:=by omega
              rw[List.getD_eq_getElem?_getD,List.getElem?_eq_getElem hj'] at h1
              exact (hr j _ r (List.getElem?_eq_getElem hj') hrj).2 h1
            have hsame:=Oo hst hrl (Nat.le_of_lt hkl) hwr
            have em:∀ j,i≤j→j≤all.length→Ts j m=T' m:=fun j h1 h2=>by
              rw[← eTN,oh hst hrl s1 j h1 h2,oh hst hrl s1 all.length (by omega) (Nat.le_refl _)]
            have eq:∀ j,i≤j→j≤all.length→Ts j q=T' q:=fun j h1 h2=>by
              rw[← eTN,oh hst hrl s2 j h1 h2,oh hst hrl s2 all.length (by omega) (Nat.le_refl _)]
            obtain ⟨sti,_,_,hlo,hhi⟩:=hst i o a ho ha
            obtain ⟨stk,_,_,_,_⟩:=hst k0 ob b hob hb
            have gi:c7 n all (Ts i) o=some true:=by unfold c7; rw[hg1]
            have gk:c7 n all (Ts k0) ob=some true:=by unfold c7; rw[hg2]
            unfold I1 at htv
            split at htv
            · rename_i id hid
              obtain ⟨⟨es0,c0,hmap⟩,htv⟩:=htv
              have hidl:id < hp.length:=gq (by rw[hmap]; simp)
              have hvk:(hs k0).view id=hp.view id:=by rw[(hsame k0 (Nat.le_refl _)).2 id (by rw[eh0]; exact hidl),eh0]
              have hvi:(hs i).view id=hp.view id:=by rw[(hsame i (Nat.le_of_lt hik)).2 id (by rw[eh0]; exact hidl),eh0]
              obtain ⟨effi,hopi,hi',wri,cai⟩:=EF sti gi (by rw[hop1]; simp) (by rw[hop1]; simp) (by rw[hop1]; simp)
              obtain ⟨effk,hopk,hk',wrk,cak⟩:=EF stk gk (by rw[hop2]; simp) (by rw[hop2]; simp) (by rw[hop2]; simp)
              simp only[bY,hop1] at hopi
              simp only[bY,hop2] at hopk
              have e1:ev (Ts i) (.tmp m)=.mp id:=(em i (Nat.le_refl _) (by omega)).trans hid
              have e2:ev (Ts i) (.tmp q)=T' q:=eq i (Nat.le_refl _) (by omega)
              have e3:ev (Ts k0) (.tmp m)=.mp id:=(em k0 (by omega) (by omega)).trans hid
              have e4:ev (Ts k0) (.tmp q)=T' q:=eq k0 (by omega) (by omega)
              rw[e1,e2] at hopi
              rw[e3,e4,Ju hvk] at hopk
              obtain ⟨l1,l2⟩:=MO hopi
              obtain ⟨obj,l3⟩:=Kd hopk
              subst l1 l3
              have hkb:(hs (k0+1)).view id=obj:=by
                rw[hk',jU (fun id' hid'=>by
                  simp only[bj.wr,List.mem_singleton] at hid'
                  subst hid'
                  rw[hvk,hmap]; simp)]
                simp[bj.view,View.set]
              refine ⟨hik,wri,cai,by rw[hlo,hhi,hi']; rfl,fun g hg hgv=>?_⟩
              have hidi:id < (hs i).length:=gq (by rw[hvi,hmap]; simp)
              have hgid:g.view id=(hp.view.set id obj) id:=by
                rw[hgv id hidi,wrk,if_pos (by simp[bj.wr]),hkb]
                simp[View.set]
              have hlk:=htv _ _ _ hopk
              have hfin:bY P o (Ts i) g.view g.length=some (vs i,.none,a.rd):=by
                simp only[bY,hop1]
                rw[e1,e2,Cl hgid,hlk,← Cl hvi]
                exact hopi
              exact .op gi hfin
            · exact htv.elim
          · simp at hto
        · simp at hto
      · simp at hto
    · exact ⟨none,fun k a b h1 h2 h3 h4 _=>main i k a b h1 h2 h3 h4 (fun e=>hi (by simp at e; exact e.1.symm)),fun k a b o h1=>by simp at h1⟩
theorem L7 (hm:P.follows .mixedOrders=true) {fz:Fz} {id:Nat} {ops:Array Oper} {sc:SC} {T:Env} {h:aE} {Q:Exit→Env→View→Prop} (hc:zX P n fz ops.toList=some sc) (hw:wS P sc T h.view Q) :
    ∃ e T' h',cI P n (.region id ops true) T h e T' h'∧(gU h h'∧h.length≤h'.length)∧Q e T' h'.view:=by
  unfold zX at hc
  split at hc
  · simp at hc
  · rename_i l hl
    split at hc
    · simp at hc
    · rename_i hok
      have hok:(group l).all rS=true:=by simpa using hok
      have hl':df P n ops.toList fz ops.toList=some (jd (group l)):=by rw[fE]; exact hl
      split at hc
      · rename_i ht
        simp only[Option.map_eq_some_iff] at hc
        obtain ⟨aps,hap,rfl⟩:=hc
        obtain ⟨recs,T',h',tr,hst,hk,hro⟩:=we (group l) ops.toList T h hl' hok hw
        rw[fE] at hro
        refine ⟨.normal,T',h',?_,hst,hk.rest⟩
        have hcf:sd ops.toList recs:=Mb tr hap (zB hk) (by simpa using hro.1) (fun i x r hx hr=>by
          simp only[List.getElem?_map,Option.map_eq_some_iff] at hx
          obtain ⟨s,hs,rfl⟩:=hx
          exact hro.2 i s r hs hr)
        simpa using vX hm (id:=id) tr ht hcf
      · simp at hc
theorem Ml (hm:P.follows .mixedOrders=true) {fz:Fz} {id:Nat} {ops:Array Oper} {sc:SC} {T:Env} {h:aE} {Q:Exit→Env→View→Prop} (hc:AP P n fz ops.toList=some sc) (hw:wS P sc T h.view Q) :
    ∃ e T' h',cI P n (.region id ops true) T h e T' h'∧(gU h h'∧h.length≤h'.length)∧Q e T' h'.view:=by
  unfold AP at hc
  split at hc
  · simp at hc
  · rename_i l hl
    split at hc
    · simp at hc
    · rename_i hok
      have hok:(group l).all rS=true:=by simpa using hok
      have hl':df P n ops.toList fz ops.toList=some (jd (group l)):=by rw[fE]; exact hl
      split at hc
      · rename_i ht
        split at hc
        · simp only[Option.map_eq_some_iff] at hc
          obtain ⟨aps,hap,rfl⟩:=hc
          obtain ⟨recs,T',h',tr,hst,hk,hro⟩:=we (group l) ops.toList T h hl' hok hw
          rw[fE] at hro
          refine ⟨.normal,T',h',?_,hst,hk.rest⟩
          have hcf:=Fx tr hap (zB hk) (by simpa using hro.1) (fun i x r hx hr=>by
            simp only[List.getElem?_map,Option.map_eq_some_iff] at hx
            obtain ⟨s,hs,rfl⟩:=hx
            exact hro.2 i s r hs hr) (fun p hp=>by simp at hp)
          simpa using um hm (id:=id) tr ht hcf
        · rename_i p hp
          split at hc
          · rename_i tol hto
            simp only[Option.map_eq_some_iff] at hc
            obtain ⟨aps,hap,rfl⟩:=hc
            obtain ⟨recs,T',h',tr,hst,hk,hro⟩:=we (group l) ops.toList T h hl' hok hw
            rw[fE] at hro
            refine ⟨.normal,T',h',?_,hst,hk.2.rest⟩
            have hcf:=Fx tr hap (zB hk.2) (by simpa using hro.1) (fun i x r hx hr=>by
              simp only[List.getElem?_map,Option.map_eq_some_iff] at hx
              obtain ⟨s,hs,rfl⟩:=hx
              exact hro.2 i s r hs hr) (fun p' hp'=>by
                simp only[Option.some.injEq] at hp'
                subst hp'
                exact ⟨tol,hto,hk.1⟩)
            simpa using um hm (id:=id) tr ht hcf
          · simp at hc
      · simp at hc
theorem qR (hm:P.follows .mixedOrders=true) {fz:Fz} {id:Nat} {ops:Array Oper} {draw quiet:Bool} {sc:SC} {T:Env} {h:aE} {Q:Exit→Env→View→Prop} (hc:pZ P n fz ops.toList draw quiet=some sc) (hw:wS P sc T h.view Q) :
    ∃ e T' h',cI P n (.region id ops draw) T h e T' h'∧(gU h h'∧h.length≤h'.length)∧Q e T' h'.view:=by
  unfold pZ at hc
  split at hc
  · simp at hc
  · rename_i l hl
    split at hc
    · simp at hc
    · rename_i hok
      have hok:(group l).all rS=true:=by simpa using hok
      have hl':df P n ops.toList fz ops.toList=some (jd (group l)):=by rw[fE]; exact hl
      have key:vp P quiet (group l) T h.view (Q .normal)→(draw=true→kD ops.toList=true∧DP ops.toList (l.map fun s=>hD P quiet s.b)=true) →
          ∃ e T' h',cI P n (.region id ops draw) T h e T' h'∧(gU h h'∧h.length≤h'.length)∧Q e T' h'.view:=by
        intro hw hdr
        obtain ⟨recs,T',h',tr,hst,hk,hro⟩:=we (group l) ops.toList T h hl' hok hw
        rw[fE] at hro
        refine ⟨.normal,T',h',?_,hst,hk⟩
        cases hd:draw with
        | false=>simpa using D2 (id:=id) tr
        | true =>
          obtain ⟨h1,h2⟩:=hdr hd
          have hcf:sd ops.toList recs:=Nd tr h2 (by simpa using hro.1) (fun i x r hx hr=>by
            simp only[List.getElem?_map,Option.map_eq_some_iff] at hx
            obtain ⟨s,hs,rfl⟩:=hx
            exact hro.2 i s r hs hr)
          simpa using vX hm (id:=id) tr h1 hcf
      split at hc
      · rename_i hd
        split at hc
        · rename_i ht
          simp at hc; subst hc
          exact key hw (fun _=>by simpa using ht)
        · simp at hc
      · rename_i hd
        simp at hc; subst hc
        exact key hw (fun e=>absurd e hd)
theorem ej {a b:Option SC} {sc:SC} (h:orElse' a b=some sc):a=some sc∨b=some sc:=by
  cases a with
  | none=>exact .inr h
  | some x=>exact .inl h
theorem JU (hm:P.follows .mixedOrders=true) {fz:List Nat} {id:Nat} {ops:Array Oper} {draw:Bool} {sc:SC} {T:Env} {h:aE} {Q:Exit→Env→View→Prop} (hc:AG P n fz ops.toList draw=some sc) (hw:wS P sc T h.view Q) :
    ∃ e T' h',cI P n (.region id ops draw) T h e T' h'∧(gU h h'∧h.length≤h'.length)∧Q e T' h'.view:=by
  unfold AG at hc
  rcases ej hc with h1 | h1
  · exact qR hm h1 hw
  · clear hc
    split at h1
    · rename_i hd
      subst hd
      rcases ej h1 with h0 | h1
      · split at h0
        · exact Ml hm h0 hw
        · simp at h0
      rcases ej h1 with h0 | h1
      · split at h0
        · exact qR hm h0 hw
        · simp at h0
      rcases ej h1 with h2 | h2
      · exact L7 hm h2 hw
      · rcases ej h2 with h3 | h3
        · exact qR hm h3 hw
        · rcases ej h3 with h4 | h4
          · exact qR hm h4 hw
          · exact qR hm h4 hw
    · simp at h1
theorem CU {e:Exit} {a b:Prop} (h:yC e a b):(e=.normal∧a)∨(e≠.normal∧b):=by
  cases e with
  | normal=>exact .inl ⟨rfl,h⟩
  | _=>exact .inr ⟨by simp,h⟩
def p9 (P:Program) (n:Nat) (fz:List Nat) (c:Code):Prop:=∀ sc:SC,cP P n fz c=some sc→∀ (T:Env) (h:aE) (Q:Exit→Env→View→Prop),wS P sc T h.view Q →
    ∃ e T' h',cI P n c T h e T' h'∧(gU h h'∧h.length≤h'.length)∧Q e T' h'.view
theorem CH {fz:List Nat} : p9 P n fz .skip:=by
  intro sc hc T h Q hw; simp[cP] at hc; subst hc; exact ⟨_,T,h,.skip,⟨.refl _,Nat.le_refl _⟩,hw⟩
theorem EG {fz:List Nat} {x y:Code} (ihx:p9 P n fz x) (ihy:p9 P n fz y):p9 P n fz (.seq x y):=by
  intro sc hc T h Q hw
  simp only[cP] at hc
  split at hc
  · rename_i a b h1 h2
    simp at hc; subst hc
    simp only[wS] at hw
    obtain ⟨e,T1,h1',hx,st1,hq⟩:=ihx a h1 T h _ hw
    rcases CU hq with ⟨rfl,hq⟩ | ⟨hne,hq⟩
    · obtain ⟨e2,T2,h2',hy,st2,hq2⟩:=ihy b h2 T1 h1' _ hq
      exact ⟨e2,T2,h2',hx.seq hy,⟨st1.1.trans st2.1 st1.2,Nat.le_trans st1.2 st2.2⟩,hq2⟩
    · exact ⟨e,T1,h1',hx.HH hne,st1,hq⟩
  · simp at hc
theorem lL {fz:Fz} {ops:List Oper} {draw quiet:Bool} {sc:SC} (h:pZ P n fz ops draw quiet=some sc) (l:Nat):mw sc l=none:=by
  unfold pZ at h
  repeat' (first | (simp only[Option.some.injEq] at h; subst h; rfl) | (split at h) | (simp at h; done))
theorem IW {fz:Fz} {ops:List Oper} {sc:SC} (h:zX P n fz ops=some sc) (l:Nat):mw sc l=none:=by
  unfold zX at h
  repeat' (first | (simp only[Option.map_eq_some_iff] at h; obtain ⟨_,_,rfl⟩:=h; rfl) | (split at h) | (simp at h; done))
theorem Iv {fz:Fz} {ops:List Oper} {sc:SC} (h:AP P n fz ops=some sc) (l:Nat):mw sc l=none:=by
  unfold AP at h
  repeat' (first | (simp only[Option.map_eq_some_iff] at h; obtain ⟨_,_,rfl⟩:=h; rfl) | (split at h) | (simp at h; done))
theorem Js {fz:List Nat} {ops:List Oper} {draw:Bool} {sc:SC} (h:AG P n fz ops draw=some sc) (l:Nat):mw sc l=none:=by
  unfold AG at h
  rcases ej h with h1 | h1
  · exact lL h1 l
  · split at h1
    · rcases ej h1 with h0 | h1
      · split at h0
        · exact Iv h0 l
        · simp at h0
      rcases ej h1 with h0 | h1
      · split at h0
        · exact lL h0 l
        · simp at h0
      rcases ej h1 with h2 | h2
      · exact IW h2 l
      · rcases ej h2 with h3 | h3
        · exact lL h3 l
        · rcases ej h3 with h4 | h4
          · exact lL h4 l
          · exact lL h4 l
    · simp at h1
theorem JV {fz:List Nat} : ∀ (c:Code) (sc:SC),cP P n fz c=some sc→∀ l,match findLabel c l with
    | some rest=>∃ r,mw sc l=some r∧cP P n fz rest=some r
    | none=>mw sc l=none:=by
  intro c
  induction c with
  | seq x y ihx ihy =>
    intro sc hc l
    simp only[cP] at hc
    split at hc
    · rename_i a b h1 h2
      simp at hc; subst hc
      have hx:=ihx a h1 l
      have hy:=ihy b h2 l
      simp only[findLabel,mw]
      cases h3:findLabel x l with
      | some rx =>
        rw[h3] at hx
        obtain ⟨r,e1,e2⟩:=hx
        exact ⟨.seq r b,by rw[e1],by simp only[cP,e2,h2]⟩
      | none =>
        rw[h3] at hx
        simp only at hx ⊢
        rw[hx]
        exact hy
    · simp at hc
  | label l' =>
    intro sc hc l
    simp[cP] at hc; subst hc
    simp only[findLabel,mw]
    by_cases e:(l' == l)=true
    · rw[if_pos e]; exact ⟨.skip,by rw[if_pos e],by simp[cP]⟩
    · rw[if_neg e]; simp only; rw[if_neg e]
  | region id ops draw=>intro sc hc l; simp only[cP] at hc; simp only[findLabel]; exact Js hc l
  | cond x y z _ _ =>
    intro sc hc l
    simp only[cP] at hc
    split at hc
    · simp at hc; subst hc; rfl
    · simp at hc
  | block id c _=>intro sc hc l; simp only[cP,Option.map_eq_some_iff] at hc; obtain ⟨_,_,rfl⟩:=hc; rfl
  | loop c _=>intro sc hc l; simp only[cP,Option.map_eq_some_iff] at hc; obtain ⟨_,_,rfl⟩:=hc; rfl
  | scope c _ =>
    intro sc hc l
    simp only[cP] at hc
    split at hc
    · split at hc
      · simp only[Option.map_eq_some_iff] at hc; obtain ⟨_,_,rfl⟩:=hc; rfl
      · simp at hc
    · simp at hc
  | skip=>intro sc hc l; simp[cP] at hc; subst hc; rfl
  | exit id=>intro sc hc l; simp[cP] at hc; subst hc; rfl
  | ret=>intro sc hc l; simp[cP] at hc; subst hc; rfl
  | goto l'=>intro sc hc l; simp[cP] at hc; subst hc; rfl
  | _=>intro sc hc; simp[cP] at hc
theorem IP {fz:List Nat} {c:Code} (h0:p9 P n fz c) (hr:∀ l rest,findLabel c l=some rest→p9 P n fz rest):p9 P n fz (.scope c):=by
  intro sc hc T h Q hw
  simp only[cP] at hc
  split at hc
  · rename_i a h1
    split at hc
    · rename_i l h2
      simp only[Option.map_eq_some_iff] at hc
      obtain ⟨r,h3,rfl⟩:=hc
      have hf:=JV c a h1 l
      cases h4:findLabel c l with
      | none=>rw[h4] at hf; simp only at hf; rw[hf] at h3; simp at h3
      | some rest =>
        rw[h4] at hf
        obtain ⟨r',e1,e2⟩:=hf
        rw[h3] at e1
        have e1:=Option.some.inj e1
        subst e1
        simp only[wS] at hw
        obtain ⟨I,K,hw1,hw2⟩:=hw
        have go:∀ k T (h:aE),I k T h.view→∃ e T' h',pS P n c rest T h e T' h'∧(gU h h'∧h.length≤h'.length)∧Q e T' h'.view:=by
          intro k
          induction k using Nat.strongRecOn with
          | ind k ihk =>
            intro T h hI
            obtain ⟨e,T1,h1',hx,st1,hq⟩:=hr l rest h4 r e2 T h _ (hw2 k T h.view hI)
            cases e with
            | goto l' =>
              obtain ⟨rfl,k',hlt,hI'⟩:=hq
              obtain ⟨e2,T2,h2',hy,st2,hq2⟩:=ihk k' hlt T1 h1' hI'
              exact ⟨e2,T2,h2',pS.jump hx h4 hy,⟨st1.1.trans st2.1 st1.2,Nat.le_trans st1.2 st2.2⟩,hq2⟩
            | _=>exact ⟨_,T1,h1',.out hx rfl,st1,hq⟩
        obtain ⟨e,T1,h1',hx,st1,hq⟩:=h0 a h1 T h _ hw1
        cases e with
        | goto l' =>
          obtain ⟨rfl,k',_,hI'⟩:=hq
          obtain ⟨e2,T2,h2',hy,st2,hq2⟩:=go k' T1 h1' hI'
          exact ⟨e2,T2,h2',.scope (pS.jump hx h4 hy),⟨st1.1.trans st2.1 st1.2,Nat.le_trans st1.2 st2.2⟩,hq2⟩
        | _=>exact ⟨_,T1,h1',.scope (.out hx rfl),st1,hq⟩
    · simp at hc
  · simp at hc
theorem LZ (hm:P.follows .mixedOrders=true) {fz:List Nat} : ∀ c:Code,p9 P n fz c∧∀ l rest,findLabel c l=some rest→p9 P n fz rest:=by
  intro c
  induction c with
  | skip=>exact ⟨CH,fun l rest h=>by simp[findLabel] at h⟩
  | region id ops draw=>exact ⟨fun sc hc T h Q hw=>JU hm hc hw,fun l rest h=>by simp[findLabel] at h⟩
  | seq x y ihx ihy =>
    refine ⟨EG ihx.1 ihy.1,fun l rest h=>?_⟩
    simp only[findLabel] at h
    split at h
    · rename_i r hr
      simp only[Option.some.injEq] at h; subst h
      exact EG (ihx.2 _ _ hr) ihy.1
    · exact ihy.2 _ _ h
  | cond c x y ihx ihy =>
    refine ⟨?_,fun l rest h=>by simp[findLabel] at h⟩
    intro sc hc T h Q hw
    simp only[cP] at hc
    split at hc
    · rename_i a b h1 h2
      simp at hc; subst hc
      simp only[wS] at hw
      split at hw
      · rename_i t ht
        have hT:rL (SX.of c) t T=T:=by
          unfold rL
          split
          · rename_i k hk
            rw[hk] at ht
            exact zr ht
          · rfl
        rw[SX.cr] at ht
        cases t with
        | true =>
          have:=hw.1 rfl
          rw[hT] at this
          obtain ⟨e,T',h',hx,st,hq⟩:=ihx.1 a h1 T h Q this
          exact ⟨e,T',h',.cond ht hx,st,hq⟩
        | false =>
          have:=hw.2 rfl
          rw[hT] at this
          obtain ⟨e,T',h',hx,st,hq⟩:=ihy.1 b h2 T h Q this
          exact ⟨e,T',h',.cond ht hx,st,hq⟩
      · exact hw.elim
    · simp at hc
  | block id c ih =>
    refine ⟨?_,fun l rest h=>by simp[findLabel] at h⟩
    intro sc hc T h Q hw
    simp only[cP,Option.map_eq_some_iff] at hc
    obtain ⟨a,h1,rfl⟩:=hc
    simp only[wS] at hw
    obtain ⟨e,T',h',hx,st,hq⟩:=ih.1 a h1 T h _ hw
    exact ⟨_,T',h',hx.block,st,hq⟩
  | loop c ih =>
    refine ⟨?_,fun l rest h=>by simp[findLabel] at h⟩
    intro sc hc T h Q hw
    simp only[cP,Option.map_eq_some_iff] at hc
    obtain ⟨a,h1,rfl⟩:=hc
    simp only[wS] at hw
    obtain ⟨I,⟨k,hk⟩,hstep⟩:=hw
    have go:∀ k T (h:aE),I k T h.view→∃ e T' h',oo P n c T h e T' h'∧(gU h h'∧h.length≤h'.length)∧Q e T' h'.view:=by
      intro k
      induction k using Nat.strongRecOn with
      | ind k ihk =>
        intro T h hI
        obtain ⟨e,T1,h1',hx,st1,hq⟩:=ih.1 a h1 T h _ (hstep k T h.view hI)
        rcases CU hq with ⟨rfl,k',hlt,hI'⟩ | ⟨hne,hq⟩
        · obtain ⟨e2,T2,h2',hy,st2,hq2⟩:=ihk k' hlt T1 h1' hI'
          exact ⟨e2,T2,h2',.step hx hy,⟨st1.1.trans st2.1 st1.2,Nat.le_trans st1.2 st2.2⟩,hq2⟩
        · exact ⟨e,T1,h1',.out hx hne,st1,hq⟩
    obtain ⟨e,T',h',hx,st,hq⟩:=go k T h hk
    exact ⟨e,T',h',.loop hx,st,hq⟩
  | exit id=>exact ⟨fun sc hc T h Q hw=>by simp[cP] at hc; subst hc; exact ⟨_,T,h,.exit,⟨.refl _,Nat.le_refl _⟩,hw⟩,fun l rest h=>by simp[findLabel] at h⟩
  | ret=>exact ⟨fun sc hc T h Q hw=>by simp[cP] at hc; subst hc; exact ⟨_,T,h,.ret,⟨.refl _,Nat.le_refl _⟩,hw⟩,fun l rest h=>by simp[findLabel] at h⟩
  | label l'=>exact ⟨fun sc hc T h Q hw=>by simp[cP] at hc; subst hc; exact ⟨_,T,h,.label,⟨.refl _,Nat.le_refl _⟩,hw⟩,fun l rest h=>by
      simp only[findLabel] at h
      split at h
      · simp only[Option.some.injEq] at h; subst h; exact CH
      · simp at h⟩
  | goto l'=>exact ⟨fun sc hc T h Q hw=>by simp[cP] at hc; subst hc; exact ⟨_,T,h,.goto,⟨.refl _,Nat.le_refl _⟩,hw⟩,fun l rest h=>by simp[findLabel] at h⟩
  | scope c ih=>exact ⟨IP ih.1 ih.2,fun l rest h=>by simp[findLabel] at h⟩
  | _=>exact ⟨fun sc hc=>by simp[cP] at hc,fun l rest h=>by simp[findLabel] at h⟩
theorem Py (hm:P.follows .mixedOrders=true) {fz:List Nat} (c:Code) (sc:SC) (hc:cP P n fz c=some sc) (T:Env) (h:aE) (Q:Exit→Env→View→Prop) (hw:wS P sc T h.view Q) :
    ∃ e T' h',cI P n c T h e T' h'∧(gU h h'∧h.length≤h'.length)∧Q e T' h'.view:=(LZ hm c).1 sc hc T h Q hw
theorem PH {T:Env} {h:aE} {r:ResultVar} {l:List SR} {rest:List ResultVar} (hc:eO P (r :: rest)=some l):∃ s l',l=s :: l'∧eO P rest=some l'∧∀ K:V→Prop,wR T h.view s K→∃ v,qw P T h r=some v∧K v:=by
  cases r with
  | tmp t =>
    simp only[eO,Option.map_eq_some_iff] at hc
    obtain ⟨l',h1,rfl⟩:=hc
    exact ⟨.tmp t,l',rfl,h1,fun K hk=>⟨_,rfl,hk⟩⟩
  | cell a t =>
    simp only[eO] at hc
    split at hc
    · rename_i k l' h1 h2
      simp at hc; subst hc
      refine ⟨.cell a k,l',rfl,h2,fun K hk=>?_⟩
      simp only[wR] at hk
      simp only[qw,kN,uc h1]
      split at hk
      · rename_i id i j ha
        split at hk
        · rename_i es hH
          obtain ⟨hlt,hk⟩:=hk
          obtain ⟨v,hv,hk⟩:=nM hk
          exact ⟨v,by rw[ha]; simp only[hH]; rw[if_pos hlt,hv]; rfl,hk⟩
        · exact hk.elim
      · rename_i e j ha
        obtain ⟨v,hv,hk⟩:=nM hk
        exact ⟨v,by rw[ha]; simp only; rw[hv]; rfl,hk⟩
      · exact hk.elim
    · simp at hc
theorem KR {T:Env} {h:aE} {K:List V→Prop} : ∀ (rs:List ResultVar) (l:List SR) (acc:List V),eO P rs=some l→AQ T h.view l acc K→∃ vs,kG P T h rs=some vs∧K (acc ++ vs)
  | [],l,acc,hc,hw=>by simp[eO] at hc; subst hc; exact ⟨[],rfl,by simpa [AQ] using hw⟩
  | r :: rest,l,acc,hc,hw=>by
    obtain ⟨s,l',rfl,h1,h2⟩:=PH (T:=T) (h:=h) hc
    simp only[AQ] at hw
    obtain ⟨v,hv,hk⟩:=h2 _ hw
    obtain ⟨vs,hvs,hk⟩:=KR rest l' (acc ++ [v]) h1 hk
    exact ⟨v :: vs,by simp[kG,hv,hvs],by simpa using hk⟩
def wF (P:Program) (F:SF) (vs:List V) (H:View) (K:V→View→Prop):Prop :=
  vs.length≤F.n∧wS P F.code (j9 vs) H fun e T' H'=>(e=.ret∨e=.normal)∧AQ T' H' F.res [] fun l=>K (ah l) H'
theorem aC.of (hm:P.follows .mixedOrders=true) {f:FuncId} {fz:List Nat} {F:SF} (hF:bf P f fz=some F) {vs:List V} {H:View} {K:V→View→Prop} (hw:wF P F vs H K):aC P f vs H K:=by
  unfold bf at hF
  split at hF
  · rename_i fn hfn
    split at hF
    · rename_i c hb
      split at hF
      · rename_i sc rs h1 h2 h3
        simp at hF; subst hF
        refine ⟨h3,?_⟩
        rintro h rfl
        obtain ⟨e,T',h',hx,st,he,hr⟩:=Py hm c sc h1 _ h _ hw.2
        obtain ⟨vs',hvs,hk⟩:=KR _ _ [] h2 hr
        refine ⟨ah vs',h',bF.HJ hfn hb hw.1 hx he ?_,st.1,by simpa using hk⟩
        unfold Jv
        rw[hvs]
        cases vs' with
        | nil=>rfl
        | cons a l=>cases l <;> rfl
      · simp at hF
    · simp at hF
  · simp at hF
theorem aC.mono {f:FuncId} {vs:List V} {H:View} {K K':V→View→Prop} (h:aC P f vs H K) (hk:∀ r H',K r H'→K' r H'):aC P f vs H K' :=
  ⟨h.1,fun h0 e=>let ⟨r,h',a,s,b⟩:=h.2 h0 e; ⟨r,h',a,s,hk _ _ b⟩⟩
theorem aD.Ei {f:FuncId} {vs:List V} {H:View} {t:V} {K:V→View→Prop} (h:aD P f vs t) (hok:dc P f=true) (hk:K t H):DJ P f vs H K :=
  ⟨hok,fun h0 e=>⟨t,h0,bF.fk h h0,fun _ _=>rfl,e ▸ hk⟩⟩
theorem aC.Ei {f:FuncId} {vs:List V} {H:View} {K:V→View→Prop} (h:aC P f vs H fun r H'=>(∀ id,H id≠.dead→H' id=H id)∧K r H'):DJ P f vs H K :=
  ⟨h.1,fun h0 e=>by
    obtain ⟨r,h',ha,st,hf,hk⟩:=h.2 h0 e
    refine ⟨r,h',ha,fun id hid=>?_,hk⟩
    by_cases hd:h0.view id=.dead
    · rw[hd]; exact st id hid hd
    · rw[← e] at hf; exact hf id hd⟩
end
inductive cD {α:Type} (x:α):Type where
  | mk
def eE (s:ByteArray):List Int:=s.data.toList.map fun b=>(b.toNat:Int)
theorem dY (s:ByteArray):s.size=(eE s).length:=by rw[eE,List.length_map,bsize]
def bz (P:Program) (c:SC) (T:Env) (H:View) (Q:Exit→Env→View→Prop) (_:cD (T,H,Q)):Prop:=wS P (.loop c) T H Q
def Ag (P:Program) (l:Nat) (c r:SC) (T:Env) (H:View) (Q:Exit→Env→View→Prop) (_:cD (T,H,Q)):Prop:=wS P (.scope l c r) T H Q
def aG (P:Program) (quiet:Bool) (f:FuncId) (vs:List V) (H:View) (K:V→View→Prop) (_:cD (H,K)):Prop :=
  if quiet then DJ P f vs H K else aC P f vs H K
def zZ {α:Type} (v:α) (F:α→Prop) (_:cD F):Prop:=F v
def dy (v:V) (F:V→Prop) (_:cD F):Prop:=F v
def FG (o:bM) (F:bM→Prop) (_:cD F):Prop:=F o
def oQ {α:Type} (o:Option α) (F:Option α→Prop) (_:cD F):Prop:=F o
def ax (b:Bool) (A B:Prop) (_:cD (A,B)):Prop:=(b=true→A)∧(b=false→B)
theorem PV {α:Type} (v:α) (F:α→Prop) (w:cD F):zZ v F w=F v:=propext Iff.rfl
section
variable (F:V→Prop) (w:cD F)
theorem GY (v:Value):dy (.val v) F w=F (.val v):=propext Iff.rfl
theorem Hc (k:Nat):dy (.emp k) F w=F (.emp k):=propext Iff.rfl
theorem G4:dy .dq F w=F .dq:=propext Iff.rfl
theorem GI (es:List (List V)):dy (.aZ es) F w=F (.aZ es):=propext Iff.rfl
theorem KW (a b c d:Nat):dy (.sl a b c d) F w=F (.sl a b c d):=propext Iff.rfl
theorem GO (a b c:Nat):dy (.ptr a b c) F w=F (.ptr a b c):=propext Iff.rfl
theorem FL (e:List V) (j:Nat):dy (.aR e j) F w=F (.aR e j):=propext Iff.rfl
theorem JQ (a:Nat):dy (.mp a) F w=F (.mp a):=propext Iff.rfl
theorem Kb (f:FuncId) (a b:List V):dy (.fn f a b) F w=F (.fn f a b):=propext Iff.rfl
theorem HB (cs:List V):dy (.agg cs) F w=F (.agg cs):=propext Iff.rfl
theorem Hl (cs:List V):dy (.bu cs) F w=F (.bu cs):=propext Iff.rfl
end
theorem Hv (F:bM→Prop) (w:cD F) (k:Nat) (es:List (List V)):FG (.arr k es) F w=F (.arr k es):=propext Iff.rfl
theorem GK (F:bM→Prop) (w:cD F) (es:List (V × V × Nat)) (k:Nat):FG (.map es k) F w=F (.map es k):=propext Iff.rfl
theorem Ey {α:Type} (F:Option α→Prop) (w:cD F) (x:α):oQ (some x) F w=F (some x):=propext Iff.rfl
theorem DT (A B:Prop) (w:cD (A,B)):ax true A B w=A:=by simp[ax]
theorem Cc (A B:Prop) (w:cD (A,B)):ax false A B w=B:=by simp[ax]
theorem HL (b:Bool) (A B:Prop) (w:cD (A,B)):ax (!b) A B w=ax b B A .mk:=by cases b <;> simp[ax]
theorem ax.split {b:Bool} {A B:Prop} {w:cD (A,B)} (h1:b=true→A) (h2:b=false→B):ax b A B w:=⟨h1,h2⟩
theorem ax.dec {p:Prop} [Decidable p] {A B:Prop} {w:cD (A,B)} (h1:p→A) (h2:¬ p→B):ax (decide p) A B w:=⟨fun h=>h1 (by simpa using h),fun h=>h2 (by simpa using h)⟩
theorem ax.eq {a b:Int} {A B:Prop} {w:cD (A,B)} (h1:a=b→A) (h2:¬ a=b→B):ax (a == b) A B w:=⟨fun h=>h1 (by simpa using h),fun h=>h2 (by simpa using h)⟩
theorem ax.ne {a b:Int} {A B:Prop} {w:cD (A,B)} (h1:¬ a=b→A) (h2:a=b→B):ax (a != b) A B w:=⟨fun h=>h1 (by simpa using h),fun h=>h2 (by simpa using h)⟩
section
variable (P:Program) (T:Env) (H:View)
theorem Nl (F:SF) (vs:List V) (K:V→View→Prop):wF P F vs H K=(vs.length≤F.n∧wS P F.code (j9 vs) H fun e T' H'=>(e=.ret∨e=.normal)∧AQ T' H' F.res [] fun l=>zZ (ah l) (fun v=>K v H') .mk):=propext Iff.rfl
theorem HF (Q:Exit→Env→View→Prop):wS P .skip T H Q=Q .normal T H:=propext Iff.rfl
theorem CM (q:Bool) (gs:List SG) (Q:Exit→Env→View→Prop):wS P (.region q gs) T H Q=vp P q gs T H (Q .normal):=propext Iff.rfl
theorem AM (aps:List (Nat × Nat)) (gs:List SG) (Q:Exit→Env→View→Prop):wS P (.x7 aps gs) T H Q=vp P false gs T H (fun T' H'=>xt aps T' (Q .normal T' H')):=propext Iff.rfl
theorem An (tol:Nat × Nat × Nat) (aps:List (Nat × Nat)) (gs:List SG) (Q:Exit→Env→View→Prop):wS P (.BZ tol aps gs) T H Q=vp P false gs T H (fun T' H'=>I1 P tol.1 (T' tol.2.1) (T' tol.2.2) H∧xt aps T' (Q .normal T' H')):=propext Iff.rfl
theorem GJ (K:Prop):xt [] T K=K:=propext Iff.rfl
theorem F6 (a b:Nat) (l:List (Nat × Nat)) (K:Prop):xt ((a,b) :: l) T K=(gJ (T a) (T b)∧xt l T K):=propext Iff.rfl
theorem HT (i j k i' j' k':Nat):gJ (.ptr i j k) (.ptr i' j' k')=(i≠i'):=propext Iff.rfl
theorem Gy (i j k a b c d:Nat):gJ (.ptr i j k) (.sl a b c d)=(i≠a):=propext Iff.rfl
theorem Fh (i j k e:Nat):gJ (.ptr i j k) (.emp e)=True:=id rfl
theorem E7 (i j k:Nat):gJ (.ptr i j k) .dq=True:=id rfl
theorem FK (i j k:Nat) (es:List (List V)):gJ (.ptr i j k) (.aZ es)=True:=id rfl
theorem G8 (a b c d e f g h:Nat):gJ (.sl a b c d) (.sl e f g h)=(a≠e):=propext Iff.rfl
theorem J7 (a b c d e:Nat):gJ (.sl a b c d) (.emp e)=True:=id rfl
theorem JS (a b c d:Nat):gJ (.sl a b c d) .dq=True:=id rfl
theorem KL (a b c d:Nat) (es:List (List V)):gJ (.sl a b c d) (.aZ es)=True:=id rfl
theorem GV (k:Nat) (v:V):gJ (.emp k) v=True:=by cases v <;> rfl
theorem Hd (v:V):gJ .dq v=True:=by cases v <;> rfl
theorem HE (es:List (List V)) (v:V):gJ (.aZ es) v=True:=by cases v <;> rfl
theorem FE (e:List V) (j:Nat) (v:V):gJ (.aR e j) v=True:=by cases v <;> rfl
theorem JT (x y:SC) (Q:Exit→Env→View→Prop):wS P (.seq x y) T H Q=wS P x T H fun e T' H'=>yC e (wS P y T' H' Q) (Q e T' H'):=propext Iff.rfl
theorem Hr (c:SX) (x y:SC) (Q:Exit→Env→View→Prop):wS P (.cond c x y) T H Q=dy (c.at T) (fun v=>match v with
    | .val (.bool b)=>ax b (wS P x (rL c true T) H Q) (wS P y (rL c false T) H Q) .mk
    | _=>False) .mk:=propext Iff.rfl
theorem DX (id:Nat) (c:SC) (Q:Exit→Env→View→Prop):wS P (.block id c) T H Q=wS P c T H fun e=>Q (n0 id e):=propext Iff.rfl
theorem He (id:Nat) (Q:Exit→Env→View→Prop):wS P (.exit id) T H Q=Q (.exit id) T H:=propext Iff.rfl
theorem Kh (Q:Exit→Env→View→Prop):wS P .ret T H Q=Q .ret T H:=propext Iff.rfl
theorem Fk (l:Nat) (c r:SC) (Q:Exit→Env→View→Prop):wS P (.scope l c r) T H Q=Ag P l c r T H Q .mk:=propext Iff.rfl
theorem Ee (l:Nat) (Q:Exit→Env→View→Prop):wS P (.label l) T H Q=Q .normal T H:=propext Iff.rfl
theorem Ho (l:Nat) (Q:Exit→Env→View→Prop):wS P (.goto l) T H Q=Q (.goto l) T H:=propext Iff.rfl
theorem A4 (l l':Nat) (a b:Prop):p0 l (.goto l') a b=(l'=l∧a):=propext Iff.rfl
theorem xu (l:Nat) (a b:Prop):p0 l .normal a b=b:=propext Iff.rfl
theorem zP (l i:Nat) (a b:Prop):p0 l (.exit i) a b=b:=propext Iff.rfl
theorem CD (l:Nat) (a b:Prop):p0 l .ret a b=b:=propext Iff.rfl
theorem Ev (l:Nat) (a b:Prop):yC (.goto l) a b=b:=propext Iff.rfl
theorem Al (i l:Nat):n0 i (.goto l)=.goto l:=id rfl
theorem HI (c:SC) (Q:Exit→Env→View→Prop):wS P (.loop c) T H Q=bz P c T H Q .mk:=propext Iff.rfl
theorem GR (q:Bool) (K:Env→View→Prop):vp P q [] T H K=K T H:=propext Iff.rfl
theorem Et (q:Bool) (g:SG) (r:List SG) (K:Env→View→Prop):vp P q (g :: r) T H K=wG P q g T H fun T' H'=>vp P q r T' H' K:=propext Iff.rfl
theorem HC (q:Bool) (ops:List (Option Nat × SB)) (K:Env→View→Prop):wG P q ⟨none,ops⟩ T H K=vV P q ops T H K:=propext Iff.rfl
theorem Hh (q:Bool) (d:Nat) (ops:List (Option Nat × SB)) (K:Env→View→Prop):wG P q ⟨some (d,true),ops⟩ T H K=dy (T d) (fun v=>match v with
    | .val (.bool b)=>ax b (vV P q ops (T.put (some d) (.val (.bool true))) H K) (K (gF ops (T.put (some d) (.val (.bool false)))) H) .mk
    | .bu []=>K (gF ops T) H
    | _=>False) .mk:=propext Iff.rfl
theorem EV (q:Bool) (d:Nat) (ops:List (Option Nat × SB)) (K:Env→View→Prop):wG P q ⟨some (d,false),ops⟩ T H K=dy (T d) (fun v=>match v with
    | .val (.bool b)=>ax b (K (gF ops (T.put (some d) (.val (.bool true)))) H) (vV P q ops (T.put (some d) (.val (.bool false))) H K) .mk
    | .bu []=>K (gF ops T) H
    | _=>False) .mk:=by
  simp only[wG,dy]
  generalize T d=v
  cases v with
  | val x=>cases x <;> simp[ax,and_comm]
  | bu l=>cases l <;> simp
  | _=>simp
theorem yN:gF [] T=T:=id rfl
theorem wk (d:Option Nat) (b:SB) (r:List (Option Nat × SB)):gF ((d,b) :: r) T=gF r (T.put d (.bu [])):=id rfl
theorem G1 (q:Bool) (K:Env→View→Prop):vV P q [] T H K=K T H:=propext Iff.rfl
theorem ET (q:Bool) (d:Option Nat) (b:SB) (r:List (Option Nat × SB)) (K:Env→View→Prop):vV P q ((d,b) :: r) T H K=wB P q b T H fun v H'=>zZ v (fun v'=>vV P q r (T.put d v') H' K) .mk:=propext Iff.rfl
theorem NC (q:Bool) (s:SI) (K:V→View→Prop):wB P q (.op s) T H K=wI P s T H K:=propext Iff.rfl
theorem G7 (q:Bool) (f:SX) (args:List SX) (K:V→View→Prop):wB P q (.call f args) T H K=dy (f.at T) (fun v=>match v with
    | .fn g first cap=>aG P q g (first ++ args.map (SX.at T) ++ cap) H K .mk
    | _=>False) .mk:=propext Iff.rfl
theorem KN (x:SX) (K:V→View→Prop):wI P (.bm x) T H K=K (x.at T) H:=propext Iff.rfl
theorem GZ (c a b:SX) (K:V→View→Prop):wI P (.pick c a b) T H K=dy (c.at T) (fun v=>match v with
    | .val (.bool t)=>ax t (K (a.at T) H) (K (b.at T) H) .mk
    | _=>False) .mk:=by
  simp only[wI,dy]
  generalize c.at T=v
  cases v with
  | val x =>
    cases x with
    | bool t=>cases t <;> simp[ax]
    | _=>simp
  | _=>simp
theorem K5 (x:SX) (K:V→View→Prop):wI P (.box x) T H K=dy (x.at T) (fun v=>v.cells.all aV=true∧zZ v.cells (fun cs=>∀ n,H n=.dead→K (.ptr n 0 0) (H.set n (.arr cs.length [cs]))) .mk) .mk:=propext Iff.rfl
theorem Li (x:SX) (K:V→View→Prop):wI P (.hZ x) T H K=dy (x.at T) (fun v=>v.cells.all aV=true∧zZ v.cells (fun cs=>K (.aR cs 0) H) .mk) .mk:=propext Iff.rfl
theorem EI (z:List V) (K:V→View→Prop):wI P (.alloc z) T H K=(z.all aV=true∧∀ n,H n=.dead→K (.ptr n 0 0) (H.set n (.arr z.length [z]))):=propext Iff.rfl
theorem HN (sz:Option Nat) (a:SX) (K:V→View→Prop):wI P (.load sz a) T H K=dy (a.at T) (fun v=>match v with
    | .ptr id i j=>FG (H id) (fun o=>match o with
      | .arr _ es=>i < es.length∧zZ (es.getD i []) (fun e=>iH sz e j fun v=>K v H) .mk
      | _=>False) .mk
    | .aR e j=>iH sz e j fun v=>K v H
    | _=>False) .mk:=propext Iff.rfl
theorem D9 (sz:Option Nat) (a:SX) (K:V→View→Prop):wI P (.x5 sz a) T H K=dy (a.at T) (fun v=>match v with
    | .aR e j=>iH sz e j fun v=>K v H
    | _=>False) .mk:=propext Iff.rfl
theorem DW (sz:Nat) (a x:SX) (K:V→View→Prop):wI P (.store sz a x) T H K=dy (a.at T) (fun v=>match v with
    | .ptr id i j=>FG (H id) (fun o=>match o with
      | .arr esz es=>zZ (x.at T).cells (fun cs=>(i < es.length∧cs.length=sz∧j+cs.length≤esz∧cs.all aV=true) ∧
          zZ (es.set i (ab (es.getD i []) j cs)) (fun es'=>K .any (H.set id (.arr esz es'))) .mk) .mk
      | _=>False) .mk
    | _=>False) .mk:=propext Iff.rfl
theorem Hn (x:SX) (K:V→View→Prop):wI P (.zd x) T H K=dy (x.at T) (fun v=>match v with
    | .ptr id i j=>K (.ptr id i j) H
    | .aR e j=>K (.aR e j) H
    | .fn f a b=>K (.fn f a b) H
    | _=>False) .mk:=propext Iff.rfl
theorem HU (off:Nat) (x:SX) (K:V→View→Prop):wI P (.addr off x) T H K=dy (x.at T) (fun v=>match v with
    | .ptr id i j=>K (.ptr id i (j+off)) H
    | .aR e j=>K (.aR e (j+off)) H
    | _=>False) .mk:=propext Iff.rfl
theorem EN (off:Nat) (sz:Option Nat) (x:SX) (K:V→View→Prop):wI P (.field off sz x) T H K=dy (x.at T) (fun v=>match v with
    | .agg cs=>iH sz cs off fun v=>K v H
    | _=>False) .mk:=propext Iff.rfl
theorem Kr (sz:Nat) (x i:SX) (K:V→View→Prop):wI P (.idx sz x i) T H K=oQ (asNat (i.at T)) (fun o=>match o with
    | none=>False
    | some q=>dy (x.at T) (fun v=>match v with
      | .sl id off len esz=>(q < len∧esz=sz)∧K (.ptr id (off+q) 0) H
      | .aZ es=>oQ es[q]? (fun o=>match o with
        | some e=>e.length=sz∧K (.aR e 0) H
        | none=>False) .mk
      | _=>False) .mk) .mk:=by
  simp only[wI,oQ,dy]
  cases asNat (i.at T) with
  | none=>rfl
  | some q =>
    simp only
    cases x.at T with
    | aZ es =>
      simp only
      cases h:es[q]? with
      | none=>simp
      | some e=>simp
    | _=>rfl
theorem HR (f:FuncId) (first cap:List SX) (K:V→View→Prop):wI P (.sk f first cap) T H K=K (.fn f (first.map (SX.at T)) (cap.map (SX.at T))) H:=propext Iff.rfl
theorem Eo (K:V→View→Prop):wI P .lO T H K=(∀ n,H n=.dead→K (.mp n) (H.set n (.map [] 0))):=propext Iff.rfl
theorem KB (i:Nat) (x:SX) (K:V→View→Prop):wI P (.ext i x) T H K=dy (x.at T) (fun v=>match v with
    | .bu vs=>i < vs.length∧K (vs.getD i .any) H
    | _=>False) .mk:=propext Iff.rfl
theorem Lo (x:SX) (K:V→View→Prop):wI P (.len x) T H K=oQ (cq (x.at T)) (fun o=>match o with
    | some n=>K (aj n) H
    | none=>False) .mk:=propext Iff.rfl
theorem Hu (x:SX) (K:V→View→Prop):wI P (.gW x) T H K=dy (x.at T) (fun v=>match v with
    | .val (.string s)=>K (aj s.size) H
    | _=>False) .mk:=propext Iff.rfl
theorem Fc (op:BinOp) (x y:SX) (K:V→View→Prop):wI P (.arith op x y) T H K=dy (x.at T) (fun v=>dy (y.at T) (fun v'=>match v,v' with
    | .val (.int k a),.val (.int k' b)=>k=k'∧oQ (ag op k a b) (fun o=>match o with | some v=>K (.val v) H | none=>False) .mk
    | _,_=>False) .mk) .mk:=propext Iff.rfl
theorem Nq (l:Bool) (x y:SX) (K:V→View→Prop):wI P (.sh l x y) T H K=dy (x.at T) (fun v=>dy (y.at T) (fun v'=>match v,v' with
    | .val (.int k a),.val (.int _ b)=>0≤b∧K (.val (.int k (HZ l k a b))) H
    | _,_=>False) .mk) .mk:=propext Iff.rfl
theorem LL (op:BinOp) (x y:SX) (K:V→View→Prop):wI P (.iR op x y) T H K=dy (x.at T) (fun v=>dy (y.at T) (fun v'=>match v,v' with
    | .val (.string a),.val (.string b)=>(match op with
      | .eql=>K (.val (.bool (gP a b))) H
      | .neq=>K (.val (.bool (!gP a b))) H
      | _=>False)
    | _,_=>False) .mk) .mk:=propext Iff.rfl
theorem GW (x i:SX) (K:V→View→Prop):wI P (.dp x i) T H K=dy (x.at T) (fun v=>oQ (asNat (i.at T)) (fun o=>match v,o with
    | .val (.string s),some q=>oQ (eE s)[q]? (fun o=>match o with
      | some c=>K (.val (.int .u8 c)) H
      | none=>False) .mk
    | _,_=>False) .mk) .mk:=by
  simp only[wI,oQ,dy]
  generalize x.at T=v
  generalize asNat (i.at T)=o
  cases v with
  | val u =>
    cases u with
    | string s =>
      cases o with
      | none=>rfl
      | some q =>
        simp only[eE,List.getElem?_map]
        cases h:s.data.toList[q]? with
        | none=>simp
        | some e=>simp
    | _=>rfl
  | _=>rfl
theorem K2 (x:SX) (K:V→View→Prop):wI P (.not x) T H K=dy (x.at T) (fun v=>match v with
    | .val (.bool t)=>K (.val (.bool (!t))) H
    | _=>False) .mk:=propext Iff.rfl
theorem KI (eq:Bool) (k:Nat) (x y:SX) (K:V→View→Prop):wI P (.nil eq k x y) T H K=oQ (ai (isNil k (x.at T)) (isNil k (y.at T))) (fun o=>match o with
    | some b=>K (.val (.bool (if eq=true then b else !b))) H
    | none=>False) .mk:=propext Iff.rfl
theorem Hg (x y:SX) (K:V→View→Prop):wI P (.beq true x y) T H K=dy (x.at T) (fun v=>dy (y.at T) (fun v'=>match v,v' with
    | .val (.bool a),.val (.bool b)=>K (.val (.bool (a == b))) H
    | _,_=>False) .mk) .mk:=propext Iff.rfl
theorem GL (x y:SX) (K:V→View→Prop):wI P (.beq false x y) T H K=dy (x.at T) (fun v=>dy (y.at T) (fun v'=>match v,v' with
    | .val (.bool a),.val (.bool b)=>K (.val (.bool (a != b))) H
    | _,_=>False) .mk) .mk:=propext Iff.rfl
theorem J9 (x y:SX) (K:V→View→Prop):wI P (.mm true x y) T H K=dy (x.at T) (fun v=>dy (y.at T) (fun v'=>match v,v' with
    | .val (.int k a),.val (.int _ b)=>K (.val (.int k (if b > a then b else a))) H
    | _,_=>False) .mk) .mk:=propext Iff.rfl
theorem KX (x y:SX) (K:V→View→Prop):wI P (.mm false x y) T H K=dy (x.at T) (fun v=>dy (y.at T) (fun v'=>match v,v' with
    | .val (.int k a),.val (.int _ b)=>K (.val (.int k (if b < a then b else a))) H
    | _,_=>False) .mk) .mk:=propext Iff.rfl
theorem G2 (k:IntKind) (x:SX) (K:V→View→Prop):wI P (.conv k x) T H K=dy (x.at T) (fun v=>match v with
    | .val (.int _ a)=>K (.val (.int k (k.wrap a))) H
    | _=>False) .mk:=propext Iff.rfl
theorem D7 (n k:Nat) (o:bM):View.set H n o k=if k=n then o else H k:=id rfl
theorem DQ (z:List V) (parts:List (Nat × Nat × SX)) (K:V→View→Prop):wI P (.build z parts) T H K=oQ (ae z (parts.map fun p=>(p.1,p.2.1,p.2.2.at T))) (fun o=>match o with
    | some cs=>K (.agg cs) H
    | none=>False) .mk:=propext Iff.rfl
theorem De (len sz:Nat) (z:List V) (parts:List (Nat × SX)) (K:V→View→Prop):wI P (.bC len sz z parts) T H K=oQ (af sz (List.replicate len z) (parts.map fun p=>(p.1,p.2.at T))) (fun o=>match o with
    | some es=>∀ n,H n=.dead→K (.sl n 0 len sz) (H.set n (.arr sz es))
    | none=>False) .mk:=propext Iff.rfl
theorem FP (sz:Nat) (x:SX) (lo hi:Option SX) (K:V→View→Prop):wI P (.slice sz x lo hi) T H K=oQ (fI sz (x.at T) (lo.map (SX.at T)) (hi.map (SX.at T))) (fun o=>match o with
    | some (v,.none,_)=>K v H
    | _=>False) .mk:=propext Iff.rfl
theorem GM (sz bytes:Nat) (z:List V) (l c:SX) (K:V→View→Prop):wI P (.make sz bytes z l c) T H K=oQ (asNat (l.at T)) (fun a=>oQ (asNat (c.at T)) (fun b=>match a,b with
    | some l,some c=>(l≤c∧c < aO∧bytes * c < aO)∧(c=0→K (.emp 2) H)∧(c≠0→∀ n,H n=.dead→K (.sl n 0 l sz) (H.set n (.arr sz (List.replicate l z))))
    | _,_=>False) .mk) .mk:=propext Iff.rfl
def mq (sz bytes:Nat) (x:V) (xs:List (List V)) (H:View) (K:V→View→Prop) (_:cD (H,K)):Prop:=if xs.isEmpty=true then (match x with
        | .emp k=>K (.emp k) H
        | .dq=>K .dq H
        | .aZ es=>K (.aZ es) H
        | .sl a b c d=>K (.sl a b c d) H
        | _=>False)
      else (xs.all fun e=>e.length == sz && e.all aV)=true∧(match x with
        | .emp _=>(xs.length * bytes < aO∧xs.length < aO)∧∀ n,H n=.dead→K (.sl n 0 xs.length sz) (H.set n (.arr sz xs))
        | .sl id off len esz=>match H id with
          | .arr _ es=>(off+len≤es.length∧esz=sz∧(len+xs.length) * bytes < aO∧len+xs.length < aO) ∧
              ∀ n,H n=.dead→K (.sl n 0 (len+xs.length) esz) ((H.set id .dead).set n (.arr esz ((es.drop off).take len ++ xs)))
          | _=>False
        | _=>False)
theorem LO (sz bytes:Nat) (x y:SX) (K:V→View→Prop):wI P (.app sz bytes x y) T H K=oQ (bI H (y.at T)) (fun o=>match o with
    | some (xs,_)=>mq sz bytes (x.at T) xs H K .mk
    | none=>False) .mk:=propext Iff.rfl
theorem wM (sz bytes k:Nat) (xs:List (List V)) (K:V→View→Prop) (w:cD (H,K)) (h0:xs.isEmpty=false):mq sz bytes (.emp k) xs H K w=((xs.all fun e=>e.length == sz && e.all aV)=true∧(xs.length * bytes < aO∧xs.length < aO)∧∀ n,H n=.dead→K (.sl n 0 xs.length sz) (H.set n (.arr sz xs))):=by
  unfold mq; rw[if_neg (by rw[h0]; simp)]
theorem vf (sz bytes id off len esz:Nat) (xs:List (List V)) (K:V→View→Prop) (w:cD (H,K)) (h0:xs.isEmpty=false):mq sz bytes (.sl id off len esz) xs H K w=((xs.all fun e=>e.length == sz && e.all aV)=true∧FG (H id) (fun o=>match o with
          | .arr _ es=>(off+len≤es.length∧esz=sz∧(len+xs.length) * bytes < aO∧len+xs.length < aO) ∧
              ∀ n,H n=.dead→K (.sl n 0 (len+xs.length) esz) ((H.set id .dead).set n (.arr esz ((es.drop off).take len ++ xs)))
          | _=>False) .mk):=by
  unfold mq FG; rw[if_neg (by rw[h0]; simp)]
theorem j0 (id off len esz z:Nat) (es:List (List V)) (hH:H id=.arr z es) (hl:off+(len+1)≤es.length):bI H (.sl id off (len+1) esz)=some ((es.drop off).take (len+1),[id]):=by
  simp only[bI,hH]; rw[if_pos hl]
theorem sn (es:List (List V)):bI H (.aZ es)=some (es,[]):=id rfl
theorem nU (k:Nat):bI H (.emp k)=some ([],[]):=id rfl
theorem GB (x:SX) (K:V→View→Prop):wI P (.Bn x) T H K=dy (x.at T) (fun v=>match v with
    | .aZ es=>oQ (jE es) (fun o=>match o with
      | some l=>K (.val (.string ⟨l.toArray⟩)) H
      | none=>False) .mk
    | _=>False) .mk:=propext Iff.rfl
theorem GQ (x:SX) (K:V→View→Prop):wI P (.fq x) T H K=dy (x.at T) (fun v=>match v with
    | .val (.string s)=>K (.aZ (fJ s)) H
    | _=>False) .mk:=propext Iff.rfl
def nT (P:Program) (op:Op) (ty:TypeId) (T:Env) (H:View) (K:V→View→Prop) (_:cD (T,H,K)):Prop:=wI P (.old op ty) T H K
theorem LF (op:Op) (ty:TypeId) (K:V→View→Prop):wI P (.old op ty) T H K=nT P op ty T H K .mk:=propext Iff.rfl
theorem LC (t:Nat):ev T (.tmp t)=T t:=id rfl
theorem D8 (v:Value):ev T (.const v)=eC v:=id rfl
theorem Kc (t:Nat):(SX.tmp t).at T=T t:=id rfl
theorem Kg (v:V):(SX.val v).at T=v:=id rfl
theorem GG (d t:Nat) (v:V):(T.put (some d) v) t=if t=d then v else T t:=id rfl
theorem Fl (v:V):T.put none v=T:=id rfl
theorem EW (vs:List V) (t:Nat):j9 vs t=vs.getD t .any:=id rfl
theorem Ah (e:List V) (j:Nat) (K:V→Prop):iH none e j K=(j < e.length∧K (e.getD j .any)):=propext Iff.rfl
theorem zH (n:Nat) (e:List V) (j:Nat) (K:V→Prop):iH (some n) e j K=(j+n≤e.length∧K (.agg ((e.drop j).take n))):=propext Iff.rfl
theorem zF (a b:Prop):yC .normal a b=a:=propext Iff.rfl
theorem EH (i:Nat) (a b:Prop):yC (.exit i) a b=b:=propext Iff.rfl
theorem Hx (a b:Prop):yC .ret a b=b:=propext Iff.rfl
theorem vY (i:Nat):n0 i .normal=.normal:=id rfl
theorem C2 (i:Nat):n0 i .ret=.ret:=id rfl
theorem A3 (i j:Nat):n0 i (.exit j)=if j=i then .normal else .exit j:=by simp only[n0]
theorem HG (acc:List V) (K:List V→Prop):AQ T H [] acc K=K acc:=propext Iff.rfl
theorem FJ (r:SR) (l:List SR) (acc:List V) (K:List V→Prop):AQ T H (r :: l) acc K=wR T H r fun v=>AQ T H l (acc ++ [v]) K:=propext Iff.rfl
theorem Lm (t:Nat) (K:V→Prop):wR T H (.tmp t) K=K (T t):=propext Iff.rfl
theorem G3 (t:Nat) (sz:Option Nat) (K:V→Prop):wR T H (.cell t sz) K=dy (T t) (fun v=>match v with
    | .ptr id i j=>FG (H id) (fun o=>match o with
      | .arr _ es=>i < es.length∧zZ (es.getD i []) (fun e=>iH sz e j K) .mk
      | _=>False) .mk
    | .aR e j=>iH sz e j K
    | _=>False) .mk:=propext Iff.rfl
theorem Cy (t:Nat) (b:Bool):rL (.tmp t) b T=T.put (some t) (.val (.bool b)):=id rfl
theorem Co (v:V) (b:Bool):rL (.val v) b T=T:=id rfl
theorem Kt:(Exit.ret=Exit.ret∨Exit.ret=Exit.normal)=True:=by simp
theorem C5:(Exit.normal=Exit.ret∨Exit.normal=Exit.normal)=True:=by simp
end
section
variable {P:Program} {T:Env} {H:View}
theorem bz.intro {c:SC} {Q:Exit→Env→View→Prop} {v:cD (T,H,Q)} (I:Nat→Env→View→Prop) (k:Nat) (h0:I k T H)
    (hs:∀ k T H,I k T H→wS P c T H fun e T' H'=>yC e (∃ k',k' < k∧I k' T' H') (Q e T' H')):bz P c T H Q v:=by
  simp only[bz,wS]
  exact ⟨I,⟨k,h0⟩,hs⟩
theorem Ag.intro {l:Nat} {c r:SC} {Q:Exit→Env→View→Prop} {v:cD (T,H,Q)} (I:Nat→Env→View→Prop) (K:Nat)
    (hs:∀ k T H,I k T H→wS P r T H fun e T' H'=>p0 l e (∃ k',k' < k∧I k' T' H') (Q e T' H'))
    (h0:(∀ k T H,I k T H→wS P r T H fun e T' H'=>p0 l e (∃ k',k' < k∧I k' T' H') (Q e T' H'))→wS P c T H fun e T' H'=>p0 l e (∃ k,k < K∧I k T' H') (Q e T' H')):Ag P l c r T H Q v:=by
  simp only[Ag,wS]
  exact ⟨I,K,h0 hs,hs⟩
theorem aG.pure {q:Bool} {f:FuncId} {vs:List V} {K:V→View→Prop} {v:cD (H,K)} {t:V} (hc:aD P f vs t) (hok:dc P f=true) (hk:K t H):aG P q f vs H K v:=by
  unfold aG
  cases q with
  | true=>exact hc.Ei hok hk
  | false =>
    refine ⟨hok,?_⟩
    rintro h rfl
    exact ⟨t,h,bF.fk hc h,.refl _,hk⟩
theorem aG.jR {f:FuncId} {vs:List V} {K:V→View→Prop} {v:cD (H,K)} (hc:aC P f vs H K):aG P false f vs H K v:=hc
theorem C4:aE.view []=fun _=>bM.dead:=by funext id; simp[aE.view]
theorem aD.of {f:FuncId} {vs:List V} {t:V} (ht:∀ v∈vs,Tree v) (h:aC P f vs (fun _=>.dead) fun r H'=>∀ h':aE,h'.view=H'→Fr h' r t):aD P f vs t:=by
  obtain ⟨r,h',ha,_,hf⟩:=h.2 [] C4
  exact aD.ui ht ha (hf h' rfl)
theorem wrap64 {x:Int} (h1 : -9223372036854775808≤x) (h2:x≤9223372036854775807):IntKind.wrap .i64 x=x:=by
  unfold IntKind.wrap
  have e1:(2:Int) ^ IntKind.i64.bits=18446744073709551616:=by rfl
  have e2:(2:Int) ^ (IntKind.i64.bits - 1)=9223372036854775808:=by rfl
  have e3:IntKind.i64.signed=true:=by rfl
  simp only[e1,e2,e3,Bool.true_and,decide_eq_true_eq]
  split <;> omega
theorem CC {k:IntKind} {i:Int} (h:0≤i):asNat (.val (.int k i))=some i.toNat:=by simp[asNat,h]
end
theorem Cf (v:Value):V.cells (.val v)=[.val v]:=id rfl
theorem xY (v:Value):aV (.val v)=true:=id rfl
theorem CW (k:Nat):V.cells (.emp k)=[.emp k]:=id rfl
theorem xM (k:Nat):aV (.emp k)=true:=id rfl
theorem CT  : V.cells .dq=[.dq]:=id rfl
theorem GC  : aV .dq=true:=id rfl
theorem Cz (es:List (List V)):V.cells (.aZ es)=[.aZ es]:=id rfl
theorem HS (es:List (List V)):aV (.aZ es)=true:=id rfl
theorem Ek (a b c d:Nat):V.cells (.sl a b c d)=[.sl a b c d]:=id rfl
theorem KF (a b c d:Nat):aV (.sl a b c d)=true:=id rfl
theorem Cr (a b c:Nat):V.cells (.ptr a b c)=[.ptr a b c]:=id rfl
theorem HP (a b c:Nat):aV (.ptr a b c)=true:=id rfl
theorem A7 (e:List V) (j:Nat):V.cells (.aR e j)=[.aR e j]:=id rfl
theorem FB (e:List V) (j:Nat):aV (.aR e j)=true:=id rfl
theorem FM (a:Nat):V.cells (.mp a)=[.mp a]:=id rfl
theorem K7 (a:Nat):aV (.mp a)=true:=id rfl
theorem DV (f:FuncId) (a b:List V):V.cells (.fn f a b)=[.fn f a b]:=id rfl
theorem JK (f:FuncId) (a b:List V):aV (.fn f a b)=true:=id rfl
theorem Cs (cs:List V):V.cells (.agg cs)=cs:=id rfl
theorem Gz (k:Nat):cq (.emp k)=some 0:=id rfl
theorem G6:cq .dq=some 0:=id rfl
theorem HM (es:List (List V)):cq (.aZ es)=some es.length:=id rfl
theorem K6 (a b c d:Nat):cq (.sl a b c d)=some c:=id rfl
abbrev PY {p:Prop} (_:p):Prop:=p
abbrev Wr:Prop:=PY (And.intro @Nl <| And.intro @HF <| And.intro @CM <| And.intro @AM <| And.intro @An <| And.intro @GJ <| And.intro @F6 <| And.intro @JT <|
    And.intro @Hr <| And.intro @DX <| And.intro @He <| And.intro @Kh <| And.intro @Fk <| And.intro @Ee <| And.intro @Ho <| And.intro @A4 <| And.intro @xu <| And.intro @zP <| And.intro @CD <| And.intro @Ev <| And.intro @Al <|
    And.intro @HI <| And.intro @GR <| And.intro @Et <| And.intro @HC <|
    And.intro @Hh <| And.intro @EV <| And.intro @yN <| And.intro @wk <|
    And.intro @G1 <| And.intro @ET <| And.intro @NC <| And.intro @G7 <|
    And.intro @KN <| And.intro @GZ <| And.intro @K5 <| And.intro @Li <|
    And.intro @EI <| And.intro @HN <| And.intro @D9 <| And.intro @DW <|
    And.intro @Hn <| And.intro @HU <| And.intro @EN <| And.intro @Kr <|
    And.intro @HR <| And.intro @Eo <| And.intro @KB <| And.intro @Lo <|
    And.intro @Hu <| And.intro @Fc <| And.intro @Nq <| And.intro @LL <| And.intro @GW <|
    And.intro @K2 <| And.intro @KI <| And.intro @Hg <| And.intro @GL <|
    And.intro @J9 <| And.intro @KX <| And.intro @G2 <| And.intro @GB <|
    And.intro @GQ <| And.intro @DQ <| And.intro @De <| And.intro @FP <|
    And.intro @GM <| And.intro @LO <| And.intro @LF <| And.intro @LC <| And.intro @D8 <| And.intro @Kc <| And.intro @Kg <|
    And.intro @GG <| And.intro @Fl <| And.intro @EW <| And.intro @Ah <|
    And.intro @zH <| And.intro @zF <| And.intro @EH <| And.intro @Hx <|
    And.intro @vY <| And.intro @C2 <| And.intro @A3 <| And.intro @HG <|
    And.intro @FJ <| And.intro @Lm <| And.intro @G3 <| And.intro @Cy @Co)
theorem wr:Wr:=(And.intro @Nl <| And.intro @HF <| And.intro @CM <| And.intro @AM <| And.intro @An <| And.intro @GJ <| And.intro @F6 <| And.intro @JT <|
    And.intro @Hr <| And.intro @DX <| And.intro @He <| And.intro @Kh <| And.intro @Fk <| And.intro @Ee <| And.intro @Ho <| And.intro @A4 <| And.intro @xu <| And.intro @zP <| And.intro @CD <| And.intro @Ev <| And.intro @Al <|
    And.intro @HI <| And.intro @GR <| And.intro @Et <| And.intro @HC <|
    And.intro @Hh <| And.intro @EV <| And.intro @yN <| And.intro @wk <|
    And.intro @G1 <| And.intro @ET <| And.intro @NC <| And.intro @G7 <|
    And.intro @KN <| And.intro @GZ <| And.intro @K5 <| And.intro @Li <|
    And.intro @EI <| And.intro @HN <| And.intro @D9 <| And.intro @DW <|
    And.intro @Hn <| And.intro @HU <| And.intro @EN <| And.intro @Kr <|
    And.intro @HR <| And.intro @Eo <| And.intro @KB <| And.intro @Lo <|
    And.intro @Hu <| And.intro @Fc <| And.intro @Nq <| And.intro @LL <| And.intro @GW <|
    And.intro @K2 <| And.intro @KI <| And.intro @Hg <| And.intro @GL <|
    And.intro @J9 <| And.intro @KX <| And.intro @G2 <| And.intro @GB <|
    And.intro @GQ <| And.intro @DQ <| And.intro @De <| And.intro @FP <|
    And.intro @GM <| And.intro @LO <| And.intro @LF <| And.intro @LC <| And.intro @D8 <| And.intro @Kc <| And.intro @Kg <|
    And.intro @GG <| And.intro @Fl <| And.intro @EW <| And.intro @Ah <|
    And.intro @zH <| And.intro @zF <| And.intro @EH <| And.intro @Hx <|
    And.intro @vY <| And.intro @C2 <| And.intro @A3 <| And.intro @HG <|
    And.intro @FJ <| And.intro @Lm <| And.intro @G3 <| And.intro @Cy @Co)
abbrev Wq:Prop:=PY (And.intro @eq_self.{1} <| And.intro @ne_eq.{1} <| And.intro @implies_true.{1} <| And.intro @implies_true.{0} <| And.intro @decide_true <| And.intro @decide_false <| And.intro @HT <| And.intro @Gy <| And.intro @Fh <| And.intro @E7 <| And.intro @FK <| And.intro @FE <| And.intro @G8 <| And.intro @J7 <| And.intro @JS <| And.intro @KL <| And.intro @GV <| And.intro @Hd <| And.intro @HE <| And.intro @Cf <| And.intro @xY <| And.intro @CW <| And.intro @xM <| And.intro @CT <| And.intro @GC <| And.intro @Cz <| And.intro @HS <| And.intro @Ek <| And.intro @KF <| And.intro @Cr <| And.intro @HP <| And.intro @A7 <| And.intro @FB <| And.intro @FM <| And.intro @K7 <| And.intro @DV <| And.intro @JK <| And.intro @Cs <| And.intro @Gz <| And.intro @G6 <| And.intro @HM <| And.intro @K6 <| And.intro @true_or <| And.intro @or_true <| And.intro @or_false <| And.intro @false_or <|
    And.intro @PV <| And.intro @GY <| And.intro @Hc <| And.intro @G4 <|
    And.intro @GI <| And.intro @KW <| And.intro @GO <| And.intro @FL <|
    And.intro @JQ <| And.intro @Kb <| And.intro @HB <| And.intro @Hl <|
    And.intro @Hv <| And.intro @GK <| And.intro @Ey <| And.intro @DT <|
    And.intro @Cc <| And.intro @HL <| And.intro @List.getD_cons_zero.{0} <| And.intro @List.getD_cons_succ.{0} <|
    And.intro @List.length_cons.{0} <| And.intro @List.length_nil.{0} <| And.intro @List.length_map.{0,0} <| And.intro @wrap64 <|
    And.intro @true_and <| And.intro @and_true <| And.intro @and_self <| And.intro @decide_eq_true_eq <|
    And.intro @decide_eq_false_iff_not <| And.intro @List.all_cons.{0} <| And.intro @List.all_nil.{0} <| And.intro @Bool.and_self <|
    And.intro @List.nil_append.{0} <| And.intro @List.cons_append.{0} <| And.intro @Nat.zero_add <| And.intro @CC <|
    And.intro @Int.toNat_natCast <| And.intro @Kt <| And.intro @C5 <| And.intro @bne_iff_ne.{0} <|
    And.intro @beq_iff_eq.{0} <| And.intro @Bool.not_eq_true <| And.intro @Bool.not_true <| And.intro @Bool.not_false <|
    And.intro @List.append_nil.{0} <| And.intro @List.map_cons.{0,0} <| And.intro @List.map_nil.{0,0} <| And.intro @Bool.true_eq_false <|
    And.intro @Bool.false_eq_true <| And.intro @false_implies <| And.intro @true_implies <| And.intro @Bool.not_not <|
    And.intro @List.drop_zero.{0} <| And.intro @D7 <| And.intro @List.set_cons_zero.{0} <| And.intro @List.set_cons_succ.{0} <|
    And.intro @List.drop_nil.{0} <| And.intro @Nat.add_zero <| And.intro @List.replicate_zero.{0} <| And.intro @List.replicate_succ.{0} <|
    And.intro @sn <| And.intro @nU <| And.intro @wM <| And.intro @vf <|
    And.intro @List.isEmpty_cons.{0} <| And.intro @Option.map_none.{0,0} <| And.intro @Option.map_some.{0,0} <| And.intro @Nat.succ_ne_zero <|
    And.intro @List.take_succ_cons.{0} <| And.intro @List.take_zero.{0} <| And.intro @List.drop_succ_cons.{0} <| And.intro @bne_eq_false_iff_eq.{0} <|
    And.intro @beq_eq_false_iff_ne.{0} <| And.intro @not_true_eq_false <| And.intro @not_false_eq_true @Decidable.not_not)
theorem wq:Wq:=(And.intro @eq_self.{1} <| And.intro @ne_eq.{1} <| And.intro @implies_true.{1} <| And.intro @implies_true.{0} <| And.intro @decide_true <| And.intro @decide_false <| And.intro @HT <| And.intro @Gy <| And.intro @Fh <| And.intro @E7 <| And.intro @FK <| And.intro @FE <| And.intro @G8 <| And.intro @J7 <| And.intro @JS <| And.intro @KL <| And.intro @GV <| And.intro @Hd <| And.intro @HE <| And.intro @Cf <| And.intro @xY <| And.intro @CW <| And.intro @xM <| And.intro @CT <| And.intro @GC <| And.intro @Cz <| And.intro @HS <| And.intro @Ek <| And.intro @KF <| And.intro @Cr <| And.intro @HP <| And.intro @A7 <| And.intro @FB <| And.intro @FM <| And.intro @K7 <| And.intro @DV <| And.intro @JK <| And.intro @Cs <| And.intro @Gz <| And.intro @G6 <| And.intro @HM <| And.intro @K6 <| And.intro @true_or <| And.intro @or_true <| And.intro @or_false <| And.intro @false_or <|
    And.intro @PV <| And.intro @GY <| And.intro @Hc <| And.intro @G4 <|
    And.intro @GI <| And.intro @KW <| And.intro @GO <| And.intro @FL <|
    And.intro @JQ <| And.intro @Kb <| And.intro @HB <| And.intro @Hl <|
    And.intro @Hv <| And.intro @GK <| And.intro @Ey <| And.intro @DT <|
    And.intro @Cc <| And.intro @HL <| And.intro @List.getD_cons_zero.{0} <| And.intro @List.getD_cons_succ.{0} <|
    And.intro @List.length_cons.{0} <| And.intro @List.length_nil.{0} <| And.intro @List.length_map.{0,0} <| And.intro @wrap64 <|
    And.intro @true_and <| And.intro @and_true <| And.intro @and_self <| And.intro @decide_eq_true_eq <|
    And.intro @decide_eq_false_iff_not <| And.intro @List.all_cons.{0} <| And.intro @List.all_nil.{0} <| And.intro @Bool.and_self <|
    And.intro @List.nil_append.{0} <| And.intro @List.cons_append.{0} <| And.intro @Nat.zero_add <| And.intro @CC <|
    And.intro @Int.toNat_natCast <| And.intro @Kt <| And.intro @C5 <| And.intro @bne_iff_ne.{0} <|
    And.intro @beq_iff_eq.{0} <| And.intro @Bool.not_eq_true <| And.intro @Bool.not_true <| And.intro @Bool.not_false <|
    And.intro @List.append_nil.{0} <| And.intro @List.map_cons.{0,0} <| And.intro @List.map_nil.{0,0} <| And.intro @Bool.true_eq_false <|
    And.intro @Bool.false_eq_true <| And.intro @false_implies <| And.intro @true_implies <| And.intro @Bool.not_not <|
    And.intro @List.drop_zero.{0} <| And.intro @D7 <| And.intro @List.set_cons_zero.{0} <| And.intro @List.set_cons_succ.{0} <|
    And.intro @List.drop_nil.{0} <| And.intro @Nat.add_zero <| And.intro @List.replicate_zero.{0} <| And.intro @List.replicate_succ.{0} <|
    And.intro @sn <| And.intro @nU <| And.intro @wM <| And.intro @vf <|
    And.intro @List.isEmpty_cons.{0} <| And.intro @Option.map_none.{0,0} <| And.intro @Option.map_some.{0,0} <| And.intro @Nat.succ_ne_zero <|
    And.intro @List.take_succ_cons.{0} <| And.intro @List.take_zero.{0} <| And.intro @List.drop_succ_cons.{0} <| And.intro @bne_eq_false_iff_eq.{0} <|
    And.intro @beq_eq_false_iff_ne.{0} <| And.intro @not_true_eq_false <| And.intro @not_false_eq_true @Decidable.not_not)
inductive zh:V→Prop
  | val (v:Value):zh (.val v)
  | bu (cs:List V):(∀ i,i < cs.length→∃ v,cs.getD i .any=.val v)→zh (.bu cs)
theorem MA {Z Z':Nat→Prop} {μ μ':Mu} {hp hp':Array Obj} {t:V} {x:Value} (hf:zh t) (h:aB Z μ hp t x):aB Z' μ' hp' t x:=by
  cases hf with
  | val=>cases h with | val _ hv=>exact .val _ hv
  | bu cs hc =>
    cases h with
    | bu _ aas h1 h2 =>
      refine .bu _ _ h1 fun i hi=>?_
      have:=h2 i hi
      obtain ⟨v,hv⟩:=hc i hi
      rw[hv] at this ⊢
      generalize aas.getD i undef=y at this ⊢
      cases this with | val _ hv=>exact .val _ hv
theorem bF.borrow {P:Program} {f:FuncId} {ts vs:List V} {t:V} {h:aE} (hc:aD P f ts t) (hf:zh t) (hl:ts.length=vs.length)
    (hfr:∀ i,i < vs.length→Fr h (vs.getD i .any) (ts.getD i .any)):bF P f vs h t h:=by
  refine ⟨Nat.le_refl _,fun Z μ F w xs hrel hr hfree=>?_⟩
  have hts:en (fun b=>Z b∨hE μ b) μ w.heap ts xs:=⟨by rw[hl,hrel.1],fun i hi=>Av hr (hfr i (by omega)) (hrel.2 i (by omega))⟩
  have hzl:∀ b,(Z b∨hE μ b)→b < w.heap.size:=by
    rintro b (hb | ⟨id,o,s,hb⟩)
    · exact hr.cp b hb
    · exact hr.lt _ _ _ _ hb
  refine (hc _ μ w xs hts hzl).mono ?_
  rintro e w' ⟨x,Z',rfl,hv,hs,hz,hz',ho⟩
  have hm:fL Z Z μ μ w.heap w'.heap:=⟨fun _ h=>h,fun b hb=>ho b (hr.cp b hb) (fun x=>x),fun _ _ h=>h,ho.oM⟩
  exact ⟨x,Z,μ,rfl,MA hf (hv μ),⟨fun id=>(hr.obj id).mono hm rfl (fun b o s hx=>ho b (hr.lt _ _ _ _ hx) (fun x=>x)),hr.inj,fun id b o s hx=>Nat.lt_of_lt_of_le (hr.lt _ _ _ _ hx) hs.size,fun b hb=>Nat.lt_of_lt_of_le (hr.cp b hb) hs.size,hr.fQ⟩,
    ⟨hs,hm,fun b hb _=>ho b hb (fun x=>x),fun b hb=>.inl hb,fun _ _ _ _ h=>.inl h⟩,fun _ _=>rfl⟩
def dD (H:View) (v t:V):Prop:=∀ h:aE,h.view=H→Fr h v t
theorem dD.tree {H:View} {v:V} (h:Tree v):dD H v v:=fun _ _=>.tree _ h
theorem dD.sl {H:View} {id off len esz z:Nat} {es:List (List V)} (hH:H id=.arr z es) (hle:off+len≤es.length) (ht:∀ e∈es,∀ v∈e,Tree v) :
    dD H (.sl id off len esz) (.aZ ((es.drop off).take len)):=by
  rintro h rfl
  have hg:∀ i,i < len→((es.drop off).take len).getD i []=es.getD (off+i) []:=fun i hi=>by
    simp[List.getD_eq_getElem?_getD,List.getElem?_take,hi]
  refine .sl id off len esz z es _ hH hle (by simp; omega) (fun i hi=>by rw[hg i hi]) (fun i j hi hj=>?_)
  rw[hg i hi] at hj ⊢
  refine .tree _ ?_
  have h1:off+i < es.length:=by omega
  have e1:es.getD (off+i) []=es[off+i]:=by simp[List.getD_eq_getElem?_getD,h1]
  rw[e1] at hj ⊢
  have e2:(es[off+i]).getD j .any=(es[off+i])[j]:=by simp[List.getD_eq_getElem?_getD,hj]
  rw[e2]
  exact ht _ (List.getElem_mem _) _ (List.getElem_mem _)
theorem aG.borrow {P:Program} {q:Bool} {f:FuncId} {H:View} {vs ts:List V} {K:V→View→Prop} {v:cD (H,K)} {t:V} (hc:aD P f ts t) (hok:dc P f=true) (hf:zh t) (hl:ts.length=vs.length)
    (hfr:∀ i,i < vs.length→dD H (vs.getD i .any) (ts.getD i .any)) (hk:K t H):aG P q f vs H K v:=by
  unfold aG
  cases q with
  | true=>exact ⟨hok,fun h e=>⟨t,h,bF.borrow hc hf hl (fun i hi=>hfr i hi h e),fun _ _=>rfl,e ▸ hk⟩⟩
  | false =>
    refine ⟨hok,?_⟩
    rintro h rfl
    exact ⟨t,h,bF.borrow hc hf hl (fun i hi=>hfr i hi h rfl),.refl _,hk⟩
abbrev gi (x:Int):V:=.val (.int .i64 x)
abbrev gb (x:Bool):V:=.val (.bool x)
abbrev gs (x:ByteArray):V:=.val (.string x)
theorem mixed:(Tryz.prog).follows .mixedOrders=true:=by kernel_rfl
def encI (l:List Int):V:=.aZ (l.map fun x=>[gi x])
def bO (l:List Bool):V:=.aZ (l.map fun x=>[gb x])
theorem gp (l:List Int):Tree (encI l):=by
  refine .aZ _ fun i j hi hj=>?_
  simp only[List.length_map] at hi
  simp[List.getD_eq_getElem?_getD,hi] at hj ⊢
  subst hj
  exact .val _
def aW {α:Type} (l:List α):Prop:=l.length < 4611686018427387904
def mA:SC :=
  .seq (.seq (ak [aa 11 5,aa 12 0,aJ 13 12,aN 14 .lss 11 13]) <|
  .cond (.tmp 14) (.skip) (.exit 0)) <|
  .seq (.block 1 (.seq (ak [aa 17 0,aa 18 5,aP 19 1 17 18,au 20 19,aa 21 1,aa 22 5,aP 23 1 21 22,au 24 23,aN 25 .neq 20 24]) <|
  .cond (.tmp 25) (.seq (ak [aX 4 false]) <|
  .ret) (.skip))) <|
  ak [aa 15 5,aA 16 .add 15 1,aa 5 16]
def pg:SF:=⟨.seq (ak [aX 4 false]) <|
  .seq (.seq (ak [aa 6 0,aJ 7 6,aa 8 1,aJ 9 8,aN 10 .neq 7 9]) <|
  .cond (.tmp 10) (.seq (ak [aX 4 false]) <|
  .ret) (.skip)) <|
  .seq (.seq (ak [aF 5 0]) <|
  .block 0 (.loop mA)) <|
  .seq (ak [aX 4 true]) <|
  .ret,
  [.tmp 4],26⟩
theorem sP:bf Tryz.prog 37 []=some pg:=by kernel_rfl
theorem Ou {α:Type} [BEq α] [LawfulBEq α] {a b:List α} (h:a.length≠b.length):(a == b)=false:=by
  simp only[beq_eq_false_iff_ne]; intro e; exact h (by rw[e])
theorem NU (a b:List Int) (ha:aW a) (H:View):aC Tryz.prog 37 [encI a,encI b] H fun r H'=>r=gb (a == b)∧H'=H:=by
  refine aC.of mixed sP ?_
  unfold aW at ha
  simp (disch:=omega) only [↓wr,↓reduceIte,wq,ah,ag,aj,ab,ae,af,ai,isNil,Nat.reduceEqDiff,Nat.reduceAdd,Nat.reduceLT,Nat.reduceLeDiff,Int.reduceNeg,Int.reduceToNat,reduceCtorEq,pg,encI]
  refine ax.ne (fun h=>?_) (fun h=>?_)
  · simp (disch:=omega) only [↓wr,↓reduceIte,wq,ah,ag,aj,ab,ae,af,ai,isNil,Nat.reduceEqDiff,Nat.reduceAdd,Nat.reduceLT,Nat.reduceLeDiff,Int.reduceNeg,Int.reduceToNat,reduceCtorEq]
    rw[Ou (by omega)]
  · simp (disch:=omega) only [↓wr,↓reduceIte,wq,ah,ag,aj,ab,ae,af,ai,isNil,Nat.reduceEqDiff,Nat.reduceAdd,Nat.reduceLT,Nat.reduceLeDiff,Int.reduceNeg,Int.reduceToNat,reduceCtorEq]
    refine bz.intro (fun k T H'=>∃ i:Nat,i+k=a.length∧a.take i=b.take i∧T 0=encI a∧T 1=encI b∧T 5=gi i∧H'=H) a.length ?_ ?_
    · exact ⟨0,by omega,by simp,rfl,rfl,rfl,rfl⟩
    · rintro k T H' ⟨i,hk,hi,h0,h1,h5,rfl⟩
      simp (disch:=omega) only [↓wr,↓reduceIte,wq,ah,ag,aj,ab,ae,af,ai,isNil,Nat.reduceEqDiff,Nat.reduceAdd,Nat.reduceLT,Nat.reduceLeDiff,Int.reduceNeg,Int.reduceToNat,reduceCtorEq,mA,h0,h1,h5,encI]
      refine ax.dec (fun hc=>?_) (fun hc=>?_)
      · have h2:a[i]?=some (a[i]'(by omega)):=List.getElem?_eq_getElem (by omega)
        have h3:b[i]?=some (b[i]'(by omega)):=List.getElem?_eq_getElem (by omega)
        simp (disch:=omega) only [↓wr,↓reduceIte,wq,ah,ag,aj,ab,ae,af,ai,isNil,Nat.reduceEqDiff,Nat.reduceAdd,Nat.reduceLT,Nat.reduceLeDiff,Int.reduceNeg,Int.reduceToNat,reduceCtorEq,h0,h1,h5,encI,List.getElem?_map,h2,h3,Option.map_some]
        refine ax.ne (fun hd=>?_) (fun hd=>?_)
        · simp (disch:=omega) only [↓wr,↓reduceIte,wq,ah,ag,aj,ab,ae,af,ai,isNil,Nat.reduceEqDiff,Nat.reduceAdd,Nat.reduceLT,Nat.reduceLeDiff,Int.reduceNeg,Int.reduceToNat,reduceCtorEq]
          have:(a == b)=false:=by
            simp only[beq_eq_false_iff_ne]; rintro rfl; exact hd rfl
          rw[this]
        · simp (disch:=omega) only [↓wr,↓reduceIte,wq,ah,ag,aj,ab,ae,af,ai,isNil,Nat.reduceEqDiff,Nat.reduceAdd,Nat.reduceLT,Nat.reduceLeDiff,Int.reduceNeg,Int.reduceToNat,reduceCtorEq,h0,h1,h5,encI]
          refine ⟨k - 1,by omega,i+1,by omega,?_,rfl⟩
          rw[List.take_add_one,List.take_add_one,hi,h2,h3,hd]
      · simp (disch:=omega) only [↓wr,↓reduceIte,wq,ah,ag,aj,ab,ae,af,ai,isNil,Nat.reduceEqDiff,Nat.reduceAdd,Nat.reduceLT,Nat.reduceLeDiff,Int.reduceNeg,Int.reduceToNat,reduceCtorEq,h0,h1,h5,encI]
        have:a=b:=by
          have e:i=a.length:=by omega
          rw[List.take_of_length_le (by omega),List.take_of_length_le (by omega)] at hi
          exact hi
        rw[this]; simp
theorem OC (a b:List Int) (ha:aW a):aD Tryz.prog 37 [encI a,encI b] (gb (a == b)) :=
  aD.of (by simp[gp]) ((NU a b ha _).mono fun r H' h h' _=>by rw[h.1]; exact .tree _ (.val _))
theorem iz (l:List Bool):Tree (bO l):=by
  refine .aZ _ fun i j hi hj=>?_
  simp only[List.length_map] at hi
  simp[List.getD_eq_getElem?_getD,hi] at hj ⊢
  subst hj
  exact .val _
end Gv
