/-
  Part 5 of the proof: what the machine does and what the functions answer.
  Conditions: those that each lemma names.
-/
import Derived.Test.YtomcjampldmjoaaGreatProg
import Derived.KernelRfl
import Derived.Test.YtomcjampldmjoaaGreatSGzVD
set_option linter.unusedSimpArgs false
set_option linter.unusedVariables false
set_option maxRecDepth 100000
namespace Gv
open Go Go.Proofs
section
variable {P:Program} {n:Nat} {all:List Oper}
theorem JW (h:aE):h.view h.length=.dead:=by simp[aE.view,List.getD_eq_getElem?_getD]
theorem PS {o:Oper} {T:Env} {h:aE} {s:SI} {K:V→View→Prop} (hg:cQ n all T o=some true) (hc:∀ v aC rd,sI P s T h.view h.length=some (v,aC,rd)→bX P o T h.view h.length=some (v,aC,rd)) (hw:wI P s T h.view K) :
    ∃ v h' rd wr,c9 P n all o T h v h' rd wr false∧gF h h'∧K v h'.view∧jy (rA P s) rd wr false h.length h'.length:=by
  obtain ⟨v,aC,rd,hs,hk⟩:=PK hw (JW h)
  have ha:=hc _ _ _ hs
  have hlive:∀ id,id∈aC.wr→h.view id≠.dead:=fun id hid=>(kU ha id hid).1
  refine ⟨v,aC.apply h,rd,aC.wr,.op hg ha,?_,?_,?_,?_⟩
  · intro id hid hd
    rw[j6 hlive]
    cases aC with
    | none=>exact hd
    | new o=>simp only[bg.view,View.set]; rw[if_neg (by omega)]; exact hd
    | fC k o =>
      simp only[bg.view,View.set]
      rw[if_neg (by rintro rfl; exact hlive id (by simp[bg.wr]) hd)]; exact hd
    | bc k o =>
      simp only[bg.view,View.set]
      rw[if_neg (by omega)]
      split
      · rfl
      · exact hd
  · rw[j6 (fun id hid=>(kU ha id hid).1)]; exact hk
  · intro h0
    obtain ⟨rfl,rfl⟩:=(qt hs).1 h0
    exact ⟨rfl,rfl,rfl,rfl⟩
  · intro h1
    rcases Nat.lt_or_ge (rA P s) 1 with h2 | h2
    · obtain ⟨rfl,rfl⟩:=(qt hs).1 (by omega); rfl
    · exact (qt hs).2 (by omega)
theorem Fm {P:Program} {fr:Bool} {s:SI} {T:Env} {H:View} {n:Nat} {v:V} {aC:bg} {rd:List Nat} (h:sI P (wc P fr s) T H n=some (v,aC,rd)):sI P s T H n=some (v,aC,rd):=by
  unfold wc at h
  split at h
  · split at h
    · exact KD h
    · exact h
  · split at h
    · rename_i hc
      simp only[Bool.and_eq_true] at hc
      exact My hc.2 h
    · exact h
  · exact h
theorem yp (P:Program) (fz:Fz) (o:Oper) :
    (∃ f args ats,o.op=.call { callee:=.value f,args:=args,argTypes:=ats }∧ma P fz o=.call (SX.of f) (args.toList.map SX.of)) ∨
    (∃ t x,o.op=.box t x∧ma P fz o=.op (.gY (SX.of x)))∨(∃ s d x,o.op=.convert s d x∧te P s d=true∧ma P fz o=.op (.eO (SX.of x)))∨ma P fz o=.op (wc P fz.fr (comp P o)):=by
  unfold ma
  split
  · rename_i f args ats ho; exact .inl ⟨f,args,ats,ho,rfl⟩
  · rename_i t x ho
    by_cases hd:(match o.dst with | some d=>fz.l.contains d | none=>false)=true
    · exact .inr (.inl ⟨t,x,ho,if_pos hd⟩)
    · refine .inr (.inr (.inr ?_))
      refine (if_neg hd).trans ?_
      simp only[comp,ho,wc]
  · rename_i s d x ho
    by_cases hd:((match o.dst with | some d=>fz.l.contains d | none=>false) && te P s d)=true
    · exact .inr (.inr (.inl ⟨s,d,x,ho,by simp only[Bool.and_eq_true] at hd; exact hd.2,if_pos hd⟩))
    · exact .inr (.inr (.inr (if_neg hd)))
  · exact .inr (.inr (.inr rfl))
theorem c9.len {o:Oper} {T:Env} {h h':aE} {v:V} {rd wr:List Nat} {call:Bool} (st:c9 P n all o T h v h' rd wr call):h.length≤h'.length:=by
  cases st with
  | skip=>exact Nat.le_refl _
  | op _ _=>rename_i aC _ _ ; cases aC <;> simp[bg.apply]
  | gY _ _ _=>exact Nat.le_refl _
  | eO _ _ _ _ _ _=>exact Nat.le_refl _
  | call _ _ _ _ ha _ _=>exact ha.1
theorem Md {fz:Fz} {o:Oper} {T:Env} {h:aE} {quiet:Bool} {K:V→View→Prop} (hg:cQ n all T o=some true) (hw:wB P quiet (ma P fz o) T h.view K) :
    ∃ v h' rd wr call,c9 P n all o T h v h' rd wr call∧gF h h'∧K v h'.view∧jy (gT P quiet (ma P fz o)) rd wr call h.length h'.length:=by
  rcases yp P fz o with ⟨f,args,ats,ho,hc⟩ | ⟨t,x,ho,hc⟩ | ⟨s,d,x,ho,hcv,hc⟩ | hc
  · rw[hc] at hw ⊢
    simp only[wB] at hw
    split at hw
    · rename_i g first cap hf
      rw[El] at hw
      rw[SX.cw] at hf
      split at hw
      · rename_i hq
        obtain ⟨hok,hq'⟩:=hw
        obtain ⟨r,h',hr,hold,hk⟩:=hq' h rfl
        refine ⟨r,h',[],[],true,.call hg ho hf hok hr (fun id hid _=>hold id hid) (fun id hid=>by simp at hid),fun id hid hd=>(hold id hid).trans hd,hk,?_,?_⟩
        · intro h0; simp[gT,hq] at h0
        · intro _; rfl
      · rename_i hq
        obtain ⟨hok,hq'⟩:=hw
        obtain ⟨r,h',hr,hst,hk⟩:=hq' h rfl
        refine ⟨r,h',[],List.range h.length,true,.call hg ho hf hok hr (fun id hid hn=>?_) (fun id hid=>by simpa using hid),hst,hk,LY (by simp[gT,hq])⟩
        exact absurd (by simpa using hid) hn
    · exact hw.elim
  · rw[hc] at hw ⊢
    simp only[wB,wI,SX.cw] at hw
    exact ⟨_,h,[],[],false,.gY hg ho hw.1,.refl _,hw.2,fun _=>⟨rfl,rfl,rfl,rfl⟩,fun _=>rfl⟩
  · rw[hc] at hw ⊢
    simp only[wB,wI,SX.cw] at hw
    obtain ⟨e,h1,h2,h3⟩:=yr hcv
    split at hw
    · rename_i st hx
      exact ⟨_,h,[],[],false,.eO hg ho h1 h2 h3 hx,.refl _,hw,fun _=>⟨rfl,rfl,rfl,rfl⟩,fun _=>rfl⟩
    · exact hw.elim
  · rw[hc] at hw ⊢
    obtain ⟨v,h',rd,wr,h1,h0,h2,h3⟩:=PS (s:=wc P fz.fr (comp P o)) hg (fun v aC rd hs=>Fi (Fm hs)) hw
    exact ⟨v,h',rd,wr,false,h1,h0,h2,h3⟩
def eL (P:Program) (quiet:Bool) (l:List SO) (recs:List Rec):Prop :=
  l.length=recs.length∧∀ (i:Nat) (s:SO) (r:Rec),l[i]?=some s→recs[i]?=some r→jy (gT P quiet s.b) r.rd r.wr r.call r.lo r.hi
theorem eL.nil {quiet:Bool} : eL P quiet [] []:=⟨rfl,fun i s r h=>by simp at h⟩
theorem eL.cons {quiet:Bool} {l:List SO} {recs:List Rec} {s:SO} {r:Rec} (h:eL P quiet l recs) (hr:jy (gT P quiet s.b) r.rd r.wr r.call r.lo r.hi):eL P quiet (s :: l) (r :: recs):=by
  refine ⟨by simp[h.1],fun i s' r' hs hr'=>?_⟩
  cases i with
  | zero=>simp at hs hr'; subst hs hr'; exact hr
  | succ i=>exact h.2 i s' r' (by simpa using hs) (by simpa using hr')
theorem eL.append {quiet:Bool} {l l':List SO} {recs recs':List Rec} (h:eL P quiet l recs) (h':eL P quiet l' recs'):eL P quiet (l ++ l') (recs ++ recs'):=by
  refine ⟨by simp[h.1,h'.1],fun i s r hs hr=>?_⟩
  by_cases hi:i < l.length
  · rw[List.getElem?_append_left hi] at hs
    rw[List.getElem?_append_left (h.1 ▸ hi)] at hr
    exact h.2 i s r hs hr
  · rw[List.getElem?_append_right (by omega)] at hs
    rw[List.getElem?_append_right (by have:=h.1; omega)] at hr
    exact h'.2 (i - l.length) s r hs (by rw[h.1]; exact hr)
theorem ry {fz:Fz} {o:Oper} {s:SO} (h:CS P n all fz o=some s):qf n o=true∧s.dst=o.dst∧s.b=ma P fz o∧tf n all o=some s.guard:=by
  unfold CS at h
  split at h
  · rename_i hd
    simp only[Option.map_eq_some_iff] at h
    obtain ⟨g,hg,rfl⟩:=h
    exact ⟨hd,rfl,rfl,hg⟩
  · simp at h
theorem zS {o:Oper} {T:Env} (h:tf n all o=some none):cQ n all T o=some true:=by
  unfold tf at h
  unfold cQ
  split at h
  · rename_i hg; rw[hg]
  · split at h
    · split at h
      · simp at h
      · simp at h
    · simp at h
theorem jW {o:Oper} {T:Env} {d:Nat} {want:Bool} (h:tf n all o=some (some (d,want))) :
    (∀ b,T d=.val (.bool b)→cQ n all T o=some (b == want))∧(T d=.bo []→cQ n all T o=some false):=by
  unfold tf at h
  unfold cQ
  split at h
  · simp at h
  · rename_i j w hg
    rw[hg]
    split at h
    · rename_i d' hd
      split at h
      · rename_i hlt
        simp at h
        obtain ⟨rfl,rfl⟩:=h
        simp only[hd,hlt,if_true]
        exact ⟨fun b hb=>by rw[hb],fun hb=>by rw[hb]⟩
      · simp at h
    · simp at h
theorem jV {fz:Fz} {os:List Oper} (h:cZ P n all fz os=some []):os=[]:=by
  cases os with
  | nil=>rfl
  | cons o r =>
    simp only[cZ] at h
    split at h <;> simp at h
theorem kE {fz:Fz} {os:List Oper} {s:SO} {l:List SO} (h:cZ P n all fz os=some (s :: l)):∃ o r,os=o :: r∧CS P n all fz o=some s∧cZ P n all fz r=some l:=by
  cases os with
  | nil=>simp[cZ] at h
  | cons o r =>
    simp only[cZ] at h
    split at h
    · rename_i s' l' h1 h2
      simp at h
      obtain ⟨rfl,rfl⟩:=h
      exact ⟨o,r,rfl,h1,h2⟩
    · simp at h
theorem pA {fz:Fz} : ∀ {l l':List SO} {os:List Oper},cZ P n all fz os=some (l ++ l')→∃ a b,os=a ++ b∧cZ P n all fz a=some l∧cZ P n all fz b=some l'
  | [],l',os,h=>⟨[],os,rfl,rfl,h⟩
  | s :: l,l',os,h=>by
    obtain ⟨o,r,rfl,h1,h2⟩:=kE h
    obtain ⟨a,b,rfl,h3,h4⟩:=pA h2
    exact ⟨o :: a,b,rfl,by simp[cZ,h1,h3],h4⟩
theorem Tr.append {a b:List Oper} {T T1 T2:Env} {h h1 h2:aE} {r1 r2:List Rec} (x:Tr P n all a T h r1 T1 h1) (y:Tr P n all b T1 h1 r2 T2 h2):Tr P n all (a ++ b) T h (r1 ++ r2) T2 h2:=by
  induction x with
  | nil=>exact y
  | cons st hd _ ih=>exact .cons st hd (ih y)
theorem zj {T:Env} {d:Nat} {v:V} (h:T d=v):T.put (some d) v=T:=by
  funext t
  simp only[Env.put]
  split
  · rename_i e; subst e; exact h.symm
  · rfl
theorem Et {fz:Fz} {quiet:Bool} {K:Env→View→Prop} (g:Option (Nat × Bool)):∀ (l:List (Option Nat × SB)) (os:List Oper) (T:Env) (h:aE),
    cZ P n all fz os=some (l.map fun (d,b)=>⟨d,g,b⟩)→(∀ d w,g=some (d,w)→T d=.val (.bool w)∧(l.all fun x=>x.1 != some d)=true)→xe P quiet l T h.view K →
    ∃ recs T' h',Tr P n all os T h recs T' h'∧(gF h h'∧h.length≤h'.length)∧K T' h'.view∧eL P quiet (l.map fun (d,b)=>⟨d,g,b⟩) recs
  | [],os,T,h,hc,hg,hw=>by
    have:=jV hc; subst this
    exact ⟨[],T,h,.nil,⟨.refl _,Nat.le_refl _⟩,hw,.nil⟩
  | (d,b) :: l,os,T,h,hc,hg,hw=>by
    obtain ⟨o,r,rfl,h1,h2⟩:=kE hc
    obtain ⟨hd,hd1,hb1,hg1⟩:=ry h1
    simp only at hd1 hb1 hg1
    have hgv:cQ n all T o=some true:=by
      cases g with
      | none=>exact zS hg1
      | some p =>
        obtain ⟨d',w⟩:=p
        have:=(jW (T:=T) hg1).1 w (hg d' w rfl).1
        rw[this]; simp
    simp only[xe] at hw
    rw[hb1] at hw
    obtain ⟨v,h',rd,wr,call,st,hst,hk,hl⟩:=Md hgv hw
    obtain ⟨recs,T',h'',tr,hst',hk',hro⟩:=Et g l r (T.put d v) h' h2 (fun d' w e=>by
      have:=hg d' w e
      simp only[List.all_cons,Bool.and_eq_true,bne_iff_ne,ne_eq] at this
      refine ⟨?_,this.2.2⟩
      rw[← this.1]
      cases d with
      | none=>rfl
      | some t=>simp only[Env.put]; rw[if_neg]; intro e; subst e; exact this.2.1 rfl) hk
    rw[hd1] at tr
    have hlen:=st.len
    exact ⟨_,T',h'',.cons st hd tr,⟨hst.trans hst'.1 hlen,Nat.le_trans hlen hst'.2⟩,hk',hro.cons (by rw[hb1]; exact hl)⟩
theorem AP {fz:Fz} {quiet:Bool} (d:Nat) (w:Bool) (h:aE):∀ (l:List (Option Nat × SB)) (os:List Oper) (T:Env),
    cZ P n all fz os=some (l.map fun (d',b)=>⟨d',some (d,w),b⟩)→(T d=.val (.bool !w)∨T d=.bo [])→(l.all fun x=>x.1 != some d)=true →
    ∃ recs,Tr P n all os T h recs (gx l T) h∧eL P quiet (l.map fun (d',b)=>⟨d',some (d,w),b⟩) recs
  | [],os,T,hc,hd,hl=>by
    have:=jV hc; subst this
    exact ⟨[],.nil,.nil⟩
  | (d',b) :: l,os,T,hc,hd,hl=>by
    obtain ⟨o,r,rfl,h1,h2⟩:=kE hc
    obtain ⟨hd0,hd1,hb1,hg1⟩:=ry h1
    simp only at hd1 hb1 hg1
    have hgv:cQ n all T o=some false:=by
      rcases hd with hd | hd
      · rw[(jW (T:=T) hg1).1 _ hd]; cases w <;> rfl
      · exact (jW (T:=T) hg1).2 hd
    simp only[List.all_cons,Bool.and_eq_true,bne_iff_ne,ne_eq] at hl
    obtain ⟨recs,tr,hro⟩:=AP d w h l r (T.put d' (.bo [])) h2 (by
      have:(T.put d' (.bo [])) d=T d:=by
        cases d' with
        | none=>rfl
        | some t=>simp only[Env.put]; rw[if_neg]; intro e; subst e; exact hl.1 rfl
      rw[this]; exact hd) hl.2
    rw[hd1] at tr
    refine ⟨_,?_,hro.cons (r:=⟨[],[],false,h.length,h.length⟩) ⟨fun _=>⟨rfl,rfl,rfl,rfl⟩,fun _=>rfl⟩⟩
    have:=Tr.cons (.skip hgv) hd0 tr
    rw[gx,hd1]
    exact this
theorem Pw {fz:Fz} {quiet:Bool} {K:Env→View→Prop} {g:SG} {os:List Oper} {T:Env} {h:aE} (hc:cZ P n all fz os=some g.flat) (hok:rO g=true) (hw:wG P quiet g T h.view K) :
    ∃ recs T' h',Tr P n all os T h recs T' h'∧(gF h h'∧h.length≤h'.length)∧K T' h'.view∧eL P quiet g.flat recs:=by
  unfold wG at hw
  unfold SG.flat at hc ⊢
  unfold rO at hok
  split at hw
  · rename_i hg
    rw[hg] at hc ⊢
    exact Et none g.ops os T h hc (fun d w e=>by simp at e) hw
  · rename_i d want hg
    rw[hg] at hc hok ⊢
    simp only at hok
    split at hw
    · rename_i b hb
      by_cases e:b=want
      · subst e
        have:=hw.1 rfl
        rw[zj hb] at this
        exact Et (some (d,b)) g.ops os T h hc (fun d' w e=>by simp at e; obtain ⟨rfl,rfl⟩:=e; exact ⟨hb,hok⟩) this
      · have e':b = !want:=by cases b <;> cases want <;> simp_all
        have:=hw.2 e'
        subst e'
        rw[zj hb] at this
        obtain ⟨recs,tr,hro⟩:=AP (quiet:=quiet) d want h g.ops os T hc (.inl hb) hok
        exact ⟨recs,_,h,tr,⟨.refl _,Nat.le_refl _⟩,this,hro⟩
    · rename_i hb
      obtain ⟨recs,tr,hro⟩:=AP (quiet:=quiet) d want h g.ops os T hc (.inr hb) hok
      exact ⟨recs,_,h,tr,⟨.refl _,Nat.le_refl _⟩,hw,hro⟩
    · exact hw.elim
theorem xk {fz:Fz} {quiet:Bool} {K:Env→View→Prop} : ∀ (gs:List SG) (os:List Oper) (T:Env) (h:aE),cZ P n all fz os=some (ja gs)→gs.all rO=true→vg P quiet gs T h.view K →
    ∃ recs T' h',Tr P n all os T h recs T' h'∧(gF h h'∧h.length≤h'.length)∧K T' h'.view∧eL P quiet (ja gs) recs
  | [],os,T,h,hc,_,hw=>by
    have:=jV hc; subst this
    exact ⟨[],T,h,.nil,⟨.refl _,Nat.le_refl _⟩,hw,.nil⟩
  | g :: gs,os,T,h,hc,hok,hw=>by
    simp only[ja,List.map_cons,List.flatten_cons] at hc ⊢
    simp only[List.all_cons,Bool.and_eq_true] at hok
    obtain ⟨a,b,rfl,h1,h2⟩:=pA hc
    obtain ⟨r1,T1,h1',tr1,st1,hk1,ro1⟩:=Pw h1 hok.1 hw
    obtain ⟨r2,T2,h2',tr2,st2,hk2,ro2⟩:=xk gs b T1 h1' h2 hok.2 hk1
    exact ⟨_,T2,h2',tr1.append tr2,⟨st1.1.trans st2.1 st1.2,Nat.le_trans st1.2 st2.2⟩,hk2,ro1.append ro2⟩
theorem Tr.at_ {os:List Oper} {T T':Env} {h h':aE} {recs:List Rec} (tr:Tr P n all os T h recs T' h'):∀ (i:Nat) (o:Oper),os[i]?=some o →
    ∃ T1 h1 v h2 rd wr call recs2,recs[i]?=some ⟨rd,wr,call,h1.length,h2.length⟩∧c9 P n all o T1 h1 v h2 rd wr call∧h.length≤h1.length∧Tr P n all (os.drop (i+1)) (T1.put o.dst v) h2 recs2 T' h'∧(∀ m,recs2[m]?=recs[i+1+m]?) ∧
      (∀ t,(∀ o'∈os.take i,o'.dst≠some t)→T1 t=T t):=by
  induction tr with
  | nil=>intro i o hi; simp at hi
  | @cons o0 rest T T' h h1 h' v rd wr call recs st hd tr ih =>
    intro i o hi
    cases i with
    | zero =>
      simp at hi; subst hi
      exact ⟨T,h,v,h1,rd,wr,call,recs,rfl,st,Nat.le_refl _,by simpa using tr,fun m=>by rw[show 0+1+m=m+1 by omega,List.getElem?_cons_succ],fun t _=>rfl⟩
    | succ i =>
      simp at hi
      obtain ⟨T1,h2,v2,h3,rd2,OW,call2,recs2,e1,e2,e3,e4,e5,e6⟩:=ih i o hi
      have hlen:h.length≤h1.length:=by
        cases st with
        | skip=>exact Nat.le_refl _
        | op _ _=>rename_i aC _ _; cases aC <;> simp[bg.apply]
        | gY _ _ _=>exact Nat.le_refl _
        | eO _ _ _ _ _ _=>exact Nat.le_refl _
        | call _ _ _ _ ha _ _=>exact ha.1
      refine ⟨T1,h2,v2,h3,rd2,OW,call2,recs2,by simpa using e1,e2,Nat.le_trans hlen e3,by simpa using e4,fun m=>?_,fun t ht=>?_⟩
      · rw[e5,show i+1+1+m=(i+1+m)+1 by omega,List.getElem?_cons_succ]
      · simp only[List.take_succ_cons,List.mem_cons] at ht
        rw[e6 t fun o' ho'=>ht o' (.inr ho')]
        have:=ht o0 (.inl rfl)
        cases hdst:o0.dst with
        | none=>rfl
        | some d=>simp only[Env.put]; rw[if_neg]; rintro rfl; exact this hdst
theorem Gl {o:Oper} {T:Env} {h h':aE} {v:V} {rd wr:List Nat} {call:Bool} (st:c9 P n all o T h v h' rd wr call) (ha:yA o=true) (hg:o.guard=none):v=.ptr h.length 0 0:=by
  unfold yA at ha
  have hgv:cQ n all T o=some true:=by unfold cQ; rw[hg]
  cases st with
  | skip hs=>rw[hgv] at hs; simp at hs
  | op _ hop =>
    split at ha
    · rename_i e ho
      simp only[bX,ho] at hop
      split at hop
      · unfold km at hop
        split at hop
        · simp at hop; exact hop.1.symm
        · simp at hop
      · simp at hop
    · simp at ha
  | gY _ ho _=>rw[ho] at ha; simp at ha
  | eO _ ho _ _ _ _=>rw[ho] at ha; simp at ha
  | call _ ho _ _ _ _ _=>rw[ho] at ha; simp at ha
theorem FM {o:Oper} {T:Env} {h h':aE} {v:V} {rd wr:List Nat} {call:Bool} {t id i j:Nat} (st:c9 P n all o T h v h' rd wr call) (ha:jE o=some t) (ht:T t=.ptr id i j):wr=[id]∧call=false:=by
  unfold jE at ha
  split at ha
  · rename_i ty t' x ho hg
    simp at ha; subst ha
    have hgv:cQ n all T o=some true:=by unfold cQ; rw[hg]
    cases st with
    | skip hs=>rw[hgv] at hs; simp at hs
    | op _ hop =>
      have e1:ev T (.tmp t')=.ptr id i j:=ht
      simp only[bX,ho,e1,o6] at hop
      split at hop
      · split at hop
        · simp only[Option.some.injEq,Prod.mk.injEq] at hop
          obtain ⟨_,he,_⟩:=hop
          rw[← he]; exact ⟨rfl,rfl⟩
        · simp at hop
      · simp at hop
    | gY _ ho' _=>rw[ho] at ho'; simp at ho'
    | eO _ ho' _ _ _ _=>rw[ho] at ho'; simp at ho'
    | call _ ho' _ _ _ _ _=>rw[ho] at ho'; simp at ho'
  · simp at ha
theorem JD {o:Oper} {T:Env} {h h':aE} {v:V} {rd wr:List Nat} {call:Bool} (st:c9 P n all o T h v h' rd wr call) (ha:AR o=true):wr=[]∧call=false∧∀ id,id∈rd→id < h.length:=by
  unfold AR at ha
  cases st with
  | skip _=>exact ⟨rfl,rfl,fun id hid=>by simp at hid⟩
  | op _ hop =>
    split at ha
    · rename_i e a ho
      simp only[bX,ho,kL] at hop
      split at hop
      · rename_i id i j hx
        split at hop
        · rename_i z es hH
          split at hop
          · simp only[Option.map_eq_some_iff] at hop
            obtain ⟨_,_,hop⟩:=hop
            simp at hop
            obtain ⟨_,rfl,rfl⟩:=hop
            refine ⟨rfl,rfl,fun id' hid=>?_⟩
            simp at hid; subst hid
            exact iT (by rw[hH]; simp)
          · simp at hop
        · simp at hop
      · simp only[Option.map_eq_some_iff] at hop
        obtain ⟨_,_,hop⟩:=hop
        simp at hop
        obtain ⟨_,rfl,rfl⟩:=hop
        exact ⟨rfl,rfl,fun id hid=>by simp at hid⟩
      · simp at hop
    · simp at ha
  | gY _ ho _=>rw[ho] at ha; simp at ha
  | eO _ ho _ _ _ _=>rw[ho] at ha; simp at ha
  | call _ ho _ _ _ _ _=>rw[ho] at ha; simp at ha
theorem uA {T T':Env} {h h':aE} {recs:List Rec} (tr:Tr P n all all T h recs T' h') {i k:Nat} {a b:Rec} (hp:xB all i k=true) (ha:recs[i]?=some a) (hb:recs[k]?=some b):mb a b:=by
  unfold xB at hp
  split at hp
  · rename_i oa ob hoa hob
    rw[Bool.and_eq_true] at hp
    obtain ⟨hl,hp⟩:=hp
    split at hp
    · rename_i t hst
      rw[List.any_eq_true] at hp
      obtain ⟨j,hj,hp⟩:=hp
      rw[List.mem_range] at hj
      rw[Bool.and_eq_true,decide_eq_true_eq] at hp
      obtain ⟨hij,hown⟩:=hp
      unfold Ol at hown
      split at hown
      · rename_i oj hoj
        simp only[Bool.and_eq_true,beq_iff_eq,List.all_eq_true,bne_iff_ne,ne_eq,Option.isNone_iff_eq_none] at hown
        obtain ⟨⟨⟨w1,w2⟩,w3⟩,w4⟩:=hown
        obtain ⟨T1,h1,v1,h2,rd1,PY,c1,recs1,e1,e2,e3,e4,e5,_⟩:=tr.at_ i oa hoa
        obtain ⟨Tj,hj1,vj,hj2,rdj,wrj,cj,recsj,f1,f2,f3,f4,f5,_⟩:=e4.at_ (j - (i+1)) oj (by rw[List.getElem?_drop,show i+1+(j - (i+1))=j by omega]; exact hoj)
        have hdr:(all.drop (i+1)).drop (j - (i+1)+1)=all.drop (j+1):=by rw[List.drop_drop]; congr 1; omega
        rw[hdr] at f4
        obtain ⟨Tk,hk1,vk,hk2,rdk,wrk,ck,recsk,g1,g2,g3,_,_,g6⟩:=f4.at_ (k - (j+1)) ob (by rw[List.getElem?_drop,show j+1+(k - (j+1))=k by omega]; exact hob)
        rw[ha] at e1
        have hae:=(Option.some.inj e1)
        have hbe:recs[k]?=some ⟨rdk,wrk,ck,hk1.length,hk2.length⟩:=by
          rw[← g1,f5,e5]; congr 1; omega
        rw[hb] at hbe
        have hbe:=Option.some.inj hbe
        have hv:=Gl f2 w3 w2
        have hTk:Tk t=.ptr hj1.length 0 0:=by
          rw[g6 t fun o' ho'=>w4 o' ho',w1,hv]
          simp[Env.put]
        obtain ⟨s1,s2⟩:=FM g2 hst hTk
        obtain ⟨l1,l2,l3⟩:=JD e2 hl
        rw[hae,hbe]
        have hlen:h1.length≤h2.length:=by
          cases e2 with
          | skip=>exact Nat.le_refl _
          | op _ _=>rename_i aC _ _; cases aC <;> simp[bg.apply]
          | gY _ _ _=>exact Nat.le_refl _
          | eO _ _ _ _ _ _=>exact Nat.le_refl _
          | call _ _ _ _ ha _ _=>exact ha.1
        refine ⟨fun id hid=>by simp[l1] at hid,fun id hid=>?_,fun hc=>by simp[l2] at hc,fun _=>l1,fun id hid=>?_⟩
        · simp only[s1,List.mem_singleton] at hid
          subst hid
          intro hr
          have:=l3 _ hr
          omega
        · simp only[s1,List.mem_singleton] at hid
          subst hid
          simp only
          omega
      · simp at hown
    · simp at hp
  · simp at hp
theorem KV {ls:List Nat} {recs:List Rec} {T T':Env} {hp hp':aE} (tr:Tr P n all all T hp recs T' hp') (h:CT all ls=true) (hl:ls.length=recs.length) (hr:∀ (i x:Nat) (r:Rec),ls[i]?=some x→recs[i]?=some r→jy x r.rd r.wr r.call r.lo r.hi):su all recs:=by
  intro i k a b hik ha hb ho
  have hi:i < recs.length:=(List.getElem?_eq_some_iff.1 ha).1
  have hk:k < recs.length:=(List.getElem?_eq_some_iff.1 hb).1
  unfold CT at h
  simp only[List.all_eq_true] at h
  have h1:=h (ls[i]'(by omega),i) (by rw[List.mem_zipIdx_iff_getElem?]; simp[List.getElem?_eq_getElem (show i < ls.length by omega)])
    (ls[k]'(by omega),k) (by rw[List.mem_zipIdx_iff_getElem?]; simp[List.getElem?_eq_getElem (show k < ls.length by omega)])
  have la:=hr i _ a (List.getElem?_eq_getElem (by omega)) ha
  have lb:=hr k _ b (List.getElem?_eq_getElem (by omega)) hb
  simp only[hik,decide_true,Bool.not_true,ho,Bool.false_or,Bool.or_eq_true,beq_iff_eq,Bool.and_eq_true,decide_eq_true_eq] at h1
  rcases h1 with ((h1 | h1) | h1) | h1
  · obtain ⟨e1,e2,e3,e4⟩:=la.1 h1
    exact ⟨fun id hid=>by simp[e2] at hid,fun id _=>by simp[e1],fun hc=>by simp[e3] at hc,fun _=>e2,fun id _ hx=>by omega⟩
  · obtain ⟨e1,e2,e3,e4⟩:=lb.1 h1
    exact ⟨fun id _=>by simp[e1],fun id hid=>by simp[e2] at hid,fun _=>e2,fun hc=>by simp[e3] at hc,fun id hid=>by simp[e2] at hid⟩
  · have e1:=la.2 h1.1
    have e2:=lb.2 h1.2
    exact ⟨fun id hid=>by simp[e1] at hid,fun id hid=>by simp[e2] at hid,fun _=>e2,fun _=>e1,fun id hid=>by simp[e2] at hid⟩
  · exact uA tr h1 ha hb
theorem Tr.keep {os:List Oper} {T T':Env} {h h':aE} {recs:List Rec} (tr:Tr P n all os T h recs T' h') {t:Nat} (ht:∀ o∈os,o.dst≠some t):T' t=T t:=by
  induction tr with
  | nil=>rfl
  | @cons o0 rest T T' h h1 h' v rd wr call recs st hd tr ih =>
    rw[ih fun o ho=>ht o (by simp[ho])]
    have:=ht o0 (by simp)
    cases hdst:o0.dst with
    | none=>rfl
    | some d=>simp only[Env.put]; rw[if_neg]; rintro rfl; exact this hdst
theorem uW {o:Oper} {T:Env} {h h':aE} {v:V} {rd wr:List Nat} {call:Bool} {t:Nat} (st:c9 P n all o T h v h' rd wr call) (ha:qq o=some t):wr=[]∧call=false∧h'.length=h.length∧∀ id,id∈rd→∃ i j,T t=.ptr id i j:=by
  unfold qq at ha
  split at ha
  · rename_i e t' ho
    simp at ha; subst ha
    cases st with
    | skip _=>exact ⟨rfl,rfl,rfl,fun id hid=>by simp at hid⟩
    | op _ hop =>
      simp only[bX,ho,kL] at hop
      split at hop
      · rename_i id i j hx
        split at hop
        · split at hop
          · simp only[Option.map_eq_some_iff] at hop
            obtain ⟨_,_,hop⟩:=hop
            simp at hop
            obtain ⟨_,rfl,rfl⟩:=hop
            refine ⟨rfl,rfl,rfl,fun id' hid=>?_⟩
            simp at hid; subst hid
            exact ⟨i,j,hx⟩
          · simp at hop
        · simp at hop
      · simp only[Option.map_eq_some_iff] at hop
        obtain ⟨_,_,hop⟩:=hop
        simp at hop
        obtain ⟨_,rfl,rfl⟩:=hop
        exact ⟨rfl,rfl,rfl,fun id hid=>by simp at hid⟩
      · simp at hop
    | gY _ ho' _=>rw[ho] at ho'; simp at ho'
    | eO _ ho' _ _ _ _=>rw[ho] at ho'; simp at ho'
    | call _ ho' _ _ _ _ _=>rw[ho] at ho'; simp at ho'
  · simp at ha
theorem uX {i t:Nat} (h:stays all i t=true):∀ o∈all.drop i,o.dst≠some t:=by
  intro o ho
  have:=List.all_eq_true.1 h o ho
  simpa using this
theorem yZ {aps:List (Nat × Nat)} {T:Env} {K:Prop} (hA:wA aps T K):∀ p∈aps,gq (T p.1) (T p.2):=by
  induction aps with
  | nil=>intro p hp; simp at hp
  | cons q l ih =>
    intro p hp
    rcases List.mem_cons.1 hp with rfl | hp
    · exact hA.1
    · exact ih hA.2 p hp
theorem wA.rest {aps:List (Nat × Nat)} {T:Env} {K:Prop} (hA:wA aps T K):K:=by
  induction aps with
  | nil=>exact hA
  | cons q l ih=>exact ih hA.2
theorem pk {T T':Env} {h h':aE} {recs:List Rec} (tr:Tr P n all all T h recs T' h') {i t:Nat} {o:Oper} (ho:all[i]?=some o) (hs:stays all i t=true) {r:Rec} (hr:recs[i]?=some r) :
    ∃ T1 h1 v h2,c9 P n all o T1 h1 v h2 r.rd r.wr r.call∧r.lo=h1.length∧r.hi=h2.length∧T1 t=T' t:=by
  obtain ⟨T1,h1,v,h2,rd,wr,call,recs2,e1,e2,e3,e4,e5,e6⟩:=tr.at_ i o ho
  rw[hr] at e1
  have e1:=Option.some.inj e1
  subst e1
  refine ⟨T1,h1,v,h2,e2,rfl,rfl,?_⟩
  have hk:=uX hs
  have hi:i < all.length:=(List.getElem?_eq_some_iff.1 ho).1
  have ho':all[i]=o:=(List.getElem?_eq_some_iff.1 ho).2
  rw[List.drop_eq_getElem_cons hi,ho'] at hk
  rw[e4.keep fun o' ho'=>hk o' (by simp[ho'])]
  have:=hk o (by simp)
  cases hdst:o.dst with
  | none=>rfl
  | some d=>simp only[Env.put]; rw[if_neg]; rintro rfl; exact this hdst
theorem xU {i a b j c d:Nat} (h:gq (.ptr i a b) (.ptr j c d)):i≠j:=h
theorem zT {i a b j c d e:Nat} (h:gq (.ptr i a b) (.sl j c d e)):i≠j:=h
theorem ql {o:Oper} {T:Env} {h h':aE} {v:V} {rd wr:List Nat} {call:Bool} {t:Nat} (st:c9 P n all o T h v h' rd wr call) (ha:nN o=some t) :
    call=false∧∀ id,id∈wr→(∃ i j,T t=.ptr id i j)∨∃ a b c,T t=.sl id a b c:=by
  unfold nN at ha
  split at ha
  · rename_i t' hs
    simp at ha; subst ha
    unfold jE at hs
    split at hs
    · rename_i ty t2 x ho hg
      simp at hs; subst hs
      cases st with
      | skip _=>exact ⟨rfl,fun id hid=>by simp at hid⟩
      | op _ hop =>
        simp only[bX,ho,o6] at hop
        split at hop
        · rename_i id i j hx
          split at hop
          · split at hop
            · simp only[Option.some.injEq,Prod.mk.injEq] at hop
              obtain ⟨_,he,_⟩:=hop
              rw[← he]
              refine ⟨rfl,fun id' hid=>?_⟩
              simp[bg.wr] at hid; subst hid
              exact .inl ⟨i,j,hx⟩
            · simp at hop
          · simp at hop
        · simp at hop
      | gY _ ho' _=>rw[ho] at ho'; simp at ho'
      | eO _ ho' _ _ _ _=>rw[ho] at ho'; simp at ho'
      | call _ ho' _ _ _ _ _=>rw[ho] at ho'; simp at ho'
    · simp at hs
  · unfold Jk at ha
    split at ha
    · rename_i args ats ho hg
      split at ha
      · rename_i t2 y hl
        simp at ha; subst ha
        cases st with
        | skip _=>exact ⟨rfl,fun id hid=>by simp at hid⟩
        | op _ hop =>
          simp only[bX,ho,hl] at hop
          split at hop
          · unfold lL at hop
            split at hop
            · split at hop
              · simp at hop
              · split at hop
                · split at hop <;> first | (simp only[Option.some.injEq,Prod.mk.injEq] at hop; obtain ⟨_,he,_⟩:=hop; rw[← he]; exact ⟨rfl,fun id' hid=>by simp[bg.wr] at hid⟩) | simp at hop
                · split at hop
                  · simp at hop
                  · split at hop
                    · split at hop
                      · simp only[Option.some.injEq,Prod.mk.injEq] at hop
                        obtain ⟨_,he,_⟩:=hop
                        rw[← he]; exact ⟨rfl,fun id' hid=>by simp[bg.wr] at hid⟩
                      · simp at hop
                    · rename_i id off len esz hx
                      split at hop
                      · split at hop
                        · simp only[Option.some.injEq,Prod.mk.injEq] at hop
                          obtain ⟨_,he,_⟩:=hop
                          rw[← he]
                          refine ⟨rfl,fun id' hid=>?_⟩
                          simp[bg.wr] at hid; subst hid
                          exact .inr ⟨off,len,esz,hx⟩
                        · simp at hop
                      · simp at hop
                    · simp at hop
            · simp at hop
          · split at hop
            · unfold qg at hop
              repeat' (split at hop)
              all_goals first | (simp only[Option.some.injEq,Prod.mk.injEq] at hop; obtain ⟨_,he,_⟩:=hop; rw[← he]; exact ⟨rfl,fun id' hid=>by simp[bg.wr] at hid⟩) | simp at hop
            · simp at hop
        | gY _ ho' _=>rw[ho] at ho'; simp at ho'
        | eO _ ho' _ _ _ _=>rw[ho] at ho'; simp at ho'
        | call _ ho' _ _ _ _ _=>rw[ho] at ho'; simp at ho'
      · simp at ha
    · simp at ha
theorem Kg {o:Oper} {T:Env} {h h':aE} {v:V} {rd wr:List Nat} {call:Bool} (st:c9 P n all o T h v h' rd wr call) (ha:Ep o=true):rd=[]∧wr=[]∧call=false:=by
  unfold Ep at ha
  cases st with
  | skip _=>exact ⟨rfl,rfl,rfl⟩
  | op _ hop =>
    split at ha
    · rename_i ty len parts ho
      simp only[bX,ho,fR] at hop
      have key:∀ {x:Option (V × bg × List Nat)} {e:bg},x=some (v,e,rd)→(∀ y,x=some y→y.2.1.wr=[]∧y.2.2=[])→rd=[]∧e.wr=[]:=fun hx hy=>⟨(hy _ hx).2,(hy _ hx).1⟩
      obtain ⟨k1,k2⟩:=key hop (by
        intro y hy
        repeat' (first | (split at hy) | (simp only[Option.some.injEq] at hy; subst hy; exact ⟨rfl,rfl⟩) | (simp at hy; done)))
      exact ⟨k1,k2,rfl⟩
    · rename_i e ho
      simp only[bX,ho] at hop
      split at hop
      · unfold km at hop
        split at hop
        · simp only[Option.some.injEq,Prod.mk.injEq] at hop
          obtain ⟨_,he,hr⟩:=hop
          rw[← he,← hr]; exact ⟨rfl,rfl,rfl⟩
        · simp at hop
      · simp at hop
    · simp at ha
  | gY _ ho _=>rw[ho] at ha; simp at ha
  | eO _ ho _ _ _ _=>rw[ho] at ha; simp at ha
  | call _ ho _ _ _ _ _=>rw[ho] at ha; simp at ha
theorem tA {o:Oper} {t:Nat} (h:jE o=some t):nN o=some t:=by unfold nN; rw[h]
theorem Ir {T T':Env} {h h':aE} {recs:List Rec} (tr:Tr P n all all T h recs T' h') {i k:Nat} {a b:Rec} {p:Nat × Nat} (hp:Af all i k=some p) (hA:gq (T' p.1) (T' p.2)) (ha:recs[i]?=some a) (hb:recs[k]?=some b):mb a b:=by
  unfold Af at hp
  split at hp
  · rename_i oa ob hoa hob
    split at hp
    · rename_i s t hl hs
      split at hp
      · rename_i hst
        simp only[Bool.and_eq_true] at hst
        simp at hp; subst hp
        obtain ⟨Ta,ha1,va,ha2,sa,la1,la2,ea⟩:=pk tr hoa hst.1 ha
        obtain ⟨Tb,hb1,vb,hb2,sb,_,_,eb⟩:=pk tr hob hst.2 hb
        obtain ⟨l1,l2,l3,l4⟩:=uW sa hl
        have hA:gq (Ta s) (Tb t):=by rw[ea,eb]; exact hA
        refine ⟨fun id hid=>by simp[l1] at hid,fun id hid hr=>?_,fun hc=>by simp[l2] at hc,fun _=>l1,fun id _ hx=>by omega⟩
        obtain ⟨i',j',e1⟩:=l4 id hr
        rw[e1] at hA
        rcases (ql sb (tA hs)).2 id hid with ⟨c,d,hy⟩ | ⟨c,d,e,hy⟩
        · rw[hy] at hA; exact xU hA rfl
        · rw[hy] at hA; exact zT hA rfl
      · simp at hp
    · split at hp
      · rename_i t s hs hl
        split at hp
        · rename_i hst
          simp only[Bool.and_eq_true] at hst
          simp at hp; subst hp
          obtain ⟨Ta,ha1,va,ha2,sa,la1,la2,ea⟩:=pk tr hoa hst.1 ha
          obtain ⟨Tb,hb1,vb,hb2,sb,lb1,lb2,eb⟩:=pk tr hob hst.2 hb
          obtain ⟨l1,l2,l3,l4⟩:=uW sb hl
          have hA:gq (Tb s) (Ta t):=by rw[ea,eb]; exact hA
          refine ⟨fun id hid hr=>?_,fun id hid=>by simp[l1] at hid,fun hc=>l1,fun hc=>by simp[l2] at hc,fun id hid=>by simp[l1] at hid⟩
          obtain ⟨i',j',e1⟩:=l4 id hr
          rw[e1] at hA
          rcases (ql sa (tA hs)).2 id hid with ⟨c,d,hy⟩ | ⟨c,d,e,hy⟩
          · rw[hy] at hA; exact xU hA rfl
          · rw[hy] at hA; exact zT hA rfl
        · simp at hp
      · simp at hp
  · simp at hp
theorem FN {T T':Env} {h h':aE} {recs:List Rec} (tr:Tr P n all all T h recs T' h') {i k:Nat} {a b:Rec} {p:Nat × Nat} (hp:AV all i k=some p) (hA:gq (T' p.1) (T' p.2)) (ha:recs[i]?=some a) (hb:recs[k]?=some b):mb a b:=by
  unfold AV at hp
  split at hp
  · rename_i oa ob hoa hob
    split at hp
    · rename_i s t hl hs
      split at hp
      · rename_i hst
        simp only[Bool.and_eq_true] at hst
        simp at hp; subst hp
        obtain ⟨Ta,ha1,va,ha2,sa,la1,la2,ea⟩:=pk tr hoa hst.1 ha
        obtain ⟨Tb,hb1,vb,hb2,sb,_,_,eb⟩:=pk tr hob hst.2 hb
        obtain ⟨l1,l2,l3,l4⟩:=uW sa hl
        have hA:gq (Ta s) (Tb t):=by rw[ea,eb]; exact hA
        refine ⟨fun id hid=>by simp[l1] at hid,fun id hid hr=>?_,fun hc=>by simp[l2] at hc,fun _=>l1,fun id _ hx=>by omega⟩
        obtain ⟨i',j',e1⟩:=l4 id hr
        rw[e1] at hA
        rcases (ql sb hs).2 id hid with ⟨c,d,hy⟩ | ⟨c,d,e,hy⟩
        · rw[hy] at hA; exact xU hA rfl
        · rw[hy] at hA; exact zT hA rfl
      · simp at hp
    · split at hp
      · rename_i t s hs hl
        split at hp
        · rename_i hst
          simp only[Bool.and_eq_true] at hst
          simp at hp; subst hp
          obtain ⟨Ta,ha1,va,ha2,sa,la1,la2,ea⟩:=pk tr hoa hst.1 ha
          obtain ⟨Tb,hb1,vb,hb2,sb,lb1,lb2,eb⟩:=pk tr hob hst.2 hb
          obtain ⟨l1,l2,l3,l4⟩:=uW sb hl
          have hA:gq (Tb s) (Ta t):=by rw[ea,eb]; exact hA
          refine ⟨fun id hid hr=>?_,fun id hid=>by simp[l1] at hid,fun hc=>l1,fun hc=>by simp[l2] at hc,fun id hid=>by simp[l1] at hid⟩
          obtain ⟨i',j',e1⟩:=l4 id hr
          rw[e1] at hA
          rcases (ql sa hs).2 id hid with ⟨c,d,hy⟩ | ⟨c,d,e,hy⟩
          · rw[hy] at hA; exact xU hA rfl
          · rw[hy] at hA; exact zT hA rfl
        · simp at hp
      · simp at hp
  · simp at hp
theorem Jv {l:List (Nat × Nat)} {aps:List (Nat × Nat)} (h:Aw all l=some aps):∀ q∈l,∃ p∈aps,Af all q.1 q.2=some p:=by
  induction l generalizing aps with
  | nil=>intro q hq; simp at hq
  | cons x r ih =>
    obtain ⟨i,k⟩:=x
    simp only[Aw] at h
    split at h
    · rename_i p l' h1 h2
      simp at h; subst h
      intro q hq
      rcases List.mem_cons.1 hq with rfl | hq
      · exact ⟨p,by simp,h1⟩
      · obtain ⟨p',hp',e⟩:=ih h2 q hq
        exact ⟨p',by simp[hp'],e⟩
    · simp at h
theorem Hg {l:List (Nat × Nat)} {aps:List (Nat × Nat)} (h:tS all l=some aps):∀ q∈l,∃ ps,(∀ p∈ps,p∈aps)∧xL all q.1 q.2=some ps:=by
  induction l generalizing aps with
  | nil=>intro q hq; simp at hq
  | cons x r ih =>
    obtain ⟨i,k⟩:=x
    simp only[tS] at h
    split at h
    · rename_i p l' h1 h2
      simp at h; subst h
      intro q hq
      rcases List.mem_cons.1 hq with rfl | hq
      · exact ⟨p,fun x hx=>by simp[hx],h1⟩
      · obtain ⟨p',hp',e⟩:=ih h2 q hq
        exact ⟨p',fun x hx=>by simp[hp' x hx],e⟩
    · simp at h
theorem Iq {H:View} {x:V} {xs:List (List V)} {rd:List Nat} (h:cb H x=some (xs,rd)):∀ id,id∈rd→∃ a b c,x=.sl id a b c:=by
  unfold cb at h
  split at h
  · simp at h; obtain ⟨_,rfl⟩:=h; intro id hid; simp at hid
  · simp at h; obtain ⟨_,rfl⟩:=h; intro id hid; simp at hid
  · simp at h; obtain ⟨_,rfl⟩:=h; intro id hid; simp at hid
  · simp at h; obtain ⟨_,rfl⟩:=h; intro id hid; simp at hid
  · split at h
    · split at h
      · simp at h
        obtain ⟨_,rfl⟩:=h
        intro id hid
        simp at hid; subst hid
        exact ⟨_,_,_,rfl⟩
      · simp at h
    · simp at h
  · simp at h; obtain ⟨_,rfl⟩:=h; intro id hid; simp at hid
  · simp at h
theorem DQ {o:Oper} {T:Env} {h h':aE} {v:V} {rd wr:List Nat} {call:Bool} {t y d:Nat} (st:c9 P n all o T h v h' rd wr call) (ha:xO o=some (t,y,d)) :
    call=false∧(∀ id,id∈wr→∃ a b c,T t=.sl id a b c)∧(∀ id,id∈rd→(∃ a b c,T t=.sl id a b c)∨∃ a b c,T y=.sl id a b c)∧(h.length < h'.length→∃ a b c,v=.sl h.length a b c)∧h'.length≤h.length+1∧o.dst=some d:=by
  unfold xO at ha
  split at ha
  · rename_i args ats d' ho hg hd
    split at ha
    · rename_i t2 y2 hl
      simp at ha
      obtain ⟨rfl,rfl,rfl⟩:=ha
      cases st with
      | skip _=>exact ⟨rfl,fun id hid=>by simp at hid,fun id hid=>by simp at hid,fun h=>by omega,by omega,hd⟩
      | op _ hop =>
        simp only[bX,ho,hl] at hop
        have nn:∀ {v':V} {eff':bg} {rd':List Nat},some (v',bg.none,([]:List Nat))=some (v,eff',rd')→false=false∧(∀ id,id∈eff'.wr→∃ a b c,T t2=.sl id a b c)∧(∀ id,id∈rd'→(∃ a b c,T t2=.sl id a b c)∨∃ a b c,T y2=.sl id a b c)∧(h.length < (eff'.apply h).length→∃ a b c,v=.sl h.length a b c)∧(eff'.apply h).length≤h.length+1∧o.dst=some d':=by
          intro v' eff' rd' e
          simp only[Option.some.injEq,Prod.mk.injEq] at e
          obtain ⟨_,rfl,rfl⟩:=e
          exact ⟨rfl,fun id hid=>by simp[bg.wr] at hid,fun id hid=>by simp at hid,fun h=>by simp[bg.apply] at h,by simp[bg.apply],hd⟩
        split at hop
        · unfold lL at hop
          split at hop
          · rename_i e xs rd' _ hel
            have hrd:=Iq hel
            split at hop
            · simp at hop
            · split at hop
              · split at hop <;> first | exact nn hop | simp at hop
              · split at hop
                · simp at hop
                · split at hop
                  · split at hop
                    · simp only[Option.some.injEq,Prod.mk.injEq] at hop
                      obtain ⟨rfl,rfl,rfl⟩:=hop
                      exact ⟨rfl,fun id hid=>by simp[bg.wr] at hid,fun id hid=>.inr (hrd id hid),fun _=>⟨_,_,_,rfl⟩,by simp[bg.apply],hd⟩
                    · simp at hop
                  · rename_i id off len esz hx
                    split at hop
                    · split at hop
                      · simp only[Option.some.injEq,Prod.mk.injEq] at hop
                        obtain ⟨rfl,rfl,rfl⟩:=hop
                        refine ⟨rfl,fun id' hid=>?_,fun id' hid=>?_,fun _=>⟨_,_,_,rfl⟩,by simp[bg.apply],hd⟩
                        · simp[bg.wr] at hid; subst hid
                          exact ⟨off,len,esz,hx⟩
                        · rcases List.mem_cons.1 hid with rfl | hid
                          · exact .inl ⟨off,len,esz,hx⟩
                          · exact .inr (hrd id' hid)
                      · simp at hop
                    · simp at hop
                  · simp at hop
          · simp at hop
        · split at hop
          · unfold qg at hop
            split at hop
            · split at hop
              · split at hop
                · exact nn hop
                · split at hop
                  · simp only[Option.some.injEq,Prod.mk.injEq] at hop
                    obtain ⟨rfl,rfl,rfl⟩:=hop
                    exact ⟨rfl,fun id hid=>by simp[bg.wr] at hid,fun id hid=>by simp at hid,fun _=>⟨_,_,_,rfl⟩,by simp[bg.apply],hd⟩
                  · simp at hop
              · simp at hop
            · simp at hop
          · simp at hop
      | gY _ ho' _=>rw[ho] at ho'; simp at ho'
      | eO _ ho' _ _ _ _=>rw[ho] at ho'; simp at ho'
      | call _ ho' _ _ _ _ _=>rw[ho] at ho'; simp at ho'
    · simp at ha
  · simp at ha
theorem Jy {T T':Env} {h h':aE} {recs:List Rec} (tr:Tr P n all all T h recs T' h') {i:Nat} {o:Oper} (ho:all[i]?=some o) {r:Rec} (hr:recs[i]?=some r) :
    ∃ T1 h1 v h2,c9 P n all o T1 h1 v h2 r.rd r.wr r.call∧r.lo=h1.length∧r.hi=h2.length∧(∀ t,stays all i t=true→T1 t=T' t)∧∀ d,o.dst=some d→stays all (i+1) d=true→T' d=v:=by
  obtain ⟨T1,h1,v,h2,rd,wr,call,recs2,e1,e2,e3,e4,e5,e6⟩:=tr.at_ i o ho
  rw[hr] at e1
  have e1:=Option.some.inj e1
  subst e1
  refine ⟨T1,h1,v,h2,e2,rfl,rfl,fun t hs=>?_,fun d hd hs=>?_⟩
  · have hk:=uX hs
    have hi:i < all.length:=(List.getElem?_eq_some_iff.1 ho).1
    have ho':all[i]=o:=(List.getElem?_eq_some_iff.1 ho).2
    rw[List.drop_eq_getElem_cons hi,ho'] at hk
    rw[e4.keep fun o' ho'=>hk o' (by simp[ho'])]
    have:=hk o (by simp)
    cases hdst:o.dst with
    | none=>rfl
    | some d=>simp only[Env.put]; rw[if_neg]; rintro rfl; exact this hdst
  · rw[e4.keep (uX hs),hd]
    simp[Env.put]
theorem xw {i a b c j d e f:Nat} (h:gq (.sl i a b c) (.sl j d e f)):i≠j:=h
theorem FR {T T':Env} {h h':aE} {recs:List Rec} (tr:Tr P n all all T h recs T' h') {i k:Nat} {a b:Rec} {ps:List (Nat × Nat)} (hp:Be all i k=some ps) (hA:∀ p∈ps,gq (T' p.1) (T' p.2)) (ha:recs[i]?=some a) (hb:recs[k]?=some b):mb a b:=by
  unfold Be at hp
  split at hp
  · rename_i oa ob hoa hob
    split at hp
    · rename_i t y d t' y' d' h1 h2
      split at hp
      · rename_i hst
        simp only[Bool.and_eq_true] at hst
        obtain ⟨⟨⟨⟨s1,s2⟩,s3⟩,s4⟩,s5⟩:=hst
        simp at hp; subst hp
        have a1:=hA (t,t') (by simp)
        have a2:=hA (t,y') (by simp)
        have a3:=hA (t',y) (by simp)
        have a4:=hA (d,t') (by simp)
        simp only at a1 a2 a3 a4
        obtain ⟨Ta,ha1,va,ha2,sa,la1,la2,ea,da⟩:=Jy tr hoa ha
        obtain ⟨Tb,hb1,vb,hb2,sb,_,_,eb,_⟩:=Jy tr hob hb
        obtain ⟨p1,p2,p3,p4,p5,p6⟩:=DQ sa h1
        obtain ⟨q1,q2,q3,_⟩:=DQ sb h2
        have da:=da d p6 s3
        rw[← ea t s1,← eb t' s4] at a1
        rw[← ea t s1,← eb y' s5] at a2
        rw[← eb t' s4,← ea y s2] at a3
        rw[da,← eb t' s4] at a4
        refine ⟨fun id hid hr=>?_,fun id hid hr=>?_,fun hc=>by rw[p1] at hc; simp at hc,fun hc=>by rw[q1] at hc; simp at hc,fun id hid hx=>?_⟩
        · obtain ⟨_,_,_,e⟩:=p2 id hid
          rcases q3 id hr with ⟨_,_,_,e'⟩ | ⟨_,_,_,e'⟩
          · rw[e,e'] at a1; exact xw a1 rfl
          · rw[e,e'] at a2; exact xw a2 rfl
        · obtain ⟨_,_,_,e⟩:=q2 id hid
          rcases p3 id hr with ⟨_,_,_,e'⟩ | ⟨_,_,_,e'⟩
          · rw[e',e] at a1; exact xw a1 rfl
          · rw[e,e'] at a3; exact xw a3 rfl
        · obtain ⟨_,_,_,e⟩:=q2 id hid
          obtain ⟨_,_,_,e'⟩:=p4 (by omega)
          have:id=ha1.length:=by omega
          subst this
          rw[e,e'] at a4; exact xw a4 rfl
      · simp at hp
    · simp at hp
  · simp at hp
theorem FW {T T':Env} {h h':aE} {recs:List Rec} (tr:Tr P n all all T h recs T' h') {i k:Nat} {a b:Rec} {ps:List (Nat × Nat)} (hp:xL all i k=some ps) (hA:∀ p∈ps,gq (T' p.1) (T' p.2)) (ha:recs[i]?=some a) (hb:recs[k]?=some b):mb a b:=by
  unfold xL at hp
  split at hp
  · rename_i p h1
    simp at hp; subst hp
    exact FN tr h1 (hA p (by simp)) ha hb
  · exact FR tr hp hA ha hb
theorem Kr {ls:List Nat} {recs:List Rec} {T T':Env} {hp hp':aE} {aps:List (Nat × Nat)} (tr:Tr P n all all T hp recs T' hp') (h:Aw all (jr all ls)=some aps) (hA:∀ p∈aps,gq (T' p.1) (T' p.2)) (hl:ls.length=recs.length)
    (hr:∀ (i x:Nat) (r:Rec),ls[i]?=some x→recs[i]?=some r→jy x r.rd r.wr r.call r.lo r.hi):su all recs:=by
  intro i k a b hik ha hb ho
  have hi:i < recs.length:=(List.getElem?_eq_some_iff.1 ha).1
  have hk:k < recs.length:=(List.getElem?_eq_some_iff.1 hb).1
  have la:=hr i _ a (List.getElem?_eq_getElem (by omega)) ha
  have lb:=hr k _ b (List.getElem?_eq_getElem (by omega)) hb
  have mi:(ls[i]'(by omega),i)∈ls.zipIdx:=by rw[List.mem_zipIdx_iff_getElem?]; simp[List.getElem?_eq_getElem (show i < ls.length by omega)]
  have mk:(ls[k]'(by omega),k)∈ls.zipIdx:=by rw[List.mem_zipIdx_iff_getElem?]; simp[List.getElem?_eq_getElem (show k < ls.length by omega)]
  by_cases h1:wC all (ls[i]'(by omega)) i (ls[k]'(by omega)) k=true
  · unfold wC at h1
    simp only[hik,decide_true,Bool.not_true,ho,Bool.false_or,Bool.or_eq_true,beq_iff_eq,Bool.and_eq_true,decide_eq_true_eq] at h1
    rcases h1 with ((h1 | h1) | h1) | h1
    · obtain ⟨e1,e2,e3,e4⟩:=la.1 h1
      exact ⟨fun id hid=>by simp[e2] at hid,fun id _=>by simp[e1],fun hc=>by simp[e3] at hc,fun _=>e2,fun id _ hx=>by omega⟩
    · obtain ⟨e1,e2,e3,e4⟩:=lb.1 h1
      exact ⟨fun id _=>by simp[e1],fun id hid=>by simp[e2] at hid,fun _=>e2,fun hc=>by simp[e3] at hc,fun id hid=>by simp[e2] at hid⟩
    · have e1:=la.2 h1.1
      have e2:=lb.2 h1.2
      exact ⟨fun id hid=>by simp[e1] at hid,fun id hid=>by simp[e2] at hid,fun _=>e2,fun _=>e1,fun id hid=>by simp[e2] at hid⟩
    · exact uA tr h1 ha hb
  · have hm:(i,k)∈jr all ls:=by
      unfold jr
      rw[List.mem_flatMap]
      refine ⟨_,mi,?_⟩
      rw[List.mem_filterMap]
      exact ⟨_,mk,by simp only; rw[if_neg h1]⟩
    obtain ⟨p,hp,e⟩:=Jv h (i,k) hm
    exact Ir tr e (hA p hp) ha hb
theorem B0 {P:Program} {t:TypeId} {id:Nat} {q:V} {ok:Bool} {H1 H2:View} (h:H1 id=H2 id):eN P t (.mp id) q ok H1=eN P t (.mp id) q ok H2:=by
  unfold eN
  simp only[h]
theorem GW {P:Program} {t:TypeId} {id:Nat} {q:V} {H1 H2:View} (h:H1 id=H2 id):dY P t (.mp id) q H1=dY P t (.mp id) q H2:=by
  cases hm:eM P t with
  | none=>simp only[dY,hm]
  | some x=>simp only[dY,hm,h]
theorem JU {P:Program} {t:TypeId} {id:Nat} {q:V} {H:View} {v:V} {aC:bg} {rd:List Nat} (h:eN P t (.mp id) q false H=some (v,aC,rd)):aC=.none∧rd=[id]:=by
  simp only[eN,Bool.false_eq_true,if_false] at h
  repeat' (first | (simp only[Option.some.injEq,Prod.mk.injEq] at h; exact ⟨h.2.1.symm,h.2.2.symm⟩) | (split at h) | (simp at h; done))
theorem IN {P:Program} {t:TypeId} {id:Nat} {q:V} {H:View} {v:V} {aC:bg} {rd:List Nat} (h:dY P t (.mp id) q H=some (v,aC,rd)):∃ obj,aC=.fC id obj:=by
  cases hm:eM P t with
  | none=>simp[dY,hm] at h
  | some x =>
    simp only[dY,hm] at h
    repeat' (first | (simp only[Option.some.injEq,Prod.mk.injEq] at h; exact ⟨_,h.2.1.symm⟩) | (split at h) | (simp at h; done))
theorem DU {o:Oper} {T:Env} {h h':aE} {v:V} {rd wr:List Nat} {call:Bool} (st:c9 P n all o T h v h' rd wr call) (hg:cQ n all T o=some true) (hb:∀ e x,o.op≠.box e x) (hc:∀ s d x,o.op≠.convert s d x) (hl:∀ c,o.op≠.call c) :
    ∃ aC,bX P o T h.view h.length=some (v,aC,rd)∧h'=aC.apply h∧wr=aC.wr∧call=false:=by
  cases st with
  | skip hs=>rw[hg] at hs; simp at hs
  | op _ hop=>exact ⟨_,hop,rfl,rfl,rfl⟩
  | gY _ ho _=>exact absurd ho (hb _ _)
  | eO _ ho _ _ _ _=>exact absurd ho (hc _ _ _)
  | call _ ho _ _ _ _ _=>exact absurd ho (hl _)
theorem NT {recs:List Rec} {Ts:Nat→Env} {hs:Nat→aE} {vs:Nat→V} (hst:yT P n all recs Ts hs vs) (hl:recs.length=all.length) {k:Nat} (hk:k≤all.length) (hw:∀ j r,j < k→recs[j]?=some r→r.wr=[]) :
    ∀ j,j≤k→(hs 0).length≤(hs j).length∧∀ id,id < (hs 0).length→(hs j).view id=(hs 0).view id:=by
  intro j
  induction j with
  | zero=>intro _; exact ⟨Nat.le_refl _,fun _ _=>rfl⟩
  | succ j ih =>
    intro hj
    obtain ⟨l1,l2⟩:=ih (by omega)
    obtain ⟨st,_,_,_,_⟩:=hst j all[j] (recs[j]'(by omega)) (List.getElem?_eq_getElem (by omega)) (List.getElem?_eq_getElem (by omega))
    refine ⟨Nat.le_trans l1 (r7 st),fun id hid=>?_⟩
    rw[qk st (Nat.lt_of_lt_of_le hid l1) (by rw[hw j _ (by omega) (List.getElem?_eq_getElem (by omega))]; simp)]
    exact l2 id hid
theorem ow {recs:List Rec} {Ts:Nat→Env} {hs:Nat→aE} {vs:Nat→V} (hst:yT P n all recs Ts hs vs) (hl:recs.length=all.length) {i t:Nat} (h:stays all i t=true):∀ j,i≤j→j≤all.length→Ts j t=Ts i t:=by
  intro j hij hj
  refine xM (vs:=vs) (N:=all.length) (fun k o hk=>?_) rfl i j hij hj fun k o h1 h2 h3=>uX h o (by
    rw[List.mem_iff_getElem?]
    exact ⟨k - i,by rw[List.getElem?_drop,show i+(k - i)=k by omega]; exact h3⟩)
  have hk':k < all.length:=(List.getElem?_eq_some_iff.1 hk).1
  exact (hst k o (recs[k]'(by omega)) hk (List.getElem?_eq_getElem (by omega))).2.2.1
theorem C7 {ls:List Nat} {recs:List Rec} {T T':Env} {hp hp':aE} {aps:List (Nat × Nat)} {tp:Option (Nat × Nat)} (tr:Tr P n all all T hp recs T' hp') (h:tS all (C0 all ls tp)=some aps) (hA:∀ p∈aps,gq (T' p.1) (T' p.2)) (hl:ls.length=recs.length)
    (hr:∀ (i x:Nat) (r:Rec),ls[i]?=some x→recs[i]?=some r→jy x r.rd r.wr r.call r.lo r.hi) (htol:∀ p,tp=some p→∃ tol,CX all ls p.1 p.2=some tol∧Gr P tol.1 (T' tol.2.1) (T' tol.2.2) hp.view):FT P n all recs T T' hp:=by
  have main:∀ i k a b,i < k→recs[i]?=some a→recs[k]?=some b→ordered (ew all []) i k=false→tp≠some (i,k)→mb a b:=by
    intro i k a b hik ha hb ho hne
    have hi:i < recs.length:=(List.getElem?_eq_some_iff.1 ha).1
    have hk:k < recs.length:=(List.getElem?_eq_some_iff.1 hb).1
    have la:=hr i _ a (List.getElem?_eq_getElem (by omega)) ha
    have lb:=hr k _ b (List.getElem?_eq_getElem (by omega)) hb
    have mi:(ls[i]'(by omega),i)∈ls.zipIdx:=by rw[List.mem_zipIdx_iff_getElem?]; simp[List.getElem?_eq_getElem (show i < ls.length by omega)]
    have mk:(ls[k]'(by omega),k)∈ls.zipIdx:=by rw[List.mem_zipIdx_iff_getElem?]; simp[List.getElem?_eq_getElem (show k < ls.length by omega)]
    by_cases h1:wC all (ls[i]'(by omega)) i (ls[k]'(by omega)) k=true
    · unfold wC at h1
      simp only[hik,decide_true,Bool.not_true,ho,Bool.false_or,Bool.or_eq_true,beq_iff_eq,Bool.and_eq_true,decide_eq_true_eq] at h1
      rcases h1 with ((h1 | h1) | h1) | h1
      · obtain ⟨e1,e2,e3,e4⟩:=la.1 h1
        exact ⟨fun id hid=>by simp[e2] at hid,fun id _=>by simp[e1],fun hc=>by simp[e3] at hc,fun _=>e2,fun id _ hx=>by omega⟩
      · obtain ⟨e1,e2,e3,e4⟩:=lb.1 h1
        exact ⟨fun id _=>by simp[e1],fun id hid=>by simp[e2] at hid,fun _=>e2,fun hc=>by simp[e3] at hc,fun id hid=>by simp[e2] at hid⟩
      · have e1:=la.2 h1.1
        have e2:=lb.2 h1.2
        exact ⟨fun id hid=>by simp[e1] at hid,fun id hid=>by simp[e2] at hid,fun _=>e2,fun _=>e1,fun id hid=>by simp[e2] at hid⟩
      · exact uA tr h1 ha hb
    · have hm:(i,k)∈jr all ls:=by
        unfold jr
        rw[List.mem_flatMap]
        refine ⟨_,mi,?_⟩
        rw[List.mem_filterMap]
        exact ⟨_,mk,by simp only; rw[if_neg h1]⟩
      by_cases hn:newAt all k=true
      · unfold newAt at hn
        split at hn
        · rename_i ob hob
          obtain ⟨T1,h1',v,h2,rd,wr,call,recs2,e1,e2,_⟩:=tr.at_ k ob hob
          rw[hb] at e1
          have e1:=Option.some.inj e1
          subst e1
          obtain ⟨n1,n2,n3⟩:=Kg e2 hn
          exact ⟨fun id _=>by simp[n1],fun id hid=>by simp[n2] at hid,fun _=>n2,fun hc=>by simp[n3] at hc,fun id hid=>by simp[n2] at hid⟩
        · simp at hn
      · obtain ⟨p,hp,e⟩:=Hg h (i,k) (by
          unfold C0
          rw[List.mem_filter]
          refine ⟨hm,?_⟩
          simp only[Bool.and_eq_true,Bool.not_eq_true',bne_iff_ne,ne_eq]
          exact ⟨by simpa using hn,hne⟩)
        exact FW tr e (fun q hq=>hA q (hp q hq)) ha hb
  cases tp with
  | none=>exact su.PX fun i k a b h1 h2 h3 h4=>main i k a b h1 h2 h3 h4 (by simp)
  | some p =>
    obtain ⟨i0,k0⟩:=p
    obtain ⟨tol,hto,htv⟩:=htol _ rfl
    intro Ts hs vs eT0 eh0 eTN hrl hst i
    by_cases hi:i=i0
    · subst hi
      refine ⟨some k0,fun k a b h1 h2 h3 h4 h5=>main i k a b h1 h2 h3 h4 (fun e=>h5 (by simp at e; rw[e])),fun k a b o hk ha hb ho=>?_⟩
      simp at hk; subst hk
      unfold CX at hto
      simp only at hto
      split at hto
      · rename_i oa ob hoa hob
        rw[ho] at hoa
        have hoa:=Option.some.inj hoa
        subst hoa
        split at hto
        · rename_i t m q t' m' q' hop1 hop2 hg1 hg2
          split at hto
          · rename_i hcond
            simp only[Bool.and_eq_true,beq_iff_eq,decide_eq_true_eq,List.all_eq_true,List.mem_range] at hcond
            obtain ⟨⟨⟨⟨⟨⟨⟨⟨rfl,rfl⟩,rfl⟩,s1⟩,s2⟩,s3⟩,s4⟩,hik⟩,hloud⟩:=hcond
            simp only[Option.some.injEq] at hto
            subst hto
            simp only at htv
            have hkl:k0 < all.length:=(List.getElem?_eq_some_iff.1 hob).1
            have hwr:∀ j r,j < k0→recs[j]?=some r→r.wr=[]:=fun j r hj hrj=>by
              have h1:=hloud j hj
              have hj':j < ls.length:=by omega
              rw[List.getD_eq_getElem?_getD,List.getElem?_eq_getElem hj'] at h1
              exact (hr j _ r (List.getElem?_eq_getElem hj') hrj).2 h1
            have hsame:=NT hst hrl (Nat.le_of_lt hkl) hwr
            have em:∀ j,i≤j→j≤all.length→Ts j m=T' m:=fun j h1 h2=>by
              rw[← eTN,ow hst hrl s1 j h1 h2,ow hst hrl s1 all.length (by omega) (Nat.le_refl _)]
            have eq:∀ j,i≤j→j≤all.length→Ts j q=T' q:=fun j h1 h2=>by
              rw[← eTN,ow hst hrl s2 j h1 h2,ow hst hrl s2 all.length (by omega) (Nat.le_refl _)]
            obtain ⟨sti,_,_,hlo,hhi⟩:=hst i o a ho ha
            obtain ⟨stk,_,_,_,_⟩:=hst k0 ob b hob hb
            have gi:cQ n all (Ts i) o=some true:=by unfold cQ; rw[hg1]
            have gk:cQ n all (Ts k0) ob=some true:=by unfold cQ; rw[hg2]
            unfold Gr at htv
            split at htv
            · rename_i id hid
              obtain ⟨⟨es0,c0,hmap⟩,htv⟩:=htv
              have hidl:id < hp.length:=iT (by rw[hmap]; simp)
              have hvk:(hs k0).view id=hp.view id:=by rw[(hsame k0 (Nat.le_refl _)).2 id (by rw[eh0]; exact hidl),eh0]
              have hvi:(hs i).view id=hp.view id:=by rw[(hsame i (Nat.le_of_lt hik)).2 id (by rw[eh0]; exact hidl),eh0]
              obtain ⟨effi,hopi,hi',wri,cai⟩:=DU sti gi (by rw[hop1]; simp) (by rw[hop1]; simp) (by rw[hop1]; simp)
              obtain ⟨effk,hopk,hk',wrk,cak⟩:=DU stk gk (by rw[hop2]; simp) (by rw[hop2]; simp) (by rw[hop2]; simp)
              simp only[bX,hop1] at hopi
              simp only[bX,hop2] at hopk
              have e1:ev (Ts i) (.tmp m)=.mp id:=(em i (Nat.le_refl _) (by omega)).trans hid
              have e2:ev (Ts i) (.tmp q)=T' q:=eq i (Nat.le_refl _) (by omega)
              have e3:ev (Ts k0) (.tmp m)=.mp id:=(em k0 (by omega) (by omega)).trans hid
              have e4:ev (Ts k0) (.tmp q)=T' q:=eq k0 (by omega) (by omega)
              rw[e1,e2] at hopi
              rw[e3,e4,GW hvk] at hopk
              obtain ⟨l1,l2⟩:=JU hopi
              obtain ⟨obj,l3⟩:=IN hopk
              subst l1 l3
              have hkb:(hs (k0+1)).view id=obj:=by
                rw[hk',j6 (fun id' hid'=>by
                  simp only[bg.wr,List.mem_singleton] at hid'
                  subst hid'
                  rw[hvk,hmap]; simp)]
                simp[bg.view,View.set]
              refine ⟨hik,wri,cai,by rw[hlo,hhi,hi']; rfl,fun g hg hgv=>?_⟩
              have hidi:id < (hs i).length:=iT (by rw[hvi,hmap]; simp)
              have hgid:g.view id=(hp.view.set id obj) id:=by
                rw[hgv id hidi,wrk,if_pos (by simp[bg.wr]),hkb]
                simp[View.set]
              have hlk:=htv _ _ _ hopk
              have hfin:bX P o (Ts i) g.view g.length=some (vs i,.none,a.rd):=by
                simp only[bX,hop1]
                rw[e1,e2,B0 hgid,hlk,← B0 hvi]
                exact hopi
              exact .op gi hfin
            · exact htv.elim
          · simp at hto
        · simp at hto
      · simp at hto
    · exact ⟨none,fun k a b h1 h2 h3 h4 _=>main i k a b h1 h2 h3 h4 (fun e=>hi (by simp at e; exact e.1.symm)),fun k a b o h1=>by simp at h1⟩
theorem KM (hm:P.follows .mixedOrders=true) {fz:Fz} {id:Nat} {ops:Array Oper} {sc:SC} {T:Env} {h:aE} {Q:Exit→Env→View→Prop} (hc:z7 P n fz ops.toList=some sc) (hw:wS P sc T h.view Q) :
    ∃ e T' h',cA P n (.region id ops true) T h e T' h'∧(gF h h'∧h.length≤h'.length)∧Q e T' h'.view:=by
  unfold z7 at hc
  split at hc
  · simp at hc
  · rename_i l hl
    split at hc
    · simp at hc
    · rename_i hok
      have hok:(group l).all rO=true:=by simpa using hok
      have hl':cZ P n ops.toList fz ops.toList=some (ja (group l)):=by rw[eY]; exact hl
      split at hc
      · rename_i ht
        simp only[Option.map_eq_some_iff] at hc
        obtain ⟨aps,hap,rfl⟩:=hc
        obtain ⟨recs,T',h',tr,hst,hk,hro⟩:=xk (group l) ops.toList T h hl' hok hw
        rw[eY] at hro
        refine ⟨.normal,T',h',?_,hst,hk.rest⟩
        have hcf:su ops.toList recs:=Kr tr hap (yZ hk) (by simpa using hro.1) (fun i x r hx hr=>by
          simp only[List.getElem?_map,Option.map_eq_some_iff] at hx
          obtain ⟨s,hs,rfl⟩:=hx
          exact hro.2 i s r hs hr)
        simpa using vU hm (id:=id) tr ht hcf
      · simp at hc
theorem K6 (hm:P.follows .mixedOrders=true) {fz:Fz} {id:Nat} {ops:Array Oper} {sc:SC} {T:Env} {h:aE} {Q:Exit→Env→View→Prop} (hc:zC P n fz ops.toList=some sc) (hw:wS P sc T h.view Q) :
    ∃ e T' h',cA P n (.region id ops true) T h e T' h'∧(gF h h'∧h.length≤h'.length)∧Q e T' h'.view:=by
  unfold zC at hc
  split at hc
  · simp at hc
  · rename_i l hl
    split at hc
    · simp at hc
    · rename_i hok
      have hok:(group l).all rO=true:=by simpa using hok
      have hl':cZ P n ops.toList fz ops.toList=some (ja (group l)):=by rw[eY]; exact hl
      split at hc
      · rename_i ht
        split at hc
        · simp only[Option.map_eq_some_iff] at hc
          obtain ⟨aps,hap,rfl⟩:=hc
          obtain ⟨recs,T',h',tr,hst,hk,hro⟩:=xk (group l) ops.toList T h hl' hok hw
          rw[eY] at hro
          refine ⟨.normal,T',h',?_,hst,hk.rest⟩
          have hcf:=C7 tr hap (yZ hk) (by simpa using hro.1) (fun i x r hx hr=>by
            simp only[List.getElem?_map,Option.map_eq_some_iff] at hx
            obtain ⟨s,hs,rfl⟩:=hx
            exact hro.2 i s r hs hr) (fun p hp=>by simp at hp)
          simpa using uQ hm (id:=id) tr ht hcf
        · rename_i p hp
          split at hc
          · rename_i tol hto
            simp only[Option.map_eq_some_iff] at hc
            obtain ⟨aps,hap,rfl⟩:=hc
            obtain ⟨recs,T',h',tr,hst,hk,hro⟩:=xk (group l) ops.toList T h hl' hok hw
            rw[eY] at hro
            refine ⟨.normal,T',h',?_,hst,hk.2.rest⟩
            have hcf:=C7 tr hap (yZ hk.2) (by simpa using hro.1) (fun i x r hx hr=>by
              simp only[List.getElem?_map,Option.map_eq_some_iff] at hx
              obtain ⟨s,hs,rfl⟩:=hx
              exact hro.2 i s r hs hr) (fun p' hp'=>by
                simp only[Option.some.injEq] at hp'
                subst hp'
                exact ⟨tol,hto,hk.1⟩)
            simpa using uQ hm (id:=id) tr ht hcf
          · simp at hc
      · simp at hc
theorem vc (hm:P.follows .mixedOrders=true) {fz:Fz} {id:Nat} {ops:Array Oper} {draw quiet:Bool} {sc:SC} {T:Env} {h:aE} {Q:Exit→Env→View→Prop} (hc:rF P n fz ops.toList draw quiet=some sc) (hw:wS P sc T h.view Q) :
    ∃ e T' h',cA P n (.region id ops draw) T h e T' h'∧(gF h h'∧h.length≤h'.length)∧Q e T' h'.view:=by
  unfold rF at hc
  split at hc
  · simp at hc
  · rename_i l hl
    split at hc
    · simp at hc
    · rename_i hok
      have hok:(group l).all rO=true:=by simpa using hok
      have hl':cZ P n ops.toList fz ops.toList=some (ja (group l)):=by rw[eY]; exact hl
      have key:vg P quiet (group l) T h.view (Q .normal)→(draw=true→kJ ops.toList=true∧CT ops.toList (l.map fun s=>gT P quiet s.b)=true) →
          ∃ e T' h',cA P n (.region id ops draw) T h e T' h'∧(gF h h'∧h.length≤h'.length)∧Q e T' h'.view:=by
        intro hw hdr
        obtain ⟨recs,T',h',tr,hst,hk,hro⟩:=xk (group l) ops.toList T h hl' hok hw
        rw[eY] at hro
        refine ⟨.normal,T',h',?_,hst,hk⟩
        cases hd:draw with
        | false=>simpa using Dh (id:=id) tr
        | true =>
          obtain ⟨h1,h2⟩:=hdr hd
          have hcf:su ops.toList recs:=KV tr h2 (by simpa using hro.1) (fun i x r hx hr=>by
            simp only[List.getElem?_map,Option.map_eq_some_iff] at hx
            obtain ⟨s,hs,rfl⟩:=hx
            exact hro.2 i s r hs hr)
          simpa using vU hm (id:=id) tr h1 hcf
      split at hc
      · rename_i hd
        split at hc
        · rename_i ht
          simp at hc; subst hc
          exact key hw (fun _=>by simpa using ht)
        · simp at hc
      · rename_i hd
        simp at hc; subst hc
        exact key hw (fun e=>absurd e hd)
theorem eT {a b:Option SC} {sc:SC} (h:orElse' a b=some sc):a=some sc∨b=some sc:=by
  cases a with
  | none=>exact .inr h
  | some x=>exact .inl h
theorem Hr (hm:P.follows .mixedOrders=true) {fz:List Nat} {id:Nat} {ops:Array Oper} {draw:Bool} {sc:SC} {T:Env} {h:aE} {Q:Exit→Env→View→Prop} (hc:z6 P n fz ops.toList draw=some sc) (hw:wS P sc T h.view Q) :
    ∃ e T' h',cA P n (.region id ops draw) T h e T' h'∧(gF h h'∧h.length≤h'.length)∧Q e T' h'.view:=by
  unfold z6 at hc
  rcases eT hc with h1 | h1
  · exact vc hm h1 hw
  · clear hc
    split at h1
    · rename_i hd
      subst hd
      rcases eT h1 with h0 | h1
      · split at h0
        · exact K6 hm h0 hw
        · simp at h0
      rcases eT h1 with h2 | h2
      · exact KM hm h2 hw
      · rcases eT h2 with h3 | h3
        · exact vc hm h3 hw
        · rcases eT h3 with h4 | h4
          · exact vc hm h4 hw
          · exact vc hm h4 hw
    · simp at h1
theorem CE {e:Exit} {a b:Prop} (h:x3 e a b):(e=.normal∧a)∨(e≠.normal∧b):=by
  cases e with
  | normal=>exact .inl ⟨rfl,h⟩
  | _=>exact .inr ⟨by simp,h⟩
def qd (P:Program) (n:Nat) (fz:List Nat) (c:Code):Prop:=∀ sc:SC,cJ P n fz c=some sc→∀ (T:Env) (h:aE) (Q:Exit→Env→View→Prop),wS P sc T h.view Q →
    ∃ e T' h',cA P n c T h e T' h'∧(gF h h'∧h.length≤h'.length)∧Q e T' h'.view
theorem BO {fz:List Nat} : qd P n fz .skip:=by
  intro sc hc T h Q hw; simp[cJ] at hc; subst hc; exact ⟨_,T,h,.skip,⟨.refl _,Nat.le_refl _⟩,hw⟩
theorem DI {fz:List Nat} {x y:Code} (ihx:qd P n fz x) (ihy:qd P n fz y):qd P n fz (.seq x y):=by
  intro sc hc T h Q hw
  simp only[cJ] at hc
  split at hc
  · rename_i a b h1 h2
    simp at hc; subst hc
    simp only[wS] at hw
    obtain ⟨e,T1,h1',hx,st1,hq⟩:=ihx a h1 T h _ hw
    rcases CE hq with ⟨rfl,hq⟩ | ⟨hne,hq⟩
    · obtain ⟨e2,T2,h2',hy,st2,hq2⟩:=ihy b h2 T1 h1' _ hq
      exact ⟨e2,T2,h2',hx.seq hy,⟨st1.1.trans st2.1 st1.2,Nat.le_trans st1.2 st2.2⟩,hq2⟩
    · exact ⟨e,T1,h1',hx.E7 hne,st1,hq⟩
  · simp at hc
theorem pW {fz:Fz} {ops:List Oper} {draw quiet:Bool} {sc:SC} (h:rF P n fz ops draw quiet=some sc) (l:Nat):mE sc l=none:=by
  unfold rF at h
  repeat' (first | (simp only[Option.some.injEq] at h; subst h; rfl) | (split at h) | (simp at h; done))
theorem GH {fz:Fz} {ops:List Oper} {sc:SC} (h:z7 P n fz ops=some sc) (l:Nat):mE sc l=none:=by
  unfold z7 at h
  repeat' (first | (simp only[Option.map_eq_some_iff] at h; obtain ⟨_,_,rfl⟩:=h; rfl) | (split at h) | (simp at h; done))
theorem GK {fz:Fz} {ops:List Oper} {sc:SC} (h:zC P n fz ops=some sc) (l:Nat):mE sc l=none:=by
  unfold zC at h
  repeat' (first | (simp only[Option.map_eq_some_iff] at h; obtain ⟨_,_,rfl⟩:=h; rfl) | (split at h) | (simp at h; done))
theorem G7 {fz:List Nat} {ops:List Oper} {draw:Bool} {sc:SC} (h:z6 P n fz ops draw=some sc) (l:Nat):mE sc l=none:=by
  unfold z6 at h
  rcases eT h with h1 | h1
  · exact pW h1 l
  · split at h1
    · rcases eT h1 with h0 | h1
      · split at h0
        · exact GK h0 l
        · simp at h0
      rcases eT h1 with h2 | h2
      · exact GH h2 l
      · rcases eT h2 with h3 | h3
        · exact pW h3 l
        · rcases eT h3 with h4 | h4
          · exact pW h4 l
          · exact pW h4 l
    · simp at h1
theorem IW {fz:List Nat} : ∀ (c:Code) (sc:SC),cJ P n fz c=some sc→∀ l,match findLabel c l with
    | some rest=>∃ r,mE sc l=some r∧cJ P n fz rest=some r
    | none=>mE sc l=none:=by
  intro c
  induction c with
  | seq x y ihx ihy =>
    intro sc hc l
    simp only[cJ] at hc
    split at hc
    · rename_i a b h1 h2
      simp at hc; subst hc
      have hx:=ihx a h1 l
      have hy:=ihy b h2 l
      simp only[findLabel,mE]
      cases h3:findLabel x l with
      | some rx =>
        rw[h3] at hx
        obtain ⟨r,e1,e2⟩:=hx
        exact ⟨.seq r b,by rw[e1],by simp only[cJ,e2,h2]⟩
      | none =>
        rw[h3] at hx
        simp only at hx ⊢
        rw[hx]
        exact hy
    · simp at hc
  | label l' =>
    intro sc hc l
    simp[cJ] at hc; subst hc
    simp only[findLabel,mE]
    by_cases e:(l' == l)=true
    · rw[if_pos e]; exact ⟨.skip,by rw[if_pos e],by simp[cJ]⟩
    · rw[if_neg e]; simp only; rw[if_neg e]
  | region id ops draw=>intro sc hc l; simp only[cJ] at hc; simp only[findLabel]; exact G7 hc l
  | cond x y z _ _ =>
    intro sc hc l
    simp only[cJ] at hc
    split at hc
    · simp at hc; subst hc; rfl
    · simp at hc
  | block id c _=>intro sc hc l; simp only[cJ,Option.map_eq_some_iff] at hc; obtain ⟨_,_,rfl⟩:=hc; rfl
  | loop c _=>intro sc hc l; simp only[cJ,Option.map_eq_some_iff] at hc; obtain ⟨_,_,rfl⟩:=hc; rfl
  | scope c _ =>
    intro sc hc l
    simp only[cJ] at hc
    split at hc
    · split at hc
      · simp only[Option.map_eq_some_iff] at hc; obtain ⟨_,_,rfl⟩:=hc; rfl
      · simp at hc
    · simp at hc
  | skip=>intro sc hc l; simp[cJ] at hc; subst hc; rfl
  | exit id=>intro sc hc l; simp[cJ] at hc; subst hc; rfl
  | ret=>intro sc hc l; simp[cJ] at hc; subst hc; rfl
  | goto l'=>intro sc hc l; simp[cJ] at hc; subst hc; rfl
  | _=>intro sc hc; simp[cJ] at hc
theorem Hh {fz:List Nat} {c:Code} (h0:qd P n fz c) (hr:∀ l rest,findLabel c l=some rest→qd P n fz rest):qd P n fz (.scope c):=by
  intro sc hc T h Q hw
  simp only[cJ] at hc
  split at hc
  · rename_i a h1
    split at hc
    · rename_i l h2
      simp only[Option.map_eq_some_iff] at hc
      obtain ⟨r,h3,rfl⟩:=hc
      have hf:=IW c a h1 l
      cases h4:findLabel c l with
      | none=>rw[h4] at hf; simp only at hf; rw[hf] at h3; simp at h3
      | some rest =>
        rw[h4] at hf
        obtain ⟨r',e1,e2⟩:=hf
        rw[h3] at e1
        have e1:=Option.some.inj e1
        subst e1
        simp only[wS] at hw
        obtain ⟨I,hw1,hw2⟩:=hw
        have go:∀ k T (h:aE),I k T h.view→∃ e T' h',pV P n c rest T h e T' h'∧(gF h h'∧h.length≤h'.length)∧Q e T' h'.view:=by
          intro k
          induction k using Nat.strongRecOn with
          | ind k ihk =>
            intro T h hI
            obtain ⟨e,T1,h1',hx,st1,hq⟩:=hr l rest h4 r e2 T h _ (hw2 k T h.view hI)
            cases e with
            | goto l' =>
              obtain ⟨rfl,k',hlt,hI'⟩:=hq
              obtain ⟨e2,T2,h2',hy,st2,hq2⟩:=ihk k' hlt T1 h1' hI'
              exact ⟨e2,T2,h2',pV.jump hx h4 hy,⟨st1.1.trans st2.1 st1.2,Nat.le_trans st1.2 st2.2⟩,hq2⟩
            | _=>exact ⟨_,T1,h1',.out hx rfl,st1,hq⟩
        obtain ⟨e,T1,h1',hx,st1,hq⟩:=h0 a h1 T h _ hw1
        cases e with
        | goto l' =>
          obtain ⟨rfl,k',hI'⟩:=hq
          obtain ⟨e2,T2,h2',hy,st2,hq2⟩:=go k' T1 h1' hI'
          exact ⟨e2,T2,h2',.scope (pV.jump hx h4 hy),⟨st1.1.trans st2.1 st1.2,Nat.le_trans st1.2 st2.2⟩,hq2⟩
        | _=>exact ⟨_,T1,h1',.scope (.out hx rfl),st1,hq⟩
    · simp at hc
  · simp at hc
theorem Kt (hm:P.follows .mixedOrders=true) {fz:List Nat} : ∀ c:Code,qd P n fz c∧∀ l rest,findLabel c l=some rest→qd P n fz rest:=by
  intro c
  induction c with
  | skip=>exact ⟨BO,fun l rest h=>by simp[findLabel] at h⟩
  | region id ops draw=>exact ⟨fun sc hc T h Q hw=>Hr hm hc hw,fun l rest h=>by simp[findLabel] at h⟩
  | seq x y ihx ihy =>
    refine ⟨DI ihx.1 ihy.1,fun l rest h=>?_⟩
    simp only[findLabel] at h
    split at h
    · rename_i r hr
      simp only[Option.some.injEq] at h; subst h
      exact DI (ihx.2 _ _ hr) ihy.1
    · exact ihy.2 _ _ h
  | cond c x y ihx ihy =>
    refine ⟨?_,fun l rest h=>by simp[findLabel] at h⟩
    intro sc hc T h Q hw
    simp only[cJ] at hc
    split at hc
    · rename_i a b h1 h2
      simp at hc; subst hc
      simp only[wS] at hw
      split at hw
      · rename_i t ht
        have hT:rR (SX.of c) t T=T:=by
          unfold rR
          split
          · rename_i k hk
            rw[hk] at ht
            exact zj ht
          · rfl
        rw[SX.cw] at ht
        cases t with
        | true =>
          have:=hw.1 rfl
          rw[hT] at this
          obtain ⟨e,T',h',hx,st,hq⟩:=ihx.1 a h1 T h Q this
          exact ⟨e,T',h',.cond ht hx,st,hq⟩
        | false =>
          have:=hw.2 rfl
          rw[hT] at this
          obtain ⟨e,T',h',hx,st,hq⟩:=ihy.1 b h2 T h Q this
          exact ⟨e,T',h',.cond ht hx,st,hq⟩
      · exact hw.elim
    · simp at hc
  | block id c ih =>
    refine ⟨?_,fun l rest h=>by simp[findLabel] at h⟩
    intro sc hc T h Q hw
    simp only[cJ,Option.map_eq_some_iff] at hc
    obtain ⟨a,h1,rfl⟩:=hc
    simp only[wS] at hw
    obtain ⟨e,T',h',hx,st,hq⟩:=ih.1 a h1 T h _ hw
    exact ⟨_,T',h',hx.block,st,hq⟩
  | loop c ih =>
    refine ⟨?_,fun l rest h=>by simp[findLabel] at h⟩
    intro sc hc T h Q hw
    simp only[cJ,Option.map_eq_some_iff] at hc
    obtain ⟨a,h1,rfl⟩:=hc
    simp only[wS] at hw
    obtain ⟨I,⟨k,hk⟩,hstep⟩:=hw
    have go:∀ k T (h:aE),I k T h.view→∃ e T' h',oh P n c T h e T' h'∧(gF h h'∧h.length≤h'.length)∧Q e T' h'.view:=by
      intro k
      induction k using Nat.strongRecOn with
      | ind k ihk =>
        intro T h hI
        obtain ⟨e,T1,h1',hx,st1,hq⟩:=ih.1 a h1 T h _ (hstep k T h.view hI)
        rcases CE hq with ⟨rfl,k',hlt,hI'⟩ | ⟨hne,hq⟩
        · obtain ⟨e2,T2,h2',hy,st2,hq2⟩:=ihk k' hlt T1 h1' hI'
          exact ⟨e2,T2,h2',.step hx hy,⟨st1.1.trans st2.1 st1.2,Nat.le_trans st1.2 st2.2⟩,hq2⟩
        · exact ⟨e,T1,h1',.out hx hne,st1,hq⟩
    obtain ⟨e,T',h',hx,st,hq⟩:=go k T h hk
    exact ⟨e,T',h',.loop hx,st,hq⟩
  | exit id=>exact ⟨fun sc hc T h Q hw=>by simp[cJ] at hc; subst hc; exact ⟨_,T,h,.exit,⟨.refl _,Nat.le_refl _⟩,hw⟩,fun l rest h=>by simp[findLabel] at h⟩
  | ret=>exact ⟨fun sc hc T h Q hw=>by simp[cJ] at hc; subst hc; exact ⟨_,T,h,.ret,⟨.refl _,Nat.le_refl _⟩,hw⟩,fun l rest h=>by simp[findLabel] at h⟩
  | label l'=>exact ⟨fun sc hc T h Q hw=>by simp[cJ] at hc; subst hc; exact ⟨_,T,h,.label,⟨.refl _,Nat.le_refl _⟩,hw⟩,fun l rest h=>by
      simp only[findLabel] at h
      split at h
      · simp only[Option.some.injEq] at h; subst h; exact BO
      · simp at h⟩
  | goto l'=>exact ⟨fun sc hc T h Q hw=>by simp[cJ] at hc; subst hc; exact ⟨_,T,h,.goto,⟨.refl _,Nat.le_refl _⟩,hw⟩,fun l rest h=>by simp[findLabel] at h⟩
  | scope c ih=>exact ⟨Hh ih.1 ih.2,fun l rest h=>by simp[findLabel] at h⟩
  | _=>exact ⟨fun sc hc=>by simp[cJ] at hc,fun l rest h=>by simp[findLabel] at h⟩
theorem PG (hm:P.follows .mixedOrders=true) {fz:List Nat} (c:Code) (sc:SC) (hc:cJ P n fz c=some sc) (T:Env) (h:aE) (Q:Exit→Env→View→Prop) (hw:wS P sc T h.view Q) :
    ∃ e T' h',cA P n c T h e T' h'∧(gF h h'∧h.length≤h'.length)∧Q e T' h'.view:=(Kt hm c).1 sc hc T h Q hw
theorem PD {T:Env} {h:aE} {r:ResultVar} {l:List SR} {rest:List ResultVar} (hc:ez P (r :: rest)=some l):∃ s l',l=s :: l'∧ez P rest=some l'∧∀ K:V→Prop,wR T h.view s K→∃ v,q4 P T h r=some v∧K v:=by
  cases r with
  | tmp t =>
    simp only[ez,Option.map_eq_some_iff] at hc
    obtain ⟨l',h1,rfl⟩:=hc
    exact ⟨.tmp t,l',rfl,h1,fun K hk=>⟨_,rfl,hk⟩⟩
  | cell a t =>
    simp only[ez] at hc
    split at hc
    · rename_i k l' h1 h2
      simp at hc; subst hc
      refine ⟨.cell a k,l',rfl,h2,fun K hk=>?_⟩
      simp only[wR] at hk
      simp only[q4,kL,ux h1]
      split at hk
      · rename_i id i j ha
        split at hk
        · rename_i es hH
          obtain ⟨hlt,hk⟩:=hk
          obtain ⟨v,hv,hk⟩:=nW hk
          exact ⟨v,by rw[ha]; simp only[hH]; rw[if_pos hlt,hv]; rfl,hk⟩
        · exact hk.elim
      · rename_i e j ha
        obtain ⟨v,hv,hk⟩:=nW hk
        exact ⟨v,by rw[ha]; simp only; rw[hv]; rfl,hk⟩
      · exact hk.elim
    · simp at hc
theorem HY {T:Env} {h:aE} {K:List V→Prop} : ∀ (rs:List ResultVar) (l:List SR) (acc:List V),ez P rs=some l→zG T h.view l acc K→∃ vs,kG P T h rs=some vs∧K (acc ++ vs)
  | [],l,acc,hc,hw=>by simp[ez] at hc; subst hc; exact ⟨[],rfl,by simpa [zG] using hw⟩
  | r :: rest,l,acc,hc,hw=>by
    obtain ⟨s,l',rfl,h1,h2⟩:=PD (T:=T) (h:=h) hc
    simp only[zG] at hw
    obtain ⟨v,hv,hk⟩:=h2 _ hw
    obtain ⟨vs,hvs,hk⟩:=HY rest l' (acc ++ [v]) h1 hk
    exact ⟨v :: vs,by simp[kG,hv,hvs],by simpa using hk⟩
def wF (P:Program) (F:SF) (vs:List V) (H:View) (K:V→View→Prop):Prop :=
  vs.length≤F.n∧wS P F.code (jZ vs) H fun e T' H'=>(e=.ret∨e=.normal)∧zG T' H' F.res [] fun l=>K (ai l) H'
theorem aA.of (hm:P.follows .mixedOrders=true) {f:FuncId} {fz:List Nat} {F:SF} (hF:aW P f fz=some F) {vs:List V} {H:View} {K:V→View→Prop} (hw:wF P F vs H K):aA P f vs H K:=by
  unfold aW at hF
  split at hF
  · rename_i fn hfn
    split at hF
    · rename_i c hb
      split at hF
      · rename_i sc rs h1 h2 h3
        simp at hF; subst hF
        refine ⟨h3,?_⟩
        rintro h rfl
        obtain ⟨e,T',h',hx,st,he,hr⟩:=PG hm c sc h1 _ h _ hw.2
        obtain ⟨vs',hvs,hk⟩:=HY _ _ [] h2 hr
        refine ⟨ai vs',h',bT.Fc hfn hb hw.1 hx he ?_,st.1,by simpa using hk⟩
        unfold FQ
        rw[hvs]
        cases vs' with
        | nil=>rfl
        | cons a l=>cases l <;> rfl
      · simp at hF
    · simp at hF
  · simp at hF
theorem aA.mono {f:FuncId} {vs:List V} {H:View} {K K':V→View→Prop} (h:aA P f vs H K) (hk:∀ r H',K r H'→K' r H'):aA P f vs H K' :=
  ⟨h.1,fun h0 e=>let ⟨r,h',a,s,b⟩:=h.2 h0 e; ⟨r,h',a,s,hk _ _ b⟩⟩
theorem aD.Kn {f:FuncId} {vs:List V} {H:View} {t:V} {K:V→View→Prop} (h:aD P f vs t) (hok:cX P f=true) (hk:K t H):CW P f vs H K :=
  ⟨hok,fun h0 e=>⟨t,h0,bT.gv h h0,fun _ _=>rfl,e ▸ hk⟩⟩
theorem aA.Kn {f:FuncId} {vs:List V} {H:View} {K:V→View→Prop} (h:aA P f vs H fun r H'=>(∀ id,H id≠.dead→H' id=H id)∧K r H'):CW P f vs H K :=
  ⟨h.1,fun h0 e=>by
    obtain ⟨r,h',ha,st,hf,hk⟩:=h.2 h0 e
    refine ⟨r,h',ha,fun id hid=>?_,hk⟩
    by_cases hd:h0.view id=.dead
    · rw[hd]; exact st id hid hd
    · rw[← e] at hf; exact hf id hd⟩
end
inductive cF {α:Type} (x:α):Type where
  | mk
def ed (s:ByteArray):List Int:=s.data.toList.map fun b=>(b.toNat:Int)
theorem dJ (s:ByteArray):s.size=(ed s).length:=by rw[ed,List.length_map,bsize]
def bb (P:Program) (c:SC) (T:Env) (H:View) (Q:Exit→Env→View→Prop) (_:cF (T,H,Q)):Prop:=wS P (.loop c) T H Q
def Aj (P:Program) (l:Nat) (c r:SC) (T:Env) (H:View) (Q:Exit→Env→View→Prop) (_:cF (T,H,Q)):Prop:=wS P (.scope l c r) T H Q
def aF (P:Program) (quiet:Bool) (f:FuncId) (vs:List V) (H:View) (K:V→View→Prop) (_:cF (H,K)):Prop :=
  if quiet then CW P f vs H K else aA P f vs H K
def zF {α:Type} (v:α) (F:α→Prop) (_:cF F):Prop:=F v
def dh (v:V) (F:V→Prop) (_:cF F):Prop:=F v
def D6 (o:bN) (F:bN→Prop) (_:cF F):Prop:=F o
def oC {α:Type} (o:Option α) (F:Option α→Prop) (_:cF F):Prop:=F o
def aq (b:Bool) (A B:Prop) (_:cF (A,B)):Prop:=(b=true→A)∧(b=false→B)
theorem Qn {α:Type} (v:α) (F:α→Prop) (w:cF F):zF v F w=F v:=propext Iff.rfl
section
variable (F:V→Prop) (w:cF F)
theorem ML (v:Value):dh (.val v) F w=F (.val v):=propext Iff.rfl
theorem MP (k:Nat):dh (.emp k) F w=F (.emp k):=propext Iff.rfl
theorem MX:dh .dD F w=F .dD:=propext Iff.rfl
theorem Nv (es:List (List V)):dh (.aY es) F w=F (.aY es):=propext Iff.rfl
theorem OJ (a b c d:Nat):dh (.sl a b c d) F w=F (.sl a b c d):=propext Iff.rfl
theorem MG (a b c:Nat):dh (.ptr a b c) F w=F (.ptr a b c):=propext Iff.rfl
theorem K1 (e:List V) (j:Nat):dh (.aS e j) F w=F (.aS e j):=propext Iff.rfl
theorem N7 (a:Nat):dh (.mp a) F w=F (.mp a):=propext Iff.rfl
theorem N6 (f:FuncId) (a b:List V):dh (.fn f a b) F w=F (.fn f a b):=propext Iff.rfl
theorem Mj (cs:List V):dh (.agg cs) F w=F (.agg cs):=propext Iff.rfl
theorem NQ (cs:List V):dh (.bo cs) F w=F (.bo cs):=propext Iff.rfl
end
theorem Nd (F:bN→Prop) (w:cF F) (k:Nat) (es:List (List V)):D6 (.arr k es) F w=F (.arr k es):=propext Iff.rfl
theorem Np (F:bN→Prop) (w:cF F) (es:List (V × V × Nat)) (k:Nat):D6 (.map es k) F w=F (.map es k):=propext Iff.rfl
theorem Kw {α:Type} (F:Option α→Prop) (w:cF F) (x:α):oC (some x) F w=F (some x):=propext Iff.rfl
theorem KF (A B:Prop) (w:cF (A,B)):aq true A B w=A:=by simp[aq]
theorem HA (A B:Prop) (w:cF (A,B)):aq false A B w=B:=by simp[aq]
theorem ME (b:Bool) (A B:Prop) (w:cF (A,B)):aq (!b) A B w=aq b B A .mk:=by cases b <;> simp[aq]
theorem aq.split {b:Bool} {A B:Prop} {w:cF (A,B)} (h1:b=true→A) (h2:b=false→B):aq b A B w:=⟨h1,h2⟩
theorem aq.dec {p:Prop} [Decidable p] {A B:Prop} {w:cF (A,B)} (h1:p→A) (h2:¬ p→B):aq (decide p) A B w:=⟨fun h=>h1 (by simpa using h),fun h=>h2 (by simpa using h)⟩
theorem aq.eq {a b:Int} {A B:Prop} {w:cF (A,B)} (h1:a=b→A) (h2:¬ a=b→B):aq (a == b) A B w:=⟨fun h=>h1 (by simpa using h),fun h=>h2 (by simpa using h)⟩
theorem aq.ne {a b:Int} {A B:Prop} {w:cF (A,B)} (h1:¬ a=b→A) (h2:a=b→B):aq (a != b) A B w:=⟨fun h=>h1 (by simpa using h),fun h=>h2 (by simpa using h)⟩
section
variable (P:Program) (T:Env) (H:View)
theorem PC (F:SF) (vs:List V) (K:V→View→Prop):wF P F vs H K=(vs.length≤F.n∧wS P F.code (jZ vs) H fun e T' H'=>(e=.ret∨e=.normal)∧zG T' H' F.res [] fun l=>zF (ai l) (fun v=>K v H') .mk):=propext Iff.rfl
theorem NU (Q:Exit→Env→View→Prop):wS P .skip T H Q=Q .normal T H:=propext Iff.rfl
theorem HS (q:Bool) (gs:List SG) (Q:Exit→Env→View→Prop):wS P (.region q gs) T H Q=vg P q gs T H (Q .normal):=propext Iff.rfl
theorem GO (aps:List (Nat × Nat)) (gs:List SG) (Q:Exit→Env→View→Prop):wS P (.lh aps gs) T H Q=vg P false gs T H (fun T' H'=>wA aps T' (Q .normal T' H')):=propext Iff.rfl
theorem GF (tol:Nat × Nat × Nat) (aps:List (Nat × Nat)) (gs:List SG) (Q:Exit→Env→View→Prop):wS P (.A1 tol aps gs) T H Q=vg P false gs T H (fun T' H'=>Gr P tol.1 (T' tol.2.1) (T' tol.2.2) H∧wA aps T' (Q .normal T' H')):=propext Iff.rfl
theorem NJ (K:Prop):wA [] T K=K:=propext Iff.rfl
theorem Ka (a b:Nat) (l:List (Nat × Nat)) (K:Prop):wA ((a,b) :: l) T K=(gq (T a) (T b)∧wA l T K):=propext Iff.rfl
theorem Nb (i j k i' j' k':Nat):gq (.ptr i j k) (.ptr i' j' k')=(i≠i'):=propext Iff.rfl
theorem NF (i j k a b c d:Nat):gq (.ptr i j k) (.sl a b c d)=(i≠a):=propext Iff.rfl
theorem KH (i j k e:Nat):gq (.ptr i j k) (.emp e)=True:=id rfl
theorem Ln (i j k:Nat):gq (.ptr i j k) .dD=True:=id rfl
theorem KZ (i j k:Nat) (es:List (List V)):gq (.ptr i j k) (.aY es)=True:=id rfl
theorem MB (a b c d e f g h:Nat):gq (.sl a b c d) (.sl e f g h)=(a≠e):=propext Iff.rfl
theorem Of (a b c d e:Nat):gq (.sl a b c d) (.emp e)=True:=id rfl
theorem Oa (a b c d:Nat):gq (.sl a b c d) .dD=True:=id rfl
theorem OF (a b c d:Nat) (es:List (List V)):gq (.sl a b c d) (.aY es)=True:=id rfl
theorem MA (k:Nat) (v:V):gq (.emp k) v=True:=by cases v <;> rfl
theorem Mm (v:V):gq .dD v=True:=by cases v <;> rfl
theorem MF (es:List (List V)) (v:V):gq (.aY es) v=True:=by cases v <;> rfl
theorem Lv (e:List V) (j:Nat) (v:V):gq (.aS e j) v=True:=by cases v <;> rfl
theorem Oe (x y:SC) (Q:Exit→Env→View→Prop):wS P (.seq x y) T H Q=wS P x T H fun e T' H'=>x3 e (wS P y T' H' Q) (Q e T' H'):=propext Iff.rfl
theorem Nn (c:SX) (x y:SC) (Q:Exit→Env→View→Prop):wS P (.cond c x y) T H Q=dh (c.at T) (fun v=>match v with
    | .val (.bool b)=>aq b (wS P x (rR c true T) H Q) (wS P y (rR c false T) H Q) .mk
    | _=>False) .mk:=propext Iff.rfl
theorem KB (id:Nat) (c:SC) (Q:Exit→Env→View→Prop):wS P (.block id c) T H Q=wS P c T H fun e=>Q (oq id e):=propext Iff.rfl
theorem M8 (id:Nat) (Q:Exit→Env→View→Prop):wS P (.exit id) T H Q=Q (.exit id) T H:=propext Iff.rfl
theorem Pp (Q:Exit→Env→View→Prop):wS P .ret T H Q=Q .ret T H:=propext Iff.rfl
theorem LG (l:Nat) (c r:SC) (Q:Exit→Env→View→Prop):wS P (.scope l c r) T H Q=Aj P l c r T H Q .mk:=propext Iff.rfl
theorem LL (l:Nat) (Q:Exit→Env→View→Prop):wS P (.label l) T H Q=Q .normal T H:=propext Iff.rfl
theorem Nx (l:Nat) (Q:Exit→Env→View→Prop):wS P (.goto l) T H Q=Q (.goto l) T H:=propext Iff.rfl
theorem Gi (l l':Nat) (a b:Prop):rK l (.goto l') a b=(l'=l∧a):=propext Iff.rfl
theorem DL (l:Nat) (a b:Prop):rK l .normal a b=b:=propext Iff.rfl
theorem GB (l i:Nat) (a b:Prop):rK l (.exit i) a b=b:=propext Iff.rfl
theorem Hp (l:Nat) (a b:Prop):rK l .ret a b=b:=propext Iff.rfl
theorem LK (l:Nat) (a b:Prop):x3 (.goto l) a b=b:=propext Iff.rfl
theorem Gw (i l:Nat):oq i (.goto l)=.goto l:=id rfl
theorem ND (c:SC) (Q:Exit→Env→View→Prop):wS P (.loop c) T H Q=bb P c T H Q .mk:=propext Iff.rfl
theorem MJ (q:Bool) (K:Env→View→Prop):vg P q [] T H K=K T H:=propext Iff.rfl
theorem JO (q:Bool) (g:SG) (r:List SG) (K:Env→View→Prop):vg P q (g :: r) T H K=wG P q g T H fun T' H'=>vg P q r T' H' K:=propext Iff.rfl
theorem Mf (q:Bool) (ops:List (Option Nat × SB)) (K:Env→View→Prop):wG P q ⟨none,ops⟩ T H K=xe P q ops T H K:=propext Iff.rfl
theorem Nz (q:Bool) (d:Nat) (ops:List (Option Nat × SB)) (K:Env→View→Prop):wG P q ⟨some (d,true),ops⟩ T H K=dh (T d) (fun v=>match v with
    | .val (.bool b)=>aq b (xe P q ops (T.put (some d) (.val (.bool true))) H K) (K (gx ops (T.put (some d) (.val (.bool false)))) H) .mk
    | .bo []=>K (gx ops T) H
    | _=>False) .mk:=propext Iff.rfl
theorem LH (q:Bool) (d:Nat) (ops:List (Option Nat × SB)) (K:Env→View→Prop):wG P q ⟨some (d,false),ops⟩ T H K=dh (T d) (fun v=>match v with
    | .val (.bool b)=>aq b (K (gx ops (T.put (some d) (.val (.bool true)))) H) (xe P q ops (T.put (some d) (.val (.bool false))) H K) .mk
    | .bo []=>K (gx ops T) H
    | _=>False) .mk:=by
  simp only[wG,dh]
  generalize T d=v
  cases v with
  | val x=>cases x <;> simp[aq,and_comm]
  | bo l=>cases l <;> simp
  | _=>simp
theorem EF:gx [] T=T:=id rfl
theorem Ds (d:Option Nat) (b:SB) (r:List (Option Nat × SB)):gx ((d,b) :: r) T=gx r (T.put d (.bo [])):=id rfl
theorem MH (q:Bool) (K:Env→View→Prop):xe P q [] T H K=K T H:=propext Iff.rfl
theorem JR (q:Bool) (d:Option Nat) (b:SB) (r:List (Option Nat × SB)) (K:Env→View→Prop):xe P q ((d,b) :: r) T H K=wB P q b T H fun v H'=>zF v (fun v'=>xe P q r (T.put d v') H' K) .mk:=propext Iff.rfl
theorem PE (q:Bool) (s:SI) (K:V→View→Prop):wB P q (.op s) T H K=wI P s T H K:=propext Iff.rfl
theorem MT (q:Bool) (f:SX) (args:List SX) (K:V→View→Prop):wB P q (.call f args) T H K=dh (f.at T) (fun v=>match v with
    | .fn g first cap=>aF P q g (first ++ args.map (SX.at T) ++ cap) H K .mk
    | _=>False) .mk:=propext Iff.rfl
theorem Oi (x:SX) (K:V→View→Prop):wI P (.bc x) T H K=K (x.at T) H:=propext Iff.rfl
theorem MY (c a b:SX) (K:V→View→Prop):wI P (.pick c a b) T H K=dh (c.at T) (fun v=>match v with
    | .val (.bool t)=>aq t (K (a.at T) H) (K (b.at T) H) .mk
    | _=>False) .mk:=by
  simp only[wI,dh]
  generalize c.at T=v
  cases v with
  | val x =>
    cases x with
    | bool t=>cases t <;> simp[aq]
    | _=>simp
  | _=>simp
theorem Oy (x:SX) (K:V→View→Prop):wI P (.box x) T H K=dh (x.at T) (fun v=>v.cells.all aT=true∧zF v.cells (fun cs=>∀ n,H n=.dead→K (.ptr n 0 0) (H.set n (.arr cs.length [cs]))) .mk) .mk:=propext Iff.rfl
theorem Pq (x:SX) (K:V→View→Prop):wI P (.gY x) T H K=dh (x.at T) (fun v=>v.cells.all aT=true∧zF v.cells (fun cs=>K (.aS cs 0) H) .mk) .mk:=propext Iff.rfl
theorem K9 (z:List V) (K:V→View→Prop):wI P (.alloc z) T H K=(z.all aT=true∧∀ n,H n=.dead→K (.ptr n 0 0) (H.set n (.arr z.length [z]))):=propext Iff.rfl
theorem Ns (sz:Option Nat) (a:SX) (K:V→View→Prop):wI P (.load sz a) T H K=dh (a.at T) (fun v=>match v with
    | .ptr id i j=>D6 (H id) (fun o=>match o with
      | .arr _ es=>i < es.length∧zF (es.getD i []) (fun e=>ir sz e j fun v=>K v H) .mk
      | _=>False) .mk
    | .aS e j=>ir sz e j fun v=>K v H
    | _=>False) .mk:=propext Iff.rfl
theorem Ll (sz:Option Nat) (a:SX) (K:V→View→Prop):wI P (.xN sz a) T H K=dh (a.at T) (fun v=>match v with
    | .aS e j=>ir sz e j fun v=>K v H
    | _=>False) .mk:=propext Iff.rfl
theorem KG (sz:Nat) (a x:SX) (K:V→View→Prop):wI P (.store sz a x) T H K=dh (a.at T) (fun v=>match v with
    | .ptr id i j=>D6 (H id) (fun o=>match o with
      | .arr esz es=>zF (x.at T).cells (fun cs=>(i < es.length∧cs.length=sz∧j+cs.length≤esz∧cs.all aT=true) ∧
          zF (es.set i (aa (es.getD i []) j cs)) (fun es'=>K .any (H.set id (.arr esz es'))) .mk) .mk
      | _=>False) .mk
    | _=>False) .mk:=propext Iff.rfl
theorem NK (x:SX) (K:V→View→Prop):wI P (.y9 x) T H K=dh (x.at T) (fun v=>match v with
    | .ptr id i j=>K (.ptr id i j) H
    | .aS e j=>K (.aS e j) H
    | .fn f a b=>K (.fn f a b) H
    | _=>False) .mk:=propext Iff.rfl
theorem Mk (off:Nat) (x:SX) (K:V→View→Prop):wI P (.addr off x) T H K=dh (x.at T) (fun v=>match v with
    | .ptr id i j=>K (.ptr id i (j+off)) H
    | .aS e j=>K (.aS e (j+off)) H
    | _=>False) .mk:=propext Iff.rfl
theorem KO (off:Nat) (sz:Option Nat) (x:SX) (K:V→View→Prop):wI P (.field off sz x) T H K=dh (x.at T) (fun v=>match v with
    | .agg cs=>ir sz cs off fun v=>K v H
    | _=>False) .mk:=propext Iff.rfl
theorem OT (sz:Nat) (x i:SX) (K:V→View→Prop):wI P (.idx sz x i) T H K=oC (asNat (i.at T)) (fun o=>match o with
    | none=>False
    | some q=>dh (x.at T) (fun v=>match v with
      | .sl id off len esz=>(q < len∧esz=sz)∧K (.ptr id (off+q) 0) H
      | .aY es=>oC es[q]? (fun o=>match o with
        | some e=>e.length=sz∧K (.aS e 0) H
        | none=>False) .mk
      | _=>False) .mk) .mk:=by
  simp only[wI,oC,dh]
  cases asNat (i.at T) with
  | none=>rfl
  | some q =>
    simp only
    cases x.at T with
    | aY es =>
      simp only
      cases h:es[q]? with
      | none=>simp
      | some e=>simp
    | _=>rfl
theorem MK (f:FuncId) (first cap:List SX) (K:V→View→Prop):wI P (.uI f first cap) T H K=K (.fn f (first.map (SX.at T)) (cap.map (SX.at T))) H:=propext Iff.rfl
theorem JJ (K:V→View→Prop):wI P .rr T H K=(∀ n,H n=.dead→K (.mp n) (H.set n (.map [] 0))):=propext Iff.rfl
theorem OA (i:Nat) (x:SX) (K:V→View→Prop):wI P (.ext i x) T H K=dh (x.at T) (fun v=>match v with
    | .bo vs=>i < vs.length∧K (vs.getD i .any) H
    | _=>False) .mk:=propext Iff.rfl
theorem O4 (x:SX) (K:V→View→Prop):wI P (.len x) T H K=oC (dM (x.at T)) (fun o=>match o with
    | some n=>K (ak n) H
    | none=>False) .mk:=propext Iff.rfl
theorem Nj (x:SX) (K:V→View→Prop):wI P (.gG x) T H K=dh (x.at T) (fun v=>match v with
    | .val (.string s)=>K (ak s.size) H
    | _=>False) .mk:=propext Iff.rfl
theorem JX (op:BinOp) (x y:SX) (K:V→View→Prop):wI P (.arith op x y) T H K=dh (x.at T) (fun v=>dh (y.at T) (fun v'=>match v,v' with
    | .val (.int k a),.val (.int k' b)=>k=k'∧oC (ah op k a b) (fun o=>match o with | some v=>K (.val v) H | none=>False) .mk
    | _,_=>False) .mk) .mk:=propext Iff.rfl
theorem PN (l:Bool) (x y:SX) (K:V→View→Prop):wI P (.sh l x y) T H K=dh (x.at T) (fun v=>dh (y.at T) (fun v'=>match v,v' with
    | .val (.int k a),.val (.int _ b)=>0≤b∧K (.val (.int k (G8 l k a b))) H
    | _,_=>False) .mk) .mk:=propext Iff.rfl
theorem Ph (op:BinOp) (x y:SX) (K:V→View→Prop):wI P (.iE op x y) T H K=dh (x.at T) (fun v=>dh (y.at T) (fun v'=>match v,v' with
    | .val (.string a),.val (.string b)=>(match op with
      | .eql=>K (.val (.bool (gA a b))) H
      | .neq=>K (.val (.bool (!gA a b))) H
      | _=>False)
    | _,_=>False) .mk) .mk:=propext Iff.rfl
theorem Mx (x i:SX) (K:V→View→Prop):wI P (.dk x i) T H K=dh (x.at T) (fun v=>oC (asNat (i.at T)) (fun o=>match v,o with
    | .val (.string s),some q=>oC (ed s)[q]? (fun o=>match o with
      | some c=>K (.val (.int .u8 c)) H
      | none=>False) .mk
    | _,_=>False) .mk) .mk:=by
  simp only[wI,oC,dh]
  generalize x.at T=v
  generalize asNat (i.at T)=o
  cases v with
  | val u =>
    cases u with
    | string s =>
      cases o with
      | none=>rfl
      | some q =>
        simp only[ed,List.getElem?_map]
        cases h:s.data.toList[q]? with
        | none=>simp
        | some e=>simp
    | _=>rfl
  | _=>rfl
theorem Oh (x:SX) (K:V→View→Prop):wI P (.not x) T H K=dh (x.at T) (fun v=>match v with
    | .val (.bool t)=>K (.val (.bool (!t))) H
    | _=>False) .mk:=propext Iff.rfl
theorem Ov (eq:Bool) (k:Nat) (x y:SX) (K:V→View→Prop):wI P (.nil eq k x y) T H K=oC (aj (isNil k (x.at T)) (isNil k (y.at T))) (fun o=>match o with
    | some b=>K (.val (.bool (if eq=true then b else !b))) H
    | none=>False) .mk:=propext Iff.rfl
theorem NZ (x y:SX) (K:V→View→Prop):wI P (.beq true x y) T H K=dh (x.at T) (fun v=>dh (y.at T) (fun v'=>match v,v' with
    | .val (.bool a),.val (.bool b)=>K (.val (.bool (a == b))) H
    | _,_=>False) .mk) .mk:=propext Iff.rfl
theorem Mw (x y:SX) (K:V→View→Prop):wI P (.beq false x y) T H K=dh (x.at T) (fun v=>dh (y.at T) (fun v'=>match v,v' with
    | .val (.bool a),.val (.bool b)=>K (.val (.bool (a != b))) H
    | _,_=>False) .mk) .mk:=propext Iff.rfl
theorem Pl (x y:SX) (K:V→View→Prop):wI P (.mm true x y) T H K=dh (x.at T) (fun v=>dh (y.at T) (fun v'=>match v,v' with
    | .val (.int k a),.val (.int _ b)=>K (.val (.int k (if b > a then b else a))) H
    | _,_=>False) .mk) .mk:=propext Iff.rfl
theorem O3 (x y:SX) (K:V→View→Prop):wI P (.mm false x y) T H K=dh (x.at T) (fun v=>dh (y.at T) (fun v'=>match v,v' with
    | .val (.int k a),.val (.int _ b)=>K (.val (.int k (if b < a then b else a))) H
    | _,_=>False) .mk) .mk:=propext Iff.rfl
theorem Mg (k:IntKind) (x:SX) (K:V→View→Prop):wI P (.conv k x) T H K=dh (x.at T) (fun v=>match v with
    | .val (.int _ a)=>K (.val (.int k (k.wrap a))) H
    | _=>False) .mk:=propext Iff.rfl
theorem LF (n k:Nat) (o:bN):View.set H n o k=if k=n then o else H k:=id rfl
theorem JP (z:List V) (parts:List (Nat × Nat × SX)) (K:V→View→Prop):wI P (.build z parts) T H K=oC (af z (parts.map fun p=>(p.1,p.2.1,p.2.2.at T))) (fun o=>match o with
    | some cs=>K (.agg cs) H
    | none=>False) .mk:=propext Iff.rfl
theorem It (len sz:Nat) (z:List V) (parts:List (Nat × SX)) (K:V→View→Prop):wI P (.bJ len sz z parts) T H K=oC (ag sz (List.replicate len z) (parts.map fun p=>(p.1,p.2.at T))) (fun o=>match o with
    | some es=>∀ n,H n=.dead→K (.sl n 0 len sz) (H.set n (.arr sz es))
    | none=>False) .mk:=propext Iff.rfl
theorem JY (sz:Nat) (x:SX) (lo hi:Option SX) (K:V→View→Prop):wI P (.slice sz x lo hi) T H K=oC (hE sz (x.at T) (lo.map (SX.at T)) (hi.map (SX.at T))) (fun o=>match o with
    | some (v,.none,_)=>K v H
    | _=>False) .mk:=propext Iff.rfl
theorem Mh (sz bytes:Nat) (z:List V) (l c:SX) (K:V→View→Prop):wI P (.make sz bytes z l c) T H K=oC (asNat (l.at T)) (fun a=>oC (asNat (c.at T)) (fun b=>match a,b with
    | some l,some c=>(l≤c∧c < aI∧bytes * c < aI)∧(c=0→K (.emp 2) H)∧(c≠0→∀ n,H n=.dead→K (.sl n 0 l sz) (H.set n (.arr sz (List.replicate l z))))
    | _,_=>False) .mk) .mk:=propext Iff.rfl
def mQ (sz bytes:Nat) (x:V) (xs:List (List V)) (H:View) (K:V→View→Prop) (_:cF (H,K)):Prop:=if xs.isEmpty=true then (match x with
        | .emp k=>K (.emp k) H
        | .dD=>K .dD H
        | .aY es=>K (.aY es) H
        | .sl a b c d=>K (.sl a b c d) H
        | _=>False)
      else (xs.all fun e=>e.length == sz && e.all aT)=true∧(match x with
        | .emp _=>(xs.length * bytes < aI∧xs.length < aI)∧∀ n,H n=.dead→K (.sl n 0 xs.length sz) (H.set n (.arr sz xs))
        | .sl id off len esz=>match H id with
          | .arr _ es=>(off+len≤es.length∧esz=sz∧(len+xs.length) * bytes < aI∧len+xs.length < aI) ∧
              ∀ n,H n=.dead→K (.sl n 0 (len+xs.length) esz) ((H.set id .dead).set n (.arr esz ((es.drop off).take len ++ xs)))
          | _=>False
        | _=>False)
theorem Pe (sz bytes:Nat) (x y:SX) (K:V→View→Prop):wI P (.app sz bytes x y) T H K=oC (cb H (y.at T)) (fun o=>match o with
    | some (xs,_)=>mQ sz bytes (x.at T) xs H K .mk
    | none=>False) .mk:=propext Iff.rfl
theorem Co (sz bytes k:Nat) (xs:List (List V)) (K:V→View→Prop) (w:cF (H,K)) (h0:xs.isEmpty=false):mQ sz bytes (.emp k) xs H K w=((xs.all fun e=>e.length == sz && e.all aT)=true∧(xs.length * bytes < aI∧xs.length < aI)∧∀ n,H n=.dead→K (.sl n 0 xs.length sz) (H.set n (.arr sz xs))):=by
  unfold mQ; rw[if_neg (by rw[h0]; simp)]
theorem u4 (sz bytes id off len esz:Nat) (xs:List (List V)) (K:V→View→Prop) (w:cF (H,K)) (h0:xs.isEmpty=false):mQ sz bytes (.sl id off len esz) xs H K w=((xs.all fun e=>e.length == sz && e.all aT)=true∧D6 (H id) (fun o=>match o with
          | .arr _ es=>(off+len≤es.length∧esz=sz∧(len+xs.length) * bytes < aI∧len+xs.length < aI) ∧
              ∀ n,H n=.dead→K (.sl n 0 (len+xs.length) esz) ((H.set id .dead).set n (.arr esz ((es.drop off).take len ++ xs)))
          | _=>False) .mk):=by
  unfold mQ D6; rw[if_neg (by rw[h0]; simp)]
theorem uH (id off len esz z:Nat) (es:List (List V)) (hH:H id=.arr z es) (hl:off+(len+1)≤es.length):cb H (.sl id off (len+1) esz)=some ((es.drop off).take (len+1),[id]):=by
  simp only[cb,hH]; rw[if_pos hl]
theorem yq (es:List (List V)):cb H (.aY es)=some (es,[]):=id rfl
theorem x9 (k:Nat):cb H (.emp k)=some ([],[]):=id rfl
theorem Nq (x:SX) (K:V→View→Prop):wI P (.Bv x) T H K=dh (x.at T) (fun v=>match v with
    | .aY es=>oC (oU es) (fun o=>match o with
      | some l=>K (.val (.string ⟨l.toArray⟩)) H
      | none=>False) .mk
    | _=>False) .mk:=propext Iff.rfl
theorem MI (x:SX) (K:V→View→Prop):wI P (.eO x) T H K=dh (x.at T) (fun v=>match v with
    | .val (.string s)=>K (.aY (ff s)) H
    | _=>False) .mk:=propext Iff.rfl
def ot (P:Program) (op:Op) (ty:TypeId) (T:Env) (H:View) (K:V→View→Prop) (_:cF (T,H,K)):Prop:=wI P (.old op ty) T H K
theorem OE (op:Op) (ty:TypeId) (K:V→View→Prop):wI P (.old op ty) T H K=ot P op ty T H K .mk:=propext Iff.rfl
theorem OC (t:Nat):ev T (.tmp t)=T t:=id rfl
theorem J9 (v:Value):ev T (.const v)=fp v:=id rfl
theorem O0 (t:Nat):(SX.tmp t).at T=T t:=id rfl
theorem OQ (v:V):(SX.val v).at T=v:=id rfl
theorem Nw (d t:Nat) (v:V):(T.put (some d) v) t=if t=d then v else T t:=id rfl
theorem Lu (v:V):T.put none v=T:=id rfl
theorem Lx (vs:List V) (t:Nat):jZ vs t=vs.getD t .any:=id rfl
theorem F4 (e:List V) (j:Nat) (K:V→Prop):ir none e j K=(j < e.length∧K (e.getD j .any)):=propext Iff.rfl
theorem Gj (n:Nat) (e:List V) (j:Nat) (K:V→Prop):ir (some n) e j K=(j+n≤e.length∧K (.agg ((e.drop j).take n))):=propext Iff.rfl
theorem G5 (a b:Prop):x3 .normal a b=a:=propext Iff.rfl
theorem LA (i:Nat) (a b:Prop):x3 (.exit i) a b=b:=propext Iff.rfl
theorem Ng (a b:Prop):x3 .ret a b=b:=propext Iff.rfl
theorem Ex (i:Nat):oq i .normal=.normal:=id rfl
theorem Iw (i:Nat):oq i .ret=.ret:=id rfl
theorem GY (i j:Nat):oq i (.exit j)=if j=i then .normal else .exit j:=by simp only[oq]
theorem M5 (acc:List V) (K:List V→Prop):zG T H [] acc K=K acc:=propext Iff.rfl
theorem Kf (r:SR) (l:List SR) (acc:List V) (K:List V→Prop):zG T H (r :: l) acc K=wR T H r fun v=>zG T H l (acc ++ [v]) K:=propext Iff.rfl
theorem O2 (t:Nat) (K:V→Prop):wR T H (.tmp t) K=K (T t):=propext Iff.rfl
theorem Nc (t:Nat) (sz:Option Nat) (K:V→Prop):wR T H (.cell t sz) K=dh (T t) (fun v=>match v with
    | .ptr id i j=>D6 (H id) (fun o=>match o with
      | .arr _ es=>i < es.length∧zF (es.getD i []) (fun e=>ir sz e j K) .mk
      | _=>False) .mk
    | .aS e j=>ir sz e j K
    | _=>False) .mk:=propext Iff.rfl
theorem Ia (t:Nat) (b:Bool):rR (.tmp t) b T=T.put (some t) (.val (.bool b)):=id rfl
theorem Il (v:V) (b:Bool):rR (.val v) b T=T:=id rfl
theorem OV:(Exit.ret=Exit.ret∨Exit.ret=Exit.normal)=True:=by simp
theorem HZ:(Exit.normal=Exit.ret∨Exit.normal=Exit.normal)=True:=by simp
end
section
variable {P:Program} {T:Env} {H:View}
theorem bb.intro {c:SC} {Q:Exit→Env→View→Prop} {v:cF (T,H,Q)} (I:Nat→Env→View→Prop) (k:Nat) (h0:I k T H)
    (hs:∀ k T H,I k T H→wS P c T H fun e T' H'=>x3 e (∃ k',k' < k∧I k' T' H') (Q e T' H')):bb P c T H Q v:=by
  simp only[bb,wS]
  exact ⟨I,⟨k,h0⟩,hs⟩
theorem Aj.intro {l:Nat} {c r:SC} {Q:Exit→Env→View→Prop} {v:cF (T,H,Q)} (I:Nat→Env→View→Prop)
    (hs:∀ k T H,I k T H→wS P r T H fun e T' H'=>rK l e (∃ k',k' < k∧I k' T' H') (Q e T' H')) (h0:wS P c T H fun e T' H'=>rK l e (∃ k,I k T' H') (Q e T' H')):Aj P l c r T H Q v:=by
  simp only[Aj,wS]
  exact ⟨I,h0,hs⟩
theorem aF.pure {q:Bool} {f:FuncId} {vs:List V} {K:V→View→Prop} {v:cF (H,K)} {t:V} (hc:aD P f vs t) (hok:cX P f=true) (hk:K t H):aF P q f vs H K v:=by
  unfold aF
  cases q with
  | true=>exact hc.Kn hok hk
  | false =>
    refine ⟨hok,?_⟩
    rintro h rfl
    exact ⟨t,h,bT.gv hc h,.refl _,hk⟩
theorem aF.iy {f:FuncId} {vs:List V} {K:V→View→Prop} {v:cF (H,K)} (hc:aA P f vs H K):aF P false f vs H K v:=hc
theorem BJ:aE.view []=fun _=>bN.dead:=by funext id; simp[aE.view]
theorem aD.of {f:FuncId} {vs:List V} {t:V} (ht:∀ v∈vs,Tree v) (h:aA P f vs (fun _=>.dead) fun r H'=>∀ h':aE,h'.view=H'→Fr h' r t):aD P f vs t:=by
  obtain ⟨r,h',ha,_,hf⟩:=h.2 [] BJ
  exact aD.uu ht ha (hf h' rfl)
theorem wrap64 {x:Int} (h1 : -9223372036854775808≤x) (h2:x≤9223372036854775807):IntKind.wrap .i64 x=x:=by
  unfold IntKind.wrap
  have e1:(2:Int) ^ IntKind.i64.bits=18446744073709551616:=by rfl
  have e2:(2:Int) ^ (IntKind.i64.bits - 1)=9223372036854775808:=by rfl
  have e3:IntKind.i64.signed=true:=by rfl
  simp only[e1,e2,e3,Bool.true_and,decide_eq_true_eq]
  split <;> omega
theorem JA {k:IntKind} {i:Int} (h:0≤i):asNat (.val (.int k i))=some i.toNat:=by simp[asNat,h]
end
theorem HP (v:Value):V.cells (.val v)=[.val v]:=id rfl
theorem Bk (v:Value):aT (.val v)=true:=id rfl
theorem IG (k:Nat):V.cells (.emp k)=[.emp k]:=id rfl
theorem M4 (k:Nat):aT (.emp k)=true:=id rfl
theorem IF  : V.cells .dD=[.dD]:=id rfl
theorem No  : aT .dD=true:=id rfl
theorem Hm (es:List (List V)):V.cells (.aY es)=[.aY es]:=id rfl
theorem NV (es:List (List V)):aT (.aY es)=true:=id rfl
theorem Kv (a b c d:Nat):V.cells (.sl a b c d)=[.sl a b c d]:=id rfl
theorem Om (a b c d:Nat):aT (.sl a b c d)=true:=id rfl
theorem Je (a b c:Nat):V.cells (.ptr a b c)=[.ptr a b c]:=id rfl
theorem MZ (a b c:Nat):aT (.ptr a b c)=true:=id rfl
theorem FP (e:List V) (j:Nat):V.cells (.aS e j)=[.aS e j]:=id rfl
theorem Kc (e:List V) (j:Nat):aT (.aS e j)=true:=id rfl
theorem LI (a:Nat):V.cells (.mp a)=[.mp a]:=id rfl
theorem Pg (a:Nat):aT (.mp a)=true:=id rfl
theorem KY (f:FuncId) (a b:List V):V.cells (.fn f a b)=[.fn f a b]:=id rfl
theorem ON (f:FuncId) (a b:List V):aT (.fn f a b)=true:=id rfl
theorem HB (cs:List V):V.cells (.agg cs)=cs:=id rfl
theorem M9 (k:Nat):dM (.emp k)=some 0:=id rfl
theorem Nr:dM .dD=some 0:=id rfl
theorem NL (es:List (List V)):dM (.aY es)=some es.length:=id rfl
theorem OD (a b c d:Nat):dM (.sl a b c d)=some c:=id rfl
abbrev Qs {p:Prop} (_:p):Prop:=p
abbrev Wr:Prop:=Qs (And.intro @PC <| And.intro @NU <| And.intro @HS <| And.intro @GO <| And.intro @GF <| And.intro @NJ <| And.intro @Ka <| And.intro @Oe <|
    And.intro @Nn <| And.intro @KB <| And.intro @M8 <| And.intro @Pp <| And.intro @LG <| And.intro @LL <| And.intro @Nx <| And.intro @Gi <| And.intro @DL <| And.intro @GB <| And.intro @Hp <| And.intro @LK <| And.intro @Gw <|
    And.intro @ND <| And.intro @MJ <| And.intro @JO <| And.intro @Mf <|
    And.intro @Nz <| And.intro @LH <| And.intro @EF <| And.intro @Ds <|
    And.intro @MH <| And.intro @JR <| And.intro @PE <| And.intro @MT <|
    And.intro @Oi <| And.intro @MY <| And.intro @Oy <| And.intro @Pq <|
    And.intro @K9 <| And.intro @Ns <| And.intro @Ll <| And.intro @KG <|
    And.intro @NK <| And.intro @Mk <| And.intro @KO <| And.intro @OT <|
    And.intro @MK <| And.intro @JJ <| And.intro @OA <| And.intro @O4 <|
    And.intro @Nj <| And.intro @JX <| And.intro @PN <| And.intro @Ph <| And.intro @Mx <|
    And.intro @Oh <| And.intro @Ov <| And.intro @NZ <| And.intro @Mw <|
    And.intro @Pl <| And.intro @O3 <| And.intro @Mg <| And.intro @Nq <|
    And.intro @MI <| And.intro @JP <| And.intro @It <| And.intro @JY <|
    And.intro @Mh <| And.intro @Pe <| And.intro @OE <| And.intro @OC <| And.intro @J9 <| And.intro @O0 <| And.intro @OQ <|
    And.intro @Nw <| And.intro @Lu <| And.intro @Lx <| And.intro @F4 <|
    And.intro @Gj <| And.intro @G5 <| And.intro @LA <| And.intro @Ng <|
    And.intro @Ex <| And.intro @Iw <| And.intro @GY <| And.intro @M5 <|
    And.intro @Kf <| And.intro @O2 <| And.intro @Nc <| And.intro @Ia @Il)
theorem wr:Wr:=(And.intro @PC <| And.intro @NU <| And.intro @HS <| And.intro @GO <| And.intro @GF <| And.intro @NJ <| And.intro @Ka <| And.intro @Oe <|
    And.intro @Nn <| And.intro @KB <| And.intro @M8 <| And.intro @Pp <| And.intro @LG <| And.intro @LL <| And.intro @Nx <| And.intro @Gi <| And.intro @DL <| And.intro @GB <| And.intro @Hp <| And.intro @LK <| And.intro @Gw <|
    And.intro @ND <| And.intro @MJ <| And.intro @JO <| And.intro @Mf <|
    And.intro @Nz <| And.intro @LH <| And.intro @EF <| And.intro @Ds <|
    And.intro @MH <| And.intro @JR <| And.intro @PE <| And.intro @MT <|
    And.intro @Oi <| And.intro @MY <| And.intro @Oy <| And.intro @Pq <|
    And.intro @K9 <| And.intro @Ns <| And.intro @Ll <| And.intro @KG <|
    And.intro @NK <| And.intro @Mk <| And.intro @KO <| And.intro @OT <|
    And.intro @MK <| And.intro @JJ <| And.intro @OA <| And.intro @O4 <|
    And.intro @Nj <| And.intro @JX <| And.intro @PN <| And.intro @Ph <| And.intro @Mx <|
    And.intro @Oh <| And.intro @Ov <| And.intro @NZ <| And.intro @Mw <|
    And.intro @Pl <| And.intro @O3 <| And.intro @Mg <| And.intro @Nq <|
    And.intro @MI <| And.intro @JP <| And.intro @It <| And.intro @JY <|
    And.intro @Mh <| And.intro @Pe <| And.intro @OE <| And.intro @OC <| And.intro @J9 <| And.intro @O0 <| And.intro @OQ <|
    And.intro @Nw <| And.intro @Lu <| And.intro @Lx <| And.intro @F4 <|
    And.intro @Gj <| And.intro @G5 <| And.intro @LA <| And.intro @Ng <|
    And.intro @Ex <| And.intro @Iw <| And.intro @GY <| And.intro @M5 <|
    And.intro @Kf <| And.intro @O2 <| And.intro @Nc <| And.intro @Ia @Il)
abbrev Wq:Prop:=Qs (And.intro @eq_self.{1} <| And.intro @ne_eq.{1} <| And.intro @implies_true.{1} <| And.intro @implies_true.{0} <| And.intro @decide_true <| And.intro @decide_false <| And.intro @Nb <| And.intro @NF <| And.intro @KH <| And.intro @Ln <| And.intro @KZ <| And.intro @Lv <| And.intro @MB <| And.intro @Of <| And.intro @Oa <| And.intro @OF <| And.intro @MA <| And.intro @Mm <| And.intro @MF <| And.intro @HP <| And.intro @Bk <| And.intro @IG <| And.intro @M4 <| And.intro @IF <| And.intro @No <| And.intro @Hm <| And.intro @NV <| And.intro @Kv <| And.intro @Om <| And.intro @Je <| And.intro @MZ <| And.intro @FP <| And.intro @Kc <| And.intro @LI <| And.intro @Pg <| And.intro @KY <| And.intro @ON <| And.intro @HB <| And.intro @M9 <| And.intro @Nr <| And.intro @NL <| And.intro @OD <| And.intro @true_or <| And.intro @or_true <| And.intro @or_false <| And.intro @false_or <|
    And.intro @Qn <| And.intro @ML <| And.intro @MP <| And.intro @MX <|
    And.intro @Nv <| And.intro @OJ <| And.intro @MG <| And.intro @K1 <|
    And.intro @N7 <| And.intro @N6 <| And.intro @Mj <| And.intro @NQ <|
    And.intro @Nd <| And.intro @Np <| And.intro @Kw <| And.intro @KF <|
    And.intro @HA <| And.intro @ME <| And.intro @List.getD_cons_zero.{0} <| And.intro @List.getD_cons_succ.{0} <|
    And.intro @List.length_cons.{0} <| And.intro @List.length_nil.{0} <| And.intro @List.length_map.{0,0} <| And.intro @wrap64 <|
    And.intro @true_and <| And.intro @and_true <| And.intro @and_self <| And.intro @decide_eq_true_eq <|
    And.intro @decide_eq_false_iff_not <| And.intro @List.all_cons.{0} <| And.intro @List.all_nil.{0} <| And.intro @Bool.and_self <|
    And.intro @List.nil_append.{0} <| And.intro @List.cons_append.{0} <| And.intro @Nat.zero_add <| And.intro @JA <|
    And.intro @Int.toNat_natCast <| And.intro @OV <| And.intro @HZ <| And.intro @bne_iff_ne.{0} <|
    And.intro @beq_iff_eq.{0} <| And.intro @Bool.not_eq_true <| And.intro @Bool.not_true <| And.intro @Bool.not_false <|
    And.intro @List.append_nil.{0} <| And.intro @List.map_cons.{0,0} <| And.intro @List.map_nil.{0,0} <| And.intro @Bool.true_eq_false <|
    And.intro @Bool.false_eq_true <| And.intro @false_implies <| And.intro @true_implies <| And.intro @Bool.not_not <|
    And.intro @List.drop_zero.{0} <| And.intro @LF <| And.intro @List.set_cons_zero.{0} <| And.intro @List.set_cons_succ.{0} <|
    And.intro @List.drop_nil.{0} <| And.intro @Nat.add_zero <| And.intro @List.replicate_zero.{0} <| And.intro @List.replicate_succ.{0} <|
    And.intro @yq <| And.intro @x9 <| And.intro @Co <| And.intro @u4 <|
    And.intro @List.isEmpty_cons.{0} <| And.intro @Option.map_none.{0,0} <| And.intro @Option.map_some.{0,0} <| And.intro @Nat.succ_ne_zero <|
    And.intro @List.take_succ_cons.{0} <| And.intro @List.take_zero.{0} <| And.intro @List.drop_succ_cons.{0} <| And.intro @bne_eq_false_iff_eq.{0} <|
    And.intro @beq_eq_false_iff_ne.{0} <| And.intro @not_true_eq_false <| And.intro @not_false_eq_true @Decidable.not_not)
theorem wq:Wq:=(And.intro @eq_self.{1} <| And.intro @ne_eq.{1} <| And.intro @implies_true.{1} <| And.intro @implies_true.{0} <| And.intro @decide_true <| And.intro @decide_false <| And.intro @Nb <| And.intro @NF <| And.intro @KH <| And.intro @Ln <| And.intro @KZ <| And.intro @Lv <| And.intro @MB <| And.intro @Of <| And.intro @Oa <| And.intro @OF <| And.intro @MA <| And.intro @Mm <| And.intro @MF <| And.intro @HP <| And.intro @Bk <| And.intro @IG <| And.intro @M4 <| And.intro @IF <| And.intro @No <| And.intro @Hm <| And.intro @NV <| And.intro @Kv <| And.intro @Om <| And.intro @Je <| And.intro @MZ <| And.intro @FP <| And.intro @Kc <| And.intro @LI <| And.intro @Pg <| And.intro @KY <| And.intro @ON <| And.intro @HB <| And.intro @M9 <| And.intro @Nr <| And.intro @NL <| And.intro @OD <| And.intro @true_or <| And.intro @or_true <| And.intro @or_false <| And.intro @false_or <|
    And.intro @Qn <| And.intro @ML <| And.intro @MP <| And.intro @MX <|
    And.intro @Nv <| And.intro @OJ <| And.intro @MG <| And.intro @K1 <|
    And.intro @N7 <| And.intro @N6 <| And.intro @Mj <| And.intro @NQ <|
    And.intro @Nd <| And.intro @Np <| And.intro @Kw <| And.intro @KF <|
    And.intro @HA <| And.intro @ME <| And.intro @List.getD_cons_zero.{0} <| And.intro @List.getD_cons_succ.{0} <|
    And.intro @List.length_cons.{0} <| And.intro @List.length_nil.{0} <| And.intro @List.length_map.{0,0} <| And.intro @wrap64 <|
    And.intro @true_and <| And.intro @and_true <| And.intro @and_self <| And.intro @decide_eq_true_eq <|
    And.intro @decide_eq_false_iff_not <| And.intro @List.all_cons.{0} <| And.intro @List.all_nil.{0} <| And.intro @Bool.and_self <|
    And.intro @List.nil_append.{0} <| And.intro @List.cons_append.{0} <| And.intro @Nat.zero_add <| And.intro @JA <|
    And.intro @Int.toNat_natCast <| And.intro @OV <| And.intro @HZ <| And.intro @bne_iff_ne.{0} <|
    And.intro @beq_iff_eq.{0} <| And.intro @Bool.not_eq_true <| And.intro @Bool.not_true <| And.intro @Bool.not_false <|
    And.intro @List.append_nil.{0} <| And.intro @List.map_cons.{0,0} <| And.intro @List.map_nil.{0,0} <| And.intro @Bool.true_eq_false <|
    And.intro @Bool.false_eq_true <| And.intro @false_implies <| And.intro @true_implies <| And.intro @Bool.not_not <|
    And.intro @List.drop_zero.{0} <| And.intro @LF <| And.intro @List.set_cons_zero.{0} <| And.intro @List.set_cons_succ.{0} <|
    And.intro @List.drop_nil.{0} <| And.intro @Nat.add_zero <| And.intro @List.replicate_zero.{0} <| And.intro @List.replicate_succ.{0} <|
    And.intro @yq <| And.intro @x9 <| And.intro @Co <| And.intro @u4 <|
    And.intro @List.isEmpty_cons.{0} <| And.intro @Option.map_none.{0,0} <| And.intro @Option.map_some.{0,0} <| And.intro @Nat.succ_ne_zero <|
    And.intro @List.take_succ_cons.{0} <| And.intro @List.take_zero.{0} <| And.intro @List.drop_succ_cons.{0} <| And.intro @bne_eq_false_iff_eq.{0} <|
    And.intro @beq_eq_false_iff_ne.{0} <| And.intro @not_true_eq_false <| And.intro @not_false_eq_true @Decidable.not_not)
inductive yC:V→Prop
  | val (v:Value):yC (.val v)
  | bo (cs:List V):(∀ i,i < cs.length→∃ v,cs.getD i .any=.val v)→yC (.bo cs)
theorem JG {Z Z':Nat→Prop} {μ μ':Mu} {hp hp':Array Obj} {t:V} {x:Value} (hf:yC t) (h:aB Z μ hp t x):aB Z' μ' hp' t x:=by
  cases hf with
  | val=>cases h with | val _ hv=>exact .val _ hv
  | bo cs hc =>
    cases h with
    | bo _ aas h1 h2 =>
      refine .bo _ _ h1 fun i hi=>?_
      have:=h2 i hi
      obtain ⟨v,hv⟩:=hc i hi
      rw[hv] at this ⊢
      generalize aas.getD i undef=y at this ⊢
      cases this with | val _ hv=>exact .val _ hv
theorem bT.borrow {P:Program} {f:FuncId} {ts vs:List V} {t:V} {h:aE} (hc:aD P f ts t) (hf:yC t) (hl:ts.length=vs.length)
    (hfr:∀ i,i < vs.length→Fr h (vs.getD i .any) (ts.getD i .any)):bT P f vs h t h:=by
  refine ⟨Nat.le_refl _,fun Z μ F w xs hrel hr hfree=>?_⟩
  have hts:dZ (fun b=>Z b∨gP μ b) μ w.heap ts xs:=⟨by rw[hl,hrel.1],fun i hi=>zM hr (hfr i (by omega)) (hrel.2 i (by omega))⟩
  have hzl:∀ b,(Z b∨gP μ b)→b < w.heap.size:=by
    rintro b (hb | ⟨id,o,s,hb⟩)
    · exact hr.cz b hb
    · exact hr.lt _ _ _ _ hb
  refine (hc _ μ w xs hts hzl).mono ?_
  rintro e w' ⟨x,Z',rfl,hv,hs,hz,hz',ho⟩
  have hm:fw Z Z μ μ w.heap w'.heap:=⟨fun _ h=>h,fun b hb=>ho b (hr.cz b hb) (fun x=>x),fun _ _ h=>h,ho.oY⟩
  exact ⟨x,Z,μ,rfl,JG hf (hv μ),⟨fun id=>(hr.obj id).mono hm rfl (fun b o s hx=>ho b (hr.lt _ _ _ _ hx) (fun x=>x)),hr.inj,fun id b o s hx=>Nat.lt_of_lt_of_le (hr.lt _ _ _ _ hx) hs.size,fun b hb=>Nat.lt_of_lt_of_le (hr.cz b hb) hs.size,hr.gj⟩,
    ⟨hs,hm,fun b hb _=>ho b hb (fun x=>x),fun b hb=>.inl hb,fun _ _ _ _ h=>.inl h⟩,fun _ _=>rfl⟩
def di (H:View) (v t:V):Prop:=∀ h:aE,h.view=H→Fr h v t
theorem di.tree {H:View} {v:V} (h:Tree v):di H v v:=fun _ _=>.tree _ h
theorem di.sl {H:View} {id off len esz z:Nat} {es:List (List V)} (hH:H id=.arr z es) (hle:off+len≤es.length) (ht:∀ e∈es,∀ v∈e,Tree v) :
    di H (.sl id off len esz) (.aY ((es.drop off).take len)):=by
  rintro h rfl
  have hg:∀ i,i < len→((es.drop off).take len).getD i []=es.getD (off+i) []:=fun i hi=>by
    simp[List.getD_eq_getElem?_getD,hi]
  refine .sl id off len esz z es _ hH hle (by simp; omega) (fun i hi=>by rw[hg i hi]) (fun i j hi hj=>?_)
  rw[hg i hi] at hj ⊢
  refine .tree _ ?_
  have h1:off+i < es.length:=by omega
  have e1:es.getD (off+i) []=es[off+i]:=by simp[List.getD_eq_getElem?_getD,h1]
  rw[e1] at hj ⊢
  have e2:(es[off+i]).getD j .any=(es[off+i])[j]:=by simp[List.getD_eq_getElem?_getD,hj]
  rw[e2]
  exact ht _ (List.getElem_mem _) _ (List.getElem_mem _)
theorem aF.borrow {P:Program} {q:Bool} {f:FuncId} {H:View} {vs ts:List V} {K:V→View→Prop} {v:cF (H,K)} {t:V} (hc:aD P f ts t) (hok:cX P f=true) (hf:yC t) (hl:ts.length=vs.length)
    (hfr:∀ i,i < vs.length→di H (vs.getD i .any) (ts.getD i .any)) (hk:K t H):aF P q f vs H K v:=by
  unfold aF
  cases q with
  | true=>exact ⟨hok,fun h e=>⟨t,h,bT.borrow hc hf hl (fun i hi=>hfr i hi h e),fun _ _=>rfl,e ▸ hk⟩⟩
  | false =>
    refine ⟨hok,?_⟩
    rintro h rfl
    exact ⟨t,h,bT.borrow hc hf hl (fun i hi=>hfr i hi h rfl),.refl _,hk⟩
abbrev gi (x:Int):V:=.val (.int .i64 x)
abbrev gb (x:Bool):V:=.val (.bool x)
abbrev gs (x:ByteArray):V:=.val (.string x)
theorem mixed:(Tryz.prog).follows .mixedOrders=true:=by kernel_rfl
def encI (l:List Int):V:=.aY (l.map fun x=>[gi x])
def bw (l:List Bool):V:=.aY (l.map fun x=>[gb x])
theorem bQ (l:List Int):Tree (encI l):=by
  refine .aY _ fun i j hi hj=>?_
  simp only[List.length_map] at hi
  simp[List.getD_eq_getElem?_getD,hi] at hj ⊢
  subst hj
  exact .val _
def aM {α:Type} (l:List α):Prop:=l.length < 4611686018427387904
def mO:SC :=
  .seq (.seq (al [ae 11 5,ae 12 0,aL 13 12,aR 14 .lss 11 13]) <|
  .cond (.tmp 14) (.skip) (.exit 0)) <|
  .seq (.block 1 (.seq (al [ae 17 0,ae 18 5,aP 19 1 17 18,ao 20 19,ae 21 1,ae 22 5,aP 23 1 21 22,ao 24 23,aR 25 .neq 20 24]) <|
  .cond (.tmp 25) (.seq (al [aV 4 false]) <|
  .ret) (.skip))) <|
  al [ae 15 5,az 16 .add 15 1,ae 5 16]
def pn:SF:=⟨.seq (al [aV 4 false]) <|
  .seq (.seq (al [ae 6 0,aL 7 6,ae 8 1,aL 9 8,aR 10 .neq 7 9]) <|
  .cond (.tmp 10) (.seq (al [aV 4 false]) <|
  .ret) (.skip)) <|
  .seq (.seq (al [aH 5 0]) <|
  .block 0 (.loop mO)) <|
  .seq (al [aV 4 true]) <|
  .ret,
  [.tmp 4],26⟩
theorem tW:aW Tryz.prog 17 []=some pn:=by kernel_rfl
theorem AF {α:Type} [BEq α] [LawfulBEq α] {a b:List α} (h:a.length≠b.length):(a == b)=false:=by
  simp only[beq_eq_false_iff_ne]; intro e; exact h (by rw[e])
theorem MU (a b:List Int) (ha:aM a) (H:View):aA Tryz.prog 17 [encI a,encI b] H fun r H'=>r=gb (a == b)∧H'=H:=by
  refine aA.of mixed tW ?_
  unfold aM at ha
  simp (disch:=omega) only [↓wr,↓reduceIte,wq,ai,ah,ak,Nat.reduceEqDiff,Nat.reduceAdd,Nat.reduceLeDiff,reduceCtorEq,pn,encI]
  refine aq.ne (fun h=>?_) (fun h=>?_)
  · simp (disch:=omega) only [↓wr,↓reduceIte,wq,reduceCtorEq]
    rw[AF (by omega)]
  · simp (disch:=omega) only [↓wr,wq]
    refine bb.intro (fun k T H'=>∃ i:Nat,i+k=a.length∧a.take i=b.take i∧T 0=encI a∧T 1=encI b∧T 5=gi i∧H'=H) a.length ?_ ?_
    · exact ⟨0,by omega,by simp,rfl,rfl,rfl,rfl⟩
    · rintro k T H' ⟨i,hk,hi,h0,h1,h5,rfl⟩
      simp (disch:=omega) only [↓wr,↓reduceIte,wq,ah,ak,Nat.reduceEqDiff,reduceCtorEq,mO,h0,h5,encI]
      refine aq.dec (fun hc=>?_) (fun hc=>?_)
      · have h2:a[i]?=some (a[i]'(by omega)):=List.getElem?_eq_getElem (by omega)
        have h3:b[i]?=some (b[i]'(by omega)):=List.getElem?_eq_getElem (by omega)
        simp (disch:=omega) only [↓wr,↓reduceIte,wq,ah,Nat.reduceEqDiff,Nat.reduceLT,reduceCtorEq,h0,h1,h5,encI,List.getElem?_map,h2,h3]
        refine aq.ne (fun hd=>?_) (fun hd=>?_)
        · simp (disch:=omega) only [↓wr,↓reduceIte,wq,ah,Nat.reduceEqDiff,reduceCtorEq]
          have:(a == b)=false:=by
            simp only[beq_eq_false_iff_ne]; rintro rfl; exact hd rfl
          rw[this]
        · simp (disch:=omega) only [↓wr,↓reduceIte,wq,ah,Nat.reduceEqDiff,reduceCtorEq,h0,h1,h5,encI]
          refine ⟨k - 1,by omega,i+1,by omega,?_,rfl⟩
          rw[List.take_add_one,List.take_add_one,hi,h2,h3,hd]
      · simp (disch:=omega) only [↓wr,↓reduceIte,wq,Nat.reduceEqDiff,reduceCtorEq]
        have:a=b:=by
          have e:i=a.length:=by omega
          rw[List.take_of_length_le (by omega),List.take_of_length_le (by omega)] at hi
          exact hi
        rw[this]; simp
theorem Bn (a b:List Int) (ha:aM a):aD Tryz.prog 17 [encI a,encI b] (gb (a == b)) :=
  aD.of (by simp[bQ]) ((MU a b ha _).mono fun r H' h h' _=>by rw[h.1]; exact .tree _ (.val _))
theorem fQ (l:List Bool):Tree (bw l):=by
  refine .aY _ fun i j hi hj=>?_
  simp only[List.length_map] at hi
  simp[List.getD_eq_getElem?_getD,hi] at hj ⊢
  subst hj
  exact .val _
end Gv
