/-
  Part 5 of the proof: what the machine does and what the functions answer.
  Conditions: those that each lemma names.
-/
import Derived.Test.YtihmlbdfcmfbdaaGreatProg
import Derived.KernelRfl
import Derived.Test.YtihmlbdfcmfbdaaGreatSGzA4D
set_option linter.unusedSimpArgs false
set_option linter.unusedVariables false
set_option maxRecDepth 100000
namespace Gv
open Go Go.Proofs
section
variable {P:Program} {n:Nat} {all:List Oper}
theorem HC (h:aw):h.view h.length=.dead:=by simp[aw.view,List.getD_eq_getElem?_getD]
theorem J3 {o:Oper} {T:Env} {h:aw} {s:SI} {K:V→View→Prop} (hg:bW n all T o=some true) (hc:∀ v au rd,sI P s T h.view h.length=some (v,au,rd)→bw P o T h.view h.length=some (v,au,rd)) (hw:wI P s T h.view K) :
    ∃ v h' rd wr,cn P n all o T h v h' rd wr false∧eW h h'∧K v h'.view∧gC (nz P s) rd wr false h.length h'.length:=by
  obtain ⟨v,au,rd,hs,hk⟩:=J5 hw (HC h)
  have ha:=hc _ _ _ hs
  have hlive:∀ id,id∈au.wr→h.view id≠.dead:=fun id hid=>(iI ha id hid).1
  refine ⟨v,au.apply h,rd,au.wr,.op hg ha,?_,?_,?_,?_⟩
  · intro id hid hd
    rw[gZ hlive]
    cases au with
    | none=>exact hd
    | new o=>simp only[aQ.view,View.set]; rw[if_neg (by omega)]; exact hd
    | dW k o =>
      simp only[aQ.view,View.set]
      rw[if_neg (by rintro rfl; exact hlive id (by simp[aQ.wr]) hd)]; exact hd
    | aX k o =>
      simp only[aQ.view,View.set]
      rw[if_neg (by omega)]
      split
      · rfl
      · exact hd
  · rw[gZ (fun id hid=>(iI ha id hid).1)]; exact hk
  · intro h0
    obtain ⟨rfl,rfl⟩:=(l9 hs).1 h0
    exact ⟨rfl,rfl,rfl,rfl⟩
  · intro h1
    rcases Nat.lt_or_ge (nz P s) 1 with h2 | h2
    · obtain ⟨rfl,rfl⟩:=(l9 hs).1 (by omega); rfl
    · exact (l9 hs).2 (by omega)
theorem Cw {P:Program} {fr:Bool} {s:SI} {T:Env} {H:View} {n:Nat} {v:V} {au:aQ} {rd:List Nat} (h:sI P (sw P fr s) T H n=some (v,au,rd)):sI P s T H n=some (v,au,rd):=by
  unfold sw at h
  split at h
  · split at h
    · exact GR h
    · exact h
  · split at h
    · rename_i hc
      simp only[Bool.and_eq_true] at hc
      exact Jb hc.2 h
    · exact h
  · exact h
theorem tB (P:Program) (fz:Fz) (o:Oper) :
    (∃ f args ats,o.op=.call { callee:=.value f,args:=args,argTypes:=ats }∧jj P fz o=.call (SX.of f) (args.toList.map SX.of)) ∨
    (∃ t x,o.op=.box t x∧jj P fz o=.op (.fk (SX.of x)))∨(∃ s d x,o.op=.convert s d x∧oY P s d=true∧jj P fz o=.op (.dE (SX.of x)))∨jj P fz o=.op (sw P fz.fr (comp P o)):=by
  unfold jj
  split
  · rename_i f args ats ho; exact .inl ⟨f,args,ats,ho,rfl⟩
  · rename_i t x ho
    by_cases hd:(match o.dst with | some d=>fz.l.contains d | none=>false)=true
    · exact .inr (.inl ⟨t,x,ho,if_pos hd⟩)
    · refine .inr (.inr (.inr ?_))
      refine (if_neg hd).trans ?_
      simp only[comp,ho,sw]
  · rename_i s d x ho
    by_cases hd:((match o.dst with | some d=>fz.l.contains d | none=>false) && oY P s d)=true
    · exact .inr (.inr (.inl ⟨s,d,x,ho,by simp only[Bool.and_eq_true] at hd; exact hd.2,if_pos hd⟩))
    · exact .inr (.inr (.inr (if_neg hd)))
  · exact .inr (.inr (.inr rfl))
theorem cn.len {o:Oper} {T:Env} {h h':aw} {v:V} {rd wr:List Nat} {call:Bool} (st:cn P n all o T h v h' rd wr call):h.length≤h'.length:=by
  cases st with
  | skip=>exact Nat.le_refl _
  | op _ _=>rename_i au _ _ ; cases au <;> simp[aQ.apply]
  | fk _ _ _=>exact Nat.le_refl _
  | dE _ _ _ _ _ _=>exact Nat.le_refl _
  | call _ _ _ _ ha _ _=>exact ha.1
theorem Jc {fz:Fz} {o:Oper} {T:Env} {h:aw} {quiet:Bool} {K:V→View→Prop} (hg:bW n all T o=some true) (hw:wB P quiet (jj P fz o) T h.view K) :
    ∃ v h' rd wr call,cn P n all o T h v h' rd wr call∧eW h h'∧K v h'.view∧gC (fg P quiet (jj P fz o)) rd wr call h.length h'.length:=by
  rcases tB P fz o with ⟨f,args,ats,ho,hc⟩ | ⟨t,x,ho,hc⟩ | ⟨s,d,x,ho,hcv,hc⟩ | hc
  · rw[hc] at hw ⊢
    simp only[wB] at hw
    split at hw
    · rename_i g first cap hf
      rw[Bb] at hw
      rw[SX.bD] at hf
      split at hw
      · rename_i hq
        obtain ⟨hok,hq'⟩:=hw
        obtain ⟨r,h',hr,hold,hk⟩:=hq' h rfl
        refine ⟨r,h',[],[],true,.call hg ho hf hok hr (fun id hid _=>hold id hid) (fun id hid=>by simp at hid),fun id hid hd=>(hold id hid).trans hd,hk,?_,?_⟩
        · intro h0; simp[fg,hq] at h0
        · intro _; rfl
      · rename_i hq
        obtain ⟨hok,hq'⟩:=hw
        obtain ⟨r,h',hr,hst,hk⟩:=hq' h rfl
        refine ⟨r,h',[],List.range h.length,true,.call hg ho hf hok hr (fun id hid hn=>?_) (fun id hid=>by simpa using hid),hst,hk,Ir (by simp[fg,hq])⟩
        exact absurd (by simpa using hid) hn
    · exact hw.elim
  · rw[hc] at hw ⊢
    simp only[wB,wI,SX.bD] at hw
    exact ⟨_,h,[],[],false,.fk hg ho hw.1,.refl _,hw.2,fun _=>⟨rfl,rfl,rfl,rfl⟩,fun _=>rfl⟩
  · rw[hc] at hw ⊢
    simp only[wB,wI,SX.bD] at hw
    obtain ⟨e,h1,h2,h3⟩:=tN hcv
    split at hw
    · rename_i st hx
      exact ⟨_,h,[],[],false,.dE hg ho h1 h2 h3 hx,.refl _,hw,fun _=>⟨rfl,rfl,rfl,rfl⟩,fun _=>rfl⟩
    · exact hw.elim
  · rw[hc] at hw ⊢
    obtain ⟨v,h',rd,wr,h1,h0,h2,h3⟩:=J3 (s:=sw P fz.fr (comp P o)) hg (fun v au rd hs=>CT (Cw hs)) hw
    exact ⟨v,h',rd,wr,false,h1,h0,h2,h3⟩
def dy (P:Program) (quiet:Bool) (l:List SO) (recs:List Rec):Prop :=
  l.length=recs.length∧∀ (i:Nat) (s:SO) (r:Rec),l[i]?=some s→recs[i]?=some r→gC (fg P quiet s.b) r.rd r.wr r.call r.lo r.hi
theorem dy.nil {quiet:Bool} : dy P quiet [] []:=⟨rfl,fun i s r h=>by simp at h⟩
theorem dy.cons {quiet:Bool} {l:List SO} {recs:List Rec} {s:SO} {r:Rec} (h:dy P quiet l recs) (hr:gC (fg P quiet s.b) r.rd r.wr r.call r.lo r.hi):dy P quiet (s :: l) (r :: recs):=by
  refine ⟨by simp[h.1],fun i s' r' hs hr'=>?_⟩
  cases i with
  | zero=>simp at hs hr'; subst hs hr'; exact hr
  | succ i=>exact h.2 i s' r' (by simpa using hs) (by simpa using hr')
theorem dy.append {quiet:Bool} {l l':List SO} {recs recs':List Rec} (h:dy P quiet l recs) (h':dy P quiet l' recs'):dy P quiet (l ++ l') (recs ++ recs'):=by
  refine ⟨by simp[h.1,h'.1],fun i s r hs hr=>?_⟩
  by_cases hi:i < l.length
  · rw[List.getElem?_append_left hi] at hs
    rw[List.getElem?_append_left (h.1 ▸ hi)] at hr
    exact h.2 i s r hs hr
  · rw[List.getElem?_append_right (by omega)] at hs
    rw[List.getElem?_append_right (by have:=h.1; omega)] at hr
    exact h'.2 (i - l.length) s r hs (by rw[h.1]; exact hr)
theorem nD {fz:Fz} {o:Oper} {s:SO} (h:zr P n all fz o=some s):lQ n o=true∧s.dst=o.dst∧s.b=jj P fz o∧oZ n all o=some s.guard:=by
  unfold zr at h
  split at h
  · rename_i hd
    simp only[Option.map_eq_some_iff] at h
    obtain ⟨g,hg,rfl⟩:=h
    exact ⟨hd,rfl,rfl,hg⟩
  · simp at h
theorem vQ {o:Oper} {T:Env} (h:oZ n all o=some none):bW n all T o=some true:=by
  unfold oZ at h
  unfold bW
  split at h
  · rename_i hg; rw[hg]
  · split at h
    · split at h
      · simp at h
      · simp at h
    · simp at h
theorem gM {o:Oper} {T:Env} {d:Nat} {want:Bool} (h:oZ n all o=some (some (d,want))) :
    (∀ b,T d=.val (.bool b)→bW n all T o=some (b == want))∧(T d=.bc []→bW n all T o=some false):=by
  unfold oZ at h
  unfold bW
  split at h
  · simp at h
  · rename_i j w hg
    rw[hg]
    split at h
    · rename_i d' hd
      split at h
      · rename_i hlt
        simp at h
        obtain ⟨rfl,rfl⟩:=h
        simp only[hd,hlt,if_true]
        exact ⟨fun b hb=>by rw[hb],fun hb=>by rw[hb]⟩
      · simp at h
    · simp at h
theorem g0 {fz:Fz} {os:List Oper} (h:b7 P n all fz os=some []):os=[]:=by
  cases os with
  | nil=>rfl
  | cons o r =>
    simp only[b7] at h
    split at h <;> simp at h
theorem ir {fz:Fz} {os:List Oper} {s:SO} {l:List SO} (h:b7 P n all fz os=some (s :: l)):∃ o r,os=o :: r∧zr P n all fz o=some s∧b7 P n all fz r=some l:=by
  cases os with
  | nil=>simp[b7] at h
  | cons o r =>
    simp only[b7] at h
    split at h
    · rename_i s' l' h1 h2
      simp at h
      obtain ⟨rfl,rfl⟩:=h
      exact ⟨o,r,rfl,h1,h2⟩
    · simp at h
theorem lq {fz:Fz} : ∀ {l l':List SO} {os:List Oper},b7 P n all fz os=some (l ++ l')→∃ a b,os=a ++ b∧b7 P n all fz a=some l∧b7 P n all fz b=some l'
  | [],l',os,h=>⟨[],os,rfl,rfl,h⟩
  | s :: l,l',os,h=>by
    obtain ⟨o,r,rfl,h1,h2⟩:=ir h
    obtain ⟨a,b,rfl,h3,h4⟩:=lq h2
    exact ⟨o :: a,b,rfl,by simp[b7,h1,h3],h4⟩
theorem Tr.append {a b:List Oper} {T T1 T2:Env} {h h1 h2:aw} {r1 r2:List Rec} (x:Tr P n all a T h r1 T1 h1) (y:Tr P n all b T1 h1 r2 T2 h2):Tr P n all (a ++ b) T h (r1 ++ r2) T2 h2:=by
  induction x with
  | nil=>exact y
  | cons st hd _ ih=>exact .cons st hd (ih y)
theorem uQ {T:Env} {d:Nat} {v:V} (h:T d=v):T.put (some d) v=T:=by
  funext t
  simp only[Env.put]
  split
  · rename_i e; subst e; exact h.symm
  · rfl
theorem Bk {fz:Fz} {quiet:Bool} {K:Env→View→Prop} (g:Option (Nat × Bool)):∀ (l:List (Option Nat × SB)) (os:List Oper) (T:Env) (h:aw),
    b7 P n all fz os=some (l.map fun (d,b)=>⟨d,g,b⟩)→(∀ d w,g=some (d,w)→T d=.val (.bool w)∧(l.all fun x=>x.1 != some d)=true)→sy P quiet l T h.view K →
    ∃ recs T' h',Tr P n all os T h recs T' h'∧(eW h h'∧h.length≤h'.length)∧K T' h'.view∧dy P quiet (l.map fun (d,b)=>⟨d,g,b⟩) recs
  | [],os,T,h,hc,hg,hw=>by
    have:=g0 hc; subst this
    exact ⟨[],T,h,.nil,⟨.refl _,Nat.le_refl _⟩,hw,.nil⟩
  | (d,b) :: l,os,T,h,hc,hg,hw=>by
    obtain ⟨o,r,rfl,h1,h2⟩:=ir hc
    obtain ⟨hd,hd1,hb1,hg1⟩:=nD h1
    simp only at hd1 hb1 hg1
    have hgv:bW n all T o=some true:=by
      cases g with
      | none=>exact vQ hg1
      | some p =>
        obtain ⟨d',w⟩:=p
        have:=(gM (T:=T) hg1).1 w (hg d' w rfl).1
        rw[this]; simp
    simp only[sy] at hw
    rw[hb1] at hw
    obtain ⟨v,h',rd,wr,call,st,hst,hk,hl⟩:=Jc hgv hw
    obtain ⟨recs,T',h'',tr,hst',hk',hro⟩:=Bk g l r (T.put d v) h' h2 (fun d' w e=>by
      have:=hg d' w e
      simp only[List.all_cons,Bool.and_eq_true,bne_iff_ne,ne_eq] at this
      refine ⟨?_,this.2.2⟩
      rw[← this.1]
      cases d with
      | none=>rfl
      | some t=>simp only[Env.put]; rw[if_neg]; intro e; subst e; exact this.2.1 rfl) hk
    rw[hd1] at tr
    have hlen:=st.len
    exact ⟨_,T',h'',.cons st hd tr,⟨hst.trans hst'.1 hlen,Nat.le_trans hlen hst'.2⟩,hk',hro.cons (by rw[hb1]; exact hl)⟩
theorem xH {fz:Fz} {quiet:Bool} (d:Nat) (w:Bool) (h:aw):∀ (l:List (Option Nat × SB)) (os:List Oper) (T:Env),
    b7 P n all fz os=some (l.map fun (d',b)=>⟨d',some (d,w),b⟩)→(T d=.val (.bool !w)∨T d=.bc [])→(l.all fun x=>x.1 != some d)=true →
    ∃ recs,Tr P n all os T h recs (eL l T) h∧dy P quiet (l.map fun (d',b)=>⟨d',some (d,w),b⟩) recs
  | [],os,T,hc,hd,hl=>by
    have:=g0 hc; subst this
    exact ⟨[],.nil,.nil⟩
  | (d',b) :: l,os,T,hc,hd,hl=>by
    obtain ⟨o,r,rfl,h1,h2⟩:=ir hc
    obtain ⟨hd0,hd1,hb1,hg1⟩:=nD h1
    simp only at hd1 hb1 hg1
    have hgv:bW n all T o=some false:=by
      rcases hd with hd | hd
      · rw[(gM (T:=T) hg1).1 _ hd]; cases w <;> rfl
      · exact (gM (T:=T) hg1).2 hd
    simp only[List.all_cons,Bool.and_eq_true,bne_iff_ne,ne_eq] at hl
    obtain ⟨recs,tr,hro⟩:=xH d w h l r (T.put d' (.bc [])) h2 (by
      have:(T.put d' (.bc [])) d=T d:=by
        cases d' with
        | none=>rfl
        | some t=>simp only[Env.put]; rw[if_neg]; intro e; subst e; exact hl.1 rfl
      rw[this]; exact hd) hl.2
    rw[hd1] at tr
    refine ⟨_,?_,hro.cons (r:=⟨[],[],false,h.length,h.length⟩) ⟨fun _=>⟨rfl,rfl,rfl,rfl⟩,fun _=>rfl⟩⟩
    have:=Tr.cons (.skip hgv) hd0 tr
    rw[eL,hd1]
    exact this
theorem J4 {fz:Fz} {quiet:Bool} {K:Env→View→Prop} {g:SG} {os:List Oper} {T:Env} {h:aw} (hc:b7 P n all fz os=some g.flat) (hok:m3 g=true) (hw:wG P quiet g T h.view K) :
    ∃ recs T' h',Tr P n all os T h recs T' h'∧(eW h h'∧h.length≤h'.length)∧K T' h'.view∧dy P quiet g.flat recs:=by
  unfold wG at hw
  unfold SG.flat at hc ⊢
  unfold m3 at hok
  split at hw
  · rename_i hg
    rw[hg] at hc ⊢
    exact Bk none g.ops os T h hc (fun d w e=>by simp at e) hw
  · rename_i d want hg
    rw[hg] at hc hok ⊢
    simp only at hok
    split at hw
    · rename_i b hb
      by_cases e:b=want
      · subst e
        have:=hw.1 rfl
        rw[uQ hb] at this
        exact Bk (some (d,b)) g.ops os T h hc (fun d' w e=>by simp at e; obtain ⟨rfl,rfl⟩:=e; exact ⟨hb,hok⟩) this
      · have e':b = !want:=by cases b <;> cases want <;> simp_all
        have:=hw.2 e'
        subst e'
        rw[uQ hb] at this
        obtain ⟨recs,tr,hro⟩:=xH (quiet:=quiet) d want h g.ops os T hc (.inl hb) hok
        exact ⟨recs,_,h,tr,⟨.refl _,Nat.le_refl _⟩,this,hro⟩
    · rename_i hb
      obtain ⟨recs,tr,hro⟩:=xH (quiet:=quiet) d want h g.ops os T hc (.inr hb) hok
      exact ⟨recs,_,h,tr,⟨.refl _,Nat.le_refl _⟩,hw,hro⟩
    · exact hw.elim
theorem rX {fz:Fz} {quiet:Bool} {K:Env→View→Prop} : ∀ (gs:List SG) (os:List Oper) (T:Env) (h:aw),b7 P n all fz os=some (gp gs)→gs.all m3=true→qG P quiet gs T h.view K →
    ∃ recs T' h',Tr P n all os T h recs T' h'∧(eW h h'∧h.length≤h'.length)∧K T' h'.view∧dy P quiet (gp gs) recs
  | [],os,T,h,hc,_,hw=>by
    have:=g0 hc; subst this
    exact ⟨[],T,h,.nil,⟨.refl _,Nat.le_refl _⟩,hw,.nil⟩
  | g :: gs,os,T,h,hc,hok,hw=>by
    simp only[gp,List.map_cons,List.flatten_cons] at hc ⊢
    simp only[List.all_cons,Bool.and_eq_true] at hok
    obtain ⟨a,b,rfl,h1,h2⟩:=lq hc
    obtain ⟨r1,T1,h1',tr1,st1,hk1,ro1⟩:=J4 h1 hok.1 hw
    obtain ⟨r2,T2,h2',tr2,st2,hk2,ro2⟩:=rX gs b T1 h1' h2 hok.2 hk1
    exact ⟨_,T2,h2',tr1.append tr2,⟨st1.1.trans st2.1 st1.2,Nat.le_trans st1.2 st2.2⟩,hk2,ro1.append ro2⟩
theorem Tr.at_ {os:List Oper} {T T':Env} {h h':aw} {recs:List Rec} (tr:Tr P n all os T h recs T' h'):∀ (i:Nat) (o:Oper),os[i]?=some o →
    ∃ T1 h1 v h2 rd wr call recs2,recs[i]?=some ⟨rd,wr,call,h1.length,h2.length⟩∧cn P n all o T1 h1 v h2 rd wr call∧h.length≤h1.length∧Tr P n all (os.drop (i+1)) (T1.put o.dst v) h2 recs2 T' h'∧(∀ m,recs2[m]?=recs[i+1+m]?) ∧
      (∀ t,(∀ o'∈os.take i,o'.dst≠some t)→T1 t=T t):=by
  induction tr with
  | nil=>intro i o hi; simp at hi
  | @cons o0 rest T T' h h1 h' v rd wr call recs st hd tr ih =>
    intro i o hi
    cases i with
    | zero =>
      simp at hi; subst hi
      exact ⟨T,h,v,h1,rd,wr,call,recs,rfl,st,Nat.le_refl _,by simpa using tr,fun m=>by rw[show 0+1+m=m+1 by omega,List.getElem?_cons_succ],fun t _=>rfl⟩
    | succ i =>
      simp at hi
      obtain ⟨T1,h2,v2,h3,rd2,Jr,call2,recs2,e1,e2,e3,e4,e5,e6⟩:=ih i o hi
      have hlen:h.length≤h1.length:=by
        cases st with
        | skip=>exact Nat.le_refl _
        | op _ _=>rename_i au _ _; cases au <;> simp[aQ.apply]
        | fk _ _ _=>exact Nat.le_refl _
        | dE _ _ _ _ _ _=>exact Nat.le_refl _
        | call _ _ _ _ ha _ _=>exact ha.1
      refine ⟨T1,h2,v2,h3,rd2,Jr,call2,recs2,by simpa using e1,e2,Nat.le_trans hlen e3,by simpa using e4,fun m=>?_,fun t ht=>?_⟩
      · rw[e5,show i+1+1+m=(i+1+m)+1 by omega,List.getElem?_cons_succ]
      · simp only[List.take_succ_cons,List.mem_cons] at ht
        rw[e6 t fun o' ho'=>ht o' (.inr ho')]
        have:=ht o0 (.inl rfl)
        cases hdst:o0.dst with
        | none=>rfl
        | some d=>simp only[Env.put]; rw[if_neg]; rintro rfl; exact this hdst
theorem D9 {o:Oper} {T:Env} {h h':aw} {v:V} {rd wr:List Nat} {call:Bool} (st:cn P n all o T h v h' rd wr call) (ha:uc o=true) (hg:o.guard=none):v=.ptr h.length 0 0:=by
  unfold uc at ha
  have hgv:bW n all T o=some true:=by unfold bW; rw[hg]
  cases st with
  | skip hs=>rw[hgv] at hs; simp at hs
  | op _ hop =>
    split at ha
    · rename_i e ho
      simp only[bw,ho] at hop
      split at hop
      · unfold hQ at hop
        split at hop
        · simp at hop; exact hop.1.symm
        · simp at hop
      · simp at hop
    · simp at ha
  | fk _ ho _=>rw[ho] at ha; simp at ha
  | dE _ ho _ _ _ _=>rw[ho] at ha; simp at ha
  | call _ ho _ _ _ _ _=>rw[ho] at ha; simp at ha
theorem DA {o:Oper} {T:Env} {h h':aw} {v:V} {rd wr:List Nat} {call:Bool} {t id i j:Nat} (st:cn P n all o T h v h' rd wr call) (ha:gz o=some t) (ht:T t=.ptr id i j):wr=[id]∧call=false:=by
  unfold gz at ha
  split at ha
  · rename_i ty t' x ho hg
    simp at ha; subst ha
    have hgv:bW n all T o=some true:=by unfold bW; rw[hg]
    cases st with
    | skip hs=>rw[hgv] at hs; simp at hs
    | op _ hop =>
      have e1:ev T (.tmp t')=.ptr id i j:=ht
      simp only[bw,ho,e1,kL] at hop
      split at hop
      · split at hop
        · simp only[Option.some.injEq,Prod.mk.injEq] at hop
          obtain ⟨_,he,_⟩:=hop
          rw[← he]; exact ⟨rfl,rfl⟩
        · simp at hop
      · simp at hop
    | fk _ ho' _=>rw[ho] at ho'; simp at ho'
    | dE _ ho' _ _ _ _=>rw[ho] at ho'; simp at ho'
    | call _ ho' _ _ _ _ _=>rw[ho] at ho'; simp at ho'
  · simp at ha
theorem EB {o:Oper} {T:Env} {h h':aw} {v:V} {rd wr:List Nat} {call:Bool} (st:cn P n all o T h v h' rd wr call) (ha:xx o=true):wr=[]∧call=false∧∀ id,id∈rd→id < h.length:=by
  unfold xx at ha
  cases st with
  | skip _=>exact ⟨rfl,rfl,fun id hid=>by simp at hid⟩
  | op _ hop =>
    split at ha
    · rename_i e a ho
      simp only[bw,ho,iz] at hop
      split at hop
      · rename_i id i j hx
        split at hop
        · rename_i z es hH
          split at hop
          · simp only[Option.map_eq_some_iff] at hop
            obtain ⟨_,_,hop⟩:=hop
            simp at hop
            obtain ⟨_,rfl,rfl⟩:=hop
            refine ⟨rfl,rfl,fun id' hid=>?_⟩
            simp at hid; subst hid
            exact fP (by rw[hH]; simp)
          · simp at hop
        · simp at hop
      · simp only[Option.map_eq_some_iff] at hop
        obtain ⟨_,_,hop⟩:=hop
        simp at hop
        obtain ⟨_,rfl,rfl⟩:=hop
        exact ⟨rfl,rfl,fun id hid=>by simp at hid⟩
      · simp at hop
    · simp at ha
  | fk _ ho _=>rw[ho] at ha; simp at ha
  | dE _ ho _ _ _ _=>rw[ho] at ha; simp at ha
  | call _ ho _ _ _ _ _=>rw[ho] at ha; simp at ha
theorem pB {T T':Env} {h h':aw} {recs:List Rec} (tr:Tr P n all all T h recs T' h') {i k:Nat} {a b:Rec} (hp:s6 all i k=true) (ha:recs[i]?=some a) (hb:recs[k]?=some b):ju a b:=by
  unfold s6 at hp
  split at hp
  · rename_i oa ob hoa hob
    rw[Bool.and_eq_true] at hp
    obtain ⟨hl,hp⟩:=hp
    split at hp
    · rename_i t hst
      rw[List.any_eq_true] at hp
      obtain ⟨j,hj,hp⟩:=hp
      rw[List.mem_range] at hj
      rw[Bool.and_eq_true,decide_eq_true_eq] at hp
      obtain ⟨hij,hown⟩:=hp
      unfold Jv at hown
      split at hown
      · rename_i oj hoj
        simp only[Bool.and_eq_true,beq_iff_eq,List.all_eq_true,bne_iff_ne,ne_eq,Option.isNone_iff_eq_none] at hown
        obtain ⟨⟨⟨w1,w2⟩,w3⟩,w4⟩:=hown
        obtain ⟨T1,h1,v1,h2,rd1,Kr,c1,recs1,e1,e2,e3,e4,e5,_⟩:=tr.at_ i oa hoa
        obtain ⟨Tj,hj1,vj,hj2,rdj,wrj,cj,recsj,f1,f2,f3,f4,f5,_⟩:=e4.at_ (j - (i+1)) oj (by rw[List.getElem?_drop,show i+1+(j - (i+1))=j by omega]; exact hoj)
        have hdr:(all.drop (i+1)).drop (j - (i+1)+1)=all.drop (j+1):=by rw[List.drop_drop]; congr 1; omega
        rw[hdr] at f4
        obtain ⟨Tk,hk1,vk,hk2,rdk,wrk,ck,recsk,g1,g2,g3,_,_,g6⟩:=f4.at_ (k - (j+1)) ob (by rw[List.getElem?_drop,show j+1+(k - (j+1))=k by omega]; exact hob)
        rw[ha] at e1
        have hae:=(Option.some.inj e1)
        have hbe:recs[k]?=some ⟨rdk,wrk,ck,hk1.length,hk2.length⟩:=by
          rw[← g1,f5,e5]; congr 1; omega
        rw[hb] at hbe
        have hbe:=Option.some.inj hbe
        have hv:=D9 f2 w3 w2
        have hTk:Tk t=.ptr hj1.length 0 0:=by
          rw[g6 t fun o' ho'=>w4 o' ho',w1,hv]
          simp[Env.put]
        obtain ⟨s1,s2⟩:=DA g2 hst hTk
        obtain ⟨l1,l2,l3⟩:=EB e2 hl
        rw[hae,hbe]
        have hlen:h1.length≤h2.length:=by
          cases e2 with
          | skip=>exact Nat.le_refl _
          | op _ _=>rename_i au _ _; cases au <;> simp[aQ.apply]
          | fk _ _ _=>exact Nat.le_refl _
          | dE _ _ _ _ _ _=>exact Nat.le_refl _
          | call _ _ _ _ ha _ _=>exact ha.1
        refine ⟨fun id hid=>by simp[l1] at hid,fun id hid=>?_,fun hc=>by simp[l2] at hc,fun _=>l1,fun id hid=>?_⟩
        · simp only[s1,List.mem_singleton] at hid
          subst hid
          intro hr
          have:=l3 _ hr
          omega
        · simp only[s1,List.mem_singleton] at hid
          subst hid
          simp only
          omega
      · simp at hown
    · simp at hp
  · simp at hp
theorem Hx {ls:List Nat} {recs:List Rec} {T T':Env} {hp hp':aw} (tr:Tr P n all all T hp recs T' hp') (h:zq all ls=true) (hl:ls.length=recs.length) (hr:∀ (i x:Nat) (r:Rec),ls[i]?=some x→recs[i]?=some r→gC x r.rd r.wr r.call r.lo r.hi):nY all recs:=by
  intro i k a b hik ha hb ho
  have hi:i < recs.length:=(List.getElem?_eq_some_iff.1 ha).1
  have hk:k < recs.length:=(List.getElem?_eq_some_iff.1 hb).1
  unfold zq at h
  simp only[List.all_eq_true] at h
  have h1:=h (ls[i]'(by omega),i) (by rw[List.mem_zipIdx_iff_getElem?]; simp[List.getElem?_eq_getElem (show i < ls.length by omega)])
    (ls[k]'(by omega),k) (by rw[List.mem_zipIdx_iff_getElem?]; simp[List.getElem?_eq_getElem (show k < ls.length by omega)])
  have la:=hr i _ a (List.getElem?_eq_getElem (by omega)) ha
  have lb:=hr k _ b (List.getElem?_eq_getElem (by omega)) hb
  simp only[hik,decide_true,Bool.not_true,ho,Bool.false_or,Bool.or_eq_true,beq_iff_eq,Bool.and_eq_true,decide_eq_true_eq] at h1
  rcases h1 with ((h1 | h1) | h1) | h1
  · obtain ⟨e1,e2,e3,e4⟩:=la.1 h1
    exact ⟨fun id hid=>by simp[e2] at hid,fun id _=>by simp[e1],fun hc=>by simp[e3] at hc,fun _=>e2,fun id _ hx=>by omega⟩
  · obtain ⟨e1,e2,e3,e4⟩:=lb.1 h1
    exact ⟨fun id _=>by simp[e1],fun id hid=>by simp[e2] at hid,fun _=>e2,fun hc=>by simp[e3] at hc,fun id hid=>by simp[e2] at hid⟩
  · have e1:=la.2 h1.1
    have e2:=lb.2 h1.2
    exact ⟨fun id hid=>by simp[e1] at hid,fun id hid=>by simp[e2] at hid,fun _=>e2,fun _=>e1,fun id hid=>by simp[e2] at hid⟩
  · exact pB tr h1 ha hb
theorem Tr.keep {os:List Oper} {T T':Env} {h h':aw} {recs:List Rec} (tr:Tr P n all os T h recs T' h') {t:Nat} (ht:∀ o∈os,o.dst≠some t):T' t=T t:=by
  induction tr with
  | nil=>rfl
  | @cons o0 rest T T' h h1 h' v rd wr call recs st hd tr ih =>
    rw[ih fun o ho=>ht o (by simp[ho])]
    have:=ht o0 (by simp)
    cases hdst:o0.dst with
    | none=>rfl
    | some d=>simp only[Env.put]; rw[if_neg]; rintro rfl; exact this hdst
theorem qn {o:Oper} {T:Env} {h h':aw} {v:V} {rd wr:List Nat} {call:Bool} {t:Nat} (st:cn P n all o T h v h' rd wr call) (ha:mc o=some t):wr=[]∧call=false∧h'.length=h.length∧∀ id,id∈rd→∃ i j,T t=.ptr id i j:=by
  unfold mc at ha
  split at ha
  · rename_i e t' ho
    simp at ha; subst ha
    cases st with
    | skip _=>exact ⟨rfl,rfl,rfl,fun id hid=>by simp at hid⟩
    | op _ hop =>
      simp only[bw,ho,iz] at hop
      split at hop
      · rename_i id i j hx
        split at hop
        · split at hop
          · simp only[Option.map_eq_some_iff] at hop
            obtain ⟨_,_,hop⟩:=hop
            simp at hop
            obtain ⟨_,rfl,rfl⟩:=hop
            refine ⟨rfl,rfl,rfl,fun id' hid=>?_⟩
            simp at hid; subst hid
            exact ⟨i,j,hx⟩
          · simp at hop
        · simp at hop
      · simp only[Option.map_eq_some_iff] at hop
        obtain ⟨_,_,hop⟩:=hop
        simp at hop
        obtain ⟨_,rfl,rfl⟩:=hop
        exact ⟨rfl,rfl,rfl,fun id hid=>by simp at hid⟩
      · simp at hop
    | fk _ ho' _=>rw[ho] at ho'; simp at ho'
    | dE _ ho' _ _ _ _=>rw[ho] at ho'; simp at ho'
    | call _ ho' _ _ _ _ _=>rw[ho] at ho'; simp at ho'
  · simp at ha
theorem qu {i t:Nat} (h:stays all i t=true):∀ o∈all.drop i,o.dst≠some t:=by
  intro o ho
  have:=List.all_eq_true.1 h o ho
  simpa using this
theorem tS {aps:List (Nat × Nat)} {T:Env} {K:Prop} (hA:rv aps T K):∀ p∈aps,eU (T p.1) (T p.2):=by
  induction aps with
  | nil=>intro p hp; simp at hp
  | cons q l ih =>
    intro p hp
    rcases List.mem_cons.1 hp with rfl | hp
    · exact hA.1
    · exact ih hA.2 p hp
theorem rv.rest {aps:List (Nat × Nat)} {T:Env} {K:Prop} (hA:rv aps T K):K:=by
  induction aps with
  | nil=>exact hA
  | cons q l ih=>exact ih hA.2
theorem kH {T T':Env} {h h':aw} {recs:List Rec} (tr:Tr P n all all T h recs T' h') {i t:Nat} {o:Oper} (ho:all[i]?=some o) (hs:stays all i t=true) {r:Rec} (hr:recs[i]?=some r) :
    ∃ T1 h1 v h2,cn P n all o T1 h1 v h2 r.rd r.wr r.call∧r.lo=h1.length∧r.hi=h2.length∧T1 t=T' t:=by
  obtain ⟨T1,h1,v,h2,rd,wr,call,recs2,e1,e2,e3,e4,e5,e6⟩:=tr.at_ i o ho
  rw[hr] at e1
  have e1:=Option.some.inj e1
  subst e1
  refine ⟨T1,h1,v,h2,e2,rfl,rfl,?_⟩
  have hk:=qu hs
  have hi:i < all.length:=(List.getElem?_eq_some_iff.1 ho).1
  have ho':all[i]=o:=(List.getElem?_eq_some_iff.1 ho).2
  rw[List.drop_eq_getElem_cons hi,ho'] at hk
  rw[e4.keep fun o' ho'=>hk o' (by simp[ho'])]
  have:=hk o (by simp)
  cases hdst:o.dst with
  | none=>rfl
  | some d=>simp only[Env.put]; rw[if_neg]; rintro rfl; exact this hdst
theorem sW {i a b j c d:Nat} (h:eU (.ptr i a b) (.ptr j c d)):i≠j:=h
theorem wx {i a b j c d e:Nat} (h:eU (.ptr i a b) (.sl j c d e)):i≠j:=h
theorem lP {o:Oper} {T:Env} {h h':aw} {v:V} {rd wr:List Nat} {call:Bool} {t:Nat} (st:cn P n all o T h v h' rd wr call) (ha:kb o=some t) :
    call=false∧∀ id,id∈wr→(∃ i j,T t=.ptr id i j)∨∃ a b c,T t=.sl id a b c:=by
  unfold kb at ha
  split at ha
  · rename_i t' hs
    simp at ha; subst ha
    unfold gz at hs
    split at hs
    · rename_i ty t2 x ho hg
      simp at hs; subst hs
      cases st with
      | skip _=>exact ⟨rfl,fun id hid=>by simp at hid⟩
      | op _ hop =>
        simp only[bw,ho,kL] at hop
        split at hop
        · rename_i id i j hx
          split at hop
          · split at hop
            · simp only[Option.some.injEq,Prod.mk.injEq] at hop
              obtain ⟨_,he,_⟩:=hop
              rw[← he]
              refine ⟨rfl,fun id' hid=>?_⟩
              simp[aQ.wr] at hid; subst hid
              exact .inl ⟨i,j,hx⟩
            · simp at hop
          · simp at hop
        · simp at hop
      | fk _ ho' _=>rw[ho] at ho'; simp at ho'
      | dE _ ho' _ _ _ _=>rw[ho] at ho'; simp at ho'
      | call _ ho' _ _ _ _ _=>rw[ho] at ho'; simp at ho'
    · simp at hs
  · unfold FC at ha
    split at ha
    · rename_i args ats ho hg
      split at ha
      · rename_i t2 y hl
        simp at ha; subst ha
        cases st with
        | skip _=>exact ⟨rfl,fun id hid=>by simp at hid⟩
        | op _ hop =>
          simp only[bw,ho,hl] at hop
          split at hop
          · unfold iN at hop
            split at hop
            · split at hop
              · simp at hop
              · split at hop
                · split at hop <;> first | (simp only[Option.some.injEq,Prod.mk.injEq] at hop; obtain ⟨_,he,_⟩:=hop; rw[← he]; exact ⟨rfl,fun id' hid=>by simp[aQ.wr] at hid⟩) | simp at hop
                · split at hop
                  · simp at hop
                  · split at hop
                    · split at hop
                      · simp only[Option.some.injEq,Prod.mk.injEq] at hop
                        obtain ⟨_,he,_⟩:=hop
                        rw[← he]; exact ⟨rfl,fun id' hid=>by simp[aQ.wr] at hid⟩
                      · simp at hop
                    · rename_i id off len esz hx
                      split at hop
                      · split at hop
                        · simp only[Option.some.injEq,Prod.mk.injEq] at hop
                          obtain ⟨_,he,_⟩:=hop
                          rw[← he]
                          refine ⟨rfl,fun id' hid=>?_⟩
                          simp[aQ.wr] at hid; subst hid
                          exact .inr ⟨off,len,esz,hx⟩
                        · simp at hop
                      · simp at hop
                    · simp at hop
            · simp at hop
          · split at hop
            · unfold p9 at hop
              repeat' (split at hop)
              all_goals first | (simp only[Option.some.injEq,Prod.mk.injEq] at hop; obtain ⟨_,he,_⟩:=hop; rw[← he]; exact ⟨rfl,fun id' hid=>by simp[aQ.wr] at hid⟩) | simp at hop
            · simp at hop
        | fk _ ho' _=>rw[ho] at ho'; simp at ho'
        | dE _ ho' _ _ _ _=>rw[ho] at ho'; simp at ho'
        | call _ ho' _ _ _ _ _=>rw[ho] at ho'; simp at ho'
      · simp at ha
    · simp at ha
theorem HJ {o:Oper} {T:Env} {h h':aw} {v:V} {rd wr:List Nat} {call:Bool} (st:cn P n all o T h v h' rd wr call) (ha:Ab o=true):rd=[]∧wr=[]∧call=false:=by
  unfold Ab at ha
  cases st with
  | skip _=>exact ⟨rfl,rfl,rfl⟩
  | op _ hop =>
    split at ha
    · rename_i ty len parts ho
      simp only[bw,ho,ej] at hop
      have key:∀ {x:Option (V × aQ × List Nat)} {e:aQ},x=some (v,e,rd)→(∀ y,x=some y→y.2.1.wr=[]∧y.2.2=[])→rd=[]∧e.wr=[]:=fun hx hy=>⟨(hy _ hx).2,(hy _ hx).1⟩
      obtain ⟨k1,k2⟩:=key hop (by
        intro y hy
        repeat' (first | (split at hy) | (simp only[Option.some.injEq] at hy; subst hy; exact ⟨rfl,rfl⟩) | (simp at hy; done)))
      exact ⟨k1,k2,rfl⟩
    · rename_i e ho
      simp only[bw,ho] at hop
      split at hop
      · unfold hQ at hop
        split at hop
        · simp only[Option.some.injEq,Prod.mk.injEq] at hop
          obtain ⟨_,he,hr⟩:=hop
          rw[← he,← hr]; exact ⟨rfl,rfl,rfl⟩
        · simp at hop
      · simp at hop
    · simp at ha
  | fk _ ho _=>rw[ho] at ha; simp at ha
  | dE _ ho _ _ _ _=>rw[ho] at ha; simp at ha
  | call _ ho _ _ _ _ _=>rw[ho] at ha; simp at ha
theorem oX {o:Oper} {t:Nat} (h:gz o=some t):kb o=some t:=by unfold kb; rw[h]
theorem E6 {T T':Env} {h h':aw} {recs:List Rec} (tr:Tr P n all all T h recs T' h') {i k:Nat} {a b:Rec} {p:Nat × Nat} (hp:uV all i k=some p) (hA:eU (T' p.1) (T' p.2)) (ha:recs[i]?=some a) (hb:recs[k]?=some b):ju a b:=by
  unfold uV at hp
  split at hp
  · rename_i oa ob hoa hob
    split at hp
    · rename_i s t hl hs
      split at hp
      · rename_i hst
        simp only[Bool.and_eq_true] at hst
        simp at hp; subst hp
        obtain ⟨Ta,ha1,va,ha2,sa,la1,la2,ea⟩:=kH tr hoa hst.1 ha
        obtain ⟨Tb,hb1,vb,hb2,sb,_,_,eb⟩:=kH tr hob hst.2 hb
        obtain ⟨l1,l2,l3,l4⟩:=qn sa hl
        have hA:eU (Ta s) (Tb t):=by rw[ea,eb]; exact hA
        refine ⟨fun id hid=>by simp[l1] at hid,fun id hid hr=>?_,fun hc=>by simp[l2] at hc,fun _=>l1,fun id _ hx=>by omega⟩
        obtain ⟨i',j',e1⟩:=l4 id hr
        rw[e1] at hA
        rcases (lP sb (oX hs)).2 id hid with ⟨c,d,hy⟩ | ⟨c,d,e,hy⟩
        · rw[hy] at hA; exact sW hA rfl
        · rw[hy] at hA; exact wx hA rfl
      · simp at hp
    · split at hp
      · rename_i t s hs hl
        split at hp
        · rename_i hst
          simp only[Bool.and_eq_true] at hst
          simp at hp; subst hp
          obtain ⟨Ta,ha1,va,ha2,sa,la1,la2,ea⟩:=kH tr hoa hst.1 ha
          obtain ⟨Tb,hb1,vb,hb2,sb,lb1,lb2,eb⟩:=kH tr hob hst.2 hb
          obtain ⟨l1,l2,l3,l4⟩:=qn sb hl
          have hA:eU (Tb s) (Ta t):=by rw[ea,eb]; exact hA
          refine ⟨fun id hid hr=>?_,fun id hid=>by simp[l1] at hid,fun hc=>l1,fun hc=>by simp[l2] at hc,fun id hid=>by simp[l1] at hid⟩
          obtain ⟨i',j',e1⟩:=l4 id hr
          rw[e1] at hA
          rcases (lP sa (oX hs)).2 id hid with ⟨c,d,hy⟩ | ⟨c,d,e,hy⟩
          · rw[hy] at hA; exact sW hA rfl
          · rw[hy] at hA; exact wx hA rfl
        · simp at hp
      · simp at hp
  · simp at hp
theorem Ee {T T':Env} {h h':aw} {recs:List Rec} (tr:Tr P n all all T h recs T' h') {i k:Nat} {a b:Rec} {p:Nat × Nat} (hp:xe all i k=some p) (hA:eU (T' p.1) (T' p.2)) (ha:recs[i]?=some a) (hb:recs[k]?=some b):ju a b:=by
  unfold xe at hp
  split at hp
  · rename_i oa ob hoa hob
    split at hp
    · rename_i s t hl hs
      split at hp
      · rename_i hst
        simp only[Bool.and_eq_true] at hst
        simp at hp; subst hp
        obtain ⟨Ta,ha1,va,ha2,sa,la1,la2,ea⟩:=kH tr hoa hst.1 ha
        obtain ⟨Tb,hb1,vb,hb2,sb,_,_,eb⟩:=kH tr hob hst.2 hb
        obtain ⟨l1,l2,l3,l4⟩:=qn sa hl
        have hA:eU (Ta s) (Tb t):=by rw[ea,eb]; exact hA
        refine ⟨fun id hid=>by simp[l1] at hid,fun id hid hr=>?_,fun hc=>by simp[l2] at hc,fun _=>l1,fun id _ hx=>by omega⟩
        obtain ⟨i',j',e1⟩:=l4 id hr
        rw[e1] at hA
        rcases (lP sb hs).2 id hid with ⟨c,d,hy⟩ | ⟨c,d,e,hy⟩
        · rw[hy] at hA; exact sW hA rfl
        · rw[hy] at hA; exact wx hA rfl
      · simp at hp
    · split at hp
      · rename_i t s hs hl
        split at hp
        · rename_i hst
          simp only[Bool.and_eq_true] at hst
          simp at hp; subst hp
          obtain ⟨Ta,ha1,va,ha2,sa,la1,la2,ea⟩:=kH tr hoa hst.1 ha
          obtain ⟨Tb,hb1,vb,hb2,sb,lb1,lb2,eb⟩:=kH tr hob hst.2 hb
          obtain ⟨l1,l2,l3,l4⟩:=qn sb hl
          have hA:eU (Tb s) (Ta t):=by rw[ea,eb]; exact hA
          refine ⟨fun id hid hr=>?_,fun id hid=>by simp[l1] at hid,fun hc=>l1,fun hc=>by simp[l2] at hc,fun id hid=>by simp[l1] at hid⟩
          obtain ⟨i',j',e1⟩:=l4 id hr
          rw[e1] at hA
          rcases (lP sa hs).2 id hid with ⟨c,d,hy⟩ | ⟨c,d,e,hy⟩
          · rw[hy] at hA; exact sW hA rfl
          · rw[hy] at hA; exact wx hA rfl
        · simp at hp
      · simp at hp
  · simp at hp
theorem E4 {l:List (Nat × Nat)} {aps:List (Nat × Nat)} (h:vm all l=some aps):∀ q∈l,∃ p∈aps,uV all q.1 q.2=some p:=by
  induction l generalizing aps with
  | nil=>intro q hq; simp at hq
  | cons x r ih =>
    obtain ⟨i,k⟩:=x
    simp only[vm] at h
    split at h
    · rename_i p l' h1 h2
      simp at h; subst h
      intro q hq
      rcases List.mem_cons.1 hq with rfl | hq
      · exact ⟨p,by simp,h1⟩
      · obtain ⟨p',hp',e⟩:=ih h2 q hq
        exact ⟨p',by simp[hp'],e⟩
    · simp at h
theorem D0 {l:List (Nat × Nat)} {aps:List (Nat × Nat)} (h:o6 all l=some aps):∀ q∈l,∃ ps,(∀ p∈ps,p∈aps)∧tb all q.1 q.2=some ps:=by
  induction l generalizing aps with
  | nil=>intro q hq; simp at hq
  | cons x r ih =>
    obtain ⟨i,k⟩:=x
    simp only[o6] at h
    split at h
    · rename_i p l' h1 h2
      simp at h; subst h
      intro q hq
      rcases List.mem_cons.1 hq with rfl | hq
      · exact ⟨p,fun x hx=>by simp[hx],h1⟩
      · obtain ⟨p',hp',e⟩:=ih h2 q hq
        exact ⟨p',fun x hx=>by simp[hp' x hx],e⟩
    · simp at h
theorem Gn {H:View} {x:V} {xs:List (List V)} {rd:List Nat} (h:bA H x=some (xs,rd)):∀ id,id∈rd→∃ a b c,x=.sl id a b c:=by
  unfold bA at h
  split at h
  · simp at h; obtain ⟨_,rfl⟩:=h; intro id hid; simp at hid
  · simp at h; obtain ⟨_,rfl⟩:=h; intro id hid; simp at hid
  · simp at h; obtain ⟨_,rfl⟩:=h; intro id hid; simp at hid
  · simp at h; obtain ⟨_,rfl⟩:=h; intro id hid; simp at hid
  · split at h
    · split at h
      · simp at h
        obtain ⟨_,rfl⟩:=h
        intro id hid
        simp at hid; subst hid
        exact ⟨_,_,_,rfl⟩
      · simp at h
    · simp at h
  · simp at h; obtain ⟨_,rfl⟩:=h; intro id hid; simp at hid
  · simp at h
theorem zH {o:Oper} {T:Env} {h h':aw} {v:V} {rd wr:List Nat} {call:Bool} {t y d:Nat} (st:cn P n all o T h v h' rd wr call) (ha:sY o=some (t,y,d)) :
    call=false∧(∀ id,id∈wr→∃ a b c,T t=.sl id a b c)∧(∀ id,id∈rd→(∃ a b c,T t=.sl id a b c)∨∃ a b c,T y=.sl id a b c)∧(h.length < h'.length→∃ a b c,v=.sl h.length a b c)∧h'.length≤h.length+1∧o.dst=some d:=by
  unfold sY at ha
  split at ha
  · rename_i args ats d' ho hg hd
    split at ha
    · rename_i t2 y2 hl
      simp at ha
      obtain ⟨rfl,rfl,rfl⟩:=ha
      cases st with
      | skip _=>exact ⟨rfl,fun id hid=>by simp at hid,fun id hid=>by simp at hid,fun h=>by omega,by omega,hd⟩
      | op _ hop =>
        simp only[bw,ho,hl] at hop
        have nn:∀ {v':V} {eff':aQ} {rd':List Nat},some (v',aQ.none,([]:List Nat))=some (v,eff',rd')→false=false∧(∀ id,id∈eff'.wr→∃ a b c,T t2=.sl id a b c)∧(∀ id,id∈rd'→(∃ a b c,T t2=.sl id a b c)∨∃ a b c,T y2=.sl id a b c)∧(h.length < (eff'.apply h).length→∃ a b c,v=.sl h.length a b c)∧(eff'.apply h).length≤h.length+1∧o.dst=some d':=by
          intro v' eff' rd' e
          simp only[Option.some.injEq,Prod.mk.injEq] at e
          obtain ⟨_,rfl,rfl⟩:=e
          exact ⟨rfl,fun id hid=>by simp[aQ.wr] at hid,fun id hid=>by simp at hid,fun h=>by simp[aQ.apply] at h,by simp[aQ.apply],hd⟩
        split at hop
        · unfold iN at hop
          split at hop
          · rename_i e xs rd' _ hel
            have hrd:=Gn hel
            split at hop
            · simp at hop
            · split at hop
              · split at hop <;> first | exact nn hop | simp at hop
              · split at hop
                · simp at hop
                · split at hop
                  · split at hop
                    · simp only[Option.some.injEq,Prod.mk.injEq] at hop
                      obtain ⟨rfl,rfl,rfl⟩:=hop
                      exact ⟨rfl,fun id hid=>by simp[aQ.wr] at hid,fun id hid=>.inr (hrd id hid),fun _=>⟨_,_,_,rfl⟩,by simp[aQ.apply],hd⟩
                    · simp at hop
                  · rename_i id off len esz hx
                    split at hop
                    · split at hop
                      · simp only[Option.some.injEq,Prod.mk.injEq] at hop
                        obtain ⟨rfl,rfl,rfl⟩:=hop
                        refine ⟨rfl,fun id' hid=>?_,fun id' hid=>?_,fun _=>⟨_,_,_,rfl⟩,by simp[aQ.apply],hd⟩
                        · simp[aQ.wr] at hid; subst hid
                          exact ⟨off,len,esz,hx⟩
                        · rcases List.mem_cons.1 hid with rfl | hid
                          · exact .inl ⟨off,len,esz,hx⟩
                          · exact .inr (hrd id' hid)
                      · simp at hop
                    · simp at hop
                  · simp at hop
          · simp at hop
        · split at hop
          · unfold p9 at hop
            split at hop
            · split at hop
              · split at hop
                · exact nn hop
                · split at hop
                  · simp only[Option.some.injEq,Prod.mk.injEq] at hop
                    obtain ⟨rfl,rfl,rfl⟩:=hop
                    exact ⟨rfl,fun id hid=>by simp[aQ.wr] at hid,fun id hid=>by simp at hid,fun _=>⟨_,_,_,rfl⟩,by simp[aQ.apply],hd⟩
                  · simp at hop
              · simp at hop
            · simp at hop
          · simp at hop
      | fk _ ho' _=>rw[ho] at ho'; simp at ho'
      | dE _ ho' _ _ _ _=>rw[ho] at ho'; simp at ho'
      | call _ ho' _ _ _ _ _=>rw[ho] at ho'; simp at ho'
    · simp at ha
  · simp at ha
theorem EN {T T':Env} {h h':aw} {recs:List Rec} (tr:Tr P n all all T h recs T' h') {i:Nat} {o:Oper} (ho:all[i]?=some o) {r:Rec} (hr:recs[i]?=some r) :
    ∃ T1 h1 v h2,cn P n all o T1 h1 v h2 r.rd r.wr r.call∧r.lo=h1.length∧r.hi=h2.length∧(∀ t,stays all i t=true→T1 t=T' t)∧∀ d,o.dst=some d→stays all (i+1) d=true→T' d=v:=by
  obtain ⟨T1,h1,v,h2,rd,wr,call,recs2,e1,e2,e3,e4,e5,e6⟩:=tr.at_ i o ho
  rw[hr] at e1
  have e1:=Option.some.inj e1
  subst e1
  refine ⟨T1,h1,v,h2,e2,rfl,rfl,fun t hs=>?_,fun d hd hs=>?_⟩
  · have hk:=qu hs
    have hi:i < all.length:=(List.getElem?_eq_some_iff.1 ho).1
    have ho':all[i]=o:=(List.getElem?_eq_some_iff.1 ho).2
    rw[List.drop_eq_getElem_cons hi,ho'] at hk
    rw[e4.keep fun o' ho'=>hk o' (by simp[ho'])]
    have:=hk o (by simp)
    cases hdst:o.dst with
    | none=>rfl
    | some d=>simp only[Env.put]; rw[if_neg]; rintro rfl; exact this hdst
  · rw[e4.keep (qu hs),hd]
    simp[Env.put]
theorem rJ {i a b c j d e f:Nat} (h:eU (.sl i a b c) (.sl j d e f)):i≠j:=h
theorem Ew {T T':Env} {h h':aw} {recs:List Rec} (tr:Tr P n all all T h recs T' h') {i k:Nat} {a b:Rec} {ps:List (Nat × Nat)} (hp:xj all i k=some ps) (hA:∀ p∈ps,eU (T' p.1) (T' p.2)) (ha:recs[i]?=some a) (hb:recs[k]?=some b):ju a b:=by
  unfold xj at hp
  split at hp
  · rename_i oa ob hoa hob
    split at hp
    · rename_i t y d t' y' d' h1 h2
      split at hp
      · rename_i hst
        simp only[Bool.and_eq_true] at hst
        obtain ⟨⟨⟨⟨s1,s2⟩,s3⟩,s4⟩,s5⟩:=hst
        simp at hp; subst hp
        have a1:=hA (t,t') (by simp)
        have a2:=hA (t,y') (by simp)
        have a3:=hA (t',y) (by simp)
        have a4:=hA (d,t') (by simp)
        simp only at a1 a2 a3 a4
        obtain ⟨Ta,ha1,va,ha2,sa,la1,la2,ea,da⟩:=EN tr hoa ha
        obtain ⟨Tb,hb1,vb,hb2,sb,_,_,eb,_⟩:=EN tr hob hb
        obtain ⟨p1,p2,p3,p4,p5,p6⟩:=zH sa h1
        obtain ⟨q1,q2,q3,_⟩:=zH sb h2
        have da:=da d p6 s3
        rw[← ea t s1,← eb t' s4] at a1
        rw[← ea t s1,← eb y' s5] at a2
        rw[← eb t' s4,← ea y s2] at a3
        rw[da,← eb t' s4] at a4
        refine ⟨fun id hid hr=>?_,fun id hid hr=>?_,fun hc=>by rw[p1] at hc; simp at hc,fun hc=>by rw[q1] at hc; simp at hc,fun id hid hx=>?_⟩
        · obtain ⟨_,_,_,e⟩:=p2 id hid
          rcases q3 id hr with ⟨_,_,_,e'⟩ | ⟨_,_,_,e'⟩
          · rw[e,e'] at a1; exact rJ a1 rfl
          · rw[e,e'] at a2; exact rJ a2 rfl
        · obtain ⟨_,_,_,e⟩:=q2 id hid
          rcases p3 id hr with ⟨_,_,_,e'⟩ | ⟨_,_,_,e'⟩
          · rw[e',e] at a1; exact rJ a1 rfl
          · rw[e,e'] at a3; exact rJ a3 rfl
        · obtain ⟨_,_,_,e⟩:=q2 id hid
          obtain ⟨_,_,_,e'⟩:=p4 (by omega)
          have:id=ha1.length:=by omega
          subst this
          rw[e,e'] at a4; exact rJ a4 rfl
      · simp at hp
    · simp at hp
  · simp at hp
theorem DR {T T':Env} {h h':aw} {recs:List Rec} (tr:Tr P n all all T h recs T' h') {i k:Nat} {a b:Rec} {ps:List (Nat × Nat)} (hp:tb all i k=some ps) (hA:∀ p∈ps,eU (T' p.1) (T' p.2)) (ha:recs[i]?=some a) (hb:recs[k]?=some b):ju a b:=by
  unfold tb at hp
  split at hp
  · rename_i p h1
    simp at hp; subst hp
    exact Ee tr h1 (hA p (by simp)) ha hb
  · exact Ew tr hp hA ha hb
theorem GW {ls:List Nat} {recs:List Rec} {T T':Env} {hp hp':aw} {aps:List (Nat × Nat)} (tr:Tr P n all all T hp recs T' hp') (h:vm all (gF all ls)=some aps) (hA:∀ p∈aps,eU (T' p.1) (T' p.2)) (hl:ls.length=recs.length)
    (hr:∀ (i x:Nat) (r:Rec),ls[i]?=some x→recs[i]?=some r→gC x r.rd r.wr r.call r.lo r.hi):nY all recs:=by
  intro i k a b hik ha hb ho
  have hi:i < recs.length:=(List.getElem?_eq_some_iff.1 ha).1
  have hk:k < recs.length:=(List.getElem?_eq_some_iff.1 hb).1
  have la:=hr i _ a (List.getElem?_eq_getElem (by omega)) ha
  have lb:=hr k _ b (List.getElem?_eq_getElem (by omega)) hb
  have mi:(ls[i]'(by omega),i)∈ls.zipIdx:=by rw[List.mem_zipIdx_iff_getElem?]; simp[List.getElem?_eq_getElem (show i < ls.length by omega)]
  have mk:(ls[k]'(by omega),k)∈ls.zipIdx:=by rw[List.mem_zipIdx_iff_getElem?]; simp[List.getElem?_eq_getElem (show k < ls.length by omega)]
  by_cases h1:rK all (ls[i]'(by omega)) i (ls[k]'(by omega)) k=true
  · unfold rK at h1
    simp only[hik,decide_true,Bool.not_true,ho,Bool.false_or,Bool.or_eq_true,beq_iff_eq,Bool.and_eq_true,decide_eq_true_eq] at h1
    rcases h1 with ((h1 | h1) | h1) | h1
    · obtain ⟨e1,e2,e3,e4⟩:=la.1 h1
      exact ⟨fun id hid=>by simp[e2] at hid,fun id _=>by simp[e1],fun hc=>by simp[e3] at hc,fun _=>e2,fun id _ hx=>by omega⟩
    · obtain ⟨e1,e2,e3,e4⟩:=lb.1 h1
      exact ⟨fun id _=>by simp[e1],fun id hid=>by simp[e2] at hid,fun _=>e2,fun hc=>by simp[e3] at hc,fun id hid=>by simp[e2] at hid⟩
    · have e1:=la.2 h1.1
      have e2:=lb.2 h1.2
      exact ⟨fun id hid=>by simp[e1] at hid,fun id hid=>by simp[e2] at hid,fun _=>e2,fun _=>e1,fun id hid=>by simp[e2] at hid⟩
    · exact pB tr h1 ha hb
  · have hm:(i,k)∈gF all ls:=by
      unfold gF
      rw[List.mem_flatMap]
      refine ⟨_,mi,?_⟩
      rw[List.mem_filterMap]
      exact ⟨_,mk,by simp only; rw[if_neg h1]⟩
    obtain ⟨p,hp,e⟩:=E4 h (i,k) hm
    exact E6 tr e (hA p hp) ha hb
theorem yU {P:Program} {t:TypeId} {id:Nat} {q:V} {ok:Bool} {H1 H2:View} (h:H1 id=H2 id):dD P t (.mp id) q ok H1=dD P t (.mp id) q ok H2:=by
  unfold dD
  simp only[h]
theorem DT {P:Program} {t:TypeId} {id:Nat} {q:V} {H1 H2:View} (h:H1 id=H2 id):c9 P t (.mp id) q H1=c9 P t (.mp id) q H2:=by
  cases hm:dC P t with
  | none=>simp only[c9,hm]
  | some x=>simp only[c9,hm,h]
theorem HN {P:Program} {t:TypeId} {id:Nat} {q:V} {H:View} {v:V} {au:aQ} {rd:List Nat} (h:dD P t (.mp id) q false H=some (v,au,rd)):au=.none∧rd=[id]:=by
  simp only[dD,Bool.false_eq_true,if_false] at h
  repeat' (first | (simp only[Option.some.injEq,Prod.mk.injEq] at h; exact ⟨h.2.1.symm,h.2.2.symm⟩) | (split at h) | (simp at h; done))
theorem Gl {P:Program} {t:TypeId} {id:Nat} {q:V} {H:View} {v:V} {au:aQ} {rd:List Nat} (h:c9 P t (.mp id) q H=some (v,au,rd)):∃ obj,au=.dW id obj:=by
  cases hm:dC P t with
  | none=>simp[c9,hm] at h
  | some x =>
    simp only[c9,hm] at h
    repeat' (first | (simp only[Option.some.injEq,Prod.mk.injEq] at h; exact ⟨_,h.2.1.symm⟩) | (split at h) | (simp at h; done))
theorem Aq {o:Oper} {T:Env} {h h':aw} {v:V} {rd wr:List Nat} {call:Bool} (st:cn P n all o T h v h' rd wr call) (hg:bW n all T o=some true) (hb:∀ e x,o.op≠.box e x) (hc:∀ s d x,o.op≠.convert s d x) (hl:∀ c,o.op≠.call c) :
    ∃ au,bw P o T h.view h.length=some (v,au,rd)∧h'=au.apply h∧wr=au.wr∧call=false:=by
  cases st with
  | skip hs=>rw[hg] at hs; simp at hs
  | op _ hop=>exact ⟨_,hop,rfl,rfl,rfl⟩
  | fk _ ho _=>exact absurd ho (hb _ _)
  | dE _ ho _ _ _ _=>exact absurd ho (hc _ _ _)
  | call _ ho _ _ _ _ _=>exact absurd ho (hl _)
theorem I9 {recs:List Rec} {Ts:Nat→Env} {hs:Nat→aw} {vs:Nat→V} (hst:uS P n all recs Ts hs vs) (hl:recs.length=all.length) {k:Nat} (hk:k≤all.length) (hw:∀ j r,j < k→recs[j]?=some r→r.wr=[]) :
    ∀ j,j≤k→(hs 0).length≤(hs j).length∧∀ id,id < (hs 0).length→(hs j).view id=(hs 0).view id:=by
  intro j
  induction j with
  | zero=>intro _; exact ⟨Nat.le_refl _,fun _ _=>rfl⟩
  | succ j ih =>
    intro hj
    obtain ⟨l1,l2⟩:=ih (by omega)
    obtain ⟨st,_,_,_,_⟩:=hst j all[j] (recs[j]'(by omega)) (List.getElem?_eq_getElem (by omega)) (List.getElem?_eq_getElem (by omega))
    refine ⟨Nat.le_trans l1 (nJ st),fun id hid=>?_⟩
    rw[lY st (Nat.lt_of_lt_of_le hid l1) (by rw[hw j _ (by omega) (List.getElem?_eq_getElem (by omega))]; simp)]
    exact l2 id hid
theorem kr {recs:List Rec} {Ts:Nat→Env} {hs:Nat→aw} {vs:Nat→V} (hst:uS P n all recs Ts hs vs) (hl:recs.length=all.length) {i t:Nat} (h:stays all i t=true):∀ j,i≤j→j≤all.length→Ts j t=Ts i t:=by
  intro j hij hj
  refine sR (vs:=vs) (N:=all.length) (fun k o hk=>?_) rfl i j hij hj fun k o h1 h2 h3=>qu h o (by
    rw[List.mem_iff_getElem?]
    exact ⟨k - i,by rw[List.getElem?_drop,show i+(k - i)=k by omega]; exact h3⟩)
  have hk':k < all.length:=(List.getElem?_eq_some_iff.1 hk).1
  exact (hst k o (recs[k]'(by omega)) hk (List.getElem?_eq_getElem (by omega))).2.2.1
theorem zF {ls:List Nat} {recs:List Rec} {T T':Env} {hp hp':aw} {aps:List (Nat × Nat)} {tp:Option (Nat × Nat)} (tr:Tr P n all all T hp recs T' hp') (h:o6 all (zg all ls tp)=some aps) (hA:∀ p∈aps,eU (T' p.1) (T' p.2)) (hl:ls.length=recs.length)
    (hr:∀ (i x:Nat) (r:Rec),ls[i]?=some x→recs[i]?=some r→gC x r.rd r.wr r.call r.lo r.hi) (htol:∀ p,tp=some p→∃ tol,zp all ls p.1 p.2=some tol∧DG P tol.1 (T' tol.2.1) (T' tol.2.2) hp.view):Ef P n all recs T T' hp:=by
  have main:∀ i k a b,i < k→recs[i]?=some a→recs[k]?=some b→ordered (dk all []) i k=false→tp≠some (i,k)→ju a b:=by
    intro i k a b hik ha hb ho hne
    have hi:i < recs.length:=(List.getElem?_eq_some_iff.1 ha).1
    have hk:k < recs.length:=(List.getElem?_eq_some_iff.1 hb).1
    have la:=hr i _ a (List.getElem?_eq_getElem (by omega)) ha
    have lb:=hr k _ b (List.getElem?_eq_getElem (by omega)) hb
    have mi:(ls[i]'(by omega),i)∈ls.zipIdx:=by rw[List.mem_zipIdx_iff_getElem?]; simp[List.getElem?_eq_getElem (show i < ls.length by omega)]
    have mk:(ls[k]'(by omega),k)∈ls.zipIdx:=by rw[List.mem_zipIdx_iff_getElem?]; simp[List.getElem?_eq_getElem (show k < ls.length by omega)]
    by_cases h1:rK all (ls[i]'(by omega)) i (ls[k]'(by omega)) k=true
    · unfold rK at h1
      simp only[hik,decide_true,Bool.not_true,ho,Bool.false_or,Bool.or_eq_true,beq_iff_eq,Bool.and_eq_true,decide_eq_true_eq] at h1
      rcases h1 with ((h1 | h1) | h1) | h1
      · obtain ⟨e1,e2,e3,e4⟩:=la.1 h1
        exact ⟨fun id hid=>by simp[e2] at hid,fun id _=>by simp[e1],fun hc=>by simp[e3] at hc,fun _=>e2,fun id _ hx=>by omega⟩
      · obtain ⟨e1,e2,e3,e4⟩:=lb.1 h1
        exact ⟨fun id _=>by simp[e1],fun id hid=>by simp[e2] at hid,fun _=>e2,fun hc=>by simp[e3] at hc,fun id hid=>by simp[e2] at hid⟩
      · have e1:=la.2 h1.1
        have e2:=lb.2 h1.2
        exact ⟨fun id hid=>by simp[e1] at hid,fun id hid=>by simp[e2] at hid,fun _=>e2,fun _=>e1,fun id hid=>by simp[e2] at hid⟩
      · exact pB tr h1 ha hb
    · have hm:(i,k)∈gF all ls:=by
        unfold gF
        rw[List.mem_flatMap]
        refine ⟨_,mi,?_⟩
        rw[List.mem_filterMap]
        exact ⟨_,mk,by simp only; rw[if_neg h1]⟩
      by_cases hn:newAt all k=true
      · unfold newAt at hn
        split at hn
        · rename_i ob hob
          obtain ⟨T1,h1',v,h2,rd,wr,call,recs2,e1,e2,_⟩:=tr.at_ k ob hob
          rw[hb] at e1
          have e1:=Option.some.inj e1
          subst e1
          obtain ⟨n1,n2,n3⟩:=HJ e2 hn
          exact ⟨fun id _=>by simp[n1],fun id hid=>by simp[n2] at hid,fun _=>n2,fun hc=>by simp[n3] at hc,fun id hid=>by simp[n2] at hid⟩
        · simp at hn
      · obtain ⟨p,hp,e⟩:=D0 h (i,k) (by
          unfold zg
          rw[List.mem_filter]
          refine ⟨hm,?_⟩
          simp only[Bool.and_eq_true,Bool.not_eq_true',bne_iff_ne,ne_eq]
          exact ⟨by simpa using hn,hne⟩)
        exact DR tr e (fun q hq=>hA q (hp q hq)) ha hb
  cases tp with
  | none=>exact nY.Ks fun i k a b h1 h2 h3 h4=>main i k a b h1 h2 h3 h4 (by simp)
  | some p =>
    obtain ⟨i0,k0⟩:=p
    obtain ⟨tol,hto,htv⟩:=htol _ rfl
    intro Ts hs vs eT0 eh0 eTN hrl hst i
    by_cases hi:i=i0
    · subst hi
      refine ⟨some k0,fun k a b h1 h2 h3 h4 h5=>main i k a b h1 h2 h3 h4 (fun e=>h5 (by simp at e; rw[e])),fun k a b o hk ha hb ho=>?_⟩
      simp at hk; subst hk
      unfold zp at hto
      simp only at hto
      split at hto
      · rename_i oa ob hoa hob
        rw[ho] at hoa
        have hoa:=Option.some.inj hoa
        subst hoa
        split at hto
        · rename_i t m q t' m' q' hop1 hop2 hg1 hg2
          split at hto
          · rename_i hcond
            simp only[Bool.and_eq_true,beq_iff_eq,decide_eq_true_eq,List.all_eq_true,List.mem_range] at hcond
            obtain ⟨⟨⟨⟨⟨⟨⟨⟨rfl,rfl⟩,rfl⟩,s1⟩,s2⟩,s3⟩,s4⟩,hik⟩,hloud⟩:=hcond
            simp only[Option.some.injEq] at hto
            subst hto
            simp only at htv
            have hkl:k0 < all.length:=(List.getElem?_eq_some_iff.1 hob).1
            have hwr:∀ j r,j < k0→recs[j]?=some r→r.wr=[]:=fun j r hj hrj=>by
              have h1:=hloud j hj
              have hj':j < ls.length:=by omega
              rw[List.getD_eq_getElem?_getD,List.getElem?_eq_getElem hj'] at h1
              exact (hr j _ r (List.getElem?_eq_getElem hj') hrj).2 h1
            have hsame:=I9 hst hrl (Nat.le_of_lt hkl) hwr
            have em:∀ j,i≤j→j≤all.length→Ts j m=T' m:=fun j h1 h2=>by
              rw[← eTN,kr hst hrl s1 j h1 h2,kr hst hrl s1 all.length (by omega) (Nat.le_refl _)]
            have eq:∀ j,i≤j→j≤all.length→Ts j q=T' q:=fun j h1 h2=>by
              rw[← eTN,kr hst hrl s2 j h1 h2,kr hst hrl s2 all.length (by omega) (Nat.le_refl _)]
            obtain ⟨sti,_,_,hlo,hhi⟩:=hst i o a ho ha
            obtain ⟨stk,_,_,_,_⟩:=hst k0 ob b hob hb
            have gi:bW n all (Ts i) o=some true:=by unfold bW; rw[hg1]
            have gk:bW n all (Ts k0) ob=some true:=by unfold bW; rw[hg2]
            unfold DG at htv
            split at htv
            · rename_i id hid
              obtain ⟨⟨es0,c0,hmap⟩,htv⟩:=htv
              have hidl:id < hp.length:=fP (by rw[hmap]; simp)
              have hvk:(hs k0).view id=hp.view id:=by rw[(hsame k0 (Nat.le_refl _)).2 id (by rw[eh0]; exact hidl),eh0]
              have hvi:(hs i).view id=hp.view id:=by rw[(hsame i (Nat.le_of_lt hik)).2 id (by rw[eh0]; exact hidl),eh0]
              obtain ⟨effi,hopi,hi',wri,cai⟩:=Aq sti gi (by rw[hop1]; simp) (by rw[hop1]; simp) (by rw[hop1]; simp)
              obtain ⟨effk,hopk,hk',wrk,cak⟩:=Aq stk gk (by rw[hop2]; simp) (by rw[hop2]; simp) (by rw[hop2]; simp)
              simp only[bw,hop1] at hopi
              simp only[bw,hop2] at hopk
              have e1:ev (Ts i) (.tmp m)=.mp id:=(em i (Nat.le_refl _) (by omega)).trans hid
              have e2:ev (Ts i) (.tmp q)=T' q:=eq i (Nat.le_refl _) (by omega)
              have e3:ev (Ts k0) (.tmp m)=.mp id:=(em k0 (by omega) (by omega)).trans hid
              have e4:ev (Ts k0) (.tmp q)=T' q:=eq k0 (by omega) (by omega)
              rw[e1,e2] at hopi
              rw[e3,e4,DT hvk] at hopk
              obtain ⟨l1,l2⟩:=HN hopi
              obtain ⟨obj,l3⟩:=Gl hopk
              subst l1 l3
              have hkb:(hs (k0+1)).view id=obj:=by
                rw[hk',gZ (fun id' hid'=>by
                  simp only[aQ.wr,List.mem_singleton] at hid'
                  subst hid'
                  rw[hvk,hmap]; simp)]
                simp[aQ.view,View.set]
              refine ⟨hik,wri,cai,by rw[hlo,hhi,hi']; rfl,fun g hg hgv=>?_⟩
              have hidi:id < (hs i).length:=fP (by rw[hvi,hmap]; simp)
              have hgid:g.view id=(hp.view.set id obj) id:=by
                rw[hgv id hidi,wrk,if_pos (by simp[aQ.wr]),hkb]
                simp[View.set]
              have hlk:=htv _ _ _ hopk
              have hfin:bw P o (Ts i) g.view g.length=some (vs i,.none,a.rd):=by
                simp only[bw,hop1]
                rw[e1,e2,yU hgid,hlk,← yU hvi]
                exact hopi
              exact .op gi hfin
            · exact htv.elim
          · simp at hto
        · simp at hto
      · simp at hto
    · exact ⟨none,fun k a b h1 h2 h3 h4 _=>main i k a b h1 h2 h3 h4 (fun e=>hi (by simp at e; exact e.1.symm)),fun k a b o h1=>by simp at h1⟩
theorem G4 (hm:P.follows .mixedOrders=true) {fz:Fz} {id:Nat} {ops:Array Oper} {sc:SC} {T:Env} {h:aw} {Q:Exit→Env→View→Prop} (hc:v8 P n fz ops.toList=some sc) (hw:wS P sc T h.view Q) :
    ∃ e T' h',bI P n (.region id ops true) T h e T' h'∧(eW h h'∧h.length≤h'.length)∧Q e T' h'.view:=by
  unfold v8 at hc
  split at hc
  · simp at hc
  · rename_i l hl
    split at hc
    · simp at hc
    · rename_i hok
      have hok:(group l).all m3=true:=by simpa using hok
      have hl':b7 P n ops.toList fz ops.toList=some (gp (group l)):=by rw[dI]; exact hl
      split at hc
      · rename_i ht
        simp only[Option.map_eq_some_iff] at hc
        obtain ⟨aps,hap,rfl⟩:=hc
        obtain ⟨recs,T',h',tr,hst,hk,hro⟩:=rX (group l) ops.toList T h hl' hok hw
        rw[dI] at hro
        refine ⟨.normal,T',h',?_,hst,hk.rest⟩
        have hcf:nY ops.toList recs:=GW tr hap (tS hk) (by simpa using hro.1) (fun i x r hx hr=>by
          simp only[List.getElem?_map,Option.map_eq_some_iff] at hx
          obtain ⟨s,hs,rfl⟩:=hx
          exact hro.2 i s r hs hr)
        simpa using se hm (id:=id) tr ht hcf
      · simp at hc
theorem HL (hm:P.follows .mixedOrders=true) {fz:Fz} {id:Nat} {ops:Array Oper} {sc:SC} {T:Env} {h:aw} {Q:Exit→Env→View→Prop} (hc:vg P n fz ops.toList=some sc) (hw:wS P sc T h.view Q) :
    ∃ e T' h',bI P n (.region id ops true) T h e T' h'∧(eW h h'∧h.length≤h'.length)∧Q e T' h'.view:=by
  unfold vg at hc
  split at hc
  · simp at hc
  · rename_i l hl
    split at hc
    · simp at hc
    · rename_i hok
      have hok:(group l).all m3=true:=by simpa using hok
      have hl':b7 P n ops.toList fz ops.toList=some (gp (group l)):=by rw[dI]; exact hl
      split at hc
      · rename_i ht
        split at hc
        · simp only[Option.map_eq_some_iff] at hc
          obtain ⟨aps,hap,rfl⟩:=hc
          obtain ⟨recs,T',h',tr,hst,hk,hro⟩:=rX (group l) ops.toList T h hl' hok hw
          rw[dI] at hro
          refine ⟨.normal,T',h',?_,hst,hk.rest⟩
          have hcf:=zF tr hap (tS hk) (by simpa using hro.1) (fun i x r hx hr=>by
            simp only[List.getElem?_map,Option.map_eq_some_iff] at hx
            obtain ⟨s,hs,rfl⟩:=hx
            exact hro.2 i s r hs hr) (fun p hp=>by simp at hp)
          simpa using pK hm (id:=id) tr ht hcf
        · rename_i p hp
          split at hc
          · rename_i tol hto
            simp only[Option.map_eq_some_iff] at hc
            obtain ⟨aps,hap,rfl⟩:=hc
            obtain ⟨recs,T',h',tr,hst,hk,hro⟩:=rX (group l) ops.toList T h hl' hok hw
            rw[dI] at hro
            refine ⟨.normal,T',h',?_,hst,hk.2.rest⟩
            have hcf:=zF tr hap (tS hk.2) (by simpa using hro.1) (fun i x r hx hr=>by
              simp only[List.getElem?_map,Option.map_eq_some_iff] at hx
              obtain ⟨s,hs,rfl⟩:=hx
              exact hro.2 i s r hs hr) (fun p' hp'=>by
                simp only[Option.some.injEq] at hp'
                subst hp'
                exact ⟨tol,hto,hk.1⟩)
            simpa using pK hm (id:=id) tr ht hcf
          · simp at hc
      · simp at hc
theorem qd (hm:P.follows .mixedOrders=true) {fz:Fz} {id:Nat} {ops:Array Oper} {draw quiet:Bool} {sc:SC} {T:Env} {h:aw} {Q:Exit→Env→View→Prop} (hc:ng P n fz ops.toList draw quiet=some sc) (hw:wS P sc T h.view Q) :
    ∃ e T' h',bI P n (.region id ops draw) T h e T' h'∧(eW h h'∧h.length≤h'.length)∧Q e T' h'.view:=by
  unfold ng at hc
  split at hc
  · simp at hc
  · rename_i l hl
    split at hc
    · simp at hc
    · rename_i hok
      have hok:(group l).all m3=true:=by simpa using hok
      have hl':b7 P n ops.toList fz ops.toList=some (gp (group l)):=by rw[dI]; exact hl
      have key:qG P quiet (group l) T h.view (Q .normal)→(draw=true→iu ops.toList=true∧zq ops.toList (l.map fun s=>fg P quiet s.b)=true) →
          ∃ e T' h',bI P n (.region id ops draw) T h e T' h'∧(eW h h'∧h.length≤h'.length)∧Q e T' h'.view:=by
        intro hw hdr
        obtain ⟨recs,T',h',tr,hst,hk,hro⟩:=rX (group l) ops.toList T h hl' hok hw
        rw[dI] at hro
        refine ⟨.normal,T',h',?_,hst,hk⟩
        cases hd:draw with
        | false=>simpa using Ag (id:=id) tr
        | true =>
          obtain ⟨h1,h2⟩:=hdr hd
          have hcf:nY ops.toList recs:=Hx tr h2 (by simpa using hro.1) (fun i x r hx hr=>by
            simp only[List.getElem?_map,Option.map_eq_some_iff] at hx
            obtain ⟨s,hs,rfl⟩:=hx
            exact hro.2 i s r hs hr)
          simpa using se hm (id:=id) tr h1 hcf
      split at hc
      · rename_i hd
        split at hc
        · rename_i ht
          simp at hc; subst hc
          exact key hw (fun _=>by simpa using ht)
        · simp at hc
      · rename_i hd
        simp at hc; subst hc
        exact key hw (fun e=>absurd e hd)
theorem dL {a b:Option SC} {sc:SC} (h:orElse' a b=some sc):a=some sc∨b=some sc:=by
  cases a with
  | none=>exact .inr h
  | some x=>exact .inl h
theorem Fy (hm:P.follows .mixedOrders=true) {fz:List Nat} {id:Nat} {ops:Array Oper} {draw:Bool} {sc:SC} {T:Env} {h:aw} {Q:Exit→Env→View→Prop} (hc:wg P n fz ops.toList draw=some sc) (hw:wS P sc T h.view Q) :
    ∃ e T' h',bI P n (.region id ops draw) T h e T' h'∧(eW h h'∧h.length≤h'.length)∧Q e T' h'.view:=by
  unfold wg at hc
  rcases dL hc with h1 | h1
  · exact qd hm h1 hw
  · clear hc
    split at h1
    · rename_i hd
      subst hd
      rcases dL h1 with h0 | h1
      · split at h0
        · exact HL hm h0 hw
        · simp at h0
      rcases dL h1 with h2 | h2
      · exact G4 hm h2 hw
      · rcases dL h2 with h3 | h3
        · exact qd hm h3 hw
        · rcases dL h3 with h4 | h4
          · exact qd hm h4 hw
          · exact qd hm h4 hw
    · simp at h1
theorem yZ {e:Exit} {a b:Prop} (h:tu e a b):(e=.normal∧a)∨(e≠.normal∧b):=by
  cases e with
  | normal=>exact .inl ⟨rfl,h⟩
  | _=>exact .inr ⟨by simp,h⟩
def lM (P:Program) (n:Nat) (fz:List Nat) (c:Code):Prop:=∀ sc:SC,bM P n fz c=some sc→∀ (T:Env) (h:aw) (Q:Exit→Env→View→Prop),wS P sc T h.view Q →
    ∃ e T' h',bI P n c T h e T' h'∧(eW h h'∧h.length≤h'.length)∧Q e T' h'.view
theorem yF {fz:List Nat} : lM P n fz .skip:=by
  intro sc hc T h Q hw; simp[bM] at hc; subst hc; exact ⟨_,T,h,.skip,⟨.refl _,Nat.le_refl _⟩,hw⟩
theorem AX {fz:List Nat} {x y:Code} (ihx:lM P n fz x) (ihy:lM P n fz y):lM P n fz (.seq x y):=by
  intro sc hc T h Q hw
  simp only[bM] at hc
  split at hc
  · rename_i a b h1 h2
    simp at hc; subst hc
    simp only[wS] at hw
    obtain ⟨e,T1,h1',hx,st1,hq⟩:=ihx a h1 T h _ hw
    rcases yZ hq with ⟨rfl,hq⟩ | ⟨hne,hq⟩
    · obtain ⟨e2,T2,h2',hy,st2,hq2⟩:=ihy b h2 T1 h1' _ hq
      exact ⟨e2,T2,h2',hx.seq hy,⟨st1.1.trans st2.1 st1.2,Nat.le_trans st1.2 st2.2⟩,hq2⟩
    · exact ⟨e,T1,h1',hx.Dn hne,st1,hq⟩
  · simp at hc
theorem lN {fz:Fz} {ops:List Oper} {draw quiet:Bool} {sc:SC} (h:ng P n fz ops draw quiet=some sc) (l:Nat):je sc l=none:=by
  unfold ng at h
  repeat' (first | (simp only[Option.some.injEq] at h; subst h; rfl) | (split at h) | (simp at h; done))
theorem Ev {fz:Fz} {ops:List Oper} {sc:SC} (h:v8 P n fz ops=some sc) (l:Nat):je sc l=none:=by
  unfold v8 at h
  repeat' (first | (simp only[Option.map_eq_some_iff] at h; obtain ⟨_,_,rfl⟩:=h; rfl) | (split at h) | (simp at h; done))
theorem Ey {fz:Fz} {ops:List Oper} {sc:SC} (h:vg P n fz ops=some sc) (l:Nat):je sc l=none:=by
  unfold vg at h
  repeat' (first | (simp only[Option.map_eq_some_iff] at h; obtain ⟨_,_,rfl⟩:=h; rfl) | (split at h) | (simp at h; done))
theorem DO {fz:List Nat} {ops:List Oper} {draw:Bool} {sc:SC} (h:wg P n fz ops draw=some sc) (l:Nat):je sc l=none:=by
  unfold wg at h
  rcases dL h with h1 | h1
  · exact lN h1 l
  · split at h1
    · rcases dL h1 with h0 | h1
      · split at h0
        · exact Ey h0 l
        · simp at h0
      rcases dL h1 with h2 | h2
      · exact Ev h2 l
      · rcases dL h2 with h3 | h3
        · exact lN h3 l
        · rcases dL h3 with h4 | h4
          · exact lN h4 l
          · exact lN h4 l
    · simp at h1
theorem Gd {fz:List Nat} : ∀ (c:Code) (sc:SC),bM P n fz c=some sc→∀ l,match findLabel c l with
    | some rest=>∃ r,je sc l=some r∧bM P n fz rest=some r
    | none=>je sc l=none:=by
  intro c
  induction c with
  | seq x y ihx ihy =>
    intro sc hc l
    simp only[bM] at hc
    split at hc
    · rename_i a b h1 h2
      simp at hc; subst hc
      have hx:=ihx a h1 l
      have hy:=ihy b h2 l
      simp only[findLabel,je]
      cases h3:findLabel x l with
      | some rx =>
        rw[h3] at hx
        obtain ⟨r,e1,e2⟩:=hx
        exact ⟨.seq r b,by rw[e1],by simp only[bM,e2,h2]⟩
      | none =>
        rw[h3] at hx
        simp only at hx ⊢
        rw[hx]
        exact hy
    · simp at hc
  | label l' =>
    intro sc hc l
    simp[bM] at hc; subst hc
    simp only[findLabel,je]
    by_cases e:(l' == l)=true
    · rw[if_pos e]; exact ⟨.skip,by rw[if_pos e],by simp[bM]⟩
    · rw[if_neg e]; simp only; rw[if_neg e]
  | region id ops draw=>intro sc hc l; simp only[bM] at hc; simp only[findLabel]; exact DO hc l
  | cond x y z _ _ =>
    intro sc hc l
    simp only[bM] at hc
    split at hc
    · simp at hc; subst hc; rfl
    · simp at hc
  | block id c _=>intro sc hc l; simp only[bM,Option.map_eq_some_iff] at hc; obtain ⟨_,_,rfl⟩:=hc; rfl
  | loop c _=>intro sc hc l; simp only[bM,Option.map_eq_some_iff] at hc; obtain ⟨_,_,rfl⟩:=hc; rfl
  | scope c _ =>
    intro sc hc l
    simp only[bM] at hc
    split at hc
    · split at hc
      · simp only[Option.map_eq_some_iff] at hc; obtain ⟨_,_,rfl⟩:=hc; rfl
      · simp at hc
    · simp at hc
  | skip=>intro sc hc l; simp[bM] at hc; subst hc; rfl
  | exit id=>intro sc hc l; simp[bM] at hc; subst hc; rfl
  | ret=>intro sc hc l; simp[bM] at hc; subst hc; rfl
  | goto l'=>intro sc hc l; simp[bM] at hc; subst hc; rfl
  | _=>intro sc hc; simp[bM] at hc
theorem Eu {fz:List Nat} {c:Code} (h0:lM P n fz c) (hr:∀ l rest,findLabel c l=some rest→lM P n fz rest):lM P n fz (.scope c):=by
  intro sc hc T h Q hw
  simp only[bM] at hc
  split at hc
  · rename_i a h1
    split at hc
    · rename_i l h2
      simp only[Option.map_eq_some_iff] at hc
      obtain ⟨r,h3,rfl⟩:=hc
      have hf:=Gd c a h1 l
      cases h4:findLabel c l with
      | none=>rw[h4] at hf; simp only at hf; rw[hf] at h3; simp at h3
      | some rest =>
        rw[h4] at hf
        obtain ⟨r',e1,e2⟩:=hf
        rw[h3] at e1
        have e1:=Option.some.inj e1
        subst e1
        simp only[wS] at hw
        obtain ⟨I,K,hw1,hw2⟩:=hw
        have go:∀ k T (h:aw),I k T h.view→∃ e T' h',lL P n c rest T h e T' h'∧(eW h h'∧h.length≤h'.length)∧Q e T' h'.view:=by
          intro k
          induction k using Nat.strongRecOn with
          | ind k ihk =>
            intro T h hI
            obtain ⟨e,T1,h1',hx,st1,hq⟩:=hr l rest h4 r e2 T h _ (hw2 k T h.view hI)
            cases e with
            | goto l' =>
              obtain ⟨rfl,k',hlt,hI'⟩:=hq
              obtain ⟨e2,T2,h2',hy,st2,hq2⟩:=ihk k' hlt T1 h1' hI'
              exact ⟨e2,T2,h2',lL.jump hx h4 hy,⟨st1.1.trans st2.1 st1.2,Nat.le_trans st1.2 st2.2⟩,hq2⟩
            | _=>exact ⟨_,T1,h1',.out hx rfl,st1,hq⟩
        obtain ⟨e,T1,h1',hx,st1,hq⟩:=h0 a h1 T h _ hw1
        cases e with
        | goto l' =>
          obtain ⟨rfl,k',_,hI'⟩:=hq
          obtain ⟨e2,T2,h2',hy,st2,hq2⟩:=go k' T1 h1' hI'
          exact ⟨e2,T2,h2',.scope (lL.jump hx h4 hy),⟨st1.1.trans st2.1 st1.2,Nat.le_trans st1.2 st2.2⟩,hq2⟩
        | _=>exact ⟨_,T1,h1',.scope (.out hx rfl),st1,hq⟩
    · simp at hc
  · simp at hc
theorem HM (hm:P.follows .mixedOrders=true) {fz:List Nat} : ∀ c:Code,lM P n fz c∧∀ l rest,findLabel c l=some rest→lM P n fz rest:=by
  intro c
  induction c with
  | skip=>exact ⟨yF,fun l rest h=>by simp[findLabel] at h⟩
  | region id ops draw=>exact ⟨fun sc hc T h Q hw=>Fy hm hc hw,fun l rest h=>by simp[findLabel] at h⟩
  | seq x y ihx ihy =>
    refine ⟨AX ihx.1 ihy.1,fun l rest h=>?_⟩
    simp only[findLabel] at h
    split at h
    · rename_i r hr
      simp only[Option.some.injEq] at h; subst h
      exact AX (ihx.2 _ _ hr) ihy.1
    · exact ihy.2 _ _ h
  | cond c x y ihx ihy =>
    refine ⟨?_,fun l rest h=>by simp[findLabel] at h⟩
    intro sc hc T h Q hw
    simp only[bM] at hc
    split at hc
    · rename_i a b h1 h2
      simp at hc; subst hc
      simp only[wS] at hw
      split at hw
      · rename_i t ht
        have hT:m4 (SX.of c) t T=T:=by
          unfold m4
          split
          · rename_i k hk
            rw[hk] at ht
            exact uQ ht
          · rfl
        rw[SX.bD] at ht
        cases t with
        | true =>
          have:=hw.1 rfl
          rw[hT] at this
          obtain ⟨e,T',h',hx,st,hq⟩:=ihx.1 a h1 T h Q this
          exact ⟨e,T',h',.cond ht hx,st,hq⟩
        | false =>
          have:=hw.2 rfl
          rw[hT] at this
          obtain ⟨e,T',h',hx,st,hq⟩:=ihy.1 b h2 T h Q this
          exact ⟨e,T',h',.cond ht hx,st,hq⟩
      · exact hw.elim
    · simp at hc
  | block id c ih =>
    refine ⟨?_,fun l rest h=>by simp[findLabel] at h⟩
    intro sc hc T h Q hw
    simp only[bM,Option.map_eq_some_iff] at hc
    obtain ⟨a,h1,rfl⟩:=hc
    simp only[wS] at hw
    obtain ⟨e,T',h',hx,st,hq⟩:=ih.1 a h1 T h _ hw
    exact ⟨_,T',h',hx.block,st,hq⟩
  | loop c ih =>
    refine ⟨?_,fun l rest h=>by simp[findLabel] at h⟩
    intro sc hc T h Q hw
    simp only[bM,Option.map_eq_some_iff] at hc
    obtain ⟨a,h1,rfl⟩:=hc
    simp only[wS] at hw
    obtain ⟨I,⟨k,hk⟩,hstep⟩:=hw
    have go:∀ k T (h:aw),I k T h.view→∃ e T' h',kp P n c T h e T' h'∧(eW h h'∧h.length≤h'.length)∧Q e T' h'.view:=by
      intro k
      induction k using Nat.strongRecOn with
      | ind k ihk =>
        intro T h hI
        obtain ⟨e,T1,h1',hx,st1,hq⟩:=ih.1 a h1 T h _ (hstep k T h.view hI)
        rcases yZ hq with ⟨rfl,k',hlt,hI'⟩ | ⟨hne,hq⟩
        · obtain ⟨e2,T2,h2',hy,st2,hq2⟩:=ihk k' hlt T1 h1' hI'
          exact ⟨e2,T2,h2',.step hx hy,⟨st1.1.trans st2.1 st1.2,Nat.le_trans st1.2 st2.2⟩,hq2⟩
        · exact ⟨e,T1,h1',.out hx hne,st1,hq⟩
    obtain ⟨e,T',h',hx,st,hq⟩:=go k T h hk
    exact ⟨e,T',h',.loop hx,st,hq⟩
  | exit id=>exact ⟨fun sc hc T h Q hw=>by simp[bM] at hc; subst hc; exact ⟨_,T,h,.exit,⟨.refl _,Nat.le_refl _⟩,hw⟩,fun l rest h=>by simp[findLabel] at h⟩
  | ret=>exact ⟨fun sc hc T h Q hw=>by simp[bM] at hc; subst hc; exact ⟨_,T,h,.ret,⟨.refl _,Nat.le_refl _⟩,hw⟩,fun l rest h=>by simp[findLabel] at h⟩
  | label l'=>exact ⟨fun sc hc T h Q hw=>by simp[bM] at hc; subst hc; exact ⟨_,T,h,.label,⟨.refl _,Nat.le_refl _⟩,hw⟩,fun l rest h=>by
      simp only[findLabel] at h
      split at h
      · simp only[Option.some.injEq] at h; subst h; exact yF
      · simp at h⟩
  | goto l'=>exact ⟨fun sc hc T h Q hw=>by simp[bM] at hc; subst hc; exact ⟨_,T,h,.goto,⟨.refl _,Nat.le_refl _⟩,hw⟩,fun l rest h=>by simp[findLabel] at h⟩
  | scope c ih=>exact ⟨Eu ih.1 ih.2,fun l rest h=>by simp[findLabel] at h⟩
  | _=>exact ⟨fun sc hc=>by simp[bM] at hc,fun l rest h=>by simp[findLabel] at h⟩
theorem Ka (hm:P.follows .mixedOrders=true) {fz:List Nat} (c:Code) (sc:SC) (hc:bM P n fz c=some sc) (T:Env) (h:aw) (Q:Exit→Env→View→Prop) (hw:wS P sc T h.view Q) :
    ∃ e T' h',bI P n c T h e T' h'∧(eW h h'∧h.length≤h'.length)∧Q e T' h'.view:=(HM hm c).1 sc hc T h Q hw
theorem Ke {T:Env} {h:aw} {r:ResultVar} {l:List SR} {rest:List ResultVar} (hc:dn P (r :: rest)=some l):∃ s l',l=s :: l'∧dn P rest=some l'∧∀ K:V→Prop,wR T h.view s K→∃ v,mg P T h r=some v∧K v:=by
  cases r with
  | tmp t =>
    simp only[dn,Option.map_eq_some_iff] at hc
    obtain ⟨l',h1,rfl⟩:=hc
    exact ⟨.tmp t,l',rfl,h1,fun K hk=>⟨_,rfl,hk⟩⟩
  | cell a t =>
    simp only[dn] at hc
    split at hc
    · rename_i k l' h1 h2
      simp at hc; subst hc
      refine ⟨.cell a k,l',rfl,h2,fun K hk=>?_⟩
      simp only[wR] at hk
      simp only[mg,iz,py h1]
      split at hk
      · rename_i id i j ha
        split at hk
        · rename_i es hH
          obtain ⟨hlt,hk⟩:=hk
          obtain ⟨v,hv,hk⟩:=j7 hk
          exact ⟨v,by rw[ha]; simp only[hH]; rw[if_pos hlt,hv]; rfl,hk⟩
        · exact hk.elim
      · rename_i e j ha
        obtain ⟨v,hv,hk⟩:=j7 hk
        exact ⟨v,by rw[ha]; simp only; rw[hv]; rfl,hk⟩
      · exact hk.elim
    · simp at hc
theorem F9 {T:Env} {h:aw} {K:List V→Prop} : ∀ (rs:List ResultVar) (l:List SR) (acc:List V),dn P rs=some l→uZ T h.view l acc K→∃ vs,iq P T h rs=some vs∧K (acc ++ vs)
  | [],l,acc,hc,hw=>by simp[dn] at hc; subst hc; exact ⟨[],rfl,by simpa [uZ] using hw⟩
  | r :: rest,l,acc,hc,hw=>by
    obtain ⟨s,l',rfl,h1,h2⟩:=Ke (T:=T) (h:=h) hc
    simp only[uZ] at hw
    obtain ⟨v,hv,hk⟩:=h2 _ hw
    obtain ⟨vs,hvs,hk⟩:=F9 rest l' (acc ++ [v]) h1 hk
    exact ⟨v :: vs,by simp[iq,hv,hvs],by simpa using hk⟩
def wF (P:Program) (F:SF) (vs:List V) (H:View) (K:V→View→Prop):Prop :=
  vs.length≤F.n∧wS P F.code (gL vs) H fun e T' H'=>(e=.ret∨e=.normal)∧uZ T' H' F.res [] fun l=>K (ai l) H'
theorem aH.of (hm:P.follows .mixedOrders=true) {f:FuncId} {fz:List Nat} {F:SF} (hF:bm P f fz=some F) {vs:List V} {H:View} {K:V→View→Prop} (hw:wF P F vs H K):aH P f vs H K:=by
  unfold bm at hF
  split at hF
  · rename_i fn hfn
    split at hF
    · rename_i c hb
      split at hF
      · rename_i sc rs h1 h2 h3
        simp at hF; subst hF
        refine ⟨h3,?_⟩
        rintro h rfl
        obtain ⟨e,T',h',hx,st,he,hr⟩:=Ka hm c sc h1 _ h _ hw.2
        obtain ⟨vs',hvs,hk⟩:=F9 _ _ [] h2 hr
        refine ⟨ai vs',h',bu.Dl hfn hb hw.1 hx he ?_,st.1,by simpa using hk⟩
        unfold Ea
        rw[hvs]
        cases vs' with
        | nil=>rfl
        | cons a l=>cases l <;> rfl
      · simp at hF
    · simp at hF
  · simp at hF
theorem aH.mono {f:FuncId} {vs:List V} {H:View} {K K':V→View→Prop} (h:aH P f vs H K) (hk:∀ r H',K r H'→K' r H'):aH P f vs H K' :=
  ⟨h.1,fun h0 e=>let ⟨r,h',a,s,b⟩:=h.2 h0 e; ⟨r,h',a,s,hk _ _ b⟩⟩
theorem aC.DS {f:FuncId} {vs:List V} {H:View} {t:V} {K:V→View→Prop} (h:aC P f vs t) (hok:bZ P f=true) (hk:K t H):ze P f vs H K :=
  ⟨hok,fun h0 e=>⟨t,h0,bu.eN h h0,fun _ _=>rfl,e ▸ hk⟩⟩
theorem aH.DS {f:FuncId} {vs:List V} {H:View} {K:V→View→Prop} (h:aH P f vs H fun r H'=>(∀ id,H id≠.dead→H' id=H id)∧K r H'):ze P f vs H K :=
  ⟨h.1,fun h0 e=>by
    obtain ⟨r,h',ha,st,hf,hk⟩:=h.2 h0 e
    refine ⟨r,h',ha,fun id hid=>?_,hk⟩
    by_cases hd:h0.view id=.dead
    · rw[hd]; exact st id hid hd
    · rw[← e] at hf; exact hf id hd⟩
end
inductive bS {α:Type} (x:α):Type where
  | mk
def eR (s:ByteArray):List Int:=s.data.toList.map fun b=>(b.toNat:Int)
theorem fR (s:ByteArray):s.size=(eR s).length:=by rw[eR,List.length_map,bsize]
def cH (P:Program) (c:SC) (T:Env) (H:View) (Q:Exit→Env→View→Prop) (_:bS (T,H,Q)):Prop:=wS P (.loop c) T H Q
def wb (P:Program) (l:Nat) (c r:SC) (T:Env) (H:View) (Q:Exit→Env→View→Prop) (_:bS (T,H,Q)):Prop:=wS P (.scope l c r) T H Q
def aJ (P:Program) (quiet:Bool) (f:FuncId) (vs:List V) (H:View) (K:V→View→Prop) (_:bS (H,K)):Prop :=
  if quiet then ze P f vs H K else aH P f vs H K
def vn {α:Type} (v:α) (F:α→Prop) (_:bS F):Prop:=F v
def cz (v:V) (F:V→Prop) (_:bS F):Prop:=F v
def zP (o:br) (F:br→Prop) (_:bS F):Prop:=F o
def ky {α:Type} (o:Option α) (F:Option α→Prop) (_:bS F):Prop:=F o
def ay (b:Bool) (A B:Prop) (_:bS (A,B)):Prop:=(b=true→A)∧(b=false→B)
theorem Kv {α:Type} (v:α) (F:α→Prop) (w:bS F):vn v F w=F v:=propext Iff.rfl
section
variable (F:V→Prop) (w:bS F)
theorem C9 (v:Value):cz (.val v) F w=F (.val v):=propext Iff.rfl
theorem Dq (k:Nat):cz (.emp k) F w=F (.emp k):=propext Iff.rfl
theorem Ck:cz .cM F w=F .cM:=propext Iff.rfl
theorem Di (es:List (List V)):cz (.aF es) F w=F (.aF es):=propext Iff.rfl
theorem FE (a b c d:Nat):cz (.sl a b c d) F w=F (.sl a b c d):=propext Iff.rfl
theorem De (a b c:Nat):cz (.ptr a b c) F w=F (.ptr a b c):=propext Iff.rfl
theorem AQ (e:List V) (j:Nat):cz (.aY e j) F w=F (.aY e j):=propext Iff.rfl
theorem FD (a:Nat):cz (.mp a) F w=F (.mp a):=propext Iff.rfl
theorem Fp (f:FuncId) (a b:List V):cz (.fn f a b) F w=F (.fn f a b):=propext Iff.rfl
theorem Cq (cs:List V):cz (.agg cs) F w=F (.agg cs):=propext Iff.rfl
theorem B8 (cs:List V):cz (.bc cs) F w=F (.bc cs):=propext Iff.rfl
end
theorem Df (F:br→Prop) (w:bS F) (k:Nat) (es:List (List V)):zP (.arr k es) F w=F (.arr k es):=propext Iff.rfl
theorem Cu (F:br→Prop) (w:bS F) (es:List (V × V × Nat)) (k:Nat):zP (.map es k) F w=F (.map es k):=propext Iff.rfl
theorem Bp {α:Type} (F:Option α→Prop) (w:bS F) (x:α):ky (some x) F w=F (some x):=propext Iff.rfl
theorem zX (A B:Prop) (w:bS (A,B)):ay true A B w=A:=by simp[ay]
theorem yL (A B:Prop) (w:bS (A,B)):ay false A B w=B:=by simp[ay]
theorem Cb (b:Bool) (A B:Prop) (w:bS (A,B)):ay (!b) A B w=ay b B A .mk:=by cases b <;> simp[ay]
theorem ay.split {b:Bool} {A B:Prop} {w:bS (A,B)} (h1:b=true→A) (h2:b=false→B):ay b A B w:=⟨h1,h2⟩
theorem ay.dec {p:Prop} [Decidable p] {A B:Prop} {w:bS (A,B)} (h1:p→A) (h2:¬ p→B):ay (decide p) A B w:=⟨fun h=>h1 (by simpa using h),fun h=>h2 (by simpa using h)⟩
theorem ay.eq {a b:Int} {A B:Prop} {w:bS (A,B)} (h1:a=b→A) (h2:¬ a=b→B):ay (a == b) A B w:=⟨fun h=>h1 (by simpa using h),fun h=>h2 (by simpa using h)⟩
theorem ay.ne {a b:Int} {A B:Prop} {w:bS (A,B)} (h1:¬ a=b→A) (h2:a=b→B):ay (a != b) A B w:=⟨fun h=>h1 (by simpa using h),fun h=>h2 (by simpa using h)⟩
section
variable (P:Program) (T:Env) (H:View)
theorem It (F:SF) (vs:List V) (K:V→View→Prop):wF P F vs H K=(vs.length≤F.n∧wS P F.code (gL vs) H fun e T' H'=>(e=.ret∨e=.normal)∧uZ T' H' F.res [] fun l=>vn (ai l) (fun v=>K v H') .mk):=propext Iff.rfl
theorem CY (Q:Exit→Env→View→Prop):wS P .skip T H Q=Q .normal T H:=propext Iff.rfl
theorem x6 (q:Bool) (gs:List SG) (Q:Exit→Env→View→Prop):wS P (.region q gs) T H Q=qG P q gs T H (Q .normal):=propext Iff.rfl
theorem vN (aps:List (Nat × Nat)) (gs:List SG) (Q:Exit→Env→View→Prop):wS P (.sV aps gs) T H Q=qG P false gs T H (fun T' H'=>rv aps T' (Q .normal T' H')):=propext Iff.rfl
theorem wz (tol:Nat × Nat × Nat) (aps:List (Nat × Nat)) (gs:List SG) (Q:Exit→Env→View→Prop):wS P (.xz tol aps gs) T H Q=qG P false gs T H (fun T' H'=>DG P tol.1 (T' tol.2.1) (T' tol.2.2) H∧rv aps T' (Q .normal T' H')):=propext Iff.rfl
theorem Cg (K:Prop):rv [] T K=K:=propext Iff.rfl
theorem zN (a b:Nat) (l:List (Nat × Nat)) (K:Prop):rv ((a,b) :: l) T K=(eU (T a) (T b)∧rv l T K):=propext Iff.rfl
theorem CZ (i j k i' j' k':Nat):eU (.ptr i j k) (.ptr i' j' k')=(i≠i'):=propext Iff.rfl
theorem C7 (i j k a b c d:Nat):eU (.ptr i j k) (.sl a b c d)=(i≠a):=propext Iff.rfl
theorem AE (i j k e:Nat):eU (.ptr i j k) (.emp e)=True:=id rfl
theorem By (i j k:Nat):eU (.ptr i j k) .cM=True:=id rfl
theorem A2 (i j k:Nat) (es:List (List V)):eU (.ptr i j k) (.aF es)=True:=id rfl
theorem CH (a b c d e f g h:Nat):eU (.sl a b c d) (.sl e f g h)=(a≠e):=propext Iff.rfl
theorem Fb (a b c d e:Nat):eU (.sl a b c d) (.emp e)=True:=id rfl
theorem Gb (a b c d:Nat):eU (.sl a b c d) .cM=True:=id rfl
theorem GO (a b c d:Nat) (es:List (List V)):eU (.sl a b c d) (.aF es)=True:=id rfl
theorem Dh (k:Nat) (v:V):eU (.emp k) v=True:=by cases v <;> rfl
theorem Cr (v:V):eU .cM v=True:=by cases v <;> rfl
theorem CU (es:List (List V)) (v:V):eU (.aF es) v=True:=by cases v <;> rfl
theorem BE (e:List V) (j:Nat) (v:V):eU (.aY e j) v=True:=by cases v <;> rfl
theorem GH (x y:SC) (Q:Exit→Env→View→Prop):wS P (.seq x y) T H Q=wS P x T H fun e T' H'=>tu e (wS P y T' H' Q) (Q e T' H'):=propext Iff.rfl
theorem C5 (c:SX) (x y:SC) (Q:Exit→Env→View→Prop):wS P (.cond c x y) T H Q=cz (c.at T) (fun v=>match v with
    | .val (.bool b)=>ay b (wS P x (m4 c true T) H Q) (wS P y (m4 c false T) H Q) .mk
    | _=>False) .mk:=propext Iff.rfl
theorem AR (id:Nat) (c:SC) (Q:Exit→Env→View→Prop):wS P (.block id c) T H Q=wS P c T H fun e=>Q (kj id e):=propext Iff.rfl
theorem Da (id:Nat) (Q:Exit→Env→View→Prop):wS P (.exit id) T H Q=Q (.exit id) T H:=propext Iff.rfl
theorem FH (Q:Exit→Env→View→Prop):wS P .ret T H Q=Q .ret T H:=propext Iff.rfl
theorem Bg (l:Nat) (c r:SC) (Q:Exit→Env→View→Prop):wS P (.scope l c r) T H Q=wb P l c r T H Q .mk:=propext Iff.rfl
theorem zI (l:Nat) (Q:Exit→Env→View→Prop):wS P (.label l) T H Q=Q .normal T H:=propext Iff.rfl
theorem Dj (l:Nat) (Q:Exit→Env→View→Prop):wS P (.goto l) T H Q=Q (.goto l) T H:=propext Iff.rfl
theorem wo (l l':Nat) (a b:Prop):lR l (.goto l') a b=(l'=l∧a):=propext Iff.rfl
theorem r7 (l:Nat) (a b:Prop):lR l .normal a b=b:=propext Iff.rfl
theorem vR (l i:Nat) (a b:Prop):lR l (.exit i) a b=b:=propext Iff.rfl
theorem yp (l:Nat) (a b:Prop):lR l .ret a b=b:=propext Iff.rfl
theorem AZ (l:Nat) (a b:Prop):tu (.goto l) a b=b:=propext Iff.rfl
theorem vA (i l:Nat):kj i (.goto l)=.goto l:=id rfl
theorem CF (c:SC) (Q:Exit→Env→View→Prop):wS P (.loop c) T H Q=cH P c T H Q .mk:=propext Iff.rfl
theorem Ds (q:Bool) (K:Env→View→Prop):qG P q [] T H K=K T H:=propext Iff.rfl
theorem z2 (q:Bool) (g:SG) (r:List SG) (K:Env→View→Prop):qG P q (g :: r) T H K=wG P q g T H fun T' H'=>qG P q r T' H' K:=propext Iff.rfl
theorem Ca (q:Bool) (ops:List (Option Nat × SB)) (K:Env→View→Prop):wG P q ⟨none,ops⟩ T H K=sy P q ops T H K:=propext Iff.rfl
theorem Cp (q:Bool) (d:Nat) (ops:List (Option Nat × SB)) (K:Env→View→Prop):wG P q ⟨some (d,true),ops⟩ T H K=cz (T d) (fun v=>match v with
    | .val (.bool b)=>ay b (sy P q ops (T.put (some d) (.val (.bool true))) H K) (K (eL ops (T.put (some d) (.val (.bool false)))) H) .mk
    | .bc []=>K (eL ops T) H
    | _=>False) .mk:=propext Iff.rfl
theorem A5 (q:Bool) (d:Nat) (ops:List (Option Nat × SB)) (K:Env→View→Prop):wG P q ⟨some (d,false),ops⟩ T H K=cz (T d) (fun v=>match v with
    | .val (.bool b)=>ay b (K (eL ops (T.put (some d) (.val (.bool true)))) H) (sy P q ops (T.put (some d) (.val (.bool false))) H K) .mk
    | .bc []=>K (eL ops T) H
    | _=>False) .mk:=by
  simp only[wG,cz]
  generalize T d=v
  cases v with
  | val x=>cases x <;> simp[ay,and_comm]
  | bc l=>cases l <;> simp
  | _=>simp
theorem tz:eL [] T=T:=id rfl
theorem rb (d:Option Nat) (b:SB) (r:List (Option Nat × SB)):eL ((d,b) :: r) T=eL r (T.put d (.bc [])):=id rfl
theorem Dd (q:Bool) (K:Env→View→Prop):sy P q [] T H K=K T H:=propext Iff.rfl
theorem zG (q:Bool) (d:Option Nat) (b:SB) (r:List (Option Nat × SB)) (K:Env→View→Prop):sy P q ((d,b) :: r) T H K=wB P q b T H fun v H'=>vn v (fun v'=>sy P q r (T.put d v') H' K) .mk:=propext Iff.rfl
theorem HZ (q:Bool) (s:SI) (K:V→View→Prop):wB P q (.op s) T H K=wI P s T H K:=propext Iff.rfl
theorem Ct (q:Bool) (f:SX) (args:List SX) (K:V→View→Prop):wB P q (.call f args) T H K=cz (f.at T) (fun v=>match v with
    | .fn g first cap=>aJ P q g (first ++ args.map (SX.at T) ++ cap) H K .mk
    | _=>False) .mk:=propext Iff.rfl
theorem Gw (x:SX) (K:V→View→Prop):wI P (.aX x) T H K=K (x.at T) H:=propext Iff.rfl
theorem CJ (c a b:SX) (K:V→View→Prop):wI P (.pick c a b) T H K=cz (c.at T) (fun v=>match v with
    | .val (.bool t)=>ay t (K (a.at T) H) (K (b.at T) H) .mk
    | _=>False) .mk:=by
  simp only[wI,cz]
  generalize c.at T=v
  cases v with
  | val x =>
    cases x with
    | bool t=>cases t <;> simp[ay]
    | _=>simp
  | _=>simp
theorem EW (x:SX) (K:V→View→Prop):wI P (.box x) T H K=cz (x.at T) (fun v=>v.cells.all aN=true∧vn v.cells (fun cs=>∀ n,H n=.dead→K (.ptr n 0 0) (H.set n (.arr cs.length [cs]))) .mk) .mk:=propext Iff.rfl
theorem Gg (x:SX) (K:V→View→Prop):wI P (.fk x) T H K=cz (x.at T) (fun v=>v.cells.all aN=true∧vn v.cells (fun cs=>K (.aY cs 0) H) .mk) .mk:=propext Iff.rfl
theorem AG (z:List V) (K:V→View→Prop):wI P (.alloc z) T H K=(z.all aN=true∧∀ n,H n=.dead→K (.ptr n 0 0) (H.set n (.arr z.length [z]))):=propext Iff.rfl
theorem CG (sz:Option Nat) (a:SX) (K:V→View→Prop):wI P (.load sz a) T H K=cz (a.at T) (fun v=>match v with
    | .ptr id i j=>zP (H id) (fun o=>match o with
      | .arr _ es=>i < es.length∧vn (es.getD i []) (fun e=>fC sz e j fun v=>K v H) .mk
      | _=>False) .mk
    | .aY e j=>fC sz e j fun v=>K v H
    | _=>False) .mk:=propext Iff.rfl
theorem zO (sz:Option Nat) (a:SX) (K:V→View→Prop):wI P (.sS sz a) T H K=cz (a.at T) (fun v=>match v with
    | .aY e j=>fC sz e j fun v=>K v H
    | _=>False) .mk:=propext Iff.rfl
theorem AB (sz:Nat) (a x:SX) (K:V→View→Prop):wI P (.store sz a x) T H K=cz (a.at T) (fun v=>match v with
    | .ptr id i j=>zP (H id) (fun o=>match o with
      | .arr esz es=>vn (x.at T).cells (fun cs=>(i < es.length∧cs.length=sz∧j+cs.length≤esz∧cs.all aN=true) ∧
          vn (es.set i (ab (es.getD i []) j cs)) (fun es'=>K .any (H.set id (.arr esz es'))) .mk) .mk
      | _=>False) .mk
    | _=>False) .mk:=propext Iff.rfl
theorem CM (x:SX) (K:V→View→Prop):wI P (.ud x) T H K=cz (x.at T) (fun v=>match v with
    | .ptr id i j=>K (.ptr id i j) H
    | .aY e j=>K (.aY e j) H
    | .fn f a b=>K (.fn f a b) H
    | _=>False) .mk:=propext Iff.rfl
theorem Cj (off:Nat) (x:SX) (K:V→View→Prop):wI P (.addr off x) T H K=cz (x.at T) (fun v=>match v with
    | .ptr id i j=>K (.ptr id i (j+off)) H
    | .aY e j=>K (.aY e (j+off)) H
    | _=>False) .mk:=propext Iff.rfl
theorem Ay (off:Nat) (sz:Option Nat) (x:SX) (K:V→View→Prop):wI P (.field off sz x) T H K=cz (x.at T) (fun v=>match v with
    | .agg cs=>fC sz cs off fun v=>K v H
    | _=>False) .mk:=propext Iff.rfl
theorem EX (sz:Nat) (x i:SX) (K:V→View→Prop):wI P (.idx sz x i) T H K=ky (asNat (i.at T)) (fun o=>match o with
    | none=>False
    | some q=>cz (x.at T) (fun v=>match v with
      | .sl id off len esz=>(q < len∧esz=sz)∧K (.ptr id (off+q) 0) H
      | .aF es=>ky es[q]? (fun o=>match o with
        | some e=>e.length=sz∧K (.aY e 0) H
        | none=>False) .mk
      | _=>False) .mk) .mk:=by
  simp only[wI,ky,cz]
  cases asNat (i.at T) with
  | none=>rfl
  | some q =>
    simp only
    cases x.at T with
    | aF es =>
      simp only
      cases h:es[q]? with
      | none=>simp
      | some e=>simp
    | _=>rfl
theorem CI (f:FuncId) (first cap:List SX) (K:V→View→Prop):wI P (.mD f first cap) T H K=K (.fn f (first.map (SX.at T)) (cap.map (SX.at T))) H:=propext Iff.rfl
theorem Aj (K:V→View→Prop):wI P .jt T H K=(∀ n,H n=.dead→K (.mp n) (H.set n (.map [] 0))):=propext Iff.rfl
theorem Gq (i:Nat) (x:SX) (K:V→View→Prop):wI P (.ext i x) T H K=cz (x.at T) (fun v=>match v with
    | .bc vs=>i < vs.length∧K (vs.getD i .any) H
    | _=>False) .mk:=propext Iff.rfl
theorem ET (x:SX) (K:V→View→Prop):wI P (.len x) T H K=ky (cT (x.at T)) (fun o=>match o with
    | some n=>K (an n) H
    | none=>False) .mk:=propext Iff.rfl
theorem Dm (x:SX) (K:V→View→Prop):wI P (.ib x) T H K=cz (x.at T) (fun v=>match v with
    | .val (.string s)=>K (an s.size) H
    | _=>False) .mk:=propext Iff.rfl
theorem Bz (op:BinOp) (x y:SX) (K:V→View→Prop):wI P (.arith op x y) T H K=cz (x.at T) (fun v=>cz (y.at T) (fun v'=>match v,v' with
    | .val (.int k a),.val (.int k' b)=>k=k'∧ky (ah op k a b) (fun o=>match o with | some v=>K (.val v) H | none=>False) .mk
    | _,_=>False) .mk) .mk:=propext Iff.rfl
theorem H6 (l:Bool) (x y:SX) (K:V→View→Prop):wI P (.sh l x y) T H K=cz (x.at T) (fun v=>cz (y.at T) (fun v'=>match v,v' with
    | .val (.int k a),.val (.int _ b)=>0≤b∧K (.val (.int k (w5 l k a b))) H
    | _,_=>False) .mk) .mk:=propext Iff.rfl
theorem FW (op:BinOp) (x y:SX) (K:V→View→Prop):wI P (.hE op x y) T H K=cz (x.at T) (fun v=>cz (y.at T) (fun v'=>match v,v' with
    | .val (.string a),.val (.string b)=>(match op with
      | .eql=>K (.val (.bool (eT a b))) H
      | .neq=>K (.val (.bool (!eT a b))) H
      | _=>False)
    | _,_=>False) .mk) .mk:=propext Iff.rfl
theorem CW (x i:SX) (K:V→View→Prop):wI P (.dY x i) T H K=cz (x.at T) (fun v=>ky (asNat (i.at T)) (fun o=>match v,o with
    | .val (.string s),some q=>ky (eR s)[q]? (fun o=>match o with
      | some c=>K (.val (.int .u8 c)) H
      | none=>False) .mk
    | _,_=>False) .mk) .mk:=by
  simp only[wI,ky,cz]
  generalize x.at T=v
  generalize asNat (i.at T)=o
  cases v with
  | val u =>
    cases u with
    | string s =>
      cases o with
      | none=>rfl
      | some q =>
        simp only[eR,List.getElem?_map]
        cases h:s.data.toList[q]? with
        | none=>simp
        | some e=>simp
    | _=>rfl
  | _=>rfl
theorem Fv (x:SX) (K:V→View→Prop):wI P (.not x) T H K=cz (x.at T) (fun v=>match v with
    | .val (.bool t)=>K (.val (.bool (!t))) H
    | _=>False) .mk:=propext Iff.rfl
theorem EV (eq:Bool) (k:Nat) (x y:SX) (K:V→View→Prop):wI P (.nil eq k x y) T H K=ky (aj (isNil k (x.at T)) (isNil k (y.at T))) (fun o=>match o with
    | some b=>K (.val (.bool (if eq=true then b else !b))) H
    | none=>False) .mk:=propext Iff.rfl
theorem Cv (x y:SX) (K:V→View→Prop):wI P (.beq true x y) T H K=cz (x.at T) (fun v=>cz (y.at T) (fun v'=>match v,v' with
    | .val (.bool a),.val (.bool b)=>K (.val (.bool (a == b))) H
    | _,_=>False) .mk) .mk:=propext Iff.rfl
theorem CC (x y:SX) (K:V→View→Prop):wI P (.beq false x y) T H K=cz (x.at T) (fun v=>cz (y.at T) (fun v'=>match v,v' with
    | .val (.bool a),.val (.bool b)=>K (.val (.bool (a != b))) H
    | _,_=>False) .mk) .mk:=propext Iff.rfl
theorem GG (x y:SX) (K:V→View→Prop):wI P (.mm true x y) T H K=cz (x.at T) (fun v=>cz (y.at T) (fun v'=>match v,v' with
    | .val (.int k a),.val (.int _ b)=>K (.val (.int k (if b > a then b else a))) H
    | _,_=>False) .mk) .mk:=propext Iff.rfl
theorem F6 (x y:SX) (K:V→View→Prop):wI P (.mm false x y) T H K=cz (x.at T) (fun v=>cz (y.at T) (fun v'=>match v,v' with
    | .val (.int k a),.val (.int _ b)=>K (.val (.int k (if b < a then b else a))) H
    | _,_=>False) .mk) .mk:=propext Iff.rfl
theorem Cc (k:IntKind) (x:SX) (K:V→View→Prop):wI P (.conv k x) T H K=cz (x.at T) (fun v=>match v with
    | .val (.int _ a)=>K (.val (.int k (k.wrap a))) H
    | _=>False) .mk:=propext Iff.rfl
theorem Ao (n k:Nat) (o:br):View.set H n o k=if k=n then o else H k:=id rfl
theorem Be (z:List V) (parts:List (Nat × Nat × SX)) (K:V→View→Prop):wI P (.build z parts) T H K=ky (af z (parts.map fun p=>(p.1,p.2.1,p.2.2.at T))) (fun o=>match o with
    | some cs=>K (.agg cs) H
    | none=>False) .mk:=propext Iff.rfl
theorem xS (len sz:Nat) (z:List V) (parts:List (Nat × SX)) (K:V→View→Prop):wI P (.bg len sz z parts) T H K=ky (ag sz (List.replicate len z) (parts.map fun p=>(p.1,p.2.at T))) (fun o=>match o with
    | some es=>∀ n,H n=.dead→K (.sl n 0 len sz) (H.set n (.arr sz es))
    | none=>False) .mk:=propext Iff.rfl
theorem AA (sz:Nat) (x:SX) (lo hi:Option SX) (K:V→View→Prop):wI P (.slice sz x lo hi) T H K=ky (o3 sz (x.at T) (lo.map (SX.at T)) (hi.map (SX.at T))) (fun o=>match o with
    | some (v,.none,_)=>K v H
    | _=>False) .mk:=propext Iff.rfl
theorem CR (sz bytes:Nat) (z:List V) (l c:SX) (K:V→View→Prop):wI P (.make sz bytes z l c) T H K=ky (asNat (l.at T)) (fun a=>ky (asNat (c.at T)) (fun b=>match a,b with
    | some l,some c=>(l≤c∧c < aW∧bytes * c < aW)∧(c=0→K (.emp 2) H)∧(c≠0→∀ n,H n=.dead→K (.sl n 0 l sz) (H.set n (.arr sz (List.replicate l z))))
    | _,_=>False) .mk) .mk:=propext Iff.rfl
def lU (sz bytes:Nat) (x:V) (xs:List (List V)) (H:View) (K:V→View→Prop) (_:bS (H,K)):Prop:=if xs.isEmpty=true then (match x with
        | .emp k=>K (.emp k) H
        | .cM=>K .cM H
        | .aF es=>K (.aF es) H
        | .sl a b c d=>K (.sl a b c d) H
        | _=>False)
      else (xs.all fun e=>e.length == sz && e.all aN)=true∧(match x with
        | .emp _=>(xs.length * bytes < aW∧xs.length < aW)∧∀ n,H n=.dead→K (.sl n 0 xs.length sz) (H.set n (.arr sz xs))
        | .sl id off len esz=>match H id with
          | .arr _ es=>(off+len≤es.length∧esz=sz∧(len+xs.length) * bytes < aW∧len+xs.length < aW) ∧
              ∀ n,H n=.dead→K (.sl n 0 (len+xs.length) esz) ((H.set id .dead).set n (.arr esz ((es.drop off).take len ++ xs)))
          | _=>False
        | _=>False)
theorem Ft (sz bytes:Nat) (x y:SX) (K:V→View→Prop):wI P (.app sz bytes x y) T H K=ky (bA H (y.at T)) (fun o=>match o with
    | some (xs,_)=>lU sz bytes (x.at T) xs H K .mk
    | none=>False) .mk:=propext Iff.rfl
theorem rh (sz bytes k:Nat) (xs:List (List V)) (K:V→View→Prop) (w:bS (H,K)) (h0:xs.isEmpty=false):lU sz bytes (.emp k) xs H K w=((xs.all fun e=>e.length == sz && e.all aN)=true∧(xs.length * bytes < aW∧xs.length < aW)∧∀ n,H n=.dead→K (.sl n 0 xs.length sz) (H.set n (.arr sz xs))):=by
  unfold lU; rw[if_neg (by rw[h0]; simp)]
theorem uN (sz bytes id off len esz:Nat) (xs:List (List V)) (K:V→View→Prop) (w:bS (H,K)) (h0:xs.isEmpty=false):lU sz bytes (.sl id off len esz) xs H K w=((xs.all fun e=>e.length == sz && e.all aN)=true∧zP (H id) (fun o=>match o with
          | .arr _ es=>(off+len≤es.length∧esz=sz∧(len+xs.length) * bytes < aW∧len+xs.length < aW) ∧
              ∀ n,H n=.dead→K (.sl n 0 (len+xs.length) esz) ((H.set id .dead).set n (.arr esz ((es.drop off).take len ++ xs)))
          | _=>False) .mk):=by
  unfold lU zP; rw[if_neg (by rw[h0]; simp)]
theorem u4 (id off len esz z:Nat) (es:List (List V)) (hH:H id=.arr z es) (hl:off+(len+1)≤es.length):bA H (.sl id off (len+1) esz)=some ((es.drop off).take (len+1),[id]):=by
  simp only[bA,hH]; rw[if_pos hl]
theorem om (es:List (List V)):bA H (.aF es)=some (es,[]):=id rfl
theorem nO (k:Nat):bA H (.emp k)=some ([],[]):=id rfl
theorem C6 (x:SX) (K:V→View→Prop):wI P (.wY x) T H K=cz (x.at T) (fun v=>match v with
    | .aF es=>ky (kW es) (fun o=>match o with
      | some l=>K (.val (.string ⟨l.toArray⟩)) H
      | none=>False) .mk
    | _=>False) .mk:=propext Iff.rfl
theorem Cx (x:SX) (K:V→View→Prop):wI P (.dE x) T H K=cz (x.at T) (fun v=>match v with
    | .val (.string s)=>K (.aF (dP s)) H
    | _=>False) .mk:=propext Iff.rfl
def sX (P:Program) (op:Op) (ty:TypeId) (T:Env) (H:View) (K:V→View→Prop) (_:bS (T,H,K)):Prop:=wI P (.old op ty) T H K
theorem Gm (op:Op) (ty:TypeId) (K:V→View→Prop):wI P (.old op ty) T H K=sX P op ty T H K .mk:=propext Iff.rfl
theorem FV (t:Nat):ev T (.tmp t)=T t:=id rfl
theorem AJ (v:Value):ev T (.const v)=db v:=id rfl
theorem Gj (t:Nat):(SX.tmp t).at T=T t:=id rfl
theorem FG (v:V):(SX.val v).at T=v:=id rfl
theorem Ce (d t:Nat) (v:V):(T.put (some d) v) t=if t=d then v else T t:=id rfl
theorem Ba (v:V):T.put none v=T:=id rfl
theorem AT (vs:List V) (t:Nat):gL vs t=vs.getD t .any:=id rfl
theorem wH (e:List V) (j:Nat) (K:V→Prop):fC none e j K=(j < e.length∧K (e.getD j .any)):=propext Iff.rfl
theorem vP (n:Nat) (e:List V) (j:Nat) (K:V→Prop):fC (some n) e j K=(j+n≤e.length∧K (.agg ((e.drop j).take n))):=propext Iff.rfl
theorem vX (a b:Prop):tu .normal a b=a:=propext Iff.rfl
theorem AP (i:Nat) (a b:Prop):tu (.exit i) a b=b:=propext Iff.rfl
theorem CD (a b:Prop):tu .ret a b=b:=propext Iff.rfl
theorem sJ (i:Nat):kj i .normal=.normal:=id rfl
theorem yx (i:Nat):kj i .ret=.ret:=id rfl
theorem vp (i j:Nat):kj i (.exit j)=if j=i then .normal else .exit j:=by simp only[kj]
theorem Ci (acc:List V) (K:List V→Prop):uZ T H [] acc K=K acc:=propext Iff.rfl
theorem Ak (r:SR) (l:List SR) (acc:List V) (K:List V→Prop):uZ T H (r :: l) acc K=wR T H r fun v=>uZ T H l (acc ++ [v]) K:=propext Iff.rfl
theorem Fi (t:Nat) (K:V→Prop):wR T H (.tmp t) K=K (T t):=propext Iff.rfl
theorem C3 (t:Nat) (sz:Option Nat) (K:V→Prop):wR T H (.cell t sz) K=cz (T t) (fun v=>match v with
    | .ptr id i j=>zP (H id) (fun o=>match o with
      | .arr _ es=>i < es.length∧vn (es.getD i []) (fun e=>fC sz e j K) .mk
      | _=>False) .mk
    | .aY e j=>fC sz e j K
    | _=>False) .mk:=propext Iff.rfl
theorem yP (t:Nat) (b:Bool):m4 (.tmp t) b T=T.put (some t) (.val (.bool b)):=id rfl
theorem yO (v:V) (b:Bool):m4 (.val v) b T=T:=id rfl
theorem GC:(Exit.ret=Exit.ret∨Exit.ret=Exit.normal)=True:=by simp
theorem yz:(Exit.normal=Exit.ret∨Exit.normal=Exit.normal)=True:=by simp
end
section
variable {P:Program} {T:Env} {H:View}
theorem cH.intro {c:SC} {Q:Exit→Env→View→Prop} {v:bS (T,H,Q)} (I:Nat→Env→View→Prop) (k:Nat) (h0:I k T H)
    (hs:∀ k T H,I k T H→wS P c T H fun e T' H'=>tu e (∃ k',k' < k∧I k' T' H') (Q e T' H')):cH P c T H Q v:=by
  simp only[cH,wS]
  exact ⟨I,⟨k,h0⟩,hs⟩
theorem wb.intro {l:Nat} {c r:SC} {Q:Exit→Env→View→Prop} {v:bS (T,H,Q)} (I:Nat→Env→View→Prop) (K:Nat)
    (hs:∀ k T H,I k T H→wS P r T H fun e T' H'=>lR l e (∃ k',k' < k∧I k' T' H') (Q e T' H'))
    (h0:(∀ k T H,I k T H→wS P r T H fun e T' H'=>lR l e (∃ k',k' < k∧I k' T' H') (Q e T' H'))→wS P c T H fun e T' H'=>lR l e (∃ k,k < K∧I k T' H') (Q e T' H')):wb P l c r T H Q v:=by
  simp only[wb,wS]
  exact ⟨I,K,h0 hs,hs⟩
theorem aJ.pure {q:Bool} {f:FuncId} {vs:List V} {K:V→View→Prop} {v:bS (H,K)} {t:V} (hc:aC P f vs t) (hok:bZ P f=true) (hk:K t H):aJ P q f vs H K v:=by
  unfold aJ
  cases q with
  | true=>exact hc.DS hok hk
  | false =>
    refine ⟨hok,?_⟩
    rintro h rfl
    exact ⟨t,h,bu.eN hc h,.refl _,hk⟩
theorem aJ.xJ {f:FuncId} {vs:List V} {K:V→View→Prop} {v:bS (H,K)} (hc:aH P f vs H K):aJ P false f vs H K v:=hc
theorem x8:aw.view []=fun _=>br.dead:=by funext id; simp[aw.view]
theorem aC.of {f:FuncId} {vs:List V} {t:V} (ht:∀ v∈vs,Tree v) (h:aH P f vs (fun _=>.dead) fun r H'=>∀ h':aw,h'.view=H'→Fr h' r t):aC P f vs t:=by
  obtain ⟨r,h',ha,_,hf⟩:=h.2 [] x8
  exact aC.pU ht ha (hf h' rfl)
theorem wrap64 {x:Int} (h1 : -9223372036854775808≤x) (h2:x≤9223372036854775807):IntKind.wrap .i64 x=x:=by
  unfold IntKind.wrap
  have e1:(2:Int) ^ IntKind.i64.bits=18446744073709551616:=by rfl
  have e2:(2:Int) ^ (IntKind.i64.bits - 1)=9223372036854775808:=by rfl
  have e3:IntKind.i64.signed=true:=by rfl
  simp only[e1,e2,e3,Bool.true_and,decide_eq_true_eq]
  split <;> omega
theorem yH {k:IntKind} {i:Int} (h:0≤i):asNat (.val (.int k i))=some i.toNat:=by simp[asNat,h]
end
theorem yb (v:Value):V.cells (.val v)=[.val v]:=id rfl
theorem wT (v:Value):aN (.val v)=true:=id rfl
theorem ye (k:Nat):V.cells (.emp k)=[.emp k]:=id rfl
theorem C0 (k:Nat):aN (.emp k)=true:=id rfl
theorem yy  : V.cells .cM=[.cM]:=id rfl
theorem Cz  : aN .cM=true:=id rfl
theorem yk (es:List (List V)):V.cells (.aF es)=[.aF es]:=id rfl
theorem CP (es:List (List V)):aN (.aF es)=true:=id rfl
theorem A4 (a b c d:Nat):V.cells (.sl a b c d)=[.sl a b c d]:=id rfl
theorem EL (a b c d:Nat):aN (.sl a b c d)=true:=id rfl
theorem x4 (a b c:Nat):V.cells (.ptr a b c)=[.ptr a b c]:=id rfl
theorem B6 (a b c:Nat):aN (.ptr a b c)=true:=id rfl
theorem wA (e:List V) (j:Nat):V.cells (.aY e j)=[.aY e j]:=id rfl
theorem zR (e:List V) (j:Nat):aN (.aY e j)=true:=id rfl
theorem Ap (a:Nat):V.cells (.mp a)=[.mp a]:=id rfl
theorem GI (a:Nat):aN (.mp a)=true:=id rfl
theorem AK (f:FuncId) (a b:List V):V.cells (.fn f a b)=[.fn f a b]:=id rfl
theorem E0 (f:FuncId) (a b:List V):aN (.fn f a b)=true:=id rfl
theorem yK (cs:List V):V.cells (.agg cs)=cs:=id rfl
theorem C1 (k:Nat):cT (.emp k)=some 0:=id rfl
theorem Cd:cT .cM=some 0:=id rfl
theorem CE (es:List (List V)):cT (.aF es)=some es.length:=id rfl
theorem Fh (a b c d:Nat):cT (.sl a b c d)=some c:=id rfl
abbrev Kt {p:Prop} (_:p):Prop:=p
abbrev Wr:Prop:=Kt (And.intro @It <| And.intro @CY <| And.intro @x6 <| And.intro @vN <| And.intro @wz <| And.intro @Cg <| And.intro @zN <| And.intro @GH <|
    And.intro @C5 <| And.intro @AR <| And.intro @Da <| And.intro @FH <| And.intro @Bg <| And.intro @zI <| And.intro @Dj <| And.intro @wo <| And.intro @r7 <| And.intro @vR <| And.intro @yp <| And.intro @AZ <| And.intro @vA <|
    And.intro @CF <| And.intro @Ds <| And.intro @z2 <| And.intro @Ca <|
    And.intro @Cp <| And.intro @A5 <| And.intro @tz <| And.intro @rb <|
    And.intro @Dd <| And.intro @zG <| And.intro @HZ <| And.intro @Ct <|
    And.intro @Gw <| And.intro @CJ <| And.intro @EW <| And.intro @Gg <|
    And.intro @AG <| And.intro @CG <| And.intro @zO <| And.intro @AB <|
    And.intro @CM <| And.intro @Cj <| And.intro @Ay <| And.intro @EX <|
    And.intro @CI <| And.intro @Aj <| And.intro @Gq <| And.intro @ET <|
    And.intro @Dm <| And.intro @Bz <| And.intro @H6 <| And.intro @FW <| And.intro @CW <|
    And.intro @Fv <| And.intro @EV <| And.intro @Cv <| And.intro @CC <|
    And.intro @GG <| And.intro @F6 <| And.intro @Cc <| And.intro @C6 <|
    And.intro @Cx <| And.intro @Be <| And.intro @xS <| And.intro @AA <|
    And.intro @CR <| And.intro @Ft <| And.intro @Gm <| And.intro @FV <| And.intro @AJ <| And.intro @Gj <| And.intro @FG <|
    And.intro @Ce <| And.intro @Ba <| And.intro @AT <| And.intro @wH <|
    And.intro @vP <| And.intro @vX <| And.intro @AP <| And.intro @CD <|
    And.intro @sJ <| And.intro @yx <| And.intro @vp <| And.intro @Ci <|
    And.intro @Ak <| And.intro @Fi <| And.intro @C3 <| And.intro @yP @yO)
theorem wr:Wr:=(And.intro @It <| And.intro @CY <| And.intro @x6 <| And.intro @vN <| And.intro @wz <| And.intro @Cg <| And.intro @zN <| And.intro @GH <|
    And.intro @C5 <| And.intro @AR <| And.intro @Da <| And.intro @FH <| And.intro @Bg <| And.intro @zI <| And.intro @Dj <| And.intro @wo <| And.intro @r7 <| And.intro @vR <| And.intro @yp <| And.intro @AZ <| And.intro @vA <|
    And.intro @CF <| And.intro @Ds <| And.intro @z2 <| And.intro @Ca <|
    And.intro @Cp <| And.intro @A5 <| And.intro @tz <| And.intro @rb <|
    And.intro @Dd <| And.intro @zG <| And.intro @HZ <| And.intro @Ct <|
    And.intro @Gw <| And.intro @CJ <| And.intro @EW <| And.intro @Gg <|
    And.intro @AG <| And.intro @CG <| And.intro @zO <| And.intro @AB <|
    And.intro @CM <| And.intro @Cj <| And.intro @Ay <| And.intro @EX <|
    And.intro @CI <| And.intro @Aj <| And.intro @Gq <| And.intro @ET <|
    And.intro @Dm <| And.intro @Bz <| And.intro @H6 <| And.intro @FW <| And.intro @CW <|
    And.intro @Fv <| And.intro @EV <| And.intro @Cv <| And.intro @CC <|
    And.intro @GG <| And.intro @F6 <| And.intro @Cc <| And.intro @C6 <|
    And.intro @Cx <| And.intro @Be <| And.intro @xS <| And.intro @AA <|
    And.intro @CR <| And.intro @Ft <| And.intro @Gm <| And.intro @FV <| And.intro @AJ <| And.intro @Gj <| And.intro @FG <|
    And.intro @Ce <| And.intro @Ba <| And.intro @AT <| And.intro @wH <|
    And.intro @vP <| And.intro @vX <| And.intro @AP <| And.intro @CD <|
    And.intro @sJ <| And.intro @yx <| And.intro @vp <| And.intro @Ci <|
    And.intro @Ak <| And.intro @Fi <| And.intro @C3 <| And.intro @yP @yO)
abbrev Wq:Prop:=Kt (And.intro @eq_self.{1} <| And.intro @ne_eq.{1} <| And.intro @implies_true.{1} <| And.intro @implies_true.{0} <| And.intro @decide_true <| And.intro @decide_false <| And.intro @CZ <| And.intro @C7 <| And.intro @AE <| And.intro @By <| And.intro @A2 <| And.intro @BE <| And.intro @CH <| And.intro @Fb <| And.intro @Gb <| And.intro @GO <| And.intro @Dh <| And.intro @Cr <| And.intro @CU <| And.intro @yb <| And.intro @wT <| And.intro @ye <| And.intro @C0 <| And.intro @yy <| And.intro @Cz <| And.intro @yk <| And.intro @CP <| And.intro @A4 <| And.intro @EL <| And.intro @x4 <| And.intro @B6 <| And.intro @wA <| And.intro @zR <| And.intro @Ap <| And.intro @GI <| And.intro @AK <| And.intro @E0 <| And.intro @yK <| And.intro @C1 <| And.intro @Cd <| And.intro @CE <| And.intro @Fh <| And.intro @true_or <| And.intro @or_true <| And.intro @or_false <| And.intro @false_or <|
    And.intro @Kv <| And.intro @C9 <| And.intro @Dq <| And.intro @Ck <|
    And.intro @Di <| And.intro @FE <| And.intro @De <| And.intro @AQ <|
    And.intro @FD <| And.intro @Fp <| And.intro @Cq <| And.intro @B8 <|
    And.intro @Df <| And.intro @Cu <| And.intro @Bp <| And.intro @zX <|
    And.intro @yL <| And.intro @Cb <| And.intro @List.getD_cons_zero.{0} <| And.intro @List.getD_cons_succ.{0} <|
    And.intro @List.length_cons.{0} <| And.intro @List.length_nil.{0} <| And.intro @List.length_map.{0,0} <| And.intro @wrap64 <|
    And.intro @true_and <| And.intro @and_true <| And.intro @and_self <| And.intro @decide_eq_true_eq <|
    And.intro @decide_eq_false_iff_not <| And.intro @List.all_cons.{0} <| And.intro @List.all_nil.{0} <| And.intro @Bool.and_self <|
    And.intro @List.nil_append.{0} <| And.intro @List.cons_append.{0} <| And.intro @Nat.zero_add <| And.intro @yH <|
    And.intro @Int.toNat_natCast <| And.intro @GC <| And.intro @yz <| And.intro @bne_iff_ne.{0} <|
    And.intro @beq_iff_eq.{0} <| And.intro @Bool.not_eq_true <| And.intro @Bool.not_true <| And.intro @Bool.not_false <|
    And.intro @List.append_nil.{0} <| And.intro @List.map_cons.{0,0} <| And.intro @List.map_nil.{0,0} <| And.intro @Bool.true_eq_false <|
    And.intro @Bool.false_eq_true <| And.intro @false_implies <| And.intro @true_implies <| And.intro @Bool.not_not <|
    And.intro @List.drop_zero.{0} <| And.intro @Ao <| And.intro @List.set_cons_zero.{0} <| And.intro @List.set_cons_succ.{0} <|
    And.intro @List.drop_nil.{0} <| And.intro @Nat.add_zero <| And.intro @List.replicate_zero.{0} <| And.intro @List.replicate_succ.{0} <|
    And.intro @om <| And.intro @nO <| And.intro @rh <| And.intro @uN <|
    And.intro @List.isEmpty_cons.{0} <| And.intro @Option.map_none.{0,0} <| And.intro @Option.map_some.{0,0} <| And.intro @Nat.succ_ne_zero <|
    And.intro @List.take_succ_cons.{0} <| And.intro @List.take_zero.{0} <| And.intro @List.drop_succ_cons.{0} <| And.intro @bne_eq_false_iff_eq.{0} <|
    And.intro @beq_eq_false_iff_ne.{0} <| And.intro @not_true_eq_false <| And.intro @not_false_eq_true @Decidable.not_not)
theorem wq:Wq:=(And.intro @eq_self.{1} <| And.intro @ne_eq.{1} <| And.intro @implies_true.{1} <| And.intro @implies_true.{0} <| And.intro @decide_true <| And.intro @decide_false <| And.intro @CZ <| And.intro @C7 <| And.intro @AE <| And.intro @By <| And.intro @A2 <| And.intro @BE <| And.intro @CH <| And.intro @Fb <| And.intro @Gb <| And.intro @GO <| And.intro @Dh <| And.intro @Cr <| And.intro @CU <| And.intro @yb <| And.intro @wT <| And.intro @ye <| And.intro @C0 <| And.intro @yy <| And.intro @Cz <| And.intro @yk <| And.intro @CP <| And.intro @A4 <| And.intro @EL <| And.intro @x4 <| And.intro @B6 <| And.intro @wA <| And.intro @zR <| And.intro @Ap <| And.intro @GI <| And.intro @AK <| And.intro @E0 <| And.intro @yK <| And.intro @C1 <| And.intro @Cd <| And.intro @CE <| And.intro @Fh <| And.intro @true_or <| And.intro @or_true <| And.intro @or_false <| And.intro @false_or <|
    And.intro @Kv <| And.intro @C9 <| And.intro @Dq <| And.intro @Ck <|
    And.intro @Di <| And.intro @FE <| And.intro @De <| And.intro @AQ <|
    And.intro @FD <| And.intro @Fp <| And.intro @Cq <| And.intro @B8 <|
    And.intro @Df <| And.intro @Cu <| And.intro @Bp <| And.intro @zX <|
    And.intro @yL <| And.intro @Cb <| And.intro @List.getD_cons_zero.{0} <| And.intro @List.getD_cons_succ.{0} <|
    And.intro @List.length_cons.{0} <| And.intro @List.length_nil.{0} <| And.intro @List.length_map.{0,0} <| And.intro @wrap64 <|
    And.intro @true_and <| And.intro @and_true <| And.intro @and_self <| And.intro @decide_eq_true_eq <|
    And.intro @decide_eq_false_iff_not <| And.intro @List.all_cons.{0} <| And.intro @List.all_nil.{0} <| And.intro @Bool.and_self <|
    And.intro @List.nil_append.{0} <| And.intro @List.cons_append.{0} <| And.intro @Nat.zero_add <| And.intro @yH <|
    And.intro @Int.toNat_natCast <| And.intro @GC <| And.intro @yz <| And.intro @bne_iff_ne.{0} <|
    And.intro @beq_iff_eq.{0} <| And.intro @Bool.not_eq_true <| And.intro @Bool.not_true <| And.intro @Bool.not_false <|
    And.intro @List.append_nil.{0} <| And.intro @List.map_cons.{0,0} <| And.intro @List.map_nil.{0,0} <| And.intro @Bool.true_eq_false <|
    And.intro @Bool.false_eq_true <| And.intro @false_implies <| And.intro @true_implies <| And.intro @Bool.not_not <|
    And.intro @List.drop_zero.{0} <| And.intro @Ao <| And.intro @List.set_cons_zero.{0} <| And.intro @List.set_cons_succ.{0} <|
    And.intro @List.drop_nil.{0} <| And.intro @Nat.add_zero <| And.intro @List.replicate_zero.{0} <| And.intro @List.replicate_succ.{0} <|
    And.intro @om <| And.intro @nO <| And.intro @rh <| And.intro @uN <|
    And.intro @List.isEmpty_cons.{0} <| And.intro @Option.map_none.{0,0} <| And.intro @Option.map_some.{0,0} <| And.intro @Nat.succ_ne_zero <|
    And.intro @List.take_succ_cons.{0} <| And.intro @List.take_zero.{0} <| And.intro @List.drop_succ_cons.{0} <| And.intro @bne_eq_false_iff_eq.{0} <|
    And.intro @beq_eq_false_iff_ne.{0} <| And.intro @not_true_eq_false <| And.intro @not_false_eq_true @Decidable.not_not)
inductive uB:V→Prop
  | val (v:Value):uB (.val v)
  | bc (cs:List V):(∀ i,i < cs.length→∃ v,cs.getD i .any=.val v)→uB (.bc cs)
theorem HY {Z Z':Nat→Prop} {μ μ':Mu} {hp hp':Array Obj} {t:V} {x:Value} (hf:uB t) (h:aq Z μ hp t x):aq Z' μ' hp' t x:=by
  cases hf with
  | val=>cases h with | val _ hv=>exact .val _ hv
  | bc cs hc =>
    cases h with
    | bc _ aas h1 h2 =>
      refine .bc _ _ h1 fun i hi=>?_
      have:=h2 i hi
      obtain ⟨v,hv⟩:=hc i hi
      rw[hv] at this ⊢
      generalize aas.getD i undef=y at this ⊢
      cases this with | val _ hv=>exact .val _ hv
theorem bu.borrow {P:Program} {f:FuncId} {ts vs:List V} {t:V} {h:aw} (hc:aC P f ts t) (hf:uB t) (hl:ts.length=vs.length)
    (hfr:∀ i,i < vs.length→Fr h (vs.getD i .any) (ts.getD i .any)):bu P f vs h t h:=by
  refine ⟨Nat.le_refl _,fun Z μ F w xs hrel hr hfree=>?_⟩
  have hts:dc (fun b=>Z b∨fh μ b) μ w.heap ts xs:=⟨by rw[hl,hrel.1],fun i hi=>uW hr (hfr i (by omega)) (hrel.2 i (by omega))⟩
  have hzl:∀ b,(Z b∨fh μ b)→b < w.heap.size:=by
    rintro b (hb | ⟨id,o,s,hb⟩)
    · exact hr.bG b hb
    · exact hr.lt _ _ _ _ hb
  refine (hc _ μ w xs hts hzl).mono ?_
  rintro e w' ⟨x,Z',rfl,hv,hs,hz,hz',ho⟩
  have hm:dS Z Z μ μ w.heap w'.heap:=⟨fun _ h=>h,fun b hb=>ho b (hr.bG b hb) (fun x=>x),fun _ _ h=>h,ho.k7⟩
  exact ⟨x,Z,μ,rfl,HY hf (hv μ),⟨fun id=>(hr.obj id).mono hm rfl (fun b o s hx=>ho b (hr.lt _ _ _ _ hx) (fun x=>x)),hr.inj,fun id b o s hx=>Nat.lt_of_lt_of_le (hr.lt _ _ _ _ hx) hs.size,fun b hb=>Nat.lt_of_lt_of_le (hr.bG b hb) hs.size,hr.er⟩,
    ⟨hs,hm,fun b hb _=>ho b hb (fun x=>x),fun b hb=>.inl hb,fun _ _ _ _ h=>.inl h⟩,fun _ _=>rfl⟩
def df (H:View) (v t:V):Prop:=∀ h:aw,h.view=H→Fr h v t
theorem df.tree {H:View} {v:V} (h:Tree v):df H v v:=fun _ _=>.tree _ h
theorem df.sl {H:View} {id off len esz z:Nat} {es:List (List V)} (hH:H id=.arr z es) (hle:off+len≤es.length) (ht:∀ e∈es,∀ v∈e,Tree v) :
    df H (.sl id off len esz) (.aF ((es.drop off).take len)):=by
  rintro h rfl
  have hg:∀ i,i < len→((es.drop off).take len).getD i []=es.getD (off+i) []:=fun i hi=>by
    simp[List.getD_eq_getElem?_getD,List.getElem?_take,hi]
  refine .sl id off len esz z es _ hH hle (by simp; omega) (fun i hi=>by rw[hg i hi]) (fun i j hi hj=>?_)
  rw[hg i hi] at hj ⊢
  refine .tree _ ?_
  have h1:off+i < es.length:=by omega
  have e1:es.getD (off+i) []=es[off+i]:=by simp[List.getD_eq_getElem?_getD,h1]
  rw[e1] at hj ⊢
  have e2:(es[off+i]).getD j .any=(es[off+i])[j]:=by simp[List.getD_eq_getElem?_getD,hj]
  rw[e2]
  exact ht _ (List.getElem_mem _) _ (List.getElem_mem _)
theorem aJ.borrow {P:Program} {q:Bool} {f:FuncId} {H:View} {vs ts:List V} {K:V→View→Prop} {v:bS (H,K)} {t:V} (hc:aC P f ts t) (hok:bZ P f=true) (hf:uB t) (hl:ts.length=vs.length)
    (hfr:∀ i,i < vs.length→df H (vs.getD i .any) (ts.getD i .any)) (hk:K t H):aJ P q f vs H K v:=by
  unfold aJ
  cases q with
  | true=>exact ⟨hok,fun h e=>⟨t,h,bu.borrow hc hf hl (fun i hi=>hfr i hi h e),fun _ _=>rfl,e ▸ hk⟩⟩
  | false =>
    refine ⟨hok,?_⟩
    rintro h rfl
    exact ⟨t,h,bu.borrow hc hf hl (fun i hi=>hfr i hi h rfl),.refl _,hk⟩
abbrev gi (x:Int):V:=.val (.int .i64 x)
abbrev gb (x:Bool):V:=.val (.bool x)
abbrev gs (x:ByteArray):V:=.val (.string x)
theorem mixed:(Tryz.prog).follows .mixedOrders=true:=by kernel_rfl
def encI (l:List Int):V:=.aF (l.map fun x=>[gi x])
def cg (l:List Bool):V:=.aF (l.map fun x=>[gb x])
theorem kx (l:List Int):Tree (encI l):=by
  refine .aF _ fun i j hi hj=>?_
  simp only[List.length_map] at hi
  simp[List.getD_eq_getElem?_getD,hi] at hj ⊢
  subst hj
  exact .val _
def aU {α:Type} (l:List α):Prop:=l.length < 4611686018427387904
def jA:SC :=
  .seq (.seq (ar [aa 11 5,aa 12 0,aK 13 12,aM 14 .lss 11 13]) <|
  .cond (.tmp 14) (.skip) (.exit 0)) <|
  .seq (.block 1 (.seq (ar [aa 17 0,aa 18 5,aL 19 1 17 18,ak 20 19,aa 21 1,aa 22 5,aL 23 1 21 22,ak 24 23,aM 25 .neq 20 24]) <|
  .cond (.tmp 25) (.seq (ar [bd 4 false]) <|
  .ret) (.skip))) <|
  ar [aa 15 5,av 16 .add 15 1,aa 5 16]
def kZ:SF:=⟨.seq (ar [bd 4 false]) <|
  .seq (.seq (ar [aa 6 0,aK 7 6,aa 8 1,aK 9 8,aM 10 .neq 7 9]) <|
  .cond (.tmp 10) (.seq (ar [bd 4 false]) <|
  .ret) (.skip)) <|
  .seq (.seq (ar [aA 5 0]) <|
  .block 0 (.loop jA)) <|
  .seq (ar [bd 4 true]) <|
  .ret,
  [.tmp 4],26⟩
theorem o4:bm Tryz.prog 37 []=some kZ:=by kernel_rfl
theorem IZ {α:Type} [BEq α] [LawfulBEq α] {a b:List α} (h:a.length≠b.length):(a == b)=false:=by
  simp only[beq_eq_false_iff_ne]; intro e; exact h (by rw[e])
theorem IG (a b:List Int) (ha:aU a) (H:View):aH Tryz.prog 37 [encI a,encI b] H fun r H'=>r=gb (a == b)∧H'=H:=by
  refine aH.of mixed o4 ?_
  unfold aU at ha
  simp (disch:=omega) only [↓wr,↓reduceIte,wq,ai,ah,an,ab,af,ag,aj,isNil,Nat.reduceEqDiff,Nat.reduceAdd,Nat.reduceLT,Nat.reduceLeDiff,Int.reduceNeg,Int.reduceToNat,reduceCtorEq,kZ,encI]
  refine ay.ne (fun h=>?_) (fun h=>?_)
  · simp (disch:=omega) only [↓wr,↓reduceIte,wq,ai,ah,an,ab,af,ag,aj,isNil,Nat.reduceEqDiff,Nat.reduceAdd,Nat.reduceLT,Nat.reduceLeDiff,Int.reduceNeg,Int.reduceToNat,reduceCtorEq]
    rw[IZ (by omega)]
  · simp (disch:=omega) only [↓wr,↓reduceIte,wq,ai,ah,an,ab,af,ag,aj,isNil,Nat.reduceEqDiff,Nat.reduceAdd,Nat.reduceLT,Nat.reduceLeDiff,Int.reduceNeg,Int.reduceToNat,reduceCtorEq]
    refine cH.intro (fun k T H'=>∃ i:Nat,i+k=a.length∧a.take i=b.take i∧T 0=encI a∧T 1=encI b∧T 5=gi i∧H'=H) a.length ?_ ?_
    · exact ⟨0,by omega,by simp,rfl,rfl,rfl,rfl⟩
    · rintro k T H' ⟨i,hk,hi,h0,h1,h5,rfl⟩
      simp (disch:=omega) only [↓wr,↓reduceIte,wq,ai,ah,an,ab,af,ag,aj,isNil,Nat.reduceEqDiff,Nat.reduceAdd,Nat.reduceLT,Nat.reduceLeDiff,Int.reduceNeg,Int.reduceToNat,reduceCtorEq,jA,h0,h1,h5,encI]
      refine ay.dec (fun hc=>?_) (fun hc=>?_)
      · have h2:a[i]?=some (a[i]'(by omega)):=List.getElem?_eq_getElem (by omega)
        have h3:b[i]?=some (b[i]'(by omega)):=List.getElem?_eq_getElem (by omega)
        simp (disch:=omega) only [↓wr,↓reduceIte,wq,ai,ah,an,ab,af,ag,aj,isNil,Nat.reduceEqDiff,Nat.reduceAdd,Nat.reduceLT,Nat.reduceLeDiff,Int.reduceNeg,Int.reduceToNat,reduceCtorEq,h0,h1,h5,encI,List.getElem?_map,h2,h3,Option.map_some]
        refine ay.ne (fun hd=>?_) (fun hd=>?_)
        · simp (disch:=omega) only [↓wr,↓reduceIte,wq,ai,ah,an,ab,af,ag,aj,isNil,Nat.reduceEqDiff,Nat.reduceAdd,Nat.reduceLT,Nat.reduceLeDiff,Int.reduceNeg,Int.reduceToNat,reduceCtorEq]
          have:(a == b)=false:=by
            simp only[beq_eq_false_iff_ne]; rintro rfl; exact hd rfl
          rw[this]
        · simp (disch:=omega) only [↓wr,↓reduceIte,wq,ai,ah,an,ab,af,ag,aj,isNil,Nat.reduceEqDiff,Nat.reduceAdd,Nat.reduceLT,Nat.reduceLeDiff,Int.reduceNeg,Int.reduceToNat,reduceCtorEq,h0,h1,h5,encI]
          refine ⟨k - 1,by omega,i+1,by omega,?_,rfl⟩
          rw[List.take_add_one,List.take_add_one,hi,h2,h3,hd]
      · simp (disch:=omega) only [↓wr,↓reduceIte,wq,ai,ah,an,ab,af,ag,aj,isNil,Nat.reduceEqDiff,Nat.reduceAdd,Nat.reduceLT,Nat.reduceLeDiff,Int.reduceNeg,Int.reduceToNat,reduceCtorEq,h0,h1,h5,encI]
        have:a=b:=by
          have e:i=a.length:=by omega
          rw[List.take_of_length_le (by omega),List.take_of_length_le (by omega)] at hi
          exact hi
        rw[this]; simp
theorem iT (l:List Bool):Tree (cg l):=by
  refine .aF _ fun i j hi hj=>?_
  simp only[List.length_map] at hi
  simp[List.getD_eq_getElem?_getD,hi] at hj ⊢
  subst hj
  exact .val _
structure Term where
  name:ByteArray
  level:Int
  assoc:Int
structure aG where
  left:Int
  right:List Int
  prec:Int
structure ao where
  az:List Term
  ax:List ByteArray
  rules:List aG
  start:Int
instance:Inhabited Term:=⟨⟨.empty,0,0⟩⟩
instance:Inhabited aG:=⟨⟨0,[],0⟩⟩
def cq (t:Term):List V:=[gs t.name,gi t.level,gi t.assoc]
def bf (r:aG):List V:=[gi r.left,encI r.right,gi r.prec]
def encS (l:List ByteArray):V:=.aF (l.map fun s=>[gs s])
def aR (g:ao):List V:=[.aF (g.az.map cq),encS g.ax,.aF (g.rules.map bf),gi g.start]
theorem dZ {α:Type} (l:List α) (f:α→List V) (h:∀ x∈l,∀ v∈f x,Tree v):Tree (.aF (l.map f)):=by
  refine .aF _ fun i j hi hj=>?_
  simp only[List.length_map] at hi
  have e:(l.map f).getD i []=f l[i]:=by simp[List.getD_eq_getElem?_getD,hi]
  rw[e] at hj ⊢
  have e2:(f l[i]).getD j .any=(f l[i])[j]:=by simp[List.getD_eq_getElem?_getD,hj]
  rw[e2]
  exact h _ (List.getElem_mem _) _ (List.getElem_mem _)
theorem eX (cs:List V) (h:∀ v∈cs,Tree v):Tree (.agg cs):=by
  refine .agg _ fun i hi=>?_
  have e2:cs.getD i .any=cs[i]:=by simp[List.getD_eq_getElem?_getD,hi]
  rw[e2]; exact h _ (List.getElem_mem _)
theorem sC (l:List ByteArray):Tree (encS l):=dZ _ _ fun x _ v hv=>by simp at hv; subst hv; exact .val _
theorem nK (t:Term):∀ v∈cq t,Tree v:=by intro v hv; simp[cq] at hv; rcases hv with rfl | rfl | rfl <;> exact .val _
theorem dN (r:aG):∀ v∈bf r,Tree v:=by
  intro v hv; simp[bf] at hv; rcases hv with rfl | rfl | rfl
  · exact .val _
  · exact kx _
  · exact .val _
theorem iS (g:ao):∀ v∈aR g,Tree v:=by
  intro v hv; simp[aR] at hv; rcases hv with rfl | rfl | rfl | rfl
  · exact dZ _ _ fun x _=>nK x
  · exact sC _
  · exact dZ _ _ fun x _=>dN x
  · exact .val _
def cd (x:Int):Prop:=-9223372036854775808≤x∧x≤9223372036854775807
structure ao.Ok (g:ao):Prop where
  az:aU g.az
  ax:aU g.ax
  rules:aU g.rules
  start:cd g.start
  term:∀ t∈g.az,cd t.level∧cd t.assoc
  aT:∀ r∈g.rules,cd r.left∧cd r.prec∧aU r.right∧∀ x∈r.right,cd x
def nN (g:ao) (s:Int):Bool:=if 0≤s then decide (s < g.az.length) else decide (-1 - s < g.ax.length)
def dg (l:List Int) (is:List Bool) (az:Bool):Bool:=l.all fun s=>if 0≤s then az else is.getD (-1 - s).toNat false
abbrev gy (x:Int):V:=.val (.int .u8 x)
def AV (c:Int):Bool:=(decide (97≤c) && decide (c≤122)) || (decide (65≤c) && decide (c≤90)) || c == 95
def wD (c:Int):Bool:=AV c || (decide (48≤c) && decide (c≤57)) || c == 46
def fZ (l:List Int):Bool:=decide (0 < l.length) && decide (l.length≤20) && (match l with | c :: _=>AV c | []=>false) && l.all wD
end Gv
