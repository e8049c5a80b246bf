/-
  Part 5 of the proof: what the machine does and what the functions answer.
  Conditions: those that each lemma names.
-/
import Derived.Test.YtomcjampldmjoaaGreatProg
import Derived.KernelRfl
import Derived.Test.YtomcjampldmjoaaGreatSGzTD
set_option linter.unusedSimpArgs false
set_option linter.unusedVariables false
namespace Gv
open Go
section
variable {P:Program} {n:Nat} {all:List Oper}
theorem MK (h:aG):h.view h.length=.dead:=by simp[aG.view,List.getD_eq_getElem?_getD]
theorem PV {o:Oper} {T:Env} {h:aG} {s:SI} {K:V→View→Prop} (hg:cO n all T o=some true) (hc:∀ v aD rd,sI P s T h.view h.length=some (v,aD,rd)→cd P o T h.view h.length=some (v,aD,rd)) (hw:wI P s T h.view K) :
    ∃ v h' rd wr,dd P n all o T h v h' rd wr false∧iK h h'∧K v h'.view∧jE (rZ P s) rd wr false h.length h'.length:=by
  obtain ⟨v,aD,rd,hs,hk⟩:=PX hw (MK h)
  have ha:=hc _ _ _ hs
  have hlive:∀ id,id∈aD.wr→h.view id≠.dead:=fun id hid=>(ln ha id hid).1
  refine ⟨v,aD.apply h,rd,aD.wr,.op hg ha,?_,?_,?_,?_⟩
  · intro id hid hd
    rw[j8 hlive]
    cases aD with
    | none=>exact hd
    | new o=>simp only[bk.view,View.set]; rw[if_neg (by omega)]; exact hd
    | fK k o =>
      simp only[bk.view,View.set]
      rw[if_neg (by rintro rfl; exact hlive id (by simp[bk.wr]) hd)]; exact hd
    | aX k o =>
      simp only[bk.view,View.set]
      rw[if_neg (by omega)]
      split
      · rfl
      · exact hd
  · rw[j8 (fun id hid=>(ln ha id hid).1)]; exact hk
  · intro h0
    obtain ⟨rfl,rfl⟩:=(qT hs).1 h0
    exact ⟨rfl,rfl,rfl,rfl⟩
  · intro h1
    rcases Nat.lt_or_ge (rZ P s) 1 with h2 | h2
    · obtain ⟨rfl,rfl⟩:=(qT hs).1 (by omega); rfl
    · exact (qT hs).2 (by omega)
theorem GD {P:Program} {fr:Bool} {s:SI} {T:Env} {H:View} {n:Nat} {v:V} {aD:bk} {rd:List Nat} (h:sI P (xT P fr s) T H n=some (v,aD,rd)):sI P s T H n=some (v,aD,rd):=by
  unfold xT at h
  split at h
  · split at h
    · exact MV h
    · exact h
  · split at h
    · rename_i hc
      simp only[Bool.and_eq_true] at hc
      exact OG hc.2 h
    · exact h
  · exact h
theorem y5 (P:Program) (fz:Fz) (o:Oper) :
    (∃ f args ats,o.op=.call { callee:=.value f,args:=args,argTypes:=ats }∧mU P fz o=.call (SX.of f) (args.toList.map SX.of)) ∨
    (∃ t x,o.op=.box t x∧mU P fz o=.op (.ir (SX.of x)))∨(∃ s d x,o.op=.convert s d x∧ui P s d=true∧mU P fz o=.op (.eT (SX.of x)))∨mU P fz o=.op (xT P fz.fr (comp P o)):=by
  unfold mU
  split
  · rename_i f args ats ho; exact .inl ⟨f,args,ats,ho,rfl⟩
  · rename_i t x ho
    by_cases hd:(match o.dst with | some d=>fz.l.contains d | none=>false)=true
    · exact .inr (.inl ⟨t,x,ho,if_pos hd⟩)
    · refine .inr (.inr (.inr ?_))
      refine (if_neg hd).trans ?_
      simp only[comp,ho,xT]
  · rename_i s d x ho
    by_cases hd:((match o.dst with | some d=>fz.l.contains d | none=>false) && ui P s d)=true
    · exact .inr (.inr (.inl ⟨s,d,x,ho,by simp only[Bool.and_eq_true] at hd; exact hd.2,if_pos hd⟩))
    · exact .inr (.inr (.inr (if_neg hd)))
  · exact .inr (.inr (.inr rfl))
theorem dd.len {o:Oper} {T:Env} {h h':aG} {v:V} {rd wr:List Nat} {call:Bool} (st:dd P n all o T h v h' rd wr call):h.length≤h'.length:=by
  cases st with
  | skip=>exact Nat.le_refl _
  | op _ _=>rename_i aD _ _ ; cases aD <;> simp[bk.apply]
  | ir _ _ _=>exact Nat.le_refl _
  | eT _ _ _ _ _ _=>exact Nat.le_refl _
  | call _ _ _ _ ha _ _=>exact ha.1
theorem Ox {fz:Fz} {o:Oper} {T:Env} {h:aG} {quiet:Bool} {K:V→View→Prop} (hg:cO n all T o=some true) (hw:wB P quiet (mU P fz o) T h.view K) :
    ∃ v h' rd wr call,dd P n all o T h v h' rd wr call∧iK h h'∧K v h'.view∧jE (gZ P quiet (mU P fz o)) rd wr call h.length h'.length:=by
  rcases y5 P fz o with ⟨f,args,ats,ho,hc⟩ | ⟨t,x,ho,hc⟩ | ⟨s,d,x,ho,hcv,hc⟩ | hc
  · rw[hc] at hw ⊢
    simp only[wB] at hw
    split at hw
    · rename_i g first cap hf
      rw[FJ] at hw
      rw[SX.cw] at hf
      split at hw
      · rename_i hq
        obtain ⟨hok,hq'⟩:=hw
        obtain ⟨r,h',hr,hold,hk⟩:=hq' h rfl
        refine ⟨r,h',[],[],true,.call hg ho hf hok hr (fun id hid _=>hold id hid) (fun id hid=>by simp at hid),fun id hid hd=>(hold id hid).trans hd,hk,?_,?_⟩
        · intro h0; simp[gZ,hq] at h0
        · intro _; rfl
      · rename_i hq
        obtain ⟨hok,hq'⟩:=hw
        obtain ⟨r,h',hr,hst,hk⟩:=hq' h rfl
        refine ⟨r,h',[],List.range h.length,true,.call hg ho hf hok hr (fun id hid hn=>?_) (fun id hid=>by simpa using hid),hst,hk,NN (by simp[gZ,hq])⟩
        exact absurd (by simpa using hid) hn
    · exact hw.elim
  · rw[hc] at hw ⊢
    simp only[wB,wI,SX.cw] at hw
    exact ⟨_,h,[],[],false,.ir hg ho hw.1,.refl _,hw.2,fun _=>⟨rfl,rfl,rfl,rfl⟩,fun _=>rfl⟩
  · rw[hc] at hw ⊢
    simp only[wB,wI,SX.cw] at hw
    obtain ⟨e,h1,h2,h3⟩:=y8 hcv
    split at hw
    · rename_i st hx
      exact ⟨_,h,[],[],false,.eT hg ho h1 h2 h3 hx,.refl _,hw,fun _=>⟨rfl,rfl,rfl,rfl⟩,fun _=>rfl⟩
    · exact hw.elim
  · rw[hc] at hw ⊢
    obtain ⟨v,h',rd,wr,h1,h0,h2,h3⟩:=PV (s:=xT P fz.fr (comp P o)) hg (fun v aD rd hs=>GI (GD hs)) hw
    exact ⟨v,h',rd,wr,false,h1,h0,h2,h3⟩
def eP (P:Program) (quiet:Bool) (l:List SO) (recs:List Rec):Prop :=
  l.length=recs.length∧∀ (i:Nat) (s:SO) (r:Rec),l[i]?=some s→recs[i]?=some r→jE (gZ P quiet s.b) r.rd r.wr r.call r.lo r.hi
theorem eP.nil {quiet:Bool} : eP P quiet [] []:=⟨rfl,fun i s r h=>by simp at h⟩
theorem eP.cons {quiet:Bool} {l:List SO} {recs:List Rec} {s:SO} {r:Rec} (h:eP P quiet l recs) (hr:jE (gZ P quiet s.b) r.rd r.wr r.call r.lo r.hi):eP P quiet (s :: l) (r :: recs):=by
  refine ⟨by simp[h.1],fun i s' r' hs hr'=>?_⟩
  cases i with
  | zero=>simp at hs hr'; subst hs hr'; exact hr
  | succ i=>exact h.2 i s' r' (by simpa using hs) (by simpa using hr')
theorem eP.append {quiet:Bool} {l l':List SO} {recs recs':List Rec} (h:eP P quiet l recs) (h':eP P quiet l' recs'):eP P quiet (l ++ l') (recs ++ recs'):=by
  refine ⟨by simp[h.1,h'.1],fun i s r hs hr=>?_⟩
  by_cases hi:i < l.length
  · rw[List.getElem?_append_left hi] at hs
    rw[List.getElem?_append_left (h.1 ▸ hi)] at hr
    exact h.2 i s r hs hr
  · rw[List.getElem?_append_right (by omega)] at hs
    rw[List.getElem?_append_right (by have:=h.1; omega)] at hr
    exact h'.2 (i - l.length) s r hs (by rw[h.1]; exact hr)
theorem sj {fz:Fz} {o:Oper} {s:SO} (h:D4 P n all fz o=some s):qN n o=true∧s.dst=o.dst∧s.b=mU P fz o∧ue n all o=some s.guard:=by
  unfold D4 at h
  split at h
  · rename_i hd
    simp only[Option.map_eq_some_iff] at h
    obtain ⟨g,hg,rfl⟩:=h
    exact ⟨hd,rfl,rfl,hg⟩
  · simp at h
theorem Bq {o:Oper} {T:Env} (h:ue n all o=some none):cO n all T o=some true:=by
  unfold ue at h
  unfold cO
  split at h
  · rename_i hg; rw[hg]
  · split at h
    · split at h
      · simp at h
      · simp at h
    · simp at h
theorem kh {o:Oper} {T:Env} {d:Nat} {want:Bool} (h:ue n all o=some (some (d,want))) :
    (∀ b,T d=.val (.bool b)→cO n all T o=some (b == want))∧(T d=.bt []→cO n all T o=some false):=by
  unfold ue at h
  unfold cO
  split at h
  · simp at h
  · rename_i j w hg
    rw[hg]
    split at h
    · rename_i d' hd
      split at h
      · rename_i hlt
        simp at h
        obtain ⟨rfl,rfl⟩:=h
        simp only[hd,hlt,if_true]
        exact ⟨fun b hb=>by rw[hb],fun hb=>by rw[hb]⟩
      · simp at h
    · simp at h
theorem km {fz:Fz} {os:List Oper} (h:cY P n all fz os=some []):os=[]:=by
  cases os with
  | nil=>rfl
  | cons o r =>
    simp only[cY] at h
    split at h <;> simp at h
theorem kR {fz:Fz} {os:List Oper} {s:SO} {l:List SO} (h:cY P n all fz os=some (s :: l)):∃ o r,os=o :: r∧D4 P n all fz o=some s∧cY P n all fz r=some l:=by
  cases os with
  | nil=>simp[cY] at h
  | cons o r =>
    simp only[cY] at h
    split at h
    · rename_i s' l' h1 h2
      simp at h
      obtain ⟨rfl,rfl⟩:=h
      exact ⟨o,r,rfl,h1,h2⟩
    · simp at h
theorem pX {fz:Fz} : ∀ {l l':List SO} {os:List Oper},cY P n all fz os=some (l ++ l')→∃ a b,os=a ++ b∧cY P n all fz a=some l∧cY P n all fz b=some l'
  | [],l',os,h=>⟨[],os,rfl,rfl,h⟩
  | s :: l,l',os,h=>by
    obtain ⟨o,r,rfl,h1,h2⟩:=kR h
    obtain ⟨a,b,rfl,h3,h4⟩:=pX h2
    exact ⟨o :: a,b,rfl,by simp[cY,h1,h3],h4⟩
theorem Tr.append {a b:List Oper} {T T1 T2:Env} {h h1 h2:aG} {r1 r2:List Rec} (x:Tr P n all a T h r1 T1 h1) (y:Tr P n all b T1 h1 r2 T2 h2):Tr P n all (a ++ b) T h (r1 ++ r2) T2 h2:=by
  induction x with
  | nil=>exact y
  | cons st hd _ ih=>exact .cons st hd (ih y)
theorem zy {T:Env} {d:Nat} {v:V} (h:T d=v):T.put (some d) v=T:=by
  funext t
  simp only[Env.put]
  split
  · rename_i e; subst e; exact h.symm
  · rfl
theorem Fc {fz:Fz} {quiet:Bool} {K:Env→View→Prop} (g:Option (Nat × Bool)):∀ (l:List (Option Nat × SB)) (os:List Oper) (T:Env) (h:aG),
    cY P n all fz os=some (l.map fun (d,b)=>⟨d,g,b⟩)→(∀ d w,g=some (d,w)→T d=.val (.bool w)∧(l.all fun x=>x.1 != some d)=true)→xJ P quiet l T h.view K →
    ∃ recs T' h',Tr P n all os T h recs T' h'∧(iK h h'∧h.length≤h'.length)∧K T' h'.view∧eP P quiet (l.map fun (d,b)=>⟨d,g,b⟩) recs
  | [],os,T,h,hc,hg,hw=>by
    have:=km hc; subst this
    exact ⟨[],T,h,.nil,⟨.refl _,Nat.le_refl _⟩,hw,.nil⟩
  | (d,b) :: l,os,T,h,hc,hg,hw=>by
    obtain ⟨o,r,rfl,h1,h2⟩:=kR hc
    obtain ⟨hd,hd1,hb1,hg1⟩:=sj h1
    simp only at hd1 hb1 hg1
    have hgv:cO n all T o=some true:=by
      cases g with
      | none=>exact Bq hg1
      | some p =>
        obtain ⟨d',w⟩:=p
        have:=(kh (T:=T) hg1).1 w (hg d' w rfl).1
        rw[this]; simp
    simp only[xJ] at hw
    rw[hb1] at hw
    obtain ⟨v,h',rd,wr,call,st,hst,hk,hl⟩:=Ox hgv hw
    obtain ⟨recs,T',h'',tr,hst',hk',hro⟩:=Fc g l r (T.put d v) h' h2 (fun d' w e=>by
      have:=hg d' w e
      simp only[List.all_cons,Bool.and_eq_true,bne_iff_ne,ne_eq] at this
      refine ⟨?_,this.2.2⟩
      rw[← this.1]
      cases d with
      | none=>rfl
      | some t=>simp only[Env.put]; rw[if_neg]; intro e; subst e; exact this.2.1 rfl) hk
    rw[hd1] at tr
    have hlen:=st.len
    exact ⟨_,T',h'',.cons st hd tr,⟨hst.trans hst'.1 hlen,Nat.le_trans hlen hst'.2⟩,hk',hro.cons (by rw[hb1]; exact hl)⟩
theorem BO {fz:Fz} {quiet:Bool} (d:Nat) (w:Bool) (h:aG):∀ (l:List (Option Nat × SB)) (os:List Oper) (T:Env),
    cY P n all fz os=some (l.map fun (d',b)=>⟨d',some (d,w),b⟩)→(T d=.val (.bool !w)∨T d=.bt [])→(l.all fun x=>x.1 != some d)=true →
    ∃ recs,Tr P n all os T h recs (gE l T) h∧eP P quiet (l.map fun (d',b)=>⟨d',some (d,w),b⟩) recs
  | [],os,T,hc,hd,hl=>by
    have:=km hc; subst this
    exact ⟨[],.nil,.nil⟩
  | (d',b) :: l,os,T,hc,hd,hl=>by
    obtain ⟨o,r,rfl,h1,h2⟩:=kR hc
    obtain ⟨hd0,hd1,hb1,hg1⟩:=sj h1
    simp only at hd1 hb1 hg1
    have hgv:cO n all T o=some false:=by
      rcases hd with hd | hd
      · rw[(kh (T:=T) hg1).1 _ hd]; cases w <;> rfl
      · exact (kh (T:=T) hg1).2 hd
    simp only[List.all_cons,Bool.and_eq_true,bne_iff_ne,ne_eq] at hl
    obtain ⟨recs,tr,hro⟩:=BO d w h l r (T.put d' (.bt [])) h2 (by
      have:(T.put d' (.bt [])) d=T d:=by
        cases d' with
        | none=>rfl
        | some t=>simp only[Env.put]; rw[if_neg]; intro e; subst e; exact hl.1 rfl
      rw[this]; exact hd) hl.2
    rw[hd1] at tr
    refine ⟨_,?_,hro.cons (r:=⟨[],[],false,h.length,h.length⟩) ⟨fun _=>⟨rfl,rfl,rfl,rfl⟩,fun _=>rfl⟩⟩
    have:=Tr.cons (.skip hgv) hd0 tr
    rw[gE,hd1]
    exact this
theorem PH {fz:Fz} {quiet:Bool} {K:Env→View→Prop} {g:SG} {os:List Oper} {T:Env} {h:aG} (hc:cY P n all fz os=some g.flat) (hok:rU g=true) (hw:wG P quiet g T h.view K) :
    ∃ recs T' h',Tr P n all os T h recs T' h'∧(iK h h'∧h.length≤h'.length)∧K T' h'.view∧eP P quiet g.flat recs:=by
  unfold wG at hw
  unfold SG.flat at hc ⊢
  unfold rU at hok
  split at hw
  · rename_i hg
    rw[hg] at hc ⊢
    exact Fc none g.ops os T h hc (fun d w e=>by simp at e) hw
  · rename_i d want hg
    rw[hg] at hc hok ⊢
    simp only at hok
    split at hw
    · rename_i b hb
      by_cases e:b=want
      · subst e
        have:=hw.1 rfl
        rw[zy hb] at this
        exact Fc (some (d,b)) g.ops os T h hc (fun d' w e=>by simp at e; obtain ⟨rfl,rfl⟩:=e; exact ⟨hb,hok⟩) this
      · have e':b = !want:=by cases b <;> cases want <;> simp_all
        have:=hw.2 e'
        subst e'
        rw[zy hb] at this
        obtain ⟨recs,tr,hro⟩:=BO (quiet:=quiet) d want h g.ops os T hc (.inl hb) hok
        exact ⟨recs,_,h,tr,⟨.refl _,Nat.le_refl _⟩,this,hro⟩
    · rename_i hb
      obtain ⟨recs,tr,hro⟩:=BO (quiet:=quiet) d want h g.ops os T hc (.inr hb) hok
      exact ⟨recs,_,h,tr,⟨.refl _,Nat.le_refl _⟩,hw,hro⟩
    · exact hw.elim
theorem yk {fz:Fz} {quiet:Bool} {K:Env→View→Prop} : ∀ (gs:List SG) (os:List Oper) (T:Env) (h:aG),cY P n all fz os=some (jA gs)→gs.all rU=true→wH P quiet gs T h.view K →
    ∃ recs T' h',Tr P n all os T h recs T' h'∧(iK h h'∧h.length≤h'.length)∧K T' h'.view∧eP P quiet (jA gs) recs
  | [],os,T,h,hc,_,hw=>by
    have:=km hc; subst this
    exact ⟨[],T,h,.nil,⟨.refl _,Nat.le_refl _⟩,hw,.nil⟩
  | g :: gs,os,T,h,hc,hok,hw=>by
    simp only[jA,List.map_cons,List.flatten_cons] at hc ⊢
    simp only[List.all_cons,Bool.and_eq_true] at hok
    obtain ⟨a,b,rfl,h1,h2⟩:=pX hc
    obtain ⟨r1,T1,h1',tr1,st1,hk1,ro1⟩:=PH h1 hok.1 hw
    obtain ⟨r2,T2,h2',tr2,st2,hk2,ro2⟩:=yk gs b T1 h1' h2 hok.2 hk1
    exact ⟨_,T2,h2',tr1.append tr2,⟨st1.1.trans st2.1 st1.2,Nat.le_trans st1.2 st2.2⟩,hk2,ro1.append ro2⟩
theorem Tr.at_ {os:List Oper} {T T':Env} {h h':aG} {recs:List Rec} (tr:Tr P n all os T h recs T' h'):∀ (i:Nat) (o:Oper),os[i]?=some o →
    ∃ T1 h1 v h2 rd wr call recs2,recs[i]?=some ⟨rd,wr,call,h1.length,h2.length⟩∧dd P n all o T1 h1 v h2 rd wr call∧h.length≤h1.length∧Tr P n all (os.drop (i+1)) (T1.put o.dst v) h2 recs2 T' h'∧(∀ m,recs2[m]?=recs[i+1+m]?) ∧
      (∀ t,(∀ o'∈os.take i,o'.dst≠some t)→T1 t=T t):=by
  induction tr with
  | nil=>intro i o hi; simp at hi
  | @cons o0 rest T T' h h1 h' v rd wr call recs st hd tr ih =>
    intro i o hi
    cases i with
    | zero =>
      simp at hi; subst hi
      exact ⟨T,h,v,h1,rd,wr,call,recs,rfl,st,Nat.le_refl _,by simpa using tr,fun m=>by rw[show 0+1+m=m+1 by omega,List.getElem?_cons_succ],fun t _=>rfl⟩
    | succ i =>
      simp at hi
      obtain ⟨T1,h2,v2,h3,rd2,PA,call2,recs2,e1,e2,e3,e4,e5,e6⟩:=ih i o hi
      have hlen:h.length≤h1.length:=by
        cases st with
        | skip=>exact Nat.le_refl _
        | op _ _=>rename_i aD _ _; cases aD <;> simp[bk.apply]
        | ir _ _ _=>exact Nat.le_refl _
        | eT _ _ _ _ _ _=>exact Nat.le_refl _
        | call _ _ _ _ ha _ _=>exact ha.1
      refine ⟨T1,h2,v2,h3,rd2,PA,call2,recs2,by simpa using e1,e2,Nat.le_trans hlen e3,by simpa using e4,fun m=>?_,fun t ht=>?_⟩
      · rw[e5,show i+1+1+m=(i+1+m)+1 by omega,List.getElem?_cons_succ]
      · simp only[List.take_succ_cons,List.mem_cons] at ht
        rw[e6 t fun o' ho'=>ht o' (.inr ho')]
        have:=ht o0 (.inl rfl)
        cases hdst:o0.dst with
        | none=>rfl
        | some d=>simp only[Env.put]; rw[if_neg]; rintro rfl; exact this hdst
theorem Ix {o:Oper} {T:Env} {h h':aG} {v:V} {rd wr:List Nat} {call:Bool} (st:dd P n all o T h v h' rd wr call) (ha:zx o=true) (hg:o.guard=none):v=.ptr h.length 0 0:=by
  unfold zx at ha
  have hgv:cO n all T o=some true:=by unfold cO; rw[hg]
  cases st with
  | skip hs=>rw[hgv] at hs; simp at hs
  | op _ hop =>
    split at ha
    · rename_i e ho
      simp only[cd,ho] at hop
      split at hop
      · unfold kN at hop
        split at hop
        · simp at hop; exact hop.1.symm
        · simp at hop
      · simp at hop
    · simp at ha
  | ir _ ho _=>rw[ho] at ha; simp at ha
  | eT _ ho _ _ _ _=>rw[ho] at ha; simp at ha
  | call _ ho _ _ _ _ _=>rw[ho] at ha; simp at ha
theorem IL {o:Oper} {T:Env} {h h':aG} {v:V} {rd wr:List Nat} {call:Bool} {t id i j:Nat} (st:dd P n all o T h v h' rd wr call) (ha:jV o=some t) (ht:T t=.ptr id i j):wr=[id]∧call=false:=by
  unfold jV at ha
  split at ha
  · rename_i ty t' x ho hg
    simp at ha; subst ha
    have hgv:cO n all T o=some true:=by unfold cO; rw[hg]
    cases st with
    | skip hs=>rw[hgv] at hs; simp at hs
    | op _ hop =>
      have e1:ev T (.tmp t')=.ptr id i j:=ht
      simp only[cd,ho,e1,pc] at hop
      split at hop
      · split at hop
        · simp only[Option.some.injEq,Prod.mk.injEq] at hop
          obtain ⟨_,he,_⟩:=hop
          rw[← he]; exact ⟨rfl,rfl⟩
        · simp at hop
      · simp at hop
    | ir _ ho' _=>rw[ho] at ho'; simp at ho'
    | eT _ ho' _ _ _ _=>rw[ho] at ho'; simp at ho'
    | call _ ho' _ _ _ _ _=>rw[ho] at ho'; simp at ho'
  · simp at ha
theorem Lp {o:Oper} {T:Env} {h h':aG} {v:V} {rd wr:List Nat} {call:Bool} (st:dd P n all o T h v h' rd wr call) (ha:BV o=true):wr=[]∧call=false∧∀ id,id∈rd→id < h.length:=by
  unfold BV at ha
  cases st with
  | skip _=>exact ⟨rfl,rfl,fun id hid=>by simp at hid⟩
  | op _ hop =>
    split at ha
    · rename_i e a ho
      simp only[cd,ho,lh] at hop
      split at hop
      · rename_i id i j hx
        split at hop
        · rename_i z es hH
          split at hop
          · simp only[Option.map_eq_some_iff] at hop
            obtain ⟨_,_,hop⟩:=hop
            simp at hop
            obtain ⟨_,rfl,rfl⟩:=hop
            refine ⟨rfl,rfl,fun id' hid=>?_⟩
            simp at hid; subst hid
            exact je (by rw[hH]; simp)
          · simp at hop
        · simp at hop
      · simp only[Option.map_eq_some_iff] at hop
        obtain ⟨_,_,hop⟩:=hop
        simp at hop
        obtain ⟨_,rfl,rfl⟩:=hop
        exact ⟨rfl,rfl,fun id hid=>by simp at hid⟩
      · simp at hop
    · simp at ha
  | ir _ ho _=>rw[ho] at ha; simp at ha
  | eT _ ho _ _ _ _=>rw[ho] at ha; simp at ha
  | call _ ho _ _ _ _ _=>rw[ho] at ha; simp at ha
theorem vM {T T':Env} {h h':aG} {recs:List Rec} (tr:Tr P n all all T h recs T' h') {i k:Nat} {a b:Rec} (hp:yB all i k=true) (ha:recs[i]?=some a) (hb:recs[k]?=some b):mJ a b:=by
  unfold yB at hp
  split at hp
  · rename_i oa ob hoa hob
    rw[Bool.and_eq_true] at hp
    obtain ⟨hl,hp⟩:=hp
    split at hp
    · rename_i t hst
      rw[List.any_eq_true] at hp
      obtain ⟨j,hj,hp⟩:=hp
      rw[List.mem_range] at hj
      rw[Bool.and_eq_true,decide_eq_true_eq] at hp
      obtain ⟨hij,hown⟩:=hp
      unfold Pb at hown
      split at hown
      · rename_i oj hoj
        simp only[Bool.and_eq_true,beq_iff_eq,List.all_eq_true,bne_iff_ne,ne_eq,Option.isNone_iff_eq_none] at hown
        obtain ⟨⟨⟨w1,w2⟩,w3⟩,w4⟩:=hown
        obtain ⟨T1,h1,v1,h2,rd1,P3,c1,recs1,e1,e2,e3,e4,e5,_⟩:=tr.at_ i oa hoa
        obtain ⟨Tj,hj1,vj,hj2,rdj,wrj,cj,recsj,f1,f2,f3,f4,f5,_⟩:=e4.at_ (j - (i+1)) oj (by rw[List.getElem?_drop,show i+1+(j - (i+1))=j by omega]; exact hoj)
        have hdr:(all.drop (i+1)).drop (j - (i+1)+1)=all.drop (j+1):=by rw[List.drop_drop]; congr 1; omega
        rw[hdr] at f4
        obtain ⟨Tk,hk1,vk,hk2,rdk,wrk,ck,recsk,g1,g2,g3,_,_,g6⟩:=f4.at_ (k - (j+1)) ob (by rw[List.getElem?_drop,show j+1+(k - (j+1))=k by omega]; exact hob)
        rw[ha] at e1
        have hae:=(Option.some.inj e1)
        have hbe:recs[k]?=some ⟨rdk,wrk,ck,hk1.length,hk2.length⟩:=by
          rw[← g1,f5,e5]; congr 1; omega
        rw[hb] at hbe
        have hbe:=Option.some.inj hbe
        have hv:=Ix f2 w3 w2
        have hTk:Tk t=.ptr hj1.length 0 0:=by
          rw[g6 t fun o' ho'=>w4 o' ho',w1,hv]
          simp[Env.put]
        obtain ⟨s1,s2⟩:=IL g2 hst hTk
        obtain ⟨l1,l2,l3⟩:=Lp e2 hl
        rw[hae,hbe]
        have hlen:h1.length≤h2.length:=by
          cases e2 with
          | skip=>exact Nat.le_refl _
          | op _ _=>rename_i aD _ _; cases aD <;> simp[bk.apply]
          | ir _ _ _=>exact Nat.le_refl _
          | eT _ _ _ _ _ _=>exact Nat.le_refl _
          | call _ _ _ _ ha _ _=>exact ha.1
        refine ⟨fun id hid=>by simp[l1] at hid,fun id hid=>?_,fun hc=>by simp[l2] at hc,fun _=>l1,fun id hid=>?_⟩
        · simp only[s1,List.mem_singleton] at hid
          subst hid
          intro hr
          have:=l3 _ hr
          omega
        · simp only[s1,List.mem_singleton] at hid
          subst hid
          simp only
          omega
      · simp at hown
    · simp at hp
  · simp at hp
theorem MS {ls:List Nat} {recs:List Rec} {T T':Env} {hp hp':aG} (tr:Tr P n all all T hp recs T' hp') (h:D5 all ls=true) (hl:ls.length=recs.length) (hr:∀ (i x:Nat) (r:Rec),ls[i]?=some x→recs[i]?=some r→jE x r.rd r.wr r.call r.lo r.hi):sS all recs:=by
  intro i k a b hik ha hb ho
  have hi:i < recs.length:=(List.getElem?_eq_some_iff.1 ha).1
  have hk:k < recs.length:=(List.getElem?_eq_some_iff.1 hb).1
  unfold D5 at h
  simp only[List.all_eq_true] at h
  have h1:=h (ls[i]'(by omega),i) (by rw[List.mem_zipIdx_iff_getElem?]; simp[List.getElem?_eq_getElem (show i < ls.length by omega)])
    (ls[k]'(by omega),k) (by rw[List.mem_zipIdx_iff_getElem?]; simp[List.getElem?_eq_getElem (show k < ls.length by omega)])
  have la:=hr i _ a (List.getElem?_eq_getElem (by omega)) ha
  have lb:=hr k _ b (List.getElem?_eq_getElem (by omega)) hb
  simp only[hik,decide_true,Bool.not_true,ho,Bool.false_or,Bool.or_eq_true,beq_iff_eq,Bool.and_eq_true,decide_eq_true_eq] at h1
  rcases h1 with ((h1 | h1) | h1) | h1
  · obtain ⟨e1,e2,e3,e4⟩:=la.1 h1
    exact ⟨fun id hid=>by simp[e2] at hid,fun id _=>by simp[e1],fun hc=>by simp[e3] at hc,fun _=>e2,fun id _ hx=>by omega⟩
  · obtain ⟨e1,e2,e3,e4⟩:=lb.1 h1
    exact ⟨fun id _=>by simp[e1],fun id hid=>by simp[e2] at hid,fun _=>e2,fun hc=>by simp[e3] at hc,fun id hid=>by simp[e2] at hid⟩
  · have e1:=la.2 h1.1
    have e2:=lb.2 h1.2
    exact ⟨fun id hid=>by simp[e1] at hid,fun id hid=>by simp[e2] at hid,fun _=>e2,fun _=>e1,fun id hid=>by simp[e2] at hid⟩
  · exact vM tr h1 ha hb
theorem Tr.keep {os:List Oper} {T T':Env} {h h':aG} {recs:List Rec} (tr:Tr P n all os T h recs T' h') {t:Nat} (ht:∀ o∈os,o.dst≠some t):T' t=T t:=by
  induction tr with
  | nil=>rfl
  | @cons o0 rest T T' h h1 h' v rd wr call recs st hd tr ih =>
    rw[ih fun o ho=>ht o (by simp[ho])]
    have:=ht o0 (by simp)
    cases hdst:o0.dst with
    | none=>rfl
    | some d=>simp only[Env.put]; rw[if_neg]; rintro rfl; exact this hdst
theorem vp {o:Oper} {T:Env} {h h':aG} {v:V} {rd wr:List Nat} {call:Bool} {t:Nat} (st:dd P n all o T h v h' rd wr call) (ha:qQ o=some t):wr=[]∧call=false∧h'.length=h.length∧∀ id,id∈rd→∃ i j,T t=.ptr id i j:=by
  unfold qQ at ha
  split at ha
  · rename_i e t' ho
    simp at ha; subst ha
    cases st with
    | skip _=>exact ⟨rfl,rfl,rfl,fun id hid=>by simp at hid⟩
    | op _ hop =>
      simp only[cd,ho,lh] at hop
      split at hop
      · rename_i id i j hx
        split at hop
        · split at hop
          · simp only[Option.map_eq_some_iff] at hop
            obtain ⟨_,_,hop⟩:=hop
            simp at hop
            obtain ⟨_,rfl,rfl⟩:=hop
            refine ⟨rfl,rfl,rfl,fun id' hid=>?_⟩
            simp at hid; subst hid
            exact ⟨i,j,hx⟩
          · simp at hop
        · simp at hop
      · simp only[Option.map_eq_some_iff] at hop
        obtain ⟨_,_,hop⟩:=hop
        simp at hop
        obtain ⟨_,rfl,rfl⟩:=hop
        exact ⟨rfl,rfl,rfl,fun id hid=>by simp at hid⟩
      · simp at hop
    | ir _ ho' _=>rw[ho] at ho'; simp at ho'
    | eT _ ho' _ _ _ _=>rw[ho] at ho'; simp at ho'
    | call _ ho' _ _ _ _ _=>rw[ho] at ho'; simp at ho'
  · simp at ha
theorem vQ {i t:Nat} (h:stays all i t=true):∀ o∈all.drop i,o.dst≠some t:=by
  intro o ho
  have:=List.all_eq_true.1 h o ho
  simpa using this
theorem zk {aps:List (Nat × Nat)} {T:Env} {K:Prop} (hA:xX aps T K):∀ p∈aps,gz (T p.1) (T p.2):=by
  induction aps with
  | nil=>intro p hp; simp at hp
  | cons q l ih =>
    intro p hp
    rcases List.mem_cons.1 hp with rfl | hp
    · exact hA.1
    · exact ih hA.2 p hp
theorem xX.rest {aps:List (Nat × Nat)} {T:Env} {K:Prop} (hA:xX aps T K):K:=by
  induction aps with
  | nil=>exact hA
  | cons q l ih=>exact ih hA.2
theorem pN {T T':Env} {h h':aG} {recs:List Rec} (tr:Tr P n all all T h recs T' h') {i t:Nat} {o:Oper} (ho:all[i]?=some o) (hs:stays all i t=true) {r:Rec} (hr:recs[i]?=some r) :
    ∃ T1 h1 v h2,dd P n all o T1 h1 v h2 r.rd r.wr r.call∧r.lo=h1.length∧r.hi=h2.length∧T1 t=T' t:=by
  obtain ⟨T1,h1,v,h2,rd,wr,call,recs2,e1,e2,e3,e4,e5,e6⟩:=tr.at_ i o ho
  rw[hr] at e1
  have e1:=Option.some.inj e1
  subst e1
  refine ⟨T1,h1,v,h2,e2,rfl,rfl,?_⟩
  have hk:=vQ hs
  have hi:i < all.length:=(List.getElem?_eq_some_iff.1 ho).1
  have ho':all[i]=o:=(List.getElem?_eq_some_iff.1 ho).2
  rw[List.drop_eq_getElem_cons hi,ho'] at hk
  rw[e4.keep fun o' ho'=>hk o' (by simp[ho'])]
  have:=hk o (by simp)
  cases hdst:o.dst with
  | none=>rfl
  | some d=>simp only[Env.put]; rw[if_neg]; rintro rfl; exact this hdst
theorem yN {i a b j c d:Nat} (h:gz (.ptr i a b) (.ptr j c d)):i≠j:=h
theorem Ao {i a b j c d e:Nat} (h:gz (.ptr i a b) (.sl j c d e)):i≠j:=h
theorem qE {o:Oper} {T:Env} {h h':aG} {v:V} {rd wr:List Nat} {call:Bool} {t:Nat} (st:dd P n all o T h v h' rd wr call) (ha:oA o=some t) :
    call=false∧∀ id,id∈wr→(∃ i j,T t=.ptr id i j)∨∃ a b c,T t=.sl id a b c:=by
  unfold oA at ha
  split at ha
  · rename_i t' hs
    simp at ha; subst ha
    unfold jV at hs
    split at hs
    · rename_i ty t2 x ho hg
      simp at hs; subst hs
      cases st with
      | skip _=>exact ⟨rfl,fun id hid=>by simp at hid⟩
      | op _ hop =>
        simp only[cd,ho,pc] at hop
        split at hop
        · rename_i id i j hx
          split at hop
          · split at hop
            · simp only[Option.some.injEq,Prod.mk.injEq] at hop
              obtain ⟨_,he,_⟩:=hop
              rw[← he]
              refine ⟨rfl,fun id' hid=>?_⟩
              simp[bk.wr] at hid; subst hid
              exact .inl ⟨i,j,hx⟩
            · simp at hop
          · simp at hop
        · simp at hop
      | ir _ ho' _=>rw[ho] at ho'; simp at ho'
      | eT _ ho' _ _ _ _=>rw[ho] at ho'; simp at ho'
      | call _ ho' _ _ _ _ _=>rw[ho] at ho'; simp at ho'
    · simp at hs
  · unfold Lc at ha
    split at ha
    · rename_i args ats ho hg
      split at ha
      · rename_i t2 y hl
        simp at ha; subst ha
        cases st with
        | skip _=>exact ⟨rfl,fun id hid=>by simp at hid⟩
        | op _ hop =>
          simp only[cd,ho,hl] at hop
          split at hop
          · unfold lU at hop
            split at hop
            · split at hop
              · simp at hop
              · split at hop
                · split at hop <;> first | (simp only[Option.some.injEq,Prod.mk.injEq] at hop; obtain ⟨_,he,_⟩:=hop; rw[← he]; exact ⟨rfl,fun id' hid=>by simp[bk.wr] at hid⟩) | simp at hop
                · split at hop
                  · simp at hop
                  · split at hop
                    · split at hop
                      · simp only[Option.some.injEq,Prod.mk.injEq] at hop
                        obtain ⟨_,he,_⟩:=hop
                        rw[← he]; exact ⟨rfl,fun id' hid=>by simp[bk.wr] at hid⟩
                      · simp at hop
                    · rename_i id off len esz hx
                      split at hop
                      · split at hop
                        · simp only[Option.some.injEq,Prod.mk.injEq] at hop
                          obtain ⟨_,he,_⟩:=hop
                          rw[← he]
                          refine ⟨rfl,fun id' hid=>?_⟩
                          simp[bk.wr] at hid; subst hid
                          exact .inr ⟨off,len,esz,hx⟩
                        · simp at hop
                      · simp at hop
                    · simp at hop
            · simp at hop
          · split at hop
            · unfold qC at hop
              repeat' (split at hop)
              all_goals first | (simp only[Option.some.injEq,Prod.mk.injEq] at hop; obtain ⟨_,he,_⟩:=hop; rw[← he]; exact ⟨rfl,fun id' hid=>by simp[bk.wr] at hid⟩) | simp at hop
            · simp at hop
        | ir _ ho' _=>rw[ho] at ho'; simp at ho'
        | eT _ ho' _ _ _ _=>rw[ho] at ho'; simp at ho'
        | call _ ho' _ _ _ _ _=>rw[ho] at ho'; simp at ho'
      · simp at ha
    · simp at ha
theorem Mm {o:Oper} {T:Env} {h h':aG} {v:V} {rd wr:List Nat} {call:Bool} (st:dd P n all o T h v h' rd wr call) (ha:Fy o=true):rd=[]∧wr=[]∧call=false:=by
  unfold Fy at ha
  cases st with
  | skip _=>exact ⟨rfl,rfl,rfl⟩
  | op _ hop =>
    split at ha
    · rename_i ty len parts ho
      simp only[cd,ho,fV] at hop
      have key:∀ {x:Option (V × bk × List Nat)} {e:bk},x=some (v,e,rd)→(∀ y,x=some y→y.2.1.wr=[]∧y.2.2=[])→rd=[]∧e.wr=[]:=fun hx hy=>⟨(hy _ hx).2,(hy _ hx).1⟩
      obtain ⟨k1,k2⟩:=key hop (by
        intro y hy
        repeat' (first | (split at hy) | (simp only[Option.some.injEq] at hy; subst hy; exact ⟨rfl,rfl⟩) | (simp at hy; done)))
      exact ⟨k1,k2,rfl⟩
    · rename_i e ho
      simp only[cd,ho] at hop
      split at hop
      · unfold kN at hop
        split at hop
        · simp only[Option.some.injEq,Prod.mk.injEq] at hop
          obtain ⟨_,he,hr⟩:=hop
          rw[← he,← hr]; exact ⟨rfl,rfl,rfl⟩
        · simp at hop
      · simp at hop
    · simp at ha
  | ir _ ho _=>rw[ho] at ha; simp at ha
  | eT _ ho _ _ _ _=>rw[ho] at ha; simp at ha
  | call _ ho _ _ _ _ _=>rw[ho] at ha; simp at ha
theorem uj {o:Oper} {t:Nat} (h:jV o=some t):oA o=some t:=by unfold oA; rw[h]
theorem Kq {T T':Env} {h h':aG} {recs:List Rec} (tr:Tr P n all all T h recs T' h') {i k:Nat} {a b:Rec} {p:Nat × Nat} (hp:Ah all i k=some p) (hA:gz (T' p.1) (T' p.2)) (ha:recs[i]?=some a) (hb:recs[k]?=some b):mJ a b:=by
  unfold Ah at hp
  split at hp
  · rename_i oa ob hoa hob
    split at hp
    · rename_i s t hl hs
      split at hp
      · rename_i hst
        simp only[Bool.and_eq_true] at hst
        simp at hp; subst hp
        obtain ⟨Ta,ha1,va,ha2,sa,la1,la2,ea⟩:=pN tr hoa hst.1 ha
        obtain ⟨Tb,hb1,vb,hb2,sb,_,_,eb⟩:=pN tr hob hst.2 hb
        obtain ⟨l1,l2,l3,l4⟩:=vp sa hl
        have hA:gz (Ta s) (Tb t):=by rw[ea,eb]; exact hA
        refine ⟨fun id hid=>by simp[l1] at hid,fun id hid hr=>?_,fun hc=>by simp[l2] at hc,fun _=>l1,fun id _ hx=>by omega⟩
        obtain ⟨i',j',e1⟩:=l4 id hr
        rw[e1] at hA
        rcases (qE sb (uj hs)).2 id hid with ⟨c,d,hy⟩ | ⟨c,d,e,hy⟩
        · rw[hy] at hA; exact yN hA rfl
        · rw[hy] at hA; exact Ao hA rfl
      · simp at hp
    · split at hp
      · rename_i t s hs hl
        split at hp
        · rename_i hst
          simp only[Bool.and_eq_true] at hst
          simp at hp; subst hp
          obtain ⟨Ta,ha1,va,ha2,sa,la1,la2,ea⟩:=pN tr hoa hst.1 ha
          obtain ⟨Tb,hb1,vb,hb2,sb,lb1,lb2,eb⟩:=pN tr hob hst.2 hb
          obtain ⟨l1,l2,l3,l4⟩:=vp sb hl
          have hA:gz (Tb s) (Ta t):=by rw[ea,eb]; exact hA
          refine ⟨fun id hid hr=>?_,fun id hid=>by simp[l1] at hid,fun hc=>l1,fun hc=>by simp[l2] at hc,fun id hid=>by simp[l1] at hid⟩
          obtain ⟨i',j',e1⟩:=l4 id hr
          rw[e1] at hA
          rcases (qE sa (uj hs)).2 id hid with ⟨c,d,hy⟩ | ⟨c,d,e,hy⟩
          · rw[hy] at hA; exact yN hA rfl
          · rw[hy] at hA; exact Ao hA rfl
        · simp at hp
      · simp at hp
  · simp at hp
theorem Jb {T T':Env} {h h':aG} {recs:List Rec} (tr:Tr P n all all T h recs T' h') {i k:Nat} {a b:Rec} {p:Nat × Nat} (hp:BR all i k=some p) (hA:gz (T' p.1) (T' p.2)) (ha:recs[i]?=some a) (hb:recs[k]?=some b):mJ a b:=by
  unfold BR at hp
  split at hp
  · rename_i oa ob hoa hob
    split at hp
    · rename_i s t hl hs
      split at hp
      · rename_i hst
        simp only[Bool.and_eq_true] at hst
        simp at hp; subst hp
        obtain ⟨Ta,ha1,va,ha2,sa,la1,la2,ea⟩:=pN tr hoa hst.1 ha
        obtain ⟨Tb,hb1,vb,hb2,sb,_,_,eb⟩:=pN tr hob hst.2 hb
        obtain ⟨l1,l2,l3,l4⟩:=vp sa hl
        have hA:gz (Ta s) (Tb t):=by rw[ea,eb]; exact hA
        refine ⟨fun id hid=>by simp[l1] at hid,fun id hid hr=>?_,fun hc=>by simp[l2] at hc,fun _=>l1,fun id _ hx=>by omega⟩
        obtain ⟨i',j',e1⟩:=l4 id hr
        rw[e1] at hA
        rcases (qE sb hs).2 id hid with ⟨c,d,hy⟩ | ⟨c,d,e,hy⟩
        · rw[hy] at hA; exact yN hA rfl
        · rw[hy] at hA; exact Ao hA rfl
      · simp at hp
    · split at hp
      · rename_i t s hs hl
        split at hp
        · rename_i hst
          simp only[Bool.and_eq_true] at hst
          simp at hp; subst hp
          obtain ⟨Ta,ha1,va,ha2,sa,la1,la2,ea⟩:=pN tr hoa hst.1 ha
          obtain ⟨Tb,hb1,vb,hb2,sb,lb1,lb2,eb⟩:=pN tr hob hst.2 hb
          obtain ⟨l1,l2,l3,l4⟩:=vp sb hl
          have hA:gz (Tb s) (Ta t):=by rw[ea,eb]; exact hA
          refine ⟨fun id hid hr=>?_,fun id hid=>by simp[l1] at hid,fun hc=>l1,fun hc=>by simp[l2] at hc,fun id hid=>by simp[l1] at hid⟩
          obtain ⟨i',j',e1⟩:=l4 id hr
          rw[e1] at hA
          rcases (qE sa hs).2 id hid with ⟨c,d,hy⟩ | ⟨c,d,e,hy⟩
          · rw[hy] at hA; exact yN hA rfl
          · rw[hy] at hA; exact Ao hA rfl
        · simp at hp
      · simp at hp
  · simp at hp
theorem K4 {l:List (Nat × Nat)} {aps:List (Nat × Nat)} (h:Bp all l=some aps):∀ q∈l,∃ p∈aps,Ah all q.1 q.2=some p:=by
  induction l generalizing aps with
  | nil=>intro q hq; simp at hq
  | cons x r ih =>
    obtain ⟨i,k⟩:=x
    simp only[Bp] at h
    split at h
    · rename_i p l' h1 h2
      simp at h; subst h
      intro q hq
      rcases List.mem_cons.1 hq with rfl | hq
      · exact ⟨p,by simp,h1⟩
      · obtain ⟨p',hp',e⟩:=ih h2 q hq
        exact ⟨p',by simp[hp'],e⟩
    · simp at h
theorem Jj {l:List (Nat × Nat)} {aps:List (Nat × Nat)} (h:tF all l=some aps):∀ q∈l,∃ ps,(∀ p∈ps,p∈aps)∧yC all q.1 q.2=some ps:=by
  induction l generalizing aps with
  | nil=>intro q hq; simp at hq
  | cons x r ih =>
    obtain ⟨i,k⟩:=x
    simp only[tF] at h
    split at h
    · rename_i p l' h1 h2
      simp at h; subst h
      intro q hq
      rcases List.mem_cons.1 hq with rfl | hq
      · exact ⟨p,fun x hx=>by simp[hx],h1⟩
      · obtain ⟨p',hp',e⟩:=ih h2 q hq
        exact ⟨p',fun x hx=>by simp[hp' x hx],e⟩
    · simp at h
theorem KA {H:View} {x:V} {xs:List (List V)} {rd:List Nat} (h:cb H x=some (xs,rd)):∀ id,id∈rd→∃ a b c,x=.sl id a b c:=by
  unfold cb at h
  split at h
  · simp at h; obtain ⟨_,rfl⟩:=h; intro id hid; simp at hid
  · simp at h; obtain ⟨_,rfl⟩:=h; intro id hid; simp at hid
  · simp at h; obtain ⟨_,rfl⟩:=h; intro id hid; simp at hid
  · simp at h; obtain ⟨_,rfl⟩:=h; intro id hid; simp at hid
  · split at h
    · split at h
      · simp at h
        obtain ⟨_,rfl⟩:=h
        intro id hid
        simp at hid; subst hid
        exact ⟨_,_,_,rfl⟩
      · simp at h
    · simp at h
  · simp at h; obtain ⟨_,rfl⟩:=h; intro id hid; simp at hid
  · simp at h
theorem FP {o:Oper} {T:Env} {h h':aG} {v:V} {rd wr:List Nat} {call:Bool} {t y d:Nat} (st:dd P n all o T h v h' rd wr call) (ha:yJ o=some (t,y,d)) :
    call=false∧(∀ id,id∈wr→∃ a b c,T t=.sl id a b c)∧(∀ id,id∈rd→(∃ a b c,T t=.sl id a b c)∨∃ a b c,T y=.sl id a b c)∧(h.length < h'.length→∃ a b c,v=.sl h.length a b c)∧h'.length≤h.length+1∧o.dst=some d:=by
  unfold yJ at ha
  split at ha
  · rename_i args ats d' ho hg hd
    split at ha
    · rename_i t2 y2 hl
      simp at ha
      obtain ⟨rfl,rfl,rfl⟩:=ha
      cases st with
      | skip _=>exact ⟨rfl,fun id hid=>by simp at hid,fun id hid=>by simp at hid,fun h=>by omega,by omega,hd⟩
      | op _ hop =>
        simp only[cd,ho,hl] at hop
        have nn:∀ {v':V} {eff':bk} {rd':List Nat},some (v',bk.none,([]:List Nat))=some (v,eff',rd')→false=false∧(∀ id,id∈eff'.wr→∃ a b c,T t2=.sl id a b c)∧(∀ id,id∈rd'→(∃ a b c,T t2=.sl id a b c)∨∃ a b c,T y2=.sl id a b c)∧(h.length < (eff'.apply h).length→∃ a b c,v=.sl h.length a b c)∧(eff'.apply h).length≤h.length+1∧o.dst=some d':=by
          intro v' eff' rd' e
          simp only[Option.some.injEq,Prod.mk.injEq] at e
          obtain ⟨_,rfl,rfl⟩:=e
          exact ⟨rfl,fun id hid=>by simp[bk.wr] at hid,fun id hid=>by simp at hid,fun h=>by simp[bk.apply] at h,by simp[bk.apply],hd⟩
        split at hop
        · unfold lU at hop
          split at hop
          · rename_i e xs rd' _ hel
            have hrd:=KA hel
            split at hop
            · simp at hop
            · split at hop
              · split at hop <;> first | exact nn hop | simp at hop
              · split at hop
                · simp at hop
                · split at hop
                  · split at hop
                    · simp only[Option.some.injEq,Prod.mk.injEq] at hop
                      obtain ⟨rfl,rfl,rfl⟩:=hop
                      exact ⟨rfl,fun id hid=>by simp[bk.wr] at hid,fun id hid=>.inr (hrd id hid),fun _=>⟨_,_,_,rfl⟩,by simp[bk.apply],hd⟩
                    · simp at hop
                  · rename_i id off len esz hx
                    split at hop
                    · split at hop
                      · simp only[Option.some.injEq,Prod.mk.injEq] at hop
                        obtain ⟨rfl,rfl,rfl⟩:=hop
                        refine ⟨rfl,fun id' hid=>?_,fun id' hid=>?_,fun _=>⟨_,_,_,rfl⟩,by simp[bk.apply],hd⟩
                        · simp[bk.wr] at hid; subst hid
                          exact ⟨off,len,esz,hx⟩
                        · rcases List.mem_cons.1 hid with rfl | hid
                          · exact .inl ⟨off,len,esz,hx⟩
                          · exact .inr (hrd id' hid)
                      · simp at hop
                    · simp at hop
                  · simp at hop
          · simp at hop
        · split at hop
          · unfold qC at hop
            split at hop
            · split at hop
              · split at hop
                · exact nn hop
                · split at hop
                  · simp only[Option.some.injEq,Prod.mk.injEq] at hop
                    obtain ⟨rfl,rfl,rfl⟩:=hop
                    exact ⟨rfl,fun id hid=>by simp[bk.wr] at hid,fun id hid=>by simp at hid,fun _=>⟨_,_,_,rfl⟩,by simp[bk.apply],hd⟩
                  · simp at hop
              · simp at hop
            · simp at hop
          · simp at hop
      | ir _ ho' _=>rw[ho] at ho'; simp at ho'
      | eT _ ho' _ _ _ _=>rw[ho] at ho'; simp at ho'
      | call _ ho' _ _ _ _ _=>rw[ho] at ho'; simp at ho'
    · simp at ha
  · simp at ha
theorem Lj {T T':Env} {h h':aG} {recs:List Rec} (tr:Tr P n all all T h recs T' h') {i:Nat} {o:Oper} (ho:all[i]?=some o) {r:Rec} (hr:recs[i]?=some r) :
    ∃ T1 h1 v h2,dd P n all o T1 h1 v h2 r.rd r.wr r.call∧r.lo=h1.length∧r.hi=h2.length∧(∀ t,stays all i t=true→T1 t=T' t)∧∀ d,o.dst=some d→stays all (i+1) d=true→T' d=v:=by
  obtain ⟨T1,h1,v,h2,rd,wr,call,recs2,e1,e2,e3,e4,e5,e6⟩:=tr.at_ i o ho
  rw[hr] at e1
  have e1:=Option.some.inj e1
  subst e1
  refine ⟨T1,h1,v,h2,e2,rfl,rfl,fun t hs=>?_,fun d hd hs=>?_⟩
  · have hk:=vQ hs
    have hi:i < all.length:=(List.getElem?_eq_some_iff.1 ho).1
    have ho':all[i]=o:=(List.getElem?_eq_some_iff.1 ho).2
    rw[List.drop_eq_getElem_cons hi,ho'] at hk
    rw[e4.keep fun o' ho'=>hk o' (by simp[ho'])]
    have:=hk o (by simp)
    cases hdst:o.dst with
    | none=>rfl
    | some d=>simp only[Env.put]; rw[if_neg]; rintro rfl; exact this hdst
  · rw[e4.keep (vQ hs),hd]
    simp[Env.put]
theorem x6 {i a b c j d e f:Nat} (h:gz (.sl i a b c) (.sl j d e f)):i≠j:=h
theorem Jo {T T':Env} {h h':aG} {recs:List Rec} (tr:Tr P n all all T h recs T' h') {i k:Nat} {a b:Rec} {ps:List (Nat × Nat)} (hp:Cf all i k=some ps) (hA:∀ p∈ps,gz (T' p.1) (T' p.2)) (ha:recs[i]?=some a) (hb:recs[k]?=some b):mJ a b:=by
  unfold Cf at hp
  split at hp
  · rename_i oa ob hoa hob
    split at hp
    · rename_i t y d t' y' d' h1 h2
      split at hp
      · rename_i hst
        simp only[Bool.and_eq_true] at hst
        obtain ⟨⟨⟨⟨s1,s2⟩,s3⟩,s4⟩,s5⟩:=hst
        simp at hp; subst hp
        have a1:=hA (t,t') (by simp)
        have a2:=hA (t,y') (by simp)
        have a3:=hA (t',y) (by simp)
        have a4:=hA (d,t') (by simp)
        simp only at a1 a2 a3 a4
        obtain ⟨Ta,ha1,va,ha2,sa,la1,la2,ea,da⟩:=Lj tr hoa ha
        obtain ⟨Tb,hb1,vb,hb2,sb,_,_,eb,_⟩:=Lj tr hob hb
        obtain ⟨p1,p2,p3,p4,p5,p6⟩:=FP sa h1
        obtain ⟨q1,q2,q3,_⟩:=FP sb h2
        have da:=da d p6 s3
        rw[← ea t s1,← eb t' s4] at a1
        rw[← ea t s1,← eb y' s5] at a2
        rw[← eb t' s4,← ea y s2] at a3
        rw[da,← eb t' s4] at a4
        refine ⟨fun id hid hr=>?_,fun id hid hr=>?_,fun hc=>by rw[p1] at hc; simp at hc,fun hc=>by rw[q1] at hc; simp at hc,fun id hid hx=>?_⟩
        · obtain ⟨_,_,_,e⟩:=p2 id hid
          rcases q3 id hr with ⟨_,_,_,e'⟩ | ⟨_,_,_,e'⟩
          · rw[e,e'] at a1; exact x6 a1 rfl
          · rw[e,e'] at a2; exact x6 a2 rfl
        · obtain ⟨_,_,_,e⟩:=q2 id hid
          rcases p3 id hr with ⟨_,_,_,e'⟩ | ⟨_,_,_,e'⟩
          · rw[e',e] at a1; exact x6 a1 rfl
          · rw[e,e'] at a3; exact x6 a3 rfl
        · obtain ⟨_,_,_,e⟩:=q2 id hid
          obtain ⟨_,_,_,e'⟩:=p4 (by omega)
          have:id=ha1.length:=by omega
          subst this
          rw[e,e'] at a4; exact x6 a4 rfl
      · simp at hp
    · simp at hp
  · simp at hp
theorem Jc {T T':Env} {h h':aG} {recs:List Rec} (tr:Tr P n all all T h recs T' h') {i k:Nat} {a b:Rec} {ps:List (Nat × Nat)} (hp:yC all i k=some ps) (hA:∀ p∈ps,gz (T' p.1) (T' p.2)) (ha:recs[i]?=some a) (hb:recs[k]?=some b):mJ a b:=by
  unfold yC at hp
  split at hp
  · rename_i p h1
    simp at hp; subst hp
    exact Jb tr h1 (hA p (by simp)) ha hb
  · exact Jo tr hp hA ha hb
theorem M0 {ls:List Nat} {recs:List Rec} {T T':Env} {hp hp':aG} {aps:List (Nat × Nat)} (tr:Tr P n all all T hp recs T' hp') (h:Bp all (jW all ls)=some aps) (hA:∀ p∈aps,gz (T' p.1) (T' p.2)) (hl:ls.length=recs.length)
    (hr:∀ (i x:Nat) (r:Rec),ls[i]?=some x→recs[i]?=some r→jE x r.rd r.wr r.call r.lo r.hi):sS all recs:=by
  intro i k a b hik ha hb ho
  have hi:i < recs.length:=(List.getElem?_eq_some_iff.1 ha).1
  have hk:k < recs.length:=(List.getElem?_eq_some_iff.1 hb).1
  have la:=hr i _ a (List.getElem?_eq_getElem (by omega)) ha
  have lb:=hr k _ b (List.getElem?_eq_getElem (by omega)) hb
  have mi:(ls[i]'(by omega),i)∈ls.zipIdx:=by rw[List.mem_zipIdx_iff_getElem?]; simp[List.getElem?_eq_getElem (show i < ls.length by omega)]
  have mk:(ls[k]'(by omega),k)∈ls.zipIdx:=by rw[List.mem_zipIdx_iff_getElem?]; simp[List.getElem?_eq_getElem (show k < ls.length by omega)]
  by_cases h1:xC all (ls[i]'(by omega)) i (ls[k]'(by omega)) k=true
  · unfold xC at h1
    simp only[hik,decide_true,Bool.not_true,ho,Bool.false_or,Bool.or_eq_true,beq_iff_eq,Bool.and_eq_true,decide_eq_true_eq] at h1
    rcases h1 with ((h1 | h1) | h1) | h1
    · obtain ⟨e1,e2,e3,e4⟩:=la.1 h1
      exact ⟨fun id hid=>by simp[e2] at hid,fun id _=>by simp[e1],fun hc=>by simp[e3] at hc,fun _=>e2,fun id _ hx=>by omega⟩
    · obtain ⟨e1,e2,e3,e4⟩:=lb.1 h1
      exact ⟨fun id _=>by simp[e1],fun id hid=>by simp[e2] at hid,fun _=>e2,fun hc=>by simp[e3] at hc,fun id hid=>by simp[e2] at hid⟩
    · have e1:=la.2 h1.1
      have e2:=lb.2 h1.2
      exact ⟨fun id hid=>by simp[e1] at hid,fun id hid=>by simp[e2] at hid,fun _=>e2,fun _=>e1,fun id hid=>by simp[e2] at hid⟩
    · exact vM tr h1 ha hb
  · have hm:(i,k)∈jW all ls:=by
      unfold jW
      rw[List.mem_flatMap]
      refine ⟨_,mi,?_⟩
      rw[List.mem_filterMap]
      exact ⟨_,mk,by simp only; rw[if_neg h1]⟩
    obtain ⟨p,hp,e⟩:=K4 h (i,k) hm
    exact Kq tr e (hA p hp) ha hb
theorem CF {P:Program} {t:TypeId} {id:Nat} {q:V} {ok:Bool} {H1 H2:View} (h:H1 id=H2 id):eV P t (.mp id) q ok H1=eV P t (.mp id) q ok H2:=by
  unfold eV
  simp only[h]
theorem IA {P:Program} {t:TypeId} {id:Nat} {q:V} {H1 H2:View} (h:H1 id=H2 id):dZ P t (.mp id) q H1=dZ P t (.mp id) q H2:=by
  cases hm:eS P t with
  | none=>simp only[dZ,hm]
  | some x=>simp only[dZ,hm,h]
theorem Me {P:Program} {t:TypeId} {id:Nat} {q:V} {H:View} {v:V} {aD:bk} {rd:List Nat} (h:eV P t (.mp id) q false H=some (v,aD,rd)):aD=.none∧rd=[id]:=by
  simp only[eV,Bool.false_eq_true,if_false] at h
  repeat' (first | (simp only[Option.some.injEq,Prod.mk.injEq] at h; exact ⟨h.2.1.symm,h.2.2.symm⟩) | (split at h) | (simp at h; done))
theorem JH {P:Program} {t:TypeId} {id:Nat} {q:V} {H:View} {v:V} {aD:bk} {rd:List Nat} (h:dZ P t (.mp id) q H=some (v,aD,rd)):∃ obj,aD=.fK id obj:=by
  cases hm:eS P t with
  | none=>simp[dZ,hm] at h
  | some x =>
    simp only[dZ,hm] at h
    repeat' (first | (simp only[Option.some.injEq,Prod.mk.injEq] at h; exact ⟨_,h.2.1.symm⟩) | (split at h) | (simp at h; done))
theorem EL {o:Oper} {T:Env} {h h':aG} {v:V} {rd wr:List Nat} {call:Bool} (st:dd P n all o T h v h' rd wr call) (hg:cO n all T o=some true) (hb:∀ e x,o.op≠.box e x) (hc:∀ s d x,o.op≠.convert s d x) (hl:∀ c,o.op≠.call c) :
    ∃ aD,cd P o T h.view h.length=some (v,aD,rd)∧h'=aD.apply h∧wr=aD.wr∧call=false:=by
  cases st with
  | skip hs=>rw[hg] at hs; simp at hs
  | op _ hop=>exact ⟨_,hop,rfl,rfl,rfl⟩
  | ir _ ho _=>exact absurd ho (hb _ _)
  | eT _ ho _ _ _ _=>exact absurd ho (hc _ _ _)
  | call _ ho _ _ _ _ _=>exact absurd ho (hl _)
theorem NY {recs:List Rec} {Ts:Nat→Env} {hs:Nat→aG} {vs:Nat→V} (hst:zl P n all recs Ts hs vs) (hl:recs.length=all.length) {k:Nat} (hk:k≤all.length) (hw:∀ j r,j < k→recs[j]?=some r→r.wr=[]) :
    ∀ j,j≤k→(hs 0).length≤(hs j).length∧∀ id,id < (hs 0).length→(hs j).view id=(hs 0).view id:=by
  intro j
  induction j with
  | zero=>intro _; exact ⟨Nat.le_refl _,fun _ _=>rfl⟩
  | succ j ih =>
    intro hj
    obtain ⟨l1,l2⟩:=ih (by omega)
    obtain ⟨st,_,_,_,_⟩:=hst j all[j] (recs[j]'(by omega)) (List.getElem?_eq_getElem (by omega)) (List.getElem?_eq_getElem (by omega))
    refine ⟨Nat.le_trans l1 (sn st),fun id hid=>?_⟩
    rw[qv st (Nat.lt_of_lt_of_le hid l1) (by rw[hw j _ (by omega) (List.getElem?_eq_getElem (by omega))]; simp)]
    exact l2 id hid
theorem oQ {recs:List Rec} {Ts:Nat→Env} {hs:Nat→aG} {vs:Nat→V} (hst:zl P n all recs Ts hs vs) (hl:recs.length=all.length) {i t:Nat} (h:stays all i t=true):∀ j,i≤j→j≤all.length→Ts j t=Ts i t:=by
  intro j hij hj
  refine yD (vs:=vs) (N:=all.length) (fun k o hk=>?_) rfl i j hij hj fun k o h1 h2 h3=>vQ h o (by
    rw[List.mem_iff_getElem?]
    exact ⟨k - i,by rw[List.getElem?_drop,show i+(k - i)=k by omega]; exact h3⟩)
  have hk':k < all.length:=(List.getElem?_eq_some_iff.1 hk).1
  exact (hst k o (recs[k]'(by omega)) hk (List.getElem?_eq_getElem (by omega))).2.2.1
theorem Fg {ls:List Nat} {recs:List Rec} {T T':Env} {hp hp':aG} {aps:List (Nat × Nat)} {tp:Option (Nat × Nat)} (tr:Tr P n all all T hp recs T' hp') (h:tF all (D3 all ls tp)=some aps) (hA:∀ p∈aps,gz (T' p.1) (T' p.2)) (hl:ls.length=recs.length)
    (hr:∀ (i x:Nat) (r:Rec),ls[i]?=some x→recs[i]?=some r→jE x r.rd r.wr r.call r.lo r.hi) (htol:∀ p,tp=some p→∃ tol,D7 all ls p.1 p.2=some tol∧I7 P tol.1 (T' tol.2.1) (T' tol.2.2) hp.view):Ij P n all recs T T' hp:=by
  have main:∀ i k a b,i < k→recs[i]?=some a→recs[k]?=some b→ordered (ez all []) i k=false→tp≠some (i,k)→mJ a b:=by
    intro i k a b hik ha hb ho hne
    have hi:i < recs.length:=(List.getElem?_eq_some_iff.1 ha).1
    have hk:k < recs.length:=(List.getElem?_eq_some_iff.1 hb).1
    have la:=hr i _ a (List.getElem?_eq_getElem (by omega)) ha
    have lb:=hr k _ b (List.getElem?_eq_getElem (by omega)) hb
    have mi:(ls[i]'(by omega),i)∈ls.zipIdx:=by rw[List.mem_zipIdx_iff_getElem?]; simp[List.getElem?_eq_getElem (show i < ls.length by omega)]
    have mk:(ls[k]'(by omega),k)∈ls.zipIdx:=by rw[List.mem_zipIdx_iff_getElem?]; simp[List.getElem?_eq_getElem (show k < ls.length by omega)]
    by_cases h1:xC all (ls[i]'(by omega)) i (ls[k]'(by omega)) k=true
    · unfold xC at h1
      simp only[hik,decide_true,Bool.not_true,ho,Bool.false_or,Bool.or_eq_true,beq_iff_eq,Bool.and_eq_true,decide_eq_true_eq] at h1
      rcases h1 with ((h1 | h1) | h1) | h1
      · obtain ⟨e1,e2,e3,e4⟩:=la.1 h1
        exact ⟨fun id hid=>by simp[e2] at hid,fun id _=>by simp[e1],fun hc=>by simp[e3] at hc,fun _=>e2,fun id _ hx=>by omega⟩
      · obtain ⟨e1,e2,e3,e4⟩:=lb.1 h1
        exact ⟨fun id _=>by simp[e1],fun id hid=>by simp[e2] at hid,fun _=>e2,fun hc=>by simp[e3] at hc,fun id hid=>by simp[e2] at hid⟩
      · have e1:=la.2 h1.1
        have e2:=lb.2 h1.2
        exact ⟨fun id hid=>by simp[e1] at hid,fun id hid=>by simp[e2] at hid,fun _=>e2,fun _=>e1,fun id hid=>by simp[e2] at hid⟩
      · exact vM tr h1 ha hb
    · have hm:(i,k)∈jW all ls:=by
        unfold jW
        rw[List.mem_flatMap]
        refine ⟨_,mi,?_⟩
        rw[List.mem_filterMap]
        exact ⟨_,mk,by simp only; rw[if_neg h1]⟩
      by_cases hn:newAt all k=true
      · unfold newAt at hn
        split at hn
        · rename_i ob hob
          obtain ⟨T1,h1',v,h2,rd,wr,call,recs2,e1,e2,_⟩:=tr.at_ k ob hob
          rw[hb] at e1
          have e1:=Option.some.inj e1
          subst e1
          obtain ⟨n1,n2,n3⟩:=Mm e2 hn
          exact ⟨fun id _=>by simp[n1],fun id hid=>by simp[n2] at hid,fun _=>n2,fun hc=>by simp[n3] at hc,fun id hid=>by simp[n2] at hid⟩
        · simp at hn
      · obtain ⟨p,hp,e⟩:=Jj h (i,k) (by
          unfold D3
          rw[List.mem_filter]
          refine ⟨hm,?_⟩
          simp only[Bool.and_eq_true,Bool.not_eq_true',bne_iff_ne,ne_eq]
          exact ⟨by simpa using hn,hne⟩)
        exact Jc tr e (fun q hq=>hA q (hp q hq)) ha hb
  cases tp with
  | none=>exact sS.P7 fun i k a b h1 h2 h3 h4=>main i k a b h1 h2 h3 h4 (by simp)
  | some p =>
    obtain ⟨i0,k0⟩:=p
    obtain ⟨tol,hto,htv⟩:=htol _ rfl
    intro Ts hs vs eT0 eh0 eTN hrl hst i
    by_cases hi:i=i0
    · subst hi
      refine ⟨some k0,fun k a b h1 h2 h3 h4 h5=>main i k a b h1 h2 h3 h4 (fun e=>h5 (by simp at e; rw[e])),fun k a b o hk ha hb ho=>?_⟩
      simp at hk; subst hk
      unfold D7 at hto
      simp only at hto
      split at hto
      · rename_i oa ob hoa hob
        rw[ho] at hoa
        have hoa:=Option.some.inj hoa
        subst hoa
        split at hto
        · rename_i t m q t' m' q' hop1 hop2 hg1 hg2
          split at hto
          · rename_i hcond
            simp only[Bool.and_eq_true,beq_iff_eq,decide_eq_true_eq,List.all_eq_true,List.mem_range] at hcond
            obtain ⟨⟨⟨⟨⟨⟨⟨⟨rfl,rfl⟩,rfl⟩,s1⟩,s2⟩,s3⟩,s4⟩,hik⟩,hloud⟩:=hcond
            simp only[Option.some.injEq] at hto
            subst hto
            simp only at htv
            have hkl:k0 < all.length:=(List.getElem?_eq_some_iff.1 hob).1
            have hwr:∀ j r,j < k0→recs[j]?=some r→r.wr=[]:=fun j r hj hrj=>by
              have h1:=hloud j hj
              have hj':j < ls.length:=by omega
              rw[List.getD_eq_getElem?_getD,List.getElem?_eq_getElem hj'] at h1
              exact (hr j _ r (List.getElem?_eq_getElem hj') hrj).2 h1
            have hsame:=NY hst hrl (Nat.le_of_lt hkl) hwr
            have em:∀ j,i≤j→j≤all.length→Ts j m=T' m:=fun j h1 h2=>by
              rw[← eTN,oQ hst hrl s1 j h1 h2,oQ hst hrl s1 all.length (by omega) (Nat.le_refl _)]
            have eq:∀ j,i≤j→j≤all.length→Ts j q=T' q:=fun j h1 h2=>by
              rw[← eTN,oQ hst hrl s2 j h1 h2,oQ hst hrl s2 all.length (by omega) (Nat.le_refl _)]
            obtain ⟨sti,_,_,hlo,hhi⟩:=hst i o a ho ha
            obtain ⟨stk,_,_,_,_⟩:=hst k0 ob b hob hb
            have gi:cO n all (Ts i) o=some true:=by unfold cO; rw[hg1]
            have gk:cO n all (Ts k0) ob=some true:=by unfold cO; rw[hg2]
            unfold I7 at htv
            split at htv
            · rename_i id hid
              obtain ⟨⟨es0,c0,hmap⟩,htv⟩:=htv
              have hidl:id < hp.length:=je (by rw[hmap]; simp)
              have hvk:(hs k0).view id=hp.view id:=by rw[(hsame k0 (Nat.le_refl _)).2 id (by rw[eh0]; exact hidl),eh0]
              have hvi:(hs i).view id=hp.view id:=by rw[(hsame i (Nat.le_of_lt hik)).2 id (by rw[eh0]; exact hidl),eh0]
              obtain ⟨effi,hopi,hi',wri,cai⟩:=EL sti gi (by rw[hop1]; simp) (by rw[hop1]; simp) (by rw[hop1]; simp)
              obtain ⟨effk,hopk,hk',wrk,cak⟩:=EL stk gk (by rw[hop2]; simp) (by rw[hop2]; simp) (by rw[hop2]; simp)
              simp only[cd,hop1] at hopi
              simp only[cd,hop2] at hopk
              have e1:ev (Ts i) (.tmp m)=.mp id:=(em i (Nat.le_refl _) (by omega)).trans hid
              have e2:ev (Ts i) (.tmp q)=T' q:=eq i (Nat.le_refl _) (by omega)
              have e3:ev (Ts k0) (.tmp m)=.mp id:=(em k0 (by omega) (by omega)).trans hid
              have e4:ev (Ts k0) (.tmp q)=T' q:=eq k0 (by omega) (by omega)
              rw[e1,e2] at hopi
              rw[e3,e4,IA hvk] at hopk
              obtain ⟨l1,l2⟩:=Me hopi
              obtain ⟨obj,l3⟩:=JH hopk
              subst l1 l3
              have hkb:(hs (k0+1)).view id=obj:=by
                rw[hk',j8 (fun id' hid'=>by
                  simp only[bk.wr,List.mem_singleton] at hid'
                  subst hid'
                  rw[hvk,hmap]; simp)]
                simp[bk.view,View.set]
              refine ⟨hik,wri,cai,by rw[hlo,hhi,hi']; rfl,fun g hg hgv=>?_⟩
              have hidi:id < (hs i).length:=je (by rw[hvi,hmap]; simp)
              have hgid:g.view id=(hp.view.set id obj) id:=by
                rw[hgv id hidi,wrk,if_pos (by simp[bk.wr]),hkb]
                simp[View.set]
              have hlk:=htv _ _ _ hopk
              have hfin:cd P o (Ts i) g.view g.length=some (vs i,.none,a.rd):=by
                simp only[cd,hop1]
                rw[e1,e2,CF hgid,hlk,← CF hvi]
                exact hopi
              exact .op gi hfin
            · exact htv.elim
          · simp at hto
        · simp at hto
      · simp at hto
    · exact ⟨none,fun k a b h1 h2 h3 h4 _=>main i k a b h1 h2 h3 h4 (fun e=>hi (by simp at e; exact e.1.symm)),fun k a b o h1=>by simp at h1⟩
theorem Nc (hm:P.follows .mixedOrders=true) {fz:Fz} {id:Nat} {ops:Array Oper} {sc:SC} {T:Env} {h:aG} {Q:Exit→Env→View→Prop} (hc:I9 P n fz ops.toList=some sc) (hw:wS P sc T h.view Q) :
    ∃ e T' h',cM P n (.region id ops true) T h e T' h'∧(iK h h'∧h.length≤h'.length)∧Q e T' h'.view:=by
  unfold I9 at hc
  split at hc
  · simp at hc
  · rename_i l hl
    split at hc
    · simp at hc
    · rename_i hok
      have hok:(group l).all rU=true:=by simpa using hok
      have hl':cY P n ops.toList fz ops.toList=some (jA (group l)):=by rw[fc]; exact hl
      split at hc
      · rename_i ht
        simp only[Option.map_eq_some_iff] at hc
        obtain ⟨aps,hap,rfl⟩:=hc
        obtain ⟨recs,T',h',tr,hst,hk,hro⟩:=yk (group l) ops.toList T h hl' hok hw
        rw[fc] at hro
        refine ⟨.normal,T',h',?_,hst,hk.rest⟩
        have hcf:sS ops.toList recs:=M0 tr hap (zk hk) (by simpa using hro.1) (fun i x r hx hr=>by
          simp only[List.getElem?_map,Option.map_eq_some_iff] at hx
          obtain ⟨s,hs,rfl⟩:=hx
          exact hro.2 i s r hs hr)
        simpa using xz hm (id:=id) tr ht hcf
      · simp at hc
theorem Md (hm:P.follows .mixedOrders=true) {fz:Fz} {id:Nat} {ops:Array Oper} {sc:SC} {T:Env} {h:aG} {Q:Exit→Env→View→Prop} (hc:Iz P n fz ops.toList=some sc) (hw:wS P sc T h.view Q) :
    ∃ e T' h',cM P n (.region id ops true) T h e T' h'∧(iK h h'∧h.length≤h'.length)∧Q e T' h'.view:=by
  unfold Iz at hc
  split at hc
  · simp at hc
  · rename_i l hl
    split at hc
    · simp at hc
    · rename_i hok
      have hok:(group l).all rU=true:=by simpa using hok
      have hl':cY P n ops.toList fz ops.toList=some (jA (group l)):=by rw[fc]; exact hl
      split at hc
      · rename_i ht
        split at hc
        · simp only[Option.map_eq_some_iff] at hc
          obtain ⟨aps,hap,rfl⟩:=hc
          obtain ⟨recs,T',h',tr,hst,hk,hro⟩:=yk (group l) ops.toList T h hl' hok hw
          rw[fc] at hro
          refine ⟨.normal,T',h',?_,hst,hk.rest⟩
          have hcf:=Fg tr hap (zk hk) (by simpa using hro.1) (fun i x r hx hr=>by
            simp only[List.getElem?_map,Option.map_eq_some_iff] at hx
            obtain ⟨s,hs,rfl⟩:=hx
            exact hro.2 i s r hs hr) (fun p hp=>by simp at hp)
          simpa using u6 hm (id:=id) tr ht hcf
        · rename_i p hp
          split at hc
          · rename_i tol hto
            simp only[Option.map_eq_some_iff] at hc
            obtain ⟨aps,hap,rfl⟩:=hc
            obtain ⟨recs,T',h',tr,hst,hk,hro⟩:=yk (group l) ops.toList T h hl' hok hw
            rw[fc] at hro
            refine ⟨.normal,T',h',?_,hst,hk.2.rest⟩
            have hcf:=Fg tr hap (zk hk.2) (by simpa using hro.1) (fun i x r hx hr=>by
              simp only[List.getElem?_map,Option.map_eq_some_iff] at hx
              obtain ⟨s,hs,rfl⟩:=hx
              exact hro.2 i s r hs hr) (fun p' hp'=>by
                simp only[Option.some.injEq] at hp'
                subst hp'
                exact ⟨tol,hto,hk.1⟩)
            simpa using u6 hm (id:=id) tr ht hcf
          · simp at hc
      · simp at hc
theorem uU (hm:P.follows .mixedOrders=true) {fz:Fz} {id:Nat} {ops:Array Oper} {draw quiet:Bool} {sc:SC} {T:Env} {h:aG} {Q:Exit→Env→View→Prop} (hc:yF P n fz ops.toList draw quiet=some sc) (hw:wS P sc T h.view Q) :
    ∃ e T' h',cM P n (.region id ops draw) T h e T' h'∧(iK h h'∧h.length≤h'.length)∧Q e T' h'.view:=by
  unfold yF at hc
  split at hc
  · simp at hc
  · rename_i l hl
    split at hc
    · simp at hc
    · rename_i hok
      have hok:(group l).all rU=true:=by simpa using hok
      have hl':cY P n ops.toList fz ops.toList=some (jA (group l)):=by rw[fc]; exact hl
      have key:wH P quiet (group l) T h.view (Q .normal)→(draw=true→kT ops.toList=true∧D5 ops.toList (l.map fun s=>gZ P quiet s.b)=true) →
          ∃ e T' h',cM P n (.region id ops draw) T h e T' h'∧(iK h h'∧h.length≤h'.length)∧Q e T' h'.view:=by
        intro hw hdr
        obtain ⟨recs,T',h',tr,hst,hk,hro⟩:=yk (group l) ops.toList T h hl' hok hw
        rw[fc] at hro
        refine ⟨.normal,T',h',?_,hst,hk⟩
        cases hd:draw with
        | false=>simpa using EE (id:=id) tr
        | true =>
          obtain ⟨h1,h2⟩:=hdr hd
          have hcf:sS ops.toList recs:=MS tr h2 (by simpa using hro.1) (fun i x r hx hr=>by
            simp only[List.getElem?_map,Option.map_eq_some_iff] at hx
            obtain ⟨s,hs,rfl⟩:=hx
            exact hro.2 i s r hs hr)
          simpa using xz hm (id:=id) tr h1 hcf
      split at hc
      · rename_i hd
        split at hc
        · rename_i ht
          simp at hc; subst hc
          exact key hw (fun _=>by simpa using ht)
        · simp at hc
      · rename_i hd
        simp at hc; subst hc
        exact key hw (fun e=>absurd e hd)
theorem mo {a b:Option SC} {sc:SC} (h:orElse' a b=some sc):a=some sc∨b=some sc:=by
  cases a with
  | none=>exact .inr h
  | some x=>exact .inl h
theorem Km (hm:P.follows .mixedOrders=true) {fz:List Nat} {id:Nat} {ops:Array Oper} {draw:Bool} {sc:SC} {T:Env} {h:aG} {Q:Exit→Env→View→Prop} (hc:Jh P n fz ops.toList draw=some sc) (hw:wS P sc T h.view Q) :
    ∃ e T' h',cM P n (.region id ops draw) T h e T' h'∧(iK h h'∧h.length≤h'.length)∧Q e T' h'.view:=by
  unfold Jh at hc
  rcases mo hc with h1 | h1
  · exact uU hm h1 hw
  · clear hc
    split at h1
    · rename_i hd
      subst hd
      rcases mo h1 with h0 | h1
      · split at h0
        · exact Md hm h0 hw
        · simp at h0
      rcases mo h1 with h2 | h2
      · exact Nc hm h2 hw
      · rcases mo h2 with h3 | h3
        · exact uU hm h3 hw
        · rcases mo h3 with h4 | h4
          · exact uU hm h4 hw
          · exact uU hm h4 hw
    · simp at h1
theorem C2 {e:Exit} {a b:Prop} (h:Bd e a b):(e=.normal∧a)∨(e≠.normal∧b):=by
  cases e with
  | normal=>exact .inl ⟨rfl,h⟩
  | _=>exact .inr ⟨by simp,h⟩
theorem PW (hm:P.follows .mixedOrders=true) {fz:List Nat} : ∀ (c:Code) (sc:SC),hD P n fz c=some sc→∀ (T:Env) (h:aG) (Q:Exit→Env→View→Prop),wS P sc T h.view Q →
    ∃ e T' h',cM P n c T h e T' h'∧(iK h h'∧h.length≤h'.length)∧Q e T' h'.view:=by
  intro c
  induction c with
  | skip=>intro sc hc T h Q hw; simp[hD] at hc; subst hc; exact ⟨_,T,h,.skip,⟨.refl _,Nat.le_refl _⟩,hw⟩
  | region id ops draw=>intro sc hc T h Q hw; exact Km hm hc hw
  | seq x y ihx ihy =>
    intro sc hc T h Q hw
    simp only[hD] at hc
    split at hc
    · rename_i a b h1 h2
      simp at hc; subst hc
      simp only[wS] at hw
      obtain ⟨e,T1,h1',hx,st1,hq⟩:=ihx a h1 T h _ hw
      rcases C2 hq with ⟨rfl,hq⟩ | ⟨hne,hq⟩
      · obtain ⟨e2,T2,h2',hy,st2,hq2⟩:=ihy b h2 T1 h1' _ hq
        exact ⟨e2,T2,h2',hx.seq hy,⟨st1.1.trans st2.1 st1.2,Nat.le_trans st1.2 st2.2⟩,hq2⟩
      · exact ⟨e,T1,h1',hx.He hne,st1,hq⟩
    · simp at hc
  | cond c x y ihx ihy =>
    intro sc hc T h Q hw
    simp only[hD] at hc
    split at hc
    · rename_i a b h1 h2
      simp at hc; subst hc
      simp only[wS] at hw
      split at hw
      · rename_i t ht
        have hT:rX (SX.of c) t T=T:=by
          unfold rX
          split
          · rename_i k hk
            rw[hk] at ht
            exact zy ht
          · rfl
        rw[SX.cw] at ht
        cases t with
        | true =>
          have:=hw.1 rfl
          rw[hT] at this
          obtain ⟨e,T',h',hx,st,hq⟩:=ihx a h1 T h Q this
          exact ⟨e,T',h',.cond ht hx,st,hq⟩
        | false =>
          have:=hw.2 rfl
          rw[hT] at this
          obtain ⟨e,T',h',hx,st,hq⟩:=ihy b h2 T h Q this
          exact ⟨e,T',h',.cond ht hx,st,hq⟩
      · exact hw.elim
    · simp at hc
  | block id c ih =>
    intro sc hc T h Q hw
    simp only[hD,Option.map_eq_some_iff] at hc
    obtain ⟨a,h1,rfl⟩:=hc
    simp only[wS] at hw
    obtain ⟨e,T',h',hx,st,hq⟩:=ih a h1 T h _ hw
    exact ⟨_,T',h',hx.block,st,hq⟩
  | loop c ih =>
    intro sc hc T h Q hw
    simp only[hD,Option.map_eq_some_iff] at hc
    obtain ⟨a,h1,rfl⟩:=hc
    simp only[wS] at hw
    obtain ⟨I,⟨k,hk⟩,hstep⟩:=hw
    have go:∀ k T (h:aG),I k T h.view→∃ e T' h',oO P n c T h e T' h'∧(iK h h'∧h.length≤h'.length)∧Q e T' h'.view:=by
      intro k
      induction k using Nat.strongRecOn with
      | ind k ihk =>
        intro T h hI
        obtain ⟨e,T1,h1',hx,st1,hq⟩:=ih a h1 T h _ (hstep k T h.view hI)
        rcases C2 hq with ⟨rfl,k',hlt,hI'⟩ | ⟨hne,hq⟩
        · obtain ⟨e2,T2,h2',hy,st2,hq2⟩:=ihk k' hlt T1 h1' hI'
          exact ⟨e2,T2,h2',.step hx hy,⟨st1.1.trans st2.1 st1.2,Nat.le_trans st1.2 st2.2⟩,hq2⟩
        · exact ⟨e,T1,h1',.out hx hne,st1,hq⟩
    obtain ⟨e,T',h',hx,st,hq⟩:=go k T h hk
    exact ⟨e,T',h',.loop hx,st,hq⟩
  | exit id=>intro sc hc T h Q hw; simp[hD] at hc; subst hc; exact ⟨_,T,h,.exit,⟨.refl _,Nat.le_refl _⟩,hw⟩
  | ret=>intro sc hc T h Q hw; simp[hD] at hc; subst hc; exact ⟨_,T,h,.ret,⟨.refl _,Nat.le_refl _⟩,hw⟩
  | _=>intro sc hc; simp[hD] at hc
theorem PS {T:Env} {h:aG} {r:ResultVar} {l:List SR} {rest:List ResultVar} (hc:eE P (r :: rest)=some l):∃ s l',l=s :: l'∧eE P rest=some l'∧∀ K:V→Prop,wR T h.view s K→∃ v,rv P T h r=some v∧K v:=by
  cases r with
  | tmp t =>
    simp only[eE,Option.map_eq_some_iff] at hc
    obtain ⟨l',h1,rfl⟩:=hc
    exact ⟨.tmp t,l',rfl,h1,fun K hk=>⟨_,rfl,hk⟩⟩
  | cell a t =>
    simp only[eE] at hc
    split at hc
    · rename_i k l' h1 h2
      simp at hc; subst hc
      refine ⟨.cell a k,l',rfl,h2,fun K hk=>?_⟩
      simp only[wR] at hk
      simp only[rv,lh,u4 h1]
      split at hk
      · rename_i id i j ha
        split at hk
        · rename_i es hH
          obtain ⟨hlt,hk⟩:=hk
          obtain ⟨v,hv,hk⟩:=ot hk
          exact ⟨v,by rw[ha]; simp only[hH]; rw[if_pos hlt,hv]; rfl,hk⟩
        · exact hk.elim
      · rename_i e j ha
        obtain ⟨v,hv,hk⟩:=ot hk
        exact ⟨v,by rw[ha]; simp only; rw[hv]; rfl,hk⟩
      · exact hk.elim
    · simp at hc
theorem La {T:Env} {h:aG} {K:List V→Prop} : ∀ (rs:List ResultVar) (l:List SR) (acc:List V),eE P rs=some l→Bk T h.view l acc K→∃ vs,kS P T h rs=some vs∧K (acc ++ vs)
  | [],l,acc,hc,hw=>by simp[eE] at hc; subst hc; exact ⟨[],rfl,by simpa [Bk] using hw⟩
  | r :: rest,l,acc,hc,hw=>by
    obtain ⟨s,l',rfl,h1,h2⟩:=PS (T:=T) (h:=h) hc
    simp only[Bk] at hw
    obtain ⟨v,hv,hk⟩:=h2 _ hw
    obtain ⟨vs,hvs,hk⟩:=La rest l' (acc ++ [v]) h1 hk
    exact ⟨v :: vs,by simp[kS,hv,hvs],by simpa using hk⟩
def wF (P:Program) (F:SF) (vs:List V) (H:View) (K:V→View→Prop):Prop :=
  vs.length≤F.n∧wS P F.code (kn vs) H fun e T' H'=>(e=.ret∨e=.normal)∧Bk T' H' F.res [] fun l=>K (ah l) H'
theorem az.of (hm:P.follows .mixedOrders=true) {f:FuncId} {fz:List Nat} {F:SF} (hF:aU P f fz=some F) {vs:List V} {H:View} {K:V→View→Prop} (hw:wF P F vs H K):az P f vs H K:=by
  unfold aU at hF
  split at hF
  · rename_i fn hfn
    split at hF
    · rename_i c hb
      split at hF
      · rename_i sc rs h1 h2 h3
        simp at hF; subst hF
        refine ⟨h3,?_⟩
        rintro h rfl
        obtain ⟨e,T',h',hx,st,he,hr⟩:=PW hm c sc h1 _ h _ hw.2
        obtain ⟨vs',hvs,hk⟩:=La _ _ [] h2 hr
        refine ⟨ah vs',h',ca.HE hfn hb hw.1 hx he ?_,st.1,by simpa using hk⟩
        unfold Jq
        rw[hvs]
        cases vs' with
        | nil=>rfl
        | cons a l=>cases l <;> rfl
      · simp at hF
    · simp at hF
  · simp at hF
theorem az.mono {f:FuncId} {vs:List V} {H:View} {K K':V→View→Prop} (h:az P f vs H K) (hk:∀ r H',K r H'→K' r H'):az P f vs H K' :=
  ⟨h.1,fun h0 e=>let ⟨r,h',a,s,b⟩:=h.2 h0 e; ⟨r,h',a,s,hk _ _ b⟩⟩
theorem aF.MU {f:FuncId} {vs:List V} {H:View} {t:V} {K:V→View→Prop} (h:aF P f vs t) (hok:cW P f=true) (hk:K t H):D8 P f vs H K :=
  ⟨hok,fun h0 e=>⟨t,h0,ca.gC h h0,fun _ _=>rfl,e ▸ hk⟩⟩
theorem az.MU {f:FuncId} {vs:List V} {H:View} {K:V→View→Prop} (h:az P f vs H fun r H'=>(∀ id,H id≠.dead→H' id=H id)∧K r H'):D8 P f vs H K :=
  ⟨h.1,fun h0 e=>by
    obtain ⟨r,h',ha,st,hf,hk⟩:=h.2 h0 e
    refine ⟨r,h',ha,fun id hid=>?_,hk⟩
    by_cases hd:h0.view id=.dead
    · rw[hd]; exact st id hid hd
    · rw[← e] at hf; exact hf id hd⟩
end
end Gv
namespace Gv
open Go
inductive cI {α:Type} (x:α):Type where
  | mk
def er (s:ByteArray):List Int:=s.data.toList.map fun b=>(b.toNat:Int)
theorem dO (s:ByteArray):s.size=(er s).length:=by rw[er,List.length_map,bsize]
def bb (P:Program) (c:SC) (T:Env) (H:View) (Q:Exit→Env→View→Prop) (_:cI (T,H,Q)):Prop:=wS P (.loop c) T H Q
def aB (P:Program) (quiet:Bool) (f:FuncId) (vs:List V) (H:View) (K:V→View→Prop) (_:cI (H,K)):Prop :=
  if quiet then D8 P f vs H K else az P f vs H K
def Am {α:Type} (v:α) (F:α→Prop) (_:cI F):Prop:=F v
def dp (v:V) (F:V→Prop) (_:cI F):Prop:=F v
def Eg (o:bS) (F:bS→Prop) (_:cI F):Prop:=F o
def pF {α:Type} (o:Option α) (F:Option α→Prop) (_:cI F):Prop:=F o
def ar (b:Bool) (A B:Prop) (_:cI (A,B)):Prop:=(b=true→A)∧(b=false→B)
theorem P6 {α:Type} (v:α) (F:α→Prop) (w:cI F):Am v F w=F v:=propext Iff.rfl
section
variable (F:V→Prop) (w:cI F)
theorem Hr (v:Value):dp (.val v) F w=F (.val v):=propext Iff.rfl
theorem HD (k:Nat):dp (.emp k) F w=F (.emp k):=propext Iff.rfl
theorem HQ:dp .dH F w=F .dH:=propext Iff.rfl
theorem Hu (es:List (List V)):dp (.aY es) F w=F (.aY es):=propext Iff.rfl
theorem JQ (a b c d:Nat):dp (.sl a b c d) F w=F (.sl a b c d):=propext Iff.rfl
theorem GN (a b c:Nat):dp (.ptr a b c) F w=F (.ptr a b c):=propext Iff.rfl
theorem Gc (e:List V) (j:Nat):dp (.aT e j) F w=F (.aT e j):=propext Iff.rfl
theorem KF (a:Nat):dp (.mp a) F w=F (.mp a):=propext Iff.rfl
theorem Kh (f:FuncId) (a b:List V):dp (.fn f a b) F w=F (.fn f a b):=propext Iff.rfl
theorem HL (cs:List V):dp (.agg cs) F w=F (.agg cs):=propext Iff.rfl
theorem HR (cs:List V):dp (.bt cs) F w=F (.bt cs):=propext Iff.rfl
end
theorem GR (F:bS→Prop) (w:cI F) (k:Nat) (es:List (List V)):Eg (.arr k es) F w=F (.arr k es):=propext Iff.rfl
theorem G8 (F:bS→Prop) (w:cI F) (es:List (V × V × Nat)) (k:Nat):Eg (.map es k) F w=F (.map es k):=propext Iff.rfl
theorem Gb {α:Type} (F:Option α→Prop) (w:cI F) (x:α):pF (some x) F w=F (some x):=propext Iff.rfl
theorem F6 (A B:Prop) (w:cI (A,B)):ar true A B w=A:=by simp[ar]
theorem Df (A B:Prop) (w:cI (A,B)):ar false A B w=B:=by simp[ar]
theorem HH (b:Bool) (A B:Prop) (w:cI (A,B)):ar (!b) A B w=ar b B A .mk:=by cases b <;> simp[ar]
theorem ar.split {b:Bool} {A B:Prop} {w:cI (A,B)} (h1:b=true→A) (h2:b=false→B):ar b A B w:=⟨h1,h2⟩
theorem ar.dec {p:Prop} [Decidable p] {A B:Prop} {w:cI (A,B)} (h1:p→A) (h2:¬ p→B):ar (decide p) A B w:=⟨fun h=>h1 (by simpa using h),fun h=>h2 (by simpa using h)⟩
theorem ar.eq {a b:Int} {A B:Prop} {w:cI (A,B)} (h1:a=b→A) (h2:¬ a=b→B):ar (a == b) A B w:=⟨fun h=>h1 (by simpa using h),fun h=>h2 (by simpa using h)⟩
theorem ar.ne {a b:Int} {A B:Prop} {w:cI (A,B)} (h1:¬ a=b→A) (h2:a=b→B):ar (a != b) A B w:=⟨fun h=>h1 (by simpa using h),fun h=>h2 (by simpa using h)⟩
section
variable (P:Program) (T:Env) (H:View)
theorem NC (F:SF) (vs:List V) (K:V→View→Prop):wF P F vs H K=(vs.length≤F.n∧wS P F.code (kn vs) H fun e T' H'=>(e=.ret∨e=.normal)∧Bk T' H' F.res [] fun l=>Am (ah l) (fun v=>K v H') .mk):=propext Iff.rfl
theorem Hn (Q:Exit→Env→View→Prop):wS P .skip T H Q=Q .normal T H:=propext Iff.rfl
theorem CS (q:Bool) (gs:List SG) (Q:Exit→Env→View→Prop):wS P (.region q gs) T H Q=wH P q gs T H (Q .normal):=propext Iff.rfl
theorem Bu (aps:List (Nat × Nat)) (gs:List SG) (Q:Exit→Env→View→Prop):wS P (.lV aps gs) T H Q=wH P false gs T H (fun T' H'=>xX aps T' (Q .normal T' H')):=propext Iff.rfl
theorem Bg (tol:Nat × Nat × Nat) (aps:List (Nat × Nat)) (gs:List SG) (Q:Exit→Env→View→Prop):wS P (.BN tol aps gs) T H Q=wH P false gs T H (fun T' H'=>I7 P tol.1 (T' tol.2.1) (T' tol.2.2) H∧xX aps T' (Q .normal T' H')):=propext Iff.rfl
theorem HG (K:Prop):xX [] T K=K:=propext Iff.rfl
theorem Es (a b:Nat) (l:List (Nat × Nat)) (K:Prop):xX ((a,b) :: l) T K=(gz (T a) (T b)∧xX l T K):=propext Iff.rfl
theorem Hv (i j k i' j' k':Nat):gz (.ptr i j k) (.ptr i' j' k')=(i≠i'):=propext Iff.rfl
theorem GO (i j k a b c d:Nat):gz (.ptr i j k) (.sl a b c d)=(i≠a):=propext Iff.rfl
theorem Fm (i j k e:Nat):gz (.ptr i j k) (.emp e)=True:=id rfl
theorem Gd (i j k:Nat):gz (.ptr i j k) .dH=True:=id rfl
theorem ET (i j k:Nat) (es:List (List V)):gz (.ptr i j k) (.aY es)=True:=id rfl
theorem GU (a b c d e f g h:Nat):gz (.sl a b c d) (.sl e f g h)=(a≠e):=propext Iff.rfl
theorem K9 (a b c d e:Nat):gz (.sl a b c d) (.emp e)=True:=id rfl
theorem LG (a b c d:Nat):gz (.sl a b c d) .dH=True:=id rfl
theorem KY (a b c d:Nat) (es:List (List V)):gz (.sl a b c d) (.aY es)=True:=id rfl
theorem Hc (k:Nat) (v:V):gz (.emp k) v=True:=by cases v <;> rfl
theorem G7 (v:V):gz .dH v=True:=by cases v <;> rfl
theorem H8 (es:List (List V)) (v:V):gz (.aY es) v=True:=by cases v <;> rfl
theorem Fu (e:List V) (j:Nat) (v:V):gz (.aT e j) v=True:=by cases v <;> rfl
theorem LH (x y:SC) (Q:Exit→Env→View→Prop):wS P (.seq x y) T H Q=wS P x T H fun e T' H'=>Bd e (wS P y T' H' Q) (Q e T' H'):=propext Iff.rfl
theorem HA (c:SX) (x y:SC) (Q:Exit→Env→View→Prop):wS P (.cond c x y) T H Q=dp (c.at T) (fun v=>match v with
    | .val (.bool b)=>ar b (wS P x (rX c true T) H Q) (wS P y (rX c false T) H Q) .mk
    | _=>False) .mk:=propext Iff.rfl
theorem FL (id:Nat) (c:SC) (Q:Exit→Env→View→Prop):wS P (.block id c) T H Q=wS P c T H fun e=>Q (qI id e):=propext Iff.rfl
theorem GH (id:Nat) (Q:Exit→Env→View→Prop):wS P (.exit id) T H Q=Q (.exit id) T H:=propext Iff.rfl
theorem JP (Q:Exit→Env→View→Prop):wS P .ret T H Q=Q .ret T H:=propext Iff.rfl
theorem HO (c:SC) (Q:Exit→Env→View→Prop):wS P (.loop c) T H Q=bb P c T H Q .mk:=propext Iff.rfl
theorem HB (q:Bool) (K:Env→View→Prop):wH P q [] T H K=K T H:=propext Iff.rfl
theorem FZ (q:Bool) (g:SG) (r:List SG) (K:Env→View→Prop):wH P q (g :: r) T H K=wG P q g T H fun T' H'=>wH P q r T' H' K:=propext Iff.rfl
theorem HW (q:Bool) (ops:List (Option Nat × SB)) (K:Env→View→Prop):wG P q ⟨none,ops⟩ T H K=xJ P q ops T H K:=propext Iff.rfl
theorem Hg (q:Bool) (d:Nat) (ops:List (Option Nat × SB)) (K:Env→View→Prop):wG P q ⟨some (d,true),ops⟩ T H K=dp (T d) (fun v=>match v with
    | .val (.bool b)=>ar b (xJ P q ops (T.put (some d) (.val (.bool true))) H K) (K (gE ops (T.put (some d) (.val (.bool false)))) H) .mk
    | .bt []=>K (gE ops T) H
    | _=>False) .mk:=propext Iff.rfl
theorem E1 (q:Bool) (d:Nat) (ops:List (Option Nat × SB)) (K:Env→View→Prop):wG P q ⟨some (d,false),ops⟩ T H K=dp (T d) (fun v=>match v with
    | .val (.bool b)=>ar b (K (gE ops (T.put (some d) (.val (.bool true)))) H) (xJ P q ops (T.put (some d) (.val (.bool false))) H K) .mk
    | .bt []=>K (gE ops T) H
    | _=>False) .mk:=by
  simp only[wG,dp]
  generalize T d=v
  cases v with
  | val x=>cases x <;> simp[ar,and_comm]
  | bt l=>cases l <;> simp
  | _=>simp
theorem zi:gE [] T=T:=id rfl
theorem x9 (d:Option Nat) (b:SB) (r:List (Option Nat × SB)):gE ((d,b) :: r) T=gE r (T.put d (.bt [])):=id rfl
theorem HY (q:Bool) (K:Env→View→Prop):xJ P q [] T H K=K T H:=propext Iff.rfl
theorem FM (q:Bool) (d:Option Nat) (b:SB) (r:List (Option Nat × SB)) (K:Env→View→Prop):xJ P q ((d,b) :: r) T H K=wB P q b T H fun v H'=>Am v (fun v'=>xJ P q r (T.put d v') H' K) .mk:=propext Iff.rfl
theorem NB (q:Bool) (s:SI) (K:V→View→Prop):wB P q (.op s) T H K=wI P s T H K:=propext Iff.rfl
theorem Hk (q:Bool) (f:SX) (args:List SX) (K:V→View→Prop):wB P q (.call f args) T H K=dp (f.at T) (fun v=>match v with
    | .fn g first cap=>aB P q g (first ++ args.map (SX.at T) ++ cap) H K .mk
    | _=>False) .mk:=propext Iff.rfl
theorem Ki (x:SX) (K:V→View→Prop):wI P (.aX x) T H K=K (x.at T) H:=propext Iff.rfl
theorem Ho (c a b:SX) (K:V→View→Prop):wI P (.pick c a b) T H K=dp (c.at T) (fun v=>match v with
    | .val (.bool t)=>ar t (K (a.at T) H) (K (b.at T) H) .mk
    | _=>False) .mk:=by
  simp only[wI,dp]
  generalize c.at T=v
  cases v with
  | val x =>
    cases x with
    | bool t=>cases t <;> simp[ar]
    | _=>simp
  | _=>simp
theorem Kn (x:SX) (K:V→View→Prop):wI P (.box x) T H K=dp (x.at T) (fun v=>v.cells.all aP=true∧Am v.cells (fun cs=>∀ n,H n=.dead→K (.ptr n 0 0) (H.set n (.arr cs.length [cs]))) .mk) .mk:=propext Iff.rfl
theorem Ld (x:SX) (K:V→View→Prop):wI P (.ir x) T H K=dp (x.at T) (fun v=>v.cells.all aP=true∧Am v.cells (fun cs=>K (.aT cs 0) H) .mk) .mk:=propext Iff.rfl
theorem FY (z:List V) (K:V→View→Prop):wI P (.alloc z) T H K=(z.all aP=true∧∀ n,H n=.dead→K (.ptr n 0 0) (H.set n (.arr z.length [z]))):=propext Iff.rfl
theorem GC (sz:Option Nat) (a:SX) (K:V→View→Prop):wI P (.load sz a) T H K=dp (a.at T) (fun v=>match v with
    | .ptr id i j=>Eg (H id) (fun o=>match o with
      | .arr _ es=>i < es.length∧Am (es.getD i []) (fun e=>iL sz e j fun v=>K v H) .mk
      | _=>False) .mk
    | .aT e j=>iL sz e j fun v=>K v H
    | _=>False) .mk:=propext Iff.rfl
theorem F8 (sz:Option Nat) (a:SX) (K:V→View→Prop):wI P (.qD sz a) T H K=dp (a.at T) (fun v=>match v with
    | .aT e j=>iL sz e j fun v=>K v H
    | _=>False) .mk:=propext Iff.rfl
theorem FB (sz:Nat) (a x:SX) (K:V→View→Prop):wI P (.store sz a x) T H K=dp (a.at T) (fun v=>match v with
    | .ptr id i j=>Eg (H id) (fun o=>match o with
      | .arr esz es=>Am (x.at T).cells (fun cs=>(i < es.length∧cs.length=sz∧j+cs.length≤esz∧cs.all aP=true) ∧
          Am (es.set i (aa (es.getD i []) j cs)) (fun es'=>K .any (H.set id (.arr esz es'))) .mk) .mk
      | _=>False) .mk
    | _=>False) .mk:=propext Iff.rfl
theorem G0 (x:SX) (K:V→View→Prop):wI P (.zJ x) T H K=dp (x.at T) (fun v=>match v with
    | .ptr id i j=>K (.ptr id i j) H
    | .aT e j=>K (.aT e j) H
    | .fn f a b=>K (.fn f a b) H
    | _=>False) .mk:=propext Iff.rfl
theorem G9 (off:Nat) (x:SX) (K:V→View→Prop):wI P (.addr off x) T H K=dp (x.at T) (fun v=>match v with
    | .ptr id i j=>K (.ptr id i (j+off)) H
    | .aT e j=>K (.aT e (j+off)) H
    | _=>False) .mk:=propext Iff.rfl
theorem Ep (off:Nat) (sz:Option Nat) (x:SX) (K:V→View→Prop):wI P (.field off sz x) T H K=dp (x.at T) (fun v=>match v with
    | .agg cs=>iL sz cs off fun v=>K v H
    | _=>False) .mk:=propext Iff.rfl
theorem JW (sz:Nat) (x i:SX) (K:V→View→Prop):wI P (.idx sz x i) T H K=pF (asNat (i.at T)) (fun o=>match o with
    | none=>False
    | some q=>dp (x.at T) (fun v=>match v with
      | .sl id off len esz=>(q < len∧esz=sz)∧K (.ptr id (off+q) 0) H
      | .aY es=>pF es[q]? (fun o=>match o with
        | some e=>e.length=sz∧K (.aT e 0) H
        | none=>False) .mk
      | _=>False) .mk) .mk:=by
  simp only[wI,pF,dp]
  cases asNat (i.at T) with
  | none=>rfl
  | some q =>
    simp only
    cases x.at T with
    | aY es =>
      simp only
      cases h:es[q]? with
      | none=>simp
      | some e=>simp
    | _=>rfl
theorem GG (f:FuncId) (first cap:List SX) (K:V→View→Prop):wI P (.vx f first cap) T H K=K (.fn f (first.map (SX.at T)) (cap.map (SX.at T))) H:=propext Iff.rfl
theorem EW (K:V→View→Prop):wI P .r6 T H K=(∀ n,H n=.dead→K (.mp n) (H.set n (.map [] 0))):=propext Iff.rfl
theorem KZ (i:Nat) (x:SX) (K:V→View→Prop):wI P (.ext i x) T H K=dp (x.at T) (fun v=>match v with
    | .bt vs=>i < vs.length∧K (vs.getD i .any) H
    | _=>False) .mk:=propext Iff.rfl
theorem Ly (x:SX) (K:V→View→Prop):wI P (.len x) T H K=pF (dS (x.at T)) (fun o=>match o with
    | some n=>K (aj n) H
    | none=>False) .mk:=propext Iff.rfl
theorem HK (x:SX) (K:V→View→Prop):wI P (.gS x) T H K=dp (x.at T) (fun v=>match v with
    | .val (.string s)=>K (aj s.size) H
    | _=>False) .mk:=propext Iff.rfl
theorem EH (op:BinOp) (x y:SX) (K:V→View→Prop):wI P (.arith op x y) T H K=dp (x.at T) (fun v=>dp (y.at T) (fun v'=>match v,v' with
    | .val (.int k a),.val (.int k' b)=>k=k'∧pF (ag op k a b) (fun o=>match o with | some v=>K (.val v) H | none=>False) .mk
    | _,_=>False) .mk) .mk:=propext Iff.rfl
theorem NI (l:Bool) (x y:SX) (K:V→View→Prop):wI P (.sh l x y) T H K=dp (x.at T) (fun v=>dp (y.at T) (fun v'=>match v,v' with
    | .val (.int k a),.val (.int _ b)=>0≤b∧K (.val (.int k (IV l k a b))) H
    | _,_=>False) .mk) .mk:=propext Iff.rfl
theorem K2 (op:BinOp) (x y:SX) (K:V→View→Prop):wI P (.iV op x y) T H K=dp (x.at T) (fun v=>dp (y.at T) (fun v'=>match v,v' with
    | .val (.string a),.val (.string b)=>(match op with
      | .eql=>K (.val (.bool (gH a b))) H
      | .neq=>K (.val (.bool (!gH a b))) H
      | _=>False)
    | _,_=>False) .mk) .mk:=propext Iff.rfl
theorem GS (x i:SX) (K:V→View→Prop):wI P (.dq x i) T H K=dp (x.at T) (fun v=>pF (asNat (i.at T)) (fun o=>match v,o with
    | .val (.string s),some q=>pF (er s)[q]? (fun o=>match o with
      | some c=>K (.val (.int .u8 c)) H
      | none=>False) .mk
    | _,_=>False) .mk) .mk:=by
  simp only[wI,pF,dp]
  generalize x.at T=v
  generalize asNat (i.at T)=o
  cases v with
  | val u =>
    cases u with
    | string s =>
      cases o with
      | none=>rfl
      | some q =>
        simp only[er,List.getElem?_map]
        cases h:s.data.toList[q]? with
        | none=>simp
        | some e=>simp
    | _=>rfl
  | _=>rfl
theorem JK (x:SX) (K:V→View→Prop):wI P (.not x) T H K=dp (x.at T) (fun v=>match v with
    | .val (.bool t)=>K (.val (.bool (!t))) H
    | _=>False) .mk:=propext Iff.rfl
theorem J6 (eq:Bool) (k:Nat) (x y:SX) (K:V→View→Prop):wI P (.nil eq k x y) T H K=pF (ai (isNil k (x.at T)) (isNil k (y.at T))) (fun o=>match o with
    | some b=>K (.val (.bool (if eq=true then b else !b))) H
    | none=>False) .mk:=propext Iff.rfl
theorem HX (x y:SX) (K:V→View→Prop):wI P (.beq true x y) T H K=dp (x.at T) (fun v=>dp (y.at T) (fun v'=>match v,v' with
    | .val (.bool a),.val (.bool b)=>K (.val (.bool (a == b))) H
    | _,_=>False) .mk) .mk:=propext Iff.rfl
theorem Hz (x y:SX) (K:V→View→Prop):wI P (.beq false x y) T H K=dp (x.at T) (fun v=>dp (y.at T) (fun v'=>match v,v' with
    | .val (.bool a),.val (.bool b)=>K (.val (.bool (a != b))) H
    | _,_=>False) .mk) .mk:=propext Iff.rfl
theorem Kp (x y:SX) (K:V→View→Prop):wI P (.mm true x y) T H K=dp (x.at T) (fun v=>dp (y.at T) (fun v'=>match v,v' with
    | .val (.int k a),.val (.int _ b)=>K (.val (.int k (if b > a then b else a))) H
    | _,_=>False) .mk) .mk:=propext Iff.rfl
theorem LQ (x y:SX) (K:V→View→Prop):wI P (.mm false x y) T H K=dp (x.at T) (fun v=>dp (y.at T) (fun v'=>match v,v' with
    | .val (.int k a),.val (.int _ b)=>K (.val (.int k (if b < a then b else a))) H
    | _,_=>False) .mk) .mk:=propext Iff.rfl
theorem GW (k:IntKind) (x:SX) (K:V→View→Prop):wI P (.conv k x) T H K=dp (x.at T) (fun v=>match v with
    | .val (.int _ a)=>K (.val (.int k (k.wrap a))) H
    | _=>False) .mk:=propext Iff.rfl
theorem EZ (n k:Nat) (o:bS):View.set H n o k=if k=n then o else H k:=id rfl
theorem FG (z:List V) (parts:List (Nat × Nat × SX)) (K:V→View→Prop):wI P (.build z parts) T H K=pF (ab z (parts.map fun p=>(p.1,p.2.1,p.2.2.at T))) (fun o=>match o with
    | some cs=>K (.agg cs) H
    | none=>False) .mk:=propext Iff.rfl
theorem C6 (len sz:Nat) (z:List V) (parts:List (Nat × SX)) (K:V→View→Prop):wI P (.bB len sz z parts) T H K=pF (af sz (List.replicate len z) (parts.map fun p=>(p.1,p.2.at T))) (fun o=>match o with
    | some es=>∀ n,H n=.dead→K (.sl n 0 len sz) (H.set n (.arr sz es))
    | none=>False) .mk:=propext Iff.rfl
theorem FX (sz:Nat) (x:SX) (lo hi:Option SX) (K:V→View→Prop):wI P (.slice sz x lo hi) T H K=pF (iw sz (x.at T) (lo.map (SX.at T)) (hi.map (SX.at T))) (fun o=>match o with
    | some (v,.none,_)=>K v H
    | _=>False) .mk:=propext Iff.rfl
theorem GX (sz bytes:Nat) (z:List V) (l c:SX) (K:V→View→Prop):wI P (.make sz bytes z l c) T H K=pF (asNat (l.at T)) (fun a=>pF (asNat (c.at T)) (fun b=>match a,b with
    | some l,some c=>(l≤c∧c < aE∧bytes * c < aE)∧(c=0→K (.emp 2) H)∧(c≠0→∀ n,H n=.dead→K (.sl n 0 l sz) (H.set n (.arr sz (List.replicate l z))))
    | _,_=>False) .mk) .mk:=propext Iff.rfl
def mV (sz bytes:Nat) (x:V) (xs:List (List V)) (H:View) (K:V→View→Prop) (_:cI (H,K)):Prop:=if xs.isEmpty=true then (match x with
        | .emp k=>K (.emp k) H
        | .dH=>K .dH H
        | .aY es=>K (.aY es) H
        | .sl a b c d=>K (.sl a b c d) H
        | _=>False)
      else (xs.all fun e=>e.length == sz && e.all aP)=true∧(match x with
        | .emp _=>(xs.length * bytes < aE∧xs.length < aE)∧∀ n,H n=.dead→K (.sl n 0 xs.length sz) (H.set n (.arr sz xs))
        | .sl id off len esz=>match H id with
          | .arr _ es=>(off+len≤es.length∧esz=sz∧(len+xs.length) * bytes < aE∧len+xs.length < aE) ∧
              ∀ n,H n=.dead→K (.sl n 0 (len+xs.length) esz) ((H.set id .dead).set n (.arr esz ((es.drop off).take len ++ xs)))
          | _=>False
        | _=>False)
theorem JM (sz bytes:Nat) (x y:SX) (K:V→View→Prop):wI P (.app sz bytes x y) T H K=pF (cb H (y.at T)) (fun o=>match o with
    | some (xs,_)=>mV sz bytes (x.at T) xs H K .mk
    | none=>False) .mk:=propext Iff.rfl
theorem sL (sz bytes k:Nat) (xs:List (List V)) (K:V→View→Prop) (w:cI (H,K)) (h0:xs.isEmpty=false):mV sz bytes (.emp k) xs H K w=((xs.all fun e=>e.length == sz && e.all aP)=true∧(xs.length * bytes < aE∧xs.length < aE)∧∀ n,H n=.dead→K (.sl n 0 xs.length sz) (H.set n (.arr sz xs))):=by
  unfold mV; rw[if_neg (by rw[h0]; simp)]
theorem rL (sz bytes id off len esz:Nat) (xs:List (List V)) (K:V→View→Prop) (w:cI (H,K)) (h0:xs.isEmpty=false):mV sz bytes (.sl id off len esz) xs H K w=((xs.all fun e=>e.length == sz && e.all aP)=true∧Eg (H id) (fun o=>match o with
          | .arr _ es=>(off+len≤es.length∧esz=sz∧(len+xs.length) * bytes < aE∧len+xs.length < aE) ∧
              ∀ n,H n=.dead→K (.sl n 0 (len+xs.length) esz) ((H.set id .dead).set n (.arr esz ((es.drop off).take len ++ xs)))
          | _=>False) .mk):=by
  unfold mV Eg; rw[if_neg (by rw[h0]; simp)]
theorem qA (id off len esz z:Nat) (es:List (List V)) (hH:H id=.arr z es) (hl:off+(len+1)≤es.length):cb H (.sl id off (len+1) esz)=some ((es.drop off).take (len+1),[id]):=by
  simp only[cb,hH]; rw[if_pos hl]
theorem sY (es:List (List V)):cb H (.aY es)=some (es,[]):=id rfl
theorem sO (k:Nat):cb H (.emp k)=some ([],[]):=id rfl
theorem G2 (x:SX) (K:V→View→Prop):wI P (.Cb x) T H K=dp (x.at T) (fun v=>match v with
    | .aY es=>pF (pv es) (fun o=>match o with
      | some l=>K (.val (.string ⟨l.toArray⟩)) H
      | none=>False) .mk
    | _=>False) .mk:=propext Iff.rfl
theorem GQ (x:SX) (K:V→View→Prop):wI P (.eT x) T H K=dp (x.at T) (fun v=>match v with
    | .val (.string s)=>K (.aY (fo s)) H
    | _=>False) .mk:=propext Iff.rfl
def oR (P:Program) (op:Op) (ty:TypeId) (T:Env) (H:View) (K:V→View→Prop) (_:cI (T,H,K)):Prop:=wI P (.old op ty) T H K
theorem KR (op:Op) (ty:TypeId) (K:V→View→Prop):wI P (.old op ty) T H K=oR P op ty T H K .mk:=propext Iff.rfl
theorem Lk (t:Nat):ev T (.tmp t)=T t:=id rfl
theorem EI (v:Value):ev T (.const v)=fy v:=id rfl
theorem LF (t:Nat):(SX.tmp t).at T=T t:=id rfl
theorem JG (v:V):(SX.val v).at T=v:=id rfl
theorem Hs (d t:Nat) (v:V):(T.put (some d) v) t=if t=d then v else T t:=id rfl
theorem EY (v:V):T.put none v=T:=id rfl
theorem Et (vs:List V) (t:Nat):kn vs t=vs.getD t .any:=id rfl
theorem Ap (e:List V) (j:Nat) (K:V→Prop):iL none e j K=(j < e.length∧K (e.getD j .any)):=propext Iff.rfl
theorem AU (n:Nat) (e:List V) (j:Nat) (K:V→Prop):iL (some n) e j K=(j+n≤e.length∧K (.agg ((e.drop j).take n))):=propext Iff.rfl
theorem AS (a b:Prop):Bd .normal a b=a:=propext Iff.rfl
theorem EB (i:Nat) (a b:Prop):Bd (.exit i) a b=b:=propext Iff.rfl
theorem GP (a b:Prop):Bd .ret a b=b:=propext Iff.rfl
theorem xi (i:Nat):qI i .normal=.normal:=id rfl
theorem C8 (i:Nat):qI i .ret=.ret:=id rfl
theorem Bm (i j:Nat):qI i (.exit j)=if j=i then .normal else .exit j:=by simp only[qI]
theorem HN (acc:List V) (K:List V→Prop):Bk T H [] acc K=K acc:=propext Iff.rfl
theorem Ef (r:SR) (l:List SR) (acc:List V) (K:List V→Prop):Bk T H (r :: l) acc K=wR T H r fun v=>Bk T H l (acc ++ [v]) K:=propext Iff.rfl
theorem JE (t:Nat) (K:V→Prop):wR T H (.tmp t) K=K (T t):=propext Iff.rfl
theorem HC (t:Nat) (sz:Option Nat) (K:V→Prop):wR T H (.cell t sz) K=dp (T t) (fun v=>match v with
    | .ptr id i j=>Eg (H id) (fun o=>match o with
      | .arr _ es=>i < es.length∧Am (es.getD i []) (fun e=>iL sz e j K) .mk
      | _=>False) .mk
    | .aT e j=>iL sz e j K
    | _=>False) .mk:=propext Iff.rfl
theorem Cu (t:Nat) (b:Bool):rX (.tmp t) b T=T.put (some t) (.val (.bool b)):=id rfl
theorem De (v:V) (b:Bool):rX (.val v) b T=T:=id rfl
theorem KM:(Exit.ret=Exit.ret∨Exit.ret=Exit.normal)=True:=by simp
theorem Dl:(Exit.normal=Exit.ret∨Exit.normal=Exit.normal)=True:=by simp
end
section
variable {P:Program} {T:Env} {H:View}
theorem bb.intro {c:SC} {Q:Exit→Env→View→Prop} {v:cI (T,H,Q)} (I:Nat→Env→View→Prop) (k:Nat) (h0:I k T H)
    (hs:∀ k T H,I k T H→wS P c T H fun e T' H'=>Bd e (∃ k',k' < k∧I k' T' H') (Q e T' H')):bb P c T H Q v:=by
  simp only[bb,wS]
  exact ⟨I,⟨k,h0⟩,hs⟩
theorem aB.pure {q:Bool} {f:FuncId} {vs:List V} {K:V→View→Prop} {v:cI (H,K)} {t:V} (hc:aF P f vs t) (hok:cW P f=true) (hk:K t H):aB P q f vs H K v:=by
  unfold aB
  cases q with
  | true=>exact hc.MU hok hk
  | false =>
    refine ⟨hok,?_⟩
    rintro h rfl
    exact ⟨t,h,ca.gC hc h,.refl _,hk⟩
theorem aB.gq {f:FuncId} {vs:List V} {K:V→View→Prop} {v:cI (H,K)} (hc:az P f vs H K):aB P false f vs H K v:=hc
theorem DG:aG.view []=fun _=>bS.dead:=by funext id; simp[aG.view]
theorem aF.of {f:FuncId} {vs:List V} {t:V} (ht:∀ v∈vs,Tree v) (h:az P f vs (fun _=>.dead) fun r H'=>∀ h':aG,h'.view=H'→Fr h' r t):aF P f vs t:=by
  obtain ⟨r,h',ha,_,hf⟩:=h.2 [] DG
  exact aF.vm ht ha (hf h' rfl)
theorem wrap64 {x:Int} (h1 : -9223372036854775808≤x) (h2:x≤9223372036854775807):IntKind.wrap .i64 x=x:=by
  unfold IntKind.wrap
  have e1:(2:Int) ^ IntKind.i64.bits=18446744073709551616:=by rfl
  have e2:(2:Int) ^ (IntKind.i64.bits - 1)=9223372036854775808:=by rfl
  have e3:IntKind.i64.signed=true:=by rfl
  simp only[e1,e2,e3,Bool.true_and,decide_eq_true_eq]
  split <;> omega
theorem CM {k:IntKind} {i:Int} (h:0≤i):asNat (.val (.int k i))=some i.toNat:=by simp[asNat,h]
end
theorem Di (v:Value):V.cells (.val v)=[.val v]:=id rfl
theorem uA (v:Value):aP (.val v)=true:=id rfl
theorem Dn (k:Nat):V.cells (.emp k)=[.emp k]:=id rfl
theorem Hw (k:Nat):aP (.emp k)=true:=id rfl
theorem Cq  : V.cells .dH=[.dH]:=id rfl
theorem Ib  : aP .dH=true:=id rfl
theorem CT (es:List (List V)):V.cells (.aY es)=[.aY es]:=id rfl
theorem Ht (es:List (List V)):aP (.aY es)=true:=id rfl
theorem Ee (a b c d:Nat):V.cells (.sl a b c d)=[.sl a b c d]:=id rfl
theorem K6 (a b c d:Nat):aP (.sl a b c d)=true:=id rfl
theorem CG (a b c:Nat):V.cells (.ptr a b c)=[.ptr a b c]:=id rfl
theorem HI (a b c:Nat):aP (.ptr a b c)=true:=id rfl
theorem AT (e:List V) (j:Nat):V.cells (.aT e j)=[.aT e j]:=id rfl
theorem EX (e:List V) (j:Nat):aP (.aT e j)=true:=id rfl
theorem Fj (a:Nat):V.cells (.mp a)=[.mp a]:=id rfl
theorem K3 (a:Nat):aP (.mp a)=true:=id rfl
theorem EP (f:FuncId) (a b:List V):V.cells (.fn f a b)=[.fn f a b]:=id rfl
theorem LM (f:FuncId) (a b:List V):aP (.fn f a b)=true:=id rfl
theorem DI (cs:List V):V.cells (.agg cs)=cs:=id rfl
theorem Hi (k:Nat):dS (.emp k)=some 0:=id rfl
theorem Hx:dS .dH=some 0:=id rfl
theorem Ha (es:List (List V)):dS (.aY es)=some es.length:=id rfl
theorem KD (a b c d:Nat):dS (.sl a b c d)=some c:=id rfl
abbrev P8 {p:Prop} (_:p):Prop:=p
abbrev Wr:Prop:=P8 (And.intro @NC <| And.intro @Hn <| And.intro @CS <| And.intro @Bu <| And.intro @Bg <| And.intro @HG <| And.intro @Es <| And.intro @LH <|
    And.intro @HA <| And.intro @FL <| And.intro @GH <| And.intro @JP <|
    And.intro @HO <| And.intro @HB <| And.intro @FZ <| And.intro @HW <|
    And.intro @Hg <| And.intro @E1 <| And.intro @zi <| And.intro @x9 <|
    And.intro @HY <| And.intro @FM <| And.intro @NB <| And.intro @Hk <|
    And.intro @Ki <| And.intro @Ho <| And.intro @Kn <| And.intro @Ld <|
    And.intro @FY <| And.intro @GC <| And.intro @F8 <| And.intro @FB <|
    And.intro @G0 <| And.intro @G9 <| And.intro @Ep <| And.intro @JW <|
    And.intro @GG <| And.intro @EW <| And.intro @KZ <| And.intro @Ly <|
    And.intro @HK <| And.intro @EH <| And.intro @NI <| And.intro @K2 <| And.intro @GS <|
    And.intro @JK <| And.intro @J6 <| And.intro @HX <| And.intro @Hz <|
    And.intro @Kp <| And.intro @LQ <| And.intro @GW <| And.intro @G2 <|
    And.intro @GQ <| And.intro @FG <| And.intro @C6 <| And.intro @FX <|
    And.intro @GX <| And.intro @JM <| And.intro @KR <| And.intro @Lk <| And.intro @EI <| And.intro @LF <| And.intro @JG <|
    And.intro @Hs <| And.intro @EY <| And.intro @Et <| And.intro @Ap <|
    And.intro @AU <| And.intro @AS <| And.intro @EB <| And.intro @GP <|
    And.intro @xi <| And.intro @C8 <| And.intro @Bm <| And.intro @HN <|
    And.intro @Ef <| And.intro @JE <| And.intro @HC <| And.intro @Cu @De)
theorem wr:Wr:=(And.intro @NC <| And.intro @Hn <| And.intro @CS <| And.intro @Bu <| And.intro @Bg <| And.intro @HG <| And.intro @Es <| And.intro @LH <|
    And.intro @HA <| And.intro @FL <| And.intro @GH <| And.intro @JP <|
    And.intro @HO <| And.intro @HB <| And.intro @FZ <| And.intro @HW <|
    And.intro @Hg <| And.intro @E1 <| And.intro @zi <| And.intro @x9 <|
    And.intro @HY <| And.intro @FM <| And.intro @NB <| And.intro @Hk <|
    And.intro @Ki <| And.intro @Ho <| And.intro @Kn <| And.intro @Ld <|
    And.intro @FY <| And.intro @GC <| And.intro @F8 <| And.intro @FB <|
    And.intro @G0 <| And.intro @G9 <| And.intro @Ep <| And.intro @JW <|
    And.intro @GG <| And.intro @EW <| And.intro @KZ <| And.intro @Ly <|
    And.intro @HK <| And.intro @EH <| And.intro @NI <| And.intro @K2 <| And.intro @GS <|
    And.intro @JK <| And.intro @J6 <| And.intro @HX <| And.intro @Hz <|
    And.intro @Kp <| And.intro @LQ <| And.intro @GW <| And.intro @G2 <|
    And.intro @GQ <| And.intro @FG <| And.intro @C6 <| And.intro @FX <|
    And.intro @GX <| And.intro @JM <| And.intro @KR <| And.intro @Lk <| And.intro @EI <| And.intro @LF <| And.intro @JG <|
    And.intro @Hs <| And.intro @EY <| And.intro @Et <| And.intro @Ap <|
    And.intro @AU <| And.intro @AS <| And.intro @EB <| And.intro @GP <|
    And.intro @xi <| And.intro @C8 <| And.intro @Bm <| And.intro @HN <|
    And.intro @Ef <| And.intro @JE <| And.intro @HC <| And.intro @Cu @De)
abbrev Wq:Prop:=P8 (And.intro @eq_self.{1} <| And.intro @ne_eq.{1} <| And.intro @implies_true.{1} <| And.intro @implies_true.{0} <| And.intro @decide_true <| And.intro @decide_false <| And.intro @Hv <| And.intro @GO <| And.intro @Fm <| And.intro @Gd <| And.intro @ET <| And.intro @Fu <| And.intro @GU <| And.intro @K9 <| And.intro @LG <| And.intro @KY <| And.intro @Hc <| And.intro @G7 <| And.intro @H8 <| And.intro @Di <| And.intro @uA <| And.intro @Dn <| And.intro @Hw <| And.intro @Cq <| And.intro @Ib <| And.intro @CT <| And.intro @Ht <| And.intro @Ee <| And.intro @K6 <| And.intro @CG <| And.intro @HI <| And.intro @AT <| And.intro @EX <| And.intro @Fj <| And.intro @K3 <| And.intro @EP <| And.intro @LM <| And.intro @DI <| And.intro @Hi <| And.intro @Hx <| And.intro @Ha <| And.intro @KD <| And.intro @true_or <| And.intro @or_true <| And.intro @or_false <| And.intro @false_or <|
    And.intro @P6 <| And.intro @Hr <| And.intro @HD <| And.intro @HQ <|
    And.intro @Hu <| And.intro @JQ <| And.intro @GN <| And.intro @Gc <|
    And.intro @KF <| And.intro @Kh <| And.intro @HL <| And.intro @HR <|
    And.intro @GR <| And.intro @G8 <| And.intro @Gb <| And.intro @F6 <|
    And.intro @Df <| And.intro @HH <| And.intro @List.getD_cons_zero.{0} <| And.intro @List.getD_cons_succ.{0} <|
    And.intro @List.length_cons.{0} <| And.intro @List.length_nil.{0} <| And.intro @List.length_map.{0,0} <| And.intro @wrap64 <|
    And.intro @true_and <| And.intro @and_true <| And.intro @and_self <| And.intro @decide_eq_true_eq <|
    And.intro @decide_eq_false_iff_not <| And.intro @List.all_cons.{0} <| And.intro @List.all_nil.{0} <| And.intro @Bool.and_self <|
    And.intro @List.nil_append.{0} <| And.intro @List.cons_append.{0} <| And.intro @Nat.zero_add <| And.intro @CM <|
    And.intro @Int.toNat_natCast <| And.intro @KM <| And.intro @Dl <| And.intro @bne_iff_ne.{0} <|
    And.intro @beq_iff_eq.{0} <| And.intro @Bool.not_eq_true <| And.intro @Bool.not_true <| And.intro @Bool.not_false <|
    And.intro @List.append_nil.{0} <| And.intro @List.map_cons.{0,0} <| And.intro @List.map_nil.{0,0} <| And.intro @Bool.true_eq_false <|
    And.intro @Bool.false_eq_true <| And.intro @false_implies <| And.intro @true_implies <| And.intro @Bool.not_not <|
    And.intro @List.drop_zero.{0} <| And.intro @EZ <| And.intro @List.set_cons_zero.{0} <| And.intro @List.set_cons_succ.{0} <|
    And.intro @List.drop_nil.{0} <| And.intro @Nat.add_zero <| And.intro @List.replicate_zero.{0} <| And.intro @List.replicate_succ.{0} <|
    And.intro @sY <| And.intro @sO <| And.intro @sL <| And.intro @rL <|
    And.intro @List.isEmpty_cons.{0} <| And.intro @Option.map_none.{0,0} <| And.intro @Option.map_some.{0,0} <| And.intro @Nat.succ_ne_zero <|
    And.intro @List.take_succ_cons.{0} <| And.intro @List.take_zero.{0} <| And.intro @List.drop_succ_cons.{0} <| And.intro @bne_eq_false_iff_eq.{0} <|
    And.intro @beq_eq_false_iff_ne.{0} <| And.intro @not_true_eq_false <| And.intro @not_false_eq_true @Decidable.not_not)
theorem wq:Wq:=(And.intro @eq_self.{1} <| And.intro @ne_eq.{1} <| And.intro @implies_true.{1} <| And.intro @implies_true.{0} <| And.intro @decide_true <| And.intro @decide_false <| And.intro @Hv <| And.intro @GO <| And.intro @Fm <| And.intro @Gd <| And.intro @ET <| And.intro @Fu <| And.intro @GU <| And.intro @K9 <| And.intro @LG <| And.intro @KY <| And.intro @Hc <| And.intro @G7 <| And.intro @H8 <| And.intro @Di <| And.intro @uA <| And.intro @Dn <| And.intro @Hw <| And.intro @Cq <| And.intro @Ib <| And.intro @CT <| And.intro @Ht <| And.intro @Ee <| And.intro @K6 <| And.intro @CG <| And.intro @HI <| And.intro @AT <| And.intro @EX <| And.intro @Fj <| And.intro @K3 <| And.intro @EP <| And.intro @LM <| And.intro @DI <| And.intro @Hi <| And.intro @Hx <| And.intro @Ha <| And.intro @KD <| And.intro @true_or <| And.intro @or_true <| And.intro @or_false <| And.intro @false_or <|
    And.intro @P6 <| And.intro @Hr <| And.intro @HD <| And.intro @HQ <|
    And.intro @Hu <| And.intro @JQ <| And.intro @GN <| And.intro @Gc <|
    And.intro @KF <| And.intro @Kh <| And.intro @HL <| And.intro @HR <|
    And.intro @GR <| And.intro @G8 <| And.intro @Gb <| And.intro @F6 <|
    And.intro @Df <| And.intro @HH <| And.intro @List.getD_cons_zero.{0} <| And.intro @List.getD_cons_succ.{0} <|
    And.intro @List.length_cons.{0} <| And.intro @List.length_nil.{0} <| And.intro @List.length_map.{0,0} <| And.intro @wrap64 <|
    And.intro @true_and <| And.intro @and_true <| And.intro @and_self <| And.intro @decide_eq_true_eq <|
    And.intro @decide_eq_false_iff_not <| And.intro @List.all_cons.{0} <| And.intro @List.all_nil.{0} <| And.intro @Bool.and_self <|
    And.intro @List.nil_append.{0} <| And.intro @List.cons_append.{0} <| And.intro @Nat.zero_add <| And.intro @CM <|
    And.intro @Int.toNat_natCast <| And.intro @KM <| And.intro @Dl <| And.intro @bne_iff_ne.{0} <|
    And.intro @beq_iff_eq.{0} <| And.intro @Bool.not_eq_true <| And.intro @Bool.not_true <| And.intro @Bool.not_false <|
    And.intro @List.append_nil.{0} <| And.intro @List.map_cons.{0,0} <| And.intro @List.map_nil.{0,0} <| And.intro @Bool.true_eq_false <|
    And.intro @Bool.false_eq_true <| And.intro @false_implies <| And.intro @true_implies <| And.intro @Bool.not_not <|
    And.intro @List.drop_zero.{0} <| And.intro @EZ <| And.intro @List.set_cons_zero.{0} <| And.intro @List.set_cons_succ.{0} <|
    And.intro @List.drop_nil.{0} <| And.intro @Nat.add_zero <| And.intro @List.replicate_zero.{0} <| And.intro @List.replicate_succ.{0} <|
    And.intro @sY <| And.intro @sO <| And.intro @sL <| And.intro @rL <|
    And.intro @List.isEmpty_cons.{0} <| And.intro @Option.map_none.{0,0} <| And.intro @Option.map_some.{0,0} <| And.intro @Nat.succ_ne_zero <|
    And.intro @List.take_succ_cons.{0} <| And.intro @List.take_zero.{0} <| And.intro @List.drop_succ_cons.{0} <| And.intro @bne_eq_false_iff_eq.{0} <|
    And.intro @beq_eq_false_iff_ne.{0} <| And.intro @not_true_eq_false <| And.intro @not_false_eq_true @Decidable.not_not)
end Gv
namespace Gv
open Go
inductive zL:V→Prop
  | val (v:Value):zL (.val v)
  | bt (cs:List V):(∀ i,i < cs.length→∃ v,cs.getD i .any=.val v)→zL (.bt cs)
theorem Mc {Z Z':Nat→Prop} {μ μ':Mu} {hp hp':Array Obj} {t:V} {x:Value} (hf:zL t) (h:aC Z μ hp t x):aC Z' μ' hp' t x:=by
  cases hf with
  | val=>cases h with | val _ hv=>exact .val _ hv
  | bt cs hc =>
    cases h with
    | bt _ aas h1 h2 =>
      refine .bt _ _ h1 fun i hi=>?_
      have:=h2 i hi
      obtain ⟨v,hv⟩:=hc i hi
      rw[hv] at this ⊢
      generalize aas.getD i undef=y at this ⊢
      cases this with | val _ hv=>exact .val _ hv
theorem ca.borrow {P:Program} {f:FuncId} {ts vs:List V} {t:V} {h:aG} (hc:aF P f ts t) (hf:zL t) (hl:ts.length=vs.length)
    (hfr:∀ i,i < vs.length→Fr h (vs.getD i .any) (ts.getD i .any)):ca P f vs h t h:=by
  refine ⟨Nat.le_refl _,fun Z μ F w xs hrel hr hfree=>?_⟩
  have hts:eo (fun b=>Z b∨g9 μ b) μ w.heap ts xs:=⟨by rw[hl,hrel.1],fun i hi=>Al hr (hfr i (by omega)) (hrel.2 i (by omega))⟩
  have hzl:∀ b,(Z b∨g9 μ b)→b < w.heap.size:=by
    rintro b (hb | ⟨id,o,s,hb⟩)
    · exact hr.cy b hb
    · exact hr.lt _ _ _ _ hb
  refine (hc _ μ w xs hts hzl).mono ?_
  rintro e w' ⟨x,Z',rfl,hv,hs,hz,hz',ho⟩
  have hm:fG Z Z μ μ w.heap w'.heap:=⟨fun _ h=>h,fun b hb=>ho b (hr.cy b hb) (fun x=>x),fun _ _ h=>h,ho.ph⟩
  exact ⟨x,Z,μ,rfl,Mc hf (hv μ),⟨fun id=>(hr.obj id).mono hm rfl (fun b o s hx=>ho b (hr.lt _ _ _ _ hx) (fun x=>x)),hr.inj,fun id b o s hx=>Nat.lt_of_lt_of_le (hr.lt _ _ _ _ hx) hs.size,fun b hb=>Nat.lt_of_lt_of_le (hr.cy b hb) hs.size,hr.gn⟩,
    ⟨hs,hm,fun b hb _=>ho b hb (fun x=>x),fun b hb=>.inl hb,fun _ _ _ _ h=>.inl h⟩,fun _ _=>rfl⟩
def dg (H:View) (v t:V):Prop:=∀ h:aG,h.view=H→Fr h v t
theorem dg.tree {H:View} {v:V} (h:Tree v):dg H v v:=fun _ _=>.tree _ h
theorem dg.sl {H:View} {id off len esz z:Nat} {es:List (List V)} (hH:H id=.arr z es) (hle:off+len≤es.length) (ht:∀ e∈es,∀ v∈e,Tree v) :
    dg H (.sl id off len esz) (.aY ((es.drop off).take len)):=by
  rintro h rfl
  have hg:∀ i,i < len→((es.drop off).take len).getD i []=es.getD (off+i) []:=fun i hi=>by
    simp[List.getD_eq_getElem?_getD,hi]
  refine .sl id off len esz z es _ hH hle (by simp; omega) (fun i hi=>by rw[hg i hi]) (fun i j hi hj=>?_)
  rw[hg i hi] at hj ⊢
  refine .tree _ ?_
  have h1:off+i < es.length:=by omega
  have e1:es.getD (off+i) []=es[off+i]:=by simp[List.getD_eq_getElem?_getD,h1]
  rw[e1] at hj ⊢
  have e2:(es[off+i]).getD j .any=(es[off+i])[j]:=by simp[List.getD_eq_getElem?_getD,hj]
  rw[e2]
  exact ht _ (List.getElem_mem _) _ (List.getElem_mem _)
theorem aB.borrow {P:Program} {q:Bool} {f:FuncId} {H:View} {vs ts:List V} {K:V→View→Prop} {v:cI (H,K)} {t:V} (hc:aF P f ts t) (hok:cW P f=true) (hf:zL t) (hl:ts.length=vs.length)
    (hfr:∀ i,i < vs.length→dg H (vs.getD i .any) (ts.getD i .any)) (hk:K t H):aB P q f vs H K v:=by
  unfold aB
  cases q with
  | true=>exact ⟨hok,fun h e=>⟨t,h,ca.borrow hc hf hl (fun i hi=>hfr i hi h e),fun _ _=>rfl,e ▸ hk⟩⟩
  | false =>
    refine ⟨hok,?_⟩
    rintro h rfl
    exact ⟨t,h,ca.borrow hc hf hl (fun i hi=>hfr i hi h rfl),.refl _,hk⟩
end Gv
set_option linter.unusedSimpArgs false
set_option maxRecDepth 100000
namespace Gv
open Go Go.Proofs
abbrev gi (x:Int):V:=.val (.int .i64 x)
abbrev gb (x:Bool):V:=.val (.bool x)
abbrev gs (x:ByteArray):V:=.val (.string x)
theorem mixed:(Tryz.prog).follows .mixedOrders=true:=by kernel_rfl
def encI (l:List Int):V:=.aY (l.map fun x=>[gi x])
def bE (l:List Bool):V:=.aY (l.map fun x=>[gb x])
theorem bX (l:List Int):Tree (encI l):=by
  refine .aY _ fun i j hi hj=>?_
  simp only[List.length_map] at hi
  simp[List.getD_eq_getElem?_getD,hi] at hj ⊢
  subst hj
  exact .val _
def aL {α:Type} (l:List α):Prop:=l.length < 4611686018427387904
def mD:SC :=
  .seq (.seq (ak [ae 11 5,ae 12 0,aQ 13 12,aR 14 .lss 11 13]) <|
  .cond (.tmp 14) (.skip) (.exit 0)) <|
  .seq (.block 1 (.seq (ak [ae 17 0,ae 18 5,aN 19 1 17 18,an 20 19,ae 21 1,ae 22 5,aN 23 1 21 22,an 24 23,aR 25 .neq 20 24]) <|
  .cond (.tmp 25) (.seq (ak [bg 4 false]) <|
  .ret) (.skip))) <|
  ak [ae 15 5,ay 16 .add 15 1,ae 5 16]
def pM:SF:=⟨.seq (ak [bg 4 false]) <|
  .seq (.seq (ak [ae 6 0,aQ 7 6,ae 8 1,aQ 9 8,aR 10 .neq 7 9]) <|
  .cond (.tmp 10) (.seq (ak [bg 4 false]) <|
  .ret) (.skip)) <|
  .seq (.seq (ak [aH 5 0]) <|
  .block 0 (.loop mD)) <|
  .seq (ak [bg 4 true]) <|
  .ret,
  [.tmp 4],26⟩
theorem uh:aU Tryz.prog 17 []=some pM:=by kernel_rfl
theorem By {α:Type} [BEq α] [LawfulBEq α] {a b:List α} (h:a.length≠b.length):(a == b)=false:=by
  simp only[beq_eq_false_iff_ne]; intro e; exact h (by rw[e])
theorem Oj (a b:List Int) (ha:aL a) (H:View):az Tryz.prog 17 [encI a,encI b] H fun r H'=>r=gb (a == b)∧H'=H:=by
  refine az.of mixed uh ?_
  unfold aL at ha
  simp (disch:=omega) only [↓wr,↓reduceIte,wq,ah,ag,aj,Nat.reduceEqDiff,Nat.reduceAdd,Nat.reduceLeDiff,reduceCtorEq,pM,encI]
  refine ar.ne (fun h=>?_) (fun h=>?_)
  · simp (disch:=omega) only [↓wr,↓reduceIte,wq,reduceCtorEq]
    rw[By (by omega)]
  · simp (disch:=omega) only [↓wr,wq]
    refine bb.intro (fun k T H'=>∃ i:Nat,i+k=a.length∧a.take i=b.take i∧T 0=encI a∧T 1=encI b∧T 5=gi i∧H'=H) a.length ?_ ?_
    · exact ⟨0,by omega,by simp,rfl,rfl,rfl,rfl⟩
    · rintro k T H' ⟨i,hk,hi,h0,h1,h5,rfl⟩
      simp (disch:=omega) only [↓wr,↓reduceIte,wq,ag,aj,Nat.reduceEqDiff,reduceCtorEq,mD,h0,h5,encI]
      refine ar.dec (fun hc=>?_) (fun hc=>?_)
      · have h2:a[i]?=some (a[i]'(by omega)):=List.getElem?_eq_getElem (by omega)
        have h3:b[i]?=some (b[i]'(by omega)):=List.getElem?_eq_getElem (by omega)
        simp (disch:=omega) only [↓wr,↓reduceIte,wq,ag,Nat.reduceEqDiff,Nat.reduceLT,reduceCtorEq,h0,h1,h5,encI,List.getElem?_map,h2,h3]
        refine ar.ne (fun hd=>?_) (fun hd=>?_)
        · simp (disch:=omega) only [↓wr,↓reduceIte,wq,ag,Nat.reduceEqDiff,reduceCtorEq]
          have:(a == b)=false:=by
            simp only[beq_eq_false_iff_ne]; rintro rfl; exact hd rfl
          rw[this]
        · simp (disch:=omega) only [↓wr,↓reduceIte,wq,ag,Nat.reduceEqDiff,reduceCtorEq,h0,h1,h5,encI]
          refine ⟨k - 1,by omega,i+1,by omega,?_,rfl⟩
          rw[List.take_add_one,List.take_add_one,hi,h2,h3,hd]
      · simp (disch:=omega) only [↓wr,↓reduceIte,wq,Nat.reduceEqDiff,reduceCtorEq]
        have:a=b:=by
          have e:i=a.length:=by omega
          rw[List.take_of_length_le (by omega),List.take_of_length_le (by omega)] at hi
          exact hi
        rw[this]; simp
theorem BF (a b:List Int) (ha:aL a):aF Tryz.prog 17 [encI a,encI b] (gb (a == b)) :=
  aF.of (by simp[bX]) ((Oj a b ha _).mono fun r H' h h' _=>by rw[h.1]; exact .tree _ (.val _))
theorem gO (l:List Bool):Tree (bE l):=by
  refine .aY _ fun i j hi hj=>?_
  simp only[List.length_map] at hi
  simp[List.getD_eq_getElem?_getD,hi] at hj ⊢
  subst hj
  exact .val _
end Gv
set_option linter.unusedSimpArgs false
set_option maxRecDepth 100000
namespace Gv
open Go Go.Proofs
structure Term where
  name:ByteArray
  level:Int
  assoc:Int
structure aO where
  left:Int
  right:List Int
  prec:Int
structure ao where
  ax:List Term
  au:List ByteArray
  rules:List aO
  start:Int
instance:Inhabited Term:=⟨⟨.empty,0,0⟩⟩
instance:Inhabited aO:=⟨⟨0,[],0⟩⟩
def cg (t:Term):List V:=[gs t.name,gi t.level,gi t.assoc]
def aJ (r:aO):List V:=[gi r.left,encI r.right,gi r.prec]
def encS (l:List ByteArray):V:=.aY (l.map fun s=>[gs s])
def al (g:ao):List V:=[.aY (g.ax.map cg),encS g.au,.aY (g.rules.map aJ),gi g.start]
theorem eU {α:Type} (l:List α) (f:α→List V) (h:∀ x∈l,∀ v∈f x,Tree v):Tree (.aY (l.map f)):=by
  refine .aY _ fun i j hi hj=>?_
  simp only[List.length_map] at hi
  have e:(l.map f).getD i []=f l[i]:=by simp[List.getD_eq_getElem?_getD,hi]
  rw[e] at hj ⊢
  have e2:(f l[i]).getD j .any=(f l[i])[j]:=by simp[List.getD_eq_getElem?_getD,hj]
  rw[e2]
  exact h _ (List.getElem_mem _) _ (List.getElem_mem _)
theorem ch (cs:List V) (h:∀ v∈cs,Tree v):Tree (.agg cs):=by
  refine .agg _ fun i hi=>?_
  have e2:cs.getD i .any=cs[i]:=by simp[List.getD_eq_getElem?_getD,hi]
  rw[e2]; exact h _ (List.getElem_mem _)
theorem yg (l:List ByteArray):Tree (encS l):=eU _ _ fun x _ v hv=>by simp at hv; subst hv; exact .val _
theorem rV (t:Term):∀ v∈cg t,Tree v:=by intro v hv; simp[cg] at hv; rcases hv with rfl | rfl | rfl <;> exact .val _
theorem eJ (r:aO):∀ v∈aJ r,Tree v:=by
  intro v hv; simp[aJ] at hv; rcases hv with rfl | rfl | rfl
  · exact .val _
  · exact bX _
  · exact .val _
theorem cE (g:ao):∀ v∈al g,Tree v:=by
  intro v hv; simp[al] at hv; rcases hv with rfl | rfl | rfl | rfl
  · exact eU _ _ fun x _=>rV x
  · exact yg _
  · exact eU _ _ fun x _=>eJ x
  · exact .val _
def bP (x:Int):Prop:=-9223372036854775808≤x∧x≤9223372036854775807
structure ao.Ok (g:ao):Prop where
  ax:aL g.ax
  au:aL g.au
  rules:aL g.rules
  start:bP g.start
  term:∀ t∈g.ax,bP t.level∧bP t.assoc
  ba:∀ r∈g.rules,bP r.left∧bP r.prec∧aL r.right∧∀ x∈r.right,bP x
def iu (g:ao) (s:Int):Bool:=if 0≤s then decide (s < g.ax.length) else decide (-1 - s < g.au.length)
def qu:SF:=⟨.seq (ak [cr 2 0,bg 4 false]) <|
  .seq (.seq (ak [ae 5 1,ay 6 .geq 5 0]) <|
  .cond (.tmp 6) (.seq (ak [ae 7 1,aq 8 0 2,an 9 8,aQ 10 9,aR 11 .lss 7 10,ae 4 11]) <|
  .ret) (.skip)) <|
  .seq (ak [ae 12 1,((some 13),.op (.arith .sub (.val (.val (.int .i64 (-1)))) (.tmp 12))),aq 14 1 2,an 15 14,aQ 16 15,aR 17 .lss 13 16,ae 4 17]) <|
  .ret,
  [.tmp 4],18⟩
theorem vK:aU Tryz.prog 143 [2]=some qu:=by kernel_rfl
theorem OW (g:ao) (s:Int) (hs:bP s) (H:View):az Tryz.prog 143 [.agg (al g),gi s] H fun r H'=>r=gb (iu g s)∧H'=H:=by
  refine az.of mixed vK ?_
  obtain ⟨h1,h2⟩:=hs
  simp (disch:=omega) only [↓wr,↓reduceIte,wq,ah,ag,Nat.reduceEqDiff,Nat.reduceAdd,Nat.reduceLeDiff,Int.reduceNeg,qu,al,encS]
  refine ar.dec (fun h=>?_) (fun h=>?_)
  · simp (disch:=omega) only [↓wr,↓reduceIte,wq,ag,aj,Nat.reduceEqDiff,Nat.reduceAdd,Nat.reduceLT,Int.reduceNeg,reduceCtorEq]
    simp[iu,show (0:Int)≤s from h]
  · simp (disch:=omega) only [↓wr,↓reduceIte,wq,ag,aj,Nat.reduceEqDiff,Nat.reduceAdd,Nat.reduceLT,Int.reduceNeg,reduceCtorEq]
    simp[iu,show ¬ (0:Int)≤s from h]
theorem O4 (g:ao) (s:Int) (hs:bP s):aF Tryz.prog 143 [.agg (al g),gi s] (gb (iu g s)) :=
  aF.of (by
    intro v hv; simp at hv
    rcases hv with rfl | rfl
    · exact ch _ (cE g)
    · exact .val _) ((OW g s hs _).mono fun r H' h h' _=>by rw[h.1]; exact .tree _ (.val _))
def jF (g:ao):Bool:=decide (40 < g.ax.length) || decide (40 < g.au.length) || decide (60 < g.rules.length) || g.rules.any fun r=>decide (20 < r.right.length)
def lD:SC :=
  .seq (.seq (ak [ae 20 3,aq 21 2 1,an 22 21,aQ 23 22,aR 24 .lss 20 23]) <|
  .cond (.tmp 24) (.skip) (.exit 0)) <|
  .seq (.block 1 (.seq (ak [aq 27 2 1,an 28 27,ae 29 3,aN 30 3 28 29,aq 31 1 30,an 32 31,aQ 33 32,ay 34 .gtr 33 20]) <|
  .cond (.tmp 34) (.seq (ak [bg 2 true]) <|
  .ret) (.skip))) <|
  ak [ae 25 3,ay 26 .add 25 1,ae 3 26]
def nB:SF:=⟨.seq (ak [cr 1 0,bg 2 false]) <|
  .seq (.seq (.region false [⟨none,[aq 4 0 1,an 5 4,aQ 6 5,ay 7 .gtr 6 40,ae 8 7]⟩,⟨(some (8,false)),[aq 9 1 1,an 10 9,aQ 11 10,ay 12 .gtr 11 40]⟩,⟨none,[bI 13 8 12,ae 14 13]⟩,⟨(some (14,false)),[aq 15 2 1,an 16 15,aQ 17 16,ay 18 .gtr 17 60]⟩,⟨none,[bI 19 14 18]⟩]) <|
  .cond (.tmp 19) (.seq (ak [bg 2 true]) <|
  .ret) (.skip)) <|
  .seq (.seq (ak [aH 3 0]) <|
  .block 0 (.loop lD)) <|
  .seq (ak [bg 2 false]) <|
  .ret,
  [.tmp 2],35⟩
theorem tw:aU Tryz.prog 12 [1]=some nB:=by kernel_rfl
theorem L6 (g:ao) (H:View):az Tryz.prog 12 [.agg (al g)] H fun r H'=>r=gb (jF g)∧H'=H:=by
  refine az.of mixed tw ?_
  simp (disch:=omega) only [↓wr,↓reduceIte,wq,ah,ag,aj,Nat.reduceEqDiff,Nat.reduceAdd,Nat.reduceLT,Nat.reduceLeDiff,nB,al,encS]
  refine ar.dec (fun h1=>?_) (fun h1=>?_)
  · simp (disch:=omega) only [↓wr,↓reduceIte,wq,Nat.reduceEqDiff,reduceCtorEq]
    simp[jF,show 40 < g.ax.length by omega]
  · simp (disch:=omega) only [↓wr,↓reduceIte,wq,ag,aj,Nat.reduceEqDiff,Nat.reduceAdd,Nat.reduceLT]
    refine ar.dec (fun h2=>?_) (fun h2=>?_)
    · simp (disch:=omega) only [↓wr,↓reduceIte,wq,Nat.reduceEqDiff,reduceCtorEq]
      simp[jF,show 40 < g.au.length by omega]
    · simp (disch:=omega) only [↓wr,↓reduceIte,wq,ag,aj,Nat.reduceEqDiff,Nat.reduceAdd,Nat.reduceLT]
      refine ar.dec (fun h3=>?_) (fun h3=>?_)
      · simp (disch:=omega) only [↓wr,↓reduceIte,wq,reduceCtorEq]
        simp[jF,show 60 < g.rules.length by omega]
      · simp (disch:=omega) only [↓wr,wq]
        refine bb.intro (fun k T H'=>∃ i:Nat,i+k=g.rules.length∧(∀ r∈g.rules.take i,¬ 20 < r.right.length)∧T 1=.aT (al g) 0∧T 3=gi i∧H'=H) g.rules.length ?_ ?_
        · exact ⟨0,by omega,by simp,rfl,rfl,rfl⟩
        · rintro k T H' ⟨i,hk,hi,e1,e3,rfl⟩
          simp (disch:=omega) only [↓wr,↓reduceIte,wq,ag,aj,Nat.reduceEqDiff,Nat.reduceAdd,Nat.reduceLT,reduceCtorEq,lD,e1,e3,al]
          refine ar.dec (fun hc=>?_) (fun hc=>?_)
          · have hg:g.rules[i]?=some (g.rules[i]'(by omega)):=List.getElem?_eq_getElem (by omega)
            simp (disch:=omega) only [↓wr,↓reduceIte,wq,ag,aj,Nat.reduceEqDiff,Nat.reduceAdd,Nat.reduceLT,e1,e3,al,aJ,encI,List.getElem?_map,hg]
            refine ar.dec (fun hd=>?_) (fun hd=>?_)
            · simp (disch:=omega) only [↓wr,↓reduceIte,wq,ag,Nat.reduceEqDiff,reduceCtorEq]
              have:g.rules.any (fun r=>decide (20 < r.right.length))=true:=by
                simp only[List.any_eq_true,decide_eq_true_eq]
                exact ⟨g.rules[i]'(by omega),List.getElem_mem _,by omega⟩
              simp[jF,this]
            · simp (disch:=omega) only [↓wr,↓reduceIte,wq,ag,Nat.reduceEqDiff,reduceCtorEq,e1,e3]
              refine ⟨k - 1,by omega,i+1,by omega,?_,rfl,rfl⟩
              intro r hr
              rw[List.take_add_one,hg] at hr
              simp only[Option.toList_some,List.mem_append,List.mem_singleton] at hr
              rcases hr with hr | rfl
              · exact hi r hr
              · omega
          · simp (disch:=omega) only [↓wr,↓reduceIte,wq,Nat.reduceEqDiff,reduceCtorEq]
            have e:i=g.rules.length:=by omega
            rw[List.take_of_length_le (by omega)] at hi
            have:g.rules.any (fun r=>decide (20 < r.right.length))=false:=by
              simp only[List.any_eq_false,decide_eq_true_eq]; exact hi
            simp only[jF,this]
            simp; omega
end Gv
