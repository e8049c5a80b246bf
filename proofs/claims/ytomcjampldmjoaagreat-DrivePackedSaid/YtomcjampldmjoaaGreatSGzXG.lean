/-
  Part 7 of the proof: what the machine does and what the functions answer.
  Conditions: those that each lemma names.
-/
import Derived.Test.YtomcjampldmjoaaGreatSGzXF
set_option linter.unusedSimpArgs false
set_option linter.unusedVariables false
set_option maxRecDepth 100000
namespace Gv
open Go Go.Proofs
section
variable {P:Program} {n:Nat} {all:List Oper}
def fR (h:aH) (e:ES):Prop:=e.V=h.view∧e.n=h.length
def Calm (e e':ES) (h h':aH):Prop:=h.length≤h'.length∧(∀ id,id < h.length→¬ id∈e'.w→h'.view id=h.view id∧¬ id∈e.w)
theorem Calm.trans {a b c:ES} {h1 h2 h3:aH} (x:Calm a b h1 h2) (y:Calm b c h2 h3):Calm a c h1 h3 :=
  ⟨Nat.le_trans x.1 y.1,fun id hid hw =>
    let ⟨e1,d1⟩:=y.2 id (Nat.lt_of_lt_of_le hid x.1) hw
    let ⟨e2,d2⟩:=x.2 id hid d1
    ⟨e1.trans e2,d2⟩⟩
theorem Calm.refl (e:ES) (h:aH):Calm e e h h:=⟨Nat.le_refl _,fun _ _ hw=>⟨rfl,hw⟩⟩
def iJ (P:Program) (call:fE):Prop:=∀ g vs e v e' h,call g vs e=some (v,e')→fR h e →
  cA P g=true∧∃ h',bW P g vs h v h'∧fR h' e'∧(∀ id,id < h.length→¬ id∈e'.w→h'.view id=h.view id)∧∀ id,id∈e'.w→id < h.length
def vD (P:Program) (run:w5):Prop:=∀ (n:Nat) (fz:List Nat) (c:Code) (sc:DC),gw P n fz c=some sc→n≤8000→∀ (e e':ES) (r:Exit) (h:aH),run sc e=some (r,e')→fR h e →
  ∃ h',bV P n c e.T h r e'.T h'∧fR h' e'∧Calm e e' h h'∧∀ c0,c=.loop c0→nH P n c0 e.T h r e'.T h'
theorem LP {h:aH} {e:ES} {d:Option Nat} {v:V} (he:fR h e):fR h (e.put d v):=by cases d <;> exact he
theorem NW {e:ES} {d:Option Nat} {v:V} : (e.put d v).w=e.w:=by cases d <;> rfl
theorem MT {h:aH} {e e':ES} {h':aH} {d:Option Nat} {v:V} (x:Calm e e' h h'):Calm e (e'.put d v) h h':=⟨x.1,fun id hid hw=>x.2 id hid (by rw[NW] at hw; exact hw)⟩
theorem Bp {a:Nat} (h:Nat.ble a 8000=true):a+1 < 2 ^ 13:=by
  have:=Nat.le_of_ble_eq_true h
  omega
theorem OT {h:aH} {e e':ES} {v v':V} {aE:bd} {rd:List Nat} {c:Rec} (he:fR h e) (hx:Fe v aE rd e=some (v',e',c)) :
    v'=v∧e'.T=e.T∧e'.V=aE.view h.view h.length∧e'.n=(aE.apply h).length∧c=⟨rd,aE.wr,false,h.length,(aE.apply h).length⟩∧e'.w=aE.wr ++ e.w:=by
  obtain ⟨h1,h2⟩:=he
  unfold Fe at hx
  cases aE with
  | none =>
    simp only[Option.some.injEq,Prod.mk.injEq] at hx
    obtain ⟨rfl,rfl,rfl⟩:=hx
    exact ⟨rfl,rfl,h1,h2,by rw[h2]; rfl,rfl⟩
  | new o =>
    simp only at hx
    split at hx
    · rename_i hb
      simp only[Option.some.injEq,Prod.mk.injEq] at hx
      obtain ⟨rfl,rfl,rfl⟩:=hx
      refine ⟨rfl,rfl,?_,by simp[eS,h2],by simp[eS,h2,bd.wr],rfl⟩
      funext k
      simp only[ES.V,bd.view,View.set]
      rw[bP.kG _ _ _ _ _ _ (Bp hb),h2]
      have:=congrFun h1 k
      simp only[ES.V] at this
      rw[this]
    · simp at hx
  | eW id o =>
    simp only at hx
    split at hx
    · rename_i hb
      simp only[Option.some.injEq,Prod.mk.injEq] at hx
      obtain ⟨rfl,rfl,rfl⟩:=hx
      refine ⟨rfl,rfl,?_,by simp[eS,h2],by simp[eS,h2,bd.wr],rfl⟩
      funext k
      simp only[ES.V,bd.view,View.set]
      rw[bP.kG _ _ _ _ _ _ (Bp hb)]
      have:=congrFun h1 k
      simp only[ES.V] at this
      rw[this]
    · simp at hx
  | aX id o =>
    simp only at hx
    split at hx
    · rename_i hb1 hb2
      simp only[Option.some.injEq,Prod.mk.injEq] at hx
      obtain ⟨rfl,rfl,rfl⟩:=hx
      refine ⟨rfl,rfl,?_,by simp[eS,h2],by simp[eS,h2,bd.wr],rfl⟩
      funext k
      simp only[ES.V,bd.view,View.set]
      rw[bP.kG _ _ _ _ _ _ (Bp hb1),bP.kG _ _ _ _ _ _ (Bp hb2),h2]
      have:=congrFun h1 k
      simp only[ES.V] at this
      rw[this]
    · simp at hx
theorem PX {o:Oper} {e e':ES} {h:aH} {s:SI} {v:V} {c:Rec} (hg:cy n all e.T o=some true) (hc:∀ v aE rd,sI P s e.T h.view h.length=some (v,aE,rd)→bK P o e.T h.view h.length=some (v,aE,rd))
    (he:fR h e) (hx:J2 P s e=some (v,e',c)):∃ h',cH P n all o e.T h v h' c.rd c.wr c.call∧fR h' e'∧e'.T=e.T∧Calm e e' h h'∧iM (rP P s) c.rd c.wr c.call h.length h'.length∧c.lo=h.length∧c.hi=h'.length:=by
  unfold J2 at hx
  rw[It,he.1,he.2] at hx
  split at hx
  · rename_i v0 aE rd hs
    obtain ⟨rfl,g1,g2,g3,rfl,g5⟩:=OT he hx
    have ha:=hc _ _ _ hs
    have st:=cH.op (P:=P) (n:=n) (all:=all) hg ha
    refine ⟨aE.apply h,st,⟨?_,g3⟩,g1,⟨rS st,fun id hid hw=>?_⟩,⟨fun h0=>?_,fun h1=>?_⟩,rfl,rfl⟩
    · rw[jd (fun id hid=>(kf ha id hid).1)]; exact g2
    · rw[g5] at hw
      simp only[List.mem_append,not_or] at hw
      exact ⟨pV st hid hw.1,hw.2⟩
    · obtain ⟨rfl,rfl⟩:=(ql hs).1 h0
      exact ⟨rfl,rfl,rfl,rfl⟩
    · rcases Nat.lt_or_ge (rP P s) 1 with h2 | h2
      · obtain ⟨rfl,rfl⟩:=(ql hs).1 (by omega); rfl
      · exact (ql hs).2 (by omega)
  · simp at hx
theorem P6 {call:fE} (hcall:iJ P call) {fz:Fz} {o:Oper} {e e':ES} {h:aH} {v:V} {c:Rec} (hg:cy n all e.T o=some true) (he:fR h e) (hx:eB P call (lQ P fz o) e=some (v,e',c)) :
    ∃ h',cH P n all o e.T h v h' c.rd c.wr c.call∧fR h' e'∧e'.T=e.T∧Calm e e' h h'∧iM (gp P false (lQ P fz o)) c.rd c.wr c.call h.length h'.length∧c.lo=h.length∧c.hi=h'.length:=by
  rcases zA P fz o with ⟨f,args,ats,ho,hc⟩ | ⟨t,x,ho,hc⟩ | ⟨s,d,x,ho,hcv,hc⟩ | hc
  · rw[hc] at hx ⊢
    simp only[eB,Kx] at hx
    split at hx
    · rename_i g first cap hf
      rw[FI] at hx
      rw[SX.bS] at hf
      split at hx
      · rename_i v0 e0 hv
        obtain ⟨hok,h',hr,hek,hd,hd2⟩:=hcall _ _ _ _ _ _ hv he
        simp only[Option.some.injEq,Prod.mk.injEq] at hx
        obtain ⟨rfl,rfl,rfl⟩:=hx
        exact ⟨h',.call hg ho hf hok hr hd hd2,hek,rfl,⟨hr.1,fun id hid hw=>by
          simp only[List.mem_append,not_or] at hw
          exact ⟨hd id hid hw.1,hw.2⟩⟩,NB (by simp[gp]),he.2,hek.2⟩
      · simp at hx
    · simp at hx
  · rw[hc] at hx ⊢
    simp only[eB,J2,It,sI,SX.bS] at hx
    split at hx
    · rename_i v0 aE rd hs
      split at hs
      · rename_i hok
        simp only[Option.some.injEq,Prod.mk.injEq] at hs
        obtain ⟨rfl,rfl,rfl⟩:=hs
        simp only[Fe,Option.some.injEq,Prod.mk.injEq] at hx
        obtain ⟨rfl,rfl,rfl⟩:=hx
        exact ⟨h,.gC hg ho hok,he,rfl,Calm.refl _ _,⟨fun _=>⟨rfl,rfl,rfl,rfl⟩,fun _=>rfl⟩,he.2,he.2⟩
      · simp at hs
    · simp at hx
  · rw[hc] at hx ⊢
    obtain ⟨ty,h1,h2,h3⟩:=zx hcv
    simp only[eB,J2,It,sI,SX.bS] at hx
    split at hx
    · rename_i v0 aE rd hs
      split at hs
      · rename_i st hst
        simp only[Option.some.injEq,Prod.mk.injEq] at hs
        obtain ⟨rfl,rfl,rfl⟩:=hs
        simp only[Fe,Option.some.injEq,Prod.mk.injEq] at hx
        obtain ⟨rfl,rfl,rfl⟩:=hx
        exact ⟨h,.eA hg ho h1 h2 h3 hst,he,rfl,Calm.refl _ _,⟨fun _=>⟨rfl,rfl,rfl,rfl⟩,fun _=>rfl⟩,he.2,he.2⟩
      · simp at hs
    · simp at hx
  · rw[hc] at hx ⊢
    exact PX (s:=yf P fz.fr (comp P o)) hg (fun v aE rd hs=>G5 (Ih hs)) he hx
theorem Pg {o:Oper} (hd:pO n o=true) (hn:n≤8000):∀ t,o.dst=some t→t < 8000:=by
  intro t ht
  unfold pO at hd
  rw[ht] at hd
  have:t < n:=by simpa using hd
  exact Nat.lt_of_lt_of_le this hn
theorem Of {c:Rec} {a b:Nat} (h1:c.lo=a) (h2:c.hi=b):c=⟨c.rd,c.wr,c.call,a,b⟩:=by cases c; subst h1; subst h2; rfl
theorem Fa {call:fE} (hcall:iJ P call) (hn:n≤8000) {fz:Fz} (g:Option (Nat × Bool)):∀ (l:List (Option Nat × SB)) (os:List Oper) (e e':ES) (h:aH) (a a':List Rec),
    cD P n all fz os=some (l.map fun (d,b)=>⟨d,g,b⟩)→(∀ d w,g=some (d,w)→e.T d=.val (.bool w)∧(l.all fun x=>x.1 != some d)=true)→fR h e→G2 P call l a e=some (e',a') →
    ∃ recs h',a'=a ++ recs∧Tr P n all os e.T h recs e'.T h'∧fR h' e'∧Calm e e' h h'∧ey P false (l.map fun (d,b)=>⟨d,g,b⟩) recs
  | [],os,e,e',h,a,a',hc,hg,he,hx=>by
    have:=jf hc; subst this
    simp only[G2,Option.some.injEq,Prod.mk.injEq] at hx; obtain ⟨rfl,rfl⟩:=hx
    exact ⟨[],h,by simp,.nil,he,Calm.refl _ _,.nil⟩
  | (d,b) :: l,os,e,e',h,a,a',hc,hg,he,hx=>by
    obtain ⟨o,r,rfl,h1,h2⟩:=jL hc
    obtain ⟨hd,hd1,hb1,hg1⟩:=rM h1
    simp only at hd1 hb1 hg1
    have hgv:cy n all e.T o=some true:=by
      cases g with
      | none=>exact BG hg1
      | some p =>
        obtain ⟨d',w⟩:=p
        have:=(ju (T:=e.T) hg1).1 w (hg d' w rfl).1
        rw[this]; simp
    simp only[G2] at hx
    rw[hb1] at hx
    split at hx
    · rename_i v e1 c hv
      obtain ⟨h1',st,he1,hT1,hcm,hl,hlo,hhi⟩:=P6 hcall hgv he hv
      have hput:(e1.put d v).T=e.T.put o.dst v:=by
        rw[ES.NO (by rw[hd1]; exact Pg hd hn),hT1,hd1]
      obtain ⟨recs,h'',ha,tr,he2,hcm2,hro⟩:=Fa hcall hn g l r (e1.put d v) e' h1' _ a' h2 (fun d' w eq=>by
        have:=hg d' w eq
        simp only[List.all_cons,Bool.and_eq_true,bne_iff_ne,ne_eq] at this
        refine ⟨?_,this.2.2⟩
        rw[← this.1,hput,← hd1]
        cases d with
        | none=>rfl
        | some t=>simp only[Env.put]; rw[if_neg]; intro e; subst e; exact this.2.1 rfl) (LP he1) hx
      rw[hput] at tr
      refine ⟨_,h'',?_,.cons st hd tr,he2,(MT hcm).trans hcm2,hro.cons (by rw[hb1]; exact hl)⟩
      rw[ha,List.append_assoc,← Of hlo hhi]; rfl
    · simp at hx
theorem EB {fz:Fz} (hn:n≤8000) (d:Nat) (w:Bool) (h:aH):∀ (l:List (Option Nat × SB)) (os:List Oper) (e e':ES) (a a':List Rec),
    cD P n all fz os=some (l.map fun (d',b)=>⟨d',some (d,w),b⟩)→(e.T d=.val (.bool !w)∨e.T d=.bf [])→(l.all fun x=>x.1 != some d)=true→fR h e→wa l a e=(e',a') →
    ∃ recs,a'=a ++ recs∧Tr P n all os e.T h recs e'.T h∧fR h e'∧e'.w=e.w∧ey P false (l.map fun (d',b)=>⟨d',some (d,w),b⟩) recs
  | [],os,e,e',a,a',hc,hd,hl,he,hx=>by
    have:=jf hc; subst this
    simp only[wa,Prod.mk.injEq] at hx; obtain ⟨rfl,rfl⟩:=hx
    exact ⟨[],by simp,.nil,he,rfl,.nil⟩
  | (d',b) :: l,os,e,e',a,a',hc,hd,hl,he,hx=>by
    obtain ⟨o,r,rfl,h1,h2⟩:=jL hc
    obtain ⟨hd0,hd1,hb1,hg1⟩:=rM h1
    simp only at hd1 hb1 hg1
    have hgv:cy n all e.T o=some false:=by
      rcases hd with hd | hd
      · rw[(ju (T:=e.T) hg1).1 _ hd]; cases w <;> rfl
      · exact (ju (T:=e.T) hg1).2 hd
    simp only[List.all_cons,Bool.and_eq_true,bne_iff_ne,ne_eq] at hl
    have hput:(e.put d' (.bf [])).T=e.T.put o.dst (.bf []):=by
      rw[ES.NO (by rw[hd1]; exact Pg hd0 hn),hd1]
    simp only[wa] at hx
    obtain ⟨recs,ha,tr,he2,hd2,hro⟩:=EB hn d w h l r (e.put d' (.bf [])) e' _ a' h2 (by
      have:(e.put d' (.bf [])).T d=e.T d:=by
        rw[hput,← hd1]
        cases d' with
        | none=>rfl
        | some t=>simp only[Env.put]; rw[if_neg]; intro e; subst e; exact hl.1 rfl
      rw[this]; exact hd) hl.2 (LP he) hx
    rw[hput] at tr
    refine ⟨_,?_,Tr.cons (.skip hgv) hd0 tr,he2,by rw[hd2,NW],hro.cons (r:=⟨[],[],false,h.length,h.length⟩) ⟨fun _=>⟨rfl,rfl,rfl,rfl⟩,fun _=>rfl⟩⟩
    rw[ha,List.append_assoc,NM,he.2]; rfl
theorem CK {fz:Fz} (hn:n≤8000) {d:Nat} {w:Bool} {h:aH} {l:List (Option Nat × SB)} {os:List Oper} {e e':ES} {a a':List Rec}
    (hc:cD P n all fz os=some (l.map fun (d',b)=>⟨d',some (d,w),b⟩)) (hd:e.T d=.val (.bool !w)∨e.T d=.bf []) (hl:(l.all fun x=>x.1 != some d)=true) (he:fR h e) (hx:wa l a e=(e',a')) :
    ∃ recs h',a'=a ++ recs∧Tr P n all os e.T h recs e'.T h'∧fR h' e'∧Calm e e' h h'∧ey P false (l.map fun (d',b)=>⟨d',some (d,w),b⟩) recs:=by
  obtain ⟨recs,h1,h2,h3,h4,h5⟩:=EB hn d w h l os e e' a a' hc hd hl he hx
  exact ⟨recs,h,h1,h2,h3,⟨Nat.le_refl _,fun id _ hw=>⟨rfl,by rw[h4] at hw; exact hw⟩⟩,h5⟩
theorem Ql {call:fE} (hcall:iJ P call) (hn:n≤8000) {fz:Fz} {g:SG} {os:List Oper} {e e':ES} {h:aH} {a a':List Rec} (hc:cD P n all fz os=some g.flat) (hok:r6 g=true) (he:fR h e) (hx:eG P call g a e=some (e',a')) :
    ∃ recs h',a'=a ++ recs∧Tr P n all os e.T h recs e'.T h'∧fR h' e'∧Calm e e' h h'∧ey P false g.flat recs:=by
  unfold eG at hx
  unfold SG.flat at hc ⊢
  unfold r6 at hok
  split at hx
  · rename_i hg
    rw[hg] at hc ⊢
    exact Fa hcall hn none g.ops os e e' h a a' hc (fun d w e=>by simp at e) he hx
  · rename_i d want hg
    rw[hg] at hc hok ⊢
    simp only at hok
    unfold LA at hx
    split at hx
    · rename_i b hb
      split at hx
      · rename_i hxor
        simp only[Option.some.injEq] at hx
        have e':b = !want:=by cases b <;> cases want <;> simp_all
        subst e'
        exact CK hn hc (.inl hb) hok he hx
      · rename_i hxor
        have e':b=want:=by cases b <;> cases want <;> simp_all
        subst e'
        exact Fa hcall hn (some (d,b)) g.ops os e _ h a a' hc (fun d' w e=>by simp at e; obtain ⟨rfl,rfl⟩:=e; exact ⟨hb,hok⟩) he hx
    · rename_i hb
      simp only[Option.some.injEq] at hx
      exact CK hn hc (.inr hb) hok he hx
    · simp at hx
theorem K8 {call:fE} (hcall:iJ P call) (hn:n≤8000) {fz:Fz} : ∀ (gs:List SG) (os:List Oper) (e e':ES) (h:aH) (a a':List Rec),cD P n all fz os=some (iy gs)→gs.all r6=true→fR h e→LV P call gs a e=some (e',a') →
    ∃ recs h',a'=a ++ recs∧Tr P n all os e.T h recs e'.T h'∧fR h' e'∧Calm e e' h h'∧ey P false (iy gs) recs
  | [],os,e,e',h,a,a',hc,_,he,hx=>by
    have:=jf hc; subst this
    simp only[LV,Option.some.injEq,Prod.mk.injEq] at hx; obtain ⟨rfl,rfl⟩:=hx
    exact ⟨[],h,by simp,.nil,he,Calm.refl _ _,.nil⟩
  | g :: gs,os,e,e',h,a,a',hc,hok,he,hx=>by
    simp only[iy,List.map_cons,List.flatten_cons] at hc ⊢
    simp only[List.all_cons,Bool.and_eq_true] at hok
    obtain ⟨o1,o2,rfl,h1,h2⟩:=pk hc
    simp only[LV] at hx
    split at hx
    · rename_i e1 a1 hx1
      obtain ⟨r1,h1',ha1,tr1,he1,hc1,ro1⟩:=Ql hcall hn h1 hok.1 he hx1
      obtain ⟨r2,h2',ha2,tr2,he2,hc2,ro2⟩:=K8 hcall hn gs o2 e1 e' h1' a1 a' h2 hok.2 he1 hx
      exact ⟨_,h2',by rw[ha2,ha1,List.append_assoc],tr1.append tr2,he2,hc1.trans hc2,ro1.append ro2⟩
    · simp at hx
theorem Kq {ls:List Nat} {i k x y:Nat} (hik:i < k) (hx:ls[i]?=some x) (hy:ls[k]?=some y) (ho:ordered (dW all []) i k=false) (h:¬ (x=0∨y=0∨(x≤1∧y≤1))):(i,k)∈BC all ls:=by
  unfold BC
  simp only[List.mem_flatten,List.mem_map]
  refine ⟨_,⟨(x,i),by rw[List.mem_zipIdx_iff_getElem?]; exact hx,rfl⟩,?_⟩
  simp only[List.mem_map,List.mem_filter]
  refine ⟨(y,k),⟨by rw[List.mem_zipIdx_iff_getElem?]; exact hy,?_⟩,rfl⟩
  simp only[hik,decide_true,ho,Bool.false_or,Bool.true_and,Bool.not_eq_true',Bool.or_eq_false_iff,beq_eq_false_iff_ne,Bool.and_eq_false_iff,decide_eq_false_iff_not]
  omega
theorem Nm {ls:List Nat} {recs:List Rec} (h:Ki recs (BC all ls)=true) (hl:ls.length=recs.length) (hr:∀ (i x:Nat) (r:Rec),ls[i]?=some x→recs[i]?=some r→iM x r.rd r.wr r.call r.lo r.hi):sT all recs:=by
  intro i k a b hik ha hb ho
  have hi:i < recs.length:=(List.getElem?_eq_some_iff.1 ha).1
  have hk:k < recs.length:=(List.getElem?_eq_some_iff.1 hb).1
  have hx:ls[i]?=some (ls[i]'(by omega)):=List.getElem?_eq_getElem (by omega)
  have hy:ls[k]?=some (ls[k]'(by omega)):=List.getElem?_eq_getElem (by omega)
  generalize ls[i]'(by omega)=x at hx
  generalize ls[k]'(by omega)=y at hy
  have la:=hr i _ a hx ha
  have lb:=hr k _ b hy hb
  by_cases hc:x=0∨y=0∨(x≤1∧y≤1)
  · rcases hc with h1 | h1 | h1
    · obtain ⟨e1,e2,e3,e4⟩:=la.1 h1
      exact ⟨fun id hid=>by simp[e2] at hid,fun id _=>by simp[e1],fun hc=>by simp[e3] at hc,fun _=>e2,fun id _ hx=>by omega⟩
    · obtain ⟨e1,e2,e3,e4⟩:=lb.1 h1
      exact ⟨fun id _=>by simp[e1],fun id hid=>by simp[e2] at hid,fun _=>e2,fun hc=>by simp[e3] at hc,fun id hid=>by simp[e2] at hid⟩
    · have e1:=la.2 h1.1
      have e2:=lb.2 h1.2
      exact ⟨fun id hid=>by simp[e1] at hid,fun id hid=>by simp[e2] at hid,fun _=>e2,fun _=>e1,fun id hid=>by simp[e2] at hid⟩
  · have:=List.all_eq_true.1 h _ (Kq hik hx hy ho hc)
    simp only[ha,hb] at this
    exact LL this
theorem Oe (hm:P.follows .mixedOrders=true) {call:fE} (hcall:iJ P call) (hn:n≤8000) {fz:List Nat} {id:Nat} {ops:Array Oper} {draw:Bool} {sc:DC} {run:w5} {e e':ES} {r:Exit} {h:aH}
    (hc:EO P n fz ops.toList draw=some sc) (he:fR h e) (hx:j0 P call run sc e=some (r,e')) :
    ∃ h',bV P n (.region id ops draw) e.T h r e'.T h'∧fR h' e'∧Calm e e' h h':=by
  unfold EO at hc
  split at hc
  · simp at hc
  · rename_i l hl
    split at hc
    · simp at hc
    · rename_i hok
      have hok:(group l).all r6=true:=by simpa using hok
      have hl':cD P n ops.toList ⟨fz,false⟩ ops.toList=some (iy (group l)):=by rw[eN]; exact hl
      have key:∀ ps,j0 P call run (.region ps (group l)) e=some (r,e')→(draw=true→jT ops.toList=true∧ps=BC ops.toList (l.map fun s=>gp P false s.b)) →
          ∃ h',bV P n (.region id ops draw) e.T h r e'.T h'∧fR h' e'∧Calm e e' h h':=by
        intro ps hx hdr
        simp only[j0,Iq] at hx
        split at hx
        · rename_i e1 recs0 hx1
          split at hx
          · rename_i hchk
            simp only[Option.some.injEq,Prod.mk.injEq] at hx
            obtain ⟨rfl,rfl⟩:=hx
            obtain ⟨recs,h',ha,tr,hk,hcm,hro⟩:=K8 hcall hn (group l) ops.toList e e1 h [] recs0 hl' hok he hx1
            simp only[List.nil_append] at ha
            subst ha
            rw[eN] at hro
            refine ⟨h',?_,hk,hcm⟩
            cases hd:draw with
            | false=>simpa using Ei (id:=id) tr
            | true =>
              obtain ⟨h1,rfl⟩:=hdr hd
              have hcf:sT ops.toList recs0:=Nm hchk (by simpa using hro.1) (fun i x r hx hr=>by
                simp only[List.getElem?_map,Option.map_eq_some_iff] at hx
                obtain ⟨s,hs,rfl⟩:=hx
                exact hro.2 i s r hs hr)
              simpa using yg hm (id:=id) tr h1 hcf
          · simp at hx
        · simp at hx
      split at hc
      · rename_i hd
        split at hc
        · rename_i ht
          simp at hc; subst hc
          exact key _ hx (fun _=>⟨ht,rfl⟩)
        · simp at hc
      · rename_i hd
        simp at hc; subst hc
        exact key _ hx (fun e=>absurd e hd)
theorem Mg (hm:P.follows .mixedOrders=true) {call:fE} (hcall:iJ P call) {run:w5} (hrun:vD P run):vD P (j0 P call run):=by
  intro n fz c sc hc hn e e' r h hx he
  cases c with
  | skip =>
    simp[gw] at hc; subst hc
    simp only[j0,Ks,Option.some.injEq,Prod.mk.injEq] at hx
    obtain ⟨rfl,rfl⟩:=hx
    exact ⟨h,.skip,he,Calm.refl _ _,fun _ h=>by simp at h⟩
  | region id ops draw =>
    obtain ⟨h',a,b,d⟩:=Oe (id:=id) hm hcall hn hc he hx
    exact ⟨h',a,b,d,fun _ h=>by simp at h⟩
  | seq x y =>
    simp only[gw] at hc
    split at hc
    · rename_i a b h1 h2
      simp at hc; subst hc
      simp only[j0,PE] at hx
      split at hx
      · rename_i e1 hx1
        obtain ⟨h1',x1,he1,c1,l1⟩:=hrun n fz x a h1 hn e e1 .normal h hx1 he
        obtain ⟨h2',x2,he2,c2,l2⟩:=hrun n fz y b h2 hn e1 e' r h1' hx he1
        exact ⟨h2',x1.seq x2,he2,c1.trans c2,fun _ h=>by simp at h⟩
      · rename_i hne
        obtain ⟨h1',x1,he1,c1,l1⟩:=hrun n fz x a h1 hn e e' r h hx he
        refine ⟨h1',x1.G6 (fun e=>?_),he1,c1,fun _ h=>by simp at h⟩
        subst e
        exact absurd hx (hne e')
    · simp at hc
  | cond cc x y =>
    simp only[gw] at hc
    split at hc
    · rename_i a b h1 h2
      simp at hc; subst hc
      simp only[j0,Nr,SX.bS] at hx
      split at hx
      · rename_i ht
        obtain ⟨h1',x1,he1,c1,l1⟩:=hrun n fz x a h1 hn e e' r h hx he
        exact ⟨h1',.cond ht x1,he1,c1,fun _ h=>by simp at h⟩
      · rename_i ht
        obtain ⟨h1',x1,he1,c1,l1⟩:=hrun n fz y b h2 hn e e' r h hx he
        exact ⟨h1',.cond ht x1,he1,c1,fun _ h=>by simp at h⟩
      · simp at hx
    · simp at hc
  | block id c =>
    simp only[gw,Option.map_eq_some_iff] at hc
    obtain ⟨a,h1,rfl⟩:=hc
    simp only[j0,KV] at hx
    split at hx
    · rename_i r1 e1 hx1
      simp only[Option.some.injEq,Prod.mk.injEq] at hx
      obtain ⟨rfl,rfl⟩:=hx
      obtain ⟨h1',x1,he1,c1,l1⟩:=hrun n fz c a h1 hn e e1 r1 h hx1 he
      exact ⟨h1',x1.block,he1,c1,fun _ h=>by simp at h⟩
    · simp at hx
  | loop c =>
    have hc0:=hc
    simp only[gw,Option.map_eq_some_iff] at hc
    obtain ⟨a,h1,rfl⟩:=hc
    simp only[j0,Nq] at hx
    split at hx
    · rename_i e1 hx1
      obtain ⟨h1',x1,he1,c1,l1⟩:=hrun n fz c a h1 hn e e1 .normal h hx1 he
      obtain ⟨h2',x2,he2,c2,l2⟩:=hrun n fz (.loop c) (.loop a) hc0 hn e1 e' r h1' hx he1
      have hL:=nH.step x1 (l2 c rfl)
      exact ⟨h2',.loop hL,he2,c1.trans c2,fun c0 h0=>by simp only[Code.loop.injEq] at h0; subst h0; exact hL⟩
    · rename_i hne
      obtain ⟨h1',x1,he1,c1,l1⟩:=hrun n fz c a h1 hn e e' r h hx he
      have hL:=nH.out x1 (fun e=>by subst e; exact absurd hx (hne e'))
      exact ⟨h1',.loop hL,he1,c1,fun c0 h0=>by simp only[Code.loop.injEq] at h0; subst h0; exact hL⟩
  | exit id =>
    simp[gw] at hc; subst hc
    simp only[j0,Option.some.injEq,Prod.mk.injEq] at hx
    obtain ⟨rfl,rfl⟩:=hx
    exact ⟨h,.exit,he,Calm.refl _ _,fun _ h=>by simp at h⟩
  | ret =>
    simp[gw] at hc; subst hc
    simp only[j0,Option.some.injEq,Prod.mk.injEq] at hx
    obtain ⟨rfl,rfl⟩:=hx
    exact ⟨h,.ret,he,Calm.refl _ _,fun _ h=>by simp at h⟩
  | _=>simp[gw] at hc
theorem DN:∀ (vs:List V) (i:Nat) (t:bP V),i+vs.length≤8000→∀ k,(kW vs i t).get .any k=if i≤k∧k < i+vs.length then vs.getD (k - i) .any else t.get .any k
  | [],i,t,h,k=>by
    rw[kW,if_neg (by simp only[List.length_nil]; omega)]
  | v :: vs,i,t,h,k=>by
    simp only[List.length_cons] at h
    rw[kW,DN vs (i+1) _ (by omega),bP.kG _ _ _ _ _ _ (by simp only[deep]; omega)]
    simp only[List.length_cons]
    by_cases h1:k=i
    · subst h1; rw[if_neg (by omega),if_pos rfl,if_pos (by omega)]; simp
    · by_cases h2:i+1≤k∧k < i+1+vs.length
      · rw[if_pos h2,if_pos (by omega)]
        have:k - i=(k - (i+1))+1:=by omega
        rw[this]; rfl
      · rw[if_neg h2,if_neg h1,if_neg (by omega)]
theorem Gw (vs:List V) (h:vs.length≤8000):(kW vs 0 .nil).get .any=jg vs:=by
  funext k
  rw[DN vs 0 .nil (by omega)]
  simp only[jg,Nat.zero_le,true_and,Nat.zero_add,Nat.sub_zero]
  split
  · rfl
  · rename_i hk
    rw[List.getD_eq_getElem?_getD,List.getElem?_eq_none (by omega)]; rfl
theorem OD {e:ES} {h:aH} {r:ResultVar} {rest:List ResultVar} {l:List SR} (he:fR h e) (hc:dX P (r :: rest)=some l):∃ s l',l=s :: l'∧dX P rest=some l'∧∀ v,Mp s e=some v→ri P e.T h r=some v:=by
  cases r with
  | tmp t =>
    simp only[dX,Option.map_eq_some_iff] at hc
    obtain ⟨l',h1,rfl⟩:=hc
    exact ⟨.tmp t,l',rfl,h1,fun v hv=>hv⟩
  | cell a t =>
    simp only[dX] at hc
    split at hc
    · rename_i k l' h1 h2
      simp at hc; subst hc
      refine ⟨.cell a k,l',rfl,h2,fun v hv=>?_⟩
      simp only[Mp] at hv
      simp only[ri,j9,vP h1]
      rw[he.1] at hv
      split at hv
      · rename_i id i j ha
        split at hv
        · rename_i es hH
          split at hv
          · rename_i hlt
            rw[ha]; simp only[hH]; rw[if_pos hlt,hv]; rfl
          · simp at hv
        · simp at hv
      · rename_i e j ha
        rw[ha]; simp only; rw[hv]; rfl
      · simp at hv
    · simp at hc
theorem FJ {e:ES} {h:aH} (he:fR h e):∀ (rs:List ResultVar) (l:List SR) (vs:List V),dX P rs=some l→vT l e=some vs→jS P e.T h rs=some vs
  | [],l,vs,hc,hw=>by simp[dX] at hc; subst hc; simp[vT] at hw; subst hw; rfl
  | r :: rest,l,vs,hc,hw=>by
    obtain ⟨s,l',rfl,h1,h2⟩:=OD (e:=e) (h:=h) he hc
    simp only[vT] at hw
    split at hw
    · rename_i v vs' hv hvs
      simp at hw; subst hw
      simp[jS,h2 v hv,FJ he rest l' vs' h1 hvs]
    · simp at hw
def vw (P:Program) (tab:List (FuncId × DF)):Prop:=∀ p∈tab,∃ fz,aO P p.1 fz=some p.2
def qF (P:Program) (ext:x5):Prop:=∀ g vs H t,ext g vs H=some t→cA P g=true∧∀ h:aH,h.view=H→bW P g vs h t h
theorem Em {tab:List (FuncId × DF)} {ext:x5} (ht:vw P tab) (hx:qF P ext) {run:w5} (hrun:vD P run):iJ P (Ee P tab ext run):=by
  intro g vs e v e' h hcall he
  unfold Ee at hcall
  split at hcall
  · rename_i t hext
    simp only[Option.some.injEq,Prod.mk.injEq] at hcall
    obtain ⟨rfl,rfl⟩:=hcall
    obtain ⟨h1,h2⟩:=hx _ _ _ _ hext
    exact ⟨h1,h,h2 h he.1.symm,he,fun _ _ _=>rfl,fun _ hw=>by simp at hw⟩
  · split at hcall
    · rename_i g' F hf
      have hmem:=List.mem_of_find?_eq_some hf
      have hgg:g'=g:=by
        have:=List.find?_some hf
        exact Nat.eq_of_beq_eq_true this
      subst hgg
      obtain ⟨fz,hF⟩:=ht _ hmem
      simp only at hF
      unfold aO at hF
      split at hF
      · rename_i fn hfn
        split at hF
        · rename_i c hb
          split at hF
          · rename_i sc rs h1 h2 h3
            simp at hF; subst hF
            refine ⟨h3,?_⟩
            unfold PR at hcall
            split at hcall
            · rename_i hlen hn
              have hlen:=Nat.le_of_ble_eq_true hlen
              have hn:=Nat.le_of_ble_eq_true hn
              simp only at hlen hn
              unfold Pf at hcall
              split at hcall
              · rename_i v1 e1' hend
                simp only[Option.some.injEq,Prod.mk.injEq] at hcall
                obtain ⟨rfl,rfl⟩:=hcall
                unfold PT at hend
                have go:∀ (r:Exit) (e1:ES),(r=.ret∨r=.normal)→run sc ⟨kW vs 0 .nil,e.H,e.n,[]⟩=some (r,e1)→(vT rs e1).map (fun vs=>(ah vs,e1))=some (v1,e1') →
                    ∃ h',bW P g' vs h v1 h'∧fR h' e1'∧(∀ id,id < h.length→¬ id∈e1'.w→h'.view id=h.view id):=by
                  intro r e1 hr hrn hres
                  simp only[Option.map_eq_some_iff,Prod.mk.injEq] at hres
                  obtain ⟨vs',hvs,rfl,rfl⟩:=hres
                  obtain ⟨h',hx,he1,hc1,_⟩:=hrun fn.ntmps fz c sc h1 hn _ e1 r h hrn he
                  have hT:(ES.T ⟨kW vs 0 .nil,e.H,e.n,[]⟩)=jg vs:=Gw vs (by omega)
                  rw[hT] at hx
                  refine ⟨h',bW.G4 hfn hb hlen hx (by rcases hr with rfl | rfl <;> simp) ?_,he1,fun id hid hw=>(hc1.2 id hid hw).1⟩
                  unfold I9
                  rw[FJ he1 _ _ _ h2 hvs]
                  cases vs' with
                  | nil=>rfl
                  | cons a l=>cases l <;> rfl
                have done:(∃ h',bW P g' vs h v1 h'∧fR h' e1'∧(∀ id,id < h.length→¬ id∈e1'.w→h'.view id=h.view id)) →
                    ∃ h',bW P g' vs h v1 h'∧fR h' ⟨e1'.L,e1'.H,e1'.n,e1'.w.filter fun id=>Nat.blt id e.n⟩∧(∀ id,id < h.length→¬ id∈e1'.w.filter (fun id=>Nat.blt id e.n)→h'.view id=h.view id)∧∀ id,id∈e1'.w.filter (fun id=>Nat.blt id e.n)→id < h.length:=by
                  rintro ⟨h',k1,k2,k3⟩
                  refine ⟨h',k1,k2,fun id hid hw=>k3 id hid (fun hm=>hw ?_),fun id hw=>?_⟩
                  · rw[List.mem_filter]
                    exact ⟨hm,by rw[he.2]; exact Nat.ble_eq_true_of_le hid⟩
                  · rw[List.mem_filter] at hw
                    have:=Nat.le_of_ble_eq_true hw.2
                    rw[he.2] at this; exact this
                split at hend
                · rename_i e1 hrn; exact done (go _ _ (.inl rfl) hrn hend)
                · rename_i e1 hrn; exact done (go _ _ (.inr rfl) hrn hend)
                · simp at hend
              · simp at hcall
            · simp at hcall
          · simp at hF
        · simp at hF
      · simp at hF
    · simp at hcall
theorem Ir (hm:P.follows .mixedOrders=true) {tab:List (FuncId × DF)} {ext:x5} (ht:vw P tab) (hx:qF P ext):∀ k,vD P (FV P tab ext k)
  | 0=>fun n fz c sc hc hn e e' r h hr he=>by simp[FV] at hr
  | k+1=>by
    have ih:=Ir hm ht hx k
    have:=Mg hm (Em ht hx ih) ih
    exact this
end
inductive cK (h:aH):V→V→Prop
  | val (v:Value):cK h (.val v) (.val v)
  | emp (k:Nat):cK h (.emp k) (.aL [])
  | sl (id off len esz z:Nat) (es es':List (List V)):h.view id=.arr z es→off+len≤es.length→es'.length=len →
      (∀ i,i < len→(es'.getD i []).length=(es.getD (off+i) []).length) →
      (∀ i j,i < len→j < (es'.getD i []).length→cK h ((es.getD (off+i) []).getD j .any) ((es'.getD i []).getD j .any))→cK h (.sl id off len esz) (.aL es')
  | agg (cs cs':List V):cs'.length=cs.length→(∀ i,i < cs.length→cK h (cs.getD i .any) (cs'.getD i .any))→cK h (.agg cs) (.agg cs')
  | bf (cs cs':List V):cs'.length=cs.length→(∀ i,i < cs.length→cK h (cs.getD i .any) (cs'.getD i .any))→cK h (.bf cs) (.bf cs')
theorem Ow {h:aH} {Z:Nat→Prop} {μ ν:Mu} {F:View} {hp:Array Obj} (hr:fB Z μ hp (cat h F)) {v t:V} (fr:cK h v t):∀ {x:Value},aB Z μ hp v x→aB (gn μ) ν hp t x:=by
  have hcat:∀ id,h.view id≠.dead→cat h F id=h.view id:=fun id hd=>by simp only[cat]; rw[if_pos (ia hd)]
  induction fr with
  | val v=>intro x hx; cases hx with | val _ hv=>exact .val _ hv
  | emp k=>intro x hx; cases hx with | emp _ a=>exact .gg a 0 (fun _=>rfl)
  | sl id off len esz z es es' hH hle hlen hl _ ih =>
    intro x hx
    cases hx with
    | px _ _ _ a =>
      have:es'=[]:=List.length_eq_zero_iff.1 hlen
      subst this
      exact .gg a 0 (fun _=>rfl)
    | sl _ _ _ _ b o0 cap c e f hm hlec hb hs =>
      have hor:=hr.obj id
      rw[hcat id (by rw[hH]; simp),hH] at hor
      obtain ⟨rfl,_,h3,h4⟩:=hor b o0 esz hm
      have hx:∀ i,∃ ci:Nat→Value,∀ j,j < esz→i < len→cellAt hp b (o0+off * esz+i * esz+j)=some (ci j)∧aB Z μ hp ((es.getD (off+i) []).getD j .any) (ci j):=by
        intro i
        by_cases hi:i < len
        · obtain ⟨ci,hci⟩:=lL (n:=esz) (p:=fun j x=>cellAt hp b (o0+off * esz+i * esz+j)=some x∧aB Z μ hp ((es.getD (off+i) []).getD j .any) x) (fun j hj=>by
            obtain ⟨x,hx,hv⟩:=h4 (off+i) j (by omega) hj
            rw[Nat.add_mul,← Nat.add_assoc] at hx
            exact ⟨x,hx,hv⟩)
          exact ⟨ci,fun j hj _=>hci j hj⟩
        · exact ⟨fun _=>undef,fun j _ h=>absurd h hi⟩
      obtain ⟨cf,hcf⟩:=Classical.axiomOfChoice hx
      have hel:∀ i,i < es'.length→(es'.getD i []).length=esz:=fun i hi=>by rw[hl i (by omega)]; exact h3 _ (by omega)
      have:=aB.aL (Z:=gn μ) (μ:=ν) (hp:=hp) es' b (o0+off * esz) esz cap cf ⟨id,o0,esz,hm⟩ (by omega) hel
        (fun i j hi hj=>(hcf i j hj (by omega)).1) (fun i j hi hj=>ih i j (by omega) (by rw[hel i hi]; exact hj) (hcf i j hj (by omega)).2)
      rw[hlen] at this
      exact this
  | agg cs cs' hlen _ ih =>
    intro x hx
    cases hx with
    | agg _ aas h1 h2=>exact .agg _ _ (by omega) (fun i hi=>ih i (by omega) (h2 i (by omega)))
  | bf cs cs' hlen _ ih =>
    intro x hx
    cases hx with
    | bf _ aas h1 h2=>exact .bf _ _ (by omega) (fun i hi=>ih i (by omega) (h2 i (by omega)))
def bY (P:Program) (f:FuncId) (vs:List V) (t:V):Prop :=
  ∀ Z μ (w:World) (xs:List Value),dM Z μ w.heap vs xs→(∀ b,Z b→b < w.heap.size) →
    Calls P f xs.toArray w fun e w'=>∃ x Z',e=.returned x∧(∀ ν,aB Z' ν w'.heap t x)∧dc w w'∧(∀ b,Z' b→w.heap.size≤b∧b < w'.heap.size)∧eu w.heap w'.heap (fun _=>False)
theorem bY.pure {P:Program} {f:FuncId} {vs:List V} {t:V} (h:bY P f vs t):aI P f vs t:=by
  intro Z μ w xs hrel hz
  refine (h Z μ w xs hrel hz).mono ?_
  rintro e w' ⟨x,Z',rfl,hv,hs,hz',ho⟩
  exact ⟨x,fun b=>Z b∨Z' b,rfl,fun ν=>(hv ν).mono ⟨fun _ h=>.inr h,fun _ _=>rfl,fun _ _ h=>h,dV.refl _⟩,hs,fun _ h=>.inl h,fun b hb=>hb.imp id (hz' b),ho⟩
theorem bY.vo {P:Program} {f:FuncId} {vs:List V} {r t:V} {h':aH} (ht:∀ v∈vs,Tree v) (hc:bW P f vs [] r h') (hf:cK h' r t):bY P f vs t:=by
  intro Z μ w xs hrel hz
  have hrel0:dM Z (fun _=>none) w.heap vs xs:=⟨hrel.1,fun i hi=>v7 (hrel.2 i hi) (by
    simp only[List.getD_eq_getElem?_getD,List.getElem?_eq_getElem hi,Option.getD_some]
    exact ht _ (List.getElem_mem _))⟩
  have hr0:fB Z (fun _=>none) w.heap (cat [] fun _=>.dead):=by
    rw[Cb]
    exact ⟨fun _=>trivial,fun i j b o s o' s' _ h=>by simp at h,fun id b o s h=>by simp at h,hz,fun id b o s h=>by simp at h⟩
  refine (hc.2 Z _ _ w xs hrel0 hr0 (fun _ _ _=>rfl)).mono ?_
  rintro e w' ⟨x,Z',μ',rfl,hv,hh,hex,_⟩
  refine ⟨x,gn μ',rfl,fun ν=>Ow hh hf hv,hex.same,?_,fun b hb _=>hex.frame b hb (by rintro ⟨_,_,_,h⟩; simp at h)⟩
  rintro b ⟨id,o,s,hb⟩
  rcases hex.AY _ _ _ _ hb with h1 | ⟨_,h1 | ⟨_,_,_,h1⟩⟩
  · simp at h1
  · exact ⟨h1,hh.lt _ _ _ _ hb⟩
  · simp at h1
theorem bY.of {P:Program} {f:FuncId} {vs:List V} {t:V} (ht:∀ v∈vs,Tree v) (h:aG P f vs (fun _=>.dead) fun r H'=>∀ h':aH,h'.view=H'→cK h' r t):bY P f vs t:=by
  obtain ⟨r,h',ha,_,hf⟩:=h.2 [] CT
  exact bY.vo ht ha (hf h' rfl)
theorem bW.y8 {P:Program} {f:FuncId} {ts vs:List V} {t:V} {h:aH} (hc:bY P f ts t) (hl:ts.length=vs.length)
    (hfr:∀ i,i < vs.length→Fr h (vs.getD i .any) (ts.getD i .any)):bW P f vs h t h:=by
  refine ⟨Nat.le_refl _,fun Z μ F w xs hrel hr hfree=>?_⟩
  have hts:dM (fun b=>Z b∨gn μ b) μ w.heap ts xs:=⟨by rw[hl,hrel.1],fun i hi=>AZ hr (hfr i (by omega)) (hrel.2 i (by omega))⟩
  have hzl:∀ b,(Z b∨gn μ b)→b < w.heap.size:=by
    rintro b (hb | ⟨id,o,s,hb⟩)
    · exact hr.bT b hb
    · exact hr.lt _ _ _ _ hb
  refine (hc _ μ w xs hts hzl).mono ?_
  rintro e w' ⟨x,Z',rfl,hv,hs,hz',ho⟩
  have hm:ff Z (fun b=>Z b∨Z' b) μ μ w.heap w'.heap:=⟨fun _ h=>.inl h,fun b hb=>ho b (hr.bT b hb) (fun x=>x),fun _ _ h=>h,ho.nO⟩
  refine ⟨x,fun b=>Z b∨Z' b,μ,rfl,(hv μ).mono ⟨fun _ h=>.inr h,fun _ _=>rfl,fun _ _ h=>h,dV.refl _⟩,⟨fun id=>(hr.obj id).mono hm rfl (fun b o s hx=>ho b (hr.lt _ _ _ _ hx) (fun x=>x)),hr.inj,fun id b o s hx=>Nat.lt_of_lt_of_le (hr.lt _ _ _ _ hx) hs.size,fun b hb=>?_,fun id b o s hx hzb=>?_⟩,
    ⟨hs,hm,fun b hb _=>ho b hb (fun x=>x),fun b hb=>hb.imp id (fun h=>(hz' b h).1),fun _ _ _ _ h=>.inl h⟩,fun _ _=>rfl⟩
  · rcases hb with hb | hb
    · exact Nat.lt_of_lt_of_le (hr.bT b hb) hs.size
    · exact (hz' b hb).2
  · rcases hzb with hb | hb
    · exact hr.fF _ _ _ _ hx hb
    · have:=hr.lt _ _ _ _ hx; have:=(hz' b hb).1; omega
theorem aN.y8 {P:Program} {q:Bool} {f:FuncId} {H:View} {vs ts:List V} {K:V→View→Prop} {v:ct (H,K)} {t:V} (hc:bY P f ts t) (hok:cA P f=true) (hl:ts.length=vs.length)
    (hfr:∀ i,i < vs.length→ef H (vs.getD i .any) (ts.getD i .any)) (hk:K t H):aN P q f vs H K v:=by
  unfold aN
  cases q with
  | true=>exact ⟨hok,fun h e=>⟨t,h,bW.y8 hc hl (fun i hi=>hfr i hi h e),fun _ _=>rfl,e ▸ hk⟩⟩
  | false =>
    refine ⟨hok,?_⟩
    rintro h rfl
    exact ⟨t,h,bW.y8 hc hl (fun i hi=>hfr i hi h rfl),.refl _,hk⟩
noncomputable def lz (fz:V→Option V):List V→Option (List V)
  | []=>some []
  | v :: l=>match fz v,lz fz l with
    | some a,some b=>some (a :: b)
    | _,_=>none
noncomputable def Cv (fz:V→Option V):List (List V)→Option (List (List V))
  | []=>some []
  | v :: l=>match lz fz v,Cv fz l with
    | some a,some b=>some (a :: b)
    | _,_=>none
noncomputable def xK (H:View):Nat→V→Option V
  | 0,_=>none
  | k+1,v=>match v with
    | .val x=>some (.val x)
    | .emp _=>some (.aL [])
    | .sl id off len _=>match H id with
      | .arr _ es=>if off+len≤es.length then (Cv (xK H k) ((es.drop off).take len)).map .aL else none
      | _=>none
    | .agg cs=>(lz (xK H k) cs).map .agg
    | .bf cs=>(lz (xK H k) cs).map .bf
    | _=>none
theorem fA {fz:V→Option V} : ∀ (l l':List V),lz fz l=some l'→l'.length=l.length∧∀ i,i < l.length→fz (l.getD i .any)=some (l'.getD i .any)
  | [],l',h=>by simp only[lz,Option.some.injEq] at h; subst h; exact ⟨rfl,fun i hi=>by simp at hi⟩
  | v :: l,l',h=>by
    simp only[lz] at h
    split at h
    · rename_i a b h1 h2
      simp only[Option.some.injEq] at h; subst h
      obtain ⟨g1,g2⟩:=fA l b h2
      refine ⟨by simp[g1],fun i hi=>?_⟩
      cases i with
      | zero=>exact h1
      | succ i=>exact g2 i (by simpa using hi)
    · simp at h
theorem Cr {fz:V→Option V} : ∀ (l l':List (List V)),Cv fz l=some l'→l'.length=l.length∧∀ i,i < l.length→lz fz (l.getD i [])=some (l'.getD i [])
  | [],l',h=>by simp only[Cv,Option.some.injEq] at h; subst h; exact ⟨rfl,fun i hi=>by simp at hi⟩
  | v :: l,l',h=>by
    simp only[Cv] at h
    split at h
    · rename_i a b h1 h2
      simp only[Option.some.injEq] at h; subst h
      obtain ⟨g1,g2⟩:=Cr l b h2
      refine ⟨by simp[g1],fun i hi=>?_⟩
      cases i with
      | zero=>exact h1
      | succ i=>exact g2 i (by simpa using hi)
    · simp at h
theorem GX (h:aH):∀ (k:Nat) (v t:V),xK h.view k v=some t→cK h v t
  | 0,v,t,hf=>by simp[xK] at hf
  | k+1,v,t,hf=>by
    have ih:=GX h k
    simp only[xK] at hf
    split at hf
    · simp only[Option.some.injEq] at hf; subst hf; exact .val _
    · simp only[Option.some.injEq] at hf; subst hf; exact .emp _
    · rename_i id off len esz
      split at hf
      · rename_i z es hH
        split at hf
        · rename_i hle
          simp only[Option.map_eq_some_iff] at hf
          obtain ⟨es',he,rfl⟩:=hf
          obtain ⟨g1,g2⟩:=Cr _ _ he
          have hlen:es'.length=len:=by rw[g1]; simp; omega
          have hg:∀ i,i < len→((es.drop off).take len).getD i []=es.getD (off+i) []:=fun i hi=>by
            simp[List.getD_eq_getElem?_getD,List.getElem?_take,hi]
          have g3:∀ i,i < len→lz (xK h.view k) (es.getD (off+i) [])=some (es'.getD i []):=fun i hi=>by
            rw[← hg i hi]; exact g2 i (by rw[← g1,hlen]; exact hi)
          exact .sl id off len esz z es es' hH hle hlen (fun i hi=>(fA _ _ (g3 i hi)).1) (fun i j hi hj=>ih _ _ ((fA _ _ (g3 i hi)).2 j (by rw[← (fA _ _ (g3 i hi)).1]; exact hj)))
        · simp at hf
      · simp at hf
    · simp only[Option.map_eq_some_iff] at hf
      obtain ⟨l,hl,rfl⟩:=hf
      obtain ⟨g1,g2⟩:=fA _ _ hl
      exact .agg _ _ g1 (fun i hi=>ih _ _ (g2 i hi))
    · simp only[Option.map_eq_some_iff] at hf
      obtain ⟨l,hl,rfl⟩:=hf
      obtain ⟨g1,g2⟩:=fA _ _ hl
      exact .bf _ _ g1 (fun i hi=>ih _ _ (g2 i hi))
    · simp at hf
noncomputable def NU:Option (V × ES)→Option V
  | some (v,e)=>xK e.V 50 v
  | none=>none
noncomputable def qg (P:Program) (tab:List (FuncId × DF)) (ext:x5) (f:FuncId) (vs:List V):Option V :=
  NU (Ee P tab ext (FV P tab ext 100000) f vs ⟨.nil,.nil,0,[]⟩)
theorem je {P:Program} (hm:P.follows .mixedOrders=true) {tab:List (FuncId × DF)} {ext:x5} (ht:vw P tab) (hx:qF P ext) {f:FuncId} {vs:List V} {t:V} (hvs:∀ v∈vs,Tree v) (h:qg P tab ext f vs=some t) :
    bY P f vs t:=by
  unfold qg NU at h
  split at h
  · rename_i v e hr
    obtain ⟨h1,h',h2,h3,_⟩:=Em ht hx (Ir hm ht hx 100000) f vs _ v e [] hr ⟨by funext k; rfl,rfl⟩
    rw[h3.1] at h
    exact bY.vo hvs h2 (GX h' 50 v t h)
  · simp at h
structure ay.sq (g:ay):Prop where
  av:g.av.length≤24
  I2:1≤g.aw.length
  aw:g.aw.length≤16
  QX:1≤g.rules.length
  rules:g.rules.length≤40
  uR:0≤g.start
  start:g.start < g.aw.length
  left:∀ r∈g.rules,0≤r.left∧r.left < g.aw.length
  right:∀ r∈g.rules,r.right.length≤6
  sym:∀ r∈g.rules,∀ s∈r.right,l5 g s=true
  prec:∀ r∈g.rules,-1≤r.prec∧r.prec < g.av.length
theorem yb {g:ay} : ∀ (l:List bc) (top:Int),fi g l top=true→top≤(g.aw.length:Int) - 1∧∀ r∈l,0≤r.left∧r.left < g.aw.length∧fG g r=true
  | [],top,h=>by simp[fi] at h; exact ⟨by omega,fun r hr=>by simp at hr⟩
  | r :: l,top,h=>by
    simp only[fi,Bool.and_eq_true,decide_eq_true_eq] at h
    obtain ⟨⟨⟨h1,h2⟩,h3⟩,h4⟩:=h
    obtain ⟨k1,k2⟩:=yb l _ h4
    have h5:r.left≤(if r.left > top then r.left else top):=by split <;> omega
    have h6:top≤(if r.left > top then r.left else top):=by split <;> omega
    refine ⟨by omega,fun r' hr=>?_⟩
    rcases List.mem_cons.1 hr with rfl | hr
    · exact ⟨h1,by omega,h3⟩
    · exact k2 r' hr
theorem bI {g:ay} (h:bB g=true):g.sq:=by
  simp only[bB,hO,iN,Bool.and_eq_true,decide_eq_true_eq] at h
  obtain ⟨⟨⟨⟨⟨⟨⟨h1,_⟩,⟨h2,h3⟩,_⟩,h4⟩,h5⟩,h6⟩,h7⟩,h8⟩:=h
  have k:=(yb _ _ h8).2
  have hb:∀ r∈g.rules,r.right.length≤6∧-1≤r.prec∧r.prec < g.av.length∧∀ s∈r.right,l5 g s=true:=fun r hr=>by
    have:=(k r hr).2.2
    simp only[fG,Bool.and_eq_true,decide_eq_true_eq,List.all_eq_true,ki] at this
    exact ⟨this.1.1.1,this.1.1.2,this.1.2,fun s hs=>(this.2 s hs).1⟩
  exact ⟨h1,h2,h3,h4,h5,h6,h7,fun r hr=>⟨(k r hr).1,(k r hr).2.1⟩,fun r hr=>(hb r hr).1,fun r hr=>(hb r hr).2.2.2,fun r hr=>⟨(hb r hr).2.1,(hb r hr).2.2.1⟩⟩
theorem ay.sq.neg {g:ay} (h:g.sq) {r:bc} (hr:r∈g.rules) {s:Int} (hs:s∈r.right) (hn:s < 0) : -1 - s < g.aw.length:=by
  have:=h.sym r hr s hs
  simp only[l5] at this
  rw[if_neg (by omega)] at this
  simpa using this
theorem FK (l:List Int) (is:List Bool) (t:Bool) (hl:aR l) (hs:∀ s∈l,bJ s∧(s < 0→-1 - s < is.length)):aI Tryz.prog 117 [encI l,cY is,gb t] (gb (dP l is t)) :=
  aI.val (by
    intro v hv; simp at hv
    rcases hv with rfl | rfl | rfl
    · exact c6 _
    · exact DB _
    · exact .val _) (fun H=>(PL l is t hl hs H).mono fun r H' h=>h.1)
abbrev eR (is:List Bool):List (List V):=is.map fun x=>[gb x]
theorem sd {h:aH} {id:Nat} {is:List Bool} (hv:h.view id=.arr 1 (eR is)):cK h (.sl id 0 is.length 1) (cY is):=by
  refine .sl id 0 is.length 1 1 (eR is) _ hv (by simp) (by simp) (fun i hi=>by simp) (fun i j hi hj=>?_)
  rw[Nat.zero_add]
  have e:(eR is).getD i []=[gb is[i]]:=by simp[List.getD_eq_getElem?_getD,hi]
  rw[e] at hj ⊢
  have:j=0:=by simp at hj; omega
  subst this
  exact .val _
theorem JE {H:View} {id n:Nat} {is:List Bool} (hv:H id=.arr 1 (eR is)) (hn:n=is.length):ef H (.sl id 0 n 1) (cY is):=by
  have ht:∀ e∈eR is,∀ v∈e,Tree v:=by
    intro e he v hv
    obtain ⟨a,_,rfl⟩:=List.mem_map.1 he
    rw[List.mem_singleton] at hv
    subst hv
    exact .val _
  have:=ef.sl (off:=0) (len:=n) (esz:=1) hv (by simp[hn]) ht
  rwa [List.drop_zero,List.take_of_length_le (by simp[hn])] at this
theorem nR {is:List Bool} {i:Nat} (h:i < is.length):(eR is).getD i []=[gb is[i]]:=by simp[List.getD_eq_getElem?_getD,h]
theorem rX (is:List Bool) (i:Nat) (b:Bool):(eR is).set i [gb b]=eR (is.set i b):=by simp[List.map_set]
theorem Dl (n:Nat) (b:Bool):List.replicate n [gb b]=eR (List.replicate n b):=by simp
def iter {α:Type} (f:α→α):Nat→α→α
  | 0,x=>x
  | n+1,x=>iter f n (f x)
def cW (t:Bool) (is:List Bool) (r:bc):List Bool:=if dP r.right is t=true then is.set r.left.toNat true else is
def hU (g:ay) (t:Bool) (is:List Bool):List Bool:=g.rules.foldl (cW t) is
def cw (g:ay):List Bool:=List.replicate g.aw.length false
def aV (g:ay) (t:Bool):List Bool:=if bB g=true then iter (hU g t) g.aw.length (cw g) else []
theorem IF (t:Bool) (is:List Bool) (r:bc):(cW t is r).length=is.length:=by unfold cW; split <;> simp
def kx:SC :=
  .seq (.seq (aq [aa 22 7,ao 23 2 2,an 24 23,aA 25 24,aC 26 .lss 22 25]) <|
  .cond (.tmp 26) (.skip) (.exit 2)) <|
  .seq (.block 3 (.seq (aq [ao 29 2 2,an 30 29,aa 31 7,aD 32 3 30 31,ao 33 1 32,an 34 33,aa 35 5,aa 36 1,aJ 37 117 [34,35,36]]) <|
  .cond (.tmp 37) (aq [aa 38 5,ao 39 2 2,an 40 39,aa 41 7,aD 42 3 40 41,ao 43 0 42,an 44 43,aD 45 1 38 44,(none,.op (.store 1 (.tmp 45) (.val (.val (.bool true)))))]) (.skip))) <|
  aq [aa 27 7,au 28 .add 27 1,aa 7 28]
def kJ:SC :=
  .seq (.seq (aq [aa 15 6,ao 16 1 2,an 17 16,aA 18 17,aC 19 .lss 15 18]) <|
  .cond (.tmp 19) (.skip) (.exit 0)) <|
  .seq (.block 1 (.seq (aq [az 7 0]) <|
  .block 2 (.loop kx))) <|
  aq [aa 20 6,au 21 .add 20 1,aa 6 21]
def mW:SF:=⟨.seq (aq [bz 2 0,((some 4),.op (.aX (.val (.emp 1))))]) <|
  .seq (.seq (aq [aF 8 4 2,aJ 9 48 [8],bC 10 9]) <|
  .cond (.tmp 10) (.seq (aq [((some 4),.op (.aX (.val (.emp 1))))]) <|
  .ret) (.skip)) <|
  .seq (aq [ao 11 1 2,an 12 11,aA 13 12,((some 14),.op (.make 1 1 [(.val (.bool false))] (.tmp 13) (.tmp 13))),aa 5 14]) <|
  .seq (.seq (aq [az 6 0]) <|
  .block 0 (.loop kJ)) <|
  .seq (aq [aa 46 5,aa 4 46]) <|
  .ret,
  [.tmp 4],47⟩
theorem sG:ba Tryz.prog 174 [2]=some mW:=by kernel_rfl
def iV:SF:=⟨.seq (aq [bz 1 0,((some 2),.op (.aX (.val (.emp 1))))]) <|
  .seq (aq [aF 3 4 1,b6 4 174 [(.tmp 3),(.val (.val (.bool true)))],aa 2 4]) <|
  .ret,
  [.tmp 2],5⟩
theorem nW:ba Tryz.prog 115 [1]=some iV:=by kernel_rfl
theorem L1 (g:ay) (t:Bool):∀ v∈[V.agg (ax g),gb t],Tree v:=by
  intro v hv; simp at hv
  rcases hv with rfl | rfl
  · exact b9 _ (cP g)
  · exact .val _
set_option maxHeartbeats 2000000 in
theorem MD (g:ay) (hg:g.Ok) (t:Bool) (H:View):aG Tryz.prog 174 [.agg (ax g),gb t] H fun r H'=>∀ h':aH,h'.view=H'→cK h' r (cY (aV g t)):=by
  refine aG.of mixed sG ?_
  simp (disch:=omega) only [↓wr,↓reduceIte,wq,ah,ag,ak,ab,ae,af,ai,isNil,Nat.reduceEqDiff,Nat.reduceAdd,Nat.reduceLT,Nat.reduceLeDiff,Int.reduceNeg,Int.reduceToNat,reduceCtorEq,mW,ax,encS]
  refine aN.pure (jm g hg) (by kernel_rfl) ?_
  repeat' (first | (refine ar.dec (fun _=>?_) (fun _=>?_)) | (refine ar.eq (fun _=>?_) (fun _=>?_)) | (refine ar.ne (fun _=>?_) (fun _=>?_)) | (refine ar.split (fun _=>?_) (fun _=>?_)) | (simp (disch:=omega) only [↓wr,↓reduceIte,wq,ah,ag,ak,ab,ae,af,ai,isNil,Nat.reduceEqDiff,Nat.reduceAdd,Nat.reduceLT,Nat.reduceLeDiff,Int.reduceNeg,Int.reduceToNat,reduceCtorEq,ax,encS]))
  · rename_i hr
    have hf:=bI hr
    obtain ⟨hN1,hN2⟩:=And.intro hf.I2 hf.aw
    refine ⟨⟨by omega,by unfold aP; omega,by unfold aP; omega⟩,fun hz=>by omega,fun _ m hm=>?_⟩
    try simp (disch:=omega) only [↓wr,↓reduceIte,wq,ah,ag,ak,ab,ae,af,ai,isNil,Nat.reduceEqDiff,Nat.reduceAdd,Nat.reduceLT,Nat.reduceLeDiff,Int.reduceNeg,Int.reduceToNat,reduceCtorEq,ax,encS]
    refine bp.intro (fun k T H'=>∃ (i:Nat) (is:List Bool),i+k=g.aw.length∧is.length=g.aw.length∧iter (hU g t) k is=iter (hU g t) g.aw.length (cw g)∧T 1=gb t∧T 2=.aQ (ax g) 0∧T 5=.sl m 0 g.aw.length 1∧H' m=.arr 1 (eR is)∧T 6=gi i) g.aw.length ?_ ?_
    · refine ⟨0,cw g,by omega,by simp[cw],rfl,?_⟩
      simp (disch:=omega) only [↓wr,↓reduceIte,wq,ah,ag,ak,ab,ae,af,ai,isNil,Nat.reduceEqDiff,Nat.reduceAdd,Nat.reduceLT,Nat.reduceLeDiff,Int.reduceNeg,Int.reduceToNat,reduceCtorEq,ax,encS]
      exact ⟨by rw[Dl]; rfl,rfl⟩
    · rintro k T H' ⟨i,is,hk,hlen,hi,f1,f2,f5,fm,f6⟩
      simp (disch:=omega) only [↓wr,↓reduceIte,wq,ah,ag,ak,ab,ae,af,ai,isNil,Nat.reduceEqDiff,Nat.reduceAdd,Nat.reduceLT,Nat.reduceLeDiff,Int.reduceNeg,Int.reduceToNat,reduceCtorEq,kJ,f1,f2,f5,f6,ax,encS]
      refine ar.dec (fun hc=>?_) (fun hc=>?_)
      · simp (disch:=omega) only [↓wr,↓reduceIte,wq,ah,ag,ak,ab,ae,af,ai,isNil,Nat.reduceEqDiff,Nat.reduceAdd,Nat.reduceLT,Nat.reduceLeDiff,Int.reduceNeg,Int.reduceToNat,reduceCtorEq,f1,f2,f5,f6,ax,encS]
        refine bp.intro (fun k' T H'=>∃ (j:Nat) (is':List Bool),j+k'=g.rules.length∧is'.length=g.aw.length∧(g.rules.drop j).foldl (cW t) is'=hU g t is∧T 1=gb t∧T 2=.aQ (ax g) 0∧T 5=.sl m 0 g.aw.length 1∧H' m=.arr 1 (eR is')∧T 6=gi i∧T 7=gi j) g.rules.length ?_ ?_
        · refine ⟨0,is,by omega,hlen,rfl,?_⟩
          simp (disch:=omega) only [↓wr,↓reduceIte,wq,ah,ag,ak,ab,ae,af,ai,isNil,Nat.reduceEqDiff,Nat.reduceAdd,Nat.reduceLT,Nat.reduceLeDiff,Int.reduceNeg,Int.reduceToNat,reduceCtorEq,f1,f2,f5,f6,fm,ax,encS]
          rfl
        · rintro k' T' H'' ⟨j,is',hk',hlen',hj,e1,e2,e5,em,e6,e7⟩
          simp (disch:=omega) only [↓wr,↓reduceIte,wq,ah,ag,ak,ab,ae,af,ai,isNil,Nat.reduceEqDiff,Nat.reduceAdd,Nat.reduceLT,Nat.reduceLeDiff,Int.reduceNeg,Int.reduceToNat,reduceCtorEq,kx,e1,e2,e5,e6,e7,ax]
          refine ar.dec (fun hd=>?_) (fun hd=>?_)
          · have hle:=hf.rules
            have hg2:g.rules[j]?=some (g.rules[j]'(by omega)):=List.getElem?_eq_getElem (by omega)
            rw[c9 (show j < g.rules.length by omega)] at hj
            have hmem:g.rules[j]'(by omega)∈g.rules:=List.getElem_mem _
            generalize g.rules[j]'(by omega)=r at hg2 hj hmem
            simp only[List.foldl_cons] at hj
            obtain ⟨hl1,hl2⟩:=hf.left r hmem
            obtain ⟨_,_,hs1,hs2⟩:=hg.bQ r hmem
            have hall:=FK r.right is' t hs1 (fun s hs=>⟨hs2 s hs,fun hn=>by have:=hf.neg hmem hs hn; omega⟩)
            simp (disch:=omega) only [↓wr,↓reduceIte,wq,ah,ag,ak,ab,ae,af,ai,isNil,Nat.reduceEqDiff,Nat.reduceAdd,Nat.reduceLT,Nat.reduceLeDiff,Int.reduceNeg,Int.reduceToNat,reduceCtorEq,e1,e2,e5,e6,e7,ax,encS,bD,List.getElem?_map,hg2,Option.map_some]
            refine aN.borrow hall (by kernel_rfl) (.val _) rfl (fun q hq=>?_) ?_
            · match q,hq with
              | 0,_=>exact ef.tree (c6 _)
              | 1,_=>exact JE em hlen'.symm
              | 2,_=>exact ef.tree (.val _)
            · simp (disch:=omega) only [↓wr,↓reduceIte,wq,ah,ag,ak,ab,ae,af,ai,isNil,Nat.reduceEqDiff,Nat.reduceAdd,Nat.reduceLT,Nat.reduceLeDiff,Int.reduceNeg,Int.reduceToNat,reduceCtorEq,e1,e2,e5,e6,e7,ax,encS,bD,List.getElem?_map,hg2,Option.map_some]
              refine ar.split (fun ha=>?_) (fun ha=>?_)
              · have hst:cW t is' r=is'.set r.left.toNat true:=by rw[cW,if_pos ha]
                simp (disch:=omega) only [↓wr,↓reduceIte,wq,ah,ag,ak,ab,ae,af,ai,isNil,Nat.reduceEqDiff,Nat.reduceAdd,Nat.reduceLT,Nat.reduceLeDiff,Int.reduceNeg,Int.reduceToNat,reduceCtorEq,e1,e2,e5,e6,e7,em,ax,encS,bD,List.getElem?_map,hg2,Option.map_some,nR (show r.left.toNat < is'.length by omega)]
                rw[hst] at hj
                exact ⟨by omega,by omega,k' - 1,by omega,j+1,is'.set r.left.toNat true,by omega,by simp[hlen'],hj,by rw[rX],rfl⟩
              · have hst:cW t is' r=is':=by rw[cW,if_neg (by rw[ha]; simp)]
                rw[hst] at hj
                simp (disch:=omega) only [↓wr,↓reduceIte,wq,ah,ag,ak,ab,ae,af,ai,isNil,Nat.reduceEqDiff,Nat.reduceAdd,Nat.reduceLT,Nat.reduceLeDiff,Int.reduceNeg,Int.reduceToNat,reduceCtorEq,e1,e2,e5,e6,e7]
                exact ⟨k' - 1,by omega,j+1,is',by omega,hlen',hj,by first | rfl | exact ⟨rfl,rfl⟩ | exact ⟨em,rfl⟩ | exact ⟨rfl,em,rfl⟩⟩
          · rw[List.drop_eq_nil_of_le (by omega),List.foldl_nil] at hj
            simp (disch:=omega) only [↓wr,↓reduceIte,wq,ah,ag,ak,ab,ae,af,ai,isNil,Nat.reduceEqDiff,Nat.reduceAdd,Nat.reduceLT,Nat.reduceLeDiff,Int.reduceNeg,Int.reduceToNat,reduceCtorEq,e1,e2,e5,e6,e7]
            obtain ⟨q,rfl⟩:∃ q,k=q+1:=⟨k - 1,by omega⟩
            exact ⟨q,by omega,i+1,is',by omega,hlen',by rw[hj]; exact hi,rfl,em,rfl⟩
      · simp (disch:=omega) only [↓wr,↓reduceIte,wq,ah,ag,ak,ab,ae,af,ai,isNil,Nat.reduceEqDiff,Nat.reduceAdd,Nat.reduceLT,Nat.reduceLeDiff,Int.reduceNeg,Int.reduceToNat,reduceCtorEq,f1,f2,f5,f6,fm]
        have:k=0:=by omega
        subst this
        rintro h' rfl
        simp only[aV,if_pos hr,← hi,iter]
        rw[← hlen]
        exact sd fm
  · rename_i hr
    rintro h' rfl
    simp only[aV,hr]
    exact .emp 1
theorem Mx (g:ay) (hg:g.Ok) (t:Bool):bY Tryz.prog 174 [.agg (ax g),gb t] (cY (aV g t)):=bY.of (L1 g t) (MD g hg t _)
theorem BL (g:ay) (hg:g.Ok) (H:View):aG Tryz.prog 115 [.agg (ax g)] H fun r H'=>r=cY (aV g true)∧H'=H:=by
  refine aG.of mixed nW ?_
  simp (disch:=omega) only [↓wr,↓reduceIte,wq,ah,ag,ak,ab,ae,af,ai,isNil,Nat.reduceEqDiff,Nat.reduceAdd,Nat.reduceLT,Nat.reduceLeDiff,Int.reduceNeg,Int.reduceToNat,reduceCtorEq,iV,ax,encS]
  refine aN.pure (Mx g hg true).pure (by kernel_rfl) ?_
  simp (disch:=omega) only [↓wr,↓reduceIte,wq,ah,ag,ak,ab,ae,af,ai,isNil,Nat.reduceEqDiff,Nat.reduceAdd,Nat.reduceLT,Nat.reduceLeDiff,Int.reduceNeg,Int.reduceToNat,reduceCtorEq,ax,encS]
theorem sf (g:ay) (hg:g.Ok):aI Tryz.prog 115 [.agg (ax g)] (cY (aV g true)) :=
  aI.of (hQ g) ((BL g hg _).mono fun r H' h h' _=>by rw[h.1]; exact .tree _ (DB _))
def mark (is:List Bool) (s:Int):List Bool:=if s < 0 then is.set (-1 - s).toNat true else is
def ej (p is:List Bool) (r:bc):List Bool:=if (is.getD r.left.toNat false && dP r.right p true)=true then r.right.foldl mark is else is
def lC (g:ay) (p is:List Bool):List Bool:=g.rules.foldl (ej p) is
def bN (g:ay):List Bool:=if bB g=true then iter (lC g (aV g true)) g.aw.length ((cw g).set g.start.toNat true) else []
theorem L6 (is:List Bool) (s:Int):(mark is s).length=is.length:=by unfold mark; split <;> simp
theorem Dr:∀ (l:List Int) (is:List Bool),(l.foldl mark is).length=is.length
  | [],_=>rfl
  | s :: l,is=>by rw[List.foldl_cons,Dr l,L6]
theorem J5 (p is:List Bool) (r:bc):(ej p is r).length=is.length:=by unfold ej; split <;> simp[Dr]
theorem AD {f:List Bool→List Bool} (hf:∀ is,(f is).length=is.length):∀ (n:Nat) (is:List Bool),(iter f n is).length=is.length
  | 0,_=>rfl
  | n+1,is=>by rw[iter,AD hf n,hf]
theorem Ah {α:Type} {f:List Bool→α→List Bool} (hf:∀ is x,(f is x).length=is.length):∀ (l:List α) (is:List Bool),(l.foldl f is).length=is.length
  | [],_=>rfl
  | x :: l,is=>by rw[List.foldl_cons,Ah hf l,hf]
theorem sJ {g:ay} (h:bB g=true) (t:Bool):(aV g t).length=g.aw.length:=by
  have hl:∀ is,(hU g t is).length=is.length:=fun is=>Ah (IF t) _ _
  rw[aV,if_pos h,AD hl]
  simp[cw]
def iu:SC :=
  .seq (.seq (.region false [⟨none,[aa 41 8,ao 42 1 7,an 43 42,aA 44 43,aC 45 .lss 41 44,aa 46 45]⟩,⟨(some (46,true)),[aa 47 4,ao 48 0 7,an 49 48,aD 50 1 47 49,an 51 50]⟩,⟨none,[bq 52 46 51,aa 53 52]⟩,⟨(some (53,true)),[ao 54 1 7,an 55 54,aa 56 3,b6 57 117 [(.tmp 55),(.tmp 56),(.val (.val (.bool true)))]]⟩,⟨none,[bq 58 53 57]⟩]) <|
  .cond (.tmp 58) (.skip) (.exit 4)) <|
  .seq (.block 5 (.seq (aq [ao 61 1 7,an 62 61,aa 63 8,aD 64 1 62 63,an 65 64,au 66 .lss 65 0]) <|
  .cond (.tmp 66) (aq [aa 67 4,ao 68 1 7,an 69 68,aa 70 8,aD 71 1 69 70,an 72 71,((some 73),.op (.arith .sub (.val (.val (.int .i64 (-1)))) (.tmp 72))),aD 74 1 67 73,(none,.op (.store 1 (.tmp 74) (.val (.val (.bool true)))))]) (.skip))) <|
  aq [aa 59 8,au 60 .add 59 1,aa 8 60]
def iC:SC :=
  .seq (.seq (aq [aa 29 6,ao 30 2 1,an 31 30,aA 32 31,aC 33 .lss 29 32]) <|
  .cond (.tmp 33) (.skip) (.exit 2)) <|
  .seq (.block 3 (.seq (aq [ao 36 2 1,an 37 36,aa 38 6,aD 39 3 37 38,aF 40 3 39,((some 7),.op (.alloc [(.val (.int .i64 0)),(.emp 1),(.val (.int .i64 0))])),(none,.op (.store 3 (.tmp 7) (.tmp 40)))]) <|
  .seq (aq [az 8 0]) <|
  .block 4 (.loop iu))) <|
  aq [aa 34 6,au 35 .add 34 1,aa 6 35]
def iz:SC :=
  .seq (.seq (aq [aa 22 5,ao 23 1 1,an 24 23,aA 25 24,aC 26 .lss 22 25]) <|
  .cond (.tmp 26) (.skip) (.exit 0)) <|
  .seq (.block 1 (.seq (aq [az 6 0]) <|
  .block 2 (.loop iC))) <|
  aq [aa 27 5,au 28 .add 27 1,aa 5 28]
def jA:SF:=⟨.seq (aq [bz 1 0,((some 2),.op (.aX (.val (.emp 1))))]) <|
  .seq (.seq (aq [aF 9 4 1,aJ 10 48 [9],bC 11 10]) <|
  .cond (.tmp 11) (.seq (aq [((some 2),.op (.aX (.val (.emp 1))))]) <|
  .ret) (.skip)) <|
  .seq (aq [aF 12 4 1,aJ 13 115 [12],aa 3 13]) <|
  .seq (aq [ao 14 1 1,an 15 14,aA 16 15,((some 17),.op (.make 1 1 [(.val (.bool false))] (.tmp 16) (.tmp 16))),aa 4 17]) <|
  .seq (aq [aa 18 4,ao 19 3 1,an 20 19,aD 21 1 18 20,(none,.op (.store 1 (.tmp 21) (.val (.val (.bool true)))))]) <|
  .seq (.seq (aq [az 5 0]) <|
  .block 0 (.loop iz)) <|
  .seq (aq [aa 75 4,aa 2 75]) <|
  .ret,
  [.tmp 2],76⟩
theorem oV:ba Tryz.prog 116 [1]=some jA:=by kernel_rfl
theorem M8 {l:List Bool} {i j:Nat} (h:l.getD j false=true):(l.set i true).getD j false=true:=by
  simp only[List.getD_eq_getElem?_getD,List.getElem?_set] at h ⊢
  by_cases e:i=j
  · subst e
    by_cases hi:i < l.length
    · simp[hi]
    · rw[List.getElem?_eq_none (by omega)] at h; simp at h
  · rw[if_neg e]; exact h
theorem MI {H:View} {m n:Nat} {o:bM} (hm:H m=o) (hn:H n=.dead) (ho:o≠.dead):m≠n:=by rintro rfl; exact ho (hm.symm.trans hn)
set_option maxHeartbeats 4000000 in
theorem BY (g:ay) (hg:g.Ok) (H:View):aG Tryz.prog 116 [.agg (ax g)] H fun r H'=>∀ h':aH,h'.view=H'→cK h' r (cY (bN g)):=by
  refine aG.of mixed oV ?_
  simp (disch:=omega) only [↓wr,↓reduceIte,wq,ah,ag,ak,ab,ae,af,ai,isNil,Nat.reduceEqDiff,Nat.reduceAdd,Nat.reduceLT,Nat.reduceLeDiff,Int.reduceNeg,Int.reduceToNat,reduceCtorEq,jA,ax,encS]
  refine aN.pure (jm g hg) (by kernel_rfl) ?_
  repeat' (first | (refine ar.dec (fun _=>?_) (fun _=>?_)) | (refine ar.eq (fun _=>?_) (fun _=>?_)) | (refine ar.ne (fun _=>?_) (fun _=>?_)) | (refine ar.split (fun _=>?_) (fun _=>?_)) | (simp (disch:=omega) only [↓wr,↓reduceIte,wq,ah,ag,ak,ab,ae,af,ai,isNil,Nat.reduceEqDiff,Nat.reduceAdd,Nat.reduceLT,Nat.reduceLeDiff,Int.reduceNeg,Int.reduceToNat,reduceCtorEq,ax,encS]))
  · rename_i hr
    have hf:=bI hr
    obtain ⟨hN1,hN2⟩:=And.intro hf.I2 hf.aw
    refine aN.pure (sf g hg) (by kernel_rfl) ?_
    have hpl:=sJ hr true
    have hreach:bN g=iter (lC g (aV g true)) g.aw.length ((cw g).set g.start.toNat true):=by rw[bN,if_pos hr]
    generalize aV g true=p at hpl hreach
    have hst:=hf.uR
    have hst2:=hf.start
    have hrep:List.replicate g.aw.length [V.val (Value.bool false)]=eR (cw g):=Dl _ _
    have hnl:(cw g).length=g.aw.length:=by simp[cw]
    simp (disch:=omega) only [↓wr,↓reduceIte,wq,ah,ag,ak,ab,ae,af,ai,isNil,Nat.reduceEqDiff,Nat.reduceAdd,Nat.reduceLT,Nat.reduceLeDiff,Int.reduceNeg,Int.reduceToNat,reduceCtorEq,ax,encS]
    refine ⟨⟨by omega,by unfold aP; omega,by unfold aP; omega⟩,fun hz=>by omega,fun _ m hm=>?_⟩
    rw[hrep]
    have hgs:(eR (cw g)).getD g.start.toNat []=[gb ((cw g)[g.start.toNat]'(by omega))]:=nR (by omega)
    simp (disch:=omega) only [↓wr,↓reduceIte,wq,ah,ag,ak,ab,ae,af,ai,isNil,Nat.reduceEqDiff,Nat.reduceAdd,Nat.reduceLT,Nat.reduceLeDiff,Int.reduceNeg,Int.reduceToNat,reduceCtorEq,ax,encS,nR (show g.start.toNat < (cw g).length by omega),rX,List.length_map]
    refine ⟨by omega,by omega,?_⟩
    refine bp.intro (fun k T H'=>∃ (i:Nat) (is:List Bool),i+k=g.aw.length∧is.length=g.aw.length∧iter (lC g p) k is=bN g∧T 1=.aQ (ax g) 0∧T 3=cY p∧T 4=.sl m 0 g.aw.length 1∧H' m=.arr 1 (eR is)∧T 5=gi i) g.aw.length ?_ ?_
    · refine ⟨0,(cw g).set g.start.toNat true,by omega,by simp[hnl],hreach.symm,?_⟩
      simp (disch:=omega) only [↓wr,↓reduceIte,wq,ah,ag,ak,ab,ae,af,ai,isNil,Nat.reduceEqDiff,Nat.reduceAdd,Nat.reduceLT,Nat.reduceLeDiff,Int.reduceNeg,Int.reduceToNat,reduceCtorEq,ax,encS]
      rw[hgs]
      exact ⟨by rw[← rX]; rfl,rfl⟩
    · rintro k T H' ⟨i,is,hk,hlen,hi,f1,f3,f4,fm,f5⟩
      simp (disch:=omega) only [↓wr,↓reduceIte,wq,ah,ag,ak,ab,ae,af,ai,isNil,Nat.reduceEqDiff,Nat.reduceAdd,Nat.reduceLT,Nat.reduceLeDiff,Int.reduceNeg,Int.reduceToNat,reduceCtorEq,iz,f1,f3,f4,f5,ax,encS]
      refine ar.dec (fun hc=>?_) (fun hc=>?_)
      · simp (disch:=omega) only [↓wr,↓reduceIte,wq,ah,ag,ak,ab,ae,af,ai,isNil,Nat.reduceEqDiff,Nat.reduceAdd,Nat.reduceLT,Nat.reduceLeDiff,Int.reduceNeg,Int.reduceToNat,reduceCtorEq,f1,f3,f4,f5,ax,encS]
        refine bp.intro (fun k' T H'=>∃ (j:Nat) (is':List Bool),j+k'=g.rules.length∧is'.length=g.aw.length∧(g.rules.drop j).foldl (ej p) is'=lC g p is∧T 1=.aQ (ax g) 0∧T 3=cY p∧T 4=.sl m 0 g.aw.length 1∧H' m=.arr 1 (eR is')∧T 5=gi i∧T 6=gi j) g.rules.length ?_ ?_
        · refine ⟨0,is,by omega,hlen,rfl,?_⟩
          simp (disch:=omega) only [↓wr,↓reduceIte,wq,ah,ag,ak,ab,ae,af,ai,isNil,Nat.reduceEqDiff,Nat.reduceAdd,Nat.reduceLT,Nat.reduceLeDiff,Int.reduceNeg,Int.reduceToNat,reduceCtorEq,f1,f3,f4,f5,fm,ax,encS]
          first | done | exact ⟨rfl,rfl⟩ | rfl
        · rintro k' T' H'' ⟨j,is',hk',hlen',hj,e1,e3,e4,em,e5,e6⟩
          simp (disch:=omega) only [↓wr,↓reduceIte,wq,ah,ag,ak,ab,ae,af,ai,isNil,Nat.reduceEqDiff,Nat.reduceAdd,Nat.reduceLT,Nat.reduceLeDiff,Int.reduceNeg,Int.reduceToNat,reduceCtorEq,iC,e1,e3,e4,e5,e6,ax]
          refine ar.dec (fun hd=>?_) (fun hd=>?_)
          · have hle:=hf.rules
            have hg2:g.rules[j]?=some (g.rules[j]'(by omega)):=List.getElem?_eq_getElem (by omega)
            rw[c9 (show j < g.rules.length by omega)] at hj
            have hmem:g.rules[j]'(by omega)∈g.rules:=List.getElem_mem _
            generalize g.rules[j]'(by omega)=r at hg2 hj hmem
            simp only[List.foldl_cons] at hj
            obtain ⟨hl1,hl2⟩:=hf.left r hmem
            obtain ⟨_,_,hs1,hs2⟩:=hg.bQ r hmem
            have hr6:=hf.right r hmem
            have hall:=FK r.right p true hs1 (fun s hs=>⟨hs2 s hs,fun hn=>by have:=hf.neg hmem hs hn; omega⟩)
            simp (disch:=omega) only [↓wr,↓reduceIte,wq,ah,ag,ak,ab,ae,af,ai,isNil,Nat.reduceEqDiff,Nat.reduceAdd,Nat.reduceLT,Nat.reduceLeDiff,Int.reduceNeg,Int.reduceToNat,reduceCtorEq,e1,e3,e4,e5,e6,ax,encS,bD,encI,List.getElem?_map,hg2,Option.map_some]
            intro b hb
            have hne:m≠b:=MI em hb (by simp)
            try simp (disch:=omega) only [↓wr,↓reduceIte,wq,ah,ag,ak,ab,ae,af,ai,isNil,Nat.reduceEqDiff,Nat.reduceAdd,Nat.reduceLT,Nat.reduceLeDiff,Int.reduceNeg,Int.reduceToNat,reduceCtorEq,e1,e3,e4,e5,e6,ax,encS,bD,encI]
            refine bp.intro (fun q T H'=>∃ (a:Nat) (is3:List Bool),a+q=r.right.length∧is3.length=g.aw.length∧(r.right.drop a).foldl mark is3=r.right.foldl mark is'∧((a=0∧is3=is')∨((is'.getD r.left.toNat false && dP r.right p true)=true∧is3.getD r.left.toNat false=true)) ∧
              T 1=.aQ (ax g) 0∧T 3=cY p∧T 4=.sl m 0 g.aw.length 1∧H' m=.arr 1 (eR is3)∧T 5=gi i∧T 6=gi j∧T 7=.ptr b 0 0∧H' b=.arr 3 [bD r]∧T 8=gi a) r.right.length ?_ ?_
            · refine ⟨0,is',by omega,hlen',rfl,.inl ⟨rfl,rfl⟩,?_⟩
              simp (disch:=omega) only [↓wr,↓reduceIte,wq,ah,ag,ak,ab,ae,af,ai,isNil,Nat.reduceEqDiff,Nat.reduceAdd,Nat.reduceLT,Nat.reduceLeDiff,Int.reduceNeg,Int.reduceToNat,reduceCtorEq,e1,e3,e4,e5,e6,em,hne,ax,encS,bD]
              exact ⟨rfl,rfl⟩
            · rintro q T3 H3 ⟨a,is3,hq,hlen3,ha,hcase,d1,d3,d4,dm,d5,d6,d7,db,d8⟩
              simp (disch:=omega) only [↓wr,↓reduceIte,wq,ah,ag,ak,ab,ae,af,ai,isNil,Nat.reduceEqDiff,Nat.reduceAdd,Nat.reduceLT,Nat.reduceLeDiff,Int.reduceNeg,Int.reduceToNat,reduceCtorEq,iu,d1,d3,d4,d5,d6,d7,d8,db,bD,encI]
              have hgl:is3[r.left.toNat]?=some (is3[r.left.toNat]'(by omega)):=List.getElem?_eq_getElem (by omega)
              have hgl2:is3.getD r.left.toNat false=is3[r.left.toNat]'(by omega):=by simp[List.getD_eq_getElem?_getD,hgl]
              have hbg:=nR (show r.left.toNat < is3.length by omega)
              have hoff:(is'.getD r.left.toNat false && dP r.right p true)=false→ej p is' r=is3:=fun hW=>by
                rcases hcase with ⟨_,rfl⟩ | ⟨h1,_⟩
                · rw[ej,hW]; rfl
                · rw[hW] at h1; simp at h1
              generalize is3[r.left.toNat]'(by omega)=tl at hgl hgl2 hbg
              refine ar.dec (fun ht=>?_) (fun ht=>?_)
              · have hg3:r.right[a]?=some (r.right[a]'(by omega)):=List.getElem?_eq_getElem (by omega)
                rw[c9 (show a < r.right.length by omega)] at ha
                have hms:r.right[a]'(by omega)∈r.right:=List.getElem_mem _
                generalize r.right[a]'(by omega)=s at hg3 ha hms
                simp only[List.foldl_cons] at ha
                have hin:=hs2 s hms
                simp (disch:=omega) only [↓wr,↓reduceIte,wq,ah,ag,ak,ab,ae,af,ai,isNil,Nat.reduceEqDiff,Nat.reduceAdd,Nat.reduceLT,Nat.reduceLeDiff,Int.reduceNeg,Int.reduceToNat,reduceCtorEq,d1,d3,d4,d5,d6,d7,d8,db,dm,bD,encI,hbg,List.length_map]
                refine ⟨by omega,by omega,?_⟩
                refine ar.split (fun htl=>?_) (fun htl=>?_)
                · simp (disch:=omega) only [↓wr,↓reduceIte,wq,ah,ag,ak,ab,ae,af,ai,isNil,Nat.reduceEqDiff,Nat.reduceAdd,Nat.reduceLT,Nat.reduceLeDiff,Int.reduceNeg,Int.reduceToNat,reduceCtorEq,d1,d3,d4,d5,d6,d7,d8,db,dm,bD,encI,hbg,List.length_map]
                  refine aN.pure hall (by kernel_rfl) ?_
                  simp (disch:=omega) only [↓wr,↓reduceIte,wq,ah,ag,ak,ab,ae,af,ai,isNil,Nat.reduceEqDiff,Nat.reduceAdd,Nat.reduceLT,Nat.reduceLeDiff,Int.reduceNeg,Int.reduceToNat,reduceCtorEq,d1,d3,d4,d5,d6,d7,d8,db,dm,bD,encI]
                  refine ar.split (fun hal=>?_) (fun hal=>?_)
                  · simp (disch:=omega) only [↓wr,↓reduceIte,wq,ah,ag,ak,ab,ae,af,ai,isNil,Nat.reduceEqDiff,Nat.reduceAdd,Nat.reduceLT,Nat.reduceLeDiff,Int.reduceNeg,Int.reduceToNat,reduceCtorEq,d1,d3,d4,d5,d6,d7,d8,db,dm,bD,encI,List.getElem?_map,hg3,Option.map_some]
                    have hW:(is'.getD r.left.toNat false && dP r.right p true)=true∧is3.getD r.left.toNat false=true:=by
                      rcases hcase with ⟨_,rfl⟩ | h1
                      · exact ⟨by rw[hgl2,htl,hal]; rfl,by rw[hgl2,htl]⟩
                      · exact h1
                    refine ar.dec (fun hsn=>?_) (fun hsn=>?_)
                    · have hng:=hf.neg hmem hms hsn
                      have hin1:=hin.1
                      have hms2:mark is3 s=is3.set (-1 - s).toNat true:=by rw[mark,if_pos hsn]
                      simp (disch:=omega) only [↓wr,↓reduceIte,wq,ah,ag,ak,ab,ae,af,ai,isNil,Nat.reduceEqDiff,Nat.reduceAdd,Nat.reduceLT,Nat.reduceLeDiff,Int.reduceNeg,Int.reduceToNat,reduceCtorEq,d1,d3,d4,d5,d6,d7,d8,db,dm,bD,encI,List.getElem?_map,hg3,Option.map_some,nR (show (-1 - s).toNat < is3.length by omega),List.length_map,hne.symm]
                      rw[hms2] at ha
                      exact ⟨by omega,by omega,q - 1,by omega,a+1,is3.set (-1 - s).toNat true,by omega,by simp[hlen3],ha,.inr ⟨hW.1,M8 hW.2⟩,by rw[rX],by first | rfl | exact ⟨rfl,rfl⟩⟩
                    · have hms2:mark is3 s=is3:=by rw[mark,if_neg hsn]
                      rw[hms2] at ha
                      simp (disch:=omega) only [↓wr,↓reduceIte,wq,ah,ag,ak,ab,ae,af,ai,isNil,Nat.reduceEqDiff,Nat.reduceAdd,Nat.reduceLT,Nat.reduceLeDiff,Int.reduceNeg,Int.reduceToNat,reduceCtorEq,d1,d3,d4,d5,d6,d7,d8,db,dm]
                      exact ⟨q - 1,by omega,a+1,is3,by omega,hlen3,ha,.inr hW,by first | rfl | exact ⟨rfl,rfl⟩ | exact ⟨rfl,rfl,rfl⟩⟩
                  · simp (disch:=omega) only [↓wr,↓reduceIte,wq,ah,ag,ak,ab,ae,af,ai,isNil,Nat.reduceEqDiff,Nat.reduceAdd,Nat.reduceLT,Nat.reduceLeDiff,Int.reduceNeg,Int.reduceToNat,reduceCtorEq,d1,d3,d4,d5,d6,d7,d8,db,dm,bD,encI]
                    have hst:=hoff (by rw[hal,Bool.and_false])
                    exact ⟨k' - 1,by omega,j+1,is3,by omega,hlen3,by rw[← hst]; exact hj,rfl,rfl,rfl⟩
                · simp (disch:=omega) only [↓wr,↓reduceIte,wq,ah,ag,ak,ab,ae,af,ai,isNil,Nat.reduceEqDiff,Nat.reduceAdd,Nat.reduceLT,Nat.reduceLeDiff,Int.reduceNeg,Int.reduceToNat,reduceCtorEq,d1,d3,d4,d5,d6,d7,d8,db,dm,bD,encI,hbg,List.length_map]
                  have hst:ej p is' r=is3:=by
                    rcases hcase with ⟨_,rfl⟩ | ⟨_,h1⟩
                    · rw[ej,hgl2,htl]; rfl
                    · rw[hgl2,htl] at h1; simp at h1
                  exact ⟨k' - 1,by omega,j+1,is3,by omega,hlen3,by rw[← hst]; exact hj,rfl,rfl,rfl⟩
              · simp (disch:=omega) only [↓wr,↓reduceIte,wq,ah,ag,ak,ab,ae,af,ai,isNil,Nat.reduceEqDiff,Nat.reduceAdd,Nat.reduceLT,Nat.reduceLeDiff,Int.reduceNeg,Int.reduceToNat,reduceCtorEq,d1,d3,d4,d5,d6,d7,d8,db,dm,bD,encI]
                rw[List.drop_eq_nil_of_le (by omega),List.foldl_nil] at ha
                have hst:ej p is' r=is3:=by
                  rcases hcase with ⟨h0,rfl⟩ | ⟨h1,_⟩
                  · unfold ej
                    split
                    · exact ha.symm
                    · rfl
                  · rw[ej,if_pos h1]; exact ha.symm
                exact ⟨k' - 1,by omega,j+1,is3,by omega,hlen3,by rw[← hst]; exact hj,rfl,rfl,rfl⟩
          · rw[List.drop_eq_nil_of_le (by omega),List.foldl_nil] at hj
            simp (disch:=omega) only [↓wr,↓reduceIte,wq,ah,ag,ak,ab,ae,af,ai,isNil,Nat.reduceEqDiff,Nat.reduceAdd,Nat.reduceLT,Nat.reduceLeDiff,Int.reduceNeg,Int.reduceToNat,reduceCtorEq,e1,e3,e4,e5,e6]
            obtain ⟨q,rfl⟩:∃ q,k=q+1:=⟨k - 1,by omega⟩
            exact ⟨q,by omega,i+1,is',by omega,hlen',by rw[hj]; exact hi,rfl,em,rfl⟩
      · simp (disch:=omega) only [↓wr,↓reduceIte,wq,ah,ag,ak,ab,ae,af,ai,isNil,Nat.reduceEqDiff,Nat.reduceAdd,Nat.reduceLT,Nat.reduceLeDiff,Int.reduceNeg,Int.reduceToNat,reduceCtorEq,f1,f3,f4,f5,fm]
        have:k=0:=by omega
        subst this
        rintro h' rfl
        simp only[← hi,iter]
        rw[← hlen]
        exact sd fm
  · rename_i hr
    rintro h' rfl
    simp only[bN,hr]
    exact .emp 1
theorem Cy (g:ay) (hg:g.Ok):bY Tryz.prog 116 [.agg (ax g)] (cY (bN g)):=bY.of (hQ g) (BY g hg _)
def zK:DF:=⟨.seq (aj [aM 2 false]) <|
  .seq (.region [] [⟨none,[aa 3 0,aJ 4 135 [3],aa 5 4]⟩,⟨(some (5,false)),[aa 6 0,((some 7),.op (.arith .eql (.tmp 6) (.val (.val (.int .u8 46)))))]⟩,⟨none,[aS 8 5 7,aa 9 8]⟩,⟨(some (9,false)),[aa 10 0,((some 11),.op (.arith .geq (.tmp 10) (.val (.val (.int .u8 48))))),aa 12 11]⟩,⟨(some (12,true)),[aa 13 0,((some 14),.op (.arith .leq (.tmp 13) (.val (.val (.int .u8 57)))))]⟩,⟨(some (9,false)),[bq 15 12 14]⟩,⟨none,[aS 16 9 15,aa 2 16]⟩]) <|
  .ret,
  [.tmp 2],17⟩
theorem B1:aO Tryz.prog 136 []=some zK:=by kernel_rfl
def yc:DF:=⟨.seq (aj [aM 2 false]) <|
  .seq (.region [] [⟨none,[aa 3 0,((some 4),.op (.arith .eql (.tmp 3) (.val (.val (.int .u8 95))))),aa 5 4]⟩,⟨(some (5,false)),[aa 6 0,((some 7),.op (.arith .or (.tmp 6) (.val (.val (.int .u8 32))))),((some 8),.op (.arith .geq (.tmp 7) (.val (.val (.int .u8 97))))),aa 9 8]⟩,⟨(some (9,true)),[aa 10 0,((some 11),.op (.arith .or (.tmp 10) (.val (.val (.int .u8 32))))),((some 12),.op (.arith .leq (.tmp 11) (.val (.val (.int .u8 122)))))]⟩,⟨(some (5,false)),[bq 13 9 12]⟩,⟨none,[aS 14 5 13,aa 2 14]⟩]) <|
  .ret,
  [.tmp 2],15⟩
theorem Br:aO Tryz.prog 135 []=some yc:=by kernel_rfl
def zO:DF:=⟨.seq (aj [aM 2 false]) <|
  .seq (.region [] [⟨none,[aa 3 0,((some 4),.op (.arith .geq (.tmp 3) (.val (.val (.int .u8 32))))),aa 5 4]⟩,⟨(some (5,true)),[aa 6 0,((some 7),.op (.arith .leq (.tmp 6) (.val (.val (.int .u8 126)))))]⟩,⟨none,[bq 8 5 7,aa 9 8]⟩,⟨(some (9,true)),[aa 10 0,((some 11),.op (.arith .neq (.tmp 10) (.val (.val (.int .u8 39)))))]⟩,⟨none,[bq 12 9 11,aa 13 12]⟩,⟨(some (13,true)),[aa 14 0,((some 15),.op (.arith .neq (.tmp 14) (.val (.val (.int .u8 92)))))]⟩,⟨none,[bq 16 13 15,aa 2 16]⟩]) <|
  .ret,
  [.tmp 2],17⟩
theorem Cc:aO Tryz.prog 235 []=some zO:=by kernel_rfl
def wM:DF:=⟨.seq (aj [aM 2 false]) <|
  .seq (.region [] [⟨none,[aa 3 0,((some 4),.op (.arith .eql (.tmp 3) (.val (.val (.int .u8 110))))),aa 5 4]⟩,⟨(some (5,false)),[aa 6 0,((some 7),.op (.arith .eql (.tmp 6) (.val (.val (.int .u8 116)))))]⟩,⟨none,[aS 8 5 7,aa 9 8]⟩,⟨(some (9,false)),[aa 10 0,((some 11),.op (.arith .eql (.tmp 10) (.val (.val (.int .u8 92)))))]⟩,⟨none,[aS 12 9 11,aa 13 12]⟩,⟨(some (13,false)),[aa 14 0,((some 15),.op (.arith .eql (.tmp 14) (.val (.val (.int .u8 39)))))]⟩,⟨none,[aS 16 13 15,aa 2 16]⟩]) <|
  .ret,
  [.tmp 2],17⟩
theorem As:aO Tryz.prog 236 []=some wM:=by kernel_rfl
def tH:List (FuncId × DF):=[(136,zK),(135,yc),(235,zO),(236,wM)]
theorem si:vw Tryz.prog tH:=by
  intro p hp
  simp only[tH,List.mem_cons,List.not_mem_nil,or_false] at hp
  rcases hp with rfl | rfl | rfl | rfl
  · exact ⟨_,B1⟩
  · exact ⟨_,Br⟩
  · exact ⟨_,Cc⟩
  · exact ⟨_,As⟩
theorem NX (P:Program):qF P (fun _ _ _=>none):=fun _ _ _ _ h=>by simp at h
def PA (o:Option V) (b:Bool):Bool:=match o with
  | some (.val (.bool c))=>c == b
  | _=>false
theorem O6 {o:Option V} {b:Bool} (h:PA o b=true):o=some (gb b):=by
  unfold PA at h
  split at h
  · rw[beq_iff_eq] at h; rw[h]
  · simp at h
noncomputable def x4 (tab:List (FuncId × DF)) (f:FuncId) (p:Int→Bool):Bool:=(List.range 256).all fun c=>PA (qg Tryz.prog tab (fun _ _ _=>none) f [gy (c:Int)]) (p (c:Int))
theorem vF {tab:List (FuncId × DF)} (ht:vw Tryz.prog tab) {f:FuncId} {p:Int→Bool} (h:x4 tab f p=true) (c:Int) (h0:0≤c) (h1:c≤255):aI Tryz.prog f [gy c] (gb (p c)):=by
  have:=List.all_eq_true.1 h c.toNat (by simp; omega)
  rw[show ((c.toNat:Nat):Int)=c by omega] at this
  exact (je mixed ht (NX _) (by intro v hv; simp at hv; subst hv; exact .val _) (O6 this)).pure
def xI (c:Int):Bool:=decide (32≤c) && decide (c≤126) && c != 39 && c != 92
def Cm (c:Int):Bool:=c == 110 || c == 116 || c == 92 || c == 39
theorem Jq:x4 tH 135 uF=true:=by kernel_rfl
theorem JP:x4 tH 136 lu=true:=by kernel_rfl
theorem KH:x4 tH 235 xI=true:=by kernel_rfl
theorem Oa:x4 tH 236 Cm=true:=by kernel_rfl
theorem Dz {s:ByteArray} {c:Int} (h:c∈dR s):0≤c∧c≤255:=by
  unfold dR at h
  obtain ⟨b,_,rfl⟩:=List.mem_map.1 h
  have:=b.toNat_lt
  omega
theorem LY (s:ByteArray):eT s=(dR s).map fun x=>[gy x]:=by simp[eT,dR]
end Gv
