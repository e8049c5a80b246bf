/-
  Part 7 of the proof: what the machine does and what the functions answer.
  Conditions: those that each lemma names.
-/
import Derived.Test.YtomcjampldmjoaaGreatSGzWF
set_option linter.unusedSimpArgs false
set_option linter.unusedVariables false
set_option maxRecDepth 100000
namespace Gv
open Go Go.Proofs
section
variable {P:Program} {n:Nat} {all:List Oper}
def fj (h:aE) (e:ES):Prop:=e.V=h.view∧e.n=h.length
def Calm (e e':ES) (h h':aE):Prop:=h.length≤h'.length∧(∀ id,id < h.length→¬ id∈e'.w→h'.view id=h.view id∧¬ id∈e.w)
theorem Calm.trans {a b c:ES} {h1 h2 h3:aE} (x:Calm a b h1 h2) (y:Calm b c h2 h3):Calm a c h1 h3 :=
  ⟨Nat.le_trans x.1 y.1,fun id hid hw =>
    let ⟨e1,d1⟩:=y.2 id (Nat.lt_of_lt_of_le hid x.1) hw
    let ⟨e2,d2⟩:=x.2 id hid d1
    ⟨e1.trans e2,d2⟩⟩
theorem Calm.refl (e:ES) (h:aE):Calm e e h h:=⟨Nat.le_refl _,fun _ _ hw=>⟨rfl,hw⟩⟩
def gV (P:Program) (call:eS):Prop:=∀ g vs e v e' h,call g vs e=some (v,e')→fj h e →
  ca P g=true∧∃ h',bS P g vs h v h'∧fj h' e'∧(∀ id,id < h.length→¬ id∈e'.w→h'.view id=h.view id)∧∀ id,id∈e'.w→id < h.length
def tf (P:Program) (run:uM):Prop:=∀ (n:Nat) (fz:List Nat) (c:Code) (sc:DC),fD P n fz c=some sc→n≤8000→∀ (e e':ES) (r:Exit) (h:aE),run sc e=some (r,e')→fj h e →
  ∃ h',bR P n c e.T h r e'.T h'∧fj h' e'∧Calm e e' h h'∧∀ c0,c=.loop c0→mf P n c0 e.T h r e'.T h'
theorem HN {h:aE} {e:ES} {d:Option Nat} {v:V} (he:fj h e):fj h (e.put d v):=by cases d <;> exact he
theorem KY {e:ES} {d:Option Nat} {v:V} : (e.put d v).w=e.w:=by cases d <;> rfl
theorem JP {h:aE} {e e':ES} {h':aE} {d:Option Nat} {v:V} (x:Calm e e' h h'):Calm e (e'.put d v) h h':=⟨x.1,fun id hid hw=>x.2 id hid (by rw[KY] at hw; exact hw)⟩
theorem zI {a:Nat} (h:Nat.ble a 8000=true):a+1 < 2 ^ 13:=by
  have:=Nat.le_of_ble_eq_true h
  omega
theorem L0 {h:aE} {e e':ES} {v v':V} {aB:aZ} {rd:List Nat} {c:Rec} (he:fj h e) (hx:Dq v aB rd e=some (v',e',c)) :
    v'=v∧e'.T=e.T∧e'.V=aB.view h.view h.length∧e'.n=(aB.apply h).length∧c=⟨rd,aB.wr,false,h.length,(aB.apply h).length⟩∧e'.w=aB.wr ++ e.w:=by
  obtain ⟨h1,h2⟩:=he
  unfold Dq at hx
  cases aB with
  | none =>
    simp only[Option.some.injEq,Prod.mk.injEq] at hx
    obtain ⟨rfl,rfl,rfl⟩:=hx
    exact ⟨rfl,rfl,h1,h2,by rw[h2]; rfl,rfl⟩
  | new o =>
    simp only at hx
    split at hx
    · rename_i hb
      simp only[Option.some.injEq,Prod.mk.injEq] at hx
      obtain ⟨rfl,rfl,rfl⟩:=hx
      refine ⟨rfl,rfl,?_,by simp[en,h2],by simp[en,h2,aZ.wr],rfl⟩
      funext k
      simp only[ES.V,aZ.view,View.set]
      rw[bL.jF _ _ _ _ _ _ (zI hb),h2]
      have:=congrFun h1 k
      simp only[ES.V] at this
      rw[this]
    · simp at hx
  | eJ id o =>
    simp only at hx
    split at hx
    · rename_i hb
      simp only[Option.some.injEq,Prod.mk.injEq] at hx
      obtain ⟨rfl,rfl,rfl⟩:=hx
      refine ⟨rfl,rfl,?_,by simp[en,h2],by simp[en,h2,aZ.wr],rfl⟩
      funext k
      simp only[ES.V,aZ.view,View.set]
      rw[bL.jF _ _ _ _ _ _ (zI hb)]
      have:=congrFun h1 k
      simp only[ES.V] at this
      rw[this]
    · simp at hx
  | aW id o =>
    simp only at hx
    split at hx
    · rename_i hb1 hb2
      simp only[Option.some.injEq,Prod.mk.injEq] at hx
      obtain ⟨rfl,rfl,rfl⟩:=hx
      refine ⟨rfl,rfl,?_,by simp[en,h2],by simp[en,h2,aZ.wr],rfl⟩
      funext k
      simp only[ES.V,aZ.view,View.set]
      rw[bL.jF _ _ _ _ _ _ (zI hb1),bL.jF _ _ _ _ _ _ (zI hb2),h2]
      have:=congrFun h1 k
      simp only[ES.V] at this
      rw[this]
    · simp at hx
theorem Mq {o:Oper} {e e':ES} {h:aE} {s:SI} {v:V} {c:Rec} (hg:cd n all e.T o=some true) (hc:∀ v aB rd,sI P s e.T h.view h.length=some (v,aB,rd)→bF P o e.T h.view h.length=some (v,aB,rd))
    (he:fj h e) (hx:HF P s e=some (v,e',c)):∃ h',cA P n all o e.T h v h' c.rd c.wr c.call∧fj h' e'∧e'.T=e.T∧Calm e e' h h'∧gU (pZ P s) c.rd c.wr c.call h.length h'.length∧c.lo=h.length∧c.hi=h'.length:=by
  unfold HF at hx
  rw[Gx,he.1,he.2] at hx
  split at hx
  · rename_i v0 aB rd hs
    obtain ⟨rfl,g1,g2,g3,rfl,g5⟩:=L0 he hx
    have ha:=hc _ _ _ hs
    have st:=cA.op (P:=P) (n:=n) (all:=all) hg ha
    refine ⟨aB.apply h,st,⟨?_,g3⟩,g1,⟨qj st,fun id hid hw=>?_⟩,⟨fun h0=>?_,fun h1=>?_⟩,rfl,rfl⟩
    · rw[ia (fun id hid=>(jw ha id hid).1)]; exact g2
    · rw[g5] at hw
      simp only[List.mem_append,not_or] at hw
      exact ⟨oF st hid hw.1,hw.2⟩
    · obtain ⟨rfl,rfl⟩:=(oI hs).1 h0
      exact ⟨rfl,rfl,rfl,rfl⟩
    · rcases Nat.lt_or_ge (pZ P s) 1 with h2 | h2
      · obtain ⟨rfl,rfl⟩:=(oI hs).1 (by omega); rfl
      · exact (oI hs).2 (by omega)
  · simp at hx
theorem NA {call:eS} (hcall:gV P call) {fz:Fz} {o:Oper} {e e':ES} {h:aE} {v:V} {c:Rec} (hg:cd n all e.T o=some true) (he:fj h e) (hx:eB P call (kk P fz o) e=some (v,e',c)) :
    ∃ h',cA P n all o e.T h v h' c.rd c.wr c.call∧fj h' e'∧e'.T=e.T∧Calm e e' h h'∧gU (fE P false (kk P fz o)) c.rd c.wr c.call h.length h'.length∧c.lo=h.length∧c.hi=h'.length:=by
  rcases xN P fz o with ⟨f,args,ats,ho,hc⟩ | ⟨t,x,ho,hc⟩ | ⟨s,d,x,ho,hcv,hc⟩ | hc
  · rw[hc] at hx ⊢
    simp only[eB,Ib] at hx
    split at hx
    · rename_i g first cap hf
      rw[DQ] at hx
      rw[SX.bO] at hf
      split at hx
      · rename_i v0 e0 hv
        obtain ⟨hok,h',hr,hek,hd,hd2⟩:=hcall _ _ _ _ _ _ hv he
        simp only[Option.some.injEq,Prod.mk.injEq] at hx
        obtain ⟨rfl,rfl,rfl⟩:=hx
        exact ⟨h',.call hg ho hf hok hr hd hd2,hek,rfl,⟨hr.1,fun id hid hw=>by
          simp only[List.mem_append,not_or] at hw
          exact ⟨hd id hid hw.1,hw.2⟩⟩,KQ (by simp[fE]),he.2,hek.2⟩
      · simp at hx
    · simp at hx
  · rw[hc] at hx ⊢
    simp only[eB,HF,Gx,sI,SX.bO] at hx
    split at hx
    · rename_i v0 aB rd hs
      split at hs
      · rename_i hok
        simp only[Option.some.injEq,Prod.mk.injEq] at hs
        obtain ⟨rfl,rfl,rfl⟩:=hs
        simp only[Dq,Option.some.injEq,Prod.mk.injEq] at hx
        obtain ⟨rfl,rfl,rfl⟩:=hx
        exact ⟨h,.fL hg ho hok,he,rfl,Calm.refl _ _,⟨fun _=>⟨rfl,rfl,rfl,rfl⟩,fun _=>rfl⟩,he.2,he.2⟩
      · simp at hs
    · simp at hx
  · rw[hc] at hx ⊢
    obtain ⟨ty,h1,h2,h3⟩:=xI hcv
    simp only[eB,HF,Gx,sI,SX.bO] at hx
    split at hx
    · rename_i v0 aB rd hs
      split at hs
      · rename_i st hst
        simp only[Option.some.injEq,Prod.mk.injEq] at hs
        obtain ⟨rfl,rfl,rfl⟩:=hs
        simp only[Dq,Option.some.injEq,Prod.mk.injEq] at hx
        obtain ⟨rfl,rfl,rfl⟩:=hx
        exact ⟨h,.dV hg ho h1 h2 h3 hst,he,rfl,Calm.refl _ _,⟨fun _=>⟨rfl,rfl,rfl,rfl⟩,fun _=>rfl⟩,he.2,he.2⟩
      · simp at hs
    · simp at hx
  · rw[hc] at hx ⊢
    exact Mq (s:=wJ P fz.fr (comp P o)) hg (fun v aB rd hs=>EM (Fa hs)) he hx
theorem Ml {o:Oper} (hd:og n o=true) (hn:n≤8000):∀ t,o.dst=some t→t < 8000:=by
  intro t ht
  unfold og at hd
  rw[ht] at hd
  have:t < n:=by simpa using hd
  exact Nat.lt_of_lt_of_le this hn
theorem LS {c:Rec} {a b:Nat} (h1:c.lo=a) (h2:c.hi=b):c=⟨c.rd,c.wr,c.call,a,b⟩:=by cases c; subst h1; subst h2; rfl
theorem Cw {call:eS} (hcall:gV P call) (hn:n≤8000) {fz:Fz} (g:Option (Nat × Bool)):∀ (l:List (Option Nat × SB)) (os:List Oper) (e e':ES) (h:aE) (a a':List Rec),
    ct P n all fz os=some (l.map fun (d,b)=>⟨d,g,b⟩)→(∀ d w,g=some (d,w)→e.T d=.val (.bool w)∧(l.all fun x=>x.1 != some d)=true)→fj h e→Fj P call l a e=some (e',a') →
    ∃ recs h',a'=a ++ recs∧Tr P n all os e.T h recs e'.T h'∧fj h' e'∧Calm e e' h h'∧dT P false (l.map fun (d,b)=>⟨d,g,b⟩) recs
  | [],os,e,e',h,a,a',hc,hg,he,hx=>by
    have:=iv hc; subst this
    simp only[Fj,Option.some.injEq,Prod.mk.injEq] at hx; obtain ⟨rfl,rfl⟩:=hx
    exact ⟨[],h,by simp,.nil,he,Calm.refl _ _,.nil⟩
  | (d,b) :: l,os,e,e',h,a,a',hc,hg,he,hx=>by
    obtain ⟨o,r,rfl,h1,h2⟩:=jd hc
    obtain ⟨hd,hd1,hb1,hg1⟩:=qq h1
    simp only at hd1 hb1 hg1
    have hgv:cd n all e.T o=some true:=by
      cases g with
      | none=>exact yC hg1
      | some p =>
        obtain ⟨d',w⟩:=p
        have:=(iz (T:=e.T) hg1).1 w (hg d' w rfl).1
        rw[this]; simp
    simp only[Fj] at hx
    rw[hb1] at hx
    split at hx
    · rename_i v e1 c hv
      obtain ⟨h1',st,he1,hT1,hcm,hl,hlo,hhi⟩:=NA hcall hgv he hv
      have hput:(e1.put d v).T=e.T.put o.dst v:=by
        rw[ES.Ll (by rw[hd1]; exact Ml hd hn),hT1,hd1]
      obtain ⟨recs,h'',ha,tr,he2,hcm2,hro⟩:=Cw hcall hn g l r (e1.put d v) e' h1' _ a' h2 (fun d' w eq=>by
        have:=hg d' w eq
        simp only[List.all_cons,Bool.and_eq_true,bne_iff_ne,ne_eq] at this
        refine ⟨?_,this.2.2⟩
        rw[← this.1,hput,← hd1]
        cases d with
        | none=>rfl
        | some t=>simp only[Env.put]; rw[if_neg]; intro e; subst e; exact this.2.1 rfl) (HN he1) hx
      rw[hput] at tr
      refine ⟨_,h'',?_,.cons st hd tr,he2,(JP hcm).trans hcm2,hro.cons (by rw[hb1]; exact hl)⟩
      rw[ha,List.append_assoc,← LS hlo hhi]; rfl
    · simp at hx
theorem Cp {fz:Fz} (hn:n≤8000) (d:Nat) (w:Bool) (h:aE):∀ (l:List (Option Nat × SB)) (os:List Oper) (e e':ES) (a a':List Rec),
    ct P n all fz os=some (l.map fun (d',b)=>⟨d',some (d,w),b⟩)→(e.T d=.val (.bool !w)∨e.T d=.bh [])→(l.all fun x=>x.1 != some d)=true→fj h e→uj l a e=(e',a') →
    ∃ recs,a'=a ++ recs∧Tr P n all os e.T h recs e'.T h∧fj h e'∧e'.w=e.w∧dT P false (l.map fun (d',b)=>⟨d',some (d,w),b⟩) recs
  | [],os,e,e',a,a',hc,hd,hl,he,hx=>by
    have:=iv hc; subst this
    simp only[uj,Prod.mk.injEq] at hx; obtain ⟨rfl,rfl⟩:=hx
    exact ⟨[],by simp,.nil,he,rfl,.nil⟩
  | (d',b) :: l,os,e,e',a,a',hc,hd,hl,he,hx=>by
    obtain ⟨o,r,rfl,h1,h2⟩:=jd hc
    obtain ⟨hd0,hd1,hb1,hg1⟩:=qq h1
    simp only at hd1 hb1 hg1
    have hgv:cd n all e.T o=some false:=by
      rcases hd with hd | hd
      · rw[(iz (T:=e.T) hg1).1 _ hd]; cases w <;> rfl
      · exact (iz (T:=e.T) hg1).2 hd
    simp only[List.all_cons,Bool.and_eq_true,bne_iff_ne,ne_eq] at hl
    have hput:(e.put d' (.bh [])).T=e.T.put o.dst (.bh []):=by
      rw[ES.Ll (by rw[hd1]; exact Ml hd0 hn),hd1]
    simp only[uj] at hx
    obtain ⟨recs,ha,tr,he2,hd2,hro⟩:=Cp hn d w h l r (e.put d' (.bh [])) e' _ a' h2 (by
      have:(e.put d' (.bh [])).T d=e.T d:=by
        rw[hput,← hd1]
        cases d' with
        | none=>rfl
        | some t=>simp only[Env.put]; rw[if_neg]; intro e; subst e; exact hl.1 rfl
      rw[this]; exact hd) hl.2 (HN he) hx
    rw[hput] at tr
    refine ⟨_,?_,Tr.cons (.skip hgv) hd0 tr,he2,by rw[hd2,KY],hro.cons (r:=⟨[],[],false,h.length,h.length⟩) ⟨fun _=>⟨rfl,rfl,rfl,rfl⟩,fun _=>rfl⟩⟩
    rw[ha,List.append_assoc,Lm,he.2]; rfl
theorem BJ {fz:Fz} (hn:n≤8000) {d:Nat} {w:Bool} {h:aE} {l:List (Option Nat × SB)} {os:List Oper} {e e':ES} {a a':List Rec}
    (hc:ct P n all fz os=some (l.map fun (d',b)=>⟨d',some (d,w),b⟩)) (hd:e.T d=.val (.bool !w)∨e.T d=.bh []) (hl:(l.all fun x=>x.1 != some d)=true) (he:fj h e) (hx:uj l a e=(e',a')) :
    ∃ recs h',a'=a ++ recs∧Tr P n all os e.T h recs e'.T h'∧fj h' e'∧Calm e e' h h'∧dT P false (l.map fun (d',b)=>⟨d',some (d,w),b⟩) recs:=by
  obtain ⟨recs,h1,h2,h3,h4,h5⟩:=Cp hn d w h l os e e' a a' hc hd hl he hx
  exact ⟨recs,h,h1,h2,h3,⟨Nat.le_refl _,fun id _ hw=>⟨rfl,by rw[h4] at hw; exact hw⟩⟩,h5⟩
theorem Nj {call:eS} (hcall:gV P call) (hn:n≤8000) {fz:Fz} {g:SG} {os:List Oper} {e e':ES} {h:aE} {a a':List Rec} (hc:ct P n all fz os=some g.flat) (hok:pS g=true) (he:fj h e) (hx:eG P call g a e=some (e',a')) :
    ∃ recs h',a'=a ++ recs∧Tr P n all os e.T h recs e'.T h'∧fj h' e'∧Calm e e' h h'∧dT P false g.flat recs:=by
  unfold eG at hx
  unfold SG.flat at hc ⊢
  unfold pS at hok
  split at hx
  · rename_i hg
    rw[hg] at hc ⊢
    exact Cw hcall hn none g.ops os e e' h a a' hc (fun d w e=>by simp at e) he hx
  · rename_i d want hg
    rw[hg] at hc hok ⊢
    simp only at hok
    unfold HJ at hx
    split at hx
    · rename_i b hb
      split at hx
      · rename_i hxor
        simp only[Option.some.injEq] at hx
        have e':b = !want:=by cases b <;> cases want <;> simp_all
        subst e'
        exact BJ hn hc (.inl hb) hok he hx
      · rename_i hxor
        have e':b=want:=by cases b <;> cases want <;> simp_all
        subst e'
        exact Cw hcall hn (some (d,b)) g.ops os e _ h a a' hc (fun d' w e=>by simp at e; obtain ⟨rfl,rfl⟩:=e; exact ⟨hb,hok⟩) he hx
    · rename_i hb
      simp only[Option.some.injEq] at hx
      exact BJ hn hc (.inr hb) hok he hx
    · simp at hx
theorem I9 {call:eS} (hcall:gV P call) (hn:n≤8000) {fz:Fz} : ∀ (gs:List SG) (os:List Oper) (e e':ES) (h:aE) (a a':List Rec),ct P n all fz os=some (gz gs)→gs.all pS=true→fj h e→HU P call gs a e=some (e',a') →
    ∃ recs h',a'=a ++ recs∧Tr P n all os e.T h recs e'.T h'∧fj h' e'∧Calm e e' h h'∧dT P false (gz gs) recs
  | [],os,e,e',h,a,a',hc,_,he,hx=>by
    have:=iv hc; subst this
    simp only[HU,Option.some.injEq,Prod.mk.injEq] at hx; obtain ⟨rfl,rfl⟩:=hx
    exact ⟨[],h,by simp,.nil,he,Calm.refl _ _,.nil⟩
  | g :: gs,os,e,e',h,a,a',hc,hok,he,hx=>by
    simp only[gz,List.map_cons,List.flatten_cons] at hc ⊢
    simp only[List.all_cons,Bool.and_eq_true] at hok
    obtain ⟨o1,o2,rfl,h1,h2⟩:=nF hc
    simp only[HU] at hx
    split at hx
    · rename_i e1 a1 hx1
      obtain ⟨r1,h1',ha1,tr1,he1,hc1,ro1⟩:=Nj hcall hn h1 hok.1 he hx1
      obtain ⟨r2,h2',ha2,tr2,he2,hc2,ro2⟩:=I9 hcall hn gs o2 e1 e' h1' a1 a' h2 hok.2 he1 hx
      exact ⟨_,h2',by rw[ha2,ha1,List.append_assoc],tr1.append tr2,he2,hc1.trans hc2,ro1.append ro2⟩
    · simp at hx
theorem Hu {ls:List Nat} {i k x y:Nat} (hik:i < k) (hx:ls[i]?=some x) (hy:ls[k]?=some y) (ho:ordered (dI all []) i k=false) (h:¬ (x=0∨y=0∨(x≤1∧y≤1))):(i,k)∈zl all ls:=by
  unfold zl
  simp only[List.mem_flatten,List.mem_map]
  refine ⟨_,⟨(x,i),by rw[List.mem_zipIdx_iff_getElem?]; exact hx,rfl⟩,?_⟩
  simp only[List.mem_map,List.mem_filter]
  refine ⟨(y,k),⟨by rw[List.mem_zipIdx_iff_getElem?]; exact hy,?_⟩,rfl⟩
  simp only[hik,decide_true,ho,Bool.false_or,Bool.true_and,Bool.not_eq_true',Bool.or_eq_false_iff,beq_eq_false_iff_ne,Bool.and_eq_false_iff,decide_eq_false_iff_not]
  omega
theorem Kr {ls:List Nat} {recs:List Rec} (h:Ht recs (zl all ls)=true) (hl:ls.length=recs.length) (hr:∀ (i x:Nat) (r:Rec),ls[i]?=some x→recs[i]?=some r→gU x r.rd r.wr r.call r.lo r.hi):qD all recs:=by
  intro i k a b hik ha hb ho
  have hi:i < recs.length:=(List.getElem?_eq_some_iff.1 ha).1
  have hk:k < recs.length:=(List.getElem?_eq_some_iff.1 hb).1
  have hx:ls[i]?=some (ls[i]'(by omega)):=List.getElem?_eq_getElem (by omega)
  have hy:ls[k]?=some (ls[k]'(by omega)):=List.getElem?_eq_getElem (by omega)
  generalize ls[i]'(by omega)=x at hx
  generalize ls[k]'(by omega)=y at hy
  have la:=hr i _ a hx ha
  have lb:=hr k _ b hy hb
  by_cases hc:x=0∨y=0∨(x≤1∧y≤1)
  · rcases hc with h1 | h1 | h1
    · obtain ⟨e1,e2,e3,e4⟩:=la.1 h1
      exact ⟨fun id hid=>by simp[e2] at hid,fun id _=>by simp[e1],fun hc=>by simp[e3] at hc,fun _=>e2,fun id _ hx=>by omega⟩
    · obtain ⟨e1,e2,e3,e4⟩:=lb.1 h1
      exact ⟨fun id _=>by simp[e1],fun id hid=>by simp[e2] at hid,fun _=>e2,fun hc=>by simp[e3] at hc,fun id hid=>by simp[e2] at hid⟩
    · have e1:=la.2 h1.1
      have e2:=lb.2 h1.2
      exact ⟨fun id hid=>by simp[e1] at hid,fun id hid=>by simp[e2] at hid,fun _=>e2,fun _=>e1,fun id hid=>by simp[e2] at hid⟩
  · have:=List.all_eq_true.1 h _ (Hu hik hx hy ho hc)
    simp only[ha,hb] at this
    exact Ji this
theorem LO (hm:P.follows .mixedOrders=true) {call:eS} (hcall:gV P call) (hn:n≤8000) {fz:List Nat} {id:Nat} {ops:Array Oper} {draw:Bool} {sc:DC} {run:uM} {e e':ES} {r:Exit} {h:aE}
    (hc:Ct P n fz ops.toList draw=some sc) (he:fj h e) (hx:jl P call run sc e=some (r,e')) :
    ∃ h',bR P n (.region id ops draw) e.T h r e'.T h'∧fj h' e'∧Calm e e' h h':=by
  unfold Ct at hc
  split at hc
  · simp at hc
  · rename_i l hl
    split at hc
    · simp at hc
    · rename_i hok
      have hok:(group l).all pS=true:=by simpa using hok
      have hl':ct P n ops.toList ⟨fz,false⟩ ops.toList=some (gz (group l)):=by rw[dX]; exact hl
      have key:∀ ps,jl P call run (.region ps (group l)) e=some (r,e')→(draw=true→ja ops.toList=true∧ps=zl ops.toList (l.map fun s=>fE P false s.b)) →
          ∃ h',bR P n (.region id ops draw) e.T h r e'.T h'∧fj h' e'∧Calm e e' h h':=by
        intro ps hx hdr
        simp only[jl,FI] at hx
        split at hx
        · rename_i e1 recs0 hx1
          split at hx
          · rename_i hchk
            simp only[Option.some.injEq,Prod.mk.injEq] at hx
            obtain ⟨rfl,rfl⟩:=hx
            obtain ⟨recs,h',ha,tr,hk,hcm,hro⟩:=I9 hcall hn (group l) ops.toList e e1 h [] recs0 hl' hok he hx1
            simp only[List.nil_append] at ha
            subst ha
            rw[dX] at hro
            refine ⟨h',?_,hk,hcm⟩
            cases hd:draw with
            | false=>simpa using Dg (id:=id) tr
            | true =>
              obtain ⟨h1,rfl⟩:=hdr hd
              have hcf:qD ops.toList recs0:=Kr hchk (by simpa using hro.1) (fun i x r hx hr=>by
                simp only[List.getElem?_map,Option.map_eq_some_iff] at hx
                obtain ⟨s,hs,rfl⟩:=hx
                exact hro.2 i s r hs hr)
              simpa using vX hm (id:=id) tr h1 hcf
          · simp at hx
        · simp at hx
      split at hc
      · rename_i hd
        split at hc
        · rename_i ht
          simp at hc; subst hc
          exact key _ hx (fun _=>⟨ht,rfl⟩)
        · simp at hc
      · rename_i hd
        simp at hc; subst hc
        exact key _ hx (fun e=>absurd e hd)
theorem Kb (hm:P.follows .mixedOrders=true) {call:eS} (hcall:gV P call) {run:uM} (hrun:tf P run):tf P (jl P call run):=by
  intro n fz c sc hc hn e e' r h hx he
  cases c with
  | skip =>
    simp[fD] at hc; subst hc
    simp only[jl,IK,Option.some.injEq,Prod.mk.injEq] at hx
    obtain ⟨rfl,rfl⟩:=hx
    exact ⟨h,.skip,he,Calm.refl _ _,fun _ h=>by simp at h⟩
  | region id ops draw =>
    obtain ⟨h',a,b,d⟩:=LO (id:=id) hm hcall hn hc he hx
    exact ⟨h',a,b,d,fun _ h=>by simp at h⟩
  | seq x y =>
    simp only[fD] at hc
    split at hc
    · rename_i a b h1 h2
      simp at hc; subst hc
      simp only[jl,M7] at hx
      split at hx
      · rename_i e1 hx1
        obtain ⟨h1',x1,he1,c1,l1⟩:=hrun n fz x a h1 hn e e1 .normal h hx1 he
        obtain ⟨h2',x2,he2,c2,l2⟩:=hrun n fz y b h2 hn e1 e' r h1' hx he1
        exact ⟨h2',x1.seq x2,he2,c1.trans c2,fun _ h=>by simp at h⟩
      · rename_i hne
        obtain ⟨h1',x1,he1,c1,l1⟩:=hrun n fz x a h1 hn e e' r h hx he
        refine ⟨h1',x1.EP (fun e=>?_),he1,c1,fun _ h=>by simp at h⟩
        subst e
        exact absurd hx (hne e')
    · simp at hc
  | cond cc x y =>
    simp only[fD] at hc
    split at hc
    · rename_i a b h1 h2
      simp at hc; subst hc
      simp only[jl,K9,SX.bO] at hx
      split at hx
      · rename_i ht
        obtain ⟨h1',x1,he1,c1,l1⟩:=hrun n fz x a h1 hn e e' r h hx he
        exact ⟨h1',.cond ht x1,he1,c1,fun _ h=>by simp at h⟩
      · rename_i ht
        obtain ⟨h1',x1,he1,c1,l1⟩:=hrun n fz y b h2 hn e e' r h hx he
        exact ⟨h1',.cond ht x1,he1,c1,fun _ h=>by simp at h⟩
      · simp at hx
    · simp at hc
  | block id c =>
    simp only[fD,Option.map_eq_some_iff] at hc
    obtain ⟨a,h1,rfl⟩:=hc
    simp only[jl,IT] at hx
    split at hx
    · rename_i r1 e1 hx1
      simp only[Option.some.injEq,Prod.mk.injEq] at hx
      obtain ⟨rfl,rfl⟩:=hx
      obtain ⟨h1',x1,he1,c1,l1⟩:=hrun n fz c a h1 hn e e1 r1 h hx1 he
      exact ⟨h1',x1.block,he1,c1,fun _ h=>by simp at h⟩
    · simp at hx
  | loop c =>
    have hc0:=hc
    simp only[fD,Option.map_eq_some_iff] at hc
    obtain ⟨a,h1,rfl⟩:=hc
    simp only[jl,Lo] at hx
    split at hx
    · rename_i e1 hx1
      obtain ⟨h1',x1,he1,c1,l1⟩:=hrun n fz c a h1 hn e e1 .normal h hx1 he
      obtain ⟨h2',x2,he2,c2,l2⟩:=hrun n fz (.loop c) (.loop a) hc0 hn e1 e' r h1' hx he1
      have hL:=mf.step x1 (l2 c rfl)
      exact ⟨h2',.loop hL,he2,c1.trans c2,fun c0 h0=>by simp only[Code.loop.injEq] at h0; subst h0; exact hL⟩
    · rename_i hne
      obtain ⟨h1',x1,he1,c1,l1⟩:=hrun n fz c a h1 hn e e' r h hx he
      have hL:=mf.out x1 (fun e=>by subst e; exact absurd hx (hne e'))
      exact ⟨h1',.loop hL,he1,c1,fun c0 h0=>by simp only[Code.loop.injEq] at h0; subst h0; exact hL⟩
  | exit id =>
    simp[fD] at hc; subst hc
    simp only[jl,Option.some.injEq,Prod.mk.injEq] at hx
    obtain ⟨rfl,rfl⟩:=hx
    exact ⟨h,.exit,he,Calm.refl _ _,fun _ h=>by simp at h⟩
  | ret =>
    simp[fD] at hc; subst hc
    simp only[jl,Option.some.injEq,Prod.mk.injEq] at hx
    obtain ⟨rfl,rfl⟩:=hx
    exact ⟨h,.ret,he,Calm.refl _ _,fun _ h=>by simp at h⟩
  | _=>simp[fD] at hc
theorem AS:∀ (vs:List V) (i:Nat) (t:bL V),i+vs.length≤8000→∀ k,(jW vs i t).get .any k=if i≤k∧k < i+vs.length then vs.getD (k - i) .any else t.get .any k
  | [],i,t,h,k=>by
    rw[jW,if_neg (by simp only[List.length_nil]; omega)]
  | v :: vs,i,t,h,k=>by
    simp only[List.length_cons] at h
    rw[jW,AS vs (i+1) _ (by omega),bL.jF _ _ _ _ _ _ (by simp only[deep]; omega)]
    simp only[List.length_cons]
    by_cases h1:k=i
    · subst h1; rw[if_neg (by omega),if_pos rfl,if_pos (by omega)]; simp
    · by_cases h2:i+1≤k∧k < i+1+vs.length
      · rw[if_pos h2,if_pos (by omega)]
        have:k - i=(k - (i+1))+1:=by omega
        rw[this]; rfl
      · rw[if_neg h2,if_neg h1,if_neg (by omega)]
theorem Eh (vs:List V) (h:vs.length≤8000):(jW vs 0 .nil).get .any=ib vs:=by
  funext k
  rw[AS vs 0 .nil (by omega)]
  simp only[ib,Nat.zero_le,true_and,Nat.zero_add,Nat.sub_zero]
  split
  · rfl
  · rename_i hk
    rw[List.getD_eq_getElem?_getD,List.getElem?_eq_none (by omega)]; rfl
theorem LC {e:ES} {h:aE} {r:ResultVar} {rest:List ResultVar} {l:List SR} (he:fj h e) (hc:dK P (r :: rest)=some l):∃ s l',l=s :: l'∧dK P rest=some l'∧∀ v,JW s e=some v→oP P e.T h r=some v:=by
  cases r with
  | tmp t =>
    simp only[dK,Option.map_eq_some_iff] at hc
    obtain ⟨l',h1,rfl⟩:=hc
    exact ⟨.tmp t,l',rfl,h1,fun v hv=>hv⟩
  | cell a t =>
    simp only[dK] at hc
    split at hc
    · rename_i k l' h1 h2
      simp at hc; subst hc
      refine ⟨.cell a k,l',rfl,h2,fun v hv=>?_⟩
      simp only[JW] at hv
      simp only[oP,jf,tK h1]
      rw[he.1] at hv
      split at hv
      · rename_i id i j ha
        split at hv
        · rename_i es hH
          split at hv
          · rename_i hlt
            rw[ha]; simp only[hH]; rw[if_pos hlt,hv]; rfl
          · simp at hv
        · simp at hv
      · rename_i e j ha
        rw[ha]; simp only; rw[hv]; rfl
      · simp at hv
    · simp at hc
theorem Cc {e:ES} {h:aE} (he:fj h e):∀ (rs:List ResultVar) (l:List SR) (vs:List V),dK P rs=some l→tn l e=some vs→iY P e.T h rs=some vs
  | [],l,vs,hc,hw=>by simp[dK] at hc; subst hc; simp[tn] at hw; subst hw; rfl
  | r :: rest,l,vs,hc,hw=>by
    obtain ⟨s,l',rfl,h1,h2⟩:=LC (e:=e) (h:=h) he hc
    simp only[tn] at hw
    split at hw
    · rename_i v vs' hv hvs
      simp at hw; subst hw
      simp[iY,h2 v hv,Cc he rest l' vs' h1 hvs]
    · simp at hw
def tb (P:Program) (tab:List (FuncId × DF)):Prop:=∀ p∈tab,∃ fz,aK P p.1 fz=some p.2
def ph (P:Program) (ext:vy):Prop:=∀ g vs H t,ext g vs H=some t→ca P g=true∧∀ h:aE,h.view=H→bS P g vs h t h
theorem DD {tab:List (FuncId × DF)} {ext:vy} (ht:tb P tab) (hx:ph P ext) {run:uM} (hrun:tf P run):gV P (BY P tab ext run):=by
  intro g vs e v e' h hcall he
  unfold BY at hcall
  split at hcall
  · rename_i t hext
    simp only[Option.some.injEq,Prod.mk.injEq] at hcall
    obtain ⟨rfl,rfl⟩:=hcall
    obtain ⟨h1,h2⟩:=hx _ _ _ _ hext
    exact ⟨h1,h,h2 h he.1.symm,he,fun _ _ _=>rfl,fun _ hw=>by simp at hw⟩
  · split at hcall
    · rename_i g' F hf
      have hmem:=List.mem_of_find?_eq_some hf
      have hgg:g'=g:=by
        have:=List.find?_some hf
        exact Nat.eq_of_beq_eq_true this
      subst hgg
      obtain ⟨fz,hF⟩:=ht _ hmem
      simp only at hF
      unfold aK at hF
      split at hF
      · rename_i fn hfn
        split at hF
        · rename_i c hb
          split at hF
          · rename_i sc rs h1 h2 h3
            simp at hF; subst hF
            refine ⟨h3,?_⟩
            unfold Mv at hcall
            split at hcall
            · rename_i hlen hn
              have hlen:=Nat.le_of_ble_eq_true hlen
              have hn:=Nat.le_of_ble_eq_true hn
              simp only at hlen hn
              unfold MC at hcall
              split at hcall
              · rename_i v1 e1' hend
                simp only[Option.some.injEq,Prod.mk.injEq] at hcall
                obtain ⟨rfl,rfl⟩:=hcall
                unfold MY at hend
                have go:∀ (r:Exit) (e1:ES),(r=.ret∨r=.normal)→run sc ⟨jW vs 0 .nil,e.H,e.n,[]⟩=some (r,e1)→(tn rs e1).map (fun vs=>(ai vs,e1))=some (v1,e1') →
                    ∃ h',bS P g' vs h v1 h'∧fj h' e1'∧(∀ id,id < h.length→¬ id∈e1'.w→h'.view id=h.view id):=by
                  intro r e1 hr hrn hres
                  simp only[Option.map_eq_some_iff,Prod.mk.injEq] at hres
                  obtain ⟨vs',hvs,rfl,rfl⟩:=hres
                  obtain ⟨h',hx,he1,hc1,_⟩:=hrun fn.ntmps fz c sc h1 hn _ e1 r h hrn he
                  have hT:(ES.T ⟨jW vs 0 .nil,e.H,e.n,[]⟩)=ib vs:=Eh vs (by omega)
                  rw[hT] at hx
                  refine ⟨h',bS.FE hfn hb hlen hx (by rcases hr with rfl | rfl <;> simp) ?_,he1,fun id hid hw=>(hc1.2 id hid hw).1⟩
                  unfold Gj
                  rw[Cc he1 _ _ _ h2 hvs]
                  cases vs' with
                  | nil=>rfl
                  | cons a l=>cases l <;> rfl
                have done:(∃ h',bS P g' vs h v1 h'∧fj h' e1'∧(∀ id,id < h.length→¬ id∈e1'.w→h'.view id=h.view id)) →
                    ∃ h',bS P g' vs h v1 h'∧fj h' ⟨e1'.L,e1'.H,e1'.n,e1'.w.filter fun id=>Nat.blt id e.n⟩∧(∀ id,id < h.length→¬ id∈e1'.w.filter (fun id=>Nat.blt id e.n)→h'.view id=h.view id)∧∀ id,id∈e1'.w.filter (fun id=>Nat.blt id e.n)→id < h.length:=by
                  rintro ⟨h',k1,k2,k3⟩
                  refine ⟨h',k1,k2,fun id hid hw=>k3 id hid (fun hm=>hw ?_),fun id hw=>?_⟩
                  · rw[List.mem_filter]
                    exact ⟨hm,by rw[he.2]; exact Nat.ble_eq_true_of_le hid⟩
                  · rw[List.mem_filter] at hw
                    have:=Nat.le_of_ble_eq_true hw.2
                    rw[he.2] at this; exact this
                split at hend
                · rename_i e1 hrn; exact done (go _ _ (.inl rfl) hrn hend)
                · rename_i e1 hrn; exact done (go _ _ (.inr rfl) hrn hend)
                · simp at hend
              · simp at hcall
            · simp at hcall
          · simp at hF
        · simp at hF
      · simp at hF
    · simp at hcall
theorem Eu (hm:P.follows .mixedOrders=true) {tab:List (FuncId × DF)} {ext:vy} (ht:tb P tab) (hx:ph P ext):∀ k,tf P (DX P tab ext k)
  | 0=>fun n fz c sc hc hn e e' r h hr he=>by simp[DX] at hr
  | k+1=>by
    have ih:=Eu hm ht hx k
    have:=Kb hm (DD ht hx ih) ih
    exact this
end
inductive dh (h:aE):V→V→Prop
  | val (v:Value):dh h (.val v) (.val v)
  | emp (k:Nat):dh h (.emp k) (.aM [])
  | sl (id off len esz z:Nat) (es es':List (List V)):h.view id=.arr z es→off+len≤es.length→es'.length=len →
      (∀ i,i < len→(es'.getD i []).length=(es.getD (off+i) []).length) →
      (∀ i j,i < len→j < (es'.getD i []).length→dh h ((es.getD (off+i) []).getD j .any) ((es'.getD i []).getD j .any))→dh h (.sl id off len esz) (.aM es')
  | agg (cs cs':List V):cs'.length=cs.length→(∀ i,i < cs.length→dh h (cs.getD i .any) (cs'.getD i .any))→dh h (.agg cs) (.agg cs')
  | bh (cs cs':List V):cs'.length=cs.length→(∀ i,i < cs.length→dh h (cs.getD i .any) (cs'.getD i .any))→dh h (.bh cs) (.bh cs')
theorem LU {h:aE} {Z:Nat→Prop} {μ ν:Mu} {F:View} {hp:Array Obj} (hr:eU Z μ hp (cat h F)) {v t:V} (fr:dh h v t):∀ {x:Value},az Z μ hp v x→az (fF μ) ν hp t x:=by
  have hcat:∀ id,h.view id≠.dead→cat h F id=h.view id:=fun id hd=>by simp only[cat]; rw[if_pos (gu hd)]
  induction fr with
  | val v=>intro x hx; cases hx with | val _ hv=>exact .val _ hv
  | emp k=>intro x hx; cases hx with | emp _ a=>exact .fu a 0 (fun _=>rfl)
  | sl id off len esz z es es' hH hle hlen hl _ ih =>
    intro x hx
    cases hx with
    | n4 _ _ _ a =>
      have:es'=[]:=List.length_eq_zero_iff.1 hlen
      subst this
      exact .fu a 0 (fun _=>rfl)
    | sl _ _ _ _ b o0 cap c e f hm hlec hb hs =>
      have hor:=hr.obj id
      rw[hcat id (by rw[hH]; simp),hH] at hor
      obtain ⟨rfl,_,h3,h4⟩:=hor b o0 esz hm
      have hx:∀ i,∃ ci:Nat→Value,∀ j,j < esz→i < len→cellAt hp b (o0+off * esz+i * esz+j)=some (ci j)∧az Z μ hp ((es.getD (off+i) []).getD j .any) (ci j):=by
        intro i
        by_cases hi:i < len
        · obtain ⟨ci,hci⟩:=ka (n:=esz) (p:=fun j x=>cellAt hp b (o0+off * esz+i * esz+j)=some x∧az Z μ hp ((es.getD (off+i) []).getD j .any) x) (fun j hj=>by
            obtain ⟨x,hx,hv⟩:=h4 (off+i) j (by omega) hj
            rw[Nat.add_mul,← Nat.add_assoc] at hx
            exact ⟨x,hx,hv⟩)
          exact ⟨ci,fun j hj _=>hci j hj⟩
        · exact ⟨fun _=>undef,fun j _ h=>absurd h hi⟩
      obtain ⟨cf,hcf⟩:=Classical.axiomOfChoice hx
      have hel:∀ i,i < es'.length→(es'.getD i []).length=esz:=fun i hi=>by rw[hl i (by omega)]; exact h3 _ (by omega)
      have:=az.aM (Z:=fF μ) (μ:=ν) (hp:=hp) es' b (o0+off * esz) esz cap cf ⟨id,o0,esz,hm⟩ (by omega) hel
        (fun i j hi hj=>(hcf i j hj (by omega)).1) (fun i j hi hj=>ih i j (by omega) (by rw[hel i hi]; exact hj) (hcf i j hj (by omega)).2)
      rw[hlen] at this
      exact this
  | agg cs cs' hlen _ ih =>
    intro x hx
    cases hx with
    | agg _ aas h1 h2=>exact .agg _ _ (by omega) (fun i hi=>ih i (by omega) (h2 i (by omega)))
  | bh cs cs' hlen _ ih =>
    intro x hx
    cases hx with
    | bh _ aas h1 h2=>exact .bh _ _ (by omega) (fun i hi=>ih i (by omega) (h2 i (by omega)))
def b6 (P:Program) (f:FuncId) (vs:List V) (t:V):Prop :=
  ∀ Z μ (w:World) (xs:List Value),dA Z μ w.heap vs xs→(∀ b,Z b→b < w.heap.size) →
    Calls P f xs.toArray w fun e w'=>∃ x Z',e=.returned x∧(∀ ν,az Z' ν w'.heap t x)∧cW w w'∧(∀ b,Z' b→w.heap.size≤b∧b < w'.heap.size)∧dR w.heap w'.heap (fun _=>False)
theorem b6.pure {P:Program} {f:FuncId} {vs:List V} {t:V} (h:b6 P f vs t):aJ P f vs t:=by
  intro Z μ w xs hrel hz
  refine (h Z μ w xs hrel hz).mono ?_
  rintro e w' ⟨x,Z',rfl,hv,hs,hz',ho⟩
  exact ⟨x,fun b=>Z b∨Z' b,rfl,fun ν=>(hv ν).mono ⟨fun _ h=>.inr h,fun _ _=>rfl,fun _ _ h=>h,dJ.refl _⟩,hs,fun _ h=>.inl h,fun b hb=>hb.imp id (hz' b),ho⟩
theorem b6.tG {P:Program} {f:FuncId} {vs:List V} {r t:V} {h':aE} (ht:∀ v∈vs,Tree v) (hc:bS P f vs [] r h') (hf:dh h' r t):b6 P f vs t:=by
  intro Z μ w xs hrel hz
  have hrel0:dA Z (fun _=>none) w.heap vs xs:=⟨hrel.1,fun i hi=>tP (hrel.2 i hi) (by
    simp only[List.getD_eq_getElem?_getD,List.getElem?_eq_getElem hi,Option.getD_some]
    exact ht _ (List.getElem_mem _))⟩
  have hr0:eU Z (fun _=>none) w.heap (cat [] fun _=>.dead):=by
    rw[zR]
    exact ⟨fun _=>trivial,fun i j b o s o' s' _ h=>by simp at h,fun id b o s h=>by simp at h,hz,fun id b o s h=>by simp at h⟩
  refine (hc.2 Z _ _ w xs hrel0 hr0 (fun _ _ _=>rfl)).mono ?_
  rintro e w' ⟨x,Z',μ',rfl,hv,hh,hex,_⟩
  refine ⟨x,fF μ',rfl,fun ν=>LU hh hf hv,hex.same,?_,fun b hb _=>hex.frame b hb (by rintro ⟨_,_,_,h⟩; simp at h)⟩
  rintro b ⟨id,o,s,hb⟩
  rcases hex.zq _ _ _ _ hb with h1 | ⟨_,h1 | ⟨_,_,_,h1⟩⟩
  · simp at h1
  · exact ⟨h1,hh.lt _ _ _ _ hb⟩
  · simp at h1
theorem b6.of {P:Program} {f:FuncId} {vs:List V} {t:V} (ht:∀ v∈vs,Tree v) (h:aL P f vs (fun _=>.dead) fun r H'=>∀ h':aE,h'.view=H'→dh h' r t):b6 P f vs t:=by
  obtain ⟨r,h',ha,_,hf⟩:=h.2 [] Bz
  exact b6.tG ht ha (hf h' rfl)
theorem bS.se {P:Program} {f:FuncId} {ts vs:List V} {t:V} {h:aE} (hc:b6 P f ts t) (hl:ts.length=vs.length)
    (hfr:∀ i,i < vs.length→Fr h (vs.getD i .any) (ts.getD i .any)):bS P f vs h t h:=by
  refine ⟨Nat.le_refl _,fun Z μ F w xs hrel hr hfree=>?_⟩
  have hts:dA (fun b=>Z b∨fF μ b) μ w.heap ts xs:=⟨by rw[hl,hrel.1],fun i hi=>yB hr (hfr i (by omega)) (hrel.2 i (by omega))⟩
  have hzl:∀ b,(Z b∨fF μ b)→b < w.heap.size:=by
    rintro b (hb | ⟨id,o,s,hb⟩)
    · exact hr.bP b hb
    · exact hr.lt _ _ _ _ hb
  refine (hc _ μ w xs hts hzl).mono ?_
  rintro e w' ⟨x,Z',rfl,hv,hs,hz',ho⟩
  have hm:ez Z (fun b=>Z b∨Z' b) μ μ w.heap w'.heap:=⟨fun _ h=>.inl h,fun b hb=>ho b (hr.bP b hb) (fun x=>x),fun _ _ h=>h,ho.mN⟩
  refine ⟨x,fun b=>Z b∨Z' b,μ,rfl,(hv μ).mono ⟨fun _ h=>.inr h,fun _ _=>rfl,fun _ _ h=>h,dJ.refl _⟩,⟨fun id=>(hr.obj id).mono hm rfl (fun b o s hx=>ho b (hr.lt _ _ _ _ hx) (fun x=>x)),hr.inj,fun id b o s hx=>Nat.lt_of_lt_of_le (hr.lt _ _ _ _ hx) hs.size,fun b hb=>?_,fun id b o s hx hzb=>?_⟩,
    ⟨hs,hm,fun b hb _=>ho b hb (fun x=>x),fun b hb=>hb.imp id (fun h=>(hz' b h).1),fun _ _ _ _ h=>.inl h⟩,fun _ _=>rfl⟩
  · rcases hb with hb | hb
    · exact Nat.lt_of_lt_of_le (hr.bP b hb) hs.size
    · exact (hz' b hb).2
  · rcases hzb with hb | hb
    · exact hr.eV _ _ _ _ hx hb
    · have:=hr.lt _ _ _ _ hx; have:=(hz' b hb).1; omega
theorem aO.se {P:Program} {q:Bool} {f:FuncId} {H:View} {vs ts:List V} {K:V→View→Prop} {v:b9 (H,K)} {t:V} (hc:b6 P f ts t) (hok:ca P f=true) (hl:ts.length=vs.length)
    (hfr:∀ i,i < vs.length→cZ H (vs.getD i .any) (ts.getD i .any)) (hk:K t H):aO P q f vs H K v:=by
  unfold aO
  cases q with
  | true=>exact ⟨hok,fun h e=>⟨t,h,bS.se hc hl (fun i hi=>hfr i hi h e),fun _ _=>rfl,e ▸ hk⟩⟩
  | false =>
    refine ⟨hok,?_⟩
    rintro h rfl
    exact ⟨t,h,bS.se hc hl (fun i hi=>hfr i hi h rfl),.refl _,hk⟩
noncomputable def j8 (fz:V→Option V):List V→Option (List V)
  | []=>some []
  | v :: l=>match fz v,j8 fz l with
    | some a,some b=>some (a :: b)
    | _,_=>none
noncomputable def zQ (fz:V→Option V):List (List V)→Option (List (List V))
  | []=>some []
  | v :: l=>match j8 fz v,zQ fz l with
    | some a,some b=>some (a :: b)
    | _,_=>none
noncomputable def vx (H:View):Nat→V→Option V
  | 0,_=>none
  | k+1,v=>match v with
    | .val x=>some (.val x)
    | .emp _=>some (.aM [])
    | .sl id off len _=>match H id with
      | .arr _ es=>if off+len≤es.length then (zQ (vx H k) ((es.drop off).take len)).map .aM else none
      | _=>none
    | .agg cs=>(j8 (vx H k) cs).map .agg
    | .bh cs=>(j8 (vx H k) cs).map .bh
    | _=>none
theorem eQ {fz:V→Option V} : ∀ (l l':List V),j8 fz l=some l'→l'.length=l.length∧∀ i,i < l.length→fz (l.getD i .any)=some (l'.getD i .any)
  | [],l',h=>by simp only[j8,Option.some.injEq] at h; subst h; exact ⟨rfl,fun i hi=>by simp at hi⟩
  | v :: l,l',h=>by
    simp only[j8] at h
    split at h
    · rename_i a b h1 h2
      simp only[Option.some.injEq] at h; subst h
      obtain ⟨g1,g2⟩:=eQ l b h2
      refine ⟨by simp[g1],fun i hi=>?_⟩
      cases i with
      | zero=>exact h1
      | succ i=>exact g2 i (by simpa using hi)
    · simp at h
theorem Ar {fz:V→Option V} : ∀ (l l':List (List V)),zQ fz l=some l'→l'.length=l.length∧∀ i,i < l.length→j8 fz (l.getD i [])=some (l'.getD i [])
  | [],l',h=>by simp only[zQ,Option.some.injEq] at h; subst h; exact ⟨rfl,fun i hi=>by simp at hi⟩
  | v :: l,l',h=>by
    simp only[zQ] at h
    split at h
    · rename_i a b h1 h2
      simp only[Option.some.injEq] at h; subst h
      obtain ⟨g1,g2⟩:=Ar l b h2
      refine ⟨by simp[g1],fun i hi=>?_⟩
      cases i with
      | zero=>exact h1
      | succ i=>exact g2 i (by simpa using hi)
    · simp at h
theorem FQ (h:aE):∀ (k:Nat) (v t:V),vx h.view k v=some t→dh h v t
  | 0,v,t,hf=>by simp[vx] at hf
  | k+1,v,t,hf=>by
    have ih:=FQ h k
    simp only[vx] at hf
    split at hf
    · simp only[Option.some.injEq] at hf; subst hf; exact .val _
    · simp only[Option.some.injEq] at hf; subst hf; exact .emp _
    · rename_i id off len esz
      split at hf
      · rename_i z es hH
        split at hf
        · rename_i hle
          simp only[Option.map_eq_some_iff] at hf
          obtain ⟨es',he,rfl⟩:=hf
          obtain ⟨g1,g2⟩:=Ar _ _ he
          have hlen:es'.length=len:=by rw[g1]; simp; omega
          have hg:∀ i,i < len→((es.drop off).take len).getD i []=es.getD (off+i) []:=fun i hi=>by
            simp[List.getD_eq_getElem?_getD,hi]
          have g3:∀ i,i < len→j8 (vx h.view k) (es.getD (off+i) [])=some (es'.getD i []):=fun i hi=>by
            rw[← hg i hi]; exact g2 i (by rw[← g1,hlen]; exact hi)
          exact .sl id off len esz z es es' hH hle hlen (fun i hi=>(eQ _ _ (g3 i hi)).1) (fun i j hi hj=>ih _ _ ((eQ _ _ (g3 i hi)).2 j (by rw[← (eQ _ _ (g3 i hi)).1]; exact hj)))
        · simp at hf
      · simp at hf
    · simp only[Option.map_eq_some_iff] at hf
      obtain ⟨l,hl,rfl⟩:=hf
      obtain ⟨g1,g2⟩:=eQ _ _ hl
      exact .agg _ _ g1 (fun i hi=>ih _ _ (g2 i hi))
    · simp only[Option.map_eq_some_iff] at hf
      obtain ⟨l,hl,rfl⟩:=hf
      obtain ⟨g1,g2⟩:=eQ _ _ hl
      exact .bh _ _ g1 (fun i hi=>ih _ _ (g2 i hi))
    · simp at hf
noncomputable def K2:Option (V × ES)→Option V
  | some (v,e)=>vx e.V 50 v
  | none=>none
noncomputable def sY (P:Program) (tab:List (FuncId × DF)) (ext:vy) (f:FuncId) (vs:List V):Option V :=
  K2 (BY P tab ext (DX P tab ext 100000) f vs ⟨.nil,.nil,0,[]⟩)
theorem kd {P:Program} (hm:P.follows .mixedOrders=true) {tab:List (FuncId × DF)} {ext:vy} (ht:tb P tab) (hx:ph P ext) {f:FuncId} {vs:List V} {t:V} (hvs:∀ v∈vs,Tree v) (h:sY P tab ext f vs=some t) :
    b6 P f vs t:=by
  unfold sY K2 at h
  split at h
  · rename_i v e hr
    obtain ⟨h1,h',h2,h3,_⟩:=DD ht hx (Eu hm ht hx 100000) f vs _ v e [] hr ⟨by funext k; rfl,rfl⟩
    rw[h3.1] at h
    exact b6.tG hvs h2 (FQ h' 50 v t h)
  · simp at h
structure aw.rh (g:aw):Prop where
  ay:g.ay.length≤24
  G0:1≤g.ax.length
  ax:g.ax.length≤16
  Oa:1≤g.rules.length
  rules:g.rules.length≤40
  sM:0≤g.start
  start:g.start < g.ax.length
  left:∀ r∈g.rules,0≤r.left∧r.left < g.ax.length
  right:∀ r∈g.rules,r.right.length≤6
  sym:∀ r∈g.rules,∀ s∈r.right,j7 g s=true
  prec:∀ r∈g.rules,-1≤r.prec∧r.prec < g.ay.length
theorem wh {g:aw} : ∀ (l:List aY) (top:Int),eD g l top=true→top≤(g.ax.length:Int) - 1∧∀ r∈l,0≤r.left∧r.left < g.ax.length∧eY g r=true
  | [],top,h=>by simp[eD] at h; exact ⟨by omega,fun r hr=>by simp at hr⟩
  | r :: l,top,h=>by
    simp only[eD,Bool.and_eq_true,decide_eq_true_eq] at h
    obtain ⟨⟨⟨h1,h2⟩,h3⟩,h4⟩:=h
    obtain ⟨k1,k2⟩:=wh l _ h4
    have h5:r.left≤(if r.left > top then r.left else top):=by split <;> omega
    have h6:top≤(if r.left > top then r.left else top):=by split <;> omega
    refine ⟨by omega,fun r' hr=>?_⟩
    rcases List.mem_cons.1 hr with rfl | hr
    · exact ⟨h1,by omega,h3⟩
    · exact k2 r' hr
theorem bD {g:aw} (h:br g=true):g.rh:=by
  simp only[br,gv,gP,Bool.and_eq_true,decide_eq_true_eq] at h
  obtain ⟨⟨⟨⟨⟨⟨⟨h1,_⟩,⟨h2,h3⟩,_⟩,h4⟩,h5⟩,h6⟩,h7⟩,h8⟩:=h
  have k:=(wh _ _ h8).2
  have hb:∀ r∈g.rules,r.right.length≤6∧-1≤r.prec∧r.prec < g.ay.length∧∀ s∈r.right,j7 g s=true:=fun r hr=>by
    have:=(k r hr).2.2
    simp only[eY,Bool.and_eq_true,decide_eq_true_eq,List.all_eq_true,jm] at this
    exact ⟨this.1.1.1,this.1.1.2,this.1.2,fun s hs=>(this.2 s hs).1⟩
  exact ⟨h1,h2,h3,h4,h5,h6,h7,fun r hr=>⟨(k r hr).1,(k r hr).2.1⟩,fun r hr=>(hb r hr).1,fun r hr=>(hb r hr).2.2.2,fun r hr=>⟨(hb r hr).2.1,(hb r hr).2.2.1⟩⟩
theorem aw.rh.neg {g:aw} (h:g.rh) {r:aY} (hr:r∈g.rules) {s:Int} (hs:s∈r.right) (hn:s < 0) : -1 - s < g.ax.length:=by
  have:=h.sym r hr s hs
  simp only[j7] at this
  rw[if_neg (by omega)] at this
  simpa using this
theorem CA (l:List Int) (is:List Bool) (t:Bool) (hl:bc l) (hs:∀ s∈l,bW s∧(s < 0→-1 - s < is.length)):aJ Tryz.prog 117 [encI l,cO is,gb t] (gb (dC l is t)) :=
  aJ.val (by
    intro v hv; simp at hv
    rcases hv with rfl | rfl | rfl
    · exact ej _
    · exact Bj _
    · exact .val _) (fun H=>(MR l is t hl hs H).mono fun r H' h=>h.1)
abbrev ef (is:List Bool):List (List V):=is.map fun x=>[gb x]
theorem pX {h:aE} {id:Nat} {is:List Bool} (hv:h.view id=.arr 1 (ef is)):dh h (.sl id 0 is.length 1) (cO is):=by
  refine .sl id 0 is.length 1 1 (ef is) _ hv (by simp) (by simp) (fun i hi=>by simp) (fun i j hi hj=>?_)
  rw[Nat.zero_add]
  have e:(ef is).getD i []=[gb is[i]]:=by simp[List.getD_eq_getElem?_getD,hi]
  rw[e] at hj ⊢
  have:j=0:=by simp at hj; omega
  subst this
  exact .val _
theorem F4 {H:View} {id n:Nat} {is:List Bool} (hv:H id=.arr 1 (ef is)) (hn:n=is.length):cZ H (.sl id 0 n 1) (cO is):=by
  have ht:∀ e∈ef is,∀ v∈e,Tree v:=by
    intro e he v hv
    obtain ⟨a,_,rfl⟩:=List.mem_map.1 he
    rw[List.mem_singleton] at hv
    subst hv
    exact .val _
  have:=cZ.sl (off:=0) (len:=n) (esz:=1) hv (by simp[hn]) ht
  rwa [List.drop_zero,List.take_of_length_le (by simp[hn])] at this
theorem mO {is:List Bool} {i:Nat} (h:i < is.length):(ef is).getD i []=[gb is[i]]:=by simp[List.getD_eq_getElem?_getD,h]
theorem qd (is:List Bool) (i:Nat) (b:Bool):(ef is).set i [gb b]=ef (is.set i b):=by simp[List.map_set]
theorem Bu (n:Nat) (b:Bool):List.replicate n [gb b]=ef (List.replicate n b):=by simp
def iter {α:Type} (f:α→α):Nat→α→α
  | 0,x=>x
  | n+1,x=>iter f n (f x)
def cL (t:Bool) (is:List Bool) (r:aY):List Bool:=if dC r.right is t=true then is.set r.left.toNat true else is
def gp (g:aw) (t:Bool) (is:List Bool):List Bool:=g.rules.foldl (cL t) is
def cm (g:aw):List Bool:=List.replicate g.ax.length false
def aT (g:aw) (t:Bool):List Bool:=if br g=true then iter (gp g t) g.ax.length (cm g) else []
theorem Gu (t:Bool) (is:List Bool) (r:aY):(cL t is r).length=is.length:=by unfold cL; split <;> simp
def j1:SC :=
  .seq (.seq (aq [aa 22 7,an 23 2 2,ak 24 23,aC 25 24,aF 26 .lss 22 25]) <|
  .cond (.tmp 26) (.skip) (.exit 2)) <|
  .seq (.block 3 (.seq (aq [an 29 2 2,ak 30 29,aa 31 7,aG 32 3 30 31,an 33 1 32,ak 34 33,aa 35 5,aa 36 1,aI 37 117 [34,35,36]]) <|
  .cond (.tmp 37) (aq [aa 38 5,an 39 2 2,ak 40 39,aa 41 7,aG 42 3 40 41,an 43 0 42,ak 44 43,aG 45 1 38 44,(none,.op (.store 1 (.tmp 45) (.val (.val (.bool true)))))]) (.skip))) <|
  aq [aa 27 7,au 28 .add 27 1,aa 7 28]
def jU:SC :=
  .seq (.seq (aq [aa 15 6,an 16 1 2,ak 17 16,aC 18 17,aF 19 .lss 15 18]) <|
  .cond (.tmp 19) (.skip) (.exit 0)) <|
  .seq (.block 1 (.seq (aq [aA 7 0]) <|
  .block 2 (.loop j1))) <|
  aq [aa 20 6,au 21 .add 20 1,aa 6 21]
def lG:SF:=⟨.seq (aq [bA 2 0,((some 4),.op (.aW (.val (.emp 1))))]) <|
  .seq (.seq (aq [aH 8 4 2,aI 9 48 [8],bB 10 9]) <|
  .cond (.tmp 10) (.seq (aq [((some 4),.op (.aW (.val (.emp 1))))]) <|
  .ret) (.skip)) <|
  .seq (aq [an 11 1 2,ak 12 11,aC 13 12,((some 14),.op (.make 1 1 [(.val (.bool false))] (.tmp 13) (.tmp 13))),aa 5 14]) <|
  .seq (.seq (aq [aA 6 0]) <|
  .block 0 (.loop jU)) <|
  .seq (aq [aa 46 5,aa 4 46]) <|
  .ret,
  [.tmp 4],47⟩
theorem q4:bo Tryz.prog 174 [2]=some lG:=by kernel_rfl
def hO:SF:=⟨.seq (aq [bA 1 0,((some 2),.op (.aW (.val (.emp 1))))]) <|
  .seq (aq [aH 3 4 1,cp 4 174 [(.tmp 3),(.val (.val (.bool true)))],aa 2 4]) <|
  .ret,
  [.tmp 2],5⟩
theorem mM:bo Tryz.prog 115 [1]=some hO:=by kernel_rfl
theorem KK (g:aw) (t:Bool):∀ v∈[V.agg (av g),gb t],Tree v:=by
  intro v hv; simp at hv
  rcases hv with rfl | rfl
  · exact cy _ (cH g)
  · exact .val _
set_option maxHeartbeats 2000000 in
theorem Kp (g:aw) (hg:g.Ok) (t:Bool) (H:View):aL Tryz.prog 174 [.agg (av g),gb t] H fun r H'=>∀ h':aE,h'.view=H'→dh h' r (cO (aT g t)):=by
  refine aL.of mixed q4 ?_
  simp (disch:=omega) only [↓wr,↓reduceIte,wq,ai,Nat.reduceEqDiff,Nat.reduceAdd,Nat.reduceLeDiff,lG,av,encS]
  refine aO.pure (iw g hg) (by kernel_rfl) ?_
  repeat' (first | (refine ar.dec (fun _=>?_) (fun _=>?_)) | (refine ar.eq (fun _=>?_) (fun _=>?_)) | (refine ar.ne (fun _=>?_) (fun _=>?_)) | (refine ar.split (fun _=>?_) (fun _=>?_)) | (simp (disch:=omega) only [↓wr,↓reduceIte,wq,ao,Nat.reduceEqDiff,Nat.reduceAdd,Nat.reduceLT,reduceCtorEq]))
  · rename_i hr
    have hf:=bD hr
    obtain ⟨hN1,hN2⟩:=And.intro hf.G0 hf.ax
    refine ⟨⟨by omega,by unfold aR; omega,by unfold aR; omega⟩,fun hz=>by omega,fun _ m hm=>?_⟩
    try simp (disch:=omega) only [↓wr,↓reduceIte,wq,ai,ag,ao,ab,ae,af,aj,isNil,Nat.reduceEqDiff,Nat.reduceAdd,Nat.reduceLT,Nat.reduceLeDiff,Int.reduceNeg,Int.reduceToNat,reduceCtorEq,av,encS]
    refine bC.intro (fun k T H'=>∃ (i:Nat) (is:List Bool),i+k=g.ax.length∧is.length=g.ax.length∧iter (gp g t) k is=iter (gp g t) g.ax.length (cm g)∧T 1=gb t∧T 2=.aQ (av g) 0∧T 5=.sl m 0 g.ax.length 1∧H' m=.arr 1 (ef is)∧T 6=gi i) g.ax.length ?_ ?_
    · refine ⟨0,cm g,by omega,by simp[cm],rfl,?_⟩
      simp (disch:=omega) only [↓wr,↓reduceIte,wq,Nat.reduceEqDiff,av,encS]
      exact ⟨by rw[Bu]; rfl,rfl⟩
    · rintro k T H' ⟨i,is,hk,hlen,hi,f1,f2,f5,fm,f6⟩
      simp (disch:=omega) only [↓wr,↓reduceIte,wq,ag,ao,Nat.reduceEqDiff,Nat.reduceAdd,Nat.reduceLT,reduceCtorEq,jU,f2,f6,av,encS]
      refine ar.dec (fun hc=>?_) (fun hc=>?_)
      · simp (disch:=omega) only [↓wr,wq]
        refine bC.intro (fun k' T H'=>∃ (j:Nat) (is':List Bool),j+k'=g.rules.length∧is'.length=g.ax.length∧(g.rules.drop j).foldl (cL t) is'=gp g t is∧T 1=gb t∧T 2=.aQ (av g) 0∧T 5=.sl m 0 g.ax.length 1∧H' m=.arr 1 (ef is')∧T 6=gi i∧T 7=gi j) g.rules.length ?_ ?_
        · refine ⟨0,is,by omega,hlen,rfl,?_⟩
          simp (disch:=omega) only [↓wr,↓reduceIte,wq,Nat.reduceEqDiff,f1,f2,f5,f6,fm,av,encS]
          rfl
        · rintro k' T' H'' ⟨j,is',hk',hlen',hj,e1,e2,e5,em,e6,e7⟩
          simp (disch:=omega) only [↓wr,↓reduceIte,wq,ag,ao,Nat.reduceEqDiff,Nat.reduceAdd,Nat.reduceLT,j1,e2,e7,av]
          refine ar.dec (fun hd=>?_) (fun hd=>?_)
          · have hle:=hf.rules
            have hg2:g.rules[j]?=some (g.rules[j]'(by omega)):=List.getElem?_eq_getElem (by omega)
            rw[dw (show j < g.rules.length by omega)] at hj
            have hmem:g.rules[j]'(by omega)∈g.rules:=List.getElem_mem _
            generalize g.rules[j]'(by omega)=r at hg2 hj hmem
            simp only[List.foldl_cons] at hj
            obtain ⟨hl1,hl2⟩:=hf.left r hmem
            obtain ⟨_,_,hs1,hs2⟩:=hg.bN r hmem
            have hall:=CA r.right is' t hs1 (fun s hs=>⟨hs2 s hs,fun hn=>by have:=hf.neg hmem hs hn; omega⟩)
            simp (disch:=omega) only [↓wr,↓reduceIte,wq,Nat.reduceEqDiff,Nat.reduceAdd,Nat.reduceLT,e1,e2,e5,e7,av,encS,bt,List.getElem?_map,hg2]
            refine aO.borrow hall (by kernel_rfl) (.val _) rfl (fun q hq=>?_) ?_
            · match q,hq with
              | 0,_=>exact cZ.tree (ej _)
              | 1,_=>exact F4 em hlen'.symm
              | 2,_=>exact cZ.tree (.val _)
            · simp (disch:=omega) only [↓wr,↓reduceIte,wq]
              refine ar.split (fun ha=>?_) (fun ha=>?_)
              · have hst:cL t is' r=is'.set r.left.toNat true:=by rw[cL,if_pos ha]
                simp (disch:=omega) only [↓wr,↓reduceIte,wq,ag,ab,Nat.reduceEqDiff,Nat.reduceAdd,Nat.reduceLT,Nat.reduceLeDiff,reduceCtorEq,e1,e2,e5,e6,e7,em,av,encS,bt,List.getElem?_map,hg2,mO (show r.left.toNat < is'.length by omega)]
                rw[hst] at hj
                exact ⟨by omega,by omega,k' - 1,by omega,j+1,is'.set r.left.toNat true,by omega,by simp[hlen'],hj,by rw[qd],rfl⟩
              · have hst:cL t is' r=is':=by rw[cL,if_neg (by rw[ha]; simp)]
                rw[hst] at hj
                simp (disch:=omega) only [↓wr,↓reduceIte,wq,ag,Nat.reduceEqDiff,reduceCtorEq,e1,e2,e5,e6,e7]
                exact ⟨k' - 1,by omega,j+1,is',by omega,hlen',hj,by first | rfl | exact ⟨rfl,rfl⟩ | exact ⟨em,rfl⟩ | exact ⟨rfl,em,rfl⟩⟩
          · rw[List.drop_eq_nil_of_le (by omega),List.foldl_nil] at hj
            simp (disch:=omega) only [↓wr,↓reduceIte,wq,Nat.reduceEqDiff,reduceCtorEq,e1,e2,e5,e6]
            obtain ⟨q,rfl⟩:∃ q,k=q+1:=⟨k - 1,by omega⟩
            exact ⟨q,by omega,i+1,is',by omega,hlen',by rw[hj]; exact hi,rfl,em,rfl⟩
      · simp (disch:=omega) only [↓wr,↓reduceIte,wq,Nat.reduceEqDiff,reduceCtorEq,f5]
        have:k=0:=by omega
        subst this
        rintro h' rfl
        simp only[aT,if_pos hr,← hi,iter]
        rw[← hlen]
        exact pX fm
  · rename_i hr
    rintro h' rfl
    simp only[aT,hr]
    exact .emp 1
theorem JD (g:aw) (hg:g.Ok) (t:Bool):b6 Tryz.prog 174 [.agg (av g),gb t] (cO (aT g t)):=b6.of (KK g t) (Kp g hg t _)
theorem zJ (g:aw) (hg:g.Ok) (H:View):aL Tryz.prog 115 [.agg (av g)] H fun r H'=>r=cO (aT g true)∧H'=H:=by
  refine aL.of mixed mM ?_
  simp (disch:=omega) only [↓wr,↓reduceIte,wq,ai,Nat.reduceEqDiff,Nat.reduceAdd,Nat.reduceLeDiff,hO,av,encS]
  refine aO.pure (JD g hg true).pure (by kernel_rfl) ?_
  simp (disch:=omega) only [↓wr,↓reduceIte,wq,reduceCtorEq]
theorem pW (g:aw) (hg:g.Ok):aJ Tryz.prog 115 [.agg (av g)] (cO (aT g true)) :=
  aJ.of (gn g) ((zJ g hg _).mono fun r H' h h' _=>by rw[h.1]; exact .tree _ (Bj _))
def mark (is:List Bool) (s:Int):List Bool:=if s < 0 then is.set (-1 - s).toNat true else is
def dP (p is:List Bool) (r:aY):List Bool:=if (is.getD r.left.toNat false && dC r.right p true)=true then r.right.foldl mark is else is
def kc (g:aw) (p is:List Bool):List Bool:=g.rules.foldl (dP p) is
def bH (g:aw):List Bool:=if br g=true then iter (kc g (aT g true)) g.ax.length ((cm g).set g.start.toNat true) else []
theorem Kc (is:List Bool) (s:Int):(mark is s).length=is.length:=by unfold mark; split <;> simp
theorem BF:∀ (l:List Int) (is:List Bool),(l.foldl mark is).length=is.length
  | [],_=>rfl
  | s :: l,is=>by rw[List.foldl_cons,BF l,Kc]
theorem Iw (p is:List Bool) (r:aY):(dP p is r).length=is.length:=by unfold dP; split <;> simp[BF]
theorem xY {f:List Bool→List Bool} (hf:∀ is,(f is).length=is.length):∀ (n:Nat) (is:List Bool),(iter f n is).length=is.length
  | 0,_=>rfl
  | n+1,is=>by rw[iter,xY hf n,hf]
theorem yz {α:Type} {f:List Bool→α→List Bool} (hf:∀ is x,(f is x).length=is.length):∀ (l:List α) (is:List Bool),(l.foldl f is).length=is.length
  | [],_=>rfl
  | x :: l,is=>by rw[List.foldl_cons,yz hf l,hf]
theorem qA {g:aw} (h:br g=true) (t:Bool):(aT g t).length=g.ax.length:=by
  have hl:∀ is,(gp g t is).length=is.length:=fun is=>yz (Gu t) _ _
  rw[aT,if_pos h,xY hl]
  simp[cm]
def gB:SC :=
  .seq (.seq (.region false [⟨none,[aa 41 8,an 42 1 7,ak 43 42,aC 44 43,aF 45 .lss 41 44,aa 46 45]⟩,⟨(some (46,true)),[aa 47 4,an 48 0 7,ak 49 48,aG 50 1 47 49,ak 51 50]⟩,⟨none,[bj 52 46 51,aa 53 52]⟩,⟨(some (53,true)),[an 54 1 7,ak 55 54,aa 56 3,cp 57 117 [(.tmp 55),(.tmp 56),(.val (.val (.bool true)))]]⟩,⟨none,[bj 58 53 57]⟩]) <|
  .cond (.tmp 58) (.skip) (.exit 4)) <|
  .seq (.block 5 (.seq (aq [an 61 1 7,ak 62 61,aa 63 8,aG 64 1 62 63,ak 65 64,au 66 .lss 65 0]) <|
  .cond (.tmp 66) (aq [aa 67 4,an 68 1 7,ak 69 68,aa 70 8,aG 71 1 69 70,ak 72 71,((some 73),.op (.arith .sub (.val (.val (.int .i64 (-1)))) (.tmp 72))),aG 74 1 67 73,(none,.op (.store 1 (.tmp 74) (.val (.val (.bool true)))))]) (.skip))) <|
  aq [aa 59 8,au 60 .add 59 1,aa 8 60]
def gE:SC :=
  .seq (.seq (aq [aa 29 6,an 30 2 1,ak 31 30,aC 32 31,aF 33 .lss 29 32]) <|
  .cond (.tmp 33) (.skip) (.exit 2)) <|
  .seq (.block 3 (.seq (aq [an 36 2 1,ak 37 36,aa 38 6,aG 39 3 37 38,aH 40 3 39,((some 7),.op (.alloc [(.val (.int .i64 0)),(.emp 1),(.val (.int .i64 0))])),(none,.op (.store 3 (.tmp 7) (.tmp 40)))]) <|
  .seq (aq [aA 8 0]) <|
  .block 4 (.loop gB))) <|
  aq [aa 34 6,au 35 .add 34 1,aa 6 35]
def gA:SC :=
  .seq (.seq (aq [aa 22 5,an 23 1 1,ak 24 23,aC 25 24,aF 26 .lss 22 25]) <|
  .cond (.tmp 26) (.skip) (.exit 0)) <|
  .seq (.block 1 (.seq (aq [aA 6 0]) <|
  .block 2 (.loop gE))) <|
  aq [aa 27 5,au 28 .add 27 1,aa 5 28]
def iI:SF:=⟨.seq (aq [bA 1 0,((some 2),.op (.aW (.val (.emp 1))))]) <|
  .seq (.seq (aq [aH 9 4 1,aI 10 48 [9],bB 11 10]) <|
  .cond (.tmp 11) (.seq (aq [((some 2),.op (.aW (.val (.emp 1))))]) <|
  .ret) (.skip)) <|
  .seq (aq [aH 12 4 1,aI 13 115 [12],aa 3 13]) <|
  .seq (aq [an 14 1 1,ak 15 14,aC 16 15,((some 17),.op (.make 1 1 [(.val (.bool false))] (.tmp 16) (.tmp 16))),aa 4 17]) <|
  .seq (aq [aa 18 4,an 19 3 1,ak 20 19,aG 21 1 18 20,(none,.op (.store 1 (.tmp 21) (.val (.val (.bool true)))))]) <|
  .seq (.seq (aq [aA 5 0]) <|
  .block 0 (.loop gA)) <|
  .seq (aq [aa 75 4,aa 2 75]) <|
  .ret,
  [.tmp 2],76⟩
theorem nk:bo Tryz.prog 116 [1]=some iI:=by kernel_rfl
theorem JN {l:List Bool} {i j:Nat} (h:l.getD j false=true):(l.set i true).getD j false=true:=by
  simp only[List.getD_eq_getElem?_getD,List.getElem?_set] at h ⊢
  by_cases e:i=j
  · subst e
    by_cases hi:i < l.length
    · simp[hi]
    · rw[List.getElem?_eq_none (by omega)] at h; simp at h
  · rw[if_neg e]; exact h
theorem JQ {H:View} {m n:Nat} {o:bK} (hm:H m=o) (hn:H n=.dead) (ho:o≠.dead):m≠n:=by rintro rfl; exact ho (hm.symm.trans hn)
set_option maxHeartbeats 4000000 in
theorem AA (g:aw) (hg:g.Ok) (H:View):aL Tryz.prog 116 [.agg (av g)] H fun r H'=>∀ h':aE,h'.view=H'→dh h' r (cO (bH g)):=by
  refine aL.of mixed nk ?_
  simp (disch:=omega) only [↓wr,↓reduceIte,wq,ai,Nat.reduceEqDiff,Nat.reduceAdd,Nat.reduceLeDiff,iI,av,encS]
  refine aO.pure (iw g hg) (by kernel_rfl) ?_
  repeat' (first | (refine ar.dec (fun _=>?_) (fun _=>?_)) | (refine ar.eq (fun _=>?_) (fun _=>?_)) | (refine ar.ne (fun _=>?_) (fun _=>?_)) | (refine ar.split (fun _=>?_) (fun _=>?_)) | (simp (disch:=omega) only [↓wr,↓reduceIte,wq,Nat.reduceEqDiff,Nat.reduceAdd,Nat.reduceLeDiff,reduceCtorEq]))
  · rename_i hr
    have hf:=bD hr
    obtain ⟨hN1,hN2⟩:=And.intro hf.G0 hf.ax
    refine aO.pure (pW g hg) (by kernel_rfl) ?_
    have hpl:=qA hr true
    have hreach:bH g=iter (kc g (aT g true)) g.ax.length ((cm g).set g.start.toNat true):=by rw[bH,if_pos hr]
    generalize aT g true=p at hpl hreach
    have hst:=hf.sM
    have hst2:=hf.start
    have hrep:List.replicate g.ax.length [V.val (Value.bool false)]=ef (cm g):=Bu _ _
    have hnl:(cm g).length=g.ax.length:=by simp[cm]
    simp (disch:=omega) only [↓wr,↓reduceIte,wq,ao,ab,Nat.reduceEqDiff,Nat.reduceAdd,Nat.reduceLT,Nat.reduceLeDiff]
    refine ⟨⟨by omega,by unfold aR; omega,by unfold aR; omega⟩,fun hz=>by omega,fun _ m hm=>?_⟩
    rw[hrep]
    have hgs:(ef (cm g)).getD g.start.toNat []=[gb ((cm g)[g.start.toNat]'(by omega))]:=mO (by omega)
    simp (disch:=omega) only [wq]
    refine ⟨by omega,by omega,?_⟩
    refine bC.intro (fun k T H'=>∃ (i:Nat) (is:List Bool),i+k=g.ax.length∧is.length=g.ax.length∧iter (kc g p) k is=bH g∧T 1=.aQ (av g) 0∧T 3=cO p∧T 4=.sl m 0 g.ax.length 1∧H' m=.arr 1 (ef is)∧T 5=gi i) g.ax.length ?_ ?_
    · refine ⟨0,(cm g).set g.start.toNat true,by omega,by simp[hnl],hreach.symm,?_⟩
      simp (disch:=omega) only [↓wr,↓reduceIte,wq,Nat.reduceEqDiff,av,encS]
      rw[hgs]
      exact ⟨by rw[← qd]; rfl,rfl⟩
    · rintro k T H' ⟨i,is,hk,hlen,hi,f1,f3,f4,fm,f5⟩
      simp (disch:=omega) only [↓wr,↓reduceIte,wq,ag,ao,Nat.reduceEqDiff,Nat.reduceAdd,Nat.reduceLT,reduceCtorEq,gA,f1,f5,av,encS]
      refine ar.dec (fun hc=>?_) (fun hc=>?_)
      · simp (disch:=omega) only [↓wr,wq]
        refine bC.intro (fun k' T H'=>∃ (j:Nat) (is':List Bool),j+k'=g.rules.length∧is'.length=g.ax.length∧(g.rules.drop j).foldl (dP p) is'=kc g p is∧T 1=.aQ (av g) 0∧T 3=cO p∧T 4=.sl m 0 g.ax.length 1∧H' m=.arr 1 (ef is')∧T 5=gi i∧T 6=gi j) g.rules.length ?_ ?_
        · refine ⟨0,is,by omega,hlen,rfl,?_⟩
          simp (disch:=omega) only [↓wr,↓reduceIte,wq,Nat.reduceEqDiff,f1,f3,f4,f5,fm,av,encS]
          first | done | exact ⟨rfl,rfl⟩ | rfl
        · rintro k' T' H'' ⟨j,is',hk',hlen',hj,e1,e3,e4,em,e5,e6⟩
          simp (disch:=omega) only [↓wr,↓reduceIte,wq,ag,ao,Nat.reduceEqDiff,Nat.reduceAdd,Nat.reduceLT,gE,e1,e6,av]
          refine ar.dec (fun hd=>?_) (fun hd=>?_)
          · have hle:=hf.rules
            have hg2:g.rules[j]?=some (g.rules[j]'(by omega)):=List.getElem?_eq_getElem (by omega)
            rw[dw (show j < g.rules.length by omega)] at hj
            have hmem:g.rules[j]'(by omega)∈g.rules:=List.getElem_mem _
            generalize g.rules[j]'(by omega)=r at hg2 hj hmem
            simp only[List.foldl_cons] at hj
            obtain ⟨hl1,hl2⟩:=hf.left r hmem
            obtain ⟨_,_,hs1,hs2⟩:=hg.bN r hmem
            have hr6:=hf.right r hmem
            have hall:=CA r.right p true hs1 (fun s hs=>⟨hs2 s hs,fun hn=>by have:=hf.neg hmem hs hn; omega⟩)
            simp (disch:=omega) only [↓wr,↓reduceIte,wq,ab,Nat.reduceEqDiff,Nat.reduceAdd,Nat.reduceLT,Nat.reduceLeDiff,e1,e6,av,encS,bt,encI,List.getElem?_map,hg2]
            intro b hb
            have hne:m≠b:=JQ em hb (by simp)
            try simp (disch:=omega) only [↓wr,↓reduceIte,wq,ai,ag,ao,ab,ae,af,aj,isNil,Nat.reduceEqDiff,Nat.reduceAdd,Nat.reduceLT,Nat.reduceLeDiff,Int.reduceNeg,Int.reduceToNat,reduceCtorEq,e1,e3,e4,e5,e6,av,encS,bt,encI]
            refine bC.intro (fun q T H'=>∃ (a:Nat) (is3:List Bool),a+q=r.right.length∧is3.length=g.ax.length∧(r.right.drop a).foldl mark is3=r.right.foldl mark is'∧((a=0∧is3=is')∨((is'.getD r.left.toNat false && dC r.right p true)=true∧is3.getD r.left.toNat false=true)) ∧
              T 1=.aQ (av g) 0∧T 3=cO p∧T 4=.sl m 0 g.ax.length 1∧H' m=.arr 1 (ef is3)∧T 5=gi i∧T 6=gi j∧T 7=.ptr b 0 0∧H' b=.arr 3 [bt r]∧T 8=gi a) r.right.length ?_ ?_
            · refine ⟨0,is',by omega,hlen',rfl,.inl ⟨rfl,rfl⟩,?_⟩
              simp (disch:=omega) only [↓wr,↓reduceIte,wq,Nat.reduceEqDiff,Nat.reduceAdd,e1,e3,e4,e5,e6,em,hne,av,encS,bt]
              exact ⟨rfl,rfl⟩
            · rintro q T3 H3 ⟨a,is3,hq,hlen3,ha,hcase,d1,d3,d4,dm,d5,d6,d7,db,d8⟩
              simp (disch:=omega) only [↓wr,↓reduceIte,wq,ag,ao,Nat.reduceEqDiff,Nat.reduceAdd,Nat.reduceLT,Int.reduceNeg,gB,d7,d8,db,bt,encI]
              have hgl:is3[r.left.toNat]?=some (is3[r.left.toNat]'(by omega)):=List.getElem?_eq_getElem (by omega)
              have hgl2:is3.getD r.left.toNat false=is3[r.left.toNat]'(by omega):=by simp[List.getD_eq_getElem?_getD,hgl]
              have hbg:=mO (show r.left.toNat < is3.length by omega)
              have hoff:(is'.getD r.left.toNat false && dC r.right p true)=false→dP p is' r=is3:=fun hW=>by
                rcases hcase with ⟨_,rfl⟩ | ⟨h1,_⟩
                · rw[dP,hW]; rfl
                · rw[hW] at h1; simp at h1
              generalize is3[r.left.toNat]'(by omega)=tl at hgl hgl2 hbg
              refine ar.dec (fun ht=>?_) (fun ht=>?_)
              · have hg3:r.right[a]?=some (r.right[a]'(by omega)):=List.getElem?_eq_getElem (by omega)
                rw[dw (show a < r.right.length by omega)] at ha
                have hms:r.right[a]'(by omega)∈r.right:=List.getElem_mem _
                generalize r.right[a]'(by omega)=s at hg3 ha hms
                simp only[List.foldl_cons] at ha
                have hin:=hs2 s hms
                simp (disch:=omega) only [↓wr,↓reduceIte,wq,Nat.reduceEqDiff,Nat.reduceAdd,Nat.reduceLT,Int.reduceNeg,d4,d7,db,dm,bt,encI,hbg]
                refine ⟨by omega,by omega,?_⟩
                refine ar.split (fun htl=>?_) (fun htl=>?_)
                · simp (disch:=omega) only [↓wr,↓reduceIte,wq,Nat.reduceEqDiff,Nat.reduceAdd,Nat.reduceLT,Int.reduceNeg,d3,d7,db,bt,encI]
                  refine aO.pure hall (by kernel_rfl) ?_
                  simp (disch:=omega) only [↓wr,↓reduceIte,wq,Nat.reduceEqDiff,Int.reduceNeg]
                  refine ar.split (fun hal=>?_) (fun hal=>?_)
                  · simp (disch:=omega) only [↓wr,↓reduceIte,wq,ag,Nat.reduceEqDiff,Nat.reduceAdd,Nat.reduceLT,Int.reduceNeg,d7,d8,db,bt,encI,List.getElem?_map,hg3]
                    have hW:(is'.getD r.left.toNat false && dC r.right p true)=true∧is3.getD r.left.toNat false=true:=by
                      rcases hcase with ⟨_,rfl⟩ | h1
                      · exact ⟨by rw[hgl2,htl,hal]; rfl,by rw[hgl2,htl]⟩
                      · exact h1
                    refine ar.dec (fun hsn=>?_) (fun hsn=>?_)
                    · have hng:=hf.neg hmem hms hsn
                      have hin1:=hin.1
                      have hms2:mark is3 s=is3.set (-1 - s).toNat true:=by rw[mark,if_pos hsn]
                      simp (disch:=omega) only [↓wr,↓reduceIte,wq,ag,ab,Nat.reduceEqDiff,Nat.reduceAdd,Nat.reduceLT,Nat.reduceLeDiff,Int.reduceNeg,reduceCtorEq,d1,d3,d4,d5,d6,d7,d8,db,dm,bt,encI,List.getElem?_map,hg3,mO (show (-1 - s).toNat < is3.length by omega),hne.symm]
                      rw[hms2] at ha
                      exact ⟨by omega,by omega,q - 1,by omega,a+1,is3.set (-1 - s).toNat true,by omega,by simp[hlen3],ha,.inr ⟨hW.1,JN hW.2⟩,by rw[qd],by first | rfl | exact ⟨rfl,rfl⟩⟩
                    · have hms2:mark is3 s=is3:=by rw[mark,if_neg hsn]
                      rw[hms2] at ha
                      simp (disch:=omega) only [↓wr,↓reduceIte,wq,ag,Nat.reduceEqDiff,reduceCtorEq,d1,d3,d4,d5,d6,d7,d8,db,dm]
                      exact ⟨q - 1,by omega,a+1,is3,by omega,hlen3,ha,.inr hW,by first | rfl | exact ⟨rfl,rfl⟩ | exact ⟨rfl,rfl,rfl⟩⟩
                  · simp (disch:=omega) only [↓wr,↓reduceIte,wq,Nat.reduceEqDiff,reduceCtorEq,d1,d3,d4,d5,d6,dm]
                    have hst:=hoff (by rw[hal,Bool.and_false])
                    exact ⟨k' - 1,by omega,j+1,is3,by omega,hlen3,by rw[← hst]; exact hj,rfl,rfl,rfl⟩
                · simp (disch:=omega) only [↓wr,↓reduceIte,wq,Nat.reduceEqDiff,Int.reduceNeg,reduceCtorEq,d1,d3,d4,d5,d6,dm]
                  have hst:dP p is' r=is3:=by
                    rcases hcase with ⟨_,rfl⟩ | ⟨_,h1⟩
                    · rw[dP,hgl2,htl]; rfl
                    · rw[hgl2,htl] at h1; simp at h1
                  exact ⟨k' - 1,by omega,j+1,is3,by omega,hlen3,by rw[← hst]; exact hj,rfl,rfl,rfl⟩
              · simp (disch:=omega) only [↓wr,↓reduceIte,wq,Nat.reduceEqDiff,Int.reduceNeg,reduceCtorEq,d1,d3,d4,d5,d6,dm]
                rw[List.drop_eq_nil_of_le (by omega),List.foldl_nil] at ha
                have hst:dP p is' r=is3:=by
                  rcases hcase with ⟨h0,rfl⟩ | ⟨h1,_⟩
                  · unfold dP
                    split
                    · exact ha.symm
                    · rfl
                  · rw[dP,if_pos h1]; exact ha.symm
                exact ⟨k' - 1,by omega,j+1,is3,by omega,hlen3,by rw[← hst]; exact hj,rfl,rfl,rfl⟩
          · rw[List.drop_eq_nil_of_le (by omega),List.foldl_nil] at hj
            simp (disch:=omega) only [↓wr,↓reduceIte,wq,Nat.reduceEqDiff,reduceCtorEq,e1,e3,e4,e5]
            obtain ⟨q,rfl⟩:∃ q,k=q+1:=⟨k - 1,by omega⟩
            exact ⟨q,by omega,i+1,is',by omega,hlen',by rw[hj]; exact hi,rfl,em,rfl⟩
      · simp (disch:=omega) only [↓wr,↓reduceIte,wq,Nat.reduceEqDiff,reduceCtorEq,f4]
        have:k=0:=by omega
        subst this
        rintro h' rfl
        simp only[← hi,iter]
        rw[← hlen]
        exact pX fm
  · rename_i hr
    rintro h' rfl
    simp only[bH,hr]
    exact .emp 1
theorem Ap (g:aw) (hg:g.Ok):b6 Tryz.prog 116 [.agg (av g)] (cO (bH g)):=b6.of (gn g) (AA g hg _)
def xK:DF:=⟨.seq (ah [aN 2 false]) <|
  .seq (.region [] [⟨none,[aa 3 0,aI 4 135 [3],aa 5 4]⟩,⟨(some (5,false)),[aa 6 0,((some 7),.op (.arith .eql (.tmp 6) (.val (.val (.int .u8 46)))))]⟩,⟨none,[aX 8 5 7,aa 9 8]⟩,⟨(some (9,false)),[aa 10 0,((some 11),.op (.arith .geq (.tmp 10) (.val (.val (.int .u8 48))))),aa 12 11]⟩,⟨(some (12,true)),[aa 13 0,((some 14),.op (.arith .leq (.tmp 13) (.val (.val (.int .u8 57)))))]⟩,⟨(some (9,false)),[bj 15 12 14]⟩,⟨none,[aX 16 9 15,aa 2 16]⟩]) <|
  .ret,
  [.tmp 2],17⟩
theorem Al:aK Tryz.prog 136 []=some xK:=by kernel_rfl
def vE:DF:=⟨.seq (ah [aN 2 false]) <|
  .seq (.region [] [⟨none,[aa 3 0,((some 4),.op (.arith .eql (.tmp 3) (.val (.val (.int .u8 95))))),aa 5 4]⟩,⟨(some (5,false)),[aa 6 0,((some 7),.op (.arith .or (.tmp 6) (.val (.val (.int .u8 32))))),((some 8),.op (.arith .geq (.tmp 7) (.val (.val (.int .u8 97))))),aa 9 8]⟩,⟨(some (9,true)),[aa 10 0,((some 11),.op (.arith .or (.tmp 10) (.val (.val (.int .u8 32))))),((some 12),.op (.arith .leq (.tmp 11) (.val (.val (.int .u8 122)))))]⟩,⟨(some (5,false)),[bj 13 9 12]⟩,⟨none,[aX 14 5 13,aa 2 14]⟩]) <|
  .ret,
  [.tmp 2],15⟩
theorem zO:aK Tryz.prog 135 []=some vE:=by kernel_rfl
def xt:DF:=⟨.seq (ah [aN 2 false]) <|
  .seq (.region [] [⟨none,[aa 3 0,((some 4),.op (.arith .geq (.tmp 3) (.val (.val (.int .u8 32))))),aa 5 4]⟩,⟨(some (5,true)),[aa 6 0,((some 7),.op (.arith .leq (.tmp 6) (.val (.val (.int .u8 126)))))]⟩,⟨none,[bj 8 5 7,aa 9 8]⟩,⟨(some (9,true)),[aa 10 0,((some 11),.op (.arith .neq (.tmp 10) (.val (.val (.int .u8 39)))))]⟩,⟨none,[bj 12 9 11,aa 13 12]⟩,⟨(some (13,true)),[aa 14 0,((some 15),.op (.arith .neq (.tmp 14) (.val (.val (.int .u8 92)))))]⟩,⟨none,[bj 16 13 15,aa 2 16]⟩]) <|
  .ret,
  [.tmp 2],17⟩
theorem Ab:aK Tryz.prog 235 []=some xt:=by kernel_rfl
def uD:DF:=⟨.seq (ah [aN 2 false]) <|
  .seq (.region [] [⟨none,[aa 3 0,((some 4),.op (.arith .eql (.tmp 3) (.val (.val (.int .u8 110))))),aa 5 4]⟩,⟨(some (5,false)),[aa 6 0,((some 7),.op (.arith .eql (.tmp 6) (.val (.val (.int .u8 116)))))]⟩,⟨none,[aX 8 5 7,aa 9 8]⟩,⟨(some (9,false)),[aa 10 0,((some 11),.op (.arith .eql (.tmp 10) (.val (.val (.int .u8 92)))))]⟩,⟨none,[aX 12 9 11,aa 13 12]⟩,⟨(some (13,false)),[aa 14 0,((some 15),.op (.arith .eql (.tmp 14) (.val (.val (.int .u8 39)))))]⟩,⟨none,[aX 16 13 15,aa 2 16]⟩]) <|
  .ret,
  [.tmp 2],17⟩
theorem x9:aK Tryz.prog 236 []=some uD:=by kernel_rfl
def sT:List (FuncId × DF):=[(136,xK),(135,vE),(235,xt),(236,uD)]
theorem qb:tb Tryz.prog sT:=by
  intro p hp
  simp only[sT,List.mem_cons,List.not_mem_nil,or_false] at hp
  rcases hp with rfl | rfl | rfl | rfl
  · exact ⟨_,Al⟩
  · exact ⟨_,zO⟩
  · exact ⟨_,Ab⟩
  · exact ⟨_,x9⟩
theorem Ld (P:Program):ph P (fun _ _ _=>none):=fun _ _ _ _ h=>by simp at h
def Mf (o:Option V) (b:Bool):Bool:=match o with
  | some (.val (.bool c))=>c == b
  | _=>false
theorem MN {o:Option V} {b:Bool} (h:Mf o b=true):o=some (gb b):=by
  unfold Mf at h
  split at h
  · rw[beq_iff_eq] at h; rw[h]
  · simp at h
noncomputable def wz (tab:List (FuncId × DF)) (f:FuncId) (p:Int→Bool):Bool:=(List.range 256).all fun c=>Mf (sY Tryz.prog tab (fun _ _ _=>none) f [gy (c:Int)]) (p (c:Int))
theorem tE {tab:List (FuncId × DF)} (ht:tb Tryz.prog tab) {f:FuncId} {p:Int→Bool} (h:wz tab f p=true) (c:Int) (h0:0≤c) (h1:c≤255):aJ Tryz.prog f [gy c] (gb (p c)):=by
  have:=List.all_eq_true.1 h c.toNat (by simp; omega)
  rw[show ((c.toNat:Nat):Int)=c by omega] at this
  exact (kd mixed ht (Ld _) (by intro v hv; simp at hv; subst hv; exact .val _) (MN this)).pure
def vF (c:Int):Bool:=decide (32≤c) && decide (c≤126) && c != 39 && c != 92
def Ak (c:Int):Bool:=c == 110 || c == 116 || c == 92 || c == 39
theorem GO:wz sT 135 rI=true:=by kernel_rfl
theorem IJ:wz sT 136 kg=true:=by kernel_rfl
theorem I1:wz sT 235 vF=true:=by kernel_rfl
theorem L2:wz sT 236 Ak=true:=by kernel_rfl
theorem AY {s:ByteArray} {c:Int} (h:c∈dH s):0≤c∧c≤255:=by
  unfold dH at h
  obtain ⟨b,_,rfl⟩:=List.mem_map.1 h
  have:=b.toNat_lt
  omega
theorem Jw (s:ByteArray):eo s=(dH s).map fun x=>[gy x]:=by simp[eo,dH]
end Gv
