/-
  Part 7 of the proof: what the machine does and what the functions answer.
  Conditions: those that each lemma names.
-/
import Derived.Test.YtomcjampldmjoaaGreatSGzSF
set_option linter.unusedSimpArgs false
set_option linter.unusedVariables false
set_option maxRecDepth 100000
namespace Gv
open Go Go.Proofs
section
variable {P:Program} {n:Nat} {all:List Oper}
def gM (h:aE) (e:ES):Prop:=e.V=h.view∧e.n=h.length
def Calm (e e':ES) (h h':aE):Prop:=h.length≤h'.length∧(∀ id,id < h.length→¬ id∈e'.w→h'.view id=h.view id∧¬ id∈e.w)
theorem Calm.trans {a b c:ES} {h1 h2 h3:aE} (x:Calm a b h1 h2) (y:Calm b c h2 h3):Calm a c h1 h3 :=
  ⟨Nat.le_trans x.1 y.1,fun id hid hw =>
    let ⟨e1,d1⟩:=y.2 id (Nat.lt_of_lt_of_le hid x.1) hw
    let ⟨e2,d2⟩:=x.2 id hid d1
    ⟨e1.trans e2,d2⟩⟩
theorem Calm.refl (e:ES) (h:aE):Calm e e h h:=⟨Nat.le_refl _,fun _ _ hw=>⟨rfl,hw⟩⟩
def jT (P:Program) (call:gm):Prop:=∀ g vs e v e' h,call g vs e=some (v,e')→gM h e →
  cX P g=true∧∃ h',bY P g vs h v h'∧gM h' e'∧(∀ id,id < h.length→¬ id∈e'.w→h'.view id=h.view id)∧∀ id,id∈e'.w→id < h.length
def uU (P:Program) (run:wa):Prop:=∀ (n:Nat) (fz:List Nat) (c:Code) (sc:DC),hO P n fz c=some sc→n≤8000→∀ (e e':ES) (r:Exit) (h:aE),run sc e=some (r,e')→gM h e →
  ∃ h',cA P n c e.T h r e'.T h'∧gM h' e'∧Calm e e' h h'∧∀ c0,c=.loop c0→oG P n c0 e.T h r e'.T h'
theorem HX {h:aE} {e:ES} {d:Option Nat} {v:V} (he:gM h e):gM h (e.put d v):=by cases d <;> exact he
theorem Mn {e:ES} {d:Option Nat} {v:V} : (e.put d v).w=e.w:=by cases d <;> rfl
theorem LA {h:aE} {e e':ES} {h':aE} {d:Option Nat} {v:V} (x:Calm e e' h h'):Calm e (e'.put d v) h h':=⟨x.1,fun id hid hw=>x.2 id hid (by rw[Mn] at hw; exact hw)⟩
theorem AH {a:Nat} (h:Nat.ble a 8000=true):a+1 < 2 ^ 13:=by
  have:=Nat.le_of_ble_eq_true h
  omega
theorem Nq {h:aE} {e e':ES} {v v':V} {aD:bk} {rd:List Nat} {c:Rec} (he:gM h e) (hx:EN v aD rd e=some (v',e',c)) :
    v'=v∧e'.T=e.T∧e'.V=aD.view h.view h.length∧e'.n=(aD.apply h).length∧c=⟨rd,aD.wr,false,h.length,(aD.apply h).length⟩∧e'.w=aD.wr ++ e.w:=by
  obtain ⟨h1,h2⟩:=he
  unfold EN at hx
  cases aD with
  | none =>
    simp only[Option.some.injEq,Prod.mk.injEq] at hx
    obtain ⟨rfl,rfl,rfl⟩:=hx
    exact ⟨rfl,rfl,h1,h2,by rw[h2]; rfl,rfl⟩
  | new o =>
    simp only at hx
    split at hx
    · rename_i hb
      simp only[Option.some.injEq,Prod.mk.injEq] at hx
      obtain ⟨rfl,rfl,rfl⟩:=hx
      refine ⟨rfl,rfl,?_,by simp[fq,h2],by simp[fq,h2,bk.wr],rfl⟩
      funext k
      simp only[ES.V,bk.view,View.set]
      rw[cn.lG _ _ _ _ _ _ (AH hb),h2]
      have:=congrFun h1 k
      simp only[ES.V] at this
      rw[this]
    · simp at hx
  | fH id o =>
    simp only at hx
    split at hx
    · rename_i hb
      simp only[Option.some.injEq,Prod.mk.injEq] at hx
      obtain ⟨rfl,rfl,rfl⟩:=hx
      refine ⟨rfl,rfl,?_,by simp[fq,h2],by simp[fq,h2,bk.wr],rfl⟩
      funext k
      simp only[ES.V,bk.view,View.set]
      rw[cn.lG _ _ _ _ _ _ (AH hb)]
      have:=congrFun h1 k
      simp only[ES.V] at this
      rw[this]
    · simp at hx
  | aZ id o =>
    simp only at hx
    split at hx
    · rename_i hb1 hb2
      simp only[Option.some.injEq,Prod.mk.injEq] at hx
      obtain ⟨rfl,rfl,rfl⟩:=hx
      refine ⟨rfl,rfl,?_,by simp[fq,h2],by simp[fq,h2,bk.wr],rfl⟩
      funext k
      simp only[ES.V,bk.view,View.set]
      rw[cn.lG _ _ _ _ _ _ (AH hb1),cn.lG _ _ _ _ _ _ (AH hb2),h2]
      have:=congrFun h1 k
      simp only[ES.V] at this
      rw[this]
    · simp at hx
theorem Oq {o:Oper} {e e':ES} {h:aE} {s:SI} {v:V} {c:Rec} (hg:cQ n all e.T o=some true) (hc:∀ v aD rd,sI P s e.T h.view h.length=some (v,aD,rd)→cb P o e.T h.view h.length=some (v,aD,rd))
    (he:gM h e) (hx:Iu P s e=some (v,e',c)):∃ h',de P n all o e.T h v h' c.rd c.wr c.call∧gM h' e'∧e'.T=e.T∧Calm e e' h h'∧j0 (rP P s) c.rd c.wr c.call h.length h'.length∧c.lo=h.length∧c.hi=h'.length:=by
  unfold Iu at hx
  rw[GJ,he.1,he.2] at hx
  split at hx
  · rename_i v0 aD rd hs
    obtain ⟨rfl,g1,g2,g3,rfl,g5⟩:=Nq he hx
    have ha:=hc _ _ _ hs
    have st:=de.op (P:=P) (n:=n) (all:=all) hg ha
    refine ⟨aD.apply h,st,⟨?_,g3⟩,g1,⟨sf st,fun id hid hw=>?_⟩,⟨fun h0=>?_,fun h1=>?_⟩,rfl,rfl⟩
    · rw[j3 (fun id hid=>(lp ha id hid).1)]; exact g2
    · rw[g5] at hw
      simp only[List.mem_append,not_or] at hw
      exact ⟨qk st hid hw.1,hw.2⟩
    · obtain ⟨rfl,rfl⟩:=(qG hs).1 h0
      exact ⟨rfl,rfl,rfl,rfl⟩
    · rcases Nat.lt_or_ge (rP P s) 1 with h2 | h2
      · obtain ⟨rfl,rfl⟩:=(qG hs).1 (by omega); rfl
      · exact (qG hs).2 (by omega)
  · simp at hx
theorem P3 {call:gm} (hcall:jT P call) {fz:Fz} {o:Oper} {e e':ES} {h:aE} {v:V} {c:Rec} (hg:cQ n all e.T o=some true) (he:gM h e) (hx:eB P call (mf P fz o) e=some (v,e',c)) :
    ∃ h',de P n all o e.T h v h' c.rd c.wr c.call∧gM h' e'∧e'.T=e.T∧Calm e e' h h'∧j0 (hQ P false (mf P fz o)) c.rd c.wr c.call h.length h'.length∧c.lo=h.length∧c.hi=h'.length:=by
  rcases yG P fz o with ⟨f,args,ats,ho,hc⟩ | ⟨t,x,ho,hc⟩ | ⟨s,d,x,ho,hcv,hc⟩ | hc
  · rw[hc] at hx ⊢
    simp only[eB,JV] at hx
    split at hx
    · rename_i g first cap hf
      rw[DZ] at hx
      rw[SX.cw] at hf
      split at hx
      · rename_i v0 e0 hv
        obtain ⟨hok,h',hr,hek,hd,hd2⟩:=hcall _ _ _ _ _ _ hv he
        simp only[Option.some.injEq,Prod.mk.injEq] at hx
        obtain ⟨rfl,rfl,rfl⟩:=hx
        exact ⟨h',.call hg ho hf hok hr hd hd2,hek,rfl,⟨hr.1,fun id hid hw=>by
          simp only[List.mem_append,not_or] at hw
          exact ⟨hd id hid hw.1,hw.2⟩⟩,Mr (by simp[hQ]),he.2,hek.2⟩
      · simp at hx
    · simp at hx
  · rw[hc] at hx ⊢
    simp only[eB,Iu,GJ,sI,SX.cw] at hx
    split at hx
    · rename_i v0 aD rd hs
      split at hs
      · rename_i hok
        simp only[Option.some.injEq,Prod.mk.injEq] at hs
        obtain ⟨rfl,rfl,rfl⟩:=hs
        simp only[EN,Option.some.injEq,Prod.mk.injEq] at hx
        obtain ⟨rfl,rfl,rfl⟩:=hx
        exact ⟨h,.iu hg ho hok,he,rfl,Calm.refl _ _,⟨fun _=>⟨rfl,rfl,rfl,rfl⟩,fun _=>rfl⟩,he.2,he.2⟩
      · simp at hs
    · simp at hx
  · rw[hc] at hx ⊢
    obtain ⟨ty,h1,h2,h3⟩:=yR hcv
    simp only[eB,Iu,GJ,sI,SX.cw] at hx
    split at hx
    · rename_i v0 aD rd hs
      split at hs
      · rename_i st hst
        simp only[Option.some.injEq,Prod.mk.injEq] at hs
        obtain ⟨rfl,rfl,rfl⟩:=hs
        simp only[EN,Option.some.injEq,Prod.mk.injEq] at hx
        obtain ⟨rfl,rfl,rfl⟩:=hx
        exact ⟨h,.eW hg ho h1 h2 h3 hst,he,rfl,Calm.refl _ _,⟨fun _=>⟨rfl,rfl,rfl,rfl⟩,fun _=>rfl⟩,he.2,he.2⟩
      · simp at hs
    · simp at hx
  · rw[hc] at hx ⊢
    exact Oq (s:=xM P fz.fr (comp P o)) hg (fun v aD rd hs=>FR (FF hs)) he hx
theorem OM {o:Oper} (hd:qm n o=true) (hn:n≤8000):∀ t,o.dst=some t→t < 8000:=by
  intro t ht
  unfold qm at hd
  rw[ht] at hd
  have:t < n:=by simpa using hd
  exact Nat.lt_of_lt_of_le this hn
theorem Oj {c:Rec} {a b:Nat} (h1:c.lo=a) (h2:c.hi=b):c=⟨c.rd,c.wr,c.call,a,b⟩:=by cases c; subst h1; subst h2; rfl
theorem Ee {call:gm} (hcall:jT P call) (hn:n≤8000) {fz:Fz} (g:Option (Nat × Bool)):∀ (l:List (Option Nat × SB)) (os:List Oper) (e e':ES) (h:aE) (a a':List Rec),
    cZ P n all fz os=some (l.map fun (d,b)=>⟨d,g,b⟩)→(∀ d w,g=some (d,w)→e.T d=.val (.bool w)∧(l.all fun x=>x.1 != some d)=true)→gM h e→Gf P call l a e=some (e',a') →
    ∃ recs h',a'=a ++ recs∧Tr P n all os e.T h recs e'.T h'∧gM h' e'∧Calm e e' h h'∧eP P false (l.map fun (d,b)=>⟨d,g,b⟩) recs
  | [],os,e,e',h,a,a',hc,hg,he,hx=>by
    have:=kg hc; subst this
    simp only[Gf,Option.some.injEq,Prod.mk.injEq] at hx; obtain ⟨rfl,rfl⟩:=hx
    exact ⟨[],h,by simp,.nil,he,Calm.refl _ _,.nil⟩
  | (d,b) :: l,os,e,e',h,a,a',hc,hg,he,hx=>by
    obtain ⟨o,r,rfl,h1,h2⟩:=kR hc
    obtain ⟨hd,hd1,hb1,hg1⟩:=rQ h1
    simp only at hd1 hb1 hg1
    have hgv:cQ n all e.T o=some true:=by
      cases g with
      | none=>exact AO hg1
      | some p =>
        obtain ⟨d',w⟩:=p
        have:=(kd (T:=e.T) hg1).1 w (hg d' w rfl).1
        rw[this]; simp
    simp only[Gf] at hx
    rw[hb1] at hx
    split at hx
    · rename_i v e1 c hv
      obtain ⟨h1',st,he1,hT1,hcm,hl,hlo,hhi⟩:=P3 hcall hgv he hv
      have hput:(e1.put d v).T=e.T.put o.dst v:=by
        rw[ES.Mm (by rw[hd1]; exact OM hd hn),hT1,hd1]
      obtain ⟨recs,h'',ha,tr,he2,hcm2,hro⟩:=Ee hcall hn g l r (e1.put d v) e' h1' _ a' h2 (fun d' w eq=>by
        have:=hg d' w eq
        simp only[List.all_cons,Bool.and_eq_true,bne_iff_ne,ne_eq] at this
        refine ⟨?_,this.2.2⟩
        rw[← this.1,hput,← hd1]
        cases d with
        | none=>rfl
        | some t=>simp only[Env.put]; rw[if_neg]; intro e; subst e; exact this.2.1 rfl) (HX he1) hx
      rw[hput] at tr
      refine ⟨_,h'',?_,.cons st hd tr,he2,(LA hcm).trans hcm2,hro.cons (by rw[hb1]; exact hl)⟩
      rw[ha,List.append_assoc,← Oj hlo hhi]; rfl
    · simp at hx
theorem EX {fz:Fz} (hn:n≤8000) (d:Nat) (w:Bool) (h:aE):∀ (l:List (Option Nat × SB)) (os:List Oper) (e e':ES) (a a':List Rec),
    cZ P n all fz os=some (l.map fun (d',b)=>⟨d',some (d,w),b⟩)→(e.T d=.val (.bool !w)∨e.T d=.bt [])→(l.all fun x=>x.1 != some d)=true→gM h e→uM l a e=(e',a') →
    ∃ recs,a'=a ++ recs∧Tr P n all os e.T h recs e'.T h∧gM h e'∧e'.w=e.w∧eP P false (l.map fun (d',b)=>⟨d',some (d,w),b⟩) recs
  | [],os,e,e',a,a',hc,hd,hl,he,hx=>by
    have:=kg hc; subst this
    simp only[uM,Prod.mk.injEq] at hx; obtain ⟨rfl,rfl⟩:=hx
    exact ⟨[],by simp,.nil,he,rfl,.nil⟩
  | (d',b) :: l,os,e,e',a,a',hc,hd,hl,he,hx=>by
    obtain ⟨o,r,rfl,h1,h2⟩:=kR hc
    obtain ⟨hd0,hd1,hb1,hg1⟩:=rQ h1
    simp only at hd1 hb1 hg1
    have hgv:cQ n all e.T o=some false:=by
      rcases hd with hd | hd
      · rw[(kd (T:=e.T) hg1).1 _ hd]; cases w <;> rfl
      · exact (kd (T:=e.T) hg1).2 hd
    simp only[List.all_cons,Bool.and_eq_true,bne_iff_ne,ne_eq] at hl
    have hput:(e.put d' (.bt [])).T=e.T.put o.dst (.bt []):=by
      rw[ES.Mm (by rw[hd1]; exact OM hd0 hn),hd1]
    simp only[uM] at hx
    obtain ⟨recs,ha,tr,he2,hd2,hro⟩:=EX hn d w h l r (e.put d' (.bt [])) e' _ a' h2 (by
      have:(e.put d' (.bt [])).T d=e.T d:=by
        rw[hput,← hd1]
        cases d' with
        | none=>rfl
        | some t=>simp only[Env.put]; rw[if_neg]; intro e; subst e; exact hl.1 rfl
      rw[this]; exact hd) hl.2 (HX he) hx
    rw[hput] at tr
    refine ⟨_,?_,Tr.cons (.skip hgv) hd0 tr,he2,by rw[hd2,Mn],hro.cons (r:=⟨[],[],false,h.length,h.length⟩) ⟨fun _=>⟨rfl,rfl,rfl,rfl⟩,fun _=>rfl⟩⟩
    rw[ha,List.append_assoc,Mv,he.2]; rfl
theorem C8 {fz:Fz} (hn:n≤8000) {d:Nat} {w:Bool} {h:aE} {l:List (Option Nat × SB)} {os:List Oper} {e e':ES} {a a':List Rec}
    (hc:cZ P n all fz os=some (l.map fun (d',b)=>⟨d',some (d,w),b⟩)) (hd:e.T d=.val (.bool !w)∨e.T d=.bt []) (hl:(l.all fun x=>x.1 != some d)=true) (he:gM h e) (hx:uM l a e=(e',a')) :
    ∃ recs h',a'=a ++ recs∧Tr P n all os e.T h recs e'.T h'∧gM h' e'∧Calm e e' h h'∧eP P false (l.map fun (d',b)=>⟨d',some (d,w),b⟩) recs:=by
  obtain ⟨recs,h1,h2,h3,h4,h5⟩:=EX hn d w h l os e e' a a' hc hd hl he hx
  exact ⟨recs,h,h1,h2,h3,⟨Nat.le_refl _,fun id _ hw=>⟨rfl,by rw[h4] at hw; exact hw⟩⟩,h5⟩
theorem PS {call:gm} (hcall:jT P call) (hn:n≤8000) {fz:Fz} {g:SG} {os:List Oper} {e e':ES} {h:aE} {a a':List Rec} (hc:cZ P n all fz os=some g.flat) (hok:se g=true) (he:gM h e) (hx:eG P call g a e=some (e',a')) :
    ∃ recs h',a'=a ++ recs∧Tr P n all os e.T h recs e'.T h'∧gM h' e'∧Calm e e' h h'∧eP P false g.flat recs:=by
  unfold eG at hx
  unfold SG.flat at hc ⊢
  unfold se at hok
  split at hx
  · rename_i hg
    rw[hg] at hc ⊢
    exact Ee hcall hn none g.ops os e e' h a a' hc (fun d w e=>by simp at e) he hx
  · rename_i d want hg
    rw[hg] at hc hok ⊢
    simp only at hok
    unfold JG at hx
    split at hx
    · rename_i b hb
      split at hx
      · rename_i hxor
        simp only[Option.some.injEq] at hx
        have e':b = !want:=by cases b <;> cases want <;> simp_all
        subst e'
        exact C8 hn hc (.inl hb) hok he hx
      · rename_i hxor
        have e':b=want:=by cases b <;> cases want <;> simp_all
        subst e'
        exact Ee hcall hn (some (d,b)) g.ops os e _ h a a' hc (fun d' w e=>by simp at e; obtain ⟨rfl,rfl⟩:=e; exact ⟨hb,hok⟩) he hx
    · rename_i hb
      simp only[Option.some.injEq] at hx
      exact C8 hn hc (.inr hb) hok he hx
    · simp at hx
theorem Ja {call:gm} (hcall:jT P call) (hn:n≤8000) {fz:Fz} : ∀ (gs:List SG) (os:List Oper) (e e':ES) (h:aE) (a a':List Rec),cZ P n all fz os=some (jm gs)→gs.all se=true→gM h e→I1 P call gs a e=some (e',a') →
    ∃ recs h',a'=a ++ recs∧Tr P n all os e.T h recs e'.T h'∧gM h' e'∧Calm e e' h h'∧eP P false (jm gs) recs
  | [],os,e,e',h,a,a',hc,_,he,hx=>by
    have:=kg hc; subst this
    simp only[I1,Option.some.injEq,Prod.mk.injEq] at hx; obtain ⟨rfl,rfl⟩:=hx
    exact ⟨[],h,by simp,.nil,he,Calm.refl _ _,.nil⟩
  | g :: gs,os,e,e',h,a,a',hc,hok,he,hx=>by
    simp only[jm,List.map_cons,List.flatten_cons] at hc ⊢
    simp only[List.all_cons,Bool.and_eq_true] at hok
    obtain ⟨o1,o2,rfl,h1,h2⟩:=pT hc
    simp only[I1] at hx
    split at hx
    · rename_i e1 a1 hx1
      obtain ⟨r1,h1',ha1,tr1,he1,hc1,ro1⟩:=PS hcall hn h1 hok.1 he hx1
      obtain ⟨r2,h2',ha2,tr2,he2,hc2,ro2⟩:=Ja hcall hn gs o2 e1 e' h1' a1 a' h2 hok.2 he1 hx
      exact ⟨_,h2',by rw[ha2,ha1,List.append_assoc],tr1.append tr2,he2,hc1.trans hc2,ro1.append ro2⟩
    · simp at hx
theorem IT {ls:List Nat} {i k x y:Nat} (hik:i < k) (hx:ls[i]?=some x) (hy:ls[k]?=some y) (ho:ordered (eC all []) i k=false) (h:¬ (x=0∨y=0∨(x≤1∧y≤1))):(i,k)∈zX all ls:=by
  unfold zX
  simp only[List.mem_flatten,List.mem_map]
  refine ⟨_,⟨(x,i),by rw[List.mem_zipIdx_iff_getElem?]; exact hx,rfl⟩,?_⟩
  simp only[List.mem_map,List.mem_filter]
  refine ⟨(y,k),⟨by rw[List.mem_zipIdx_iff_getElem?]; exact hy,?_⟩,rfl⟩
  simp only[hik,decide_true,ho,Bool.false_or,Bool.true_and,Bool.not_eq_true',Bool.or_eq_false_iff,beq_eq_false_iff_ne,Bool.and_eq_false_iff,decide_eq_false_iff_not]
  omega
theorem Lq {ls:List Nat} {recs:List Rec} (h:Jp recs (zX all ls)=true) (hl:ls.length=recs.length) (hr:∀ (i x:Nat) (r:Rec),ls[i]?=some x→recs[i]?=some r→j0 x r.rd r.wr r.call r.lo r.hi):sV all recs:=by
  intro i k a b hik ha hb ho
  have hi:i < recs.length:=(List.getElem?_eq_some_iff.1 ha).1
  have hk:k < recs.length:=(List.getElem?_eq_some_iff.1 hb).1
  have hx:ls[i]?=some (ls[i]'(by omega)):=List.getElem?_eq_getElem (by omega)
  have hy:ls[k]?=some (ls[k]'(by omega)):=List.getElem?_eq_getElem (by omega)
  generalize ls[i]'(by omega)=x at hx
  generalize ls[k]'(by omega)=y at hy
  have la:=hr i _ a hx ha
  have lb:=hr k _ b hy hb
  by_cases hc:x=0∨y=0∨(x≤1∧y≤1)
  · rcases hc with h1 | h1 | h1
    · obtain ⟨e1,e2,e3,e4⟩:=la.1 h1
      exact ⟨fun id hid=>by simp[e2] at hid,fun id _=>by simp[e1],fun hc=>by simp[e3] at hc,fun _=>e2,fun id _ hx=>by omega⟩
    · obtain ⟨e1,e2,e3,e4⟩:=lb.1 h1
      exact ⟨fun id _=>by simp[e1],fun id hid=>by simp[e2] at hid,fun _=>e2,fun hc=>by simp[e3] at hc,fun id hid=>by simp[e2] at hid⟩
    · have e1:=la.2 h1.1
      have e2:=lb.2 h1.2
      exact ⟨fun id hid=>by simp[e1] at hid,fun id hid=>by simp[e2] at hid,fun _=>e2,fun _=>e1,fun id hid=>by simp[e2] at hid⟩
  · have:=List.all_eq_true.1 h _ (IT hik hx hy ho hc)
    simp only[ha,hb] at this
    exact IG this
theorem NN (hm:P.follows .mixedOrders=true) {call:gm} (hcall:jT P call) (hn:n≤8000) {fz:List Nat} {id:Nat} {ops:Array Oper} {draw:Bool} {sc:DC} {run:wa} {e e':ES} {r:Exit} {h:aE}
    (hc:DW P n fz ops.toList draw=some sc) (he:gM h e) (hx:lf P call run sc e=some (r,e')) :
    ∃ h',cA P n (.region id ops draw) e.T h r e'.T h'∧gM h' e'∧Calm e e' h h':=by
  unfold DW at hc
  split at hc
  · simp at hc
  · rename_i l hl
    split at hc
    · simp at hc
    · rename_i hok
      have hok:(group l).all se=true:=by simpa using hok
      have hl':cZ P n ops.toList ⟨fz,false⟩ ops.toList=some (jm (group l)):=by rw[fi]; exact hl
      have key:∀ ps,lf P call run (.region ps (group l)) e=some (r,e')→(draw=true→kX ops.toList=true∧ps=zX ops.toList (l.map fun s=>hQ P false s.b)) →
          ∃ h',cA P n (.region id ops draw) e.T h r e'.T h'∧gM h' e'∧Calm e e' h h':=by
        intro ps hx hdr
        simp only[lf,FY] at hx
        split at hx
        · rename_i e1 recs0 hx1
          split at hx
          · rename_i hchk
            simp only[Option.some.injEq,Prod.mk.injEq] at hx
            obtain ⟨rfl,rfl⟩:=hx
            obtain ⟨recs,h',ha,tr,hk,hcm,hro⟩:=Ja hcall hn (group l) ops.toList e e1 h [] recs0 hl' hok he hx1
            simp only[List.nil_append] at ha
            subst ha
            rw[fi] at hro
            refine ⟨h',?_,hk,hcm⟩
            cases hd:draw with
            | false=>simpa using EE (id:=id) tr
            | true =>
              obtain ⟨h1,rfl⟩:=hdr hd
              have hcf:sV ops.toList recs0:=Lq hchk (by simpa using hro.1) (fun i x r hx hr=>by
                simp only[List.getElem?_map,Option.map_eq_some_iff] at hx
                obtain ⟨s,hs,rfl⟩:=hx
                exact hro.2 i s r hs hr)
              simpa using yb hm (id:=id) tr h1 hcf
          · simp at hx
        · simp at hx
      split at hc
      · rename_i hd
        split at hc
        · rename_i ht
          simp at hc; subst hc
          exact key _ hx (fun _=>⟨ht,rfl⟩)
        · simp at hc
      · rename_i hd
        simp at hc; subst hc
        exact key _ hx (fun e=>absurd e hd)
theorem Lw (hm:P.follows .mixedOrders=true) {call:gm} (hcall:jT P call) {run:wa} (hrun:uU P run):uU P (lf P call run):=by
  intro n fz c sc hc hn e e' r h hx he
  cases c with
  | skip =>
    simp[hO] at hc; subst hc
    simp only[lf,JW,Option.some.injEq,Prod.mk.injEq] at hx
    obtain ⟨rfl,rfl⟩:=hx
    exact ⟨h,.skip,he,Calm.refl _ _,fun _ h=>by simp at h⟩
  | region id ops draw =>
    obtain ⟨h',a,b,d⟩:=NN (id:=id) hm hcall hn hc he hx
    exact ⟨h',a,b,d,fun _ h=>by simp at h⟩
  | seq x y =>
    simp only[hO] at hc
    split at hc
    · rename_i a b h1 h2
      simp at hc; subst hc
      simp only[lf,OX] at hx
      split at hx
      · rename_i e1 hx1
        obtain ⟨h1',x1,he1,c1,l1⟩:=hrun n fz x a h1 hn e e1 .normal h hx1 he
        obtain ⟨h2',x2,he2,c2,l2⟩:=hrun n fz y b h2 hn e1 e' r h1' hx he1
        exact ⟨h2',x1.seq x2,he2,c1.trans c2,fun _ h=>by simp at h⟩
      · rename_i hne
        obtain ⟨h1',x1,he1,c1,l1⟩:=hrun n fz x a h1 hn e e' r h hx he
        refine ⟨h1',x1.FZ (fun e=>?_),he1,c1,fun _ h=>by simp at h⟩
        subst e
        exact absurd hx (hne e')
    · simp at hc
  | cond cc x y =>
    simp only[hO] at hc
    split at hc
    · rename_i a b h1 h2
      simp at hc; subst hc
      simp only[lf,Ml,SX.cw] at hx
      split at hx
      · rename_i ht
        obtain ⟨h1',x1,he1,c1,l1⟩:=hrun n fz x a h1 hn e e' r h hx he
        exact ⟨h1',.cond ht x1,he1,c1,fun _ h=>by simp at h⟩
      · rename_i ht
        obtain ⟨h1',x1,he1,c1,l1⟩:=hrun n fz y b h2 hn e e' r h hx he
        exact ⟨h1',.cond ht x1,he1,c1,fun _ h=>by simp at h⟩
      · simp at hx
    · simp at hc
  | block id c =>
    simp only[hO,Option.map_eq_some_iff] at hc
    obtain ⟨a,h1,rfl⟩:=hc
    simp only[lf,HR] at hx
    split at hx
    · rename_i r1 e1 hx1
      simp only[Option.some.injEq,Prod.mk.injEq] at hx
      obtain ⟨rfl,rfl⟩:=hx
      obtain ⟨h1',x1,he1,c1,l1⟩:=hrun n fz c a h1 hn e e1 r1 h hx1 he
      exact ⟨h1',x1.block,he1,c1,fun _ h=>by simp at h⟩
    · simp at hx
  | loop c =>
    have hc0:=hc
    simp only[hO,Option.map_eq_some_iff] at hc
    obtain ⟨a,h1,rfl⟩:=hc
    simp only[lf,Mo] at hx
    split at hx
    · rename_i e1 hx1
      obtain ⟨h1',x1,he1,c1,l1⟩:=hrun n fz c a h1 hn e e1 .normal h hx1 he
      obtain ⟨h2',x2,he2,c2,l2⟩:=hrun n fz (.loop c) (.loop a) hc0 hn e1 e' r h1' hx he1
      have hL:=oG.step x1 (l2 c rfl)
      exact ⟨h2',.loop hL,he2,c1.trans c2,fun c0 h0=>by simp only[Code.loop.injEq] at h0; subst h0; exact hL⟩
    · rename_i hne
      obtain ⟨h1',x1,he1,c1,l1⟩:=hrun n fz c a h1 hn e e' r h hx he
      have hL:=oG.out x1 (fun e=>by subst e; exact absurd hx (hne e'))
      exact ⟨h1',.loop hL,he1,c1,fun c0 h0=>by simp only[Code.loop.injEq] at h0; subst h0; exact hL⟩
  | exit id =>
    simp[hO] at hc; subst hc
    simp only[lf,Option.some.injEq,Prod.mk.injEq] at hx
    obtain ⟨rfl,rfl⟩:=hx
    exact ⟨h,.exit,he,Calm.refl _ _,fun _ h=>by simp at h⟩
  | ret =>
    simp[hO] at hc; subst hc
    simp only[lf,Option.some.injEq,Prod.mk.injEq] at hx
    obtain ⟨rfl,rfl⟩:=hx
    exact ⟨h,.ret,he,Calm.refl _ _,fun _ h=>by simp at h⟩
  | _=>simp[hO] at hc
theorem CP:∀ (vs:List V) (i:Nat) (t:cn V),i+vs.length≤8000→∀ k,(lH vs i t).get .any k=if i≤k∧k < i+vs.length then vs.getD (k - i) .any else t.get .any k
  | [],i,t,h,k=>by
    rw[lH,if_neg (by simp only[List.length_nil]; omega)]
  | v :: vs,i,t,h,k=>by
    simp only[List.length_cons] at h
    rw[lH,CP vs (i+1) _ (by omega),cn.lG _ _ _ _ _ _ (by simp only[deep]; omega)]
    simp only[List.length_cons]
    by_cases h1:k=i
    · subst h1; rw[if_neg (by omega),if_pos rfl,if_pos (by omega)]; simp
    · by_cases h2:i+1≤k∧k < i+1+vs.length
      · rw[if_pos h2,if_pos (by omega)]
        have:k - i=(k - (i+1))+1:=by omega
        rw[this]; rfl
      · rw[if_neg h2,if_neg h1,if_neg (by omega)]
theorem Fs (vs:List V) (h:vs.length≤8000):(lH vs 0 .nil).get .any=kn vs:=by
  funext k
  rw[CP vs 0 .nil (by omega)]
  simp only[kn,Nat.zero_le,true_and,Nat.zero_add,Nat.sub_zero]
  split
  · rfl
  · rename_i hk
    rw[List.getD_eq_getElem?_getD,List.getElem?_eq_none (by omega)]; rfl
theorem N2 {e:ES} {h:aE} {r:ResultVar} {rest:List ResultVar} {l:List SR} (he:gM h e) (hc:eF P (r :: rest)=some l):∃ s l',l=s :: l'∧eF P rest=some l'∧∀ v,LX s e=some v→qS P e.T h r=some v:=by
  cases r with
  | tmp t =>
    simp only[eF,Option.map_eq_some_iff] at hc
    obtain ⟨l',h1,rfl⟩:=hc
    exact ⟨.tmp t,l',rfl,h1,fun v hv=>hv⟩
  | cell a t =>
    simp only[eF] at hc
    split at hc
    · rename_i k l' h1 h2
      simp at hc; subst hc
      refine ⟨.cell a k,l',rfl,h2,fun v hv=>?_⟩
      simp only[LX] at hv
      simp only[qS,ld,uY h1]
      rw[he.1] at hv
      split at hv
      · rename_i id i j ha
        split at hv
        · rename_i es hH
          split at hv
          · rename_i hlt
            rw[ha]; simp only[hH]; rw[if_pos hlt,hv]; rfl
          · simp at hv
        · simp at hv
      · rename_i e j ha
        rw[ha]; simp only; rw[hv]; rfl
      · simp at hv
    · simp at hc
theorem DY {e:ES} {h:aE} (he:gM h e):∀ (rs:List ResultVar) (l:List SR) (vs:List V),eF P rs=some l→uD l e=some vs→kS P e.T h rs=some vs
  | [],l,vs,hc,hw=>by simp[eF] at hc; subst hc; simp[uD] at hw; subst hw; rfl
  | r :: rest,l,vs,hc,hw=>by
    obtain ⟨s,l',rfl,h1,h2⟩:=N2 (e:=e) (h:=h) he hc
    simp only[uD] at hw
    split at hw
    · rename_i v vs' hv hvs
      simp at hw; subst hw
      simp[kS,h2 v hv,DY he rest l' vs' h1 hvs]
    · simp at hw
def rL (P:Program) (tab:List (FuncId × DF)):Prop:=∀ p∈tab,∃ fz,bK P p.1 fz=some p.2
def q4 (P:Program) (ext:x8):Prop:=∀ g vs H t,ext g vs H=some t→cX P g=true∧∀ h:aE,h.view=H→bY P g vs h t h
theorem Eb {tab:List (FuncId × DF)} {ext:x8} (ht:rL P tab) (hx:q4 P ext) {run:wa} (hrun:uU P run):jT P (Dv P tab ext run):=by
  intro g vs e v e' h hcall he
  unfold Dv at hcall
  split at hcall
  · rename_i t hext
    simp only[Option.some.injEq,Prod.mk.injEq] at hcall
    obtain ⟨rfl,rfl⟩:=hcall
    obtain ⟨h1,h2⟩:=hx _ _ _ _ hext
    exact ⟨h1,h,h2 h he.1.symm,he,fun _ _ _=>rfl,fun _ hw=>by simp at hw⟩
  · split at hcall
    · rename_i g' F hf
      have hmem:=List.mem_of_find?_eq_some hf
      have hgg:g'=g:=by
        have:=List.find?_some hf
        exact Nat.eq_of_beq_eq_true this
      subst hgg
      obtain ⟨fz,hF⟩:=ht _ hmem
      simp only at hF
      unfold bK at hF
      split at hF
      · rename_i fn hfn
        split at hF
        · rename_i c hb
          split at hF
          · rename_i sc rs h1 h2 h3
            simp at hF; subst hF
            refine ⟨h3,?_⟩
            unfold Pg at hcall
            split at hcall
            · rename_i hlen hn
              have hlen:=Nat.le_of_ble_eq_true hlen
              have hn:=Nat.le_of_ble_eq_true hn
              simp only at hlen hn
              unfold Pb at hcall
              split at hcall
              · rename_i v1 e1' hend
                simp only[Option.some.injEq,Prod.mk.injEq] at hcall
                obtain ⟨rfl,rfl⟩:=hcall
                unfold OU at hend
                have go:∀ (r:Exit) (e1:ES),(r=.ret∨r=.normal)→run sc ⟨lH vs 0 .nil,e.H,e.n,[]⟩=some (r,e1)→(uD rs e1).map (fun vs=>(ah vs,e1))=some (v1,e1') →
                    ∃ h',bY P g' vs h v1 h'∧gM h' e1'∧(∀ id,id < h.length→¬ id∈e1'.w→h'.view id=h.view id):=by
                  intro r e1 hr hrn hres
                  simp only[Option.map_eq_some_iff,Prod.mk.injEq] at hres
                  obtain ⟨vs',hvs,rfl,rfl⟩:=hres
                  obtain ⟨h',hx,he1,hc1,_⟩:=hrun fn.ntmps fz c sc h1 hn _ e1 r h hrn he
                  have hT:(ES.T ⟨lH vs 0 .nil,e.H,e.n,[]⟩)=kn vs:=Fs vs (by omega)
                  rw[hT] at hx
                  refine ⟨h',bY.F5 hfn hb hlen hx (by rcases hr with rfl | rfl <;> simp) ?_,he1,fun id hid hw=>(hc1.2 id hid hw).1⟩
                  unfold GU
                  rw[DY he1 _ _ _ h2 hvs]
                  cases vs' with
                  | nil=>rfl
                  | cons a l=>cases l <;> rfl
                have done:(∃ h',bY P g' vs h v1 h'∧gM h' e1'∧(∀ id,id < h.length→¬ id∈e1'.w→h'.view id=h.view id)) →
                    ∃ h',bY P g' vs h v1 h'∧gM h' ⟨e1'.L,e1'.H,e1'.n,e1'.w.filter fun id=>Nat.blt id e.n⟩∧(∀ id,id < h.length→¬ id∈e1'.w.filter (fun id=>Nat.blt id e.n)→h'.view id=h.view id)∧∀ id,id∈e1'.w.filter (fun id=>Nat.blt id e.n)→id < h.length:=by
                  rintro ⟨h',k1,k2,k3⟩
                  refine ⟨h',k1,k2,fun id hid hw=>k3 id hid (fun hm=>hw ?_),fun id hw=>?_⟩
                  · rw[List.mem_filter]
                    exact ⟨hm,by rw[he.2]; exact Nat.ble_eq_true_of_le hid⟩
                  · rw[List.mem_filter] at hw
                    have:=Nat.le_of_ble_eq_true hw.2
                    rw[he.2] at this; exact this
                split at hend
                · rename_i e1 hrn; exact done (go _ _ (.inl rfl) hrn hend)
                · rename_i e1 hrn; exact done (go _ _ (.inr rfl) hrn hend)
                · simp at hend
              · simp at hcall
            · simp at hcall
          · simp at hF
        · simp at hF
      · simp at hF
    · simp at hcall
theorem FW (hm:P.follows .mixedOrders=true) {tab:List (FuncId × DF)} {ext:x8} (ht:rL P tab) (hx:q4 P ext):∀ k,uU P (Eh P tab ext k)
  | 0=>fun n fz c sc hc hn e e' r h hr he=>by simp[Eh] at hr
  | k+1=>by
    have ih:=FW hm ht hx k
    have:=Lw hm (Eb ht hx ih) ih
    exact this
end
inductive cP (h:aE):V→V→Prop
  | val (v:Value):cP h (.val v) (.val v)
  | emp (k:Nat):cP h (.emp k) (.aY [])
  | sl (id off len esz z:Nat) (es es':List (List V)):h.view id=.arr z es→off+len≤es.length→es'.length=len →
      (∀ i,i < len→(es'.getD i []).length=(es.getD (off+i) []).length) →
      (∀ i j,i < len→j < (es'.getD i []).length→cP h ((es.getD (off+i) []).getD j .any) ((es'.getD i []).getD j .any))→cP h (.sl id off len esz) (.aY es')
  | agg (cs cs':List V):cs'.length=cs.length→(∀ i,i < cs.length→cP h (cs.getD i .any) (cs'.getD i .any))→cP h (.agg cs) (.agg cs')
  | bt (cs cs':List V):cs'.length=cs.length→(∀ i,i < cs.length→cP h (cs.getD i .any) (cs'.getD i .any))→cP h (.bt cs) (.bt cs')
theorem Nc {h:aE} {Z:Nat→Prop} {μ ν:Mu} {F:View} {hp:Array Obj} (hr:gj Z μ hp (cat h F)) {v t:V} (fr:cP h v t):∀ {x:Value},aB Z μ hp v x→aB (g9 μ) ν hp t x:=by
  have hcat:∀ id,h.view id≠.dead→cat h F id=h.view id:=fun id hd=>by simp only[cat]; rw[if_pos (jb hd)]
  induction fr with
  | val v=>intro x hx; cases hx with | val _ hv=>exact .val _ hv
  | emp k=>intro x hx; cases hx with | emp _ a=>exact .gh a 0 (fun _=>rfl)
  | sl id off len esz z es es' hH hle hlen hl _ ih =>
    intro x hx
    cases hx with
    | pZ _ _ _ a =>
      have:es'=[]:=List.length_eq_zero_iff.1 hlen
      subst this
      exact .gh a 0 (fun _=>rfl)
    | sl _ _ _ _ b o0 cap c e f hm hlec hb hs =>
      have hor:=hr.obj id
      rw[hcat id (by rw[hH]; simp),hH] at hor
      obtain ⟨rfl,_,h3,h4⟩:=hor b o0 esz hm
      have hx:∀ i,∃ ci:Nat→Value,∀ j,j < esz→i < len→cellAt hp b (o0+off * esz+i * esz+j)=some (ci j)∧aB Z μ hp ((es.getD (off+i) []).getD j .any) (ci j):=by
        intro i
        by_cases hi:i < len
        · obtain ⟨ci,hci⟩:=mZ (n:=esz) (p:=fun j x=>cellAt hp b (o0+off * esz+i * esz+j)=some x∧aB Z μ hp ((es.getD (off+i) []).getD j .any) x) (fun j hj=>by
            obtain ⟨x,hx,hv⟩:=h4 (off+i) j (by omega) hj
            rw[Nat.add_mul,← Nat.add_assoc] at hx
            exact ⟨x,hx,hv⟩)
          exact ⟨ci,fun j hj _=>hci j hj⟩
        · exact ⟨fun _=>undef,fun j _ h=>absurd h hi⟩
      obtain ⟨cf,hcf⟩:=Classical.axiomOfChoice hx
      have hel:∀ i,i < es'.length→(es'.getD i []).length=esz:=fun i hi=>by rw[hl i (by omega)]; exact h3 _ (by omega)
      have:=aB.aY (Z:=g9 μ) (μ:=ν) (hp:=hp) es' b (o0+off * esz) esz cap cf ⟨id,o0,esz,hm⟩ (by omega) hel
        (fun i j hi hj=>(hcf i j hj (by omega)).1) (fun i j hi hj=>ih i j (by omega) (by rw[hel i hi]; exact hj) (hcf i j hj (by omega)).2)
      rw[hlen] at this
      exact this
  | agg cs cs' hlen _ ih =>
    intro x hx
    cases hx with
    | agg _ aas h1 h2=>exact .agg _ _ (by omega) (fun i hi=>ih i (by omega) (h2 i (by omega)))
  | bt cs cs' hlen _ ih =>
    intro x hx
    cases hx with
    | bt _ aas h1 h2=>exact .bt _ _ (by omega) (fun i hi=>ih i (by omega) (h2 i (by omega)))
def bP (P:Program) (f:FuncId) (vs:List V) (t:V):Prop :=
  ∀ Z μ (w:World) (xs:List Value),eo Z μ w.heap vs xs→(∀ b,Z b→b < w.heap.size) →
    Calls P f xs.toArray w fun e w'=>∃ x Z',e=.returned x∧(∀ ν,aB Z' ν w'.heap t x)∧dK w w'∧(∀ b,Z' b→w.heap.size≤b∧b < w'.heap.size)∧eR w.heap w'.heap (fun _=>False)
theorem bP.pure {P:Program} {f:FuncId} {vs:List V} {t:V} (h:bP P f vs t):aF P f vs t:=by
  intro Z μ w xs hrel hz
  refine (h Z μ w xs hrel hz).mono ?_
  rintro e w' ⟨x,Z',rfl,hv,hs,hz',ho⟩
  exact ⟨x,fun b=>Z b∨Z' b,rfl,fun ν=>(hv ν).mono ⟨fun _ h=>.inr h,fun _ _=>rfl,fun _ _ h=>h,eD.refl _⟩,hs,fun _ h=>.inl h,fun b hb=>hb.imp id (hz' b),ho⟩
theorem bP.uX {P:Program} {f:FuncId} {vs:List V} {r t:V} {h':aE} (ht:∀ v∈vs,Tree v) (hc:bY P f vs [] r h') (hf:cP h' r t):bP P f vs t:=by
  intro Z μ w xs hrel hz
  have hrel0:eo Z (fun _=>none) w.heap vs xs:=⟨hrel.1,fun i hi=>vF (hrel.2 i hi) (by
    simp only[List.getD_eq_getElem?_getD,List.getElem?_eq_getElem hi,Option.getD_some]
    exact ht _ (List.getElem_mem _))⟩
  have hr0:gj Z (fun _=>none) w.heap (cat [] fun _=>.dead):=by
    rw[Bz]
    exact ⟨fun _=>trivial,fun i j b o s o' s' _ h=>by simp at h,fun id b o s h=>by simp at h,hz,fun id b o s h=>by simp at h⟩
  refine (hc.2 Z _ _ w xs hrel0 hr0 (fun _ _ _=>rfl)).mono ?_
  rintro e w' ⟨x,Z',μ',rfl,hv,hh,hex,_⟩
  refine ⟨x,g9 μ',rfl,fun ν=>Nc hh hf hv,hex.same,?_,fun b hb _=>hex.frame b hb (by rintro ⟨_,_,_,h⟩; simp at h)⟩
  rintro b ⟨id,o,s,hb⟩
  rcases hex.A2 _ _ _ _ hb with h1 | ⟨_,h1 | ⟨_,_,_,h1⟩⟩
  · simp at h1
  · exact ⟨h1,hh.lt _ _ _ _ hb⟩
  · simp at h1
theorem bP.of {P:Program} {f:FuncId} {vs:List V} {t:V} (ht:∀ v∈vs,Tree v) (h:az P f vs (fun _=>.dead) fun r H'=>∀ h':aE,h'.view=H'→cP h' r t):bP P f vs t:=by
  obtain ⟨r,h',ha,_,hf⟩:=h.2 [] Ck
  exact bP.uX ht ha (hf h' rfl)
theorem bY.tC {P:Program} {f:FuncId} {ts vs:List V} {t:V} {h:aE} (hc:bP P f ts t) (hl:ts.length=vs.length)
    (hfr:∀ i,i < vs.length→Fr h (vs.getD i .any) (ts.getD i .any)):bY P f vs h t h:=by
  refine ⟨Nat.le_refl _,fun Z μ F w xs hrel hr hfree=>?_⟩
  have hts:eo (fun b=>Z b∨g9 μ b) μ w.heap ts xs:=⟨by rw[hl,hrel.1],fun i hi=>AA hr (hfr i (by omega)) (hrel.2 i (by omega))⟩
  have hzl:∀ b,(Z b∨g9 μ b)→b < w.heap.size:=by
    rintro b (hb | ⟨id,o,s,hb⟩)
    · exact hr.cy b hb
    · exact hr.lt _ _ _ _ hb
  refine (hc _ μ w xs hts hzl).mono ?_
  rintro e w' ⟨x,Z',rfl,hv,hs,hz',ho⟩
  have hm:fF Z (fun b=>Z b∨Z' b) μ μ w.heap w'.heap:=⟨fun _ h=>.inl h,fun b hb=>ho b (hr.cy b hb) (fun x=>x),fun _ _ h=>h,ho.pa⟩
  refine ⟨x,fun b=>Z b∨Z' b,μ,rfl,(hv μ).mono ⟨fun _ h=>.inr h,fun _ _=>rfl,fun _ _ h=>h,eD.refl _⟩,⟨fun id=>(hr.obj id).mono hm rfl (fun b o s hx=>ho b (hr.lt _ _ _ _ hx) (fun x=>x)),hr.inj,fun id b o s hx=>Nat.lt_of_lt_of_le (hr.lt _ _ _ _ hx) hs.size,fun b hb=>?_,fun id b o s hx hzb=>?_⟩,
    ⟨hs,hm,fun b hb _=>ho b hb (fun x=>x),fun b hb=>hb.imp id (fun h=>(hz' b h).1),fun _ _ _ _ h=>.inl h⟩,fun _ _=>rfl⟩
  · rcases hb with hb | hb
    · exact Nat.lt_of_lt_of_le (hr.cy b hb) hs.size
    · exact (hz' b hb).2
  · rcases hzb with hb | hb
    · exact hr.gg _ _ _ _ hx hb
    · have:=hr.lt _ _ _ _ hx; have:=(hz' b hb).1; omega
theorem aC.tC {P:Program} {q:Bool} {f:FuncId} {H:View} {vs ts:List V} {K:V→View→Prop} {v:cF (H,K)} {t:V} (hc:bP P f ts t) (hok:cX P f=true) (hl:ts.length=vs.length)
    (hfr:∀ i,i < vs.length→dh H (vs.getD i .any) (ts.getD i .any)) (hk:K t H):aC P q f vs H K v:=by
  unfold aC
  cases q with
  | true=>exact ⟨hok,fun h e=>⟨t,h,bY.tC hc hl (fun i hi=>hfr i hi h e),fun _ _=>rfl,e ▸ hk⟩⟩
  | false =>
    refine ⟨hok,?_⟩
    rintro h rfl
    exact ⟨t,h,bY.tC hc hl (fun i hi=>hfr i hi h rfl),.refl _,hk⟩
noncomputable def mG (fz:V→Option V):List V→Option (List V)
  | []=>some []
  | v :: l=>match fz v,mG fz l with
    | some a,some b=>some (a :: b)
    | _,_=>none
noncomputable def BV (fz:V→Option V):List (List V)→Option (List (List V))
  | []=>some []
  | v :: l=>match mG fz v,BV fz l with
    | some a,some b=>some (a :: b)
    | _,_=>none
noncomputable def wJ (H:View):Nat→V→Option V
  | 0,_=>none
  | k+1,v=>match v with
    | .val x=>some (.val x)
    | .emp _=>some (.aY [])
    | .sl id off len _=>match H id with
      | .arr _ es=>if off+len≤es.length then (BV (wJ H k) ((es.drop off).take len)).map .aY else none
      | _=>none
    | .agg cs=>(mG (wJ H k) cs).map .agg
    | .bt cs=>(mG (wJ H k) cs).map .bt
    | _=>none
theorem gf {fz:V→Option V} : ∀ (l l':List V),mG fz l=some l'→l'.length=l.length∧∀ i,i < l.length→fz (l.getD i .any)=some (l'.getD i .any)
  | [],l',h=>by simp only[mG,Option.some.injEq] at h; subst h; exact ⟨rfl,fun i hi=>by simp at hi⟩
  | v :: l,l',h=>by
    simp only[mG] at h
    split at h
    · rename_i a b h1 h2
      simp only[Option.some.injEq] at h; subst h
      obtain ⟨g1,g2⟩:=gf l b h2
      refine ⟨by simp[g1],fun i hi=>?_⟩
      cases i with
      | zero=>exact h1
      | succ i=>exact g2 i (by simpa using hi)
    · simp at h
theorem Bq {fz:V→Option V} : ∀ (l l':List (List V)),BV fz l=some l'→l'.length=l.length∧∀ i,i < l.length→mG fz (l.getD i [])=some (l'.getD i [])
  | [],l',h=>by simp only[BV,Option.some.injEq] at h; subst h; exact ⟨rfl,fun i hi=>by simp at hi⟩
  | v :: l,l',h=>by
    simp only[BV] at h
    split at h
    · rename_i a b h1 h2
      simp only[Option.some.injEq] at h; subst h
      obtain ⟨g1,g2⟩:=Bq l b h2
      refine ⟨by simp[g1],fun i hi=>?_⟩
      cases i with
      | zero=>exact h1
      | succ i=>exact g2 i (by simpa using hi)
    · simp at h
theorem FT (h:aE):∀ (k:Nat) (v t:V),wJ h.view k v=some t→cP h v t
  | 0,v,t,hf=>by simp[wJ] at hf
  | k+1,v,t,hf=>by
    have ih:=FT h k
    simp only[wJ] at hf
    split at hf
    · simp only[Option.some.injEq] at hf; subst hf; exact .val _
    · simp only[Option.some.injEq] at hf; subst hf; exact .emp _
    · rename_i id off len esz
      split at hf
      · rename_i z es hH
        split at hf
        · rename_i hle
          simp only[Option.map_eq_some_iff] at hf
          obtain ⟨es',he,rfl⟩:=hf
          obtain ⟨g1,g2⟩:=Bq _ _ he
          have hlen:es'.length=len:=by rw[g1]; simp; omega
          have hg:∀ i,i < len→((es.drop off).take len).getD i []=es.getD (off+i) []:=fun i hi=>by
            simp[List.getD_eq_getElem?_getD,hi]
          have g3:∀ i,i < len→mG (wJ h.view k) (es.getD (off+i) [])=some (es'.getD i []):=fun i hi=>by
            rw[← hg i hi]; exact g2 i (by rw[← g1,hlen]; exact hi)
          exact .sl id off len esz z es es' hH hle hlen (fun i hi=>(gf _ _ (g3 i hi)).1) (fun i j hi hj=>ih _ _ ((gf _ _ (g3 i hi)).2 j (by rw[← (gf _ _ (g3 i hi)).1]; exact hj)))
        · simp at hf
      · simp at hf
    · simp only[Option.map_eq_some_iff] at hf
      obtain ⟨l,hl,rfl⟩:=hf
      obtain ⟨g1,g2⟩:=gf _ _ hl
      exact .agg _ _ g1 (fun i hi=>ih _ _ (g2 i hi))
    · simp only[Option.map_eq_some_iff] at hf
      obtain ⟨l,hl,rfl⟩:=hf
      obtain ⟨g1,g2⟩:=gf _ _ hl
      exact .bt _ _ g1 (fun i hi=>ih _ _ (g2 i hi))
    · simp at hf
noncomputable def Mf:Option (V × ES)→Option V
  | some (v,e)=>wJ e.V 50 v
  | none=>none
noncomputable def tw (P:Program) (tab:List (FuncId × DF)) (ext:x8) (f:FuncId) (vs:List V):Option V :=
  Mf (Dv P tab ext (Eh P tab ext 100000) f vs ⟨.nil,.nil,0,[]⟩)
theorem qB {P:Program} (hm:P.follows .mixedOrders=true) {tab:List (FuncId × DF)} {ext:x8} (ht:rL P tab) (hx:q4 P ext) {f:FuncId} {vs:List V} {t:V} (hvs:∀ v∈vs,Tree v) (h:tw P tab ext f vs=some t) :
    bP P f vs t:=by
  unfold tw Mf at h
  split at h
  · rename_i v e hr
    obtain ⟨h1,h',h2,h3,_⟩:=Eb ht hx (FW hm ht hx 100000) f vs _ v e [] hr ⟨by funext k; rfl,rfl⟩
    rw[h3.1] at h
    exact bP.uX hvs h2 (FT h' 50 v t h)
  · simp at h
structure ao.gp (g:ao):Prop where
  ay:g.ay.length≤24
  ka:1≤g.au.length
  au:g.au.length≤16
  E2:1≤g.rules.length
  rules:g.rules.length≤40
  eA:0≤g.start
  start:g.start < g.au.length
  left:∀ r∈g.rules,0≤r.left∧r.left < g.au.length
  right:∀ r∈g.rules,r.right.length≤6
  sym:∀ r∈g.rules,∀ s∈r.right,im g s=true
  prec:∀ r∈g.rules,-1≤r.prec∧r.prec < g.ay.length
theorem x3 {g:ao} : ∀ (l:List aM) (top:Int),fI g l top=true→top≤(g.au.length:Int) - 1∧∀ r∈l,0≤r.left∧r.left < g.au.length∧gv g r=true
  | [],top,h=>by simp[fI] at h; exact ⟨by omega,fun r hr=>by simp at hr⟩
  | r :: l,top,h=>by
    simp only[fI,Bool.and_eq_true,decide_eq_true_eq] at h
    obtain ⟨⟨⟨h1,h2⟩,h3⟩,h4⟩:=h
    obtain ⟨k1,k2⟩:=x3 l _ h4
    have h5:r.left≤(if r.left > top then r.left else top):=by split <;> omega
    have h6:top≤(if r.left > top then r.left else top):=by split <;> omega
    refine ⟨by omega,fun r' hr=>?_⟩
    rcases List.mem_cons.1 hr with rfl | hr
    · exact ⟨h1,by omega,h3⟩
    · exact k2 r' hr
theorem aX {g:ao} (h:bm g=true):g.gp:=by
  simp only[bm,iY,jC,Bool.and_eq_true,decide_eq_true_eq] at h
  obtain ⟨⟨⟨⟨⟨⟨⟨h1,_⟩,⟨h2,h3⟩,_⟩,h4⟩,h5⟩,h6⟩,h7⟩,h8⟩:=h
  have k:=(x3 _ _ h8).2
  have hb:∀ r∈g.rules,r.right.length≤6∧-1≤r.prec∧r.prec < g.ay.length∧∀ s∈r.right,im g s=true:=fun r hr=>by
    have:=(k r hr).2.2
    simp only[gv,Bool.and_eq_true,decide_eq_true_eq,List.all_eq_true,lk] at this
    exact ⟨this.1.1.1,this.1.1.2,this.1.2,fun s hs=>(this.2 s hs).1⟩
  exact ⟨h1,h2,h3,h4,h5,h6,h7,fun r hr=>⟨(k r hr).1,(k r hr).2.1⟩,fun r hr=>(hb r hr).1,fun r hr=>(hb r hr).2.2.2,fun r hr=>⟨(hb r hr).2.1,(hb r hr).2.2.1⟩⟩
theorem ao.gp.neg {g:ao} (h:g.gp) {r:aM} (hr:r∈g.rules) {s:Int} (hs:s∈r.right) (hn:s < 0) : -1 - s < g.au.length:=by
  have:=h.sym r hr s hs
  simp only[im] at this
  rw[if_neg (by omega)] at this
  simpa using this
theorem Ea (l:List Int) (is:List Bool) (t:Bool) (hl:aN l) (hs:∀ s∈l,bM s∧(s < 0→-1 - s < is.length)):aF Tryz.prog 117 [encI l,bF is,gb t] (gb (dy l is t)) :=
  aF.val (by
    intro v hv; simp at hv
    rcases hv with rfl | rfl | rfl
    · exact bX _
    · exact gN _
    · exact .val _) (fun H=>(OY l is t hl hs H).mono fun r H' h=>h.1)
abbrev cD (is:List Bool):List (List V):=is.map fun x=>[gb x]
theorem lP {h:aE} {id:Nat} {is:List Bool} (hv:h.view id=.arr 1 (cD is)):cP h (.sl id 0 is.length 1) (bF is):=by
  refine .sl id 0 is.length 1 1 (cD is) _ hv (by simp) (by simp) (fun i hi=>by simp) (fun i j hi hj=>?_)
  rw[Nat.zero_add]
  have e:(cD is).getD i []=[gb is[i]]:=by simp[List.getD_eq_getElem?_getD,hi]
  rw[e] at hj ⊢
  have:j=0:=by simp at hj; omega
  subst this
  exact .val _
theorem Ay {H:View} {id n:Nat} {is:List Bool} (hv:H id=.arr 1 (cD is)) (hn:n=is.length):dh H (.sl id 0 n 1) (bF is):=by
  have ht:∀ e∈cD is,∀ v∈e,Tree v:=by
    intro e he v hv
    obtain ⟨a,_,rfl⟩:=List.mem_map.1 he
    rw[List.mem_singleton] at hv
    subst hv
    exact .val _
  have:=dh.sl (off:=0) (len:=n) (esz:=1) hv (by simp[hn]) ht
  rwa [List.drop_zero,List.take_of_length_le (by simp[hn])] at this
theorem iB {is:List Bool} {i:Nat} (h:i < is.length):(cD is).getD i []=[gb is[i]]:=by simp[List.getD_eq_getElem?_getD,h]
theorem fX (is:List Bool) (i:Nat) (b:Bool):(cD is).set i [gb b]=cD (is.set i b):=by simp[List.map_set]
theorem sy (n:Nat) (b:Bool):List.replicate n [gb b]=cD (List.replicate n b):=by simp
def iter {α:Type} (f:α→α):Nat→α→α
  | 0,x=>x
  | n+1,x=>iter f n (f x)
def dD (t:Bool) (is:List Bool) (r:aM):List Bool:=if dy r.right is t=true then is.set r.left.toNat true else is
def iZ (g:ao) (t:Bool) (is:List Bool):List Bool:=g.rules.foldl (dD t) is
def bZ (g:ao):List Bool:=List.replicate g.au.length false
def aI (g:ao) (t:Bool):List Bool:=if bm g=true then iter (iZ g t) g.au.length (bZ g) else []
theorem Gp (t:Bool) (is:List Bool) (r:aM):(dD t is r).length=is.length:=by unfold dD; split <;> simp
def l0:SC :=
  .seq (.seq (ak [ae 22 7,aq 23 2 2,an 24 23,aP 25 24,aR 26 .lss 22 25]) <|
  .cond (.tmp 26) (.skip) (.exit 2)) <|
  .seq (.block 3 (.seq (ak [aq 29 2 2,an 30 29,ae 31 7,aQ 32 3 30 31,aq 33 1 32,an 34 33,ae 35 5,ae 36 1,aL 37 117 [34,35,36]]) <|
  .cond (.tmp 37) (ak [ae 38 5,aq 39 2 2,an 40 39,ae 41 7,aQ 42 3 40 41,aq 43 0 42,an 44 43,aQ 45 1 38 44,(none,.op (.store 1 (.tmp 45) (.val (.val (.bool true)))))]) (.skip))) <|
  ak [ae 27 7,ax 28 .add 27 1,ae 7 28]
def lM:SC :=
  .seq (.seq (ak [ae 15 6,aq 16 1 2,an 17 16,aP 18 17,aR 19 .lss 15 18]) <|
  .cond (.tmp 19) (.skip) (.exit 0)) <|
  .seq (.block 1 (.seq (ak [aH 7 0]) <|
  .block 2 (.loop l0))) <|
  ak [ae 20 6,ax 21 .add 20 1,ae 6 21]
def nr:SF:=⟨.seq (ak [cx 2 0,((some 4),.op (.aZ (.val (.emp 1))))]) <|
  .seq (.seq (ak [aT 8 4 2,aL 9 48 [8],cd 10 9]) <|
  .cond (.tmp 10) (.seq (ak [((some 4),.op (.aZ (.val (.emp 1))))]) <|
  .ret) (.skip)) <|
  .seq (ak [aq 11 1 2,an 12 11,aP 13 12,((some 14),.op (.make 1 1 [(.val (.bool false))] (.tmp 13) (.tmp 13))),ae 5 14]) <|
  .seq (.seq (ak [aH 6 0]) <|
  .block 0 (.loop lM)) <|
  .seq (ak [ae 46 5,ae 4 46]) <|
  .ret,
  [.tmp 4],47⟩
theorem sT:aU Tryz.prog 174 [2]=some nr:=by kernel_rfl
def jA:SF:=⟨.seq (ak [cx 1 0,((some 2),.op (.aZ (.val (.emp 1))))]) <|
  .seq (ak [aT 3 4 1,cL 4 174 [(.tmp 3),(.val (.val (.bool true)))],ae 2 4]) <|
  .ret,
  [.tmp 2],5⟩
theorem pK:aU Tryz.prog 115 [1]=some jA:=by kernel_rfl
theorem KW (g:ao) (t:Bool):∀ v∈[V.agg (al g),gb t],Tree v:=by
  intro v hv; simp at hv
  rcases hv with rfl | rfl
  · exact cg _ (cO g)
  · exact .val _
set_option maxHeartbeats 2000000 in
theorem Kt (g:ao) (hg:g.Ok) (t:Bool) (H:View):az Tryz.prog 174 [.agg (al g),gb t] H fun r H'=>∀ h':aE,h'.view=H'→cP h' r (bF (aI g t)):=by
  refine az.of mixed sT ?_
  simp (disch:=omega) only [↓wr,↓reduceIte,wq,ah,Nat.reduceEqDiff,Nat.reduceAdd,Nat.reduceLeDiff,nr,al,encS]
  refine aC.pure (kh g hg) (by kernel_rfl) ?_
  repeat' (first | (refine ar.dec (fun _=>?_) (fun _=>?_)) | (refine ar.eq (fun _=>?_) (fun _=>?_)) | (refine ar.ne (fun _=>?_) (fun _=>?_)) | (refine ar.split (fun _=>?_) (fun _=>?_)) | (simp (disch:=omega) only [↓wr,↓reduceIte,wq,aj,Nat.reduceEqDiff,Nat.reduceAdd,Nat.reduceLT,reduceCtorEq]))
  · rename_i hr
    have hf:=aX hr
    obtain ⟨hN1,hN2⟩:=And.intro hf.ka hf.au
    refine ⟨⟨by omega,by unfold aG; omega,by unfold aG; omega⟩,fun hz=>by omega,fun _ m hm=>?_⟩
    try simp (disch:=omega) only [↓wr,↓reduceIte,wq,ah,ag,aj,aa,ab,af,ai,isNil,Nat.reduceEqDiff,Nat.reduceAdd,Nat.reduceLT,Nat.reduceLeDiff,Int.reduceNeg,Int.reduceToNat,reduceCtorEq,al,encS]
    refine bc.intro (fun k T H'=>∃ (i:Nat) (is:List Bool),i+k=g.au.length∧is.length=g.au.length∧iter (iZ g t) k is=iter (iZ g t) g.au.length (bZ g)∧T 1=gb t∧T 2=.aS (al g) 0∧T 5=.sl m 0 g.au.length 1∧H' m=.arr 1 (cD is)∧T 6=gi i) g.au.length ?_ ?_
    · refine ⟨0,bZ g,by omega,by simp[bZ],rfl,?_⟩
      simp (disch:=omega) only [↓wr,↓reduceIte,wq,Nat.reduceEqDiff,al,encS]
      exact ⟨by rw[sy]; rfl,rfl⟩
    · rintro k T H' ⟨i,is,hk,hlen,hi,f1,f2,f5,fm,f6⟩
      simp (disch:=omega) only [↓wr,↓reduceIte,wq,ag,aj,Nat.reduceEqDiff,Nat.reduceAdd,Nat.reduceLT,reduceCtorEq,lM,f2,f6,al,encS]
      refine ar.dec (fun hc=>?_) (fun hc=>?_)
      · simp (disch:=omega) only [↓wr,wq]
        refine bc.intro (fun k' T H'=>∃ (j:Nat) (is':List Bool),j+k'=g.rules.length∧is'.length=g.au.length∧(g.rules.drop j).foldl (dD t) is'=iZ g t is∧T 1=gb t∧T 2=.aS (al g) 0∧T 5=.sl m 0 g.au.length 1∧H' m=.arr 1 (cD is')∧T 6=gi i∧T 7=gi j) g.rules.length ?_ ?_
        · refine ⟨0,is,by omega,hlen,rfl,?_⟩
          simp (disch:=omega) only [↓wr,↓reduceIte,wq,Nat.reduceEqDiff,f1,f2,f5,f6,fm,al,encS]
          rfl
        · rintro k' T' H'' ⟨j,is',hk',hlen',hj,e1,e2,e5,em,e6,e7⟩
          simp (disch:=omega) only [↓wr,↓reduceIte,wq,ag,aj,Nat.reduceEqDiff,Nat.reduceAdd,Nat.reduceLT,l0,e2,e7,al]
          refine ar.dec (fun hd=>?_) (fun hd=>?_)
          · have hle:=hf.rules
            have hg2:g.rules[j]?=some (g.rules[j]'(by omega)):=List.getElem?_eq_getElem (by omega)
            rw[c9 (show j < g.rules.length by omega)] at hj
            have hmem:g.rules[j]'(by omega)∈g.rules:=List.getElem_mem _
            generalize g.rules[j]'(by omega)=r at hg2 hj hmem
            simp only[List.foldl_cons] at hj
            obtain ⟨hl1,hl2⟩:=hf.left r hmem
            obtain ⟨_,_,hs1,hs2⟩:=hg.ba r hmem
            have hall:=Ea r.right is' t hs1 (fun s hs=>⟨hs2 s hs,fun hn=>by have:=hf.neg hmem hs hn; omega⟩)
            simp (disch:=omega) only [↓wr,↓reduceIte,wq,Nat.reduceEqDiff,Nat.reduceAdd,Nat.reduceLT,e1,e2,e5,e7,al,encS,aK,List.getElem?_map,hg2]
            refine aC.borrow hall (by kernel_rfl) (.val _) rfl (fun q hq=>?_) ?_
            · match q,hq with
              | 0,_=>exact dh.tree (bX _)
              | 1,_=>exact Ay em hlen'.symm
              | 2,_=>exact dh.tree (.val _)
            · simp (disch:=omega) only [↓wr,↓reduceIte,wq]
              refine ar.split (fun ha=>?_) (fun ha=>?_)
              · have hst:dD t is' r=is'.set r.left.toNat true:=by rw[dD,if_pos ha]
                simp (disch:=omega) only [↓wr,↓reduceIte,wq,ag,aa,Nat.reduceEqDiff,Nat.reduceAdd,Nat.reduceLT,Nat.reduceLeDiff,reduceCtorEq,e1,e2,e5,e6,e7,em,al,encS,aK,List.getElem?_map,hg2,iB (show r.left.toNat < is'.length by omega)]
                rw[hst] at hj
                exact ⟨by omega,by omega,k' - 1,by omega,j+1,is'.set r.left.toNat true,by omega,by simp[hlen'],hj,by rw[fX],rfl⟩
              · have hst:dD t is' r=is':=by rw[dD,if_neg (by rw[ha]; simp)]
                rw[hst] at hj
                simp (disch:=omega) only [↓wr,↓reduceIte,wq,ag,Nat.reduceEqDiff,reduceCtorEq,e1,e2,e5,e6,e7]
                exact ⟨k' - 1,by omega,j+1,is',by omega,hlen',hj,by first | rfl | exact ⟨rfl,rfl⟩ | exact ⟨em,rfl⟩ | exact ⟨rfl,em,rfl⟩⟩
          · rw[List.drop_eq_nil_of_le (by omega),List.foldl_nil] at hj
            simp (disch:=omega) only [↓wr,↓reduceIte,wq,Nat.reduceEqDiff,reduceCtorEq,e1,e2,e5,e6]
            obtain ⟨q,rfl⟩:∃ q,k=q+1:=⟨k - 1,by omega⟩
            exact ⟨q,by omega,i+1,is',by omega,hlen',by rw[hj]; exact hi,rfl,em,rfl⟩
      · simp (disch:=omega) only [↓wr,↓reduceIte,wq,Nat.reduceEqDiff,reduceCtorEq,f5]
        have:k=0:=by omega
        subst this
        rintro h' rfl
        simp only[aI,if_pos hr,← hi,iter]
        rw[← hlen]
        exact lP fm
  · rename_i hr
    rintro h' rfl
    simp only[aI,hr]
    exact .emp 1
theorem Kf (g:ao) (hg:g.Ok) (t:Bool):bP Tryz.prog 174 [.agg (al g),gb t] (bF (aI g t)):=bP.of (KW g t) (Kt g hg t _)
theorem AS (g:ao) (hg:g.Ok) (H:View):az Tryz.prog 115 [.agg (al g)] H fun r H'=>r=bF (aI g true)∧H'=H:=by
  refine az.of mixed pK ?_
  simp (disch:=omega) only [↓wr,↓reduceIte,wq,ah,Nat.reduceEqDiff,Nat.reduceAdd,Nat.reduceLeDiff,jA,al,encS]
  refine aC.pure (Kf g hg true).pure (by kernel_rfl) ?_
  simp (disch:=omega) only [↓wr,↓reduceIte,wq,reduceCtorEq]
theorem rW (g:ao) (hg:g.Ok):aF Tryz.prog 115 [.agg (al g)] (bF (aI g true)) :=
  aF.of (dM g) ((AS g hg _).mono fun r H' h h' _=>by rw[h.1]; exact .tree _ (gN _))
def mark (is:List Bool) (s:Int):List Bool:=if s < 0 then is.set (-1 - s).toNat true else is
def eM (p is:List Bool) (r:aM):List Bool:=if (is.getD r.left.toNat false && dy r.right p true)=true then r.right.foldl mark is else is
def mq (g:ao) (p is:List Bool):List Bool:=g.rules.foldl (eM p) is
def bz (g:ao):List Bool:=if bm g=true then iter (mq g (aI g true)) g.au.length ((bZ g).set g.start.toNat true) else []
theorem Lp (is:List Bool) (s:Int):(mark is s).length=is.length:=by unfold mark; split <;> simp
theorem Cl:∀ (l:List Int) (is:List Bool),(l.foldl mark is).length=is.length
  | [],_=>rfl
  | s :: l,is=>by rw[List.foldl_cons,Cl l,Lp]
theorem Is (p is:List Bool) (r:aM):(eM p is r).length=is.length:=by unfold eM; split <;> simp[Cl]
theorem za {f:List Bool→List Bool} (hf:∀ is,(f is).length=is.length):∀ (n:Nat) (is:List Bool),(iter f n is).length=is.length
  | 0,_=>rfl
  | n+1,is=>by rw[iter,za hf n,hf]
theorem y6 {α:Type} {f:List Bool→α→List Bool} (hf:∀ is x,(f is x).length=is.length):∀ (l:List α) (is:List Bool),(l.foldl f is).length=is.length
  | [],_=>rfl
  | x :: l,is=>by rw[List.foldl_cons,y6 hf l,hf]
theorem iX {g:ao} (h:bm g=true) (t:Bool):(aI g t).length=g.au.length:=by
  have hl:∀ is,(iZ g t is).length=is.length:=fun is=>y6 (Gp t) _ _
  rw[aI,if_pos h,za hl]
  simp[bZ]
def jt:SC :=
  .seq (.seq (.region false [⟨none,[ae 41 8,aq 42 1 7,an 43 42,aP 44 43,aR 45 .lss 41 44,ae 46 45]⟩,⟨(some (46,true)),[ae 47 4,aq 48 0 7,an 49 48,aQ 50 1 47 49,an 51 50]⟩,⟨none,[bN 52 46 51,ae 53 52]⟩,⟨(some (53,true)),[aq 54 1 7,an 55 54,ae 56 3,cL 57 117 [(.tmp 55),(.tmp 56),(.val (.val (.bool true)))]]⟩,⟨none,[bN 58 53 57]⟩]) <|
  .cond (.tmp 58) (.skip) (.exit 4)) <|
  .seq (.block 5 (.seq (ak [aq 61 1 7,an 62 61,ae 63 8,aQ 64 1 62 63,an 65 64,ax 66 .lss 65 0]) <|
  .cond (.tmp 66) (ak [ae 67 4,aq 68 1 7,an 69 68,ae 70 8,aQ 71 1 69 70,an 72 71,((some 73),.op (.arith .sub (.val (.val (.int .i64 (-1)))) (.tmp 72))),aQ 74 1 67 73,(none,.op (.store 1 (.tmp 74) (.val (.val (.bool true)))))]) (.skip))) <|
  ak [ae 59 8,ax 60 .add 59 1,ae 8 60]
def jn:SC :=
  .seq (.seq (ak [ae 29 6,aq 30 2 1,an 31 30,aP 32 31,aR 33 .lss 29 32]) <|
  .cond (.tmp 33) (.skip) (.exit 2)) <|
  .seq (.block 3 (.seq (ak [aq 36 2 1,an 37 36,ae 38 6,aQ 39 3 37 38,aT 40 3 39,((some 7),.op (.alloc [(.val (.int .i64 0)),(.emp 1),(.val (.int .i64 0))])),(none,.op (.store 3 (.tmp 7) (.tmp 40)))]) <|
  .seq (ak [aH 8 0]) <|
  .block 4 (.loop jt))) <|
  ak [ae 34 6,ax 35 .add 34 1,ae 6 35]
def jv:SC :=
  .seq (.seq (ak [ae 22 5,aq 23 1 1,an 24 23,aP 25 24,aR 26 .lss 22 25]) <|
  .cond (.tmp 26) (.skip) (.exit 0)) <|
  .seq (.block 1 (.seq (ak [aH 6 0]) <|
  .block 2 (.loop jn))) <|
  ak [ae 27 5,ax 28 .add 27 1,ae 5 28]
def ks:SF:=⟨.seq (ak [cx 1 0,((some 2),.op (.aZ (.val (.emp 1))))]) <|
  .seq (.seq (ak [aT 9 4 1,aL 10 48 [9],cd 11 10]) <|
  .cond (.tmp 11) (.seq (ak [((some 2),.op (.aZ (.val (.emp 1))))]) <|
  .ret) (.skip)) <|
  .seq (ak [aT 12 4 1,aL 13 115 [12],ae 3 13]) <|
  .seq (ak [aq 14 1 1,an 15 14,aP 16 15,((some 17),.op (.make 1 1 [(.val (.bool false))] (.tmp 16) (.tmp 16))),ae 4 17]) <|
  .seq (ak [ae 18 4,aq 19 3 1,an 20 19,aQ 21 1 18 20,(none,.op (.store 1 (.tmp 21) (.val (.val (.bool true)))))]) <|
  .seq (.seq (ak [aH 5 0]) <|
  .block 0 (.loop jv)) <|
  .seq (ak [ae 75 4,ae 2 75]) <|
  .ret,
  [.tmp 2],76⟩
theorem pS:aU Tryz.prog 116 [1]=some ks:=by kernel_rfl
theorem Kz {l:List Bool} {i j:Nat} (h:l.getD j false=true):(l.set i true).getD j false=true:=by
  simp only[List.getD_eq_getElem?_getD,List.getElem?_set] at h ⊢
  by_cases e:i=j
  · subst e
    by_cases hi:i < l.length
    · simp[hi]
    · rw[List.getElem?_eq_none (by omega)] at h; simp at h
  · rw[if_neg e]; exact h
theorem Kc {H:View} {m n:Nat} {o:bR} (hm:H m=o) (hn:H n=.dead) (ho:o≠.dead):m≠n:=by rintro rfl; exact ho (hm.symm.trans hn)
set_option maxHeartbeats 4000000 in
theorem BI (g:ao) (hg:g.Ok) (H:View):az Tryz.prog 116 [.agg (al g)] H fun r H'=>∀ h':aE,h'.view=H'→cP h' r (bF (bz g)):=by
  refine az.of mixed pS ?_
  simp (disch:=omega) only [↓wr,↓reduceIte,wq,ah,Nat.reduceEqDiff,Nat.reduceAdd,Nat.reduceLeDiff,ks,al,encS]
  refine aC.pure (kh g hg) (by kernel_rfl) ?_
  repeat' (first | (refine ar.dec (fun _=>?_) (fun _=>?_)) | (refine ar.eq (fun _=>?_) (fun _=>?_)) | (refine ar.ne (fun _=>?_) (fun _=>?_)) | (refine ar.split (fun _=>?_) (fun _=>?_)) | (simp (disch:=omega) only [↓wr,↓reduceIte,wq,Nat.reduceEqDiff,Nat.reduceAdd,Nat.reduceLeDiff,reduceCtorEq]))
  · rename_i hr
    have hf:=aX hr
    obtain ⟨hN1,hN2⟩:=And.intro hf.ka hf.au
    refine aC.pure (rW g hg) (by kernel_rfl) ?_
    have hpl:=iX hr true
    have hreach:bz g=iter (mq g (aI g true)) g.au.length ((bZ g).set g.start.toNat true):=by rw[bz,if_pos hr]
    generalize aI g true=p at hpl hreach
    have hst:=hf.eA
    have hst2:=hf.start
    have hrep:List.replicate g.au.length [V.val (Value.bool false)]=cD (bZ g):=sy _ _
    have hnl:(bZ g).length=g.au.length:=by simp[bZ]
    simp (disch:=omega) only [↓wr,↓reduceIte,wq,aj,aa,Nat.reduceEqDiff,Nat.reduceAdd,Nat.reduceLT,Nat.reduceLeDiff]
    refine ⟨⟨by omega,by unfold aG; omega,by unfold aG; omega⟩,fun hz=>by omega,fun _ m hm=>?_⟩
    rw[hrep]
    have hgs:(cD (bZ g)).getD g.start.toNat []=[gb ((bZ g)[g.start.toNat]'(by omega))]:=iB (by omega)
    simp (disch:=omega) only [wq]
    refine ⟨by omega,by omega,?_⟩
    refine bc.intro (fun k T H'=>∃ (i:Nat) (is:List Bool),i+k=g.au.length∧is.length=g.au.length∧iter (mq g p) k is=bz g∧T 1=.aS (al g) 0∧T 3=bF p∧T 4=.sl m 0 g.au.length 1∧H' m=.arr 1 (cD is)∧T 5=gi i) g.au.length ?_ ?_
    · refine ⟨0,(bZ g).set g.start.toNat true,by omega,by simp[hnl],hreach.symm,?_⟩
      simp (disch:=omega) only [↓wr,↓reduceIte,wq,Nat.reduceEqDiff,al,encS]
      rw[hgs]
      exact ⟨by rw[← fX]; rfl,rfl⟩
    · rintro k T H' ⟨i,is,hk,hlen,hi,f1,f3,f4,fm,f5⟩
      simp (disch:=omega) only [↓wr,↓reduceIte,wq,ag,aj,Nat.reduceEqDiff,Nat.reduceAdd,Nat.reduceLT,reduceCtorEq,jv,f1,f5,al,encS]
      refine ar.dec (fun hc=>?_) (fun hc=>?_)
      · simp (disch:=omega) only [↓wr,wq]
        refine bc.intro (fun k' T H'=>∃ (j:Nat) (is':List Bool),j+k'=g.rules.length∧is'.length=g.au.length∧(g.rules.drop j).foldl (eM p) is'=mq g p is∧T 1=.aS (al g) 0∧T 3=bF p∧T 4=.sl m 0 g.au.length 1∧H' m=.arr 1 (cD is')∧T 5=gi i∧T 6=gi j) g.rules.length ?_ ?_
        · refine ⟨0,is,by omega,hlen,rfl,?_⟩
          simp (disch:=omega) only [↓wr,↓reduceIte,wq,Nat.reduceEqDiff,f1,f3,f4,f5,fm,al,encS]
          first | done | exact ⟨rfl,rfl⟩ | rfl
        · rintro k' T' H'' ⟨j,is',hk',hlen',hj,e1,e3,e4,em,e5,e6⟩
          simp (disch:=omega) only [↓wr,↓reduceIte,wq,ag,aj,Nat.reduceEqDiff,Nat.reduceAdd,Nat.reduceLT,jn,e1,e6,al]
          refine ar.dec (fun hd=>?_) (fun hd=>?_)
          · have hle:=hf.rules
            have hg2:g.rules[j]?=some (g.rules[j]'(by omega)):=List.getElem?_eq_getElem (by omega)
            rw[c9 (show j < g.rules.length by omega)] at hj
            have hmem:g.rules[j]'(by omega)∈g.rules:=List.getElem_mem _
            generalize g.rules[j]'(by omega)=r at hg2 hj hmem
            simp only[List.foldl_cons] at hj
            obtain ⟨hl1,hl2⟩:=hf.left r hmem
            obtain ⟨_,_,hs1,hs2⟩:=hg.ba r hmem
            have hr6:=hf.right r hmem
            have hall:=Ea r.right p true hs1 (fun s hs=>⟨hs2 s hs,fun hn=>by have:=hf.neg hmem hs hn; omega⟩)
            simp (disch:=omega) only [↓wr,↓reduceIte,wq,aa,Nat.reduceEqDiff,Nat.reduceAdd,Nat.reduceLT,Nat.reduceLeDiff,e1,e6,al,encS,aK,encI,List.getElem?_map,hg2]
            intro b hb
            have hne:m≠b:=Kc em hb (by simp)
            try simp (disch:=omega) only [↓wr,↓reduceIte,wq,ah,ag,aj,aa,ab,af,ai,isNil,Nat.reduceEqDiff,Nat.reduceAdd,Nat.reduceLT,Nat.reduceLeDiff,Int.reduceNeg,Int.reduceToNat,reduceCtorEq,e1,e3,e4,e5,e6,al,encS,aK,encI]
            refine bc.intro (fun q T H'=>∃ (a:Nat) (is3:List Bool),a+q=r.right.length∧is3.length=g.au.length∧(r.right.drop a).foldl mark is3=r.right.foldl mark is'∧((a=0∧is3=is')∨((is'.getD r.left.toNat false && dy r.right p true)=true∧is3.getD r.left.toNat false=true)) ∧
              T 1=.aS (al g) 0∧T 3=bF p∧T 4=.sl m 0 g.au.length 1∧H' m=.arr 1 (cD is3)∧T 5=gi i∧T 6=gi j∧T 7=.ptr b 0 0∧H' b=.arr 3 [aK r]∧T 8=gi a) r.right.length ?_ ?_
            · refine ⟨0,is',by omega,hlen',rfl,.inl ⟨rfl,rfl⟩,?_⟩
              simp (disch:=omega) only [↓wr,↓reduceIte,wq,Nat.reduceEqDiff,Nat.reduceAdd,e1,e3,e4,e5,e6,em,hne,al,encS,aK]
              exact ⟨rfl,rfl⟩
            · rintro q T3 H3 ⟨a,is3,hq,hlen3,ha,hcase,d1,d3,d4,dm,d5,d6,d7,db,d8⟩
              simp (disch:=omega) only [↓wr,↓reduceIte,wq,ag,aj,Nat.reduceEqDiff,Nat.reduceAdd,Nat.reduceLT,Int.reduceNeg,jt,d7,d8,db,aK,encI]
              have hgl:is3[r.left.toNat]?=some (is3[r.left.toNat]'(by omega)):=List.getElem?_eq_getElem (by omega)
              have hgl2:is3.getD r.left.toNat false=is3[r.left.toNat]'(by omega):=by simp[List.getD_eq_getElem?_getD,hgl]
              have hbg:=iB (show r.left.toNat < is3.length by omega)
              have hoff:(is'.getD r.left.toNat false && dy r.right p true)=false→eM p is' r=is3:=fun hW=>by
                rcases hcase with ⟨_,rfl⟩ | ⟨h1,_⟩
                · rw[eM,hW]; rfl
                · rw[hW] at h1; simp at h1
              generalize is3[r.left.toNat]'(by omega)=tl at hgl hgl2 hbg
              refine ar.dec (fun ht=>?_) (fun ht=>?_)
              · have hg3:r.right[a]?=some (r.right[a]'(by omega)):=List.getElem?_eq_getElem (by omega)
                rw[c9 (show a < r.right.length by omega)] at ha
                have hms:r.right[a]'(by omega)∈r.right:=List.getElem_mem _
                generalize r.right[a]'(by omega)=s at hg3 ha hms
                simp only[List.foldl_cons] at ha
                have hin:=hs2 s hms
                simp (disch:=omega) only [↓wr,↓reduceIte,wq,Nat.reduceEqDiff,Nat.reduceAdd,Nat.reduceLT,Int.reduceNeg,d4,d7,db,dm,aK,encI,hbg]
                refine ⟨by omega,by omega,?_⟩
                refine ar.split (fun htl=>?_) (fun htl=>?_)
                · simp (disch:=omega) only [↓wr,↓reduceIte,wq,Nat.reduceEqDiff,Nat.reduceAdd,Nat.reduceLT,Int.reduceNeg,d3,d7,db,aK,encI]
                  refine aC.pure hall (by kernel_rfl) ?_
                  simp (disch:=omega) only [↓wr,↓reduceIte,wq,Nat.reduceEqDiff,Int.reduceNeg]
                  refine ar.split (fun hal=>?_) (fun hal=>?_)
                  · simp (disch:=omega) only [↓wr,↓reduceIte,wq,ag,Nat.reduceEqDiff,Nat.reduceAdd,Nat.reduceLT,Int.reduceNeg,d7,d8,db,aK,encI,List.getElem?_map,hg3]
                    have hW:(is'.getD r.left.toNat false && dy r.right p true)=true∧is3.getD r.left.toNat false=true:=by
                      rcases hcase with ⟨_,rfl⟩ | h1
                      · exact ⟨by rw[hgl2,htl,hal]; rfl,by rw[hgl2,htl]⟩
                      · exact h1
                    refine ar.dec (fun hsn=>?_) (fun hsn=>?_)
                    · have hng:=hf.neg hmem hms hsn
                      have hin1:=hin.1
                      have hms2:mark is3 s=is3.set (-1 - s).toNat true:=by rw[mark,if_pos hsn]
                      simp (disch:=omega) only [↓wr,↓reduceIte,wq,ag,aa,Nat.reduceEqDiff,Nat.reduceAdd,Nat.reduceLT,Nat.reduceLeDiff,Int.reduceNeg,reduceCtorEq,d1,d3,d4,d5,d6,d7,d8,db,dm,aK,encI,List.getElem?_map,hg3,iB (show (-1 - s).toNat < is3.length by omega),hne.symm]
                      rw[hms2] at ha
                      exact ⟨by omega,by omega,q - 1,by omega,a+1,is3.set (-1 - s).toNat true,by omega,by simp[hlen3],ha,.inr ⟨hW.1,Kz hW.2⟩,by rw[fX],by first | rfl | exact ⟨rfl,rfl⟩⟩
                    · have hms2:mark is3 s=is3:=by rw[mark,if_neg hsn]
                      rw[hms2] at ha
                      simp (disch:=omega) only [↓wr,↓reduceIte,wq,ag,Nat.reduceEqDiff,reduceCtorEq,d1,d3,d4,d5,d6,d7,d8,db,dm]
                      exact ⟨q - 1,by omega,a+1,is3,by omega,hlen3,ha,.inr hW,by first | rfl | exact ⟨rfl,rfl⟩ | exact ⟨rfl,rfl,rfl⟩⟩
                  · simp (disch:=omega) only [↓wr,↓reduceIte,wq,Nat.reduceEqDiff,reduceCtorEq,d1,d3,d4,d5,d6,dm]
                    have hst:=hoff (by rw[hal,Bool.and_false])
                    exact ⟨k' - 1,by omega,j+1,is3,by omega,hlen3,by rw[← hst]; exact hj,rfl,rfl,rfl⟩
                · simp (disch:=omega) only [↓wr,↓reduceIte,wq,Nat.reduceEqDiff,Int.reduceNeg,reduceCtorEq,d1,d3,d4,d5,d6,dm]
                  have hst:eM p is' r=is3:=by
                    rcases hcase with ⟨_,rfl⟩ | ⟨_,h1⟩
                    · rw[eM,hgl2,htl]; rfl
                    · rw[hgl2,htl] at h1; simp at h1
                  exact ⟨k' - 1,by omega,j+1,is3,by omega,hlen3,by rw[← hst]; exact hj,rfl,rfl,rfl⟩
              · simp (disch:=omega) only [↓wr,↓reduceIte,wq,Nat.reduceEqDiff,Int.reduceNeg,reduceCtorEq,d1,d3,d4,d5,d6,dm]
                rw[List.drop_eq_nil_of_le (by omega),List.foldl_nil] at ha
                have hst:eM p is' r=is3:=by
                  rcases hcase with ⟨h0,rfl⟩ | ⟨h1,_⟩
                  · unfold eM
                    split
                    · exact ha.symm
                    · rfl
                  · rw[eM,if_pos h1]; exact ha.symm
                exact ⟨k' - 1,by omega,j+1,is3,by omega,hlen3,by rw[← hst]; exact hj,rfl,rfl,rfl⟩
          · rw[List.drop_eq_nil_of_le (by omega),List.foldl_nil] at hj
            simp (disch:=omega) only [↓wr,↓reduceIte,wq,Nat.reduceEqDiff,reduceCtorEq,e1,e3,e4,e5]
            obtain ⟨q,rfl⟩:∃ q,k=q+1:=⟨k - 1,by omega⟩
            exact ⟨q,by omega,i+1,is',by omega,hlen',by rw[hj]; exact hi,rfl,em,rfl⟩
      · simp (disch:=omega) only [↓wr,↓reduceIte,wq,Nat.reduceEqDiff,reduceCtorEq,f4]
        have:k=0:=by omega
        subst this
        rintro h' rfl
        simp only[← hi,iter]
        rw[← hlen]
        exact lP fm
  · rename_i hr
    rintro h' rfl
    simp only[bz,hr]
    exact .emp 1
theorem BD (g:ao) (hg:g.Ok):bP Tryz.prog 116 [.agg (al g)] (bF (bz g)):=bP.of (dM g) (BI g hg _)
def yP:DF:=⟨.seq (aw [bg 2 false]) <|
  .seq (.region [] [⟨none,[ae 3 0,aL 4 135 [3],ae 5 4]⟩,⟨(some (5,false)),[ae 6 0,((some 7),.op (.arith .eql (.tmp 6) (.val (.val (.int .u8 46)))))]⟩,⟨none,[bH 8 5 7,ae 9 8]⟩,⟨(some (9,false)),[ae 10 0,((some 11),.op (.arith .geq (.tmp 10) (.val (.val (.int .u8 48))))),ae 12 11]⟩,⟨(some (12,true)),[ae 13 0,((some 14),.op (.arith .leq (.tmp 13) (.val (.val (.int .u8 57)))))]⟩,⟨(some (9,false)),[bN 15 12 14]⟩,⟨none,[bH 16 9 15,ae 2 16]⟩]) <|
  .ret,
  [.tmp 2],17⟩
theorem Bt:bK Tryz.prog 136 []=some yP:=by kernel_rfl
def xj:DF:=⟨.seq (aw [bg 2 false]) <|
  .seq (.region [] [⟨none,[ae 3 0,((some 4),.op (.arith .eql (.tmp 3) (.val (.val (.int .u8 95))))),ae 5 4]⟩,⟨(some (5,false)),[ae 6 0,((some 7),.op (.arith .or (.tmp 6) (.val (.val (.int .u8 32))))),((some 8),.op (.arith .geq (.tmp 7) (.val (.val (.int .u8 97))))),ae 9 8]⟩,⟨(some (9,true)),[ae 10 0,((some 11),.op (.arith .or (.tmp 10) (.val (.val (.int .u8 32))))),((some 12),.op (.arith .leq (.tmp 11) (.val (.val (.int .u8 122)))))]⟩,⟨(some (5,false)),[bN 13 9 12]⟩,⟨none,[bH 14 5 13,ae 2 14]⟩]) <|
  .ret,
  [.tmp 2],15⟩
theorem AX:bK Tryz.prog 135 []=some xj:=by kernel_rfl
def yJ:DF:=⟨.seq (aw [bg 2 false]) <|
  .seq (.region [] [⟨none,[ae 3 0,((some 4),.op (.arith .geq (.tmp 3) (.val (.val (.int .u8 32))))),ae 5 4]⟩,⟨(some (5,true)),[ae 6 0,((some 7),.op (.arith .leq (.tmp 6) (.val (.val (.int .u8 126)))))]⟩,⟨none,[bN 8 5 7,ae 9 8]⟩,⟨(some (9,true)),[ae 10 0,((some 11),.op (.arith .neq (.tmp 10) (.val (.val (.int .u8 39)))))]⟩,⟨none,[bN 12 9 11,ae 13 12]⟩,⟨(some (13,true)),[ae 14 0,((some 15),.op (.arith .neq (.tmp 14) (.val (.val (.int .u8 92)))))]⟩,⟨none,[bN 16 13 15,ae 2 16]⟩]) <|
  .ret,
  [.tmp 2],17⟩
theorem Bm:bK Tryz.prog 235 []=some yJ:=by kernel_rfl
def v8:DF:=⟨.seq (aw [bg 2 false]) <|
  .seq (.region [] [⟨none,[ae 3 0,((some 4),.op (.arith .eql (.tmp 3) (.val (.val (.int .u8 110))))),ae 5 4]⟩,⟨(some (5,false)),[ae 6 0,((some 7),.op (.arith .eql (.tmp 6) (.val (.val (.int .u8 116)))))]⟩,⟨none,[bH 8 5 7,ae 9 8]⟩,⟨(some (9,false)),[ae 10 0,((some 11),.op (.arith .eql (.tmp 10) (.val (.val (.int .u8 92)))))]⟩,⟨none,[bH 12 9 11,ae 13 12]⟩,⟨(some (13,false)),[ae 14 0,((some 15),.op (.arith .eql (.tmp 14) (.val (.val (.int .u8 39)))))]⟩,⟨none,[bH 16 13 15,ae 2 16]⟩]) <|
  .ret,
  [.tmp 2],17⟩
theorem zh:bK Tryz.prog 236 []=some v8:=by kernel_rfl
def tD:List (FuncId × DF):=[(136,yP),(135,xj),(235,yJ),(236,v8)]
theorem rT:rL Tryz.prog tD:=by
  intro p hp
  simp only[tD,List.mem_cons,List.not_mem_nil,or_false] at hp
  rcases hp with rfl | rfl | rfl | rfl
  · exact ⟨_,Bt⟩
  · exact ⟨_,AX⟩
  · exact ⟨_,Bm⟩
  · exact ⟨_,zh⟩
theorem GR (P:Program):q4 P (fun _ _ _=>none):=fun _ _ _ _ h=>by simp at h
def O0 (o:Option V) (b:Bool):Bool:=match o with
  | some (.val (.bool c))=>c == b
  | _=>false
theorem ON {o:Option V} {b:Bool} (h:O0 o b=true):o=some (gb b):=by
  unfold O0 at h
  split at h
  · rw[beq_iff_eq] at h; rw[h]
  · simp at h
noncomputable def x9 (tab:List (FuncId × DF)) (f:FuncId) (p:Int→Bool):Bool:=(List.range 256).all fun c=>O0 (tw Tryz.prog tab (fun _ _ _=>none) f [gy (c:Int)]) (p (c:Int))
theorem uT {tab:List (FuncId × DF)} (ht:rL Tryz.prog tab) {f:FuncId} {p:Int→Bool} (h:x9 tab f p=true) (c:Int) (h0:0≤c) (h1:c≤255):aF Tryz.prog f [gy c] (gb (p c)):=by
  have:=List.all_eq_true.1 h c.toNat (by simp; omega)
  rw[show ((c.toNat:Nat):Int)=c by omega] at this
  exact (qB mixed ht (GR _) (by intro v hv; simp at hv; subst hv; exact .val _) (ON this)).pure
def xK (c:Int):Bool:=decide (32≤c) && decide (c≤126) && c != 39 && c != 92
def Bn (c:Int):Bool:=c == 110 || c == 116 || c == 92 || c == 39
theorem GG:x9 tD 135 uz=true:=by kernel_rfl
theorem I3:x9 tD 136 mw=true:=by kernel_rfl
theorem Iy:x9 tD 235 xK=true:=by kernel_rfl
theorem NM:x9 tD 236 Bn=true:=by kernel_rfl
theorem Cu {s:ByteArray} {c:Int} (h:c∈ey s):0≤c∧c≤255:=by
  unfold ey at h
  obtain ⟨b,_,rfl⟩:=List.mem_map.1 h
  have:=b.toNat_lt
  omega
theorem I8 (s:ByteArray):fp s=(ey s).map fun x=>[gy x]:=by simp[fp,ey]
end Gv
