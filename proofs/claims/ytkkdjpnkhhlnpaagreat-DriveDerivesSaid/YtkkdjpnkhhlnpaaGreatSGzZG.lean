/-
  Part 7 of the proof: what the machine does and what the functions answer.
  Conditions: those that each lemma names.
-/
import Derived.Test.YtkkdjpnkhhlnpaaGreatSGzZF
set_option linter.unusedSimpArgs false
set_option linter.unusedVariables false
set_option maxRecDepth 100000
namespace Gv
open Go Go.Proofs
section
variable {P:Program} {n:Nat} {all:List Oper}
def EOk (h:Heap) (e:ES):Prop:=e.V=h.view∧e.n=h.length
def Calm (e e':ES) (h h':Heap):Prop:=h.length≤h'.length∧(∀ id,id < h.length→¬ id∈e'.w→h'.view id=h.view id∧¬ id∈e.w)
theorem Calm.trans {a b c:ES} {h1 h2 h3:Heap} (x:Calm a b h1 h2) (y:Calm b c h2 h3):Calm a c h1 h3 :=
  ⟨Nat.le_trans x.1 y.1,fun id hid hw =>
    let ⟨e1,d1⟩:=y.2 id (Nat.lt_of_lt_of_le hid x.1) hw
    let ⟨e2,d2⟩:=x.2 id hid d1
    ⟨e1.trans e2,d2⟩⟩
theorem Calm.refl (e:ES) (h:Heap):Calm e e h h:=⟨Nat.le_refl _,fun _ _ hw=>⟨rfl,hw⟩⟩
def CallSound (P:Program) (call:Caller):Prop:=∀ g vs e v e' h,call g vs e=some (v,e')→EOk h e →
  calleeOk P g=true∧∃ h',ACall P g vs h v h'∧EOk h' e'∧(∀ id,id < h.length→¬ id∈e'.w→h'.view id=h.view id)∧∀ id,id∈e'.w→id < h.length
def RunSound (P:Program) (run:Run):Prop:=∀ (n:Nat) (fz:List Nat) (c:Code) (sc:DC),compD P n fz c=some sc→n≤8000→∀ (e e':ES) (r:Exit) (h:Heap),run sc e=some (r,e')→EOk h e →
  ∃ h',Exec P n c e.T h r e'.T h'∧EOk h' e'∧Calm e e' h h'∧∀ c0,c=.loop c0→ExecL P n c0 e.T h r e'.T h'
theorem put_ok {h:Heap} {e:ES} {d:Option Nat} {v:V} (he:EOk h e):EOk h (e.put d v):=by cases d <;> exact he
theorem put_w {e:ES} {d:Option Nat} {v:V} : (e.put d v).w=e.w:=by cases d <;> rfl
theorem put_calm {h:Heap} {e e':ES} {h':Heap} {d:Option Nat} {v:V} (x:Calm e e' h h'):Calm e (e'.put d v) h h':=⟨x.1,fun id hid hw=>x.2 id hid (by rw[put_w] at hw; exact hw)⟩
theorem ble_lt {a:Nat} (h:Nat.ble a 8000=true):a+1 < 2 ^ 13:=by
  have:=Nat.le_of_ble_eq_true h
  omega
theorem eEff_ok {h:Heap} {e e':ES} {v v':V} {eff:Eff} {rd:List Nat} {c:Rec} (he:EOk h e) (hx:eEff v eff rd e=some (v',e',c)) :
    v'=v∧e'.T=e.T∧e'.V=eff.view h.view h.length∧e'.n=(eff.apply h).length∧c=⟨rd,eff.wr,false,h.length,(eff.apply h).length⟩∧e'.w=eff.wr ++ e.w:=by
  obtain ⟨h1,h2⟩:=he
  unfold eEff at hx
  cases eff with
  | none =>
    simp only[Option.some.injEq,Prod.mk.injEq] at hx
    obtain ⟨rfl,rfl,rfl⟩:=hx
    exact ⟨rfl,rfl,h1,h2,by rw[h2]; rfl,rfl⟩
  | new o =>
    simp only at hx
    split at hx
    · rename_i hb
      simp only[Option.some.injEq,Prod.mk.injEq] at hx
      obtain ⟨rfl,rfl,rfl⟩:=hx
      refine ⟨rfl,rfl,?_,by simp[apply_length,h2],by simp[apply_length,h2,Eff.wr],rfl⟩
      funext k
      simp only[ES.V,Eff.view,View.set]
      rw[Tr2.get_put _ _ _ _ _ _ (ble_lt hb),h2]
      have:=congrFun h1 k
      simp only[ES.V] at this
      rw[this]
    · simp at hx
  | upd id o =>
    simp only at hx
    split at hx
    · rename_i hb
      simp only[Option.some.injEq,Prod.mk.injEq] at hx
      obtain ⟨rfl,rfl,rfl⟩:=hx
      refine ⟨rfl,rfl,?_,by simp[apply_length,h2],by simp[apply_length,h2,Eff.wr],rfl⟩
      funext k
      simp only[ES.V,Eff.view,View.set]
      rw[Tr2.get_put _ _ _ _ _ _ (ble_lt hb)]
      have:=congrFun h1 k
      simp only[ES.V] at this
      rw[this]
    · simp at hx
  | mov id o =>
    simp only at hx
    split at hx
    · rename_i hb1 hb2
      simp only[Option.some.injEq,Prod.mk.injEq] at hx
      obtain ⟨rfl,rfl,rfl⟩:=hx
      refine ⟨rfl,rfl,?_,by simp[apply_length,h2],by simp[apply_length,h2,Eff.wr],rfl⟩
      funext k
      simp only[ES.V,Eff.view,View.set]
      rw[Tr2.get_put _ _ _ _ _ _ (ble_lt hb1),Tr2.get_put _ _ _ _ _ _ (ble_lt hb2),h2]
      have:=congrFun h1 k
      simp only[ES.V] at this
      rw[this]
    · simp at hx
theorem eOp_ok {o:Oper} {e e':ES} {h:Heap} {s:SI} {v:V} {c:Rec} (hg:guardV n all e.T o=some true) (hc:∀ v eff rd,sI P s e.T h.view h.length=some (v,eff,rd)→aop P o e.T h.view h.length=some (v,eff,rd))
    (he:EOk h e) (hx:eOp P s e=some (v,e',c)):∃ h',OStep P n all o e.T h v h' c.rd c.wr c.call∧EOk h' e'∧e'.T=e.T∧Calm e e' h h'∧LoudOk (loudI P s) c.rd c.wr c.call h.length h'.length∧c.lo=h.length∧c.hi=h'.length:=by
  unfold eOp at hx
  rw[eI_eq,he.1,he.2] at hx
  split at hx
  · rename_i v0 eff rd hs
    obtain ⟨rfl,g1,g2,g3,rfl,g5⟩:=eEff_ok he hx
    have ha:=hc _ _ _ hs
    have st:=OStep.op (P:=P) (n:=n) (all:=all) hg ha
    refine ⟨eff.apply h,st,⟨?_,g3⟩,g1,⟨ostep_len st,fun id hid hw=>?_⟩,⟨fun h0=>?_,fun h1=>?_⟩,rfl,rfl⟩
    · rw[apply_view (fun id hid=>(aop_live ha id hid).1)]; exact g2
    · rw[g5] at hw
      simp only[List.mem_append,not_or] at hw
      exact ⟨ostep_view st hid hw.1,hw.2⟩
    · obtain ⟨rfl,rfl⟩:=(sI_loud hs).1 h0
      exact ⟨rfl,rfl,rfl,rfl⟩
    · rcases Nat.lt_or_ge (loudI P s) 1 with h2 | h2
      · obtain ⟨rfl,rfl⟩:=(sI_loud hs).1 (by omega); rfl
      · exact (sI_loud hs).2 (by omega)
  · simp at hx
theorem eB_ok {call:Caller} (hcall:CallSound P call) {fz:Fz} {o:Oper} {e e':ES} {h:Heap} {v:V} {c:Rec} (hg:guardV n all e.T o=some true) (he:EOk h e) (hx:eB P call (compB P fz o) e=some (v,e',c)) :
    ∃ h',OStep P n all o e.T h v h' c.rd c.wr c.call∧EOk h' e'∧e'.T=e.T∧Calm e e' h h'∧LoudOk (loudB P false (compB P fz o)) c.rd c.wr c.call h.length h'.length∧c.lo=h.length∧c.hi=h'.length:=by
  rcases compB_cases P fz o with ⟨f,args,ats,ho,hc⟩ | ⟨t,x,ho,hc⟩ | ⟨s,d,x,ho,hcv,hc⟩ | hc
  · rw[hc] at hx ⊢
    simp only[eB,eCallB] at hx
    split at hx
    · rename_i g first cap hf
      rw[map_of] at hx
      rw[SX.of_at] at hf
      split at hx
      · rename_i v0 e0 hv
        obtain ⟨hok,h',hr,hek,hd,hd2⟩:=hcall _ _ _ _ _ _ hv he
        simp only[Option.some.injEq,Prod.mk.injEq] at hx
        obtain ⟨rfl,rfl,rfl⟩:=hx
        exact ⟨h',.call hg ho hf hok hr hd hd2,hek,rfl,⟨hr.1,fun id hid hw=>by
          simp only[List.mem_append,not_or] at hw
          exact ⟨hd id hid hw.1,hw.2⟩⟩,loud2 (by simp[loudB]),he.2,hek.2⟩
      · simp at hx
    · simp at hx
  · rw[hc] at hx ⊢
    simp only[eB,eOp,eI_eq,sI,SX.of_at] at hx
    split at hx
    · rename_i v0 eff rd hs
      split at hs
      · rename_i hok
        simp only[Option.some.injEq,Prod.mk.injEq] at hs
        obtain ⟨rfl,rfl,rfl⟩:=hs
        simp only[eEff,Option.some.injEq,Prod.mk.injEq] at hx
        obtain ⟨rfl,rfl,rfl⟩:=hx
        exact ⟨h,.frz hg ho hok,he,rfl,Calm.refl _ _,⟨fun _=>⟨rfl,rfl,rfl,rfl⟩,fun _=>rfl⟩,he.2,he.2⟩
      · simp at hs
    · simp at hx
  · rw[hc] at hx ⊢
    obtain ⟨ty,h1,h2,h3⟩:=toBytes_inv hcv
    simp only[eB,eOp,eI_eq,sI,SX.of_at] at hx
    split at hx
    · rename_i v0 eff rd hs
      split at hs
      · rename_i st hst
        simp only[Option.some.injEq,Prod.mk.injEq] at hs
        obtain ⟨rfl,rfl,rfl⟩:=hs
        simp only[eEff,Option.some.injEq,Prod.mk.injEq] at hx
        obtain ⟨rfl,rfl,rfl⟩:=hx
        exact ⟨h,.frzB hg ho h1 h2 h3 hst,he,rfl,Calm.refl _ _,⟨fun _=>⟨rfl,rfl,rfl,rfl⟩,fun _=>rfl⟩,he.2,he.2⟩
      · simp at hs
    · simp at hx
  · rw[hc] at hx ⊢
    exact eOp_ok (s:=froz P fz.fr (comp P o)) hg (fun v eff rd hs=>comp_ok (froz_ok hs)) he hx
theorem dst8 {o:Oper} (hd:dstOk n o=true) (hn:n≤8000):∀ t,o.dst=some t→t < 8000:=by
  intro t ht
  unfold dstOk at hd
  rw[ht] at hd
  have:t < n:=by simpa using hd
  exact Nat.lt_of_lt_of_le this hn
theorem rec_eta {c:Rec} {a b:Nat} (h1:c.lo=a) (h2:c.hi=b):c=⟨c.rd,c.wr,c.call,a,b⟩:=by cases c; subst h1; subst h2; rfl
theorem eBs_ok {call:Caller} (hcall:CallSound P call) (hn:n≤8000) {fz:Fz} (g:Option (Nat × Bool)):∀ (l:List (Option Nat × SB)) (os:List Oper) (e e':ES) (h:Heap) (a a':List Rec),
    compOs P n all fz os=some (l.map fun (d,b)=>⟨d,g,b⟩)→(∀ d w,g=some (d,w)→e.T d=.val (.bool w)∧(l.all fun x=>x.1 != some d)=true)→EOk h e→eBs P call l a e=some (e',a') →
    ∃ recs h',a'=a ++ recs∧Tr P n all os e.T h recs e'.T h'∧EOk h' e'∧Calm e e' h h'∧RecsOk P false (l.map fun (d,b)=>⟨d,g,b⟩) recs
  | [],os,e,e',h,a,a',hc,hg,he,hx=>by
    have:=compOs_nil hc; subst this
    simp only[eBs,Option.some.injEq,Prod.mk.injEq] at hx; obtain ⟨rfl,rfl⟩:=hx
    exact ⟨[],h,by simp,.nil,he,Calm.refl _ _,.nil⟩
  | (d,b) :: l,os,e,e',h,a,a',hc,hg,he,hx=>by
    obtain ⟨o,r,rfl,h1,h2⟩:=compOs_cons hc
    obtain ⟨hd,hd1,hb1,hg1⟩:=compO_inv h1
    simp only at hd1 hb1 hg1
    have hgv:guardV n all e.T o=some true:=by
      cases g with
      | none=>exact guard_none hg1
      | some p =>
        obtain ⟨d',w⟩:=p
        have:=(guard_some (T:=e.T) hg1).1 w (hg d' w rfl).1
        rw[this]; simp
    simp only[eBs] at hx
    rw[hb1] at hx
    split at hx
    · rename_i v e1 c hv
      obtain ⟨h1',st,he1,hT1,hcm,hl,hlo,hhi⟩:=eB_ok hcall hgv he hv
      have hput:(e1.put d v).T=e.T.put o.dst v:=by
        rw[ES.put_T (by rw[hd1]; exact dst8 hd hn),hT1,hd1]
      obtain ⟨recs,h'',ha,tr,he2,hcm2,hro⟩:=eBs_ok hcall hn g l r (e1.put d v) e' h1' _ a' h2 (fun d' w eq=>by
        have:=hg d' w eq
        simp only[List.all_cons,Bool.and_eq_true,bne_iff_ne,ne_eq] at this
        refine ⟨?_,this.2.2⟩
        rw[← this.1,hput,← hd1]
        cases d with
        | none=>rfl
        | some t=>simp only[Env.put]; rw[if_neg]; intro e; subst e; exact this.2.1 rfl) (put_ok he1) hx
      rw[hput] at tr
      refine ⟨_,h'',?_,.cons st hd tr,he2,(put_calm hcm).trans hcm2,hro.cons (by rw[hb1]; exact hl)⟩
      rw[ha,List.append_assoc,← rec_eta hlo hhi]; rfl
    · simp at hx
theorem eSkip_ok {fz:Fz} (hn:n≤8000) (d:Nat) (w:Bool) (h:Heap):∀ (l:List (Option Nat × SB)) (os:List Oper) (e e':ES) (a a':List Rec),
    compOs P n all fz os=some (l.map fun (d',b)=>⟨d',some (d,w),b⟩)→(e.T d=.val (.bool !w)∨e.T d=.tup [])→(l.all fun x=>x.1 != some d)=true→EOk h e→eSkip l a e=(e',a') →
    ∃ recs,a'=a ++ recs∧Tr P n all os e.T h recs e'.T h∧EOk h e'∧e'.w=e.w∧RecsOk P false (l.map fun (d',b)=>⟨d',some (d,w),b⟩) recs
  | [],os,e,e',a,a',hc,hd,hl,he,hx=>by
    have:=compOs_nil hc; subst this
    simp only[eSkip,Prod.mk.injEq] at hx; obtain ⟨rfl,rfl⟩:=hx
    exact ⟨[],by simp,.nil,he,rfl,.nil⟩
  | (d',b) :: l,os,e,e',a,a',hc,hd,hl,he,hx=>by
    obtain ⟨o,r,rfl,h1,h2⟩:=compOs_cons hc
    obtain ⟨hd0,hd1,hb1,hg1⟩:=compO_inv h1
    simp only at hd1 hb1 hg1
    have hgv:guardV n all e.T o=some false:=by
      rcases hd with hd | hd
      · rw[(guard_some (T:=e.T) hg1).1 _ hd]; cases w <;> rfl
      · exact (guard_some (T:=e.T) hg1).2 hd
    simp only[List.all_cons,Bool.and_eq_true,bne_iff_ne,ne_eq] at hl
    have hput:(e.put d' (.tup [])).T=e.T.put o.dst (.tup []):=by
      rw[ES.put_T (by rw[hd1]; exact dst8 hd0 hn),hd1]
    simp only[eSkip] at hx
    obtain ⟨recs,ha,tr,he2,hd2,hro⟩:=eSkip_ok hn d w h l r (e.put d' (.tup [])) e' _ a' h2 (by
      have:(e.put d' (.tup [])).T d=e.T d:=by
        rw[hput,← hd1]
        cases d' with
        | none=>rfl
        | some t=>simp only[Env.put]; rw[if_neg]; intro e; subst e; exact hl.1 rfl
      rw[this]; exact hd) hl.2 (put_ok he) hx
    rw[hput] at tr
    refine ⟨_,?_,Tr.cons (.skip hgv) hd0 tr,he2,by rw[hd2,put_w],hro.cons (r:=⟨[],[],false,h.length,h.length⟩) ⟨fun _=>⟨rfl,rfl,rfl,rfl⟩,fun _=>rfl⟩⟩
    rw[ha,List.append_assoc,noRec,he.2]; rfl
theorem eSkip_ok' {fz:Fz} (hn:n≤8000) {d:Nat} {w:Bool} {h:Heap} {l:List (Option Nat × SB)} {os:List Oper} {e e':ES} {a a':List Rec}
    (hc:compOs P n all fz os=some (l.map fun (d',b)=>⟨d',some (d,w),b⟩)) (hd:e.T d=.val (.bool !w)∨e.T d=.tup []) (hl:(l.all fun x=>x.1 != some d)=true) (he:EOk h e) (hx:eSkip l a e=(e',a')) :
    ∃ recs h',a'=a ++ recs∧Tr P n all os e.T h recs e'.T h'∧EOk h' e'∧Calm e e' h h'∧RecsOk P false (l.map fun (d',b)=>⟨d',some (d,w),b⟩) recs:=by
  obtain ⟨recs,h1,h2,h3,h4,h5⟩:=eSkip_ok hn d w h l os e e' a a' hc hd hl he hx
  exact ⟨recs,h,h1,h2,h3,⟨Nat.le_refl _,fun id _ hw=>⟨rfl,by rw[h4] at hw; exact hw⟩⟩,h5⟩
theorem eG_ok {call:Caller} (hcall:CallSound P call) (hn:n≤8000) {fz:Fz} {g:SG} {os:List Oper} {e e':ES} {h:Heap} {a a':List Rec} (hc:compOs P n all fz os=some g.flat) (hok:okG g=true) (he:EOk h e) (hx:eG P call g a e=some (e',a')) :
    ∃ recs h',a'=a ++ recs∧Tr P n all os e.T h recs e'.T h'∧EOk h' e'∧Calm e e' h h'∧RecsOk P false g.flat recs:=by
  unfold eG at hx
  unfold SG.flat at hc ⊢
  unfold okG at hok
  split at hx
  · rename_i hg
    rw[hg] at hc ⊢
    exact eBs_ok hcall hn none g.ops os e e' h a a' hc (fun d w e=>by simp at e) he hx
  · rename_i d want hg
    rw[hg] at hc hok ⊢
    simp only at hok
    unfold eGuard at hx
    split at hx
    · rename_i b hb
      split at hx
      · rename_i hxor
        simp only[Option.some.injEq] at hx
        have e':b = !want:=by cases b <;> cases want <;> simp_all
        subst e'
        exact eSkip_ok' hn hc (.inl hb) hok he hx
      · rename_i hxor
        have e':b=want:=by cases b <;> cases want <;> simp_all
        subst e'
        exact eBs_ok hcall hn (some (d,b)) g.ops os e _ h a a' hc (fun d' w e=>by simp at e; obtain ⟨rfl,rfl⟩:=e; exact ⟨hb,hok⟩) he hx
    · rename_i hb
      simp only[Option.some.injEq] at hx
      exact eSkip_ok' hn hc (.inr hb) hok he hx
    · simp at hx
theorem eGs_ok {call:Caller} (hcall:CallSound P call) (hn:n≤8000) {fz:Fz} : ∀ (gs:List SG) (os:List Oper) (e e':ES) (h:Heap) (a a':List Rec),compOs P n all fz os=some (flatG gs)→gs.all okG=true→EOk h e→eGs P call gs a e=some (e',a') →
    ∃ recs h',a'=a ++ recs∧Tr P n all os e.T h recs e'.T h'∧EOk h' e'∧Calm e e' h h'∧RecsOk P false (flatG gs) recs
  | [],os,e,e',h,a,a',hc,_,he,hx=>by
    have:=compOs_nil hc; subst this
    simp only[eGs,Option.some.injEq,Prod.mk.injEq] at hx; obtain ⟨rfl,rfl⟩:=hx
    exact ⟨[],h,by simp,.nil,he,Calm.refl _ _,.nil⟩
  | g :: gs,os,e,e',h,a,a',hc,hok,he,hx=>by
    simp only[flatG,List.map_cons,List.flatten_cons] at hc ⊢
    simp only[List.all_cons,Bool.and_eq_true] at hok
    obtain ⟨o1,o2,rfl,h1,h2⟩:=compOs_append hc
    simp only[eGs] at hx
    split at hx
    · rename_i e1 a1 hx1
      obtain ⟨r1,h1',ha1,tr1,he1,hc1,ro1⟩:=eG_ok hcall hn h1 hok.1 he hx1
      obtain ⟨r2,h2',ha2,tr2,he2,hc2,ro2⟩:=eGs_ok hcall hn gs o2 e1 e' h1' a1 a' h2 hok.2 he1 hx
      exact ⟨_,h2',by rw[ha2,ha1,List.append_assoc],tr1.append tr2,he2,hc1.trans hc2,ro1.append ro2⟩
    · simp at hx
theorem unord_mem {ls:List Nat} {i k x y:Nat} (hik:i < k) (hx:ls[i]?=some x) (hy:ls[k]?=some y) (ho:ordered (befs all []) i k=false) (h:¬ (x=0∨y=0∨(x≤1∧y≤1))):(i,k)∈unord all ls:=by
  unfold unord
  simp only[List.mem_flatten,List.mem_map]
  refine ⟨_,⟨(x,i),by rw[List.mem_zipIdx_iff_getElem?]; exact hx,rfl⟩,?_⟩
  simp only[List.mem_map,List.mem_filter]
  refine ⟨(y,k),⟨by rw[List.mem_zipIdx_iff_getElem?]; exact hy,?_⟩,rfl⟩
  simp only[hik,decide_true,ho,Bool.false_or,Bool.true_and,Bool.not_eq_true',Bool.or_eq_false_iff,beq_eq_false_iff_ne,Bool.and_eq_false_iff,decide_eq_false_iff_not]
  omega
theorem confD_ok {ls:List Nat} {recs:List Rec} (h:checkP recs (unord all ls)=true) (hl:ls.length=recs.length) (hr:∀ (i x:Nat) (r:Rec),ls[i]?=some x→recs[i]?=some r→LoudOk x r.rd r.wr r.call r.lo r.hi):Conf all recs:=by
  intro i k a b hik ha hb ho
  have hi:i < recs.length:=(List.getElem?_eq_some_iff.1 ha).1
  have hk:k < recs.length:=(List.getElem?_eq_some_iff.1 hb).1
  have hx:ls[i]?=some (ls[i]'(by omega)):=List.getElem?_eq_getElem (by omega)
  have hy:ls[k]?=some (ls[k]'(by omega)):=List.getElem?_eq_getElem (by omega)
  generalize ls[i]'(by omega)=x at hx
  generalize ls[k]'(by omega)=y at hy
  have la:=hr i _ a hx ha
  have lb:=hr k _ b hy hb
  by_cases hc:x=0∨y=0∨(x≤1∧y≤1)
  · rcases hc with h1 | h1 | h1
    · obtain ⟨e1,e2,e3,e4⟩:=la.1 h1
      exact ⟨fun id hid=>by simp[e2] at hid,fun id _=>by simp[e1],fun hc=>by simp[e3] at hc,fun _=>e2,fun id _ hx=>by omega⟩
    · obtain ⟨e1,e2,e3,e4⟩:=lb.1 h1
      exact ⟨fun id _=>by simp[e1],fun id hid=>by simp[e2] at hid,fun _=>e2,fun hc=>by simp[e3] at hc,fun id hid=>by simp[e2] at hid⟩
    · have e1:=la.2 h1.1
      have e2:=lb.2 h1.2
      exact ⟨fun id hid=>by simp[e1] at hid,fun id hid=>by simp[e2] at hid,fun _=>e2,fun _=>e1,fun id hid=>by simp[e2] at hid⟩
  · have:=List.all_eq_true.1 h _ (unord_mem hik hx hy ho hc)
    simp only[ha,hb] at this
    exact noConf_ok this
theorem eReg_ok (hm:P.follows .mixedOrders=true) {call:Caller} (hcall:CallSound P call) (hn:n≤8000) {fz:List Nat} {id:Nat} {ops:Array Oper} {draw:Bool} {sc:DC} {run:Run} {e e':ES} {r:Exit} {h:Heap}
    (hc:compDR P n fz ops.toList draw=some sc) (he:EOk h e) (hx:eStep P call run sc e=some (r,e')) :
    ∃ h',Exec P n (.region id ops draw) e.T h r e'.T h'∧EOk h' e'∧Calm e e' h h':=by
  unfold compDR at hc
  split at hc
  · simp at hc
  · rename_i l hl
    split at hc
    · simp at hc
    · rename_i hok
      have hok:(group l).all okG=true:=by simpa using hok
      have hl':compOs P n ops.toList ⟨fz,false⟩ ops.toList=some (flatG (group l)):=by rw[group_flat]; exact hl
      have key:∀ ps,eStep P call run (.region ps (group l)) e=some (r,e')→(draw=true→tmpsOk ops.toList=true∧ps=unord ops.toList (l.map fun s=>loudB P false s.b)) →
          ∃ h',Exec P n (.region id ops draw) e.T h r e'.T h'∧EOk h' e'∧Calm e e' h h':=by
        intro ps hx hdr
        simp only[eStep,eRegion] at hx
        split at hx
        · rename_i e1 recs0 hx1
          split at hx
          · rename_i hchk
            simp only[Option.some.injEq,Prod.mk.injEq] at hx
            obtain ⟨rfl,rfl⟩:=hx
            obtain ⟨recs,h',ha,tr,hk,hcm,hro⟩:=eGs_ok hcall hn (group l) ops.toList e e1 h [] recs0 hl' hok he hx1
            simp only[List.nil_append] at ha
            subst ha
            rw[group_flat] at hro
            refine ⟨h',?_,hk,hcm⟩
            cases hd:draw with
            | false=>simpa using seq_exec (id:=id) tr
            | true =>
              obtain ⟨h1,rfl⟩:=hdr hd
              have hcf:Conf ops.toList recs0:=confD_ok hchk (by simpa using hro.1) (fun i x r hx hr=>by
                simp only[List.getElem?_map,Option.map_eq_some_iff] at hx
                obtain ⟨s,hs,rfl⟩:=hx
                exact hro.2 i s r hs hr)
              simpa using draw_exec hm (id:=id) tr h1 hcf
          · simp at hx
        · simp at hx
      split at hc
      · rename_i hd
        split at hc
        · rename_i ht
          simp at hc; subst hc
          exact key _ hx (fun _=>⟨ht,rfl⟩)
        · simp at hc
      · rename_i hd
        simp at hc; subst hc
        exact key _ hx (fun e=>absurd e hd)
theorem eStep_ok (hm:P.follows .mixedOrders=true) {call:Caller} (hcall:CallSound P call) {run:Run} (hrun:RunSound P run):RunSound P (eStep P call run):=by
  intro n fz c sc hc hn e e' r h hx he
  cases c with
  | skip =>
    simp[compD] at hc; subst hc
    simp only[eStep,eSkipC,Option.some.injEq,Prod.mk.injEq] at hx
    obtain ⟨rfl,rfl⟩:=hx
    exact ⟨h,.skip,he,Calm.refl _ _,fun _ h=>by simp at h⟩
  | region id ops draw =>
    obtain ⟨h',a,b,d⟩:=eReg_ok (id:=id) hm hcall hn hc he hx
    exact ⟨h',a,b,d,fun _ h=>by simp at h⟩
  | seq x y =>
    simp only[compD] at hc
    split at hc
    · rename_i a b h1 h2
      simp at hc; subst hc
      simp only[eStep,eSeq] at hx
      split at hx
      · rename_i e1 hx1
        obtain ⟨h1',x1,he1,c1,l1⟩:=hrun n fz x a h1 hn e e1 .normal h hx1 he
        obtain ⟨h2',x2,he2,c2,l2⟩:=hrun n fz y b h2 hn e1 e' r h1' hx he1
        exact ⟨h2',x1.seq x2,he2,c1.trans c2,fun _ h=>by simp at h⟩
      · rename_i hne
        obtain ⟨h1',x1,he1,c1,l1⟩:=hrun n fz x a h1 hn e e' r h hx he
        refine ⟨h1',x1.seq_out (fun e=>?_),he1,c1,fun _ h=>by simp at h⟩
        subst e
        exact absurd hx (hne e')
    · simp at hc
  | cond cc x y =>
    simp only[compD] at hc
    split at hc
    · rename_i a b h1 h2
      simp at hc; subst hc
      simp only[eStep,eCond,SX.of_at] at hx
      split at hx
      · rename_i ht
        obtain ⟨h1',x1,he1,c1,l1⟩:=hrun n fz x a h1 hn e e' r h hx he
        exact ⟨h1',.cond ht x1,he1,c1,fun _ h=>by simp at h⟩
      · rename_i ht
        obtain ⟨h1',x1,he1,c1,l1⟩:=hrun n fz y b h2 hn e e' r h hx he
        exact ⟨h1',.cond ht x1,he1,c1,fun _ h=>by simp at h⟩
      · simp at hx
    · simp at hc
  | block id c =>
    simp only[compD,Option.map_eq_some_iff] at hc
    obtain ⟨a,h1,rfl⟩:=hc
    simp only[eStep,eBlock] at hx
    split at hx
    · rename_i r1 e1 hx1
      simp only[Option.some.injEq,Prod.mk.injEq] at hx
      obtain ⟨rfl,rfl⟩:=hx
      obtain ⟨h1',x1,he1,c1,l1⟩:=hrun n fz c a h1 hn e e1 r1 h hx1 he
      exact ⟨h1',x1.block,he1,c1,fun _ h=>by simp at h⟩
    · simp at hx
  | loop c =>
    have hc0:=hc
    simp only[compD,Option.map_eq_some_iff] at hc
    obtain ⟨a,h1,rfl⟩:=hc
    simp only[eStep,eLoop] at hx
    split at hx
    · rename_i e1 hx1
      obtain ⟨h1',x1,he1,c1,l1⟩:=hrun n fz c a h1 hn e e1 .normal h hx1 he
      obtain ⟨h2',x2,he2,c2,l2⟩:=hrun n fz (.loop c) (.loop a) hc0 hn e1 e' r h1' hx he1
      have hL:=ExecL.step x1 (l2 c rfl)
      exact ⟨h2',.loop hL,he2,c1.trans c2,fun c0 h0=>by simp only[Code.loop.injEq] at h0; subst h0; exact hL⟩
    · rename_i hne
      obtain ⟨h1',x1,he1,c1,l1⟩:=hrun n fz c a h1 hn e e' r h hx he
      have hL:=ExecL.out x1 (fun e=>by subst e; exact absurd hx (hne e'))
      exact ⟨h1',.loop hL,he1,c1,fun c0 h0=>by simp only[Code.loop.injEq] at h0; subst h0; exact hL⟩
  | exit id =>
    simp[compD] at hc; subst hc
    simp only[eStep,Option.some.injEq,Prod.mk.injEq] at hx
    obtain ⟨rfl,rfl⟩:=hx
    exact ⟨h,.exit,he,Calm.refl _ _,fun _ h=>by simp at h⟩
  | ret =>
    simp[compD] at hc; subst hc
    simp only[eStep,Option.some.injEq,Prod.mk.injEq] at hx
    obtain ⟨rfl,rfl⟩:=hx
    exact ⟨h,.ret,he,Calm.refl _ _,fun _ h=>by simp at h⟩
  | _=>simp[compD] at hc
theorem argTree_T:∀ (vs:List V) (i:Nat) (t:Tr2 V),i+vs.length≤8000→∀ k,(argTree vs i t).get .any k=if i≤k∧k < i+vs.length then vs.getD (k - i) .any else t.get .any k
  | [],i,t,h,k=>by
    rw[argTree,if_neg (by simp only[List.length_nil]; omega)]
  | v :: vs,i,t,h,k=>by
    simp only[List.length_cons] at h
    rw[argTree,argTree_T vs (i+1) _ (by omega),Tr2.get_put _ _ _ _ _ _ (by simp only[deep]; omega)]
    simp only[List.length_cons]
    by_cases h1:k=i
    · subst h1; rw[if_neg (by omega),if_pos rfl,if_pos (by omega)]; simp
    · by_cases h2:i+1≤k∧k < i+1+vs.length
      · rw[if_pos h2,if_pos (by omega)]
        have:k - i=(k - (i+1))+1:=by omega
        rw[this]; rfl
      · rw[if_neg h2,if_neg h1,if_neg (by omega)]
theorem argTree_env (vs:List V) (h:vs.length≤8000):(argTree vs 0 .nil).get .any=argsEnv vs:=by
  funext k
  rw[argTree_T vs 0 .nil (by omega)]
  simp only[argsEnv,Nat.zero_le,true_and,Nat.zero_add,Nat.sub_zero]
  split
  · rfl
  · rename_i hk
    rw[List.getD_eq_getElem?_getD,List.getElem?_eq_none (by omega)]; rfl
theorem eRes_ok {e:ES} {h:Heap} {r:ResultVar} {rest:List ResultVar} {l:List SR} (he:EOk h e) (hc:compRes P (r :: rest)=some l):∃ s l',l=s :: l'∧compRes P rest=some l'∧∀ v,eRes s e=some v→resOne P e.T h r=some v:=by
  cases r with
  | tmp t =>
    simp only[compRes,Option.map_eq_some_iff] at hc
    obtain ⟨l',h1,rfl⟩:=hc
    exact ⟨.tmp t,l',rfl,h1,fun v hv=>hv⟩
  | cell a t =>
    simp only[compRes] at hc
    split at hc
    · rename_i k l' h1 h2
      simp at hc; subst hc
      refine ⟨.cell a k,l',rfl,h2,fun v hv=>?_⟩
      simp only[eRes] at hv
      simp only[resOne,aLoad,partK_ok h1]
      rw[he.1] at hv
      split at hv
      · rename_i id i j ha
        split at hv
        · rename_i es hH
          split at hv
          · rename_i hlt
            rw[ha]; simp only[hH]; rw[if_pos hlt,hv]; rfl
          · simp at hv
        · simp at hv
      · rename_i e j ha
        rw[ha]; simp only; rw[hv]; rfl
      · simp at hv
    · simp at hc
theorem eRess_ok {e:ES} {h:Heap} (he:EOk h e):∀ (rs:List ResultVar) (l:List SR) (vs:List V),compRes P rs=some l→eRess l e=some vs→resAll P e.T h rs=some vs
  | [],l,vs,hc,hw=>by simp[compRes] at hc; subst hc; simp[eRess] at hw; subst hw; rfl
  | r :: rest,l,vs,hc,hw=>by
    obtain ⟨s,l',rfl,h1,h2⟩:=eRes_ok (e:=e) (h:=h) he hc
    simp only[eRess] at hw
    split at hw
    · rename_i v vs' hv hvs
      simp at hw; subst hw
      simp[resAll,h2 v hv,eRess_ok he rest l' vs' h1 hvs]
    · simp at hw
def TabOk (P:Program) (tab:List (FuncId × DF)):Prop:=∀ p∈tab,∃ fz,compDF P p.1 fz=some p.2
def ExtSound (P:Program) (ext:ExtT):Prop:=∀ g vs H t,ext g vs H=some t→calleeOk P g=true∧∀ h:Heap,h.view=H→ACall P g vs h t h
theorem eCall_ok {tab:List (FuncId × DF)} {ext:ExtT} (ht:TabOk P tab) (hx:ExtSound P ext) {run:Run} (hrun:RunSound P run):CallSound P (eCall P tab ext run):=by
  intro g vs e v e' h hcall he
  unfold eCall at hcall
  split at hcall
  · rename_i t hext
    simp only[Option.some.injEq,Prod.mk.injEq] at hcall
    obtain ⟨rfl,rfl⟩:=hcall
    obtain ⟨h1,h2⟩:=hx _ _ _ _ hext
    exact ⟨h1,h,h2 h he.1.symm,he,fun _ _ _=>rfl,fun _ hw=>by simp at hw⟩
  · split at hcall
    · rename_i g' F hf
      have hmem:=List.mem_of_find?_eq_some hf
      have hgg:g'=g:=by
        have:=List.find?_some hf
        exact Nat.eq_of_beq_eq_true this
      subst hgg
      obtain ⟨fz,hF⟩:=ht _ hmem
      simp only at hF
      unfold compDF at hF
      split at hF
      · rename_i fn hfn
        split at hF
        · rename_i c hb
          split at hF
          · rename_i sc rs h1 h2 h3
            simp at hF; subst hF
            refine ⟨h3,?_⟩
            unfold eFun at hcall
            split at hcall
            · rename_i hlen hn
              have hlen:=Nat.le_of_ble_eq_true hlen
              have hn:=Nat.le_of_ble_eq_true hn
              simp only at hlen hn
              unfold eOld at hcall
              split at hcall
              · rename_i v1 e1' hend
                simp only[Option.some.injEq,Prod.mk.injEq] at hcall
                obtain ⟨rfl,rfl⟩:=hcall
                unfold eEnd at hend
                have go:∀ (r:Exit) (e1:ES),(r=.ret∨r=.normal)→run sc ⟨argTree vs 0 .nil,e.H,e.n,[]⟩=some (r,e1)→(eRess rs e1).map (fun vs=>(oneV vs,e1))=some (v1,e1') →
                    ∃ h',ACall P g' vs h v1 h'∧EOk h' e1'∧(∀ id,id < h.length→¬ id∈e1'.w→h'.view id=h.view id):=by
                  intro r e1 hr hrn hres
                  simp only[Option.map_eq_some_iff,Prod.mk.injEq] at hres
                  obtain ⟨vs',hvs,rfl,rfl⟩:=hres
                  obtain ⟨h',hx,he1,hc1,_⟩:=hrun fn.ntmps fz c sc h1 hn _ e1 r h hrn he
                  have hT:(ES.T ⟨argTree vs 0 .nil,e.H,e.n,[]⟩)=argsEnv vs:=argTree_env vs (by omega)
                  rw[hT] at hx
                  refine ⟨h',ACall.of_exec hfn hb hlen hx (by rcases hr with rfl | rfl <;> simp) ?_,he1,fun id hid hw=>(hc1.2 id hid hw).1⟩
                  unfold resV
                  rw[eRess_ok he1 _ _ _ h2 hvs]
                  cases vs' with
                  | nil=>rfl
                  | cons a l=>cases l <;> rfl
                have done:(∃ h',ACall P g' vs h v1 h'∧EOk h' e1'∧(∀ id,id < h.length→¬ id∈e1'.w→h'.view id=h.view id)) →
                    ∃ h',ACall P g' vs h v1 h'∧EOk h' ⟨e1'.L,e1'.H,e1'.n,e1'.w.filter fun id=>Nat.blt id e.n⟩∧(∀ id,id < h.length→¬ id∈e1'.w.filter (fun id=>Nat.blt id e.n)→h'.view id=h.view id)∧∀ id,id∈e1'.w.filter (fun id=>Nat.blt id e.n)→id < h.length:=by
                  rintro ⟨h',k1,k2,k3⟩
                  refine ⟨h',k1,k2,fun id hid hw=>k3 id hid (fun hm=>hw ?_),fun id hw=>?_⟩
                  · rw[List.mem_filter]
                    exact ⟨hm,by rw[he.2]; exact Nat.ble_eq_true_of_le hid⟩
                  · rw[List.mem_filter] at hw
                    have:=Nat.le_of_ble_eq_true hw.2
                    rw[he.2] at this; exact this
                split at hend
                · rename_i e1 hrn; exact done (go _ _ (.inl rfl) hrn hend)
                · rename_i e1 hrn; exact done (go _ _ (.inr rfl) hrn hend)
                · simp at hend
              · simp at hcall
            · simp at hcall
          · simp at hF
        · simp at hF
      · simp at hF
    · simp at hcall
theorem eRun_ok (hm:P.follows .mixedOrders=true) {tab:List (FuncId × DF)} {ext:ExtT} (ht:TabOk P tab) (hx:ExtSound P ext):∀ k,RunSound P (eRun P tab ext k)
  | 0=>fun n fz c sc hc hn e e' r h hr he=>by simp[eRun] at hr
  | k+1=>by
    have ih:=eRun_ok hm ht hx k
    have:=eStep_ok hm (eCall_ok ht hx ih) ih
    exact this
end
inductive FrN (h:Heap):V→V→Prop
  | val (v:Value):FrN h (.val v) (.val v)
  | emp (k:Nat):FrN h (.emp k) (.fro [])
  | sl (id off len esz z:Nat) (es es':List (List V)):h.view id=.arr z es→off+len≤es.length→es'.length=len →
      (∀ i,i < len→(es'.getD i []).length=(es.getD (off+i) []).length) →
      (∀ i j,i < len→j < (es'.getD i []).length→FrN h ((es.getD (off+i) []).getD j .any) ((es'.getD i []).getD j .any))→FrN h (.sl id off len esz) (.fro es')
  | agg (cs cs':List V):cs'.length=cs.length→(∀ i,i < cs.length→FrN h (cs.getD i .any) (cs'.getD i .any))→FrN h (.agg cs) (.agg cs')
  | tup (cs cs':List V):cs'.length=cs.length→(∀ i,i < cs.length→FrN h (cs.getD i .any) (cs'.getD i .any))→FrN h (.tup cs) (.tup cs')
theorem frn_rel {h:Heap} {Z:Nat→Prop} {μ ν:Mu} {F:View} {hp:Array Obj} (hr:HRel Z μ hp (cat h F)) {v t:V} (fr:FrN h v t):∀ {x:Value},VRel Z μ hp v x→VRel (hasMu μ) ν hp t x:=by
  have hcat:∀ id,h.view id≠.dead→cat h F id=h.view id:=fun id hd=>by simp only[cat]; rw[if_pos (view_ne hd)]
  induction fr with
  | val v=>intro x hx; cases hx with | val _ hv=>exact .val _ hv
  | emp k=>intro x hx; cases hx with | emp _ a=>exact .fro0 a 0 (fun _=>rfl)
  | sl id off len esz z es es' hH hle hlen hl _ ih =>
    intro x hx
    cases hx with
    | sl0 _ _ _ a =>
      have:es'=[]:=List.length_eq_zero_iff.1 hlen
      subst this
      exact .fro0 a 0 (fun _=>rfl)
    | sl _ _ _ _ b o0 cap c e f hm hlec hb hs =>
      have hor:=hr.obj id
      rw[hcat id (by rw[hH]; simp),hH] at hor
      obtain ⟨rfl,_,h3,h4⟩:=hor b o0 esz hm
      have hx:∀ i,∃ ci:Nat→Value,∀ j,j < esz→i < len→cellAt hp b (o0+off * esz+i * esz+j)=some (ci j)∧VRel Z μ hp ((es.getD (off+i) []).getD j .any) (ci j):=by
        intro i
        by_cases hi:i < len
        · obtain ⟨ci,hci⟩:=choose_fun (n:=esz) (p:=fun j x=>cellAt hp b (o0+off * esz+i * esz+j)=some x∧VRel Z μ hp ((es.getD (off+i) []).getD j .any) x) (fun j hj=>by
            obtain ⟨x,hx,hv⟩:=h4 (off+i) j (by omega) hj
            rw[Nat.add_mul,← Nat.add_assoc] at hx
            exact ⟨x,hx,hv⟩)
          exact ⟨ci,fun j hj _=>hci j hj⟩
        · exact ⟨fun _=>undef,fun j _ h=>absurd h hi⟩
      obtain ⟨cf,hcf⟩:=Classical.axiomOfChoice hx
      have hel:∀ i,i < es'.length→(es'.getD i []).length=esz:=fun i hi=>by rw[hl i (by omega)]; exact h3 _ (by omega)
      have:=VRel.fro (Z:=hasMu μ) (μ:=ν) (hp:=hp) es' b (o0+off * esz) esz cap cf ⟨id,o0,esz,hm⟩ (by omega) hel
        (fun i j hi hj=>(hcf i j hj (by omega)).1) (fun i j hi hj=>ih i j (by omega) (by rw[hel i hi]; exact hj) (hcf i j hj (by omega)).2)
      rw[hlen] at this
      exact this
  | agg cs cs' hlen _ ih =>
    intro x hx
    cases hx with
    | agg _ aas h1 h2=>exact .agg _ _ (by omega) (fun i hi=>ih i (by omega) (h2 i (by omega)))
  | tup cs cs' hlen _ ih =>
    intro x hx
    cases hx with
    | tup _ aas h1 h2=>exact .tup _ _ (by omega) (fun i hi=>ih i (by omega) (h2 i (by omega)))
def PNew (P:Program) (f:FuncId) (vs:List V) (t:V):Prop :=
  ∀ Z μ (w:World) (xs:List Value),VRels Z μ w.heap vs xs→(∀ b,Z b→b < w.heap.size) →
    Calls P f xs.toArray w fun e w'=>∃ x Z',e=.returned x∧(∀ ν,VRel Z' ν w'.heap t x)∧Same w w'∧(∀ b,Z' b→w.heap.size≤b∧b < w'.heap.size)∧OldBut w.heap w'.heap (fun _=>False)
theorem PNew.pure {P:Program} {f:FuncId} {vs:List V} {t:V} (h:PNew P f vs t):PCall P f vs t:=by
  intro Z μ w xs hrel hz
  refine (h Z μ w xs hrel hz).mono ?_
  rintro e w' ⟨x,Z',rfl,hv,hs,hz',ho⟩
  exact ⟨x,fun b=>Z b∨Z' b,rfl,fun ν=>(hv ν).mono ⟨fun _ h=>.inr h,fun _ _=>rfl,fun _ _ h=>h,Shapes.refl _⟩,hs,fun _ h=>.inl h,fun b hb=>hb.imp id (hz' b),ho⟩
theorem PNew.of_acall {P:Program} {f:FuncId} {vs:List V} {r t:V} {h':Heap} (ht:∀ v∈vs,Tree v) (hc:ACall P f vs [] r h') (hf:FrN h' r t):PNew P f vs t:=by
  intro Z μ w xs hrel hz
  have hrel0:VRels Z (fun _=>none) w.heap vs xs:=⟨hrel.1,fun i hi=>tree_rel (hrel.2 i hi) (by
    simp only[List.getD_eq_getElem?_getD,List.getElem?_eq_getElem hi,Option.getD_some]
    exact ht _ (List.getElem_mem _))⟩
  have hr0:HRel Z (fun _=>none) w.heap (cat [] fun _=>.dead):=by
    rw[cat_nil]
    exact ⟨fun _=>trivial,fun i j b o s o' s' _ h=>by simp at h,fun id b o s h=>by simp at h,hz,fun id b o s h=>by simp at h⟩
  refine (hc.2 Z _ _ w xs hrel0 hr0 (fun _ _ _=>rfl)).mono ?_
  rintro e w' ⟨x,Z',μ',rfl,hv,hh,hex,_⟩
  refine ⟨x,hasMu μ',rfl,fun ν=>frn_rel hh hf hv,hex.same,?_,fun b hb _=>hex.frame b hb (by rintro ⟨_,_,_,h⟩; simp at h)⟩
  rintro b ⟨id,o,s,hb⟩
  rcases hex.munew _ _ _ _ hb with h1 | ⟨_,h1 | ⟨_,_,_,h1⟩⟩
  · simp at h1
  · exact ⟨h1,hh.lt _ _ _ _ hb⟩
  · simp at h1
theorem PNew.of {P:Program} {f:FuncId} {vs:List V} {t:V} (ht:∀ v∈vs,Tree v) (h:MCall P f vs (fun _=>.dead) fun r H'=>∀ h':Heap,h'.view=H'→FrN h' r t):PNew P f vs t:=by
  obtain ⟨r,h',ha,_,hf⟩:=h.2 [] dead_view
  exact PNew.of_acall ht ha (hf h' rfl)
theorem ACall.borrowN {P:Program} {f:FuncId} {ts vs:List V} {t:V} {h:Heap} (hc:PNew P f ts t) (hl:ts.length=vs.length)
    (hfr:∀ i,i < vs.length→Fr h (vs.getD i .any) (ts.getD i .any)):ACall P f vs h t h:=by
  refine ⟨Nat.le_refl _,fun Z μ F w xs hrel hr hfree=>?_⟩
  have hts:VRels (fun b=>Z b∨hasMu μ b) μ w.heap ts xs:=⟨by rw[hl,hrel.1],fun i hi=>fr_rel hr (hfr i (by omega)) (hrel.2 i (by omega))⟩
  have hzl:∀ b,(Z b∨hasMu μ b)→b < w.heap.size:=by
    rintro b (hb | ⟨id,o,s,hb⟩)
    · exact hr.zlt b hb
    · exact hr.lt _ _ _ _ hb
  refine (hc _ μ w xs hts hzl).mono ?_
  rintro e w' ⟨x,Z',rfl,hv,hs,hz',ho⟩
  have hm:Mono Z (fun b=>Z b∨Z' b) μ μ w.heap w'.heap:=⟨fun _ h=>.inl h,fun b hb=>ho b (hr.zlt b hb) (fun x=>x),fun _ _ h=>h,ho.shapes⟩
  refine ⟨x,fun b=>Z b∨Z' b,μ,rfl,(hv μ).mono ⟨fun _ h=>.inr h,fun _ _=>rfl,fun _ _ h=>h,Shapes.refl _⟩,⟨fun id=>(hr.obj id).mono hm rfl (fun b o s hx=>ho b (hr.lt _ _ _ _ hx) (fun x=>x)),hr.inj,fun id b o s hx=>Nat.lt_of_lt_of_le (hr.lt _ _ _ _ hx) hs.size,fun b hb=>?_,fun id b o s hx hzb=>?_⟩,
    ⟨hs,hm,fun b hb _=>ho b hb (fun x=>x),fun b hb=>hb.imp id (fun h=>(hz' b h).1),fun _ _ _ _ h=>.inl h⟩,fun _ _=>rfl⟩
  · rcases hb with hb | hb
    · exact Nat.lt_of_lt_of_le (hr.zlt b hb) hs.size
    · exact (hz' b hb).2
  · rcases hzb with hb | hb
    · exact hr.zmu _ _ _ _ hx hb
    · have:=hr.lt _ _ _ _ hx; have:=(hz' b hb).1; omega
noncomputable def frzL (fz:V→Option V):List V→Option (List V)
  | []=>some []
  | v :: l=>match fz v,frzL fz l with
    | some a,some b=>some (a :: b)
    | _,_=>none
noncomputable def frzE (fz:V→Option V):List (List V)→Option (List (List V))
  | []=>some []
  | v :: l=>match frzL fz v,frzE fz l with
    | some a,some b=>some (a :: b)
    | _,_=>none
noncomputable def frzV (H:View):Nat→V→Option V
  | 0,_=>none
  | k+1,v=>match v with
    | .val x=>some (.val x)
    | .emp _=>some (.fro [])
    | .sl id off len _=>match H id with
      | .arr _ es=>if off+len≤es.length then (frzE (frzV H k) ((es.drop off).take len)).map .fro else none
      | _=>none
    | .agg cs=>(frzL (frzV H k) cs).map .agg
    | .tup cs=>(frzL (frzV H k) cs).map .tup
    | _=>none
theorem frzL_ok {fz:V→Option V} : ∀ (l l':List V),frzL fz l=some l'→l'.length=l.length∧∀ i,i < l.length→fz (l.getD i .any)=some (l'.getD i .any)
  | [],l',h=>by simp only[frzL,Option.some.injEq] at h; subst h; exact ⟨rfl,fun i hi=>by simp at hi⟩
  | v :: l,l',h=>by
    simp only[frzL] at h
    split at h
    · rename_i a b h1 h2
      simp only[Option.some.injEq] at h; subst h
      obtain ⟨g1,g2⟩:=frzL_ok l b h2
      refine ⟨by simp[g1],fun i hi=>?_⟩
      cases i with
      | zero=>exact h1
      | succ i=>exact g2 i (by simpa using hi)
    · simp at h
theorem frzE_ok {fz:V→Option V} : ∀ (l l':List (List V)),frzE fz l=some l'→l'.length=l.length∧∀ i,i < l.length→frzL fz (l.getD i [])=some (l'.getD i [])
  | [],l',h=>by simp only[frzE,Option.some.injEq] at h; subst h; exact ⟨rfl,fun i hi=>by simp at hi⟩
  | v :: l,l',h=>by
    simp only[frzE] at h
    split at h
    · rename_i a b h1 h2
      simp only[Option.some.injEq] at h; subst h
      obtain ⟨g1,g2⟩:=frzE_ok l b h2
      refine ⟨by simp[g1],fun i hi=>?_⟩
      cases i with
      | zero=>exact h1
      | succ i=>exact g2 i (by simpa using hi)
    · simp at h
theorem frzV_ok (h:Heap):∀ (k:Nat) (v t:V),frzV h.view k v=some t→FrN h v t
  | 0,v,t,hf=>by simp[frzV] at hf
  | k+1,v,t,hf=>by
    have ih:=frzV_ok h k
    simp only[frzV] at hf
    split at hf
    · simp only[Option.some.injEq] at hf; subst hf; exact .val _
    · simp only[Option.some.injEq] at hf; subst hf; exact .emp _
    · rename_i id off len esz
      split at hf
      · rename_i z es hH
        split at hf
        · rename_i hle
          simp only[Option.map_eq_some_iff] at hf
          obtain ⟨es',he,rfl⟩:=hf
          obtain ⟨g1,g2⟩:=frzE_ok _ _ he
          have hlen:es'.length=len:=by rw[g1]; simp; omega
          have hg:∀ i,i < len→((es.drop off).take len).getD i []=es.getD (off+i) []:=fun i hi=>by
            simp[List.getD_eq_getElem?_getD,hi]
          have g3:∀ i,i < len→frzL (frzV h.view k) (es.getD (off+i) [])=some (es'.getD i []):=fun i hi=>by
            rw[← hg i hi]; exact g2 i (by rw[← g1,hlen]; exact hi)
          exact .sl id off len esz z es es' hH hle hlen (fun i hi=>(frzL_ok _ _ (g3 i hi)).1) (fun i j hi hj=>ih _ _ ((frzL_ok _ _ (g3 i hi)).2 j (by rw[← (frzL_ok _ _ (g3 i hi)).1]; exact hj)))
        · simp at hf
      · simp at hf
    · simp only[Option.map_eq_some_iff] at hf
      obtain ⟨l,hl,rfl⟩:=hf
      obtain ⟨g1,g2⟩:=frzL_ok _ _ hl
      exact .agg _ _ g1 (fun i hi=>ih _ _ (g2 i hi))
    · simp only[Option.map_eq_some_iff] at hf
      obtain ⟨l,hl,rfl⟩:=hf
      obtain ⟨g1,g2⟩:=frzL_ok _ _ hl
      exact .tup _ _ g1 (fun i hi=>ih _ _ (g2 i hi))
    · simp at hf
noncomputable def eEndV:Option (V × ES)→Option V
  | some (v,e)=>frzV e.V 50 v
  | none=>none
noncomputable def eClosed (P:Program) (tab:List (FuncId × DF)) (ext:ExtT) (f:FuncId) (vs:List V):Option V :=
  eEndV (eCall P tab ext (eRun P tab ext 100000) f vs ⟨.nil,.nil,0,[]⟩)
theorem eClosed_ok {P:Program} (hm:P.follows .mixedOrders=true) {tab:List (FuncId × DF)} {ext:ExtT} (ht:TabOk P tab) (hx:ExtSound P ext) {f:FuncId} {vs:List V} {t:V} (hvs:∀ v∈vs,Tree v) (h:eClosed P tab ext f vs=some t) :
    PNew P f vs t:=by
  unfold eClosed eEndV at h
  split at h
  · rename_i v e hr
    obtain ⟨h1,h',h2,h3,_⟩:=eCall_ok ht hx (eRun_ok hm ht hx 100000) f vs _ v e [] hr ⟨by funext k; rfl,rfl⟩
    rw[h3.1] at h
    exact PNew.of_acall hvs h2 (frzV_ok h' 50 v t h)
  · simp at h
structure Gram.Fine (g:Gram):Prop where
  terms:g.terms.length≤24
  nons1:1≤g.nons.length
  nons:g.nons.length≤16
  rules1:1≤g.rules.length
  rules:g.rules.length≤40
  start0:0≤g.start
  start:g.start < g.nons.length
  left:∀ r∈g.rules,0≤r.left∧r.left < g.nons.length
  right:∀ r∈g.rules,r.right.length≤6
  sym:∀ r∈g.rules,∀ s∈r.right,hasG g s=true
  prec:∀ r∈g.rules,-1≤r.prec∧r.prec < g.terms.length
theorem rulesL_ok {g:Gram} : ∀ (l:List Rule) (top:Int),rulesL g l top=true→top≤(g.nons.length:Int) - 1∧∀ r∈l,0≤r.left∧r.left < g.nons.length∧ruleB g r=true
  | [],top,h=>by simp[rulesL] at h; exact ⟨by omega,fun r hr=>by simp at hr⟩
  | r :: l,top,h=>by
    simp only[rulesL,Bool.and_eq_true,decide_eq_true_eq] at h
    obtain ⟨⟨⟨h1,h2⟩,h3⟩,h4⟩:=h
    obtain ⟨k1,k2⟩:=rulesL_ok l _ h4
    have h5:r.left≤(if r.left > top then r.left else top):=by split <;> omega
    have h6:top≤(if r.left > top then r.left else top):=by split <;> omega
    refine ⟨by omega,fun r' hr=>?_⟩
    rcases List.mem_cons.1 hr with rfl | hr
    · exact ⟨h1,by omega,h3⟩
    · exact k2 r' hr
theorem right09_fine {g:Gram} (h:right09 g=true):g.Fine:=by
  simp only[right09,terms09,nons09,Bool.and_eq_true,decide_eq_true_eq] at h
  obtain ⟨⟨⟨⟨⟨⟨⟨h1,_⟩,⟨h2,h3⟩,_⟩,h4⟩,h5⟩,h6⟩,h7⟩,h8⟩:=h
  have k:=(rulesL_ok _ _ h8).2
  have hb:∀ r∈g.rules,r.right.length≤6∧-1≤r.prec∧r.prec < g.terms.length∧∀ s∈r.right,hasG g s=true:=fun r hr=>by
    have:=(k r hr).2.2
    simp only[ruleB,Bool.and_eq_true,decide_eq_true_eq,List.all_eq_true,symB] at this
    exact ⟨this.1.1.1,this.1.1.2,this.1.2,fun s hs=>(this.2 s hs).1⟩
  exact ⟨h1,h2,h3,h4,h5,h6,h7,fun r hr=>⟨(k r hr).1,(k r hr).2.1⟩,fun r hr=>(hb r hr).1,fun r hr=>(hb r hr).2.2.2,fun r hr=>⟨(hb r hr).2.1,(hb r hr).2.2.1⟩⟩
theorem Gram.Fine.neg {g:Gram} (h:g.Fine) {r:Rule} (hr:r∈g.rules) {s:Int} (hs:s∈r.right) (hn:s < 0) : -1 - s < g.nons.length:=by
  have:=h.sym r hr s hs
  simp only[hasG] at this
  rw[if_neg (by omega)] at this
  simpa using this
theorem pc_all (l:List Int) (is:List Bool) (t:Bool) (hl:Short l) (hs:∀ s∈l,In64 s∧(s < 0→-1 - s < is.length)):PCall Tryz.prog 128 [encI l,encB is,gb t] (gb (allG l is t)) :=
  PCall.val (by
    intro v hv; simp at hv
    rcases hv with rfl | rfl | rfl
    · exact encI_tree _
    · exact encB_tree _
    · exact .val _) (fun H=>(mc_all l is t hl hs H).mono fun r H' h=>h.1)
abbrev encBs (is:List Bool):List (List V):=is.map fun x=>[gb x]
theorem frn_bools {h:Heap} {id:Nat} {is:List Bool} (hv:h.view id=.arr 1 (encBs is)):FrN h (.sl id 0 is.length 1) (encB is):=by
  refine .sl id 0 is.length 1 1 (encBs is) _ hv (by simp) (by simp) (fun i hi=>by simp) (fun i j hi hj=>?_)
  rw[Nat.zero_add]
  have e:(encBs is).getD i []=[gb is[i]]:=by simp[List.getD_eq_getElem?_getD,hi]
  rw[e] at hj ⊢
  have:j=0:=by simp at hj; omega
  subst this
  exact .val _
theorem lent_bools {H:View} {id n:Nat} {is:List Bool} (hv:H id=.arr 1 (encBs is)) (hn:n=is.length):Lent H (.sl id 0 n 1) (encB is):=by
  have ht:∀ e∈encBs is,∀ v∈e,Tree v:=by
    intro e he v hv
    obtain ⟨a,_,rfl⟩:=List.mem_map.1 he
    rw[List.mem_singleton] at hv
    subst hv
    exact .val _
  have:=Lent.sl (off:=0) (len:=n) (esz:=1) hv (by simp[hn]) ht
  rwa [List.drop_zero,List.take_of_length_le (by simp[hn])] at this
theorem bools_get {is:List Bool} {i:Nat} (h:i < is.length):(encBs is).getD i []=[gb is[i]]:=by simp[List.getD_eq_getElem?_getD,h]
theorem bools_set (is:List Bool) (i:Nat) (b:Bool):(encBs is).set i [gb b]=encBs (is.set i b):=by simp[List.map_set]
theorem bools_rep (n:Nat) (b:Bool):List.replicate n [gb b]=encBs (List.replicate n b):=by simp
def iter {α:Type} (f:α→α):Nat→α→α
  | 0,x=>x
  | n+1,x=>iter f n (f x)
def step11 (t:Bool) (is:List Bool) (r:Rule):List Bool:=if allG r.right is t=true then is.set r.left.toNat true else is
def round11 (g:Gram) (t:Bool) (is:List Bool):List Bool:=g.rules.foldl (step11 t) is
def none11 (g:Gram):List Bool:=List.replicate g.nons.length false
def grown09 (g:Gram) (t:Bool):List Bool:=if right09 g=true then iter (round11 g t) g.nons.length (none11 g) else []
theorem step11_len (t:Bool) (is:List Bool) (r:Rule):(step11 t is r).length=is.length:=by unfold step11; split <;> simp
def B_gerundref11_grown_0:SC :=
  .seq (.seq (ab [aa 22 7,af 23 2 2,ae 24 23,aj 25 24,ak 26 .lss 22 25]) <|
  .cond (.tmp 26) (.skip) (.exit 2)) <|
  .seq (.block 3 (.seq (ab [af 29 2 2,ae 30 29,aa 31 7,av 32 3 30 31,af 33 1 32,ae 34 33,aa 35 5,aa 36 1,ao 37 128 [34,35,36]]) <|
  .cond (.tmp 37) (ab [aa 38 5,af 39 2 2,ae 40 39,aa 41 7,av 42 3 40 41,af 43 0 42,ae 44 43,av 45 1 38 44,(none,.op (.store 1 (.tmp 45) (.val (.val (.bool true)))))]) (.skip))) <|
  ab [aa 27 7,ah 28 .add 27 1,aa 7 28]
def B_gerundref11_grown_1:SC :=
  .seq (.seq (ab [aa 15 6,af 16 1 2,ae 17 16,aj 18 17,ak 19 .lss 15 18]) <|
  .cond (.tmp 19) (.skip) (.exit 0)) <|
  .seq (.block 1 (.seq (ab [ai 7 0]) <|
  .block 2 (.loop B_gerundref11_grown_0))) <|
  ab [aa 20 6,ah 21 .add 20 1,aa 6 21]
def S_gerundref11_grown:SF:=⟨.seq (ab [aC 2 0,((some 4),.op (.mov (.val (.emp 1))))]) <|
  .seq (.seq (ab [au 8 4 2,ao 9 66 [8],aB 10 9]) <|
  .cond (.tmp 10) (.seq (ab [((some 4),.op (.mov (.val (.emp 1))))]) <|
  .ret) (.skip)) <|
  .seq (ab [af 11 1 2,ae 12 11,aj 13 12,((some 14),.op (.make 1 1 [(.val (.bool false))] (.tmp 13) (.tmp 13))),aa 5 14]) <|
  .seq (.seq (ab [ai 6 0]) <|
  .block 0 (.loop B_gerundref11_grown_1)) <|
  .seq (ab [aa 46 5,aa 4 46]) <|
  .ret,
  [.tmp 4],47⟩
theorem S_gerundref11_grown_ok:compF Tryz.prog 186 [2]=some S_gerundref11_grown:=by kernel_rfl
def S_gerundref11_Nullable:SF:=⟨.seq (ab [aC 1 0,((some 2),.op (.mov (.val (.emp 1))))]) <|
  .seq (ab [au 3 4 1,aD 4 186 [(.tmp 3),(.val (.val (.bool false)))],aa 2 4]) <|
  .ret,
  [.tmp 2],5⟩
theorem S_gerundref11_Nullable_ok:compF Tryz.prog 196 [1]=some S_gerundref11_Nullable:=by kernel_rfl
def S_gerundref11_Productive:SF:=⟨.seq (ab [aC 1 0,((some 2),.op (.mov (.val (.emp 1))))]) <|
  .seq (ab [au 3 4 1,aD 4 186 [(.tmp 3),(.val (.val (.bool true)))],aa 2 4]) <|
  .ret,
  [.tmp 2],5⟩
theorem S_gerundref11_Productive_ok:compF Tryz.prog 126 [1]=some S_gerundref11_Productive:=by kernel_rfl
theorem gb_trees (g:Gram) (t:Bool):∀ v∈[V.agg (encG g),gb t],Tree v:=by
  intro v hv; simp at hv
  rcases hv with rfl | rfl
  · exact tree_agg _ (encG_tree g)
  · exact .val _
set_option maxHeartbeats 2000000 in
theorem mc_grown (g:Gram) (hg:g.Ok) (t:Bool) (H:View):MCall Tryz.prog 186 [.agg (encG g),gb t] H fun r H'=>∀ h':Heap,h'.view=H'→FrN h' r (encB (grown09 g t)):=by
  refine MCall.of mixed S_gerundref11_grown_ok ?_
  simp (disch:=omega) only [↓wr,↓reduceIte,wq,oneV,Nat.reduceEqDiff,Nat.reduceAdd,Nat.reduceLeDiff,S_gerundref11_grown,encG,encS]
  refine CallG.pure (pc_Right09 g hg) (by kernel_rfl) ?_
  repeat' (first | (refine GoB.dec (fun _=>?_) (fun _=>?_)) | (refine GoB.eq (fun _=>?_) (fun _=>?_)) | (refine GoB.ne (fun _=>?_) (fun _=>?_)) | (refine GoB.split (fun _=>?_) (fun _=>?_)) | (simp (disch:=omega) only [↓wr,↓reduceIte,wq,goI,Nat.reduceEqDiff,Nat.reduceAdd,Nat.reduceLT,reduceCtorEq]))
  · rename_i hr
    have hf:=right09_fine hr
    obtain ⟨hN1,hN2⟩:=And.intro hf.nons1 hf.nons
    refine ⟨⟨by omega,by unfold limit; omega,by unfold limit; omega⟩,fun hz=>by omega,fun _ m hm=>?_⟩
    try simp (disch:=omega) only [↓wr,↓reduceIte,wq,oneV,intOp,goI,splice,sBuild,fillE,nilB,isNil,Nat.reduceEqDiff,Nat.reduceAdd,Nat.reduceLT,Nat.reduceLeDiff,Int.reduceNeg,Int.reduceToNat,reduceCtorEq,encG,encS]
    refine LoopG.intro (fun k T H'=>∃ (i:Nat) (is:List Bool),i+k=g.nons.length∧is.length=g.nons.length∧iter (round11 g t) k is=iter (round11 g t) g.nons.length (none11 g)∧T 1=gb t∧T 2=.fptr (encG g) 0∧T 5=.sl m 0 g.nons.length 1∧H' m=.arr 1 (encBs is)∧T 6=gi i) g.nons.length ?_ ?_
    · refine ⟨0,none11 g,by omega,by simp[none11],rfl,?_⟩
      simp (disch:=omega) only [↓wr,↓reduceIte,wq,Nat.reduceEqDiff,encG,encS]
      exact ⟨by rw[bools_rep]; rfl,rfl⟩
    · rintro k T H' ⟨i,is,hk,hlen,hi,f1,f2,f5,fm,f6⟩
      simp (disch:=omega) only [↓wr,↓reduceIte,wq,intOp,goI,Nat.reduceEqDiff,Nat.reduceAdd,Nat.reduceLT,reduceCtorEq,B_gerundref11_grown_1,f2,f6,encG,encS]
      refine GoB.dec (fun hc=>?_) (fun hc=>?_)
      · simp (disch:=omega) only [↓wr,wq]
        refine LoopG.intro (fun k' T H'=>∃ (j:Nat) (is':List Bool),j+k'=g.rules.length∧is'.length=g.nons.length∧(g.rules.drop j).foldl (step11 t) is'=round11 g t is∧T 1=gb t∧T 2=.fptr (encG g) 0∧T 5=.sl m 0 g.nons.length 1∧H' m=.arr 1 (encBs is')∧T 6=gi i∧T 7=gi j) g.rules.length ?_ ?_
        · refine ⟨0,is,by omega,hlen,rfl,?_⟩
          simp (disch:=omega) only [↓wr,↓reduceIte,wq,Nat.reduceEqDiff,f1,f2,f5,f6,fm,encG,encS]
          rfl
        · rintro k' T' H'' ⟨j,is',hk',hlen',hj,e1,e2,e5,em,e6,e7⟩
          simp (disch:=omega) only [↓wr,↓reduceIte,wq,intOp,goI,Nat.reduceEqDiff,Nat.reduceAdd,Nat.reduceLT,B_gerundref11_grown_0,e2,e7,encG]
          refine GoB.dec (fun hd=>?_) (fun hd=>?_)
          · have hle:=hf.rules
            have hg2:g.rules[j]?=some (g.rules[j]'(by omega)):=List.getElem?_eq_getElem (by omega)
            rw[drop_at (show j < g.rules.length by omega)] at hj
            have hmem:g.rules[j]'(by omega)∈g.rules:=List.getElem_mem _
            generalize g.rules[j]'(by omega)=r at hg2 hj hmem
            simp only[List.foldl_cons] at hj
            obtain ⟨hl1,hl2⟩:=hf.left r hmem
            obtain ⟨_,_,hs1,hs2⟩:=hg.rule r hmem
            have hall:=pc_all r.right is' t hs1 (fun s hs=>⟨hs2 s hs,fun hn=>by have:=hf.neg hmem hs hn; omega⟩)
            simp (disch:=omega) only [↓wr,↓reduceIte,wq,Nat.reduceEqDiff,Nat.reduceAdd,Nat.reduceLT,e1,e2,e5,e7,encG,encS,encR,List.getElem?_map,hg2]
            refine CallG.borrow hall (by kernel_rfl) (.val _) rfl (fun q hq=>?_) ?_
            · match q,hq with
              | 0,_=>exact Lent.tree (encI_tree _)
              | 1,_=>exact lent_bools em hlen'.symm
              | 2,_=>exact Lent.tree (.val _)
            · simp (disch:=omega) only [↓wr,↓reduceIte,wq]
              refine GoB.split (fun ha=>?_) (fun ha=>?_)
              · have hst:step11 t is' r=is'.set r.left.toNat true:=by rw[step11,if_pos ha]
                simp (disch:=omega) only [↓wr,↓reduceIte,wq,intOp,splice,Nat.reduceEqDiff,Nat.reduceAdd,Nat.reduceLT,Nat.reduceLeDiff,reduceCtorEq,e1,e2,e5,e6,e7,em,encG,encS,encR,List.getElem?_map,hg2,bools_get (show r.left.toNat < is'.length by omega)]
                rw[hst] at hj
                exact ⟨by omega,by omega,k' - 1,by omega,j+1,is'.set r.left.toNat true,by omega,by simp[hlen'],hj,by rw[bools_set],rfl⟩
              · have hst:step11 t is' r=is':=by rw[step11,if_neg (by rw[ha]; simp)]
                rw[hst] at hj
                simp (disch:=omega) only [↓wr,↓reduceIte,wq,intOp,Nat.reduceEqDiff,reduceCtorEq,e1,e2,e5,e6,e7]
                exact ⟨k' - 1,by omega,j+1,is',by omega,hlen',hj,by first | rfl | exact ⟨rfl,rfl⟩ | exact ⟨em,rfl⟩ | exact ⟨rfl,em,rfl⟩⟩
          · rw[List.drop_eq_nil_of_le (by omega),List.foldl_nil] at hj
            simp (disch:=omega) only [↓wr,↓reduceIte,wq,Nat.reduceEqDiff,reduceCtorEq,e1,e2,e5,e6]
            obtain ⟨q,rfl⟩:∃ q,k=q+1:=⟨k - 1,by omega⟩
            exact ⟨q,by omega,i+1,is',by omega,hlen',by rw[hj]; exact hi,rfl,em,rfl⟩
      · simp (disch:=omega) only [↓wr,↓reduceIte,wq,Nat.reduceEqDiff,reduceCtorEq,f5]
        have:k=0:=by omega
        subst this
        rintro h' rfl
        simp only[grown09,if_pos hr,← hi,iter]
        rw[← hlen]
        exact frn_bools fm
  · rename_i hr
    rintro h' rfl
    simp only[grown09,hr]
    exact .emp 1
theorem pn_grown (g:Gram) (hg:g.Ok) (t:Bool):PNew Tryz.prog 186 [.agg (encG g),gb t] (encB (grown09 g t)):=PNew.of (gb_trees g t) (mc_grown g hg t _)
theorem mc_Nullable11 (g:Gram) (hg:g.Ok) (H:View):MCall Tryz.prog 196 [.agg (encG g)] H fun r H'=>r=encB (grown09 g false)∧H'=H:=by
  refine MCall.of mixed S_gerundref11_Nullable_ok ?_
  simp (disch:=omega) only [↓wr,↓reduceIte,wq,oneV,Nat.reduceEqDiff,Nat.reduceAdd,Nat.reduceLeDiff,S_gerundref11_Nullable,encG,encS]
  refine CallG.pure (pn_grown g hg false).pure (by kernel_rfl) ?_
  simp (disch:=omega) only [↓wr,↓reduceIte,wq,reduceCtorEq]
theorem pc_Nullable11 (g:Gram) (hg:g.Ok):PCall Tryz.prog 196 [.agg (encG g)] (encB (grown09 g false)) :=
  PCall.of (gg_tree g) ((mc_Nullable11 g hg _).mono fun r H' h h' _=>by rw[h.1]; exact .tree _ (encB_tree _))
theorem mc_Productive11 (g:Gram) (hg:g.Ok) (H:View):MCall Tryz.prog 126 [.agg (encG g)] H fun r H'=>r=encB (grown09 g true)∧H'=H:=by
  refine MCall.of mixed S_gerundref11_Productive_ok ?_
  simp (disch:=omega) only [↓wr,↓reduceIte,wq,oneV,Nat.reduceEqDiff,Nat.reduceAdd,Nat.reduceLeDiff,S_gerundref11_Productive,encG,encS]
  refine CallG.pure (pn_grown g hg true).pure (by kernel_rfl) ?_
  simp (disch:=omega) only [↓wr,↓reduceIte,wq,reduceCtorEq]
theorem pc_Productive11 (g:Gram) (hg:g.Ok):PCall Tryz.prog 126 [.agg (encG g)] (encB (grown09 g true)) :=
  PCall.of (gg_tree g) ((mc_Productive11 g hg _).mono fun r H' h h' _=>by rw[h.1]; exact .tree _ (encB_tree _))
def mark (is:List Bool) (s:Int):List Bool:=if s < 0 then is.set (-1 - s).toNat true else is
def stepR (p is:List Bool) (r:Rule):List Bool:=if (is.getD r.left.toNat false && allG r.right p true)=true then r.right.foldl mark is else is
def roundR (g:Gram) (p is:List Bool):List Bool:=g.rules.foldl (stepR p) is
def reach09 (g:Gram):List Bool:=if right09 g=true then iter (roundR g (grown09 g true)) g.nons.length ((none11 g).set g.start.toNat true) else []
theorem mark_len (is:List Bool) (s:Int):(mark is s).length=is.length:=by unfold mark; split <;> simp
theorem marks_len:∀ (l:List Int) (is:List Bool),(l.foldl mark is).length=is.length
  | [],_=>rfl
  | s :: l,is=>by rw[List.foldl_cons,marks_len l,mark_len]
theorem stepR_len (p is:List Bool) (r:Rule):(stepR p is r).length=is.length:=by unfold stepR; split <;> simp[marks_len]
theorem iter_len {f:List Bool→List Bool} (hf:∀ is,(f is).length=is.length):∀ (n:Nat) (is:List Bool),(iter f n is).length=is.length
  | 0,_=>rfl
  | n+1,is=>by rw[iter,iter_len hf n,hf]
theorem fold_len {α:Type} {f:List Bool→α→List Bool} (hf:∀ is x,(f is x).length=is.length):∀ (l:List α) (is:List Bool),(l.foldl f is).length=is.length
  | [],_=>rfl
  | x :: l,is=>by rw[List.foldl_cons,fold_len hf l,hf]
theorem grown09_len {g:Gram} (h:right09 g=true) (t:Bool):(grown09 g t).length=g.nons.length:=by
  have hl:∀ is,(round11 g t is).length=is.length:=fun is=>fold_len (step11_len t) _ _
  rw[grown09,if_pos h,iter_len hl]
  simp[none11]
def B_gerundref11_Reachable_0:SC :=
  .seq (.seq (.region false [⟨none,[aa 41 8,af 42 1 7,ae 43 42,aj 44 43,ak 45 .lss 41 44,aa 46 45]⟩,⟨(some (46,true)),[aa 47 4,af 48 0 7,ae 49 48,av 50 1 47 49,ae 51 50]⟩,⟨none,[az 52 46 51,aa 53 52]⟩,⟨(some (53,true)),[af 54 1 7,ae 55 54,aa 56 3,aD 57 128 [(.tmp 55),(.tmp 56),(.val (.val (.bool true)))]]⟩,⟨none,[az 58 53 57]⟩]) <|
  .cond (.tmp 58) (.skip) (.exit 4)) <|
  .seq (.block 5 (.seq (ab [af 61 1 7,ae 62 61,aa 63 8,av 64 1 62 63,ae 65 64,ah 66 .lss 65 0]) <|
  .cond (.tmp 66) (ab [aa 67 4,af 68 1 7,ae 69 68,aa 70 8,av 71 1 69 70,ae 72 71,((some 73),.op (.arith .sub (.val (.val (.int .i64 (-1)))) (.tmp 72))),av 74 1 67 73,(none,.op (.store 1 (.tmp 74) (.val (.val (.bool true)))))]) (.skip))) <|
  ab [aa 59 8,ah 60 .add 59 1,aa 8 60]
def B_gerundref11_Reachable_1:SC :=
  .seq (.seq (ab [aa 29 6,af 30 2 1,ae 31 30,aj 32 31,ak 33 .lss 29 32]) <|
  .cond (.tmp 33) (.skip) (.exit 2)) <|
  .seq (.block 3 (.seq (ab [af 36 2 1,ae 37 36,aa 38 6,av 39 3 37 38,au 40 3 39,((some 7),.op (.alloc [(.val (.int .i64 0)),(.emp 1),(.val (.int .i64 0))])),(none,.op (.store 3 (.tmp 7) (.tmp 40)))]) <|
  .seq (ab [ai 8 0]) <|
  .block 4 (.loop B_gerundref11_Reachable_0))) <|
  ab [aa 34 6,ah 35 .add 34 1,aa 6 35]
def B_gerundref11_Reachable_2:SC :=
  .seq (.seq (ab [aa 22 5,af 23 1 1,ae 24 23,aj 25 24,ak 26 .lss 22 25]) <|
  .cond (.tmp 26) (.skip) (.exit 0)) <|
  .seq (.block 1 (.seq (ab [ai 6 0]) <|
  .block 2 (.loop B_gerundref11_Reachable_1))) <|
  ab [aa 27 5,ah 28 .add 27 1,aa 5 28]
def S_gerundref11_Reachable:SF:=⟨.seq (ab [aC 1 0,((some 2),.op (.mov (.val (.emp 1))))]) <|
  .seq (.seq (ab [au 9 4 1,ao 10 66 [9],aB 11 10]) <|
  .cond (.tmp 11) (.seq (ab [((some 2),.op (.mov (.val (.emp 1))))]) <|
  .ret) (.skip)) <|
  .seq (ab [au 12 4 1,ao 13 126 [12],aa 3 13]) <|
  .seq (ab [af 14 1 1,ae 15 14,aj 16 15,((some 17),.op (.make 1 1 [(.val (.bool false))] (.tmp 16) (.tmp 16))),aa 4 17]) <|
  .seq (ab [aa 18 4,af 19 3 1,ae 20 19,av 21 1 18 20,(none,.op (.store 1 (.tmp 21) (.val (.val (.bool true)))))]) <|
  .seq (.seq (ab [ai 5 0]) <|
  .block 0 (.loop B_gerundref11_Reachable_2)) <|
  .seq (ab [aa 75 4,aa 2 75]) <|
  .ret,
  [.tmp 2],76⟩
theorem S_gerundref11_Reachable_ok:compF Tryz.prog 127 [1]=some S_gerundref11_Reachable:=by kernel_rfl
theorem set_true {l:List Bool} {i j:Nat} (h:l.getD j false=true):(l.set i true).getD j false=true:=by
  simp only[List.getD_eq_getElem?_getD,List.getElem?_set] at h ⊢
  by_cases e:i=j
  · subst e
    by_cases hi:i < l.length
    · simp[hi]
    · rw[List.getElem?_eq_none (by omega)] at h; simp at h
  · rw[if_neg e]; exact h
theorem ne_fresh {H:View} {m n:Nat} {o:AObj} (hm:H m=o) (hn:H n=.dead) (ho:o≠.dead):m≠n:=by rintro rfl; exact ho (hm.symm.trans hn)
set_option maxHeartbeats 4000000 in
theorem mc_Reachable11 (g:Gram) (hg:g.Ok) (H:View):MCall Tryz.prog 127 [.agg (encG g)] H fun r H'=>∀ h':Heap,h'.view=H'→FrN h' r (encB (reach09 g)):=by
  refine MCall.of mixed S_gerundref11_Reachable_ok ?_
  simp (disch:=omega) only [↓wr,↓reduceIte,wq,oneV,Nat.reduceEqDiff,Nat.reduceAdd,Nat.reduceLeDiff,S_gerundref11_Reachable,encG,encS]
  refine CallG.pure (pc_Right09 g hg) (by kernel_rfl) ?_
  repeat' (first | (refine GoB.dec (fun _=>?_) (fun _=>?_)) | (refine GoB.eq (fun _=>?_) (fun _=>?_)) | (refine GoB.ne (fun _=>?_) (fun _=>?_)) | (refine GoB.split (fun _=>?_) (fun _=>?_)) | (simp (disch:=omega) only [↓wr,↓reduceIte,wq,Nat.reduceEqDiff,Nat.reduceAdd,Nat.reduceLeDiff,reduceCtorEq]))
  · rename_i hr
    have hf:=right09_fine hr
    obtain ⟨hN1,hN2⟩:=And.intro hf.nons1 hf.nons
    refine CallG.pure (pc_Productive11 g hg) (by kernel_rfl) ?_
    have hpl:=grown09_len hr true
    have hreach:reach09 g=iter (roundR g (grown09 g true)) g.nons.length ((none11 g).set g.start.toNat true):=by rw[reach09,if_pos hr]
    generalize grown09 g true=p at hpl hreach
    have hst:=hf.start0
    have hst2:=hf.start
    have hrep:List.replicate g.nons.length [V.val (Value.bool false)]=encBs (none11 g):=bools_rep _ _
    have hnl:(none11 g).length=g.nons.length:=by simp[none11]
    simp (disch:=omega) only [↓wr,↓reduceIte,wq,goI,splice,Nat.reduceEqDiff,Nat.reduceAdd,Nat.reduceLT,Nat.reduceLeDiff]
    refine ⟨⟨by omega,by unfold limit; omega,by unfold limit; omega⟩,fun hz=>by omega,fun _ m hm=>?_⟩
    rw[hrep]
    have hgs:(encBs (none11 g)).getD g.start.toNat []=[gb ((none11 g)[g.start.toNat]'(by omega))]:=bools_get (by omega)
    simp (disch:=omega) only [wq]
    refine ⟨by omega,by omega,?_⟩
    refine LoopG.intro (fun k T H'=>∃ (i:Nat) (is:List Bool),i+k=g.nons.length∧is.length=g.nons.length∧iter (roundR g p) k is=reach09 g∧T 1=.fptr (encG g) 0∧T 3=encB p∧T 4=.sl m 0 g.nons.length 1∧H' m=.arr 1 (encBs is)∧T 5=gi i) g.nons.length ?_ ?_
    · refine ⟨0,(none11 g).set g.start.toNat true,by omega,by simp[hnl],hreach.symm,?_⟩
      simp (disch:=omega) only [↓wr,↓reduceIte,wq,Nat.reduceEqDiff,encG,encS]
      rw[hgs]
      exact ⟨by rw[← bools_set]; rfl,rfl⟩
    · rintro k T H' ⟨i,is,hk,hlen,hi,f1,f3,f4,fm,f5⟩
      simp (disch:=omega) only [↓wr,↓reduceIte,wq,intOp,goI,Nat.reduceEqDiff,Nat.reduceAdd,Nat.reduceLT,reduceCtorEq,B_gerundref11_Reachable_2,f1,f5,encG,encS]
      refine GoB.dec (fun hc=>?_) (fun hc=>?_)
      · simp (disch:=omega) only [↓wr,wq]
        refine LoopG.intro (fun k' T H'=>∃ (j:Nat) (is':List Bool),j+k'=g.rules.length∧is'.length=g.nons.length∧(g.rules.drop j).foldl (stepR p) is'=roundR g p is∧T 1=.fptr (encG g) 0∧T 3=encB p∧T 4=.sl m 0 g.nons.length 1∧H' m=.arr 1 (encBs is')∧T 5=gi i∧T 6=gi j) g.rules.length ?_ ?_
        · refine ⟨0,is,by omega,hlen,rfl,?_⟩
          simp (disch:=omega) only [↓wr,↓reduceIte,wq,Nat.reduceEqDiff,f1,f3,f4,f5,fm,encG,encS]
          first | done | exact ⟨rfl,rfl⟩ | rfl
        · rintro k' T' H'' ⟨j,is',hk',hlen',hj,e1,e3,e4,em,e5,e6⟩
          simp (disch:=omega) only [↓wr,↓reduceIte,wq,intOp,goI,Nat.reduceEqDiff,Nat.reduceAdd,Nat.reduceLT,B_gerundref11_Reachable_1,e1,e6,encG]
          refine GoB.dec (fun hd=>?_) (fun hd=>?_)
          · have hle:=hf.rules
            have hg2:g.rules[j]?=some (g.rules[j]'(by omega)):=List.getElem?_eq_getElem (by omega)
            rw[drop_at (show j < g.rules.length by omega)] at hj
            have hmem:g.rules[j]'(by omega)∈g.rules:=List.getElem_mem _
            generalize g.rules[j]'(by omega)=r at hg2 hj hmem
            simp only[List.foldl_cons] at hj
            obtain ⟨hl1,hl2⟩:=hf.left r hmem
            obtain ⟨_,_,hs1,hs2⟩:=hg.rule r hmem
            have hr6:=hf.right r hmem
            have hall:=pc_all r.right p true hs1 (fun s hs=>⟨hs2 s hs,fun hn=>by have:=hf.neg hmem hs hn; omega⟩)
            simp (disch:=omega) only [↓wr,↓reduceIte,wq,splice,Nat.reduceEqDiff,Nat.reduceAdd,Nat.reduceLT,Nat.reduceLeDiff,e1,e6,encG,encS,encR,encI,List.getElem?_map,hg2]
            intro b hb
            have hne:m≠b:=ne_fresh em hb (by simp)
            try simp (disch:=omega) only [↓wr,↓reduceIte,wq,oneV,intOp,goI,splice,sBuild,fillE,nilB,isNil,Nat.reduceEqDiff,Nat.reduceAdd,Nat.reduceLT,Nat.reduceLeDiff,Int.reduceNeg,Int.reduceToNat,reduceCtorEq,e1,e3,e4,e5,e6,encG,encS,encR,encI]
            refine LoopG.intro (fun q T H'=>∃ (a:Nat) (is3:List Bool),a+q=r.right.length∧is3.length=g.nons.length∧(r.right.drop a).foldl mark is3=r.right.foldl mark is'∧((a=0∧is3=is')∨((is'.getD r.left.toNat false && allG r.right p true)=true∧is3.getD r.left.toNat false=true)) ∧
              T 1=.fptr (encG g) 0∧T 3=encB p∧T 4=.sl m 0 g.nons.length 1∧H' m=.arr 1 (encBs is3)∧T 5=gi i∧T 6=gi j∧T 7=.ptr b 0 0∧H' b=.arr 3 [encR r]∧T 8=gi a) r.right.length ?_ ?_
            · refine ⟨0,is',by omega,hlen',rfl,.inl ⟨rfl,rfl⟩,?_⟩
              simp (disch:=omega) only [↓wr,↓reduceIte,wq,Nat.reduceEqDiff,Nat.reduceAdd,e1,e3,e4,e5,e6,em,hne,encG,encS,encR]
              exact ⟨rfl,rfl⟩
            · rintro q T3 H3 ⟨a,is3,hq,hlen3,ha,hcase,d1,d3,d4,dm,d5,d6,d7,db,d8⟩
              simp (disch:=omega) only [↓wr,↓reduceIte,wq,intOp,goI,Nat.reduceEqDiff,Nat.reduceAdd,Nat.reduceLT,Int.reduceNeg,B_gerundref11_Reachable_0,d7,d8,db,encR,encI]
              have hgl:is3[r.left.toNat]?=some (is3[r.left.toNat]'(by omega)):=List.getElem?_eq_getElem (by omega)
              have hgl2:is3.getD r.left.toNat false=is3[r.left.toNat]'(by omega):=by simp[List.getD_eq_getElem?_getD,hgl]
              have hbg:=bools_get (show r.left.toNat < is3.length by omega)
              have hoff:(is'.getD r.left.toNat false && allG r.right p true)=false→stepR p is' r=is3:=fun hW=>by
                rcases hcase with ⟨_,rfl⟩ | ⟨h1,_⟩
                · rw[stepR,hW]; rfl
                · rw[hW] at h1; simp at h1
              generalize is3[r.left.toNat]'(by omega)=tl at hgl hgl2 hbg
              refine GoB.dec (fun ht=>?_) (fun ht=>?_)
              · have hg3:r.right[a]?=some (r.right[a]'(by omega)):=List.getElem?_eq_getElem (by omega)
                rw[drop_at (show a < r.right.length by omega)] at ha
                have hms:r.right[a]'(by omega)∈r.right:=List.getElem_mem _
                generalize r.right[a]'(by omega)=s at hg3 ha hms
                simp only[List.foldl_cons] at ha
                have hin:=hs2 s hms
                simp (disch:=omega) only [↓wr,↓reduceIte,wq,Nat.reduceEqDiff,Nat.reduceAdd,Nat.reduceLT,Int.reduceNeg,d4,d7,db,dm,encR,encI,hbg]
                refine ⟨by omega,by omega,?_⟩
                refine GoB.split (fun htl=>?_) (fun htl=>?_)
                · simp (disch:=omega) only [↓wr,↓reduceIte,wq,Nat.reduceEqDiff,Nat.reduceAdd,Nat.reduceLT,Int.reduceNeg,d3,d7,db,encR,encI]
                  refine CallG.pure hall (by kernel_rfl) ?_
                  simp (disch:=omega) only [↓wr,↓reduceIte,wq,Nat.reduceEqDiff,Int.reduceNeg]
                  refine GoB.split (fun hal=>?_) (fun hal=>?_)
                  · simp (disch:=omega) only [↓wr,↓reduceIte,wq,intOp,Nat.reduceEqDiff,Nat.reduceAdd,Nat.reduceLT,Int.reduceNeg,d7,d8,db,encR,encI,List.getElem?_map,hg3]
                    have hW:(is'.getD r.left.toNat false && allG r.right p true)=true∧is3.getD r.left.toNat false=true:=by
                      rcases hcase with ⟨_,rfl⟩ | h1
                      · exact ⟨by rw[hgl2,htl,hal]; rfl,by rw[hgl2,htl]⟩
                      · exact h1
                    refine GoB.dec (fun hsn=>?_) (fun hsn=>?_)
                    · have hng:=hf.neg hmem hms hsn
                      have hin1:=hin.1
                      have hms2:mark is3 s=is3.set (-1 - s).toNat true:=by rw[mark,if_pos hsn]
                      simp (disch:=omega) only [↓wr,↓reduceIte,wq,intOp,splice,Nat.reduceEqDiff,Nat.reduceAdd,Nat.reduceLT,Nat.reduceLeDiff,Int.reduceNeg,reduceCtorEq,d1,d3,d4,d5,d6,d7,d8,db,dm,encR,encI,List.getElem?_map,hg3,bools_get (show (-1 - s).toNat < is3.length by omega),hne.symm]
                      rw[hms2] at ha
                      exact ⟨by omega,by omega,q - 1,by omega,a+1,is3.set (-1 - s).toNat true,by omega,by simp[hlen3],ha,.inr ⟨hW.1,set_true hW.2⟩,by rw[bools_set],by first | rfl | exact ⟨rfl,rfl⟩⟩
                    · have hms2:mark is3 s=is3:=by rw[mark,if_neg hsn]
                      rw[hms2] at ha
                      simp (disch:=omega) only [↓wr,↓reduceIte,wq,intOp,Nat.reduceEqDiff,reduceCtorEq,d1,d3,d4,d5,d6,d7,d8,db,dm]
                      exact ⟨q - 1,by omega,a+1,is3,by omega,hlen3,ha,.inr hW,by first | rfl | exact ⟨rfl,rfl⟩ | exact ⟨rfl,rfl,rfl⟩⟩
                  · simp (disch:=omega) only [↓wr,↓reduceIte,wq,Nat.reduceEqDiff,reduceCtorEq,d1,d3,d4,d5,d6,dm]
                    have hst:=hoff (by rw[hal,Bool.and_false])
                    exact ⟨k' - 1,by omega,j+1,is3,by omega,hlen3,by rw[← hst]; exact hj,rfl,rfl,rfl⟩
                · simp (disch:=omega) only [↓wr,↓reduceIte,wq,Nat.reduceEqDiff,Int.reduceNeg,reduceCtorEq,d1,d3,d4,d5,d6,dm]
                  have hst:stepR p is' r=is3:=by
                    rcases hcase with ⟨_,rfl⟩ | ⟨_,h1⟩
                    · rw[stepR,hgl2,htl]; rfl
                    · rw[hgl2,htl] at h1; simp at h1
                  exact ⟨k' - 1,by omega,j+1,is3,by omega,hlen3,by rw[← hst]; exact hj,rfl,rfl,rfl⟩
              · simp (disch:=omega) only [↓wr,↓reduceIte,wq,Nat.reduceEqDiff,Int.reduceNeg,reduceCtorEq,d1,d3,d4,d5,d6,dm]
                rw[List.drop_eq_nil_of_le (by omega),List.foldl_nil] at ha
                have hst:stepR p is' r=is3:=by
                  rcases hcase with ⟨h0,rfl⟩ | ⟨h1,_⟩
                  · unfold stepR
                    split
                    · exact ha.symm
                    · rfl
                  · rw[stepR,if_pos h1]; exact ha.symm
                exact ⟨k' - 1,by omega,j+1,is3,by omega,hlen3,by rw[← hst]; exact hj,rfl,rfl,rfl⟩
          · rw[List.drop_eq_nil_of_le (by omega),List.foldl_nil] at hj
            simp (disch:=omega) only [↓wr,↓reduceIte,wq,Nat.reduceEqDiff,reduceCtorEq,e1,e3,e4,e5]
            obtain ⟨q,rfl⟩:∃ q,k=q+1:=⟨k - 1,by omega⟩
            exact ⟨q,by omega,i+1,is',by omega,hlen',by rw[hj]; exact hi,rfl,em,rfl⟩
      · simp (disch:=omega) only [↓wr,↓reduceIte,wq,Nat.reduceEqDiff,reduceCtorEq,f4]
        have:k=0:=by omega
        subst this
        rintro h' rfl
        simp only[← hi,iter]
        rw[← hlen]
        exact frn_bools fm
  · rename_i hr
    rintro h' rfl
    simp only[reach09,hr]
    exact .emp 1
theorem pn_Reachable11 (g:Gram) (hg:g.Ok):PNew Tryz.prog 127 [.agg (encG g)] (encB (reach09 g)):=PNew.of (gg_tree g) (mc_Reachable11 g hg _)
def D_lex_inner:DF:=⟨.seq (ag [aw 2 false]) <|
  .seq (.region [] [⟨none,[aa 3 0,ao 4 164 [3],aa 5 4]⟩,⟨(some (5,false)),[aa 6 0,((some 7),.op (.arith .eql (.tmp 6) (.val (.val (.int .u8 46)))))]⟩,⟨none,[ay 8 5 7,aa 9 8]⟩,⟨(some (9,false)),[aa 10 0,((some 11),.op (.arith .geq (.tmp 10) (.val (.val (.int .u8 48))))),aa 12 11]⟩,⟨(some (12,true)),[aa 13 0,((some 14),.op (.arith .leq (.tmp 13) (.val (.val (.int .u8 57)))))]⟩,⟨(some (9,false)),[az 15 12 14]⟩,⟨none,[ay 16 9 15,aa 2 16]⟩]) <|
  .ret,
  [.tmp 2],17⟩
theorem D_lex_inner_ok:compDF Tryz.prog 165 []=some D_lex_inner:=by kernel_rfl
def D_lex_letter:DF:=⟨.seq (ag [aw 2 false]) <|
  .seq (.region [] [⟨none,[aa 3 0,((some 4),.op (.arith .eql (.tmp 3) (.val (.val (.int .u8 95))))),aa 5 4]⟩,⟨(some (5,false)),[aa 6 0,((some 7),.op (.arith .or (.tmp 6) (.val (.val (.int .u8 32))))),((some 8),.op (.arith .geq (.tmp 7) (.val (.val (.int .u8 97))))),aa 9 8]⟩,⟨(some (9,true)),[aa 10 0,((some 11),.op (.arith .or (.tmp 10) (.val (.val (.int .u8 32))))),((some 12),.op (.arith .leq (.tmp 11) (.val (.val (.int .u8 122)))))]⟩,⟨(some (5,false)),[az 13 9 12]⟩,⟨none,[ay 14 5 13,aa 2 14]⟩]) <|
  .ret,
  [.tmp 2],15⟩
theorem D_lex_letter_ok:compDF Tryz.prog 164 []=some D_lex_letter:=by kernel_rfl
def D_lex_plain:DF:=⟨.seq (ag [aw 2 false]) <|
  .seq (.region [] [⟨none,[aa 3 0,((some 4),.op (.arith .geq (.tmp 3) (.val (.val (.int .u8 32))))),aa 5 4]⟩,⟨(some (5,true)),[aa 6 0,((some 7),.op (.arith .leq (.tmp 6) (.val (.val (.int .u8 126)))))]⟩,⟨none,[az 8 5 7,aa 9 8]⟩,⟨(some (9,true)),[aa 10 0,((some 11),.op (.arith .neq (.tmp 10) (.val (.val (.int .u8 39)))))]⟩,⟨none,[az 12 9 11,aa 13 12]⟩,⟨(some (13,true)),[aa 14 0,((some 15),.op (.arith .neq (.tmp 14) (.val (.val (.int .u8 92)))))]⟩,⟨none,[az 16 13 15,aa 2 16]⟩]) <|
  .ret,
  [.tmp 2],17⟩
theorem D_lex_plain_ok:compDF Tryz.prog 261 []=some D_lex_plain:=by kernel_rfl
def D_lex_escaped:DF:=⟨.seq (ag [aw 2 false]) <|
  .seq (.region [] [⟨none,[aa 3 0,((some 4),.op (.arith .eql (.tmp 3) (.val (.val (.int .u8 110))))),aa 5 4]⟩,⟨(some (5,false)),[aa 6 0,((some 7),.op (.arith .eql (.tmp 6) (.val (.val (.int .u8 116)))))]⟩,⟨none,[ay 8 5 7,aa 9 8]⟩,⟨(some (9,false)),[aa 10 0,((some 11),.op (.arith .eql (.tmp 10) (.val (.val (.int .u8 92)))))]⟩,⟨none,[ay 12 9 11,aa 13 12]⟩,⟨(some (13,false)),[aa 14 0,((some 15),.op (.arith .eql (.tmp 14) (.val (.val (.int .u8 39)))))]⟩,⟨none,[ay 16 13 15,aa 2 16]⟩]) <|
  .ret,
  [.tmp 2],17⟩
theorem D_lex_escaped_ok:compDF Tryz.prog 262 []=some D_lex_escaped:=by kernel_rfl
def tabLex:List (FuncId × DF):=[(165,D_lex_inner),(164,D_lex_letter),(261,D_lex_plain),(262,D_lex_escaped)]
theorem tabLex_ok:TabOk Tryz.prog tabLex:=by
  intro p hp
  simp only[tabLex,List.mem_cons,List.not_mem_nil,or_false] at hp
  rcases hp with rfl | rfl | rfl | rfl
  · exact ⟨_,D_lex_inner_ok⟩
  · exact ⟨_,D_lex_letter_ok⟩
  · exact ⟨_,D_lex_plain_ok⟩
  · exact ⟨_,D_lex_escaped_ok⟩
theorem noExt (P:Program):ExtSound P (fun _ _ _=>none):=fun _ _ _ _ h=>by simp at h
def isB (o:Option V) (b:Bool):Bool:=match o with
  | some (.val (.bool c))=>c == b
  | _=>false
theorem isB_ok {o:Option V} {b:Bool} (h:isB o b=true):o=some (gb b):=by
  unfold isB at h
  split at h
  · rw[beq_iff_eq] at h; rw[h]
  · simp at h
noncomputable def byteOk (tab:List (FuncId × DF)) (f:FuncId) (p:Int→Bool):Bool:=(List.range 256).all fun c=>isB (eClosed Tryz.prog tab (fun _ _ _=>none) f [gy (c:Int)]) (p (c:Int))
theorem byte_run {tab:List (FuncId × DF)} (ht:TabOk Tryz.prog tab) {f:FuncId} {p:Int→Bool} (h:byteOk tab f p=true) (c:Int) (h0:0≤c) (h1:c≤255):PCall Tryz.prog f [gy c] (gb (p c)):=by
  have:=List.all_eq_true.1 h c.toNat (by simp; omega)
  rw[show ((c.toNat:Nat):Int)=c by omega] at this
  exact (eClosed_ok mixed ht (noExt _) (by intro v hv; simp at hv; subst hv; exact .val _) (isB_ok this)).pure
def plainB (c:Int):Bool:=decide (32≤c) && decide (c≤126) && c != 39 && c != 92
def escB (c:Int):Bool:=c == 110 || c == 116 || c == 92 || c == 39
theorem run_letter:byteOk tabLex 164 firstB=true:=by kernel_rfl
theorem run_inner:byteOk tabLex 165 laterB=true:=by kernel_rfl
theorem run_plain:byteOk tabLex 261 plainB=true:=by kernel_rfl
theorem run_esc:byteOk tabLex 262 escB=true:=by kernel_rfl
theorem bts_range {s:ByteArray} {c:Int} (h:c∈bts s):0≤c∧c≤255:=by
  unfold bts at h
  obtain ⟨b,_,rfl⟩:=List.mem_map.1 h
  have:=b.toNat_lt
  omega
theorem bytesE_eq (s:ByteArray):bytesE s=(bts s).map fun x=>[gy x]:=by simp[bytesE,bts]
end Gv
