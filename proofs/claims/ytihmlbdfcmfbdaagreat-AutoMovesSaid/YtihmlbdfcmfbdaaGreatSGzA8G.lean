/-
  Part 7 of the proof: what the machine does and what the functions answer.
  Conditions: those that each lemma names.
-/
import Derived.Test.YtihmlbdfcmfbdaaGreatSGzA8F
set_option linter.unusedSimpArgs false
set_option linter.unusedVariables false
set_option maxRecDepth 100000
namespace Gv
open Go Go.Proofs
section
variable {P:Program} {n:Nat} {all:List Oper}
def gw (h:aB) (e:ES):Prop:=e.V=h.view∧e.n=h.length
def Calm (e e':ES) (h h':aB):Prop:=h.length≤h'.length∧(∀ id,id < h.length→¬ id∈e'.w→h'.view id=h.view id∧¬ id∈e.w)
theorem Calm.trans {a b c:ES} {h1 h2 h3:aB} (x:Calm a b h1 h2) (y:Calm b c h2 h3):Calm a c h1 h3 :=
  ⟨Nat.le_trans x.1 y.1,fun id hid hw =>
    let ⟨e1,d1⟩:=y.2 id (Nat.lt_of_lt_of_le hid x.1) hw
    let ⟨e2,d2⟩:=x.2 id hid d1
    ⟨e1.trans e2,d2⟩⟩
theorem Calm.refl (e:ES) (h:aB):Calm e e h h:=⟨Nat.le_refl _,fun _ _ hw=>⟨rfl,hw⟩⟩
def jh (P:Program) (call:fV):Prop:=∀ g vs e v e' h,call g vs e=some (v,e')→gw h e →
  cR P g=true∧∃ h',bw P g vs h v h'∧gw h' e'∧(∀ id,id < h.length→¬ id∈e'.w→h'.view id=h.view id)∧∀ id,id∈e'.w→id < h.length
def sO (P:Program) (run:tI):Prop:=∀ (n:Nat) (fz:List Nat) (c:Code) (sc:DC),gN P n fz c=some sc→n≤8000→∀ (e e':ES) (r:Exit) (h:aB),run sc e=some (r,e')→gw h e →
  ∃ h',cq P n c e.T h r e'.T h'∧gw h' e'∧Calm e e' h h'∧∀ c0,c=.loop c0→mV P n c0 e.T h r e'.T h'
theorem IA {h:aB} {e:ES} {d:Option Nat} {v:V} (he:gw h e):gw h (e.put d v):=by cases d <;> exact he
theorem Mf {e:ES} {d:Option Nat} {v:V} : (e.put d v).w=e.w:=by cases d <;> rfl
theorem Lb {h:aB} {e e':ES} {h':aB} {d:Option Nat} {v:V} (x:Calm e e' h h'):Calm e (e'.put d v) h h':=⟨x.1,fun id hid hw=>x.2 id hid (by rw[Mf] at hw; exact hw)⟩
theorem zC {a:Nat} (h:Nat.ble a 8000=true):a+1 < 2 ^ 13:=by
  have:=Nat.le_of_ble_eq_true h
  omega
theorem Mx {h:aB} {e e':ES} {v v':V} {eff:aY} {rd:List Nat} {c:Rec} (he:gw h e) (hx:CW v eff rd e=some (v',e',c)) :
    v'=v∧e'.T=e.T∧e'.V=eff.view h.view h.length∧e'.n=(eff.apply h).length∧c=⟨rd,eff.wr,false,h.length,(eff.apply h).length⟩∧e'.w=eff.wr ++ e.w:=by
  obtain ⟨h1,h2⟩:=he
  unfold CW at hx
  cases eff with
  | none =>
    simp only[Option.some.injEq,Prod.mk.injEq] at hx
    obtain ⟨rfl,rfl,rfl⟩:=hx
    exact ⟨rfl,rfl,h1,h2,by rw[h2]; rfl,rfl⟩
  | new o =>
    simp only at hx
    split at hx
    · rename_i hb
      simp only[Option.some.injEq,Prod.mk.injEq] at hx
      obtain ⟨rfl,rfl,rfl⟩:=hx
      refine ⟨rfl,rfl,?_,by simp[fh,h2],by simp[fh,h2,aY.wr],rfl⟩
      funext k
      simp only[ES.V,aY.view,View.set]
      rw[bX.kP _ _ _ _ _ _ (zC hb),h2]
      have:=congrFun h1 k
      simp only[ES.V] at this
      rw[this]
    · simp at hx
  | eC id o =>
    simp only at hx
    split at hx
    · rename_i hb
      simp only[Option.some.injEq,Prod.mk.injEq] at hx
      obtain ⟨rfl,rfl,rfl⟩:=hx
      refine ⟨rfl,rfl,?_,by simp[fh,h2],by simp[fh,h2,aY.wr],rfl⟩
      funext k
      simp only[ES.V,aY.view,View.set]
      rw[bX.kP _ _ _ _ _ _ (zC hb)]
      have:=congrFun h1 k
      simp only[ES.V] at this
      rw[this]
    · simp at hx
  | bj id o =>
    simp only at hx
    split at hx
    · rename_i hb1 hb2
      simp only[Option.some.injEq,Prod.mk.injEq] at hx
      obtain ⟨rfl,rfl,rfl⟩:=hx
      refine ⟨rfl,rfl,?_,by simp[fh,h2],by simp[fh,h2,aY.wr],rfl⟩
      funext k
      simp only[ES.V,aY.view,View.set]
      rw[bX.kP _ _ _ _ _ _ (zC hb1),bX.kP _ _ _ _ _ _ (zC hb2),h2]
      have:=congrFun h1 k
      simp only[ES.V] at this
      rw[this]
    · simp at hx
theorem NU {o:Oper} {e e':ES} {h:aB} {s:SI} {v:V} {c:Rec} (hg:cM n all e.T o=some true) (hc:∀ v eff rd,sI P s e.T h.view h.length=some (v,eff,rd)→bT P o e.T h.view h.length=some (v,eff,rd))
    (he:gw h e) (hx:IH P s e=some (v,e',c)):∃ h',c5 P n all o e.T h v h' c.rd c.wr c.call∧gw h' e'∧e'.T=e.T∧Calm e e' h h'∧jb (qc P s) c.rd c.wr c.call h.length h'.length∧c.lo=h.length∧c.hi=h'.length:=by
  unfold IH at hx
  rw[Hq,he.1,he.2] at hx
  split at hx
  · rename_i v0 eff rd hs
    obtain ⟨rfl,g1,g2,g3,rfl,g5⟩:=Mx he hx
    have ha:=hc _ _ _ hs
    have st:=c5.op (P:=P) (n:=n) (all:=all) hg ha
    refine ⟨eff.apply h,st,⟨?_,g3⟩,g1,⟨qk st,fun id hid hw=>?_⟩,⟨fun h0=>?_,fun h1=>?_⟩,rfl,rfl⟩
    · rw[jJ (fun id hid=>(km ha id hid).1)]; exact g2
    · rw[g5] at hw
      simp only[List.mem_append,not_or] at hw
      exact ⟨oH st hid hw.1,hw.2⟩
    · obtain ⟨rfl,rfl⟩:=(oV hs).1 h0
      exact ⟨rfl,rfl,rfl,rfl⟩
    · rcases Nat.lt_or_ge (qc P s) 1 with h2 | h2
      · obtain ⟨rfl,rfl⟩:=(oV hs).1 (by omega); rfl
      · exact (oV hs).2 (by omega)
  · simp at hx
theorem Of {call:fV} (hcall:jh P call) {fz:Fz} {o:Oper} {e e':ES} {h:aB} {v:V} {c:Rec} (hg:cM n all e.T o=some true) (he:gw h e) (hx:eB P call (lO P fz o) e=some (v,e',c)) :
    ∃ h',c5 P n all o e.T h v h' c.rd c.wr c.call∧gw h' e'∧e'.T=e.T∧Calm e e' h h'∧jb (gK P false (lO P fz o)) c.rd c.wr c.call h.length h'.length∧c.lo=h.length∧c.hi=h'.length:=by
  rcases wx P fz o with ⟨f,args,ats,ho,hc⟩ | ⟨t,x,ho,hc⟩ | ⟨s,d,x,ho,hcv,hc⟩ | hc
  · rw[hc] at hx ⊢
    simp only[eB,Ja] at hx
    split at hx
    · rename_i g first cap hf
      rw[CN] at hx
      rw[SX.ca] at hf
      split at hx
      · rename_i v0 e0 hv
        obtain ⟨hok,h',hr,hek,hd,hd2⟩:=hcall _ _ _ _ _ _ hv he
        simp only[Option.some.injEq,Prod.mk.injEq] at hx
        obtain ⟨rfl,rfl,rfl⟩:=hx
        exact ⟨h',.call hg ho hf hok hr hd hd2,hek,rfl,⟨hr.1,fun id hid hw=>by
          simp only[List.mem_append,not_or] at hw
          exact ⟨hd id hid hw.1,hw.2⟩⟩,L4 (by simp[gK]),he.2,hek.2⟩
      · simp at hx
    · simp at hx
  · rw[hc] at hx ⊢
    simp only[eB,IH,Hq,sI,SX.ca] at hx
    split at hx
    · rename_i v0 eff rd hs
      split at hs
      · rename_i hok
        simp only[Option.some.injEq,Prod.mk.injEq] at hs
        obtain ⟨rfl,rfl,rfl⟩:=hs
        simp only[CW,Option.some.injEq,Prod.mk.injEq] at hx
        obtain ⟨rfl,rfl,rfl⟩:=hx
        exact ⟨h,.gV hg ho hok,he,rfl,Calm.refl _ _,⟨fun _=>⟨rfl,rfl,rfl,rfl⟩,fun _=>rfl⟩,he.2,he.2⟩
      · simp at hs
    · simp at hx
  · rw[hc] at hx ⊢
    obtain ⟨ty,h1,h2,h3⟩:=wW hcv
    simp only[eB,IH,Hq,sI,SX.ca] at hx
    split at hx
    · rename_i v0 eff rd hs
      split at hs
      · rename_i st hst
        simp only[Option.some.injEq,Prod.mk.injEq] at hs
        obtain ⟨rfl,rfl,rfl⟩:=hs
        simp only[CW,Option.some.injEq,Prod.mk.injEq] at hx
        obtain ⟨rfl,rfl,rfl⟩:=hx
        exact ⟨h,.eS hg ho h1 h2 h3 hst,he,rfl,Calm.refl _ _,⟨fun _=>⟨rfl,rfl,rfl,rfl⟩,fun _=>rfl⟩,he.2,he.2⟩
      · simp at hs
    · simp at hx
  · rw[hc] at hx ⊢
    exact NU (s:=uv P fz.fr (comp P o)) hg (fun v eff rd hs=>Gk (Fw hs)) he hx
theorem ND {o:Oper} (hd:oQ n o=true) (hn:n≤8000):∀ t,o.dst=some t→t < 8000:=by
  intro t ht
  unfold oQ at hd
  rw[ht] at hd
  have:t < n:=by simpa using hd
  exact Nat.lt_of_lt_of_le this hn
theorem Mz {c:Rec} {a b:Nat} (h1:c.lo=a) (h2:c.hi=b):c=⟨c.rd,c.wr,c.call,a,b⟩:=by cases c; subst h1; subst h2; rfl
theorem CZ {call:fV} (hcall:jh P call) (hn:n≤8000) {fz:Fz} (g:Option (Nat × Bool)):∀ (l:List (Option Nat × SB)) (os:List Oper) (e e':ES) (h:aB) (a a':List Rec),
    cU P n all fz os=some (l.map fun (d,b)=>⟨d,g,b⟩)→(∀ d w,g=some (d,w)→e.T d=.val (.bool w)∧(l.all fun x=>x.1 != some d)=true)→gw h e→FW P call l a e=some (e',a') →
    ∃ recs h',a'=a ++ recs∧Tr P n all os e.T h recs e'.T h'∧gw h' e'∧Calm e e' h h'∧eN P false (l.map fun (d,b)=>⟨d,g,b⟩) recs
  | [],os,e,e',h,a,a',hc,hg,he,hx=>by
    have:=jE hc; subst this
    simp only[FW,Option.some.injEq,Prod.mk.injEq] at hx; obtain ⟨rfl,rfl⟩:=hx
    exact ⟨[],h,by simp,.nil,he,Calm.refl _ _,.nil⟩
  | (d,b) :: l,os,e,e',h,a,a',hc,hg,he,hx=>by
    obtain ⟨o,r,rfl,h1,h2⟩:=j9 hc
    obtain ⟨hd,hd1,hb1,hg1⟩:=qu h1
    simp only at hd1 hb1 hg1
    have hgv:cM n all e.T o=some true:=by
      cases g with
      | none=>exact za hg1
      | some p =>
        obtain ⟨d',w⟩:=p
        have:=(ju (T:=e.T) hg1).1 w (hg d' w rfl).1
        rw[this]; simp
    simp only[FW] at hx
    rw[hb1] at hx
    split at hx
    · rename_i v e1 c hv
      obtain ⟨h1',st,he1,hT1,hcm,hl,hlo,hhi⟩:=Of hcall hgv he hv
      have hput:(e1.put d v).T=e.T.put o.dst v:=by
        rw[ES.Md (by rw[hd1]; exact ND hd hn),hT1,hd1]
      obtain ⟨recs,h'',ha,tr,he2,hcm2,hro⟩:=CZ hcall hn g l r (e1.put d v) e' h1' _ a' h2 (fun d' w eq=>by
        have:=hg d' w eq
        simp only[List.all_cons,Bool.and_eq_true,bne_iff_ne,ne_eq] at this
        refine ⟨?_,this.2.2⟩
        rw[← this.1,hput,← hd1]
        cases d with
        | none=>rfl
        | some t=>simp only[Env.put]; rw[if_neg]; intro e; subst e; exact this.2.1 rfl) (IA he1) hx
      rw[hput] at tr
      refine ⟨_,h'',?_,.cons st hd tr,he2,(Lb hcm).trans hcm2,hro.cons (by rw[hb1]; exact hl)⟩
      rw[ha,List.append_assoc,← Mz hlo hhi]; rfl
    · simp at hx
theorem Dz {fz:Fz} (hn:n≤8000) (d:Nat) (w:Bool) (h:aB):∀ (l:List (Option Nat × SB)) (os:List Oper) (e e':ES) (a a':List Rec),
    cU P n all fz os=some (l.map fun (d',b)=>⟨d',some (d,w),b⟩)→(e.T d=.val (.bool !w)∨e.T d=.bc [])→(l.all fun x=>x.1 != some d)=true→gw h e→s8 l a e=(e',a') →
    ∃ recs,a'=a ++ recs∧Tr P n all os e.T h recs e'.T h∧gw h e'∧e'.w=e.w∧eN P false (l.map fun (d',b)=>⟨d',some (d,w),b⟩) recs
  | [],os,e,e',a,a',hc,hd,hl,he,hx=>by
    have:=jE hc; subst this
    simp only[s8,Prod.mk.injEq] at hx; obtain ⟨rfl,rfl⟩:=hx
    exact ⟨[],by simp,.nil,he,rfl,.nil⟩
  | (d',b) :: l,os,e,e',a,a',hc,hd,hl,he,hx=>by
    obtain ⟨o,r,rfl,h1,h2⟩:=j9 hc
    obtain ⟨hd0,hd1,hb1,hg1⟩:=qu h1
    simp only at hd1 hb1 hg1
    have hgv:cM n all e.T o=some false:=by
      rcases hd with hd | hd
      · rw[(ju (T:=e.T) hg1).1 _ hd]; cases w <;> rfl
      · exact (ju (T:=e.T) hg1).2 hd
    simp only[List.all_cons,Bool.and_eq_true,bne_iff_ne,ne_eq] at hl
    have hput:(e.put d' (.bc [])).T=e.T.put o.dst (.bc []):=by
      rw[ES.Md (by rw[hd1]; exact ND hd0 hn),hd1]
    simp only[s8] at hx
    obtain ⟨recs,ha,tr,he2,hd2,hro⟩:=Dz hn d w h l r (e.put d' (.bc [])) e' _ a' h2 (by
      have:(e.put d' (.bc [])).T d=e.T d:=by
        rw[hput,← hd1]
        cases d' with
        | none=>rfl
        | some t=>simp only[Env.put]; rw[if_neg]; intro e; subst e; exact hl.1 rfl
      rw[this]; exact hd) hl.2 (IA he) hx
    rw[hput] at tr
    refine ⟨_,?_,Tr.cons (.skip hgv) hd0 tr,he2,by rw[hd2,Mf],hro.cons (r:=⟨[],[],false,h.length,h.length⟩) ⟨fun _=>⟨rfl,rfl,rfl,rfl⟩,fun _=>rfl⟩⟩
    rw[ha,List.append_assoc,Ml,he.2]; rfl
theorem Ba {fz:Fz} (hn:n≤8000) {d:Nat} {w:Bool} {h:aB} {l:List (Option Nat × SB)} {os:List Oper} {e e':ES} {a a':List Rec}
    (hc:cU P n all fz os=some (l.map fun (d',b)=>⟨d',some (d,w),b⟩)) (hd:e.T d=.val (.bool !w)∨e.T d=.bc []) (hl:(l.all fun x=>x.1 != some d)=true) (he:gw h e) (hx:s8 l a e=(e',a')) :
    ∃ recs h',a'=a ++ recs∧Tr P n all os e.T h recs e'.T h'∧gw h' e'∧Calm e e' h h'∧eN P false (l.map fun (d',b)=>⟨d',some (d,w),b⟩) recs:=by
  obtain ⟨recs,h1,h2,h3,h4,h5⟩:=Dz hn d w h l os e e' a a' hc hd hl he hx
  exact ⟨recs,h,h1,h2,h3,⟨Nat.le_refl _,fun id _ hw=>⟨rfl,by rw[h4] at hw; exact hw⟩⟩,h5⟩
theorem Oe {call:fV} (hcall:jh P call) (hn:n≤8000) {fz:Fz} {g:SG} {os:List Oper} {e e':ES} {h:aB} {a a':List Rec} (hc:cU P n all fz os=some g.flat) (hok:qh g=true) (he:gw h e) (hx:eG P call g a e=some (e',a')) :
    ∃ recs h',a'=a ++ recs∧Tr P n all os e.T h recs e'.T h'∧gw h' e'∧Calm e e' h h'∧eN P false g.flat recs:=by
  unfold eG at hx
  unfold SG.flat at hc ⊢
  unfold qh at hok
  split at hx
  · rename_i hg
    rw[hg] at hc ⊢
    exact CZ hcall hn none g.ops os e e' h a a' hc (fun d w e=>by simp at e) he hx
  · rename_i d want hg
    rw[hg] at hc hok ⊢
    simp only at hok
    unfold JH at hx
    split at hx
    · rename_i b hb
      split at hx
      · rename_i hxor
        simp only[Option.some.injEq] at hx
        have e':b = !want:=by cases b <;> cases want <;> simp_all
        subst e'
        exact Ba hn hc (.inl hb) hok he hx
      · rename_i hxor
        have e':b=want:=by cases b <;> cases want <;> simp_all
        subst e'
        exact CZ hcall hn (some (d,b)) g.ops os e _ h a a' hc (fun d' w e=>by simp at e; obtain ⟨rfl,rfl⟩:=e; exact ⟨hb,hok⟩) he hx
    · rename_i hb
      simp only[Option.some.injEq] at hx
      exact Ba hn hc (.inr hb) hok he hx
    · simp at hx
theorem Jj {call:fV} (hcall:jh P call) (hn:n≤8000) {fz:Fz} : ∀ (gs:List SG) (os:List Oper) (e e':ES) (h:aB) (a a':List Rec),cU P n all fz os=some (iN gs)→gs.all qh=true→gw h e→Ie P call gs a e=some (e',a') →
    ∃ recs h',a'=a ++ recs∧Tr P n all os e.T h recs e'.T h'∧gw h' e'∧Calm e e' h h'∧eN P false (iN gs) recs
  | [],os,e,e',h,a,a',hc,_,he,hx=>by
    have:=jE hc; subst this
    simp only[Ie,Option.some.injEq,Prod.mk.injEq] at hx; obtain ⟨rfl,rfl⟩:=hx
    exact ⟨[],h,by simp,.nil,he,Calm.refl _ _,.nil⟩
  | g :: gs,os,e,e',h,a,a',hc,hok,he,hx=>by
    simp only[iN,List.map_cons,List.flatten_cons] at hc ⊢
    simp only[List.all_cons,Bool.and_eq_true] at hok
    obtain ⟨o1,o2,rfl,h1,h2⟩:=oh hc
    simp only[Ie] at hx
    split at hx
    · rename_i e1 a1 hx1
      obtain ⟨r1,h1',ha1,tr1,he1,hc1,ro1⟩:=Oe hcall hn h1 hok.1 he hx1
      obtain ⟨r2,h2',ha2,tr2,he2,hc2,ro2⟩:=Jj hcall hn gs o2 e1 e' h1' a1 a' h2 hok.2 he1 hx
      exact ⟨_,h2',by rw[ha2,ha1,List.append_assoc],tr1.append tr2,he2,hc1.trans hc2,ro1.append ro2⟩
    · simp at hx
theorem IW {ls:List Nat} {i k x y:Nat} (hik:i < k) (hx:ls[i]?=some x) (hy:ls[k]?=some y) (ho:ordered (er all []) i k=false) (h:¬ (x=0∨y=0∨(x≤1∧y≤1))):(i,k)∈yp all ls:=by
  unfold yp
  simp only[List.mem_flatten,List.mem_map]
  refine ⟨_,⟨(x,i),by rw[List.mem_zipIdx_iff_getElem?]; exact hx,rfl⟩,?_⟩
  simp only[List.mem_map,List.mem_filter]
  refine ⟨(y,k),⟨by rw[List.mem_zipIdx_iff_getElem?]; exact hy,?_⟩,rfl⟩
  simp only[hik,decide_true,ho,Bool.false_or,Bool.true_and,Bool.not_eq_true',Bool.or_eq_false_iff,beq_eq_false_iff_ne,Bool.and_eq_false_iff,decide_eq_false_iff_not]
  omega
theorem KF {ls:List Nat} {recs:List Rec} (h:J6 recs (yp all ls)=true) (hl:ls.length=recs.length) (hr:∀ (i x:Nat) (r:Rec),ls[i]?=some x→recs[i]?=some r→jb x r.rd r.wr r.call r.lo r.hi):qS all recs:=by
  intro i k a b hik ha hb ho
  have hi:i < recs.length:=(List.getElem?_eq_some_iff.1 ha).1
  have hk:k < recs.length:=(List.getElem?_eq_some_iff.1 hb).1
  have hx:ls[i]?=some (ls[i]'(by omega)):=List.getElem?_eq_getElem (by omega)
  have hy:ls[k]?=some (ls[k]'(by omega)):=List.getElem?_eq_getElem (by omega)
  generalize ls[i]'(by omega)=x at hx
  generalize ls[k]'(by omega)=y at hy
  have la:=hr i _ a hx ha
  have lb:=hr k _ b hy hb
  by_cases hc:x=0∨y=0∨(x≤1∧y≤1)
  · rcases hc with h1 | h1 | h1
    · obtain ⟨e1,e2,e3,e4⟩:=la.1 h1
      exact ⟨fun id hid=>by simp[e2] at hid,fun id _=>by simp[e1],fun hc=>by simp[e3] at hc,fun _=>e2,fun id _ hx=>by omega⟩
    · obtain ⟨e1,e2,e3,e4⟩:=lb.1 h1
      exact ⟨fun id _=>by simp[e1],fun id hid=>by simp[e2] at hid,fun _=>e2,fun hc=>by simp[e3] at hc,fun id hid=>by simp[e2] at hid⟩
    · have e1:=la.2 h1.1
      have e2:=lb.2 h1.2
      exact ⟨fun id hid=>by simp[e1] at hid,fun id hid=>by simp[e2] at hid,fun _=>e2,fun _=>e1,fun id hid=>by simp[e2] at hid⟩
  · have:=List.all_eq_true.1 h _ (IW hik hx hy ho hc)
    simp only[ha,hb] at this
    exact JI this
theorem M8 (hm:P.follows .mixedOrders=true) {call:fV} (hcall:jh P call) (hn:n≤8000) {fz:List Nat} {id:Nat} {ops:Array Oper} {draw:Bool} {sc:DC} {run:tI} {e e':ES} {r:Exit} {h:aB}
    (hc:C0 P n fz ops.toList draw=some sc) (he:gw h e) (hx:kd P call run sc e=some (r,e')) :
    ∃ h',cq P n (.region id ops draw) e.T h r e'.T h'∧gw h' e'∧Calm e e' h h':=by
  unfold C0 at hc
  split at hc
  · simp at hc
  · rename_i l hl
    split at hc
    · simp at hc
    · rename_i hok
      have hok:(group l).all qh=true:=by simpa using hok
      have hl':cU P n ops.toList ⟨fz,false⟩ ops.toList=some (iN (group l)):=by rw[e9]; exact hl
      have key:∀ ps,kd P call run (.region ps (group l)) e=some (r,e')→(draw=true→j5 ops.toList=true∧ps=yp ops.toList (l.map fun s=>gK P false s.b)) →
          ∃ h',cq P n (.region id ops draw) e.T h r e'.T h'∧gw h' e'∧Calm e e' h h':=by
        intro ps hx hdr
        simp only[kd,FQ] at hx
        split at hx
        · rename_i e1 recs0 hx1
          split at hx
          · rename_i hchk
            simp only[Option.some.injEq,Prod.mk.injEq] at hx
            obtain ⟨rfl,rfl⟩:=hx
            obtain ⟨recs,h',ha,tr,hk,hcm,hro⟩:=Jj hcall hn (group l) ops.toList e e1 h [] recs0 hl' hok he hx1
            simp only[List.nil_append] at ha
            subst ha
            rw[e9] at hro
            refine ⟨h',?_,hk,hcm⟩
            cases hd:draw with
            | false=>simpa using Ez (id:=id) tr
            | true =>
              obtain ⟨h1,rfl⟩:=hdr hd
              have hcf:qS ops.toList recs0:=KF hchk (by simpa using hro.1) (fun i x r hx hr=>by
                simp only[List.getElem?_map,Option.map_eq_some_iff] at hx
                obtain ⟨s,hs,rfl⟩:=hx
                exact hro.2 i s r hs hr)
              simpa using uE hm (id:=id) tr h1 hcf
          · simp at hx
        · simp at hx
      split at hc
      · rename_i hd
        split at hc
        · rename_i ht
          simp at hc; subst hc
          exact key _ hx (fun _=>⟨ht,rfl⟩)
        · simp at hc
      · rename_i hd
        simp at hc; subst hc
        exact key _ hx (fun e=>absurd e hd)
theorem K0 (hm:P.follows .mixedOrders=true) {call:fV} (hcall:jh P call) {run:tI} (hrun:sO P run):sO P (kd P call run):=by
  intro n fz c sc hc hn e e' r h hx he
  cases c with
  | skip =>
    simp[gN] at hc; subst hc
    simp only[kd,Jd,Option.some.injEq,Prod.mk.injEq] at hx
    obtain ⟨rfl,rfl⟩:=hx
    exact ⟨h,.skip,he,Calm.refl _ _,fun _ h=>by simp at h⟩
  | region id ops draw =>
    obtain ⟨h',a,b,d⟩:=M8 (id:=id) hm hcall hn hc he hx
    exact ⟨h',a,b,d,fun _ h=>by simp at h⟩
  | seq x y =>
    simp only[gN] at hc
    split at hc
    · rename_i a b h1 h2
      simp at hc; subst hc
      simp only[kd,NB] at hx
      split at hx
      · rename_i e1 hx1
        obtain ⟨h1',x1,he1,c1,l1⟩:=hrun n fz x a h1 hn e e1 .normal h hx1 he
        obtain ⟨h2',x2,he2,c2,l2⟩:=hrun n fz y b h2 hn e1 e' r h1' hx he1
        exact ⟨h2',x1.seq x2,he2,c1.trans c2,fun _ h=>by simp at h⟩
      · rename_i hne
        obtain ⟨h1',x1,he1,c1,l1⟩:=hrun n fz x a h1 hn e e' r h hx he
        refine ⟨h1',x1.FK (fun e=>?_),he1,c1,fun _ h=>by simp at h⟩
        subst e
        exact absurd hx (hne e')
    · simp at hc
  | cond cc x y =>
    simp only[gN] at hc
    split at hc
    · rename_i a b h1 h2
      simp at hc; subst hc
      simp only[kd,L6,SX.ca] at hx
      split at hx
      · rename_i ht
        obtain ⟨h1',x1,he1,c1,l1⟩:=hrun n fz x a h1 hn e e' r h hx he
        exact ⟨h1',.cond ht x1,he1,c1,fun _ h=>by simp at h⟩
      · rename_i ht
        obtain ⟨h1',x1,he1,c1,l1⟩:=hrun n fz y b h2 hn e e' r h hx he
        exact ⟨h1',.cond ht x1,he1,c1,fun _ h=>by simp at h⟩
      · simp at hx
    · simp at hc
  | block id c =>
    simp only[gN,Option.map_eq_some_iff] at hc
    obtain ⟨a,h1,rfl⟩:=hc
    simp only[kd,J9] at hx
    split at hx
    · rename_i r1 e1 hx1
      simp only[Option.some.injEq,Prod.mk.injEq] at hx
      obtain ⟨rfl,rfl⟩:=hx
      obtain ⟨h1',x1,he1,c1,l1⟩:=hrun n fz c a h1 hn e e1 r1 h hx1 he
      exact ⟨h1',x1.block,he1,c1,fun _ h=>by simp at h⟩
    · simp at hx
  | loop c =>
    have hc0:=hc
    simp only[gN,Option.map_eq_some_iff] at hc
    obtain ⟨a,h1,rfl⟩:=hc
    simp only[kd,Mi] at hx
    split at hx
    · rename_i e1 hx1
      obtain ⟨h1',x1,he1,c1,l1⟩:=hrun n fz c a h1 hn e e1 .normal h hx1 he
      obtain ⟨h2',x2,he2,c2,l2⟩:=hrun n fz (.loop c) (.loop a) hc0 hn e1 e' r h1' hx he1
      have hL:=mV.step x1 (l2 c rfl)
      exact ⟨h2',.loop hL,he2,c1.trans c2,fun c0 h0=>by simp only[Code.loop.injEq] at h0; subst h0; exact hL⟩
    · rename_i hne
      obtain ⟨h1',x1,he1,c1,l1⟩:=hrun n fz c a h1 hn e e' r h hx he
      have hL:=mV.out x1 (fun e=>by subst e; exact absurd hx (hne e'))
      exact ⟨h1',.loop hL,he1,c1,fun c0 h0=>by simp only[Code.loop.injEq] at h0; subst h0; exact hL⟩
  | exit id =>
    simp[gN] at hc; subst hc
    simp only[kd,Option.some.injEq,Prod.mk.injEq] at hx
    obtain ⟨rfl,rfl⟩:=hx
    exact ⟨h,.exit,he,Calm.refl _ _,fun _ h=>by simp at h⟩
  | ret =>
    simp[gN] at hc; subst hc
    simp only[kd,Option.some.injEq,Prod.mk.injEq] at hx
    obtain ⟨rfl,rfl⟩:=hx
    exact ⟨h,.ret,he,Calm.refl _ _,fun _ h=>by simp at h⟩
  | _=>simp[gN] at hc
theorem BB:∀ (vs:List V) (i:Nat) (t:bX V),i+vs.length≤8000→∀ k,(kF vs i t).get .any k=if i≤k∧k < i+vs.length then vs.getD (k - i) .any else t.get .any k
  | [],i,t,h,k=>by
    rw[kF,if_neg (by simp only[List.length_nil]; omega)]
  | v :: vs,i,t,h,k=>by
    simp only[List.length_cons] at h
    rw[kF,BB vs (i+1) _ (by omega),bX.kP _ _ _ _ _ _ (by simp only[deep]; omega)]
    simp only[List.length_cons]
    by_cases h1:k=i
    · subst h1; rw[if_neg (by omega),if_pos rfl,if_pos (by omega)]; simp
    · by_cases h2:i+1≤k∧k < i+1+vs.length
      · rw[if_pos h2,if_pos (by omega)]
        have:k - i=(k - (i+1))+1:=by omega
        rw[this]; rfl
      · rw[if_neg h2,if_neg h1,if_neg (by omega)]
theorem Ff (vs:List V) (h:vs.length≤8000):(kF vs 0 .nil).get .any=jI vs:=by
  funext k
  rw[BB vs 0 .nil (by omega)]
  simp only[jI,Nat.zero_le,true_and,Nat.zero_add,Nat.sub_zero]
  split
  · rfl
  · rename_i hk
    rw[List.getD_eq_getElem?_getD,List.getElem?_eq_none (by omega)]; rfl
theorem M1 {e:ES} {h:aB} {r:ResultVar} {rest:List ResultVar} {l:List SR} (he:gw h e) (hc:eu P (r :: rest)=some l):∃ s l',l=s :: l'∧eu P rest=some l'∧∀ v,LP s e=some v→pa P e.T h r=some v:=by
  cases r with
  | tmp t =>
    simp only[eu,Option.map_eq_some_iff] at hc
    obtain ⟨l',h1,rfl⟩:=hc
    exact ⟨.tmp t,l',rfl,h1,fun v hv=>hv⟩
  | cell a t =>
    simp only[eu] at hc
    split at hc
    · rename_i k l' h1 h2
      simp at hc; subst hc
      refine ⟨.cell a k,l',rfl,h2,fun v hv=>?_⟩
      simp only[LP] at hv
      simp only[pa,kh,te h1]
      rw[he.1] at hv
      split at hv
      · rename_i id i j ha
        split at hv
        · rename_i es hH
          split at hv
          · rename_i hlt
            rw[ha]; simp only[hH]; rw[if_pos hlt,hv]; rfl
          · simp at hv
        · simp at hv
      · rename_i e j ha
        rw[ha]; simp only; rw[hv]; rfl
      · simp at hv
    · simp at hc
theorem Df {e:ES} {h:aB} (he:gw h e):∀ (rs:List ResultVar) (l:List SR) (vs:List V),eu P rs=some l→tc l e=some vs→ka P e.T h rs=some vs
  | [],l,vs,hc,hw=>by simp[eu] at hc; subst hc; simp[tc] at hw; subst hw; rfl
  | r :: rest,l,vs,hc,hw=>by
    obtain ⟨s,l',rfl,h1,h2⟩:=M1 (e:=e) (h:=h) he hc
    simp only[tc] at hw
    split at hw
    · rename_i v vs' hv hvs
      simp at hw; subst hw
      simp[ka,h2 v hv,Df he rest l' vs' h1 hvs]
    · simp at hw
def th (P:Program) (tab:List (FuncId × DF)):Prop:=∀ p∈tab,∃ fz,aP P p.1 fz=some p.2
def pA (P:Program) (ext:u6):Prop:=∀ g vs H t,ext g vs H=some t→cR P g=true∧∀ h:aB,h.view=H→bw P g vs h t h
theorem Er {tab:List (FuncId × DF)} {ext:u6} (ht:th P tab) (hx:pA P ext) {run:tI} (hrun:sO P run):jh P (CC P tab ext run):=by
  intro g vs e v e' h hcall he
  unfold CC at hcall
  split at hcall
  · rename_i t hext
    simp only[Option.some.injEq,Prod.mk.injEq] at hcall
    obtain ⟨rfl,rfl⟩:=hcall
    obtain ⟨h1,h2⟩:=hx _ _ _ _ hext
    exact ⟨h1,h,h2 h he.1.symm,he,fun _ _ _=>rfl,fun _ hw=>by simp at hw⟩
  · split at hcall
    · rename_i g' F hf
      have hmem:=List.mem_of_find?_eq_some hf
      have hgg:g'=g:=by
        have:=List.find?_some hf
        exact Nat.eq_of_beq_eq_true this
      subst hgg
      obtain ⟨fz,hF⟩:=ht _ hmem
      simp only at hF
      unfold aP at hF
      split at hF
      · rename_i fn hfn
        split at hF
        · rename_i c hb
          split at hF
          · rename_i sc rs h1 h2 h3
            simp at hF; subst hF
            refine ⟨h3,?_⟩
            unfold NQ at hcall
            split at hcall
            · rename_i hlen hn
              have hlen:=Nat.le_of_ble_eq_true hlen
              have hn:=Nat.le_of_ble_eq_true hn
              simp only at hlen hn
              unfold Np at hcall
              split at hcall
              · rename_i v1 e1' hend
                simp only[Option.some.injEq,Prod.mk.injEq] at hcall
                obtain ⟨rfl,rfl⟩:=hcall
                unfold NL at hend
                have go:∀ (r:Exit) (e1:ES),(r=.ret∨r=.normal)→run sc ⟨kF vs 0 .nil,e.H,e.n,[]⟩=some (r,e1)→(tc rs e1).map (fun vs=>(ah vs,e1))=some (v1,e1') →
                    ∃ h',bw P g' vs h v1 h'∧gw h' e1'∧(∀ id,id < h.length→¬ id∈e1'.w→h'.view id=h.view id):=by
                  intro r e1 hr hrn hres
                  simp only[Option.map_eq_some_iff,Prod.mk.injEq] at hres
                  obtain ⟨vs',hvs,rfl,rfl⟩:=hres
                  obtain ⟨h',hx,he1,hc1,_⟩:=hrun fn.ntmps fz c sc h1 hn _ e1 r h hrn he
                  have hT:(ES.T ⟨kF vs 0 .nil,e.H,e.n,[]⟩)=jI vs:=Ff vs (by omega)
                  rw[hT] at hx
                  refine ⟨h',bw.Fp hfn hb hlen hx (by rcases hr with rfl | rfl <;> simp) ?_,he1,fun id hid hw=>(hc1.2 id hid hw).1⟩
                  unfold Hg
                  rw[Df he1 _ _ _ h2 hvs]
                  cases vs' with
                  | nil=>rfl
                  | cons a l=>cases l <;> rfl
                have done:(∃ h',bw P g' vs h v1 h'∧gw h' e1'∧(∀ id,id < h.length→¬ id∈e1'.w→h'.view id=h.view id)) →
                    ∃ h',bw P g' vs h v1 h'∧gw h' ⟨e1'.L,e1'.H,e1'.n,e1'.w.filter fun id=>Nat.blt id e.n⟩∧(∀ id,id < h.length→¬ id∈e1'.w.filter (fun id=>Nat.blt id e.n)→h'.view id=h.view id)∧∀ id,id∈e1'.w.filter (fun id=>Nat.blt id e.n)→id < h.length:=by
                  rintro ⟨h',k1,k2,k3⟩
                  refine ⟨h',k1,k2,fun id hid hw=>k3 id hid (fun hm=>hw ?_),fun id hw=>?_⟩
                  · rw[List.mem_filter]
                    exact ⟨hm,by rw[he.2]; exact Nat.ble_eq_true_of_le hid⟩
                  · rw[List.mem_filter] at hw
                    have:=Nat.le_of_ble_eq_true hw.2
                    rw[he.2] at this; exact this
                split at hend
                · rename_i e1 hrn; exact done (go _ _ (.inl rfl) hrn hend)
                · rename_i e1 hrn; exact done (go _ _ (.inr rfl) hrn hend)
                · simp at hend
              · simp at hcall
            · simp at hcall
          · simp at hF
        · simp at hF
      · simp at hF
    · simp at hcall
theorem FN (hm:P.follows .mixedOrders=true) {tab:List (FuncId × DF)} {ext:u6} (ht:th P tab) (hx:pA P ext):∀ k,sO P (DW P tab ext k)
  | 0=>fun n fz c sc hc hn e e' r h hr he=>by simp[DW] at hr
  | k+1=>by
    have ih:=FN hm ht hx k
    have:=K0 hm (Er ht hx ih) ih
    exact this
end
inductive dx (h:aB):V→V→Prop
  | val (v:Value):dx h (.val v) (.val v)
  | emp (k:Nat):dx h (.emp k) (.aK [])
  | sl (id off len esz z:Nat) (es es':List (List V)):h.view id=.arr z es→off+len≤es.length→es'.length=len →
      (∀ i,i < len→(es'.getD i []).length=(es.getD (off+i) []).length) →
      (∀ i j,i < len→j < (es'.getD i []).length→dx h ((es.getD (off+i) []).getD j .any) ((es'.getD i []).getD j .any))→dx h (.sl id off len esz) (.aK es')
  | agg (cs cs':List V):cs'.length=cs.length→(∀ i,i < cs.length→dx h (cs.getD i .any) (cs'.getD i .any))→dx h (.agg cs) (.agg cs')
  | bc (cs cs':List V):cs'.length=cs.length→(∀ i,i < cs.length→dx h (cs.getD i .any) (cs'.getD i .any))→dx h (.bc cs) (.bc cs')
theorem Mp {h:aB} {Z:Nat→Prop} {μ ν:Mu} {F:View} {hp:Array Obj} (hr:fL Z μ hp (cat h F)) {v t:V} (fr:dx h v t):∀ {x:Value},ay Z μ hp v x→ay (gL μ) ν hp t x:=by
  have hcat:∀ id,h.view id≠.dead→cat h F id=h.view id:=fun id hd=>by simp only[cat]; rw[if_pos (fU hd)]
  induction fr with
  | val v=>intro x hx; cases hx with | val _ hv=>exact .val _ hv
  | emp k=>intro x hx; cases hx with | emp _ a=>exact .fY a 0 (fun _=>rfl)
  | sl id off len esz z es es' hH hle hlen hl _ ih =>
    intro x hx
    cases hx with
    | lS _ _ _ a =>
      have:es'=[]:=List.length_eq_zero_iff.1 hlen
      subst this
      exact .fY a 0 (fun _=>rfl)
    | sl _ _ _ _ b o0 cap c e f hm hlec hb hs =>
      have hor:=hr.obj id
      rw[hcat id (by rw[hH]; simp),hH] at hor
      obtain ⟨rfl,_,h3,h4⟩:=hor b o0 esz hm
      have hx:∀ i,∃ ci:Nat→Value,∀ j,j < esz→i < len→cellAt hp b (o0+off * esz+i * esz+j)=some (ci j)∧ay Z μ hp ((es.getD (off+i) []).getD j .any) (ci j):=by
        intro i
        by_cases hi:i < len
        · obtain ⟨ci,hci⟩:=lh (n:=esz) (p:=fun j x=>cellAt hp b (o0+off * esz+i * esz+j)=some x∧ay Z μ hp ((es.getD (off+i) []).getD j .any) x) (fun j hj=>by
            obtain ⟨x,hx,hv⟩:=h4 (off+i) j (by omega) hj
            rw[Nat.add_mul,← Nat.add_assoc] at hx
            exact ⟨x,hx,hv⟩)
          exact ⟨ci,fun j hj _=>hci j hj⟩
        · exact ⟨fun _=>undef,fun j _ h=>absurd h hi⟩
      obtain ⟨cf,hcf⟩:=Classical.axiomOfChoice hx
      have hel:∀ i,i < es'.length→(es'.getD i []).length=esz:=fun i hi=>by rw[hl i (by omega)]; exact h3 _ (by omega)
      have:=ay.aK (Z:=gL μ) (μ:=ν) (hp:=hp) es' b (o0+off * esz) esz cap cf ⟨id,o0,esz,hm⟩ (by omega) hel
        (fun i j hi hj=>(hcf i j hj (by omega)).1) (fun i j hi hj=>ih i j (by omega) (by rw[hel i hi]; exact hj) (hcf i j hj (by omega)).2)
      rw[hlen] at this
      exact this
  | agg cs cs' hlen _ ih =>
    intro x hx
    cases hx with
    | agg _ aas h1 h2=>exact .agg _ _ (by omega) (fun i hi=>ih i (by omega) (h2 i (by omega)))
  | bc cs cs' hlen _ ih =>
    intro x hx
    cases hx with
    | bc _ aas h1 h2=>exact .bc _ _ (by omega) (fun i hi=>ih i (by omega) (h2 i (by omega)))
def dW (P:Program) (f:FuncId) (vs:List V) (t:V):Prop :=
  ∀ Z μ (w:World) (xs:List Value),dR Z μ w.heap vs xs→(∀ b,Z b→b < w.heap.size) →
    Calls P f xs.toArray w fun e w'=>∃ x Z',e=.returned x∧(∀ ν,ay Z' ν w'.heap t x)∧dC w w'∧(∀ b,Z' b→w.heap.size≤b∧b < w'.heap.size)∧eO w.heap w'.heap (fun _=>False)
theorem dW.pure {P:Program} {f:FuncId} {vs:List V} {t:V} (h:dW P f vs t):aC P f vs t:=by
  intro Z μ w xs hrel hz
  refine (h Z μ w xs hrel hz).mono ?_
  rintro e w' ⟨x,Z',rfl,hv,hs,hz',ho⟩
  exact ⟨x,fun b=>Z b∨Z' b,rfl,fun ν=>(hv ν).mono ⟨fun _ h=>.inr h,fun _ _=>rfl,fun _ _ h=>h,ej.refl _⟩,hs,fun _ h=>.inl h,fun b hb=>hb.imp id (hz' b),ho⟩
theorem dW.sn {P:Program} {f:FuncId} {vs:List V} {r t:V} {h':aB} (ht:∀ v∈vs,Tree v) (hc:bw P f vs [] r h') (hf:dx h' r t):dW P f vs t:=by
  intro Z μ w xs hrel hz
  have hrel0:dR Z (fun _=>none) w.heap vs xs:=⟨hrel.1,fun i hi=>s9 (hrel.2 i hi) (by
    simp only[List.getD_eq_getElem?_getD,List.getElem?_eq_getElem hi,Option.getD_some]
    exact ht _ (List.getElem_mem _))⟩
  have hr0:fL Z (fun _=>none) w.heap (cat [] fun _=>.dead):=by
    rw[AB]
    exact ⟨fun _=>trivial,fun i j b o s o' s' _ h=>by simp at h,fun id b o s h=>by simp at h,hz,fun id b o s h=>by simp at h⟩
  refine (hc.2 Z _ _ w xs hrel0 hr0 (fun _ _ _=>rfl)).mono ?_
  rintro e w' ⟨x,Z',μ',rfl,hv,hh,hex,_⟩
  refine ⟨x,gL μ',rfl,fun ν=>Mp hh hf hv,hex.same,?_,fun b hb _=>hex.frame b hb (by rintro ⟨_,_,_,h⟩; simp at h)⟩
  rintro b ⟨id,o,s,hb⟩
  rcases hex.zd _ _ _ _ hb with h1 | ⟨_,h1 | ⟨_,_,_,h1⟩⟩
  · simp at h1
  · exact ⟨h1,hh.lt _ _ _ _ hb⟩
  · simp at h1
theorem dW.of {P:Program} {f:FuncId} {vs:List V} {t:V} (ht:∀ v∈vs,Tree v) (h:aA P f vs (fun _=>.dead) fun r H'=>∀ h':aB,h'.view=H'→dx h' r t):dW P f vs t:=by
  obtain ⟨r,h',ha,_,hf⟩:=h.2 [] BI
  exact dW.sn ht ha (hf h' rfl)
theorem bw.sf {P:Program} {f:FuncId} {ts vs:List V} {t:V} {h:aB} (hc:dW P f ts t) (hl:ts.length=vs.length)
    (hfr:∀ i,i < vs.length→Fr h (vs.getD i .any) (ts.getD i .any)):bw P f vs h t h:=by
  refine ⟨Nat.le_refl _,fun Z μ F w xs hrel hr hfree=>?_⟩
  have hts:dR (fun b=>Z b∨gL μ b) μ w.heap ts xs:=⟨by rw[hl,hrel.1],fun i hi=>zB hr (hfr i (by omega)) (hrel.2 i (by omega))⟩
  have hzl:∀ b,(Z b∨gL μ b)→b < w.heap.size:=by
    rintro b (hb | ⟨id,o,s,hb⟩)
    · exact hr.bZ b hb
    · exact hr.lt _ _ _ _ hb
  refine (hc _ μ w xs hts hzl).mono ?_
  rintro e w' ⟨x,Z',rfl,hv,hs,hz',ho⟩
  have hm:fj Z (fun b=>Z b∨Z' b) μ μ w.heap w'.heap:=⟨fun _ h=>.inl h,fun b hb=>ho b (hr.bZ b hb) (fun x=>x),fun _ _ h=>h,ho.nL⟩
  refine ⟨x,fun b=>Z b∨Z' b,μ,rfl,(hv μ).mono ⟨fun _ h=>.inr h,fun _ _=>rfl,fun _ _ h=>h,ej.refl _⟩,⟨fun id=>(hr.obj id).mono hm rfl (fun b o s hx=>ho b (hr.lt _ _ _ _ hx) (fun x=>x)),hr.inj,fun id b o s hx=>Nat.lt_of_lt_of_le (hr.lt _ _ _ _ hx) hs.size,fun b hb=>?_,fun id b o s hx hzb=>?_⟩,
    ⟨hs,hm,fun b hb _=>ho b hb (fun x=>x),fun b hb=>hb.imp id (fun h=>(hz' b h).1),fun _ _ _ _ h=>.inl h⟩,fun _ _=>rfl⟩
  · rcases hb with hb | hb
    · exact Nat.lt_of_lt_of_le (hr.bZ b hb) hs.size
    · exact (hz' b hb).2
  · rcases hzb with hb | hb
    · exact hr.fq _ _ _ _ hx hb
    · have:=hr.lt _ _ _ _ hx; have:=(hz' b hb).1; omega
theorem aE.sf {P:Program} {q:Bool} {f:FuncId} {H:View} {vs ts:List V} {K:V→View→Prop} {v:cp (H,K)} {t:V} (hc:dW P f ts t) (hok:cR P f=true) (hl:ts.length=vs.length)
    (hfr:∀ i,i < vs.length→eK H (vs.getD i .any) (ts.getD i .any)) (hk:K t H):aE P q f vs H K v:=by
  unfold aE
  cases q with
  | true=>exact ⟨hok,fun h e=>⟨t,h,bw.sf hc hl (fun i hi=>hfr i hi h e),fun _ _=>rfl,e ▸ hk⟩⟩
  | false =>
    refine ⟨hok,?_⟩
    rintro h rfl
    exact ⟨t,h,bw.sf hc hl (fun i hi=>hfr i hi h rfl),.refl _,hk⟩
noncomputable def lK (fz:V→Option V):List V→Option (List V)
  | []=>some []
  | v :: l=>match fz v,lK fz l with
    | some a,some b=>some (a :: b)
    | _,_=>none
noncomputable def zU (fz:V→Option V):List (List V)→Option (List (List V))
  | []=>some []
  | v :: l=>match lK fz v,zU fz l with
    | some a,some b=>some (a :: b)
    | _,_=>none
noncomputable def vy (H:View):Nat→V→Option V
  | 0,_=>none
  | k+1,v=>match v with
    | .val x=>some (.val x)
    | .emp _=>some (.aK [])
    | .sl id off len _=>match H id with
      | .arr _ es=>if off+len≤es.length then (zU (vy H k) ((es.drop off).take len)).map .aK else none
      | _=>none
    | .agg cs=>(lK (vy H k) cs).map .agg
    | .bc cs=>(lK (vy H k) cs).map .bc
    | _=>none
theorem fT {fz:V→Option V} : ∀ (l l':List V),lK fz l=some l'→l'.length=l.length∧∀ i,i < l.length→fz (l.getD i .any)=some (l'.getD i .any)
  | [],l',h=>by simp only[lK,Option.some.injEq] at h; subst h; exact ⟨rfl,fun i hi=>by simp at hi⟩
  | v :: l,l',h=>by
    simp only[lK] at h
    split at h
    · rename_i a b h1 h2
      simp only[Option.some.injEq] at h; subst h
      obtain ⟨g1,g2⟩:=fT l b h2
      refine ⟨by simp[g1],fun i hi=>?_⟩
      cases i with
      | zero=>exact h1
      | succ i=>exact g2 i (by simpa using hi)
    · simp at h
theorem Am {fz:V→Option V} : ∀ (l l':List (List V)),zU fz l=some l'→l'.length=l.length∧∀ i,i < l.length→lK fz (l.getD i [])=some (l'.getD i [])
  | [],l',h=>by simp only[zU,Option.some.injEq] at h; subst h; exact ⟨rfl,fun i hi=>by simp at hi⟩
  | v :: l,l',h=>by
    simp only[zU] at h
    split at h
    · rename_i a b h1 h2
      simp only[Option.some.injEq] at h; subst h
      obtain ⟨g1,g2⟩:=Am l b h2
      refine ⟨by simp[g1],fun i hi=>?_⟩
      cases i with
      | zero=>exact h1
      | succ i=>exact g2 i (by simpa using hi)
    · simp at h
theorem Gg (h:aB):∀ (k:Nat) (v t:V),vy h.view k v=some t→dx h v t
  | 0,v,t,hf=>by simp[vy] at hf
  | k+1,v,t,hf=>by
    have ih:=Gg h k
    simp only[vy] at hf
    split at hf
    · simp only[Option.some.injEq] at hf; subst hf; exact .val _
    · simp only[Option.some.injEq] at hf; subst hf; exact .emp _
    · rename_i id off len esz
      split at hf
      · rename_i z es hH
        split at hf
        · rename_i hle
          simp only[Option.map_eq_some_iff] at hf
          obtain ⟨es',he,rfl⟩:=hf
          obtain ⟨g1,g2⟩:=Am _ _ he
          have hlen:es'.length=len:=by rw[g1]; simp; omega
          have hg:∀ i,i < len→((es.drop off).take len).getD i []=es.getD (off+i) []:=fun i hi=>by
            simp[List.getD_eq_getElem?_getD,List.getElem?_take,hi]
          have g3:∀ i,i < len→lK (vy h.view k) (es.getD (off+i) [])=some (es'.getD i []):=fun i hi=>by
            rw[← hg i hi]; exact g2 i (by rw[← g1,hlen]; exact hi)
          exact .sl id off len esz z es es' hH hle hlen (fun i hi=>(fT _ _ (g3 i hi)).1) (fun i j hi hj=>ih _ _ ((fT _ _ (g3 i hi)).2 j (by rw[← (fT _ _ (g3 i hi)).1]; exact hj)))
        · simp at hf
      · simp at hf
    · simp only[Option.map_eq_some_iff] at hf
      obtain ⟨l,hl,rfl⟩:=hf
      obtain ⟨g1,g2⟩:=fT _ _ hl
      exact .agg _ _ g1 (fun i hi=>ih _ _ (g2 i hi))
    · simp only[Option.map_eq_some_iff] at hf
      obtain ⟨l,hl,rfl⟩:=hf
      obtain ⟨g1,g2⟩:=fT _ _ hl
      exact .bc _ _ g1 (fun i hi=>ih _ _ (g2 i hi))
    · simp at hf
noncomputable def Mg:Option (V × ES)→Option V
  | some (v,e)=>vy e.V 50 v
  | none=>none
noncomputable def we (P:Program) (tab:List (FuncId × DF)) (ext:u6) (f:FuncId) (vs:List V):Option V :=
  Mg (CC P tab ext (DW P tab ext 100000) f vs ⟨.nil,.nil,0,[]⟩)
theorem sB {P:Program} (hm:P.follows .mixedOrders=true) {tab:List (FuncId × DF)} {ext:u6} (ht:th P tab) (hx:pA P ext) {f:FuncId} {vs:List V} {t:V} (hvs:∀ v∈vs,Tree v) (h:we P tab ext f vs=some t) :
    dW P f vs t:=by
  unfold we Mg at h
  split at h
  · rename_i v e hr
    obtain ⟨h1,h',h2,h3,_⟩:=Er ht hx (FN hm ht hx 100000) f vs _ v e [] hr ⟨by funext k; rfl,rfl⟩
    rw[h3.1] at h
    exact dW.sn hvs h2 (Gg h' 50 v t h)
  · simp at h
structure an.dg (g:an):Prop where
  av:g.av.length≤24
  zM:1≤g.az.length
  az:g.az.length≤16
  Pr:1≤g.rules.length
  rules:g.rules.length≤40
  ld:0≤g.start
  start:g.start < g.az.length
  left:∀ r∈g.rules,0≤r.left∧r.left < g.az.length
  right:∀ r∈g.rules,r.right.length≤6
  sym:∀ r∈g.rules,∀ s∈r.right,gY g s=true
  prec:∀ r∈g.rules,-1≤r.prec∧r.prec < g.av.length
theorem uz {g:an} : ∀ (l:List aL) (top:Int),fH g l top=true→top≤(g.az.length:Int) - 1∧∀ r∈l,0≤r.left∧r.left < g.az.length∧ga g r=true
  | [],top,h=>by simp[fH] at h; exact ⟨by omega,fun r hr=>by simp at hr⟩
  | r :: l,top,h=>by
    simp only[fH,Bool.and_eq_true,decide_eq_true_eq] at h
    obtain ⟨⟨⟨h1,h2⟩,h3⟩,h4⟩:=h
    obtain ⟨k1,k2⟩:=uz l _ h4
    have h5:r.left≤(if r.left > top then r.left else top):=by split <;> omega
    have h6:top≤(if r.left > top then r.left else top):=by split <;> omega
    refine ⟨by omega,fun r' hr=>?_⟩
    rcases List.mem_cons.1 hr with rfl | hr
    · exact ⟨h1,by omega,h3⟩
    · exact k2 r' hr
theorem bC {g:an} (h:bt g=true):g.dg:=by
  simp only[bt,iB,jn,Bool.and_eq_true,decide_eq_true_eq] at h
  obtain ⟨⟨⟨⟨⟨⟨⟨h1,_⟩,⟨h2,h3⟩,_⟩,h4⟩,h5⟩,h6⟩,h7⟩,h8⟩:=h
  have k:=(uz _ _ h8).2
  have hb:∀ r∈g.rules,r.right.length≤6∧-1≤r.prec∧r.prec < g.av.length∧∀ s∈r.right,gY g s=true:=fun r hr=>by
    have:=(k r hr).2.2
    simp only[ga,Bool.and_eq_true,decide_eq_true_eq,List.all_eq_true,kn] at this
    exact ⟨this.1.1.1,this.1.1.2,this.1.2,fun s hs=>(this.2 s hs).1⟩
  exact ⟨h1,h2,h3,h4,h5,h6,h7,fun r hr=>⟨(k r hr).1,(k r hr).2.1⟩,fun r hr=>(hb r hr).1,fun r hr=>(hb r hr).2.2.2,fun r hr=>⟨(hb r hr).2.1,(hb r hr).2.2.1⟩⟩
theorem an.dg.neg {g:an} (h:g.dg) {r:aL} (hr:r∈g.rules) {s:Int} (hs:s∈r.right) (hn:s < 0) : -1 - s < g.az.length:=by
  have:=h.sym r hr s hs
  simp only[gY] at this
  rw[if_neg (by omega)] at this
  simpa using this
abbrev cT (is:List Bool):List (List V):=is.map fun x=>[gb x]
theorem uL {h:aB} {id:Nat} {is:List Bool} (hv:h.view id=.arr 1 (cT is)):dx h (.sl id 0 is.length 1) (di is):=by
  refine .sl id 0 is.length 1 1 (cT is) _ hv (by simp) (by simp) (fun i hi=>by simp) (fun i j hi hj=>?_)
  rw[Nat.zero_add]
  have e:(cT is).getD i []=[gb is[i]]:=by simp[List.getD_eq_getElem?_getD,hi]
  rw[e] at hj ⊢
  have:j=0:=by simp at hj; omega
  subst this
  exact .val _
theorem Hp {H:View} {id n:Nat} {is:List Bool} (hv:H id=.arr 1 (cT is)) (hn:n=is.length):eK H (.sl id 0 n 1) (di is):=by
  have ht:∀ e∈cT is,∀ v∈e,Tree v:=by
    intro e he v hv
    obtain ⟨a,_,rfl⟩:=List.mem_map.1 he
    rw[List.mem_singleton] at hv
    subst hv
    exact .val _
  have:=eK.sl (off:=0) (len:=n) (esz:=1) hv (by simp[hn]) ht
  rwa [List.drop_zero,List.take_of_length_le (by simp[hn])] at this
theorem A6 {is:List Bool} {i:Nat} (h:i < is.length):(cT is).getD i []=[gb is[i]]:=by simp[List.getD_eq_getElem?_getD,h]
theorem uP (is:List Bool) (i:Nat) (b:Bool):(cT is).set i [gb b]=cT (is.set i b):=by simp[List.map_set]
theorem Js (n:Nat) (b:Bool):List.replicate n [gb b]=cT (List.replicate n b):=by simp
def iter {α:Type} (f:α→α):Nat→α→α
  | 0,x=>x
  | n+1,x=>iter f n (f x)
def eo (t:Bool) (is:List Bool) (r:aL):List Bool:=if fC r.right is t=true then is.set r.left.toNat true else is
def mM (g:an) (t:Bool) (is:List Bool):List Bool:=g.rules.foldl (eo t) is
def cW (g:an):List Bool:=List.replicate g.az.length false
def aI (g:an) (t:Bool):List Bool:=if bt g=true then iter (mM g t) g.az.length (cW g) else []
theorem Hr (t:Bool) (is:List Bool) (r:aL):(eo t is r).length=is.length:=by unfold eo; split <;> simp
def mark (is:List Bool) (s:Int):List Bool:=if s < 0 then is.set (-1 - s).toNat true else is
def iU (p is:List Bool) (r:aL):List Bool:=if (is.getD r.left.toNat false && fC r.right p true)=true then r.right.foldl mark is else is
def rO (g:an) (p is:List Bool):List Bool:=g.rules.foldl (iU p) is
def bH (g:an):List Bool:=if bt g=true then iter (rO g (aI g true)) g.az.length ((cW g).set g.start.toNat true) else []
theorem LB (is:List Bool) (s:Int):(mark is s).length=is.length:=by unfold mark; split <;> simp
theorem BR:∀ (l:List Int) (is:List Bool),(l.foldl mark is).length=is.length
  | [],_=>rfl
  | s :: l,is=>by rw[List.foldl_cons,BR l,LB]
theorem Kv (p is:List Bool) (r:aL):(iU p is r).length=is.length:=by unfold iU; split <;> simp[BR]
theorem xS {f:List Bool→List Bool} (hf:∀ is,(f is).length=is.length):∀ (n:Nat) (is:List Bool),(iter f n is).length=is.length
  | 0,_=>rfl
  | n+1,is=>by rw[iter,xS hf n,hf]
theorem xR {α:Type} {f:List Bool→α→List Bool} (hf:∀ is x,(f is x).length=is.length):∀ (l:List α) (is:List Bool),(l.foldl f is).length=is.length
  | [],_=>rfl
  | x :: l,is=>by rw[List.foldl_cons,xR hf l,hf]
theorem mO {g:an} (h:bt g=true) (t:Bool):(aI g t).length=g.az.length:=by
  have hl:∀ is,(mM g t is).length=is.length:=fun is=>xR (Hr t) _ _
  rw[aI,if_pos h,xS hl]
  simp[cW]
def wv:DF:=⟨.seq (ak [aV 2 false]) <|
  .seq (.region [] [⟨none,[aa 3 0,aG 4 147 [3],aa 5 4]⟩,⟨(some (5,false)),[aa 6 0,((some 7),.op (.arith .eql (.tmp 6) (.val (.val (.int .u8 46)))))]⟩,⟨none,[bF 8 5 7,aa 9 8]⟩,⟨(some (9,false)),[aa 10 0,((some 11),.op (.arith .geq (.tmp 10) (.val (.val (.int .u8 48))))),aa 12 11]⟩,⟨(some (12,true)),[aa 13 0,((some 14),.op (.arith .leq (.tmp 13) (.val (.val (.int .u8 57)))))]⟩,⟨(some (9,false)),[bB 15 12 14]⟩,⟨none,[bF 16 9 15,aa 2 16]⟩]) <|
  .ret,
  [.tmp 2],17⟩
theorem Ay:aP Tryz.prog 148 []=some wv:=by kernel_rfl
def vD:DF:=⟨.seq (ak [aV 2 false]) <|
  .seq (.region [] [⟨none,[aa 3 0,((some 4),.op (.arith .eql (.tmp 3) (.val (.val (.int .u8 95))))),aa 5 4]⟩,⟨(some (5,false)),[aa 6 0,((some 7),.op (.arith .or (.tmp 6) (.val (.val (.int .u8 32))))),((some 8),.op (.arith .geq (.tmp 7) (.val (.val (.int .u8 97))))),aa 9 8]⟩,⟨(some (9,true)),[aa 10 0,((some 11),.op (.arith .or (.tmp 10) (.val (.val (.int .u8 32))))),((some 12),.op (.arith .leq (.tmp 11) (.val (.val (.int .u8 122)))))]⟩,⟨(some (5,false)),[bB 13 9 12]⟩,⟨none,[bF 14 5 13,aa 2 14]⟩]) <|
  .ret,
  [.tmp 2],15⟩
theorem zp:aP Tryz.prog 147 []=some vD:=by kernel_rfl
def wX:DF:=⟨.seq (ak [aV 2 false]) <|
  .seq (.region [] [⟨none,[aa 3 0,((some 4),.op (.arith .geq (.tmp 3) (.val (.val (.int .u8 32))))),aa 5 4]⟩,⟨(some (5,true)),[aa 6 0,((some 7),.op (.arith .leq (.tmp 6) (.val (.val (.int .u8 126)))))]⟩,⟨none,[bB 8 5 7,aa 9 8]⟩,⟨(some (9,true)),[aa 10 0,((some 11),.op (.arith .neq (.tmp 10) (.val (.val (.int .u8 39)))))]⟩,⟨none,[bB 12 9 11,aa 13 12]⟩,⟨(some (13,true)),[aa 14 0,((some 15),.op (.arith .neq (.tmp 14) (.val (.val (.int .u8 92)))))]⟩,⟨none,[bB 16 13 15,aa 2 16]⟩]) <|
  .ret,
  [.tmp 2],17⟩
theorem Au:aP Tryz.prog 233 []=some wX:=by kernel_rfl
def tJ:DF:=⟨.seq (ak [aV 2 false]) <|
  .seq (.region [] [⟨none,[aa 3 0,((some 4),.op (.arith .eql (.tmp 3) (.val (.val (.int .u8 110))))),aa 5 4]⟩,⟨(some (5,false)),[aa 6 0,((some 7),.op (.arith .eql (.tmp 6) (.val (.val (.int .u8 116)))))]⟩,⟨none,[bF 8 5 7,aa 9 8]⟩,⟨(some (9,false)),[aa 10 0,((some 11),.op (.arith .eql (.tmp 10) (.val (.val (.int .u8 92)))))]⟩,⟨none,[bF 12 9 11,aa 13 12]⟩,⟨(some (13,false)),[aa 14 0,((some 15),.op (.arith .eql (.tmp 14) (.val (.val (.int .u8 39)))))]⟩,⟨none,[bF 16 13 15,aa 2 16]⟩]) <|
  .ret,
  [.tmp 2],17⟩
theorem xl:aP Tryz.prog 234 []=some tJ:=by kernel_rfl
def rU:List (FuncId × DF):=[(148,wv),(147,vD),(233,wX),(234,tJ)]
theorem qv:th Tryz.prog rU:=by
  intro p hp
  simp only[rU,List.mem_cons,List.not_mem_nil,or_false] at hp
  rcases hp with rfl | rfl | rfl | rfl
  · exact ⟨_,Ay⟩
  · exact ⟨_,zp⟩
  · exact ⟨_,Au⟩
  · exact ⟨_,xl⟩
theorem L1 (P:Program):pA P (fun _ _ _=>none):=fun _ _ _ _ h=>by simp at h
def NF (o:Option V) (b:Bool):Bool:=match o with
  | some (.val (.bool c))=>c == b
  | _=>false
theorem NY {o:Option V} {b:Bool} (h:NF o b=true):o=some (gb b):=by
  unfold NF at h
  split at h
  · rw[beq_iff_eq] at h; rw[h]
  · simp at h
noncomputable def uU (tab:List (FuncId × DF)) (f:FuncId) (p:Int→Bool):Bool:=(List.range 256).all fun c=>NF (we Tryz.prog tab (fun _ _ _=>none) f [gy (c:Int)]) (p (c:Int))
theorem tq {tab:List (FuncId × DF)} (ht:th Tryz.prog tab) {f:FuncId} {p:Int→Bool} (h:uU tab f p=true) (c:Int) (h0:0≤c) (h1:c≤255):aC Tryz.prog f [gy c] (gb (p c)):=by
  have:=List.all_eq_true.1 h c.toNat (by simp; omega)
  rw[show ((c.toNat:Nat):Int)=c by omega] at this
  exact (sB mixed ht (L1 _) (by intro v hv; simp at hv; subst hv; exact .val _) (NY this)).pure
def uq (c:Int):Bool:=decide (32≤c) && decide (c≤126) && c != 39 && c != 92
def AT (c:Int):Bool:=c == 110 || c == 116 || c == 92 || c == 39
theorem Hn:uU rU 147 r9=true:=by kernel_rfl
theorem I4:uU rU 148 lk=true:=by kernel_rfl
theorem Jm:uU rU 233 uq=true:=by kernel_rfl
theorem Mq:uU rU 234 AT=true:=by kernel_rfl
theorem B3 {s:ByteArray} {c:Int} (h:c∈eh s):0≤c∧c≤255:=by
  unfold eh at h
  obtain ⟨b,_,rfl⟩:=List.mem_map.1 h
  have:=b.toNat_lt
  omega
theorem IG (s:ByteArray):fi s=(eh s).map fun x=>[gy x]:=by simp[fi,eh]
end Gv
