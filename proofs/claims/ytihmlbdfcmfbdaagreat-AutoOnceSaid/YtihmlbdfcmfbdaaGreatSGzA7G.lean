/-
  Part 7 of the proof: what the machine does and what the functions answer.
  Conditions: those that each lemma names.
-/
import Derived.Test.YtihmlbdfcmfbdaaGreatSGzA7F
set_option linter.unusedSimpArgs false
set_option linter.unusedVariables false
set_option maxRecDepth 100000
namespace Gv
open Go Go.Proofs
section
variable {P:Program} {n:Nat} {all:List Oper}
def gx (h:aB) (e:ES):Prop:=e.V=h.view∧e.n=h.length
def Calm (e e':ES) (h h':aB):Prop:=h.length≤h'.length∧(∀ id,id < h.length→¬ id∈e'.w→h'.view id=h.view id∧¬ id∈e.w)
theorem Calm.trans {a b c:ES} {h1 h2 h3:aB} (x:Calm a b h1 h2) (y:Calm b c h2 h3):Calm a c h1 h3 :=
  ⟨Nat.le_trans x.1 y.1,fun id hid hw =>
    let ⟨e1,d1⟩:=y.2 id (Nat.lt_of_lt_of_le hid x.1) hw
    let ⟨e2,d2⟩:=x.2 id hid d1
    ⟨e1.trans e2,d2⟩⟩
theorem Calm.refl (e:ES) (h:aB):Calm e e h h:=⟨Nat.le_refl _,fun _ _ hw=>⟨rfl,hw⟩⟩
def jl (P:Program) (call:gg):Prop:=∀ g vs e v e' h,call g vs e=some (v,e')→gx h e →
  cX P g=true∧∃ h',bA P g vs h v h'∧gx h' e'∧(∀ id,id < h.length→¬ id∈e'.w→h'.view id=h.view id)∧∀ id,id∈e'.w→id < h.length
def uj (P:Program) (run:uH):Prop:=∀ (n:Nat) (fz:List Nat) (c:Code) (sc:DC),gQ P n fz c=some sc→n≤8000→∀ (e e':ES) (r:Exit) (h:aB),run sc e=some (r,e')→gx h e →
  ∃ h',ct P n c e.T h r e'.T h'∧gx h' e'∧Calm e e' h h'∧∀ c0,c=.loop c0→nH P n c0 e.T h r e'.T h'
theorem IX {h:aB} {e:ES} {d:Option Nat} {v:V} (he:gx h e):gx h (e.put d v):=by cases d <;> exact he
theorem Mv {e:ES} {d:Option Nat} {v:V} : (e.put d v).w=e.w:=by cases d <;> rfl
theorem Lv {h:aB} {e e':ES} {h':aB} {d:Option Nat} {v:V} (x:Calm e e' h h'):Calm e (e'.put d v) h h':=⟨x.1,fun id hid hw=>x.2 id hid (by rw[Mv] at hw; exact hw)⟩
theorem y3 {a:Nat} (h:Nat.ble a 8000=true):a+1 < 2 ^ 13:=by
  have:=Nat.le_of_ble_eq_true h
  omega
theorem MR {h:aB} {e e':ES} {v v':V} {eff:aZ} {rd:List Nat} {c:Rec} (he:gx h e) (hx:Ed v eff rd e=some (v',e',c)) :
    v'=v∧e'.T=e.T∧e'.V=eff.view h.view h.length∧e'.n=(eff.apply h).length∧c=⟨rd,eff.wr,false,h.length,(eff.apply h).length⟩∧e'.w=eff.wr ++ e.w:=by
  obtain ⟨h1,h2⟩:=he
  unfold Ed at hx
  cases eff with
  | none =>
    simp only[Option.some.injEq,Prod.mk.injEq] at hx
    obtain ⟨rfl,rfl,rfl⟩:=hx
    exact ⟨rfl,rfl,h1,h2,by rw[h2]; rfl,rfl⟩
  | new o =>
    simp only at hx
    split at hx
    · rename_i hb
      simp only[Option.some.injEq,Prod.mk.injEq] at hx
      obtain ⟨rfl,rfl,rfl⟩:=hx
      refine ⟨rfl,rfl,?_,by simp[fq,h2],by simp[fq,h2,aZ.wr],rfl⟩
      funext k
      simp only[ES.V,aZ.view,View.set]
      rw[bY.lg _ _ _ _ _ _ (y3 hb),h2]
      have:=congrFun h1 k
      simp only[ES.V] at this
      rw[this]
    · simp at hx
  | eH id o =>
    simp only at hx
    split at hx
    · rename_i hb
      simp only[Option.some.injEq,Prod.mk.injEq] at hx
      obtain ⟨rfl,rfl,rfl⟩:=hx
      refine ⟨rfl,rfl,?_,by simp[fq,h2],by simp[fq,h2,aZ.wr],rfl⟩
      funext k
      simp only[ES.V,aZ.view,View.set]
      rw[bY.lg _ _ _ _ _ _ (y3 hb)]
      have:=congrFun h1 k
      simp only[ES.V] at this
      rw[this]
    · simp at hx
  | bg id o =>
    simp only at hx
    split at hx
    · rename_i hb1 hb2
      simp only[Option.some.injEq,Prod.mk.injEq] at hx
      obtain ⟨rfl,rfl,rfl⟩:=hx
      refine ⟨rfl,rfl,?_,by simp[fq,h2],by simp[fq,h2,aZ.wr],rfl⟩
      funext k
      simp only[ES.V,aZ.view,View.set]
      rw[bY.lg _ _ _ _ _ _ (y3 hb1),bY.lg _ _ _ _ _ _ (y3 hb2),h2]
      have:=congrFun h1 k
      simp only[ES.V] at this
      rw[this]
    · simp at hx
theorem Oo {o:Oper} {e e':ES} {h:aB} {s:SI} {v:V} {c:Rec} (hg:cP n all e.T o=some true) (hc:∀ v eff rd,sI P s e.T h.view h.length=some (v,eff,rd)→bU P o e.T h.view h.length=some (v,eff,rd))
    (he:gx h e) (hx:IY P s e=some (v,e',c)):∃ h',c6 P n all o e.T h v h' c.rd c.wr c.call∧gx h' e'∧e'.T=e.T∧Calm e e' h h'∧jE (ra P s) c.rd c.wr c.call h.length h'.length∧c.lo=h.length∧c.hi=h'.length:=by
  unfold IY at hx
  rw[Iq,he.1,he.2] at hx
  split at hx
  · rename_i v0 eff rd hs
    obtain ⟨rfl,g1,g2,g3,rfl,g5⟩:=MR he hx
    have ha:=hc _ _ _ hs
    have st:=c6.op (P:=P) (n:=n) (all:=all) hg ha
    refine ⟨eff.apply h,st,⟨?_,g3⟩,g1,⟨qM st,fun id hid hw=>?_⟩,⟨fun h0=>?_,fun h1=>?_⟩,rfl,rfl⟩
    · rw[jZ (fun id hid=>(kM ha id hid).1)]; exact g2
    · rw[g5] at hw
      simp only[List.mem_append,not_or] at hw
      exact ⟨pw st hid hw.1,hw.2⟩
    · obtain ⟨rfl,rfl⟩:=(pC hs).1 h0
      exact ⟨rfl,rfl,rfl,rfl⟩
    · rcases Nat.lt_or_ge (ra P s) 1 with h2 | h2
      · obtain ⟨rfl,rfl⟩:=(pC hs).1 (by omega); rfl
      · exact (pC hs).2 (by omega)
  · simp at hx
theorem OK {call:gg} (hcall:jl P call) {fz:Fz} {o:Oper} {e e':ES} {h:aB} {v:V} {c:Rec} (hg:cP n all e.T o=some true) (he:gx h e) (hx:eB P call (lz P fz o) e=some (v,e',c)) :
    ∃ h',c6 P n all o e.T h v h' c.rd c.wr c.call∧gx h' e'∧e'.T=e.T∧Calm e e' h h'∧jE (gT P false (lz P fz o)) c.rd c.wr c.call h.length h'.length∧c.lo=h.length∧c.hi=h'.length:=by
  rcases xy P fz o with ⟨f,args,ats,ho,hc⟩ | ⟨t,x,ho,hc⟩ | ⟨s,d,x,ho,hcv,hc⟩ | hc
  · rw[hc] at hx ⊢
    simp only[eB,Kx] at hx
    split at hx
    · rename_i g first cap hf
      rw[Du] at hx
      rw[SX.cg] at hf
      split at hx
      · rename_i v0 e0 hv
        obtain ⟨hok,h',hr,hek,hd,hd2⟩:=hcall _ _ _ _ _ _ hv he
        simp only[Option.some.injEq,Prod.mk.injEq] at hx
        obtain ⟨rfl,rfl,rfl⟩:=hx
        exact ⟨h',.call hg ho hf hok hr hd hd2,hek,rfl,⟨hr.1,fun id hid hw=>by
          simp only[List.mem_append,not_or] at hw
          exact ⟨hd id hid hw.1,hw.2⟩⟩,MA (by simp[gT]),he.2,hek.2⟩
      · simp at hx
    · simp at hx
  · rw[hc] at hx ⊢
    simp only[eB,IY,Iq,sI,SX.cg] at hx
    split at hx
    · rename_i v0 eff rd hs
      split at hs
      · rename_i hok
        simp only[Option.some.injEq,Prod.mk.injEq] at hs
        obtain ⟨rfl,rfl,rfl⟩:=hs
        simp only[Ed,Option.some.injEq,Prod.mk.injEq] at hx
        obtain ⟨rfl,rfl,rfl⟩:=hx
        exact ⟨h,.gU hg ho hok,he,rfl,Calm.refl _ _,⟨fun _=>⟨rfl,rfl,rfl,rfl⟩,fun _=>rfl⟩,he.2,he.2⟩
      · simp at hs
    · simp at hx
  · rw[hc] at hx ⊢
    obtain ⟨ty,h1,h2,h3⟩:=xE hcv
    simp only[eB,IY,Iq,sI,SX.cg] at hx
    split at hx
    · rename_i v0 eff rd hs
      split at hs
      · rename_i st hst
        simp only[Option.some.injEq,Prod.mk.injEq] at hs
        obtain ⟨rfl,rfl,rfl⟩:=hs
        simp only[Ed,Option.some.injEq,Prod.mk.injEq] at hx
        obtain ⟨rfl,rfl,rfl⟩:=hx
        exact ⟨h,.eZ hg ho h1 h2 h3 hst,he,rfl,Calm.refl _ _,⟨fun _=>⟨rfl,rfl,rfl,rfl⟩,fun _=>rfl⟩,he.2,he.2⟩
      · simp at hs
    · simp at hx
  · rw[hc] at hx ⊢
    exact Oo (s:=wh P fz.fr (comp P o)) hg (fun v eff rd hs=>G3 (Gf hs)) he hx
theorem NA {o:Oper} (hd:pa n o=true) (hn:n≤8000):∀ t,o.dst=some t→t < 8000:=by
  intro t ht
  unfold pa at hd
  rw[ht] at hd
  have:t < n:=by simpa using hd
  exact Nat.lt_of_lt_of_le this hn
theorem MM {c:Rec} {a b:Nat} (h1:c.lo=a) (h2:c.hi=b):c=⟨c.rd,c.wr,c.call,a,b⟩:=by cases c; subst h1; subst h2; rfl
theorem D8 {call:gg} (hcall:jl P call) (hn:n≤8000) {fz:Fz} (g:Option (Nat × Bool)):∀ (l:List (Option Nat × SB)) (os:List Oper) (e e':ES) (h:aB) (a a':List Rec),
    cZ P n all fz os=some (l.map fun (d,b)=>⟨d,g,b⟩)→(∀ d w,g=some (d,w)→e.T d=.val (.bool w)∧(l.all fun x=>x.1 != some d)=true)→gx h e→F5 P call l a e=some (e',a') →
    ∃ recs h',a'=a ++ recs∧Tr P n all os e.T h recs e'.T h'∧gx h' e'∧Calm e e' h h'∧eT P false (l.map fun (d,b)=>⟨d,g,b⟩) recs
  | [],os,e,e',h,a,a',hc,hg,he,hx=>by
    have:=jK hc; subst this
    simp only[F5,Option.some.injEq,Prod.mk.injEq] at hx; obtain ⟨rfl,rfl⟩:=hx
    exact ⟨[],h,by simp,.nil,he,Calm.refl _ _,.nil⟩
  | (d,b) :: l,os,e,e',h,a,a',hc,hg,he,hx=>by
    obtain ⟨o,r,rfl,h1,h2⟩:=kc hc
    obtain ⟨hd,hd1,hb1,hg1⟩:=qP h1
    simp only at hd1 hb1 hg1
    have hgv:cP n all e.T o=some true:=by
      cases g with
      | none=>exact zf hg1
      | some p =>
        obtain ⟨d',w⟩:=p
        have:=(jI (T:=e.T) hg1).1 w (hg d' w rfl).1
        rw[this]; simp
    simp only[F5] at hx
    rw[hb1] at hx
    split at hx
    · rename_i v e1 c hv
      obtain ⟨h1',st,he1,hT1,hcm,hl,hlo,hhi⟩:=OK hcall hgv he hv
      have hput:(e1.put d v).T=e.T.put o.dst v:=by
        rw[ES.MI (by rw[hd1]; exact NA hd hn),hT1,hd1]
      obtain ⟨recs,h'',ha,tr,he2,hcm2,hro⟩:=D8 hcall hn g l r (e1.put d v) e' h1' _ a' h2 (fun d' w eq=>by
        have:=hg d' w eq
        simp only[List.all_cons,Bool.and_eq_true,bne_iff_ne,ne_eq] at this
        refine ⟨?_,this.2.2⟩
        rw[← this.1,hput,← hd1]
        cases d with
        | none=>rfl
        | some t=>simp only[Env.put]; rw[if_neg]; intro e; subst e; exact this.2.1 rfl) (IX he1) hx
      rw[hput] at tr
      refine ⟨_,h'',?_,.cons st hd tr,he2,(Lv hcm).trans hcm2,hro.cons (by rw[hb1]; exact hl)⟩
      rw[ha,List.append_assoc,← MM hlo hhi]; rfl
    · simp at hx
theorem Dz {fz:Fz} (hn:n≤8000) (d:Nat) (w:Bool) (h:aB):∀ (l:List (Option Nat × SB)) (os:List Oper) (e e':ES) (a a':List Rec),
    cZ P n all fz os=some (l.map fun (d',b)=>⟨d',some (d,w),b⟩)→(e.T d=.val (.bool !w)∨e.T d=.bk [])→(l.all fun x=>x.1 != some d)=true→gx h e→tz l a e=(e',a') →
    ∃ recs,a'=a ++ recs∧Tr P n all os e.T h recs e'.T h∧gx h e'∧e'.w=e.w∧eT P false (l.map fun (d',b)=>⟨d',some (d,w),b⟩) recs
  | [],os,e,e',a,a',hc,hd,hl,he,hx=>by
    have:=jK hc; subst this
    simp only[tz,Prod.mk.injEq] at hx; obtain ⟨rfl,rfl⟩:=hx
    exact ⟨[],by simp,.nil,he,rfl,.nil⟩
  | (d',b) :: l,os,e,e',a,a',hc,hd,hl,he,hx=>by
    obtain ⟨o,r,rfl,h1,h2⟩:=kc hc
    obtain ⟨hd0,hd1,hb1,hg1⟩:=qP h1
    simp only at hd1 hb1 hg1
    have hgv:cP n all e.T o=some false:=by
      rcases hd with hd | hd
      · rw[(jI (T:=e.T) hg1).1 _ hd]; cases w <;> rfl
      · exact (jI (T:=e.T) hg1).2 hd
    simp only[List.all_cons,Bool.and_eq_true,bne_iff_ne,ne_eq] at hl
    have hput:(e.put d' (.bk [])).T=e.T.put o.dst (.bk []):=by
      rw[ES.MI (by rw[hd1]; exact NA hd0 hn),hd1]
    simp only[tz] at hx
    obtain ⟨recs,ha,tr,he2,hd2,hro⟩:=Dz hn d w h l r (e.put d' (.bk [])) e' _ a' h2 (by
      have:(e.put d' (.bk [])).T d=e.T d:=by
        rw[hput,← hd1]
        cases d' with
        | none=>rfl
        | some t=>simp only[Env.put]; rw[if_neg]; intro e; subst e; exact hl.1 rfl
      rw[this]; exact hd) hl.2 (IX he) hx
    rw[hput] at tr
    refine ⟨_,?_,Tr.cons (.skip hgv) hd0 tr,he2,by rw[hd2,Mv],hro.cons (r:=⟨[],[],false,h.length,h.length⟩) ⟨fun _=>⟨rfl,rfl,rfl,rfl⟩,fun _=>rfl⟩⟩
    rw[ha,List.append_assoc,Ml,he.2]; rfl
theorem Bp {fz:Fz} (hn:n≤8000) {d:Nat} {w:Bool} {h:aB} {l:List (Option Nat × SB)} {os:List Oper} {e e':ES} {a a':List Rec}
    (hc:cZ P n all fz os=some (l.map fun (d',b)=>⟨d',some (d,w),b⟩)) (hd:e.T d=.val (.bool !w)∨e.T d=.bk []) (hl:(l.all fun x=>x.1 != some d)=true) (he:gx h e) (hx:tz l a e=(e',a')) :
    ∃ recs h',a'=a ++ recs∧Tr P n all os e.T h recs e'.T h'∧gx h' e'∧Calm e e' h h'∧eT P false (l.map fun (d',b)=>⟨d',some (d,w),b⟩) recs:=by
  obtain ⟨recs,h1,h2,h3,h4,h5⟩:=Dz hn d w h l os e e' a a' hc hd hl he hx
  exact ⟨recs,h,h1,h2,h3,⟨Nat.le_refl _,fun id _ hw=>⟨rfl,by rw[h4] at hw; exact hw⟩⟩,h5⟩
theorem OL {call:gg} (hcall:jl P call) (hn:n≤8000) {fz:Fz} {g:SG} {os:List Oper} {e e':ES} {h:aB} {a a':List Rec} (hc:cZ P n all fz os=some g.flat) (hok:qY g=true) (he:gx h e) (hx:eG P call g a e=some (e',a')) :
    ∃ recs h',a'=a ++ recs∧Tr P n all os e.T h recs e'.T h'∧gx h' e'∧Calm e e' h h'∧eT P false g.flat recs:=by
  unfold eG at hx
  unfold SG.flat at hc ⊢
  unfold qY at hok
  split at hx
  · rename_i hg
    rw[hg] at hc ⊢
    exact D8 hcall hn none g.ops os e e' h a a' hc (fun d w e=>by simp at e) he hx
  · rename_i d want hg
    rw[hg] at hc hok ⊢
    simp only at hok
    unfold Ky at hx
    split at hx
    · rename_i b hb
      split at hx
      · rename_i hxor
        simp only[Option.some.injEq] at hx
        have e':b = !want:=by cases b <;> cases want <;> simp_all
        subst e'
        exact Bp hn hc (.inl hb) hok he hx
      · rename_i hxor
        have e':b=want:=by cases b <;> cases want <;> simp_all
        subst e'
        exact D8 hcall hn (some (d,b)) g.ops os e _ h a a' hc (fun d' w e=>by simp at e; obtain ⟨rfl,rfl⟩:=e; exact ⟨hb,hok⟩) he hx
    · rename_i hb
      simp only[Option.some.injEq] at hx
      exact Bp hn hc (.inr hb) hok he hx
    · simp at hx
theorem KK {call:gg} (hcall:jl P call) (hn:n≤8000) {fz:Fz} : ∀ (gs:List SG) (os:List Oper) (e e':ES) (h:aB) (a a':List Rec),cZ P n all fz os=some (iV gs)→gs.all qY=true→gx h e→KQ P call gs a e=some (e',a') →
    ∃ recs h',a'=a ++ recs∧Tr P n all os e.T h recs e'.T h'∧gx h' e'∧Calm e e' h h'∧eT P false (iV gs) recs
  | [],os,e,e',h,a,a',hc,_,he,hx=>by
    have:=jK hc; subst this
    simp only[KQ,Option.some.injEq,Prod.mk.injEq] at hx; obtain ⟨rfl,rfl⟩:=hx
    exact ⟨[],h,by simp,.nil,he,Calm.refl _ _,.nil⟩
  | g :: gs,os,e,e',h,a,a',hc,hok,he,hx=>by
    simp only[iV,List.map_cons,List.flatten_cons] at hc ⊢
    simp only[List.all_cons,Bool.and_eq_true] at hok
    obtain ⟨o1,o2,rfl,h1,h2⟩:=oK hc
    simp only[KQ] at hx
    split at hx
    · rename_i e1 a1 hx1
      obtain ⟨r1,h1',ha1,tr1,he1,hc1,ro1⟩:=OL hcall hn h1 hok.1 he hx1
      obtain ⟨r2,h2',ha2,tr2,he2,hc2,ro2⟩:=KK hcall hn gs o2 e1 e' h1' a1 a' h2 hok.2 he1 hx
      exact ⟨_,h2',by rw[ha2,ha1,List.append_assoc],tr1.append tr2,he2,hc1.trans hc2,ro1.append ro2⟩
    · simp at hx
theorem JY {ls:List Nat} {i k x y:Nat} (hik:i < k) (hx:ls[i]?=some x) (hy:ls[k]?=some y) (ho:ordered (eA all []) i k=false) (h:¬ (x=0∨y=0∨(x≤1∧y≤1))):(i,k)∈z2 all ls:=by
  unfold z2
  simp only[List.mem_flatten,List.mem_map]
  refine ⟨_,⟨(x,i),by rw[List.mem_zipIdx_iff_getElem?]; exact hx,rfl⟩,?_⟩
  simp only[List.mem_map,List.mem_filter]
  refine ⟨(y,k),⟨by rw[List.mem_zipIdx_iff_getElem?]; exact hy,?_⟩,rfl⟩
  simp only[hik,decide_true,ho,Bool.false_or,Bool.true_and,Bool.not_eq_true',Bool.or_eq_false_iff,beq_eq_false_iff_ne,Bool.and_eq_false_iff,decide_eq_false_iff_not]
  omega
theorem L6 {ls:List Nat} {recs:List Rec} (h:Je recs (z2 all ls)=true) (hl:ls.length=recs.length) (hr:∀ (i x:Nat) (r:Rec),ls[i]?=some x→recs[i]?=some r→jE x r.rd r.wr r.call r.lo r.hi):rQ all recs:=by
  intro i k a b hik ha hb ho
  have hi:i < recs.length:=(List.getElem?_eq_some_iff.1 ha).1
  have hk:k < recs.length:=(List.getElem?_eq_some_iff.1 hb).1
  have hx:ls[i]?=some (ls[i]'(by omega)):=List.getElem?_eq_getElem (by omega)
  have hy:ls[k]?=some (ls[k]'(by omega)):=List.getElem?_eq_getElem (by omega)
  generalize ls[i]'(by omega)=x at hx
  generalize ls[k]'(by omega)=y at hy
  have la:=hr i _ a hx ha
  have lb:=hr k _ b hy hb
  by_cases hc:x=0∨y=0∨(x≤1∧y≤1)
  · rcases hc with h1 | h1 | h1
    · obtain ⟨e1,e2,e3,e4⟩:=la.1 h1
      exact ⟨fun id hid=>by simp[e2] at hid,fun id _=>by simp[e1],fun hc=>by simp[e3] at hc,fun _=>e2,fun id _ hx=>by omega⟩
    · obtain ⟨e1,e2,e3,e4⟩:=lb.1 h1
      exact ⟨fun id _=>by simp[e1],fun id hid=>by simp[e2] at hid,fun _=>e2,fun hc=>by simp[e3] at hc,fun id hid=>by simp[e2] at hid⟩
    · have e1:=la.2 h1.1
      have e2:=lb.2 h1.2
      exact ⟨fun id hid=>by simp[e1] at hid,fun id hid=>by simp[e2] at hid,fun _=>e2,fun _=>e1,fun id hid=>by simp[e2] at hid⟩
  · have:=List.all_eq_true.1 h _ (JY hik hx hy ho hc)
    simp only[ha,hb] at this
    exact KR this
theorem Nb (hm:P.follows .mixedOrders=true) {call:gg} (hcall:jl P call) (hn:n≤8000) {fz:List Nat} {id:Nat} {ops:Array Oper} {draw:Bool} {sc:DC} {run:uH} {e e':ES} {r:Exit} {h:aB}
    (hc:Dv P n fz ops.toList draw=some sc) (he:gx h e) (hx:kD P call run sc e=some (r,e')) :
    ∃ h',ct P n (.region id ops draw) e.T h r e'.T h'∧gx h' e'∧Calm e e' h h':=by
  unfold Dv at hc
  split at hc
  · simp at hc
  · rename_i l hl
    split at hc
    · simp at hc
    · rename_i hok
      have hok:(group l).all qY=true:=by simpa using hok
      have hl':cZ P n ops.toList ⟨fz,false⟩ ops.toList=some (iV (group l)):=by rw[fo]; exact hl
      have key:∀ ps,kD P call run (.region ps (group l)) e=some (r,e')→(draw=true→ko ops.toList=true∧ps=z2 ops.toList (l.map fun s=>gT P false s.b)) →
          ∃ h',ct P n (.region id ops draw) e.T h r e'.T h'∧gx h' e'∧Calm e e' h h':=by
        intro ps hx hdr
        simp only[kD,Gn] at hx
        split at hx
        · rename_i e1 recs0 hx1
          split at hx
          · rename_i hchk
            simp only[Option.some.injEq,Prod.mk.injEq] at hx
            obtain ⟨rfl,rfl⟩:=hx
            obtain ⟨recs,h',ha,tr,hk,hcm,hro⟩:=KK hcall hn (group l) ops.toList e e1 h [] recs0 hl' hok he hx1
            simp only[List.nil_append] at ha
            subst ha
            rw[fo] at hro
            refine ⟨h',?_,hk,hcm⟩
            cases hd:draw with
            | false=>simpa using En (id:=id) tr
            | true =>
              obtain ⟨h1,rfl⟩:=hdr hd
              have hcf:rQ ops.toList recs0:=L6 hchk (by simpa using hro.1) (fun i x r hx hr=>by
                simp only[List.getElem?_map,Option.map_eq_some_iff] at hx
                obtain ⟨s,hs,rfl⟩:=hx
                exact hro.2 i s r hs hr)
              simpa using we hm (id:=id) tr h1 hcf
          · simp at hx
        · simp at hx
      split at hc
      · rename_i hd
        split at hc
        · rename_i ht
          simp at hc; subst hc
          exact key _ hx (fun _=>⟨ht,rfl⟩)
        · simp at hc
      · rename_i hd
        simp at hc; subst hc
        exact key _ hx (fun e=>absurd e hd)
theorem Mc (hm:P.follows .mixedOrders=true) {call:gg} (hcall:jl P call) {run:uH} (hrun:uj P run):uj P (kD P call run):=by
  intro n fz c sc hc hn e e' r h hx he
  cases c with
  | skip =>
    simp[gQ] at hc; subst hc
    simp only[kD,I5,Option.some.injEq,Prod.mk.injEq] at hx
    obtain ⟨rfl,rfl⟩:=hx
    exact ⟨h,.skip,he,Calm.refl _ _,fun _ h=>by simp at h⟩
  | region id ops draw =>
    obtain ⟨h',a,b,d⟩:=Nb (id:=id) hm hcall hn hc he hx
    exact ⟨h',a,b,d,fun _ h=>by simp at h⟩
  | seq x y =>
    simp only[gQ] at hc
    split at hc
    · rename_i a b h1 h2
      simp at hc; subst hc
      simp only[kD,Od] at hx
      split at hx
      · rename_i e1 hx1
        obtain ⟨h1',x1,he1,c1,l1⟩:=hrun n fz x a h1 hn e e1 .normal h hx1 he
        obtain ⟨h2',x2,he2,c2,l2⟩:=hrun n fz y b h2 hn e1 e' r h1' hx he1
        exact ⟨h2',x1.seq x2,he2,c1.trans c2,fun _ h=>by simp at h⟩
      · rename_i hne
        obtain ⟨h1',x1,he1,c1,l1⟩:=hrun n fz x a h1 hn e e' r h hx he
        refine ⟨h1',x1.Gp (fun e=>?_),he1,c1,fun _ h=>by simp at h⟩
        subst e
        exact absurd hx (hne e')
    · simp at hc
  | cond cc x y =>
    simp only[gQ] at hc
    split at hc
    · rename_i a b h1 h2
      simp at hc; subst hc
      simp only[kD,Mm,SX.cg] at hx
      split at hx
      · rename_i ht
        obtain ⟨h1',x1,he1,c1,l1⟩:=hrun n fz x a h1 hn e e' r h hx he
        exact ⟨h1',.cond ht x1,he1,c1,fun _ h=>by simp at h⟩
      · rename_i ht
        obtain ⟨h1',x1,he1,c1,l1⟩:=hrun n fz y b h2 hn e e' r h hx he
        exact ⟨h1',.cond ht x1,he1,c1,fun _ h=>by simp at h⟩
      · simp at hx
    · simp at hc
  | block id c =>
    simp only[gQ,Option.map_eq_some_iff] at hc
    obtain ⟨a,h1,rfl⟩:=hc
    simp only[kD,Jk] at hx
    split at hx
    · rename_i r1 e1 hx1
      simp only[Option.some.injEq,Prod.mk.injEq] at hx
      obtain ⟨rfl,rfl⟩:=hx
      obtain ⟨h1',x1,he1,c1,l1⟩:=hrun n fz c a h1 hn e e1 r1 h hx1 he
      exact ⟨h1',x1.block,he1,c1,fun _ h=>by simp at h⟩
    · simp at hx
  | loop c =>
    have hc0:=hc
    simp only[gQ,Option.map_eq_some_iff] at hc
    obtain ⟨a,h1,rfl⟩:=hc
    simp only[kD,Mn] at hx
    split at hx
    · rename_i e1 hx1
      obtain ⟨h1',x1,he1,c1,l1⟩:=hrun n fz c a h1 hn e e1 .normal h hx1 he
      obtain ⟨h2',x2,he2,c2,l2⟩:=hrun n fz (.loop c) (.loop a) hc0 hn e1 e' r h1' hx he1
      have hL:=nH.step x1 (l2 c rfl)
      exact ⟨h2',.loop hL,he2,c1.trans c2,fun c0 h0=>by simp only[Code.loop.injEq] at h0; subst h0; exact hL⟩
    · rename_i hne
      obtain ⟨h1',x1,he1,c1,l1⟩:=hrun n fz c a h1 hn e e' r h hx he
      have hL:=nH.out x1 (fun e=>by subst e; exact absurd hx (hne e'))
      exact ⟨h1',.loop hL,he1,c1,fun c0 h0=>by simp only[Code.loop.injEq] at h0; subst h0; exact hL⟩
  | exit id =>
    simp[gQ] at hc; subst hc
    simp only[kD,Option.some.injEq,Prod.mk.injEq] at hx
    obtain ⟨rfl,rfl⟩:=hx
    exact ⟨h,.exit,he,Calm.refl _ _,fun _ h=>by simp at h⟩
  | ret =>
    simp[gQ] at hc; subst hc
    simp only[kD,Option.some.injEq,Prod.mk.injEq] at hx
    obtain ⟨rfl,rfl⟩:=hx
    exact ⟨h,.ret,he,Calm.refl _ _,fun _ h=>by simp at h⟩
  | _=>simp[gQ] at hc
theorem Cp:∀ (vs:List V) (i:Nat) (t:bY V),i+vs.length≤8000→∀ k,(ll vs i t).get .any k=if i≤k∧k < i+vs.length then vs.getD (k - i) .any else t.get .any k
  | [],i,t,h,k=>by
    rw[ll,if_neg (by simp only[List.length_nil]; omega)]
  | v :: vs,i,t,h,k=>by
    simp only[List.length_cons] at h
    rw[ll,Cp vs (i+1) _ (by omega),bY.lg _ _ _ _ _ _ (by simp only[deep]; omega)]
    simp only[List.length_cons]
    by_cases h1:k=i
    · subst h1; rw[if_neg (by omega),if_pos rfl,if_pos (by omega)]; simp
    · by_cases h2:i+1≤k∧k < i+1+vs.length
      · rw[if_pos h2,if_pos (by omega)]
        have:k - i=(k - (i+1))+1:=by omega
        rw[this]; rfl
      · rw[if_neg h2,if_neg h1,if_neg (by omega)]
theorem Fu (vs:List V) (h:vs.length≤8000):(ll vs 0 .nil).get .any=jX vs:=by
  funext k
  rw[Cp vs 0 .nil (by omega)]
  simp only[jX,Nat.zero_le,true_and,Nat.zero_add,Nat.sub_zero]
  split
  · rfl
  · rename_i hk
    rw[List.getD_eq_getElem?_getD,List.getElem?_eq_none (by omega)]; rfl
theorem Nq {e:ES} {h:aB} {r:ResultVar} {rest:List ResultVar} {l:List SR} (he:gx h e) (hc:eC P (r :: rest)=some l):∃ s l',l=s :: l'∧eC P rest=some l'∧∀ v,Mb s e=some v→pH P e.T h r=some v:=by
  cases r with
  | tmp t =>
    simp only[eC,Option.map_eq_some_iff] at hc
    obtain ⟨l',h1,rfl⟩:=hc
    exact ⟨.tmp t,l',rfl,h1,fun v hv=>hv⟩
  | cell a t =>
    simp only[eC] at hc
    split at hc
    · rename_i k l' h1 h2
      simp at hc; subst hc
      refine ⟨.cell a k,l',rfl,h2,fun v hv=>?_⟩
      simp only[Mb] at hv
      simp only[pH,kE,tc h1]
      rw[he.1] at hv
      split at hv
      · rename_i id i j ha
        split at hv
        · rename_i es hH
          split at hv
          · rename_i hlt
            rw[ha]; simp only[hH]; rw[if_pos hlt,hv]; rfl
          · simp at hv
        · simp at hv
      · rename_i e j ha
        rw[ha]; simp only; rw[hv]; rfl
      · simp at hv
    · simp at hc
theorem D5 {e:ES} {h:aB} (he:gx h e):∀ (rs:List ResultVar) (l:List SR) (vs:List V),eC P rs=some l→tR l e=some vs→kd P e.T h rs=some vs
  | [],l,vs,hc,hw=>by simp[eC] at hc; subst hc; simp[tR] at hw; subst hw; rfl
  | r :: rest,l,vs,hc,hw=>by
    obtain ⟨s,l',rfl,h1,h2⟩:=Nq (e:=e) (h:=h) he hc
    simp only[tR] at hw
    split at hw
    · rename_i v vs' hv hvs
      simp at hw; subst hw
      simp[kd,h2 v hv,D5 he rest l' vs' h1 hvs]
    · simp at hw
def tM (P:Program) (tab:List (FuncId × DF)):Prop:=∀ p∈tab,∃ fz,aS P p.1 fz=some p.2
def pY (P:Program) (ext:wM):Prop:=∀ g vs H t,ext g vs H=some t→cX P g=true∧∀ h:aB,h.view=H→bA P g vs h t h
theorem Eb {tab:List (FuncId × DF)} {ext:wM} (ht:tM P tab) (hx:pY P ext) {run:uH} (hrun:uj P run):jl P (CV P tab ext run):=by
  intro g vs e v e' h hcall he
  unfold CV at hcall
  split at hcall
  · rename_i t hext
    simp only[Option.some.injEq,Prod.mk.injEq] at hcall
    obtain ⟨rfl,rfl⟩:=hcall
    obtain ⟨h1,h2⟩:=hx _ _ _ _ hext
    exact ⟨h1,h,h2 h he.1.symm,he,fun _ _ _=>rfl,fun _ hw=>by simp at hw⟩
  · split at hcall
    · rename_i g' F hf
      have hmem:=List.mem_of_find?_eq_some hf
      have hgg:g'=g:=by
        have:=List.find?_some hf
        exact Nat.eq_of_beq_eq_true this
      subst hgg
      obtain ⟨fz,hF⟩:=ht _ hmem
      simp only at hF
      unfold aS at hF
      split at hF
      · rename_i fn hfn
        split at hF
        · rename_i c hb
          split at hF
          · rename_i sc rs h1 h2 h3
            simp at hF; subst hF
            refine ⟨h3,?_⟩
            unfold N0 at hcall
            split at hcall
            · rename_i hlen hn
              have hlen:=Nat.le_of_ble_eq_true hlen
              have hn:=Nat.le_of_ble_eq_true hn
              simp only at hlen hn
              unfold Ob at hcall
              split at hcall
              · rename_i v1 e1' hend
                simp only[Option.some.injEq,Prod.mk.injEq] at hcall
                obtain ⟨rfl,rfl⟩:=hcall
                unfold NP at hend
                have go:∀ (r:Exit) (e1:ES),(r=.ret∨r=.normal)→run sc ⟨ll vs 0 .nil,e.H,e.n,[]⟩=some (r,e1)→(tR rs e1).map (fun vs=>(ah vs,e1))=some (v1,e1') →
                    ∃ h',bA P g' vs h v1 h'∧gx h' e1'∧(∀ id,id < h.length→¬ id∈e1'.w→h'.view id=h.view id):=by
                  intro r e1 hr hrn hres
                  simp only[Option.map_eq_some_iff,Prod.mk.injEq] at hres
                  obtain ⟨vs',hvs,rfl,rfl⟩:=hres
                  obtain ⟨h',hx,he1,hc1,_⟩:=hrun fn.ntmps fz c sc h1 hn _ e1 r h hrn he
                  have hT:(ES.T ⟨ll vs 0 .nil,e.H,e.n,[]⟩)=jX vs:=Fu vs (by omega)
                  rw[hT] at hx
                  refine ⟨h',bA.G6 hfn hb hlen hx (by rcases hr with rfl | rfl <;> simp) ?_,he1,fun id hid hw=>(hc1.2 id hid hw).1⟩
                  unfold Hr
                  rw[D5 he1 _ _ _ h2 hvs]
                  cases vs' with
                  | nil=>rfl
                  | cons a l=>cases l <;> rfl
                have done:(∃ h',bA P g' vs h v1 h'∧gx h' e1'∧(∀ id,id < h.length→¬ id∈e1'.w→h'.view id=h.view id)) →
                    ∃ h',bA P g' vs h v1 h'∧gx h' ⟨e1'.L,e1'.H,e1'.n,e1'.w.filter fun id=>Nat.blt id e.n⟩∧(∀ id,id < h.length→¬ id∈e1'.w.filter (fun id=>Nat.blt id e.n)→h'.view id=h.view id)∧∀ id,id∈e1'.w.filter (fun id=>Nat.blt id e.n)→id < h.length:=by
                  rintro ⟨h',k1,k2,k3⟩
                  refine ⟨h',k1,k2,fun id hid hw=>k3 id hid (fun hm=>hw ?_),fun id hw=>?_⟩
                  · rw[List.mem_filter]
                    exact ⟨hm,by rw[he.2]; exact Nat.ble_eq_true_of_le hid⟩
                  · rw[List.mem_filter] at hw
                    have:=Nat.le_of_ble_eq_true hw.2
                    rw[he.2] at this; exact this
                split at hend
                · rename_i e1 hrn; exact done (go _ _ (.inl rfl) hrn hend)
                · rename_i e1 hrn; exact done (go _ _ (.inr rfl) hrn hend)
                · simp at hend
              · simp at hcall
            · simp at hcall
          · simp at hF
        · simp at hF
      · simp at hF
    · simp at hcall
theorem Gh (hm:P.follows .mixedOrders=true) {tab:List (FuncId × DF)} {ext:wM} (ht:tM P tab) (hx:pY P ext):∀ k,uj P (Ee P tab ext k)
  | 0=>fun n fz c sc hc hn e e' r h hr he=>by simp[Ee] at hr
  | k+1=>by
    have ih:=Gh hm ht hx k
    have:=Mc hm (Eb ht hx ih) ih
    exact this
end
inductive dA (h:aB):V→V→Prop
  | val (v:Value):dA h (.val v) (.val v)
  | emp (k:Nat):dA h (.emp k) (.aV [])
  | sl (id off len esz z:Nat) (es es':List (List V)):h.view id=.arr z es→off+len≤es.length→es'.length=len →
      (∀ i,i < len→(es'.getD i []).length=(es.getD (off+i) []).length) →
      (∀ i j,i < len→j < (es'.getD i []).length→dA h ((es.getD (off+i) []).getD j .any) ((es'.getD i []).getD j .any))→dA h (.sl id off len esz) (.aV es')
  | agg (cs cs':List V):cs'.length=cs.length→(∀ i,i < cs.length→dA h (cs.getD i .any) (cs'.getD i .any))→dA h (.agg cs) (.agg cs')
  | bk (cs cs':List V):cs'.length=cs.length→(∀ i,i < cs.length→dA h (cs.getD i .any) (cs'.getD i .any))→dA h (.bk cs) (.bk cs')
theorem MJ {h:aB} {Z:Nat→Prop} {μ ν:Mu} {F:View} {hp:Array Obj} (hr:fS Z μ hp (cat h F)) {v t:V} (fr:dA h v t):∀ {x:Value},az Z μ hp v x→az (gP μ) ν hp t x:=by
  have hcat:∀ id,h.view id≠.dead→cat h F id=h.view id:=fun id hd=>by simp only[cat]; rw[if_pos (ga hd)]
  induction fr with
  | val v=>intro x hx; cases hx with | val _ hv=>exact .val _ hv
  | emp k=>intro x hx; cases hx with | emp _ a=>exact .gh a 0 (fun _=>rfl)
  | sl id off len esz z es es' hH hle hlen hl _ ih =>
    intro x hx
    cases hx with
    | mR _ _ _ a =>
      have:es'=[]:=List.length_eq_zero_iff.1 hlen
      subst this
      exact .gh a 0 (fun _=>rfl)
    | sl _ _ _ _ b o0 cap c e f hm hlec hb hs =>
      have hor:=hr.obj id
      rw[hcat id (by rw[hH]; simp),hH] at hor
      obtain ⟨rfl,_,h3,h4⟩:=hor b o0 esz hm
      have hx:∀ i,∃ ci:Nat→Value,∀ j,j < esz→i < len→cellAt hp b (o0+off * esz+i * esz+j)=some (ci j)∧az Z μ hp ((es.getD (off+i) []).getD j .any) (ci j):=by
        intro i
        by_cases hi:i < len
        · obtain ⟨ci,hci⟩:=lL (n:=esz) (p:=fun j x=>cellAt hp b (o0+off * esz+i * esz+j)=some x∧az Z μ hp ((es.getD (off+i) []).getD j .any) x) (fun j hj=>by
            obtain ⟨x,hx,hv⟩:=h4 (off+i) j (by omega) hj
            rw[Nat.add_mul,← Nat.add_assoc] at hx
            exact ⟨x,hx,hv⟩)
          exact ⟨ci,fun j hj _=>hci j hj⟩
        · exact ⟨fun _=>undef,fun j _ h=>absurd h hi⟩
      obtain ⟨cf,hcf⟩:=Classical.axiomOfChoice hx
      have hel:∀ i,i < es'.length→(es'.getD i []).length=esz:=fun i hi=>by rw[hl i (by omega)]; exact h3 _ (by omega)
      have:=az.aV (Z:=gP μ) (μ:=ν) (hp:=hp) es' b (o0+off * esz) esz cap cf ⟨id,o0,esz,hm⟩ (by omega) hel
        (fun i j hi hj=>(hcf i j hj (by omega)).1) (fun i j hi hj=>ih i j (by omega) (by rw[hel i hi]; exact hj) (hcf i j hj (by omega)).2)
      rw[hlen] at this
      exact this
  | agg cs cs' hlen _ ih =>
    intro x hx
    cases hx with
    | agg _ aas h1 h2=>exact .agg _ _ (by omega) (fun i hi=>ih i (by omega) (h2 i (by omega)))
  | bk cs cs' hlen _ ih =>
    intro x hx
    cases hx with
    | bk _ aas h1 h2=>exact .bk _ _ (by omega) (fun i hi=>ih i (by omega) (h2 i (by omega)))
def dF (P:Program) (f:FuncId) (vs:List V) (t:V):Prop :=
  ∀ Z μ (w:World) (xs:List Value),dT Z μ w.heap vs xs→(∀ b,Z b→b < w.heap.size) →
    Calls P f xs.toArray w fun e w'=>∃ x Z',e=.returned x∧(∀ ν,az Z' ν w'.heap t x)∧dG w w'∧(∀ b,Z' b→w.heap.size≤b∧b < w'.heap.size)∧eS w.heap w'.heap (fun _=>False)
theorem dF.pure {P:Program} {f:FuncId} {vs:List V} {t:V} (h:dF P f vs t):aC P f vs t:=by
  intro Z μ w xs hrel hz
  refine (h Z μ w xs hrel hz).mono ?_
  rintro e w' ⟨x,Z',rfl,hv,hs,hz',ho⟩
  exact ⟨x,fun b=>Z b∨Z' b,rfl,fun ν=>(hv ν).mono ⟨fun _ h=>.inr h,fun _ _=>rfl,fun _ _ h=>h,ey.refl _⟩,hs,fun _ h=>.inl h,fun b hb=>hb.imp id (hz' b),ho⟩
theorem dF.uo {P:Program} {f:FuncId} {vs:List V} {r t:V} {h':aB} (ht:∀ v∈vs,Tree v) (hc:bA P f vs [] r h') (hf:dA h' r t):dF P f vs t:=by
  intro Z μ w xs hrel hz
  have hrel0:dT Z (fun _=>none) w.heap vs xs:=⟨hrel.1,fun i hi=>tv (hrel.2 i hi) (by
    simp only[List.getD_eq_getElem?_getD,List.getElem?_eq_getElem hi,Option.getD_some]
    exact ht _ (List.getElem_mem _))⟩
  have hr0:fS Z (fun _=>none) w.heap (cat [] fun _=>.dead):=by
    rw[AB]
    exact ⟨fun _=>trivial,fun i j b o s o' s' _ h=>by simp at h,fun id b o s h=>by simp at h,hz,fun id b o s h=>by simp at h⟩
  refine (hc.2 Z _ _ w xs hrel0 hr0 (fun _ _ _=>rfl)).mono ?_
  rintro e w' ⟨x,Z',μ',rfl,hv,hh,hex,_⟩
  refine ⟨x,gP μ',rfl,fun ν=>MJ hh hf hv,hex.same,?_,fun b hb _=>hex.frame b hb (by rintro ⟨_,_,_,h⟩; simp at h)⟩
  rintro b ⟨id,o,s,hb⟩
  rcases hex.zk _ _ _ _ hb with h1 | ⟨_,h1 | ⟨_,_,_,h1⟩⟩
  · simp at h1
  · exact ⟨h1,hh.lt _ _ _ _ hb⟩
  · simp at h1
theorem dF.of {P:Program} {f:FuncId} {vs:List V} {t:V} (ht:∀ v∈vs,Tree v) (h:aA P f vs (fun _=>.dead) fun r H'=>∀ h':aB,h'.view=H'→dA h' r t):dF P f vs t:=by
  obtain ⟨r,h',ha,_,hf⟩:=h.2 [] B6
  exact dF.uo ht ha (hf h' rfl)
theorem bA.sf {P:Program} {f:FuncId} {ts vs:List V} {t:V} {h:aB} (hc:dF P f ts t) (hl:ts.length=vs.length)
    (hfr:∀ i,i < vs.length→Fr h (vs.getD i .any) (ts.getD i .any)):bA P f vs h t h:=by
  refine ⟨Nat.le_refl _,fun Z μ F w xs hrel hr hfree=>?_⟩
  have hts:dT (fun b=>Z b∨gP μ b) μ w.heap ts xs:=⟨by rw[hl,hrel.1],fun i hi=>Aa hr (hfr i (by omega)) (hrel.2 i (by omega))⟩
  have hzl:∀ b,(Z b∨gP μ b)→b < w.heap.size:=by
    rintro b (hb | ⟨id,o,s,hb⟩)
    · exact hr.ca b hb
    · exact hr.lt _ _ _ _ hb
  refine (hc _ μ w xs hts hzl).mono ?_
  rintro e w' ⟨x,Z',rfl,hv,hs,hz',ho⟩
  have hm:fw Z (fun b=>Z b∨Z' b) μ μ w.heap w'.heap:=⟨fun _ h=>.inl h,fun b hb=>ho b (hr.ca b hb) (fun x=>x),fun _ _ h=>h,ho.nK⟩
  refine ⟨x,fun b=>Z b∨Z' b,μ,rfl,(hv μ).mono ⟨fun _ h=>.inr h,fun _ _=>rfl,fun _ _ h=>h,ey.refl _⟩,⟨fun id=>(hr.obj id).mono hm rfl (fun b o s hx=>ho b (hr.lt _ _ _ _ hx) (fun x=>x)),hr.inj,fun id b o s hx=>Nat.lt_of_lt_of_le (hr.lt _ _ _ _ hx) hs.size,fun b hb=>?_,fun id b o s hx hzb=>?_⟩,
    ⟨hs,hm,fun b hb _=>ho b hb (fun x=>x),fun b hb=>hb.imp id (fun h=>(hz' b h).1),fun _ _ _ _ h=>.inl h⟩,fun _ _=>rfl⟩
  · rcases hb with hb | hb
    · exact Nat.lt_of_lt_of_le (hr.ca b hb) hs.size
    · exact (hz' b hb).2
  · rcases hzb with hb | hb
    · exact hr.fE _ _ _ _ hx hb
    · have:=hr.lt _ _ _ _ hx; have:=(hz' b hb).1; omega
theorem aE.sf {P:Program} {q:Bool} {f:FuncId} {H:View} {vs ts:List V} {K:V→View→Prop} {v:cw (H,K)} {t:V} (hc:dF P f ts t) (hok:cX P f=true) (hl:ts.length=vs.length)
    (hfr:∀ i,i < vs.length→en H (vs.getD i .any) (ts.getD i .any)) (hk:K t H):aE P q f vs H K v:=by
  unfold aE
  cases q with
  | true=>exact ⟨hok,fun h e=>⟨t,h,bA.sf hc hl (fun i hi=>hfr i hi h e),fun _ _=>rfl,e ▸ hk⟩⟩
  | false =>
    refine ⟨hok,?_⟩
    rintro h rfl
    exact ⟨t,h,bA.sf hc hl (fun i hi=>hfr i hi h rfl),.refl _,hk⟩
noncomputable def l8 (fz:V→Option V):List V→Option (List V)
  | []=>some []
  | v :: l=>match fz v,l8 fz l with
    | some a,some b=>some (a :: b)
    | _,_=>none
noncomputable def AS (fz:V→Option V):List (List V)→Option (List (List V))
  | []=>some []
  | v :: l=>match l8 fz v,AS fz l with
    | some a,some b=>some (a :: b)
    | _,_=>none
noncomputable def wN (H:View):Nat→V→Option V
  | 0,_=>none
  | k+1,v=>match v with
    | .val x=>some (.val x)
    | .emp _=>some (.aV [])
    | .sl id off len _=>match H id with
      | .arr _ es=>if off+len≤es.length then (AS (wN H k) ((es.drop off).take len)).map .aV else none
      | _=>none
    | .agg cs=>(l8 (wN H k) cs).map .agg
    | .bk cs=>(l8 (wN H k) cs).map .bk
    | _=>none
theorem fZ {fz:V→Option V} : ∀ (l l':List V),l8 fz l=some l'→l'.length=l.length∧∀ i,i < l.length→fz (l.getD i .any)=some (l'.getD i .any)
  | [],l',h=>by simp only[l8,Option.some.injEq] at h; subst h; exact ⟨rfl,fun i hi=>by simp at hi⟩
  | v :: l,l',h=>by
    simp only[l8] at h
    split at h
    · rename_i a b h1 h2
      simp only[Option.some.injEq] at h; subst h
      obtain ⟨g1,g2⟩:=fZ l b h2
      refine ⟨by simp[g1],fun i hi=>?_⟩
      cases i with
      | zero=>exact h1
      | succ i=>exact g2 i (by simpa using hi)
    · simp at h
theorem Bh {fz:V→Option V} : ∀ (l l':List (List V)),AS fz l=some l'→l'.length=l.length∧∀ i,i < l.length→l8 fz (l.getD i [])=some (l'.getD i [])
  | [],l',h=>by simp only[AS,Option.some.injEq] at h; subst h; exact ⟨rfl,fun i hi=>by simp at hi⟩
  | v :: l,l',h=>by
    simp only[AS] at h
    split at h
    · rename_i a b h1 h2
      simp only[Option.some.injEq] at h; subst h
      obtain ⟨g1,g2⟩:=Bh l b h2
      refine ⟨by simp[g1],fun i hi=>?_⟩
      cases i with
      | zero=>exact h1
      | succ i=>exact g2 i (by simpa using hi)
    · simp at h
theorem GV (h:aB):∀ (k:Nat) (v t:V),wN h.view k v=some t→dA h v t
  | 0,v,t,hf=>by simp[wN] at hf
  | k+1,v,t,hf=>by
    have ih:=GV h k
    simp only[wN] at hf
    split at hf
    · simp only[Option.some.injEq] at hf; subst hf; exact .val _
    · simp only[Option.some.injEq] at hf; subst hf; exact .emp _
    · rename_i id off len esz
      split at hf
      · rename_i z es hH
        split at hf
        · rename_i hle
          simp only[Option.map_eq_some_iff] at hf
          obtain ⟨es',he,rfl⟩:=hf
          obtain ⟨g1,g2⟩:=Bh _ _ he
          have hlen:es'.length=len:=by rw[g1]; simp; omega
          have hg:∀ i,i < len→((es.drop off).take len).getD i []=es.getD (off+i) []:=fun i hi=>by
            simp[List.getD_eq_getElem?_getD,List.getElem?_take,hi]
          have g3:∀ i,i < len→l8 (wN h.view k) (es.getD (off+i) [])=some (es'.getD i []):=fun i hi=>by
            rw[← hg i hi]; exact g2 i (by rw[← g1,hlen]; exact hi)
          exact .sl id off len esz z es es' hH hle hlen (fun i hi=>(fZ _ _ (g3 i hi)).1) (fun i j hi hj=>ih _ _ ((fZ _ _ (g3 i hi)).2 j (by rw[← (fZ _ _ (g3 i hi)).1]; exact hj)))
        · simp at hf
      · simp at hf
    · simp only[Option.map_eq_some_iff] at hf
      obtain ⟨l,hl,rfl⟩:=hf
      obtain ⟨g1,g2⟩:=fZ _ _ hl
      exact .agg _ _ g1 (fun i hi=>ih _ _ (g2 i hi))
    · simp only[Option.map_eq_some_iff] at hf
      obtain ⟨l,hl,rfl⟩:=hf
      obtain ⟨g1,g2⟩:=fZ _ _ hl
      exact .bk _ _ g1 (fun i hi=>ih _ _ (g2 i hi))
    · simp at hf
noncomputable def Mx:Option (V × ES)→Option V
  | some (v,e)=>wN e.V 50 v
  | none=>none
noncomputable def xb (P:Program) (tab:List (FuncId × DF)) (ext:wM) (f:FuncId) (vs:List V):Option V :=
  Mx (CV P tab ext (Ee P tab ext 100000) f vs ⟨.nil,.nil,0,[]⟩)
theorem tC {P:Program} (hm:P.follows .mixedOrders=true) {tab:List (FuncId × DF)} {ext:wM} (ht:tM P tab) (hx:pY P ext) {f:FuncId} {vs:List V} {t:V} (hvs:∀ v∈vs,Tree v) (h:xb P tab ext f vs=some t) :
    dF P f vs t:=by
  unfold xb Mx at h
  split at h
  · rename_i v e hr
    obtain ⟨h1,h',h2,h3,_⟩:=Eb ht hx (Gh hm ht hx 100000) f vs _ v e [] hr ⟨by funext k; rfl,rfl⟩
    rw[h3.1] at h
    exact dF.uo hvs h2 (GV h' 50 v t h)
  · simp at h
structure an.dM (g:an):Prop where
  ax:g.ax.length≤24
  q8:1≤g.au.length
  au:g.au.length≤16
  PN:1≤g.rules.length
  rules:g.rules.length≤40
  jo:0≤g.start
  start:g.start < g.au.length
  left:∀ r∈g.rules,0≤r.left∧r.left < g.au.length
  right:∀ r∈g.rules,r.right.length≤6
  sym:∀ r∈g.rules,∀ s∈r.right,gX g s=true
  prec:∀ r∈g.rules,-1≤r.prec∧r.prec < g.ax.length
theorem vQ {g:an} : ∀ (l:List aM) (top:Int),fJ g l top=true→top≤(g.au.length:Int) - 1∧∀ r∈l,0≤r.left∧r.left < g.au.length∧gm g r=true
  | [],top,h=>by simp[fJ] at h; exact ⟨by omega,fun r hr=>by simp at hr⟩
  | r :: l,top,h=>by
    simp only[fJ,Bool.and_eq_true,decide_eq_true_eq] at h
    obtain ⟨⟨⟨h1,h2⟩,h3⟩,h4⟩:=h
    obtain ⟨k1,k2⟩:=vQ l _ h4
    have h5:r.left≤(if r.left > top then r.left else top):=by split <;> omega
    have h6:top≤(if r.left > top then r.left else top):=by split <;> omega
    refine ⟨by omega,fun r' hr=>?_⟩
    rcases List.mem_cons.1 hr with rfl | hr
    · exact ⟨h1,by omega,h3⟩
    · exact k2 r' hr
theorem bI {g:an} (h:bH g=true):g.dM:=by
  simp only[bH,iK,js,Bool.and_eq_true,decide_eq_true_eq] at h
  obtain ⟨⟨⟨⟨⟨⟨⟨h1,_⟩,⟨h2,h3⟩,_⟩,h4⟩,h5⟩,h6⟩,h7⟩,h8⟩:=h
  have k:=(vQ _ _ h8).2
  have hb:∀ r∈g.rules,r.right.length≤6∧-1≤r.prec∧r.prec < g.ax.length∧∀ s∈r.right,gX g s=true:=fun r hr=>by
    have:=(k r hr).2.2
    simp only[gm,Bool.and_eq_true,decide_eq_true_eq,List.all_eq_true,kN] at this
    exact ⟨this.1.1.1,this.1.1.2,this.1.2,fun s hs=>(this.2 s hs).1⟩
  exact ⟨h1,h2,h3,h4,h5,h6,h7,fun r hr=>⟨(k r hr).1,(k r hr).2.1⟩,fun r hr=>(hb r hr).1,fun r hr=>(hb r hr).2.2.2,fun r hr=>⟨(hb r hr).2.1,(hb r hr).2.2.1⟩⟩
theorem an.dM.neg {g:an} (h:g.dM) {r:aM} (hr:r∈g.rules) {s:Int} (hs:s∈r.right) (hn:s < 0) : -1 - s < g.au.length:=by
  have:=h.sym r hr s hs
  simp only[gX] at this
  rw[if_neg (by omega)] at this
  simpa using this
theorem DS (l:List Int) (is:List Bool) (t:Bool) (hl:aX l) (hs:∀ s∈l,cm s∧(s < 0→-1 - s < is.length)):aC Tryz.prog 117 [encI l,bM is,gb t] (gb (dy l is t)) :=
  aC.val (by
    intro v hv; simp at hv
    rcases hv with rfl | rfl | rfl
    · exact gz _
    · exact ik _
    · exact .val _) (fun H=>(Ny l is t hl hs H).mono fun r H' h=>h.1)
abbrev bV (is:List Bool):List (List V):=is.map fun x=>[gb x]
theorem ot {h:aB} {id:Nat} {is:List Bool} (hv:h.view id=.arr 1 (bV is)):dA h (.sl id 0 is.length 1) (bM is):=by
  refine .sl id 0 is.length 1 1 (bV is) _ hv (by simp) (by simp) (fun i hi=>by simp) (fun i j hi hj=>?_)
  rw[Nat.zero_add]
  have e:(bV is).getD i []=[gb is[i]]:=by simp[List.getD_eq_getElem?_getD,hi]
  rw[e] at hj ⊢
  have:j=0:=by simp at hj; omega
  subst this
  exact .val _
theorem zK {H:View} {id n:Nat} {is:List Bool} (hv:H id=.arr 1 (bV is)) (hn:n=is.length):en H (.sl id 0 n 1) (bM is):=by
  have ht:∀ e∈bV is,∀ v∈e,Tree v:=by
    intro e he v hv
    obtain ⟨a,_,rfl⟩:=List.mem_map.1 he
    rw[List.mem_singleton] at hv
    subst hv
    exact .val _
  have:=en.sl (off:=0) (len:=n) (esz:=1) hv (by simp[hn]) ht
  rwa [List.drop_zero,List.take_of_length_le (by simp[hn])] at this
theorem jv {is:List Bool} {i:Nat} (h:i < is.length):(bV is).getD i []=[gb is[i]]:=by simp[List.getD_eq_getElem?_getD,h]
theorem jn (is:List Bool) (i:Nat) (b:Bool):(bV is).set i [gb b]=bV (is.set i b):=by simp[List.map_set]
theorem vz (n:Nat) (b:Bool):List.replicate n [gb b]=bV (List.replicate n b):=by simp
def iter {α:Type} (f:α→α):Nat→α→α
  | 0,x=>x
  | n+1,x=>iter f n (f x)
def dx (t:Bool) (is:List Bool) (r:aM):List Bool:=if dy r.right is t=true then is.set r.left.toNat true else is
def iH (g:an) (t:Bool) (is:List Bool):List Bool:=g.rules.foldl (dx t) is
def bQ (g:an):List Bool:=List.replicate g.au.length false
def aH (g:an) (t:Bool):List Bool:=if bH g=true then iter (iH g t) g.au.length (bQ g) else []
theorem IC (t:Bool) (is:List Bool) (r:aM):(dx t is r).length=is.length:=by unfold dx; split <;> simp
def kS:SC :=
  .seq (.seq (ak [aa 22 7,aq 23 2 2,ao 24 23,aI 25 24,aK 26 .lss 22 25]) <|
  .cond (.tmp 26) (.skip) (.exit 2)) <|
  .seq (.block 3 (.seq (ak [aq 29 2 2,ao 30 29,aa 31 7,aL 32 3 30 31,aq 33 1 32,ao 34 33,aa 35 5,aa 36 1,aF 37 117 [34,35,36]]) <|
  .cond (.tmp 37) (ak [aa 38 5,aq 39 2 2,ao 40 39,aa 41 7,aL 42 3 40 41,aq 43 0 42,ao 44 43,aL 45 1 38 44,(none,.op (.store 1 (.tmp 45) (.val (.val (.bool true)))))]) (.skip))) <|
  ak [aa 27 7,ay 28 .add 27 1,aa 7 28]
def kV:SC :=
  .seq (.seq (ak [aa 15 6,aq 16 1 2,ao 17 16,aI 18 17,aK 19 .lss 15 18]) <|
  .cond (.tmp 19) (.skip) (.exit 0)) <|
  .seq (.block 1 (.seq (ak [aD 7 0]) <|
  .block 2 (.loop kS))) <|
  ak [aa 20 6,ay 21 .add 20 1,aa 6 21]
def mL:SF:=⟨.seq (ak [cr 2 0,((some 4),.op (.bg (.val (.emp 1))))]) <|
  .seq (.seq (ak [aJ 8 4 2,aF 9 54 [8],bW 10 9]) <|
  .cond (.tmp 10) (.seq (ak [((some 4),.op (.bg (.val (.emp 1))))]) <|
  .ret) (.skip)) <|
  .seq (ak [aq 11 1 2,ao 12 11,aI 13 12,((some 14),.op (.make 1 1 [(.val (.bool false))] (.tmp 13) (.tmp 13))),aa 5 14]) <|
  .seq (.seq (ak [aD 6 0]) <|
  .block 0 (.loop kV)) <|
  .seq (ak [aa 46 5,aa 4 46]) <|
  .ret,
  [.tmp 4],47⟩
theorem rI:bh Tryz.prog 125 [2]=some mL:=by kernel_rfl
def jy:SF:=⟨.seq (ak [cr 1 0,((some 2),.op (.bg (.val (.emp 1))))]) <|
  .seq (ak [aJ 3 4 1,cU 4 125 [(.tmp 3),(.val (.val (.bool true)))],aa 2 4]) <|
  .ret,
  [.tmp 2],5⟩
theorem nW:bh Tryz.prog 115 [1]=some jy:=by kernel_rfl
theorem KT (g:an) (t:Bool):∀ v∈[V.agg (aw g),gb t],Tree v:=by
  intro v hv; simp at hv
  rcases hv with rfl | rfl
  · exact dL _ (eM g)
  · exact .val _
set_option maxHeartbeats 2000000 in
theorem LI (g:an) (hg:g.Ok) (t:Bool) (H:View):aA Tryz.prog 125 [.agg (aw g),gb t] H fun r H'=>∀ h':aB,h'.view=H'→dA h' r (bM (aH g t)):=by
  refine aA.of mixed rI ?_
  simp (disch:=omega) only [↓wr,↓reduceIte,wq,ah,ag,aj,ab,ae,af,ai,isNil,Nat.reduceEqDiff,Nat.reduceAdd,Nat.reduceLT,Nat.reduceLeDiff,Int.reduceNeg,Int.reduceToNat,reduceCtorEq,mL,aw,encS]
  refine aE.pure (th g hg) (by kernel_rfl) ?_
  repeat' (first | (refine av.dec (fun _=>?_) (fun _=>?_)) | (refine av.eq (fun _=>?_) (fun _=>?_)) | (refine av.ne (fun _=>?_) (fun _=>?_)) | (refine av.split (fun _=>?_) (fun _=>?_)) | (simp (disch:=omega) only [↓wr,↓reduceIte,wq,ah,ag,aj,ab,ae,af,ai,isNil,Nat.reduceEqDiff,Nat.reduceAdd,Nat.reduceLT,Nat.reduceLeDiff,Int.reduceNeg,Int.reduceToNat,reduceCtorEq,aw,encS]))
  · rename_i hr
    have hf:=bI hr
    obtain ⟨hN1,hN2⟩:=And.intro hf.q8 hf.au
    refine ⟨⟨by omega,by unfold aN; omega,by unfold aN; omega⟩,fun hz=>by omega,fun _ m hm=>?_⟩
    try simp (disch:=omega) only [↓wr,↓reduceIte,wq,ah,ag,aj,ab,ae,af,ai,isNil,Nat.reduceEqDiff,Nat.reduceAdd,Nat.reduceLT,Nat.reduceLeDiff,Int.reduceNeg,Int.reduceToNat,reduceCtorEq,aw,encS]
    refine bw.intro (fun k T H'=>∃ (i:Nat) (is:List Bool),i+k=g.au.length∧is.length=g.au.length∧iter (iH g t) k is=iter (iH g t) g.au.length (bQ g)∧T 1=gb t∧T 2=.aO (aw g) 0∧T 5=.sl m 0 g.au.length 1∧H' m=.arr 1 (bV is)∧T 6=gi i) g.au.length ?_ ?_
    · refine ⟨0,bQ g,by omega,by simp[bQ],rfl,?_⟩
      simp (disch:=omega) only [↓wr,↓reduceIte,wq,ah,ag,aj,ab,ae,af,ai,isNil,Nat.reduceEqDiff,Nat.reduceAdd,Nat.reduceLT,Nat.reduceLeDiff,Int.reduceNeg,Int.reduceToNat,reduceCtorEq,aw,encS]
      exact ⟨by rw[vz]; rfl,rfl⟩
    · rintro k T H' ⟨i,is,hk,hlen,hi,f1,f2,f5,fm,f6⟩
      simp (disch:=omega) only [↓wr,↓reduceIte,wq,ah,ag,aj,ab,ae,af,ai,isNil,Nat.reduceEqDiff,Nat.reduceAdd,Nat.reduceLT,Nat.reduceLeDiff,Int.reduceNeg,Int.reduceToNat,reduceCtorEq,kV,f1,f2,f5,f6,aw,encS]
      refine av.dec (fun hc=>?_) (fun hc=>?_)
      · simp (disch:=omega) only [↓wr,↓reduceIte,wq,ah,ag,aj,ab,ae,af,ai,isNil,Nat.reduceEqDiff,Nat.reduceAdd,Nat.reduceLT,Nat.reduceLeDiff,Int.reduceNeg,Int.reduceToNat,reduceCtorEq,f1,f2,f5,f6,aw,encS]
        refine bw.intro (fun k' T H'=>∃ (j:Nat) (is':List Bool),j+k'=g.rules.length∧is'.length=g.au.length∧(g.rules.drop j).foldl (dx t) is'=iH g t is∧T 1=gb t∧T 2=.aO (aw g) 0∧T 5=.sl m 0 g.au.length 1∧H' m=.arr 1 (bV is')∧T 6=gi i∧T 7=gi j) g.rules.length ?_ ?_
        · refine ⟨0,is,by omega,hlen,rfl,?_⟩
          simp (disch:=omega) only [↓wr,↓reduceIte,wq,ah,ag,aj,ab,ae,af,ai,isNil,Nat.reduceEqDiff,Nat.reduceAdd,Nat.reduceLT,Nat.reduceLeDiff,Int.reduceNeg,Int.reduceToNat,reduceCtorEq,f1,f2,f5,f6,fm,aw,encS]
          rfl
        · rintro k' T' H'' ⟨j,is',hk',hlen',hj,e1,e2,e5,em,e6,e7⟩
          simp (disch:=omega) only [↓wr,↓reduceIte,wq,ah,ag,aj,ab,ae,af,ai,isNil,Nat.reduceEqDiff,Nat.reduceAdd,Nat.reduceLT,Nat.reduceLeDiff,Int.reduceNeg,Int.reduceToNat,reduceCtorEq,kS,e1,e2,e5,e6,e7,aw]
          refine av.dec (fun hd=>?_) (fun hd=>?_)
          · have hle:=hf.rules
            have hg2:g.rules[j]?=some (g.rules[j]'(by omega)):=List.getElem?_eq_getElem (by omega)
            rw[eD (show j < g.rules.length by omega)] at hj
            have hmem:g.rules[j]'(by omega)∈g.rules:=List.getElem_mem _
            generalize g.rules[j]'(by omega)=r at hg2 hj hmem
            simp only[List.foldl_cons] at hj
            obtain ⟨hl1,hl2⟩:=hf.left r hmem
            obtain ⟨_,_,hs1,hs2⟩:=hg.aG r hmem
            have hall:=DS r.right is' t hs1 (fun s hs=>⟨hs2 s hs,fun hn=>by have:=hf.neg hmem hs hn; omega⟩)
            simp (disch:=omega) only [↓wr,↓reduceIte,wq,ah,ag,aj,ab,ae,af,ai,isNil,Nat.reduceEqDiff,Nat.reduceAdd,Nat.reduceLT,Nat.reduceLeDiff,Int.reduceNeg,Int.reduceToNat,reduceCtorEq,e1,e2,e5,e6,e7,aw,encS,aU,List.getElem?_map,hg2,Option.map_some]
            refine aE.borrow hall (by kernel_rfl) (.val _) rfl (fun q hq=>?_) ?_
            · match q,hq with
              | 0,_=>exact en.tree (gz _)
              | 1,_=>exact zK em hlen'.symm
              | 2,_=>exact en.tree (.val _)
            · simp (disch:=omega) only [↓wr,↓reduceIte,wq,ah,ag,aj,ab,ae,af,ai,isNil,Nat.reduceEqDiff,Nat.reduceAdd,Nat.reduceLT,Nat.reduceLeDiff,Int.reduceNeg,Int.reduceToNat,reduceCtorEq,e1,e2,e5,e6,e7,aw,encS,aU,List.getElem?_map,hg2,Option.map_some]
              refine av.split (fun ha=>?_) (fun ha=>?_)
              · have hst:dx t is' r=is'.set r.left.toNat true:=by rw[dx,if_pos ha]
                simp (disch:=omega) only [↓wr,↓reduceIte,wq,ah,ag,aj,ab,ae,af,ai,isNil,Nat.reduceEqDiff,Nat.reduceAdd,Nat.reduceLT,Nat.reduceLeDiff,Int.reduceNeg,Int.reduceToNat,reduceCtorEq,e1,e2,e5,e6,e7,em,aw,encS,aU,List.getElem?_map,hg2,Option.map_some,jv (show r.left.toNat < is'.length by omega)]
                rw[hst] at hj
                exact ⟨by omega,by omega,k' - 1,by omega,j+1,is'.set r.left.toNat true,by omega,by simp[hlen'],hj,by rw[jn],rfl⟩
              · have hst:dx t is' r=is':=by rw[dx,if_neg (by rw[ha]; simp)]
                rw[hst] at hj
                simp (disch:=omega) only [↓wr,↓reduceIte,wq,ah,ag,aj,ab,ae,af,ai,isNil,Nat.reduceEqDiff,Nat.reduceAdd,Nat.reduceLT,Nat.reduceLeDiff,Int.reduceNeg,Int.reduceToNat,reduceCtorEq,e1,e2,e5,e6,e7]
                exact ⟨k' - 1,by omega,j+1,is',by omega,hlen',hj,by first | rfl | exact ⟨rfl,rfl⟩ | exact ⟨em,rfl⟩ | exact ⟨rfl,em,rfl⟩⟩
          · rw[List.drop_eq_nil_of_le (by omega),List.foldl_nil] at hj
            simp (disch:=omega) only [↓wr,↓reduceIte,wq,ah,ag,aj,ab,ae,af,ai,isNil,Nat.reduceEqDiff,Nat.reduceAdd,Nat.reduceLT,Nat.reduceLeDiff,Int.reduceNeg,Int.reduceToNat,reduceCtorEq,e1,e2,e5,e6,e7]
            obtain ⟨q,rfl⟩:∃ q,k=q+1:=⟨k - 1,by omega⟩
            exact ⟨q,by omega,i+1,is',by omega,hlen',by rw[hj]; exact hi,rfl,em,rfl⟩
      · simp (disch:=omega) only [↓wr,↓reduceIte,wq,ah,ag,aj,ab,ae,af,ai,isNil,Nat.reduceEqDiff,Nat.reduceAdd,Nat.reduceLT,Nat.reduceLeDiff,Int.reduceNeg,Int.reduceToNat,reduceCtorEq,f1,f2,f5,f6,fm]
        have:k=0:=by omega
        subst this
        rintro h' rfl
        simp only[aH,if_pos hr,← hi,iter]
        rw[← hlen]
        exact ot fm
  · rename_i hr
    rintro h' rfl
    simp only[aH,hr]
    exact .emp 1
theorem LA (g:an) (hg:g.Ok) (t:Bool):dF Tryz.prog 125 [.agg (aw g),gb t] (bM (aH g t)):=dF.of (KT g t) (LI g hg t _)
theorem Ao (g:an) (hg:g.Ok) (H:View):aA Tryz.prog 115 [.agg (aw g)] H fun r H'=>r=bM (aH g true)∧H'=H:=by
  refine aA.of mixed nW ?_
  simp (disch:=omega) only [↓wr,↓reduceIte,wq,ah,ag,aj,ab,ae,af,ai,isNil,Nat.reduceEqDiff,Nat.reduceAdd,Nat.reduceLT,Nat.reduceLeDiff,Int.reduceNeg,Int.reduceToNat,reduceCtorEq,jy,aw,encS]
  refine aE.pure (LA g hg true).pure (by kernel_rfl) ?_
  simp (disch:=omega) only [↓wr,↓reduceIte,wq,ah,ag,aj,ab,ae,af,ai,isNil,Nat.reduceEqDiff,Nat.reduceAdd,Nat.reduceLT,Nat.reduceLeDiff,Int.reduceNeg,Int.reduceToNat,reduceCtorEq,aw,encS]
theorem qW (g:an) (hg:g.Ok):aC Tryz.prog 115 [.agg (aw g)] (bM (aH g true)) :=
  aC.of (e9 g) ((Ao g hg _).mono fun r H' h h' _=>by rw[h.1]; exact .tree _ (ik _))
def mark (is:List Bool) (s:Int):List Bool:=if s < 0 then is.set (-1 - s).toNat true else is
def eQ (p is:List Bool) (r:aM):List Bool:=if (is.getD r.left.toNat false && dy r.right p true)=true then r.right.foldl mark is else is
def mg (g:an) (p is:List Bool):List Bool:=g.rules.foldl (eQ p) is
def bB (g:an):List Bool:=if bH g=true then iter (mg g (aH g true)) g.au.length ((bQ g).set g.start.toNat true) else []
theorem K4 (is:List Bool) (s:Int):(mark is s).length=is.length:=by unfold mark; split <;> simp
theorem Cm:∀ (l:List Int) (is:List Bool),(l.foldl mark is).length=is.length
  | [],_=>rfl
  | s :: l,is=>by rw[List.foldl_cons,Cm l,K4]
theorem Kr (p is:List Bool) (r:aM):(eQ p is r).length=is.length:=by unfold eQ; split <;> simp[Cm]
theorem yj {f:List Bool→List Bool} (hf:∀ is,(f is).length=is.length):∀ (n:Nat) (is:List Bool),(iter f n is).length=is.length
  | 0,_=>rfl
  | n+1,is=>by rw[iter,yj hf n,hf]
theorem x4 {α:Type} {f:List Bool→α→List Bool} (hf:∀ is x,(f is x).length=is.length):∀ (l:List α) (is:List Bool),(l.foldl f is).length=is.length
  | [],_=>rfl
  | x :: l,is=>by rw[List.foldl_cons,x4 hf l,hf]
theorem iL {g:an} (h:bH g=true) (t:Bool):(aH g t).length=g.au.length:=by
  have hl:∀ is,(iH g t is).length=is.length:=fun is=>x4 (IC t) _ _
  rw[aH,if_pos h,yj hl]
  simp[bQ]
def jb:SC :=
  .seq (.seq (.region false [⟨none,[aa 41 8,aq 42 1 7,ao 43 42,aI 44 43,aK 45 .lss 41 44,aa 46 45]⟩,⟨(some (46,true)),[aa 47 4,aq 48 0 7,ao 49 48,aL 50 1 47 49,ao 51 50]⟩,⟨none,[bG 52 46 51,aa 53 52]⟩,⟨(some (53,true)),[aq 54 1 7,ao 55 54,aa 56 3,cU 57 117 [(.tmp 55),(.tmp 56),(.val (.val (.bool true)))]]⟩,⟨none,[bG 58 53 57]⟩]) <|
  .cond (.tmp 58) (.skip) (.exit 4)) <|
  .seq (.block 5 (.seq (ak [aq 61 1 7,ao 62 61,aa 63 8,aL 64 1 62 63,ao 65 64,ay 66 .lss 65 0]) <|
  .cond (.tmp 66) (ak [aa 67 4,aq 68 1 7,ao 69 68,aa 70 8,aL 71 1 69 70,ao 72 71,((some 73),.op (.arith .sub (.val (.val (.int .i64 (-1)))) (.tmp 72))),aL 74 1 67 73,(none,.op (.store 1 (.tmp 74) (.val (.val (.bool true)))))]) (.skip))) <|
  ak [aa 59 8,ay 60 .add 59 1,aa 8 60]
def iS:SC :=
  .seq (.seq (ak [aa 29 6,aq 30 2 1,ao 31 30,aI 32 31,aK 33 .lss 29 32]) <|
  .cond (.tmp 33) (.skip) (.exit 2)) <|
  .seq (.block 3 (.seq (ak [aq 36 2 1,ao 37 36,aa 38 6,aL 39 3 37 38,aJ 40 3 39,((some 7),.op (.alloc [(.val (.int .i64 0)),(.emp 1),(.val (.int .i64 0))])),(none,.op (.store 3 (.tmp 7) (.tmp 40)))]) <|
  .seq (ak [aD 8 0]) <|
  .block 4 (.loop jb))) <|
  ak [aa 34 6,ay 35 .add 34 1,aa 6 35]
def iR:SC :=
  .seq (.seq (ak [aa 22 5,aq 23 1 1,ao 24 23,aI 25 24,aK 26 .lss 22 25]) <|
  .cond (.tmp 26) (.skip) (.exit 0)) <|
  .seq (.block 1 (.seq (ak [aD 6 0]) <|
  .block 2 (.loop iS))) <|
  ak [aa 27 5,ay 28 .add 27 1,aa 5 28]
def j4:SF:=⟨.seq (ak [cr 1 0,((some 2),.op (.bg (.val (.emp 1))))]) <|
  .seq (.seq (ak [aJ 9 4 1,aF 10 54 [9],bW 11 10]) <|
  .cond (.tmp 11) (.seq (ak [((some 2),.op (.bg (.val (.emp 1))))]) <|
  .ret) (.skip)) <|
  .seq (ak [aJ 12 4 1,aF 13 115 [12],aa 3 13]) <|
  .seq (ak [aq 14 1 1,ao 15 14,aI 16 15,((some 17),.op (.make 1 1 [(.val (.bool false))] (.tmp 16) (.tmp 16))),aa 4 17]) <|
  .seq (ak [aa 18 4,aq 19 3 1,ao 20 19,aL 21 1 18 20,(none,.op (.store 1 (.tmp 21) (.val (.val (.bool true)))))]) <|
  .seq (.seq (ak [aD 5 0]) <|
  .block 0 (.loop iR)) <|
  .seq (ak [aa 75 4,aa 2 75]) <|
  .ret,
  [.tmp 2],76⟩
theorem oE:bh Tryz.prog 116 [1]=some j4:=by kernel_rfl
theorem Lc {l:List Bool} {i j:Nat} (h:l.getD j false=true):(l.set i true).getD j false=true:=by
  simp only[List.getD_eq_getElem?_getD,List.getElem?_set] at h ⊢
  by_cases e:i=j
  · subst e
    by_cases hi:i < l.length
    · simp[hi]
    · rw[List.getElem?_eq_none (by omega)] at h; simp at h
  · rw[if_neg e]; exact h
theorem LM {H:View} {m n:Nat} {o:bL} (hm:H m=o) (hn:H n=.dead) (ho:o≠.dead):m≠n:=by rintro rfl; exact ho (hm.symm.trans hn)
set_option maxHeartbeats 4000000 in
theorem Bc (g:an) (hg:g.Ok) (H:View):aA Tryz.prog 116 [.agg (aw g)] H fun r H'=>∀ h':aB,h'.view=H'→dA h' r (bM (bB g)):=by
  refine aA.of mixed oE ?_
  simp (disch:=omega) only [↓wr,↓reduceIte,wq,ah,ag,aj,ab,ae,af,ai,isNil,Nat.reduceEqDiff,Nat.reduceAdd,Nat.reduceLT,Nat.reduceLeDiff,Int.reduceNeg,Int.reduceToNat,reduceCtorEq,j4,aw,encS]
  refine aE.pure (th g hg) (by kernel_rfl) ?_
  repeat' (first | (refine av.dec (fun _=>?_) (fun _=>?_)) | (refine av.eq (fun _=>?_) (fun _=>?_)) | (refine av.ne (fun _=>?_) (fun _=>?_)) | (refine av.split (fun _=>?_) (fun _=>?_)) | (simp (disch:=omega) only [↓wr,↓reduceIte,wq,ah,ag,aj,ab,ae,af,ai,isNil,Nat.reduceEqDiff,Nat.reduceAdd,Nat.reduceLT,Nat.reduceLeDiff,Int.reduceNeg,Int.reduceToNat,reduceCtorEq,aw,encS]))
  · rename_i hr
    have hf:=bI hr
    obtain ⟨hN1,hN2⟩:=And.intro hf.q8 hf.au
    refine aE.pure (qW g hg) (by kernel_rfl) ?_
    have hpl:=iL hr true
    have hreach:bB g=iter (mg g (aH g true)) g.au.length ((bQ g).set g.start.toNat true):=by rw[bB,if_pos hr]
    generalize aH g true=p at hpl hreach
    have hst:=hf.jo
    have hst2:=hf.start
    have hrep:List.replicate g.au.length [V.val (Value.bool false)]=bV (bQ g):=vz _ _
    have hnl:(bQ g).length=g.au.length:=by simp[bQ]
    simp (disch:=omega) only [↓wr,↓reduceIte,wq,ah,ag,aj,ab,ae,af,ai,isNil,Nat.reduceEqDiff,Nat.reduceAdd,Nat.reduceLT,Nat.reduceLeDiff,Int.reduceNeg,Int.reduceToNat,reduceCtorEq,aw,encS]
    refine ⟨⟨by omega,by unfold aN; omega,by unfold aN; omega⟩,fun hz=>by omega,fun _ m hm=>?_⟩
    rw[hrep]
    have hgs:(bV (bQ g)).getD g.start.toNat []=[gb ((bQ g)[g.start.toNat]'(by omega))]:=jv (by omega)
    simp (disch:=omega) only [↓wr,↓reduceIte,wq,ah,ag,aj,ab,ae,af,ai,isNil,Nat.reduceEqDiff,Nat.reduceAdd,Nat.reduceLT,Nat.reduceLeDiff,Int.reduceNeg,Int.reduceToNat,reduceCtorEq,aw,encS,jv (show g.start.toNat < (bQ g).length by omega),jn,List.length_map]
    refine ⟨by omega,by omega,?_⟩
    refine bw.intro (fun k T H'=>∃ (i:Nat) (is:List Bool),i+k=g.au.length∧is.length=g.au.length∧iter (mg g p) k is=bB g∧T 1=.aO (aw g) 0∧T 3=bM p∧T 4=.sl m 0 g.au.length 1∧H' m=.arr 1 (bV is)∧T 5=gi i) g.au.length ?_ ?_
    · refine ⟨0,(bQ g).set g.start.toNat true,by omega,by simp[hnl],hreach.symm,?_⟩
      simp (disch:=omega) only [↓wr,↓reduceIte,wq,ah,ag,aj,ab,ae,af,ai,isNil,Nat.reduceEqDiff,Nat.reduceAdd,Nat.reduceLT,Nat.reduceLeDiff,Int.reduceNeg,Int.reduceToNat,reduceCtorEq,aw,encS]
      rw[hgs]
      exact ⟨by rw[← jn]; rfl,rfl⟩
    · rintro k T H' ⟨i,is,hk,hlen,hi,f1,f3,f4,fm,f5⟩
      simp (disch:=omega) only [↓wr,↓reduceIte,wq,ah,ag,aj,ab,ae,af,ai,isNil,Nat.reduceEqDiff,Nat.reduceAdd,Nat.reduceLT,Nat.reduceLeDiff,Int.reduceNeg,Int.reduceToNat,reduceCtorEq,iR,f1,f3,f4,f5,aw,encS]
      refine av.dec (fun hc=>?_) (fun hc=>?_)
      · simp (disch:=omega) only [↓wr,↓reduceIte,wq,ah,ag,aj,ab,ae,af,ai,isNil,Nat.reduceEqDiff,Nat.reduceAdd,Nat.reduceLT,Nat.reduceLeDiff,Int.reduceNeg,Int.reduceToNat,reduceCtorEq,f1,f3,f4,f5,aw,encS]
        refine bw.intro (fun k' T H'=>∃ (j:Nat) (is':List Bool),j+k'=g.rules.length∧is'.length=g.au.length∧(g.rules.drop j).foldl (eQ p) is'=mg g p is∧T 1=.aO (aw g) 0∧T 3=bM p∧T 4=.sl m 0 g.au.length 1∧H' m=.arr 1 (bV is')∧T 5=gi i∧T 6=gi j) g.rules.length ?_ ?_
        · refine ⟨0,is,by omega,hlen,rfl,?_⟩
          simp (disch:=omega) only [↓wr,↓reduceIte,wq,ah,ag,aj,ab,ae,af,ai,isNil,Nat.reduceEqDiff,Nat.reduceAdd,Nat.reduceLT,Nat.reduceLeDiff,Int.reduceNeg,Int.reduceToNat,reduceCtorEq,f1,f3,f4,f5,fm,aw,encS]
          first | done | exact ⟨rfl,rfl⟩ | rfl
        · rintro k' T' H'' ⟨j,is',hk',hlen',hj,e1,e3,e4,em,e5,e6⟩
          simp (disch:=omega) only [↓wr,↓reduceIte,wq,ah,ag,aj,ab,ae,af,ai,isNil,Nat.reduceEqDiff,Nat.reduceAdd,Nat.reduceLT,Nat.reduceLeDiff,Int.reduceNeg,Int.reduceToNat,reduceCtorEq,iS,e1,e3,e4,e5,e6,aw]
          refine av.dec (fun hd=>?_) (fun hd=>?_)
          · have hle:=hf.rules
            have hg2:g.rules[j]?=some (g.rules[j]'(by omega)):=List.getElem?_eq_getElem (by omega)
            rw[eD (show j < g.rules.length by omega)] at hj
            have hmem:g.rules[j]'(by omega)∈g.rules:=List.getElem_mem _
            generalize g.rules[j]'(by omega)=r at hg2 hj hmem
            simp only[List.foldl_cons] at hj
            obtain ⟨hl1,hl2⟩:=hf.left r hmem
            obtain ⟨_,_,hs1,hs2⟩:=hg.aG r hmem
            have hr6:=hf.right r hmem
            have hall:=DS r.right p true hs1 (fun s hs=>⟨hs2 s hs,fun hn=>by have:=hf.neg hmem hs hn; omega⟩)
            simp (disch:=omega) only [↓wr,↓reduceIte,wq,ah,ag,aj,ab,ae,af,ai,isNil,Nat.reduceEqDiff,Nat.reduceAdd,Nat.reduceLT,Nat.reduceLeDiff,Int.reduceNeg,Int.reduceToNat,reduceCtorEq,e1,e3,e4,e5,e6,aw,encS,aU,encI,List.getElem?_map,hg2,Option.map_some]
            intro b hb
            have hne:m≠b:=LM em hb (by simp)
            try simp (disch:=omega) only [↓wr,↓reduceIte,wq,ah,ag,aj,ab,ae,af,ai,isNil,Nat.reduceEqDiff,Nat.reduceAdd,Nat.reduceLT,Nat.reduceLeDiff,Int.reduceNeg,Int.reduceToNat,reduceCtorEq,e1,e3,e4,e5,e6,aw,encS,aU,encI]
            refine bw.intro (fun q T H'=>∃ (a:Nat) (is3:List Bool),a+q=r.right.length∧is3.length=g.au.length∧(r.right.drop a).foldl mark is3=r.right.foldl mark is'∧((a=0∧is3=is')∨((is'.getD r.left.toNat false && dy r.right p true)=true∧is3.getD r.left.toNat false=true)) ∧
              T 1=.aO (aw g) 0∧T 3=bM p∧T 4=.sl m 0 g.au.length 1∧H' m=.arr 1 (bV is3)∧T 5=gi i∧T 6=gi j∧T 7=.ptr b 0 0∧H' b=.arr 3 [aU r]∧T 8=gi a) r.right.length ?_ ?_
            · refine ⟨0,is',by omega,hlen',rfl,.inl ⟨rfl,rfl⟩,?_⟩
              simp (disch:=omega) only [↓wr,↓reduceIte,wq,ah,ag,aj,ab,ae,af,ai,isNil,Nat.reduceEqDiff,Nat.reduceAdd,Nat.reduceLT,Nat.reduceLeDiff,Int.reduceNeg,Int.reduceToNat,reduceCtorEq,e1,e3,e4,e5,e6,em,hne,aw,encS,aU]
              exact ⟨rfl,rfl⟩
            · rintro q T3 H3 ⟨a,is3,hq,hlen3,ha,hcase,d1,d3,d4,dm,d5,d6,d7,db,d8⟩
              simp (disch:=omega) only [↓wr,↓reduceIte,wq,ah,ag,aj,ab,ae,af,ai,isNil,Nat.reduceEqDiff,Nat.reduceAdd,Nat.reduceLT,Nat.reduceLeDiff,Int.reduceNeg,Int.reduceToNat,reduceCtorEq,jb,d1,d3,d4,d5,d6,d7,d8,db,aU,encI]
              have hgl:is3[r.left.toNat]?=some (is3[r.left.toNat]'(by omega)):=List.getElem?_eq_getElem (by omega)
              have hgl2:is3.getD r.left.toNat false=is3[r.left.toNat]'(by omega):=by simp[List.getD_eq_getElem?_getD,hgl]
              have hbg:=jv (show r.left.toNat < is3.length by omega)
              have hoff:(is'.getD r.left.toNat false && dy r.right p true)=false→eQ p is' r=is3:=fun hW=>by
                rcases hcase with ⟨_,rfl⟩ | ⟨h1,_⟩
                · rw[eQ,hW]; rfl
                · rw[hW] at h1; simp at h1
              generalize is3[r.left.toNat]'(by omega)=tl at hgl hgl2 hbg
              refine av.dec (fun ht=>?_) (fun ht=>?_)
              · have hg3:r.right[a]?=some (r.right[a]'(by omega)):=List.getElem?_eq_getElem (by omega)
                rw[eD (show a < r.right.length by omega)] at ha
                have hms:r.right[a]'(by omega)∈r.right:=List.getElem_mem _
                generalize r.right[a]'(by omega)=s at hg3 ha hms
                simp only[List.foldl_cons] at ha
                have hin:=hs2 s hms
                simp (disch:=omega) only [↓wr,↓reduceIte,wq,ah,ag,aj,ab,ae,af,ai,isNil,Nat.reduceEqDiff,Nat.reduceAdd,Nat.reduceLT,Nat.reduceLeDiff,Int.reduceNeg,Int.reduceToNat,reduceCtorEq,d1,d3,d4,d5,d6,d7,d8,db,dm,aU,encI,hbg,List.length_map]
                refine ⟨by omega,by omega,?_⟩
                refine av.split (fun htl=>?_) (fun htl=>?_)
                · simp (disch:=omega) only [↓wr,↓reduceIte,wq,ah,ag,aj,ab,ae,af,ai,isNil,Nat.reduceEqDiff,Nat.reduceAdd,Nat.reduceLT,Nat.reduceLeDiff,Int.reduceNeg,Int.reduceToNat,reduceCtorEq,d1,d3,d4,d5,d6,d7,d8,db,dm,aU,encI,hbg,List.length_map]
                  refine aE.pure hall (by kernel_rfl) ?_
                  simp (disch:=omega) only [↓wr,↓reduceIte,wq,ah,ag,aj,ab,ae,af,ai,isNil,Nat.reduceEqDiff,Nat.reduceAdd,Nat.reduceLT,Nat.reduceLeDiff,Int.reduceNeg,Int.reduceToNat,reduceCtorEq,d1,d3,d4,d5,d6,d7,d8,db,dm,aU,encI]
                  refine av.split (fun hal=>?_) (fun hal=>?_)
                  · simp (disch:=omega) only [↓wr,↓reduceIte,wq,ah,ag,aj,ab,ae,af,ai,isNil,Nat.reduceEqDiff,Nat.reduceAdd,Nat.reduceLT,Nat.reduceLeDiff,Int.reduceNeg,Int.reduceToNat,reduceCtorEq,d1,d3,d4,d5,d6,d7,d8,db,dm,aU,encI,List.getElem?_map,hg3,Option.map_some]
                    have hW:(is'.getD r.left.toNat false && dy r.right p true)=true∧is3.getD r.left.toNat false=true:=by
                      rcases hcase with ⟨_,rfl⟩ | h1
                      · exact ⟨by rw[hgl2,htl,hal]; rfl,by rw[hgl2,htl]⟩
                      · exact h1
                    refine av.dec (fun hsn=>?_) (fun hsn=>?_)
                    · have hng:=hf.neg hmem hms hsn
                      have hin1:=hin.1
                      have hms2:mark is3 s=is3.set (-1 - s).toNat true:=by rw[mark,if_pos hsn]
                      simp (disch:=omega) only [↓wr,↓reduceIte,wq,ah,ag,aj,ab,ae,af,ai,isNil,Nat.reduceEqDiff,Nat.reduceAdd,Nat.reduceLT,Nat.reduceLeDiff,Int.reduceNeg,Int.reduceToNat,reduceCtorEq,d1,d3,d4,d5,d6,d7,d8,db,dm,aU,encI,List.getElem?_map,hg3,Option.map_some,jv (show (-1 - s).toNat < is3.length by omega),List.length_map,hne.symm]
                      rw[hms2] at ha
                      exact ⟨by omega,by omega,q - 1,by omega,a+1,is3.set (-1 - s).toNat true,by omega,by simp[hlen3],ha,.inr ⟨hW.1,Lc hW.2⟩,by rw[jn],by first | rfl | exact ⟨rfl,rfl⟩⟩
                    · have hms2:mark is3 s=is3:=by rw[mark,if_neg hsn]
                      rw[hms2] at ha
                      simp (disch:=omega) only [↓wr,↓reduceIte,wq,ah,ag,aj,ab,ae,af,ai,isNil,Nat.reduceEqDiff,Nat.reduceAdd,Nat.reduceLT,Nat.reduceLeDiff,Int.reduceNeg,Int.reduceToNat,reduceCtorEq,d1,d3,d4,d5,d6,d7,d8,db,dm]
                      exact ⟨q - 1,by omega,a+1,is3,by omega,hlen3,ha,.inr hW,by first | rfl | exact ⟨rfl,rfl⟩ | exact ⟨rfl,rfl,rfl⟩⟩
                  · simp (disch:=omega) only [↓wr,↓reduceIte,wq,ah,ag,aj,ab,ae,af,ai,isNil,Nat.reduceEqDiff,Nat.reduceAdd,Nat.reduceLT,Nat.reduceLeDiff,Int.reduceNeg,Int.reduceToNat,reduceCtorEq,d1,d3,d4,d5,d6,d7,d8,db,dm,aU,encI]
                    have hst:=hoff (by rw[hal,Bool.and_false])
                    exact ⟨k' - 1,by omega,j+1,is3,by omega,hlen3,by rw[← hst]; exact hj,rfl,rfl,rfl⟩
                · simp (disch:=omega) only [↓wr,↓reduceIte,wq,ah,ag,aj,ab,ae,af,ai,isNil,Nat.reduceEqDiff,Nat.reduceAdd,Nat.reduceLT,Nat.reduceLeDiff,Int.reduceNeg,Int.reduceToNat,reduceCtorEq,d1,d3,d4,d5,d6,d7,d8,db,dm,aU,encI,hbg,List.length_map]
                  have hst:eQ p is' r=is3:=by
                    rcases hcase with ⟨_,rfl⟩ | ⟨_,h1⟩
                    · rw[eQ,hgl2,htl]; rfl
                    · rw[hgl2,htl] at h1; simp at h1
                  exact ⟨k' - 1,by omega,j+1,is3,by omega,hlen3,by rw[← hst]; exact hj,rfl,rfl,rfl⟩
              · simp (disch:=omega) only [↓wr,↓reduceIte,wq,ah,ag,aj,ab,ae,af,ai,isNil,Nat.reduceEqDiff,Nat.reduceAdd,Nat.reduceLT,Nat.reduceLeDiff,Int.reduceNeg,Int.reduceToNat,reduceCtorEq,d1,d3,d4,d5,d6,d7,d8,db,dm,aU,encI]
                rw[List.drop_eq_nil_of_le (by omega),List.foldl_nil] at ha
                have hst:eQ p is' r=is3:=by
                  rcases hcase with ⟨h0,rfl⟩ | ⟨h1,_⟩
                  · unfold eQ
                    split
                    · exact ha.symm
                    · rfl
                  · rw[eQ,if_pos h1]; exact ha.symm
                exact ⟨k' - 1,by omega,j+1,is3,by omega,hlen3,by rw[← hst]; exact hj,rfl,rfl,rfl⟩
          · rw[List.drop_eq_nil_of_le (by omega),List.foldl_nil] at hj
            simp (disch:=omega) only [↓wr,↓reduceIte,wq,ah,ag,aj,ab,ae,af,ai,isNil,Nat.reduceEqDiff,Nat.reduceAdd,Nat.reduceLT,Nat.reduceLeDiff,Int.reduceNeg,Int.reduceToNat,reduceCtorEq,e1,e3,e4,e5,e6]
            obtain ⟨q,rfl⟩:∃ q,k=q+1:=⟨k - 1,by omega⟩
            exact ⟨q,by omega,i+1,is',by omega,hlen',by rw[hj]; exact hi,rfl,em,rfl⟩
      · simp (disch:=omega) only [↓wr,↓reduceIte,wq,ah,ag,aj,ab,ae,af,ai,isNil,Nat.reduceEqDiff,Nat.reduceAdd,Nat.reduceLT,Nat.reduceLeDiff,Int.reduceNeg,Int.reduceToNat,reduceCtorEq,f1,f3,f4,f5,fm]
        have:k=0:=by omega
        subst this
        rintro h' rfl
        simp only[← hi,iter]
        rw[← hlen]
        exact ot fm
  · rename_i hr
    rintro h' rfl
    simp only[bB,hr]
    exact .emp 1
theorem Bj (g:an) (hg:g.Ok):dF Tryz.prog 116 [.agg (aw g)] (bM (bB g)):=dF.of (e9 g) (Bc g hg _)
def xo:DF:=⟨.seq (al [aQ 2 false]) <|
  .seq (.region [] [⟨none,[aa 3 0,aF 4 147 [3],aa 5 4]⟩,⟨(some (5,false)),[aa 6 0,((some 7),.op (.arith .eql (.tmp 6) (.val (.val (.int .u8 46)))))]⟩,⟨none,[bF 8 5 7,aa 9 8]⟩,⟨(some (9,false)),[aa 10 0,((some 11),.op (.arith .geq (.tmp 10) (.val (.val (.int .u8 48))))),aa 12 11]⟩,⟨(some (12,true)),[aa 13 0,((some 14),.op (.arith .leq (.tmp 13) (.val (.val (.int .u8 57)))))]⟩,⟨(some (9,false)),[bG 15 12 14]⟩,⟨none,[bF 16 9 15,aa 2 16]⟩]) <|
  .ret,
  [.tmp 2],17⟩
theorem AV:aS Tryz.prog 148 []=some xo:=by kernel_rfl
def wK:DF:=⟨.seq (al [aQ 2 false]) <|
  .seq (.region [] [⟨none,[aa 3 0,((some 4),.op (.arith .eql (.tmp 3) (.val (.val (.int .u8 95))))),aa 5 4]⟩,⟨(some (5,false)),[aa 6 0,((some 7),.op (.arith .or (.tmp 6) (.val (.val (.int .u8 32))))),((some 8),.op (.arith .geq (.tmp 7) (.val (.val (.int .u8 97))))),aa 9 8]⟩,⟨(some (9,true)),[aa 10 0,((some 11),.op (.arith .or (.tmp 10) (.val (.val (.int .u8 32))))),((some 12),.op (.arith .leq (.tmp 11) (.val (.val (.int .u8 122)))))]⟩,⟨(some (5,false)),[bG 13 9 12]⟩,⟨none,[bF 14 5 13,aa 2 14]⟩]) <|
  .ret,
  [.tmp 2],15⟩
theorem zF:aS Tryz.prog 147 []=some wK:=by kernel_rfl
def xT:DF:=⟨.seq (al [aQ 2 false]) <|
  .seq (.region [] [⟨none,[aa 3 0,((some 4),.op (.arith .geq (.tmp 3) (.val (.val (.int .u8 32))))),aa 5 4]⟩,⟨(some (5,true)),[aa 6 0,((some 7),.op (.arith .leq (.tmp 6) (.val (.val (.int .u8 126)))))]⟩,⟨none,[bG 8 5 7,aa 9 8]⟩,⟨(some (9,true)),[aa 10 0,((some 11),.op (.arith .neq (.tmp 10) (.val (.val (.int .u8 39)))))]⟩,⟨none,[bG 12 9 11,aa 13 12]⟩,⟨(some (13,true)),[aa 14 0,((some 15),.op (.arith .neq (.tmp 14) (.val (.val (.int .u8 92)))))]⟩,⟨none,[bG 16 13 15,aa 2 16]⟩]) <|
  .ret,
  [.tmp 2],17⟩
theorem As:aS Tryz.prog 233 []=some xT:=by kernel_rfl
def uA:DF:=⟨.seq (al [aQ 2 false]) <|
  .seq (.region [] [⟨none,[aa 3 0,((some 4),.op (.arith .eql (.tmp 3) (.val (.val (.int .u8 110))))),aa 5 4]⟩,⟨(some (5,false)),[aa 6 0,((some 7),.op (.arith .eql (.tmp 6) (.val (.val (.int .u8 116)))))]⟩,⟨none,[bF 8 5 7,aa 9 8]⟩,⟨(some (9,false)),[aa 10 0,((some 11),.op (.arith .eql (.tmp 10) (.val (.val (.int .u8 92)))))]⟩,⟨none,[bF 12 9 11,aa 13 12]⟩,⟨(some (13,false)),[aa 14 0,((some 15),.op (.arith .eql (.tmp 14) (.val (.val (.int .u8 39)))))]⟩,⟨none,[bF 16 13 15,aa 2 16]⟩]) <|
  .ret,
  [.tmp 2],17⟩
theorem yA:aS Tryz.prog 234 []=some uA:=by kernel_rfl
def sS:List (FuncId × DF):=[(148,xo),(147,wK),(233,xT),(234,uA)]
theorem qy:tM Tryz.prog sS:=by
  intro p hp
  simp only[sS,List.mem_cons,List.not_mem_nil,or_false] at hp
  rcases hp with rfl | rfl | rfl | rfl
  · exact ⟨_,AV⟩
  · exact ⟨_,zF⟩
  · exact ⟨_,As⟩
  · exact ⟨_,yA⟩
theorem Mh (P:Program):pY P (fun _ _ _=>none):=fun _ _ _ _ h=>by simp at h
def Of (o:Option V) (b:Bool):Bool:=match o with
  | some (.val (.bool c))=>c == b
  | _=>false
theorem Oh {o:Option V} {b:Bool} (h:Of o b=true):o=some (gb b):=by
  unfold Of at h
  split at h
  · rw[beq_iff_eq] at h; rw[h]
  · simp at h
noncomputable def vY (tab:List (FuncId × DF)) (f:FuncId) (p:Int→Bool):Bool:=(List.range 256).all fun c=>Of (xb Tryz.prog tab (fun _ _ _=>none) f [gy (c:Int)]) (p (c:Int))
theorem ta {tab:List (FuncId × DF)} (ht:tM Tryz.prog tab) {f:FuncId} {p:Int→Bool} (h:vY tab f p=true) (c:Int) (h0:0≤c) (h1:c≤255):aC Tryz.prog f [gy c] (gb (p c)):=by
  have:=List.all_eq_true.1 h c.toNat (by simp; omega)
  rw[show ((c.toNat:Nat):Int)=c by omega] at this
  exact (tC mixed ht (Mh _) (by intro v hv; simp at hv; subst hv; exact .val _) (Oh this)).pure
def wg (c:Int):Bool:=decide (32≤c) && decide (c≤126) && c != 39 && c != 92
def Bm (c:Int):Bool:=c == 110 || c == 116 || c == 92 || c == 39
theorem HO:vY sS 147 rT=true:=by kernel_rfl
theorem JK:vY sS 148 lJ=true:=by kernel_rfl
theorem Ko:vY sS 233 wg=true:=by kernel_rfl
theorem Nc:vY sS 234 Bm=true:=by kernel_rfl
theorem Cu {s:ByteArray} {c:Int} (h:c∈ep s):0≤c∧c≤255:=by
  unfold ep at h
  obtain ⟨b,_,rfl⟩:=List.mem_map.1 h
  have:=b.toNat_lt
  omega
theorem JZ (s:ByteArray):fv s=(ep s).map fun x=>[gy x]:=by simp[fv,ep]
end Gv
