/-
  Part 7 of the proof: what the machine does and what the functions answer.
  Conditions: those that each lemma names.
-/
import Derived.Test.YtomcjampldmjoaaGreatSGzVF
set_option linter.unusedSimpArgs false
set_option linter.unusedVariables false
set_option maxRecDepth 100000
namespace Gv
open Go Go.Proofs
section
variable {P:Program} {n:Nat} {all:List Oper}
def gB (h:aE) (e:ES):Prop:=e.V=h.view∧e.n=h.length
def Calm (e e':ES) (h h':aE):Prop:=h.length≤h'.length∧(∀ id,id < h.length→¬ id∈e'.w→h'.view id=h.view id∧¬ id∈e.w)
theorem Calm.trans {a b c:ES} {h1 h2 h3:aE} (x:Calm a b h1 h2) (y:Calm b c h2 h3):Calm a c h1 h3 :=
  ⟨Nat.le_trans x.1 y.1,fun id hid hw =>
    let ⟨e1,d1⟩:=y.2 id (Nat.lt_of_lt_of_le hid x.1) hw
    let ⟨e2,d2⟩:=x.2 id hid d1
    ⟨e1.trans e2,d2⟩⟩
theorem Calm.refl (e:ES) (h:aE):Calm e e h h:=⟨Nat.le_refl _,fun _ _ hw=>⟨rfl,hw⟩⟩
def jJ (P:Program) (call:fX):Prop:=∀ g vs e v e' h,call g vs e=some (v,e')→gB h e →
  cX P g=true∧∃ h',bT P g vs h v h'∧gB h' e'∧(∀ id,id < h.length→¬ id∈e'.w→h'.view id=h.view id)∧∀ id,id∈e'.w→id < h.length
def uP (P:Program) (run:vm):Prop:=∀ (n:Nat) (fz:List Nat) (c:Code) (sc:DC),gQ P n fz c=some sc→n≤8000→∀ (e e':ES) (r:Exit) (h:aE),run sc e=some (r,e')→gB h e →
  ∃ h',cA P n c e.T h r e'.T h'∧gB h' e'∧Calm e e' h h'∧∀ c0,c=.loop c0→oh P n c0 e.T h r e'.T h'
theorem Js {h:aE} {e:ES} {d:Option Nat} {v:V} (he:gB h e):gB h (e.put d v):=by cases d <;> exact he
theorem L5 {e:ES} {d:Option Nat} {v:V} : (e.put d v).w=e.w:=by cases d <;> rfl
theorem JL {h:aE} {e e':ES} {h':aE} {d:Option Nat} {v:V} (x:Calm e e' h h'):Calm e (e'.put d v) h h':=⟨x.1,fun id hid hw=>x.2 id hid (by rw[L5] at hw; exact hw)⟩
theorem zZ {a:Nat} (h:Nat.ble a 8000=true):a+1 < 2 ^ 13:=by
  have:=Nat.le_of_ble_eq_true h
  omega
theorem N1 {h:aE} {e e':ES} {v v':V} {aC:bg} {rd:List Nat} {c:Rec} (he:gB h e) (hx:Dt v aC rd e=some (v',e',c)) :
    v'=v∧e'.T=e.T∧e'.V=aC.view h.view h.length∧e'.n=(aC.apply h).length∧c=⟨rd,aC.wr,false,h.length,(aC.apply h).length⟩∧e'.w=aC.wr ++ e.w:=by
  obtain ⟨h1,h2⟩:=he
  unfold Dt at hx
  cases aC with
  | none =>
    simp only[Option.some.injEq,Prod.mk.injEq] at hx
    obtain ⟨rfl,rfl,rfl⟩:=hx
    exact ⟨rfl,rfl,h1,h2,by rw[h2]; rfl,rfl⟩
  | new o =>
    simp only at hx
    split at hx
    · rename_i hb
      simp only[Option.some.injEq,Prod.mk.injEq] at hx
      obtain ⟨rfl,rfl,rfl⟩:=hx
      refine ⟨rfl,rfl,?_,by simp[fc,h2],by simp[fc,h2,bg.wr],rfl⟩
      funext k
      simp only[ES.V,bg.view,View.set]
      rw[cm.lC _ _ _ _ _ _ (zZ hb),h2]
      have:=congrFun h1 k
      simp only[ES.V] at this
      rw[this]
    · simp at hx
  | fC id o =>
    simp only at hx
    split at hx
    · rename_i hb
      simp only[Option.some.injEq,Prod.mk.injEq] at hx
      obtain ⟨rfl,rfl,rfl⟩:=hx
      refine ⟨rfl,rfl,?_,by simp[fc,h2],by simp[fc,h2,bg.wr],rfl⟩
      funext k
      simp only[ES.V,bg.view,View.set]
      rw[cm.lC _ _ _ _ _ _ (zZ hb)]
      have:=congrFun h1 k
      simp only[ES.V] at this
      rw[this]
    · simp at hx
  | bc id o =>
    simp only at hx
    split at hx
    · rename_i hb1 hb2
      simp only[Option.some.injEq,Prod.mk.injEq] at hx
      obtain ⟨rfl,rfl,rfl⟩:=hx
      refine ⟨rfl,rfl,?_,by simp[fc,h2],by simp[fc,h2,bg.wr],rfl⟩
      funext k
      simp only[ES.V,bg.view,View.set]
      rw[cm.lC _ _ _ _ _ _ (zZ hb1),cm.lC _ _ _ _ _ _ (zZ hb2),h2]
      have:=congrFun h1 k
      simp only[ES.V] at this
      rw[this]
    · simp at hx
theorem O9 {o:Oper} {e e':ES} {h:aE} {s:SI} {v:V} {c:Rec} (hg:cQ n all e.T o=some true) (hc:∀ v aC rd,sI P s e.T h.view h.length=some (v,aC,rd)→bX P o e.T h.view h.length=some (v,aC,rd))
    (he:gB h e) (hx:Jc P s e=some (v,e',c)):∃ h',c9 P n all o e.T h v h' c.rd c.wr c.call∧gB h' e'∧e'.T=e.T∧Calm e e' h h'∧jy (rA P s) c.rd c.wr c.call h.length h'.length∧c.lo=h.length∧c.hi=h'.length:=by
  unfold Jc at hx
  rw[GV,he.1,he.2] at hx
  split at hx
  · rename_i v0 aC rd hs
    obtain ⟨rfl,g1,g2,g3,rfl,g5⟩:=N1 he hx
    have ha:=hc _ _ _ hs
    have st:=c9.op (P:=P) (n:=n) (all:=all) hg ha
    refine ⟨aC.apply h,st,⟨?_,g3⟩,g1,⟨r7 st,fun id hid hw=>?_⟩,⟨fun h0=>?_,fun h1=>?_⟩,rfl,rfl⟩
    · rw[j6 (fun id hid=>(kU ha id hid).1)]; exact g2
    · rw[g5] at hw
      simp only[List.mem_append,not_or] at hw
      exact ⟨qk st hid hw.1,hw.2⟩
    · obtain ⟨rfl,rfl⟩:=(qt hs).1 h0
      exact ⟨rfl,rfl,rfl,rfl⟩
    · rcases Nat.lt_or_ge (rA P s) 1 with h2 | h2
      · obtain ⟨rfl,rfl⟩:=(qt hs).1 (by omega); rfl
      · exact (qt hs).2 (by omega)
  · simp at hx
theorem Py {call:fX} (hcall:jJ P call) {fz:Fz} {o:Oper} {e e':ES} {h:aE} {v:V} {c:Rec} (hg:cQ n all e.T o=some true) (he:gB h e) (hx:eB P call (ma P fz o) e=some (v,e',c)) :
    ∃ h',c9 P n all o e.T h v h' c.rd c.wr c.call∧gB h' e'∧e'.T=e.T∧Calm e e' h h'∧jy (gT P false (ma P fz o)) c.rd c.wr c.call h.length h'.length∧c.lo=h.length∧c.hi=h'.length:=by
  rcases yp P fz o with ⟨f,args,ats,ho,hc⟩ | ⟨t,x,ho,hc⟩ | ⟨s,d,x,ho,hcv,hc⟩ | hc
  · rw[hc] at hx ⊢
    simp only[eB,Hl] at hx
    split at hx
    · rename_i g first cap hf
      rw[El] at hx
      rw[SX.cw] at hf
      split at hx
      · rename_i v0 e0 hv
        obtain ⟨hok,h',hr,hek,hd,hd2⟩:=hcall _ _ _ _ _ _ hv he
        simp only[Option.some.injEq,Prod.mk.injEq] at hx
        obtain ⟨rfl,rfl,rfl⟩:=hx
        exact ⟨h',.call hg ho hf hok hr hd hd2,hek,rfl,⟨hr.1,fun id hid hw=>by
          simp only[List.mem_append,not_or] at hw
          exact ⟨hd id hid hw.1,hw.2⟩⟩,LY (by simp[gT]),he.2,hek.2⟩
      · simp at hx
    · simp at hx
  · rw[hc] at hx ⊢
    simp only[eB,Jc,GV,sI,SX.cw] at hx
    split at hx
    · rename_i v0 aC rd hs
      split at hs
      · rename_i hok
        simp only[Option.some.injEq,Prod.mk.injEq] at hs
        obtain ⟨rfl,rfl,rfl⟩:=hs
        simp only[Dt,Option.some.injEq,Prod.mk.injEq] at hx
        obtain ⟨rfl,rfl,rfl⟩:=hx
        exact ⟨h,.gY hg ho hok,he,rfl,Calm.refl _ _,⟨fun _=>⟨rfl,rfl,rfl,rfl⟩,fun _=>rfl⟩,he.2,he.2⟩
      · simp at hs
    · simp at hx
  · rw[hc] at hx ⊢
    obtain ⟨ty,h1,h2,h3⟩:=yr hcv
    simp only[eB,Jc,GV,sI,SX.cw] at hx
    split at hx
    · rename_i v0 aC rd hs
      split at hs
      · rename_i st hst
        simp only[Option.some.injEq,Prod.mk.injEq] at hs
        obtain ⟨rfl,rfl,rfl⟩:=hs
        simp only[Dt,Option.some.injEq,Prod.mk.injEq] at hx
        obtain ⟨rfl,rfl,rfl⟩:=hx
        exact ⟨h,.eO hg ho h1 h2 h3 hst,he,rfl,Calm.refl _ _,⟨fun _=>⟨rfl,rfl,rfl,rfl⟩,fun _=>rfl⟩,he.2,he.2⟩
      · simp at hs
    · simp at hx
  · rw[hc] at hx ⊢
    exact O9 (s:=wc P fz.fr (comp P o)) hg (fun v aC rd hs=>Fi (Fm hs)) he hx
theorem Ou {o:Oper} (hd:qf n o=true) (hn:n≤8000):∀ t,o.dst=some t→t < 8000:=by
  intro t ht
  unfold qf at hd
  rw[ht] at hd
  have:t < n:=by simpa using hd
  exact Nat.lt_of_lt_of_le this hn
theorem Nf {c:Rec} {a b:Nat} (h1:c.lo=a) (h2:c.hi=b):c=⟨c.rd,c.wr,c.call,a,b⟩:=by cases c; subst h1; subst h2; rfl
theorem Dj {call:fX} (hcall:jJ P call) (hn:n≤8000) {fz:Fz} (g:Option (Nat × Bool)):∀ (l:List (Option Nat × SB)) (os:List Oper) (e e':ES) (h:aE) (a a':List Rec),
    cZ P n all fz os=some (l.map fun (d,b)=>⟨d,g,b⟩)→(∀ d w,g=some (d,w)→e.T d=.val (.bool w)∧(l.all fun x=>x.1 != some d)=true)→gB h e→E4 P call l a e=some (e',a') →
    ∃ recs h',a'=a ++ recs∧Tr P n all os e.T h recs e'.T h'∧gB h' e'∧Calm e e' h h'∧eL P false (l.map fun (d,b)=>⟨d,g,b⟩) recs
  | [],os,e,e',h,a,a',hc,hg,he,hx=>by
    have:=jV hc; subst this
    simp only[E4,Option.some.injEq,Prod.mk.injEq] at hx; obtain ⟨rfl,rfl⟩:=hx
    exact ⟨[],h,by simp,.nil,he,Calm.refl _ _,.nil⟩
  | (d,b) :: l,os,e,e',h,a,a',hc,hg,he,hx=>by
    obtain ⟨o,r,rfl,h1,h2⟩:=kE hc
    obtain ⟨hd,hd1,hb1,hg1⟩:=ry h1
    simp only at hd1 hb1 hg1
    have hgv:cQ n all e.T o=some true:=by
      cases g with
      | none=>exact zS hg1
      | some p =>
        obtain ⟨d',w⟩:=p
        have:=(jW (T:=e.T) hg1).1 w (hg d' w rfl).1
        rw[this]; simp
    simp only[E4] at hx
    rw[hb1] at hx
    split at hx
    · rename_i v e1 c hv
      obtain ⟨h1',st,he1,hT1,hcm,hl,hlo,hhi⟩:=Py hcall hgv he hv
      have hput:(e1.put d v).T=e.T.put o.dst v:=by
        rw[ES.LS (by rw[hd1]; exact Ou hd hn),hT1,hd1]
      obtain ⟨recs,h'',ha,tr,he2,hcm2,hro⟩:=Dj hcall hn g l r (e1.put d v) e' h1' _ a' h2 (fun d' w eq=>by
        have:=hg d' w eq
        simp only[List.all_cons,Bool.and_eq_true,bne_iff_ne,ne_eq] at this
        refine ⟨?_,this.2.2⟩
        rw[← this.1,hput,← hd1]
        cases d with
        | none=>rfl
        | some t=>simp only[Env.put]; rw[if_neg]; intro e; subst e; exact this.2.1 rfl) (Js he1) hx
      rw[hput] at tr
      refine ⟨_,h'',?_,.cons st hd tr,he2,(JL hcm).trans hcm2,hro.cons (by rw[hb1]; exact hl)⟩
      rw[ha,List.append_assoc,← Nf hlo hhi]; rfl
    · simp at hx
theorem Eo {fz:Fz} (hn:n≤8000) (d:Nat) (w:Bool) (h:aE):∀ (l:List (Option Nat × SB)) (os:List Oper) (e e':ES) (a a':List Rec),
    cZ P n all fz os=some (l.map fun (d',b)=>⟨d',some (d,w),b⟩)→(e.T d=.val (.bool !w)∨e.T d=.bo [])→(l.all fun x=>x.1 != some d)=true→gB h e→u5 l a e=(e',a') →
    ∃ recs,a'=a ++ recs∧Tr P n all os e.T h recs e'.T h∧gB h e'∧e'.w=e.w∧eL P false (l.map fun (d',b)=>⟨d',some (d,w),b⟩) recs
  | [],os,e,e',a,a',hc,hd,hl,he,hx=>by
    have:=jV hc; subst this
    simp only[u5,Prod.mk.injEq] at hx; obtain ⟨rfl,rfl⟩:=hx
    exact ⟨[],by simp,.nil,he,rfl,.nil⟩
  | (d',b) :: l,os,e,e',a,a',hc,hd,hl,he,hx=>by
    obtain ⟨o,r,rfl,h1,h2⟩:=kE hc
    obtain ⟨hd0,hd1,hb1,hg1⟩:=ry h1
    simp only at hd1 hb1 hg1
    have hgv:cQ n all e.T o=some false:=by
      rcases hd with hd | hd
      · rw[(jW (T:=e.T) hg1).1 _ hd]; cases w <;> rfl
      · exact (jW (T:=e.T) hg1).2 hd
    simp only[List.all_cons,Bool.and_eq_true,bne_iff_ne,ne_eq] at hl
    have hput:(e.put d' (.bo [])).T=e.T.put o.dst (.bo []):=by
      rw[ES.LS (by rw[hd1]; exact Ou hd0 hn),hd1]
    simp only[u5] at hx
    obtain ⟨recs,ha,tr,he2,hd2,hro⟩:=Eo hn d w h l r (e.put d' (.bo [])) e' _ a' h2 (by
      have:(e.put d' (.bo [])).T d=e.T d:=by
        rw[hput,← hd1]
        cases d' with
        | none=>rfl
        | some t=>simp only[Env.put]; rw[if_neg]; intro e; subst e; exact hl.1 rfl
      rw[this]; exact hd) hl.2 (Js he) hx
    rw[hput] at tr
    refine ⟨_,?_,Tr.cons (.skip hgv) hd0 tr,he2,by rw[hd2,L5],hro.cons (r:=⟨[],[],false,h.length,h.length⟩) ⟨fun _=>⟨rfl,rfl,rfl,rfl⟩,fun _=>rfl⟩⟩
    rw[ha,List.append_assoc,Ma,he.2]; rfl
theorem BF {fz:Fz} (hn:n≤8000) {d:Nat} {w:Bool} {h:aE} {l:List (Option Nat × SB)} {os:List Oper} {e e':ES} {a a':List Rec}
    (hc:cZ P n all fz os=some (l.map fun (d',b)=>⟨d',some (d,w),b⟩)) (hd:e.T d=.val (.bool !w)∨e.T d=.bo []) (hl:(l.all fun x=>x.1 != some d)=true) (he:gB h e) (hx:u5 l a e=(e',a')) :
    ∃ recs h',a'=a ++ recs∧Tr P n all os e.T h recs e'.T h'∧gB h' e'∧Calm e e' h h'∧eL P false (l.map fun (d',b)=>⟨d',some (d,w),b⟩) recs:=by
  obtain ⟨recs,h1,h2,h3,h4,h5⟩:=Eo hn d w h l os e e' a a' hc hd hl he hx
  exact ⟨recs,h,h1,h2,h3,⟨Nat.le_refl _,fun id _ hw=>⟨rfl,by rw[h4] at hw; exact hw⟩⟩,h5⟩
theorem PH {call:fX} (hcall:jJ P call) (hn:n≤8000) {fz:Fz} {g:SG} {os:List Oper} {e e':ES} {h:aE} {a a':List Rec} (hc:cZ P n all fz os=some g.flat) (hok:rO g=true) (he:gB h e) (hx:eG P call g a e=some (e',a')) :
    ∃ recs h',a'=a ++ recs∧Tr P n all os e.T h recs e'.T h'∧gB h' e'∧Calm e e' h h'∧eL P false g.flat recs:=by
  unfold eG at hx
  unfold SG.flat at hc ⊢
  unfold rO at hok
  split at hx
  · rename_i hg
    rw[hg] at hc ⊢
    exact Dj hcall hn none g.ops os e e' h a a' hc (fun d w e=>by simp at e) he hx
  · rename_i d want hg
    rw[hg] at hc hok ⊢
    simp only at hok
    unfold Hi at hx
    split at hx
    · rename_i b hb
      split at hx
      · rename_i hxor
        simp only[Option.some.injEq] at hx
        have e':b = !want:=by cases b <;> cases want <;> simp_all
        subst e'
        exact BF hn hc (.inl hb) hok he hx
      · rename_i hxor
        have e':b=want:=by cases b <;> cases want <;> simp_all
        subst e'
        exact Dj hcall hn (some (d,b)) g.ops os e _ h a a' hc (fun d' w e=>by simp at e; obtain ⟨rfl,rfl⟩:=e; exact ⟨hb,hok⟩) he hx
    · rename_i hb
      simp only[Option.some.injEq] at hx
      exact BF hn hc (.inr hb) hok he hx
    · simp at hx
theorem HF {call:fX} (hcall:jJ P call) (hn:n≤8000) {fz:Fz} : ∀ (gs:List SG) (os:List Oper) (e e':ES) (h:aE) (a a':List Rec),cZ P n all fz os=some (ja gs)→gs.all rO=true→gB h e→Hj P call gs a e=some (e',a') →
    ∃ recs h',a'=a ++ recs∧Tr P n all os e.T h recs e'.T h'∧gB h' e'∧Calm e e' h h'∧eL P false (ja gs) recs
  | [],os,e,e',h,a,a',hc,_,he,hx=>by
    have:=jV hc; subst this
    simp only[Hj,Option.some.injEq,Prod.mk.injEq] at hx; obtain ⟨rfl,rfl⟩:=hx
    exact ⟨[],h,by simp,.nil,he,Calm.refl _ _,.nil⟩
  | g :: gs,os,e,e',h,a,a',hc,hok,he,hx=>by
    simp only[ja,List.map_cons,List.flatten_cons] at hc ⊢
    simp only[List.all_cons,Bool.and_eq_true] at hok
    obtain ⟨o1,o2,rfl,h1,h2⟩:=pA hc
    simp only[Hj] at hx
    split at hx
    · rename_i e1 a1 hx1
      obtain ⟨r1,h1',ha1,tr1,he1,hc1,ro1⟩:=PH hcall hn h1 hok.1 he hx1
      obtain ⟨r2,h2',ha2,tr2,he2,hc2,ro2⟩:=HF hcall hn gs o2 e1 e' h1' a1 a' h2 hok.2 he1 hx
      exact ⟨_,h2',by rw[ha2,ha1,List.append_assoc],tr1.append tr2,he2,hc1.trans hc2,ro1.append ro2⟩
    · simp at hx
theorem Hq {ls:List Nat} {i k x y:Nat} (hik:i < k) (hx:ls[i]?=some x) (hy:ls[k]?=some y) (ho:ordered (ew all []) i k=false) (h:¬ (x=0∨y=0∨(x≤1∧y≤1))):(i,k)∈Am all ls:=by
  unfold Am
  simp only[List.mem_flatten,List.mem_map]
  refine ⟨_,⟨(x,i),by rw[List.mem_zipIdx_iff_getElem?]; exact hx,rfl⟩,?_⟩
  simp only[List.mem_map,List.mem_filter]
  refine ⟨(y,k),⟨by rw[List.mem_zipIdx_iff_getElem?]; exact hy,?_⟩,rfl⟩
  simp only[hik,decide_true,ho,Bool.false_or,Bool.true_and,Bool.not_eq_true',Bool.or_eq_false_iff,beq_eq_false_iff_ne,Bool.and_eq_false_iff,decide_eq_false_iff_not]
  omega
theorem K8 {ls:List Nat} {recs:List Rec} (h:HN recs (Am all ls)=true) (hl:ls.length=recs.length) (hr:∀ (i x:Nat) (r:Rec),ls[i]?=some x→recs[i]?=some r→jy x r.rd r.wr r.call r.lo r.hi):su all recs:=by
  intro i k a b hik ha hb ho
  have hi:i < recs.length:=(List.getElem?_eq_some_iff.1 ha).1
  have hk:k < recs.length:=(List.getElem?_eq_some_iff.1 hb).1
  have hx:ls[i]?=some (ls[i]'(by omega)):=List.getElem?_eq_getElem (by omega)
  have hy:ls[k]?=some (ls[k]'(by omega)):=List.getElem?_eq_getElem (by omega)
  generalize ls[i]'(by omega)=x at hx
  generalize ls[k]'(by omega)=y at hy
  have la:=hr i _ a hx ha
  have lb:=hr k _ b hy hb
  by_cases hc:x=0∨y=0∨(x≤1∧y≤1)
  · rcases hc with h1 | h1 | h1
    · obtain ⟨e1,e2,e3,e4⟩:=la.1 h1
      exact ⟨fun id hid=>by simp[e2] at hid,fun id _=>by simp[e1],fun hc=>by simp[e3] at hc,fun _=>e2,fun id _ hx=>by omega⟩
    · obtain ⟨e1,e2,e3,e4⟩:=lb.1 h1
      exact ⟨fun id _=>by simp[e1],fun id hid=>by simp[e2] at hid,fun _=>e2,fun hc=>by simp[e3] at hc,fun id hid=>by simp[e2] at hid⟩
    · have e1:=la.2 h1.1
      have e2:=lb.2 h1.2
      exact ⟨fun id hid=>by simp[e1] at hid,fun id hid=>by simp[e2] at hid,fun _=>e2,fun _=>e1,fun id hid=>by simp[e2] at hid⟩
  · have:=List.all_eq_true.1 h _ (Hq hik hx hy ho hc)
    simp only[ha,hb] at this
    exact Ix this
theorem Nk (hm:P.follows .mixedOrders=true) {call:fX} (hcall:jJ P call) (hn:n≤8000) {fz:List Nat} {id:Nat} {ops:Array Oper} {draw:Bool} {sc:DC} {run:vm} {e e':ES} {r:Exit} {h:aE}
    (hc:Dw P n fz ops.toList draw=some sc) (he:gB h e) (hx:kS P call run sc e=some (r,e')) :
    ∃ h',cA P n (.region id ops draw) e.T h r e'.T h'∧gB h' e'∧Calm e e' h h':=by
  unfold Dw at hc
  split at hc
  · simp at hc
  · rename_i l hl
    split at hc
    · simp at hc
    · rename_i hok
      have hok:(group l).all rO=true:=by simpa using hok
      have hl':cZ P n ops.toList ⟨fz,false⟩ ops.toList=some (ja (group l)):=by rw[eY]; exact hl
      have key:∀ ps,kS P call run (.region ps (group l)) e=some (r,e')→(draw=true→kJ ops.toList=true∧ps=Am ops.toList (l.map fun s=>gT P false s.b)) →
          ∃ h',cA P n (.region id ops draw) e.T h r e'.T h'∧gB h' e'∧Calm e e' h h':=by
        intro ps hx hdr
        simp only[kS,FI] at hx
        split at hx
        · rename_i e1 recs0 hx1
          split at hx
          · rename_i hchk
            simp only[Option.some.injEq,Prod.mk.injEq] at hx
            obtain ⟨rfl,rfl⟩:=hx
            obtain ⟨recs,h',ha,tr,hk,hcm,hro⟩:=HF hcall hn (group l) ops.toList e e1 h [] recs0 hl' hok he hx1
            simp only[List.nil_append] at ha
            subst ha
            rw[eY] at hro
            refine ⟨h',?_,hk,hcm⟩
            cases hd:draw with
            | false=>simpa using Dh (id:=id) tr
            | true =>
              obtain ⟨h1,rfl⟩:=hdr hd
              have hcf:su ops.toList recs0:=K8 hchk (by simpa using hro.1) (fun i x r hx hr=>by
                simp only[List.getElem?_map,Option.map_eq_some_iff] at hx
                obtain ⟨s,hs,rfl⟩:=hx
                exact hro.2 i s r hs hr)
              simpa using vU hm (id:=id) tr h1 hcf
          · simp at hx
        · simp at hx
      split at hc
      · rename_i hd
        split at hc
        · rename_i ht
          simp at hc; subst hc
          exact key _ hx (fun _=>⟨ht,rfl⟩)
        · simp at hc
      · rename_i hd
        simp at hc; subst hc
        exact key _ hx (fun e=>absurd e hd)
theorem LO (hm:P.follows .mixedOrders=true) {call:fX} (hcall:jJ P call) {run:vm} (hrun:uP P run):uP P (kS P call run):=by
  intro n fz c sc hc hn e e' r h hx he
  cases c with
  | skip =>
    simp[gQ] at hc; subst hc
    simp only[kS,I2,Option.some.injEq,Prod.mk.injEq] at hx
    obtain ⟨rfl,rfl⟩:=hx
    exact ⟨h,.skip,he,Calm.refl _ _,fun _ h=>by simp at h⟩
  | region id ops draw =>
    obtain ⟨h',a,b,d⟩:=Nk (id:=id) hm hcall hn hc he hx
    exact ⟨h',a,b,d,fun _ h=>by simp at h⟩
  | seq x y =>
    simp only[gQ] at hc
    split at hc
    · rename_i a b h1 h2
      simp at hc; subst hc
      simp only[kS,Pc] at hx
      split at hx
      · rename_i e1 hx1
        obtain ⟨h1',x1,he1,c1,l1⟩:=hrun n fz x a h1 hn e e1 .normal h hx1 he
        obtain ⟨h2',x2,he2,c2,l2⟩:=hrun n fz y b h2 hn e1 e' r h1' hx he1
        exact ⟨h2',x1.seq x2,he2,c1.trans c2,fun _ h=>by simp at h⟩
      · rename_i hne
        obtain ⟨h1',x1,he1,c1,l1⟩:=hrun n fz x a h1 hn e e' r h hx he
        refine ⟨h1',x1.E7 (fun e=>?_),he1,c1,fun _ h=>by simp at h⟩
        subst e
        exact absurd hx (hne e')
    · simp at hc
  | cond cc x y =>
    simp only[gQ] at hc
    split at hc
    · rename_i a b h1 h2
      simp at hc; subst hc
      simp only[kS,LQ,SX.cw] at hx
      split at hx
      · rename_i ht
        obtain ⟨h1',x1,he1,c1,l1⟩:=hrun n fz x a h1 hn e e' r h hx he
        exact ⟨h1',.cond ht x1,he1,c1,fun _ h=>by simp at h⟩
      · rename_i ht
        obtain ⟨h1',x1,he1,c1,l1⟩:=hrun n fz y b h2 hn e e' r h hx he
        exact ⟨h1',.cond ht x1,he1,c1,fun _ h=>by simp at h⟩
      · simp at hx
    · simp at hc
  | block id c =>
    simp only[gQ,Option.map_eq_some_iff] at hc
    obtain ⟨a,h1,rfl⟩:=hc
    simp only[kS,Ht] at hx
    split at hx
    · rename_i r1 e1 hx1
      simp only[Option.some.injEq,Prod.mk.injEq] at hx
      obtain ⟨rfl,rfl⟩:=hx
      obtain ⟨h1',x1,he1,c1,l1⟩:=hrun n fz c a h1 hn e e1 r1 h hx1 he
      exact ⟨h1',x1.block,he1,c1,fun _ h=>by simp at h⟩
    · simp at hx
  | loop c =>
    have hc0:=hc
    simp only[gQ,Option.map_eq_some_iff] at hc
    obtain ⟨a,h1,rfl⟩:=hc
    simp only[kS,L8] at hx
    split at hx
    · rename_i e1 hx1
      obtain ⟨h1',x1,he1,c1,l1⟩:=hrun n fz c a h1 hn e e1 .normal h hx1 he
      obtain ⟨h2',x2,he2,c2,l2⟩:=hrun n fz (.loop c) (.loop a) hc0 hn e1 e' r h1' hx he1
      have hL:=oh.step x1 (l2 c rfl)
      exact ⟨h2',.loop hL,he2,c1.trans c2,fun c0 h0=>by simp only[Code.loop.injEq] at h0; subst h0; exact hL⟩
    · rename_i hne
      obtain ⟨h1',x1,he1,c1,l1⟩:=hrun n fz c a h1 hn e e' r h hx he
      have hL:=oh.out x1 (fun e=>by subst e; exact absurd hx (hne e'))
      exact ⟨h1',.loop hL,he1,c1,fun c0 h0=>by simp only[Code.loop.injEq] at h0; subst h0; exact hL⟩
  | exit id =>
    simp[gQ] at hc; subst hc
    simp only[kS,Option.some.injEq,Prod.mk.injEq] at hx
    obtain ⟨rfl,rfl⟩:=hx
    exact ⟨h,.exit,he,Calm.refl _ _,fun _ h=>by simp at h⟩
  | ret =>
    simp[gQ] at hc; subst hc
    simp only[kS,Option.some.injEq,Prod.mk.injEq] at hx
    obtain ⟨rfl,rfl⟩:=hx
    exact ⟨h,.ret,he,Calm.refl _ _,fun _ h=>by simp at h⟩
  | _=>simp[gQ] at hc
theorem Cb:∀ (vs:List V) (i:Nat) (t:cm V),i+vs.length≤8000→∀ k,(lM vs i t).get .any k=if i≤k∧k < i+vs.length then vs.getD (k - i) .any else t.get .any k
  | [],i,t,h,k=>by
    rw[lM,if_neg (by simp only[List.length_nil]; omega)]
  | v :: vs,i,t,h,k=>by
    simp only[List.length_cons] at h
    rw[lM,Cb vs (i+1) _ (by omega),cm.lC _ _ _ _ _ _ (by simp only[deep]; omega)]
    simp only[List.length_cons]
    by_cases h1:k=i
    · subst h1; rw[if_neg (by omega),if_pos rfl,if_pos (by omega)]; simp
    · by_cases h2:i+1≤k∧k < i+1+vs.length
      · rw[if_pos h2,if_pos (by omega)]
        have:k - i=(k - (i+1))+1:=by omega
        rw[this]; rfl
      · rw[if_neg h2,if_neg h1,if_neg (by omega)]
theorem ET (vs:List V) (h:vs.length≤8000):(lM vs 0 .nil).get .any=jZ vs:=by
  funext k
  rw[Cb vs 0 .nil (by omega)]
  simp only[jZ,Nat.zero_le,true_and,Nat.zero_add,Nat.sub_zero]
  split
  · rfl
  · rename_i hk
    rw[List.getD_eq_getElem?_getD,List.getElem?_eq_none (by omega)]; rfl
theorem Me {e:ES} {h:aE} {r:ResultVar} {rest:List ResultVar} {l:List SR} (he:gB h e) (hc:ez P (r :: rest)=some l):∃ s l',l=s :: l'∧ez P rest=some l'∧∀ v,Ks s e=some v→q4 P e.T h r=some v:=by
  cases r with
  | tmp t =>
    simp only[ez,Option.map_eq_some_iff] at hc
    obtain ⟨l',h1,rfl⟩:=hc
    exact ⟨.tmp t,l',rfl,h1,fun v hv=>hv⟩
  | cell a t =>
    simp only[ez] at hc
    split at hc
    · rename_i k l' h1 h2
      simp at hc; subst hc
      refine ⟨.cell a k,l',rfl,h2,fun v hv=>?_⟩
      simp only[Ks] at hv
      simp only[q4,kL,ux h1]
      rw[he.1] at hv
      split at hv
      · rename_i id i j ha
        split at hv
        · rename_i es hH
          split at hv
          · rename_i hlt
            rw[ha]; simp only[hH]; rw[if_pos hlt,hv]; rfl
          · simp at hv
        · simp at hv
      · rename_i e j ha
        rw[ha]; simp only; rw[hv]; rfl
      · simp at hv
    · simp at hc
theorem Eg {e:ES} {h:aE} (he:gB h e):∀ (rs:List ResultVar) (l:List SR) (vs:List V),ez P rs=some l→ve l e=some vs→kG P e.T h rs=some vs
  | [],l,vs,hc,hw=>by simp[ez] at hc; subst hc; simp[ve] at hw; subst hw; rfl
  | r :: rest,l,vs,hc,hw=>by
    obtain ⟨s,l',rfl,h1,h2⟩:=Me (e:=e) (h:=h) he hc
    simp only[ve] at hw
    split at hw
    · rename_i v vs' hv hvs
      simp at hw; subst hw
      simp[kG,h2 v hv,Eg he rest l' vs' h1 hvs]
    · simp at hw
def r6 (P:Program) (tab:List (FuncId × DF)):Prop:=∀ p∈tab,∃ fz,bH P p.1 fz=some p.2
def qQ (P:Program) (ext:wU):Prop:=∀ g vs H t,ext g vs H=some t→cX P g=true∧∀ h:aE,h.view=H→bT P g vs h t h
theorem Dx {tab:List (FuncId × DF)} {ext:wU} (ht:r6 P tab) (hx:qQ P ext) {run:vm} (hrun:uP P run):jJ P (CY P tab ext run):=by
  intro g vs e v e' h hcall he
  unfold CY at hcall
  split at hcall
  · rename_i t hext
    simp only[Option.some.injEq,Prod.mk.injEq] at hcall
    obtain ⟨rfl,rfl⟩:=hcall
    obtain ⟨h1,h2⟩:=hx _ _ _ _ hext
    exact ⟨h1,h,h2 h he.1.symm,he,fun _ _ _=>rfl,fun _ hw=>by simp at hw⟩
  · split at hcall
    · rename_i g' F hf
      have hmem:=List.mem_of_find?_eq_some hf
      have hgg:g'=g:=by
        have:=List.find?_some hf
        exact Nat.eq_of_beq_eq_true this
      subst hgg
      obtain ⟨fz,hF⟩:=ht _ hmem
      simp only at hF
      unfold bH at hF
      split at hF
      · rename_i fn hfn
        split at hF
        · rename_i c hb
          split at hF
          · rename_i sc rs h1 h2 h3
            simp at hF; subst hF
            refine ⟨h3,?_⟩
            unfold Pa at hcall
            split at hcall
            · rename_i hlen hn
              have hlen:=Nat.le_of_ble_eq_true hlen
              have hn:=Nat.le_of_ble_eq_true hn
              simp only at hlen hn
              unfold OU at hcall
              split at hcall
              · rename_i v1 e1' hend
                simp only[Option.some.injEq,Prod.mk.injEq] at hcall
                obtain ⟨rfl,rfl⟩:=hcall
                unfold Pm at hend
                have go:∀ (r:Exit) (e1:ES),(r=.ret∨r=.normal)→run sc ⟨lM vs 0 .nil,e.H,e.n,[]⟩=some (r,e1)→(ve rs e1).map (fun vs=>(ai vs,e1))=some (v1,e1') →
                    ∃ h',bT P g' vs h v1 h'∧gB h' e1'∧(∀ id,id < h.length→¬ id∈e1'.w→h'.view id=h.view id):=by
                  intro r e1 hr hrn hres
                  simp only[Option.map_eq_some_iff,Prod.mk.injEq] at hres
                  obtain ⟨vs',hvs,rfl,rfl⟩:=hres
                  obtain ⟨h',hx,he1,hc1,_⟩:=hrun fn.ntmps fz c sc h1 hn _ e1 r h hrn he
                  have hT:(ES.T ⟨lM vs 0 .nil,e.H,e.n,[]⟩)=jZ vs:=ET vs (by omega)
                  rw[hT] at hx
                  refine ⟨h',bT.Fc hfn hb hlen hx (by rcases hr with rfl | rfl <;> simp) ?_,he1,fun id hid hw=>(hc1.2 id hid hw).1⟩
                  unfold FQ
                  rw[Eg he1 _ _ _ h2 hvs]
                  cases vs' with
                  | nil=>rfl
                  | cons a l=>cases l <;> rfl
                have done:(∃ h',bT P g' vs h v1 h'∧gB h' e1'∧(∀ id,id < h.length→¬ id∈e1'.w→h'.view id=h.view id)) →
                    ∃ h',bT P g' vs h v1 h'∧gB h' ⟨e1'.L,e1'.H,e1'.n,e1'.w.filter fun id=>Nat.blt id e.n⟩∧(∀ id,id < h.length→¬ id∈e1'.w.filter (fun id=>Nat.blt id e.n)→h'.view id=h.view id)∧∀ id,id∈e1'.w.filter (fun id=>Nat.blt id e.n)→id < h.length:=by
                  rintro ⟨h',k1,k2,k3⟩
                  refine ⟨h',k1,k2,fun id hid hw=>k3 id hid (fun hm=>hw ?_),fun id hw=>?_⟩
                  · rw[List.mem_filter]
                    exact ⟨hm,by rw[he.2]; exact Nat.ble_eq_true_of_le hid⟩
                  · rw[List.mem_filter] at hw
                    have:=Nat.le_of_ble_eq_true hw.2
                    rw[he.2] at this; exact this
                split at hend
                · rename_i e1 hrn; exact done (go _ _ (.inl rfl) hrn hend)
                · rename_i e1 hrn; exact done (go _ _ (.inr rfl) hrn hend)
                · simp at hend
              · simp at hcall
            · simp at hcall
          · simp at hF
        · simp at hF
      · simp at hF
    · simp at hcall
theorem E9 (hm:P.follows .mixedOrders=true) {tab:List (FuncId × DF)} {ext:wU} (ht:r6 P tab) (hx:qQ P ext):∀ k,uP P (DW P tab ext k)
  | 0=>fun n fz c sc hc hn e e' r h hr he=>by simp[DW] at hr
  | k+1=>by
    have ih:=E9 hm ht hx k
    have:=LO hm (Dx ht hx ih) ih
    exact this
end
inductive c7 (h:aE):V→V→Prop
  | val (v:Value):c7 h (.val v) (.val v)
  | emp (k:Nat):c7 h (.emp k) (.aY [])
  | sl (id off len esz z:Nat) (es es':List (List V)):h.view id=.arr z es→off+len≤es.length→es'.length=len →
      (∀ i,i < len→(es'.getD i []).length=(es.getD (off+i) []).length) →
      (∀ i j,i < len→j < (es'.getD i []).length→c7 h ((es.getD (off+i) []).getD j .any) ((es'.getD i []).getD j .any))→c7 h (.sl id off len esz) (.aY es')
  | agg (cs cs':List V):cs'.length=cs.length→(∀ i,i < cs.length→c7 h (cs.getD i .any) (cs'.getD i .any))→c7 h (.agg cs) (.agg cs')
  | bo (cs cs':List V):cs'.length=cs.length→(∀ i,i < cs.length→c7 h (cs.getD i .any) (cs'.getD i .any))→c7 h (.bo cs) (.bo cs')
theorem Mv {h:aE} {Z:Nat→Prop} {μ ν:Mu} {F:View} {hp:Array Obj} (hr:gf Z μ hp (cat h F)) {v t:V} (fr:c7 h v t):∀ {x:Value},aB Z μ hp v x→aB (gP μ) ν hp t x:=by
  have hcat:∀ id,h.view id≠.dead→cat h F id=h.view id:=fun id hd=>by simp only[cat]; rw[if_pos (iT hd)]
  induction fr with
  | val v=>intro x hx; cases hx with | val _ hv=>exact .val _ hv
  | emp k=>intro x hx; cases hx with | emp _ a=>exact .fY a 0 (fun _=>rfl)
  | sl id off len esz z es es' hH hle hlen hl _ ih =>
    intro x hx
    cases hx with
    | pP _ _ _ a =>
      have:es'=[]:=List.length_eq_zero_iff.1 hlen
      subst this
      exact .fY a 0 (fun _=>rfl)
    | sl _ _ _ _ b o0 cap c e f hm hlec hb hs =>
      have hor:=hr.obj id
      rw[hcat id (by rw[hH]; simp),hH] at hor
      obtain ⟨rfl,_,h3,h4⟩:=hor b o0 esz hm
      have hx:∀ i,∃ ci:Nat→Value,∀ j,j < esz→i < len→cellAt hp b (o0+off * esz+i * esz+j)=some (ci j)∧aB Z μ hp ((es.getD (off+i) []).getD j .any) (ci j):=by
        intro i
        by_cases hi:i < len
        · obtain ⟨ci,hci⟩:=mo (n:=esz) (p:=fun j x=>cellAt hp b (o0+off * esz+i * esz+j)=some x∧aB Z μ hp ((es.getD (off+i) []).getD j .any) x) (fun j hj=>by
            obtain ⟨x,hx,hv⟩:=h4 (off+i) j (by omega) hj
            rw[Nat.add_mul,← Nat.add_assoc] at hx
            exact ⟨x,hx,hv⟩)
          exact ⟨ci,fun j hj _=>hci j hj⟩
        · exact ⟨fun _=>undef,fun j _ h=>absurd h hi⟩
      obtain ⟨cf,hcf⟩:=Classical.axiomOfChoice hx
      have hel:∀ i,i < es'.length→(es'.getD i []).length=esz:=fun i hi=>by rw[hl i (by omega)]; exact h3 _ (by omega)
      have:=aB.aY (Z:=gP μ) (μ:=ν) (hp:=hp) es' b (o0+off * esz) esz cap cf ⟨id,o0,esz,hm⟩ (by omega) hel
        (fun i j hi hj=>(hcf i j hj (by omega)).1) (fun i j hi hj=>ih i j (by omega) (by rw[hel i hi]; exact hj) (hcf i j hj (by omega)).2)
      rw[hlen] at this
      exact this
  | agg cs cs' hlen _ ih =>
    intro x hx
    cases hx with
    | agg _ aas h1 h2=>exact .agg _ _ (by omega) (fun i hi=>ih i (by omega) (h2 i (by omega)))
  | bo cs cs' hlen _ ih =>
    intro x hx
    cases hx with
    | bo _ aas h1 h2=>exact .bo _ _ (by omega) (fun i hi=>ih i (by omega) (h2 i (by omega)))
def cd (P:Program) (f:FuncId) (vs:List V) (t:V):Prop :=
  ∀ Z μ (w:World) (xs:List Value),dZ Z μ w.heap vs xs→(∀ b,Z b→b < w.heap.size) →
    Calls P f xs.toArray w fun e w'=>∃ x Z',e=.returned x∧(∀ ν,aB Z' ν w'.heap t x)∧dH w w'∧(∀ b,Z' b→w.heap.size≤b∧b < w'.heap.size)∧eJ w.heap w'.heap (fun _=>False)
theorem cd.pure {P:Program} {f:FuncId} {vs:List V} {t:V} (h:cd P f vs t):aD P f vs t:=by
  intro Z μ w xs hrel hz
  refine (h Z μ w xs hrel hz).mono ?_
  rintro e w' ⟨x,Z',rfl,hv,hs,hz',ho⟩
  exact ⟨x,fun b=>Z b∨Z' b,rfl,fun ν=>(hv ν).mono ⟨fun _ h=>.inr h,fun _ _=>rfl,fun _ _ h=>h,eo.refl _⟩,hs,fun _ h=>.inl h,fun b hb=>hb.imp id (hz' b),ho⟩
theorem cd.uu {P:Program} {f:FuncId} {vs:List V} {r t:V} {h':aE} (ht:∀ v∈vs,Tree v) (hc:bT P f vs [] r h') (hf:c7 h' r t):cd P f vs t:=by
  intro Z μ w xs hrel hz
  have hrel0:dZ Z (fun _=>none) w.heap vs xs:=⟨hrel.1,fun i hi=>tZ (hrel.2 i hi) (by
    simp only[List.getD_eq_getElem?_getD,List.getElem?_eq_getElem hi,Option.getD_some]
    exact ht _ (List.getElem_mem _))⟩
  have hr0:gf Z (fun _=>none) w.heap (cat [] fun _=>.dead):=by
    rw[AH]
    exact ⟨fun _=>trivial,fun i j b o s o' s' _ h=>by simp at h,fun id b o s h=>by simp at h,hz,fun id b o s h=>by simp at h⟩
  refine (hc.2 Z _ _ w xs hrel0 hr0 (fun _ _ _=>rfl)).mono ?_
  rintro e w' ⟨x,Z',μ',rfl,hv,hh,hex,_⟩
  refine ⟨x,gP μ',rfl,fun ν=>Mv hh hf hv,hex.same,?_,fun b hb _=>hex.frame b hb (by rintro ⟨_,_,_,h⟩; simp at h)⟩
  rintro b ⟨id,o,s,hb⟩
  rcases hex.Aa _ _ _ _ hb with h1 | ⟨_,h1 | ⟨_,_,_,h1⟩⟩
  · simp at h1
  · exact ⟨h1,hh.lt _ _ _ _ hb⟩
  · simp at h1
theorem cd.of {P:Program} {f:FuncId} {vs:List V} {t:V} (ht:∀ v∈vs,Tree v) (h:aA P f vs (fun _=>.dead) fun r H'=>∀ h':aE,h'.view=H'→c7 h' r t):cd P f vs t:=by
  obtain ⟨r,h',ha,_,hf⟩:=h.2 [] BJ
  exact cd.uu ht ha (hf h' rfl)
theorem bT.s7 {P:Program} {f:FuncId} {ts vs:List V} {t:V} {h:aE} (hc:cd P f ts t) (hl:ts.length=vs.length)
    (hfr:∀ i,i < vs.length→Fr h (vs.getD i .any) (ts.getD i .any)):bT P f vs h t h:=by
  refine ⟨Nat.le_refl _,fun Z μ F w xs hrel hr hfree=>?_⟩
  have hts:dZ (fun b=>Z b∨gP μ b) μ w.heap ts xs:=⟨by rw[hl,hrel.1],fun i hi=>zM hr (hfr i (by omega)) (hrel.2 i (by omega))⟩
  have hzl:∀ b,(Z b∨gP μ b)→b < w.heap.size:=by
    rintro b (hb | ⟨id,o,s,hb⟩)
    · exact hr.cz b hb
    · exact hr.lt _ _ _ _ hb
  refine (hc _ μ w xs hts hzl).mono ?_
  rintro e w' ⟨x,Z',rfl,hv,hs,hz',ho⟩
  have hm:fw Z (fun b=>Z b∨Z' b) μ μ w.heap w'.heap:=⟨fun _ h=>.inl h,fun b hb=>ho b (hr.cz b hb) (fun x=>x),fun _ _ h=>h,ho.oY⟩
  refine ⟨x,fun b=>Z b∨Z' b,μ,rfl,(hv μ).mono ⟨fun _ h=>.inr h,fun _ _=>rfl,fun _ _ h=>h,eo.refl _⟩,⟨fun id=>(hr.obj id).mono hm rfl (fun b o s hx=>ho b (hr.lt _ _ _ _ hx) (fun x=>x)),hr.inj,fun id b o s hx=>Nat.lt_of_lt_of_le (hr.lt _ _ _ _ hx) hs.size,fun b hb=>?_,fun id b o s hx hzb=>?_⟩,
    ⟨hs,hm,fun b hb _=>ho b hb (fun x=>x),fun b hb=>hb.imp id (fun h=>(hz' b h).1),fun _ _ _ _ h=>.inl h⟩,fun _ _=>rfl⟩
  · rcases hb with hb | hb
    · exact Nat.lt_of_lt_of_le (hr.cz b hb) hs.size
    · exact (hz' b hb).2
  · rcases hzb with hb | hb
    · exact hr.gj _ _ _ _ hx hb
    · have:=hr.lt _ _ _ _ hx; have:=(hz' b hb).1; omega
theorem aF.s7 {P:Program} {q:Bool} {f:FuncId} {H:View} {vs ts:List V} {K:V→View→Prop} {v:cF (H,K)} {t:V} (hc:cd P f ts t) (hok:cX P f=true) (hl:ts.length=vs.length)
    (hfr:∀ i,i < vs.length→di H (vs.getD i .any) (ts.getD i .any)) (hk:K t H):aF P q f vs H K v:=by
  unfold aF
  cases q with
  | true=>exact ⟨hok,fun h e=>⟨t,h,bT.s7 hc hl (fun i hi=>hfr i hi h e),fun _ _=>rfl,e ▸ hk⟩⟩
  | false =>
    refine ⟨hok,?_⟩
    rintro h rfl
    exact ⟨t,h,bT.s7 hc hl (fun i hi=>hfr i hi h rfl),.refl _,hk⟩
noncomputable def mG (fz:V→Option V):List V→Option (List V)
  | []=>some []
  | v :: l=>match fz v,mG fz l with
    | some a,some b=>some (a :: b)
    | _,_=>none
noncomputable def Bu (fz:V→Option V):List (List V)→Option (List (List V))
  | []=>some []
  | v :: l=>match mG fz v,Bu fz l with
    | some a,some b=>some (a :: b)
    | _,_=>none
noncomputable def xx (H:View):Nat→V→Option V
  | 0,_=>none
  | k+1,v=>match v with
    | .val x=>some (.val x)
    | .emp _=>some (.aY [])
    | .sl id off len _=>match H id with
      | .arr _ es=>if off+len≤es.length then (Bu (xx H k) ((es.drop off).take len)).map .aY else none
      | _=>none
    | .agg cs=>(mG (xx H k) cs).map .agg
    | .bo cs=>(mG (xx H k) cs).map .bo
    | _=>none
theorem fV {fz:V→Option V} : ∀ (l l':List V),mG fz l=some l'→l'.length=l.length∧∀ i,i < l.length→fz (l.getD i .any)=some (l'.getD i .any)
  | [],l',h=>by simp only[mG,Option.some.injEq] at h; subst h; exact ⟨rfl,fun i hi=>by simp at hi⟩
  | v :: l,l',h=>by
    simp only[mG] at h
    split at h
    · rename_i a b h1 h2
      simp only[Option.some.injEq] at h; subst h
      obtain ⟨g1,g2⟩:=fV l b h2
      refine ⟨by simp[g1],fun i hi=>?_⟩
      cases i with
      | zero=>exact h1
      | succ i=>exact g2 i (by simpa using hi)
    · simp at h
theorem Bd {fz:V→Option V} : ∀ (l l':List (List V)),Bu fz l=some l'→l'.length=l.length∧∀ i,i < l.length→mG fz (l.getD i [])=some (l'.getD i [])
  | [],l',h=>by simp only[Bu,Option.some.injEq] at h; subst h; exact ⟨rfl,fun i hi=>by simp at hi⟩
  | v :: l,l',h=>by
    simp only[Bu] at h
    split at h
    · rename_i a b h1 h2
      simp only[Option.some.injEq] at h; subst h
      obtain ⟨g1,g2⟩:=Bd l b h2
      refine ⟨by simp[g1],fun i hi=>?_⟩
      cases i with
      | zero=>exact h1
      | succ i=>exact g2 i (by simpa using hi)
    · simp at h
theorem FH (h:aE):∀ (k:Nat) (v t:V),xx h.view k v=some t→c7 h v t
  | 0,v,t,hf=>by simp[xx] at hf
  | k+1,v,t,hf=>by
    have ih:=FH h k
    simp only[xx] at hf
    split at hf
    · simp only[Option.some.injEq] at hf; subst hf; exact .val _
    · simp only[Option.some.injEq] at hf; subst hf; exact .emp _
    · rename_i id off len esz
      split at hf
      · rename_i z es hH
        split at hf
        · rename_i hle
          simp only[Option.map_eq_some_iff] at hf
          obtain ⟨es',he,rfl⟩:=hf
          obtain ⟨g1,g2⟩:=Bd _ _ he
          have hlen:es'.length=len:=by rw[g1]; simp; omega
          have hg:∀ i,i < len→((es.drop off).take len).getD i []=es.getD (off+i) []:=fun i hi=>by
            simp[List.getD_eq_getElem?_getD,hi]
          have g3:∀ i,i < len→mG (xx h.view k) (es.getD (off+i) [])=some (es'.getD i []):=fun i hi=>by
            rw[← hg i hi]; exact g2 i (by rw[← g1,hlen]; exact hi)
          exact .sl id off len esz z es es' hH hle hlen (fun i hi=>(fV _ _ (g3 i hi)).1) (fun i j hi hj=>ih _ _ ((fV _ _ (g3 i hi)).2 j (by rw[← (fV _ _ (g3 i hi)).1]; exact hj)))
        · simp at hf
      · simp at hf
    · simp only[Option.map_eq_some_iff] at hf
      obtain ⟨l,hl,rfl⟩:=hf
      obtain ⟨g1,g2⟩:=fV _ _ hl
      exact .agg _ _ g1 (fun i hi=>ih _ _ (g2 i hi))
    · simp only[Option.map_eq_some_iff] at hf
      obtain ⟨l,hl,rfl⟩:=hf
      obtain ⟨g1,g2⟩:=fV _ _ hl
      exact .bo _ _ g1 (fun i hi=>ih _ _ (g2 i hi))
    · simp at hf
noncomputable def LX:Option (V × ES)→Option V
  | some (v,e)=>xx e.V 50 v
  | none=>none
noncomputable def sT (P:Program) (tab:List (FuncId × DF)) (ext:wU) (f:FuncId) (vs:List V):Option V :=
  LX (CY P tab ext (DW P tab ext 100000) f vs ⟨.nil,.nil,0,[]⟩)
theorem pX {P:Program} (hm:P.follows .mixedOrders=true) {tab:List (FuncId × DF)} {ext:wU} (ht:r6 P tab) (hx:qQ P ext) {f:FuncId} {vs:List V} {t:V} (hvs:∀ v∈vs,Tree v) (h:sT P tab ext f vs=some t) :
    cd P f vs t:=by
  unfold sT LX at h
  split at h
  · rename_i v e hr
    obtain ⟨h1,h',h2,h3,_⟩:=Dx ht hx (E9 hm ht hx 100000) f vs _ v e [] hr ⟨by funext k; rfl,rfl⟩
    rw[h3.1] at h
    exact cd.uu hvs h2 (FH h' 50 v t h)
  · simp at h
structure an.iw (g:an):Prop where
  ax:g.ax.length≤24
  p8:1≤g.av.length
  av:g.av.length≤16
  DD:1≤g.rules.length
  rules:g.rules.length≤40
  dW:0≤g.start
  start:g.start < g.av.length
  left:∀ r∈g.rules,0≤r.left∧r.left < g.av.length
  right:∀ r∈g.rules,r.right.length≤6
  sym:∀ r∈g.rules,∀ s∈r.right,gu g s=true
  prec:∀ r∈g.rules,-1≤r.prec∧r.prec < g.ax.length
theorem wh {g:an} : ∀ (l:List aQ) (top:Int),fA g l top=true→top≤(g.av.length:Int) - 1∧∀ r∈l,0≤r.left∧r.left < g.av.length∧gm g r=true
  | [],top,h=>by simp[fA] at h; exact ⟨by omega,fun r hr=>by simp at hr⟩
  | r :: l,top,h=>by
    simp only[fA,Bool.and_eq_true,decide_eq_true_eq] at h
    obtain ⟨⟨⟨h1,h2⟩,h3⟩,h4⟩:=h
    obtain ⟨k1,k2⟩:=wh l _ h4
    have h5:r.left≤(if r.left > top then r.left else top):=by split <;> omega
    have h6:top≤(if r.left > top then r.left else top):=by split <;> omega
    refine ⟨by omega,fun r' hr=>?_⟩
    rcases List.mem_cons.1 hr with rfl | hr
    · exact ⟨h1,by omega,h3⟩
    · exact k2 r' hr
theorem aZ {g:an} (h:bp g=true):g.iw:=by
  simp only[bp,iR,jD,Bool.and_eq_true,decide_eq_true_eq] at h
  obtain ⟨⟨⟨⟨⟨⟨⟨h1,_⟩,⟨h2,h3⟩,_⟩,h4⟩,h5⟩,h6⟩,h7⟩,h8⟩:=h
  have k:=(wh _ _ h8).2
  have hb:∀ r∈g.rules,r.right.length≤6∧-1≤r.prec∧r.prec < g.ax.length∧∀ s∈r.right,gu g s=true:=fun r hr=>by
    have:=(k r hr).2.2
    simp only[gm,Bool.and_eq_true,decide_eq_true_eq,List.all_eq_true,kW] at this
    exact ⟨this.1.1.1,this.1.1.2,this.1.2,fun s hs=>(this.2 s hs).1⟩
  exact ⟨h1,h2,h3,h4,h5,h6,h7,fun r hr=>⟨(k r hr).1,(k r hr).2.1⟩,fun r hr=>(hb r hr).1,fun r hr=>(hb r hr).2.2.2,fun r hr=>⟨(hb r hr).2.1,(hb r hr).2.2.1⟩⟩
theorem an.iw.neg {g:an} (h:g.iw) {r:aQ} (hr:r∈g.rules) {s:Int} (hs:s∈r.right) (hn:s < 0) : -1 - s < g.av.length:=by
  have:=h.sym r hr s hs
  simp only[gu] at this
  rw[if_neg (by omega)] at this
  simpa using this
theorem Dz (l:List Int) (is:List Bool) (t:Bool) (hl:aM l) (hs:∀ s∈l,bW s∧(s < 0→-1 - s < is.length)):aD Tryz.prog 117 [encI l,bw is,gb t] (gb (dt l is t)) :=
  aD.val (by
    intro v hv; simp at hv
    rcases hv with rfl | rfl | rfl
    · exact bQ _
    · exact fQ _
    · exact .val _) (fun H=>(Pf l is t hl hs H).mono fun r H' h=>h.1)
abbrev bB (is:List Bool):List (List V):=is.map fun x=>[gb x]
theorem jB {h:aE} {id:Nat} {is:List Bool} (hv:h.view id=.arr 1 (bB is)):c7 h (.sl id 0 is.length 1) (bw is):=by
  refine .sl id 0 is.length 1 1 (bB is) _ hv (by simp) (by simp) (fun i hi=>by simp) (fun i j hi hj=>?_)
  rw[Nat.zero_add]
  have e:(bB is).getD i []=[gb is[i]]:=by simp[List.getD_eq_getElem?_getD,hi]
  rw[e] at hj ⊢
  have:j=0:=by simp at hj; omega
  subst this
  exact .val _
theorem zA {H:View} {id n:Nat} {is:List Bool} (hv:H id=.arr 1 (bB is)) (hn:n=is.length):di H (.sl id 0 n 1) (bw is):=by
  have ht:∀ e∈bB is,∀ v∈e,Tree v:=by
    intro e he v hv
    obtain ⟨a,_,rfl⟩:=List.mem_map.1 he
    rw[List.mem_singleton] at hv
    subst hv
    exact .val _
  have:=di.sl (off:=0) (len:=n) (esz:=1) hv (by simp[hn]) ht
  rwa [List.drop_zero,List.take_of_length_le (by simp[hn])] at this
theorem fN {is:List Bool} {i:Nat} (h:i < is.length):(bB is).getD i []=[gb is[i]]:=by simp[List.getD_eq_getElem?_getD,h]
theorem dN (is:List Bool) (i:Nat) (b:Bool):(bB is).set i [gb b]=bB (is.set i b):=by simp[List.map_set]
theorem vY (n:Nat) (b:Bool):List.replicate n [gb b]=bB (List.replicate n b):=by simp
def iter {α:Type} (f:α→α):Nat→α→α
  | 0,x=>x
  | n+1,x=>iter f n (f x)
def dx (t:Bool) (is:List Bool) (r:aQ):List Bool:=if dt r.right is t=true then is.set r.left.toNat true else is
def iO (g:an) (t:Bool) (is:List Bool):List Bool:=g.rules.foldl (dx t) is
def bV (g:an):List Bool:=List.replicate g.av.length false
def aJ (g:an) (t:Bool):List Bool:=if bp g=true then iter (iO g t) g.av.length (bV g) else []
theorem GP (t:Bool) (is:List Bool) (r:aQ):(dx t is r).length=is.length:=by unfold dx; split <;> simp
def lj:SC :=
  .seq (.seq (al [ae 22 7,au 23 2 2,ao 24 23,aL 25 24,aR 26 .lss 22 25]) <|
  .cond (.tmp 26) (.skip) (.exit 2)) <|
  .seq (.block 3 (.seq (al [au 29 2 2,ao 30 29,ae 31 7,aP 32 3 30 31,au 33 1 32,ao 34 33,ae 35 5,ae 36 1,aN 37 117 [34,35,36]]) <|
  .cond (.tmp 37) (al [ae 38 5,au 39 2 2,ao 40 39,ae 41 7,aP 42 3 40 41,au 43 0 42,ao 44 43,aP 45 1 38 44,(none,.op (.store 1 (.tmp 45) (.val (.val (.bool true)))))]) (.skip))) <|
  al [ae 27 7,az 28 .add 27 1,ae 7 28]
def lK:SC :=
  .seq (.seq (al [ae 15 6,au 16 1 2,ao 17 16,aL 18 17,aR 19 .lss 15 18]) <|
  .cond (.tmp 19) (.skip) (.exit 0)) <|
  .seq (.block 1 (.seq (al [aH 7 0]) <|
  .block 2 (.loop lj))) <|
  al [ae 20 6,az 21 .add 20 1,ae 6 21]
def m5:SF:=⟨.seq (al [cM 2 0,((some 4),.op (.bc (.val (.emp 1))))]) <|
  .seq (.seq (al [aU 8 4 2,aN 9 48 [8],bZ 10 9]) <|
  .cond (.tmp 10) (.seq (al [((some 4),.op (.bc (.val (.emp 1))))]) <|
  .ret) (.skip)) <|
  .seq (al [au 11 1 2,ao 12 11,aL 13 12,((some 14),.op (.make 1 1 [(.val (.bool false))] (.tmp 13) (.tmp 13))),ae 5 14]) <|
  .seq (.seq (al [aH 6 0]) <|
  .block 0 (.loop lK)) <|
  .seq (al [ae 46 5,ae 4 46]) <|
  .ret,
  [.tmp 4],47⟩
theorem sC:aW Tryz.prog 174 [2]=some m5:=by kernel_rfl
def jR:SF:=⟨.seq (al [cM 1 0,((some 2),.op (.bc (.val (.emp 1))))]) <|
  .seq (al [aU 3 4 1,cT 4 174 [(.tmp 3),(.val (.val (.bool true)))],ae 2 4]) <|
  .ret,
  [.tmp 2],5⟩
theorem pb:aW Tryz.prog 115 [1]=some jR:=by kernel_rfl
theorem J0 (g:an) (t:Bool):∀ v∈[V.agg (ar g),gb t],Tree v:=by
  intro v hv; simp at hv
  rcases hv with rfl | rfl
  · exact cE _ (cR g)
  · exact .val _
set_option maxHeartbeats 2000000 in
theorem Kx (g:an) (hg:g.Ok) (t:Bool) (H:View):aA Tryz.prog 174 [.agg (ar g),gb t] H fun r H'=>∀ h':aE,h'.view=H'→c7 h' r (bw (aJ g t)):=by
  refine aA.of mixed sC ?_
  simp (disch:=omega) only [↓wr,↓reduceIte,wq,ai,Nat.reduceEqDiff,Nat.reduceAdd,Nat.reduceLeDiff,m5,ar,encS]
  refine aF.pure (jY g hg) (by kernel_rfl) ?_
  repeat' (first | (refine aq.dec (fun _=>?_) (fun _=>?_)) | (refine aq.eq (fun _=>?_) (fun _=>?_)) | (refine aq.ne (fun _=>?_) (fun _=>?_)) | (refine aq.split (fun _=>?_) (fun _=>?_)) | (simp (disch:=omega) only [↓wr,↓reduceIte,wq,ak,Nat.reduceEqDiff,Nat.reduceAdd,Nat.reduceLT,reduceCtorEq]))
  · rename_i hr
    have hf:=aZ hr
    obtain ⟨hN1,hN2⟩:=And.intro hf.p8 hf.av
    refine ⟨⟨by omega,by unfold aI; omega,by unfold aI; omega⟩,fun hz=>by omega,fun _ m hm=>?_⟩
    try simp (disch:=omega) only [↓wr,↓reduceIte,wq,ai,ah,ak,aa,af,ag,aj,isNil,Nat.reduceEqDiff,Nat.reduceAdd,Nat.reduceLT,Nat.reduceLeDiff,Int.reduceNeg,Int.reduceToNat,reduceCtorEq,ar,encS]
    refine bb.intro (fun k T H'=>∃ (i:Nat) (is:List Bool),i+k=g.av.length∧is.length=g.av.length∧iter (iO g t) k is=iter (iO g t) g.av.length (bV g)∧T 1=gb t∧T 2=.aS (ar g) 0∧T 5=.sl m 0 g.av.length 1∧H' m=.arr 1 (bB is)∧T 6=gi i) g.av.length ?_ ?_
    · refine ⟨0,bV g,by omega,by simp[bV],rfl,?_⟩
      simp (disch:=omega) only [↓wr,↓reduceIte,wq,Nat.reduceEqDiff,ar,encS]
      exact ⟨by rw[vY]; rfl,rfl⟩
    · rintro k T H' ⟨i,is,hk,hlen,hi,f1,f2,f5,fm,f6⟩
      simp (disch:=omega) only [↓wr,↓reduceIte,wq,ah,ak,Nat.reduceEqDiff,Nat.reduceAdd,Nat.reduceLT,reduceCtorEq,lK,f2,f6,ar,encS]
      refine aq.dec (fun hc=>?_) (fun hc=>?_)
      · simp (disch:=omega) only [↓wr,wq]
        refine bb.intro (fun k' T H'=>∃ (j:Nat) (is':List Bool),j+k'=g.rules.length∧is'.length=g.av.length∧(g.rules.drop j).foldl (dx t) is'=iO g t is∧T 1=gb t∧T 2=.aS (ar g) 0∧T 5=.sl m 0 g.av.length 1∧H' m=.arr 1 (bB is')∧T 6=gi i∧T 7=gi j) g.rules.length ?_ ?_
        · refine ⟨0,is,by omega,hlen,rfl,?_⟩
          simp (disch:=omega) only [↓wr,↓reduceIte,wq,Nat.reduceEqDiff,f1,f2,f5,f6,fm,ar,encS]
          rfl
        · rintro k' T' H'' ⟨j,is',hk',hlen',hj,e1,e2,e5,em,e6,e7⟩
          simp (disch:=omega) only [↓wr,↓reduceIte,wq,ah,ak,Nat.reduceEqDiff,Nat.reduceAdd,Nat.reduceLT,lj,e2,e7,ar]
          refine aq.dec (fun hd=>?_) (fun hd=>?_)
          · have hle:=hf.rules
            have hg2:g.rules[j]?=some (g.rules[j]'(by omega)):=List.getElem?_eq_getElem (by omega)
            rw[dA (show j < g.rules.length by omega)] at hj
            have hmem:g.rules[j]'(by omega)∈g.rules:=List.getElem_mem _
            generalize g.rules[j]'(by omega)=r at hg2 hj hmem
            simp only[List.foldl_cons] at hj
            obtain ⟨hl1,hl2⟩:=hf.left r hmem
            obtain ⟨_,_,hs1,hs2⟩:=hg.bd r hmem
            have hall:=Dz r.right is' t hs1 (fun s hs=>⟨hs2 s hs,fun hn=>by have:=hf.neg hmem hs hn; omega⟩)
            simp (disch:=omega) only [↓wr,↓reduceIte,wq,Nat.reduceEqDiff,Nat.reduceAdd,Nat.reduceLT,e1,e2,e5,e7,ar,encS,aO,List.getElem?_map,hg2]
            refine aF.borrow hall (by kernel_rfl) (.val _) rfl (fun q hq=>?_) ?_
            · match q,hq with
              | 0,_=>exact di.tree (bQ _)
              | 1,_=>exact zA em hlen'.symm
              | 2,_=>exact di.tree (.val _)
            · simp (disch:=omega) only [↓wr,↓reduceIte,wq]
              refine aq.split (fun ha=>?_) (fun ha=>?_)
              · have hst:dx t is' r=is'.set r.left.toNat true:=by rw[dx,if_pos ha]
                simp (disch:=omega) only [↓wr,↓reduceIte,wq,ah,aa,Nat.reduceEqDiff,Nat.reduceAdd,Nat.reduceLT,Nat.reduceLeDiff,reduceCtorEq,e1,e2,e5,e6,e7,em,ar,encS,aO,List.getElem?_map,hg2,fN (show r.left.toNat < is'.length by omega)]
                rw[hst] at hj
                exact ⟨by omega,by omega,k' - 1,by omega,j+1,is'.set r.left.toNat true,by omega,by simp[hlen'],hj,by rw[dN],rfl⟩
              · have hst:dx t is' r=is':=by rw[dx,if_neg (by rw[ha]; simp)]
                rw[hst] at hj
                simp (disch:=omega) only [↓wr,↓reduceIte,wq,ah,Nat.reduceEqDiff,reduceCtorEq,e1,e2,e5,e6,e7]
                exact ⟨k' - 1,by omega,j+1,is',by omega,hlen',hj,by first | rfl | exact ⟨rfl,rfl⟩ | exact ⟨em,rfl⟩ | exact ⟨rfl,em,rfl⟩⟩
          · rw[List.drop_eq_nil_of_le (by omega),List.foldl_nil] at hj
            simp (disch:=omega) only [↓wr,↓reduceIte,wq,Nat.reduceEqDiff,reduceCtorEq,e1,e2,e5,e6]
            obtain ⟨q,rfl⟩:∃ q,k=q+1:=⟨k - 1,by omega⟩
            exact ⟨q,by omega,i+1,is',by omega,hlen',by rw[hj]; exact hi,rfl,em,rfl⟩
      · simp (disch:=omega) only [↓wr,↓reduceIte,wq,Nat.reduceEqDiff,reduceCtorEq,f5]
        have:k=0:=by omega
        subst this
        rintro h' rfl
        simp only[aJ,if_pos hr,← hi,iter]
        rw[← hlen]
        exact jB fm
  · rename_i hr
    rintro h' rfl
    simp only[aJ,hr]
    exact .emp 1
theorem Lj (g:an) (hg:g.Ok) (t:Bool):cd Tryz.prog 174 [.agg (ar g),gb t] (bw (aJ g t)):=cd.of (J0 g t) (Kx g hg t _)
theorem AA (g:an) (hg:g.Ok) (H:View):aA Tryz.prog 115 [.agg (ar g)] H fun r H'=>r=bw (aJ g true)∧H'=H:=by
  refine aA.of mixed pb ?_
  simp (disch:=omega) only [↓wr,↓reduceIte,wq,ai,Nat.reduceEqDiff,Nat.reduceAdd,Nat.reduceLeDiff,jR,ar,encS]
  refine aF.pure (Lj g hg true).pure (by kernel_rfl) ?_
  simp (disch:=omega) only [↓wr,↓reduceIte,wq,reduceCtorEq]
theorem rI (g:an) (hg:g.Ok):aD Tryz.prog 115 [.agg (ar g)] (bw (aJ g true)) :=
  aD.of (eA g) ((AA g hg _).mono fun r H' h h' _=>by rw[h.1]; exact .tree _ (fQ _))
def mark (is:List Bool) (s:Int):List Bool:=if s < 0 then is.set (-1 - s).toNat true else is
def eE (p is:List Bool) (r:aQ):List Bool:=if (is.getD r.left.toNat false && dt r.right p true)=true then r.right.foldl mark is else is
def mq (g:an) (p is:List Bool):List Bool:=g.rules.foldl (eE p) is
def bu (g:an):List Bool:=if bp g=true then iter (mq g (aJ g true)) g.av.length ((bV g).set g.start.toNat true) else []
theorem K2 (is:List Bool) (s:Int):(mark is s).length=is.length:=by unfold mark; split <;> simp
theorem BV:∀ (l:List Int) (is:List Bool),(l.foldl mark is).length=is.length
  | [],_=>rfl
  | s :: l,is=>by rw[List.foldl_cons,BV l,K2]
theorem Jg (p is:List Bool) (r:aQ):(eE p is r).length=is.length:=by unfold eE; split <;> simp[BV]
theorem yE {f:List Bool→List Bool} (hf:∀ is,(f is).length=is.length):∀ (n:Nat) (is:List Bool),(iter f n is).length=is.length
  | 0,_=>rfl
  | n+1,is=>by rw[iter,yE hf n,hf]
theorem yK {α:Type} {f:List Bool→α→List Bool} (hf:∀ is x,(f is x).length=is.length):∀ (l:List α) (is:List Bool),(l.foldl f is).length=is.length
  | [],_=>rfl
  | x :: l,is=>by rw[List.foldl_cons,yK hf l,hf]
theorem iN {g:an} (h:bp g=true) (t:Bool):(aJ g t).length=g.av.length:=by
  have hl:∀ is,(iO g t is).length=is.length:=fun is=>yK (GP t) _ _
  rw[aJ,if_pos h,yE hl]
  simp[bV]
def jc:SC :=
  .seq (.seq (.region false [⟨none,[ae 41 8,au 42 1 7,ao 43 42,aL 44 43,aR 45 .lss 41 44,ae 46 45]⟩,⟨(some (46,true)),[ae 47 4,au 48 0 7,ao 49 48,aP 50 1 47 49,ao 51 50]⟩,⟨none,[bO 52 46 51,ae 53 52]⟩,⟨(some (53,true)),[au 54 1 7,ao 55 54,ae 56 3,cT 57 117 [(.tmp 55),(.tmp 56),(.val (.val (.bool true)))]]⟩,⟨none,[bO 58 53 57]⟩]) <|
  .cond (.tmp 58) (.skip) (.exit 4)) <|
  .seq (.block 5 (.seq (al [au 61 1 7,ao 62 61,ae 63 8,aP 64 1 62 63,ao 65 64,az 66 .lss 65 0]) <|
  .cond (.tmp 66) (al [ae 67 4,au 68 1 7,ao 69 68,ae 70 8,aP 71 1 69 70,ao 72 71,((some 73),.op (.arith .sub (.val (.val (.int .i64 (-1)))) (.tmp 72))),aP 74 1 67 73,(none,.op (.store 1 (.tmp 74) (.val (.val (.bool true)))))]) (.skip))) <|
  al [ae 59 8,az 60 .add 59 1,ae 8 60]
def jh:SC :=
  .seq (.seq (al [ae 29 6,au 30 2 1,ao 31 30,aL 32 31,aR 33 .lss 29 32]) <|
  .cond (.tmp 33) (.skip) (.exit 2)) <|
  .seq (.block 3 (.seq (al [au 36 2 1,ao 37 36,ae 38 6,aP 39 3 37 38,aU 40 3 39,((some 7),.op (.alloc [(.val (.int .i64 0)),(.emp 1),(.val (.int .i64 0))])),(none,.op (.store 3 (.tmp 7) (.tmp 40)))]) <|
  .seq (al [aH 8 0]) <|
  .block 4 (.loop jc))) <|
  al [ae 34 6,az 35 .add 34 1,ae 6 35]
def jg:SC :=
  .seq (.seq (al [ae 22 5,au 23 1 1,ao 24 23,aL 25 24,aR 26 .lss 22 25]) <|
  .cond (.tmp 26) (.skip) (.exit 0)) <|
  .seq (.block 1 (.seq (al [aH 6 0]) <|
  .block 2 (.loop jh))) <|
  al [ae 27 5,az 28 .add 27 1,ae 5 28]
def kh:SF:=⟨.seq (al [cM 1 0,((some 2),.op (.bc (.val (.emp 1))))]) <|
  .seq (.seq (al [aU 9 4 1,aN 10 48 [9],bZ 11 10]) <|
  .cond (.tmp 11) (.seq (al [((some 2),.op (.bc (.val (.emp 1))))]) <|
  .ret) (.skip)) <|
  .seq (al [aU 12 4 1,aN 13 115 [12],ae 3 13]) <|
  .seq (al [au 14 1 1,ao 15 14,aL 16 15,((some 17),.op (.make 1 1 [(.val (.bool false))] (.tmp 16) (.tmp 16))),ae 4 17]) <|
  .seq (al [ae 18 4,au 19 3 1,ao 20 19,aP 21 1 18 20,(none,.op (.store 1 (.tmp 21) (.val (.val (.bool true)))))]) <|
  .seq (.seq (al [aH 5 0]) <|
  .block 0 (.loop jg)) <|
  .seq (al [ae 75 4,ae 2 75]) <|
  .ret,
  [.tmp 2],76⟩
theorem pB:aW Tryz.prog 116 [1]=some kh:=by kernel_rfl
theorem Lc {l:List Bool} {i j:Nat} (h:l.getD j false=true):(l.set i true).getD j false=true:=by
  simp only[List.getD_eq_getElem?_getD,List.getElem?_set] at h ⊢
  by_cases e:i=j
  · subst e
    by_cases hi:i < l.length
    · simp[hi]
    · rw[List.getElem?_eq_none (by omega)] at h; simp at h
  · rw[if_neg e]; exact h
theorem Lw {H:View} {m n:Nat} {o:bN} (hm:H m=o) (hn:H n=.dead) (ho:o≠.dead):m≠n:=by rintro rfl; exact ho (hm.symm.trans hn)
set_option maxHeartbeats 4000000 in
theorem A4 (g:an) (hg:g.Ok) (H:View):aA Tryz.prog 116 [.agg (ar g)] H fun r H'=>∀ h':aE,h'.view=H'→c7 h' r (bw (bu g)):=by
  refine aA.of mixed pB ?_
  simp (disch:=omega) only [↓wr,↓reduceIte,wq,ai,Nat.reduceEqDiff,Nat.reduceAdd,Nat.reduceLeDiff,kh,ar,encS]
  refine aF.pure (jY g hg) (by kernel_rfl) ?_
  repeat' (first | (refine aq.dec (fun _=>?_) (fun _=>?_)) | (refine aq.eq (fun _=>?_) (fun _=>?_)) | (refine aq.ne (fun _=>?_) (fun _=>?_)) | (refine aq.split (fun _=>?_) (fun _=>?_)) | (simp (disch:=omega) only [↓wr,↓reduceIte,wq,Nat.reduceEqDiff,Nat.reduceAdd,Nat.reduceLeDiff,reduceCtorEq]))
  · rename_i hr
    have hf:=aZ hr
    obtain ⟨hN1,hN2⟩:=And.intro hf.p8 hf.av
    refine aF.pure (rI g hg) (by kernel_rfl) ?_
    have hpl:=iN hr true
    have hreach:bu g=iter (mq g (aJ g true)) g.av.length ((bV g).set g.start.toNat true):=by rw[bu,if_pos hr]
    generalize aJ g true=p at hpl hreach
    have hst:=hf.dW
    have hst2:=hf.start
    have hrep:List.replicate g.av.length [V.val (Value.bool false)]=bB (bV g):=vY _ _
    have hnl:(bV g).length=g.av.length:=by simp[bV]
    simp (disch:=omega) only [↓wr,↓reduceIte,wq,ak,aa,Nat.reduceEqDiff,Nat.reduceAdd,Nat.reduceLT,Nat.reduceLeDiff]
    refine ⟨⟨by omega,by unfold aI; omega,by unfold aI; omega⟩,fun hz=>by omega,fun _ m hm=>?_⟩
    rw[hrep]
    have hgs:(bB (bV g)).getD g.start.toNat []=[gb ((bV g)[g.start.toNat]'(by omega))]:=fN (by omega)
    simp (disch:=omega) only [wq]
    refine ⟨by omega,by omega,?_⟩
    refine bb.intro (fun k T H'=>∃ (i:Nat) (is:List Bool),i+k=g.av.length∧is.length=g.av.length∧iter (mq g p) k is=bu g∧T 1=.aS (ar g) 0∧T 3=bw p∧T 4=.sl m 0 g.av.length 1∧H' m=.arr 1 (bB is)∧T 5=gi i) g.av.length ?_ ?_
    · refine ⟨0,(bV g).set g.start.toNat true,by omega,by simp[hnl],hreach.symm,?_⟩
      simp (disch:=omega) only [↓wr,↓reduceIte,wq,Nat.reduceEqDiff,ar,encS]
      rw[hgs]
      exact ⟨by rw[← dN]; rfl,rfl⟩
    · rintro k T H' ⟨i,is,hk,hlen,hi,f1,f3,f4,fm,f5⟩
      simp (disch:=omega) only [↓wr,↓reduceIte,wq,ah,ak,Nat.reduceEqDiff,Nat.reduceAdd,Nat.reduceLT,reduceCtorEq,jg,f1,f5,ar,encS]
      refine aq.dec (fun hc=>?_) (fun hc=>?_)
      · simp (disch:=omega) only [↓wr,wq]
        refine bb.intro (fun k' T H'=>∃ (j:Nat) (is':List Bool),j+k'=g.rules.length∧is'.length=g.av.length∧(g.rules.drop j).foldl (eE p) is'=mq g p is∧T 1=.aS (ar g) 0∧T 3=bw p∧T 4=.sl m 0 g.av.length 1∧H' m=.arr 1 (bB is')∧T 5=gi i∧T 6=gi j) g.rules.length ?_ ?_
        · refine ⟨0,is,by omega,hlen,rfl,?_⟩
          simp (disch:=omega) only [↓wr,↓reduceIte,wq,Nat.reduceEqDiff,f1,f3,f4,f5,fm,ar,encS]
          first | done | exact ⟨rfl,rfl⟩ | rfl
        · rintro k' T' H'' ⟨j,is',hk',hlen',hj,e1,e3,e4,em,e5,e6⟩
          simp (disch:=omega) only [↓wr,↓reduceIte,wq,ah,ak,Nat.reduceEqDiff,Nat.reduceAdd,Nat.reduceLT,jh,e1,e6,ar]
          refine aq.dec (fun hd=>?_) (fun hd=>?_)
          · have hle:=hf.rules
            have hg2:g.rules[j]?=some (g.rules[j]'(by omega)):=List.getElem?_eq_getElem (by omega)
            rw[dA (show j < g.rules.length by omega)] at hj
            have hmem:g.rules[j]'(by omega)∈g.rules:=List.getElem_mem _
            generalize g.rules[j]'(by omega)=r at hg2 hj hmem
            simp only[List.foldl_cons] at hj
            obtain ⟨hl1,hl2⟩:=hf.left r hmem
            obtain ⟨_,_,hs1,hs2⟩:=hg.bd r hmem
            have hr6:=hf.right r hmem
            have hall:=Dz r.right p true hs1 (fun s hs=>⟨hs2 s hs,fun hn=>by have:=hf.neg hmem hs hn; omega⟩)
            simp (disch:=omega) only [↓wr,↓reduceIte,wq,aa,Nat.reduceEqDiff,Nat.reduceAdd,Nat.reduceLT,Nat.reduceLeDiff,e1,e6,ar,encS,aO,encI,List.getElem?_map,hg2]
            intro b hb
            have hne:m≠b:=Lw em hb (by simp)
            try simp (disch:=omega) only [↓wr,↓reduceIte,wq,ai,ah,ak,aa,af,ag,aj,isNil,Nat.reduceEqDiff,Nat.reduceAdd,Nat.reduceLT,Nat.reduceLeDiff,Int.reduceNeg,Int.reduceToNat,reduceCtorEq,e1,e3,e4,e5,e6,ar,encS,aO,encI]
            refine bb.intro (fun q T H'=>∃ (a:Nat) (is3:List Bool),a+q=r.right.length∧is3.length=g.av.length∧(r.right.drop a).foldl mark is3=r.right.foldl mark is'∧((a=0∧is3=is')∨((is'.getD r.left.toNat false && dt r.right p true)=true∧is3.getD r.left.toNat false=true)) ∧
              T 1=.aS (ar g) 0∧T 3=bw p∧T 4=.sl m 0 g.av.length 1∧H' m=.arr 1 (bB is3)∧T 5=gi i∧T 6=gi j∧T 7=.ptr b 0 0∧H' b=.arr 3 [aO r]∧T 8=gi a) r.right.length ?_ ?_
            · refine ⟨0,is',by omega,hlen',rfl,.inl ⟨rfl,rfl⟩,?_⟩
              simp (disch:=omega) only [↓wr,↓reduceIte,wq,Nat.reduceEqDiff,Nat.reduceAdd,e1,e3,e4,e5,e6,em,hne,ar,encS,aO]
              exact ⟨rfl,rfl⟩
            · rintro q T3 H3 ⟨a,is3,hq,hlen3,ha,hcase,d1,d3,d4,dm,d5,d6,d7,db,d8⟩
              simp (disch:=omega) only [↓wr,↓reduceIte,wq,ah,ak,Nat.reduceEqDiff,Nat.reduceAdd,Nat.reduceLT,Int.reduceNeg,jc,d7,d8,db,aO,encI]
              have hgl:is3[r.left.toNat]?=some (is3[r.left.toNat]'(by omega)):=List.getElem?_eq_getElem (by omega)
              have hgl2:is3.getD r.left.toNat false=is3[r.left.toNat]'(by omega):=by simp[List.getD_eq_getElem?_getD,hgl]
              have hbg:=fN (show r.left.toNat < is3.length by omega)
              have hoff:(is'.getD r.left.toNat false && dt r.right p true)=false→eE p is' r=is3:=fun hW=>by
                rcases hcase with ⟨_,rfl⟩ | ⟨h1,_⟩
                · rw[eE,hW]; rfl
                · rw[hW] at h1; simp at h1
              generalize is3[r.left.toNat]'(by omega)=tl at hgl hgl2 hbg
              refine aq.dec (fun ht=>?_) (fun ht=>?_)
              · have hg3:r.right[a]?=some (r.right[a]'(by omega)):=List.getElem?_eq_getElem (by omega)
                rw[dA (show a < r.right.length by omega)] at ha
                have hms:r.right[a]'(by omega)∈r.right:=List.getElem_mem _
                generalize r.right[a]'(by omega)=s at hg3 ha hms
                simp only[List.foldl_cons] at ha
                have hin:=hs2 s hms
                simp (disch:=omega) only [↓wr,↓reduceIte,wq,Nat.reduceEqDiff,Nat.reduceAdd,Nat.reduceLT,Int.reduceNeg,d4,d7,db,dm,aO,encI,hbg]
                refine ⟨by omega,by omega,?_⟩
                refine aq.split (fun htl=>?_) (fun htl=>?_)
                · simp (disch:=omega) only [↓wr,↓reduceIte,wq,Nat.reduceEqDiff,Nat.reduceAdd,Nat.reduceLT,Int.reduceNeg,d3,d7,db,aO,encI]
                  refine aF.pure hall (by kernel_rfl) ?_
                  simp (disch:=omega) only [↓wr,↓reduceIte,wq,Nat.reduceEqDiff,Int.reduceNeg]
                  refine aq.split (fun hal=>?_) (fun hal=>?_)
                  · simp (disch:=omega) only [↓wr,↓reduceIte,wq,ah,Nat.reduceEqDiff,Nat.reduceAdd,Nat.reduceLT,Int.reduceNeg,d7,d8,db,aO,encI,List.getElem?_map,hg3]
                    have hW:(is'.getD r.left.toNat false && dt r.right p true)=true∧is3.getD r.left.toNat false=true:=by
                      rcases hcase with ⟨_,rfl⟩ | h1
                      · exact ⟨by rw[hgl2,htl,hal]; rfl,by rw[hgl2,htl]⟩
                      · exact h1
                    refine aq.dec (fun hsn=>?_) (fun hsn=>?_)
                    · have hng:=hf.neg hmem hms hsn
                      have hin1:=hin.1
                      have hms2:mark is3 s=is3.set (-1 - s).toNat true:=by rw[mark,if_pos hsn]
                      simp (disch:=omega) only [↓wr,↓reduceIte,wq,ah,aa,Nat.reduceEqDiff,Nat.reduceAdd,Nat.reduceLT,Nat.reduceLeDiff,Int.reduceNeg,reduceCtorEq,d1,d3,d4,d5,d6,d7,d8,db,dm,aO,encI,List.getElem?_map,hg3,fN (show (-1 - s).toNat < is3.length by omega),hne.symm]
                      rw[hms2] at ha
                      exact ⟨by omega,by omega,q - 1,by omega,a+1,is3.set (-1 - s).toNat true,by omega,by simp[hlen3],ha,.inr ⟨hW.1,Lc hW.2⟩,by rw[dN],by first | rfl | exact ⟨rfl,rfl⟩⟩
                    · have hms2:mark is3 s=is3:=by rw[mark,if_neg hsn]
                      rw[hms2] at ha
                      simp (disch:=omega) only [↓wr,↓reduceIte,wq,ah,Nat.reduceEqDiff,reduceCtorEq,d1,d3,d4,d5,d6,d7,d8,db,dm]
                      exact ⟨q - 1,by omega,a+1,is3,by omega,hlen3,ha,.inr hW,by first | rfl | exact ⟨rfl,rfl⟩ | exact ⟨rfl,rfl,rfl⟩⟩
                  · simp (disch:=omega) only [↓wr,↓reduceIte,wq,Nat.reduceEqDiff,reduceCtorEq,d1,d3,d4,d5,d6,dm]
                    have hst:=hoff (by rw[hal,Bool.and_false])
                    exact ⟨k' - 1,by omega,j+1,is3,by omega,hlen3,by rw[← hst]; exact hj,rfl,rfl,rfl⟩
                · simp (disch:=omega) only [↓wr,↓reduceIte,wq,Nat.reduceEqDiff,Int.reduceNeg,reduceCtorEq,d1,d3,d4,d5,d6,dm]
                  have hst:eE p is' r=is3:=by
                    rcases hcase with ⟨_,rfl⟩ | ⟨_,h1⟩
                    · rw[eE,hgl2,htl]; rfl
                    · rw[hgl2,htl] at h1; simp at h1
                  exact ⟨k' - 1,by omega,j+1,is3,by omega,hlen3,by rw[← hst]; exact hj,rfl,rfl,rfl⟩
              · simp (disch:=omega) only [↓wr,↓reduceIte,wq,Nat.reduceEqDiff,Int.reduceNeg,reduceCtorEq,d1,d3,d4,d5,d6,dm]
                rw[List.drop_eq_nil_of_le (by omega),List.foldl_nil] at ha
                have hst:eE p is' r=is3:=by
                  rcases hcase with ⟨h0,rfl⟩ | ⟨h1,_⟩
                  · unfold eE
                    split
                    · exact ha.symm
                    · rfl
                  · rw[eE,if_pos h1]; exact ha.symm
                exact ⟨k' - 1,by omega,j+1,is3,by omega,hlen3,by rw[← hst]; exact hj,rfl,rfl,rfl⟩
          · rw[List.drop_eq_nil_of_le (by omega),List.foldl_nil] at hj
            simp (disch:=omega) only [↓wr,↓reduceIte,wq,Nat.reduceEqDiff,reduceCtorEq,e1,e3,e4,e5]
            obtain ⟨q,rfl⟩:∃ q,k=q+1:=⟨k - 1,by omega⟩
            exact ⟨q,by omega,i+1,is',by omega,hlen',by rw[hj]; exact hi,rfl,em,rfl⟩
      · simp (disch:=omega) only [↓wr,↓reduceIte,wq,Nat.reduceEqDiff,reduceCtorEq,f4]
        have:k=0:=by omega
        subst this
        rintro h' rfl
        simp only[← hi,iter]
        rw[← hlen]
        exact jB fm
  · rename_i hr
    rintro h' rfl
    simp only[bu,hr]
    exact .emp 1
theorem Bi (g:an) (hg:g.Ok):cd Tryz.prog 116 [.agg (ar g)] (bw (bu g)):=cd.of (eA g) (A4 g hg _)
def yd:DF:=⟨.seq (ay [aV 2 false]) <|
  .seq (.region [] [⟨none,[ae 3 0,aN 4 135 [3],ae 5 4]⟩,⟨(some (5,false)),[ae 6 0,((some 7),.op (.arith .eql (.tmp 6) (.val (.val (.int .u8 46)))))]⟩,⟨none,[bC 8 5 7,ae 9 8]⟩,⟨(some (9,false)),[ae 10 0,((some 11),.op (.arith .geq (.tmp 10) (.val (.val (.int .u8 48))))),ae 12 11]⟩,⟨(some (12,true)),[ae 13 0,((some 14),.op (.arith .leq (.tmp 13) (.val (.val (.int .u8 57)))))]⟩,⟨(some (9,false)),[bO 15 12 14]⟩,⟨none,[bC 16 9 15,ae 2 16]⟩]) <|
  .ret,
  [.tmp 2],17⟩
theorem Bg:bH Tryz.prog 136 []=some yd:=by kernel_rfl
def xu:DF:=⟨.seq (ay [aV 2 false]) <|
  .seq (.region [] [⟨none,[ae 3 0,((some 4),.op (.arith .eql (.tmp 3) (.val (.val (.int .u8 95))))),ae 5 4]⟩,⟨(some (5,false)),[ae 6 0,((some 7),.op (.arith .or (.tmp 6) (.val (.val (.int .u8 32))))),((some 8),.op (.arith .geq (.tmp 7) (.val (.val (.int .u8 97))))),ae 9 8]⟩,⟨(some (9,true)),[ae 10 0,((some 11),.op (.arith .or (.tmp 10) (.val (.val (.int .u8 32))))),((some 12),.op (.arith .leq (.tmp 11) (.val (.val (.int .u8 122)))))]⟩,⟨(some (5,false)),[bO 13 9 12]⟩,⟨none,[bC 14 5 13,ae 2 14]⟩]) <|
  .ret,
  [.tmp 2],15⟩
theorem Au:bH Tryz.prog 135 []=some xu:=by kernel_rfl
def yg:DF:=⟨.seq (ay [aV 2 false]) <|
  .seq (.region [] [⟨none,[ae 3 0,((some 4),.op (.arith .geq (.tmp 3) (.val (.val (.int .u8 32))))),ae 5 4]⟩,⟨(some (5,true)),[ae 6 0,((some 7),.op (.arith .leq (.tmp 6) (.val (.val (.int .u8 126)))))]⟩,⟨none,[bO 8 5 7,ae 9 8]⟩,⟨(some (9,true)),[ae 10 0,((some 11),.op (.arith .neq (.tmp 10) (.val (.val (.int .u8 39)))))]⟩,⟨none,[bO 12 9 11,ae 13 12]⟩,⟨(some (13,true)),[ae 14 0,((some 15),.op (.arith .neq (.tmp 14) (.val (.val (.int .u8 92)))))]⟩,⟨none,[bO 16 13 15,ae 2 16]⟩]) <|
  .ret,
  [.tmp 2],17⟩
theorem A8:bH Tryz.prog 235 []=some yg:=by kernel_rfl
def vE:DF:=⟨.seq (ay [aV 2 false]) <|
  .seq (.region [] [⟨none,[ae 3 0,((some 4),.op (.arith .eql (.tmp 3) (.val (.val (.int .u8 110))))),ae 5 4]⟩,⟨(some (5,false)),[ae 6 0,((some 7),.op (.arith .eql (.tmp 6) (.val (.val (.int .u8 116)))))]⟩,⟨none,[bC 8 5 7,ae 9 8]⟩,⟨(some (9,false)),[ae 10 0,((some 11),.op (.arith .eql (.tmp 10) (.val (.val (.int .u8 92)))))]⟩,⟨none,[bC 12 9 11,ae 13 12]⟩,⟨(some (13,false)),[ae 14 0,((some 15),.op (.arith .eql (.tmp 14) (.val (.val (.int .u8 39)))))]⟩,⟨none,[bC 16 13 15,ae 2 16]⟩]) <|
  .ret,
  [.tmp 2],17⟩
theorem zg:bH Tryz.prog 236 []=some vE:=by kernel_rfl
def tj:List (FuncId × DF):=[(136,yd),(135,xu),(235,yg),(236,vE)]
theorem rl:r6 Tryz.prog tj:=by
  intro p hp
  simp only[tj,List.mem_cons,List.not_mem_nil,or_false] at hp
  rcases hp with rfl | rfl | rfl | rfl
  · exact ⟨_,Bg⟩
  · exact ⟨_,Au⟩
  · exact ⟨_,A8⟩
  · exact ⟨_,zg⟩
theorem G0 (P:Program):qQ P (fun _ _ _=>none):=fun _ _ _ _ h=>by simp at h
def N5 (o:Option V) (b:Bool):Bool:=match o with
  | some (.val (.bool c))=>c == b
  | _=>false
theorem On {o:Option V} {b:Bool} (h:N5 o b=true):o=some (gb b):=by
  unfold N5 at h
  split at h
  · rw[beq_iff_eq] at h; rw[h]
  · simp at h
noncomputable def xm (tab:List (FuncId × DF)) (f:FuncId) (p:Int→Bool):Bool:=(List.range 256).all fun c=>N5 (sT Tryz.prog tab (fun _ _ _=>none) f [gy (c:Int)]) (p (c:Int))
theorem ua {tab:List (FuncId × DF)} (ht:r6 Tryz.prog tab) {f:FuncId} {p:Int→Bool} (h:xm tab f p=true) (c:Int) (h0:0≤c) (h1:c≤255):aD Tryz.prog f [gy c] (gb (p c)):=by
  have:=List.all_eq_true.1 h c.toNat (by simp; omega)
  rw[show ((c.toNat:Nat):Int)=c by omega] at this
  exact (pX mixed ht (G0 _) (by intro v hv; simp at hv; subst hv; exact .val _) (On this)).pure
def wM (c:Int):Bool:=decide (32≤c) && decide (c≤126) && c != 39 && c != 92
def AM (c:Int):Bool:=c == 110 || c == 116 || c == 92 || c == 39
theorem Gb:xm tj 135 tC=true:=by kernel_rfl
theorem Ib:xm tj 136 mc=true:=by kernel_rfl
theorem Jm:xm tj 235 wM=true:=by kernel_rfl
theorem MS:xm tj 236 AM=true:=by kernel_rfl
theorem Cx {s:ByteArray} {c:Int} (h:c∈ed s):0≤c∧c≤255:=by
  unfold ed at h
  obtain ⟨b,_,rfl⟩:=List.mem_map.1 h
  have:=b.toNat_lt
  omega
theorem I9 (s:ByteArray):ff s=(ed s).map fun x=>[gy x]:=by simp[ff,ed]
end Gv
