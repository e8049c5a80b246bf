/-
  Part 7 of the proof: what the machine does and what the functions answer.
  Conditions: those that each lemma names.
-/
import Derived.Test.YtihmlbdfcmfbdaaGreatSGzA6F
set_option linter.unusedSimpArgs false
set_option linter.unusedVariables false
set_option maxRecDepth 100000
namespace Gv
open Go Go.Proofs
section
variable {P:Program} {n:Nat} {all:List Oper}
def gR (h:aE) (e:ES):Prop:=e.V=h.view∧e.n=h.length
def Calm (e e':ES) (h h':aE):Prop:=h.length≤h'.length∧(∀ id,id < h.length→¬ id∈e'.w→h'.view id=h.view id∧¬ id∈e.w)
theorem Calm.trans {a b c:ES} {h1 h2 h3:aE} (x:Calm a b h1 h2) (y:Calm b c h2 h3):Calm a c h1 h3 :=
  ⟨Nat.le_trans x.1 y.1,fun id hid hw =>
    let ⟨e1,d1⟩:=y.2 id (Nat.lt_of_lt_of_le hid x.1) hw
    let ⟨e2,d2⟩:=x.2 id hid d1
    ⟨e1.trans e2,d2⟩⟩
theorem Calm.refl (e:ES) (h:aE):Calm e e h h:=⟨Nat.le_refl _,fun _ _ hw=>⟨rfl,hw⟩⟩
def jQ (P:Program) (call:gw):Prop:=∀ g vs e v e' h,call g vs e=some (v,e')→gR h e →
  dc P g=true∧∃ h',bF P g vs h v h'∧gR h' e'∧(∀ id,id < h.length→¬ id∈e'.w→h'.view id=h.view id)∧∀ id,id∈e'.w→id < h.length
def tZ (P:Program) (run:vu):Prop:=∀ (n:Nat) (fz:List Nat) (c:Code) (sc:DC),g9 P n fz c=some sc→n≤8000→∀ (e e':ES) (r:Exit) (h:aE),run sc e=some (r,e')→gR h e →
  ∃ h',cI P n c e.T h r e'.T h'∧gR h' e'∧Calm e e' h h'∧∀ c0,c=.loop c0→oo P n c0 e.T h r e'.T h'
theorem Kf {h:aE} {e:ES} {d:Option Nat} {v:V} (he:gR h e):gR h (e.put d v):=by cases d <;> exact he
theorem Nw {e:ES} {d:Option Nat} {v:V} : (e.put d v).w=e.w:=by cases d <;> rfl
theorem M7 {h:aE} {e e':ES} {h':aE} {d:Option Nat} {v:V} (x:Calm e e' h h'):Calm e (e'.put d v) h h':=⟨x.1,fun id hid hw=>x.2 id hid (by rw[Nw] at hw; exact hw)⟩
theorem AX {a:Nat} (h:Nat.ble a 8000=true):a+1 < 2 ^ 13:=by
  have:=Nat.le_of_ble_eq_true h
  omega
theorem NX {h:aE} {e e':ES} {v v':V} {eff:bj} {rd:List Nat} {c:Rec} (he:gR h e) (hx:FF v eff rd e=some (v',e',c)) :
    v'=v∧e'.T=e.T∧e'.V=eff.view h.view h.length∧e'.n=(eff.apply h).length∧c=⟨rd,eff.wr,false,h.length,(eff.apply h).length⟩∧e'.w=eff.wr ++ e.w:=by
  obtain ⟨h1,h2⟩:=he
  unfold FF at hx
  cases eff with
  | none =>
    simp only[Option.some.injEq,Prod.mk.injEq] at hx
    obtain ⟨rfl,rfl,rfl⟩:=hx
    exact ⟨rfl,rfl,h1,h2,by rw[h2]; rfl,rfl⟩
  | new o =>
    simp only at hx
    split at hx
    · rename_i hb
      simp only[Option.some.injEq,Prod.mk.injEq] at hx
      obtain ⟨rfl,rfl,rfl⟩:=hx
      refine ⟨rfl,rfl,?_,by simp[fK,h2],by simp[fK,h2,bj.wr],rfl⟩
      funext k
      simp only[ES.V,bj.view,View.set]
      rw[ca.k8 _ _ _ _ _ _ (AX hb),h2]
      have:=congrFun h1 k
      simp only[ES.V] at this
      rw[this]
    · simp at hx
  | eQ id o =>
    simp only at hx
    split at hx
    · rename_i hb
      simp only[Option.some.injEq,Prod.mk.injEq] at hx
      obtain ⟨rfl,rfl,rfl⟩:=hx
      refine ⟨rfl,rfl,?_,by simp[fK,h2],by simp[fK,h2,bj.wr],rfl⟩
      funext k
      simp only[ES.V,bj.view,View.set]
      rw[ca.k8 _ _ _ _ _ _ (AX hb)]
      have:=congrFun h1 k
      simp only[ES.V] at this
      rw[this]
    · simp at hx
  | bm id o =>
    simp only at hx
    split at hx
    · rename_i hb1 hb2
      simp only[Option.some.injEq,Prod.mk.injEq] at hx
      obtain ⟨rfl,rfl,rfl⟩:=hx
      refine ⟨rfl,rfl,?_,by simp[fK,h2],by simp[fK,h2,bj.wr],rfl⟩
      funext k
      simp only[ES.V,bj.view,View.set]
      rw[ca.k8 _ _ _ _ _ _ (AX hb1),ca.k8 _ _ _ _ _ _ (AX hb2),h2]
      have:=congrFun h1 k
      simp only[ES.V] at this
      rw[this]
    · simp at hx
theorem O4 {o:Oper} {e e':ES} {h:aE} {s:SI} {v:V} {c:Rec} (hg:c7 n all e.T o=some true) (hc:∀ v eff rd,sI P s e.T h.view h.length=some (v,eff,rd)→bY P o e.T h.view h.length=some (v,eff,rd))
    (he:gR h e) (hx:J5 P s e=some (v,e',c)):∃ h',di P n all o e.T h v h' c.rd c.wr c.call∧gR h' e'∧e'.T=e.T∧Calm e e' h h'∧jI (rB P s) c.rd c.wr c.call h.length h'.length∧c.lo=h.length∧c.hi=h'.length:=by
  unfold J5 at hx
  rw[Jn,he.1,he.2] at hx
  split at hx
  · rename_i v0 eff rd hs
    obtain ⟨rfl,g1,g2,g3,rfl,g5⟩:=NX he hx
    have ha:=hc _ _ _ hs
    have st:=di.op (P:=P) (n:=n) (all:=all) hg ha
    refine ⟨eff.apply h,st,⟨?_,g3⟩,g1,⟨rM st,fun id hid hw=>?_⟩,⟨fun h0=>?_,fun h1=>?_⟩,rfl,rfl⟩
    · rw[jU (fun id hid=>(kS ha id hid).1)]; exact g2
    · rw[g5] at hw
      simp only[List.mem_append,not_or] at hw
      exact ⟨pQ st hid hw.1,hw.2⟩
    · obtain ⟨rfl,rfl⟩:=(qf hs).1 h0
      exact ⟨rfl,rfl,rfl,rfl⟩
    · rcases Nat.lt_or_ge (rB P s) 1 with h2 | h2
      · obtain ⟨rfl,rfl⟩:=(qf hs).1 (by omega); rfl
      · exact (qf hs).2 (by omega)
  · simp at hx
theorem Px {call:gw} (hcall:jQ P call) {fz:Fz} {o:Oper} {e e':ES} {h:aE} {v:V} {c:Rec} (hg:c7 n all e.T o=some true) (he:gR h e) (hx:eB P call (lI P fz o) e=some (v,e',c)) :
    ∃ h',di P n all o e.T h v h' c.rd c.wr c.call∧gR h' e'∧e'.T=e.T∧Calm e e' h h'∧jI (hD P false (lI P fz o)) c.rd c.wr c.call h.length h'.length∧c.lo=h.length∧c.hi=h'.length:=by
  rcases yy P fz o with ⟨f,args,ats,ho,hc⟩ | ⟨t,x,ho,hc⟩ | ⟨s,d,x,ho,hcv,hc⟩ | hc
  · rw[hc] at hx ⊢
    simp only[eB,LA] at hx
    split at hx
    · rename_i g first cap hf
      rw[Fp] at hx
      rw[SX.cr] at hf
      split at hx
      · rename_i v0 e0 hv
        obtain ⟨hok,h',hr,hek,hd,hd2⟩:=hcall _ _ _ _ _ _ hv he
        simp only[Option.some.injEq,Prod.mk.injEq] at hx
        obtain ⟨rfl,rfl,rfl⟩:=hx
        exact ⟨h',.call hg ho hf hok hr hd hd2,hek,rfl,⟨hr.1,fun id hid hw=>by
          simp only[List.mem_append,not_or] at hw
          exact ⟨hd id hid hw.1,hw.2⟩⟩,NA (by simp[hD]),he.2,hek.2⟩
      · simp at hx
    · simp at hx
  · rw[hc] at hx ⊢
    simp only[eB,J5,Jn,sI,SX.cr] at hx
    split at hx
    · rename_i v0 eff rd hs
      split at hs
      · rename_i hok
        simp only[Option.some.injEq,Prod.mk.injEq] at hs
        obtain ⟨rfl,rfl,rfl⟩:=hs
        simp only[FF,Option.some.injEq,Prod.mk.injEq] at hx
        obtain ⟨rfl,rfl,rfl⟩:=hx
        exact ⟨h,.hZ hg ho hok,he,rfl,Calm.refl _ _,⟨fun _=>⟨rfl,rfl,rfl,rfl⟩,fun _=>rfl⟩,he.2,he.2⟩
      · simp at hs
    · simp at hx
  · rw[hc] at hx ⊢
    obtain ⟨ty,h1,h2,h3⟩:=yh hcv
    simp only[eB,J5,Jn,sI,SX.cr] at hx
    split at hx
    · rename_i v0 eff rd hs
      split at hs
      · rename_i st hst
        simp only[Option.some.injEq,Prod.mk.injEq] at hs
        obtain ⟨rfl,rfl,rfl⟩:=hs
        simp only[FF,Option.some.injEq,Prod.mk.injEq] at hx
        obtain ⟨rfl,rfl,rfl⟩:=hx
        exact ⟨h,.fq hg ho h1 h2 h3 hst,he,rfl,Calm.refl _ _,⟨fun _=>⟨rfl,rfl,rfl,rfl⟩,fun _=>rfl⟩,he.2,he.2⟩
      · simp at hs
    · simp at hx
  · rw[hc] at hx ⊢
    exact O4 (s:=wx P fz.fr (comp P o)) hg (fun v eff rd hs=>HA (GA hs)) he hx
theorem Ph {o:Oper} (hd:pO n o=true) (hn:n≤8000):∀ t,o.dst=some t→t < 8000:=by
  intro t ht
  unfold pO at hd
  rw[ht] at hd
  have:t < n:=by simpa using hd
  exact Nat.lt_of_lt_of_le this hn
theorem NO {c:Rec} {a b:Nat} (h1:c.lo=a) (h2:c.hi=b):c=⟨c.rd,c.wr,c.call,a,b⟩:=by cases c; subst h1; subst h2; rfl
theorem D6 {call:gw} (hcall:jQ P call) (hn:n≤8000) {fz:Fz} (g:Option (Nat × Bool)):∀ (l:List (Option Nat × SB)) (os:List Oper) (e e':ES) (h:aE) (a a':List Rec),
    df P n all fz os=some (l.map fun (d,b)=>⟨d,g,b⟩)→(∀ d w,g=some (d,w)→e.T d=.val (.bool w)∧(l.all fun x=>x.1 != some d)=true)→gR h e→GX P call l a e=some (e',a') →
    ∃ recs h',a'=a ++ recs∧Tr P n all os e.T h recs e'.T h'∧gR h' e'∧Calm e e' h h'∧e9 P false (l.map fun (d,b)=>⟨d,g,b⟩) recs
  | [],os,e,e',h,a,a',hc,hg,he,hx=>by
    have:=j5 hc; subst this
    simp only[GX,Option.some.injEq,Prod.mk.injEq] at hx; obtain ⟨rfl,rfl⟩:=hx
    exact ⟨[],h,by simp,.nil,he,Calm.refl _ _,.nil⟩
  | (d,b) :: l,os,e,e',h,a,a',hc,hg,he,hx=>by
    obtain ⟨o,r,rfl,h1,h2⟩:=kB hc
    obtain ⟨hd,hd1,hb1,hg1⟩:=rA h1
    simp only at hd1 hb1 hg1
    have hgv:c7 n all e.T o=some true:=by
      cases g with
      | none=>exact zO hg1
      | some p =>
        obtain ⟨d',w⟩:=p
        have:=(j1 (T:=e.T) hg1).1 w (hg d' w rfl).1
        rw[this]; simp
    simp only[GX] at hx
    rw[hb1] at hx
    split at hx
    · rename_i v e1 c hv
      obtain ⟨h1',st,he1,hT1,hcm,hl,hlo,hhi⟩:=Px hcall hgv he hv
      have hput:(e1.put d v).T=e.T.put o.dst v:=by
        rw[ES.Nn (by rw[hd1]; exact Ph hd hn),hT1,hd1]
      obtain ⟨recs,h'',ha,tr,he2,hcm2,hro⟩:=D6 hcall hn g l r (e1.put d v) e' h1' _ a' h2 (fun d' w eq=>by
        have:=hg d' w eq
        simp only[List.all_cons,Bool.and_eq_true,bne_iff_ne,ne_eq] at this
        refine ⟨?_,this.2.2⟩
        rw[← this.1,hput,← hd1]
        cases d with
        | none=>rfl
        | some t=>simp only[Env.put]; rw[if_neg]; intro e; subst e; exact this.2.1 rfl) (Kf he1) hx
      rw[hput] at tr
      refine ⟨_,h'',?_,.cons st hd tr,he2,(M7 hcm).trans hcm2,hro.cons (by rw[hb1]; exact hl)⟩
      rw[ha,List.append_assoc,← NO hlo hhi]; rfl
    · simp at hx
theorem EU {fz:Fz} (hn:n≤8000) (d:Nat) (w:Bool) (h:aE):∀ (l:List (Option Nat × SB)) (os:List Oper) (e e':ES) (a a':List Rec),
    df P n all fz os=some (l.map fun (d',b)=>⟨d',some (d,w),b⟩)→(e.T d=.val (.bool !w)∨e.T d=.bu [])→(l.all fun x=>x.1 != some d)=true→gR h e→uv l a e=(e',a') →
    ∃ recs,a'=a ++ recs∧Tr P n all os e.T h recs e'.T h∧gR h e'∧e'.w=e.w∧e9 P false (l.map fun (d',b)=>⟨d',some (d,w),b⟩) recs
  | [],os,e,e',a,a',hc,hd,hl,he,hx=>by
    have:=j5 hc; subst this
    simp only[uv,Prod.mk.injEq] at hx; obtain ⟨rfl,rfl⟩:=hx
    exact ⟨[],by simp,.nil,he,rfl,.nil⟩
  | (d',b) :: l,os,e,e',a,a',hc,hd,hl,he,hx=>by
    obtain ⟨o,r,rfl,h1,h2⟩:=kB hc
    obtain ⟨hd0,hd1,hb1,hg1⟩:=rA h1
    simp only at hd1 hb1 hg1
    have hgv:c7 n all e.T o=some false:=by
      rcases hd with hd | hd
      · rw[(j1 (T:=e.T) hg1).1 _ hd]; cases w <;> rfl
      · exact (j1 (T:=e.T) hg1).2 hd
    simp only[List.all_cons,Bool.and_eq_true,bne_iff_ne,ne_eq] at hl
    have hput:(e.put d' (.bu [])).T=e.T.put o.dst (.bu []):=by
      rw[ES.Nn (by rw[hd1]; exact Ph hd0 hn),hd1]
    simp only[uv] at hx
    obtain ⟨recs,ha,tr,he2,hd2,hro⟩:=EU hn d w h l r (e.put d' (.bu [])) e' _ a' h2 (by
      have:(e.put d' (.bu [])).T d=e.T d:=by
        rw[hput,← hd1]
        cases d' with
        | none=>rfl
        | some t=>simp only[Env.put]; rw[if_neg]; intro e; subst e; exact hl.1 rfl
      rw[this]; exact hd) hl.2 (Kf he) hx
    rw[hput] at tr
    refine ⟨_,?_,Tr.cons (.skip hgv) hd0 tr,he2,by rw[hd2,Nw],hro.cons (r:=⟨[],[],false,h.length,h.length⟩) ⟨fun _=>⟨rfl,rfl,rfl,rfl⟩,fun _=>rfl⟩⟩
    rw[ha,List.append_assoc,Nv,he.2]; rfl
theorem Cw {fz:Fz} (hn:n≤8000) {d:Nat} {w:Bool} {h:aE} {l:List (Option Nat × SB)} {os:List Oper} {e e':ES} {a a':List Rec}
    (hc:df P n all fz os=some (l.map fun (d',b)=>⟨d',some (d,w),b⟩)) (hd:e.T d=.val (.bool !w)∨e.T d=.bu []) (hl:(l.all fun x=>x.1 != some d)=true) (he:gR h e) (hx:uv l a e=(e',a')) :
    ∃ recs h',a'=a ++ recs∧Tr P n all os e.T h recs e'.T h'∧gR h' e'∧Calm e e' h h'∧e9 P false (l.map fun (d',b)=>⟨d',some (d,w),b⟩) recs:=by
  obtain ⟨recs,h1,h2,h3,h4,h5⟩:=EU hn d w h l os e e' a a' hc hd hl he hx
  exact ⟨recs,h,h1,h2,h3,⟨Nat.le_refl _,fun id _ hw=>⟨rfl,by rw[h4] at hw; exact hw⟩⟩,h5⟩
theorem PR {call:gw} (hcall:jQ P call) (hn:n≤8000) {fz:Fz} {g:SG} {os:List Oper} {e e':ES} {h:aE} {a a':List Rec} (hc:df P n all fz os=some g.flat) (hok:rS g=true) (he:gR h e) (hx:eG P call g a e=some (e',a')) :
    ∃ recs h',a'=a ++ recs∧Tr P n all os e.T h recs e'.T h'∧gR h' e'∧Calm e e' h h'∧e9 P false g.flat recs:=by
  unfold eG at hx
  unfold SG.flat at hc ⊢
  unfold rS at hok
  split at hx
  · rename_i hg
    rw[hg] at hc ⊢
    exact D6 hcall hn none g.ops os e e' h a a' hc (fun d w e=>by simp at e) he hx
  · rename_i d want hg
    rw[hg] at hc hok ⊢
    simp only at hok
    unfold Ls at hx
    split at hx
    · rename_i b hb
      split at hx
      · rename_i hxor
        simp only[Option.some.injEq] at hx
        have e':b = !want:=by cases b <;> cases want <;> simp_all
        subst e'
        exact Cw hn hc (.inl hb) hok he hx
      · rename_i hxor
        have e':b=want:=by cases b <;> cases want <;> simp_all
        subst e'
        exact D6 hcall hn (some (d,b)) g.ops os e _ h a a' hc (fun d' w e=>by simp at e; obtain ⟨rfl,rfl⟩:=e; exact ⟨hb,hok⟩) he hx
    · rename_i hb
      simp only[Option.some.injEq] at hx
      exact Cw hn hc (.inr hb) hok he hx
    · simp at hx
theorem Km {call:gw} (hcall:jQ P call) (hn:n≤8000) {fz:Fz} : ∀ (gs:List SG) (os:List Oper) (e e':ES) (h:aE) (a a':List Rec),df P n all fz os=some (jd gs)→gs.all rS=true→gR h e→Kp P call gs a e=some (e',a') →
    ∃ recs h',a'=a ++ recs∧Tr P n all os e.T h recs e'.T h'∧gR h' e'∧Calm e e' h h'∧e9 P false (jd gs) recs
  | [],os,e,e',h,a,a',hc,_,he,hx=>by
    have:=j5 hc; subst this
    simp only[Kp,Option.some.injEq,Prod.mk.injEq] at hx; obtain ⟨rfl,rfl⟩:=hx
    exact ⟨[],h,by simp,.nil,he,Calm.refl _ _,.nil⟩
  | g :: gs,os,e,e',h,a,a',hc,hok,he,hx=>by
    simp only[jd,List.map_cons,List.flatten_cons] at hc ⊢
    simp only[List.all_cons,Bool.and_eq_true] at hok
    obtain ⟨o1,o2,rfl,h1,h2⟩:=py hc
    simp only[Kp] at hx
    split at hx
    · rename_i e1 a1 hx1
      obtain ⟨r1,h1',ha1,tr1,he1,hc1,ro1⟩:=PR hcall hn h1 hok.1 he hx1
      obtain ⟨r2,h2',ha2,tr2,he2,hc2,ro2⟩:=Km hcall hn gs o2 e1 e' h1' a1 a' h2 hok.2 he1 hx
      exact ⟨_,h2',by rw[ha2,ha1,List.append_assoc],tr1.append tr2,he2,hc1.trans hc2,ro1.append ro2⟩
    · simp at hx
theorem K1 {ls:List Nat} {i k x y:Nat} (hik:i < k) (hx:ls[i]?=some x) (hy:ls[k]?=some y) (ho:ordered (eK all []) i k=false) (h:¬ (x=0∨y=0∨(x≤1∧y≤1))):(i,k)∈A8 all ls:=by
  unfold A8
  simp only[List.mem_flatten,List.mem_map]
  refine ⟨_,⟨(x,i),by rw[List.mem_zipIdx_iff_getElem?]; exact hx,rfl⟩,?_⟩
  simp only[List.mem_map,List.mem_filter]
  refine ⟨(y,k),⟨by rw[List.mem_zipIdx_iff_getElem?]; exact hy,?_⟩,rfl⟩
  simp only[hik,decide_true,ho,Bool.false_or,Bool.true_and,Bool.not_eq_true',Bool.or_eq_false_iff,beq_eq_false_iff_ne,Bool.and_eq_false_iff,decide_eq_false_iff_not]
  omega
theorem Mo {ls:List Nat} {recs:List Rec} (h:LM recs (A8 all ls)=true) (hl:ls.length=recs.length) (hr:∀ (i x:Nat) (r:Rec),ls[i]?=some x→recs[i]?=some r→jI x r.rd r.wr r.call r.lo r.hi):sd all recs:=by
  intro i k a b hik ha hb ho
  have hi:i < recs.length:=(List.getElem?_eq_some_iff.1 ha).1
  have hk:k < recs.length:=(List.getElem?_eq_some_iff.1 hb).1
  have hx:ls[i]?=some (ls[i]'(by omega)):=List.getElem?_eq_getElem (by omega)
  have hy:ls[k]?=some (ls[k]'(by omega)):=List.getElem?_eq_getElem (by omega)
  generalize ls[i]'(by omega)=x at hx
  generalize ls[k]'(by omega)=y at hy
  have la:=hr i _ a hx ha
  have lb:=hr k _ b hy hb
  by_cases hc:x=0∨y=0∨(x≤1∧y≤1)
  · rcases hc with h1 | h1 | h1
    · obtain ⟨e1,e2,e3,e4⟩:=la.1 h1
      exact ⟨fun id hid=>by simp[e2] at hid,fun id _=>by simp[e1],fun hc=>by simp[e3] at hc,fun _=>e2,fun id _ hx=>by omega⟩
    · obtain ⟨e1,e2,e3,e4⟩:=lb.1 h1
      exact ⟨fun id _=>by simp[e1],fun id hid=>by simp[e2] at hid,fun _=>e2,fun hc=>by simp[e3] at hc,fun id hid=>by simp[e2] at hid⟩
    · have e1:=la.2 h1.1
      have e2:=lb.2 h1.2
      exact ⟨fun id hid=>by simp[e1] at hid,fun id hid=>by simp[e2] at hid,fun _=>e2,fun _=>e1,fun id hid=>by simp[e2] at hid⟩
  · have:=List.all_eq_true.1 h _ (K1 hik hx hy ho hc)
    simp only[ha,hb] at this
    exact Jy this
theorem Oa (hm:P.follows .mixedOrders=true) {call:gw} (hcall:jQ P call) (hn:n≤8000) {fz:List Nat} {id:Nat} {ops:Array Oper} {draw:Bool} {sc:DC} {run:vu} {e e':ES} {r:Exit} {h:aE}
    (hc:Ea P n fz ops.toList draw=some sc) (he:gR h e) (hx:kQ P call run sc e=some (r,e')) :
    ∃ h',cI P n (.region id ops draw) e.T h r e'.T h'∧gR h' e'∧Calm e e' h h':=by
  unfold Ea at hc
  split at hc
  · simp at hc
  · rename_i l hl
    split at hc
    · simp at hc
    · rename_i hok
      have hok:(group l).all rS=true:=by simpa using hok
      have hl':df P n ops.toList ⟨fz,false⟩ ops.toList=some (jd (group l)):=by rw[fE]; exact hl
      have key:∀ ps,kQ P call run (.region ps (group l)) e=some (r,e')→(draw=true→kD ops.toList=true∧ps=A8 ops.toList (l.map fun s=>hD P false s.b)) →
          ∃ h',cI P n (.region id ops draw) e.T h r e'.T h'∧gR h' e'∧Calm e e' h h':=by
        intro ps hx hdr
        simp only[kQ,G5] at hx
        split at hx
        · rename_i e1 recs0 hx1
          split at hx
          · rename_i hchk
            simp only[Option.some.injEq,Prod.mk.injEq] at hx
            obtain ⟨rfl,rfl⟩:=hx
            obtain ⟨recs,h',ha,tr,hk,hcm,hro⟩:=Km hcall hn (group l) ops.toList e e1 h [] recs0 hl' hok he hx1
            simp only[List.nil_append] at ha
            subst ha
            rw[fE] at hro
            refine ⟨h',?_,hk,hcm⟩
            cases hd:draw with
            | false=>simpa using D2 (id:=id) tr
            | true =>
              obtain ⟨h1,rfl⟩:=hdr hd
              have hcf:sd ops.toList recs0:=Mo hchk (by simpa using hro.1) (fun i x r hx hr=>by
                simp only[List.getElem?_map,Option.map_eq_some_iff] at hx
                obtain ⟨s,hs,rfl⟩:=hx
                exact hro.2 i s r hs hr)
              simpa using vX hm (id:=id) tr h1 hcf
          · simp at hx
        · simp at hx
      split at hc
      · rename_i hd
        split at hc
        · rename_i ht
          simp at hc; subst hc
          exact key _ hx (fun _=>⟨ht,rfl⟩)
        · simp at hc
      · rename_i hd
        simp at hc; subst hc
        exact key _ hx (fun e=>absurd e hd)
theorem MN (hm:P.follows .mixedOrders=true) {call:gw} (hcall:jQ P call) {run:vu} (hrun:tZ P run):tZ P (kQ P call run):=by
  intro n fz c sc hc hn e e' r h hx he
  cases c with
  | skip =>
    simp[g9] at hc; subst hc
    simp only[kQ,Lu,Option.some.injEq,Prod.mk.injEq] at hx
    obtain ⟨rfl,rfl⟩:=hx
    exact ⟨h,.skip,he,Calm.refl _ _,fun _ h=>by simp at h⟩
  | region id ops draw =>
    obtain ⟨h',a,b,d⟩:=Oa (id:=id) hm hcall hn hc he hx
    exact ⟨h',a,b,d,fun _ h=>by simp at h⟩
  | seq x y =>
    simp only[g9] at hc
    split at hc
    · rename_i a b h1 h2
      simp at hc; subst hc
      simp only[kQ,OJ] at hx
      split at hx
      · rename_i e1 hx1
        obtain ⟨h1',x1,he1,c1,l1⟩:=hrun n fz x a h1 hn e e1 .normal h hx1 he
        obtain ⟨h2',x2,he2,c2,l2⟩:=hrun n fz y b h2 hn e1 e' r h1' hx he1
        exact ⟨h2',x1.seq x2,he2,c1.trans c2,fun _ h=>by simp at h⟩
      · rename_i hne
        obtain ⟨h1',x1,he1,c1,l1⟩:=hrun n fz x a h1 hn e e' r h hx he
        refine ⟨h1',x1.HH (fun e=>?_),he1,c1,fun _ h=>by simp at h⟩
        subst e
        exact absurd hx (hne e')
    · simp at hc
  | cond cc x y =>
    simp only[g9] at hc
    split at hc
    · rename_i a b h1 h2
      simp at hc; subst hc
      simp only[kQ,No,SX.cr] at hx
      split at hx
      · rename_i ht
        obtain ⟨h1',x1,he1,c1,l1⟩:=hrun n fz x a h1 hn e e' r h hx he
        exact ⟨h1',.cond ht x1,he1,c1,fun _ h=>by simp at h⟩
      · rename_i ht
        obtain ⟨h1',x1,he1,c1,l1⟩:=hrun n fz y b h2 hn e e' r h hx he
        exact ⟨h1',.cond ht x1,he1,c1,fun _ h=>by simp at h⟩
      · simp at hx
    · simp at hc
  | block id c =>
    simp only[g9,Option.map_eq_some_iff] at hc
    obtain ⟨a,h1,rfl⟩:=hc
    simp only[kQ,JE] at hx
    split at hx
    · rename_i r1 e1 hx1
      simp only[Option.some.injEq,Prod.mk.injEq] at hx
      obtain ⟨rfl,rfl⟩:=hx
      obtain ⟨h1',x1,he1,c1,l1⟩:=hrun n fz c a h1 hn e e1 r1 h hx1 he
      exact ⟨h1',x1.block,he1,c1,fun _ h=>by simp at h⟩
    · simp at hx
  | loop c =>
    have hc0:=hc
    simp only[g9,Option.map_eq_some_iff] at hc
    obtain ⟨a,h1,rfl⟩:=hc
    simp only[kQ,Ny] at hx
    split at hx
    · rename_i e1 hx1
      obtain ⟨h1',x1,he1,c1,l1⟩:=hrun n fz c a h1 hn e e1 .normal h hx1 he
      obtain ⟨h2',x2,he2,c2,l2⟩:=hrun n fz (.loop c) (.loop a) hc0 hn e1 e' r h1' hx he1
      have hL:=oo.step x1 (l2 c rfl)
      exact ⟨h2',.loop hL,he2,c1.trans c2,fun c0 h0=>by simp only[Code.loop.injEq] at h0; subst h0; exact hL⟩
    · rename_i hne
      obtain ⟨h1',x1,he1,c1,l1⟩:=hrun n fz c a h1 hn e e' r h hx he
      have hL:=oo.out x1 (fun e=>by subst e; exact absurd hx (hne e'))
      exact ⟨h1',.loop hL,he1,c1,fun c0 h0=>by simp only[Code.loop.injEq] at h0; subst h0; exact hL⟩
  | exit id =>
    simp[g9] at hc; subst hc
    simp only[kQ,Option.some.injEq,Prod.mk.injEq] at hx
    obtain ⟨rfl,rfl⟩:=hx
    exact ⟨h,.exit,he,Calm.refl _ _,fun _ h=>by simp at h⟩
  | ret =>
    simp[g9] at hc; subst hc
    simp only[kQ,Option.some.injEq,Prod.mk.injEq] at hx
    obtain ⟨rfl,rfl⟩:=hx
    exact ⟨h,.ret,he,Calm.refl _ _,fun _ h=>by simp at h⟩
  | _=>simp[g9] at hc
theorem Cu:∀ (vs:List V) (i:Nat) (t:ca V),i+vs.length≤8000→∀ k,(ld vs i t).get .any k=if i≤k∧k < i+vs.length then vs.getD (k - i) .any else t.get .any k
  | [],i,t,h,k=>by
    rw[ld,if_neg (by simp only[List.length_nil]; omega)]
  | v :: vs,i,t,h,k=>by
    simp only[List.length_cons] at h
    rw[ld,Cu vs (i+1) _ (by omega),ca.k8 _ _ _ _ _ _ (by simp only[deep]; omega)]
    simp only[List.length_cons]
    by_cases h1:k=i
    · subst h1; rw[if_neg (by omega),if_pos rfl,if_pos (by omega)]; simp
    · by_cases h2:i+1≤k∧k < i+1+vs.length
      · rw[if_pos h2,if_pos (by omega)]
        have:k - i=(k - (i+1))+1:=by omega
        rw[this]; rfl
      · rw[if_neg h2,if_neg h1,if_neg (by omega)]
theorem Gb (vs:List V) (h:vs.length≤8000):(ld vs 0 .nil).get .any=j9 vs:=by
  funext k
  rw[Cu vs 0 .nil (by omega)]
  simp only[j9,Nat.zero_le,true_and,Nat.zero_add,Nat.sub_zero]
  split
  · rfl
  · rename_i hk
    rw[List.getD_eq_getElem?_getD,List.getElem?_eq_none (by omega)]; rfl
theorem NT {e:ES} {h:aE} {r:ResultVar} {rest:List ResultVar} {l:List SR} (he:gR h e) (hc:eO P (r :: rest)=some l):∃ s l',l=s :: l'∧eO P rest=some l'∧∀ v,LW s e=some v→qw P e.T h r=some v:=by
  cases r with
  | tmp t =>
    simp only[eO,Option.map_eq_some_iff] at hc
    obtain ⟨l',h1,rfl⟩:=hc
    exact ⟨.tmp t,l',rfl,h1,fun v hv=>hv⟩
  | cell a t =>
    simp only[eO] at hc
    split at hc
    · rename_i k l' h1 h2
      simp at hc; subst hc
      refine ⟨.cell a k,l',rfl,h2,fun v hv=>?_⟩
      simp only[LW] at hv
      simp only[qw,kN,uc h1]
      rw[he.1] at hv
      split at hv
      · rename_i id i j ha
        split at hv
        · rename_i es hH
          split at hv
          · rename_i hlt
            rw[ha]; simp only[hH]; rw[if_pos hlt,hv]; rfl
          · simp at hv
        · simp at hv
      · rename_i e j ha
        rw[ha]; simp only; rw[hv]; rfl
      · simp at hv
    · simp at hc
theorem Fg {e:ES} {h:aE} (he:gR h e):∀ (rs:List ResultVar) (l:List SR) (vs:List V),eO P rs=some l→uN l e=some vs→kG P e.T h rs=some vs
  | [],l,vs,hc,hw=>by simp[eO] at hc; subst hc; simp[uN] at hw; subst hw; rfl
  | r :: rest,l,vs,hc,hw=>by
    obtain ⟨s,l',rfl,h1,h2⟩:=NT (e:=e) (h:=h) he hc
    simp only[uN] at hw
    split at hw
    · rename_i v vs' hv hvs
      simp at hw; subst hw
      simp[kG,h2 v hv,Fg he rest l' vs' h1 hvs]
    · simp at hw
def uC (P:Program) (tab:List (FuncId × DF)):Prop:=∀ p∈tab,∃ fz,aY P p.1 fz=some p.2
def qn (P:Program) (ext:wa):Prop:=∀ g vs H t,ext g vs H=some t→dc P g=true∧∀ h:aE,h.view=H→bF P g vs h t h
theorem Fu {tab:List (FuncId × DF)} {ext:wa} (ht:uC P tab) (hx:qn P ext) {run:vu} (hrun:tZ P run):jQ P (DG P tab ext run):=by
  intro g vs e v e' h hcall he
  unfold DG at hcall
  split at hcall
  · rename_i t hext
    simp only[Option.some.injEq,Prod.mk.injEq] at hcall
    obtain ⟨rfl,rfl⟩:=hcall
    obtain ⟨h1,h2⟩:=hx _ _ _ _ hext
    exact ⟨h1,h,h2 h he.1.symm,he,fun _ _ _=>rfl,fun _ hw=>by simp at hw⟩
  · split at hcall
    · rename_i g' F hf
      have hmem:=List.mem_of_find?_eq_some hf
      have hgg:g'=g:=by
        have:=List.find?_some hf
        exact Nat.eq_of_beq_eq_true this
      subst hgg
      obtain ⟨fz,hF⟩:=ht _ hmem
      simp only at hF
      unfold aY at hF
      split at hF
      · rename_i fn hfn
        split at hF
        · rename_i c hb
          split at hF
          · rename_i sc rs h1 h2 h3
            simp at hF; subst hF
            refine ⟨h3,?_⟩
            unfold OS at hcall
            split at hcall
            · rename_i hlen hn
              have hlen:=Nat.le_of_ble_eq_true hlen
              have hn:=Nat.le_of_ble_eq_true hn
              simp only at hlen hn
              unfold Pb at hcall
              split at hcall
              · rename_i v1 e1' hend
                simp only[Option.some.injEq,Prod.mk.injEq] at hcall
                obtain ⟨rfl,rfl⟩:=hcall
                unfold Pf at hend
                have go:∀ (r:Exit) (e1:ES),(r=.ret∨r=.normal)→run sc ⟨ld vs 0 .nil,e.H,e.n,[]⟩=some (r,e1)→(uN rs e1).map (fun vs=>(ah vs,e1))=some (v1,e1') →
                    ∃ h',bF P g' vs h v1 h'∧gR h' e1'∧(∀ id,id < h.length→¬ id∈e1'.w→h'.view id=h.view id):=by
                  intro r e1 hr hrn hres
                  simp only[Option.map_eq_some_iff,Prod.mk.injEq] at hres
                  obtain ⟨vs',hvs,rfl,rfl⟩:=hres
                  obtain ⟨h',hx,he1,hc1,_⟩:=hrun fn.ntmps fz c sc h1 hn _ e1 r h hrn he
                  have hT:(ES.T ⟨ld vs 0 .nil,e.H,e.n,[]⟩)=j9 vs:=Gb vs (by omega)
                  rw[hT] at hx
                  refine ⟨h',bF.HJ hfn hb hlen hx (by rcases hr with rfl | rfl <;> simp) ?_,he1,fun id hid hw=>(hc1.2 id hid hw).1⟩
                  unfold Jv
                  rw[Fg he1 _ _ _ h2 hvs]
                  cases vs' with
                  | nil=>rfl
                  | cons a l=>cases l <;> rfl
                have done:(∃ h',bF P g' vs h v1 h'∧gR h' e1'∧(∀ id,id < h.length→¬ id∈e1'.w→h'.view id=h.view id)) →
                    ∃ h',bF P g' vs h v1 h'∧gR h' ⟨e1'.L,e1'.H,e1'.n,e1'.w.filter fun id=>Nat.blt id e.n⟩∧(∀ id,id < h.length→¬ id∈e1'.w.filter (fun id=>Nat.blt id e.n)→h'.view id=h.view id)∧∀ id,id∈e1'.w.filter (fun id=>Nat.blt id e.n)→id < h.length:=by
                  rintro ⟨h',k1,k2,k3⟩
                  refine ⟨h',k1,k2,fun id hid hw=>k3 id hid (fun hm=>hw ?_),fun id hw=>?_⟩
                  · rw[List.mem_filter]
                    exact ⟨hm,by rw[he.2]; exact Nat.ble_eq_true_of_le hid⟩
                  · rw[List.mem_filter] at hw
                    have:=Nat.le_of_ble_eq_true hw.2
                    rw[he.2] at this; exact this
                split at hend
                · rename_i e1 hrn; exact done (go _ _ (.inl rfl) hrn hend)
                · rename_i e1 hrn; exact done (go _ _ (.inr rfl) hrn hend)
                · simp at hend
              · simp at hcall
            · simp at hcall
          · simp at hF
        · simp at hF
      · simp at hF
    · simp at hcall
theorem GH (hm:P.follows .mixedOrders=true) {tab:List (FuncId × DF)} {ext:wa} (ht:uC P tab) (hx:qn P ext):∀ k,tZ P (FN P tab ext k)
  | 0=>fun n fz c sc hc hn e e' r h hr he=>by simp[FN] at hr
  | k+1=>by
    have ih:=GH hm ht hx k
    have:=MN hm (Fu ht hx ih) ih
    exact this
end
inductive dN (h:aE):V→V→Prop
  | val (v:Value):dN h (.val v) (.val v)
  | emp (k:Nat):dN h (.emp k) (.aZ [])
  | sl (id off len esz z:Nat) (es es':List (List V)):h.view id=.arr z es→off+len≤es.length→es'.length=len →
      (∀ i,i < len→(es'.getD i []).length=(es.getD (off+i) []).length) →
      (∀ i j,i < len→j < (es'.getD i []).length→dN h ((es.getD (off+i) []).getD j .any) ((es'.getD i []).getD j .any))→dN h (.sl id off len esz) (.aZ es')
  | agg (cs cs':List V):cs'.length=cs.length→(∀ i,i < cs.length→dN h (cs.getD i .any) (cs'.getD i .any))→dN h (.agg cs) (.agg cs')
  | bu (cs cs':List V):cs'.length=cs.length→(∀ i,i < cs.length→dN h (cs.getD i .any) (cs'.getD i .any))→dN h (.bu cs) (.bu cs')
theorem Oj {h:aE} {Z:Nat→Prop} {μ ν:Mu} {F:View} {hp:Array Obj} (hr:gf Z μ hp (cat h F)) {v t:V} (fr:dN h v t):∀ {x:Value},aB Z μ hp v x→aB (hE μ) ν hp t x:=by
  have hcat:∀ id,h.view id≠.dead→cat h F id=h.view id:=fun id hd=>by simp only[cat]; rw[if_pos (gq hd)]
  induction fr with
  | val v=>intro x hx; cases hx with | val _ hv=>exact .val _ hv
  | emp k=>intro x hx; cases hx with | emp _ a=>exact .gz a 0 (fun _=>rfl)
  | sl id off len esz z es es' hH hle hlen hl _ ih =>
    intro x hx
    cases hx with
    | mY _ _ _ a =>
      have:es'=[]:=List.length_eq_zero_iff.1 hlen
      subst this
      exact .gz a 0 (fun _=>rfl)
    | sl _ _ _ _ b o0 cap c e f hm hlec hb hs =>
      have hor:=hr.obj id
      rw[hcat id (by rw[hH]; simp),hH] at hor
      obtain ⟨rfl,_,h3,h4⟩:=hor b o0 esz hm
      have hx:∀ i,∃ ci:Nat→Value,∀ j,j < esz→i < len→cellAt hp b (o0+off * esz+i * esz+j)=some (ci j)∧aB Z μ hp ((es.getD (off+i) []).getD j .any) (ci j):=by
        intro i
        by_cases hi:i < len
        · obtain ⟨ci,hci⟩:=lS (n:=esz) (p:=fun j x=>cellAt hp b (o0+off * esz+i * esz+j)=some x∧aB Z μ hp ((es.getD (off+i) []).getD j .any) x) (fun j hj=>by
            obtain ⟨x,hx,hv⟩:=h4 (off+i) j (by omega) hj
            rw[Nat.add_mul,← Nat.add_assoc] at hx
            exact ⟨x,hx,hv⟩)
          exact ⟨ci,fun j hj _=>hci j hj⟩
        · exact ⟨fun _=>undef,fun j _ h=>absurd h hi⟩
      obtain ⟨cf,hcf⟩:=Classical.axiomOfChoice hx
      have hel:∀ i,i < es'.length→(es'.getD i []).length=esz:=fun i hi=>by rw[hl i (by omega)]; exact h3 _ (by omega)
      have:=aB.aZ (Z:=hE μ) (μ:=ν) (hp:=hp) es' b (o0+off * esz) esz cap cf ⟨id,o0,esz,hm⟩ (by omega) hel
        (fun i j hi hj=>(hcf i j hj (by omega)).1) (fun i j hi hj=>ih i j (by omega) (by rw[hel i hi]; exact hj) (hcf i j hj (by omega)).2)
      rw[hlen] at this
      exact this
  | agg cs cs' hlen _ ih =>
    intro x hx
    cases hx with
    | agg _ aas h1 h2=>exact .agg _ _ (by omega) (fun i hi=>ih i (by omega) (h2 i (by omega)))
  | bu cs cs' hlen _ ih =>
    intro x hx
    cases hx with
    | bu _ aas h1 h2=>exact .bu _ _ (by omega) (fun i hi=>ih i (by omega) (h2 i (by omega)))
def dE (P:Program) (f:FuncId) (vs:List V) (t:V):Prop :=
  ∀ Z μ (w:World) (xs:List Value),en Z μ w.heap vs xs→(∀ b,Z b→b < w.heap.size) →
    Calls P f xs.toArray w fun e w'=>∃ x Z',e=.returned x∧(∀ ν,aB Z' ν w'.heap t x)∧dU w w'∧(∀ b,Z' b→w.heap.size≤b∧b < w'.heap.size)∧fa w.heap w'.heap (fun _=>False)
theorem dE.pure {P:Program} {f:FuncId} {vs:List V} {t:V} (h:dE P f vs t):aD P f vs t:=by
  intro Z μ w xs hrel hz
  refine (h Z μ w xs hrel hz).mono ?_
  rintro e w' ⟨x,Z',rfl,hv,hs,hz',ho⟩
  exact ⟨x,fun b=>Z b∨Z' b,rfl,fun ν=>(hv ν).mono ⟨fun _ h=>.inr h,fun _ _=>rfl,fun _ _ h=>h,eJ.refl _⟩,hs,fun _ h=>.inl h,fun b hb=>hb.imp id (hz' b),ho⟩
theorem dE.ui {P:Program} {f:FuncId} {vs:List V} {r t:V} {h':aE} (ht:∀ v∈vs,Tree v) (hc:bF P f vs [] r h') (hf:dN h' r t):dE P f vs t:=by
  intro Z μ w xs hrel hz
  have hrel0:en Z (fun _=>none) w.heap vs xs:=⟨hrel.1,fun i hi=>uL (hrel.2 i hi) (by
    simp only[List.getD_eq_getElem?_getD,List.getElem?_eq_getElem hi,Option.getD_some]
    exact ht _ (List.getElem_mem _))⟩
  have hr0:gf Z (fun _=>none) w.heap (cat [] fun _=>.dead):=by
    rw[Bp]
    exact ⟨fun _=>trivial,fun i j b o s o' s' _ h=>by simp at h,fun id b o s h=>by simp at h,hz,fun id b o s h=>by simp at h⟩
  refine (hc.2 Z _ _ w xs hrel0 hr0 (fun _ _ _=>rfl)).mono ?_
  rintro e w' ⟨x,Z',μ',rfl,hv,hh,hex,_⟩
  refine ⟨x,hE μ',rfl,fun ν=>Oj hh hf hv,hex.same,?_,fun b hb _=>hex.frame b hb (by rintro ⟨_,_,_,h⟩; simp at h)⟩
  rintro b ⟨id,o,s,hb⟩
  rcases hex.Ab _ _ _ _ hb with h1 | ⟨_,h1 | ⟨_,_,_,h1⟩⟩
  · simp at h1
  · exact ⟨h1,hh.lt _ _ _ _ hb⟩
  · simp at h1
theorem dE.of {P:Program} {f:FuncId} {vs:List V} {t:V} (ht:∀ v∈vs,Tree v) (h:aC P f vs (fun _=>.dead) fun r H'=>∀ h':aE,h'.view=H'→dN h' r t):dE P f vs t:=by
  obtain ⟨r,h',ha,_,hf⟩:=h.2 [] C4
  exact dE.ui ht ha (hf h' rfl)
theorem bF.tt {P:Program} {f:FuncId} {ts vs:List V} {t:V} {h:aE} (hc:dE P f ts t) (hl:ts.length=vs.length)
    (hfr:∀ i,i < vs.length→Fr h (vs.getD i .any) (ts.getD i .any)):bF P f vs h t h:=by
  refine ⟨Nat.le_refl _,fun Z μ F w xs hrel hr hfree=>?_⟩
  have hts:en (fun b=>Z b∨hE μ b) μ w.heap ts xs:=⟨by rw[hl,hrel.1],fun i hi=>Av hr (hfr i (by omega)) (hrel.2 i (by omega))⟩
  have hzl:∀ b,(Z b∨hE μ b)→b < w.heap.size:=by
    rintro b (hb | ⟨id,o,s,hb⟩)
    · exact hr.cp b hb
    · exact hr.lt _ _ _ _ hb
  refine (hc _ μ w xs hts hzl).mono ?_
  rintro e w' ⟨x,Z',rfl,hv,hs,hz',ho⟩
  have hm:fL Z (fun b=>Z b∨Z' b) μ μ w.heap w'.heap:=⟨fun _ h=>.inl h,fun b hb=>ho b (hr.cp b hb) (fun x=>x),fun _ _ h=>h,ho.oM⟩
  refine ⟨x,fun b=>Z b∨Z' b,μ,rfl,(hv μ).mono ⟨fun _ h=>.inr h,fun _ _=>rfl,fun _ _ h=>h,eJ.refl _⟩,⟨fun id=>(hr.obj id).mono hm rfl (fun b o s hx=>ho b (hr.lt _ _ _ _ hx) (fun x=>x)),hr.inj,fun id b o s hx=>Nat.lt_of_lt_of_le (hr.lt _ _ _ _ hx) hs.size,fun b hb=>?_,fun id b o s hx hzb=>?_⟩,
    ⟨hs,hm,fun b hb _=>ho b hb (fun x=>x),fun b hb=>hb.imp id (fun h=>(hz' b h).1),fun _ _ _ _ h=>.inl h⟩,fun _ _=>rfl⟩
  · rcases hb with hb | hb
    · exact Nat.lt_of_lt_of_le (hr.cp b hb) hs.size
    · exact (hz' b hb).2
  · rcases hzb with hb | hb
    · exact hr.fQ _ _ _ _ hx hb
    · have:=hr.lt _ _ _ _ hx; have:=(hz' b hb).1; omega
theorem aG.tt {P:Program} {q:Bool} {f:FuncId} {H:View} {vs ts:List V} {K:V→View→Prop} {v:cD (H,K)} {t:V} (hc:dE P f ts t) (hok:dc P f=true) (hl:ts.length=vs.length)
    (hfr:∀ i,i < vs.length→dD H (vs.getD i .any) (ts.getD i .any)) (hk:K t H):aG P q f vs H K v:=by
  unfold aG
  cases q with
  | true=>exact ⟨hok,fun h e=>⟨t,h,bF.tt hc hl (fun i hi=>hfr i hi h e),fun _ _=>rfl,e ▸ hk⟩⟩
  | false =>
    refine ⟨hok,?_⟩
    rintro h rfl
    exact ⟨t,h,bF.tt hc hl (fun i hi=>hfr i hi h rfl),.refl _,hk⟩
noncomputable def mh (fz:V→Option V):List V→Option (List V)
  | []=>some []
  | v :: l=>match fz v,mh fz l with
    | some a,some b=>some (a :: b)
    | _,_=>none
noncomputable def Bh (fz:V→Option V):List (List V)→Option (List (List V))
  | []=>some []
  | v :: l=>match mh fz v,Bh fz l with
    | some a,some b=>some (a :: b)
    | _,_=>none
noncomputable def xn (H:View):Nat→V→Option V
  | 0,_=>none
  | k+1,v=>match v with
    | .val x=>some (.val x)
    | .emp _=>some (.aZ [])
    | .sl id off len _=>match H id with
      | .arr _ es=>if off+len≤es.length then (Bh (xn H k) ((es.drop off).take len)).map .aZ else none
      | _=>none
    | .agg cs=>(mh (xn H k) cs).map .agg
    | .bu cs=>(mh (xn H k) cs).map .bu
    | _=>none
theorem gu {fz:V→Option V} : ∀ (l l':List V),mh fz l=some l'→l'.length=l.length∧∀ i,i < l.length→fz (l.getD i .any)=some (l'.getD i .any)
  | [],l',h=>by simp only[mh,Option.some.injEq] at h; subst h; exact ⟨rfl,fun i hi=>by simp at hi⟩
  | v :: l,l',h=>by
    simp only[mh] at h
    split at h
    · rename_i a b h1 h2
      simp only[Option.some.injEq] at h; subst h
      obtain ⟨g1,g2⟩:=gu l b h2
      refine ⟨by simp[g1],fun i hi=>?_⟩
      cases i with
      | zero=>exact h1
      | succ i=>exact g2 i (by simpa using hi)
    · simp at h
theorem By {fz:V→Option V} : ∀ (l l':List (List V)),Bh fz l=some l'→l'.length=l.length∧∀ i,i < l.length→mh fz (l.getD i [])=some (l'.getD i [])
  | [],l',h=>by simp only[Bh,Option.some.injEq] at h; subst h; exact ⟨rfl,fun i hi=>by simp at hi⟩
  | v :: l,l',h=>by
    simp only[Bh] at h
    split at h
    · rename_i a b h1 h2
      simp only[Option.some.injEq] at h; subst h
      obtain ⟨g1,g2⟩:=By l b h2
      refine ⟨by simp[g1],fun i hi=>?_⟩
      cases i with
      | zero=>exact h1
      | succ i=>exact g2 i (by simpa using hi)
    · simp at h
theorem Hf (h:aE):∀ (k:Nat) (v t:V),xn h.view k v=some t→dN h v t
  | 0,v,t,hf=>by simp[xn] at hf
  | k+1,v,t,hf=>by
    have ih:=Hf h k
    simp only[xn] at hf
    split at hf
    · simp only[Option.some.injEq] at hf; subst hf; exact .val _
    · simp only[Option.some.injEq] at hf; subst hf; exact .emp _
    · rename_i id off len esz
      split at hf
      · rename_i z es hH
        split at hf
        · rename_i hle
          simp only[Option.map_eq_some_iff] at hf
          obtain ⟨es',he,rfl⟩:=hf
          obtain ⟨g1,g2⟩:=By _ _ he
          have hlen:es'.length=len:=by rw[g1]; simp; omega
          have hg:∀ i,i < len→((es.drop off).take len).getD i []=es.getD (off+i) []:=fun i hi=>by
            simp[List.getD_eq_getElem?_getD,List.getElem?_take,hi]
          have g3:∀ i,i < len→mh (xn h.view k) (es.getD (off+i) [])=some (es'.getD i []):=fun i hi=>by
            rw[← hg i hi]; exact g2 i (by rw[← g1,hlen]; exact hi)
          exact .sl id off len esz z es es' hH hle hlen (fun i hi=>(gu _ _ (g3 i hi)).1) (fun i j hi hj=>ih _ _ ((gu _ _ (g3 i hi)).2 j (by rw[← (gu _ _ (g3 i hi)).1]; exact hj)))
        · simp at hf
      · simp at hf
    · simp only[Option.map_eq_some_iff] at hf
      obtain ⟨l,hl,rfl⟩:=hf
      obtain ⟨g1,g2⟩:=gu _ _ hl
      exact .agg _ _ g1 (fun i hi=>ih _ _ (g2 i hi))
    · simp only[Option.map_eq_some_iff] at hf
      obtain ⟨l,hl,rfl⟩:=hf
      obtain ⟨g1,g2⟩:=gu _ _ hl
      exact .bu _ _ g1 (fun i hi=>ih _ _ (g2 i hi))
    · simp at hf
noncomputable def Np:Option (V × ES)→Option V
  | some (v,e)=>xn e.V 50 v
  | none=>none
noncomputable def x3 (P:Program) (tab:List (FuncId × DF)) (ext:wa) (f:FuncId) (vs:List V):Option V :=
  Np (DG P tab ext (FN P tab ext 100000) f vs ⟨.nil,.nil,0,[]⟩)
theorem uj {P:Program} (hm:P.follows .mixedOrders=true) {tab:List (FuncId × DF)} {ext:wa} (ht:uC P tab) (hx:qn P ext) {f:FuncId} {vs:List V} {t:V} (hvs:∀ v∈vs,Tree v) (h:x3 P tab ext f vs=some t) :
    dE P f vs t:=by
  unfold x3 Np at h
  split at h
  · rename_i v e hr
    obtain ⟨h1,h',h2,h3,_⟩:=Fu ht hx (GH hm ht hx 100000) f vs _ v e [] hr ⟨by funext k; rfl,rfl⟩
    rw[h3.1] at h
    exact dE.ui hvs h2 (Hf h' 50 v t h)
  · simp at h
structure ao.dH (g:ao):Prop where
  az:g.az.length≤24
  rQ:1≤g.ay.length
  ay:g.ay.length≤16
  QN:1≤g.rules.length
  rules:g.rules.length≤40
  jJ:0≤g.start
  start:g.start < g.ay.length
  left:∀ r∈g.rules,0≤r.left∧r.left < g.ay.length
  right:∀ r∈g.rules,r.right.length≤6
  sym:∀ r∈g.rules,∀ s∈r.right,hU g s=true
  prec:∀ r∈g.rules,-1≤r.prec∧r.prec < g.az.length
theorem wY {g:ao} : ∀ (l:List aT) (top:Int),fU g l top=true→top≤(g.ay.length:Int) - 1∧∀ r∈l,0≤r.left∧r.left < g.ay.length∧gA g r=true
  | [],top,h=>by simp[fU] at h; exact ⟨by omega,fun r hr=>by simp at hr⟩
  | r :: l,top,h=>by
    simp only[fU,Bool.and_eq_true,decide_eq_true_eq] at h
    obtain ⟨⟨⟨h1,h2⟩,h3⟩,h4⟩:=h
    obtain ⟨k1,k2⟩:=wY l _ h4
    have h5:r.left≤(if r.left > top then r.left else top):=by split <;> omega
    have h6:top≤(if r.left > top then r.left else top):=by split <;> omega
    refine ⟨by omega,fun r' hr=>?_⟩
    rcases List.mem_cons.1 hr with rfl | hr
    · exact ⟨h1,by omega,h3⟩
    · exact k2 r' hr
theorem bL {g:ao} (h:bK g=true):g.dH:=by
  simp only[bK,iU,jq,Bool.and_eq_true,decide_eq_true_eq] at h
  obtain ⟨⟨⟨⟨⟨⟨⟨h1,_⟩,⟨h2,h3⟩,_⟩,h4⟩,h5⟩,h6⟩,h7⟩,h8⟩:=h
  have k:=(wY _ _ h8).2
  have hb:∀ r∈g.rules,r.right.length≤6∧-1≤r.prec∧r.prec < g.az.length∧∀ s∈r.right,hU g s=true:=fun r hr=>by
    have:=(k r hr).2.2
    simp only[gA,Bool.and_eq_true,decide_eq_true_eq,List.all_eq_true,kY] at this
    exact ⟨this.1.1.1,this.1.1.2,this.1.2,fun s hs=>(this.2 s hs).1⟩
  exact ⟨h1,h2,h3,h4,h5,h6,h7,fun r hr=>⟨(k r hr).1,(k r hr).2.1⟩,fun r hr=>(hb r hr).1,fun r hr=>(hb r hr).2.2.2,fun r hr=>⟨(hb r hr).2.1,(hb r hr).2.2.1⟩⟩
theorem ao.dH.neg {g:ao} (h:g.dH) {r:aT} (hr:r∈g.rules) {s:Int} (hs:s∈r.right) (hn:s < 0) : -1 - s < g.ay.length:=by
  have:=h.sym r hr s hs
  simp only[hU] at this
  rw[if_neg (by omega)] at this
  simpa using this
theorem Ez (l:List Int) (is:List Bool) (t:Bool) (hl:aW l) (hs:∀ s∈l,cz s∧(s < 0→-1 - s < is.length)):aD Tryz.prog 117 [encI l,bO is,gb t] (gb (dP l is t)) :=
  aD.val (by
    intro v hv; simp at hv
    rcases hv with rfl | rfl | rfl
    · exact gp _
    · exact iz _
    · exact .val _) (fun H=>(Pa l is t hl hs H).mono fun r H' h=>h.1)
abbrev ct (is:List Bool):List (List V):=is.map fun x=>[gb x]
theorem oJ {h:aE} {id:Nat} {is:List Bool} (hv:h.view id=.arr 1 (ct is)):dN h (.sl id 0 is.length 1) (bO is):=by
  refine .sl id 0 is.length 1 1 (ct is) _ hv (by simp) (by simp) (fun i hi=>by simp) (fun i j hi hj=>?_)
  rw[Nat.zero_add]
  have e:(ct is).getD i []=[gb is[i]]:=by simp[List.getD_eq_getElem?_getD,hi]
  rw[e] at hj ⊢
  have:j=0:=by simp at hj; omega
  subst this
  exact .val _
theorem zQ {H:View} {id n:Nat} {is:List Bool} (hv:H id=.arr 1 (ct is)) (hn:n=is.length):dD H (.sl id 0 n 1) (bO is):=by
  have ht:∀ e∈ct is,∀ v∈e,Tree v:=by
    intro e he v hv
    obtain ⟨a,_,rfl⟩:=List.mem_map.1 he
    rw[List.mem_singleton] at hv
    subst hv
    exact .val _
  have:=dD.sl (off:=0) (len:=n) (esz:=1) hv (by simp[hn]) ht
  rwa [List.drop_zero,List.take_of_length_le (by simp[hn])] at this
theorem jr {is:List Bool} {i:Nat} (h:i < is.length):(ct is).getD i []=[gb is[i]]:=by simp[List.getD_eq_getElem?_getD,h]
theorem jO (is:List Bool) (i:Nat) (b:Bool):(ct is).set i [gb b]=ct (is.set i b):=by simp[List.map_set]
theorem wJ (n:Nat) (b:Bool):List.replicate n [gb b]=ct (List.replicate n b):=by simp
def iter {α:Type} (f:α→α):Nat→α→α
  | 0,x=>x
  | n+1,x=>iter f n (f x)
def dL (t:Bool) (is:List Bool) (r:aT):List Bool:=if dP r.right is t=true then is.set r.left.toNat true else is
def iV (g:ao) (t:Bool) (is:List Bool):List Bool:=g.rules.foldl (dL t) is
def bW (g:ao):List Bool:=List.replicate g.ay.length false
def aM (g:ao) (t:Bool):List Bool:=if bK g=true then iter (iV g t) g.ay.length (bW g) else []
theorem IL (t:Bool) (is:List Bool) (r:aT):(dL t is r).length=is.length:=by unfold dL; split <;> simp
def k5:SC :=
  .seq (.seq (ak [aa 22 7,av 23 2 2,au 24 23,aJ 25 24,aN 26 .lss 22 25]) <|
  .cond (.tmp 26) (.skip) (.exit 2)) <|
  .seq (.block 3 (.seq (ak [av 29 2 2,au 30 29,aa 31 7,aP 32 3 30 31,av 33 1 32,au 34 33,aa 35 5,aa 36 1,aI 37 117 [34,35,36]]) <|
  .cond (.tmp 37) (ak [aa 38 5,av 39 2 2,au 40 39,aa 41 7,aP 42 3 40 41,av 43 0 42,au 44 43,aP 45 1 38 44,(none,.op (.store 1 (.tmp 45) (.val (.val (.bool true)))))]) (.skip))) <|
  ak [aa 27 7,aA 28 .add 27 1,aa 7 28]
def lq:SC :=
  .seq (.seq (ak [aa 15 6,av 16 1 2,au 17 16,aJ 18 17,aN 19 .lss 15 18]) <|
  .cond (.tmp 19) (.skip) (.exit 0)) <|
  .seq (.block 1 (.seq (ak [aF 7 0]) <|
  .block 2 (.loop k5))) <|
  ak [aa 20 6,aA 21 .add 20 1,aa 6 21]
def m0:SF:=⟨.seq (ak [bZ 2 0,((some 4),.op (.bm (.val (.emp 1))))]) <|
  .seq (.seq (ak [aK 8 4 2,aI 9 54 [8],b6 10 9]) <|
  .cond (.tmp 10) (.seq (ak [((some 4),.op (.bm (.val (.emp 1))))]) <|
  .ret) (.skip)) <|
  .seq (ak [av 11 1 2,au 12 11,aJ 13 12,((some 14),.op (.make 1 1 [(.val (.bool false))] (.tmp 13) (.tmp 13))),aa 5 14]) <|
  .seq (.seq (ak [aF 6 0]) <|
  .block 0 (.loop lq)) <|
  .seq (ak [aa 46 5,aa 4 46]) <|
  .ret,
  [.tmp 4],47⟩
theorem r7:bf Tryz.prog 125 [2]=some m0:=by kernel_rfl
def jT:SF:=⟨.seq (ak [bZ 1 0,((some 2),.op (.bm (.val (.emp 1))))]) <|
  .seq (ak [aK 3 4 1,c9 4 125 [(.tmp 3),(.val (.val (.bool true)))],aa 2 4]) <|
  .ret,
  [.tmp 2],5⟩
theorem pk:bf Tryz.prog 115 [1]=some jT:=by kernel_rfl
theorem Mt (g:ao) (t:Bool):∀ v∈[V.agg (aw g),gb t],Tree v:=by
  intro v hv; simp at hv
  rcases hv with rfl | rfl
  · exact dd _ (dT g)
  · exact .val _
set_option maxHeartbeats 2000000 in
theorem MJ (g:ao) (hg:g.Ok) (t:Bool) (H:View):aC Tryz.prog 125 [.agg (aw g),gb t] H fun r H'=>∀ h':aE,h'.view=H'→dN h' r (bO (aM g t)):=by
  refine aC.of mixed r7 ?_
  simp (disch:=omega) only [↓wr,↓reduceIte,wq,ah,ag,aj,ab,ae,af,ai,isNil,Nat.reduceEqDiff,Nat.reduceAdd,Nat.reduceLT,Nat.reduceLeDiff,Int.reduceNeg,Int.reduceToNat,reduceCtorEq,m0,aw,encS]
  refine aG.pure (ue g hg) (by kernel_rfl) ?_
  repeat' (first | (refine ax.dec (fun _=>?_) (fun _=>?_)) | (refine ax.eq (fun _=>?_) (fun _=>?_)) | (refine ax.ne (fun _=>?_) (fun _=>?_)) | (refine ax.split (fun _=>?_) (fun _=>?_)) | (simp (disch:=omega) only [↓wr,↓reduceIte,wq,ah,ag,aj,ab,ae,af,ai,isNil,Nat.reduceEqDiff,Nat.reduceAdd,Nat.reduceLT,Nat.reduceLeDiff,Int.reduceNeg,Int.reduceToNat,reduceCtorEq,aw,encS]))
  · rename_i hr
    have hf:=bL hr
    obtain ⟨hN1,hN2⟩:=And.intro hf.rQ hf.ay
    refine ⟨⟨by omega,by unfold aO; omega,by unfold aO; omega⟩,fun hz=>by omega,fun _ m hm=>?_⟩
    try simp (disch:=omega) only [↓wr,↓reduceIte,wq,ah,ag,aj,ab,ae,af,ai,isNil,Nat.reduceEqDiff,Nat.reduceAdd,Nat.reduceLT,Nat.reduceLeDiff,Int.reduceNeg,Int.reduceToNat,reduceCtorEq,aw,encS]
    refine bz.intro (fun k T H'=>∃ (i:Nat) (is:List Bool),i+k=g.ay.length∧is.length=g.ay.length∧iter (iV g t) k is=iter (iV g t) g.ay.length (bW g)∧T 1=gb t∧T 2=.aR (aw g) 0∧T 5=.sl m 0 g.ay.length 1∧H' m=.arr 1 (ct is)∧T 6=gi i) g.ay.length ?_ ?_
    · refine ⟨0,bW g,by omega,by simp[bW],rfl,?_⟩
      simp (disch:=omega) only [↓wr,↓reduceIte,wq,ah,ag,aj,ab,ae,af,ai,isNil,Nat.reduceEqDiff,Nat.reduceAdd,Nat.reduceLT,Nat.reduceLeDiff,Int.reduceNeg,Int.reduceToNat,reduceCtorEq,aw,encS]
      exact ⟨by rw[wJ]; rfl,rfl⟩
    · rintro k T H' ⟨i,is,hk,hlen,hi,f1,f2,f5,fm,f6⟩
      simp (disch:=omega) only [↓wr,↓reduceIte,wq,ah,ag,aj,ab,ae,af,ai,isNil,Nat.reduceEqDiff,Nat.reduceAdd,Nat.reduceLT,Nat.reduceLeDiff,Int.reduceNeg,Int.reduceToNat,reduceCtorEq,lq,f1,f2,f5,f6,aw,encS]
      refine ax.dec (fun hc=>?_) (fun hc=>?_)
      · simp (disch:=omega) only [↓wr,↓reduceIte,wq,ah,ag,aj,ab,ae,af,ai,isNil,Nat.reduceEqDiff,Nat.reduceAdd,Nat.reduceLT,Nat.reduceLeDiff,Int.reduceNeg,Int.reduceToNat,reduceCtorEq,f1,f2,f5,f6,aw,encS]
        refine bz.intro (fun k' T H'=>∃ (j:Nat) (is':List Bool),j+k'=g.rules.length∧is'.length=g.ay.length∧(g.rules.drop j).foldl (dL t) is'=iV g t is∧T 1=gb t∧T 2=.aR (aw g) 0∧T 5=.sl m 0 g.ay.length 1∧H' m=.arr 1 (ct is')∧T 6=gi i∧T 7=gi j) g.rules.length ?_ ?_
        · refine ⟨0,is,by omega,hlen,rfl,?_⟩
          simp (disch:=omega) only [↓wr,↓reduceIte,wq,ah,ag,aj,ab,ae,af,ai,isNil,Nat.reduceEqDiff,Nat.reduceAdd,Nat.reduceLT,Nat.reduceLeDiff,Int.reduceNeg,Int.reduceToNat,reduceCtorEq,f1,f2,f5,f6,fm,aw,encS]
          rfl
        · rintro k' T' H'' ⟨j,is',hk',hlen',hj,e1,e2,e5,em,e6,e7⟩
          simp (disch:=omega) only [↓wr,↓reduceIte,wq,ah,ag,aj,ab,ae,af,ai,isNil,Nat.reduceEqDiff,Nat.reduceAdd,Nat.reduceLT,Nat.reduceLeDiff,Int.reduceNeg,Int.reduceToNat,reduceCtorEq,k5,e1,e2,e5,e6,e7,aw]
          refine ax.dec (fun hd=>?_) (fun hd=>?_)
          · have hle:=hf.rules
            have hg2:g.rules[j]?=some (g.rules[j]'(by omega)):=List.getElem?_eq_getElem (by omega)
            rw[eP (show j < g.rules.length by omega)] at hj
            have hmem:g.rules[j]'(by omega)∈g.rules:=List.getElem_mem _
            generalize g.rules[j]'(by omega)=r at hg2 hj hmem
            simp only[List.foldl_cons] at hj
            obtain ⟨hl1,hl2⟩:=hf.left r hmem
            obtain ⟨_,_,hs1,hs2⟩:=hg.aH r hmem
            have hall:=Ez r.right is' t hs1 (fun s hs=>⟨hs2 s hs,fun hn=>by have:=hf.neg hmem hs hn; omega⟩)
            simp (disch:=omega) only [↓wr,↓reduceIte,wq,ah,ag,aj,ab,ae,af,ai,isNil,Nat.reduceEqDiff,Nat.reduceAdd,Nat.reduceLT,Nat.reduceLeDiff,Int.reduceNeg,Int.reduceToNat,reduceCtorEq,e1,e2,e5,e6,e7,aw,encS,ba,List.getElem?_map,hg2,Option.map_some]
            refine aG.borrow hall (by kernel_rfl) (.val _) rfl (fun q hq=>?_) ?_
            · match q,hq with
              | 0,_=>exact dD.tree (gp _)
              | 1,_=>exact zQ em hlen'.symm
              | 2,_=>exact dD.tree (.val _)
            · simp (disch:=omega) only [↓wr,↓reduceIte,wq,ah,ag,aj,ab,ae,af,ai,isNil,Nat.reduceEqDiff,Nat.reduceAdd,Nat.reduceLT,Nat.reduceLeDiff,Int.reduceNeg,Int.reduceToNat,reduceCtorEq,e1,e2,e5,e6,e7,aw,encS,ba,List.getElem?_map,hg2,Option.map_some]
              refine ax.split (fun ha=>?_) (fun ha=>?_)
              · have hst:dL t is' r=is'.set r.left.toNat true:=by rw[dL,if_pos ha]
                simp (disch:=omega) only [↓wr,↓reduceIte,wq,ah,ag,aj,ab,ae,af,ai,isNil,Nat.reduceEqDiff,Nat.reduceAdd,Nat.reduceLT,Nat.reduceLeDiff,Int.reduceNeg,Int.reduceToNat,reduceCtorEq,e1,e2,e5,e6,e7,em,aw,encS,ba,List.getElem?_map,hg2,Option.map_some,jr (show r.left.toNat < is'.length by omega)]
                rw[hst] at hj
                exact ⟨by omega,by omega,k' - 1,by omega,j+1,is'.set r.left.toNat true,by omega,by simp[hlen'],hj,by rw[jO],rfl⟩
              · have hst:dL t is' r=is':=by rw[dL,if_neg (by rw[ha]; simp)]
                rw[hst] at hj
                simp (disch:=omega) only [↓wr,↓reduceIte,wq,ah,ag,aj,ab,ae,af,ai,isNil,Nat.reduceEqDiff,Nat.reduceAdd,Nat.reduceLT,Nat.reduceLeDiff,Int.reduceNeg,Int.reduceToNat,reduceCtorEq,e1,e2,e5,e6,e7]
                exact ⟨k' - 1,by omega,j+1,is',by omega,hlen',hj,by first | rfl | exact ⟨rfl,rfl⟩ | exact ⟨em,rfl⟩ | exact ⟨rfl,em,rfl⟩⟩
          · rw[List.drop_eq_nil_of_le (by omega),List.foldl_nil] at hj
            simp (disch:=omega) only [↓wr,↓reduceIte,wq,ah,ag,aj,ab,ae,af,ai,isNil,Nat.reduceEqDiff,Nat.reduceAdd,Nat.reduceLT,Nat.reduceLeDiff,Int.reduceNeg,Int.reduceToNat,reduceCtorEq,e1,e2,e5,e6,e7]
            obtain ⟨q,rfl⟩:∃ q,k=q+1:=⟨k - 1,by omega⟩
            exact ⟨q,by omega,i+1,is',by omega,hlen',by rw[hj]; exact hi,rfl,em,rfl⟩
      · simp (disch:=omega) only [↓wr,↓reduceIte,wq,ah,ag,aj,ab,ae,af,ai,isNil,Nat.reduceEqDiff,Nat.reduceAdd,Nat.reduceLT,Nat.reduceLeDiff,Int.reduceNeg,Int.reduceToNat,reduceCtorEq,f1,f2,f5,f6,fm]
        have:k=0:=by omega
        subst this
        rintro h' rfl
        simp only[aM,if_pos hr,← hi,iter]
        rw[← hlen]
        exact oJ fm
  · rename_i hr
    rintro h' rfl
    simp only[aM,hr]
    exact .emp 1
theorem Md (g:ao) (hg:g.Ok) (t:Bool):dE Tryz.prog 125 [.agg (aw g),gb t] (bO (aM g t)):=dE.of (Mt g t) (MJ g hg t _)
theorem Az (g:ao) (hg:g.Ok) (H:View):aC Tryz.prog 115 [.agg (aw g)] H fun r H'=>r=bO (aM g true)∧H'=H:=by
  refine aC.of mixed pk ?_
  simp (disch:=omega) only [↓wr,↓reduceIte,wq,ah,ag,aj,ab,ae,af,ai,isNil,Nat.reduceEqDiff,Nat.reduceAdd,Nat.reduceLT,Nat.reduceLeDiff,Int.reduceNeg,Int.reduceToNat,reduceCtorEq,jT,aw,encS]
  refine aG.pure (Md g hg true).pure (by kernel_rfl) ?_
  simp (disch:=omega) only [↓wr,↓reduceIte,wq,ah,ag,aj,ab,ae,af,ai,isNil,Nat.reduceEqDiff,Nat.reduceAdd,Nat.reduceLT,Nat.reduceLeDiff,Int.reduceNeg,Int.reduceToNat,reduceCtorEq,aw,encS]
theorem rr (g:ao) (hg:g.Ok):aD Tryz.prog 115 [.agg (aw g)] (bO (aM g true)) :=
  aD.of (eN g) ((Az g hg _).mono fun r H' h h' _=>by rw[h.1]; exact .tree _ (iz _))
def mark (is:List Bool) (s:Int):List Bool:=if s < 0 then is.set (-1 - s).toNat true else is
def eZ (p is:List Bool) (r:aT):List Bool:=if (is.getD r.left.toNat false && dP r.right p true)=true then r.right.foldl mark is else is
def lV (g:ao) (p is:List Bool):List Bool:=g.rules.foldl (eZ p) is
def bH (g:ao):List Bool:=if bK g=true then iter (lV g (aM g true)) g.ay.length ((bW g).set g.start.toNat true) else []
theorem L3 (is:List Bool) (s:Int):(mark is s).length=is.length:=by unfold mark; split <;> simp
theorem Dg:∀ (l:List Int) (is:List Bool),(l.foldl mark is).length=is.length
  | [],_=>rfl
  | s :: l,is=>by rw[List.foldl_cons,Dg l,L3]
theorem K8 (p is:List Bool) (r:aT):(eZ p is r).length=is.length:=by unfold eZ; split <;> simp[Dg]
theorem yS {f:List Bool→List Bool} (hf:∀ is,(f is).length=is.length):∀ (n:Nat) (is:List Bool),(iter f n is).length=is.length
  | 0,_=>rfl
  | n+1,is=>by rw[iter,yS hf n,hf]
theorem zp {α:Type} {f:List Bool→α→List Bool} (hf:∀ is x,(f is x).length=is.length):∀ (l:List α) (is:List Bool),(l.foldl f is).length=is.length
  | [],_=>rfl
  | x :: l,is=>by rw[List.foldl_cons,zp hf l,hf]
theorem iS {g:ao} (h:bK g=true) (t:Bool):(aM g t).length=g.ay.length:=by
  have hl:∀ is,(iV g t is).length=is.length:=fun is=>zp (IL t) _ _
  rw[aM,if_pos h,yS hl]
  simp[bW]
def je:SC :=
  .seq (.seq (.region false [⟨none,[aa 41 8,av 42 1 7,au 43 42,aJ 44 43,aN 45 .lss 41 44,aa 46 45]⟩,⟨(some (46,true)),[aa 47 4,av 48 0 7,au 49 48,aP 50 1 47 49,au 51 50]⟩,⟨none,[bG 52 46 51,aa 53 52]⟩,⟨(some (53,true)),[av 54 1 7,au 55 54,aa 56 3,c9 57 117 [(.tmp 55),(.tmp 56),(.val (.val (.bool true)))]]⟩,⟨none,[bG 58 53 57]⟩]) <|
  .cond (.tmp 58) (.skip) (.exit 4)) <|
  .seq (.block 5 (.seq (ak [av 61 1 7,au 62 61,aa 63 8,aP 64 1 62 63,au 65 64,aA 66 .lss 65 0]) <|
  .cond (.tmp 66) (ak [aa 67 4,av 68 1 7,au 69 68,aa 70 8,aP 71 1 69 70,au 72 71,((some 73),.op (.arith .sub (.val (.val (.int .i64 (-1)))) (.tmp 72))),aP 74 1 67 73,(none,.op (.store 1 (.tmp 74) (.val (.val (.bool true)))))]) (.skip))) <|
  ak [aa 59 8,aA 60 .add 59 1,aa 8 60]
def jk:SC :=
  .seq (.seq (ak [aa 29 6,av 30 2 1,au 31 30,aJ 32 31,aN 33 .lss 29 32]) <|
  .cond (.tmp 33) (.skip) (.exit 2)) <|
  .seq (.block 3 (.seq (ak [av 36 2 1,au 37 36,aa 38 6,aP 39 3 37 38,aK 40 3 39,((some 7),.op (.alloc [(.val (.int .i64 0)),(.emp 1),(.val (.int .i64 0))])),(none,.op (.store 3 (.tmp 7) (.tmp 40)))]) <|
  .seq (ak [aF 8 0]) <|
  .block 4 (.loop je))) <|
  ak [aa 34 6,aA 35 .add 34 1,aa 6 35]
def jf:SC :=
  .seq (.seq (ak [aa 22 5,av 23 1 1,au 24 23,aJ 25 24,aN 26 .lss 22 25]) <|
  .cond (.tmp 26) (.skip) (.exit 0)) <|
  .seq (.block 1 (.seq (ak [aF 6 0]) <|
  .block 2 (.loop jk))) <|
  ak [aa 27 5,aA 28 .add 27 1,aa 5 28]
def km:SF:=⟨.seq (ak [bZ 1 0,((some 2),.op (.bm (.val (.emp 1))))]) <|
  .seq (.seq (ak [aK 9 4 1,aI 10 54 [9],b6 11 10]) <|
  .cond (.tmp 11) (.seq (ak [((some 2),.op (.bm (.val (.emp 1))))]) <|
  .ret) (.skip)) <|
  .seq (ak [aK 12 4 1,aI 13 115 [12],aa 3 13]) <|
  .seq (ak [av 14 1 1,au 15 14,aJ 16 15,((some 17),.op (.make 1 1 [(.val (.bool false))] (.tmp 16) (.tmp 16))),aa 4 17]) <|
  .seq (ak [aa 18 4,av 19 3 1,au 20 19,aP 21 1 18 20,(none,.op (.store 1 (.tmp 21) (.val (.val (.bool true)))))]) <|
  .seq (.seq (ak [aF 5 0]) <|
  .block 0 (.loop jf)) <|
  .seq (ak [aa 75 4,aa 2 75]) <|
  .ret,
  [.tmp 2],76⟩
theorem pn:bf Tryz.prog 116 [1]=some km:=by kernel_rfl
theorem MG {l:List Bool} {i j:Nat} (h:l.getD j false=true):(l.set i true).getD j false=true:=by
  simp only[List.getD_eq_getElem?_getD,List.getElem?_set] at h ⊢
  by_cases e:i=j
  · subst e
    by_cases hi:i < l.length
    · simp[hi]
    · rw[List.getElem?_eq_none (by omega)] at h; simp at h
  · rw[if_neg e]; exact h
theorem MM {H:View} {m n:Nat} {o:bM} (hm:H m=o) (hn:H n=.dead) (ho:o≠.dead):m≠n:=by rintro rfl; exact ho (hm.symm.trans hn)
set_option maxHeartbeats 4000000 in
theorem Bu (g:ao) (hg:g.Ok) (H:View):aC Tryz.prog 116 [.agg (aw g)] H fun r H'=>∀ h':aE,h'.view=H'→dN h' r (bO (bH g)):=by
  refine aC.of mixed pn ?_
  simp (disch:=omega) only [↓wr,↓reduceIte,wq,ah,ag,aj,ab,ae,af,ai,isNil,Nat.reduceEqDiff,Nat.reduceAdd,Nat.reduceLT,Nat.reduceLeDiff,Int.reduceNeg,Int.reduceToNat,reduceCtorEq,km,aw,encS]
  refine aG.pure (ue g hg) (by kernel_rfl) ?_
  repeat' (first | (refine ax.dec (fun _=>?_) (fun _=>?_)) | (refine ax.eq (fun _=>?_) (fun _=>?_)) | (refine ax.ne (fun _=>?_) (fun _=>?_)) | (refine ax.split (fun _=>?_) (fun _=>?_)) | (simp (disch:=omega) only [↓wr,↓reduceIte,wq,ah,ag,aj,ab,ae,af,ai,isNil,Nat.reduceEqDiff,Nat.reduceAdd,Nat.reduceLT,Nat.reduceLeDiff,Int.reduceNeg,Int.reduceToNat,reduceCtorEq,aw,encS]))
  · rename_i hr
    have hf:=bL hr
    obtain ⟨hN1,hN2⟩:=And.intro hf.rQ hf.ay
    refine aG.pure (rr g hg) (by kernel_rfl) ?_
    have hpl:=iS hr true
    have hreach:bH g=iter (lV g (aM g true)) g.ay.length ((bW g).set g.start.toNat true):=by rw[bH,if_pos hr]
    generalize aM g true=p at hpl hreach
    have hst:=hf.jJ
    have hst2:=hf.start
    have hrep:List.replicate g.ay.length [V.val (Value.bool false)]=ct (bW g):=wJ _ _
    have hnl:(bW g).length=g.ay.length:=by simp[bW]
    simp (disch:=omega) only [↓wr,↓reduceIte,wq,ah,ag,aj,ab,ae,af,ai,isNil,Nat.reduceEqDiff,Nat.reduceAdd,Nat.reduceLT,Nat.reduceLeDiff,Int.reduceNeg,Int.reduceToNat,reduceCtorEq,aw,encS]
    refine ⟨⟨by omega,by unfold aO; omega,by unfold aO; omega⟩,fun hz=>by omega,fun _ m hm=>?_⟩
    rw[hrep]
    have hgs:(ct (bW g)).getD g.start.toNat []=[gb ((bW g)[g.start.toNat]'(by omega))]:=jr (by omega)
    simp (disch:=omega) only [↓wr,↓reduceIte,wq,ah,ag,aj,ab,ae,af,ai,isNil,Nat.reduceEqDiff,Nat.reduceAdd,Nat.reduceLT,Nat.reduceLeDiff,Int.reduceNeg,Int.reduceToNat,reduceCtorEq,aw,encS,jr (show g.start.toNat < (bW g).length by omega),jO,List.length_map]
    refine ⟨by omega,by omega,?_⟩
    refine bz.intro (fun k T H'=>∃ (i:Nat) (is:List Bool),i+k=g.ay.length∧is.length=g.ay.length∧iter (lV g p) k is=bH g∧T 1=.aR (aw g) 0∧T 3=bO p∧T 4=.sl m 0 g.ay.length 1∧H' m=.arr 1 (ct is)∧T 5=gi i) g.ay.length ?_ ?_
    · refine ⟨0,(bW g).set g.start.toNat true,by omega,by simp[hnl],hreach.symm,?_⟩
      simp (disch:=omega) only [↓wr,↓reduceIte,wq,ah,ag,aj,ab,ae,af,ai,isNil,Nat.reduceEqDiff,Nat.reduceAdd,Nat.reduceLT,Nat.reduceLeDiff,Int.reduceNeg,Int.reduceToNat,reduceCtorEq,aw,encS]
      rw[hgs]
      exact ⟨by rw[← jO]; rfl,rfl⟩
    · rintro k T H' ⟨i,is,hk,hlen,hi,f1,f3,f4,fm,f5⟩
      simp (disch:=omega) only [↓wr,↓reduceIte,wq,ah,ag,aj,ab,ae,af,ai,isNil,Nat.reduceEqDiff,Nat.reduceAdd,Nat.reduceLT,Nat.reduceLeDiff,Int.reduceNeg,Int.reduceToNat,reduceCtorEq,jf,f1,f3,f4,f5,aw,encS]
      refine ax.dec (fun hc=>?_) (fun hc=>?_)
      · simp (disch:=omega) only [↓wr,↓reduceIte,wq,ah,ag,aj,ab,ae,af,ai,isNil,Nat.reduceEqDiff,Nat.reduceAdd,Nat.reduceLT,Nat.reduceLeDiff,Int.reduceNeg,Int.reduceToNat,reduceCtorEq,f1,f3,f4,f5,aw,encS]
        refine bz.intro (fun k' T H'=>∃ (j:Nat) (is':List Bool),j+k'=g.rules.length∧is'.length=g.ay.length∧(g.rules.drop j).foldl (eZ p) is'=lV g p is∧T 1=.aR (aw g) 0∧T 3=bO p∧T 4=.sl m 0 g.ay.length 1∧H' m=.arr 1 (ct is')∧T 5=gi i∧T 6=gi j) g.rules.length ?_ ?_
        · refine ⟨0,is,by omega,hlen,rfl,?_⟩
          simp (disch:=omega) only [↓wr,↓reduceIte,wq,ah,ag,aj,ab,ae,af,ai,isNil,Nat.reduceEqDiff,Nat.reduceAdd,Nat.reduceLT,Nat.reduceLeDiff,Int.reduceNeg,Int.reduceToNat,reduceCtorEq,f1,f3,f4,f5,fm,aw,encS]
          first | done | exact ⟨rfl,rfl⟩ | rfl
        · rintro k' T' H'' ⟨j,is',hk',hlen',hj,e1,e3,e4,em,e5,e6⟩
          simp (disch:=omega) only [↓wr,↓reduceIte,wq,ah,ag,aj,ab,ae,af,ai,isNil,Nat.reduceEqDiff,Nat.reduceAdd,Nat.reduceLT,Nat.reduceLeDiff,Int.reduceNeg,Int.reduceToNat,reduceCtorEq,jk,e1,e3,e4,e5,e6,aw]
          refine ax.dec (fun hd=>?_) (fun hd=>?_)
          · have hle:=hf.rules
            have hg2:g.rules[j]?=some (g.rules[j]'(by omega)):=List.getElem?_eq_getElem (by omega)
            rw[eP (show j < g.rules.length by omega)] at hj
            have hmem:g.rules[j]'(by omega)∈g.rules:=List.getElem_mem _
            generalize g.rules[j]'(by omega)=r at hg2 hj hmem
            simp only[List.foldl_cons] at hj
            obtain ⟨hl1,hl2⟩:=hf.left r hmem
            obtain ⟨_,_,hs1,hs2⟩:=hg.aH r hmem
            have hr6:=hf.right r hmem
            have hall:=Ez r.right p true hs1 (fun s hs=>⟨hs2 s hs,fun hn=>by have:=hf.neg hmem hs hn; omega⟩)
            simp (disch:=omega) only [↓wr,↓reduceIte,wq,ah,ag,aj,ab,ae,af,ai,isNil,Nat.reduceEqDiff,Nat.reduceAdd,Nat.reduceLT,Nat.reduceLeDiff,Int.reduceNeg,Int.reduceToNat,reduceCtorEq,e1,e3,e4,e5,e6,aw,encS,ba,encI,List.getElem?_map,hg2,Option.map_some]
            intro b hb
            have hne:m≠b:=MM em hb (by simp)
            try simp (disch:=omega) only [↓wr,↓reduceIte,wq,ah,ag,aj,ab,ae,af,ai,isNil,Nat.reduceEqDiff,Nat.reduceAdd,Nat.reduceLT,Nat.reduceLeDiff,Int.reduceNeg,Int.reduceToNat,reduceCtorEq,e1,e3,e4,e5,e6,aw,encS,ba,encI]
            refine bz.intro (fun q T H'=>∃ (a:Nat) (is3:List Bool),a+q=r.right.length∧is3.length=g.ay.length∧(r.right.drop a).foldl mark is3=r.right.foldl mark is'∧((a=0∧is3=is')∨((is'.getD r.left.toNat false && dP r.right p true)=true∧is3.getD r.left.toNat false=true)) ∧
              T 1=.aR (aw g) 0∧T 3=bO p∧T 4=.sl m 0 g.ay.length 1∧H' m=.arr 1 (ct is3)∧T 5=gi i∧T 6=gi j∧T 7=.ptr b 0 0∧H' b=.arr 3 [ba r]∧T 8=gi a) r.right.length ?_ ?_
            · refine ⟨0,is',by omega,hlen',rfl,.inl ⟨rfl,rfl⟩,?_⟩
              simp (disch:=omega) only [↓wr,↓reduceIte,wq,ah,ag,aj,ab,ae,af,ai,isNil,Nat.reduceEqDiff,Nat.reduceAdd,Nat.reduceLT,Nat.reduceLeDiff,Int.reduceNeg,Int.reduceToNat,reduceCtorEq,e1,e3,e4,e5,e6,em,hne,aw,encS,ba]
              exact ⟨rfl,rfl⟩
            · rintro q T3 H3 ⟨a,is3,hq,hlen3,ha,hcase,d1,d3,d4,dm,d5,d6,d7,db,d8⟩
              simp (disch:=omega) only [↓wr,↓reduceIte,wq,ah,ag,aj,ab,ae,af,ai,isNil,Nat.reduceEqDiff,Nat.reduceAdd,Nat.reduceLT,Nat.reduceLeDiff,Int.reduceNeg,Int.reduceToNat,reduceCtorEq,je,d1,d3,d4,d5,d6,d7,d8,db,ba,encI]
              have hgl:is3[r.left.toNat]?=some (is3[r.left.toNat]'(by omega)):=List.getElem?_eq_getElem (by omega)
              have hgl2:is3.getD r.left.toNat false=is3[r.left.toNat]'(by omega):=by simp[List.getD_eq_getElem?_getD,hgl]
              have hbg:=jr (show r.left.toNat < is3.length by omega)
              have hoff:(is'.getD r.left.toNat false && dP r.right p true)=false→eZ p is' r=is3:=fun hW=>by
                rcases hcase with ⟨_,rfl⟩ | ⟨h1,_⟩
                · rw[eZ,hW]; rfl
                · rw[hW] at h1; simp at h1
              generalize is3[r.left.toNat]'(by omega)=tl at hgl hgl2 hbg
              refine ax.dec (fun ht=>?_) (fun ht=>?_)
              · have hg3:r.right[a]?=some (r.right[a]'(by omega)):=List.getElem?_eq_getElem (by omega)
                rw[eP (show a < r.right.length by omega)] at ha
                have hms:r.right[a]'(by omega)∈r.right:=List.getElem_mem _
                generalize r.right[a]'(by omega)=s at hg3 ha hms
                simp only[List.foldl_cons] at ha
                have hin:=hs2 s hms
                simp (disch:=omega) only [↓wr,↓reduceIte,wq,ah,ag,aj,ab,ae,af,ai,isNil,Nat.reduceEqDiff,Nat.reduceAdd,Nat.reduceLT,Nat.reduceLeDiff,Int.reduceNeg,Int.reduceToNat,reduceCtorEq,d1,d3,d4,d5,d6,d7,d8,db,dm,ba,encI,hbg,List.length_map]
                refine ⟨by omega,by omega,?_⟩
                refine ax.split (fun htl=>?_) (fun htl=>?_)
                · simp (disch:=omega) only [↓wr,↓reduceIte,wq,ah,ag,aj,ab,ae,af,ai,isNil,Nat.reduceEqDiff,Nat.reduceAdd,Nat.reduceLT,Nat.reduceLeDiff,Int.reduceNeg,Int.reduceToNat,reduceCtorEq,d1,d3,d4,d5,d6,d7,d8,db,dm,ba,encI,hbg,List.length_map]
                  refine aG.pure hall (by kernel_rfl) ?_
                  simp (disch:=omega) only [↓wr,↓reduceIte,wq,ah,ag,aj,ab,ae,af,ai,isNil,Nat.reduceEqDiff,Nat.reduceAdd,Nat.reduceLT,Nat.reduceLeDiff,Int.reduceNeg,Int.reduceToNat,reduceCtorEq,d1,d3,d4,d5,d6,d7,d8,db,dm,ba,encI]
                  refine ax.split (fun hal=>?_) (fun hal=>?_)
                  · simp (disch:=omega) only [↓wr,↓reduceIte,wq,ah,ag,aj,ab,ae,af,ai,isNil,Nat.reduceEqDiff,Nat.reduceAdd,Nat.reduceLT,Nat.reduceLeDiff,Int.reduceNeg,Int.reduceToNat,reduceCtorEq,d1,d3,d4,d5,d6,d7,d8,db,dm,ba,encI,List.getElem?_map,hg3,Option.map_some]
                    have hW:(is'.getD r.left.toNat false && dP r.right p true)=true∧is3.getD r.left.toNat false=true:=by
                      rcases hcase with ⟨_,rfl⟩ | h1
                      · exact ⟨by rw[hgl2,htl,hal]; rfl,by rw[hgl2,htl]⟩
                      · exact h1
                    refine ax.dec (fun hsn=>?_) (fun hsn=>?_)
                    · have hng:=hf.neg hmem hms hsn
                      have hin1:=hin.1
                      have hms2:mark is3 s=is3.set (-1 - s).toNat true:=by rw[mark,if_pos hsn]
                      simp (disch:=omega) only [↓wr,↓reduceIte,wq,ah,ag,aj,ab,ae,af,ai,isNil,Nat.reduceEqDiff,Nat.reduceAdd,Nat.reduceLT,Nat.reduceLeDiff,Int.reduceNeg,Int.reduceToNat,reduceCtorEq,d1,d3,d4,d5,d6,d7,d8,db,dm,ba,encI,List.getElem?_map,hg3,Option.map_some,jr (show (-1 - s).toNat < is3.length by omega),List.length_map,hne.symm]
                      rw[hms2] at ha
                      exact ⟨by omega,by omega,q - 1,by omega,a+1,is3.set (-1 - s).toNat true,by omega,by simp[hlen3],ha,.inr ⟨hW.1,MG hW.2⟩,by rw[jO],by first | rfl | exact ⟨rfl,rfl⟩⟩
                    · have hms2:mark is3 s=is3:=by rw[mark,if_neg hsn]
                      rw[hms2] at ha
                      simp (disch:=omega) only [↓wr,↓reduceIte,wq,ah,ag,aj,ab,ae,af,ai,isNil,Nat.reduceEqDiff,Nat.reduceAdd,Nat.reduceLT,Nat.reduceLeDiff,Int.reduceNeg,Int.reduceToNat,reduceCtorEq,d1,d3,d4,d5,d6,d7,d8,db,dm]
                      exact ⟨q - 1,by omega,a+1,is3,by omega,hlen3,ha,.inr hW,by first | rfl | exact ⟨rfl,rfl⟩ | exact ⟨rfl,rfl,rfl⟩⟩
                  · simp (disch:=omega) only [↓wr,↓reduceIte,wq,ah,ag,aj,ab,ae,af,ai,isNil,Nat.reduceEqDiff,Nat.reduceAdd,Nat.reduceLT,Nat.reduceLeDiff,Int.reduceNeg,Int.reduceToNat,reduceCtorEq,d1,d3,d4,d5,d6,d7,d8,db,dm,ba,encI]
                    have hst:=hoff (by rw[hal,Bool.and_false])
                    exact ⟨k' - 1,by omega,j+1,is3,by omega,hlen3,by rw[← hst]; exact hj,rfl,rfl,rfl⟩
                · simp (disch:=omega) only [↓wr,↓reduceIte,wq,ah,ag,aj,ab,ae,af,ai,isNil,Nat.reduceEqDiff,Nat.reduceAdd,Nat.reduceLT,Nat.reduceLeDiff,Int.reduceNeg,Int.reduceToNat,reduceCtorEq,d1,d3,d4,d5,d6,d7,d8,db,dm,ba,encI,hbg,List.length_map]
                  have hst:eZ p is' r=is3:=by
                    rcases hcase with ⟨_,rfl⟩ | ⟨_,h1⟩
                    · rw[eZ,hgl2,htl]; rfl
                    · rw[hgl2,htl] at h1; simp at h1
                  exact ⟨k' - 1,by omega,j+1,is3,by omega,hlen3,by rw[← hst]; exact hj,rfl,rfl,rfl⟩
              · simp (disch:=omega) only [↓wr,↓reduceIte,wq,ah,ag,aj,ab,ae,af,ai,isNil,Nat.reduceEqDiff,Nat.reduceAdd,Nat.reduceLT,Nat.reduceLeDiff,Int.reduceNeg,Int.reduceToNat,reduceCtorEq,d1,d3,d4,d5,d6,d7,d8,db,dm,ba,encI]
                rw[List.drop_eq_nil_of_le (by omega),List.foldl_nil] at ha
                have hst:eZ p is' r=is3:=by
                  rcases hcase with ⟨h0,rfl⟩ | ⟨h1,_⟩
                  · unfold eZ
                    split
                    · exact ha.symm
                    · rfl
                  · rw[eZ,if_pos h1]; exact ha.symm
                exact ⟨k' - 1,by omega,j+1,is3,by omega,hlen3,by rw[← hst]; exact hj,rfl,rfl,rfl⟩
          · rw[List.drop_eq_nil_of_le (by omega),List.foldl_nil] at hj
            simp (disch:=omega) only [↓wr,↓reduceIte,wq,ah,ag,aj,ab,ae,af,ai,isNil,Nat.reduceEqDiff,Nat.reduceAdd,Nat.reduceLT,Nat.reduceLeDiff,Int.reduceNeg,Int.reduceToNat,reduceCtorEq,e1,e3,e4,e5,e6]
            obtain ⟨q,rfl⟩:∃ q,k=q+1:=⟨k - 1,by omega⟩
            exact ⟨q,by omega,i+1,is',by omega,hlen',by rw[hj]; exact hi,rfl,em,rfl⟩
      · simp (disch:=omega) only [↓wr,↓reduceIte,wq,ah,ag,aj,ab,ae,af,ai,isNil,Nat.reduceEqDiff,Nat.reduceAdd,Nat.reduceLT,Nat.reduceLeDiff,Int.reduceNeg,Int.reduceToNat,reduceCtorEq,f1,f3,f4,f5,fm]
        have:k=0:=by omega
        subst this
        rintro h' rfl
        simp only[← hi,iter]
        rw[← hlen]
        exact oJ fm
  · rename_i hr
    rintro h' rfl
    simp only[bH,hr]
    exact .emp 1
theorem Bq (g:ao) (hg:g.Ok):dE Tryz.prog 116 [.agg (aw g)] (bO (bH g)):=dE.of (eN g) (Bu g hg _)
def yB:DF:=⟨.seq (al [aX 2 false]) <|
  .seq (.region [] [⟨none,[aa 3 0,aI 4 147 [3],aa 5 4]⟩,⟨(some (5,false)),[aa 6 0,((some 7),.op (.arith .eql (.tmp 6) (.val (.val (.int .u8 46)))))]⟩,⟨none,[bJ 8 5 7,aa 9 8]⟩,⟨(some (9,false)),[aa 10 0,((some 11),.op (.arith .geq (.tmp 10) (.val (.val (.int .u8 48))))),aa 12 11]⟩,⟨(some (12,true)),[aa 13 0,((some 14),.op (.arith .leq (.tmp 13) (.val (.val (.int .u8 57)))))]⟩,⟨(some (9,false)),[bG 15 12 14]⟩,⟨none,[bJ 16 9 15,aa 2 16]⟩]) <|
  .ret,
  [.tmp 2],17⟩
theorem Bv:aY Tryz.prog 148 []=some yB:=by kernel_rfl
def v8:DF:=⟨.seq (al [aX 2 false]) <|
  .seq (.region [] [⟨none,[aa 3 0,((some 4),.op (.arith .eql (.tmp 3) (.val (.val (.int .u8 95))))),aa 5 4]⟩,⟨(some (5,false)),[aa 6 0,((some 7),.op (.arith .or (.tmp 6) (.val (.val (.int .u8 32))))),((some 8),.op (.arith .geq (.tmp 7) (.val (.val (.int .u8 97))))),aa 9 8]⟩,⟨(some (9,true)),[aa 10 0,((some 11),.op (.arith .or (.tmp 10) (.val (.val (.int .u8 32))))),((some 12),.op (.arith .leq (.tmp 11) (.val (.val (.int .u8 122)))))]⟩,⟨(some (5,false)),[bG 13 9 12]⟩,⟨none,[bJ 14 5 13,aa 2 14]⟩]) <|
  .ret,
  [.tmp 2],15⟩
theorem AI:aY Tryz.prog 147 []=some v8:=by kernel_rfl
def ym:DF:=⟨.seq (al [aX 2 false]) <|
  .seq (.region [] [⟨none,[aa 3 0,((some 4),.op (.arith .geq (.tmp 3) (.val (.val (.int .u8 32))))),aa 5 4]⟩,⟨(some (5,true)),[aa 6 0,((some 7),.op (.arith .leq (.tmp 6) (.val (.val (.int .u8 126)))))]⟩,⟨none,[bG 8 5 7,aa 9 8]⟩,⟨(some (9,true)),[aa 10 0,((some 11),.op (.arith .neq (.tmp 10) (.val (.val (.int .u8 39)))))]⟩,⟨none,[bG 12 9 11,aa 13 12]⟩,⟨(some (13,true)),[aa 14 0,((some 15),.op (.arith .neq (.tmp 14) (.val (.val (.int .u8 92)))))]⟩,⟨none,[bG 16 13 15,aa 2 16]⟩]) <|
  .ret,
  [.tmp 2],17⟩
theorem BX:aY Tryz.prog 233 []=some ym:=by kernel_rfl
def vn:DF:=⟨.seq (al [aX 2 false]) <|
  .seq (.region [] [⟨none,[aa 3 0,((some 4),.op (.arith .eql (.tmp 3) (.val (.val (.int .u8 110))))),aa 5 4]⟩,⟨(some (5,false)),[aa 6 0,((some 7),.op (.arith .eql (.tmp 6) (.val (.val (.int .u8 116)))))]⟩,⟨none,[bJ 8 5 7,aa 9 8]⟩,⟨(some (9,false)),[aa 10 0,((some 11),.op (.arith .eql (.tmp 10) (.val (.val (.int .u8 92)))))]⟩,⟨none,[bJ 12 9 11,aa 13 12]⟩,⟨(some (13,false)),[aa 14 0,((some 15),.op (.arith .eql (.tmp 14) (.val (.val (.int .u8 39)))))]⟩,⟨none,[bJ 16 13 15,aa 2 16]⟩]) <|
  .ret,
  [.tmp 2],17⟩
theorem zj:aY Tryz.prog 234 []=some vn:=by kernel_rfl
def tU:List (FuncId × DF):=[(148,yB),(147,v8),(233,ym),(234,vn)]
theorem rq:uC Tryz.prog tU:=by
  intro p hp
  simp only[tU,List.mem_cons,List.not_mem_nil,or_false] at hp
  rcases hp with rfl | rfl | rfl | rfl
  · exact ⟨_,Bv⟩
  · exact ⟨_,AI⟩
  · exact ⟨_,BX⟩
  · exact ⟨_,zj⟩
theorem Nk (P:Program):qn P (fun _ _ _=>none):=fun _ _ _ _ h=>by simp at h
def OP (o:Option V) (b:Bool):Bool:=match o with
  | some (.val (.bool c))=>c == b
  | _=>false
theorem Pl {o:Option V} {b:Bool} (h:OP o b=true):o=some (gb b):=by
  unfold OP at h
  split at h
  · rw[beq_iff_eq] at h; rw[h]
  · simp at h
noncomputable def xf (tab:List (FuncId × DF)) (f:FuncId) (p:Int→Bool):Bool:=(List.range 256).all fun c=>OP (x3 Tryz.prog tab (fun _ _ _=>none) f [gy (c:Int)]) (p (c:Int))
theorem tV {tab:List (FuncId × DF)} (ht:uC Tryz.prog tab) {f:FuncId} {p:Int→Bool} (h:xf tab f p=true) (c:Int) (h0:0≤c) (h1:c≤255):aD Tryz.prog f [gy c] (gb (p c)):=by
  have:=List.all_eq_true.1 h c.toNat (by simp; omega)
  rw[show ((c.toNat:Nat):Int)=c by omega] at this
  exact (uj mixed ht (Nk _) (by intro v hv; simp at hv; subst hv; exact .val _) (Pl this)).pure
def wZ (c:Int):Bool:=decide (32≤c) && decide (c≤126) && c != 39 && c != 92
def B2 (c:Int):Bool:=c == 110 || c == 116 || c == 92 || c == 39
theorem IU:xf tU 147 tG=true:=by kernel_rfl
theorem KA:xf tU 148 mo=true:=by kernel_rfl
theorem JP:xf tU 233 wZ=true:=by kernel_rfl
theorem On:xf tU 234 B2=true:=by kernel_rfl
theorem CV {s:ByteArray} {c:Int} (h:c∈eE s):0≤c∧c≤255:=by
  unfold eE at h
  obtain ⟨b,_,rfl⟩:=List.mem_map.1 h
  have:=b.toNat_lt
  omega
theorem LQ (s:ByteArray):fJ s=(eE s).map fun x=>[gy x]:=by simp[fJ,eE]
end Gv
