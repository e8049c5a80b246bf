/-
  Part 7 of the proof: what the machine does and what the functions answer.
  Conditions: those that each lemma names.
-/
import Derived.Test.YtkkdjpnkhhlnpaaGreatSGzYF
set_option linter.unusedSimpArgs false
set_option linter.unusedVariables false
set_option maxRecDepth 100000
namespace Gv
open Go Go.Proofs
section
variable {P:Program} {n:Nat} {all:List Oper}
def hD (h:aH) (e:ES):Prop:=e.V=h.view∧e.n=h.length
def Calm (e e':ES) (h h':aH):Prop:=h.length≤h'.length∧(∀ id,id < h.length→¬ id∈e'.w→h'.view id=h.view id∧¬ id∈e.w)
theorem Calm.trans {a b c:ES} {h1 h2 h3:aH} (x:Calm a b h1 h2) (y:Calm b c h2 h3):Calm a c h1 h3 :=
  ⟨Nat.le_trans x.1 y.1,fun id hid hw =>
    let ⟨e1,d1⟩:=y.2 id (Nat.lt_of_lt_of_le hid x.1) hw
    let ⟨e2,d2⟩:=x.2 id hid d1
    ⟨e1.trans e2,d2⟩⟩
theorem Calm.refl (e:ES) (h:aH):Calm e e h h:=⟨Nat.le_refl _,fun _ _ hw=>⟨rfl,hw⟩⟩
def jX (P:Program) (call:gK):Prop:=∀ g vs e v e' h,call g vs e=some (v,e')→hD h e →
  dd P g=true∧∃ h',cO P g vs h v h'∧hD h' e'∧(∀ id,id < h.length→¬ id∈e'.w→h'.view id=h.view id)∧∀ id,id∈e'.w→id < h.length
def wN (P:Program) (run:xG):Prop:=∀ (n:Nat) (fz:List Nat) (c:Code) (sc:DC),iA P n fz c=some sc→n≤8000→∀ (e e':ES) (r:Exit) (h:aH),run sc e=some (r,e')→hD h e →
  ∃ h',cD P n c e.T h r e'.T h'∧hD h' e'∧Calm e e' h h'∧∀ c0,c=.loop c0→px P n c0 e.T h r e'.T h'
theorem MB {h:aH} {e:ES} {d:Option Nat} {v:V} (he:hD h e):hD h (e.put d v):=by cases d <;> exact he
theorem PU {e:ES} {d:Option Nat} {v:V} : (e.put d v).w=e.w:=by cases d <;> rfl
theorem Om {h:aH} {e e':ES} {h':aH} {d:Option Nat} {v:V} (x:Calm e e' h h'):Calm e (e'.put d v) h h':=⟨x.1,fun id hid hw=>x.2 id hid (by rw[PU] at hw; exact hw)⟩
theorem Bq {a:Nat} (h:Nat.ble a 8000=true):a+1 < 2 ^ 13:=by
  have:=Nat.le_of_ble_eq_true h
  omega
theorem PW {h:aH} {e e':ES} {v v':V} {aG:bq} {rd:List Nat} {c:Rec} (he:hD h e) (hx:GU v aG rd e=some (v',e',c)) :
    v'=v∧e'.T=e.T∧e'.V=aG.view h.view h.length∧e'.n=(aG.apply h).length∧c=⟨rd,aG.wr,false,h.length,(aG.apply h).length⟩∧e'.w=aG.wr ++ e.w:=by
  obtain ⟨h1,h2⟩:=he
  unfold GU at hx
  cases aG with
  | none =>
    simp only[Option.some.injEq,Prod.mk.injEq] at hx
    obtain ⟨rfl,rfl,rfl⟩:=hx
    exact ⟨rfl,rfl,h1,h2,by rw[h2]; rfl,rfl⟩
  | new o =>
    simp only at hx
    split at hx
    · rename_i hb
      simp only[Option.some.injEq,Prod.mk.injEq] at hx
      obtain ⟨rfl,rfl,rfl⟩:=hx
      refine ⟨rfl,rfl,?_,by simp[fL,h2],by simp[fL,h2,bq.wr],rfl⟩
      funext k
      simp only[ES.V,bq.view,View.set]
      rw[b3.l0 _ _ _ _ _ _ (Bq hb),h2]
      have:=congrFun h1 k
      simp only[ES.V] at this
      rw[this]
    · simp at hx
  | fZ id o =>
    simp only at hx
    split at hx
    · rename_i hb
      simp only[Option.some.injEq,Prod.mk.injEq] at hx
      obtain ⟨rfl,rfl,rfl⟩:=hx
      refine ⟨rfl,rfl,?_,by simp[fL,h2],by simp[fL,h2,bq.wr],rfl⟩
      funext k
      simp only[ES.V,bq.view,View.set]
      rw[b3.l0 _ _ _ _ _ _ (Bq hb)]
      have:=congrFun h1 k
      simp only[ES.V] at this
      rw[this]
    · simp at hx
  | bo id o =>
    simp only at hx
    split at hx
    · rename_i hb1 hb2
      simp only[Option.some.injEq,Prod.mk.injEq] at hx
      obtain ⟨rfl,rfl,rfl⟩:=hx
      refine ⟨rfl,rfl,?_,by simp[fL,h2],by simp[fL,h2,bq.wr],rfl⟩
      funext k
      simp only[ES.V,bq.view,View.set]
      rw[b3.l0 _ _ _ _ _ _ (Bq hb1),b3.l0 _ _ _ _ _ _ (Bq hb2),h2]
      have:=congrFun h1 k
      simp only[ES.V] at this
      rw[this]
    · simp at hx
theorem Rh {o:Oper} {e e':ES} {h:aH} {s:SI} {v:V} {c:Rec} (hg:cX n all e.T o=some true) (hc:∀ v aG rd,sI P s e.T h.view h.length=some (v,aG,rd)→bT P o e.T h.view h.length=some (v,aG,rd))
    (he:hD h e) (hx:Nx P s e=some (v,e',c)):∃ h',dr P n all o e.T h v h' c.rd c.wr c.call∧hD h' e'∧e'.T=e.T∧Calm e e' h h'∧kj (tz P s) c.rd c.wr c.call h.length h'.length∧c.lo=h.length∧c.hi=h'.length:=by
  unfold Nx at hx
  rw[KJ,he.1,he.2] at hx
  split at hx
  · rename_i v0 aG rd hs
    obtain ⟨rfl,g1,g2,g3,rfl,g5⟩:=PW he hx
    have ha:=hc _ _ _ hs
    have st:=dr.op (P:=P) (n:=n) (all:=all) hg ha
    refine ⟨aG.apply h,st,⟨?_,g3⟩,g1,⟨td st,fun id hid hw=>?_⟩,⟨fun h0=>?_,fun h1=>?_⟩,rfl,rfl⟩
    · rw[kN (fun id hid=>(lW ha id hid).1)]; exact g2
    · rw[g5] at hw
      simp only[List.mem_append,not_or] at hw
      exact ⟨rT st hid hw.1,hw.2⟩
    · obtain ⟨rfl,rfl⟩:=(rX hs).1 h0
      exact ⟨rfl,rfl,rfl,rfl⟩
    · rcases Nat.lt_or_ge (tz P s) 1 with h2 | h2
      · obtain ⟨rfl,rfl⟩:=(rX hs).1 (by omega); rfl
      · exact (rX hs).2 (by omega)
  · simp at hx
theorem R2 {call:gK} (hcall:jX P call) {fz:Fz} {o:Oper} {e e':ES} {h:aH} {v:V} {c:Rec} (hg:cX n all e.T o=some true) (he:hD h e) (hx:eB P call (nd P fz o) e=some (v,e',c)) :
    ∃ h',dr P n all o e.T h v h' c.rd c.wr c.call∧hD h' e'∧e'.T=e.T∧Calm e e' h h'∧kj (iB P false (nd P fz o)) c.rd c.wr c.call h.length h'.length∧c.lo=h.length∧c.hi=h'.length:=by
  rcases Af P fz o with ⟨f,args,ats,ho,hc⟩ | ⟨t,x,ho,hc⟩ | ⟨s,d,x,ho,hcv,hc⟩ | hc
  · rw[hc] at hx ⊢
    simp only[eB,LH] at hx
    split at hx
    · rename_i g first cap hf
      rw[F7] at hx
      rw[SX.ct] at hf
      split at hx
      · rename_i v0 e0 hv
        obtain ⟨hok,h',hr,hek,hd,hd2⟩:=hcall _ _ _ _ _ _ hv he
        simp only[Option.some.injEq,Prod.mk.injEq] at hx
        obtain ⟨rfl,rfl,rfl⟩:=hx
        exact ⟨h',.call hg ho hf hok hr hd hd2,hek,rfl,⟨hr.1,fun id hid hw=>by
          simp only[List.mem_append,not_or] at hw
          exact ⟨hd id hid hw.1,hw.2⟩⟩,PE (by simp[iB]),he.2,hek.2⟩
      · simp at hx
    · simp at hx
  · rw[hc] at hx ⊢
    simp only[eB,Nx,KJ,sI,SX.ct] at hx
    split at hx
    · rename_i v0 aG rd hs
      split at hs
      · rename_i hok
        simp only[Option.some.injEq,Prod.mk.injEq] at hs
        obtain ⟨rfl,rfl,rfl⟩:=hs
        simp only[GU,Option.some.injEq,Prod.mk.injEq] at hx
        obtain ⟨rfl,rfl,rfl⟩:=hx
        exact ⟨h,.iE hg ho hok,he,rfl,Calm.refl _ _,⟨fun _=>⟨rfl,rfl,rfl,rfl⟩,fun _=>rfl⟩,he.2,he.2⟩
      · simp at hs
    · simp at hx
  · rw[hc] at hx ⊢
    obtain ⟨ty,h1,h2,h3⟩:=Aq hcv
    simp only[eB,Nx,KJ,sI,SX.ct] at hx
    split at hx
    · rename_i v0 aG rd hs
      split at hs
      · rename_i st hst
        simp only[Option.some.injEq,Prod.mk.injEq] at hs
        obtain ⟨rfl,rfl,rfl⟩:=hs
        simp only[GU,Option.some.injEq,Prod.mk.injEq] at hx
        obtain ⟨rfl,rfl,rfl⟩:=hx
        exact ⟨h,.fy hg ho h1 h2 h3 hst,he,rfl,Calm.refl _ _,⟨fun _=>⟨rfl,rfl,rfl,rfl⟩,fun _=>rfl⟩,he.2,he.2⟩
      · simp at hs
    · simp at hx
  · rw[hc] at hx ⊢
    exact Rh (s:=yM P fz.fr (comp P o)) hg (fun v aG rd hs=>Iz (JL hs)) he hx
theorem Q7 {o:Oper} (hd:rO n o=true) (hn:n≤8000):∀ t,o.dst=some t→t < 8000:=by
  intro t ht
  unfold rO at hd
  rw[ht] at hd
  have:t < n:=by simpa using hd
  exact Nat.lt_of_lt_of_le this hn
theorem Qc {c:Rec} {a b:Nat} (h1:c.lo=a) (h2:c.hi=b):c=⟨c.rd,c.wr,c.call,a,b⟩:=by cases c; subst h1; subst h2; rfl
theorem GR {call:gK} (hcall:jX P call) (hn:n≤8000) {fz:Fz} (g:Option (Nat × Bool)):∀ (l:List (Option Nat × SB)) (os:List Oper) (e e':ES) (h:aH) (a a':List Rec),
    dg P n all fz os=some (l.map fun (d,b)=>⟨d,g,b⟩)→(∀ d w,g=some (d,w)→e.T d=.val (.bool w)∧(l.all fun x=>x.1 != some d)=true)→hD h e→I4 P call l a e=some (e',a') →
    ∃ recs h',a'=a ++ recs∧Tr P n all os e.T h recs e'.T h'∧hD h' e'∧Calm e e' h h'∧fo P false (l.map fun (d,b)=>⟨d,g,b⟩) recs
  | [],os,e,e',h,a,a',hc,hg,he,hx=>by
    have:=kQ hc; subst this
    simp only[I4,Option.some.injEq,Prod.mk.injEq] at hx; obtain ⟨rfl,rfl⟩:=hx
    exact ⟨[],h,by simp,.nil,he,Calm.refl _ _,.nil⟩
  | (d,b) :: l,os,e,e',h,a,a',hc,hg,he,hx=>by
    obtain ⟨o,r,rfl,h1,h2⟩:=lu hc
    obtain ⟨hd,hd1,hb1,hg1⟩:=tf h1
    simp only at hd1 hb1 hg1
    have hgv:cX n all e.T o=some true:=by
      cases g with
      | none=>exact B5 hg1
      | some p =>
        obtain ⟨d',w⟩:=p
        have:=(ky (T:=e.T) hg1).1 w (hg d' w rfl).1
        rw[this]; simp
    simp only[I4] at hx
    rw[hb1] at hx
    split at hx
    · rename_i v e1 c hv
      obtain ⟨h1',st,he1,hT1,hcm,hl,hlo,hhi⟩:=R2 hcall hgv he hv
      have hput:(e1.put d v).T=e.T.put o.dst v:=by
        rw[ES.PG (by rw[hd1]; exact Q7 hd hn),hT1,hd1]
      obtain ⟨recs,h'',ha,tr,he2,hcm2,hro⟩:=GR hcall hn g l r (e1.put d v) e' h1' _ a' h2 (fun d' w eq=>by
        have:=hg d' w eq
        simp only[List.all_cons,Bool.and_eq_true,bne_iff_ne,ne_eq] at this
        refine ⟨?_,this.2.2⟩
        rw[← this.1,hput,← hd1]
        cases d with
        | none=>rfl
        | some t=>simp only[Env.put]; rw[if_neg]; intro e; subst e; exact this.2.1 rfl) (MB he1) hx
      rw[hput] at tr
      refine ⟨_,h'',?_,.cons st hd tr,he2,(Om hcm).trans hcm2,hro.cons (by rw[hb1]; exact hl)⟩
      rw[ha,List.append_assoc,← Qc hlo hhi]; rfl
    · simp at hx
theorem GQ {fz:Fz} (hn:n≤8000) (d:Nat) (w:Bool) (h:aH):∀ (l:List (Option Nat × SB)) (os:List Oper) (e e':ES) (a a':List Rec),
    dg P n all fz os=some (l.map fun (d',b)=>⟨d',some (d,w),b⟩)→(e.T d=.val (.bool !w)∨e.T d=.bf [])→(l.all fun x=>x.1 != some d)=true→hD h e→wy l a e=(e',a') →
    ∃ recs,a'=a ++ recs∧Tr P n all os e.T h recs e'.T h∧hD h e'∧e'.w=e.w∧fo P false (l.map fun (d',b)=>⟨d',some (d,w),b⟩) recs
  | [],os,e,e',a,a',hc,hd,hl,he,hx=>by
    have:=kQ hc; subst this
    simp only[wy,Prod.mk.injEq] at hx; obtain ⟨rfl,rfl⟩:=hx
    exact ⟨[],by simp,.nil,he,rfl,.nil⟩
  | (d',b) :: l,os,e,e',a,a',hc,hd,hl,he,hx=>by
    obtain ⟨o,r,rfl,h1,h2⟩:=lu hc
    obtain ⟨hd0,hd1,hb1,hg1⟩:=tf h1
    simp only at hd1 hb1 hg1
    have hgv:cX n all e.T o=some false:=by
      rcases hd with hd | hd
      · rw[(ky (T:=e.T) hg1).1 _ hd]; cases w <;> rfl
      · exact (ky (T:=e.T) hg1).2 hd
    simp only[List.all_cons,Bool.and_eq_true,bne_iff_ne,ne_eq] at hl
    have hput:(e.put d' (.bf [])).T=e.T.put o.dst (.bf []):=by
      rw[ES.PG (by rw[hd1]; exact Q7 hd0 hn),hd1]
    simp only[wy] at hx
    obtain ⟨recs,ha,tr,he2,hd2,hro⟩:=GQ hn d w h l r (e.put d' (.bf [])) e' _ a' h2 (by
      have:(e.put d' (.bf [])).T d=e.T d:=by
        rw[hput,← hd1]
        cases d' with
        | none=>rfl
        | some t=>simp only[Env.put]; rw[if_neg]; intro e; subst e; exact hl.1 rfl
      rw[this]; exact hd) hl.2 (MB he) hx
    rw[hput] at tr
    refine ⟨_,?_,Tr.cons (.skip hgv) hd0 tr,he2,by rw[hd2,PU],hro.cons (r:=⟨[],[],false,h.length,h.length⟩) ⟨fun _=>⟨rfl,rfl,rfl,rfl⟩,fun _=>rfl⟩⟩
    rw[ha,List.append_assoc,Px,he.2]; rfl
theorem EP {fz:Fz} (hn:n≤8000) {d:Nat} {w:Bool} {h:aH} {l:List (Option Nat × SB)} {os:List Oper} {e e':ES} {a a':List Rec}
    (hc:dg P n all fz os=some (l.map fun (d',b)=>⟨d',some (d,w),b⟩)) (hd:e.T d=.val (.bool !w)∨e.T d=.bf []) (hl:(l.all fun x=>x.1 != some d)=true) (he:hD h e) (hx:wy l a e=(e',a')) :
    ∃ recs h',a'=a ++ recs∧Tr P n all os e.T h recs e'.T h'∧hD h' e'∧Calm e e' h h'∧fo P false (l.map fun (d',b)=>⟨d',some (d,w),b⟩) recs:=by
  obtain ⟨recs,h1,h2,h3,h4,h5⟩:=GQ hn d w h l os e e' a a' hc hd hl he hx
  exact ⟨recs,h,h1,h2,h3,⟨Nat.le_refl _,fun id _ hw=>⟨rfl,by rw[h4] at hw; exact hw⟩⟩,h5⟩
theorem RV {call:gK} (hcall:jX P call) (hn:n≤8000) {fz:Fz} {g:SG} {os:List Oper} {e e':ES} {h:aH} {a a':List Rec} (hc:dg P n all fz os=some g.flat) (hok:tw g=true) (he:hD h e) (hx:eG P call g a e=some (e',a')) :
    ∃ recs h',a'=a ++ recs∧Tr P n all os e.T h recs e'.T h'∧hD h' e'∧Calm e e' h h'∧fo P false g.flat recs:=by
  unfold eG at hx
  unfold SG.flat at hc ⊢
  unfold tw at hok
  split at hx
  · rename_i hg
    rw[hg] at hc ⊢
    exact GR hcall hn none g.ops os e e' h a a' hc (fun d w e=>by simp at e) he hx
  · rename_i d want hg
    rw[hg] at hc hok ⊢
    simp only at hok
    unfold Mv at hx
    split at hx
    · rename_i b hb
      split at hx
      · rename_i hxor
        simp only[Option.some.injEq] at hx
        have e':b = !want:=by cases b <;> cases want <;> simp_all
        subst e'
        exact EP hn hc (.inl hb) hok he hx
      · rename_i hxor
        have e':b=want:=by cases b <;> cases want <;> simp_all
        subst e'
        exact GR hcall hn (some (d,b)) g.ops os e _ h a a' hc (fun d' w e=>by simp at e; obtain ⟨rfl,rfl⟩:=e; exact ⟨hb,hok⟩) he hx
    · rename_i hb
      simp only[Option.some.injEq] at hx
      exact EP hn hc (.inr hb) hok he hx
    · simp at hx
theorem MS {call:gK} (hcall:jX P call) (hn:n≤8000) {fz:Fz} : ∀ (gs:List SG) (os:List Oper) (e e':ES) (h:aH) (a a':List Rec),dg P n all fz os=some (jD gs)→gs.all tw=true→hD h e→LK P call gs a e=some (e',a') →
    ∃ recs h',a'=a ++ recs∧Tr P n all os e.T h recs e'.T h'∧hD h' e'∧Calm e e' h h'∧fo P false (jD gs) recs
  | [],os,e,e',h,a,a',hc,_,he,hx=>by
    have:=kQ hc; subst this
    simp only[LK,Option.some.injEq,Prod.mk.injEq] at hx; obtain ⟨rfl,rfl⟩:=hx
    exact ⟨[],h,by simp,.nil,he,Calm.refl _ _,.nil⟩
  | g :: gs,os,e,e',h,a,a',hc,hok,he,hx=>by
    simp only[jD,List.map_cons,List.flatten_cons] at hc ⊢
    simp only[List.all_cons,Bool.and_eq_true] at hok
    obtain ⟨o1,o2,rfl,h1,h2⟩:=qL hc
    simp only[LK] at hx
    split at hx
    · rename_i e1 a1 hx1
      obtain ⟨r1,h1',ha1,tr1,he1,hc1,ro1⟩:=RV hcall hn h1 hok.1 he hx1
      obtain ⟨r2,h2',ha2,tr2,he2,hc2,ro2⟩:=MS hcall hn gs o2 e1 e' h1' a1 a' h2 hok.2 he1 hx
      exact ⟨_,h2',by rw[ha2,ha1,List.append_assoc],tr1.append tr2,he2,hc1.trans hc2,ro1.append ro2⟩
    · simp at hx
theorem NV {ls:List Nat} {i k x y:Nat} (hik:i < k) (hx:ls[i]?=some x) (hy:ls[k]?=some y) (ho:ordered (eQ all []) i k=false) (h:¬ (x=0∨y=0∨(x≤1∧y≤1))):(i,k)∈BG all ls:=by
  unfold BG
  simp only[List.mem_flatten,List.mem_map]
  refine ⟨_,⟨(x,i),by rw[List.mem_zipIdx_iff_getElem?]; exact hx,rfl⟩,?_⟩
  simp only[List.mem_map,List.mem_filter]
  refine ⟨(y,k),⟨by rw[List.mem_zipIdx_iff_getElem?]; exact hy,?_⟩,rfl⟩
  simp only[hik,decide_true,ho,Bool.false_or,Bool.true_and,Bool.not_eq_true',Bool.or_eq_false_iff,beq_eq_false_iff_ne,Bool.and_eq_false_iff,decide_eq_false_iff_not]
  omega
theorem Og {ls:List Nat} {recs:List Rec} (h:M5 recs (BG all ls)=true) (hl:ls.length=recs.length) (hr:∀ (i x:Nat) (r:Rec),ls[i]?=some x→recs[i]?=some r→kj x r.rd r.wr r.call r.lo r.hi):ux all recs:=by
  intro i k a b hik ha hb ho
  have hi:i < recs.length:=(List.getElem?_eq_some_iff.1 ha).1
  have hk:k < recs.length:=(List.getElem?_eq_some_iff.1 hb).1
  have hx:ls[i]?=some (ls[i]'(by omega)):=List.getElem?_eq_getElem (by omega)
  have hy:ls[k]?=some (ls[k]'(by omega)):=List.getElem?_eq_getElem (by omega)
  generalize ls[i]'(by omega)=x at hx
  generalize ls[k]'(by omega)=y at hy
  have la:=hr i _ a hx ha
  have lb:=hr k _ b hy hb
  by_cases hc:x=0∨y=0∨(x≤1∧y≤1)
  · rcases hc with h1 | h1 | h1
    · obtain ⟨e1,e2,e3,e4⟩:=la.1 h1
      exact ⟨fun id hid=>by simp[e2] at hid,fun id _=>by simp[e1],fun hc=>by simp[e3] at hc,fun _=>e2,fun id _ hx=>by omega⟩
    · obtain ⟨e1,e2,e3,e4⟩:=lb.1 h1
      exact ⟨fun id _=>by simp[e1],fun id hid=>by simp[e2] at hid,fun _=>e2,fun hc=>by simp[e3] at hc,fun id hid=>by simp[e2] at hid⟩
    · have e1:=la.2 h1.1
      have e2:=lb.2 h1.2
      exact ⟨fun id hid=>by simp[e1] at hid,fun id hid=>by simp[e2] at hid,fun _=>e2,fun _=>e1,fun id hid=>by simp[e2] at hid⟩
  · have:=List.all_eq_true.1 h _ (NV hik hx hy ho hc)
    simp only[ha,hb] at this
    exact NG this
theorem Qh (hm:P.follows .mixedOrders=true) {call:gK} (hcall:jX P call) (hn:n≤8000) {fz:List Nat} {id:Nat} {ops:Array Oper} {draw:Bool} {sc:DC} {run:xG} {e e':ES} {r:Exit} {h:aH}
    (hc:GH P n fz ops.toList draw=some sc) (he:hD h e) (hx:lM P call run sc e=some (r,e')) :
    ∃ h',cD P n (.region id ops draw) e.T h r e'.T h'∧hD h' e'∧Calm e e' h h':=by
  unfold GH at hc
  split at hc
  · simp at hc
  · rename_i l hl
    split at hc
    · simp at hc
    · rename_i hok
      have hok:(group l).all tw=true:=by simpa using hok
      have hl':dg P n ops.toList ⟨fz,false⟩ ops.toList=some (jD (group l)):=by rw[fH]; exact hl
      have key:∀ ps,lM P call run (.region ps (group l)) e=some (r,e')→(draw=true→lx ops.toList=true∧ps=BG ops.toList (l.map fun s=>iB P false s.b)) →
          ∃ h',cD P n (.region id ops draw) e.T h r e'.T h'∧hD h' e'∧Calm e e' h h':=by
        intro ps hx hdr
        simp only[lM,IJ] at hx
        split at hx
        · rename_i e1 recs0 hx1
          split at hx
          · rename_i hchk
            simp only[Option.some.injEq,Prod.mk.injEq] at hx
            obtain ⟨rfl,rfl⟩:=hx
            obtain ⟨recs,h',ha,tr,hk,hcm,hro⟩:=MS hcall hn (group l) ops.toList e e1 h [] recs0 hl' hok he hx1
            simp only[List.nil_append] at ha
            subst ha
            rw[fH] at hro
            refine ⟨h',?_,hk,hcm⟩
            cases hd:draw with
            | false=>simpa using Hf (id:=id) tr
            | true =>
              obtain ⟨h1,rfl⟩:=hdr hd
              have hcf:ux ops.toList recs0:=Og hchk (by simpa using hro.1) (fun i x r hx hr=>by
                simp only[List.getElem?_map,Option.map_eq_some_iff] at hx
                obtain ⟨s,hs,rfl⟩:=hx
                exact hro.2 i s r hs hr)
              simpa using yr hm (id:=id) tr h1 hcf
          · simp at hx
        · simp at hx
      split at hc
      · rename_i hd
        split at hc
        · rename_i ht
          simp at hc; subst hc
          exact key _ hx (fun _=>⟨ht,rfl⟩)
        · simp at hc
      · rename_i hd
        simp at hc; subst hc
        exact key _ hx (fun e=>absurd e hd)
theorem Pf (hm:P.follows .mixedOrders=true) {call:gK} (hcall:jX P call) {run:xG} (hrun:wN P run):wN P (lM P call run):=by
  intro n fz c sc hc hn e e' r h hx he
  cases c with
  | skip =>
    simp[iA] at hc; subst hc
    simp only[lM,NR,Option.some.injEq,Prod.mk.injEq] at hx
    obtain ⟨rfl,rfl⟩:=hx
    exact ⟨h,.skip,he,Calm.refl _ _,fun _ h=>by simp at h⟩
  | region id ops draw =>
    obtain ⟨h',a,b,d⟩:=Qh (id:=id) hm hcall hn hc he hx
    exact ⟨h',a,b,d,fun _ h=>by simp at h⟩
  | seq x y =>
    simp only[iA] at hc
    split at hc
    · rename_i a b h1 h2
      simp at hc; subst hc
      simp only[lM,Q1] at hx
      split at hx
      · rename_i e1 hx1
        obtain ⟨h1',x1,he1,c1,l1⟩:=hrun n fz x a h1 hn e e1 .normal h hx1 he
        obtain ⟨h2',x2,he2,c2,l2⟩:=hrun n fz y b h2 hn e1 e' r h1' hx he1
        exact ⟨h2',x1.seq x2,he2,c1.trans c2,fun _ h=>by simp at h⟩
      · rename_i hne
        obtain ⟨h1',x1,he1,c1,l1⟩:=hrun n fz x a h1 hn e e' r h hx he
        refine ⟨h1',x1.JI (fun e=>?_),he1,c1,fun _ h=>by simp at h⟩
        subst e
        exact absurd hx (hne e')
    · simp at hc
  | cond cc x y =>
    simp only[iA] at hc
    split at hc
    · rename_i a b h1 h2
      simp at hc; subst hc
      simp only[lM,PJ,SX.ct] at hx
      split at hx
      · rename_i ht
        obtain ⟨h1',x1,he1,c1,l1⟩:=hrun n fz x a h1 hn e e' r h hx he
        exact ⟨h1',.cond ht x1,he1,c1,fun _ h=>by simp at h⟩
      · rename_i ht
        obtain ⟨h1',x1,he1,c1,l1⟩:=hrun n fz y b h2 hn e e' r h hx he
        exact ⟨h1',.cond ht x1,he1,c1,fun _ h=>by simp at h⟩
      · simp at hx
    · simp at hc
  | block id c =>
    simp only[iA,Option.map_eq_some_iff] at hc
    obtain ⟨a,h1,rfl⟩:=hc
    simp only[lM,NH] at hx
    split at hx
    · rename_i r1 e1 hx1
      simp only[Option.some.injEq,Prod.mk.injEq] at hx
      obtain ⟨rfl,rfl⟩:=hx
      obtain ⟨h1',x1,he1,c1,l1⟩:=hrun n fz c a h1 hn e e1 r1 h hx1 he
      exact ⟨h1',x1.block,he1,c1,fun _ h=>by simp at h⟩
    · simp at hx
  | loop c =>
    have hc0:=hc
    simp only[iA,Option.map_eq_some_iff] at hc
    obtain ⟨a,h1,rfl⟩:=hc
    simp only[lM,Pt] at hx
    split at hx
    · rename_i e1 hx1
      obtain ⟨h1',x1,he1,c1,l1⟩:=hrun n fz c a h1 hn e e1 .normal h hx1 he
      obtain ⟨h2',x2,he2,c2,l2⟩:=hrun n fz (.loop c) (.loop a) hc0 hn e1 e' r h1' hx he1
      have hL:=px.step x1 (l2 c rfl)
      exact ⟨h2',.loop hL,he2,c1.trans c2,fun c0 h0=>by simp only[Code.loop.injEq] at h0; subst h0; exact hL⟩
    · rename_i hne
      obtain ⟨h1',x1,he1,c1,l1⟩:=hrun n fz c a h1 hn e e' r h hx he
      have hL:=px.out x1 (fun e=>by subst e; exact absurd hx (hne e'))
      exact ⟨h1',.loop hL,he1,c1,fun c0 h0=>by simp only[Code.loop.injEq] at h0; subst h0; exact hL⟩
  | exit id =>
    simp[iA] at hc; subst hc
    simp only[lM,Option.some.injEq,Prod.mk.injEq] at hx
    obtain ⟨rfl,rfl⟩:=hx
    exact ⟨h,.exit,he,Calm.refl _ _,fun _ h=>by simp at h⟩
  | ret =>
    simp[iA] at hc; subst hc
    simp only[lM,Option.some.injEq,Prod.mk.injEq] at hx
    obtain ⟨rfl,rfl⟩:=hx
    exact ⟨h,.ret,he,Calm.refl _ _,fun _ h=>by simp at h⟩
  | _=>simp[iA] at hc
theorem Eg:∀ (vs:List V) (i:Nat) (t:b3 V),i+vs.length≤8000→∀ k,(mB vs i t).get .any k=if i≤k∧k < i+vs.length then vs.getD (k - i) .any else t.get .any k
  | [],i,t,h,k=>by
    rw[mB,if_neg (by simp only[List.length_nil]; omega)]
  | v :: vs,i,t,h,k=>by
    simp only[List.length_cons] at h
    rw[mB,Eg vs (i+1) _ (by omega),b3.l0 _ _ _ _ _ _ (by simp only[deep]; omega)]
    simp only[List.length_cons]
    by_cases h1:k=i
    · subst h1; rw[if_neg (by omega),if_pos rfl,if_pos (by omega)]; simp
    · by_cases h2:i+1≤k∧k < i+1+vs.length
      · rw[if_pos h2,if_pos (by omega)]
        have:k - i=(k - (i+1))+1:=by omega
        rw[this]; rfl
      · rw[if_neg h2,if_neg h1,if_neg (by omega)]
theorem Im (vs:List V) (h:vs.length≤8000):(mB vs 0 .nil).get .any=kP vs:=by
  funext k
  rw[Eg vs 0 .nil (by omega)]
  simp only[kP,Nat.zero_le,true_and,Nat.zero_add,Nat.sub_zero]
  split
  · rfl
  · rename_i hk
    rw[List.getD_eq_getElem?_getD,List.getElem?_eq_none (by omega)]; rfl
theorem Qg {e:ES} {h:aH} {r:ResultVar} {rest:List ResultVar} {l:List SR} (he:hD h e) (hc:eY P (r :: rest)=some l):∃ s l',l=s :: l'∧eY P rest=some l'∧∀ v,Pg s e=some v→sP P e.T h r=some v:=by
  cases r with
  | tmp t =>
    simp only[eY,Option.map_eq_some_iff] at hc
    obtain ⟨l',h1,rfl⟩:=hc
    exact ⟨.tmp t,l',rfl,h1,fun v hv=>hv⟩
  | cell a t =>
    simp only[eY] at hc
    split at hc
    · rename_i k l' h1 h2
      simp at hc; subst hc
      refine ⟨.cell a k,l',rfl,h2,fun v hv=>?_⟩
      simp only[Pg] at hv
      simp only[sP,lO,xb h1]
      rw[he.1] at hv
      split at hv
      · rename_i id i j ha
        split at hv
        · rename_i es hH
          split at hv
          · rename_i hlt
            rw[ha]; simp only[hH]; rw[if_pos hlt,hv]; rfl
          · simp at hv
        · simp at hv
      · rename_i e j ha
        rw[ha]; simp only; rw[hv]; rfl
      · simp at hv
    · simp at hc
theorem HG {e:ES} {h:aH} (he:hD h e):∀ (rs:List ResultVar) (l:List SR) (vs:List V),eY P rs=some l→wx l e=some vs→lF P e.T h rs=some vs
  | [],l,vs,hc,hw=>by simp[eY] at hc; subst hc; simp[wx] at hw; subst hw; rfl
  | r :: rest,l,vs,hc,hw=>by
    obtain ⟨s,l',rfl,h1,h2⟩:=Qg (e:=e) (h:=h) he hc
    simp only[wx] at hw
    split at hw
    · rename_i v vs' hv hvs
      simp at hw; subst hw
      simp[lF,h2 v hv,HG he rest l' vs' h1 hvs]
    · simp at hw
def tW (P:Program) (jj:List (FuncId × DF)):Prop:=∀ p∈jj,∃ fz,bM P p.1 fz=some p.2
def sX (P:Program) (ext:zd):Prop:=∀ g vs H t,ext g vs H=some t→dd P g=true∧∀ h:aH,h.view=H→cO P g vs h t h
theorem HF {jj:List (FuncId × DF)} {ext:zd} (ht:tW P jj) (hx:sX P ext) {run:xG} (hrun:wN P run):jX P (E5 P jj ext run):=by
  intro g vs e v e' h hcall he
  unfold E5 at hcall
  split at hcall
  · rename_i t hext
    simp only[Option.some.injEq,Prod.mk.injEq] at hcall
    obtain ⟨rfl,rfl⟩:=hcall
    obtain ⟨h1,h2⟩:=hx _ _ _ _ hext
    exact ⟨h1,h,h2 h he.1.symm,he,fun _ _ _=>rfl,fun _ hw=>by simp at hw⟩
  · split at hcall
    · rename_i g' F hf
      have hmem:=List.mem_of_find?_eq_some hf
      have hgg:g'=g:=by
        have:=List.find?_some hf
        exact Nat.eq_of_beq_eq_true this
      subst hgg
      obtain ⟨fz,hF⟩:=ht _ hmem
      simp only at hF
      unfold bM at hF
      split at hF
      · rename_i fn hfn
        split at hF
        · rename_i c hb
          split at hF
          · rename_i sc rs h1 h2 h3
            simp at hF; subst hF
            refine ⟨h3,?_⟩
            unfold QX at hcall
            split at hcall
            · rename_i hlen hn
              have hlen:=Nat.le_of_ble_eq_true hlen
              have hn:=Nat.le_of_ble_eq_true hn
              simp only at hlen hn
              unfold Re at hcall
              split at hcall
              · rename_i v1 e1' hend
                simp only[Option.some.injEq,Prod.mk.injEq] at hcall
                obtain ⟨rfl,rfl⟩:=hcall
                unfold Q8 at hend
                have go:∀ (r:Exit) (e1:ES),(r=.ret∨r=.normal)→run sc ⟨mB vs 0 .nil,e.H,e.n,[]⟩=some (r,e1)→(wx rs e1).map (fun vs=>(ah vs,e1))=some (v1,e1') →
                    ∃ h',cO P g' vs h v1 h'∧hD h' e1'∧(∀ id,id < h.length→¬ id∈e1'.w→h'.view id=h.view id):=by
                  intro r e1 hr hrn hres
                  simp only[Option.map_eq_some_iff,Prod.mk.injEq] at hres
                  obtain ⟨vs',hvs,rfl,rfl⟩:=hres
                  obtain ⟨h',hx,he1,hc1,_⟩:=hrun fn.ntmps fz c sc h1 hn _ e1 r h hrn he
                  have hT:(ES.T ⟨mB vs 0 .nil,e.H,e.n,[]⟩)=kP vs:=Im vs (by omega)
                  rw[hT] at hx
                  refine ⟨h',cO.IQ hfn hb hlen hx (by rcases hr with rfl | rfl <;> simp) ?_,he1,fun id hid hw=>(hc1.2 id hid hw).1⟩
                  unfold KE
                  rw[HG he1 _ _ _ h2 hvs]
                  cases vs' with
                  | nil=>rfl
                  | cons a l=>cases l <;> rfl
                have done:(∃ h',cO P g' vs h v1 h'∧hD h' e1'∧(∀ id,id < h.length→¬ id∈e1'.w→h'.view id=h.view id)) →
                    ∃ h',cO P g' vs h v1 h'∧hD h' ⟨e1'.L,e1'.H,e1'.n,e1'.w.filter fun id=>Nat.blt id e.n⟩∧(∀ id,id < h.length→¬ id∈e1'.w.filter (fun id=>Nat.blt id e.n)→h'.view id=h.view id)∧∀ id,id∈e1'.w.filter (fun id=>Nat.blt id e.n)→id < h.length:=by
                  rintro ⟨h',k1,k2,k3⟩
                  refine ⟨h',k1,k2,fun id hid hw=>k3 id hid (fun hm=>hw ?_),fun id hw=>?_⟩
                  · rw[List.mem_filter]
                    exact ⟨hm,by rw[he.2]; exact Nat.ble_eq_true_of_le hid⟩
                  · rw[List.mem_filter] at hw
                    have:=Nat.le_of_ble_eq_true hw.2
                    rw[he.2] at this; exact this
                split at hend
                · rename_i e1 hrn; exact done (go _ _ (.inl rfl) hrn hend)
                · rename_i e1 hrn; exact done (go _ _ (.inr rfl) hrn hend)
                · simp at hend
              · simp at hcall
            · simp at hcall
          · simp at hF
        · simp at hF
      · simp at hF
    · simp at hcall
theorem IW (hm:P.follows .mixedOrders=true) {jj:List (FuncId × DF)} {ext:zd} (ht:tW P jj) (hx:sX P ext):∀ k,wN P (HJ P jj ext k)
  | 0=>fun n fz c sc hc hn e e' r h hr he=>by simp[HJ] at hr
  | k+1=>by
    have ih:=IW hm ht hx k
    have:=Pf hm (HF ht hx ih) ih
    exact this
end
inductive bZ (h:aH):V→V→Prop
  | val (v:Value):bZ h (.val v) (.val v)
  | emp (k:Nat):bZ h (.emp k) (.aX [])
  | sl (id off len esz z:Nat) (es es':List (List V)):h.view id=.arr z es→off+len≤es.length→es'.length=len →
      (∀ i,i < len→(es'.getD i []).length=(es.getD (off+i) []).length) →
      (∀ i j,i < len→j < (es'.getD i []).length→bZ h ((es.getD (off+i) []).getD j .any) ((es'.getD i []).getD j .any))→bZ h (.sl id off len esz) (.aX es')
  | agg (cs cs':List V):cs'.length=cs.length→(∀ i,i < cs.length→bZ h (cs.getD i .any) (cs'.getD i .any))→bZ h (.agg cs) (.agg cs')
  | bf (cs cs':List V):cs'.length=cs.length→(∀ i,i < cs.length→bZ h (cs.getD i .any) (cs'.getD i .any))→bZ h (.bf cs) (.bf cs')
theorem Qo {h:aH} {Z:Nat→Prop} {μ ν:Mu} {F:View} {hp:Array Obj} (hr:gG Z μ hp (cat h F)) {v t:V} (fr:bZ h v t):∀ {x:Value},aF Z μ hp v x→aF (iu μ) ν hp t x:=by
  have hcat:∀ id,h.view id≠.dead→cat h F id=h.view id:=fun id hd=>by simp only[cat]; rw[if_pos (jq hd)]
  induction fr with
  | val v=>intro x hx; cases hx with | val _ hv=>exact .val _ hv
  | emp k=>intro x hx; cases hx with | emp _ a=>exact .ic a 0 (fun _=>rfl)
  | sl id off len esz z es es' hH hle hlen hl _ ih =>
    intro x hx
    cases hx with
    | rn _ _ _ a =>
      have:es'=[]:=List.length_eq_zero_iff.1 hlen
      subst this
      exact .ic a 0 (fun _=>rfl)
    | sl _ _ _ _ b o0 cap c e f hm hlec hb hs =>
      have hor:=hr.obj id
      rw[hcat id (by rw[hH]; simp),hH] at hor
      obtain ⟨rfl,_,h3,h4⟩:=hor b o0 esz hm
      have hx:∀ i,∃ ci:Nat→Value,∀ j,j < esz→i < len→cellAt hp b (o0+off * esz+i * esz+j)=some (ci j)∧aF Z μ hp ((es.getD (off+i) []).getD j .any) (ci j):=by
        intro i
        by_cases hi:i < len
        · obtain ⟨ci,hci⟩:=nj (n:=esz) (p:=fun j x=>cellAt hp b (o0+off * esz+i * esz+j)=some x∧aF Z μ hp ((es.getD (off+i) []).getD j .any) x) (fun j hj=>by
            obtain ⟨x,hx,hv⟩:=h4 (off+i) j (by omega) hj
            rw[Nat.add_mul,← Nat.add_assoc] at hx
            exact ⟨x,hx,hv⟩)
          exact ⟨ci,fun j hj _=>hci j hj⟩
        · exact ⟨fun _=>undef,fun j _ h=>absurd h hi⟩
      obtain ⟨cf,hcf⟩:=Classical.axiomOfChoice hx
      have hel:∀ i,i < es'.length→(es'.getD i []).length=esz:=fun i hi=>by rw[hl i (by omega)]; exact h3 _ (by omega)
      have:=aF.aX (Z:=iu μ) (μ:=ν) (hp:=hp) es' b (o0+off * esz) esz cap cf ⟨id,o0,esz,hm⟩ (by omega) hel
        (fun i j hi hj=>(hcf i j hj (by omega)).1) (fun i j hi hj=>ih i j (by omega) (by rw[hel i hi]; exact hj) (hcf i j hj (by omega)).2)
      rw[hlen] at this
      exact this
  | agg cs cs' hlen _ ih =>
    intro x hx
    cases hx with
    | agg _ aas h1 h2=>exact .agg _ _ (by omega) (fun i hi=>ih i (by omega) (h2 i (by omega)))
  | bf cs cs' hlen _ ih =>
    intro x hx
    cases hx with
    | bf _ aas h1 h2=>exact .bf _ _ (by omega) (fun i hi=>ih i (by omega) (h2 i (by omega)))
def cH (P:Program) (f:FuncId) (vs:List V) (t:V):Prop :=
  ∀ Z μ (w:World) (xs:List Value),fE Z μ w.heap vs xs→(∀ b,Z b→b < w.heap.size) →
    Calls P f xs.toArray w fun e w'=>∃ x Z',e=.returned x∧(∀ ν,aF Z' ν w'.heap t x)∧dV w w'∧(∀ b,Z' b→w.heap.size≤b∧b < w'.heap.size)∧fq w.heap w'.heap (fun _=>False)
theorem cH.pure {P:Program} {f:FuncId} {vs:List V} {t:V} (h:cH P f vs t):aD P f vs t:=by
  intro Z μ w xs hrel hz
  refine (h Z μ w xs hrel hz).mono ?_
  rintro e w' ⟨x,Z',rfl,hv,hs,hz',ho⟩
  exact ⟨x,fun b=>Z b∨Z' b,rfl,fun ν=>(hv ν).mono ⟨fun _ h=>.inr h,fun _ _=>rfl,fun _ _ h=>h,eU.refl _⟩,hs,fun _ h=>.inl h,fun b hb=>hb.imp id (hz' b),ho⟩
theorem cH.wZ {P:Program} {f:FuncId} {vs:List V} {r t:V} {h':aH} (ht:∀ v∈vs,Tree v) (hc:cO P f vs [] r h') (hf:bZ h' r t):cH P f vs t:=by
  intro Z μ w xs hrel hz
  have hrel0:fE Z (fun _=>none) w.heap vs xs:=⟨hrel.1,fun i hi=>wW (hrel.2 i hi) (by
    simp only[List.getD_eq_getElem?_getD,List.getElem?_eq_getElem hi,Option.getD_some]
    exact ht _ (List.getElem_mem _))⟩
  have hr0:gG Z (fun _=>none) w.heap (cat [] fun _=>.dead):=by
    rw[Dh]
    exact ⟨fun _=>trivial,fun i j b o s o' s' _ h=>by simp at h,fun id b o s h=>by simp at h,hz,fun id b o s h=>by simp at h⟩
  refine (hc.2 Z _ _ w xs hrel0 hr0 (fun _ _ _=>rfl)).mono ?_
  rintro e w' ⟨x,Z',μ',rfl,hv,hh,hex,_⟩
  refine ⟨x,iu μ',rfl,fun ν=>Qo hh hf hv,hex.same,?_,fun b hb _=>hex.frame b hb (by rintro ⟨_,_,_,h⟩; simp at h)⟩
  rintro b ⟨id,o,s,hb⟩
  rcases hex.BE _ _ _ _ hb with h1 | ⟨_,h1 | ⟨_,_,_,h1⟩⟩
  · simp at h1
  · exact ⟨h1,hh.lt _ _ _ _ hb⟩
  · simp at h1
theorem cH.of {P:Program} {f:FuncId} {vs:List V} {t:V} (ht:∀ v∈vs,Tree v) (h:aC P f vs (fun _=>.dead) fun r H'=>∀ h':aH,h'.view=H'→bZ h' r t):cH P f vs t:=by
  obtain ⟨r,h',ha,_,hf⟩:=h.2 [] DQ
  exact cH.wZ ht ha (hf h' rfl)
theorem cO.Qb {P:Program} {f:FuncId} {ts vs:List V} {t:V} {h:aH} (hc:cH P f ts t) (hl:ts.length=vs.length)
    (hfr:∀ i,i < vs.length→Fr h (vs.getD i .any) (ts.getD i .any)):cO P f vs h t h:=by
  refine ⟨Nat.le_refl _,fun Z μ F w xs hrel hr hfree=>?_⟩
  have hts:fE (fun b=>Z b∨iu μ b) μ w.heap ts xs:=⟨by rw[hl,hrel.1],fun i hi=>Cb hr (hfr i (by omega)) (hrel.2 i (by omega))⟩
  have hzl:∀ b,(Z b∨iu μ b)→b < w.heap.size:=by
    rintro b (hb | ⟨id,o,s,hb⟩)
    · exact hr.cz b hb
    · exact hr.lt _ _ _ _ hb
  refine (hc _ μ w xs hts hzl).mono ?_
  rintro e w' ⟨x,Z',rfl,hv,hs,hz',ho⟩
  have hm:gv Z (fun b=>Z b∨Z' b) μ μ w.heap w'.heap:=⟨fun _ h=>.inl h,fun b hb=>ho b (hr.cz b hb) (fun x=>x),fun _ _ h=>h,ho.qG⟩
  refine ⟨x,fun b=>Z b∨Z' b,μ,rfl,(hv μ).mono ⟨fun _ h=>.inr h,fun _ _=>rfl,fun _ _ h=>h,eU.refl _⟩,⟨fun id=>(hr.obj id).mono hm rfl (fun b o s hx=>ho b (hr.lt _ _ _ _ hx) (fun x=>x)),hr.inj,fun id b o s hx=>Nat.lt_of_lt_of_le (hr.lt _ _ _ _ hx) hs.size,fun b hb=>?_,fun id b o s hx hzb=>?_⟩,
    ⟨hs,hm,fun b hb _=>ho b hb (fun x=>x),fun b hb=>hb.imp id (fun h=>(hz' b h).1),fun _ _ _ _ h=>.inl h⟩,fun _ _=>rfl⟩
  · rcases hb with hb | hb
    · exact Nat.lt_of_lt_of_le (hr.cz b hb) hs.size
    · exact (hz' b hb).2
  · rcases hzb with hb | hb
    · exact hr.gH _ _ _ _ hx hb
    · have:=hr.lt _ _ _ _ hx; have:=(hz' b hb).1; omega
noncomputable def nI (fz:V→Option V):List V→Option (List V)
  | []=>some []
  | v :: l=>match fz v,nI fz l with
    | some a,some b=>some (a :: b)
    | _,_=>none
noncomputable def Dg (fz:V→Option V):List (List V)→Option (List (List V))
  | []=>some []
  | v :: l=>match nI fz v,Dg fz l with
    | some a,some b=>some (a :: b)
    | _,_=>none
noncomputable def yZ (H:View):Nat→V→Option V
  | 0,_=>none
  | k+1,v=>match v with
    | .val x=>some (.val x)
    | .emp _=>some (.aX [])
    | .sl id off len _=>match H id with
      | .arr _ es=>if off+len≤es.length then (Dg (yZ H k) ((es.drop off).take len)).map .aX else none
      | _=>none
    | .agg cs=>(nI (yZ H k) cs).map .agg
    | .bf cs=>(nI (yZ H k) cs).map .bf
    | _=>none
theorem gE {fz:V→Option V} : ∀ (l l':List V),nI fz l=some l'→l'.length=l.length∧∀ i,i < l.length→fz (l.getD i .any)=some (l'.getD i .any)
  | [],l',h=>by simp only[nI,Option.some.injEq] at h; subst h; exact ⟨rfl,fun i hi=>by simp at hi⟩
  | v :: l,l',h=>by
    simp only[nI] at h
    split at h
    · rename_i a b h1 h2
      simp only[Option.some.injEq] at h; subst h
      obtain ⟨g1,g2⟩:=gE l b h2
      refine ⟨by simp[g1],fun i hi=>?_⟩
      cases i with
      | zero=>exact h1
      | succ i=>exact g2 i (by simpa using hi)
    · simp at h
theorem Db {fz:V→Option V} : ∀ (l l':List (List V)),Dg fz l=some l'→l'.length=l.length∧∀ i,i < l.length→nI fz (l.getD i [])=some (l'.getD i [])
  | [],l',h=>by simp only[Dg,Option.some.injEq] at h; subst h; exact ⟨rfl,fun i hi=>by simp at hi⟩
  | v :: l,l',h=>by
    simp only[Dg] at h
    split at h
    · rename_i a b h1 h2
      simp only[Option.some.injEq] at h; subst h
      obtain ⟨g1,g2⟩:=Db l b h2
      refine ⟨by simp[g1],fun i hi=>?_⟩
      cases i with
      | zero=>exact h1
      | succ i=>exact g2 i (by simpa using hi)
    · simp at h
theorem Jf (h:aH):∀ (k:Nat) (v t:V),yZ h.view k v=some t→bZ h v t
  | 0,v,t,hf=>by simp[yZ] at hf
  | k+1,v,t,hf=>by
    have ih:=Jf h k
    simp only[yZ] at hf
    split at hf
    · simp only[Option.some.injEq] at hf; subst hf; exact .val _
    · simp only[Option.some.injEq] at hf; subst hf; exact .emp _
    · rename_i id off len esz
      split at hf
      · rename_i z es hH
        split at hf
        · rename_i hle
          simp only[Option.map_eq_some_iff] at hf
          obtain ⟨es',he,rfl⟩:=hf
          obtain ⟨g1,g2⟩:=Db _ _ he
          have hlen:es'.length=len:=by rw[g1]; simp; omega
          have hg:∀ i,i < len→((es.drop off).take len).getD i []=es.getD (off+i) []:=fun i hi=>by
            simp[List.getD_eq_getElem?_getD,hi]
          have g3:∀ i,i < len→nI (yZ h.view k) (es.getD (off+i) [])=some (es'.getD i []):=fun i hi=>by
            rw[← hg i hi]; exact g2 i (by rw[← g1,hlen]; exact hi)
          exact .sl id off len esz z es es' hH hle hlen (fun i hi=>(gE _ _ (g3 i hi)).1) (fun i j hi hj=>ih _ _ ((gE _ _ (g3 i hi)).2 j (by rw[← (gE _ _ (g3 i hi)).1]; exact hj)))
        · simp at hf
      · simp at hf
    · simp only[Option.map_eq_some_iff] at hf
      obtain ⟨l,hl,rfl⟩:=hf
      obtain ⟨g1,g2⟩:=gE _ _ hl
      exact .agg _ _ g1 (fun i hi=>ih _ _ (g2 i hi))
    · simp only[Option.map_eq_some_iff] at hf
      obtain ⟨l,hl,rfl⟩:=hf
      obtain ⟨g1,g2⟩:=gE _ _ hl
      exact .bf _ _ g1 (fun i hi=>ih _ _ (g2 i hi))
    · simp at hf
noncomputable def PO:Option (V × ES)→Option V
  | some (v,e)=>yZ e.V 50 v
  | none=>none
noncomputable def vd (P:Program) (jj:List (FuncId × DF)) (ext:zd) (f:FuncId) (vs:List V):Option V :=
  PO (E5 P jj ext (HJ P jj ext 100000) f vs ⟨.nil,.nil,0,[]⟩)
theorem rB {P:Program} (hm:P.follows .mixedOrders=true) {jj:List (FuncId × DF)} {ext:zd} (ht:tW P jj) (hx:sX P ext) {f:FuncId} {vs:List V} {t:V} (hvs:∀ v∈vs,Tree v) (h:vd P jj ext f vs=some t) :
    cH P f vs t:=by
  unfold vd PO at h
  split at h
  · rename_i v e hr
    obtain ⟨h1,h',h2,h3,_⟩:=HF ht hx (IW hm ht hx 100000) f vs _ v e [] hr ⟨by funext k; rfl,rfl⟩
    rw[h3.1] at h
    exact cH.wZ hvs h2 (Jf h' 50 v t h)
  · simp at h
structure ay.dU (g:ay):Prop where
  ax:g.ax.length≤24
  Fe:1≤g.aA.length
  aA:g.aA.length≤16
  Th:1≤g.rules.length
  rules:g.rules.length≤40
  F9:0≤g.start
  start:g.start < g.aA.length
  left:∀ r∈g.rules,0≤r.left∧r.left < g.aA.length
  right:∀ r∈g.rules,r.right.length≤6
  sym:∀ r∈g.rules,∀ s∈r.right,lh g s=true
  prec:∀ r∈g.rules,-1≤r.prec∧r.prec < g.ax.length
theorem DM {g:ay} : ∀ (l:List cR) (top:Int),iO g l top=true→top≤(g.aA.length:Int) - 1∧∀ r∈l,0≤r.left∧r.left < g.aA.length∧iv g r=true
  | [],top,h=>by simp[iO] at h; exact ⟨by omega,fun r hr=>by simp at hr⟩
  | r :: l,top,h=>by
    simp only[iO,Bool.and_eq_true,decide_eq_true_eq] at h
    obtain ⟨⟨⟨h1,h2⟩,h3⟩,h4⟩:=h
    obtain ⟨k1,k2⟩:=DM l _ h4
    have h5:r.left≤(if r.left > top then r.left else top):=by split <;> omega
    have h6:top≤(if r.left > top then r.left else top):=by split <;> omega
    refine ⟨by omega,fun r' hr=>?_⟩
    rcases List.mem_cons.1 hr with rfl | hr
    · exact ⟨h1,by omega,h3⟩
    · exact k2 r' hr
theorem cn {g:ay} (h:bS g=true):g.dU:=by
  simp only[bS,kG,lv,Bool.and_eq_true,decide_eq_true_eq] at h
  obtain ⟨⟨⟨⟨⟨⟨⟨h1,_⟩,⟨h2,h3⟩,_⟩,h4⟩,h5⟩,h6⟩,h7⟩,h8⟩:=h
  have k:=(DM _ _ h8).2
  have hb:∀ r∈g.rules,r.right.length≤6∧-1≤r.prec∧r.prec < g.ax.length∧∀ s∈r.right,lh g s=true:=fun r hr=>by
    have:=(k r hr).2.2
    simp only[iv,Bool.and_eq_true,decide_eq_true_eq,List.all_eq_true,pb] at this
    exact ⟨this.1.1.1,this.1.1.2,this.1.2,fun s hs=>(this.2 s hs).1⟩
  exact ⟨h1,h2,h3,h4,h5,h6,h7,fun r hr=>⟨(k r hr).1,(k r hr).2.1⟩,fun r hr=>(hb r hr).1,fun r hr=>(hb r hr).2.2.2,fun r hr=>⟨(hb r hr).2.1,(hb r hr).2.2.1⟩⟩
theorem ay.dU.neg {g:ay} (h:g.dU) {r:cR} (hr:r∈g.rules) {s:Int} (hs:s∈r.right) (hn:s < 0) : -1 - s < g.aA.length:=by
  have:=h.sym r hr s hs
  simp only[lh] at this
  rw[if_neg (by omega)] at this
  simpa using this
theorem G5 (l:List Int) (is:List Bool) (t:Bool) (hl:aL l) (hs:∀ s∈l,bJ s∧(s < 0→-1 - s < is.length)):aD Tryz.prog 128 [encI l,dI is,gb t] (gb (nz l is t)) :=
  aD.val (by
    intro v hv; simp at hv
    rcases hv with rfl | rfl | rfl
    · exact cF _
    · exact pM _
    · exact .val _) (fun H=>(Rm l is t hl hs H).mono fun r H' h=>h.1)
abbrev iz (is:List Bool):List (List V):=is.map fun x=>[gb x]
theorem Em {h:aH} {id:Nat} {is:List Bool} (hv:h.view id=.arr 1 (iz is)):bZ h (.sl id 0 is.length 1) (dI is):=by
  refine .sl id 0 is.length 1 1 (iz is) _ hv (by simp) (by simp) (fun i hi=>by simp) (fun i j hi hj=>?_)
  rw[Nat.zero_add]
  have e:(iz is).getD i []=[gb is[i]]:=by simp[List.getD_eq_getElem?_getD,hi]
  rw[e] at hj ⊢
  have:j=0:=by simp at hj; omega
  subst this
  exact .val _
theorem J7 {H:View} {id n:Nat} {is:List Bool} (hv:H id=.arr 1 (iz is)) (hn:n=is.length):eL H (.sl id 0 n 1) (dI is):=by
  have ht:∀ e∈iz is,∀ v∈e,Tree v:=by
    intro e he v hv
    obtain ⟨a,_,rfl⟩:=List.mem_map.1 he
    rw[List.mem_singleton] at hv
    subst hv
    exact .val _
  have:=eL.sl (off:=0) (len:=n) (esz:=1) hv (by simp[hn]) ht
  rwa [List.drop_zero,List.take_of_length_le (by simp[hn])] at this
theorem pO {is:List Bool} {i:Nat} (h:i < is.length):(iz is).getD i []=[gb is[i]]:=by simp[List.getD_eq_getElem?_getD,h]
theorem tI (is:List Bool) (i:Nat) (b:Bool):(iz is).set i [gb b]=iz (is.set i b):=by simp[List.map_set]
theorem ET (n:Nat) (b:Bool):List.replicate n [gb b]=iz (List.replicate n b):=by simp
def iter {α:Type} (f:α→α):Nat→α→α
  | 0,x=>x
  | n+1,x=>iter f n (f x)
def qA (t:Bool) (is:List Bool) (r:cR):List Bool:=if nz r.right is t=true then is.set r.left.toNat true else is
def vS (g:ay) (t:Bool) (is:List Bool):List Bool:=g.rules.foldl (qA t) is
def gJ (g:ay):List Bool:=List.replicate g.aA.length false
def bm (g:ay) (t:Bool):List Bool:=if bS g=true then iter (vS g t) g.aA.length (gJ g) else []
theorem KZ (t:Bool) (is:List Bool) (r:cR):(qA t is r).length=is.length:=by unfold qA; split <;> simp
def mj:SC :=
  .seq (.seq (ak [aa 22 7,au 23 2 2,ao 24 23,aM 25 24,aR 26 .lss 22 25]) <|
  .cond (.tmp 26) (.skip) (.exit 2)) <|
  .seq (.block 3 (.seq (ak [au 29 2 2,ao 30 29,aa 31 7,aS 32 3 30 31,au 33 1 32,ao 34 33,aa 35 5,aa 36 1,aQ 37 128 [34,35,36]]) <|
  .cond (.tmp 37) (ak [aa 38 5,au 39 2 2,ao 40 39,aa 41 7,aS 42 3 40 41,au 43 0 42,ao 44 43,aS 45 1 38 44,(none,.op (.store 1 (.tmp 45) (.val (.val (.bool true)))))]) (.skip))) <|
  ak [aa 27 7,az 28 .add 27 1,aa 7 28]
def mh:SC :=
  .seq (.seq (ak [aa 15 6,au 16 1 2,ao 17 16,aM 18 17,aR 19 .lss 15 18]) <|
  .cond (.tmp 19) (.skip) (.exit 0)) <|
  .seq (.block 1 (.seq (ak [aI 7 0]) <|
  .block 2 (.loop mj))) <|
  ak [aa 20 6,az 21 .add 20 1,aa 6 21]
def oL:SF:=⟨.seq (ak [bW 2 0,((some 4),.op (.bo (.val (.emp 1))))]) <|
  .seq (.seq (ak [aO 8 4 2,aQ 9 66 [8],bX 10 9]) <|
  .cond (.tmp 10) (.seq (ak [((some 4),.op (.bo (.val (.emp 1))))]) <|
  .ret) (.skip)) <|
  .seq (ak [au 11 1 2,ao 12 11,aM 13 12,((some 14),.op (.make 1 1 [(.val (.bool false))] (.tmp 13) (.tmp 13))),aa 5 14]) <|
  .seq (.seq (ak [aI 6 0]) <|
  .block 0 (.loop mh)) <|
  .seq (ak [aa 46 5,aa 4 46]) <|
  .ret,
  [.tmp 4],47⟩
theorem uE:aY Tryz.prog 186 [2]=some oL:=by kernel_rfl
def lE:SF:=⟨.seq (ak [bW 1 0,((some 2),.op (.bo (.val (.emp 1))))]) <|
  .seq (ak [aO 3 4 1,cZ 4 186 [(.tmp 3),(.val (.val (.bool false)))],aa 2 4]) <|
  .ret,
  [.tmp 2],5⟩
theorem rC:aY Tryz.prog 196 [1]=some lE:=by kernel_rfl
def jY:SF:=⟨.seq (ak [bW 1 0,((some 2),.op (.bo (.val (.emp 1))))]) <|
  .seq (ak [aO 3 4 1,cZ 4 186 [(.tmp 3),(.val (.val (.bool true)))],aa 2 4]) <|
  .ret,
  [.tmp 2],5⟩
theorem qH:aY Tryz.prog 126 [1]=some jY:=by kernel_rfl
theorem OP (g:ay) (t:Bool):∀ v∈[V.agg (aw g),gb t],Tree v:=by
  intro v hv; simp at hv
  rcases hv with rfl | rfl
  · exact bL _ (bU g)
  · exact .val _
set_option maxHeartbeats 2000000 in
theorem OW (g:ay) (hg:g.Ok) (t:Bool) (H:View):aC Tryz.prog 186 [.agg (aw g),gb t] H fun r H'=>∀ h':aH,h'.view=H'→bZ h' r (dI (bm g t)):=by
  refine aC.of mixed uE ?_
  simp (disch:=omega) only [↓wr,↓reduceIte,wq,ah,Nat.reduceEqDiff,Nat.reduceAdd,Nat.reduceLeDiff,oL,aw,encS]
  refine aE.pure (iW g hg) (by kernel_rfl) ?_
  repeat' (first | (refine av.dec (fun _=>?_) (fun _=>?_)) | (refine av.eq (fun _=>?_) (fun _=>?_)) | (refine av.ne (fun _=>?_) (fun _=>?_)) | (refine av.split (fun _=>?_) (fun _=>?_)) | (simp (disch:=omega) only [↓wr,↓reduceIte,wq,aj,Nat.reduceEqDiff,Nat.reduceAdd,Nat.reduceLT,reduceCtorEq]))
  · rename_i hr
    have hf:=cn hr
    obtain ⟨hN1,hN2⟩:=And.intro hf.Fe hf.aA
    refine ⟨⟨by omega,by unfold aJ; omega,by unfold aJ; omega⟩,fun hz=>by omega,fun _ m hm=>?_⟩
    try simp (disch:=omega) only [↓wr,↓reduceIte,wq,ah,ag,aj,ab,ae,af,ai,isNil,Nat.reduceEqDiff,Nat.reduceAdd,Nat.reduceLT,Nat.reduceLeDiff,Int.reduceNeg,Int.reduceToNat,reduceCtorEq,aw,encS]
    refine ba.intro (fun k T H'=>∃ (i:Nat) (is:List Bool),i+k=g.aA.length∧is.length=g.aA.length∧iter (vS g t) k is=iter (vS g t) g.aA.length (gJ g)∧T 1=gb t∧T 2=.aT (aw g) 0∧T 5=.sl m 0 g.aA.length 1∧H' m=.arr 1 (iz is)∧T 6=gi i) g.aA.length ?_ ?_
    · refine ⟨0,gJ g,by omega,by simp[gJ],rfl,?_⟩
      simp (disch:=omega) only [↓wr,↓reduceIte,wq,Nat.reduceEqDiff,aw,encS]
      exact ⟨by rw[ET]; rfl,rfl⟩
    · rintro k T H' ⟨i,is,hk,hlen,hi,f1,f2,f5,fm,f6⟩
      simp (disch:=omega) only [↓wr,↓reduceIte,wq,ag,aj,Nat.reduceEqDiff,Nat.reduceAdd,Nat.reduceLT,reduceCtorEq,mh,f2,f6,aw,encS]
      refine av.dec (fun hc=>?_) (fun hc=>?_)
      · simp (disch:=omega) only [↓wr,wq]
        refine ba.intro (fun k' T H'=>∃ (j:Nat) (is':List Bool),j+k'=g.rules.length∧is'.length=g.aA.length∧(g.rules.drop j).foldl (qA t) is'=vS g t is∧T 1=gb t∧T 2=.aT (aw g) 0∧T 5=.sl m 0 g.aA.length 1∧H' m=.arr 1 (iz is')∧T 6=gi i∧T 7=gi j) g.rules.length ?_ ?_
        · refine ⟨0,is,by omega,hlen,rfl,?_⟩
          simp (disch:=omega) only [↓wr,↓reduceIte,wq,Nat.reduceEqDiff,f1,f2,f5,f6,fm,aw,encS]
          rfl
        · rintro k' T' H'' ⟨j,is',hk',hlen',hj,e1,e2,e5,em,e6,e7⟩
          simp (disch:=omega) only [↓wr,↓reduceIte,wq,ag,aj,Nat.reduceEqDiff,Nat.reduceAdd,Nat.reduceLT,mj,e2,e7,aw]
          refine av.dec (fun hd=>?_) (fun hd=>?_)
          · have hle:=hf.rules
            have hg2:g.rules[j]?=some (g.rules[j]'(by omega)):=List.getElem?_eq_getElem (by omega)
            rw[dJ (show j < g.rules.length by omega)] at hj
            have hmem:g.rules[j]'(by omega)∈g.rules:=List.getElem_mem _
            generalize g.rules[j]'(by omega)=r at hg2 hj hmem
            simp only[List.foldl_cons] at hj
            obtain ⟨hl1,hl2⟩:=hf.left r hmem
            obtain ⟨_,_,hs1,hs2⟩:=hg.aP r hmem
            have hall:=G5 r.right is' t hs1 (fun s hs=>⟨hs2 s hs,fun hn=>by have:=hf.neg hmem hs hn; omega⟩)
            simp (disch:=omega) only [↓wr,↓reduceIte,wq,Nat.reduceEqDiff,Nat.reduceAdd,Nat.reduceLT,e1,e2,e5,e7,aw,encS,bP,List.getElem?_map,hg2]
            refine aE.borrow hall (by kernel_rfl) (.val _) rfl (fun q hq=>?_) ?_
            · match q,hq with
              | 0,_=>exact eL.tree (cF _)
              | 1,_=>exact J7 em hlen'.symm
              | 2,_=>exact eL.tree (.val _)
            · simp (disch:=omega) only [↓wr,↓reduceIte,wq]
              refine av.split (fun ha=>?_) (fun ha=>?_)
              · have hst:qA t is' r=is'.set r.left.toNat true:=by rw[qA,if_pos ha]
                simp (disch:=omega) only [↓wr,↓reduceIte,wq,ag,ab,Nat.reduceEqDiff,Nat.reduceAdd,Nat.reduceLT,Nat.reduceLeDiff,reduceCtorEq,e1,e2,e5,e6,e7,em,aw,encS,bP,List.getElem?_map,hg2,pO (show r.left.toNat < is'.length by omega)]
                rw[hst] at hj
                exact ⟨by omega,by omega,k' - 1,by omega,j+1,is'.set r.left.toNat true,by omega,by simp[hlen'],hj,by rw[tI],rfl⟩
              · have hst:qA t is' r=is':=by rw[qA,if_neg (by rw[ha]; simp)]
                rw[hst] at hj
                simp (disch:=omega) only [↓wr,↓reduceIte,wq,ag,Nat.reduceEqDiff,reduceCtorEq,e1,e2,e5,e6,e7]
                exact ⟨k' - 1,by omega,j+1,is',by omega,hlen',hj,by first | rfl | exact ⟨rfl,rfl⟩ | exact ⟨em,rfl⟩ | exact ⟨rfl,em,rfl⟩⟩
          · rw[List.drop_eq_nil_of_le (by omega),List.foldl_nil] at hj
            simp (disch:=omega) only [↓wr,↓reduceIte,wq,Nat.reduceEqDiff,reduceCtorEq,e1,e2,e5,e6]
            obtain ⟨q,rfl⟩:∃ q,k=q+1:=⟨k - 1,by omega⟩
            exact ⟨q,by omega,i+1,is',by omega,hlen',by rw[hj]; exact hi,rfl,em,rfl⟩
      · simp (disch:=omega) only [↓wr,↓reduceIte,wq,Nat.reduceEqDiff,reduceCtorEq,f5]
        have:k=0:=by omega
        subst this
        rintro h' rfl
        simp only[bm,if_pos hr,← hi,iter]
        rw[← hlen]
        exact Em fm
  · rename_i hr
    rintro h' rfl
    simp only[bm,hr]
    exact .emp 1
theorem Gw (g:ay) (hg:g.Ok) (t:Bool):cH Tryz.prog 186 [.agg (aw g),gb t] (dI (bm g t)):=cH.of (OP g t) (OW g hg t _)
theorem E0 (g:ay) (hg:g.Ok) (H:View):aC Tryz.prog 196 [.agg (aw g)] H fun r H'=>r=dI (bm g false)∧H'=H:=by
  refine aC.of mixed rC ?_
  simp (disch:=omega) only [↓wr,↓reduceIte,wq,ah,Nat.reduceEqDiff,Nat.reduceAdd,Nat.reduceLeDiff,lE,aw,encS]
  refine aE.pure (Gw g hg false).pure (by kernel_rfl) ?_
  simp (disch:=omega) only [↓wr,↓reduceIte,wq,reduceCtorEq]
theorem xB (g:ay) (hg:g.Ok):aD Tryz.prog 196 [.agg (aw g)] (dI (bm g false)) :=
  aD.of (fY g) ((E0 g hg _).mono fun r H' h h' _=>by rw[h.1]; exact .tree _ (pM _))
theorem Bu (g:ay) (hg:g.Ok) (H:View):aC Tryz.prog 126 [.agg (aw g)] H fun r H'=>r=dI (bm g true)∧H'=H:=by
  refine aC.of mixed qH ?_
  simp (disch:=omega) only [↓wr,↓reduceIte,wq,ah,Nat.reduceEqDiff,Nat.reduceAdd,Nat.reduceLeDiff,jY,aw,encS]
  refine aE.pure (Gw g hg true).pure (by kernel_rfl) ?_
  simp (disch:=omega) only [↓wr,↓reduceIte,wq,reduceCtorEq]
theorem tB (g:ay) (hg:g.Ok):aD Tryz.prog 126 [.agg (aw g)] (dI (bm g true)) :=
  aD.of (fY g) ((Bu g hg _).mono fun r H' h h' _=>by rw[h.1]; exact .tree _ (pM _))
def mark (is:List Bool) (s:Int):List Bool:=if s < 0 then is.set (-1 - s).toNat true else is
def nb (p is:List Bool) (r:cR):List Bool:=if (is.getD r.left.toNat false && nz r.right p true)=true then r.right.foldl mark is else is
def yw (g:ay) (p is:List Bool):List Bool:=g.rules.foldl (nb p) is
def fv (g:ay):List Bool:=if bS g=true then iter (yw g (bm g true)) g.aA.length ((gJ g).set g.start.toNat true) else []
theorem Ow (is:List Bool) (s:Int):(mark is s).length=is.length:=by unfold mark; split <;> simp
theorem DG:∀ (l:List Int) (is:List Bool),(l.foldl mark is).length=is.length
  | [],_=>rfl
  | s :: l,is=>by rw[List.foldl_cons,DG l,Ow]
theorem LQ (p is:List Bool) (r:cR):(nb p is r).length=is.length:=by unfold nb; split <;> simp[DG]
theorem AG {f:List Bool→List Bool} (hf:∀ is,(f is).length=is.length):∀ (n:Nat) (is:List Bool),(iter f n is).length=is.length
  | 0,_=>rfl
  | n+1,is=>by rw[iter,AG hf n,hf]
theorem AI {α:Type} {f:List Bool→α→List Bool} (hf:∀ is x,(f is x).length=is.length):∀ (l:List α) (is:List Bool),(l.foldl f is).length=is.length
  | [],_=>rfl
  | x :: l,is=>by rw[List.foldl_cons,AI hf l,hf]
theorem pB {g:ay} (h:bS g=true) (t:Bool):(bm g t).length=g.aA.length:=by
  have hl:∀ is,(vS g t is).length=is.length:=fun is=>AI (KZ t) _ _
  rw[bm,if_pos h,AG hl]
  simp[gJ]
def jA:SC :=
  .seq (.seq (.region false [⟨none,[aa 41 8,au 42 1 7,ao 43 42,aM 44 43,aR 45 .lss 41 44,aa 46 45]⟩,⟨(some (46,true)),[aa 47 4,au 48 0 7,ao 49 48,aS 50 1 47 49,ao 51 50]⟩,⟨none,[bF 52 46 51,aa 53 52]⟩,⟨(some (53,true)),[au 54 1 7,ao 55 54,aa 56 3,cZ 57 128 [(.tmp 55),(.tmp 56),(.val (.val (.bool true)))]]⟩,⟨none,[bF 58 53 57]⟩]) <|
  .cond (.tmp 58) (.skip) (.exit 4)) <|
  .seq (.block 5 (.seq (ak [au 61 1 7,ao 62 61,aa 63 8,aS 64 1 62 63,ao 65 64,az 66 .lss 65 0]) <|
  .cond (.tmp 66) (ak [aa 67 4,au 68 1 7,ao 69 68,aa 70 8,aS 71 1 69 70,ao 72 71,((some 73),.op (.arith .sub (.val (.val (.int .i64 (-1)))) (.tmp 72))),aS 74 1 67 73,(none,.op (.store 1 (.tmp 74) (.val (.val (.bool true)))))]) (.skip))) <|
  ak [aa 59 8,az 60 .add 59 1,aa 8 60]
def jy:SC :=
  .seq (.seq (ak [aa 29 6,au 30 2 1,ao 31 30,aM 32 31,aR 33 .lss 29 32]) <|
  .cond (.tmp 33) (.skip) (.exit 2)) <|
  .seq (.block 3 (.seq (ak [au 36 2 1,ao 37 36,aa 38 6,aS 39 3 37 38,aO 40 3 39,((some 7),.op (.alloc [(.val (.int .i64 0)),(.emp 1),(.val (.int .i64 0))])),(none,.op (.store 3 (.tmp 7) (.tmp 40)))]) <|
  .seq (ak [aI 8 0]) <|
  .block 4 (.loop jA))) <|
  ak [aa 34 6,az 35 .add 34 1,aa 6 35]
def jM:SC :=
  .seq (.seq (ak [aa 22 5,au 23 1 1,ao 24 23,aM 25 24,aR 26 .lss 22 25]) <|
  .cond (.tmp 26) (.skip) (.exit 0)) <|
  .seq (.block 1 (.seq (ak [aI 6 0]) <|
  .block 2 (.loop jy))) <|
  ak [aa 27 5,az 28 .add 27 1,aa 5 28]
def kW:SF:=⟨.seq (ak [bW 1 0,((some 2),.op (.bo (.val (.emp 1))))]) <|
  .seq (.seq (ak [aO 9 4 1,aQ 10 66 [9],bX 11 10]) <|
  .cond (.tmp 11) (.seq (ak [((some 2),.op (.bo (.val (.emp 1))))]) <|
  .ret) (.skip)) <|
  .seq (ak [aO 12 4 1,aQ 13 126 [12],aa 3 13]) <|
  .seq (ak [au 14 1 1,ao 15 14,aM 16 15,((some 17),.op (.make 1 1 [(.val (.bool false))] (.tmp 16) (.tmp 16))),aa 4 17]) <|
  .seq (ak [aa 18 4,au 19 3 1,ao 20 19,aS 21 1 18 20,(none,.op (.store 1 (.tmp 21) (.val (.val (.bool true)))))]) <|
  .seq (.seq (ak [aI 5 0]) <|
  .block 0 (.loop jM)) <|
  .seq (ak [aa 75 4,aa 2 75]) <|
  .ret,
  [.tmp 2],76⟩
theorem qO:aY Tryz.prog 127 [1]=some kW:=by kernel_rfl
theorem OI {l:List Bool} {i j:Nat} (h:l.getD j false=true):(l.set i true).getD j false=true:=by
  simp only[List.getD_eq_getElem?_getD,List.getElem?_set] at h ⊢
  by_cases e:i=j
  · subst e
    by_cases hi:i < l.length
    · simp[hi]
    · rw[List.getElem?_eq_none (by omega)] at h; simp at h
  · rw[if_neg e]; exact h
theorem Oz {H:View} {m n:Nat} {o:cU} (hm:H m=o) (hn:H n=.dead) (ho:o≠.dead):m≠n:=by rintro rfl; exact ho (hm.symm.trans hn)
set_option maxHeartbeats 4000000 in
theorem Dl (g:ay) (hg:g.Ok) (H:View):aC Tryz.prog 127 [.agg (aw g)] H fun r H'=>∀ h':aH,h'.view=H'→bZ h' r (dI (fv g)):=by
  refine aC.of mixed qO ?_
  simp (disch:=omega) only [↓wr,↓reduceIte,wq,ah,Nat.reduceEqDiff,Nat.reduceAdd,Nat.reduceLeDiff,kW,aw,encS]
  refine aE.pure (iW g hg) (by kernel_rfl) ?_
  repeat' (first | (refine av.dec (fun _=>?_) (fun _=>?_)) | (refine av.eq (fun _=>?_) (fun _=>?_)) | (refine av.ne (fun _=>?_) (fun _=>?_)) | (refine av.split (fun _=>?_) (fun _=>?_)) | (simp (disch:=omega) only [↓wr,↓reduceIte,wq,Nat.reduceEqDiff,Nat.reduceAdd,Nat.reduceLeDiff,reduceCtorEq]))
  · rename_i hr
    have hf:=cn hr
    obtain ⟨hN1,hN2⟩:=And.intro hf.Fe hf.aA
    refine aE.pure (tB g hg) (by kernel_rfl) ?_
    have hpl:=pB hr true
    have hreach:fv g=iter (yw g (bm g true)) g.aA.length ((gJ g).set g.start.toNat true):=by rw[fv,if_pos hr]
    generalize bm g true=p at hpl hreach
    have hst:=hf.F9
    have hst2:=hf.start
    have hrep:List.replicate g.aA.length [V.val (Value.bool false)]=iz (gJ g):=ET _ _
    have hnl:(gJ g).length=g.aA.length:=by simp[gJ]
    simp (disch:=omega) only [↓wr,↓reduceIte,wq,aj,ab,Nat.reduceEqDiff,Nat.reduceAdd,Nat.reduceLT,Nat.reduceLeDiff]
    refine ⟨⟨by omega,by unfold aJ; omega,by unfold aJ; omega⟩,fun hz=>by omega,fun _ m hm=>?_⟩
    rw[hrep]
    have hgs:(iz (gJ g)).getD g.start.toNat []=[gb ((gJ g)[g.start.toNat]'(by omega))]:=pO (by omega)
    simp (disch:=omega) only [wq]
    refine ⟨by omega,by omega,?_⟩
    refine ba.intro (fun k T H'=>∃ (i:Nat) (is:List Bool),i+k=g.aA.length∧is.length=g.aA.length∧iter (yw g p) k is=fv g∧T 1=.aT (aw g) 0∧T 3=dI p∧T 4=.sl m 0 g.aA.length 1∧H' m=.arr 1 (iz is)∧T 5=gi i) g.aA.length ?_ ?_
    · refine ⟨0,(gJ g).set g.start.toNat true,by omega,by simp[hnl],hreach.symm,?_⟩
      simp (disch:=omega) only [↓wr,↓reduceIte,wq,Nat.reduceEqDiff,aw,encS]
      rw[hgs]
      exact ⟨by rw[← tI]; rfl,rfl⟩
    · rintro k T H' ⟨i,is,hk,hlen,hi,f1,f3,f4,fm,f5⟩
      simp (disch:=omega) only [↓wr,↓reduceIte,wq,ag,aj,Nat.reduceEqDiff,Nat.reduceAdd,Nat.reduceLT,reduceCtorEq,jM,f1,f5,aw,encS]
      refine av.dec (fun hc=>?_) (fun hc=>?_)
      · simp (disch:=omega) only [↓wr,wq]
        refine ba.intro (fun k' T H'=>∃ (j:Nat) (is':List Bool),j+k'=g.rules.length∧is'.length=g.aA.length∧(g.rules.drop j).foldl (nb p) is'=yw g p is∧T 1=.aT (aw g) 0∧T 3=dI p∧T 4=.sl m 0 g.aA.length 1∧H' m=.arr 1 (iz is')∧T 5=gi i∧T 6=gi j) g.rules.length ?_ ?_
        · refine ⟨0,is,by omega,hlen,rfl,?_⟩
          simp (disch:=omega) only [↓wr,↓reduceIte,wq,Nat.reduceEqDiff,f1,f3,f4,f5,fm,aw,encS]
          first | done | exact ⟨rfl,rfl⟩ | rfl
        · rintro k' T' H'' ⟨j,is',hk',hlen',hj,e1,e3,e4,em,e5,e6⟩
          simp (disch:=omega) only [↓wr,↓reduceIte,wq,ag,aj,Nat.reduceEqDiff,Nat.reduceAdd,Nat.reduceLT,jy,e1,e6,aw]
          refine av.dec (fun hd=>?_) (fun hd=>?_)
          · have hle:=hf.rules
            have hg2:g.rules[j]?=some (g.rules[j]'(by omega)):=List.getElem?_eq_getElem (by omega)
            rw[dJ (show j < g.rules.length by omega)] at hj
            have hmem:g.rules[j]'(by omega)∈g.rules:=List.getElem_mem _
            generalize g.rules[j]'(by omega)=r at hg2 hj hmem
            simp only[List.foldl_cons] at hj
            obtain ⟨hl1,hl2⟩:=hf.left r hmem
            obtain ⟨_,_,hs1,hs2⟩:=hg.aP r hmem
            have hr6:=hf.right r hmem
            have hall:=G5 r.right p true hs1 (fun s hs=>⟨hs2 s hs,fun hn=>by have:=hf.neg hmem hs hn; omega⟩)
            simp (disch:=omega) only [↓wr,↓reduceIte,wq,ab,Nat.reduceEqDiff,Nat.reduceAdd,Nat.reduceLT,Nat.reduceLeDiff,e1,e6,aw,encS,bP,encI,List.getElem?_map,hg2]
            intro b hb
            have hne:m≠b:=Oz em hb (by simp)
            try simp (disch:=omega) only [↓wr,↓reduceIte,wq,ah,ag,aj,ab,ae,af,ai,isNil,Nat.reduceEqDiff,Nat.reduceAdd,Nat.reduceLT,Nat.reduceLeDiff,Int.reduceNeg,Int.reduceToNat,reduceCtorEq,e1,e3,e4,e5,e6,aw,encS,bP,encI]
            refine ba.intro (fun q T H'=>∃ (a:Nat) (is3:List Bool),a+q=r.right.length∧is3.length=g.aA.length∧(r.right.drop a).foldl mark is3=r.right.foldl mark is'∧((a=0∧is3=is')∨((is'.getD r.left.toNat false && nz r.right p true)=true∧is3.getD r.left.toNat false=true)) ∧
              T 1=.aT (aw g) 0∧T 3=dI p∧T 4=.sl m 0 g.aA.length 1∧H' m=.arr 1 (iz is3)∧T 5=gi i∧T 6=gi j∧T 7=.ptr b 0 0∧H' b=.arr 3 [bP r]∧T 8=gi a) r.right.length ?_ ?_
            · refine ⟨0,is',by omega,hlen',rfl,.inl ⟨rfl,rfl⟩,?_⟩
              simp (disch:=omega) only [↓wr,↓reduceIte,wq,Nat.reduceEqDiff,Nat.reduceAdd,e1,e3,e4,e5,e6,em,hne,aw,encS,bP]
              exact ⟨rfl,rfl⟩
            · rintro q T3 H3 ⟨a,is3,hq,hlen3,ha,hcase,d1,d3,d4,dm,d5,d6,d7,db,d8⟩
              simp (disch:=omega) only [↓wr,↓reduceIte,wq,ag,aj,Nat.reduceEqDiff,Nat.reduceAdd,Nat.reduceLT,Int.reduceNeg,jA,d7,d8,db,bP,encI]
              have hgl:is3[r.left.toNat]?=some (is3[r.left.toNat]'(by omega)):=List.getElem?_eq_getElem (by omega)
              have hgl2:is3.getD r.left.toNat false=is3[r.left.toNat]'(by omega):=by simp[List.getD_eq_getElem?_getD,hgl]
              have hbg:=pO (show r.left.toNat < is3.length by omega)
              have hoff:(is'.getD r.left.toNat false && nz r.right p true)=false→nb p is' r=is3:=fun hW=>by
                rcases hcase with ⟨_,rfl⟩ | ⟨h1,_⟩
                · rw[nb,hW]; rfl
                · rw[hW] at h1; simp at h1
              generalize is3[r.left.toNat]'(by omega)=tl at hgl hgl2 hbg
              refine av.dec (fun ht=>?_) (fun ht=>?_)
              · have hg3:r.right[a]?=some (r.right[a]'(by omega)):=List.getElem?_eq_getElem (by omega)
                rw[dJ (show a < r.right.length by omega)] at ha
                have hms:r.right[a]'(by omega)∈r.right:=List.getElem_mem _
                generalize r.right[a]'(by omega)=s at hg3 ha hms
                simp only[List.foldl_cons] at ha
                have hin:=hs2 s hms
                simp (disch:=omega) only [↓wr,↓reduceIte,wq,Nat.reduceEqDiff,Nat.reduceAdd,Nat.reduceLT,Int.reduceNeg,d4,d7,db,dm,bP,encI,hbg]
                refine ⟨by omega,by omega,?_⟩
                refine av.split (fun htl=>?_) (fun htl=>?_)
                · simp (disch:=omega) only [↓wr,↓reduceIte,wq,Nat.reduceEqDiff,Nat.reduceAdd,Nat.reduceLT,Int.reduceNeg,d3,d7,db,bP,encI]
                  refine aE.pure hall (by kernel_rfl) ?_
                  simp (disch:=omega) only [↓wr,↓reduceIte,wq,Nat.reduceEqDiff,Int.reduceNeg]
                  refine av.split (fun hal=>?_) (fun hal=>?_)
                  · simp (disch:=omega) only [↓wr,↓reduceIte,wq,ag,Nat.reduceEqDiff,Nat.reduceAdd,Nat.reduceLT,Int.reduceNeg,d7,d8,db,bP,encI,List.getElem?_map,hg3]
                    have hW:(is'.getD r.left.toNat false && nz r.right p true)=true∧is3.getD r.left.toNat false=true:=by
                      rcases hcase with ⟨_,rfl⟩ | h1
                      · exact ⟨by rw[hgl2,htl,hal]; rfl,by rw[hgl2,htl]⟩
                      · exact h1
                    refine av.dec (fun hsn=>?_) (fun hsn=>?_)
                    · have hng:=hf.neg hmem hms hsn
                      have hin1:=hin.1
                      have hms2:mark is3 s=is3.set (-1 - s).toNat true:=by rw[mark,if_pos hsn]
                      simp (disch:=omega) only [↓wr,↓reduceIte,wq,ag,ab,Nat.reduceEqDiff,Nat.reduceAdd,Nat.reduceLT,Nat.reduceLeDiff,Int.reduceNeg,reduceCtorEq,d1,d3,d4,d5,d6,d7,d8,db,dm,bP,encI,List.getElem?_map,hg3,pO (show (-1 - s).toNat < is3.length by omega),hne.symm]
                      rw[hms2] at ha
                      exact ⟨by omega,by omega,q - 1,by omega,a+1,is3.set (-1 - s).toNat true,by omega,by simp[hlen3],ha,.inr ⟨hW.1,OI hW.2⟩,by rw[tI],by first | rfl | exact ⟨rfl,rfl⟩⟩
                    · have hms2:mark is3 s=is3:=by rw[mark,if_neg hsn]
                      rw[hms2] at ha
                      simp (disch:=omega) only [↓wr,↓reduceIte,wq,ag,Nat.reduceEqDiff,reduceCtorEq,d1,d3,d4,d5,d6,d7,d8,db,dm]
                      exact ⟨q - 1,by omega,a+1,is3,by omega,hlen3,ha,.inr hW,by first | rfl | exact ⟨rfl,rfl⟩ | exact ⟨rfl,rfl,rfl⟩⟩
                  · simp (disch:=omega) only [↓wr,↓reduceIte,wq,Nat.reduceEqDiff,reduceCtorEq,d1,d3,d4,d5,d6,dm]
                    have hst:=hoff (by rw[hal,Bool.and_false])
                    exact ⟨k' - 1,by omega,j+1,is3,by omega,hlen3,by rw[← hst]; exact hj,rfl,rfl,rfl⟩
                · simp (disch:=omega) only [↓wr,↓reduceIte,wq,Nat.reduceEqDiff,Int.reduceNeg,reduceCtorEq,d1,d3,d4,d5,d6,dm]
                  have hst:nb p is' r=is3:=by
                    rcases hcase with ⟨_,rfl⟩ | ⟨_,h1⟩
                    · rw[nb,hgl2,htl]; rfl
                    · rw[hgl2,htl] at h1; simp at h1
                  exact ⟨k' - 1,by omega,j+1,is3,by omega,hlen3,by rw[← hst]; exact hj,rfl,rfl,rfl⟩
              · simp (disch:=omega) only [↓wr,↓reduceIte,wq,Nat.reduceEqDiff,Int.reduceNeg,reduceCtorEq,d1,d3,d4,d5,d6,dm]
                rw[List.drop_eq_nil_of_le (by omega),List.foldl_nil] at ha
                have hst:nb p is' r=is3:=by
                  rcases hcase with ⟨h0,rfl⟩ | ⟨h1,_⟩
                  · unfold nb
                    split
                    · exact ha.symm
                    · rfl
                  · rw[nb,if_pos h1]; exact ha.symm
                exact ⟨k' - 1,by omega,j+1,is3,by omega,hlen3,by rw[← hst]; exact hj,rfl,rfl,rfl⟩
          · rw[List.drop_eq_nil_of_le (by omega),List.foldl_nil] at hj
            simp (disch:=omega) only [↓wr,↓reduceIte,wq,Nat.reduceEqDiff,reduceCtorEq,e1,e3,e4,e5]
            obtain ⟨q,rfl⟩:∃ q,k=q+1:=⟨k - 1,by omega⟩
            exact ⟨q,by omega,i+1,is',by omega,hlen',by rw[hj]; exact hi,rfl,em,rfl⟩
      · simp (disch:=omega) only [↓wr,↓reduceIte,wq,Nat.reduceEqDiff,reduceCtorEq,f4]
        have:k=0:=by omega
        subst this
        rintro h' rfl
        simp only[← hi,iter]
        rw[← hlen]
        exact Em fm
  · rename_i hr
    rintro h' rfl
    simp only[fv,hr]
    exact .emp 1
theorem CL (g:ay) (hg:g.Ok):cH Tryz.prog 127 [.agg (aw g)] (dI (fv g)):=cH.of (fY g) (Dl g hg _)
def zU:DF:=⟨.seq (aB [aZ 2 false]) <|
  .seq (.region [] [⟨none,[aa 3 0,aQ 4 164 [3],aa 5 4]⟩,⟨(some (5,false)),[aa 6 0,((some 7),.op (.arith .eql (.tmp 6) (.val (.val (.int .u8 46)))))]⟩,⟨none,[bB 8 5 7,aa 9 8]⟩,⟨(some (9,false)),[aa 10 0,((some 11),.op (.arith .geq (.tmp 10) (.val (.val (.int .u8 48))))),aa 12 11]⟩,⟨(some (12,true)),[aa 13 0,((some 14),.op (.arith .leq (.tmp 13) (.val (.val (.int .u8 57)))))]⟩,⟨(some (9,false)),[bF 15 12 14]⟩,⟨none,[bB 16 9 15,aa 2 16]⟩]) <|
  .ret,
  [.tmp 2],17⟩
theorem CY:bM Tryz.prog 165 []=some zU:=by kernel_rfl
def zi:DF:=⟨.seq (aB [aZ 2 false]) <|
  .seq (.region [] [⟨none,[aa 3 0,((some 4),.op (.arith .eql (.tmp 3) (.val (.val (.int .u8 95))))),aa 5 4]⟩,⟨(some (5,false)),[aa 6 0,((some 7),.op (.arith .or (.tmp 6) (.val (.val (.int .u8 32))))),((some 8),.op (.arith .geq (.tmp 7) (.val (.val (.int .u8 97))))),aa 9 8]⟩,⟨(some (9,true)),[aa 10 0,((some 11),.op (.arith .or (.tmp 10) (.val (.val (.int .u8 32))))),((some 12),.op (.arith .leq (.tmp 11) (.val (.val (.int .u8 122)))))]⟩,⟨(some (5,false)),[bF 13 9 12]⟩,⟨none,[bB 14 5 13,aa 2 14]⟩]) <|
  .ret,
  [.tmp 2],15⟩
theorem BA:bM Tryz.prog 164 []=some zi:=by kernel_rfl
def z6:DF:=⟨.seq (aB [aZ 2 false]) <|
  .seq (.region [] [⟨none,[aa 3 0,((some 4),.op (.arith .geq (.tmp 3) (.val (.val (.int .u8 32))))),aa 5 4]⟩,⟨(some (5,true)),[aa 6 0,((some 7),.op (.arith .leq (.tmp 6) (.val (.val (.int .u8 126)))))]⟩,⟨none,[bF 8 5 7,aa 9 8]⟩,⟨(some (9,true)),[aa 10 0,((some 11),.op (.arith .neq (.tmp 10) (.val (.val (.int .u8 39)))))]⟩,⟨none,[bF 12 9 11,aa 13 12]⟩,⟨(some (13,true)),[aa 14 0,((some 15),.op (.arith .neq (.tmp 14) (.val (.val (.int .u8 92)))))]⟩,⟨none,[bF 16 13 15,aa 2 16]⟩]) <|
  .ret,
  [.tmp 2],17⟩
theorem C6:bM Tryz.prog 261 []=some z6:=by kernel_rfl
def xJ:DF:=⟨.seq (aB [aZ 2 false]) <|
  .seq (.region [] [⟨none,[aa 3 0,((some 4),.op (.arith .eql (.tmp 3) (.val (.val (.int .u8 110))))),aa 5 4]⟩,⟨(some (5,false)),[aa 6 0,((some 7),.op (.arith .eql (.tmp 6) (.val (.val (.int .u8 116)))))]⟩,⟨none,[bB 8 5 7,aa 9 8]⟩,⟨(some (9,false)),[aa 10 0,((some 11),.op (.arith .eql (.tmp 10) (.val (.val (.int .u8 92)))))]⟩,⟨none,[bB 12 9 11,aa 13 12]⟩,⟨(some (13,false)),[aa 14 0,((some 15),.op (.arith .eql (.tmp 14) (.val (.val (.int .u8 39)))))]⟩,⟨none,[bB 16 13 15,aa 2 16]⟩]) <|
  .ret,
  [.tmp 2],17⟩
theorem A3:bM Tryz.prog 262 []=some xJ:=by kernel_rfl
def vO:List (FuncId × DF):=[(165,zU),(164,zi),(261,z6),(262,xJ)]
theorem tv:tW Tryz.prog vO:=by
  intro p hp
  simp only[vO,List.mem_cons,List.not_mem_nil,or_false] at hp
  rcases hp with rfl | rfl | rfl | rfl
  · exact ⟨_,CY⟩
  · exact ⟨_,BA⟩
  · exact ⟨_,C6⟩
  · exact ⟨_,A3⟩
theorem PT (P:Program):sX P (fun _ _ _=>none):=fun _ _ _ _ h=>by simp at h
def RF (o:Option V) (b:Bool):Bool:=match o with
  | some (.val (.bool c))=>c == b
  | _=>false
theorem Rz {o:Option V} {b:Bool} (h:RF o b=true):o=some (gb b):=by
  unfold RF at h
  split at h
  · rw[beq_iff_eq] at h; rw[h]
  · simp at h
noncomputable def yI (jj:List (FuncId × DF)) (f:FuncId) (p:Int→Bool):Bool:=(List.range 256).all fun c=>RF (vd Tryz.prog jj (fun _ _ _=>none) f [gy (c:Int)]) (p (c:Int))
theorem wM {jj:List (FuncId × DF)} (ht:tW Tryz.prog jj) {f:FuncId} {p:Int→Bool} (h:yI jj f p=true) (c:Int) (h0:0≤c) (h1:c≤255):aD Tryz.prog f [gy c] (gb (p c)):=by
  have:=List.all_eq_true.1 h c.toNat (by simp; omega)
  rw[show ((c.toNat:Nat):Int)=c by omega] at this
  exact (rB mixed ht (PT _) (by intro v hv; simp at hv; subst hv; exact .val _) (Rz this)).pure
def yH (c:Int):Bool:=decide (32≤c) && decide (c≤126) && c != 39 && c != 92
def CF (c:Int):Bool:=c == 110 || c == 116 || c == 92 || c == 39
theorem Lc:yI vO 164 vi=true:=by kernel_rfl
theorem Lx:yI vO 165 nN=true:=by kernel_rfl
theorem Lu:yI vO 261 yH=true:=by kernel_rfl
theorem QO:yI vO 262 CF=true:=by kernel_rfl
theorem DZ {s:ByteArray} {c:Int} (h:c∈eS s):0≤c∧c≤255:=by
  unfold eS at h
  obtain ⟨b,_,rfl⟩:=List.mem_map.1 h
  have:=b.toNat_lt
  omega
theorem NU (s:ByteArray):fO s=(eS s).map fun x=>[gy x]:=by simp[fO,eS]
end Gv
