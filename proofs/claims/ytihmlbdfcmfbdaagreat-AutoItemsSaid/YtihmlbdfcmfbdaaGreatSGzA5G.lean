/-
  Part 7 of the proof: what the machine does and what the functions answer.
  Conditions: those that each lemma names.
-/
import Derived.Test.YtihmlbdfcmfbdaaGreatSGzA5F
set_option linter.unusedSimpArgs false
set_option linter.unusedVariables false
set_option maxRecDepth 100000
namespace Gv
open Go Go.Proofs
section
variable {P:Program} {n:Nat} {all:List Oper}
def gz (h:aD) (e:ES):Prop:=e.V=h.view∧e.n=h.length
def Calm (e e':ES) (h h':aD):Prop:=h.length≤h'.length∧(∀ id,id < h.length→¬ id∈e'.w→h'.view id=h.view id∧¬ id∈e.w)
theorem Calm.trans {a b c:ES} {h1 h2 h3:aD} (x:Calm a b h1 h2) (y:Calm b c h2 h3):Calm a c h1 h3 :=
  ⟨Nat.le_trans x.1 y.1,fun id hid hw =>
    let ⟨e1,d1⟩:=y.2 id (Nat.lt_of_lt_of_le hid x.1) hw
    let ⟨e2,d2⟩:=x.2 id hid d1
    ⟨e1.trans e2,d2⟩⟩
theorem Calm.refl (e:ES) (h:aD):Calm e e h h:=⟨Nat.le_refl _,fun _ _ hw=>⟨rfl,hw⟩⟩
def iQ (P:Program) (call:fS):Prop:=∀ g vs e v e' h,call g vs e=some (v,e')→gz h e →
  cM P g=true∧∃ h',bw P g vs h v h'∧gz h' e'∧(∀ id,id < h.length→¬ id∈e'.w→h'.view id=h.view id)∧∀ id,id∈e'.w→id < h.length
def tx (P:Program) (run:tB):Prop:=∀ (n:Nat) (fz:List Nat) (c:Code) (sc:DC),gI P n fz c=some sc→n≤8000→∀ (e e':ES) (r:Exit) (h:aD),run sc e=some (r,e')→gz h e →
  ∃ h',cb P n c e.T h r e'.T h'∧gz h' e'∧Calm e e' h h'∧∀ c0,c=.loop c0→mN P n c0 e.T h r e'.T h'
theorem Jo {h:aD} {e:ES} {d:Option Nat} {v:V} (he:gz h e):gz h (e.put d v):=by cases d <;> exact he
theorem LI {e:ES} {d:Option Nat} {v:V} : (e.put d v).w=e.w:=by cases d <;> rfl
theorem Lj {h:aD} {e e':ES} {h':aD} {d:Option Nat} {v:V} (x:Calm e e' h h'):Calm e (e'.put d v) h h':=⟨x.1,fun id hid hw=>x.2 id hid (by rw[LI] at hw; exact hw)⟩
theorem yZ {a:Nat} (h:Nat.ble a 8000=true):a+1 < 2 ^ 13:=by
  have:=Nat.le_of_ble_eq_true h
  omega
theorem Mm {h:aD} {e e':ES} {v v':V} {eff:bb} {rd:List Nat} {c:Rec} (he:gz h e) (hx:CS v eff rd e=some (v',e',c)) :
    v'=v∧e'.T=e.T∧e'.V=eff.view h.view h.length∧e'.n=(eff.apply h).length∧c=⟨rd,eff.wr,false,h.length,(eff.apply h).length⟩∧e'.w=eff.wr ++ e.w:=by
  obtain ⟨h1,h2⟩:=he
  unfold CS at hx
  cases eff with
  | none =>
    simp only[Option.some.injEq,Prod.mk.injEq] at hx
    obtain ⟨rfl,rfl,rfl⟩:=hx
    exact ⟨rfl,rfl,h1,h2,by rw[h2]; rfl,rfl⟩
  | new o =>
    simp only at hx
    split at hx
    · rename_i hb
      simp only[Option.some.injEq,Prod.mk.injEq] at hx
      obtain ⟨rfl,rfl,rfl⟩:=hx
      refine ⟨rfl,rfl,?_,by simp[fc,h2],by simp[fc,h2,bb.wr],rfl⟩
      funext k
      simp only[ES.V,bb.view,View.set]
      rw[bS.kM _ _ _ _ _ _ (yZ hb),h2]
      have:=congrFun h1 k
      simp only[ES.V] at this
      rw[this]
    · simp at hx
  | eF id o =>
    simp only at hx
    split at hx
    · rename_i hb
      simp only[Option.some.injEq,Prod.mk.injEq] at hx
      obtain ⟨rfl,rfl,rfl⟩:=hx
      refine ⟨rfl,rfl,?_,by simp[fc,h2],by simp[fc,h2,bb.wr],rfl⟩
      funext k
      simp only[ES.V,bb.view,View.set]
      rw[bS.kM _ _ _ _ _ _ (yZ hb)]
      have:=congrFun h1 k
      simp only[ES.V] at this
      rw[this]
    · simp at hx
  | bk id o =>
    simp only at hx
    split at hx
    · rename_i hb1 hb2
      simp only[Option.some.injEq,Prod.mk.injEq] at hx
      obtain ⟨rfl,rfl,rfl⟩:=hx
      refine ⟨rfl,rfl,?_,by simp[fc,h2],by simp[fc,h2,bb.wr],rfl⟩
      funext k
      simp only[ES.V,bb.view,View.set]
      rw[bS.kM _ _ _ _ _ _ (yZ hb1),bS.kM _ _ _ _ _ _ (yZ hb2),h2]
      have:=congrFun h1 k
      simp only[ES.V] at this
      rw[this]
    · simp at hx
theorem MK {o:Oper} {e e':ES} {h:aD} {s:SI} {v:V} {c:Rec} (hg:cH n all e.T o=some true) (hc:∀ v eff rd,sI P s e.T h.view h.length=some (v,eff,rd)→bO P o e.T h.view h.length=some (v,eff,rd))
    (he:gz h e) (hx:HF P s e=some (v,e',c)):∃ h',cZ P n all o e.T h v h' c.rd c.wr c.call∧gz h' e'∧e'.T=e.T∧Calm e e' h h'∧iP (qo P s) c.rd c.wr c.call h.length h'.length∧c.lo=h.length∧c.hi=h'.length:=by
  unfold HF at hx
  rw[Hc,he.1,he.2] at hx
  split at hx
  · rename_i v0 eff rd hs
    obtain ⟨rfl,g1,g2,g3,rfl,g5⟩:=Mm he hx
    have ha:=hc _ _ _ hs
    have st:=cZ.op (P:=P) (n:=n) (all:=all) hg ha
    refine ⟨eff.apply h,st,⟨?_,g3⟩,g1,⟨qm st,fun id hid hw=>?_⟩,⟨fun h0=>?_,fun h1=>?_⟩,rfl,rfl⟩
    · rw[ju (fun id hid=>(kh ha id hid).1)]; exact g2
    · rw[g5] at hw
      simp only[List.mem_append,not_or] at hw
      exact ⟨oN st hid hw.1,hw.2⟩
    · obtain ⟨rfl,rfl⟩:=(oT hs).1 h0
      exact ⟨rfl,rfl,rfl,rfl⟩
    · rcases Nat.lt_or_ge (qo P s) 1 with h2 | h2
      · obtain ⟨rfl,rfl⟩:=(oT hs).1 (by omega); rfl
      · exact (oT hs).2 (by omega)
  · simp at hx
theorem Nw {call:fS} (hcall:iQ P call) {fz:Fz} {o:Oper} {e e':ES} {h:aD} {v:V} {c:Rec} (hg:cH n all e.T o=some true) (he:gz h e) (hx:eB P call (lk P fz o) e=some (v,e',c)) :
    ∃ h',cZ P n all o e.T h v h' c.rd c.wr c.call∧gz h' e'∧e'.T=e.T∧Calm e e' h h'∧iP (gH P false (lk P fz o)) c.rd c.wr c.call h.length h'.length∧c.lo=h.length∧c.hi=h'.length:=by
  rcases wj P fz o with ⟨f,args,ats,ho,hc⟩ | ⟨t,x,ho,hc⟩ | ⟨s,d,x,ho,hcv,hc⟩ | hc
  · rw[hc] at hx ⊢
    simp only[eB,Jx] at hx
    split at hx
    · rename_i g first cap hf
      rw[CN] at hx
      rw[SX.bX] at hf
      split at hx
      · rename_i v0 e0 hv
        obtain ⟨hok,h',hr,hek,hd,hd2⟩:=hcall _ _ _ _ _ _ hv he
        simp only[Option.some.injEq,Prod.mk.injEq] at hx
        obtain ⟨rfl,rfl,rfl⟩:=hx
        exact ⟨h',.call hg ho hf hok hr hd hd2,hek,rfl,⟨hr.1,fun id hid hw=>by
          simp only[List.mem_append,not_or] at hw
          exact ⟨hd id hid hw.1,hw.2⟩⟩,Lv (by simp[gH]),he.2,hek.2⟩
      · simp at hx
    · simp at hx
  · rw[hc] at hx ⊢
    simp only[eB,HF,Hc,sI,SX.bX] at hx
    split at hx
    · rename_i v0 eff rd hs
      split at hs
      · rename_i hok
        simp only[Option.some.injEq,Prod.mk.injEq] at hs
        obtain ⟨rfl,rfl,rfl⟩:=hs
        simp only[CS,Option.some.injEq,Prod.mk.injEq] at hx
        obtain ⟨rfl,rfl,rfl⟩:=hx
        exact ⟨h,.gL hg ho hok,he,rfl,Calm.refl _ _,⟨fun _=>⟨rfl,rfl,rfl,rfl⟩,fun _=>rfl⟩,he.2,he.2⟩
      · simp at hs
    · simp at hx
  · rw[hc] at hx ⊢
    obtain ⟨ty,h1,h2,h3⟩:=wE hcv
    simp only[eB,HF,Hc,sI,SX.bX] at hx
    split at hx
    · rename_i v0 eff rd hs
      split at hs
      · rename_i st hst
        simp only[Option.some.injEq,Prod.mk.injEq] at hs
        obtain ⟨rfl,rfl,rfl⟩:=hs
        simp only[CS,Option.some.injEq,Prod.mk.injEq] at hx
        obtain ⟨rfl,rfl,rfl⟩:=hx
        exact ⟨h,.eR hg ho h1 h2 h3 hst,he,rfl,Calm.refl _ _,⟨fun _=>⟨rfl,rfl,rfl,rfl⟩,fun _=>rfl⟩,he.2,he.2⟩
      · simp at hs
    · simp at hx
  · rw[hc] at hx ⊢
    exact MK (s:=uu P fz.fr (comp P o)) hg (fun v eff rd hs=>E7 (E6 hs)) he hx
theorem M6 {o:Oper} (hd:oC n o=true) (hn:n≤8000):∀ t,o.dst=some t→t < 8000:=by
  intro t ht
  unfold oC at hd
  rw[ht] at hd
  have:t < n:=by simpa using hd
  exact Nat.lt_of_lt_of_le this hn
theorem Mr {c:Rec} {a b:Nat} (h1:c.lo=a) (h2:c.hi=b):c=⟨c.rd,c.wr,c.call,a,b⟩:=by cases c; subst h1; subst h2; rfl
theorem Cq {call:fS} (hcall:iQ P call) (hn:n≤8000) {fz:Fz} (g:Option (Nat × Bool)):∀ (l:List (Option Nat × SB)) (os:List Oper) (e e':ES) (h:aD) (a a':List Rec),
    cT P n all fz os=some (l.map fun (d,b)=>⟨d,g,b⟩)→(∀ d w,g=some (d,w)→e.T d=.val (.bool w)∧(l.all fun x=>x.1 != some d)=true)→gz h e→EY P call l a e=some (e',a') →
    ∃ recs h',a'=a ++ recs∧Tr P n all os e.T h recs e'.T h'∧gz h' e'∧Calm e e' h h'∧eN P false (l.map fun (d,b)=>⟨d,g,b⟩) recs
  | [],os,e,e',h,a,a',hc,hg,he,hx=>by
    have:=js hc; subst this
    simp only[EY,Option.some.injEq,Prod.mk.injEq] at hx; obtain ⟨rfl,rfl⟩:=hx
    exact ⟨[],h,by simp,.nil,he,Calm.refl _ _,.nil⟩
  | (d,b) :: l,os,e,e',h,a,a',hc,hg,he,hx=>by
    obtain ⟨o,r,rfl,h1,h2⟩:=j0 hc
    obtain ⟨hd,hd1,hb1,hg1⟩:=qu h1
    simp only at hd1 hb1 hg1
    have hgv:cH n all e.T o=some true:=by
      cases g with
      | none=>exact yj hg1
      | some p =>
        obtain ⟨d',w⟩:=p
        have:=(jl (T:=e.T) hg1).1 w (hg d' w rfl).1
        rw[this]; simp
    simp only[EY] at hx
    rw[hb1] at hx
    split at hx
    · rename_i v e1 c hv
      obtain ⟨h1',st,he1,hT1,hcm,hl,hlo,hhi⟩:=Nw hcall hgv he hv
      have hput:(e1.put d v).T=e.T.put o.dst v:=by
        rw[ES.LF (by rw[hd1]; exact M6 hd hn),hT1,hd1]
      obtain ⟨recs,h'',ha,tr,he2,hcm2,hro⟩:=Cq hcall hn g l r (e1.put d v) e' h1' _ a' h2 (fun d' w eq=>by
        have:=hg d' w eq
        simp only[List.all_cons,Bool.and_eq_true,bne_iff_ne,ne_eq] at this
        refine ⟨?_,this.2.2⟩
        rw[← this.1,hput,← hd1]
        cases d with
        | none=>rfl
        | some t=>simp only[Env.put]; rw[if_neg]; intro e; subst e; exact this.2.1 rfl) (Jo he1) hx
      rw[hput] at tr
      refine ⟨_,h'',?_,.cons st hd tr,he2,(Lj hcm).trans hcm2,hro.cons (by rw[hb1]; exact hl)⟩
      rw[ha,List.append_assoc,← Mr hlo hhi]; rfl
    · simp at hx
theorem DI {fz:Fz} (hn:n≤8000) (d:Nat) (w:Bool) (h:aD):∀ (l:List (Option Nat × SB)) (os:List Oper) (e e':ES) (a a':List Rec),
    cT P n all fz os=some (l.map fun (d',b)=>⟨d',some (d,w),b⟩)→(e.T d=.val (.bool !w)∨e.T d=.bg [])→(l.all fun x=>x.1 != some d)=true→gz h e→sw l a e=(e',a') →
    ∃ recs,a'=a ++ recs∧Tr P n all os e.T h recs e'.T h∧gz h e'∧e'.w=e.w∧eN P false (l.map fun (d',b)=>⟨d',some (d,w),b⟩) recs
  | [],os,e,e',a,a',hc,hd,hl,he,hx=>by
    have:=js hc; subst this
    simp only[sw,Prod.mk.injEq] at hx; obtain ⟨rfl,rfl⟩:=hx
    exact ⟨[],by simp,.nil,he,rfl,.nil⟩
  | (d',b) :: l,os,e,e',a,a',hc,hd,hl,he,hx=>by
    obtain ⟨o,r,rfl,h1,h2⟩:=j0 hc
    obtain ⟨hd0,hd1,hb1,hg1⟩:=qu h1
    simp only at hd1 hb1 hg1
    have hgv:cH n all e.T o=some false:=by
      rcases hd with hd | hd
      · rw[(jl (T:=e.T) hg1).1 _ hd]; cases w <;> rfl
      · exact (jl (T:=e.T) hg1).2 hd
    simp only[List.all_cons,Bool.and_eq_true,bne_iff_ne,ne_eq] at hl
    have hput:(e.put d' (.bg [])).T=e.T.put o.dst (.bg []):=by
      rw[ES.LF (by rw[hd1]; exact M6 hd0 hn),hd1]
    simp only[sw] at hx
    obtain ⟨recs,ha,tr,he2,hd2,hro⟩:=DI hn d w h l r (e.put d' (.bg [])) e' _ a' h2 (by
      have:(e.put d' (.bg [])).T d=e.T d:=by
        rw[hput,← hd1]
        cases d' with
        | none=>rfl
        | some t=>simp only[Env.put]; rw[if_neg]; intro e; subst e; exact hl.1 rfl
      rw[this]; exact hd) hl.2 (Jo he) hx
    rw[hput] at tr
    refine ⟨_,?_,Tr.cons (.skip hgv) hd0 tr,he2,by rw[hd2,LI],hro.cons (r:=⟨[],[],false,h.length,h.length⟩) ⟨fun _=>⟨rfl,rfl,rfl,rfl⟩,fun _=>rfl⟩⟩
    rw[ha,List.append_assoc,LK,he.2]; rfl
theorem AU {fz:Fz} (hn:n≤8000) {d:Nat} {w:Bool} {h:aD} {l:List (Option Nat × SB)} {os:List Oper} {e e':ES} {a a':List Rec}
    (hc:cT P n all fz os=some (l.map fun (d',b)=>⟨d',some (d,w),b⟩)) (hd:e.T d=.val (.bool !w)∨e.T d=.bg []) (hl:(l.all fun x=>x.1 != some d)=true) (he:gz h e) (hx:sw l a e=(e',a')) :
    ∃ recs h',a'=a ++ recs∧Tr P n all os e.T h recs e'.T h'∧gz h' e'∧Calm e e' h h'∧eN P false (l.map fun (d',b)=>⟨d',some (d,w),b⟩) recs:=by
  obtain ⟨recs,h1,h2,h3,h4,h5⟩:=DI hn d w h l os e e' a a' hc hd hl he hx
  exact ⟨recs,h,h1,h2,h3,⟨Nat.le_refl _,fun id _ hw=>⟨rfl,by rw[h4] at hw; exact hw⟩⟩,h5⟩
theorem NK {call:fS} (hcall:iQ P call) (hn:n≤8000) {fz:Fz} {g:SG} {os:List Oper} {e e':ES} {h:aD} {a a':List Rec} (hc:cT P n all fz os=some g.flat) (hok:qq g=true) (he:gz h e) (hx:eG P call g a e=some (e',a')) :
    ∃ recs h',a'=a ++ recs∧Tr P n all os e.T h recs e'.T h'∧gz h' e'∧Calm e e' h h'∧eN P false g.flat recs:=by
  unfold eG at hx
  unfold SG.flat at hc ⊢
  unfold qq at hok
  split at hx
  · rename_i hg
    rw[hg] at hc ⊢
    exact Cq hcall hn none g.ops os e e' h a a' hc (fun d w e=>by simp at e) he hx
  · rename_i d want hg
    rw[hg] at hc hok ⊢
    simp only at hok
    unfold Jr at hx
    split at hx
    · rename_i b hb
      split at hx
      · rename_i hxor
        simp only[Option.some.injEq] at hx
        have e':b = !want:=by cases b <;> cases want <;> simp_all
        subst e'
        exact AU hn hc (.inl hb) hok he hx
      · rename_i hxor
        have e':b=want:=by cases b <;> cases want <;> simp_all
        subst e'
        exact Cq hcall hn (some (d,b)) g.ops os e _ h a a' hc (fun d' w e=>by simp at e; obtain ⟨rfl,rfl⟩:=e; exact ⟨hb,hok⟩) he hx
    · rename_i hb
      simp only[Option.some.injEq] at hx
      exact AU hn hc (.inr hb) hok he hx
    · simp at hx
theorem IV {call:fS} (hcall:iQ P call) (hn:n≤8000) {fz:Fz} : ∀ (gs:List SG) (os:List Oper) (e e':ES) (h:aD) (a a':List Rec),cT P n all fz os=some (iF gs)→gs.all qq=true→gz h e→HW P call gs a e=some (e',a') →
    ∃ recs h',a'=a ++ recs∧Tr P n all os e.T h recs e'.T h'∧gz h' e'∧Calm e e' h h'∧eN P false (iF gs) recs
  | [],os,e,e',h,a,a',hc,_,he,hx=>by
    have:=js hc; subst this
    simp only[HW,Option.some.injEq,Prod.mk.injEq] at hx; obtain ⟨rfl,rfl⟩:=hx
    exact ⟨[],h,by simp,.nil,he,Calm.refl _ _,.nil⟩
  | g :: gs,os,e,e',h,a,a',hc,hok,he,hx=>by
    simp only[iF,List.map_cons,List.flatten_cons] at hc ⊢
    simp only[List.all_cons,Bool.and_eq_true] at hok
    obtain ⟨o1,o2,rfl,h1,h2⟩:=nW hc
    simp only[HW] at hx
    split at hx
    · rename_i e1 a1 hx1
      obtain ⟨r1,h1',ha1,tr1,he1,hc1,ro1⟩:=NK hcall hn h1 hok.1 he hx1
      obtain ⟨r2,h2',ha2,tr2,he2,hc2,ro2⟩:=IV hcall hn gs o2 e1 e' h1' a1 a' h2 hok.2 he1 hx
      exact ⟨_,h2',by rw[ha2,ha1,List.append_assoc],tr1.append tr2,he2,hc1.trans hc2,ro1.append ro2⟩
    · simp at hx
theorem JV {ls:List Nat} {i k x y:Nat} (hik:i < k) (hx:ls[i]?=some x) (hy:ls[k]?=some y) (ho:ordered (ej all []) i k=false) (h:¬ (x=0∨y=0∨(x≤1∧y≤1))):(i,k)∈zd all ls:=by
  unfold zd
  simp only[List.mem_flatten,List.mem_map]
  refine ⟨_,⟨(x,i),by rw[List.mem_zipIdx_iff_getElem?]; exact hx,rfl⟩,?_⟩
  simp only[List.mem_map,List.mem_filter]
  refine ⟨(y,k),⟨by rw[List.mem_zipIdx_iff_getElem?]; exact hy,?_⟩,rfl⟩
  simp only[hik,decide_true,ho,Bool.false_or,Bool.true_and,Bool.not_eq_true',Bool.or_eq_false_iff,beq_eq_false_iff_ne,Bool.and_eq_false_iff,decide_eq_false_iff_not]
  omega
theorem Kg {ls:List Nat} {recs:List Rec} (h:I1 recs (zd all ls)=true) (hl:ls.length=recs.length) (hr:∀ (i x:Nat) (r:Rec),ls[i]?=some x→recs[i]?=some r→iP x r.rd r.wr r.call r.lo r.hi):qY all recs:=by
  intro i k a b hik ha hb ho
  have hi:i < recs.length:=(List.getElem?_eq_some_iff.1 ha).1
  have hk:k < recs.length:=(List.getElem?_eq_some_iff.1 hb).1
  have hx:ls[i]?=some (ls[i]'(by omega)):=List.getElem?_eq_getElem (by omega)
  have hy:ls[k]?=some (ls[k]'(by omega)):=List.getElem?_eq_getElem (by omega)
  generalize ls[i]'(by omega)=x at hx
  generalize ls[k]'(by omega)=y at hy
  have la:=hr i _ a hx ha
  have lb:=hr k _ b hy hb
  by_cases hc:x=0∨y=0∨(x≤1∧y≤1)
  · rcases hc with h1 | h1 | h1
    · obtain ⟨e1,e2,e3,e4⟩:=la.1 h1
      exact ⟨fun id hid=>by simp[e2] at hid,fun id _=>by simp[e1],fun hc=>by simp[e3] at hc,fun _=>e2,fun id _ hx=>by omega⟩
    · obtain ⟨e1,e2,e3,e4⟩:=lb.1 h1
      exact ⟨fun id _=>by simp[e1],fun id hid=>by simp[e2] at hid,fun _=>e2,fun hc=>by simp[e3] at hc,fun id hid=>by simp[e2] at hid⟩
    · have e1:=la.2 h1.1
      have e2:=lb.2 h1.2
      exact ⟨fun id hid=>by simp[e1] at hid,fun id hid=>by simp[e2] at hid,fun _=>e2,fun _=>e1,fun id hid=>by simp[e2] at hid⟩
  · have:=List.all_eq_true.1 h _ (JV hik hx hy ho hc)
    simp only[ha,hb] at this
    exact JW this
theorem L1 (hm:P.follows .mixedOrders=true) {call:fS} (hcall:iQ P call) (hn:n≤8000) {fz:List Nat} {id:Nat} {ops:Array Oper} {draw:Bool} {sc:DC} {run:tB} {e e':ES} {r:Exit} {h:aD}
    (hc:D2 P n fz ops.toList draw=some sc) (he:gz h e) (hx:j3 P call run sc e=some (r,e')) :
    ∃ h',cb P n (.region id ops draw) e.T h r e'.T h'∧gz h' e'∧Calm e e' h h':=by
  unfold D2 at hc
  split at hc
  · simp at hc
  · rename_i l hl
    split at hc
    · simp at hc
    · rename_i hok
      have hok:(group l).all qq=true:=by simpa using hok
      have hl':cT P n ops.toList ⟨fz,false⟩ ops.toList=some (iF (group l)):=by rw[eZ]; exact hl
      have key:∀ ps,j3 P call run (.region ps (group l)) e=some (r,e')→(draw=true→jU ops.toList=true∧ps=zd ops.toList (l.map fun s=>gH P false s.b)) →
          ∃ h',cb P n (.region id ops draw) e.T h r e'.T h'∧gz h' e'∧Calm e e' h h':=by
        intro ps hx hdr
        simp only[j3,FG] at hx
        split at hx
        · rename_i e1 recs0 hx1
          split at hx
          · rename_i hchk
            simp only[Option.some.injEq,Prod.mk.injEq] at hx
            obtain ⟨rfl,rfl⟩:=hx
            obtain ⟨recs,h',ha,tr,hk,hcm,hro⟩:=IV hcall hn (group l) ops.toList e e1 h [] recs0 hl' hok he hx1
            simp only[List.nil_append] at ha
            subst ha
            rw[eZ] at hro
            refine ⟨h',?_,hk,hcm⟩
            cases hd:draw with
            | false=>simpa using Ee (id:=id) tr
            | true =>
              obtain ⟨h1,rfl⟩:=hdr hd
              have hcf:qY ops.toList recs0:=Kg hchk (by simpa using hro.1) (fun i x r hx hr=>by
                simp only[List.getElem?_map,Option.map_eq_some_iff] at hx
                obtain ⟨s,hs,rfl⟩:=hx
                exact hro.2 i s r hs hr)
              simpa using u7 hm (id:=id) tr h1 hcf
          · simp at hx
        · simp at hx
      split at hc
      · rename_i hd
        split at hc
        · rename_i ht
          simp at hc; subst hc
          exact key _ hx (fun _=>⟨ht,rfl⟩)
        · simp at hc
      · rename_i hd
        simp at hc; subst hc
        exact key _ hx (fun e=>absurd e hd)
theorem Kn (hm:P.follows .mixedOrders=true) {call:fS} (hcall:iQ P call) {run:tB} (hrun:tx P run):tx P (j3 P call run):=by
  intro n fz c sc hc hn e e' r h hx he
  cases c with
  | skip =>
    simp[gI] at hc; subst hc
    simp only[j3,J2,Option.some.injEq,Prod.mk.injEq] at hx
    obtain ⟨rfl,rfl⟩:=hx
    exact ⟨h,.skip,he,Calm.refl _ _,fun _ h=>by simp at h⟩
  | region id ops draw =>
    obtain ⟨h',a,b,d⟩:=L1 (id:=id) hm hcall hn hc he hx
    exact ⟨h',a,b,d,fun _ h=>by simp at h⟩
  | seq x y =>
    simp only[gI] at hc
    split at hc
    · rename_i a b h1 h2
      simp at hc; subst hc
      simp only[j3,MN] at hx
      split at hx
      · rename_i e1 hx1
        obtain ⟨h1',x1,he1,c1,l1⟩:=hrun n fz x a h1 hn e e1 .normal h hx1 he
        obtain ⟨h2',x2,he2,c2,l2⟩:=hrun n fz y b h2 hn e1 e' r h1' hx he1
        exact ⟨h2',x1.seq x2,he2,c1.trans c2,fun _ h=>by simp at h⟩
      · rename_i hne
        obtain ⟨h1',x1,he1,c1,l1⟩:=hrun n fz x a h1 hn e e' r h hx he
        refine ⟨h1',x1.F0 (fun e=>?_),he1,c1,fun _ h=>by simp at h⟩
        subst e
        exact absurd hx (hne e')
    · simp at hc
  | cond cc x y =>
    simp only[gI] at hc
    split at hc
    · rename_i a b h1 h2
      simp at hc; subst hc
      simp only[j3,LV,SX.bX] at hx
      split at hx
      · rename_i ht
        obtain ⟨h1',x1,he1,c1,l1⟩:=hrun n fz x a h1 hn e e' r h hx he
        exact ⟨h1',.cond ht x1,he1,c1,fun _ h=>by simp at h⟩
      · rename_i ht
        obtain ⟨h1',x1,he1,c1,l1⟩:=hrun n fz y b h2 hn e e' r h hx he
        exact ⟨h1',.cond ht x1,he1,c1,fun _ h=>by simp at h⟩
      · simp at hx
    · simp at hc
  | block id c =>
    simp only[gI,Option.map_eq_some_iff] at hc
    obtain ⟨a,h1,rfl⟩:=hc
    simp only[j3,HT] at hx
    split at hx
    · rename_i r1 e1 hx1
      simp only[Option.some.injEq,Prod.mk.injEq] at hx
      obtain ⟨rfl,rfl⟩:=hx
      obtain ⟨h1',x1,he1,c1,l1⟩:=hrun n fz c a h1 hn e e1 r1 h hx1 he
      exact ⟨h1',x1.block,he1,c1,fun _ h=>by simp at h⟩
    · simp at hx
  | loop c =>
    have hc0:=hc
    simp only[gI,Option.map_eq_some_iff] at hc
    obtain ⟨a,h1,rfl⟩:=hc
    simp only[j3,LL] at hx
    split at hx
    · rename_i e1 hx1
      obtain ⟨h1',x1,he1,c1,l1⟩:=hrun n fz c a h1 hn e e1 .normal h hx1 he
      obtain ⟨h2',x2,he2,c2,l2⟩:=hrun n fz (.loop c) (.loop a) hc0 hn e1 e' r h1' hx he1
      have hL:=mN.step x1 (l2 c rfl)
      exact ⟨h2',.loop hL,he2,c1.trans c2,fun c0 h0=>by simp only[Code.loop.injEq] at h0; subst h0; exact hL⟩
    · rename_i hne
      obtain ⟨h1',x1,he1,c1,l1⟩:=hrun n fz c a h1 hn e e' r h hx he
      have hL:=mN.out x1 (fun e=>by subst e; exact absurd hx (hne e'))
      exact ⟨h1',.loop hL,he1,c1,fun c0 h0=>by simp only[Code.loop.injEq] at h0; subst h0; exact hL⟩
  | exit id =>
    simp[gI] at hc; subst hc
    simp only[j3,Option.some.injEq,Prod.mk.injEq] at hx
    obtain ⟨rfl,rfl⟩:=hx
    exact ⟨h,.exit,he,Calm.refl _ _,fun _ h=>by simp at h⟩
  | ret =>
    simp[gI] at hc; subst hc
    simp only[j3,Option.some.injEq,Prod.mk.injEq] at hx
    obtain ⟨rfl,rfl⟩:=hx
    exact ⟨h,.ret,he,Calm.refl _ _,fun _ h=>by simp at h⟩
  | _=>simp[gI] at hc
theorem BM:∀ (vs:List V) (i:Nat) (t:bS V),i+vs.length≤8000→∀ k,(ky vs i t).get .any k=if i≤k∧k < i+vs.length then vs.getD (k - i) .any else t.get .any k
  | [],i,t,h,k=>by
    rw[ky,if_neg (by simp only[List.length_nil]; omega)]
  | v :: vs,i,t,h,k=>by
    simp only[List.length_cons] at h
    rw[ky,BM vs (i+1) _ (by omega),bS.kM _ _ _ _ _ _ (by simp only[deep]; omega)]
    simp only[List.length_cons]
    by_cases h1:k=i
    · subst h1; rw[if_neg (by omega),if_pos rfl,if_pos (by omega)]; simp
    · by_cases h2:i+1≤k∧k < i+1+vs.length
      · rw[if_pos h2,if_pos (by omega)]
        have:k - i=(k - (i+1))+1:=by omega
        rw[this]; rfl
      · rw[if_neg h2,if_neg h1,if_neg (by omega)]
theorem Ew (vs:List V) (h:vs.length≤8000):(ky vs 0 .nil).get .any=jy vs:=by
  funext k
  rw[BM vs 0 .nil (by omega)]
  simp only[jy,Nat.zero_le,true_and,Nat.zero_add,Nat.sub_zero]
  split
  · rfl
  · rename_i hk
    rw[List.getD_eq_getElem?_getD,List.getElem?_eq_none (by omega)]; rfl
theorem MD {e:ES} {h:aD} {r:ResultVar} {rest:List ResultVar} {l:List SR} (he:gz h e) (hc:er P (r :: rest)=some l):∃ s l',l=s :: l'∧er P rest=some l'∧∀ v,Lf s e=some v→oV P e.T h r=some v:=by
  cases r with
  | tmp t =>
    simp only[er,Option.map_eq_some_iff] at hc
    obtain ⟨l',h1,rfl⟩:=hc
    exact ⟨.tmp t,l',rfl,h1,fun v hv=>hv⟩
  | cell a t =>
    simp only[er] at hc
    split at hc
    · rename_i k l' h1 h2
      simp at hc; subst hc
      refine ⟨.cell a k,l',rfl,h2,fun v hv=>?_⟩
      simp only[Lf] at hv
      simp only[oV,j1,sB h1]
      rw[he.1] at hv
      split at hv
      · rename_i id i j ha
        split at hv
        · rename_i es hH
          split at hv
          · rename_i hlt
            rw[ha]; simp only[hH]; rw[if_pos hlt,hv]; rfl
          · simp at hv
        · simp at hv
      · rename_i e j ha
        rw[ha]; simp only; rw[hv]; rfl
      · simp at hv
    · simp at hc
theorem Ec {e:ES} {h:aD} (he:gz h e):∀ (rs:List ResultVar) (l:List SR) (vs:List V),er P rs=some l→sC l e=some vs→jW P e.T h rs=some vs
  | [],l,vs,hc,hw=>by simp[er] at hc; subst hc; simp[sC] at hw; subst hw; rfl
  | r :: rest,l,vs,hc,hw=>by
    obtain ⟨s,l',rfl,h1,h2⟩:=MD (e:=e) (h:=h) he hc
    simp only[sC] at hw
    split at hw
    · rename_i v vs' hv hvs
      simp at hw; subst hw
      simp[jW,h2 v hv,Ec he rest l' vs' h1 hvs]
    · simp at hw
def sW (P:Program) (tab:List (FuncId × DF)):Prop:=∀ p∈tab,∃ fz,aT P p.1 fz=some p.2
def pG (P:Program) (ext:vt):Prop:=∀ g vs H t,ext g vs H=some t→cM P g=true∧∀ h:aD,h.view=H→bw P g vs h t h
theorem DG {tab:List (FuncId × DF)} {ext:vt} (ht:sW P tab) (hx:pG P ext) {run:tB} (hrun:tx P run):iQ P (B9 P tab ext run):=by
  intro g vs e v e' h hcall he
  unfold B9 at hcall
  split at hcall
  · rename_i t hext
    simp only[Option.some.injEq,Prod.mk.injEq] at hcall
    obtain ⟨rfl,rfl⟩:=hcall
    obtain ⟨h1,h2⟩:=hx _ _ _ _ hext
    exact ⟨h1,h,h2 h he.1.symm,he,fun _ _ _=>rfl,fun _ hw=>by simp at hw⟩
  · split at hcall
    · rename_i g' F hf
      have hmem:=List.mem_of_find?_eq_some hf
      have hgg:g'=g:=by
        have:=List.find?_some hf
        exact Nat.eq_of_beq_eq_true this
      subst hgg
      obtain ⟨fz,hF⟩:=ht _ hmem
      simp only at hF
      unfold aT at hF
      split at hF
      · rename_i fn hfn
        split at hF
        · rename_i c hb
          split at hF
          · rename_i sc rs h1 h2 h3
            simp at hF; subst hF
            refine ⟨h3,?_⟩
            unfold Nk at hcall
            split at hcall
            · rename_i hlen hn
              have hlen:=Nat.le_of_ble_eq_true hlen
              have hn:=Nat.le_of_ble_eq_true hn
              simp only at hlen hn
              unfold MH at hcall
              split at hcall
              · rename_i v1 e1' hend
                simp only[Option.some.injEq,Prod.mk.injEq] at hcall
                obtain ⟨rfl,rfl⟩:=hcall
                unfold Ng at hend
                have go:∀ (r:Exit) (e1:ES),(r=.ret∨r=.normal)→run sc ⟨ky vs 0 .nil,e.H,e.n,[]⟩=some (r,e1)→(sC rs e1).map (fun vs=>(ah vs,e1))=some (v1,e1') →
                    ∃ h',bw P g' vs h v1 h'∧gz h' e1'∧(∀ id,id < h.length→¬ id∈e1'.w→h'.view id=h.view id):=by
                  intro r e1 hr hrn hres
                  simp only[Option.map_eq_some_iff,Prod.mk.injEq] at hres
                  obtain ⟨vs',hvs,rfl,rfl⟩:=hres
                  obtain ⟨h',hx,he1,hc1,_⟩:=hrun fn.ntmps fz c sc h1 hn _ e1 r h hrn he
                  have hT:(ES.T ⟨ky vs 0 .nil,e.H,e.n,[]⟩)=jy vs:=Ew vs (by omega)
                  rw[hT] at hx
                  refine ⟨h',bw.FY hfn hb hlen hx (by rcases hr with rfl | rfl <;> simp) ?_,he1,fun id hid hw=>(hc1.2 id hid hw).1⟩
                  unfold G1
                  rw[Ec he1 _ _ _ h2 hvs]
                  cases vs' with
                  | nil=>rfl
                  | cons a l=>cases l <;> rfl
                have done:(∃ h',bw P g' vs h v1 h'∧gz h' e1'∧(∀ id,id < h.length→¬ id∈e1'.w→h'.view id=h.view id)) →
                    ∃ h',bw P g' vs h v1 h'∧gz h' ⟨e1'.L,e1'.H,e1'.n,e1'.w.filter fun id=>Nat.blt id e.n⟩∧(∀ id,id < h.length→¬ id∈e1'.w.filter (fun id=>Nat.blt id e.n)→h'.view id=h.view id)∧∀ id,id∈e1'.w.filter (fun id=>Nat.blt id e.n)→id < h.length:=by
                  rintro ⟨h',k1,k2,k3⟩
                  refine ⟨h',k1,k2,fun id hid hw=>k3 id hid (fun hm=>hw ?_),fun id hw=>?_⟩
                  · rw[List.mem_filter]
                    exact ⟨hm,by rw[he.2]; exact Nat.ble_eq_true_of_le hid⟩
                  · rw[List.mem_filter] at hw
                    have:=Nat.le_of_ble_eq_true hw.2
                    rw[he.2] at this; exact this
                split at hend
                · rename_i e1 hrn; exact done (go _ _ (.inl rfl) hrn hend)
                · rename_i e1 hrn; exact done (go _ _ (.inr rfl) hrn hend)
                · simp at hend
              · simp at hcall
            · simp at hcall
          · simp at hF
        · simp at hF
      · simp at hF
    · simp at hcall
theorem Fv (hm:P.follows .mixedOrders=true) {tab:List (FuncId × DF)} {ext:vt} (ht:sW P tab) (hx:pG P ext):∀ k,tx P (Dv P tab ext k)
  | 0=>fun n fz c sc hc hn e e' r h hr he=>by simp[Dv] at hr
  | k+1=>by
    have ih:=Fv hm ht hx k
    have:=Kn hm (DG ht hx ih) ih
    exact this
end
inductive dJ (h:aD):V→V→Prop
  | val (v:Value):dJ h (.val v) (.val v)
  | emp (k:Nat):dJ h (.emp k) (.aP [])
  | sl (id off len esz z:Nat) (es es':List (List V)):h.view id=.arr z es→off+len≤es.length→es'.length=len →
      (∀ i,i < len→(es'.getD i []).length=(es.getD (off+i) []).length) →
      (∀ i j,i < len→j < (es'.getD i []).length→dJ h ((es.getD (off+i) []).getD j .any) ((es'.getD i []).getD j .any))→dJ h (.sl id off len esz) (.aP es')
  | agg (cs cs':List V):cs'.length=cs.length→(∀ i,i < cs.length→dJ h (cs.getD i .any) (cs'.getD i .any))→dJ h (.agg cs) (.agg cs')
  | bg (cs cs':List V):cs'.length=cs.length→(∀ i,i < cs.length→dJ h (cs.getD i .any) (cs'.getD i .any))→dJ h (.bg cs) (.bg cs')
theorem MF {h:aD} {Z:Nat→Prop} {μ ν:Mu} {F:View} {hp:Array Obj} (hr:fG Z μ hp (cat h F)) {v t:V} (fr:dJ h v t):∀ {x:Value},ay Z μ hp v x→ay (gJ μ) ν hp t x:=by
  have hcat:∀ id,h.view id≠.dead→cat h F id=h.view id:=fun id hd=>by simp only[cat]; rw[if_pos (fP hd)]
  induction fr with
  | val v=>intro x hx; cases hx with | val _ hv=>exact .val _ hv
  | emp k=>intro x hx; cases hx with | emp _ a=>exact .fR a 0 (fun _=>rfl)
  | sl id off len esz z es es' hH hle hlen hl _ ih =>
    intro x hx
    cases hx with
    | lS _ _ _ a =>
      have:es'=[]:=List.length_eq_zero_iff.1 hlen
      subst this
      exact .fR a 0 (fun _=>rfl)
    | sl _ _ _ _ b o0 cap c e f hm hlec hb hs =>
      have hor:=hr.obj id
      rw[hcat id (by rw[hH]; simp),hH] at hor
      obtain ⟨rfl,_,h3,h4⟩:=hor b o0 esz hm
      have hx:∀ i,∃ ci:Nat→Value,∀ j,j < esz→i < len→cellAt hp b (o0+off * esz+i * esz+j)=some (ci j)∧ay Z μ hp ((es.getD (off+i) []).getD j .any) (ci j):=by
        intro i
        by_cases hi:i < len
        · obtain ⟨ci,hci⟩:=lq (n:=esz) (p:=fun j x=>cellAt hp b (o0+off * esz+i * esz+j)=some x∧ay Z μ hp ((es.getD (off+i) []).getD j .any) x) (fun j hj=>by
            obtain ⟨x,hx,hv⟩:=h4 (off+i) j (by omega) hj
            rw[Nat.add_mul,← Nat.add_assoc] at hx
            exact ⟨x,hx,hv⟩)
          exact ⟨ci,fun j hj _=>hci j hj⟩
        · exact ⟨fun _=>undef,fun j _ h=>absurd h hi⟩
      obtain ⟨cf,hcf⟩:=Classical.axiomOfChoice hx
      have hel:∀ i,i < es'.length→(es'.getD i []).length=esz:=fun i hi=>by rw[hl i (by omega)]; exact h3 _ (by omega)
      have:=ay.aP (Z:=gJ μ) (μ:=ν) (hp:=hp) es' b (o0+off * esz) esz cap cf ⟨id,o0,esz,hm⟩ (by omega) hel
        (fun i j hi hj=>(hcf i j hj (by omega)).1) (fun i j hi hj=>ih i j (by omega) (by rw[hel i hi]; exact hj) (hcf i j hj (by omega)).2)
      rw[hlen] at this
      exact this
  | agg cs cs' hlen _ ih =>
    intro x hx
    cases hx with
    | agg _ aas h1 h2=>exact .agg _ _ (by omega) (fun i hi=>ih i (by omega) (h2 i (by omega)))
  | bg cs cs' hlen _ ih =>
    intro x hx
    cases hx with
    | bg _ aas h1 h2=>exact .bg _ _ (by omega) (fun i hi=>ih i (by omega) (h2 i (by omega)))
def dR (P:Program) (f:FuncId) (vs:List V) (t:V):Prop :=
  ∀ Z μ (w:World) (xs:List Value),dL Z μ w.heap vs xs→(∀ b,Z b→b < w.heap.size) →
    Calls P f xs.toArray w fun e w'=>∃ x Z',e=.returned x∧(∀ ν,ay Z' ν w'.heap t x)∧dx w w'∧(∀ b,Z' b→w.heap.size≤b∧b < w'.heap.size)∧eL w.heap w'.heap (fun _=>False)
theorem dR.pure {P:Program} {f:FuncId} {vs:List V} {t:V} (h:dR P f vs t):aE P f vs t:=by
  intro Z μ w xs hrel hz
  refine (h Z μ w xs hrel hz).mono ?_
  rintro e w' ⟨x,Z',rfl,hv,hs,hz',ho⟩
  exact ⟨x,fun b=>Z b∨Z' b,rfl,fun ν=>(hv ν).mono ⟨fun _ h=>.inr h,fun _ _=>rfl,fun _ _ h=>h,en.refl _⟩,hs,fun _ h=>.inl h,fun b hb=>hb.imp id (hz' b),ho⟩
theorem dR.se {P:Program} {f:FuncId} {vs:List V} {r t:V} {h':aD} (ht:∀ v∈vs,Tree v) (hc:bw P f vs [] r h') (hf:dJ h' r t):dR P f vs t:=by
  intro Z μ w xs hrel hz
  have hrel0:dL Z (fun _=>none) w.heap vs xs:=⟨hrel.1,fun i hi=>sg (hrel.2 i hi) (by
    simp only[List.getD_eq_getElem?_getD,List.getElem?_eq_getElem hi,Option.getD_some]
    exact ht _ (List.getElem_mem _))⟩
  have hr0:fG Z (fun _=>none) w.heap (cat [] fun _=>.dead):=by
    rw[Av]
    exact ⟨fun _=>trivial,fun i j b o s o' s' _ h=>by simp at h,fun id b o s h=>by simp at h,hz,fun id b o s h=>by simp at h⟩
  refine (hc.2 Z _ _ w xs hrel0 hr0 (fun _ _ _=>rfl)).mono ?_
  rintro e w' ⟨x,Z',μ',rfl,hv,hh,hex,_⟩
  refine ⟨x,gJ μ',rfl,fun ν=>MF hh hf hv,hex.same,?_,fun b hb _=>hex.frame b hb (by rintro ⟨_,_,_,h⟩; simp at h)⟩
  rintro b ⟨id,o,s,hb⟩
  rcases hex.zy _ _ _ _ hb with h1 | ⟨_,h1 | ⟨_,_,_,h1⟩⟩
  · simp at h1
  · exact ⟨h1,hh.lt _ _ _ _ hb⟩
  · simp at h1
theorem dR.of {P:Program} {f:FuncId} {vs:List V} {t:V} (ht:∀ v∈vs,Tree v) (h:aB P f vs (fun _=>.dead) fun r H'=>∀ h':aD,h'.view=H'→dJ h' r t):dR P f vs t:=by
  obtain ⟨r,h',ha,_,hf⟩:=h.2 [] Az
  exact dR.se ht ha (hf h' rfl)
theorem bw.r5 {P:Program} {f:FuncId} {ts vs:List V} {t:V} {h:aD} (hc:dR P f ts t) (hl:ts.length=vs.length)
    (hfr:∀ i,i < vs.length→Fr h (vs.getD i .any) (ts.getD i .any)):bw P f vs h t h:=by
  refine ⟨Nat.le_refl _,fun Z μ F w xs hrel hr hfree=>?_⟩
  have hts:dL (fun b=>Z b∨gJ μ b) μ w.heap ts xs:=⟨by rw[hl,hrel.1],fun i hi=>x7 hr (hfr i (by omega)) (hrel.2 i (by omega))⟩
  have hzl:∀ b,(Z b∨gJ μ b)→b < w.heap.size:=by
    rintro b (hb | ⟨id,o,s,hb⟩)
    · exact hr.bU b hb
    · exact hr.lt _ _ _ _ hb
  refine (hc _ μ w xs hts hzl).mono ?_
  rintro e w' ⟨x,Z',rfl,hv,hs,hz',ho⟩
  have hm:fe Z (fun b=>Z b∨Z' b) μ μ w.heap w'.heap:=⟨fun _ h=>.inl h,fun b hb=>ho b (hr.bU b hb) (fun x=>x),fun _ _ h=>h,ho.m3⟩
  refine ⟨x,fun b=>Z b∨Z' b,μ,rfl,(hv μ).mono ⟨fun _ h=>.inr h,fun _ _=>rfl,fun _ _ h=>h,en.refl _⟩,⟨fun id=>(hr.obj id).mono hm rfl (fun b o s hx=>ho b (hr.lt _ _ _ _ hx) (fun x=>x)),hr.inj,fun id b o s hx=>Nat.lt_of_lt_of_le (hr.lt _ _ _ _ hx) hs.size,fun b hb=>?_,fun id b o s hx hzb=>?_⟩,
    ⟨hs,hm,fun b hb _=>ho b hb (fun x=>x),fun b hb=>hb.imp id (fun h=>(hz' b h).1),fun _ _ _ _ h=>.inl h⟩,fun _ _=>rfl⟩
  · rcases hb with hb | hb
    · exact Nat.lt_of_lt_of_le (hr.bU b hb) hs.size
    · exact (hz' b hb).2
  · rcases hzb with hb | hb
    · exact hr.fo _ _ _ _ hx hb
    · have:=hr.lt _ _ _ _ hx; have:=(hz' b hb).1; omega
theorem aG.r5 {P:Program} {q:Bool} {f:FuncId} {H:View} {vs ts:List V} {K:V→View→Prop} {v:cq (H,K)} {t:V} (hc:dR P f ts t) (hok:cM P f=true) (hl:ts.length=vs.length)
    (hfr:∀ i,i < vs.length→dQ H (vs.getD i .any) (ts.getD i .any)) (hk:K t H):aG P q f vs H K v:=by
  unfold aG
  cases q with
  | true=>exact ⟨hok,fun h e=>⟨t,h,bw.r5 hc hl (fun i hi=>hfr i hi h e),fun _ _=>rfl,e ▸ hk⟩⟩
  | false =>
    refine ⟨hok,?_⟩
    rintro h rfl
    exact ⟨t,h,bw.r5 hc hl (fun i hi=>hfr i hi h rfl),.refl _,hk⟩
noncomputable def kT (fz:V→Option V):List V→Option (List V)
  | []=>some []
  | v :: l=>match fz v,kT fz l with
    | some a,some b=>some (a :: b)
    | _,_=>none
noncomputable def zV (fz:V→Option V):List (List V)→Option (List (List V))
  | []=>some []
  | v :: l=>match kT fz v,zV fz l with
    | some a,some b=>some (a :: b)
    | _,_=>none
noncomputable def vg (H:View):Nat→V→Option V
  | 0,_=>none
  | k+1,v=>match v with
    | .val x=>some (.val x)
    | .emp _=>some (.aP [])
    | .sl id off len _=>match H id with
      | .arr _ es=>if off+len≤es.length then (zV (vg H k) ((es.drop off).take len)).map .aP else none
      | _=>none
    | .agg cs=>(kT (vg H k) cs).map .agg
    | .bg cs=>(kT (vg H k) cs).map .bg
    | _=>none
theorem fO {fz:V→Option V} : ∀ (l l':List V),kT fz l=some l'→l'.length=l.length∧∀ i,i < l.length→fz (l.getD i .any)=some (l'.getD i .any)
  | [],l',h=>by simp only[kT,Option.some.injEq] at h; subst h; exact ⟨rfl,fun i hi=>by simp at hi⟩
  | v :: l,l',h=>by
    simp only[kT] at h
    split at h
    · rename_i a b h1 h2
      simp only[Option.some.injEq] at h; subst h
      obtain ⟨g1,g2⟩:=fO l b h2
      refine ⟨by simp[g1],fun i hi=>?_⟩
      cases i with
      | zero=>exact h1
      | succ i=>exact g2 i (by simpa using hi)
    · simp at h
theorem z2 {fz:V→Option V} : ∀ (l l':List (List V)),zV fz l=some l'→l'.length=l.length∧∀ i,i < l.length→kT fz (l.getD i [])=some (l'.getD i [])
  | [],l',h=>by simp only[zV,Option.some.injEq] at h; subst h; exact ⟨rfl,fun i hi=>by simp at hi⟩
  | v :: l,l',h=>by
    simp only[zV] at h
    split at h
    · rename_i a b h1 h2
      simp only[Option.some.injEq] at h; subst h
      obtain ⟨g1,g2⟩:=z2 l b h2
      refine ⟨by simp[g1],fun i hi=>?_⟩
      cases i with
      | zero=>exact h1
      | succ i=>exact g2 i (by simpa using hi)
    · simp at h
theorem Ft (h:aD):∀ (k:Nat) (v t:V),vg h.view k v=some t→dJ h v t
  | 0,v,t,hf=>by simp[vg] at hf
  | k+1,v,t,hf=>by
    have ih:=Ft h k
    simp only[vg] at hf
    split at hf
    · simp only[Option.some.injEq] at hf; subst hf; exact .val _
    · simp only[Option.some.injEq] at hf; subst hf; exact .emp _
    · rename_i id off len esz
      split at hf
      · rename_i z es hH
        split at hf
        · rename_i hle
          simp only[Option.map_eq_some_iff] at hf
          obtain ⟨es',he,rfl⟩:=hf
          obtain ⟨g1,g2⟩:=z2 _ _ he
          have hlen:es'.length=len:=by rw[g1]; simp; omega
          have hg:∀ i,i < len→((es.drop off).take len).getD i []=es.getD (off+i) []:=fun i hi=>by
            simp[List.getD_eq_getElem?_getD,List.getElem?_take,hi]
          have g3:∀ i,i < len→kT (vg h.view k) (es.getD (off+i) [])=some (es'.getD i []):=fun i hi=>by
            rw[← hg i hi]; exact g2 i (by rw[← g1,hlen]; exact hi)
          exact .sl id off len esz z es es' hH hle hlen (fun i hi=>(fO _ _ (g3 i hi)).1) (fun i j hi hj=>ih _ _ ((fO _ _ (g3 i hi)).2 j (by rw[← (fO _ _ (g3 i hi)).1]; exact hj)))
        · simp at hf
      · simp at hf
    · simp only[Option.map_eq_some_iff] at hf
      obtain ⟨l,hl,rfl⟩:=hf
      obtain ⟨g1,g2⟩:=fO _ _ hl
      exact .agg _ _ g1 (fun i hi=>ih _ _ (g2 i hi))
    · simp only[Option.map_eq_some_iff] at hf
      obtain ⟨l,hl,rfl⟩:=hf
      obtain ⟨g1,g2⟩:=fO _ _ hl
      exact .bg _ _ g1 (fun i hi=>ih _ _ (g2 i hi))
    · simp at hf
noncomputable def LJ:Option (V × ES)→Option V
  | some (v,e)=>vg e.V 50 v
  | none=>none
noncomputable def v7 (P:Program) (tab:List (FuncId × DF)) (ext:vt) (f:FuncId) (vs:List V):Option V :=
  LJ (B9 P tab ext (Dv P tab ext 100000) f vs ⟨.nil,.nil,0,[]⟩)
theorem tn {P:Program} (hm:P.follows .mixedOrders=true) {tab:List (FuncId × DF)} {ext:vt} (ht:sW P tab) (hx:pG P ext) {f:FuncId} {vs:List V} {t:V} (hvs:∀ v∈vs,Tree v) (h:v7 P tab ext f vs=some t) :
    dR P f vs t:=by
  unfold v7 LJ at h
  split at h
  · rename_i v e hr
    obtain ⟨h1,h',h2,h3,_⟩:=DG ht hx (Fv hm ht hx 100000) f vs _ v e [] hr ⟨by funext k; rfl,rfl⟩
    rw[h3.1] at h
    exact dR.se hvs h2 (Ft h' 50 v t h)
  · simp at h
structure ao.fA (g:ao):Prop where
  aA:g.aA.length≤24
  yO:1≤g.aC.length
  aC:g.aC.length≤16
  OZ:1≤g.rules.length
  rules:g.rules.length≤40
  lF:0≤g.start
  start:g.start < g.aC.length
  left:∀ r∈g.rules,0≤r.left∧r.left < g.aC.length
  right:∀ r∈g.rules,r.right.length≤6
  sym:∀ r∈g.rules,∀ s∈r.right,iB g s=true
  prec:∀ r∈g.rules,-1≤r.prec∧r.prec < g.aA.length
theorem uC {g:ao} : ∀ (l:List aN) (top:Int),fC g l top=true→top≤(g.aC.length:Int) - 1∧∀ r∈l,0≤r.left∧r.left < g.aC.length∧fX g r=true
  | [],top,h=>by simp[fC] at h; exact ⟨by omega,fun r hr=>by simp at hr⟩
  | r :: l,top,h=>by
    simp only[fC,Bool.and_eq_true,decide_eq_true_eq] at h
    obtain ⟨⟨⟨h1,h2⟩,h3⟩,h4⟩:=h
    obtain ⟨k1,k2⟩:=uC l _ h4
    have h5:r.left≤(if r.left > top then r.left else top):=by split <;> omega
    have h6:top≤(if r.left > top then r.left else top):=by split <;> omega
    refine ⟨by omega,fun r' hr=>?_⟩
    rcases List.mem_cons.1 hr with rfl | hr
    · exact ⟨h1,by omega,h3⟩
    · exact k2 r' hr
theorem bu {g:ao} (h:bt g=true):g.fA:=by
  simp only[bt,ix,jd,Bool.and_eq_true,decide_eq_true_eq] at h
  obtain ⟨⟨⟨⟨⟨⟨⟨h1,_⟩,⟨h2,h3⟩,_⟩,h4⟩,h5⟩,h6⟩,h7⟩,h8⟩:=h
  have k:=(uC _ _ h8).2
  have hb:∀ r∈g.rules,r.right.length≤6∧-1≤r.prec∧r.prec < g.aA.length∧∀ s∈r.right,iB g s=true:=fun r hr=>by
    have:=(k r hr).2.2
    simp only[fX,Bool.and_eq_true,decide_eq_true_eq,List.all_eq_true,kf] at this
    exact ⟨this.1.1.1,this.1.1.2,this.1.2,fun s hs=>(this.2 s hs).1⟩
  exact ⟨h1,h2,h3,h4,h5,h6,h7,fun r hr=>⟨(k r hr).1,(k r hr).2.1⟩,fun r hr=>(hb r hr).1,fun r hr=>(hb r hr).2.2.2,fun r hr=>⟨(hb r hr).2.1,(hb r hr).2.2.1⟩⟩
theorem ao.fA.neg {g:ao} (h:g.fA) {r:aN} (hr:r∈g.rules) {s:Int} (hs:s∈r.right) (hn:s < 0) : -1 - s < g.aC.length:=by
  have:=h.sym r hr s hs
  simp only[iB] at this
  rw[if_neg (by omega)] at this
  simpa using this
abbrev cQ (is:List Bool):List (List V):=is.map fun x=>[gb x]
theorem ui {h:aD} {id:Nat} {is:List Bool} (hv:h.view id=.arr 1 (cQ is)):dJ h (.sl id 0 is.length 1) (df is):=by
  refine .sl id 0 is.length 1 1 (cQ is) _ hv (by simp) (by simp) (fun i hi=>by simp) (fun i j hi hj=>?_)
  rw[Nat.zero_add]
  have e:(cQ is).getD i []=[gb is[i]]:=by simp[List.getD_eq_getElem?_getD,hi]
  rw[e] at hj ⊢
  have:j=0:=by simp at hj; omega
  subst this
  exact .val _
theorem HD {H:View} {id n:Nat} {is:List Bool} (hv:H id=.arr 1 (cQ is)) (hn:n=is.length):dQ H (.sl id 0 n 1) (df is):=by
  have ht:∀ e∈cQ is,∀ v∈e,Tree v:=by
    intro e he v hv
    obtain ⟨a,_,rfl⟩:=List.mem_map.1 he
    rw[List.mem_singleton] at hv
    subst hv
    exact .val _
  have:=dQ.sl (off:=0) (len:=n) (esz:=1) hv (by simp[hn]) ht
  rwa [List.drop_zero,List.take_of_length_le (by simp[hn])] at this
theorem BI {is:List Bool} {i:Nat} (h:i < is.length):(cQ is).getD i []=[gb is[i]]:=by simp[List.getD_eq_getElem?_getD,h]
theorem uG (is:List Bool) (i:Nat) (b:Bool):(cQ is).set i [gb b]=cQ (is.set i b):=by simp[List.map_set]
theorem HU (n:Nat) (b:Bool):List.replicate n [gb b]=cQ (List.replicate n b):=by simp
def iter {α:Type} (f:α→α):Nat→α→α
  | 0,x=>x
  | n+1,x=>iter f n (f x)
def eo (t:Bool) (is:List Bool) (r:aN):List Bool:=if fB r.right is t=true then is.set r.left.toNat true else is
def mG (g:ao) (t:Bool) (is:List Bool):List Bool:=g.rules.foldl (eo t) is
def cR (g:ao):List Bool:=List.replicate g.aC.length false
def aM (g:ao) (t:Bool):List Bool:=if bt g=true then iter (mG g t) g.aC.length (cR g) else []
theorem Hy (t:Bool) (is:List Bool) (r:aN):(eo t is r).length=is.length:=by unfold eo; split <;> simp
def mark (is:List Bool) (s:Int):List Bool:=if s < 0 then is.set (-1 - s).toNat true else is
def iJ (p is:List Bool) (r:aN):List Bool:=if (is.getD r.left.toNat false && fB r.right p true)=true then r.right.foldl mark is else is
def rv (g:ao) (p is:List Bool):List Bool:=g.rules.foldl (iJ p) is
def bE (g:ao):List Bool:=if bt g=true then iter (rv g (aM g true)) g.aC.length ((cR g).set g.start.toNat true) else []
theorem Ka (is:List Bool) (s:Int):(mark is s).length=is.length:=by unfold mark; split <;> simp
theorem Bc:∀ (l:List Int) (is:List Bool),(l.foldl mark is).length=is.length
  | [],_=>rfl
  | s :: l,is=>by rw[List.foldl_cons,Bc l,Ka]
theorem JH (p is:List Bool) (r:aN):(iJ p is r).length=is.length:=by unfold iJ; split <;> simp[Bc]
theorem xG {f:List Bool→List Bool} (hf:∀ is,(f is).length=is.length):∀ (n:Nat) (is:List Bool),(iter f n is).length=is.length
  | 0,_=>rfl
  | n+1,is=>by rw[iter,xG hf n,hf]
theorem xp {α:Type} {f:List Bool→α→List Bool} (hf:∀ is x,(f is x).length=is.length):∀ (l:List α) (is:List Bool),(l.foldl f is).length=is.length
  | [],_=>rfl
  | x :: l,is=>by rw[List.foldl_cons,xp hf l,hf]
theorem mU {g:ao} (h:bt g=true) (t:Bool):(aM g t).length=g.aC.length:=by
  have hl:∀ is,(mG g t is).length=is.length:=fun is=>xp (Hy t) _ _
  rw[aM,if_pos h,xG hl]
  simp[cR]
def wU:DF:=⟨.seq (ak [aY 2 false]) <|
  .seq (.region [] [⟨none,[aa 3 0,aH 4 147 [3],aa 5 4]⟩,⟨(some (5,false)),[aa 6 0,((some 7),.op (.arith .eql (.tmp 6) (.val (.val (.int .u8 46)))))]⟩,⟨none,[bC 8 5 7,aa 9 8]⟩,⟨(some (9,false)),[aa 10 0,((some 11),.op (.arith .geq (.tmp 10) (.val (.val (.int .u8 48))))),aa 12 11]⟩,⟨(some (12,true)),[aa 13 0,((some 14),.op (.arith .leq (.tmp 13) (.val (.val (.int .u8 57)))))]⟩,⟨(some (9,false)),[bz 15 12 14]⟩,⟨none,[bC 16 9 15,aa 2 16]⟩]) <|
  .ret,
  [.tmp 2],17⟩
theorem Ad:aT Tryz.prog 148 []=some wU:=by kernel_rfl
def vu:DF:=⟨.seq (ak [aY 2 false]) <|
  .seq (.region [] [⟨none,[aa 3 0,((some 4),.op (.arith .eql (.tmp 3) (.val (.val (.int .u8 95))))),aa 5 4]⟩,⟨(some (5,false)),[aa 6 0,((some 7),.op (.arith .or (.tmp 6) (.val (.val (.int .u8 32))))),((some 8),.op (.arith .geq (.tmp 7) (.val (.val (.int .u8 97))))),aa 9 8]⟩,⟨(some (9,true)),[aa 10 0,((some 11),.op (.arith .or (.tmp 10) (.val (.val (.int .u8 32))))),((some 12),.op (.arith .leq (.tmp 11) (.val (.val (.int .u8 122)))))]⟩,⟨(some (5,false)),[bz 13 9 12]⟩,⟨none,[bC 14 5 13,aa 2 14]⟩]) <|
  .ret,
  [.tmp 2],15⟩
theorem yD:aT Tryz.prog 147 []=some vu:=by kernel_rfl
def w5:DF:=⟨.seq (ak [aY 2 false]) <|
  .seq (.region [] [⟨none,[aa 3 0,((some 4),.op (.arith .geq (.tmp 3) (.val (.val (.int .u8 32))))),aa 5 4]⟩,⟨(some (5,true)),[aa 6 0,((some 7),.op (.arith .leq (.tmp 6) (.val (.val (.int .u8 126)))))]⟩,⟨none,[bz 8 5 7,aa 9 8]⟩,⟨(some (9,true)),[aa 10 0,((some 11),.op (.arith .neq (.tmp 10) (.val (.val (.int .u8 39)))))]⟩,⟨none,[bz 12 9 11,aa 13 12]⟩,⟨(some (13,true)),[aa 14 0,((some 15),.op (.arith .neq (.tmp 14) (.val (.val (.int .u8 92)))))]⟩,⟨none,[bz 16 13 15,aa 2 16]⟩]) <|
  .ret,
  [.tmp 2],17⟩
theorem zQ:aT Tryz.prog 233 []=some w5:=by kernel_rfl
def tM:DF:=⟨.seq (ak [aY 2 false]) <|
  .seq (.region [] [⟨none,[aa 3 0,((some 4),.op (.arith .eql (.tmp 3) (.val (.val (.int .u8 110))))),aa 5 4]⟩,⟨(some (5,false)),[aa 6 0,((some 7),.op (.arith .eql (.tmp 6) (.val (.val (.int .u8 116)))))]⟩,⟨none,[bC 8 5 7,aa 9 8]⟩,⟨(some (9,false)),[aa 10 0,((some 11),.op (.arith .eql (.tmp 10) (.val (.val (.int .u8 92)))))]⟩,⟨none,[bC 12 9 11,aa 13 12]⟩,⟨(some (13,false)),[aa 14 0,((some 15),.op (.arith .eql (.tmp 14) (.val (.val (.int .u8 39)))))]⟩,⟨none,[bC 16 13 15,aa 2 16]⟩]) <|
  .ret,
  [.tmp 2],17⟩
theorem xe:aT Tryz.prog 234 []=some tM:=by kernel_rfl
def rH:List (FuncId × DF):=[(148,wU),(147,vu),(233,w5),(234,tM)]
theorem qn:sW Tryz.prog rH:=by
  intro p hp
  simp only[rH,List.mem_cons,List.not_mem_nil,or_false] at hp
  rcases hp with rfl | rfl | rfl | rfl
  · exact ⟨_,Ad⟩
  · exact ⟨_,yD⟩
  · exact ⟨_,zQ⟩
  · exact ⟨_,xe⟩
theorem Lt (P:Program):pG P (fun _ _ _=>none):=fun _ _ _ _ h=>by simp at h
def Np (o:Option V) (b:Bool):Bool:=match o with
  | some (.val (.bool c))=>c == b
  | _=>false
theorem Na {o:Option V} {b:Bool} (h:Np o b=true):o=some (gb b):=by
  unfold Np at h
  split at h
  · rw[beq_iff_eq] at h; rw[h]
  · simp at h
noncomputable def vm (tab:List (FuncId × DF)) (f:FuncId) (p:Int→Bool):Bool:=(List.range 256).all fun c=>Np (v7 Tryz.prog tab (fun _ _ _=>none) f [gy (c:Int)]) (p (c:Int))
theorem sF {tab:List (FuncId × DF)} (ht:sW Tryz.prog tab) {f:FuncId} {p:Int→Bool} (h:vm tab f p=true) (c:Int) (h0:0≤c) (h1:c≤255):aE Tryz.prog f [gy c] (gb (p c)):=by
  have:=List.all_eq_true.1 h c.toNat (by simp; omega)
  rw[show ((c.toNat:Nat):Int)=c by omega] at this
  exact (tn mixed ht (Lt _) (by intro v hv; simp at hv; subst hv; exact .val _) (Na this)).pure
def ux (c:Int):Bool:=decide (32≤c) && decide (c≤126) && c != 39 && c != 92
def Au (c:Int):Bool:=c == 110 || c == 116 || c == 92 || c == 39
theorem HB:vm rH 147 ry=true:=by kernel_rfl
theorem Is:vm rH 148 kR=true:=by kernel_rfl
theorem JG:vm rH 233 ux=true:=by kernel_rfl
theorem MB:vm rH 234 Au=true:=by kernel_rfl
theorem AT {s:ByteArray} {c:Int} (h:c∈dZ s):0≤c∧c≤255:=by
  unfold dZ at h
  obtain ⟨b,_,rfl⟩:=List.mem_map.1 h
  have:=b.toNat_lt
  omega
theorem HR (s:ByteArray):fb s=(dZ s).map fun x=>[gy x]:=by simp[fb,dZ]
end Gv
