/-
  Part 7 of the proof: what the machine does and what the functions answer.
  Conditions: those that each lemma names.
-/
import Derived.Test.YtihmlbdfcmfbdaaGreatSGzB2F
set_option linter.unusedSimpArgs false
set_option linter.unusedVariables false
set_option maxRecDepth 100000
namespace Gv
open Go Go.Proofs
section
variable {P:Program} {n:Nat} {all:List Oper}
def iO (h:aJ) (e:ES):Prop:=e.V=h.view∧e.n=h.length
def Calm (e e':ES) (h h':aJ):Prop:=h.length≤h'.length∧(∀ id,id < h.length→¬ id∈e'.w→h'.view id=h.view id∧¬ id∈e.w)
theorem Calm.trans {a b c:ES} {h1 h2 h3:aJ} (x:Calm a b h1 h2) (y:Calm b c h2 h3):Calm a c h1 h3 :=
 ⟨U0 x.1 y.1,fun id hid hw =>
  let ⟨e1,d1⟩:=y.2 id (UD hid x.1) hw
  let ⟨e2,d2⟩:=x.2 id hid d1
  ⟨e1.trans e2,d2⟩⟩
theorem Calm.refl (e:ES) (h:aJ):Calm e e h h:=⟨Ug _,fun _ _ hw=>⟨rfl,hw⟩⟩
def ko (P:Program) (call:iy):Prop:=∀ g vs e v e' h,call g vs e=some (v,e')→iO h e →
 dG P g=true∧∃ h',bW P g vs h v h'∧iO h' e'∧(∀ id,id < h.length→¬ id∈e'.w→h'.view id=h.view id)∧∀ id,id∈e'.w→id < h.length
def wi (P:Program) (run:wW):Prop:=∀ (n:Nat) (fz:List Nat) (c:Code) (sc:DC),jd P n fz c=some sc→n≤8000→∀ (e e':ES) (r:Exit) (h:aJ),run sc e=some (r,e')→iO h e →
 ∃ h',c4 P n c e.T h r e'.T h'∧iO h' e'∧Calm e e' h h'∧∀ c0,c=.loop c0→pS P n c0 e.T h r e'.T h'
theorem ND {h:aJ} {e:ES} {d:Option Nat} {v:V} (he:iO h e):iO h (e.put d v):=by cases d <;> exact he
theorem P8 {e:ES} {d:Option Nat} {v:V} : (e.put d v).w=e.w:=by cases d <;> rfl
theorem Pv {h:aJ} {e e':ES} {h':aJ} {d:Option Nat} {v:V} (x:Calm e e' h h'):Calm e (e'.put d v) h h':=⟨x.1,fun id hid hw=>x.2 id hid (by rw[P8] at hw; exact hw)⟩
theorem BK {a:Nat} (h:Nat.ble a 8000=true):a+1 < 2 ^ 13:=by
 have:=Nat.le_of_ble_eq_true h
 omega
theorem QY {h:aJ} {e e':ES} {v v':V} {eff:bC} {rd:List Nat} {c:Rec} (he:iO h e) (hx:FA v eff rd e=some (v',e',c)) :
  v'=v∧e'.T=e.T∧e'.V=eff.view h.view h.length∧e'.n=(eff.apply h).length∧c=⟨rd,eff.wr,false,h.length,(eff.apply h).length⟩∧e'.w=eff.wr ++ e.w:=by
 obtain ⟨h1,h2⟩:=he
 unfold FA at hx
 cases eff with
 | none =>
  simp only[T7,Ua] at hx
  obtain ⟨rfl,rfl,rfl⟩:=hx
  exact ⟨rfl,rfl,h1,h2,by rw[h2]; rfl,rfl⟩
 | new o =>
  simp only at hx
  split at hx
  ·rename_i hb
   simp only[T7,Ua] at hx
   obtain ⟨rfl,rfl,rfl⟩:=hx
   refine ⟨rfl,rfl,?_,by simp[gD,h2],by simp[gD,h2,bC.wr],rfl⟩
   funext k
   simp only[ES.V,bC.view,View.set]
   rw[cI.mO _ _ _ _ _ _ (BK hb),h2]
   have:=congrFun h1 k
   simp only[ES.V] at this
   rw[this]
  ·simp at hx
 | eW id o =>
  simp only at hx
  split at hx
  ·rename_i hb
   simp only[T7,Ua] at hx
   obtain ⟨rfl,rfl,rfl⟩:=hx
   refine ⟨rfl,rfl,?_,by simp[gD,h2],by simp[gD,h2,bC.wr],rfl⟩
   funext k
   simp only[ES.V,bC.view,View.set]
   rw[cI.mO _ _ _ _ _ _ (BK hb)]
   have:=congrFun h1 k
   simp only[ES.V] at this
   rw[this]
  ·simp at hx
 | bP id o =>
  simp only at hx
  split at hx
  ·rename_i hb1 hb2
   simp only[T7,Ua] at hx
   obtain ⟨rfl,rfl,rfl⟩:=hx
   refine ⟨rfl,rfl,?_,by simp[gD,h2],by simp[gD,h2,bC.wr],rfl⟩
   funext k
   simp only[ES.V,bC.view,View.set]
   rw[cI.mO _ _ _ _ _ _ (BK hb1),cI.mO _ _ _ _ _ _ (BK hb2),h2]
   have:=congrFun h1 k
   simp only[ES.V] at this
   rw[this]
  ·simp at hx
theorem R4 {o:Oper} {e e':ES} {h:aJ} {s:SI} {v:V} {c:Rec} (hg:dB n all e.T o=some true) (hc:∀ v eff rd,sI P s e.T h.view h.length=some (v,eff,rd)→cm P o e.T h.view h.length=some (v,eff,rd))
  (he:iO h e) (hx:LC P s e=some (v,e',c)):∃ h',dM P n all o e.T h v h' c.rd c.wr c.call∧iO h' e'∧e'.T=e.T∧Calm e e' h h'∧km (tA P s) c.rd c.wr c.call h.length h'.length∧c.lo=h.length∧c.hi=h'.length:=by
 unfold LC at hx
 rw[Ll,he.1,he.2] at hx
 split at hx
 ·rename_i v0 eff rd hs
  obtain ⟨rfl,g1,g2,g3,rfl,g5⟩:=QY he hx
  have ha:=hc _ _ _ hs
  have st:=dM.op (P:=P) (n:=n) (all:=all) hg ha
  refine ⟨eff.apply h,st,⟨?_,g3⟩,g1,⟨tJ st,fun id hid hw=>?_⟩,⟨fun h0=>?_,fun h1=>?_⟩,rfl,rfl⟩
  ·rw[kX (fun id hid=>(mD ha id hid).1)]; exact g2
  ·rw[g5] at hw
   simp only[Uy,not_or] at hw
   exact ⟨rB st hid hw.1,hw.2⟩
  ·obtain ⟨rfl,rfl⟩:=(rK hs).1 h0
   exact ⟨rfl,rfl,rfl,rfl⟩
  ·rcases Uv (tA P s) 1 with h2 | h2
   ·obtain ⟨rfl,rfl⟩:=(rK hs).1 (by omega); rfl
   ·exact (rK hs).2 (by omega)
 ·simp at hx
theorem Su {call:iy} (hcall:ko P call) {fz:Fz} {o:Oper} {e e':ES} {h:aJ} {v:V} {c:Rec} (hg:dB n all e.T o=some true) (he:iO h e) (hx:eB P call (mj P fz o) e=some (v,e',c)) :
  ∃ h',dM P n all o e.T h v h' c.rd c.wr c.call∧iO h' e'∧e'.T=e.T∧Calm e e' h h'∧km (iM P false (mj P fz o)) c.rd c.wr c.call h.length h'.length∧c.lo=h.length∧c.hi=h'.length:=by
 rcases zY P fz o with ⟨f,args,ats,ho,hc | hc⟩ | ⟨t,x,ho,hc⟩ | ⟨s,d,x,ho,hcv,hc⟩ | hc
 rotate_left
 ·rw[hc] at hx
  simp[eB] at hx
 rotate_right
 ·rw[hc] at hx ⊢
  simp only[eB,NL] at hx
  split at hx
  ·rename_i g first cap hf
   rw[B3] at hx
   rw[SX.cK] at hf
   split at hx
   ·rename_i v0 e0 hv
    obtain ⟨hok,h',hr,hek,hd,hd2⟩:=hcall _ _ _ _ _ _ hv he
    simp only[T7,Ua] at hx
    obtain ⟨rfl,rfl,rfl⟩:=hx
    exact ⟨h',.call hg ho hf hok hr hd hd2,hek,rfl,⟨hr.1,fun id hid hw=>by
     simp only[Uy,not_or] at hw
     exact ⟨hd id hid hw.1,hw.2⟩⟩,Qh (by simp[iM]),he.2,hek.2⟩
   ·simp at hx
  ·simp at hx
 ·rw[hc] at hx ⊢
  simp only[eB,LC,Ll,sI,SX.cK] at hx
  split at hx
  ·rename_i v0 eff rd hs
   split at hs
   ·rename_i hok
    simp only[T7,Ua] at hs
    obtain ⟨rfl,rfl,rfl⟩:=hs
    simp only[FA,T7,Ua] at hx
    obtain ⟨rfl,rfl,rfl⟩:=hx
    exact ⟨h,.jn hg ho hok,he,rfl,Calm.refl _ _,⟨fun _=>⟨rfl,rfl,rfl,rfl⟩,fun _=>rfl⟩,he.2,he.2⟩
   ·simp at hs
  ·simp at hx
 ·rw[hc] at hx ⊢
  obtain ⟨ty,h1,h2,h3⟩:=zH hcv
  simp only[eB,LC,Ll,sI,SX.cK] at hx
  split at hx
  ·rename_i v0 eff rd hs
   split at hs
   ·rename_i st hst
    simp only[T7,Ua] at hs
    obtain ⟨rfl,rfl,rfl⟩:=hs
    simp only[FA,T7,Ua] at hx
    obtain ⟨rfl,rfl,rfl⟩:=hx
    exact ⟨h,.gf hg ho h1 h2 h3 hst,he,rfl,Calm.refl _ _,⟨fun _=>⟨rfl,rfl,rfl,rfl⟩,fun _=>rfl⟩,he.2,he.2⟩
   ·simp at hs
  ·simp at hx
 ·rw[hc] at hx ⊢
  exact R4 (s:=yU P fz.fr (comp P o)) hg (fun v eff rd hs=>Js (Jw hs)) he hx
theorem Rt {o:Oper} (hd:rE n o=true) (hn:n≤8000):∀ t,o.dst=some t→t < 8000:=by
 intro t ht
 unfold rE at hd
 rw[ht] at hd
 have:t < n:=by simpa using hd
 exact UD this hn
theorem QK {c:Rec} {a b:Nat} (h1:c.lo=a) (h2:c.hi=b):c=⟨c.rd,c.wr,c.call,a,b⟩:=by cases c; subst h1; subst h2; rfl
theorem Hs {call:iy} (hcall:ko P call) (hn:n≤8000) {fz:Fz} (g:Option (Nat × Bool)):∀ (l:List (Option Nat × SB)) (os:List Oper) (e e':ES) (h:aJ) (a a':List Rec),
  dI P n all fz os=some (l.map fun (d,b)=>⟨d,g,b⟩)→(∀ d w,g=some (d,w)→e.T d=.val (.bool w)∧(l.all fun x=>x.1 != some d)=true)→iO h e→Jb P call l a e=some (e',a') →
  ∃ recs h',a'=a ++ recs∧Tr P n all os e.T h recs e'.T h'∧iO h' e'∧Calm e e' h h'∧fX P false (l.map fun (d,b)=>⟨d,g,b⟩) recs
 | [],os,e,e',h,a,a',hc,hg,he,hx=>by
  have:=kS hc; subst this
  simp only[Jb,T7,Ua] at hx; obtain ⟨rfl,rfl⟩:=hx
  exact ⟨[],h,by simp,.nil,he,Calm.refl _ _,.nil⟩
 | (d,b) :: l,os,e,e',h,a,a',hc,hg,he,hx=>by
  obtain ⟨o,r,rfl,h1,h2⟩:=l0 hc
  obtain ⟨hd,hd1,hb1,hg1⟩:=sX h1
  simp only at hd1 hb1 hg1
  have hgv:dB n all e.T o=some true:=by
   cases g with
   | none=>exact Bu hg1
   | some p =>
    obtain ⟨d',w⟩:=p
    have:=(kP (T:=e.T) hg1).1 w (hg d' w rfl).1
    rw[this]; simp
  simp only[Jb] at hx
  rw[hb1] at hx
  split at hx
  ·rename_i v e1 c hv
   obtain ⟨h1',st,he1,hT1,hcm,hl,hlo,hhi⟩:=Su hcall hgv he hv
   have hput:(e1.put d v).T=e.T.put o.dst v:=by
    rw[ES.P5 (by rw[hd1]; exact Rt hd hn),hT1,hd1]
   obtain ⟨recs,h'',ha,tr,he2,hcm2,hro⟩:=Hs hcall hn g l r (e1.put d v) e' h1' _ a' h2 (fun d' w eq=>by
    have:=hg d' w eq
    simp only[Vg,Uh,bne_iff_ne,ne_eq] at this
    refine ⟨?_,this.2.2⟩
    rw[← this.1,hput,← hd1]
    cases d with
    | none=>rfl
    | some t=>simp only[Env.put]; rw[T6]; intro e; subst e; exact this.2.1 rfl) (ND he1) hx
   rw[hput] at tr
   refine ⟨_,h'',?_,.cons st hd tr,he2,(Pv hcm).trans hcm2,hro.cons (by rw[hb1]; exact hl)⟩
   rw[ha,UL,← QK hlo hhi]; rfl
  ·simp at hx
theorem GR {fz:Fz} (hn:n≤8000) (d:Nat) (w:Bool) (h:aJ):∀ (l:List (Option Nat × SB)) (os:List Oper) (e e':ES) (a a':List Rec),
  dI P n all fz os=some (l.map fun (d',b)=>⟨d',some (d,w),b⟩)→(e.T d=.val (.bool !w)∨e.T d=.bE [])→(l.all fun x=>x.1 != some d)=true→iO h e→vZ l a e=(e',a') →
  ∃ recs,a'=a ++ recs∧Tr P n all os e.T h recs e'.T h∧iO h e'∧e'.w=e.w∧fX P false (l.map fun (d',b)=>⟨d',some (d,w),b⟩) recs
 | [],os,e,e',a,a',hc,hd,hl,he,hx=>by
  have:=kS hc; subst this
  simp only[vZ,Ua] at hx; obtain ⟨rfl,rfl⟩:=hx
  exact ⟨[],by simp,.nil,he,rfl,.nil⟩
 | (d',b) :: l,os,e,e',a,a',hc,hd,hl,he,hx=>by
  obtain ⟨o,r,rfl,h1,h2⟩:=l0 hc
  obtain ⟨hd0,hd1,hb1,hg1⟩:=sX h1
  simp only at hd1 hb1 hg1
  have hgv:dB n all e.T o=some false:=by
   rcases hd with hd | hd
   ·rw[(kP (T:=e.T) hg1).1 _ hd]; cases w <;> rfl
   ·exact (kP (T:=e.T) hg1).2 hd
  simp only[Vg,Uh,bne_iff_ne,ne_eq] at hl
  have hput:(e.put d' (.bE [])).T=e.T.put o.dst (.bE []):=by
   rw[ES.P5 (by rw[hd1]; exact Rt hd0 hn),hd1]
  simp only[vZ] at hx
  obtain ⟨recs,ha,tr,he2,hd2,hro⟩:=GR hn d w h l r (e.put d' (.bE [])) e' _ a' h2 (by
   have:(e.put d' (.bE [])).T d=e.T d:=by
    rw[hput,← hd1]
    cases d' with
    | none=>rfl
    | some t=>simp only[Env.put]; rw[T6]; intro e; subst e; exact hl.1 rfl
   rw[this]; exact hd) hl.2 (ND he) hx
  rw[hput] at tr
  refine ⟨_,?_,Tr.cons (.skip hgv) hd0 tr,he2,by rw[hd2,P8],hro.cons (r:=⟨[],[],false,h.length,h.length⟩) ⟨fun _=>⟨rfl,rfl,rfl,rfl⟩,fun _=>rfl⟩⟩
  rw[ha,UL,Qq,he.2]; rfl
theorem EN {fz:Fz} (hn:n≤8000) {d:Nat} {w:Bool} {h:aJ} {l:List (Option Nat × SB)} {os:List Oper} {e e':ES} {a a':List Rec}
  (hc:dI P n all fz os=some (l.map fun (d',b)=>⟨d',some (d,w),b⟩)) (hd:e.T d=.val (.bool !w)∨e.T d=.bE []) (hl:(l.all fun x=>x.1 != some d)=true) (he:iO h e) (hx:vZ l a e=(e',a')) :
  ∃ recs h',a'=a ++ recs∧Tr P n all os e.T h recs e'.T h'∧iO h' e'∧Calm e e' h h'∧fX P false (l.map fun (d',b)=>⟨d',some (d,w),b⟩) recs:=by
 obtain ⟨recs,h1,h2,h3,h4,h5⟩:=GR hn d w h l os e e' a a' hc hd hl he hx
 exact ⟨recs,h,h1,h2,h3,⟨Ug _,fun id _ hw=>⟨rfl,by rw[h4] at hw; exact hw⟩⟩,h5⟩
theorem Sf {call:iy} (hcall:ko P call) (hn:n≤8000) {fz:Fz} {g:SG} {os:List Oper} {e e':ES} {h:aJ} {a a':List Rec} (hc:dI P n all fz os=some g.flat) (hok:tH g=true) (he:iO h e) (hx:eG P call g a e=some (e',a')) :
  ∃ recs h',a'=a ++ recs∧Tr P n all os e.T h recs e'.T h'∧iO h' e'∧Calm e e' h h'∧fX P false g.flat recs:=by
 unfold eG at hx
 unfold SG.flat at hc ⊢
 unfold tH at hok
 split at hx
 ·rename_i hg
  rw[hg] at hc ⊢
  exact Hs hcall hn none g.ops os e e' h a a' hc (fun d w e=>by simp at e) he hx
 ·rename_i d want hg
  rw[hg] at hc hok ⊢
  simp only at hok
  unfold Mr at hx
  split at hx
  ·rename_i b hb
   split at hx
   ·rename_i hxor
    simp only[T7] at hx
    have e':b = !want:=by cases b <;> cases want <;> simp_all
    subst e'
    exact EN hn hc (.inl hb) hok he hx
   ·rename_i hxor
    have e':b=want:=by cases b <;> cases want <;> simp_all
    subst e'
    exact Hs hcall hn (some (d,b)) g.ops os e _ h a a' hc (fun d' w e=>by simp at e; obtain ⟨rfl,rfl⟩:=e; exact ⟨hb,hok⟩) he hx
  ·rename_i hb
   simp only[T7] at hx
   exact EN hn hc (.inr hb) hok he hx
  ·simp at hx
theorem MD {call:iy} (hcall:ko P call) (hn:n≤8000) {fz:Fz} : ∀ (gs:List SG) (os:List Oper) (e e':ES) (h:aJ) (a a':List Rec),dI P n all fz os=some (kh gs)→gs.all tH=true→iO h e→LD P call gs a e=some (e',a') →
  ∃ recs h',a'=a ++ recs∧Tr P n all os e.T h recs e'.T h'∧iO h' e'∧Calm e e' h h'∧fX P false (kh gs) recs
 | [],os,e,e',h,a,a',hc,_,he,hx=>by
  have:=kS hc; subst this
  simp only[LD,T7,Ua] at hx; obtain ⟨rfl,rfl⟩:=hx
  exact ⟨[],h,by simp,.nil,he,Calm.refl _ _,.nil⟩
 | g :: gs,os,e,e',h,a,a',hc,hok,he,hx=>by
  simp only[kh,Uz,List.flatten_cons] at hc ⊢
  simp only[Vg,Uh] at hok
  obtain ⟨o1,o2,rfl,h1,h2⟩:=qU hc
  simp only[LD] at hx
  split at hx
  ·rename_i e1 a1 hx1
   obtain ⟨r1,h1',ha1,tr1,he1,hc1,ro1⟩:=Sf hcall hn h1 hok.1 he hx1
   obtain ⟨r2,h2',ha2,tr2,he2,hc2,ro2⟩:=MD hcall hn gs o2 e1 e' h1' a1 a' h2 hok.2 he1 hx
   exact ⟨_,h2',by rw[ha2,ha1,UL],tr1.append tr2,he2,hc1.trans hc2,ro1.append ro2⟩
  ·simp at hx
theorem NP {ls:List Nat} {i k x y:Nat} (hik:i < k) (hx:ls[i]?=some x) (hy:ls[k]?=some y) (ho:ordered (fw all []) i k=false) (h:¬ (x=0∨y=0∨(x≤1∧y≤1))):(i,k)∈Cx all ls:=by
 unfold Cx
 simp only[List.mem_flatten,Ur]
 refine ⟨_,⟨(x,i),by rw[U9]; exact hx,rfl⟩,?_⟩
 simp only[Ur,UQ]
 refine ⟨(y,k),⟨by rw[U9]; exact hy,?_⟩,rfl⟩
 simp only[hik,decide_true,ho,Bool.false_or,Vh,V6,Bool.or_eq_false_iff,beq_eq_false_iff_ne,Bool.and_eq_false_iff,Vw]
 omega
theorem Ox {ls:List Nat} {recs:List Rec} (h:Ns recs (Cx all ls)=true) (hl:ls.length=recs.length) (hr:∀ (i x:Nat) (r:Rec),ls[i]?=some x→recs[i]?=some r→km x r.rd r.wr r.call r.lo r.hi):ur all recs:=by
 intro i k a b hik ha hb ho
 have hi:i < recs.length:=(Uj.1 ha).1
 have hk:k < recs.length:=(Uj.1 hb).1
 have hx:ls[i]?=some (ls[i]'(by omega)):=T4 (by omega)
 have hy:ls[k]?=some (ls[k]'(by omega)):=T4 (by omega)
 generalize ls[i]'(by omega)=x at hx
 generalize ls[k]'(by omega)=y at hy
 have la:=hr i _ a hx ha
 have lb:=hr k _ b hy hb
 by_cases hc:x=0∨y=0∨(x≤1∧y≤1)
 ·rcases hc with h1 | h1 | h1
  ·obtain ⟨e1,e2,e3,e4⟩:=la.1 h1
   exact ⟨fun id hid=>by simp[e2] at hid,fun id _=>by simp[e1],fun hc=>by simp[e3] at hc,fun _=>e2,fun id _ hx=>by omega⟩
  ·obtain ⟨e1,e2,e3,e4⟩:=lb.1 h1
   exact ⟨fun id _=>by simp[e1],fun id hid=>by simp[e2] at hid,fun _=>e2,fun hc=>by simp[e3] at hc,fun id hid=>by simp[e2] at hid⟩
  ·have e1:=la.2 h1.1
   have e2:=lb.2 h1.2
   exact ⟨fun id hid=>by simp[e1] at hid,fun id hid=>by simp[e2] at hid,fun _=>e2,fun _=>e1,fun id hid=>by simp[e2] at hid⟩
 ·have:=UE.1 h _ (NP hik hx hy ho hc)
  simp only[ha,hb] at this
  exact N3 this
theorem Q1 (hm:P.follows .mixedOrders=true) {call:iy} (hcall:ko P call) (hn:n≤8000) {fz:List Nat} {id:Nat} {ops:Array Oper} {draw:Bool} {sc:DC} {run:wW} {e e':ES} {r:Exit} {h:aJ}
  (hc:FQ P n fz ops.toList draw=some sc) (he:iO h e) (hx:mn P call run sc e=some (r,e')) :
  ∃ h',c4 P n (.region id ops draw) e.T h r e'.T h'∧iO h' e'∧Calm e e' h h':=by
 unfold FQ at hc
 split at hc
 ·simp at hc
 ·rename_i l hl
  split at hc
  ·simp at hc
  ·rename_i hok
   have hok:(group l).all tH=true:=by simpa using hok
   have hl':dI P n ops.toList ⟨fz,false⟩ ops.toList=some (kh (group l)):=by rw[gz]; exact hl
   have key:∀ ps,mn P call run (.region ps (group l)) e=some (r,e')→(draw=true→lS ops.toList=true∧ps=Cx ops.toList (l.map fun s=>iM P false s.b)) →
     ∃ h',c4 P n (.region id ops draw) e.T h r e'.T h'∧iO h' e'∧Calm e e' h h':=by
    intro ps hx hdr
    simp only[mn,I0] at hx
    split at hx
    ·rename_i e1 recs0 hx1
     split at hx
     ·rename_i hchk
      simp only[T7,Ua] at hx
      obtain ⟨rfl,rfl⟩:=hx
      obtain ⟨recs,h',ha,tr,hk,hcm,hro⟩:=MD hcall hn (group l) ops.toList e e1 h [] recs0 hl' hok he hx1
      simp only[Vb] at ha
      subst ha
      rw[gz] at hro
      refine ⟨h',?_,hk,hcm⟩
      cases hd:draw with
      | false=>simpa using FK (id:=id) tr
      | true =>
       obtain ⟨h1,rfl⟩:=hdr hd
       have hcf:ur ops.toList recs0:=Ox hchk (by simpa using hro.1) (fun i x r hx hr=>by
        simp only[T8,Uf] at hx
        obtain ⟨s,hs,rfl⟩:=hx
        exact hro.2 i s r hs hr)
       simpa using xP hm (id:=id) tr h1 hcf
     ·simp at hx
    ·simp at hx
   split at hc
   ·rename_i hd
    split at hc
    ·rename_i ht
     simp at hc; subst hc
     exact key _ hx (fun _=>⟨ht,rfl⟩)
    ·simp at hc
   ·rename_i hd
    simp at hc; subst hc
    exact key _ hx (fun e=>absurd e hd)
theorem OP (hm:P.follows .mixedOrders=true) {call:iy} (hcall:ko P call) {run:wW} (hrun:wi P run):wi P (mn P call run):=by
 intro n fz c sc hc hn e e' r h hx he
 cases c with
 | skip =>
  simp[jd] at hc; subst hc
  simp only[mn,L8,T7,Ua] at hx
  obtain ⟨rfl,rfl⟩:=hx
  exact ⟨h,.skip,he,Calm.refl _ _,fun _ h=>by simp at h⟩
 | region id ops draw =>
  obtain ⟨h',a,b,d⟩:=Q1 (id:=id) hm hcall hn hc he hx
  exact ⟨h',a,b,d,fun _ h=>by simp at h⟩
 | seq x y =>
  simp only[jd] at hc
  split at hc
  ·rename_i a b h1 h2
   simp at hc; subst hc
   simp only[mn,Rx] at hx
   split at hx
   ·rename_i e1 hx1
    obtain ⟨h1',x1,he1,c1,l1⟩:=hrun n fz x a h1 hn e e1 .normal h hx1 he
    obtain ⟨h2',x2,he2,c2,l2⟩:=hrun n fz y b h2 hn e1 e' r h1' hx he1
    exact ⟨h2',x1.seq x2,he2,c1.trans c2,fun _ h=>by simp at h⟩
   ·rename_i hne
    obtain ⟨h1',x1,he1,c1,l1⟩:=hrun n fz x a h1 hn e e' r h hx he
    refine ⟨h1',x1.Jq (fun e=>?_),he1,c1,fun _ h=>by simp at h⟩
    subst e
    exact absurd hx (hne e')
  ·simp at hc
 | cond cc x y =>
  simp only[jd] at hc
  split at hc
  ·rename_i a b h1 h2
   simp at hc; subst hc
   simp only[mn,Qa,SX.cK] at hx
   split at hx
   ·rename_i ht
    obtain ⟨h1',x1,he1,c1,l1⟩:=hrun n fz x a h1 hn e e' r h hx he
    exact ⟨h1',.cond ht x1,he1,c1,fun _ h=>by simp at h⟩
   ·rename_i ht
    obtain ⟨h1',x1,he1,c1,l1⟩:=hrun n fz y b h2 hn e e' r h hx he
    exact ⟨h1',.cond ht x1,he1,c1,fun _ h=>by simp at h⟩
   ·simp at hx
  ·simp at hc
 | block id c =>
  simp only[jd,Uf] at hc
  obtain ⟨a,h1,rfl⟩:=hc
  simp only[mn,Ms] at hx
  split at hx
  ·rename_i r1 e1 hx1
   simp only[T7,Ua] at hx
   obtain ⟨rfl,rfl⟩:=hx
   obtain ⟨h1',x1,he1,c1,l1⟩:=hrun n fz c a h1 hn e e1 r1 h hx1 he
   exact ⟨h1',x1.block,he1,c1,fun _ h=>by simp at h⟩
  ·simp at hx
 | loop c =>
  have hc0:=hc
  simp only[jd,Uf] at hc
  obtain ⟨a,h1,rfl⟩:=hc
  simp only[mn,Qo] at hx
  split at hx
  ·rename_i e1 hx1
   obtain ⟨h1',x1,he1,c1,l1⟩:=hrun n fz c a h1 hn e e1 .normal h hx1 he
   obtain ⟨h2',x2,he2,c2,l2⟩:=hrun n fz (.loop c) (.loop a) hc0 hn e1 e' r h1' hx he1
   have hL:=pS.step x1 (l2 c rfl)
   exact ⟨h2',.loop hL,he2,c1.trans c2,fun c0 h0=>by simp only[Code.loop.injEq] at h0; subst h0; exact hL⟩
  ·rename_i hne
   obtain ⟨h1',x1,he1,c1,l1⟩:=hrun n fz c a h1 hn e e' r h hx he
   have hL:=pS.out x1 (fun e=>by subst e; exact absurd hx (hne e'))
   exact ⟨h1',.loop hL,he1,c1,fun c0 h0=>by simp only[Code.loop.injEq] at h0; subst h0; exact hL⟩
 | exit id =>
  simp[jd] at hc; subst hc
  simp only[mn,T7,Ua] at hx
  obtain ⟨rfl,rfl⟩:=hx
  exact ⟨h,.exit,he,Calm.refl _ _,fun _ h=>by simp at h⟩
 | ret =>
  simp[jd] at hc; subst hc
  simp only[mn,T7,Ua] at hx
  obtain ⟨rfl,rfl⟩:=hx
  exact ⟨h,.ret,he,Calm.refl _ _,fun _ h=>by simp at h⟩
 | _=>simp[jd] at hc
theorem Dy:∀ (vs:List V) (i:Nat) (t:cI V),i+vs.length≤8000→∀ k,(mS vs i t).get .any k=if i≤k∧k < i+vs.length then vs.getD (k - i) .any else t.get .any k
 | [],i,t,h,k=>by
  rw[mS,T6 (by simp only[UG]; omega)]
 | v :: vs,i,t,h,k=>by
  simp only[Um] at h
  rw[mS,Dy vs (i+1) _ (by omega),cI.mO _ _ _ _ _ _ (by simp only[deep]; omega)]
  simp only[Um]
  by_cases h1:k=i
  ·subst h1; rw[T6 (by omega),T9 rfl,T9 (by omega)]; simp
  ·by_cases h2:i+1≤k∧k < i+1+vs.length
   ·rw[T9 h2,T9 (by omega)]
    have:k - i=(k - (i+1))+1:=by omega
    rw[this]; rfl
   ·rw[T6 h2,T6 h1,T6 (by omega)]
theorem HV (vs:List V) (h:vs.length≤8000):(mS vs 0 .nil).get .any=lf vs:=by
 funext k
 rw[Dy vs 0 .nil (by omega)]
 simp only[lf,Vu,true_and,U3,Nat.sub_zero]
 split
 ·rfl
 ·rename_i hk
  rw[T0,UF (by omega)]; rfl
theorem Q9 {e:ES} {h:aJ} {r:ResultVar} {rest:List ResultVar} {l:List SR} (he:iO h e) (hc:fF P (r :: rest)=some l):∃ s l',l=s :: l'∧fF P rest=some l'∧∀ v,OA s e=some v→sk P e.T h r=some v:=by
 cases r with
 | tmp t =>
  simp only[fF,Uf] at hc
  obtain ⟨l',h1,rfl⟩:=hc
  exact ⟨.tmp t,l',rfl,h1,fun v hv=>hv⟩
 | cell a t =>
  simp only[fF] at hc
  split at hc
  ·rename_i k l' h1 h2
   simp at hc; subst hc
   refine ⟨.cell a k,l',rfl,h2,fun v hv=>?_⟩
   simp only[OA] at hv
   simp only[sk,mg,wE h1]
   rw[he.1] at hv
   split at hv
   ·rename_i id i j ha
    split at hv
    ·rename_i es hH
     split at hv
     ·rename_i hlt
      rw[ha]; simp only[hH]; rw[T9 hlt,hv]; rfl
     ·simp at hv
    ·simp at hv
   ·rename_i e j ha
    rw[ha]; simp only; rw[hv]; rfl
   ·simp at hv
  ·simp at hc
theorem Gq {e:ES} {h:aJ} (he:iO h e):∀ (rs:List ResultVar) (l:List SR) (vs:List V),fF P rs=some l→wm l e=some vs→lY P e.T h rs=some vs
 | [],l,vs,hc,hw=>by simp[fF] at hc; subst hc; simp[wm] at hw; subst hw; rfl
 | r :: rest,l,vs,hc,hw=>by
  obtain ⟨s,l',rfl,h1,h2⟩:=Q9 (e:=e) (h:=h) he hc
  simp only[wm] at hw
  split at hw
  ·rename_i v vs' hv hvs
   simp at hw; subst hw
   simp[lY,h2 v hv,Gq he rest l' vs' h1 hvs]
  ·simp at hw
def tq (P:Program) (tab:List (FuncId × DF)):Prop:=∀ p∈tab,∃ fz,FI P p.1 fz=some p.2
def sN (P:Program) (ext:xH):Prop:=∀ g vs H t,ext g vs H=some t→dG P g=true∧∀ h:aJ,h.view=H→bW P g vs h t h
theorem FB {tab:List (FuncId × DF)} {ext:xH} (ht:tq P tab) (hx:sN P ext) {run:wW} (hrun:wi P run):ko P (Fl P tab ext run):=by
 intro g vs e v e' h hcall he
 unfold Fl at hcall
 split at hcall
 ·rename_i t hext
  simp only[T7,Ua] at hcall
  obtain ⟨rfl,rfl⟩:=hcall
  obtain ⟨h1,h2⟩:=hx _ _ _ _ hext
  exact ⟨h1,h,h2 h he.1.symm,he,fun _ _ _=>rfl,fun _ hw=>by simp at hw⟩
 ·split at hcall
  ·rename_i g' F hf
   have hmem:=List.mem_of_find?_eq_some hf
   have hgg:g'=g:=by
    have:=List.find?_some hf
    exact VU this
   subst hgg
   obtain ⟨fz,hF⟩:=ht _ hmem
   simp only at hF
   unfold FI at hF
   split at hF
   ·rename_i fn hfn
    split at hF
    ·rename_i c hb
     split at hF
     ·rename_i sc rs h1 h2 h3
      simp at hF; subst hF
      refine ⟨h3,?_⟩
      unfold Rk at hcall
      split at hcall
      ·rename_i hlen hn
       have hlen:=Nat.le_of_ble_eq_true hlen
       have hn:=Nat.le_of_ble_eq_true hn
       simp only at hlen hn
       unfold RC at hcall
       split at hcall
       ·rename_i v1 e1' hend
        simp only[T7,Ua] at hcall
        obtain ⟨rfl,rfl⟩:=hcall
        unfold Rz at hend
        have go:∀ (r:Exit) (e1:ES),(r=.ret∨r=.normal)→run sc ⟨mS vs 0 .nil,e.H,e.n,[]⟩=some (r,e1)→(wm rs e1).map (fun vs=>(ah vs,e1))=some (v1,e1') →
          ∃ h',bW P g' vs h v1 h'∧iO h' e1'∧(∀ id,id < h.length→¬ id∈e1'.w→h'.view id=h.view id):=by
         intro r e1 hr hrn hres
         simp only[Uf,Ua] at hres
         obtain ⟨vs',hvs,rfl,rfl⟩:=hres
         obtain ⟨h',hx,he1,hc1,_⟩:=hrun fn.ntmps fz c sc h1 hn _ e1 r h hrn he
         have hT:(ES.T ⟨mS vs 0 .nil,e.H,e.n,[]⟩)=lf vs:=HV vs (by omega)
         rw[hT] at hx
         refine ⟨h',bW.JQ hfn hb hlen hx (by rcases hr with rfl | rfl <;> simp) ?_,he1,fun id hid hw=>(hc1.2 id hid hw).1⟩
         unfold KZ
         rw[Gq he1 _ _ _ h2 hvs]
         cases vs' with
         | nil=>rfl
         | cons a l=>cases l <;> rfl
        have done:(∃ h',bW P g' vs h v1 h'∧iO h' e1'∧(∀ id,id < h.length→¬ id∈e1'.w→h'.view id=h.view id)) →
          ∃ h',bW P g' vs h v1 h'∧iO h' ⟨e1'.L,e1'.H,e1'.n,e1'.w.filter fun id=>Nat.blt id e.n⟩∧(∀ id,id < h.length→¬ id∈e1'.w.filter (fun id=>Nat.blt id e.n)→h'.view id=h.view id)∧∀ id,id∈e1'.w.filter (fun id=>Nat.blt id e.n)→id < h.length:=by
         rintro ⟨h',k1,k2,k3⟩
         refine ⟨h',k1,k2,fun id hid hw=>k3 id hid (fun hm=>hw ?_),fun id hw=>?_⟩
         ·rw[UQ]
          exact ⟨hm,by rw[he.2]; exact Nat.ble_eq_true_of_le hid⟩
         ·rw[UQ] at hw
          have:=Nat.le_of_ble_eq_true hw.2
          rw[he.2] at this; exact this
        split at hend
        ·rename_i e1 hrn; exact done (go _ _ (.inl rfl) hrn hend)
        ·rename_i e1 hrn; exact done (go _ _ (.inr rfl) hrn hend)
        ·simp at hend
       ·simp at hcall
      ·simp at hcall
     ·simp at hF
    ·simp at hF
   ·simp at hF
  ·simp at hcall
theorem IX (hm:P.follows .mixedOrders=true) {tab:List (FuncId × DF)} {ext:xH} (ht:tq P tab) (hx:sN P ext):∀ k,wi P (Gk P tab ext k)
 | 0=>fun n fz c sc hc hn e e' r h hr he=>by simp[Gk] at hr
 | k+1=>by
  have ih:=IX hm ht hx k
  have:=OP hm (FB ht hx ih) ih
  exact this
end
inductive er (h:aJ):V→V→Prop
 | val (v:Value):er h (.val v) (.val v)
 | emp (k:Nat):er h (.emp k) (.aL [])
 | sl (id off len esz z:Nat) (es es':List (List V)):h.view id=.arr z es→off+len≤es.length→es'.length=len →
  (∀ i,i < len→(es'.getD i []).length=(es.getD (off+i) []).length) →
  (∀ i j,i < len→j < (es'.getD i []).length→er h ((es.getD (off+i) []).getD j .any) ((es'.getD i []).getD j .any))→er h (.sl id off len esz) (.aL es')
 | agg (cs cs':List V):cs'.length=cs.length→(∀ i,i < cs.length→er h (cs.getD i .any) (cs'.getD i .any))→er h (.agg cs) (.agg cs')
 | bE (cs cs':List V):cs'.length=cs.length→(∀ i,i < cs.length→er h (cs.getD i .any) (cs'.getD i .any))→er h (.bE cs) (.bE cs')
theorem QZ {h:aJ} {Z:Nat→Prop} {μ ν:Mu} {F:View} {hp:Array Obj} (hr:gY Z μ hp (cat h F)) {v t:V} (fr:er h v t):∀ {x:Value},aF Z μ hp v x→aF (jb μ) ν hp t x:=by
 have hcat:∀ id,h.view id≠.dead→cat h F id=h.view id:=fun id hd=>by simp only[cat]; rw[T9 (ig hd)]
 induction fr with
 | val v=>intro x hx; cases hx with | val _ hv=>exact .val _ hv
 | emp k=>intro x hx; cases hx with | emp _ a=>exact .im a 0 (fun _=>rfl)
 | sl id off len esz z es es' hH hle hlen hl _ ih =>
  intro x hx
  cases hx with
  | oZ _ _ _ a =>
   have:es'=[]:=Vn.1 hlen
   subst this
   exact .im a 0 (fun _=>rfl)
  | sl _ _ _ _ b o0 cap c e f hm hlec hb hs =>
   have hor:=hr.obj id
   rw[hcat id (by rw[hH]; simp),hH] at hor
   obtain ⟨rfl,_,h3,h4⟩:=hor b o0 esz hm
   have hx:∀ i,∃ ci:Nat→Value,∀ j,j < esz→i < len→cellAt hp b (o0+off * esz+i * esz+j)=some (ci j)∧aF Z μ hp ((es.getD (off+i) []).getD j .any) (ci j):=by
    intro i
    by_cases hi:i < len
    ·obtain ⟨ci,hci⟩:=nX (n:=esz) (p:=fun j x=>cellAt hp b (o0+off * esz+i * esz+j)=some x∧aF Z μ hp ((es.getD (off+i) []).getD j .any) x) (fun j hj=>by
      obtain ⟨x,hx,hv⟩:=h4 (off+i) j (by omega) hj
      rw[US,← VO] at hx
      exact ⟨x,hx,hv⟩)
     exact ⟨ci,fun j hj _=>hci j hj⟩
    ·exact ⟨fun _=>undef,fun j _ h=>absurd h hi⟩
   obtain ⟨cf,hcf⟩:=Classical.axiomOfChoice hx
   have hel:∀ i,i < es'.length→(es'.getD i []).length=esz:=fun i hi=>by rw[hl i (by omega)]; exact h3 _ (by omega)
   have:=aF.aL (Z:=jb μ) (μ:=ν) (hp:=hp) es' b (o0+off * esz) esz cap cf ⟨id,o0,esz,hm⟩ (by omega) hel
    (fun i j hi hj=>(hcf i j hj (by omega)).1) (fun i j hi hj=>ih i j (by omega) (by rw[hel i hi]; exact hj) (hcf i j hj (by omega)).2)
   rw[hlen] at this
   exact this
 | agg cs cs' hlen _ ih =>
  intro x hx
  cases hx with
  | agg _ aas h1 h2=>exact .agg _ _ (by omega) (fun i hi=>ih i (by omega) (h2 i (by omega)))
 | bE cs cs' hlen _ ih =>
  intro x hx
  cases hx with
  | bE _ aas h1 h2=>exact .bE _ _ (by omega) (fun i hi=>ih i (by omega) (h2 i (by omega)))
def cX (P:Program) (f:FuncId) (vs:List V) (t:V):Prop :=
 ∀ Z μ (w:World) (xs:List Value),fU Z μ w.heap vs xs→(∀ b,Z b→b < w.heap.size) →
  Calls P f xs.toArray w fun e w'=>∃ x Z',e=.returned x∧(∀ ν,aF Z' ν w'.heap t x)∧eE w w'∧(∀ b,Z' b→w.heap.size≤b∧b < w'.heap.size)∧fV w.heap w'.heap (fun _=>False)
theorem cX.pure {P:Program} {f:FuncId} {vs:List V} {t:V} (h:cX P f vs t):aG P f vs t:=by
 intro Z μ w xs hrel hz
 refine (h Z μ w xs hrel hz).mono ?_
 rintro e w' ⟨x,Z',rfl,hv,hs,hz',ho⟩
 exact ⟨x,fun b=>Z b∨Z' b,rfl,fun ν=>(hv ν).mono ⟨fun _ h=>.inr h,fun _ _=>rfl,fun _ _ h=>h,fC.refl _⟩,hs,fun _ h=>.inl h,fun b hb=>hb.imp id (hz' b),ho⟩
theorem cX.wh {P:Program} {f:FuncId} {vs:List V} {r t:V} {h':aJ} (ht:∀ v∈vs,Tree v) (hc:bW P f vs [] r h') (hf:er h' r t):cX P f vs t:=by
 intro Z μ w xs hrel hz
 have hrel0:fU Z (fun _=>none) w.heap vs xs:=⟨hrel.1,fun i hi=>vP (hrel.2 i hi) (by
  simp only[T0,T4 hi,Un]
  exact ht _ (Ud _))⟩
 have hr0:gY Z (fun _=>none) w.heap (cat [] fun _=>.dead):=by
  rw[CJ]
  exact ⟨fun _=>trivial,fun i j b o s o' s' _ h=>by simp at h,fun id b o s h=>by simp at h,hz,fun id b o s h=>by simp at h⟩
 refine (hc.2 Z _ _ w xs hrel0 hr0 (fun _ _ _=>rfl)).mono ?_
 rintro e w' ⟨x,Z',μ',rfl,hv,hh,hex,_⟩
 refine ⟨x,jb μ',rfl,fun ν=>QZ hh hf hv,hex.same,?_,fun b hb _=>hex.frame b hb (by rintro ⟨_,_,_,h⟩; simp at h)⟩
 rintro b ⟨id,o,s,hb⟩
 rcases hex.Cf _ _ _ _ hb with h1 | ⟨_,h1 | ⟨_,_,_,h1⟩⟩
 ·simp at h1
 ·exact ⟨h1,hh.lt _ _ _ _ hb⟩
 ·simp at h1
theorem cX.of {P:Program} {f:FuncId} {vs:List V} {t:V} (ht:∀ v∈vs,Tree v) (h:aC P f vs (fun _=>.dead) fun r H'=>∀ h':aJ,h'.view=H'→er h' r t):cX P f vs t:=by
 obtain ⟨r,h',ha,_,hf⟩:=h.2 [] E3
 exact cX.wh ht ha (hf h' rfl)
theorem bW.uP {P:Program} {f:FuncId} {ts vs:List V} {t:V} {h:aJ} (hc:cX P f ts t) (hl:ts.length=vs.length)
  (hfr:∀ i,i < vs.length→Fr h (vs.getD i .any) (ts.getD i .any)):bW P f vs h t h:=by
 refine ⟨Ug _,fun Z μ F w xs hrel hr hfree=>?_⟩
 have hts:fU (fun b=>Z b∨jb μ b) μ w.heap ts xs:=⟨by rw[hl,hrel.1],fun i hi=>A8 hr (hfr i (by omega)) (hrel.2 i (by omega))⟩
 have hzl:∀ b,(Z b∨jb μ b)→b < w.heap.size:=by
  rintro b (hb | ⟨id,o,s,hb⟩)
  ·exact hr.cL b hb
  ·exact hr.lt _ _ _ _ hb
 refine (hc _ μ w xs hts hzl).mono ?_
 rintro e w' ⟨x,Z',rfl,hv,hs,hz',ho⟩
 have hm:gR Z (fun b=>Z b∨Z' b) μ μ w.heap w'.heap:=⟨fun _ h=>.inl h,fun b hb=>ho b (hr.cL b hb) (fun x=>x),fun _ _ h=>h,ho.qb⟩
 refine ⟨x,fun b=>Z b∨Z' b,μ,rfl,(hv μ).mono ⟨fun _ h=>.inr h,fun _ _=>rfl,fun _ _ h=>h,fC.refl _⟩,⟨fun id=>(hr.obj id).mono hm rfl (fun b o s hx=>ho b (hr.lt _ _ _ _ hx) (fun x=>x)),hr.inj,fun id b o s hx=>UD (hr.lt _ _ _ _ hx) hs.size,fun b hb=>?_,fun id b o s hx hzb=>?_⟩,
  ⟨hs,hm,fun b hb _=>ho b hb (fun x=>x),fun b hb=>hb.imp id (fun h=>(hz' b h).1),fun _ _ _ _ h=>.inl h⟩,fun _ _=>rfl⟩
 ·rcases hb with hb | hb
  ·exact UD (hr.cL b hb) hs.size
  ·exact (hz' b hb).2
 ·rcases hzb with hb | hb
  ·exact hr.gM _ _ _ _ hx hb
  ·have:=hr.lt _ _ _ _ hx; have:=(hz' b hb).1; omega
theorem aE.uP {P:Program} {q:Bool} {f:FuncId} {H:View} {vs ts:List V} {K:V→View→Prop} {v:cE (H,K)} {t:V} (hc:cX P f ts t) (hok:dG P f=true) (hl:ts.length=vs.length)
  (hfr:∀ i,i < vs.length→eA H (vs.getD i .any) (ts.getD i .any)) (hk:K t H):aE P q f vs H K v:=by
 unfold aE
 cases q with
 | true=>exact ⟨hok,fun h e=>⟨t,h,bW.uP hc hl (fun i hi=>hfr i hi h e),fun _ _=>rfl,e ▸ hk⟩⟩
 | false =>
  refine ⟨hok,?_⟩
  rintro h rfl
  exact ⟨t,h,bW.uP hc hl (fun i hi=>hfr i hi h rfl),.refl _,hk⟩
noncomputable def nL (fz:V→Option V):List V→Option (List V)
 | []=>some []
 | v :: l=>match fz v,nL fz l with
  | some a,some b=>some (a :: b)
  | _,_=>none
noncomputable def CV (fz:V→Option V):List (List V)→Option (List (List V))
 | []=>some []
 | v :: l=>match nL fz v,CV fz l with
  | some a,some b=>some (a :: b)
  | _,_=>none
noncomputable def yB (H:View):Nat→V→Option V
 | 0,_=>none
 | k+1,v=>match v with
  | .val x=>some (.val x)
  | .emp _=>some (.aL [])
  | .sl id off len _=>match H id with
   | .arr _ es=>if off+len≤es.length then (CV (yB H k) ((es.drop off).take len)).map .aL else none
   | _=>none
  | .agg cs=>(nL (yB H k) cs).map .agg
  | .bE cs=>(nL (yB H k) cs).map .bE
  | _=>none
theorem ik {fz:V→Option V} : ∀ (l l':List V),nL fz l=some l'→l'.length=l.length∧∀ i,i < l.length→fz (l.getD i .any)=some (l'.getD i .any)
 | [],l',h=>by simp only[nL,T7] at h; subst h; exact ⟨rfl,fun i hi=>by simp at hi⟩
 | v :: l,l',h=>by
  simp only[nL] at h
  split at h
  ·rename_i a b h1 h2
   simp only[T7] at h; subst h
   obtain ⟨g1,g2⟩:=ik l b h2
   refine ⟨by simp[g1],fun i hi=>?_⟩
   cases i with
   | zero=>exact h1
   | succ i=>exact g2 i (by simpa using hi)
  ·simp at h
theorem C3 {fz:V→Option V} : ∀ (l l':List (List V)),CV fz l=some l'→l'.length=l.length∧∀ i,i < l.length→nL fz (l.getD i [])=some (l'.getD i [])
 | [],l',h=>by simp only[CV,T7] at h; subst h; exact ⟨rfl,fun i hi=>by simp at hi⟩
 | v :: l,l',h=>by
  simp only[CV] at h
  split at h
  ·rename_i a b h1 h2
   simp only[T7] at h; subst h
   obtain ⟨g1,g2⟩:=C3 l b h2
   refine ⟨by simp[g1],fun i hi=>?_⟩
   cases i with
   | zero=>exact h1
   | succ i=>exact g2 i (by simpa using hi)
  ·simp at h
theorem JZ (h:aJ):∀ (k:Nat) (v t:V),yB h.view k v=some t→er h v t
 | 0,v,t,hf=>by simp[yB] at hf
 | k+1,v,t,hf=>by
  have ih:=JZ h k
  simp only[yB] at hf
  split at hf
  ·simp only[T7] at hf; subst hf; exact .val _
  ·simp only[T7] at hf; subst hf; exact .emp _
  ·rename_i id off len esz
   split at hf
   ·rename_i z es hH
    split at hf
    ·rename_i hle
     simp only[Uf] at hf
     obtain ⟨es',he,rfl⟩:=hf
     obtain ⟨g1,g2⟩:=C3 _ _ he
     have hlen:es'.length=len:=by rw[g1]; simp; omega
     have hg:∀ i,i < len→((es.drop off).take len).getD i []=es.getD (off+i) []:=fun i hi=>by
      simp[T0,Vv,hi]
     have g3:∀ i,i < len→nL (yB h.view k) (es.getD (off+i) [])=some (es'.getD i []):=fun i hi=>by
      rw[← hg i hi]; exact g2 i (by rw[← g1,hlen]; exact hi)
     exact .sl id off len esz z es es' hH hle hlen (fun i hi=>(ik _ _ (g3 i hi)).1) (fun i j hi hj=>ih _ _ ((ik _ _ (g3 i hi)).2 j (by rw[← (ik _ _ (g3 i hi)).1]; exact hj)))
    ·simp at hf
   ·simp at hf
  ·simp only[Uf] at hf
   obtain ⟨l,hl,rfl⟩:=hf
   obtain ⟨g1,g2⟩:=ik _ _ hl
   exact .agg _ _ g1 (fun i hi=>ih _ _ (g2 i hi))
  ·simp only[Uf] at hf
   obtain ⟨l,hl,rfl⟩:=hf
   obtain ⟨g1,g2⟩:=ik _ _ hl
   exact .bE _ _ g1 (fun i hi=>ih _ _ (g2 i hi))
  ·simp at hf
noncomputable def Qf:Option (V × ES)→Option V
 | some (v,e)=>yB e.V 50 v
 | none=>none
noncomputable def zB (P:Program) (tab:List (FuncId × DF)) (ext:xH) (f:FuncId) (vs:List V):Option V :=
 Qf (Fl P tab ext (Gk P tab ext 100000) f vs ⟨.nil,.nil,0,[]⟩)
theorem wa {P:Program} (hm:P.follows .mixedOrders=true) {tab:List (FuncId × DF)} {ext:xH} (ht:tq P tab) (hx:sN P ext) {f:FuncId} {vs:List V} {t:V} (hvs:∀ v∈vs,Tree v) (h:zB P tab ext f vs=some t) :
  cX P f vs t:=by
 unfold zB Qf at h
 split at h
 ·rename_i v e hr
  obtain ⟨h1,h',h2,h3,_⟩:=FB ht hx (IX hm ht hx 100000) f vs _ v e [] hr ⟨by funext k; rfl,rfl⟩
  rw[h3.1] at h
  exact cX.wh hvs h2 (JZ h' 50 v t h)
 ·simp at h
def AY (P:Program) (fs:List (FuncId × List Nat)):List (FuncId × DF):=fs.filterMap fun f=>(FI P f.1 f.2).map (f.1,·)
theorem AU (P:Program) (fs:List (FuncId × List Nat)):tq P (AY P fs):=by
 intro p hp
 unfold AY at hp
 obtain ⟨f,_,h⟩:=Vd.1 hp
 simp only[Uf] at h
 obtain ⟨d,h1,rfl⟩:=h
 exact ⟨f.2,h1⟩
structure aw.dt (g:aw):Prop where
 az:g.az.length≤24
 mc:1≤g.ax.length
 ax:g.ax.length≤16
 TT:1≤g.rules.length
 rules:g.rules.length≤40
 iX:0≤g.start
 start:g.start < g.ax.length
 left:∀ r∈g.rules,0≤r.left∧r.left < g.ax.length
 right:∀ r∈g.rules,r.right.length≤6
 sym:∀ r∈g.rules,∀ s∈r.right,iz g s=true
 prec:∀ r∈g.rules,-1≤r.prec∧r.prec < g.az.length
theorem x6 {g:aw} : ∀ (l:List aW) (top:Int),gV g l top=true→top≤(g.ax.length:Int) - 1∧∀ r∈l,0≤r.left∧r.left < g.ax.length∧iA g r=true
 | [],top,h=>by simp[gV] at h; exact ⟨by omega,fun r hr=>by simp at hr⟩
 | r :: l,top,h=>by
  simp only[gV,Uh,Ul] at h
  obtain ⟨⟨⟨h1,h2⟩,h3⟩,h4⟩:=h
  obtain ⟨k1,k2⟩:=x6 l _ h4
  have h5:r.left≤(if r.left > top then r.left else top):=by split <;> omega
  have h6:top≤(if r.left > top then r.left else top):=by split <;> omega
  refine ⟨by omega,fun r' hr=>?_⟩
  rcases Uk.1 hr with rfl | hr
  ·exact ⟨h1,by omega,h3⟩
  ·exact k2 r' hr
theorem bM {g:aw} (h:bR g=true):g.dt:=by
 simp only[bR,jR,kD,Uh,Ul] at h
 obtain ⟨⟨⟨⟨⟨⟨⟨h1,_⟩,⟨h2,h3⟩,_⟩,h4⟩,h5⟩,h6⟩,h7⟩,h8⟩:=h
 have k:=(x6 _ _ h8).2
 have hb:∀ r∈g.rules,r.right.length≤6∧-1≤r.prec∧r.prec < g.az.length∧∀ s∈r.right,iz g s=true:=fun r hr=>by
  have:=(k r hr).2.2
  simp only[iA,Uh,Ul,UE,mF] at this
  exact ⟨this.1.1.1,this.1.1.2,this.1.2,fun s hs=>(this.2 s hs).1⟩
 exact ⟨h1,h2,h3,h4,h5,h6,h7,fun r hr=>⟨(k r hr).1,(k r hr).2.1⟩,fun r hr=>(hb r hr).1,fun r hr=>(hb r hr).2.2.2,fun r hr=>⟨(hb r hr).2.1,(hb r hr).2.2.1⟩⟩
theorem aw.dt.neg {g:aw} (h:g.dt) {r:aW} (hr:r∈g.rules) {s:Int} (hs:s∈r.right) (hn:s < 0) : -1 - s < g.ax.length:=by
 have:=h.sym r hr s hs
 simp only[iz] at this
 rw[T6 (by omega)] at this
 simpa using this
theorem Hz (l:List Int) (is:List Bool) (t:Bool) (hl:aY l) (hs:∀ s∈l,cp s∧(s < 0→-1 - s < is.length)):aG Tryz.prog 117 [encI l,bI is,gb t] (gb (cz l is t)) :=
 aG.val (by
  intro v hv; simp at hv
  rcases hv with rfl | rfl | rfl
  ·exact fM _
  ·exact gG _
  ·exact .val _) (fun H=>(RV l is t hl hs H).mono fun r H' h=>h.1)
abbrev dw (is:List Bool):List (List V):=is.map fun x=>[gb x]
theorem x4 {h:aJ} {id:Nat} {is:List Bool} (hv:h.view id=.arr 1 (dw is)):er h (.sl id 0 is.length 1) (bI is):=by
 refine .sl id 0 is.length 1 1 (dw is) _ hv (by simp) (by simp) (fun i hi=>by simp) (fun i j hi hj=>?_)
 rw[U3]
 have e:(dw is).getD i []=[gb is[i]]:=by simp[T0,hi]
 rw[e] at hj ⊢
 have:j=0:=by simp at hj; omega
 subst this
 exact .val _
theorem BG {H:View} {id n:Nat} {is:List Bool} (hv:H id=.arr 1 (dw is)) (hn:n=is.length):eA H (.sl id 0 n 1) (bI is):=by
 have ht:∀ e∈dw is,∀ v∈e,Tree v:=by
  intro e he v hv
  obtain ⟨a,_,rfl⟩:=Ur.1 he
  rw[UT] at hv
  subst hv
  exact .val _
 have:=eA.sl (off:=0) (len:=n) (esz:=1) hv (by simp[hn]) ht
 rwa [Vj,Uo (by simp[hn])] at this
theorem kj {is:List Bool} {i:Nat} (h:i < is.length):(dw is).getD i []=[gb is[i]]:=by simp[T0,h]
theorem kE (is:List Bool) (i:Nat) (b:Bool):(dw is).set i [gb b]=dw (is.set i b):=by simp[Vp]
theorem xy (n:Nat) (b:Bool):List.replicate n [gb b]=dw (List.replicate n b):=by simp
def iter {α:Type} (f:α→α):Nat→α→α
 | 0,x=>x
 | n+1,x=>iter f n (f x)
def ey (t:Bool) (is:List Bool) (r:aW):List Bool:=if cz r.right is t=true then is.set r.left.toNat true else is
def jO (g:aw) (t:Bool) (is:List Bool):List Bool:=g.rules.foldl (ey t) is
def cd (g:aw):List Bool:=List.replicate g.ax.length false
def aA (g:aw) (t:Bool):List Bool:=if bR g=true then iter (jO g t) g.ax.length (cd g) else []
theorem Kw (t:Bool) (is:List Bool) (r:aW):(ey t is r).length=is.length:=by unfold ey; split <;> simp
def nj:SC :=
 .seq (.seq (ao [aj 22 7,aD 23 2 2,ay 24 23,aV 25 24,bg 26 .lss 22 25]) <|
 .cond (.tmp 26) (.skip) (.exit 2)) <|
 .seq (.block 3 (.seq (ao [aD 29 2 2,ay 30 29,aj 31 7,aR 32 3 30 31,aD 33 1 32,ay 34 33,aj 35 5,aj 36 1,bD 37 117 [34,35,36]]) <|
 .cond (.tmp 37) (ao [aj 38 5,aD 39 2 2,ay 40 39,aj 41 7,aR 42 3 40 41,aD 43 0 42,ay 44 43,aR 45 1 38 44,(none,.op (.store 1 (.tmp 45) (.val (.val (.bool true)))))]) (.skip))) <|
 ao [aj 27 7,aQ 28 .add 27 1,aj 7 28]
def nt:SC :=
 .seq (.seq (ao [aj 15 6,aD 16 1 2,ay 17 16,aV 18 17,bg 19 .lss 15 18]) <|
 .cond (.tmp 19) (.skip) (.exit 0)) <|
 .seq (.block 1 (.seq (ao [bj 7 0]) <|
 .block 2 (.loop nj))) <|
 ao [aj 20 6,aQ 21 .add 20 1,aj 6 21]
def pj:SF:=⟨.seq (ao [cO 2 0,((some 4),.op (.bP (.val (.emp 1))))]) <|
 .seq (.seq (ao [bp 8 4 2,bD 9 54 [8],dp 10 9]) <|
 .cond (.tmp 10) (.seq (ao [((some 4),.op (.bP (.val (.emp 1))))]) <|
 .ret) (.skip)) <|
 .seq (ao [aD 11 1 2,ay 12 11,aV 13 12,((some 14),.op (.make 1 1 [(.val (.bool false))] (.tmp 13) (.tmp 13))),aj 5 14]) <|
 .seq (.seq (ao [bj 6 0]) <|
 .block 0 (.loop nt)) <|
 .seq (ao [aj 46 5,aj 4 46]) <|
 .ret,
 [.tmp 4],47⟩
theorem tY:aU Tryz.prog 125 [2]=some pj:=by kernel_rfl
def lI:SF:=⟨.seq (ao [cO 1 0,((some 2),.op (.bP (.val (.emp 1))))]) <|
 .seq (ao [bp 3 4 1,pc 4 125 [(.tmp 3),(.val (.val (.bool false)))],aj 2 4]) <|
 .ret,
 [.tmp 2],5⟩
theorem rj:aU Tryz.prog 81 [1]=some lI:=by kernel_rfl
def kM:SF:=⟨.seq (ao [cO 1 0,((some 2),.op (.bP (.val (.emp 1))))]) <|
 .seq (ao [bp 3 4 1,pc 4 125 [(.tmp 3),(.val (.val (.bool true)))],aj 2 4]) <|
 .ret,
 [.tmp 2],5⟩
theorem qw:aU Tryz.prog 115 [1]=some kM:=by kernel_rfl
theorem PW (g:aw) (t:Bool):∀ v∈[V.agg (au g),gb t],Tree v:=by
 intro v hv; simp at hv
 rcases hv with rfl | rfl
 ·exact cT _ (dR g)
 ·exact .val _
set_option maxHeartbeats 2000000 in
theorem OZ (g:aw) (hg:g.Ok) (t:Bool) (H:View):aC Tryz.prog 125 [.agg (au g),gb t] H fun r H'=>∀ h':aJ,h'.view=H'→er h' r (bI (aA g t)):=by
 refine aC.of mixed tY ?_
 simp (disch:=omega) only [↓wr,seval,wq,ah,ag,ak,aa,ab,af,ai,ae,pj,au,encS]
 refine aE.pure (kY g hg) (by kernel_rfl) ?_
 repeat' (first | (refine av.dec (fun _=>?_) (fun _=>?_)) | (refine av.eq (fun _=>?_) (fun _=>?_)) | (refine av.ne (fun _=>?_) (fun _=>?_)) | (refine av.split (fun _=>?_) (fun _=>?_)) | (simp (disch:=omega) only [↓wr,seval,wq,ah,ag,ak,aa,ab,af,ai,ae,au,encS]))
 ·rename_i hr
  have hf:=bM hr
  obtain ⟨hN1,hN2⟩:=And.intro hf.mc hf.ax
  refine ⟨⟨by omega,by unfold aK; omega,by unfold aK; omega⟩,fun hz=>by omega,fun _ m hm=>?_⟩
  try simp (disch:=omega) only [↓wr,seval,wq,ah,ag,ak,aa,ab,af,ai,ae,au,encS]
  refine bc.intro (fun k T H'=>∃ (i:Nat) (is:List Bool),i+k=g.ax.length∧is.length=g.ax.length∧iter (jO g t) k is=iter (jO g t) g.ax.length (cd g)∧T 1=gb t∧T 2=.aO (au g) 0∧T 5=.sl m 0 g.ax.length 1∧H' m=.arr 1 (dw is)∧T 6=gi i) g.ax.length ?_ ?_
  ·refine ⟨0,cd g,by omega,by simp[cd],rfl,?_⟩
   simp (disch:=omega) only [↓wr,↓reduceIte,wq,ah,ag,ak,aa,ab,af,ai,ae,Nat.reduceEqDiff,Nat.reduceAdd,Nat.reduceLT,Nat.reduceLeDiff,Int.reduceNeg,Int.reduceToNat,reduceCtorEq,au,encS]
   exact ⟨by rw[xy]; rfl,rfl⟩
  ·rintro k T H' ⟨i,is,hk,hlen,hi,f1,f2,f5,fm,f6⟩
   simp (disch:=omega) only [↓wr,seval,wq,ah,ag,ak,aa,ab,af,ai,ae,nt,f1,f2,f5,f6,au,encS]
   refine av.dec (fun hc=>?_) (fun hc=>?_)
   ·simp (disch:=omega) only [↓wr,seval,wq,ah,ag,ak,aa,ab,af,ai,ae,f1,f2,f5,f6,au,encS]
    refine bc.intro (fun k' T H'=>∃ (j:Nat) (is':List Bool),j+k'=g.rules.length∧is'.length=g.ax.length∧(g.rules.drop j).foldl (ey t) is'=jO g t is∧T 1=gb t∧T 2=.aO (au g) 0∧T 5=.sl m 0 g.ax.length 1∧H' m=.arr 1 (dw is')∧T 6=gi i∧T 7=gi j) g.rules.length ?_ ?_
    ·refine ⟨0,is,by omega,hlen,rfl,?_⟩
     simp (disch:=omega) only [↓wr,↓reduceIte,wq,ah,ag,ak,aa,ab,af,ai,ae,Nat.reduceEqDiff,Nat.reduceAdd,Nat.reduceLT,Nat.reduceLeDiff,Int.reduceNeg,Int.reduceToNat,reduceCtorEq,f1,f2,f5,f6,fm,au,encS]
     rfl
    ·rintro k' T' H'' ⟨j,is',hk',hlen',hj,e1,e2,e5,em,e6,e7⟩
     simp (disch:=omega) only [↓wr,seval,wq,ah,ag,ak,aa,ab,af,ai,ae,nj,e1,e2,e5,e6,e7,au]
     refine av.dec (fun hd=>?_) (fun hd=>?_)
     ·have hle:=hf.rules
      have hg2:g.rules[j]?=some (g.rules[j]'(by omega)):=T4 (by omega)
      rw[eM (show j < g.rules.length by omega)] at hj
      have hmem:g.rules[j]'(by omega)∈g.rules:=Ud _
      generalize g.rules[j]'(by omega)=r at hg2 hj hmem
      simp only[Uu] at hj
      obtain ⟨hl1,hl2⟩:=hf.left r hmem
      obtain ⟨_,_,hs1,hs2⟩:=hg.aH r hmem
      have hall:=Hz r.right is' t hs1 (fun s hs=>⟨hs2 s hs,fun hn=>by have:=hf.neg hmem hs hn; omega⟩)
      simp (disch:=omega) only [↓wr,seval,wq,ah,ag,ak,aa,ab,af,ai,ae,e1,e2,e5,e6,e7,au,encS,aP,T8,hg2,Ue]
      refine aE.borrow hall (by kernel_rfl) (.val _) rfl (fun q hq=>?_) ?_
      ·match q,hq with
       | 0,_=>exact eA.tree (fM _)
       | 1,_=>exact BG em hlen'.symm
       | 2,_=>exact eA.tree (.val _)
      ·simp (disch:=omega) only [↓wr,seval,wq,ah,ag,ak,aa,ab,af,ai,ae,e1,e2,e5,e6,e7,au,encS,aP,T8,hg2,Ue]
       refine av.split (fun ha=>?_) (fun ha=>?_)
       ·have hst:ey t is' r=is'.set r.left.toNat true:=by rw[ey,T9 ha]
        simp (disch:=omega) only [↓wr,seval,wq,ah,ag,ak,aa,ab,af,ai,ae,e1,e2,e5,e6,e7,em,au,encS,aP,T8,hg2,Ue,kj (show r.left.toNat < is'.length by omega)]
        rw[hst] at hj
        exact ⟨by omega,by omega,k' - 1,by omega,j+1,is'.set r.left.toNat true,by omega,by simp[hlen'],hj,by rw[kE],rfl⟩
       ·have hst:ey t is' r=is':=by rw[ey,T6 (by rw[ha]; simp)]
        rw[hst] at hj
        simp (disch:=omega) only [↓wr,seval,wq,ah,ag,ak,aa,ab,af,ai,ae,e1,e2,e5,e6,e7]
        exact ⟨k' - 1,by omega,j+1,is',by omega,hlen',hj,by first | rfl | exact ⟨rfl,rfl⟩ | exact ⟨em,rfl⟩ | exact ⟨rfl,em,rfl⟩⟩
     ·rw[UB (by omega),Vk] at hj
      simp (disch:=omega) only [↓wr,seval,wq,ah,ag,ak,aa,ab,af,ai,ae,e1,e2,e5,e6,e7]
      obtain ⟨q,rfl⟩:∃ q,k=q+1:=⟨k - 1,by omega⟩
      exact ⟨q,by omega,i+1,is',by omega,hlen',by rw[hj]; exact hi,rfl,em,rfl⟩
   ·simp (disch:=omega) only [↓wr,seval,wq,ah,ag,ak,aa,ab,af,ai,ae,f1,f2,f5,f6,fm]
    have:k=0:=by omega
    subst this
    rintro h' rfl
    simp only[aA,T9 hr,← hi,iter]
    rw[← hlen]
    exact x4 fm
 ·rename_i hr
  rintro h' rfl
  simp only[aA,hr]
  exact .emp 1
theorem GB (g:aw) (hg:g.Ok) (t:Bool):cX Tryz.prog 125 [.agg (au g),gb t] (bI (aA g t)):=cX.of (PW g t) (OZ g hg t _)
theorem E7 (g:aw) (hg:g.Ok) (H:View):aC Tryz.prog 81 [.agg (au g)] H fun r H'=>r=bI (aA g false)∧H'=H:=by
 refine aC.of mixed rj ?_
 simp (disch:=omega) only [↓wr,seval,wq,ah,ag,ak,aa,ab,af,ai,ae,lI,au,encS]
 refine aE.pure (GB g hg false).pure (by kernel_rfl) ?_
 simp (disch:=omega) only [↓wr,seval,wq,ah,ag,ak,aa,ab,af,ai,ae,au,encS]
theorem wV (g:aw) (hg:g.Ok):aG Tryz.prog 81 [.agg (au g)] (bI (aA g false)) :=
 aG.of (ef g) ((E7 g hg _).mono fun r H' h h' _=>by rw[h.1]; exact .tree _ (gG _))
theorem B9 (g:aw) (hg:g.Ok) (H:View):aC Tryz.prog 115 [.agg (au g)] H fun r H'=>r=bI (aA g true)∧H'=H:=by
 refine aC.of mixed qw ?_
 simp (disch:=omega) only [↓wr,seval,wq,ah,ag,ak,aa,ab,af,ai,ae,kM,au,encS]
 refine aE.pure (GB g hg true).pure (by kernel_rfl) ?_
 simp (disch:=omega) only [↓wr,seval,wq,ah,ag,ak,aa,ab,af,ai,ae,au,encS]
theorem th (g:aw) (hg:g.Ok):aG Tryz.prog 115 [.agg (au g)] (bI (aA g true)) :=
 aG.of (ef g) ((B9 g hg _).mono fun r H' h h' _=>by rw[h.1]; exact .tree _ (gG _))
def mark (is:List Bool) (s:Int):List Bool:=if s < 0 then is.set (-1 - s).toNat true else is
def fT (p is:List Bool) (r:aW):List Bool:=if (is.getD r.left.toNat false && cz r.right p true)=true then r.right.foldl mark is else is
def oz (g:aw) (p is:List Bool):List Bool:=g.rules.foldl (fT p) is
def bS (g:aw):List Bool:=if bR g=true then iter (oz g (aA g true)) g.ax.length ((cd g).set g.start.toNat true) else []
theorem P1 (is:List Bool) (s:Int):(mark is s).length=is.length:=by unfold mark; split <;> simp
theorem EE:∀ (l:List Int) (is:List Bool),(l.foldl mark is).length=is.length
 | [],_=>rfl
 | s :: l,is=>by rw[Uu,EE l,P1]
theorem Mo (p is:List Bool) (r:aW):(fT p is r).length=is.length:=by unfold fT; split <;> simp[EE]
theorem Ao {f:List Bool→List Bool} (hf:∀ is,(f is).length=is.length):∀ (n:Nat) (is:List Bool),(iter f n is).length=is.length
 | 0,_=>rfl
 | n+1,is=>by rw[iter,Ao hf n,hf]
theorem Al {α:Type} {f:List Bool→α→List Bool} (hf:∀ is x,(f is x).length=is.length):∀ (l:List α) (is:List Bool),(l.foldl f is).length=is.length
 | [],_=>rfl
 | x :: l,is=>by rw[Uu,Al hf l,hf]
theorem eV {g:aw} (h:bR g=true) (t:Bool):(aA g t).length=g.ax.length:=by
 have hl:∀ is,(jO g t is).length=is.length:=fun is=>Al (Kw t) _ _
 rw[aA,T9 h,Ao hl]
 simp[cd]
def ka:SC :=
 .seq (.seq (.region false [⟨none,[aj 41 8,aD 42 1 7,ay 43 42,aV 44 43,bg 45 .lss 41 44,aj 46 45]⟩,⟨(some (46,true)),[aj 47 4,aD 48 0 7,ay 49 48,aR 50 1 47 49,ay 51 50]⟩,⟨none,[eS 52 46 51,aj 53 52]⟩,⟨(some (53,true)),[aD 54 1 7,ay 55 54,aj 56 3,pc 57 117 [(.tmp 55),(.tmp 56),(.val (.val (.bool true)))]]⟩,⟨none,[eS 58 53 57]⟩]) <|
 .cond (.tmp 58) (.skip) (.exit 4)) <|
 .seq (.block 5 (.seq (ao [aD 61 1 7,ay 62 61,aj 63 8,aR 64 1 62 63,ay 65 64,aQ 66 .lss 65 0]) <|
 .cond (.tmp 66) (ao [aj 67 4,aD 68 1 7,ay 69 68,aj 70 8,aR 71 1 69 70,ay 72 71,((some 73),.op (.arith .sub (.val (.val (.int .i64 (-1)))) (.tmp 72))),aR 74 1 67 73,(none,.op (.store 1 (.tmp 74) (.val (.val (.bool true)))))]) (.skip))) <|
 ao [aj 59 8,aQ 60 .add 59 1,aj 8 60]
def jZ:SC :=
 .seq (.seq (ao [aj 29 6,aD 30 2 1,ay 31 30,aV 32 31,bg 33 .lss 29 32]) <|
 .cond (.tmp 33) (.skip) (.exit 2)) <|
 .seq (.block 3 (.seq (ao [aD 36 2 1,ay 37 36,aj 38 6,aR 39 3 37 38,bp 40 3 39,((some 7),.op (.alloc [(.val (.int .i64 0)),(.emp 1),(.val (.int .i64 0))])),(none,.op (.store 3 (.tmp 7) (.tmp 40)))]) <|
 .seq (ao [bj 8 0]) <|
 .block 4 (.loop ka))) <|
 ao [aj 34 6,aQ 35 .add 34 1,aj 6 35]
def ke:SC :=
 .seq (.seq (ao [aj 22 5,aD 23 1 1,ay 24 23,aV 25 24,bg 26 .lss 22 25]) <|
 .cond (.tmp 26) (.skip) (.exit 0)) <|
 .seq (.block 1 (.seq (ao [bj 6 0]) <|
 .block 2 (.loop jZ))) <|
 ao [aj 27 5,aQ 28 .add 27 1,aj 5 28]
def lq:SF:=⟨.seq (ao [cO 1 0,((some 2),.op (.bP (.val (.emp 1))))]) <|
 .seq (.seq (ao [bp 9 4 1,bD 10 54 [9],dp 11 10]) <|
 .cond (.tmp 11) (.seq (ao [((some 2),.op (.bP (.val (.emp 1))))]) <|
 .ret) (.skip)) <|
 .seq (ao [bp 12 4 1,bD 13 115 [12],aj 3 13]) <|
 .seq (ao [aD 14 1 1,ay 15 14,aV 16 15,((some 17),.op (.make 1 1 [(.val (.bool false))] (.tmp 16) (.tmp 16))),aj 4 17]) <|
 .seq (ao [aj 18 4,aD 19 3 1,ay 20 19,aR 21 1 18 20,(none,.op (.store 1 (.tmp 21) (.val (.val (.bool true)))))]) <|
 .seq (.seq (ao [bj 5 0]) <|
 .block 0 (.loop ke)) <|
 .seq (ao [aj 75 4,aj 2 75]) <|
 .ret,
 [.tmp 2],76⟩
theorem qQ:aU Tryz.prog 116 [1]=some lq:=by kernel_rfl
theorem PE {l:List Bool} {i j:Nat} (h:l.getD j false=true):(l.set i true).getD j false=true:=by
 simp only[T0,Vm] at h ⊢
 by_cases e:i=j
 ·subst e
  by_cases hi:i < l.length
  ·simp[hi]
  ·rw[UF (by omega)] at h; simp at h
 ·rw[T6 e]; exact h
theorem PI {H:View} {m n:Nat} {o:dy} (hm:H m=o) (hn:H n=.dead) (ho:o≠.dead):m≠n:=by rintro rfl; exact ho (hm.symm.trans hn)
set_option maxHeartbeats 4000000 in
theorem Dm (g:aw) (hg:g.Ok) (H:View):aC Tryz.prog 116 [.agg (au g)] H fun r H'=>∀ h':aJ,h'.view=H'→er h' r (bI (bS g)):=by
 refine aC.of mixed qQ ?_
 simp (disch:=omega) only [↓wr,seval,wq,ah,ag,ak,aa,ab,af,ai,ae,lq,au,encS]
 refine aE.pure (kY g hg) (by kernel_rfl) ?_
 repeat' (first | (refine av.dec (fun _=>?_) (fun _=>?_)) | (refine av.eq (fun _=>?_) (fun _=>?_)) | (refine av.ne (fun _=>?_) (fun _=>?_)) | (refine av.split (fun _=>?_) (fun _=>?_)) | (simp (disch:=omega) only [↓wr,seval,wq,ah,ag,ak,aa,ab,af,ai,ae,au,encS]))
 ·rename_i hr
  have hf:=bM hr
  obtain ⟨hN1,hN2⟩:=And.intro hf.mc hf.ax
  refine aE.pure (th g hg) (by kernel_rfl) ?_
  have hpl:=eV hr true
  have hreach:bS g=iter (oz g (aA g true)) g.ax.length ((cd g).set g.start.toNat true):=by rw[bS,T9 hr]
  generalize aA g true=p at hpl hreach
  have hst:=hf.iX
  have hst2:=hf.start
  have hrep:List.replicate g.ax.length [V.val (Value.bool false)]=dw (cd g):=xy _ _
  have hnl:(cd g).length=g.ax.length:=by simp[cd]
  simp (disch:=omega) only [↓wr,seval,wq,ah,ag,ak,aa,ab,af,ai,ae,au,encS]
  refine ⟨⟨by omega,by unfold aK; omega,by unfold aK; omega⟩,fun hz=>by omega,fun _ m hm=>?_⟩
  rw[hrep]
  have hgs:(dw (cd g)).getD g.start.toNat []=[gb ((cd g)[g.start.toNat]'(by omega))]:=kj (by omega)
  simp (disch:=omega) only [↓wr,seval,wq,ah,ag,ak,aa,ab,af,ai,ae,au,encS,kj (show g.start.toNat < (cd g).length by omega),kE,Uc]
  refine ⟨by omega,by omega,?_⟩
  refine bc.intro (fun k T H'=>∃ (i:Nat) (is:List Bool),i+k=g.ax.length∧is.length=g.ax.length∧iter (oz g p) k is=bS g∧T 1=.aO (au g) 0∧T 3=bI p∧T 4=.sl m 0 g.ax.length 1∧H' m=.arr 1 (dw is)∧T 5=gi i) g.ax.length ?_ ?_
  ·refine ⟨0,(cd g).set g.start.toNat true,by omega,by simp[hnl],hreach.symm,?_⟩
   simp (disch:=omega) only [↓wr,↓reduceIte,wq,ah,ag,ak,aa,ab,af,ai,ae,Nat.reduceEqDiff,Nat.reduceAdd,Nat.reduceLT,Nat.reduceLeDiff,Int.reduceNeg,Int.reduceToNat,reduceCtorEq,au,encS]
   rw[hgs]
   exact ⟨by rw[← kE]; rfl,rfl⟩
  ·rintro k T H' ⟨i,is,hk,hlen,hi,f1,f3,f4,fm,f5⟩
   simp (disch:=omega) only [↓wr,seval,wq,ah,ag,ak,aa,ab,af,ai,ae,ke,f1,f3,f4,f5,au,encS]
   refine av.dec (fun hc=>?_) (fun hc=>?_)
   ·simp (disch:=omega) only [↓wr,seval,wq,ah,ag,ak,aa,ab,af,ai,ae,f1,f3,f4,f5,au,encS]
    refine bc.intro (fun k' T H'=>∃ (j:Nat) (is':List Bool),j+k'=g.rules.length∧is'.length=g.ax.length∧(g.rules.drop j).foldl (fT p) is'=oz g p is∧T 1=.aO (au g) 0∧T 3=bI p∧T 4=.sl m 0 g.ax.length 1∧H' m=.arr 1 (dw is')∧T 5=gi i∧T 6=gi j) g.rules.length ?_ ?_
    ·refine ⟨0,is,by omega,hlen,rfl,?_⟩
     simp (disch:=omega) only [↓wr,seval,wq,ah,ag,ak,aa,ab,af,ai,ae,f1,f3,f4,f5,fm,au,encS]
     first | done | exact ⟨rfl,rfl⟩ | rfl
    ·rintro k' T' H'' ⟨j,is',hk',hlen',hj,e1,e3,e4,em,e5,e6⟩
     simp (disch:=omega) only [↓wr,seval,wq,ah,ag,ak,aa,ab,af,ai,ae,jZ,e1,e3,e4,e5,e6,au]
     refine av.dec (fun hd=>?_) (fun hd=>?_)
     ·have hle:=hf.rules
      have hg2:g.rules[j]?=some (g.rules[j]'(by omega)):=T4 (by omega)
      rw[eM (show j < g.rules.length by omega)] at hj
      have hmem:g.rules[j]'(by omega)∈g.rules:=Ud _
      generalize g.rules[j]'(by omega)=r at hg2 hj hmem
      simp only[Uu] at hj
      obtain ⟨hl1,hl2⟩:=hf.left r hmem
      obtain ⟨_,_,hs1,hs2⟩:=hg.aH r hmem
      have hr6:=hf.right r hmem
      have hall:=Hz r.right p true hs1 (fun s hs=>⟨hs2 s hs,fun hn=>by have:=hf.neg hmem hs hn; omega⟩)
      simp (disch:=omega) only [↓wr,seval,wq,ah,ag,ak,aa,ab,af,ai,ae,e1,e3,e4,e5,e6,au,encS,aP,encI,T8,hg2,Ue]
      intro b hb
      have hne:m≠b:=PI em hb (by simp)
      try simp (disch:=omega) only [↓wr,seval,wq,ah,ag,ak,aa,ab,af,ai,ae,e1,e3,e4,e5,e6,au,encS,aP,encI]
      refine bc.intro (fun q T H'=>∃ (a:Nat) (is3:List Bool),a+q=r.right.length∧is3.length=g.ax.length∧(r.right.drop a).foldl mark is3=r.right.foldl mark is'∧((a=0∧is3=is')∨((is'.getD r.left.toNat false && cz r.right p true)=true∧is3.getD r.left.toNat false=true)) ∧
       T 1=.aO (au g) 0∧T 3=bI p∧T 4=.sl m 0 g.ax.length 1∧H' m=.arr 1 (dw is3)∧T 5=gi i∧T 6=gi j∧T 7=.ptr b 0 0∧H' b=.arr 3 [aP r]∧T 8=gi a) r.right.length ?_ ?_
      ·refine ⟨0,is',by omega,hlen',rfl,.inl ⟨rfl,rfl⟩,?_⟩
       simp (disch:=omega) only [↓wr,↓reduceIte,wq,ah,ag,ak,aa,ab,af,ai,ae,Nat.reduceEqDiff,Nat.reduceAdd,Nat.reduceLT,Nat.reduceLeDiff,Int.reduceNeg,Int.reduceToNat,reduceCtorEq,e1,e3,e4,e5,e6,em,hne,au,encS,aP]
       exact ⟨rfl,rfl⟩
      ·rintro q T3 H3 ⟨a,is3,hq,hlen3,ha,hcase,d1,d3,d4,dm,d5,d6,d7,db,d8⟩
       simp (disch:=omega) only [↓wr,seval,wq,ah,ag,ak,aa,ab,af,ai,ae,ka,d1,d3,d4,d5,d6,d7,d8,db,aP,encI]
       have hgl:is3[r.left.toNat]?=some (is3[r.left.toNat]'(by omega)):=T4 (by omega)
       have hgl2:is3.getD r.left.toNat false=is3[r.left.toNat]'(by omega):=by simp[T0,hgl]
       have hbg:=kj (show r.left.toNat < is3.length by omega)
       have hoff:(is'.getD r.left.toNat false && cz r.right p true)=false→fT p is' r=is3:=fun hW=>by
        rcases hcase with ⟨_,rfl⟩ | ⟨h1,_⟩
        ·rw[fT,hW]; rfl
        ·rw[hW] at h1; simp at h1
       generalize is3[r.left.toNat]'(by omega)=tl at hgl hgl2 hbg
       refine av.dec (fun ht=>?_) (fun ht=>?_)
       ·have hg3:r.right[a]?=some (r.right[a]'(by omega)):=T4 (by omega)
        rw[eM (show a < r.right.length by omega)] at ha
        have hms:r.right[a]'(by omega)∈r.right:=Ud _
        generalize r.right[a]'(by omega)=s at hg3 ha hms
        simp only[Uu] at ha
        have hin:=hs2 s hms
        simp (disch:=omega) only [↓wr,seval,wq,ah,ag,ak,aa,ab,af,ai,ae,d1,d3,d4,d5,d6,d7,d8,db,dm,aP,encI,hbg,Uc]
        refine ⟨by omega,by omega,?_⟩
        refine av.split (fun htl=>?_) (fun htl=>?_)
        ·simp (disch:=omega) only [↓wr,seval,wq,ah,ag,ak,aa,ab,af,ai,ae,d1,d3,d4,d5,d6,d7,d8,db,dm,aP,encI,hbg,Uc]
         refine aE.pure hall (by kernel_rfl) ?_
         simp (disch:=omega) only [↓wr,seval,wq,ah,ag,ak,aa,ab,af,ai,ae,d1,d3,d4,d5,d6,d7,d8,db,dm,aP,encI]
         refine av.split (fun hal=>?_) (fun hal=>?_)
         ·simp (disch:=omega) only [↓wr,seval,wq,ah,ag,ak,aa,ab,af,ai,ae,d1,d3,d4,d5,d6,d7,d8,db,dm,aP,encI,T8,hg3,Ue]
          have hW:(is'.getD r.left.toNat false && cz r.right p true)=true∧is3.getD r.left.toNat false=true:=by
           rcases hcase with ⟨_,rfl⟩ | h1
           ·exact ⟨by rw[hgl2,htl,hal]; rfl,by rw[hgl2,htl]⟩
           ·exact h1
          refine av.dec (fun hsn=>?_) (fun hsn=>?_)
          ·have hng:=hf.neg hmem hms hsn
           have hin1:=hin.1
           have hms2:mark is3 s=is3.set (-1 - s).toNat true:=by rw[mark,T9 hsn]
           simp (disch:=omega) only [↓wr,seval,wq,ah,ag,ak,aa,ab,af,ai,ae,d1,d3,d4,d5,d6,d7,d8,db,dm,aP,encI,T8,hg3,Ue,kj (show (-1 - s).toNat < is3.length by omega),Uc,hne.symm]
           rw[hms2] at ha
           exact ⟨by omega,by omega,q - 1,by omega,a+1,is3.set (-1 - s).toNat true,by omega,by simp[hlen3],ha,.inr ⟨hW.1,PE hW.2⟩,by rw[kE],by first | rfl | exact ⟨rfl,rfl⟩⟩
          ·have hms2:mark is3 s=is3:=by rw[mark,T6 hsn]
           rw[hms2] at ha
           simp (disch:=omega) only [↓wr,seval,wq,ah,ag,ak,aa,ab,af,ai,ae,d1,d3,d4,d5,d6,d7,d8,db,dm]
           exact ⟨q - 1,by omega,a+1,is3,by omega,hlen3,ha,.inr hW,by first | rfl | exact ⟨rfl,rfl⟩ | exact ⟨rfl,rfl,rfl⟩⟩
         ·simp (disch:=omega) only [↓wr,seval,wq,ah,ag,ak,aa,ab,af,ai,ae,d1,d3,d4,d5,d6,d7,d8,db,dm,aP,encI]
          have hst:=hoff (by rw[hal,Bool.and_false])
          exact ⟨k' - 1,by omega,j+1,is3,by omega,hlen3,by rw[← hst]; exact hj,rfl,rfl,rfl⟩
        ·simp (disch:=omega) only [↓wr,seval,wq,ah,ag,ak,aa,ab,af,ai,ae,d1,d3,d4,d5,d6,d7,d8,db,dm,aP,encI,hbg,Uc]
         have hst:fT p is' r=is3:=by
          rcases hcase with ⟨_,rfl⟩ | ⟨_,h1⟩
          ·rw[fT,hgl2,htl]; rfl
          ·rw[hgl2,htl] at h1; simp at h1
         exact ⟨k' - 1,by omega,j+1,is3,by omega,hlen3,by rw[← hst]; exact hj,rfl,rfl,rfl⟩
       ·simp (disch:=omega) only [↓wr,seval,wq,ah,ag,ak,aa,ab,af,ai,ae,d1,d3,d4,d5,d6,d7,d8,db,dm,aP,encI]
        rw[UB (by omega),Vk] at ha
        have hst:fT p is' r=is3:=by
         rcases hcase with ⟨h0,rfl⟩ | ⟨h1,_⟩
         ·unfold fT
          split
          ·exact ha.symm
          ·rfl
         ·rw[fT,T9 h1]; exact ha.symm
        exact ⟨k' - 1,by omega,j+1,is3,by omega,hlen3,by rw[← hst]; exact hj,rfl,rfl,rfl⟩
     ·rw[UB (by omega),Vk] at hj
      simp (disch:=omega) only [↓wr,seval,wq,ah,ag,ak,aa,ab,af,ai,ae,e1,e3,e4,e5,e6]
      obtain ⟨q,rfl⟩:∃ q,k=q+1:=⟨k - 1,by omega⟩
      exact ⟨q,by omega,i+1,is',by omega,hlen',by rw[hj]; exact hi,rfl,em,rfl⟩
   ·simp (disch:=omega) only [↓wr,seval,wq,ah,ag,ak,aa,ab,af,ai,ae,f1,f3,f4,f5,fm]
    have:k=0:=by omega
    subst this
    rintro h' rfl
    simp only[← hi,iter]
    rw[← hlen]
    exact x4 fm
 ·rename_i hr
  rintro h' rfl
  simp only[bS,hr]
  exact .emp 1
theorem Df (g:aw) (hg:g.Ok):cX Tryz.prog 116 [.agg (au g)] (bI (bS g)):=cX.of (ef g) (Dm g hg _)
noncomputable def yq:List (FuncId × DF):=AY Tryz.prog [(148,[]),(147,[]),(233,[]),(234,[])]
theorem sY:tq Tryz.prog yq:=AU _ _
theorem Qi (P:Program):sN P (fun _ _ _=>none):=fun _ _ _ _ h=>by simp at h
def Ry (o:Option V) (b:Bool):Bool:=match o with
 | some (.val (.bool c))=>c == b
 | _=>false
theorem RU {o:Option V} {b:Bool} (h:Ry o b=true):o=some (gb b):=by
 unfold Ry at h
 split at h
 ·rw[Va] at h; rw[h]
 ·simp at h
noncomputable def xG (tab:List (FuncId × DF)) (f:FuncId) (p:Int→Bool):Bool:=(List.range 256).all fun c=>Ry (zB Tryz.prog tab (fun _ _ _=>none) f [gy (c:Int)]) (p (c:Int))
theorem vR {tab:List (FuncId × DF)} (ht:tq Tryz.prog tab) {f:FuncId} {p:Int→Bool} (h:xG tab f p=true) (c:Int) (h0:0≤c) (h1:c≤255):aG Tryz.prog f [gy c] (gb (p c)):=by
 have:=UE.1 h c.toNat (by simp; omega)
 rw[show ((c.toNat:Nat):Int)=c by omega] at this
 exact (wa mixed ht (Qi _) (by intro v hv; simp at hv; subst hv; exact .val _) (RU this)).pure
def yf (c:Int):Bool:=decide (32≤c) && decide (c≤126) && c != 39 && c != 92
def Dp (c:Int):Bool:=c == 110 || c == 116 || c == 92 || c == 39
theorem Kd:xG yq 147 uY=true:=by kernel_rfl
theorem MY:xG yq 148 nN=true:=by kernel_rfl
theorem N1:xG yq 233 yf=true:=by kernel_rfl
theorem Q3:xG yq 234 Dp=true:=by kernel_rfl
theorem DW {s:ByteArray} {c:Int} (h:c∈fp s):0≤c∧c≤255:=by
 unfold fp at h
 obtain ⟨b,_,rfl⟩:=Ur.1 h
 have:=b.toNat_lt
 omega
theorem Nt (s:ByteArray):gC s=(fp s).map fun x=>[gy x]:=by simp[gC,fp]
noncomputable def J0:List (FuncId × DF):=AY Tryz.prog [(49,[]),(94,[]),(134,[]),(177,[]),(212,[]),(213,[]),(214,[]),(215,[]),(232,[]),(178,[]),(216,[]),(179,[]),(194,[]),(193,[]),(192,[]),(217,[]),(218,[]),(219,[]),(135,[]),(183,[]),(182,[]),(220,[]),(221,[]),(181,[]),(184,[]),(180,[]),(95,[1]),(138,[3]),(151,[]),(154,[]),(140,[4]),(186,[4]),(139,[2]),(152,[2]),(223,[3]),(136,[]),(185,[5]),(222,[]),(137,[])]
theorem Ky:tq Tryz.prog J0:=AU _ _
def AS (l:List Int):V:=.aL (l.map fun x=>[gy x])
theorem Nz (l:List Int):Tree (AS l):=fD _ _ fun x _ v hv=>by simp at hv; subst hv; exact .val _
def rQ (g:aw):V:=.bE [.agg (au g),.val (.complex .f64 0 0),gi 0]
theorem IE {l:List Int} {g:aw} (h:zB Tryz.prog J0 (fun _ _ _=>none) 49 [AS l]=some (rQ g)):cX Tryz.prog 49 [AS l] (rQ g) :=
 wa mixed Ky (Qi _) (by intro v hv; simp at hv; subst hv; exact Nz _) h
abbrev bV (κ:Type):=List (κ × V × Nat)
def ct {κ:Type} (key:κ→Value) (m:bV κ):List (V × V × Nat):=m.map fun x=>(.val (key x.1),x.2.1,x.2.2)
def getM {κ:Type} [BEq κ] (m:bV κ) (k:κ):Option V:=(m.find? fun x=>k == x.1).map (·.2.1)
def bJ {κ:Type} [BEq κ] (k:κ) (v:V) (c:Nat):bV κ→bV κ
 | []=>[(k,v,c)]
 | x :: r=>if k == x.1 then (k,v,x.2.2) :: r else x :: bJ k v c r
structure An {κ:Type} [BEq κ] (P:Program) (kt:TypeId) (key:κ→Value):Prop where
 ty:∃ d,P.underlying kt=some d∧(∀ a b,Instr.sameNow d (key a) (key b)=some (a == b))∧(∀ a e,bG P (Instr.checkKey e 10000 kt (key a))=some ())
 bits:∀ a b,(a == b)=true→Instr.sameBits 10000 (key b) (key a)=true
theorem vm {κ:Type} (key:κ→Value):∀ m:bV κ,hX (ct key m)=some (m.map fun x=>{ key:=key x.1,val:=.nilFunc,born:=x.2.2 })
 | []=>rfl
 | x :: r=>by
  have:=vm key r
  simp only[ct] at this
  simp[ct,hX,dh,this]
def gF {κ:Type} [BEq κ] (k:κ):bV κ→Option Nat
 | []=>none
 | x :: r=>if k == x.1 then some 0 else (gF k r).map (·+1)
theorem zQ {κ:Type} [BEq κ] {key:κ→Value} {d:TypeDesc} (h:∀ a b,Instr.sameNow d (key a) (key b)=some (a == b)) (k:κ):∀ (m:bV κ) (i:Nat),
  Instr.findNow d (key k) (m.map fun x=>{ key:=key x.1,val:=.nilFunc,born:=x.2.2 }) i=some ((gF k m).map fun j=>(i+j,.nilFunc))
 | [],i=>rfl
 | x :: r,i=>by
  simp only[Uz,Instr.findNow,h,gF]
  cases hk:k == x.1 with
  | true=>simp
  | false =>
   simp only[zQ h k r (i+1),Ut,if_false,Option.map_map]
   congr 2
   funext j
   simp only[Function.comp]
   congr 1
   omega
theorem yT {κ:Type} [BEq κ] {P:Program} {kt:TypeId} {key:κ→Value} (h:An P kt key) (k:κ) (e:Bool) (m:bV κ):mb P kt (.val (key k)) e (ct key m)=some (gF k m):=by
 obtain ⟨d,hd,hn,hc⟩:=h.ty
 have hu:bG P (underlying kt)=some d:=dZ hd
 simp only[mb,dh,vm,bw,hc,UK]
 have:bG P (Instr.findKey kt (key k) (m.map fun x=>{ key:=key x.1,val:=.nilFunc,born:=x.2.2 }))=some ((gF k m).map fun j=>(0+j,.nilFunc)):=by
  unfold Instr.findKey
  rw[bw,hu,UK,zQ hn]
  rfl
 rw[this]
 cases gF k m with
 | none=>rfl
 | some j=>simp
theorem wu {P:Program} {kt:TypeId} {d:TypeDesc} (h:P.underlying kt=some d) (hd:match d with | .int _ | .string | .bool=>True | _=>False) (e:Bool) (n:Nat) (v:Value):bG P (Instr.checkKey e (n+1) kt v)=some ():=by
 unfold Instr.checkKey
 rw[bw,dZ h,UK]
 cases d <;> first | exact hd.elim | rfl
theorem kx {P:Program} {kt:TypeId} (k:IntKind) (h:P.underlying kt=some (.int k)):An P kt (Value.int k) where
 ty:=⟨_,h,fun a b=>by simp[Instr.sameNow],fun a e=>wu h trivial e 9999 _⟩
 bits:=fun a b hab=>by
  have:a=b:=by simpa using hab
  subst this
  simp[Instr.sameBits]
theorem vV {κ:Type} [BEq κ] {key:κ→Value} (k:κ):∀ m:bV κ,match gF k m with
  | some i=>∃ x,m[i]?=some x∧(k == x.1)=true∧getM m k=some x.2.1∧(ct key m)[i]?=some (.val (key x.1),x.2.1,x.2.2)∧∀ v c,(ct key m).set i (.val (key k),v,x.2.2)=ct key (bJ k v c m)∧(bJ k v c m).length=m.length
  | none=>getM m k=none∧∀ v c,ct key m ++ [(.val (key k),v,c)]=ct key (bJ k v c m)∧(bJ k v c m).length=m.length+1
 | []=>⟨rfl,fun v c=>⟨rfl,rfl⟩⟩
 | x :: r=>by
  have ih:=vV (key:=key) k r
  simp only[gF]
  cases hk:k == x.1 with
  | true=>exact ⟨x,rfl,hk,by simp[getM,hk],rfl,fun v c=>by simp[bJ,hk,ct]⟩
  | false =>
   simp only[Ut,if_false]
   cases hi:gF k r with
   | some i =>
    rw[hi] at ih
    obtain ⟨y,h1,h2,h3,h4,h5⟩:=ih
    refine ⟨y,by simpa using h1,h2,by simpa [getM,hk] using h3,by simpa [ct] using h4,fun v c=>?_⟩
    obtain ⟨g1,g2⟩:=h5 v c
    exact ⟨by simp only[ct] at g1 ⊢; simp[bJ,hk,g1],by simp[bJ,hk,g2]⟩
   | none =>
    rw[hi] at ih
    refine ⟨by simpa [getM,hk] using ih.1,fun v c=>?_⟩
    obtain ⟨g1,g2⟩:=ih.2 v c
    exact ⟨by simp only[ct] at g1 ⊢; simp[bJ,hk,g1],by simp[bJ,hk,g2]⟩
section
variable {P:Program} {T:Env} {H:View} {κ:Type} [BEq κ] {key:κ→Value} {kt et t ty:TypeId}
theorem zu {K:V→View→Prop} {w:cE (T,H,K)} {x i:Operand} {z:V} {id c:Nat} {m:bV κ} {k:κ} (hm:dz P t=some (kt,et)) (hz:zeroV P et=some z) (hk:An P kt key)
  (hx:ev T x=.mp id) (hi:ev T i=.val (key k)) (hH:H id=.map (ct key m) c) (h:K ((getM m k).getD z) H):kb P (.lookup t x i false) ty T H K w:=by
 intro n _
 have hf:=yT hk k (ct key m).isEmpty m
 have hg:=vV (key:=key) k m
 refine ⟨(getM m k).getD z,.none,[id],?_,h⟩
 simp only[sI,cm,oper,fE,hm,hz,hx,hi,hH,hf]
 cases hj:gF k m with
 | some j =>
  rw[hj] at hg
  obtain ⟨y,h1,h2,h3,h4,_⟩:=hg
  simp[h4,h3]
 | none =>
  rw[hj] at hg
  simp[hg.1]
theorem P3 {K:V→View→Prop} {w:cE (T,H,K)} {x i:Operand} {z:V} {id c:Nat} {m:bV κ} {k:κ} (hm:dz P t=some (kt,et)) (hz:zeroV P et=some z) (hk:An P kt key)
  (hx:ev T x=.mp id) (hi:ev T i=.val (key k)) (hH:H id=.map (ct key m) c) (h:K (.bE [(getM m k).getD z,.val (.bool (getM m k).isSome)]) H):kb P (.lookup t x i true) ty T H K w:=by
 intro n _
 have hf:=yT hk k (ct key m).isEmpty m
 have hg:=vV (key:=key) k m
 refine ⟨_,.none,[id],?_,h⟩
 simp only[sI,cm,oper,fE,hm,hz,hx,hi,hH,hf]
 cases hj:gF k m with
 | some j =>
  rw[hj] at hg
  obtain ⟨y,h1,h2,h3,h4,_⟩:=hg
  simp[h4,h3]
 | none =>
  rw[hj] at hg
  simp[hg.1]
theorem PT (hk:An P kt key) (k k':κ) (h:(k == k')=true):sameKey (.val (key k')) (.val (key k))=true:=by
 simp only[sameKey,dh]; exact hk.bits _ _ h
theorem uU {K:V→View→Prop} {w:cE (T,H,K)} {x i y:Operand} {id c:Nat} {m:bV κ} {k:κ} {v:V} (hm:dz P t=some (kt,et)) (hk:An P kt key)
  (hx:ev T x=.mp id) (hi:ev T i=.val (key k)) (hy:ev T y=v) (hH:H id=.map (ct key m) c)
  (h:∀ c',K .any (H.set id (.map (ct key (bJ k v c m)) c'))):kb P (.mapUpdate t x i y) ty T H K w:=by
 intro n _
 have hf:=yT hk k false m
 have hg:=vV (key:=key) k m
 cases hj:gF k m with
 | some j =>
  rw[hj] at hg hf
  obtain ⟨z,h1,h2,h3,h4,h5⟩:=hg
  refine ⟨.any,.eW id (.map ((ct key m).set j (.val (key k),v,z.2.2)) c),[id],?_,?_⟩
  ·simp only[sI,cm,oper,eZ,hm,hx,hi,hy,hH,hf,h4,PT hk k z.1 h2,if_true]
  ·rw[(h5 v c).1]; exact h c
 | none =>
  rw[hj] at hg hf
  refine ⟨.any,.eW id (.map (ct key m ++ [(.val (key k),v,c)]) (c+1)),[id],?_,?_⟩
  ·simp only[sI,cm,oper,eZ,hm,hx,hi,hy,hH,hf]
  ·rw[(hg.2 v c).1]; exact h (c+1)
theorem RX {P:Program} {T:Env} {H:View} {t ty:TypeId} {x i y:Operand} {K:V→View→Prop} {w:cE (T,H,K)} : kb P (.insert t x i y) ty T H K w=kb P (.mapUpdate t x i y) ty T H K w:=propext Iff.rfl
omit [BEq κ] in
theorem RE {K:V→View→Prop} {w:cE (T,H,K)} {x:Operand} {id c:Nat} {m:bV κ} (hm:dz P t=some (kt,et)) (hx:ev T x=.mp id) (hH:H id=.map (ct key m) c) (h:K (ak m.length) H) :
  kb P (.call { callee:=.builtin .len,args:=#[x],argTypes:=#[t] }) ty T H K w:=by
 intro n _
 have hu:∃ a b,P.underlying t=some (.map a b):=by
  unfold dz at hm
  split at hm
  ·rename_i a b h1; exact ⟨a,b,h1⟩
  ·simp at hm
 obtain ⟨a,b,hu⟩:=hu
 refine ⟨ak m.length,.none,[id],?_,h⟩
 have hl:(ct key m).length=m.length:=by simp[ct]
 simp only[sI,cm,oper,Vt,Um,UG,tV,hu,hx,hH,hl]
 simp[hu,hx,hH,hl,tV]
end
theorem pA {κ:Type} [BEq κ] [LawfulBEq κ] (k k':κ) (v:V) (c:Nat):∀ m:bV κ,getM (bJ k v c m) k'=if k' == k then some v else getM m k'
 | []=>by
  by_cases h:k'=k
  ·subst h; simp[bJ,getM]
  ·simp[bJ,getM,h]
 | x :: r=>by
  have ih:=pA k k' v c r
  simp only[bJ]
  by_cases hk:k=x.1
  ·by_cases h:k'=k
   ·subst h; simp[hk,getM]
   ·have:¬ k'=x.1:=fun e=>h (e.trans hk.symm)
    simp[hk,getM,this]
  ·simp only[Va,hk,if_false]
   by_cases h:k'=x.1
   ·have:¬ k'=k:=fun e=>hk (e.symm.trans h)
    simp[getM,h]
    subst h
    simp[this]
   ·simp only[getM,VH,beq_eq_false_iff_ne.2 h] at ih ⊢
    exact ih
def ej {κ β:Type} [BEq κ] (a:List (κ × β)) (k:κ):Option β:=(a.find? fun x=>k == x.1).map (·.2)
def jW {κ β:Type} [BEq κ] (k:κ) (v:β):List (κ × β)→List (κ × β)
 | []=>[(k,v)]
 | x :: r=>if k == x.1 then (k,v) :: r else x :: jW k v r
def nG {κ β:Type} (encV:β→V):List (κ × β)→bV κ→Prop
 | [],[]=>True
 | x :: a,y :: m=>y.1=x.1∧y.2.1=encV x.2∧nG encV a m
 | _,_=>False
theorem nG.get {κ β:Type} [BEq κ] {encV:β→V} (k:κ):∀ {a:List (κ × β)} {m:bV κ},nG encV a m→getM m k=(ej a k).map encV
 | [],[],_=>rfl
 | x :: a,y :: m,⟨h1,h2,h3⟩=>by
  have ih:=nG.get k h3
  simp only[getM,ej,VH,h1] at ih ⊢
  cases k == x.1 with
  | true=>simp[h2]
  | false=>simpa using ih
theorem nG.put {κ β:Type} [BEq κ] {encV:β→V} (k:κ) (v:β) (c:Nat):∀ {a:List (κ × β)} {m:bV κ},nG encV a m→nG encV (jW k v a) (bJ k (encV v) c m)
 | [],[],_=>⟨rfl,rfl,trivial⟩
 | x :: a,y :: m,⟨h1,h2,h3⟩=>by
  have ih:=nG.put k v c h3
  simp only[jW,bJ,h1]
  cases k == x.1 with
  | true=>exact ⟨rfl,rfl,h3⟩
  | false=>exact ⟨h1,h2,ih⟩
theorem nG.len {κ β:Type} {encV:β→V} : ∀ {a:List (κ × β)} {m:bV κ},nG encV a m→m.length=a.length
 | [],[],_=>rfl
 | x :: a,y :: m,⟨_,_,h3⟩=>by simp[nG.len h3]
theorem GA {κ β:Type} [BEq κ] [LawfulBEq κ] (k k':κ) (v:β):∀ a:List (κ × β),ej (jW k v a) k'=if k' == k then some v else ej a k'
 | []=>by
  by_cases h:k'=k
  ·subst h; simp[jW,ej]
  ·simp[jW,ej,h]
 | x :: r=>by
  have ih:=GA k k' v r
  simp only[jW]
  by_cases hk:k=x.1
  ·by_cases h:k'=k
   ·subst h; simp[hk,ej]
   ·have:¬ k'=x.1:=fun e=>h (e.trans hk.symm)
    simp[hk,ej,this]
  ·simp only[Va,hk,if_false]
   by_cases h:k'=x.1
   ·have:¬ k'=k:=fun e=>hk (e.symm.trans h)
    simp[ej,h]
    subst h
    simp[this]
   ·simp only[ej,VH,beq_eq_false_iff_ne.2 h] at ih ⊢
    exact ih
def DH (n k:Nat) (J:Nat→Env→View→Prop) (T:Env) (H:View):Prop:=∃ i,i+k=n∧J i T H
theorem bc.up {P:Program} {T:Env} {H:View} {c:SC} {Q:Exit→Env→View→Prop} {v:cE (T,H,Q)} (n:Nat) (J:Nat→Env→View→Prop) (h0:J 0 T H)
  (hs:∀ i k T H,i+k=n→J i T H→wS P c T H fun e T' H'=>zL e (∃ k',k' < k∧DH n k' J T' H') (Q e T' H')):bc P c T H Q v :=
 bc.intro (fun k T H=>DH n k J T H) n ⟨0,by omega,h0⟩ fun k T H ⟨i,hk,hj⟩=>hs i k T H hk hj
theorem aN {n i k:Nat} {J:Nat→Env→View→Prop} {T:Env} {H:View} (hk:i+k=n) (hlt:i < n) (hJ:J (i+1) T H):∃ k',k' < k∧DH n k' J T H:=⟨k - 1,by omega,i+1,by omega,hJ⟩
def owner:V→Option Nat
 | .sl id _ _ _=>some id
 | _=>none
def bf (H:View) (u:V) (sz:Nat) (es:List (List V)):Prop :=
 (es=[]∧∃ k,u=.emp k)∨(∃ n,u=.sl n 0 es.length sz∧H n=.arr sz es)
theorem bf.nil {H:View} {sz k:Nat} : bf H (.emp k) sz []:=.inl ⟨rfl,k,rfl⟩
theorem bf.len {H:View} {u:V} {sz:Nat} {es:List (List V)} (h:bf H u sz es):cG u=some es.length:=by
 rcases h with ⟨rfl,k,rfl⟩ | ⟨n,rfl,_⟩ <;> rfl
theorem bf.live {H:View} {u:V} {sz:Nat} {es:List (List V)} (h:bf H u sz es) {id:Nat} (hid:owner u=some id):H id=.arr sz es∧u=.sl id 0 es.length sz:=by
 rcases h with ⟨rfl,k,rfl⟩ | ⟨n,rfl,hn⟩
 ·simp[owner] at hid
 ·simp[owner] at hid; subst hid; exact ⟨hn,rfl⟩
theorem bf.keep {H H':View} {u:V} {sz:Nat} {es:List (List V)} (h:bf H u sz es) (hk:∀ id,owner u=some id→H' id=H id):bf H' u sz es:=by
 rcases h with ⟨rfl,k,rfl⟩ | ⟨n,rfl,hn⟩
 ·exact .inl ⟨rfl,k,rfl⟩
 ·exact .inr ⟨n,rfl,by rw[hk n rfl]; exact hn⟩
theorem bf.fresh {H:View} {u:V} {sz m:Nat} {es:List (List V)} {o:dy} (h:bf H u sz es) (hm:H m=.dead):bf (H.set m o) u sz es :=
 h.keep fun id hid=>by
  have:=(h.live hid).1
  have e:id≠m:=by rintro rfl; rw[hm] at this; simp at this
  simp[View.set,e]
theorem bf.ne {H:View} {u:V} {sz m:Nat} {es:List (List V)} (h:bf H u sz es) (hm:H m=.dead):owner u≠some m:=fun e=>by
 have:=(h.live e).1; rw[hm] at this; simp at this
theorem bf.other {H:View} {u:V} {sz m:Nat} {es:List (List V)} {o:dy} (h:bf H u sz es) (hm:owner u≠some m):bf (H.set m o) u sz es :=
 h.keep fun id hid=>by
  have e:id≠m:=by rintro rfl; exact hm hid
  simp[View.set,e]
theorem bf.new {H:View} {n sz:Nat} {es:List (List V)} : bf (H.set n (.arr sz es)) (.sl n 0 es.length sz) sz es:=.inr ⟨n,rfl,by simp[View.set]⟩
theorem cb {H:View} {m z sz:Nat} {e:List V} : bX (View.set H m (.arr z [e])) (.sl m 0 1 sz)=some ([e],[m]):=by
 simp[bX,View.set]
def Left (H H':View) (u u':V):Prop:=∀ id,H id≠.dead→owner u≠some id→H' id=H id∧owner u'≠some id
theorem yV {sz bytes:Nat} {u:V} {es xs:List (List V)} {H:View} {K:V→View→Prop} {w:cE (H,K)} (ho:bf H u sz es) (hx:xs≠[]) (hok:(xs.all fun e=>e.length == sz && e.all aX)=true)
  (hl:(es.length+xs.length) * bytes < aK) (hl2:es.length+xs.length < aK) (hk:∀ u' H',bf H' u' sz (es ++ xs)→Left H H' u u'→K u' H'):oA sz bytes u xs H K w:=by
 have he:xs.isEmpty=false:=by cases xs with | nil=>exact absurd rfl hx | cons=>rfl
 rcases ho with ⟨rfl,k,rfl⟩ | ⟨n,rfl,hn⟩
 ·rw[xE _ _ _ _ _ _ _ he]
  refine ⟨hok,⟨by simpa using hl,by simpa using hl2⟩,fun m hm=>hk _ _ ?_ ?_⟩
  ·exact .inr ⟨m,rfl,by simp[View.set]⟩
  ·intro id hid _
   have e:id≠m:=by rintro rfl; exact hid hm
   exact ⟨by simp[View.set,e],by simp[owner,Ne.symm e]⟩
 ·rw[vL _ _ _ _ _ _ _ _ _ _ he,hn]
  refine ⟨hok,⟨by simp,rfl,hl,hl2⟩,fun m hm=>hk _ _ ?_ ?_⟩
  ·refine .inr ⟨m,by simp,by simp[View.set]⟩
  ·intro id hid ho
   have e:id≠m:=by rintro rfl; exact hid hm
   have e2:id≠n:=by rintro rfl; exact ho rfl
   exact ⟨by simp[View.set,e,e2],by simp[owner,Ne.symm e]⟩
theorem Left.refl {H:View} {u:V} : Left H H u u:=fun _ _ h=>⟨rfl,h⟩
theorem ib {sz bytes:Nat} {u:V} {es xs:List (List V)} {H:View} {K:V→View→Prop} {w:cE (H,K)} (ho:bf H u sz es) (hok:(xs.all fun e=>e.length == sz && e.all aX)=true)
  (hl:(es.length+xs.length) * bytes < aK) (hl2:es.length+xs.length < aK) (hk:∀ u' H',bf H' u' sz (es ++ xs)→Left H H' u u'→K u' H'):oA sz bytes u xs H K w:=by
 cases xs with
 | nil =>
  have:=hk u H (by simpa using ho) .refl
  rcases ho with ⟨rfl,k,rfl⟩ | ⟨n,rfl,hn⟩
  ·exact this
  ·exact this
 | cons x xs=>exact yV ho (by simp) hok hl hl2 hk
theorem eA.own {H:View} {u:V} {sz:Nat} {es:List (List V)} (h:bf H u sz es) (ht:∀ e∈es,∀ v∈e,Tree v):eA H u (.aL es):=by
 rcases h with ⟨rfl,k,rfl⟩ | ⟨n,rfl,hn⟩
 ·exact fun h _=>.emp k
 ·have:=eA.sl (off:=0) (len:=es.length) (esz:=sz) hn (by simp) ht
  rwa [Vj,Uo (by simp)] at this
theorem er.own {h:aJ} {u:V} {sz:Nat} {es:List (List V)} {es':List (List V)} (ho:bf h.view u sz es) (hl:es'.length=es.length) (hi:∀ i,i < es.length→(es'.getD i []).length=(es.getD i []).length)
  (hv:∀ i j,i < es.length→j < (es'.getD i []).length→er h ((es.getD i []).getD j .any) ((es'.getD i []).getD j .any)):er h u (.aL es'):=by
 rcases ho with ⟨rfl,k,rfl⟩ | ⟨n,rfl,hn⟩
 ·have:es'=[]:=Vn.1 (by simpa using hl)
  subst this
  exact .emp k
 ·exact .sl n 0 es.length sz sz es es' hn (by simp) hl (fun i h=>by rw[U3]; exact hi i h) (fun i j h1 h2=>by rw[U3]; exact hv i j h1 h2)
theorem er.On {h:aJ} {α:Type} {u:V} {sz:Nat} {l:List α} {f:α→Value} (ho:bf h.view u sz (l.map fun x=>[V.val (f x)])):er h u (.aL (l.map fun x=>[V.val (f x)])):=by
 refine er.own ho rfl (fun i _=>rfl) (fun i j hi hj=>?_)
 simp only[Uc] at hi
 have e:(l.map fun x=>[V.val (f x)]).getD i []=[V.val (f l[i])]:=by simp[T0,hi]
 rw[e] at hj ⊢
 have:j=0:=by simp at hj; omega
 subst this
 exact .val _
def dx (H H':View) (r:V):Prop:=∀ id,H id≠.dead→H' id=H id∧owner r≠some id
theorem dx.emp {H:View} {k:Nat} : dx H H (.emp k):=fun _ _=>⟨rfl,by simp[owner]⟩
theorem dx.new {H:View} {n a b c:Nat} {o:dy} (hn:H n=.dead):dx H (H.set n o) (.sl n a b c):=fun id hid=>by
 have e:id≠n:=by rintro rfl; exact hid hn
 exact ⟨by simp[View.set,e],by simp[owner,Ne.symm e]⟩
theorem bf.left {H H':View} {u u' x:V} {sz:Nat} {es:List (List V)} (h:bf H x sz es) (hl:Left H H' u u') (hd:∀ id,owner x=some id→owner u≠some id):bf H' x sz es :=
 h.keep fun id hid=>(hl id (by rw[(h.live hid).1]; simp) (hd id hid)).1
theorem bf.Re {H H':View} {x r:V} {sz:Nat} {es:List (List V)} (h:bf H x sz es) (hl:dx H H' r):bf H' x sz es :=
 h.keep fun id hid=>(hl id (by rw[(h.live hid).1]; simp)).1
theorem set_set {H:View} {n:Nat} {a b:dy} : View.set (View.set H n a) n b=View.set H n b:=by
 funext id; simp only[View.set]; split <;> rfl
theorem dq {m b:Nat} {o x:dy} (h:(if m=b then o else x)=.dead) (ho:o≠.dead):m≠b∧x=.dead:=by
 split at h
 ·exact absurd h ho
 ·rename_i e; exact ⟨e,h⟩
theorem dc {z:Nat} {es:List (List V)} : dy.arr z es≠.dead:=by simp
def pY (H:View):List V→List V→Prop
 | [],[]=>True
 | v :: vs,t :: ts=>eA H v t∧pY H vs ts
 | _,_=>False
theorem pY.len {H:View} : ∀ {vs ts:List V},pY H vs ts→ts.length=vs.length
 | [],[],_=>rfl
 | _ :: _,_ :: _,h=>by simp[pY.len h.2]
theorem pY.get {H:View} : ∀ {vs ts:List V},pY H vs ts→∀ i,i < vs.length→eA H (vs.getD i .any) (ts.getD i .any)
 | [],[],_,i,hi=>by simp at hi
 | _ :: _,_ :: _,h,0,_=>h.1
 | _ :: _,_ :: _,h,i+1,hi=>pY.get h.2 i (by simpa using hi)
theorem aE.AD {P:Program} {q:Bool} {f:FuncId} {H:View} {vs ts:List V} {K:V→View→Prop} {v:cE (H,K)} {t:V} (hc:aG P f ts t) (hok:dG P f=true) (hf:Aw t) (hl:pY H vs ts) (hk:K t H):aE P q f vs H K v :=
 aE.borrow hc hok hf hl.len hl.get hk
theorem aE.SA {P:Program} {q:Bool} {f:FuncId} {H:View} {vs ts:List V} {K:V→View→Prop} {v:cE (H,K)} {t:V} (hc:cX P f ts t) (hok:dG P f=true) (hl:pY H vs ts) (hk:K t H):aE P q f vs H K v :=
 aE.uP hc hok hl.len hl.get hk
theorem eA.box {H:View} {q z:Nat} {e:List V} (hq:H q=.arr z [e]) (ht:∀ v∈e,Tree v):eA H (.ptr q 0 0) (.aO e 0):=by
 rintro h rfl
 refine .ptr q 0 0 z [e] e hq (by simp) (by simp) (fun k hk=>?_)
 simp only[Ve]
 have e2:e.getD k .any=e[k]:=by simp[T0,hk]
 rw[e2]
 exact .tree _ (ht _ (Ud _))
theorem bf.sl {H:View} {u:V} {sz:Nat} {es:List (List V)} (h:bf H u sz es) (hne:0 < es.length):∃ n,u=.sl n 0 es.length sz∧H n=.arr sz es:=by
 rcases h with ⟨rfl,_⟩ | h
 ·simp at hne
 ·exact h
abbrev cF:=V × Nat × List (List V)
def bt (H:View) (L:List cF):Prop:=(∀ x∈L,bf H x.1 x.2.1 x.2.2)∧(L.filterMap fun x=>owner x.1).Nodup
theorem bt.nil {H:View} : bt H []:=⟨fun x hx=>by simp at hx,by simp⟩
theorem bt.head {H:View} {x:cF} {L:List cF} (h:bt H (x :: L)):bf H x.1 x.2.1 x.2.2:=h.1 x (by simp)
theorem bt.tail {H:View} {x:cF} {L:List cF} (h:bt H (x :: L)):bt H L:=by
 refine ⟨fun y hy=>h.1 y (by simp[hy]),?_⟩
 have:=h.2
 simp only[Vf] at this
 split at this
 ·exact this
 ·exact (U1.1 this).2
theorem bt.perm {H:View} {L L':List cF} (h:bt H L) (p:L.Perm L'):bt H L' :=
 ⟨fun x hx=>h.1 x (p.mem_iff.2 hx),(p.filterMap _).nodup_iff.1 h.2⟩
theorem rI {α:Type} : ∀ (L:List α) (k:Nat) (hk:k < L.length),L.Perm (L[k] :: L.eraseIdx k)
 | x :: L,0,_=>.refl _
 | x :: L,k+1,hk=>by
  have:=rI L k (by simpa using hk)
  exact (this.cons x).trans (.swap _ _ _)
theorem bt.at {H:View} {L:List cF} (h:bt H L) (k:Nat) (hk:k < L.length):bt H (L[k] :: L.eraseIdx k) :=
 h.perm (rI L k hk)
theorem bt.obj {H:View} {n k sz:Nat} {es:List (List V)} {L:List cF} (h:bt H ((.sl n 0 k sz,sz,es) :: L)) (hes:es≠[]):H n=.arr sz es∧k=es.length:=by
 rcases h.head with ⟨e,_⟩ | ⟨m,e,hm⟩
 ·exact absurd e hes
 ·simp only[V.sl.injEq] at e
  obtain ⟨rfl,_,rfl,_⟩:=e
  exact ⟨hm,rfl⟩
theorem bt.off {H:View} {x:cF} {L:List cF} (h:bt H (x :: L)) {id:Nat} (hid:owner x.1=some id):∀ y∈L,owner y.1≠some id:=by
 intro y hy e
 have:=h.2
 simp only[Vf,hid,U1,Vd,not_exists,not_and] at this
 exact this.1 y hy e
theorem bt.live {H:View} {x:cF} {L:List cF} (h:bt H L) (hx:x∈L) {id:Nat} (hid:owner x.1=some id):H id≠.dead:=by
 rw[((h.1 x hx).live hid).1]; simp
theorem bt.keep {H H':View} {L:List cF} (h:bt H L) (hk:∀ x∈L,∀ id,owner x.1=some id→H' id=H id):bt H' L :=
 ⟨fun x hx=>(h.1 x hx).keep (hk x hx),h.2⟩
theorem bt.new {H:View} {L:List cF} (h:bt H L) {n:Nat} (hn:H n=.dead) (sz:Nat) (es:List (List V)):bt (H.set n (.arr sz es)) ((.sl n 0 es.length sz,sz,es) :: L):=by
 refine ⟨fun x hx=>?_,?_⟩
 ·rcases Uk.1 hx with rfl | hx
  ·exact .new
  ·exact (h.1 x hx).fresh hn
 ·simp only[Vf,owner,U1,Vd,not_exists,not_and]
  exact ⟨fun x hx e=>h.live hx e hn,h.2⟩
theorem bt.Lc {H H':View} {L:List cF} (h:bt H L) {u:V} {sz:Nat} {es:List (List V)} (ho:bf H' u sz es) (hf:dx H H' u):bt H' ((u,sz,es) :: L):=by
 refine ⟨fun x hx=>?_,?_⟩
 ·rcases Uk.1 hx with rfl | hx
  ·exact ho
  ·exact (h.1 x hx).Re hf
 ·cases hu:owner u with
  | none=>simp only[Vf,hu]; exact h.2
  | some id =>
   simp only[Vf,hu,U1,Vd,not_exists,not_and]
   exact ⟨fun x hx e=>(hf id (h.live hx e)).2 hu,h.2⟩
theorem bt.fresh {H:View} {L:List cF} (h:bt H L) {n:Nat} (hn:H n=.dead) {o:dy} : bt (H.set n o) L :=
 ⟨fun x hx=>(h.1 x hx).fresh hn,h.2⟩
theorem bt.put {H:View} {L:List cF} {n k sz:Nat} {es es':List (List V)} (h:bt H ((.sl n 0 k sz,sz,es) :: L)) (hl:es'.length=es.length) (hk:k=es.length):bt (H.set n (.arr sz es')) ((.sl n 0 k sz,sz,es') :: L):=by
 refine ⟨fun x hx=>?_,by simpa [Vf,owner] using h.2⟩
 rcases Uk.1 hx with rfl | hx
 ·exact .inr ⟨n,by simp[hl,hk],by simp[View.set]⟩
 ·exact (h.1 x (by simp[hx])).other (h.off rfl x hx)
theorem bt.left {H H':View} {L:List cF} {u u':V} {sz:Nat} {es es':List (List V)} (h:bt H ((u,sz,es) :: L)) (ho:bf H' u' sz es') (hl:Left H H' u u'):bt H' ((u',sz,es') :: L):=by
 have hoff:∀ x∈L,∀ id,owner x.1=some id→owner u≠some id:=fun x hx id hid hu=>h.off hu x hx hid
 refine ⟨fun x hx=>?_,?_⟩
 ·rcases Uk.1 hx with rfl | hx
  ·exact ho
  ·exact (h.1 x (by simp[hx])).left hl (hoff x hx)
 ·have ht:=h.tail.2
  cases hu:owner u' with
  | none=>simp only[Vf,hu]; exact ht
  | some id =>
   simp only[Vf,hu,U1,Vd,not_exists,not_and]
   refine ⟨fun x hx e=>?_,ht⟩
   have hlv:=h.tail.live hx e
   exact (hl id hlv (hoff x hx id e)).2 hu
theorem c6 {sz bytes:Nat} {u:V} {es xs:List (List V)} {L:List cF} {H:View} {K:V→View→Prop} {w:cE (H,K)} (ho:bt H ((u,sz,es) :: L)) (hok:(xs.all fun e=>e.length == sz && e.all aX)=true)
  (hl:(es.length+xs.length) * bytes < aK) (hl2:es.length+xs.length < aK) (hk:∀ u' H',bt H' ((u',sz,es ++ xs) :: L)→Left H H' u u'→K u' H'):oA sz bytes u xs H K w :=
 ib ho.head hok hl hl2 fun u' H' h1 h2=>hk u' H' (ho.left h1 h2) h2
theorem bt.stay {H H':View} {L:List cF} (h:bt H L) (hf:∀ id,H id≠.dead→H' id=H id):bt H' L :=
 h.keep fun x hx _ hid=>hf _ (h.live hx hid)
theorem bt.emp {H:View} {L:List cF} (h:bt H L) {k sz:Nat} : bt H ((.emp k,sz,[]) :: L):=by
 refine ⟨fun x hx=>?_,by simpa [Vf,owner] using h.2⟩
 rcases Uk.1 hx with rfl | hx
 ·exact .nil
 ·exact h.1 x hx
theorem bf.cells {H:View} {u:V} {sz:Nat} {es:List (List V)} (h:bf H u sz es):V.cells u=[u]:=by
 rcases h with ⟨rfl,k,rfl⟩ | ⟨n,rfl,_⟩ <;> rfl
theorem bf.jt {H:View} {u:V} {sz:Nat} {es:List (List V)} (h:bf H u sz es):aX u=true:=by
 rcases h with ⟨rfl,k,rfl⟩ | ⟨n,rfl,_⟩ <;> rfl
theorem bt.DB {H:View} {L:List cF} (h:bt H L) (i j:Nat) {a k1 s1 b k2 s2 t1 t2:Nat} {e1 e2:List (List V)} (hi:L[i]?=some (.sl a 0 k1 s1,t1,e1)) (hj:L[j]?=some (.sl b 0 k2 s2,t2,e2)) (hij:i≠j):a≠b:=by
 rintro rfl
 obtain ⟨hil,hi⟩:=Uj.1 hi
 have h1:=h.at i hil
 rw[hi] at h1
 exact h1.off (id:=a) rfl _ (List.mem_eraseIdx_iff_getElem?.2 ⟨j,hij.symm,hj⟩) rfl
theorem Li {α:Type} {a b c:α} {l:List α} : (a :: b :: c :: l).Perm (b :: c :: a :: l):=(List.Perm.swap _ _ _).trans ((List.Perm.swap _ _ _).cons _)
theorem bt.own {H:View} {L:List cF} (h:bt H L) (i:Nat) {u:V} {sz:Nat} {es:List (List V)} (hi:L[i]?=some (u,sz,es)):bf H u sz es:=h.1 _ (Ub hi)
theorem bt.is {H:View} {L:List cF} (h:bt H L) (i:Nat) {n k sz:Nat} {es:List (List V)} (hi:L[i]?=some (.sl n 0 k sz,sz,es)) (hes:0 < es.length):H n=.arr sz es:=by
 obtain ⟨m,e,hm⟩:=(h.own i hi).sl hes
 simp only[V.sl.injEq] at e
 rw[e.1]; exact hm
theorem bt.zf {H:View} {L:List cF} (h:bt H L) {b c:Nat} {es:List (V × V × Nat)} (hb:H b=.map es c):∀ x∈L,owner x.1≠some b:=fun x hx e=>by
 have:=((h.1 x hx).live e).1
 rw[hb] at this; simp at this
theorem bt.uM {H:View} {L:List cF} (h:bt H L) {b c:Nat} {es:List (V × V × Nat)} (hb:H b=.map es c) {o:dy} : bt (H.set b o) L :=
 ⟨fun x hx=>(h.1 x hx).other (h.zf hb x hx),h.2⟩
theorem Left.map {H H':View} {u u':V} {b c:Nat} {es:List (V × V × Nat)} {sz:Nat} {xs:List (List V)} (hl:Left H H' u u') (ho:bf H u sz xs) (hb:H b=.map es c):H' b=.map es c:=by
 rw[(hl b (by rw[hb]; simp) (fun e=>by have:=(ho.live e).1; rw[hb] at this; simp at this)).1,hb]
theorem Cy {H:View} {L:List cF} (h:bt H L) (i:Nat) {n k sz b c:Nat} {xs:List (List V)} {es:List (V × V × Nat)} (hi:L[i]?=some (.sl n 0 k sz,sz,xs)) (hb:H b=.map es c):n≠b:=by
 rintro rfl
 exact h.zf hb _ (Ub hi) rfl
theorem aE.Ji {P:Program} {f:FuncId} {vs:List V} {H:View} {K:V→View→Prop} {w:cE (H,K)} {sz:Nat} {es:List (List V)} (hc:aC P f vs H fun r H'=>bf H' r sz es∧dx H H' r) (hk:∀ r H',bf H' r sz es→dx H H' r→K r H'):aE P true f vs H K w:=by
 unfold aE
 simp only[if_true]
 exact (hc.mono fun r H' h=>⟨fun id hid=>(h.2 id hid).1,hk r H' h.1 h.2⟩).Ku
def xS:SC :=
 .seq (ao [bg 20 .lss 19 18]) <|
 .seq (.cond (.tmp 20) (.skip) (.exit 0)) <|
 .seq (.block 1 (.seq (ao [aj 21 19,aj 3 21]) <|
 .seq (ao [aj 22 0,aj 23 3,((some 24),.op (.ix (.tmp 22) (.tmp 23))),bD 25 148 [24],dp 26 25]) <|
 .cond (.tmp 26) (.seq (ao [bH 2 false]) <|
 .ret) (.skip))) <|
 ao [aQ 27 .add 19 1,aj 19 27]
def Be:SF:=⟨.seq (ao [bH 2 false]) <|
 .seq (.seq (.region false [⟨none,[aj 4 0,((some 5),.op (.xk .eql (.tmp 4) (.val (.val (.string ⟨#[]⟩))))),aj 6 5]⟩,⟨(some (6,false)),[aj 7 0,((some 8),.op (.pH (.tmp 7))),aQ 9 .gtr 8 20]⟩,⟨none,[cU 10 6 9,aj 11 10]⟩,⟨(some (11,false)),[aj 12 0,((some 13),.op (.ix (.tmp 12) (.val (.val (.int .i64 0))))),bD 14 147 [13],dp 15 14]⟩,⟨none,[cU 16 11 15]⟩]) <|
 .cond (.tmp 16) (.seq (ao [bH 2 false]) <|
 .ret) (.skip)) <|
 .seq (.seq (ao [aj 17 0,((some 18),.op (.pH (.tmp 17))),bj 19 0]) <|
 .block 0 (.loop xS)) <|
 .seq (ao [bH 2 true]) <|
 .ret,
 [.tmp 2],28⟩
theorem E5:aU Tryz.prog 102 []=some Be:=by kernel_rfl
def wT:SF:=⟨.seq (ao [bj 2 0,bj 3 0]) <|
 .seq (ao [bj 4 2]) <|
 .seq (.block 0 (.seq (ao [aj 6 0,aV 7 6,aQ 8 .lss 7 2,aj 5 8]) <|
 .cond (.tmp 5) (.seq (ao [bj 2 0,bj 3 4]) <|
 .ret) (.seq (ao [aj 10 0,((some 11),.op (.idx 1 (.tmp 10) (.val (.val (.int .i64 1))))),ay 12 11,bD 13 233 [12],aj 9 13]) <|
 .cond (.tmp 9) (.skip) (.seq (ao [aj 15 0,((some 16),.op (.idx 1 (.tmp 15) (.val (.val (.int .i64 1))))),ay 17 16,((some 18),.op (.arith .neq (.tmp 17) (.val (.val (.int .u8 92))))),aj 14 18]) <|
 .cond (.tmp 14) (.seq (ao [bj 2 0,bj 3 3]) <|
 .ret) (.seq (ao [aj 20 0,aV 21 20,aQ 22 .lss 21 3,aj 19 22]) <|
 .cond (.tmp 19) (.seq (ao [bj 2 0,bj 3 4]) <|
 .ret) (.seq (ao [aj 24 0,((some 25),.op (.idx 1 (.tmp 24) (.val (.val (.int .i64 2))))),ay 26 25,bD 27 234 [26],dp 28 27,aj 23 28]) <|
 .cond (.tmp 23) (.seq (ao [bj 2 0,bj 3 3]) <|
 .ret) (ao [bj 4 3]))))))) <|
 .seq (.seq (ao [aj 29 0,aV 30 29,aj 31 4,bg 32 .leq 30 31]) <|
 .cond (.tmp 32) (.seq (ao [bj 2 0,bj 3 4]) <|
 .ret) (.skip)) <|
 .seq (.seq (ao [aj 33 0,aj 34 4,aR 35 1 33 34,ay 36 35,((some 37),.op (.arith .neq (.tmp 36) (.val (.val (.int .u8 39)))))]) <|
 .cond (.tmp 37) (.seq (ao [bj 2 0,bj 3 3]) <|
 .ret) (.skip)) <|
 .seq (ao [aj 38 4,aQ 39 .add 38 1,aj 2 39,bj 3 0]) <|
 .ret,
 [.tmp 2,.tmp 3],40⟩
theorem Ak:aU Tryz.prog 224 []=some wT:=by kernel_rfl
def qT:SF:=⟨.seq (ao [bH 2 false]) <|
 .seq (.seq (.region false [⟨none,[aj 5 0,((some 6),.op (.xk .eql (.tmp 5) (.val (.val (.string ⟨#[]⟩))))),aj 7 6]⟩,⟨(some (7,false)),[aj 8 0,((some 9),.op (.ix (.tmp 8) (.val (.val (.int .i64 0))))),((some 10),.op (.arith .neq (.tmp 9) (.val (.val (.int .u8 39)))))]⟩,⟨none,[cU 11 7 10]⟩]) <|
 .cond (.tmp 11) (.seq (ao [bH 2 false]) <|
 .ret) (.skip)) <|
 .seq (ao [aj 13 0,((some 14),.op (.gf (.tmp 13))),bD 15 224 [14],aj 12 15,gP 16 0 12,gP 17 1 12,aj 3 16,aj 4 17]) <|
 .seq (.region false [⟨none,[aj 18 4,aQ 19 .eql 18 0,aj 20 19]⟩,⟨(some (20,true)),[aj 21 3,aj 22 0,((some 23),.op (.pH (.tmp 22))),bg 24 .eql 21 23]⟩,⟨none,[eS 25 20 24,aj 2 25]⟩]) <|
 .ret,
 [.tmp 2],26⟩
theorem Av:aU Tryz.prog 187 [14]=some qT:=by kernel_rfl
def Aa:SF:=⟨.seq (ao [bH 2 false]) <|
 .seq (.region false [⟨none,[aj 3 0,bD 4 102 [3],aj 5 4]⟩,⟨(some (5,false)),[aj 6 0,bD 7 187 [6]]⟩,⟨none,[cU 8 5 7,aj 2 8]⟩]) <|
 .ret,
 [.tmp 2],9⟩
theorem Dw:aU Tryz.prog 141 []=some Aa:=by kernel_rfl
def wY:SF:=⟨.seq (ao [bH 2 false]) <|
 .seq (ao [aj 3 0,bD 4 102 [3],dp 5 4,aj 2 5]) <|
 .ret,
 [.tmp 2],6⟩
theorem AQ:aU Tryz.prog 101 []=some wY:=by kernel_rfl
theorem xX (s:ByteArray):iP s ⟨#[]⟩=decide ((fp s).length=0):=by
 unfold iP
 rw[← eN]
 have:(s.data.toList == ([]:List UInt8))=decide (s.data.toList.length=0):=by
  cases s.data.toList <;> rfl
 show (s.data.toList == ([]:List UInt8))=_
 rw[this]
 rfl
set_option maxHeartbeats 1000000 in
theorem PS (s:ByteArray) (H:View):aC Tryz.prog 102 [gs s] H fun r _=>r=gb (gx (fp s)):=by
 refine aC.of mixed E5 ?_
 repeat' (first | (refine av.dec (fun _=>?_) (fun _=>?_)) | (refine av.eq (fun _=>?_) (fun _=>?_)) | (refine av.ne (fun _=>?_) (fun _=>?_)) | (refine av.split (fun _=>?_) (fun _=>?_)) | (simp (disch:=omega) only [↓wr,seval,wq,ah,ag,ak,aa,ab,af,ai,ae,Be,eN,xX]))
 ·rename_i h
  congr 2; simp[gx,h]
 ·rename_i h1 h
  congr 2; simp[gx,show ¬ (fp s).length≤20 by omega]
 ·rename_i h1 h2
  cases hb:fp s with
  | nil=>simp[hb] at h1
  | cons c l =>
   have hcr:=fun d (hd:d∈c :: l)=>DW (s:=s) (c:=d) (by rw[hb]; exact hd)
   have hc0:=hcr c (by simp)
   repeat' (first | (refine av.dec (fun _=>?_) (fun _=>?_)) | (refine av.eq (fun _=>?_) (fun _=>?_)) | (refine av.ne (fun _=>?_) (fun _=>?_)) | (refine av.split (fun _=>?_) (fun _=>?_)) | (simp (disch:=omega) only [↓wr,seval,wq,ah,ag,ak,aa,ab,af,ai,ae,hb,UC,eN]))
   refine aE.pure (vR sY Kd c hc0.1 hc0.2) (by kernel_rfl) ?_
   repeat' (first | (refine av.dec (fun _=>?_) (fun _=>?_)) | (refine av.eq (fun _=>?_) (fun _=>?_)) | (refine av.ne (fun _=>?_) (fun _=>?_)) | (refine av.split (fun _=>?_) (fun _=>?_)) | (simp (disch:=omega) only [↓wr,seval,wq,ah,ag,ak,aa,ab,af,ai,ae,hb,UC,eN]))
   ·rename_i hf
    rw[hb] at h1 h2
    refine bc.intro (fun k T H'=>∃ i:Nat,i+k=(c :: l).length∧((c :: l).take i).all nN=true∧T 0=gs s∧T 18=gi (c :: l).length∧T 19=gi i) (c :: l).length ?_ ?_
    ·exact ⟨0,by omega,by simp,rfl,rfl,rfl⟩
    ·rintro k T H' ⟨i,hk,hi,h0,h18,h19⟩
     simp (disch:=omega) only [↓wr,seval,wq,ah,ag,ak,aa,ab,af,ai,ae,xS,h0,h18,h19,eN,hb]
     refine av.dec (fun hc=>?_) (fun hc=>?_)
     ·simp only[Um] at hc hk h2
      have hg:(c :: l)[i]?=some ((c :: l)[i]'(by simp; omega)):=T4 (by simp; omega)
      have hm:(c :: l)[i]'(by simp; omega)∈c :: l:=Ud _
      generalize (c :: l)[i]'(by simp; omega)=d at hg hm
      have hd0:=hcr d hm
      simp (disch:=omega) only [↓wr,seval,wq,ah,ag,ak,aa,ab,af,ai,ae,h0,h18,h19,eN,hb,hg]
      refine aE.pure (vR sY MY d hd0.1 hd0.2) (by kernel_rfl) ?_
      repeat' (first | (refine av.dec (fun _=>?_) (fun _=>?_)) | (refine av.eq (fun _=>?_) (fun _=>?_)) | (refine av.ne (fun _=>?_) (fun _=>?_)) | (refine av.split (fun _=>?_) (fun _=>?_)) | (simp (disch:=omega) only [↓wr,seval,wq,ah,ag,ak,aa,ab,af,ai,ae,h0,h18,h19,eN,hb,hg]))
      ·rename_i hd
       refine ⟨k - 1,by omega,i+1,by omega,?_,by first | rfl | exact ⟨rfl,rfl⟩⟩
       rw[Uw,hg]
       simp only[Option.toList_some,List.all_append,hi,Vg,hd,List.all_nil,Bool.and_self]
      ·rename_i hd
       congr 2
       have:(c :: l).all nN=false:=by
        rw[List.all_eq_false]; exact ⟨d,hm,by simp[hd]⟩
       simp only[gx,this,Bool.and_false]
     ·simp (disch:=omega) only [↓wr,seval,wq,ah,ag,ak,aa,ab,af,ai,ae,h0,h18,h19]
      simp only[Um] at hc hk h2
      rw[Uo (by simp; omega)] at hi
      congr 2
      simp only[gx,hi,Um]
      simp[hf]; omega
   ·rename_i hf
    congr 2; simp[gx,hf]
theorem Gn (s:ByteArray):aG Tryz.prog 102 [gs s] (gb (gx (fp s))):=aG.val (pz s) (PS s)
def kB (l:List Int):Int × Int :=
 if yf (l.getD 1 0)=true then (2,0) else if l.getD 1 0≠92 then (0,3) else if l.length < 3 then (0,4) else if Dp (l.getD 2 0)=true then (3,0) else (0,3)
def mG (l:List Int):Int × Int :=
 if l.length < 2 then (0,4) else if (kB l).2≠0 then (0,(kB l).2) else if (l.length:Int)≤(kB l).1 then (0,4) else if l.getD (kB l).1.toNat 0≠39 then (0,3) else ((kB l).1+1,0)
theorem Ma {l:List Int} {n:Int} (hN:kB l=(n,0)) (h2:¬ l.length < 2):mG l=if (l.length:Int)≤n then (0,4) else if l.getD n.toNat 0≠39 then (0,3) else (n+1,0):=by
 rw[mG,T6 h2,hN]; simp
theorem GU {l:List Int} {e:Int} (hN:kB l=(0,e)) (he:e≠0) (h2:¬ l.length < 2):mG l=(0,e):=by
 rw[mG,T6 h2,hN]; simp[he]
set_option maxHeartbeats 2000000 in
theorem Lr (l:List Int) (hr:∀ c∈l,0≤c∧c≤255) (H:View):aC Tryz.prog 224 [.aL (l.map fun x=>[gy x])] H fun r _=>r=.bE [gi (mG l).1,gi (mG l).2]:=by
 refine aC.of mixed Ak ?_
 simp (disch:=omega) only [↓wr,seval,wq,ah,ag,ak,aa,ab,af,ai,ae,wT]
 refine av.dec (fun h=>?_) (fun h=>?_)
 ·simp (disch:=omega) only [↓wr,seval,wq,ah,ag,ak,aa,ab,af,ai,ae]
  rw[mG,T9 (by omega)]
 ·have h1:l[1]?=some (l[1]'(by omega)):=T4 (by omega)
  have g1:l.getD 1 0=l[1]'(by omega):=by simp[T0,h1]
  have m1:l[1]'(by omega)∈l:=Ud _
  generalize l[1]'(by omega)=b at h1 g1 m1
  have hb:=hr b m1
  simp (disch:=omega) only [↓wr,seval,wq,ah,ag,ak,aa,ab,af,ai,ae,T8,h1]
  refine aE.pure (vR sY N1 b hb.1 hb.2) (by kernel_rfl) ?_
  simp (disch:=omega) only [↓wr,seval,wq,ah,ag,ak,aa,ab,af,ai,ae]
  refine av.split (fun hp=>?_) (fun hp=>?_)
  ·have hN:kB l=(2,0):=by rw[kB,T9 (by rw[g1]; exact hp)]
   simp (disch:=omega) only [↓wr,seval,wq,ah,ag,ak,aa,ab,af,ai,ae]
   have hP:=Ma hN (by omega)
   refine av.dec (fun h3=>?_) (fun h3=>?_)
   ·simp (disch:=omega) only [↓wr,seval,wq,ah,ag,ak,aa,ab,af,ai,ae]
    rw[hP,T9 (by omega)]
   ·rw[T6 (by omega)] at hP
    have h2:l[2]?=some (l[2]'(by omega)):=T4 (by omega)
    have g2:l.getD (2:Int).toNat 0=l[2]'(by omega):=by simp[T0,h2]
    generalize l[2]'(by omega)=c at h2 g2
    rw[g2] at hP
    simp (disch:=omega) only [↓wr,seval,wq,ah,ag,ak,aa,ab,af,ai,ae,T8,h2]
    refine av.ne (fun h4=>?_) (fun h4=>?_)
    ·simp (disch:=omega) only [↓wr,seval,wq,ah,ag,ak,aa,ab,af,ai,ae]
     rw[hP,T9 h4]
    ·simp (disch:=omega) only [↓wr,↓reduceIte,wq,ah,ag,ak,aa,ab,af,ai,ae,Nat.reduceEqDiff,Nat.reduceAdd,Nat.reduceLT,Nat.reduceLeDiff,Int.reduceNeg,Int.reduceToNat,reduceCtorEq]
     rw[hP,T6 (fun q=>q h4)]
  ·simp (disch:=omega) only [↓wr,seval,wq,ah,ag,ak,aa,ab,af,ai,ae,T8,h1]
   refine av.ne (fun h5=>?_) (fun h5=>?_)
   ·simp (disch:=omega) only [↓wr,seval,wq,ah,ag,ak,aa,ab,af,ai,ae]
    rw[GU (e:=3) (by rw[kB,T6 (by rw[g1,hp]; simp),T9 (by rw[g1]; exact h5)]) (by simp) (by omega)]
   ·simp (disch:=omega) only [↓wr,seval,wq,ah,ag,ak,aa,ab,af,ai,ae]
    refine av.dec (fun h6=>?_) (fun h6=>?_)
    ·simp (disch:=omega) only [↓wr,seval,wq,ah,ag,ak,aa,ab,af,ai,ae]
     rw[GU (e:=4) (by rw[kB,T6 (by rw[g1,hp]; simp),T6 (by rw[g1]; exact fun q=>q h5),T9 (by omega)]) (by simp) (by omega)]
    ·have h2:l[2]?=some (l[2]'(by omega)):=T4 (by omega)
     have g2:l.getD 2 0=l[2]'(by omega):=by simp[T0,h2]
     have m2:l[2]'(by omega)∈l:=Ud _
     generalize l[2]'(by omega)=c at h2 g2 m2
     have hcr:=hr c m2
     have hN0:kB l=if Dp c=true then (3,0) else (0,3):=by rw[kB,T6 (by rw[g1,hp]; simp),T6 (by rw[g1]; exact fun q=>q h5),T6 (by omega),g2]
     simp (disch:=omega) only [↓wr,seval,wq,ah,ag,ak,aa,ab,af,ai,ae,T8,h2]
     refine aE.pure (vR sY Q3 c hcr.1 hcr.2) (by kernel_rfl) ?_
     simp (disch:=omega) only [↓wr,seval,wq,ah,ag,ak,aa,ab,af,ai,ae]
     refine av.split (fun he=>?_) (fun he=>?_)
     ·rw[T9 he] at hN0
      have hP:=Ma hN0 (by omega)
      simp (disch:=omega) only [↓wr,seval,wq,ah,ag,ak,aa,ab,af,ai,ae]
      refine av.dec (fun h3=>?_) (fun h3=>?_)
      ·simp (disch:=omega) only [↓wr,seval,wq,ah,ag,ak,aa,ab,af,ai,ae]
       rw[hP,T9 (by omega)]
      ·rw[T6 (by omega)] at hP
       have h7:l[3]?=some (l[3]'(by omega)):=T4 (by omega)
       have g3:l.getD (3:Int).toNat 0=l[3]'(by omega):=by simp[T0,h7]
       generalize l[3]'(by omega)=d at h7 g3
       rw[g3] at hP
       simp (disch:=omega) only [↓wr,seval,wq,ah,ag,ak,aa,ab,af,ai,ae,T8,h7]
       refine av.ne (fun h4=>?_) (fun h4=>?_)
       ·simp (disch:=omega) only [↓wr,seval,wq,ah,ag,ak,aa,ab,af,ai,ae]
        rw[hP,T9 h4]
       ·simp (disch:=omega) only [↓wr,↓reduceIte,wq,ah,ag,ak,aa,ab,af,ai,ae,Nat.reduceEqDiff,Nat.reduceAdd,Nat.reduceLT,Nat.reduceLeDiff,Int.reduceNeg,Int.reduceToNat,reduceCtorEq]
        rw[hP,T6 (fun q=>q h4)]
     ·rw[T6 (by rw[he]; simp)] at hN0
      simp (disch:=omega) only [↓wr,seval,wq,ah,ag,ak,aa,ab,af,ai,ae]
      rw[GU hN0 (by simp) (by omega)]
end Gv
