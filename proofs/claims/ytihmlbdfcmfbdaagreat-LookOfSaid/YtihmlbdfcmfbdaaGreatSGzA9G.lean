/-
  Part 7 of the proof: what the machine does and what the functions answer.
  Conditions: those that each lemma names.
-/
import Derived.Test.YtihmlbdfcmfbdaaGreatSGzA9F
set_option linter.unusedSimpArgs false
set_option linter.unusedVariables false
set_option maxRecDepth 100000
namespace Gv
open Go Go.Proofs
section
variable {P:Program} {n:Nat} {all:List Oper}
def ji (h:aL) (e:ES):Prop:=e.V=h.view∧e.n=h.length
def Calm (e e':ES) (h h':aL):Prop:=h.length≤h'.length∧(∀ id,id < h.length→¬ id∈e'.w→h'.view id=h.view id∧¬ id∈e.w)
theorem Calm.trans {a b c:ES} {h1 h2 h3:aL} (x:Calm a b h1 h2) (y:Calm b c h2 h3):Calm a c h1 h3 :=
 ⟨V1 x.1 y.1,fun id hid hw =>
  let ⟨e1,d1⟩:=y.2 id (VH hid x.1) hw
  let ⟨e2,d2⟩:=x.2 id hid d1
  ⟨e1.trans e2,d2⟩⟩
theorem Calm.refl (e:ES) (h:aL):Calm e e h h:=⟨Vj _,fun _ _ hw=>⟨rfl,hw⟩⟩
def lg (P:Program) (call:iE):Prop:=∀ g vs e v e' h,call g vs e=some (v,e')→ji h e →
 dJ P g=true∧∃ h',bX P g vs h v h'∧ji h' e'∧(∀ id,id < h.length→¬ id∈e'.w→h'.view id=h.view id)∧∀ id,id∈e'.w→id < h.length
def wN (P:Program) (run:xS):Prop:=∀ (n:Nat) (fz:List Nat) (c:Code) (sc:DC),jn P n fz c=some sc→n≤8000→∀ (e e':ES) (r:Exit) (h:aL),run sc e=some (r,e')→ji h e →
 ∃ h',dc P n c e.T h r e'.T h'∧ji h' e'∧Calm e e' h h'∧∀ c0,c=.loop c0→pY P n c0 e.T h r e'.T h'
theorem OC {h:aL} {e:ES} {d:Option Nat} {v:V} (he:ji h e):ji h (e.put d v):=by cases d <;> exact he
theorem Q4 {e:ES} {d:Option Nat} {v:V} : (e.put d v).w=e.w:=by cases d <;> rfl
theorem Qk {h:aL} {e e':ES} {h':aL} {d:Option Nat} {v:V} (x:Calm e e' h h'):Calm e (e'.put d v) h h':=⟨x.1,fun id hid hw=>x.2 id hid (by rw[Q4] at hw; exact hw)⟩
theorem CD {a:Nat} (h:Nat.ble a 8000=true):a+1 < 2 ^ 13:=by
 have:=Nat.le_of_ble_eq_true h
 omega
theorem RN {h:aL} {e e':ES} {v v':V} {eff:bG} {rd:List Nat} {c:Rec} (he:ji h e) (hx:HC v eff rd e=some (v',e',c)) :
  v'=v∧e'.T=e.T∧e'.V=eff.view h.view h.length∧e'.n=(eff.apply h).length∧c=⟨rd,eff.wr,false,h.length,(eff.apply h).length⟩∧e'.w=eff.wr ++ e.w:=by
 obtain ⟨h1,h2⟩:=he
 unfold HC at hx
 cases eff with
 | none =>
  simp only[Vb,Ve] at hx
  obtain ⟨rfl,rfl,rfl⟩:=hx
  exact ⟨rfl,rfl,h1,h2,by rw[h2]; rfl,rfl⟩
 | new o =>
  simp only at hx
  split at hx
  ·rename_i hb
   simp only[Vb,Ve] at hx
   obtain ⟨rfl,rfl,rfl⟩:=hx
   refine ⟨rfl,rfl,?_,by simp[gQ,h2],by simp[gQ,h2,bG.wr],rfl⟩
   funext k
   simp only[ES.V,bG.view,View.set]
   rw[cK.nG _ _ _ _ _ _ (CD hb),h2]
   have:=congrFun h1 k
   simp only[ES.V] at this
   rw[this]
  ·simp at hx
 | fj id o =>
  simp only at hx
  split at hx
  ·rename_i hb
   simp only[Vb,Ve] at hx
   obtain ⟨rfl,rfl,rfl⟩:=hx
   refine ⟨rfl,rfl,?_,by simp[gQ,h2],by simp[gQ,h2,bG.wr],rfl⟩
   funext k
   simp only[ES.V,bG.view,View.set]
   rw[cK.nG _ _ _ _ _ _ (CD hb)]
   have:=congrFun h1 k
   simp only[ES.V] at this
   rw[this]
  ·simp at hx
 | bL id o =>
  simp only at hx
  split at hx
  ·rename_i hb1 hb2
   simp only[Vb,Ve] at hx
   obtain ⟨rfl,rfl,rfl⟩:=hx
   refine ⟨rfl,rfl,?_,by simp[gQ,h2],by simp[gQ,h2,bG.wr],rfl⟩
   funext k
   simp only[ES.V,bG.view,View.set]
   rw[cK.nG _ _ _ _ _ _ (CD hb1),cK.nG _ _ _ _ _ _ (CD hb2),h2]
   have:=congrFun h1 k
   simp only[ES.V] at this
   rw[this]
  ·simp at hx
theorem Sk {o:Oper} {e e':ES} {h:aL} {s:SI} {v:V} {c:Rec} (hg:dE n all e.T o=some true) (hc:∀ v eff rd,sI P s e.T h.view h.length=some (v,eff,rd)→cq P o e.T h.view h.length=some (v,eff,rd))
  (he:ji h e) (hx:MH P s e=some (v,e',c)):∃ h',dS P n all o e.T h v h' c.rd c.wr c.call∧ji h' e'∧e'.T=e.T∧Calm e e' h h'∧kO (uh P s) c.rd c.wr c.call h.length h'.length∧c.lo=h.length∧c.hi=h'.length:=by
 unfold MH at hx
 rw[Lq,he.1,he.2] at hx
 split at hx
 ·rename_i v0 eff rd hs
  obtain ⟨rfl,g1,g2,g3,rfl,g5⟩:=RN he hx
  have ha:=hc _ _ _ hs
  have st:=dS.op (P:=P) (n:=n) (all:=all) hg ha
  refine ⟨eff.apply h,st,⟨?_,g3⟩,g1,⟨uc st,fun id hid hw=>?_⟩,⟨fun h0=>?_,fun h1=>?_⟩,rfl,rfl⟩
  ·rw[lC (fun id hid=>(mM ha id hid).1)]; exact g2
  ·rw[g5] at hw
   simp only[VE,not_or] at hw
   exact ⟨r5 st hid hw.1,hw.2⟩
  ·obtain ⟨rfl,rfl⟩:=(sf hs).1 h0
   exact ⟨rfl,rfl,rfl,rfl⟩
  ·rcases Vy (uh P s) 1 with h2 | h2
   ·obtain ⟨rfl,rfl⟩:=(sf hs).1 (by omega); rfl
   ·exact (sf hs).2 (by omega)
 ·simp at hx
theorem TG {call:iE} (hcall:lg P call) {fz:Fz} {o:Oper} {e e':ES} {h:aL} {v:V} {c:Rec} (hg:dE n all e.T o=some true) (he:ji h e) (hx:eB P call (mH P fz o) e=some (v,e',c)) :
  ∃ h',dS P n all o e.T h v h' c.rd c.wr c.call∧ji h' e'∧e'.T=e.T∧Calm e e' h h'∧kO (jf P false (mH P fz o)) c.rd c.wr c.call h.length h'.length∧c.lo=h.length∧c.hi=h'.length:=by
 rcases AH P fz o with ⟨f,args,ats,ho,hc | hc⟩ | ⟨t,x,ho,hc⟩ | ⟨s,d,x,ho,hcv,hc⟩ | hc
 rotate_left
 ·rw[hc] at hx
  simp[eB] at hx
 rotate_right
 ·rw[hc] at hx ⊢
  simp only[eB,O1] at hx
  split at hx
  ·rename_i g first cap hf
   rw[Cv] at hx
   rw[SX.cO] at hf
   split at hx
   ·rename_i v0 e0 hv
    obtain ⟨hok,h',hr,hek,hd,hd2⟩:=hcall _ _ _ _ _ _ hv he
    simp only[Vb,Ve] at hx
    obtain ⟨rfl,rfl,rfl⟩:=hx
    exact ⟨h',.call hg ho hf hok hr hd hd2,hek,rfl,⟨hr.1,fun id hid hw=>by
     simp only[VE,not_or] at hw
     exact ⟨hd id hid hw.1,hw.2⟩⟩,Rc (by simp[jf]),he.2,hek.2⟩
   ·simp at hx
  ·simp at hx
 ·rw[hc] at hx ⊢
  simp only[eB,MH,Lq,sI,SX.cO] at hx
  split at hx
  ·rename_i v0 eff rd hs
   split at hs
   ·rename_i hok
    simp only[Vb,Ve] at hs
    obtain ⟨rfl,rfl,rfl⟩:=hs
    simp only[HC,Vb,Ve] at hx
    obtain ⟨rfl,rfl,rfl⟩:=hx
    exact ⟨h,.jt hg ho hok,he,rfl,Calm.refl _ _,⟨fun _=>⟨rfl,rfl,rfl,rfl⟩,fun _=>rfl⟩,he.2,he.2⟩
   ·simp at hs
  ·simp at hx
 ·rw[hc] at hx ⊢
  obtain ⟨ty,h1,h2,h3⟩:=Ap hcv
  simp only[eB,MH,Lq,sI,SX.cO] at hx
  split at hx
  ·rename_i v0 eff rd hs
   split at hs
   ·rename_i st hst
    simp only[Vb,Ve] at hs
    obtain ⟨rfl,rfl,rfl⟩:=hs
    simp only[HC,Vb,Ve] at hx
    obtain ⟨rfl,rfl,rfl⟩:=hx
    exact ⟨h,.gp hg ho h1 h2 h3 hst,he,rfl,Calm.refl _ _,⟨fun _=>⟨rfl,rfl,rfl,rfl⟩,fun _=>rfl⟩,he.2,he.2⟩
   ·simp at hs
  ·simp at hx
 ·rw[hc] at hx ⊢
  exact Sk (s:=yC P fz.fr (comp P o)) hg (fun v eff rd hs=>JT (Jd hs)) he hx
theorem Sq {o:Oper} (hd:rW n o=true) (hn:n≤8000):∀ t,o.dst=some t→t < 8000:=by
 intro t ht
 unfold rW at hd
 rw[ht] at hd
 have:t < n:=by simpa using hd
 exact VH this hn
theorem RC {c:Rec} {a b:Nat} (h1:c.lo=a) (h2:c.hi=b):c=⟨c.rd,c.wr,c.call,a,b⟩:=by cases c; subst h1; subst h2; rfl
theorem G9 {call:iE} (hcall:lg P call) (hn:n≤8000) {fz:Fz} (g:Option (Nat × Bool)):∀ (l:List (Option Nat × SB)) (os:List Oper) (e e':ES) (h:aL) (a a':List Rec),
  dM P n all fz os=some (l.map fun (d,b)=>⟨d,g,b⟩)→(∀ d w,g=some (d,w)→e.T d=.val (.bool w)∧(l.all fun x=>x.1 != some d)=true)→ji h e→JI P call l a e=some (e',a') →
  ∃ recs h',a'=a ++ recs∧Tr P n all os e.T h recs e'.T h'∧ji h' e'∧Calm e e' h h'∧gg P false (l.map fun (d,b)=>⟨d,g,b⟩) recs
 | [],os,e,e',h,a,a',hc,hg,he,hx=>by
  have:=lJ hc; subst this
  simp only[JI,Vb,Ve] at hx; obtain ⟨rfl,rfl⟩:=hx
  exact ⟨[],h,by simp,.nil,he,Calm.refl _ _,.nil⟩
 | (d,b) :: l,os,e,e',h,a,a',hc,hg,he,hx=>by
  obtain ⟨o,r,rfl,h1,h2⟩:=mf hc
  obtain ⟨hd,hd1,hb1,hg1⟩:=tD h1
  simp only at hd1 hb1 hg1
  have hgv:dE n all e.T o=some true:=by
   cases g with
   | none=>exact Cl hg1
   | some p =>
    obtain ⟨d',w⟩:=p
    have:=(lD (T:=e.T) hg1).1 w (hg d' w rfl).1
    rw[this]; simp
  simp only[JI] at hx
  rw[hb1] at hx
  split at hx
  ·rename_i v e1 c hv
   obtain ⟨h1',st,he1,hT1,hcm,hl,hlo,hhi⟩:=TG hcall hgv he hv
   have hput:(e1.put d v).T=e.T.put o.dst v:=by
    rw[ES.Rk (by rw[hd1]; exact Sq hd hn),hT1,hd1]
   obtain ⟨recs,h'',ha,tr,he2,hcm2,hro⟩:=G9 hcall hn g l r (e1.put d v) e' h1' _ a' h2 (fun d' w eq=>by
    have:=hg d' w eq
    simp only[Wn,Vm,bne_iff_ne,ne_eq] at this
    refine ⟨?_,this.2.2⟩
    rw[← this.1,hput,← hd1]
    cases d with
    | none=>rfl
    | some t=>simp only[Env.put]; rw[Va]; intro e; subst e; exact this.2.1 rfl) (OC he1) hx
   rw[hput] at tr
   refine ⟨_,h'',?_,.cons st hd tr,he2,(Qk hcm).trans hcm2,hro.cons (by rw[hb1]; exact hl)⟩
   rw[ha,VV,← RC hlo hhi]; rfl
  ·simp at hx
theorem Ht {fz:Fz} (hn:n≤8000) (d:Nat) (w:Bool) (h:aL):∀ (l:List (Option Nat × SB)) (os:List Oper) (e e':ES) (a a':List Rec),
  dM P n all fz os=some (l.map fun (d',b)=>⟨d',some (d,w),b⟩)→(e.T d=.val (.bool !w)∨e.T d=.bI [])→(l.all fun x=>x.1 != some d)=true→ji h e→xo l a e=(e',a') →
  ∃ recs,a'=a ++ recs∧Tr P n all os e.T h recs e'.T h∧ji h e'∧e'.w=e.w∧gg P false (l.map fun (d',b)=>⟨d',some (d,w),b⟩) recs
 | [],os,e,e',a,a',hc,hd,hl,he,hx=>by
  have:=lJ hc; subst this
  simp only[xo,Ve] at hx; obtain ⟨rfl,rfl⟩:=hx
  exact ⟨[],by simp,.nil,he,rfl,.nil⟩
 | (d',b) :: l,os,e,e',a,a',hc,hd,hl,he,hx=>by
  obtain ⟨o,r,rfl,h1,h2⟩:=mf hc
  obtain ⟨hd0,hd1,hb1,hg1⟩:=tD h1
  simp only at hd1 hb1 hg1
  have hgv:dE n all e.T o=some false:=by
   rcases hd with hd | hd
   ·rw[(lD (T:=e.T) hg1).1 _ hd]; cases w <;> rfl
   ·exact (lD (T:=e.T) hg1).2 hd
  simp only[Wn,Vm,bne_iff_ne,ne_eq] at hl
  have hput:(e.put d' (.bI [])).T=e.T.put o.dst (.bI []):=by
   rw[ES.Rk (by rw[hd1]; exact Sq hd0 hn),hd1]
  simp only[xo] at hx
  obtain ⟨recs,ha,tr,he2,hd2,hro⟩:=Ht hn d w h l r (e.put d' (.bI [])) e' _ a' h2 (by
   have:(e.put d' (.bI [])).T d=e.T d:=by
    rw[hput,← hd1]
    cases d' with
    | none=>rfl
    | some t=>simp only[Env.put]; rw[Va]; intro e; subst e; exact hl.1 rfl
   rw[this]; exact hd) hl.2 (OC he) hx
  rw[hput] at tr
  refine ⟨_,?_,Tr.cons (.skip hgv) hd0 tr,he2,by rw[hd2,Q4],hro.cons (r:=⟨[],[],false,h.length,h.length⟩) ⟨fun _=>⟨rfl,rfl,rfl,rfl⟩,fun _=>rfl⟩⟩
  rw[ha,VV,Ro,he.2]; rfl
theorem EB {fz:Fz} (hn:n≤8000) {d:Nat} {w:Bool} {h:aL} {l:List (Option Nat × SB)} {os:List Oper} {e e':ES} {a a':List Rec}
  (hc:dM P n all fz os=some (l.map fun (d',b)=>⟨d',some (d,w),b⟩)) (hd:e.T d=.val (.bool !w)∨e.T d=.bI []) (hl:(l.all fun x=>x.1 != some d)=true) (he:ji h e) (hx:xo l a e=(e',a')) :
  ∃ recs h',a'=a ++ recs∧Tr P n all os e.T h recs e'.T h'∧ji h' e'∧Calm e e' h h'∧gg P false (l.map fun (d',b)=>⟨d',some (d,w),b⟩) recs:=by
 obtain ⟨recs,h1,h2,h3,h4,h5⟩:=Ht hn d w h l os e e' a a' hc hd hl he hx
 exact ⟨recs,h,h1,h2,h3,⟨Vj _,fun id _ hw=>⟨rfl,by rw[h4] at hw; exact hw⟩⟩,h5⟩
theorem TK {call:iE} (hcall:lg P call) (hn:n≤8000) {fz:Fz} {g:SG} {os:List Oper} {e e':ES} {h:aL} {a a':List Rec} (hc:dM P n all fz os=some g.flat) (hok:tY g=true) (he:ji h e) (hx:eG P call g a e=some (e',a')) :
  ∃ recs h',a'=a ++ recs∧Tr P n all os e.T h recs e'.T h'∧ji h' e'∧Calm e e' h h'∧gg P false g.flat recs:=by
 unfold eG at hx
 unfold SG.flat at hc ⊢
 unfold tY at hok
 split at hx
 ·rename_i hg
  rw[hg] at hc ⊢
  exact G9 hcall hn none g.ops os e e' h a a' hc (fun d w e=>by simp at e) he hx
 ·rename_i d want hg
  rw[hg] at hc hok ⊢
  simp only at hok
  unfold Nt at hx
  split at hx
  ·rename_i b hb
   split at hx
   ·rename_i hxor
    simp only[Vb] at hx
    have e':b = !want:=by cases b <;> cases want <;> simp_all
    subst e'
    exact EB hn hc (.inl hb) hok he hx
   ·rename_i hxor
    have e':b=want:=by cases b <;> cases want <;> simp_all
    subst e'
    exact G9 hcall hn (some (d,b)) g.ops os e _ h a a' hc (fun d' w e=>by simp at e; obtain ⟨rfl,rfl⟩:=e; exact ⟨hb,hok⟩) he hx
  ·rename_i hb
   simp only[Vb] at hx
   exact EB hn hc (.inr hb) hok he hx
  ·simp at hx
theorem OA {call:iE} (hcall:lg P call) (hn:n≤8000) {fz:Fz} : ∀ (gs:List SG) (os:List Oper) (e e':ES) (h:aL) (a a':List Rec),dM P n all fz os=some (ki gs)→gs.all tY=true→ji h e→M6 P call gs a e=some (e',a') →
  ∃ recs h',a'=a ++ recs∧Tr P n all os e.T h recs e'.T h'∧ji h' e'∧Calm e e' h h'∧gg P false (ki gs) recs
 | [],os,e,e',h,a,a',hc,_,he,hx=>by
  have:=lJ hc; subst this
  simp only[M6,Vb,Ve] at hx; obtain ⟨rfl,rfl⟩:=hx
  exact ⟨[],h,by simp,.nil,he,Calm.refl _ _,.nil⟩
 | g :: gs,os,e,e',h,a,a',hc,hok,he,hx=>by
  simp only[ki,VC,List.flatten_cons] at hc ⊢
  simp only[Wn,Vm] at hok
  obtain ⟨o1,o2,rfl,h1,h2⟩:=rj hc
  simp only[M6] at hx
  split at hx
  ·rename_i e1 a1 hx1
   obtain ⟨r1,h1',ha1,tr1,he1,hc1,ro1⟩:=TK hcall hn h1 hok.1 he hx1
   obtain ⟨r2,h2',ha2,tr2,he2,hc2,ro2⟩:=OA hcall hn gs o2 e1 e' h1' a1 a' h2 hok.2 he1 hx
   exact ⟨_,h2',by rw[ha2,ha1,VV],tr1.append tr2,he2,hc1.trans hc2,ro1.append ro2⟩
  ·simp at hx
theorem N6 {ls:List Nat} {i k x y:Nat} (hik:i < k) (hx:ls[i]?=some x) (hy:ls[k]?=some y) (ho:ordered (fN all []) i k=false) (h:¬ (x=0∨y=0∨(x≤1∧y≤1))):(i,k)∈CU all ls:=by
 unfold CU
 simp only[List.mem_flatten,Vw]
 refine ⟨_,⟨(x,i),by rw[Wb]; exact hx,rfl⟩,?_⟩
 simp only[Vw,VX]
 refine ⟨(y,k),⟨by rw[Wb]; exact hy,?_⟩,rfl⟩
 simp only[hik,decide_true,ho,Xn,Wo,Xo,Bool.or_eq_false_iff,beq_eq_false_iff_ne,Bool.and_eq_false_iff,Wp]
 omega
theorem Pz {ls:List Nat} {recs:List Rec} (h:Mg recs (CU all ls)=true) (hl:ls.length=recs.length) (hr:∀ (i x:Nat) (r:Rec),ls[i]?=some x→recs[i]?=some r→kO x r.rd r.wr r.call r.lo r.hi):uv all recs:=by
 intro i k a b hik ha hb ho
 have hi:i < recs.length:=(Vn.1 ha).1
 have hk:k < recs.length:=(Vn.1 hb).1
 have hx:ls[i]?=some (ls[i]'(by omega)):=U9 (by omega)
 have hy:ls[k]?=some (ls[k]'(by omega)):=U9 (by omega)
 generalize ls[i]'(by omega)=x at hx
 generalize ls[k]'(by omega)=y at hy
 have la:=hr i _ a hx ha
 have lb:=hr k _ b hy hb
 by_cases hc:x=0∨y=0∨(x≤1∧y≤1)
 ·rcases hc with h1 | h1 | h1
  ·obtain ⟨e1,e2,e3,e4⟩:=la.1 h1
   exact ⟨fun id hid=>by simp[e2] at hid,fun id _=>by simp[e1],fun hc=>by simp[e3] at hc,fun _=>e2,fun id _ hx=>by omega⟩
  ·obtain ⟨e1,e2,e3,e4⟩:=lb.1 h1
   exact ⟨fun id _=>by simp[e1],fun id hid=>by simp[e2] at hid,fun _=>e2,fun hc=>by simp[e3] at hc,fun id hid=>by simp[e2] at hid⟩
  ·have e1:=la.2 h1.1
   have e2:=lb.2 h1.2
   exact ⟨fun id hid=>by simp[e1] at hid,fun id hid=>by simp[e2] at hid,fun _=>e2,fun _=>e1,fun id hid=>by simp[e2] at hid⟩
 ·have:=VK.1 h _ (N6 hik hx hy ho hc)
  simp only[ha,hb] at this
  exact M8 this
theorem Ru (hm:P.follows .mixedOrders=true) {call:iE} (hcall:lg P call) (hn:n≤8000) {fz:List Nat} {id:Nat} {ops:Array Oper} {draw:Bool} {sc:DC} {run:xS} {e e':ES} {r:Exit} {h:aL}
  (hc:Hp P n fz ops.toList draw=some sc) (he:ji h e) (hx:mC P call run sc e=some (r,e')) :
  ∃ h',dc P n (.region id ops draw) e.T h r e'.T h'∧ji h' e'∧Calm e e' h h':=by
 unfold Hp at hc
 split at hc
 ·simp at hc
 ·rename_i l hl
  split at hc
  ·simp at hc
  ·rename_i hok
   have hok:(group l).all tY=true:=by simpa using hok
   have hl':dM P n ops.toList ⟨fz,false⟩ ops.toList=some (ki (group l)):=by rw[gF]; exact hl
   have key:∀ ps,mC P call run (.region ps (group l)) e=some (r,e')→(draw=true→ma ops.toList=true∧ps=CU ops.toList (l.map fun s=>jf P false s.b)) →
     ∃ h',dc P n (.region id ops draw) e.T h r e'.T h'∧ji h' e'∧Calm e e' h h':=by
    intro ps hx hdr
    simp only[mC,Jz] at hx
    split at hx
    ·rename_i e1 recs0 hx1
     split at hx
     ·rename_i hchk
      simp only[Vb,Ve] at hx
      obtain ⟨rfl,rfl⟩:=hx
      obtain ⟨recs,h',ha,tr,hk,hcm,hro⟩:=OA hcall hn (group l) ops.toList e e1 h [] recs0 hl' hok he hx1
      simp only[V9] at ha
      subst ha
      rw[gF] at hro
      refine ⟨h',?_,hk,hcm⟩
      cases hd:draw with
      | false=>simpa using G6 (id:=id) tr
      | true =>
       obtain ⟨h1,rfl⟩:=hdr hd
       have hcf:uv ops.toList recs0:=Pz hchk (by simpa using hro.1) (fun i x r hx hr=>by
        simp only[Vc,Vk] at hx
        obtain ⟨s,hs,rfl⟩:=hx
        exact hro.2 i s r hs hr)
       simpa using zi hm (id:=id) tr h1 hcf
     ·simp at hx
    ·simp at hx
   split at hc
   ·rename_i hd
    split at hc
    ·rename_i ht
     simp at hc; subst hc
     exact key _ hx (fun _=>⟨ht,rfl⟩)
    ·simp at hc
   ·rename_i hd
    simp at hc; subst hc
    exact key _ hx (fun e=>absurd e hd)
theorem PI (hm:P.follows .mixedOrders=true) {call:iE} (hcall:lg P call) {run:xS} (hrun:wN P run):wN P (mC P call run):=by
 intro n fz c sc hc hn e e' r h hx he
 cases c with
 | skip =>
  simp[jn] at hc; subst hc
  simp only[mC,MQ,Vb,Ve] at hx
  obtain ⟨rfl,rfl⟩:=hx
  exact ⟨h,.skip,he,Calm.refl _ _,fun _ h=>by simp at h⟩
 | region id ops draw =>
  obtain ⟨h',a,b,d⟩:=Ru (id:=id) hm hcall hn hc he hx
  exact ⟨h',a,b,d,fun _ h=>by simp at h⟩
 | seq x y =>
  simp only[jn] at hc
  split at hc
  ·rename_i a b h1 h2
   simp at hc; subst hc
   simp only[mC,SY] at hx
   split at hx
   ·rename_i e1 hx1
    obtain ⟨h1',x1,he1,c1,l1⟩:=hrun n fz x a h1 hn e e1 .normal h hx1 he
    obtain ⟨h2',x2,he2,c2,l2⟩:=hrun n fz y b h2 hn e1 e' r h1' hx he1
    exact ⟨h2',x1.seq x2,he2,c1.trans c2,fun _ h=>by simp at h⟩
   ·rename_i hne
    obtain ⟨h1',x1,he1,c1,l1⟩:=hrun n fz x a h1 hn e e' r h hx he
    refine ⟨h1',x1.KD (fun e=>?_),he1,c1,fun _ h=>by simp at h⟩
    subst e
    exact absurd hx (hne e')
  ·simp at hc
 | cond cc x y =>
  simp only[jn] at hc
  split at hc
  ·rename_i a b h1 h2
   simp at hc; subst hc
   simp only[mC,Rl,SX.cO] at hx
   split at hx
   ·rename_i ht
    obtain ⟨h1',x1,he1,c1,l1⟩:=hrun n fz x a h1 hn e e' r h hx he
    exact ⟨h1',.cond ht x1,he1,c1,fun _ h=>by simp at h⟩
   ·rename_i ht
    obtain ⟨h1',x1,he1,c1,l1⟩:=hrun n fz y b h2 hn e e' r h hx he
    exact ⟨h1',.cond ht x1,he1,c1,fun _ h=>by simp at h⟩
   ·simp at hx
  ·simp at hc
 | block id c =>
  simp only[jn,Vk] at hc
  obtain ⟨a,h1,rfl⟩:=hc
  simp only[mC,O5] at hx
  split at hx
  ·rename_i r1 e1 hx1
   simp only[Vb,Ve] at hx
   obtain ⟨rfl,rfl⟩:=hx
   obtain ⟨h1',x1,he1,c1,l1⟩:=hrun n fz c a h1 hn e e1 r1 h hx1 he
   exact ⟨h1',x1.block,he1,c1,fun _ h=>by simp at h⟩
  ·simp at hx
 | loop c =>
  have hc0:=hc
  simp only[jn,Vk] at hc
  obtain ⟨a,h1,rfl⟩:=hc
  simp only[mC,Rf] at hx
  split at hx
  ·rename_i e1 hx1
   obtain ⟨h1',x1,he1,c1,l1⟩:=hrun n fz c a h1 hn e e1 .normal h hx1 he
   obtain ⟨h2',x2,he2,c2,l2⟩:=hrun n fz (.loop c) (.loop a) hc0 hn e1 e' r h1' hx he1
   have hL:=pY.step x1 (l2 c rfl)
   exact ⟨h2',.loop hL,he2,c1.trans c2,fun c0 h0=>by simp only[Code.loop.injEq] at h0; subst h0; exact hL⟩
  ·rename_i hne
   obtain ⟨h1',x1,he1,c1,l1⟩:=hrun n fz c a h1 hn e e' r h hx he
   have hL:=pY.out x1 (fun e=>by subst e; exact absurd hx (hne e'))
   exact ⟨h1',.loop hL,he1,c1,fun c0 h0=>by simp only[Code.loop.injEq] at h0; subst h0; exact hL⟩
 | exit id =>
  simp[jn] at hc; subst hc
  simp only[mC,Vb,Ve] at hx
  obtain ⟨rfl,rfl⟩:=hx
  exact ⟨h,.exit,he,Calm.refl _ _,fun _ h=>by simp at h⟩
 | ret =>
  simp[jn] at hc; subst hc
  simp only[mC,Vb,Ve] at hx
  obtain ⟨rfl,rfl⟩:=hx
  exact ⟨h,.ret,he,Calm.refl _ _,fun _ h=>by simp at h⟩
 | _=>simp[jn] at hc
theorem Er:∀ (vs:List V) (i:Nat) (t:cK V),i+vs.length≤8000→∀ k,(mW vs i t).get .any k=if i≤k∧k < i+vs.length then vs.getD (k - i) .any else t.get .any k
 | [],i,t,h,k=>by
  rw[mW,Va (by simp only[VJ]; omega)]
 | v :: vs,i,t,h,k=>by
  simp only[Vr] at h
  rw[mW,Er vs (i+1) _ (by omega),cK.nG _ _ _ _ _ _ (by simp only[deep]; omega)]
  simp only[Vr]
  by_cases h1:k=i
  ·subst h1; rw[Va (by omega),Vd rfl,Vd (by omega)]; simp
  ·by_cases h2:i+1≤k∧k < i+1+vs.length
   ·rw[Vd h2,Vd (by omega)]
    have:k - i=(k - (i+1))+1:=by omega
    rw[this]; rfl
   ·rw[Va h2,Va h1,Va (by omega)]
theorem IE (vs:List V) (h:vs.length≤8000):(mW vs 0 .nil).get .any=ln vs:=by
 funext k
 rw[Er vs 0 .nil (by omega)]
 simp only[ln,WK,true_and,Wa,Nat.sub_zero]
 split
 ·rfl
 ·rename_i hk
  rw[U8,VI (by omega)]; rfl
theorem Rx {e:ES} {h:aL} {r:ResultVar} {rest:List ResultVar} {l:List SR} (he:ji h e) (hc:fO P (r :: rest)=some l):∃ s l',l=s :: l'∧fO P rest=some l'∧∀ v,PE s e=some v→sr P e.T h r=some v:=by
 cases r with
 | tmp t =>
  simp only[fO,Vk] at hc
  obtain ⟨l',h1,rfl⟩:=hc
  exact ⟨.tmp t,l',rfl,h1,fun v hv=>hv⟩
 | cell a t =>
  simp only[fO] at hc
  split at hc
  ·rename_i k l' h1 h2
   simp at hc; subst hc
   refine ⟨.cell a k,l',rfl,h2,fun v hv=>?_⟩
   simp only[PE] at hv
   simp only[sr,mG,xh h1]
   rw[he.1] at hv
   split at hv
   ·rename_i id i j ha
    split at hv
    ·rename_i es hH
     split at hv
     ·rename_i hlt
      rw[ha]; simp only[hH]; rw[Vd hlt,hv]; rfl
     ·simp at hv
    ·simp at hv
   ·rename_i e j ha
    rw[ha]; simp only; rw[hv]; rfl
   ·simp at hv
  ·simp at hc
theorem Ir {e:ES} {h:aL} (he:ji h e):∀ (rs:List ResultVar) (l:List SR) (vs:List V),fO P rs=some l→wj l e=some vs→mo P e.T h rs=some vs
 | [],l,vs,hc,hw=>by simp[fO] at hc; subst hc; simp[wj] at hw; subst hw; rfl
 | r :: rest,l,vs,hc,hw=>by
  obtain ⟨s,l',rfl,h1,h2⟩:=Rx (e:=e) (h:=h) he hc
  simp only[wj] at hw
  split at hw
  ·rename_i v vs' hv hvs
   simp at hw; subst hw
   simp[mo,h2 v hv,Ir he rest l' vs' h1 hvs]
  ·simp at hw
def tN (P:Program) (tab:List (FuncId × DF)):Prop:=∀ p∈tab,∃ fz,Hn P p.1 fz=some p.2
def sN (P:Program) (ext:zw):Prop:=∀ g vs H t,ext g vs H=some t→dJ P g=true∧∀ h:aL,h.view=H→bX P g vs h t h
theorem GO {tab:List (FuncId × DF)} {ext:zw} (ht:tN P tab) (hx:sN P ext) {run:xS} (hrun:wN P run):lg P (FX P tab ext run):=by
 intro g vs e v e' h hcall he
 unfold FX at hcall
 split at hcall
 ·rename_i t hext
  simp only[Vb,Ve] at hcall
  obtain ⟨rfl,rfl⟩:=hcall
  obtain ⟨h1,h2⟩:=hx _ _ _ _ hext
  exact ⟨h1,h,h2 h he.1.symm,he,fun _ _ _=>rfl,fun _ hw=>by simp at hw⟩
 ·split at hcall
  ·rename_i g' F hf
   have hmem:=List.mem_of_find?_eq_some hf
   have hgg:g'=g:=by
    have:=List.find?_some hf
    exact Xc this
   subst hgg
   obtain ⟨fz,hF⟩:=ht _ hmem
   simp only at hF
   unfold Hn at hF
   split at hF
   ·rename_i fn hfn
    split at hF
    ·rename_i c hb
     split at hF
     ·rename_i sc rs h1 h2 h3
      simp at hF; subst hF
      refine ⟨h3,?_⟩
      unfold Tw at hcall
      split at hcall
      ·rename_i hlen hn
       have hlen:=Nat.le_of_ble_eq_true hlen
       have hn:=Nat.le_of_ble_eq_true hn
       simp only at hlen hn
       unfold SU at hcall
       split at hcall
       ·rename_i v1 e1' hend
        simp only[Vb,Ve] at hcall
        obtain ⟨rfl,rfl⟩:=hcall
        unfold SN at hend
        have go:∀ (r:Exit) (e1:ES),(r=.ret∨r=.normal)→run sc ⟨mW vs 0 .nil,e.H,e.n,[]⟩=some (r,e1)→(wj rs e1).map (fun vs=>(ah vs,e1))=some (v1,e1') →
          ∃ h',bX P g' vs h v1 h'∧ji h' e1'∧(∀ id,id < h.length→¬ id∈e1'.w→h'.view id=h.view id):=by
         intro r e1 hr hrn hres
         simp only[Vk,Ve] at hres
         obtain ⟨vs',hvs,rfl,rfl⟩:=hres
         obtain ⟨h',hx,he1,hc1,_⟩:=hrun fn.ntmps fz c sc h1 hn _ e1 r h hrn he
         have hT:(ES.T ⟨mW vs 0 .nil,e.H,e.n,[]⟩)=ln vs:=IE vs (by omega)
         rw[hT] at hx
         refine ⟨h',bX.J5 hfn hb hlen hx (by rcases hr with rfl | rfl <;> simp) ?_,he1,fun id hid hw=>(hc1.2 id hid hw).1⟩
         unfold LI
         rw[Ir he1 _ _ _ h2 hvs]
         cases vs' with
         | nil=>rfl
         | cons a l=>cases l <;> rfl
        have done:(∃ h',bX P g' vs h v1 h'∧ji h' e1'∧(∀ id,id < h.length→¬ id∈e1'.w→h'.view id=h.view id)) →
          ∃ h',bX P g' vs h v1 h'∧ji h' ⟨e1'.L,e1'.H,e1'.n,e1'.w.filter fun id=>Nat.blt id e.n⟩∧(∀ id,id < h.length→¬ id∈e1'.w.filter (fun id=>Nat.blt id e.n)→h'.view id=h.view id)∧∀ id,id∈e1'.w.filter (fun id=>Nat.blt id e.n)→id < h.length:=by
         rintro ⟨h',k1,k2,k3⟩
         refine ⟨h',k1,k2,fun id hid hw=>k3 id hid (fun hm=>hw ?_),fun id hw=>?_⟩
         ·rw[VX]
          exact ⟨hm,by rw[he.2]; exact Nat.ble_eq_true_of_le hid⟩
         ·rw[VX] at hw
          have:=Nat.le_of_ble_eq_true hw.2
          rw[he.2] at this; exact this
        split at hend
        ·rename_i e1 hrn; exact done (go _ _ (.inl rfl) hrn hend)
        ·rename_i e1 hrn; exact done (go _ _ (.inr rfl) hrn hend)
        ·simp at hend
       ·simp at hcall
      ·simp at hcall
     ·simp at hF
    ·simp at hF
   ·simp at hF
  ·simp at hcall
theorem Kt (hm:P.follows .mixedOrders=true) {tab:List (FuncId × DF)} {ext:zw} (ht:tN P tab) (hx:sN P ext):∀ k,wN P (HF P tab ext k)
 | 0=>fun n fz c sc hc hn e e' r h hr he=>by simp[HF] at hr
 | k+1=>by
  have ih:=Kt hm ht hx k
  have:=PI hm (GO ht hx ih) ih
  exact this
end
inductive eu (h:aL):V→V→Prop
 | val (v:Value):eu h (.val v) (.val v)
 | emp (k:Nat):eu h (.emp k) (.aK [])
 | sl (id off len esz z:Nat) (es es':List (List V)):h.view id=.arr z es→off+len≤es.length→es'.length=len →
  (∀ i,i < len→(es'.getD i []).length=(es.getD (off+i) []).length) →
  (∀ i j,i < len→j < (es'.getD i []).length→eu h ((es.getD (off+i) []).getD j .any) ((es'.getD i []).getD j .any))→eu h (.sl id off len esz) (.aK es')
 | agg (cs cs':List V):cs'.length=cs.length→(∀ i,i < cs.length→eu h (cs.getD i .any) (cs'.getD i .any))→eu h (.agg cs) (.agg cs')
 | bI (cs cs':List V):cs'.length=cs.length→(∀ i,i < cs.length→eu h (cs.getD i .any) (cs'.getD i .any))→eu h (.bI cs) (.bI cs')
theorem Sa {h:aL} {Z:Nat→Prop} {μ ν:Mu} {F:View} {hp:Array Obj} (hr:ik Z μ hp (cat h F)) {v t:V} (fr:eu h v t):∀ {x:Value},aG Z μ hp v x→aG (jr μ) ν hp t x:=by
 have hcat:∀ id,h.view id≠.dead→cat h F id=h.view id:=fun id hd=>by simp only[cat]; rw[Vd (iA hd)]
 induction fr with
 | val v=>intro x hx; cases hx with | val _ hv=>exact .val _ hv
 | emp k=>intro x hx; cases hx with | emp _ a=>exact .iH a 0 (fun _=>rfl)
 | sl id off len esz z es es' hH hle hlen hl _ ih =>
  intro x hx
  cases hx with
  | pn _ _ _ a =>
   have:es'=[]:=Ws.1 hlen
   subst this
   exact .iH a 0 (fun _=>rfl)
  | sl _ _ _ _ b o0 cap c e f hm hlec hb hs =>
   have hor:=hr.obj id
   rw[hcat id (by rw[hH]; simp),hH] at hor
   obtain ⟨rfl,_,h3,h4⟩:=hor b o0 esz hm
   have hx:∀ i,∃ ci:Nat→Value,∀ j,j < esz→i < len→cellAt hp b (o0+off * esz+i * esz+j)=some (ci j)∧aG Z μ hp ((es.getD (off+i) []).getD j .any) (ci j):=by
    intro i
    by_cases hi:i < len
    ·obtain ⟨ci,hci⟩:=om (n:=esz) (p:=fun j x=>cellAt hp b (o0+off * esz+i * esz+j)=some x∧aG Z μ hp ((es.getD (off+i) []).getD j .any) x) (fun j hj=>by
      obtain ⟨x,hx,hv⟩:=h4 (off+i) j (by omega) hj
      rw[VW,← W7] at hx
      exact ⟨x,hx,hv⟩)
     exact ⟨ci,fun j hj _=>hci j hj⟩
    ·exact ⟨fun _=>undef,fun j _ h=>absurd h hi⟩
   obtain ⟨cf,hcf⟩:=Classical.axiomOfChoice hx
   have hel:∀ i,i < es'.length→(es'.getD i []).length=esz:=fun i hi=>by rw[hl i (by omega)]; exact h3 _ (by omega)
   have:=aG.aK (Z:=jr μ) (μ:=ν) (hp:=hp) es' b (o0+off * esz) esz cap cf ⟨id,o0,esz,hm⟩ (by omega) hel
    (fun i j hi hj=>(hcf i j hj (by omega)).1) (fun i j hi hj=>ih i j (by omega) (by rw[hel i hi]; exact hj) (hcf i j hj (by omega)).2)
   rw[hlen] at this
   exact this
 | agg cs cs' hlen _ ih =>
  intro x hx
  cases hx with
  | agg _ aas h1 h2=>exact .agg _ _ (by omega) (fun i hi=>ih i (by omega) (h2 i (by omega)))
 | bI cs cs' hlen _ ih =>
  intro x hx
  cases hx with
  | bI _ aas h1 h2=>exact .bI _ _ (by omega) (fun i hi=>ih i (by omega) (h2 i (by omega)))
def cR (P:Program) (f:FuncId) (vs:List V) (t:V):Prop :=
 ∀ Z μ (w:World) (xs:List Value),gf Z μ w.heap vs xs→(∀ b,Z b→b < w.heap.size) →
  Calls P f xs.toArray w fun e w'=>∃ x Z',e=.returned x∧(∀ ν,aG Z' ν w'.heap t x)∧eO w w'∧(∀ b,Z' b→w.heap.size≤b∧b < w'.heap.size)∧gj w.heap w'.heap (fun _=>False)
theorem cR.pure {P:Program} {f:FuncId} {vs:List V} {t:V} (h:cR P f vs t):aI P f vs t:=by
 intro Z μ w xs hrel hz
 refine (h Z μ w xs hrel hz).mono ?_
 rintro e w' ⟨x,Z',rfl,hv,hs,hz',ho⟩
 exact ⟨x,fun b=>Z b∨Z' b,rfl,fun ν=>(hv ν).mono ⟨fun _ h=>.inr h,fun _ _=>rfl,fun _ _ h=>h,fM.refl _⟩,hs,fun _ h=>.inl h,fun b hb=>hb.imp id (hz' b),ho⟩
theorem cR.w8 {P:Program} {f:FuncId} {vs:List V} {r t:V} {h':aL} (ht:∀ v∈vs,Tree v) (hc:bX P f vs [] r h') (hf:eu h' r t):cR P f vs t:=by
 intro Z μ w xs hrel hz
 have hrel0:gf Z (fun _=>none) w.heap vs xs:=⟨hrel.1,fun i hi=>wy (hrel.2 i hi) (by
  simp only[U8,U9 hi,Vs]
  exact ht _ (Vi _))⟩
 have hr0:ik Z (fun _=>none) w.heap (cat [] fun _=>.dead):=by
  rw[DK]
  exact ⟨fun _=>trivial,fun i j b o s o' s' _ h=>by simp at h,fun id b o s h=>by simp at h,hz,fun id b o s h=>by simp at h⟩
 refine (hc.2 Z _ _ w xs hrel0 hr0 (fun _ _ _=>rfl)).mono ?_
 rintro e w' ⟨x,Z',μ',rfl,hv,hh,hex,_⟩
 refine ⟨x,jr μ',rfl,fun ν=>Sa hh hf hv,hex.same,?_,fun b hb _=>hex.frame b hb (by rintro ⟨_,_,_,h⟩; simp at h)⟩
 rintro b ⟨id,o,s,hb⟩
 rcases hex.C4 _ _ _ _ hb with h1 | ⟨_,h1 | ⟨_,_,_,h1⟩⟩
 ·simp at h1
 ·exact ⟨h1,hh.lt _ _ _ _ hb⟩
 ·simp at h1
theorem cR.of {P:Program} {f:FuncId} {vs:List V} {t:V} (ht:∀ v∈vs,Tree v) (h:aC P f vs (fun _=>.dead) fun r H'=>∀ h':aL,h'.view=H'→eu h' r t):cR P f vs t:=by
 obtain ⟨r,h',ha,_,hf⟩:=h.2 [] EX
 exact cR.w8 ht ha (hf h' rfl)
theorem bX.vx {P:Program} {f:FuncId} {ts vs:List V} {t:V} {h:aL} (hc:cR P f ts t) (hl:ts.length=vs.length)
  (hfr:∀ i,i < vs.length→Fr h (vs.getD i .any) (ts.getD i .any)):bX P f vs h t h:=by
 refine ⟨Vj _,fun Z μ F w xs hrel hr hfree=>?_⟩
 have hts:gf (fun b=>Z b∨jr μ b) μ w.heap ts xs:=⟨by rw[hl,hrel.1],fun i hi=>Cp hr (hfr i (by omega)) (hrel.2 i (by omega))⟩
 have hzl:∀ b,(Z b∨jr μ b)→b < w.heap.size:=by
  rintro b (hb | ⟨id,o,s,hb⟩)
  ·exact hr.cP b hb
  ·exact hr.lt _ _ _ _ hb
 refine (hc _ μ w xs hts hzl).mono ?_
 rintro e w' ⟨x,Z',rfl,hv,hs,hz',ho⟩
 have hm:hU Z (fun b=>Z b∨Z' b) μ μ w.heap w'.heap:=⟨fun _ h=>.inl h,fun b hb=>ho b (hr.cP b hb) (fun x=>x),fun _ _ h=>h,ho.qT⟩
 refine ⟨x,fun b=>Z b∨Z' b,μ,rfl,(hv μ).mono ⟨fun _ h=>.inr h,fun _ _=>rfl,fun _ _ h=>h,fM.refl _⟩,⟨fun id=>(hr.obj id).mono hm rfl (fun b o s hx=>ho b (hr.lt _ _ _ _ hx) (fun x=>x)),hr.inj,fun id b o s hx=>VH (hr.lt _ _ _ _ hx) hs.size,fun b hb=>?_,fun id b o s hx hzb=>?_⟩,
  ⟨hs,hm,fun b hb _=>ho b hb (fun x=>x),fun b hb=>hb.imp id (fun h=>(hz' b h).1),fun _ _ _ _ h=>.inl h⟩,fun _ _=>rfl⟩
 ·rcases hb with hb | hb
  ·exact VH (hr.cP b hb) hs.size
  ·exact (hz' b hb).2
 ·rcases hzb with hb | hb
  ·exact hr.gX _ _ _ _ hx hb
  ·have:=hr.lt _ _ _ _ hx; have:=(hz' b hb).1; omega
theorem aD.vx {P:Program} {q:Bool} {f:FuncId} {H:View} {vs ts:List V} {K:V→View→Prop} {v:cD (H,K)} {t:V} (hc:cR P f ts t) (hok:dJ P f=true) (hl:ts.length=vs.length)
  (hfr:∀ i,i < vs.length→dT H (vs.getD i .any) (ts.getD i .any)) (hk:K t H):aD P q f vs H K v:=by
 unfold aD
 cases q with
 | true=>exact ⟨hok,fun h e=>⟨t,h,bX.vx hc hl (fun i hi=>hfr i hi h e),fun _ _=>rfl,e ▸ hk⟩⟩
 | false =>
  refine ⟨hok,?_⟩
  rintro h rfl
  exact ⟨t,h,bX.vx hc hl (fun i hi=>hfr i hi h rfl),.refl _,hk⟩
noncomputable def oh (fz:V→Option V):List V→Option (List V)
 | []=>some []
 | v :: l=>match fz v,oh fz l with
  | some a,some b=>some (a :: b)
  | _,_=>none
noncomputable def DO (fz:V→Option V):List (List V)→Option (List (List V))
 | []=>some []
 | v :: l=>match oh fz v,DO fz l with
  | some a,some b=>some (a :: b)
  | _,_=>none
noncomputable def yp (H:View):Nat→V→Option V
 | 0,_=>none
 | k+1,v=>match v with
  | .val x=>some (.val x)
  | .emp _=>some (.aK [])
  | .sl id off len _=>match H id with
   | .arr _ es=>if off+len≤es.length then (DO (yp H k) ((es.drop off).take len)).map .aK else none
   | _=>none
  | .agg cs=>(oh (yp H k) cs).map .agg
  | .bI cs=>(oh (yp H k) cs).map .bI
  | _=>none
theorem iz {fz:V→Option V} : ∀ (l l':List V),oh fz l=some l'→l'.length=l.length∧∀ i,i < l.length→fz (l.getD i .any)=some (l'.getD i .any)
 | [],l',h=>by simp only[oh,Vb] at h; subst h; exact ⟨rfl,fun i hi=>by simp at hi⟩
 | v :: l,l',h=>by
  simp only[oh] at h
  split at h
  ·rename_i a b h1 h2
   simp only[Vb] at h; subst h
   obtain ⟨g1,g2⟩:=iz l b h2
   refine ⟨by simp[g1],fun i hi=>?_⟩
   cases i with
   | zero=>exact h1
   | succ i=>exact g2 i (by simpa using hi)
  ·simp at h
theorem DV {fz:V→Option V} : ∀ (l l':List (List V)),DO fz l=some l'→l'.length=l.length∧∀ i,i < l.length→oh fz (l.getD i [])=some (l'.getD i [])
 | [],l',h=>by simp only[DO,Vb] at h; subst h; exact ⟨rfl,fun i hi=>by simp at hi⟩
 | v :: l,l',h=>by
  simp only[DO] at h
  split at h
  ·rename_i a b h1 h2
   simp only[Vb] at h; subst h
   obtain ⟨g1,g2⟩:=DV l b h2
   refine ⟨by simp[g1],fun i hi=>?_⟩
   cases i with
   | zero=>exact h1
   | succ i=>exact g2 i (by simpa using hi)
  ·simp at h
theorem Jv (h:aL):∀ (k:Nat) (v t:V),yp h.view k v=some t→eu h v t
 | 0,v,t,hf=>by simp[yp] at hf
 | k+1,v,t,hf=>by
  have ih:=Jv h k
  simp only[yp] at hf
  split at hf
  ·simp only[Vb] at hf; subst hf; exact .val _
  ·simp only[Vb] at hf; subst hf; exact .emp _
  ·rename_i id off len esz
   split at hf
   ·rename_i z es hH
    split at hf
    ·rename_i hle
     simp only[Vk] at hf
     obtain ⟨es',he,rfl⟩:=hf
     obtain ⟨g1,g2⟩:=DV _ _ he
     have hlen:es'.length=len:=by rw[g1]; simp; omega
     have hg:∀ i,i < len→((es.drop off).take len).getD i []=es.getD (off+i) []:=fun i hi=>by
      simp[U8,WL,hi]
     have g3:∀ i,i < len→oh (yp h.view k) (es.getD (off+i) [])=some (es'.getD i []):=fun i hi=>by
      rw[← hg i hi]; exact g2 i (by rw[← g1,hlen]; exact hi)
     exact .sl id off len esz z es es' hH hle hlen (fun i hi=>(iz _ _ (g3 i hi)).1) (fun i j hi hj=>ih _ _ ((iz _ _ (g3 i hi)).2 j (by rw[← (iz _ _ (g3 i hi)).1]; exact hj)))
    ·simp at hf
   ·simp at hf
  ·simp only[Vk] at hf
   obtain ⟨l,hl,rfl⟩:=hf
   obtain ⟨g1,g2⟩:=iz _ _ hl
   exact .agg _ _ g1 (fun i hi=>ih _ _ (g2 i hi))
  ·simp only[Vk] at hf
   obtain ⟨l,hl,rfl⟩:=hf
   obtain ⟨g1,g2⟩:=iz _ _ hl
   exact .bI _ _ g1 (fun i hi=>ih _ _ (g2 i hi))
  ·simp at hf
noncomputable def Re:Option (V × ES)→Option V
 | some (v,e)=>yp e.V 50 v
 | none=>none
noncomputable def zW (P:Program) (tab:List (FuncId × DF)) (ext:zw) (f:FuncId) (vs:List V):Option V :=
 Re (FX P tab ext (HF P tab ext 100000) f vs ⟨.nil,.nil,0,[]⟩)
theorem xw {P:Program} (hm:P.follows .mixedOrders=true) {tab:List (FuncId × DF)} {ext:zw} (ht:tN P tab) (hx:sN P ext) {f:FuncId} {vs:List V} {t:V} (hvs:∀ v∈vs,Tree v) (h:zW P tab ext f vs=some t) :
  cR P f vs t:=by
 unfold zW Re at h
 split at h
 ·rename_i v e hr
  obtain ⟨h1,h',h2,h3,_⟩:=GO ht hx (Kt hm ht hx 100000) f vs _ v e [] hr ⟨by funext k; rfl,rfl⟩
  rw[h3.1] at h
  exact cR.w8 hvs h2 (Jv h' 50 v t h)
 ·simp at h
def BT (P:Program) (fs:List (FuncId × List Nat)):List (FuncId × DF):=fs.filterMap fun f=>(Hn P f.1 f.2).map (f.1,·)
theorem Bl (P:Program) (fs:List (FuncId × List Nat)):tN P (BT P fs):=by
 intro p hp
 unfold BT at hp
 obtain ⟨f,_,h⟩:=Wm.1 hp
 simp only[Vk] at h
 obtain ⟨d,h1,rfl⟩:=h
 exact ⟨f.2,h1⟩
structure aw.dK (g:aw):Prop where
 ay:g.ay.length≤24
 p9:1≤g.az.length
 az:g.az.length≤16
 U3:1≤g.rules.length
 rules:g.rules.length≤40
 me:0≤g.start
 start:g.start < g.az.length
 left:∀ r∈g.rules,0≤r.left∧r.left < g.az.length
 right:∀ r∈g.rules,r.right.length≤6
 sym:∀ r∈g.rules,∀ s∈r.right,gu g s=true
 prec:∀ r∈g.rules,-1≤r.prec∧r.prec < g.ay.length
theorem yH {g:aw} : ∀ (l:List bw) (top:Int),ic g l top=true→top≤(g.az.length:Int) - 1∧∀ r∈l,0≤r.left∧r.left < g.az.length∧iM g r=true
 | [],top,h=>by simp[ic] at h; exact ⟨by omega,fun r hr=>by simp at hr⟩
 | r :: l,top,h=>by
  simp only[ic,Vm,Vo] at h
  obtain ⟨⟨⟨h1,h2⟩,h3⟩,h4⟩:=h
  obtain ⟨k1,k2⟩:=yH l _ h4
  have h5:r.left≤(if r.left > top then r.left else top):=by split <;> omega
  have h6:top≤(if r.left > top then r.left else top):=by split <;> omega
  refine ⟨by omega,fun r' hr=>?_⟩
  rcases Vp.1 hr with rfl | hr
  ·exact ⟨h1,by omega,h3⟩
  ·exact k2 r' hr
theorem bO {g:aw} (h:bS g=true):g.dK:=by
 simp only[bS,j7,kR,Vm,Vo] at h
 obtain ⟨⟨⟨⟨⟨⟨⟨h1,_⟩,⟨h2,h3⟩,_⟩,h4⟩,h5⟩,h6⟩,h7⟩,h8⟩:=h
 have k:=(yH _ _ h8).2
 have hb:∀ r∈g.rules,r.right.length≤6∧-1≤r.prec∧r.prec < g.ay.length∧∀ s∈r.right,gu g s=true:=fun r hr=>by
  have:=(k r hr).2.2
  simp only[iM,Vm,Vo,VK,mT] at this
  exact ⟨this.1.1.1,this.1.1.2,this.1.2,fun s hs=>(this.2 s hs).1⟩
 exact ⟨h1,h2,h3,h4,h5,h6,h7,fun r hr=>⟨(k r hr).1,(k r hr).2.1⟩,fun r hr=>(hb r hr).1,fun r hr=>(hb r hr).2.2.2,fun r hr=>⟨(hb r hr).2.1,(hb r hr).2.2.1⟩⟩
theorem aw.dK.neg {g:aw} (h:g.dK) {r:bw} (hr:r∈g.rules) {s:Int} (hs:s∈r.right) (hn:s < 0) : -1 - s < g.az.length:=by
 have:=h.sym r hr s hs
 simp only[gu] at this
 rw[Va (by omega)] at this
 simpa using this
theorem Hm (l:List Int) (is:List Bool) (t:Bool) (hl:aS l) (hs:∀ s∈l,cm s∧(s < 0→-1 - s < is.length)):aI Tryz.prog 117 [encI l,bP is,gb t] (gb (cQ l is t)) :=
 aI.val (by
  intro v hv; simp at hv
  rcases hv with rfl | rfl | rfl
  ·exact eP _
  ·exact gN _
  ·exact .val _) (fun H=>(S3 l is t hl hs H).mono fun r H' h=>h.1)
abbrev dA (is:List Bool):List (List V):=is.map fun x=>[gb x]
theorem yq {h:aL} {id:Nat} {is:List Bool} (hv:h.view id=.arr 1 (dA is)):eu h (.sl id 0 is.length 1) (bP is):=by
 refine .sl id 0 is.length 1 1 (dA is) _ hv (by simp) (by simp) (fun i hi=>by simp) (fun i j hi hj=>?_)
 rw[Wa]
 have e:(dA is).getD i []=[gb is[i]]:=by simp[U8,hi]
 rw[e] at hj ⊢
 have:j=0:=by simp at hj; omega
 subst this
 exact .val _
theorem By {H:View} {id n:Nat} {is:List Bool} (hv:H id=.arr 1 (dA is)) (hn:n=is.length):dT H (.sl id 0 n 1) (bP is):=by
 have ht:∀ e∈dA is,∀ v∈e,Tree v:=by
  intro e he v hv
  obtain ⟨a,_,rfl⟩:=Vw.1 he
  rw[VY] at hv
  subst hv
  exact .val _
 have:=dT.sl (off:=0) (len:=n) (esz:=1) hv (by simp[hn]) ht
 rwa [Ww,Vq (by simp[hn])] at this
theorem kP {is:List Bool} {i:Nat} (h:i < is.length):(dA is).getD i []=[gb is[i]]:=by simp[U8,h]
theorem lh (is:List Bool) (i:Nat) (b:Bool):(dA is).set i [gb b]=dA (is.set i b):=by simp[WQ]
theorem zF (n:Nat) (b:Bool):List.replicate n [gb b]=dA (List.replicate n b):=by simp
def iter {α:Type} (f:α→α):Nat→α→α
 | 0,x=>x
 | n+1,x=>iter f n (f x)
def eE (t:Bool) (is:List Bool) (r:bw):List Bool:=if cQ r.right is t=true then is.set r.left.toNat true else is
def kd (g:aw) (t:Bool) (is:List Bool):List Bool:=g.rules.foldl (eE t) is
def cp (g:aw):List Bool:=List.replicate g.az.length false
def aA (g:aw) (t:Bool):List Bool:=if bS g=true then iter (kd g t) g.az.length (cp g) else []
theorem Lx (t:Bool) (is:List Bool) (r:bw):(eE t is r).length=is.length:=by unfold eE; split <;> simp
def nB:SC :=
 .seq (.seq (ao [aj 22 7,aB 23 2 2,ax 24 23,aX 25 24,bc 26 .lss 22 25]) <|
 .cond (.tmp 26) (.skip) (.exit 2)) <|
 .seq (.block 3 (.seq (ao [aB 29 2 2,ax 30 29,aj 31 7,aP 32 3 30 31,aB 33 1 32,ax 34 33,aj 35 5,aj 36 1,bC 37 117 [34,35,36]]) <|
 .cond (.tmp 37) (ao [aj 38 5,aB 39 2 2,ax 40 39,aj 41 7,aP 42 3 40 41,aB 43 0 42,ax 44 43,aP 45 1 38 44,(none,.op (.store 1 (.tmp 45) (.val (.val (.bool true)))))]) (.skip))) <|
 ao [aj 27 7,aQ 28 .add 27 1,aj 7 28]
def nj:SC :=
 .seq (.seq (ao [aj 15 6,aB 16 1 2,ax 17 16,aX 18 17,bc 19 .lss 15 18]) <|
 .cond (.tmp 19) (.skip) (.exit 0)) <|
 .seq (.block 1 (.seq (ao [bj 7 0]) <|
 .block 2 (.loop nB))) <|
 ao [aj 20 6,aQ 21 .add 20 1,aj 6 21]
def pj:SF:=⟨.seq (ao [cL 2 0,((some 4),.op (.bL (.val (.emp 1))))]) <|
 .seq (.seq (ao [bp 8 4 2,bC 9 54 [8],dd 10 9]) <|
 .cond (.tmp 10) (.seq (ao [((some 4),.op (.bL (.val (.emp 1))))]) <|
 .ret) (.skip)) <|
 .seq (ao [aB 11 1 2,ax 12 11,aX 13 12,((some 14),.op (.make 1 1 [(.val (.bool false))] (.tmp 13) (.tmp 13))),aj 5 14]) <|
 .seq (.seq (ao [bj 6 0]) <|
 .block 0 (.loop nj)) <|
 .seq (ao [aj 46 5,aj 4 46]) <|
 .ret,
 [.tmp 4],47⟩
theorem uK:aV Tryz.prog 125 [2]=some pj:=by kernel_rfl
def mq:SF:=⟨.seq (ao [cL 1 0,((some 2),.op (.bL (.val (.emp 1))))]) <|
 .seq (ao [bp 3 4 1,oc 4 125 [(.tmp 3),(.val (.val (.bool false)))],aj 2 4]) <|
 .ret,
 [.tmp 2],5⟩
theorem rZ:aV Tryz.prog 81 [1]=some mq:=by kernel_rfl
def lf:SF:=⟨.seq (ao [cL 1 0,((some 2),.op (.bL (.val (.emp 1))))]) <|
 .seq (ao [bp 3 4 1,oc 4 125 [(.tmp 3),(.val (.val (.bool true)))],aj 2 4]) <|
 .ret,
 [.tmp 2],5⟩
theorem qJ:aV Tryz.prog 115 [1]=some lf:=by kernel_rfl
theorem QG (g:aw) (t:Bool):∀ v∈[V.agg (au g),gb t],Tree v:=by
 intro v hv; simp at hv
 rcases hv with rfl | rfl
 ·exact cI _ (dH g)
 ·exact .val _
set_option maxHeartbeats 2000000 in
theorem P4 (g:aw) (hg:g.Ok) (t:Bool) (H:View):aC Tryz.prog 125 [.agg (au g),gb t] H fun r H'=>∀ h':aL,h'.view=H'→eu h' r (bP (aA g t)):=by
 refine aC.of mixed uK ?_
 simp (disch:=omega) only [↓wr,seval,wq,ah,ag,ak,aa,ab,af,ai,ae,pj,au,encS]
 refine aD.pure (lH g hg) (by kernel_rfl) ?_
 repeat' (first | (refine av.dec (fun _=>?_) (fun _=>?_)) | (refine av.eq (fun _=>?_) (fun _=>?_)) | (refine av.ne (fun _=>?_) (fun _=>?_)) | (refine av.split (fun _=>?_) (fun _=>?_)) | (simp (disch:=omega) only [↓wr,seval,wq,ah,ag,ak,aa,ab,af,ai,ae,au,encS]))
 ·rename_i hr
  have hf:=bO hr
  obtain ⟨hN1,hN2⟩:=And.intro hf.p9 hf.az
  refine ⟨⟨by omega,by unfold aJ; omega,by unfold aJ; omega⟩,fun hz=>by omega,fun _ m hm=>?_⟩
  try simp (disch:=omega) only [↓wr,seval,wq,ah,ag,ak,aa,ab,af,ai,ae,au,encS]
  refine aZ.intro (fun k T H'=>∃ (i:Nat) (is:List Bool),i+k=g.az.length∧is.length=g.az.length∧iter (kd g t) k is=iter (kd g t) g.az.length (cp g)∧T 1=gb t∧T 2=.aN (au g) 0∧T 5=.sl m 0 g.az.length 1∧H' m=.arr 1 (dA is)∧T 6=gi i) g.az.length ?_ ?_
  ·refine ⟨0,cp g,by omega,by simp[cp],rfl,?_⟩
   simp (disch:=omega) only [↓wr,↓reduceIte,wq,ah,ag,ak,aa,ab,af,ai,ae,Nat.reduceEqDiff,Nat.reduceAdd,Nat.reduceLT,Nat.reduceLeDiff,Int.reduceNeg,Int.reduceToNat,reduceCtorEq,au,encS]
   exact ⟨by rw[zF]; rfl,rfl⟩
  ·rintro k T H' ⟨i,is,hk,hlen,hi,f1,f2,f5,fm,f6⟩
   simp (disch:=omega) only [↓wr,seval,wq,ah,ag,ak,aa,ab,af,ai,ae,nj,f1,f2,f5,f6,au,encS]
   refine av.dec (fun hc=>?_) (fun hc=>?_)
   ·simp (disch:=omega) only [↓wr,seval,wq,ah,ag,ak,aa,ab,af,ai,ae,f1,f2,f5,f6,au,encS]
    refine aZ.intro (fun k' T H'=>∃ (j:Nat) (is':List Bool),j+k'=g.rules.length∧is'.length=g.az.length∧(g.rules.drop j).foldl (eE t) is'=kd g t is∧T 1=gb t∧T 2=.aN (au g) 0∧T 5=.sl m 0 g.az.length 1∧H' m=.arr 1 (dA is')∧T 6=gi i∧T 7=gi j) g.rules.length ?_ ?_
    ·refine ⟨0,is,by omega,hlen,rfl,?_⟩
     simp (disch:=omega) only [↓wr,↓reduceIte,wq,ah,ag,ak,aa,ab,af,ai,ae,Nat.reduceEqDiff,Nat.reduceAdd,Nat.reduceLT,Nat.reduceLeDiff,Int.reduceNeg,Int.reduceToNat,reduceCtorEq,f1,f2,f5,f6,fm,au,encS]
     rfl
    ·rintro k' T' H'' ⟨j,is',hk',hlen',hj,e1,e2,e5,em,e6,e7⟩
     simp (disch:=omega) only [↓wr,seval,wq,ah,ag,ak,aa,ab,af,ai,ae,nB,e1,e2,e5,e6,e7,au]
     refine av.dec (fun hd=>?_) (fun hd=>?_)
     ·have hle:=hf.rules
      have hg2:g.rules[j]?=some (g.rules[j]'(by omega)):=U9 (by omega)
      rw[eW (show j < g.rules.length by omega)] at hj
      have hmem:g.rules[j]'(by omega)∈g.rules:=Vi _
      generalize g.rules[j]'(by omega)=r at hg2 hj hmem
      simp only[VF] at hj
      obtain ⟨hl1,hl2⟩:=hf.left r hmem
      obtain ⟨_,_,hs1,hs2⟩:=hg.aF r hmem
      have hall:=Hm r.right is' t hs1 (fun s hs=>⟨hs2 s hs,fun hn=>by have:=hf.neg hmem hs hn; omega⟩)
      simp (disch:=omega) only [↓wr,seval,wq,ah,ag,ak,aa,ab,af,ai,ae,e1,e2,e5,e6,e7,au,encS,aO,Vc,hg2,Vh]
      refine aD.borrow hall (by kernel_rfl) (.val _) rfl (fun q hq=>?_) ?_
      ·match q,hq with
       | 0,_=>exact dT.tree (eP _)
       | 1,_=>exact By em hlen'.symm
       | 2,_=>exact dT.tree (.val _)
      ·simp (disch:=omega) only [↓wr,seval,wq,ah,ag,ak,aa,ab,af,ai,ae,e1,e2,e5,e6,e7,au,encS,aO,Vc,hg2,Vh]
       refine av.split (fun ha=>?_) (fun ha=>?_)
       ·have hst:eE t is' r=is'.set r.left.toNat true:=by rw[eE,Vd ha]
        simp (disch:=omega) only [↓wr,seval,wq,ah,ag,ak,aa,ab,af,ai,ae,e1,e2,e5,e6,e7,em,au,encS,aO,Vc,hg2,Vh,kP (show r.left.toNat < is'.length by omega)]
        rw[hst] at hj
        exact ⟨by omega,by omega,k' - 1,by omega,j+1,is'.set r.left.toNat true,by omega,by simp[hlen'],hj,by rw[lh],rfl⟩
       ·have hst:eE t is' r=is':=by rw[eE,Va (by rw[ha]; simp)]
        rw[hst] at hj
        simp (disch:=omega) only [↓wr,seval,wq,ah,ag,ak,aa,ab,af,ai,ae,e1,e2,e5,e6,e7]
        exact ⟨k' - 1,by omega,j+1,is',by omega,hlen',hj,by first | rfl | exact ⟨rfl,rfl⟩ | exact ⟨em,rfl⟩ | exact ⟨rfl,em,rfl⟩⟩
     ·rw[VD (by omega),Wk] at hj
      simp (disch:=omega) only [↓wr,seval,wq,ah,ag,ak,aa,ab,af,ai,ae,e1,e2,e5,e6,e7]
      obtain ⟨q,rfl⟩:∃ q,k=q+1:=⟨k - 1,by omega⟩
      exact ⟨q,by omega,i+1,is',by omega,hlen',by rw[hj]; exact hi,rfl,em,rfl⟩
   ·simp (disch:=omega) only [↓wr,seval,wq,ah,ag,ak,aa,ab,af,ai,ae,f1,f2,f5,f6,fm]
    have:k=0:=by omega
    subst this
    rintro h' rfl
    simp only[aA,Vd hr,← hi,iter]
    rw[← hlen]
    exact yq fm
 ·rename_i hr
  rintro h' rfl
  simp only[aA,hr]
  exact .emp 1
theorem Io (g:aw) (hg:g.Ok) (t:Bool):cR Tryz.prog 125 [.agg (au g),gb t] (bP (aA g t)):=cR.of (QG g t) (P4 g hg t _)
theorem FM (g:aw) (hg:g.Ok) (H:View):aC Tryz.prog 81 [.agg (au g)] H fun r H'=>r=bP (aA g false)∧H'=H:=by
 refine aC.of mixed rZ ?_
 simp (disch:=omega) only [↓wr,seval,wq,ah,ag,ak,aa,ab,af,ai,ae,mq,au,encS]
 refine aD.pure (Io g hg false).pure (by kernel_rfl) ?_
 simp (disch:=omega) only [↓wr,seval,wq,ah,ag,ak,aa,ab,af,ai,ae,au,encS]
theorem xA (g:aw) (hg:g.Ok):aI Tryz.prog 81 [.agg (au g)] (bP (aA g false)) :=
 aI.of (dZ g) ((FM g hg _).mono fun r H' h h' _=>by rw[h.1]; exact .tree _ (gN _))
theorem Bx (g:aw) (hg:g.Ok) (H:View):aC Tryz.prog 115 [.agg (au g)] H fun r H'=>r=bP (aA g true)∧H'=H:=by
 refine aC.of mixed qJ ?_
 simp (disch:=omega) only [↓wr,seval,wq,ah,ag,ak,aa,ab,af,ai,ae,lf,au,encS]
 refine aD.pure (Io g hg true).pure (by kernel_rfl) ?_
 simp (disch:=omega) only [↓wr,seval,wq,ah,ag,ak,aa,ab,af,ai,ae,au,encS]
theorem tF (g:aw) (hg:g.Ok):aI Tryz.prog 115 [.agg (au g)] (bP (aA g true)) :=
 aI.of (dZ g) ((Bx g hg _).mono fun r H' h h' _=>by rw[h.1]; exact .tree _ (gN _))
def mark (is:List Bool) (s:Int):List Bool:=if s < 0 then is.set (-1 - s).toNat true else is
def ig (p is:List Bool) (r:bw):List Bool:=if (is.getD r.left.toNat false && cQ r.right p true)=true then r.right.foldl mark is else is
def qC (g:aw) (p is:List Bool):List Bool:=g.rules.foldl (ig p) is
def ca (g:aw):List Bool:=if bS g=true then iter (qC g (aA g true)) g.az.length ((cp g).set g.start.toNat true) else []
theorem PA (is:List Bool) (s:Int):(mark is s).length=is.length:=by unfold mark; split <;> simp
theorem D6:∀ (l:List Int) (is:List Bool),(l.foldl mark is).length=is.length
 | [],_=>rfl
 | s :: l,is=>by rw[VF,D6 l,PA]
theorem NH (p is:List Bool) (r:bw):(ig p is r).length=is.length:=by unfold ig; split <;> simp[D6]
theorem Bd {f:List Bool→List Bool} (hf:∀ is,(f is).length=is.length):∀ (n:Nat) (is:List Bool),(iter f n is).length=is.length
 | 0,_=>rfl
 | n+1,is=>by rw[iter,Bd hf n,hf]
theorem AZ {α:Type} {f:List Bool→α→List Bool} (hf:∀ is x,(f is x).length=is.length):∀ (l:List α) (is:List Bool),(l.foldl f is).length=is.length
 | [],_=>rfl
 | x :: l,is=>by rw[VF,AZ hf l,hf]
theorem fk {g:aw} (h:bS g=true) (t:Bool):(aA g t).length=g.az.length:=by
 have hl:∀ is,(kd g t is).length=is.length:=fun is=>AZ (Lx t) _ _
 rw[aA,Vd h,Bd hl]
 simp[cp]
def kC:SC :=
 .seq (.seq (.region false [⟨none,[aj 41 8,aB 42 1 7,ax 43 42,aX 44 43,bc 45 .lss 41 44,aj 46 45]⟩,⟨(some (46,true)),[aj 47 4,aB 48 0 7,ax 49 48,aP 50 1 47 49,ax 51 50]⟩,⟨none,[eF 52 46 51,aj 53 52]⟩,⟨(some (53,true)),[aB 54 1 7,ax 55 54,aj 56 3,oc 57 117 [(.tmp 55),(.tmp 56),(.val (.val (.bool true)))]]⟩,⟨none,[eF 58 53 57]⟩]) <|
 .cond (.tmp 58) (.skip) (.exit 4)) <|
 .seq (.block 5 (.seq (ao [aB 61 1 7,ax 62 61,aj 63 8,aP 64 1 62 63,ax 65 64,aQ 66 .lss 65 0]) <|
 .cond (.tmp 66) (ao [aj 67 4,aB 68 1 7,ax 69 68,aj 70 8,aP 71 1 69 70,ax 72 71,((some 73),.op (.arith .sub (.val (.val (.int .i64 (-1)))) (.tmp 72))),aP 74 1 67 73,(none,.op (.store 1 (.tmp 74) (.val (.val (.bool true)))))]) (.skip))) <|
 ao [aj 59 8,aQ 60 .add 59 1,aj 8 60]
def km:SC :=
 .seq (.seq (ao [aj 29 6,aB 30 2 1,ax 31 30,aX 32 31,bc 33 .lss 29 32]) <|
 .cond (.tmp 33) (.skip) (.exit 2)) <|
 .seq (.block 3 (.seq (ao [aB 36 2 1,ax 37 36,aj 38 6,aP 39 3 37 38,bp 40 3 39,((some 7),.op (.alloc [(.val (.int .i64 0)),(.emp 1),(.val (.int .i64 0))])),(none,.op (.store 3 (.tmp 7) (.tmp 40)))]) <|
 .seq (ao [bj 8 0]) <|
 .block 4 (.loop kC))) <|
 ao [aj 34 6,aQ 35 .add 34 1,aj 6 35]
def kA:SC :=
 .seq (.seq (ao [aj 22 5,aB 23 1 1,ax 24 23,aX 25 24,bc 26 .lss 22 25]) <|
 .cond (.tmp 26) (.skip) (.exit 0)) <|
 .seq (.block 1 (.seq (ao [bj 6 0]) <|
 .block 2 (.loop km))) <|
 ao [aj 27 5,aQ 28 .add 27 1,aj 5 28]
def lR:SF:=⟨.seq (ao [cL 1 0,((some 2),.op (.bL (.val (.emp 1))))]) <|
 .seq (.seq (ao [bp 9 4 1,bC 10 54 [9],dd 11 10]) <|
 .cond (.tmp 11) (.seq (ao [((some 2),.op (.bL (.val (.emp 1))))]) <|
 .ret) (.skip)) <|
 .seq (ao [bp 12 4 1,bC 13 115 [12],aj 3 13]) <|
 .seq (ao [aB 14 1 1,ax 15 14,aX 16 15,((some 17),.op (.make 1 1 [(.val (.bool false))] (.tmp 16) (.tmp 16))),aj 4 17]) <|
 .seq (ao [aj 18 4,aB 19 3 1,ax 20 19,aP 21 1 18 20,(none,.op (.store 1 (.tmp 21) (.val (.val (.bool true)))))]) <|
 .seq (.seq (ao [bj 5 0]) <|
 .block 0 (.loop kA)) <|
 .seq (ao [aj 75 4,aj 2 75]) <|
 .ret,
 [.tmp 2],76⟩
theorem ry:aV Tryz.prog 116 [1]=some lR:=by kernel_rfl
theorem Qf {l:List Bool} {i j:Nat} (h:l.getD j false=true):(l.set i true).getD j false=true:=by
 simp only[U8,WH] at h ⊢
 by_cases e:i=j
 ·subst e
  by_cases hi:i < l.length
  ·simp[hi]
  ·rw[VI (by omega)] at h; simp at h
 ·rw[Va e]; exact h
theorem Pu {H:View} {m n:Nat} {o:cZ} (hm:H m=o) (hn:H n=.dead) (ho:o≠.dead):m≠n:=by rintro rfl; exact ho (hm.symm.trans hn)
set_option maxHeartbeats 4000000 in
theorem DH (g:aw) (hg:g.Ok) (H:View):aC Tryz.prog 116 [.agg (au g)] H fun r H'=>∀ h':aL,h'.view=H'→eu h' r (bP (ca g)):=by
 refine aC.of mixed ry ?_
 simp (disch:=omega) only [↓wr,seval,wq,ah,ag,ak,aa,ab,af,ai,ae,lR,au,encS]
 refine aD.pure (lH g hg) (by kernel_rfl) ?_
 repeat' (first | (refine av.dec (fun _=>?_) (fun _=>?_)) | (refine av.eq (fun _=>?_) (fun _=>?_)) | (refine av.ne (fun _=>?_) (fun _=>?_)) | (refine av.split (fun _=>?_) (fun _=>?_)) | (simp (disch:=omega) only [↓wr,seval,wq,ah,ag,ak,aa,ab,af,ai,ae,au,encS]))
 ·rename_i hr
  have hf:=bO hr
  obtain ⟨hN1,hN2⟩:=And.intro hf.p9 hf.az
  refine aD.pure (tF g hg) (by kernel_rfl) ?_
  have hpl:=fk hr true
  have hreach:ca g=iter (qC g (aA g true)) g.az.length ((cp g).set g.start.toNat true):=by rw[ca,Vd hr]
  generalize aA g true=p at hpl hreach
  have hst:=hf.me
  have hst2:=hf.start
  have hrep:List.replicate g.az.length [V.val (Value.bool false)]=dA (cp g):=zF _ _
  have hnl:(cp g).length=g.az.length:=by simp[cp]
  simp (disch:=omega) only [↓wr,seval,wq,ah,ag,ak,aa,ab,af,ai,ae,au,encS]
  refine ⟨⟨by omega,by unfold aJ; omega,by unfold aJ; omega⟩,fun hz=>by omega,fun _ m hm=>?_⟩
  rw[hrep]
  have hgs:(dA (cp g)).getD g.start.toNat []=[gb ((cp g)[g.start.toNat]'(by omega))]:=kP (by omega)
  simp (disch:=omega) only [↓wr,seval,wq,ah,ag,ak,aa,ab,af,ai,ae,au,encS,kP (show g.start.toNat < (cp g).length by omega),lh,Vg]
  refine ⟨by omega,by omega,?_⟩
  refine aZ.intro (fun k T H'=>∃ (i:Nat) (is:List Bool),i+k=g.az.length∧is.length=g.az.length∧iter (qC g p) k is=ca g∧T 1=.aN (au g) 0∧T 3=bP p∧T 4=.sl m 0 g.az.length 1∧H' m=.arr 1 (dA is)∧T 5=gi i) g.az.length ?_ ?_
  ·refine ⟨0,(cp g).set g.start.toNat true,by omega,by simp[hnl],hreach.symm,?_⟩
   simp (disch:=omega) only [↓wr,↓reduceIte,wq,ah,ag,ak,aa,ab,af,ai,ae,Nat.reduceEqDiff,Nat.reduceAdd,Nat.reduceLT,Nat.reduceLeDiff,Int.reduceNeg,Int.reduceToNat,reduceCtorEq,au,encS]
   rw[hgs]
   exact ⟨by rw[← lh]; rfl,rfl⟩
  ·rintro k T H' ⟨i,is,hk,hlen,hi,f1,f3,f4,fm,f5⟩
   simp (disch:=omega) only [↓wr,seval,wq,ah,ag,ak,aa,ab,af,ai,ae,kA,f1,f3,f4,f5,au,encS]
   refine av.dec (fun hc=>?_) (fun hc=>?_)
   ·simp (disch:=omega) only [↓wr,seval,wq,ah,ag,ak,aa,ab,af,ai,ae,f1,f3,f4,f5,au,encS]
    refine aZ.intro (fun k' T H'=>∃ (j:Nat) (is':List Bool),j+k'=g.rules.length∧is'.length=g.az.length∧(g.rules.drop j).foldl (ig p) is'=qC g p is∧T 1=.aN (au g) 0∧T 3=bP p∧T 4=.sl m 0 g.az.length 1∧H' m=.arr 1 (dA is')∧T 5=gi i∧T 6=gi j) g.rules.length ?_ ?_
    ·refine ⟨0,is,by omega,hlen,rfl,?_⟩
     simp (disch:=omega) only [↓wr,seval,wq,ah,ag,ak,aa,ab,af,ai,ae,f1,f3,f4,f5,fm,au,encS]
     first | done | exact ⟨rfl,rfl⟩ | rfl
    ·rintro k' T' H'' ⟨j,is',hk',hlen',hj,e1,e3,e4,em,e5,e6⟩
     simp (disch:=omega) only [↓wr,seval,wq,ah,ag,ak,aa,ab,af,ai,ae,km,e1,e3,e4,e5,e6,au]
     refine av.dec (fun hd=>?_) (fun hd=>?_)
     ·have hle:=hf.rules
      have hg2:g.rules[j]?=some (g.rules[j]'(by omega)):=U9 (by omega)
      rw[eW (show j < g.rules.length by omega)] at hj
      have hmem:g.rules[j]'(by omega)∈g.rules:=Vi _
      generalize g.rules[j]'(by omega)=r at hg2 hj hmem
      simp only[VF] at hj
      obtain ⟨hl1,hl2⟩:=hf.left r hmem
      obtain ⟨_,_,hs1,hs2⟩:=hg.aF r hmem
      have hr6:=hf.right r hmem
      have hall:=Hm r.right p true hs1 (fun s hs=>⟨hs2 s hs,fun hn=>by have:=hf.neg hmem hs hn; omega⟩)
      simp (disch:=omega) only [↓wr,seval,wq,ah,ag,ak,aa,ab,af,ai,ae,e1,e3,e4,e5,e6,au,encS,aO,encI,Vc,hg2,Vh]
      intro b hb
      have hne:m≠b:=Pu em hb (by simp)
      try simp (disch:=omega) only [↓wr,seval,wq,ah,ag,ak,aa,ab,af,ai,ae,e1,e3,e4,e5,e6,au,encS,aO,encI]
      refine aZ.intro (fun q T H'=>∃ (a:Nat) (is3:List Bool),a+q=r.right.length∧is3.length=g.az.length∧(r.right.drop a).foldl mark is3=r.right.foldl mark is'∧((a=0∧is3=is')∨((is'.getD r.left.toNat false && cQ r.right p true)=true∧is3.getD r.left.toNat false=true)) ∧
       T 1=.aN (au g) 0∧T 3=bP p∧T 4=.sl m 0 g.az.length 1∧H' m=.arr 1 (dA is3)∧T 5=gi i∧T 6=gi j∧T 7=.ptr b 0 0∧H' b=.arr 3 [aO r]∧T 8=gi a) r.right.length ?_ ?_
      ·refine ⟨0,is',by omega,hlen',rfl,.inl ⟨rfl,rfl⟩,?_⟩
       simp (disch:=omega) only [↓wr,↓reduceIte,wq,ah,ag,ak,aa,ab,af,ai,ae,Nat.reduceEqDiff,Nat.reduceAdd,Nat.reduceLT,Nat.reduceLeDiff,Int.reduceNeg,Int.reduceToNat,reduceCtorEq,e1,e3,e4,e5,e6,em,hne,au,encS,aO]
       exact ⟨rfl,rfl⟩
      ·rintro q T3 H3 ⟨a,is3,hq,hlen3,ha,hcase,d1,d3,d4,dm,d5,d6,d7,db,d8⟩
       simp (disch:=omega) only [↓wr,seval,wq,ah,ag,ak,aa,ab,af,ai,ae,kC,d1,d3,d4,d5,d6,d7,d8,db,aO,encI]
       have hgl:is3[r.left.toNat]?=some (is3[r.left.toNat]'(by omega)):=U9 (by omega)
       have hgl2:is3.getD r.left.toNat false=is3[r.left.toNat]'(by omega):=by simp[U8,hgl]
       have hbg:=kP (show r.left.toNat < is3.length by omega)
       have hoff:(is'.getD r.left.toNat false && cQ r.right p true)=false→ig p is' r=is3:=fun hW=>by
        rcases hcase with ⟨_,rfl⟩ | ⟨h1,_⟩
        ·rw[ig,hW]; rfl
        ·rw[hW] at h1; simp at h1
       generalize is3[r.left.toNat]'(by omega)=tl at hgl hgl2 hbg
       refine av.dec (fun ht=>?_) (fun ht=>?_)
       ·have hg3:r.right[a]?=some (r.right[a]'(by omega)):=U9 (by omega)
        rw[eW (show a < r.right.length by omega)] at ha
        have hms:r.right[a]'(by omega)∈r.right:=Vi _
        generalize r.right[a]'(by omega)=s at hg3 ha hms
        simp only[VF] at ha
        have hin:=hs2 s hms
        simp (disch:=omega) only [↓wr,seval,wq,ah,ag,ak,aa,ab,af,ai,ae,d1,d3,d4,d5,d6,d7,d8,db,dm,aO,encI,hbg,Vg]
        refine ⟨by omega,by omega,?_⟩
        refine av.split (fun htl=>?_) (fun htl=>?_)
        ·simp (disch:=omega) only [↓wr,seval,wq,ah,ag,ak,aa,ab,af,ai,ae,d1,d3,d4,d5,d6,d7,d8,db,dm,aO,encI,hbg,Vg]
         refine aD.pure hall (by kernel_rfl) ?_
         simp (disch:=omega) only [↓wr,seval,wq,ah,ag,ak,aa,ab,af,ai,ae,d1,d3,d4,d5,d6,d7,d8,db,dm,aO,encI]
         refine av.split (fun hal=>?_) (fun hal=>?_)
         ·simp (disch:=omega) only [↓wr,seval,wq,ah,ag,ak,aa,ab,af,ai,ae,d1,d3,d4,d5,d6,d7,d8,db,dm,aO,encI,Vc,hg3,Vh]
          have hW:(is'.getD r.left.toNat false && cQ r.right p true)=true∧is3.getD r.left.toNat false=true:=by
           rcases hcase with ⟨_,rfl⟩ | h1
           ·exact ⟨by rw[hgl2,htl,hal]; rfl,by rw[hgl2,htl]⟩
           ·exact h1
          refine av.dec (fun hsn=>?_) (fun hsn=>?_)
          ·have hng:=hf.neg hmem hms hsn
           have hin1:=hin.1
           have hms2:mark is3 s=is3.set (-1 - s).toNat true:=by rw[mark,Vd hsn]
           simp (disch:=omega) only [↓wr,seval,wq,ah,ag,ak,aa,ab,af,ai,ae,d1,d3,d4,d5,d6,d7,d8,db,dm,aO,encI,Vc,hg3,Vh,kP (show (-1 - s).toNat < is3.length by omega),Vg,hne.symm]
           rw[hms2] at ha
           exact ⟨by omega,by omega,q - 1,by omega,a+1,is3.set (-1 - s).toNat true,by omega,by simp[hlen3],ha,.inr ⟨hW.1,Qf hW.2⟩,by rw[lh],by first | rfl | exact ⟨rfl,rfl⟩⟩
          ·have hms2:mark is3 s=is3:=by rw[mark,Va hsn]
           rw[hms2] at ha
           simp (disch:=omega) only [↓wr,seval,wq,ah,ag,ak,aa,ab,af,ai,ae,d1,d3,d4,d5,d6,d7,d8,db,dm]
           exact ⟨q - 1,by omega,a+1,is3,by omega,hlen3,ha,.inr hW,by first | rfl | exact ⟨rfl,rfl⟩ | exact ⟨rfl,rfl,rfl⟩⟩
         ·simp (disch:=omega) only [↓wr,seval,wq,ah,ag,ak,aa,ab,af,ai,ae,d1,d3,d4,d5,d6,d7,d8,db,dm,aO,encI]
          have hst:=hoff (by rw[hal,Bool.and_false])
          exact ⟨k' - 1,by omega,j+1,is3,by omega,hlen3,by rw[← hst]; exact hj,rfl,rfl,rfl⟩
        ·simp (disch:=omega) only [↓wr,seval,wq,ah,ag,ak,aa,ab,af,ai,ae,d1,d3,d4,d5,d6,d7,d8,db,dm,aO,encI,hbg,Vg]
         have hst:ig p is' r=is3:=by
          rcases hcase with ⟨_,rfl⟩ | ⟨_,h1⟩
          ·rw[ig,hgl2,htl]; rfl
          ·rw[hgl2,htl] at h1; simp at h1
         exact ⟨k' - 1,by omega,j+1,is3,by omega,hlen3,by rw[← hst]; exact hj,rfl,rfl,rfl⟩
       ·simp (disch:=omega) only [↓wr,seval,wq,ah,ag,ak,aa,ab,af,ai,ae,d1,d3,d4,d5,d6,d7,d8,db,dm,aO,encI]
        rw[VD (by omega),Wk] at ha
        have hst:ig p is' r=is3:=by
         rcases hcase with ⟨h0,rfl⟩ | ⟨h1,_⟩
         ·unfold ig
          split
          ·exact ha.symm
          ·rfl
         ·rw[ig,Vd h1]; exact ha.symm
        exact ⟨k' - 1,by omega,j+1,is3,by omega,hlen3,by rw[← hst]; exact hj,rfl,rfl,rfl⟩
     ·rw[VD (by omega),Wk] at hj
      simp (disch:=omega) only [↓wr,seval,wq,ah,ag,ak,aa,ab,af,ai,ae,e1,e3,e4,e5,e6]
      obtain ⟨q,rfl⟩:∃ q,k=q+1:=⟨k - 1,by omega⟩
      exact ⟨q,by omega,i+1,is',by omega,hlen',by rw[hj]; exact hi,rfl,em,rfl⟩
   ·simp (disch:=omega) only [↓wr,seval,wq,ah,ag,ak,aa,ab,af,ai,ae,f1,f3,f4,f5,fm]
    have:k=0:=by omega
    subst this
    rintro h' rfl
    simp only[← hi,iter]
    rw[← hlen]
    exact yq fm
 ·rename_i hr
  rintro h' rfl
  simp only[ca,hr]
  exact .emp 1
theorem Dk (g:aw) (hg:g.Ok):cR Tryz.prog 116 [.agg (au g)] (bP (ca g)):=cR.of (dZ g) (DH g hg _)
noncomputable def yZ:List (FuncId × DF):=BT Tryz.prog [(148,[]),(147,[]),(233,[]),(234,[])]
theorem uj:tN Tryz.prog yZ:=Bl _ _
theorem QZ (P:Program):sN P (fun _ _ _=>none):=fun _ _ _ _ h=>by simp at h
def S7 (o:Option V) (b:Bool):Bool:=match o with
 | some (.val (.bool c))=>c == b
 | _=>false
theorem Sw {o:Option V} {b:Bool} (h:S7 o b=true):o=some (gb b):=by
 unfold S7 at h
 split at h
 ·rw[Wd] at h; rw[h]
 ·simp at h
noncomputable def yo (tab:List (FuncId × DF)) (f:FuncId) (p:Int→Bool):Bool:=(List.range 256).all fun c=>S7 (zW Tryz.prog tab (fun _ _ _=>none) f [gy (c:Int)]) (p (c:Int))
theorem xc {tab:List (FuncId × DF)} (ht:tN Tryz.prog tab) {f:FuncId} {p:Int→Bool} (h:yo tab f p=true) (c:Int) (h0:0≤c) (h1:c≤255):aI Tryz.prog f [gy c] (gb (p c)):=by
 have:=VK.1 h c.toNat (by simp; omega)
 rw[show ((c.toNat:Nat):Int)=c by omega] at this
 exact (xw mixed ht (QZ _) (by intro v hv; simp at hv; subst hv; exact .val _) (Sw this)).pure
def zd (c:Int):Bool:=decide (32≤c) && decide (c≤126) && c != 39 && c != 92
def Du (c:Int):Bool:=c == 110 || c == 116 || c == 92 || c == 39
theorem KQ:yo yZ 147 vZ=true:=by kernel_rfl
theorem ON:yo yZ 148 nN=true:=by kernel_rfl
theorem Om:yo yZ 233 zd=true:=by kernel_rfl
theorem RT:yo yZ 234 Du=true:=by kernel_rfl
theorem Fx {s:ByteArray} {c:Int} (h:c∈fJ s):0≤c∧c≤255:=by
 unfold fJ at h
 obtain ⟨b,_,rfl⟩:=Vw.1 h
 have:=b.toNat_lt
 omega
theorem Oh (s:ByteArray):gK s=(fJ s).map fun x=>[gy x]:=by simp[gK,fJ]
noncomputable def JH:List (FuncId × DF):=BT Tryz.prog [(49,[]),(94,[]),(134,[]),(177,[]),(212,[]),(213,[]),(214,[]),(215,[]),(232,[]),(178,[]),(216,[]),(179,[]),(194,[]),(193,[]),(192,[]),(217,[]),(218,[]),(219,[]),(135,[]),(183,[]),(182,[]),(220,[]),(221,[]),(181,[]),(184,[]),(180,[]),(95,[1]),(138,[3]),(151,[]),(154,[]),(140,[4]),(186,[4]),(139,[2]),(152,[2]),(223,[3]),(136,[]),(185,[5]),(222,[]),(137,[])]
theorem KZ:tN Tryz.prog JH:=Bl _ _
def Bw (l:List Int):V:=.aK (l.map fun x=>[gy x])
theorem Nr (l:List Int):Tree (Bw l):=fa _ _ fun x _ v hv=>by simp at hv; subst hv; exact .val _
def r6 (g:aw):V:=.bI [.agg (au g),.val (.complex .f64 0 0),gi 0]
theorem KA {l:List Int} {g:aw} (h:zW Tryz.prog JH (fun _ _ _=>none) 49 [Bw l]=some (r6 g)):cR Tryz.prog 49 [Bw l] (r6 g) :=
 xw mixed KZ (QZ _) (by intro v hv; simp at hv; subst hv; exact Nr _) h
abbrev bU (κ:Type):=List (κ × V × Nat)
def cx {κ:Type} (key:κ→Value) (m:bU κ):List (V × V × Nat):=m.map fun x=>(.val (key x.1),x.2.1,x.2.2)
def getM {κ:Type} [BEq κ] (m:bU κ) (k:κ):Option V:=(m.find? fun x=>k == x.1).map (·.2.1)
def bN {κ:Type} [BEq κ] (k:κ) (v:V) (c:Nat):bU κ→bU κ
 | []=>[(k,v,c)]
 | x :: r=>if k == x.1 then (k,v,x.2.2) :: r else x :: bN k v c r
structure AT {κ:Type} [BEq κ] (P:Program) (kt:TypeId) (key:κ→Value):Prop where
 ty:∃ d,P.underlying kt=some d∧(∀ a b,Instr.sameNow d (key a) (key b)=some (a == b))∧(∀ a e,bM P (Instr.checkKey e 10000 kt (key a))=some ())
 bits:∀ a b,(a == b)=true→Instr.sameBits 10000 (key b) (key a)=true
theorem vh {κ:Type} (key:κ→Value):∀ m:bU κ,im (cx key m)=some (m.map fun x=>{ key:=key x.1,val:=.nilFunc,born:=x.2.2 })
 | []=>rfl
 | x :: r=>by
  have:=vh key r
  simp only[cx] at this
  simp[cx,im,dr,this]
def gU {κ:Type} [BEq κ] (k:κ):bU κ→Option Nat
 | []=>none
 | x :: r=>if k == x.1 then some 0 else (gU k r).map (·+1)
theorem Ag {κ:Type} [BEq κ] {key:κ→Value} {d:TypeDesc} (h:∀ a b,Instr.sameNow d (key a) (key b)=some (a == b)) (k:κ):∀ (m:bU κ) (i:Nat),
  Instr.findNow d (key k) (m.map fun x=>{ key:=key x.1,val:=.nilFunc,born:=x.2.2 }) i=some ((gU k m).map fun j=>(i+j,.nilFunc))
 | [],i=>rfl
 | x :: r,i=>by
  simp only[VC,Instr.findNow,h,gU]
  cases hk:k == x.1 with
  | true=>simp
  | false =>
   simp only[Ag h k r (i+1),VA,if_false,Option.map_map]
   congr 2
   funext j
   simp only[Function.comp]
   congr 1
   omega
theorem yh {κ:Type} [BEq κ] {P:Program} {kt:TypeId} {key:κ→Value} (h:AT P kt key) (k:κ) (e:Bool) (m:bU κ):mE P kt (.val (key k)) e (cx key m)=some (gU k m):=by
 obtain ⟨d,hd,hn,hc⟩:=h.ty
 have hu:bM P (underlying kt)=some d:=eh hd
 simp only[mE,dr,vh,bD,hc,VP]
 have:bM P (Instr.findKey kt (key k) (m.map fun x=>{ key:=key x.1,val:=.nilFunc,born:=x.2.2 }))=some ((gU k m).map fun j=>(0+j,.nilFunc)):=by
  unfold Instr.findKey
  rw[bD,hu,VP,Ag hn]
  rfl
 rw[this]
 cases gU k m with
 | none=>rfl
 | some j=>simp
theorem wh {P:Program} {kt:TypeId} {d:TypeDesc} (h:P.underlying kt=some d) (hd:match d with | .int _ | .string | .bool=>True | _=>False) (e:Bool) (n:Nat) (v:Value):bM P (Instr.checkKey e (n+1) kt v)=some ():=by
 unfold Instr.checkKey
 rw[bD,eh h,VP]
 cases d <;> first | exact hd.elim | rfl
theorem kY {P:Program} {kt:TypeId} (k:IntKind) (h:P.underlying kt=some (.int k)):AT P kt (Value.int k) where
 ty:=⟨_,h,fun a b=>by simp[Instr.sameNow],fun a e=>wh h trivial e 9999 _⟩
 bits:=fun a b hab=>by
  have:a=b:=by simpa using hab
  subst this
  simp[Instr.sameBits]
theorem xj {κ:Type} [BEq κ] {key:κ→Value} (k:κ):∀ m:bU κ,match gU k m with
  | some i=>∃ x,m[i]?=some x∧(k == x.1)=true∧getM m k=some x.2.1∧(cx key m)[i]?=some (.val (key x.1),x.2.1,x.2.2)∧∀ v c,(cx key m).set i (.val (key k),v,x.2.2)=cx key (bN k v c m)∧(bN k v c m).length=m.length
  | none=>getM m k=none∧∀ v c,cx key m ++ [(.val (key k),v,c)]=cx key (bN k v c m)∧(bN k v c m).length=m.length+1
 | []=>⟨rfl,fun v c=>⟨rfl,rfl⟩⟩
 | x :: r=>by
  have ih:=xj (key:=key) k r
  simp only[gU]
  cases hk:k == x.1 with
  | true=>exact ⟨x,rfl,hk,by simp[getM,hk],rfl,fun v c=>by simp[bN,hk,cx]⟩
  | false =>
   simp only[VA,if_false]
   cases hi:gU k r with
   | some i =>
    rw[hi] at ih
    obtain ⟨y,h1,h2,h3,h4,h5⟩:=ih
    refine ⟨y,by simpa using h1,h2,by simpa [getM,hk] using h3,by simpa [cx] using h4,fun v c=>?_⟩
    obtain ⟨g1,g2⟩:=h5 v c
    exact ⟨by simp only[cx] at g1 ⊢; simp[bN,hk,g1],by simp[bN,hk,g2]⟩
   | none =>
    rw[hi] at ih
    refine ⟨by simpa [getM,hk] using ih.1,fun v c=>?_⟩
    obtain ⟨g1,g2⟩:=ih.2 v c
    exact ⟨by simp only[cx] at g1 ⊢; simp[bN,hk,g1],by simp[bN,hk,g2]⟩
section
variable {P:Program} {T:Env} {H:View} {κ:Type} [BEq κ] {key:κ→Value} {kt et t ty:TypeId}
theorem z7 {K:V→View→Prop} {w:cD (T,H,K)} {x i:Operand} {z:V} {id c:Nat} {m:bU κ} {k:κ} (hm:dB P t=some (kt,et)) (hz:zeroV P et=some z) (hk:AT P kt key)
  (hx:ev T x=.mp id) (hi:ev T i=.val (key k)) (hH:H id=.map (cx key m) c) (h:K ((getM m k).getD z) H):kz P (.lookup t x i false) ty T H K w:=by
 intro n _
 have hf:=yh hk k (cx key m).isEmpty m
 have hg:=xj (key:=key) k m
 refine ⟨(getM m k).getD z,.none,[id],?_,h⟩
 simp only[sI,cq,oper,fP,hm,hz,hx,hi,hH,hf]
 cases hj:gU k m with
 | some j =>
  rw[hj] at hg
  obtain ⟨y,h1,h2,h3,h4,_⟩:=hg
  simp[h4,h3]
 | none =>
  rw[hj] at hg
  simp[hg.1]
theorem Q1 {K:V→View→Prop} {w:cD (T,H,K)} {x i:Operand} {z:V} {id c:Nat} {m:bU κ} {k:κ} (hm:dB P t=some (kt,et)) (hz:zeroV P et=some z) (hk:AT P kt key)
  (hx:ev T x=.mp id) (hi:ev T i=.val (key k)) (hH:H id=.map (cx key m) c) (h:K (.bI [(getM m k).getD z,.val (.bool (getM m k).isSome)]) H):kz P (.lookup t x i true) ty T H K w:=by
 intro n _
 have hf:=yh hk k (cx key m).isEmpty m
 have hg:=xj (key:=key) k m
 refine ⟨_,.none,[id],?_,h⟩
 simp only[sI,cq,oper,fP,hm,hz,hx,hi,hH,hf]
 cases hj:gU k m with
 | some j =>
  rw[hj] at hg
  obtain ⟨y,h1,h2,h3,h4,_⟩:=hg
  simp[h4,h3]
 | none =>
  rw[hj] at hg
  simp[hg.1]
theorem P6 (hk:AT P kt key) (k k':κ) (h:(k == k')=true):sameKey (.val (key k')) (.val (key k))=true:=by
 simp only[sameKey,dr]; exact hk.bits _ _ h
theorem uY {K:V→View→Prop} {w:cD (T,H,K)} {x i y:Operand} {id c:Nat} {m:bU κ} {k:κ} {v:V} (hm:dB P t=some (kt,et)) (hk:AT P kt key)
  (hx:ev T x=.mp id) (hi:ev T i=.val (key k)) (hy:ev T y=v) (hH:H id=.map (cx key m) c)
  (h:∀ c',K .any (H.set id (.map (cx key (bN k v c m)) c'))):kz P (.mapUpdate t x i y) ty T H K w:=by
 intro n _
 have hf:=yh hk k false m
 have hg:=xj (key:=key) k m
 cases hj:gU k m with
 | some j =>
  rw[hj] at hg hf
  obtain ⟨z,h1,h2,h3,h4,h5⟩:=hg
  refine ⟨.any,.fj id (.map ((cx key m).set j (.val (key k),v,z.2.2)) c),[id],?_,?_⟩
  ·simp only[sI,cq,oper,fo,hm,hx,hi,hy,hH,hf,h4,P6 hk k z.1 h2,if_true]
  ·rw[(h5 v c).1]; exact h c
 | none =>
  rw[hj] at hg hf
  refine ⟨.any,.fj id (.map (cx key m ++ [(.val (key k),v,c)]) (c+1)),[id],?_,?_⟩
  ·simp only[sI,cq,oper,fo,hm,hx,hi,hy,hH,hf]
  ·rw[(hg.2 v c).1]; exact h (c+1)
theorem SZ {P:Program} {T:Env} {H:View} {t ty:TypeId} {x i y:Operand} {K:V→View→Prop} {w:cD (T,H,K)} : kz P (.insert t x i y) ty T H K w=kz P (.mapUpdate t x i y) ty T H K w:=propext Iff.rfl
omit [BEq κ] in
theorem Sm {K:V→View→Prop} {w:cD (T,H,K)} {x:Operand} {id c:Nat} {m:bU κ} (hm:dB P t=some (kt,et)) (hx:ev T x=.mp id) (hH:H id=.map (cx key m) c) (h:K (ak m.length) H) :
  kz P (.call { callee:=.builtin .len,args:=#[x],argTypes:=#[t] }) ty T H K w:=by
 intro n _
 have hu:∃ a b,P.underlying t=some (.map a b):=by
  unfold dB at hm
  split at hm
  ·rename_i a b h1; exact ⟨a,b,h1⟩
  ·simp at hm
 obtain ⟨a,b,hu⟩:=hu
 refine ⟨ak m.length,.none,[id],?_,h⟩
 have hl:(cx key m).length=m.length:=by simp[cx]
 simp only[sI,cq,oper,WI,Vr,VJ,uB,hu,hx,hH,hl]
 simp[hu,hx,hH,hl,uB]
end
theorem pB {κ:Type} [BEq κ] [LawfulBEq κ] (k k':κ) (v:V) (c:Nat):∀ m:bU κ,getM (bN k v c m) k'=if k' == k then some v else getM m k'
 | []=>by
  by_cases h:k'=k
  ·subst h; simp[bN,getM]
  ·simp[bN,getM,h]
 | x :: r=>by
  have ih:=pB k k' v c r
  simp only[bN]
  by_cases hk:k=x.1
  ·by_cases h:k'=k
   ·subst h; simp[hk,getM]
   ·have:¬ k'=x.1:=fun e=>h (e.trans hk.symm)
    simp[hk,getM,this]
  ·simp only[Wd,hk,if_false]
   by_cases h:k'=x.1
   ·have:¬ k'=k:=fun e=>hk (e.symm.trans h)
    simp[getM,h]
    subst h
    simp[this]
   ·simp only[getM,WV,beq_eq_false_iff_ne.2 h] at ih ⊢
    exact ih
def eA {κ β:Type} [BEq κ] (a:List (κ × β)) (k:κ):Option β:=(a.find? fun x=>k == x.1).map (·.2)
def kg {κ β:Type} [BEq κ] (k:κ) (v:β):List (κ × β)→List (κ × β)
 | []=>[(k,v)]
 | x :: r=>if k == x.1 then (k,v) :: r else x :: kg k v r
def oC {κ β:Type} (encV:β→V):List (κ × β)→bU κ→Prop
 | [],[]=>True
 | x :: a,y :: m=>y.1=x.1∧y.2.1=encV x.2∧oC encV a m
 | _,_=>False
theorem oC.get {κ β:Type} [BEq κ] {encV:β→V} (k:κ):∀ {a:List (κ × β)} {m:bU κ},oC encV a m→getM m k=(eA a k).map encV
 | [],[],_=>rfl
 | x :: a,y :: m,⟨h1,h2,h3⟩=>by
  have ih:=oC.get k h3
  simp only[getM,eA,WV,h1] at ih ⊢
  cases k == x.1 with
  | true=>simp[h2]
  | false=>simpa using ih
theorem oC.put {κ β:Type} [BEq κ] {encV:β→V} (k:κ) (v:β) (c:Nat):∀ {a:List (κ × β)} {m:bU κ},oC encV a m→oC encV (kg k v a) (bN k (encV v) c m)
 | [],[],_=>⟨rfl,rfl,trivial⟩
 | x :: a,y :: m,⟨h1,h2,h3⟩=>by
  have ih:=oC.put k v c h3
  simp only[kg,bN,h1]
  cases k == x.1 with
  | true=>exact ⟨rfl,rfl,h3⟩
  | false=>exact ⟨h1,h2,ih⟩
theorem oC.len {κ β:Type} {encV:β→V} : ∀ {a:List (κ × β)} {m:bU κ},oC encV a m→m.length=a.length
 | [],[],_=>rfl
 | x :: a,y :: m,⟨_,_,h3⟩=>by simp[oC.len h3]
theorem Hx {κ β:Type} [BEq κ] [LawfulBEq κ] (k k':κ) (v:β):∀ a:List (κ × β),eA (kg k v a) k'=if k' == k then some v else eA a k'
 | []=>by
  by_cases h:k'=k
  ·subst h; simp[kg,eA]
  ·simp[kg,eA,h]
 | x :: r=>by
  have ih:=Hx k k' v r
  simp only[kg]
  by_cases hk:k=x.1
  ·by_cases h:k'=k
   ·subst h; simp[hk,eA]
   ·have:¬ k'=x.1:=fun e=>h (e.trans hk.symm)
    simp[hk,eA,this]
  ·simp only[Wd,hk,if_false]
   by_cases h:k'=x.1
   ·have:¬ k'=k:=fun e=>hk (e.symm.trans h)
    simp[eA,h]
    subst h
    simp[this]
   ·simp only[eA,WV,beq_eq_false_iff_ne.2 h] at ih ⊢
    exact ih
def Cn (n k:Nat) (J:Nat→Env→View→Prop) (T:Env) (H:View):Prop:=∃ i,i+k=n∧J i T H
theorem aZ.up {P:Program} {T:Env} {H:View} {c:SC} {Q:Exit→Env→View→Prop} {v:cD (T,H,Q)} (n:Nat) (J:Nat→Env→View→Prop) (h0:J 0 T H)
  (hs:∀ i k T H,i+k=n→J i T H→wS P c T H fun e T' H'=>Au e (∃ k',k' < k∧Cn n k' J T' H') (Q e T' H')):aZ P c T H Q v :=
 aZ.intro (fun k T H=>Cn n k J T H) n ⟨0,by omega,h0⟩ fun k T H ⟨i,hk,hj⟩=>hs i k T H hk hj
theorem aM {n i k:Nat} {J:Nat→Env→View→Prop} {T:Env} {H:View} (hk:i+k=n) (hlt:i < n) (hJ:J (i+1) T H):∃ k',k' < k∧Cn n k' J T H:=⟨k - 1,by omega,i+1,by omega,hJ⟩
def owner:V→Option Nat
 | .sl id _ _ _=>some id
 | _=>none
def ba (H:View) (u:V) (sz:Nat) (es:List (List V)):Prop :=
 (es=[]∧∃ k,u=.emp k)∨(∃ n,u=.sl n 0 es.length sz∧H n=.arr sz es)
theorem ba.nil {H:View} {sz k:Nat} : ba H (.emp k) sz []:=.inl ⟨rfl,k,rfl⟩
theorem ba.len {H:View} {u:V} {sz:Nat} {es:List (List V)} (h:ba H u sz es):cH u=some es.length:=by
 rcases h with ⟨rfl,k,rfl⟩ | ⟨n,rfl,_⟩ <;> rfl
theorem ba.live {H:View} {u:V} {sz:Nat} {es:List (List V)} (h:ba H u sz es) {id:Nat} (hid:owner u=some id):H id=.arr sz es∧u=.sl id 0 es.length sz:=by
 rcases h with ⟨rfl,k,rfl⟩ | ⟨n,rfl,hn⟩
 ·simp[owner] at hid
 ·simp[owner] at hid; subst hid; exact ⟨hn,rfl⟩
theorem ba.keep {H H':View} {u:V} {sz:Nat} {es:List (List V)} (h:ba H u sz es) (hk:∀ id,owner u=some id→H' id=H id):ba H' u sz es:=by
 rcases h with ⟨rfl,k,rfl⟩ | ⟨n,rfl,hn⟩
 ·exact .inl ⟨rfl,k,rfl⟩
 ·exact .inr ⟨n,rfl,by rw[hk n rfl]; exact hn⟩
theorem ba.fresh {H:View} {u:V} {sz m:Nat} {es:List (List V)} {o:cZ} (h:ba H u sz es) (hm:H m=.dead):ba (H.set m o) u sz es :=
 h.keep fun id hid=>by
  have:=(h.live hid).1
  have e:id≠m:=by rintro rfl; rw[hm] at this; simp at this
  simp[View.set,e]
theorem ba.ne {H:View} {u:V} {sz m:Nat} {es:List (List V)} (h:ba H u sz es) (hm:H m=.dead):owner u≠some m:=fun e=>by
 have:=(h.live e).1; rw[hm] at this; simp at this
theorem ba.other {H:View} {u:V} {sz m:Nat} {es:List (List V)} {o:cZ} (h:ba H u sz es) (hm:owner u≠some m):ba (H.set m o) u sz es :=
 h.keep fun id hid=>by
  have e:id≠m:=by rintro rfl; exact hm hid
  simp[View.set,e]
theorem ba.new {H:View} {n sz:Nat} {es:List (List V)} : ba (H.set n (.arr sz es)) (.sl n 0 es.length sz) sz es:=.inr ⟨n,rfl,by simp[View.set]⟩
theorem bV {H:View} {m z sz:Nat} {e:List V} : bZ (View.set H m (.arr z [e])) (.sl m 0 1 sz)=some ([e],[m]):=by
 simp[bZ,View.set]
def Left (H H':View) (u u':V):Prop:=∀ id,H id≠.dead→owner u≠some id→H' id=H id∧owner u'≠some id
theorem yf {sz bytes:Nat} {u:V} {es xs:List (List V)} {H:View} {K:V→View→Prop} {w:cD (H,K)} (ho:ba H u sz es) (hx:xs≠[]) (hok:(xs.all fun e=>e.length == sz && e.all aU)=true)
  (hl:(es.length+xs.length) * bytes < aJ) (hl2:es.length+xs.length < aJ) (hk:∀ u' H',ba H' u' sz (es ++ xs)→Left H H' u u'→K u' H'):mB sz bytes u xs H K w:=by
 have he:xs.isEmpty=false:=by cases xs with | nil=>exact absurd rfl hx | cons=>rfl
 rcases ho with ⟨rfl,k,rfl⟩ | ⟨n,rfl,hn⟩
 ·rw[y8 _ _ _ _ _ _ _ he]
  refine ⟨hok,⟨by simpa using hl,by simpa using hl2⟩,fun m hm=>hk _ _ ?_ ?_⟩
  ·exact .inr ⟨m,rfl,by simp[View.set]⟩
  ·intro id hid _
   have e:id≠m:=by rintro rfl; exact hid hm
   exact ⟨by simp[View.set,e],by simp[owner,Ne.symm e]⟩
 ·rw[wC _ _ _ _ _ _ _ _ _ _ he,hn]
  refine ⟨hok,⟨by simp,rfl,hl,hl2⟩,fun m hm=>hk _ _ ?_ ?_⟩
  ·refine .inr ⟨m,by simp,by simp[View.set]⟩
  ·intro id hid ho
   have e:id≠m:=by rintro rfl; exact hid hm
   have e2:id≠n:=by rintro rfl; exact ho rfl
   exact ⟨by simp[View.set,e,e2],by simp[owner,Ne.symm e]⟩
theorem Left.refl {H:View} {u:V} : Left H H u u:=fun _ _ h=>⟨rfl,h⟩
theorem gS {sz bytes:Nat} {u:V} {es xs:List (List V)} {H:View} {K:V→View→Prop} {w:cD (H,K)} (ho:ba H u sz es) (hok:(xs.all fun e=>e.length == sz && e.all aU)=true)
  (hl:(es.length+xs.length) * bytes < aJ) (hl2:es.length+xs.length < aJ) (hk:∀ u' H',ba H' u' sz (es ++ xs)→Left H H' u u'→K u' H'):mB sz bytes u xs H K w:=by
 cases xs with
 | nil =>
  have:=hk u H (by simpa using ho) .refl
  rcases ho with ⟨rfl,k,rfl⟩ | ⟨n,rfl,hn⟩
  ·exact this
  ·exact this
 | cons x xs=>exact yf ho (by simp) hok hl hl2 hk
theorem dT.own {H:View} {u:V} {sz:Nat} {es:List (List V)} (h:ba H u sz es) (ht:∀ e∈es,∀ v∈e,Tree v):dT H u (.aK es):=by
 rcases h with ⟨rfl,k,rfl⟩ | ⟨n,rfl,hn⟩
 ·exact fun h _=>.emp k
 ·have:=dT.sl (off:=0) (len:=es.length) (esz:=sz) hn (by simp) ht
  rwa [Ww,Vq (by simp)] at this
theorem eu.own {h:aL} {u:V} {sz:Nat} {es:List (List V)} {es':List (List V)} (ho:ba h.view u sz es) (hl:es'.length=es.length) (hi:∀ i,i < es.length→(es'.getD i []).length=(es.getD i []).length)
  (hv:∀ i j,i < es.length→j < (es'.getD i []).length→eu h ((es.getD i []).getD j .any) ((es'.getD i []).getD j .any)):eu h u (.aK es'):=by
 rcases ho with ⟨rfl,k,rfl⟩ | ⟨n,rfl,hn⟩
 ·have:es'=[]:=Ws.1 (by simpa using hl)
  subst this
  exact .emp k
 ·exact .sl n 0 es.length sz sz es es' hn (by simp) hl (fun i h=>by rw[Wa]; exact hi i h) (fun i j h1 h2=>by rw[Wa]; exact hv i j h1 h2)
theorem eu.P7 {h:aL} {α:Type} {u:V} {sz:Nat} {l:List α} {f:α→Value} (ho:ba h.view u sz (l.map fun x=>[V.val (f x)])):eu h u (.aK (l.map fun x=>[V.val (f x)])):=by
 refine eu.own ho rfl (fun i _=>rfl) (fun i j hi hj=>?_)
 simp only[Vg] at hi
 have e:(l.map fun x=>[V.val (f x)]).getD i []=[V.val (f l[i])]:=by simp[U8,hi]
 rw[e] at hj ⊢
 have:j=0:=by simp at hj; omega
 subst this
 exact .val _
def dh (H H':View) (r:V):Prop:=∀ id,H id≠.dead→H' id=H id∧owner r≠some id
theorem dh.emp {H:View} {k:Nat} : dh H H (.emp k):=fun _ _=>⟨rfl,by simp[owner]⟩
theorem dh.new {H:View} {n a b c:Nat} {o:cZ} (hn:H n=.dead):dh H (H.set n o) (.sl n a b c):=fun id hid=>by
 have e:id≠n:=by rintro rfl; exact hid hn
 exact ⟨by simp[View.set,e],by simp[owner,Ne.symm e]⟩
theorem ba.left {H H':View} {u u' x:V} {sz:Nat} {es:List (List V)} (h:ba H x sz es) (hl:Left H H' u u') (hd:∀ id,owner x=some id→owner u≠some id):ba H' x sz es :=
 h.keep fun id hid=>(hl id (by rw[(h.live hid).1]; simp) (hd id hid)).1
theorem ba.SQ {H H':View} {x r:V} {sz:Nat} {es:List (List V)} (h:ba H x sz es) (hl:dh H H' r):ba H' x sz es :=
 h.keep fun id hid=>(hl id (by rw[(h.live hid).1]; simp)).1
theorem set_set {H:View} {n:Nat} {a b:cZ} : View.set (View.set H n a) n b=View.set H n b:=by
 funext id; simp only[View.set]; split <;> rfl
theorem de {m b:Nat} {o x:cZ} (h:(if m=b then o else x)=.dead) (ho:o≠.dead):m≠b∧x=.dead:=by
 split at h
 ·exact absurd h ho
 ·rename_i e; exact ⟨e,h⟩
theorem c7 {z:Nat} {es:List (List V)} : cZ.arr z es≠.dead:=by simp
def nY (H:View):List V→List V→Prop
 | [],[]=>True
 | v :: vs,t :: ts=>dT H v t∧nY H vs ts
 | _,_=>False
theorem nY.len {H:View} : ∀ {vs ts:List V},nY H vs ts→ts.length=vs.length
 | [],[],_=>rfl
 | _ :: _,_ :: _,h=>by simp[nY.len h.2]
theorem nY.get {H:View} : ∀ {vs ts:List V},nY H vs ts→∀ i,i < vs.length→dT H (vs.getD i .any) (ts.getD i .any)
 | [],[],_,i,hi=>by simp at hi
 | _ :: _,_ :: _,h,0,_=>h.1
 | _ :: _,_ :: _,h,i+1,hi=>nY.get h.2 i (by simpa using hi)
theorem aD.wM {P:Program} {q:Bool} {f:FuncId} {H:View} {vs ts:List V} {K:V→View→Prop} {v:cD (H,K)} {t:V} (hc:aI P f ts t) (hok:dJ P f=true) (hf:Bo t) (hl:nY H vs ts) (hk:K t H):aD P q f vs H K v :=
 aD.borrow hc hok hf hl.len hl.get hk
theorem aD.TC {P:Program} {q:Bool} {f:FuncId} {H:View} {vs ts:List V} {K:V→View→Prop} {v:cD (H,K)} {t:V} (hc:cR P f ts t) (hok:dJ P f=true) (hl:nY H vs ts) (hk:K t H):aD P q f vs H K v :=
 aD.vx hc hok hl.len hl.get hk
theorem dT.box {H:View} {q z:Nat} {e:List V} (hq:H q=.arr z [e]) (ht:∀ v∈e,Tree v):dT H (.ptr q 0 0) (.aN e 0):=by
 rintro h rfl
 refine .ptr q 0 0 z [e] e hq (by simp) (by simp) (fun k hk=>?_)
 simp only[Wh]
 have e2:e.getD k .any=e[k]:=by simp[U8,hk]
 rw[e2]
 exact .tree _ (ht _ (Vi _))
theorem ba.sl {H:View} {u:V} {sz:Nat} {es:List (List V)} (h:ba H u sz es) (hne:0 < es.length):∃ n,u=.sl n 0 es.length sz∧H n=.arr sz es:=by
 rcases h with ⟨rfl,_⟩ | h
 ·simp at hne
 ·exact h
abbrev cz:=V × Nat × List (List V)
def bt (H:View) (L:List cz):Prop:=(∀ x∈L,ba H x.1 x.2.1 x.2.2)∧(L.filterMap fun x=>owner x.1).Nodup
theorem bt.nil {H:View} : bt H []:=⟨fun x hx=>by simp at hx,by simp⟩
theorem bt.head {H:View} {x:cz} {L:List cz} (h:bt H (x :: L)):ba H x.1 x.2.1 x.2.2:=h.1 x (by simp)
theorem bt.tail {H:View} {x:cz} {L:List cz} (h:bt H (x :: L)):bt H L:=by
 refine ⟨fun y hy=>h.1 y (by simp[hy]),?_⟩
 have:=h.2
 simp only[Wy] at this
 split at this
 ·exact this
 ·exact (V3.1 this).2
theorem bt.perm {H:View} {L L':List cz} (h:bt H L) (p:L.Perm L'):bt H L' :=
 ⟨fun x hx=>h.1 x (p.mem_iff.2 hx),(p.filterMap _).nodup_iff.1 h.2⟩
theorem r8 {α:Type} : ∀ (L:List α) (k:Nat) (hk:k < L.length),L.Perm (L[k] :: L.eraseIdx k)
 | x :: L,0,_=>.refl _
 | x :: L,k+1,hk=>by
  have:=r8 L k (by simpa using hk)
  exact (this.cons x).trans (.swap _ _ _)
theorem bt.at {H:View} {L:List cz} (h:bt H L) (k:Nat) (hk:k < L.length):bt H (L[k] :: L.eraseIdx k) :=
 h.perm (r8 L k hk)
theorem bt.obj {H:View} {n k sz:Nat} {es:List (List V)} {L:List cz} (h:bt H ((.sl n 0 k sz,sz,es) :: L)) (hes:es≠[]):H n=.arr sz es∧k=es.length:=by
 rcases h.head with ⟨e,_⟩ | ⟨m,e,hm⟩
 ·exact absurd e hes
 ·simp only[V.sl.injEq] at e
  obtain ⟨rfl,_,rfl,_⟩:=e
  exact ⟨hm,rfl⟩
theorem bt.off {H:View} {x:cz} {L:List cz} (h:bt H (x :: L)) {id:Nat} (hid:owner x.1=some id):∀ y∈L,owner y.1≠some id:=by
 intro y hy e
 have:=h.2
 simp only[Wy,hid,V3,Wm,not_exists,not_and] at this
 exact this.1 y hy e
theorem bt.live {H:View} {x:cz} {L:List cz} (h:bt H L) (hx:x∈L) {id:Nat} (hid:owner x.1=some id):H id≠.dead:=by
 rw[((h.1 x hx).live hid).1]; simp
theorem bt.keep {H H':View} {L:List cz} (h:bt H L) (hk:∀ x∈L,∀ id,owner x.1=some id→H' id=H id):bt H' L :=
 ⟨fun x hx=>(h.1 x hx).keep (hk x hx),h.2⟩
theorem bt.new {H:View} {L:List cz} (h:bt H L) {n:Nat} (hn:H n=.dead) (sz:Nat) (es:List (List V)):bt (H.set n (.arr sz es)) ((.sl n 0 es.length sz,sz,es) :: L):=by
 refine ⟨fun x hx=>?_,?_⟩
 ·rcases Vp.1 hx with rfl | hx
  ·exact .new
  ·exact (h.1 x hx).fresh hn
 ·simp only[Wy,owner,V3,Wm,not_exists,not_and]
  exact ⟨fun x hx e=>h.live hx e hn,h.2⟩
theorem bt.G4 {H H':View} {L:List cz} (h:bt H L) {u:V} {sz:Nat} {es:List (List V)} (ho:ba H' u sz es) (hf:dh H H' u):bt H' ((u,sz,es) :: L):=by
 refine ⟨fun x hx=>?_,?_⟩
 ·rcases Vp.1 hx with rfl | hx
  ·exact ho
  ·exact (h.1 x hx).SQ hf
 ·cases hu:owner u with
  | none=>simp only[Wy,hu]; exact h.2
  | some id =>
   simp only[Wy,hu,V3,Wm,not_exists,not_and]
   exact ⟨fun x hx e=>(hf id (h.live hx e)).2 hu,h.2⟩
theorem bt.fresh {H:View} {L:List cz} (h:bt H L) {n:Nat} (hn:H n=.dead) {o:cZ} : bt (H.set n o) L :=
 ⟨fun x hx=>(h.1 x hx).fresh hn,h.2⟩
theorem bt.put {H:View} {L:List cz} {n k sz:Nat} {es es':List (List V)} (h:bt H ((.sl n 0 k sz,sz,es) :: L)) (hl:es'.length=es.length) (hk:k=es.length):bt (H.set n (.arr sz es')) ((.sl n 0 k sz,sz,es') :: L):=by
 refine ⟨fun x hx=>?_,by simpa [Wy,owner] using h.2⟩
 rcases Vp.1 hx with rfl | hx
 ·exact .inr ⟨n,by simp[hl,hk],by simp[View.set]⟩
 ·exact (h.1 x (by simp[hx])).other (h.off rfl x hx)
theorem bt.left {H H':View} {L:List cz} {u u':V} {sz:Nat} {es es':List (List V)} (h:bt H ((u,sz,es) :: L)) (ho:ba H' u' sz es') (hl:Left H H' u u'):bt H' ((u',sz,es') :: L):=by
 have hoff:∀ x∈L,∀ id,owner x.1=some id→owner u≠some id:=fun x hx id hid hu=>h.off hu x hx hid
 refine ⟨fun x hx=>?_,?_⟩
 ·rcases Vp.1 hx with rfl | hx
  ·exact ho
  ·exact (h.1 x (by simp[hx])).left hl (hoff x hx)
 ·have ht:=h.tail.2
  cases hu:owner u' with
  | none=>simp only[Wy,hu]; exact ht
  | some id =>
   simp only[Wy,hu,V3,Wm,not_exists,not_and]
   refine ⟨fun x hx e=>?_,ht⟩
   have hlv:=h.tail.live hx e
   exact (hl id hlv (hoff x hx id e)).2 hu
theorem cn {sz bytes:Nat} {u:V} {es xs:List (List V)} {L:List cz} {H:View} {K:V→View→Prop} {w:cD (H,K)} (ho:bt H ((u,sz,es) :: L)) (hok:(xs.all fun e=>e.length == sz && e.all aU)=true)
  (hl:(es.length+xs.length) * bytes < aJ) (hl2:es.length+xs.length < aJ) (hk:∀ u' H',bt H' ((u',sz,es ++ xs) :: L)→Left H H' u u'→K u' H'):mB sz bytes u xs H K w :=
 gS ho.head hok hl hl2 fun u' H' h1 h2=>hk u' H' (ho.left h1 h2) h2
theorem bt.stay {H H':View} {L:List cz} (h:bt H L) (hf:∀ id,H id≠.dead→H' id=H id):bt H' L :=
 h.keep fun x hx _ hid=>hf _ (h.live hx hid)
theorem bt.emp {H:View} {L:List cz} (h:bt H L) {k sz:Nat} : bt H ((.emp k,sz,[]) :: L):=by
 refine ⟨fun x hx=>?_,by simpa [Wy,owner] using h.2⟩
 rcases Vp.1 hx with rfl | hx
 ·exact .nil
 ·exact h.1 x hx
theorem ba.cells {H:View} {u:V} {sz:Nat} {es:List (List V)} (h:ba H u sz es):V.cells u=[u]:=by
 rcases h with ⟨rfl,k,rfl⟩ | ⟨n,rfl,_⟩ <;> rfl
theorem ba.gR {H:View} {u:V} {sz:Nat} {es:List (List V)} (h:ba H u sz es):aU u=true:=by
 rcases h with ⟨rfl,k,rfl⟩ | ⟨n,rfl,_⟩ <;> rfl
theorem bt.E0 {H:View} {L:List cz} (h:bt H L) (i j:Nat) {a k1 s1 b k2 s2 t1 t2:Nat} {e1 e2:List (List V)} (hi:L[i]?=some (.sl a 0 k1 s1,t1,e1)) (hj:L[j]?=some (.sl b 0 k2 s2,t2,e2)) (hij:i≠j):a≠b:=by
 rintro rfl
 obtain ⟨hil,hi⟩:=Vn.1 hi
 have h1:=h.at i hil
 rw[hi] at h1
 exact h1.off (id:=a) rfl _ (List.mem_eraseIdx_iff_getElem?.2 ⟨j,hij.symm,hj⟩) rfl
theorem HZ {α:Type} {a b c:α} {l:List α} : (a :: b :: c :: l).Perm (b :: c :: a :: l):=(List.Perm.swap _ _ _).trans ((List.Perm.swap _ _ _).cons _)
theorem bt.own {H:View} {L:List cz} (h:bt H L) (i:Nat) {u:V} {sz:Nat} {es:List (List V)} (hi:L[i]?=some (u,sz,es)):ba H u sz es:=h.1 _ (Vf hi)
theorem bt.is {H:View} {L:List cz} (h:bt H L) (i:Nat) {n k sz:Nat} {es:List (List V)} (hi:L[i]?=some (.sl n 0 k sz,sz,es)) (hes:0 < es.length):H n=.arr sz es:=by
 obtain ⟨m,e,hm⟩:=(h.own i hi).sl hes
 simp only[V.sl.injEq] at e
 rw[e.1]; exact hm
theorem bt.zX {H:View} {L:List cz} (h:bt H L) {b c:Nat} {es:List (V × V × Nat)} (hb:H b=.map es c):∀ x∈L,owner x.1≠some b:=fun x hx e=>by
 have:=((h.1 x hx).live e).1
 rw[hb] at this; simp at this
theorem bt.vr {H:View} {L:List cz} (h:bt H L) {b c:Nat} {es:List (V × V × Nat)} (hb:H b=.map es c) {o:cZ} : bt (H.set b o) L :=
 ⟨fun x hx=>(h.1 x hx).other (h.zX hb x hx),h.2⟩
theorem Left.map {H H':View} {u u':V} {b c:Nat} {es:List (V × V × Nat)} {sz:Nat} {xs:List (List V)} (hl:Left H H' u u') (ho:ba H u sz xs) (hb:H b=.map es c):H' b=.map es c:=by
 rw[(hl b (by rw[hb]; simp) (fun e=>by have:=(ho.live e).1; rw[hb] at this; simp at this)).1,hb]
theorem BY {H:View} {L:List cz} (h:bt H L) (i:Nat) {n k sz b c:Nat} {xs:List (List V)} {es:List (V × V × Nat)} (hi:L[i]?=some (.sl n 0 k sz,sz,xs)) (hb:H b=.map es c):n≠b:=by
 rintro rfl
 exact h.zX hb _ (Vf hi) rfl
theorem aD.JA {P:Program} {f:FuncId} {vs:List V} {H:View} {K:V→View→Prop} {w:cD (H,K)} {sz:Nat} {es:List (List V)} (hc:aC P f vs H fun r H'=>ba H' r sz es∧dh H H' r) (hk:∀ r H',ba H' r sz es→dh H H' r→K r H'):aD P true f vs H K w:=by
 unfold aD
 simp only[if_true]
 exact (hc.mono fun r H' h=>⟨fun id hid=>(h.2 id hid).1,hk r H' h.1 h.2⟩).LZ
def yc:SC :=
 .seq (ao [bc 20 .lss 19 18]) <|
 .seq (.cond (.tmp 20) (.skip) (.exit 0)) <|
 .seq (.block 1 (.seq (ao [aj 21 19,aj 3 21]) <|
 .seq (ao [aj 22 0,aj 23 3,((some 24),.op (.iC (.tmp 22) (.tmp 23))),bC 25 148 [24],dd 26 25]) <|
 .cond (.tmp 26) (.seq (ao [bK 2 false]) <|
 .ret) (.skip))) <|
 ao [aQ 27 .add 19 1,aj 19 27]
def Cx:SF:=⟨.seq (ao [bK 2 false]) <|
 .seq (.seq (.region false [⟨none,[aj 4 0,((some 5),.op (.xN .eql (.tmp 4) (.val (.val (.string ⟨#[]⟩))))),aj 6 5]⟩,⟨(some (6,false)),[aj 7 0,((some 8),.op (.pO (.tmp 7))),aQ 9 .gtr 8 20]⟩,⟨none,[c6 10 6 9,aj 11 10]⟩,⟨(some (11,false)),[aj 12 0,((some 13),.op (.iC (.tmp 12) (.val (.val (.int .i64 0))))),bC 14 147 [13],dd 15 14]⟩,⟨none,[c6 16 11 15]⟩]) <|
 .cond (.tmp 16) (.seq (ao [bK 2 false]) <|
 .ret) (.skip)) <|
 .seq (.seq (ao [aj 17 0,((some 18),.op (.pO (.tmp 17))),bj 19 0]) <|
 .block 0 (.loop yc)) <|
 .seq (ao [bK 2 true]) <|
 .ret,
 [.tmp 2],28⟩
theorem FO:aV Tryz.prog 102 []=some Cx:=by kernel_rfl
def xD:SF:=⟨.seq (ao [bj 2 0,bj 3 0]) <|
 .seq (ao [bj 4 2]) <|
 .seq (.block 0 (.seq (ao [aj 6 0,aX 7 6,aQ 8 .lss 7 2,aj 5 8]) <|
 .cond (.tmp 5) (.seq (ao [bj 2 0,bj 3 4]) <|
 .ret) (.seq (ao [aj 10 0,((some 11),.op (.idx 1 (.tmp 10) (.val (.val (.int .i64 1))))),ax 12 11,bC 13 233 [12],aj 9 13]) <|
 .cond (.tmp 9) (.skip) (.seq (ao [aj 15 0,((some 16),.op (.idx 1 (.tmp 15) (.val (.val (.int .i64 1))))),ax 17 16,((some 18),.op (.arith .neq (.tmp 17) (.val (.val (.int .u8 92))))),aj 14 18]) <|
 .cond (.tmp 14) (.seq (ao [bj 2 0,bj 3 3]) <|
 .ret) (.seq (ao [aj 20 0,aX 21 20,aQ 22 .lss 21 3,aj 19 22]) <|
 .cond (.tmp 19) (.seq (ao [bj 2 0,bj 3 4]) <|
 .ret) (.seq (ao [aj 24 0,((some 25),.op (.idx 1 (.tmp 24) (.val (.val (.int .i64 2))))),ax 26 25,bC 27 234 [26],dd 28 27,aj 23 28]) <|
 .cond (.tmp 23) (.seq (ao [bj 2 0,bj 3 3]) <|
 .ret) (ao [bj 4 3]))))))) <|
 .seq (.seq (ao [aj 29 0,aX 30 29,aj 31 4,bc 32 .leq 30 31]) <|
 .cond (.tmp 32) (.seq (ao [bj 2 0,bj 3 4]) <|
 .ret) (.skip)) <|
 .seq (.seq (ao [aj 33 0,aj 34 4,aP 35 1 33 34,ax 36 35,((some 37),.op (.arith .neq (.tmp 36) (.val (.val (.int .u8 39)))))]) <|
 .cond (.tmp 37) (.seq (ao [bj 2 0,bj 3 3]) <|
 .ret) (.skip)) <|
 .seq (ao [aj 38 4,aQ 39 .add 38 1,aj 2 39,bj 3 0]) <|
 .ret,
 [.tmp 2,.tmp 3],40⟩
theorem Bh:aV Tryz.prog 224 []=some xD:=by kernel_rfl
def rr:SF:=⟨.seq (ao [bK 2 false]) <|
 .seq (.seq (.region false [⟨none,[aj 5 0,((some 6),.op (.xN .eql (.tmp 5) (.val (.val (.string ⟨#[]⟩))))),aj 7 6]⟩,⟨(some (7,false)),[aj 8 0,((some 9),.op (.iC (.tmp 8) (.val (.val (.int .i64 0))))),((some 10),.op (.arith .neq (.tmp 9) (.val (.val (.int .u8 39)))))]⟩,⟨none,[c6 11 7 10]⟩]) <|
 .cond (.tmp 11) (.seq (ao [bK 2 false]) <|
 .ret) (.skip)) <|
 .seq (ao [aj 13 0,((some 14),.op (.gp (.tmp 13))),bC 15 224 [14],aj 12 15,fK 16 0 12,fK 17 1 12,aj 3 16,aj 4 17]) <|
 .seq (.region false [⟨none,[aj 18 4,aQ 19 .eql 18 0,aj 20 19]⟩,⟨(some (20,true)),[aj 21 3,aj 22 0,((some 23),.op (.pO (.tmp 22))),bc 24 .eql 21 23]⟩,⟨none,[eF 25 20 24,aj 2 25]⟩]) <|
 .ret,
 [.tmp 2],26⟩
theorem AR:aV Tryz.prog 187 [14]=some rr:=by kernel_rfl
def Ao:SF:=⟨.seq (ao [bK 2 false]) <|
 .seq (.region false [⟨none,[aj 3 0,bC 4 102 [3],aj 5 4]⟩,⟨(some (5,false)),[aj 6 0,bC 7 187 [6]]⟩,⟨none,[c6 8 5 7,aj 2 8]⟩]) <|
 .ret,
 [.tmp 2],9⟩
theorem DY:aV Tryz.prog 141 []=some Ao:=by kernel_rfl
def xK:SF:=⟨.seq (ao [bK 2 false]) <|
 .seq (ao [aj 3 0,bC 4 102 [3],dd 5 4,aj 2 5]) <|
 .ret,
 [.tmp 2],6⟩
theorem Bf:aV Tryz.prog 101 []=some xK:=by kernel_rfl
theorem yF (s:ByteArray):ja s ⟨#[]⟩=decide ((fJ s).length=0):=by
 unfold ja
 rw[← eV]
 have:(s.data.toList == ([]:List UInt8))=decide (s.data.toList.length=0):=by
  cases s.data.toList <;> rfl
 show (s.data.toList == ([]:List UInt8))=_
 rw[this]
 rfl
set_option maxHeartbeats 1000000 in
theorem Pp (s:ByteArray) (H:View):aC Tryz.prog 102 [gs s] H fun r _=>r=gb (gC (fJ s)):=by
 refine aC.of mixed FO ?_
 repeat' (first | (refine av.dec (fun _=>?_) (fun _=>?_)) | (refine av.eq (fun _=>?_) (fun _=>?_)) | (refine av.ne (fun _=>?_) (fun _=>?_)) | (refine av.split (fun _=>?_) (fun _=>?_)) | (simp (disch:=omega) only [↓wr,seval,wq,ah,ag,ak,aa,ab,af,ai,ae,Cx,eV,yF]))
 ·rename_i h
  congr 2; simp[gC,h]
 ·rename_i h1 h
  congr 2; simp[gC,show ¬ (fJ s).length≤20 by omega]
 ·rename_i h1 h2
  cases hb:fJ s with
  | nil=>simp[hb] at h1
  | cons c l =>
   have hcr:=fun d (hd:d∈c :: l)=>Fx (s:=s) (c:=d) (by rw[hb]; exact hd)
   have hc0:=hcr c (by simp)
   repeat' (first | (refine av.dec (fun _=>?_) (fun _=>?_)) | (refine av.eq (fun _=>?_) (fun _=>?_)) | (refine av.ne (fun _=>?_) (fun _=>?_)) | (refine av.split (fun _=>?_) (fun _=>?_)) | (simp (disch:=omega) only [↓wr,seval,wq,ah,ag,ak,aa,ab,af,ai,ae,hb,VG,eV]))
   refine aD.pure (xc uj KQ c hc0.1 hc0.2) (by kernel_rfl) ?_
   repeat' (first | (refine av.dec (fun _=>?_) (fun _=>?_)) | (refine av.eq (fun _=>?_) (fun _=>?_)) | (refine av.ne (fun _=>?_) (fun _=>?_)) | (refine av.split (fun _=>?_) (fun _=>?_)) | (simp (disch:=omega) only [↓wr,seval,wq,ah,ag,ak,aa,ab,af,ai,ae,hb,VG,eV]))
   ·rename_i hf
    rw[hb] at h1 h2
    refine aZ.intro (fun k T H'=>∃ i:Nat,i+k=(c :: l).length∧((c :: l).take i).all nN=true∧T 0=gs s∧T 18=gi (c :: l).length∧T 19=gi i) (c :: l).length ?_ ?_
    ·exact ⟨0,by omega,by simp,rfl,rfl,rfl⟩
    ·rintro k T H' ⟨i,hk,hi,h0,h18,h19⟩
     simp (disch:=omega) only [↓wr,seval,wq,ah,ag,ak,aa,ab,af,ai,ae,yc,h0,h18,h19,eV,hb]
     refine av.dec (fun hc=>?_) (fun hc=>?_)
     ·simp only[Vr] at hc hk h2
      have hg:(c :: l)[i]?=some ((c :: l)[i]'(by simp; omega)):=U9 (by simp; omega)
      have hm:(c :: l)[i]'(by simp; omega)∈c :: l:=Vi _
      generalize (c :: l)[i]'(by simp; omega)=d at hg hm
      have hd0:=hcr d hm
      simp (disch:=omega) only [↓wr,seval,wq,ah,ag,ak,aa,ab,af,ai,ae,h0,h18,h19,eV,hb,hg]
      refine aD.pure (xc uj ON d hd0.1 hd0.2) (by kernel_rfl) ?_
      repeat' (first | (refine av.dec (fun _=>?_) (fun _=>?_)) | (refine av.eq (fun _=>?_) (fun _=>?_)) | (refine av.ne (fun _=>?_) (fun _=>?_)) | (refine av.split (fun _=>?_) (fun _=>?_)) | (simp (disch:=omega) only [↓wr,seval,wq,ah,ag,ak,aa,ab,af,ai,ae,h0,h18,h19,eV,hb,hg]))
      ·rename_i hd
       refine ⟨k - 1,by omega,i+1,by omega,?_,by first | rfl | exact ⟨rfl,rfl⟩⟩
       rw[Vx,hg]
       simp only[Option.toList_some,List.all_append,hi,Wn,hd,List.all_nil,Bool.and_self]
      ·rename_i hd
       congr 2
       have:(c :: l).all nN=false:=by
        rw[List.all_eq_false]; exact ⟨d,hm,by simp[hd]⟩
       simp only[gC,this,Bool.and_false]
     ·simp (disch:=omega) only [↓wr,seval,wq,ah,ag,ak,aa,ab,af,ai,ae,h0,h18,h19]
      simp only[Vr] at hc hk h2
      rw[Vq (by simp; omega)] at hi
      congr 2
      simp only[gC,hi,Vr]
      simp[hf]; omega
   ·rename_i hf
    congr 2; simp[gC,hf]
theorem Gd (s:ByteArray):aI Tryz.prog 102 [gs s] (gb (gC (fJ s))):=aI.val (pM s) (Pp s)
def kX (l:List Int):Int × Int :=
 if zd (l.getD 1 0)=true then (2,0) else if l.getD 1 0≠92 then (0,3) else if l.length < 3 then (0,4) else if Du (l.getD 2 0)=true then (3,0) else (0,3)
def mS (l:List Int):Int × Int :=
 if l.length < 2 then (0,4) else if (kX l).2≠0 then (0,(kX l).2) else if (l.length:Int)≤(kX l).1 then (0,4) else if l.getD (kX l).1.toNat 0≠39 then (0,3) else ((kX l).1+1,0)
theorem Mk {l:List Int} {n:Int} (hN:kX l=(n,0)) (h2:¬ l.length < 2):mS l=if (l.length:Int)≤n then (0,4) else if l.getD n.toNat 0≠39 then (0,3) else (n+1,0):=by
 rw[mS,Va h2,hN]; simp
theorem G7 {l:List Int} {e:Int} (hN:kX l=(0,e)) (he:e≠0) (h2:¬ l.length < 2):mS l=(0,e):=by
 rw[mS,Va h2,hN]; simp[he]
set_option maxHeartbeats 2000000 in
theorem Ll (l:List Int) (hr:∀ c∈l,0≤c∧c≤255) (H:View):aC Tryz.prog 224 [.aK (l.map fun x=>[gy x])] H fun r _=>r=.bI [gi (mS l).1,gi (mS l).2]:=by
 refine aC.of mixed Bh ?_
 simp (disch:=omega) only [↓wr,seval,wq,ah,ag,ak,aa,ab,af,ai,ae,xD]
 refine av.dec (fun h=>?_) (fun h=>?_)
 ·simp (disch:=omega) only [↓wr,seval,wq,ah,ag,ak,aa,ab,af,ai,ae]
  rw[mS,Vd (by omega)]
 ·have h1:l[1]?=some (l[1]'(by omega)):=U9 (by omega)
  have g1:l.getD 1 0=l[1]'(by omega):=by simp[U8,h1]
  have m1:l[1]'(by omega)∈l:=Vi _
  generalize l[1]'(by omega)=b at h1 g1 m1
  have hb:=hr b m1
  simp (disch:=omega) only [↓wr,seval,wq,ah,ag,ak,aa,ab,af,ai,ae,Vc,h1]
  refine aD.pure (xc uj Om b hb.1 hb.2) (by kernel_rfl) ?_
  simp (disch:=omega) only [↓wr,seval,wq,ah,ag,ak,aa,ab,af,ai,ae]
  refine av.split (fun hp=>?_) (fun hp=>?_)
  ·have hN:kX l=(2,0):=by rw[kX,Vd (by rw[g1]; exact hp)]
   simp (disch:=omega) only [↓wr,seval,wq,ah,ag,ak,aa,ab,af,ai,ae]
   have hP:=Mk hN (by omega)
   refine av.dec (fun h3=>?_) (fun h3=>?_)
   ·simp (disch:=omega) only [↓wr,seval,wq,ah,ag,ak,aa,ab,af,ai,ae]
    rw[hP,Vd (by omega)]
   ·rw[Va (by omega)] at hP
    have h2:l[2]?=some (l[2]'(by omega)):=U9 (by omega)
    have g2:l.getD (2:Int).toNat 0=l[2]'(by omega):=by simp[U8,h2]
    generalize l[2]'(by omega)=c at h2 g2
    rw[g2] at hP
    simp (disch:=omega) only [↓wr,seval,wq,ah,ag,ak,aa,ab,af,ai,ae,Vc,h2]
    refine av.ne (fun h4=>?_) (fun h4=>?_)
    ·simp (disch:=omega) only [↓wr,seval,wq,ah,ag,ak,aa,ab,af,ai,ae]
     rw[hP,Vd h4]
    ·simp (disch:=omega) only [↓wr,↓reduceIte,wq,ah,ag,ak,aa,ab,af,ai,ae,Nat.reduceEqDiff,Nat.reduceAdd,Nat.reduceLT,Nat.reduceLeDiff,Int.reduceNeg,Int.reduceToNat,reduceCtorEq]
     rw[hP,Va (fun q=>q h4)]
  ·simp (disch:=omega) only [↓wr,seval,wq,ah,ag,ak,aa,ab,af,ai,ae,Vc,h1]
   refine av.ne (fun h5=>?_) (fun h5=>?_)
   ·simp (disch:=omega) only [↓wr,seval,wq,ah,ag,ak,aa,ab,af,ai,ae]
    rw[G7 (e:=3) (by rw[kX,Va (by rw[g1,hp]; simp),Vd (by rw[g1]; exact h5)]) (by simp) (by omega)]
   ·simp (disch:=omega) only [↓wr,seval,wq,ah,ag,ak,aa,ab,af,ai,ae]
    refine av.dec (fun h6=>?_) (fun h6=>?_)
    ·simp (disch:=omega) only [↓wr,seval,wq,ah,ag,ak,aa,ab,af,ai,ae]
     rw[G7 (e:=4) (by rw[kX,Va (by rw[g1,hp]; simp),Va (by rw[g1]; exact fun q=>q h5),Vd (by omega)]) (by simp) (by omega)]
    ·have h2:l[2]?=some (l[2]'(by omega)):=U9 (by omega)
     have g2:l.getD 2 0=l[2]'(by omega):=by simp[U8,h2]
     have m2:l[2]'(by omega)∈l:=Vi _
     generalize l[2]'(by omega)=c at h2 g2 m2
     have hcr:=hr c m2
     have hN0:kX l=if Du c=true then (3,0) else (0,3):=by rw[kX,Va (by rw[g1,hp]; simp),Va (by rw[g1]; exact fun q=>q h5),Va (by omega),g2]
     simp (disch:=omega) only [↓wr,seval,wq,ah,ag,ak,aa,ab,af,ai,ae,Vc,h2]
     refine aD.pure (xc uj RT c hcr.1 hcr.2) (by kernel_rfl) ?_
     simp (disch:=omega) only [↓wr,seval,wq,ah,ag,ak,aa,ab,af,ai,ae]
     refine av.split (fun he=>?_) (fun he=>?_)
     ·rw[Vd he] at hN0
      have hP:=Mk hN0 (by omega)
      simp (disch:=omega) only [↓wr,seval,wq,ah,ag,ak,aa,ab,af,ai,ae]
      refine av.dec (fun h3=>?_) (fun h3=>?_)
      ·simp (disch:=omega) only [↓wr,seval,wq,ah,ag,ak,aa,ab,af,ai,ae]
       rw[hP,Vd (by omega)]
      ·rw[Va (by omega)] at hP
       have h7:l[3]?=some (l[3]'(by omega)):=U9 (by omega)
       have g3:l.getD (3:Int).toNat 0=l[3]'(by omega):=by simp[U8,h7]
       generalize l[3]'(by omega)=d at h7 g3
       rw[g3] at hP
       simp (disch:=omega) only [↓wr,seval,wq,ah,ag,ak,aa,ab,af,ai,ae,Vc,h7]
       refine av.ne (fun h4=>?_) (fun h4=>?_)
       ·simp (disch:=omega) only [↓wr,seval,wq,ah,ag,ak,aa,ab,af,ai,ae]
        rw[hP,Vd h4]
       ·simp (disch:=omega) only [↓wr,↓reduceIte,wq,ah,ag,ak,aa,ab,af,ai,ae,Nat.reduceEqDiff,Nat.reduceAdd,Nat.reduceLT,Nat.reduceLeDiff,Int.reduceNeg,Int.reduceToNat,reduceCtorEq]
        rw[hP,Va (fun q=>q h4)]
     ·rw[Va (by rw[he]; simp)] at hN0
      simp (disch:=omega) only [↓wr,seval,wq,ah,ag,ak,aa,ab,af,ai,ae]
      rw[G7 hN0 (by simp) (by omega)]
end Gv
