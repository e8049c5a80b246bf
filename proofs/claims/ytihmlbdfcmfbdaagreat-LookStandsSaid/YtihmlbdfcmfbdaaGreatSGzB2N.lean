/-
  Part 14 of the proof: what the machine does and what the functions answer.
  Conditions: those that each lemma names.
-/
import Derived.Test.YtihmlbdfcmfbdaaGreatSGzB2M
set_option linter.unusedSimpArgs false
set_option linter.unusedVariables false
set_option maxRecDepth 100000
namespace Gv
open Go Go.Proofs
def DP:SF:=⟨.seq (ao [((some 2),.op (.bP (.val (.val (.int .u32 0)))))]) <|
 .seq (.seq (.region false [⟨none,[aj 3 0,aQ 4 .lss 3 0,aj 5 4]⟩,⟨(some (5,false)),[aj 6 0,aQ 7 .geq 6 32]⟩,⟨none,[cU 8 5 7]⟩]) <|
 .cond (.tmp 8) (.seq (ao [((some 2),.op (.bP (.val (.val (.int .u32 0)))))]) <|
 .ret) (.skip)) <|
 .seq (ao [aj 9 0,((some 10),.op (.sh true (.val (.val (.int .u32 1))) (.tmp 9))),aj 2 10]) <|
 .ret,
 [.tmp 2],11⟩
theorem G2:aU Tryz.prog 124 []=some DP:=by kernel_rfl
theorem NB (n:Int):aG Tryz.prog 124 [gi n] (gw (eo n)):=by
 refine aG.val (by intro v hv; simp at hv; subst hv; exact .val _) fun H=>?_
 have bad:¬ (0≤n∧n≤31)→eo n=0:=fun h=>by rw[eo,T6 h]
 refine aC.of mixed G2 ?_
 simp (disch:=omega) only [↓wr,seval,wq,ah,ag,ak,aa,ab,af,ai,ae,DP]
 refine av.dec (fun h1=>?_) (fun h1=>?_)
 ·simp (disch:=omega) only [↓wr,seval,wq,ah,ag,ak,aa,ab,af,ai,ae]
  rw[bad (by omega)]; rfl
 simp (disch:=omega) only [↓wr,seval,wq,ah,ag,ak,aa,ab,af,ai,ae]
 refine av.dec (fun h2=>?_) (fun h2=>?_)
 ·simp (disch:=omega) only [↓wr,seval,wq,ah,ag,ak,aa,ab,af,ai,ae]
  rw[bad (by omega)]; rfl
 simp (disch:=omega) only [↓wr,seval,wq,ah,ag,ak,aa,ab,af,ai,ae]
 have h31:(2:Nat) ^ n.toNat≤2 ^ 31:=Nat.pow_le_pow_right (by omega) (by omega)
 have e:Du true .u32 1 n=(((eo n).toNat:Nat):Int):=by
  rw[FC (by omega)]
  unfold Du
  rw[T9 rfl,show min n.toNat IntKind.u32.bits=n.toNat by rw[show IntKind.u32.bits=32 from rfl]; omega]
  have e2:((1:Int) * 2 ^ n.toNat)=((2 ^ n.toNat:Nat):Int):=by rw[Int.one_mul]; push_cast; rfl
  rw[e2]
  generalize (2:Nat) ^ n.toNat=z at h31
  exact Lp (by omega) (by omega)
 rw[e]
 first | rfl | exact ⟨by omega,rfl⟩
def LO:List Int:=[37,37,32,115,32,58,32,108,32,39,61,39,32,114,32,124,32,114,32,59,32,108,32,58,32,39,42,39,32,114,32,124,32,39,105,39,32,59,32,114,32,58,32,108,32,59]
def qC:aw:=⟨[⟨⟨#[39,61,39]⟩,0,0⟩,⟨⟨#[39,42,39]⟩,0,0⟩,⟨⟨#[39,105,39]⟩,0,0⟩],[⟨#[115]⟩,⟨#[108]⟩,⟨#[114]⟩],[⟨0,[-2,0,-3],0⟩,⟨0,[-3],-1⟩,⟨1,[1,-3],1⟩,⟨1,[2],2⟩,⟨2,[-2],-1⟩],0⟩
noncomputable def Q6:List (FuncId × DF):=AY Tryz.prog [(31,[]),(33,[1]),(74,[4,5,100000]),(121,[2]),(172,[]),(91,[]),(133,[]),(119,[]),(28,[]),(69,[2]),(68,[]),(24,[1]),(64,[]),(112,[]),(167,[]),(207,[]),(208,[]),(166,[]),(199,[]),(113,[2,3]),(126,[]),(173,[]),(168,[]),(114,[]),(62,[]),(56,[2]),(50,[2,3]),(53,[2]),(58,[]),(63,[2]),(111,[2]),(72,[2]),(73,[100000]),(120,[]),(124,[]),(75,[1]),(122,[]),(38,[]),(79,[]),(37,[])]
theorem Lb:tq Tryz.prog Q6:=AU _ _
theorem Rl:cX Tryz.prog 49 [AS LO] (rQ qC):=IE (by kernel_rfl)
theorem rG:qC.Ok∧qC.Small:=LY (by kernel_rfl)
def Qb:List x5:=[(49,[AS LO],rQ qC,false),(49,[AS Qn],rQ tj,false),(61,[.agg (au tj)],gb true,false),(61,[.agg (au qC)],gb true,false),(61,[.agg (au uB)],gb false,false),
 (118,[.agg (au tj)],.aL [[gb true]],false),(118,[.agg (au qC)],.aL [[gb false],[gb false],[gb false]],false)]
theorem O9:∀ x∈Qb,x.Ok Tryz.prog:=by
 have hi:∀ (g:aw),g.Ok→g.Small→∀ b,isRed g=b→x5.Ok Tryz.prog (61,[.agg (au g)],gb b,false):=fun g h1 h2 b e=>⟨by kernel_rfl,by simp only[Ut,if_false]; exact .inr ⟨e ▸ L2 g h1 h2,.val _⟩⟩
 have hn:∀ (g:aw),g.Ok→g.Small→∀ b,bI (aA g false)=b→x5.Ok Tryz.prog (118,[.agg (au g)],b,false):=fun g h1 h2 b e=>⟨by kernel_rfl,by simp only[Ut,if_false]; exact .inl (e ▸ yb g h1 h2)⟩
 intro x hx
 simp only[Qb,Uk,List.not_mem_nil,or_false] at hx
 rcases hx with rfl | rfl | rfl | rfl | rfl | rfl | rfl
 ·exact ⟨by kernel_rfl,by simp only[Ut,if_false]; exact .inl Rl⟩
 ·exact ⟨by kernel_rfl,by simp only[Ut,if_false]; exact .inl Sy⟩
 ·exact hi tj tv.1 tv.2 true (by kernel_rfl)
 ·exact hi qC rG.1 rG.2 true (by kernel_rfl)
 ·exact hi uB Ri ⟨by decide⟩ false (by kernel_rfl)
 ·exact hn tj tv.1 tv.2 _ (by kernel_rfl)
 ·exact hn qC rG.1 rG.2 _ (by kernel_rfl)
theorem Le:aG Tryz.prog 31 [] (gb true) :=
 (wa mixed Lb (PD O9) (by simp) (by kernel_rfl)).pure
def yQ:SF:=⟨.seq (ao [cO 2 0,((some 4),.op (.bP (.val (.emp 1))))]) <|
 .seq (.seq (ao [aj 5 1,aQ 6 .eql 5 (-1)]) <|
 .cond (.tmp 6) (.seq (ao [aD 7 3 2,ay 8 7,((some 9),.op (.arith .sub (.val (.val (.int .i64 (-1)))) (.tmp 8))),((some 10),.op (.cw 1 1 [(.val (.int .i64 0))] [(0,(.tmp 9))])),aj 4 10]) <|
 .ret) (.skip)) <|
 .seq (ao [aD 11 2 2,ay 12 11,aj 13 1,aR 14 3 12 13,aD 15 1 14,ay 16 15,aj 4 16]) <|
 .ret,
 [.tmp 4],17⟩
theorem BE:aU Tryz.prog 53 [2]=some yQ:=by kernel_rfl
def zP:SF:=⟨.seq (ao [cO 2 0,cO 3 1,bj 4 0,bH 5 false]) <|
 .seq (.seq (ao [bp 7 4 2,aD 8 0 3,ay 9 8,bD 10 53 [7,9],aj 6 10]) <|
 .seq (ao [aD 11 1 3,ay 12 11,aj 13 6,aV 14 13,bg 15 .lss 12 14]) <|
 .cond (.tmp 15) (.seq (ao [aj 16 6,aD 17 1 3,ay 18 17,aR 19 1 16 18,ay 20 19,aj 4 20,bH 5 true]) <|
 .ret) (.skip)) <|
 .seq (ao [bj 4 0,bH 5 false]) <|
 .ret,
 [.tmp 4,.tmp 5],21⟩
theorem Dh:aU Tryz.prog 50 [2,3]=some zP:=by kernel_rfl
def zJ:SF:=⟨.seq (ao [cO 2 0,bj 4 0]) <|
 .seq (.seq (ao [aj 5 1,aQ 6 .lss 5 0]) <|
 .cond (.tmp 6) (.seq (ao [aD 7 0 2,ay 8 7,aV 9 8,aQ 10 .sub 9 1,aj 11 1,bg 12 .sub 10 11,aj 4 12]) <|
 .ret) (.skip)) <|
 .seq (ao [aj 13 1,aj 4 13]) <|
 .ret,
 [.tmp 4],14⟩
theorem C0:aU Tryz.prog 111 [2]=some zJ:=by kernel_rfl
def cQ:SF:=⟨.seq (ao [((some 2),.op (.bP (.val (.emp 1))))]) <|
 .seq (.seq (ao [aj 3 0,((some 4),.op (.nil true 0 (.tmp 3) (.val (.emp 1))))]) <|
 .cond (.tmp 4) (.seq (ao [((some 2),.op (.bP (.val (.emp 1))))]) <|
 .ret) (.skip)) <|
 .seq (ao [((some 5),.op (.bP (.val (.emp 2)))),aj 6 0,((some 7),.op (.app 2 16 (.tmp 5) (.tmp 6))),aj 2 7]) <|
 .ret,
 [.tmp 2],8⟩
theorem dd:aU Tryz.prog 58 []=some cQ:=by kernel_rfl
def rW:SC :=
 .seq (ao [bg 54 .lss 53 52]) <|
 .seq (.cond (.tmp 54) (.skip) (.exit 2)) <|
 .seq (.block 3 (.seq (ao [aj 55 53,aR 56 3 51 53,bp 57 3 56,((some 11),.op (.alloc [(.val (.int .i64 0)),(.emp 1),(.val (.int .i64 0))])),aj 10 55,(none,.op (.store 3 (.tmp 11) (.tmp 57)))]) <|
 .seq (ao [aD 58 0 11,ay 59 58,aj 60 8,((some 61),.op (.arith .sub (.val (.val (.int .i64 (-1)))) (.tmp 60))),bg 62 .eql 59 61]) <|
 .cond (.tmp 62) (ao [aj 63 5,aj 64 10,((some 65),.op (.build [(.val (.int .i64 0)),(.val (.int .i64 0))] [(0,1,(.tmp 64))])),((some 66),.op (.cw 1 2 [(.val (.int .i64 0)),(.val (.int .i64 0))] [(0,(.tmp 65))])),((some 67),.op (.app 2 16 (.tmp 63) (.tmp 66))),aj 5 67]) (.skip))) <|
 ao [aQ 68 .add 53 1,aj 53 68]
def sK:SC :=
 .seq (.seq (ao [aj 18 7,aj 19 5,aV 20 19,bg 21 .lss 18 20]) <|
 .cond (.tmp 21) (.skip) (.exit 0)) <|
 .seq (.block 1 (.seq (ao [bp 25 4 2,aj 26 5,aj 27 7,aR 28 2 26 27,bp 29 2 28,bD 30 50 [25,29],aj 24 30,gP 31 0 24,gP 32 1 24,aj 8 31,aj 9 32]) <|
 .seq (.seq (.region false [⟨none,[aj 33 9,dp 34 33,aj 35 34]⟩,⟨(some (35,false)),[aj 36 8,aQ 37 .geq 36 0]⟩,⟨none,[cU 38 35 37,aj 39 38]⟩,⟨(some (39,false)),[aj 40 6,aj 41 8,((some 42),.op (.arith .sub (.val (.val (.int .i64 (-1)))) (.tmp 41))),aR 43 1 40 42,ay 44 43]⟩,⟨none,[cU 45 39 44]⟩]) <|
 .cond (.tmp 45) (.exit 1) (.skip)) <|
 .seq (ao [aj 46 6,aj 47 8,((some 48),.op (.arith .sub (.val (.val (.int .i64 (-1)))) (.tmp 47))),aR 49 1 46 48,(none,.op (.store 1 (.tmp 49) (.val (.val (.bool true)))))]) <|
 .seq (ao [aD 50 2 2,ay 51 50,aV 52 51,bj 53 0]) <|
 .block 2 (.loop rW))) <|
 ao [aj 22 7,aQ 23 .add 22 1,aj 7 23]
def vl:SF:=⟨.seq (ao [cO 2 0,((some 4),.op (.bP (.val (.emp 1))))]) <|
 .seq (ao [aj 12 1,bD 13 58 [12],aj 5 13]) <|
 .seq (ao [aD 14 1 2,ay 15 14,aV 16 15,((some 17),.op (.make 1 1 [(.val (.bool false))] (.tmp 16) (.tmp 16))),aj 6 17]) <|
 .seq (.seq (ao [bj 7 0]) <|
 .block 0 (.loop sK)) <|
 .seq (ao [aj 69 5,bD 70 64 [69],aj 4 70]) <|
 .ret,
 [.tmp 4],71⟩
theorem zG:aU Tryz.prog 56 [2]=some vl:=by kernel_rfl
theorem LV (g:aw) (hs : -100≤g.start∧g.start≤100) (r:Int) (hr : -1≤r∧r < (g.rules.length:Int)):aG Tryz.prog 53 [.agg (au g),gi r] (encI (aM g r)):=by
 refine aG.of (by
  intro v hv; simp at hv
  rcases hv with rfl | rfl
  ·exact cT _ (dR g)
  ·exact .val _) ?_
 refine aC.of mixed BE ?_
 unfold aM
 simp (disch:=omega) only [↓wr,seval,wq,ah,ag,ak,aa,ab,af,ai,ae,yQ,au,encS]
 refine av.eq (fun h1=>?_) (fun h1=>?_)
 ·simp (disch:=omega) only [↓wr,seval,wq,ah,ag,ak,aa,ab,af,ai,ae,au,encS]
  intro n
  rw[T9 h1]
  rintro h' hv
  refine er.fr (mw (l:=[-1 - g.start]) (.inr ⟨n,rfl,?_⟩))
  rw[hv]; simp[View.set]
 ·have hR:g.rules[r.toNat]?=some (aB g r):=by unfold aB; exact getD_some (by omega)
  rw[T6 h1]
  generalize aB g r=R at hR
  simp (disch:=omega) only [↓wr,seval,wq,ah,ag,ak,aa,ab,af,ai,ae,au,encS,T8,hR,Ue,aP]
  intro h' _
  exact .tree _ (fM R.right)
theorem FY (g:aw) (hf:g.dt) (x:aI) (hx:cq g x):aG Tryz.prog 50 [.agg (au g),.agg (bK x)] (.bE [gi (bL g x).1,gb (bL g x).2]):=by
 have h1:=LV g (rv hf) x.aH hx.1
 have hl:=eU hf hx.1
 have hd:=hx.2
 refine aG.tree (by
  intro v hv; simp at hv
  rcases hv with rfl | rfl
  ·exact cT _ (dR g)
  ·exact cT _ fun v hv=>by simp[bK] at hv; rcases hv with rfl | rfl <;> exact .val _) (.bE _ fun i hi=>by
   match i,hi with
   | 0,_=>exact .val _
   | 1,_=>exact .val _) fun H=>?_
 refine aC.of mixed Dh ?_
 simp only[au,encS,encI] at h1
 unfold bL
 simp (disch:=omega) only [↓wr,seval,wq,ah,ag,ak,aa,ab,af,ai,ae,zP,au,encS,bK]
 refine aE.pure h1 (by kernel_rfl) ?_
 generalize aM g x.aH=R at hd hl ⊢
 simp (disch:=omega) only [↓wr,seval,wq,ah,ag,ak,aa,ab,af,ai,ae,bK]
 refine av.dec (fun h2=>?_) (fun h2=>?_)
 ·have hg:R[x.dot.toNat]?=some (R.getD x.dot.toNat 0):=getD_some (by omega)
  simp (disch:=omega) only [↓wr,seval,wq,ah,ag,ak,aa,ab,af,ai,ae,bK,T8,hg,Ue]
  rw[T6 (by omega)]
 ·simp (disch:=omega) only [↓wr,seval,wq,ah,ag,ak,aa,ab,af,ai,ae]
  rw[T9 (by omega)]
theorem OV (g:aw) (hf:g.dt) (s:Int) (hs : -1000≤s∧s≤1000):aG Tryz.prog 111 [.agg (au g),gi s] (gi (jz g s)):=by
 have hT:=hf.az
 refine aG.val (by
  intro v hv; simp at hv
  rcases hv with rfl | rfl
  ·exact cT _ (dR g)
  ·exact .val _) fun H=>?_
 refine aC.of mixed C0 ?_
 unfold jz
 simp (disch:=omega) only [↓wr,seval,wq,ah,ag,ak,aa,ab,af,ai,ae,zJ,au,encS]
 refine av.dec (fun h1=>?_) (fun h1=>?_)
 ·simp (disch:=omega) only [↓wr,seval,wq,ah,ag,ak,aa,ab,af,ai,ae,au]
  rw[T9 h1]
 ·simp (disch:=omega) only [↓wr,seval,wq,ah,ag,ak,aa,ab,af,ai,ae]
  rw[T6 h1]
theorem bW.Tp {P:Program} {f:FuncId} {h:aJ} {u:V} (hu:∀ Z μ hp x,aF Z μ hp u x→∃ a cap,x=.slice a 0 cap∧(a=none→cap=0)) (h1:bW P f [.emp 1] h (.emp 1) h) (h2:bW P f [.emp 2] h (.emp 2) h) (h3:bW P f [.dP] h (.emp 2) h):bW P f [u] h (.emp 0) h:=by
 refine ⟨Ug _,fun Z μ F w xs hrel hr hfree=>?_⟩
 obtain ⟨hl,hv⟩:=hrel
 obtain ⟨x,rfl⟩:∃ x,xs=[x]:=by
  match xs,hl with
  | [x],_=>exact ⟨x,rfl⟩
 have h0:aF Z μ w.heap u x:=hv 0 (by simp)
 have one:∀ v,aF Z μ w.heap v x→fU Z μ w.heap [v] [x]:=fun v h=>⟨rfl,fun i hi=>by
  simp at hi; subst hi; exact h⟩
 have weak:∀ k,bW P f [if k=3 then .dP else .emp k] h (if k=3 then .emp 2 else .emp k) h→aF Z μ w.heap (if k=3 then .dP else .emp k) x→Calls P f [x].toArray w fun e w'=>∃ x Z' μ',e=.returned x∧aF Z' μ' w'.heap (.emp 0) x∧gY Z' μ' w'.heap (cat h F)∧Ext Z μ w h.length Z' μ' w'∧(∀ id,id < h.length∨h.length≤id→μ' id=μ id):=by
  intro k hk hx
  refine (hk.2 Z μ F w [x] (one _ hx) hr hfree).mono ?_
  rintro e w' ⟨y,Z',μ',rfl,hy,rest⟩
  refine ⟨y,Z',μ',rfl,?_,rest⟩
  have:∀ k',aF Z' μ' w'.heap (.emp k') y→aF Z' μ' w'.heap (.emp 0) y:=fun k' h=>by
   cases h with | emp _ a _ _=>exact .emp 0 a (by simp) (by simp)
  split at hy <;> exact this _ hy
 obtain ⟨a,cap,rfl,hz⟩:=hu Z μ w.heap x h0
 cases a with
 | none =>
  have:=hz rfl
  subst this
  exact weak 1 (by simpa using h1) (.emp 1 none (by simp) (by simp))
 | some a =>
  cases cap with
  | zero=>exact weak 2 (by simpa using h2) (.emp 2 (some a) (by simp) (by simp))
  | succ c=>exact weak 3 (by simpa using h3) (.dP a (c+1))
theorem Og {Z:Nat→Prop} {μ:Mu} {hp:Array Obj} {k:Nat} {x:Value} (h:aF Z μ hp (.emp k) x):∃ a cap,x=.slice a 0 cap∧(a=none→cap=0):=by
 cases h with | emp _ a _ _=>exact ⟨a,0,rfl,fun _=>rfl⟩
theorem MO {Z:Nat→Prop} {μ:Mu} {hp:Array Obj} {id off esz:Nat} {x:Value} (h:aF Z μ hp (.sl id off 0 esz) x):∃ a cap,x=.slice a 0 cap∧(a=none→cap=0):=by
 rcases GQ h with ⟨_,a,e⟩ | ⟨b,o0,cap,c,e,f,e2,_⟩
 ·exact ⟨a,0,e,fun _=>rfl⟩
 ·exact ⟨_,cap,e2,fun h=>by simp at h⟩
theorem Ic (u:V) (hu:∀ Z μ hp x,aF Z μ hp u x→∃ a cap,x=.slice a 0 cap∧(a=none→cap=0)) (h:aJ):bW Tryz.prog 58 [u] h (.emp 0) h:=by
 have hp:∀ v t,Tree v→Tree t→(∀ H,aC Tryz.prog 58 [v] H fun r _=>r=t)→aG Tryz.prog 58 [v] t:=fun v t hv ht h=>aG.tree (by intro x hx; simp at hx; subst hx; exact hv) ht h
 have h1:=hp (.emp 1) (.emp 1) (.emp 1) (.emp 1) (fun H=>by
  refine aC.of mixed dd ?_
  simp (disch:=omega) only [↓wr,seval,wq,ah,ag,ak,aa,ab,af,ai,ae,cQ])
 have h2:=hp (.emp 2) (.emp 2) (.emp 2) (.emp 2) (fun H=>by
  refine aC.of mixed dd ?_
  simp (disch:=omega) only [↓wr,seval,wq,ah,ag,ak,aa,ab,af,ai,ae,cQ,iN,VR])
 have h3:=hp .dP (.emp 2) .dP (.emp 2) (fun H=>by
  refine aC.of mixed dd ?_
  simp (disch:=omega) only [↓wr,seval,wq,ah,ag,ak,aa,ab,af,ai,ae,cQ,pV,iN,VR])
 exact bW.Tp hu (bW.gg h1 h) (bW.gg h2 h) (bW.gg h3 h)
set_option maxHeartbeats 2000000 in
theorem Kv (l:List aI) (hl:l.length≤100000) (u:V) (H:View) (ho:bf H u 2 (aS l)):aC Tryz.prog 58 [u] H fun r H'=>bf H' r 2 (aS l)∧dx H H' r:=by
 cases l with
 | nil =>
  refine ⟨by kernel_rfl,?_⟩
  rintro h rfl
  refine ⟨.emp 0,h,Ic u (fun Z μ hp x hx=>?_) h,.refl _,.nil,.emp⟩
  rcases ho with ⟨_,k,rfl⟩ | ⟨n,rfl,_⟩
  ·exact Og hx
  ·exact MO hx
 | cons x r =>
  obtain ⟨id,hu,hid⟩:=ho.sl (by rw[bF]; simp)
  subst hu
  refine aC.of mixed dd ?_
  have he:=rH (H:=H) id 0 r.length 2 2 (aS (x :: r)) hid (by rw[bF]; simp)
  rw[Vj,Uo (by rw[bF]; simp)] at he
  simp only[Um] at hl
  have hlen:(aS (x :: r)).length=r.length+1:=by rw[bF]; rfl
  rw[hlen]
  simp (disch:=omega) only [↓wr,seval,wq,ah,ag,ak,aa,ab,af,ai,ae,cQ,he]
  refine ib (es:=[]) (.inl ⟨rfl,2,rfl⟩) (by simp[aS,bK,List.all_map,aX]) (by unfold aK; rw[hlen]; simp; omega) (by unfold aK; rw[hlen]; simp; omega) ?_
  intro u2 H2 o2 l2
  simp (disch:=omega) only [↓wr,seval,wq,ah,ag,ak,aa,ab,af,ai,ae]
  refine ⟨by simpa using o2,fun j hj=>?_⟩
  exact l2 j hj (by simp[owner])
def dD (ks:List Nat):List aI:=ks.map fun (k:Nat)=>(⟨k,0⟩:aI)
theorem xJ {ks:List Nat} {n:Nat} (h:ks.Nodup) (hk:∀ k∈ks,k < n):ks.length≤n:=by
 have:=mP ks (List.range n) h fun x hx=>UR.2 (hk x hx)
 simpa using this
theorem LW {l:List Bool} {i:Nat} (h:i < l.length):(dw l).getD i []=[gb (l.getD i false)]:=by
 simp[T0,h]
structure N7 (g:aw) (l:List aI) (H H':View) (i:Nat) (r su:V) (ks:List Nat) (seen:List Bool):Prop where
 own:bt H' [(r,2,aS (l ++ dD ks)),(su,1,dw seen)]
 f1:dx H H' r
 f2:dx H H' su
 nd:ks.Nodup
 kl:∀ k∈ks,k < g.rules.length
 sl:seen.length=g.ax.length
 s1:∀ (n k:Nat) (R:aW),seen.getD n false=true→g.rules[k]?=some R→R.left=n→k∈ks
 s2:∀ (k:Nat) (R:aW),k∈ks→g.rules[k]?=some R→seen.getD R.left.toNat false=true
 cl:∀ x∈l ++ dD ks,mr g l x
 dn:∀ (j:Nat) (x:aI) (s:Int),j < i→(l ++ dD ks)[j]?=some x→bL g x=(s,true)→s < 0→seen.getD (-1 - s).toNat false=true
 il:i≤(l ++ dD ks).length
theorem N7.len {g:aw} {l:List aI} {H H':View} {i:Nat} {r su:V} {ks:List Nat} {seen:List Bool} (h:N7 g l H H' i r su ks seen):ks.length≤g.rules.length∧(l ++ dD ks).length=l.length+ks.length:=by
 refine ⟨xJ h.nd h.kl,by simp[dD]⟩
def TV (g:aw) (l:List aI) (H:View) (m:Nat) (T:Env) (H':View):Prop:=∃ (i:Nat) (r su:V) (ks:List Nat) (seen:List Bool),m=l.length+g.rules.length - i∧N7 g l H H' i r su ks seen∧T 2=.aO (au g) 0∧T 5=r∧T 6=su∧T 7=gi i
set_option maxHeartbeats 16000000 in
theorem Ip (g:aw) (hf:g.dt) (l:List aI) (hl:∀ x∈l,cq g x) (hn:l.length≤10000) (u:V) (H:View) (ho:bf H u 2 (aS l)):aC Tryz.prog 56 [.agg (au g),u] H fun r H'=>bf H' r 2 (aS (cr g l))∧dx H H' r:=by
 refine aC.of mixed zG ?_
 have hru:=hf.rules
 have hno:=hf.ax
 simp (disch:=omega) only [↓wr,seval,wq,ah,ag,ak,aa,ab,af,ai,ae,vl,au,encS]
 refine aE.ez ((Kv l (by omega) u H ho).mono ?_)
 rintro r H1 ⟨o1,f1⟩
 simp (disch:=omega) only [↓wr,seval,wq,ah,ag,ak,aa,ab,af,ai,ae,au,encS]
 refine ⟨⟨Ug _,by unfold aK; omega,by unfold aK; omega⟩,fun h0=>?_,fun h0 q hq=>?_⟩
 ·exact absurd (by have:=hf.mc; omega) (show ¬ g.ax.length=0 by have:=hf.mc; omega)
 have hst:N7 g l H (H1.set q (.arr 1 (List.replicate g.ax.length [gb false]))) 0 r (.sl q 0 g.ax.length 1) [] (List.replicate g.ax.length false):=by
  have e:List.replicate g.ax.length [gb false]=dw (List.replicate g.ax.length false):=by simp
  have hr1:bt H1 [(r,2,aS l)]:=⟨fun x hx=>by simp at hx; subst hx; exact o1,by
   cases hr:owner r <;> simp[Vf,hr]⟩
  have j8:H q=.dead∨H q≠.dead:=by cases H q <;> simp
  have hqH:H q=.dead:=by
   rcases j8 with h | h
   ·exact h
   ·have:=(f1 q h).1; rw[hq] at this; exact absurd this.symm h
  refine ⟨?_,fun id hid=>?_,fun id hid=>?_,.nil,by simp,by simp,fun n k R h=>?_,by simp,fun x hx=>.base (by simpa [dD] using hx),fun j x s h=>by omega,Vu _⟩
  ·have h2:=(hr1.new hq 1 (List.replicate g.ax.length [gb false])).perm (.swap _ _ _)
   rw[VT] at h2
   rw[e] at h2 ⊢
   simpa [dD] using h2
  ·have hne:id≠q:=by rintro rfl; exact hid hqH
   exact ⟨by simp only[View.set]; rw[T6 hne]; exact (f1 id hid).1,(f1 id hid).2⟩
  ·have hne:id≠q:=by rintro rfl; exact hid hqH
   exact ⟨by simp only[View.set]; rw[T6 hne]; exact (f1 id hid).1,by simp[owner,Ne.symm hne]⟩
  ·simp only[T0,Vx] at h
   split at h <;> simp at h
 generalize H1.set q (.arr 1 (List.replicate g.ax.length [gb false]))=H2 at hst ⊢
 refine bc.intro (TV g l H) (l.length+g.rules.length) ⟨0,r,_,[],_,by omega,hst,rfl,rfl,rfl,rfl⟩ ?_
 clear hst o1 f1 hq
 rintro m T H' ⟨i,r,su,ks,seen,rfl,hI,t2,t5,t6,t7⟩
 obtain ⟨hk1,hk2⟩:=hI.len
 have hlr:cG r=some (l ++ dD ks).length:=by rw[hI.own.head.len,bF]
 simp (disch:=omega) only [↓wr,seval,wq,ah,ag,ak,aa,ab,af,ai,ae,sK,t2,t5,t6,t7,hlr]
 refine av.dec (fun hc=>?_) (fun hc=>?_)
 rotate_left
 ·
  have hi:i=(l ++ dD ks).length:=by have:=hI.il; omega
  simp (disch:=omega) only [↓wr,seval,wq,ah,ag,ak,aa,ab,af,ai,ae,t5]
  refine aE.ez ((Jc (l ++ dD ks) (by omega) r H' hI.own.head).mono ?_)
  rintro r2 H3 ⟨k3,o3,e3⟩
  simp (disch:=omega) only [↓wr,seval,wq,ah,ag,ak,aa,ab,af,ai,ae]
  have hcl:cr g l=zg (l ++ dD ks):=G1 hf hl (Bl _) (fun x hx=>hI.cl x (qi.1 hx)) (fun x hx=>qi.2 (by simp[hx])) (fun x hx s k R h1 h2 h3 h4=>by
   obtain ⟨j,hj,e⟩:=U6.1 (qi.1 hx)
   have h5:=hI.dn j x s (by omega) (by rw[T4 hj,e]) h1 h2
   have h6:=hI.s1 _ k R h5 h3 (by omega)
   exact qi.2 (VC _ (Ur.2 ⟨k,h6,rfl⟩)))
  rw[hcl]
  refine ⟨o3,fun id hid=>?_⟩
  obtain ⟨q1,q2⟩:=hI.f1 id hid
  exact ⟨by rw[k3 id q2,q1],by rw[e3]; exact q2⟩
 have hx:(l ++ dD ks)[i]?=some ((l ++ dD ks)[i]'(by omega)):=T4 (by omega)
 have hxm:=Ud (show i < (l ++ dD ks).length by omega)
 have hdn:=hI.dn
 generalize (l ++ dD ks)[i]'(by omega)=x at hx hxm
 have hxC:=hI.cl x hxm
 have hxH:=hxC.has hl
 have h1:=FY g hf x hxH
 cases hny:bL g x with
 | mk s okb =>
 have hsb:=wL hf hxH hny
 rw[hny] at h1
 obtain ⟨id,hu,hid⟩:=hI.own.head.sl (by rw[bF]; omega)
 simp only at hu hid
 rw[bF] at hu
 simp only[au,encS,bK] at h1
 simp (disch:=omega) only [↓wr,seval,wq,ah,ag,ak,aa,ab,af,ai,ae,t2,t5,t6,t7,hu,hid,qc hx,au,encS]
 refine ⟨by omega,by rw[bF]; omega,?_⟩
 refine aE.pure h1 (by kernel_rfl) ?_
 have skip:(okb=true→s < 0→seen.getD (-1 - s).toNat false=true)→N7 g l H H' (i+1) r su ks seen:=fun h =>
  ⟨hI.own,hI.f1,hI.f2,hI.nd,hI.kl,hI.sl,hI.s1,hI.s2,hI.cl,fun j y t hj hy hn h0=>by
   rcases Uv j i with q | q
   ·exact hI.dn j y t q hy hn h0
   ·have:j=i:=by omega
    subst this
    rw[hx] at hy
    simp only[T7] at hy
    subst hy
    rw[hny] at hn
    simp only[Ua] at hn
    obtain ⟨rfl,rfl⟩:=hn
    exact h rfl h0,by omega⟩
 cases okb with
 | false =>
  simp (disch:=omega) only [↓wr,seval,wq,ah,ag,ak,aa,ab,af,ai,ae,t2,t5,t6,t7]
  exact ⟨l.length+g.rules.length - (i+1),by omega,i+1,r,su,ks,seen,rfl,skip (by simp),t2,by rw[← hu]; exact t5,t6,rfl⟩
 | true =>
 simp (disch:=omega) only [↓wr,seval,wq,ah,ag,ak,aa,ab,af,ai,ae]
 refine av.dec (fun h0=>?_) (fun h0=>?_)
 ·simp (disch:=omega) only [↓wr,seval,wq,ah,ag,ak,aa,ab,af,ai,ae,t2,t5,t6,t7]
  exact ⟨l.length+g.rules.length - (i+1),by omega,i+1,r,su,ks,seen,rfl,skip (fun _ h=>by omega),t2,by rw[← hu]; exact t5,t6,rfl⟩
 have hG:=pr hf hxH hny
 have hnl:(-1 - s).toNat < g.ax.length:=by
  unfold iz at hG
  rw[T6 (by omega)] at hG
  simp at hG; omega
 obtain ⟨id2,hu2,hid2⟩:=hI.own.tail.head.sl (by simp[hI.sl]; omega)
 simp only at hu2 hid2
 rw[Uc,hI.sl] at hu2
 have hsn:(-1 - s).toNat < seen.length:=by rw[hI.sl]; exact hnl
 simp (disch:=omega) only [↓wr,seval,wq,ah,ag,ak,aa,ab,af,ai,ae,t6,hu2,hid2,LW hsn]
 refine ⟨by omega,by simp[hI.sl]; omega,?_⟩
 refine av.split (fun h2=>?_) (fun h2=>?_)
 ·simp (disch:=omega) only [↓wr,seval,wq,ah,ag,ak,aa,ab,af,ai,ae,t2,t5,t6,t7]
  exact ⟨l.length+g.rules.length - (i+1),by omega,i+1,r,su,ks,seen,rfl,skip (fun _ _=>h2),t2,by rw[← hu]; exact t5,by rw[← hu2]; exact t6,rfl⟩
 obtain ⟨n,hn⟩:∃ n:Nat,-1 - s=(n:Int):=⟨(-1 - s).toNat,by omega⟩
 have hnn:(-1 - s).toNat=n:=by omega
 rw[hnn] at hnl hsn h2
 have hse:(dw seen).set n [gb true]=dw (seen.set n true):=by simp[Vp]
 simp (disch:=omega) only [↓wr,seval,wq,ah,ag,ak,aa,ab,af,ai,ae,t2,t5,t6,t7,hu2,hid2,au,encS,hn,LW hsn,hse]
 refine ⟨by omega,by simp[hI.sl]; omega,?_⟩
 have hsg:∀ m,(seen.set n true).getD m false=if n=m then true else seen.getD m false:=fun m=>by
  rw[fI]
  by_cases e:n=m
  ·rw[T9 ⟨e,hsn⟩,T9 e]
  ·rw[T6 (fun h=>e h.1),T6 e]
 have o2:bt (H'.set id2 (.arr 1 (dw (seen.set n true)))) [(r,2,aS (l ++ dD ks)),(su,1,dw (seen.set n true))]:=by
  have h3:=hI.own.perm (.swap _ _ _)
  rw[hu2] at h3 ⊢
  exact (h3.put (es':=dw (seen.set n true)) (by simp) (by simp[hI.sl])).perm (.swap _ _ _)
 have hdead:∀ id,H id≠.dead→id≠id2:=fun id hid e=>by
  have:=(hI.f2 id hid).2
  rw[hu2,e] at this
  exact this rfl
 have f1':dx H (H'.set id2 (.arr 1 (dw (seen.set n true)))) r:=fun id hid=>⟨by simp only[View.set]; rw[T6 (hdead id hid)]; exact (hI.f1 id hid).1,(hI.f1 id hid).2⟩
 have f2':dx H (H'.set id2 (.arr 1 (dw (seen.set n true)))) su:=fun id hid=>⟨by simp only[View.set]; rw[T6 (hdead id hid)]; exact (hI.f2 id hid).1,(hI.f2 id hid).2⟩
 generalize H'.set id2 (.arr 1 (dw (seen.set n true)))=H4 at o2 f1' f2' ⊢
 refine bc.up g.rules.length (fun k T H5=>∃ (r2:V) (ks2:List Nat),ks2=ks ++ (List.range k).filter (fun (q:Nat)=>decide ((aB g q).left=n))∧bt H5 [(r2,2,aS (l ++ dD ks2)),(su,1,dw (seen.set n true))]∧dx H H5 r2∧dx H H5 su ∧
  T 2=.aO (au g) 0∧T 5=r2∧T 6=su∧T 7=gi i∧T 8=gi s∧T 51=.aL (g.rules.map aP)∧T 52=gi g.rules.length∧T 53=gi k) ⟨r,ks,by simp,o2,f1',f2',t2,by rw[← hu]; exact t5,by rw[← hu2]; exact t6,t7,rfl,rfl,rfl,rfl⟩ ?_
 clear t2 t5 t6 t7 o2 f1' f2'
 rintro k j T5 H5 hk ⟨r2,ks2,hks,o5,f5,g5,t2,t5,t6,t7,t8,t51,t52,t53⟩
 have hdis:∀ q,q∈ks→¬ (aB g q).left=n:=fun q hq e=>by
  have hR:g.rules[q]?=some (aB g q):=by unfold aB; exact getD_some (hI.kl q hq)
  have:=hI.s2 q _ hq hR
  rw[e] at this
  simp only[Uq] at this
  rw[h2] at this; simp at this
 have hnd2:ks2.Nodup:=by
  rw[hks,UY]
  refine ⟨hI.nd,(List.nodup_range).filter _,fun a ha b hb e=>?_⟩
  subst e
  exact hdis a ha (by simpa using (UQ.1 hb).2)
 simp (disch:=omega) only [↓wr,seval,wq,ah,ag,ak,aa,ab,af,ai,ae,rW,t2,t5,t6,t7,t8,t51,t52,t53]
 refine av.dec (fun hc5=>?_) (fun hc5=>?_)
 ·have hR:g.rules[k]?=some (aB g k):=by unfold aB; exact getD_some (by omega)
  have hkl2:∀ q∈ks2,q < g.rules.length:=fun q hq=>by
   rw[hks] at hq
   rcases Uy.1 hq with h | h
   ·exact hI.kl q h
   ·have:=UR.1 (UQ.1 h).1; omega
  have hl2:=xJ hnd2 hkl2
  have hstep:ks ++ (List.range (k+1)).filter (fun (q:Nat)=>decide ((aB g q).left=n))=if (aB g k).left=n then ks2 ++ [k] else ks2:=by
   rw[U4,Vq,← UL,← hks]
   by_cases e:(aB g k).left=n <;> simp[e]
  generalize aB g k=R at hR hstep
  simp (disch:=omega) only [↓wr,seval,wq,ah,ag,ak,aa,ab,af,ai,ae,t2,t5,t6,t7,t8,t51,t52,t53,T8,hR,Ue,aP]
  intro q hq
  rw[set_set]
  have hqq:(H5.set q (.arr 3 [[gi R.left,encI R.right,gi R.prec]])) q=.arr 3 [[gi R.left,encI R.right,gi R.prec]]:=by simp[View.set]
  have hqH:∀ id,H id≠.dead→id≠q:=fun id hid e=>by
   have:=(f5 id hid).1
   rw[e,hq] at this
   exact hid (by rw[e]; exact this.symm)
  have o6:=o5.fresh (o:=.arr 3 [[gi R.left,encI R.right,gi R.prec]]) hq
  have f6:dx H (H5.set q (.arr 3 [[gi R.left,encI R.right,gi R.prec]])) r2:=fun id hid=>⟨by simp only[View.set]; rw[T6 (hqH id hid)]; exact (f5 id hid).1,(f5 id hid).2⟩
  have g6:dx H (H5.set q (.arr 3 [[gi R.left,encI R.right,gi R.prec]])) su:=fun id hid=>⟨by simp only[View.set]; rw[T6 (hqH id hid)]; exact (g5 id hid).1,(g5 id hid).2⟩
  generalize H5.set q (.arr 3 [[gi R.left,encI R.right,gi R.prec]])=H6 at hqq o6 f6 g6
  clear o5 f5 g5 hq hqH
  simp (disch:=omega) only [↓wr,seval,wq,ah,ag,ak,aa,ab,af,ai,ae,t2,t5,t6,t7,t8,hqq,hn]
  refine ⟨rfl,?_⟩
  refine av.eq (fun he=>?_) (fun he=>?_)
  ·simp (disch:=omega) only [↓wr,seval,wq,ah,ag,ak,aa,ab,af,ai,ae,t2,t5,t6,t7,t8]
   intro q2 hq2
   simp (disch:=omega) only [↓wr,seval,wq,ah,ag,ak,aa,ab,af,ai,ae,cb]
   have hqH2:∀ id,H id≠.dead→id≠q2:=fun id hid e=>by
    have:=(f6 id hid).1
    rw[e,hq2] at this
    exact hid (by rw[e]; exact this.symm)
   refine c6 (o6.fresh hq2) (by simp[aX]) (by unfold aK; rw[bF]; simp[dD]; omega) (by unfold aK; rw[bF]; simp[dD]; omega) ?_
   intro r3 H7 o7 l7
   simp (disch:=omega) only [↓wr,seval,wq,ah,ag,ak,aa,ab,af,ai,ae,t2,t6,t7,t8,t51,t52,t53]
   rw[T9 he] at hstep
   have f7:∀ v,dx H H6 v→(∀ id,owner v=some id→owner r2≠some id∧owner r3≠some id)→dx H H7 v:=fun v hv hvo id hid=>by
    obtain ⟨e1,e2⟩:=hv id hid
    obtain ⟨k1,k2⟩:=l7 id (by simp only[View.set]; rw[T6 (hqH2 id hid),e1]; exact hid) (f6 id hid).2
    refine ⟨?_,e2⟩
    rw[k1]
    simp only[View.set]
    rw[T6 (hqH2 id hid),e1]
   have f8:dx H H7 r3:=fun id hid=>by
    obtain ⟨e1,e2⟩:=f6 id hid
    obtain ⟨k1,k2⟩:=l7 id (by simp only[View.set]; rw[T6 (hqH2 id hid),e1]; exact hid) e2
    refine ⟨?_,k2⟩
    rw[k1]
    simp only[View.set]
    rw[T6 (hqH2 id hid),e1]
   refine aN hk (by omega) ⟨r3,ks2 ++ [k],hstep.symm,?_,f8,fun id hid=>⟨(f8 id hid).1,(g6 id hid).2⟩,t2,rfl,t6,t7,t8,t51,t52,rfl⟩
   have e1:aS (l ++ dD (ks2 ++ [k]))=aS (l ++ dD ks2) ++ [[gi k,gi 0]]:=by simp[aS,dD,bK]
   rw[e1]
   exact o7
  ·simp (disch:=omega) only [↓wr,seval,wq,ah,ag,ak,aa,ab,af,ai,ae,t2,t5,t6,t7,t8,t51,t52,t53]
   rw[T6 he] at hstep
   exact aN hk (by omega) ⟨r2,ks2,hstep.symm,o6,f6,g6,t2,t5,t6,t7,t8,t51,t52,rfl⟩
 ·have hke:k=g.rules.length:=by omega
  subst hke
  simp (disch:=omega) only [↓wr,seval,wq,ah,ag,ak,aa,ab,af,ai,ae,t2,t5,t6,t7]
  have hmem:∀ q,q∈ks2↔q∈ks∨(q < g.rules.length∧(aB g q).left=n):=fun q=>by
   rw[hks,Uy,UQ,UR,Ul]
  have hRD:∀ (q:Nat) (R:aW),g.rules[q]?=some R→aB g q=R:=fun q R h=>by
   unfold aB
   rw[Uq,T0,h]; rfl
  have hpre:∀ (j:Nat),j≤i→(l ++ dD ks2)[j]?=(l ++ dD ks)[j]?:=fun j hj=>by
   rw[hks,dD,UA,← UL]
   exact Us (by simp only[dD] at hc; omega)
  refine ⟨l.length+g.rules.length - (i+1),by omega,i+1,r2,su,ks2,seen.set n true,rfl,⟨o5,f5,g5,hnd2,fun q hq=>?_,by rw[List.length_set]; exact hI.sl,fun m q R h3 h4 h5=>?_,fun q R h3 h4=>?_,fun y hy=>?_,fun j y t hj hy hn2 h0=>?_,?_⟩,t2,t5,t6,rfl⟩
  ·rcases (hmem q).1 hq with h | h
   ·exact hI.kl q h
   ·exact h.1
  ·rw[hsg] at h3
   split at h3
   ·rename_i e
    subst e
    exact (hmem q).2 (.inr ⟨(Uj.1 h4).1,by rw[hRD q R h4]; exact h5⟩)
   ·exact (hmem q).2 (.inl (hI.s1 m q R h3 h4 h5))
  ·rw[hsg]
   rcases (hmem q).1 h3 with h | h
   ·split
    ·rfl
    ·exact hI.s2 q R h h4
   ·rw[hRD q R h4] at h
    rw[h.2,Uq,T9 rfl]
  ·rcases Uy.1 hy with h | h
   ·exact hI.cl y (Vz _ h)
   ·obtain ⟨q,hq,rfl⟩:=Ur.1 h
    rcases (hmem q).1 hq with h | h
    ·exact hI.cl _ (VC _ (Ur.2 ⟨q,h,rfl⟩))
    ·have hR:g.rules[q]?=some (aB g q):=by unfold aB; exact getD_some h.1
     exact .step hxC hny (by omega) hR (by rw[h.2,hn])
  ·rw[hpre j (by omega)] at hy
   rw[hsg]
   rcases Uv j i with q | q
   ·split
    ·rfl
    ·exact hI.dn j y t q hy hn2 h0
   ·have:j=i:=by omega
    subst this
    rw[hx] at hy
    simp only[T7] at hy
    subst hy
    rw[hny] at hn2
    simp only[Ua,and_true] at hn2
    subst hn2
    rw[hnn,T9 rfl]
  ·rw[hks,dD,UA,← UL,UX]
   simp only[dD] at hc
   omega
theorem DO {α:Type} (p:α→Bool):∀ (l:List α) (i:Int),0≤i→cB p l i = -1→∀ x∈l,p x=false
 | [],_,_,_=>by simp
 | x :: l,i,h0,h=>by
  rw[cB] at h
  split at h
  ·omega
  ·rename_i hp
   intro y hy
   rcases Uk.1 hy with rfl | hy
   ·simpa using hp
   ·exact DO p l (i+1) (by omega) h y hy
theorem E0 {α:Type} (p:α→Bool):∀ (l:List α) (i:Int),0≤i→cB p l i = -1∨∃ (k:Nat) (x:α),cB p l i=i+k∧l[k]?=some x∧p x=true∧∀ y∈l.take k,p y=false
 | [],_,_=>.inl rfl
 | x :: l,i,h0=>by
  rw[cB]
  split
  ·rename_i hp
   exact .inr ⟨0,x,by simp,rfl,hp,by simp⟩
  ·rename_i hp
   rcases E0 p l (i+1) (by omega) with h | ⟨k,y,h1,h2,h3,h4⟩
   ·exact .inl h
   ·refine .inr ⟨k+1,y,by rw[h1]; push_cast; omega,by simpa using h2,h3,fun z hz=>?_⟩
    rw[VJ] at hz
    rcases Uk.1 hz with rfl | hz
    ·simpa using hp
    ·exact h4 z hz
def w6:SF:=⟨.seq (ao [bj 6 0]) <|
 .seq (ao [aj 10 0,fZ 11 10,aD 12 4 11,ay 13 12,aj 14 1,aj 15 2,((some 16),.op (.cw 1 1 [(.val (.int .i64 0))] [(0,(.tmp 15))])),bD 17 28 [13,14,16],aj 9 17,gP 18 0 9,gP 19 1 9,aj 7 18,aj 8 19]) <|
 .seq (ao [aj 20 7,aj 6 20]) <|
 .ret,
 [.tmp 6],21⟩
theorem Aq:aU Tryz.prog 119 []=some w6:=by kernel_rfl
def qg:SF:=⟨.seq (ao [bH 3 false]) <|
 .seq (.region false [⟨none,[aj 4 0,aQ 5 .geq 4 0,aj 6 5]⟩,⟨(some (6,false)),[ay 7 1,fZ 8 7,aD 9 5 8,ay 10 9,aj 11 0,((some 12),.op (.arith .sub (.val (.val (.int .i64 (-1)))) (.tmp 11))),aR 13 1 10 12,ay 14 13,dp 15 14]⟩,⟨none,[cU 16 6 15,aj 3 16]⟩]) <|
 .ret,
 [.tmp 3],17⟩
theorem uJ:aU Tryz.prog 172 []=some qg:=by kernel_rfl
def sO:SF:=⟨.seq (ao [cO 2 0,bH 4 false]) <|
 .seq (ao [aj 5 1,((some 6),.op (.sL 172 [] [(.tmp 2)])),bD 7 91 [5,6],dp 8 7,aj 4 8]) <|
 .ret,
 [.tmp 4],9⟩
theorem xt:aU Tryz.prog 121 [2]=some sO:=by kernel_rfl
def AX:SC :=
 .seq (ao [bg 8 .lss 7 6]) <|
 .seq (.cond (.tmp 8) (.skip) (.exit 0)) <|
 .seq (.block 1 (.seq (ao [aR 9 1 5 7,ay 10 9,aj 4 10]) <|
 ao [aj 11 2,aj 12 4,bD 13 124 [12],bg 14 .or 11 13,aj 2 14])) <|
 ao [aQ 15 .add 7 1,aj 7 15]
def HD:SF:=⟨.seq (ao [((some 2),.op (.bP (.val (.val (.int .u32 0)))))]) <|
 .seq (.seq (ao [aj 5 0,aV 6 5,bj 7 0]) <|
 .block 0 (.loop AX)) <|
 .seq (ao [aj 16 2,aj 2 16]) <|
 .ret,
 [.tmp 2],17⟩
theorem Is:aU Tryz.prog 120 []=some HD:=by kernel_rfl
theorem Fs {H:View} {W:Nat} {f0 f1 f2 f3 f5 f6 f7 f8 f9:V} {a:List aT} (hW:H W=.arr 10 [[f0,f1,f2,f3,bO a,f5,f6,f7,f8,f9]]) (ha:aY a) (he:∀ s∈a,aY s.bm∧∀ e∈s.bm,cp e.sym∧cp e.to) (st sym:Int) :
  aC Tryz.prog 119 [.ptr W 0 0,gi st,gi sym] H fun r H'=>r=gi (jY a st [sym]).1∧∀ id,H id≠.dead→H' id=H id:=by
 refine aC.of mixed Aq ?_
 simp (disch:=omega) only [↓wr,seval,wq,ah,ag,ak,aa,ab,af,ai,ae,w6,hW]
 intro q hq
 have hw:=Pd a ha he st [sym] (by unfold aY; simp)
 refine aE.AD hw (by kernel_rfl) (.bE _ fun i hi=>by
  match i,hi with
  | 0,_=>exact ⟨_,rfl⟩
  | 1,_=>exact ⟨_,rfl⟩) ⟨.tree (uh a),.tree (.val _),eA.Pm (l:=[sym]) (.inr ⟨q,rfl,by simp[View.set]⟩),trivial⟩ ?_
 simp (disch:=omega) only [↓wr,seval,wq,ah,ag,ak,aa,ab,af,ai,ae]
 intro id hid
 rw[T6 (fun e=>hid (by rw[e]; exact hq))]
set_option maxHeartbeats 2000000 in
theorem MP (l:List Int) (hl:aY l) (f:FuncId) (cap:List V) (p:Int→Bool) (H:View) (hf:∀ x∈l,aC Tryz.prog f (gi x :: cap) H fun r H'=>r=gb (p x)∧H'=H) :
  aC Tryz.prog 133 [encI l,.fn f [] cap] H fun r H'=>r=gi (cB p l 0)∧H'=H:=by
 refine aC.of mixed ir ?_
 unfold aY at hl
 simp (disch:=omega) only [↓wr,seval,wq,ah,ag,ak,aa,ab,af,ai,ae,fO,encI]
 refine bc.up l.length (fun i T H'=>H=H'∧cB p (l.drop i) i=cB p l 0∧T 0=encI l∧T 1=.fn f [] cap∧T 7=gi l.length∧T 8=gi i) ⟨rfl,rfl,rfl,rfl,rfl,rfl⟩ ?_
 rintro i k T _ hk ⟨rfl,hi,h0,h1,h7,h8⟩
 simp (disch:=omega) only [↓wr,seval,wq,ah,ag,ak,aa,ab,af,ai,ae,fk,h0,h1,h7,h8]
 refine av.dec (fun hc=>?_) (fun hc=>?_)
 ·have hg:l[i]?=some (l[i]'(by omega)):=T4 (by omega)
  have hm:l[i]'(by omega)∈l:=Ud _
  rw[eM (show i < l.length by omega)] at hi
  generalize l[i]'(by omega)=x at hg hm hi
  simp (disch:=omega) only [↓wr,seval,wq,ah,ag,ak,aa,ab,af,ai,ae,h0,h1,h7,h8,encI,T8,hg,Ue]
  refine aE.ez ((hf x hm).mono ?_)
  rintro r H2 ⟨rfl,rfl⟩
  simp only[cB] at hi
  simp (disch:=omega) only [↓wr,seval,wq,ah,ag,ak,aa,ab,af,ai,ae]
  refine av.split (fun hp=>?_) (fun hp=>?_)
  ·simp (disch:=omega) only [↓wr,seval,wq,ah,ag,ak,aa,ab,af,ai,ae,h0,h1,h7,h8]
   rw[← hi,T9 hp]
  ·simp (disch:=omega) only [↓wr,seval,wq,ah,ag,ak,aa,ab,af,ai,ae,h0,h1,h7,h8]
   refine aN hk (by omega) ⟨rfl,?_,h0,h1,h7,rfl⟩
   rw[T6 (by simp[hp])] at hi
   push_cast; exact hi
 ·rw[UB (by omega)] at hi
  simp (disch:=omega) only [↓wr,seval,wq,ah,ag,ak,aa,ab,af,ai,ae,h0,h1,h7,h8]
  rw[← hi]; rfl
theorem F4 (l:List Int) (hl:aY l) (f:FuncId) (cap:List V) (p:Int→Bool) (H:View) (hf:∀ x∈l,aC Tryz.prog f (gi x :: cap) H fun r H'=>r=gb (p x)∧H'=H) :
  aC Tryz.prog 91 [encI l,.fn f [] cap] H fun r H'=>r=gb (l.any p)∧H'=H:=by
 refine aC.of mixed gJ ?_
 simp (disch:=omega) only [↓wr,seval,wq,ah,ag,ak,aa,ab,af,ai,ae,fc]
 refine aE.ez ((MP l hl f cap p H hf).mono ?_)
 rintro r H2 ⟨rfl,rfl⟩
 simp (disch:=omega) only [↓wr,seval,wq,ah,ag,ak,aa,ab,af,ai,ae]
 rw[← se p l 0 (Int.le_refl _)]
theorem Nq {H:View} {W:Nat} {f0 f1 f2 f3 f4 f6 f7 f8 f9:V} {null:List Bool} (hW:H W=.arr 10 [[f0,f1,f2,f3,f4,bI null,f6,f7,f8,f9]]) (s:Int) (hs:cp s∧(s < 0→-1 - s < null.length)) :
  aC Tryz.prog 172 [gi s,.aO [.ptr W 0 0] 0] H fun r H'=>r=gb (!(if 0≤s then false else null.getD (-1 - s).toNat false))∧H'=H:=by
 obtain ⟨hs1,hs2⟩:=hs
 unfold cp at hs1
 refine aC.of mixed uJ ?_
 simp (disch:=omega) only [↓wr,seval,wq,ah,ag,ak,aa,ab,af,ai,ae,qg]
 refine av.dec (fun h0=>?_) (fun h0=>?_)
 ·simp (disch:=omega) only [↓wr,seval,wq,ah,ag,ak,aa,ab,af,ai,ae]
  rw[T9 h0]; rfl
 ·have hn:null[(-1 - s).toNat]?=some (null.getD (-1 - s).toNat false):=getD_some (by have:=hs2 (by omega); omega)
  generalize null.getD (-1 - s).toNat false=b at hn ⊢
  simp (disch:=omega) only [↓wr,seval,wq,ah,ag,ak,aa,ab,af,ai,ae,hW,bI,T8,hn,Ue]
  rw[T6 h0]
theorem O1 {H:View} {W:Nat} {f0 f1 f2 f3 f4 f6 f7 f8 f9:V} {null:List Bool} (hW:H W=.arr 10 [[f0,f1,f2,f3,f4,bI null,f6,f7,f8,f9]]) (l:List Int) (hl:aY l) (hs:∀ s∈l,cp s∧(s < 0→-1 - s < null.length)) :
  aC Tryz.prog 121 [.ptr W 0 0,encI l] H fun r H'=>r=gb (cz l null false)∧H'=H:=by
 refine aC.of mixed xt ?_
 simp (disch:=omega) only [↓wr,seval,wq,ah,ag,ak,aa,ab,af,ai,ae,sO]
 refine aE.ez ((F4 l hl 172 [.aO [.ptr W 0 0] 0] (fun s=>!(if 0≤s then false else null.getD (-1 - s).toNat false)) H (fun s h=>Nq hW s (hs s h))).mono ?_)
 rintro r H2 ⟨rfl,rfl⟩
 simp (disch:=omega) only [↓wr,seval,wq,ah,ag,ak,aa,ab,af,ai,ae]
 rw[cz,List.not_any_eq_all_not]
 simp
theorem D7 (t:Int):aG Tryz.prog 120 [encI [t]] (gw (eo t)):=by
 refine aG.val (by intro v hv; simp at hv; subst hv; exact fM _) fun H=>?_
 refine aC.of mixed Is ?_
 simp (disch:=omega) only [↓wr,seval,wq,ah,ag,ak,aa,ab,af,ai,ae,HD,encI]
 refine bc.up 1 (fun i T H'=>T 2=gw (if i=0 then 0 else eo t)∧T 5=encI [t]∧T 6=gi 1∧T 7=gi i) ⟨rfl,rfl,rfl,rfl⟩ ?_
 rintro i k T H' hk ⟨t2,t5,t6,t7⟩
 simp (disch:=omega) only [↓wr,seval,wq,ah,ag,ak,aa,ab,af,ai,ae,AX,t2,t5,t6,t7]
 refine av.dec (fun hc=>?_) (fun hc=>?_)
 ·have hi:i=0:=by omega
  subst hi
  simp (disch:=omega) only [↓wr,seval,wq,ah,ag,ak,aa,ab,af,ai,ae,t2,t5,t6,t7,encI,show ([[gi t]]:List (List V))[0]?=some [gi t] from rfl]
  refine aE.pure (NB t) (by kernel_rfl) ?_
  simp (disch:=omega) only [↓wr,↓reduceIte,wq,ah,ag,ak,aa,ab,af,ai,ae,Nat.reduceEqDiff,Nat.reduceAdd,Nat.reduceLT,Nat.reduceLeDiff,Int.reduceNeg,Int.reduceToNat,reduceCtorEq,t2,t5,t6,t7,qO]
  exact aN hk (by omega) ⟨by show gw ((0:BV) ||| eo t)=gw (eo t); rw[show ((0:BV) ||| eo t)=eo t by simp],t5,t6,rfl⟩
 ·have hi:i≠0:=by omega
  rw[T6 hi] at t2
  simp (disch:=omega) only [↓wr,seval,wq,ah,ag,ak,aa,ab,af,ai,ae,t2]
section
variable {κ:Type} [BEq κ] [LawfulBEq κ] {kv:κ→V} {P:Program} {T:Env} {H:View} {kt et t ty:TypeId}
theorem Tf {K:V→View→Prop} {w:cE (T,H,K)} {x i y:Operand} {id c:Nat} {m:bV κ} {k:κ} {v:V} (hm:dz P t=some (kt,et)) (hk:G6 P kt kv)
  (hx:ev T x=.mp id) (hi:ev T i=kv k) (hy:ev T y=v) (hH:H id=.map (bN kv m) c) (hb:gv m c)
  (h:∀ c',gv (bJ k v c m) c'→K .any (H.set id (.map (bN kv (bJ k v c m)) c'))):kb P (.mapUpdate t x i y) ty T H K w:=by
 intro n _
 have hf:=hk.find k false m
 have hg:=mE (kv:=kv) k m
 cases hj:gF k m with
 | some j =>
  rw[hj] at hg hf
  obtain ⟨z,h1,h2,h3,h4,h5,h6⟩:=hg
  refine ⟨.any,.eW id (.map ((bN kv m).set j (kv k,v,z.2.2)) c),[id],?_,?_⟩
  ·simp only[sI,cm,oper,eZ,hm,hx,hi,hy,hH,hf,h5,hk.same k,if_true]
  ·rw[(h6 v c).1]; exact h c (hb.Po h4 v c)
 | none =>
  rw[hj] at hg hf
  refine ⟨.any,.eW id (.map (bN kv m ++ [(kv k,v,c)]) (c+1)),[id],?_,?_⟩
  ·simp only[sI,cm,oper,eZ,hm,hx,hi,hy,hH,hf]
  ·rw[(hg.2.2 v c).1]; exact h (c+1) (hb.put k v)
end
def eK (x:Int × Int):V:=.agg [.val (.int .i64 x.1),.val (.int .i64 x.2)]
def pE (x:Int × Int):Value:=.agg #[.int .i64 x.1,.int .i64 x.2]
theorem CO (x:Int × Int):dh (eK x)=some (pE x):=rfl
theorem D9:∀ m:bV (Int × Int),hX (bN eK m)=some (m.map fun x=>{ key:=pE x.1,val:=.nilFunc,born:=x.2.2 })
 | []=>rfl
 | x :: r=>by
  have:=D9 r
  simp only[bN] at this
  simp[bN,hX,CO,this]
structure OE (P:Program) (kt:TypeId):Prop where
 ty:∃ f0 f1:Field,P.underlying kt=some (.struct #[f0,f1])∧f0.name≠ "_" ∧ f1.name≠ "_" ∧ P.underlying f0.type=some (.int .i64)∧P.underlying f1.type=some (.int .i64)∧f0.offset=0∧f1.offset=1
 held:P.stoodInHeld kt=false
theorem zr {P:Program} {kt:TypeId} (h:OE P kt):G6 P kt eK where
 same:=fun k=>by simp[sameKey,CO,pE,Instr.sameBits]
 find:=by
  obtain ⟨f0,f1,hu,n0,n1,u0,u1,o0,o1⟩:=h.ty
  have heq:∀ a b:Int × Int,bG P (Op.equal kt (pE a) (pE b))=some (a == b):=by
   intro a b
   have hf:gh P 9998 #[.int .i64 a.1,.int .i64 a.2] #[.int .i64 b.1,.int .i64 b.2] [f0,f1] ((a.1 == b.1) && ((a.2 == b.2) && true)) :=
    .int f0 _ _ .i64 _ _ n0 u0 (by rw[o0]; rfl) (by rw[o0]; rfl) (.int f1 _ _ .i64 _ _ n1 u1 (by rw[o1]; rfl) (by rw[o1]; rfl) .nil)
   rw[pE,pE,r0 hu h.held hf]
   congr 1
   rw[Vc]
   simp only[Uh,Va,and_true]
   cases a; cases b; simp
  have hask:∀ (k:Int × Int) (m:bV (Int × Int)) (i:Nat),bG P (Instr.findAsking kt (pE k) (m.map fun x=>{ key:=pE x.1,val:=.nilFunc,born:=x.2.2 }) i)=some ((gF k m).map fun j=>(i+j,.nilFunc)):=by
   intro k m
   induction m with
   | nil=>intro i; rfl
   | cons x r ih =>
    intro i
    simp only[Uz,Instr.findAsking,bw,heq,UK,gF]
    cases hk:k == x.1 with
    | true=>simp[xx]
    | false =>
     simp only[Ut,if_false,ih (i+1),Option.map_map]
     congr 2
     funext j
     simp only[Function.comp]
     congr 1
     omega
  have hint:∀ (e:Bool) (ft:TypeId) (v:Value),P.underlying ft=some (.int .i64)→bG P (Instr.checkKey e 9999 ft v)=some ():=fun e ft v hft=>wu hft trivial e 9998 v
  have hchk:∀ (k:Int × Int) (e:Bool),bG P (Instr.checkKey e 10000 kt (pE k))=some ():=by
   intro k e
   unfold Instr.checkKey pE
   rw[bw,dZ hu,UK]
   have p0:=je (P:=P) u0 (.inr ⟨_,rfl⟩) #[.int .i64 k.1,.int .i64 k.2] f0.offset (v:=.int .i64 k.1) (by rw[o0]; rfl)
   have p1:=je (P:=P) u1 (.inr ⟨_,rfl⟩) #[.int .i64 k.1,.int .i64 k.2] f1.offset (v:=.int .i64 k.2) (by rw[o1]; rfl)
   simp only[← Array.forIn_toList,List.forIn_cons,List.forIn_nil,T9 n0,T9 n1,bw,p0,p1,hint e _ _ u0,hint e _ _ u1,UK,xx]
  intro k e m
  have hu':bG P (underlying kt)=some _:=dZ hu
  simp only[mb,CO,D9,bw,hchk,UK]
  have:bG P (Instr.findKey kt (pE k) (m.map fun x=>{ key:=pE x.1,val:=.nilFunc,born:=x.2.2 }))=some ((gF k m).map fun j=>(0+j,.nilFunc)):=by
   unfold Instr.findKey
   rw[bw,hu',UK]
   cases m with
   | nil=>rfl
   | cons x r=>exact hask k (x :: r) 0
  rw[this]
  cases gF k m with
  | none=>rfl
  | some j=>simp
def uA:SC :=
 .seq (ao [bg 29 .lss 28 27]) <|
 .seq (.cond (.tmp 29) (.skip) (.exit 2)) <|
 .seq (.block 3 (.seq (ao [aR 30 2 26 28,bp 31 2 30,((some 9),.op (.alloc [(.val (.int .i64 0)),(.val (.int .i64 0))])),(none,.op (.store 2 (.tmp 9) (.tmp 31)))]) <|
 .seq (ao [aD 32 0 9,ay 33 32,aQ 34 .lss 33 0]) <|
 .cond (.tmp 34) (.seq (ao [aj 35 6,aD 36 0 9,ay 37 36,((some 38),.op (.arith .sub (.val (.val (.int .i64 (-1)))) (.tmp 37))),((some 39),.op (.build [(.val (.int .i64 0)),(.val (.int .i64 0))] [(0,1,(.tmp 35)),(1,1,(.tmp 38))])),((some 10),.op (.alloc [(.val (.int .i64 0)),(.val (.int .i64 0))])),(none,.op (.store 2 (.tmp 10) (.tmp 39)))]) <|
 .seq (ao [aj 40 5,fZ 41 40,aD 42 6 41,ay 43 42,bp 44 2 10,aj 45 5,fZ 46 45,aD 47 7 46,ay 48 47,aV 49 48,(none,.op (.old (.mapUpdate 110 (.tmp 43) (.tmp 44) (.tmp 49)) 0))]) <|
 ao [aj 50 5,aj 51 5,fZ 52 51,aD 53 7 52,ay 54 53,bp 55 2 10,((some 56),.op (.cw 1 2 [(.val (.int .i64 0)),(.val (.int .i64 0))] [(0,(.tmp 55))])),((some 57),.op (.app 2 16 (.tmp 54) (.tmp 56))),fZ 58 50,aD 59 7 58,(none,.op (.store 1 (.tmp 59) (.tmp 57)))]) (.skip))) <|
 ao [aQ 60 .add 28 1,aj 28 60]
def uI:SC :=
 .seq (ao [bg 21 .lss 20 19]) <|
 .seq (.cond (.tmp 21) (.skip) (.exit 0)) <|
 .seq (.block 1 (.seq (ao [aj 22 20,aR 23 2 18 20,bp 24 2 23,((some 7),.op (.alloc [(.emp 1),(.emp 1)])),aj 6 22,(none,.op (.store 2 (.tmp 7) (.tmp 24)))]) <|
 .seq (ao [aD 25 1 7,ay 26 25,aV 27 26,bj 28 0]) <|
 .block 2 (.loop uA))) <|
 ao [aQ 61 .add 20 1,aj 20 61]
def yh:SF:=⟨.seq (ao [cO 2 0,((some 4),.op (.bP (.val (.val (.pointer none)))))]) <|
 .seq (.region true [⟨none,[bp 11 4 2,aj 12 1,bp 13 4 2,bD 14 118 [13],((some 15),.op (.nR)),((some 16),.op (.build [(.emp 1),(.emp 1),(.emp 1),(.val (.int .i64 0)),(.emp 1),(.emp 1),(.val (.map none)),(.emp 1),(.emp 1),(.emp 1)] [(0,4,(.tmp 11)),(4,1,(.tmp 12)),(5,1,(.tmp 14)),(6,1,(.tmp 15))])),((some 17),.op (.box (.tmp 16))),aj 5 17]⟩]) <|
 .seq (.seq (ao [aj 18 1,aV 19 18,bj 20 0]) <|
 .block 0 (.loop uI)) <|
 .seq (ao [aj 62 5,aj 63 5,fZ 64 63,aD 65 7 64,ay 66 65,aV 67 66,((some 68),.op (.make 1 4 [(.val (.int .u32 0))] (.tmp 67) (.tmp 67))),fZ 69 62,aD 70 8 69,(none,.op (.store 1 (.tmp 70) (.tmp 68)))]) <|
 .seq (ao [aj 71 5,aj 72 5,fZ 73 72,aD 74 7 73,ay 75 74,aV 76 75,((some 77),.op (.make 1 24 [(.emp 1)] (.tmp 76) (.tmp 76))),fZ 78 71,aD 79 9 78,(none,.op (.store 1 (.tmp 79) (.tmp 77)))]) <|
 .seq (ao [aj 80 5,aj 4 80]) <|
 .ret,
 [.tmp 4],81⟩
theorem Ce:aU Tryz.prog 72 [2]=some yh:=by kernel_rfl
theorem wv:OE Tryz.prog 116 :=
 ⟨⟨⟨ "state",3,0,false,"","gerund/look",0⟩,⟨ "non",3,1,false,"","gerund/look",8⟩,by kernel_rfl,by decide,by decide,Tryz.underlying3,Tryz.underlying3,rfl,rfl⟩,by kernel_rfl⟩
def jk (i:Nat) (l:List dC):List (Int × Int):=(l.filter fun e=>decide (e.sym < 0)).map fun e=>((i:Int),-1 - e.sym)
def j4 (a:List aT) (n:Nat):List (Int × Int):=(List.range n).flatMap fun i=>jk i (a.getD i bz).bm
abbrev ba (a:List aT):List (Int × Int):=j4 a a.length
theorem vD (a:List aT) (n:Nat):j4 a (n+1)=j4 a n ++ jk n (a.getD n bz).bm:=by
 unfold j4
 rw[U4,List.flatMap_append]; simp
theorem Ph {i j:Nat} {l:List dC} {e:dC} (h:l[j]?=some e):jk i (l.take (j+1))=if e.sym < 0 then jk i (l.take j) ++ [((i:Int),-1 - e.sym)] else jk i (l.take j):=by
 unfold jk
 rw[DD h]
 by_cases he:e.sym < 0
 ·simp[he]
 ·simp[he]
theorem Qr {a:List aT} : ∀ {n m:Nat},n≤m→j4 a n <+: j4 a m:=fun {n m} h=>by
 induction h with
 | refl=>exact List.prefix_refl _
 | step _ ih=>rw[vD]; exact ih.trans (List.prefix_append _ _)
theorem IB (i:Nat) (l:List dC):(jk i l).length≤l.length:=by
 unfold jk; rw[Uc]; exact UW _ _
theorem ll {a:List aT} (h:∀ s∈a,s.bm.length≤40):∀ n,(j4 a n).length≤40 * n
 | 0=>by simp[j4]
 | n+1=>by
  have ih:=ll h n
  rw[vD,UX]
  have h1:=IB n (a.getD n bz).bm
  have h2:(a.getD n bz).bm.length≤40:=by
   rcases Uv n a.length with q | q
   ·exact h _ (Ub (getD_some q))
   ·rw[T0,UF q]; simp[bz]
  omega
abbrev mf (ws:List (Int × Int)):List (List V):=ws.map fun x=>[gi x.1,gi x.2]
def FH (ws:List (Int × Int)) (M:bV (Int × Int)):Prop:=∀ (k:Nat) (x:Int × Int),ws[k]?=some x→getM M x=some (gi k)
theorem FH.put {ws:List (Int × Int)} {M:bV (Int × Int)} (h:FH ws M) {x:Int × Int} (hx:x ∉ ws) (c:Nat):FH (ws ++ [x]) (bJ x (gi ws.length) c M):=fun k y hy=>by
 rw[pA]
 by_cases hk:k < ws.length
 ·rw[Us hk] at hy
  have hne:(y == x)=false:=beq_eq_false_iff_ne.2 fun e=>hx (e ▸ Ub hy)
  rw[hne]
  exact h k y hy
 ·rw[UH (by omega)] at hy
  have:k - ws.length=0:=by
   rcases Nat.eq_zero_or_pos (k - ws.length) with q | q
   ·exact q
   ·rw[UF (by simp; omega)] at hy; simp at hy
  rw[this] at hy
  simp at hy
  subst hy
  rw[Vy,T9 rfl,show k=ws.length by omega]
abbrev iB (A:List (V × List Nat)):List cF:=A.map fun x=>(x.1,1,fa x.2)
structure cR (g:aw) (a:List aT) (H:View) (W qn cM:Nat) (M:bV (Int × Int)) (uw:V) (s e:Nat) (ws:List (Int × Int)) (Sl:List BV) (A:List (V × List Nat)) (L:List cF):Prop where
 own:bt H ((.sl W 0 1 10,10,[[.aL (g.az.map cg),.aL (g.ax.map fun s=>[gs s]),.aL (g.rules.map aP),gi g.start,bO a,bI (aA g false),.mp qn,uw,.sl s 0 ws.length 1,.sl e 0 ws.length 1]]) :: (uw,2,mf ws) :: (.sl s 0 ws.length 1,1,bY Sl) :: (.sl e 0 ws.length 1,1,bU A) :: (iB A ++ L))
 mp:H qn=.map (bN eK M) cM
 bo:gv M cM
 num:FH ws M
 sl:Sl.length=ws.length
 al:A.length=ws.length
def J5 (g:aw) (a:List aT) (H:View) (W qn:Nat) (ws:List (Int × Int)):Prop:=∃ (uw:V) (cM:Nat) (M:bV (Int × Int)),
 bt H [(.sl W 0 1 10,10,[[.aL (g.az.map cg),.aL (g.ax.map fun s=>[gs s]),.aL (g.rules.map aP),gi g.start,bO a,bI (aA g false),.mp qn,uw,.emp 1,.emp 1]]),(uw,2,mf ws)]∧H qn=.map (bN eK M) cM∧gv M cM∧FH ws M
theorem J5.fresh {g:aw} {a:List aT} {H:View} {W qn:Nat} {ws:List (Int × Int)} (h:J5 g a H W qn ws) {q:Nat} (hq:H q=.dead) {o:dy} : J5 g a (H.set q o) W qn ws:=by
 obtain ⟨uw,cM,M,h1,h2,h3,h4⟩:=h
 refine ⟨uw,cM,M,h1.fresh hq,?_,h3,h4⟩
 simp only[View.set]; rw[T6 (fun e=>by rw[e,hq] at h2; simp at h2)]; exact h2
theorem bt.Pu {H:View} {L:List cF} (h:bt H L):∀ n:Nat,bt H (L ++ iB (List.replicate n (.emp 1,[])))
 | 0=>by simpa using h
 | n+1=>by
  have ih:=(bt.Pu h n).emp (k:=1) (sz:=1)
  rw[List.replicate_succ,iB,Uz]
  exact ih.perm UZ.symm
set_option maxHeartbeats 16000000 in
theorem Pc (g:aw) (hg:g.Ok) (hsm:g.Small) (a:List aT) (ha:a.length≤300) (he:∀ s∈a,s.bm.length≤40∧∀ e∈s.bm,-1000≤e.sym∧e.sym≤1000) (hnd:(ba a).Nodup) (h1:1≤(ba a).length) (H:View) :
  aC Tryz.prog 72 [.agg (au g),bO a] H fun r H'=>∃ (W qn cM:Nat) (M:bV (Int × Int)) (uw:V) (s e:Nat),r=.ptr W 0 0∧cR g a H' W qn cM M uw s e (ba a) (List.replicate (ba a).length 0) (List.replicate (ba a).length (.emp 1,[])) []:=by
 refine aC.of mixed Ce ?_
 have hnl:=(yb g hg hsm).pure
 have hlen:=ll (fun s h=>(he s h).1)
 simp only[au,encS] at hnl
 simp (disch:=omega) only [↓wr,seval,wq,ah,ag,ak,aa,ab,af,ai,ae,yh,au,encS]
 refine aE.pure hnl (by kernel_rfl) ?_
 simp (disch:=omega) only [↓wr,seval,wq,ah,ag,ak,aa,ab,af,ai,ae,bO,bI]
 intro qn hqn W hW
 have hWq:W≠qn:=fun e=>by rw[T9 e] at hW; simp at hW
 rw[T6 hWq] at hW
 have hstart:J5 g a ((H.set qn (.map [] 0)).set W (.arr 10 [[.aL (g.az.map cg),.aL (g.ax.map fun s=>[gs s]),.aL (g.rules.map aP),gi g.start,bO a,bI (aA g false),.mp qn,.emp 1,.emp 1,.emp 1]])) W qn (j4 a 0):=by
  refine ⟨.emp 1,0,[],?_,by simp[View.set,Ne.symm hWq,bN],⟨by simp,by simp⟩,fun k x h=>by simp[j4] at h⟩
  exact ((bt.nil.emp (k:=1) (sz:=2)).fresh hqn).new (n:=W) (by simp[View.set,hWq,hW]) 10 [[.aL (g.az.map cg),.aL (g.ax.map fun s=>[gs s]),.aL (g.rules.map aP),gi g.start,bO a,bI (aA g false),.mp qn,.emp 1,.emp 1,.emp 1]]
 refine bc.up a.length (fun i T H'=>J5 g a H' W qn (j4 a i)∧T 5=.ptr W 0 0∧T 18=bO a∧T 19=gi a.length∧T 20=gi i) ⟨hstart,rfl,rfl,rfl,rfl⟩ ?_
 clear hstart hW hqn hWq
 rintro i k T H' hk ⟨hI,t5,t18,t19,t20⟩
 simp (disch:=omega) only [↓wr,seval,wq,ah,ag,ak,aa,ab,af,ai,ae,uI,t5,t18,t19,t20]
 refine av.dec (fun hc=>?_) (fun hc=>?_)
 rotate_left
 ·have hia:i=a.length:=by omega
  subst hia
  obtain ⟨uw,cM,M,hO,hMp,hBo,hNu⟩:=hI
  have hW0:=hO.is 0 rfl (by simp)
  have hul:cG uw=some (ba a).length:=by rw[hO.tail.head.len,Uc]
  have hnl2:(ba a).length≤40 * a.length:=hlen a.length
  have hucell:=hO.tail.head.cells
  have hucok:=hO.tail.head.jt
  have hQW:qn≠W:=fun e=>by rw[e,hW0] at hMp; simp at hMp
  have hWd:∀ q,H' q=.dead→W≠q:=fun q hq e=>by rw[e,hq] at hW0; simp at hW0
  simp (disch:=omega) only [↓wr,seval,wq,ah,ag,ak,aa,ab,af,ai,ae,t5,hW0,hul]
  refine ⟨⟨by omega,by unfold aK; omega,by unfold aK; omega⟩,fun h0=>by omega,fun _ s hs=>?_⟩
  have w1:=hWd s hs
  simp (disch:=omega) only [↓wr,seval,wq,ah,ag,ak,aa,ab,af,ai,ae,t5,hW0,hul,w1]
  refine ⟨⟨by omega,by unfold aK; omega,by unfold aK; omega⟩,fun h0=>by omega,fun _ e he0=>?_⟩
  obtain ⟨n1,he0⟩:=iq he0
  obtain ⟨n2,he0⟩:=iq he0
  simp (disch:=omega) only [↓wr,seval,wq,ah,ag,ak,aa,ab,af,ai,ae,t5,Ne.symm n1]
  have o1:=hO.new hs 1 (List.replicate (ba a).length [V.val (.int .u32 0)])
  have o2:=(o1.perm (.swap _ _ _)).put (es':=[[.aL (g.az.map cg),.aL (g.ax.map fun s=>[gs s]),.aL (g.rules.map aP),gi g.start,bO a,bI (aA g false),.mp qn,uw,.sl s 0 (ba a).length 1,.emp 1]]) rfl rfl
  have o3:=o2.new (n:=e) (by simp only[View.set]; rw[T6 n1,T6 n2]; exact he0) 1 (List.replicate (ba a).length [.emp 1])
  have o4:=(o3.perm (.swap _ _ _)).put (es':=[[.aL (g.az.map cg),.aL (g.ax.map fun s=>[gs s]),.aL (g.rules.map aP),gi g.start,bO a,bI (aA g false),.mp qn,uw,.sl s 0 (ba a).length 1,.sl e 0 (ba a).length 1]]) rfl rfl
  have o5:=(o4.perm (.cons _ (List.reverse_perm _).symm)).Pu (ba a).length
  have e1:List.replicate (ba a).length [V.val (.int .u32 0)]=bY (List.replicate (ba a).length 0#32):=by simp
  have e2:List.replicate (ba a).length [V.emp 1]=bU (List.replicate (ba a).length ((V.emp 1,[]):V × List Nat)):=by simp[bU]
  simp only[VT,List.reverse_cons,List.reverse_nil,Vb,UI] at o5
  refine ⟨W,qn,cM,M,uw,s,e,rfl,?_,?_,hBo,hNu,by simp,by simp⟩
  ·rw[← e1,← e2,VB]; exact o5
  ·simp only[View.set]
   rw[T6 hQW,T6 (fun h=>by rw[h,he0] at hMp; simp at hMp),T6 hQW,T6 (fun h=>by rw[h,hs] at hMp; simp at hMp)]
   exact hMp
 have hx:a[i]?=some (a.getD i bz):=getD_some (by omega)
 have hstep:=vD a i
 have hpre:=Qr (a:=a) (n:=i+1) (m:=a.length) (by omega)
 rw[hstep] at hpre
 generalize a.getD i bz=x at hx hstep hpre
 obtain ⟨hx1,hx2⟩:=he x (Ub hx)
 simp (disch:=omega) only [↓wr,seval,wq,ah,ag,ak,aa,ab,af,ai,ae,t5,t18,t19,t20,bO,T8,hx,Ue,j6]
 intro q1 hq1
 rw[set_set]
 have hI1:=hI.fresh hq1 (o:=.arr 2 [[.aL (aS x.bh),.aL (fW x.bm)]])
 generalize H'.set q1 (.arr 2 [[.aL (aS x.bh),.aL (fW x.bm)]])=H1 at hI1 ⊢
 refine bc.up x.bm.length (fun j T H'=>J5 g a H' W qn (j4 a i ++ jk i (x.bm.take j))∧T 5=.ptr W 0 0∧T 6=gi i∧T 18=bO a∧T 19=gi a.length∧T 20=gi i∧T 26=.aL (fW x.bm)∧T 27=gi x.bm.length∧T 28=gi j) ⟨by simpa [jk] using hI1,t5,rfl,t18,t19,t20,rfl,by show gi ((fW x.bm).length:Int)=_; simp[fW],rfl⟩ ?_
 clear t5 t18 t19 t20 hI hI1 hq1
 rintro j m T H2 hm2 ⟨hI2,t5,t6,t18,t19,t20,t26,t27,t28⟩
 simp (disch:=omega) only [↓wr,seval,wq,ah,ag,ak,aa,ab,af,ai,ae,uA,t5,t6,t26,t27,t28]
 refine av.dec (fun hc2=>?_) (fun hc2=>?_)
 rotate_left
 ·simp (disch:=omega) only [↓wr,seval,wq,ah,ag,ak,aa,ab,af,ai,ae,t5,t18,t19,t20]
  rw[Uo (by omega),← hstep] at hI2
  exact aN hk (by omega) ⟨hI2,t5,t18,t19,rfl⟩
 have hy:x.bm[j]?=some (x.bm[j]'(by omega)):=T4 (by omega)
 have hym:=Ud (show j < x.bm.length by omega)
 generalize x.bm[j]'(by omega)=y at hy hym
 have hyb:=hx2 y hym
 have htk:=Ph (i:=i) hy
 simp (disch:=omega) only [↓wr,seval,wq,ah,ag,ak,aa,ab,af,ai,ae,t5,t6,t18,t19,t20,t26,t27,t28,fW,T8,hy,Ue,kd]
 intro q2 hq2
 refine av.dec (fun hneg=>?_) (fun hneg=>?_)
 rotate_left
 ·simp (disch:=omega) only [↓wr,seval,wq,ah,ag,ak,aa,ab,af,ai,ae,t5,t6,t18,t19,t20,t26,t27,t28]
  rw[set_set]
  rw[T6 hneg] at htk
  exact aN hm2 (by omega) ⟨by rw[htk]; exact hI2.fresh hq2,t5,t6,t18,t19,t20,t26,t27,rfl⟩
 rw[T9 hneg] at htk
 rw[set_set]
 have hI3:=hI2.fresh hq2 (o:=.arr 2 [[gi y.sym,gi y.to]])
 have hq2':(H2.set q2 (.arr 2 [[gi y.sym,gi y.to]])) q2=.arr 2 [[gi y.sym,gi y.to]]:=by simp[View.set]
 generalize H2.set q2 (.arr 2 [[gi y.sym,gi y.to]])=H3 at hI3 hq2' ⊢
 clear hI2 hq2
 simp (disch:=omega) only [↓wr,seval,wq,ah,ag,ak,aa,ab,af,ai,ae,t5,t6,hq2']
 intro q3 hq3
 obtain ⟨uw,cM,M,hO,hMp,hBo,hNu⟩:=hI3
 have hW3:=hO.is 0 rfl (by simp)
 have hWq3:W≠q3:=fun e=>by rw[e,hq3] at hW3; simp at hW3
 have hQq3:qn≠q3:=fun e=>by rw[e,hq3] at hMp; simp at hMp
 have hul:cG uw=some (j4 a i ++ jk i (x.bm.take j)).length:=by rw[hO.tail.head.len,Uc]
 have hwl:=hlen i
 have hwl2:=IB i (x.bm.take j)
 rw[UN] at hwl2
 have hnew:((i:Int),-1 - y.sym) ∉ j4 a i ++ jk i (x.bm.take j):=by
  have h2:(j4 a i ++ jk i (x.bm.take (j+1))).Nodup:=by
   have h3:jk i (x.bm.take (j+1)) <+: jk i x.bm:=by
    unfold jk
    refine List.IsPrefix.map _ (List.IsPrefix.filter _ (List.take_prefix _ _))
   obtain ⟨r,hr⟩:=h3
   have h4:=hpre.sublist.nodup hnd
   rw[← hr,← UL,UY] at h4
   exact h4.1
  rw[htk,← UL,UY] at h2
  exact fun h=>h2.2.2 _ h _ (by simp) rfl
 have htk2:j4 a i ++ jk i (x.bm.take (j+1))=(j4 a i ++ jk i (x.bm.take j)) ++ [((i:Int),-1 - y.sym)]:=by rw[htk,UL]
 have hwb:(j4 a i ++ jk i (x.bm.take j)).length≤20000:=by rw[UX]; omega
 clear htk
 generalize j4 a i ++ jk i (x.bm.take j)=ws at *
 simp (disch:=omega) only [↓wr,seval,wq,ah,ag,ak,aa,ab,af,ai,ae,t5,t6,hWq3,hQq3,hW3,hul]
 have hmt:dz Tryz.prog 110=some (116,3):=by kernel_rfl
 refine Tf (kv:=eK) (kt:=116) (et:=3) (id:=qn) (c:=cM) (m:=M) (k:=((i:Int),-1 - y.sym)) (v:=gi (ws.length:Int)) hmt (zr wv) (by first | rfl | simp (disch:=omega) only [↓wr,seval,wq,ah,ag,ak,aa,ab,af,ai,ae]) (by first | rfl | (simp (disch:=omega) only [↓wr,seval,wq,ah,ag,ak,aa,ab,af,ai,ae]; rfl)) (by first | rfl | simp (disch:=omega) only [↓wr,seval,wq,ah,ag,ak,aa,ab,af,ai,ae]) (by show (View.set (View.set H3 q3 _) q3 _) qn=_; simp only[View.set]; rw[T6 hQq3,T6 hQq3]; exact hMp) hBo fun c' hb'=>?_
 rw[set_set]
 have hO5:=(hO.fresh hq3 (o:=.arr 2 [[gi (i:Int),gi (-1 - y.sym)]])).uM (b:=qn) (c:=cM) (es:=bN eK M) (by simp only[View.set]; rw[T6 hQq3]; exact hMp) (o:=.map (bN eK (bJ ((i:Int),-1 - y.sym) (gi (ws.length:Int)) cM M)) c')
 have hM5:((H3.set q3 (.arr 2 [[gi (i:Int),gi (-1 - y.sym)]])).set qn (.map (bN eK (bJ ((i:Int),-1 - y.sym) (gi (ws.length:Int)) cM M)) c')) qn=.map (bN eK (bJ ((i:Int),-1 - y.sym) (gi (ws.length:Int)) cM M)) c':=by simp[View.set]
 have hq5:((H3.set q3 (.arr 2 [[gi (i:Int),gi (-1 - y.sym)]])).set qn (.map (bN eK (bJ ((i:Int),-1 - y.sym) (gi (ws.length:Int)) cM M)) c')) q3=.arr 2 [[gi (i:Int),gi (-1 - y.sym)]]:=by
  simp only[View.set]; rw[T6 (Ne.symm hQq3)]; simp
 have hNu5:=hNu.put hnew cM
 generalize ((H3.set q3 (.arr 2 [[gi (i:Int),gi (-1 - y.sym)]])).set qn (.map (bN eK (bJ ((i:Int),-1 - y.sym) (gi (ws.length:Int)) cM M)) c'))=H5 at hO5 hM5 hq5 ⊢
 generalize bJ ((i:Int),-1 - y.sym) (gi (ws.length:Int)) cM M=M5 at hb' hM5 hNu5
 clear hO hMp hBo hNu hW3 hq3 hq2' hWq3 hQq3
 have hW5:=hO5.is 0 rfl (by simp)
 simp (disch:=omega) only [↓wr,seval,wq,ah,ag,ak,aa,ab,af,ai,ae,t5,hW5,hq5]
 intro q4 hq4
 simp (disch:=omega) only [↓wr,seval,wq,ah,ag,ak,aa,ab,af,ai,ae,cb]
 refine c6 ((hO5.perm (.swap _ _ _)).fresh hq4) (by simp[aX]) (by unfold aK; simp; omega) (by unfold aK; simp; omega) ?_
 intro uw2 H6 hO6 l6
 have hW6:=hO6.is 1 rfl (by simp)
 have hM6:=l6.map (((hO5.perm (.swap _ _ _)).fresh hq4).head) (b:=qn) (c:=c') (es:=bN eK M5) (by simp only[View.set]; rw[T6 (fun e=>by rw[← e,hM5] at hq4; simp at hq4)]; exact hM5)
 have hQW:qn≠W:=fun e=>by rw[e,hW6] at hM6; simp at hM6
 simp (disch:=omega) only [↓wr,seval,wq,ah,ag,ak,aa,ab,af,ai,ae,t5,t6,t18,t19,t20,t26,t27,t28,hW6,hO6.head.cells,hO6.head.jt]
 have hO7:=(hO6.perm (.swap _ _ _)).put (es':=[[.aL (g.az.map cg),.aL (g.ax.map fun s=>[gs s]),.aL (g.rules.map aP),gi g.start,bO a,bI (aA g false),.mp qn,uw2,.emp 1,.emp 1]]) rfl rfl
 have e:mf ws ++ [[gi (i:Int),gi (-1 - y.sym)]]=mf (ws ++ [((i:Int),-1 - y.sym)]):=by simp
 rw[e] at hO7
 refine aN hm2 (by omega) ⟨?_,t5,t6,t18,t19,t20,t26,t27,rfl⟩
 rw[htk2]
 exact ⟨uw2,c',M5,hO7,by simp only[View.set]; rw[T6 hQW]; exact hM6,hb',hNu5⟩
def tW (ws:List (Int × Int)) (x:Int × Int):Nat:=(cB (fun y=>y == x) ws 0).toNat
theorem jx {ws:List (Int × Int)} {x:Int × Int} (h:x∈ws):ws[tW ws x]?=some x:=by
 unfold tW
 rcases E0 (fun y=>y == x) ws 0 (Int.le_refl _) with h1 | ⟨k,y,h1,h2,h3,_⟩
 ·have:=DO _ ws 0 (Int.le_refl _) h1 x h
  simp at this
 ·rw[h1,show ((0:Int)+(k:Int)).toNat=k by omega,h2]
  simp at h3
  rw[h3]
theorem FG {ws:List (Int × Int)} (hn:ws.Nodup) {k:Nat} {x:Int × Int} (h:ws[k]?=some x):tW ws x=k:=by
 have h1:=jx (Ub h)
 exact (List.getElem?_inj (Uj.1 h1).1 hn).1 (h1.trans h.symm)
section
variable {g:aw} {a:List aT}
theorem dr {p:Nat} {B:Int} : ((p:Int),B)∈ba a↔0≤B∧dJ a p (-1 - B):=by
 simp only[ba,j4,VQ,UR,jk,Ur,UQ,Ul,Ua,dJ]
 constructor
 ·rintro ⟨i,hi,e,⟨h1,h2⟩,h3,h4⟩
  have:i=p:=by omega
  subst this
  exact ⟨by omega,e,h1,by omega⟩
 ·rintro ⟨h0,e,h1,h2⟩
  exact ⟨p,(ze h1).1,e,⟨h1,by omega⟩,rfl,by omega⟩
theorem sf {x:Int × Int} (h:x∈ba a):∃ p:Nat,x=((p:Int),x.2):=by
 simp only[ba,j4,VQ,UR,jk,Ur] at h
 obtain ⟨i,_,e,_,rfl⟩:=h
 exact ⟨i,rfl⟩
theorem MH {i:Nat} {l:List dC} (h:(l.map dC.sym).Nodup):(jk i l).Nodup:=by
 unfold jk
 have h1:((l.filter fun e=>decide (e.sym < 0)).map dC.sym).Nodup:=(List.Sublist.map _ List.filter_sublist).nodup h
 unfold List.Nodup at h1 ⊢
 rw[VX] at h1 ⊢
 exact h1.imp fun hne e=>hne (by simp only[Ua] at e; omega)
theorem x8 (hA:ca g a):(ba a).Nodup:=by
 have key:∀ n,n≤a.length→(j4 a n).Nodup∧∀ x∈j4 a n,x.1 < n:=by
  intro n
  induction n with
  | zero=>intro _; simp[j4]
  | succ n ih =>
   intro hn
   obtain ⟨h1,h2⟩:=ih (by omega)
   rw[vD]
   have hm:=Ub (getD_some (d:=bz) (show n < a.length by omega))
   have h3:(jk n (a.getD n bz).bm).Nodup:=MH (by rw[hA.x.all _ hm]; exact zW _ _ _)
   have h4:∀ x∈jk n (a.getD n bz).bm,x.1=n:=fun x hx=>by
    simp only[jk,Ur] at hx
    obtain ⟨e,_,rfl⟩:=hx; rfl
   refine ⟨UY.2 ⟨h1,h3,fun x hx y hy e=>?_⟩,fun x hx=>?_⟩
   ·have:=h2 x hx
    have:=h4 y hy
    rw[e] at *
    omega
   ·rcases Uy.1 hx with hx | hx
    ·have:=h2 x hx; push_cast; omega
    ·have:=h4 x hx; push_cast; omega
 exact (key a.length (Ug _)).1
theorem pK (hA:ca g a):1≤(ba a).length:=by
 have h0:dJ a 0 (-1 - g.start):=(hA.kI (by have:=hA.pos; omega)).2 ⟨⟨-1,0⟩,(c7 hA.cD (hA.bh (by have:=hA.pos; omega))).2 (.base (by rw[hA.e.first]; simp)),by
  unfold bL; rw[T6 (by simp[aM])]; simp[aM]⟩
 have:=dr.2 ⟨hA.cD.iX,h0⟩
 exact List.length_pos_of_mem this
def oc (b:BV) (l:List dC):BV:=l.foldl (fun b e=>if 0≤e.sym then b ||| eo e.sym else b) b
def ov (g:aw) (x:Int × Int):BV:=if x.1=0∧x.2=g.start then eo g.az.length else 0
def rZ (g:aw) (ws:List (Int × Int)) (q:Nat) (l:List dC):List Nat:=(l.filter fun e=>decide (e.sym < 0) && (aA g false).getD (-1 - e.sym).toNat false).map fun e=>tW ws ((q:Int),-1 - e.sym)
def qN (g:aw) (a:List aT) (x:Int × Int):BV:=oc (ov g x) (a.getD (dW a x.1.toNat (-1 - x.2)) bz).bm
def my (g:aw) (a:List aT) (x:Int × Int):List Nat:=rZ g (ba a) (dW a x.1.toNat (-1 - x.2)) (a.getD (dW a x.1.toNat (-1 - x.2)) bz).bm
theorem DZ {t:Nat} : ∀ (l:List dC) (b:BV),(oc b l).getLsbD t=true↔b.getLsbD t=true∨∃ e∈l,0≤e.sym∧(eo e.sym).getLsbD t=true
 | [],b=>by simp[oc]
 | e :: l,b=>by
  have ih:=DZ (t:=t) l (if 0≤e.sym then b ||| eo e.sym else b)
  unfold oc at ih ⊢
  rw[Uu,ih]
  by_cases h:0≤e.sym
  ·rw[T9 h,UU,U8]
   constructor
   ·rintro ((h1 | h1) | ⟨x,h1,h2⟩)
    ·exact .inl h1
    ·exact .inr ⟨e,by simp,h,h1⟩
    ·exact .inr ⟨x,by simp[h1],h2⟩
   ·rintro (h1 | ⟨x,h1,h2⟩)
    ·exact .inl (.inl h1)
    ·rcases Uk.1 h1 with rfl | h1
     ·exact .inl (.inr h2.2)
     ·exact .inr ⟨x,h1,h2⟩
  ·rw[T6 h]
   constructor
   ·rintro (h1 | ⟨x,h1,h2⟩)
    ·exact .inl h1
    ·exact .inr ⟨x,by simp[h1],h2⟩
   ·rintro (h1 | ⟨x,h1,h2⟩)
    ·exact .inl h1
    ·rcases Uk.1 h1 with rfl | h1
     ·exact absurd h2.1 h
     ·exact .inr ⟨x,h1,h2⟩
abbrev di (a:List aT) (x:Nat):Int × Int:=(ba a).getD x (0,0)
theorem AM (hA:ca g a) {p t:Nat} {B:Int} (he:dJ a p (-1 - B)):(qN g a ((p:Int),B)).getLsbD t=true↔(p=0∧B=g.start∧t=g.az.length)∨(t < g.az.length∧dJ a (dW a p (-1 - B)) t):=by
 have hT:=hA.cD.az
 obtain ⟨_,_,_,_,hq,_⟩:=hA.dW he
 unfold qN
 simp only[Uq]
 rw[DZ]
 refine or_congr ?_ ?_
 ·unfold ov
  simp only
  split
  ·rename_i h
   rw[oB (by omega)]
   exact ⟨fun h2=>⟨by omega,h.2,h2⟩,fun h2=>h2.2.2⟩
  ·rename_i h
   exact ⟨fun h2=>by simp at h2,fun h2=>absurd ⟨by omega,h2.2.1⟩ h⟩
 ·constructor
  ·rintro ⟨e,h1,h2,h3⟩
   have hE:dJ a (dW a p (-1 - B)) e.sym:=⟨e,h1,rfl⟩
   obtain ⟨y,hy,hn⟩:=(hA.kI hq).1 hE
   have hb:=pn (pr hA.cD (hA.has hq hy) hn)
   obtain ⟨k,hk⟩:∃ k:Nat,e.sym=k:=⟨e.sym.toNat,by omega⟩
   rw[hk,oB (by omega)] at h3
   subst h3
   exact ⟨by omega,by rw[← hk]; exact hE⟩
  ·rintro ⟨h1,e,h2,h3⟩
   exact ⟨e,h2,by omega,by rw[h3,oB (by omega)]⟩
theorem AF (hA:ca g a) {p y:Nat} {B:Int} (_:dJ a p (-1 - B)):y∈my g a ((p:Int),B)↔∃ C:Int,0≤C∧(aA g false).getD C.toNat false=true∧dJ a (dW a p (-1 - B)) (-1 - C)∧(ba a)[y]?=some ((dW a p (-1 - B):Int),C):=by
 unfold my rZ
 simp only[Uq,Ur,UQ,Uh,Ul]
 constructor
 ·rintro ⟨e,⟨h1,h2,h3⟩,rfl⟩
  have hE:dJ a (dW a p (-1 - B)) (-1 - (-1 - e.sym)):=⟨e,h1,by omega⟩
  exact ⟨-1 - e.sym,by omega,h3,hE,jx (dr.2 ⟨by omega,hE⟩)⟩
 ·rintro ⟨C,h1,h2,⟨e,h3,h4⟩,h5⟩
  refine ⟨e,⟨h3,by omega,by rw[h4,show -1 - (-1 - C)=C by omega]; exact h2⟩,?_⟩
  rw[h4,show -1 - (-1 - C)=C by omega]
  exact FG (x8 hA) h5
theorem JU (hA:ca g a) {x:Nat} (hx:x < (ba a).length):∀ y∈my g a (di a x),y < (ba a).length:=fun y hy=>by
 have hg:(ba a)[x]?=some (di a x):=getD_some hx
 have hm:=Ub hg
 obtain ⟨p,hp⟩:=sf hm
 rw[hp] at hm hy
 obtain ⟨_,_,_,_,h⟩:=(AF hA (dr.1 hm).2).1 hy
 exact (Uj.1 h).1
theorem LP (hA:ca g a) {x t:Nat} {p:Nat} {B:Int} (hx:(ba a)[x]?=some ((p:Int),B)):lg (fun x=>my g a (di a x)) (fun x=>qN g a (di a x)) x t↔ou g a p B t:=by
 have hget:∀ {x:Nat} {y:Int × Int},(ba a)[x]?=some y→di a x=y:=fun {x y} h=>by
  rw[di,T0,h]; rfl
 constructor
 ·rintro ⟨w,hr,hw⟩
  induction hr generalizing p B with
  | refl =>
   have he:=(dr.1 (Ub hx)).2
   simp only at hw
   rw[hget hx] at hw
   rcases (AM hA he).1 hw with ⟨rfl,rfl,rfl⟩ | ⟨h1,h2⟩
   ·exact .fin
   ·exact .term h1 h2
  | @step x y w hy hr ih =>
   have he:=(dr.1 (Ub hx)).2
   rw[hget hx] at hy
   obtain ⟨C,h1,h2,h3,h4⟩:=(AF hA he).1 hy
   exact .null h1 h3 h2 (ih h4 hw)
 ·intro h
  induction h generalizing x with
  | fin =>
   have he:=(dr.1 (Ub hx)).2
   exact ⟨x,.refl,by simp only; rw[hget hx]; exact (AM hA he).2 (.inl ⟨rfl,rfl,rfl⟩)⟩
  | @term p B t h1 h2 =>
   have he:=(dr.1 (Ub hx)).2
   exact ⟨x,.refl,by simp only; rw[hget hx]; exact (AM hA he).2 (.inr ⟨h1,h2⟩)⟩
  | @null p B C t h1 h2 h3 h4 ih =>
   have he:=(dr.1 (Ub hx)).2
   have hm:=jx (dr.2 ⟨h1,h2⟩)
   obtain ⟨w,k1,k2⟩:=ih hm
   exact ⟨w,.step (by rw[hget hx]; exact (AF hA he).2 ⟨C,h1,h3,h2,hm⟩) k1,k2⟩
end
def gX (l:List UInt8):Value:=.string ⟨l.toArray⟩
theorem GS {a b:List UInt8} : ((⟨a.toArray⟩:ByteArray) == ⟨b.toArray⟩)=(a == b):=by
 show (a.toArray == b.toArray)=_
 simp
theorem Hd {P:Program} {kt:TypeId} (h:P.underlying kt=some .string):An P kt gX where
 ty:=⟨_,h,fun a b=>by simp only[Instr.sameNow,gX,GS],fun a e=>wu h trivial e 9999 _⟩
 bits:=fun a b hab=>by
  have:a=b:=by simpa using hab
  subst this
  show ((⟨a.toArray⟩:ByteArray) == ⟨a.toArray⟩)=true
  rw[GS]; simp
def px (l:List aI):List Int:=l.flatMap fun x=>[x.aH+1,x.dot]
theorem OF (l:List aI):(px l).length=2 * l.length:=by
 induction l with
 | nil=>rfl
 | cons x l ih=>simp only[px,List.flatMap_cons,UX,Um,UG] at ih ⊢; omega
theorem Bg:∀ l:List aI,kH ((px l).map fun n=>[gy n])=some (fP l)
 | []=>rfl
 | x :: l=>by
  have ih:=Bg l
  simp only[px,fP,List.flatMap_cons,UI,Vb,Uz,kH] at ih ⊢
  rw[ih]; rfl
theorem P9 {x:Int} (h1:0≤x) (h2:x < 256):IntKind.wrap .u8 x=x:=by
 unfold IntKind.wrap
 have e1:(2:Int) ^ IntKind.u8.bits=256:=by rfl
 have e2:IntKind.u8.signed=false:=by rfl
 simp only[e1,e2,VA,Ut,if_false]
 omega
theorem Rr {P:Program} {T:Env} {H:View} {K:V→View→Prop} {w:cE (T,H,K)} {t e d ty:TypeId} {x:Operand} {u:V} {xs:List (List V)} {rd:List Nat} {l:List UInt8} {k:Nat} (hu:P.underlying t=some (.slice e)) (he:P.underlying e=some (.int .u8)) (hd:P.underlying d=some .string)
  (hx:ev T x=u) (hl:bX H u=some (xs,rd)) (hn:cG u=some k) (ht:kH xs=some l) (hk:K (.val (gX l)) H):kb P (.convert t d x) ty T H K w:=by
 intro n _
 have hb:kz P t d=true:=by simp[kz,hu]
 refine ⟨.val (gX l),.none,rd,?_,hk⟩
 simp only[sI,cm,oper]
 rw[T9 hb,hx]
 simp[mH,hu,he,hd,hl,hn,ht,gX]
def uN:SC :=
 .seq (ao [bg 15 .lss 14 13]) <|
 .seq (.cond (.tmp 15) (.skip) (.exit 0)) <|
 .seq (.block 1 (.seq (ao [aR 16 2 12 14,bp 17 2 16,((some 7),.op (.alloc [(.val (.int .i64 0)),(.val (.int .i64 0))])),(none,.op (.store 2 (.tmp 7) (.tmp 17)))]) <|
 .seq (ao [bp 19 4 2,bp 20 2 7,bD 21 50 [19,20],aj 18 21,gP 22 0 18,gP 23 1 18,aj 8 22,aj 9 23]) <|
 .seq (ao [aj 24 9]) <|
 .cond (.tmp 24) (.seq (ao [bp 25 4 2,aj 26 8,bD 27 111 [25,26],aj 10 27]) <|
 ao [aj 28 5,aj 29 10,aj 30 5,aj 31 10,((some 32),.op (.old (.lookup 98 (.tmp 30) (.tmp 31) false) 27)),aD 33 0 7,ay 34 33,aD 35 1 7,ay 36 35,aQ 37 .add 36 1,((some 38),.op (.build [(.val (.int .i64 0)),(.val (.int .i64 0))] [(0,1,(.tmp 34)),(1,1,(.tmp 37))])),((some 39),.op (.cw 1 2 [(.val (.int .i64 0)),(.val (.int .i64 0))] [(0,(.tmp 38))])),((some 40),.op (.app 2 16 (.tmp 32) (.tmp 39))),(none,.op (.old (.mapUpdate 98 (.tmp 28) (.tmp 29) (.tmp 40)) 0))]) (.skip))) <|
 ao [aQ 41 .add 14 1,aj 14 41]
def y0:SF:=⟨.seq (ao [cO 2 0,((some 4),.op (.bP (.val (.val (.map none)))))]) <|
 .seq (ao [((some 11),.op (.nR)),aj 5 11]) <|
 .seq (.seq (ao [aj 12 1,aV 13 12,bj 14 0]) <|
 .block 0 (.loop uN)) <|
 .seq (ao [aj 42 5,aj 4 42]) <|
 .ret,
 [.tmp 4],43⟩
theorem A7:aU Tryz.prog 63 [2]=some y0:=by kernel_rfl
def yI:SC :=
 .seq (ao [bg 9 .lss 8 7]) <|
 .seq (.cond (.tmp 9) (.skip) (.exit 0)) <|
 .seq (.block 1 (.seq (ao [aR 10 2 6 8,bp 11 2 10,((some 5),.op (.alloc [(.val (.int .i64 0)),(.val (.int .i64 0))])),(none,.op (.store 2 (.tmp 5) (.tmp 11)))]) <|
 ao [aj 12 3,aD 13 0 5,ay 14 13,aQ 15 .add 14 1,((some 16),.op (.conv .u8 (.tmp 15))),aD 17 1 5,ay 18 17,((some 19),.op (.conv .u8 (.tmp 18))),((some 20),.op (.cw 2 1 [(.val (.int .u8 0))] [(0,(.tmp 16)),(1,(.tmp 19))])),((some 21),.op (.app 1 1 (.tmp 12) (.tmp 20))),aj 3 21])) <|
 ao [aQ 22 .add 8 1,aj 8 22]
def Cp:SF:=⟨.seq (.region false [⟨none,[((some 2),.op (.bP (.val (.val (.string ⟨#[]⟩)))))]⟩]) <|
 .seq (ao [((some 3),.op (.bP (.val (.emp 1))))]) <|
 .seq (.seq (ao [aj 6 0,aV 7 6,bj 8 0]) <|
 .block 0 (.loop yI)) <|
 .seq (ao [aj 23 3,((some 24),.op (.old (.convert 91 9 (.tmp 23)) 9)),aj 2 24]) <|
 .ret,
 [.tmp 2],25⟩
theorem Fg:aU Tryz.prog 62 []=some Cp:=by kernel_rfl
set_option maxHeartbeats 4000000 in
theorem GM (g:aw) (hf:g.dt) (l:List aI) (hl:∀ x∈l,cq g x) (hn:l.length≤10000) (u:V) (H:View) (ho:bf H u 2 (aS l)):aC Tryz.prog 62 [u] H fun r H'=>r=.val (gX (fP l))∧∀ id,H id≠.dead→H' id=H id:=by
 refine aC.of mixed Fg ?_
 have hlen:cG u=some l.length:=by rw[ho.len,bF]
 have hru:=hf.rules
 simp (disch:=omega) only [↓wr,seval,wq,ah,ag,ak,aa,ab,af,ai,ae,Cp,hlen]
 refine bc.up l.length (fun i T H'=>∃ b:V,bf H' b 1 ((px (l.take i)).map fun n=>[gy n])∧dx H H' b∧T 3=b∧T 6=u∧T 7=gi l.length∧T 8=gi i) ⟨.emp 1,.nil,.emp,rfl,rfl,rfl,rfl⟩ ?_
 rintro i k T H' hk ⟨b,hb,fb,t3,t6,t7,t8⟩
 simp (disch:=omega) only [↓wr,seval,wq,ah,ag,ak,aa,ab,af,ai,ae,yI,t3,t6,t7,t8]
 refine av.dec (fun hc=>?_) (fun hc=>?_)
 ·have hx:l[i]?=some (l[i]'(by omega)):=T4 (by omega)
  have hxm:=hl _ (Ud (show i < l.length by omega))
  have htk:l.take (i+1)=l.take i ++ [l[i]'(by omega)]:=by rw[Uw,hx]; rfl
  generalize l[i]'(by omega)=x at hx hxm htk
  have hr6:=eU hf hxm.1
  have hx1:=hxm.1
  have hx2:=hxm.2
  obtain ⟨id,hu,hid⟩:=ho.sl (by rw[bF]; omega)
  have hid':H' id=.arr 2 (aS l):=by rw[(fb id (by rw[hid]; simp)).1,hid]
  rw[bF] at hu
  subst hu
  have hkl:=OF (l.take i)
  rw[UN] at hkl
  simp (disch:=omega) only [↓wr,seval,wq,ah,ag,ak,aa,ab,af,ai,ae,t3,t6,t7,t8,hid',qc hx,P9 (x:=x.aH+1) (by omega) (by omega),P9 (x:=x.dot) (by omega) (by omega)]
  refine ⟨by omega,by rw[bF]; omega,?_⟩
  intro q hq q2 hq2
  obtain ⟨hne,hq3⟩:=dq hq2 (by simp)
  rw[T6 hne] at hq3
  have hqH:∀ j,H j≠.dead→j≠q∧j≠q2:=fun j hj=>by
   have h1:=(fb j hj).1
   exact ⟨fun e=>hj (by rw[e] at h1 ⊢; rw[← h1,hq]),fun e=>hj (by rw[e] at h1 ⊢; rw[← h1,hq3])⟩
  have hb3:∀ a0 a1 a2,bf (((H'.set q a0).set q a1).set q2 a2) b 1 ((px (l.take i)).map fun n=>[gy n]):=fun a0 a1 a2=>hb.keep fun id hid=>by
   have h1:=(hb.live hid).1
   have e1:id≠q:=by rintro rfl; rw[hq] at h1; simp at h1
   have e2:id≠q2:=by rintro rfl; rw[hq3] at h1; simp at h1
   simp[View.set,e1,e2]
  have hset:∀ a0 a1 a2 j,H j≠.dead→(((H'.set q a0).set q a1).set q2 a2) j=H j:=fun a0 a1 a2 j hj=>by
   obtain ⟨e1,e2⟩:=hqH j hj
   simp[View.set,e1,e2,(fb j hj).1]
  have hel:∀ (a0 a1:dy) (e1 e2:List V),bX (((H'.set q a0).set q a1).set q2 (.arr 1 [e1,e2])) (.sl q2 0 2 1)=some ([e1,e2],[q2]):=fun a0 a1 e1 e2=>by simp[bX,View.set]
  simp (disch:=omega) only [↓wr,seval,wq,ah,ag,ak,aa,ab,af,ai,ae,hel,t3]
  refine ib (hb3 _ _ _) (by simp[aX]) (by unfold aK; simp; omega) (by unfold aK; simp; omega) ?_
  intro b2 H5 o5 l5
  simp (disch:=omega) only [↓wr,seval,wq,ah,ag,ak,aa,ab,af,ai,ae,t6,t7,t8]
  refine aN hk (by omega) ⟨b2,?_,fun j hj=>?_,rfl,t6,t7,rfl⟩
  ·have:(px (l.take (i+1))).map (fun n=>[gy n])=(px (l.take i)).map (fun n=>[gy n]) ++ [[gy (x.aH+1)],[gy x.dot]]:=by
    rw[htk]; simp[px]
   rw[this]; exact o5
  ·obtain ⟨k1,k2⟩:=l5 j (by rw[hset _ _ _ j hj]; exact hj) (fb j hj).2
   exact ⟨by rw[k1,hset _ _ _ j hj],k2⟩
 ·rw[Uo (by omega)] at hb
  simp (disch:=omega) only [↓wr,seval,wq,ah,ag,ak,aa,ab,af,ai,ae,t3]
  have hel:∃ rd,bX H' b=some ((px l).map (fun n=>[gy n]),rd):=by
   rcases hb with ⟨e,k,rfl⟩ | ⟨n,rfl,hn⟩
   ·exact ⟨[],by rw[e]; rfl⟩
   ·rcases hq:(px l).map (fun n=>[gy n]) with _ | ⟨y,ys⟩
    ·exact ⟨[],by simp[bX]⟩
    ·rw[hq] at hn
     exact ⟨[n],by
      have:=rH (H:=H') n 0 ys.length 1 1 (y :: ys) hn (by simp)
      rw[Um,this]; simp⟩
  obtain ⟨rd,hel⟩:=hel
  refine Rr (u:=b) (xs:=(px l).map fun n=>[gy n]) (rd:=rd) (k:=((px l).map fun n=>[gy n]).length) (l:=fP l) Tryz.underlying91 Tryz.underlying5 Tryz.underlying9 (by simp (disch:=omega) only [↓wr,seval,wq,ah,ag,ak,aa,ab,af,ai,ae]; exact t3) hel hb.len (Bg l) ?_
  simp (disch:=omega) only [↓wr,seval,wq,ah,ag,ak,aa,ab,af,ai,ae]
  exact fun id hid=>(fb id hid).1
theorem yL (g:aw) (p:List aI) (y:aI) (s:Int):bu g (p ++ [y]) s=if bL g y=(s,true) then bu g p s ++ [⟨y.aH,y.dot+1⟩] else bu g p s:=by
 unfold bu
 rw[Vq,UA]
 split
 ·rename_i h; simp[h]
 ·rename_i h; simp[h]
def iR (g:aw) (p:List aI) (A:bV Int):List cF:=A.map fun x=>(x.2.1,2,aS (bu g p (aZ g x.1.toNat)))
structure sV (g:aw) (p:List aI) (H0 H:View) (q:Nat) (A:bV Int):Prop where
 mp:∃ c,H q=.map (ct (Value.int .i64) A) c
 nd:(A.map (·.1)).Nodup
 own:bt H (iR g p A)
 ne:∀ x∈A,0≤x.1∧bu g p (aZ g x.1.toNat)≠[]
 all:∀ k:Nat,bu g p (aZ g k)≠[]→((k:Nat):Int)∈A.map (·.1)
 old:∀ id,H0 id≠.dead→H id=H0 id
 q0:H0 q=.dead
 new:∀ x∈A,∀ id,owner x.2.1=some id→H0 id=.dead
theorem getM_none {A:bV Int} {k:Int} : getM A k=none↔k ∉ A.map (·.1):=by
 induction A with
 | nil=>simp[getM]
 | cons x A ih =>
  unfold getM at ih ⊢
  rw[VH]
  by_cases h:k=x.1
  ·simp[h]
  ·simp only[beq_eq_false_iff_ne.2 h,Uz,Uk,not_or]
   rw[ih]
   simp[h]
theorem wP {A:bV Int} {k:Int} {v:V} (h:getM A k=some v):∃ A1 A2 b,A=A1 ++ (k,v,b) :: A2∧k ∉ A1.map (·.1)∧∀ v' c,bJ k v' c A=A1 ++ (k,v',b) :: A2:=by
 induction A with
 | nil=>simp[getM] at h
 | cons x A ih =>
  unfold getM at h ih
  rw[VH] at h
  by_cases e:k=x.1
  ·simp only[e,Vy,Ue,T7] at h
   refine ⟨[],A,x.2.2,by rw[e,← h]; rfl,by simp,fun v' c=>?_⟩
   rw[bJ,e,Vy,T9 rfl]; rfl
  ·rw[beq_eq_false_iff_ne.2 e] at h
   obtain ⟨A1,A2,b,rfl,h2,h3⟩:=ih h
   refine ⟨x :: A1,A2,b,rfl,by simp only[Uz,Uk,not_or]; exact ⟨e,h2⟩,fun v' c=>?_⟩
   rw[bJ,beq_eq_false_iff_ne.2 e,h3]; rfl
theorem PF {A:bV Int} {k:Int} (h:k ∉ A.map (·.1)) (v:V) (c:Nat):bJ k v c A=A ++ [(k,v,c)]:=by
 induction A with
 | nil=>rfl
 | cons x A ih =>
  simp only[Uz,Uk,not_or] at h
  rw[bJ,beq_eq_false_iff_ne.2 h.1,ih h.2]; rfl
theorem sV.skip {g:aw} {p:List aI} {H0 H:View} {q:Nat} {A:bV Int} (h:sV g p H0 H q A) {y:aI} (hy:(bL g y).2=false):sV g (p ++ [y]) H0 H q A:=by
 have e:∀ s,bu g (p ++ [y]) s=bu g p s:=fun s=>by rw[yL,T6 (fun h=>by rw[h] at hy; simp at hy)]
 have e2:iR g (p ++ [y]) A=iR g p A:=by simp only[iR,e]
 exact ⟨h.mp,h.nd,by rw[e2]; exact h.own,fun x hx=>by rw[e]; exact h.ne x hx,fun k hk=>by rw[e] at hk; exact h.all k hk,h.old,h.q0,h.new⟩
theorem sV.val {g:aw} {p:List aI} {H0 H:View} {q:Nat} {A:bV Int} (h:sV g p H0 H q A) (r:Nat):bf H ((getM A r).getD (.emp 1)) 2 (aS (bu g p (aZ g r))):=by
 cases hg:getM A r with
 | none =>
  have hn:=getM_none.1 hg
  have:bu g p (aZ g r)=[]:=U7 fun hne=>hn (h.all r hne)
  rw[this]; exact .nil
 | some v =>
  obtain ⟨A1,A2,b,rfl,_,_⟩:=wP hg
  have:=h.own.1 (v,2,aS (bu g p (aZ g r))) (by simp[iR])
  exact this
theorem sV.put {g:aw} {p:List aI} {H0 H:View} {q:Nat} {A:bV Int} (h:sV g p H0 H q A) {y:aI} {r:Nat} (hy:bL g y=(aZ g r,true)) {H1:View} {v':V} (o1:bf H1 v' 2 (aS (bu g p (aZ g r) ++ [⟨y.aH,y.dot+1⟩]))) (l1:Left H H1 ((getM A r).getD (.emp 1)) v') (c c':Nat) :
  sV g (p ++ [y]) H0 (H1.set q (.map (ct (Value.int .i64) (bJ (r:Int) v' c A)) c')) q (bJ (r:Int) v' c A):=by
 obtain ⟨c0,hq⟩:=h.mp
 have hr:bu g (p ++ [y]) (aZ g r)=bu g p (aZ g r) ++ [⟨y.aH,y.dot+1⟩]:=by rw[yL,T9 hy]
 have hne:∀ x:Int × V × Nat,0≤x.1→x.1≠r→bu g (p ++ [y]) (aZ g x.1.toNat)=bu g p (aZ g x.1.toNat):=fun x h0 hx=>by
  rw[yL,T6]
  intro e
  rw[hy] at e
  simp only[Ua,and_true] at e
  have h1:=wx g r
  rw[e,wx] at h1
  omega
 have howq:owner ((getM A r).getD (.emp 1))≠some q:=fun e=>by
  have:=((h.val r).live e).1
  rw[hq] at this; simp at this
 have hq1:H1 q≠.dead∧owner v'≠some q:=by
  obtain ⟨k1,k2⟩:=l1 q (by rw[hq]; simp) howq
  exact ⟨by rw[k1,hq]; simp,k2⟩
 have hold:∀ id,H0 id≠.dead→id≠q∧owner ((getM A r).getD (.emp 1))≠some id:=fun id hid=>by
  refine ⟨fun e=>hid (by rw[e]; exact h.q0),fun e=>?_⟩
  cases hg:getM A r with
  | none=>rw[hg] at e; simp[owner] at e
  | some v =>
   rw[hg] at e
   obtain ⟨A1,A2,b,rfl,_,_⟩:=wP hg
   exact hid (h.new (r,v,b) (by simp) id e)
 have hold2:∀ id,H0 id≠.dead→(H1.set q (.map (ct (Value.int .i64) (bJ (r:Int) v' c A)) c')) id=H0 id:=fun id hid=>by
  simp only[View.set]
  rw[T6 (hold id hid).1,(l1 id (by rw[h.old id hid]; exact hid) (hold id hid).2).1,h.old id hid]
 have hv':∀ id,owner v'=some id→H0 id=.dead:=fun id e=>Vs fun hid=>(l1 id (by rw[h.old id hid]; exact hid) (hold id hid).2).2 e
 have hset:∀ {L:List cF},bt H1 L→(∀ x∈L,owner x.1≠some q)→bt (H1.set q (.map (ct (Value.int .i64) (bJ (r:Int) v' c A)) c')) L:=fun hL hx=>⟨fun x hxm=>(hL.1 x hxm).other (hx x hxm),hL.2⟩
 have hmapq:∀ x∈A,owner x.2.1≠some q:=fun x hx=>h.own.zf hq _ (Ur.2 ⟨x,hx,rfl⟩)
 cases hg:getM A r with
 | none =>
  have hn:=getM_none.1 hg
  rw[hg] at l1
  rw[PF hn] at *
  have e1:iR g (p ++ [y]) (A ++ [((r:Int),v',c)])=iR g p A ++ [(v',2,aS (bu g p (aZ g r) ++ [⟨y.aH,y.dot+1⟩]))]:=by
   simp only[iR,UA,Uz,VD,Uq,hr]
   congr 1
   refine VZ fun x hx=>?_
   rw[hne x (h.ne x hx).1 (fun e=>hn (Ur.2 ⟨x,hx,e⟩))]
  refine ⟨⟨c',by simp[View.set]⟩,?_,?_,fun x hx=>?_,fun k hk=>?_,hold2,h.q0,fun x hx id e=>?_⟩
  ·rw[UA,UY]
   refine ⟨h.nd,by simp,fun a ha b hb e=>?_⟩
   simp at hb; subst hb; subst e; exact hn ha
  ·rw[e1]
   have ho:bt H1 ((v',2,aS (bu g p (aZ g r) ++ [⟨y.aH,y.dot+1⟩])) :: iR g p A):=(h.own.emp (k:=1) (sz:=2)).left (by simpa using o1) l1
   refine hset (ho.perm (List.perm_append_comm (l₁:=[_]))) fun x hx=>?_
   rcases Uy.1 hx with hx | hx
   ·obtain ⟨z,hz,rfl⟩:=Ur.1 hx
    exact hmapq z hz
   ·simp at hx; subst hx; exact hq1.2
  ·rcases Uy.1 hx with hx | hx
   ·rw[hne x (h.ne x hx).1 (fun e=>hn (Ur.2 ⟨x,hx,e⟩))]; exact h.ne x hx
   ·simp at hx; subst hx; simp[hr]
  ·rw[UA,Uy]
   by_cases e:k=r
   ·right; simp[e]
   ·left
    refine h.all k ?_
    have:=hne ((k:Int),.any,0) (by simp) (by simp only; omega)
    simp only[Uq] at this
    rw[← this]; exact hk
  ·rcases Uy.1 hx with hx | hx
   ·exact h.new x hx id e
   ·simp at hx; subst hx; exact hv' id e
 | some v =>
  obtain ⟨A1,A2,b,rfl,hn1,hput⟩:=wP hg
  rw[hg] at l1
  rw[hput] at *
  have hnd:=h.nd
  rw[UA,Uz,UY] at hnd
  have hn2:(r:Int) ∉ A2.map (·.1):=(U1.1 hnd.2.1).1
  have hx1:∀ x∈A1,x.1≠r:=fun x hx e=>hn1 (Ur.2 ⟨x,hx,e⟩)
  have hx2:∀ x∈A2,x.1≠r:=fun x hx e=>hn2 (Ur.2 ⟨x,hx,e⟩)
  have hm1:∀ x∈A1,x∈A1 ++ ((r:Int),v,b) :: A2:=fun x hx=>Vz _ hx
  have hm2:∀ x∈A2,x∈A1 ++ ((r:Int),v,b) :: A2:=fun x hx=>VC _ (Ux _ hx)
  have e1:iR g (p ++ [y]) (A1 ++ ((r:Int),v',b) :: A2)=iR g p A1 ++ (v',2,aS (bu g p (aZ g r) ++ [⟨y.aH,y.dot+1⟩])) :: iR g p A2:=by
   simp only[iR,UA,Uz,Uq,hr]
   congr 1
   ·refine VZ fun x hx=>?_
    rw[hne x (h.ne x (hm1 x hx)).1 (hx1 x hx)]
   ·congr 1
    refine VZ fun x hx=>?_
    rw[hne x (h.ne x (hm2 x hx)).1 (hx2 x hx)]
  have e0:iR g p (A1 ++ ((r:Int),v,b) :: A2)=iR g p A1 ++ (v,2,aS (bu g p (aZ g r))) :: iR g p A2:=by
   simp only[iR,UA,Uz,Uq]
  refine ⟨⟨c',by simp[View.set]⟩,by simpa using h.nd,?_,fun x hx=>?_,fun k hk=>?_,hold2,h.q0,fun x hx id e=>?_⟩
  ·rw[e1]
   have h0:=h.own
   rw[e0] at h0
   have ho:bt H1 ((v',2,aS (bu g p (aZ g r) ++ [⟨y.aH,y.dot+1⟩])) :: (iR g p A1 ++ iR g p A2)):=(h0.perm UZ).left o1 l1
   refine hset (ho.perm UZ.symm) fun x hx=>?_
   rcases Uy.1 hx with hx | hx
   ·obtain ⟨z,hz,rfl⟩:=Ur.1 hx
    exact hmapq z (hm1 z hz)
   ·rcases Uk.1 hx with rfl | hx
    ·exact hq1.2
    ·obtain ⟨z,hz,rfl⟩:=Ur.1 hx
     exact hmapq z (hm2 z hz)
  ·rcases Uy.1 hx with hx | hx
   ·rw[hne x (h.ne x (hm1 x hx)).1 (hx1 x hx)]; exact h.ne x (hm1 x hx)
   ·rcases Uk.1 hx with rfl | hx
    ·simp[hr]
    ·rw[hne x (h.ne x (hm2 x hx)).1 (hx2 x hx)]; exact h.ne x (hm2 x hx)
  ·by_cases e:k=r
   ·subst e; simp
   ·have:=hne ((k:Int),.any,0) (by simp) (by simp only; omega)
    simp only[Uq] at this
    rw[this] at hk
    have:=h.all k hk
    simpa using this
  ·rcases Uy.1 hx with hx | hx
   ·exact h.new x (hm1 x hx) id e
   ·rcases Uk.1 hx with rfl | hx
    ·exact hv' id e
    ·exact h.new x (hm2 x hx) id e
theorem sV.fresh {g:aw} {p:List aI} {H0 H:View} {q:Nat} {A:bV Int} (h:sV g p H0 H q A) {n:Nat} (hn:H n=.dead) (o:dy):sV g p H0 (H.set n o) q A:=by
 obtain ⟨c,hq⟩:=h.mp
 have e1:q≠n:=by rintro rfl; rw[hn] at hq; simp at hq
 refine ⟨⟨c,by simp[View.set,e1,hq]⟩,h.nd,h.own.fresh hn,h.ne,h.all,fun id hid=>?_,h.q0,h.new⟩
 have e2:id≠n:=by rintro rfl; rw[h.old id hid] at hn; exact hid hn
 simp[View.set,e2,h.old id hid]
set_option maxHeartbeats 8000000 in
theorem Pw (g:aw) (hf:g.dt) (l:List aI) (hl:∀ x∈l,cq g x) (hn:l.length≤10000) (u:V) (H:View) (ho:bf H u 2 (aS l)):aC Tryz.prog 63 [.agg (au g),u] H fun r H'=>∃ q A,r=.mp q∧sV g l H H' q A:=by
 refine aC.of mixed A7 ?_
 have hlen:cG u=some l.length:=by rw[ho.len,bF]
 have hT:=hf.az
 have hN:=hf.ax
 simp (disch:=omega) only [↓wr,seval,wq,ah,ag,ak,aa,ab,af,ai,ae,y0,au,encS,hlen]
 intro q hq
 have h0:sV g [] H (H.set q (.map [] 0)) q []:=⟨⟨0,by simp[View.set,ct]⟩,by simp,⟨by simp[iR],by simp[iR]⟩,by simp,fun k hk=>absurd rfl hk,fun id hid=>by
  have:id≠q:=by rintro rfl; exact hid hq
  simp[View.set,this],hq,by simp⟩
 generalize H.set q (.map [] 0)=H1 at h0
 try simp (disch:=omega) only [↓wr,seval,wq,ah,ag,ak,aa,ab,af,ai,ae]
 refine bc.up l.length (fun i T H'=>∃ A,sV g (l.take i) H H' q A∧T 2=.aO (au g) 0∧T 5=.mp q∧T 12=u∧T 13=gi l.length∧T 14=gi i) ⟨[],h0,rfl,rfl,rfl,rfl,rfl⟩ ?_
 clear h0 hq
 rintro i k T H' hk ⟨A,hM,t2,t5,t12,t13,t14⟩
 simp (disch:=omega) only [↓wr,seval,wq,ah,ag,ak,aa,ab,af,ai,ae,uN,t2,t5,t12,t13,t14]
 refine av.dec (fun hc=>?_) (fun hc=>?_)
 ·have hx:l[i]?=some (l[i]'(by omega)):=T4 (by omega)
  have hxm:=hl _ (Ud (show i < l.length by omega))
  have htk:l.take (i+1)=l.take i ++ [l[i]'(by omega)]:=by rw[Uw,hx]; rfl
  generalize l[i]'(by omega)=x at hx hxm htk
  have h1:=FY g hf x hxm
  cases hny:bL g x with
  | mk s okb =>
  have hsb:=wL hf hxm hny
  rw[hny] at h1
  have hr6:=eU hf hxm.1
  have hx2:=hxm.2
  obtain ⟨id,hu,hid⟩:=ho.sl (by rw[bF]; omega)
  have hid':H' id=.arr 2 (aS l):=by rw[hM.old id (by rw[hid]; simp),hid]
  rw[bF] at hu
  subst hu
  simp only[au,encS,bK] at h1
  simp (disch:=omega) only [↓wr,seval,wq,ah,ag,ak,aa,ab,af,ai,ae,t2,t5,t12,t13,t14,hid',qc hx]
  refine ⟨by omega,by rw[bF]; omega,?_⟩
  intro q1 hq1
  rw[set_set]
  have hqq:(H'.set q1 (.arr 2 [[gi x.aH,gi x.dot]])) q1=.arr 2 [[gi x.aH,gi x.dot]]:=by simp[View.set]
  have hM2:=hM.fresh hq1 (.arr 2 [[gi x.aH,gi x.dot]])
  generalize H'.set q1 (.arr 2 [[gi x.aH,gi x.dot]])=H4 at hqq hM2
  clear hM hq1 hid'
  try simp (disch:=omega) only [↓wr,seval,wq,ah,ag,ak,aa,ab,af,ai,ae,t2,t5,hqq,au,encS]
  refine aE.pure h1 (by kernel_rfl) ?_
  cases okb with
  | false =>
   simp (disch:=omega) only [↓wr,seval,wq,ah,ag,ak,aa,ab,af,ai,ae,t2,t5,t12,t13,t14]
   exact aN hk (by omega) ⟨A,by rw[htk]; exact hM2.skip (by rw[hny]),t2,t5,t12,t13,rfl⟩
  | true =>
  have hh:=pr hf hxm hny
  obtain ⟨r1,r2⟩:=pn hh
  obtain ⟨r3,r4⟩:=HS r1
  obtain ⟨r,hr⟩:∃ r:Nat,jz g s=r:=⟨(jz g s).toNat,by omega⟩
  rw[hr,Uq] at r4
  have h2:=OV g hf s hsb
  rw[hr] at h2
  simp only[au,encS] at h2
  simp (disch:=omega) only [↓wr,seval,wq,ah,ag,ak,aa,ab,af,ai,ae,t2,t5,au,encS]
  refine aE.pure h2 (by kernel_rfl) ?_
  obtain ⟨c,hmq⟩:=hM2.mp
  simp (disch:=omega) only [↓wr,seval,wq,ah,ag,ak,aa,ab,af,ai,ae,t5]
  refine zu (kt:=3) (et:=27) (z:=.emp 1) (by kernel_rfl) (by kernel_rfl) (kx .i64 Tryz.underlying3) (id:=q) (c:=c) (m:=A) (k:=(r:Int)) (by simp (disch:=omega) only [↓wr,seval,wq,ah,ag,ak,aa,ab,af,ai,ae]) (by simp (disch:=omega) only [↓wr,seval,wq,ah,ag,ak,aa,ab,af,ai,ae]) hmq ?_
  have hov:=hM2.val r
  have hqq1:∀ n o,H4 n=.dead→(H4.set n o) q1=.arr 2 [[gi x.aH,gi x.dot]]:=fun n o hn=>by
   have:q1≠n:=by rintro rfl; rw[hqq] at hn; simp at hn
   simp[View.set,this,hqq]
  try simp (disch:=omega) only [↓wr,seval,wq,ah,ag,ak,aa,ab,af,ai,ae,hqq]
  intro q2 hq2
  have hM3:=hM2.fresh hq2 (.arr 2 [[gi x.aH,gi (x.dot+1)]])
  have hov3:=hM3.val r
  have hel:bX (H4.set q2 (.arr 2 [[gi x.aH,gi (x.dot+1)]])) (.sl q2 0 1 2)=some ([[gi x.aH,gi (x.dot+1)]],[q2]):=by simp[bX,View.set]
  simp (disch:=omega) only [↓wr,seval,wq,ah,ag,ak,aa,ab,af,ai,ae,hel]
  have hml:=sB (g:=g) (l:=l.take i) (s:=aZ g r)
  rw[UN] at hml
  refine ib hov3 (by simp[aX]) (by unfold aK; rw[bF]; simp; omega) (by unfold aK; rw[bF]; simp; omega) ?_
  intro v' H6 o6 l6
  obtain ⟨c3,hmq3⟩:=hM3.mp
  have howq:owner ((getM A (r:Int)).getD (.emp 1))≠some q:=fun e=>by
   have:=(hov3.live e).1
   rw[hmq3] at this; simp at this
  have hmq6:H6 q=.map (ct (Value.int .i64) A) c3:=by
   rw[(l6 q (by rw[hmq3]; simp) howq).1,hmq3]
  simp (disch:=omega) only [↓wr,seval,wq,ah,ag,ak,aa,ab,af,ai,ae,t5]
  refine uU (kt:=3) (et:=27) (by kernel_rfl) (kx .i64 Tryz.underlying3) (id:=q) (c:=c3) (m:=A) (k:=(r:Int)) (v:=v') (by simp (disch:=omega) only [↓wr,seval,wq,ah,ag,ak,aa,ab,af,ai,ae]) (by simp (disch:=omega) only [↓wr,seval,wq,ah,ag,ak,aa,ab,af,ai,ae]) (by simp (disch:=omega) only [↓wr,seval,wq,ah,ag,ak,aa,ab,af,ai,ae]) hmq6 ?_
  intro c'
  simp (disch:=omega) only [↓wr,seval,wq,ah,ag,ak,aa,ab,af,ai,ae,t2,t5,t12,t13,t14]
  have hfin:=hM3.put (y:=x) (r:=r) (by rw[hny,r4]) (H1:=H6) (v':=v') (by
   have e:aS (bu g (l.take i) (aZ g r) ++ [⟨x.aH,x.dot+1⟩])=aS (bu g (l.take i) (aZ g r)) ++ [[gi x.aH,gi (x.dot+1)]]:=by simp[aS,bK]
   rw[e]; exact o6) l6 c3 c'
  exact aN hk (by omega) ⟨bJ (r:Int) v' c3 A,by rw[htk]; exact hfin,t2,t5,t12,t13,rfl⟩
 ·rw[Uo (by omega)] at hM
  simp (disch:=omega) only [↓wr,seval,wq,ah,ag,ak,aa,ab,af,ai,ae,t5]
  exact ⟨q,A,rfl,hM⟩
end Gv
