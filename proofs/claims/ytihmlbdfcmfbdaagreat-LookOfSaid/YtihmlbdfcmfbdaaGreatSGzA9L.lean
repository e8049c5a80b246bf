/-
  Part 12 of the proof: what the machine does and what the functions answer.
  Conditions: those that each lemma names.
-/
import Derived.Shelf.SlSortCmp.NoneTotal
import Derived.Shelf.SlicesG.Cmp
import Derived.StillTailTactics
import Derived.Test.YtihmlbdfcmfbdaaGreatSGzA9K
set_option linter.unusedSimpArgs false
set_option linter.unusedVariables false
set_option maxRecDepth 100000
namespace Gv
open Go Go.Proofs
def fy (l:List dx):List (List V):=l.map jo
def iO (s:aR):List V:=[.aK (aT s.bh),.aK (fy s.bk)]
def bm (a:List aR):V:=.aK (a.map iO)
theorem RW (l:List dx):Tree (.aK (fy l)):=fa _ _ fun x _ v hv=>by simp[jo] at hv; rcases hv with rfl | rfl <;> exact .val _
theorem LV (s:aR):∀ v∈iO s,Tree v:=by
 intro v hv; simp[iO] at hv
 rcases hv with rfl | rfl
 ·exact zR _
 ·exact RW _
theorem mb (a:List aR):Tree (bm a):=fa _ _ fun x _=>LV x
abbrev oW:=V × V × aR
def eT (A:List oW):List (List V):=A.map fun x=>[x.1,x.2.1]
def lT (A:List oW):List cz:=A.flatMap fun x=>[(x.1,2,aT x.2.2.bh),(x.2.1,2,fy x.2.2.bk)]
theorem c4 (A:List oW):(eT A).length=A.length:=by simp[eT]
theorem nh {A:List oW} {x:oW} (hx:x∈A):(x.1,2,aT x.2.2.bh)∈lT A∧(x.2.1,2,fy x.2.2.bk)∈lT A:=by
 constructor <;> exact List.mem_flatMap.2 ⟨x,hx,by simp⟩
theorem DJ {h:aL} {u:V} {A:List oW} (ho:ba h.view u 2 (eT A)) (hb:∀ x∈A,ba h.view x.1 2 (aT x.2.2.bh)∧ba h.view x.2.1 2 (fy x.2.2.bk)):eu h u (bm (A.map fun x=>x.2.2)):=by
 have hg:∀ i (hi:i < A.length),(eT A).getD i []=[(A[i]).1,(A[i]).2.1]∧(((A.map fun x=>x.2.2).map iO).getD i [])=iO (A[i]).2.2:=fun i hi=>by
  simp[eT,U8,hi]
 refine eu.own ho (by simp[eT]) (fun i hi=>?_) (fun i j hi hj=>?_)
 ·have hi':i < A.length:=by simpa [eT] using hi
  rw[(hg i hi').1,(hg i hi').2]; rfl
 ·have hi':i < A.length:=by simpa [eT] using hi
  rw[(hg i hi').2] at hj ⊢
  rw[(hg i hi').1]
  have hx:=hb _ (Vi hi')
  generalize A[i]'hi'=y at hx hj
  obtain ⟨h1,h2⟩:=hx
  match j,hj with
  | 0,_ =>
   refine eu.own h1 rfl (fun i _=>rfl) (fun i j hi hj=>?_)
   rw[bJ] at hi
   have e:(aT y.2.2.bh).getD i []=bE y.2.2.bh[i]:=by simp[aT,U8,hi]
   rw[e] at hj ⊢
   match j,hj with
   | 0,_=>exact .val _
   | 1,_=>exact .val _
  | 1,_ =>
   refine eu.own h2 rfl (fun i _=>rfl) (fun i j hi hj=>?_)
   simp only[fy,Vg] at hi
   have e:(fy y.2.2.bk).getD i []=jo y.2.2.bk[i]:=by simp[fy,U8,hi]
   rw[e] at hj ⊢
   match j,hj with
   | 0,_=>exact .val _
   | 1,_=>exact .val _
  | n+2,hj=>exact absurd hj (by simp[iO])
def oP:SC :=
 .seq (.seq (ao [aj 6 5,aj 7 0,aX 8 7,bc 9 .lss 6 8]) <|
 .cond (.tmp 9) (.skip) (.exit 0)) <|
 .seq (.block 1 (.seq (ao [aj 12 0,aj 13 5,aP 14 2 12 13,aB 15 0 14,ax 16 15,aj 17 1,bC 18 21 [16,17]]) <|
 .cond (.tmp 18) (.seq (ao [aj 19 5,aj 4 19]) <|
 .ret) (.skip))) <|
 ao [aj 10 5,aQ 11 .add 10 1,aj 5 11]
def qw:SF:=⟨.seq (ao [bj 4 0]) <|
 .seq (.seq (ao [bj 5 0]) <|
 .block 0 (.loop oP)) <|
 .seq (ao [bj 4 (-1)]) <|
 .ret,
 [.tmp 4],20⟩
theorem vC:aV Tryz.prog 67 []=some qw:=by kernel_rfl
def nk:SC :=
 .seq (.seq (ao [aj 31 7,aB 32 0 1,ax 33 32,aX 34 33,aB 35 1 1,ax 36 35,aX 37 36,bc 38 .add 34 37,bc 39 .lss 31 38]) <|
 .cond (.tmp 39) (.skip) (.exit 2)) <|
 .seq (.block 3 (.seq (ao [bp 42 4 1,aj 43 7,bC 44 65 [42,43],aj 8 44]) <|
 .seq (ao [bp 45 4 1,aj 46 6,aj 47 8,bC 48 66 [45,46,47],aj 9 48]) <|
 .seq (.seq (ao [aj 49 9,aX 50 49,aQ 51 .eql 50 0]) <|
 .cond (.tmp 51) (.exit 3) (.skip)) <|
 .seq (ao [aj 52 4,aj 53 9,bC 54 67 [52,53],aj 10 54]) <|
 .seq (.seq (ao [aj 55 10,aQ 56 .lss 55 0]) <|
 .cond (.tmp 56) (.seq (ao [aj 57 4,aX 58 57,aj 10 58]) <|
 ao [aj 59 4,aj 60 9,((some 61),.op (.build [(.emp 1),(.emp 1)] [(0,1,(.tmp 60))])),((some 62),.op (.cg 1 2 [(.emp 1),(.emp 1)] [(0,(.tmp 61))])),((some 63),.op (.app 2 48 (.tmp 59) (.tmp 62))),aj 4 63]) (.skip)) <|
 ao [aj 64 4,aj 65 5,aj 66 4,aj 67 5,aP 68 2 66 67,aB 69 1 68,ax 70 69,aj 71 8,aj 72 10,((some 73),.op (.build [(.val (.int .i64 0)),(.val (.int .i64 0))] [(0,1,(.tmp 71)),(1,1,(.tmp 72))])),((some 74),.op (.cg 1 2 [(.val (.int .i64 0)),(.val (.int .i64 0))] [(0,(.tmp 73))])),((some 75),.op (.app 2 16 (.tmp 70) (.tmp 74))),aP 76 2 64 65,aB 77 1 76,(none,.op (.store 1 (.tmp 77) (.tmp 75)))])) <|
 ao [aj 40 7,aQ 41 .add 40 1,aj 7 41]
def mZ:SC :=
 .seq (.seq (ao [aj 18 5,aj 19 4,aX 20 19,bc 21 .lss 18 20]) <|
 .cond (.tmp 21) (.skip) (.exit 0)) <|
 .seq (.block 1 (.seq (ao [bp 24 4 1,aj 25 4,aj 26 5,aP 27 2 25 26,aB 28 0 27,ax 29 28,bC 30 60 [24,29],aj 6 30]) <|
 .seq (.seq (ao [bj 7 0]) <|
 .block 2 (.loop nk)) <|
 .seq (ao [aj 78 4,aX 79 78,aQ 80 .gtr 79 300]) <|
 .cond (.tmp 80) (.seq (ao [((some 2),.op (.bL (.val (.emp 1)))),bj 3 5]) <|
 .ret) (.skip))) <|
 ao [aj 22 5,aQ 23 .add 22 1,aj 5 23]
def oX:SF:=⟨.seq (ao [cL 1 0,((some 2),.op (.bL (.val (.emp 1)))),bj 3 0]) <|
 .seq (.seq (ao [bp 11 4 1,bC 12 30 [11],dd 13 12]) <|
 .cond (.tmp 13) (.seq (ao [((some 2),.op (.bL (.val (.emp 1)))),bj 3 1]) <|
 .ret) (.skip)) <|
 .seq (ao [((some 14),.op (.build [(.val (.int .i64 0)),(.val (.int .i64 0))] [(0,1,(.val (.val (.int .i64 (-1)))))])),((some 15),.op (.cg 1 2 [(.val (.int .i64 0)),(.val (.int .i64 0))] [(0,(.tmp 14))])),((some 16),.op (.build [(.emp 1),(.emp 1)] [(0,1,(.tmp 15))])),((some 17),.op (.cg 1 2 [(.emp 1),(.emp 1)] [(0,(.tmp 16))])),aj 4 17]) <|
 .seq (.seq (ao [bj 5 0]) <|
 .block 0 (.loop mZ)) <|
 .seq (ao [aj 81 4,aj 2 81,bj 3 0]) <|
 .ret,
 [.tmp 2,.tmp 3],82⟩
theorem uH:aV Tryz.prog 25 [1]=some oX:=by kernel_rfl
theorem K2:∀ (a:List aR) (k:List aH) (i:Nat),(∀ j s,j < i→a[j]?=some s→s.bh≠k)→(∀ s,a[i]?=some s→s.bh=k→findD a k=i)∧(i=a.length→findD a k = -1):=by
 intro a k i h
 refine ⟨fun s h1 h2=>G3 a k i s h1 h2 h,fun e=>?_⟩
 subst e
 refine BR a k fun s hs=>?_
 obtain ⟨j,hj,e⟩:=Wl.1 hs
 exact h j s hj (by rw[U9 hj,e])
theorem NT (a:List aR) (ha:aS a) (hs:∀ s∈a,aS s.bh) (k:List aH) (hk:aS k):aI Tryz.prog 67 [bm a,.aK (aT k)] (gi (findD a k)):=by
 unfold aS at ha
 refine aI.val (by
  intro v hv; simp at hv
  rcases hv with rfl | rfl
  ·exact mb _
  ·exact zR _) fun H=>?_
 refine aC.of mixed vC ?_
 simp (disch:=omega) only [↓wr,seval,wq,ah,ag,ak,aa,ab,af,ai,ae,qw,bm]
 refine aZ.up a.length (fun i T H'=>(∀ j s,j < i→a[j]?=some s→s.bh≠k)∧T 0=bm a∧T 1=.aK (aT k)∧T 5=gi i) ⟨fun j s h=>by omega,rfl,rfl,rfl⟩ ?_
 rintro i n T H' hn ⟨hall,t0,t1,t5⟩
 obtain ⟨f1,f2⟩:=K2 a k i hall
 simp (disch:=omega) only [↓wr,seval,wq,ah,ag,ak,aa,ab,af,ai,ae,oP,t0,t1,t5,bm]
 refine av.dec (fun hc=>?_) (fun hc=>?_)
 ·have hx:a[i]?=some (a[i]'(by omega)):=U9 (by omega)
  have hm:=hs _ (Vi (show i < a.length by omega))
  generalize a[i]'(by omega)=x at hx hm
  simp (disch:=omega) only [↓wr,seval,wq,ah,ag,ak,aa,ab,af,ai,ae,t0,t1,t5,bm,Vc,hx,Vh,iO]
  refine aD.pure (KR x.bh k hm hk) (by kernel_rfl) ?_
  simp (disch:=omega) only [↓wr,seval,wq,ah,ag,ak,aa,ab,af,ai,ae,t0,t1,t5]
  refine av.split (fun e=>?_) (fun e=>?_)
  ·simp (disch:=omega) only [↓wr,seval,wq,ah,ag,ak,aa,ab,af,ai,ae,t0,t1,t5]
   rw[f1 x hx (by simpa using e)]
  ·simp (disch:=omega) only [↓wr,seval,wq,ah,ag,ak,aa,ab,af,ai,ae,t0,t1,t5]
   refine aM hn (by omega) ⟨fun j s hj hjs=>?_,t0,t1,rfl⟩
   rcases Vy j i with h | h
   ·exact hall j s h hjs
   ·have:j=i:=by omega
    subst this
    rw[hx] at hjs; simp at hjs; subst hjs
    simpa using e
 ·simp (disch:=omega) only [↓wr,seval,wq,ah,ag,ak,aa,ab,af,ai,ae,t0,t1,t5]
  rw[f2 (by omega)]
theorem L6 {g:aw} (hf:g.dK) {s:aR} (h:cB s.bh∧s.bh≠[]∧∀ x∈s.bh,cr g x):aS s.bh:=by
 have:=hX hf h.1 h.2.2; unfold aS; omega
theorem dT.U2 {H:View} {u:V} {A:List oW} {L:List cz} (h:bt H ((u,2,eT A) :: L)) (hL:∀ x∈lT A,x∈L):dT H u (bm (A.map fun x=>x.2.2)):=by
 rintro h' rfl
 exact (DJ h.head fun x hx=>⟨h.1 _ (Vt _ (hL _ (nh hx).1)),h.1 _ (Vt _ (hL _ (nh hx).2))⟩).fr
theorem dT.lr {H:View} {u:V} {l:List aH} (h:ba H u 2 (aT l)):dT H u (.aK (aT l)) :=
 dT.own h fun e he v hv=>by
  obtain ⟨x,_,rfl⟩:=Vw.1 he
  simp[bE] at hv; rcases hv with rfl | rfl <;> exact .val _
theorem j9 {h:aL} {u v:V} {e:Int} (h1:eu h u v):eu h (.bI [u,gi e]) (.bI [v,gi e]):=.bI _ _ rfl fun i hi=>by
 match i,hi with
 | 0,_=>exact h1
 | 1,_=>exact .val _
theorem mO {α:Type} {l:List α} {i:Nat} (h:i < l.length):∃ a x b,l=a ++ x :: b∧a.length=i∧l[i]?=some x :=
 ⟨l.take i,l[i],l.drop (i+1),by rw[← VT h,List.take_append_drop],by simp; omega,U9 h⟩
theorem B3 {α:Type} (a:List α) (x:α) (b:List α) (f:α→α):(a ++ x :: b).modify a.length f=a ++ f x :: b:=by
 induction a with
 | nil=>rfl
 | cons y a ih=>simp only[VL,Vr,List.modify_succ_cons,ih]
theorem ka {g:aw} (h:isRed g=true):bS g=true:=by
 unfold isRed at h
 simp only[Vm,Wd,Vo] at h
 refine Wc fun hn=>?_
 have h1:=h.1
 unfold gm at h1
 simp[hn] at h1
theorem oo {g:aw} (h:isRed g=true):g.dK:=bO (ka h)
theorem UE {α:Type} {a b c:α} {l:List α} : (a :: b :: c :: l).Perm (c :: b :: a :: l):=(List.Perm.swap _ _ _).trans (((List.Perm.swap _ _ _).cons _).trans (List.Perm.swap _ _ _))
theorem SL {α:Type} {e u p r:α} {S:List α} : (e :: u :: p :: r :: S).Perm (u :: r :: (S ++ [p,e])) :=
 (List.Perm.swap _ _ _).trans (.cons _ (UE.trans (.cons _ (List.perm_append_comm (l₁:=[p,e]) (l₂:=S)))))
theorem Oq {α:Type} {u r k e:α} {S1 S2:List α} : (u :: r :: (S1 ++ k :: e :: S2)).Perm (e :: u :: r :: (S1 ++ k :: S2)):=by
 have h:(S1 ++ k :: e :: S2).Perm (e :: (S1 ++ k :: S2)):=by
  have:=VS (a:=e) (l₁:=S1 ++ [k]) (l₂:=S2)
  simpa using this
 exact (((h.cons r).cons u).trans ((List.Perm.swap _ _ _).cons u)).trans (List.Perm.swap _ _ _)
theorem zV (A:List oW) (x:oW) (B:List oW):lT (A ++ x :: B)=lT A ++ (x.1,2,aT x.2.2.bh) :: (x.2.1,2,fy x.2.2.bk) :: lT B:=by simp[lT]
def Ub (g:aw) (m:Nat) (T:Env) (H:View):Prop:=∃ (at_:Nat) (u:V) (A:List oW) (out:List aR),m+at_=302∧out=A.map (fun x=>x.2.2)∧bt H ((u,2,eT A) :: lT A)∧dU g at_ 0 out∧1≤out.length∧out.length≤300∧fF g m at_ out=cG g∧at_≤out.length ∧
 T 1=.aN (au g) 0∧T 4=u∧T 5=gi at_
set_option maxHeartbeats 16000000 in
theorem KN (g:aw) (hg:g.Ok):cR Tryz.prog 25 [.agg (au g)] (.bI [bm (cG g).1,gi (cG g).2]):=by
 refine cR.of (dZ g) ?_
 have hIs:=SH g hg
 refine aC.of mixed uH ?_
 simp only[au,encS] at hIs
 simp (disch:=omega) only [↓wr,seval,wq,ah,ag,ak,aa,ab,af,ai,ae,oX,au,encS]
 refine aD.pure hIs (by kernel_rfl) ?_
 simp (disch:=omega) only [↓wr,seval,wq,ah,ag,ak,aa,ab,af,ai,ae]
 refine av.split (fun hr=>?_) (fun hr=>?_)
 rotate_left
 ·simp (disch:=omega) only [↓wr,seval,wq,ah,ag,ak,aa,ab,af,ai,ae]
  intro h' _
  have e:cG g=([],1):=by unfold cG; rw[Va (by rw[hr]; simp)]
  rw[e]
  exact j9 (.emp _)
 have hf:g.dK:=oo hr
 have e0:fF g 302 0 dX=cG g:=by unfold cG; rw[Vd hr]
 have hT:=hf.ay; have hN:=hf.az
 simp (disch:=omega) only [↓wr,seval,wq,ah,ag,ak,aa,ab,af,ai,ae]
 intro q1 q2 hq2
 have o0:bt (((View.set (fun _=>cZ.dead) q1 (.arr 2 [[gi (-1),gi 0]])).set q2 (.arr 2 [[.sl q1 0 1 2,.emp 1]]))) ((.sl q2 0 1 2,2,eT [(.sl q1 0 1 2,.emp 1,⟨[⟨-1,0⟩],[]⟩)]) :: lT [(.sl q1 0 1 2,.emp 1,⟨[⟨-1,0⟩],[]⟩)]) :=
  (((bt.nil.emp (k:=1) (sz:=2)).new (n:=q1) rfl 2 [[gi (-1),gi 0]]).new (by simpa [View.set] using hq2) 2 [[.sl q1 0 1 2,.emp 1]])
 generalize (View.set (fun _=>cZ.dead) q1 (.arr 2 [[gi (-1),gi 0]])).set q2 (.arr 2 [[.sl q1 0 1 2,.emp 1]])=H0 at o0 ⊢
 refine aZ.intro (Ub g) 302 ⟨0,_,_,dX,rfl,rfl,o0,na,Vj _,by simp[dX],e0,by omega,rfl,rfl,rfl⟩ ?_
 clear o0 hq2
 rintro m T H ⟨at_,u,A,out,hm,rfl,ho,hI,h1,h300,hl,hle,t1,t4,t5⟩
 have hlu:cH u=some A.length:=by rw[ho.head.len,c4]
 simp only[Vg] at h1 h300 hle
 simp (disch:=omega) only [↓wr,seval,wq,ah,ag,ak,aa,ab,af,ai,ae,mZ,t1,t4,t5,hlu]
 refine av.dec (fun hc=>?_) (fun hc=>?_)
 rotate_left
 ·simp (disch:=omega) only [↓wr,seval,wq,ah,ag,ak,aa,ab,af,ai,ae,t1,t4,t5]
  have e1:cG g=(A.map (fun x=>x.2.2),0):=by
   rw[← hl]
   cases m with
   | zero=>rfl
   | succ m=>rw[fF,Va (by simp; omega)]
  rw[e1]
  rintro h' rfl
  exact j9 (DJ ho.head fun x hx=>⟨ho.1 _ (Vt _ (nh hx).1),ho.1 _ (Vt _ (nh hx).2)⟩)
 obtain ⟨m,rfl⟩:∃ q,m=q+1:=⟨m - 1,by omega⟩
 have hat:at_ < A.length:=by omega
 obtain ⟨A1,x,A2,rfl,hA1,hx⟩:=mO hat
 have hxm:x∈A1 ++ x :: A2:=by simp
 obtain ⟨hk1,hk2,hk3⟩:=hI.bh x.2.2 (List.mem_map_of_mem hxm)
 have hkl:=hX hf hk1 hk3
 have hh:ba H u 2 (eT (A1 ++ x :: A2)):=ho.head
 obtain ⟨id,hu,hid⟩:=hh.sl (by rw[c4]; omega)
 have hgx:(eT (A1 ++ x :: A2)).getD at_ []=[x.1,x.2.1]:=by simp[eT,U8,← hA1]
 have hcl:cw g ((List.map (fun x=>x.2.2) (A1 ++ x :: A2)).getD at_ bH).bh=cw g x.2.2.bh:=by
  rw[U8,Vc,hx]; rfl
 have hrow:=fun n hn=>dU.row (hI.oA hf (show at_ < ((A1 ++ x :: A2).map fun x=>x.2.2).length by simpa using hat)).1 (hI.oA hf (show at_ < ((A1 ++ x :: A2).map fun x=>x.2.2).length by simpa using hat)).2 hI n hn
 rw[fF,Vd (by simpa using hat),AM] at hl
 rw[hcl] at hl hrow
 have hcs:=jU g x.2.2.bh
 have hch:∀ y∈cw g x.2.2.bh,cr g y:=fun y hy=>((cY hf hk3).1 hy).has hk3
 rw[c4] at hu
 simp (disch:=omega) only [↓wr,seval,wq,ah,ag,ak,aa,ab,af,ai,ae,t1,t4,t5,hu,hid,hgx,au,encS]
 refine ⟨by omega,by rw[c4]; omega,?_⟩
 refine aD.dP ((zr g hf x.2.2.bh hk3 (by omega) x.1 H (ho.1 _ (Vt _ (nh hxm).1))).mono ?_)
 rintro r H2 ⟨or,fr⟩
 have o2:=ho.G4 or fr
 clear or fr hid hgx hcl hx
 generalize cw g x.2.2.bh=cl at *
 generalize hout0:(A1 ++ x :: A2).map (fun x=>x.2.2)=out0 at *
 have hol:out0.length=(A1 ++ x :: A2).length:=by rw[← hout0]; simp
 simp (disch:=omega) only [↓wr,seval,wq,ah,ag,ak,aa,ab,af,ai,ae,t1,t4,t5]
 refine aZ.up (g.ay.length+g.az.length) (fun i T H'=>∃ (u:V) (A:List oW),A.map (fun x=>x.2.2)=(List.range i).foldl (df g cl at_) out0∧bt H' ((r,2,aT cl) :: (u,2,eT A) :: lT A)∧T 1=.aN (au g) 0∧T 4=u∧T 5=gi at_∧T 6=r∧T 7=gi i)
  ⟨u,_,hout0,o2,t1,by rw[← hu]; exact t4,t5,rfl,rfl⟩ ?_
 rw[← hol] at h1 h300 hle hat
 clear o2 ho hh hu t1 t4 t5 hlu hout0 hxm hol hc hk1 hk2 hk3 hkl hA1
 clear u H2 H T id A1 x A2
 rintro i k T H' hk ⟨u,A,hA,ho,t1,t4,t5,t6,t7⟩
 obtain ⟨iI,il1,il2⟩:=hrow i (by omega)
 rw[← hA] at iI il1 il2
 rw[Vg] at il1 il2
 have hlu:cH u=some A.length:=by rw[ho.tail.head.len,c4]
 have hcl':=hX hf hcs hch
 simp (disch:=omega) only [↓wr,seval,wq,ah,ag,ak,aa,ab,af,ai,ae,nk,t1,t4,t5,t6,t7,au,encS]
 refine av.dec (fun hc=>?_) (fun hc=>?_)
 rotate_left
 ·have hi:i=g.ay.length+g.az.length:=by omega
  subst hi
  rw[← hA] at hl
  simp (disch:=omega) only [↓wr,seval,wq,ah,ag,ak,aa,ab,af,ai,ae,t1,t4,t5,t6,hlu]
  refine av.dec (fun h3=>?_) (fun h3=>?_)
  ·simp (disch:=omega) only [↓wr,seval,wq,ah,ag,ak,aa,ab,af,ai,ae]
   intro h' _
   rw[Vd (by rw[Vg]; omega)] at hl
   rw[← hl]
   exact j9 (.emp _)
  ·simp (disch:=omega) only [↓wr,seval,wq,ah,ag,ak,aa,ab,af,ai,ae,t1,t4,t5]
   rw[Va (by rw[Vg]; omega)] at hl
   exact ⟨m,by omega,at_+1,u,A,_,by omega,rfl,ho.tail,iI.next,by rw[Vg]; omega,by rw[Vg]; omega,hl,by rw[Vg]; omega,t1,t4,rfl⟩
 have hcN:i < g.ay.length+g.az.length:=by omega
 have hs15:=IS g hf i hcN
 have hsb:=C5 hf hcN
 simp only[au,encS] at hs15
 simp (disch:=omega) only [↓wr,seval,wq,ah,ag,ak,aa,ab,af,ai,ae,t1,t4,t5,t6,t7,au,encS]
 refine aD.pure hs15 (by kernel_rfl) ?_
 simp (disch:=omega) only [↓wr,seval,wq,ah,ag,ak,aa,ab,af,ai,ae,t1,t4,t5,t6,t7,au,encS]
 refine aD.dP ((Lf g hf cl hcs hch (bf g i) r H' ho.head).mono ?_)
 rintro r9 H9 ⟨or,fr⟩
 have o9:=ho.G4 or fr
 have hml:=sq (g:=g) (l:=cl) (s:=bf g i)
 have hl9:cH r9=some (bz g cl (bf g i)).length:=by rw[or.len,bJ]
 have hstep:(List.range (i+1)).foldl (df g cl at_) out0=df g cl at_ (A.map fun x=>x.2.2) i:=by rw[V0,VR,← hA]; rfl
 simp (disch:=omega) only [↓wr,seval,wq,ah,ag,ak,aa,ab,af,ai,ae,t1,t4,t5,t6,t7,hl9]
 refine av.eq (fun he=>?_) (fun he=>?_)
 ·have hnil:bz g cl (bf g i)=[]:=Ws.1 (by omega)
  simp (disch:=omega) only [↓wr,seval,wq,ah,ag,ak,aa,ab,af,ai,ae,t1,t4,t5,t6,t7]
  exact aM hk (by omega) ⟨u,A,by rw[hstep,df,Vd hnil],o9.tail,t1,t4,t5,t6,rfl⟩
 have hne:bz g cl (bf g i)≠[]:=fun e=>he (by rw[e]; rfl)
 simp (disch:=omega) only [↓wr,seval,wq,ah,ag,ak,aa,ab,af,ai,ae,t1,t4,t5,t6,t7]
 have hfind:=NT (A.map fun x=>x.2.2) (by unfold aS; rw[Vg]; omega) (fun s hs=>L6 hf (iI.bh s hs)) (bz g cl (bf g i)) (by unfold aS; omega)
 refine aD.wM hfind (by kernel_rfl) (.val _) ⟨dT.U2 o9.tail.tail (fun x hx=>hx),dT.lr or,trivial⟩ ?_
 have hfl:=xe (A.map fun x=>x.2.2) (bz g cl (bf g i))
 have hfg:=sw (A.map fun x=>x.2.2) (bz g cl (bf g i))
 rw[Vg] at hfl
 have hat2:at_ < A.length:=by omega
 simp (disch:=omega) only [↓wr,seval,wq,ah,ag,ak,aa,ab,af,ai,ae,t1,t4,t5,t6,t7]
 obtain ⟨A1,x,A2,hAs,hA1,hx⟩:=mO hat2
 have hxe:x.2.2.bk.length≤40:=(iI.bk at_ x.2.2 (by rw[Vc,hx]; rfl)).1
 have hgx:∀ B,(eT (A1 ++ x :: B)).getD at_ []=[x.1,x.2.1]:=fun B=>by simp[eT,U8,← hA1]
 have hput:∀ (B:List oW) (c:dx),((A1 ++ x :: B).map fun x=>x.2.2).modify at_ (fun s=>(⟨s.bh,s.bk ++ [c]⟩:aR))=(A1 ++ (x.1,x.2.1,(⟨x.2.2.bh,x.2.2.bk ++ [c]⟩:aR)) :: B).map fun x=>x.2.2:=fun B c=>by
  rw[VB,VC,← hA1,← Vg (f:=fun x:oW=>x.2.2),B3,VB,VC]
 refine av.dec (fun hneg=>?_) (fun hneg=>?_)
 simp (disch:=omega) only [↓wr,seval,wq,ah,ag,ak,aa,ab,af,ai,ae,t1,t4,t5,t6,t7,hlu,or.cells,or.gR]
 intro q hq
 simp (disch:=omega) only [↓wr,seval,wq,ah,ag,ak,aa,ab,af,ai,ae,bV]
 have o10:=(o9.fresh (o:=.arr 2 [[r9,.emp 1]]) hq).at 2 (by simp)
 refine cn o10 (by simp[or.gR,zN]) (by unfold aJ; rw[c4]; simp; omega) (by unfold aJ; rw[c4]; simp; omega) ?_
 intro u2 H10 o11 _
 simp only[WG,Wv,Wf,Wg] at o11
 have o12:=(o11.emp (k:=1) (sz:=2)).perm SL
 have hst:df g cl at_ (A.map fun x=>x.2.2) i=((A1 ++ x :: (A2 ++ [(r9,.emp 1,(⟨bz g cl (bf g i),[]⟩:aR))])).map fun x=>x.2.2).modify at_ (fun s=>(⟨s.bh,s.bk ++ [⟨bf g i,(A.length:Int)⟩]⟩:aR)):=by
  rw[df,Va hne,Vd hneg,Vg]
  congr 1
  rw[hAs]; simp
 have o13:bt H10 ((u2,2,eT (A1 ++ x :: (A2 ++ [(r9,.emp 1,(⟨bz g cl (bf g i),[]⟩:aR))]))) :: (r,2,aT cl) :: lT (A1 ++ x :: (A2 ++ [(r9,.emp 1,(⟨bz g cl (bf g i),[]⟩:aR))]))):=by
  have e1:eT (A1 ++ x :: (A2 ++ [(r9,.emp 1,(⟨bz g cl (bf g i),[]⟩:aR))]))=eT A ++ [[r9,.emp 1]]:=by rw[hAs]; simp[eT]
  have e2:lT (A1 ++ x :: (A2 ++ [(r9,.emp 1,(⟨bz g cl (bf g i),[]⟩:aR))]))=lT A ++ [(r9,2,aT (bz g cl (bf g i))),(.emp 1,2,[])]:=by rw[hAs]; simp[lT]; rfl
  rw[e1,e2]
  exact o12
 generalize (A2 ++ [(r9,V.emp 1,(⟨bz g cl (bf g i),[]⟩:aR))])=B at hst o13
 generalize (A.length:Int)=to at hst ⊢
 rotate_left
 have hst:df g cl at_ (A.map fun x=>x.2.2) i=((A1 ++ x :: A2).map fun x=>x.2.2).modify at_ (fun s=>(⟨s.bh,s.bk ++ [⟨bf g i,findD (A.map fun x=>x.2.2) (bz g cl (bf g i))⟩]⟩:aR)):=by
  rw[df,Va hne,Va hneg,← hAs]
 have o13:=o9.tail.perm (.swap _ _ _)
 clear or fr
 generalize H9=H10 at o9 o13 ⊢
 obtain ⟨u2,hu2⟩:∃ y,y=u:=⟨_,rfl⟩
 rw[← hu2] at o13 t4
 rw[hAs] at o13
 generalize findD (A.map fun x=>x.2.2) (bz g cl (bf g i))=to at hst ⊢
 generalize A2=B at hst o13
 all_goals (
  obtain ⟨id,hu,hid⟩:=(show ba H10 u2 2 (eT (A1 ++ x :: B)) from o13.head).sl (by rw[c4]; simp; omega)
  rw[c4] at hu
  rw[zV] at o13
  simp (disch:=omega) only [↓wr,seval,wq,ah,ag,ak,aa,ab,af,ai,ae,t1,t4,t5,t6,t7,hu,hid,hgx B]
  refine ⟨by simp; omega,by rw[c4]; simp; omega,?_⟩
  intro q2 hq2
  simp (disch:=omega) only [↓wr,seval,wq,ah,ag,ak,aa,ab,af,ai,ae,bV]
  refine cn ((o13.perm Oq).fresh hq2) (by simp[aU]) (by unfold aJ; simp[fy]; omega) (by unfold aJ; simp[fy]; omega) ?_
  intro e2 H11 o14 _
  have hid2:H11 id=.arr 2 (eT (A1 ++ x :: B)):=((o14.own 1 rfl).live (by rw[hu]; rfl)).1
  simp (disch:=omega) only [↓wr,seval,wq,ah,ag,ak,aa,ab,af,ai,ae,t1,t4,t5,t6,t7,hu,hid2,hgx B,o14.head.cells,o14.head.gR]
  have hset:(eT (A1 ++ x :: B)).set at_ [x.1,e2]=eT (A1 ++ (x.1,e2,(⟨x.2.2.bh,x.2.2.bk ++ [⟨bf g i,to⟩]⟩:aR)) :: B):=by
   rw[← hA1]; simp[eT]
  have hpd:fy (x.2.2.bk ++ [⟨bf g i,to⟩])=fy x.2.2.bk ++ [[gi (bf g i),gi to]]:=by simp[fy,jo]
  have o15:=o14.perm (.swap _ _ _)
  rw[hu] at o15
  have o16:=((o15.put (es':=eT (A1 ++ (x.1,e2,(⟨x.2.2.bh,x.2.2.bk ++ [⟨bf g i,to⟩]⟩:aR)) :: B)) (by rw[c4,c4]; simp) (by rw[c4])).perm (.swap _ _ _)).perm Oq.symm
  rw[← hpd] at o16
  have o17:=o16.perm (.swap _ _ _)
  rw[← hu] at o17
  rw[hset]
  refine ⟨by simp; omega,by rw[c4]; simp; omega,aM hk (by omega) ⟨u2,_,?_,by rw[zV]; exact o17,t1,by first | rfl | exact t4 | exact hu.symm,t5,t6,rfl⟩⟩
  rw[hstep,hst,hput]; simp)
abbrev gw (s:BV):V:=.val (.int .u32 s.toNat)
abbrev bT (l:List BV):List (List V):=l.map fun x=>[gw x]
abbrev Bi (l:List BV):V:=.aK (bT l)
theorem MK (l:List BV):Tree (Bi l):=fa _ _ fun x _ v hv=>by simp at hv; subst hv; exact .val _
theorem LS {x:Int} (h1:0≤x) (h2:x < 4294967296):IntKind.wrap .u32 x=x:=by
 unfold IntKind.wrap
 have e1:(2:Int) ^ IntKind.u32.bits=4294967296:=by rfl
 have e3:IntKind.u32.signed=false:=by rfl
 simp only[e1,e3,WN,Vo]
 simp
 omega
theorem QX (s:BV):IntKind.wrap .u32 (s.toNat:Int)=s.toNat:=LS (by omega) (by have:=s.isLt; omega)
theorem Cu (s:BV):BitVec.ofInt IntKind.u32.bits (s.toNat:Int)=s:=by
 show BitVec.ofInt 32 (s.toNat:Int)=s
 rw[BitVec.ofInt_natCast,BitVec.ofNat_toNat,BitVec.setWidth_eq]
theorem sC (s t:BV):IntKind.wrap .u32 ((BitVec.ofInt IntKind.u32.bits (s.toNat:Int) ||| BitVec.ofInt IntKind.u32.bits (t.toNat:Int)).toNat:Int)=((s ||| t).toNat:Int):=by
 rw[Cu,Cu]; exact QX (s ||| t)
theorem QB (s t:BV):IntKind.wrap .u32 ((BitVec.ofInt IntKind.u32.bits (s.toNat:Int) &&& ~~~(BitVec.ofInt IntKind.u32.bits (t.toNat:Int))).toNat:Int)=((s &&& ~~~t).toNat:Int):=by
 rw[Cu,Cu]; exact QX (s &&& ~~~t)
theorem toNat_zero {s:BV} : ((s.toNat:Nat):Int)=0↔s=0:=by
 constructor
 ·intro h; exact BitVec.eq_of_toNat_eq (by simpa using h)
 ·rintro rfl; rfl
def pb:SC :=
 .seq (.seq (ao [aj 11 4,aj 12 0,bc 13 .lss 11 12]) <|
 .cond (.tmp 13) (.skip) (.exit 0)) <|
 .seq (.block 1 (ao [aj 16 3,((some 17),.op (.arith .mul (.tmp 16) (.val (.val (.int .u32 2))))),aj 3 17])) <|
 ao [aj 14 4,aQ 15 .add 14 1,aj 4 15]
def rC:SF:=⟨.seq (ao [((some 2),.op (.bL (.val (.val (.int .u32 0)))))]) <|
 .seq (.seq (.region false [⟨none,[aj 5 0,aQ 6 .lss 5 0,aj 7 6]⟩,⟨(some (7,false)),[aj 8 0,aQ 9 .gtr 8 31]⟩,⟨none,[c6 10 7 9]⟩]) <|
 .cond (.tmp 10) (.seq (ao [((some 2),.op (.bL (.val (.val (.int .u32 0)))))]) <|
 .ret) (.skip)) <|
 .seq (ao [((some 3),.op (.bL (.val (.val (.int .u32 1)))))]) <|
 .seq (.seq (ao [bj 4 0]) <|
 .block 0 (.loop pb)) <|
 .seq (ao [aj 18 3,aj 2 18]) <|
 .ret,
 [.tmp 2],19⟩
theorem wO:aV Tryz.prog 77 []=some rC:=by kernel_rfl
def qZ:SC :=
 .seq (.seq (ao [aj 11 10,aj 12 0,aX 13 12,bc 14 .lss 11 13]) <|
 .cond (.tmp 14) (.skip) (.exit 0)) <|
 .seq (.block 1 (.seq (.seq (ao [aj 17 0,aj 18 10,aP 19 1 17 18,ax 20 19,aQ 21 .geq 20 0]) <|
 .cond (.tmp 21) (.seq (ao [aj 22 9,aj 23 0,aj 24 10,aP 25 1 23 24,ax 26 25,bC 27 77 [26],bc 28 .or 22 27,aj 8 28]) <|
 .ret) (.skip)) <|
 .seq (ao [aj 29 9,aj 30 2,aj 31 0,aj 32 10,aP 33 1 31 32,ax 34 33,((some 35),.op (.arith .sub (.val (.val (.int .i64 (-1)))) (.tmp 34))),aP 36 1 30 35,ax 37 36,bc 38 .or 29 37,aj 9 38]) <|
 .seq (ao [aj 39 1,aj 40 0,aj 41 10,aP 42 1 40 41,ax 43 42,((some 44),.op (.arith .sub (.val (.val (.int .i64 (-1)))) (.tmp 43))),aP 45 1 39 44,ax 46 45,dd 47 46]) <|
 .cond (.tmp 47) (.seq (ao [aj 48 9,aj 8 48]) <|
 .ret) (.skip))) <|
 ao [aj 15 10,aQ 16 .add 15 1,aj 10 16]
def sP:SF:=⟨.seq (ao [((some 8),.op (.bL (.val (.val (.int .u32 0)))))]) <|
 .seq (ao [((some 9),.op (.bL (.val (.val (.int .u32 0)))))]) <|
 .seq (.seq (ao [bj 10 0]) <|
 .block 0 (.loop qZ)) <|
 .seq (ao [aj 49 9,aj 50 3,bc 51 .or 49 50,aj 8 51]) <|
 .ret,
 [.tmp 8],52⟩
theorem x6:aV Tryz.prog 83 []=some sP:=by kernel_rfl
def nA:SC :=
 .seq (.seq (ao [aj 24 6,aB 25 2 1,ax 26 25,aX 27 26,bc 28 .lss 24 27]) <|
 .cond (.tmp 28) (.skip) (.exit 2)) <|
 .seq (.block 3 (.seq (ao [aB 31 2 1,ax 32 31,aj 33 6,aP 34 3 32 33,bp 35 3 34,((some 7),.op (.alloc [(.val (.int .i64 0)),(.emp 1),(.val (.int .i64 0))])),(none,.op (.store 3 (.tmp 7) (.tmp 35)))]) <|
 .region true [⟨none,[aj 36 4,aB 37 0 7,ax 38 37,aj 39 4,aB 40 0 7,ax 41 40,aP 42 1 39 41,ax 43 42,aB 44 1 7,ax 45 44,aj 46 3,aj 47 4,oc 48 83 [(.tmp 45),(.tmp 46),(.tmp 47),(.val (.val (.int .u32 0)))],bc 49 .or 43 48,aP 50 1 36 38,(none,.op (.store 1 (.tmp 50) (.tmp 49)))]⟩])) <|
 ao [aj 29 6,aQ 30 .add 29 1,aj 6 30]
def nL:SC :=
 .seq (.seq (ao [aj 17 5,aB 18 1 1,ax 19 18,aX 20 19,bc 21 .lss 17 20]) <|
 .cond (.tmp 21) (.skip) (.exit 0)) <|
 .seq (.block 1 (.seq (ao [bj 6 0]) <|
 .block 2 (.loop nA))) <|
 ao [aj 22 5,aQ 23 .add 22 1,aj 5 23]
def pr:SF:=⟨.seq (ao [cL 1 0,((some 2),.op (.bL (.val (.emp 1))))]) <|
 .seq (.seq (ao [bp 8 4 1,bC 9 54 [8],dd 10 9]) <|
 .cond (.tmp 10) (.seq (ao [((some 2),.op (.bL (.val (.emp 1))))]) <|
 .ret) (.skip)) <|
 .seq (ao [bp 11 4 1,bC 12 81 [11],aj 3 12]) <|
 .seq (ao [aB 13 1 1,ax 14 13,aX 15 14,((some 16),.op (.make 1 4 [(.val (.int .u32 0))] (.tmp 15) (.tmp 15))),aj 4 16]) <|
 .seq (.seq (ao [bj 5 0]) <|
 .block 0 (.loop nL)) <|
 .seq (ao [aj 51 4,aj 2 51]) <|
 .ret,
 [.tmp 2],52⟩
theorem uF:aV Tryz.prog 82 [1]=some pr:=by kernel_rfl
theorem GA {n:Int} (h:0≤n∧n≤31):(dN n).toNat=2 ^ n.toNat:=by
 rw[dN,Vd h,BitVec.toNat_twoPow]
 exact Nat.mod_eq_of_lt (Nat.pow_lt_pow_right (by omega) (by omega))
theorem Ga (n:Int):aI Tryz.prog 77 [gi n] (gw (dN n)):=by
 refine aI.val (by intro v hv; simp at hv; subst hv; exact .val _) fun H=>?_
 refine aC.of mixed wO ?_
 simp (disch:=omega) only [↓wr,seval,wq,ah,ag,ak,aa,ab,af,ai,ae,rC]
 have bad:¬ (0≤n∧n≤31)→dN n=0:=fun h=>by rw[dN,Va h]
 refine av.dec (fun h1=>?_) (fun h1=>?_)
 ·simp (disch:=omega) only [↓wr,seval,wq,ah,ag,ak,aa,ab,af,ai,ae]
  rw[bad (by omega)]; rfl
 simp (disch:=omega) only [↓wr,seval,wq,ah,ag,ak,aa,ab,af,ai,ae]
 refine av.dec (fun h2=>?_) (fun h2=>?_)
 ·simp (disch:=omega) only [↓wr,seval,wq,ah,ag,ak,aa,ab,af,ai,ae]
  rw[bad (by omega)]; rfl
 simp (disch:=omega) only [↓wr,seval,wq,ah,ag,ak,aa,ab,af,ai,ae]
 refine aZ.up n.toNat (fun i T H'=>T 0=gi n∧T 3=.val (.int .u32 ((2 ^ i:Nat):Int))∧T 4=gi i) ⟨rfl,rfl,rfl⟩ ?_
 rintro i k T H' hk ⟨t0,t3,t4⟩
 simp (disch:=omega) only [↓wr,seval,wq,ah,ag,ak,aa,ab,af,ai,ae,pb,t0,t3,t4]
 refine av.dec (fun hc=>?_) (fun hc=>?_)
 ·have h31:2 ^ (i+1)≤2 ^ 31:=Nat.pow_le_pow_right (by omega) (by omega)
  have e:2 ^ (i+1)=2 ^ i * 2:=Nat.pow_succ _ _
  have hw:IntKind.wrap .u32 (((2 ^ i:Nat):Int) * 2)=((2 ^ (i+1):Nat):Int):=by
   rw[e,Int.natCast_mul]
   exact LS (by omega) (by omega)
  simp (disch:=omega) only [↓wr,seval,wq,ah,ag,ak,aa,ab,af,ai,ae,t0,t3,t4,hw]
  exact aM hk (by omega) ⟨t0,rfl,rfl⟩
 ·simp (disch:=omega) only [↓wr,seval,wq,ah,ag,ak,aa,ab,af,ai,ae,t0,t3,t4]
  rw[GA (by omega),show i=n.toNat by omega]
theorem vm {l:List BV} {i:Nat} {x:BV} (h:l[i]?=some x):(bT l).getD i []=[gw x]:=by simp[U8,h]
set_option maxHeartbeats 4000000 in
theorem JG (syms:List Int) (null:List Bool) (first:List BV) (rest:BV) (hs:aS syms) (hn:∀ s∈syms,cm s∧(s < 0→(-1 - s).toNat < null.length∧(-1 - s).toNat < first.length)) :
  aI Tryz.prog 83 [encI syms,bP null,Bi first,gw rest] (gw (ew null first rest syms)):=by
 unfold aS at hs
 refine aI.val (by
  intro v hv; simp at hv
  rcases hv with rfl | rfl | rfl | rfl
  ·exact eP _
  ·exact gN _
  ·exact MK _
  ·exact .val _) fun H=>?_
 refine aC.of mixed x6 ?_
 simp (disch:=omega) only [↓wr,seval,wq,ah,ag,ak,aa,ab,af,ai,ae,sP,encI,bP]
 refine aZ.up syms.length (fun i T H'=>∃ s:BV,s ||| ew null first rest (syms.drop i)=ew null first rest syms∧T 0=encI syms∧T 1=bP null∧T 2=Bi first∧T 3=gw rest∧T 9=gw s∧T 10=gi i) ⟨0,by simp,rfl,rfl,rfl,rfl,rfl,rfl⟩ ?_
 rintro i k T H' hk ⟨s,he,t0,t1,t2,t3,t9,t10⟩
 simp (disch:=omega) only [↓wr,seval,wq,ah,ag,ak,aa,ab,af,ai,ae,qZ,t0,t1,t2,t3,t9,t10,encI]
 refine av.dec (fun hc=>?_) (fun hc=>?_)
 ·have hx:syms[i]?=some (syms[i]'(by omega)):=U9 (by omega)
  have hdr:syms.drop i=syms[i]'(by omega) :: syms.drop (i+1):=VT (by omega)
  have hm:=hn _ (Vi (show i < syms.length by omega))
  generalize syms[i]'(by omega)=x at hx hdr hm
  obtain ⟨hm1,hm2⟩:=hm
  unfold cm at hm1
  rw[hdr,ew] at he
  simp (disch:=omega) only [↓wr,seval,wq,ah,ag,ak,aa,ab,af,ai,ae,t0,t1,t2,t3,t9,t10,encI,Vc,hx,Vh]
  refine av.dec (fun h0=>?_) (fun h0=>?_)
  ·rw[Vd h0] at he
   simp (disch:=omega) only [↓wr,seval,wq,ah,ag,ak,aa,ab,af,ai,ae,t0,t1,t2,t3,t9,t10,encI,Vc,hx,Vh]
   refine aD.pure (Ga x) (by kernel_rfl) ?_
   simp (disch:=omega) only [↓wr,seval,wq,ah,ag,ak,aa,ab,af,ai,ae,sC]
   rw[he]
  ·rw[Va h0] at he
   obtain ⟨q1,q2⟩:=hm2 (by omega)
   have hb:null[(-1 - x).toNat]?=some (null.getD (-1 - x).toNat false):=getD_some q1
   have hf:first[(-1 - x).toNat]?=some (first.getD (-1 - x).toNat 0):=getD_some q2
   simp (disch:=omega) only [↓wr,seval,wq,ah,ag,ak,aa,ab,af,ai,ae,t0,t1,t2,t3,t9,t10,encI,bP,Bi,Vc,hx,hb,hf,Vh,sC]
   refine av.split (fun hnb=>?_) (fun hnb=>?_)
   ·simp (disch:=omega) only [↓wr,seval,wq,ah,ag,ak,aa,ab,af,ai,ae,t0,t1,t2,t3,t9,t10]
    rw[Vd hnb,← BitVec.or_assoc] at he
    exact aM hk (by omega) ⟨_,he,t0,t1,t2,t3,rfl,rfl⟩
   ·simp (disch:=omega) only [↓wr,seval,wq,ah,ag,ak,aa,ab,af,ai,ae]
    rw[Va (by rw[hnb]; simp)] at he
    exact Wj (fun z:BV=>gw z) he
 ·rw[VD (by omega),ew] at he
  simp (disch:=omega) only [↓wr,seval,wq,ah,ag,ak,aa,ab,af,ai,ae,t3,t9,sC]
  rw[he]
theorem Pe {h:aL} {u:V} {l:List BV} (ho:ba h.view u 1 (bT l)):eu h u (Bi l):=eu.P7 (f:=fun x:BV=>.int .u32 x.toNat) ho
theorem Lt {H:View} {u:V} {l:List BV} (h:ba H u 1 (bT l)):dT H u (Bi l) :=
 dT.own h fun e he v hv=>by
  obtain ⟨x,_,rfl⟩:=Vw.1 he
  simp at hv; subst hv; exact .val _
def Ig (g:aw):List BV:=if bS g=true then en g (aA g false) else []
set_option maxHeartbeats 8000000 in
theorem Lj (g:aw) (hg:g.Ok):cR Tryz.prog 82 [.agg (au g)] (Bi (Ig g)):=by
 refine cR.of (dZ g) ?_
 have hr9:=lH g hg
 have hnl:=xA g hg
 refine aC.of mixed uF ?_
 simp only[au,encS] at hr9 hnl
 simp (disch:=omega) only [↓wr,seval,wq,ah,ag,ak,aa,ab,af,ai,ae,pr,au,encS]
 refine aD.pure hr9 (by kernel_rfl) ?_
 unfold Ig
 simp (disch:=omega) only [↓wr,seval,wq,ah,ag,ak,aa,ab,af,ai,ae]
 refine av.split (fun hr=>?_) (fun hr=>?_)
 rotate_left
 ·simp (disch:=omega) only [↓wr,seval,wq,ah,ag,ak,aa,ab,af,ai,ae]
  rintro h' _
  rw[Va (by rw[hr]; simp)]
  exact .emp _
 have hf:=bO hr
 have hN:=hf.az; have hN1:=hf.p9
 rw[Vd hr]
 have hnlen:=fk hr false
 simp (disch:=omega) only [↓wr,seval,wq,ah,ag,ak,aa,ab,af,ai,ae,au,encS]
 refine aD.pure hnl (by kernel_rfl) ?_
 generalize aA g false=null at hnlen ⊢
 simp (disch:=omega) only [↓wr,seval,wq,ah,ag,ak,aa,ab,af,ai,ae,au,encS]
 refine ⟨⟨by omega,by unfold aJ; omega,by unfold aJ; omega⟩,fun hz=>absurd hz (by omega),fun _ m=>?_⟩
 have hrep:List.replicate g.az.length [V.val (Value.int IntKind.u32 0)]=bT (List.replicate g.az.length (0:BV)):=by simp
 rw[hrep]
 have h0l:(List.replicate g.az.length (0:BV)).length=g.az.length:=by simp
 unfold en
 generalize List.replicate g.az.length (0:BV)=fs0 at h0l ⊢
 refine aZ.intro (fun k T H'=>∃ (i:Nat) (fs:List BV),i+k=g.az.length∧fs.length=g.az.length∧iter (sn g null) k fs=iter (sn g null) g.az.length fs0∧T 1=.aN (au g) 0∧T 3=bP null∧T 4=.sl m 0 g.az.length 1∧H' m=.arr 1 (bT fs)∧T 5=gi i) g.az.length
  ⟨0,fs0,by omega,h0l,rfl,rfl,rfl,rfl,by simp[View.set],rfl⟩ ?_
 rintro k T H' ⟨i,fs,hk,hlen,hi,t1,t3,t4,tm,t5⟩
 simp (disch:=omega) only [↓wr,seval,wq,ah,ag,ak,aa,ab,af,ai,ae,nL,t1,t3,t4,t5,au,encS]
 refine av.dec (fun hc=>?_) (fun hc=>?_)
 ·simp (disch:=omega) only [↓wr,seval,wq,ah,ag,ak,aa,ab,af,ai,ae,t1,t3,t4,t5]
  refine aZ.up g.rules.length (fun j T H'=>∃ fs':List BV,fs'.length=g.az.length∧(g.rules.drop j).foldl (kB null) fs'=sn g null fs∧T 1=.aN (au g) 0∧T 3=bP null∧T 4=.sl m 0 g.az.length 1∧H' m=.arr 1 (bT fs')∧T 5=gi i∧T 6=gi j)
   ⟨fs,hlen,rfl,t1,t3,t4,tm,t5,rfl⟩ ?_
  clear t1 t3 t4 tm t5
  rintro j k2 T2 H2 hk2 ⟨fs',hl',hj,t1,t3,t4,tm,t5,t6⟩
  simp (disch:=omega) only [↓wr,seval,wq,ah,ag,ak,aa,ab,af,ai,ae,nA,t1,t3,t4,t5,t6,au]
  refine av.dec (fun hd=>?_) (fun hd=>?_)
  ·have hru:=hf.rules
   have hg2:g.rules[j]?=some (g.rules[j]'(by omega)):=U9 (by omega)
   rw[eW (show j < g.rules.length by omega)] at hj
   have hmem:g.rules[j]'(by omega)∈g.rules:=Vi _
   generalize g.rules[j]'(by omega)=R at hg2 hj hmem
   simp only[VF] at hj
   obtain ⟨hl1,hl2⟩:=hf.left R hmem
   obtain ⟨_,_,hs1,hs2⟩:=hg.aF R hmem
   have hof:=JG R.right null fs' 0 hs1 fun s hs=>⟨hs2 s hs,fun hn=>by have:=hf.neg hmem hs hn; omega⟩
   have hfl:fs'[R.left.toNat]?=some (fs'.getD R.left.toNat 0):=getD_some (by omega)
   simp (disch:=omega) only [↓wr,seval,wq,ah,ag,ak,aa,ab,af,ai,ae,t1,t3,t4,t5,t6,au,encS,aO,Vc,hg2,Vh]
   intro b hb
   have hbm:¬ m=b:=by rintro rfl; rw[tm] at hb; simp at hb
   rw[set_set]
   simp (disch:=omega) only [↓wr,seval,wq,ah,ag,ak,aa,ab,af,ai,ae,t1,t3,t4,t5,t6,tm,hbm,vm hfl]
   refine ⟨rfl,by omega,by omega,?_⟩
   refine aD.wM hof (by kernel_rfl) (.val _) ⟨.tree (eP _),.tree (gN _),Lt (.inr ⟨m,by simp[hl'],by simp[View.set,hbm,tm]⟩),.tree (.val _),trivial⟩ ?_
   simp (disch:=omega) only [↓wr,seval,wq,ah,ag,ak,aa,ab,af,ai,ae,t1,t3,t4,t5,t6,tm,hbm,vm hfl,sC]
   refine ⟨by omega,by first | omega | (simp; omega),aM hk2 (by omega) ⟨kB null fs' R,by rw[EL]; exact hl',hj,t1,t3,t4,?_,t5,rfl⟩⟩
   rw[show bT (kB null fs' R)=(bT fs').set R.left.toNat [gw (fs'.getD R.left.toNat 0 ||| ew null fs' 0 R.right)] from by rw[kB,bT,WQ]]
   simp only[View.set,if_true]
   rfl
  ·rw[VD (by omega),Wk] at hj
   simp (disch:=omega) only [↓wr,seval,wq,ah,ag,ak,aa,ab,af,ai,ae,t1,t3,t4,t5]
   obtain ⟨q,rfl⟩:∃ q,k=q+1:=⟨k - 1,by omega⟩
   exact ⟨q,by omega,i+1,fs',by omega,hl',by rw[hj]; exact hi,rfl,tm,rfl⟩
 ·simp (disch:=omega) only [↓wr,seval,wq,ah,ag,ak,aa,ab,af,ai,ae,t4]
  have:k=0:=by omega
  subst this
  rintro h' rfl
  rw[← hi,← hlen]
  exact Pe (.inr ⟨m,by simp[iter],tm⟩)
def qz:SC :=
 .seq (.seq (ao [aj 11 7,aj 12 1,aX 13 12,bc 14 .lss 11 13]) <|
 .cond (.tmp 14) (.skip) (.exit 0)) <|
 .seq (.block 1 (.seq (ao [bp 17 4 3,aj 18 1,aj 19 7,aP 20 1 18 19,ax 21 20,bC 22 155 [17,21],dd 23 22]) <|
 .cond (.tmp 23) (.seq (ao [((some 6),.op (.bL (.val (.val (.int .u32 0)))))]) <|
 .ret) (.skip))) <|
 ao [aj 15 7,aQ 16 .add 15 1,aj 7 16]
def s7:SF:=⟨.seq (ao [cL 3 0,((some 6),.op (.bL (.val (.val (.int .u32 0)))))]) <|
 .seq (.seq (ao [bp 8 4 3,bC 9 54 [8],dd 10 9]) <|
 .cond (.tmp 10) (.seq (ao [((some 6),.op (.bL (.val (.val (.int .u32 0)))))]) <|
 .ret) (.skip)) <|
 .seq (.seq (ao [bj 7 0]) <|
 .block 0 (.loop qz)) <|
 .seq (.region true [⟨none,[aj 24 1,bp 25 4 3,bC 26 81 [25],bp 27 4 3,bC 28 82 [27],aj 29 2,bC 30 83 [24,26,28,29],aj 6 30]⟩]) <|
 .ret,
 [.tmp 6],31⟩
theorem x5:aV Tryz.prog 123 [3]=some s7:=by kernel_rfl
def rF:SF:=⟨.seq (ao [cL 2 0,cL 3 1,bK 4 false]) <|
 .seq (.region true [⟨none,[bp 5 4 2,bC 6 54 [5],aj 7 6]⟩,⟨(some (7,true)),[aB 8 0 3,ax 9 8,aQ 10 .geq 9 (-1)]⟩,⟨none,[eF 11 7 10,aj 12 11]⟩,⟨(some (12,true)),[aB 13 0 3,ax 14 13,aB 15 2 2,ax 16 15,aX 17 16,bc 18 .lss 14 17]⟩,⟨none,[eF 19 12 18,aj 20 19]⟩,⟨(some (20,true)),[aB 21 1 3,ax 22 21,aQ 23 .geq 22 0]⟩,⟨none,[eF 24 20 23,aj 25 24]⟩,⟨(some (25,true)),[aB 26 1 3,ax 27 26,bp 28 4 2,aB 29 0 3,ax 30 29,bC 31 55 [28,30],aX 32 31,bc 33 .leq 27 32]⟩,⟨none,[eF 34 25 33,aj 4 34]⟩]) <|
 .ret,
 [.tmp 4],35⟩
theorem w9:aV Tryz.prog 20 [2,3]=some rF:=by kernel_rfl
def qy:SF:=⟨.seq (ao [cL 2 0,cL 3 1,bj 4 0,bK 5 false]) <|
 .seq (.seq (ao [bp 6 4 2,bp 7 2 3,bC 8 20 [6,7],dd 9 8]) <|
 .cond (.tmp 9) (.seq (ao [bj 4 0,bK 5 false]) <|
 .ret) (.skip)) <|
 .seq (ao [bp 10 4 2,bp 11 2 3,bC 12 51 [10,11],fK 13 0 12,fK 14 1 12,aj 4 13,aj 5 14]) <|
 .ret,
 [.tmp 4,.tmp 5],15⟩
theorem vz:aV Tryz.prog 18 [2,3]=some qy:=by kernel_rfl
def lN:SC :=
 .seq (.seq (ao [aj 7 6,aj 8 1,aX 9 8,bc 10 .lss 7 9]) <|
 .cond (.tmp 10) (.skip) (.exit 0)) <|
 .seq (.block 1 (.seq (ao [bp 13 4 2,aj 14 1,aj 15 6,aP 16 2 14 15,bp 17 2 16,bC 18 20 [13,17]]) <|
 .cond (.tmp 18) (ao [aj 19 5,aj 20 1,aj 21 6,aP 22 2 20 21,bp 23 2 22,((some 24),.op (.cg 1 2 [(.val (.int .i64 0)),(.val (.int .i64 0))] [(0,(.tmp 23))])),((some 25),.op (.app 2 16 (.tmp 19) (.tmp 24))),aj 5 25]) (.skip))) <|
 ao [aj 11 6,aQ 12 .add 11 1,aj 6 12]
def mX:SF:=⟨.seq (ao [cL 2 0,((some 4),.op (.bL (.val (.emp 1))))]) <|
 .seq (ao [((some 5),.op (.bL (.val (.emp 1))))]) <|
 .seq (.seq (ao [bj 6 0]) <|
 .block 0 (.loop lN)) <|
 .seq (.seq (ao [aj 26 5,aX 27 26,aQ 28 .eql 27 0]) <|
 .cond (.tmp 28) (.seq (ao [((some 4),.op (.bL (.val (.emp 1))))]) <|
 .ret) (.skip)) <|
 .seq (ao [bp 29 4 2,aj 30 5,bC 31 60 [29,30],aj 4 31]) <|
 .ret,
 [.tmp 4],32⟩
theorem td:aV Tryz.prog 23 [2]=some mX:=by kernel_rfl
def jQ:SC :=
 .seq (.seq (.region false [⟨none,[aj 26 11,aj 27 0,aj 28 1,aP 29 2 27 28,aB 30 1 29,ax 31 30,aX 32 31,bc 33 .lss 26 32,aj 34 33]⟩,⟨(some (34,true)),[aj 35 10,dd 36 35]⟩,⟨none,[eF 37 34 36]⟩]) <|
 .cond (.tmp 37) (.skip) (.exit 2)) <|
 .seq (.block 3 (.seq (ao [aj 40 0,aj 41 1,aP 42 2 40 41,aB 43 1 42,ax 44 43,aj 45 11,aP 46 2 44 45,aB 47 0 46,ax 48 47,aj 49 2,aj 50 8,aP 51 1 49 50,ax 52 51,bc 53 .eql 48 52]) <|
 .cond (.tmp 53) (ao [aj 54 0,aj 55 1,aP 56 2 54 55,aB 57 1 56,ax 58 57,aj 59 11,aP 60 2 58 59,aB 61 1 60,ax 62 61,aj 9 62,bK 10 true]) (.skip))) <|
 ao [aj 38 11,aQ 39 .add 38 1,aj 11 39]
def oE:SC :=
 .seq (.seq (ao [aj 20 8,aj 21 2,aX 22 21,bc 23 .lss 20 22]) <|
 .cond (.tmp 23) (.skip) (.exit 0)) <|
 .seq (.block 1 (.seq (ao [bj 9 (-1),bK 10 false]) <|
 .seq (.seq (ao [bj 11 0]) <|
 .block 2 (.loop jQ)) <|
 .seq (.seq (.region false [⟨none,[aj 63 9,aQ 64 .lss 63 0,aj 65 64]⟩,⟨(some (65,false)),[aj 66 9,aj 67 0,aX 68 67,bc 69 .geq 66 68]⟩,⟨none,[c6 70 65 69]⟩]) <|
 .cond (.tmp 70) (.seq (ao [bj 6 0,bK 7 false]) <|
 .ret) (.skip)) <|
 ao [aj 71 9,aj 1 71])) <|
 ao [aj 24 8,aQ 25 .add 24 1,aj 8 25]
def ra:SF:=⟨.seq (ao [bj 6 0,bK 7 false]) <|
 .seq (.seq (.region false [⟨none,[aj 12 1,aQ 13 .lss 12 0,aj 14 13]⟩,⟨(some (14,false)),[aj 15 1,aj 16 0,aX 17 16,bc 18 .geq 15 17]⟩,⟨none,[c6 19 14 18]⟩]) <|
 .cond (.tmp 19) (.seq (ao [bj 6 0,bK 7 false]) <|
 .ret) (.skip)) <|
 .seq (.seq (ao [bj 8 0]) <|
 .block 0 (.loop oE)) <|
 .seq (ao [aj 72 1,aj 6 72,bK 7 true]) <|
 .ret,
 [.tmp 6,.tmp 7],73⟩
theorem vO:aV Tryz.prog 29 []=some ra:=by kernel_rfl
def Jt (g:aw) (syms:List Int) (rest:BV):BV:=if bS g=true∧∀ s∈syms,gu g s=true then ew (aA g false) (en g (aA g false)) rest syms else 0
set_option maxHeartbeats 4000000 in
theorem RY (g:aw) (hg:g.Ok) (syms:List Int) (rest:BV) (hs:aS syms) (hn:∀ s∈syms,cm s):aI Tryz.prog 123 [.agg (au g),encI syms,gw rest] (gw (Jt g syms rest)):=by
 have hs':=hs
 unfold aS at hs'
 refine aI.val (by
  intro v hv; simp at hv
  rcases hv with rfl | rfl | rfl
  ·exact cI _ (dH g)
  ·exact eP _
  ·exact .val _) fun H=>?_
 have hr9:=lH g hg
 have hnl:=xA g hg
 have hfi:=(Lj g hg).pure
 have hH:=fun s h=>N8 g s (hn s h)
 refine aC.of mixed x5 ?_
 simp only[au,encS] at hr9 hnl hfi hH
 simp (disch:=omega) only [↓wr,seval,wq,ah,ag,ak,aa,ab,af,ai,ae,s7,au,encS,encI]
 refine aD.pure hr9 (by kernel_rfl) ?_
 simp (disch:=omega) only [↓wr,seval,wq,ah,ag,ak,aa,ab,af,ai,ae]
 refine av.split (fun hr=>?_) (fun hr=>?_)
 rotate_left
 ·simp (disch:=omega) only [↓wr,seval,wq,ah,ag,ak,aa,ab,af,ai,ae]
  rw[Jt,Va (by rw[hr]; simp)]; rfl
 have hf:=bO hr
 have hnlen:=fk hr false
 have hflen:=Bz g (aA g false)
 rw[Ig,Vd hr] at hfi
 simp (disch:=omega) only [↓wr,seval,wq,ah,ag,ak,aa,ab,af,ai,ae,au,encS,encI]
 refine aZ.up syms.length (fun i T H'=>(∀ s∈syms.take i,gu g s=true)∧T 1=encI syms∧T 2=gw rest∧T 3=.aN (au g) 0∧T 7=gi i) ⟨by simp,rfl,rfl,rfl,rfl⟩ ?_
 rintro i k T H' hk ⟨hall,t1,t2,t3,t7⟩
 simp (disch:=omega) only [↓wr,seval,wq,ah,ag,ak,aa,ab,af,ai,ae,qz,t1,t2,t3,t7,encI]
 refine av.dec (fun hc=>?_) (fun hc=>?_)
 ·have hx:syms[i]?=some (syms[i]'(by omega)):=U9 (by omega)
  have hm:=Vi (show i < syms.length by omega)
  have htk:syms.take (i+1)=syms.take i ++ [syms[i]'(by omega)]:=by rw[Vx,hx]; rfl
  generalize syms[i]'(by omega)=x at hx hm htk
  simp (disch:=omega) only [↓wr,seval,wq,ah,ag,ak,aa,ab,af,ai,ae,t1,t2,t3,t7,au,encS,encI,Vc,hx,Vh]
  refine aD.pure (hH x hm) (by kernel_rfl) ?_
  simp (disch:=omega) only [↓wr,seval,wq,ah,ag,ak,aa,ab,af,ai,ae]
  refine av.split (fun he=>?_) (fun he=>?_)
  ·simp (disch:=omega) only [↓wr,seval,wq,ah,ag,ak,aa,ab,af,ai,ae,t1,t2,t3,t7]
   refine aM hk (by omega) ⟨fun s hs=>?_,t1,t2,t3,rfl⟩
   rw[htk] at hs
   rcases VE.1 hs with hs | hs
   ·exact hall s hs
   ·simp at hs; subst hs; exact he
  ·simp (disch:=omega) only [↓wr,seval,wq,ah,ag,ak,aa,ab,af,ai,ae]
   rw[Jt,Va (fun h=>by have:=h.2 x hm; rw[he] at this; simp at this)]; rfl
 ·rw[Vq (by omega)] at hall
  have hof:=JG syms (aA g false) (en g (aA g false)) rest hs fun s h=>⟨hn s h,fun hneg=>by
   have:=hall s h
   unfold gu at this
   rw[Va (by omega)] at this
   simp at this
   omega⟩
  simp (disch:=omega) only [↓wr,seval,wq,ah,ag,ak,aa,ab,af,ai,ae,t1,t2,t3,au,encS]
  refine aD.pure hnl (by kernel_rfl) ?_
  simp (disch:=omega) only [↓wr,seval,wq,ah,ag,ak,aa,ab,af,ai,ae,t1,t2,t3,au,encS]
  refine aD.pure hfi (by kernel_rfl) ?_
  simp (disch:=omega) only [↓wr,seval,wq,ah,ag,ak,aa,ab,af,ai,ae,t1,t2,t3,au,encS]
  refine aD.pure hof (by kernel_rfl) ?_
  simp (disch:=omega) only [↓wr,seval,wq,ah,ag,ak,aa,ab,af,ai,ae]
  rw[Jt,Vd ⟨hr,hall⟩]
instance (g:aw) (x:aH):Decidable (cr g x):=by unfold cr; infer_instance
def ib (g:aw) (x:aH):Bool:=bS g && decide (cr g x)
theorem Kx (g:aw) (x:aH):∀ v∈[V.agg (au g),.agg (bE x)],Tree v:=by
 intro v hv; simp at hv
 rcases hv with rfl | rfl
 ·exact cI _ (dH g)
 ·exact cI _ fun v hv=>by simp[bE] at hv; rcases hv with rfl | rfl <;> exact .val _
set_option maxHeartbeats 4000000 in
theorem Gg (g:aw) (hg:g.Ok) (x:aH) (hx:cm x.aF∧cm x.dot):aI Tryz.prog 20 [.agg (au g),.agg (bE x)] (gb (ib g x)):=by
 refine aI.val (Kx g x) fun H=>?_
 have hr9:=lH g hg
 obtain ⟨hx1,hx2⟩:=hx
 unfold cm at hx1 hx2
 refine aC.of mixed w9 ?_
 simp only[au,encS] at hr9
 simp (disch:=omega) only [↓wr,seval,wq,ah,ag,ak,aa,ab,af,ai,ae,rF,au,encS,bE]
 refine aD.pure hr9 (by kernel_rfl) ?_
 have bad:¬ cr g x→gb false=gb (ib g x):=fun h=>by unfold ib; rw[decide_eq_false h,Bool.and_false]
 simp (disch:=omega) only [↓wr,seval,wq,ah,ag,ak,aa,ab,af,ai,ae]
 refine av.split (fun hr=>?_) (fun hr=>?_)
 rotate_left
 ·simp (disch:=omega) only [↓wr,seval,wq,ah,ag,ak,aa,ab,af,ai,ae]
  unfold ib; rw[hr]; rfl
 have hf:=bO hr
 simp (disch:=omega) only [↓wr,seval,wq,ah,ag,ak,aa,ab,af,ai,ae,bE]
 refine av.dec (fun h1=>?_) (fun h1=>?_)
 rotate_left
 ·simp (disch:=omega) only [↓wr,seval,wq,ah,ag,ak,aa,ab,af,ai,ae]
  exact bad fun h=>by have:=h.1; omega
 simp (disch:=omega) only [↓wr,seval,wq,ah,ag,ak,aa,ab,af,ai,ae,bE,au]
 refine av.dec (fun h2=>?_) (fun h2=>?_)
 rotate_left
 ·simp (disch:=omega) only [↓wr,seval,wq,ah,ag,ak,aa,ab,af,ai,ae]
  exact bad fun h=>by have:=h.1; omega
 simp (disch:=omega) only [↓wr,seval,wq,ah,ag,ak,aa,ab,af,ai,ae,bE]
 refine av.dec (fun h3=>?_) (fun h3=>?_)
 rotate_left
 ·simp (disch:=omega) only [↓wr,seval,wq,ah,ag,ak,aa,ab,af,ai,ae]
  exact bad fun h=>by have:=h.2; omega
 have hrt:=Ca g (rR hf) x.aF ⟨by omega,by omega⟩
 have hl6:=eS hf (r:=x.aF) ⟨by omega,by omega⟩
 simp only[au,encS,encI] at hrt
 simp (disch:=omega) only [↓wr,seval,wq,ah,ag,ak,aa,ab,af,ai,ae,bE,au,encS]
 refine aD.pure hrt (by kernel_rfl) ?_
 simp (disch:=omega) only [↓wr,seval,wq,ah,ag,ak,aa,ab,af,ai,ae,bE]
 congr 2
 unfold ib
 rw[hr,Wo]
 congr 1
 unfold cr
 simp only[eq_iff_iff]
 omega
def CH (g:aw) (x:aH):Int × Bool:=if ib g x=true then bA g x else (0,false)
theorem nZ {g:aw} {x:aH} : ib g x=true↔bS g=true∧cr g x:=by simp[ib]
set_option maxHeartbeats 4000000 in
theorem EI (g:aw) (hg:g.Ok) (x:aH) (hx:cm x.aF∧cm x.dot):aI Tryz.prog 18 [.agg (au g),.agg (bE x)] (.bI [gi (CH g x).1,gb (CH g x).2]):=by
 have hh:=Gg g hg x hx
 refine aI.tree (Kx g x) (yG (.val _) (.val _)) fun H=>?_
 refine aC.of mixed vz ?_
 simp only[au,encS,bE] at hh
 simp (disch:=omega) only [↓wr,seval,wq,ah,ag,ak,aa,ab,af,ai,ae,qy,au,encS,bE]
 refine aD.pure hh (by kernel_rfl) ?_
 unfold CH
 simp (disch:=omega) only [↓wr,seval,wq,ah,ag,ak,aa,ab,af,ai,ae]
 refine av.split (fun h=>?_) (fun h=>?_)
 ·obtain ⟨h1,h2⟩:=nZ.1 h
  have hn:=Bc g (bO h1) x h2
  simp only[au,encS,bE] at hn
  simp (disch:=omega) only [↓wr,seval,wq,ah,ag,ak,aa,ab,af,ai,ae,au,encS,bE]
  refine aD.pure hn (by kernel_rfl) ?_
  simp (disch:=omega) only [↓wr,seval,wq,ah,ag,ak,aa,ab,af,ai,ae]
  rw[Vd h]
 ·simp (disch:=omega) only [↓wr,seval,wq,ah,ag,ak,aa,ab,af,ai,ae]
  rw[h]; simp
theorem NK (g:aw):cw g []=[]:=by
 have:∀ x,¬ mR g [] x:=fun x h=>by
  induction h with
  | base h=>simp at h
  | step _ _ _ _ _ ih=>exact ih
 unfold cw
 rw[List.filter_eq_nil_iff.2 fun x _=>by simp[this x]]
 rfl
theorem SS {h:aL} {u:V} {l:List aH} (ho:ba h.view u 2 (aT l)):eu h u (.aK (aT l)):=by
 refine eu.own ho rfl (fun i _=>rfl) (fun i j hi hj=>?_)
 rw[bJ] at hi
 have e:(aT l).getD i []=bE l[i]:=by simp[aT,U8,hi]
 rw[e] at hj ⊢
 match j,hj with
 | 0,_=>exact .val _
 | 1,_=>exact .val _
theorem FC {α:Type} {l:List α} {p:α→Bool} {i:Nat} {x:α} (h:l[i]?=some x):(l.take (i+1)).filter p=if p x=true then (l.take i).filter p ++ [x] else (l.take i).filter p:=by
 rw[Vx,h,WB]
 split
 ·rename_i hp; simp[hp]
 ·rename_i hp; simp[hp]
set_option maxHeartbeats 4000000 in
theorem GL (g:aw) (hg:g.Ok) (l:List aH) (hl:l.length≤10000) (hn:∀ x∈l,cm x.aF∧cm x.dot):cR Tryz.prog 23 [.agg (au g),.aK (aT l)] (.aK (aT (cw g (l.filter (ib g))))):=by
 refine cR.of (by
  intro v hv; simp at hv
  rcases hv with rfl | rfl
  ·exact cI _ (dH g)
  ·exact zR _) ?_
 refine aC.of mixed td ?_
 simp (disch:=omega) only [↓wr,seval,wq,ah,ag,ak,aa,ab,af,ai,ae,mX,au,encS,aT]
 refine aZ.up l.length (fun i T H'=>∃ r:V,ba H' r 2 (aT ((l.take i).filter (ib g)))∧T 1=.aK (aT l)∧T 2=.aN (au g) 0∧T 5=r∧T 6=gi i) ⟨.emp 1,.nil,rfl,rfl,rfl,rfl⟩ ?_
 rintro i k T H' hk ⟨r,ho,t1,t2,t5,t6⟩
 simp (disch:=omega) only [↓wr,seval,wq,ah,ag,ak,aa,ab,af,ai,ae,lN,t1,t2,t5,t6,aT]
 refine av.dec (fun hc=>?_) (fun hc=>?_)
 ·have hx:l[i]?=some (l[i]'(by omega)):=U9 (by omega)
  have hm:=hn _ (Vi (show i < l.length by omega))
  generalize l[i]'(by omega)=x at hx hm
  have hh:=Gg g hg x hm
  have hft:=FC (p:=ib g) hx
  have hfl:=VZ (ib g) (l.take i)
  rw[VQ] at hfl
  simp only[au,encS,bE] at hh
  simp (disch:=omega) only [↓wr,seval,wq,ah,ag,ak,aa,ab,af,ai,ae,t1,t2,t5,t6,au,encS,aT,Vc,hx,Vh,bE]
  refine aD.pure hh (by kernel_rfl) ?_
  simp (disch:=omega) only [↓wr,seval,wq,ah,ag,ak,aa,ab,af,ai,ae,t1,t2,t5,t6]
  refine av.split (fun he=>?_) (fun he=>?_)
  ·simp (disch:=omega) only [↓wr,seval,wq,ah,ag,ak,aa,ab,af,ai,ae,t1,t2,t5,t6,aT,Vc,hx,Vh,bE]
   intro q hq
   simp (disch:=omega) only [↓wr,seval,wq,ah,ag,ak,aa,ab,af,ai,ae,bV]
   refine gS (ho.fresh hq) (by simp[aU]) (by unfold aJ; rw[bJ]; simp; omega) (by unfold aJ; rw[bJ]; simp; omega) ?_
   intro r2 H2 o2 _
   simp (disch:=omega) only [↓wr,seval,wq,ah,ag,ak,aa,ab,af,ai,ae,t1,t2,t5,t6]
   rw[Vd he] at hft
   exact aM hk (by omega) ⟨r2,by rw[hft]; simpa [aT,bE] using o2,t1,t2,rfl,rfl⟩
  ·simp (disch:=omega) only [↓wr,seval,wq,ah,ag,ak,aa,ab,af,ai,ae,t1,t2,t5,t6]
   rw[Va (by rw[he]; simp)] at hft
   exact aM hk (by omega) ⟨r,by rw[hft]; exact ho,t1,t2,t5,rfl⟩
 ·rw[Vq (by omega)] at ho
  have hfl:=VZ (ib g) l
  have hlr:cH r=some (l.filter (ib g)).length:=by rw[ho.len,bJ]
  have hall:∀ x∈l.filter (ib g),bS g=true∧cr g x:=fun x hx=>nZ.1 (VX.1 hx).2
  generalize l.filter (ib g)=l' at *
  simp (disch:=omega) only [↓wr,seval,wq,ah,ag,ak,aa,ab,af,ai,ae,t1,t2,t5,t6,hlr]
  refine av.eq (fun he=>?_) (fun he=>?_)
  ·have:l'=[]:=Ws.1 (by omega)
   subst this
   simp (disch:=omega) only [↓wr,seval,wq,ah,ag,ak,aa,ab,af,ai,ae]
   intro h' _
   rw[NK]
   exact .emp _
  ·cases l' with
   | nil=>exact absurd rfl he
   | cons y l' =>
   have hf:=bO (hall y (by simp)).1
   simp (disch:=omega) only [↓wr,seval,wq,ah,ag,ak,aa,ab,af,ai,ae,t1,t2,t5,au,encS]
   refine aD.dP ((zr g hf (y :: l') (fun x hx=>(hall x hx).2) (by omega) r H' ho).mono ?_)
   rintro r2 H2 ⟨o2,_⟩
   simp (disch:=omega) only [↓wr,seval,wq,ah,ag,ak,aa,ab,af,ai,ae]
   rintro h' rfl
   exact SS o2
theorem L3:∀ (l:List dx) (s:Int) (k:Nat) (e:dx),l[k]?=some e→gH (l.drop k) s=if e.sym=s then e.to else gH (l.drop (k+1)) s:=by
 intro l s k e h
 obtain ⟨hk,he⟩:=Vn.1 h
 rw[VT hk,he,gH]
set_option maxHeartbeats 8000000 in
theorem Ng (a:List aR) (ha:aS a) (he:∀ s∈a,aS s.bk∧∀ e∈s.bk,cm e.sym∧cm e.to) (fr:Int) (syms:List Int) (hs:aS syms):aI Tryz.prog 29 [bm a,gi fr,encI syms] (.bI [gi (fh a fr syms).1,gb (fh a fr syms).2]):=by
 unfold aS at ha hs
 refine aI.tree (by
  intro v hv; simp at hv
  rcases hv with rfl | rfl | rfl
  ·exact mb _
  ·exact .val _
  ·exact eP _) (yG (.val _) (.val _)) fun H=>?_
 refine aC.of mixed vO ?_
 unfold fh
 simp (disch:=omega) only [↓wr,seval,wq,ah,ag,ak,aa,ab,af,ai,ae,ra,bm,encI]
 refine av.dec (fun h1=>?_) (fun h1=>?_)
 ·simp (disch:=omega) only [↓wr,seval,wq,ah,ag,ak,aa,ab,af,ai,ae]
  rw[Vd (by omega)]
 simp (disch:=omega) only [↓wr,seval,wq,ah,ag,ak,aa,ab,af,ai,ae,bm]
 refine av.dec (fun h2=>?_) (fun h2=>?_)
 ·simp (disch:=omega) only [↓wr,seval,wq,ah,ag,ak,aa,ab,af,ai,ae]
  rw[Vd (by omega)]
 rw[Va (by omega)]
 simp (disch:=omega) only [↓wr,seval,wq,ah,ag,ak,aa,ab,af,ai,ae]
 refine aZ.up syms.length (fun i T H'=>∃ at_:Int,0≤at_∧at_ < a.length∧gT a at_ (syms.drop i)=gT a fr syms∧T 0=bm a∧T 1=gi at_∧T 2=encI syms∧T 8=gi i) ⟨fr,by omega,by omega,rfl,rfl,rfl,rfl,rfl⟩ ?_
 rintro i k T H' hk ⟨at_,q1,q2,hw,t0,t1,t2,t8⟩
 simp (disch:=omega) only [↓wr,seval,wq,ah,ag,ak,aa,ab,af,ai,ae,oE,t0,t1,t2,t8,encI]
 refine av.dec (fun hc=>?_) (fun hc=>?_)
 ·have hx:syms[i]?=some (syms[i]'(by omega)):=U9 (by omega)
  rw[VT (show i < syms.length by omega)] at hw
  generalize syms[i]'(by omega)=x at hx hw
  have hS:a[at_.toNat]?=some (a.getD at_.toNat bH):=getD_some (by omega)
  obtain ⟨hE1,hE2⟩:=he _ (Vf hS)
  rw[gT] at hw
  generalize a.getD at_.toNat bH=S at hS hE1 hE2 hw
  unfold aS at hE1
  simp (disch:=omega) only [↓wr,seval,wq,ah,ag,ak,aa,ab,af,ai,ae,t0,t1,t2,t8]
  refine aZ.up S.bk.length (fun j T H'=>∃ (to:Int) (ok:Bool),(ok=true→to=gH S.bk x)∧(ok=false→to = -1∧gH (S.bk.drop j) x=gH S.bk x)∧T 0=bm a∧T 1=gi at_∧T 2=encI syms∧T 8=gi i∧T 9=gi to∧T 10=gb ok∧T 11=gi j)
   ⟨-1,false,by simp,fun _=>⟨rfl,rfl⟩,t0,t1,t2,t8,rfl,rfl,rfl⟩ ?_
  clear t0 t1 t2 t8
  rintro j k2 T2 H2 hk2 ⟨to,ok,p1,p2,t0,t1,t2,t8,t9,t10,t11⟩
  cases ok with
  | true =>
   have hto:=p1 rfl
   simp (disch:=omega) only [↓wr,seval,wq,ah,ag,ak,aa,ab,af,ai,ae,jQ,t0,t1,t2,t8,t9,t10,t11,bm,Vc,hS,Vh,iO,fy]
   refine av.dec (fun _=>?_) (fun _=>?_)
   all_goals (
    simp (disch:=omega) only [↓wr,seval,wq,ah,ag,ak,aa,ab,af,ai,ae,t0,t1,t2,t8,t9,t10,t11,bm,hto]
    refine av.dec (fun h3=>?_) (fun h3=>?_)
    ·simp (disch:=omega) only [↓wr,seval,wq,ah,ag,ak,aa,ab,af,ai,ae]
     rw[← hw,Va (by omega)]
    ·simp (disch:=omega) only [↓wr,seval,wq,ah,ag,ak,aa,ab,af,ai,ae,t0,t1,t2,t8,t9,bm,hto]
     refine av.dec (fun h4=>?_) (fun h4=>?_)
     ·simp (disch:=omega) only [↓wr,seval,wq,ah,ag,ak,aa,ab,af,ai,ae]
      rw[← hw,Va (by omega)]
     ·simp (disch:=omega) only [↓wr,seval,wq,ah,ag,ak,aa,ab,af,ai,ae,t0,t1,t2,t8,t9,hto]
      rw[Vd ⟨by omega,by omega⟩] at hw
      exact aM hk (by omega) ⟨_,by omega,by omega,hw,t0,rfl,t2,rfl⟩)
  | false =>
   obtain ⟨p3,p4⟩:=p2 rfl
   simp (disch:=omega) only [↓wr,seval,wq,ah,ag,ak,aa,ab,af,ai,ae,jQ,t0,t1,t2,t8,t9,t10,t11,bm,Vc,hS,Vh,iO,fy]
   refine av.dec (fun hc2=>?_) (fun hc2=>?_)
   ·have hE:S.bk[j]?=some (S.bk[j]'(by omega)):=U9 (by omega)
    generalize S.bk[j]'(by omega)=E at hE
    rw[L3 _ _ _ _ hE] at p4
    simp (disch:=omega) only [↓wr,seval,wq,ah,ag,ak,aa,ab,af,ai,ae,t0,t1,t2,t8,t9,t10,t11,bm,encI,Vc,hS,hx,Vh,iO,fy,hE,jo]
    refine av.eq (fun h5=>?_) (fun h5=>?_)
    ·rw[Vd h5] at p4
     simp (disch:=omega) only [↓wr,seval,wq,ah,ag,ak,aa,ab,af,ai,ae,t0,t1,t2,t8,t9,t10,t11,bm,Vc,hS,Vh,iO,fy,hE,jo]
     exact aM hk2 (by omega) ⟨E.to,true,fun _=>p4,by simp,t0,t1,t2,t8,rfl,rfl,rfl⟩
    ·rw[Va h5] at p4
     simp (disch:=omega) only [↓wr,seval,wq,ah,ag,ak,aa,ab,af,ai,ae,t0,t1,t2,t8,t9,t10,t11]
     exact aM hk2 (by omega) ⟨to,false,by simp,fun _=>⟨p3,p4⟩,t0,t1,t2,t8,t9,t10,rfl⟩
   ·rw[VD (by omega),gH,← p3] at p4
    have hto:=p4
    simp (disch:=omega) only [↓wr,seval,wq,ah,ag,ak,aa,ab,af,ai,ae,t0,t1,t2,t8,t9,t10,t11,bm,hto]
    refine av.dec (fun h3=>?_) (fun h3=>?_)
    ·simp (disch:=omega) only [↓wr,seval,wq,ah,ag,ak,aa,ab,af,ai,ae]
     rw[← hw,Va (by omega)]
    ·simp (disch:=omega) only [↓wr,seval,wq,ah,ag,ak,aa,ab,af,ai,ae,t0,t1,t2,t8,t9,bm,hto]
     refine av.dec (fun h4=>?_) (fun h4=>?_)
     ·simp (disch:=omega) only [↓wr,seval,wq,ah,ag,ak,aa,ab,af,ai,ae]
      rw[← hw,Va (by omega)]
     ·simp (disch:=omega) only [↓wr,seval,wq,ah,ag,ak,aa,ab,af,ai,ae,t0,t1,t2,t8,t9,hto]
      rw[Vd ⟨by omega,by omega⟩] at hw
      exact aM hk (by omega) ⟨_,by omega,by omega,hw,t0,rfl,t2,rfl⟩
 ·simp (disch:=omega) only [↓wr,seval,wq,ah,ag,ak,aa,ab,af,ai,ae,t1]
  rw[VD (by omega),gT] at hw
  rw[← hw]
open Go Go.Proofs Go.Shelf Go.RowKit Go.Sort
theorem bX.cut {P:Program} {f:FuncId} {vs:List V} {h h':aL} {r:V} (hc:bX P f vs h r h') {id sz:Nat} {es rest:List (List V)} (hid:h'.view id=.arr sz (es ++ rest)):bX P f vs h r (h'.set id (.arr sz es)):=by
 have hlt:id < h'.length:=iA (by rw[hid]; simp)
 refine ⟨by simpa using hc.1,fun Z μ F w xs hr hh hf=>(hc.2 Z μ F w xs hr hh (by simpa using hf)).mono ?_⟩
 rintro e w' ⟨x,Z',μ',rfl,hv,hh',hex,hmu⟩
 refine ⟨x,Z',μ',rfl,hv,?_,hex,by simpa using hmu⟩
 have e1:∀ k,cat (h'.set id (.arr sz es)) F k=if k=id then .arr sz es else cat h' F k:=fun k=>by
  simp only[cat,WW]
  by_cases hk:k < h'.length
  ·rw[Vd hk,Vd hk,jX hlt]; rfl
  ·rw[Va hk,Va hk,Va (by omega)]
 have e2:cat h' F id=.arr sz (es ++ rest):=by simp only[cat]; rw[Vd hlt,hid]
 refine ⟨fun k=>?_,fun i j b o s o' s' hne h1 h2=>?_,hh'.lt,hh'.cP,hh'.gX⟩
 ·rw[e1]
  split
  ·rename_i hk
   subst hk
   have h3:=hh'.obj k
   rw[e2] at h3
   intro b o0 s hm
   obtain ⟨k1,⟨c,e,f,hc,hf,hs⟩,k3,k4⟩:=h3 b o0 s hm
   have hg:∀ i,i < es.length→(es ++ rest).getD i []=es.getD i []:=fun i hi=>by
    simp[U8,Vz hi]
   refine ⟨k1,⟨c,e,f,hc,hf,?_⟩,fun i hi=>?_,fun i j hi hj=>?_⟩
   ·rw[V6,VW] at hs; omega
   ·rw[← hg i hi]; exact k3 i (by rw[V6]; omega)
   ·rw[← hg i hi]; exact k4 i j (by rw[V6]; omega) hj
  ·exact hh'.obj k
 ·have h3:=hh'.inj i j b o s o' s' hne h1 h2
  rw[e1,e1]
  rcases h3 with h3 | h3
  ·left
   rw[Va (fun e=>by rw[e,e2] at h3; simp at h3)]; exact h3
  ·right
   rw[Va (fun e=>by rw[e,e2] at h3; simp at h3)]; exact h3
theorem aC.cut {P:Program} {f:FuncId} {vs:List V} {H:View} {K K':V→View→Prop} (h:aC P f vs H K) (hk:∀ r H',K r H'→K' r H'∨∃ id sz es rest,H' id=.arr sz (es ++ rest)∧K' r (H'.set id (.arr sz es))):aC P f vs H K':=by
 refine ⟨h.1,fun h0 hv=>?_⟩
 obtain ⟨r,h',ha,hs,hK⟩:=h.2 h0 hv
 rcases hk r _ hK with h1 | ⟨id,sz,es,rest,hid,h1⟩
 ·exact ⟨r,h',ha,hs,h1⟩
 ·have hlt:id < h'.length:=iA (by rw[hid]; simp)
  refine ⟨r,h'.set id (.arr sz es),ha.cut hid,fun k hk0 hd=>?_,by rw[jX hlt]; exact h1⟩
  have h2:=hs k hk0 hd
  rw[jX hlt]
  simp only[View.set]
  rw[Va (fun e=>by rw[e,hid] at h2; simp at h2)]
  exact h2
instance:Inhabited aH:=⟨⟨0,0⟩⟩
def iW (x:aH):List Value:=[.int .i64 x.aF,.int .i64 x.dot]
def oS (a b:aH):Int:=if Lib.compareInt a.aF b.aF≠0 then Lib.compareInt a.aF b.aF else Lib.compareInt a.dot b.dot
theorem Qw (a b:aH):(Lib.compareInt a.aF b.aF≠0→oS a b=Lib.compareInt a.aF b.aF)∧(Lib.compareInt a.aF b.aF=0→oS a b=Lib.compareInt a.dot b.dot):=by
 unfold oS
 exact ⟨fun h=>by rw[Vd h],fun h=>by rw[Va (by simp[h])]⟩
theorem sS (a b:aH):ltOf oS a b=cJ a b:=by
 have hc:∀ x y:Int,(x < y∧Lib.compareInt x y = -1)∨(x=y∧Lib.compareInt x y=0)∨(y < x∧Lib.compareInt x y=1):=fun x y=>by
  unfold Lib.compareInt; (repeat' split) <;> omega
 rw[We,fq]
 simp only[ltOf,Vo,oS]
 rcases hc a.aF b.aF with ⟨h,e⟩ | ⟨h,e⟩ | ⟨h,e⟩ <;> rcases hc a.dot b.dot with ⟨k,e2⟩ | ⟨k,e2⟩ | ⟨k,e2⟩ <;> simp[e,e2] <;> omega
theorem L9:SWO (ltOf oS) where
 irrefl x:=by rw[sS]; exact lE
 trans x y z h k:=by rw[sS] at *; exact nU h k
 ntrans x y z h k:=by
  rw[sS] at *
  cases e:cJ x z with
  | false=>rfl
  | true =>
   have h1:¬ cJ x y=true:=by simp[h]
   have h2:¬ cJ y z=true:=by simp[k]
   rw[fq] at h1 h2 e
   omega
def eD (l:List aH):List aH:=l.mergeSort fun x y=>!cJ y x
theorem Nc (l:List aH):(l.toArray.toList.mergeSort fun x y=>!(ltOf oS) y x)=eD l:=by
 have e:(fun x y=>!(ltOf oS) y x)=fun x y=>!cJ y x:=by funext x y; rw[sS]
 rw[e]; rfl
theorem Ai (l:List aH):(eD l).Perm l:=List.mergeSort_perm _ _
theorem jb (l:List aH):(eD l).length=l.length:=(Ai l).length_eq
theorem AI (l:List aH):(eD l).Pairwise fun x y=>cJ y x=false:=by
 have:=List.pairwise_mergeSort (le:=fun x y:aH=>!cJ y x) (fun a b c h k=>by
  simp only[Xo,Bool.not_eq_false'] at h k ⊢
  cases e:cJ c a with
  | false=>simp
  | true =>
   have h1:¬ cJ b a=true:=by simpa using h
   have h2:¬ cJ c b=true:=by simpa using k
   rw[fq] at h1 h2 e
   omega) (fun a b=>by
  cases e:cJ b a with
  | false=>simp
  | true=>simp[I0 e]) l
 exact this.imp fun h=>by simpa using h
def Nu:Ren where
 f:=fun
  | 6=>112
  | 15=>167
  | 14=>166
  | 28=>207
  | 29=>208
  | 20=>199
  | 21=>200
  | 22=>201
  | 23=>202
  | 24=>203
  | 25=>204
  | 26=>205
  | 27=>206
  | 46=>227
  | 47=>228
  | 48=>229
  | 49=>230
  | 50=>231
  | 57=>244
  | n=>n
 t:=fun
  | 22=>27
  | 24=>33
  | 25=>164
  | 3=>3
  | 39=>212
  | 0=>0
  | 53=>67
  | 55=>249
  | 4=>4
  | 46=>242
  | 45=>241
  | 50=>30
  | 5=>5
  | 9=>9
  | 66=>269
  | 70=>273
  | 76=>282
  | 77=>283
  | n=>n
 g:=fun n=>n
theorem Q2:Go.Proofs.SlLaysF0.n6 Tryz.prog Nu where
 mixed:=by kernel_rfl
 f6:=⟨Tryz.f112.name,by kernel_rfl,by kernel_rfl⟩
 f14:=⟨Tryz.f166.name,by kernel_rfl,by kernel_rfl⟩
 f15:=by kernel_rfl
 f20:=⟨Tryz.f199.name,by kernel_rfl,by kernel_rfl⟩
 f21:=⟨Tryz.f200.name,by kernel_rfl,by kernel_rfl⟩
 f22:=⟨Tryz.f201.name,by kernel_rfl,by kernel_rfl⟩
 f23:=⟨Tryz.f202.name,by kernel_rfl,by kernel_rfl⟩
 f24:=⟨Tryz.f203.name,by kernel_rfl,by kernel_rfl⟩
 f25:=⟨Tryz.f204.name,by kernel_rfl,by kernel_rfl⟩
 f26:=⟨Tryz.f205.name,by kernel_rfl,by kernel_rfl⟩
 f27:=⟨Tryz.f206.name,by kernel_rfl,by kernel_rfl⟩
 f28:=by kernel_rfl
 f29:=by kernel_rfl
 f46:=⟨Tryz.f227.name,by kernel_rfl,by kernel_rfl⟩
 f47:=by kernel_rfl
 f48:=by kernel_rfl
 f49:=⟨Tryz.f230.name,by kernel_rfl,by kernel_rfl⟩
 f50:=⟨Tryz.f231.name,by kernel_rfl,by kernel_rfl⟩
 f57:=⟨Tryz.f244.name,by kernel_rfl,by kernel_rfl⟩
 t0:=Tryz.underlying0
 a0:=Tryz.isAgg0
 z0:=Tryz.sizeOf0
 v0:=Tryz.zeroValue0
 t3:=Tryz.underlying3
 a3:=Tryz.isAgg3
 z3:=Tryz.sizeOf3
 v3:=Tryz.zeroValue3
 t4:=Tryz.underlying4
 a4:=Tryz.isAgg4
 z4:=Tryz.sizeOf4
 v4:=Tryz.zeroValue4
 t5:=Tryz.underlying5
 a5:=Tryz.isAgg5
 z5:=Tryz.sizeOf5
 v5:=Tryz.zeroValue5
 t9:=Tryz.underlying9
 a9:=Tryz.isAgg9
 z9:=Tryz.sizeOf9
 v9:=Tryz.zeroValue9
 t22:=Tryz.underlying27
 a22:=Tryz.isAgg27
 z22:=Tryz.sizeOf27
 v22:=Tryz.zeroValue27
 t25:=Tryz.underlying164
 a25:=Tryz.isAgg164
 z25:=Tryz.sizeOf164
 v25:=Tryz.zeroValue164
 t39:=Tryz.underlying212
 a39:=Tryz.isAgg212
 z39:=Tryz.sizeOf212
 v39:=Tryz.zeroValue212
 t45:=Tryz.underlying241
 a45:=Tryz.isAgg241
 z45:=Tryz.sizeOf241
 v45:=Tryz.zeroValue241
 t46:=Tryz.underlying242
 a46:=Tryz.isAgg242
 z46:=Tryz.sizeOf242
 v46:=Tryz.zeroValue242
 t50:=Tryz.underlying30
 a50:=Tryz.isAgg30
 z50:=Tryz.sizeOf30
 v50:=Tryz.zeroValue30
 t53:=Tryz.underlying67
 a53:=Tryz.isAgg67
 z53:=Tryz.sizeOf67
 v53:=Tryz.zeroValue67
 t55:=Tryz.underlying249
 a55:=Tryz.isAgg249
 z55:=Tryz.sizeOf249
 v55:=Tryz.zeroValue249
 t66:=Tryz.underlying269
 a66:=Tryz.isAgg269
 z66:=Tryz.sizeOf269
 v66:=Tryz.zeroValue269
 t70:=Tryz.underlying273
 a70:=Tryz.isAgg273
 z70:=Tryz.sizeOf273
 v70:=Tryz.zeroValue273
 t76:=Tryz.underlying282
 a76:=Tryz.isAgg282
 z76:=Tryz.sizeOf282
 v76:=Tryz.zeroValue282
 t77:=Tryz.underlying283
 a77:=Tryz.isAgg283
 z77:=Tryz.sizeOf283
 v77:=Tryz.zeroValue283
def QT:Ren where
 f:=fun
  | 5=>126
  | 7=>173
  | n=>n
 t:=fun
  | 22=>3
  | 3=>3
  | 4=>4
  | n=>n
 g:=fun n=>n
theorem Tv:Go.Proofs.SlLaysC2.n5 Tryz.prog QT where
 mixed:=by kernel_rfl
 f5:=⟨Tryz.f126.name,by kernel_rfl,by kernel_rfl⟩
 f7:=⟨Tryz.f173.name,by kernel_rfl,by kernel_rfl⟩
 t3:=Tryz.underlying3
 a3:=Tryz.isAgg3
 z3:=Tryz.sizeOf3
 v3:=Tryz.zeroValue3
 t4:=Tryz.underlying4
 a4:=Tryz.isAgg4
 z4:=Tryz.sizeOf4
 v4:=Tryz.zeroValue4
 t22:=Tryz.underlying3
 a22:=Tryz.isAgg3
 z22:=Tryz.sizeOf3
 v22:=Tryz.zeroValue3
section
attribute [local go_sem] Oper.semAt_some
set_option maxHeartbeats 4000000 in
theorem IK (x y:Int) (b cap:Nat) (W:World) (h0:W.cell? ⟨b,0,none⟩=some (.int .i64 x)) (h1:W.cell? ⟨b,1,none⟩=some (.int .i64 y)) (r:Int) (hr:(x≠0→r=x)∧(x=0→r=y)) :
  Calls Tryz.prog 168 #[.slice (some ⟨b,0,none⟩) 2 cap] W fun e w'=>e=.returned (.int .i64 r)∧w'=W:=by
 go_enter Tryz.func168,Tryz.ntmps168
 go_wp2
 refine wp_loop_rounds 3 ?_
 rw[rounds_succ]
 go_wp2
 ·rename_i h
  go_ret
  exact ⟨by rw[hr.1 (by simpa using h)]; rfl,rfl⟩
 ·rename_i h
  have hx:x=0:=by simpa using h
  rw[rounds_succ]
  go_wp2
  ·rename_i h
   go_ret
   exact ⟨by rw[hr.2 hx]; rfl,rfl⟩
  ·rename_i h
   rw[rounds_succ]
   go_wp2
   go_ret
   exact ⟨by rw[hr.2 hx,show y=0 by simpa using h]; rfl,rfl⟩
structure TD (p:Prop):Prop where
 out:p
set_option maxHeartbeats 4000000 in
theorem IT (x1 x2 y1 y2:Int) (W:World) (r:Int) (hr:(Lib.compareInt x1 y1≠0→r=Lib.compareInt x1 y1)∧(Lib.compareInt x1 y1=0→r=Lib.compareInt x2 y2)) :
  Calls Tryz.prog 113 #[.agg #[.int .i64 x1,.int .i64 x2],.agg #[.int .i64 y1,.int .i64 y2]] W fun e w'=>e=.returned (.int .i64 r)∧∃ q os',w'=grow (W.drewN q) os':=by
 have hcon1:=fun W'=>AnyG.cmp_Compare_int Tv x1 y1 W'
 change ∀ W',Calls Tryz.prog 126 _ _ _ at hcon1
 have hcon2:=fun W'=>AnyG.cmp_Compare_int Tv x2 y2 W'
 change ∀ W',Calls Tryz.prog 126 _ _ _ at hcon2
 generalize Lib.compareInt x1 y1=c1 at *
 generalize Lib.compareInt x2 y2=c2 at *
 go_enter Tryz.func113,Tryz.ntmps113
 go_wp2_with (first | (go_at_call 126; refine (hcon1 _).mono ?_; rintro e w' ⟨rfl,rfl⟩) | (go_at_call 126; refine (hcon2 _).mono ?_; rintro e w' ⟨rfl,rfl⟩))
 obtain ⟨b1,hb1⟩:∃ b1,b1=W.heap.size:=⟨_,rfl⟩
 obtain ⟨b2,hb2⟩:∃ b2,b2=W.heap.size+1:=⟨_,rfl⟩
 rw[← hb2,← hb1]
 generalize hW1:(W.alloc (Obj.cells #[Value.int IntKind.i64 x1,Value.int IntKind.i64 x2] 33)).alloc (Obj.cells #[Value.int IntKind.i64 y1,Value.int IntKind.i64 y2] 33)=W1
 have hh1:W1.heap[b1]?=some (.cells #[Value.int IntKind.i64 x1,Value.int IntKind.i64 x2] 33 (0,0)):=by
  rw[← hW1,hb1]; exact (Below.heap_alloc _ _ _ (by simp)).trans (World.alloc_heap_new W _)
 have hh2:W1.heap[b2]?=some (.cells #[Value.int IntKind.i64 y1,Value.int IntKind.i64 y2] 33 (0,0)):=by
  rw[← hW1,hb2]
  have:=World.alloc_heap_new (W.alloc (Obj.cells #[Value.int IntKind.i64 x1,Value.int IntKind.i64 x2] 33)) (Obj.cells #[Value.int IntKind.i64 y1,Value.int IntKind.i64 y2] 33)
  rwa [World.size_alloc] at this
 have k0:W1.cell? ⟨b1,0,none⟩=some (.int .i64 x1):=by unfold World.cell?; rw[hh1]; rfl
 have k1:W1.cell? ⟨b1,1,none⟩=some (.int .i64 x2):=by unfold World.cell?; rw[hh1]; rfl
 have k2:W1.cell? ⟨b2,0,none⟩=some (.int .i64 y1):=by unfold World.cell?; rw[hh2]; rfl
 have k3:W1.cell? ⟨b2,1,none⟩=some (.int .i64 y2):=by unfold World.cell?; rw[hh2]; rfl
 clear hh1 hh2
 refine wp_region_still_tail 10 (by kernel_rfl) (by kernel_rfl) ?_
 change wpStill _ _ W1.drew (fun a'=>wpList _ _ _ _ a' W1.drew) _ _
 generalize hW2:W1.drew=W2
 replace k0:W2.cell? ⟨b1,0,none⟩=some (.int .i64 x1):=by rw[← hW2]; exact k0
 replace k1:W2.cell? ⟨b1,1,none⟩=some (.int .i64 x2):=by rw[← hW2]; exact k1
 replace k2:W2.cell? ⟨b2,0,none⟩=some (.int .i64 y1):=by rw[← hW2]; exact k2
 replace k3:W2.cell? ⟨b2,1,none⟩=some (.int .i64 y2):=by rw[← hW2]; exact k3
 have hgr:TD (W2=grow (W.drewN 1) #[Obj.cells #[Value.int IntKind.i64 x1,Value.int IntKind.i64 x2] 33,Obj.cells #[Value.int IntKind.i64 y1,Value.int IntKind.i64 y2] 33]):=by
  refine ⟨?_⟩
  rw[← hW2,← hW1,alloc_eq_grow,alloc_eq_grow,grow_grow]; rfl
 clear hW1 hW2 hb1 hb2
 simp only[WY,List.take_zero,List.drop_succ_cons,Ww]
 iterate 4 still_step
 still_call (hcon1 _)
 iterate 4 still_step
 still_call (hcon2 _)
 refine wpStill_nil ?_
 go_wp2_with (go_at_call 168; refine (IK c1 c2 _ _ _ ?_ ?_ r hr).mono ?_)
 ·unfold World.cell?; rw[World.alloc_heap_new]; rfl
 ·unfold World.cell?; rw[World.alloc_heap_new]; rfl
 ·rintro e w' ⟨rfl,rfl⟩
  go_wp2
  go_ret
  refine ⟨rfl,1,#[Obj.cells #[Value.int IntKind.i64 x1,Value.int IntKind.i64 x2] 33,Obj.cells #[Value.int IntKind.i64 y1,Value.int IntKind.i64 y2] 33,Obj.cells #[Value.int IntKind.i64 c1,Value.int IntKind.i64 c2] 3],?_⟩
  rw[hgr.out,alloc_eq_grow,grow_grow]; rfl
end
theorem GW {Z:Nat→Prop} {μ:Mu} {hp:Array Obj} {id off len esz:Nat} {x:Value} (h:aG Z μ hp (.sl id off len esz) x) :
  (len=0∧∃ a,x=.slice a 0 0)∨∃ b o0 cap,∃ c:Array Value,∃ e f,x=.slice (some ⟨b,o0+off * esz,none⟩) len cap∧μ id=some (b,o0,esz)∧len≤cap∧hp[b]?=some (.cells c e f)∧o0+(off+cap) * esz≤c.size:=by
 cases h with
 | pn _ _ _ a=>exact .inl ⟨rfl,a,rfl⟩
 | sl _ _ _ _ b o0 cap c e f h1 h2 h3 h4=>exact .inr ⟨b,o0,cap,c,e,f,rfl,h1,h2,h3,h4⟩
theorem S8 {Z:Nat→Prop} {μ:Mu} {hp:Array Obj} {f:FuncId} {x:Value} (h:aG Z μ hp (.fn f [] []) x):x=.func (.func f) #[] #[]:=by
 cases h with
 | fn _ _ _ aas bs h1 h2 _ _ =>
  rw[Array.eq_empty_of_size_eq_zero h1.symm,Array.eq_empty_of_size_eq_zero h2.symm]
theorem DQ (w:World) (b o0 m:Nat) (d:Array aH) (os:Array Obj) {j:Nat} (hj:j < w.heap.size):(sortWorldK iW 2 w b o0 m d os).heap[j]?=if b=j then (w.heap[j]?).map (onCells (putCells id o0 (flatK iW 2 d))) else w.heap[j]?:=by
 unfold sortWorldK grow putRowK putRow mapBlock
 simp only[Sort.ahead]
 rw[WA (by simpa using hj),Array.getElem?_modify]
set_option maxHeartbeats 4000000 in
theorem P0 (l:List aH) (hl:l.length < 1152921504606846976) (u:V) (H:View) (ho:ba H u 2 (aT l)):aC Tryz.prog 112 [u,.fn 113 [] []] H fun r H'=>r=.bI []∧(∀ id,owner u≠some id→H' id=H id)∧ba H' u 2 (aT (eD l)):=by
 refine ⟨by kernel_rfl,?_⟩
 rintro h rfl
 have eg:∀ args w,(callFunc 113 args).run Tryz.prog w=.ok (.enter 113 args) w:=enters_of Tryz.func113 (by kernel_rfl) rfl
 by_cases hnil:l=[]
 ·subst hnil
  refine ⟨.bI [],h,⟨Vj _,fun Z μ F w xs hrel hr hfree=>?_⟩,.refl _,rfl,fun _ _=>rfl,by simpa [eD] using ho⟩
  obtain ⟨hlen,hv⟩:=hrel
  obtain ⟨x,y,rfl⟩:∃ x y,xs=[x,y]:=by
   match xs,hlen with
   | [x,y],_=>exact ⟨x,y,rfl⟩
  have h0:aG Z μ w.heap u x:=hv 0 (by simp)
  obtain ⟨p,cap,rfl⟩:∃ p cap,x=.slice p 0 cap:=by
   rcases ho with ⟨_,k,rfl⟩ | ⟨n,rfl,_⟩
   ·cases h0 with | emp _ a _ _=>exact ⟨a,0,rfl⟩
   ·rcases GW h0 with ⟨_,a,e⟩ | ⟨b,o0,cap,c,e,f,e2,_⟩
    ·exact ⟨a,0,e⟩
    ·exact ⟨_,cap,e2⟩
  refine (AnyF.slices_SortFunc_none Q2 p cap y w).mono ?_
  rintro e w' ⟨rfl,rfl⟩
  exact ⟨.tuple #[],Z,μ,rfl,.bI [] #[] rfl (fun i hi=>by simp at hi),hr,Ext.refl _ _ _ _,fun _ _=>rfl⟩
 have hpos:0 < l.length:=Xg.2 hnil
 obtain ⟨n,rfl,hn⟩:=ho.sl (by rw[bJ]; exact hpos)
 rw[bJ]
 have hlt:n < h.length:=iA (by rw[hn]; simp)
 refine ⟨.bI [],h.set n (.arr 2 (aT (eD l))),⟨by simp,fun Z μ F w xs hrel hr hfree=>?_⟩,fun k hk hd=>?_,rfl,fun id hid=>?_,?_⟩
 rotate_left
 ·rw[jX hlt]
  simp only[View.set]
  rw[Va (fun e=>by rw[e,hn] at hd; simp at hd)]; exact hd
 ·rw[jX hlt]
  simp only[View.set]
  rw[Va (fun e=>hid (by rw[e]; rfl))]
 ·refine .inr ⟨n,by rw[bJ,jb],?_⟩
  rw[jX hlt]; simp[View.set]
 obtain ⟨hlen,hv⟩:=hrel
 obtain ⟨x,y,rfl⟩:∃ x y,xs=[x,y]:=by
  match xs,hlen with
  | [x,y],_=>exact ⟨x,y,rfl⟩
 have h0:aG Z μ w.heap (.sl n 0 l.length 2) x:=hv 0 (by simp)
 have h1:aG Z μ w.heap (.fn 113 [] []) y:=hv 1 (by simp)
 have hy:=S8 h1
 subst hy
 rcases GW h0 with ⟨e,_⟩ | ⟨b,o0,cap,c0,e0,f0,rfl,hμ,hcap,_,_⟩
 ·omega
 rw[Nat.zero_mul,W5]
 have hcat:cat h F n=.arr 2 (aT l):=by simp only[cat]; rw[Vd hlt,hn]
 have hob:=hr.obj n
 rw[hcat] at hob
 obtain ⟨_,⟨c,ty,fz,hc,hfz,hsz⟩,hq,hcell⟩:=hob b o0 2 hμ
 rw[bJ] at hsz hq hcell
 have hbl:b < w.heap.size:=hr.lt _ _ _ _ hμ
 have hgl:∀ (m:List aH) (i:Nat) (hi:i < m.length),(aT m).getD i []=bE m[i]:=fun m i hi=>by simp[aT,U8,hi]
 have hH:HoldsK iW 2 w b o0 l.toArray:=by
  intro j hj
  rw[size_flatK] at hj
  have hj':j < l.length * 2:=by simpa using hj
  have hi:j / 2 < l.length:=by omega
  obtain ⟨x,hx,hxv⟩:=hcell (j / 2) (j % 2) hi (by omega)
  rw[show o0+j / 2 * 2+j % 2=o0+j by omega] at hx
  have hxe:x=(flatK iW 2 l.toArray)[j]!:=by
   rw[get_flatK _ _ _ _ hj]
   rw[hgl l _ hi] at hxv
   have e1:l.toArray[j / 2]! = l[j / 2]:=by simp[hi]
   rw[e1]
   rcases Vy (j % 2) 1 with h2 | h2
   ·rw[show j % 2=0 by omega] at hxv ⊢
    simp only[bE,Wh] at hxv
    cases hxv; rfl
   ·rw[show j % 2=1 by omega] at hxv ⊢
    simp only[bE,WZ,Wh] at hxv
    cases hxv; rfl
  refine ⟨by rw[nD,hx,hxe]; rfl,?_⟩
  simp only[World.frozen?,hc]
  rcases hfz with e | e
  ·simp only[e,Bool.and_eq_false_iff,Wp]; omega
  ·simp only[Bool.and_eq_false_iff,Wp]; omega
 have hT:∀ x y,(ltOf oS) x y=false→(ltOf oS) y x=false→x=y:=fun x y h1 h2=>by
  rw[sS] at h1 h2
  exact Wc fun hne=>by rw[wP h1 hne] at h2; simp at h2
 have hrun:=AnyQ.slices_SortFunc_total Q2 2 Tryz.isAgg33 Tryz.sizeOf33 iW (fun _=>rfl) (fun x v hv=>by simp[iW] at hv; rcases hv with rfl | rfl <;> rfl) oS L9 113 #[] b o0 cap l.toArray w eg (fun _ _ _ _ x y=>IT x.aF x.dot y.aF y.dot _ _ (Qw x y)) hH hbl (by simp; omega) hT
 rw[Nc] at hrun
 refine Calls.mono (show Calls Tryz.prog 112 _ w _ from hrun) ?_
 rintro e w' ⟨rfl,m,os,rfl⟩
 have hsl:=jb l
 have hheap:=fun {j:Nat} (hj:j < w.heap.size)=>DQ w b o0 m (eD l).toArray os hj
 have hafter:HoldsK iW 2 (sortWorldK iW 2 w b o0 m (eD l).toArray os) b o0 (eD l).toArray:=SWK.holds ⟨m,os,rfl⟩ hbl hH (by simp[hsl])
 have hsize:w.heap.size≤(sortWorldK iW 2 w b o0 m (eD l).toArray os).heap.size:=SWK.le (dk:=(eD l).toArray) ⟨m,os,rfl⟩
 have hsame:eO w (sortWorldK iW 2 w b o0 m (eD l).toArray os):=⟨rfl,rfl,rfl,hsize⟩
 generalize sortWorldK iW 2 w b o0 m (eD l).toArray os=w' at *
 have hb':w'.heap[b]?=some (.cells (putCells id o0 (flatK iW 2 (eD l).toArray) c) ty fz):=by
  rw[hheap hbl,Vd rfl,hc]; rfl
 have heff:mD Z μ μ w.heap w'.heap h.length (.fj n (.arr 2 (aT (eD l)))):=by
  refine ⟨b,o0,2,hμ,rfl,fun j hj hne=>by rw[hheap hj,Va (fun e=>hne e.symm)],fun j cc ee ff hjj=>?_,?_⟩
  ·have hjl:j < w.heap.size:=by
    rcases Vy j w.heap.size with q | q
    ·exact q
    ·simp[WD q] at hjj
   by_cases e:b=j
   ·subst e
    rw[hc] at hjj
    simp only[Vb,Obj.cells.injEq] at hjj
    obtain ⟨rfl,rfl,rfl⟩:=hjj
    exact ⟨_,_,hb',by simp[putCells]⟩
   ·exact ⟨cc,ff,by rw[hheap hjl,Va e]; exact hjj,rfl⟩
  ·intro b1 o1 s1 h1
   rw[hμ] at h1
   simp only[Vb,Ve] at h1
   obtain ⟨rfl,rfl,rfl⟩:=h1
   refine ⟨rfl,⟨_,ty,fz,hb',?_,?_⟩,fun i hi=>?_,fun i j hi hj=>?_⟩
   ·simpa [putCells] using hfz
   ·rw[bJ,hsl]; simpa [putCells] using hsz
   ·rw[bJ] at hi; rw[hgl _ i hi]; rfl
   ·rw[bJ] at hi
    have:=(hafter.cell (i:=i) (c:=j) (by simpa using hi) hj).1
    rw[nD] at this
    refine ⟨_,this,?_⟩
    rw[hgl _ i hi]
    have e1:(eD l).toArray[i]! = (eD l)[i]:=by simp[hi]
    rw[e1]
    match j,hj with
    | 0,_=>exact .val _ rfl
    | 1,_=>exact .val _ rfl
 have hne:cat h F n≠.dead:=by rw[hcat]; simp
 have hrel':=hr.eff (n:=h.length) (eff:=.fj n (.arr 2 (aT (eD l)))) (by trivial) hsize heff (fun id o e=>by cases e; exact hne) (fun id o e=>by cases e)
 obtain ⟨hext,hmu⟩:=heff.ext hsame (by trivial) hr.cP hr.gX
 refine ⟨.tuple #[],Z,μ,rfl,.bI [] #[] rfl (fun i hi=>by simp at hi),?_,hext,fun _ _=>rfl⟩
 have ev:cat (h.set n (.arr 2 (aT (eD l)))) F=bG.view (cat h F) h.length (.fj n (.arr 2 (aT (eD l)))):=by
  funext k
  simp only[cat,bG.view,View.set,WW]
  by_cases hk:k < h.length
  ·rw[Vd hk,Vd hk,jX hlt]; rfl
  ·rw[Va hk,Va hk,Va (by omega)]
 rw[ev]
 exact hrel'
abbrev ia:aH:=⟨0,0⟩
def fE (l:List aH):Nat→List aH
 | 0=>[]
 | n+1=>if n=0∨l.getD n ia≠l.getD (n - 1) ia then fE l n ++ [l.getD n ia] else fE l n
theorem yO (l:List aH):∀ n,n≤l.length→(∀ j,0 < j→j < n→l.getD j ia≠l.getD (j - 1) ia)→fE l n=l.take n
 | 0,_,_=>by simp[fE]
 | n+1,hn,h=>by
  have ih:=yO l n (by omega) fun j h1 h2=>h j h1 (by omega)
  have hx:l[n]?=some (l.getD n ia):=getD_some (by omega)
  rw[fE,Vd,ih,Vx,hx]
  ·rfl
  ·by_cases e:n=0
   ·exact .inl e
   ·exact .inr (h n (by omega) (by omega))
def zL (l:List aH):List aH:=fE (eD l) l.length
theorem wc {l:List aH} (hp:l.Pairwise fun x y=>cJ y x=false):∀ n,n≤l.length→cB (fE l n)∧(∀ x,x∈fE l n↔∃ i,i < n∧l.getD i ia=x)
 | 0,_=>by simp[fE,cB]
 | n+1,hn=>by
  obtain ⟨h1,h2⟩:=wc hp n (by omega)
  have hge:∀ i j,i < j→j < l.length→cJ (l.getD j ia) (l.getD i ia)=false:=fun i j hij hj=>by
   have:=List.pairwise_iff_getElem.1 hp i j (by omega) hj hij
   simpa [U8,U9 hj,U9 (show i < l.length by omega)] using this
  rw[fE]
  split
  ·rename_i hc
   refine ⟨?_,fun x=>?_⟩
   ·rw[cB,List.pairwise_append]
    refine ⟨h1,by simp,fun a ha b hb=>?_⟩
    rw[VY] at hb; subst hb
    obtain ⟨i,hi,rfl⟩:=(h2 a).1 ha
    have hc:l.getD n ia≠l.getD (n - 1) ia:=hc.resolve_left (by omega)
    have k1:=wP (hge (n - 1) n (by omega) (by omega)) hc
    rcases Vy i (n - 1) with h | h
    ·have k2:=hge i (n - 1) h (by omega)
     have k3:¬ cJ (l.getD (n - 1) ia) (l.getD i ia)=true:=by rw[k2]; simp
     rw[fq] at k1 k3 ⊢
     omega
    ·have:i=n - 1:=by omega
     subst this; exact k1
   ·rw[VE,h2,VY]
    constructor
    ·rintro (⟨i,hi,e⟩ | e)
     ·exact ⟨i,by omega,e⟩
     ·exact ⟨n,by omega,e.symm⟩
    ·rintro ⟨i,hi,e⟩
     rcases Vy i n with h | h
     ·exact .inl ⟨i,h,e⟩
     ·have:i=n:=by omega
      subst this; exact .inr e.symm
  ·rename_i hc
   simp only[not_or,Decidable.not_not] at hc
   refine ⟨h1,fun x=>?_⟩
   rw[h2]
   constructor
   ·rintro ⟨i,hi,e⟩; exact ⟨i,by omega,e⟩
   ·rintro ⟨i,hi,e⟩
    rcases Vy i n with h | h
    ·exact ⟨i,h,e⟩
    ·have:i=n:=by omega
     subst this
     exact ⟨i - 1,by omega,by rw[← hc.2]; exact e⟩
theorem Cz (l:List aH):cB (zL l):=(wc (AI l) _ (by rw[jb]; exact Vj _)).1
theorem qH {l:List aH} {x:aH} : x∈zL l↔x∈l:=by
 rw[zL,(wc (AI l) _ (by rw[jb]; exact Vj _)).2,← (Ai l).mem_iff,Wl]
 constructor
 ·rintro ⟨i,hi,e⟩
  have hi':i < (eD l).length:=by rw[jb]; exact hi
  exact ⟨i,hi',by rw[U8,U9 hi'] at e; exact e⟩
 ·rintro ⟨i,hi,e⟩
  exact ⟨i,by rw[jb] at hi; exact hi,by rw[U8,U9 hi]; exact e⟩
theorem LW {l:List aH} (h:cB l):zL l=l:=zb (Cz l) h fun _=>qH
def jT (g:aw) (s:Int):Int:=if s < 0 then (g.ay.length:Int) - 1 - s else s
theorem wg (g:aw) (k:Nat):jT g (bf g k)=k:=by
 unfold jT bf; split <;> split <;> omega
theorem G1 {g:aw} {s:Int} (h1:s < g.ay.length):0≤jT g s∧bf g (jT g s).toNat=s:=by
 unfold jT bf; split
 ·rw[Va (by omega)]; omega
 ·rw[Vd (by omega)]; omega
theorem pD {g:aw} {s:Int} (h:gu g s=true):s < g.ay.length∧jT g s < g.ay.length+g.az.length:=by
 unfold gu at h
 unfold jT
 by_cases h0:0≤s
 ·rw[Vd h0] at h
  rw[Va (by omega)]
  simp at h
  omega
 ·rw[Va h0] at h
  rw[Vd (by omega)]
  simp at h
  omega
def fX (l:List aH):List UInt8:=l.flatMap fun x=>[UInt8.ofNat (x.aF+1).toNat,UInt8.ofNat x.dot.toNat]
theorem N0 {a b:Nat} (ha:a < 256) (hb:b < 256) (h:UInt8.ofNat a=UInt8.ofNat b):a=b:=by
 have:=Wj UInt8.toNat h
 simp at this
 omega
theorem Ih {g:aw} (hf:g.dK):∀ {a b:List aH},(∀ x∈a,cr g x)→(∀ x∈b,cr g x)→fX a=fX b→a=b
 | [],[],_,_,_=>rfl
 | [],y :: b,_,_,h=>by simp[fX] at h
 | x :: a,[],_,_,h=>by simp[fX] at h
 | x :: a,y :: b,ha,hb,h=>by
  simp only[fX,List.flatMap_cons,VL,V9,Xl] at h
  obtain ⟨h1,h2,h3⟩:=h
  have hx:=ha x (by simp)
  have hy:=hb y (by simp)
  have hr:=hf.rules
  have e1:=eS hf hx.1
  have e2:=eS hf hy.1
  have:=hx.1; have:=hx.2; have:=hy.1; have:=hy.2
  have k1:=N0 (by omega) (by omega) h1
  have k2:=N0 (by omega) (by omega) h2
  have ih:=Ih hf (fun z hz=>ha z (by simp[hz])) (fun z hz=>hb z (by simp[hz])) h3
  obtain ⟨xr,xd⟩:=x
  obtain ⟨yr,yd⟩:=y
  simp only at *
  have:xr=yr:=by omega
  have:xd=yd:=by omega
  subst_vars; rfl
structure jY (g:aw) (a:List aR):Prop where
 first:(a.getD 0 bH).bh=[⟨-1,0⟩]
 nS:∀ s∈a,∀ e∈s.bk,(a.getD e.to.toNat bH).bh=bz g (cw g s.bh) e.sym
theorem lI (l:List aR) (i:Nat) (c:dx) (j:Nat):((l.modify i fun x=>(⟨x.bh,x.bk ++ [c]⟩:aR)).getD j bH).bh=(l.getD j bH).bh:=by
 simp only[U8,List.getElem?_modify]
 cases l[j]? with
 | none=>rfl
 | some x =>
  by_cases e:i=j
  ·subst e; simp
  ·simp[e]
theorem jY.put {g:aw} {out:List aR} (h:jY g out) {at_:Nat} {s to:Int} (ht:(out.getD to.toNat bH).bh=bz g (cw g (out.getD at_ bH).bh) s):jY g (out.modify at_ fun x=>(⟨x.bh,x.bk ++ [⟨s,to⟩]⟩:aR)):=by
 refine ⟨by rw[lI]; exact h.first,fun y hy e he=>?_⟩
 rw[lI]
 rcases mem_modify hy with hy | ⟨x,hx,rfl⟩
 ·exact h.nS y hy e he
 ·rcases VE.1 he with he | he
  ·exact h.nS x (Vf hx) e he
  ·simp at he; subst he
   rw[ht,U8,hx]; rfl
theorem jY.add {g:aw} {out:List aR} (h:jY g out) (h1:1≤out.length) (ht:∀ s∈out,∀ e∈s.bk,0≤e.to∧e.to < out.length) (k:List aH):jY g (out ++ [⟨k,[]⟩]):=by
 have hg:∀ j:Nat,j < out.length→((out ++ [(⟨k,[]⟩:aR)]).getD j bH)=out.getD j bH:=fun j hj=>by
  simp[U8,Vz hj]
 refine ⟨by rw[hg 0 (by omega)]; exact h.first,fun y hy e he=>?_⟩
 rcases VE.1 hy with hy | hy
 ·have:=ht y hy e he
  rw[hg _ (by omega)]; exact h.nS y hy e he
 ·simp at hy; subst hy; simp at he
theorem Oa (g:aw) (l:List aH) (at_:Nat) (out:List aR) (i:Nat) {j:Nat} (hj:j < out.length):((df g l at_ out i).getD j bH).bh=(out.getD j bH).bh:=by
 unfold df
 split
 ·rfl
 ·split
  ·rw[lI]
   simp[U8,Vz hj]
  ·rw[lI]
theorem jY.step {g:aw} {l:List aH} {at_ i:Nat} {out:List aR} (h:jY g out) (hi:dU g at_ i out) (ha:at_ < out.length) (hl:cw g (out.getD at_ bH).bh=l):jY g (df g l at_ out i):=by
 unfold df
 split
 ·exact h
 ·split
  ·refine (h.add (by omega) hi.to _).put ?_
   rw[Vv]
   have e1:((out ++ [(⟨bz g l (bf g i),[]⟩:aR)]).getD out.length bH).bh=bz g l (bf g i):=by
    simp[U8]
   have e2:(out ++ [(⟨bz g l (bf g i),[]⟩:aR)]).getD at_ bH=out.getD at_ bH:=by
    simp[U8,Vz ha]
   rw[e1,e2,hl]
  ·rename_i hf
   refine h.put ?_
   obtain ⟨n,hn⟩:∃ n:Nat,findD out (bz g l (bf g i))=n:=⟨(findD out (bz g l (bf g i))).toNat,by omega⟩
   obtain ⟨s,h1,h2⟩:=Ip _ _ _ hn
   rw[hn,Vv,U8,h1,hl]
   exact h2
theorem jY.row {g:aw} (hf:g.dK) {at_:Nat} {out:List aR} (h:jY g out) (hi:dU g at_ 0 out) (ha:at_ < out.length):∀ n:Nat,n≤40→jY g ((List.range n).foldl (df g (cw g (out.getD at_ bH).bh) at_) out)∧(((List.range n).foldl (df g (cw g (out.getD at_ bH).bh) at_) out).getD at_ bH).bh=(out.getD at_ bH).bh
 | 0,_=>⟨h,rfl⟩
 | n+1,hn=>by
  obtain ⟨h1,h2⟩:=jY.row hf h hi ha n (by omega)
  obtain ⟨i1,i2,i3⟩:=dU.row (hi.oA hf ha).1 (hi.oA hf ha).2 hi n (by omega)
  rw[V0,VR]
  simp only[VF,Wk]
  refine ⟨h1.step i1 (by omega) (by rw[h2]),?_⟩
  rw[Oa _ _ _ _ _ (by omega),h2]
theorem CB {g:aw} (hf:g.dK):∀ (f at_:Nat) (out:List aR),dU g at_ 0 out→jY g out→(fF g f at_ out).2=0→jY g (fF g f at_ out).1
 | 0,_,out,_,h,_=>h
 | f+1,at_,out,hi,h,h3=>by
  rw[fF] at h3 ⊢
  split
  ·rename_i ha
   rw[Vd ha] at h3
   have hr:=dU.row (hi.oA hf ha).1 (hi.oA hf ha).2 hi (g.ay.length+g.az.length) (by have:=hf.ay; have:=hf.az; omega)
   have he:=h.row hf hi ha (g.ay.length+g.az.length) (by have:=hf.ay; have:=hf.az; omega)
   rw[show (List.range (g.ay.length+g.az.length)).foldl (df g (cw g (out.getD at_ bH).bh) at_) out=AM g at_ out (g.ay.length+g.az.length) from rfl] at hr he
   split
   ·rename_i hc; rw[Vd hc] at h3; simp at h3
   ·rename_i hc
    rw[Va hc] at h3
    exact CB hf f (at_+1) _ hr.1.next he.1 h3
  ·exact h
theorem Md {g:aw} (hf:g.dK) (h:(cG g).2=0):jY g (cG g).1:=by
 unfold cG at h ⊢
 split
 ·rename_i hr
  rw[Vd hr] at h
  exact CB hf 302 0 dX na ⟨rfl,fun s hs e he=>by simp[dX] at hs; subst hs; simp at he⟩ h
 ·rename_i hr
  rw[Va hr] at h
  simp at h
theorem zY {a:List aR} {i:Nat} {e:dx} (h:e∈(a.getD i bH).bk):i < a.length∧a.getD i bH∈a:=by
 rcases Vy i a.length with hi | hi
 ·exact ⟨hi,Vf (getD_some hi)⟩
 ·rw[U8,VI hi] at h; simp at h
theorem mR.bh {g:aw} {l:List aH} {x:aH} (h:mR g l x) (hd:x.dot≠0∨x.aF < 0):x∈l:=by
 cases h with
 | base h=>exact h
 | step=>simp at hd; omega
def ko (g:aw) (l:List aH) (n:Nat):List Int:=((List.range n).filter fun i=>decide (bz g l (bf g i)≠[])).map fun (i:Nat)=>bf g i
theorem CS (g:aw) (l:List aH) (n:Nat):ko g l (n+1)=if bz g l (bf g n)=[] then ko g l n else ko g l n ++ [bf g n]:=by
 unfold ko
 rw[V0,WB,VB]
 by_cases h:bz g l (bf g n)=[]
 ·rw[Vd h]; simp[h]
 ·rw[Va h]; simp[h]
structure mN (g:aw) (at_ i:Nat) (out:List aR):Prop where
 one:(out.map aR.bh).Nodup
 back:∀ j:Nat,0 < j→j < out.length→∃ (i:Nat) (e:dx),i < j∧e∈(out.getD i bH).bk∧e.to=j
 done:∀ j:Nat,j < at_→j < out.length→(out.getD j bH).bk.map dx.sym=ko g (cw g (out.getD j bH).bh) (g.ay.length+g.az.length)
 here:at_ < out.length→(out.getD at_ bH).bk.map dx.sym=ko g (cw g (out.getD at_ bH).bh) i
theorem rV (l:List aR) (i:Nat) (c:dx) (j:Nat) (hi:i < l.length):((l.modify i fun x=>(⟨x.bh,x.bk ++ [c]⟩:aR)).getD j bH).bk=if i=j then (l.getD j bH).bk ++ [c] else (l.getD j bH).bk:=by
 simp only[U8,List.getElem?_modify]
 by_cases e:i=j
 ·subst e; simp[hi]
 ·cases l[j]? with
  | none=>simp[e]
  | some x=>simp[e]
theorem Dg (l:List aR) (i:Nat) (c:dx):(l.modify i fun x=>(⟨x.bh,x.bk ++ [c]⟩:aR)).map aR.bh=l.map aR.bh:=by
 apply List.ext_getElem?
 intro j
 simp only[Vc,List.getElem?_modify]
 cases l[j]? with
 | none=>rfl
 | some x=>by_cases e:i=j <;> simp[e]
theorem mN.put {g:aw} {at_ i:Nat} {out:List aR} {to:Int} (ha:at_ < out.length) (h1:(out.map aR.bh).Nodup) (h2:∀ j:Nat,0 < j→j < out.length→(∃ (i:Nat) (e:dx),i < j∧e∈(out.getD i bH).bk∧e.to=j)∨(at_ < j∧to=j))
  (h3:∀ j:Nat,j < at_→j < out.length→(out.getD j bH).bk.map dx.sym=ko g (cw g (out.getD j bH).bh) (g.ay.length+g.az.length)) (h4:(out.getD at_ bH).bk.map dx.sym=ko g (cw g (out.getD at_ bH).bh) i)
  (hne:bz g (cw g (out.getD at_ bH).bh) (bf g i)≠[]):mN g at_ (i+1) (out.modify at_ fun x=>(⟨x.bh,x.bk ++ [⟨bf g i,to⟩]⟩:aR)):=by
 refine ⟨by rw[Dg]; exact h1,fun j hj hl=>?_,fun j hj hl=>?_,fun _=>?_⟩
 ·rw[List.length_modify] at hl
  rcases h2 j hj hl with ⟨k,e,a1,a2,a3⟩ | ⟨a1,a2⟩
  ·refine ⟨k,e,a1,?_,a3⟩
   rw[rV _ _ _ _ ha]
   split
   ·exact WC _ a2
   ·exact a2
  ·refine ⟨at_,⟨bf g i,to⟩,a1,?_,a2⟩
   rw[rV _ _ _ _ ha,Vd rfl]
   simp
 ·rw[List.length_modify] at hl
  rw[rV _ _ _ _ ha,Va (by omega),lI]
  exact h3 j hj hl
 ·rw[rV _ _ _ _ ha,Vd rfl,lI,VB,h4,CS,Va hne]; rfl
theorem mN.step {g:aw} {at_ i:Nat} {out:List aR} (h:mN g at_ i out) (ha:at_ < out.length):mN g at_ (i+1) (df g (cw g (out.getD at_ bH).bh) at_ out i):=by
 unfold df
 split
 ·rename_i hm
  exact ⟨h.one,h.back,h.done,fun _=>by rw[CS,Vd hm]; exact h.here ha⟩
 ·rename_i hm
  split
  ·rename_i hf
   have hg:∀ j:Nat,j < out.length→((out ++ [(⟨bz g (cw g (out.getD at_ bH).bh) (bf g i),[]⟩:aR)]).getD j bH)=out.getD j bH:=fun j hj=>by
    simp[U8,Vz hj]
   refine mN.put (by simp; omega) ?_ (fun j hj hl=>?_) (fun j hj hl=>?_) ?_ ?_
   ·rw[VB,V2]
    refine ⟨h.one,by simp,fun a hA b hB=>?_⟩
    obtain ⟨s,hs,rfl⟩:=Vw.1 hA
    simp at hB; subst hB
    exact Ij _ _ hf s hs
   ·rcases Vy j out.length with q | q
    ·obtain ⟨k,e,a1,a2,a3⟩:=h.back j hj q
     exact .inl ⟨k,e,a1,by rw[hg k (by omega)]; exact a2,a3⟩
    ·right
     simp at hl
     exact ⟨by omega,by omega⟩
   ·rw[hg j (by omega)]; exact h.done j hj (by omega)
   ·rw[hg at_ ha]; exact h.here ha
   ·rw[hg at_ ha]; exact hm
  ·exact mN.put ha h.one (fun j hj hl=>.inl (h.back j hj hl)) h.done (h.here ha) hm
theorem mN.row {g:aw} (hf:g.dK) {at_:Nat} {out:List aR} (h:mN g at_ 0 out) (hi:dU g at_ 0 out) (he:jY g out) (ha:at_ < out.length):∀ n:Nat,n≤40→mN g at_ n ((List.range n).foldl (df g (cw g (out.getD at_ bH).bh) at_) out)
 | 0,_=>h
 | n+1,hn=>by
  have h1:=mN.row hf h hi he ha n (by omega)
  obtain ⟨i1,i2,i3⟩:=dU.row (hi.oA hf ha).1 (hi.oA hf ha).2 hi n (by omega)
  obtain ⟨e1,e2⟩:=he.row hf hi ha n (by omega)
  rw[V0,VR]
  simp only[VF,Wk]
  have:=h1.step (by omega)
  rw[e2] at this
  exact this
theorem mN.next {g:aw} {at_:Nat} {out:List aR} (h:mN g at_ (g.ay.length+g.az.length) out) (hi:dU g at_ (g.ay.length+g.az.length) out):mN g (at_+1) 0 out:=by
 refine ⟨h.one,h.back,fun j hj hl=>?_,fun hl=>?_⟩
 ·rcases Vy j at_ with q | q
  ·exact h.done j q hl
  ·have:j=at_:=by omega
   subst this
   exact h.here hl
 ·have:=(hi.bk (at_+1) _ (getD_some (d:=bH) hl)).2.2 (by omega)
  rw[this]; simp[ko]
structure Pw (g:aw) (a:List aR):Prop where
 one:(a.map aR.bh).Nodup
 back:∀ j:Nat,0 < j→j < a.length→∃ (i:Nat) (e:dx),i < j∧e∈(a.getD i bH).bk∧e.to=j
 all:∀ s∈a,s.bk.map dx.sym=ko g (cw g s.bh) (g.ay.length+g.az.length)
theorem CK {g:aw} (hf:g.dK):∀ (f at_:Nat) (out:List aR),302≤f+at_→dU g at_ 0 out→jY g out→mN g at_ 0 out→out.length≤300→(fF g f at_ out).2=0→Pw g (fF g f at_ out).1
 | 0,at_,out,h0,_,_,h,hl,_=>⟨h.one,h.back,fun s hs=>by
   change s∈out at hs
   obtain ⟨j,hj,e⟩:=Wl.1 hs
   have:=h.done j (by omega) hj
   rwa [show out.getD j bH=s by rw[U8,U9 hj]; exact e] at this⟩
 | f+1,at_,out,h0,hi,he,h,hl,h3=>by
  have hT:=hf.ay
  have hN:=hf.az
  rw[fF] at h3 ⊢
  split
  ·rename_i ha
   rw[Vd ha] at h3
   have hr:=dU.row (hi.oA hf ha).1 (hi.oA hf ha).2 hi (g.ay.length+g.az.length) (by omega)
   have hE:=he.row hf hi ha (g.ay.length+g.az.length) (by omega)
   have hF:=h.row hf hi he ha (g.ay.length+g.az.length) (by omega)
   rw[show (List.range (g.ay.length+g.az.length)).foldl (df g (cw g (out.getD at_ bH).bh) at_) out=AM g at_ out (g.ay.length+g.az.length) from rfl] at hr hE hF
   split
   ·rename_i hc; rw[Vd hc] at h3; simp at h3
   ·rename_i hc
    rw[Va hc] at h3
    exact CK hf f (at_+1) _ (by omega) hr.1.next hE.1 (hF.next hr.1) (by omega) h3
  ·rename_i ha
   exact ⟨h.one,h.back,fun s hs=>by
    change s∈out at hs
    obtain ⟨j,hj,e⟩:=Wl.1 hs
    have:=h.done j (by omega) hj
    rwa [show out.getD j bH=s by rw[U8,U9 hj]; exact e] at this⟩
theorem L7 {g:aw} (hf:g.dK) (h:(cG g).2=0):Pw g (cG g).1:=by
 unfold cG at h ⊢
 split
 ·rename_i hr
  rw[Vd hr] at h
  refine CK hf 302 0 dX (by omega) na ⟨rfl,fun s hs e he=>by simp[dX] at hs; subst hs; simp at he⟩ ⟨by simp[dX],fun j h1 h2=>by simp[dX] at h2; omega,fun j h1=>by omega,fun _=>?_⟩ (by simp[dX]) h
  simp[dX,ko]
 ·rename_i hr
  rw[Va hr] at h
  simp at h
theorem Fi (g:aw):∀ (f at_:Nat) (out:List aR),(fF g f at_ out).2=0∨fF g f at_ out=([],5)
 | 0,_,_=>.inl rfl
 | f+1,at_,out=>by
  rw[fF]
  split
  ·split
   ·exact .inr rfl
   ·exact Fi g f _ _
  ·exact .inl rfl
theorem E4 (g:aw):((cG g).2=0∧isRed g=true)∨(cG g=([],5)∧isRed g=true)∨(cG g=([],1)∧isRed g=false):=by
 unfold cG
 cases h:isRed g with
 | false=>exact .inr (.inr ⟨by simp,rfl⟩)
 | true =>
  rw[Vd rfl]
  rcases Fi g 302 0 dX with h | h
  ·exact .inl ⟨h,rfl⟩
  ·exact .inr (.inl ⟨h,rfl⟩)
theorem pI {g:aw} (hf:g.dK) {x:aH} (hx:cr g x) {s:Int} (h:bA g x=(s,true)):gu g s=true:=by
 obtain ⟨h1,h2⟩:=qj h
 have hlt:x.dot.toNat < (aW g x.aF).length:=by have:=hx.2; omega
 have hm:s∈aW g x.aF:=by
  rw[← h2,U8,U9 hlt]; exact Vi _
 unfold aW at hm
 split at hm
 ·simp at hm; subst hm
  have:=hf.me; have:=hf.start
  unfold gu
  rw[Va (by omega)]
  simp; omega
 ·have hR:g.rules[x.aF.toNat]?=some (aE g x.aF):=by unfold aE; exact getD_some (by have:=hx.1; omega)
  exact hf.sym _ (Vf hR) s hm
end Gv
