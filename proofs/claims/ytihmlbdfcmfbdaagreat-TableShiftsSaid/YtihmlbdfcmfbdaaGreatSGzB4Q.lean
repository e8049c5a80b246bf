/-
  Part 17 of the proof: what the machine does and what the functions answer.
  Conditions: those that each lemma names.
-/
import Derived.Test.YtihmlbdfcmfbdaaGreatSGzB4P
set_option linter.unusedSimpArgs false
set_option linter.unusedVariables false
set_option maxRecDepth 100000
set_option maxHeartbeats 20000000
namespace Gv
open Go Go.Proofs
theorem xM {A:bQ (Int × Int)} {k:Int × Int} {v:V} (h:getM A k=some v):∃ a d b,A=a ++ (k,v,b) :: d∧∀ v' c,bF k v' c A=a ++ (k,v',b) :: d:=by
 induction A with
 | nil=>simp[getM] at h
 | cons x A f =>
  unfold getM at h f
  rw[YX] at h
  by_cases e:k=x.1
  ·simp only[e,YQ,Xk,Xe] at h
   refine ⟨[],A,x.2.2,by rw[e,← h]; rfl,fun v' c=>?_⟩
   rw[bF,e,YQ,Xg rfl]; rfl
  ·rw[beq_eq_false_iff_ne.2 e] at h
   obtain ⟨a,d,b,rfl,g⟩:=f h
   refine ⟨x :: a,d,b,rfl,fun v' c=>?_⟩
   rw[bF,beq_eq_false_iff_ne.2 e,g]; rfl
theorem td {A:bQ (Int × Int)} {k:Int × Int} (h:getM A k=none) (v:V) (c:Nat):bF k v c A=A ++ [(k,v,c)]:=by
 induction A with
 | nil=>rfl
 | cons x A a =>
  unfold getM at h a
  rw[YX] at h
  by_cases e:k=x.1
  ·simp[e] at h
  ·rw[beq_eq_false_iff_ne.2 e] at h
   rw[bF,beq_eq_false_iff_ne.2 e,a h]; rfl
theorem uJ {A:bQ (Int × Int)} {k:Int × Int} : getM A k=none↔k ∉ A.map (·.1):=by
 induction A with
 | nil=>simp[getM]
 | cons x A a =>
  unfold getM at a ⊢
  rw[YX]
  by_cases h:k=x.1
  ·simp[h]
  ·simp only[beq_eq_false_iff_ne.2 h,XF,Xs,not_or]
   rw[a]
   simp[h]
def je (fB:Int × Int→List Nat) (A:bQ (Int × Int)):List cw:=A.map fun x=>(x.2.1,1,fF (fB x.1))
structure qR (A:bQ (Int × Int)) (fB:Int × Int→List Nat):Prop where
 nd:(A.map (·.1)).Nodup
 all:∀ k,fB k≠[]→getM A k≠none
def KZ (fB:Int × Int→List Nat) (k:Int × Int) (l:List Nat):Int × Int→List Nat:=fun z=>if z=k then l else fB z
theorem QJ {a:Int × Int→List Nat} {A:bQ (Int × Int)} {k:Int × Int} {l:List Nat} (h:k ∉ A.map (·.1)):je (KZ a k l) A=je a A:=by
 unfold je
 refine Zd fun x b=>?_
 have:x.1≠k:=fun e=>h (e ▸ List.mem_map_of_mem b)
 simp[KZ,this]
theorem qR.entry {A:bQ (Int × Int)} {a:Int × Int→List Nat} (h:qR A a) {H:View} {Z:List cw} (t:ba H (Z ++ je a A)) (k:Int × Int) (c:Nat) :
  ∃ P Q b,bF k ((getM A k).getD (.emp 1)) c A=P ++ (k,(getM A k).getD (.emp 1),b) :: Q∧(∀ v m,bF k v m (bF k ((getM A k).getD (.emp 1)) c A)=P ++ (k,v,b) :: Q)∧ba H (Z ++ (je a P ++ ((getM A k).getD (.emp 1),1,fF (a k)) :: je a Q))∧k ∉ P.map (·.1)∧k ∉ Q.map (·.1)∧qR (P ++ (k,(getM A k).getD (.emp 1),b) :: Q) a:=by
 cases f:getM A k with
 | some v =>
  obtain ⟨P,Q,b,rfl,hp⟩:=xM f
  have g:=h.nd
  rw[XD,XF,Yc] at g
  have h1:k ∉ Q.map (·.1):=(X6.1 g.2.1).1
  have u:k ∉ P.map (·.1):=fun hm=>g.2.2 k hm k (by simp) rfl
  rw[Xu]
  refine ⟨P,Q,b,hp v c,fun v' m=>?_,?_,u,h1,h⟩
  ·rw[hp v c]
   have d:getM (P ++ (k,v,b) :: Q) k=some v:=f
   obtain ⟨w,z,C,e,i⟩:=xM d
   rw[hp]
  ·have:=t
   rw[je,XD,XF] at this
   exact this
 | none =>
  have n:=uJ.1 f
  have D:a k=[]:=Yj fun p=>h.all k p f
  rw[Option.getD_none,td f]
  refine ⟨A,[],c,rfl,fun v' m=>?_,?_,n,by simp,?_,fun E q=>?_⟩
  ·have d:getM (A ++ [(k,V.emp 1,c)]) k=some (.emp 1):=by
    rw[← td f,qg,YQ,Xg rfl]
   obtain ⟨w,z,C,e,i⟩:=xM d
   rw[← td f (.emp 1) c]
   clear i e d
   induction A with
   | nil=>simp[bF]
   | cons x A I =>
    have o:k≠x.1:=fun e=>n (by simp[e])
    have j:getM A k=none:=uJ.2 fun hm=>n (by simp[hm])
    rw[bF,beq_eq_false_iff_ne.2 o]
    simp only[Xz,if_false]
    rw[bF,beq_eq_false_iff_ne.2 o]
    simp only[Xz,if_false,XQ,Zg,true_and]
    rw[td j]
    have:∀ B:bQ (Int × Int),getM B k=none→bF k v' m (B ++ [(k,V.emp 1,c)])=B ++ [(k,v',c)]:=by
     intro B
     induction B with
     | nil=>intro _; simp[bF]
     | cons y B r =>
      intro F
      have l:=uJ.1 F
      have s:k≠y.1:=fun e=>l (by simp[e])
      rw[XQ,bF,beq_eq_false_iff_ne.2 s]
      simp only[Xz,if_false,XQ,Zg,true_and]
      exact r (uJ.2 fun hm=>l (by simp[hm]))
    exact this A j
  ·rw[D]
   have G:=t.emp (k:=1) (sz:=1)
   have e:Z ++ (je a A ++ (V.emp 1,1,fF []) :: je a [])=(Z ++ je a A) ++ [(V.emp 1,1,[])]:=by simp[je]
   rw[e]
   exact G.perm (List.perm_append_comm (l₁:=[_]))
  ·rw[XD,Yc]
   refine ⟨h.nd,by simp,fun x o y l e=>?_⟩
   simp at l
   exact n (by rw[← l,← e]; exact o)
  ·rw[← td f,qg]
   split
   ·simp
   ·exact h.all E q
def uZ:SC :=
 ae [ab [aV 57 .lss 56 55],bY 57 (.exit 2),.block 3 (ae [ab [aa 58 56,aQ 59 3 54 56,bg 60 3 59,((some 11),.op (.alloc [(.val (.int .i64 0)),(.emp 1),(.val (.int .i64 0))])),aa 10 58,bU 3 11 60],ab [ao 61 0 11,aj 62 61,ao 63 1 9,aj 64 63,aV 65 .eql 62 64],bf 65 (ae [ab [aa 66 6,bg 67 2 9,bg 68 3 11,bz 69 74 [66,67,68],aa 70 10,((some 71),.op (.build [(.val (.int .i64 0)),(.val (.int .i64 0))] [(0,1,(.tmp 69)),(1,1,(.tmp 70))])),((some 12),.op (.alloc [(.val (.int .i64 0)),(.val (.int .i64 0))])),bU 2 12 71],ab [aa 72 7,bg 73 2 12,aa 75 8,((some 76),.op (.bV 1 1 [(.val (.int .i64 0))] [(0,(.tmp 75))])),((some 77),.op (.old (.mapEntry 114 (.tmp 72) (.tmp 73)) 0)),fI 74 0 77,gY 78 1 8 74 76,fI 79 1 77,(none,.op (.old (.entryStore 114 (.tmp 72) (.tmp 79) (.tmp 78)) 0))]])]),ab [aH 80 .add 56 1,aa 56 80]]
def vn:SC :=
 ae [ab [aV 49 .lss 48 47],bY 49 (.exit 0),.block 1 (ae [ab [aa 50 48,aQ 51 2 46 48,bg 52 2 51,((some 9),.op (.alloc [(.val (.int .i64 0)),(.val (.int .i64 0))])),aa 8 50,bU 2 9 52],ab [ao 53 2 1,aj 54 53,aN 55 54,aS 56 0],b6 2 uZ]),ab [aH 81 .add 48 1,aa 48 81]]
def vi:SC :=
 ae [ab [aV 111 .lss 110 109],bY 111 (.exit 8),.block 9 (ae [ab [aQ 112 1 108 110,aj 113 112,aa 19 113],ab [ao 114 1 17,aj 115 114,aa 116 6,ep 117 116,ao 118 8 117,aj 119 118,aa 120 19,aQ 121 1 119 120,aj 122 121,aV 123 .or 115 122,ao 124 1 17,bU 1 124 123]]),ab [aH 125 .add 110 1,aa 110 125]]
def uO:SC :=
 ae [ab [aV 96 .lss 95 94],bY 96 (.exit 6),.block 7 (ae [ab [aa 97 95,aa 15 97],ab [aa 98 7,aa 99 14,aa 100 15,((some 101),.op (.build [(.val (.int .i64 0)),(.val (.int .i64 0))] [(0,1,(.tmp 99)),(1,1,(.tmp 100))])),((some 102),.op (.old (.lookup 114 (.tmp 98) (.tmp 101) false) 43)),aa 16 102],ae [ab [aa 103 16,aN 104 103,aH 105 .eql 104 0],bf 105 (.exit 7)],ab [aa 106 15,((some 107),.op (.build [(.val (.int .i64 0)),(.val (.int .u32 0))] [(0,1,(.tmp 106))])),((some 17),.op (.alloc [(.val (.int .i64 0)),(.val (.int .u32 0))])),bU 2 17 107],ae [ab [aa 108 16,aN 109 108,aS 110 0],b6 8 vi],ab [aa 126 13,aa 127 14,aa 128 13,aa 129 14,aQ 130 1 128 129,aj 131 130,bg 132 2 17,((some 133),.op (.bV 1 2 [(.val (.int .i64 0)),(.val (.int .u32 0))] [(0,(.tmp 132))])),gY 134 2 16 131 133,aQ 135 1 126 127,bU 1 135 134]]),ab [aH 136 .add 95 1,aa 95 136]]
def Bj:SC :=
 ae [ab [aV 90 .lss 89 88],bY 90 (.exit 4),.block 5 (ae [ab [aa 91 89,aa 14 91],ab [ao 92 2 1,aj 93 92,aN 94 93,aS 95 0],b6 6 uO]),ab [aH 137 .add 89 1,aa 89 137]]
def F6:SF:=⟨ae [ab [cI 1 0,df 2 1,aS 3 0],ab [bg 21 4 1,bz 22 24 [21],aa 20 22,fI 23 0 20,fI 24 1 20,aa 4 23,aa 5 24],ae [ab [aa 25 5,aH 26 .neq 25 0],bf 26 (ae [ab [aa 27 5,df 2 1,aa 3 27],.ret])],ab [bg 28 4 1,aa 29 4,bz 30 72 [28,29],aa 6 30],ab [aa 31 6,bz 32 73 [31]],ab [aa 33 6,aa 34 6,ep 35 34,ao 36 7 35,aj 37 36,aN 38 37,((some 39),.op (.make 1 24 [(.emp 1)] (.tmp 38) (.tmp 38))),ep 40 33,ao 41 9 40,bU 1 41 39],ab [((some 42),.op (.pD)),aa 7 42],ae [ab [aa 43 6,ep 44 43,ao 45 7 44,aj 46 45,aN 47 46,aS 48 0],b6 0 vn],ab [aa 82 6,bz 83 75 [82]],ab [aa 84 4,aN 85 84,((some 86),.op (.make 1 24 [(.emp 1)] (.tmp 85) (.tmp 85))),aa 13 86],ae [ab [aa 87 4,aN 88 87,aS 89 0],b6 4 Bj],ab [aa 138 13,aa 2 138,aS 3 0],.ret],
 [.tmp 2,.tmp 3],139⟩
theorem Hi:aR Tryz.prog 33 [1]=some F6:=by kernel_rfl
theorem K5:Su Tryz.prog 119 :=
 ⟨⟨⟨ "state",3,0,false,"","gerund/look",0⟩,⟨ "rule",3,1,false,"","gerund/look",8⟩,by kernel_rfl,by decide,by decide,Tryz.underlying3,Tryz.underlying3,rfl,rfl⟩,by kernel_rfl⟩
def bB (g:ag) (a:List aI) (x i:Nat) (key:Int × Int):List Nat :=
 if 0≤key.1∧0≤key.2∧key.2 < g.rules.length then jd g a x key.2.toNat key.1.toNat ++ (if key.2 < i∧(av g key.2).left=(dw a x).2∧kJ a (dw a x).1.toNat (av g key.2).right=key.1.toNat then [x] else []) else []
theorem T4 (g:ag) (a:List aI):bB g a 0 0=fun _=>[]:=by
 funext key
 unfold bB
 split
 ·rename_i h
  rw[Xd (fun b=>by omega)]
  simp[jd]
 ·rfl
theorem KL (g:ag) (a:List aI) (x:Nat):bB g a x g.rules.length=bB g a (x+1) 0:=by
 funext key
 unfold bB
 split
 ·rename_i h
  obtain ⟨k,hk⟩:∃ k:Nat,key.2=k:=⟨key.2.toNat,by omega⟩
  have d:¬ key.2 < ((0:Nat):Int):=by omega
  simp only[d,false_and,if_false,Yz]
  unfold jd
  rw[Ya,YG]
  congr 1
  rw[hk,Xy]
  by_cases b:(av g (k:Int)).left=(dw a x).2∧kJ a (dw a x).1.toNat (av g (k:Int)).right=key.1.toNat
  ·rw[Xg ⟨by omega,b.1,b.2⟩]
   rw[List.filter_cons_of_pos (by simp only[Xr]; exact b)]
   rfl
  ·rw[Xd (fun c=>b ⟨c.2.1,c.2.2⟩)]
   symm
   rw[List.filter_cons_of_neg (by simpa using fun h1 c=>b ⟨h1,c⟩)]
   rfl
 ·rfl
theorem KA (g:ag) (a:List aI) (x i:Nat) (h:¬ (av g i).left=(dw a x).2):bB g a x (i+1)=bB g a x i:=by
 funext key
 unfold bB
 split
 ·rename_i hk
  congr 1
  by_cases e:key.2=i
  ·rw[Xd (fun b=>h (by rw[← e]; exact b.2.1)),Xd (fun b=>by omega)]
  ·by_cases c:key.2 < i∧(av g key.2).left=(dw a x).2∧kJ a (dw a x).1.toNat (av g key.2).right=key.1.toNat
   ·rw[Xg c,Xg ⟨by push_cast; omega,c.2⟩]
   ·rw[Xd c,Xd (fun b=>c ⟨by have:=b.1; push_cast at this; omega,b.2⟩)]
 ·rfl
theorem UD (g:ag) (a:List aI) (x i:Nat) (hi:i < g.rules.length) (h:(av g i).left=(dw a x).2):bB g a x (i+1)=KZ (bB g a x i) ((kJ a (dw a x).1.toNat (av g i).right:Int),(i:Int)) (bB g a x i ((kJ a (dw a x).1.toNat (av g i).right:Int),(i:Int)) ++ [x]):=by
 funext key
 unfold KZ
 by_cases e:key=((kJ a (dw a x).1.toNat (av g i).right:Int),(i:Int))
 ·rw[Xg e,e]
  unfold bB
  simp only
  rw[Xg ⟨by omega,by omega,by omega⟩,Xg ⟨by push_cast; omega,h,by simp⟩,Xg ⟨by omega,by omega,by omega⟩,Xd (fun c=>by omega),Yz]
 ·rw[Xd e]
  unfold bB
  split
  ·rename_i hk
   congr 1
   by_cases b:key.2 < i∧(av g key.2).left=(dw a x).2∧kJ a (dw a x).1.toNat (av g key.2).right=key.1.toNat
   ·rw[Xg b,Xg ⟨by push_cast; omega,b.2⟩]
   ·rw[Xd b,Xd]
    rintro ⟨h1,c,d⟩
    push_cast at h1
    by_cases f:key.2=i
    ·apply e
     rw[f] at d
     exact Prod.ext (by simp only; omega) (by simp only; exact f)
    ·exact b ⟨by omega,c,d⟩
  ·rfl
theorem zJ {g:ag} {a:List aI} {x c:Nat} (hr:∀ k:Nat,k < g.rules.length→(av g k).right.length≤6):∀ (n:Nat) {f:Nat→List Nat},n≤g.rules.length→(∀ z,(f z).length≤c)→∀ z,((List.range n).foldl (qH g a x) f z).length≤c+6 * n
 | 0,f,_,h,z=>by simpa using h z
 | n+1,f,d,h,z=>by
  have b:=zJ (a:=a) (x:=x) hr n (f:=f) (by omega) h
  rw[Ya,XZ,XC,YF,qH]
  split
  ·have h1:=yY (x:=x) (ys:=oH g a (dw a x).1.toNat (av g n).right) b z
   have e:=J9 g a (av g n).right (dw a x).1.toNat
   have:=hr n (by omega)
   omega
  ·have:=b z; omega
theorem RG {g:ag} {a:List aI} (hA:bZ g a) (cu:bG g=true) (ha:a.length≤300) {W qn cM n D:Nat} {M:bQ (Int × Int)} {uw:V} {s e:Nat} {Sl:List BV} {x p:Nat} {B:Int} (hx:(aZ a)[x]?=some ((p:Int),B)) {f0:Nat→List Nat} {c0:Nat} (cv:∀ z,(f0 z).length≤c0) (dm:c0≤50000000) (b1:qn≠n)
  {T:Env} {H:View} {Q:Exit→Env→View→Prop} {v:cD (T,H,Q)}
  (hJ:∃ (A:List (V × List Nat)) (c2:Nat) (M2:bQ (Int × Int)),cX g a H W qn cM M uw s e (aZ a) Sl A ((.sl D 0 1 2,2,[[gi p,gi B]]) :: je (bB g a x 0) M2)∧(∀ z,z < (aZ a).length→(A.getD z (.any,[])).2=f0 z)∧H n=.map (bH eR M2) c2∧gR M2 c2∧qR M2 (bB g a x 0))
  (ht:T 1=.aJ (ai g) 0∧T 4=bj a∧T 6=.ptr W 0 0∧T 7=.mp n∧T 8=gi x∧T 9=.ptr D 0 0∧T 46=uw∧T 47=gi (aZ a).length∧T 48=gi x∧T 54=.aE (g.rules.map aP)∧T 55=gi g.rules.length∧T 56=gi 0)
  (hQ:∀ (T':Env) (H':View),(∃ (A:List (V × List Nat)) (c2:Nat) (M2:bQ (Int × Int)),cX g a H' W qn cM M uw s e (aZ a) Sl A ((.sl D 0 1 2,2,[[gi p,gi B]]) :: je (bB g a x g.rules.length) M2)∧(∀ z,z < (aZ a).length→(A.getD z (.any,[])).2=(List.range g.rules.length).foldl (qH g a x) f0 z)∧H' n=.map (bH eR M2) c2∧gR M2 c2∧qR M2 (bB g a x g.rules.length)) →
   T' 1=.aJ (ai g) 0→T' 4=bj a→T' 6=.ptr W 0 0→T' 7=.mp n→T' 46=uw→T' 47=gi (aZ a).length→T' 48=gi x→Q (.exit 2) T' H'):aU Tryz.prog uZ T H Q v:=by
 have ds:=qo hA
 have dv:(aZ a).length≤40 * a.length:=lY hA.ok.aG a.length
 have ea:=(Xq.1 hx).1
 have cA:=vM hx
 obtain ⟨eb,hE⟩:=du.1 (Xi hx)
 have ec:=hA.cF.rules
 have cC:∀ k:Nat,k < g.rules.length→(av g k).right.length≤6:=fun k hk=>hA.cF.right _ (Xi (show g.rules[k]?=some (av g k) by unfold av; exact getD_some hk))
 obtain ⟨t1,t4,t6,t7,t8,t9,t46,t47,t48,t54,t55,t56⟩:=ht
 refine aU.up g.rules.length (fun i T H'=>(∃ (A:List (V × List Nat)) (c2:Nat) (M2:bQ (Int × Int)),cX g a H' W qn cM M uw s e (aZ a) Sl A ((.sl D 0 1 2,2,[[gi p,gi B]]) :: je (bB g a x i) M2)∧(∀ z,z < (aZ a).length→(A.getD z (.any,[])).2=(List.range i).foldl (qH g a x) f0 z)∧H' n=.map (bH eR M2) c2∧gR M2 c2∧qR M2 (bB g a x i)) ∧
  T 1=.aJ (ai g) 0∧T 4=bj a∧T 6=.ptr W 0 0∧T 7=.mp n∧T 8=gi x∧T 9=.ptr D 0 0∧T 46=uw∧T 47=gi (aZ a).length∧T 48=gi x∧T 54=.aE (g.rules.map aP)∧T 55=gi g.rules.length∧T 56=gi i) ⟨hJ,t1,t4,t6,t7,t8,t9,t46,t47,t48,t54,t55,t56⟩ ?_
 clear hJ t1 t4 t6 t7 t8 t9 t46 t47 t48 t54 t55 t56
 rintro i k T H1 hk ⟨⟨A,c2,M2,hI,a6,S,a7,a8⟩,t1,t4,t6,t7,t8,t9,t46,t47,t48,t54,t55,t56⟩
 simp (disch:=omega)only[↓wr,seval,wq,uZ,t54,t55,t56]
 apply ah.dec<;>intro hc
 rotate_left
 ·have hi:i=g.rules.length:=by omega
  subst hi
  simp (disch:=omega)only[↓wr,seval,wq]
  exact hQ _ _ ⟨A,c2,M2,hI,a6,S,a7,a8⟩ t1 t4 t6 t7 t46 t47 t48
 have bd:i < g.rules.length:=by omega
 have hR:g.rules[i]?=some (av g i):=by unfold av; exact getD_some bd
 have U:H1 D=.arr 2 [[gi (p:Int),gi B]]:=by
  have:=hI.own.1 (.sl D 0 1 2,2,[[gi (p:Int),gi B]]) (by simp)
  rcases this with ⟨h,_⟩ | ⟨m,h1,h2⟩
  ·simp at h
  ·simp only[V.sl.injEq] at h1
   rw[h1.1]; exact h2
 simp (disch:=omega)only[↓wr,seval,wq,t1,t6,t7,t8,t9,t54,t55,t56,Xf,hR,Xk,aP]
 intro q2 C
 have bl:=hI.fresh C (o:=.arr 3 [[gi (av g i).left,encI (av g i).right,gi (av g i).prec]])
 have E:(H1.set q2 (.arr 3 [[gi (av g i).left,encI (av g i).right,gi (av g i).prec]])) n=.map (bH eR M2) c2:=by
  simp only[View.set]; rw[Xd (fun e=>by rw[← e,S] at C; simp at C)]; exact S
 have aq:D≠q2:=fun e=>by rw[← e,U] at C; simp at C
 have j:(dw a x).2=B∧(dw a x).1.toNat=p:=by rw[cA]; simp
 simp (disch:=omega)only[↓wr,seval,wq,t9,aq,U,encI]
 apply ah.eq<;>intro F
 rotate_left
 ·simp (disch:=omega)only[↓wr,seval,wq,t1,t4,t6,t7,t8,t9,t46,t47,t48,t54,t55,t56]
  rw[set_set]
  have q:¬ (av g i).left=(dw a x).2:=by rw[j.1]; exact F
  refine aF hk (by omega) ⟨⟨A,c2,M2,by rw[KA g a x i q]; exact bl,fun z hz=>?_,E,a7,by rw[KA g a x i q]; exact a8⟩,t1,t4,t6,t7,t8,t9,t46,t47,t48,t54,t55,by first | rfl | (congr 2)⟩
  rw[Ya,XZ,XC,YF,qH,Xd q]
  exact a6 z hz
 have G:(H1.set q2 (.arr 3 [[gi (av g i).left,encI (av g i).right,gi (av g i).prec]])) D=.arr 2 [[gi (p:Int),gi B]]:=by
  simp only[View.set]; rw[Xd aq]; exact U
 rw[set_set]
 have ar:(H1.set q2 (.arr 3 [[gi (av g i).left,encI (av g i).right,gi (av g i).prec]])) q2=.arr 3 [[gi (av g i).left,encI (av g i).right,gi (av g i).prec]]:=by simp[View.set]
 have e3:(H1.set q2 (.arr 3 [[gi (av g i).left,.aE ((av g i).right.map fun x=>[gi x]),gi (av g i).prec]]))=H1.set q2 (.arr 3 [[gi (av g i).left,encI (av g i).right,gi (av g i).prec]]):=rfl
 try rw[e3]
 generalize H1.set q2 (.arr 3 [[gi (av g i).left,encI (av g i).right,gi (av g i).prec]])=H2 at bl E G ar ⊢
 clear hI S U C
 simp (disch:=omega)only[↓wr,seval,wq,t6,t9,G,ar]
 have bn:=zJ (a:=a) (x:=x) cC i (f:=f0) (by omega) cv
 have a1:=RL hA cu ha bl (fA:=(List.range i).foldl (qH g a x) f0) (c:=c0+6 * i) a6 bn (by omega) hx bd F
 simp only[aP] at a1
 refine ay.dZ (a1.mono ?_)
 rintro r H5 ⟨rfl,⟨A',b2,b3⟩,br⟩
 have I:=br _ _ _ E
 generalize cN:kJ a p (av g i).right=d
 simp (disch:=omega)only[↓wr,seval,wq,t6,t7,t8,t9]
 intro q3 an q4 J
 obtain ⟨n43,J⟩:=iW J
 rw[Xd n43] at J
 rw[set_set]
 have b4:=b2.fresh an (o:=.arr 2 [[gi (d:Int),gi (i:Int)]])
 have L:(H5.set q3 (.arr 2 [[gi (d:Int),gi (i:Int)]])) n=.map (bH eR M2) c2:=by
  simp only[View.set]; rw[Xd (fun e=>by rw[← e,I] at an; simp at an)]; exact I
 have w:(H5.set q3 (.arr 2 [[gi (d:Int),gi (i:Int)]])) q4=.dead:=by simp only[View.set]; rw[Xd n43]; exact J
 have t:=b4.fresh w (o:=.arr 1 [[gi (x:Int)]])
 have l:((H5.set q3 (.arr 2 [[gi (d:Int),gi (i:Int)]])).set q4 (.arr 1 [[gi (x:Int)]])) n=.map (bH eR M2) c2:=by
  simp only[View.set]
  rw[Xd (fun e=>by rw[← e,L] at w; simp at w)]
  exact L
 have N:((H5.set q3 (.arr 2 [[gi (d:Int),gi (i:Int)]])).set q4 (.arr 1 [[gi (x:Int)]])) q4=.arr 1 [[gi (x:Int)]]:=by simp[View.set]
 generalize ((H5.set q3 (.arr 2 [[gi (d:Int),gi (i:Int)]])).set q4 (.arr 1 [[gi (x:Int)]]))=H7 at t l N ⊢
 clear b2 b4 I L J w an
 have cS:dA Tryz.prog 114=some (119,43):=by kernel_rfl
 have hz:zeroV Tryz.prog 43=some (.emp 1):=by kernel_rfl
 refine UL (kv:=eR) (kt:=119) (et:=43) (z:=.emp 1) cS hz (AL K5) (id:=n) (c:=c2) (m:=M2) (k:=((d:Int),(i:Int))) (by first | rfl | simp (disch:=omega)only[↓wr,seval,wq]) (by first | rfl | (simp (disch:=omega)only[↓wr,seval,wq]; rfl)) l a7 fun b c' b5 b7=>?_
 have b8:=t.own
 have bs:ba H7 (((.sl W 0 1 10,10,[[.aE (g.af.map bW),.aE (g.ak.map fun s=>[gs s]),.aE (g.rules.map aP),gi g.start,bj a,bO (au g false),.mp qn,uw,.sl s 0 (aZ a).length 1,.sl e 0 (aZ a).length 1]]) :: (uw,2,ng (aZ a)) :: (.sl s 0 (aZ a).length 1,1,dL Sl) :: (.sl e 0 (aZ a).length 1,1,bm A') :: (jb A' ++ [(.sl D 0 1 2,2,[[gi (p:Int),gi B]])])) ++ je (bB g a x i) M2):=by
  have e:∀ (X1 X2 X3 X4 y:cw) (R K:List cw),(X1 :: X2 :: X3 :: X4 :: (R ++ [y])) ++ K=X1 :: X2 :: X3 :: X4 :: (R ++ (y :: K)):=fun X1 X2 X3 X4 y R K=>by simp
  rw[e]; exact b8
 obtain ⟨P,Qm,bb,cV,b9,hO,c3,c5,ca⟩:=a8.entry bs ((d:Int),(i:Int)) c2
 have ee:(bB g a x i ((d:Int),(i:Int))).length≤20000:=by
  unfold bB
  split
  ·rw[Xd (fun h=>by have:=h.1; simp only at this; omega),Yz]
   unfold jd
   have:=X9 (fun y=>decide ((av g ((((d:Int),(i:Int)).2.toNat:Nat):Int)).left=(dw a y).2∧kJ a (dw a y).1.toNat (av g ((((d:Int),(i:Int)).2.toNat:Nat):Int)).right=((d:Int),(i:Int)).1.toNat)) (List.range x)
   rw[List.length_range] at this
   omega
  ·simp
 generalize hu:(getM M2 ((d:Int),(i:Int))).getD (.emp 1)=u at *
 generalize bF ((d:Int),(i:Int)) u c2 M2=M3 at *
 have cc:q4≠n:=fun e=>by rw[← e,N] at l; simp at l
 have bx:=UD g a x i bd (by rw[j.1]; exact F)
 rw[j.2,cN] at bx
 generalize eg:bB g a x i ((d:Int),(i:Int))=lk at *
 generalize hZ:(((.sl W 0 1 10,10,[[.aE (g.af.map bW),.aE (g.ak.map fun s=>[gs s]),.aE (g.rules.map aP),gi g.start,bj a,bO (au g false),.mp qn,uw,.sl s 0 (aZ a).length 1,.sl e 0 (aZ a).length 1]]) :: (uw,2,ng (aZ a)) :: (.sl s 0 (aZ a).length 1,1,dL Sl) :: (.sl e 0 (aZ a).length 1,1,bm A') :: (jb A' ++ [(.sl D 0 1 2,2,[[gi (p:Int),gi B]])])):List cw)=Z at hO
 have pm:∀ (r:cw) (X Y:List cw),(Z ++ (X ++ r :: Y)).Perm (r :: (Z ++ (X ++ Y))):=fun r X Y=>by
  rw[← XO,← XO]; exact XT
 have b0:=(hO.perm (pm _ _ _)).wj l (o:=.map (bH eR M3) c')
 have c9:bI (H7.set n (.map (bH eR M3) c')) (.sl q4 0 1 1)=some ([[gi (x:Int)]],[q4]):=by simp[bI,View.set,cc,N]
 simp (disch:=omega)only[↓wr,seval,wq,c9]
 refine cB b0 (by simp[aO]) (by unfold aB; simp; omega) (by unfold aB; simp; omega) ?_
 intro O H9 o9 l9
 have cf:=l9.map b0.head (b:=n) (c:=c') (es:=bH eR M3) (by simp[View.set])
 have cg:=l9.map b0.head (b:=qn) (c:=cM) (es:=bH eR M) (by simp only[View.set]; rw[Xd b1]; exact t.mp)
 try simp (disch:=omega)only[↓wr,seval,wq]
 refine UW (kv:=eR) (id:=n) (c:=c') (b:=b) (m:=M3) (k:=((d:Int),(i:Int))) (v:=O) (by first | rfl | simp (disch:=omega)only[↓wr,seval,wq]) (by first | rfl | simp (disch:=omega)only[↓wr,seval,wq]) (by first | rfl | simp (disch:=omega)only[↓wr,seval,wq]) cf b5 b7 fun c0=>?_
 have ch:=b5.RA b7 O c0
 have cj:=fun k'=>qg ((d:Int),(i:Int)) k' O c0 M3
 rw[b9 O c0] at ch ⊢
 simp only[b9 O c0] at cj
 simp (disch:=omega)only[↓wr,seval,wq,t1,t4,t6,t7,t8,t9,t46,t47,t48,t54,t55,t56]
 refine aF hk (by omega) ⟨⟨A',c',P ++ (((d:Int),(i:Int)),O,bb) :: Qm,⟨?_,?_,t.bo,t.num,t.sl,t.al⟩,fun z hz=>?_,by simp[View.set],ch,?_⟩,t1,t4,t6,t7,t8,t9,t46,t47,t48,t54,t55,by first | rfl | (congr 2)⟩
 ·have da:je (bB g a x (i+1)) (P ++ (((d:Int),(i:Int)),O,bb) :: Qm)=je (bB g a x i) P ++ (O,1,fF lk ++ [[gi (x:Int)]]) :: je (bB g a x i) Qm:=by
   rw[bx,show ∀ f:Int × Int→List Nat,je f (P ++ (((d:Int),(i:Int)),O,bb) :: Qm)=je f P ++ (O,1,fF (f ((d:Int),(i:Int)))) :: je f Qm from fun f=>by simp[je],QJ c3,QJ c5]
   simp[KZ]
  have ck:=(o9.wj cf (o:=.map (bH eR (P ++ (((d:Int),(i:Int)),O,bb) :: Qm)) c')).perm (pm _ _ _).symm
  rw[da]
  have e:∀ (X1 X2 X3 X4 y:cw) (R K:List cw),(X1 :: X2 :: X3 :: X4 :: (R ++ [y])) ++ K=X1 :: X2 :: X3 :: X4 :: (R ++ (y :: K)):=fun X1 X2 X3 X4 y R K=>by simp
  rw[← hZ,e] at ck
  exact ck
 ·show (H9.set n _) qn=_
  simp only[View.set]; rw[Xd b1]; exact cg
 ·rw[Ya,XZ,XC,YF,qH,Xg (by rw[j.1]; exact F),j.2]
  exact b3 z hz
 ·refine ⟨by simpa using ca.nd,fun k' db=>?_⟩
  rw[cj k']
  split
  ·simp
  ·rename_i dj
   rw[cV]
   refine ca.all k' fun h0=>db ?_
   rw[bx]
   unfold KZ
   rw[Xd (fun e=>dj (by simp[e]))]
   exact h0
section
variable {g:ag} {a:List aI} {H:View} {W qn cM:Nat} {M:bQ (Int × Int)} {uw:V} {s e:Nat} {ws:List (Int × Int)} {Sl:List BV} {A:List (V × List Nat)} {L:List cw}
theorem cX.Vk (h:cX g a H W qn cM M uw s e ws Sl A L) {q:Nat} (hq:H q=.dead) (sz:Nat) (es:List (List V)):cX g a (H.set q (.arr sz es)) W qn cM M uw s e ws Sl A ((.sl q 0 es.length sz,sz,es) :: L):=by
 have i:∀ (y a b c d:cw) (X L:List cw),(y :: a :: b :: c :: d :: (X ++ L)).Perm (a :: b :: c :: d :: (X ++ y :: L)):=fun y a b c d X L=>(XT (l₁:=a :: b :: c :: d :: X)).symm
 have f:=h.fresh hq (o:=.arr sz es)
 exact ⟨(h.own.new hq sz es).perm (i _ _ _ _ _ _ _),f.mp,f.bo,f.num,f.sl,f.al⟩
theorem cX.Vw {y:cw} (h:cX g a H W qn cM M uw s e ws Sl A (y :: L)):cX g a H W qn cM M uw s e ws Sl A L :=
 ⟨h.own.sub (.cons_cons _ (.cons_cons _ (.cons_cons _ (.cons_cons _ (List.Sublist.append (.refl _) (.cons _ (.refl _))))))),h.mp,h.bo,h.num,h.sl,h.al⟩
theorem BU (b:g.dD):∀ (n z:Nat),(ke g a n z).length≤240 * n
 | 0,z=>by simp[ke]
 | n+1,z=>by
  have d:=BU b n
  have c:∀ k:Nat,k < g.rules.length→(av g k).right.length≤6:=fun k hk=>b.right _ (Xi (show g.rules[k]?=some (av g k) by unfold av; exact getD_some hk))
  have e:=b.rules
  have h1:=zJ (a:=a) (x:=n) c g.rules.length (f:=ke g a n) (Xo _) d z
  unfold ke at h1 ⊢
  rw[Ya,XZ,XC,YF,Ng]
  omega
end
theorem of_walks {g:ag} {a:List aI} (r:bZ g a) (u:bG g=true) (ha:a.length≤300) {W qn cM b:Nat} {M:bQ (Int × Int)} {uw:V} {s e:Nat} {Sl:List BV} (C:qn≠b)
  {T:Env} {H:View} {Q:Exit→Env→View→Prop} {v:cD (T,H,Q)}
  (R:∃ (A:List (V × List Nat)) (c2:Nat) (M2:bQ (Int × Int)),cX g a H W qn cM M uw s e (aZ a) Sl A (je (bB g a 0 0) M2)∧(∀ z,z < (aZ a).length→(A.getD z (.any,[])).2=ke g a 0 z)∧H b=.map (bH eR M2) c2∧gR M2 c2∧qR M2 (bB g a 0 0))
  (ht:T 1=.aJ (ai g) 0∧T 4=bj a∧T 6=.ptr W 0 0∧T 7=.mp b∧T 46=uw∧T 47=gi (aZ a).length∧T 48=gi 0)
  (hQ:∀ (h:Env) (H':View),(∃ (A:List (V × List Nat)) (c2:Nat) (M2:bQ (Int × Int)),cX g a H' W qn cM M uw s e (aZ a) Sl A (je (bB g a (aZ a).length 0) M2)∧(∀ z,z < (aZ a).length→(A.getD z (.any,[])).2=ke g a (aZ a).length z)∧H' b=.map (bH eR M2) c2∧gR M2 c2∧qR M2 (bB g a (aZ a).length 0)) →
   h 1=.aJ (ai g) 0→h 4=bj a→h 6=.ptr W 0 0→h 7=.mp b→Q (.exit 0) h H'):aU Tryz.prog vn T H Q v:=by
 have D:=qo r
 have an:(aZ a).length≤40 * a.length:=lY r.ok.aG a.length
 obtain ⟨t1,t4,t6,t7,t46,t47,t48⟩:=ht
 refine aU.up (aZ a).length (fun x T H'=>(∃ (A:List (V × List Nat)) (c2:Nat) (M2:bQ (Int × Int)),cX g a H' W qn cM M uw s e (aZ a) Sl A (je (bB g a x 0) M2)∧(∀ z,z < (aZ a).length→(A.getD z (.any,[])).2=ke g a x z)∧H' b=.map (bH eR M2) c2∧gR M2 c2∧qR M2 (bB g a x 0)) ∧
  T 1=.aJ (ai g) 0∧T 4=bj a∧T 6=.ptr W 0 0∧T 7=.mp b∧T 46=uw∧T 47=gi (aZ a).length∧T 48=gi x) ⟨R,t1,t4,t6,t7,t46,t47,t48⟩ ?_
 clear R t1 t4 t6 t7 t46 t47 t48
 rintro x k T H1 hk ⟨⟨A,c2,M2,E,i,d,j,l⟩,t1,t4,t6,t7,t46,t47,t48⟩
 simp (disch:=omega)only[↓wr,seval,wq,vn,t46,t47,t48]
 apply ah.dec<;>intro hc
 rotate_left
 ·have hi:x=(aZ a).length:=by omega
  subst hi
  simp (disch:=omega)only[↓wr,seval,wq]
  exact hQ _ _ ⟨A,c2,M2,E,i,d,j,l⟩ t1 t4 t6 t7
 have t:(aZ a)[x]?=some (dw a x):=getD_some (by omega)
 obtain ⟨p,hp⟩:=s7 (Xi t)
 generalize aq:dw a x=y at t hp
 obtain ⟨y1,B⟩:=y
 simp only at hp
 have F:y1=p:=by simpa using YA Prod.fst hp
 subst F
 clear hp
 have G:(ng (aZ a)).getD x []=[gi (p:Int),gi B]:=by
  simp[Xb,t]
 obtain ⟨hW,⟨w,m,hw⟩,hs,he,n1,n2,n3⟩:=E.at D
 have I:=BU (a:=a) r.cF x
 simp (disch:=omega)only[↓wr,seval,wq,t1,t46,t47,t48,m,hw,G,ai,encS]
 refine ⟨by omega,by omega,fun S f=>?_⟩
 rw[set_set]
 have n:=E.Vk f 2 [[gi (p:Int),gi B]]
 have c:(H1.set S (.arr 2 [[gi (p:Int),gi B]])) b=.map (bH eR M2) c2:=by
  simp only[View.set]; rw[Xd (fun e=>by rw[← e,d] at f; simp at f)]; exact d
 generalize H1.set S (.arr 2 [[gi (p:Int),gi B]])=H2 at n c ⊢
 refine RG r u ha t (f0:=ke g a x) (c0:=240 * x) I (by omega) C ⟨A,c2,M2,n,i,c,j,l⟩ ⟨t1,t4,t6,t7,rfl,rfl,by first | exact t46 | (rw[← m]; exact t46),t47,t48,rfl,rfl,rfl⟩ (fun h H' hF U X Y Z o q J=>?_)
 obtain ⟨A9,c9,M9,K,L,N,O,P⟩:=hF
 simp (disch:=omega)only[↓wr,seval,wq,U,X,Y,Z,o,q,J]
 refine aF hk (by omega) ⟨⟨A9,c9,M9,by rw[← KL]; exact K.Vw,fun z hz=>?_,N,O,by rw[← KL]; exact P⟩,U,X,Y,Z,o,q,by first | rfl | (congr 2)⟩
 show _=ke g a (x+1) z
 unfold ke
 rw[Ya,XZ]
 exact L z hz
theorem Vv {H0:View} {W s q k n:Nat} {f0 f1 f2 f3 f4 f5 f6 f7 f9 u:V} {Sl:List BV} {l:List Nat} (hW:H0 W=.arr 10 [[f0,f1,f2,f3,f4,f5,f6,f7,.sl s 0 n 1,f9]]) (hs:H0 s=.arr 1 (dL Sl)) (r:Sl.length=n) (hu:aX H0 u 1 (fF l)) (hl:∀ x∈l,x < n) (t:l.length≤100000) (hq:H0 q=.dead)
  {T:Env} {Q:Exit→Env→View→Prop} {v:cD (T,H0.set q (.arr 2 [[gi k,gw 0]]),Q)}
  (b:T 6=.ptr W 0 0∧T 17=.ptr q 0 0∧T 108=u∧T 109=gi l.length∧T 110=gi 0)
  (w:∀ (a:Env),(∀ j,j < 19→a j=T j)→a 13=T 13→a 14=T 14→a 88=T 88→a 89=T 89→a 94=T 94→a 95=T 95→Q (.exit 8) a (H0.set q (.arr 2 [[gi k,gw (mV (sF Sl) l)]]))):aU Tryz.prog vi T (H0.set q (.arr 2 [[gi k,gw 0]])) Q v:=by
 obtain ⟨t6,t17,t108,t109,t110⟩:=b
 have n1:W≠q:=fun e=>by rw[e,hq] at hW; simp at hW
 have z:s≠q:=fun e=>by rw[e,hq] at hs; simp at hs
 refine aU.up l.length (fun j a H'=>H0.set q (.arr 2 [[gi k,gw (mV (sF Sl) (l.take j))]])=H'∧(∀ j,j < 19→a j=T j)∧a 88=T 88∧a 89=T 89∧a 94=T 94∧a 95=T 95∧a 108=u∧a 109=gi l.length∧a 110=gi j) ⟨rfl,fun _ _=>rfl,rfl,rfl,rfl,rfl,t108,t109,t110⟩ ?_
 clear t108 t109 t110
 rintro j m p _ hm ⟨rfl,b,t88,t89,t94,t95,t108,t109,t110⟩
 have A:p 6=.ptr W 0 0:=by rw[b 6 (by omega)]; exact t6
 have h:p 17=.ptr q 0 0:=by rw[b 17 (by omega)]; exact t17
 simp (disch:=omega)only[↓wr,seval,wq,vi,t108,t109,t110]
 apply ah.dec<;>intro B
 rotate_left
 ·simp (disch:=omega)only[↓wr,seval,wq]
  rw[Xv (by omega)]
  exact w _ (fun j C=>by
   have:=b j C
   rw[← this]
   simp only[qL,Env.put]
   rw[Xd (by omega),Xd (by omega)]) (b 13 (by omega)) (b 14 (by omega)) t88 t89 t94 t95
 have o:l[j]?=some (l[j]'(by omega)):=Xc (by omega)
 have f:=hl _ (Xm (show j < l.length by omega))
 have g:l.take (j+1)=l.take j ++ [l[j]'(by omega)]:=by rw[XH,o]; rfl
 generalize l[j]'(by omega)=y at o f g
 obtain ⟨id,c,d⟩:=hu.sl (by simp; omega)
 rw[Xj] at c
 have D:id≠q:=fun e=>by rw[e,hq] at d; simp at d
 simp (disch:=omega)only[↓wr,seval,wq,t108,t109,t110,A,h,c,d,BC o,n1,z,D,hW,hs,pz (l:=Sl) (i:=y) (by omega),Ec]
 refine ⟨by omega,by omega,f,by omega,?_⟩
 rw[set_set]
 have E:mV (sF Sl) (l.take (j+1))=mV (sF Sl) (l.take j) ||| sF Sl y:=by
  rw[g]; unfold mV; rw[XZ]; rfl
 refine aF hm (by omega) ⟨by rw[E],fun i hi=>?_,t88,t89,t94,t95,by first | exact t108 | (rw[← c]; exact t108),t109,by first | rfl | (congr 2)⟩
 rw[← b i hi]
 simp only[qL,Env.put]
 repeat rw[Xd (by omega)]
theorem UB {g:ag} {a:List aI} {n k i:Nat} (hk:k < g.rules.length):bB g a n 0 ((i:Int),(k:Int))=jd g a n k i:=by
 unfold bB
 rw[Xg ⟨by simp only; omega,by simp only; omega,by simp only; omega⟩,Xd (fun h=>by have:=h.1; simp only at this; omega),Yz]
 simp
theorem SD {g:ag} {a:List aI} (hA:bZ g a) (ha:a.length≤300) {W qn cM J al c5:Nat} {M F:bQ (Int × Int)} {uw:V} {s e:Nat} {Sl:List BV} {A:List (V × List Nat)} {i:Nat} (hi:i < a.length) (dm:qn≠J) (ca:qR F (bB g a (aZ a).length 0)) {fR:Nat→List cd}
  {T:Env} {H:View} {Q:Exit→Env→View→Prop} {v:cD (T,H,Q)}
  (hJ:∃ R:LX,cX g a H W qn cM M uw s e (aZ a) Sl A ((.sl al 0 a.length 1,1,bm R) :: (pU R ++ je (bB g a (aZ a).length 0) F))∧R.length=a.length∧(∀ y,y < a.length→(R.getD y (.any,[])).2=if y=i then [] else fR y)∧H J=.map (bH eR F) c5)
  (ht:T 1=.aJ (ai g) 0∧T 6=.ptr W 0 0∧T 7=.mp J∧T 13=.sl al 0 a.length 1∧T 14=gi i∧T 88=gi a.length∧T 89=gi i∧T 94=gi g.rules.length∧T 95=gi 0)
  (hQ:∀ (p:Env) (H':View),(∃ R:LX,cX g a H' W qn cM M uw s e (aZ a) Sl A ((.sl al 0 a.length 1,1,bm R) :: (pU R ++ je (bB g a (aZ a).length 0) F))∧R.length=a.length∧(∀ y,y < a.length→(R.getD y (.any,[])).2=if y=i then AH g a (sF Sl) i else fR y)∧H' J=.map (bH eR F) c5) →
   p 1=.aJ (ai g) 0→p 6=.ptr W 0 0→p 7=.mp J→p 13=.sl al 0 a.length 1→p 88=gi a.length→p 89=gi i→Q (.exit 6) p H'):aU Tryz.prog uO T H Q v:=by
 have cc:=qo hA
 have ds:(aZ a).length≤40 * a.length:=lY hA.ok.aG a.length
 have dv:=hA.cF.rules
 obtain ⟨t1,t6,t7,t13,t14,t88,t89,t94,t95⟩:=ht
 refine aU.up g.rules.length (fun k T H'=>(∃ R:LX,cX g a H' W qn cM M uw s e (aZ a) Sl A ((.sl al 0 a.length 1,1,bm R) :: (pU R ++ je (bB g a (aZ a).length 0) F))∧R.length=a.length∧(∀ y,y < a.length→(R.getD y (.any,[])).2=if y=i then (List.range k).filterMap (jx g a (sF Sl) i) else fR y)∧H' J=.map (bH eR F) c5) ∧
  T 1=.aJ (ai g) 0∧T 6=.ptr W 0 0∧T 7=.mp J∧T 13=.sl al 0 a.length 1∧T 14=gi i∧T 88=gi a.length∧T 89=gi i∧T 94=gi g.rules.length∧T 95=gi k) ⟨by simpa using hJ,t1,t6,t7,t13,t14,t88,t89,t94,t95⟩ ?_
 clear hJ t1 t6 t7 t13 t14 t88 t89 t94 t95
 rintro k m T H1 hm ⟨⟨R,Z,U,hR,G⟩,t1,t6,t7,t13,t14,t88,t89,t94,t95⟩
 simp (disch:=omega)only[↓wr,seval,wq,uO,t94,t95]
 apply ah.dec<;>intro hc
 rotate_left
 ·have cf:k=g.rules.length:=by omega
  subst cf
  simp (disch:=omega)only[↓wr,seval,wq]
  exact hQ _ _ ⟨R,Z,U,hR,G⟩ t1 t6 t7 t13 t88 t89
 have cg:k < g.rules.length:=by omega
 have ar:=UB (g:=g) (a:=a) (n:=(aZ a).length) (k:=k) (i:=i) cg
 have hu:aX H1 ((getM F ((i:Int),(k:Int))).getD (.emp 1)) 1 (fF (jd g a (aZ a).length k i)):=by
  cases hg:getM F ((i:Int),(k:Int)) with
  | none =>
   have:bB g a (aZ a).length 0 ((i:Int),(k:Int))=[]:=Yj fun ch=>ca.all _ ch hg
   rw[ar] at this
   rw[this]; exact .nil
  | some v =>
   obtain ⟨P,Qm,b,rfl,_⟩:=xM hg
   have:=Z.own.1 (v,1,fF (bB g a (aZ a).length 0 ((i:Int),(k:Int)))) (by simp[je])
   rw[ar] at this
   exact this
 generalize cj:(getM F ((i:Int),(k:Int))).getD (.emp 1)=u at hu
 have a1:cH u=some (jd g a (aZ a).length k i).length:=by rw[hu.len,Xj]
 have ck:(jd g a (aZ a).length k i).length≤100000:=by
  unfold jd
  have:=X9 (fun x=>decide ((av g k).left=(dw a x).2∧kJ a (dw a x).1.toNat (av g k).right=i)) (List.range (aZ a).length)
  rw[List.length_range] at this
  omega
 have cu:∀ x∈jd g a (aZ a).length k i,x < (aZ a).length:=fun x hx=>by
  unfold jd at hx
  exact XU.1 (XY.1 hx).1
 have cv:dA Tryz.prog 114=some (119,43):=by kernel_rfl
 have hz:zeroV Tryz.prog 43=some (.emp 1):=by kernel_rfl
 simp (disch:=omega)only[↓wr,seval,wq,t7,t14,t95]
 refine GP (kv:=eR) (kt:=119) (et:=43) (z:=.emp 1) (id:=J) (c:=c5) (m:=F) (k:=((i:Int),(k:Int))) cv hz (AL K5) (by first | rfl | simp (disch:=omega)only[↓wr,seval,wq]) (by first | rfl | (simp (disch:=omega)only[↓wr,seval,wq]; rfl)) G ?_
 rw[cj]
 have a6:(List.range (k+1)).filterMap (jx g a (sF Sl) i)=(List.range k).filterMap (jx g a (sF Sl) i) ++ (jx g a (sF Sl) i k).toList:=by
  rw[Ya,List.filterMap_append]
  congr 1
 generalize a7:jd g a (aZ a).length k i=E at *
 simp (disch:=omega)only[↓wr,seval,wq,a1]
 apply ah.eq<;>intro h0
 ·simp (disch:=omega)only[↓wr,seval,wq,t1,t6,t7,t13,t14,t88,t89,t94,t95]
  have a8:E=[]:=YD.1 (by omega)
  have cA:jx g a (sF Sl) i k=none:=by unfold jx; rw[a7,Xg a8]
  refine aF hm (by omega) ⟨⟨R,Z,U,fun y hy=>?_,G⟩,t1,t6,t7,t13,t14,t88,t89,t94,by first | rfl | (congr 2)⟩
  rw[a6,cA]
  simpa using hR y hy
 have cC:jx g a (sF Sl) i k=some ⟨k,mV (sF Sl) E⟩:=by unfold jx; rw[a7,Xd (fun e=>h0 (by rw[e]; rfl))]
 simp (disch:=omega)only[↓wr,seval,wq,t6,a1]
 intro q hq
 rw[set_set]
 obtain ⟨hW,_,hs,he,n1,n2,n3⟩:=Z.at cc
 refine Vv hW hs Z.sl hu cu ck hq ⟨t6,rfl,rfl,rfl,rfl⟩ (fun p N bb bd bn br bs bx=>?_)
 have v1:p 1=.aJ (ai g) 0:=(N 1 (by omega)).trans t1
 have v6:p 6=.ptr W 0 0:=(N 6 (by omega)).trans t6
 have v7:p 7=.mp J:=(N 7 (by omega)).trans t7
 have an:p 13=.sl al 0 a.length 1:=bb.trans t13
 have aq:p 14=gi i:=bd.trans t14
 have v17:p 17=.ptr q 0 0:=(N 17 (by omega)).trans rfl
 have b0:p 88=gi a.length:=bn.trans t88
 have b1:p 89=gi i:=br.trans t89
 have b2:p 94=gi g.rules.length:=bs.trans t94
 have cN:p 95=gi k:=bx.trans t95
 clear N bb bd bn br bs bx t1 t6 t7 t13 t14 t88 t89 t94 t95 hW hs he n1 n2 n3
 have t:=Z.fresh hq (o:=.arr 2 [[gi (k:Int),gw (mV (sF Sl) E)]])
 have O:(H1.set q (.arr 2 [[gi (k:Int),gw (mV (sF Sl) E)]])) J=.map (bH eR F) c5:=by
  simp only[View.set]; rw[Xd (fun e=>by rw[← e,G] at hq; simp at hq)]; exact G
 have b3:(H1.set q (.arr 2 [[gi (k:Int),gw (mV (sF Sl) E)]])) q=.arr 2 [[gi (k:Int),gw (mV (sF Sl) E)]]:=by simp[View.set]
 generalize H1.set q (.arr 2 [[gi (k:Int),gw (mV (sF Sl) E)]])=H2 at t O b3 ⊢
 clear Z G hq hu
 obtain ⟨f,⟨L,li⟩,j,rfl,I,_⟩:=nB (l:=R) (i:=i) (by omega)
 have cS:pU (f ++ (L,li) :: j)=pU f ++ (L,2,kB li) :: pU j:=by simp[pU]
 have S:=t.own
 rw[cS] at S
 have cV:(bm (f ++ (L,li) :: j)).length=a.length:=by rw[bm,Xj]; exact U
 have c3:H2 al=.arr 1 (bm (f ++ (L,li) :: j)):=by
  have:=t.own.1 (.sl al 0 a.length 1,1,bm (f ++ (L,li) :: j)) (by simp)
  rcases this with ⟨_,kk,h⟩ | ⟨w,h1,h2⟩
  ·simp at h
  ·simp only[V.sl.injEq] at h1
   rw[h1.1]; exact h2
 have b4:(bm (f ++ (L,li) :: j)).getD i []=[L]:=by rw[← I]; simp[bm]
 have b5:li=(List.range k).filterMap (jx g a (sF Sl) i):=by
  have:=hR i hi
  rw[Xg rfl] at this
  have e:((f ++ (L,li) :: j).getD i (V.any,([]:List cd))).2=li:=by rw[← I]; simp
  rw[e] at this
  exact this
 have dj:li.length≤40:=by
  rw[b5]
  have:=List.length_filterMap_le (jx g a (sF Sl) i) (List.range k)
  rw[List.length_range] at this
  omega
 simp (disch:=omega)only[↓wr,seval,wq,an,aq,v17,c3,b4,b3]
 refine ⟨hi,by omega,fun q9 C=>?_⟩
 have c9:bI (H2.set q9 (.arr 2 [[gi (k:Int),gw (mV (sF Sl) E)]])) (.sl q9 0 1 2)=some ([[gi (k:Int),gw (mV (sF Sl) E)]],[q9]):=by simp[bI,View.set]
 simp (disch:=omega)only[↓wr,seval,wq,c9]
 have lx:∀ (a b c d y r:cw) (X f j K:List cw),a :: b :: c :: d :: (X ++ y :: ((f ++ r :: j) ++ K))=(a :: b :: c :: d :: (X ++ y :: f)) ++ r :: (j ++ K):=fun a b c d y r X f j K=>by simp
 have ly:∀ (a b c d y:cw) (X K:List cw),a :: b :: c :: d :: (X ++ y :: K)=(a :: b :: c :: d :: X) ++ y :: K:=fun a b c d y X K=>by simp
 rw[lx] at S
 have D:=S.perm XT
 refine cB (D.fresh C) (by simp[aO]) (by unfold aB; simp[kB]; omega) (by unfold aB; simp[kB]; omega) ?_
 intro u2 H9 o9 l9
 have B:H9 al=.arr 1 (bm (f ++ (L,li) :: j)):=by
  have:=o9.1 (.sl al 0 a.length 1,1,bm (f ++ (L,li) :: j)) (by simp)
  rcases this with ⟨_,kk,h⟩ | ⟨w,h1,h2⟩
  ·simp at h
  ·simp only[V.sl.injEq] at h1
   rw[h1.1]; exact h2
 have b7:=l9.map (D.fresh C).head (b:=J) (c:=c5) (es:=bH eR F) (by
  simp only[View.set]; rw[Xd (fun e=>by rw[← e,O] at C; simp at C)]; exact O)
 have Y:=l9.map (D.fresh C).head (b:=qn) (c:=cM) (es:=bH eR M) (by
  have:=t.mp
  simp only[View.set]; rw[Xd (fun e=>by rw[← e,this] at C; simp at C)]; exact this)
 have da:(bm (f ++ (L,li) :: j)).set i [u2]=bm (f ++ (u2,li ++ [⟨k,mV (sF Sl) E⟩]) :: j):=by rw[← I]; simp[bm]
 have b8:=o9.perm XT.symm
 rw[← lx,ly] at b8
 have db:=(b8.perm XT).put (es':=bm (f ++ (u2,li ++ [(⟨k,mV (sF Sl) E⟩:cd)]) :: j)) (by simp[bm]) (by rw[cV])
 have b9:=db.perm XT.symm
 rw[← ly] at b9
 simp (disch:=omega)only[↓wr,seval,wq,v1,v6,v7,an,aq,b0,b1,b2,cN,B,b4,o9.head.cells,o9.head.iO,da]
 refine ⟨hi,by omega,?_⟩
 refine aF hm (by omega) ⟨⟨f ++ (u2,li ++ [⟨k,mV (sF Sl) E⟩]) :: j,⟨?_,?_,t.bo,t.num,t.sl,t.al⟩,by simpa using U,fun y hy=>?_,?_⟩,v1,v6,v7,an,aq,b0,b1,b2,by first | rfl | (congr 2)⟩
 ·rw[show pU (f ++ (u2,li ++ [(⟨k,mV (sF Sl) E⟩:cd)]) :: j)=pU f ++ (u2,2,kB li ++ [[gi (k:Int),gw (mV (sF Sl) E)]]) :: pU j by simp[pU,kB,C2]]
  exact b9
 ·show (H9.set al _) qn=_
  simp only[View.set]; rw[Xd (fun e=>by rw[← e,Y] at B; simp at B)]; exact Y
 ·by_cases e:y=i
  ·rw[Xg e,a6,cC,e,← I]
   simp[b5,I]
  ·rw[BD (y:=(L,li)) (by rw[I]; exact e),Xd e]
   have:=hR y hy
   rw[Xd e] at this
   exact this
 ·show (H9.set al _) J=_
  simp only[View.set]; rw[Xd (fun e=>by rw[← e,b7] at B; simp at B)]; exact b7
theorem cX.S8 {g:ag} {a:List aI} {H:View} {W qn cM:Nat} {M:bQ (Int × Int)} {uw:V} {s e:Nat} {ws:List (Int × Int)} {Sl:List BV} {A:List (V × List Nat)} {y:cw} {K:List cw} (h:cX g a H W qn cM M uw s e ws Sl A (y :: K)):∀ n:Nat,cX g a H W qn cM M uw s e ws Sl A (y :: (pU (List.replicate n (.emp 1,[])) ++ K))
 | 0=>by simpa [pU] using h
 | n+1=>by
  have f:=cX.S8 h n
  have l:∀ (a b c d y r:cw) (X K:List cw),a :: b :: c :: d :: (X ++ (y :: r :: K))=(a :: b :: c :: d :: (X ++ [y])) ++ r :: K:=fun a b c d y r X K=>by simp
  have lw:∀ (a b c d y:cw) (X K:List cw),a :: b :: c :: d :: (X ++ (y :: K))=(a :: b :: c :: d :: (X ++ [y])) ++ K:=fun a b c d y X K=>by simp
  have j:=f.own.emp (k:=1) (sz:=2)
  rw[lw] at j
  have i:=j.perm XT.symm
  rw[← l] at i
  refine ⟨?_,f.mp,f.bo,f.num,f.sl,f.al⟩
  rw[show pU (List.replicate (n+1) ((.emp 1,[]):V × List cd)) ++ K=(.emp 1,2,[]) :: (pU (List.replicate n (.emp 1,[])) ++ K) by simp[pU,kB,List.replicate_succ]]
  exact i
theorem Qu (g:ag) (hg:g.Ok) (P:g.Small):dc Tryz.prog 33 [.agg (ai g)] (.bp [DA (uB g).1,gi (uB g).2]):=by
 refine dc.of (fu g) ?_
 have hB:=(EZ g hg P).pure
 refine aw.of mixed Hi ?_
 simp only[ai,encS] at hB
 simp (disch:=omega)only[↓wr,seval,wq,F6,ai,encS]
 refine ay.pure hB ?_
 unfold uB
 simp (disch:=omega)only[↓wr,seval,wq]
 apply ah.ne<;>intro h
 ·simp (disch:=omega)only[↓wr,seval,wq]
  intro h' _
  rw[Xd h]
  exact nR (.emp _)
 rw[Xg h]
 have hr:isRed g=true:=by
  rcases F3 g with ⟨_,hr⟩ | ⟨h2,hr⟩ | ⟨h2,hr⟩
  ·exact hr
  ·exact hr
  ·rw[h2] at h; simp at h
 have Q:=iJ hr
 have S:=pF hr
 obtain ⟨o1,o2,o3⟩:=Jv S h
 have C:bZ g (bR g).1:=⟨S,o1,Dv S h,Cp S h,o2⟩
 generalize (bR g).1=a at *
 have d:=qo C
 have b8:(aZ a).length≤40 * a.length:=lY C.ok.aG a.length
 have U:=R6 g hg P a o3 (fun s hs=>⟨o1.aG s hs,o1.sym s hs⟩) (y8 C) d
 simp only[ai,encS] at U
 simp (disch:=omega)only[↓wr,seval,wq,ai,encS]
 refine ay.dZ ((U _).mono ?_)
 rintro r H1 ⟨W,qn,cM,M,uw,s,e,rfl,hI⟩
 simp (disch:=omega)only[↓wr,seval,wq]
 refine ay.dZ ((TN C Q o3 hI).mono ?_)
 rintro r H2 ⟨e2,Sl,A,D,bl⟩
 obtain ⟨hW,⟨w,bn,hw⟩,hs,he,n1,n2,n3⟩:=D.at d
 have F:cH uw=some (aZ a).length:=by rw[bn]; rfl
 have X:∀ q,H2 q=.dead→W≠q:=fun q hq e=>by rw[e,hq] at hW; simp at hW
 simp (disch:=omega)only[↓wr,seval,wq,hW,F]
 refine ⟨⟨by omega,by unfold aB; omega,by unfold aB; omega⟩,fun h0=>by omega,fun _ O G=>?_⟩
 have w1:=X O G
 simp (disch:=omega)only[↓wr,seval,wq,w1,F]
 intro j c
 obtain ⟨b1,c⟩:=iW c
 obtain ⟨b2,c⟩:=iW c
 simp (disch:=omega)only[↓wr,seval,wq,Ne.symm b1,F]
 have l:=D.Td G
 have b:((H2.set O (.arr 1 (List.replicate (aZ a).length [V.emp 1]))).set W (.arr 10 [[V.aE (g.af.map bW),.aE (g.ak.map fun s=>[gs s]),.aE (g.rules.map aP),gi g.start,bj a,bO (au g false),.mp qn,uw,.sl s 0 (aZ a).length 1,.sl O 0 (aZ a).length 1]])) j=.dead:=by
  simp only[View.set]; rw[Xd b1,Xd b2]; exact c
 generalize ((H2.set O (.arr 1 (List.replicate (aZ a).length [V.emp 1]))).set W (.arr 10 [[V.aE (g.af.map bW),.aE (g.ak.map fun s=>[gs s]),.aE (g.rules.map aP),gi g.start,bj a,bO (au g false),.mp qn,uw,.sl s 0 (aZ a).length 1,.sl O 0 (aZ a).length 1]]))=H3 at l b ⊢
 have Y:qn≠j:=fun e=>by have:=l.mp; rw[e,b] at this; simp at this
 have H:=l.fresh b (o:=.map [] 0)
 have f:(H3.set j (.map [] 0)) j=.map (bH eR []) 0:=by simp[View.set,bH]
 generalize H3.set j (.map [] 0)=H4 at H f ⊢
 clear hI D l b c G hW hw hs he n1 n2 n3 X w1 b1 b2
 refine of_walks C Q o3 Y ⟨_,0,[],H,fun z hz=>by simp[Xb,hz,ke],f,⟨by simp,by simp⟩,⟨by simp,fun k hk=>absurd (by rw[T4]) hk⟩⟩ ⟨rfl,rfl,rfl,rfl,rfl,rfl,rfl⟩ (fun T' H' hF u1 u4 u6 u7=>?_)
 obtain ⟨A5,c5,M5,m,br,n,b9,bs⟩:=hF
 clear H f
 obtain ⟨-,-,Z,-⟩:=m.at d
 have bx:∀ x,x < (aZ a).length→(ke g a (aZ a).length x).length≤1000000000∧∀ y∈ke g a (aZ a).length x,y < (aZ a).length:=fun x hx=>⟨X7 (BU S _ _) (by omega),fun y I=>((B9 _).1 I).1⟩
 have b0:=m.U7 d (E:=ke g a (aZ a).length) br bx
 simp (disch:=omega)only[↓wr,seval,wq,u6]
 refine ay.dZ ((FA b0 d (by omega) Sl Z m.sl).mono ?_)
 rintro r H6 ⟨Sl',k1,k2,k3,k4⟩
 have an:=(m.Ac (Sl':=Sl') k1).stay (H':=H6) fun id J=>by
  simp only[View.set] at J ⊢
  by_cases e:id=s
  ·rw[Xg e,e]; exact k2
  ·rw[Xd e] at J ⊢
   exact k4 id J e
 have aq:H6 j=.map (bH eR M5) c5:=by
  rw[k4 j (by rw[n]; simp) (fun e=>by rw[e,Z] at n; simp at n)]; exact n
 have hS:∀ (x p t:Nat) (B:Int),(aZ a)[x]?=some ((p:Int),B)→((sF Sl' x).getLsbD t=true↔vd g a p B t):=fun x p t B hx =>
  (k3 x t (Xq.1 hx).1).trans (QX C bl hx)
 simp (disch:=omega)only[↓wr,seval,wq,u4,bj]
 refine ⟨⟨Xo _,by unfold aB; omega,by unfold aB; omega⟩,fun h0=>by omega,fun _ al K=>?_⟩
 have L:=an.Vk K 1 (List.replicate a.length [V.emp 1])
 rw[Ym] at L
 have u:=L.S8 a.length
 rw[show List.replicate a.length [V.emp 1]=bm (List.replicate a.length ((.emp 1,[]):V × List cd)) by simp[bm]] at u
 have v:(H6.set al (.arr 1 (List.replicate a.length [V.emp 1]))) j=.map (bH eR M5) c5:=by
  simp only[View.set]; rw[Xd (fun e=>by rw[← e,aq] at K; simp at K)]; exact aq
 rw[show List.replicate a.length [V.emp 1]=bm (List.replicate a.length ((.emp 1,[]):V × List cd)) by simp[bm]] at v
 rw[show List.replicate a.length [V.emp 1]=bm (List.replicate a.length ((.emp 1,[]):V × List cd)) by simp[bm]]
 generalize H6.set al (.arr 1 (bm (List.replicate a.length ((.emp 1,[]):V × List cd))))=H8 at u v ⊢
 try simp (disch:=omega)only[↓wr,seval,wq]
 refine aU.up a.length (fun i T H'=>(∃ R:LX,cX g a H' W qn cM M uw s O (aZ a) Sl' A5 ((.sl al 0 a.length 1,1,bm R) :: (pU R ++ je (bB g a (aZ a).length 0) M5))∧R.length=a.length∧(∀ y,y < a.length→(R.getD y (.any,[])).2=if y < i then AH g a (sF Sl') y else [])∧H' j=.map (bH eR M5) c5) ∧
  T 1=.aJ (ai g) 0∧T 6=.ptr W 0 0∧T 7=.mp j∧T 13=.sl al 0 a.length 1∧T 88=gi a.length∧T 89=gi i) ⟨⟨_,u,by simp,fun y I=>by simp[Xb,I],v⟩,u1,u6,u7,rfl,rfl,rfl⟩ ?_
 clear an L u v u1 u4 u6 u7
 rintro i k T H9 hk ⟨⟨R,N,ar,hR,b3⟩,t1,t6,t7,t13,t88,t89⟩
 simp (disch:=omega)only[↓wr,seval,wq,Bj,t88,t89]
 apply ah.dec<;>intro hc
 rotate_left
 ·simp (disch:=omega)only[↓wr,seval,wq,t13]
  rintro h' rfl
  have a1:=N.own.1 (.sl al 0 a.length 1,1,bm R) (by simp)
  have b4:R.map (·.2)=jn g a:=by
   unfold jn
   refine List.ext_getElem (by simp[ar]) fun y h1 h2=>?_
   rw[Xj] at h1
   have:=hR y (by omega)
   rw[Xg (by omega),RQ C hr hS (by omega)] at this
   rw[List.getElem_map,List.getElem_map,List.getElem_range,← this]
   simp[Xb,h1]
  rw[← b4]
  exact nR (Ux a1 fun x hx=>N.own.1 (x.1,2,kB x.2) (by
   have:(x.1,2,kB x.2)∈pU R:=Xw.2 ⟨x,hx,rfl⟩
   simp only[Xs,XE,this,true_or,or_true]))
 simp (disch:=omega)only[↓wr,seval,wq,t1,t88,t89,ai,encS]
 refine SD C o3 (i:=i) (by omega) Y bs (fR:=fun y=>if y < i then AH g a (sF Sl') y else []) ⟨R,N,ar,fun y I=>?_,b3⟩ ⟨t1,t6,t7,t13,rfl,t88,t89,rfl,rfl⟩ (fun T' H' hF v1 v6 v7 a6 a7 b5=>?_)
 ·rw[hR y I]
  by_cases e:y=i
  ·rw[Xg e,Xd (by omega)]
  ·rw[Xd e]
 ·obtain ⟨R9,a8,bb,b7,bd⟩:=hF
  simp (disch:=omega)only[↓wr,seval,wq,v1,v6,v7,a6,a7,b5]
  refine aF hk (by omega) ⟨⟨R9,a8,bb,fun y I=>?_,bd⟩,v1,v6,v7,a6,a7,by first | rfl | (congr 2)⟩
  rw[b7 y I]
  by_cases e:y=i
  ·rw[Xg e,Xg (by omega),e]
  ·rw[Xd e]
   by_cases e2:y < i
   ·rw[Xg e2,Xg (by omega)]
   ·rw[Xd e2,Xd (by omega)]
section
variable {g:ag} {a:List aI}
theorem UT (k:Nat):bK g ⟨k,((av g k).right.length:Nat)⟩=(0,false):=by
 have a:aK g (k:Int)=(av g k).right:=by rw[aK,Xd (by omega)]
 unfold bK; simp only[a,if_true]
theorem Uz {x:aD} (d:cU g x) (a:(bK g x).2=false) (e:0≤x.ax):∃ k:Nat,k < g.rules.length∧x=⟨k,((av g k).right.length:Nat)⟩:=by
 obtain ⟨k,hk⟩:∃ k:Nat,x.ax=k:=⟨x.ax.toNat,by omega⟩
 have b:k < g.rules.length:=by have:=d.1; omega
 refine ⟨k,b,?_⟩
 have c:aK g (k:Int)=(av g k).right:=by rw[aK,Xd (by omega)]
 unfold bK at a
 rw[hk,c] at a
 split at a
 ·rename_i h
  cases x
  simp only at hk h
  rw[hk,h]
 ·simp at a
theorem Ht (e:bZ g a) {i:Nat} (hi:i < a.length) {x:cd} : x∈iF g a i↔∃ k:Nat,k < g.rules.length∧(⟨k,((av g k).right.length:Nat)⟩:aD)∈iR g a i∧x=⟨k,EJ g a i ⟨k,((av g k).right.length:Nat)⟩⟩:=by
 have c:(fY g a).getD i []=iR g a i:=by
  unfold fY iR
  simp[Xb,Xc hi]
 rw[iF,c,Yr]
 constructor
 ·rintro ⟨y,b,h⟩
  split at h
  ·rename_i d
   obtain ⟨k,hk,rfl⟩:=Uz (e.has hi b) d.1 d.2
   exact ⟨k,hk,b,by simpa using h.symm⟩
  ·simp at h
 ·rintro ⟨k,hk,b,rfl⟩
  exact ⟨_,b,by rw[Xg ⟨by rw[UT],by simp only; omega⟩]⟩
theorem Kt {i k t:Nat} (b:t < 32):(EJ g a i ⟨k,((av g k).right.length:Nat)⟩).getLsbD t=true↔pM g (au g false) a (fY g a) i ⟨k,((av g k).right.length:Nat)⟩ t:=by
 rw[EJ,BY _ 32 t (Xo _)]
 simp[b]
theorem NS (i:Nat):(iF g a i).Pairwise fun x y=>x.ax < y.ax:=by
 have hs:cm ((fY g a).getD i []):=by
  unfold fY
  rw[Xb,Xf]
  cases a[i]? with
  | none=>simp[cm]
  | some s=>exact jt g _
 rw[iF,List.pairwise_filterMap]
 refine hs.imp fun {x y} d b f m c=>?_
 split at f
 ·rename_i h1
  split at c
  ·rename_i k
   simp only[Xe] at f c
   rw[← f,← c]
   simp only
   rw[eU] at d
   rcases d with h | ⟨h,n⟩
   ·exact h
   ·exfalso
    have e:∀ z:aD,(bK g z).2=false→z.dot=(aK g z.ax).length:=fun z j=>by
     unfold bK at j
     split at j
     ·assumption
     ·simp at j
    have l:=e x h1.1
    have o:=e y k.1
    rw[h] at l
    omega
  ·simp at c
 ·simp at f
theorem PT (b:bZ g a) (hr:isRed g=true) {i:Nat} (hi:i < a.length) {x:cd} (d:x∈iF g a i) :
  (0≤x.ax∧x.ax < g.rules.length)∧x.set≠0∧nG x.set ((kI g (au g false)).getD (av g x.ax).left.toNat 0):=by
 obtain ⟨k,hk,hm,rfl⟩:=(Ht b hi).1 d
 have f:g.rules[k]?=some (av g k):=by unfold av; exact getD_some hk
 refine ⟨by simp only; omega,fun e=>?_,fun t c=>?_⟩
 ·obtain ⟨t,c,h⟩:=Nt b hr (i+1) i (by omega) hi _ hm
  have:=(Kt c).2 h
  simp only at e
  rw[e] at this
  simp at this
 ·have hl:t < 32:=BitVec.lt_of_getLsbD c
  obtain ⟨p,m,j,l⟩:=(PH b hr hk).1 ((Kt hl).1 c)
  exact Ny b l (b.cF.left _ (Xi f)).1 j
theorem PD (b:bZ g a) (hr:isRed g=true) {k:Nat} (hk:k < g.rules.length):∃ p,dT a p (-1 - (av g k).left):=by
 have c:g.rules[k]?=some (av g k):=by unfold av; exact getD_some hk
 have hl:=b.cF.left _ (Xi c)
 have:=Sq b hr (N0 hr (av g k).left.toNat (by omega))
 rwa [show (((av g k).left.toNat:Nat):Int)=(av g k).left by omega] at this
theorem Vs (b:bZ g a) {p k:Nat} (hk:k < g.rules.length) (hE:dT a p (-1 - (av g k).left)):∃ q,q < a.length∧iY a p (av g k).right q∧(⟨k,((av g k).right.length:Nat)⟩:aD)∈iR g a q:=by
 have e:g.rules[k]?=some (av g k):=by unfold av; exact getD_some hk
 have c:aK g (k:Int)=(av g k).right:=by rw[aK,Xd (by omega)]
 have hm:=kF b (eY hE) (b.cF.left _ (Xi e)).1 hk rfl hE
 obtain ⟨q,f,h,d⟩:=b.fwd k (av g k).right 0 p (eY hE) hm ⟨[],by rw[c]; simp⟩
 rw[Yi] at d
 exact ⟨q,f,h,d⟩
theorem SM (b:bZ g a) (hr:isRed g=true) {k:Nat} (hk:k < g.rules.length):∃ i,i < a.length∧∃ x∈iF g a i,x.ax=k:=by
 obtain ⟨p,hE⟩:=PD b hr hk
 obtain ⟨q,c,_,d⟩:=Vs b hk hE
 exact ⟨q,c,_,(Ht b c).2 ⟨k,hk,d,rfl⟩,rfl⟩
end
theorem Ep {g:ag} (h:(bR g).2=0):isRed g=true∧bZ g (bR g).1∧(bR g).1.length≤300:=by
 have hr:isRed g=true:=by
  rcases F3 g with ⟨_,hr⟩ | ⟨b,hr⟩ | ⟨b,hr⟩
  ·exact hr
  ·exact hr
  ·rw[b] at h; simp at h
 have a:=pF hr
 obtain ⟨c,d,e⟩:=Jv a h
 exact ⟨hr,⟨a,c,Dv a h,Cp a h,d⟩,e⟩
structure Uh (g:ag) (L:List (List cd)):Prop where
 len:L.length≤300
 row:∀ i:Nat,((L.getD i []).length≤287)
 fact:∀ (i:Nat),∀ x∈L.getD i [],(0≤x.ax∧x.ax < g.rules.length)∧x.set≠0∧nG x.set ((kI g (au g false)).getD (av g x.ax).left.toNat 0)
 sort:∀ i:Nat,(L.getD i []).Pairwise fun x y=>x.ax < y.ax
 all:∀ k:Nat,k < g.rules.length→∃ i,i < L.length∧∃ x∈L.getD i [],x.ax=k
theorem T6 {g:ag} (h:(bR g).2=0):Uh g (jn g (bR g).1):=by
 obtain ⟨hr,b,d⟩:=Ep h
 have c:∀ i:Nat,(jn g (bR g).1).getD i []=if i < (bR g).1.length then iF g (bR g).1 i else []:=fun i=>by
  rw[jn,Xb,Xf]
  split
  ·rename_i hi; rw[Yu hi]; rfl
  ·rename_i hi; rw[XL (by simp; omega)]; rfl
 refine ⟨by simpa [jn] using d,fun i=>?_,fun i x a=>?_,fun i=>?_,fun k hk=>?_⟩
 ·rw[c]
  split
  ·rename_i hi
   unfold iF
   refine X7 (List.length_filterMap_le _ _) ?_
   rw[show (fY g (bR g).1).getD i []=iR g (bR g).1 i by unfold fY iR; simp[Xb,Xc hi]]
   exact iu b.cF (jt _ _) fun y f=>b.has hi f
  ·simp
 ·rw[c] at a
  split at a
  ·rename_i hi; exact PT b hr hi a
  ·simp at a
 ·rw[c]
  split
  ·exact NS i
  ·exact .nil
 ·obtain ⟨i,hi,x,a,e⟩:=SM b hr hk
  exact ⟨i,by simpa [jn] using hi,x,by rw[c,Xg hi]; exact a,e⟩
def uq:SC :=
 ae [ab [aV 35 .lss 34 33],bY 35 (.exit 0),.block 1 (ae [ab [aa 36 34,aQ 37 2 32 34,bg 38 2 37,((some 10),.op (.alloc [(.emp 1),(.emp 1)])),aa 9 36,bU 2 10 38],ab [aa 39 8,aa 40 9,bg 41 2 10,aa 42 7,aa 43 9,aQ 44 1 42 43,aj 45 44,bz 46 85 [39,40,41,45]]]),ab [aH 47 .add 34 1,aa 34 47]]
def yg:SF:=⟨ae [ab [cI 1 0,((some 2),.op (.alloc [(.emp 1),(.emp 1)])),df 3 1,aS 4 0],ab [bg 12 4 1,bz 13 24 [12],aa 11 13,fI 14 0 11,fI 15 1 11,aa 5 14,aa 6 15],ae [ab [aa 16 6,aH 17 .neq 16 0],bf 17 (ae [ab [((some 18),.op (.build [(.emp 1),(.emp 1)] [])),aa 19 6,bU 2 2 18,df 3 1,aa 4 19],.ret])],ab [bg 21 4 1,bz 22 33 [21],aa 20 22,fI 23 0 20,fI 24 1 20,aa 7 23,aa 6 24],ae [ab [aa 25 6,aH 26 .neq 25 0],bf 26 (ae [ab [((some 27),.op (.build [(.emp 1),(.emp 1)] [])),aa 28 6,bU 2 2 27,df 3 1,aa 4 28],.ret])],ab [bg 29 4 1,((some 30),.op (.build [(.emp 1),(.emp 1),(.emp 1),(.val (.int .i64 0)),(.emp 1),(.emp 1),(.emp 1)] [(0,4,(.tmp 29))])),((some 31),.op (.box (.tmp 30))),aa 8 31],ae [ab [aa 32 5,aN 33 32,aS 34 0],b6 0 uq],.nT [(54,2)] [⟨none,[aa 48 8,ep 49 48,ao 50 4 49,bg 51 2 50,aa 52 8,ep 53 52,ao 54 6 53,aj 55 54,bU 2 2 51,aa 3 55,aS 4 0]⟩],.ret],
 [.cell 2 (some 2),.tmp 3,.tmp 4],56⟩
theorem Bv:aR Tryz.prog 43 [1]=some yg:=by kernel_rfl
theorem UR {α:Type} {u b k:α} {L:List α} : (u :: b :: k :: L).Perm (k :: u :: b :: L):=XT (l₁:=[u,b])
theorem J4 {g:ag} {a:List aI} (b:bZ g a) (i:Nat):(iF g a i).length≤287:=by
 unfold iF
 refine X7 (List.length_filterMap_le _ _) ?_
 unfold fY
 rw[Xb,Xf]
 cases h:a[i]? with
 | none=>simp
 | some s =>
  have hk:=b.ok.bc s (Xi h)
  exact iu b.cF (jt _ _) fun y c=>((dt b.cF hk.2.2).1 c).has hk.2.2
theorem Ps {g:ag} {a:List aI} (b:bZ g a) {i:Nat} (hi:i < a.length):((a.getD i aM).aG.map bX.sym).Nodup∧∀ e∈(a.getD i aM).aG,gu g e.sym=true:=by
 have hm:a.getD i aM∈a:=Xi (getD_some hi)
 refine ⟨by rw[b.x.all _ hm]; exact ve g _ _,fun e he=>?_⟩
 obtain ⟨x,c,d⟩:=(b.lJ hi).1 ⟨e,he,rfl⟩
 exact nr b.cF (b.has hi c) d
theorem OJ (g:ag) (M:g.Ok) (j:g.Small):dc Tryz.prog 43 [.agg (ai g)] (.bp [.agg (dO (zE g).1),.aE (kz (zE g).2.1),gi (zE g).2.2]):=by
 refine dc.of (fu g) ?_
 have N:=(EZ g M j).pure
 have hO:=(Qu g M j).pure
 refine aw.of mixed Bv ?_
 simp only[ai,encS] at N hO
 simp (disch:=omega)only[↓wr,seval,wq,yg,ai,encS]
 intro y
 refine ay.pure N ?_
 unfold zE
 simp (disch:=omega)only[↓wr,seval,wq]
 apply ah.ne<;>intro h
 ·simp (disch:=omega)only[↓wr,seval,wq]
  intro h' _
  rw[Xd h]
  exact Fb (.emp _) (.emp _) (.emp _)
 rw[Xg h]
 obtain ⟨hr,J,Y⟩:=Ep h
 have d:uB g=(jn g (bR g).1,0):=by unfold uB; rw[Xg h]
 rw[d] at hO ⊢
 have an:(jn g (bR g).1).length=(bR g).1.length:=by simp[jn]
 have B:∀ i:Nat,i < (bR g).1.length→(jn g (bR g).1)[i]?=some (iF g (bR g).1 i):=fun i hi=>by rw[jn,Xf,Yu hi]; rfl
 generalize (bR g).1=a at *
 have C:=J4 J
 have O:∀ i:Nat,((jn g a).getD i []).length≤10000:=fun i=>by
  rw[Xb]
  rcases XB i a.length with hi | hi
  ·rw[B i hi]; have:=C i; simp only[Xu]; omega
  ·rw[XL (by omega)]; simp
 clear N h d
 have P:=pF hr
 have Q:=iJ hr
 have hT:=P.af
 have hN:=P.ak
 generalize jn g a=L at *
 simp (disch:=omega)only[↓wr,seval,wq,ai,encS]
 refine ay.pure hO ?_
 simp (disch:=omega)only[↓wr,seval,wq,bj]
 intro m o
 have D:m≠y:=(cO o cJ).1
 have Z:=(ba.nil.new (n:=y) (H:=fun _=>c6.dead) rfl 2 [[.emp 1,.emp 1]]).new (n:=m) (by simpa [View.set] using o) 7 [ed g (.emp 1) (.emp 1) (.emp 1)]
 have K:=((((Z.emp (k:=1) (sz:=1)).emp (k:=1) (sz:=1)).emp (k:=1) (sz:=5)).perm (.cons _ UR)).perm (.cons _ (.cons _ (.swap _ _ _)))
 clear Z o
 simp only[ed,Xt,XN] at K
 generalize ((View.set (fun _=>c6.dead) y (.arr 2 [[.emp 1,.emp 1]])).set m (.arr 7 [[V.aE (g.af.map bW),.aE (g.ak.map fun s=>[gs s]),.aE (g.rules.map aP),gi g.start,.emp 1,.emp 1,.emp 1]]))=H0 at K ⊢
 refine aU.up a.length (fun i T H'=>∃ (p r z:V) (A:GV) (G:L3),A.map (·.2)=(iv g a L i).bC∧G.map (·.2)=(iv g a L i).gotos ∧
  ba H' ((z,5,kz (oW g a L i)) :: (.sl m 0 1 7,7,[ed g p r z]) :: (p,1,bm A) :: (r,1,bm G) :: (xt A ++ wM G ++ [(.sl y 0 1 2,2,[[.emp 1,.emp 1]])]))∧T 2=.ptr y 0 0∧T 7=DA L∧T 8=.ptr m 0 0∧T 32=bj a∧T 33=gi a.length∧T 34=gi i)
  ⟨.emp 1,.emp 1,.emp 1,[],[],rfl,rfl,by simpa [oW,bm,xt,wM,kz] using K,rfl,rfl,rfl,rfl,rfl,rfl⟩ ?_
 clear K
 rintro i k T H hk ⟨p,r,z,A,G,t,u,w,t2,t7,t8,t32,t33,t34⟩
 simp (disch:=omega)only[↓wr,seval,wq,uq,t2,t7,t8,t32,t33,t34]
 apply ah.dec<;>intro hc
 ·have c:i < a.length:=by omega
  have hs:a[i]?=some (a.getD i aM):=getD_some c
  have hl:=B i c
  have E:L.getD i []=iF g a i:=by rw[Xb,hl]; rfl
  have e:=E3 g a L i
  have aq:=I2 (g:=g) (a:=a) (l:=L) O hT i
  have b:(iv g a L (i+1)).bC=(iv g a L i).bC ++ [fo g (a.getD i aM) (iF g a i) i (g.af.length+1)]∧(iv g a L (i+1)).gotos=(iv g a L i).gotos ++ [mF g a i]:=by
   simp only[iv,Ya,XD,XF,YK,E,and_self]
  rw[E] at e
  obtain ⟨en,es⟩:=Ps J c
  have lA:=YA List.length t
  have lG:=YA List.length u
  simp only[iv,Xj,List.length_range] at lA lG
  have F:=J.ok.bc _ (Xi hs)
  have I:=NN g M j Q a J.ok i c en es (by unfold aL; have:=iu P F.1 F.2.2; omega) (iF g a i) (by have:=C i; omega) p r z A G (oW g a L i) (by omega) (by omega) (by omega) m
  generalize iF g a i=lk at *
  generalize a.getD i aM=s at *
  simp only[fZ] at I
  simp (disch:=omega)only[↓wr,seval,wq,t2,t7,t8,t32,t33,t34,bj,DA,Xf,hs,hl,Xk,fZ]
  intro q hq
  rw[set_set]
  refine ay.dZ ((I _ _ (w.fresh hq)).mono ?_)
  rintro v H7 ⟨R,S,U,ur,uk,f⟩
  simp (disch:=omega)only[↓wr,seval,wq,t2,t7,t8,t32,t33,t34]
  refine aF hk (by omega) ⟨R,S,U,A ++ [(ur,fo g s lk i (g.af.length+1))],G ++ [(uk,mF g a i)],?_,?_,?_,t2,t7,t8,t32,t33,rfl⟩
  ·rw[XD,t,b.1]; rfl
  ·rw[XD,u,b.2]; rfl
  ·rw[e]; exact f
 ·have W:i=a.length:=by omega
  subst W
  have h9:=w.is 1 rfl (by simp)
  have o4:=w.perm (List.perm_append_singleton (.sl y 0 1 2,2,[[.emp 1,.emp 1]]) ((z,5,kz (oW g a L a.length)) :: (.sl m 0 1 7,7,[ed g p r z]) :: (p,1,bm A) :: (r,1,bm G) :: (xt A ++ wM G)))
  have h2:=o4.is 0 rfl (by simp)
  have ca:=(w.own 2 rfl).cells
  have ka:=(w.own 2 rfl).iO
  have cg:=(w.own 3 rfl).cells
  have kg:=(w.own 3 rfl).iO
  simp (disch:=omega)only[↓wr,seval,wq,t2,t7,t8,h9,h2,ca,ka,cg,kg,ed]
  refine ⟨D,fun h' hv=>?_⟩
  have f:=o4.put (es':=[[p,r]]) rfl rfl
  rw[← hv] at f
  unfold dO
  rw[← t,← u]
  refine Fb (Oa (f.own 3 rfl) fun x X=>f.1 (x.1,2,x.2.map ic) ?_) (Rt.WW ⟨G,rfl,f.own 4 rfl,fun x X=>f.1 (x.1,1,bE x.2) ?_⟩) (US (f.own 1 rfl))
  ·simp only[Xs,XE]
   exact .inr (.inr (.inr (.inr (.inr (.inl (Xw.2 ⟨x,X,rfl⟩))))))
  ·simp only[Xs,XE]
   exact .inr (.inr (.inr (.inr (.inr (.inr (Xw.2 ⟨x,X,rfl⟩))))))
section
variable {g:ag} {a:List aI} {L:List (List cd)}
theorem Gp (b:ni g a) {i:Nat} (hi:i < a.length) (s:Int):eT a i [s]=match fC (a.getD i aM).aG s with | some c=>(c.n,true) | none=>(0,false):=by
 have d:eT a i [s]=eZ a i [s]:=by unfold eT; rw[Xd (by omega)]
 have f:eZ a i [s]=if 0≤c7 (a.getD i aM).aG s∧c7 (a.getD i aM).aG s < a.length then (c7 (a.getD i aM).aG s,true) else (0,false):=by
  rw[eZ,Xy]; simp only[eZ]
 rw[d,f,zB]
 cases h:fC (a.getD i aM).aG s with
 | none=>rw[Xd (by simp[Bb])]
 | some c =>
  obtain ⟨e,he,_,rfl⟩:=tf h
  have:=b.to _ (Xi (getD_some hi)) e he
  rw[Xg (by simp only[Bb]; omega)]
  rfl
theorem NA {l:List cd} {n r:Int} (h:r∈fv l n):∃ x∈l,x.ax=r:=by
 unfold fv at h
 obtain ⟨x,a,rfl⟩:=Xw.1 h
 exact ⟨x,(XY.1 a).1,rfl⟩
theorem L9 (b:ni g a) {i:Nat} (hi:i < a.length) (k:Int):jK g a.length (eL g (a.getD i aM) k)=true:=by
 unfold eL
 cases h:fC (a.getD i aM).aG k with
 | some c =>
  obtain ⟨e,he,_,rfl⟩:=tf h
  have:=b.to _ (Xi (getD_some hi)) e he
  simp[jK]; omega
 | none =>
  simp only
  split
  ·simp[jK]
  ·simp[jK]
theorem ON (b:ni g a) {i:Nat} (hi:i < a.length) (k:Int) {l:List cd} (hl:∀ x∈l,0≤x.ax∧x.ax < g.rules.length):jK g a.length (fH g (a.getD i aM) l i k).1=true:=by
 have hs:=L9 (g:=g) b hi k
 have c:∀ r∈fv l k,jK g a.length ⟨2,r⟩=true:=fun r hr=>by
  obtain ⟨x,d,rfl⟩:=NA hr
  have:=hl x d
  simp[jK]; omega
 unfold fH
 cases h:fv l k with
 | nil=>exact hs
 | cons r rs =>
  have hr:=c r (by rw[h]; simp)
  simp only
  split
  ·exact hr
  ·simp only
   split
   ·exact hr
   ·split
    ·simp[jK]
    ·exact hs
theorem Lu {n i:Nat} (h:i < n):(iv g a L n).bC.getD i []=fo g (a.getD i aM) (L.getD i []) i (g.af.length+1)∧(iv g a L n).gotos.getD i []=mF g a i:=by
 constructor
 ·rw[Xb,iv,Xf,Yu h]; rfl
 ·rw[Xb,iv,Xf,Yu h]; rfl
theorem Ue (b:ni g a) {i:Nat} (hi:i < a.length) (k:Int) : -1≤uE a i k∧uE a i k < a.length:=by
 unfold uE
 rw[Gp (g:=g) b hi]
 cases h:fC (a.getD i aM).aG (-1 - k) with
 | none=>simp; omega
 | some c =>
  obtain ⟨e,he,_,rfl⟩:=tf h
  have:=b.to _ (Xi (getD_some hi)) e he
  simp; omega
theorem OG (b:bZ g a) (hr:bG g=true) (f:a.length≤300) (hl:∀ i:Nat,∀ x∈L.getD i [],0≤x.ax∧x.ax < g.rules.length):lD g (iv g a L a.length)=true:=by
 have h:(iv g a L a.length).bC.length=a.length:=by simp[iv]
 have j:(iv g a L a.length).gotos.length=a.length:=by simp[iv]
 unfold lD
 rw[hr,h,j]
 have:=b.pos
 simp only[Ys,Xl,Xr,XI,XU]
 refine ⟨⟨⟨by omega,f⟩,trivial⟩,fun i hi=>?_⟩
 rw[(Lu hi).1,(Lu hi).2]
 unfold yE
 simp only[Xl,Xr,XI]
 refine ⟨⟨⟨by simp[fo],by simp[mF]⟩,fun c d=>?_⟩,fun x e=>?_⟩
 ·simp only[fo,Xw] at d
  obtain ⟨k,_,rfl⟩:=d
  exact ON b.ok hi k (hl i)
 ·simp only[mF,Xw] at e
  obtain ⟨k,_,rfl⟩:=e
  have:=Ue b.ok hi k
  simpa using this
theorem MW {s:aI} {k:Int} (h:(eL g s k).kind=1):∃ c,fC s.aG k=some c∧eL g s k=c:=by
 unfold eL at h ⊢
 cases a:fC s.aG k with
 | some c=>exact ⟨c,rfl,rfl⟩
 | none =>
  rw[a] at h
  simp only at h
  split at h <;> simp at h
theorem ME {s:aI} {l:List cd} {i k:Int} (h:(fH g s l i k).1.kind=1):(fH g s l i k).1=eL g s k:=by
 unfold fH at h ⊢
 cases hr:fv l k with
 | nil=>rfl
 | cons r rs =>
  rw[hr] at h
  simp only at h ⊢
  split at h
  ·simp at h
  ·rename_i a
   rw[Xd a]
   simp only at h ⊢
   split at h
   ·simp at h
   ·rename_i h1
    split at h
    ·simp at h
    ·rename_i b
     rw[Xd h1,Xd b]
theorem Nr {s:aI} {l:List cd} {i k:Int} (a:(eL g s k).kind=1) (h:(fH g s l i k).2=[]):(fH g s l i k).1.kind=1:=by
 unfold fH at h ⊢
 cases hr:fv l k with
 | nil=>exact a
 | cons r rs =>
  rw[hr] at h
  simp only at h
  rw[Xd (by omega)] at h
  simp at h
theorem Us (h:oW g a L a.length=[]) {i k:Nat} (hi:i < a.length) (hk:k < g.af.length+1):(fH g (a.getD i aM) (L.getD i []) i k).2=[]:=by
 unfold oW at h
 rw[List.flatMap_eq_nil_iff] at h
 have h1:=h i (XU.2 hi)
 unfold tc at h1
 rw[List.flatMap_eq_nil_iff] at h1
 exact h1 k (XU.2 hk)
end
def j8:SC :=
 ae [ae [ab [aa 56 11,ao 57 0 2,aj 58 57,aN 59 58,aV 60 .lss 56 59],bY 60 (.exit 0)],.block 1 (ae [ab [aa 64 8,aa 65 10,aa 66 11,((some 67),.op (.bV 1 1 [(.val (.int .i64 0))] [(0,(.tmp 66))])),bz 68 29 [64,65,67],aa 63 68,fI 69 0 63,fI 70 1 63,aa 12 69,aa 13 70],ab [ao 71 0 5,aj 72 71,aa 73 10,aQ 74 1 72 73,aj 75 74,aa 76 11,aQ 77 2 75 76,bg 78 2 77,((some 14),.op (.alloc [(.val (.int .i64 0)),(.val (.int .i64 0))])),bU 2 14 78],.region false [⟨none,[ao 79 0 14,aj 80 79,aH 81 .eql 80 1,aa 82 81]⟩,⟨(some (82,true)),[aa 83 13,de 84 83,aa 85 84]⟩,⟨(some (85,false)),[ao 86 1 14,aj 87 86,aa 88 12,aV 89 .neq 87 88]⟩,⟨(some (82,true)),[cz 90 85 89]⟩,⟨none,[eJ 91 82 90,aa 92 91]⟩,⟨(some (92,false)),[aa 93 13,aa 94 93]⟩,⟨(some (94,true)),[aa 95 6,aN 96 95,aH 97 .eql 96 0]⟩,⟨(some (92,false)),[eJ 98 94 97,aa 99 98]⟩,⟨(some (99,true)),[ao 100 0 14,aj 101 100,aH 102 .neq 101 1]⟩,⟨(some (92,false)),[eJ 103 99 102]⟩,⟨none,[cz 104 92 103]⟩],bf 104 (ae [ab [bu 4 false],.ret])]),ab [aa 61 11,aH 62 .add 61 1,aa 11 62]]
def j6:SC :=
 ae [ae [ab [aa 105 15,ao 106 1 2,aj 107 106,aN 108 107,aV 109 .lss 105 108],bY 109 (.exit 2)],.block 3 (ae [ab [aa 113 8,aa 114 10,aa 115 15,((some 116),.op (.arith .sub (.val (.val (.int .i64 (-1)))) (.tmp 115))),((some 117),.op (.bV 1 1 [(.val (.int .i64 0))] [(0,(.tmp 116))])),bz 118 29 [113,114,117],aa 112 118,fI 119 0 112,fI 120 1 112,aa 16 119,aa 17 120],.region false [⟨none,[aa 121 17,aa 122 121]⟩,⟨(some (122,true)),[ao 123 1 5,aj 124 123,aa 125 10,aQ 126 1 124 125,aj 127 126,aa 128 15,aQ 129 1 127 128,aj 130 129,aa 131 16,aV 132 .neq 130 131]⟩,⟨none,[eJ 133 122 132,aa 134 133]⟩,⟨(some (134,false)),[aa 135 17,de 136 135,aa 137 136]⟩,⟨(some (137,true)),[ao 138 1 5,aj 139 138,aa 140 10,aQ 141 1 139 140,aj 142 141,aa 143 15,aQ 144 1 142 143,aj 145 144,aH 146 .neq 145 (-1)]⟩,⟨(some (134,false)),[eJ 147 137 146]⟩,⟨none,[cz 148 134 147]⟩],bf 148 (ae [ab [bu 4 false],.ret])]),ab [aa 110 15,aH 111 .add 110 1,aa 15 111]]
def kO:SF:=⟨ae [ab [cI 2 0,bu 4 false],ae [ab [bz 18 42 [],de 19 18],bf 19 (ae [ab [bu 4 false],.ret])],ae [ab [bg 20 4 2,bz 21 16 [20]],bf 21 (ae [ab [bu 4 true],.ret])],ab [bg 23 4 2,bz 24 43 [23],aa 22 24,fI 25 0 22,fI 26 1 22,fI 27 2 22,((some 5),.op (.alloc [(.emp 1),(.emp 1)])),bU 2 5 25,aa 6 26,aa 7 27],ae [ab [aa 28 7,aH 29 .neq 28 0],bf 29 (ae [ab [bu 4 true],.ret])],ab [bg 31 4 2,bz 32 25 [31],aa 30 32,fI 33 0 30,fI 34 1 30,aa 8 33,aa 9 34],ae [.region false [⟨none,[aa 35 9,aH 36 .neq 35 0,aa 37 36]⟩,⟨(some (37,false)),[bg 38 4 2,bg 39 2 5,bz 40 48 [38,39],de 41 40]⟩,⟨none,[cz 42 37 41,aa 43 42]⟩,⟨(some (43,false)),[aa 44 8,aN 45 44,ao 46 0 5,aj 47 46,aN 48 47,aV 49 .neq 45 48]⟩,⟨none,[cz 50 43 49]⟩],bf 50 (ae [ab [bu 4 false],.ret])],ab [aa 51 1,((some 52),.op (.conv .i64 (.tmp 51))),aa 53 8,aN 54 53,aV 55 .rem 52 54,aa 10 55],ae [ab [aS 11 0],b6 0 j8],ae [ab [aS 15 0],b6 2 j6],ab [bu 4 true],.ret],
 [.tmp 4],149⟩
theorem qw:aR Tryz.prog 14 [2]=some kO:=by kernel_rfl
theorem On {g:ag} (a:g.dD) {n:Nat} (b:n≤300) {c:Cell} (h:jK g n c=true):cy c.kind∧cy c.n:=by
 have:=a.rules
 unfold jK at h
 unfold cy
 split at h
 ·simp at h; omega
 ·split at h
  ·simp at h; omega
  ·split at h
   ·simp at h; omega
   ·simp at h
theorem Sf {g:ag} {t:sS} (h:lD g t=true):t.Ok:=by
 have F:=AT h
 have b:=bJ F.right
 have k:=b.af; have l:=b.ak; have j:=F.n300
 refine ⟨by unfold aL; omega,by unfold aL; have:=F.len; omega,fun r hr=>?_,fun r hr=>?_⟩
 ·obtain ⟨i,hi,e⟩:=Yh.1 hr
  have d:t.bC.getD i []=r:=by rw[Xb,Xc hi,e]; rfl
  obtain ⟨h1,_,a,_⟩:=F.CQ hi
  rw[d] at h1 a
  exact ⟨by unfold aL; omega,fun c f=>On b j (a c f)⟩
 ·obtain ⟨i,hi,e⟩:=Yh.1 hr
  have d:t.gotos.getD i []=r:=by rw[Xb,Xc hi,e]; rfl
  obtain ⟨_,h1,_,a⟩:=F.CQ (i:=i) (by have:=F.len; omega)
  rw[d] at h1 a
  exact ⟨by unfold aL; omega,fun c f=>by have:=a c f; unfold cy; omega⟩
theorem VD {g:ag} {a:List aI} (h:ni g a) (b:a.length≤300):aL a∧∀ s∈a,aL s.aG∧∀ e∈s.aG,cy e.sym∧cy e.to:=by
 refine ⟨by unfold aL; omega,fun s hs=>⟨by unfold aL; have:=h.aG s hs; omega,fun e he=>?_⟩⟩
 have h1:=h.sym s hs e he
 have c:=h.to s hs e he
 unfold cy; omega
theorem Uv {g:ag} {a:List aI} {L:List (List cd)} {i k:Nat} (hi:i < a.length) (hk:k < g.af.length+1):(iv g a L a.length).bC[i]?=some (fo g (a.getD i aM) (L.getD i []) i (g.af.length+1))∧(fo g (a.getD i aM) (L.getD i []) i (g.af.length+1))[k]?=some (fH g (a.getD i aM) (L.getD i []) i k).1:=by
 refine ⟨by rw[iv,Xf,Yu hi]; rfl,by rw[fo,Xf,Yu hk]; rfl⟩
theorem Uu {g:ag} {a:List aI} {L:List (List cd)} {i k:Nat} (hi:i < a.length) (hk:k < g.ak.length):(iv g a L a.length).gotos[i]?=some (mF g a i)∧(mF g a i)[k]?=some (uE a i k):=by
 refine ⟨by rw[iv,Xf,Yu hi]; rfl,by rw[mF,Xf,Yu hk]; rfl⟩
theorem Ev (g:ag) (M:g.Ok) (n:Int) (N:0≤n) (aq:n≤65535):aA Tryz.prog 14 [.agg (ai g),.val (.int .u16 n)] (gb true):=by
 refine aA.val (by
  intro v hv; simp at hv
  rcases hv with rfl | rfl
  ·exact cq _ (dE g)
  ·exact .val _) fun H=>?_
 refine aw.of mixed qw ?_
 simp (disch:=omega)only[↓wr,seval,wq,kO,ai,encS]
 refine ay.pure Nu ?_
 simp (disch:=omega)only[↓wr,seval,wq,ai,encS]
 refine ay.pure (Rg g) ?_
 simp (disch:=omega)only[↓wr,seval,wq]
 apply ah.split<;>intro e
 ·simp (disch:=omega)only[↓wr,seval,wq]
 have h1:=(OJ g M (J0 e)).pure
 have w:=(L1 g M).pure
 simp only[ai,encS] at h1 w
 unfold zE uB at h1
 simp (disch:=omega)only[↓wr,seval,wq,ai,encS]
 refine ay.pure h1 ?_
 by_cases h:(bR g).2=0
 rotate_left
 ·rw[Xd h]
  simp (disch:=omega)only[↓wr,seval,wq,dO]
  intro q hq
  refine ah.ne (fun _=>?_) (fun w=>absurd w h)
  simp (disch:=omega)only[↓wr,seval,wq]
 obtain ⟨hr,C,z⟩:=Ep h
 have hL:=T6 h
 rw[Xg h,Xg h]
 have O:=iJ hr
 have hf:=C.cF
 have hT:=hf.af; have hN:=hf.ak
 have D:=OG (L:=jn g (bR g).1) C O z fun i x hx=>(hL.fact i x hx).1
 have B:=MA g M _ (Sf D)
 rw[D] at B
 obtain ⟨w1,w2⟩:=VD C.ok z
 rw[h] at w
 simp only[ai,encS] at B
 generalize (bR g).1=a at *
 generalize jn g a=L at *
 have P:(iv g a L a.length).bC.length=a.length:=by simp[iv]
 have Q:=fun (i k:Nat) (hi:i < a.length) (hk:k < g.af.length+1)=>Uv (L:=L) hi hk
 have R:=fun (i k:Nat) (hi:i < a.length) (hk:k < g.ak.length)=>Uu (g:=g) (L:=L) hi hk
 have S:=fun (E:oW g a L a.length=[]) (i k:Nat) (hi:i < a.length) (hk:k < g.af.length+1)=>Us E hi hk
 generalize iv g a L a.length=t at *
 generalize oW g a L a.length=cs at *
 simp only[dO] at B
 simp (disch:=omega)only[↓wr,seval,wq,dO]
 intro q hq
 refine ay.pure w ?_
 simp (disch:=omega)only[↓wr,seval,wq,ai,encS]
 refine ay.pure B ?_
 simp (disch:=omega)only[↓wr,seval,wq,bj]
 refine ah.ne (fun h=>absurd (by rw[P]) h) (fun _=>?_)
 have an:=C.pos
 obtain ⟨i,hk,hi⟩:∃ k:Nat,n.tmod (a.length:Int)=k∧k < a.length:=by
  have h1:=Int.tmod_nonneg (a.length:Int) N
  have w:=Int.tmod_lt_of_pos n (show (0:Int) < (a.length:Int) by omega)
  exact ⟨(n.tmod (a.length:Int)).toNat,by omega,by omega⟩
 simp (disch:=omega)only[↓wr,seval,wq,bj]
 rw[Xd (by omega),hk]
 simp (disch:=omega)only[↓wr,seval,wq]
 have U:=fun s:Int=>Gp (g:=g) C.ok hi s
 have F:((H.set q (.arr 2 [[.emp 1,.emp 1]])).set q (.arr 2 [[.aE (t.bC.map fun r=>[lu r]),.aE (t.gotos.map fun r=>[encI r])]])) q=(.arr 2 [[.aE (t.bC.map fun r=>[lu r]),.aE (t.gotos.map fun r=>[encI r])]]):=by simp[View.set]
 refine aU.up g.af.length (fun k T H'=>H' q=(.arr 2 [[.aE (t.bC.map fun r=>[lu r]),.aE (t.gotos.map fun r=>[encI r])]])∧T 2=.aJ (ai g) 0∧T 5=.ptr q 0 0∧T 6=.aE (kz cs)∧T 8=bj a∧T 10=gi i∧T 11=gi k) ⟨F,rfl,rfl,rfl,rfl,rfl,rfl⟩ ?_
 clear F
 rintro k kk T H1 m ⟨b,t2,t5,t6,t8,t10,t11⟩
 simp (disch:=omega)only[↓wr,seval,wq,j8,t2,t5,t6,t8,t10,t11,ai,encS]
 apply ah.dec<;>intro E
 ·obtain ⟨c1,c2⟩:=Q i k hi (by omega)
  have V:=fun h=>S h i k hi (by omega)
  have A:=ME (g:=g) (s:=a.getD i aM) (l:=L.getD i []) (i:=i) (k:=k)
  have G:=Nr (g:=g) (s:=a.getD i aM) (l:=L.getD i []) (i:=i) (k:=k)
  have W:=MW (g:=g) (s:=a.getD i aM) (k:=k)
  have o:=FH a w1 w2 i [(k:Int)] (by unfold aL; simp)
  rw[U k] at o
  have X:∀ c,fC (a.getD i aM).aG k=some c→eL g (a.getD i aM) k=c∧c.kind=1:=fun c h=>by
   obtain ⟨e,_,_,rfl⟩:=tf h
   exact ⟨by unfold eL; rw[h],rfl⟩
  generalize ar:(fH g (a.getD i aM) (L.getD i []) i k).1=x at c2 A G
  simp (disch:=omega)only[↓wr,seval,wq,t2,t5,t6,t8,t10,t11]
  intro Y u
  have d:¬ q=Y:=by rintro rfl; rw[b] at u; simp at u
  refine ay.Bx o (by kernel_rfl) (.bp _ fun j Z=>by
   match j,Z with
   | 0,_=>exact ⟨_,rfl⟩
   | 1,_=>exact ⟨_,rfl⟩) ⟨.tree (kD a),.tree (.val _),DJ (l:=[(k:Int)]) (by simp[View.set]) rfl,trivial⟩ ?_
  simp (disch:=omega)only[↓wr,seval,wq,t2,t5,t6,t8,t10,t11,d,b,Xf,c1,c2,Xk,lu,ic]
  intro q3 y
  obtain ⟨_,y⟩:=cO y cJ
  have f:¬ q=q3:=by rintro rfl; rw[b] at y; simp at y
  have a1:∀ H':View,H' q=H1 q→H' q=(.arr 2 [[.aE (t.bC.map fun r=>[lu r]),.aE (t.gotos.map fun r=>[encI r])]]:c6):=fun H' h=>by rw[h,b]
  cases hE:fC (a.getD i aM).aG k with
  | none =>
   apply ah.eq<;>intro h1
   ·obtain ⟨c,I,_⟩:=W (by rw[← A h1]; exact h1)
    rw[hE] at I; simp at I
   ·simp (disch:=omega)only[↓wr,seval,wq,t2,t5,t6,t8,t10,t11,hE]
    exact aF m (by omega) ⟨by simp[View.set,d,f]; exact b,t2,t5,t6,t8,t10,rfl⟩
  | some c =>
   obtain ⟨e1,e2⟩:=X c hE
   have J:cs=[]→x.kind=1:=fun h=>G (by rw[e1]; exact e2) (V h)
   apply ah.eq<;>intro h1
   ·have K:=A h1
    rw[e1] at K
    subst K
    simp (disch:=omega)only[↓wr,seval,wq,t2,t5,t6,t8,t10,t11,hE]
    refine ah.ne (fun h=>absurd rfl h) (fun _=>?_)
    simp (disch:=omega)only[↓wr,seval,wq,t2,t5,t6,t8,t10,t11,hE,ql]
    apply ah.eq<;>intro w
    ·simp (disch:=omega)only[↓wr,seval,wq,t2,t5,t6,t8,t10,t11,hE,d,f]
     refine ah.ne (fun B=>absurd h1 B) (fun _=>?_)
     simp (disch:=omega)only[↓wr,seval,wq,t2,t5,t6,t8,t10,t11,hE]
     exact aF m (by omega) ⟨by simp[View.set,d,f]; exact b,t2,t5,t6,t8,t10,rfl⟩
    ·simp (disch:=omega)only[↓wr,seval,wq,t2,t5,t6,t8,t10,t11,hE]
     exact aF m (by omega) ⟨by simp[View.set,d,f]; exact b,t2,t5,t6,t8,t10,rfl⟩
   ·simp (disch:=omega)only[↓wr,seval,wq,t2,t5,t6,t8,t10,t11,hE,ql]
    apply ah.eq<;>intro w
    ·exact absurd (J (YD.1 (by omega))) h1
    ·simp (disch:=omega)only[↓wr,seval,wq,t2,t5,t6,t8,t10,t11,hE]
     exact aF m (by omega) ⟨by simp[View.set,d,f]; exact b,t2,t5,t6,t8,t10,rfl⟩
 ·simp (disch:=omega)only[↓wr,seval,wq,t2,t5,t8,t10]
  refine aU.up g.ak.length (fun k T H'=>H' q=(.arr 2 [[.aE (t.bC.map fun r=>[lu r]),.aE (t.gotos.map fun r=>[encI r])]]:c6)∧T 2=.aJ (ai g) 0∧T 5=.ptr q 0 0∧T 8=bj a∧T 10=gi i∧T 15=gi k) ⟨b,t2,t5,t8,t10,rfl⟩ ?_
  clear b t2 t5 t6 t8 t10 t11
  rintro k kk T H1 m ⟨b,t2,t5,t8,t10,t15⟩
  simp (disch:=omega)only[↓wr,seval,wq,j6,t2,t5,t8,t10,t15,ai,encS]
  apply ah.dec<;>intro E
  ·obtain ⟨c1,c2⟩:=R i k hi (by omega)
   have o:=FH a w1 w2 i [-1 - (k:Int)] (by unfold aL; simp)
   have p:uE a i k=if (eT a i [-1 - (k:Int)]).2=true then (eT a i [-1 - (k:Int)]).1 else -1:=rfl
   generalize eT a i [-1 - (k:Int)]=wk at o p
   obtain ⟨to,ok⟩:=wk
   simp only at o p
   simp (disch:=omega)only[↓wr,seval,wq,t2,t5,t8,t10,t15]
   intro Y u
   have d:¬ q=Y:=by rintro rfl; rw[b] at u; simp at u
   refine ay.Bx o (by kernel_rfl) (.bp _ fun j Z=>by
    match j,Z with
    | 0,_=>exact ⟨_,rfl⟩
    | 1,_=>exact ⟨_,rfl⟩) ⟨.tree (kD a),.tree (.val _),DJ (l:=[-1 - (k:Int)]) (by simp[View.set]) rfl,trivial⟩ ?_
   cases ok with
   | true =>
    rw[Xg rfl] at p
    rw[p] at c2
    simp (disch:=omega)only[↓wr,seval,wq,t2,t5,t8,t10,t15,d,b,Xf,c1,c2,Xk,encI]
    refine ah.ne (fun h=>absurd rfl h) (fun _=>?_)
    simp (disch:=omega)only[↓wr,seval,wq,t2,t5,t8,t10,t15]
    exact aF m (by omega) ⟨by simp[View.set,d]; exact b,t2,t5,t8,t10,rfl⟩
   | false =>
    rw[Xd (by simp)] at p
    rw[p] at c2
    simp (disch:=omega)only[↓wr,seval,wq,t2,t5,t8,t10,t15,d,b,Xf,c1,c2,Xk,encI]
    exact aF m (by omega) ⟨by simp[View.set,d]; exact b,t2,t5,t8,t10,rfl⟩
  ·simp (disch:=omega)only[↓wr,seval,wq]
end Gv
