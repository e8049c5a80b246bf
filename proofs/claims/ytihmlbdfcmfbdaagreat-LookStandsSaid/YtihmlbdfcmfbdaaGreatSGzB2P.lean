/-
  Part 16 of the proof: what the machine does and what the functions answer.
  Conditions: those that each lemma names.
-/
import Derived.Test.YtihmlbdfcmfbdaaGreatSGzB2O
set_option linter.unusedSimpArgs false
set_option linter.unusedVariables false
set_option maxRecDepth 100000
namespace Gv
open Go Go.Proofs
theorem vE {A:bV (Int × Int)} {k:Int × Int} {v:V} (h:getM A k=some v):∃ A1 A2 b,A=A1 ++ (k,v,b) :: A2∧∀ v' c,bJ k v' c A=A1 ++ (k,v',b) :: A2:=by
 induction A with
 | nil=>simp[getM] at h
 | cons x A ih =>
  unfold getM at h ih
  rw[VH] at h
  by_cases e:k=x.1
  ·simp only[e,Vy,Ue,T7] at h
   refine ⟨[],A,x.2.2,by rw[e,← h]; rfl,fun v' c=>?_⟩
   rw[bJ,e,Vy,T9 rfl]; rfl
  ·rw[beq_eq_false_iff_ne.2 e] at h
   obtain ⟨A1,A2,b,rfl,h3⟩:=ih h
   refine ⟨x :: A1,A2,b,rfl,fun v' c=>?_⟩
   rw[bJ,beq_eq_false_iff_ne.2 e,h3]; rfl
theorem rR {A:bV (Int × Int)} {k:Int × Int} (h:getM A k=none) (v:V) (c:Nat):bJ k v c A=A ++ [(k,v,c)]:=by
 induction A with
 | nil=>rfl
 | cons x A ih =>
  unfold getM at h ih
  rw[VH] at h
  by_cases e:k=x.1
  ·simp[e] at h
  ·rw[beq_eq_false_iff_ne.2 e] at h
   rw[bJ,beq_eq_false_iff_ne.2 e,ih h]; rfl
theorem tu {A:bV (Int × Int)} {k:Int × Int} : getM A k=none↔k ∉ A.map (·.1):=by
 induction A with
 | nil=>simp[getM]
 | cons x A ih =>
  unfold getM at ih ⊢
  rw[VH]
  by_cases h:k=x.1
  ·simp[h]
  ·simp only[beq_eq_false_iff_ne.2 h,Uz,Uk,not_or]
   rw[ih]
   simp[h]
def iE (fB:Int × Int→List Nat) (A:bV (Int × Int)):List cF:=A.map fun x=>(x.2.1,1,fa (fB x.1))
structure pX (A:bV (Int × Int)) (fB:Int × Int→List Nat):Prop where
 nd:(A.map (·.1)).Nodup
 all:∀ k,fB k≠[]→getM A k≠none
def JS (fB:Int × Int→List Nat) (k:Int × Int) (l:List Nat):Int × Int→List Nat:=fun z=>if z=k then l else fB z
theorem Of {fB:Int × Int→List Nat} {A:bV (Int × Int)} {k:Int × Int} {l:List Nat} (h:k ∉ A.map (·.1)):iE (JS fB k l) A=iE fB A:=by
 unfold iE
 refine VZ fun x hx=>?_
 have:x.1≠k:=fun e=>h (e ▸ List.mem_map_of_mem hx)
 simp[JS,this]
theorem pX.entry {A:bV (Int × Int)} {fB:Int × Int→List Nat} (h:pX A fB) {H:View} {Z:List cF} (ho:bt H (Z ++ iE fB A)) (k:Int × Int) (c:Nat) :
  ∃ P Q b,bJ k ((getM A k).getD (.emp 1)) c A=P ++ (k,(getM A k).getD (.emp 1),b) :: Q∧(∀ v c',bJ k v c' (bJ k ((getM A k).getD (.emp 1)) c A)=P ++ (k,v,b) :: Q)∧bt H (Z ++ (iE fB P ++ ((getM A k).getD (.emp 1),1,fa (fB k)) :: iE fB Q))∧k ∉ P.map (·.1)∧k ∉ Q.map (·.1)∧pX (P ++ (k,(getM A k).getD (.emp 1),b) :: Q) fB:=by
 cases hg:getM A k with
 | some v =>
  obtain ⟨P,Q,b,rfl,hp⟩:=vE hg
  have hnd:=h.nd
  rw[UA,Uz,UY] at hnd
  have h1:k ∉ Q.map (·.1):=(U1.1 hnd.2.1).1
  have h2:k ∉ P.map (·.1):=fun hm=>hnd.2.2 k hm k (by simp) rfl
  rw[Un]
  refine ⟨P,Q,b,hp v c,fun v' c'=>?_,?_,h2,h1,h⟩
  ·rw[hp v c]
   have hg2:getM (P ++ (k,v,b) :: Q) k=some v:=hg
   obtain ⟨P',Q',b',e,hp'⟩:=vE hg2
   rw[hp]
  ·have:=ho
   rw[iE,UA,Uz] at this
   exact this
 | none =>
  have hn:=tu.1 hg
  have hf:fB k=[]:=U7 fun hne=>h.all k hne hg
  rw[Option.getD_none,rR hg]
  refine ⟨A,[],c,rfl,fun v' c'=>?_,?_,hn,by simp,?_,fun k' hk'=>?_⟩
  ·have hg2:getM (A ++ [(k,V.emp 1,c)]) k=some (.emp 1):=by
    rw[← rR hg,pA,Vy,T9 rfl]
   obtain ⟨P',Q',b',e,hp'⟩:=vE hg2
   rw[← rR hg (.emp 1) c]
   clear hp' e hg2
   induction A with
   | nil=>simp[bJ]
   | cons x A ih =>
    have hx:k≠x.1:=fun e=>hn (by simp[e])
    have hg3:getM A k=none:=tu.2 fun hm=>hn (by simp[hm])
    rw[bJ,beq_eq_false_iff_ne.2 hx]
    simp only[Ut,if_false]
    rw[bJ,beq_eq_false_iff_ne.2 hx]
    simp only[Ut,if_false,UI,V3,true_and]
    rw[rR hg3]
    have:∀ B:bV (Int × Int),getM B k=none→bJ k v' c' (B ++ [(k,V.emp 1,c)])=B ++ [(k,v',c)]:=by
     intro B
     induction B with
     | nil=>intro _; simp[bJ]
     | cons y B ihB =>
      intro hB
      have hy:=tu.1 hB
      have hyk:k≠y.1:=fun e=>hy (by simp[e])
      rw[UI,bJ,beq_eq_false_iff_ne.2 hyk]
      simp only[Ut,if_false,UI,V3,true_and]
      exact ihB (tu.2 fun hm=>hy (by simp[hm]))
    exact this A hg3
  ·rw[hf]
   have h3:=ho.emp (k:=1) (sz:=1)
   have e:Z ++ (iE fB A ++ (V.emp 1,1,fa []) :: iE fB [])=(Z ++ iE fB A) ++ [(V.emp 1,1,[])]:=by simp[iE]
   rw[e]
   exact h3.perm (List.perm_append_comm (l₁:=[_]))
  ·rw[UA,UY]
   refine ⟨h.nd,by simp,fun x hx y hy e=>?_⟩
   simp at hy
   exact hn (by rw[← hy,← e]; exact hx)
  ·rw[← rR hg,pA]
   split
   ·simp
   ·exact h.all k' hk'
def ue:SC :=
 .seq (ao [bg 57 .lss 56 55]) <|
 .seq (.cond (.tmp 57) (.skip) (.exit 2)) <|
 .seq (.block 3 (.seq (ao [aj 58 56,aR 59 3 54 56,bp 60 3 59,((some 11),.op (.alloc [(.val (.int .i64 0)),(.emp 1),(.val (.int .i64 0))])),aj 10 58,(none,.op (.store 3 (.tmp 11) (.tmp 60)))]) <|
 .seq (ao [aD 61 0 11,ay 62 61,aD 63 1 9,ay 64 63,bg 65 .eql 62 64]) <|
 .cond (.tmp 65) (.seq (ao [aj 66 6,bp 67 2 9,bp 68 3 11,bD 69 74 [66,67,68],aj 70 10,((some 71),.op (.build [(.val (.int .i64 0)),(.val (.int .i64 0))] [(0,1,(.tmp 69)),(1,1,(.tmp 70))])),((some 12),.op (.alloc [(.val (.int .i64 0)),(.val (.int .i64 0))])),(none,.op (.store 2 (.tmp 12) (.tmp 71)))]) <|
 ao [aj 72 7,bp 73 2 12,aj 75 8,((some 76),.op (.cw 1 1 [(.val (.int .i64 0))] [(0,(.tmp 75))])),((some 77),.op (.old (.mapEntry 114 (.tmp 72) (.tmp 73)) 0)),gP 74 0 77,((some 78),.op (.app 1 8 (.tmp 74) (.tmp 76))),gP 79 1 77,(none,.op (.old (.entryStore 114 (.tmp 72) (.tmp 79) (.tmp 78)) 0))]) (.skip))) <|
 ao [aQ 80 .add 56 1,aj 56 80]
def tP:SC :=
 .seq (ao [bg 49 .lss 48 47]) <|
 .seq (.cond (.tmp 49) (.skip) (.exit 0)) <|
 .seq (.block 1 (.seq (ao [aj 50 48,aR 51 2 46 48,bp 52 2 51,((some 9),.op (.alloc [(.val (.int .i64 0)),(.val (.int .i64 0))])),aj 8 50,(none,.op (.store 2 (.tmp 9) (.tmp 52)))]) <|
 .seq (ao [aD 53 2 1,ay 54 53,aV 55 54,bj 56 0]) <|
 .block 2 (.loop ue))) <|
 ao [aQ 81 .add 48 1,aj 48 81]
def uq:SC :=
 .seq (ao [bg 111 .lss 110 109]) <|
 .seq (.cond (.tmp 111) (.skip) (.exit 8)) <|
 .seq (.block 9 (.seq (ao [aR 112 1 108 110,ay 113 112,aj 19 113]) <|
 ao [aD 114 1 17,ay 115 114,aj 116 6,fZ 117 116,aD 118 8 117,ay 119 118,aj 120 19,aR 121 1 119 120,ay 122 121,bg 123 .or 115 122,aD 124 1 17,(none,.op (.store 1 (.tmp 124) (.tmp 123)))])) <|
 ao [aQ 125 .add 110 1,aj 110 125]
def ub:SC :=
 .seq (ao [bg 96 .lss 95 94]) <|
 .seq (.cond (.tmp 96) (.skip) (.exit 6)) <|
 .seq (.block 7 (.seq (ao [aj 97 95,aj 15 97]) <|
 .seq (ao [aj 98 7,aj 99 14,aj 100 15,((some 101),.op (.build [(.val (.int .i64 0)),(.val (.int .i64 0))] [(0,1,(.tmp 99)),(1,1,(.tmp 100))])),((some 102),.op (.old (.lookup 114 (.tmp 98) (.tmp 101) false) 43)),aj 16 102]) <|
 .seq (.seq (ao [aj 103 16,aV 104 103,aQ 105 .eql 104 0]) <|
 .cond (.tmp 105) (.exit 7) (.skip)) <|
 .seq (ao [aj 106 15,((some 107),.op (.build [(.val (.int .i64 0)),(.val (.int .u32 0))] [(0,1,(.tmp 106))])),((some 17),.op (.alloc [(.val (.int .i64 0)),(.val (.int .u32 0))])),(none,.op (.store 2 (.tmp 17) (.tmp 107)))]) <|
 .seq (.seq (ao [aj 108 16,aV 109 108,bj 110 0]) <|
 .block 8 (.loop uq)) <|
 ao [aj 126 13,aj 127 14,aj 128 13,aj 129 14,aR 130 1 128 129,ay 131 130,bp 132 2 17,((some 133),.op (.cw 1 2 [(.val (.int .i64 0)),(.val (.int .u32 0))] [(0,(.tmp 132))])),((some 134),.op (.app 2 16 (.tmp 131) (.tmp 133))),aR 135 1 126 127,(none,.op (.store 1 (.tmp 135) (.tmp 134)))])) <|
 ao [aQ 136 .add 95 1,aj 95 136]
def zU:SC :=
 .seq (ao [bg 90 .lss 89 88]) <|
 .seq (.cond (.tmp 90) (.skip) (.exit 4)) <|
 .seq (.block 5 (.seq (ao [aj 91 89,aj 14 91]) <|
 .seq (ao [aD 92 2 1,ay 93 92,aV 94 93,bj 95 0]) <|
 .block 6 (.loop ub))) <|
 ao [aQ 137 .add 89 1,aj 89 137]
def EM:SF:=⟨.seq (ao [cO 1 0,((some 2),.op (.bP (.val (.emp 1)))),bj 3 0]) <|
 .seq (ao [bp 21 4 1,bD 22 24 [21],aj 20 22,gP 23 0 20,gP 24 1 20,aj 4 23,aj 5 24]) <|
 .seq (.seq (ao [aj 25 5,aQ 26 .neq 25 0]) <|
 .cond (.tmp 26) (.seq (ao [aj 27 5,((some 2),.op (.bP (.val (.emp 1)))),aj 3 27]) <|
 .ret) (.skip)) <|
 .seq (ao [bp 28 4 1,aj 29 4,bD 30 72 [28,29],aj 6 30]) <|
 .seq (ao [aj 31 6,bD 32 73 [31]]) <|
 .seq (ao [aj 33 6,aj 34 6,fZ 35 34,aD 36 7 35,ay 37 36,aV 38 37,((some 39),.op (.make 1 24 [(.emp 1)] (.tmp 38) (.tmp 38))),fZ 40 33,aD 41 9 40,(none,.op (.store 1 (.tmp 41) (.tmp 39)))]) <|
 .seq (ao [((some 42),.op (.nR)),aj 7 42]) <|
 .seq (.seq (ao [aj 43 6,fZ 44 43,aD 45 7 44,ay 46 45,aV 47 46,bj 48 0]) <|
 .block 0 (.loop tP)) <|
 .seq (ao [aj 82 6,bD 83 75 [82]]) <|
 .seq (ao [aj 84 4,aV 85 84,((some 86),.op (.make 1 24 [(.emp 1)] (.tmp 85) (.tmp 85))),aj 13 86]) <|
 .seq (.seq (ao [aj 87 4,aV 88 87,bj 89 0]) <|
 .block 4 (.loop zU)) <|
 .seq (ao [aj 138 13,aj 2 138,bj 3 0]) <|
 .ret,
 [.tmp 2,.tmp 3],139⟩
theorem Gl:aU Tryz.prog 33 [1]=some EM:=by kernel_rfl
theorem JG:OE Tryz.prog 119 :=
 ⟨⟨⟨ "state",3,0,false,"","gerund/look",0⟩,⟨ "rule",3,1,false,"","gerund/look",8⟩,by kernel_rfl,by decide,by decide,Tryz.underlying3,Tryz.underlying3,rfl,rfl⟩,by kernel_rfl⟩
def bB (g:aw) (a:List aT) (x i:Nat) (key:Int × Int):List Nat :=
 if 0≤key.1∧0≤key.2∧key.2 < g.rules.length then iC g a x key.2.toNat key.1.toNat ++ (if key.2 < i∧(aB g key.2).left=(di a x).2∧jV a (di a x).1.toNat (aB g key.2).right=key.1.toNat then [x] else []) else []
theorem Q0 (g:aw) (a:List aT):bB g a 0 0=fun _=>[]:=by
 funext key
 unfold bB
 split
 ·rename_i h
  rw[T6 (fun h2=>by omega)]
  simp[iC]
 ·rfl
theorem JY (g:aw) (a:List aT) (x:Nat):bB g a x g.rules.length=bB g a (x+1) 0:=by
 funext key
 unfold bB
 split
 ·rename_i h
  obtain ⟨k,hk⟩:∃ k:Nat,key.2=k:=⟨key.2.toNat,by omega⟩
  have hz:¬ key.2 < ((0:Nat):Int):=by omega
  simp only[hz,false_and,if_false,VB]
  unfold iC
  rw[U4,Vq]
  congr 1
  rw[hk,Uq]
  by_cases hc:(aB g (k:Int)).left=(di a x).2∧jV a (di a x).1.toNat (aB g (k:Int)).right=key.1.toNat
  ·rw[T9 ⟨by omega,hc.1,hc.2⟩]
   rw[List.filter_cons_of_pos (by simp only[Ul]; exact hc)]
   rfl
  ·rw[T6 (fun h2=>hc ⟨h2.2.1,h2.2.2⟩)]
   symm
   rw[List.filter_cons_of_neg (by simpa using fun h1 h2=>hc ⟨h1,h2⟩)]
   rfl
 ·rfl
theorem J4 (g:aw) (a:List aT) (x i:Nat) (h:¬ (aB g i).left=(di a x).2):bB g a x (i+1)=bB g a x i:=by
 funext key
 unfold bB
 split
 ·rename_i hk
  congr 1
  by_cases e:key.2=i
  ·rw[T6 (fun h2=>h (by rw[← e]; exact h2.2.1)),T6 (fun h2=>by omega)]
  ·by_cases hc:key.2 < i∧(aB g key.2).left=(di a x).2∧jV a (di a x).1.toNat (aB g key.2).right=key.1.toNat
   ·rw[T9 hc,T9 ⟨by push_cast; omega,hc.2⟩]
   ·rw[T6 hc,T6 (fun h2=>hc ⟨by have:=h2.1; push_cast at this; omega,h2.2⟩)]
 ·rfl
theorem RD (g:aw) (a:List aT) (x i:Nat) (hi:i < g.rules.length) (h:(aB g i).left=(di a x).2):bB g a x (i+1)=JS (bB g a x i) ((jV a (di a x).1.toNat (aB g i).right:Int),(i:Int)) (bB g a x i ((jV a (di a x).1.toNat (aB g i).right:Int),(i:Int)) ++ [x]):=by
 funext key
 unfold JS
 by_cases e:key=((jV a (di a x).1.toNat (aB g i).right:Int),(i:Int))
 ·rw[T9 e,e]
  unfold bB
  simp only
  rw[T9 ⟨by omega,by omega,by omega⟩,T9 ⟨by push_cast; omega,h,by simp⟩,T9 ⟨by omega,by omega,by omega⟩,T6 (fun h2=>by omega),VB]
 ·rw[T6 e]
  unfold bB
  split
  ·rename_i hk
   congr 1
   by_cases hc:key.2 < i∧(aB g key.2).left=(di a x).2∧jV a (di a x).1.toNat (aB g key.2).right=key.1.toNat
   ·rw[T9 hc,T9 ⟨by push_cast; omega,hc.2⟩]
   ·rw[T6 hc,T6]
    rintro ⟨h1,h2,h3⟩
    push_cast at h1
    by_cases e2:key.2=i
    ·apply e
     rw[e2] at h3
     exact Prod.ext (by simp only; omega) (by simp only; exact e2)
    ·exact hc ⟨by omega,h2,h3⟩
  ·rfl
theorem yu {g:aw} {a:List aT} {x c:Nat} (hr:∀ k:Nat,k < g.rules.length→(aB g k).right.length≤6):∀ (n:Nat) {f:Nat→List Nat},n≤g.rules.length→(∀ z,(f z).length≤c)→∀ z,((List.range n).foldl (pM g a x) f z).length≤c+6 * n
 | 0,f,_,h,z=>by simpa using h z
 | n+1,f,hn,h,z=>by
  have ih:=yu (a:=a) (x:=x) hr n (f:=f) (by omega) h
  rw[U4,UM,Uu,Vk,pM]
  split
  ·have h1:=y8 (x:=x) (ys:=od g a (di a x).1.toNat (aB g n).right) ih z
   have h2:=I2 g a (aB g n).right (di a x).1.toNat
   have:=hr n (by omega)
   omega
  ·have:=ih z; omega
set_option maxHeartbeats 16000000 in
theorem OH {g:aw} {a:List aT} (hA:ca g a) (hr9:bR g=true) (ha:a.length≤300) {W qn cM bq q1:Nat} {M:bV (Int × Int)} {uw:V} {s e:Nat} {Sl:List BV} {x p:Nat} {B:Int} (hx:(ba a)[x]?=some ((p:Int),B)) {f0:Nat→List Nat} {c0:Nat} (hf0:∀ z,(f0 z).length≤c0) (hc0:c0≤50000000) (hqb:qn≠bq)
  {T:Env} {H:View} {Q:Exit→Env→View→Prop} {v:cE (T,H,Q)}
  (hJ:∃ (A:List (V × List Nat)) (c2:Nat) (M2:bV (Int × Int)),cR g a H W qn cM M uw s e (ba a) Sl A ((.sl q1 0 1 2,2,[[gi p,gi B]]) :: iE (bB g a x 0) M2)∧(∀ z,z < (ba a).length→(A.getD z (.any,[])).2=f0 z)∧H bq=.map (bN eK M2) c2∧gv M2 c2∧pX M2 (bB g a x 0))
  (ht:T 1=.aO (au g) 0∧T 4=bO a∧T 6=.ptr W 0 0∧T 7=.mp bq∧T 8=gi x∧T 9=.ptr q1 0 0∧T 46=uw∧T 47=gi (ba a).length∧T 48=gi x∧T 54=.aL (g.rules.map aP)∧T 55=gi g.rules.length∧T 56=gi 0)
  (hQ:∀ (T':Env) (H':View),(∃ (A:List (V × List Nat)) (c2:Nat) (M2:bV (Int × Int)),cR g a H' W qn cM M uw s e (ba a) Sl A ((.sl q1 0 1 2,2,[[gi p,gi B]]) :: iE (bB g a x g.rules.length) M2)∧(∀ z,z < (ba a).length→(A.getD z (.any,[])).2=(List.range g.rules.length).foldl (pM g a x) f0 z)∧H' bq=.map (bN eK M2) c2∧gv M2 c2∧pX M2 (bB g a x g.rules.length)) →
   T' 1=.aO (au g) 0→T' 4=bO a→T' 6=.ptr W 0 0→T' 7=.mp bq→T' 46=uw→T' 47=gi (ba a).length→T' 48=gi x→Q (.exit 2) T' H'):bc Tryz.prog ue T H Q v:=by
 have hn1:=pK hA
 have hnl:(ba a).length≤40 * a.length:=ll hA.ok.bm a.length
 have hxl:=(Uj.1 hx).1
 have hxw:=uQ hx
 obtain ⟨hB0,hE⟩:=dr.1 (Ub hx)
 have hru:=hA.cD.rules
 have hr6:∀ k:Nat,k < g.rules.length→(aB g k).right.length≤6:=fun k hk=>hA.cD.right _ (Ub (show g.rules[k]?=some (aB g k) by unfold aB; exact getD_some hk))
 obtain ⟨t1,t4,t6,t7,t8,t9,t46,t47,t48,t54,t55,t56⟩:=ht
 refine bc.up g.rules.length (fun i T H'=>(∃ (A:List (V × List Nat)) (c2:Nat) (M2:bV (Int × Int)),cR g a H' W qn cM M uw s e (ba a) Sl A ((.sl q1 0 1 2,2,[[gi p,gi B]]) :: iE (bB g a x i) M2)∧(∀ z,z < (ba a).length→(A.getD z (.any,[])).2=(List.range i).foldl (pM g a x) f0 z)∧H' bq=.map (bN eK M2) c2∧gv M2 c2∧pX M2 (bB g a x i)) ∧
  T 1=.aO (au g) 0∧T 4=bO a∧T 6=.ptr W 0 0∧T 7=.mp bq∧T 8=gi x∧T 9=.ptr q1 0 0∧T 46=uw∧T 47=gi (ba a).length∧T 48=gi x∧T 54=.aL (g.rules.map aP)∧T 55=gi g.rules.length∧T 56=gi i) ⟨hJ,t1,t4,t6,t7,t8,t9,t46,t47,t48,t54,t55,t56⟩ ?_
 clear hJ t1 t4 t6 t7 t8 t9 t46 t47 t48 t54 t55 t56
 rintro i k T H1 hk ⟨⟨A,c2,M2,hI,hfA,hmb,hbo,hBk⟩,t1,t4,t6,t7,t8,t9,t46,t47,t48,t54,t55,t56⟩
 simp (disch:=omega) only [↓wr,seval,wq,ah,ag,ak,aa,ab,af,ai,ae,ue,t54,t55,t56]
 refine av.dec (fun hc=>?_) (fun hc=>?_)
 rotate_left
 ·have hi:i=g.rules.length:=by omega
  subst hi
  simp (disch:=omega) only [↓wr,seval,wq,ah,ag,ak,aa,ab,af,ai,ae]
  exact hQ _ _ ⟨A,c2,M2,hI,hfA,hmb,hbo,hBk⟩ t1 t4 t6 t7 t46 t47 t48
 have hil:i < g.rules.length:=by omega
 have hR:g.rules[i]?=some (aB g i):=by unfold aB; exact getD_some hil
 have hq1:H1 q1=.arr 2 [[gi (p:Int),gi B]]:=by
  have:=hI.own.1 (.sl q1 0 1 2,2,[[gi (p:Int),gi B]]) (by simp)
  rcases this with ⟨h,_⟩ | ⟨m,h1,h2⟩
  ·simp at h
  ·simp only[V.sl.injEq] at h1
   rw[h1.1]; exact h2
 simp (disch:=omega) only [↓wr,seval,wq,ah,ag,ak,aa,ab,af,ai,ae,t1,t6,t7,t8,t9,t54,t55,t56,T8,hR,Ue,aP]
 intro q2 hq2
 have hI2:=hI.fresh hq2 (o:=.arr 3 [[gi (aB g i).left,encI (aB g i).right,gi (aB g i).prec]])
 have hmb2:(H1.set q2 (.arr 3 [[gi (aB g i).left,encI (aB g i).right,gi (aB g i).prec]])) bq=.map (bN eK M2) c2:=by
  simp only[View.set]; rw[T6 (fun e=>by rw[← e,hmb] at hq2; simp at hq2)]; exact hmb
 have hq12:q1≠q2:=fun e=>by rw[← e,hq1] at hq2; simp at hq2
 have hkey:(di a x).2=B∧(di a x).1.toNat=p:=by rw[hxw]; simp
 simp (disch:=omega) only [↓wr,seval,wq,ah,ag,ak,aa,ab,af,ai,ae,t9,hq12,hq1,encI]
 refine av.eq (fun hlB=>?_) (fun hlB=>?_)
 rotate_left
 ·simp (disch:=omega) only [↓wr,seval,wq,ah,ag,ak,aa,ab,af,ai,ae,t1,t4,t6,t7,t8,t9,t46,t47,t48,t54,t55,t56]
  rw[set_set]
  have hskip:¬ (aB g i).left=(di a x).2:=by rw[hkey.1]; exact hlB
  refine aN hk (by omega) ⟨⟨A,c2,M2,by rw[J4 g a x i hskip]; exact hI2,fun z hz=>?_,hmb2,hbo,by rw[J4 g a x i hskip]; exact hBk⟩,t1,t4,t6,t7,t8,t9,t46,t47,t48,t54,t55,by first | rfl | (congr 2)⟩
  rw[U4,UM,Uu,Vk,pM,T6 hskip]
  exact hfA z hz
 have hq12':(H1.set q2 (.arr 3 [[gi (aB g i).left,encI (aB g i).right,gi (aB g i).prec]])) q1=.arr 2 [[gi (p:Int),gi B]]:=by
  simp only[View.set]; rw[T6 hq12]; exact hq1
 rw[set_set]
 have hq22:(H1.set q2 (.arr 3 [[gi (aB g i).left,encI (aB g i).right,gi (aB g i).prec]])) q2=.arr 3 [[gi (aB g i).left,encI (aB g i).right,gi (aB g i).prec]]:=by simp[View.set]
 have e3:(H1.set q2 (.arr 3 [[gi (aB g i).left,.aL ((aB g i).right.map fun x=>[gi x]),gi (aB g i).prec]]))=H1.set q2 (.arr 3 [[gi (aB g i).left,encI (aB g i).right,gi (aB g i).prec]]):=rfl
 try rw[e3]
 generalize H1.set q2 (.arr 3 [[gi (aB g i).left,encI (aB g i).right,gi (aB g i).prec]])=H2 at hI2 hmb2 hq12' hq22 ⊢
 clear hI hmb hq1 hq2
 simp (disch:=omega) only [↓wr,seval,wq,ah,ag,ak,aa,ab,af,ai,ae,t6,t9,hq12',hq22]
 have hlen2:=yu (a:=a) (x:=x) hr6 i (f:=f0) (by omega) hf0
 have hrch:=OO hA hr9 ha hI2 (fA:=(List.range i).foldl (pM g a x) f0) (c:=c0+6 * i) hfA hlen2 (by omega) hx hil hlB
 simp only[aP] at hrch
 refine aE.ez (hrch.mono ?_)
 rintro r H5 ⟨rfl,⟨A',hI5,hfA5⟩,hmaps⟩
 have hmb5:=hmaps _ _ _ hmb2
 generalize hEn:jV a p (aB g i).right=En
 simp (disch:=omega) only [↓wr,seval,wq,ah,ag,ak,aa,ab,af,ai,ae,t6,t7,t8,t9]
 intro q3 hq3 q4 hq4
 obtain ⟨n43,hq4⟩:=iq hq4
 rw[T6 n43] at hq4
 rw[set_set]
 have hI6:=hI5.fresh hq3 (o:=.arr 2 [[gi (En:Int),gi (i:Int)]])
 have hmb6:(H5.set q3 (.arr 2 [[gi (En:Int),gi (i:Int)]])) bq=.map (bN eK M2) c2:=by
  simp only[View.set]; rw[T6 (fun e=>by rw[← e,hmb5] at hq3; simp at hq3)]; exact hmb5
 have hq4':(H5.set q3 (.arr 2 [[gi (En:Int),gi (i:Int)]])) q4=.dead:=by simp only[View.set]; rw[T6 n43]; exact hq4
 have hI7:=hI6.fresh hq4' (o:=.arr 1 [[gi (x:Int)]])
 have hmb7:((H5.set q3 (.arr 2 [[gi (En:Int),gi (i:Int)]])).set q4 (.arr 1 [[gi (x:Int)]])) bq=.map (bN eK M2) c2:=by
  simp only[View.set]
  rw[T6 (fun e=>by rw[← e,hmb6] at hq4'; simp at hq4')]
  exact hmb6
 have hq47:((H5.set q3 (.arr 2 [[gi (En:Int),gi (i:Int)]])).set q4 (.arr 1 [[gi (x:Int)]])) q4=.arr 1 [[gi (x:Int)]]:=by simp[View.set]
 generalize ((H5.set q3 (.arr 2 [[gi (En:Int),gi (i:Int)]])).set q4 (.arr 1 [[gi (x:Int)]]))=H7 at hI7 hmb7 hq47 ⊢
 clear hI5 hI6 hmb5 hmb6 hq4 hq4' hq3
 have hmt:dz Tryz.prog 114=some (119,43):=by kernel_rfl
 have hz:zeroV Tryz.prog 43=some (.emp 1):=by kernel_rfl
 refine Rs (kv:=eK) (kt:=119) (et:=43) (z:=.emp 1) hmt hz (zr JG) (id:=bq) (c:=c2) (m:=M2) (k:=((En:Int),(i:Int))) (by first | rfl | simp (disch:=omega) only [↓wr,seval,wq,ah,ag,ak,aa,ab,af,ai,ae]) (by first | rfl | (simp (disch:=omega) only [↓wr,seval,wq,ah,ag,ak,aa,ab,af,ai,ae]; rfl)) hmb7 hbo fun b c' hb' hbk=>?_
 have hown:=hI7.own
 have hown2:bt H7 (((.sl W 0 1 10,10,[[.aL (g.az.map cg),.aL (g.ax.map fun s=>[gs s]),.aL (g.rules.map aP),gi g.start,bO a,bI (aA g false),.mp qn,uw,.sl s 0 (ba a).length 1,.sl e 0 (ba a).length 1]]) :: (uw,2,mf (ba a)) :: (.sl s 0 (ba a).length 1,1,bY Sl) :: (.sl e 0 (ba a).length 1,1,bU A') :: (iB A' ++ [(.sl q1 0 1 2,2,[[gi (p:Int),gi B]])])) ++ iE (bB g a x i) M2):=by
  have e:∀ (X1 X2 X3 X4 y:cF) (R K:List cF),(X1 :: X2 :: X3 :: X4 :: (R ++ [y])) ++ K=X1 :: X2 :: X3 :: X4 :: (R ++ (y :: K)):=fun X1 X2 X3 X4 y R K=>by simp
  rw[e]; exact hown
 obtain ⟨P,Qm,bb,hP1,hP2,hO,hkP,hkQ,hB2⟩:=hBk.entry hown2 ((En:Int),(i:Int)) c2
 have hfb:(bB g a x i ((En:Int),(i:Int))).length≤20000:=by
  unfold bB
  split
  ·rw[T6 (fun h=>by have:=h.1; simp only at this; omega),VB]
   unfold iC
   have:=UW (fun y=>decide ((aB g ((((En:Int),(i:Int)).2.toNat:Nat):Int)).left=(di a y).2∧jV a (di a y).1.toNat (aB g ((((En:Int),(i:Int)).2.toNat:Nat):Int)).right=((En:Int),(i:Int)).1.toNat)) (List.range x)
   rw[List.length_range] at this
   omega
  ·simp
 generalize hu:(getM M2 ((En:Int),(i:Int))).getD (.emp 1)=u at *
 generalize bJ ((En:Int),(i:Int)) u c2 M2=M3 at *
 have hq4b:q4≠bq:=fun e=>by rw[← e,hq47] at hmb7; simp at hmb7
 have hfB:=RD g a x i hil (by rw[hkey.1]; exact hlB)
 rw[hkey.2,hEn] at hfB
 generalize hfk:bB g a x i ((En:Int),(i:Int))=lk at *
 generalize hZ:(((.sl W 0 1 10,10,[[.aL (g.az.map cg),.aL (g.ax.map fun s=>[gs s]),.aL (g.rules.map aP),gi g.start,bO a,bI (aA g false),.mp qn,uw,.sl s 0 (ba a).length 1,.sl e 0 (ba a).length 1]]) :: (uw,2,mf (ba a)) :: (.sl s 0 (ba a).length 1,1,bY Sl) :: (.sl e 0 (ba a).length 1,1,bU A') :: (iB A' ++ [(.sl q1 0 1 2,2,[[gi (p:Int),gi B]])])):List cF)=Z at hO
 have pm:∀ (r:cF) (X Y:List cF),(Z ++ (X ++ r :: Y)).Perm (r :: (Z ++ (X ++ Y))):=fun r X Y=>by
  rw[← UL,← UL]; exact UZ
 have hO8:=(hO.perm (pm _ _ _)).uM hmb7 (o:=.map (bN eK M3) c')
 have hel:bX (H7.set bq (.map (bN eK M3) c')) (.sl q4 0 1 1)=some ([[gi (x:Int)]],[q4]):=by simp[bX,View.set,hq4b,hq47]
 simp (disch:=omega) only [↓wr,seval,wq,ah,ag,ak,aa,ab,af,ai,ae,hel]
 refine c6 hO8 (by simp[aX]) (by unfold aK; simp; omega) (by unfold aK; simp; omega) ?_
 intro u' H9 o9 l9
 have hm9:=l9.map hO8.head (b:=bq) (c:=c') (es:=bN eK M3) (by simp[View.set])
 have hmq9:=l9.map hO8.head (b:=qn) (c:=cM) (es:=bN eK M) (by simp only[View.set]; rw[T6 hqb]; exact hI7.mp)
 try simp (disch:=omega) only [↓wr,seval,wq,ah,ag,ak,aa,ab,af,ai,ae]
 refine RI (kv:=eK) (id:=bq) (c:=c') (b:=b) (m:=M3) (k:=((En:Int),(i:Int))) (v:=u') (by first | rfl | simp (disch:=omega) only [↓wr,seval,wq,ah,ag,ak,aa,ab,af,ai,ae]) (by first | rfl | simp (disch:=omega) only [↓wr,seval,wq,ah,ag,ak,aa,ab,af,ai,ae]) (by first | rfl | simp (disch:=omega) only [↓wr,seval,wq,ah,ag,ak,aa,ab,af,ai,ae]) hm9 hb' hbk fun c0=>?_
 have hb2:=hb'.Po hbk u' c0
 have hgp:=fun k'=>pA ((En:Int),(i:Int)) k' u' c0 M3
 rw[hP2 u' c0] at hb2 ⊢
 simp only[hP2 u' c0] at hgp
 simp (disch:=omega) only [↓wr,seval,wq,ah,ag,ak,aa,ab,af,ai,ae,t1,t4,t6,t7,t8,t9,t46,t47,t48,t54,t55,t56]
 refine aN hk (by omega) ⟨⟨A',c',P ++ (((En:Int),(i:Int)),u',bb) :: Qm,⟨?_,?_,hI7.bo,hI7.num,hI7.sl,hI7.al⟩,fun z hz=>?_,by simp[View.set],hb2,?_⟩,t1,t4,t6,t7,t8,t9,t46,t47,t48,t54,t55,by first | rfl | (congr 2)⟩
 ·have hbe:iE (bB g a x (i+1)) (P ++ (((En:Int),(i:Int)),u',bb) :: Qm)=iE (bB g a x i) P ++ (u',1,fa lk ++ [[gi (x:Int)]]) :: iE (bB g a x i) Qm:=by
   rw[hfB,show ∀ f:Int × Int→List Nat,iE f (P ++ (((En:Int),(i:Int)),u',bb) :: Qm)=iE f P ++ (u',1,fa (f ((En:Int),(i:Int)))) :: iE f Qm from fun f=>by simp[iE],Of hkP,Of hkQ]
   simp[JS]
  have o10:=(o9.uM hm9 (o:=.map (bN eK (P ++ (((En:Int),(i:Int)),u',bb) :: Qm)) c')).perm (pm _ _ _).symm
  rw[hbe]
  have e:∀ (X1 X2 X3 X4 y:cF) (R K:List cF),(X1 :: X2 :: X3 :: X4 :: (R ++ [y])) ++ K=X1 :: X2 :: X3 :: X4 :: (R ++ (y :: K)):=fun X1 X2 X3 X4 y R K=>by simp
  rw[← hZ,e] at o10
  exact o10
 ·show (H9.set bq _) qn=_
  simp only[View.set]; rw[T6 hqb]; exact hmq9
 ·rw[U4,UM,Uu,Vk,pM,T9 (by rw[hkey.1]; exact hlB),hkey.2]
  exact hfA5 z hz
 ·refine ⟨by simpa using hB2.nd,fun k' hk'=>?_⟩
  rw[hgp k']
  split
  ·simp
  ·rename_i hne
   rw[hP1]
   refine hB2.all k' fun h0=>hk' ?_
   rw[hfB]
   unfold JS
   rw[T6 (fun e=>hne (by simp[e]))]
   exact h0
section
variable {g:aw} {a:List aT} {H:View} {W qn cM:Nat} {M:bV (Int × Int)} {uw:V} {s e:Nat} {ws:List (Int × Int)} {Sl:List BV} {A:List (V × List Nat)} {L:List cF}
theorem cR.RJ (h:cR g a H W qn cM M uw s e ws Sl A L) {q:Nat} (hq:H q=.dead) (sz:Nat) (es:List (List V)):cR g a (H.set q (.arr sz es)) W qn cM M uw s e ws Sl A ((.sl q 0 es.length sz,sz,es) :: L):=by
 have pm5:∀ (y a b c d:cF) (X L:List cF),(y :: a :: b :: c :: d :: (X ++ L)).Perm (a :: b :: c :: d :: (X ++ y :: L)):=fun y a b c d X L=>(UZ (l₁:=a :: b :: c :: d :: X)).symm
 have h2:=h.fresh hq (o:=.arr sz es)
 exact ⟨(h.own.new hq sz es).perm (pm5 _ _ _ _ _ _ _),h2.mp,h2.bo,h2.num,h2.sl,h2.al⟩
theorem cR.Sw {y:cF} (h:cR g a H W qn cM M uw s e ws Sl A (y :: L)):cR g a H W qn cM M uw s e ws Sl A L :=
 ⟨h.own.sub (.cons_cons _ (.cons_cons _ (.cons_cons _ (.cons_cons _ (List.Sublist.append (.refl _) (.cons _ (.refl _))))))),h.mp,h.bo,h.num,h.sl,h.al⟩
theorem AJ (hf:g.dt):∀ (n z:Nat),(jD g a n z).length≤240 * n
 | 0,z=>by simp[jD]
 | n+1,z=>by
  have ih:=AJ hf n
  have hr6:∀ k:Nat,k < g.rules.length→(aB g k).right.length≤6:=fun k hk=>hf.right _ (Ub (show g.rules[k]?=some (aB g k) by unfold aB; exact getD_some hk))
  have hru:=hf.rules
  have h1:=yu (a:=a) (x:=n) hr6 g.rules.length (f:=jD g a n) (Ug _) ih z
  unfold jD at h1 ⊢
  rw[U4,UM,Uu,Vk,Km]
  omega
end
set_option maxHeartbeats 16000000 in
theorem of_walks {g:aw} {a:List aT} (hA:ca g a) (hr9:bR g=true) (ha:a.length≤300) {W qn cM bq:Nat} {M:bV (Int × Int)} {uw:V} {s e:Nat} {Sl:List BV} (hqb:qn≠bq)
  {T:Env} {H:View} {Q:Exit→Env→View→Prop} {v:cE (T,H,Q)}
  (hJ:∃ (A:List (V × List Nat)) (c2:Nat) (M2:bV (Int × Int)),cR g a H W qn cM M uw s e (ba a) Sl A (iE (bB g a 0 0) M2)∧(∀ z,z < (ba a).length→(A.getD z (.any,[])).2=jD g a 0 z)∧H bq=.map (bN eK M2) c2∧gv M2 c2∧pX M2 (bB g a 0 0))
  (ht:T 1=.aO (au g) 0∧T 4=bO a∧T 6=.ptr W 0 0∧T 7=.mp bq∧T 46=uw∧T 47=gi (ba a).length∧T 48=gi 0)
  (hQ:∀ (T':Env) (H':View),(∃ (A:List (V × List Nat)) (c2:Nat) (M2:bV (Int × Int)),cR g a H' W qn cM M uw s e (ba a) Sl A (iE (bB g a (ba a).length 0) M2)∧(∀ z,z < (ba a).length→(A.getD z (.any,[])).2=jD g a (ba a).length z)∧H' bq=.map (bN eK M2) c2∧gv M2 c2∧pX M2 (bB g a (ba a).length 0)) →
   T' 1=.aO (au g) 0→T' 4=bO a→T' 6=.ptr W 0 0→T' 7=.mp bq→Q (.exit 0) T' H'):bc Tryz.prog tP T H Q v:=by
 have hn1:=pK hA
 have hnl:(ba a).length≤40 * a.length:=ll hA.ok.bm a.length
 obtain ⟨t1,t4,t6,t7,t46,t47,t48⟩:=ht
 refine bc.up (ba a).length (fun x T H'=>(∃ (A:List (V × List Nat)) (c2:Nat) (M2:bV (Int × Int)),cR g a H' W qn cM M uw s e (ba a) Sl A (iE (bB g a x 0) M2)∧(∀ z,z < (ba a).length→(A.getD z (.any,[])).2=jD g a x z)∧H' bq=.map (bN eK M2) c2∧gv M2 c2∧pX M2 (bB g a x 0)) ∧
  T 1=.aO (au g) 0∧T 4=bO a∧T 6=.ptr W 0 0∧T 7=.mp bq∧T 46=uw∧T 47=gi (ba a).length∧T 48=gi x) ⟨hJ,t1,t4,t6,t7,t46,t47,t48⟩ ?_
 clear hJ t1 t4 t6 t7 t46 t47 t48
 rintro x k T H1 hk ⟨⟨A,c2,M2,hI,hfA,hmb,hbo,hBk⟩,t1,t4,t6,t7,t46,t47,t48⟩
 simp (disch:=omega) only [↓wr,seval,wq,ah,ag,ak,aa,ab,af,ai,ae,tP,t46,t47,t48]
 refine av.dec (fun hc=>?_) (fun hc=>?_)
 rotate_left
 ·have hi:x=(ba a).length:=by omega
  subst hi
  simp (disch:=omega) only [↓wr,seval,wq,ah,ag,ak,aa,ab,af,ai,ae]
  exact hQ _ _ ⟨A,c2,M2,hI,hfA,hmb,hbo,hBk⟩ t1 t4 t6 t7
 have hx:(ba a)[x]?=some (di a x):=getD_some (by omega)
 obtain ⟨p,hp⟩:=sf (Ub hx)
 generalize hxe:di a x=y at hx hp
 obtain ⟨y1,B⟩:=y
 simp only at hp
 have hy1:y1=p:=by simpa using Vl Prod.fst hp
 subst hy1
 clear hp
 have hwg:(mf (ba a)).getD x []=[gi (p:Int),gi B]:=by
  simp[T0,hx]
 obtain ⟨hW,⟨w,huw,hw⟩,hs,he,n1,n2,n3⟩:=hI.at hn1
 have hlt:=AJ (a:=a) hA.cD x
 simp (disch:=omega) only [↓wr,seval,wq,ah,ag,ak,aa,ab,af,ai,ae,t1,t46,t47,t48,huw,hw,hwg,au,encS]
 refine ⟨by omega,by omega,fun q1 hq1=>?_⟩
 rw[set_set]
 have hI2:=hI.RJ hq1 2 [[gi (p:Int),gi B]]
 have hmb2:(H1.set q1 (.arr 2 [[gi (p:Int),gi B]])) bq=.map (bN eK M2) c2:=by
  simp only[View.set]; rw[T6 (fun e=>by rw[← e,hmb] at hq1; simp at hq1)]; exact hmb
 generalize H1.set q1 (.arr 2 [[gi (p:Int),gi B]])=H2 at hI2 hmb2 ⊢
 refine OH hA hr9 ha hx (f0:=jD g a x) (c0:=240 * x) hlt (by omega) hqb ⟨A,c2,M2,hI2,hfA,hmb2,hbo,hBk⟩ ⟨t1,t4,t6,t7,rfl,rfl,by first | exact t46 | (rw[← huw]; exact t46),t47,t48,rfl,rfl,rfl⟩ (fun T' H' hF u1 u4 u6 u7 u46 u47 u48=>?_)
 obtain ⟨A9,c9,M9,hI9,hf9,hm9,hb9,hk9⟩:=hF
 simp (disch:=omega) only [↓wr,seval,wq,ah,ag,ak,aa,ab,af,ai,ae,u1,u4,u6,u7,u46,u47,u48]
 refine aN hk (by omega) ⟨⟨A9,c9,M9,by rw[← JY]; exact hI9.Sw,fun z hz=>?_,hm9,hb9,by rw[← JY]; exact hk9⟩,u1,u4,u6,u7,u46,u47,by first | rfl | (congr 2)⟩
 show _=jD g a (x+1) z
 unfold jD
 rw[U4,UM]
 exact hf9 z hz
set_option maxHeartbeats 16000000 in
theorem Sh {H0:View} {W s q k n:Nat} {f0 f1 f2 f3 f4 f5 f6 f7 f9 u:V} {Sl:List BV} {l:List Nat} (hW:H0 W=.arr 10 [[f0,f1,f2,f3,f4,f5,f6,f7,.sl s 0 n 1,f9]]) (hs:H0 s=.arr 1 (bY Sl)) (hsl:Sl.length=n) (hu:bf H0 u 1 (fa l)) (hl:∀ x∈l,x < n) (hll:l.length≤100000) (hq:H0 q=.dead)
  {T:Env} {Q:Exit→Env→View→Prop} {v:cE (T,H0.set q (.arr 2 [[gi k,gw 0]]),Q)}
  (ht:T 6=.ptr W 0 0∧T 17=.ptr q 0 0∧T 108=u∧T 109=gi l.length∧T 110=gi 0)
  (hQ:∀ (T':Env),(∀ j,j < 19→T' j=T j)→T' 13=T 13→T' 14=T 14→T' 88=T 88→T' 89=T 89→T' 94=T 94→T' 95=T 95→Q (.exit 8) T' (H0.set q (.arr 2 [[gi k,gw (ma (sF Sl) l)]]))):bc Tryz.prog uq T (H0.set q (.arr 2 [[gi k,gw 0]])) Q v:=by
 obtain ⟨t6,t17,t108,t109,t110⟩:=ht
 have n1:W≠q:=fun e=>by rw[e,hq] at hW; simp at hW
 have n2:s≠q:=fun e=>by rw[e,hq] at hs; simp at hs
 refine bc.up l.length (fun j T' H'=>H0.set q (.arr 2 [[gi k,gw (ma (sF Sl) (l.take j))]])=H'∧(∀ j,j < 19→T' j=T j)∧T' 88=T 88∧T' 89=T 89∧T' 94=T 94∧T' 95=T 95∧T' 108=u∧T' 109=gi l.length∧T' 110=gi j) ⟨rfl,fun _ _=>rfl,rfl,rfl,rfl,rfl,t108,t109,t110⟩ ?_
 clear t108 t109 t110
 rintro j m T2 _ hm ⟨rfl,ht,t88,t89,t94,t95,t108,t109,t110⟩
 have u6:T2 6=.ptr W 0 0:=by rw[ht 6 (by omega)]; exact t6
 have u17:T2 17=.ptr q 0 0:=by rw[ht 17 (by omega)]; exact t17
 simp (disch:=omega) only [↓wr,seval,wq,ah,ag,ak,aa,ab,af,ai,ae,uq,t108,t109,t110]
 refine av.dec (fun hc=>?_) (fun hc=>?_)
 rotate_left
 ·simp (disch:=omega) only [↓wr,seval,wq,ah,ag,ak,aa,ab,af,ai,ae]
  rw[Uo (by omega)]
  exact hQ _ (fun j hj=>by
   have:=ht j hj
   rw[← this]
   simp only[pW,Env.put]
   rw[T6 (by omega),T6 (by omega)]) (ht 13 (by omega)) (ht 14 (by omega)) t88 t89 t94 t95
 have hy:l[j]?=some (l[j]'(by omega)):=T4 (by omega)
 have hyl:=hl _ (Ud (show j < l.length by omega))
 have htk:l.take (j+1)=l.take j ++ [l[j]'(by omega)]:=by rw[Uw,hy]; rfl
 generalize l[j]'(by omega)=y at hy hyl htk
 obtain ⟨id,hui,hid⟩:=hu.sl (by simp; omega)
 rw[Uc] at hui
 have n3:id≠q:=fun e=>by rw[e,hq] at hid; simp at hid
 simp (disch:=omega) only [↓wr,seval,wq,ah,ag,ak,aa,ab,af,ai,ae,t108,t109,t110,u6,u17,hui,hid,Af hy,n1,n2,n3,hW,hs,oG (l:=Sl) (i:=y) (by omega),qO]
 refine ⟨by omega,by omega,hyl,by omega,?_⟩
 rw[set_set]
 have ho:ma (sF Sl) (l.take (j+1))=ma (sF Sl) (l.take j) ||| sF Sl y:=by
  rw[htk]; unfold ma; rw[UM]; rfl
 refine aN hm (by omega) ⟨by rw[ho],fun i hi=>?_,t88,t89,t94,t95,by first | exact t108 | (rw[← hui]; exact t108),t109,by first | rfl | (congr 2)⟩
 rw[← ht i hi]
 simp only[pW,Env.put]
 repeat rw[T6 (by omega)]
theorem RK {g:aw} {a:List aT} {n k i:Nat} (hk:k < g.rules.length):bB g a n 0 ((i:Int),(k:Int))=iC g a n k i:=by
 unfold bB
 rw[T9 ⟨by simp only; omega,by simp only; omega,by simp only; omega⟩,T6 (fun h=>by have:=h.1; simp only at this; omega),VB]
 simp
set_option maxHeartbeats 16000000 in
theorem Pf {g:aw} {a:List aT} (hA:ca g a) (ha:a.length≤300) {W qn cM bq al c5:Nat} {M M5:bV (Int × Int)} {uw:V} {s e:Nat} {Sl:List BV} {A:List (V × List Nat)} {i:Nat} (hi:i < a.length) (hqb:qn≠bq) (hk5:pX M5 (bB g a (ba a).length 0)) {fR:Nat→List eP}
  {T:Env} {H:View} {Q:Exit→Env→View→Prop} {v:cE (T,H,Q)}
  (hJ:∃ R:JK,cR g a H W qn cM M uw s e (ba a) Sl A ((.sl al 0 a.length 1,1,bU R) :: (oK R ++ iE (bB g a (ba a).length 0) M5))∧R.length=a.length∧(∀ y,y < a.length→(R.getD y (.any,[])).2=if y=i then [] else fR y)∧H bq=.map (bN eK M5) c5)
  (ht:T 1=.aO (au g) 0∧T 6=.ptr W 0 0∧T 7=.mp bq∧T 13=.sl al 0 a.length 1∧T 14=gi i∧T 88=gi a.length∧T 89=gi i∧T 94=gi g.rules.length∧T 95=gi 0)
  (hQ:∀ (T':Env) (H':View),(∃ R:JK,cR g a H' W qn cM M uw s e (ba a) Sl A ((.sl al 0 a.length 1,1,bU R) :: (oK R ++ iE (bB g a (ba a).length 0) M5))∧R.length=a.length∧(∀ y,y < a.length→(R.getD y (.any,[])).2=if y=i then zd g a (sF Sl) i else fR y)∧H' bq=.map (bN eK M5) c5) →
   T' 1=.aO (au g) 0→T' 6=.ptr W 0 0→T' 7=.mp bq→T' 13=.sl al 0 a.length 1→T' 88=gi a.length→T' 89=gi i→Q (.exit 6) T' H'):bc Tryz.prog ub T H Q v:=by
 have hn1:=pK hA
 have hnl:(ba a).length≤40 * a.length:=ll hA.ok.bm a.length
 have hru:=hA.cD.rules
 obtain ⟨t1,t6,t7,t13,t14,t88,t89,t94,t95⟩:=ht
 refine bc.up g.rules.length (fun k T H'=>(∃ R:JK,cR g a H' W qn cM M uw s e (ba a) Sl A ((.sl al 0 a.length 1,1,bU R) :: (oK R ++ iE (bB g a (ba a).length 0) M5))∧R.length=a.length∧(∀ y,y < a.length→(R.getD y (.any,[])).2=if y=i then (List.range k).filterMap (iQ g a (sF Sl) i) else fR y)∧H' bq=.map (bN eK M5) c5) ∧
  T 1=.aO (au g) 0∧T 6=.ptr W 0 0∧T 7=.mp bq∧T 13=.sl al 0 a.length 1∧T 14=gi i∧T 88=gi a.length∧T 89=gi i∧T 94=gi g.rules.length∧T 95=gi k) ⟨by simpa using hJ,t1,t6,t7,t13,t14,t88,t89,t94,t95⟩ ?_
 clear hJ t1 t6 t7 t13 t14 t88 t89 t94 t95
 rintro k m T H1 hm ⟨⟨R,hI,hRl,hR,hmb⟩,t1,t6,t7,t13,t14,t88,t89,t94,t95⟩
 simp (disch:=omega) only [↓wr,seval,wq,ah,ag,ak,aa,ab,af,ai,ae,ub,t94,t95]
 refine av.dec (fun hc=>?_) (fun hc=>?_)
 rotate_left
 ·have hkk:k=g.rules.length:=by omega
  subst hkk
  simp (disch:=omega) only [↓wr,seval,wq,ah,ag,ak,aa,ab,af,ai,ae]
  exact hQ _ _ ⟨R,hI,hRl,hR,hmb⟩ t1 t6 t7 t13 t88 t89
 have hkl:k < g.rules.length:=by omega
 have hfB:=RK (g:=g) (a:=a) (n:=(ba a).length) (k:=k) (i:=i) hkl
 have hu:bf H1 ((getM M5 ((i:Int),(k:Int))).getD (.emp 1)) 1 (fa (iC g a (ba a).length k i)):=by
  cases hg:getM M5 ((i:Int),(k:Int)) with
  | none =>
   have:bB g a (ba a).length 0 ((i:Int),(k:Int))=[]:=U7 fun hne=>hk5.all _ hne hg
   rw[hfB] at this
   rw[this]; exact .nil
  | some v =>
   obtain ⟨P,Qm,b,rfl,_⟩:=vE hg
   have:=hI.own.1 (v,1,fa (bB g a (ba a).length 0 ((i:Int),(k:Int)))) (by simp[iE])
   rw[hfB] at this
   exact this
 generalize hue:(getM M5 ((i:Int),(k:Int))).getD (.emp 1)=u at hu
 have hul:cG u=some (iC g a (ba a).length k i).length:=by rw[hu.len,Uc]
 have hbl:(iC g a (ba a).length k i).length≤100000:=by
  unfold iC
  have:=UW (fun x=>decide ((aB g k).left=(di a x).2∧jV a (di a x).1.toNat (aB g k).right=i)) (List.range (ba a).length)
  rw[List.length_range] at this
  omega
 have hbn:∀ x∈iC g a (ba a).length k i,x < (ba a).length:=fun x hx=>by
  unfold iC at hx
  exact UR.1 (UQ.1 hx).1
 have hmt:dz Tryz.prog 114=some (119,43):=by kernel_rfl
 have hz:zeroV Tryz.prog 43=some (.emp 1):=by kernel_rfl
 simp (disch:=omega) only [↓wr,seval,wq,ah,ag,ak,aa,ab,af,ai,ae,t7,t14,t95]
 refine Fo (kv:=eK) (kt:=119) (et:=43) (z:=.emp 1) (id:=bq) (c:=c5) (m:=M5) (k:=((i:Int),(k:Int))) hmt hz (zr JG) (by first | rfl | simp (disch:=omega) only [↓wr,seval,wq,ah,ag,ak,aa,ab,af,ai,ae]) (by first | rfl | (simp (disch:=omega) only [↓wr,seval,wq,ah,ag,ak,aa,ab,af,ai,ae]; rfl)) hmb ?_
 rw[hue]
 have hst:(List.range (k+1)).filterMap (iQ g a (sF Sl) i)=(List.range k).filterMap (iQ g a (sF Sl) i) ++ (iQ g a (sF Sl) i k).toList:=by
  rw[U4,List.filterMap_append]
  congr 1
 generalize hbk:iC g a (ba a).length k i=bl at *
 simp (disch:=omega) only [↓wr,seval,wq,ah,ag,ak,aa,ab,af,ai,ae,hul]
 refine av.eq (fun h0=>?_) (fun h0=>?_)
 ·simp (disch:=omega) only [↓wr,seval,wq,ah,ag,ak,aa,ab,af,ai,ae,t1,t6,t7,t13,t14,t88,t89,t94,t95]
  have hnil:bl=[]:=Vn.1 (by omega)
  have hno:iQ g a (sF Sl) i k=none:=by unfold iQ; rw[hbk,T9 hnil]
  refine aN hm (by omega) ⟨⟨R,hI,hRl,fun y hy=>?_,hmb⟩,t1,t6,t7,t13,t14,t88,t89,t94,by first | rfl | (congr 2)⟩
  rw[hst,hno]
  simpa using hR y hy
 have hso:iQ g a (sF Sl) i k=some ⟨k,ma (sF Sl) bl⟩:=by unfold iQ; rw[hbk,T6 (fun e=>h0 (by rw[e]; rfl))]
 simp (disch:=omega) only [↓wr,seval,wq,ah,ag,ak,aa,ab,af,ai,ae,t6,hul]
 intro q hq
 rw[set_set]
 obtain ⟨hW,_,hs,he,n1,n2,n3⟩:=hI.at hn1
 refine Sh hW hs hI.sl hu hbn hbl hq ⟨t6,rfl,rfl,rfl,rfl⟩ (fun T' hT' u13 u14 u88 u89 u94 u95=>?_)
 have v1:T' 1=.aO (au g) 0:=(hT' 1 (by omega)).trans t1
 have v6:T' 6=.ptr W 0 0:=(hT' 6 (by omega)).trans t6
 have v7:T' 7=.mp bq:=(hT' 7 (by omega)).trans t7
 have v13:T' 13=.sl al 0 a.length 1:=u13.trans t13
 have v14:T' 14=gi i:=u14.trans t14
 have v17:T' 17=.ptr q 0 0:=(hT' 17 (by omega)).trans rfl
 have v88:T' 88=gi a.length:=u88.trans t88
 have v89:T' 89=gi i:=u89.trans t89
 have v94:T' 94=gi g.rules.length:=u94.trans t94
 have v95:T' 95=gi k:=u95.trans t95
 clear hT' u13 u14 u88 u89 u94 u95 t1 t6 t7 t13 t14 t88 t89 t94 t95 hW hs he n1 n2 n3
 have hI2:=hI.fresh hq (o:=.arr 2 [[gi (k:Int),gw (ma (sF Sl) bl)]])
 have hmb2:(H1.set q (.arr 2 [[gi (k:Int),gw (ma (sF Sl) bl)]])) bq=.map (bN eK M5) c5:=by
  simp only[View.set]; rw[T6 (fun e=>by rw[← e,hmb] at hq; simp at hq)]; exact hmb
 have hq2:(H1.set q (.arr 2 [[gi (k:Int),gw (ma (sF Sl) bl)]])) q=.arr 2 [[gi (k:Int),gw (ma (sF Sl) bl)]]:=by simp[View.set]
 generalize H1.set q (.arr 2 [[gi (k:Int),gw (ma (sF Sl) bl)]])=H2 at hI2 hmb2 hq2 ⊢
 clear hI hmb hq hu
 obtain ⟨R1,⟨ui,li⟩,R2,rfl,hR1,_⟩:=mo (l:=R) (i:=i) (by omega)
 have hlo:oK (R1 ++ (ui,li) :: R2)=oK R1 ++ (ui,2,mW li) :: oK R2:=by simp[oK]
 have hown:=hI2.own
 rw[hlo] at hown
 have hrl:(bU (R1 ++ (ui,li) :: R2)).length=a.length:=by rw[bU,Uc]; exact hRl
 have hal:H2 al=.arr 1 (bU (R1 ++ (ui,li) :: R2)):=by
  have:=hI2.own.1 (.sl al 0 a.length 1,1,bU (R1 ++ (ui,li) :: R2)) (by simp)
  rcases this with ⟨_,kk,h⟩ | ⟨w,h1,h2⟩
  ·simp at h
  ·simp only[V.sl.injEq] at h1
   rw[h1.1]; exact h2
 have hri:(bU (R1 ++ (ui,li) :: R2)).getD i []=[ui]:=by rw[← hR1]; simp[bU]
 have hli:li=(List.range k).filterMap (iQ g a (sF Sl) i):=by
  have:=hR i hi
  rw[T9 rfl] at this
  have e:((R1 ++ (ui,li) :: R2).getD i (V.any,([]:List eP))).2=li:=by rw[← hR1]; simp
  rw[e] at this
  exact this
 have hlil:li.length≤40:=by
  rw[hli]
  have:=List.length_filterMap_le (iQ g a (sF Sl) i) (List.range k)
  rw[List.length_range] at this
  omega
 simp (disch:=omega) only [↓wr,seval,wq,ah,ag,ak,aa,ab,af,ai,ae,v13,v14,v17,hal,hri,hq2]
 refine ⟨hi,by omega,fun q9 hq9=>?_⟩
 have hel:bX (H2.set q9 (.arr 2 [[gi (k:Int),gw (ma (sF Sl) bl)]])) (.sl q9 0 1 2)=some ([[gi (k:Int),gw (ma (sF Sl) bl)]],[q9]):=by simp[bX,View.set]
 simp (disch:=omega) only [↓wr,seval,wq,ah,ag,ak,aa,ab,af,ai,ae,hel]
 have lx:∀ (a b c d y r:cF) (X R1 R2 K:List cF),a :: b :: c :: d :: (X ++ y :: ((R1 ++ r :: R2) ++ K))=(a :: b :: c :: d :: (X ++ y :: R1)) ++ r :: (R2 ++ K):=fun a b c d y r X R1 R2 K=>by simp
 have ly:∀ (a b c d y:cF) (X K:List cF),a :: b :: c :: d :: (X ++ y :: K)=(a :: b :: c :: d :: X) ++ y :: K:=fun a b c d y X K=>by simp
 rw[lx] at hown
 have hown2:=hown.perm UZ
 refine c6 (hown2.fresh hq9) (by simp[aX]) (by unfold aK; simp[mW]; omega) (by unfold aK; simp[mW]; omega) ?_
 intro u2 H9 o9 l9
 have hal9:H9 al=.arr 1 (bU (R1 ++ (ui,li) :: R2)):=by
  have:=o9.1 (.sl al 0 a.length 1,1,bU (R1 ++ (ui,li) :: R2)) (by simp)
  rcases this with ⟨_,kk,h⟩ | ⟨w,h1,h2⟩
  ·simp at h
  ·simp only[V.sl.injEq] at h1
   rw[h1.1]; exact h2
 have hm9:=l9.map (hown2.fresh hq9).head (b:=bq) (c:=c5) (es:=bN eK M5) (by
  simp only[View.set]; rw[T6 (fun e=>by rw[← e,hmb2] at hq9; simp at hq9)]; exact hmb2)
 have hmq9:=l9.map (hown2.fresh hq9).head (b:=qn) (c:=cM) (es:=bN eK M) (by
  have:=hI2.mp
  simp only[View.set]; rw[T6 (fun e=>by rw[← e,this] at hq9; simp at hq9)]; exact this)
 have hse:(bU (R1 ++ (ui,li) :: R2)).set i [u2]=bU (R1 ++ (u2,li ++ [⟨k,ma (sF Sl) bl⟩]) :: R2):=by rw[← hR1]; simp[bU]
 have o10:=o9.perm UZ.symm
 rw[← lx,ly] at o10
 have o11:=(o10.perm UZ).put (es':=bU (R1 ++ (u2,li ++ [(⟨k,ma (sF Sl) bl⟩:eP)]) :: R2)) (by simp[bU]) (by rw[hrl])
 have o12:=o11.perm UZ.symm
 rw[← ly] at o12
 simp (disch:=omega) only [↓wr,seval,wq,ah,ag,ak,aa,ab,af,ai,ae,v1,v6,v7,v13,v14,v88,v89,v94,v95,hal9,hri,o9.head.cells,o9.head.jt,hse]
 refine ⟨hi,by omega,?_⟩
 refine aN hm (by omega) ⟨⟨R1 ++ (u2,li ++ [⟨k,ma (sF Sl) bl⟩]) :: R2,⟨?_,?_,hI2.bo,hI2.num,hI2.sl,hI2.al⟩,by simpa using hRl,fun y hy=>?_,?_⟩,v1,v6,v7,v13,v14,v88,v89,v94,by first | rfl | (congr 2)⟩
 ·rw[show oK (R1 ++ (u2,li ++ [(⟨k,ma (sF Sl) bl⟩:eP)]) :: R2)=oK R1 ++ (u2,2,mW li ++ [[gi (k:Int),gw (ma (sF Sl) bl)]]) :: oK R2 by simp[oK,mW,B7]]
  exact o12
 ·show (H9.set al _) qn=_
  simp only[View.set]; rw[T6 (fun e=>by rw[← e,hmq9] at hal9; simp at hal9)]; exact hmq9
 ·by_cases e:y=i
  ·rw[T9 e,hst,hso,e,← hR1]
   simp[hli,hR1]
  ·rw[AL (y:=(ui,li)) (by rw[hR1]; exact e),T6 e]
   have:=hR y hy
   rw[T6 e] at this
   exact this
 ·show (H9.set al _) bq=_
  simp only[View.set]; rw[T6 (fun e=>by rw[← e,hm9] at hal9; simp at hal9)]; exact hm9
theorem cR.Qd {g:aw} {a:List aT} {H:View} {W qn cM:Nat} {M:bV (Int × Int)} {uw:V} {s e:Nat} {ws:List (Int × Int)} {Sl:List BV} {A:List (V × List Nat)} {y:cF} {K:List cF} (h:cR g a H W qn cM M uw s e ws Sl A (y :: K)):∀ n:Nat,cR g a H W qn cM M uw s e ws Sl A (y :: (oK (List.replicate n (.emp 1,[])) ++ K))
 | 0=>by simpa [oK] using h
 | n+1=>by
  have ih:=cR.Qd h n
  have lz:∀ (a b c d y r:cF) (X K:List cF),a :: b :: c :: d :: (X ++ (y :: r :: K))=(a :: b :: c :: d :: (X ++ [y])) ++ r :: K:=fun a b c d y r X K=>by simp
  have lw:∀ (a b c d y:cF) (X K:List cF),a :: b :: c :: d :: (X ++ (y :: K))=(a :: b :: c :: d :: (X ++ [y])) ++ K:=fun a b c d y X K=>by simp
  have ho:=ih.own.emp (k:=1) (sz:=2)
  rw[lw] at ho
  have ho2:=ho.perm UZ.symm
  rw[← lz] at ho2
  refine ⟨?_,ih.mp,ih.bo,ih.num,ih.sl,ih.al⟩
  rw[show oK (List.replicate (n+1) ((.emp 1,[]):V × List eP)) ++ K=(.emp 1,2,[]) :: (oK (List.replicate n (.emp 1,[])) ++ K) by simp[oK,mW,List.replicate_succ]]
  exact ho2
set_option maxHeartbeats 16000000 in
theorem NI (g:aw) (hg:g.Ok) (hsm:g.Small):cX Tryz.prog 33 [.agg (au g)] (.bE [lQ (Fv g).1,gi (Fv g).2]):=by
 refine cX.of (ef g) ?_
 have hB:=(LG g hg hsm).pure
 refine aC.of mixed Gl ?_
 simp only[au,encS] at hB
 simp (disch:=omega) only [↓wr,seval,wq,ah,ag,ak,aa,ab,af,ai,ae,EM,au,encS]
 refine aE.pure hB (by kernel_rfl) ?_
 unfold Fv
 simp (disch:=omega) only [↓wr,seval,wq,ah,ag,ak,aa,ab,af,ai,ae]
 refine av.ne (fun h=>?_) (fun h=>?_)
 ·simp (disch:=omega) only [↓wr,seval,wq,ah,ag,ak,aa,ab,af,ai,ae]
  intro h' _
  rw[T6 h]
  exact nA (.emp _)
 rw[T9 h]
 have hr:isRed g=true:=by
  rcases yF g with ⟨_,hr⟩ | ⟨h2,hr⟩ | ⟨h2,hr⟩
  ·exact hr
  ·exact hr
  ·rw[h2] at h; simp at h
 have hr9:=fv hr
 have hf:=nO hr
 obtain ⟨o1,o2,o3⟩:=GK hf h
 have hA:ca g (cy g).1:=⟨hf,o1,Bx hf h,CB hf h,o2⟩
 generalize (cy g).1=a at *
 have hn1:=pK hA
 have hnl:(ba a).length≤40 * a.length:=ll hA.ok.bm a.length
 have hwv:=Pc g hg hsm a o3 (fun s hs=>⟨o1.bm s hs,o1.sym s hs⟩) (x8 hA) hn1
 simp only[au,encS] at hwv
 simp (disch:=omega) only [↓wr,seval,wq,ah,ag,ak,aa,ab,af,ai,ae,au,encS]
 refine aE.ez ((hwv _).mono ?_)
 rintro r H1 ⟨W,qn,cM,M,uw,s,e,rfl,hI⟩
 simp (disch:=omega) only [↓wr,seval,wq,ah,ag,ak,aa,ab,af,ai,ae]
 refine aE.ez ((Q2 hA hr9 o3 hI).mono ?_)
 rintro r H2 ⟨e2,Sl,A,hI2,hrd⟩
 obtain ⟨hW,⟨w,huw,hw⟩,hs,he,n1,n2,n3⟩:=hI2.at hn1
 have hul:cG uw=some (ba a).length:=by rw[huw]; rfl
 have hWd:∀ q,H2 q=.dead→W≠q:=fun q hq e=>by rw[e,hq] at hW; simp at hW
 simp (disch:=omega) only [↓wr,seval,wq,ah,ag,ak,aa,ab,af,ai,ae,hW,hul]
 refine ⟨⟨by omega,by unfold aK; omega,by unfold aK; omega⟩,fun h0=>by omega,fun _ e3 he3=>?_⟩
 have w1:=hWd e3 he3
 simp (disch:=omega) only [↓wr,seval,wq,ah,ag,ak,aa,ab,af,ai,ae,w1,hul]
 intro bq hbq
 obtain ⟨b1,hbq⟩:=iq hbq
 obtain ⟨b2,hbq⟩:=iq hbq
 simp (disch:=omega) only [↓wr,seval,wq,ah,ag,ak,aa,ab,af,ai,ae,Ne.symm b1,hul]
 have hI3:=hI2.Ql he3
 have hbq3:((H2.set e3 (.arr 1 (List.replicate (ba a).length [V.emp 1]))).set W (.arr 10 [[V.aL (g.az.map cg),.aL (g.ax.map fun s=>[gs s]),.aL (g.rules.map aP),gi g.start,bO a,bI (aA g false),.mp qn,uw,.sl s 0 (ba a).length 1,.sl e3 0 (ba a).length 1]])) bq=.dead:=by
  simp only[View.set]; rw[T6 b1,T6 b2]; exact hbq
 generalize ((H2.set e3 (.arr 1 (List.replicate (ba a).length [V.emp 1]))).set W (.arr 10 [[V.aL (g.az.map cg),.aL (g.ax.map fun s=>[gs s]),.aL (g.rules.map aP),gi g.start,bO a,bI (aA g false),.mp qn,uw,.sl s 0 (ba a).length 1,.sl e3 0 (ba a).length 1]]))=H3 at hI3 hbq3 ⊢
 have hqb:qn≠bq:=fun e=>by have:=hI3.mp; rw[e,hbq3] at this; simp at this
 have hI4:=hI3.fresh hbq3 (o:=.map [] 0)
 have hmb4:(H3.set bq (.map [] 0)) bq=.map (bN eK []) 0:=by simp[View.set,bN]
 generalize H3.set bq (.map [] 0)=H4 at hI4 hmb4 ⊢
 clear hI hI2 hI3 hbq3 hbq he3 hW hw hs he n1 n2 n3 hWd w1 b1 b2
 refine of_walks hA hr9 o3 hqb ⟨_,0,[],hI4,fun z hz=>by simp[T0,hz,jD],hmb4,⟨by simp,by simp⟩,⟨by simp,fun k hk=>absurd (by rw[Q0]) hk⟩⟩ ⟨rfl,rfl,rfl,rfl,rfl,rfl,rfl⟩ (fun T' H' hF u1 u4 u6 u7=>?_)
 obtain ⟨A5,c5,M5,hI5,hf5,hm5,hb5,hk5⟩:=hF
 clear hI4 hmb4
 obtain ⟨-,-,hs5,-⟩:=hI5.at hn1
 have hE2:∀ x,x < (ba a).length→(jD g a (ba a).length x).length≤1000000000∧∀ y∈jD g a (ba a).length x,y < (ba a).length:=fun x hx=>⟨U0 (AJ hf _ _) (by omega),fun y hy=>((Az _).1 hy).1⟩
 have hCC:=hI5.Ro hn1 (E:=jD g a (ba a).length) hf5 hE2
 simp (disch:=omega) only [↓wr,seval,wq,ah,ag,ak,aa,ab,af,ai,ae,u6]
 refine aE.ez ((EB hCC hn1 (by omega) Sl hs5 hI5.sl).mono ?_)
 rintro r H6 ⟨Sl',k1,k2,k3,k4⟩
 have hI6:=(hI5.xC (Sl':=Sl') k1).stay (H':=H6) fun id hid=>by
  simp only[View.set] at hid ⊢
  by_cases e:id=s
  ·rw[T9 e,e]; exact k2
  ·rw[T6 e] at hid ⊢
   exact k4 id hid e
 have hm6:H6 bq=.map (bN eK M5) c5:=by
  rw[k4 bq (by rw[hm5]; simp) (fun e=>by rw[e,hs5] at hm5; simp at hm5)]; exact hm5
 have hS:∀ (x p t:Nat) (B:Int),(ba a)[x]?=some ((p:Int),B)→((sF Sl' x).getLsbD t=true↔qR g a p B t):=fun x p t B hx =>
  (k3 x t (Uj.1 hx).1).trans (PA hA hrd hx)
 simp (disch:=omega) only [↓wr,seval,wq,ah,ag,ak,aa,ab,af,ai,ae,u4,bO]
 refine ⟨⟨Ug _,by unfold aK; omega,by unfold aK; omega⟩,fun h0=>by omega,fun _ al hal=>?_⟩
 have hI7:=hI6.RJ hal 1 (List.replicate a.length [V.emp 1])
 rw[VT] at hI7
 have hI8:=hI7.Qd a.length
 rw[show List.replicate a.length [V.emp 1]=bU (List.replicate a.length ((.emp 1,[]):V × List eP)) by simp[bU]] at hI8
 have hm8:(H6.set al (.arr 1 (List.replicate a.length [V.emp 1]))) bq=.map (bN eK M5) c5:=by
  simp only[View.set]; rw[T6 (fun e=>by rw[← e,hm6] at hal; simp at hal)]; exact hm6
 rw[show List.replicate a.length [V.emp 1]=bU (List.replicate a.length ((.emp 1,[]):V × List eP)) by simp[bU]] at hm8
 rw[show List.replicate a.length [V.emp 1]=bU (List.replicate a.length ((.emp 1,[]):V × List eP)) by simp[bU]]
 generalize H6.set al (.arr 1 (bU (List.replicate a.length ((.emp 1,[]):V × List eP))))=H8 at hI8 hm8 ⊢
 try simp (disch:=omega) only [↓wr,seval,wq,ah,ag,ak,aa,ab,af,ai,ae]
 refine bc.up a.length (fun i T H'=>(∃ R:JK,cR g a H' W qn cM M uw s e3 (ba a) Sl' A5 ((.sl al 0 a.length 1,1,bU R) :: (oK R ++ iE (bB g a (ba a).length 0) M5))∧R.length=a.length∧(∀ y,y < a.length→(R.getD y (.any,[])).2=if y < i then zd g a (sF Sl') y else [])∧H' bq=.map (bN eK M5) c5) ∧
  T 1=.aO (au g) 0∧T 6=.ptr W 0 0∧T 7=.mp bq∧T 13=.sl al 0 a.length 1∧T 88=gi a.length∧T 89=gi i) ⟨⟨_,hI8,by simp,fun y hy=>by simp[T0,hy],hm8⟩,u1,u6,u7,rfl,rfl,rfl⟩ ?_
 clear hI6 hI7 hI8 hm8 u1 u4 u6 u7
 rintro i k T H9 hk ⟨⟨R,hI9,hRl,hR,hm9⟩,t1,t6,t7,t13,t88,t89⟩
 simp (disch:=omega) only [↓wr,seval,wq,ah,ag,ak,aa,ab,af,ai,ae,zU,t88,t89]
 refine av.dec (fun hc=>?_) (fun hc=>?_)
 rotate_left
 ·simp (disch:=omega) only [↓wr,seval,wq,ah,ag,ak,aa,ab,af,ai,ae,t13]
  rintro h' rfl
  have hal9:=hI9.own.1 (.sl al 0 a.length 1,1,bU R) (by simp)
  have hLk:R.map (·.2)=s7 g a:=by
   unfold s7
   refine List.ext_getElem (by simp[hRl]) fun y h1 h2=>?_
   rw[Uc] at h1
   have:=hR y (by omega)
   rw[T9 (by omega),OC hA hr hS (by omega)] at this
   rw[List.getElem_map,List.getElem_map,List.getElem_range,← this]
   simp[T0,h1]
  rw[← hLk]
  exact nA (QV hal9 fun x hx=>hI9.own.1 (x.1,2,mW x.2) (by
   have:(x.1,2,mW x.2)∈oK R:=Ur.2 ⟨x,hx,rfl⟩
   simp only[Uk,Uy,this,true_or,or_true]))
 simp (disch:=omega) only [↓wr,seval,wq,ah,ag,ak,aa,ab,af,ai,ae,t1,t88,t89,au,encS]
 refine Pf hA o3 (i:=i) (by omega) hqb hk5 (fR:=fun y=>if y < i then zd g a (sF Sl') y else []) ⟨R,hI9,hRl,fun y hy=>?_,hm9⟩ ⟨t1,t6,t7,t13,rfl,t88,t89,rfl,rfl⟩ (fun T' H' hF v1 v6 v7 v13 v88 v89=>?_)
 ·rw[hR y hy]
  by_cases e:y=i
  ·rw[T9 e,T6 (by omega)]
  ·rw[T6 e]
 ·obtain ⟨R9,hI10,hRl9,hR9,hm10⟩:=hF
  simp (disch:=omega) only [↓wr,seval,wq,ah,ag,ak,aa,ab,af,ai,ae,v1,v6,v7,v13,v88,v89]
  refine aN hk (by omega) ⟨⟨R9,hI10,hRl9,fun y hy=>?_,hm10⟩,v1,v6,v7,v13,v88,by first | rfl | (congr 2)⟩
  rw[hR9 y hy]
  by_cases e:y=i
  ·rw[T9 e,T9 (by omega),e]
  ·rw[T6 e]
   by_cases e2:y < i
   ·rw[T9 e2,T9 (by omega)]
   ·rw[T6 e2,T6 (by omega)]
def nW:SC :=
 .seq (.seq (ao [aj 11 5,aj 12 0,aV 13 12,bg 14 .lss 11 13]) <|
 .cond (.tmp 14) (.skip) (.exit 0)) <|
 .seq (.block 1 (.seq (ao [aj 17 0,aj 18 5,aR 19 1 17 18,ay 20 19,aj 21 1,aj 22 5,aR 23 1 21 22,ay 24 23,bg 25 .neq 20 24]) <|
 .cond (.tmp 25) (.seq (ao [bH 4 false]) <|
 .ret) (.skip))) <|
 ao [aj 15 5,aQ 16 .add 15 1,aj 5 16]
def qH:SF:=⟨.seq (ao [bH 4 false]) <|
 .seq (.seq (ao [aj 6 0,aV 7 6,aj 8 1,aV 9 8,bg 10 .neq 7 9]) <|
 .cond (.tmp 10) (.seq (ao [bH 4 false]) <|
 .ret) (.skip)) <|
 .seq (.seq (ao [bj 5 0]) <|
 .block 0 (.loop nW)) <|
 .seq (ao [bH 4 true]) <|
 .ret,
 [.tmp 4],26⟩
theorem uW:aU Tryz.prog 41 []=some qH:=by kernel_rfl
def jJ:SC :=
 .seq (.seq (ao [aj 60 11,aj 61 9,aV 62 61,bg 63 .lss 60 62]) <|
 .cond (.tmp 63) (.skip) (.exit 2)) <|
 .seq (.block 3 (.seq (ao [bp 67 4 1,aj 68 9,aj 69 11,aR 70 2 68 69,bp 71 2 70,bD 72 18 [67,71],aj 66 72,gP 73 0 66,gP 74 1 66,aj 12 73,aj 13 74]) <|
 .seq (.seq (.region false [⟨none,[aj 75 13,aj 76 75]⟩,⟨(some (76,false)),[aj 77 9,aj 78 11,aR 79 2 77 78,aD 80 0 79,ay 81 80,aQ 82 .lss 81 0]⟩,⟨none,[cU 83 76 82]⟩]) <|
 .cond (.tmp 83) (.exit 3) (.skip)) <|
 .seq (.seq (.region false [⟨none,[aj 84 10,aj 85 3,aj 86 8,aR 87 1 85 86,ay 88 87,aV 89 88,bg 90 .geq 84 89,aj 91 90]⟩,⟨(some (91,false)),[aj 92 3,aj 93 8,aR 94 1 92 93,ay 95 94,aj 96 10,aR 97 2 95 96,aD 98 0 97,ay 99 98,aj 100 9,aj 101 11,aR 102 2 100 101,aD 103 0 102,ay 104 103,bg 105 .neq 99 104]⟩,⟨none,[cU 106 91 105]⟩]) <|
 .cond (.tmp 106) (.seq (ao [bH 2 false]) <|
 .ret) (.skip)) <|
 .seq (ao [aj 107 7,aD 108 2 1,ay 109 108,aj 110 9,aj 111 11,aR 112 2 110 111,aD 113 0 112,ay 114 113,aR 115 3 109 114,aD 116 0 115,ay 117 116,aj 118 7,aD 119 2 1,ay 120 119,aj 121 9,aj 122 11,aR 123 2 121 122,aD 124 0 123,ay 125 124,aR 126 3 120 125,aD 127 0 126,ay 128 127,aR 129 1 118 128,ay 130 129,aj 131 3,aj 132 8,aR 133 1 131 132,ay 134 133,aj 135 10,aR 136 2 134 135,aD 137 1 136,ay 138 137,bg 139 .or 130 138,aR 140 1 107 117,(none,.op (.store 1 (.tmp 140) (.tmp 139)))]) <|
 ao [aj 141 10,aQ 142 .add 141 1,aj 10 142])) <|
 ao [aj 64 11,aQ 65 .add 64 1,aj 11 65]
def gS:SC :=
 .seq (.seq (ao [aj 47 8,aj 48 5,aV 49 48,bg 50 .lss 47 49]) <|
 .cond (.tmp 50) (.skip) (.exit 0)) <|
 .seq (.block 1 (.seq (ao [bp 53 4 1,aj 54 5,aj 55 8,aR 56 2 54 55,aD 57 0 56,ay 58 57,bD 59 23 [53,58],aj 9 59]) <|
 .seq (ao [bj 10 0]) <|
 .seq (.seq (ao [bj 11 0]) <|
 .block 2 (.loop jJ)) <|
 .seq (ao [aj 143 10,aj 144 3,aj 145 8,aR 146 1 144 145,ay 147 146,aV 148 147,bg 149 .neq 143 148]) <|
 .cond (.tmp 149) (.seq (ao [bH 2 false]) <|
 .ret) (.skip))) <|
 ao [aj 51 8,aQ 52 .add 51 1,aj 8 52]
def kA:SF:=⟨.seq (ao [cO 1 0,bH 2 false]) <|
 .seq (.seq (ao [bD 14 31 [],dp 15 14]) <|
 .cond (.tmp 15) (.seq (ao [bH 2 false]) <|
 .ret) (.skip)) <|
 .seq (.seq (.region false [⟨none,[bp 16 4 1,bD 17 16 [16],aj 18 17]⟩,⟨(some (18,false)),[bp 19 4 1,bD 20 30 [19],dp 21 20]⟩,⟨none,[cU 22 18 21]⟩]) <|
 .cond (.tmp 22) (.seq (ao [bH 2 true]) <|
 .ret) (.skip)) <|
 .seq (ao [bp 24 4 1,bD 25 33 [24],aj 23 25,gP 26 0 23,gP 27 1 23,aj 3 26,aj 4 27]) <|
 .seq (ao [bp 29 4 1,bD 30 25 [29],aj 28 30,gP 31 0 28,gP 32 1 28,aj 5 31,aj 6 32]) <|
 .seq (.seq (.region false [⟨none,[aj 33 4,aj 34 6,bg 35 .neq 33 34,aj 36 35]⟩,⟨(some (36,false)),[aj 37 3,aV 38 37,aj 39 5,aV 40 39,bg 41 .neq 38 40]⟩,⟨none,[cU 42 36 41]⟩]) <|
 .cond (.tmp 42) (.seq (ao [bH 2 false]) <|
 .ret) (.skip)) <|
 .seq (ao [aD 43 1 1,ay 44 43,aV 45 44,((some 46),.op (.make 1 4 [(.val (.int .u32 0))] (.tmp 45) (.tmp 45))),aj 7 46]) <|
 .seq (.seq (ao [bj 8 0]) <|
 .block 0 (.loop gS)) <|
 .seq (.region false [⟨none,[aj 150 4,aQ 151 .neq 150 0,aj 152 151]⟩,⟨(some (152,false)),[aj 153 7,bp 154 4 1,bD 155 40 [154],bD 156 41 [153,155]]⟩,⟨none,[cU 157 152 156,aj 2 157]⟩]) <|
 .ret,
 [.tmp 2],158⟩
theorem qK:aU Tryz.prog 11 [1]=some kA:=by kernel_rfl
theorem Od (l:List BV) (hl:aY l):aG Tryz.prog 41 [lD l,lD l] (gb true):=by
 unfold aY at hl
 refine aG.val (by
  intro v hv; simp at hv
  subst hv; exact xA _) fun H=>?_
 refine aC.of mixed uW ?_
 simp (disch:=omega) only [↓wr,seval,wq,ah,ag,ak,aa,ab,af,ai,ae,qH]
 refine av.ne (fun h=>absurd rfl h) (fun _=>?_)
 simp (disch:=omega) only [↓wr,seval,wq,ah,ag,ak,aa,ab,af,ai,ae]
 refine bc.up l.length (fun i T H'=>T 0=lD l∧T 1=lD l∧T 5=gi i) ⟨rfl,rfl,rfl⟩ ?_
 rintro i k T H' hk ⟨t0,t1,t5⟩
 simp (disch:=omega) only [↓wr,seval,wq,ah,ag,ak,aa,ab,af,ai,ae,nW,t0,t1,t5]
 refine av.dec (fun hc=>?_) (fun hc=>?_)
 ·have hx:l[i]?=some (l[i]'(by omega)):=T4 (by omega)
  generalize l[i]'(by omega)=x at hx
  simp (disch:=omega) only [↓wr,seval,wq,ah,ag,ak,aa,ab,af,ai,ae,t0,t1,t5,T8,hx,Ue]
  refine av.ne (fun h=>absurd rfl h) (fun _=>?_)
  simp (disch:=omega) only [↓wr,seval,wq,ah,ag,ak,aa,ab,af,ai,ae,t0,t1,t5]
  exact aN hk (by omega) ⟨t0,t1,rfl⟩
 ·simp (disch:=omega) only [↓wr,seval,wq,ah,ag,ak,aa,ab,af,ai,ae]
noncomputable def oH (g:aw) (a:List aT) (i:Nat) (y:aI):Option eP:=if (bL g y).2=false∧0≤y.aH then some ⟨y.aH,uo g a i y⟩ else none
theorem QL {α β:Type} (f:α→Option β) {l:List α} {k:Nat} {y:α} (hk:l[k]?=some y):(l.take (k+1)).filterMap f=(l.take k).filterMap f ++ (match f y with | some x=>[x] | none=>[]):=by
 rw[Uw,hk,List.filterMap_append]
 simp only[Option.toList,Vf,List.filterMap_nil]
 cases f y <;> rfl
theorem Rh {α β:Type} (f:α→Option β) {l:List α} {k:Nat} {y:α} {x:β} (hk:l[k]?=some y) (hf:f y=some x):(l.filterMap f)[((l.take k).filterMap f).length]?=some x:=by
 have e:l.filterMap f=(l.take k).filterMap f ++ (x :: (l.drop (k+1)).filterMap f):=by
  conv=>lhs; rw[← List.take_append_drop k l,List.filterMap_append]
  obtain ⟨h1,h2⟩:=Uj.1 hk
  rw[UO h1,h2,Vf,hf]
 rw[e,UH (Ug _),Nat.sub_self]
 rfl
theorem K5 (g:aw) (l m:List eP) (x:eP) (z:List BV):(l ++ (m ++ [x])).foldl (ij g) z=ij g ((l ++ m).foldl (ij g) z) x:=by
 rw[← UL,UM]; rfl
set_option maxHeartbeats 16000000 in
theorem E4 (g:aw) (hg:g.Ok):aG Tryz.prog 11 [.agg (au g)] (gb true):=by
 refine aG.val (ef g) fun H=>?_
 refine aC.of mixed qK ?_
 simp (disch:=omega) only [↓wr,seval,wq,ah,ag,ak,aa,ab,af,ai,ae,kA,au,encS]
 refine aE.pure Le (by kernel_rfl) ?_
 simp (disch:=omega) only [↓wr,seval,wq,ah,ag,ak,aa,ab,af,ai,ae,au,encS]
 refine aE.pure (OY g) (by kernel_rfl) ?_
 simp (disch:=omega) only [↓wr,seval,wq,ah,ag,ak,aa,ab,af,ai,ae]
 refine av.split (fun e=>?_) (fun e=>?_)
 ·simp (disch:=omega) only [↓wr,seval,wq,ah,ag,ak,aa,ab,af,ai,ae]
 have h0:=L6 g hg
 simp only[au,encS] at h0
 simp (disch:=omega) only [↓wr,seval,wq,ah,ag,ak,aa,ab,af,ai,ae,au,encS]
 refine aE.pure h0 (by kernel_rfl) ?_
 simp (disch:=omega) only [↓wr,seval,wq,ah,ag,ak,aa,ab,af,ai,ae]
 refine av.split (fun hr=>?_) (fun hr=>?_)
 rotate_left
 ·simp (disch:=omega) only [↓wr,seval,wq,ah,ag,ak,aa,ab,af,ai,ae]
 have h1:=(NI g hg (Iw e)).pure
 have h2:=(Kn g hg).pure
 have h3:=(Ia g hg).pure
 simp only[au,encS] at h1 h2 h3
 have hf:=nO hr
 have hN:=hf.ax; have hN1:=hf.mc; have hR2:=hf.rules
 rw[CM,T9 (fv hr)] at h3
 simp (disch:=omega) only [↓wr,seval,wq,ah,ag,ak,aa,ab,af,ai,ae,au,encS]
 refine aE.pure h1 (by kernel_rfl) ?_
 simp (disch:=omega) only [↓wr,seval,wq,ah,ag,ak,aa,ab,af,ai,ae,au,encS]
 refine aE.pure h2 (by kernel_rfl) ?_
 unfold Fv
 simp (disch:=omega) only [↓wr,seval,wq,ah,ag,ak,aa,ab,af,ai,ae]
 by_cases hz:(cy g).2=0
 rotate_left
 ·have ha:(cy g).1=[]:=by
   rcases yF g with ⟨h,_⟩ | ⟨h,_⟩ | ⟨h,_⟩
   ·exact absurd h hz
   ·rw[h]
   ·rw[h]
  rw[T6 hz,ha]
  simp (disch:=omega) only [↓wr,seval,wq,ah,ag,ak,aa,ab,af,ai,ae,lQ,bO]
  refine av.ne (fun h=>absurd rfl h) (fun _=>?_)
  simp (disch:=omega) only [↓wr,seval,wq,ah,ag,ak,aa,ab,af,ai,ae]
  refine ⟨⟨by omega,by unfold aK; omega,by unfold aK; omega⟩,fun hz=>absurd hz (by omega),fun _ m hm=>?_⟩
  refine bc.intro (fun k T H'=>T 5=.aL []∧T 8=ak 0∧T 4=gi (cy g).2) 0 ⟨rfl,rfl,rfl⟩ ?_
  rintro k T H' ⟨t5,t8,t4⟩
  simp (disch:=omega) only [↓wr,seval,wq,ah,ag,ak,aa,ab,af,ai,ae,gS,t5,t8,t4]
  refine av.ne (fun _=>?_) (fun h=>absurd h hz)
  simp (disch:=omega) only [↓wr,seval,wq,ah,ag,ak,aa,ab,af,ai,ae]
 rw[T9 hz]
 obtain ⟨_,hA,h300⟩:=QX hz
 have hsum:=Lh hA hr
 have hLe:∀ i:Nat,i < (cy g).1.length→(s7 g (cy g).1)[i]?=some (gK g (cy g).1 i):=fun i hi=>by rw[s7,T8,List.getElem?_range hi]; rfl
 have hLl:(s7 g (cy g).1).length=(cy g).1.length:=by simp[s7]
 generalize (cy g).1=a at *
 generalize s7 g a=L at hLe hLl ⊢
 simp (disch:=omega) only [↓wr,seval,wq,ah,ag,ak,aa,ab,af,ai,ae,hz,lQ,bO]
 refine av.ne (fun h=>absurd (by rw[hLl]) h) (fun _=>?_)
 simp (disch:=omega) only [↓wr,seval,wq,ah,ag,ak,aa,ab,af,ai,ae,au,encS]
 refine ⟨⟨by omega,by unfold aK; omega,by unfold aK; omega⟩,fun hz=>absurd hz (by omega),fun _ m hm=>?_⟩
 have hz0:(List.replicate g.ax.length (0:BV)).length=g.ax.length:=by simp
 have hrep:List.replicate g.ax.length [V.val (Value.int IntKind.u32 0)]=bY (List.replicate g.ax.length (0:BV)):=by simp
 rw[hrep]
 generalize List.replicate g.ax.length (0:BV)=z at hz0 hsum ⊢
 refine bc.up a.length (fun i T H'=>H' m=.arr 1 (bY (((List.range i).flatMap (gK g a)).foldl (ij g) z))∧T 1=.aO (au g) 0∧T 3=lQ L∧T 4=ak 0∧T 5=bO a∧T 7=.sl m 0 g.ax.length 1∧T 8=gi i)
  ⟨by simp[View.set],rfl,rfl,rfl,rfl,rfl,rfl⟩ ?_
 rintro i k T H1 hk ⟨hm1,t1,t3,t4,t5,t7,t8⟩
 simp (disch:=omega) only [↓wr,seval,wq,ah,ag,ak,aa,ab,af,ai,ae,gS,t1,t3,t4,t5,t7,t8,bO]
 refine av.dec (fun hc=>?_) (fun hc=>?_)
 ·have hil:i < a.length:=by omega
  have hs:a[i]?=some (a.getD i bz):=getD_some hil
  obtain ⟨k1,k2,k3⟩:=hA.ok.bh _ (Ub hs)
  have hkl:=iv hf k1 k3
  have hC:=(FZ g hg (a.getD i bz).bh (by omega) (fun x hx=>FD hf (k3 x hx))).pure
  rw[List.filter_eq_self.2 fun x hx=>ry.2 ⟨fv hr,k3 x hx⟩] at hC
  have hcd:=Ni hf k3
  have hch:∀ x∈cr g (a.getD i bz).bh,cq g x:=fun x hx=>hA.has hil hx
  have hlk:gK g a i=(cr g (a.getD i bz).bh).filterMap (oH g a i):=by
   rw[gK,show (gL g a).getD i []=cr g (a.getD i bz).bh by unfold gL; simp[T0,T4 hil]]
   rfl
  have hLi:=hLe i hil
  have hfl:(List.range (i+1)).flatMap (gK g a)=(List.range i).flatMap (gK g a) ++ gK g a i:=by rw[U4,List.flatMap_append]; simp
  generalize cr g (a.getD i bz).bh=cl at *
  generalize a.getD i bz=s at hs hC
  simp only[au,encS] at hC
  simp (disch:=omega) only [↓wr,seval,wq,ah,ag,ak,aa,ab,af,ai,ae,t1,t3,t4,t5,t7,t8,au,encS,bO,T8,hs,Ue,j6]
  refine aE.pure hC (by kernel_rfl) ?_
  simp (disch:=omega) only [↓wr,seval,wq,ah,ag,ak,aa,ab,af,ai,ae,t1,t3,t4,t5,t7,t8,bF]
  refine bc.up cl.length (fun j T H'=>H' m=.arr 1 (bY (((List.range i).flatMap (gK g a) ++ (cl.take j).filterMap (oH g a i)).foldl (ij g) z))∧T 1=.aO (au g) 0∧T 3=lQ L∧T 4=ak 0∧T 5=bO a∧T 7=.sl m 0 g.ax.length 1∧T 8=gi i∧T 9=.aL (aS cl)∧T 10=gi ((cl.take j).filterMap (oH g a i)).length∧T 11=gi j)
   ⟨by simpa using hm1,t1,t3,t4,t5,t7,t8,rfl,rfl,rfl⟩ ?_
  clear hm1 t1 t3 t4 t5 t7 t8
  rintro j k2 T2 H2 hk2 ⟨hm1,t1,t3,t4,t5,t7,t8,t9,t10,t11⟩
  simp (disch:=omega) only [↓wr,seval,wq,ah,ag,ak,aa,ab,af,ai,ae,jJ,t1,t3,t4,t5,t7,t8,t9,t10,t11,bF]
  refine av.dec (fun hd=>?_) (fun hd=>?_)
  ·have hy:cl[j]?=some (cl[j]'(by omega)):=T4 (by omega)
   have hyh:=hch _ (Ud (show j < cl.length by omega))
   generalize cl[j]'(by omega)=y at hy hyh
   have hN:=MW g hg y (FD hf hyh)
   have hnb:Bv g y=bL g y:=by rw[Bv,T9 (ry.2 ⟨fv hr,hyh⟩)]
   rw[hnb] at hN
   have htk:=QL (oH g a i) hy
   simp only[au,encS,bK] at hN
   generalize hnx:bL g y=nx at hN
   obtain ⟨sy,ok⟩:=nx
   simp (disch:=omega) only [↓wr,seval,wq,ah,ag,ak,aa,ab,af,ai,ae,t1,t3,t4,t5,t7,t8,t9,t10,t11,au,encS,aS,T8,hy,Ue,bK]
   refine aE.pure hN (by kernel_rfl) ?_
   simp (disch:=omega) only [↓wr,seval,wq,ah,ag,ak,aa,ab,af,ai,ae,t1,t3,t4,t5,t7,t8,t9,t10,t11]
   have skip:oH g a i y=none→(cl.take (j+1)).filterMap (oH g a i)=(cl.take j).filterMap (oH g a i):=fun h=>by rw[htk,h]; simp
   refine av.split (fun ho=>?_) (fun ho=>?_)
   ·simp (disch:=omega) only [↓wr,seval,wq,ah,ag,ak,aa,ab,af,ai,ae,t1,t3,t4,t5,t7,t8,t9,t10,t11]
    have hsk:=skip (by rw[oH,hnx,T6 (fun h=>by rw[ho] at h; simp at h)])
    exact aN hk2 (by omega) ⟨by rw[hsk]; exact hm1,t1,t3,t4,t5,t7,t8,t9,by rw[hsk]; exact t10,rfl⟩
   ·simp (disch:=omega) only [↓wr,seval,wq,ah,ag,ak,aa,ab,af,ai,ae,t1,t3,t4,t5,t7,t8,t9,t10,t11,aS,T8,hy,Ue,bK]
    refine av.dec (fun hn=>?_) (fun hn=>?_)
    ·simp (disch:=omega) only [↓wr,seval,wq,ah,ag,ak,aa,ab,af,ai,ae,t1,t3,t4,t5,t7,t8,t9,t10,t11]
     have hsk:=skip (by rw[oH,hnx,T6 (fun h=>by omega)])
     exact aN hk2 (by omega) ⟨by rw[hsk]; exact hm1,t1,t3,t4,t5,t7,t8,t9,by rw[hsk]; exact t10,rfl⟩
    ·have hfy:oH g a i y=some ⟨y.aH,uo g a i y⟩:=by rw[oH,hnx,T9 ⟨ho,by omega⟩]
     have hgt:=Rh (oH g a i) hy hfy
     rw[hfy] at htk
     simp only at htk
     rw[← hlk] at hgt
     have hnl:=(Uj.1 hgt).1
     have hRl:g.rules[y.aH.toNat]?=some (aB g y.aH):=by unfold aB; exact getD_some (by have:=hyh.1; omega)
     have hll:=hf.left _ (Ub hRl)
     have hsn:=K5 g ((List.range i).flatMap (gK g a)) ((cl.take j).filterMap (oH g a i)) ⟨y.aH,uo g a i y⟩ z
     rw[← htk] at hsn
     have hZl:=tU g ((List.range i).flatMap (gK g a) ++ (cl.take j).filterMap (oH g a i)) z
     generalize ((List.range i).flatMap (gK g a) ++ (cl.take j).filterMap (oH g a i)).foldl (ij g) z=Z at hm1 hsn hZl
     generalize hnn:((cl.take j).filterMap (oH g a i)).length=n at *
     have hnx1:((cl.take (j+1)).filterMap (oH g a i)).length=n+1:=by rw[htk,UX,hnn]; rfl
     rw[ij] at hsn
     simp only at hsn
     have hn287:n≤287:=by
      have h1:=List.length_filterMap_le (oH g a i) (cl.take j)
      have h2:=List.length_take_le j cl
      rw[hnn] at h1; omega
     generalize uo g a i y=w at hgt hsn
     have hzg:Z[(aB g y.aH).left.toNat]?=some (Z.getD (aB g y.aH).left.toNat 0):=getD_some (by omega)
     simp (disch:=omega) only [↓wr,seval,wq,ah,ag,ak,aa,ab,af,ai,ae,t1,t3,t4,t5,t7,t8,t9,t10,t11,lQ,T8,hLi,Ue,mW]
     refine av.dec (fun h=>absurd h (by simp; omega)) (fun _=>?_)
     simp (disch:=omega) only [↓wr,seval,wq,ah,ag,ak,aa,ab,af,ai,ae,t1,t3,t4,t5,t7,t8,t9,t10,t11,lQ,T8,hLi,hgt,hy,Ue,mW,aS,B7,bK]
     refine av.ne (fun h=>absurd rfl h) (fun _=>?_)
     simp (disch:=omega) only [↓wr,seval,wq,ah,ag,ak,aa,ab,af,ai,ae,t1,t3,t4,t5,t7,t8,t9,t10,t11,hm1,r6 hzg,au,aP,lQ,T8,hLi,hgt,hy,hRl,Ue,mW,aS,B7,bK,qO]
     refine ⟨by omega,by omega,by omega,by omega,aN hk2 (by omega) ⟨?_,t1,t3,t4,t5,t7,t8,t9,by rw[hnx1]; rfl,rfl⟩⟩
     rw[hsn]
     simp only[View.set,if_true]
     exact Vl _ Vp.symm
  ·have hje:j=cl.length:=by omega
   subst hje
   rw[List.take_length] at hm1 t10
   rw[← hlk] at hm1 t10
   simp (disch:=omega) only [↓wr,seval,wq,ah,ag,ak,aa,ab,af,ai,ae,t1,t3,t4,t5,t7,t8,t9,t10,t11,lQ,T8,hLi,Ue,mW]
   refine av.ne (fun h=>absurd (by simp) h) (fun _=>?_)
   simp (disch:=omega) only [↓wr,seval,wq,ah,ag,ak,aa,ab,af,ai,ae,t1,t3,t4,t5,t7,t8]
   exact aN hk (by omega) ⟨by rw[hfl]; exact hm1,t1,t3,t4,t5,t7,rfl⟩
 ·rw[show i=a.length by omega,hsum] at hm1
  simp (disch:=omega) only [↓wr,seval,wq,ah,ag,ak,aa,ab,af,ai,ae,t1,t4,t7,au,encS]
  refine aE.pure h3 (by kernel_rfl) ?_
  simp (disch:=omega) only [↓wr,seval,wq,ah,ag,ak,aa,ab,af,ai,ae]
  have hfl:=pO g (aA g false)
  generalize fG g (aA g false)=fol at *
  have hlw:eA H1 (.sl m 0 g.ax.length 1) (lD fol):=Ba (.inr ⟨m,by simp[hfl],hm1⟩)
  refine aE.AD (Od fol (by unfold aY; omega)) (by kernel_rfl) (.val _) ⟨hlw,.tree (xA _),trivial⟩ ?_
  simp (disch:=omega) only [↓wr,seval,wq,ah,ag,ak,aa,ab,af,ai,ae]
end Gv
