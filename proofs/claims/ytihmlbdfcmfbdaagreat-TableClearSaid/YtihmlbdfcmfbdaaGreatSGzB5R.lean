/-
  Part 18 of the proof: what the machine does and what the functions answer.
  Conditions: those that each lemma names.
-/
import Derived.Test.YtihmlbdfcmfbdaaGreatSGzB5Q
set_option linter.unusedSimpArgs false
set_option linter.unusedVariables false
set_option maxRecDepth 100000
set_option maxHeartbeats 20000000
namespace Gv
open Go Go.Proofs
theorem zM {A:bY (Int × Int)} {k:Int × Int} {v:V} (h:getM A k=some v):∃ a d b,A=a ++ (k,v,b) :: d/\∀ v' c,bN k v' c A=a ++ (k,v',b) :: d:=by
 induction A with
 | nil=>simp[getM] at h
 | cons x A f =>
  unfold getM at h f
  rw[acf] at h
  by_cases e:k=x.1
  .simp only[e,ab1,aaz,aau] at h
   refine⟨[],A,x.2.2,by rw[e,<-h];rfl,λv' c=>?_⟩
   rw[bN,e,ab1,aaw rfl];rfl
  .rw[beq_eq_false_iff_ne.2 e] at h
   obtain⟨a,d,b,rfl,g⟩:=f h
   refine⟨x :: a,d,b,rfl,λv' c=>?_⟩
   rw[bN,beq_eq_false_iff_ne.2 e,g];rfl
theorem vA {A:bY (Int × Int)} {k:Int × Int} (h:getM A k=none) (v:V) (c:Nat):bN k v c A=A ++ [(k,v,c)]:=by
 induction A with
 | nil=>rfl
 | cons x A a =>
  unfold getM at h a
  rw[acf] at h
  by_cases e:k=x.1
  .simp[e] at h
  .rw[beq_eq_false_iff_ne.2 e] at h
   rw[bN,beq_eq_false_iff_ne.2 e,a h];rfl
theorem vR {A:bY (Int × Int)} {k:Int × Int} : getM A k=none↔k ∉ A.map (·.1):=by
 induction A with
 | nil=>simp[getM]
 | cons x A a =>
  unfold getM at a ⊢
  rw[acf]
  by_cases h:k=x.1
  .simp[h]
  .simp only[beq_eq_false_iff_ne.2 h,aaW,aaI,not_or]
   rw[a]
   simp[h]
def jO (fB:Int × Int->List Nat) (A:bY (Int × Int)):List cx:=A.map λx=>(x.2.1,1,gp (fB x.1))
structure so (A:bY (Int × Int)) (fB:Int × Int->List Nat):Prop where
 nd:(A.map (·.1)).Nodup
 all:∀ k,fB k≠[]->getM A k≠none
def MQ (fB:Int × Int->List Nat) (k:Int × Int) (l:List Nat):Int × Int->List Nat:=λz=>if z=k then l else fB z
theorem Rk {a:Int × Int->List Nat} {A:bY (Int × Int)} {k:Int × Int} {l:List Nat} (h:k ∉ A.map (·.1)):jO (MQ a k l) A=jO a A:=by
 unfold jO
 refine acw λx b=>?_
 have:x.1≠k:=λe=>h (e ▸ List.mem_map_of_mem b)
 simp[MQ,this]
theorem so.entry {A:bY (Int × Int)} {a:Int × Int->List Nat} (h:so A a) {H:View} {Z:List cx} (t:bk H (Z ++ jO a A)) (k:Int × Int) (c:Nat) :
  ∃ P Q b,bN k ((getM A k).getD (.emp 1)) c A=P ++ (k,(getM A k).getD (.emp 1),b) :: Q/\(∀ v m,bN k v m (bN k ((getM A k).getD (.emp 1)) c A)=P ++ (k,v,b) :: Q)/\bk H (Z ++ (jO a P ++ ((getM A k).getD (.emp 1),1,gp (a k)) :: jO a Q))/\k ∉ P.map (·.1)/\k ∉ Q.map (·.1)/\so (P ++ (k,(getM A k).getD (.emp 1),b) :: Q) a:=by
 cases f:getM A k with
 | some v =>
  obtain⟨P,Q,b,rfl,hp⟩:=zM f
  have g:=h.nd
  rw[aaS,aaW,abr] at g
  have h1:k ∉ Q.map (·.1):=(abo.1 g.2.1).1
  have u:k ∉ P.map (·.1):=λhm=>g.2.2 k hm k (by simp) rfl
  rw[aaL]
  refine⟨P,Q,b,hp v c,λv' m=>?_,?_,u,h1,h⟩
  .rw[hp v c]
   have d:getM (P ++ (k,v,b) :: Q) k=some v:=f
   obtain⟨w,z,C,e,i⟩:=zM d
   rw[hp]
  .have:=t
   rw[jO,aaS,aaW] at this
   exact this
 | none =>
  have n:=vR.1 f
  have D:a k=[]:=abB λp=>h.all k p f
  rw[Option.getD_none,vA f]
  refine⟨A,[],c,rfl,λv' m=>?_,?_,n,by simp,?_,λE q=>?_⟩
  .have d:getM (A ++ [(k,V.emp 1,c)]) k=some (.emp 1):=by
    rw[<-vA f,r5,ab1,aaw rfl]
   obtain⟨w,z,C,e,i⟩:=zM d
   rw[<-vA f (.emp 1) c]
   clear i e d
   induction A with
   | nil=>simp[bN]
   | cons x A I =>
    have o:k≠x.1:=λe=>n (by simp[e])
    have j:getM A k=none:=vR.2 λhm=>n (by simp[hm])
    rw[bN,beq_eq_false_iff_ne.2 o]
    simp only[aaU,if_false]
    rw[bN,beq_eq_false_iff_ne.2 o]
    simp only[aaU,if_false,aa9,acr,true_and]
    rw[vA j]
    have:∀ B:bY (Int × Int),getM B k=none->bN k v' m (B ++ [(k,V.emp 1,c)])=B ++ [(k,v',c)]:=by
     intro B
     induction B with
     | nil=>intro _;simp[bN]
     | cons y B r =>
      intro F
      have l:=vR.1 F
      have s:k≠y.1:=λe=>l (by simp[e])
      rw[aa9,bN,beq_eq_false_iff_ne.2 s]
      simp only[aaU,if_false,aa9,acr,true_and]
      exact r (vR.2 λhm=>l (by simp[hm]))
    exact this A j
  .rw[D]
   have G:=t.emp (k:=1) (sz:=1)
   have e:Z ++ (jO a A ++ (V.emp 1,1,gp []) :: jO a [])=(Z ++ jO a A) ++ [(V.emp 1,1,[])]:=by simp[jO]
   rw[e]
   exact G.perm (List.perm_append_comm (l₁:=[_]))
  .rw[aaS,abr]
   refine⟨h.nd,by simp,λx o y l e=>?_⟩
   simp at l
   exact n (by rw[<-l,<-e];exact o)
  .rw[<-vA f,r5]
   split
   .simp
   .exact h.all E q
def wT:SC :=
 ae [ab [aQ 57 .lss 56 55],bS 57 (.exit 2),.block 3 (ae [ab [aa 58 56,aI 59 3 54 56,aY 60 3 59,((some 11),.op (.alloc [(.val (.int .i64 0)),(.emp 1),(.val (.int .i64 0))])),aa 10 58,bZ 3 11 60],ab [ao 61 0 11,aj 62 61,ao 63 1 9,aj 64 63,aQ 65 .eql 62 64],bf 65 (ae [ab [aa 66 6,aY 67 2 9,aY 68 3 11,bm 69 74 [66,67,68],aa 70 10,((some 71),.op (.build [(.val (.int .i64 0)),(.val (.int .i64 0))] [(0,1,(.tmp 69)),(1,1,(.tmp 70))])),((some 12),.op (.alloc [(.val (.int .i64 0)),(.val (.int .i64 0))])),bZ 2 12 71],ab [aa 72 7,aY 73 2 12,aa 75 8,((some 76),.op (.bW 1 1 [(.val (.int .i64 0))] [(0,(.tmp 75))])),((some 77),.op (.old (.mapEntry 114 (.tmp 72) (.tmp 73)) 0)),eP 74 0 77,gx 78 1 8 74 76,eP 79 1 77,(none,.op (.old (.entryStore 114 (.tmp 72) (.tmp 79) (.tmp 78)) 0))]])]),ab [aF 80 .add 56 1,aa 56 80]]
def wW:SC :=
 ae [ab [aQ 49 .lss 48 47],bS 49 (.exit 0),.block 1 (ae [ab [aa 50 48,aI 51 2 46 48,aY 52 2 51,((some 9),.op (.alloc [(.val (.int .i64 0)),(.val (.int .i64 0))])),aa 8 50,bZ 2 9 52],ab [ao 53 2 1,aj 54 53,aM 55 54,aT 56 0],bX 2 wT]),ab [aF 81 .add 48 1,aa 48 81]]
def xo:SC :=
 ae [ab [aQ 111 .lss 110 109],bS 111 (.exit 8),.block 9 (ae [ab [aI 112 1 108 110,aj 113 112,aa 19 113],ab [ao 114 1 17,aj 115 114,aa 116 6,cR 117 116,ao 118 8 117,aj 119 118,aa 120 19,aI 121 1 119 120,aj 122 121,aQ 123 .or 115 122,ao 124 1 17,bZ 1 124 123]]),ab [aF 125 .add 110 1,aa 110 125]]
def xx:SC :=
 ae [ab [aQ 96 .lss 95 94],bS 96 (.exit 6),.block 7 (ae [ab [aa 97 95,aa 15 97],ab [aa 98 7,aa 99 14,aa 100 15,((some 101),.op (.build [(.val (.int .i64 0)),(.val (.int .i64 0))] [(0,1,(.tmp 99)),(1,1,(.tmp 100))])),((some 102),.op (.old (.lookup 114 (.tmp 98) (.tmp 101) false) 43)),aa 16 102],ae [ab [aa 103 16,aM 104 103,aF 105 .eql 104 0],bf 105 (.exit 7)],ab [aa 106 15,((some 107),.op (.build [(.val (.int .i64 0)),(.val (.int .u32 0))] [(0,1,(.tmp 106))])),((some 17),.op (.alloc [(.val (.int .i64 0)),(.val (.int .u32 0))])),bZ 2 17 107],ae [ab [aa 108 16,aM 109 108,aT 110 0],bX 8 xo],ab [aa 126 13,aa 127 14,aa 128 13,aa 129 14,aI 130 1 128 129,aj 131 130,aY 132 2 17,((some 133),.op (.bW 1 2 [(.val (.int .i64 0)),(.val (.int .u32 0))] [(0,(.tmp 132))])),gx 134 2 16 131 133,aI 135 1 126 127,bZ 1 135 134]]),ab [aF 136 .add 95 1,aa 95 136]]
def Dy:SC :=
 ae [ab [aQ 90 .lss 89 88],bS 90 (.exit 4),.block 5 (ae [ab [aa 91 89,aa 14 91],ab [ao 92 2 1,aj 93 92,aM 94 93,aT 95 0],bX 6 xx]),ab [aF 137 .add 89 1,aa 89 137]]
def Ic:SF:=⟨ae [ab [cy 1 0,cT 2 1,aT 3 0],ab [aY 21 4 1,bm 22 24 [21],aa 20 22,eP 23 0 20,eP 24 1 20,aa 4 23,aa 5 24],ae [ab [aa 25 5,aF 26 .neq 25 0],bf 26 (ae [ab [aa 27 5,cT 2 1,aa 3 27],.ret])],ab [aY 28 4 1,aa 29 4,bm 30 72 [28,29],aa 6 30],ab [aa 31 6,bm 32 73 [31]],ab [aa 33 6,aa 34 6,cR 35 34,ao 36 7 35,aj 37 36,aM 38 37,((some 39),.op (.make 1 24 [(.emp 1)] (.tmp 38) (.tmp 38))),cR 40 33,ao 41 9 40,bZ 1 41 39],ab [((some 42),.op (.p9)),aa 7 42],ae [ab [aa 43 6,cR 44 43,ao 45 7 44,aj 46 45,aM 47 46,aT 48 0],bX 0 wW],ab [aa 82 6,bm 83 75 [82]],ab [aa 84 4,aM 85 84,((some 86),.op (.make 1 24 [(.emp 1)] (.tmp 85) (.tmp 85))),aa 13 86],ae [ab [aa 87 4,aM 88 87,aT 89 0],bX 4 Dy],ab [aa 138 13,aa 2 138,aT 3 0],.ret],
 [.tmp 2,.tmp 3],139⟩
theorem KE:aO Tryz.prog 33 [1]=some Ic:=by kernel_rfl
theorem NJ:U7 Tryz.prog 119 :=
 ⟨⟨⟨ "state",3,0,false,"","gerund/look",0⟩,⟨ "rule",3,1,false,"","gerund/look",8⟩,by kernel_rfl,by decide,by decide,Tryz.underlying3,Tryz.underlying3,rfl,rfl⟩,by kernel_rfl⟩
def bB (g:ai) (a:List aL) (x i:Nat) (key:Int × Int):List Nat :=
 if 0<=key.1/\0<=key.2/\key.2 < g.rules.length then jI g a x key.2.toNat key.1.toNat ++ (if key.2 < i/\(aw g key.2).left=(dK a x).2/\lM a (dK a x).1.toNat (aw g key.2).right=key.1.toNat then [x] else []) else []
theorem XI (g:ai) (a:List aL):bB g a 0 0=λ_=>[]:=by
 funext key
 unfold bB
 split
 .rename_i h
  rw[aat (λb=>by omega)]
  simp[jI]
 .rfl
theorem OA (g:ai) (a:List aL) (x:Nat):bB g a x g.rules.length=bB g a (x+1) 0:=by
 funext key
 unfold bB
 split
 .rename_i h
  obtain⟨k,hk⟩:∃ k:Nat,key.2=k:=⟨key.2.toNat,by omega⟩
  have d:¬ key.2 < ((0:Nat):Int):=by omega
  simp only[d,false_and,if_false,abI]
  unfold jI
  rw[abi,abN]
  congr 1
  rw[hk,aaN]
  by_cases b:(aw g (k:Int)).left=(dK a x).2/\lM a (dK a x).1.toNat (aw g (k:Int)).right=key.1.toNat
  .rw[aaw ⟨by omega,b.1,b.2⟩]
   rw[List.filter_cons_of_pos (by simp only[aaE];exact b)]
   rfl
  .rw[aat (λc=>b ⟨c.2.1,c.2.2⟩)]
   symm
   rw[List.filter_cons_of_neg (by simpa using λh1 c=>b ⟨h1,c⟩)]
   rfl
 .rfl
theorem Oi (g:ai) (a:List aL) (x i:Nat) (h:¬ (aw g i).left=(dK a x).2):bB g a x (i+1)=bB g a x i:=by
 funext key
 unfold bB
 split
 .rename_i hk
  congr 1
  by_cases e:key.2=i
  .rw[aat (λb=>h (by rw[<-e];exact b.2.1)),aat (λb=>by omega)]
  .by_cases c:key.2 < i/\(aw g key.2).left=(dK a x).2/\lM a (dK a x).1.toNat (aw g key.2).right=key.1.toNat
   .rw[aaw c,aaw ⟨by push_cast;omega,c.2⟩]
   .rw[aat c,aat (λb=>c ⟨by have:=b.1;push_cast at this;omega,b.2⟩)]
 .rfl
theorem Yi (g:ai) (a:List aL) (x i:Nat) (hi:i < g.rules.length) (h:(aw g i).left=(dK a x).2):bB g a x (i+1)=MQ (bB g a x i) ((lM a (dK a x).1.toNat (aw g i).right:Int),(i:Int)) (bB g a x i ((lM a (dK a x).1.toNat (aw g i).right:Int),(i:Int)) ++ [x]):=by
 funext key
 unfold MQ
 by_cases e:key=((lM a (dK a x).1.toNat (aw g i).right:Int),(i:Int))
 .rw[aaw e,e]
  unfold bB
  simp only
  rw[aaw ⟨by omega,by omega,by omega⟩,aaw ⟨by push_cast;omega,h,by simp⟩,aaw ⟨by omega,by omega,by omega⟩,aat (λc=>by omega),abI]
 .rw[aat e]
  unfold bB
  split
  .rename_i hk
   congr 1
   by_cases b:key.2 < i/\(aw g key.2).left=(dK a x).2/\lM a (dK a x).1.toNat (aw g key.2).right=key.1.toNat
   .rw[aaw b,aaw ⟨by push_cast;omega,b.2⟩]
   .rw[aat b,aat]
    rintro⟨h1,c,d⟩
    push_cast at h1
    by_cases f:key.2=i
    .apply e
     rw[f] at d
     exact Prod.ext (by simp only;omega) (by simp only;exact f)
    .exact b ⟨by omega,c,d⟩
  .rfl
theorem Ba {g:ai} {a:List aL} {x c:Nat} (hr:∀ k:Nat,k < g.rules.length->(aw g k).right.length<=6):∀ (n:Nat) {f:Nat->List Nat},n<=g.rules.length->(∀ z,(f z).length<=c)->∀ z,((List.range n).foldl (sg g a x) f z).length<=c+6 * n
 | 0,f,_,h,z=>by simpa using h z
 | n+1,f,d,h,z=>by
  have b:=Ba (a:=a) (x:=x) hr n (f:=f) (by omega) h
  rw[abi,abe,aaR,abL,sg]
  split
  .have h1:=B5 (x:=x) (ys:=qb g a (dK a x).1.toNat (aw g n).right) b z
   have e:=Ou g a (aw g n).right (dK a x).1.toNat
   have:=hr n (by omega)
   omega
  .have:=b z;omega
theorem Uo {g:ai} {a:List aL} (hA:cq g a) (cu:bC g=true) (ha:a.length<=300) {W qn cM n D:Nat} {M:bY (Int × Int)} {uw:V} {s e:Nat} {Sl:List BV} {x p:Nat} {B:Int} (hx:(bj a)[x]?=some ((p:Int),B)) {f0:Nat->List Nat} {c0:Nat} (cv:∀ z,(f0 z).length<=c0) (dj:c0<=50000000) (b1:qn≠n)
  {T:Env} {H:View} {Q:Exit->Env->View->Prop} {v:cO (T,H,Q)}
  (hJ:∃ (A:List (V × List Nat)) (c2:Nat) (M2:bY (Int × Int)),dh g a H W qn cM M uw s e (bj a) Sl A ((.sl D 0 1 2,2,[[gi p,gi B]]) :: jO (bB g a x 0) M2)/\(∀ z,z < (bj a).length->(A.getD z (.any,[])).2=f0 z)/\H n=.map (bP fE M2) c2/\ix M2 c2/\so M2 (bB g a x 0))
  (ht:T 1=.aH (ag g) 0/\T 4=aW a/\T 6=.ptr W 0 0/\T 7=.mp n/\T 8=gi x/\T 9=.ptr D 0 0/\T 46=uw/\T 47=gi (bj a).length/\T 48=gi x/\T 54=.aE (g.rules.map aU)/\T 55=gi g.rules.length/\T 56=gi 0)
  (hQ:∀ (T':Env) (H':View),(∃ (A:List (V × List Nat)) (c2:Nat) (M2:bY (Int × Int)),dh g a H' W qn cM M uw s e (bj a) Sl A ((.sl D 0 1 2,2,[[gi p,gi B]]) :: jO (bB g a x g.rules.length) M2)/\(∀ z,z < (bj a).length->(A.getD z (.any,[])).2=(List.range g.rules.length).foldl (sg g a x) f0 z)/\H' n=.map (bP fE M2) c2/\ix M2 c2/\so M2 (bB g a x g.rules.length)) ->
   T' 1=.aH (ag g) 0->T' 4=aW a->T' 6=.ptr W 0 0->T' 7=.mp n->T' 46=uw->T' 47=gi (bj a).length->T' 48=gi x->Q (.exit 2) T' H'):aS Tryz.prog wT T H Q v:=by
 have dm:=rO hA
 have ds:(bj a).length<=40 * a.length:=nz hA.ok.aJ a.length
 have dv:=(aaG.1 hx).1
 have cA:=xG hx
 obtain⟨dy,hE⟩:=dL.1 (aax hx)
 have ea:=hA.cQ.rules
 have cC:∀ k:Nat,k < g.rules.length->(aw g k).right.length<=6:=λk hk=>hA.cQ.right _ (aax (show g.rules[k]?=some (aw g k) by unfold aw;exact getD_some hk))
 obtain⟨t1,t4,t6,t7,t8,t9,t46,t47,t48,t54,t55,t56⟩:=ht
 refine aS.up g.rules.length (λi T H'=>(∃ (A:List (V × List Nat)) (c2:Nat) (M2:bY (Int × Int)),dh g a H' W qn cM M uw s e (bj a) Sl A ((.sl D 0 1 2,2,[[gi p,gi B]]) :: jO (bB g a x i) M2)/\(∀ z,z < (bj a).length->(A.getD z (.any,[])).2=(List.range i).foldl (sg g a x) f0 z)/\H' n=.map (bP fE M2) c2/\ix M2 c2/\so M2 (bB g a x i)) /\
  T 1=.aH (ag g) 0/\T 4=aW a/\T 6=.ptr W 0 0/\T 7=.mp n/\T 8=gi x/\T 9=.ptr D 0 0/\T 46=uw/\T 47=gi (bj a).length/\T 48=gi x/\T 54=.aE (g.rules.map aU)/\T 55=gi g.rules.length/\T 56=gi i) ⟨hJ,t1,t4,t6,t7,t8,t9,t46,t47,t48,t54,t55,t56⟩ ?_
 clear hJ t1 t4 t6 t7 t8 t9 t46 t47 t48 t54 t55 t56
 rintro i k T H1 hk ⟨⟨A,c2,M2,hI,a6,S,a7,a8⟩,t1,t4,t6,t7,t8,t9,t46,t47,t48,t54,t55,t56⟩
 simp(disch:=omega)only[↓wr,seval,wq,wT,t54,t55,t56]
 apply ah.dec<;>intro hc
 rotate_left
 .have hi:i=g.rules.length:=by omega
  subst hi
  simp(disch:=omega)only[↓wr,seval,wq]
  exact hQ _ _ ⟨A,c2,M2,hI,a6,S,a7,a8⟩ t1 t4 t6 t7 t46 t47 t48
 have bd:i < g.rules.length:=by omega
 have hR:g.rules[i]?=some (aw g i):=by unfold aw;exact getD_some bd
 have U:H1 D=.arr 2 [[gi (p:Int),gi B]]:=by
  have:=hI.own.1 (.sl D 0 1 2,2,[[gi (p:Int),gi B]]) (by simp)
  rcases this with ⟨h,_⟩ | ⟨m,h1,h2⟩
  .simp at h
  .simp only[V.sl.injEq] at h1
   rw[h1.1];exact h2
 simp(disch:=omega)only[↓wr,seval,wq,t1,t6,t7,t8,t9,t54,t55,t56,aav,hR,aaz,aU]
 intro q2 C
 have bl:=hI.fresh C (o:=.arr 3 [[gi (aw g i).left,encI (aw g i).right,gi (aw g i).prec]])
 have E:(H1.set q2 (.arr 3 [[gi (aw g i).left,encI (aw g i).right,gi (aw g i).prec]])) n=.map (bP fE M2) c2:=by
  simp only[View.set];rw[aat (λe=>by rw[<-e,S] at C;simp at C)];exact S
 have aq:D≠q2:=λe=>by rw[<-e,U] at C;simp at C
 have j:(dK a x).2=B/\(dK a x).1.toNat=p:=by rw[cA];simp
 simp(disch:=omega)only[↓wr,seval,wq,t9,aq,U,encI]
 apply ah.eq<;>intro F
 rotate_left
 .simp(disch:=omega)only[↓wr,seval,wq,t1,t4,t6,t7,t8,t9,t46,t47,t48,t54,t55,t56]
  rw[set_set]
  have q:¬ (aw g i).left=(dK a x).2:=by rw[j.1];exact F
  refine aC hk (by omega) ⟨⟨A,c2,M2,by rw[Oi g a x i q];exact bl,λz hz=>?_,E,a7,by rw[Oi g a x i q];exact a8⟩,t1,t4,t6,t7,t8,t9,t46,t47,t48,t54,t55,by first | rfl | (congr 2)⟩
  rw[abi,abe,aaR,abL,sg,aat q]
  exact a6 z hz
 have G:(H1.set q2 (.arr 3 [[gi (aw g i).left,encI (aw g i).right,gi (aw g i).prec]])) D=.arr 2 [[gi (p:Int),gi B]]:=by
  simp only[View.set];rw[aat aq];exact U
 rw[set_set]
 have ar:(H1.set q2 (.arr 3 [[gi (aw g i).left,encI (aw g i).right,gi (aw g i).prec]])) q2=.arr 3 [[gi (aw g i).left,encI (aw g i).right,gi (aw g i).prec]]:=by simp[View.set]
 have e3:(H1.set q2 (.arr 3 [[gi (aw g i).left,.aE ((aw g i).right.map λx=>[gi x]),gi (aw g i).prec]]))=H1.set q2 (.arr 3 [[gi (aw g i).left,encI (aw g i).right,gi (aw g i).prec]]):=rfl
 try rw[e3]
 generalize H1.set q2 (.arr 3 [[gi (aw g i).left,encI (aw g i).right,gi (aw g i).prec]])=H2 at bl E G ar ⊢
 clear hI S U C
 simp(disch:=omega)only[↓wr,seval,wq,t6,t9,G,ar]
 have bn:=Ba (a:=a) (x:=x) cC i (f:=f0) (by omega) cv
 have a1:=Up hA cu ha bl (fA:=(List.range i).foldl (sg g a x) f0) (c:=c0+6 * i) a6 bn (by omega) hx bd F
 simp only[aU] at a1
 refine ay.dr (a1.mono ?_)
 rintro r H5 ⟨rfl,⟨A',b2,b3⟩,br⟩
 have I:=br _ _ _ E
 generalize cN:lM a p (aw g i).right=d
 simp(disch:=omega)only[↓wr,seval,wq,t6,t7,t8,t9]
 intro q3 an q4 J
 obtain⟨n43,J⟩:=jD J
 rw[aat n43] at J
 rw[set_set]
 have b4:=b2.fresh an (o:=.arr 2 [[gi (d:Int),gi (i:Int)]])
 have L:(H5.set q3 (.arr 2 [[gi (d:Int),gi (i:Int)]])) n=.map (bP fE M2) c2:=by
  simp only[View.set];rw[aat (λe=>by rw[<-e,I] at an;simp at an)];exact I
 have w:(H5.set q3 (.arr 2 [[gi (d:Int),gi (i:Int)]])) q4=.dead:=by simp only[View.set];rw[aat n43];exact J
 have t:=b4.fresh w (o:=.arr 1 [[gi (x:Int)]])
 have l:((H5.set q3 (.arr 2 [[gi (d:Int),gi (i:Int)]])).set q4 (.arr 1 [[gi (x:Int)]])) n=.map (bP fE M2) c2:=by
  simp only[View.set]
  rw[aat (λe=>by rw[<-e,L] at w;simp at w)]
  exact L
 have N:((H5.set q3 (.arr 2 [[gi (d:Int),gi (i:Int)]])).set q4 (.arr 1 [[gi (x:Int)]])) q4=.arr 1 [[gi (x:Int)]]:=by simp[View.set]
 generalize ((H5.set q3 (.arr 2 [[gi (d:Int),gi (i:Int)]])).set q4 (.arr 1 [[gi (x:Int)]]))=H7 at t l N ⊢
 clear b2 b4 I L J w an
 have cS:dQ Tryz.prog 114=some (119,43):=by kernel_rfl
 have hz:zeroV Tryz.prog 43=some (.emp 1):=by kernel_rfl
 refine XW (kv:=fE) (kt:=119) (et:=43) (z:=.emp 1) cS hz (CH NJ) (id:=n) (c:=c2) (m:=M2) (k:=((d:Int),(i:Int))) (by first | rfl | simp(disch:=omega)only[↓wr,seval,wq]) (by first | rfl | (simp(disch:=omega)only[↓wr,seval,wq];rfl)) l a7 λb c' b5 b7=>?_
 have b8:=t.own
 have bs:bk H7 (((.sl W 0 1 10,10,[[.aE (g.af.map cm),.aE (g.ak.map λs=>[gs s]),.aE (g.rules.map aU),gi g.start,aW a,bO (au g false),.mp qn,uw,.sl s 0 (bj a).length 1,.sl e 0 (bj a).length 1]]) :: (uw,2,oF (bj a)) :: (.sl s 0 (bj a).length 1,1,bV Sl) :: (.sl e 0 (bj a).length 1,1,bt A') :: (jK A' ++ [(.sl D 0 1 2,2,[[gi (p:Int),gi B]])])) ++ jO (bB g a x i) M2):=by
  have e:∀ (X1 X2 X3 X4 y:cx) (R K:List cx),(X1 :: X2 :: X3 :: X4 :: (R ++ [y])) ++ K=X1 :: X2 :: X3 :: X4 :: (R ++ (y :: K)):=λX1 X2 X3 X4 y R K=>by simp
  rw[e];exact b8
 obtain⟨P,Qm,bb,cV,b9,hO,c3,c5,ca⟩:=a8.entry bs ((d:Int),(i:Int)) c2
 have eb:(bB g a x i ((d:Int),(i:Int))).length<=20000:=by
  unfold bB
  split
  .rw[aat (λh=>by have:=h.1;simp only at this;omega),abI]
   unfold jI
   have:=abh (λy=>decide ((aw g ((((d:Int),(i:Int)).2.toNat:Nat):Int)).left=(dK a y).2/\lM a (dK a y).1.toNat (aw g ((((d:Int),(i:Int)).2.toNat:Nat):Int)).right=((d:Int),(i:Int)).1.toNat)) (List.range x)
   rw[List.length_range] at this
   omega
  .simp
 generalize hu:(getM M2 ((d:Int),(i:Int))).getD (.emp 1)=u at *
 generalize bN ((d:Int),(i:Int)) u c2 M2=M3 at *
 have cc:q4≠n:=λe=>by rw[<-e,N] at l;simp at l
 have bx:=Yi g a x i bd (by rw[j.1];exact F)
 rw[j.2,cN] at bx
 generalize ec:bB g a x i ((d:Int),(i:Int))=lk at *
 generalize hZ:(((.sl W 0 1 10,10,[[.aE (g.af.map cm),.aE (g.ak.map λs=>[gs s]),.aE (g.rules.map aU),gi g.start,aW a,bO (au g false),.mp qn,uw,.sl s 0 (bj a).length 1,.sl e 0 (bj a).length 1]]) :: (uw,2,oF (bj a)) :: (.sl s 0 (bj a).length 1,1,bV Sl) :: (.sl e 0 (bj a).length 1,1,bt A') :: (jK A' ++ [(.sl D 0 1 2,2,[[gi (p:Int),gi B]])])):List cx)=Z at hO
 have pm:∀ (r:cx) (X Y:List cx),(Z ++ (X ++ r :: Y)).Perm (r :: (Z ++ (X ++ Y))):=λr X Y=>by
  rw[<-aa6,<-aa6];exact aba
 have b0:=(hO.perm (pm _ _ _)).xM l (o:=.map (bP fE M3) c')
 have c9:bQ (H7.set n (.map (bP fE M3) c')) (.sl q4 0 1 1)=some ([[gi (x:Int)]],[q4]):=by simp[bQ,View.set,cc,N]
 simp(disch:=omega)only[↓wr,seval,wq,c9]
 refine ct b0 (by simp[aR]) (by unfold aD;simp;omega) (by unfold aD;simp;omega) ?_
 intro O H9 o9 l9
 have cf:=l9.map b0.head (b:=n) (c:=c') (es:=bP fE M3) (by simp[View.set])
 have cg:=l9.map b0.head (b:=qn) (c:=cM) (es:=bP fE M) (by simp only[View.set];rw[aat b1];exact t.mp)
 try simp(disch:=omega)only[↓wr,seval,wq]
 refine YM (kv:=fE) (id:=n) (c:=c') (b:=b) (m:=M3) (k:=((d:Int),(i:Int))) (v:=O) (by first | rfl | simp(disch:=omega)only[↓wr,seval,wq]) (by first | rfl | simp(disch:=omega)only[↓wr,seval,wq]) (by first | rfl | simp(disch:=omega)only[↓wr,seval,wq]) cf b5 b7 λc0=>?_
 have ch:=b5.UQ b7 O c0
 have cj:=λk'=>r5 ((d:Int),(i:Int)) k' O c0 M3
 rw[b9 O c0] at ch ⊢
 simp only[b9 O c0] at cj
 simp(disch:=omega)only[↓wr,seval,wq,t1,t4,t6,t7,t8,t9,t46,t47,t48,t54,t55,t56]
 refine aC hk (by omega) ⟨⟨A',c',P ++ (((d:Int),(i:Int)),O,bb) :: Qm,⟨?_,?_,t.bo,t.num,t.sl,t.al⟩,λz hz=>?_,by simp[View.set],ch,?_⟩,t1,t4,t6,t7,t8,t9,t46,t47,t48,t54,t55,by first | rfl | (congr 2)⟩
 .have da:jO (bB g a x (i+1)) (P ++ (((d:Int),(i:Int)),O,bb) :: Qm)=jO (bB g a x i) P ++ (O,1,gp lk ++ [[gi (x:Int)]]) :: jO (bB g a x i) Qm:=by
   rw[bx,show ∀ f:Int × Int->List Nat,jO f (P ++ (((d:Int),(i:Int)),O,bb) :: Qm)=jO f P ++ (O,1,gp (f ((d:Int),(i:Int)))) :: jO f Qm from λf=>by simp[jO],Rk c3,Rk c5]
   simp[MQ]
  have ck:=(o9.xM cf (o:=.map (bP fE (P ++ (((d:Int),(i:Int)),O,bb) :: Qm)) c')).perm (pm _ _ _).symm
  rw[da]
  have e:∀ (X1 X2 X3 X4 y:cx) (R K:List cx),(X1 :: X2 :: X3 :: X4 :: (R ++ [y])) ++ K=X1 :: X2 :: X3 :: X4 :: (R ++ (y :: K)):=λX1 X2 X3 X4 y R K=>by simp
  rw[<-hZ,e] at ck
  exact ck
 .show (H9.set n _) qn=_
  simp only[View.set];rw[aat b1];exact cg
 .rw[abi,abe,aaR,abL,sg,aaw (by rw[j.1];exact F),j.2]
  exact b3 z hz
 .refine⟨by simpa using ca.nd,λk' db=>?_⟩
  rw[cj k']
  split
  .simp
  .rename_i dc
   rw[cV]
   refine ca.all k' λh0=>db ?_
   rw[bx]
   unfold MQ
   rw[aat (λe=>dc (by simp[e]))]
   exact h0
section
variable {g:ai} {a:List aL} {H:View} {W qn cM:Nat} {M:bY (Int × Int)} {uw:V} {s e:Nat} {ws:List (Int × Int)} {Sl:List BV} {A:List (V × List Nat)} {L:List cx}
theorem dh.YK (h:dh g a H W qn cM M uw s e ws Sl A L) {q:Nat} (hq:H q=.dead) (sz:Nat) (es:List (List V)):dh g a (H.set q (.arr sz es)) W qn cM M uw s e ws Sl A ((.sl q 0 es.length sz,sz,es) :: L):=by
 have i:∀ (y a b c d:cx) (X L:List cx),(y :: a :: b :: c :: d :: (X ++ L)).Perm (a :: b :: c :: d :: (X ++ y :: L)):=λy a b c d X L=>(aba (l₁:=a :: b :: c :: d :: X)).symm
 have f:=h.fresh hq (o:=.arr sz es)
 exact⟨(h.own.new hq sz es).perm (i _ _ _ _ _ _ _),f.mp,f.bo,f.num,f.sl,f.al⟩
theorem dh.Y3 {y:cx} (h:dh g a H W qn cM M uw s e ws Sl A (y :: L)):dh g a H W qn cM M uw s e ws Sl A L :=
 ⟨h.own.sub (.cons_cons _ (.cons_cons _ (.cons_cons _ (.cons_cons _ (List.Sublist.append (.refl _) (.cons _ (.refl _))))))),h.mp,h.bo,h.num,h.sl,h.al⟩
theorem DK (b:g.dM):∀ (n z:Nat),(kM g a n z).length<=240 * n
 | 0,z=>by simp[kM]
 | n+1,z=>by
  have d:=DK b n
  have c:∀ k:Nat,k < g.rules.length->(aw g k).right.length<=6:=λk hk=>b.right _ (aax (show g.rules[k]?=some (aw g k) by unfold aw;exact getD_some hk))
  have e:=b.rules
  have h1:=Ba (a:=a) (x:=n) c g.rules.length (f:=kM g a n) (aaD _) d z
  unfold kM at h1 ⊢
  rw[abi,abe,aaR,abL,PR]
  omega
end
theorem of_walks {g:ai} {a:List aL} (r:cq g a) (u:bC g=true) (ha:a.length<=300) {W qn cM b:Nat} {M:bY (Int × Int)} {uw:V} {s e:Nat} {Sl:List BV} (C:qn≠b)
  {T:Env} {H:View} {Q:Exit->Env->View->Prop} {v:cO (T,H,Q)}
  (R:∃ (A:List (V × List Nat)) (c2:Nat) (M2:bY (Int × Int)),dh g a H W qn cM M uw s e (bj a) Sl A (jO (bB g a 0 0) M2)/\(∀ z,z < (bj a).length->(A.getD z (.any,[])).2=kM g a 0 z)/\H b=.map (bP fE M2) c2/\ix M2 c2/\so M2 (bB g a 0 0))
  (ht:T 1=.aH (ag g) 0/\T 4=aW a/\T 6=.ptr W 0 0/\T 7=.mp b/\T 46=uw/\T 47=gi (bj a).length/\T 48=gi 0)
  (hQ:∀ (h:Env) (H':View),(∃ (A:List (V × List Nat)) (c2:Nat) (M2:bY (Int × Int)),dh g a H' W qn cM M uw s e (bj a) Sl A (jO (bB g a (bj a).length 0) M2)/\(∀ z,z < (bj a).length->(A.getD z (.any,[])).2=kM g a (bj a).length z)/\H' b=.map (bP fE M2) c2/\ix M2 c2/\so M2 (bB g a (bj a).length 0)) ->
   h 1=.aH (ag g) 0->h 4=aW a->h 6=.ptr W 0 0->h 7=.mp b->Q (.exit 0) h H'):aS Tryz.prog wW T H Q v:=by
 have D:=rO r
 have an:(bj a).length<=40 * a.length:=nz r.ok.aJ a.length
 obtain⟨t1,t4,t6,t7,t46,t47,t48⟩:=ht
 refine aS.up (bj a).length (λx T H'=>(∃ (A:List (V × List Nat)) (c2:Nat) (M2:bY (Int × Int)),dh g a H' W qn cM M uw s e (bj a) Sl A (jO (bB g a x 0) M2)/\(∀ z,z < (bj a).length->(A.getD z (.any,[])).2=kM g a x z)/\H' b=.map (bP fE M2) c2/\ix M2 c2/\so M2 (bB g a x 0)) /\
  T 1=.aH (ag g) 0/\T 4=aW a/\T 6=.ptr W 0 0/\T 7=.mp b/\T 46=uw/\T 47=gi (bj a).length/\T 48=gi x) ⟨R,t1,t4,t6,t7,t46,t47,t48⟩ ?_
 clear R t1 t4 t6 t7 t46 t47 t48
 rintro x k T H1 hk ⟨⟨A,c2,M2,E,i,d,j,l⟩,t1,t4,t6,t7,t46,t47,t48⟩
 simp(disch:=omega)only[↓wr,seval,wq,wW,t46,t47,t48]
 apply ah.dec<;>intro hc
 rotate_left
 .have hi:x=(bj a).length:=by omega
  subst hi
  simp(disch:=omega)only[↓wr,seval,wq]
  exact hQ _ _ ⟨A,c2,M2,E,i,d,j,l⟩ t1 t4 t6 t7
 have t:(bj a)[x]?=some (dK a x):=getD_some (by omega)
 obtain⟨p,hp⟩:=vi (aax t)
 generalize aq:dK a x=y at t hp
 obtain⟨y1,B⟩:=y
 simp only at hp
 have F:y1=p:=by simpa using abk Prod.fst hp
 subst F
 clear hp
 have G:(oF (bj a)).getD x []=[gi (p:Int),gi B]:=by
  simp[aaq,t]
 obtain⟨hW,⟨w,m,hw⟩,hs,he,n1,n2,n3⟩:=E.at D
 have I:=DK (a:=a) r.cQ x
 simp(disch:=omega)only[↓wr,seval,wq,t1,t46,t47,t48,m,hw,G,ag,encS]
 refine⟨by omega,by omega,λS f=>?_⟩
 rw[set_set]
 have n:=E.YK f 2 [[gi (p:Int),gi B]]
 have c:(H1.set S (.arr 2 [[gi (p:Int),gi B]])) b=.map (bP fE M2) c2:=by
  simp only[View.set];rw[aat (λe=>by rw[<-e,d] at f;simp at f)];exact d
 generalize H1.set S (.arr 2 [[gi (p:Int),gi B]])=H2 at n c ⊢
 refine Uo r u ha t (f0:=kM g a x) (c0:=240 * x) I (by omega) C ⟨A,c2,M2,n,i,c,j,l⟩ ⟨t1,t4,t6,t7,rfl,rfl,by first | exact t46 | (rw[<-m];exact t46),t47,t48,rfl,rfl,rfl⟩ (λh H' hF U X Y Z o q J=>?_)
 obtain⟨A9,c9,M9,K,L,N,O,P⟩:=hF
 simp(disch:=omega)only[↓wr,seval,wq,U,X,Y,Z,o,q,J]
 refine aC hk (by omega) ⟨⟨A9,c9,M9,by rw[<-OA];exact K.Y3,λz hz=>?_,N,O,by rw[<-OA];exact P⟩,U,X,Y,Z,o,q,by first | rfl | (congr 2)⟩
 show _=kM g a (x+1) z
 unfold kM
 rw[abi,abe]
 exact L z hz
theorem YW {H0:View} {W s q k n:Nat} {f0 f1 f2 f3 f4 f5 f6 f7 f9 u:V} {Sl:List BV} {l:List Nat} (hW:H0 W=.arr 10 [[f0,f1,f2,f3,f4,f5,f6,f7,.sl s 0 n 1,f9]]) (hs:H0 s=.arr 1 (bV Sl)) (r:Sl.length=n) (hu:ba H0 u 1 (gp l)) (hl:∀ x∈l,x < n) (t:l.length<=100000) (hq:H0 q=.dead)
  {T:Env} {Q:Exit->Env->View->Prop} {v:cO (T,H0.set q (.arr 2 [[gi k,gw 0]]),Q)}
  (b:T 6=.ptr W 0 0/\T 17=.ptr q 0 0/\T 108=u/\T 109=gi l.length/\T 110=gi 0)
  (w:∀ (a:Env),(∀ j,j < 19->a j=T j)->a 13=T 13->a 14=T 14->a 88=T 88->a 89=T 89->a 94=T 94->a 95=T 95->Q (.exit 8) a (H0.set q (.arr 2 [[gi k,gw (nW (sF Sl) l)]]))):aS Tryz.prog xo T (H0.set q (.arr 2 [[gi k,gw 0]])) Q v:=by
 obtain⟨t6,t17,t108,t109,t110⟩:=b
 have n1:W≠q:=λe=>by rw[e,hq] at hW;simp at hW
 have z:s≠q:=λe=>by rw[e,hq] at hs;simp at hs
 refine aS.up l.length (λj a H'=>H0.set q (.arr 2 [[gi k,gw (nW (sF Sl) (l.take j))]])=H'/\(∀ j,j < 19->a j=T j)/\a 88=T 88/\a 89=T 89/\a 94=T 94/\a 95=T 95/\a 108=u/\a 109=gi l.length/\a 110=gi j) ⟨rfl,λ_ _=>rfl,rfl,rfl,rfl,rfl,t108,t109,t110⟩ ?_
 clear t108 t109 t110
 rintro j m p _ hm ⟨rfl,b,t88,t89,t94,t95,t108,t109,t110⟩
 have A:p 6=.ptr W 0 0:=by rw[b 6 (by omega)];exact t6
 have h:p 17=.ptr q 0 0:=by rw[b 17 (by omega)];exact t17
 simp(disch:=omega)only[↓wr,seval,wq,xo,t108,t109,t110]
 apply ah.dec<;>intro B
 rotate_left
 .simp(disch:=omega)only[↓wr,seval,wq]
  rw[aaJ (by omega)]
  exact w _ (λj C=>by
   have:=b j C
   rw[<-this]
   simp only[sd,Env.put]
   rw[aat (by omega),aat (by omega)]) (b 13 (by omega)) (b 14 (by omega)) t88 t89 t94 t95
 have o:l[j]?=some (l[j]'(by omega)):=aar (by omega)
 have f:=hl _ (aaC (show j < l.length by omega))
 have g:l.take (j+1)=l.take j ++ [l[j]'(by omega)]:=by rw[aaQ,o];rfl
 generalize l[j]'(by omega)=y at o f g
 obtain⟨id,c,d⟩:=hu.sl (by simp;omega)
 rw[aaA] at c
 have D:id≠q:=λe=>by rw[e,hq] at d;simp at d
 simp(disch:=omega)only[↓wr,seval,wq,t108,t109,t110,A,h,c,d,Er o,n1,z,D,hW,hs,qG (l:=Sl) (i:=y) (by omega),uR]
 refine⟨by omega,by omega,f,by omega,?_⟩
 rw[set_set]
 have E:nW (sF Sl) (l.take (j+1))=nW (sF Sl) (l.take j) ||| sF Sl y:=by
  rw[g];unfold nW;rw[abe];rfl
 refine aC hm (by omega) ⟨by rw[E],λi hi=>?_,t88,t89,t94,t95,by first | exact t108 | (rw[<-c];exact t108),t109,by first | rfl | (congr 2)⟩
 rw[<-b i hi]
 simp only[sd,Env.put]
 repeat rw[aat (by omega)]
theorem XX {g:ai} {a:List aL} {n k i:Nat} (hk:k < g.rules.length):bB g a n 0 ((i:Int),(k:Int))=jI g a n k i:=by
 unfold bB
 rw[aaw ⟨by simp only;omega,by simp only;omega,by simp only;omega⟩,aat (λh=>by have:=h.1;simp only at this;omega),abI]
 simp
theorem VY {g:ai} {a:List aL} (hA:cq g a) (ha:a.length<=300) {W qn cM J al c5:Nat} {M F:bY (Int × Int)} {uw:V} {s e:Nat} {Sl:List BV} {A:List (V × List Nat)} {i:Nat} (hi:i < a.length) (dj:qn≠J) (ca:so F (bB g a (bj a).length 0)) {fR:Nat->List cb}
  {T:Env} {H:View} {Q:Exit->Env->View->Prop} {v:cO (T,H,Q)}
  (hJ:∃ R:Lz,dh g a H W qn cM M uw s e (bj a) Sl A ((.sl al 0 a.length 1,1,bt R) :: (mQ R ++ jO (bB g a (bj a).length 0) F))/\R.length=a.length/\(∀ y,y < a.length->(R.getD y (.any,[])).2=if y=i then [] else fR y)/\H J=.map (bP fE F) c5)
  (ht:T 1=.aH (ag g) 0/\T 6=.ptr W 0 0/\T 7=.mp J/\T 13=.sl al 0 a.length 1/\T 14=gi i/\T 88=gi a.length/\T 89=gi i/\T 94=gi g.rules.length/\T 95=gi 0)
  (hQ:∀ (p:Env) (H':View),(∃ R:Lz,dh g a H' W qn cM M uw s e (bj a) Sl A ((.sl al 0 a.length 1,1,bt R) :: (mQ R ++ jO (bB g a (bj a).length 0) F))/\R.length=a.length/\(∀ y,y < a.length->(R.getD y (.any,[])).2=if y=i then CJ g a (sF Sl) i else fR y)/\H' J=.map (bP fE F) c5) ->
   p 1=.aH (ag g) 0->p 6=.ptr W 0 0->p 7=.mp J->p 13=.sl al 0 a.length 1->p 88=gi a.length->p 89=gi i->Q (.exit 6) p H'):aS Tryz.prog xx T H Q v:=by
 have cc:=rO hA
 have dm:(bj a).length<=40 * a.length:=nz hA.ok.aJ a.length
 have ds:=hA.cQ.rules
 obtain⟨t1,t6,t7,t13,t14,t88,t89,t94,t95⟩:=ht
 refine aS.up g.rules.length (λk T H'=>(∃ R:Lz,dh g a H' W qn cM M uw s e (bj a) Sl A ((.sl al 0 a.length 1,1,bt R) :: (mQ R ++ jO (bB g a (bj a).length 0) F))/\R.length=a.length/\(∀ y,y < a.length->(R.getD y (.any,[])).2=if y=i then (List.range k).filterMap (kd g a (sF Sl) i) else fR y)/\H' J=.map (bP fE F) c5) /\
  T 1=.aH (ag g) 0/\T 6=.ptr W 0 0/\T 7=.mp J/\T 13=.sl al 0 a.length 1/\T 14=gi i/\T 88=gi a.length/\T 89=gi i/\T 94=gi g.rules.length/\T 95=gi k) ⟨by simpa using hJ,t1,t6,t7,t13,t14,t88,t89,t94,t95⟩ ?_
 clear hJ t1 t6 t7 t13 t14 t88 t89 t94 t95
 rintro k m T H1 hm ⟨⟨R,Z,U,hR,G⟩,t1,t6,t7,t13,t14,t88,t89,t94,t95⟩
 simp(disch:=omega)only[↓wr,seval,wq,xx,t94,t95]
 apply ah.dec<;>intro hc
 rotate_left
 .have cf:k=g.rules.length:=by omega
  subst cf
  simp(disch:=omega)only[↓wr,seval,wq]
  exact hQ _ _ ⟨R,Z,U,hR,G⟩ t1 t6 t7 t13 t88 t89
 have cg:k < g.rules.length:=by omega
 have ar:=XX (g:=g) (a:=a) (n:=(bj a).length) (k:=k) (i:=i) cg
 have hu:ba H1 ((getM F ((i:Int),(k:Int))).getD (.emp 1)) 1 (gp (jI g a (bj a).length k i)):=by
  cases hg:getM F ((i:Int),(k:Int)) with
  | none =>
   have:bB g a (bj a).length 0 ((i:Int),(k:Int))=[]:=abB λch=>ca.all _ ch hg
   rw[ar] at this
   rw[this];exact .nil
  | some v =>
   obtain⟨P,Qm,b,rfl,_⟩:=zM hg
   have:=Z.own.1 (v,1,gp (bB g a (bj a).length 0 ((i:Int),(k:Int)))) (by simp[jO])
   rw[ar] at this
   exact this
 generalize cj:(getM F ((i:Int),(k:Int))).getD (.emp 1)=u at hu
 have a1:cU u=some (jI g a (bj a).length k i).length:=by rw[hu.len,aaA]
 have ck:(jI g a (bj a).length k i).length<=100000:=by
  unfold jI
  have:=abh (λx=>decide ((aw g k).left=(dK a x).2/\lM a (dK a x).1.toNat (aw g k).right=i)) (List.range (bj a).length)
  rw[List.length_range] at this
  omega
 have cu:∀ x∈jI g a (bj a).length k i,x < (bj a).length:=λx hx=>by
  unfold jI at hx
  exact abl.1 (abj.1 hx).1
 have cv:dQ Tryz.prog 114=some (119,43):=by kernel_rfl
 have hz:zeroV Tryz.prog 43=some (.emp 1):=by kernel_rfl
 simp(disch:=omega)only[↓wr,seval,wq,t7,t14,t95]
 refine Jm (kv:=fE) (kt:=119) (et:=43) (z:=.emp 1) (id:=J) (c:=c5) (m:=F) (k:=((i:Int),(k:Int))) cv hz (CH NJ) (by first | rfl | simp(disch:=omega)only[↓wr,seval,wq]) (by first | rfl | (simp(disch:=omega)only[↓wr,seval,wq];rfl)) G ?_
 rw[cj]
 have a6:(List.range (k+1)).filterMap (kd g a (sF Sl) i)=(List.range k).filterMap (kd g a (sF Sl) i) ++ (kd g a (sF Sl) i k).toList:=by
  rw[abi,List.filterMap_append]
  congr 1
 generalize a7:jI g a (bj a).length k i=E at *
 simp(disch:=omega)only[↓wr,seval,wq,a1]
 apply ah.eq<;>intro h0
 .simp(disch:=omega)only[↓wr,seval,wq,t1,t6,t7,t13,t14,t88,t89,t94,t95]
  have a8:E=[]:=abQ.1 (by omega)
  have cA:kd g a (sF Sl) i k=none:=by unfold kd;rw[a7,aaw a8]
  refine aC hm (by omega) ⟨⟨R,Z,U,λy hy=>?_,G⟩,t1,t6,t7,t13,t14,t88,t89,t94,by first | rfl | (congr 2)⟩
  rw[a6,cA]
  simpa using hR y hy
 have cC:kd g a (sF Sl) i k=some ⟨k,nW (sF Sl) E⟩:=by unfold kd;rw[a7,aat (λe=>h0 (by rw[e];rfl))]
 simp(disch:=omega)only[↓wr,seval,wq,t6,a1]
 intro q hq
 rw[set_set]
 obtain⟨hW,_,hs,he,n1,n2,n3⟩:=Z.at cc
 refine YW hW hs Z.sl hu cu ck hq ⟨t6,rfl,rfl,rfl,rfl⟩ (λp N bb bd bn br bs bx=>?_)
 have v1:p 1=.aH (ag g) 0:=(N 1 (by omega)).trans t1
 have v6:p 6=.ptr W 0 0:=(N 6 (by omega)).trans t6
 have v7:p 7=.mp J:=(N 7 (by omega)).trans t7
 have an:p 13=.sl al 0 a.length 1:=bb.trans t13
 have aq:p 14=gi i:=bd.trans t14
 have v17:p 17=.ptr q 0 0:=(N 17 (by omega)).trans rfl
 have b0:p 88=gi a.length:=bn.trans t88
 have b1:p 89=gi i:=br.trans t89
 have b2:p 94=gi g.rules.length:=bs.trans t94
 have cN:p 95=gi k:=bx.trans t95
 clear N bb bd bn br bs bx t1 t6 t7 t13 t14 t88 t89 t94 t95 hW hs he n1 n2 n3
 have t:=Z.fresh hq (o:=.arr 2 [[gi (k:Int),gw (nW (sF Sl) E)]])
 have O:(H1.set q (.arr 2 [[gi (k:Int),gw (nW (sF Sl) E)]])) J=.map (bP fE F) c5:=by
  simp only[View.set];rw[aat (λe=>by rw[<-e,G] at hq;simp at hq)];exact G
 have b3:(H1.set q (.arr 2 [[gi (k:Int),gw (nW (sF Sl) E)]])) q=.arr 2 [[gi (k:Int),gw (nW (sF Sl) E)]]:=by simp[View.set]
 generalize H1.set q (.arr 2 [[gi (k:Int),gw (nW (sF Sl) E)]])=H2 at t O b3 ⊢
 clear Z G hq hu
 obtain⟨f,⟨L,li⟩,j,rfl,I,_⟩:=oT (l:=R) (i:=i) (by omega)
 have cS:mQ (f ++ (L,li) :: j)=mQ f ++ (L,2,hX li) :: mQ j:=by simp[mQ]
 have S:=t.own
 rw[cS] at S
 have cV:(bt (f ++ (L,li) :: j)).length=a.length:=by rw[bt,aaA];exact U
 have c3:H2 al=.arr 1 (bt (f ++ (L,li) :: j)):=by
  have:=t.own.1 (.sl al 0 a.length 1,1,bt (f ++ (L,li) :: j)) (by simp)
  rcases this with ⟨_,kk,h⟩ | ⟨w,h1,h2⟩
  .simp at h
  .simp only[V.sl.injEq] at h1
   rw[h1.1];exact h2
 have b4:(bt (f ++ (L,li) :: j)).getD i []=[L]:=by rw[<-I];simp[bt]
 have b5:li=(List.range k).filterMap (kd g a (sF Sl) i):=by
  have:=hR i hi
  rw[aaw rfl] at this
  have e:((f ++ (L,li) :: j).getD i (V.any,([]:List cb))).2=li:=by rw[<-I];simp
  rw[e] at this
  exact this
 have dc:li.length<=40:=by
  rw[b5]
  have:=List.length_filterMap_le (kd g a (sF Sl) i) (List.range k)
  rw[List.length_range] at this
  omega
 simp(disch:=omega)only[↓wr,seval,wq,an,aq,v17,c3,b4,b3]
 refine⟨hi,by omega,λq9 C=>?_⟩
 have c9:bQ (H2.set q9 (.arr 2 [[gi (k:Int),gw (nW (sF Sl) E)]])) (.sl q9 0 1 2)=some ([[gi (k:Int),gw (nW (sF Sl) E)]],[q9]):=by simp[bQ,View.set]
 simp(disch:=omega)only[↓wr,seval,wq,c9]
 have lx:∀ (a b c d y r:cx) (X f j K:List cx),a :: b :: c :: d :: (X ++ y :: ((f ++ r :: j) ++ K))=(a :: b :: c :: d :: (X ++ y :: f)) ++ r :: (j ++ K):=λa b c d y r X f j K=>by simp
 have ly:∀ (a b c d y:cx) (X K:List cx),a :: b :: c :: d :: (X ++ y :: K)=(a :: b :: c :: d :: X) ++ y :: K:=λa b c d y X K=>by simp
 rw[lx] at S
 have D:=S.perm aba
 refine ct (D.fresh C) (by simp[aR]) (by unfold aD;simp[hX];omega) (by unfold aD;simp[hX];omega) ?_
 intro u2 H9 o9 l9
 have B:H9 al=.arr 1 (bt (f ++ (L,li) :: j)):=by
  have:=o9.1 (.sl al 0 a.length 1,1,bt (f ++ (L,li) :: j)) (by simp)
  rcases this with ⟨_,kk,h⟩ | ⟨w,h1,h2⟩
  .simp at h
  .simp only[V.sl.injEq] at h1
   rw[h1.1];exact h2
 have b7:=l9.map (D.fresh C).head (b:=J) (c:=c5) (es:=bP fE F) (by
  simp only[View.set];rw[aat (λe=>by rw[<-e,O] at C;simp at C)];exact O)
 have Y:=l9.map (D.fresh C).head (b:=qn) (c:=cM) (es:=bP fE M) (by
  have:=t.mp
  simp only[View.set];rw[aat (λe=>by rw[<-e,this] at C;simp at C)];exact this)
 have da:(bt (f ++ (L,li) :: j)).set i [u2]=bt (f ++ (u2,li ++ [⟨k,nW (sF Sl) E⟩]) :: j):=by rw[<-I];simp[bt]
 have b8:=o9.perm aba.symm
 rw[<-lx,ly] at b8
 have db:=(b8.perm aba).put (es':=bt (f ++ (u2,li ++ [(⟨k,nW (sF Sl) E⟩:cb)]) :: j)) (by simp[bt]) (by rw[cV])
 have b9:=db.perm aba.symm
 rw[<-ly] at b9
 simp(disch:=omega)only[↓wr,seval,wq,v1,v6,v7,an,aq,b0,b1,b2,cN,B,b4,o9.head.cells,o9.head.iO,da]
 refine⟨hi,by omega,?_⟩
 refine aC hm (by omega) ⟨⟨f ++ (u2,li ++ [⟨k,nW (sF Sl) E⟩]) :: j,⟨?_,?_,t.bo,t.num,t.sl,t.al⟩,by simpa using U,λy hy=>?_,?_⟩,v1,v6,v7,an,aq,b0,b1,b2,by first | rfl | (congr 2)⟩
 .rw[show mQ (f ++ (u2,li ++ [(⟨k,nW (sF Sl) E⟩:cb)]) :: j)=mQ f ++ (u2,2,hX li ++ [[gi (k:Int),gw (nW (sF Sl) E)]]) :: mQ j by simp[mQ,hX,zY]]
  exact b9
 .show (H9.set al _) qn=_
  simp only[View.set];rw[aat (λe=>by rw[<-e,Y] at B;simp at B)];exact Y
 .by_cases e:y=i
  .rw[aaw e,a6,cC,e,<-I]
   simp[b5,I]
  .rw[DN (y:=(L,li)) (by rw[I];exact e),aat e]
   have:=hR y hy
   rw[aat e] at this
   exact this
 .show (H9.set al _) J=_
  simp only[View.set];rw[aat (λe=>by rw[<-e,b7] at B;simp at B)];exact b7
theorem dh.WK {g:ai} {a:List aL} {H:View} {W qn cM:Nat} {M:bY (Int × Int)} {uw:V} {s e:Nat} {ws:List (Int × Int)} {Sl:List BV} {A:List (V × List Nat)} {y:cx} {K:List cx} (h:dh g a H W qn cM M uw s e ws Sl A (y :: K)):∀ n:Nat,dh g a H W qn cM M uw s e ws Sl A (y :: (mQ (List.replicate n (.emp 1,[])) ++ K))
 | 0=>by simpa [mQ] using h
 | n+1=>by
  have f:=dh.WK h n
  have l:∀ (a b c d y r:cx) (X K:List cx),a :: b :: c :: d :: (X ++ (y :: r :: K))=(a :: b :: c :: d :: (X ++ [y])) ++ r :: K:=λa b c d y r X K=>by simp
  have lw:∀ (a b c d y:cx) (X K:List cx),a :: b :: c :: d :: (X ++ (y :: K))=(a :: b :: c :: d :: (X ++ [y])) ++ K:=λa b c d y X K=>by simp
  have j:=f.own.emp (k:=1) (sz:=2)
  rw[lw] at j
  have i:=j.perm aba.symm
  rw[<-l] at i
  refine⟨?_,f.mp,f.bo,f.num,f.sl,f.al⟩
  rw[show mQ (List.replicate (n+1) ((.emp 1,[]):V × List cb)) ++ K=(.emp 1,2,[]) :: (mQ (List.replicate n (.emp 1,[])) ++ K) by simp[mQ,hX,List.replicate_succ]]
  exact i
theorem QO (g:ai) (hg:g.Ok) (P:g.Small):cW Tryz.prog 33 [.agg (ag g)] (.bD [sW (oE g).1,gi (oE g).2]):=by
 refine cW.of (eK g) ?_
 have hB:=(IT g hg P).pure
 refine av.of mixed KE ?_
 simp only[ag,encS] at hB
 simp(disch:=omega)only[↓wr,seval,wq,Ic,ag,encS]
 refine ay.pure hB ?_
 unfold oE
 simp(disch:=omega)only[↓wr,seval,wq]
 apply ah.ne<;>intro h
 .simp(disch:=omega)only[↓wr,seval,wq]
  intro h' _
  rw[aat h]
  exact lB (.emp _)
 rw[aaw h]
 have hr:isRed g=true:=by
  rcases Hp g with ⟨_,hr⟩ | ⟨h2,hr⟩ | ⟨h2,hr⟩
  .exact hr
  .exact hr
  .rw[h2] at h;simp at h
 have Q:=iC hr
 have S:=nr hr
 obtain⟨o1,o2,o3⟩:=D3 S h
 have C:cq g (bJ g).1:=⟨S,o1,Fk S h,Fa S h,o2⟩
 generalize (bJ g).1=a at *
 have d:=rO C
 have b8:(bj a).length<=40 * a.length:=nz C.ok.aJ a.length
 have U:=Vb g hg P a o3 (λs hs=>⟨o1.aJ s hs,o1.sym s hs⟩) (By C) d
 simp only[ag,encS] at U
 simp(disch:=omega)only[↓wr,seval,wq,ag,encS]
 refine ay.dr ((U _).mono ?_)
 rintro r H1 ⟨W,qn,cM,M,uw,s,e,rfl,hI⟩
 simp(disch:=omega)only[↓wr,seval,wq]
 refine ay.dr ((WZ C Q o3 hI).mono ?_)
 rintro r H2 ⟨e2,Sl,A,D,bl⟩
 obtain⟨hW,⟨w,bn,hw⟩,hs,he,n1,n2,n3⟩:=D.at d
 have F:cU uw=some (bj a).length:=by rw[bn];rfl
 have X:∀ q,H2 q=.dead->W≠q:=λq hq e=>by rw[e,hq] at hW;simp at hW
 simp(disch:=omega)only[↓wr,seval,wq,hW,F]
 refine⟨⟨by omega,by unfold aD;omega,by unfold aD;omega⟩,λh0=>by omega,λ_ O G=>?_⟩
 have w1:=X O G
 simp(disch:=omega)only[↓wr,seval,wq,w1,F]
 intro j c
 obtain⟨b1,c⟩:=jD c
 obtain⟨b2,c⟩:=jD c
 simp(disch:=omega)only[↓wr,seval,wq,Ne.symm b1,F]
 have l:=D.WJ G
 have b:((H2.set O (.arr 1 (List.replicate (bj a).length [V.emp 1]))).set W (.arr 10 [[V.aE (g.af.map cm),.aE (g.ak.map λs=>[gs s]),.aE (g.rules.map aU),gi g.start,aW a,bO (au g false),.mp qn,uw,.sl s 0 (bj a).length 1,.sl O 0 (bj a).length 1]])) j=.dead:=by
  simp only[View.set];rw[aat b1,aat b2];exact c
 generalize ((H2.set O (.arr 1 (List.replicate (bj a).length [V.emp 1]))).set W (.arr 10 [[V.aE (g.af.map cm),.aE (g.ak.map λs=>[gs s]),.aE (g.rules.map aU),gi g.start,aW a,bO (au g false),.mp qn,uw,.sl s 0 (bj a).length 1,.sl O 0 (bj a).length 1]]))=H3 at l b ⊢
 have Y:qn≠j:=λe=>by have:=l.mp;rw[e,b] at this;simp at this
 have H:=l.fresh b (o:=.map [] 0)
 have f:(H3.set j (.map [] 0)) j=.map (bP fE []) 0:=by simp[View.set,bP]
 generalize H3.set j (.map [] 0)=H4 at H f ⊢
 clear hI D l b c G hW hw hs he n1 n2 n3 X w1 b1 b2
 refine of_walks C Q o3 Y ⟨_,0,[],H,λz hz=>by simp[aaq,hz,kM],f,⟨by simp,by simp⟩,⟨by simp,λk hk=>absurd (by rw[XI]) hk⟩⟩ ⟨rfl,rfl,rfl,rfl,rfl,rfl,rfl⟩ (λT' H' hF u1 u4 u6 u7=>?_)
 obtain⟨A5,c5,M5,m,br,n,b9,bs⟩:=hF
 clear H f
 obtain⟨-,-,Z,-⟩:=m.at d
 have bx:∀ x,x < (bj a).length->(kM g a (bj a).length x).length<=1000000000/\∀ y∈kM g a (bj a).length x,y < (bj a).length:=λx hx=>⟨abp (DK S _ _) (by omega),λy I=>((D5 _).1 I).1⟩
 have b0:=m.Ya d (E:=kM g a (bj a).length) br bx
 simp(disch:=omega)only[↓wr,seval,wq,u6]
 refine ay.dr ((Hu b0 d (by omega) Sl Z m.sl).mono ?_)
 rintro r H6 ⟨Sl',k1,k2,k3,k4⟩
 have an:=(m.AS (Sl':=Sl') k1).stay (H':=H6) λid J=>by
  simp only[View.set] at J ⊢
  by_cases e:id=s
  .rw[aaw e,e];exact k2
  .rw[aat e] at J ⊢
   exact k4 id J e
 have aq:H6 j=.map (bP fE M5) c5:=by
  rw[k4 j (by rw[n];simp) (λe=>by rw[e,Z] at n;simp at n)];exact n
 have hS:∀ (x p t:Nat) (B:Int),(bj a)[x]?=some ((p:Int),B)->((sF Sl' x).getLsbD t=true↔xj g a p B t):=λx p t B hx =>
  (k3 x t (aaG.1 hx).1).trans (Uq C bl hx)
 simp(disch:=omega)only[↓wr,seval,wq,u4,aW]
 refine⟨⟨aaD _,by unfold aD;omega,by unfold aD;omega⟩,λh0=>by omega,λ_ al K=>?_⟩
 have L:=an.YK K 1 (List.replicate a.length [V.emp 1])
 rw[abC] at L
 have u:=L.WK a.length
 rw[show List.replicate a.length [V.emp 1]=bt (List.replicate a.length ((.emp 1,[]):V × List cb)) by simp[bt]] at u
 have v:(H6.set al (.arr 1 (List.replicate a.length [V.emp 1]))) j=.map (bP fE M5) c5:=by
  simp only[View.set];rw[aat (λe=>by rw[<-e,aq] at K;simp at K)];exact aq
 rw[show List.replicate a.length [V.emp 1]=bt (List.replicate a.length ((.emp 1,[]):V × List cb)) by simp[bt]] at v
 rw[show List.replicate a.length [V.emp 1]=bt (List.replicate a.length ((.emp 1,[]):V × List cb)) by simp[bt]]
 generalize H6.set al (.arr 1 (bt (List.replicate a.length ((.emp 1,[]):V × List cb))))=H8 at u v ⊢
 try simp(disch:=omega)only[↓wr,seval,wq]
 refine aS.up a.length (λi T H'=>(∃ R:Lz,dh g a H' W qn cM M uw s O (bj a) Sl' A5 ((.sl al 0 a.length 1,1,bt R) :: (mQ R ++ jO (bB g a (bj a).length 0) M5))/\R.length=a.length/\(∀ y,y < a.length->(R.getD y (.any,[])).2=if y < i then CJ g a (sF Sl') y else [])/\H' j=.map (bP fE M5) c5) /\
  T 1=.aH (ag g) 0/\T 6=.ptr W 0 0/\T 7=.mp j/\T 13=.sl al 0 a.length 1/\T 88=gi a.length/\T 89=gi i) ⟨⟨_,u,by simp,λy I=>by simp[aaq,I],v⟩,u1,u6,u7,rfl,rfl,rfl⟩ ?_
 clear an L u v u1 u4 u6 u7
 rintro i k T H9 hk ⟨⟨R,N,ar,hR,b3⟩,t1,t6,t7,t13,t88,t89⟩
 simp(disch:=omega)only[↓wr,seval,wq,Dy,t88,t89]
 apply ah.dec<;>intro hc
 rotate_left
 .simp(disch:=omega)only[↓wr,seval,wq,t13]
  rintro h' rfl
  have a1:=N.own.1 (.sl al 0 a.length 1,1,bt R) (by simp)
  have b4:R.map (·.2)=gh g a:=by
   unfold gh
   refine List.ext_getElem (by simp[ar]) λy h1 h2=>?_
   rw[aaA] at h1
   have:=hR y (by omega)
   rw[aaw (by omega),Vy C hr hS (by omega)] at this
   rw[List.getElem_map,List.getElem_map,List.getElem_range,<-this]
   simp[aaq,h1]
  rw[<-b4]
  exact lB (N6 a1 λx hx=>N.own.1 (x.1,2,hX x.2) (by
   have:(x.1,2,hX x.2)∈mQ R:=aaM.2 ⟨x,hx,rfl⟩
   simp only[aaI,aaZ,this,true_or,or_true]))
 simp(disch:=omega)only[↓wr,seval,wq,t1,t88,t89,ag,encS]
 refine VY C o3 (i:=i) (by omega) Y bs (fR:=λy=>if y < i then CJ g a (sF Sl') y else []) ⟨R,N,ar,λy I=>?_,b3⟩ ⟨t1,t6,t7,t13,rfl,t88,t89,rfl,rfl⟩ (λT' H' hF v1 v6 v7 a6 a7 b5=>?_)
 .rw[hR y I]
  by_cases e:y=i
  .rw[aaw e,aat (by omega)]
  .rw[aat e]
 .obtain⟨R9,a8,bb,b7,bd⟩:=hF
  simp(disch:=omega)only[↓wr,seval,wq,v1,v6,v7,a6,a7,b5]
  refine aC hk (by omega) ⟨⟨R9,a8,bb,λy I=>?_,bd⟩,v1,v6,v7,a6,a7,by first | rfl | (congr 2)⟩
  rw[b7 y I]
  by_cases e:y=i
  .rw[aaw e,aaw (by omega),e]
  .rw[aat e]
   by_cases e2:y < i
   .rw[aaw e2,aaw (by omega)]
   .rw[aat e2,aat (by omega)]
section
variable {g:ai} {a:List aL}
theorem XO (k:Nat):bp g ⟨k,((aw g k).right.length:Nat)⟩=(0,false):=by
 have a:aP g (k:Int)=(aw g k).right:=by rw[aP,aat (by omega)]
 unfold bp;simp only[a,if_true]
theorem WL {x:aA} (d:cG g x) (a:(bp g x).2=false) (e:0<=x.ax):∃ k:Nat,k < g.rules.length/\x=⟨k,((aw g k).right.length:Nat)⟩:=by
 obtain⟨k,hk⟩:∃ k:Nat,x.ax=k:=⟨x.ax.toNat,by omega⟩
 have b:k < g.rules.length:=by have:=d.1;omega
 refine⟨k,b,?_⟩
 have c:aP g (k:Int)=(aw g k).right:=by rw[aP,aat (by omega)]
 unfold bp at a
 rw[hk,c] at a
 split at a
 .rename_i h
  cases x
  simp only at hk h
  rw[hk,h]
 .simp at a
theorem Kc (e:cq g a) {i:Nat} (hi:i < a.length) {x:cb} : x∈gB g a i↔∃ k:Nat,k < g.rules.length/\(⟨k,((aw g k).right.length:Nat)⟩:aA)∈jq g a i/\x=⟨k,oX g a i ⟨k,((aw g k).right.length:Nat)⟩⟩:=by
 have c:(aX g a).getD i []=jq g a i:=by
  unfold aX jq
  simp[aaq,aar hi]
 rw[gB,c,abJ]
 constructor
 .rintro⟨y,b,h⟩
  split at h
  .rename_i d
   obtain⟨k,hk,rfl⟩:=WL (e.has hi b) d.1 d.2
   exact⟨k,hk,b,by simpa using h.symm⟩
  .simp at h
 .rintro⟨k,hk,b,rfl⟩
  exact⟨_,b,by rw[aaw ⟨by rw[XO],by simp only;omega⟩]⟩
theorem NM {i k t:Nat} (b:t < 32):(oX g a i ⟨k,((aw g k).right.length:Nat)⟩).getLsbD t=true↔ll g (au g false) a (aX g a) i ⟨k,((aw g k).right.length:Nat)⟩ t:=by
 rw[oX,yI _ 32 t (aaD _)]
 simp[b]
theorem SL (i:Nat):(gB g a i).Pairwise λx y=>x.ax < y.ax:=by
 have hs:cB ((aX g a).getD i []):=by
  unfold aX
  rw[aaq,aav]
  cases a[i]? with
  | none=>simp[cB]
  | some s=>exact jk g _
 rw[gB,List.pairwise_filterMap]
 refine hs.imp λ{x y} d b f m c=>?_
 split at f
 .rename_i h1
  split at c
  .rename_i k
   simp only[aau] at f c
   rw[<-f,<-c]
   simp only
   rw[fo] at d
   rcases d with h | ⟨h,n⟩
   .exact h
   .exfalso
    have e:∀ z:aA,(bp g z).2=false->z.dot=(aP g z.ax).length:=λz j=>by
     unfold bp at j
     split at j
     .assumption
     .simp at j
    have l:=e x h1.1
    have o:=e y k.1
    rw[h] at l
    omega
  .simp at c
 .simp at f
theorem Q2 (b:cq g a) (hr:isRed g=true) {i:Nat} (hi:i < a.length) {x:cb} (d:x∈gB g a i) :
  (0<=x.ax/\x.ax < g.rules.length)/\x.set≠0/\iL x.set ((lJ g (au g false)).getD (aw g x.ax).left.toNat 0):=by
 obtain⟨k,hk,hm,rfl⟩:=(Kc b hi).1 d
 have f:g.rules[k]?=some (aw g k):=by unfold aw;exact getD_some hk
 refine⟨by simp only;omega,λe=>?_,λt c=>?_⟩
 .obtain⟨t,c,h⟩:=O2 b hr (i+1) i (by omega) hi _ hm
  have:=(NM c).2 h
  simp only at e
  rw[e] at this
  simp at this
 .have hl:t < 32:=BitVec.lt_of_getLsbD c
  obtain⟨p,m,j,l⟩:=(T6 b hr hk).1 ((NM hl).1 c)
  exact Pa b l (b.cQ.left _ (aax f)).1 j
theorem Ul (b:cq g a) (hr:isRed g=true) {k:Nat} (hk:k < g.rules.length):∃ p,ez a p (-1 - (aw g k).left):=by
 have c:g.rules[k]?=some (aw g k):=by unfold aw;exact getD_some hk
 have hl:=b.cQ.left _ (aax c)
 have:=UM b hr (SN hr (aw g k).left.toNat (by omega))
 rwa [show (((aw g k).left.toNat:Nat):Int)=(aw g k).left by omega] at this
theorem Yj (b:cq g a) {p k:Nat} (hk:k < g.rules.length) (hE:ez a p (-1 - (aw g k).left)):∃ q,q < a.length/\jz a p (aw g k).right q/\(⟨k,((aw g k).right.length:Nat)⟩:aA)∈jq g a q:=by
 have e:g.rules[k]?=some (aw g k):=by unfold aw;exact getD_some hk
 have c:aP g (k:Int)=(aw g k).right:=by rw[aP,aat (by omega)]
 have hm:=lK b (fK hE) (b.cQ.left _ (aax e)).1 hk rfl hE
 obtain⟨q,f,h,d⟩:=b.fwd k (aw g k).right 0 p (fK hE) hm ⟨[],by rw[c];simp⟩
 rw[aby] at d
 exact⟨q,f,h,d⟩
theorem U2 (b:cq g a) (hr:isRed g=true) {k:Nat} (hk:k < g.rules.length):∃ i,i < a.length/\∃ x∈gB g a i,x.ax=k:=by
 obtain⟨p,hE⟩:=Ul b hr hk
 obtain⟨q,c,_,d⟩:=Yj b hk hE
 exact⟨q,c,_,(Kc b c).2 ⟨k,hk,d,rfl⟩,rfl⟩
end
theorem GR {g:ai} (h:(bJ g).2=0):isRed g=true/\cq g (bJ g).1/\(bJ g).1.length<=300:=by
 have hr:isRed g=true:=by
  rcases Hp g with ⟨_,hr⟩ | ⟨b,hr⟩ | ⟨b,hr⟩
  .exact hr
  .exact hr
  .rw[b] at h;simp at h
 have a:=nr hr
 obtain⟨c,d,e⟩:=D3 a h
 exact⟨hr,⟨a,c,Fk a h,Fa a h,d⟩,e⟩
structure Xc (g:ai) (L:List (List cb)):Prop where
 len:L.length<=300
 row:∀ i:Nat,((L.getD i []).length<=287)
 fact:∀ (i:Nat),∀ x∈L.getD i [],(0<=x.ax/\x.ax < g.rules.length)/\x.set≠0/\iL x.set ((lJ g (au g false)).getD (aw g x.ax).left.toNat 0)
 sort:∀ i:Nat,(L.getD i []).Pairwise λx y=>x.ax < y.ax
 all:∀ k:Nat,k < g.rules.length->∃ i,i < L.length/\∃ x∈L.getD i [],x.ax=k
theorem Xr {g:ai} (h:(bJ g).2=0):Xc g (gh g (bJ g).1):=by
 obtain⟨hr,b,d⟩:=GR h
 have c:∀ i:Nat,(gh g (bJ g).1).getD i []=if i < (bJ g).1.length then gB g (bJ g).1 i else []:=λi=>by
  rw[gh,aaq,aav]
  split
  .rename_i hi;rw[abS hi];rfl
  .rename_i hi;rw[aa1 (by simp;omega)];rfl
 refine⟨by simpa [gh] using d,λi=>?_,λi x a=>?_,λi=>?_,λk hk=>?_⟩
 .rw[c]
  split
  .rename_i hi
   unfold gB
   refine abp (List.length_filterMap_le _ _) ?_
   rw[show (aX g (bJ g).1).getD i []=jq g (bJ g).1 i by unfold aX jq;simp[aaq,aar hi]]
   exact gK b.cQ (jk _ _) λy f=>b.has hi f
  .simp
 .rw[c] at a
  split at a
  .rename_i hi;exact Q2 b hr hi a
  .simp at a
 .rw[c]
  split
  .exact SL i
  .exact .nil
 .obtain⟨i,hi,x,a,e⟩:=U2 b hr hk
  exact⟨i,by simpa [gh] using hi,x,by rw[c,aaw hi];exact a,e⟩
def vV:SC :=
 ae [ab [aQ 35 .lss 34 33],bS 35 (.exit 0),.block 1 (ae [ab [aa 36 34,aI 37 2 32 34,aY 38 2 37,((some 10),.op (.alloc [(.emp 1),(.emp 1)])),aa 9 36,bZ 2 10 38],ab [aa 39 8,aa 40 9,aY 41 2 10,aa 42 7,aa 43 9,aI 44 1 42 43,aj 45 44,bm 46 85 [39,40,41,45]]]),ab [aF 47 .add 34 1,aa 34 47]]
def Ad:SF:=⟨ae [ab [cy 1 0,((some 2),.op (.alloc [(.emp 1),(.emp 1)])),cT 3 1,aT 4 0],ab [aY 12 4 1,bm 13 24 [12],aa 11 13,eP 14 0 11,eP 15 1 11,aa 5 14,aa 6 15],ae [ab [aa 16 6,aF 17 .neq 16 0],bf 17 (ae [ab [((some 18),.op (.build [(.emp 1),(.emp 1)] [])),aa 19 6,bZ 2 2 18,cT 3 1,aa 4 19],.ret])],ab [aY 21 4 1,bm 22 33 [21],aa 20 22,eP 23 0 20,eP 24 1 20,aa 7 23,aa 6 24],ae [ab [aa 25 6,aF 26 .neq 25 0],bf 26 (ae [ab [((some 27),.op (.build [(.emp 1),(.emp 1)] [])),aa 28 6,bZ 2 2 27,cT 3 1,aa 4 28],.ret])],ab [aY 29 4 1,((some 30),.op (.build [(.emp 1),(.emp 1),(.emp 1),(.val (.int .i64 0)),(.emp 1),(.emp 1),(.emp 1)] [(0,4,(.tmp 29))])),((some 31),.op (.box (.tmp 30))),aa 8 31],ae [ab [aa 32 5,aM 33 32,aT 34 0],bX 0 vV],.pv [(54,2)] [⟨none,[aa 48 8,cR 49 48,ao 50 4 49,aY 51 2 50,aa 52 8,cR 53 52,ao 54 6 53,aj 55 54,bZ 2 2 51,aa 3 55,aT 4 0]⟩],.ret],
 [.cell 2 (some 2),.tmp 3,.tmp 4],56⟩
theorem DH:aO Tryz.prog 43 [1]=some Ad:=by kernel_rfl
theorem Yy {α:Type} {u b k:α} {L:List α} : (u :: b :: k :: L).Perm (k :: u :: b :: L):=aba (l₁:=[u,b])
theorem Mg {g:ai} {a:List aL} (b:cq g a) (i:Nat):(gB g a i).length<=287:=by
 unfold gB
 refine abp (List.length_filterMap_le _ _) ?_
 unfold aX
 rw[aaq,aav]
 cases h:a[i]? with
 | none=>simp
 | some s =>
  have hk:=b.ok.bc s (aax h)
  exact gK b.cQ (jk _ _) λy c=>((c6 b.cQ hk.2.2).1 c).has hk.2.2
theorem HQ {g:ai} {a:List aL} (b:cq g a) {i:Nat} (hi:i < a.length):((a.getD i aN).aJ.map cr.sym).Nodup/\∀ e∈(a.getD i aN).aJ,fP g e.sym=true:=by
 have hm:a.getD i aN∈a:=aax (getD_some hi)
 refine⟨by rw[b.x.all _ hm];exact w6 g _ _,λe he=>?_⟩
 obtain⟨x,c,d⟩:=(b.mh hi).1 ⟨e,he,rfl⟩
 exact oS b.cQ (b.has hi c) d
theorem Tn (g:ai) (M:g.Ok) (j:g.Small):cW Tryz.prog 43 [.agg (ag g)] (.bD [.agg (cJ (Cq g).1),.aE (jX (Cq g).2.1),gi (Cq g).2.2]):=by
 refine cW.of (eK g) ?_
 have N:=(IT g M j).pure
 have hO:=(QO g M j).pure
 refine av.of mixed DH ?_
 simp only[ag,encS] at N hO
 simp(disch:=omega)only[↓wr,seval,wq,Ad,ag,encS]
 intro y
 refine ay.pure N ?_
 unfold Cq
 simp(disch:=omega)only[↓wr,seval,wq]
 apply ah.ne<;>intro h
 .simp(disch:=omega)only[↓wr,seval,wq]
  intro h' _
  rw[aat h]
  exact Is (.emp _) (.emp _) (.emp _)
 rw[aaw h]
 obtain⟨hr,J,Y⟩:=GR h
 have d:oE g=(gh g (bJ g).1,0):=by unfold oE;rw[aaw h]
 rw[d] at hO ⊢
 have an:(gh g (bJ g).1).length=(bJ g).1.length:=by simp[gh]
 have B:∀ i:Nat,i < (bJ g).1.length->(gh g (bJ g).1)[i]?=some (gB g (bJ g).1 i):=λi hi=>by rw[gh,aav,abS hi];rfl
 generalize (bJ g).1=a at *
 have C:=Mg J
 have O:∀ i:Nat,((gh g a).getD i []).length<=10000:=λi=>by
  rw[aaq]
  rcases aaT i a.length with hi | hi
  .rw[B i hi];have:=C i;simp only[aaL];omega
  .rw[aa1 (by omega)];simp
 clear N h d
 have P:=nr hr
 have Q:=iC hr
 have hT:=P.af
 have hN:=P.ak
 generalize gh g a=L at *
 simp(disch:=omega)only[↓wr,seval,wq,ag,encS]
 refine ay.pure hO ?_
 simp(disch:=omega)only[↓wr,seval,wq,aW]
 intro m o
 have D:m≠y:=(df o c7).1
 have Z:=(bk.nil.new (n:=y) (H:=λ_=>di.dead) rfl 2 [[.emp 1,.emp 1]]).new (n:=m) (by simpa [View.set] using o) 7 [eN g (.emp 1) (.emp 1) (.emp 1)]
 have K:=((((Z.emp (k:=1) (sz:=1)).emp (k:=1) (sz:=1)).emp (k:=1) (sz:=5)).perm (.cons _ Yy)).perm (.cons _ (.cons _ (.swap _ _ _)))
 clear Z o
 simp only[eN,aaK,aa2] at K
 generalize ((View.set (λ_=>di.dead) y (.arr 2 [[.emp 1,.emp 1]])).set m (.arr 7 [[V.aE (g.af.map cm),.aE (g.ak.map λs=>[gs s]),.aE (g.rules.map aU),gi g.start,.emp 1,.emp 1,.emp 1]]))=H0 at K ⊢
 refine aS.up a.length (λi T H'=>∃ (p r z:V) (A:Jl) (G:Pd),A.map (·.2)=(jG g a L i).aZ/\G.map (·.2)=(jG g a L i).gotos /\
  bk H' ((z,5,jX (rN g a L i)) :: (.sl m 0 1 7,7,[eN g p r z]) :: (p,1,bt A) :: (r,1,bt G) :: (zf A ++ zP G ++ [(.sl y 0 1 2,2,[[.emp 1,.emp 1]])]))/\T 2=.ptr y 0 0/\T 7=sW L/\T 8=.ptr m 0 0/\T 32=aW a/\T 33=gi a.length/\T 34=gi i)
  ⟨.emp 1,.emp 1,.emp 1,[],[],rfl,rfl,by simpa [rN,bt,zf,zP,jX] using K,rfl,rfl,rfl,rfl,rfl,rfl⟩ ?_
 clear K
 rintro i k T H hk ⟨p,r,z,A,G,t,u,w,t2,t7,t8,t32,t33,t34⟩
 simp(disch:=omega)only[↓wr,seval,wq,vV,t2,t7,t8,t32,t33,t34]
 apply ah.dec<;>intro hc
 .have c:i < a.length:=by omega
  have hs:a[i]?=some (a.getD i aN):=getD_some c
  have hl:=B i c
  have E:L.getD i []=gB g a i:=by rw[aaq,hl];rfl
  have e:=AX g a L i
  have aq:=D9 (g:=g) (a:=a) (l:=L) O hT i
  have b:(jG g a L (i+1)).aZ=(jG g a L i).aZ ++ [fX g (a.getD i aN) (gB g a i) i (g.af.length+1)]/\(jG g a L (i+1)).gotos=(jG g a L i).gotos ++ [rL g a i]:=by
   simp only[jG,abi,aaS,aaW,ab3,E,and_self]
  rw[E] at e
  obtain⟨en,es⟩:=HQ J c
  have lA:=abk List.length t
  have lG:=abk List.length u
  simp only[jG,aaA,List.length_range] at lA lG
  have F:=J.ok.bc _ (aax hs)
  have I:=Sn g M j Q a J.ok i c en es (by unfold aK;have:=gK P F.1 F.2.2;omega) (gB g a i) (by have:=C i;omega) p r z A G (rN g a L i) (by omega) (by omega) (by omega) m
  generalize gB g a i=lk at *
  generalize a.getD i aN=s at *
  simp only[eu] at I
  simp(disch:=omega)only[↓wr,seval,wq,t2,t7,t8,t32,t33,t34,aW,sW,aav,hs,hl,aaz,eu]
  intro q hq
  rw[set_set]
  refine ay.dr ((I _ _ (w.fresh hq)).mono ?_)
  rintro v H7 ⟨R,S,U,ur,uk,f⟩
  simp(disch:=omega)only[↓wr,seval,wq,t2,t7,t8,t32,t33,t34]
  refine aC hk (by omega) ⟨R,S,U,A ++ [(ur,fX g s lk i (g.af.length+1))],G ++ [(uk,rL g a i)],?_,?_,?_,t2,t7,t8,t32,t33,rfl⟩
  .rw[aaS,t,b.1];rfl
  .rw[aaS,u,b.2];rfl
  .rw[e];exact f
 .have W:i=a.length:=by omega
  subst W
  have h9:=w.is 1 rfl (by simp)
  have o4:=w.perm (ab7 (.sl y 0 1 2,2,[[.emp 1,.emp 1]]) ((z,5,jX (rN g a L a.length)) :: (.sl m 0 1 7,7,[eN g p r z]) :: (p,1,bt A) :: (r,1,bt G) :: (zf A ++ zP G)))
  have h2:=o4.is 0 rfl (by simp)
  have ca:=(w.own 2 rfl).cells
  have ka:=(w.own 2 rfl).iO
  have cg:=(w.own 3 rfl).cells
  have kg:=(w.own 3 rfl).iO
  simp(disch:=omega)only[↓wr,seval,wq,t2,t7,t8,h9,h2,ca,ka,cg,kg,eN]
  refine⟨D,λh' hv=>?_⟩
  have f:=o4.put (es':=[[p,r]]) rfl rfl
  rw[<-hv] at f
  unfold cJ
  rw[<-t,<-u]
  refine Is (TI (f.own 3 rfl) λx X=>f.1 (x.1,2,x.2.map cK) ?_) (UR.frn ⟨G,rfl,f.own 4 rfl,λx X=>f.1 (x.1,1,bK x.2) ?_⟩) (Yr (f.own 1 rfl))
  .simp only[aaI,aaZ]
   exact .inr (.inr (.inr (.inr (.inr (.inl (aaM.2 ⟨x,X,rfl⟩))))))
  .simp only[aaI,aaZ]
   exact .inr (.inr (.inr (.inr (.inr (.inr (aaM.2 ⟨x,X,rfl⟩))))))
section
variable {g:ai} {a:List aL} {L:List (List cb)}
theorem HA (b:mX g a) {i:Nat} (hi:i < a.length) (s:Int):ef a i [s]=match gg (a.getD i aN).aJ s with | some c=>(c.n,true) | none=>(0,false):=by
 have d:ef a i [s]=eS a i [s]:=by unfold ef;rw[aat (by omega)]
 have f:eS a i [s]=if 0<=dz (a.getD i aN).aJ s/\dz (a.getD i aN).aJ s < a.length then (dz (a.getD i aN).aJ s,true) else (0,false):=by
  rw[eS,aaN];simp only[eS]
 rw[d,f,BC]
 cases h:gg (a.getD i aN).aJ s with
 | none=>rw[aat (by simp[De])]
 | some c =>
  obtain⟨e,he,_,rfl⟩:=vH h
  have:=b.to _ (aax (getD_some hi)) e he
  rw[aaw (by simp only[De];omega)]
  rfl
theorem PF {l:List cb} {n r:Int} (h:r∈dt l n):∃ x∈l,x.ax=r:=by
 unfold dt at h
 obtain⟨x,a,rfl⟩:=aaM.1 h
 exact⟨x,(abj.1 a).1,rfl⟩
theorem PE (b:mX g a) {i:Nat} (hi:i < a.length) (k:Int):jm g a.length (eE g (a.getD i aN) k)=true:=by
 unfold eE
 cases h:gg (a.getD i aN).aJ k with
 | some c =>
  obtain⟨e,he,_,rfl⟩:=vH h
  have:=b.to _ (aax (getD_some hi)) e he
  simp[jm];omega
 | none =>
  simp only
  split
  .simp[jm]
  .simp[jm]
theorem RO (b:mX g a) {i:Nat} (hi:i < a.length) (k:Int) {l:List cb} (hl:∀ x∈l,0<=x.ax/\x.ax < g.rules.length):jm g a.length (eV g (a.getD i aN) l i k).1=true:=by
 have hs:=PE (g:=g) b hi k
 have c:∀ r∈dt l k,jm g a.length ⟨2,r⟩=true:=λr hr=>by
  obtain⟨x,d,rfl⟩:=PF hr
  have:=hl x d
  simp[jm];omega
 unfold eV
 cases h:dt l k with
 | nil=>exact hs
 | cons r rs =>
  have hr:=c r (by rw[h];simp)
  simp only
  split
  .exact hr
  .simp only
   split
   .exact hr
   .split
    .simp[jm]
    .exact hs
theorem N4 {n i:Nat} (h:i < n):(jG g a L n).aZ.getD i []=fX g (a.getD i aN) (L.getD i []) i (g.af.length+1)/\(jG g a L n).gotos.getD i []=rL g a i:=by
 constructor
 .rw[aaq,jG,aav,abS h];rfl
 .rw[aaq,jG,aav,abS h];rfl
theorem XF (b:mX g a) {i:Nat} (hi:i < a.length) (k:Int) : -1<=CN a i k/\CN a i k < a.length:=by
 unfold CN
 rw[HA (g:=g) b hi]
 cases h:gg (a.getD i aN).aJ (-1 - k) with
 | none=>simp;omega
 | some c =>
  obtain⟨e,he,_,rfl⟩:=vH h
  have:=b.to _ (aax (getD_some hi)) e he
  simp;omega
theorem QE (b:cq g a) (hr:bC g=true) (f:a.length<=300) (hl:∀ i:Nat,∀ x∈L.getD i [],0<=x.ax/\x.ax < g.rules.length):jf g (jG g a L a.length)=true:=by
 have h:(jG g a L a.length).aZ.length=a.length:=by simp[jG]
 have j:(jG g a L a.length).gotos.length=a.length:=by simp[jG]
 unfold jf
 rw[hr,h,j]
 have:=b.pos
 simp only[abE,aaB,aaE,aaX,abl]
 refine⟨⟨⟨by omega,f⟩,trivial⟩,λi hi=>?_⟩
 rw[(N4 hi).1,(N4 hi).2]
 unfold w7
 simp only[aaB,aaE,aaX]
 refine⟨⟨⟨by simp[fX],by simp[rL]⟩,λc d=>?_⟩,λx e=>?_⟩
 .simp only[fX,aaM] at d
  obtain⟨k,_,rfl⟩:=d
  exact RO b.ok hi k (hl i)
 .simp only[rL,aaM] at e
  obtain⟨k,_,rfl⟩:=e
  have:=XF b.ok hi k
  simpa using this
def wD (b:Bool):Nat:=if b=true then 1 else 0
theorem OM (s:aL) (l:List cb) (i k:Int):(dt l k).length+wD (decide ((eE g s k).kind≠0))=wD (decide ((eV g s l i k).1.kind≠0))+((eV g s l i k).2.filter λc=>decide (c.kind=3)).length+(eV g s l i k).2.length:=by
 have b:∀ (r:Int) (rs:List Int),(gf i k r rs).filter (λc=>decide (c.kind=3))=[]:=λr rs=>by
  rw[List.filter_eq_nil_iff]
  intro c b
  simp only[gf,aaM] at b
  obtain⟨_,_,rfl⟩:=b
  simp
 cases hr:dt l k with
 | nil =>
  have e:eV g s l i k=(eE g s k,[]):=by unfold eV;rw[hr]
  rw[e];simp
 | cons r rs =>
  by_cases a:(eE g s k).kind=0
  .have e:eV g s l i k=(⟨2,r⟩,gf i k r rs):=by unfold eV;rw[hr];simp only;rw[aaw a]
   rw[e]
   simp only[b]
   simp[a,wD,gf]
   omega
  .have e:eV g s l i k=(if fL g r k=1 then ⟨2,r⟩ else if fL g r k=3 then ⟨0,0⟩ else eE g s k,gf i k r rs ++ [⟨i,k,fL g r k,r,-1⟩]):=by unfold eV;rw[hr];simp only;rw[aat a]
   rw[e]
   simp only[abN,b,abF,abd]
   by_cases h1:fL g r k=1
   .simp[a,h1,wD,gf];omega
   .by_cases d:fL g r k=3
    .simp[a,d,wD,gf];omega
    .simp[a,h1,d,wD,gf];omega
end
theorem Ud {g:ai} (a:g.dM) {n:Nat} (b:n<=300) {c:Cell} (h:jm g n c=true):b6 c.kind/\b6 c.n:=by
 have:=a.rules
 unfold jm at h
 unfold b6
 split at h
 .simp at h;omega
 .split at h
  .simp at h;omega
  .split at h
   .simp at h;omega
   .simp at h
theorem KV {g:ai} {t:tU} (h:jf g t=true):t.Ok:=by
 have F:=Dg h
 have b:=bu F.right
 have k:=b.af;have l:=b.ak;have j:=F.n300
 refine⟨by unfold aK;omega,by unfold aK;have:=F.len;omega,λr hr=>?_,λr hr=>?_⟩
 .obtain⟨i,hi,e⟩:=abv.1 hr
  have d:t.aZ.getD i []=r:=by rw[aaq,aar hi,e];rfl
  obtain⟨h1,_,a,_⟩:=F.Fu hi
  rw[d] at h1 a
  exact⟨by unfold aK;omega,λc f=>Ud b j (a c f)⟩
 .obtain⟨i,hi,e⟩:=abv.1 hr
  have d:t.gotos.getD i []=r:=by rw[aaq,aar hi,e];rfl
  obtain⟨_,h1,_,a⟩:=F.Fu (i:=i) (by have:=F.len;omega)
  rw[d] at h1 a
  exact⟨by unfold aK;omega,λc f=>by have:=a c f;unfold b6;omega⟩
theorem YT {g:ai} {a:List aL} (h:mX g a) (b:a.length<=300):aK a/\∀ s∈a,aK s.aJ/\∀ e∈s.aJ,b6 e.sym/\b6 e.to:=by
 refine⟨by unfold aK;omega,λs hs=>⟨by unfold aK;have:=h.aJ s hs;omega,λe he=>?_⟩⟩
 have h1:=h.sym s hs e he
 have c:=h.to s hs e he
 unfold b6;omega
theorem XA {g:ai} {a:List aL} {L:List (List cb)} {i k:Nat} (hi:i < a.length) (hk:k < g.af.length+1):(jG g a L a.length).aZ[i]?=some (fX g (a.getD i aN) (L.getD i []) i (g.af.length+1))/\(fX g (a.getD i aN) (L.getD i []) i (g.af.length+1))[k]?=some (eV g (a.getD i aN) (L.getD i []) i k).1:=by
 refine⟨by rw[jG,aav,abS hi];rfl,by rw[fX,aav,abS hk];rfl⟩
def lg:SC :=
 ae [ae [ab [aa 73 14,ao 74 0 1,aj 75 74,aM 76 75,aQ 77 .leq 73 76],bS 77 (.exit 2)],.block 3 (ae [ab [aa 80 10,aa 81 8,aa 82 13,aI 83 1 81 82,aj 84 83,aa 85 14,bm 86 39 [84,85],aM 87 86,aQ 88 .add 80 87,aa 10 88],ab [aa 90 6,aa 91 13,aa 92 14,((some 93),.op (.bW 1 1 [(.val (.int .i64 0))] [(0,(.tmp 92))])),bm 94 29 [90,91,93],aa 89 94,eP 95 0 89,eP 96 1 89,aa 15 95,aa 16 96],ae [.region false [⟨none,[aa 97 16,aa 98 97]⟩,⟨(some (98,true)),[aa 99 14,ao 100 0 1,aj 101 100,aM 102 101,aQ 103 .lss 99 102]⟩,⟨none,[eC 104 98 103,aa 105 104]⟩,⟨(some (105,false)),[aa 106 14,ao 107 0 1,aj 108 107,aM 109 108,aQ 110 .eql 106 109,aa 111 110]⟩,⟨(some (111,true)),[aa 112 6,aa 113 13,aI 114 2 112 113,ao 115 0 114,aj 116 115,aM 117 116,aF 118 .gtr 117 0]⟩,⟨(some (105,false)),[eC 119 111 118,aa 120 119]⟩,⟨(some (120,true)),[aa 121 6,aa 122 13,aI 123 2 121 122,ao 124 0 123,aj 125 124,((some 126),.op (.idx 2 (.tmp 125) (.val (.val (.int .i64 0))))),aY 127 2 126,((some 128),.op (.build [(.val (.int .i64 0)),(.val (.int .i64 0))] [(0,1,(.val (.val (.int .i64 (-1))))),(1,1,(.val (.val (.int .i64 1))))])),((some 129),.op (.old (.binOp .eql 33 (.tmp 127) (.tmp 128) 33) 4))]⟩,⟨(some (105,false)),[eC 130 120 129]⟩,⟨none,[cF 131 105 130]⟩],bf 131 (ab [aa 132 10,aF 133 .add 132 1,aa 10 133])],ab [ao 134 0 3,aj 135 134,aa 136 13,aI 137 1 135 136,aj 138 137,aa 139 14,aI 140 2 138 139,ao 141 0 140,aj 142 141,aF 143 .neq 142 0],bf 143 (ab [aa 144 11,aF 145 .add 144 1,aa 11 145])]),ab [aa 78 14,aF 79 .add 78 1,aa 14 79]]
def lq:SC :=
 ae [ae [ab [aa 67 13,aa 68 6,aM 69 68,aQ 70 .lss 67 69],bS 70 (.exit 0)],.block 1 (ae [ab [aT 14 0],bX 2 lg]),ab [aa 71 13,aF 72 .add 71 1,aa 13 72]]
def ln:SC :=
 ae [ae [ab [aa 146 17,aa 147 4,aM 148 147,aQ 149 .lss 146 148],bS 149 (.exit 4)],.block 5 (ae [ab [aa 152 4,aa 153 17,aI 154 5 152 153,ao 155 2 154,aj 156 155,aF 157 .eql 156 3],bf 157 (ab [aa 158 12,aF 159 .add 158 1,aa 12 159])]),ab [aa 150 17,aF 151 .add 150 1,aa 17 151]]
def mq:SF:=⟨ae [ab [cy 1 0,bw 2 false],ae [ab [bm 18 42 [],c4 19 18],bf 19 (ae [ab [bw 2 false],.ret])],ae [ab [aY 20 4 1,bm 21 16 [20]],bf 21 (ae [ab [bw 2 true],.ret])],ab [aY 23 4 1,bm 24 43 [23],aa 22 24,eP 25 0 22,eP 26 1 22,eP 27 2 22,((some 3),.op (.alloc [(.emp 1),(.emp 1)])),bZ 2 3 25,aa 4 26,aa 5 27],ae [ab [aa 28 5,aF 29 .neq 28 0],bf 29 (ae [ab [ao 30 0 3,aj 31 30,aM 32 31,ao 33 1 3,aj 34 33,aM 35 34,aQ 36 .add 32 35,aa 37 4,aM 38 37,aQ 39 .add 36 38,aF 40 .eql 39 0,aa 2 40],.ret])],ae [.region false [⟨none,[aY 41 4 1,aY 42 2 3,bm 43 47 [41,42],c4 44 43,aa 45 44]⟩,⟨(some (45,false)),[aY 46 4 1,aY 47 2 3,bm 48 48 [46,47],c4 49 48]⟩,⟨none,[cF 50 45 49]⟩],bf 50 (ae [ab [bw 2 false],.ret])],ab [aY 52 4 1,bm 53 25 [52],aa 51 53,eP 54 0 51,eP 55 1 51,aa 6 54,aa 7 55],ab [aY 57 4 1,bm 58 34 [57],aa 56 58,eP 59 0 56,eP 60 1 56,aa 8 59,aa 9 60],ae [ab [aa 61 6,aM 62 61,ao 63 0 3,aj 64 63,aM 65 64,aQ 66 .neq 62 65],bf 66 (ae [ab [bw 2 false],.ret])],ab [aT 10 0,aT 11 0,aT 12 0],ae [ab [aT 13 0],bX 0 lq],ae [ab [aT 17 0],bX 4 ln],ab [aa 160 10,aa 161 4,aM 162 161,aQ 163 .sub 160 162,aa 164 11,aa 165 12,aQ 166 .add 164 165,aQ 167 .eql 163 166,aa 2 167],.ret],
 [.tmp 2],168⟩
theorem sH:aO Tryz.prog 13 [1]=some mq:=by kernel_rfl
section
variable {g:ai} {a:List aL} {L:List (List cb)}
def mN (g:ai) (a:List aL) (L:List (List cb)) (i k:Nat):Nat:=(dt (L.getD i []) k).length+wD (decide ((eE g (a.getD i aN) k).kind≠0))
def j0 (g:ai) (a:List aL) (L:List (List cb)) (i k:Nat):Nat:=wD (decide ((eV g (a.getD i aN) (L.getD i []) i k).1.kind≠0))
def iZ (f:Nat->Nat) (n:Nat):Nat:=((List.range n).map f).sum
theorem jY (f:Nat->Nat) (n:Nat):iZ f (n+1)=iZ f n+f n:=by simp[iZ,abi]
theorem yH {f:Nat->Nat} {b:Nat} (h:∀ i,f i<=b):∀ n:Nat,iZ f n<=n * b
 | 0=>by simp[iZ]
 | n+1=>by
  have:=yH h n
  have:=h n
  rw[jY,Nat.succ_mul];omega
def iU (l:List jH):Nat:=(l.filter λc=>decide (c.kind=3)).length
theorem Cc (l m:List jH):iU (l ++ m)=iU l+iU m:=by simp[iU,abN]
theorem Hs (i:Nat):∀ n:Nat,iZ (mN g a L i) n=iZ (j0 g a L i) n+iU (tA g (a.getD i aN) (L.getD i []) i n)+(tA g (a.getD i aN) (L.getD i []) i n).length
 | 0=>rfl
 | n+1=>by
  have h1:=Hs i n
  have b:=OM (g:=g) (a.getD i aN) (L.getD i []) i n
  rw[jY,jY,BN,Cc,abd,h1,mN,j0,iU]
  unfold iU
  omega
theorem Hg:∀ n:Nat,iZ (λi=>iZ (mN g a L i) (g.af.length+1)) n=iZ (λi=>iZ (j0 g a L i) (g.af.length+1)) n+iU (rN g a L n)+(rN g a L n).length
 | 0=>rfl
 | n+1=>by
  have h1:=Hg n
  have b:=Hs (g:=g) (a:=a) (L:=L) n (g.af.length+1)
  rw[jY (λi=>iZ (mN g a L i) (g.af.length+1)) n,jY (λi=>iZ (j0 g a L i) (g.af.length+1)) n,AX,Cc,abd,h1,b]
  omega
theorem Ll (b:cq g a) {i:Nat} (hi:i < a.length):gg (a.getD i aN).aJ (g.af.length:Nat)=none:=Ab λh=>by
 obtain⟨x,c,h1⟩:=aaM.1 h
 have:=(HQ b hi).2 x c
 unfold fP at this
 rw[aaw (by omega)] at this
 simp at this;omega
theorem Vq (f:cq g a) {i:Nat} (hi:i < a.length) {k:Nat} (hk:k<=g.af.length):(eE g (a.getD i aN) k).kind≠0↔((gg (a.getD i aN).aJ k).isSome=true/\k < g.af.length)∨(k=g.af.length/\∃ x l,(a.getD i aN).bc=x :: l/\x=⟨-1,1⟩):=by
 have n:=Ll f hi
 have b:(⟨-1,1⟩:aA)∈(a.getD i aN).bc↔∃ x l,(a.getD i aN).bc=x :: l/\x=⟨-1,1⟩:=by
  constructor
  .intro hm
   have hs:=(f.ok.bc _ (aax (getD_some (d:=aN) hi))).1
   have o:=f.bc hi
   cases hk:(a.getD i aN).bc with
   | nil=>rw[hk] at hm;simp at hm
   | cons x l =>
    refine⟨x,l,rfl,?_⟩
    rw[hk] at hm hs o
    rcases aaI.1 hm with e | hm
    .exact e.symm
    .exfalso
     rw[cB,abM] at hs
     have h1:=hs.1 _ hm
     rw[fo] at h1
     have q:=o x (by simp)
     simp only at h1
     have r:x.ax = -1/\x.dot=0:=by
      have:=q.1;have:=q.2.1
      omega
     have m:(⟨-1,0⟩:aA)∈(a.getD i aN).bc:=by
      rw[hk];rw[<-r.1,<-r.2];simp
     by_cases t:i=0
     .subst t
      rw[f.e.first] at hk
      simp at hk
      rw[hk.2] at hm
      simp at hm
     .obtain⟨p,y,s,_,u,v,A,w,_,_⟩:=f.prev hi m (by omega)
      have z:=abk aA.dot w
      have:=(f.has u v).2.1
      simp only at z
      omega
  .rintro⟨x,l,h,rfl⟩;rw[h];simp
 unfold eE
 constructor
 .intro h
  cases hE:gg (a.getD i aN).aJ k with
  | some c =>
   left
   refine⟨rfl,Nat.lt_of_le_of_ne hk λe=>?_⟩
   rw[e,n] at hE;simp at hE
  | none =>
   right
   rw[hE] at h
   simp only at h
   split at h
   .rename_i j
    exact⟨by omega,b.1 j.2⟩
   .simp at h
 .rintro (⟨h,_⟩ | ⟨rfl,h⟩)
  .obtain⟨c,j⟩:=Option.isSome_iff_exists.1 h
   obtain⟨e,_,_,rfl⟩:=vH j
   rw[j];simp
  .rw[n]
   simp only
   rw[aaw ⟨trivial,b.2 h⟩]
   simp
theorem Uz {i k:Nat} (h:(eE g (a.getD i aN) k).kind≠0):mN g a L i k=(dt (L.getD i []) k).length+1:=by
 unfold mN wD;rw[aaw (by simpa using h)]
theorem Xz {i k:Nat} (h:(eE g (a.getD i aN) k).kind=0):mN g a L i k=(dt (L.getD i []) k).length:=by
 unfold mN wD;rw[aat (by rw[aaE];exact λq=>q h)];rfl
theorem Un {i k:Nat} (h:(eV g (a.getD i aN) (L.getD i []) i k).1.kind≠0):j0 g a L i k=1:=by
 unfold j0 wD;rw[aaw (by simpa using h)]
theorem UU {i k:Nat} (h:(eV g (a.getD i aN) (L.getD i []) i k).1.kind=0):j0 g a L i k=0:=by
 unfold j0 wD;rw[aat (by rw[aaE];exact λq=>q h)]
end
abbrev D6 (g:ai) (a:List aL) (L:List (List cb)) (n:Nat):Nat:=iZ (λi=>iZ (mN g a L i) (g.af.length+1)) n
abbrev y0 (g:ai) (a:List aL) (L:List (List cb)) (n:Nat):Nat:=iZ (λi=>iZ (j0 g a L i) (g.af.length+1)) n
theorem Jc (g:ai) (K:g.Ok):az Tryz.prog 13 [.agg (ag g)] (gb true):=by
 refine az.val (eK g) λH=>?_
 refine av.of mixed sH ?_
 simp(disch:=omega)only[↓wr,seval,wq,mq,ag,encS]
 refine ay.pure OT ?_
 simp(disch:=omega)only[↓wr,seval,wq,ag,encS]
 refine ay.pure (US g) ?_
 simp(disch:=omega)only[↓wr,seval,wq]
 apply ah.split<;>intro e
 .simp(disch:=omega)only[↓wr,seval,wq]
 have M:=Me e
 have h1:=(Tn g K M).pure
 have w:=(EB g K).pure
 have h4:=(WV g K).pure
 simp only[ag,encS] at h1 w h4
 unfold Cq oE at h1
 unfold oE at h4
 simp(disch:=omega)only[↓wr,seval,wq,ag,encS]
 refine ay.pure h1 ?_
 by_cases h:(bJ g).2=0
 rotate_left
 .rw[aat h]
  simp(disch:=omega)only[↓wr,seval,wq,cJ]
  intro q hq
  refine ah.ne (λ_=>?_) (λw=>absurd w h)
  simp(disch:=omega)only[↓wr,seval,wq,jX]
 obtain⟨hr,E,A⟩:=GR h
 have N:=Xr h
 rw[aaw h,aaw h]
 rw[aaw h] at h4
 have aq:=iC hr
 have hf:=E.cQ
 have hT:=hf.af;have hN:=hf.ak
 have F:=QE (L:=gh g (bJ g).1) E aq A λi x hx=>(N.fact i x hx).1
 have B:=O6 g K _ (KV F)
 have h5:=Ti g K M _ (KV F)
 rw[F] at B h5
 obtain⟨w1,w2⟩:=YT E.ok A
 rw[h] at w
 simp only[ag,encS] at B h5
 have O:=Hg (g:=g) (a:=(bJ g).1) (L:=gh g (bJ g).1) (bJ g).1.length
 have br:=D9 (g:=g) (a:=(bJ g).1) (l:=gh g (bJ g).1) (λi=>by have:=N.row i;omega) hT (bJ g).1.length
 have bs:(gh g (bJ g).1).length=(bJ g).1.length:=by simp[gh]
 generalize (bJ g).1=a at *
 generalize gh g a=L at *
 have ar:(jG g a L a.length).aZ.length=a.length:=by simp[jG]
 have a1:=λ(i k:Nat) (hi:i < a.length) (hk:k < g.af.length+1)=>XA (L:=L) hi hk
 generalize jG g a L a.length=t at *
 generalize rN g a L a.length=cs at *
 have a6:∀ i k:Nat,mN g a L i k<=288:=λi k=>by
  have h1:=tY (L.getD i []) k
  have w:=N.row i
  unfold mN wD
  split <;> omega
 have P:∀ i n:Nat,iZ (mN g a L i) n<=n * 288:=λi n=>yH (a6 i) n
 have Q:∀ n:Nat,D6 g a L n<=n * 7200:=λn=>yH (λi=>by have:=P i (g.af.length+1);have:(g.af.length+1) * 288<=25 * 288:=abb _ (by omega);omega) n
 have a7:∀ i k:Nat,j0 g a L i k<=1:=λi k=>by unfold j0 wD;split <;> omega
 have R:∀ i n:Nat,iZ (j0 g a L i) n<=n * 1:=λi n=>yH (a7 i) n
 have S:∀ n:Nat,y0 g a L n<=n * 25:=λn=>yH (λi=>by have:=R i (g.af.length+1);omega) n
 simp only[cJ] at B h5
 simp(disch:=omega)only[↓wr,seval,wq,cJ]
 intro q hq
 refine ay.pure h5 ?_
 simp(disch:=omega)only[↓wr,seval,wq,ag,encS]
 refine ay.pure B ?_
 simp(disch:=omega)only[↓wr,seval,wq,ag,encS]
 refine ay.pure w ?_
 simp(disch:=omega)only[↓wr,seval,wq,ag,encS]
 refine ay.pure h4 ?_
 simp(disch:=omega)only[↓wr,seval,wq,aW]
 refine ah.ne (λh=>absurd (by rw[ar]) h) (λ_=>?_)
 simp(disch:=omega)only[↓wr,seval,wq]
 have U:((H.set q (.arr 2 [[.emp 1,.emp 1]])).set q (.arr 2 [[.aE (t.aZ.map λr=>[hU r]),.aE (t.gotos.map λr=>[encI r])]])) q=(.arr 2 [[.aE (t.aZ.map λr=>[hU r]),.aE (t.gotos.map λr=>[encI r])]]):=by simp[View.set]
 refine aS.up a.length (λi T H'=>H' q=(.arr 2 [[.aE (t.aZ.map λr=>[hU r]),.aE (t.gotos.map λr=>[encI r])]])/\T 1=.aH (ag g) 0/\T 3=.ptr q 0 0/\T 4=.aE (jX cs)/\T 6=aW a/\T 8=sW L/\T 10=gi (D6 g a L i)/\T 11=gi (y0 g a L i)/\T 12=iW 0/\T 13=gi i)
  ⟨U,rfl,rfl,rfl,rfl,rfl,rfl,rfl,rfl,rfl⟩ ?_
 clear U
 rintro i kk T H1 hk ⟨d,t1,t3,t4,t6,t8,t10,t11,t12,t13⟩
 simp(disch:=omega)only[↓wr,seval,wq,lq,t1,t3,t4,t6,t8,t10,t11,t12,t13,aW]
 apply ah.dec<;>intro a8
 .have hi:i < a.length:=by omega
  have hx:L[i]?=some (L.getD i []):=getD_some (by omega)
  have hs:a[i]?=some (a.getD i aN):=getD_some hi
  have b1:=Q i;have b2:=S i
  have s1:D6 g a L (i+1)=D6 g a L i+iZ (mN g a L i) (g.af.length+1):=jY _ _
  have s2:y0 g a L (i+1)=y0 g a L i+iZ (j0 g a L i) (g.af.length+1):=jY _ _
  generalize D6 g a L i=m1 at *
  generalize y0 g a L i=d1 at *
  simp(disch:=omega)only[↓wr,seval,wq,t1,t3,t4,t6,t8,t10,t11,t12,t13]
  refine aS.up (g.af.length+1) (λk T H'=>H' q=(.arr 2 [[.aE (t.aZ.map λr=>[hU r]),.aE (t.gotos.map λr=>[encI r])]])/\T 1=.aH (ag g) 0/\T 3=.ptr q 0 0/\T 4=.aE (jX cs)/\T 6=aW a/\T 8=sW L/\T 10=gi ((m1+iZ (mN g a L i) k:Nat))/\T 11=gi ((d1+iZ (j0 g a L i) k:Nat))/\T 12=iW 0/\T 13=gi i/\T 14=gi k)
   ⟨d,t1,t3,t4,t6,t8,t10,t11,t12,t13,rfl⟩ ?_
  clear d t1 t3 t4 t6 t8 t10 t11 t12 t13
  rintro k bx T2 H2 m ⟨d,t1,t3,t4,t6,t8,t10,t11,t12,t13,t14⟩
  simp(disch:=omega)only[↓wr,seval,wq,lg,t1,t3,t4,t6,t8,t10,t11,t12,t13,t14,ag,encS]
  apply ah.dec<;>intro hc
  .obtain⟨c1,c2⟩:=a1 i k hi (by omega)
   have V:=HP a w1 w2 i [(k:Int)] (by unfold aK;simp)
   rw[HA (g:=g) E.ok hi k] at V
   have v:=Vq E hi (show k<=g.af.length by omega)
   have my:=Uz (g:=g) (a:=a) (L:=L) (i:=i) (k:=k)
   have mn:=Xz (g:=g) (a:=a) (L:=L) (i:=i) (k:=k)
   have W:=Un (g:=g) (a:=a) (L:=L) (i:=i) (k:=k)
   have dn:=UU (g:=g) (a:=a) (L:=L) (i:=i) (k:=k)
   have b3:=P i k;have b4:=R i k
   have C:=jY (mN g a L i) k
   have D:=jY (j0 g a L i) k
   have X:=(Pu (L.getD i []) (by have:=N.row i;omega) k).pure
   have bb:=tY (L.getD i []) k
   have b5:=N.row i
   generalize b0:dt (L.getD i []) k=rd at X bb my mn
   generalize (eV g (a.getD i aN) (L.getD i []) i k).1=x at c2 W dn
   generalize (eE g (a.getD i aN) k).kind=sk at v my mn
   generalize iZ (mN g a L i) k=m2 at *
   generalize iZ (j0 g a L i) k=d2 at *
   generalize mN g a L i k=mc at *
   generalize j0 g a L i k=dc at *
   simp(disch:=omega)only[↓wr,seval,wq,t1,t3,t4,t6,t8,t10,t11,t12,t13,t14,sW,aav,hx,aaz]
   refine ay.pure X ?_
   simp(disch:=omega)only[↓wr,seval,wq,t1,t3,t4,t6,t8,t10,t11,t12,t13,t14,encI]
   intro q2 Y
   have f:¬ q=q2:=by rintro rfl;rw[d] at Y;simp at Y
   refine ay.xB V (by kernel_rfl) (.bD _ λj hj=>by
    match j,hj with
    | 0,_=>exact⟨_,rfl⟩
    | 1,_=>exact⟨_,rfl⟩) ⟨.tree (lH a),.tree (.val _),FH (l:=[(k:Int)]) (by simp[View.set]) rfl,trivial⟩ ?_
   have u:∀ b:Nat,(sk≠0->b=1)->(sk=0->b=0)->mc=rd.length+b:=λb h1 w=>by
    by_cases h:sk=0
    .rw[mn h,w h];rfl
    .rw[my h,h1 h]
   have bd:=E.ok.bc _ (aax hs)
   cases hE:gg (a.getD i aN).aJ k with
   | some c =>
    have G:k < g.af.length:=Nat.lt_of_le_of_ne (by omega) λe=>by rw[e,Ll E hi] at hE;simp at hE
    have o:=u 1 (λ_=>rfl) (λh=>absurd h (v.2 (.inl ⟨by rw[hE];rfl,G⟩)))
    simp(disch:=omega)only[↓wr,seval,wq,t1,t3,t4,t6,t8,t10,t11,t12,t13,t14,ag,encS,aW,eu,aav,hs,aaz,f,d,c1,c2,hU,cK,hE]
    refine ah.dec (λ_=>?_) (λh=>absurd (by omega) h)
    simp(disch:=omega)only[↓wr,seval,wq,t1,t3,t4,t6,t8,t10,t11,t12,t13,t14,ag,encS,aW,eu,aav,hs,aaz,f,d,c1,c2,hU,cK,hE]
    apply ah.ne<;>intro hk
    .have p:=W hk
     simp(disch:=omega)only[↓wr,seval,wq,t1,t3,t4,t6,t8,t10,t11,t12,t13,t14]
     exact aC m (by omega) ⟨by simp[View.set,f];exact d,t1,t3,t4,t6,t8,by rw[C,o];simp only[iX,reduceIte,Nat.reduceEqDiff];exact abk (λx:Int=>gi x) (by omega),by rw[D,p];simp only[iX,reduceIte,Nat.reduceEqDiff];exact abk (λx:Int=>gi x) (by omega),t12,t13,rfl⟩
    .have p:=dn hk
     simp(disch:=omega)only[↓wr,seval,wq,t1,t3,t4,t6,t8,t10,t11,t12,t13,t14]
     exact aC m (by omega) ⟨by simp[View.set,f];exact d,t1,t3,t4,t6,t8,by rw[C,o];simp only[iX,reduceIte,Nat.reduceEqDiff];exact abk (λx:Int=>gi x) (by omega),by rw[D,p];exact t11,t12,t13,rfl⟩
   | none =>
    simp(disch:=omega)only[↓wr,seval,wq,t1,t3,t4,t6,t8,t10,t11,t12,t13,t14,ag,encS,aW,eu,aav,hs,aaz,f,d,c1,c2,hU,cK,hE]
    apply ah.eq<;>intro G
    .cases z:(a.getD i aN).bc with
     | nil=>exact absurd z bd.2.1
     | cons y l =>
      rw[z] at v
      generalize a.getD i aN=s at *
      simp(disch:=omega)only[↓wr,seval,wq,t1,t3,t4,t6,t8,t10,t11,t12,t13,t14,ag,encS,aW,eu,aav,hs,aaz,f,d,c1,c2,hU,cK,hE,z,aV]
      refine ah.dec (λ_=>?_) (λh=>absurd (by omega) h)
      simp(disch:=omega)only[↓wr,seval,wq,t1,t3,t4,t6,t8,t10,t11,t12,t13,t14,ag,encS,aW,eu,aav,hs,aaz,f,d,c1,c2,hU,cK,hE,z,aV,bF,aa0]
      refine iy (xs:=#[.int .i64 y.ax,.int .i64 y.dot]) (ys:=#[.int .i64 (-1),.int .i64 1]) Tryz.underlying33 (by kernel_rfl) (by kernel_rfl) ?_ ?_ (mO y ⟨-1,1⟩) (.inl ⟨rfl,rfl⟩) ?_
      .rfl
      .rfl
      rw[vf]
      simp(disch:=omega)only[↓wr,seval,wq]
      apply ah.dec<;>intro I
      .have o:=u 1 (λ_=>rfl) (λh=>absurd h (v.2 (.inr ⟨by omega,y,l,rfl,I⟩)))
       simp(disch:=omega)only[↓wr,seval,wq,t1,t3,t4,t6,t8,t10,t11,t12,t13,t14,ag,encS,aW,eu,aav,hs,aaz,f,d,c1,c2,hU,cK,hE]
       apply ah.ne<;>intro hk
       .have p:=W hk
        simp(disch:=omega)only[↓wr,seval,wq,t1,t3,t4,t6,t8,t10,t11,t12,t13,t14]
        exact aC m (by omega) ⟨by simp[View.set,f];exact d,t1,t3,t4,t6,t8,by rw[C,o];simp only[iX,reduceIte,Nat.reduceEqDiff];exact abk (λx:Int=>gi x) (by omega),by rw[D,p];simp only[iX,reduceIte,Nat.reduceEqDiff];exact abk (λx:Int=>gi x) (by omega),t12,t13,rfl⟩
       .have p:=dn hk
        simp(disch:=omega)only[↓wr,seval,wq,t1,t3,t4,t6,t8,t10,t11,t12,t13,t14]
        exact aC m (by omega) ⟨by simp[View.set,f];exact d,t1,t3,t4,t6,t8,by rw[C,o];simp only[iX,reduceIte,Nat.reduceEqDiff];exact abk (λx:Int=>gi x) (by omega),by rw[D,p];exact t11,t12,t13,rfl⟩
      .have o:=u 0 (λh=>by
        rcases v.1 h with h1 | ⟨_,y',l',h1,w⟩
        .rw[hE] at h1;simp at h1
        .simp only[acr] at h1
         exact absurd (h1.1.trans w) I) (λ_=>rfl)
       simp(disch:=omega)only[↓wr,seval,wq,t1,t3,t4,t6,t8,t10,t11,t12,t13,t14,ag,encS,aW,eu,aav,hs,aaz,f,d,c1,c2,hU,cK,hE]
       apply ah.ne<;>intro hk
       .have p:=W hk
        simp(disch:=omega)only[↓wr,seval,wq,t1,t3,t4,t6,t8,t10,t11,t12,t13,t14]
        exact aC m (by omega) ⟨by simp[View.set,f];exact d,t1,t3,t4,t6,t8,by rw[C,o];simp only[iX,reduceIte,Nat.reduceEqDiff];exact abk (λx:Int=>gi x) (by omega),by rw[D,p];simp only[iX,reduceIte,Nat.reduceEqDiff];exact abk (λx:Int=>gi x) (by omega),t12,t13,rfl⟩
       .have p:=dn hk
        simp(disch:=omega)only[↓wr,seval,wq,t1,t3,t4,t6,t8,t10,t11,t12,t13,t14]
        exact aC m (by omega) ⟨by simp[View.set,f];exact d,t1,t3,t4,t6,t8,by rw[C,o];simp only[iX,reduceIte,Nat.reduceEqDiff];exact abk (λx:Int=>gi x) (by omega),by rw[D,p];exact t11,t12,t13,rfl⟩
    .have o:=u 0 (λh=>by
          rcases v.1 h with h1 | h1
          .rw[hE] at h1;simp at h1
          .omega) (λ_=>rfl)
     simp(disch:=omega)only[↓wr,seval,wq,t1,t3,t4,t6,t8,t10,t11,t12,t13,t14,ag,encS,aW,eu,aav,hs,aaz,f,d,c1,c2,hU,cK,hE]
     apply ah.ne<;>intro hk
     .have p:=W hk
      simp(disch:=omega)only[↓wr,seval,wq,t1,t3,t4,t6,t8,t10,t11,t12,t13,t14]
      exact aC m (by omega) ⟨by simp[View.set,f];exact d,t1,t3,t4,t6,t8,by rw[C,o];simp only[iX,reduceIte,Nat.reduceEqDiff];exact abk (λx:Int=>gi x) (by omega),by rw[D,p];simp only[iX,reduceIte,Nat.reduceEqDiff];exact abk (λx:Int=>gi x) (by omega),t12,t13,rfl⟩
     .have p:=dn hk
      simp(disch:=omega)only[↓wr,seval,wq,t1,t3,t4,t6,t8,t10,t11,t12,t13,t14]
      exact aC m (by omega) ⟨by simp[View.set,f];exact d,t1,t3,t4,t6,t8,by rw[C,o];simp only[iX,reduceIte,Nat.reduceEqDiff];exact abk (λx:Int=>gi x) (by omega),by rw[D,p];exact t11,t12,t13,rfl⟩
  .have bl:k=g.af.length+1:=by omega
   subst bl
   simp(disch:=omega)only[↓wr,seval,wq,t1,t3,t4,t6,t8,t10,t11,t12,t13]
   exact aC hk (by omega) ⟨d,t1,t3,t4,t6,t8,by rw[s1];exact t10,by rw[s2];exact t11,t12,rfl⟩
 .have bn:i=a.length:=by omega
  subst bn
  simp(disch:=omega)only[↓wr,seval,wq,t4,t10,t11,t12]
  have b1:=Q a.length;have b2:=S a.length
  have bq:∀ j:Nat,iU (cs.take j)<=j:=λj=>by
   have h1:=abh (λc:jH=>decide (c.kind=3)) (cs.take j)
   have w:=List.length_take_le j cs
   unfold iU;omega
  change D6 g a L a.length=y0 g a L a.length+iU cs+cs.length at O
  generalize D6 g a L a.length=m1 at *
  generalize y0 g a L a.length=d1 at *
  refine aS.up cs.length (λj T H'=>T 4=.aE (jX cs)/\T 10=gi m1/\T 11=gi d1/\T 12=gi (iU (cs.take j))/\T 17=gi j) ⟨t4,t10,t11,t12,rfl⟩ ?_
  clear t4 t10 t11 t12 t13 t1 t3 t6 t8 d
  rintro j kk T2 H2 m ⟨t4,t10,t11,t12,t17⟩
  have b3:=bq j
  simp(disch:=omega)only[↓wr,seval,wq,ln,t4,t10,t11,t12,t17,rD]
  apply ah.dec<;>intro hc
  .have I:cs[j]?=some (cs[j]'(by omega)):=aar (by omega)
   have Z:cs.take (j+1)=cs.take j ++ [cs[j]'(by omega)]:=by rw[aaQ,I];rfl
   generalize cs[j]'(by omega)=y at I Z
   have an:iU (cs.take (j+1))=iU (cs.take j)+iU [y]:=by rw[Z,Cc]
   simp(disch:=omega)only[↓wr,seval,wq,t4,t10,t11,t12,t17,jX,aav,I,aaz,PU]
   apply ah.eq<;>intro B
   .have J:iU [y]=1:=by simp[iU,B]
    simp(disch:=omega)only[↓wr,seval,wq,t4,t10,t11,t12,t17]
    exact aC m (by omega) ⟨t4,t10,t11,by rw[an,J];rfl,rfl⟩
   .have J:iU [y]=0:=by simp[iU,B]
    simp(disch:=omega)only[↓wr,seval,wq,t4,t10,t11,t12,t17]
    exact aC m (by omega) ⟨t4,t10,t11,by rw[an,J];exact t12,rfl⟩
  .rw[aaJ (by omega)] at t12 b3
   simp(disch:=omega)only[↓wr,seval,wq,t4,t10,t11,t12,rD]
   rw[show (m1:Int) - cs.length=d1+iU cs by omega,ab1]
end Gv
