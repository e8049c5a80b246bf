/-
  Part 9 of the proof: what the machine does and what the functions answer.
  Conditions: those that each lemma names.
-/
import Derived.ProofKit
import Derived.SizedLaws
import Derived.Test.YtihmlbdfcmfbdaaGreatSGzB4H
set_option linter.unusedSimpArgs false
set_option linter.unusedVariables false
set_option maxRecDepth 100000
set_option maxHeartbeats 20000000
namespace Gv
open Go Go.Proofs
def CP (n:Nat) (r:aW):Prop:=cy r.left∧0≤r.left∧r.left < n∧r.right.length≤6∧∀ s∈r.right,cy s∧(s < 0→-1 - s < n)
theorem ag.dD.tN {g:ag} (a:g.Ok) (h:g.dD) {r:aW} (hr:r∈g.rules):CP g.ak.length r :=
 ⟨(a.ax r hr).1,(h.left r hr).1,(h.left r hr).2,h.right r hr,fun s hs=>⟨(a.ax r hr).2.2.2 s hs,fun b=>h.neg hr hs b⟩⟩
def yn:SF:=⟨ae [ab [bu 2 false],ab [aa 3 0,aH 4 .geq 3 0,aa 2 4],.ret],
 [.tmp 2],5⟩
theorem By:aR Tryz.prog 209 []=some yn:=by kernel_rfl
def A3:SF:=⟨ae [ab [cI 1 0,bu 2 false],ab [ao 3 1 1,aj 4 3,r7 5 91 [(.tmp 4),(.val (.fn 209 [] []))],de 6 5,aa 2 6],.ret],
 [.tmp 2],7⟩
theorem Eg:aR Tryz.prog 171 [1]=some A3:=by kernel_rfl
def ub:SF:=⟨ae [ab [bu 3 false],.region false [⟨none,[aa 4 0,aH 5 .lss 4 0,aa 6 5]⟩,⟨(some (6,true)),[aj 7 1,aa 8 0,((some 9),.op (.arith .sub (.val (.val (.int .i64 (-1)))) (.tmp 8))),aQ 10 1 7 9,aj 11 10,de 12 11]⟩,⟨none,[eJ 13 6 12,aa 3 13]⟩],.ret],
 [.tmp 3],14⟩
theorem yG:aR Tryz.prog 197 []=some ub:=by kernel_rfl
def yi:SF:=⟨ae [ab [cI 2 0,cI 3 1,bu 4 false],ab [ao 5 1 2,aj 6 5,((some 7),.op (.s9 197 [] [(.tmp 3)])),bz 8 91 [6,7],de 9 8,aa 4 9],.ret],
 [.tmp 4],10⟩
theorem Bw:aR Tryz.prog 160 [2,3]=some yi:=by kernel_rfl
def sg:SF:=⟨ae [ab [cI 2 0,df 4 1],ae [.region false [⟨none,[bg 5 3 2,bz 6 171 [5],aa 7 6]⟩,⟨(some (7,true)),[bg 8 3 2,aa 9 1,bz 10 160 [8,9]]⟩,⟨none,[eJ 11 7 10]⟩],bf 11 (ae [ab [ao 12 0 2,aj 13 12,((some 14),.op (.bV 1 1 [(.val (.int .i64 0))] [(0,(.tmp 13))])),aa 4 14],.ret])],ab [df 4 1],.ret],
 [.tmp 4],15⟩
theorem xY:aR Tryz.prog 170 [2]=some sg:=by kernel_rfl
def pW:SF:=⟨ae [ab [cI 2 0,df 4 1],ae [ab [bg 5 3 2,aa 6 1,bz 7 160 [5,6]],bf 7 (ae [ab [ao 8 0 2,aj 9 8,((some 10),.op (.bV 1 1 [(.val (.int .i64 0))] [(0,(.tmp 9))])),aa 4 10],.ret])],ab [df 4 1],.ret],
 [.tmp 4],11⟩
theorem vt:aR Tryz.prog 195 [2]=some pW:=by kernel_rfl
def pq:SC :=
 ae [ab [aV 24 .lss 23 22],bY 24 (.exit 0),.block 1 (ae [ab [aQ 25 1 21 23,aj 26 25,aa 7 26],ab [aa 27 7,aH 28 .lss 27 0],bf 28 (ab [aa 29 5,aa 30 7,((some 31),.op (.arith .sub (.val (.val (.int .i64 (-1)))) (.tmp 30))),((some 32),.op (.bV 1 1 [(.val (.int .i64 0))] [(0,(.tmp 31))])),gY 33 1 8 29 32,aa 5 33])]),ab [aH 34 .add 23 1,aa 23 34]]
def rE:SF:=⟨ae [ab [cI 3 0,df 5 1],ae [.region false [⟨none,[aa 8 1,ao 9 0 3,aj 10 9,aQ 11 1 8 10,aj 12 11,de 13 12,aa 14 13]⟩,⟨(some (14,false)),[bg 15 3 3,aj 16 2,bz 17 160 [15,16],de 18 17]⟩,⟨none,[cz 19 14 18]⟩],bf 19 (ae [ab [df 5 1],.ret])],ae [ab [ao 20 1 3,aj 21 20,aN 22 21,aS 23 0],b6 0 pq],ab [aa 35 5,aa 5 35],.ret],
 [.tmp 5],36⟩
theorem wK:aR Tryz.prog 196 [3]=some rE:=by kernel_rfl
theorem NL (r:aW):∀ v∈[V.agg (aP r)],Tree v:=by intro v a; simp at a; subst a; exact cq _ (ia r)
theorem BK (r:aW) (is:List Bool):∀ v∈[V.agg (aP r),bO is],Tree v:=by
 intro v a; simp at a
 rcases a with rfl | rfl
 ·exact cq _ (ia r)
 ·exact j7 is
theorem Se (x:Int):aA Tryz.prog 209 [gi x] (gb (decide (0≤x))):=by
 refine aA.val (zK (l:=[.int .i64 x])) fun H=>?_
 refine aw.of mixed By ?_
 simp (disch:=omega)only[↓wr,seval,wq,yn]
theorem TP (r:aW) (hr:aL r.right):aA Tryz.prog 171 [.agg (aP r)] (gb (!r.right.any fun s=>decide (0≤s))):=by
 refine aA.val (NL r) fun H=>?_
 refine aw.of mixed Eg ?_
 simp (disch:=omega)only[↓wr,seval,wq,A3,aP,encI]
 refine ay.pure (nF r.right hr 209 [] (by simp) (fun s=>decide (0≤s)) (fun x _=>Se x) (by kernel_rfl)) ?_
 simp (disch:=omega)only[↓wr,seval,wq]
def EW (is:List Bool) (s:Int):Bool:=decide (s < 0) && !is.getD (-1 - s).toNat false
theorem Mr (is:List Bool) (s:Int) (hs:cy s∧(s < 0→-1 - s < is.length)):aA Tryz.prog 197 [gi s,.aJ [bO is] 0] (gb (EW is s)):=by
 refine aA.val ?_ fun H=>?_
 ·intro v a; simp at a
  rcases a with rfl | rfl
  ·exact .val _
  ·exact lp (by intro v a; simp at a; subst a; exact j7 is)
 obtain ⟨⟨h1,e⟩,f⟩:=hs
 refine aw.of mixed yG ?_
 simp (disch:=omega)only[↓wr,seval,wq,ub,bO]
 apply ah.dec<;>intro h
 ·have d:is[(-1 - s).toNat]?=some (is[(-1 - s).toNat]'(by omega)):=Xc (by omega)
  have c:is.getD (-1 - s).toNat false=is[(-1 - s).toNat]'(by omega):=by simp[Xb,d]
  generalize is[(-1 - s).toNat]'(by omega)=b at d c
  simp (disch:=omega)only[↓wr,seval,wq,Xf,d]
  simp only[EW,c,h,decide_true,Ys]
 ·simp (disch:=omega)only[↓wr,seval,wq]
  simp[EW,h]
theorem Mg {is:List Bool} {l:List Int} : (!l.any (EW is))=cE l is true:=by
 simp only[cE,List.not_any_eq_all_not]
 congr 1
 funext s
 simp only[EW]
 by_cases h:0≤s
 ·simp[h,show ¬ s < 0 by omega]
 ·simp[h,show s < 0 by omega]
theorem tS (r:aW) (is:List Bool) (hr:aL r.right) (hs:∀ s∈r.right,cy s∧(s < 0→-1 - s < is.length)):aA Tryz.prog 160 [.agg (aP r),bO is] (gb (cE r.right is true)):=by
 rw[← Mg]
 refine aA.val (BK r is) fun H=>?_
 refine aw.of mixed Bw ?_
 simp (disch:=omega)only[↓wr,seval,wq,yi,aP,bO,encI]
 refine ay.pure (nF r.right hr 197 [.aJ [bO is] 0] (by
  intro v a; simp at a; subst a
  exact lp (by intro v a; simp at a; subst a; exact j7 is)) (EW is) (fun x b=>Mr is x (hs x b)) (by kernel_rfl)) ?_
 simp (disch:=omega)only[↓wr,seval,wq]
theorem JH {is:List Bool} {l:List Int} : ((!l.any fun s=>decide (0≤s)) && cE l is true)=cE l is false:=by
 induction l with
 | nil=>rfl
 | cons s l a =>
  simp only[cE,Yv,List.any_cons] at a ⊢
  rw[← a]
  by_cases h:0≤s
  ·simp[h]
  ·simp only[h,decide_false,Bool.false_or,if_false]
   cases (l.any fun s=>decide (0≤s)) <;> simp
theorem lQ {h:aC} {u:V} {l:List Int} (a:aX h.view u 1 (l.map fun x=>[gi x])):dB h u (encI l):=dB.Rl (f:=Value.int .i64) a
theorem Iv (r:aW) (is:List Bool) (hr:CP is.length r):dc Tryz.prog 170 [.agg (aP r),bO is] (encI (if cE r.right is false=true then [r.left] else [])):=by
 obtain ⟨hl,_,_,c,hs⟩:=hr
 have a:aL r.right:=by unfold aL; omega
 refine dc.of (BK r is) ?_
 refine aw.of mixed xY ?_
 rw[← JH]
 simp (disch:=omega)only[↓wr,seval,wq,sg,aP,encI]
 refine ay.pure (TP r a) ?_
 repeat' (first | (refine ah.dec (fun _=>?_) (fun _=>?_)) | (refine ah.eq (fun _=>?_) (fun _=>?_)) | (refine ah.ne (fun _=>?_) (fun _=>?_)) | (refine ah.split (fun _=>?_) (fun _=>?_)) | (refine ay.pure (tS r is a hs) ?_) | (simp (disch:=omega)only[↓wr,seval,wq,aP,encI]))
 all_goals first
  | (intro n d b; rw[Xg (by simp[*])]; exact lQ (l:=[r.left]) (.inr ⟨n,rfl,by rw[b]; simp[View.set]⟩))
  | (intro d b; rw[Xd (by simp[*])]; exact .emp _)
theorem D2 (r:aW) (is:List Bool) (hr:CP is.length r):dc Tryz.prog 195 [.agg (aP r),bO is] (encI (if cE r.right is true=true then [r.left] else [])):=by
 obtain ⟨hl,_,_,c,hs⟩:=hr
 have a:aL r.right:=by unfold aL; omega
 refine dc.of (BK r is) ?_
 refine aw.of mixed vt ?_
 simp (disch:=omega)only[↓wr,seval,wq,pW,aP,encI]
 refine ay.pure (tS r is a hs) ?_
 repeat' (first | (refine ah.dec (fun _=>?_) (fun _=>?_)) | (refine ah.eq (fun _=>?_) (fun _=>?_)) | (refine ah.ne (fun _=>?_) (fun _=>?_)) | (refine ah.split (fun _=>?_) (fun _=>?_)) | (simp (disch:=omega)only[↓wr,seval,wq,aP,encI]))
 all_goals first
  | (intro n d b; rw[Xg (by simp[*])]; exact lQ (l:=[r.left]) (.inr ⟨n,rfl,by rw[b]; simp[View.set]⟩))
  | (intro d b; rw[Xd (by simp[*])]; exact .emp _)
def ib (l:List Int):List Int:=(l.filter fun s=>decide (s < 0)).map fun s=>-1 - s
theorem NZ (r:aW) (is p:List Bool):∀ v∈[V.agg (aP r),bO is,.aJ [bO p] 0],Tree v:=by
 intro v a; simp at a
 rcases a with rfl | rfl | rfl
 ·exact cq _ (ia r)
 ·exact j7 is
 ·exact lp (by intro v a; simp at a; subst a; exact j7 p)
theorem GM (r:aW) (is p:List Bool) (hr:CP is.length r) (hp:p.length=is.length) :
  dc Tryz.prog 196 [.agg (aP r),bO is,.aJ [bO p] 0] (encI (if (is.getD r.left.toNat false && cE r.right p true)=true then ib r.right else [])):=by
 obtain ⟨hl,y,z,A,hs⟩:=hr
 have l:aL r.right:=by unfold aL; omega
 refine dc.of (NZ r is p) ?_
 refine aw.of mixed wK ?_
 have n:is[r.left.toNat]?=some (is[r.left.toNat]'(by omega)):=Xc (by omega)
 have g:is.getD r.left.toNat false=is[r.left.toNat]'(by omega):=by simp[Xb,n]
 generalize is[r.left.toNat]'(by omega)=b at n g
 rw[g]
 simp (disch:=omega)only[↓wr,seval,wq,rE,aP,encI,bO,Xf,n]
 cases b with
 | false =>
  simp (disch:=omega)only[↓wr,seval,wq]
  intro w o
  exact .emp _
 | true =>
  simp (disch:=omega)only[↓wr,seval,wq,aP,encI,bO]
  refine ay.pure (tS r p l (fun s j=>⟨(hs s j).1,fun h=>by rw[hp]; exact (hs s j).2 h⟩)) ?_
  repeat' (first | (refine ah.dec (fun _=>?_) (fun _=>?_)) | (refine ah.eq (fun _=>?_) (fun _=>?_)) | (refine ah.ne (fun _=>?_) (fun _=>?_)) | (refine ah.split (fun _=>?_) (fun _=>?_)) | (simp (disch:=omega)only[↓wr,seval,wq,aP,encI,bO]))
  ·rename_i q
   rw[Xg (by simp[q])]
   refine aU.up r.right.length (fun i T H=>(∃ u,T 5=u∧aX H u 1 ((ib (r.right.take i)).map fun x=>[gi x]))∧T 21=encI r.right∧T 22=gi r.right.length∧T 23=gi i) ?_ ?_
   ·exact ⟨⟨_,rfl,.nil⟩,rfl,rfl,rfl⟩
   rintro i k T H' hk ⟨⟨u,e,hu⟩,a,c,d⟩
   simp (disch:=omega)only[↓wr,seval,wq,pq,e,a,c,d,encI]
   apply ah.dec<;>intro B
   ·have t:r.right[i]?=some (r.right[i]'(by omega)):=Xc (by omega)
    have hm:r.right[i]'(by omega)∈r.right:=Xm _
    have f:ib (r.right.take (i+1))=ib (r.right.take i) ++ ib [r.right[i]'(by omega)]:=by
     rw[XH,t,ib,YG,XD]; rfl
    have hlen:(ib (r.right.take i)).length≤6:=by
     have h1:(ib (r.right.take i)).length≤(r.right.take i).length:=by simp only[ib,Xj]; exact X9 _ _
     have D:(r.right.take i).length≤i:=List.length_take_le _ _
     omega
    generalize r.right[i]'(by omega)=s at t hm f
    obtain ⟨⟨s1,s2⟩,E⟩:=hs s hm
    simp (disch:=omega)only[↓wr,seval,wq,e,a,c,d,encI,Xf,t]
    apply ah.dec<;>intro hd
    ·simp (disch:=omega)only[↓wr,seval,wq,e,a,c,d]
     intro m hm
     try simp (disch:=omega)only[↓wr,seval,wq,e,a,c,d,bT]
     refine yF (hu.fresh hm) (by simp) (by simp[aO]) (by unfold aB; simp at hlen ⊢; omega) (by unfold aB; simp at hlen ⊢; omega) ?_
     intro C F v _
     simp (disch:=omega)only[↓wr,seval,wq,a,c,d]
     refine aF hk (by omega) ⟨⟨C,rfl,?_⟩,a,c,rfl⟩
     rw[f]
     simpa [ib,hd] using v
    ·simp (disch:=omega)only[↓wr,seval,wq,e,a,c,d]
     refine aF hk (by omega) ⟨⟨u,e,?_⟩,a,c,rfl⟩
     rw[f]
     simpa [ib,hd] using hu
   ·rw[Xv (by omega)] at hu
    simp (disch:=omega)only[↓wr,seval,wq,e,a,c,d]
    intro w o
    exact lQ (by rw[o]; exact hu)
  ·rename_i q
   intro w o
   rw[Xd (by simp[q])]
   exact .emp _
def sq (is:List Bool) (l:List Int):List Bool:=l.foldl (fun is n=>is.set n.toNat true) is
def stepG (comes:aW→List Bool→List Int) (is:List Bool) (r:aW):List Bool:=sq is (comes r is)
def eh (comes:aW→List Bool→List Int) (rules:List aW) (is:List Bool):List Bool:=rules.foldl (stepG comes) is
def fT (a b:List Bool):Prop:=a.length=b.length∧∀ i,a.getD i false=true→b.getD i false=true
theorem fT.refl (a:List Bool):fT a a:=⟨rfl,fun _ h=>h⟩
theorem fT.trans {a b c:List Bool} (h:fT a b) (k:fT b c):fT a c:=⟨h.1.trans k.1,fun i hi=>k.2 i (h.2 i hi)⟩
theorem fT.set (a:List Bool) (i:Nat):fT a (a.set i true):=by
 refine ⟨by simp,fun j h=>?_⟩
 simp only[Xb,YC] at h ⊢
 split
 ·split
  ·rfl
  ·rename_i e b; rw[← e,XL (by omega)] at h; simp at h
 ·exact h
theorem IX:∀ (l:List Int) (is:List Bool),fT is (sq is l)
 | [],is=>.refl _
 | n :: l,is=>(fT.set is n.toNat).trans (IX l _)
theorem uG (comes:aW→List Bool→List Int):∀ (rules:List aW) (is:List Bool),fT is (eh comes rules is)
 | [],is=>.refl _
 | r :: rs,is=>(IX _ _).trans (uG comes rs _)
def ew (a:List Bool):Nat:=a.countP fun x=>x
theorem tC (a:List Bool):ew a≤a.length:=List.countP_le_length
theorem fT.ew:∀ {a b:List Bool},fT a b→ew a≤ew b∧(ew a=ew b→a=b)
 | [],[],_=>⟨Xo _,fun _=>rfl⟩
 | [],_ :: _,h=>by simp[fT] at h
 | _ :: _,[],h=>by simp[fT] at h
 | x :: a,y :: b,h=>by
  have c:x=true→y=true:=fun e=>by have:=h.2 0 (by simpa using e); simpa using this
  obtain ⟨h1,d⟩:=fT.ew (a:=a) (b:=b) ⟨by simpa using h.1,fun i hi=>by have:=h.2 (i+1) (by simpa using hi); simpa using this⟩
  unfold Gv.ew at h1 d ⊢
  simp only[List.countP_cons]
  cases x with
  | true =>
   have:=c rfl; subst this
   simp only[if_true]
   exact ⟨by omega,fun e=>by rw[d (by omega)]⟩
  | false =>
   cases y with
   | false=>simp only[Xz,if_false]; exact ⟨by omega,fun e=>by rw[d (by omega)]⟩
   | true=>simp only[Xz,if_false,if_true]; exact ⟨by omega,fun e=>by omega⟩
def iG (comes:aW→List Bool→List Int) (rules:List aW):Nat→List Bool→List Bool
 | 0,is=>is
 | k+1,is=>if eh comes rules is=is then is else iG comes rules k (eh comes rules is)
theorem uh (comes:aW→List Bool→List Int) (rules:List aW):∀ (k:Nat) (is:List Bool),is.length≤ew is+k→eh comes rules (iG comes rules k is)=iG comes rules k is∧fT is (iG comes rules k is)
 | 0,is,h=>by
  have h1:=uG comes rules is
  have b:=tC (eh comes rules is)
  have a:=h1.ew
  rw[← h1.1] at b
  have c:=tC is
  exact ⟨(a.2 (by omega)).symm,.refl _⟩
 | k+1,is,h=>by
  simp only[iG]
  by_cases e:eh comes rules is=is
  ·rw[Xg e]; exact ⟨e,.refl _⟩
  ·rw[Xd e]
   have h1:=uG comes rules is
   have a:=h1.ew
   have:ew is < ew (eh comes rules is):=by
    rcases XB (ew is) (ew (eh comes rules is)) with h | h
    ·exact h
    ·exact absurd (a.2 (by omega)).symm e
   obtain ⟨g1,g2⟩:=uh comes rules k (eh comes rules is) (by rw[← h1.1]; omega)
   exact ⟨g1,h1.trans g2⟩
def yx:SC :=
 ae [ab [aV 26 .lss 25 24],bY 26 (.exit 4),.block 5 (ae [ab [aQ 27 1 23 25,aj 28 27,aa 11 28],.region false [⟨none,[aa 29 7,aa 30 29]⟩,⟨(some (30,false)),[aa 31 1,aa 32 11,aQ 33 1 31 32,aj 34 33,de 35 34]⟩,⟨none,[cz 36 30 35,aa 7 36]⟩],ab [aa 37 1,aa 38 11,aQ 39 1 37 38,(none,.op (.store 1 (.tmp 39) (.val (.val (.bool true)))))]]),ab [aH 40 .add 25 1,aa 25 40]]
def yh:SC :=
 ae [ab [aV 17 .lss 16 15],bY 17 (.exit 2),.block 3 (ae [ab [aQ 18 3 14 16,bg 19 3 18,((some 9),.op (.alloc [(.val (.int .i64 0)),(.emp 1),(.val (.int .i64 0))])),bU 3 9 19],ab [aa 20 2,bg 21 3 9,aa 22 1,((some 23),.call (.tmp 20) [(.tmp 21),(.tmp 22)]),aN 24 23,aS 25 0],b6 4 yx]),ab [aH 41 .add 16 1,aa 16 41]]
def rT:SC :=
 ae [ae [ab [aa 12 7],bY 12 (.exit 0)],.block 1 (ae [ab [bu 7 false],ab [ao 13 2 3,aj 14 13,aN 15 14,aS 16 0],b6 2 yh])]
def AU:SF:=⟨ae [ab [cI 3 0,df 6 1],ae [ab [bu 7 true],b6 0 rT],ab [aa 42 1,aa 6 42],.ret],
 [.tmp 6],43⟩
theorem Eo:aR Tryz.prog 169 [3]=some AU:=by kernel_rfl
theorem RV {is:List Bool} {i:Nat} (h:is.getD i false=true):is.set i true=is:=by
 apply List.ext_getElem?
 intro j
 simp only[Xb] at h
 rw[YC]
 split
 ·rename_i e; subst e
  split
  ·rename_i hl; rw[Xc hl] at h ⊢; simp at h; simp[h]
  ·rename_i hl; rw[XL (by omega)] at h; simp at h
 ·rfl
theorem Mo {comes:aW→List Bool→List Int} {rules:List aW} {k:Nat} {is:List Bool} (h:eh comes rules is=is):iG comes rules k is=is:=by
 cases k with
 | zero=>rfl
 | succ k=>simp only[iG,h,if_true]
theorem Nh {comes:aW→List Bool→List Int} {rules:List aW} {k:Nat} {is:List Bool} (h:¬ eh comes rules is=is) (hk:is.length≤ew is+k):∃ j,k=j+1∧iG comes rules k is=iG comes rules j (eh comes rules is)∧(eh comes rules is).length≤ew (eh comes rules is)+j:=by
 have h1:=uG comes rules is
 have a:=h1.ew
 have b:=tC (eh comes rules is)
 have:ew is < ew (eh comes rules is):=by
  rcases XB (ew is) (ew (eh comes rules is)) with h | h
  ·exact h
  ·exact absurd (a.2 (by omega)).symm (by assumption)
 have hl:=h1.1
 obtain ⟨j,rfl⟩:∃ j,k=j+1:=⟨k - 1,by omega⟩
 exact ⟨j,rfl,by simp only[iG]; rw[Xd h],by omega⟩
theorem Sg {a is:List Bool} {i:Nat} {b:Bool} (hle:fT a is) (hi:i < is.length) (d:b = !decide (is=a)):(b || !is.getD i false) = !decide (is.set i true=a):=by
 cases c:is.getD i false with
 | true=>rw[RV c,d]; simp
 | false =>
  have:¬ is.set i true=a:=fun e=>by
   have h1:(is.set i true).getD i false=true:=by simp[Xb,hi]
   rw[e] at h1
   have:=hle.2 i h1
   rw[c] at this; simp at this
  simp[this]
theorem Ez (g:ag) (hr:g.rules.length≤40) (comes:aW→List Bool→List Int) (f:FuncId) (t D:List V) (ar:dJ Tryz.prog f=true) (N:Nat) (hN:N≤16)
  (hc:∀ r∈g.rules,∀ is:List Bool,is.length=N→dc Tryz.prog f (.agg (aP r) :: bO is :: D) (encI (comes r is))∧(comes r is).length≤100∧∀ n∈comes r is,cy n∧0≤n∧n < N)
  (id:Nat) (A:List Bool) (a6:A.length=N) (H:View) (hH:H id=.arr 1 (dz A)) (O:∀ H':View,(∀ k,H k≠.dead→k≠id→H' k=H k)→qO H' t D) :
  aw Tryz.prog 169 [.agg (ai g),.sl id 0 N 1,.fn f [] t] H fun r H'=>r=.sl id 0 N 1∧H' id=.arr 1 (dz (iG comes g.rules 16 A))∧∀ k,H k≠.dead→k≠id→H' k=H k:=by
 refine aw.of mixed Eo ?_
 simp (disch:=omega)only[↓wr,seval,wq,AU,ai,encS]
 refine aU.intro (fun k T H'=>∃ is:List Bool,is.length=N∧H' id=.arr 1 (dz is)∧(∀ k,H k≠.dead→k≠id→H' k=H k)∧T 1=.sl id 0 N 1∧T 2=.fn f [] t∧T 3=.aJ (ai g) 0 ∧
  ((T 7=gb true∧∃ j,k=j+1∧iG comes g.rules j is=iG comes g.rules 16 A∧N≤ew is+j)∨(T 7=gb false∧is=iG comes g.rules 16 A))) 17 ?_ ?_
 ·exact ⟨A,a6,hH,fun _ _ _=>rfl,rfl,rfl,rfl,.inl ⟨rfl,16,rfl,rfl,by omega⟩⟩
 rintro k T H1 ⟨is,hlen,o,p,t1,t2,t3,u⟩
 rcases u with ⟨u,j,rfl,J,hj⟩ | ⟨u,J⟩
 ·simp (disch:=omega)only[↓wr,seval,wq,rT,t1,t2,t3,u,ai,encS]
  refine aU.up g.rules.length (fun i T H'=>∃ pZ:List Bool,pZ.length=N∧fT is pZ∧pZ=(g.rules.take i).foldl (stepG comes) is∧H' id=.arr 1 (dz pZ)∧(∀ k,H k≠.dead→k≠id→H' k=H k)∧T 1=.sl id 0 N 1∧T 2=.fn f [] t∧T 3=.aJ (ai g) 0 ∧
   T 7=gb (!decide (pZ=is))∧T 14=.aE (g.rules.map aP)∧T 15=gi g.rules.length∧T 16=gi i) ?_ ?_
  ·exact ⟨is,hlen,.refl _,rfl,o,p,t1,t2,t3,by simp; rfl,rfl,rfl,rfl⟩
  clear t1 t2 t3 u o p
  rintro i k T H1 hk ⟨pZ,s,W,P,o,p,t1,t2,t3,u,c,d,m⟩
  simp (disch:=omega)only[↓wr,seval,wq,yh,t1,t2,t3,u,c,d,m,ai,encS]
  apply ah.dec<;>intro a8
  ·have Q:g.rules[i]?=some (g.rules[i]'(by omega)):=Xc (by omega)
   have M:g.rules[i]'(by omega)∈g.rules:=Xm _
   have X:(g.rules.take (i+1)).foldl (stepG comes) is=stepG comes ((g.rules.take i).foldl (stepG comes) is) (g.rules[i]'(by omega)):=by
    rw[XH,Q,XZ]; rfl
   generalize g.rules[i]'(by omega)=r at Q M X
   obtain ⟨bb,bd,Y⟩:=hc r M pZ s
   simp (disch:=omega)only[↓wr,seval,wq,t1,t2,t3,u,c,d,m,aP,encI,Xf,Q]
   intro b R
   have E:b≠id:=by rintro rfl; rw[o] at R; simp at R
   try simp (disch:=omega)only[↓wr,seval,wq,t1,t2,t3,u,c,d,m]
   refine ay.VJ bb ar ⟨eO.tree (cq _ (ia r)),Cj (by simp[View.set,E.symm,o]) s.symm,O _ (fun k hk v=>?_)⟩ ?_
   ·have S:k≠b:=by
     rintro rfl
     rw[p k hk v] at R
     exact hk R
    simp[View.set,S,p k hk v]
   generalize hl:comes r pZ=l at bd Y
   simp (disch:=omega)only[↓wr,seval,wq,t1,t2,t3,u,c,d,m,encI]
   refine aU.up l.length (fun q T H'=>∃ a:List Bool,a.length=N∧fT is a∧a=sq pZ (l.take q)∧H' id=.arr 1 (dz a)∧(∀ k,H k≠.dead→k≠id→H' k=H k)∧T 1=.sl id 0 N 1∧T 2=.fn f [] t∧T 3=.aJ (ai g) 0 ∧
    T 7=gb (!decide (a=is))∧T 14=.aE (g.rules.map aP)∧T 15=gi g.rules.length∧T 16=gi i∧T 23=encI l∧T 24=gi l.length∧T 25=gi q) ?_ ?_
   ·refine ⟨pZ,s,W,rfl,by simp[View.set,E.symm,o],fun k hk v=>?_,t1,t2,t3,u,c,d,m,rfl,rfl,rfl⟩
    have S:k≠b:=by
     rintro rfl
     rw[p k hk v] at R
     exact hk R
    simp[View.set,S,p k hk v]
   clear t1 t2 t3 u c d m o p R E
   rintro q k2 T H1 bl ⟨a,F,G,I,o,p,t1,t2,t3,u,c,d,m,w,y,B⟩
   simp (disch:=omega)only[↓wr,seval,wq,yx,t1,t2,t3,u,c,d,m,w,y,B,encI]
   apply ah.dec<;>intro bn
   ·have U:l[q]?=some (l[q]'(by omega)):=Xc (by omega)
    have Z:l[q]'(by omega)∈l:=Xm _
    have an:sq pZ (l.take (q+1))=(sq pZ (l.take q)).set (l[q]'(by omega)).toNat true:=by
     unfold sq; rw[XH,U,XZ]; rfl
    generalize l[q]'(by omega)=n at U Z an
    obtain ⟨⟨n1,n2⟩,n3,n4⟩:=Y n Z
    have aq:a.getD n.toNat false=a[n.toNat]'(by omega):=by simp[Xb,show n.toNat < a.length by omega]
    have z:=Sg G (show n.toNat < a.length by omega) (b:=!decide (a=is)) rfl
    rw[aq] at z
    have K:=lE (show n.toNat < a.length by omega)
    generalize a[n.toNat]'(by omega)=x at z K aq
    have fin:∀ (C:Env),C 7=gb (!decide (a.set n.toNat true=is))→C 1=.sl id 0 N 1→C 2=.fn f [] t→C 3=.aJ (ai g) 0→C 14=.aE (g.rules.map aP)→C 15=gi g.rules.length→C 16=gi i→C 23=encI l→C 24=gi l.length→C 25=gi ((q:Int)+1) →
      ∃ k',k' < k2∧Ft l.length k' (fun q T H'=>∃ a:List Bool,a.length=N∧fT is a∧a=sq pZ (l.take q)∧H' id=.arr 1 (dz a)∧(∀ k,H k≠.dead→k≠id→H' k=H k)∧T 1=.sl id 0 N 1∧T 2=.fn f [] t∧T 3=.aJ (ai g) 0 ∧
       T 7=gb (!decide (a=is))∧T 14=.aE (g.rules.map aP)∧T 15=gi g.rules.length∧T 16=gi i∧T 23=encI l∧T 24=gi l.length∧T 25=gi q) C (H1.set id (.arr 1 (dz (a.set n.toNat true)))):=by
     intro C a7 a1 a2 a3 bq br bs a23 a24 a25
     refine aF bl (by omega) ⟨a.set n.toNat true,by simp[F],G.trans (.set _ _),by rw[an,← I],by simp[View.set],fun k hk v=>by simp[View.set,v,p k hk v],a1,a2,a3,a7,bq,br,bs,a23,a24,by rw[a25]; rfl⟩
    simp (disch:=omega)only[↓wr,seval,wq,t1,t2,t3,u,c,d,m,w,y,B,encI,Xf,U]
    apply ah.dec<;>intro e
    ·simp (disch:=omega)only[↓wr,seval,wq,t1,t2,t3,u,c,d,m,w,y,B,encI,o,K,Xj]
     refine ⟨by omega,by omega,?_⟩
     try simp (disch:=omega)only[↓wr,seval,wq,t1,t2,t3,u,c,d,m,w,y,B,encI,o,K,Xj]
     refine ⟨by omega,by omega,?_⟩
     rw[lH]
     exact fin _ (by rw[← z]; simp[e]; rfl) t1 t2 t3 c d m w y rfl
    ·simp (disch:=omega)only[↓wr,seval,wq,t1,t2,t3,u,c,d,m,w,y,B,encI,o,K,Xj]
     refine ⟨by omega,by omega,?_⟩
     rw[lH]
     exact fin _ (by rw[← z]; simp[e]; rfl) t1 t2 t3 c d m w y rfl
   ·rw[Xv (by omega)] at I
    simp (disch:=omega)only[↓wr,seval,wq,t1,t2,t3,u,c,d,m,w,y,B]
    refine aF hk (by omega) ⟨a,F,G,?_,o,p,t1,t2,t3,u,c,d,rfl⟩
    rw[X,← P,stepG,hl,← I]
  ·rw[Xv (by omega)] at P
   simp (disch:=omega)only[↓wr,seval,wq,t1,t2,t3,u,c,d,m]
   have L:pZ=eh comes g.rules is:=P
   by_cases e:pZ=is
   ·refine ⟨0,by omega,pZ,s,o,p,rfl,.inr ⟨by simp[e],?_⟩⟩
    rw[← J,e]
    exact (Mo (by rw[← L]; exact e)).symm
   ·obtain ⟨j2,rfl,e2,e3⟩:=Nh (k:=j) (fun h=>e (L.trans h)) (by rw[hlen]; exact hj)
    refine ⟨j2+1,by omega,pZ,s,o,p,rfl,.inl ⟨by simp[e],j2,rfl,?_,?_⟩⟩
    ·rw[← J,e2,L]
    ·rw[← L,s] at e3; exact e3
 ·simp (disch:=omega)only[↓wr,seval,wq,rT,t1,t2,t3,u,ai,encS]
  exact ⟨J ▸ o,p⟩
theorem wZ {α:Type} {f:α→α} {x:α} (h:f x=x):∀ n,iter f n x=x
 | 0=>rfl
 | n+1=>by rw[iter,h,wZ h n]
theorem Hv {α:Type} (f:α→α):∀ (a b:Nat) (x:α),iter f (a+b) x=iter f b (iter f a x)
 | 0,b,x=>by rw[Yi]; rfl
 | a+1,b,x=>by rw[Nat.add_right_comm,iter,iter,Hv f a b]
theorem DO (comes:aW→List Bool→List Int) (rules:List aW):∀ (k:Nat) (is:List Bool),iG comes rules k is=iter (eh comes rules) k is
 | 0,is=>rfl
 | k+1,is=>by
  simp only[iG,iter]
  by_cases e:eh comes rules is=is
  ·rw[Xg e,e,wZ e]
  ·rw[Xd e,DO comes rules k]
theorem zn (comes:aW→List Bool→List Int) (rules:List aW) (is:List Bool) (h:is.length≤16):iG comes rules 16 is=iter (eh comes rules) is.length is:=by
 have h1:=(uh comes rules is.length is (by omega)).1
 rw[DO] at h1 ⊢
 obtain ⟨m,hm⟩:∃ m,16=is.length+m:=⟨16 - is.length,by omega⟩
 rw[hm,Hv,wZ h1]
def mM (t:Bool) (r:aW) (is:List Bool):List Int:=if cE r.right is t=true then [r.left] else []
def tG (p:List Bool) (r:aW) (is:List Bool):List Int:=if (is.getD r.left.toNat false && cE r.right p true)=true then ib r.right else []
theorem LB (g:ag) (t:Bool):eh (mM t) g.rules=kC g t:=by
 funext is
 unfold eh kC
 congr 1
 funext is r
 unfold stepG mM eC
 split <;> rfl
theorem Dr:∀ (l:List Int) (is:List Bool),sq is (ib l)=l.foldl mark is
 | [],is=>rfl
 | s :: l,is=>by
  have a:=Dr l
  unfold sq ib at a ⊢
  rw[XC,← a]
  unfold mark
  by_cases h:s < 0
  ·rw[Xg h,List.filter_cons_of_pos (by simpa using h)]; rfl
  ·rw[Xd h,List.filter_cons_of_neg (by simpa using h)]
theorem Lf (g:ag) (p:List Bool):eh (tG p) g.rules=pB g p:=by
 funext is
 unfold eh pB
 congr 1
 funext is r
 unfold stepG tG gz
 split
 ·exact Dr _ _
 ·rfl
theorem G5 {g:ag} (h:bG g=true) (t:Bool):iG (mM t) g.rules 16 (cn g)=au g t:=by
 have a:=bJ h
 have hl:(cn g).length=g.ak.length:=by simp[cn]
 have:=a.ak
 rw[zn _ _ _ (by rw[hl]; exact a.ak),LB,hl,au,Xg h]
theorem NX {g:ag} (h:bG g=true):iG (tG (au g true)) g.rules 16 ((cn g).set g.start.toNat true)=bN g:=by
 have a:=bJ h
 have hl:((cn g).set g.start.toNat true).length=g.ak.length:=by simp[cn]
 rw[zn _ _ _ (by rw[hl]; exact a.ak),Lf,hl,bN,Xg h]
def tT:SF:=⟨ae [ab [cI 1 0,df 2 1],ae [ab [bg 3 4 1,bz 4 52 [3],de 5 4],bf 5 (ae [ab [df 2 1],.ret])],ab [bg 6 4 1,ao 7 1 1,aj 8 7,aN 9 8,((some 10),.op (.make 1 1 [(.val (.bool false))] (.tmp 9) (.tmp 9))),r7 11 169 [(.tmp 6),(.tmp 10),(.val (.fn 170 [] []))],aa 2 11],.ret],
 [.tmp 2],12⟩
theorem zt:aR Tryz.prog 118 [1]=some tT:=by kernel_rfl
def sd:SF:=⟨ae [ab [cI 1 0,df 2 1],ae [ab [bg 3 4 1,bz 4 52 [3],de 5 4],bf 5 (ae [ab [df 2 1],.ret])],ab [bg 6 4 1,ao 7 1 1,aj 8 7,aN 9 8,((some 10),.op (.make 1 1 [(.val (.bool false))] (.tmp 9) (.tmp 9))),r7 11 169 [(.tmp 6),(.tmp 10),(.val (.fn 195 [] []))],aa 2 11],.ret],
 [.tmp 2],12⟩
theorem xT:aR Tryz.prog 157 [1]=some sd:=by kernel_rfl
def tv:SF:=⟨ae [ab [cI 1 0,df 2 1],ae [ab [bg 5 4 1,bz 6 52 [5],de 7 6],bf 7 (ae [ab [df 2 1],.ret])],ab [bg 8 4 1,bz 9 157 [8],((some 3),.op (.alloc [(.emp 1)])),bU 1 3 9],ab [ao 10 1 1,aj 11 10,aN 12 11,((some 13),.op (.make 1 1 [(.val (.bool false))] (.tmp 12) (.tmp 12))),aa 4 13],ab [aa 14 4,ao 15 3 1,aj 16 15,aQ 17 1 14 16,(none,.op (.store 1 (.tmp 17) (.val (.val (.bool true)))))],ab [bg 18 4 1,aa 19 4,((some 20),.op (.s9 196 [] [(.tmp 3)])),bz 21 169 [18,19,20],aa 2 21],.ret],
 [.tmp 2],22⟩
theorem yA:aR Tryz.prog 158 [1]=some tv:=by kernel_rfl
structure ag.Small (g:ag):Prop where
 names:g.ak.length+g.af.length≤1000
theorem y9 {a:aC} {id n:Nat} {is:List Bool} (b:a.view id=.arr 1 (dz is)) (c:n=is.length):dB a (.sl id 0 n 1) (bO is):=by
 subst c; exact zb b
theorem zm (g:ag) (d:g.Ok) (hs:g.Small):dc Tryz.prog 118 [.agg (ai g)] (bO (au g false)):=by
 refine dc.of (fu g) ?_
 refine aw.of mixed zt ?_
 have i:=d.ak
 unfold aL at i
 simp (disch:=omega)only[↓wr,seval,wq,tT,ai,encS]
 refine ay.pure (nQ g d hs.names) ?_
 repeat' (first | (refine ah.dec (fun _=>?_) (fun _=>?_)) | (refine ah.eq (fun _=>?_) (fun _=>?_)) | (refine ah.ne (fun _=>?_) (fun _=>?_)) | (refine ah.split (fun _=>?_) (fun _=>?_)) | (simp (disch:=omega)only[↓wr,seval,wq,ai,encS]))
 ·rename_i hr
  have b:=bJ hr
  have h1:=b.qU
  have j:=b.ak
  try simp (disch:=omega)only[↓wr,seval,wq,ai,encS]
  refine ⟨⟨by omega,by unfold aB; omega,by unfold aB; omega⟩,fun h=>by omega,?_⟩
  intro _ n
  try simp (disch:=omega)only[↓wr,seval,wq,ai,encS]
  refine ay.dZ ((Ez g b.rules (mM false) 170 [] [] (by kernel_rfl) g.ak.length j (fun r a is e=>⟨Iv r is (by rw[e]; exact b.tN d a),?_,?_⟩) n (cn g) (by simp[cn]) _ (by simp[View.set,cn]) (fun H' _=>trivial)).mono ?_)
  ·unfold mM; split <;> simp
  ·intro m hm
   unfold mM at hm
   split at hm
   ·simp only[X8] at hm; subst hm
    exact ⟨(d.ax r a).1,b.left r a⟩
   ·simp at hm
  ·rintro r H' ⟨rfl,c,_⟩
   simp (disch:=omega)only[↓wr,seval,wq]
   intro k f
   rw[G5 hr] at c
   exact y9 (by rw[f]; exact c) (gT hr _).symm
 ·rename_i hr
  intro k f
  simp only[au,hr]
  exact .emp _
theorem wE (g:ag) (d:g.Ok) (hs:g.Small):dc Tryz.prog 157 [.agg (ai g)] (bO (au g true)):=by
 refine dc.of (fu g) ?_
 refine aw.of mixed xT ?_
 have i:=d.ak
 unfold aL at i
 simp (disch:=omega)only[↓wr,seval,wq,sd,ai,encS]
 refine ay.pure (nQ g d hs.names) ?_
 repeat' (first | (refine ah.dec (fun _=>?_) (fun _=>?_)) | (refine ah.eq (fun _=>?_) (fun _=>?_)) | (refine ah.ne (fun _=>?_) (fun _=>?_)) | (refine ah.split (fun _=>?_) (fun _=>?_)) | (simp (disch:=omega)only[↓wr,seval,wq,ai,encS]))
 ·rename_i hr
  have b:=bJ hr
  have h1:=b.qU
  have j:=b.ak
  try simp (disch:=omega)only[↓wr,seval,wq,ai,encS]
  refine ⟨⟨by omega,by unfold aB; omega,by unfold aB; omega⟩,fun h=>by omega,?_⟩
  intro _ n
  try simp (disch:=omega)only[↓wr,seval,wq,ai,encS]
  refine ay.dZ ((Ez g b.rules (mM true) 195 [] [] (by kernel_rfl) g.ak.length j (fun r a is e=>⟨D2 r is (by rw[e]; exact b.tN d a),?_,?_⟩) n (cn g) (by simp[cn]) _ (by simp[View.set,cn]) (fun H' _=>trivial)).mono ?_)
  ·unfold mM; split <;> simp
  ·intro m hm
   unfold mM at hm
   split at hm
   ·simp only[X8] at hm; subst hm
    exact ⟨(d.ax r a).1,b.left r a⟩
   ·simp at hm
  ·rintro r H' ⟨rfl,c,_⟩
   simp (disch:=omega)only[↓wr,seval,wq]
   intro k f
   rw[G5 hr] at c
   exact y9 (by rw[f]; exact c) (gT hr _).symm
 ·rename_i hr
  intro k f
  simp only[au,hr]
  exact .emp _
theorem qX {g:ag} (hr:bG g=true):(bN g).length=g.ak.length:=by
 rw[bN,Xg hr,B6 (f:=pB g (au g true)) (fun is=>Ca (fun is x=>Oi _ is x) g.rules is)]
 simp[cn]
theorem GC (g:ag) (f:g.Ok) (hs:g.Small):dc Tryz.prog 158 [.agg (ai g)] (bO (bN g)):=by
 refine dc.of (fu g) ?_
 refine aw.of mixed yA ?_
 have y:=f.ak
 unfold aL at y
 simp (disch:=omega)only[↓wr,seval,wq,tv,ai,encS]
 refine ay.pure (nQ g f hs.names) ?_
 repeat' (first | (refine ah.dec (fun _=>?_) (fun _=>?_)) | (refine ah.eq (fun _=>?_) (fun _=>?_)) | (refine ah.ne (fun _=>?_) (fun _=>?_)) | (refine ah.split (fun _=>?_) (fun _=>?_)) | (simp (disch:=omega)only[↓wr,seval,wq,ai,encS]))
 ·rename_i hr
  have d:=bJ hr
  have h1:=d.qU
  have A:=d.ak
  have C:=d.kA
  have D:=d.start
  have p:=gT hr true
  try simp (disch:=omega)only[↓wr,seval,wq,ai,encS]
  refine ay.pure (wE g f hs).pure ?_
  simp (disch:=omega)only[↓wr,seval,wq,ai,encS,bO]
  intro q
  try simp (disch:=omega)only[↓wr,seval,wq,ai,encS,set_set]
  refine ⟨⟨by omega,by unfold aB; omega,by unfold aB; omega⟩,fun h=>by omega,?_⟩
  intro _ n t
  have e:=(cO t cJ).1
  try simp (disch:=omega)only[↓wr,seval,wq,ai,encS,set_set]
  have i:=lE (is:=cn g) (show g.start.toNat < (cn g).length by simp[cn]; omega)
  refine ⟨by omega,by simp; omega,?_⟩
  refine ay.dZ ((Ez g d.rules (tG (au g true)) 196 [.ptr q 0 0] [.aJ [bO (au g true)] 0] (by kernel_rfl) g.ak.length A (fun r c is j=>⟨GM r is (au g true) (by rw[j]; exact d.tN f c) (by rw[j,p]),?_,?_⟩) n ((cn g).set g.start.toNat true) (by simp[cn]) _ ?_ (fun H' u=>⟨eO.box (z:=1) ?_ ?_,trivial⟩)).mono ?_)
  ·have E:=d.right r c
   unfold tG
   split
   ·have:(ib r.right).length≤r.right.length:=by simp only[ib,Xj]; exact X9 _ _
    omega
   ·simp
  ·intro m hm
   unfold tG at hm
   split at hm
   ·simp only[ib,Xw,XY,Xr] at hm
    obtain ⟨s,⟨k,l⟩,rfl⟩:=hm
    have a:=d.neg c k l
    have b:=((f.ax r c).2.2.2 s k).1
    exact ⟨⟨by omega,by omega⟩,by omega,a⟩
   ·simp at hm
  ·simp only[View.set,if_true]
   congr 1
   rw[← lH]
   unfold cn at i ⊢
   rw[yO,i]
   rfl
  ·rw[u q (by simp[View.set,Ne.symm e]) (Ne.symm e)]
   simp[View.set,Ne.symm e]
   rfl
  ·intro v w; simp at w; subst w; exact j7 _
  ·rintro r H' ⟨rfl,o,_⟩
   simp (disch:=omega)only[↓wr,seval,wq]
   intro B x
   rw[NX hr] at o
   exact y9 (by rw[x]; exact o) (by rw[qX hr])
 ·rename_i hr
  intro B x
  simp only[bN,hr]
  exact .emp _
def cb (p q:List Bool) (r:aW):Bool:=q.getD r.left.toNat false && cE r.right p true
def c8 (p q:List Bool):List aW→Int→List Int
 | [],_=>[]
 | r :: l,i=>if cb p q r=true then i :: c8 p q l (i+1) else c8 p q l (i+1)
def gq (acc:List Int) (r:aW):List Int:=if r.left∈acc then acc else acc ++ [r.left]
def ct (p q:List Bool) (l:List aW):List Int:=(l.filter (cb p q)).foldl gq []
def bL (o:List Int) (x:Int):Int:=cG (fun y=>y == x) o 0
def bP (f:Int→Int) (r:aW):aW:=⟨f r.left,r.right.map fun s=>if s < 0 then -1 - f (-1 - s) else s,r.prec⟩
def qB (g:ag) (f:Int→Int) (p q:List Bool):ag :=
 ⟨g.af,(ct p q g.rules).map fun x=>g.ak.getD x.toNat ⟨#[]⟩,(g.rules.filter (cb p q)).map (bP f),f g.start⟩
def wu:ag:=⟨[],[],[],0⟩
instance:DecidableEq Term:=fun a b=>decidable_of_iff (a.name=b.name∧a.level=b.level∧a.assoc=b.assoc) (by cases a; cases b; simp)
instance:DecidableEq aW:=fun a b=>decidable_of_iff (a.left=b.left∧a.prec=b.prec∧a.right=b.right) (by cases a; cases b; simp[and_comm])
instance:DecidableEq ag:=fun a b=>decidable_of_iff (a.af=b.af∧a.ak=b.ak∧a.rules=b.rules∧a.start=b.start) (by cases a; cases b; simp)
def fX (g:ag):ag × List Int × Int :=
 if bG g=true then
  if (au g true).getD g.start.toNat false=true then (qB g (bL (ct (au g true) (bN g) g.rules)) (au g true) (bN g),c8 (au g true) (bN g) g.rules 0,0)
  else (wu,[],9)
 else (wu,[],1)
theorem lj {g:ag} (hr:bG g=true):fX g=if (au g true).getD g.start.toNat false=true then (qB g (bL (ct (au g true) (bN g) g.rules)) (au g true) (bN g),c8 (au g true) (bN g) g.rules 0,0) else (wu,[],9):=by
 rw[fX,Xg hr]
theorem lS (p q:List Bool):∀ (a b:List aW) (i:Int),c8 p q (a ++ b) i=c8 p q a i ++ c8 p q b (i+a.length)
 | [],b,i=>by simp[c8]
 | r :: a,b,i=>by
  simp only[XQ,c8,lS p q a b (i+1),Xt]
  have:i+1+(a.length:Int)=i+((a.length+1:Nat):Int):=by push_cast; omega
  rw[this]
  split <;> simp
theorem lM (p q:List Bool):∀ (a:List aW) (i:Int),(c8 p q a i).length=(a.filter (cb p q)).length
 | [],i=>rfl
 | r :: a,i=>by
  simp only[c8,Y7]
  split <;> simp[lM p q a]
theorem uj (p q:List Bool):∀ (a:List aW) (i:Int) (k:Nat),k < (c8 p q a i).length→∃ m:Nat,(c8 p q a i)[k]?=some (i+m)∧a[m]?=(a.filter (cb p q))[k]?∧m < a.length
 | [],i,k,h=>by simp[c8] at h
 | r :: a,i,k,h=>by
  simp only[c8,Y7] at h ⊢
  by_cases hr:cb p q r=true
  ·rw[Xg hr] at h ⊢
   rw[Xg hr]
   cases k with
   | zero=>exact ⟨0,by simp,by simp,by simp⟩
   | succ k =>
    obtain ⟨m,h1,b,c⟩:=uj p q a (i+1) k (by simpa using h)
    exact ⟨m+1,by rw[XX,h1]; congr 1; push_cast; omega,by simpa using b,by simpa using c⟩
  ·rw[Xd hr] at h ⊢
   rw[Xd hr]
   obtain ⟨m,h1,b,c⟩:=uj p q a (i+1) k h
   exact ⟨m+1,by rw[h1]; congr 1; push_cast; omega,by simpa using b,by simpa using c⟩
theorem uF (p q:List Bool) (l:List aW) (r:aW):ct p q (l ++ [r])=if cb p q r=true then gq (ct p q l) r else ct p q l:=by
 unfold ct
 rw[YG]
 by_cases h:cb p q r=true
 ·rw[Xg h,List.filter_cons_of_pos h,XZ]; rfl
 ·rw[Xd h,List.filter_cons_of_neg h]; simp
theorem DG {acc:List Int} {r:aW} (h:acc.Nodup):(gq acc r).Nodup:=by
 unfold gq
 split
 ·exact h
 ·rename_i d
  rw[Yc]
  exact ⟨h,by simp,fun a f b c e=>d (by simp at c; rw[← c,← e]; exact f)⟩
theorem sV {o:List Int} {x:Int} : bL o x < 0↔x ∉ o:=by
 have:=sT (fun y=>y == x) o 0 (by omega)
 unfold bL
 rw[← Int.not_le]
 constructor
 ·intro h a
  have e:(o.any fun y=>y == x)=true:=List.any_eq_true.2 ⟨x,a,by simp⟩
  rw[e] at this; exact h (by simpa using this)
 ·intro h a
  have e:(o.any fun y=>y == x)=true:=by rw[← this]; simpa using a
  obtain ⟨y,b,e⟩:=List.any_eq_true.1 e
  simp at e; subst e; exact h b
theorem vr {α:Type} (p:α→Bool):∀ (a b:List α) (i:Int),0≤i→cG p (a ++ b) i=if 0≤cG p a i then cG p a i else cG p b (i+a.length)
 | [],b,i,_=>by simp[cG]
 | x :: a,b,i,h=>by
  by_cases hp:p x=true
  ·simp[cG,hp,h]
  ·simp only[XQ,cG,Xd hp]
   rw[vr p a b (i+1) (by omega)]
   have:i+1+(a.length:Int)=i+(((x :: a).length:Nat):Int):=by simp; omega
   rw[this]
theorem N1 {o:List Int} {x y:Int} (c:x ∉ o):bL (o ++ [x]) y=if y=x then (o.length:Int) else bL o y:=by
 unfold bL
 rw[vr _ _ _ _ (by omega)]
 by_cases e:y=x
 ·subst e
  rw[Xd (by have:=sV.2 c; unfold bL at this; omega),Xg rfl]
  simp[cG]
 ·rw[Xd e]
  split
  ·rfl
  ·rename_i h
   have:bL o y < 0:=by unfold bL; omega
   have b:cG (fun z=>z == y) [x] (0+(o.length:Int)) = -1:=by simp[cG,Ne.symm e]
   rw[b]
   have:∀ (l:List Int) (i:Int),¬ 0≤cG (fun z=>z == y) l i→0≤i→cG (fun z=>z == y) l i = -1:=by
    intro l
    induction l with
    | nil=>intro i _ _; rfl
    | cons z l d =>
     intro i h1 b
     simp only[cG] at h1 ⊢
     split
     ·rename_i a; rw[Xg a] at h1; omega
     ·rename_i a; rw[Xd a] at h1; exact d _ h1 (by omega)
   exact (this o 0 h (by omega)).symm
theorem nY {o:List Int} {x:Int} (h:x∈o):0≤bL o x∧bL o x < o.length:=by
 have a:¬ bL o x < 0:=fun e=>sV.1 e h
 refine ⟨by omega,?_⟩
 unfold bL
 have:∀ (l:List Int) (i:Int),cG (fun z=>z == x) l i < i+l.length∨cG (fun z=>z == x) l i = -1:=by
  intro l
  induction l with
  | nil=>intro i; right; rfl
  | cons z l b =>
   intro i
   simp only[cG]
   split
   ·left; simp; omega
   ·rcases b (i+1) with h | h
    ·left; simp at h ⊢; omega
    ·right; exact h
 rcases this o 0 with h1 | h1
 ·simpa using h1
 ·unfold bL at a; omega
theorem Uf (o:List Int) (x:Int) : -1≤bL o x∧bL o x≤o.length:=by
 by_cases h:x∈o
 ·have:=nY h; omega
 ·have h1:=sV.2 h
  have a:∀ (l:List Int) (i:Int),0≤i→-1≤cG (fun z=>z == x) l i:=by
   intro l
   induction l with
   | nil=>intro i _; simp[cG]
   | cons z l b =>
    intro i hi
    simp only[cG]
    split
    ·omega
    ·exact b _ (by omega)
  have:=a o 0 (by omega)
  unfold bL at h1 ⊢
  omega
def kp:List Int→Int→List (Int × Int)
 | [],_=>[]
 | x :: l,i=>(x,i) :: kp l (i+1)
theorem uL (x:Int):∀ (o:List Int) (i:Int),eA (kp o i) x=if x∈o then some (cG (fun y=>y == x) o i) else none
 | [],i=>by simp[kp,eA]
 | y :: o,i=>by
  have a:=uL x o (i+1)
  unfold eA at a ⊢
  simp only[kp,YX,cG]
  by_cases e:x=y
  ·subst e; simp
  ·have b:¬ ((y == x)=true):=by simp[Ne.symm e]
   rw[show (x == y)=false by simp[e],Xd b]
   simp only
   rw[a]
   simp[e]
theorem Gi {x v:Int} : ∀ {o:List Int} {i:Int},x ∉ o→kL x v (kp o i)=kp o i ++ [(x,v)]
 | [],i,_=>rfl
 | y :: o,i,h=>by
  simp only[Xs,not_or] at h
  simp only[kp,kL,show (x == y)=false by simp[h.1],Xz,if_false,Gi h.2,XQ]
theorem CU {x:Int} : ∀ {o:List Int} {i:Int},kp (o ++ [x]) i=kp o i ++ [(x,i+o.length)]
 | [],i=>by simp[kp]
 | y :: o,i=>by
  simp only[XQ,kp,CU (o:=o),Xt]
  congr 4
  push_cast; omega
def eo (o:List Int) (x:Int):Int:=(eA (kp o 0) x).getD 0
theorem AM {o:List Int} {x:Int} (h:x∈o):eo o x=bL o x:=by
 simp[eo,uL,h,bL]
theorem Uk (o:List Int) (x:Int):0≤eo o x∧eo o x≤o.length:=by
 by_cases h:x∈o
 ·rw[AM h]; have:=nY h; omega
 ·simp[eo,uL,h]
theorem N6 {g:ag} {p q:List Bool} (a:g.start∈ct p q g.rules) (b:∀ r∈g.rules.filter (cb p q),r.left∈ct p q g.rules∧∀ s∈r.right,s < 0→-1 - s∈ct p q g.rules) :
  qB g (eo (ct p q g.rules)) p q=qB g (bL (ct p q g.rules)) p q:=by
 unfold qB
 congr 1
 ·apply Zd
  intro r hr
  obtain ⟨h1,c⟩:=b r hr
  unfold bP
  congr 1
  ·exact AM h1
  ·apply Zd
   intro s hs
   split
   ·rename_i h; rw[AM (c s hs h)]
   ·rfl
 ·exact AM a
theorem wJ:∀ (l:List aW) (acc:List Int) (x:Int),x∈l.foldl gq acc↔x∈acc∨∃ r∈l,r.left=x
 | [],acc,x=>by simp
 | r :: l,acc,x=>by
  rw[XC,wJ l]
  have:x∈gq acc r↔x∈acc∨r.left=x:=by
   unfold gq
   split
   ·rename_i h
    constructor
    ·exact .inl
    ·rintro (a | rfl)
     ·exact a
     ·exact h
   ·simp[eq_comm]
  rw[this]
  simp only[Xs,exists_eq_or_imp]
  constructor
  ·rintro ((h | h) | h)
   ·exact .inl h
   ·exact .inr (.inl h)
   ·exact .inr (.inr h)
  ·rintro (h | h | h)
   ·exact .inl (.inl h)
   ·exact .inl (.inr h)
   ·exact .inr h
theorem s6 {p q:List Bool} {l:List aW} {x:Int} : x∈ct p q l↔∃ r∈l,cb p q r=true∧r.left=x:=by
 unfold ct
 rw[wJ]
 simp[XY,and_assoc]
def mO:SC :=
 ae [ae [ab [aa 42 9,aa 43 8,aN 44 43,aV 45 .lss 42 44],bY 45 (.exit 0)],.block 1 (ab [aa 48 8,aa 49 9,aQ 50 1 48 49,(none,.op (.store 1 (.tmp 50) (.val (.val (.int .i64 (-1))))))]),ab [aa 46 9,aH 47 .add 46 1,aa 9 47]]
def mJ:SC :=
 ae [ae [ab [aa 51 11,ao 52 2 1,aj 53 52,aN 54 53,aV 55 .lss 51 54],bY 55 (.exit 2)],.block 3 (ae [ab [ao 58 2 1,aj 59 58,aa 60 11,aQ 61 3 59 60,bg 62 3 61,((some 12),.op (.alloc [(.val (.int .i64 0)),(.emp 1),(.val (.int .i64 0))])),bU 3 12 62],ae [.region false [⟨none,[aa 63 6,ao 64 0 12,aj 65 64,aQ 66 1 63 65,aj 67 66,de 68 67,aa 69 68]⟩,⟨(some (69,false)),[ao 70 1 12,aj 71 70,aa 72 5,r7 73 117 [(.tmp 71),(.tmp 72),(.val (.val (.bool true)))],de 74 73]⟩,⟨none,[cz 75 69 74]⟩],bf 75 (.exit 3)],ab [aa 76 10,aa 77 11,((some 78),.op (.bV 1 1 [(.val (.int .i64 0))] [(0,(.tmp 77))])),gY 79 1 8 76 78,aa 10 79],ab [aa 80 8,ao 81 0 12,aj 82 81,aQ 83 1 80 82,aj 84 83,aH 85 .lss 84 0],bf 85 (ae [ab [aa 86 8,ao 87 0 12,aj 88 87,ao 89 1 7,aj 90 89,aN 91 90,aQ 92 1 86 88,bU 1 92 91],.region false [⟨none,[ao 93 1 7,aj 94 93,ao 95 1 1,aj 96 95,ao 97 0 12,aj 98 97,aQ 99 1 96 98,aj 100 99,((some 101),.op (.bV 1 1 [(.val (.string ⟨#[]⟩))] [(0,(.tmp 100))])),gY 102 1 16 94 101,ao 103 1 7,bU 1 103 102]⟩]])]),ab [aa 56 11,aH 57 .add 56 1,aa 11 57]]
def mS:SC :=
 ae [ae [ab [aa 126 16,ao 127 1 14,aj 128 127,aN 129 128,aV 130 .lss 126 129],bY 130 (.exit 6)],.block 7 (ae [ab [ao 133 1 14,aj 134 133,aa 135 16,aQ 136 1 134 135,aj 137 136,aa 17 137],ae [ab [aa 138 17,aH 139 .lss 138 0],bf 139 (ab [aa 140 8,aa 141 17,((some 142),.op (.arith .sub (.val (.val (.int .i64 (-1)))) (.tmp 141))),aQ 143 1 140 142,aj 144 143,((some 145),.op (.arith .sub (.val (.val (.int .i64 (-1)))) (.tmp 144))),aa 17 145])],ab [ao 146 1 15,aj 147 146,aa 148 17,((some 149),.op (.bV 1 1 [(.val (.int .i64 0))] [(0,(.tmp 148))])),gY 150 1 8 147 149,ao 151 1 15,bU 1 151 150]]),ab [aa 131 16,aH 132 .add 131 1,aa 16 132]]
def mL:SC :=
 ae [ae [ab [aa 104 13,aa 105 10,aN 106 105,aV 107 .lss 104 106],bY 107 (.exit 4)],.block 5 (ae [ab [ao 110 2 1,aj 111 110,aa 112 10,aa 113 13,aQ 114 1 112 113,aj 115 114,aQ 116 3 111 115,bg 117 3 116,((some 14),.op (.alloc [(.val (.int .i64 0)),(.emp 1),(.val (.int .i64 0))])),bU 3 14 117],ab [aa 118 8,ao 119 0 14,aj 120 119,aQ 121 1 118 120,aj 122 121,ao 123 2 14,aj 124 123,((some 125),.op (.build [(.val (.int .i64 0)),(.emp 1),(.val (.int .i64 0))] [(0,1,(.tmp 122)),(2,1,(.tmp 124))])),((some 15),.op (.alloc [(.val (.int .i64 0)),(.emp 1),(.val (.int .i64 0))])),bU 3 15 125],ae [ab [aS 16 0],b6 6 mS],ab [ao 152 2 7,aj 153 152,bg 154 3 15,((some 155),.op (.bV 1 3 [(.val (.int .i64 0)),(.emp 1),(.val (.int .i64 0))] [(0,(.tmp 154))])),gY 156 3 40 153 155,ao 157 2 7,bU 1 157 156]]),ab [aa 108 13,aH 109 .add 108 1,aa 13 109]]
def px:SF:=⟨ae [ab [cI 1 0,((some 2),.op (.alloc [(.emp 1),(.emp 1),(.emp 1),(.val (.int .i64 0))])),df 3 1,aS 4 0],ae [ab [bg 18 4 1,bz 19 54 [18],de 20 19],bf 20 (ae [ab [((some 21),.op (.build [(.emp 1),(.emp 1),(.emp 1),(.val (.int .i64 0))] [])),bU 4 2 21,df 3 1,aS 4 1],.ret])],.region true [⟨none,[bg 22 4 1,bz 23 115 [22],bg 24 4 1,bz 25 116 [24],aa 5 23,aa 6 25]⟩],ae [ab [aa 26 5,ao 27 3 1,aj 28 27,aQ 29 1 26 28,aj 30 29,de 31 30],bf 31 (ae [ab [((some 32),.op (.build [(.emp 1),(.emp 1),(.emp 1),(.val (.int .i64 0))] [])),bU 4 2 32,df 3 1,aS 4 9],.ret])],ab [df 33 2,ao 34 0 1,aj 35 34,gY 36 3 32 33 35,((some 37),.op (.build [(.emp 1),(.emp 1),(.emp 1),(.val (.int .i64 0))] [(0,1,(.tmp 36))])),((some 7),.op (.alloc [(.emp 1),(.emp 1),(.emp 1),(.val (.int .i64 0))])),bU 4 7 37],ab [ao 38 1 1,aj 39 38,aN 40 39,((some 41),.op (.make 1 8 [(.val (.int .i64 0))] (.tmp 40) (.tmp 40))),aa 8 41],ae [ab [aS 9 0],b6 0 mO],ab [df 10 1],ae [ab [aS 11 0],b6 2 mJ],ae [ab [aS 13 0],b6 4 mL],ab [aa 158 8,ao 159 3 1,aj 160 159,aQ 161 1 158 160,aj 162 161,ao 163 3 7,bU 1 163 162],ab [bg 164 4 7,aa 165 10,bU 4 2 164,aa 3 165,aS 4 0],.ret],
 [.cell 2 (some 4),.tmp 3,.tmp 4],166⟩
theorem tQ:aR Tryz.prog 70 [1]=some px:=by kernel_rfl
abbrev bE (l:List Int):List (List V):=l.map fun x=>[gi x]
abbrev kT (l:List ByteArray):List (List V):=l.map fun s=>[gs s]
theorem lR {l:List Int} {i:Nat} (h:i < l.length):(bE l).getD i []=[gi l[i]]:=by simp[Xb,h]
theorem ints_set (l:List Int) (i:Nat) (x:Int):(bE l).set i [gi x]=bE (l.set i x):=by simp[YL]
theorem TF {l:List Int} (h:0 < l.length):bE l≠[]:=by intro e; rw[List.map_eq_nil_iff] at e; rw[e] at h; simp at h
theorem yj {α:Type} {x:α} : ∀ {l:List α} {i:Nat},i < l.length→(l.set i x).take (i+1)=l.take i ++ [x]
 | y :: l,0,_=>by simp
 | y :: l,i+1,h=>by
  have:=yj (x:=x) (l:=l) (i:=i) (by simpa using h)
  simp only[List.set_cons_succ,YZ,this,XQ]
def fK (n:Nat) (o:List Int):List Int:=(List.range n).map fun (x:Nat)=>bL o (x:Int)
theorem TA (n:Nat):fK n []=List.replicate n (-1):=by
 apply List.ext_getElem
 ·simp[fK]
 ·intro i h1 a
  simp[fK,bL,cG]
theorem AB {n:Nat} {o:List Int} {x:Int} (a:0≤x) (h1:x < n):(fK n o)[x.toNat]'(by simp[fK]; omega)=bL o x:=by
 simp[fK,show ((x.toNat:Nat):Int)=x by omega]
theorem Un {n:Nat} {o:List Int} {x:Int} (b:0≤x) (h1:x < n) (a:x ∉ o):(fK n o).set x.toNat o.length=fK n (o ++ [x]):=by
 apply List.ext_getElem
 ·simp[fK]
 ·intro i c d
  rw[List.getElem_set]
  simp only[fK,List.getElem_map,List.getElem_range]
  rw[N1 a]
  by_cases e:x.toNat=i
  ·rw[Xg e,Xg (by omega)]
  ·rw[Xd e,Xd (by omega)]
abbrev Au:=List (V × aW)
def iy (b:Au):List (List V):=b.map fun x=>[gi x.2.left,x.1,gi x.2.prec]
def mH (b:Au):List cw:=b.map fun x=>(x.1,1,bE x.2.right)
theorem Pv {h:aC} {u:V} {b:Au} (c:aX h.view u 3 (iy b)) (f:∀ x∈mH b,aX h.view x.1 x.2.1 x.2.2):dB h u (.aE ((b.map (·.2)).map aP)):=by
 refine dB.own c (by simp[iy]) (fun i hi=>?_) (fun i j hi a=>?_)
 all_goals
  simp only[iy,Xj] at hi
  have e:(iy b).getD i []=[gi b[i].2.left,b[i].1,gi b[i].2.prec]:=by simp[iy,Xb,hi]
  have d:((b.map (·.2)).map aP).getD i []=aP b[i].2:=by simp[Xb,hi]
 ·rw[e,d]; rfl
 ·rw[e,d]
  rw[d] at a
  have hm:b[i]∈b:=Xm _
  have c:=f (b[i].1,1,bE b[i].2.right) (Xw.2 ⟨_,hm,rfl⟩)
  match j,a with
  | 0,_=>exact .val _
  | 1,_=>exact lQ c
  | 2,_=>exact .val _
  | n+3,a=>exact absurd a (by simp only[aP,Xt,XN]; omega)
theorem Rb {h:aC} {u:V} {l:List ByteArray} (a:aX h.view u 1 (kT l)):dB h u (encS l):=dB.Rl (f:=Value.string) a
theorem Ot {h:aC} {u:V} {l:List Term} (b:aX h.view u 3 (l.map bW)):dB h u (eK l):=by
 refine dB.own b rfl (fun _ _=>rfl) (fun i j hi a=>?_)
 simp only[Xj] at hi
 have c:(l.map bW).getD i []=bW l[i]:=by simp[Xb,hi]
 rw[c] at a ⊢
 match j,a with
 | 0,_=>exact .val _
 | 1,_=>exact .val _
 | 2,_=>exact .val _
 | n+3,a=>exact absurd a (by simp only[bW,Xt,XN]; omega)
def xb (x:ag × List Int × Int):V:=.bp [.agg (ai x.1),encI x.2.1,gi x.2.2]
theorem xq {h:aC} {e:Int} {b k2 c d:Nat} : dB h (.bp [.agg [.emp b,.emp k2,.emp c,gi 0],.emp d,gi e]) (xb (wu,[],e)):=by
 refine .bp _ _ rfl fun i hi=>?_
 match i,hi with
 | 0,_ =>
  refine .agg _ _ rfl fun j a=>?_
  match j,a with
  | 0,_=>exact .emp _
  | 1,_=>exact .emp _
  | 2,_=>exact .emp _
  | 3,_=>exact .val _
  | n+4,a=>exact absurd a (by simp only[Xt,XN]; omega)
 | 1,_=>exact .emp _
 | 2,_=>exact .val _
 | n+3,hi=>exact absurd hi (by simp only[Xt,XN]; omega)
def UK (g:ag) (p q:List Bool) (b2 b7 b8:Nat) (u0:V) (i:Nat) (T:Env) (H:View):Prop :=
 (∃ u1 u3:V,T 10=u3∧(∀ x∈ct p q (g.rules.take i),0≤x∧x < g.ak.length)∧(ct p q (g.rules.take i)).Nodup∧(ct p q (g.rules.take i)).length≤i ∧
  ba H [(.sl b7 0 1 4,4,[[u0,u1,.emp 1,gi 0]]),(.sl b8 0 g.ak.length 1,1,bE (fK g.ak.length (ct p q (g.rules.take i)))),(u3,1,bE (c8 p q (g.rules.take i) 0)),
   (u1,1,kT ((ct p q (g.rules.take i)).map fun x=>g.ak.getD x.toNat ⟨#[]⟩)),(u0,3,g.af.map bW),(.sl b2 0 1 4,4,[[.emp 1,.emp 1,.emp 1,gi 0]])]) ∧
 T 1=.aJ (ai g) 0∧T 2=.ptr b2 0 0∧T 5=bO p∧T 6=bO q∧T 7=.ptr b7 0 0∧T 8=.sl b8 0 g.ak.length 1∧T 11=gi i
def We (g:ag) (p q:List Bool) (b2 b7 b8:Nat) (u0 u1 u3:V) (o kl:List Int) (i:Nat) (T:Env) (H:View):Prop :=
 (∃ (u2:V) (bs:Au),bs.map (·.2)=((g.rules.filter (cb p q)).take i).map (bP (bL o)) ∧
  ba H ((.sl b7 0 1 4,4,[[u0,u1,u2,gi 0]]) :: (.sl b8 0 g.ak.length 1,1,bE (fK g.ak.length o)) :: (u3,1,bE kl) ::
   (u1,1,kT (o.map fun x=>g.ak.getD x.toNat ⟨#[]⟩)) :: (u0,3,g.af.map bW) :: (u2,3,iy bs) :: (.sl b2 0 1 4,4,[[.emp 1,.emp 1,.emp 1,gi 0]]) :: mH bs)) ∧
 T 1=.aJ (ai g) 0∧T 2=.ptr b2 0 0∧T 7=.ptr b7 0 0∧T 8=.sl b8 0 g.ak.length 1∧T 10=u3∧T 13=gi i
def Wa (g:ag) (b2 b7 b8 b14 b15:Nat) (u3:V) (o:List Int) (r:aW) (L:List cw) (i k:Nat) (T:Env) (H:View):Prop :=
 (∃ v:V,ba H ((.sl b15 0 1 3,3,[[gi (bL o r.left),v,gi r.prec]]) :: (v,1,bE ((bP (bL o) r).right.take k)) :: (.sl b14 0 1 3,3,[aP r]) :: L)) ∧
 T 1=.aJ (ai g) 0∧T 2=.ptr b2 0 0∧T 7=.ptr b7 0 0∧T 8=.sl b8 0 g.ak.length 1∧T 10=u3∧T 13=gi i∧T 14=.ptr b14 0 0∧T 15=.ptr b15 0 0∧T 16=gi k
theorem LD {h:aC} {c d e f:V} {x:ag × List Int × Int} {b:Au} (g:aX h.view c 3 (x.1.af.map bW)) (h1:aX h.view d 1 (kT x.1.ak)) (k:aX h.view e 3 (iy b)) (l:∀ y∈mH b,aX h.view y.1 y.2.1 y.2.2)
  (hr:b.map (·.2)=x.1.rules) (m:aX h.view f 1 (bE x.2.1)):dB h (.bp [.agg [c,d,e,gi x.1.start],f,gi x.2.2]) (xb x):=by
 refine .bp _ _ rfl fun i hi=>?_
 match i,hi with
 | 0,_ =>
  refine .agg _ _ rfl fun j a=>?_
  match j,a with
  | 0,_=>exact Ot g
  | 1,_=>exact Rb h1
  | 2,_=>have:=Pv k l; rw[hr] at this; exact this
  | 3,_=>exact .val _
  | n+4,a=>exact absurd a (by simp only[Xt,XN]; omega)
 | 1,_=>exact lQ m
 | 2,_=>exact .val _
 | n+3,hi=>exact absurd hi (by simp only[Xt,XN]; omega)
theorem JU (g:ag) (hg:g.Ok):dc Tryz.prog 70 [.agg (ai g)] (xb (fX g)):=by
 refine dc.of (fu g) ?_
 refine aw.of mixed tQ ?_
 simp (disch:=omega)only[↓wr,seval,wq,px,ai,encS]
 intro M
 try simp (disch:=omega)only[↓wr,seval,wq,ai,encS]
 refine ay.pure (sJ g hg) ?_
 repeat' (first | (refine ah.dec (fun _=>?_) (fun _=>?_)) | (refine ah.eq (fun _=>?_) (fun _=>?_)) | (refine ah.ne (fun _=>?_) (fun _=>?_)) | (refine ah.split (fun _=>?_) (fun _=>?_)) | (simp (disch:=omega)only[↓wr,seval,wq,ai,encS,set_set]))
 ·rename_i hr
  refine ay.pure (tU g hg) ?_
  simp (disch:=omega)only[↓wr,seval,wq,ai,encS]
  refine ay.pure (EM g hg).pure ?_
  have hf:=bJ hr
  have h3:=hf.kA
  have h4:=hf.start
  have cS:=gT hr true
  have e7:=qX hr
  have c:=lj hr
  generalize au g true=p at cS c
  generalize bN g=q at e7 c
  have b4:p[g.start.toNat]?=some (p[g.start.toNat]'(by omega)):=Xc (by omega)
  have cV:p.getD g.start.toNat false=p[g.start.toNat]'(by omega):=by simp[Xb,b4]
  generalize p[g.start.toNat]'(by omega)=s at b4 cV
  rw[cV] at c
  simp (disch:=omega)only[↓wr,seval,wq,ai,encS,bO,Xf,b4]
  cases s with
  | false =>
   rw[Xd (by simp)] at c
   simp (disch:=omega)only[↓wr,seval,wq,ai,encS,set_set]
   rintro h' hh
   rw[c]
   exact xq
  | true =>
   rw[Xg rfl] at c
   simp (disch:=omega)only[↓wr,seval,wq,ai,encS,set_set]
   have hN:=hf.ak
   have hC:=hf.qU
   have hT:=hf.af
   have hR:=hf.rules
   refine cB (L:=[(.sl M 0 1 4,4,[[.emp 1,.emp 1,.emp 1,gi 0]])]) (ba.emp (ba.nil.new rfl 4 _)) (by simp[bW,aO]) (by unfold aB; simp; omega) (by unfold aB; simp; omega) ?_
   intro C H1 b5 _
   have c0:=b5.head.cells
   have k0:=b5.head.iO
   simp (disch:=omega)only[↓wr,seval,wq,ai,encS,c0,k0]
   intro P e8
   have fb:=b5.new e8 4 [[C,.emp 1,.emp 1,gi 0]]
   try simp (disch:=omega)only[↓wr,seval,wq,ai,encS,c0,k0,set_set]
   refine ⟨⟨by omega,by unfold aB; omega,by unfold aB; omega⟩,fun h=>by omega,?_⟩
   intro _ B c3
   have c5:=(cO c3 cJ).1
   have j:=fb.new (n:=B) (by simp only[View.set,Xd c5]; exact (cO (cO c3 cJ).2 cJ).2) 1 (bE (List.replicate g.ak.length 0))
   try simp (disch:=omega)only[↓wr,seval,wq,ai,encS,c0,k0,set_set]
   refine aU.up g.ak.length (fun i T H=>(∃ l:List Int,l.length=g.ak.length∧l.take i=List.replicate i (-1) ∧
    ba H [(.sl B 0 g.ak.length 1,1,bE l),(.sl P 0 1 4,4,[[C,.emp 1,.emp 1,gi 0]]),(C,3,g.af.map bW),(.sl M 0 1 4,4,[[.emp 1,.emp 1,.emp 1,gi 0]])]) ∧
    T 1=.aJ (ai g) 0∧T 2=.ptr M 0 0∧T 5=bO p∧T 6=bO q∧T 7=.ptr P 0 0∧T 8=.sl B 0 g.ak.length 1∧T 9=gi i) ?_ ?_
   ·exact ⟨⟨List.replicate g.ak.length 0,by simp,by simp,by simpa [set_set] using j⟩,rfl,rfl,rfl,rfl,rfl,rfl,rfl⟩
   rintro i k T H2 hk ⟨⟨l,G,t,f⟩,t1,t2,t5,t6,t7,t8,t9⟩
   simp (disch:=omega)only[↓wr,seval,wq,mO,t1,t2,t5,t6,t7,t8,t9]
   apply ah.dec<;>intro hc
   ·have ff:bE l≠[]:=by intro e; rw[List.map_eq_nil_iff] at e; rw[e] at G; simp at G; omega
    have hb:=(f.obj ff).1
    have u:=lR (show i < l.length by omega)
    simp (disch:=omega)only[↓wr,seval,wq,t1,t2,t5,t6,t7,t8,t9,hb,u,Xj]
    refine ⟨by omega,by omega,?_⟩
    refine aF hk (by omega) ⟨⟨l.set i (-1),by simp[G],?_,?_⟩,t1,t2,t5,t6,t7,t8,rfl⟩
    ·rw[yj (by omega),t,List.replicate_succ']
    ·rw[ints_set]
     exact f.put (by simp) (by simp[G])
   ·rw[Xv (by omega)] at t
    rw[t] at f
    have ei:i=g.ak.length:=by omega
    subst ei
    simp (disch:=omega)only[↓wr,seval,wq,t1,t2,t5,t6,t7,t8,t9]
    have name_in:∀ o:List Int,(o.map fun x=>g.ak.getD x.toNat ⟨#[]⟩).length=o.length:=fun o=>by simp
    refine aU.up g.rules.length (UK g p q M P B C) ?_ ?_
    ·refine ⟨⟨.emp 1,.emp 1,rfl,by simp[ct],by simp[ct],by simp[ct],?_⟩,t1,t2,t5,t6,t7,t8,rfl⟩
     have h4:=((((f.emp (k:=1) (sz:=1)).emp (k:=1) (sz:=1)).at 3 (by simp)).perm (EU.symm.cons _))
     have e0:ct p q (g.rules.take 0)=[]:=rfl
     rw[e0,TA]
     exact h4
    clear f t1 t2 t5 t6 t7 t8 t9 G t
    rintro i k T H2 hk ⟨⟨J,u3,t10,ar,bb,b9,f⟩,t1,t2,t5,t6,t7,t8,t11⟩
    simp (disch:=omega)only[↓wr,seval,wq,mJ,t1,t2,t5,t6,t7,t8,t10,t11,ai]
    apply ah.dec<;>intro hc
    ·have I:g.rules[i]?=some (g.rules[i]'(by omega)):=Xc (by omega)
     have z:g.rules[i]'(by omega)∈g.rules:=Xm _
     have D:g.rules.take (i+1)=g.rules.take i ++ [g.rules[i]'(by omega)]:=by rw[XH,I]; rfl
     generalize g.rules[i]'(by omega)=r at I z D
     obtain ⟨G,t,Q,fl,bd⟩:=hf.tN hg z
     have ca:q[r.left.toNat]?=some (q[r.left.toNat]'(by omega)):=Xc (by omega)
     have kY:q.getD r.left.toNat false=q[r.left.toNat]'(by omega):=by simp[Xb,ca]
     generalize q[r.left.toNat]'(by omega)=qs at ca kY
     simp (disch:=omega)only[↓wr,seval,wq,t1,t2,t5,t6,t7,t8,t10,t11,ai,aP,Xf,I]
     intro c9 da
     have A:=f.new da 3 [aP r]
     try simp (disch:=omega)only[↓wr,seval,wq,t1,t2,t5,t6,t7,t8,t10,t11,aP,encI,bO,Xf,ca,set_set]
     have R:∀ (T2:Env) (H':View),cb p q r=false→H'=H2.set c9 (.arr 3 [aP r])→T2 10=u3→T2 1=.aJ (ai g) 0→T2 2=.ptr M 0 0→T2 5=bO p→T2 6=bO q→T2 7=.ptr P 0 0→T2 8=.sl B 0 g.ak.length 1→T2 11=gi ((i:Int)+1) →
       ∃ k',k' < k∧Ft g.rules.length k' (UK g p q M P B C) T2 H':=by
      intro T2 H' S fm fs a1 a2 a5 a6 a7 a8 ft
      have N:ct p q (g.rules.take (i+1))=ct p q (g.rules.take i):=by rw[D,uF,Xd (by simp[S])]
      have e2:c8 p q (g.rules.take (i+1)) 0=c8 p q (g.rules.take i) 0:=by rw[D,lS]; simp[c8,S]
      refine aF hk (by omega) ⟨⟨J,u3,fs,by rw[N]; exact ar,by rw[N]; exact bb,by rw[N]; omega,by rw[N,e2,fm]; exact A.tail⟩,a1,a2,a5,a6,a7,a8,by rw[ft]; rfl⟩
     cases qs with
     | false =>
      simp (disch:=omega)only[↓wr,seval,wq,t1,t2,t5,t6,t7,t8,t10,t11]
      refine R _ _ (by rw[cb,kY]; rfl) ?_ ?_ ?_ ?_ ?_ ?_ ?_ ?_ ?_
      all_goals first | exact t10 | exact t1 | exact t2 | exact t5 | exact t6 | exact t7 | exact t8 | rfl | (rw[set_set]; rfl)
     | true =>
      simp (disch:=omega)only[↓wr,seval,wq,t1,t2,t5,t6,t7,t8,t10,t11,aP,encI,bO]
      refine ay.pure (He r.right p true (hg.ax r z).2.2.1 (fun s hs=>⟨(bd s hs).1,fun h=>by rw[cS]; exact (bd s hs).2 h⟩)) ?_
      simp (disch:=omega)only[↓wr,seval,wq,t1,t2,t5,t6,t7,t8,t10,t11]
      apply ah.split<;>intro cc
      ·simp (disch:=omega)only[↓wr,seval,wq,t1,t2,t5,t6,t7,t8,t10,t11]
       have S:cb p q r=true:=by rw[cb,kY,cc]; rfl
       intro m hm
       try simp (disch:=omega)only[↓wr,seval,wq,t1,t2,t5,t6,t7,t8,t10,t11,bT]
       have db:=(cO hm cJ).1
       have hm:=(cO (cO hm cJ).2 cJ).2
       have d:=(A.fresh (n:=m) (o:=.arr 1 [[gi i]]) (by simp only[View.set,Xd db]; exact hm)).at 3 (by simp)
       have dj:(c8 p q (g.rules.take i) 0).length≤40:=by
        rw[lM]
        have h1:=X9 (cb p q) (g.rules.take i)
        have h2:(g.rules.take i).length≤i:=List.length_take_le _ _
        have:=hf.rules
        omega
       refine cB (by rw[set_set]; exact d) (by simp[aO]) (by unfold aB; simp at dj ⊢; omega) (by unfold aB; simp at dj ⊢; omega) ?_
       intro dm H3 j _
       have f12:=((j.at 1 (by simp)).obj (by simp)).1
       have f7:=((j.at 2 (by simp)).obj (by simp)).1
       have f8:=((j.at 3 (by simp)).obj (TF (by simp[fK]; omega))).1
       have cf:cH J=some (kT ((ct p q (g.rules.take i)).map fun x=>g.ak.getD x.toNat ⟨#[]⟩)).length:=(j.at 4 (by simp)).head.len
       have u:=lR (l:=fK g.ak.length (ct p q (g.rules.take i))) (i:=r.left.toNat) (by simp[fK]; omega)
       rw[AB t Q] at u
       simp only[aP,encI] at f12
       simp (disch:=omega)only[↓wr,seval,wq,t1,t2,t5,t6,t7,t8,t11,f12,f7,f8,u]
       refine ⟨by omega,by simp[fK]; omega,?_⟩
       have e2:c8 p q (g.rules.take (i+1)) 0=c8 p q (g.rules.take i) 0 ++ [(i:Int)]:=by
        rw[D,lS]; simp[c8,S,show i≤g.rules.length by omega]
       have N:ct p q (g.rules.take (i+1))=gq (ct p q (g.rules.take i)) r:=by rw[D,uF,Xg S]
       generalize ct p q (g.rules.take i)=o at *
       generalize c8 p q (g.rules.take i) 0=kl at *
       apply ah.dec<;>intro ds
       ·have hx:r.left ∉ o:=sV.1 ds
        have E:gq o r=o ++ [r.left]:=by rw[gq,Xd hx]
        have U:P≠B:=j.FD 2 3 rfl rfl (by omega)
        have W:c9≠B:=j.FD 1 3 rfl rfl (by omega)
        have cg:g.ak[r.left.toNat]?=some (g.ak[r.left.toNat]'(by omega)):=Xc (by omega)
        have br:g.ak.getD r.left.toNat ⟨#[]⟩=g.ak[r.left.toNat]'(by omega):=by simp[Xb,cg]
        generalize g.ak[r.left.toNat]'(by omega)=nm at cg br
        simp (disch:=omega)only[↓wr,seval,wq,t1,t2,t5,t6,t7,t8,t11,f12,f7,f8,u,cf,Xj]
        try refine ⟨by omega,by simp[fK]; omega,?_⟩
        try simp (disch:=omega)only[↓wr,seval,wq,t1,t2,t5,t6,t7,t8,t11,f12,f7,f8,u,cf,Xj,U,W,ai,encS,Xf,cg]
        intro m2 O
        have dv:=(cO O cJ).1
        have O:=(cO O cJ).2
        have fx:(bE (fK g.ak.length o)).set r.left.toNat [gi o.length]=bE (fK g.ak.length (o ++ [r.left])):=by rw[ints_set,Un t Q hx]
        have ch:=(j.at 3 (by simp)).put (es':=(bE (fK g.ak.length o)).set r.left.toNat [gi o.length]) (by simp) (by simp[fK])
        have fz:=(ch.fresh (n:=m2) (o:=.arr 1 [[gs nm]]) (by simp only[View.set,Xd dv]; exact O)).at 4 (by simp)
        have hA:o.length≤40:=by omega
        try simp (disch:=omega)only[↓wr,seval,wq,t1,t2,t5,t6,t7,t8,t11,f12,f7,f8,u,cf,Xj,U,W,bT]
        refine cB fz (by simp[aO]) (by unfold aB; simp; omega) (by unfold aB; simp; omega) ?_
        intro ea H5 bl _
        have c1:=bl.head.cells
        have k1:=bl.head.iO
        have cj:=((bl.at 4 (by simp)).obj (by simp)).1
        simp (disch:=omega)only[↓wr,seval,wq,t1,t2,t5,t6,t7,t8,t11,cj,c1,k1]
        have fB:=(bl.at 4 (by simp)).put (es':=[[C,ea,.emp 1,gi 0]]) rfl rfl
        have fS:=(((fB.at 4 (by simp)).tail).perm (EU.cons _))
        refine aF hk (by omega) ⟨⟨ea,dm,rfl,?_,?_,?_,?_⟩,t1,t2,t5,t6,t7,t8,rfl⟩
        ·rw[N,E]; intro x gd; rcases XE.1 gd with h | h
         ·exact ar x h
         ·simp at h; subst h; exact ⟨t,Q⟩
        ·rw[N]; exact DG bb
        ·rw[N,E]; simp; omega
        ·rw[N,E,e2]
         have:=fS
         rw[fx] at this
         simp only[XD,XF,YK,br]
         exact this
       ·have hx:r.left∈o:=by
         refine YI fun h=>?_
         have:=sV.2 h
         omega
        have E:gq o r=o:=by rw[gq,Xg hx]
        simp (disch:=omega)only[↓wr,seval,wq,t1,t2,t5,t6,t7,t8,t11]
        have ch:=(((j.at 1 (by simp)).tail).perm EU)
        refine aF hk (by omega) ⟨⟨J,dm,rfl,?_,?_,?_,?_⟩,t1,t2,t5,t6,t7,t8,rfl⟩
        ·rw[N,E]; exact ar
        ·rw[N,E]; exact bb
        ·rw[N,E]; omega
        ·rw[N,E,e2]
         simp only[XD,XF,YK]
         exact ch
      ·simp (disch:=omega)only[↓wr,seval,wq,t1,t2,t5,t6,t7,t8,t10,t11]
       refine R _ _ (by rw[cb,kY,cc]; rfl) ?_ ?_ ?_ ?_ ?_ ?_ ?_ ?_ ?_
       all_goals first | exact t10 | exact t1 | exact t2 | exact t5 | exact t6 | exact t7 | exact t8 | rfl | (rw[set_set]; rfl)
    ·rw[Xv (by omega)] at f ar bb b9
     have gk:(c8 p q g.rules 0).length≤40:=by
      rw[lM]; have h1:=X9 (cb p q) g.rules; omega
     have gl:=uj p q g.rules 0
     have hB:=lM p q g.rules 0
     have ck:g.start.toNat < (fK g.ak.length (ct p q g.rules)).length:=by simp[fK]; omega
     have bx:=lR ck
     rw[AB h3 h4] at bx
     have eb:qB g (bL (ct p q g.rules)) p q=⟨g.af,(ct p q g.rules).map fun x=>g.ak.getD x.toNat ⟨#[]⟩,(g.rules.filter (cb p q)).map (bP (bL (ct p q g.rules))),bL (ct p q g.rules) g.start⟩:=rfl
     rw[eb] at c
     clear eb
     generalize ct p q g.rules=o at *
     generalize c8 p q g.rules 0=kl at *
     simp (disch:=omega)only[↓wr,seval,wq,t1,t2,t5,t6,t7,t8,t10,t11]
     refine aU.up kl.length (We g p q M P B C J u3 o kl) ?_ ?_
     ·refine ⟨⟨.emp 1,[],by simp,?_⟩,t1,t2,t7,t8,t10,rfl⟩
      exact (f.emp (k:=1) (sz:=3)).perm (sN [(.sl P 0 1 4,4,[[C,J,.emp 1,gi 0]]),(.sl B 0 g.ak.length 1,1,bE (fK g.ak.length o)),(u3,1,bE kl),(J,1,kT (o.map fun x=>g.ak.getD x.toNat ⟨#[]⟩)),(C,3,g.af.map bW),(.emp 1,3,[]),(.sl M 0 1 4,4,[[.emp 1,.emp 1,.emp 1,gi 0]])] 5 (by simp)).symm
     clear f t1 t2 t5 t6 t7 t8 t10 t11
     rintro i k T H2 hk ⟨⟨u2,bs,bn,f⟩,t1,t2,t7,t8,t10,t13⟩
     have gr:cH u3=some (bE kl).length:=(f.own 2 rfl).len
     simp (disch:=omega)only[↓wr,seval,wq,mL,t1,t2,t7,t8,t10,t13,gr,Xj]
     apply ah.dec<;>intro hc
     ·obtain ⟨n3,e3,ha⟩:=(f.own 2 rfl).sl (by simp; omega)
      rw[Xj] at e3
      subst e3
      obtain ⟨m,cA,O,X⟩:=gl i (by omega)
      have u:=lR (show i < kl.length by omega)
      rw[Int.zero_add] at cA
      have hj:kl[i]'(by omega)=(m:Int):=by
       rw[Xc (show i < kl.length by omega)] at cA; simpa using cA
      rw[hj] at u
      have I:g.rules[m]?=some (g.rules[m]'X):=Xc X
      have z:g.rules[m]'X∈g.rules:=Xm _
      have D:(g.rules.filter (cb p q)).take (i+1)=(g.rules.filter (cb p q)).take i ++ [g.rules[m]'X]:=by
       rw[XH,← O,I]; rfl
      generalize g.rules[m]'X=r at I z D
      obtain ⟨G,t,Q,fl,bd⟩:=hf.tN hg z
      simp (disch:=omega)only[↓wr,seval,wq,t1,t2,t7,t8,t10,t13,ha,u,Xj,ai,aP,Xf,I]
      refine ⟨by omega,by omega,?_⟩
      intro ec b0
      have A:=f.new b0 3 [aP r]
      have f8:=A.is 2 rfl (by simp[fK]; omega)
      have b1:=lR (l:=fK g.ak.length o) (i:=r.left.toNat) (by simp[fK]; omega)
      rw[AB t Q] at b1
      have cC:B≠ec:=A.FD 2 0 rfl rfl (by omega)
      have g8:H2 B=.arr 1 (bE (fK g.ak.length o)):=f.is 1 rfl (by simp[fK]; omega)
      try simp (disch:=omega)only[↓wr,seval,wq,t1,t2,t7,t8,t10,t13,g8,cC,b1,Xj,set_set,encI]
      refine ⟨by omega,by simp[fK]; omega,?_⟩
      intro ee F
      have eg:=(cO F cJ).1
      have F:=(cO (cO F cJ).2 cJ).2
      have d:=(((A.new (n:=ee) (by simp only[View.set,Xd eg]; exact F) 3 [[gi (bL o r.left),.emp 1,gi r.prec]]).emp (k:=1) (sz:=1)).perm (.swap _ _ _))
      generalize hL:((V.sl P 0 1 4,4,[[C,J,u2,gi 0]]) :: (V.sl B 0 g.ak.length 1,1,bE (fK g.ak.length o)) :: (V.sl n3 0 kl.length 1,1,bE kl) ::
       (J,1,kT (o.map fun x=>g.ak.getD x.toNat ⟨#[]⟩)) :: (C,3,g.af.map bW) :: (u2,3,iy bs) :: (V.sl M 0 1 4,4,[[V.emp 1,V.emp 1,V.emp 1,gi 0]]) :: mH bs:List cw)=L at d
      have hn:L[1]?=some (.sl B 0 g.ak.length 1,1,bE (fK g.ak.length o)):=by rw[← hL]; rfl
      try simp (disch:=omega)only[↓wr,seval,wq,t1,t2,t7,t8,t10,t13,set_set]
      refine aU.up r.right.length (Wa g M P B ec ee (.sl n3 0 kl.length 1) o r L i) ?_ ?_
      ·exact ⟨⟨.emp 1,by rw[set_set,set_set]; exact d⟩,t1,t2,t7,t8,t10,t13,rfl,rfl,rfl⟩
      clear A d f8 g8 b0 F t1 t2 t7 t8 t10 t13
      rintro k k2 T H3 ek ⟨⟨v,w⟩,t1,t2,t7,t8,t10,t13,t14,t15,t16⟩
      have f14:=w.is 2 rfl (by simp)
      have f15:=w.is 0 rfl (by simp)
      have f8:H3 B=.arr 1 (bE (fK g.ak.length o)):=w.is 4 (by simpa using hn) (by simp[fK]; omega)
      simp only[aP] at f14
      simp (disch:=omega)only[↓wr,seval,wq,mS,t1,t2,t7,t8,t10,t13,t14,t15,t16,f14,encI]
      apply ah.dec<;>intro ht
      ·have cN:r.right[k]?=some (r.right[k]'(by omega)):=Xc (by omega)
       have en:r.right[k]'(by omega)∈r.right:=Xm _
       have Y:(bP (bL o) r).right.take (k+1)=(bP (bL o) r).right.take k ++ [if r.right[k]'(by omega) < 0 then -1 - bL o (-1 - r.right[k]'(by omega)) else r.right[k]'(by omega)]:=by
        rw[XH]; simp[bP,cN]
       have bq:((bP (bL o) r).right.take k).length≤6:=by
        have h1:(bP (bL o) r).right.length=r.right.length:=by simp[bP]
        have h2:((bP (bL o) r).right.take k).length≤(bP (bL o) r).right.length:=by rw[X0]; omega
        omega
       generalize r.right[k]'(by omega)=s at cN en Y
       obtain ⟨⟨s1,s2⟩,s3⟩:=bd s en
       simp (disch:=omega)only[↓wr,seval,wq,t1,t2,t7,t8,t10,t13,t14,t15,t16,f14,encI,Xf,cN]
       have hD:=Uf o (-1 - s)
       have hF:o.length≤40:=by omega
       apply ah.dec<;>intro K
       ·rw[Xg K] at Y
        have eH:=s3 K
        have b3:=lR (l:=fK g.ak.length o) (i:=(-1 - s).toNat) (by simp[fK]; omega)
        rw[AB (by omega) eH] at b3
        simp (disch:=omega)only[↓wr,seval,wq,t1,t2,t7,t8,t10,t13,t14,t15,t16,f14,f15,f8,b3,Xj]
        refine ⟨by omega,by simp[fK]; omega,?_⟩
        intro m hm
        try simp (disch:=omega)only[↓wr,seval,wq,t1,t2,t7,t8,t10,t13,t14,t15,t16,bT]
        have Z:=(w.fresh (o:=.arr 1 [[gi (-1 - bL o (-1 - s))]]) hm).at 1 (by simp)
        refine cB Z (by simp[aO]) (by unfold aB; simp at bq ⊢; omega) (by unfold aB; simp at bq ⊢; omega) ?_
        intro v' H4 a _
        have cv:=a.head.cells
        have kv:=a.head.iO
        have an:=a.is 1 rfl (by simp)
        simp (disch:=omega)only[↓wr,seval,wq,t1,t2,t7,t8,t10,t13,t14,t15,t16,an,cv,kv]
        have aq:=(a.at 1 (by simp)).put (es':=[[gi (bL o r.left),v',gi r.prec]]) rfl rfl
        refine aF ek (by omega) ⟨⟨v',?_⟩,t1,t2,t7,t8,t10,t13,t14,t15,rfl⟩
        rw[Y]
        simp only[XD,XF,YK]
        exact aq
       ·rw[Xd K] at Y
        simp (disch:=omega)only[↓wr,seval,wq,t1,t2,t7,t8,t10,t13,t14,t15,t16,f14,f15,f8]
        intro m hm
        try simp (disch:=omega)only[↓wr,seval,wq,t1,t2,t7,t8,t10,t13,t14,t15,t16,bT]
        have Z:=(w.fresh (o:=.arr 1 [[gi s]]) hm).at 1 (by simp)
        refine cB Z (by simp[aO]) (by unfold aB; simp at bq ⊢; omega) (by unfold aB; simp at bq ⊢; omega) ?_
        intro v' H4 a _
        have cv:=a.head.cells
        have kv:=a.head.iO
        have an:=a.is 1 rfl (by simp)
        simp (disch:=omega)only[↓wr,seval,wq,t1,t2,t7,t8,t10,t13,t14,t15,t16,an,cv,kv]
        have aq:=(a.at 1 (by simp)).put (es':=[[gi (bL o r.left),v',gi r.prec]]) rfl rfl
        refine aF ek (by omega) ⟨⟨v',?_⟩,t1,t2,t7,t8,t10,t13,t14,t15,rfl⟩
        rw[Y]
        simp only[XD,XF,YK]
        exact aq
      ·rw[Xv (by simp[bP]; omega)] at w
       subst hL
       have f7:=w.is 3 rfl (by simp)
       have cv:=(w.own 1 rfl).cells
       have kv:=(w.own 1 rfl).iO
       have e4:(iy bs).length≤40:=by
        have h1:=YA List.length bn
        simp only[Xj,X0] at h1
        simp only[iy,Xj]
        omega
       simp (disch:=omega)only[↓wr,seval,wq,t1,t2,t7,t8,t10,t13,t14,t15,t16,f7,f15,cv,kv]
       intro m hm
       try simp (disch:=omega)only[↓wr,seval,wq,t1,t2,t7,t8,t10,t13,t14,t15,t16,bT]
       have Z:=(w.fresh (o:=.arr 3 [[gi (bL o r.left),v,gi r.prec]]) hm).at 8 (by simp)
       refine cB Z (by simp[AJ,kv]) (by unfold aB; simp at e4 ⊢; omega) (by unfold aB; simp at e4 ⊢; omega) ?_
       intro e5 H4 a _
       have cu:=a.head.cells
       have ku:=a.head.iO
       have cj:=a.is 4 rfl (by simp)
       simp (disch:=omega)only[↓wr,seval,wq,t1,t2,t7,t8,t10,t13,t14,t15,t16,cj,cu,ku]
       have aq:=(a.at 4 (by simp)).put (es':=[[C,J,e5,gi 0]]) rfl rfl
       have hz:=((((aq.at 2 (by simp)).tail).at 3 (by simp)).tail)
       refine aF hk (by omega) ⟨⟨e5,bs ++ [(v,bP (bL o) r)],?_,?_⟩,t1,t2,t7,t8,t10,rfl⟩
       ·rw[XD,bn,D,XD]; rfl
       ·refine hz.perm (.cons _ ?_)
        simp only[mH,iy,XD,XF,YK]
        refine .trans ?_ (sN _ 4 (by simp)).symm
        refine .cons _ ?_
        exact (List.perm_append_singleton (v,1,bE (bP (bL o) r).right) ((.sl B 0 g.ak.length 1,1,bE (fK g.ak.length o)) :: (.sl n3 0 kl.length 1,1,bE kl) :: (J,1,kT (o.map fun x=>g.ak.getD x.toNat ⟨#[]⟩)) :: (C,3,g.af.map bW) :: (.sl M 0 1 4,4,[[.emp 1,.emp 1,.emp 1,gi 0]]) :: mH bs)).symm
     ·rw[Xv (by omega)] at bn
      have f7:=f.is 0 rfl (by simp)
      have f8:H2 B=.arr 1 (bE (fK g.ak.length o)):=f.is 1 rfl (by simp[fK]; omega)
      have f2:=f.is 6 rfl (by simp)
      have e6:P≠M:=f.FD 0 6 rfl rfl (by omega)
      have c1:=(f.own 3 rfl).cells
      have k1:=(f.own 3 rfl).iO
      have c2:=(f.own 5 rfl).cells
      have k2:=(f.own 5 rfl).iO
      simp (disch:=omega)only[↓wr,seval,wq,t1,t2,t7,t8,t10,t13,f7,f8,f2,e6,e6.symm,bx,c0,k0,c1,k1,c2,k2,ai,Xj]
      refine ⟨by omega,by simp[fK]; omega,fun h' hh=>?_⟩
      have A:=f.put (es':=[[C,J,u2,gi (bL o g.start)]]) rfl rfl
      have d:=(A.at 6 (by simp)).put (es':=[[C,J,u2,gi (bL o g.start)]]) rfl rfl
      have hv:h'.view=(H2.set P (.arr 4 [[C,J,u2,gi (bL o g.start)]])).set M (.arr 4 [[C,J,u2,gi (bL o g.start)]]):=hh
      rw[← hv] at d
      rw[c]
      exact LD (x:=(⟨g.af,o.map fun x=>g.ak.getD x.toNat ⟨#[]⟩,(g.rules.filter (cb p q)).map (bP (bL o)),bL o g.start⟩,kl,0)) (b:=bs) (d.own 5 rfl) (d.own 4 rfl) (d.own 6 rfl) (fun y hy=>d.1 y (by
       refine XJ _ (XJ _ (XJ _ (XJ _ (XJ _ (XJ _ (XJ _ ?_))))))
       exact hy)) bn (d.own 3 rfl)
 ·rename_i hr
  intro h' hh
  rw[fX,Xd (by simp[hr])]
  exact xq
theorem J0 {g:ag} (e:oX g=false):g.Small:=by
 simp only[oX,Bool.or_eq_false_iff,YO] at e
 exact ⟨by omega⟩
theorem Rg (g:ag):aA Tryz.prog 16 [.agg (ai g)] (gb (oX g)):=aA.val (fu g) fun H=>(Rz g H).mono fun _ _ h=>h.1
theorem Gu {a b:V} (c:Tree a) (d:Tree b):Tree (.bp [a,b]):=.bp _ fun i hi=>by
 match i,hi with
 | 0,_=>exact c
 | 1,_=>exact d
 | n+2,h=>exact absurd h (by simp)
theorem DJ {H:View} {id n:Nat} {l:List Int} (a:H id=.arr 1 (bE l)) (b:n=l.length):eO H (.sl id 0 n 1) (encI l):=by
 subst b
 exact eO.own (sz:=1) (.inr ⟨id,by simp,a⟩) fun e he v a=>by
  obtain ⟨x,_,rfl⟩:=Xw.1 he
  simp at a; subst a; exact .val _
theorem dr.step {H H' H1:View} {u b:V} (h:dr H H' u) (l:Left H' H1 u b):dr H H1 b:=fun id a=>by
 have h1:=h id a
 have c:=l id (by rw[h1.1]; exact a) h1.2
 exact ⟨c.1.trans h1.1,c.2⟩
theorem Ds {l:List Int} {k:Nat} (h:k≤l.length):dx 1 (.aE (l.map fun x=>[gi x])) (some (gi k)) none=some (.aE ((l.drop k).map fun x=>[gi x]),.none,[]):=by
 simp[dx,bound,asNat,h,List.all_map,List.map_drop]
 rw[Xv (by simp)]
theorem jT {P:Program} {t:TypeId} {d:TypeDesc} (hu:P.underlying t=some d) (hd:d=.string∨∃ k,d=.int k) (cs:Array Value) (off:Nat) {v:Value} (a:cs[off]?=some v):bD P (part t cs off)=some v:=by
 have b:bD P (isAgg t)=some false:=by
  rcases hd with rfl | ⟨k,rfl⟩
  all_goals simp only[isAgg,bt,er hu,XS]; rfl
 simp only[part,bt,b,XS,Xz,if_false,a]
 rfl
inductive gI (P:Program) (d:Nat) (xs ys:Array Value):List Field→Bool→Prop
 | nil:gI P d xs ys [] true
 | str (f:Field) (l:List Field) (c:Bool) (a b:ByteArray):(f.name≠ "_")→P.underlying f.type=some .string→xs[f.offset]?=some (.string a)→ys[f.offset]?=some (.string b)→gI P d xs ys l c→gI P d xs ys (f :: l) (a == b && c)
 | int (f:Field) (l:List Field) (c:Bool) (k:IntKind) (a b:Int):(f.name≠ "_")→P.underlying f.type=some (.int k)→xs[f.offset]?=some (.int k a)→ys[f.offset]?=some (.int k b)→gI P d xs ys l c→gI P d xs ys (f :: l) (a == b && c)
theorem gI.forIn {P:Program} {d e:Nat} {xs ys:Array Value} {l:List Field} {c:Bool} (h:gI P d xs ys l c) (hd:e=d+1) :
  bD P (forIn l ((none:Option Bool),()) fun f _ =>
    if f.name≠ "_" then do
     let a ← part f.type xs f.offset
     let b ← part f.type ys f.offset
     let e ← Op.equalIn e f.type a b
     if (!e)=true then pure (ForInStep.done (some false,())) else pure (ForInStep.yield (none,()))
    else pure (ForInStep.yield (none,())))=some (if c=true then (none,()) else (some false,())):=by
 subst hd
 induction h with
 | nil=>rfl
 | str f l c a b g hu i j _ m =>
  have he:bD P (Op.equalIn (d+1) f.type (.string a) (.string b))=some (a == b):=by
   simp only[Op.equalIn,bt,er hu,XS]; rfl
  rw[List.forIn_cons,bt,Xg g,bt,jT hu (.inl rfl) xs _ i,XS,bt,jT hu (.inl rfl) ys _ j,XS,bt,he,XS]
  cases a == b with
  | false=>rfl
  | true=>exact m
 | int f l c k a b g hu i j _ m =>
  have he:bD P (Op.equalIn (d+1) f.type (.int k a) (.int k b))=some (a == b):=by
   simp only[Op.equalIn,bt,er hu,XS]; rfl
  rw[List.forIn_cons,bt,Xg g,bt,jT hu (.inr ⟨k,rfl⟩) xs _ i,XS,bt,jT hu (.inr ⟨k,rfl⟩) ys _ j,XS,bt,he,XS]
  cases a == b with
  | false=>rfl
  | true=>exact m
theorem th {P:Program} {t:TypeId} {b:Array Field} {xs ys:Array Value} {c:Bool} (hu:P.underlying t=some (.struct b)) (hs:P.stoodInHeld t=false) (h:gI P 9998 xs ys b.toList c) :
  bD P (Op.equal t (.agg xs) (.agg ys))=some c:=by
 rw[lX]
 rw[Op.equalIn,bt,er hu,XS]
 have a:(bD P program)=some P:=rfl
 rw[bt,a,XS,hs]
 simp only[← Array.forIn_toList,Xz,if_false]
 rw[bt,h.forIn (e:=9999) rfl,XS]
 cases c <;> rfl
theorem EI {P:Program} {o:Oper} {T:Env} {op:BinOp} {t u:TypeId} {x y:Operand} {f:Array Field} {xs ys:Array Value} {c r:Bool} (b:o.op=.binOp op t x y u) (hu:P.underlying t=some (.struct f)) (hs:P.stoodInHeld t=false) (g:P.eqGuardType P.depth t=false)
  (d:dq (ev T x)=some (.agg xs)) (e:dq (ev T y)=some (.agg ys)) (h:gI P 9998 xs ys f.toList c) (hr:(op=.eql∧r=c)∨(op=.neq∧r = !c)) :
  dQ P o T=some (.val (.bool r),.none,[]):=by
 have he:=th hu hs h
 have a:(bD P program)=some P:=rfl
 unfold dQ
 simp only[b,Op.operands,d,e]
 rcases hr with ⟨rfl,rfl⟩ | ⟨rfl,rfl⟩
 ·simp[execOp,b,d,e,eqGuard,binOp,jD,bt,a,g,he,plain]
  try simp[bD,pure,plain]
 ·simp[execOp,b,d,e,eqGuard,binOp,jD,bt,a,g,he,plain]
  try simp[bD,pure,plain,bne]
theorem jB {P:Program} {T:Env} {H:View} {K:V→View→Prop} {w:cD (T,H,K)} {op:BinOp} {t u ty:TypeId} {x y:Operand} {a:Array Field} {xs ys:Array Value} {c r:Bool} (hu:P.underlying t=some (.struct a)) (hs:P.stoodInHeld t=false) (b:P.eqGuardType P.depth t=false)
  (d:dq (ev T x)=some (.agg xs)) (e:dq (ev T y)=some (.agg ys)) (h:gI P 9998 xs ys a.toList c) (hr:(op=.eql∧r=c)∨(op=.neq∧r = !c)) (hk:K (.val (.bool r)) H):jH P (.binOp op t x y u) ty T H K w:=by
 intro n _
 refine ⟨.val (.bool r),.none,[],?_,hk⟩
 have f:jM P t=none:=by simp[jM,hu]
 simp only[sI,cp,oper,f]
 simp only[Option.isSome_none,Xz,if_false]
 exact EI rfl hu hs b d e h hr
def Af (hp:Array Obj) (cs:List Value) (vs:List V):Prop :=
 vs.length=cs.length∧∀ μ i,i < vs.length→az (fun b=>b < hp.size) μ hp (vs.getD i .any) (cs.getD i undef)
def Wt {H:Type} (P:Program) (t:TypeId) (d:DataW H):Prop:=∀ n∈d.weights P t,n≤reachBytes
def zr (P:Program) (t:TypeId) {α:Type} (f:α→List V) (ok:α→Prop):Prop :=
 ∀ {H:Type} (enc:TypeId × Value→H) (w:World) (base:Nat) (sp:Nat→Bool) (held:Bool) (fuel:Nat) (cs:List Value) (x:DataW H × List MemPlace),
  DataW.trod enc P w base sp held fuel t cs=some x→Wt P t x.1→∃ a,ok a∧Af w.heap cs (f a)
theorem w6 {hp:Array Obj} {c:Value} {v:V} (h:∀ μ,az (fun b=>b < hp.size) μ hp v c):Af hp [c] [v]:=by
 refine ⟨rfl,fun μ i hi=>?_⟩
 match i,hi with
 | 0,_=>exact h μ
theorem UM {P:Program} {t:TypeId} {k:IntKind} (a:P.underlying t=some (.int k)):zr P t (fun n=>[.val (.int k n)]) (fun n=>(Lit.int k n).wf=true):=by
 intro H enc w base sp held fuel cs x h _
 obtain ⟨n,rfl,_,hw⟩:=DataW.trod_int a h
 exact ⟨n,hw,w6 fun μ=>.val _ rfl⟩
theorem E9 {P:Program} {t:TypeId} (a:P.underlying t=some .string):zr P t (fun s=>[.val (.string s)]) (fun _=>True):=by
 intro H enc w base sp held fuel cs x h _
 obtain ⟨s,rfl,_,_⟩:=DataW.trod_string a h
 exact ⟨s,trivial,w6 fun μ=>.val _ rfl⟩
theorem IN {w:World} {base:Nat} {a:Addr} {n:Nat} {cs:List Value} (h:w.cells? base a n=some cs):cs.length=n∧∀ i,i < n→w.cell? (a.add i)=some (cs.getD i undef):=by
 obtain ⟨_,b,c⟩:=World.cells?_some h
 refine ⟨b,fun i hi=>?_⟩
 rw[c i hi,Xb,Xc (by omega)]
 rfl
theorem Qn {w:World} {a:Addr} {v:Value} (h:w.cell? a=some v):a.spot=none∧a.block < w.heap.size:=by
 unfold World.cell? at h
 split at h
 ·rename_i c _ _ b
  split at h
  ·simp at h
  ·rename_i hs
   exact ⟨by simpa using hs,(Array.getElem?_eq_some_iff.1 b).1⟩
 ·simp at h
theorem OY {H:Type} {P:Program} {e:TypeId} : ∀ {l:List (DataW H)},(∀ n∈DataW.weightsAll P e l,n≤reachBytes)→∀ d∈l,Wt P e d
 | [],_,d,hd=>by simp at hd
 | x :: l,h,d,hd=>by
  simp only[DataW.weightsAll,XE] at h
  rcases Xs.1 hd with rfl | hd
  ·exact fun n a=>h n (.inl a)
  ·exact OY (fun n a=>h n (.inr a)) d hd
theorem R7 {H:Type} {P:Program} {t e:TypeId} {elems spare:List (DataW H)} (a:P.underlying t=some (.slice e)) (h:Wt P t (.slice elems spare)) :
  (elems.length+spare.length) * P.bytesOf e≤reachBytes∧∀ d∈elems,Wt P e d:=by
 unfold Wt at h
 unfold DataW.weights at h
 rw[a] at h
 simp only[Xs,XE] at h
 exact ⟨h _ (.inl rfl),OY fun n b=>h n (.inr (.inl b))⟩
theorem Qp {H:Type} {P:Program} {t:TypeId} {a:Array Field} {parts:List (DataW H)} (b:P.underlying t=some (.struct a)) (h:Wt P t (.agg parts)) {j:Nat} {f:Field} {d:DataW H} (c:a[j]?=some f) (hd:parts[j]?=some d):Wt P f.type d:=by
 intro n e
 refine h n ?_
 unfold DataW.weights
 rw[b]
 exact DataW.weights_mem_each (j:=j) (t:=f.type) (by simp[c]) hd n e
theorem KS {α:Type} {c:Nat→α→Prop} : ∀ (n:Nat),(∀ i,i < n→∃ a,c i a)→∃ l:List α,l.length=n∧∀ i (hi:i < l.length),c i l[i]
 | 0,_=>⟨[],rfl,fun i hi=>by simp at hi⟩
 | n+1,h=>by
  obtain ⟨l,hl,b⟩:=KS n fun i hi=>h i (by omega)
  obtain ⟨a,d⟩:=h n (by omega)
  refine ⟨l ++ [a],by simp[hl],fun i hi=>?_⟩
  by_cases e:i < l.length
  ·rw[List.getElem_append_left e]; exact b i e
  ·have:i=n:=by simp at hi; omega
   subst this
   rw[List.getElem_append_right (by omega)]
   simp only[hl,Nat.sub_self,Yb]; exact d
theorem xW {P:Program} {t e:TypeId} {α:Type} {f:α→List V} {ok:α→Prop} (J:P.underlying t=some (.slice e)) (L:0 < P.cellsOf e) (M:0 < P.bytesOf e) (he:zr P e f ok) :
  zr P t (fun l:List α=>[.aE (l.map f)]) (fun l=>l.length < 4611686018427387904∧∀ a∈l,ok a):=by
 intro H enc w base sp held fuel cs x h hw
 rcases DataW.trod_slice J h with ⟨rfl,rfl⟩ | ⟨a,len,cap,elems,rest,n,_,rfl,rfl,N,hl,hm,hlen,A,_,_⟩
 ·exact ⟨[],⟨by simp,by simp⟩,w6 fun μ=>.iX none 0 (by simp)⟩
 obtain ⟨r,B⟩:=R7 J hw
 simp only[Xj] at r
 have C:len < 4611686018427387904:=by
  have h1:len * 1≤(elems.length+rest.length) * P.bytesOf e:=Nat.mul_le_mul (by omega) M
  unfold reachBytes at r
  omega
 have each:∀ i,i < len→∃ y,ok y∧∃ ci,w.cells? base (a.add (i * P.cellsOf e)) (P.cellsOf e)=some ci∧Af w.heap ci (f y):=by
  intro i hi
  have h1:=A i hi
  have k:elems[i]?=some (elems[i]'(by omega)):=Xc (by omega)
  have s:elems[i]'(by omega)∈elems:=Xm _
  rw[k,Option.bind_eq_some_iff] at h1
  obtain ⟨ci,D,E⟩:=h1
  obtain ⟨y,z,m⟩:=he enc w base sp held n ci _ E (B _ (Xw.2 ⟨_,s,rfl⟩))
  exact ⟨y,z,ci,D,m⟩
 obtain ⟨l,F,p⟩:=KS len each
 subst F
 refine ⟨l,⟨C,fun y O=>?_⟩,w6 fun μ=>?_⟩
 ·obtain ⟨i,hi,rfl⟩:=List.getElem_of_mem O
  exact (p i hi).1
 by_cases K:l=[]
 ·subst K
  exact .iX (some a) cap (by simp)
 have o:0 < l.length:=Zc.2 K
 have d:∀ i j,i < l.length→j < P.cellsOf e→∃ c,cellAt w.heap a.block (a.off+i * P.cellsOf e+j)=some c∧a.block < w.heap.size∧(i=0→j=0→a.spot=none)∧∀ (hi:i < l.length),az (fun b=>b < w.heap.size) μ w.heap ((f l[i]).getD j .any) c:=by
  intro i j hi q
  obtain ⟨_,ci,h1,k⟩:=p i hi
  obtain ⟨D,E⟩:=IN h1
  have z:=E j q
  have m:=Qn z
  have u:((a.add (i * P.cellsOf e)).add j).block=a.block:=by simp only[Addr.add]; split <;> split <;> rfl
  have G:((a.add (i * P.cellsOf e)).add j).off=a.off+i * P.cellsOf e+j:=by
   simp only[Addr.add]; split <;> split <;> simp_all
  refine ⟨ci.getD j undef,?_,by rw[← u]; exact m.2,?_,fun _=>?_⟩
  ·rw[← G,← u,← ox]
   rw[← z]
   congr 1
   generalize (a.add (i * P.cellsOf e)).add j=b at m
   cases b
   simp at m ⊢
   exact m.1.symm
  ·rintro rfl rfl
   simp[Addr.add] at m
   exact m.1
  ·exact k.2 μ j (by rw[k.1,D]; exact q)
 obtain ⟨_,_,Q,hs,_⟩:=d 0 0 o L
 have R:a=⟨a.block,a.off,none⟩:=by
  cases a; simp at hs ⊢; exact hs
 have I:∀ i,i < l.length→(f (l[i]?.getD (l[0]'o))).length=P.cellsOf e:=fun i hi=>by
  obtain ⟨_,ci,h1,k⟩:=p i hi
  rw[Xc hi,Xu,k.1,(IN h1).1]
 have v:∀ i (hi:i < l.length),(l.map f).getD i []=f l[i]:=fun i hi=>by simp[Xb,hi]
 have g:(l.map f).length=l.length:=by simp
 have:=az.aE (Z:=fun b=>b < w.heap.size) (μ:=μ) (hp:=w.heap) (l.map f) a.block a.off (P.cellsOf e) cap (fun i j=>(cellAt w.heap a.block (a.off+i * P.cellsOf e+j)).getD undef) Q (by rw[g]; exact hl)
  (fun i hi=>by
   rw[g] at hi
   have:=I i hi
   rw[Xc hi,Xu] at this
   rw[v i hi]; exact this)
  (fun i j hi q=>by
   rw[g] at hi
   obtain ⟨c,h1,_⟩:=d i j hi q
   rw[h1]; rfl)
  (fun i j hi q=>by
   rw[g] at hi
   obtain ⟨c,h1,_,_,k⟩:=d i j hi q
   rw[h1,v i hi]; exact k hi)
 rw[g,← R] at this
 exact this
theorem yM {P:Program} {t:TypeId} {b:Array Field} (d:P.underlying t=some (.struct b)) (j:∀ (i:Nat) (f:Field),b[i]?=some f→f.offset=i∧P.cellsOf f.type=1) (k:P.cellsOf t=b.size)
  {H:Type} {enc:TypeId × Value→H} {w:World} {base:Nat} {sp:Nat→Bool} {held:Bool} {fuel:Nat} {cs:List Value} {x:DataW H × List MemPlace} (h:DataW.trod enc P w base sp held fuel t cs=some x) (hw:Wt P t x.1) :
  cs.length=b.size∧∀ (i:Nat) (f:Field),b[i]?=some f→∀ {α:Type} {g:α→List V} {ok:α→Prop},zr P f.type g ok→∃ a,ok a∧Af w.heap [cs.getD i undef] (g a):=by
 obtain ⟨xs,n,rfl,rfl,hl,hlen,l⟩:=DataW.trod_struct d h
 refine ⟨by rw[hl,k],fun i f hi α g ok hr=>?_⟩
 obtain ⟨h1,m⟩:=j i f hi
 have o:i < b.size:=(Array.getElem?_eq_some_iff.1 hi).1
 have c:=l i f hi
 have e:xs[i]?=some (xs[i]'(by omega)):=Xc (by omega)
 rw[e,h1,m] at c
 have p:(cs.drop i).take 1=[cs.getD i undef]:=by
  rw[Xb,Xc (by omega),XW (by omega)]
  rfl
 rw[p] at c
 exact hr enc w base sp held n _ _ c (Qp d hw hi (by simp[e]))
theorem iP {hp:Array Obj} {c:Value} {cs:List Value} {v:V} {vs:List V} (h:Af hp [c] [v]) (k:Af hp cs vs):Af hp (c :: cs) (v :: vs):=by
 refine ⟨by simp[k.1],fun μ i hi=>?_⟩
 cases i with
 | zero=>exact h.2 μ 0 (by simp)
 | succ i=>exact k.2 μ i (by simpa using hi)
theorem BL {hp:Array Obj} : Af hp [] []:=⟨rfl,fun μ i hi=>by simp at hi⟩
theorem TK {n:Int} (h:(Lit.int .i64 n).wf=true):cy n:=by
 simp only[Lit.wf,Xl,Xr] at h
 exact h
theorem qq:zr Tryz.prog 3 (fun n=>[gi n]) cy:=fun enc w base sp held fuel cs x h hw=>by
 obtain ⟨n,h1,a⟩:=UM Tryz.underlying3 enc w base sp held fuel cs x h hw
 exact ⟨n,TK h1,a⟩
theorem Tz:zr Tryz.prog 43 (fun l:List Int=>[encI l]) (fun l=>aL l∧∀ x∈l,cy x) :=
 xW Tryz.underlying43 (YW (by kernel_rfl)) (YW (by kernel_rfl)) qq
theorem MH:zr Tryz.prog 23 (fun l:List ByteArray=>[encS l]) (fun l=>aL l∧∀ x∈l,True) :=
 xW Tryz.underlying23 (YW (by kernel_rfl)) (YW (by kernel_rfl)) (E9 Tryz.underlying9)
theorem VZ {cs:List Value} (h:cs.length=3):cs=[cs.getD 0 undef,cs.getD 1 undef,cs.getD 2 undef]:=by
 match cs,h with
 | [a,b,c],_=>rfl
theorem WU {cs:List Value} (h:cs.length=4):cs=[cs.getD 0 undef,cs.getD 1 undef,cs.getD 2 undef,cs.getD 3 undef]:=by
 match cs,h with
 | [a,b,c,d],_=>rfl
theorem TV:zr Tryz.prog 129 bW (fun t=>cy t.level∧cy t.assoc):=fun enc w base sp held fuel cs x h hw=>by
 obtain ⟨hl,d⟩:=yM Tryz.underlying129 (by
  intro i f hi
  match i,hi with
  | 0,hi=>simp at hi; subst hi; exact ⟨rfl,by kernel_rfl⟩
  | 1,hi=>simp at hi; subst hi; exact ⟨rfl,by kernel_rfl⟩
  | 2,hi=>simp at hi; subst hi; exact ⟨rfl,by kernel_rfl⟩
  | n+3,hi=>simp at hi) (by kernel_rfl) h hw
 obtain ⟨a,_,h1⟩:=d 0 _ rfl (E9 Tryz.underlying9)
 obtain ⟨b,e,g⟩:=d 1 _ rfl qq
 obtain ⟨c,j,k⟩:=d 2 _ rfl qq
 refine ⟨⟨a,b,c⟩,⟨e,j⟩,?_⟩
 rw[VZ hl]
 exact iP h1 (iP g (iP k BL))
theorem Ua:zr Tryz.prog 71 aP (fun r=>cy r.left∧cy r.prec∧aL r.right∧∀ x∈r.right,cy x):=fun enc w base sp held fuel cs x h hw=>by
 obtain ⟨hl,d⟩:=yM Tryz.underlying71 (by
  intro i f hi
  match i,hi with
  | 0,hi=>simp at hi; subst hi; exact ⟨rfl,by kernel_rfl⟩
  | 1,hi=>simp at hi; subst hi; exact ⟨rfl,by kernel_rfl⟩
  | 2,hi=>simp at hi; subst hi; exact ⟨rfl,by kernel_rfl⟩
  | n+3,hi=>simp at hi) (by kernel_rfl) h hw
 obtain ⟨a,g,h1⟩:=d 0 _ rfl qq
 obtain ⟨b,e,j⟩:=d 1 _ rfl Tz
 obtain ⟨c,k,l⟩:=d 2 _ rfl qq
 refine ⟨⟨a,b,c⟩,⟨g,k,e.1,e.2⟩,?_⟩
 rw[VZ hl]
 exact iP h1 (iP j (iP l BL))
theorem Ul:zr Tryz.prog 26 ai ag.Ok:=fun enc w base sp held fuel cs x h hw=>by
 obtain ⟨hl,e⟩:=yM Tryz.underlying26 (by
  intro i f hi
  match i,hi with
  | 0,hi=>simp at hi; subst hi; exact ⟨rfl,by kernel_rfl⟩
  | 1,hi=>simp at hi; subst hi; exact ⟨rfl,by kernel_rfl⟩
  | 2,hi=>simp at hi; subst hi; exact ⟨rfl,by kernel_rfl⟩
  | 3,hi=>simp at hi; subst hi; exact ⟨rfl,by kernel_rfl⟩
  | n+4,hi=>simp at hi) (by kernel_rfl) h hw
 obtain ⟨a,g,h1⟩:=e 0 _ rfl (xW Tryz.underlying22 (YW (by kernel_rfl)) (YW (by kernel_rfl)) TV)
 obtain ⟨b,k,l⟩:=e 1 _ rfl MH
 obtain ⟨c,j,m⟩:=e 2 _ rfl (xW Tryz.underlying24 (YW (by kernel_rfl)) (YW (by kernel_rfl)) Ua)
 obtain ⟨d,o,p⟩:=e 3 _ rfl qq
 refine ⟨⟨a,b,c,d⟩,⟨g.1,k.1,j.1,o,g.2,j.2⟩,?_⟩
 rw[WU hl]
 exact iP h1 (iP l (iP m (iP p BL)))
end Gv
