/-
  Part 9 of the proof: what the machine does and what the functions answer.
  Conditions: those that each lemma names.
-/
import Derived.ProofKit
import Derived.SizedLaws
import Derived.Test.YtihmlbdfcmfbdaaGreatSGzB2H
set_option linter.unusedSimpArgs false
set_option linter.unusedVariables false
set_option maxRecDepth 100000
namespace Gv
open Go Go.Proofs
def BF (n:Nat) (r:aW):Prop:=cp r.left∧0≤r.left∧r.left < n∧r.right.length≤6∧∀ s∈r.right,cp s∧(s < 0→-1 - s < n)
theorem aw.dt.sr {g:aw} (hg:g.Ok) (h:g.dt) {r:aW} (hr:r∈g.rules):BF g.ax.length r :=
 ⟨(hg.aH r hr).1,(h.left r hr).1,(h.left r hr).2,h.right r hr,fun s hs=>⟨(hg.aH r hr).2.2.2 s hs,fun hn=>h.neg hr hs hn⟩⟩
def w5:SF:=⟨.seq (ao [bH 2 false]) <|
 .seq (ao [aj 3 0,aQ 4 .geq 3 0,aj 2 4]) <|
 .ret,
 [.tmp 2],5⟩
theorem AB:aU Tryz.prog 209 []=some w5:=by kernel_rfl
def zN:SF:=⟨.seq (ao [cO 1 0,bH 2 false]) <|
 .seq (ao [aD 3 1 1,ay 4 3,pc 5 91 [(.tmp 4),(.val (.fn 209 [] []))],dp 6 5,aj 2 6]) <|
 .ret,
 [.tmp 2],7⟩
theorem Dd:aU Tryz.prog 171 [1]=some zN:=by kernel_rfl
def tn:SF:=⟨.seq (ao [bH 3 false]) <|
 .seq (.region false [⟨none,[aj 4 0,aQ 5 .lss 4 0,aj 6 5]⟩,⟨(some (6,true)),[ay 7 1,aj 8 0,((some 9),.op (.arith .sub (.val (.val (.int .i64 (-1)))) (.tmp 8))),aR 10 1 7 9,ay 11 10,dp 12 11]⟩,⟨none,[eS 13 6 12,aj 3 13]⟩]) <|
 .ret,
 [.tmp 3],14⟩
theorem xU:aU Tryz.prog 197 []=some tn:=by kernel_rfl
def wZ:SF:=⟨.seq (ao [cO 2 0,cO 3 1,bH 4 false]) <|
 .seq (ao [aD 5 1 2,ay 6 5,((some 7),.op (.sL 197 [] [(.tmp 3)])),bD 8 91 [6,7],dp 9 8,aj 4 9]) <|
 .ret,
 [.tmp 4],10⟩
theorem Ag:aU Tryz.prog 160 [2,3]=some wZ:=by kernel_rfl
def qY:SF:=⟨.seq (ao [cO 2 0,((some 4),.op (.bP (.val (.emp 1))))]) <|
 .seq (.seq (.region false [⟨none,[bp 5 3 2,bD 6 171 [5],aj 7 6]⟩,⟨(some (7,true)),[bp 8 3 2,aj 9 1,bD 10 160 [8,9]]⟩,⟨none,[eS 11 7 10]⟩]) <|
 .cond (.tmp 11) (.seq (ao [aD 12 0 2,ay 13 12,((some 14),.op (.cw 1 1 [(.val (.int .i64 0))] [(0,(.tmp 13))])),aj 4 14]) <|
 .ret) (.skip)) <|
 .seq (ao [((some 4),.op (.bP (.val (.emp 1))))]) <|
 .ret,
 [.tmp 4],15⟩
theorem vN:aU Tryz.prog 170 [2]=some qY:=by kernel_rfl
def oI:SF:=⟨.seq (ao [cO 2 0,((some 4),.op (.bP (.val (.emp 1))))]) <|
 .seq (.seq (ao [bp 5 3 2,aj 6 1,bD 7 160 [5,6]]) <|
 .cond (.tmp 7) (.seq (ao [aD 8 0 2,ay 9 8,((some 10),.op (.cw 1 1 [(.val (.int .i64 0))] [(0,(.tmp 9))])),aj 4 10]) <|
 .ret) (.skip)) <|
 .seq (ao [((some 4),.op (.bP (.val (.emp 1))))]) <|
 .ret,
 [.tmp 4],11⟩
theorem tN:aU Tryz.prog 195 [2]=some oI:=by kernel_rfl
def nJ:SC :=
 .seq (ao [bg 24 .lss 23 22]) <|
 .seq (.cond (.tmp 24) (.skip) (.exit 0)) <|
 .seq (.block 1 (.seq (ao [aR 25 1 21 23,ay 26 25,aj 7 26]) <|
 .seq (ao [aj 27 7,aQ 28 .lss 27 0]) <|
 .cond (.tmp 28) (ao [aj 29 5,aj 30 7,((some 31),.op (.arith .sub (.val (.val (.int .i64 (-1)))) (.tmp 30))),((some 32),.op (.cw 1 1 [(.val (.int .i64 0))] [(0,(.tmp 31))])),((some 33),.op (.app 1 8 (.tmp 29) (.tmp 32))),aj 5 33]) (.skip))) <|
 ao [aQ 34 .add 23 1,aj 23 34]
def qB:SF:=⟨.seq (ao [cO 3 0,((some 5),.op (.bP (.val (.emp 1))))]) <|
 .seq (.seq (.region false [⟨none,[aj 8 1,aD 9 0 3,ay 10 9,aR 11 1 8 10,ay 12 11,dp 13 12,aj 14 13]⟩,⟨(some (14,false)),[bp 15 3 3,ay 16 2,bD 17 160 [15,16],dp 18 17]⟩,⟨none,[cU 19 14 18]⟩]) <|
 .cond (.tmp 19) (.seq (ao [((some 5),.op (.bP (.val (.emp 1))))]) <|
 .ret) (.skip)) <|
 .seq (.seq (ao [aD 20 1 3,ay 21 20,aV 22 21,bj 23 0]) <|
 .block 0 (.loop nJ)) <|
 .seq (ao [aj 35 5,aj 5 35]) <|
 .ret,
 [.tmp 5],36⟩
theorem vn:aU Tryz.prog 196 [3]=some qB:=by kernel_rfl
theorem MX (r:aW):∀ v∈[V.agg (aP r)],Tree v:=by intro v hv; simp at hv; subst hv; exact cT _ (gB r)
theorem Ar (r:aW) (is:List Bool):∀ v∈[V.agg (aP r),bI is],Tree v:=by
 intro v hv; simp at hv
 rcases hv with rfl | rfl
 ·exact cT _ (gB r)
 ·exact gG is
theorem Oo (x:Int):aG Tryz.prog 209 [gi x] (gb (decide (0≤x))):=by
 refine aG.val (yD (l:=[.int .i64 x])) fun H=>?_
 refine aC.of mixed AB ?_
 simp (disch:=omega) only [↓wr,seval,wq,ah,ag,ak,aa,ab,af,ai,ae,w5]
theorem QF (r:aW) (hr:aY r.right):aG Tryz.prog 171 [.agg (aP r)] (gb (!r.right.any fun s=>decide (0≤s))):=by
 refine aG.val (MX r) fun H=>?_
 refine aC.of mixed Dd ?_
 simp (disch:=omega) only [↓wr,seval,wq,ah,ag,ak,aa,ab,af,ai,ae,zN,aP,encI]
 refine aE.pure (mq r.right hr 209 [] (by simp) (fun s=>decide (0≤s)) (fun x _=>Oo x) (by kernel_rfl)) (by kernel_rfl) ?_
 simp (disch:=omega) only [↓wr,seval,wq,ah,ag,ak,aa,ab,af,ai,ae]
def Dk (is:List Bool) (s:Int):Bool:=decide (s < 0) && !is.getD (-1 - s).toNat false
theorem KX (is:List Bool) (s:Int) (hs:cp s∧(s < 0→-1 - s < is.length)):aG Tryz.prog 197 [gi s,.aO [bI is] 0] (gb (Dk is s)):=by
 refine aG.val ?_ fun H=>?_
 ·intro v hv; simp at hv
  rcases hv with rfl | rfl
  ·exact .val _
  ·exact kN (by intro v hv; simp at hv; subst hv; exact gG is)
 obtain ⟨⟨h1,h2⟩,h3⟩:=hs
 refine aC.of mixed xU ?_
 simp (disch:=omega) only [↓wr,seval,wq,ah,ag,ak,aa,ab,af,ai,ae,tn,bI]
 refine av.dec (fun h=>?_) (fun h=>?_)
 ·have hb:is[(-1 - s).toNat]?=some (is[(-1 - s).toNat]'(by omega)):=T4 (by omega)
  have hbd:is.getD (-1 - s).toNat false=is[(-1 - s).toNat]'(by omega):=by simp[T0,hb]
  generalize is[(-1 - s).toNat]'(by omega)=b at hb hbd
  simp (disch:=omega) only [↓wr,seval,wq,ah,ag,ak,aa,ab,af,ai,ae,T8,hb]
  simp only[Dk,hbd,h,decide_true,Vh]
 ·simp (disch:=omega) only [↓wr,seval,wq,ah,ag,ak,aa,ab,af,ai,ae]
  simp[Dk,h]
theorem KV {is:List Bool} {l:List Int} : (!l.any (Dk is))=cz l is true:=by
 simp only[cz,List.not_any_eq_all_not]
 congr 1
 funext s
 simp only[Dk]
 by_cases h:0≤s
 ·simp[h,show ¬ s < 0 by omega]
 ·simp[h,show s < 0 by omega]
theorem tI (r:aW) (is:List Bool) (hr:aY r.right) (hs:∀ s∈r.right,cp s∧(s < 0→-1 - s < is.length)):aG Tryz.prog 160 [.agg (aP r),bI is] (gb (cz r.right is true)):=by
 rw[← KV]
 refine aG.val (Ar r is) fun H=>?_
 refine aC.of mixed Ag ?_
 simp (disch:=omega) only [↓wr,seval,wq,ah,ag,ak,aa,ab,af,ai,ae,wZ,aP,bI,encI]
 refine aE.pure (mq r.right hr 197 [.aO [bI is] 0] (by
  intro v hv; simp at hv; subst hv
  exact kN (by intro v hv; simp at hv; subst hv; exact gG is)) (Dk is) (fun x hx=>KX is x (hs x hx)) (by kernel_rfl)) (by kernel_rfl) ?_
 simp (disch:=omega) only [↓wr,seval,wq,ah,ag,ak,aa,ab,af,ai,ae]
theorem HY {is:List Bool} {l:List Int} : ((!l.any fun s=>decide (0≤s)) && cz l is true)=cz l is false:=by
 induction l with
 | nil=>rfl
 | cons s l ih =>
  simp only[cz,Vg,List.any_cons] at ih ⊢
  rw[← ih]
  by_cases h:0≤s
  ·simp[h]
  ·simp only[h,decide_false,Bool.false_or,if_false]
   cases (l.any fun s=>decide (0≤s)) <;> simp
theorem mw {h:aJ} {u:V} {l:List Int} (ho:bf h.view u 1 (l.map fun x=>[gi x])):er h u (encI l):=er.On (f:=Value.int .i64) ho
theorem FM (r:aW) (is:List Bool) (hr:BF is.length r):cX Tryz.prog 170 [.agg (aP r),bI is] (encI (if cz r.right is false=true then [r.left] else [])):=by
 obtain ⟨hl,_,_,hr6,hs⟩:=hr
 have hsh:aY r.right:=by unfold aY; omega
 refine cX.of (Ar r is) ?_
 refine aC.of mixed vN ?_
 rw[← HY]
 simp (disch:=omega) only [↓wr,seval,wq,ah,ag,ak,aa,ab,af,ai,ae,qY,aP,encI]
 refine aE.pure (QF r hsh) (by kernel_rfl) ?_
 repeat' (first | (refine av.dec (fun _=>?_) (fun _=>?_)) | (refine av.eq (fun _=>?_) (fun _=>?_)) | (refine av.ne (fun _=>?_) (fun _=>?_)) | (refine av.split (fun _=>?_) (fun _=>?_)) | (refine aE.pure (tI r is hsh hs) (by kernel_rfl) ?_) | (simp (disch:=omega) only [↓wr,seval,wq,ah,ag,ak,aa,ab,af,ai,ae,aP,encI]))
 all_goals first
  | (intro n h' hh; rw[T9 (by simp[*])]; exact mw (l:=[r.left]) (.inr ⟨n,rfl,by rw[hh]; simp[View.set]⟩))
  | (intro h' hh; rw[T6 (by simp[*])]; exact .emp _)
theorem Dc (r:aW) (is:List Bool) (hr:BF is.length r):cX Tryz.prog 195 [.agg (aP r),bI is] (encI (if cz r.right is true=true then [r.left] else [])):=by
 obtain ⟨hl,_,_,hr6,hs⟩:=hr
 have hsh:aY r.right:=by unfold aY; omega
 refine cX.of (Ar r is) ?_
 refine aC.of mixed tN ?_
 simp (disch:=omega) only [↓wr,seval,wq,ah,ag,ak,aa,ab,af,ai,ae,oI,aP,encI]
 refine aE.pure (tI r is hsh hs) (by kernel_rfl) ?_
 repeat' (first | (refine av.dec (fun _=>?_) (fun _=>?_)) | (refine av.eq (fun _=>?_) (fun _=>?_)) | (refine av.ne (fun _=>?_) (fun _=>?_)) | (refine av.split (fun _=>?_) (fun _=>?_)) | (simp (disch:=omega) only [↓wr,seval,wq,ah,ag,ak,aa,ab,af,ai,ae,aP,encI]))
 all_goals first
  | (intro n h' hh; rw[T9 (by simp[*])]; exact mw (l:=[r.left]) (.inr ⟨n,rfl,by rw[hh]; simp[View.set]⟩))
  | (intro h' hh; rw[T6 (by simp[*])]; exact .emp _)
def gI (l:List Int):List Int:=(l.filter fun s=>decide (s < 0)).map fun s=>-1 - s
theorem Na (r:aW) (is p:List Bool):∀ v∈[V.agg (aP r),bI is,.aO [bI p] 0],Tree v:=by
 intro v hv; simp at hv
 rcases hv with rfl | rfl | rfl
 ·exact cT _ (gB r)
 ·exact gG is
 ·exact kN (by intro v hv; simp at hv; subst hv; exact gG p)
set_option maxHeartbeats 1000000 in
theorem Fc (r:aW) (is p:List Bool) (hr:BF is.length r) (hp:p.length=is.length) :
  cX Tryz.prog 196 [.agg (aP r),bI is,.aO [bI p] 0] (encI (if (is.getD r.left.toNat false && cz r.right p true)=true then gI r.right else [])):=by
 obtain ⟨hl,hl0,hl1,hr6,hs⟩:=hr
 have hsh:aY r.right:=by unfold aY; omega
 refine cX.of (Na r is p) ?_
 refine aC.of mixed vn ?_
 have hb:is[r.left.toNat]?=some (is[r.left.toNat]'(by omega)):=T4 (by omega)
 have hbd:is.getD r.left.toNat false=is[r.left.toNat]'(by omega):=by simp[T0,hb]
 generalize is[r.left.toNat]'(by omega)=b at hb hbd
 rw[hbd]
 simp (disch:=omega) only [↓wr,seval,wq,ah,ag,ak,aa,ab,af,ai,ae,qB,aP,encI,bI,T8,hb]
 cases b with
 | false =>
  simp (disch:=omega) only [↓wr,seval,wq,ah,ag,ak,aa,ab,af,ai,ae]
  intro h' hh
  exact .emp _
 | true =>
  simp (disch:=omega) only [↓wr,seval,wq,ah,ag,ak,aa,ab,af,ai,ae,aP,encI,bI]
  refine aE.pure (tI r p hsh (fun s hs'=>⟨(hs s hs').1,fun h=>by rw[hp]; exact (hs s hs').2 h⟩)) (by kernel_rfl) ?_
  repeat' (first | (refine av.dec (fun _=>?_) (fun _=>?_)) | (refine av.eq (fun _=>?_) (fun _=>?_)) | (refine av.ne (fun _=>?_) (fun _=>?_)) | (refine av.split (fun _=>?_) (fun _=>?_)) | (simp (disch:=omega) only [↓wr,seval,wq,ah,ag,ak,aa,ab,af,ai,ae,aP,encI,bI]))
  ·rename_i ha
   rw[T9 (by simp[ha])]
   refine bc.up r.right.length (fun i T H=>(∃ u,T 5=u∧bf H u 1 ((gI (r.right.take i)).map fun x=>[gi x]))∧T 21=encI r.right∧T 22=gi r.right.length∧T 23=gi i) ?_ ?_
   ·exact ⟨⟨_,rfl,.nil⟩,rfl,rfl,rfl⟩
   rintro i k T H' hk ⟨⟨u,h5,hu⟩,h21,h22,h23⟩
   simp (disch:=omega) only [↓wr,seval,wq,ah,ag,ak,aa,ab,af,ai,ae,nJ,h5,h21,h22,h23,encI]
   refine av.dec (fun hc=>?_) (fun hc=>?_)
   ·have hg:r.right[i]?=some (r.right[i]'(by omega)):=T4 (by omega)
    have hm:r.right[i]'(by omega)∈r.right:=Ud _
    have htk:gI (r.right.take (i+1))=gI (r.right.take i) ++ gI [r.right[i]'(by omega)]:=by
     rw[Uw,hg,gI,Vq,UA]; rfl
    have hlen:(gI (r.right.take i)).length≤6:=by
     have h1:(gI (r.right.take i)).length≤(r.right.take i).length:=by simp only[gI,Uc]; exact UW _ _
     have h2:(r.right.take i).length≤i:=List.length_take_le _ _
     omega
    generalize r.right[i]'(by omega)=s at hg hm htk
    obtain ⟨⟨s1,s2⟩,s3⟩:=hs s hm
    simp (disch:=omega) only [↓wr,seval,wq,ah,ag,ak,aa,ab,af,ai,ae,h5,h21,h22,h23,encI,T8,hg]
    refine av.dec (fun hd=>?_) (fun hd=>?_)
    ·simp (disch:=omega) only [↓wr,seval,wq,ah,ag,ak,aa,ab,af,ai,ae,h5,h21,h22,h23]
     intro m hm
     try simp (disch:=omega) only [↓wr,seval,wq,ah,ag,ak,aa,ab,af,ai,ae,h5,h21,h22,h23,cb]
     refine yV (hu.fresh hm) (by simp) (by simp[aX]) (by unfold aK; simp at hlen ⊢; omega) (by unfold aK; simp at hlen ⊢; omega) ?_
     intro u' H2 hu' _
     simp (disch:=omega) only [↓wr,seval,wq,ah,ag,ak,aa,ab,af,ai,ae,h21,h22,h23]
     refine aN hk (by omega) ⟨⟨u',rfl,?_⟩,h21,h22,rfl⟩
     rw[htk]
     simpa [gI,hd] using hu'
    ·simp (disch:=omega) only [↓wr,seval,wq,ah,ag,ak,aa,ab,af,ai,ae,h5,h21,h22,h23]
     refine aN hk (by omega) ⟨⟨u,h5,?_⟩,h21,h22,rfl⟩
     rw[htk]
     simpa [gI,hd] using hu
   ·rw[Uo (by omega)] at hu
    simp (disch:=omega) only [↓wr,seval,wq,ah,ag,ak,aa,ab,af,ai,ae,h5,h21,h22,h23]
    intro h' hh
    exact mw (by rw[hh]; exact hu)
  ·rename_i ha
   intro h' hh
   rw[T6 (by simp[ha])]
   exact .emp _
def rA (is:List Bool) (l:List Int):List Bool:=l.foldl (fun is n=>is.set n.toNat true) is
def stepG (comes:aW→List Bool→List Int) (is:List Bool) (r:aW):List Bool:=rA is (comes r is)
def dY (comes:aW→List Bool→List Int) (rules:List aW) (is:List Bool):List Bool:=rules.foldl (stepG comes) is
def fq (a b:List Bool):Prop:=a.length=b.length∧∀ i,a.getD i false=true→b.getD i false=true
theorem fq.refl (a:List Bool):fq a a:=⟨rfl,fun _ h=>h⟩
theorem fq.trans {a b c:List Bool} (h:fq a b) (k:fq b c):fq a c:=⟨h.1.trans k.1,fun i hi=>k.2 i (h.2 i hi)⟩
theorem fq.set (a:List Bool) (i:Nat):fq a (a.set i true):=by
 refine ⟨by simp,fun j h=>?_⟩
 simp only[T0,Vm] at h ⊢
 split
 ·split
  ·rfl
  ·rename_i e h2; rw[← e,UF (by omega)] at h; simp at h
 ·exact h
theorem Hw:∀ (l:List Int) (is:List Bool),fq is (rA is l)
 | [],is=>.refl _
 | n :: l,is=>(fq.set is n.toNat).trans (Hw l _)
theorem tt (comes:aW→List Bool→List Int):∀ (rules:List aW) (is:List Bool),fq is (dY comes rules is)
 | [],is=>.refl _
 | r :: rs,is=>(Hw _ _).trans (tt comes rs _)
def ec (a:List Bool):Nat:=a.countP fun x=>x
theorem sH (a:List Bool):ec a≤a.length:=List.countP_le_length
theorem fq.ec:∀ {a b:List Bool},fq a b→ec a≤ec b∧(ec a=ec b→a=b)
 | [],[],_=>⟨Ug _,fun _=>rfl⟩
 | [],_ :: _,h=>by simp[fq] at h
 | _ :: _,[],h=>by simp[fq] at h
 | x :: a,y :: b,h=>by
  have hxy:x=true→y=true:=fun e=>by have:=h.2 0 (by simpa using e); simpa using this
  obtain ⟨h1,h2⟩:=fq.ec (a:=a) (b:=b) ⟨by simpa using h.1,fun i hi=>by have:=h.2 (i+1) (by simpa using hi); simpa using this⟩
  unfold Gv.ec at h1 h2 ⊢
  simp only[List.countP_cons]
  cases x with
  | true =>
   have:=hxy rfl; subst this
   simp only[if_true]
   exact ⟨by omega,fun e=>by rw[h2 (by omega)]⟩
  | false =>
   cases y with
   | false=>simp only[Ut,if_false]; exact ⟨by omega,fun e=>by rw[h2 (by omega)]⟩
   | true=>simp only[Ut,if_false,if_true]; exact ⟨by omega,fun e=>by omega⟩
def hU (comes:aW→List Bool→List Int) (rules:List aW):Nat→List Bool→List Bool
 | 0,is=>is
 | k+1,is=>if dY comes rules is=is then is else hU comes rules k (dY comes rules is)
theorem tC (comes:aW→List Bool→List Int) (rules:List aW):∀ (k:Nat) (is:List Bool),is.length≤ec is+k→dY comes rules (hU comes rules k is)=hU comes rules k is∧fq is (hU comes rules k is)
 | 0,is,h=>by
  have h1:=tt comes rules is
  have h2:=sH (dY comes rules is)
  have h3:=h1.ec
  rw[← h1.1] at h2
  have h4:=sH is
  exact ⟨(h3.2 (by omega)).symm,.refl _⟩
 | k+1,is,h=>by
  simp only[hU]
  by_cases e:dY comes rules is=is
  ·rw[T9 e]; exact ⟨e,.refl _⟩
  ·rw[T6 e]
   have h1:=tt comes rules is
   have h3:=h1.ec
   have:ec is < ec (dY comes rules is):=by
    rcases Uv (ec is) (ec (dY comes rules is)) with h | h
    ·exact h
    ·exact absurd (h3.2 (by omega)).symm e
   obtain ⟨g1,g2⟩:=tC comes rules k (dY comes rules is) (by rw[← h1.1]; omega)
   exact ⟨g1,h1.trans g2⟩
def w9:SC :=
 .seq (ao [bg 26 .lss 25 24]) <|
 .seq (.cond (.tmp 26) (.skip) (.exit 4)) <|
 .seq (.block 5 (.seq (ao [aR 27 1 23 25,ay 28 27,aj 11 28]) <|
 .seq (.region false [⟨none,[aj 29 7,aj 30 29]⟩,⟨(some (30,false)),[aj 31 1,aj 32 11,aR 33 1 31 32,ay 34 33,dp 35 34]⟩,⟨none,[cU 36 30 35,aj 7 36]⟩]) <|
 ao [aj 37 1,aj 38 11,aR 39 1 37 38,(none,.op (.store 1 (.tmp 39) (.val (.val (.bool true)))))])) <|
 ao [aQ 40 .add 25 1,aj 25 40]
def xi:SC :=
 .seq (ao [bg 17 .lss 16 15]) <|
 .seq (.cond (.tmp 17) (.skip) (.exit 2)) <|
 .seq (.block 3 (.seq (ao [aR 18 3 14 16,bp 19 3 18,((some 9),.op (.alloc [(.val (.int .i64 0)),(.emp 1),(.val (.int .i64 0))])),(none,.op (.store 3 (.tmp 9) (.tmp 19)))]) <|
 .seq (ao [aj 20 2,bp 21 3 9,aj 22 1,((some 23),.call (.tmp 20) [(.tmp 21),(.tmp 22)]),aV 24 23,bj 25 0]) <|
 .block 4 (.loop w9))) <|
 ao [aQ 41 .add 16 1,aj 16 41]
def qS:SC :=
 .seq (.seq (ao [aj 12 7]) <|
 .cond (.tmp 12) (.skip) (.exit 0)) <|
 .block 1 (.seq (ao [bH 7 false]) <|
 .seq (ao [aD 13 2 3,ay 14 13,aV 15 14,bj 16 0]) <|
 .block 2 (.loop xi))
def Ad:SF:=⟨.seq (ao [cO 3 0,((some 6),.op (.bP (.val (.emp 1))))]) <|
 .seq (.seq (ao [bH 7 true]) <|
 .block 0 (.loop qS)) <|
 .seq (ao [aj 42 1,aj 6 42]) <|
 .ret,
 [.tmp 6],43⟩
theorem CP:aU Tryz.prog 169 [3]=some Ad:=by kernel_rfl
theorem O5 {is:List Bool} {i:Nat} (h:is.getD i false=true):is.set i true=is:=by
 apply List.ext_getElem?
 intro j
 simp only[T0] at h
 rw[Vm]
 split
 ·rename_i e; subst e
  split
  ·rename_i hl; rw[T4 hl] at h ⊢; simp at h; simp[h]
  ·rename_i hl; rw[UF (by omega)] at h; simp at h
 ·rfl
theorem KQ {comes:aW→List Bool→List Int} {rules:List aW} {k:Nat} {is:List Bool} (h:dY comes rules is=is):hU comes rules k is=is:=by
 cases k with
 | zero=>rfl
 | succ k=>simp only[hU,h,if_true]
theorem KI {comes:aW→List Bool→List Int} {rules:List aW} {k:Nat} {is:List Bool} (h:¬ dY comes rules is=is) (hk:is.length≤ec is+k):∃ j,k=j+1∧hU comes rules k is=hU comes rules j (dY comes rules is)∧(dY comes rules is).length≤ec (dY comes rules is)+j:=by
 have h1:=tt comes rules is
 have h3:=h1.ec
 have h5:=sH (dY comes rules is)
 have:ec is < ec (dY comes rules is):=by
  rcases Uv (ec is) (ec (dY comes rules is)) with h | h
  ·exact h
  ·exact absurd (h3.2 (by omega)).symm (by assumption)
 have hl:=h1.1
 obtain ⟨j,rfl⟩:∃ j,k=j+1:=⟨k - 1,by omega⟩
 exact ⟨j,rfl,by simp only[hU]; rw[T6 h],by omega⟩
theorem OK {a is:List Bool} {i:Nat} {b:Bool} (hle:fq a is) (hi:i < is.length) (hb:b = !decide (is=a)):(b || !is.getD i false) = !decide (is.set i true=a):=by
 cases hx:is.getD i false with
 | true=>rw[O5 hx,hb]; simp
 | false =>
  have:¬ is.set i true=a:=fun e=>by
   have h1:(is.set i true).getD i false=true:=by simp[T0,hi]
   rw[e] at h1
   have:=hle.2 i h1
   rw[hx] at this; simp at this
  simp[this]
set_option maxHeartbeats 8000000 in
theorem Dx (g:aw) (hr:g.rules.length≤40) (comes:aW→List Bool→List Int) (f:FuncId) (capt capt':List V) (hok:dG Tryz.prog f=true) (N:Nat) (hN:N≤16)
  (hc:∀ r∈g.rules,∀ is:List Bool,is.length=N→cX Tryz.prog f (.agg (aP r) :: bI is :: capt') (encI (comes r is))∧(comes r is).length≤100∧∀ n∈comes r is,cp n∧0≤n∧n < N)
  (id:Nat) (is0:List Bool) (his:is0.length=N) (H:View) (hH:H id=.arr 1 (dw is0)) (hlent:∀ H':View,(∀ k,H k≠.dead→k≠id→H' k=H k)→pY H' capt capt') :
  aC Tryz.prog 169 [.agg (au g),.sl id 0 N 1,.fn f [] capt] H fun r H'=>r=.sl id 0 N 1∧H' id=.arr 1 (dw (hU comes g.rules 16 is0))∧∀ k,H k≠.dead→k≠id→H' k=H k:=by
 refine aC.of mixed CP ?_
 simp (disch:=omega) only [↓wr,seval,wq,ah,ag,ak,aa,ab,af,ai,ae,Ad,au,encS]
 refine bc.intro (fun k T H'=>∃ is:List Bool,is.length=N∧H' id=.arr 1 (dw is)∧(∀ k,H k≠.dead→k≠id→H' k=H k)∧T 1=.sl id 0 N 1∧T 2=.fn f [] capt∧T 3=.aO (au g) 0 ∧
  ((T 7=gb true∧∃ j,k=j+1∧hU comes g.rules j is=hU comes g.rules 16 is0∧N≤ec is+j)∨(T 7=gb false∧is=hU comes g.rules 16 is0))) 17 ?_ ?_
 ·exact ⟨is0,his,hH,fun _ _ _=>rfl,rfl,rfl,rfl,.inl ⟨rfl,16,rfl,rfl,by omega⟩⟩
 rintro k T H1 ⟨is,hlen,hid,hfr,t1,t2,t3,h7⟩
 rcases h7 with ⟨h7,j,rfl,hgr,hj⟩ | ⟨h7,hgr⟩
 ·simp (disch:=omega) only [↓wr,seval,wq,ah,ag,ak,aa,ab,af,ai,ae,qS,t1,t2,t3,h7,au,encS]
  refine bc.up g.rules.length (fun i T H'=>∃ oL:List Bool,oL.length=N∧fq is oL∧oL=(g.rules.take i).foldl (stepG comes) is∧H' id=.arr 1 (dw oL)∧(∀ k,H k≠.dead→k≠id→H' k=H k)∧T 1=.sl id 0 N 1∧T 2=.fn f [] capt∧T 3=.aO (au g) 0 ∧
   T 7=gb (!decide (oL=is))∧T 14=.aL (g.rules.map aP)∧T 15=gi g.rules.length∧T 16=gi i) ?_ ?_
  ·exact ⟨is,hlen,.refl _,rfl,hid,hfr,t1,t2,t3,by simp; rfl,rfl,rfl,rfl⟩
  clear t1 t2 t3 h7 hid hfr
  rintro i k T H1 hk ⟨oL,hlen2,hle2,hst,hid,hfr,t1,t2,t3,h7,h14,h15,h16⟩
  simp (disch:=omega) only [↓wr,seval,wq,ah,ag,ak,aa,ab,af,ai,ae,xi,t1,t2,t3,h7,h14,h15,h16,au,encS]
  refine av.dec (fun hcc=>?_) (fun hcc=>?_)
  ·have hg2:g.rules[i]?=some (g.rules[i]'(by omega)):=T4 (by omega)
   have hmem:g.rules[i]'(by omega)∈g.rules:=Ud _
   have htk:(g.rules.take (i+1)).foldl (stepG comes) is=stepG comes ((g.rules.take i).foldl (stepG comes) is) (g.rules[i]'(by omega)):=by
    rw[Uw,hg2,UM]; rfl
   generalize g.rules[i]'(by omega)=r at hg2 hmem htk
   obtain ⟨hcp,hcl,hcn⟩:=hc r hmem oL hlen2
   simp (disch:=omega) only [↓wr,seval,wq,ah,ag,ak,aa,ab,af,ai,ae,t1,t2,t3,h7,h14,h15,h16,aP,encI,T8,hg2]
   intro b hb
   have hbid:b≠id:=by rintro rfl; rw[hid] at hb; simp at hb
   try simp (disch:=omega) only [↓wr,seval,wq,ah,ag,ak,aa,ab,af,ai,ae,t1,t2,t3,h7,h14,h15,h16]
   refine aE.SA hcp hok ⟨eA.tree (cT _ (gB r)),BG (by simp[View.set,hbid.symm,hid]) hlen2.symm,hlent _ (fun k hk hki=>?_)⟩ ?_
   ·have hkb:k≠b:=by
     rintro rfl
     rw[hfr k hk hki] at hb
     exact hk hb
    simp[View.set,hkb,hfr k hk hki]
   generalize hl:comes r oL=l at hcl hcn
   simp (disch:=omega) only [↓wr,seval,wq,ah,ag,ak,aa,ab,af,ai,ae,t1,t2,t3,h7,h14,h15,h16,encI]
   refine bc.up l.length (fun q T H'=>∃ is3:List Bool,is3.length=N∧fq is is3∧is3=rA oL (l.take q)∧H' id=.arr 1 (dw is3)∧(∀ k,H k≠.dead→k≠id→H' k=H k)∧T 1=.sl id 0 N 1∧T 2=.fn f [] capt∧T 3=.aO (au g) 0 ∧
    T 7=gb (!decide (is3=is))∧T 14=.aL (g.rules.map aP)∧T 15=gi g.rules.length∧T 16=gi i∧T 23=encI l∧T 24=gi l.length∧T 25=gi q) ?_ ?_
   ·refine ⟨oL,hlen2,hle2,rfl,by simp[View.set,hbid.symm,hid],fun k hk hki=>?_,t1,t2,t3,h7,h14,h15,h16,rfl,rfl,rfl⟩
    have hkb:k≠b:=by
     rintro rfl
     rw[hfr k hk hki] at hb
     exact hk hb
    simp[View.set,hkb,hfr k hk hki]
   clear t1 t2 t3 h7 h14 h15 h16 hid hfr hb hbid
   rintro q k2 T H1 hk2 ⟨is3,hlen3,hle3,hst3,hid,hfr,t1,t2,t3,h7,h14,h15,h16,h23,h24,h25⟩
   simp (disch:=omega) only [↓wr,seval,wq,ah,ag,ak,aa,ab,af,ai,ae,w9,t1,t2,t3,h7,h14,h15,h16,h23,h24,h25,encI]
   refine av.dec (fun hqc=>?_) (fun hqc=>?_)
   ·have hgq:l[q]?=some (l[q]'(by omega)):=T4 (by omega)
    have hmq:l[q]'(by omega)∈l:=Ud _
    have htq:rA oL (l.take (q+1))=(rA oL (l.take q)).set (l[q]'(by omega)).toNat true:=by
     unfold rA; rw[Uw,hgq,UM]; rfl
    generalize l[q]'(by omega)=n at hgq hmq htq
    obtain ⟨⟨n1,n2⟩,n3,n4⟩:=hcn n hmq
    have hbn:is3.getD n.toNat false=is3[n.toNat]'(by omega):=by simp[T0,show n.toNat < is3.length by omega]
    have hnew:=OK hle3 (show n.toNat < is3.length by omega) (b:=!decide (is3=is)) rfl
    rw[hbn] at hnew
    have hbg:=kj (show n.toNat < is3.length by omega)
    generalize is3[n.toNat]'(by omega)=x at hnew hbg hbn
    have fin:∀ (T2:Env),T2 7=gb (!decide (is3.set n.toNat true=is))→T2 1=.sl id 0 N 1→T2 2=.fn f [] capt→T2 3=.aO (au g) 0→T2 14=.aL (g.rules.map aP)→T2 15=gi g.rules.length→T2 16=gi i→T2 23=encI l→T2 24=gi l.length→T2 25=gi ((q:Int)+1) →
      ∃ k',k' < k2∧DH l.length k' (fun q T H'=>∃ is3:List Bool,is3.length=N∧fq is is3∧is3=rA oL (l.take q)∧H' id=.arr 1 (dw is3)∧(∀ k,H k≠.dead→k≠id→H' k=H k)∧T 1=.sl id 0 N 1∧T 2=.fn f [] capt∧T 3=.aO (au g) 0 ∧
       T 7=gb (!decide (is3=is))∧T 14=.aL (g.rules.map aP)∧T 15=gi g.rules.length∧T 16=gi i∧T 23=encI l∧T 24=gi l.length∧T 25=gi q) T2 (H1.set id (.arr 1 (dw (is3.set n.toNat true)))):=by
     intro T2 a7 a1 a2 a3 a14 a15 a16 a23 a24 a25
     refine aN hk2 (by omega) ⟨is3.set n.toNat true,by simp[hlen3],hle3.trans (.set _ _),by rw[htq,← hst3],by simp[View.set],fun k hk hki=>by simp[View.set,hki,hfr k hk hki],a1,a2,a3,a7,a14,a15,a16,a23,a24,by rw[a25]; rfl⟩
    simp (disch:=omega) only [↓wr,seval,wq,ah,ag,ak,aa,ab,af,ai,ae,t1,t2,t3,h7,h14,h15,h16,h23,h24,h25,encI,T8,hgq]
    refine av.dec (fun e=>?_) (fun e=>?_)
    ·simp (disch:=omega) only [↓wr,seval,wq,ah,ag,ak,aa,ab,af,ai,ae,t1,t2,t3,h7,h14,h15,h16,h23,h24,h25,encI,hid,hbg,Uc]
     refine ⟨by omega,by omega,?_⟩
     try simp (disch:=omega) only [↓wr,seval,wq,ah,ag,ak,aa,ab,af,ai,ae,t1,t2,t3,h7,h14,h15,h16,h23,h24,h25,encI,hid,hbg,Uc]
     refine ⟨by omega,by omega,?_⟩
     rw[kE]
     exact fin _ (by rw[← hnew]; simp[e]; rfl) t1 t2 t3 h14 h15 h16 h23 h24 rfl
    ·simp (disch:=omega) only [↓wr,seval,wq,ah,ag,ak,aa,ab,af,ai,ae,t1,t2,t3,h7,h14,h15,h16,h23,h24,h25,encI,hid,hbg,Uc]
     refine ⟨by omega,by omega,?_⟩
     rw[kE]
     exact fin _ (by rw[← hnew]; simp[e]; rfl) t1 t2 t3 h14 h15 h16 h23 h24 rfl
   ·rw[Uo (by omega)] at hst3
    simp (disch:=omega) only [↓wr,seval,wq,ah,ag,ak,aa,ab,af,ai,ae,t1,t2,t3,h7,h14,h15,h16,h23,h24,h25]
    refine aN hk (by omega) ⟨is3,hlen3,hle3,?_,hid,hfr,t1,t2,t3,h7,h14,h15,rfl⟩
    rw[htk,← hst,stepG,hl,← hst3]
  ·rw[Uo (by omega)] at hst
   simp (disch:=omega) only [↓wr,seval,wq,ah,ag,ak,aa,ab,af,ai,ae,t1,t2,t3,h7,h14,h15,h16]
   have hrd:oL=dY comes g.rules is:=hst
   by_cases e:oL=is
   ·refine ⟨0,by omega,oL,hlen2,hid,hfr,rfl,.inr ⟨by simp[e],?_⟩⟩
    rw[← hgr,e]
    exact (KQ (by rw[← hrd]; exact e)).symm
   ·obtain ⟨j2,rfl,e2,e3⟩:=KI (k:=j) (fun h=>e (hrd.trans h)) (by rw[hlen]; exact hj)
    refine ⟨j2+1,by omega,oL,hlen2,hid,hfr,rfl,.inl ⟨by simp[e],j2,rfl,?_,?_⟩⟩
    ·rw[← hgr,e2,hrd]
    ·rw[← hrd,hlen2] at e3; exact e3
 ·simp (disch:=omega) only [↓wr,seval,wq,ah,ag,ak,aa,ab,af,ai,ae,qS,t1,t2,t3,h7,au,encS]
  exact ⟨hgr ▸ hid,hfr⟩
theorem vy {α:Type} {f:α→α} {x:α} (h:f x=x):∀ n,iter f n x=x
 | 0=>rfl
 | n+1=>by rw[iter,h,vy h n]
theorem Gt {α:Type} (f:α→α):∀ (a b:Nat) (x:α),iter f (a+b) x=iter f b (iter f a x)
 | 0,b,x=>by rw[U3]; rfl
 | a+1,b,x=>by rw[Nat.add_right_comm,iter,iter,Gt f a b]
theorem By (comes:aW→List Bool→List Int) (rules:List aW):∀ (k:Nat) (is:List Bool),hU comes rules k is=iter (dY comes rules) k is
 | 0,is=>rfl
 | k+1,is=>by
  simp only[hU,iter]
  by_cases e:dY comes rules is=is
  ·rw[T9 e,e,vy e]
  ·rw[T6 e,By comes rules k]
theorem x9 (comes:aW→List Bool→List Int) (rules:List aW) (is:List Bool) (h:is.length≤16):hU comes rules 16 is=iter (dY comes rules) is.length is:=by
 have h1:=(tC comes rules is.length is (by omega)).1
 rw[By] at h1 ⊢
 obtain ⟨m,hm⟩:∃ m,16=is.length+m:=⟨16 - is.length,by omega⟩
 rw[hm,Gt,vy h1]
def lP (t:Bool) (r:aW) (is:List Bool):List Int:=if cz r.right is t=true then [r.left] else []
def r7 (p:List Bool) (r:aW) (is:List Bool):List Int:=if (is.getD r.left.toNat false && cz r.right p true)=true then gI r.right else []
theorem Jg (g:aw) (t:Bool):dY (lP t) g.rules=jO g t:=by
 funext is
 unfold dY jO
 congr 1
 funext is r
 unfold stepG lP ey
 split <;> rfl
theorem BR:∀ (l:List Int) (is:List Bool),rA is (gI l)=l.foldl mark is
 | [],is=>rfl
 | s :: l,is=>by
  have ih:=BR l
  unfold rA gI at ih ⊢
  rw[Uu,← ih]
  unfold mark
  by_cases h:s < 0
  ·rw[T9 h,List.filter_cons_of_pos (by simpa using h)]; rfl
  ·rw[T6 h,List.filter_cons_of_neg (by simpa using h)]
theorem IT (g:aw) (p:List Bool):dY (r7 p) g.rules=oz g p:=by
 funext is
 unfold dY oz
 congr 1
 funext is r
 unfold stepG r7 fT
 split
 ·exact BR _ _
 ·rfl
theorem Hg {g:aw} (h:bR g=true) (t:Bool):hU (lP t) g.rules 16 (cd g)=aA g t:=by
 have hf:=bM h
 have hl:(cd g).length=g.ax.length:=by simp[cd]
 have:=hf.ax
 rw[x9 _ _ _ (by rw[hl]; exact hf.ax),Jg,hl,aA,T9 h]
theorem LL {g:aw} (h:bR g=true):hU (r7 (aA g true)) g.rules 16 ((cd g).set g.start.toNat true)=bS g:=by
 have hf:=bM h
 have hl:((cd g).set g.start.toNat true).length=g.ax.length:=by simp[cd]
 rw[x9 _ _ _ (by rw[hl]; exact hf.ax),IT,hl,bS,T9 h]
def tB:SF:=⟨.seq (ao [cO 1 0,((some 2),.op (.bP (.val (.emp 1))))]) <|
 .seq (.seq (ao [bp 3 4 1,bD 4 52 [3],dp 5 4]) <|
 .cond (.tmp 5) (.seq (ao [((some 2),.op (.bP (.val (.emp 1))))]) <|
 .ret) (.skip)) <|
 .seq (ao [bp 6 4 1,aD 7 1 1,ay 8 7,aV 9 8,((some 10),.op (.make 1 1 [(.val (.bool false))] (.tmp 9) (.tmp 9))),pc 11 169 [(.tmp 6),(.tmp 10),(.val (.fn 170 [] []))],aj 2 11]) <|
 .ret,
 [.tmp 2],12⟩
theorem yz:aU Tryz.prog 118 [1]=some tB:=by kernel_rfl
def rf:SF:=⟨.seq (ao [cO 1 0,((some 2),.op (.bP (.val (.emp 1))))]) <|
 .seq (.seq (ao [bp 3 4 1,bD 4 52 [3],dp 5 4]) <|
 .cond (.tmp 5) (.seq (ao [((some 2),.op (.bP (.val (.emp 1))))]) <|
 .ret) (.skip)) <|
 .seq (ao [bp 6 4 1,aD 7 1 1,ay 8 7,aV 9 8,((some 10),.op (.make 1 1 [(.val (.bool false))] (.tmp 9) (.tmp 9))),pc 11 169 [(.tmp 6),(.tmp 10),(.val (.fn 195 [] []))],aj 2 11]) <|
 .ret,
 [.tmp 2],12⟩
theorem vW:aU Tryz.prog 157 [1]=some rf:=by kernel_rfl
def sE:SF:=⟨.seq (ao [cO 1 0,((some 2),.op (.bP (.val (.emp 1))))]) <|
 .seq (.seq (ao [bp 5 4 1,bD 6 52 [5],dp 7 6]) <|
 .cond (.tmp 7) (.seq (ao [((some 2),.op (.bP (.val (.emp 1))))]) <|
 .ret) (.skip)) <|
 .seq (ao [bp 8 4 1,bD 9 157 [8],((some 3),.op (.alloc [(.emp 1)])),(none,.op (.store 1 (.tmp 3) (.tmp 9)))]) <|
 .seq (ao [aD 10 1 1,ay 11 10,aV 12 11,((some 13),.op (.make 1 1 [(.val (.bool false))] (.tmp 12) (.tmp 12))),aj 4 13]) <|
 .seq (ao [aj 14 4,aD 15 3 1,ay 16 15,aR 17 1 14 16,(none,.op (.store 1 (.tmp 17) (.val (.val (.bool true)))))]) <|
 .seq (ao [bp 18 4 1,aj 19 4,((some 20),.op (.sL 196 [] [(.tmp 3)])),bD 21 169 [18,19,20],aj 2 21]) <|
 .ret,
 [.tmp 2],22⟩
theorem xu:aU Tryz.prog 158 [1]=some sE:=by kernel_rfl
structure aw.Small (g:aw):Prop where
 names:g.ax.length+g.az.length≤1000
theorem yZ {h':aJ} {id n:Nat} {is:List Bool} (hv:h'.view id=.arr 1 (dw is)) (hn:n=is.length):er h' (.sl id 0 n 1) (bI is):=by
 subst hn; exact x4 hv
set_option maxHeartbeats 2000000 in
theorem yb (g:aw) (hg:g.Ok) (hs:g.Small):cX Tryz.prog 118 [.agg (au g)] (bI (aA g false)):=by
 refine cX.of (ef g) ?_
 refine aC.of mixed yz ?_
 have hn:=hg.ax
 unfold aY at hn
 simp (disch:=omega) only [↓wr,seval,wq,ah,ag,ak,aa,ab,af,ai,ae,tB,au,encS]
 refine aE.pure (s8 g hg hs.names) (by kernel_rfl) ?_
 repeat' (first | (refine av.dec (fun _=>?_) (fun _=>?_)) | (refine av.eq (fun _=>?_) (fun _=>?_)) | (refine av.ne (fun _=>?_) (fun _=>?_)) | (refine av.split (fun _=>?_) (fun _=>?_)) | (simp (disch:=omega) only [↓wr,seval,wq,ah,ag,ak,aa,ab,af,ai,ae,au,encS]))
 ·rename_i hr
  have hf:=bM hr
  have h1:=hf.mc
  have h2:=hf.ax
  try simp (disch:=omega) only [↓wr,seval,wq,ah,ag,ak,aa,ab,af,ai,ae,au,encS]
  refine ⟨⟨by omega,by unfold aK; omega,by unfold aK; omega⟩,fun h=>by omega,?_⟩
  intro _ n
  try simp (disch:=omega) only [↓wr,seval,wq,ah,ag,ak,aa,ab,af,ai,ae,au,encS]
  refine aE.ez ((Dx g hf.rules (lP false) 170 [] [] (by kernel_rfl) g.ax.length h2 (fun r hr' is his=>⟨FM r is (by rw[his]; exact hf.sr hg hr'),?_,?_⟩) n (cd g) (by simp[cd]) _ (by simp[View.set,cd]) (fun H' _=>trivial)).mono ?_)
  ·unfold lP; split <;> simp
  ·intro m hm
   unfold lP at hm
   split at hm
   ·simp only[UT] at hm; subst hm
    exact ⟨(hg.aH r hr').1,hf.left r hr'⟩
   ·simp at hm
  ·rintro r H' ⟨rfl,hid,_⟩
   simp (disch:=omega) only [↓wr,seval,wq,ah,ag,ak,aa,ab,af,ai,ae]
   intro h' hh
   rw[Hg hr] at hid
   exact yZ (by rw[hh]; exact hid) (eV hr _).symm
 ·rename_i hr
  intro h' hh
  simp only[aA,hr]
  exact .emp _
set_option maxHeartbeats 2000000 in
theorem vf (g:aw) (hg:g.Ok) (hs:g.Small):cX Tryz.prog 157 [.agg (au g)] (bI (aA g true)):=by
 refine cX.of (ef g) ?_
 refine aC.of mixed vW ?_
 have hn:=hg.ax
 unfold aY at hn
 simp (disch:=omega) only [↓wr,seval,wq,ah,ag,ak,aa,ab,af,ai,ae,rf,au,encS]
 refine aE.pure (s8 g hg hs.names) (by kernel_rfl) ?_
 repeat' (first | (refine av.dec (fun _=>?_) (fun _=>?_)) | (refine av.eq (fun _=>?_) (fun _=>?_)) | (refine av.ne (fun _=>?_) (fun _=>?_)) | (refine av.split (fun _=>?_) (fun _=>?_)) | (simp (disch:=omega) only [↓wr,seval,wq,ah,ag,ak,aa,ab,af,ai,ae,au,encS]))
 ·rename_i hr
  have hf:=bM hr
  have h1:=hf.mc
  have h2:=hf.ax
  try simp (disch:=omega) only [↓wr,seval,wq,ah,ag,ak,aa,ab,af,ai,ae,au,encS]
  refine ⟨⟨by omega,by unfold aK; omega,by unfold aK; omega⟩,fun h=>by omega,?_⟩
  intro _ n
  try simp (disch:=omega) only [↓wr,seval,wq,ah,ag,ak,aa,ab,af,ai,ae,au,encS]
  refine aE.ez ((Dx g hf.rules (lP true) 195 [] [] (by kernel_rfl) g.ax.length h2 (fun r hr' is his=>⟨Dc r is (by rw[his]; exact hf.sr hg hr'),?_,?_⟩) n (cd g) (by simp[cd]) _ (by simp[View.set,cd]) (fun H' _=>trivial)).mono ?_)
  ·unfold lP; split <;> simp
  ·intro m hm
   unfold lP at hm
   split at hm
   ·simp only[UT] at hm; subst hm
    exact ⟨(hg.aH r hr').1,hf.left r hr'⟩
   ·simp at hm
  ·rintro r H' ⟨rfl,hid,_⟩
   simp (disch:=omega) only [↓wr,seval,wq,ah,ag,ak,aa,ab,af,ai,ae]
   intro h' hh
   rw[Hg hr] at hid
   exact yZ (by rw[hh]; exact hid) (eV hr _).symm
 ·rename_i hr
  intro h' hh
  simp only[aA,hr]
  exact .emp _
theorem p7 {g:aw} (hr:bR g=true):(bS g).length=g.ax.length:=by
 rw[bS,T9 hr,Ao (f:=oz g (aA g true)) (fun is=>Al (fun is x=>Mo _ is x) g.rules is)]
 simp[cd]
set_option maxHeartbeats 2000000 in
theorem Fe (g:aw) (hg:g.Ok) (hs:g.Small):cX Tryz.prog 158 [.agg (au g)] (bI (bS g)):=by
 refine cX.of (ef g) ?_
 refine aC.of mixed xu ?_
 have hn:=hg.ax
 unfold aY at hn
 simp (disch:=omega) only [↓wr,seval,wq,ah,ag,ak,aa,ab,af,ai,ae,sE,au,encS]
 refine aE.pure (s8 g hg hs.names) (by kernel_rfl) ?_
 repeat' (first | (refine av.dec (fun _=>?_) (fun _=>?_)) | (refine av.eq (fun _=>?_) (fun _=>?_)) | (refine av.ne (fun _=>?_) (fun _=>?_)) | (refine av.split (fun _=>?_) (fun _=>?_)) | (simp (disch:=omega) only [↓wr,seval,wq,ah,ag,ak,aa,ab,af,ai,ae,au,encS]))
 ·rename_i hr
  have hf:=bM hr
  have h1:=hf.mc
  have h2:=hf.ax
  have h3:=hf.iX
  have h4:=hf.start
  have hpl:=eV hr true
  try simp (disch:=omega) only [↓wr,seval,wq,ah,ag,ak,aa,ab,af,ai,ae,au,encS]
  refine aE.pure (vf g hg hs).pure (by kernel_rfl) ?_
  simp (disch:=omega) only [↓wr,seval,wq,ah,ag,ak,aa,ab,af,ai,ae,au,encS,bI]
  intro q
  try simp (disch:=omega) only [↓wr,seval,wq,ah,ag,ak,aa,ab,af,ai,ae,au,encS,set_set]
  refine ⟨⟨by omega,by unfold aK; omega,by unfold aK; omega⟩,fun h=>by omega,?_⟩
  intro _ n hn'
  have hnq:=(dq hn' dc).1
  try simp (disch:=omega) only [↓wr,seval,wq,ah,ag,ak,aa,ab,af,ai,ae,au,encS,set_set]
  have hbg:=kj (is:=cd g) (show g.start.toNat < (cd g).length by simp[cd]; omega)
  refine ⟨by omega,by simp; omega,?_⟩
  refine aE.ez ((Dx g hf.rules (r7 (aA g true)) 196 [.ptr q 0 0] [.aO [bI (aA g true)] 0] (by kernel_rfl) g.ax.length h2 (fun r hr' is his=>⟨Fc r is (aA g true) (by rw[his]; exact hf.sr hg hr') (by rw[his,hpl]),?_,?_⟩) n ((cd g).set g.start.toNat true) (by simp[cd]) _ ?_ (fun H' hfr=>⟨eA.box (z:=1) ?_ ?_,trivial⟩)).mono ?_)
  ·have h6:=hf.right r hr'
   unfold r7
   split
   ·have:(gI r.right).length≤r.right.length:=by simp only[gI,Uc]; exact UW _ _
    omega
   ·simp
  ·intro m hm
   unfold r7 at hm
   split at hm
   ·simp only[gI,Ur,UQ,Ul] at hm
    obtain ⟨s,⟨hs',hneg⟩,rfl⟩:=hm
    have a:=hf.neg hr' hs' hneg
    have b:=((hg.aH r hr').2.2.2 s hs').1
    exact ⟨⟨by omega,by omega⟩,by omega,a⟩
   ·simp at hm
  ·simp only[View.set,if_true]
   congr 1
   rw[← kE]
   unfold cd at hbg ⊢
   rw[xy,hbg]
   rfl
  ·rw[hfr q (by simp[View.set,Ne.symm hnq]) (Ne.symm hnq)]
   simp[View.set,Ne.symm hnq]
   rfl
  ·intro v hv; simp at hv; subst hv; exact gG _
  ·rintro r H' ⟨rfl,hid,_⟩
   simp (disch:=omega) only [↓wr,seval,wq,ah,ag,ak,aa,ab,af,ai,ae]
   intro h' hh
   rw[LL hr] at hid
   exact yZ (by rw[hh]; exact hid) (by rw[p7 hr])
 ·rename_i hr
  intro h' hh
  simp only[bS,hr]
  exact .emp _
def b6 (p q:List Bool) (r:aW):Bool:=q.getD r.left.toNat false && cz r.right p true
def cZ (p q:List Bool):List aW→Int→List Int
 | [],_=>[]
 | r :: l,i=>if b6 p q r=true then i :: cZ p q l (i+1) else cZ p q l (i+1)
def fQ (acc:List Int) (r:aW):List Int:=if r.left∈acc then acc else acc ++ [r.left]
def cn (p q:List Bool) (l:List aW):List Int:=(l.filter (b6 p q)).foldl fQ []
def bQ (o:List Int) (x:Int):Int:=cB (fun y=>y == x) o 0
def bT (f:Int→Int) (r:aW):aW:=⟨f r.left,r.right.map fun s=>if s < 0 then -1 - f (-1 - s) else s,r.prec⟩
def pF (g:aw) (f:Int→Int) (p q:List Bool):aw :=
 ⟨g.az,(cn p q g.rules).map fun x=>g.ax.getD x.toNat ⟨#[]⟩,(g.rules.filter (b6 p q)).map (bT f),f g.start⟩
def uB:aw:=⟨[],[],[],0⟩
instance:DecidableEq Term:=fun a b=>decidable_of_iff (a.name=b.name∧a.level=b.level∧a.assoc=b.assoc) (by cases a; cases b; simp)
instance:DecidableEq aW:=fun a b=>decidable_of_iff (a.left=b.left∧a.prec=b.prec∧a.right=b.right) (by cases a; cases b; simp[and_comm])
instance:DecidableEq aw:=fun a b=>decidable_of_iff (a.az=b.az∧a.ax=b.ax∧a.rules=b.rules∧a.start=b.start) (by cases a; cases b; simp)
def fy (g:aw):aw × List Int × Int :=
 if bR g=true then
  if (aA g true).getD g.start.toNat false=true then (pF g (bQ (cn (aA g true) (bS g) g.rules)) (aA g true) (bS g),cZ (aA g true) (bS g) g.rules 0,0)
  else (uB,[],9)
 else (uB,[],1)
theorem kK {g:aw} (hr:bR g=true):fy g=if (aA g true).getD g.start.toNat false=true then (pF g (bQ (cn (aA g true) (bS g) g.rules)) (aA g true) (bS g),cZ (aA g true) (bS g) g.rules 0,0) else (uB,[],9):=by
 rw[fy,T9 hr]
theorem kG (p q:List Bool):∀ (a b:List aW) (i:Int),cZ p q (a ++ b) i=cZ p q a i ++ cZ p q b (i+a.length)
 | [],b,i=>by simp[cZ]
 | r :: a,b,i=>by
  simp only[UI,cZ,kG p q a b (i+1),Um]
  have:i+1+(a.length:Int)=i+((a.length+1:Nat):Int):=by push_cast; omega
  rw[this]
  split <;> simp
theorem kq (p q:List Bool):∀ (a:List aW) (i:Int),(cZ p q a i).length=(a.filter (b6 p q)).length
 | [],i=>rfl
 | r :: a,i=>by
  simp only[cZ,VS]
  split <;> simp[kq p q a]
theorem s9 (p q:List Bool):∀ (a:List aW) (i:Int) (k:Nat),k < (cZ p q a i).length→∃ m:Nat,(cZ p q a i)[k]?=some (i+m)∧a[m]?=(a.filter (b6 p q))[k]?∧m < a.length
 | [],i,k,h=>by simp[cZ] at h
 | r :: a,i,k,h=>by
  simp only[cZ,VS] at h ⊢
  by_cases hr:b6 p q r=true
  ·rw[T9 hr] at h ⊢
   rw[T9 hr]
   cases k with
   | zero=>exact ⟨0,by simp,by simp,by simp⟩
   | succ k =>
    obtain ⟨m,h1,h2,h3⟩:=s9 p q a (i+1) k (by simpa using h)
    exact ⟨m+1,by rw[UP,h1]; congr 1; push_cast; omega,by simpa using h2,by simpa using h3⟩
  ·rw[T6 hr] at h ⊢
   rw[T6 hr]
   obtain ⟨m,h1,h2,h3⟩:=s9 p q a (i+1) k h
   exact ⟨m+1,by rw[h1]; congr 1; push_cast; omega,by simpa using h2,by simpa using h3⟩
theorem tc (p q:List Bool) (l:List aW) (r:aW):cn p q (l ++ [r])=if b6 p q r=true then fQ (cn p q l) r else cn p q l:=by
 unfold cn
 rw[Vq]
 by_cases h:b6 p q r=true
 ·rw[T9 h,List.filter_cons_of_pos h,UM]; rfl
 ·rw[T6 h,List.filter_cons_of_neg h]; simp
theorem Ch {acc:List Int} {r:aW} (h:acc.Nodup):(fQ acc r).Nodup:=by
 unfold fQ
 split
 ·exact h
 ·rename_i hn
  rw[UY]
  exact ⟨h,by simp,fun a ha b hb e=>hn (by simp at hb; rw[← hb,← e]; exact ha)⟩
theorem rU {o:List Int} {x:Int} : bQ o x < 0↔x ∉ o:=by
 have:=se (fun y=>y == x) o 0 (by omega)
 unfold bQ
 rw[← Int.not_le]
 constructor
 ·intro h hx
  have e:(o.any fun y=>y == x)=true:=List.any_eq_true.2 ⟨x,hx,by simp⟩
  rw[e] at this; exact h (by simpa using this)
 ·intro h hx
  have e:(o.any fun y=>y == x)=true:=by rw[← this]; simpa using hx
  obtain ⟨y,hy,e⟩:=List.any_eq_true.1 e
  simp at e; subst e; exact h hy
theorem ua {α:Type} (p:α→Bool):∀ (a b:List α) (i:Int),0≤i→cB p (a ++ b) i=if 0≤cB p a i then cB p a i else cB p b (i+a.length)
 | [],b,i,_=>by simp[cB]
 | x :: a,b,i,h=>by
  by_cases hp:p x=true
  ·simp[cB,hp,h]
  ·simp only[UI,cB,T6 hp]
   rw[ua p a b (i+1) (by omega)]
   have:i+1+(a.length:Int)=i+(((x :: a).length:Nat):Int):=by simp; omega
   rw[this]
theorem Mi {o:List Int} {x y:Int} (hx:x ∉ o):bQ (o ++ [x]) y=if y=x then (o.length:Int) else bQ o y:=by
 unfold bQ
 rw[ua _ _ _ _ (by omega)]
 by_cases e:y=x
 ·subst e
  rw[T6 (by have:=rU.2 hx; unfold bQ at this; omega),T9 rfl]
  simp[cB]
 ·rw[T6 e]
  split
  ·rfl
  ·rename_i h
   have:bQ o y < 0:=by unfold bQ; omega
   have h2:cB (fun z=>z == y) [x] (0+(o.length:Int)) = -1:=by simp[cB,Ne.symm e]
   rw[h2]
   have:∀ (l:List Int) (i:Int),¬ 0≤cB (fun z=>z == y) l i→0≤i→cB (fun z=>z == y) l i = -1:=by
    intro l
    induction l with
    | nil=>intro i _ _; rfl
    | cons z l ih =>
     intro i h1 h2
     simp only[cB] at h1 ⊢
     split
     ·rename_i hz; rw[T9 hz] at h1; omega
     ·rename_i hz; rw[T6 hz] at h1; exact ih _ h1 (by omega)
   exact (this o 0 h (by omega)).symm
theorem nb {o:List Int} {x:Int} (h:x∈o):0≤bQ o x∧bQ o x < o.length:=by
 have h0:¬ bQ o x < 0:=fun e=>rU.1 e h
 refine ⟨by omega,?_⟩
 unfold bQ
 have:∀ (l:List Int) (i:Int),cB (fun z=>z == x) l i < i+l.length∨cB (fun z=>z == x) l i = -1:=by
  intro l
  induction l with
  | nil=>intro i; right; rfl
  | cons z l ih =>
   intro i
   simp only[cB]
   split
   ·left; simp; omega
   ·rcases ih (i+1) with h | h
    ·left; simp at h ⊢; omega
    ·right; exact h
 rcases this o 0 with h1 | h1
 ·simpa using h1
 ·unfold bQ at h0; omega
theorem QW (o:List Int) (x:Int) : -1≤bQ o x∧bQ o x≤o.length:=by
 by_cases h:x∈o
 ·have:=nb h; omega
 ·have h1:=rU.2 h
  have h2:∀ (l:List Int) (i:Int),0≤i→-1≤cB (fun z=>z == x) l i:=by
   intro l
   induction l with
   | nil=>intro i _; simp[cB]
   | cons z l ih =>
    intro i hi
    simp only[cB]
    split
    ·omega
    ·exact ih _ (by omega)
  have:=h2 o 0 (by omega)
  unfold bQ at h1 ⊢
  omega
def jB:List Int→Int→List (Int × Int)
 | [],_=>[]
 | x :: l,i=>(x,i) :: jB l (i+1)
theorem sW (x:Int):∀ (o:List Int) (i:Int),ej (jB o i) x=if x∈o then some (cB (fun y=>y == x) o i) else none
 | [],i=>by simp[jB,ej]
 | y :: o,i=>by
  have ih:=sW x o (i+1)
  unfold ej at ih ⊢
  simp only[jB,VH,cB]
  by_cases e:x=y
  ·subst e; simp
  ·have e2:¬ ((y == x)=true):=by simp[Ne.symm e]
   rw[show (x == y)=false by simp[e],T6 e2]
   simp only
   rw[ih]
   simp[e]
theorem EF {x v:Int} : ∀ {o:List Int} {i:Int},x ∉ o→jW x v (jB o i)=jB o i ++ [(x,v)]
 | [],i,_=>rfl
 | y :: o,i,h=>by
  simp only[Uk,not_or] at h
  simp only[jB,jW,show (x == y)=false by simp[h.1],Ut,if_false,EF h.2,UI]
theorem AZ {x:Int} : ∀ {o:List Int} {i:Int},jB (o ++ [x]) i=jB o i ++ [(x,i+o.length)]
 | [],i=>by simp[jB]
 | y :: o,i=>by
  simp only[UI,jB,AZ (o:=o),Um]
  congr 4
  push_cast; omega
def dV (o:List Int) (x:Int):Int:=(ej (jB o 0) x).getD 0
theorem za {o:List Int} {x:Int} (h:x∈o):dV o x=bQ o x:=by
 simp[dV,sW,h,bQ]
theorem QG (o:List Int) (x:Int):0≤dV o x∧dV o x≤o.length:=by
 by_cases h:x∈o
 ·rw[za h]; have:=nb h; omega
 ·simp[dV,sW,h]
theorem MC {g:aw} {p q:List Bool} (hst:g.start∈cn p q g.rules) (hin:∀ r∈g.rules.filter (b6 p q),r.left∈cn p q g.rules∧∀ s∈r.right,s < 0→-1 - s∈cn p q g.rules) :
  pF g (dV (cn p q g.rules)) p q=pF g (bQ (cn p q g.rules)) p q:=by
 unfold pF
 congr 1
 ·apply VZ
  intro r hr
  obtain ⟨h1,h2⟩:=hin r hr
  unfold bT
  congr 1
  ·exact za h1
  ·apply VZ
   intro s hs
   split
   ·rename_i h; rw[za (h2 s hs h)]
   ·rfl
 ·exact za hst
theorem vq:∀ (l:List aW) (acc:List Int) (x:Int),x∈l.foldl fQ acc↔x∈acc∨∃ r∈l,r.left=x
 | [],acc,x=>by simp
 | r :: l,acc,x=>by
  rw[Uu,vq l]
  have:x∈fQ acc r↔x∈acc∨r.left=x:=by
   unfold fQ
   split
   ·rename_i h
    constructor
    ·exact .inl
    ·rintro (h' | rfl)
     ·exact h'
     ·exact h
   ·simp[eq_comm]
  rw[this]
  simp only[Uk,exists_eq_or_imp]
  constructor
  ·rintro ((h | h) | h)
   ·exact .inl h
   ·exact .inr (.inl h)
   ·exact .inr (.inr h)
  ·rintro (h | h | h)
   ·exact .inl (.inl h)
   ·exact .inl (.inr h)
   ·exact .inr h
theorem sD {p q:List Bool} {l:List aW} {x:Int} : x∈cn p q l↔∃ r∈l,b6 p q r=true∧r.left=x:=by
 unfold cn
 rw[vq]
 simp[UQ,and_assoc]
def lW:SC :=
 .seq (.seq (ao [aj 42 9,aj 43 8,aV 44 43,bg 45 .lss 42 44]) <|
 .cond (.tmp 45) (.skip) (.exit 0)) <|
 .seq (.block 1 (ao [aj 48 8,aj 49 9,aR 50 1 48 49,(none,.op (.store 1 (.tmp 50) (.val (.val (.int .i64 (-1))))))])) <|
 ao [aj 46 9,aQ 47 .add 46 1,aj 9 47]
def lO:SC :=
 .seq (.seq (ao [aj 51 11,aD 52 2 1,ay 53 52,aV 54 53,bg 55 .lss 51 54]) <|
 .cond (.tmp 55) (.skip) (.exit 2)) <|
 .seq (.block 3 (.seq (ao [aD 58 2 1,ay 59 58,aj 60 11,aR 61 3 59 60,bp 62 3 61,((some 12),.op (.alloc [(.val (.int .i64 0)),(.emp 1),(.val (.int .i64 0))])),(none,.op (.store 3 (.tmp 12) (.tmp 62)))]) <|
 .seq (.seq (.region false [⟨none,[aj 63 6,aD 64 0 12,ay 65 64,aR 66 1 63 65,ay 67 66,dp 68 67,aj 69 68]⟩,⟨(some (69,false)),[aD 70 1 12,ay 71 70,aj 72 5,pc 73 117 [(.tmp 71),(.tmp 72),(.val (.val (.bool true)))],dp 74 73]⟩,⟨none,[cU 75 69 74]⟩]) <|
 .cond (.tmp 75) (.exit 3) (.skip)) <|
 .seq (ao [aj 76 10,aj 77 11,((some 78),.op (.cw 1 1 [(.val (.int .i64 0))] [(0,(.tmp 77))])),((some 79),.op (.app 1 8 (.tmp 76) (.tmp 78))),aj 10 79]) <|
 .seq (ao [aj 80 8,aD 81 0 12,ay 82 81,aR 83 1 80 82,ay 84 83,aQ 85 .lss 84 0]) <|
 .cond (.tmp 85) (.seq (ao [aj 86 8,aD 87 0 12,ay 88 87,aD 89 1 7,ay 90 89,aV 91 90,aR 92 1 86 88,(none,.op (.store 1 (.tmp 92) (.tmp 91)))]) <|
 .region false [⟨none,[aD 93 1 7,ay 94 93,aD 95 1 1,ay 96 95,aD 97 0 12,ay 98 97,aR 99 1 96 98,ay 100 99,((some 101),.op (.cw 1 1 [(.val (.string ⟨#[]⟩))] [(0,(.tmp 100))])),((some 102),.op (.app 1 16 (.tmp 94) (.tmp 101))),aD 103 1 7,(none,.op (.store 1 (.tmp 103) (.tmp 102)))]⟩]) (.skip))) <|
 ao [aj 56 11,aQ 57 .add 56 1,aj 11 57]
def lR:SC :=
 .seq (.seq (ao [aj 126 16,aD 127 1 14,ay 128 127,aV 129 128,bg 130 .lss 126 129]) <|
 .cond (.tmp 130) (.skip) (.exit 6)) <|
 .seq (.block 7 (.seq (ao [aD 133 1 14,ay 134 133,aj 135 16,aR 136 1 134 135,ay 137 136,aj 17 137]) <|
 .seq (.seq (ao [aj 138 17,aQ 139 .lss 138 0]) <|
 .cond (.tmp 139) (ao [aj 140 8,aj 141 17,((some 142),.op (.arith .sub (.val (.val (.int .i64 (-1)))) (.tmp 141))),aR 143 1 140 142,ay 144 143,((some 145),.op (.arith .sub (.val (.val (.int .i64 (-1)))) (.tmp 144))),aj 17 145]) (.skip)) <|
 ao [aD 146 1 15,ay 147 146,aj 148 17,((some 149),.op (.cw 1 1 [(.val (.int .i64 0))] [(0,(.tmp 148))])),((some 150),.op (.app 1 8 (.tmp 147) (.tmp 149))),aD 151 1 15,(none,.op (.store 1 (.tmp 151) (.tmp 150)))])) <|
 ao [aj 131 16,aQ 132 .add 131 1,aj 16 132]
def lU:SC :=
 .seq (.seq (ao [aj 104 13,aj 105 10,aV 106 105,bg 107 .lss 104 106]) <|
 .cond (.tmp 107) (.skip) (.exit 4)) <|
 .seq (.block 5 (.seq (ao [aD 110 2 1,ay 111 110,aj 112 10,aj 113 13,aR 114 1 112 113,ay 115 114,aR 116 3 111 115,bp 117 3 116,((some 14),.op (.alloc [(.val (.int .i64 0)),(.emp 1),(.val (.int .i64 0))])),(none,.op (.store 3 (.tmp 14) (.tmp 117)))]) <|
 .seq (ao [aj 118 8,aD 119 0 14,ay 120 119,aR 121 1 118 120,ay 122 121,aD 123 2 14,ay 124 123,((some 125),.op (.build [(.val (.int .i64 0)),(.emp 1),(.val (.int .i64 0))] [(0,1,(.tmp 122)),(2,1,(.tmp 124))])),((some 15),.op (.alloc [(.val (.int .i64 0)),(.emp 1),(.val (.int .i64 0))])),(none,.op (.store 3 (.tmp 15) (.tmp 125)))]) <|
 .seq (.seq (ao [bj 16 0]) <|
 .block 6 (.loop lR)) <|
 ao [aD 152 2 7,ay 153 152,bp 154 3 15,((some 155),.op (.cw 1 3 [(.val (.int .i64 0)),(.emp 1),(.val (.int .i64 0))] [(0,(.tmp 154))])),((some 156),.op (.app 3 40 (.tmp 153) (.tmp 155))),aD 157 2 7,(none,.op (.store 1 (.tmp 157) (.tmp 156)))])) <|
 ao [aj 108 13,aQ 109 .add 108 1,aj 13 109]
def nS:SF:=⟨.seq (ao [cO 1 0,((some 2),.op (.alloc [(.emp 1),(.emp 1),(.emp 1),(.val (.int .i64 0))])),((some 3),.op (.bP (.val (.emp 1)))),bj 4 0]) <|
 .seq (.seq (ao [bp 18 4 1,bD 19 54 [18],dp 20 19]) <|
 .cond (.tmp 20) (.seq (ao [((some 21),.op (.build [(.emp 1),(.emp 1),(.emp 1),(.val (.int .i64 0))] [])),(none,.op (.store 4 (.tmp 2) (.tmp 21))),((some 3),.op (.bP (.val (.emp 1)))),bj 4 1]) <|
 .ret) (.skip)) <|
 .seq (.region true [⟨none,[bp 22 4 1,bD 23 115 [22],bp 24 4 1,bD 25 116 [24],aj 5 23,aj 6 25]⟩]) <|
 .seq (.seq (ao [aj 26 5,aD 27 3 1,ay 28 27,aR 29 1 26 28,ay 30 29,dp 31 30]) <|
 .cond (.tmp 31) (.seq (ao [((some 32),.op (.build [(.emp 1),(.emp 1),(.emp 1),(.val (.int .i64 0))] [])),(none,.op (.store 4 (.tmp 2) (.tmp 32))),((some 3),.op (.bP (.val (.emp 1)))),bj 4 9]) <|
 .ret) (.skip)) <|
 .seq (ao [((some 33),.op (.bP (.val (.emp 2)))),aD 34 0 1,ay 35 34,((some 36),.op (.app 3 32 (.tmp 33) (.tmp 35))),((some 37),.op (.build [(.emp 1),(.emp 1),(.emp 1),(.val (.int .i64 0))] [(0,1,(.tmp 36))])),((some 7),.op (.alloc [(.emp 1),(.emp 1),(.emp 1),(.val (.int .i64 0))])),(none,.op (.store 4 (.tmp 7) (.tmp 37)))]) <|
 .seq (ao [aD 38 1 1,ay 39 38,aV 40 39,((some 41),.op (.make 1 8 [(.val (.int .i64 0))] (.tmp 40) (.tmp 40))),aj 8 41]) <|
 .seq (.seq (ao [bj 9 0]) <|
 .block 0 (.loop lW)) <|
 .seq (ao [((some 10),.op (.bP (.val (.emp 1))))]) <|
 .seq (.seq (ao [bj 11 0]) <|
 .block 2 (.loop lO)) <|
 .seq (.seq (ao [bj 13 0]) <|
 .block 4 (.loop lU)) <|
 .seq (ao [aj 158 8,aD 159 3 1,ay 160 159,aR 161 1 158 160,ay 162 161,aD 163 3 7,(none,.op (.store 1 (.tmp 163) (.tmp 162)))]) <|
 .seq (ao [bp 164 4 7,aj 165 10,(none,.op (.store 4 (.tmp 2) (.tmp 164))),aj 3 165,bj 4 0]) <|
 .ret,
 [.cell 2 (some 4),.tmp 3,.tmp 4],166⟩
theorem sT:aU Tryz.prog 70 [1]=some nS:=by kernel_rfl
abbrev bZ (l:List Int):List (List V):=l.map fun x=>[gi x]
abbrev j7 (l:List ByteArray):List (List V):=l.map fun s=>[gs s]
theorem kJ {l:List Int} {i:Nat} (h:i < l.length):(bZ l).getD i []=[gi l[i]]:=by simp[T0,h]
theorem ints_set (l:List Int) (i:Nat) (x:Int):(bZ l).set i [gi x]=bZ (l.set i x):=by simp[Vp]
theorem Q5 {l:List Int} (h:0 < l.length):bZ l≠[]:=by intro e; rw[List.map_eq_nil_iff] at e; rw[e] at h; simp at h
theorem xb {α:Type} {x:α} : ∀ {l:List α} {i:Nat},i < l.length→(l.set i x).take (i+1)=l.take i ++ [x]
 | y :: l,0,_=>by simp
 | y :: l,i+1,h=>by
  have:=xb (x:=x) (l:=l) (i:=i) (by simpa using h)
  simp only[List.set_cons_succ,VJ,this,UI]
def fg (n:Nat) (o:List Int):List Int:=(List.range n).map fun (x:Nat)=>bQ o (x:Int)
theorem Q4 (n:Nat):fg n []=List.replicate n (-1):=by
 apply List.ext_getElem
 ·simp[fg]
 ·intro i h1 h2
  simp[fg,bQ,cB]
theorem zl {n:Nat} {o:List Int} {x:Int} (h0:0≤x) (h1:x < n):(fg n o)[x.toNat]'(by simp[fg]; omega)=bQ o x:=by
 simp[fg,show ((x.toNat:Nat):Int)=x by omega]
theorem Qy {n:Nat} {o:List Int} {x:Int} (h0:0≤x) (h1:x < n) (hx:x ∉ o):(fg n o).set x.toNat o.length=fg n (o ++ [x]):=by
 apply List.ext_getElem
 ·simp[fg]
 ·intro i h2 h3
  rw[List.getElem_set]
  simp only[fg,List.getElem_map,List.getElem_range]
  rw[Mi hx]
  by_cases e:x.toNat=i
  ·rw[T9 e,T9 (by omega)]
  ·rw[T6 e,T6 (by omega)]
abbrev zE:=List (V × aW)
def gW (b:zE):List (List V):=b.map fun x=>[gi x.2.left,x.1,gi x.2.prec]
def lZ (b:zE):List cF:=b.map fun x=>(x.1,1,bZ x.2.right)
theorem NC {h:aJ} {u:V} {b:zE} (ho:bf h.view u 3 (gW b)) (hb:∀ x∈lZ b,bf h.view x.1 x.2.1 x.2.2):er h u (.aL ((b.map (·.2)).map aP)):=by
 refine er.own ho (by simp[gW]) (fun i hi=>?_) (fun i j hi hj=>?_)
 all_goals
  simp only[gW,Uc] at hi
  have e1:(gW b).getD i []=[gi b[i].2.left,b[i].1,gi b[i].2.prec]:=by simp[gW,T0,hi]
  have e2:((b.map (·.2)).map aP).getD i []=aP b[i].2:=by simp[T0,hi]
 ·rw[e1,e2]; rfl
 ·rw[e1,e2]
  rw[e2] at hj
  have hm:b[i]∈b:=Ud _
  have ho:=hb (b[i].1,1,bZ b[i].2.right) (Ur.2 ⟨_,hm,rfl⟩)
  match j,hj with
  | 0,_=>exact .val _
  | 1,_=>exact mw ho
  | 2,_=>exact .val _
  | n+3,hj=>exact absurd hj (by simp only[aP,Um,UG]; omega)
theorem O0 {h:aJ} {u:V} {l:List ByteArray} (ho:bf h.view u 1 (j7 l)):er h u (encS l):=er.On (f:=Value.string) ho
theorem Nf {h:aJ} {u:V} {l:List Term} (ho:bf h.view u 3 (l.map cg)):er h u (eC l):=by
 refine er.own ho rfl (fun _ _=>rfl) (fun i j hi hj=>?_)
 simp only[Uc] at hi
 have e1:(l.map cg).getD i []=cg l[i]:=by simp[T0,hi]
 rw[e1] at hj ⊢
 match j,hj with
 | 0,_=>exact .val _
 | 1,_=>exact .val _
 | 2,_=>exact .val _
 | n+3,hj=>exact absurd hj (by simp only[cg,Um,UG]; omega)
def vT (x:aw × List Int × Int):V:=.bE [.agg (au x.1),encI x.2.1,gi x.2.2]
theorem vK {h:aJ} {e:Int} {k1 k2 k3 k4:Nat} : er h (.bE [.agg [.emp k1,.emp k2,.emp k3,gi 0],.emp k4,gi e]) (vT (uB,[],e)):=by
 refine .bE _ _ rfl fun i hi=>?_
 match i,hi with
 | 0,_ =>
  refine .agg _ _ rfl fun j hj=>?_
  match j,hj with
  | 0,_=>exact .emp _
  | 1,_=>exact .emp _
  | 2,_=>exact .emp _
  | 3,_=>exact .val _
  | n+4,hj=>exact absurd hj (by simp only[Um,UG]; omega)
 | 1,_=>exact .emp _
 | 2,_=>exact .val _
 | n+3,hi=>exact absurd hi (by simp only[Um,UG]; omega)
def RS (g:aw) (p q:List Bool) (b2 b7 b8:Nat) (u0:V) (i:Nat) (T:Env) (H:View):Prop :=
 (∃ u1 u3:V,T 10=u3∧(∀ x∈cn p q (g.rules.take i),0≤x∧x < g.ax.length)∧(cn p q (g.rules.take i)).Nodup∧(cn p q (g.rules.take i)).length≤i ∧
  bt H [(.sl b7 0 1 4,4,[[u0,u1,.emp 1,gi 0]]),(.sl b8 0 g.ax.length 1,1,bZ (fg g.ax.length (cn p q (g.rules.take i)))),(u3,1,bZ (cZ p q (g.rules.take i) 0)),
   (u1,1,j7 ((cn p q (g.rules.take i)).map fun x=>g.ax.getD x.toNat ⟨#[]⟩)),(u0,3,g.az.map cg),(.sl b2 0 1 4,4,[[.emp 1,.emp 1,.emp 1,gi 0]])]) ∧
 T 1=.aO (au g) 0∧T 2=.ptr b2 0 0∧T 5=bI p∧T 6=bI q∧T 7=.ptr b7 0 0∧T 8=.sl b8 0 g.ax.length 1∧T 11=gi i
def SP (g:aw) (p q:List Bool) (b2 b7 b8:Nat) (u0 u1 u3:V) (o kl:List Int) (i:Nat) (T:Env) (H:View):Prop :=
 (∃ (u2:V) (bs:zE),bs.map (·.2)=((g.rules.filter (b6 p q)).take i).map (bT (bQ o)) ∧
  bt H ((.sl b7 0 1 4,4,[[u0,u1,u2,gi 0]]) :: (.sl b8 0 g.ax.length 1,1,bZ (fg g.ax.length o)) :: (u3,1,bZ kl) ::
   (u1,1,j7 (o.map fun x=>g.ax.getD x.toNat ⟨#[]⟩)) :: (u0,3,g.az.map cg) :: (u2,3,gW bs) :: (.sl b2 0 1 4,4,[[.emp 1,.emp 1,.emp 1,gi 0]]) :: lZ bs)) ∧
 T 1=.aO (au g) 0∧T 2=.ptr b2 0 0∧T 7=.ptr b7 0 0∧T 8=.sl b8 0 g.ax.length 1∧T 10=u3∧T 13=gi i
def TA (g:aw) (b2 b7 b8 b14 b15:Nat) (u3:V) (o:List Int) (r:aW) (L:List cF) (i k:Nat) (T:Env) (H:View):Prop :=
 (∃ v:V,bt H ((.sl b15 0 1 3,3,[[gi (bQ o r.left),v,gi r.prec]]) :: (v,1,bZ ((bT (bQ o) r).right.take k)) :: (.sl b14 0 1 3,3,[aP r]) :: L)) ∧
 T 1=.aO (au g) 0∧T 2=.ptr b2 0 0∧T 7=.ptr b7 0 0∧T 8=.sl b8 0 g.ax.length 1∧T 10=u3∧T 13=gi i∧T 14=.ptr b14 0 0∧T 15=.ptr b15 0 0∧T 16=gi k
theorem JR {h:aJ} {u0 u1 u2 u3:V} {x:aw × List Int × Int} {b:zE} (h0:bf h.view u0 3 (x.1.az.map cg)) (h1:bf h.view u1 1 (j7 x.1.ax)) (h2:bf h.view u2 3 (gW b)) (hb:∀ y∈lZ b,bf h.view y.1 y.2.1 y.2.2)
  (hr:b.map (·.2)=x.1.rules) (h3:bf h.view u3 1 (bZ x.2.1)):er h (.bE [.agg [u0,u1,u2,gi x.1.start],u3,gi x.2.2]) (vT x):=by
 refine .bE _ _ rfl fun i hi=>?_
 match i,hi with
 | 0,_ =>
  refine .agg _ _ rfl fun j hj=>?_
  match j,hj with
  | 0,_=>exact Nf h0
  | 1,_=>exact O0 h1
  | 2,_=>have:=NC h2 hb; rw[hr] at this; exact this
  | 3,_=>exact .val _
  | n+4,hj=>exact absurd hj (by simp only[Um,UG]; omega)
 | 1,_=>exact mw h3
 | 2,_=>exact .val _
 | n+3,hi=>exact absurd hi (by simp only[Um,UG]; omega)
set_option maxHeartbeats 8000000 in
theorem Io (g:aw) (hg:g.Ok):cX Tryz.prog 70 [.agg (au g)] (vT (fy g)):=by
 refine cX.of (ef g) ?_
 refine aC.of mixed sT ?_
 simp (disch:=omega) only [↓wr,seval,wq,ah,ag,ak,aa,ab,af,ai,ae,nS,au,encS]
 intro b2
 try simp (disch:=omega) only [↓wr,seval,wq,ah,ag,ak,aa,ab,af,ai,ae,au,encS]
 refine aE.pure (kY g hg) (by kernel_rfl) ?_
 repeat' (first | (refine av.dec (fun _=>?_) (fun _=>?_)) | (refine av.eq (fun _=>?_) (fun _=>?_)) | (refine av.ne (fun _=>?_) (fun _=>?_)) | (refine av.split (fun _=>?_) (fun _=>?_)) | (simp (disch:=omega) only [↓wr,seval,wq,ah,ag,ak,aa,ab,af,ai,ae,au,encS,set_set]))
 ·rename_i hr
  refine aE.pure (th g hg) (by kernel_rfl) ?_
  simp (disch:=omega) only [↓wr,seval,wq,ah,ag,ak,aa,ab,af,ai,ae,au,encS]
  refine aE.pure (Df g hg).pure (by kernel_rfl) ?_
  have hf:=bM hr
  have h3:=hf.iX
  have h4:=hf.start
  have hpl:=eV hr true
  have hql:=p7 hr
  have hred:=kK hr
  generalize aA g true=p at hpl hred
  generalize bS g=q at hql hred
  have hps:p[g.start.toNat]?=some (p[g.start.toNat]'(by omega)):=T4 (by omega)
  have hpd:p.getD g.start.toNat false=p[g.start.toNat]'(by omega):=by simp[T0,hps]
  generalize p[g.start.toNat]'(by omega)=s at hps hpd
  rw[hpd] at hred
  simp (disch:=omega) only [↓wr,seval,wq,ah,ag,ak,aa,ab,af,ai,ae,au,encS,bI,T8,hps]
  cases s with
  | false =>
   rw[T6 (by simp)] at hred
   simp (disch:=omega) only [↓wr,seval,wq,ah,ag,ak,aa,ab,af,ai,ae,au,encS,set_set]
   rintro h' hh
   rw[hred]
   exact vK
  | true =>
   rw[T9 rfl] at hred
   simp (disch:=omega) only [↓wr,seval,wq,ah,ag,ak,aa,ab,af,ai,ae,au,encS,set_set]
   have hN:=hf.ax
   have hN1:=hf.mc
   have hT:=hf.az
   have hR:=hf.rules
   refine c6 (L:=[(.sl b2 0 1 4,4,[[.emp 1,.emp 1,.emp 1,gi 0]])]) (bt.emp (bt.nil.new rfl 4 _)) (by simp[cg,aX]) (by unfold aK; simp; omega) (by unfold aK; simp; omega) ?_
   intro u0 H1 ho1 _
   have c0:=ho1.head.cells
   have k0:=ho1.head.jt
   simp (disch:=omega) only [↓wr,seval,wq,ah,ag,ak,aa,ab,af,ai,ae,au,encS,c0,k0]
   intro b7 hb7
   have ho2:=ho1.new hb7 4 [[u0,.emp 1,.emp 1,gi 0]]
   try simp (disch:=omega) only [↓wr,seval,wq,ah,ag,ak,aa,ab,af,ai,ae,au,encS,c0,k0,set_set]
   refine ⟨⟨by omega,by unfold aK; omega,by unfold aK; omega⟩,fun h=>by omega,?_⟩
   intro _ b8 hb8
   have hb87:=(dq hb8 dc).1
   have ho3:=ho2.new (n:=b8) (by simp only[View.set,T6 hb87]; exact (dq (dq hb8 dc).2 dc).2) 1 (bZ (List.replicate g.ax.length 0))
   try simp (disch:=omega) only [↓wr,seval,wq,ah,ag,ak,aa,ab,af,ai,ae,au,encS,c0,k0,set_set]
   refine bc.up g.ax.length (fun i T H=>(∃ l:List Int,l.length=g.ax.length∧l.take i=List.replicate i (-1) ∧
    bt H [(.sl b8 0 g.ax.length 1,1,bZ l),(.sl b7 0 1 4,4,[[u0,.emp 1,.emp 1,gi 0]]),(u0,3,g.az.map cg),(.sl b2 0 1 4,4,[[.emp 1,.emp 1,.emp 1,gi 0]])]) ∧
    T 1=.aO (au g) 0∧T 2=.ptr b2 0 0∧T 5=bI p∧T 6=bI q∧T 7=.ptr b7 0 0∧T 8=.sl b8 0 g.ax.length 1∧T 9=gi i) ?_ ?_
   ·exact ⟨⟨List.replicate g.ax.length 0,by simp,by simp,by simpa [set_set] using ho3⟩,rfl,rfl,rfl,rfl,rfl,rfl,rfl⟩
   rintro i k T H2 hk ⟨⟨l,hl1,hl2,ho⟩,t1,t2,t5,t6,t7,t8,t9⟩
   simp (disch:=omega) only [↓wr,seval,wq,ah,ag,ak,aa,ab,af,ai,ae,lW,t1,t2,t5,t6,t7,t8,t9]
   refine av.dec (fun hc=>?_) (fun hc=>?_)
   ·have hne:bZ l≠[]:=by intro e; rw[List.map_eq_nil_iff] at e; rw[e] at hl1; simp at hl1; omega
    have hb:=(ho.obj hne).1
    have hbg:=kJ (show i < l.length by omega)
    simp (disch:=omega) only [↓wr,seval,wq,ah,ag,ak,aa,ab,af,ai,ae,t1,t2,t5,t6,t7,t8,t9,hb,hbg,Uc]
    refine ⟨by omega,by omega,?_⟩
    refine aN hk (by omega) ⟨⟨l.set i (-1),by simp[hl1],?_,?_⟩,t1,t2,t5,t6,t7,t8,rfl⟩
    ·rw[xb (by omega),hl2,List.replicate_succ']
    ·rw[ints_set]
     exact ho.put (by simp) (by simp[hl1])
   ·rw[Uo (by omega)] at hl2
    rw[hl2] at ho
    have ei:i=g.ax.length:=by omega
    subst ei
    simp (disch:=omega) only [↓wr,seval,wq,ah,ag,ak,aa,ab,af,ai,ae,t1,t2,t5,t6,t7,t8,t9]
    have name_in:∀ o:List Int,(o.map fun x=>g.ax.getD x.toNat ⟨#[]⟩).length=o.length:=fun o=>by simp
    refine bc.up g.rules.length (RS g p q b2 b7 b8 u0) ?_ ?_
    ·refine ⟨⟨.emp 1,.emp 1,rfl,by simp[cn],by simp[cn],by simp[cn],?_⟩,t1,t2,t5,t6,t7,t8,rfl⟩
     have h4:=((((ho.emp (k:=1) (sz:=1)).emp (k:=1) (sz:=1)).at 3 (by simp)).perm (Li.symm.cons _))
     have e0:cn p q (g.rules.take 0)=[]:=rfl
     rw[e0,Q4]
     exact h4
    clear ho t1 t2 t5 t6 t7 t8 t9 hl1 hl2
    rintro i k T H2 hk ⟨⟨u1,u3,t10,hin,hnd,holen,ho⟩,t1,t2,t5,t6,t7,t8,t11⟩
    simp (disch:=omega) only [↓wr,seval,wq,ah,ag,ak,aa,ab,af,ai,ae,lO,t1,t2,t5,t6,t7,t8,t10,t11,au]
    refine av.dec (fun hc=>?_) (fun hc=>?_)
    ·have hg2:g.rules[i]?=some (g.rules[i]'(by omega)):=T4 (by omega)
     have hmem:g.rules[i]'(by omega)∈g.rules:=Ud _
     have htk:g.rules.take (i+1)=g.rules.take i ++ [g.rules[i]'(by omega)]:=by rw[Uw,hg2]; rfl
     generalize g.rules[i]'(by omega)=r at hg2 hmem htk
     obtain ⟨hl1,hl2,hl3,hr6,hsy⟩:=hf.sr hg hmem
     have hqs:q[r.left.toNat]?=some (q[r.left.toNat]'(by omega)):=T4 (by omega)
     have j8:q.getD r.left.toNat false=q[r.left.toNat]'(by omega):=by simp[T0,hqs]
     generalize q[r.left.toNat]'(by omega)=qs at hqs j8
     simp (disch:=omega) only [↓wr,seval,wq,ah,ag,ak,aa,ab,af,ai,ae,t1,t2,t5,t6,t7,t8,t10,t11,au,aP,T8,hg2]
     intro b12 hb12
     have hoA:=ho.new hb12 3 [aP r]
     try simp (disch:=omega) only [↓wr,seval,wq,ah,ag,ak,aa,ab,af,ai,ae,t1,t2,t5,t6,t7,t8,t10,t11,aP,encI,bI,T8,hqs,set_set]
     have hskip:∀ (T2:Env) (H':View),b6 p q r=false→H'=H2.set b12 (.arr 3 [aP r])→T2 10=u3→T2 1=.aO (au g) 0→T2 2=.ptr b2 0 0→T2 5=bI p→T2 6=bI q→T2 7=.ptr b7 0 0→T2 8=.sl b8 0 g.ax.length 1→T2 11=gi ((i:Int)+1) →
       ∃ k',k' < k∧DH g.rules.length k' (RS g p q b2 b7 b8 u0) T2 H':=by
      intro T2 H' hkr hH' a10 a1 a2 a5 a6 a7 a8 a11
      have e1:cn p q (g.rules.take (i+1))=cn p q (g.rules.take i):=by rw[htk,tc,T6 (by simp[hkr])]
      have e2:cZ p q (g.rules.take (i+1)) 0=cZ p q (g.rules.take i) 0:=by rw[htk,kG]; simp[cZ,hkr]
      refine aN hk (by omega) ⟨⟨u1,u3,a10,by rw[e1]; exact hin,by rw[e1]; exact hnd,by rw[e1]; omega,by rw[e1,e2,hH']; exact hoA.tail⟩,a1,a2,a5,a6,a7,a8,by rw[a11]; rfl⟩
     cases qs with
     | false =>
      simp (disch:=omega) only [↓wr,seval,wq,ah,ag,ak,aa,ab,af,ai,ae,t1,t2,t5,t6,t7,t8,t10,t11]
      refine hskip _ _ (by rw[b6,j8]; rfl) ?_ ?_ ?_ ?_ ?_ ?_ ?_ ?_ ?_
      all_goals first | exact t10 | exact t1 | exact t2 | exact t5 | exact t6 | exact t7 | exact t8 | rfl | (rw[set_set]; rfl)
     | true =>
      simp (disch:=omega) only [↓wr,seval,wq,ah,ag,ak,aa,ab,af,ai,ae,t1,t2,t5,t6,t7,t8,t10,t11,aP,encI,bI]
      refine aE.pure (Hz r.right p true (hg.aH r hmem).2.2.1 (fun s hs=>⟨(hsy s hs).1,fun h=>by rw[hpl]; exact (hsy s hs).2 h⟩)) (by kernel_rfl) ?_
      simp (disch:=omega) only [↓wr,seval,wq,ah,ag,ak,aa,ab,af,ai,ae,t1,t2,t5,t6,t7,t8,t10,t11]
      refine av.split (fun hal=>?_) (fun hal=>?_)
      ·simp (disch:=omega) only [↓wr,seval,wq,ah,ag,ak,aa,ab,af,ai,ae,t1,t2,t5,t6,t7,t8,t10,t11]
       have hkr:b6 p q r=true:=by rw[b6,j8,hal]; rfl
       intro m hm
       try simp (disch:=omega) only [↓wr,seval,wq,ah,ag,ak,aa,ab,af,ai,ae,t1,t2,t5,t6,t7,t8,t10,t11,cb]
       have hm12:=(dq hm dc).1
       have hm:=(dq (dq hm dc).2 dc).2
       have hoB:=(hoA.fresh (n:=m) (o:=.arr 1 [[gi i]]) (by simp only[View.set,T6 hm12]; exact hm)).at 3 (by simp)
       have hkl:(cZ p q (g.rules.take i) 0).length≤40:=by
        rw[kq]
        have h1:=UW (b6 p q) (g.rules.take i)
        have h2:(g.rules.take i).length≤i:=List.length_take_le _ _
        have:=hf.rules
        omega
       refine c6 (by rw[set_set]; exact hoB) (by simp[aX]) (by unfold aK; simp at hkl ⊢; omega) (by unfold aK; simp at hkl ⊢; omega) ?_
       intro u3' H3 ho3 _
       have f12:=((ho3.at 1 (by simp)).obj (by simp)).1
       have f7:=((ho3.at 2 (by simp)).obj (by simp)).1
       have f8:=((ho3.at 3 (by simp)).obj (Q5 (by simp[fg]; omega))).1
       have hu1:cG u1=some (j7 ((cn p q (g.rules.take i)).map fun x=>g.ax.getD x.toNat ⟨#[]⟩)).length:=(ho3.at 4 (by simp)).head.len
       have hbg:=kJ (l:=fg g.ax.length (cn p q (g.rules.take i))) (i:=r.left.toNat) (by simp[fg]; omega)
       rw[zl hl2 hl3] at hbg
       simp only[aP,encI] at f12
       simp (disch:=omega) only [↓wr,seval,wq,ah,ag,ak,aa,ab,af,ai,ae,t1,t2,t5,t6,t7,t8,t11,f12,f7,f8,hbg]
       refine ⟨by omega,by simp[fg]; omega,?_⟩
       have e2:cZ p q (g.rules.take (i+1)) 0=cZ p q (g.rules.take i) 0 ++ [(i:Int)]:=by
        rw[htk,kG]; simp[cZ,hkr,show i≤g.rules.length by omega]
       have e1:cn p q (g.rules.take (i+1))=fQ (cn p q (g.rules.take i)) r:=by rw[htk,tc,T9 hkr]
       generalize cn p q (g.rules.take i)=o at *
       generalize cZ p q (g.rules.take i) 0=kl at *
       refine av.dec (fun hlt=>?_) (fun hlt=>?_)
       ·have hx:r.left ∉ o:=rU.1 hlt
        have e1':fQ o r=o ++ [r.left]:=by rw[fQ,T6 hx]
        have hne78:b7≠b8:=ho3.DB 2 3 rfl rfl (by omega)
        have hne12:b12≠b8:=ho3.DB 1 3 rfl rfl (by omega)
        have hgn:g.ax[r.left.toNat]?=some (g.ax[r.left.toNat]'(by omega)):=T4 (by omega)
        have hgnd:g.ax.getD r.left.toNat ⟨#[]⟩=g.ax[r.left.toNat]'(by omega):=by simp[T0,hgn]
        generalize g.ax[r.left.toNat]'(by omega)=nm at hgn hgnd
        simp (disch:=omega) only [↓wr,seval,wq,ah,ag,ak,aa,ab,af,ai,ae,t1,t2,t5,t6,t7,t8,t11,f12,f7,f8,hbg,hu1,Uc]
        try refine ⟨by omega,by simp[fg]; omega,?_⟩
        try simp (disch:=omega) only [↓wr,seval,wq,ah,ag,ak,aa,ab,af,ai,ae,t1,t2,t5,t6,t7,t8,t11,f12,f7,f8,hbg,hu1,Uc,hne78,hne12,au,encS,T8,hgn]
        intro m2 hm2
        have hm28:=(dq hm2 dc).1
        have hm2:=(dq hm2 dc).2
        have hes:(bZ (fg g.ax.length o)).set r.left.toNat [gi o.length]=bZ (fg g.ax.length (o ++ [r.left])):=by rw[ints_set,Qy hl2 hl3 hx]
        have ho4:=(ho3.at 3 (by simp)).put (es':=(bZ (fg g.ax.length o)).set r.left.toNat [gi o.length]) (by simp) (by simp[fg])
        have ho5:=(ho4.fresh (n:=m2) (o:=.arr 1 [[gs nm]]) (by simp only[View.set,T6 hm28]; exact hm2)).at 4 (by simp)
        have hN16:o.length≤40:=by omega
        try simp (disch:=omega) only [↓wr,seval,wq,ah,ag,ak,aa,ab,af,ai,ae,t1,t2,t5,t6,t7,t8,t11,f12,f7,f8,hbg,hu1,Uc,hne78,hne12,cb]
        refine c6 ho5 (by simp[aX]) (by unfold aK; simp; omega) (by unfold aK; simp; omega) ?_
        intro u1' H5 ho6 _
        have c1:=ho6.head.cells
        have k1:=ho6.head.jt
        have f7':=((ho6.at 4 (by simp)).obj (by simp)).1
        simp (disch:=omega) only [↓wr,seval,wq,ah,ag,ak,aa,ab,af,ai,ae,t1,t2,t5,t6,t7,t8,t11,f7',c1,k1]
        have ho7:=(ho6.at 4 (by simp)).put (es':=[[u0,u1',.emp 1,gi 0]]) rfl rfl
        have ho8:=(((ho7.at 4 (by simp)).tail).perm (Li.cons _))
        refine aN hk (by omega) ⟨⟨u1',u3',rfl,?_,?_,?_,?_⟩,t1,t2,t5,t6,t7,t8,rfl⟩
        ·rw[e1,e1']; intro x hx'; rcases Uy.1 hx' with h | h
         ·exact hin x h
         ·simp at h; subst h; exact ⟨hl2,hl3⟩
        ·rw[e1]; exact Ch hnd
        ·rw[e1,e1']; simp; omega
        ·rw[e1,e1',e2]
         have:=ho8
         rw[hes] at this
         simp only[UA,Uz,VD,hgnd]
         exact this
       ·have hx:r.left∈o:=by
         refine Vs fun h=>?_
         have:=rU.2 h
         omega
        have e1':fQ o r=o:=by rw[fQ,T9 hx]
        simp (disch:=omega) only [↓wr,seval,wq,ah,ag,ak,aa,ab,af,ai,ae,t1,t2,t5,t6,t7,t8,t11]
        have ho4:=(((ho3.at 1 (by simp)).tail).perm Li)
        refine aN hk (by omega) ⟨⟨u1,u3',rfl,?_,?_,?_,?_⟩,t1,t2,t5,t6,t7,t8,rfl⟩
        ·rw[e1,e1']; exact hin
        ·rw[e1,e1']; exact hnd
        ·rw[e1,e1']; omega
        ·rw[e1,e1',e2]
         simp only[UA,Uz,VD]
         exact ho4
      ·simp (disch:=omega) only [↓wr,seval,wq,ah,ag,ak,aa,ab,af,ai,ae,t1,t2,t5,t6,t7,t8,t10,t11]
       refine hskip _ _ (by rw[b6,j8,hal]; rfl) ?_ ?_ ?_ ?_ ?_ ?_ ?_ ?_ ?_
       all_goals first | exact t10 | exact t1 | exact t2 | exact t5 | exact t6 | exact t7 | exact t8 | rfl | (rw[set_set]; rfl)
    ·rw[Uo (by omega)] at ho hin hnd holen
     have hkl40:(cZ p q g.rules 0).length≤40:=by
      rw[kq]; have h1:=UW (b6 p q) g.rules; omega
     have hkg:=s9 p q g.rules 0
     have hkln:=kq p q g.rules 0
     have hstin:g.start.toNat < (fg g.ax.length (cn p q g.rules)).length:=by simp[fg]; omega
     have hstb:=kJ hstin
     rw[zl h3 h4] at hstb
     have hrg:pF g (bQ (cn p q g.rules)) p q=⟨g.az,(cn p q g.rules).map fun x=>g.ax.getD x.toNat ⟨#[]⟩,(g.rules.filter (b6 p q)).map (bT (bQ (cn p q g.rules))),bQ (cn p q g.rules) g.start⟩:=rfl
     rw[hrg] at hred
     clear hrg
     generalize cn p q g.rules=o at *
     generalize cZ p q g.rules 0=kl at *
     simp (disch:=omega) only [↓wr,seval,wq,ah,ag,ak,aa,ab,af,ai,ae,t1,t2,t5,t6,t7,t8,t10,t11]
     refine bc.up kl.length (SP g p q b2 b7 b8 u0 u1 u3 o kl) ?_ ?_
     ·refine ⟨⟨.emp 1,[],by simp,?_⟩,t1,t2,t7,t8,t10,rfl⟩
      exact (ho.emp (k:=1) (sz:=3)).perm (rI [(.sl b7 0 1 4,4,[[u0,u1,.emp 1,gi 0]]),(.sl b8 0 g.ax.length 1,1,bZ (fg g.ax.length o)),(u3,1,bZ kl),(u1,1,j7 (o.map fun x=>g.ax.getD x.toNat ⟨#[]⟩)),(u0,3,g.az.map cg),(.emp 1,3,[]),(.sl b2 0 1 4,4,[[.emp 1,.emp 1,.emp 1,gi 0]])] 5 (by simp)).symm
     clear ho t1 t2 t5 t6 t7 t8 t10 t11
     rintro i k T H2 hk ⟨⟨u2,bs,hbs,ho⟩,t1,t2,t7,t8,t10,t13⟩
     have hu3:cG u3=some (bZ kl).length:=(ho.own 2 rfl).len
     simp (disch:=omega) only [↓wr,seval,wq,ah,ag,ak,aa,ab,af,ai,ae,lU,t1,t2,t7,t8,t10,t13,hu3,Uc]
     refine av.dec (fun hc=>?_) (fun hc=>?_)
     ·obtain ⟨n3,e3,hn3⟩:=(ho.own 2 rfl).sl (by simp; omega)
      rw[Uc] at e3
      subst e3
      obtain ⟨m,hm1,hm2,hm3⟩:=hkg i (by omega)
      have hbg:=kJ (show i < kl.length by omega)
      rw[Int.zero_add] at hm1
      have hki:kl[i]'(by omega)=(m:Int):=by
       rw[T4 (show i < kl.length by omega)] at hm1; simpa using hm1
      rw[hki] at hbg
      have hg2:g.rules[m]?=some (g.rules[m]'hm3):=T4 hm3
      have hmem:g.rules[m]'hm3∈g.rules:=Ud _
      have htk:(g.rules.filter (b6 p q)).take (i+1)=(g.rules.filter (b6 p q)).take i ++ [g.rules[m]'hm3]:=by
       rw[Uw,← hm2,hg2]; rfl
      generalize g.rules[m]'hm3=r at hg2 hmem htk
      obtain ⟨hl1,hl2,hl3,hr6,hsy⟩:=hf.sr hg hmem
      simp (disch:=omega) only [↓wr,seval,wq,ah,ag,ak,aa,ab,af,ai,ae,t1,t2,t7,t8,t10,t13,hn3,hbg,Uc,au,aP,T8,hg2]
      refine ⟨by omega,by omega,?_⟩
      intro b14 hb14
      have hoA:=ho.new hb14 3 [aP r]
      have f8:=hoA.is 2 rfl (by simp[fg]; omega)
      have hbg2:=kJ (l:=fg g.ax.length o) (i:=r.left.toNat) (by simp[fg]; omega)
      rw[zl hl2 hl3] at hbg2
      have hn814:b8≠b14:=hoA.DB 2 0 rfl rfl (by omega)
      have g8:H2 b8=.arr 1 (bZ (fg g.ax.length o)):=ho.is 1 rfl (by simp[fg]; omega)
      try simp (disch:=omega) only [↓wr,seval,wq,ah,ag,ak,aa,ab,af,ai,ae,t1,t2,t7,t8,t10,t13,g8,hn814,hbg2,Uc,set_set,encI]
      refine ⟨by omega,by simp[fg]; omega,?_⟩
      intro b15 hb15
      have hbne:=(dq hb15 dc).1
      have hb15:=(dq (dq hb15 dc).2 dc).2
      have hoB:=(((hoA.new (n:=b15) (by simp only[View.set,T6 hbne]; exact hb15) 3 [[gi (bQ o r.left),.emp 1,gi r.prec]]).emp (k:=1) (sz:=1)).perm (.swap _ _ _))
      generalize hL:((V.sl b7 0 1 4,4,[[u0,u1,u2,gi 0]]) :: (V.sl b8 0 g.ax.length 1,1,bZ (fg g.ax.length o)) :: (V.sl n3 0 kl.length 1,1,bZ kl) ::
       (u1,1,j7 (o.map fun x=>g.ax.getD x.toNat ⟨#[]⟩)) :: (u0,3,g.az.map cg) :: (u2,3,gW bs) :: (V.sl b2 0 1 4,4,[[V.emp 1,V.emp 1,V.emp 1,gi 0]]) :: lZ bs:List cF)=L at hoB
      have hL1:L[1]?=some (.sl b8 0 g.ax.length 1,1,bZ (fg g.ax.length o)):=by rw[← hL]; rfl
      try simp (disch:=omega) only [↓wr,seval,wq,ah,ag,ak,aa,ab,af,ai,ae,t1,t2,t7,t8,t10,t13,set_set]
      refine bc.up r.right.length (TA g b2 b7 b8 b14 b15 (.sl n3 0 kl.length 1) o r L i) ?_ ?_
      ·exact ⟨⟨.emp 1,by rw[set_set,set_set]; exact hoB⟩,t1,t2,t7,t8,t10,t13,rfl,rfl,rfl⟩
      clear hoA hoB f8 g8 hb14 hb15 t1 t2 t7 t8 t10 t13
      rintro k k2 T H3 hk2 ⟨⟨v,hoC⟩,t1,t2,t7,t8,t10,t13,t14,t15,t16⟩
      have f14:=hoC.is 2 rfl (by simp)
      have f15:=hoC.is 0 rfl (by simp)
      have f8:H3 b8=.arr 1 (bZ (fg g.ax.length o)):=hoC.is 4 (by simpa using hL1) (by simp[fg]; omega)
      simp only[aP] at f14
      simp (disch:=omega) only [↓wr,seval,wq,ah,ag,ak,aa,ab,af,ai,ae,lR,t1,t2,t7,t8,t10,t13,t14,t15,t16,f14,encI]
      refine av.dec (fun hcc=>?_) (fun hcc=>?_)
      ·have hgs:r.right[k]?=some (r.right[k]'(by omega)):=T4 (by omega)
       have hms:r.right[k]'(by omega)∈r.right:=Ud _
       have hts:(bT (bQ o) r).right.take (k+1)=(bT (bQ o) r).right.take k ++ [if r.right[k]'(by omega) < 0 then -1 - bQ o (-1 - r.right[k]'(by omega)) else r.right[k]'(by omega)]:=by
        rw[Uw]; simp[bT,hgs]
       have hlk:((bT (bQ o) r).right.take k).length≤6:=by
        have h1:(bT (bQ o) r).right.length=r.right.length:=by simp[bT]
        have h2:((bT (bQ o) r).right.take k).length≤(bT (bQ o) r).right.length:=by rw[UN]; omega
        omega
       generalize r.right[k]'(by omega)=s at hgs hms hts
       obtain ⟨⟨s1,s2⟩,s3⟩:=hsy s hms
       simp (disch:=omega) only [↓wr,seval,wq,ah,ag,ak,aa,ab,af,ai,ae,t1,t2,t7,t8,t10,t13,t14,t15,t16,f14,encI,T8,hgs]
       have hbd:=QW o (-1 - s)
       have hob:o.length≤40:=by omega
       refine av.dec (fun hneg=>?_) (fun hneg=>?_)
       ·rw[T9 hneg] at hts
        have hin1:=s3 hneg
        have hbg3:=kJ (l:=fg g.ax.length o) (i:=(-1 - s).toNat) (by simp[fg]; omega)
        rw[zl (by omega) hin1] at hbg3
        simp (disch:=omega) only [↓wr,seval,wq,ah,ag,ak,aa,ab,af,ai,ae,t1,t2,t7,t8,t10,t13,t14,t15,t16,f14,f15,f8,hbg3,Uc]
        refine ⟨by omega,by simp[fg]; omega,?_⟩
        intro m hm
        try simp (disch:=omega) only [↓wr,seval,wq,ah,ag,ak,aa,ab,af,ai,ae,t1,t2,t7,t8,t10,t13,t14,t15,t16,cb]
        have hoD:=(hoC.fresh (o:=.arr 1 [[gi (-1 - bQ o (-1 - s))]]) hm).at 1 (by simp)
        refine c6 hoD (by simp[aX]) (by unfold aK; simp at hlk ⊢; omega) (by unfold aK; simp at hlk ⊢; omega) ?_
        intro v' H4 hoE _
        have cv:=hoE.head.cells
        have kv:=hoE.head.jt
        have f15':=hoE.is 1 rfl (by simp)
        simp (disch:=omega) only [↓wr,seval,wq,ah,ag,ak,aa,ab,af,ai,ae,t1,t2,t7,t8,t10,t13,t14,t15,t16,f15',cv,kv]
        have hoF:=(hoE.at 1 (by simp)).put (es':=[[gi (bQ o r.left),v',gi r.prec]]) rfl rfl
        refine aN hk2 (by omega) ⟨⟨v',?_⟩,t1,t2,t7,t8,t10,t13,t14,t15,rfl⟩
        rw[hts]
        simp only[UA,Uz,VD]
        exact hoF
       ·rw[T6 hneg] at hts
        simp (disch:=omega) only [↓wr,seval,wq,ah,ag,ak,aa,ab,af,ai,ae,t1,t2,t7,t8,t10,t13,t14,t15,t16,f14,f15,f8]
        intro m hm
        try simp (disch:=omega) only [↓wr,seval,wq,ah,ag,ak,aa,ab,af,ai,ae,t1,t2,t7,t8,t10,t13,t14,t15,t16,cb]
        have hoD:=(hoC.fresh (o:=.arr 1 [[gi s]]) hm).at 1 (by simp)
        refine c6 hoD (by simp[aX]) (by unfold aK; simp at hlk ⊢; omega) (by unfold aK; simp at hlk ⊢; omega) ?_
        intro v' H4 hoE _
        have cv:=hoE.head.cells
        have kv:=hoE.head.jt
        have f15':=hoE.is 1 rfl (by simp)
        simp (disch:=omega) only [↓wr,seval,wq,ah,ag,ak,aa,ab,af,ai,ae,t1,t2,t7,t8,t10,t13,t14,t15,t16,f15',cv,kv]
        have hoF:=(hoE.at 1 (by simp)).put (es':=[[gi (bQ o r.left),v',gi r.prec]]) rfl rfl
        refine aN hk2 (by omega) ⟨⟨v',?_⟩,t1,t2,t7,t8,t10,t13,t14,t15,rfl⟩
        rw[hts]
        simp only[UA,Uz,VD]
        exact hoF
      ·rw[Uo (by simp[bT]; omega)] at hoC
       subst hL
       have f7:=hoC.is 3 rfl (by simp)
       have cv:=(hoC.own 1 rfl).cells
       have kv:=(hoC.own 1 rfl).jt
       have hbl:(gW bs).length≤40:=by
        have h1:=Vl List.length hbs
        simp only[Uc,UN] at h1
        simp only[gW,Uc]
        omega
       simp (disch:=omega) only [↓wr,seval,wq,ah,ag,ak,aa,ab,af,ai,ae,t1,t2,t7,t8,t10,t13,t14,t15,t16,f7,f15,cv,kv]
       intro m hm
       try simp (disch:=omega) only [↓wr,seval,wq,ah,ag,ak,aa,ab,af,ai,ae,t1,t2,t7,t8,t10,t13,t14,t15,t16,cb]
       have hoD:=(hoC.fresh (o:=.arr 3 [[gi (bQ o r.left),v,gi r.prec]]) hm).at 8 (by simp)
       refine c6 hoD (by simp[zD,kv]) (by unfold aK; simp at hbl ⊢; omega) (by unfold aK; simp at hbl ⊢; omega) ?_
       intro u2' H4 hoE _
       have cu:=hoE.head.cells
       have ku:=hoE.head.jt
       have f7':=hoE.is 4 rfl (by simp)
       simp (disch:=omega) only [↓wr,seval,wq,ah,ag,ak,aa,ab,af,ai,ae,t1,t2,t7,t8,t10,t13,t14,t15,t16,f7',cu,ku]
       have hoF:=(hoE.at 4 (by simp)).put (es':=[[u0,u1,u2',gi 0]]) rfl rfl
       have hoG:=((((hoF.at 2 (by simp)).tail).at 3 (by simp)).tail)
       refine aN hk (by omega) ⟨⟨u2',bs ++ [(v,bT (bQ o) r)],?_,?_⟩,t1,t2,t7,t8,t10,rfl⟩
       ·rw[UA,hbs,htk,UA]; rfl
       ·refine hoG.perm (.cons _ ?_)
        simp only[lZ,gW,UA,Uz,VD]
        refine .trans ?_ (rI _ 4 (by simp)).symm
        refine .cons _ ?_
        exact (List.perm_append_singleton (v,1,bZ (bT (bQ o) r).right) ((.sl b8 0 g.ax.length 1,1,bZ (fg g.ax.length o)) :: (.sl n3 0 kl.length 1,1,bZ kl) :: (u1,1,j7 (o.map fun x=>g.ax.getD x.toNat ⟨#[]⟩)) :: (u0,3,g.az.map cg) :: (.sl b2 0 1 4,4,[[.emp 1,.emp 1,.emp 1,gi 0]]) :: lZ bs)).symm
     ·rw[Uo (by omega)] at hbs
      have f7:=ho.is 0 rfl (by simp)
      have f8:H2 b8=.arr 1 (bZ (fg g.ax.length o)):=ho.is 1 rfl (by simp[fg]; omega)
      have f2:=ho.is 6 rfl (by simp)
      have n72:b7≠b2:=ho.DB 0 6 rfl rfl (by omega)
      have c1:=(ho.own 3 rfl).cells
      have k1:=(ho.own 3 rfl).jt
      have c2:=(ho.own 5 rfl).cells
      have k2:=(ho.own 5 rfl).jt
      simp (disch:=omega) only [↓wr,seval,wq,ah,ag,ak,aa,ab,af,ai,ae,t1,t2,t7,t8,t10,t13,f7,f8,f2,n72,n72.symm,hstb,c0,k0,c1,k1,c2,k2,au,Uc]
      refine ⟨by omega,by simp[fg]; omega,fun h' hh=>?_⟩
      have hoA:=ho.put (es':=[[u0,u1,u2,gi (bQ o g.start)]]) rfl rfl
      have hoB:=(hoA.at 6 (by simp)).put (es':=[[u0,u1,u2,gi (bQ o g.start)]]) rfl rfl
      have hv:h'.view=(H2.set b7 (.arr 4 [[u0,u1,u2,gi (bQ o g.start)]])).set b2 (.arr 4 [[u0,u1,u2,gi (bQ o g.start)]]):=hh
      rw[← hv] at hoB
      rw[hred]
      exact JR (x:=(⟨g.az,o.map fun x=>g.ax.getD x.toNat ⟨#[]⟩,(g.rules.filter (b6 p q)).map (bT (bQ o)),bQ o g.start⟩,kl,0)) (b:=bs) (hoB.own 5 rfl) (hoB.own 4 rfl) (hoB.own 6 rfl) (fun y hy=>hoB.1 y (by
       refine Ux _ (Ux _ (Ux _ (Ux _ (Ux _ (Ux _ (Ux _ ?_))))))
       exact hy)) hbs (hoB.own 3 rfl)
 ·rename_i hr
  intro h' hh
  rw[fy,T6 (by simp[hr])]
  exact vK
theorem Iw {g:aw} (e:oE g=false):g.Small:=by
 simp only[oE,Bool.or_eq_false_iff,Vw] at e
 exact ⟨by omega⟩
theorem OY (g:aw):aG Tryz.prog 16 [.agg (au g)] (gb (oE g)):=aG.val (ef g) fun H=>(O8 g H).mono fun _ _ h=>h.1
theorem D3 {a b:V} (ha:Tree a) (hb:Tree b):Tree (.bE [a,b]):=.bE _ fun i hi=>by
 match i,hi with
 | 0,_=>exact ha
 | 1,_=>exact hb
 | n+2,h=>exact absurd h (by simp)
theorem dx.step {H H' H1:View} {u u1:V} (h:dx H H' u) (l:Left H' H1 u u1):dx H H1 u1:=fun id hid=>by
 have h1:=h id hid
 have h2:=l id (by rw[h1.1]; exact hid) h1.2
 exact ⟨h2.1.trans h1.1,h2.2⟩
theorem Bf {l:List Int} {k:Nat} (h:k≤l.length):dQ 1 (.aL (l.map fun x=>[gi x])) (some (gi k)) none=some (.aL ((l.drop k).map fun x=>[gi x]),.none,[]):=by
 simp[dQ,bound,asNat,h,List.all_map,List.map_drop]
 rw[Uo (by simp)]
theorem je {P:Program} {t:TypeId} {d:TypeDesc} (hu:P.underlying t=some d) (hd:d=.string∨∃ k,d=.int k) (cs:Array Value) (off:Nat) {v:Value} (hv:cs[off]?=some v):bG P (part t cs off)=some v:=by
 have h0:bG P (isAgg t)=some false:=by
  rcases hd with rfl | ⟨k,rfl⟩
  all_goals simp only[isAgg,bw,dZ hu,UK]; rfl
 simp only[part,bw,h0,UK,Ut,if_false,hv]
 rfl
inductive gh (P:Program) (d:Nat) (xs ys:Array Value):List Field→Bool→Prop
 | nil:gh P d xs ys [] true
 | str (f:Field) (l:List Field) (c:Bool) (a b:ByteArray):(f.name≠ "_")→P.underlying f.type=some .string→xs[f.offset]?=some (.string a)→ys[f.offset]?=some (.string b)→gh P d xs ys l c→gh P d xs ys (f :: l) (a == b && c)
 | int (f:Field) (l:List Field) (c:Bool) (k:IntKind) (a b:Int):(f.name≠ "_")→P.underlying f.type=some (.int k)→xs[f.offset]?=some (.int k a)→ys[f.offset]?=some (.int k b)→gh P d xs ys l c→gh P d xs ys (f :: l) (a == b && c)
theorem gh.forIn {P:Program} {d e:Nat} {xs ys:Array Value} {l:List Field} {c:Bool} (h:gh P d xs ys l c) (hd:e=d+1) :
  bG P (forIn l ((none:Option Bool),()) fun f _ =>
    if f.name≠ "_" then do
     let a ← part f.type xs f.offset
     let b ← part f.type ys f.offset
     let e ← Op.equalIn e f.type a b
     if (!e)=true then pure (ForInStep.done (some false,())) else pure (ForInStep.yield (none,()))
    else pure (ForInStep.yield (none,())))=some (if c=true then (none,()) else (some false,())):=by
 subst hd
 induction h with
 | nil=>rfl
 | str f l c a b hn hu hx hy _ ih =>
  have he:bG P (Op.equalIn (d+1) f.type (.string a) (.string b))=some (a == b):=by
   simp only[Op.equalIn,bw,dZ hu,UK]; rfl
  rw[List.forIn_cons,bw,T9 hn,bw,je hu (.inl rfl) xs _ hx,UK,bw,je hu (.inl rfl) ys _ hy,UK,bw,he,UK]
  cases a == b with
  | false=>rfl
  | true=>exact ih
 | int f l c k a b hn hu hx hy _ ih =>
  have he:bG P (Op.equalIn (d+1) f.type (.int k a) (.int k b))=some (a == b):=by
   simp only[Op.equalIn,bw,dZ hu,UK]; rfl
  rw[List.forIn_cons,bw,T9 hn,bw,je hu (.inr ⟨k,rfl⟩) xs _ hx,UK,bw,je hu (.inr ⟨k,rfl⟩) ys _ hy,UK,bw,he,UK]
  cases a == b with
  | false=>rfl
  | true=>exact ih
theorem r0 {P:Program} {t:TypeId} {fs:Array Field} {xs ys:Array Value} {c:Bool} (hu:P.underlying t=some (.struct fs)) (hs:P.stoodInHeld t=false) (h:gh P 9998 xs ys fs.toList c) :
  bG P (Op.equal t (.agg xs) (.agg ys))=some c:=by
 rw[kO]
 rw[Op.equalIn,bw,dZ hu,UK]
 have hst:(bG P program)=some P:=rfl
 rw[bw,hst,UK,hs]
 simp only[← Array.forIn_toList,Ut,if_false]
 rw[bw,h.forIn (e:=9999) rfl,UK]
 cases c <;> rfl
theorem CY {P:Program} {o:Oper} {T:Env} {op:BinOp} {t u:TypeId} {x y:Operand} {fs:Array Field} {xs ys:Array Value} {c r:Bool} (ho:o.op=.binOp op t x y u) (hu:P.underlying t=some (.struct fs)) (hs:P.stoodInHeld t=false) (hg:P.eqGuardType P.depth t=false)
  (hx:dh (ev T x)=some (.agg xs)) (hy:dh (ev T y)=some (.agg ys)) (h:gh P 9998 xs ys fs.toList c) (hr:(op=.eql∧r=c)∨(op=.neq∧r = !c)) :
  dL P o T=some (.val (.bool r),.none,[]):=by
 have he:=r0 hu hs h
 have hst:(bG P program)=some P:=rfl
 unfold dL
 simp only[ho,Op.operands,hx,hy]
 rcases hr with ⟨rfl,rfl⟩ | ⟨rfl,rfl⟩
 ·simp[execOp,ho,hx,hy,eqGuard,binOp,iZ,bw,hst,hg,he,plain]
  try simp[bG,pure,plain]
 ·simp[execOp,ho,hx,hy,eqGuard,binOp,iZ,bw,hst,hg,he,plain]
  try simp[bG,pure,plain,bne]
theorem jT {P:Program} {T:Env} {H:View} {K:V→View→Prop} {w:cE (T,H,K)} {op:BinOp} {t u ty:TypeId} {x y:Operand} {fs:Array Field} {xs ys:Array Value} {c r:Bool} (hu:P.underlying t=some (.struct fs)) (hs:P.stoodInHeld t=false) (hg:P.eqGuardType P.depth t=false)
  (hx:dh (ev T x)=some (.agg xs)) (hy:dh (ev T y)=some (.agg ys)) (h:gh P 9998 xs ys fs.toList c) (hr:(op=.eql∧r=c)∨(op=.neq∧r = !c)) (hk:K (.val (.bool r)) H):kb P (.binOp op t x y u) ty T H K w:=by
 intro n _
 refine ⟨.val (.bool r),.none,[],?_,hk⟩
 have hn:jm P t=none:=by simp[jm,hu]
 simp only[sI,cm,oper,hn]
 simp only[Option.isSome_none,Ut,if_false]
 exact CY rfl hu hs hg hx hy h hr
def yn (hp:Array Obj) (cs:List Value) (vs:List V):Prop :=
 vs.length=cs.length∧∀ μ i,i < vs.length→aF (fun b=>b < hp.size) μ hp (vs.getD i .any) (cs.getD i undef)
def Wt {H:Type} (P:Program) (t:TypeId) (d:DataW H):Prop:=∀ n∈d.weights P t,n≤reachBytes
def xF (P:Program) (t:TypeId) {α:Type} (f:α→List V) (ok:α→Prop):Prop :=
 ∀ {H:Type} (enc:TypeId × Value→H) (w:World) (base:Nat) (sp:Nat→Bool) (held:Bool) (fuel:Nat) (cs:List Value) (x:DataW H × List MemPlace),
  DataW.trod enc P w base sp held fuel t cs=some x→Wt P t x.1→∃ a,ok a∧yn w.heap cs (f a)
theorem vC {hp:Array Obj} {c:Value} {v:V} (h:∀ μ,aF (fun b=>b < hp.size) μ hp v c):yn hp [c] [v]:=by
 refine ⟨rfl,fun μ i hi=>?_⟩
 match i,hi with
 | 0,_=>exact h μ
theorem R5 {P:Program} {t:TypeId} {k:IntKind} (ht:P.underlying t=some (.int k)):xF P t (fun n=>[.val (.int k n)]) (fun n=>(Lit.int k n).wf=true):=by
 intro H enc w base sp held fuel cs x h _
 obtain ⟨n,rfl,_,hw⟩:=DataW.trod_int ht h
 exact ⟨n,hw,vC fun μ=>.val _ rfl⟩
theorem EV {P:Program} {t:TypeId} (ht:P.underlying t=some .string):xF P t (fun s=>[.val (.string s)]) (fun _=>True):=by
 intro H enc w base sp held fuel cs x h _
 obtain ⟨s,rfl,_,_⟩:=DataW.trod_string ht h
 exact ⟨s,trivial,vC fun μ=>.val _ rfl⟩
theorem F2 {w:World} {base:Nat} {a:Addr} {n:Nat} {cs:List Value} (h:w.cells? base a n=some cs):cs.length=n∧∀ i,i < n→w.cell? (a.add i)=some (cs.getD i undef):=by
 obtain ⟨_,h2,h3⟩:=World.cells?_some h
 refine ⟨h2,fun i hi=>?_⟩
 rw[h3 i hi,T0,T4 (by omega)]
 rfl
theorem Nd {w:World} {a:Addr} {v:Value} (h:w.cell? a=some v):a.spot=none∧a.block < w.heap.size:=by
 unfold World.cell? at h
 split at h
 ·rename_i c _ _ hb
  split at h
  ·simp at h
  ·rename_i hs
   exact ⟨by simpa using hs,(Array.getElem?_eq_some_iff.1 hb).1⟩
 ·simp at h
theorem NT {H:Type} {P:Program} {e:TypeId} : ∀ {l:List (DataW H)},(∀ n∈DataW.weightsAll P e l,n≤reachBytes)→∀ d∈l,Wt P e d
 | [],_,d,hd=>by simp at hd
 | x :: l,h,d,hd=>by
  simp only[DataW.weightsAll,Uy] at h
  rcases Uk.1 hd with rfl | hd
  ·exact fun n hn=>h n (.inl hn)
  ·exact NT (fun n hn=>h n (.inr hn)) d hd
theorem OT {H:Type} {P:Program} {t e:TypeId} {elems spare:List (DataW H)} (ht:P.underlying t=some (.slice e)) (h:Wt P t (.slice elems spare)) :
  (elems.length+spare.length) * P.bytesOf e≤reachBytes∧∀ d∈elems,Wt P e d:=by
 unfold Wt at h
 unfold DataW.weights at h
 rw[ht] at h
 simp only[Uk,Uy] at h
 exact ⟨h _ (.inl rfl),NT fun n hn=>h n (.inr (.inl hn))⟩
theorem Lw {H:Type} {P:Program} {t:TypeId} {fs:Array Field} {parts:List (DataW H)} (ht:P.underlying t=some (.struct fs)) (h:Wt P t (.agg parts)) {j:Nat} {f:Field} {d:DataW H} (hf:fs[j]?=some f) (hd:parts[j]?=some d):Wt P f.type d:=by
 intro n hn
 refine h n ?_
 unfold DataW.weights
 rw[ht]
 exact DataW.weights_mem_each (j:=j) (t:=f.type) (by simp[hf]) hd n hn
theorem Jj {α:Type} {φ:Nat→α→Prop} : ∀ (n:Nat),(∀ i,i < n→∃ a,φ i a)→∃ l:List α,l.length=n∧∀ i (hi:i < l.length),φ i l[i]
 | 0,_=>⟨[],rfl,fun i hi=>by simp at hi⟩
 | n+1,h=>by
  obtain ⟨l,hl,hφ⟩:=Jj n fun i hi=>h i (by omega)
  obtain ⟨a,ha⟩:=h n (by omega)
  refine ⟨l ++ [a],by simp[hl],fun i hi=>?_⟩
  by_cases e:i < l.length
  ·rw[List.getElem_append_left e]; exact hφ i e
  ·have:i=n:=by simp at hi; omega
   subst this
   rw[List.getElem_append_right (by omega)]
   simp only[hl,Nat.sub_self,List.getElem_cons_zero]; exact ha
theorem v8 {P:Program} {t e:TypeId} {α:Type} {f:α→List V} {ok:α→Prop} (ht:P.underlying t=some (.slice e)) (hc:0 < P.cellsOf e) (hb:0 < P.bytesOf e) (he:xF P e f ok) :
  xF P t (fun l:List α=>[.aL (l.map f)]) (fun l=>l.length < 4611686018427387904∧∀ a∈l,ok a):=by
 intro H enc w base sp held fuel cs x h hw
 rcases DataW.trod_slice ht h with ⟨rfl,rfl⟩ | ⟨a,len,cap,elems,rest,n,_,rfl,rfl,hba,hl,hm,hlen,hel,_,_⟩
 ·exact ⟨[],⟨by simp,by simp⟩,vC fun μ=>.im none 0 (by simp)⟩
 obtain ⟨hw1,hw2⟩:=OT ht hw
 simp only[Uc] at hw1
 have hlt:len < 4611686018427387904:=by
  have h1:len * 1≤(elems.length+rest.length) * P.bytesOf e:=Nat.mul_le_mul (by omega) hb
  unfold reachBytes at hw1
  omega
 have each:∀ i,i < len→∃ y,ok y∧∃ ci,w.cells? base (a.add (i * P.cellsOf e)) (P.cellsOf e)=some ci∧yn w.heap ci (f y):=by
  intro i hi
  have h1:=hel i hi
  have h2:elems[i]?=some (elems[i]'(by omega)):=T4 (by omega)
  have hmem:elems[i]'(by omega)∈elems:=Ud _
  rw[h2,Option.bind_eq_some_iff] at h1
  obtain ⟨ci,h3,h4⟩:=h1
  obtain ⟨y,h5,h6⟩:=he enc w base sp held n ci _ h4 (hw2 _ (Ur.2 ⟨_,hmem,rfl⟩))
  exact ⟨y,h5,ci,h3,h6⟩
 obtain ⟨l,hll,hφ⟩:=Jj len each
 subst hll
 refine ⟨l,⟨hlt,fun y hy=>?_⟩,vC fun μ=>?_⟩
 ·obtain ⟨i,hi,rfl⟩:=List.getElem_of_mem hy
  exact (hφ i hi).1
 by_cases h0:l=[]
 ·subst h0
  exact .im (some a) cap (by simp)
 have hpos:0 < l.length:=VY.2 h0
 have hcell:∀ i j,i < l.length→j < P.cellsOf e→∃ c,cellAt w.heap a.block (a.off+i * P.cellsOf e+j)=some c∧a.block < w.heap.size∧(i=0→j=0→a.spot=none)∧∀ (hi:i < l.length),aF (fun b=>b < w.heap.size) μ w.heap ((f l[i]).getD j .any) c:=by
  intro i j hi hj
  obtain ⟨_,ci,h1,h2⟩:=hφ i hi
  obtain ⟨h3,h4⟩:=F2 h1
  have h5:=h4 j hj
  have h6:=Nd h5
  have hbk:((a.add (i * P.cellsOf e)).add j).block=a.block:=by simp only[Addr.add]; split <;> split <;> rfl
  have hof:((a.add (i * P.cellsOf e)).add j).off=a.off+i * P.cellsOf e+j:=by
   simp only[Addr.add]; split <;> split <;> simp_all
  refine ⟨ci.getD j undef,?_,by rw[← hbk]; exact h6.2,?_,fun _=>?_⟩
  ·rw[← hof,← hbk,← nq]
   rw[← h5]
   congr 1
   generalize (a.add (i * P.cellsOf e)).add j=b at h6
   cases b
   simp at h6 ⊢
   exact h6.1.symm
  ·rintro rfl rfl
   simp[Addr.add] at h6
   exact h6.1
  ·exact h2.2 μ j (by rw[h2.1,h3]; exact hj)
 obtain ⟨_,_,hz,hs,_⟩:=hcell 0 0 hpos hc
 have ha:a=⟨a.block,a.off,none⟩:=by
  cases a; simp at hs ⊢; exact hs
 have hlf:∀ i,i < l.length→(f (l[i]?.getD (l[0]'hpos))).length=P.cellsOf e:=fun i hi=>by
  obtain ⟨_,ci,h1,h2⟩:=hφ i hi
  rw[T4 hi,Un,h2.1,(F2 h1).1]
 have hgd:∀ i (hi:i < l.length),(l.map f).getD i []=f l[i]:=fun i hi=>by simp[T0,hi]
 have hcl:(l.map f).length=l.length:=by simp
 have:=aF.aL (Z:=fun b=>b < w.heap.size) (μ:=μ) (hp:=w.heap) (l.map f) a.block a.off (P.cellsOf e) cap (fun i j=>(cellAt w.heap a.block (a.off+i * P.cellsOf e+j)).getD undef) hz (by rw[hcl]; exact hl)
  (fun i hi=>by
   rw[hcl] at hi
   have:=hlf i hi
   rw[T4 hi,Un] at this
   rw[hgd i hi]; exact this)
  (fun i j hi hj=>by
   rw[hcl] at hi
   obtain ⟨c,h1,_⟩:=hcell i j hi hj
   rw[h1]; rfl)
  (fun i j hi hj=>by
   rw[hcl] at hi
   obtain ⟨c,h1,_,_,h2⟩:=hcell i j hi hj
   rw[h1,hgd i hi]; exact h2 hi)
 rw[hcl,← ha] at this
 exact this
theorem xz {P:Program} {t:TypeId} {fs:Array Field} (ht:P.underlying t=some (.struct fs)) (hf:∀ (i:Nat) (f:Field),fs[i]?=some f→f.offset=i∧P.cellsOf f.type=1) (hn:P.cellsOf t=fs.size)
  {H:Type} {enc:TypeId × Value→H} {w:World} {base:Nat} {sp:Nat→Bool} {held:Bool} {fuel:Nat} {cs:List Value} {x:DataW H × List MemPlace} (h:DataW.trod enc P w base sp held fuel t cs=some x) (hw:Wt P t x.1) :
  cs.length=fs.size∧∀ (i:Nat) (f:Field),fs[i]?=some f→∀ {α:Type} {g:α→List V} {ok:α→Prop},xF P f.type g ok→∃ a,ok a∧yn w.heap [cs.getD i undef] (g a):=by
 obtain ⟨xs,n,rfl,rfl,hl,hlen,hx⟩:=DataW.trod_struct ht h
 refine ⟨by rw[hl,hn],fun i f hi α g ok hr=>?_⟩
 obtain ⟨h1,h2⟩:=hf i f hi
 have hi2:i < fs.size:=(Array.getElem?_eq_some_iff.1 hi).1
 have h3:=hx i f hi
 have h4:xs[i]?=some (xs[i]'(by omega)):=T4 (by omega)
 rw[h4,h1,h2] at h3
 have h5:(cs.drop i).take 1=[cs.getD i undef]:=by
  rw[T0,T4 (by omega),UO (by omega)]
  rfl
 rw[h5] at h3
 exact hr enc w base sp held n _ _ h3 (Lw ht hw hi (by simp[h4]))
theorem ie {hp:Array Obj} {c:Value} {cs:List Value} {v:V} {vs:List V} (h:yn hp [c] [v]) (k:yn hp cs vs):yn hp (c :: cs) (v :: vs):=by
 refine ⟨by simp[k.1],fun μ i hi=>?_⟩
 cases i with
 | zero=>exact h.2 μ 0 (by simp)
 | succ i=>exact k.2 μ i (by simpa using hi)
theorem Ah {hp:Array Obj} : yn hp [] []:=⟨rfl,fun μ i hi=>by simp at hi⟩
theorem QB {n:Int} (h:(Lit.int .i64 n).wf=true):cp n:=by
 simp only[Lit.wf,Uh,Ul] at h
 exact h
theorem pq:xF Tryz.prog 3 (fun n=>[gi n]) cp:=fun enc w base sp held fuel cs x h hw=>by
 obtain ⟨n,h1,h2⟩:=R5 Tryz.underlying3 enc w base sp held fuel cs x h hw
 exact ⟨n,QB h1,h2⟩
theorem QJ:xF Tryz.prog 43 (fun l:List Int=>[encI l]) (fun l=>aY l∧∀ x∈l,cp x) :=
 v8 Tryz.underlying43 (VG (by kernel_rfl)) (VG (by kernel_rfl)) pq
theorem Lv:xF Tryz.prog 23 (fun l:List ByteArray=>[encS l]) (fun l=>aY l∧∀ x∈l,True) :=
 v8 Tryz.underlying23 (VG (by kernel_rfl)) (VG (by kernel_rfl)) (EV Tryz.underlying9)
theorem SJ {cs:List Value} (h:cs.length=3):cs=[cs.getD 0 undef,cs.getD 1 undef,cs.getD 2 undef]:=by
 match cs,h with
 | [a,b,c],_=>rfl
theorem TR {cs:List Value} (h:cs.length=4):cs=[cs.getD 0 undef,cs.getD 1 undef,cs.getD 2 undef,cs.getD 3 undef]:=by
 match cs,h with
 | [a,b,c,d],_=>rfl
theorem QD:xF Tryz.prog 129 cg (fun t=>cp t.level∧cp t.assoc):=fun enc w base sp held fuel cs x h hw=>by
 obtain ⟨hl,hf⟩:=xz Tryz.underlying129 (by
  intro i f hi
  match i,hi with
  | 0,hi=>simp at hi; subst hi; exact ⟨rfl,by kernel_rfl⟩
  | 1,hi=>simp at hi; subst hi; exact ⟨rfl,by kernel_rfl⟩
  | 2,hi=>simp at hi; subst hi; exact ⟨rfl,by kernel_rfl⟩
  | n+3,hi=>simp at hi) (by kernel_rfl) h hw
 obtain ⟨a,_,h1⟩:=hf 0 _ rfl (EV Tryz.underlying9)
 obtain ⟨b,h2,h3⟩:=hf 1 _ rfl pq
 obtain ⟨c,h4,h5⟩:=hf 2 _ rfl pq
 refine ⟨⟨a,b,c⟩,⟨h2,h4⟩,?_⟩
 rw[SJ hl]
 exact ie h1 (ie h3 (ie h5 Ah))
theorem QM:xF Tryz.prog 71 aP (fun r=>cp r.left∧cp r.prec∧aY r.right∧∀ x∈r.right,cp x):=fun enc w base sp held fuel cs x h hw=>by
 obtain ⟨hl,hf⟩:=xz Tryz.underlying71 (by
  intro i f hi
  match i,hi with
  | 0,hi=>simp at hi; subst hi; exact ⟨rfl,by kernel_rfl⟩
  | 1,hi=>simp at hi; subst hi; exact ⟨rfl,by kernel_rfl⟩
  | 2,hi=>simp at hi; subst hi; exact ⟨rfl,by kernel_rfl⟩
  | n+3,hi=>simp at hi) (by kernel_rfl) h hw
 obtain ⟨a,h0,h1⟩:=hf 0 _ rfl pq
 obtain ⟨b,h2,h3⟩:=hf 1 _ rfl QJ
 obtain ⟨c,h4,h5⟩:=hf 2 _ rfl pq
 refine ⟨⟨a,b,c⟩,⟨h0,h4,h2.1,h2.2⟩,?_⟩
 rw[SJ hl]
 exact ie h1 (ie h3 (ie h5 Ah))
theorem QE:xF Tryz.prog 26 au aw.Ok:=fun enc w base sp held fuel cs x h hw=>by
 obtain ⟨hl,hf⟩:=xz Tryz.underlying26 (by
  intro i f hi
  match i,hi with
  | 0,hi=>simp at hi; subst hi; exact ⟨rfl,by kernel_rfl⟩
  | 1,hi=>simp at hi; subst hi; exact ⟨rfl,by kernel_rfl⟩
  | 2,hi=>simp at hi; subst hi; exact ⟨rfl,by kernel_rfl⟩
  | 3,hi=>simp at hi; subst hi; exact ⟨rfl,by kernel_rfl⟩
  | n+4,hi=>simp at hi) (by kernel_rfl) h hw
 obtain ⟨a,h0,h1⟩:=hf 0 _ rfl (v8 Tryz.underlying22 (VG (by kernel_rfl)) (VG (by kernel_rfl)) QD)
 obtain ⟨b,h2,h3⟩:=hf 1 _ rfl Lv
 obtain ⟨c,h4,h5⟩:=hf 2 _ rfl (v8 Tryz.underlying24 (VG (by kernel_rfl)) (VG (by kernel_rfl)) QM)
 obtain ⟨d,h6,h7⟩:=hf 3 _ rfl pq
 refine ⟨⟨a,b,c,d⟩,⟨h0.1,h2.1,h4.1,h6,h0.2,h4.2⟩,?_⟩
 rw[TR hl]
 exact ie h1 (ie h3 (ie h5 (ie h7 Ah)))
end Gv
