/-
  Part 9 of the proof: what the machine does and what the functions answer.
  Conditions: those that each lemma names.
-/
import Derived.ProofKit
import Derived.SizedLaws
import Derived.Test.YtihmlbdfcmfbdaaGreatSGzA9H
set_option linter.unusedSimpArgs false
set_option linter.unusedVariables false
set_option maxRecDepth 100000
namespace Gv
open Go Go.Proofs
def Cj (n:Nat) (r:bw):Prop:=cm r.left∧0≤r.left∧r.left < n∧r.right.length≤6∧∀ s∈r.right,cm s∧(s < 0→-1 - s < n)
theorem aw.dK.tb {g:aw} (hg:g.Ok) (h:g.dK) {r:bw} (hr:r∈g.rules):Cj g.az.length r :=
 ⟨(hg.aF r hr).1,(h.left r hr).1,(h.left r hr).2,h.right r hr,fun s hs=>⟨(hg.aF r hr).2.2.2 s hs,fun hn=>h.neg hr hs hn⟩⟩
def xW:SF:=⟨.seq (ao [bK 2 false]) <|
 .seq (ao [aj 3 0,aQ 4 .geq 3 0,aj 2 4]) <|
 .ret,
 [.tmp 2],5⟩
theorem AL:aV Tryz.prog 209 []=some xW:=by kernel_rfl
def Am:SF:=⟨.seq (ao [cL 1 0,bK 2 false]) <|
 .seq (ao [aB 3 1 1,ax 4 3,oc 5 91 [(.tmp 4),(.val (.fn 209 [] []))],dd 6 5,aj 2 6]) <|
 .ret,
 [.tmp 2],7⟩
theorem DA:aV Tryz.prog 171 [1]=some Am:=by kernel_rfl
def tC:SF:=⟨.seq (ao [bK 3 false]) <|
 .seq (.region false [⟨none,[aj 4 0,aQ 5 .lss 4 0,aj 6 5]⟩,⟨(some (6,true)),[ax 7 1,aj 8 0,((some 9),.op (.arith .sub (.val (.val (.int .i64 (-1)))) (.tmp 8))),aP 10 1 7 9,ax 11 10,dd 12 11]⟩,⟨none,[eF 13 6 12,aj 3 13]⟩]) <|
 .ret,
 [.tmp 3],14⟩
theorem yI:aV Tryz.prog 197 []=some tC:=by kernel_rfl
def xI:SF:=⟨.seq (ao [cL 2 0,cL 3 1,bK 4 false]) <|
 .seq (ao [aB 5 1 2,ax 6 5,((some 7),.op (.sD 197 [] [(.tmp 3)])),bC 8 91 [6,7],dd 9 8,aj 4 9]) <|
 .ret,
 [.tmp 4],10⟩
theorem AS:aV Tryz.prog 160 [2,3]=some xI:=by kernel_rfl
def rD:SF:=⟨.seq (ao [cL 2 0,((some 4),.op (.bL (.val (.emp 1))))]) <|
 .seq (.seq (.region false [⟨none,[bp 5 3 2,bC 6 171 [5],aj 7 6]⟩,⟨(some (7,true)),[bp 8 3 2,aj 9 1,bC 10 160 [8,9]]⟩,⟨none,[eF 11 7 10]⟩]) <|
 .cond (.tmp 11) (.seq (ao [aB 12 0 2,ax 13 12,((some 14),.op (.cg 1 1 [(.val (.int .i64 0))] [(0,(.tmp 13))])),aj 4 14]) <|
 .ret) (.skip)) <|
 .seq (ao [((some 4),.op (.bL (.val (.emp 1))))]) <|
 .ret,
 [.tmp 4],15⟩
theorem xi:aV Tryz.prog 170 [2]=some rD:=by kernel_rfl
def pg:SF:=⟨.seq (ao [cL 2 0,((some 4),.op (.bL (.val (.emp 1))))]) <|
 .seq (.seq (ao [bp 5 3 2,aj 6 1,bC 7 160 [5,6]]) <|
 .cond (.tmp 7) (.seq (ao [aB 8 0 2,ax 9 8,((some 10),.op (.cg 1 1 [(.val (.int .i64 0))] [(0,(.tmp 9))])),aj 4 10]) <|
 .ret) (.skip)) <|
 .seq (ao [((some 4),.op (.bL (.val (.emp 1))))]) <|
 .ret,
 [.tmp 4],11⟩
theorem ux:aV Tryz.prog 195 [2]=some pg:=by kernel_rfl
def ow:SC :=
 .seq (ao [bc 24 .lss 23 22]) <|
 .seq (.cond (.tmp 24) (.skip) (.exit 0)) <|
 .seq (.block 1 (.seq (ao [aP 25 1 21 23,ax 26 25,aj 7 26]) <|
 .seq (ao [aj 27 7,aQ 28 .lss 27 0]) <|
 .cond (.tmp 28) (ao [aj 29 5,aj 30 7,((some 31),.op (.arith .sub (.val (.val (.int .i64 (-1)))) (.tmp 30))),((some 32),.op (.cg 1 1 [(.val (.int .i64 0))] [(0,(.tmp 31))])),((some 33),.op (.app 1 8 (.tmp 29) (.tmp 32))),aj 5 33]) (.skip))) <|
 ao [aQ 34 .add 23 1,aj 23 34]
def qE:SF:=⟨.seq (ao [cL 3 0,((some 5),.op (.bL (.val (.emp 1))))]) <|
 .seq (.seq (.region false [⟨none,[aj 8 1,aB 9 0 3,ax 10 9,aP 11 1 8 10,ax 12 11,dd 13 12,aj 14 13]⟩,⟨(some (14,false)),[bp 15 3 3,ax 16 2,bC 17 160 [15,16],dd 18 17]⟩,⟨none,[c6 19 14 18]⟩]) <|
 .cond (.tmp 19) (.seq (ao [((some 5),.op (.bL (.val (.emp 1))))]) <|
 .ret) (.skip)) <|
 .seq (.seq (ao [aB 20 1 3,ax 21 20,aX 22 21,bj 23 0]) <|
 .block 0 (.loop ow)) <|
 .seq (ao [aj 35 5,aj 5 35]) <|
 .ret,
 [.tmp 5],36⟩
theorem vg:aV Tryz.prog 196 [3]=some qE:=by kernel_rfl
theorem Oe (r:bw):∀ v∈[V.agg (aO r)],Tree v:=by intro v hv; simp at hv; subst hv; exact cI _ (gL r)
theorem AJ (r:bw) (is:List Bool):∀ v∈[V.agg (aO r),bP is],Tree v:=by
 intro v hv; simp at hv
 rcases hv with rfl | rfl
 ·exact cI _ (gL r)
 ·exact gN is
theorem Qp (x:Int):aI Tryz.prog 209 [gi x] (gb (decide (0≤x))):=by
 refine aI.val (yS (l:=[.int .i64 x])) fun H=>?_
 refine aC.of mixed AL ?_
 simp (disch:=omega) only [↓wr,seval,wq,ah,ag,ak,aa,ab,af,ai,ae,xW]
theorem R4 (r:bw) (hr:aS r.right):aI Tryz.prog 171 [.agg (aO r)] (gb (!r.right.any fun s=>decide (0≤s))):=by
 refine aI.val (Oe r) fun H=>?_
 refine aC.of mixed DA ?_
 simp (disch:=omega) only [↓wr,seval,wq,ah,ag,ak,aa,ab,af,ai,ae,Am,aO,encI]
 refine aD.pure (mV r.right hr 209 [] (by simp) (fun s=>decide (0≤s)) (fun x _=>Qp x) (by kernel_rfl)) (by kernel_rfl) ?_
 simp (disch:=omega) only [↓wr,seval,wq,ah,ag,ak,aa,ab,af,ai,ae]
def D2 (is:List Bool) (s:Int):Bool:=decide (s < 0) && !is.getD (-1 - s).toNat false
theorem LP (is:List Bool) (s:Int) (hs:cm s∧(s < 0→-1 - s < is.length)):aI Tryz.prog 197 [gi s,.aN [bP is] 0] (gb (D2 is s)):=by
 refine aI.val ?_ fun H=>?_
 ·intro v hv; simp at hv
  rcases hv with rfl | rfl
  ·exact .val _
  ·exact kW (by intro v hv; simp at hv; subst hv; exact gN is)
 obtain ⟨⟨h1,h2⟩,h3⟩:=hs
 refine aC.of mixed yI ?_
 simp (disch:=omega) only [↓wr,seval,wq,ah,ag,ak,aa,ab,af,ai,ae,tC,bP]
 refine av.dec (fun h=>?_) (fun h=>?_)
 ·have hb:is[(-1 - s).toNat]?=some (is[(-1 - s).toNat]'(by omega)):=U9 (by omega)
  have hbd:is.getD (-1 - s).toNat false=is[(-1 - s).toNat]'(by omega):=by simp[U8,hb]
  generalize is[(-1 - s).toNat]'(by omega)=b at hb hbd
  simp (disch:=omega) only [↓wr,seval,wq,ah,ag,ak,aa,ab,af,ai,ae,Vc,hb]
  simp only[D2,hbd,h,decide_true,Wo]
 ·simp (disch:=omega) only [↓wr,seval,wq,ah,ag,ak,aa,ab,af,ai,ae]
  simp[D2,h]
theorem LR {is:List Bool} {l:List Int} : (!l.any (D2 is))=cQ l is true:=by
 simp only[cQ,List.not_any_eq_all_not]
 congr 1
 funext s
 simp only[D2]
 by_cases h:0≤s
 ·simp[h,show ¬ s < 0 by omega]
 ·simp[h,show s < 0 by omega]
theorem tL (r:bw) (is:List Bool) (hr:aS r.right) (hs:∀ s∈r.right,cm s∧(s < 0→-1 - s < is.length)):aI Tryz.prog 160 [.agg (aO r),bP is] (gb (cQ r.right is true)):=by
 rw[← LR]
 refine aI.val (AJ r is) fun H=>?_
 refine aC.of mixed AS ?_
 simp (disch:=omega) only [↓wr,seval,wq,ah,ag,ak,aa,ab,af,ai,ae,xI,aO,bP,encI]
 refine aD.pure (mV r.right hr 197 [.aN [bP is] 0] (by
  intro v hv; simp at hv; subst hv
  exact kW (by intro v hv; simp at hv; subst hv; exact gN is)) (D2 is) (fun x hx=>LP is x (hs x hx)) (by kernel_rfl)) (by kernel_rfl) ?_
 simp (disch:=omega) only [↓wr,seval,wq,ah,ag,ak,aa,ab,af,ai,ae]
theorem IG {is:List Bool} {l:List Int} : ((!l.any fun s=>decide (0≤s)) && cQ l is true)=cQ l is false:=by
 induction l with
 | nil=>rfl
 | cons s l ih =>
  simp only[cQ,Wn,List.any_cons] at ih ⊢
  rw[← ih]
  by_cases h:0≤s
  ·simp[h]
  ·simp only[h,decide_false,Xn,if_false]
   cases (l.any fun s=>decide (0≤s)) <;> simp
theorem mQ {h:aL} {u:V} {l:List Int} (ho:ba h.view u 1 (l.map fun x=>[gi x])):eu h u (encI l):=eu.P7 (f:=Value.int .i64) ho
theorem Hk (r:bw) (is:List Bool) (hr:Cj is.length r):cR Tryz.prog 170 [.agg (aO r),bP is] (encI (if cQ r.right is false=true then [r.left] else [])):=by
 obtain ⟨hl,_,_,hr6,hs⟩:=hr
 have hsh:aS r.right:=by unfold aS; omega
 refine cR.of (AJ r is) ?_
 refine aC.of mixed xi ?_
 rw[← IG]
 simp (disch:=omega) only [↓wr,seval,wq,ah,ag,ak,aa,ab,af,ai,ae,rD,aO,encI]
 refine aD.pure (R4 r hsh) (by kernel_rfl) ?_
 repeat' (first | (refine av.dec (fun _=>?_) (fun _=>?_)) | (refine av.eq (fun _=>?_) (fun _=>?_)) | (refine av.ne (fun _=>?_) (fun _=>?_)) | (refine av.split (fun _=>?_) (fun _=>?_)) | (refine aD.pure (tL r is hsh hs) (by kernel_rfl) ?_) | (simp (disch:=omega) only [↓wr,seval,wq,ah,ag,ak,aa,ab,af,ai,ae,aO,encI]))
 all_goals first
  | (intro n h' hh; rw[Vd (by simp[*])]; exact mQ (l:=[r.left]) (.inr ⟨n,rfl,by rw[hh]; simp[View.set]⟩))
  | (intro h' hh; rw[Va (by simp[*])]; exact .emp _)
theorem DT (r:bw) (is:List Bool) (hr:Cj is.length r):cR Tryz.prog 195 [.agg (aO r),bP is] (encI (if cQ r.right is true=true then [r.left] else [])):=by
 obtain ⟨hl,_,_,hr6,hs⟩:=hr
 have hsh:aS r.right:=by unfold aS; omega
 refine cR.of (AJ r is) ?_
 refine aC.of mixed ux ?_
 simp (disch:=omega) only [↓wr,seval,wq,ah,ag,ak,aa,ab,af,ai,ae,pg,aO,encI]
 refine aD.pure (tL r is hsh hs) (by kernel_rfl) ?_
 repeat' (first | (refine av.dec (fun _=>?_) (fun _=>?_)) | (refine av.eq (fun _=>?_) (fun _=>?_)) | (refine av.ne (fun _=>?_) (fun _=>?_)) | (refine av.split (fun _=>?_) (fun _=>?_)) | (simp (disch:=omega) only [↓wr,seval,wq,ah,ag,ak,aa,ab,af,ai,ae,aO,encI]))
 all_goals first
  | (intro n h' hh; rw[Vd (by simp[*])]; exact mQ (l:=[r.left]) (.inr ⟨n,rfl,by rw[hh]; simp[View.set]⟩))
  | (intro h' hh; rw[Va (by simp[*])]; exact .emp _)
def gP (l:List Int):List Int:=(l.filter fun s=>decide (s < 0)).map fun s=>-1 - s
theorem OB (r:bw) (is p:List Bool):∀ v∈[V.agg (aO r),bP is,.aN [bP p] 0],Tree v:=by
 intro v hv; simp at hv
 rcases hv with rfl | rfl | rfl
 ·exact cI _ (gL r)
 ·exact gN is
 ·exact kW (by intro v hv; simp at hv; subst hv; exact gN p)
set_option maxHeartbeats 1000000 in
theorem FF (r:bw) (is p:List Bool) (hr:Cj is.length r) (hp:p.length=is.length) :
  cR Tryz.prog 196 [.agg (aO r),bP is,.aN [bP p] 0] (encI (if (is.getD r.left.toNat false && cQ r.right p true)=true then gP r.right else [])):=by
 obtain ⟨hl,hl0,hl1,hr6,hs⟩:=hr
 have hsh:aS r.right:=by unfold aS; omega
 refine cR.of (OB r is p) ?_
 refine aC.of mixed vg ?_
 have hb:is[r.left.toNat]?=some (is[r.left.toNat]'(by omega)):=U9 (by omega)
 have hbd:is.getD r.left.toNat false=is[r.left.toNat]'(by omega):=by simp[U8,hb]
 generalize is[r.left.toNat]'(by omega)=b at hb hbd
 rw[hbd]
 simp (disch:=omega) only [↓wr,seval,wq,ah,ag,ak,aa,ab,af,ai,ae,qE,aO,encI,bP,Vc,hb]
 cases b with
 | false =>
  simp (disch:=omega) only [↓wr,seval,wq,ah,ag,ak,aa,ab,af,ai,ae]
  intro h' hh
  exact .emp _
 | true =>
  simp (disch:=omega) only [↓wr,seval,wq,ah,ag,ak,aa,ab,af,ai,ae,aO,encI,bP]
  refine aD.pure (tL r p hsh (fun s hs'=>⟨(hs s hs').1,fun h=>by rw[hp]; exact (hs s hs').2 h⟩)) (by kernel_rfl) ?_
  repeat' (first | (refine av.dec (fun _=>?_) (fun _=>?_)) | (refine av.eq (fun _=>?_) (fun _=>?_)) | (refine av.ne (fun _=>?_) (fun _=>?_)) | (refine av.split (fun _=>?_) (fun _=>?_)) | (simp (disch:=omega) only [↓wr,seval,wq,ah,ag,ak,aa,ab,af,ai,ae,aO,encI,bP]))
  ·rename_i ha
   rw[Vd (by simp[ha])]
   refine aZ.up r.right.length (fun i T H=>(∃ u,T 5=u∧ba H u 1 ((gP (r.right.take i)).map fun x=>[gi x]))∧T 21=encI r.right∧T 22=gi r.right.length∧T 23=gi i) ?_ ?_
   ·exact ⟨⟨_,rfl,.nil⟩,rfl,rfl,rfl⟩
   rintro i k T H' hk ⟨⟨u,h5,hu⟩,h21,h22,h23⟩
   simp (disch:=omega) only [↓wr,seval,wq,ah,ag,ak,aa,ab,af,ai,ae,ow,h5,h21,h22,h23,encI]
   refine av.dec (fun hc=>?_) (fun hc=>?_)
   ·have hg:r.right[i]?=some (r.right[i]'(by omega)):=U9 (by omega)
    have hm:r.right[i]'(by omega)∈r.right:=Vi _
    have htk:gP (r.right.take (i+1))=gP (r.right.take i) ++ gP [r.right[i]'(by omega)]:=by
     rw[Vx,hg,gP,WB,VB]; rfl
    have hlen:(gP (r.right.take i)).length≤6:=by
     have h1:(gP (r.right.take i)).length≤(r.right.take i).length:=by simp only[gP,Vg]; exact VZ _ _
     have h2:(r.right.take i).length≤i:=List.length_take_le _ _
     omega
    generalize r.right[i]'(by omega)=s at hg hm htk
    obtain ⟨⟨s1,s2⟩,s3⟩:=hs s hm
    simp (disch:=omega) only [↓wr,seval,wq,ah,ag,ak,aa,ab,af,ai,ae,h5,h21,h22,h23,encI,Vc,hg]
    refine av.dec (fun hd=>?_) (fun hd=>?_)
    ·simp (disch:=omega) only [↓wr,seval,wq,ah,ag,ak,aa,ab,af,ai,ae,h5,h21,h22,h23]
     intro m hm
     try simp (disch:=omega) only [↓wr,seval,wq,ah,ag,ak,aa,ab,af,ai,ae,h5,h21,h22,h23,bV]
     refine yf (hu.fresh hm) (by simp) (by simp[aU]) (by unfold aJ; simp at hlen ⊢; omega) (by unfold aJ; simp at hlen ⊢; omega) ?_
     intro u' H2 hu' _
     simp (disch:=omega) only [↓wr,seval,wq,ah,ag,ak,aa,ab,af,ai,ae,h21,h22,h23]
     refine aM hk (by omega) ⟨⟨u',rfl,?_⟩,h21,h22,rfl⟩
     rw[htk]
     simpa [gP,hd] using hu'
    ·simp (disch:=omega) only [↓wr,seval,wq,ah,ag,ak,aa,ab,af,ai,ae,h5,h21,h22,h23]
     refine aM hk (by omega) ⟨⟨u,h5,?_⟩,h21,h22,rfl⟩
     rw[htk]
     simpa [gP,hd] using hu
   ·rw[Vq (by omega)] at hu
    simp (disch:=omega) only [↓wr,seval,wq,ah,ag,ak,aa,ab,af,ai,ae,h5,h21,h22,h23]
    intro h' hh
    exact mQ (by rw[hh]; exact hu)
  ·rename_i ha
   intro h' hh
   rw[Va (by simp[ha])]
   exact .emp _
def rY (is:List Bool) (l:List Int):List Bool:=l.foldl (fun is n=>is.set n.toNat true) is
def stepG (comes:bw→List Bool→List Int) (is:List Bool) (r:bw):List Bool:=rY is (comes r is)
def ej (comes:bw→List Bool→List Int) (rules:List bw) (is:List Bool):List Bool:=rules.foldl (stepG comes) is
def gB (a b:List Bool):Prop:=a.length=b.length∧∀ i,a.getD i false=true→b.getD i false=true
theorem gB.refl (a:List Bool):gB a a:=⟨rfl,fun _ h=>h⟩
theorem gB.trans {a b c:List Bool} (h:gB a b) (k:gB b c):gB a c:=⟨h.1.trans k.1,fun i hi=>k.2 i (h.2 i hi)⟩
theorem gB.set (a:List Bool) (i:Nat):gB a (a.set i true):=by
 refine ⟨by simp,fun j h=>?_⟩
 simp only[U8,WH] at h ⊢
 split
 ·split
  ·rfl
  ·rename_i e h2; rw[← e,VI (by omega)] at h; simp at h
 ·exact h
theorem HT:∀ (l:List Int) (is:List Bool),gB is (rY is l)
 | [],is=>.refl _
 | n :: l,is=>(gB.set is n.toNat).trans (HT l _)
theorem tM (comes:bw→List Bool→List Int):∀ (rules:List bw) (is:List Bool),gB is (ej comes rules is)
 | [],is=>.refl _
 | r :: rs,is=>(HT _ _).trans (tM comes rs _)
def er (a:List Bool):Nat:=a.countP fun x=>x
theorem sx (a:List Bool):er a≤a.length:=List.countP_le_length
theorem gB.er:∀ {a b:List Bool},gB a b→er a≤er b∧(er a=er b→a=b)
 | [],[],_=>⟨Vj _,fun _=>rfl⟩
 | [],_ :: _,h=>by simp[gB] at h
 | _ :: _,[],h=>by simp[gB] at h
 | x :: a,y :: b,h=>by
  have hxy:x=true→y=true:=fun e=>by have:=h.2 0 (by simpa using e); simpa using this
  obtain ⟨h1,h2⟩:=gB.er (a:=a) (b:=b) ⟨by simpa using h.1,fun i hi=>by have:=h.2 (i+1) (by simpa using hi); simpa using this⟩
  unfold Gv.er at h1 h2 ⊢
  simp only[List.countP_cons]
  cases x with
  | true =>
   have:=hxy rfl; subst this
   simp only[if_true]
   exact ⟨by omega,fun e=>by rw[h2 (by omega)]⟩
  | false =>
   cases y with
   | false=>simp only[VA,if_false]; exact ⟨by omega,fun e=>by rw[h2 (by omega)]⟩
   | true=>simp only[VA,if_false,if_true]; exact ⟨by omega,fun e=>by omega⟩
def ir (comes:bw→List Bool→List Int) (rules:List bw):Nat→List Bool→List Bool
 | 0,is=>is
 | k+1,is=>if ej comes rules is=is then is else ir comes rules k (ej comes rules is)
theorem ua (comes:bw→List Bool→List Int) (rules:List bw):∀ (k:Nat) (is:List Bool),is.length≤er is+k→ej comes rules (ir comes rules k is)=ir comes rules k is∧gB is (ir comes rules k is)
 | 0,is,h=>by
  have h1:=tM comes rules is
  have h2:=sx (ej comes rules is)
  have h3:=h1.er
  rw[← h1.1] at h2
  have h4:=sx is
  exact ⟨(h3.2 (by omega)).symm,.refl _⟩
 | k+1,is,h=>by
  simp only[ir]
  by_cases e:ej comes rules is=is
  ·rw[Vd e]; exact ⟨e,.refl _⟩
  ·rw[Va e]
   have h1:=tM comes rules is
   have h3:=h1.er
   have:er is < er (ej comes rules is):=by
    rcases Vy (er is) (er (ej comes rules is)) with h | h
    ·exact h
    ·exact absurd (h3.2 (by omega)).symm e
   obtain ⟨g1,g2⟩:=ua comes rules k (ej comes rules is) (by rw[← h1.1]; omega)
   exact ⟨g1,h1.trans g2⟩
def xz:SC :=
 .seq (ao [bc 26 .lss 25 24]) <|
 .seq (.cond (.tmp 26) (.skip) (.exit 4)) <|
 .seq (.block 5 (.seq (ao [aP 27 1 23 25,ax 28 27,aj 11 28]) <|
 .seq (.region false [⟨none,[aj 29 7,aj 30 29]⟩,⟨(some (30,false)),[aj 31 1,aj 32 11,aP 33 1 31 32,ax 34 33,dd 35 34]⟩,⟨none,[c6 36 30 35,aj 7 36]⟩]) <|
 ao [aj 37 1,aj 38 11,aP 39 1 37 38,(none,.op (.store 1 (.tmp 39) (.val (.val (.bool true)))))])) <|
 ao [aQ 40 .add 25 1,aj 25 40]
def xT:SC :=
 .seq (ao [bc 17 .lss 16 15]) <|
 .seq (.cond (.tmp 17) (.skip) (.exit 2)) <|
 .seq (.block 3 (.seq (ao [aP 18 3 14 16,bp 19 3 18,((some 9),.op (.alloc [(.val (.int .i64 0)),(.emp 1),(.val (.int .i64 0))])),(none,.op (.store 3 (.tmp 9) (.tmp 19)))]) <|
 .seq (ao [aj 20 2,bp 21 3 9,aj 22 1,((some 23),.call (.tmp 20) [(.tmp 21),(.tmp 22)]),aX 24 23,bj 25 0]) <|
 .block 4 (.loop xz))) <|
 ao [aQ 41 .add 16 1,aj 16 41]
def rm:SC :=
 .seq (.seq (ao [aj 12 7]) <|
 .cond (.tmp 12) (.skip) (.exit 0)) <|
 .block 1 (.seq (ao [bK 7 false]) <|
 .seq (ao [aB 13 2 3,ax 14 13,aX 15 14,bj 16 0]) <|
 .block 2 (.loop xT))
def Av:SF:=⟨.seq (ao [cL 3 0,((some 6),.op (.bL (.val (.emp 1))))]) <|
 .seq (.seq (ao [bK 7 true]) <|
 .block 0 (.loop rm)) <|
 .seq (ao [aj 42 1,aj 6 42]) <|
 .ret,
 [.tmp 6],43⟩
theorem Db:aV Tryz.prog 169 [3]=some Av:=by kernel_rfl
theorem Pr {is:List Bool} {i:Nat} (h:is.getD i false=true):is.set i true=is:=by
 apply List.ext_getElem?
 intro j
 simp only[U8] at h
 rw[WH]
 split
 ·rename_i e; subst e
  split
  ·rename_i hl; rw[U9 hl] at h ⊢; simp at h; simp[h]
  ·rename_i hl; rw[VI (by omega)] at h; simp at h
 ·rfl
theorem KV {comes:bw→List Bool→List Int} {rules:List bw} {k:Nat} {is:List Bool} (h:ej comes rules is=is):ir comes rules k is=is:=by
 cases k with
 | zero=>rfl
 | succ k=>simp only[ir,h,if_true]
theorem LL {comes:bw→List Bool→List Int} {rules:List bw} {k:Nat} {is:List Bool} (h:¬ ej comes rules is=is) (hk:is.length≤er is+k):∃ j,k=j+1∧ir comes rules k is=ir comes rules j (ej comes rules is)∧(ej comes rules is).length≤er (ej comes rules is)+j:=by
 have h1:=tM comes rules is
 have h3:=h1.er
 have h5:=sx (ej comes rules is)
 have:er is < er (ej comes rules is):=by
  rcases Vy (er is) (er (ej comes rules is)) with h | h
  ·exact h
  ·exact absurd (h3.2 (by omega)).symm (by assumption)
 have hl:=h1.1
 obtain ⟨j,rfl⟩:∃ j,k=j+1:=⟨k - 1,by omega⟩
 exact ⟨j,rfl,by simp only[ir]; rw[Va h],by omega⟩
theorem Qh {a is:List Bool} {i:Nat} {b:Bool} (hle:gB a is) (hi:i < is.length) (hb:b = !decide (is=a)):(b || !is.getD i false) = !decide (is.set i true=a):=by
 cases hx:is.getD i false with
 | true=>rw[Pr hx,hb]; simp
 | false =>
  have:¬ is.set i true=a:=fun e=>by
   have h1:(is.set i true).getD i false=true:=by simp[U8,hi]
   rw[e] at h1
   have:=hle.2 i h1
   rw[hx] at this; simp at this
  simp[this]
set_option maxHeartbeats 8000000 in
theorem Ds (g:aw) (hr:g.rules.length≤40) (comes:bw→List Bool→List Int) (f:FuncId) (capt capt':List V) (hok:dJ Tryz.prog f=true) (N:Nat) (hN:N≤16)
  (hc:∀ r∈g.rules,∀ is:List Bool,is.length=N→cR Tryz.prog f (.agg (aO r) :: bP is :: capt') (encI (comes r is))∧(comes r is).length≤100∧∀ n∈comes r is,cm n∧0≤n∧n < N)
  (id:Nat) (is0:List Bool) (his:is0.length=N) (H:View) (hH:H id=.arr 1 (dA is0)) (hlent:∀ H':View,(∀ k,H k≠.dead→k≠id→H' k=H k)→nY H' capt capt') :
  aC Tryz.prog 169 [.agg (au g),.sl id 0 N 1,.fn f [] capt] H fun r H'=>r=.sl id 0 N 1∧H' id=.arr 1 (dA (ir comes g.rules 16 is0))∧∀ k,H k≠.dead→k≠id→H' k=H k:=by
 refine aC.of mixed Db ?_
 simp (disch:=omega) only [↓wr,seval,wq,ah,ag,ak,aa,ab,af,ai,ae,Av,au,encS]
 refine aZ.intro (fun k T H'=>∃ is:List Bool,is.length=N∧H' id=.arr 1 (dA is)∧(∀ k,H k≠.dead→k≠id→H' k=H k)∧T 1=.sl id 0 N 1∧T 2=.fn f [] capt∧T 3=.aN (au g) 0 ∧
  ((T 7=gb true∧∃ j,k=j+1∧ir comes g.rules j is=ir comes g.rules 16 is0∧N≤er is+j)∨(T 7=gb false∧is=ir comes g.rules 16 is0))) 17 ?_ ?_
 ·exact ⟨is0,his,hH,fun _ _ _=>rfl,rfl,rfl,rfl,.inl ⟨rfl,16,rfl,rfl,by omega⟩⟩
 rintro k T H1 ⟨is,hlen,hid,hfr,t1,t2,t3,h7⟩
 rcases h7 with ⟨h7,j,rfl,hgr,hj⟩ | ⟨h7,hgr⟩
 ·simp (disch:=omega) only [↓wr,seval,wq,ah,ag,ak,aa,ab,af,ai,ae,rm,t1,t2,t3,h7,au,encS]
  refine aZ.up g.rules.length (fun i T H'=>∃ oV:List Bool,oV.length=N∧gB is oV∧oV=(g.rules.take i).foldl (stepG comes) is∧H' id=.arr 1 (dA oV)∧(∀ k,H k≠.dead→k≠id→H' k=H k)∧T 1=.sl id 0 N 1∧T 2=.fn f [] capt∧T 3=.aN (au g) 0 ∧
   T 7=gb (!decide (oV=is))∧T 14=.aK (g.rules.map aO)∧T 15=gi g.rules.length∧T 16=gi i) ?_ ?_
  ·exact ⟨is,hlen,.refl _,rfl,hid,hfr,t1,t2,t3,by simp; rfl,rfl,rfl,rfl⟩
  clear t1 t2 t3 h7 hid hfr
  rintro i k T H1 hk ⟨oV,hlen2,hle2,hst,hid,hfr,t1,t2,t3,h7,h14,h15,h16⟩
  simp (disch:=omega) only [↓wr,seval,wq,ah,ag,ak,aa,ab,af,ai,ae,xT,t1,t2,t3,h7,h14,h15,h16,au,encS]
  refine av.dec (fun hcc=>?_) (fun hcc=>?_)
  ·have hg2:g.rules[i]?=some (g.rules[i]'(by omega)):=U9 (by omega)
   have hmem:g.rules[i]'(by omega)∈g.rules:=Vi _
   have htk:(g.rules.take (i+1)).foldl (stepG comes) is=stepG comes ((g.rules.take i).foldl (stepG comes) is) (g.rules[i]'(by omega)):=by
    rw[Vx,hg2,VR]; rfl
   generalize g.rules[i]'(by omega)=r at hg2 hmem htk
   obtain ⟨hcp,hcl,hcn⟩:=hc r hmem oV hlen2
   simp (disch:=omega) only [↓wr,seval,wq,ah,ag,ak,aa,ab,af,ai,ae,t1,t2,t3,h7,h14,h15,h16,aO,encI,Vc,hg2]
   intro b hb
   have hbid:b≠id:=by rintro rfl; rw[hid] at hb; simp at hb
   try simp (disch:=omega) only [↓wr,seval,wq,ah,ag,ak,aa,ab,af,ai,ae,t1,t2,t3,h7,h14,h15,h16]
   refine aD.TC hcp hok ⟨dT.tree (cI _ (gL r)),By (by simp[View.set,hbid.symm,hid]) hlen2.symm,hlent _ (fun k hk hki=>?_)⟩ ?_
   ·have hkb:k≠b:=by
     rintro rfl
     rw[hfr k hk hki] at hb
     exact hk hb
    simp[View.set,hkb,hfr k hk hki]
   generalize hl:comes r oV=l at hcl hcn
   simp (disch:=omega) only [↓wr,seval,wq,ah,ag,ak,aa,ab,af,ai,ae,t1,t2,t3,h7,h14,h15,h16,encI]
   refine aZ.up l.length (fun q T H'=>∃ is3:List Bool,is3.length=N∧gB is is3∧is3=rY oV (l.take q)∧H' id=.arr 1 (dA is3)∧(∀ k,H k≠.dead→k≠id→H' k=H k)∧T 1=.sl id 0 N 1∧T 2=.fn f [] capt∧T 3=.aN (au g) 0 ∧
    T 7=gb (!decide (is3=is))∧T 14=.aK (g.rules.map aO)∧T 15=gi g.rules.length∧T 16=gi i∧T 23=encI l∧T 24=gi l.length∧T 25=gi q) ?_ ?_
   ·refine ⟨oV,hlen2,hle2,rfl,by simp[View.set,hbid.symm,hid],fun k hk hki=>?_,t1,t2,t3,h7,h14,h15,h16,rfl,rfl,rfl⟩
    have hkb:k≠b:=by
     rintro rfl
     rw[hfr k hk hki] at hb
     exact hk hb
    simp[View.set,hkb,hfr k hk hki]
   clear t1 t2 t3 h7 h14 h15 h16 hid hfr hb hbid
   rintro q k2 T H1 hk2 ⟨is3,hlen3,hle3,hst3,hid,hfr,t1,t2,t3,h7,h14,h15,h16,h23,h24,h25⟩
   simp (disch:=omega) only [↓wr,seval,wq,ah,ag,ak,aa,ab,af,ai,ae,xz,t1,t2,t3,h7,h14,h15,h16,h23,h24,h25,encI]
   refine av.dec (fun hqc=>?_) (fun hqc=>?_)
   ·have hgq:l[q]?=some (l[q]'(by omega)):=U9 (by omega)
    have hmq:l[q]'(by omega)∈l:=Vi _
    have htq:rY oV (l.take (q+1))=(rY oV (l.take q)).set (l[q]'(by omega)).toNat true:=by
     unfold rY; rw[Vx,hgq,VR]; rfl
    generalize l[q]'(by omega)=n at hgq hmq htq
    obtain ⟨⟨n1,n2⟩,n3,n4⟩:=hcn n hmq
    have hbn:is3.getD n.toNat false=is3[n.toNat]'(by omega):=by simp[U8,show n.toNat < is3.length by omega]
    have hnew:=Qh hle3 (show n.toNat < is3.length by omega) (b:=!decide (is3=is)) rfl
    rw[hbn] at hnew
    have hbg:=kP (show n.toNat < is3.length by omega)
    generalize is3[n.toNat]'(by omega)=x at hnew hbg hbn
    have fin:∀ (T2:Env),T2 7=gb (!decide (is3.set n.toNat true=is))→T2 1=.sl id 0 N 1→T2 2=.fn f [] capt→T2 3=.aN (au g) 0→T2 14=.aK (g.rules.map aO)→T2 15=gi g.rules.length→T2 16=gi i→T2 23=encI l→T2 24=gi l.length→T2 25=gi ((q:Int)+1) →
      ∃ k',k' < k2∧Cn l.length k' (fun q T H'=>∃ is3:List Bool,is3.length=N∧gB is is3∧is3=rY oV (l.take q)∧H' id=.arr 1 (dA is3)∧(∀ k,H k≠.dead→k≠id→H' k=H k)∧T 1=.sl id 0 N 1∧T 2=.fn f [] capt∧T 3=.aN (au g) 0 ∧
       T 7=gb (!decide (is3=is))∧T 14=.aK (g.rules.map aO)∧T 15=gi g.rules.length∧T 16=gi i∧T 23=encI l∧T 24=gi l.length∧T 25=gi q) T2 (H1.set id (.arr 1 (dA (is3.set n.toNat true)))):=by
     intro T2 a7 a1 a2 a3 a14 a15 a16 a23 a24 a25
     refine aM hk2 (by omega) ⟨is3.set n.toNat true,by simp[hlen3],hle3.trans (.set _ _),by rw[htq,← hst3],by simp[View.set],fun k hk hki=>by simp[View.set,hki,hfr k hk hki],a1,a2,a3,a7,a14,a15,a16,a23,a24,by rw[a25]; rfl⟩
    simp (disch:=omega) only [↓wr,seval,wq,ah,ag,ak,aa,ab,af,ai,ae,t1,t2,t3,h7,h14,h15,h16,h23,h24,h25,encI,Vc,hgq]
    refine av.dec (fun e=>?_) (fun e=>?_)
    ·simp (disch:=omega) only [↓wr,seval,wq,ah,ag,ak,aa,ab,af,ai,ae,t1,t2,t3,h7,h14,h15,h16,h23,h24,h25,encI,hid,hbg,Vg]
     refine ⟨by omega,by omega,?_⟩
     try simp (disch:=omega) only [↓wr,seval,wq,ah,ag,ak,aa,ab,af,ai,ae,t1,t2,t3,h7,h14,h15,h16,h23,h24,h25,encI,hid,hbg,Vg]
     refine ⟨by omega,by omega,?_⟩
     rw[lh]
     exact fin _ (by rw[← hnew]; simp[e]; rfl) t1 t2 t3 h14 h15 h16 h23 h24 rfl
    ·simp (disch:=omega) only [↓wr,seval,wq,ah,ag,ak,aa,ab,af,ai,ae,t1,t2,t3,h7,h14,h15,h16,h23,h24,h25,encI,hid,hbg,Vg]
     refine ⟨by omega,by omega,?_⟩
     rw[lh]
     exact fin _ (by rw[← hnew]; simp[e]; rfl) t1 t2 t3 h14 h15 h16 h23 h24 rfl
   ·rw[Vq (by omega)] at hst3
    simp (disch:=omega) only [↓wr,seval,wq,ah,ag,ak,aa,ab,af,ai,ae,t1,t2,t3,h7,h14,h15,h16,h23,h24,h25]
    refine aM hk (by omega) ⟨is3,hlen3,hle3,?_,hid,hfr,t1,t2,t3,h7,h14,h15,rfl⟩
    rw[htk,← hst,stepG,hl,← hst3]
  ·rw[Vq (by omega)] at hst
   simp (disch:=omega) only [↓wr,seval,wq,ah,ag,ak,aa,ab,af,ai,ae,t1,t2,t3,h7,h14,h15,h16]
   have hrd:oV=ej comes g.rules is:=hst
   by_cases e:oV=is
   ·refine ⟨0,by omega,oV,hlen2,hid,hfr,rfl,.inr ⟨by simp[e],?_⟩⟩
    rw[← hgr,e]
    exact (KV (by rw[← hrd]; exact e)).symm
   ·obtain ⟨j2,rfl,e2,e3⟩:=LL (k:=j) (fun h=>e (hrd.trans h)) (by rw[hlen]; exact hj)
    refine ⟨j2+1,by omega,oV,hlen2,hid,hfr,rfl,.inl ⟨by simp[e],j2,rfl,?_,?_⟩⟩
    ·rw[← hgr,e2,hrd]
    ·rw[← hrd,hlen2] at e3; exact e3
 ·simp (disch:=omega) only [↓wr,seval,wq,ah,ag,ak,aa,ab,af,ai,ae,rm,t1,t2,t3,h7,au,encS]
  exact ⟨hgr ▸ hid,hfr⟩
theorem xl {α:Type} {f:α→α} {x:α} (h:f x=x):∀ n,iter f n x=x
 | 0=>rfl
 | n+1=>by rw[iter,h,xl h n]
theorem HD {α:Type} (f:α→α):∀ (a b:Nat) (x:α),iter f (a+b) x=iter f b (iter f a x)
 | 0,b,x=>by rw[Wa]; rfl
 | a+1,b,x=>by rw[Nat.add_right_comm,iter,iter,HD f a b]
theorem C3 (comes:bw→List Bool→List Int) (rules:List bw):∀ (k:Nat) (is:List Bool),ir comes rules k is=iter (ej comes rules) k is
 | 0,is=>rfl
 | k+1,is=>by
  simp only[ir,iter]
  by_cases e:ej comes rules is=is
  ·rw[Vd e,e,xl e]
  ·rw[Va e,C3 comes rules k]
theorem zq (comes:bw→List Bool→List Int) (rules:List bw) (is:List Bool) (h:is.length≤16):ir comes rules 16 is=iter (ej comes rules) is.length is:=by
 have h1:=(ua comes rules is.length is (by omega)).1
 rw[C3] at h1 ⊢
 obtain ⟨m,hm⟩:∃ m,16=is.length+m:=⟨16 - is.length,by omega⟩
 rw[hm,HD,xl h1]
def mg (t:Bool) (r:bw) (is:List Bool):List Int:=if cQ r.right is t=true then [r.left] else []
def ta (p:List Bool) (r:bw) (is:List Bool):List Int:=if (is.getD r.left.toNat false && cQ r.right p true)=true then gP r.right else []
theorem Ka (g:aw) (t:Bool):ej (mg t) g.rules=kd g t:=by
 funext is
 unfold ej kd
 congr 1
 funext is r
 unfold stepG mg eE
 split <;> rfl
theorem Ce:∀ (l:List Int) (is:List Bool),rY is (gP l)=l.foldl mark is
 | [],is=>rfl
 | s :: l,is=>by
  have ih:=Ce l
  unfold rY gP at ih ⊢
  rw[VF,← ih]
  unfold mark
  by_cases h:s < 0
  ·rw[Vd h,List.filter_cons_of_pos (by simpa using h)]; rfl
  ·rw[Va h,List.filter_cons_of_neg (by simpa using h)]
theorem KE (g:aw) (p:List Bool):ej (ta p) g.rules=qC g p:=by
 funext is
 unfold ej qC
 congr 1
 funext is r
 unfold stepG ta ig
 split
 ·exact Ce _ _
 ·rfl
theorem GH {g:aw} (h:bS g=true) (t:Bool):ir (mg t) g.rules 16 (cp g)=aA g t:=by
 have hf:=bO h
 have hl:(cp g).length=g.az.length:=by simp[cp]
 have:=hf.az
 rw[zq _ _ _ (by rw[hl]; exact hf.az),Ka,hl,aA,Vd h]
theorem OJ {g:aw} (h:bS g=true):ir (ta (aA g true)) g.rules 16 ((cp g).set g.start.toNat true)=ca g:=by
 have hf:=bO h
 have hl:((cp g).set g.start.toNat true).length=g.az.length:=by simp[cp]
 rw[zq _ _ _ (by rw[hl]; exact hf.az),KE,hl,ca,Vd h]
def tT:SF:=⟨.seq (ao [cL 1 0,((some 2),.op (.bL (.val (.emp 1))))]) <|
 .seq (.seq (ao [bp 3 4 1,bC 4 52 [3],dd 5 4]) <|
 .cond (.tmp 5) (.seq (ao [((some 2),.op (.bL (.val (.emp 1))))]) <|
 .ret) (.skip)) <|
 .seq (ao [bp 6 4 1,aB 7 1 1,ax 8 7,aX 9 8,((some 10),.op (.make 1 1 [(.val (.bool false))] (.tmp 9) (.tmp 9))),oc 11 169 [(.tmp 6),(.tmp 10),(.val (.fn 170 [] []))],aj 2 11]) <|
 .ret,
 [.tmp 2],12⟩
theorem yL:aV Tryz.prog 118 [1]=some tT:=by kernel_rfl
def rG:SF:=⟨.seq (ao [cL 1 0,((some 2),.op (.bL (.val (.emp 1))))]) <|
 .seq (.seq (ao [bp 3 4 1,bC 4 52 [3],dd 5 4]) <|
 .cond (.tmp 5) (.seq (ao [((some 2),.op (.bL (.val (.emp 1))))]) <|
 .ret) (.skip)) <|
 .seq (ao [bp 6 4 1,aB 7 1 1,ax 8 7,aX 9 8,((some 10),.op (.make 1 1 [(.val (.bool false))] (.tmp 9) (.tmp 9))),oc 11 169 [(.tmp 6),(.tmp 10),(.val (.fn 195 [] []))],aj 2 11]) <|
 .ret,
 [.tmp 2],12⟩
theorem wL:aV Tryz.prog 157 [1]=some rG:=by kernel_rfl
def sQ:SF:=⟨.seq (ao [cL 1 0,((some 2),.op (.bL (.val (.emp 1))))]) <|
 .seq (.seq (ao [bp 5 4 1,bC 6 52 [5],dd 7 6]) <|
 .cond (.tmp 7) (.seq (ao [((some 2),.op (.bL (.val (.emp 1))))]) <|
 .ret) (.skip)) <|
 .seq (ao [bp 8 4 1,bC 9 157 [8],((some 3),.op (.alloc [(.emp 1)])),(none,.op (.store 1 (.tmp 3) (.tmp 9)))]) <|
 .seq (ao [aB 10 1 1,ax 11 10,aX 12 11,((some 13),.op (.make 1 1 [(.val (.bool false))] (.tmp 12) (.tmp 12))),aj 4 13]) <|
 .seq (ao [aj 14 4,aB 15 3 1,ax 16 15,aP 17 1 14 16,(none,.op (.store 1 (.tmp 17) (.val (.val (.bool true)))))]) <|
 .seq (ao [bp 18 4 1,aj 19 4,((some 20),.op (.sD 196 [] [(.tmp 3)])),bC 21 169 [18,19,20],aj 2 21]) <|
 .ret,
 [.tmp 2],22⟩
theorem x4:aV Tryz.prog 158 [1]=some sQ:=by kernel_rfl
structure aw.Small (g:aw):Prop where
 names:g.az.length+g.ay.length≤1000
theorem zj {h':aL} {id n:Nat} {is:List Bool} (hv:h'.view id=.arr 1 (dA is)) (hn:n=is.length):eu h' (.sl id 0 n 1) (bP is):=by
 subst hn; exact yq hv
set_option maxHeartbeats 2000000 in
theorem yB (g:aw) (hg:g.Ok) (hs:g.Small):cR Tryz.prog 118 [.agg (au g)] (bP (aA g false)):=by
 refine cR.of (dZ g) ?_
 refine aC.of mixed yL ?_
 have hn:=hg.az
 unfold aS at hn
 simp (disch:=omega) only [↓wr,seval,wq,ah,ag,ak,aa,ab,af,ai,ae,tT,au,encS]
 refine aD.pure (ub g hg hs.names) (by kernel_rfl) ?_
 repeat' (first | (refine av.dec (fun _=>?_) (fun _=>?_)) | (refine av.eq (fun _=>?_) (fun _=>?_)) | (refine av.ne (fun _=>?_) (fun _=>?_)) | (refine av.split (fun _=>?_) (fun _=>?_)) | (simp (disch:=omega) only [↓wr,seval,wq,ah,ag,ak,aa,ab,af,ai,ae,au,encS]))
 ·rename_i hr
  have hf:=bO hr
  have h1:=hf.p9
  have h2:=hf.az
  try simp (disch:=omega) only [↓wr,seval,wq,ah,ag,ak,aa,ab,af,ai,ae,au,encS]
  refine ⟨⟨by omega,by unfold aJ; omega,by unfold aJ; omega⟩,fun h=>by omega,?_⟩
  intro _ n
  try simp (disch:=omega) only [↓wr,seval,wq,ah,ag,ak,aa,ab,af,ai,ae,au,encS]
  refine aD.dP ((Ds g hf.rules (mg false) 170 [] [] (by kernel_rfl) g.az.length h2 (fun r hr' is his=>⟨Hk r is (by rw[his]; exact hf.tb hg hr'),?_,?_⟩) n (cp g) (by simp[cp]) _ (by simp[View.set,cp]) (fun H' _=>trivial)).mono ?_)
  ·unfold mg; split <;> simp
  ·intro m hm
   unfold mg at hm
   split at hm
   ·simp only[VY] at hm; subst hm
    exact ⟨(hg.aF r hr').1,hf.left r hr'⟩
   ·simp at hm
  ·rintro r H' ⟨rfl,hid,_⟩
   simp (disch:=omega) only [↓wr,seval,wq,ah,ag,ak,aa,ab,af,ai,ae]
   intro h' hh
   rw[GH hr] at hid
   exact zj (by rw[hh]; exact hid) (fk hr _).symm
 ·rename_i hr
  intro h' hh
  simp only[aA,hr]
  exact .emp _
set_option maxHeartbeats 2000000 in
theorem vf (g:aw) (hg:g.Ok) (hs:g.Small):cR Tryz.prog 157 [.agg (au g)] (bP (aA g true)):=by
 refine cR.of (dZ g) ?_
 refine aC.of mixed wL ?_
 have hn:=hg.az
 unfold aS at hn
 simp (disch:=omega) only [↓wr,seval,wq,ah,ag,ak,aa,ab,af,ai,ae,rG,au,encS]
 refine aD.pure (ub g hg hs.names) (by kernel_rfl) ?_
 repeat' (first | (refine av.dec (fun _=>?_) (fun _=>?_)) | (refine av.eq (fun _=>?_) (fun _=>?_)) | (refine av.ne (fun _=>?_) (fun _=>?_)) | (refine av.split (fun _=>?_) (fun _=>?_)) | (simp (disch:=omega) only [↓wr,seval,wq,ah,ag,ak,aa,ab,af,ai,ae,au,encS]))
 ·rename_i hr
  have hf:=bO hr
  have h1:=hf.p9
  have h2:=hf.az
  try simp (disch:=omega) only [↓wr,seval,wq,ah,ag,ak,aa,ab,af,ai,ae,au,encS]
  refine ⟨⟨by omega,by unfold aJ; omega,by unfold aJ; omega⟩,fun h=>by omega,?_⟩
  intro _ n
  try simp (disch:=omega) only [↓wr,seval,wq,ah,ag,ak,aa,ab,af,ai,ae,au,encS]
  refine aD.dP ((Ds g hf.rules (mg true) 195 [] [] (by kernel_rfl) g.az.length h2 (fun r hr' is his=>⟨DT r is (by rw[his]; exact hf.tb hg hr'),?_,?_⟩) n (cp g) (by simp[cp]) _ (by simp[View.set,cp]) (fun H' _=>trivial)).mono ?_)
  ·unfold mg; split <;> simp
  ·intro m hm
   unfold mg at hm
   split at hm
   ·simp only[VY] at hm; subst hm
    exact ⟨(hg.aF r hr').1,hf.left r hr'⟩
   ·simp at hm
  ·rintro r H' ⟨rfl,hid,_⟩
   simp (disch:=omega) only [↓wr,seval,wq,ah,ag,ak,aa,ab,af,ai,ae]
   intro h' hh
   rw[GH hr] at hid
   exact zj (by rw[hh]; exact hid) (fk hr _).symm
 ·rename_i hr
  intro h' hh
  simp only[aA,hr]
  exact .emp _
theorem pW {g:aw} (hr:bS g=true):(ca g).length=g.az.length:=by
 rw[ca,Vd hr,Bd (f:=qC g (aA g true)) (fun is=>AZ (fun is x=>NH _ is x) g.rules is)]
 simp[cp]
set_option maxHeartbeats 2000000 in
theorem FJ (g:aw) (hg:g.Ok) (hs:g.Small):cR Tryz.prog 158 [.agg (au g)] (bP (ca g)):=by
 refine cR.of (dZ g) ?_
 refine aC.of mixed x4 ?_
 have hn:=hg.az
 unfold aS at hn
 simp (disch:=omega) only [↓wr,seval,wq,ah,ag,ak,aa,ab,af,ai,ae,sQ,au,encS]
 refine aD.pure (ub g hg hs.names) (by kernel_rfl) ?_
 repeat' (first | (refine av.dec (fun _=>?_) (fun _=>?_)) | (refine av.eq (fun _=>?_) (fun _=>?_)) | (refine av.ne (fun _=>?_) (fun _=>?_)) | (refine av.split (fun _=>?_) (fun _=>?_)) | (simp (disch:=omega) only [↓wr,seval,wq,ah,ag,ak,aa,ab,af,ai,ae,au,encS]))
 ·rename_i hr
  have hf:=bO hr
  have h1:=hf.p9
  have h2:=hf.az
  have h3:=hf.me
  have h4:=hf.start
  have hpl:=fk hr true
  try simp (disch:=omega) only [↓wr,seval,wq,ah,ag,ak,aa,ab,af,ai,ae,au,encS]
  refine aD.pure (vf g hg hs).pure (by kernel_rfl) ?_
  simp (disch:=omega) only [↓wr,seval,wq,ah,ag,ak,aa,ab,af,ai,ae,au,encS,bP]
  intro q
  try simp (disch:=omega) only [↓wr,seval,wq,ah,ag,ak,aa,ab,af,ai,ae,au,encS,set_set]
  refine ⟨⟨by omega,by unfold aJ; omega,by unfold aJ; omega⟩,fun h=>by omega,?_⟩
  intro _ n hn'
  have hnq:=(de hn' c7).1
  try simp (disch:=omega) only [↓wr,seval,wq,ah,ag,ak,aa,ab,af,ai,ae,au,encS,set_set]
  have hbg:=kP (is:=cp g) (show g.start.toNat < (cp g).length by simp[cp]; omega)
  refine ⟨by omega,by simp; omega,?_⟩
  refine aD.dP ((Ds g hf.rules (ta (aA g true)) 196 [.ptr q 0 0] [.aN [bP (aA g true)] 0] (by kernel_rfl) g.az.length h2 (fun r hr' is his=>⟨FF r is (aA g true) (by rw[his]; exact hf.tb hg hr') (by rw[his,hpl]),?_,?_⟩) n ((cp g).set g.start.toNat true) (by simp[cp]) _ ?_ (fun H' hfr=>⟨dT.box (z:=1) ?_ ?_,trivial⟩)).mono ?_)
  ·have h6:=hf.right r hr'
   unfold ta
   split
   ·have:(gP r.right).length≤r.right.length:=by simp only[gP,Vg]; exact VZ _ _
    omega
   ·simp
  ·intro m hm
   unfold ta at hm
   split at hm
   ·simp only[gP,Vw,VX,Vo] at hm
    obtain ⟨s,⟨hs',hneg⟩,rfl⟩:=hm
    have a:=hf.neg hr' hs' hneg
    have b:=((hg.aF r hr').2.2.2 s hs').1
    exact ⟨⟨by omega,by omega⟩,by omega,a⟩
   ·simp at hm
  ·simp only[View.set,if_true]
   congr 1
   rw[← lh]
   unfold cp at hbg ⊢
   rw[zF,hbg]
   rfl
  ·rw[hfr q (by simp[View.set,Ne.symm hnq]) (Ne.symm hnq)]
   simp[View.set,Ne.symm hnq]
   rfl
  ·intro v hv; simp at hv; subst hv; exact gN _
  ·rintro r H' ⟨rfl,hid,_⟩
   simp (disch:=omega) only [↓wr,seval,wq,ah,ag,ak,aa,ab,af,ai,ae]
   intro h' hh
   rw[OJ hr] at hid
   exact zj (by rw[hh]; exact hid) (by rw[pW hr])
 ·rename_i hr
  intro h' hh
  simp only[ca,hr]
  exact .emp _
def ct (p q:List Bool) (r:bw):Bool:=q.getD r.left.toNat false && cQ r.right p true
def c8 (p q:List Bool):List bw→Int→List Int
 | [],_=>[]
 | r :: l,i=>if ct p q r=true then i :: c8 p q l (i+1) else c8 p q l (i+1)
def fZ (acc:List Int) (r:bw):List Int:=if r.left∈acc then acc else acc ++ [r.left]
def cy (p q:List Bool) (l:List bw):List Int:=(l.filter (ct p q)).foldl fZ []
def bW (o:List Int) (x:Int):Int:=cE (fun y=>y == x) o 0
def bY (f:Int→Int) (r:bw):bw:=⟨f r.left,r.right.map fun s=>if s < 0 then -1 - f (-1 - s) else s,r.prec⟩
def rp (g:aw) (f:Int→Int) (p q:List Bool):aw :=
 ⟨g.ay,(cy p q g.rules).map fun x=>g.az.getD x.toNat ⟨#[]⟩,(g.rules.filter (ct p q)).map (bY f),f g.start⟩
def uW:aw:=⟨[],[],[],0⟩
instance:DecidableEq Term:=fun a b=>decidable_of_iff (a.name=b.name∧a.level=b.level∧a.assoc=b.assoc) (by cases a; cases b; simp)
instance:DecidableEq bw:=fun a b=>decidable_of_iff (a.left=b.left∧a.prec=b.prec∧a.right=b.right) (by cases a; cases b; simp[and_comm])
instance:DecidableEq aw:=fun a b=>decidable_of_iff (a.ay=b.ay∧a.az=b.az∧a.rules=b.rules∧a.start=b.start) (by cases a; cases b; simp)
def gm (g:aw):aw × List Int × Int :=
 if bS g=true then
  if (aA g true).getD g.start.toNat false=true then (rp g (bW (cy (aA g true) (ca g) g.rules)) (aA g true) (ca g),c8 (aA g true) (ca g) g.rules 0,0)
  else (uW,[],9)
 else (uW,[],1)
theorem sK {g:aw} (hr:bS g=true):gm g=if (aA g true).getD g.start.toNat false=true then (rp g (bW (cy (aA g true) (ca g) g.rules)) (aA g true) (ca g),c8 (aA g true) (ca g) g.rules 0,0) else (uW,[],9):=by
 rw[gm,Vd hr]
theorem kI (p q:List Bool):∀ (a b:List bw) (i:Int),c8 p q (a ++ b) i=c8 p q a i ++ c8 p q b (i+a.length)
 | [],b,i=>by simp[c8]
 | r :: a,b,i=>by
  simp only[VL,c8,kI p q a b (i+1),Vr]
  have:i+1+(a.length:Int)=i+((a.length+1:Nat):Int):=by push_cast; omega
  rw[this]
  split <;> simp
theorem kL (p q:List Bool):∀ (a:List bw) (i:Int),(c8 p q a i).length=(a.filter (ct p q)).length
 | [],i=>rfl
 | r :: a,i=>by
  simp only[c8,Xb]
  split <;> simp[kL p q a]
theorem tX (p q:List Bool):∀ (a:List bw) (i:Int) (k:Nat),k < (c8 p q a i).length→∃ m:Nat,(c8 p q a i)[k]?=some (i+m)∧a[m]?=(a.filter (ct p q))[k]?∧m < a.length
 | [],i,k,h=>by simp[c8] at h
 | r :: a,i,k,h=>by
  simp only[c8,Xb] at h ⊢
  by_cases hr:ct p q r=true
  ·rw[Vd hr] at h ⊢
   rw[Vd hr]
   cases k with
   | zero=>exact ⟨0,by simp,by simp,by simp⟩
   | succ k =>
    obtain ⟨m,h1,h2,h3⟩:=tX p q a (i+1) k (by simpa using h)
    exact ⟨m+1,by rw[VU,h1]; congr 1; push_cast; omega,by simpa using h2,by simpa using h3⟩
  ·rw[Va hr] at h ⊢
   rw[Va hr]
   obtain ⟨m,h1,h2,h3⟩:=tX p q a (i+1) k h
   exact ⟨m+1,by rw[h1]; congr 1; push_cast; omega,by simpa using h2,by simpa using h3⟩
theorem tZ (p q:List Bool) (l:List bw) (r:bw):cy p q (l ++ [r])=if ct p q r=true then fZ (cy p q l) r else cy p q l:=by
 unfold cy
 rw[WB]
 by_cases h:ct p q r=true
 ·rw[Vd h,List.filter_cons_of_pos h,VR]; rfl
 ·rw[Va h,List.filter_cons_of_neg h]; simp
theorem BG {acc:List Int} {r:bw} (h:acc.Nodup):(fZ acc r).Nodup:=by
 unfold fZ
 split
 ·exact h
 ·rename_i hn
  rw[V2]
  exact ⟨h,by simp,fun a ha b hb e=>hn (by simp at hb; rw[← hb,← e]; exact ha)⟩
theorem tc {o:List Int} {x:Int} : bW o x < 0↔x ∉ o:=by
 have:=sX (fun y=>y == x) o 0 (by omega)
 unfold bW
 rw[← Int.not_le]
 constructor
 ·intro h hx
  have e:(o.any fun y=>y == x)=true:=List.any_eq_true.2 ⟨x,hx,by simp⟩
  rw[e] at this; exact h (by simpa using this)
 ·intro h hx
  have e:(o.any fun y=>y == x)=true:=by rw[← this]; simpa using hx
  obtain ⟨y,hy,e⟩:=List.any_eq_true.1 e
  simp at e; subst e; exact h hy
theorem uy {α:Type} (p:α→Bool):∀ (a b:List α) (i:Int),0≤i→cE p (a ++ b) i=if 0≤cE p a i then cE p a i else cE p b (i+a.length)
 | [],b,i,_=>by simp[cE]
 | x :: a,b,i,h=>by
  by_cases hp:p x=true
  ·simp[cE,hp,h]
  ·simp only[VL,cE,Va hp]
   rw[uy p a b (i+1) (by omega)]
   have:i+1+(a.length:Int)=i+(((x :: a).length:Nat):Int):=by simp; omega
   rw[this]
theorem OS {o:List Int} {x y:Int} (hx:x ∉ o):bW (o ++ [x]) y=if y=x then (o.length:Int) else bW o y:=by
 unfold bW
 rw[uy _ _ _ _ (by omega)]
 by_cases e:y=x
 ·subst e
  rw[Va (by have:=tc.2 hx; unfold bW at this; omega),Vd rfl]
  simp[cE]
 ·rw[Va e]
  split
  ·rfl
  ·rename_i h
   have:bW o y < 0:=by unfold bW; omega
   have h2:cE (fun z=>z == y) [x] (0+(o.length:Int)) = -1:=by simp[cE,Ne.symm e]
   rw[h2]
   have:∀ (l:List Int) (i:Int),¬ 0≤cE (fun z=>z == y) l i→0≤i→cE (fun z=>z == y) l i = -1:=by
    intro l
    induction l with
    | nil=>intro i _ _; rfl
    | cons z l ih =>
     intro i h1 h2
     simp only[cE] at h1 ⊢
     split
     ·rename_i hz; rw[Vd hz] at h1; omega
     ·rename_i hz; rw[Va hz] at h1; exact ih _ h1 (by omega)
   exact (this o 0 h (by omega)).symm
theorem pC {o:List Int} {x:Int} (h:x∈o):0≤bW o x∧bW o x < o.length:=by
 have h0:¬ bW o x < 0:=fun e=>tc.1 e h
 refine ⟨by omega,?_⟩
 unfold bW
 have:∀ (l:List Int) (i:Int),cE (fun z=>z == x) l i < i+l.length∨cE (fun z=>z == x) l i = -1:=by
  intro l
  induction l with
  | nil=>intro i; right; rfl
  | cons z l ih =>
   intro i
   simp only[cE]
   split
   ·left; simp; omega
   ·rcases ih (i+1) with h | h
    ·left; simp at h ⊢; omega
    ·right; exact h
 rcases this o 0 with h1 | h1
 ·simpa using h1
 ·unfold bW at h0; omega
theorem Rs (o:List Int) (x:Int) : -1≤bW o x∧bW o x≤o.length:=by
 by_cases h:x∈o
 ·have:=pC h; omega
 ·have h1:=tc.2 h
  have h2:∀ (l:List Int) (i:Int),0≤i→-1≤cE (fun z=>z == x) l i:=by
   intro l
   induction l with
   | nil=>intro i _; simp[cE]
   | cons z l ih =>
    intro i hi
    simp only[cE]
    split
    ·omega
    ·exact ih _ (by omega)
  have:=h2 o 0 (by omega)
  unfold bW at h1 ⊢
  omega
def jJ:List Int→Int→List (Int × Int)
 | [],_=>[]
 | x :: l,i=>(x,i) :: jJ l (i+1)
theorem tB (x:Int):∀ (o:List Int) (i:Int),eA (jJ o i) x=if x∈o then some (cE (fun y=>y == x) o i) else none
 | [],i=>by simp[jJ,eA]
 | y :: o,i=>by
  have ih:=tB x o (i+1)
  unfold eA at ih ⊢
  simp only[jJ,WV,cE]
  by_cases e:x=y
  ·subst e; simp
  ·have e2:¬ ((y == x)=true):=by simp[Ne.symm e]
   rw[show (x == y)=false by simp[e],Va e2]
   simp only
   rw[ih]
   simp[e]
theorem Fb {x v:Int} : ∀ {o:List Int} {i:Int},x ∉ o→kg x v (jJ o i)=jJ o i ++ [(x,v)]
 | [],i,_=>rfl
 | y :: o,i,h=>by
  simp only[Vp,not_or] at h
  simp only[jJ,kg,show (x == y)=false by simp[h.1],VA,if_false,Fb h.2,VL]
theorem Cd {x:Int} : ∀ {o:List Int} {i:Int},jJ (o ++ [x]) i=jJ o i ++ [(x,i+o.length)]
 | [],i=>by simp[jJ]
 | y :: o,i=>by
  simp only[VL,jJ,Cd (o:=o),Vr]
  congr 4
  push_cast; omega
def ep (o:List Int) (x:Int):Int:=(eA (jJ o 0) x).getD 0
theorem zZ {o:List Int} {x:Int} (h:x∈o):ep o x=bW o x:=by
 simp[ep,tB,h,bW]
theorem RR (o:List Int) (x:Int):0≤ep o x∧ep o x≤o.length:=by
 by_cases h:x∈o
 ·rw[zZ h]; have:=pC h; omega
 ·simp[ep,tB,h]
theorem Ov {g:aw} {p q:List Bool} (hst:g.start∈cy p q g.rules) (hin:∀ r∈g.rules.filter (ct p q),r.left∈cy p q g.rules∧∀ s∈r.right,s < 0→-1 - s∈cy p q g.rules) :
  rp g (ep (cy p q g.rules)) p q=rp g (bW (cy p q g.rules)) p q:=by
 unfold rp
 congr 1
 ·apply Xh
  intro r hr
  obtain ⟨h1,h2⟩:=hin r hr
  unfold bY
  congr 1
  ·exact zZ h1
  ·apply Xh
   intro s hs
   split
   ·rename_i h; rw[zZ (h2 s hs h)]
   ·rfl
 ·exact zZ hst
theorem vS:∀ (l:List bw) (acc:List Int) (x:Int),x∈l.foldl fZ acc↔x∈acc∨∃ r∈l,r.left=x
 | [],acc,x=>by simp
 | r :: l,acc,x=>by
  rw[VF,vS l]
  have:x∈fZ acc r↔x∈acc∨r.left=x:=by
   unfold fZ
   split
   ·rename_i h
    constructor
    ·exact .inl
    ·rintro (h' | rfl)
     ·exact h'
     ·exact h
   ·simp[eq_comm]
  rw[this]
  simp only[Vp,exists_eq_or_imp]
  constructor
  ·rintro ((h | h) | h)
   ·exact .inl h
   ·exact .inr (.inl h)
   ·exact .inr (.inr h)
  ·rintro (h | h | h)
   ·exact .inl (.inl h)
   ·exact .inl (.inr h)
   ·exact .inr h
theorem sL {p q:List Bool} {l:List bw} {x:Int} : x∈cy p q l↔∃ r∈l,ct p q r=true∧r.left=x:=by
 unfold cy
 rw[vS]
 simp[VX,and_assoc]
def mj:SC :=
 .seq (.seq (ao [aj 42 9,aj 43 8,aX 44 43,bc 45 .lss 42 44]) <|
 .cond (.tmp 45) (.skip) (.exit 0)) <|
 .seq (.block 1 (ao [aj 48 8,aj 49 9,aP 50 1 48 49,(none,.op (.store 1 (.tmp 50) (.val (.val (.int .i64 (-1))))))])) <|
 ao [aj 46 9,aQ 47 .add 46 1,aj 9 47]
def lZ:SC :=
 .seq (.seq (ao [aj 51 11,aB 52 2 1,ax 53 52,aX 54 53,bc 55 .lss 51 54]) <|
 .cond (.tmp 55) (.skip) (.exit 2)) <|
 .seq (.block 3 (.seq (ao [aB 58 2 1,ax 59 58,aj 60 11,aP 61 3 59 60,bp 62 3 61,((some 12),.op (.alloc [(.val (.int .i64 0)),(.emp 1),(.val (.int .i64 0))])),(none,.op (.store 3 (.tmp 12) (.tmp 62)))]) <|
 .seq (.seq (.region false [⟨none,[aj 63 6,aB 64 0 12,ax 65 64,aP 66 1 63 65,ax 67 66,dd 68 67,aj 69 68]⟩,⟨(some (69,false)),[aB 70 1 12,ax 71 70,aj 72 5,oc 73 117 [(.tmp 71),(.tmp 72),(.val (.val (.bool true)))],dd 74 73]⟩,⟨none,[c6 75 69 74]⟩]) <|
 .cond (.tmp 75) (.exit 3) (.skip)) <|
 .seq (ao [aj 76 10,aj 77 11,((some 78),.op (.cg 1 1 [(.val (.int .i64 0))] [(0,(.tmp 77))])),((some 79),.op (.app 1 8 (.tmp 76) (.tmp 78))),aj 10 79]) <|
 .seq (ao [aj 80 8,aB 81 0 12,ax 82 81,aP 83 1 80 82,ax 84 83,aQ 85 .lss 84 0]) <|
 .cond (.tmp 85) (.seq (ao [aj 86 8,aB 87 0 12,ax 88 87,aB 89 1 7,ax 90 89,aX 91 90,aP 92 1 86 88,(none,.op (.store 1 (.tmp 92) (.tmp 91)))]) <|
 .region false [⟨none,[aB 93 1 7,ax 94 93,aB 95 1 1,ax 96 95,aB 97 0 12,ax 98 97,aP 99 1 96 98,ax 100 99,((some 101),.op (.cg 1 1 [(.val (.string ⟨#[]⟩))] [(0,(.tmp 100))])),((some 102),.op (.app 1 16 (.tmp 94) (.tmp 101))),aB 103 1 7,(none,.op (.store 1 (.tmp 103) (.tmp 102)))]⟩]) (.skip))) <|
 ao [aj 56 11,aQ 57 .add 56 1,aj 11 57]
def mc:SC :=
 .seq (.seq (ao [aj 126 16,aB 127 1 14,ax 128 127,aX 129 128,bc 130 .lss 126 129]) <|
 .cond (.tmp 130) (.skip) (.exit 6)) <|
 .seq (.block 7 (.seq (ao [aB 133 1 14,ax 134 133,aj 135 16,aP 136 1 134 135,ax 137 136,aj 17 137]) <|
 .seq (.seq (ao [aj 138 17,aQ 139 .lss 138 0]) <|
 .cond (.tmp 139) (ao [aj 140 8,aj 141 17,((some 142),.op (.arith .sub (.val (.val (.int .i64 (-1)))) (.tmp 141))),aP 143 1 140 142,ax 144 143,((some 145),.op (.arith .sub (.val (.val (.int .i64 (-1)))) (.tmp 144))),aj 17 145]) (.skip)) <|
 ao [aB 146 1 15,ax 147 146,aj 148 17,((some 149),.op (.cg 1 1 [(.val (.int .i64 0))] [(0,(.tmp 148))])),((some 150),.op (.app 1 8 (.tmp 147) (.tmp 149))),aB 151 1 15,(none,.op (.store 1 (.tmp 151) (.tmp 150)))])) <|
 ao [aj 131 16,aQ 132 .add 131 1,aj 16 132]
def mn:SC :=
 .seq (.seq (ao [aj 104 13,aj 105 10,aX 106 105,bc 107 .lss 104 106]) <|
 .cond (.tmp 107) (.skip) (.exit 4)) <|
 .seq (.block 5 (.seq (ao [aB 110 2 1,ax 111 110,aj 112 10,aj 113 13,aP 114 1 112 113,ax 115 114,aP 116 3 111 115,bp 117 3 116,((some 14),.op (.alloc [(.val (.int .i64 0)),(.emp 1),(.val (.int .i64 0))])),(none,.op (.store 3 (.tmp 14) (.tmp 117)))]) <|
 .seq (ao [aj 118 8,aB 119 0 14,ax 120 119,aP 121 1 118 120,ax 122 121,aB 123 2 14,ax 124 123,((some 125),.op (.build [(.val (.int .i64 0)),(.emp 1),(.val (.int .i64 0))] [(0,1,(.tmp 122)),(2,1,(.tmp 124))])),((some 15),.op (.alloc [(.val (.int .i64 0)),(.emp 1),(.val (.int .i64 0))])),(none,.op (.store 3 (.tmp 15) (.tmp 125)))]) <|
 .seq (.seq (ao [bj 16 0]) <|
 .block 6 (.loop mc)) <|
 ao [aB 152 2 7,ax 153 152,bp 154 3 15,((some 155),.op (.cg 1 3 [(.val (.int .i64 0)),(.emp 1),(.val (.int .i64 0))] [(0,(.tmp 154))])),((some 156),.op (.app 3 40 (.tmp 153) (.tmp 155))),aB 157 2 7,(none,.op (.store 1 (.tmp 157) (.tmp 156)))])) <|
 ao [aj 108 13,aQ 109 .add 108 1,aj 13 109]
def oD:SF:=⟨.seq (ao [cL 1 0,((some 2),.op (.alloc [(.emp 1),(.emp 1),(.emp 1),(.val (.int .i64 0))])),((some 3),.op (.bL (.val (.emp 1)))),bj 4 0]) <|
 .seq (.seq (ao [bp 18 4 1,bC 19 54 [18],dd 20 19]) <|
 .cond (.tmp 20) (.seq (ao [((some 21),.op (.build [(.emp 1),(.emp 1),(.emp 1),(.val (.int .i64 0))] [])),(none,.op (.store 4 (.tmp 2) (.tmp 21))),((some 3),.op (.bL (.val (.emp 1)))),bj 4 1]) <|
 .ret) (.skip)) <|
 .seq (.region true [⟨none,[bp 22 4 1,bC 23 115 [22],bp 24 4 1,bC 25 116 [24],aj 5 23,aj 6 25]⟩]) <|
 .seq (.seq (ao [aj 26 5,aB 27 3 1,ax 28 27,aP 29 1 26 28,ax 30 29,dd 31 30]) <|
 .cond (.tmp 31) (.seq (ao [((some 32),.op (.build [(.emp 1),(.emp 1),(.emp 1),(.val (.int .i64 0))] [])),(none,.op (.store 4 (.tmp 2) (.tmp 32))),((some 3),.op (.bL (.val (.emp 1)))),bj 4 9]) <|
 .ret) (.skip)) <|
 .seq (ao [((some 33),.op (.bL (.val (.emp 2)))),aB 34 0 1,ax 35 34,((some 36),.op (.app 3 32 (.tmp 33) (.tmp 35))),((some 37),.op (.build [(.emp 1),(.emp 1),(.emp 1),(.val (.int .i64 0))] [(0,1,(.tmp 36))])),((some 7),.op (.alloc [(.emp 1),(.emp 1),(.emp 1),(.val (.int .i64 0))])),(none,.op (.store 4 (.tmp 7) (.tmp 37)))]) <|
 .seq (ao [aB 38 1 1,ax 39 38,aX 40 39,((some 41),.op (.make 1 8 [(.val (.int .i64 0))] (.tmp 40) (.tmp 40))),aj 8 41]) <|
 .seq (.seq (ao [bj 9 0]) <|
 .block 0 (.loop mj)) <|
 .seq (ao [((some 10),.op (.bL (.val (.emp 1))))]) <|
 .seq (.seq (ao [bj 11 0]) <|
 .block 2 (.loop lZ)) <|
 .seq (.seq (ao [bj 13 0]) <|
 .block 4 (.loop mn)) <|
 .seq (ao [aj 158 8,aB 159 3 1,ax 160 159,aP 161 1 158 160,ax 162 161,aB 163 3 7,(none,.op (.store 1 (.tmp 163) (.tmp 162)))]) <|
 .seq (ao [bp 164 4 7,aj 165 10,(none,.op (.store 4 (.tmp 2) (.tmp 164))),aj 3 165,bj 4 0]) <|
 .ret,
 [.cell 2 (some 4),.tmp 3,.tmp 4],166⟩
theorem tv:aV Tryz.prog 70 [1]=some oD:=by kernel_rfl
abbrev cb (l:List Int):List (List V):=l.map fun x=>[gi x]
abbrev iP (l:List ByteArray):List (List V):=l.map fun s=>[gs s]
theorem kH {l:List Int} {i:Nat} (h:i < l.length):(cb l).getD i []=[gi l[i]]:=by simp[U8,h]
theorem ints_set (l:List Int) (i:Nat) (x:Int):(cb l).set i [gi x]=cb (l.set i x):=by simp[WQ]
theorem Rz {l:List Int} (h:0 < l.length):cb l≠[]:=by intro e; rw[List.map_eq_nil_iff] at e; rw[e] at h; simp at h
theorem xF {α:Type} {x:α} : ∀ {l:List α} {i:Nat},i < l.length→(l.set i x).take (i+1)=l.take i ++ [x]
 | y :: l,0,_=>by simp
 | y :: l,i+1,h=>by
  have:=xF (x:=x) (l:=l) (i:=i) (by simpa using h)
  simp only[List.set_cons_succ,WY,this,VL]
def fC (n:Nat) (o:List Int):List Int:=(List.range n).map fun (x:Nat)=>bW o (x:Int)
theorem Sd (n:Nat):fC n []=List.replicate n (-1):=by
 apply List.ext_getElem
 ·simp[fC]
 ·intro i h1 h2
  simp[fC,bW,cE]
theorem zT {n:Nat} {o:List Int} {x:Int} (h0:0≤x) (h1:x < n):(fC n o)[x.toNat]'(by simp[fC]; omega)=bW o x:=by
 simp[fC,show ((x.toNat:Nat):Int)=x by omega]
theorem Sg {n:Nat} {o:List Int} {x:Int} (h0:0≤x) (h1:x < n) (hx:x ∉ o):(fC n o).set x.toNat o.length=fC n (o ++ [x]):=by
 apply List.ext_getElem
 ·simp[fC]
 ·intro i h2 h3
  rw[List.getElem_set]
  simp only[fC,List.getElem_map,List.getElem_range]
  rw[OS hx]
  by_cases e:x.toNat=i
  ·rw[Vd e,Vd (by omega)]
  ·rw[Va e,Va (by omega)]
abbrev tA:=List (V × bw)
def e9 (b:tA):List (List V):=b.map fun x=>[gi x.2.left,x.1,gi x.2.prec]
def iG (b:tA):List cz:=b.map fun x=>(x.1,1,cb x.2.right)
theorem Ff {h:aL} {u:V} {b:tA} (ho:ba h.view u 3 (e9 b)) (hb:∀ x∈iG b,ba h.view x.1 x.2.1 x.2.2):eu h u (.aK ((b.map (·.2)).map aO)):=by
 refine eu.own ho (by simp[e9]) (fun i hi=>?_) (fun i j hi hj=>?_)
 all_goals
  simp only[e9,Vg] at hi
  have e1:(e9 b).getD i []=[gi b[i].2.left,b[i].1,gi b[i].2.prec]:=by simp[e9,U8,hi]
  have e2:((b.map (·.2)).map aO).getD i []=aO b[i].2:=by simp[U8,hi]
 ·rw[e1,e2]; rfl
 ·rw[e1,e2]
  rw[e2] at hj
  have hm:b[i]∈b:=Vi _
  have ho:=hb (b[i].1,1,cb b[i].2.right) (Vw.2 ⟨_,hm,rfl⟩)
  match j,hj with
  | 0,_=>exact .val _
  | 1,_=>exact mQ ho
  | 2,_=>exact .val _
  | n+3,hj=>exact absurd hj (by simp only[aO,Vr,VJ]; omega)
theorem Ic {h:aL} {u:V} {l:List ByteArray} (ho:ba h.view u 1 (iP l)):eu h u (encS l):=eu.P7 (f:=Value.string) ho
theorem EC {h:aL} {u:V} {l:List Term} (ho:ba h.view u 3 (l.map b6)):eu h u (eL l):=by
 refine eu.own ho rfl (fun _ _=>rfl) (fun i j hi hj=>?_)
 simp only[Vg] at hi
 have e1:(l.map b6).getD i []=b6 l[i]:=by simp[U8,hi]
 rw[e1] at hj ⊢
 match j,hj with
 | 0,_=>exact .val _
 | 1,_=>exact .val _
 | 2,_=>exact .val _
 | n+3,hj=>exact absurd hj (by simp only[b6,Vr,VJ]; omega)
def wW (x:aw × List Int × Int):V:=.bI [.agg (au x.1),encI x.2.1,gi x.2.2]
theorem wi {h:aL} {e:Int} {k1 k2 k3 k4:Nat} : eu h (.bI [.agg [.emp k1,.emp k2,.emp k3,gi 0],.emp k4,gi e]) (wW (uW,[],e)):=by
 refine .bI _ _ rfl fun i hi=>?_
 match i,hi with
 | 0,_ =>
  refine .agg _ _ rfl fun j hj=>?_
  match j,hj with
  | 0,_=>exact .emp _
  | 1,_=>exact .emp _
  | 2,_=>exact .emp _
  | 3,_=>exact .val _
  | n+4,hj=>exact absurd hj (by simp only[Vr,VJ]; omega)
 | 1,_=>exact .emp _
 | 2,_=>exact .val _
 | n+3,hi=>exact absurd hi (by simp only[Vr,VJ]; omega)
def SM (g:aw) (p q:List Bool) (b2 b7 b8:Nat) (u0:V) (i:Nat) (T:Env) (H:View):Prop :=
 (∃ u1 u3:V,T 10=u3∧(∀ x∈cy p q (g.rules.take i),0≤x∧x < g.az.length)∧(cy p q (g.rules.take i)).Nodup∧(cy p q (g.rules.take i)).length≤i ∧
  bt H [(.sl b7 0 1 4,4,[[u0,u1,.emp 1,gi 0]]),(.sl b8 0 g.az.length 1,1,cb (fC g.az.length (cy p q (g.rules.take i)))),(u3,1,cb (c8 p q (g.rules.take i) 0)),
   (u1,1,iP ((cy p q (g.rules.take i)).map fun x=>g.az.getD x.toNat ⟨#[]⟩)),(u0,3,g.ay.map b6),(.sl b2 0 1 4,4,[[.emp 1,.emp 1,.emp 1,gi 0]])]) ∧
 T 1=.aN (au g) 0∧T 2=.ptr b2 0 0∧T 5=bP p∧T 6=bP q∧T 7=.ptr b7 0 0∧T 8=.sl b8 0 g.az.length 1∧T 11=gi i
def Un (g:aw) (p q:List Bool) (b2 b7 b8:Nat) (u0 u1 u3:V) (o kl:List Int) (i:Nat) (T:Env) (H:View):Prop :=
 (∃ (u2:V) (bs:tA),bs.map (·.2)=((g.rules.filter (ct p q)).take i).map (bY (bW o)) ∧
  bt H ((.sl b7 0 1 4,4,[[u0,u1,u2,gi 0]]) :: (.sl b8 0 g.az.length 1,1,cb (fC g.az.length o)) :: (u3,1,cb kl) ::
   (u1,1,iP (o.map fun x=>g.az.getD x.toNat ⟨#[]⟩)) :: (u0,3,g.ay.map b6) :: (u2,3,e9 bs) :: (.sl b2 0 1 4,4,[[.emp 1,.emp 1,.emp 1,gi 0]]) :: iG bs)) ∧
 T 1=.aN (au g) 0∧T 2=.ptr b2 0 0∧T 7=.ptr b7 0 0∧T 8=.sl b8 0 g.az.length 1∧T 10=u3∧T 13=gi i
def Uq (g:aw) (b2 b7 b8 b14 b15:Nat) (u3:V) (o:List Int) (r:bw) (L:List cz) (i k:Nat) (T:Env) (H:View):Prop :=
 (∃ v:V,bt H ((.sl b15 0 1 3,3,[[gi (bW o r.left),v,gi r.prec]]) :: (v,1,cb ((bY (bW o) r).right.take k)) :: (.sl b14 0 1 3,3,[aO r]) :: L)) ∧
 T 1=.aN (au g) 0∧T 2=.ptr b2 0 0∧T 7=.ptr b7 0 0∧T 8=.sl b8 0 g.az.length 1∧T 10=u3∧T 13=gi i∧T 14=.ptr b14 0 0∧T 15=.ptr b15 0 0∧T 16=gi k
theorem KH {h:aL} {u0 u1 u2 u3:V} {x:aw × List Int × Int} {b:tA} (h0:ba h.view u0 3 (x.1.ay.map b6)) (h1:ba h.view u1 1 (iP x.1.az)) (h2:ba h.view u2 3 (e9 b)) (hb:∀ y∈iG b,ba h.view y.1 y.2.1 y.2.2)
  (hr:b.map (·.2)=x.1.rules) (h3:ba h.view u3 1 (cb x.2.1)):eu h (.bI [.agg [u0,u1,u2,gi x.1.start],u3,gi x.2.2]) (wW x):=by
 refine .bI _ _ rfl fun i hi=>?_
 match i,hi with
 | 0,_ =>
  refine .agg _ _ rfl fun j hj=>?_
  match j,hj with
  | 0,_=>exact EC h0
  | 1,_=>exact Ic h1
  | 2,_=>have:=Ff h2 hb; rw[hr] at this; exact this
  | 3,_=>exact .val _
  | n+4,hj=>exact absurd hj (by simp only[Vr,VJ]; omega)
 | 1,_=>exact mQ h3
 | 2,_=>exact .val _
 | n+3,hi=>exact absurd hi (by simp only[Vr,VJ]; omega)
set_option maxHeartbeats 8000000 in
theorem I2 (g:aw) (hg:g.Ok):cR Tryz.prog 70 [.agg (au g)] (wW (gm g)):=by
 refine cR.of (dZ g) ?_
 refine aC.of mixed tv ?_
 simp (disch:=omega) only [↓wr,seval,wq,ah,ag,ak,aa,ab,af,ai,ae,oD,au,encS]
 intro b2
 try simp (disch:=omega) only [↓wr,seval,wq,ah,ag,ak,aa,ab,af,ai,ae,au,encS]
 refine aD.pure (lH g hg) (by kernel_rfl) ?_
 repeat' (first | (refine av.dec (fun _=>?_) (fun _=>?_)) | (refine av.eq (fun _=>?_) (fun _=>?_)) | (refine av.ne (fun _=>?_) (fun _=>?_)) | (refine av.split (fun _=>?_) (fun _=>?_)) | (simp (disch:=omega) only [↓wr,seval,wq,ah,ag,ak,aa,ab,af,ai,ae,au,encS,set_set]))
 ·rename_i hr
  refine aD.pure (tF g hg) (by kernel_rfl) ?_
  simp (disch:=omega) only [↓wr,seval,wq,ah,ag,ak,aa,ab,af,ai,ae,au,encS]
  refine aD.pure (Dk g hg).pure (by kernel_rfl) ?_
  have hf:=bO hr
  have h3:=hf.me
  have h4:=hf.start
  have hpl:=fk hr true
  have hql:=pW hr
  have hred:=sK hr
  generalize aA g true=p at hpl hred
  generalize ca g=q at hql hred
  have hps:p[g.start.toNat]?=some (p[g.start.toNat]'(by omega)):=U9 (by omega)
  have hpd:p.getD g.start.toNat false=p[g.start.toNat]'(by omega):=by simp[U8,hps]
  generalize p[g.start.toNat]'(by omega)=s at hps hpd
  rw[hpd] at hred
  simp (disch:=omega) only [↓wr,seval,wq,ah,ag,ak,aa,ab,af,ai,ae,au,encS,bP,Vc,hps]
  cases s with
  | false =>
   rw[Va (by simp)] at hred
   simp (disch:=omega) only [↓wr,seval,wq,ah,ag,ak,aa,ab,af,ai,ae,au,encS,set_set]
   rintro h' hh
   rw[hred]
   exact wi
  | true =>
   rw[Vd rfl] at hred
   simp (disch:=omega) only [↓wr,seval,wq,ah,ag,ak,aa,ab,af,ai,ae,au,encS,set_set]
   have hN:=hf.az
   have hN1:=hf.p9
   have hT:=hf.ay
   have hR:=hf.rules
   refine cn (L:=[(.sl b2 0 1 4,4,[[.emp 1,.emp 1,.emp 1,gi 0]])]) (bt.emp (bt.nil.new rfl 4 _)) (by simp[b6,aU]) (by unfold aJ; simp; omega) (by unfold aJ; simp; omega) ?_
   intro u0 H1 ho1 _
   have c0:=ho1.head.cells
   have k0:=ho1.head.gR
   simp (disch:=omega) only [↓wr,seval,wq,ah,ag,ak,aa,ab,af,ai,ae,au,encS,c0,k0]
   intro b7 hb7
   have ho2:=ho1.new hb7 4 [[u0,.emp 1,.emp 1,gi 0]]
   try simp (disch:=omega) only [↓wr,seval,wq,ah,ag,ak,aa,ab,af,ai,ae,au,encS,c0,k0,set_set]
   refine ⟨⟨by omega,by unfold aJ; omega,by unfold aJ; omega⟩,fun h=>by omega,?_⟩
   intro _ b8 hb8
   have hb87:=(de hb8 c7).1
   have ho3:=ho2.new (n:=b8) (by simp only[View.set,Va hb87]; exact (de (de hb8 c7).2 c7).2) 1 (cb (List.replicate g.az.length 0))
   try simp (disch:=omega) only [↓wr,seval,wq,ah,ag,ak,aa,ab,af,ai,ae,au,encS,c0,k0,set_set]
   refine aZ.up g.az.length (fun i T H=>(∃ l:List Int,l.length=g.az.length∧l.take i=List.replicate i (-1) ∧
    bt H [(.sl b8 0 g.az.length 1,1,cb l),(.sl b7 0 1 4,4,[[u0,.emp 1,.emp 1,gi 0]]),(u0,3,g.ay.map b6),(.sl b2 0 1 4,4,[[.emp 1,.emp 1,.emp 1,gi 0]])]) ∧
    T 1=.aN (au g) 0∧T 2=.ptr b2 0 0∧T 5=bP p∧T 6=bP q∧T 7=.ptr b7 0 0∧T 8=.sl b8 0 g.az.length 1∧T 9=gi i) ?_ ?_
   ·exact ⟨⟨List.replicate g.az.length 0,by simp,by simp,by simpa [set_set] using ho3⟩,rfl,rfl,rfl,rfl,rfl,rfl,rfl⟩
   rintro i k T H2 hk ⟨⟨l,hl1,hl2,ho⟩,t1,t2,t5,t6,t7,t8,t9⟩
   simp (disch:=omega) only [↓wr,seval,wq,ah,ag,ak,aa,ab,af,ai,ae,mj,t1,t2,t5,t6,t7,t8,t9]
   refine av.dec (fun hc=>?_) (fun hc=>?_)
   ·have hne:cb l≠[]:=by intro e; rw[List.map_eq_nil_iff] at e; rw[e] at hl1; simp at hl1; omega
    have hb:=(ho.obj hne).1
    have hbg:=kH (show i < l.length by omega)
    simp (disch:=omega) only [↓wr,seval,wq,ah,ag,ak,aa,ab,af,ai,ae,t1,t2,t5,t6,t7,t8,t9,hb,hbg,Vg]
    refine ⟨by omega,by omega,?_⟩
    refine aM hk (by omega) ⟨⟨l.set i (-1),by simp[hl1],?_,?_⟩,t1,t2,t5,t6,t7,t8,rfl⟩
    ·rw[xF (by omega),hl2,List.replicate_succ']
    ·rw[ints_set]
     exact ho.put (by simp) (by simp[hl1])
   ·rw[Vq (by omega)] at hl2
    rw[hl2] at ho
    have ei:i=g.az.length:=by omega
    subst ei
    simp (disch:=omega) only [↓wr,seval,wq,ah,ag,ak,aa,ab,af,ai,ae,t1,t2,t5,t6,t7,t8,t9]
    have name_in:∀ o:List Int,(o.map fun x=>g.az.getD x.toNat ⟨#[]⟩).length=o.length:=fun o=>by simp
    refine aZ.up g.rules.length (SM g p q b2 b7 b8 u0) ?_ ?_
    ·refine ⟨⟨.emp 1,.emp 1,rfl,by simp[cy],by simp[cy],by simp[cy],?_⟩,t1,t2,t5,t6,t7,t8,rfl⟩
     have h4:=((((ho.emp (k:=1) (sz:=1)).emp (k:=1) (sz:=1)).at 3 (by simp)).perm (HZ.symm.cons _))
     have e0:cy p q (g.rules.take 0)=[]:=rfl
     rw[e0,Sd]
     exact h4
    clear ho t1 t2 t5 t6 t7 t8 t9 hl1 hl2
    rintro i k T H2 hk ⟨⟨u1,u3,t10,hin,hnd,holen,ho⟩,t1,t2,t5,t6,t7,t8,t11⟩
    simp (disch:=omega) only [↓wr,seval,wq,ah,ag,ak,aa,ab,af,ai,ae,lZ,t1,t2,t5,t6,t7,t8,t10,t11,au]
    refine av.dec (fun hc=>?_) (fun hc=>?_)
    ·have hg2:g.rules[i]?=some (g.rules[i]'(by omega)):=U9 (by omega)
     have hmem:g.rules[i]'(by omega)∈g.rules:=Vi _
     have htk:g.rules.take (i+1)=g.rules.take i ++ [g.rules[i]'(by omega)]:=by rw[Vx,hg2]; rfl
     generalize g.rules[i]'(by omega)=r at hg2 hmem htk
     obtain ⟨hl1,hl2,hl3,hr6,hsy⟩:=hf.tb hg hmem
     have hqs:q[r.left.toNat]?=some (q[r.left.toNat]'(by omega)):=U9 (by omega)
     have ky:q.getD r.left.toNat false=q[r.left.toNat]'(by omega):=by simp[U8,hqs]
     generalize q[r.left.toNat]'(by omega)=qs at hqs ky
     simp (disch:=omega) only [↓wr,seval,wq,ah,ag,ak,aa,ab,af,ai,ae,t1,t2,t5,t6,t7,t8,t10,t11,au,aO,Vc,hg2]
     intro b12 hb12
     have hoA:=ho.new hb12 3 [aO r]
     try simp (disch:=omega) only [↓wr,seval,wq,ah,ag,ak,aa,ab,af,ai,ae,t1,t2,t5,t6,t7,t8,t10,t11,aO,encI,bP,Vc,hqs,set_set]
     have hskip:∀ (T2:Env) (H':View),ct p q r=false→H'=H2.set b12 (.arr 3 [aO r])→T2 10=u3→T2 1=.aN (au g) 0→T2 2=.ptr b2 0 0→T2 5=bP p→T2 6=bP q→T2 7=.ptr b7 0 0→T2 8=.sl b8 0 g.az.length 1→T2 11=gi ((i:Int)+1) →
       ∃ k',k' < k∧Cn g.rules.length k' (SM g p q b2 b7 b8 u0) T2 H':=by
      intro T2 H' hkr hH' a10 a1 a2 a5 a6 a7 a8 a11
      have e1:cy p q (g.rules.take (i+1))=cy p q (g.rules.take i):=by rw[htk,tZ,Va (by simp[hkr])]
      have e2:c8 p q (g.rules.take (i+1)) 0=c8 p q (g.rules.take i) 0:=by rw[htk,kI]; simp[c8,hkr]
      refine aM hk (by omega) ⟨⟨u1,u3,a10,by rw[e1]; exact hin,by rw[e1]; exact hnd,by rw[e1]; omega,by rw[e1,e2,hH']; exact hoA.tail⟩,a1,a2,a5,a6,a7,a8,by rw[a11]; rfl⟩
     cases qs with
     | false =>
      simp (disch:=omega) only [↓wr,seval,wq,ah,ag,ak,aa,ab,af,ai,ae,t1,t2,t5,t6,t7,t8,t10,t11]
      refine hskip _ _ (by rw[ct,ky]; rfl) ?_ ?_ ?_ ?_ ?_ ?_ ?_ ?_ ?_
      all_goals first | exact t10 | exact t1 | exact t2 | exact t5 | exact t6 | exact t7 | exact t8 | rfl | (rw[set_set]; rfl)
     | true =>
      simp (disch:=omega) only [↓wr,seval,wq,ah,ag,ak,aa,ab,af,ai,ae,t1,t2,t5,t6,t7,t8,t10,t11,aO,encI,bP]
      refine aD.pure (Hm r.right p true (hg.aF r hmem).2.2.1 (fun s hs=>⟨(hsy s hs).1,fun h=>by rw[hpl]; exact (hsy s hs).2 h⟩)) (by kernel_rfl) ?_
      simp (disch:=omega) only [↓wr,seval,wq,ah,ag,ak,aa,ab,af,ai,ae,t1,t2,t5,t6,t7,t8,t10,t11]
      refine av.split (fun hal=>?_) (fun hal=>?_)
      ·simp (disch:=omega) only [↓wr,seval,wq,ah,ag,ak,aa,ab,af,ai,ae,t1,t2,t5,t6,t7,t8,t10,t11]
       have hkr:ct p q r=true:=by rw[ct,ky,hal]; rfl
       intro m hm
       try simp (disch:=omega) only [↓wr,seval,wq,ah,ag,ak,aa,ab,af,ai,ae,t1,t2,t5,t6,t7,t8,t10,t11,bV]
       have hm12:=(de hm c7).1
       have hm:=(de (de hm c7).2 c7).2
       have hoB:=(hoA.fresh (n:=m) (o:=.arr 1 [[gi i]]) (by simp only[View.set,Va hm12]; exact hm)).at 3 (by simp)
       have hkl:(c8 p q (g.rules.take i) 0).length≤40:=by
        rw[kL]
        have h1:=VZ (ct p q) (g.rules.take i)
        have h2:(g.rules.take i).length≤i:=List.length_take_le _ _
        have:=hf.rules
        omega
       refine cn (by rw[set_set]; exact hoB) (by simp[aU]) (by unfold aJ; simp at hkl ⊢; omega) (by unfold aJ; simp at hkl ⊢; omega) ?_
       intro u3' H3 ho3 _
       have f12:=((ho3.at 1 (by simp)).obj (by simp)).1
       have f7:=((ho3.at 2 (by simp)).obj (by simp)).1
       have f8:=((ho3.at 3 (by simp)).obj (Rz (by simp[fC]; omega))).1
       have hu1:cH u1=some (iP ((cy p q (g.rules.take i)).map fun x=>g.az.getD x.toNat ⟨#[]⟩)).length:=(ho3.at 4 (by simp)).head.len
       have hbg:=kH (l:=fC g.az.length (cy p q (g.rules.take i))) (i:=r.left.toNat) (by simp[fC]; omega)
       rw[zT hl2 hl3] at hbg
       simp only[aO,encI] at f12
       simp (disch:=omega) only [↓wr,seval,wq,ah,ag,ak,aa,ab,af,ai,ae,t1,t2,t5,t6,t7,t8,t11,f12,f7,f8,hbg]
       refine ⟨by omega,by simp[fC]; omega,?_⟩
       have e2:c8 p q (g.rules.take (i+1)) 0=c8 p q (g.rules.take i) 0 ++ [(i:Int)]:=by
        rw[htk,kI]; simp[c8,hkr,show i≤g.rules.length by omega]
       have e1:cy p q (g.rules.take (i+1))=fZ (cy p q (g.rules.take i)) r:=by rw[htk,tZ,Vd hkr]
       generalize cy p q (g.rules.take i)=o at *
       generalize c8 p q (g.rules.take i) 0=kl at *
       refine av.dec (fun hlt=>?_) (fun hlt=>?_)
       ·have hx:r.left ∉ o:=tc.1 hlt
        have e1':fZ o r=o ++ [r.left]:=by rw[fZ,Va hx]
        have hne78:b7≠b8:=ho3.E0 2 3 rfl rfl (by omega)
        have hne12:b12≠b8:=ho3.E0 1 3 rfl rfl (by omega)
        have hgn:g.az[r.left.toNat]?=some (g.az[r.left.toNat]'(by omega)):=U9 (by omega)
        have hgnd:g.az.getD r.left.toNat ⟨#[]⟩=g.az[r.left.toNat]'(by omega):=by simp[U8,hgn]
        generalize g.az[r.left.toNat]'(by omega)=nm at hgn hgnd
        simp (disch:=omega) only [↓wr,seval,wq,ah,ag,ak,aa,ab,af,ai,ae,t1,t2,t5,t6,t7,t8,t11,f12,f7,f8,hbg,hu1,Vg]
        try refine ⟨by omega,by simp[fC]; omega,?_⟩
        try simp (disch:=omega) only [↓wr,seval,wq,ah,ag,ak,aa,ab,af,ai,ae,t1,t2,t5,t6,t7,t8,t11,f12,f7,f8,hbg,hu1,Vg,hne78,hne12,au,encS,Vc,hgn]
        intro m2 hm2
        have hm28:=(de hm2 c7).1
        have hm2:=(de hm2 c7).2
        have hes:(cb (fC g.az.length o)).set r.left.toNat [gi o.length]=cb (fC g.az.length (o ++ [r.left])):=by rw[ints_set,Sg hl2 hl3 hx]
        have ho4:=(ho3.at 3 (by simp)).put (es':=(cb (fC g.az.length o)).set r.left.toNat [gi o.length]) (by simp) (by simp[fC])
        have ho5:=(ho4.fresh (n:=m2) (o:=.arr 1 [[gs nm]]) (by simp only[View.set,Va hm28]; exact hm2)).at 4 (by simp)
        have hN16:o.length≤40:=by omega
        try simp (disch:=omega) only [↓wr,seval,wq,ah,ag,ak,aa,ab,af,ai,ae,t1,t2,t5,t6,t7,t8,t11,f12,f7,f8,hbg,hu1,Vg,hne78,hne12,bV]
        refine cn ho5 (by simp[aU]) (by unfold aJ; simp; omega) (by unfold aJ; simp; omega) ?_
        intro u1' H5 ho6 _
        have c1:=ho6.head.cells
        have k1:=ho6.head.gR
        have f7':=((ho6.at 4 (by simp)).obj (by simp)).1
        simp (disch:=omega) only [↓wr,seval,wq,ah,ag,ak,aa,ab,af,ai,ae,t1,t2,t5,t6,t7,t8,t11,f7',c1,k1]
        have ho7:=(ho6.at 4 (by simp)).put (es':=[[u0,u1',.emp 1,gi 0]]) rfl rfl
        have ho8:=(((ho7.at 4 (by simp)).tail).perm (HZ.cons _))
        refine aM hk (by omega) ⟨⟨u1',u3',rfl,?_,?_,?_,?_⟩,t1,t2,t5,t6,t7,t8,rfl⟩
        ·rw[e1,e1']; intro x hx'; rcases VE.1 hx' with h | h
         ·exact hin x h
         ·simp at h; subst h; exact ⟨hl2,hl3⟩
        ·rw[e1]; exact BG hnd
        ·rw[e1,e1']; simp; omega
        ·rw[e1,e1',e2]
         have:=ho8
         rw[hes] at this
         simp only[VB,VC,WM,hgnd]
         exact this
       ·have hx:r.left∈o:=by
         refine Wi fun h=>?_
         have:=tc.2 h
         omega
        have e1':fZ o r=o:=by rw[fZ,Vd hx]
        simp (disch:=omega) only [↓wr,seval,wq,ah,ag,ak,aa,ab,af,ai,ae,t1,t2,t5,t6,t7,t8,t11]
        have ho4:=(((ho3.at 1 (by simp)).tail).perm HZ)
        refine aM hk (by omega) ⟨⟨u1,u3',rfl,?_,?_,?_,?_⟩,t1,t2,t5,t6,t7,t8,rfl⟩
        ·rw[e1,e1']; exact hin
        ·rw[e1,e1']; exact hnd
        ·rw[e1,e1']; omega
        ·rw[e1,e1',e2]
         simp only[VB,VC,WM]
         exact ho4
      ·simp (disch:=omega) only [↓wr,seval,wq,ah,ag,ak,aa,ab,af,ai,ae,t1,t2,t5,t6,t7,t8,t10,t11]
       refine hskip _ _ (by rw[ct,ky,hal]; rfl) ?_ ?_ ?_ ?_ ?_ ?_ ?_ ?_ ?_
       all_goals first | exact t10 | exact t1 | exact t2 | exact t5 | exact t6 | exact t7 | exact t8 | rfl | (rw[set_set]; rfl)
    ·rw[Vq (by omega)] at ho hin hnd holen
     have hkl40:(c8 p q g.rules 0).length≤40:=by
      rw[kL]; have h1:=VZ (ct p q) g.rules; omega
     have hkg:=tX p q g.rules 0
     have hkln:=kL p q g.rules 0
     have hstin:g.start.toNat < (fC g.az.length (cy p q g.rules)).length:=by simp[fC]; omega
     have hstb:=kH hstin
     rw[zT h3 h4] at hstb
     have hrg:rp g (bW (cy p q g.rules)) p q=⟨g.ay,(cy p q g.rules).map fun x=>g.az.getD x.toNat ⟨#[]⟩,(g.rules.filter (ct p q)).map (bY (bW (cy p q g.rules))),bW (cy p q g.rules) g.start⟩:=rfl
     rw[hrg] at hred
     clear hrg
     generalize cy p q g.rules=o at *
     generalize c8 p q g.rules 0=kl at *
     simp (disch:=omega) only [↓wr,seval,wq,ah,ag,ak,aa,ab,af,ai,ae,t1,t2,t5,t6,t7,t8,t10,t11]
     refine aZ.up kl.length (Un g p q b2 b7 b8 u0 u1 u3 o kl) ?_ ?_
     ·refine ⟨⟨.emp 1,[],by simp,?_⟩,t1,t2,t7,t8,t10,rfl⟩
      exact (ho.emp (k:=1) (sz:=3)).perm (r8 [(.sl b7 0 1 4,4,[[u0,u1,.emp 1,gi 0]]),(.sl b8 0 g.az.length 1,1,cb (fC g.az.length o)),(u3,1,cb kl),(u1,1,iP (o.map fun x=>g.az.getD x.toNat ⟨#[]⟩)),(u0,3,g.ay.map b6),(.emp 1,3,[]),(.sl b2 0 1 4,4,[[.emp 1,.emp 1,.emp 1,gi 0]])] 5 (by simp)).symm
     clear ho t1 t2 t5 t6 t7 t8 t10 t11
     rintro i k T H2 hk ⟨⟨u2,bs,hbs,ho⟩,t1,t2,t7,t8,t10,t13⟩
     have hu3:cH u3=some (cb kl).length:=(ho.own 2 rfl).len
     simp (disch:=omega) only [↓wr,seval,wq,ah,ag,ak,aa,ab,af,ai,ae,mn,t1,t2,t7,t8,t10,t13,hu3,Vg]
     refine av.dec (fun hc=>?_) (fun hc=>?_)
     ·obtain ⟨n3,e3,hn3⟩:=(ho.own 2 rfl).sl (by simp; omega)
      rw[Vg] at e3
      subst e3
      obtain ⟨m,hm1,hm2,hm3⟩:=hkg i (by omega)
      have hbg:=kH (show i < kl.length by omega)
      rw[Int.zero_add] at hm1
      have hki:kl[i]'(by omega)=(m:Int):=by
       rw[U9 (show i < kl.length by omega)] at hm1; simpa using hm1
      rw[hki] at hbg
      have hg2:g.rules[m]?=some (g.rules[m]'hm3):=U9 hm3
      have hmem:g.rules[m]'hm3∈g.rules:=Vi _
      have htk:(g.rules.filter (ct p q)).take (i+1)=(g.rules.filter (ct p q)).take i ++ [g.rules[m]'hm3]:=by
       rw[Vx,← hm2,hg2]; rfl
      generalize g.rules[m]'hm3=r at hg2 hmem htk
      obtain ⟨hl1,hl2,hl3,hr6,hsy⟩:=hf.tb hg hmem
      simp (disch:=omega) only [↓wr,seval,wq,ah,ag,ak,aa,ab,af,ai,ae,t1,t2,t7,t8,t10,t13,hn3,hbg,Vg,au,aO,Vc,hg2]
      refine ⟨by omega,by omega,?_⟩
      intro b14 hb14
      have hoA:=ho.new hb14 3 [aO r]
      have f8:=hoA.is 2 rfl (by simp[fC]; omega)
      have hbg2:=kH (l:=fC g.az.length o) (i:=r.left.toNat) (by simp[fC]; omega)
      rw[zT hl2 hl3] at hbg2
      have hn814:b8≠b14:=hoA.E0 2 0 rfl rfl (by omega)
      have g8:H2 b8=.arr 1 (cb (fC g.az.length o)):=ho.is 1 rfl (by simp[fC]; omega)
      try simp (disch:=omega) only [↓wr,seval,wq,ah,ag,ak,aa,ab,af,ai,ae,t1,t2,t7,t8,t10,t13,g8,hn814,hbg2,Vg,set_set,encI]
      refine ⟨by omega,by simp[fC]; omega,?_⟩
      intro b15 hb15
      have hbne:=(de hb15 c7).1
      have hb15:=(de (de hb15 c7).2 c7).2
      have hoB:=(((hoA.new (n:=b15) (by simp only[View.set,Va hbne]; exact hb15) 3 [[gi (bW o r.left),.emp 1,gi r.prec]]).emp (k:=1) (sz:=1)).perm (.swap _ _ _))
      generalize hL:((V.sl b7 0 1 4,4,[[u0,u1,u2,gi 0]]) :: (V.sl b8 0 g.az.length 1,1,cb (fC g.az.length o)) :: (V.sl n3 0 kl.length 1,1,cb kl) ::
       (u1,1,iP (o.map fun x=>g.az.getD x.toNat ⟨#[]⟩)) :: (u0,3,g.ay.map b6) :: (u2,3,e9 bs) :: (V.sl b2 0 1 4,4,[[V.emp 1,V.emp 1,V.emp 1,gi 0]]) :: iG bs:List cz)=L at hoB
      have hL1:L[1]?=some (.sl b8 0 g.az.length 1,1,cb (fC g.az.length o)):=by rw[← hL]; rfl
      try simp (disch:=omega) only [↓wr,seval,wq,ah,ag,ak,aa,ab,af,ai,ae,t1,t2,t7,t8,t10,t13,set_set]
      refine aZ.up r.right.length (Uq g b2 b7 b8 b14 b15 (.sl n3 0 kl.length 1) o r L i) ?_ ?_
      ·exact ⟨⟨.emp 1,by rw[set_set,set_set]; exact hoB⟩,t1,t2,t7,t8,t10,t13,rfl,rfl,rfl⟩
      clear hoA hoB f8 g8 hb14 hb15 t1 t2 t7 t8 t10 t13
      rintro k k2 T H3 hk2 ⟨⟨v,hoC⟩,t1,t2,t7,t8,t10,t13,t14,t15,t16⟩
      have f14:=hoC.is 2 rfl (by simp)
      have f15:=hoC.is 0 rfl (by simp)
      have f8:H3 b8=.arr 1 (cb (fC g.az.length o)):=hoC.is 4 (by simpa using hL1) (by simp[fC]; omega)
      simp only[aO] at f14
      simp (disch:=omega) only [↓wr,seval,wq,ah,ag,ak,aa,ab,af,ai,ae,mc,t1,t2,t7,t8,t10,t13,t14,t15,t16,f14,encI]
      refine av.dec (fun hcc=>?_) (fun hcc=>?_)
      ·have hgs:r.right[k]?=some (r.right[k]'(by omega)):=U9 (by omega)
       have hms:r.right[k]'(by omega)∈r.right:=Vi _
       have hts:(bY (bW o) r).right.take (k+1)=(bY (bW o) r).right.take k ++ [if r.right[k]'(by omega) < 0 then -1 - bW o (-1 - r.right[k]'(by omega)) else r.right[k]'(by omega)]:=by
        rw[Vx]; simp[bY,hgs]
       have hlk:((bY (bW o) r).right.take k).length≤6:=by
        have h1:(bY (bW o) r).right.length=r.right.length:=by simp[bY]
        have h2:((bY (bW o) r).right.take k).length≤(bY (bW o) r).right.length:=by rw[VQ]; omega
        omega
       generalize r.right[k]'(by omega)=s at hgs hms hts
       obtain ⟨⟨s1,s2⟩,s3⟩:=hsy s hms
       simp (disch:=omega) only [↓wr,seval,wq,ah,ag,ak,aa,ab,af,ai,ae,t1,t2,t7,t8,t10,t13,t14,t15,t16,f14,encI,Vc,hgs]
       have hbd:=Rs o (-1 - s)
       have hob:o.length≤40:=by omega
       refine av.dec (fun hneg=>?_) (fun hneg=>?_)
       ·rw[Vd hneg] at hts
        have hin1:=s3 hneg
        have hbg3:=kH (l:=fC g.az.length o) (i:=(-1 - s).toNat) (by simp[fC]; omega)
        rw[zT (by omega) hin1] at hbg3
        simp (disch:=omega) only [↓wr,seval,wq,ah,ag,ak,aa,ab,af,ai,ae,t1,t2,t7,t8,t10,t13,t14,t15,t16,f14,f15,f8,hbg3,Vg]
        refine ⟨by omega,by simp[fC]; omega,?_⟩
        intro m hm
        try simp (disch:=omega) only [↓wr,seval,wq,ah,ag,ak,aa,ab,af,ai,ae,t1,t2,t7,t8,t10,t13,t14,t15,t16,bV]
        have hoD:=(hoC.fresh (o:=.arr 1 [[gi (-1 - bW o (-1 - s))]]) hm).at 1 (by simp)
        refine cn hoD (by simp[aU]) (by unfold aJ; simp at hlk ⊢; omega) (by unfold aJ; simp at hlk ⊢; omega) ?_
        intro v' H4 hoE _
        have cv:=hoE.head.cells
        have kv:=hoE.head.gR
        have f15':=hoE.is 1 rfl (by simp)
        simp (disch:=omega) only [↓wr,seval,wq,ah,ag,ak,aa,ab,af,ai,ae,t1,t2,t7,t8,t10,t13,t14,t15,t16,f15',cv,kv]
        have hoF:=(hoE.at 1 (by simp)).put (es':=[[gi (bW o r.left),v',gi r.prec]]) rfl rfl
        refine aM hk2 (by omega) ⟨⟨v',?_⟩,t1,t2,t7,t8,t10,t13,t14,t15,rfl⟩
        rw[hts]
        simp only[VB,VC,WM]
        exact hoF
       ·rw[Va hneg] at hts
        simp (disch:=omega) only [↓wr,seval,wq,ah,ag,ak,aa,ab,af,ai,ae,t1,t2,t7,t8,t10,t13,t14,t15,t16,f14,f15,f8]
        intro m hm
        try simp (disch:=omega) only [↓wr,seval,wq,ah,ag,ak,aa,ab,af,ai,ae,t1,t2,t7,t8,t10,t13,t14,t15,t16,bV]
        have hoD:=(hoC.fresh (o:=.arr 1 [[gi s]]) hm).at 1 (by simp)
        refine cn hoD (by simp[aU]) (by unfold aJ; simp at hlk ⊢; omega) (by unfold aJ; simp at hlk ⊢; omega) ?_
        intro v' H4 hoE _
        have cv:=hoE.head.cells
        have kv:=hoE.head.gR
        have f15':=hoE.is 1 rfl (by simp)
        simp (disch:=omega) only [↓wr,seval,wq,ah,ag,ak,aa,ab,af,ai,ae,t1,t2,t7,t8,t10,t13,t14,t15,t16,f15',cv,kv]
        have hoF:=(hoE.at 1 (by simp)).put (es':=[[gi (bW o r.left),v',gi r.prec]]) rfl rfl
        refine aM hk2 (by omega) ⟨⟨v',?_⟩,t1,t2,t7,t8,t10,t13,t14,t15,rfl⟩
        rw[hts]
        simp only[VB,VC,WM]
        exact hoF
      ·rw[Vq (by simp[bY]; omega)] at hoC
       subst hL
       have f7:=hoC.is 3 rfl (by simp)
       have cv:=(hoC.own 1 rfl).cells
       have kv:=(hoC.own 1 rfl).gR
       have hbl:(e9 bs).length≤40:=by
        have h1:=Wj List.length hbs
        simp only[Vg,VQ] at h1
        simp only[e9,Vg]
        omega
       simp (disch:=omega) only [↓wr,seval,wq,ah,ag,ak,aa,ab,af,ai,ae,t1,t2,t7,t8,t10,t13,t14,t15,t16,f7,f15,cv,kv]
       intro m hm
       try simp (disch:=omega) only [↓wr,seval,wq,ah,ag,ak,aa,ab,af,ai,ae,t1,t2,t7,t8,t10,t13,t14,t15,t16,bV]
       have hoD:=(hoC.fresh (o:=.arr 3 [[gi (bW o r.left),v,gi r.prec]]) hm).at 8 (by simp)
       refine cn hoD (by simp[vR,kv]) (by unfold aJ; simp at hbl ⊢; omega) (by unfold aJ; simp at hbl ⊢; omega) ?_
       intro u2' H4 hoE _
       have cu:=hoE.head.cells
       have ku:=hoE.head.gR
       have f7':=hoE.is 4 rfl (by simp)
       simp (disch:=omega) only [↓wr,seval,wq,ah,ag,ak,aa,ab,af,ai,ae,t1,t2,t7,t8,t10,t13,t14,t15,t16,f7',cu,ku]
       have hoF:=(hoE.at 4 (by simp)).put (es':=[[u0,u1,u2',gi 0]]) rfl rfl
       have hoG:=((((hoF.at 2 (by simp)).tail).at 3 (by simp)).tail)
       refine aM hk (by omega) ⟨⟨u2',bs ++ [(v,bY (bW o) r)],?_,?_⟩,t1,t2,t7,t8,t10,rfl⟩
       ·rw[VB,hbs,htk,VB]; rfl
       ·refine hoG.perm (.cons _ ?_)
        simp only[iG,e9,VB,VC,WM]
        refine .trans ?_ (r8 _ 4 (by simp)).symm
        refine .cons _ ?_
        exact (W9 (v,1,cb (bY (bW o) r).right) ((.sl b8 0 g.az.length 1,1,cb (fC g.az.length o)) :: (.sl n3 0 kl.length 1,1,cb kl) :: (u1,1,iP (o.map fun x=>g.az.getD x.toNat ⟨#[]⟩)) :: (u0,3,g.ay.map b6) :: (.sl b2 0 1 4,4,[[.emp 1,.emp 1,.emp 1,gi 0]]) :: iG bs)).symm
     ·rw[Vq (by omega)] at hbs
      have f7:=ho.is 0 rfl (by simp)
      have f8:H2 b8=.arr 1 (cb (fC g.az.length o)):=ho.is 1 rfl (by simp[fC]; omega)
      have f2:=ho.is 6 rfl (by simp)
      have n72:b7≠b2:=ho.E0 0 6 rfl rfl (by omega)
      have c1:=(ho.own 3 rfl).cells
      have k1:=(ho.own 3 rfl).gR
      have c2:=(ho.own 5 rfl).cells
      have k2:=(ho.own 5 rfl).gR
      simp (disch:=omega) only [↓wr,seval,wq,ah,ag,ak,aa,ab,af,ai,ae,t1,t2,t7,t8,t10,t13,f7,f8,f2,n72,n72.symm,hstb,c0,k0,c1,k1,c2,k2,au,Vg]
      refine ⟨by omega,by simp[fC]; omega,fun h' hh=>?_⟩
      have hoA:=ho.put (es':=[[u0,u1,u2,gi (bW o g.start)]]) rfl rfl
      have hoB:=(hoA.at 6 (by simp)).put (es':=[[u0,u1,u2,gi (bW o g.start)]]) rfl rfl
      have hv:h'.view=(H2.set b7 (.arr 4 [[u0,u1,u2,gi (bW o g.start)]])).set b2 (.arr 4 [[u0,u1,u2,gi (bW o g.start)]]):=hh
      rw[← hv] at hoB
      rw[hred]
      exact KH (x:=(⟨g.ay,o.map fun x=>g.az.getD x.toNat ⟨#[]⟩,(g.rules.filter (ct p q)).map (bY (bW o)),bW o g.start⟩,kl,0)) (b:=bs) (hoB.own 5 rfl) (hoB.own 4 rfl) (hoB.own 6 rfl) (fun y hy=>hoB.1 y (by
       refine Vt _ (Vt _ (Vt _ (Vt _ (Vt _ (Vt _ (Vt _ ?_))))))
       exact hy)) hbs (hoB.own 3 rfl)
 ·rename_i hr
  intro h' hh
  rw[gm,Va (by simp[hr])]
  exact wi
theorem IJ {g:aw} (e:kG g=false):g.Small:=by
 simp only[kG,Bool.or_eq_false_iff,Wp] at e
 exact ⟨by omega⟩
theorem PB (g:aw):aI Tryz.prog 16 [.agg (au g)] (gb (kG g)):=aI.val (dZ g) fun H=>(PZ g H).mono fun _ _ h=>h.1
theorem yG {a b:V} (ha:Tree a) (hb:Tree b):Tree (.bI [a,b]):=.bI _ fun i hi=>by
 match i,hi with
 | 0,_=>exact ha
 | 1,_=>exact hb
 | n+2,h=>exact absurd h (by simp)
theorem Li {H:View} {id n:Nat} {l:List Int} (hv:H id=.arr 1 (cb l)) (hn:n=l.length):dT H (.sl id 0 n 1) (encI l):=by
 subst hn
 exact dT.own (sz:=1) (.inr ⟨id,by simp,hv⟩) fun e he v hv=>by
  obtain ⟨x,_,rfl⟩:=Vw.1 he
  simp at hv; subst hv; exact .val _
theorem dh.step {H H' H1:View} {u u1:V} (h:dh H H' u) (l:Left H' H1 u u1):dh H H1 u1:=fun id hid=>by
 have h1:=h id hid
 have h2:=l id (by rw[h1.1]; exact hid) h1.2
 exact ⟨h2.1.trans h1.1,h2.2⟩
theorem CR {l:List Int} {k:Nat} (h:k≤l.length):dW 1 (.aK (l.map fun x=>[gi x])) (some (gi k)) none=some (.aK ((l.drop k).map fun x=>[gi x]),.none,[]):=by
 simp[dW,bound,asNat,h,List.all_map,List.map_drop]
 rw[Vq (by simp)]
theorem jz {P:Program} {t:TypeId} {d:TypeDesc} (hu:P.underlying t=some d) (hd:d=.string∨∃ k,d=.int k) (cs:Array Value) (off:Nat) {v:Value} (hv:cs[off]?=some v):bM P (part t cs off)=some v:=by
 have h0:bM P (isAgg t)=some false:=by
  rcases hd with rfl | ⟨k,rfl⟩
  all_goals simp only[isAgg,bD,eh hu,VP]; rfl
 simp only[part,bD,h0,VP,VA,if_false,hv]
 rfl
inductive fL (P:Program) (d:Nat) (xs ys:Array Value):List Field→Bool→Prop
 | nil:fL P d xs ys [] true
 | str (f:Field) (l:List Field) (c:Bool) (a b:ByteArray):(f.name≠ "_")→P.underlying f.type=some .string→xs[f.offset]?=some (.string a)→ys[f.offset]?=some (.string b)→fL P d xs ys l c→fL P d xs ys (f :: l) (a == b && c)
 | int (f:Field) (l:List Field) (c:Bool) (k:IntKind) (a b:Int):(f.name≠ "_")→P.underlying f.type=some (.int k)→xs[f.offset]?=some (.int k a)→ys[f.offset]?=some (.int k b)→fL P d xs ys l c→fL P d xs ys (f :: l) (a == b && c)
theorem fL.forIn {P:Program} {d e:Nat} {xs ys:Array Value} {l:List Field} {c:Bool} (h:fL P d xs ys l c) (hd:e=d+1) :
  bM P (forIn l ((none:Option Bool),()) fun f _ =>
    if f.name≠ "_" then do
     let a ← part f.type xs f.offset
     let b ← part f.type ys f.offset
     let e ← Op.equalIn e f.type a b
     if (!e)=true then pure (ForInStep.done (some false,())) else pure (ForInStep.yield (none,()))
    else pure (ForInStep.yield (none,())))=some (if c=true then (none,()) else (some false,())):=by
 subst hd
 induction h with
 | nil=>rfl
 | str f l c a b hn hu hx hy _ ih =>
  have he:bM P (Op.equalIn (d+1) f.type (.string a) (.string b))=some (a == b):=by
   simp only[Op.equalIn,bD,eh hu,VP]; rfl
  rw[List.forIn_cons,bD,Vd hn,bD,jz hu (.inl rfl) xs _ hx,VP,bD,jz hu (.inl rfl) ys _ hy,VP,bD,he,VP]
  cases a == b with
  | false=>rfl
  | true=>exact ih
 | int f l c k a b hn hu hx hy _ ih =>
  have he:bM P (Op.equalIn (d+1) f.type (.int k a) (.int k b))=some (a == b):=by
   simp only[Op.equalIn,bD,eh hu,VP]; rfl
  rw[List.forIn_cons,bD,Vd hn,bD,jz hu (.inr ⟨k,rfl⟩) xs _ hx,VP,bD,jz hu (.inr ⟨k,rfl⟩) ys _ hy,VP,bD,he,VP]
  cases a == b with
  | false=>rfl
  | true=>exact ih
theorem so {P:Program} {t:TypeId} {fs:Array Field} {xs ys:Array Value} {c:Bool} (hu:P.underlying t=some (.struct fs)) (hs:P.stoodInHeld t=false) (h:fL P 9998 xs ys fs.toList c) :
  bM P (Op.equal t (.agg xs) (.agg ys))=some c:=by
 rw[lL]
 rw[Op.equalIn,bD,eh hu,VP]
 have hst:(bM P program)=some P:=rfl
 rw[bD,hst,VP,hs]
 simp only[← Array.forIn_toList,VA,if_false]
 rw[bD,h.forIn (e:=9999) rfl,VP]
 cases c <;> rfl
theorem Dy {P:Program} {o:Oper} {T:Env} {op:BinOp} {t u:TypeId} {x y:Operand} {fs:Array Field} {xs ys:Array Value} {c r:Bool} (ho:o.op=.binOp op t x y u) (hu:P.underlying t=some (.struct fs)) (hs:P.stoodInHeld t=false) (hg:P.eqGuardType P.depth t=false)
  (hx:dr (ev T x)=some (.agg xs)) (hy:dr (ev T y)=some (.agg ys)) (h:fL P 9998 xs ys fs.toList c) (hr:(op=.eql∧r=c)∨(op=.neq∧r = !c)) :
  dR P o T=some (.val (.bool r),.none,[]):=by
 have he:=so hu hs h
 have hst:(bM P program)=some P:=rfl
 unfold dR
 simp only[ho,Op.operands,hx,hy]
 rcases hr with ⟨rfl,rfl⟩ | ⟨rfl,rfl⟩
 ·simp[execOp,ho,hx,hy,eqGuard,binOp,jm,bD,hst,hg,he,plain]
  try simp[bM,pure,plain]
 ·simp[execOp,ho,hx,hy,eqGuard,binOp,jm,bD,hst,hg,he,plain]
  try simp[bM,pure,plain,bne]
theorem iw {P:Program} {T:Env} {H:View} {K:V→View→Prop} {w:cD (T,H,K)} {op:BinOp} {t u ty:TypeId} {x y:Operand} {fs:Array Field} {xs ys:Array Value} {c r:Bool} (hu:P.underlying t=some (.struct fs)) (hs:P.stoodInHeld t=false) (hg:P.eqGuardType P.depth t=false)
  (hx:dr (ev T x)=some (.agg xs)) (hy:dr (ev T y)=some (.agg ys)) (h:fL P 9998 xs ys fs.toList c) (hr:(op=.eql∧r=c)∨(op=.neq∧r = !c)) (hk:K (.val (.bool r)) H):kz P (.binOp op t x y u) ty T H K w:=by
 intro n _
 refine ⟨.val (.bool r),.none,[],?_,hk⟩
 have hn:ju P t=none:=by simp[ju,hu]
 simp only[sI,cq,oper,hn]
 simp only[Option.isSome_none,VA,if_false]
 exact Dy rfl hu hs hg hx hy h hr
def yM (hp:Array Obj) (cs:List Value) (vs:List V):Prop :=
 vs.length=cs.length∧∀ μ i,i < vs.length→aG (fun b=>b < hp.size) μ hp (vs.getD i .any) (cs.getD i undef)
def Wt {H:Type} (P:Program) (t:TypeId) (d:DataW H):Prop:=∀ n∈d.weights P t,n≤reachBytes
def zl (P:Program) (t:TypeId) {α:Type} (f:α→List V) (ok:α→Prop):Prop :=
 ∀ {H:Type} (enc:TypeId × Value→H) (w:World) (base:Nat) (sp:Nat→Bool) (held:Bool) (fuel:Nat) (cs:List Value) (x:DataW H × List MemPlace),
  DataW.trod enc P w base sp held fuel t cs=some x→Wt P t x.1→∃ a,ok a∧yM w.heap cs (f a)
theorem wJ {hp:Array Obj} {c:Value} {v:V} (h:∀ μ,aG (fun b=>b < hp.size) μ hp v c):yM hp [c] [v]:=by
 refine ⟨rfl,fun μ i hi=>?_⟩
 match i,hi with
 | 0,_=>exact h μ
theorem Ti {P:Program} {t:TypeId} {k:IntKind} (ht:P.underlying t=some (.int k)):zl P t (fun n=>[.val (.int k n)]) (fun n=>(Lit.int k n).wf=true):=by
 intro H enc w base sp held fuel cs x h _
 obtain ⟨n,rfl,_,hw⟩:=DataW.trod_int ht h
 exact ⟨n,hw,wJ fun μ=>.val _ rfl⟩
theorem Ec {P:Program} {t:TypeId} (ht:P.underlying t=some .string):zl P t (fun s=>[.val (.string s)]) (fun _=>True):=by
 intro H enc w base sp held fuel cs x h _
 obtain ⟨s,rfl,_,_⟩:=DataW.trod_string ht h
 exact ⟨s,trivial,wJ fun μ=>.val _ rfl⟩
theorem Gx {w:World} {base:Nat} {a:Addr} {n:Nat} {cs:List Value} (h:w.cells? base a n=some cs):cs.length=n∧∀ i,i < n→w.cell? (a.add i)=some (cs.getD i undef):=by
 obtain ⟨_,h2,h3⟩:=World.cells?_some h
 refine ⟨h2,fun i hi=>?_⟩
 rw[h3 i hi,U8,U9 (by omega)]
 rfl
theorem Nj {w:World} {a:Addr} {v:Value} (h:w.cell? a=some v):a.spot=none∧a.block < w.heap.size:=by
 unfold World.cell? at h
 split at h
 ·rename_i c _ _ hb
  split at h
  ·simp at h
  ·rename_i hs
   exact ⟨by simpa using hs,(Array.getElem?_eq_some_iff.1 hb).1⟩
 ·simp at h
theorem Ou {H:Type} {P:Program} {e:TypeId} : ∀ {l:List (DataW H)},(∀ n∈DataW.weightsAll P e l,n≤reachBytes)→∀ d∈l,Wt P e d
 | [],_,d,hd=>by simp at hd
 | x :: l,h,d,hd=>by
  simp only[DataW.weightsAll,VE] at h
  rcases Vp.1 hd with rfl | hd
  ·exact fun n hn=>h n (.inl hn)
  ·exact Ou (fun n hn=>h n (.inr hn)) d hd
theorem PQ {H:Type} {P:Program} {t e:TypeId} {elems spare:List (DataW H)} (ht:P.underlying t=some (.slice e)) (h:Wt P t (.slice elems spare)) :
  (elems.length+spare.length) * P.bytesOf e≤reachBytes∧∀ d∈elems,Wt P e d:=by
 unfold Wt at h
 unfold DataW.weights at h
 rw[ht] at h
 simp only[Vp,VE] at h
 exact ⟨h _ (.inl rfl),Ou fun n hn=>h n (.inr (.inl hn))⟩
theorem OE {H:Type} {P:Program} {t:TypeId} {fs:Array Field} {parts:List (DataW H)} (ht:P.underlying t=some (.struct fs)) (h:Wt P t (.agg parts)) {j:Nat} {f:Field} {d:DataW H} (hf:fs[j]?=some f) (hd:parts[j]?=some d):Wt P f.type d:=by
 intro n hn
 refine h n ?_
 unfold DataW.weights
 rw[ht]
 exact DataW.weights_mem_each (j:=j) (t:=f.type) (by simp[hf]) hd n hn
theorem KC {α:Type} {φ:Nat→α→Prop} : ∀ (n:Nat),(∀ i,i < n→∃ a,φ i a)→∃ l:List α,l.length=n∧∀ i (hi:i < l.length),φ i l[i]
 | 0,_=>⟨[],rfl,fun i hi=>by simp at hi⟩
 | n+1,h=>by
  obtain ⟨l,hl,hφ⟩:=KC n fun i hi=>h i (by omega)
  obtain ⟨a,ha⟩:=h n (by omega)
  refine ⟨l ++ [a],by simp[hl],fun i hi=>?_⟩
  by_cases e:i < l.length
  ·rw[List.getElem_append_left e]; exact hφ i e
  ·have:i=n:=by simp at hi; omega
   subst this
   rw[List.getElem_append_right (by omega)]
   simp only[hl,Nat.sub_self,Wv]; exact ha
theorem wb {P:Program} {t e:TypeId} {α:Type} {f:α→List V} {ok:α→Prop} (ht:P.underlying t=some (.slice e)) (hc:0 < P.cellsOf e) (hb:0 < P.bytesOf e) (he:zl P e f ok) :
  zl P t (fun l:List α=>[.aK (l.map f)]) (fun l=>l.length < 4611686018427387904∧∀ a∈l,ok a):=by
 intro H enc w base sp held fuel cs x h hw
 rcases DataW.trod_slice ht h with ⟨rfl,rfl⟩ | ⟨a,len,cap,elems,rest,n,_,rfl,rfl,hba,hl,hm,hlen,hel,_,_⟩
 ·exact ⟨[],⟨by simp,by simp⟩,wJ fun μ=>.iH none 0 (by simp)⟩
 obtain ⟨hw1,hw2⟩:=PQ ht hw
 simp only[Vg] at hw1
 have hlt:len < 4611686018427387904:=by
  have h1:len * 1≤(elems.length+rest.length) * P.bytesOf e:=Nat.mul_le_mul (by omega) hb
  unfold reachBytes at hw1
  omega
 have each:∀ i,i < len→∃ y,ok y∧∃ ci,w.cells? base (a.add (i * P.cellsOf e)) (P.cellsOf e)=some ci∧yM w.heap ci (f y):=by
  intro i hi
  have h1:=hel i hi
  have h2:elems[i]?=some (elems[i]'(by omega)):=U9 (by omega)
  have hmem:elems[i]'(by omega)∈elems:=Vi _
  rw[h2,Option.bind_eq_some_iff] at h1
  obtain ⟨ci,h3,h4⟩:=h1
  obtain ⟨y,h5,h6⟩:=he enc w base sp held n ci _ h4 (hw2 _ (Vw.2 ⟨_,hmem,rfl⟩))
  exact ⟨y,h5,ci,h3,h6⟩
 obtain ⟨l,hll,hφ⟩:=KC len each
 subst hll
 refine ⟨l,⟨hlt,fun y hy=>?_⟩,wJ fun μ=>?_⟩
 ·obtain ⟨i,hi,rfl⟩:=List.getElem_of_mem hy
  exact (hφ i hi).1
 by_cases h0:l=[]
 ·subst h0
  exact .iH (some a) cap (by simp)
 have hpos:0 < l.length:=Xg.2 h0
 have hcell:∀ i j,i < l.length→j < P.cellsOf e→∃ c,cellAt w.heap a.block (a.off+i * P.cellsOf e+j)=some c∧a.block < w.heap.size∧(i=0→j=0→a.spot=none)∧∀ (hi:i < l.length),aG (fun b=>b < w.heap.size) μ w.heap ((f l[i]).getD j .any) c:=by
  intro i j hi hj
  obtain ⟨_,ci,h1,h2⟩:=hφ i hi
  obtain ⟨h3,h4⟩:=Gx h1
  have h5:=h4 j hj
  have h6:=Nj h5
  have hbk:((a.add (i * P.cellsOf e)).add j).block=a.block:=by simp only[Addr.add]; split <;> split <;> rfl
  have hof:((a.add (i * P.cellsOf e)).add j).off=a.off+i * P.cellsOf e+j:=by
   simp only[Addr.add]; split <;> split <;> simp_all
  refine ⟨ci.getD j undef,?_,by rw[← hbk]; exact h6.2,?_,fun _=>?_⟩
  ·rw[← hof,← hbk,← nD]
   rw[← h5]
   congr 1
   generalize (a.add (i * P.cellsOf e)).add j=b at h6
   cases b
   simp at h6 ⊢
   exact h6.1.symm
  ·rintro rfl rfl
   simp[Addr.add] at h6
   exact h6.1
  ·exact h2.2 μ j (by rw[h2.1,h3]; exact hj)
 obtain ⟨_,_,hz,hs,_⟩:=hcell 0 0 hpos hc
 have ha:a=⟨a.block,a.off,none⟩:=by
  cases a; simp at hs ⊢; exact hs
 have hlf:∀ i,i < l.length→(f (l[i]?.getD (l[0]'hpos))).length=P.cellsOf e:=fun i hi=>by
  obtain ⟨_,ci,h1,h2⟩:=hφ i hi
  rw[U9 hi,Vs,h2.1,(Gx h1).1]
 have hgd:∀ i (hi:i < l.length),(l.map f).getD i []=f l[i]:=fun i hi=>by simp[U8,hi]
 have hcl:(l.map f).length=l.length:=by simp
 have:=aG.aK (Z:=fun b=>b < w.heap.size) (μ:=μ) (hp:=w.heap) (l.map f) a.block a.off (P.cellsOf e) cap (fun i j=>(cellAt w.heap a.block (a.off+i * P.cellsOf e+j)).getD undef) hz (by rw[hcl]; exact hl)
  (fun i hi=>by
   rw[hcl] at hi
   have:=hlf i hi
   rw[U9 hi,Vs] at this
   rw[hgd i hi]; exact this)
  (fun i j hi hj=>by
   rw[hcl] at hi
   obtain ⟨c,h1,_⟩:=hcell i j hi hj
   rw[h1]; rfl)
  (fun i j hi hj=>by
   rw[hcl] at hi
   obtain ⟨c,h1,_,_,h2⟩:=hcell i j hi hj
   rw[h1,hgd i hi]; exact h2 hi)
 rw[hcl,← ha] at this
 exact this
theorem zh {P:Program} {t:TypeId} {fs:Array Field} (ht:P.underlying t=some (.struct fs)) (hf:∀ (i:Nat) (f:Field),fs[i]?=some f→f.offset=i∧P.cellsOf f.type=1) (hn:P.cellsOf t=fs.size)
  {H:Type} {enc:TypeId × Value→H} {w:World} {base:Nat} {sp:Nat→Bool} {held:Bool} {fuel:Nat} {cs:List Value} {x:DataW H × List MemPlace} (h:DataW.trod enc P w base sp held fuel t cs=some x) (hw:Wt P t x.1) :
  cs.length=fs.size∧∀ (i:Nat) (f:Field),fs[i]?=some f→∀ {α:Type} {g:α→List V} {ok:α→Prop},zl P f.type g ok→∃ a,ok a∧yM w.heap [cs.getD i undef] (g a):=by
 obtain ⟨xs,n,rfl,rfl,hl,hlen,hx⟩:=DataW.trod_struct ht h
 refine ⟨by rw[hl,hn],fun i f hi α g ok hr=>?_⟩
 obtain ⟨h1,h2⟩:=hf i f hi
 have hi2:i < fs.size:=(Array.getElem?_eq_some_iff.1 hi).1
 have h3:=hx i f hi
 have h4:xs[i]?=some (xs[i]'(by omega)):=U9 (by omega)
 rw[h4,h1,h2] at h3
 have h5:(cs.drop i).take 1=[cs.getD i undef]:=by
  rw[U8,U9 (by omega),VT (by omega)]
  rfl
 rw[h5] at h3
 exact hr enc w base sp held n _ _ h3 (OE ht hw hi (by simp[h4]))
theorem ix {hp:Array Obj} {c:Value} {cs:List Value} {v:V} {vs:List V} (h:yM hp [c] [v]) (k:yM hp cs vs):yM hp (c :: cs) (v :: vs):=by
 refine ⟨by simp[k.1],fun μ i hi=>?_⟩
 cases i with
 | zero=>exact h.2 μ 0 (by simp)
 | succ i=>exact k.2 μ i (by simpa using hi)
theorem AN {hp:Array Obj} : yM hp [] []:=⟨rfl,fun μ i hi=>by simp at hi⟩
theorem R7 {n:Int} (h:(Lit.int .i64 n).wf=true):cm n:=by
 simp only[Lit.wf,Vm,Vo] at h
 exact h
theorem pQ:zl Tryz.prog 3 (fun n=>[gi n]) cm:=fun enc w base sp held fuel cs x h hw=>by
 obtain ⟨n,h1,h2⟩:=Ti Tryz.underlying3 enc w base sp held fuel cs x h hw
 exact ⟨n,R7 h1,h2⟩
theorem RQ:zl Tryz.prog 43 (fun l:List Int=>[encI l]) (fun l=>aS l∧∀ x∈l,cm x) :=
 wb Tryz.underlying43 (WU (by kernel_rfl)) (WU (by kernel_rfl)) pQ
theorem Lk:zl Tryz.prog 23 (fun l:List ByteArray=>[encS l]) (fun l=>aS l∧∀ x∈l,True) :=
 wb Tryz.underlying23 (WU (by kernel_rfl)) (WU (by kernel_rfl)) (Ec Tryz.underlying9)
theorem TY {cs:List Value} (h:cs.length=3):cs=[cs.getD 0 undef,cs.getD 1 undef,cs.getD 2 undef]:=by
 match cs,h with
 | [a,b,c],_=>rfl
theorem UX {cs:List Value} (h:cs.length=4):cs=[cs.getD 0 undef,cs.getD 1 undef,cs.getD 2 undef,cs.getD 3 undef]:=by
 match cs,h with
 | [a,b,c,d],_=>rfl
theorem RO:zl Tryz.prog 129 b6 (fun t=>cm t.level∧cm t.assoc):=fun enc w base sp held fuel cs x h hw=>by
 obtain ⟨hl,hf⟩:=zh Tryz.underlying129 (by
  intro i f hi
  match i,hi with
  | 0,hi=>simp at hi; subst hi; exact ⟨rfl,by kernel_rfl⟩
  | 1,hi=>simp at hi; subst hi; exact ⟨rfl,by kernel_rfl⟩
  | 2,hi=>simp at hi; subst hi; exact ⟨rfl,by kernel_rfl⟩
  | n+3,hi=>simp at hi) (by kernel_rfl) h hw
 obtain ⟨a,_,h1⟩:=hf 0 _ rfl (Ec Tryz.underlying9)
 obtain ⟨b,h2,h3⟩:=hf 1 _ rfl pQ
 obtain ⟨c,h4,h5⟩:=hf 2 _ rfl pQ
 refine ⟨⟨a,b,c⟩,⟨h2,h4⟩,?_⟩
 rw[TY hl]
 exact ix h1 (ix h3 (ix h5 AN))
theorem RI:zl Tryz.prog 71 aO (fun r=>cm r.left∧cm r.prec∧aS r.right∧∀ x∈r.right,cm x):=fun enc w base sp held fuel cs x h hw=>by
 obtain ⟨hl,hf⟩:=zh Tryz.underlying71 (by
  intro i f hi
  match i,hi with
  | 0,hi=>simp at hi; subst hi; exact ⟨rfl,by kernel_rfl⟩
  | 1,hi=>simp at hi; subst hi; exact ⟨rfl,by kernel_rfl⟩
  | 2,hi=>simp at hi; subst hi; exact ⟨rfl,by kernel_rfl⟩
  | n+3,hi=>simp at hi) (by kernel_rfl) h hw
 obtain ⟨a,h0,h1⟩:=hf 0 _ rfl pQ
 obtain ⟨b,h2,h3⟩:=hf 1 _ rfl RQ
 obtain ⟨c,h4,h5⟩:=hf 2 _ rfl pQ
 refine ⟨⟨a,b,c⟩,⟨h0,h4,h2.1,h2.2⟩,?_⟩
 rw[TY hl]
 exact ix h1 (ix h3 (ix h5 AN))
theorem RD:zl Tryz.prog 26 au aw.Ok:=fun enc w base sp held fuel cs x h hw=>by
 obtain ⟨hl,hf⟩:=zh Tryz.underlying26 (by
  intro i f hi
  match i,hi with
  | 0,hi=>simp at hi; subst hi; exact ⟨rfl,by kernel_rfl⟩
  | 1,hi=>simp at hi; subst hi; exact ⟨rfl,by kernel_rfl⟩
  | 2,hi=>simp at hi; subst hi; exact ⟨rfl,by kernel_rfl⟩
  | 3,hi=>simp at hi; subst hi; exact ⟨rfl,by kernel_rfl⟩
  | n+4,hi=>simp at hi) (by kernel_rfl) h hw
 obtain ⟨a,h0,h1⟩:=hf 0 _ rfl (wb Tryz.underlying22 (WU (by kernel_rfl)) (WU (by kernel_rfl)) RO)
 obtain ⟨b,h2,h3⟩:=hf 1 _ rfl Lk
 obtain ⟨c,h4,h5⟩:=hf 2 _ rfl (wb Tryz.underlying24 (WU (by kernel_rfl)) (WU (by kernel_rfl)) RI)
 obtain ⟨d,h6,h7⟩:=hf 3 _ rfl pQ
 refine ⟨⟨a,b,c,d⟩,⟨h0.1,h2.1,h4.1,h6,h0.2,h4.2⟩,?_⟩
 rw[UX hl]
 exact ix h1 (ix h3 (ix h5 (ix h7 AN)))
end Gv
