/-
  Part 16 of the proof: what the machine does and what the functions answer.
  Conditions: those that each lemma names.
-/
import Derived.Test.YtihmlbdfcmfbdaaGreatSGzA9O
set_option linter.unusedSimpArgs false
set_option linter.unusedVariables false
set_option maxRecDepth 100000
namespace Gv
open Go Go.Proofs
def lV:SC :=
 .seq (ao [bc 73 .lss 72 71]) <|
 .seq (.cond (.tmp 73) (.skip) (.exit 2)) <|
 .seq (.block 3 (.seq (ao [aP 74 2 70 72,bp 75 2 74,((some 6),.op (.alloc [(.val (.int .i64 0)),(.val (.int .i64 0))])),(none,.op (.store 2 (.tmp 6) (.tmp 75)))]) <|
 .seq (ao [aB 76 0 6,ax 77 76,aQ 78 .geq 77 0]) <|
 .cond (.tmp 78) (.region true [⟨none,[aj 79 0,dg 80 79,aB 81 8 80,ax 82 81,aj 83 2,aP 84 1 82 83,ax 85 84,aB 86 0 6,ax 87 86,((some 88),.op (.cg 1 1 [(.val (.int .i64 0))] [(0,(.tmp 87))])),bC 89 120 [88],bc 90 .or 85 89,aP 91 1 82 83,(none,.op (.store 1 (.tmp 91) (.tmp 90)))]⟩]) (.seq (ao [aj 92 0,dg 93 92,aB 94 5 93,ax 95 94,aB 96 0 6,ax 97 96,((some 98),.op (.arith .sub (.val (.val (.int .i64 (-1)))) (.tmp 97))),aP 99 1 95 98,ax 100 99]) <|
 .cond (.tmp 100) (.si [(103,112)] [⟨none,[aj 101 0,dg 102 101,aB 103 9 102,ax 104 103,aj 105 2,aj 106 0,dg 107 106,aB 108 9 107,ax 109 108,aj 110 2,aP 111 1 109 110,ax 112 111,aj 113 0,dg 114 113,aB 115 6 114,ax 116 115,aj 117 4,aB 118 0 6,ax 119 118,((some 120),.op (.arith .sub (.val (.val (.int .i64 (-1)))) (.tmp 119))),((some 121),.op (.build [(.val (.int .i64 0)),(.val (.int .i64 0))] [(0,1,(.tmp 117)),(1,1,(.tmp 120))])),((some 122),.op (.old (.lookup 110 (.tmp 116) (.tmp 121) false) 3)),((some 123),.op (.cg 1 1 [(.val (.int .i64 0))] [(0,(.tmp 122))])),((some 124),.op (.app 1 8 (.tmp 112) (.tmp 123))),aP 125 1 104 105,(none,.op (.store 1 (.tmp 125) (.tmp 124)))]⟩]) (.skip)))) <|
 ao [aQ 126 .add 72 1,aj 72 126]
def rE:SC :=
 .seq (ao [bc 22 .lss 21 20]) <|
 .seq (.cond (.tmp 22) (.skip) (.exit 0)) <|
 .seq (.block 1 (.seq (ao [aj 23 21,aP 24 2 19 21,bp 25 2 24,((some 3),.op (.alloc [(.val (.int .i64 0)),(.val (.int .i64 0))])),aj 2 23,(none,.op (.store 2 (.tmp 3) (.tmp 25)))]) <|
 .seq (ao [aj 26 0,aB 27 0 3,ax 28 27,aB 29 1 3,ax 30 29,((some 31),.op (.arith .sub (.val (.val (.int .i64 (-1)))) (.tmp 30))),bC 32 119 [26,28,31],aj 4 32]) <|
 .seq (.seq (.region false [⟨none,[aB 33 0 3,ax 34 33,aQ 35 .eql 34 0,aj 36 35]⟩,⟨(some (36,true)),[aB 37 1 3,ax 38 37,aj 39 0,dg 40 39,aB 41 0 40,aB 42 3 41,ax 43 42,bc 44 .eql 38 43]⟩,⟨none,[eF 45 36 44]⟩]) <|
 .cond (.tmp 45) (.region true [⟨none,[aj 46 0,dg 47 46,aB 48 8 47,ax 49 48,aj 50 2,aP 51 1 49 50,ax 52 51,aj 53 0,dg 54 53,aB 55 0 54,aB 56 0 55,ax 57 56,aX 58 57,((some 59),.op (.cg 1 1 [(.val (.int .i64 0))] [(0,(.tmp 58))])),bC 60 120 [59],bc 61 .or 52 60,aP 62 1 49 50,(none,.op (.store 1 (.tmp 62) (.tmp 61)))]⟩]) (.skip)) <|
 .seq (ao [aj 63 0,dg 64 63,aB 65 4 64,ax 66 65,aj 67 4,aP 68 2 66 67,aB 69 1 68,ax 70 69,aX 71 70,bj 72 0]) <|
 .block 2 (.loop lV))) <|
 ao [aQ 127 .add 21 1,aj 21 127]
def tU:SF:=⟨.seq (ao [aj 7 0,aj 8 0,dg 9 8,aB 10 7 9,ax 11 10,aX 12 11,((some 13),.op (.make 1 24 [(.emp 1)] (.tmp 12) (.tmp 12))),dg 14 7,aB 15 9 14,(none,.op (.store 1 (.tmp 15) (.tmp 13)))]) <|
 .seq (.seq (ao [aj 16 0,dg 17 16,aB 18 7 17,ax 19 18,aX 20 19,bj 21 0]) <|
 .block 0 (.loop rE)) <|
 ao [aj 128 0,bC 129 75 [128]],
 [],130⟩
theorem y9:aV Tryz.prog 73 [100000]=some tU:=by kernel_rfl
theorem Q9 {α:Type} {a b c d r:α} {X Y:List α} : (a :: b :: c :: d :: (X ++ r :: Y)).Perm (r :: d :: a :: b :: c :: (X ++ Y)) :=
 (VS (l₁:=a :: b :: c :: d :: X) (a:=r) (l₂:=Y)).trans (.cons _ (VS (l₁:=[a,b,c]) (a:=d) (l₂:=X ++ Y)))
section
variable {g:aw} {a:List aR} {H:View} {W qn cM:Nat} {M:bU (Int × Int)} {uw:V} {s e:Nat} {ws:List (Int × Int)} {Sl:List BV} {A:List (V × List Nat)} {L:List cz}
theorem cW.stay (h:cW g a H W qn cM M uw s e ws Sl A L) {H':View} (hf:∀ id,H id≠.dead→H' id=H id):cW g a H' W qn cM M uw s e ws Sl A L :=
 ⟨h.own.stay hf,by rw[hf qn (by rw[h.mp]; simp)]; exact h.mp,h.bo,h.num,h.sl,h.al⟩
theorem cW.fresh (h:cW g a H W qn cM M uw s e ws Sl A L) {q:Nat} (hq:H q=.dead) {o:cZ} : cW g a (H.set q o) W qn cM M uw s e ws Sl A L :=
 h.stay fun id hid=>by simp only[View.set]; rw[Va (fun e=>hid (by rw[e]; exact hq))]
theorem cW.at (h:cW g a H W qn cM M uw s e ws Sl A L) (hn:1≤ws.length):H W=.arr 10 [[.aK (g.ay.map b6),.aK (g.az.map fun s=>[gs s]),.aK (g.rules.map aO),gi g.start,bm a,bP (aA g false),.mp qn,uw,.sl s 0 ws.length 1,.sl e 0 ws.length 1]] ∧
  (∃ w,uw=.sl w 0 ws.length 2∧H w=.arr 2 (mA ws))∧H s=.arr 1 (bT Sl)∧H e=.arr 1 (bQ A)∧W≠s∧W≠e∧s≠e:=by
 have hsl:=h.sl
 have hal:=h.al
 refine ⟨h.own.is 0 rfl (by simp),?_,h.own.is 2 rfl (by simp; omega),h.own.is 3 rfl (by simp[bQ]; omega),h.own.E0 0 2 rfl rfl (by decide),h.own.E0 0 3 rfl rfl (by decide),h.own.E0 2 3 rfl rfl (by decide)⟩
 obtain ⟨w,h1,h2⟩:=(h.own.own 1 rfl).sl (by simp; omega)
 exact ⟨w,by rw[h1,Vg],h2⟩
theorem cW.yx (h:cW g a H W qn cM M uw s e ws Sl A L) {Sl':List BV} (hl:Sl'.length=ws.length):cW g a (H.set s (.arr 1 (bT Sl'))) W qn cM M uw s e ws Sl' A L:=by
 have p:∀ x y z:cz,∀ L:List cz,(x :: y :: z :: L).Perm (z :: x :: y :: L):=fun x y z L=>VS (l₁:=[x,y]) (a:=z) (l₂:=L)
 refine ⟨((h.own.perm (p _ _ _ _)).put (es':=bT Sl') (by simp[hl,h.sl]) (by simp[h.sl])).perm (p _ _ _ _).symm,?_,h.bo,h.num,hl,h.al⟩
 have:=h.own.zX h.mp (.sl s 0 ws.length 1,1,bT Sl) (by simp)
 simp only[View.set]; rw[Va (fun e=>this (by rw[e]; rfl))]; exact h.mp
theorem cW.row (h:cW g a H W qn cM M uw s e ws Sl A L) {A1 A2:List (V × List Nat)} {u:V} {l:List Nat} (hA:A=A1 ++ (u,l) :: A2):bt H ((u,1,fu l) :: (.sl e 0 ws.length 1,1,bQ A) :: (.sl W 0 1 10,10,[[.aK (g.ay.map b6),.aK (g.az.map fun s=>[gs s]),.aK (g.rules.map aO),gi g.start,bm a,bP (aA g false),.mp qn,uw,.sl s 0 ws.length 1,.sl e 0 ws.length 1]]) :: (uw,2,mA ws) :: (.sl s 0 ws.length 1,1,bT Sl) :: (iL A1 ++ (iL A2 ++ L))):=by
 have h1:=h.own
 rw[show iL A ++ L=iL A1 ++ (u,1,fu l) :: (iL A2 ++ L) by rw[hA]; simp[iL]] at h1
 exact h1.perm Q9
theorem cW.SA (h:cW g a H W qn cM M uw s e ws Sl A L) {A1 A2:List (V × List Nat)} {u u':V} {l l':List Nat} (hA:A=A1 ++ (u,l) :: A2) {H':View} {es:List (List V)} (hes:es=fu l')
  (ho:bt H' ((u',1,es) :: (.sl e 0 ws.length 1,1,bQ A) :: (.sl W 0 1 10,10,[[.aK (g.ay.map b6),.aK (g.az.map fun s=>[gs s]),.aK (g.rules.map aO),gi g.start,bm a,bP (aA g false),.mp qn,uw,.sl s 0 ws.length 1,.sl e 0 ws.length 1]]) :: (uw,2,mA ws) :: (.sl s 0 ws.length 1,1,bT Sl) :: (iL A1 ++ (iL A2 ++ L))))
  (hm:H' qn=.map (bR eU M) cM):cW g a (H'.set e (.arr 1 (bQ (A1 ++ (u',l') :: A2)))) W qn cM M uw s e ws Sl (A1 ++ (u',l') :: A2) L:=by
 have hal:=h.al
 have h1:=((ho.perm (.swap _ _ _)).put (es':=bQ (A1 ++ (u',l') :: A2)) (by rw[hA]; simp[bQ]) (by rw[bQ,Vg,hal])).perm (.swap _ _ _)
 rw[hes] at h1
 refine ⟨?_,?_,h.bo,h.num,h.sl,by rw[← hal,hA]; simp⟩
 ·rw[show iL (A1 ++ (u',l') :: A2) ++ L=iL A1 ++ (u',1,fu l') :: (iL A2 ++ L) by simp[iL]]
  exact h1.perm Q9.symm
 ·have:=ho.zX hm (.sl e 0 ws.length 1,1,bQ A) (by simp)
  simp only[View.set]; rw[Va (fun e=>this (by rw[e]; rfl))]; exact hm
theorem cW.Ri (h:cW g a H W qn cM M uw s e ws Sl A L) {e2:Nat} (hq:H e2=.dead):cW g a ((H.set e2 (.arr 1 (List.replicate ws.length [.emp 1]))).set W (.arr 10 [[.aK (g.ay.map b6),.aK (g.az.map fun s=>[gs s]),.aK (g.rules.map aO),gi g.start,bm a,bP (aA g false),.mp qn,uw,.sl s 0 ws.length 1,.sl e2 0 ws.length 1]])) W qn cM M uw s e2 ws Sl (List.replicate ws.length (.emp 1,[])) L:=by
 have h1:bt H ((.sl W 0 1 10,10,[[.aK (g.ay.map b6),.aK (g.az.map fun s=>[gs s]),.aK (g.rules.map aO),gi g.start,bm a,bP (aA g false),.mp qn,uw,.sl s 0 ws.length 1,.sl e 0 ws.length 1]]) :: (uw,2,mA ws) :: (.sl s 0 ws.length 1,1,bT Sl) :: L) :=
  h.own.sub (.cons_cons _ (.cons_cons _ (.cons_cons _ (.cons _ (List.sublist_append_right _ _)))))
 have o3:=h1.new hq 1 (List.replicate ws.length [V.emp 1])
 have o4:=(o3.perm (.swap _ _ _)).put (es':=[[.aK (g.ay.map b6),.aK (g.az.map fun s=>[gs s]),.aK (g.rules.map aO),gi g.start,bm a,bP (aA g false),.mp qn,uw,.sl s 0 ws.length 1,.sl e2 0 ws.length 1]]) rfl rfl
 have o5:=((o4.perm (.cons _ (VS (l₁:=[_,_]) (l₂:=L)).symm)).Pv ws.length).perm (.cons _ (.cons _ (.cons _ (.cons _ List.perm_append_comm))))
 have e2':List.replicate ws.length [V.emp 1]=bQ (List.replicate ws.length ((V.emp 1,[]):V × List Nat)):=by simp[bQ]
 rw[WO] at o5
 refine ⟨?_,?_,h.bo,h.num,h.sl,by simp⟩
 ·rw[← e2']; exact o5
 ·have hWm:=h.own.zX h.mp _ (Xk ..)
  simp only[View.set]
  rw[Va (fun e=>hWm (by rw[e]; rfl)),Va (fun e=>by have:=h.mp; rw[e,hq] at this; simp at this)]
  exact h.mp
theorem Ee {A:List (V × List Nat)} {x:Nat} (hx:x < A.length):((A.getD x (.any,[])).1,1,fu (A.getD x (.any,[])).2)∈iL A:=by
 have h:A[x]?=some (A.getD x (.any,[])):=getD_some hx
 exact Vw.2 ⟨_,Vf h,rfl⟩
theorem cW.SV (h:cW g a H W qn cM M uw s e ws Sl A L) (hn:1≤ws.length) {E:Nat→List Nat} (hE:∀ x,x < ws.length→(A.getD x (.any,[])).2=E x) (hE2:∀ x,x < ws.length→(E x).length≤1000000000∧∀ y∈E x,y < ws.length) :
  Sp ws.length E H W s e (A.map (·.1)) (.aK (g.ay.map b6),.aK (g.az.map fun s=>[gs s]),.aK (g.rules.map aO),gi g.start,bm a,bP (aA g false),.mp qn,uw):=by
 obtain ⟨hW,⟨w,huw,hw⟩,hs,he,n1,n2,n3⟩:=h.at hn
 have hal:=h.al
 have hu:∀ x,x < ws.length→(A.map (·.1)).getD x .any=(A.getD x (.any,[])).1:=fun x hx=>by
  simp[U8,U9 (show x < A.length by omega)]
 refine ⟨hW,by rw[he]; simp[bQ],by simpa using hal,fun x hx=>?_,hE2,by rw[huw]; rfl,n1,Ne.symm n3,fun x hx=>?_⟩
 ·rw[hu x hx,← hE x hx]
  exact h.own.1 _ (by simp only[Vp]; exact .inr (.inr (.inr (.inr (WC _ (Ee (x:=x) (by omega)))))))
 ·rw[hu x hx]
  have p:∀ x y z:cz,∀ L:List cz,(x :: y :: z :: L).Perm (z :: x :: y :: L):=fun x y z L=>VS (l₁:=[x,y]) (a:=z) (l₂:=L)
  exact (h.own.perm (p _ _ _ _)).off rfl _ (by simp only[Vp]; exact .inr (.inr (.inr (WC _ (Ee (x:=x) (by omega))))))
end
def Og (n:Nat) (Sl:List BV) (A:List (V × List Nat)) (fS:Nat→BV) (fA:Nat→List Nat):Prop:=∀ y,y < n→Sl.getD y 0=fS y∧(A.getD y (.any,[])).2=fA y
theorem A8 {α:Type} {l r:List α} {x y d:α} {z:Nat} (h:z≠l.length):(l ++ x :: r).getD z d=(l ++ y :: r).getD z d:=by
 simp only[U8]
 rcases Vy z l.length with q | q
 ·rw[Vz q,Vz q]
 ·rw[VN q,VN q]
  obtain ⟨k,hk⟩:∃ k,z - l.length=k+1:=⟨z - l.length - 1,by omega⟩
  rw[hk,VU,VU]
theorem BU (b:BV) (l:List dx) (e:dx):oF b (l ++ [e])=if 0≤e.sym then oF b l ||| dN e.sym else oF b l:=by
 unfold oF; rw[VR]; rfl
theorem Ew (g:aw) (ws:List (Int × Int)) (q:Nat) (l:List dx) (e:dx):s8 g ws q (l ++ [e])=if e.sym < 0∧(aA g false).getD (-1 - e.sym).toNat false=true then s8 g ws q l ++ [uI ws ((q:Int),-1 - e.sym)] else s8 g ws q l:=by
 unfold s8
 rw[WB,VB]
 by_cases h:e.sym < 0∧(aA g false).getD (-1 - e.sym).toNat false=true
 ·rw[Vd h,List.filter_cons_of_pos (by simp only[h.1,h.2]; rfl)]; simp
 ·rw[Va h]
  have:(decide (e.sym < 0) && (aA g false).getD (-1 - e.sym).toNat false)=false:=by
   rw[Bool.eq_false_iff]; simpa using h
  rw[List.filter_cons_of_neg (by simp only[this]; simp)]
  simp
set_option maxHeartbeats 16000000 in
theorem xt {g:aw} {a:List aR} (hA:cF g a) (hr9:bS g=true) (ha:a.length≤300) {W qn cM:Nat} {M:bU (Int × Int)} {uw:V} {s e2:Nat} {i q:Nat} (hi:i < (bg a).length) (hq:q < a.length) (S0:BV) (fS:Nat→BV) (fA:Nat→List Nat) {T:Env} {H:View} {Q:Exit→Env→View→Prop} {v:cD (T,H,Q)}
  (hJ:∃ (Sl:List BV) (A:List (V × List Nat)),cW g a H W qn cM M uw s e2 (bg a) Sl A []∧Og (bg a).length Sl A (fun y=>if y=i then S0 else fS y) (fun y=>if y=i then [] else fA y))
  (ht:T 0=.ptr W 0 0∧T 2=gi i∧T 4=gi q∧T 19=uw∧T 20=gi (bg a).length∧T 21=gi i∧T 70=.aK (fy (a.getD q bH).bk)∧T 71=gi (a.getD q bH).bk.length∧T 72=gi 0)
  (hQ:∀ (T':Env) (H':View),(∃ (Sl:List BV) (A:List (V × List Nat)),cW g a H' W qn cM M uw s e2 (bg a) Sl A []∧Og (bg a).length Sl A (fun y=>if y=i then oF S0 (a.getD q bH).bk else fS y) (fun y=>if y=i then s8 g (bg a) q (a.getD q bH).bk else fA y)) →
   T' 0=.ptr W 0 0→T' 19=uw→T' 20=gi (bg a).length→T' 21=gi i→Q (.exit 2) T' H'):aZ Tryz.prog lV T H Q v:=by
 have hn1:=pG hA
 have hnl:(bg a).length≤40 * a.length:=lq hA.ok.bk a.length
 have hZm:=Vf (getD_some (d:=bH) hq)
 have hZe:=hA.ok.bk _ hZm
 have hZs:=hA.ok.sym _ hZm
 have hEd:∀ e∈(a.getD q bH).bk,eK a q e.sym:=fun e he=>⟨e,he,rfl⟩
 have hhas:∀ e∈(a.getD q bH).bk,gu g e.sym=true:=fun e he=>by
  obtain ⟨y,hy,hn⟩:=(hA.nS hq).1 (hEd e he)
  exact pI hA.dG (hA.has hq hy) hn
 generalize a.getD q bH=Z at *
 obtain ⟨Sl0,A0,hI0,hSA0⟩:=hJ
 obtain ⟨t0,t2,t4,t19,t20,t21,t70,t71,t72⟩:=ht
 refine aZ.up Z.bk.length (fun j T H'=>∃ (Sl:List BV) (A:List (V × List Nat)),cW g a H' W qn cM M uw s e2 (bg a) Sl A []∧Og (bg a).length Sl A (fun y=>if y=i then oF S0 (Z.bk.take j) else fS y) (fun y=>if y=i then s8 g (bg a) q (Z.bk.take j) else fA y) ∧
  T 0=.ptr W 0 0∧T 2=gi i∧T 4=gi q∧T 19=uw∧T 20=gi (bg a).length∧T 21=gi i∧T 70=.aK (fy Z.bk)∧T 71=gi Z.bk.length∧T 72=gi j) ⟨Sl0,A0,hI0,by simpa [oF,s8] using hSA0,t0,t2,t4,t19,t20,t21,t70,t71,t72⟩ ?_
 clear hI0 hSA0 t0 t2 t4 t19 t20 t21 t70 t71 t72
 rintro j k T H1 hk ⟨Sl,A,hI,hSA,t0,t2,t4,t19,t20,t21,t70,t71,t72⟩
 simp (disch:=omega) only [↓wr,seval,wq,ah,ag,ak,aa,ab,af,ai,ae,lV,t0,t2,t4,t70,t71,t72]
 refine av.dec (fun hc=>?_) (fun hc=>?_)
 rotate_left
 ·simp (disch:=omega) only [↓wr,seval,wq,ah,ag,ak,aa,ab,af,ai,ae]
  rw[Vq (by omega)] at hSA
  exact hQ _ _ ⟨Sl,A,hI,hSA⟩ t0 t19 t20 t21
 have hy:Z.bk[j]?=some (Z.bk[j]'(by omega)):=U9 (by omega)
 have hym:=Vi (show j < Z.bk.length by omega)
 have htk:Z.bk.take (j+1)=Z.bk.take j ++ [Z.bk[j]'(by omega)]:=by rw[Vx,hy]; rfl
 generalize Z.bk[j]'(by omega)=y at hy hym htk
 have hyb:=hZs y hym
 have hyE:=hEd y hym
 have hyh:=pD (hhas y hym)
 have hT:=hA.dG.ay
 have hN:=hA.dG.az
 have hSi:=hSA i hi
 simp only[if_true] at hSi
 simp (disch:=omega) only [↓wr,seval,wq,ah,ag,ak,aa,ab,af,ai,ae,t0,t2,t4,t70,t71,t72,fy,Vc,hy,Vh,jo]
 intro q6 hq6
 have hI6:=hI.fresh hq6 (o:=.arr 2 [[gi y.sym,gi y.to]])
 have hq6':(H1.set q6 (.arr 2 [[gi y.sym,gi y.to]])) q6=.arr 2 [[gi y.sym,gi y.to]]:=by simp[View.set]
 rw[set_set]
 generalize H1.set q6 (.arr 2 [[gi y.sym,gi y.to]])=H6 at hI6 hq6' ⊢
 clear hI hq6
 obtain ⟨hW,⟨w2,huw2,hw⟩,hs,he,n1,n2,n3⟩:=hI6.at hn1
 have hsl:=hI6.sl
 have hsi:=oQ (l:=Sl) (i:=i) (by omega)
 refine av.dec (fun h0=>?_) (fun h0=>?_)
 ·simp (disch:=omega) only [↓wr,seval,wq,ah,ag,ak,aa,ab,af,ai,ae,t0,t2,hW,hs,hsi,hq6']
  refine ⟨hi,by omega,fun q7 hq7=>?_⟩
  refine aD.wM (Eb y.sym) (by kernel_rfl) (.val _) ⟨dT.Qc (l:=[y.sym]) (.inr ⟨q7,rfl,by simp[View.set]⟩),trivial⟩ ?_
  have hI7:=hI6.fresh hq7 (o:=.arr 1 [[gi y.sym]])
  generalize H6.set q7 (.arr 1 [[V.val (.int .i64 y.sym)]])=H7 at hI7 ⊢
  obtain ⟨-,-,hs7,-⟩:=hI7.at hn1
  have e1:(bT Sl).set i [gw (sF Sl i ||| dN y.sym)]=bT (Sl.set i (sF Sl i ||| dN y.sym)):=by simp[WQ]
  simp (disch:=omega) only [↓wr,seval,wq,ah,ag,ak,aa,ab,af,ai,ae,t0,t2,t4,t19,t20,t21,t70,t71,t72,hs7,hsi,e1,sC]
  refine ⟨hi,by omega,?_⟩
  refine aM hk (by omega) ⟨Sl.set i (sF Sl i ||| dN y.sym),A,hI7.yx (by simp[hsl]),fun z hz=>?_,t0,t2,t4,t19,t20,t21,t70,t71,by first | rfl | (congr 2)⟩
  have hz2:=hSA z hz
  rw[htk,BU,Ew,Vd h0,Va (fun h=>by omega),gJ]
  refine ⟨?_,hz2.2⟩
  by_cases e:z=i
  ·subst e
   rw[Vd ⟨rfl,by omega⟩]
   simp only[if_true]
   rw[sF,hSi.1]
  ·rw[Va (fun h=>e h.1.symm)]
   simp only[Va e] at hz2 ⊢
   exact hz2.1
 ·have hnl3:(-1 - y.sym).toNat < (aA g false).length:=by
   rw[fk hr9]
   unfold jT at hyh
   rw[Vd (by omega)] at hyh
   omega
  have hnu:(aA g false)[(-1 - y.sym).toNat]?=some ((aA g false).getD (-1 - y.sym).toNat false):=getD_some hnl3
  have hsn:=Ew g (bg a) q (Z.bk.take j) y
  rw[← htk] at hsn
  have hsr:=BU S0 (Z.bk.take j) y
  rw[← htk,Va h0] at hsr
  generalize hb:(aA g false).getD (-1 - y.sym).toNat false=b at hnu hsn
  simp (disch:=omega) only [↓wr,seval,wq,ah,ag,ak,aa,ab,af,ai,ae,t0,hW,hq6',bP,Vc,hnu,Vh]
  refine av.split (fun hbt=>?_) (fun hbt=>?_)
  rotate_left
  ·simp (disch:=omega) only [↓wr,seval,wq,ah,ag,ak,aa,ab,af,ai,ae,t0,t2,t4,t19,t20,t21,t70,t71,t72]
   rw[hbt,Va (by simp)] at hsn
   exact aM hk (by omega) ⟨Sl,A,hI6,fun z hz=>by rw[hsr,hsn]; exact hSA z hz,t0,t2,t4,t19,t20,t21,t70,t71,by first | rfl | (congr 2)⟩
  rw[hbt,Vd ⟨by omega,rfl⟩] at hsn
  have hal:=hI6.al
  obtain ⟨A1,⟨u,l⟩,A2,rfl,hA1,_⟩:=mO (l:=A) (i:=i) (by omega)
  have hRow:=hI6.row rfl
  have hui:(bQ (A1 ++ (u,l) :: A2)).getD i []=[u]:=by rw[← hA1]; simp[bQ]
  have hli:((A1 ++ (u,l) :: A2).getD i (V.any,([]:List Nat))).2=l:=by rw[← hA1]; simp
  have hrl:(bQ (A1 ++ (u,l) :: A2)).length=(bg a).length:=by rw[bQ,Vg]; exact hal
  have hk2:(bg a)[uI (bg a) ((q:Int),-1 - y.sym)]?=some ((q:Int),-1 - y.sym):=jL (dw.2 ⟨by omega,by rw[show -1 - (-1 - y.sym)=y.sym by omega]; exact hyE⟩)
  have hgm:=hI6.num _ _ hk2
  have hnlt:=(Vn.1 hk2).1
  generalize uI (bg a) ((q:Int),-1 - y.sym)=kn at hk2 hgm hnlt hsn
  simp (disch:=omega) only [↓wr,seval,wq,ah,ag,ak,aa,ab,af,ai,ae,t0,t2,t4,hW,he,hui,hq6']
  refine ⟨hi,by omega,?_⟩
  have hmt:dB Tryz.prog 110=some (116,3):=by kernel_rfl
  have hz:zeroV Tryz.prog 3=some (gi 0):=by kernel_rfl
  refine FT (kv:=eU) (kt:=116) (et:=3) (z:=gi 0) (id:=qn) (c:=cM) (m:=M) (k:=((q:Int),-1 - y.sym)) hmt hz (z6 wz) (by first | rfl | simp (disch:=omega) only [↓wr,seval,wq,ah,ag,ak,aa,ab,af,ai,ae]) (by first | rfl | (simp (disch:=omega) only [↓wr,seval,wq,ah,ag,ak,aa,ab,af,ai,ae]; rfl)) hI6.mp ?_
  rw[hgm,Vs]
  have hll:l.length≤40:=by
   rw[← hli,hSi.2]
   unfold s8
   rw[Vg]
   have h1:=VZ (fun e=>decide (e.sym < 0) && (aA g false).getD (-1 - e.sym).toNat false) (Z.bk.take j)
   rw[VQ] at h1
   omega
  simp (disch:=omega) only [↓wr,seval,wq,ah,ag,ak,aa,ab,af,ai,ae]
  intro q8 hq8
  simp (disch:=omega) only [↓wr,seval,wq,ah,ag,ak,aa,ab,af,ai,ae,bV]
  refine cn (hRow.fresh hq8) (by simp[aU]) (by unfold aJ; simp; omega) (by unfold aJ; simp; omega) ?_
  intro u2 H8 o8 l8
  have he8:=o8.is 1 rfl (by rw[hrl]; omega)
  have hm8:=l8.map (hRow.fresh hq8).head (b:=qn) (c:=cM) (es:=bR eU M) (by
   have:=hI6.mp
   simp only[View.set]; rw[Va (fun e=>by rw[← e,this] at hq8; simp at hq8)]; exact this)
  have hse:(bQ (A1 ++ (u,l) :: A2)).set i [u2]=bQ (A1 ++ (u2,l ++ [kn]) :: A2):=by rw[← hA1]; simp[bQ]
  simp (disch:=omega) only [↓wr,seval,wq,ah,ag,ak,aa,ab,af,ai,ae,t0,t2,t4,t19,t20,t21,t70,t71,t72,he8,hui,o8.head.cells,o8.head.gR,hse]
  refine ⟨hi,by omega,?_,?_⟩
  ·rcases hRow.head with ⟨_,kk,h⟩ | ⟨m,h,hm⟩
   ·rw[show u=.emp kk from h,wm]; trivial
   ·rw[show u=.sl m 0 _ 1 from h,zM]
    intro e
    rw[← e,hW] at hm; simp at hm
  ·refine aM hk (by omega) ⟨Sl,A1 ++ (u2,l ++ [kn]) :: A2,hI6.SA rfl (l':=l ++ [kn]) (es:=fu l ++ [[gi (kn:Int)]]) (by simp) o8 hm8,fun z hz=>?_,t0,t2,t4,t19,t20,t21,t70,t71,by first | rfl | (congr 2)⟩
   have hz2:=hSA z hz
   rw[hsr,hsn]
   refine ⟨hz2.1,?_⟩
   by_cases e:z=i
   ·subst e
    simp only[if_true]
    rw[← hSi.2,hli,← hA1]
    simp
   ·rw[A8 (y:=(u,l)) (by rw[hA1]; exact e)]
    simp only[Va e] at hz2 ⊢
    exact hz2.2
theorem lp.congr {n:Nat} {E:Nat→List Nat} {S S':Nat→BV} (hE:∀ x,x < n→∀ y∈E x,y < n) (hS:∀ x,x < n→S x=S' x) {z t:Nat} (hz:z < n):lp E S z t↔lp E S' z t:=by
 have key:∀ {z w:Nat},jc E z w→z < n→w < n:=by
  intro z w h
  induction h with
  | refl=>exact id
  | step h1 _ ih=>exact fun hz=>ih (hE _ hz _ h1)
 constructor
 ·rintro ⟨w,h1,h2⟩
  exact ⟨w,h1,by rw[← hS w (key h1 hz)]; exact h2⟩
 ·rintro ⟨w,h1,h2⟩
  exact ⟨w,h1,by rw[hS w (key h1 hz)]; exact h2⟩
theorem QE {g:aw} {a:List aR} (h:∀ s∈a,s.bk.length≤40) (x:Int × Int):(mU g a x).length≤40:=by
 unfold mU s8
 rw[Vg]
 refine V1 (VZ _ _) ?_
 generalize ef a x.1.toNat (-1 - x.2)=q
 rcases Vy q a.length with k | k
 ·exact h _ (Vf (getD_some k))
 ·rw[U8,VI k]; simp[bH]
set_option maxHeartbeats 16000000 in
theorem Sb {g:aw} {a:List aR} (hA:cF g a) (hr9:bS g=true) (ha:a.length≤300) {H:View} {W qn cM:Nat} {M:bU (Int × Int)} {uw:V} {s e:Nat} (hI:cW g a H W qn cM M uw s e (bg a) (List.replicate (bg a).length 0) (List.replicate (bg a).length (.emp 1,[])) []) :
  aC Tryz.prog 73 [.ptr W 0 0] H fun _ H'=>∃ (e':Nat) (Sl:List BV) (A:List (V × List Nat)),cW g a H' W qn cM M uw s e' (bg a) Sl A []∧∀ (x p t:Nat) (B:Int),(bg a)[x]?=some ((p:Int),B)→((sF Sl x).getLsbD t=true↔oH g a p B t):=by
 refine aC.of mixed y9 ?_
 have hn1:=pG hA
 have hnl:(bg a).length≤40 * a.length:=lq hA.ok.bk a.length
 obtain ⟨hW,⟨w,huw,hw⟩,hs,he,n1,n2,n3⟩:=hI.at hn1
 have hul:cH uw=some (bg a).length:=by rw[huw]; rfl
 have hWd:∀ q,H q=.dead→W≠q:=fun q hq e=>by rw[e,hq] at hW; simp at hW
 simp (disch:=omega) only [↓wr,seval,wq,ah,ag,ak,aa,ab,af,ai,ae,tU,hW,hul]
 refine ⟨⟨by omega,by unfold aJ; omega,by unfold aJ; omega⟩,fun h0=>by omega,fun _ e2 he2=>?_⟩
 have w1:=hWd e2 he2
 simp (disch:=omega) only [↓wr,seval,wq,ah,ag,ak,aa,ab,af,ai,ae,w1,hul]
 have hI2:=hI.Ri he2
 generalize ((H.set e2 (.arr 1 (List.replicate (bg a).length [V.emp 1]))).set W (.arr 10 [[V.aK (g.ay.map b6),.aK (g.az.map fun s=>[gs s]),.aK (g.rules.map aO),gi g.start,bm a,bP (aA g false),.mp qn,uw,.sl s 0 (bg a).length 1,.sl e2 0 (bg a).length 1]]))=H2 at hI2 ⊢
 refine aZ.up (bg a).length (fun i T H'=>∃ (Sl:List BV) (A:List (V × List Nat)),cW g a H' W qn cM M uw s e2 (bg a) Sl A []∧Og (bg a).length Sl A (fun y=>if y < i then ri g a (du a y) else 0) (fun y=>if y < i then mU g a (du a y) else [])∧T 0=.ptr W 0 0∧T 19=uw∧T 20=gi (bg a).length∧T 21=gi i)
  ⟨_,_,hI2,fun y hy=>by simp[U8,hy],rfl,rfl,rfl,rfl⟩ ?_
 clear hI2 hI he2 hW hw hs he n1 n2 n3 hWd w1
 rintro i k T H' hk ⟨Sl,A,hI,hSA,t0,t19,t20,t21⟩
 obtain ⟨hW,⟨w',huw',hw⟩,hs,he,n1,n2,n3⟩:=hI.at hn1
 have hww:w'=w:=by rw[huw] at huw'; simp only[V.sl.injEq] at huw'; exact huw'.1.symm
 subst hww
 simp (disch:=omega) only [↓wr,seval,wq,ah,ag,ak,aa,ab,af,ai,ae,rE,t0,t19,t20,t21]
 refine av.dec (fun hc=>?_) (fun hc=>?_)
 rotate_left
 ·have hi:i=(bg a).length:=by omega
  subst hi
  have hSA2:Og (bg a).length Sl A (fun y=>ri g a (du a y)) (fun y=>mU g a (du a y)):=fun y hy=>by
   have:=hSA y hy
   simpa only [hy,if_true] using this
  have hCC:=hI.SV hn1 (E:=fun y=>mU g a (du a y)) (fun x hx=>(hSA2 x hx).2) (fun x hx=>⟨V1 (QE hA.ok.bk _) (by omega),J9 hA hx⟩)
  simp (disch:=omega) only [↓wr,seval,wq,ah,ag,ak,aa,ab,af,ai,ae,t0]
  refine aD.dP ((Fl hCC hn1 (by omega) Sl hs hI.sl).mono ?_)
  rintro r H5 ⟨Sl',k1,k2,k3,k4⟩
  simp (disch:=omega) only [↓wr,seval,wq,ah,ag,ak,aa,ab,af,ai,ae]
  have hI5:=(hI.yx (Sl':=Sl') k1).stay (H':=H5) fun id hid=>by
   simp only[View.set] at hid ⊢
   by_cases e:id=s
   ·rw[Vd e,e]; exact k2
   ·rw[Va e] at hid ⊢
    exact k4 id hid e
  refine ⟨e2,Sl',A,hI5,fun x p t B hx=>?_⟩
  have hxl:=(Vn.1 hx).1
  rw[k3 x t hxl,lp.congr (S:=sF Sl) (fun x hx=>J9 hA hx) (S':=fun y=>ri g a (du a y)) (fun z hz=>(hSA2 z hz).1) hxl]
  exact M0 hA hx
 have hx:(bg a)[i]?=some (du a i):=getD_some (by omega)
 obtain ⟨p,hp⟩:=sy (Vf hx)
 have hmem:=Vf hx
 have hSi:=hSA i (by omega)
 generalize hxe:du a i=x at hx hp hmem
 obtain ⟨x1,B⟩:=x
 simp only at hp
 have hx1:x1=p:=by simpa using Wj Prod.fst hp
 subst hx1
 clear hp
 obtain ⟨hB0,hE⟩:=dw.1 hmem
 obtain ⟨_,_,_,hto,hql,hwd⟩:=hA.ef hE
 have hpl:=gn hE
 have hwg:(mA (bg a)).getD i []=[gi (p:Int),gi B]:=by
  simp[U8,hx]
 have hBb:B≤1000:=by
  obtain ⟨e,h1,h2⟩:=hE
  have:=hA.ok.sym _ (zY h1).2 e h1
  omega
 have hshort:aS a:=by unfold aS; omega
 have hedg:∀ s∈a,aS s.bk∧∀ e∈s.bk,cm e.sym∧cm e.to:=fun s hs=>⟨by have:=hA.ok.bk s hs; unfold aS; omega,fun e he=>by
  have h1:=hA.ok.sym s hs e he
  have h2:=hA.ok.to s hs e he
  unfold cm; omega⟩
 simp (disch:=omega) only [↓wr,seval,wq,ah,ag,ak,aa,ab,af,ai,ae,t0,t19,t20,t21,huw,hw,hwg]
 refine ⟨by omega,by omega,fun q1 hq1=>?_⟩
 rw[set_set]
 have hI1:=hI.fresh hq1 (o:=.arr 2 [[gi (p:Int),gi B]])
 have hq1':(H'.set q1 (.arr 2 [[gi (p:Int),gi B]])) q1=.arr 2 [[gi (p:Int),gi B]]:=by simp[View.set]
 generalize H'.set q1 (.arr 2 [[gi (p:Int),gi B]])=H1 at hI1 hq1' ⊢
 refine aD.dP ((F2 (hI1.at hn1).1 hshort hedg p (-1 - B)).mono ?_)
 rintro r H3 ⟨rfl,hf3⟩
 have hI3:=hI1.stay hf3
 have hq3:H3 q1=.arr 2 [[gi (p:Int),gi B]]:=by rw[hf3 q1 (by rw[hq1']; simp)]; exact hq1'
 clear hI hI1 hq1' hf3 hq1 hW hw hs he n1 n2 n3
 clear H1 H'
 obtain ⟨hW,⟨w2,huw2,hw⟩,hs,he,n1,n2,n3⟩:=hI3.at hn1
 clear huw2
 have hsl:=hI3.sl
 have hsi:=oQ (l:=Sl) (i:=i) (by omega)
 rw[hwd]
 simp only[Nat.lt_irrefl,if_false] at hSi
 have hS0:sF Sl i=0:=hSi.1
 simp (disch:=omega) only [↓wr,seval,wq,ah,ag,ak,aa,ab,af,ai,ae,t0,t19,t20,t21,hq3]
 refine av.eq (fun hp0=>?_) (fun hp0=>?_)
 ·simp (disch:=omega) only [↓wr,seval,wq,ah,ag,ak,aa,ab,af,ai,ae,t0,hq3,hW]
  refine av.eq (fun hBs=>?_) (fun hBs=>?_)
  ·simp (disch:=omega) only [↓wr,seval,wq,ah,ag,ak,aa,ab,af,ai,ae,t0,hW,hs,hsi]
   refine ⟨by omega,by omega,fun q5 hq5=>?_⟩
   refine aD.wM (Eb (g.ay.length:Int)) (by kernel_rfl) (.val _) ⟨dT.Qc (l:=[(g.ay.length:Int)]) (.inr ⟨q5,rfl,by simp[View.set]⟩),trivial⟩ ?_
   have hI5:=hI3.fresh hq5 (o:=.arr 1 [[gi (g.ay.length:Int)]])
   generalize H3.set q5 (.arr 1 [[V.val (.int .i64 (g.ay.length:Int))]])=H5 at hI5 ⊢
   obtain ⟨hW5,-,hs5,-⟩:=hI5.at hn1
   have e1:(bT Sl).set i [gw (sF Sl i ||| dN (g.ay.length:Int))]=bT (Sl.set i (sF Sl i ||| dN (g.ay.length:Int))):=by simp[WQ]
   have hIx:=hI5.yx (Sl':=Sl.set i (sF Sl i ||| dN (g.ay.length:Int))) (by simp[hsl])
   have hWx:=hW5
   have hgZ:a[ef a p (-1 - B)]?=some (a.getD (ef a p (-1 - B)) bH):=getD_some hql
   simp (disch:=omega) only [↓wr,seval,wq,ah,ag,ak,aa,ab,af,ai,ae,hs5,hsi,e1,sC,hW5,n1,t0,bm,Vc,hgZ,Vh,iO]
   refine ⟨by omega,by omega,?_⟩
   refine xt hA hr9 ha (by omega) hql (nQ g ((p:Int),B)) (fun y=>if y < i then ri g a (du a y) else 0) (fun y=>if y < i then mU g a (du a y) else []) ⟨_,A,hIx,fun z hz=>?_⟩ ⟨t0,rfl,rfl,t19,t20,t21,rfl,by show gi ((fy _).length:Int)=_; simp[fy],rfl⟩ (fun T' H' hF u0 u19 u20 u21=>?_)
   ·have hz2:=hSA z hz
    have hr0:nQ g ((p:Int),B)=dN (g.ay.length:Int):=by
     unfold nQ
     exact Vd ⟨hp0,hBs⟩
    rw[gJ]
    by_cases e:z=i
    ·subst e
     rw[Vd ⟨rfl,by omega⟩]
     simp only[if_true]
     rw[hr0,hS0]
     exact ⟨by simp,hSi.2⟩
    ·rw[Va (fun h=>e h.1.symm)]
     simp only[Va e]
     exact hz2
   ·obtain ⟨Sl9,A9,hI9,hS9⟩:=hF
    simp (disch:=omega) only [↓wr,seval,wq,ah,ag,ak,aa,ab,af,ai,ae,u0,u19,u20,u21]
    refine aM hk (by omega) ⟨Sl9,A9,hI9,fun z hz=>?_,u0,u19,u20,by first | rfl | (congr 2)⟩
    have:=hS9 z hz
    by_cases e:z=i
    ·subst e
     simp only[if_true,Nat.lt_succ_self] at this ⊢
     rw[hxe]
     simp only[ri,mU,Vv]
     exact this
    ·simp only[Va e,show z < i+1↔z < i by omega] at this ⊢
     exact this
  ·have hIx:=hI3
   have hWx:=hW
   have hgZ:a[ef a p (-1 - B)]?=some (a.getD (ef a p (-1 - B)) bH):=getD_some hql
   simp (disch:=omega) only [↓wr,seval,wq,ah,ag,ak,aa,ab,af,ai,ae,t0,hWx,bm,Vc,hgZ,Vh,iO]
   refine xt hA hr9 ha (by omega) hql (nQ g ((p:Int),B)) (fun y=>if y < i then ri g a (du a y) else 0) (fun y=>if y < i then mU g a (du a y) else []) ⟨_,A,hIx,fun z hz=>?_⟩ ⟨t0,rfl,rfl,t19,t20,t21,rfl,by show gi ((fy _).length:Int)=_; simp[fy],rfl⟩ (fun T' H' hF u0 u19 u20 u21=>?_)
   ·have hz2:=hSA z hz
    have hr0:nQ g ((p:Int),B)=0:=by
     unfold nQ
     exact Va fun h=>hBs h.2
    by_cases e:z=i
    ·subst e
     simp only[if_true]
     rw[hr0]; exact hSi
    ·simp only[Va e]
     exact hz2
   ·obtain ⟨Sl9,A9,hI9,hS9⟩:=hF
    simp (disch:=omega) only [↓wr,seval,wq,ah,ag,ak,aa,ab,af,ai,ae,u0,u19,u20,u21]
    refine aM hk (by omega) ⟨Sl9,A9,hI9,fun z hz=>?_,u0,u19,u20,by first | rfl | (congr 2)⟩
    have:=hS9 z hz
    by_cases e:z=i
    ·subst e
     simp only[if_true,Nat.lt_succ_self] at this ⊢
     rw[hxe]
     simp only[ri,mU,Vv]
     exact this
    ·simp only[Va e,show z < i+1↔z < i by omega] at this ⊢
     exact this
 ·have hIx:=hI3
  have hWx:=hW
  have hgZ:a[ef a p (-1 - B)]?=some (a.getD (ef a p (-1 - B)) bH):=getD_some hql
  simp (disch:=omega) only [↓wr,seval,wq,ah,ag,ak,aa,ab,af,ai,ae,t0,hWx,bm,Vc,hgZ,Vh,iO]
  refine xt hA hr9 ha (by omega) hql (nQ g ((p:Int),B)) (fun y=>if y < i then ri g a (du a y) else 0) (fun y=>if y < i then mU g a (du a y) else []) ⟨_,A,hIx,fun z hz=>?_⟩ ⟨t0,rfl,rfl,t19,t20,t21,rfl,by show gi ((fy _).length:Int)=_; simp[fy],rfl⟩ (fun T' H' hF u0 u19 u20 u21=>?_)
  ·have hz2:=hSA z hz
   have hr0:nQ g ((p:Int),B)=0:=by
    unfold nQ
    exact Va fun h=>hp0 h.1
   by_cases e:z=i
   ·subst e
    simp only[if_true]
    rw[hr0]; exact hSi
   ·simp only[Va e]
    exact hz2
  ·obtain ⟨Sl9,A9,hI9,hS9⟩:=hF
   simp (disch:=omega) only [↓wr,seval,wq,ah,ag,ak,aa,ab,af,ai,ae,u0,u19,u20,u21]
   refine aM hk (by omega) ⟨Sl9,A9,hI9,fun z hz=>?_,u0,u19,u20,by first | rfl | (congr 2)⟩
   have:=hS9 z hz
   by_cases e:z=i
   ·subst e
    simp only[if_true,Nat.lt_succ_self] at this ⊢
    rw[hxe]
    simp only[ri,mU,Vv]
    exact this
   ·simp only[Va e,show z < i+1↔z < i by omega] at this ⊢
    exact this
def qD:SC :=
 .seq (ao [bc 17 .lss 16 15]) <|
 .seq (.cond (.tmp 17) (.skip) (.exit 0)) <|
 .seq (.block 1 (.seq (ao [aj 18 16,aP 19 1 14 16,ax 20 19,aj 8 18,aj 9 20]) <|
 .seq (.seq (.region false [⟨none,[aj 21 9,aQ 22 .lss 21 0,aj 23 22]⟩,⟨(some (23,true)),[aj 24 0,aB 25 1 5,ax 26 25,aj 27 8,aQ 28 .add 27 1,((some 29),.op (.slice 1 (.tmp 26) (some (.tmp 28)) none)),bC 30 121 [24,29]]⟩,⟨none,[eF 31 23 30]⟩]) <|
 .cond (.tmp 31) (.seq (ao [aj 32 0,dg 33 32,aB 34 6 33,ax 35 34,aj 36 7,aj 37 9,((some 38),.op (.arith .sub (.val (.val (.int .i64 (-1)))) (.tmp 37))),((some 39),.op (.build [(.val (.int .i64 0)),(.val (.int .i64 0))] [(0,1,(.tmp 36)),(1,1,(.tmp 38))])),((some 40),.op (.old (.lookup 110 (.tmp 35) (.tmp 39) false) 3)),aj 10 40]) <|
 .si [(43,52)] [⟨none,[aj 41 0,dg 42 41,aB 43 9 42,ax 44 43,aj 45 10,aj 46 0,dg 47 46,aB 48 9 47,ax 49 48,aj 50 10,aP 51 1 49 50,ax 52 51,aj 53 0,dg 54 53,aB 55 6 54,ax 56 55,bp 57 2 4,((some 58),.op (.old (.lookup 110 (.tmp 56) (.tmp 57) false) 3)),((some 59),.op (.cg 1 1 [(.val (.int .i64 0))] [(0,(.tmp 58))])),((some 60),.op (.app 1 8 (.tmp 52) (.tmp 59))),aP 61 1 44 45,(none,.op (.store 1 (.tmp 61) (.tmp 60)))]⟩]) (.skip)) <|
 ao [aj 62 0,aj 63 7,aj 64 9,bC 65 119 [62,63,64],aj 7 65])) <|
 ao [aQ 66 .add 16 1,aj 16 66]
def sM:SF:=⟨.seq (ao [cL 4 1,cL 5 2,bj 6 0]) <|
 .seq (ao [aB 11 0 4,ax 12 11,aj 7 12]) <|
 .seq (.seq (ao [aB 13 1 5,ax 14 13,aX 15 14,bj 16 0]) <|
 .block 0 (.loop qD)) <|
 .seq (ao [aj 67 7,aj 6 67]) <|
 .ret,
 [.tmp 6],68⟩
theorem x7:aV Tryz.prog 74 [4,5,100000]=some sM:=by kernel_rfl
def ot (g:aw) (a:List aR):Nat→List Int→List Nat
 | _,[]=>[]
 | q,s :: l=>(if s < 0∧cQ l (aA g false) false=true then [uI (bg a) ((q:Int),-1 - s)] else []) ++ ot g a (ef a q s) l
def ke (a:List aR):Nat→List Int→Nat
 | q,[]=>q
 | q,s :: l=>ke a (ef a q s) l
def jM (f:Nat→List Nat) (x:Nat) (ys:List Nat):Nat→List Nat:=ys.foldl (fun f y=>jA f y (f y ++ [x])) f
theorem Me (f:Nat→List Nat) (x:Nat) (ys zs:List Nat):jM f x (ys ++ zs)=jM (jM f x ys) x zs:=by
 unfold jM; rw[VR]
theorem E3 {x:Nat} : ∀ {ys:List Nat} {f:Nat→List Nat} {y z:Nat},z∈jM f x ys y↔z∈f y∨(z=x∧y∈ys)
 | [],f,y,z=>by simp[jM]
 | w :: ys,f,y,z=>by
  have ih:=E3 (x:=x) (ys:=ys) (f:=jA f w (f w ++ [x])) (y:=y) (z:=z)
  unfold jM at ih ⊢
  rw[VF,ih]
  by_cases e:y=w
  ·subst e
   rw[eQ,VE,VY]
   simp only[Vp,true_or,and_true]
   constructor
   ·rintro ((h | h) | h)
    ·exact .inl h
    ·exact .inr h
    ·exact .inr h.1
   ·rintro (h | h)
    ·exact .inl (.inl h)
    ·exact .inl (.inr h)
  ·rw[l0 e]
   simp only[Vp,e,false_or]
theorem zD {x c:Nat} : ∀ {ys:List Nat} {f:Nat→List Nat},(∀ z,(f z).length≤c)→∀ z,(jM f x ys z).length≤c+ys.length
 | [],f,h,z=>by simpa [jM] using h z
 | w :: ys,f,h,z=>by
  have ih:=zD (x:=x) (c:=c+1) (ys:=ys) (f:=jA f w (f w ++ [x])) (fun z=>by
   by_cases e:z=w
   ·subst e; rw[eQ,V6]; have:=h z; simp; omega
   ·rw[l0 e]; have:=h z; omega) z
  unfold jM at ih ⊢
  rw[VF,Vr]
  omega
theorem Jm (g:aw) (a:List aR):∀ (l:List Int) (q:Nat),(ot g a q l).length≤l.length
 | [],_=>by simp[ot]
 | s :: l,q=>by
  have ih:=Jm g a l (ef a q s)
  rw[ot,V6,Vr]
  split <;> simp <;> omega
set_option maxHeartbeats 16000000 in
theorem QW {g:aw} {a:List aR} (hA:cF g a) (hr9:bS g=true) (ha:a.length≤300) {H:View} {W qn cM:Nat} {M:bU (Int × Int)} {uw:V} {s e:Nat} {Sl:List BV} {A:List (V × List Nat)} {L:List cz} (hI:cW g a H W qn cM M uw s e (bg a) Sl A L)
  {fA:Nat→List Nat} {c:Nat} (hfA:∀ z,z < (bg a).length→(A.getD z (.any,[])).2=fA z) (hfl:∀ z,(fA z).length≤c) (hc:c≤100000000) {x p k:Nat} {B:Int} (hx:(bg a)[x]?=some ((p:Int),B)) (hk:k < g.rules.length) (hkl:(aE g k).left=B) :
  aC Tryz.prog 74 [.ptr W 0 0,.agg [gi p,gi B],.agg (aO (aE g k))] H fun r H'=>r=gi (ke a p (aE g k).right)∧(∃ A',cW g a H' W qn cM M uw s e (bg a) Sl A' L∧∀ z,z < (bg a).length→(A'.getD z (.any,[])).2=jM fA x (ot g a p (aE g k).right) z)∧∀ b c es,H b=.map es c→H' b=.map es c:=by
 have hn1:=pG hA
 have hnl:(bg a).length≤40 * a.length:=lq hA.ok.bk a.length
 obtain ⟨hB0,hE⟩:=dw.1 (Vf hx)
 have hpl:=gn hE
 have hm0:=nb hA hpl hB0 hk hkl hE
 have hR:g.rules[k]?=some (aE g k):=by unfold aE; exact getD_some hk
 have hrt:aW g (k:Int)=(aE g k).right:=by rw[aW,Va (by omega)]
 have hr6:=hA.dG.right _ (Vf hR)
 have hrs:=hA.dG.sym _ (Vf hR)
 have hgx:=hI.num _ _ hx
 generalize aE g k=R at *
 refine aC.of mixed x7 ?_
 simp (disch:=omega) only [↓wr,seval,wq,ah,ag,ak,aa,ab,af,ai,ae,sM,aO,encI]
 refine aZ.up R.right.length (fun i T H'=>∃ (q:Nat) (ys:List Nat) (A':List (V × List Nat)),cW g a H' W qn cM M uw s e (bg a) Sl A' L∧(∀ z,z < (bg a).length→(A'.getD z (.any,[])).2=jM fA x ys z)∧(∀ b c es,H b=.map es c→H' b=.map es c) ∧
  ys.length≤i∧ot g a p R.right=ys ++ ot g a q (R.right.drop i)∧ke a p R.right=ke a q (R.right.drop i)∧q < a.length∧(⟨k,i⟩:aH)∈jH g a q ∧
  T 0=.ptr W 0 0∧T 4=.aN [gi p,gi B] 0∧T 5=.aN (aO R) 0∧T 7=gi q∧T 14=encI R.right∧T 15=gi R.right.length∧T 16=gi i)
  ⟨p,[],A,hI,hfA,fun _ _ _ h=>h,by simp,by simp,by simp,hpl,hm0,rfl,rfl,rfl,rfl,rfl,rfl,rfl⟩ ?_
 clear hI hfA
 rintro i m T H1 hm ⟨q,ys,A1,hI,hfA1,hmp,hyl,hrc,hen,hql,hit,t0,t4,t5,t7,t14,t15,t16⟩
 simp (disch:=omega) only [↓wr,seval,wq,ah,ag,ak,aa,ab,af,ai,ae,qD,t0,t4,t5,t7,t14,t15,t16]
 refine av.dec (fun hc2=>?_) (fun hc2=>?_)
 rotate_left
 ·simp (disch:=omega) only [↓wr,seval,wq,ah,ag,ak,aa,ab,af,ai,ae,t7]
  rw[VD (by omega)] at hrc hen
  rw[hrc,hen]
  refine ⟨rfl,⟨A1,hI,?_⟩,hmp⟩
  simpa [ot] using hfA1
 have hy:R.right[i]?=some (R.right[i]'(by omega)):=U9 (by omega)
 have hym:=Vi (show i < R.right.length by omega)
 have hdr:R.right.drop i=R.right[i]'(by omega) :: R.right.drop (i+1):=VT (by omega)
 generalize R.right[i]'(by omega)=y at hy hym hdr
 obtain ⟨n1,n2,n3⟩:=se (g:=g) (r:=k) (d:=i) (s:=y) (l:=R.right.drop (i+1)) (by rw[hrt,hdr])
 obtain ⟨s1,s2,s3,s4⟩:=hA.step hql hit n1
 obtain ⟨_,_,_,_,_,hwd⟩:=hA.ef s1
 have hyh:=pD (hrs y hym)
 have hT:=hA.dG.ay
 have hN:=hA.dG.az
 have hylo : -100≤y:=by
  unfold jT at hyh
  split at hyh <;> omega
 rw[hdr,ot] at hrc
 rw[hdr,ke] at hen
 obtain ⟨hW,⟨w2,huw2,hw⟩,hs,he,q1,q2,q3⟩:=hI.at hn1
 have hshort:aS a:=by unfold aS; omega
 have hedg:∀ s∈a,aS s.bk∧∀ e∈s.bk,cm e.sym∧cm e.to:=fun s hs=>⟨by have:=hA.ok.bk s hs; unfold aS; omega,fun e he=>by
  have h1:=hA.ok.sym s hs e he
  have h2:=hA.ok.to s hs e he
  unfold cm; omega⟩
 simp (disch:=omega) only [↓wr,seval,wq,ah,ag,ak,aa,ab,af,ai,ae,t0,t4,t5,t7,t14,t15,t16,encI,Vc,hy,Vh]
 refine av.dec (fun h0=>?_) (fun h0=>?_)
 ·have hsd:dW 1 (V.aK (List.map (fun (x:Int)=>[gi x]) R.right)) (some (V.val (.int .i64 ((i:Int)+1)))) none=some (.aK (List.map (fun (x:Int)=>[gi x]) (R.right.drop (i+1))),.none,[]):=by
   have:=CR (l:=R.right) (k:=i+1) (by omega)
   push_cast at this
   exact this
  simp (disch:=omega) only [↓wr,seval,wq,ah,ag,ak,aa,ab,af,ai,ae,t0,t5,aO,encI,hsd]
  refine aD.dP ((Pg hW (R.right.drop (i+1)) (by unfold aS; simp; omega) (fun z hz=>by
   have h1:=pD (hrs z (List.mem_of_mem_drop hz))
   unfold jT at h1
   rw[fk hr9]
   unfold cm
   split at h1 <;> omega)).mono ?_)
  rintro r H5 ⟨rfl,rfl⟩
  cases hb:cQ (R.right.drop (i+1)) (aA g false) false with
  | false =>
   simp (disch:=omega) only [↓wr,seval,wq,ah,ag,ak,aa,ab,af,ai,ae,t0,t7]
   refine aD.dP ((F2 hW hshort hedg q y).mono ?_)
   rintro r H6 ⟨rfl,hf6⟩
   rw[hwd]
   simp (disch:=omega) only [↓wr,seval,wq,ah,ag,ak,aa,ab,af,ai,ae,t0,t4,t5,t7,t14,t15,t16]
   exact aM hm (by omega) ⟨ef a q y,ys,A1,hI.stay hf6,hfA1,fun b c es h=>by rw[hf6 b (by rw[hmp b c es h]; simp)]; exact hmp b c es h,by omega,by rw[hrc,Va (fun h=>by rw[hb] at h; simp at h),V9],hen,s4,by push_cast; exact s3,t0,t4,t5,rfl,t14,t15,by first | rfl | (congr 2)⟩
  | true =>
   have hk2:(bg a)[uI (bg a) ((q:Int),-1 - y)]?=some ((q:Int),-1 - y):=jL (dw.2 ⟨by omega,by rw[show -1 - (-1 - y)=y by omega]; exact s1⟩)
   have hgm:=hI.num _ _ hk2
   have hnlt:=(Vn.1 hk2).1
   rw[Vd ⟨h0,hb⟩] at hrc
   generalize uI (bg a) ((q:Int),-1 - y)=kn at hk2 hgm hnlt hrc
   have hmt:dB Tryz.prog 110=some (116,3):=by kernel_rfl
   have hz:zeroV Tryz.prog 3=some (gi 0):=by kernel_rfl
   simp (disch:=omega) only [↓wr,seval,wq,ah,ag,ak,aa,ab,af,ai,ae,t0,t7,hW]
   refine FT (kv:=eU) (kt:=116) (et:=3) (z:=gi 0) (id:=qn) (c:=cM) (m:=M) (k:=((q:Int),-1 - y)) hmt hz (z6 wz) (by first | rfl | simp (disch:=omega) only [↓wr,seval,wq,ah,ag,ak,aa,ab,af,ai,ae]) (by first | rfl | (simp (disch:=omega) only [↓wr,seval,wq,ah,ag,ak,aa,ab,af,ai,ae]; rfl)) hI.mp ?_
   rw[hgm,Vs]
   have hal:=hI.al
   obtain ⟨B1,⟨u,l⟩,B2,rfl,hB1,_⟩:=mO (l:=A1) (i:=kn) (by omega)
   have hRow:=hI.row rfl
   have hui:(bQ (B1 ++ (u,l) :: B2)).getD kn []=[u]:=by rw[← hB1]; simp[bQ]
   have hli:((B1 ++ (u,l) :: B2).getD kn (V.any,([]:List Nat))).2=l:=by rw[← hB1]; simp
   have hrl:(bQ (B1 ++ (u,l) :: B2)).length=(bg a).length:=by rw[bQ,Vg]; exact hal
   have hll:l.length≤100000010:=by
    rw[← hli,hfA1 kn hnlt]
    have:=zD (x:=x) (ys:=ys) hfl kn
    omega
   simp (disch:=omega) only [↓wr,seval,wq,ah,ag,ak,aa,ab,af,ai,ae,t0,t4,hW,he,hui]
   refine ⟨hnlt,by omega,?_⟩
   refine FT (kv:=eU) (kt:=116) (et:=3) (z:=gi 0) (id:=qn) (c:=cM) (m:=M) (k:=((p:Int),B)) hmt hz (z6 wz) (by first | rfl | simp (disch:=omega) only [↓wr,seval,wq,ah,ag,ak,aa,ab,af,ai,ae]) (by first | rfl | (simp (disch:=omega) only [↓wr,seval,wq,ah,ag,ak,aa,ab,af,ai,ae]; rfl)) hI.mp ?_
   rw[hgx,Vs]
   simp (disch:=omega) only [↓wr,seval,wq,ah,ag,ak,aa,ab,af,ai,ae]
   intro q8 hq8
   simp (disch:=omega) only [↓wr,seval,wq,ah,ag,ak,aa,ab,af,ai,ae,bV]
   refine cn (hRow.fresh hq8) (by simp[aU]) (by unfold aJ; simp; omega) (by unfold aJ; simp; omega) ?_
   intro u2 H8 o8 l8
   have he8:=o8.is 1 rfl (by rw[hrl]; omega)
   have hqm:∀ b c es,H5 b=.map es c→H8 b=.map es c:=fun b c es h=>l8.map (hRow.fresh hq8).head (b:=b) (c:=c) (es:=es) (by
    simp only[View.set]; rw[Va (fun e=>by rw[← e,h] at hq8; simp at hq8)]; exact h)
   have hse:(bQ (B1 ++ (u,l) :: B2)).set kn [u2]=bQ (B1 ++ (u2,l ++ [x]) :: B2):=by rw[← hB1]; simp[bQ]
   have hI9:=hI.SA rfl (l':=l ++ [x]) (es:=fu l ++ [[gi (x:Int)]]) (by simp) o8 (hqm _ _ _ hI.mp)
   have hmp9:∀ b c es,H b=.map es c→(H8.set e (.arr 1 (bQ (B1 ++ (u2,l ++ [x]) :: B2)))) b=.map es c:=fun b c es h=>by
    have h8:=hqm b c es (hmp b c es h)
    simp only[View.set]; rw[Va (fun e=>by rw[← e,h8] at he8; simp at he8)]; exact h8
   simp (disch:=omega) only [↓wr,seval,wq,ah,ag,ak,aa,ab,af,ai,ae,t0,t4,t5,t7,t14,t15,t16,he8,hui,o8.head.cells,o8.head.gR,hse]
   refine ⟨hnlt,by omega,?_,?_⟩
   ·rcases hRow.head with ⟨_,kk,h⟩ | ⟨m,h,hm2⟩
    ·rw[show u=.emp kk from h,wm]; trivial
    ·rw[show u=.sl m 0 _ 1 from h,zM]
     intro e
     rw[← e,hW] at hm2; simp at hm2
   ·generalize H8.set e (.arr 1 (bQ (B1 ++ (u2,l ++ [x]) :: B2)))=H9 at hI9 hmp9 ⊢
    refine aD.dP ((F2 (hI9.at hn1).1 hshort hedg q y).mono ?_)
    rintro r H6 ⟨rfl,hf6⟩
    rw[hwd]
    simp (disch:=omega) only [↓wr,seval,wq,ah,ag,ak,aa,ab,af,ai,ae,t0,t4,t5,t7,t14,t15,t16]
    refine aM hm (by omega) ⟨ef a q y,ys ++ [kn],B1 ++ (u2,l ++ [x]) :: B2,hI9.stay hf6,fun z hz=>?_,fun b c es h=>by rw[hf6 b (by rw[hmp9 b c es h]; simp)]; exact hmp9 b c es h,by rw[V6]; simp; omega,by rw[hrc,VV],hen,s4,by push_cast; exact s3,t0,t4,t5,rfl,t14,t15,by first | rfl | (congr 2)⟩
    rw[Me]
    show _=jA (jM fA x ys) kn (jM fA x ys kn ++ [x]) z
    by_cases e:z=kn
    ·subst e
     rw[eQ,← hfA1 z hz,hli,← hB1]
     simp
    ·rw[l0 e,A8 (y:=(u,l)) (by rw[hB1]; exact e)]
     exact hfA1 z hz
 ·simp (disch:=omega) only [↓wr,seval,wq,ah,ag,ak,aa,ab,af,ai,ae,t0,t7]
  refine aD.dP ((F2 hW hshort hedg q y).mono ?_)
  rintro r H6 ⟨rfl,hf6⟩
  rw[hwd]
  simp (disch:=omega) only [↓wr,seval,wq,ah,ag,ak,aa,ab,af,ai,ae,t0,t4,t5,t7,t14,t15,t16]
  exact aM hm (by omega) ⟨ef a q y,ys,A1,hI.stay hf6,hfA1,fun b c es h=>by rw[hf6 b (by rw[hmp b c es h]; simp)]; exact hmp b c es h,by omega,by rw[hrc,Va (fun h=>h0 h.1),V9],hen,s4,by push_cast; exact s3,t0,t4,t5,rfl,t14,t15,by first | rfl | (congr 2)⟩
section
variable {g:aw} {a:List aR}
theorem Dt (hA:cF g a) {k y:Nat} (hk:k < g.rules.length):∀ (l:List Int) (d q:Nat),q < a.length→(⟨k,d⟩:aH)∈jH g a q→(aE g k).right.drop d=l →
  (y∈ot g a q l↔∃ (j q':Nat) (C:Int),l[j]?=some (-1 - C)∧0≤C∧iS a q (l.take j) q'∧cQ (l.drop (j+1)) (aA g false) false=true∧(bg a)[y]?=some ((q':Int),C))
 | [],d,q,hq,hx,hl=>by simp[ot]
 | s :: l,d,q,hq,hx,hl=>by
  have hrt:aW g (k:Int)=(aE g k).right:=by rw[aW,Va (by omega)]
  obtain ⟨n1,n2,n3⟩:=se (g:=g) (r:=k) (d:=d) (s:=s) (l:=l) (by rw[hrt,hl])
  obtain ⟨s1,s2,s3,s4⟩:=hA.step hq hx n1
  have ih:=Dt hA hk (y:=y) l (d+1) (ef a q s) s4 (by push_cast; exact s3) (by rw[hrt] at n2; exact n2)
  rw[ot,VE,ih]
  constructor
  ·rintro (h | ⟨j,q',C,h1,h2,h3,h4,h5⟩)
   ·split at h
    ·rename_i hc
     rw[VY] at h
     subst h
     have e : -1 - (-1 - s)=s:=by omega
     exact ⟨0,q,-1 - s,by simp[e],by omega,.nil,by simpa using hc.2,jL (dw.2 ⟨by omega,by rw[e]; exact s1⟩)⟩
    ·simp at h
   ·exact ⟨j+1,q',C,by simpa using h1,h2,.cons s1 h3,by simpa using h4,h5⟩
  ·rintro ⟨j,q',C,h1,h2,h3,h4,h5⟩
   cases j with
   | zero =>
    left
    simp only[List.take_zero] at h3
    cases h3
    have hs:s = -1 - C:=by simpa using h1
    rw[Vd ⟨by omega,by simpa using h4⟩,VY]
    rw[hs,show -1 - (-1 - C)=C by omega]
    exact (IA (yD hA) h5).symm
   | succ j =>
    right
    rw[WY] at h3
    cases h3 with
    | cons _ h3=>exact ⟨j,q',C,by simpa using h1,h2,h3,by simpa using h4,h5⟩
def pZ (g:aw) (a:List aR) (x:Nat) (f:Nat→List Nat) (k:Nat):Nat→List Nat:=if (aE g k).left=(du a x).2 then jM f x (ot g a (du a x).1.toNat (aE g k).right) else f
def KT (g:aw) (a:List aR) (f:Nat→List Nat) (x:Nat):Nat→List Nat:=(List.range g.rules.length).foldl (pZ g a x) f
def jO (g:aw) (a:List aR) (n:Nat):Nat→List Nat:=(List.range n).foldl (KT g a) fun _=>[]
theorem Fa {x y z:Nat} : ∀ (n:Nat) (f:Nat→List Nat),z∈(List.range n).foldl (pZ g a x) f y↔z∈f y∨(z=x∧∃ k,k < n∧(aE g k).left=(du a x).2∧y∈ot g a (du a x).1.toNat (aE g k).right)
 | 0,f=>by simp
 | n+1,f=>by
  have ih:=Fa (x:=x) (y:=y) (z:=z) n f
  rw[V0,VR,VF,Wk,pZ]
  have key:∀ k,(k < n+1∧(aE g k).left=(du a x).2∧y∈ot g a (du a x).1.toNat (aE g k).right)↔(k < n∧(aE g k).left=(du a x).2∧y∈ot g a (du a x).1.toNat (aE g k).right)∨(k=n∧(aE g k).left=(du a x).2∧y∈ot g a (du a x).1.toNat (aE g k).right):=fun k=>by
   constructor
   ·rintro ⟨h1,h2⟩
    rcases Vy k n with q | q
    ·exact .inl ⟨q,h2⟩
    ·exact .inr ⟨by omega,h2⟩
   ·rintro (⟨h1,h2⟩ | ⟨h1,h2⟩)
    ·exact ⟨by omega,h2⟩
    ·exact ⟨by omega,h2⟩
  split
  ·rename_i hc
   rw[E3,ih]
   constructor
   ·rintro ((h | ⟨h,k,h1⟩) | ⟨h,h1⟩)
    ·exact .inl h
    ·exact .inr ⟨h,k,(key k).2 (.inl h1)⟩
    ·exact .inr ⟨h,n,by omega,hc,h1⟩
   ·rintro (h | ⟨h,k,h1⟩)
    ·exact .inl (.inl h)
    ·rcases (key k).1 h1 with h1 | ⟨rfl,_,h1⟩
     ·exact .inl (.inr ⟨h,k,h1⟩)
     ·exact .inr ⟨h,h1⟩
  ·rename_i hc
   rw[ih]
   constructor
   ·rintro (h | ⟨h,k,h1⟩)
    ·exact .inl h
    ·exact .inr ⟨h,k,(key k).2 (.inl h1)⟩
   ·rintro (h | ⟨h,k,h1⟩)
    ·exact .inl h
    ·rcases (key k).1 h1 with h1 | ⟨rfl,h2,_⟩
     ·exact .inr ⟨h,k,h1⟩
     ·exact absurd h2 hc
theorem Br {y z:Nat} : ∀ n:Nat,z∈jO g a n y↔z < n∧∃ k,k < g.rules.length∧(aE g k).left=(du a z).2∧y∈ot g a (du a z).1.toNat (aE g k).right
 | 0=>by simp[jO]
 | n+1=>by
  have ih:=Br (y:=y) (z:=z) n
  unfold jO at ih ⊢
  rw[V0,VR,VF,Wk,KT,Fa,ih]
  constructor
  ·rintro (⟨h1,h2⟩ | ⟨rfl,h2⟩)
   ·exact ⟨by omega,h2⟩
   ·exact ⟨by omega,h2⟩
  ·rintro ⟨h1,h2⟩
   by_cases e:z=n
   ·subst e; exact .inr ⟨rfl,h2⟩
   ·exact .inl ⟨by omega,h2⟩
theorem vI {x:Nat} {y:Int × Int} (h:(bg a)[x]?=some y):du a x=y:=by
 rw[du,U8,h]; rfl
theorem Ks (hA:cF g a) {x z p:Nat} {B:Int} (hx:(bg a)[x]?=some ((p:Int),B)):z∈jO g a (bg a).length x↔∃ (p' k d:Nat),k < g.rules.length∧(bg a)[z]?=some ((p':Int),(aE g k).left)∧(aE g k).right[d]?=some (-1 - B)∧iS a p' ((aE g k).right.take d) p∧cQ ((aE g k).right.drop (d+1)) (aA g false) false=true:=by
 rw[Br]
 constructor
 ·rintro ⟨hz,k,hk,hl,hm⟩
  have hzg:(bg a)[z]?=some (du a z):=getD_some hz
  obtain ⟨p',hp'⟩:=sy (Vf hzg)
  have hzm:=Vf hzg
  rw[hp'] at hzm hzg
  obtain ⟨hB0,hE⟩:=dw.1 hzm
  have hpl:=gn hE
  rw[hp'] at hm
  simp only[Vv] at hm
  obtain ⟨j,q',C,h1,h2,h3,h4,h5⟩:=(Dt hA hk _ 0 p' hpl (nb hA hpl hB0 hk hl hE) (by rw[Ww])).1 hm
  rw[hx] at h5
  simp only[Vb,Ve,Int.natCast_inj] at h5
  obtain ⟨rfl,rfl⟩:=h5
  exact ⟨p',k,j,hk,by rw[hl]; exact hzg,h1,h3,h4⟩
 ·rintro ⟨p',k,d,hk,hz,h1,h2,h3⟩
  have hzl:=(Vn.1 hz).1
  obtain ⟨hB0,hE⟩:=dw.1 (Vf hz)
  have hpl:=gn hE
  have hB:=(dw.1 (Vf hx)).1
  refine ⟨hzl,k,hk,by rw[vI hz],?_⟩
  rw[vI hz]
  simp only[Vv]
  exact (Dt hA hk _ 0 p' hpl (nb hA hpl hB0 hk rfl hE) (by rw[Ww])).2 ⟨d,p,B,h1,hB,h2,h3,hx⟩
theorem P1 (hA:cF g a) {S1:Nat→BV} (hS:∀ (x p t:Nat) (B:Int),(bg a)[x]?=some ((p:Int),B)→((S1 x).getLsbD t=true↔oH g a p B t)) {x p t:Nat} {B:Int} (hx:(bg a)[x]?=some ((p:Int),B)) :
  lp (jO g a (bg a).length) S1 x t↔wQ g a p B t:=by
 constructor
 ·rintro ⟨w,hr,hw⟩
  induction hr generalizing p B with
  | refl=>exact .read ((hS _ _ _ _ hx).1 hw)
  | @step x y w hy hr ih =>
   obtain ⟨p',k,d,h1,h2,h3,h4,h5⟩:=(Ks hA hx).1 hy
   have hE:=(dw.1 (Vf h2)).2
   have hB:=(dw.1 (Vf hx)).1
   exact .LC (ih h2 hw) h1 hE hB h3 h4 h5
 ·intro h
  induction h generalizing x with
  | read h=>exact ⟨x,.refl,(hS _ _ _ _ hx).2 h⟩
  | @LC p p' k d B t hF hk hE hB hd hw hn ih =>
   have hR:g.rules[k]?=some (aE g k):=by unfold aE; exact getD_some hk
   have hz:=jL (dw.2 ⟨(hA.dG.left _ (Vf hR)).1,hE⟩)
   obtain ⟨w,k1,k2⟩:=ih hz
   exact ⟨w,.step ((Ks hA hx).2 ⟨p',k,d,hk,hz,hd,hw,hn⟩) k1,k2⟩
end
section
variable {g:aw} {a:List aR}
theorem Gl {q:Nat} : ∀ {l:List Int} {q':Nat},iS a q l q'→ke a q l=q':=fun {l q'} h=>by
 induction h with
 | nil=>rfl
 | cons _ _ ih=>rw[ke]; exact ih
def iK (g:aw) (a:List aR) (n k i:Nat):List Nat:=(List.range n).filter fun x=>decide ((aE g k).left=(du a x).2∧ke a (du a x).1.toNat (aE g k).right=i)
theorem tQ (hA:cF g a) {k i x:Nat} (hk:k < g.rules.length):x∈iK g a (bg a).length k i↔∃ p:Nat,(bg a)[x]?=some ((p:Int),(aE g k).left)∧iS a p (aE g k).right i:=by
 unfold iK
 simp only[VX,V5,Vo]
 have hrt:aW g (k:Int)=(aE g k).right:=by rw[aW,Va (by omega)]
 constructor
 ·rintro ⟨hx,h1,h2⟩
  have hg:(bg a)[x]?=some (du a x):=getD_some hx
  have hm:=Vf hg
  obtain ⟨p,hp⟩:=sy hm
  rw[hp] at hg hm
  rw[← h1] at hg hm
  obtain ⟨hB0,hE⟩:=dw.1 hm
  have hpl:=gn hE
  obtain ⟨q,q1,q2,q3⟩:=hA.fwd k (aE g k).right 0 p hpl (nb hA hpl hB0 hk rfl hE) ⟨[],by rw[hrt]; simp⟩
  rw[hp] at h2
  simp only[Vv] at h2
  rw[Gl q2] at h2
  subst h2
  exact ⟨p,hg,q2⟩
 ·rintro ⟨p,h1,h2⟩
  refine ⟨(Vn.1 h1).1,by rw[vI h1],?_⟩
  rw[vI h1]
  simp only[Vv]
  exact Gl h2
def my (S:Nat→BV) (l:List Nat):BV:=l.foldl (fun b x=>b ||| S x) 0
theorem Jh {S:Nat→BV} {t:Nat} : ∀ (l:List Nat) (b:BV),(l.foldl (fun b x=>b ||| S x) b).getLsbD t=true↔b.getLsbD t=true∨∃ x∈l,(S x).getLsbD t=true
 | [],b=>by simp
 | x :: l,b=>by
  rw[VF,Jh l,VM,V7]
  simp only[Vp,exists_eq_or_imp]
  exact or_assoc
def jg (g:aw) (a:List aR) (S:Nat→BV) (i k:Nat):Option eM:=if iK g a (bg a).length k i=[] then none else some ⟨k,my S (iK g a (bg a).length k i)⟩
def zJ (g:aw) (a:List aR) (S:Nat→BV) (i:Nat):List eM:=(List.range g.rules.length).filterMap (jg g a S i)
theorem EU:∀ {l m:List eM},l.Pairwise (fun x y=>x.aF < y.aF)→m.Pairwise (fun x y=>x.aF < y.aF)→(∀ x,x∈l↔x∈m)→l=m
 | [],[],_,_,_=>rfl
 | [],y :: m,_,_,h=>by have:=(h y).2 (by simp); simp at this
 | x :: l,[],_,_,h=>by have:=(h x).1 (by simp); simp at this
 | x :: l,y :: m,h1,h2,h=>by
  rw[Wu] at h1 h2
  have e:x=y:=by
   rcases Vp.1 ((h x).1 (by simp)) with e | hx
   ·exact e
   ·rcases Vp.1 ((h y).2 (by simp)) with e | hy
    ·exact e.symm
    ·have:=h1.1 y hy
     have:=h2.1 x hx
     omega
  subst e
  rw[EU h1.2 h2.2 fun z=>?_]
  constructor
  ·intro hz
   rcases Vp.1 ((h z).1 (by simp[hz])) with e | hz2
   ·have:=h1.1 z hz; rw[e] at this; omega
   ·exact hz2
  ·intro hz
   rcases Vp.1 ((h z).2 (by simp[hz])) with e | hz2
   ·have:=h2.1 z hz; rw[e] at this; omega
   ·exact hz2
theorem QC {x:aH} (hx:cr g x) (hn:(bA g x).2=false) (h0:0≤x.aF):∃ k:Nat,k < g.rules.length∧x=⟨k,((aE g k).right.length:Nat)⟩:=by
 obtain ⟨k,hk⟩:∃ k:Nat,x.aF=k:=⟨x.aF.toNat,by omega⟩
 have hkl:k < g.rules.length:=by have:=hx.1; omega
 refine ⟨k,hkl,?_⟩
 have hrt:aW g (k:Int)=(aE g k).right:=by rw[aW,Va (by omega)]
 unfold bA at hn
 rw[hk,hrt] at hn
 split at hn
 ·rename_i h
  cases x
  simp only at hk h
  rw[hk,h]
 ·simp at hn
theorem PD (hA:cF g a) (hr:isRed g=true) {S:Nat→BV} (hS:∀ (x p t:Nat) (B:Int),(bg a)[x]?=some ((p:Int),B)→((S x).getLsbD t=true↔wQ g a p B t)) {i:Nat} (hi:i < a.length):zJ g a S i=qf g a i:=by
 have hrt:∀ k:Nat,aW g (k:Int)=(aE g k).right:=fun k=>by rw[aW,Va (by omega)]
 have hnx:∀ k:Nat,bA g ⟨k,((aE g k).right.length:Nat)⟩=(0,false):=fun k=>by
  unfold bA; simp only[hrt,if_true]
 have hcl:(aY g a).getD i []=jH g a i:=by
  unfold aY jH
  simp[U8,U9 hi]
 have hne:∀ k:Nat,k < g.rules.length→(iK g a (bg a).length k i≠[]↔(⟨k,((aE g k).right.length:Nat)⟩:aH)∈jH g a i):=fun k hk=>by
  have hR:g.rules[k]?=some (aE g k):=by unfold aE; exact getD_some hk
  rw[Sr hA hi hk]
  constructor
  ·intro h
   obtain ⟨x,hx⟩:=List.exists_mem_of_ne_nil _ h
   obtain ⟨p,h1,h2⟩:=(tQ hA hk).1 hx
   exact ⟨p,h2,(dw.1 (Vf h1)).2⟩
  ·rintro ⟨p,h1,h2⟩
   have hz:=jL (dw.2 ⟨(hA.dG.left _ (Vf hR)).1,h2⟩)
   exact List.ne_nil_of_mem ((tQ hA hk).2 ⟨p,hz,h1⟩)
 have hset:∀ k:Nat,k < g.rules.length→my S (iK g a (bg a).length k i)=rh g a i ⟨k,((aE g k).right.length:Nat)⟩:=fun k hk=>by
  have hR:g.rules[k]?=some (aE g k):=by unfold aE; exact getD_some hk
  refine vY fun t ht=>?_
  rw[We,my,Jh,rh,AO _ 32 t (Vj _)]
  simp only[Vo]
  rw[Te hA hr hk]
  constructor
  ·rintro (h | ⟨x,hx,hb⟩)
   ·simp at h
   ·obtain ⟨p,h1,h2⟩:=(tQ hA hk).1 hx
    exact ⟨ht,p,h2,(dw.1 (Vf h1)).2,(hS x p t _ h1).1 hb⟩
  ·rintro ⟨_,p,q1,q2,q3⟩
   have hz:=jL (dw.2 ⟨(hA.dG.left _ (Vf hR)).1,q2⟩)
   exact .inr ⟨_,(tQ hA hk).2 ⟨p,hz,q1⟩,(hS _ _ _ _ hz).2 q3⟩
 refine EU ?_ ?_ fun x=>?_
 ·rw[zJ,List.pairwise_filterMap]
  refine List.pairwise_lt_range.imp fun {k k'} hlt b hb b' hb'=>?_
  unfold jg at hb hb'
  split at hb
  ·simp at hb
  ·split at hb'
   ·simp at hb'
   ·simp only[Vb] at hb hb'
    rw[← hb,← hb']
    simp only
    omega
 ·rw[qf,hcl,List.pairwise_filterMap]
  refine (jU g _).imp fun {x y} hxy b hb b' hb'=>?_
  split at hb
  ·rename_i h1
   split at hb'
   ·rename_i h2
    simp only[Vb] at hb hb'
    rw[← hb,← hb']
    simp only
    rw[fq] at hxy
    rcases hxy with h | ⟨h,h3⟩
    ·exact h
    ·exfalso
     have e:∀ z:aH,(bA g z).2=false→z.dot=(aW g z.aF).length:=fun z hz=>by
      unfold bA at hz
      split at hz
      ·assumption
      ·simp at hz
     have e1:=e x h1.1
     have e2:=e y h2.1
     rw[h] at e1
     omega
   ·simp at hb'
  ·simp at hb
 ·rw[zJ,qf,hcl,Wm,Wm]
  constructor
  ·rintro ⟨k,hk,h⟩
   have hk:=V5.1 hk
   unfold jg at h
   split at h
   ·simp at h
   ·rename_i hb
    refine ⟨_,(hne k hk).1 hb,?_⟩
    rw[Vd ⟨by rw[hnx],by simp only; omega⟩,← hset k hk]
    exact h
  ·rintro ⟨y,hy,h⟩
   split at h
   ·rename_i hc
    obtain ⟨k,hk,rfl⟩:=QC (hA.has hi hy) hc.1 hc.2
    refine ⟨k,V5.2 hk,?_⟩
    unfold jg
    rw[Va ((hne k hk).2 hy),hset k hk]
    exact h
   ·simp at h
end
theorem wx {A:bU (Int × Int)} {k:Int × Int} {v:V} (h:getM A k=some v):∃ A1 A2 b,A=A1 ++ (k,v,b) :: A2∧∀ v' c,bN k v' c A=A1 ++ (k,v',b) :: A2:=by
 induction A with
 | nil=>simp[getM] at h
 | cons x A ih =>
  unfold getM at h ih
  rw[WV] at h
  by_cases e:k=x.1
  ·simp only[e,WE,Vh,Vb] at h
   refine ⟨[],A,x.2.2,by rw[e,← h]; rfl,fun v' c=>?_⟩
   rw[bN,e,WE,Vd rfl]; rfl
  ·rw[beq_eq_false_iff_ne.2 e] at h
   obtain ⟨A1,A2,b,rfl,h3⟩:=ih h
   refine ⟨x :: A1,A2,b,rfl,fun v' c=>?_⟩
   rw[bN,beq_eq_false_iff_ne.2 e,h3]; rfl
theorem tq {A:bU (Int × Int)} {k:Int × Int} (h:getM A k=none) (v:V) (c:Nat):bN k v c A=A ++ [(k,v,c)]:=by
 induction A with
 | nil=>rfl
 | cons x A ih =>
  unfold getM at h ih
  rw[WV] at h
  by_cases e:k=x.1
  ·simp[e] at h
  ·rw[beq_eq_false_iff_ne.2 e] at h
   rw[bN,beq_eq_false_iff_ne.2 e,ih h]; rfl
theorem tK {A:bU (Int × Int)} {k:Int × Int} : getM A k=none↔k ∉ A.map (·.1):=by
 induction A with
 | nil=>simp[getM]
 | cons x A ih =>
  unfold getM at ih ⊢
  rw[WV]
  by_cases h:k=x.1
  ·simp[h]
  ·simp only[beq_eq_false_iff_ne.2 h,VC,Vp,not_or]
   rw[ih]
   simp[h]
def iR (fB:Int × Int→List Nat) (A:bU (Int × Int)):List cz:=A.map fun x=>(x.2.1,1,fu (fB x.1))
structure p8 (A:bU (Int × Int)) (fB:Int × Int→List Nat):Prop where
 nd:(A.map (·.1)).Nodup
 all:∀ k,fB k≠[]→getM A k≠none
def Ki (fB:Int × Int→List Nat) (k:Int × Int) (l:List Nat):Int × Int→List Nat:=fun z=>if z=k then l else fB z
theorem My {fB:Int × Int→List Nat} {A:bU (Int × Int)} {k:Int × Int} {l:List Nat} (h:k ∉ A.map (·.1)):iR (Ki fB k l) A=iR fB A:=by
 unfold iR
 refine Xh fun x hx=>?_
 have:x.1≠k:=fun e=>h (e ▸ List.mem_map_of_mem hx)
 simp[Ki,this]
theorem p8.entry {A:bU (Int × Int)} {fB:Int × Int→List Nat} (h:p8 A fB) {H:View} {Z:List cz} (ho:bt H (Z ++ iR fB A)) (k:Int × Int) (c:Nat) :
  ∃ P Q b,bN k ((getM A k).getD (.emp 1)) c A=P ++ (k,(getM A k).getD (.emp 1),b) :: Q∧(∀ v c',bN k v c' (bN k ((getM A k).getD (.emp 1)) c A)=P ++ (k,v,b) :: Q)∧bt H (Z ++ (iR fB P ++ ((getM A k).getD (.emp 1),1,fu (fB k)) :: iR fB Q))∧k ∉ P.map (·.1)∧k ∉ Q.map (·.1)∧p8 (P ++ (k,(getM A k).getD (.emp 1),b) :: Q) fB:=by
 cases hg:getM A k with
 | some v =>
  obtain ⟨P,Q,b,rfl,hp⟩:=wx hg
  have hnd:=h.nd
  rw[VB,VC,V2] at hnd
  have h1:k ∉ Q.map (·.1):=(V3.1 hnd.2.1).1
  have h2:k ∉ P.map (·.1):=fun hm=>hnd.2.2 k hm k (by simp) rfl
  rw[Vs]
  refine ⟨P,Q,b,hp v c,fun v' c'=>?_,?_,h2,h1,h⟩
  ·rw[hp v c]
   have hg2:getM (P ++ (k,v,b) :: Q) k=some v:=hg
   obtain ⟨P',Q',b',e,hp'⟩:=wx hg2
   rw[hp]
  ·have:=ho
   rw[iR,VB,VC] at this
   exact this
 | none =>
  have hn:=tK.1 hg
  have hf:fB k=[]:=Wc fun hne=>h.all k hne hg
  rw[Option.getD_none,tq hg]
  refine ⟨A,[],c,rfl,fun v' c'=>?_,?_,hn,by simp,?_,fun k' hk'=>?_⟩
  ·have hg2:getM (A ++ [(k,V.emp 1,c)]) k=some (.emp 1):=by
    rw[← tq hg,pB,WE,Vd rfl]
   obtain ⟨P',Q',b',e,hp'⟩:=wx hg2
   rw[← tq hg (.emp 1) c]
   clear hp' e hg2
   induction A with
   | nil=>simp[bN]
   | cons x A ih =>
    have hx:k≠x.1:=fun e=>hn (by simp[e])
    have hg3:getM A k=none:=tK.2 fun hm=>hn (by simp[hm])
    rw[bN,beq_eq_false_iff_ne.2 hx]
    simp only[VA,if_false]
    rw[bN,beq_eq_false_iff_ne.2 hx]
    simp only[VA,if_false,VL,Xl,true_and]
    rw[tq hg3]
    have:∀ B:bU (Int × Int),getM B k=none→bN k v' c' (B ++ [(k,V.emp 1,c)])=B ++ [(k,v',c)]:=by
     intro B
     induction B with
     | nil=>intro _; simp[bN]
     | cons y B ihB =>
      intro hB
      have hy:=tK.1 hB
      have hyk:k≠y.1:=fun e=>hy (by simp[e])
      rw[VL,bN,beq_eq_false_iff_ne.2 hyk]
      simp only[VA,if_false,VL,Xl,true_and]
      exact ihB (tK.2 fun hm=>hy (by simp[hm]))
    exact this A hg3
  ·rw[hf]
   have h3:=ho.emp (k:=1) (sz:=1)
   have e:Z ++ (iR fB A ++ (V.emp 1,1,fu []) :: iR fB [])=(Z ++ iR fB A) ++ [(V.emp 1,1,[])]:=by simp[iR]
   rw[e]
   exact h3.perm (List.perm_append_comm (l₁:=[_]))
  ·rw[VB,V2]
   refine ⟨h.nd,by simp,fun x hx y hy e=>?_⟩
   simp at hy
   exact hn (by rw[← hy,← e]; exact hx)
  ·rw[← tq hg,pB]
   split
   ·simp
   ·exact h.all k' hk'
def uN:SC :=
 .seq (ao [bc 57 .lss 56 55]) <|
 .seq (.cond (.tmp 57) (.skip) (.exit 2)) <|
 .seq (.block 3 (.seq (ao [aj 58 56,aP 59 3 54 56,bp 60 3 59,((some 11),.op (.alloc [(.val (.int .i64 0)),(.emp 1),(.val (.int .i64 0))])),aj 10 58,(none,.op (.store 3 (.tmp 11) (.tmp 60)))]) <|
 .seq (ao [aB 61 0 11,ax 62 61,aB 63 1 9,ax 64 63,bc 65 .eql 62 64]) <|
 .cond (.tmp 65) (.seq (ao [aj 66 6,bp 67 2 9,bp 68 3 11,bC 69 74 [66,67,68],aj 70 10,((some 71),.op (.build [(.val (.int .i64 0)),(.val (.int .i64 0))] [(0,1,(.tmp 69)),(1,1,(.tmp 70))])),((some 12),.op (.alloc [(.val (.int .i64 0)),(.val (.int .i64 0))])),(none,.op (.store 2 (.tmp 12) (.tmp 71)))]) <|
 ao [aj 72 7,bp 73 2 12,aj 75 8,((some 76),.op (.cg 1 1 [(.val (.int .i64 0))] [(0,(.tmp 75))])),((some 77),.op (.old (.mapEntry 114 (.tmp 72) (.tmp 73)) 0)),fK 74 0 77,((some 78),.op (.app 1 8 (.tmp 74) (.tmp 76))),fK 79 1 77,(none,.op (.old (.entryStore 114 (.tmp 72) (.tmp 79) (.tmp 78)) 0))]) (.skip))) <|
 ao [aQ 80 .add 56 1,aj 56 80]
def uq:SC :=
 .seq (ao [bc 49 .lss 48 47]) <|
 .seq (.cond (.tmp 49) (.skip) (.exit 0)) <|
 .seq (.block 1 (.seq (ao [aj 50 48,aP 51 2 46 48,bp 52 2 51,((some 9),.op (.alloc [(.val (.int .i64 0)),(.val (.int .i64 0))])),aj 8 50,(none,.op (.store 2 (.tmp 9) (.tmp 52)))]) <|
 .seq (ao [aB 53 2 1,ax 54 53,aX 55 54,bj 56 0]) <|
 .block 2 (.loop uN))) <|
 ao [aQ 81 .add 48 1,aj 48 81]
def ur:SC :=
 .seq (ao [bc 111 .lss 110 109]) <|
 .seq (.cond (.tmp 111) (.skip) (.exit 8)) <|
 .seq (.block 9 (.seq (ao [aP 112 1 108 110,ax 113 112,aj 19 113]) <|
 ao [aB 114 1 17,ax 115 114,aj 116 6,dg 117 116,aB 118 8 117,ax 119 118,aj 120 19,aP 121 1 119 120,ax 122 121,bc 123 .or 115 122,aB 124 1 17,(none,.op (.store 1 (.tmp 124) (.tmp 123)))])) <|
 ao [aQ 125 .add 110 1,aj 110 125]
def uT:SC :=
 .seq (ao [bc 96 .lss 95 94]) <|
 .seq (.cond (.tmp 96) (.skip) (.exit 6)) <|
 .seq (.block 7 (.seq (ao [aj 97 95,aj 15 97]) <|
 .seq (ao [aj 98 7,aj 99 14,aj 100 15,((some 101),.op (.build [(.val (.int .i64 0)),(.val (.int .i64 0))] [(0,1,(.tmp 99)),(1,1,(.tmp 100))])),((some 102),.op (.old (.lookup 114 (.tmp 98) (.tmp 101) false) 43)),aj 16 102]) <|
 .seq (.seq (ao [aj 103 16,aX 104 103,aQ 105 .eql 104 0]) <|
 .cond (.tmp 105) (.exit 7) (.skip)) <|
 .seq (ao [aj 106 15,((some 107),.op (.build [(.val (.int .i64 0)),(.val (.int .u32 0))] [(0,1,(.tmp 106))])),((some 17),.op (.alloc [(.val (.int .i64 0)),(.val (.int .u32 0))])),(none,.op (.store 2 (.tmp 17) (.tmp 107)))]) <|
 .seq (.seq (ao [aj 108 16,aX 109 108,bj 110 0]) <|
 .block 8 (.loop ur)) <|
 ao [aj 126 13,aj 127 14,aj 128 13,aj 129 14,aP 130 1 128 129,ax 131 130,bp 132 2 17,((some 133),.op (.cg 1 2 [(.val (.int .i64 0)),(.val (.int .u32 0))] [(0,(.tmp 132))])),((some 134),.op (.app 2 16 (.tmp 131) (.tmp 133))),aP 135 1 126 127,(none,.op (.store 1 (.tmp 135) (.tmp 134)))])) <|
 ao [aQ 136 .add 95 1,aj 95 136]
def AB:SC :=
 .seq (ao [bc 90 .lss 89 88]) <|
 .seq (.cond (.tmp 90) (.skip) (.exit 4)) <|
 .seq (.block 5 (.seq (ao [aj 91 89,aj 14 91]) <|
 .seq (ao [aB 92 2 1,ax 93 92,aX 94 93,bj 95 0]) <|
 .block 6 (.loop uT))) <|
 ao [aQ 137 .add 89 1,aj 89 137]
def ED:SF:=⟨.seq (ao [cL 1 0,((some 2),.op (.bL (.val (.emp 1)))),bj 3 0]) <|
 .seq (ao [bp 21 4 1,bC 22 24 [21],aj 20 22,fK 23 0 20,fK 24 1 20,aj 4 23,aj 5 24]) <|
 .seq (.seq (ao [aj 25 5,aQ 26 .neq 25 0]) <|
 .cond (.tmp 26) (.seq (ao [aj 27 5,((some 2),.op (.bL (.val (.emp 1)))),aj 3 27]) <|
 .ret) (.skip)) <|
 .seq (ao [bp 28 4 1,aj 29 4,bC 30 72 [28,29],aj 6 30]) <|
 .seq (ao [aj 31 6,bC 32 73 [31]]) <|
 .seq (ao [aj 33 6,aj 34 6,dg 35 34,aB 36 7 35,ax 37 36,aX 38 37,((some 39),.op (.make 1 24 [(.emp 1)] (.tmp 38) (.tmp 38))),dg 40 33,aB 41 9 40,(none,.op (.store 1 (.tmp 41) (.tmp 39)))]) <|
 .seq (ao [((some 42),.op (.nM)),aj 7 42]) <|
 .seq (.seq (ao [aj 43 6,dg 44 43,aB 45 7 44,ax 46 45,aX 47 46,bj 48 0]) <|
 .block 0 (.loop uq)) <|
 .seq (ao [aj 82 6,bC 83 75 [82]]) <|
 .seq (ao [aj 84 4,aX 85 84,((some 86),.op (.make 1 24 [(.emp 1)] (.tmp 85) (.tmp 85))),aj 13 86]) <|
 .seq (.seq (ao [aj 87 4,aX 88 87,bj 89 0]) <|
 .block 4 (.loop AB)) <|
 .seq (ao [aj 138 13,aj 2 138,bj 3 0]) <|
 .ret,
 [.tmp 2,.tmp 3],139⟩
theorem F3:aV Tryz.prog 33 [1]=some ED:=by kernel_rfl
theorem JZ:Qv Tryz.prog 119 :=
 ⟨⟨⟨ "state",3,0,false,"","gerund/look",0⟩,⟨ "rule",3,1,false,"","gerund/look",8⟩,by kernel_rfl,by decide,by decide,Tryz.underlying3,Tryz.underlying3,rfl,rfl⟩,by kernel_rfl⟩
def bB (g:aw) (a:List aR) (x i:Nat) (key:Int × Int):List Nat :=
 if 0≤key.1∧0≤key.2∧key.2 < g.rules.length then iK g a x key.2.toNat key.1.toNat ++ (if key.2 < i∧(aE g key.2).left=(du a x).2∧ke a (du a x).1.toNat (aE g key.2).right=key.1.toNat then [x] else []) else []
theorem Sf (g:aw) (a:List aR):bB g a 0 0=fun _=>[]:=by
 funext key
 unfold bB
 split
 ·rename_i h
  rw[Va (fun h2=>by omega)]
  simp[iK]
 ·rfl
theorem JL (g:aw) (a:List aR) (x:Nat):bB g a x g.rules.length=bB g a (x+1) 0:=by
 funext key
 unfold bB
 split
 ·rename_i h
  obtain ⟨k,hk⟩:∃ k:Nat,key.2=k:=⟨key.2.toNat,by omega⟩
  have hz:¬ key.2 < ((0:Nat):Int):=by omega
  simp only[hz,false_and,if_false,Wx]
  unfold iK
  rw[V0,WB]
  congr 1
  rw[hk,Vv]
  by_cases hc:(aE g (k:Int)).left=(du a x).2∧ke a (du a x).1.toNat (aE g (k:Int)).right=key.1.toNat
  ·rw[Vd ⟨by omega,hc.1,hc.2⟩]
   rw[List.filter_cons_of_pos (by simp only[Vo]; exact hc)]
   rfl
  ·rw[Va (fun h2=>hc ⟨h2.2.1,h2.2.2⟩)]
   symm
   rw[List.filter_cons_of_neg (by simpa using fun h1 h2=>hc ⟨h1,h2⟩)]
   rfl
 ·rfl
theorem JF (g:aw) (a:List aR) (x i:Nat) (h:¬ (aE g i).left=(du a x).2):bB g a x (i+1)=bB g a x i:=by
 funext key
 unfold bB
 split
 ·rename_i hk
  congr 1
  by_cases e:key.2=i
  ·rw[Va (fun h2=>h (by rw[← e]; exact h2.2.1)),Va (fun h2=>by omega)]
  ·by_cases hc:key.2 < i∧(aE g key.2).left=(du a x).2∧ke a (du a x).1.toNat (aE g key.2).right=key.1.toNat
   ·rw[Vd hc,Vd ⟨by push_cast; omega,hc.2⟩]
   ·rw[Va hc,Va (fun h2=>hc ⟨by have:=h2.1; push_cast at this; omega,h2.2⟩)]
 ·rfl
theorem To (g:aw) (a:List aR) (x i:Nat) (hi:i < g.rules.length) (h:(aE g i).left=(du a x).2):bB g a x (i+1)=Ki (bB g a x i) ((ke a (du a x).1.toNat (aE g i).right:Int),(i:Int)) (bB g a x i ((ke a (du a x).1.toNat (aE g i).right:Int),(i:Int)) ++ [x]):=by
 funext key
 unfold Ki
 by_cases e:key=((ke a (du a x).1.toNat (aE g i).right:Int),(i:Int))
 ·rw[Vd e,e]
  unfold bB
  simp only
  rw[Vd ⟨by omega,by omega,by omega⟩,Vd ⟨by push_cast; omega,h,by simp⟩,Vd ⟨by omega,by omega,by omega⟩,Va (fun h2=>by omega),Wx]
 ·rw[Va e]
  unfold bB
  split
  ·rename_i hk
   congr 1
   by_cases hc:key.2 < i∧(aE g key.2).left=(du a x).2∧ke a (du a x).1.toNat (aE g key.2).right=key.1.toNat
   ·rw[Vd hc,Vd ⟨by push_cast; omega,hc.2⟩]
   ·rw[Va hc,Va]
    rintro ⟨h1,h2,h3⟩
    push_cast at h1
    by_cases e2:key.2=i
    ·apply e
     rw[e2] at h3
     exact Prod.ext (by simp only; omega) (by simp only; exact e2)
    ·exact hc ⟨by omega,h2,h3⟩
  ·rfl
theorem yN {g:aw} {a:List aR} {x c:Nat} (hr:∀ k:Nat,k < g.rules.length→(aE g k).right.length≤6):∀ (n:Nat) {f:Nat→List Nat},n≤g.rules.length→(∀ z,(f z).length≤c)→∀ z,((List.range n).foldl (pZ g a x) f z).length≤c+6 * n
 | 0,f,_,h,z=>by simpa using h z
 | n+1,f,hn,h,z=>by
  have ih:=yN (a:=a) (x:=x) hr n (f:=f) (by omega) h
  rw[V0,VR,VF,Wk,pZ]
  split
  ·have h1:=zD (x:=x) (ys:=ot g a (du a x).1.toNat (aE g n).right) ih z
   have h2:=Jm g a (aE g n).right (du a x).1.toNat
   have:=hr n (by omega)
   omega
  ·have:=ih z; omega
set_option maxHeartbeats 16000000 in
theorem Qz {g:aw} {a:List aR} (hA:cF g a) (hr9:bS g=true) (ha:a.length≤300) {W qn cM bq q1:Nat} {M:bU (Int × Int)} {uw:V} {s e:Nat} {Sl:List BV} {x p:Nat} {B:Int} (hx:(bg a)[x]?=some ((p:Int),B)) {f0:Nat→List Nat} {c0:Nat} (hf0:∀ z,(f0 z).length≤c0) (hc0:c0≤50000000) (hqb:qn≠bq)
  {T:Env} {H:View} {Q:Exit→Env→View→Prop} {v:cD (T,H,Q)}
  (hJ:∃ (A:List (V × List Nat)) (c2:Nat) (M2:bU (Int × Int)),cW g a H W qn cM M uw s e (bg a) Sl A ((.sl q1 0 1 2,2,[[gi p,gi B]]) :: iR (bB g a x 0) M2)∧(∀ z,z < (bg a).length→(A.getD z (.any,[])).2=f0 z)∧H bq=.map (bR eU M2) c2∧gG M2 c2∧p8 M2 (bB g a x 0))
  (ht:T 1=.aN (au g) 0∧T 4=bm a∧T 6=.ptr W 0 0∧T 7=.mp bq∧T 8=gi x∧T 9=.ptr q1 0 0∧T 46=uw∧T 47=gi (bg a).length∧T 48=gi x∧T 54=.aK (g.rules.map aO)∧T 55=gi g.rules.length∧T 56=gi 0)
  (hQ:∀ (T':Env) (H':View),(∃ (A:List (V × List Nat)) (c2:Nat) (M2:bU (Int × Int)),cW g a H' W qn cM M uw s e (bg a) Sl A ((.sl q1 0 1 2,2,[[gi p,gi B]]) :: iR (bB g a x g.rules.length) M2)∧(∀ z,z < (bg a).length→(A.getD z (.any,[])).2=(List.range g.rules.length).foldl (pZ g a x) f0 z)∧H' bq=.map (bR eU M2) c2∧gG M2 c2∧p8 M2 (bB g a x g.rules.length)) →
   T' 1=.aN (au g) 0→T' 4=bm a→T' 6=.ptr W 0 0→T' 7=.mp bq→T' 46=uw→T' 47=gi (bg a).length→T' 48=gi x→Q (.exit 2) T' H'):aZ Tryz.prog uN T H Q v:=by
 have hn1:=pG hA
 have hnl:(bg a).length≤40 * a.length:=lq hA.ok.bk a.length
 have hxl:=(Vn.1 hx).1
 have hxw:=vI hx
 obtain ⟨hB0,hE⟩:=dw.1 (Vf hx)
 have hru:=hA.dG.rules
 have hr6:∀ k:Nat,k < g.rules.length→(aE g k).right.length≤6:=fun k hk=>hA.dG.right _ (Vf (show g.rules[k]?=some (aE g k) by unfold aE; exact getD_some hk))
 obtain ⟨t1,t4,t6,t7,t8,t9,t46,t47,t48,t54,t55,t56⟩:=ht
 refine aZ.up g.rules.length (fun i T H'=>(∃ (A:List (V × List Nat)) (c2:Nat) (M2:bU (Int × Int)),cW g a H' W qn cM M uw s e (bg a) Sl A ((.sl q1 0 1 2,2,[[gi p,gi B]]) :: iR (bB g a x i) M2)∧(∀ z,z < (bg a).length→(A.getD z (.any,[])).2=(List.range i).foldl (pZ g a x) f0 z)∧H' bq=.map (bR eU M2) c2∧gG M2 c2∧p8 M2 (bB g a x i)) ∧
  T 1=.aN (au g) 0∧T 4=bm a∧T 6=.ptr W 0 0∧T 7=.mp bq∧T 8=gi x∧T 9=.ptr q1 0 0∧T 46=uw∧T 47=gi (bg a).length∧T 48=gi x∧T 54=.aK (g.rules.map aO)∧T 55=gi g.rules.length∧T 56=gi i) ⟨hJ,t1,t4,t6,t7,t8,t9,t46,t47,t48,t54,t55,t56⟩ ?_
 clear hJ t1 t4 t6 t7 t8 t9 t46 t47 t48 t54 t55 t56
 rintro i k T H1 hk ⟨⟨A,c2,M2,hI,hfA,hmb,hbo,hBk⟩,t1,t4,t6,t7,t8,t9,t46,t47,t48,t54,t55,t56⟩
 simp (disch:=omega) only [↓wr,seval,wq,ah,ag,ak,aa,ab,af,ai,ae,uN,t54,t55,t56]
 refine av.dec (fun hc=>?_) (fun hc=>?_)
 rotate_left
 ·have hi:i=g.rules.length:=by omega
  subst hi
  simp (disch:=omega) only [↓wr,seval,wq,ah,ag,ak,aa,ab,af,ai,ae]
  exact hQ _ _ ⟨A,c2,M2,hI,hfA,hmb,hbo,hBk⟩ t1 t4 t6 t7 t46 t47 t48
 have hil:i < g.rules.length:=by omega
 have hR:g.rules[i]?=some (aE g i):=by unfold aE; exact getD_some hil
 have hq1:H1 q1=.arr 2 [[gi (p:Int),gi B]]:=by
  have:=hI.own.1 (.sl q1 0 1 2,2,[[gi (p:Int),gi B]]) (by simp)
  rcases this with ⟨h,_⟩ | ⟨m,h1,h2⟩
  ·simp at h
  ·simp only[V.sl.injEq] at h1
   rw[h1.1]; exact h2
 simp (disch:=omega) only [↓wr,seval,wq,ah,ag,ak,aa,ab,af,ai,ae,t1,t6,t7,t8,t9,t54,t55,t56,Vc,hR,Vh,aO]
 intro q2 hq2
 have hI2:=hI.fresh hq2 (o:=.arr 3 [[gi (aE g i).left,encI (aE g i).right,gi (aE g i).prec]])
 have hmb2:(H1.set q2 (.arr 3 [[gi (aE g i).left,encI (aE g i).right,gi (aE g i).prec]])) bq=.map (bR eU M2) c2:=by
  simp only[View.set]; rw[Va (fun e=>by rw[← e,hmb] at hq2; simp at hq2)]; exact hmb
 have hq12:q1≠q2:=fun e=>by rw[← e,hq1] at hq2; simp at hq2
 have hkey:(du a x).2=B∧(du a x).1.toNat=p:=by rw[hxw]; simp
 simp (disch:=omega) only [↓wr,seval,wq,ah,ag,ak,aa,ab,af,ai,ae,t9,hq12,hq1,encI]
 refine av.eq (fun hlB=>?_) (fun hlB=>?_)
 rotate_left
 ·simp (disch:=omega) only [↓wr,seval,wq,ah,ag,ak,aa,ab,af,ai,ae,t1,t4,t6,t7,t8,t9,t46,t47,t48,t54,t55,t56]
  rw[set_set]
  have hskip:¬ (aE g i).left=(du a x).2:=by rw[hkey.1]; exact hlB
  refine aM hk (by omega) ⟨⟨A,c2,M2,by rw[JF g a x i hskip]; exact hI2,fun z hz=>?_,hmb2,hbo,by rw[JF g a x i hskip]; exact hBk⟩,t1,t4,t6,t7,t8,t9,t46,t47,t48,t54,t55,by first | rfl | (congr 2)⟩
  rw[V0,VR,VF,Wk,pZ,Va hskip]
  exact hfA z hz
 have hq12':(H1.set q2 (.arr 3 [[gi (aE g i).left,encI (aE g i).right,gi (aE g i).prec]])) q1=.arr 2 [[gi (p:Int),gi B]]:=by
  simp only[View.set]; rw[Va hq12]; exact hq1
 rw[set_set]
 have hq22:(H1.set q2 (.arr 3 [[gi (aE g i).left,encI (aE g i).right,gi (aE g i).prec]])) q2=.arr 3 [[gi (aE g i).left,encI (aE g i).right,gi (aE g i).prec]]:=by simp[View.set]
 have e3:(H1.set q2 (.arr 3 [[gi (aE g i).left,.aK ((aE g i).right.map fun x=>[gi x]),gi (aE g i).prec]]))=H1.set q2 (.arr 3 [[gi (aE g i).left,encI (aE g i).right,gi (aE g i).prec]]):=rfl
 try rw[e3]
 generalize H1.set q2 (.arr 3 [[gi (aE g i).left,encI (aE g i).right,gi (aE g i).prec]])=H2 at hI2 hmb2 hq12' hq22 ⊢
 clear hI hmb hq1 hq2
 simp (disch:=omega) only [↓wr,seval,wq,ah,ag,ak,aa,ab,af,ai,ae,t6,t9,hq12',hq22]
 have hlen2:=yN (a:=a) (x:=x) hr6 i (f:=f0) (by omega) hf0
 have hrch:=QW hA hr9 ha hI2 (fA:=(List.range i).foldl (pZ g a x) f0) (c:=c0+6 * i) hfA hlen2 (by omega) hx hil hlB
 simp only[aO] at hrch
 refine aD.dP (hrch.mono ?_)
 rintro r H5 ⟨rfl,⟨A',hI5,hfA5⟩,hmaps⟩
 have hmb5:=hmaps _ _ _ hmb2
 generalize hEn:ke a p (aE g i).right=En
 simp (disch:=omega) only [↓wr,seval,wq,ah,ag,ak,aa,ab,af,ai,ae,t6,t7,t8,t9]
 intro q3 hq3 q4 hq4
 obtain ⟨n43,hq4⟩:=iJ hq4
 rw[Va n43] at hq4
 rw[set_set]
 have hI6:=hI5.fresh hq3 (o:=.arr 2 [[gi (En:Int),gi (i:Int)]])
 have hmb6:(H5.set q3 (.arr 2 [[gi (En:Int),gi (i:Int)]])) bq=.map (bR eU M2) c2:=by
  simp only[View.set]; rw[Va (fun e=>by rw[← e,hmb5] at hq3; simp at hq3)]; exact hmb5
 have hq4':(H5.set q3 (.arr 2 [[gi (En:Int),gi (i:Int)]])) q4=.dead:=by simp only[View.set]; rw[Va n43]; exact hq4
 have hI7:=hI6.fresh hq4' (o:=.arr 1 [[gi (x:Int)]])
 have hmb7:((H5.set q3 (.arr 2 [[gi (En:Int),gi (i:Int)]])).set q4 (.arr 1 [[gi (x:Int)]])) bq=.map (bR eU M2) c2:=by
  simp only[View.set]
  rw[Va (fun e=>by rw[← e,hmb6] at hq4'; simp at hq4')]
  exact hmb6
 have hq47:((H5.set q3 (.arr 2 [[gi (En:Int),gi (i:Int)]])).set q4 (.arr 1 [[gi (x:Int)]])) q4=.arr 1 [[gi (x:Int)]]:=by simp[View.set]
 generalize ((H5.set q3 (.arr 2 [[gi (En:Int),gi (i:Int)]])).set q4 (.arr 1 [[gi (x:Int)]]))=H7 at hI7 hmb7 hq47 ⊢
 clear hI5 hI6 hmb5 hmb6 hq4 hq4' hq3
 have hmt:dB Tryz.prog 114=some (119,43):=by kernel_rfl
 have hz:zeroV Tryz.prog 43=some (.emp 1):=by kernel_rfl
 refine Th (kv:=eU) (kt:=119) (et:=43) (z:=.emp 1) hmt hz (z6 JZ) (id:=bq) (c:=c2) (m:=M2) (k:=((En:Int),(i:Int))) (by first | rfl | simp (disch:=omega) only [↓wr,seval,wq,ah,ag,ak,aa,ab,af,ai,ae]) (by first | rfl | (simp (disch:=omega) only [↓wr,seval,wq,ah,ag,ak,aa,ab,af,ai,ae]; rfl)) hmb7 hbo fun b c' hb' hbk=>?_
 have hown:=hI7.own
 have hown2:bt H7 (((.sl W 0 1 10,10,[[.aK (g.ay.map b6),.aK (g.az.map fun s=>[gs s]),.aK (g.rules.map aO),gi g.start,bm a,bP (aA g false),.mp qn,uw,.sl s 0 (bg a).length 1,.sl e 0 (bg a).length 1]]) :: (uw,2,mA (bg a)) :: (.sl s 0 (bg a).length 1,1,bT Sl) :: (.sl e 0 (bg a).length 1,1,bQ A') :: (iL A' ++ [(.sl q1 0 1 2,2,[[gi (p:Int),gi B]])])) ++ iR (bB g a x i) M2):=by
  have e:∀ (X1 X2 X3 X4 y:cz) (R K:List cz),(X1 :: X2 :: X3 :: X4 :: (R ++ [y])) ++ K=X1 :: X2 :: X3 :: X4 :: (R ++ (y :: K)):=fun X1 X2 X3 X4 y R K=>by simp
  rw[e]; exact hown
 obtain ⟨P,Qm,bb,hP1,hP2,hO,hkP,hkQ,hB2⟩:=hBk.entry hown2 ((En:Int),(i:Int)) c2
 have hfb:(bB g a x i ((En:Int),(i:Int))).length≤20000:=by
  unfold bB
  split
  ·rw[Va (fun h=>by have:=h.1; simp only at this; omega),Wx]
   unfold iK
   have:=VZ (fun y=>decide ((aE g ((((En:Int),(i:Int)).2.toNat:Nat):Int)).left=(du a y).2∧ke a (du a y).1.toNat (aE g ((((En:Int),(i:Int)).2.toNat:Nat):Int)).right=((En:Int),(i:Int)).1.toNat)) (List.range x)
   rw[List.length_range] at this
   omega
  ·simp
 generalize hu:(getM M2 ((En:Int),(i:Int))).getD (.emp 1)=u at *
 generalize bN ((En:Int),(i:Int)) u c2 M2=M3 at *
 have hq4b:q4≠bq:=fun e=>by rw[← e,hq47] at hmb7; simp at hmb7
 have hfB:=To g a x i hil (by rw[hkey.1]; exact hlB)
 rw[hkey.2,hEn] at hfB
 generalize hfk:bB g a x i ((En:Int),(i:Int))=lk at *
 generalize hZ:(((.sl W 0 1 10,10,[[.aK (g.ay.map b6),.aK (g.az.map fun s=>[gs s]),.aK (g.rules.map aO),gi g.start,bm a,bP (aA g false),.mp qn,uw,.sl s 0 (bg a).length 1,.sl e 0 (bg a).length 1]]) :: (uw,2,mA (bg a)) :: (.sl s 0 (bg a).length 1,1,bT Sl) :: (.sl e 0 (bg a).length 1,1,bQ A') :: (iL A' ++ [(.sl q1 0 1 2,2,[[gi (p:Int),gi B]])])):List cz)=Z at hO
 have pm:∀ (r:cz) (X Y:List cz),(Z ++ (X ++ r :: Y)).Perm (r :: (Z ++ (X ++ Y))):=fun r X Y=>by
  rw[← VV,← VV]; exact VS
 have hO8:=(hO.perm (pm _ _ _)).vr hmb7 (o:=.map (bR eU M3) c')
 have hel:bZ (H7.set bq (.map (bR eU M3) c')) (.sl q4 0 1 1)=some ([[gi (x:Int)]],[q4]):=by simp[bZ,View.set,hq4b,hq47]
 simp (disch:=omega) only [↓wr,seval,wq,ah,ag,ak,aa,ab,af,ai,ae,hel]
 refine cn hO8 (by simp[aU]) (by unfold aJ; simp; omega) (by unfold aJ; simp; omega) ?_
 intro u' H9 o9 l9
 have hm9:=l9.map hO8.head (b:=bq) (c:=c') (es:=bR eU M3) (by simp[View.set])
 have hmq9:=l9.map hO8.head (b:=qn) (c:=cM) (es:=bR eU M) (by simp only[View.set]; rw[Va hqb]; exact hI7.mp)
 try simp (disch:=omega) only [↓wr,seval,wq,ah,ag,ak,aa,ab,af,ai,ae]
 refine Sn (kv:=eU) (id:=bq) (c:=c') (b:=b) (m:=M3) (k:=((En:Int),(i:Int))) (v:=u') (by first | rfl | simp (disch:=omega) only [↓wr,seval,wq,ah,ag,ak,aa,ab,af,ai,ae]) (by first | rfl | simp (disch:=omega) only [↓wr,seval,wq,ah,ag,ak,aa,ab,af,ai,ae]) (by first | rfl | simp (disch:=omega) only [↓wr,seval,wq,ah,ag,ak,aa,ab,af,ai,ae]) hm9 hb' hbk fun c0=>?_
 have hb2:=hb'.PH hbk u' c0
 have hgp:=fun k'=>pB ((En:Int),(i:Int)) k' u' c0 M3
 rw[hP2 u' c0] at hb2 ⊢
 simp only[hP2 u' c0] at hgp
 simp (disch:=omega) only [↓wr,seval,wq,ah,ag,ak,aa,ab,af,ai,ae,t1,t4,t6,t7,t8,t9,t46,t47,t48,t54,t55,t56]
 refine aM hk (by omega) ⟨⟨A',c',P ++ (((En:Int),(i:Int)),u',bb) :: Qm,⟨?_,?_,hI7.bo,hI7.num,hI7.sl,hI7.al⟩,fun z hz=>?_,by simp[View.set],hb2,?_⟩,t1,t4,t6,t7,t8,t9,t46,t47,t48,t54,t55,by first | rfl | (congr 2)⟩
 ·have hbe:iR (bB g a x (i+1)) (P ++ (((En:Int),(i:Int)),u',bb) :: Qm)=iR (bB g a x i) P ++ (u',1,fu lk ++ [[gi (x:Int)]]) :: iR (bB g a x i) Qm:=by
   rw[hfB,show ∀ f:Int × Int→List Nat,iR f (P ++ (((En:Int),(i:Int)),u',bb) :: Qm)=iR f P ++ (u',1,fu (f ((En:Int),(i:Int)))) :: iR f Qm from fun f=>by simp[iR],My hkP,My hkQ]
   simp[Ki]
  have o10:=(o9.vr hm9 (o:=.map (bR eU (P ++ (((En:Int),(i:Int)),u',bb) :: Qm)) c')).perm (pm _ _ _).symm
  rw[hbe]
  have e:∀ (X1 X2 X3 X4 y:cz) (R K:List cz),(X1 :: X2 :: X3 :: X4 :: (R ++ [y])) ++ K=X1 :: X2 :: X3 :: X4 :: (R ++ (y :: K)):=fun X1 X2 X3 X4 y R K=>by simp
  rw[← hZ,e] at o10
  exact o10
 ·show (H9.set bq _) qn=_
  simp only[View.set]; rw[Va hqb]; exact hmq9
 ·rw[V0,VR,VF,Wk,pZ,Vd (by rw[hkey.1]; exact hlB),hkey.2]
  exact hfA5 z hz
 ·refine ⟨by simpa using hB2.nd,fun k' hk'=>?_⟩
  rw[hgp k']
  split
  ·simp
  ·rename_i hne
   rw[hP1]
   refine hB2.all k' fun h0=>hk' ?_
   rw[hfB]
   unfold Ki
   rw[Va (fun e=>hne (by simp[e]))]
   exact h0
end Gv
