/-
  Part 14 of the proof: what the machine does and what the functions answer.
  Conditions: those that each lemma names.
-/
import Derived.Test.YtihmlbdfcmfbdaaGreatSGzB1M
set_option linter.unusedSimpArgs false
set_option linter.unusedVariables false
set_option maxRecDepth 100000
namespace Gv
open Go Go.Proofs
def kz:SC :=
 .seq (an [bz 73 .lss 72 71]) <|
 .seq (.cond (.tmp 73) (.skip) (.exit 2)) <|
 .seq (.block 3 (.seq (an [aY 74 2 70 72,bM 75 2 74,((some 6),.op (.alloc [(.val (.int .i64 0)),(.val (.int .i64 0))])),(none,.op (.store 2 (.tmp 6) (.tmp 75)))]) <|
 .seq (an [aC 76 0 6,ay 77 76,aR 78 .geq 77 0]) <|
 .cond (.tmp 78) (.region true [⟨none,[aj 79 0,fp 80 79,aC 81 8 80,ay 82 81,aj 83 2,aY 84 1 82 83,ay 85 84,aC 86 0 6,ay 87 86,((some 88),.op (.c4 1 1 [(.val (.int .i64 0))] [(0,(.tmp 87))])),bJ 89 120 [88],bz 90 .or 85 89,aY 91 1 82 83,(none,.op (.store 1 (.tmp 91) (.tmp 90)))]⟩]) (.seq (an [aj 92 0,fp 93 92,aC 94 5 93,ay 95 94,aC 96 0 6,ay 97 96,((some 98),.op (.arith .sub (.val (.val (.int .i64 (-1)))) (.tmp 97))),aY 99 1 95 98,ay 100 99]) <|
 .cond (.tmp 100) (.pT [(103,112)] [⟨none,[aj 101 0,fp 102 101,aC 103 9 102,ay 104 103,aj 105 2,aj 106 0,fp 107 106,aC 108 9 107,ay 109 108,aj 110 2,aY 111 1 109 110,ay 112 111,aj 113 0,fp 114 113,aC 115 6 114,ay 116 115,aj 117 4,aC 118 0 6,ay 119 118,((some 120),.op (.arith .sub (.val (.val (.int .i64 (-1)))) (.tmp 119))),((some 121),.op (.build [(.val (.int .i64 0)),(.val (.int .i64 0))] [(0,1,(.tmp 117)),(1,1,(.tmp 120))])),((some 122),.op (.old (.lookup 110 (.tmp 116) (.tmp 121) false) 3)),((some 123),.op (.c4 1 1 [(.val (.int .i64 0))] [(0,(.tmp 122))])),((some 124),.op (.app 1 8 (.tmp 112) (.tmp 123))),aY 125 1 104 105,(none,.op (.store 1 (.tmp 125) (.tmp 124)))]⟩]) (.skip)))) <|
 an [aR 126 .add 72 1,aj 72 126]
def pj:SC :=
 .seq (an [bz 22 .lss 21 20]) <|
 .seq (.cond (.tmp 22) (.skip) (.exit 0)) <|
 .seq (.block 1 (.seq (an [aj 23 21,aY 24 2 19 21,bM 25 2 24,((some 3),.op (.alloc [(.val (.int .i64 0)),(.val (.int .i64 0))])),aj 2 23,(none,.op (.store 2 (.tmp 3) (.tmp 25)))]) <|
 .seq (an [aj 26 0,aC 27 0 3,ay 28 27,aC 29 1 3,ay 30 29,((some 31),.op (.arith .sub (.val (.val (.int .i64 (-1)))) (.tmp 30))),bJ 32 119 [26,28,31],aj 4 32]) <|
 .seq (.seq (.region false [⟨none,[aC 33 0 3,ay 34 33,aR 35 .eql 34 0,aj 36 35]⟩,⟨(some (36,true)),[aC 37 1 3,ay 38 37,aj 39 0,fp 40 39,aC 41 0 40,aC 42 3 41,ay 43 42,bz 44 .eql 38 43]⟩,⟨none,[gA 45 36 44]⟩]) <|
 .cond (.tmp 45) (.region true [⟨none,[aj 46 0,fp 47 46,aC 48 8 47,ay 49 48,aj 50 2,aY 51 1 49 50,ay 52 51,aj 53 0,fp 54 53,aC 55 0 54,aC 56 0 55,ay 57 56,bj 58 57,((some 59),.op (.c4 1 1 [(.val (.int .i64 0))] [(0,(.tmp 58))])),bJ 60 120 [59],bz 61 .or 52 60,aY 62 1 49 50,(none,.op (.store 1 (.tmp 62) (.tmp 61)))]⟩]) (.skip)) <|
 .seq (an [aj 63 0,fp 64 63,aC 65 4 64,ay 66 65,aj 67 4,aY 68 2 66 67,aC 69 1 68,ay 70 69,bj 71 70,bA 72 0]) <|
 .block 2 (.loop kz))) <|
 an [aR 127 .add 21 1,aj 21 127]
def qN:SF:=⟨.seq (an [aj 7 0,aj 8 0,fp 9 8,aC 10 7 9,ay 11 10,bj 12 11,((some 13),.op (.make 1 24 [(.emp 1)] (.tmp 12) (.tmp 12))),fp 14 7,aC 15 9 14,(none,.op (.store 1 (.tmp 15) (.tmp 13)))]) <|
 .seq (.seq (an [aj 16 0,fp 17 16,aC 18 7 17,ay 19 18,bj 20 19,bA 21 0]) <|
 .block 0 (.loop pj)) <|
 an [aj 128 0,bJ 129 75 [128]],
 [],130⟩
theorem vc:aU Tryz.prog 73 [100000]=some qN:=by kernel_rfl
theorem NY {α:Type} {a b c d r:α} {X Y:List α} : (a :: b :: c :: d :: (X ++ r :: Y)).Perm (r :: d :: a :: b :: c :: (X ++ Y)) :=
 (R6 (l₁:=a :: b :: c :: d :: X) (a:=r) (l₂:=Y)).trans (.cons _ (R6 (l₁:=[a,b,c]) (a:=d) (l₂:=X ++ Y)))
section
variable {g:ao} {a:List aP} {H:View} {W qn cM:Nat} {M:bF (Int × Int)} {uw:V} {s e:Nat} {ws:List (Int × Int)} {Sl:List BV} {A:List (V × List Nat)} {L:List cb}
theorem cw.stay (h:cw g a H W qn cM M uw s e ws Sl A L) {H':View} (hf:∀ id,H id≠.dead→H' id=H id):cw g a H' W qn cM M uw s e ws Sl A L :=
 ⟨h.own.stay hf,by rw[hf qn (by rw[h.mp]; simp)]; exact h.mp,h.bo,h.num,h.sl,h.al⟩
theorem cw.fresh (h:cw g a H W qn cM M uw s e ws Sl A L) {q:Nat} (hq:H q=.dead) {o:dh} : cw g a (H.set q o) W qn cM M uw s e ws Sl A L :=
 h.stay fun id hid=>by simp only[View.set]; rw[Q9 (fun e=>hid (by rw[e]; exact hq))]
theorem cw.at (h:cw g a H W qn cM M uw s e ws Sl A L) (hn:1≤ws.length):H W=.arr 10 [[.aH (g.av.map ca),.aH (g.az.map fun s=>[gs s]),.aH (g.rules.map aO),gi g.start,bS a,bG (au g false),.mp qn,uw,.sl s 0 ws.length 1,.sl e 0 ws.length 1]] ∧
  (∃ w,uw=.sl w 0 ws.length 2∧H w=.arr 2 (kY ws))∧H s=.arr 1 (bQ Sl)∧H e=.arr 1 (bD A)∧W≠s∧W≠e∧s≠e:=by
 have hsl:=h.sl
 have hal:=h.al
 refine ⟨h.own.is 0 rfl (by simp),?_,h.own.is 2 rfl (by simp; omega),h.own.is 3 rfl (by simp[bD]; omega),h.own.NZ 0 2 rfl rfl (by decide),h.own.NZ 0 3 rfl rfl (by decide),h.own.NZ 2 3 rfl rfl (by decide)⟩
 obtain ⟨w,h1,h2⟩:=(h.own.own 1 rfl).sl (by simp; omega)
 exact ⟨w,by rw[h1,Ro],h2⟩
theorem cw.vO (h:cw g a H W qn cM M uw s e ws Sl A L) {Sl':List BV} (hl:Sl'.length=ws.length):cw g a (H.set s (.arr 1 (bQ Sl'))) W qn cM M uw s e ws Sl' A L:=by
 have p:∀ x y z:cb,∀ L:List cb,(x :: y :: z :: L).Perm (z :: x :: y :: L):=fun x y z L=>R6 (l₁:=[x,y]) (a:=z) (l₂:=L)
 refine ⟨((h.own.perm (p _ _ _ _)).put (es':=bQ Sl') (by simp[hl,h.sl]) (by simp[h.sl])).perm (p _ _ _ _).symm,?_,h.bo,h.num,hl,h.al⟩
 have:=h.own.w6 h.mp (.sl s 0 ws.length 1,1,bQ Sl) (by simp)
 simp only[View.set]; rw[Q9 (fun e=>this (by rw[e]; rfl))]; exact h.mp
theorem cw.row (h:cw g a H W qn cM M uw s e ws Sl A L) {A1 A2:List (V × List Nat)} {u:V} {l:List Nat} (hA:A=A1 ++ (u,l) :: A2):bk H ((u,1,ez l) :: (.sl e 0 ws.length 1,1,bD A) :: (.sl W 0 1 10,10,[[.aH (g.av.map ca),.aH (g.az.map fun s=>[gs s]),.aH (g.rules.map aO),gi g.start,bS a,bG (au g false),.mp qn,uw,.sl s 0 ws.length 1,.sl e 0 ws.length 1]]) :: (uw,2,kY ws) :: (.sl s 0 ws.length 1,1,bQ Sl) :: (gX A1 ++ (gX A2 ++ L))):=by
 have h1:=h.own
 rw[show gX A ++ L=gX A1 ++ (u,1,ez l) :: (gX A2 ++ L) by rw[hA]; simp[gX]] at h1
 exact h1.perm NY
theorem cw.O6 (h:cw g a H W qn cM M uw s e ws Sl A L) {A1 A2:List (V × List Nat)} {u u':V} {l l':List Nat} (hA:A=A1 ++ (u,l) :: A2) {H':View} {es:List (List V)} (hes:es=ez l')
  (ho:bk H' ((u',1,es) :: (.sl e 0 ws.length 1,1,bD A) :: (.sl W 0 1 10,10,[[.aH (g.av.map ca),.aH (g.az.map fun s=>[gs s]),.aH (g.rules.map aO),gi g.start,bS a,bG (au g false),.mp qn,uw,.sl s 0 ws.length 1,.sl e 0 ws.length 1]]) :: (uw,2,kY ws) :: (.sl s 0 ws.length 1,1,bQ Sl) :: (gX A1 ++ (gX A2 ++ L))))
  (hm:H' qn=.map (bw dY M) cM):cw g a (H'.set e (.arr 1 (bD (A1 ++ (u',l') :: A2)))) W qn cM M uw s e ws Sl (A1 ++ (u',l') :: A2) L:=by
 have hal:=h.al
 have h1:=((ho.perm (.swap _ _ _)).put (es':=bD (A1 ++ (u',l') :: A2)) (by rw[hA]; simp[bD]) (by rw[bD,Ro,hal])).perm (.swap _ _ _)
 rw[hes] at h1
 refine ⟨?_,?_,h.bo,h.num,h.sl,by rw[← hal,hA]; simp⟩
 ·rw[show gX (A1 ++ (u',l') :: A2) ++ L=gX A1 ++ (u',1,ez l') :: (gX A2 ++ L) by simp[gX]]
  exact h1.perm NY.symm
 ·have:=ho.w6 hm (.sl e 0 ws.length 1,1,bD A) (by simp)
  simp only[View.set]; rw[Q9 (fun e=>this (by rw[e]; rfl))]; exact hm
theorem cw.N6 (h:cw g a H W qn cM M uw s e ws Sl A L) {e2:Nat} (hq:H e2=.dead):cw g a ((H.set e2 (.arr 1 (List.replicate ws.length [.emp 1]))).set W (.arr 10 [[.aH (g.av.map ca),.aH (g.az.map fun s=>[gs s]),.aH (g.rules.map aO),gi g.start,bS a,bG (au g false),.mp qn,uw,.sl s 0 ws.length 1,.sl e2 0 ws.length 1]])) W qn cM M uw s e2 ws Sl (List.replicate ws.length (.emp 1,[])) L:=by
 have h1:bk H ((.sl W 0 1 10,10,[[.aH (g.av.map ca),.aH (g.az.map fun s=>[gs s]),.aH (g.rules.map aO),gi g.start,bS a,bG (au g false),.mp qn,uw,.sl s 0 ws.length 1,.sl e 0 ws.length 1]]) :: (uw,2,kY ws) :: (.sl s 0 ws.length 1,1,bQ Sl) :: L) :=
  h.own.sub (.cons_cons _ (.cons_cons _ (.cons_cons _ (.cons _ (List.sublist_append_right _ _)))))
 have o3:=h1.new hq 1 (List.replicate ws.length [V.emp 1])
 have o4:=(o3.perm (.swap _ _ _)).put (es':=[[.aH (g.av.map ca),.aH (g.az.map fun s=>[gs s]),.aH (g.rules.map aO),gi g.start,bS a,bG (au g false),.mp qn,uw,.sl s 0 ws.length 1,.sl e2 0 ws.length 1]]) rfl rfl
 have o5:=((o4.perm (.cons _ (R6 (l₁:=[_,_]) (l₂:=L)).symm)).Mj ws.length).perm (.cons _ (.cons _ (.cons _ (.cons _ List.perm_append_comm))))
 have e2':List.replicate ws.length [V.emp 1]=bD (List.replicate ws.length ((V.emp 1,[]):V × List Nat)):=by simp[bD]
 rw[Te] at o5
 refine ⟨?_,?_,h.bo,h.num,h.sl,by simp⟩
 ·rw[← e2']; exact o5
 ·have hWm:=h.own.w6 h.mp _ (Tt ..)
  simp only[View.set]
  rw[Q9 (fun e=>hWm (by rw[e]; rfl)),Q9 (fun e=>by have:=h.mp; rw[e,hq] at this; simp at this)]
  exact h.mp
theorem BI {A:List (V × List Nat)} {x:Nat} (hx:x < A.length):((A.getD x (.any,[])).1,1,ez (A.getD x (.any,[])).2)∈gX A:=by
 have h:A[x]?=some (A.getD x (.any,[])):=getD_some hx
 exact Rv.2 ⟨_,Re h,rfl⟩
theorem cw.O1 (h:cw g a H W qn cM M uw s e ws Sl A L) (hn:1≤ws.length) {E:Nat→List Nat} (hE:∀ x,x < ws.length→(A.getD x (.any,[])).2=E x) (hE2:∀ x,x < ws.length→(E x).length≤1000000000∧∀ y∈E x,y < ws.length) :
  PF ws.length E H W s e (A.map (·.1)) (.aH (g.av.map ca),.aH (g.az.map fun s=>[gs s]),.aH (g.rules.map aO),gi g.start,bS a,bG (au g false),.mp qn,uw):=by
 obtain ⟨hW,⟨w,huw,hw⟩,hs,he,n1,n2,n3⟩:=h.at hn
 have hal:=h.al
 have hu:∀ x,x < ws.length→(A.map (·.1)).getD x .any=(A.getD x (.any,[])).1:=fun x hx=>by
  simp[Q6,Q7 (show x < A.length by omega)]
 refine ⟨hW,by rw[he]; simp[bD],by simpa using hal,fun x hx=>?_,hE2,by rw[huw]; rfl,n1,Ne.symm n3,fun x hx=>?_⟩
 ·rw[hu x hx,← hE x hx]
  exact h.own.1 _ (by simp only[Rm]; exact .inr (.inr (.inr (.inr (SJ _ (BI (x:=x) (by omega)))))))
 ·rw[hu x hx]
  have p:∀ x y z:cb,∀ L:List cb,(x :: y :: z :: L).Perm (z :: x :: y :: L):=fun x y z L=>R6 (l₁:=[x,y]) (a:=z) (l₂:=L)
  exact (h.own.perm (p _ _ _ _)).off rfl _ (by simp only[Rm]; exact .inr (.inr (.inr (SJ _ (BI (x:=x) (by omega))))))
end
def Kt (n:Nat) (Sl:List BV) (A:List (V × List Nat)) (fS:Nat→BV) (fA:Nat→List Nat):Prop:=∀ y,y < n→Sl.getD y 0=fS y∧(A.getD y (.any,[])).2=fA y
theorem yy {α:Type} {l r:List α} {x y d:α} {z:Nat} (h:z≠l.length):(l ++ x :: r).getD z d=(l ++ y :: r).getD z d:=by
 simp only[Q6]
 rcases Rw z l.length with q | q
 ·rw[Rt q,Rt q]
 ·rw[RL q,RL q]
  obtain ⟨k,hk⟩:∃ k,z - l.length=k+1:=⟨z - l.length - 1,by omega⟩
  rw[hk,RS,RS]
theorem zf (b:BV) (l:List c8) (e:c8):mQ b (l ++ [e])=if 0≤e.sym then mQ b l ||| dI e.sym else mQ b l:=by
 unfold mQ; rw[RR]; rfl
theorem Cu (g:ao) (ws:List (Int × Int)) (q:Nat) (l:List c8) (e:c8):qF g ws q (l ++ [e])=if e.sym < 0∧(au g false).getD (-1 - e.sym).toNat false=true then qF g ws q l ++ [rW ws ((q:Int),-1 - e.sym)] else qF g ws q l:=by
 unfold qF
 rw[Sw,RI]
 by_cases h:e.sym < 0∧(au g false).getD (-1 - e.sym).toNat false=true
 ·rw[Ra h,List.filter_cons_of_pos (by simp only[h.1,h.2]; rfl)]; simp
 ·rw[Q9 h]
  have:(decide (e.sym < 0) && (au g false).getD (-1 - e.sym).toNat false)=false:=by
   rw[Bool.eq_false_iff]; simpa using h
  rw[List.filter_cons_of_neg (by simp only[this]; simp)]
  simp
set_option maxHeartbeats 16000000 in
theorem tE {g:ao} {a:List aP} (hA:bU g a) (hr9:bE g=true) (ha:a.length≤300) {W qn cM:Nat} {M:bF (Int × Int)} {uw:V} {s e2:Nat} {i q:Nat} (hi:i < (aN a).length) (hq:q < a.length) (S0:BV) (fS:Nat→BV) (fA:Nat→List Nat) {T:Env} {H:View} {Q:Exit→Env→View→Prop} {v:bX (T,H,Q)}
  (hJ:∃ (Sl:List BV) (A:List (V × List Nat)),cw g a H W qn cM M uw s e2 (aN a) Sl A []∧Kt (aN a).length Sl A (fun y=>if y=i then S0 else fS y) (fun y=>if y=i then [] else fA y))
  (ht:T 0=.ptr W 0 0∧T 2=gi i∧T 4=gi q∧T 19=uw∧T 20=gi (aN a).length∧T 21=gi i∧T 70=.aH (gH (a.getD q bm).aX)∧T 71=gi (a.getD q bm).aX.length∧T 72=gi 0)
  (hQ:∀ (T':Env) (H':View),(∃ (Sl:List BV) (A:List (V × List Nat)),cw g a H' W qn cM M uw s e2 (aN a) Sl A []∧Kt (aN a).length Sl A (fun y=>if y=i then mQ S0 (a.getD q bm).aX else fS y) (fun y=>if y=i then qF g (aN a) q (a.getD q bm).aX else fA y)) →
   T' 0=.ptr W 0 0→T' 19=uw→T' 20=gi (aN a).length→T' 21=gi i→Q (.exit 2) T' H'):bg Tryz.prog kz T H Q v:=by
 have hn1:=nJ hA
 have hnl:(aN a).length≤40 * a.length:=ko hA.ok.aX a.length
 have hZm:=Re (getD_some (d:=bm) hq)
 have hZe:=hA.ok.aX _ hZm
 have hZs:=hA.ok.sym _ hZm
 have hEd:∀ e∈(a.getD q bm).aX,dq a q e.sym:=fun e he=>⟨e,he,rfl⟩
 have hhas:∀ e∈(a.getD q bm).aX,gP g e.sym=true:=fun e he=>by
  obtain ⟨y,hy,hn⟩:=(hA.kB hq).1 (hEd e he)
  exact nF hA.b7 (hA.has hq hy) hn
 generalize a.getD q bm=Z at *
 obtain ⟨Sl0,A0,hI0,hSA0⟩:=hJ
 obtain ⟨t0,t2,t4,t19,t20,t21,t70,t71,t72⟩:=ht
 refine bg.up Z.aX.length (fun j T H'=>∃ (Sl:List BV) (A:List (V × List Nat)),cw g a H' W qn cM M uw s e2 (aN a) Sl A []∧Kt (aN a).length Sl A (fun y=>if y=i then mQ S0 (Z.aX.take j) else fS y) (fun y=>if y=i then qF g (aN a) q (Z.aX.take j) else fA y) ∧
  T 0=.ptr W 0 0∧T 2=gi i∧T 4=gi q∧T 19=uw∧T 20=gi (aN a).length∧T 21=gi i∧T 70=.aH (gH Z.aX)∧T 71=gi Z.aX.length∧T 72=gi j) ⟨Sl0,A0,hI0,by simpa [mQ,qF] using hSA0,t0,t2,t4,t19,t20,t21,t70,t71,t72⟩ ?_
 clear hI0 hSA0 t0 t2 t4 t19 t20 t21 t70 t71 t72
 rintro j k T H1 hk ⟨Sl,A,hI,hSA,t0,t2,t4,t19,t20,t21,t70,t71,t72⟩
 simp (disch:=omega) only [↓wr,seval,wq,ah,ag,ak,aa,ab,af,ai,ae,kz,t0,t2,t4,t70,t71,t72]
 refine aq.dec (fun hc=>?_) (fun hc=>?_)
 rotate_left
 ·simp (disch:=omega) only [↓wr,seval,wq,ah,ag,ak,aa,ab,af,ai,ae]
  rw[Rz (by omega)] at hSA
  exact hQ _ _ ⟨Sl,A,hI,hSA⟩ t0 t19 t20 t21
 have hy:Z.aX[j]?=some (Z.aX[j]'(by omega)):=Q7 (by omega)
 have hym:=Rj (show j < Z.aX.length by omega)
 have htk:Z.aX.take (j+1)=Z.aX.take j ++ [Z.aX[j]'(by omega)]:=by rw[RG,hy]; rfl
 generalize Z.aX[j]'(by omega)=y at hy hym htk
 have hyb:=hZs y hym
 have hyE:=hEd y hym
 have hyh:=nM (hhas y hym)
 have hT:=hA.b7.av
 have hN:=hA.b7.az
 have hSi:=hSA i hi
 simp only[if_true] at hSi
 simp (disch:=omega) only [↓wr,seval,wq,ah,ag,ak,aa,ab,af,ai,ae,t0,t2,t4,t70,t71,t72,gH,Rc,hy,Rk,kr]
 intro q6 hq6
 have hI6:=hI.fresh hq6 (o:=.arr 2 [[gi y.sym,gi y.to]])
 have hq6':(H1.set q6 (.arr 2 [[gi y.sym,gi y.to]])) q6=.arr 2 [[gi y.sym,gi y.to]]:=by simp[View.set]
 rw[set_set]
 generalize H1.set q6 (.arr 2 [[gi y.sym,gi y.to]])=H6 at hI6 hq6' ⊢
 clear hI hq6
 obtain ⟨hW,⟨w2,huw2,hw⟩,hs,he,n1,n2,n3⟩:=hI6.at hn1
 have hsl:=hI6.sl
 have hsi:=me (l:=Sl) (i:=i) (by omega)
 refine aq.dec (fun h0=>?_) (fun h0=>?_)
 ·simp (disch:=omega) only [↓wr,seval,wq,ah,ag,ak,aa,ab,af,ai,ae,t0,t2,hW,hs,hsi,hq6']
  refine ⟨hi,by omega,fun q7 hq7=>?_⟩
  refine aF.Ds (Cz y.sym) (by kernel_rfl) (.val _) ⟨fh.MR (l:=[y.sym]) (.inr ⟨q7,rfl,by simp[View.set]⟩),trivial⟩ ?_
  have hI7:=hI6.fresh hq7 (o:=.arr 1 [[gi y.sym]])
  generalize H6.set q7 (.arr 1 [[V.val (.int .i64 y.sym)]])=H7 at hI7 ⊢
  obtain ⟨-,-,hs7,-⟩:=hI7.at hn1
  have e1:(bQ Sl).set i [gw (sF Sl i ||| dI y.sym)]=bQ (Sl.set i (sF Sl i ||| dI y.sym)):=by simp[Sr]
  simp (disch:=omega) only [↓wr,seval,wq,ah,ag,ak,aa,ab,af,ai,ae,t0,t2,t4,t19,t20,t21,t70,t71,t72,hs7,hsi,e1,qq]
  refine ⟨hi,by omega,?_⟩
  refine aQ hk (by omega) ⟨Sl.set i (sF Sl i ||| dI y.sym),A,hI7.vO (by simp[hsl]),fun z hz=>?_,t0,t2,t4,t19,t20,t21,t70,t71,by first | rfl | (congr 2)⟩
  have hz2:=hSA z hz
  rw[htk,zf,Cu,Ra h0,Q9 (fun h=>by omega),gz]
  refine ⟨?_,hz2.2⟩
  by_cases e:z=i
  ·subst e
   rw[Ra ⟨rfl,by omega⟩]
   simp only[if_true]
   rw[sF,hSi.1]
  ·rw[Q9 (fun h=>e h.1.symm)]
   simp only[Q9 e] at hz2 ⊢
   exact hz2.1
 ·have hnl3:(-1 - y.sym).toNat < (au g false).length:=by
   rw[fG hr9]
   unfold ji at hyh
   rw[Ra (by omega)] at hyh
   omega
  have hnu:(au g false)[(-1 - y.sym).toNat]?=some ((au g false).getD (-1 - y.sym).toNat false):=getD_some hnl3
  have hsn:=Cu g (aN a) q (Z.aX.take j) y
  rw[← htk] at hsn
  have hsr:=zf S0 (Z.aX.take j) y
  rw[← htk,Q9 h0] at hsr
  generalize hb:(au g false).getD (-1 - y.sym).toNat false=b at hnu hsn
  simp (disch:=omega) only [↓wr,seval,wq,ah,ag,ak,aa,ab,af,ai,ae,t0,hW,hq6',bG,Rc,hnu,Rk]
  refine aq.split (fun hbt=>?_) (fun hbt=>?_)
  rotate_left
  ·simp (disch:=omega) only [↓wr,seval,wq,ah,ag,ak,aa,ab,af,ai,ae,t0,t2,t4,t19,t20,t21,t70,t71,t72]
   rw[hbt,Q9 (by simp)] at hsn
   exact aQ hk (by omega) ⟨Sl,A,hI6,fun z hz=>by rw[hsr,hsn]; exact hSA z hz,t0,t2,t4,t19,t20,t21,t70,t71,by first | rfl | (congr 2)⟩
  rw[hbt,Ra ⟨by omega,rfl⟩] at hsn
  have hal:=hI6.al
  obtain ⟨A1,⟨u,l⟩,A2,rfl,hA1,_⟩:=qH (l:=A) (i:=i) (by omega)
  have hRow:=hI6.row rfl
  have hui:(bD (A1 ++ (u,l) :: A2)).getD i []=[u]:=by rw[← hA1]; simp[bD]
  have hli:((A1 ++ (u,l) :: A2).getD i (V.any,([]:List Nat))).2=l:=by rw[← hA1]; simp
  have hrl:(bD (A1 ++ (u,l) :: A2)).length=(aN a).length:=by rw[bD,Ro]; exact hal
  have hk2:(aN a)[rW (aN a) ((q:Int),-1 - y.sym)]?=some ((q:Int),-1 - y.sym):=ja (cL.2 ⟨by omega,by rw[show -1 - (-1 - y.sym)=y.sym by omega]; exact hyE⟩)
  have hgm:=hI6.num _ _ hk2
  have hnlt:=(Rl.1 hk2).1
  generalize rW (aN a) ((q:Int),-1 - y.sym)=kn at hk2 hgm hnlt hsn
  simp (disch:=omega) only [↓wr,seval,wq,ah,ag,ak,aa,ab,af,ai,ae,t0,t2,t4,hW,he,hui,hq6']
  refine ⟨hi,by omega,?_⟩
  have hmt:cT Tryz.prog 110=some (116,3):=by kernel_rfl
  have hz:zeroV Tryz.prog 3=some (gi 0):=by kernel_rfl
  refine Db (kv:=dY) (kt:=116) (et:=3) (z:=gi 0) (id:=qn) (c:=cM) (m:=M) (k:=((q:Int),-1 - y.sym)) hmt hz (wU tX) (by first | rfl | simp (disch:=omega) only [↓wr,seval,wq,ah,ag,ak,aa,ab,af,ai,ae]) (by first | rfl | (simp (disch:=omega) only [↓wr,seval,wq,ah,ag,ak,aa,ab,af,ai,ae]; rfl)) hI6.mp ?_
  rw[hgm,Rq]
  have hll:l.length≤40:=by
   rw[← hli,hSi.2]
   unfold qF
   rw[Ro]
   have h1:=Sg (fun e=>decide (e.sym < 0) && (au g false).getD (-1 - e.sym).toNat false) (Z.aX.take j)
   rw[Sa] at h1
   omega
  simp (disch:=omega) only [↓wr,seval,wq,ah,ag,ak,aa,ab,af,ai,ae]
  intro q8 hq8
  simp (disch:=omega) only [↓wr,seval,wq,ah,ag,ak,aa,ab,af,ai,ae,dW]
  refine eR (hRow.fresh hq8) (by simp[aS]) (by unfold aK; simp; omega) (by unfold aK; simp; omega) ?_
  intro u2 H8 o8 l8
  have he8:=o8.is 1 rfl (by rw[hrl]; omega)
  have hm8:=l8.map (hRow.fresh hq8).head (b:=qn) (c:=cM) (es:=bw dY M) (by
   have:=hI6.mp
   simp only[View.set]; rw[Q9 (fun e=>by rw[← e,this] at hq8; simp at hq8)]; exact this)
  have hse:(bD (A1 ++ (u,l) :: A2)).set i [u2]=bD (A1 ++ (u2,l ++ [kn]) :: A2):=by rw[← hA1]; simp[bD]
  simp (disch:=omega) only [↓wr,seval,wq,ah,ag,ak,aa,ab,af,ai,ae,t0,t2,t4,t19,t20,t21,t70,t71,t72,he8,hui,o8.head.cells,o8.head.qi,hse]
  refine ⟨hi,by omega,?_,?_⟩
  ·rcases hRow.head with ⟨_,kk,h⟩ | ⟨m,h,hm⟩
   ·rw[show u=.emp kk from h,tf]; trivial
   ·rw[show u=.sl m 0 _ 1 from h,wV]
    intro e
    rw[← e,hW] at hm; simp at hm
  ·refine aQ hk (by omega) ⟨Sl,A1 ++ (u2,l ++ [kn]) :: A2,hI6.O6 rfl (l':=l ++ [kn]) (es:=ez l ++ [[gi (kn:Int)]]) (by simp) o8 hm8,fun z hz=>?_,t0,t2,t4,t19,t20,t21,t70,t71,by first | rfl | (congr 2)⟩
   have hz2:=hSA z hz
   rw[hsr,hsn]
   refine ⟨hz2.1,?_⟩
   by_cases e:z=i
   ·subst e
    simp only[if_true]
    rw[← hSi.2,hli,← hA1]
    simp
   ·rw[yy (y:=(u,l)) (by rw[hA1]; exact e)]
    simp only[Q9 e] at hz2 ⊢
    exact hz2.2
theorem kx.congr {n:Nat} {E:Nat→List Nat} {S S':Nat→BV} (hE:∀ x,x < n→∀ y∈E x,y < n) (hS:∀ x,x < n→S x=S' x) {z t:Nat} (hz:z < n):kx E S z t↔kx E S' z t:=by
 have key:∀ {z w:Nat},ik E z w→z < n→w < n:=by
  intro z w h
  induction h with
  | refl=>exact id
  | step h1 _ ih=>exact fun hz=>ih (hE _ hz _ h1)
 constructor
 ·rintro ⟨w,h1,h2⟩
  exact ⟨w,h1,by rw[← hS w (key h1 hz)]; exact h2⟩
 ·rintro ⟨w,h1,h2⟩
  exact ⟨w,h1,by rw[hS w (key h1 hz)]; exact h2⟩
theorem Mb {g:ao} {a:List aP} (h:∀ s∈a,s.aX.length≤40) (x:Int × Int):(lD g a x).length≤40:=by
 unfold lD qF
 rw[Ro]
 refine RT (Sg _ _) ?_
 generalize dx a x.1.toNat (-1 - x.2)=q
 rcases Rw q a.length with k | k
 ·exact h _ (Re (getD_some k))
 ·rw[Q6,RH k]; simp[bm]
set_option maxHeartbeats 16000000 in
theorem Ot {g:ao} {a:List aP} (hA:bU g a) (hr9:bE g=true) (ha:a.length≤300) {H:View} {W qn cM:Nat} {M:bF (Int × Int)} {uw:V} {s e:Nat} (hI:cw g a H W qn cM M uw s e (aN a) (List.replicate (aN a).length 0) (List.replicate (aN a).length (.emp 1,[])) []) :
  aB Tryz.prog 73 [.ptr W 0 0] H fun _ H'=>∃ (e':Nat) (Sl:List BV) (A:List (V × List Nat)),cw g a H' W qn cM M uw s e' (aN a) Sl A []∧∀ (x p t:Nat) (B:Int),(aN a)[x]?=some ((p:Int),B)→((sF Sl x).getLsbD t=true↔mg g a p B t):=by
 refine aB.of mixed vc ?_
 have hn1:=nJ hA
 have hnl:(aN a).length≤40 * a.length:=ko hA.ok.aX a.length
 obtain ⟨hW,⟨w,huw,hw⟩,hs,he,n1,n2,n3⟩:=hI.at hn1
 have hul:cY uw=some (aN a).length:=by rw[huw]; rfl
 have hWd:∀ q,H q=.dead→W≠q:=fun q hq e=>by rw[e,hq] at hW; simp at hW
 simp (disch:=omega) only [↓wr,seval,wq,ah,ag,ak,aa,ab,af,ai,ae,qN,hW,hul]
 refine ⟨⟨by omega,by unfold aK; omega,by unfold aK; omega⟩,fun h0=>by omega,fun _ e2 he2=>?_⟩
 have w1:=hWd e2 he2
 simp (disch:=omega) only [↓wr,seval,wq,ah,ag,ak,aa,ab,af,ai,ae,w1,hul]
 have hI2:=hI.N6 he2
 generalize ((H.set e2 (.arr 1 (List.replicate (aN a).length [V.emp 1]))).set W (.arr 10 [[V.aH (g.av.map ca),.aH (g.az.map fun s=>[gs s]),.aH (g.rules.map aO),gi g.start,bS a,bG (au g false),.mp qn,uw,.sl s 0 (aN a).length 1,.sl e2 0 (aN a).length 1]]))=H2 at hI2 ⊢
 refine bg.up (aN a).length (fun i T H'=>∃ (Sl:List BV) (A:List (V × List Nat)),cw g a H' W qn cM M uw s e2 (aN a) Sl A []∧Kt (aN a).length Sl A (fun y=>if y < i then oY g a (cK a y) else 0) (fun y=>if y < i then lD g a (cK a y) else [])∧T 0=.ptr W 0 0∧T 19=uw∧T 20=gi (aN a).length∧T 21=gi i)
  ⟨_,_,hI2,fun y hy=>by simp[Q6,hy],rfl,rfl,rfl,rfl⟩ ?_
 clear hI2 hI he2 hW hw hs he n1 n2 n3 hWd w1
 rintro i k T H' hk ⟨Sl,A,hI,hSA,t0,t19,t20,t21⟩
 obtain ⟨hW,⟨w',huw',hw⟩,hs,he,n1,n2,n3⟩:=hI.at hn1
 have hww:w'=w:=by rw[huw] at huw'; simp only[V.sl.injEq] at huw'; exact huw'.1.symm
 subst hww
 simp (disch:=omega) only [↓wr,seval,wq,ah,ag,ak,aa,ab,af,ai,ae,pj,t0,t19,t20,t21]
 refine aq.dec (fun hc=>?_) (fun hc=>?_)
 rotate_left
 ·have hi:i=(aN a).length:=by omega
  subst hi
  have hSA2:Kt (aN a).length Sl A (fun y=>oY g a (cK a y)) (fun y=>lD g a (cK a y)):=fun y hy=>by
   have:=hSA y hy
   simpa only [hy,if_true] using this
  have hCC:=hI.O1 hn1 (E:=fun y=>lD g a (cK a y)) (fun x hx=>(hSA2 x hx).2) (fun x hx=>⟨RT (Mb hA.ok.aX _) (by omega),HL hA hx⟩)
  simp (disch:=omega) only [↓wr,seval,wq,ah,ag,ak,aa,ab,af,ai,ae,t0]
  refine aF.eJ ((Cj hCC hn1 (by omega) Sl hs hI.sl).mono ?_)
  rintro r H5 ⟨Sl',k1,k2,k3,k4⟩
  simp (disch:=omega) only [↓wr,seval,wq,ah,ag,ak,aa,ab,af,ai,ae]
  have hI5:=(hI.vO (Sl':=Sl') k1).stay (H':=H5) fun id hid=>by
   simp only[View.set] at hid ⊢
   by_cases e:id=s
   ·rw[Ra e,e]; exact k2
   ·rw[Q9 e] at hid ⊢
    exact k4 id hid e
  refine ⟨e2,Sl',A,hI5,fun x p t B hx=>?_⟩
  have hxl:=(Rl.1 hx).1
  rw[k3 x t hxl,kx.congr (S:=sF Sl) (fun x hx=>HL hA hx) (S':=fun y=>oY g a (cK a y)) (fun z hz=>(hSA2 z hz).1) hxl]
  exact K2 hA hx
 have hx:(aN a)[i]?=some (cK a i):=getD_some (by omega)
 obtain ⟨p,hp⟩:=qa (Re hx)
 have hmem:=Re hx
 have hSi:=hSA i (by omega)
 generalize hxe:cK a i=x at hx hp hmem
 obtain ⟨x1,B⟩:=x
 simp only at hp
 have hx1:x1=p:=by simpa using Sp Prod.fst hp
 subst hx1
 clear hp
 obtain ⟨hB0,hE⟩:=cL.1 hmem
 obtain ⟨_,_,_,hto,hql,hwd⟩:=hA.dx hE
 have hpl:=ec hE
 have hwg:(kY (aN a)).getD i []=[gi (p:Int),gi B]:=by
  simp[Q6,hx]
 have hBb:B≤1000:=by
  obtain ⟨e,h1,h2⟩:=hE
  have:=hA.ok.sym _ (xf h1).2 e h1
  omega
 have hshort:aV a:=by unfold aV; omega
 have hedg:∀ s∈a,aV s.aX∧∀ e∈s.aX,cm e.sym∧cm e.to:=fun s hs=>⟨by have:=hA.ok.aX s hs; unfold aV; omega,fun e he=>by
  have h1:=hA.ok.sym s hs e he
  have h2:=hA.ok.to s hs e he
  unfold cm; omega⟩
 simp (disch:=omega) only [↓wr,seval,wq,ah,ag,ak,aa,ab,af,ai,ae,t0,t19,t20,t21,huw,hw,hwg]
 refine ⟨by omega,by omega,fun q1 hq1=>?_⟩
 rw[set_set]
 have hI1:=hI.fresh hq1 (o:=.arr 2 [[gi (p:Int),gi B]])
 have hq1':(H'.set q1 (.arr 2 [[gi (p:Int),gi B]])) q1=.arr 2 [[gi (p:Int),gi B]]:=by simp[View.set]
 generalize H'.set q1 (.arr 2 [[gi (p:Int),gi B]])=H1 at hI1 hq1' ⊢
 refine aF.eJ ((Dd (hI1.at hn1).1 hshort hedg p (-1 - B)).mono ?_)
 rintro r H3 ⟨rfl,hf3⟩
 have hI3:=hI1.stay hf3
 have hq3:H3 q1=.arr 2 [[gi (p:Int),gi B]]:=by rw[hf3 q1 (by rw[hq1']; simp)]; exact hq1'
 clear hI hI1 hq1' hf3 hq1 hW hw hs he n1 n2 n3
 clear H1 H'
 obtain ⟨hW,⟨w2,huw2,hw⟩,hs,he,n1,n2,n3⟩:=hI3.at hn1
 clear huw2
 have hsl:=hI3.sl
 have hsi:=me (l:=Sl) (i:=i) (by omega)
 rw[hwd]
 simp only[Nat.lt_irrefl,if_false] at hSi
 have hS0:sF Sl i=0:=hSi.1
 simp (disch:=omega) only [↓wr,seval,wq,ah,ag,ak,aa,ab,af,ai,ae,t0,t19,t20,t21,hq3]
 refine aq.eq (fun hp0=>?_) (fun hp0=>?_)
 ·simp (disch:=omega) only [↓wr,seval,wq,ah,ag,ak,aa,ab,af,ai,ae,t0,hq3,hW]
  refine aq.eq (fun hBs=>?_) (fun hBs=>?_)
  ·simp (disch:=omega) only [↓wr,seval,wq,ah,ag,ak,aa,ab,af,ai,ae,t0,hW,hs,hsi]
   refine ⟨by omega,by omega,fun q5 hq5=>?_⟩
   refine aF.Ds (Cz (g.av.length:Int)) (by kernel_rfl) (.val _) ⟨fh.MR (l:=[(g.av.length:Int)]) (.inr ⟨q5,rfl,by simp[View.set]⟩),trivial⟩ ?_
   have hI5:=hI3.fresh hq5 (o:=.arr 1 [[gi (g.av.length:Int)]])
   generalize H3.set q5 (.arr 1 [[V.val (.int .i64 (g.av.length:Int))]])=H5 at hI5 ⊢
   obtain ⟨hW5,-,hs5,-⟩:=hI5.at hn1
   have e1:(bQ Sl).set i [gw (sF Sl i ||| dI (g.av.length:Int))]=bQ (Sl.set i (sF Sl i ||| dI (g.av.length:Int))):=by simp[Sr]
   have hIx:=hI5.vO (Sl':=Sl.set i (sF Sl i ||| dI (g.av.length:Int))) (by simp[hsl])
   have hWx:=hW5
   have hgZ:a[dx a p (-1 - B)]?=some (a.getD (dx a p (-1 - B)) bm):=getD_some hql
   simp (disch:=omega) only [↓wr,seval,wq,ah,ag,ak,aa,ab,af,ai,ae,hs5,hsi,e1,qq,hW5,n1,t0,bS,Rc,hgZ,Rk,kZ]
   refine ⟨by omega,by omega,?_⟩
   refine tE hA hr9 ha (by omega) hql (mS g ((p:Int),B)) (fun y=>if y < i then oY g a (cK a y) else 0) (fun y=>if y < i then lD g a (cK a y) else []) ⟨_,A,hIx,fun z hz=>?_⟩ ⟨t0,rfl,rfl,t19,t20,t21,rfl,by show gi ((gH _).length:Int)=_; simp[gH],rfl⟩ (fun T' H' hF u0 u19 u20 u21=>?_)
   ·have hz2:=hSA z hz
    have hr0:mS g ((p:Int),B)=dI (g.av.length:Int):=by
     unfold mS
     exact Ra ⟨hp0,hBs⟩
    rw[gz]
    by_cases e:z=i
    ·subst e
     rw[Ra ⟨rfl,by omega⟩]
     simp only[if_true]
     rw[hr0,hS0]
     exact ⟨by simp,hSi.2⟩
    ·rw[Q9 (fun h=>e h.1.symm)]
     simp only[Q9 e]
     exact hz2
   ·obtain ⟨Sl9,A9,hI9,hS9⟩:=hF
    simp (disch:=omega) only [↓wr,seval,wq,ah,ag,ak,aa,ab,af,ai,ae,u0,u19,u20,u21]
    refine aQ hk (by omega) ⟨Sl9,A9,hI9,fun z hz=>?_,u0,u19,u20,by first | rfl | (congr 2)⟩
    have:=hS9 z hz
    by_cases e:z=i
    ·subst e
     simp only[if_true,Nat.lt_succ_self] at this ⊢
     rw[hxe]
     simp only[oY,lD,Rs]
     exact this
    ·simp only[Q9 e,show z < i+1↔z < i by omega] at this ⊢
     exact this
  ·have hIx:=hI3
   have hWx:=hW
   have hgZ:a[dx a p (-1 - B)]?=some (a.getD (dx a p (-1 - B)) bm):=getD_some hql
   simp (disch:=omega) only [↓wr,seval,wq,ah,ag,ak,aa,ab,af,ai,ae,t0,hWx,bS,Rc,hgZ,Rk,kZ]
   refine tE hA hr9 ha (by omega) hql (mS g ((p:Int),B)) (fun y=>if y < i then oY g a (cK a y) else 0) (fun y=>if y < i then lD g a (cK a y) else []) ⟨_,A,hIx,fun z hz=>?_⟩ ⟨t0,rfl,rfl,t19,t20,t21,rfl,by show gi ((gH _).length:Int)=_; simp[gH],rfl⟩ (fun T' H' hF u0 u19 u20 u21=>?_)
   ·have hz2:=hSA z hz
    have hr0:mS g ((p:Int),B)=0:=by
     unfold mS
     exact Q9 fun h=>hBs h.2
    by_cases e:z=i
    ·subst e
     simp only[if_true]
     rw[hr0]; exact hSi
    ·simp only[Q9 e]
     exact hz2
   ·obtain ⟨Sl9,A9,hI9,hS9⟩:=hF
    simp (disch:=omega) only [↓wr,seval,wq,ah,ag,ak,aa,ab,af,ai,ae,u0,u19,u20,u21]
    refine aQ hk (by omega) ⟨Sl9,A9,hI9,fun z hz=>?_,u0,u19,u20,by first | rfl | (congr 2)⟩
    have:=hS9 z hz
    by_cases e:z=i
    ·subst e
     simp only[if_true,Nat.lt_succ_self] at this ⊢
     rw[hxe]
     simp only[oY,lD,Rs]
     exact this
    ·simp only[Q9 e,show z < i+1↔z < i by omega] at this ⊢
     exact this
 ·have hIx:=hI3
  have hWx:=hW
  have hgZ:a[dx a p (-1 - B)]?=some (a.getD (dx a p (-1 - B)) bm):=getD_some hql
  simp (disch:=omega) only [↓wr,seval,wq,ah,ag,ak,aa,ab,af,ai,ae,t0,hWx,bS,Rc,hgZ,Rk,kZ]
  refine tE hA hr9 ha (by omega) hql (mS g ((p:Int),B)) (fun y=>if y < i then oY g a (cK a y) else 0) (fun y=>if y < i then lD g a (cK a y) else []) ⟨_,A,hIx,fun z hz=>?_⟩ ⟨t0,rfl,rfl,t19,t20,t21,rfl,by show gi ((gH _).length:Int)=_; simp[gH],rfl⟩ (fun T' H' hF u0 u19 u20 u21=>?_)
  ·have hz2:=hSA z hz
   have hr0:mS g ((p:Int),B)=0:=by
    unfold mS
    exact Q9 fun h=>hp0 h.1
   by_cases e:z=i
   ·subst e
    simp only[if_true]
    rw[hr0]; exact hSi
   ·simp only[Q9 e]
    exact hz2
  ·obtain ⟨Sl9,A9,hI9,hS9⟩:=hF
   simp (disch:=omega) only [↓wr,seval,wq,ah,ag,ak,aa,ab,af,ai,ae,u0,u19,u20,u21]
   refine aQ hk (by omega) ⟨Sl9,A9,hI9,fun z hz=>?_,u0,u19,u20,by first | rfl | (congr 2)⟩
   have:=hS9 z hz
   by_cases e:z=i
   ·subst e
    simp only[if_true,Nat.lt_succ_self] at this ⊢
    rw[hxe]
    simp only[oY,lD,Rs]
    exact this
   ·simp only[Q9 e,show z < i+1↔z < i by omega] at this ⊢
    exact this
def oE:SC :=
 .seq (an [bz 17 .lss 16 15]) <|
 .seq (.cond (.tmp 17) (.skip) (.exit 0)) <|
 .seq (.block 1 (.seq (an [aj 18 16,aY 19 1 14 16,ay 20 19,aj 8 18,aj 9 20]) <|
 .seq (.seq (.region false [⟨none,[aj 21 9,aR 22 .lss 21 0,aj 23 22]⟩,⟨(some (23,true)),[aj 24 0,aC 25 1 5,ay 26 25,aj 27 8,aR 28 .add 27 1,((some 29),.op (.slice 1 (.tmp 26) (some (.tmp 28)) none)),bJ 30 121 [24,29]]⟩,⟨none,[gA 31 23 30]⟩]) <|
 .cond (.tmp 31) (.seq (an [aj 32 0,fp 33 32,aC 34 6 33,ay 35 34,aj 36 7,aj 37 9,((some 38),.op (.arith .sub (.val (.val (.int .i64 (-1)))) (.tmp 37))),((some 39),.op (.build [(.val (.int .i64 0)),(.val (.int .i64 0))] [(0,1,(.tmp 36)),(1,1,(.tmp 38))])),((some 40),.op (.old (.lookup 110 (.tmp 35) (.tmp 39) false) 3)),aj 10 40]) <|
 .pT [(43,52)] [⟨none,[aj 41 0,fp 42 41,aC 43 9 42,ay 44 43,aj 45 10,aj 46 0,fp 47 46,aC 48 9 47,ay 49 48,aj 50 10,aY 51 1 49 50,ay 52 51,aj 53 0,fp 54 53,aC 55 6 54,ay 56 55,bM 57 2 4,((some 58),.op (.old (.lookup 110 (.tmp 56) (.tmp 57) false) 3)),((some 59),.op (.c4 1 1 [(.val (.int .i64 0))] [(0,(.tmp 58))])),((some 60),.op (.app 1 8 (.tmp 52) (.tmp 59))),aY 61 1 44 45,(none,.op (.store 1 (.tmp 61) (.tmp 60)))]⟩]) (.skip)) <|
 an [aj 62 0,aj 63 7,aj 64 9,bJ 65 119 [62,63,64],aj 7 65])) <|
 an [aR 66 .add 16 1,aj 16 66]
def ql:SF:=⟨.seq (an [dN 4 1,dN 5 2,bA 6 0]) <|
 .seq (an [aC 11 0 4,ay 12 11,aj 7 12]) <|
 .seq (.seq (an [aC 13 1 5,ay 14 13,bj 15 14,bA 16 0]) <|
 .block 0 (.loop oE)) <|
 .seq (an [aj 67 7,aj 6 67]) <|
 .ret,
 [.tmp 6],68⟩
theorem uO:aU Tryz.prog 74 [4,5,100000]=some ql:=by kernel_rfl
def mD (g:ao) (a:List aP):Nat→List Int→List Nat
 | _,[]=>[]
 | q,s :: l=>(if s < 0∧bZ l (au g false) false=true then [rW (aN a) ((q:Int),-1 - s)] else []) ++ mD g a (dx a q s) l
def jw (a:List aP):Nat→List Int→Nat
 | q,[]=>q
 | q,s :: l=>jw a (dx a q s) l
def jc (f:Nat→List Nat) (x:Nat) (ys:List Nat):Nat→List Nat:=ys.foldl (fun f y=>iP f y (f y ++ [x])) f
theorem Kn (f:Nat→List Nat) (x:Nat) (ys zs:List Nat):jc f x (ys ++ zs)=jc (jc f x ys) x zs:=by
 unfold jc; rw[RR]
theorem BC {x:Nat} : ∀ {ys:List Nat} {f:Nat→List Nat} {y z:Nat},z∈jc f x ys y↔z∈f y∨(z=x∧y∈ys)
 | [],f,y,z=>by simp[jc]
 | w :: ys,f,y,z=>by
  have ih:=BC (x:=x) (ys:=ys) (f:=iP f w (f w ++ [x])) (y:=y) (z:=z)
  unfold jc at ih ⊢
  rw[Rx,ih]
  by_cases e:y=w
  ·subst e
   rw[dV,Ry,RU]
   simp only[Rm,true_or,and_true]
   constructor
   ·rintro ((h | h) | h)
    ·exact .inl h
    ·exact .inr h
    ·exact .inr h.1
   ·rintro (h | h)
    ·exact .inl (.inl h)
    ·exact .inl (.inr h)
  ·rw[kK e]
   simp only[Rm,e,false_or]
theorem wu {x c:Nat} : ∀ {ys:List Nat} {f:Nat→List Nat},(∀ z,(f z).length≤c)→∀ z,(jc f x ys z).length≤c+ys.length
 | [],f,h,z=>by simpa [jc] using h z
 | w :: ys,f,h,z=>by
  have ih:=wu (x:=x) (c:=c+1) (ys:=ys) (f:=iP f w (f w ++ [x])) (fun z=>by
   by_cases e:z=w
   ·subst e; rw[dV,R5]; have:=h z; simp; omega
   ·rw[kK e]; have:=h z; omega) z
  unfold jc at ih ⊢
  rw[Rx,Rp]
  omega
theorem GL (g:ao) (a:List aP):∀ (l:List Int) (q:Nat),(mD g a q l).length≤l.length
 | [],_=>by simp[mD]
 | s :: l,q=>by
  have ih:=GL g a l (dx a q s)
  rw[mD,R5,Rp]
  split <;> simp <;> omega
set_option maxHeartbeats 16000000 in
theorem Mo {g:ao} {a:List aP} (hA:bU g a) (hr9:bE g=true) (ha:a.length≤300) {H:View} {W qn cM:Nat} {M:bF (Int × Int)} {uw:V} {s e:Nat} {Sl:List BV} {A:List (V × List Nat)} {L:List cb} (hI:cw g a H W qn cM M uw s e (aN a) Sl A L)
  {fA:Nat→List Nat} {c:Nat} (hfA:∀ z,z < (aN a).length→(A.getD z (.any,[])).2=fA z) (hfl:∀ z,(fA z).length≤c) (hc:c≤100000000) {x p k:Nat} {B:Int} (hx:(aN a)[x]?=some ((p:Int),B)) (hk:k < g.rules.length) (hkl:(ax g k).left=B) :
  aB Tryz.prog 74 [.ptr W 0 0,.agg [gi p,gi B],.agg (aO (ax g k))] H fun r H'=>r=gi (jw a p (ax g k).right)∧(∃ A',cw g a H' W qn cM M uw s e (aN a) Sl A' L∧∀ z,z < (aN a).length→(A'.getD z (.any,[])).2=jc fA x (mD g a p (ax g k).right) z)∧∀ b c es,H b=.map es c→H' b=.map es c:=by
 have hn1:=nJ hA
 have hnl:(aN a).length≤40 * a.length:=ko hA.ok.aX a.length
 obtain ⟨hB0,hE⟩:=cL.1 (Re hx)
 have hpl:=ec hE
 have hm0:=jn hA hpl hB0 hk hkl hE
 have hR:g.rules[k]?=some (ax g k):=by unfold ax; exact getD_some hk
 have hrt:aI g (k:Int)=(ax g k).right:=by rw[aI,Q9 (by omega)]
 have hr6:=hA.b7.right _ (Re hR)
 have hrs:=hA.b7.sym _ (Re hR)
 have hgx:=hI.num _ _ hx
 generalize ax g k=R at *
 refine aB.of mixed uO ?_
 simp (disch:=omega) only [↓wr,seval,wq,ah,ag,ak,aa,ab,af,ai,ae,ql,aO,encI]
 refine bg.up R.right.length (fun i T H'=>∃ (q:Nat) (ys:List Nat) (A':List (V × List Nat)),cw g a H' W qn cM M uw s e (aN a) Sl A' L∧(∀ z,z < (aN a).length→(A'.getD z (.any,[])).2=jc fA x ys z)∧(∀ b c es,H b=.map es c→H' b=.map es c) ∧
  ys.length≤i∧mD g a p R.right=ys ++ mD g a q (R.right.drop i)∧jw a p R.right=jw a q (R.right.drop i)∧q < a.length∧(⟨k,i⟩:aJ)∈gC g a q ∧
  T 0=.ptr W 0 0∧T 4=.aL [gi p,gi B] 0∧T 5=.aL (aO R) 0∧T 7=gi q∧T 14=encI R.right∧T 15=gi R.right.length∧T 16=gi i)
  ⟨p,[],A,hI,hfA,fun _ _ _ h=>h,by simp,by simp,by simp,hpl,hm0,rfl,rfl,rfl,rfl,rfl,rfl,rfl⟩ ?_
 clear hI hfA
 rintro i m T H1 hm ⟨q,ys,A1,hI,hfA1,hmp,hyl,hrc,hen,hql,hit,t0,t4,t5,t7,t14,t15,t16⟩
 simp (disch:=omega) only [↓wr,seval,wq,ah,ag,ak,aa,ab,af,ai,ae,oE,t0,t4,t5,t7,t14,t15,t16]
 refine aq.dec (fun hc2=>?_) (fun hc2=>?_)
 rotate_left
 ·simp (disch:=omega) only [↓wr,seval,wq,ah,ag,ak,aa,ab,af,ai,ae,t7]
  rw[RB (by omega)] at hrc hen
  rw[hrc,hen]
  refine ⟨rfl,⟨A1,hI,?_⟩,hmp⟩
  simpa [mD] using hfA1
 have hy:R.right[i]?=some (R.right[i]'(by omega)):=Q7 (by omega)
 have hym:=Rj (show i < R.right.length by omega)
 have hdr:R.right.drop i=R.right[i]'(by omega) :: R.right.drop (i+1):=RX (by omega)
 generalize R.right[i]'(by omega)=y at hy hym hdr
 obtain ⟨n1,n2,n3⟩:=nS (g:=g) (r:=k) (d:=i) (s:=y) (l:=R.right.drop (i+1)) (by rw[hrt,hdr])
 obtain ⟨s1,s2,s3,s4⟩:=hA.step hql hit n1
 obtain ⟨_,_,_,_,_,hwd⟩:=hA.dx s1
 have hyh:=nM (hrs y hym)
 have hT:=hA.b7.av
 have hN:=hA.b7.az
 have hylo : -100≤y:=by
  unfold ji at hyh
  split at hyh <;> omega
 rw[hdr,mD] at hrc
 rw[hdr,jw] at hen
 obtain ⟨hW,⟨w2,huw2,hw⟩,hs,he,q1,q2,q3⟩:=hI.at hn1
 have hshort:aV a:=by unfold aV; omega
 have hedg:∀ s∈a,aV s.aX∧∀ e∈s.aX,cm e.sym∧cm e.to:=fun s hs=>⟨by have:=hA.ok.aX s hs; unfold aV; omega,fun e he=>by
  have h1:=hA.ok.sym s hs e he
  have h2:=hA.ok.to s hs e he
  unfold cm; omega⟩
 simp (disch:=omega) only [↓wr,seval,wq,ah,ag,ak,aa,ab,af,ai,ae,t0,t4,t5,t7,t14,t15,t16,encI,Rc,hy,Rk]
 refine aq.dec (fun h0=>?_) (fun h0=>?_)
 ·have hsd:eQ 1 (V.aH (List.map (fun (x:Int)=>[gi x]) R.right)) (some (V.val (.int .i64 ((i:Int)+1)))) none=some (.aH (List.map (fun (x:Int)=>[gi x]) (R.right.drop (i+1))),.none,[]):=by
   have:=yM (l:=R.right) (k:=i+1) (by omega)
   push_cast at this
   exact this
  simp (disch:=omega) only [↓wr,seval,wq,ah,ag,ak,aa,ab,af,ai,ae,t0,t5,aO,encI,hsd]
  refine aF.eJ ((NF hW (R.right.drop (i+1)) (by unfold aV; simp; omega) (fun z hz=>by
   have h1:=nM (hrs z (List.mem_of_mem_drop hz))
   unfold ji at h1
   rw[fG hr9]
   unfold cm
   split at h1 <;> omega)).mono ?_)
  rintro r H5 ⟨rfl,rfl⟩
  cases hb:bZ (R.right.drop (i+1)) (au g false) false with
  | false =>
   simp (disch:=omega) only [↓wr,seval,wq,ah,ag,ak,aa,ab,af,ai,ae,t0,t7]
   refine aF.eJ ((Dd hW hshort hedg q y).mono ?_)
   rintro r H6 ⟨rfl,hf6⟩
   rw[hwd]
   simp (disch:=omega) only [↓wr,seval,wq,ah,ag,ak,aa,ab,af,ai,ae,t0,t4,t5,t7,t14,t15,t16]
   exact aQ hm (by omega) ⟨dx a q y,ys,A1,hI.stay hf6,hfA1,fun b c es h=>by rw[hf6 b (by rw[hmp b c es h]; simp)]; exact hmp b c es h,by omega,by rw[hrc,Q9 (fun h=>by rw[hb] at h; simp at h),Sm],hen,s4,by push_cast; exact s3,t0,t4,t5,rfl,t14,t15,by first | rfl | (congr 2)⟩
  | true =>
   have hk2:(aN a)[rW (aN a) ((q:Int),-1 - y)]?=some ((q:Int),-1 - y):=ja (cL.2 ⟨by omega,by rw[show -1 - (-1 - y)=y by omega]; exact s1⟩)
   have hgm:=hI.num _ _ hk2
   have hnlt:=(Rl.1 hk2).1
   rw[Ra ⟨h0,hb⟩] at hrc
   generalize rW (aN a) ((q:Int),-1 - y)=kn at hk2 hgm hnlt hrc
   have hmt:cT Tryz.prog 110=some (116,3):=by kernel_rfl
   have hz:zeroV Tryz.prog 3=some (gi 0):=by kernel_rfl
   simp (disch:=omega) only [↓wr,seval,wq,ah,ag,ak,aa,ab,af,ai,ae,t0,t7,hW]
   refine Db (kv:=dY) (kt:=116) (et:=3) (z:=gi 0) (id:=qn) (c:=cM) (m:=M) (k:=((q:Int),-1 - y)) hmt hz (wU tX) (by first | rfl | simp (disch:=omega) only [↓wr,seval,wq,ah,ag,ak,aa,ab,af,ai,ae]) (by first | rfl | (simp (disch:=omega) only [↓wr,seval,wq,ah,ag,ak,aa,ab,af,ai,ae]; rfl)) hI.mp ?_
   rw[hgm,Rq]
   have hal:=hI.al
   obtain ⟨B1,⟨u,l⟩,B2,rfl,hB1,_⟩:=qH (l:=A1) (i:=kn) (by omega)
   have hRow:=hI.row rfl
   have hui:(bD (B1 ++ (u,l) :: B2)).getD kn []=[u]:=by rw[← hB1]; simp[bD]
   have hli:((B1 ++ (u,l) :: B2).getD kn (V.any,([]:List Nat))).2=l:=by rw[← hB1]; simp
   have hrl:(bD (B1 ++ (u,l) :: B2)).length=(aN a).length:=by rw[bD,Ro]; exact hal
   have hll:l.length≤100000010:=by
    rw[← hli,hfA1 kn hnlt]
    have:=wu (x:=x) (ys:=ys) hfl kn
    omega
   simp (disch:=omega) only [↓wr,seval,wq,ah,ag,ak,aa,ab,af,ai,ae,t0,t4,hW,he,hui]
   refine ⟨hnlt,by omega,?_⟩
   refine Db (kv:=dY) (kt:=116) (et:=3) (z:=gi 0) (id:=qn) (c:=cM) (m:=M) (k:=((p:Int),B)) hmt hz (wU tX) (by first | rfl | simp (disch:=omega) only [↓wr,seval,wq,ah,ag,ak,aa,ab,af,ai,ae]) (by first | rfl | (simp (disch:=omega) only [↓wr,seval,wq,ah,ag,ak,aa,ab,af,ai,ae]; rfl)) hI.mp ?_
   rw[hgx,Rq]
   simp (disch:=omega) only [↓wr,seval,wq,ah,ag,ak,aa,ab,af,ai,ae]
   intro q8 hq8
   simp (disch:=omega) only [↓wr,seval,wq,ah,ag,ak,aa,ab,af,ai,ae,dW]
   refine eR (hRow.fresh hq8) (by simp[aS]) (by unfold aK; simp; omega) (by unfold aK; simp; omega) ?_
   intro u2 H8 o8 l8
   have he8:=o8.is 1 rfl (by rw[hrl]; omega)
   have hqm:∀ b c es,H5 b=.map es c→H8 b=.map es c:=fun b c es h=>l8.map (hRow.fresh hq8).head (b:=b) (c:=c) (es:=es) (by
    simp only[View.set]; rw[Q9 (fun e=>by rw[← e,h] at hq8; simp at hq8)]; exact h)
   have hse:(bD (B1 ++ (u,l) :: B2)).set kn [u2]=bD (B1 ++ (u2,l ++ [x]) :: B2):=by rw[← hB1]; simp[bD]
   have hI9:=hI.O6 rfl (l':=l ++ [x]) (es:=ez l ++ [[gi (x:Int)]]) (by simp) o8 (hqm _ _ _ hI.mp)
   have hmp9:∀ b c es,H b=.map es c→(H8.set e (.arr 1 (bD (B1 ++ (u2,l ++ [x]) :: B2)))) b=.map es c:=fun b c es h=>by
    have h8:=hqm b c es (hmp b c es h)
    simp only[View.set]; rw[Q9 (fun e=>by rw[← e,h8] at he8; simp at he8)]; exact h8
   simp (disch:=omega) only [↓wr,seval,wq,ah,ag,ak,aa,ab,af,ai,ae,t0,t4,t5,t7,t14,t15,t16,he8,hui,o8.head.cells,o8.head.qi,hse]
   refine ⟨hnlt,by omega,?_,?_⟩
   ·rcases hRow.head with ⟨_,kk,h⟩ | ⟨m,h,hm2⟩
    ·rw[show u=.emp kk from h,tf]; trivial
    ·rw[show u=.sl m 0 _ 1 from h,wV]
     intro e
     rw[← e,hW] at hm2; simp at hm2
   ·generalize H8.set e (.arr 1 (bD (B1 ++ (u2,l ++ [x]) :: B2)))=H9 at hI9 hmp9 ⊢
    refine aF.eJ ((Dd (hI9.at hn1).1 hshort hedg q y).mono ?_)
    rintro r H6 ⟨rfl,hf6⟩
    rw[hwd]
    simp (disch:=omega) only [↓wr,seval,wq,ah,ag,ak,aa,ab,af,ai,ae,t0,t4,t5,t7,t14,t15,t16]
    refine aQ hm (by omega) ⟨dx a q y,ys ++ [kn],B1 ++ (u2,l ++ [x]) :: B2,hI9.stay hf6,fun z hz=>?_,fun b c es h=>by rw[hf6 b (by rw[hmp9 b c es h]; simp)]; exact hmp9 b c es h,by rw[R5]; simp; omega,by rw[hrc,RO],hen,s4,by push_cast; exact s3,t0,t4,t5,rfl,t14,t15,by first | rfl | (congr 2)⟩
    rw[Kn]
    show _=iP (jc fA x ys) kn (jc fA x ys kn ++ [x]) z
    by_cases e:z=kn
    ·subst e
     rw[dV,← hfA1 z hz,hli,← hB1]
     simp
    ·rw[kK e,yy (y:=(u,l)) (by rw[hB1]; exact e)]
     exact hfA1 z hz
 ·simp (disch:=omega) only [↓wr,seval,wq,ah,ag,ak,aa,ab,af,ai,ae,t0,t7]
  refine aF.eJ ((Dd hW hshort hedg q y).mono ?_)
  rintro r H6 ⟨rfl,hf6⟩
  rw[hwd]
  simp (disch:=omega) only [↓wr,seval,wq,ah,ag,ak,aa,ab,af,ai,ae,t0,t4,t5,t7,t14,t15,t16]
  exact aQ hm (by omega) ⟨dx a q y,ys,A1,hI.stay hf6,hfA1,fun b c es h=>by rw[hf6 b (by rw[hmp b c es h]; simp)]; exact hmp b c es h,by omega,by rw[hrc,Q9 (fun h=>h0 h.1),Sm],hen,s4,by push_cast; exact s3,t0,t4,t5,rfl,t14,t15,by first | rfl | (congr 2)⟩
section
variable {g:ao} {a:List aP}
theorem AA (hA:bU g a) {k y:Nat} (hk:k < g.rules.length):∀ (l:List Int) (d q:Nat),q < a.length→(⟨k,d⟩:aJ)∈gC g a q→(ax g k).right.drop d=l →
  (y∈mD g a q l↔∃ (j q':Nat) (C:Int),l[j]?=some (-1 - C)∧0≤C∧gS a q (l.take j) q'∧bZ (l.drop (j+1)) (au g false) false=true∧(aN a)[y]?=some ((q':Int),C))
 | [],d,q,hq,hx,hl=>by simp[mD]
 | s :: l,d,q,hq,hx,hl=>by
  have hrt:aI g (k:Int)=(ax g k).right:=by rw[aI,Q9 (by omega)]
  obtain ⟨n1,n2,n3⟩:=nS (g:=g) (r:=k) (d:=d) (s:=s) (l:=l) (by rw[hrt,hl])
  obtain ⟨s1,s2,s3,s4⟩:=hA.step hq hx n1
  have ih:=AA hA hk (y:=y) l (d+1) (dx a q s) s4 (by push_cast; exact s3) (by rw[hrt] at n2; exact n2)
  rw[mD,Ry,ih]
  constructor
  ·rintro (h | ⟨j,q',C,h1,h2,h3,h4,h5⟩)
   ·split at h
    ·rename_i hc
     rw[RU] at h
     subst h
     have e : -1 - (-1 - s)=s:=by omega
     exact ⟨0,q,-1 - s,by simp[e],by omega,.nil,by simpa using hc.2,ja (cL.2 ⟨by omega,by rw[e]; exact s1⟩)⟩
    ·simp at h
   ·exact ⟨j+1,q',C,by simpa using h1,h2,.cons s1 h3,by simpa using h4,h5⟩
  ·rintro ⟨j,q',C,h1,h2,h3,h4,h5⟩
   cases j with
   | zero =>
    left
    simp only[List.take_zero] at h3
    cases h3
    have hs:s = -1 - C:=by simpa using h1
    rw[Ra ⟨by omega,by simpa using h4⟩,RU]
    rw[hs,show -1 - (-1 - C)=C by omega]
    exact (E7 (vg hA) h5).symm
   | succ j =>
    right
    rw[List.take_succ_cons] at h3
    cases h3 with
    | cons _ h3=>exact ⟨j,q',C,by simpa using h1,h2,h3,by simpa using h4,h5⟩
def oc (g:ao) (a:List aP) (x:Nat) (f:Nat→List Nat) (k:Nat):Nat→List Nat:=if (ax g k).left=(cK a x).2 then jc f x (mD g a (cK a x).1.toNat (ax g k).right) else f
def Iu (g:ao) (a:List aP) (f:Nat→List Nat) (x:Nat):Nat→List Nat:=(List.range g.rules.length).foldl (oc g a x) f
def jf (g:ao) (a:List aP) (n:Nat):Nat→List Nat:=(List.range n).foldl (Iu g a) fun _=>[]
theorem Ck {x y z:Nat} : ∀ (n:Nat) (f:Nat→List Nat),z∈(List.range n).foldl (oc g a x) f y↔z∈f y∨(z=x∧∃ k,k < n∧(ax g k).left=(cK a x).2∧y∈mD g a (cK a x).1.toNat (ax g k).right)
 | 0,f=>by simp
 | n+1,f=>by
  have ih:=Ck (x:=x) (y:=y) (z:=z) n f
  rw[Sb,RR,Rx,SD,oc]
  have key:∀ k,(k < n+1∧(ax g k).left=(cK a x).2∧y∈mD g a (cK a x).1.toNat (ax g k).right)↔(k < n∧(ax g k).left=(cK a x).2∧y∈mD g a (cK a x).1.toNat (ax g k).right)∨(k=n∧(ax g k).left=(cK a x).2∧y∈mD g a (cK a x).1.toNat (ax g k).right):=fun k=>by
   constructor
   ·rintro ⟨h1,h2⟩
    rcases Rw k n with q | q
    ·exact .inl ⟨q,h2⟩
    ·exact .inr ⟨by omega,h2⟩
   ·rintro (⟨h1,h2⟩ | ⟨h1,h2⟩)
    ·exact ⟨by omega,h2⟩
    ·exact ⟨by omega,h2⟩
  split
  ·rename_i hc
   rw[BC,ih]
   constructor
   ·rintro ((h | ⟨h,k,h1⟩) | ⟨h,h1⟩)
    ·exact .inl h
    ·exact .inr ⟨h,k,(key k).2 (.inl h1)⟩
    ·exact .inr ⟨h,n,by omega,hc,h1⟩
   ·rintro (h | ⟨h,k,h1⟩)
    ·exact .inl (.inl h)
    ·rcases (key k).1 h1 with h1 | ⟨rfl,_,h1⟩
     ·exact .inl (.inr ⟨h,k,h1⟩)
     ·exact .inr ⟨h,h1⟩
  ·rename_i hc
   rw[ih]
   constructor
   ·rintro (h | ⟨h,k,h1⟩)
    ·exact .inl h
    ·exact .inr ⟨h,k,(key k).2 (.inl h1)⟩
   ·rintro (h | ⟨h,k,h1⟩)
    ·exact .inl h
    ·rcases (key k).1 h1 with h1 | ⟨rfl,h2,_⟩
     ·exact .inr ⟨h,k,h1⟩
     ·exact absurd h2 hc
theorem xV {y z:Nat} : ∀ n:Nat,z∈jf g a n y↔z < n∧∃ k,k < g.rules.length∧(ax g k).left=(cK a z).2∧y∈mD g a (cK a z).1.toNat (ax g k).right
 | 0=>by simp[jf]
 | n+1=>by
  have ih:=xV (y:=y) (z:=z) n
  unfold jf at ih ⊢
  rw[Sb,RR,Rx,SD,Iu,Ck,ih]
  constructor
  ·rintro (⟨h1,h2⟩ | ⟨rfl,h2⟩)
   ·exact ⟨by omega,h2⟩
   ·exact ⟨by omega,h2⟩
  ·rintro ⟨h1,h2⟩
   by_cases e:z=n
   ·subst e; exact .inr ⟨rfl,h2⟩
   ·exact .inl ⟨by omega,h2⟩
theorem sY {x:Nat} {y:Int × Int} (h:(aN a)[x]?=some y):cK a x=y:=by
 rw[cK,Q6,h]; rfl
theorem Gr (hA:bU g a) {x z p:Nat} {B:Int} (hx:(aN a)[x]?=some ((p:Int),B)):z∈jf g a (aN a).length x↔∃ (p' k d:Nat),k < g.rules.length∧(aN a)[z]?=some ((p':Int),(ax g k).left)∧(ax g k).right[d]?=some (-1 - B)∧gS a p' ((ax g k).right.take d) p∧bZ ((ax g k).right.drop (d+1)) (au g false) false=true:=by
 rw[xV]
 constructor
 ·rintro ⟨hz,k,hk,hl,hm⟩
  have hzg:(aN a)[z]?=some (cK a z):=getD_some hz
  obtain ⟨p',hp'⟩:=qa (Re hzg)
  have hzm:=Re hzg
  rw[hp'] at hzm hzg
  obtain ⟨hB0,hE⟩:=cL.1 hzm
  have hpl:=ec hE
  rw[hp'] at hm
  simp only[Rs] at hm
  obtain ⟨j,q',C,h1,h2,h3,h4,h5⟩:=(AA hA hk _ 0 p' hpl (jn hA hpl hB0 hk hl hE) (by rw[SK])).1 hm
  rw[hx] at h5
  simp only[Q8,Rb,Int.natCast_inj] at h5
  obtain ⟨rfl,rfl⟩:=h5
  exact ⟨p',k,j,hk,by rw[hl]; exact hzg,h1,h3,h4⟩
 ·rintro ⟨p',k,d,hk,hz,h1,h2,h3⟩
  have hzl:=(Rl.1 hz).1
  obtain ⟨hB0,hE⟩:=cL.1 (Re hz)
  have hpl:=ec hE
  have hB:=(cL.1 (Re hx)).1
  refine ⟨hzl,k,hk,by rw[sY hz],?_⟩
  rw[sY hz]
  simp only[Rs]
  exact (AA hA hk _ 0 p' hpl (jn hA hpl hB0 hk rfl hE) (by rw[SK])).2 ⟨d,p,B,h1,hB,h2,h3,hx⟩
theorem MH (hA:bU g a) {S1:Nat→BV} (hS:∀ (x p t:Nat) (B:Int),(aN a)[x]?=some ((p:Int),B)→((S1 x).getLsbD t=true↔mg g a p B t)) {x p t:Nat} {B:Int} (hx:(aN a)[x]?=some ((p:Int),B)) :
  kx (jf g a (aN a).length) S1 x t↔rN g a p B t:=by
 constructor
 ·rintro ⟨w,hr,hw⟩
  induction hr generalizing p B with
  | refl=>exact .read ((hS _ _ _ _ hx).1 hw)
  | @step x y w hy hr ih =>
   obtain ⟨p',k,d,h1,h2,h3,h4,h5⟩:=(Gr hA hx).1 hy
   have hE:=(cL.1 (Re h2)).2
   have hB:=(cL.1 (Re hx)).1
   exact .Eh (ih h2 hw) h1 hE hB h3 h4 h5
 ·intro h
  induction h generalizing x with
  | read h=>exact ⟨x,.refl,(hS _ _ _ _ hx).2 h⟩
  | @Eh p p' k d B t hF hk hE hB hd hw hn ih =>
   have hR:g.rules[k]?=some (ax g k):=by unfold ax; exact getD_some hk
   have hz:=ja (cL.2 ⟨(hA.b7.left _ (Re hR)).1,hE⟩)
   obtain ⟨w,k1,k2⟩:=ih hz
   exact ⟨w,.step ((Gr hA hx).2 ⟨p',k,d,hk,hz,hd,hw,hn⟩) k1,k2⟩
end
section
variable {g:ao} {a:List aP}
theorem Ew {q:Nat} : ∀ {l:List Int} {q':Nat},gS a q l q'→jw a q l=q':=fun {l q'} h=>by
 induction h with
 | nil=>rfl
 | cons _ _ ih=>rw[jw]; exact ih
def gY (g:ao) (a:List aP) (n k i:Nat):List Nat:=(List.range n).filter fun x=>decide ((ax g k).left=(cK a x).2∧jw a (cK a x).1.toNat (ax g k).right=i)
theorem rF (hA:bU g a) {k i x:Nat} (hk:k < g.rules.length):x∈gY g a (aN a).length k i↔∃ p:Nat,(aN a)[x]?=some ((p:Int),(ax g k).left)∧gS a p (ax g k).right i:=by
 unfold gY
 simp only[RQ,R3,Rn]
 have hrt:aI g (k:Int)=(ax g k).right:=by rw[aI,Q9 (by omega)]
 constructor
 ·rintro ⟨hx,h1,h2⟩
  have hg:(aN a)[x]?=some (cK a x):=getD_some hx
  have hm:=Re hg
  obtain ⟨p,hp⟩:=qa hm
  rw[hp] at hg hm
  rw[← h1] at hg hm
  obtain ⟨hB0,hE⟩:=cL.1 hm
  have hpl:=ec hE
  obtain ⟨q,q1,q2,q3⟩:=hA.fwd k (ax g k).right 0 p hpl (jn hA hpl hB0 hk rfl hE) ⟨[],by rw[hrt]; simp⟩
  rw[hp] at h2
  simp only[Rs] at h2
  rw[Ew q2] at h2
  subst h2
  exact ⟨p,hg,q2⟩
 ·rintro ⟨p,h1,h2⟩
  refine ⟨(Rl.1 h1).1,by rw[sY h1],?_⟩
  rw[sY h1]
  simp only[Rs]
  exact Ew h2
def kN (S:Nat→BV) (l:List Nat):BV:=l.foldl (fun b x=>b ||| S x) 0
theorem Hg {S:Nat→BV} {t:Nat} : ∀ (l:List Nat) (b:BV),(l.foldl (fun b x=>b ||| S x) b).getLsbD t=true↔b.getLsbD t=true∨∃ x∈l,(S x).getLsbD t=true
 | [],b=>by simp
 | x :: l,b=>by
  rw[Rx,Hg l,R4,Se]
  simp only[Rm,exists_eq_or_imp]
  exact or_assoc
def iy (g:ao) (a:List aP) (S:Nat→BV) (i k:Nat):Option eF:=if gY g a (aN a).length k i=[] then none else some ⟨k,kN S (gY g a (aN a).length k i)⟩
def xh (g:ao) (a:List aP) (S:Nat→BV) (i:Nat):List eF:=(List.range g.rules.length).filterMap (iy g a S i)
theorem BF:∀ {l m:List eF},l.Pairwise (fun x y=>x.aD < y.aD)→m.Pairwise (fun x y=>x.aD < y.aD)→(∀ x,x∈l↔x∈m)→l=m
 | [],[],_,_,_=>rfl
 | [],y :: m,_,_,h=>by have:=(h y).2 (by simp); simp at this
 | x :: l,[],_,_,h=>by have:=(h x).1 (by simp); simp at this
 | x :: l,y :: m,h1,h2,h=>by
  rw[Sv] at h1 h2
  have e:x=y:=by
   rcases Rm.1 ((h x).1 (by simp)) with e | hx
   ·exact e
   ·rcases Rm.1 ((h y).2 (by simp)) with e | hy
    ·exact e.symm
    ·have:=h1.1 y hy
     have:=h2.1 x hx
     omega
  subst e
  rw[BF h1.2 h2.2 fun z=>?_]
  constructor
  ·intro hz
   rcases Rm.1 ((h z).1 (by simp[hz])) with e | hz2
   ·have:=h1.1 z hz; rw[e] at this; omega
   ·exact hz2
  ·intro hz
   rcases Rm.1 ((h z).2 (by simp[hz])) with e | hz2
   ·have:=h2.1 z hz; rw[e] at this; omega
   ·exact hz2
theorem MU {x:aJ} (hx:dc g x) (hn:(bO g x).2=false) (h0:0≤x.aD):∃ k:Nat,k < g.rules.length∧x=⟨k,((ax g k).right.length:Nat)⟩:=by
 obtain ⟨k,hk⟩:∃ k:Nat,x.aD=k:=⟨x.aD.toNat,by omega⟩
 have hkl:k < g.rules.length:=by have:=hx.1; omega
 refine ⟨k,hkl,?_⟩
 have hrt:aI g (k:Int)=(ax g k).right:=by rw[aI,Q9 (by omega)]
 unfold bO at hn
 rw[hk,hrt] at hn
 split at hn
 ·rename_i h
  cases x
  simp only at hk h
  rw[hk,h]
 ·simp at hn
theorem Nz (hA:bU g a) (hr:isRed g=true) {S:Nat→BV} (hS:∀ (x p t:Nat) (B:Int),(aN a)[x]?=some ((p:Int),B)→((S x).getLsbD t=true↔rN g a p B t)) {i:Nat} (hi:i < a.length):xh g a S i=lg g a i:=by
 have hrt:∀ k:Nat,aI g (k:Int)=(ax g k).right:=fun k=>by rw[aI,Q9 (by omega)]
 have hnx:∀ k:Nat,bO g ⟨k,((ax g k).right.length:Nat)⟩=(0,false):=fun k=>by
  unfold bO; simp only[hrt,if_true]
 have hcl:(fj g a).getD i []=gC g a i:=by
  unfold fj gC
  simp[Q6,Q7 hi]
 have hne:∀ k:Nat,k < g.rules.length→(gY g a (aN a).length k i≠[]↔(⟨k,((ax g k).right.length:Nat)⟩:aJ)∈gC g a i):=fun k hk=>by
  have hR:g.rules[k]?=some (ax g k):=by unfold ax; exact getD_some hk
  rw[PD hA hi hk]
  constructor
  ·intro h
   obtain ⟨x,hx⟩:=List.exists_mem_of_ne_nil _ h
   obtain ⟨p,h1,h2⟩:=(rF hA hk).1 hx
   exact ⟨p,h2,(cL.1 (Re h1)).2⟩
  ·rintro ⟨p,h1,h2⟩
   have hz:=ja (cL.2 ⟨(hA.b7.left _ (Re hR)).1,h2⟩)
   exact List.ne_nil_of_mem ((rF hA hk).2 ⟨p,hz,h1⟩)
 have hset:∀ k:Nat,k < g.rules.length→kN S (gY g a (aN a).length k i)=Bn g a i ⟨k,((ax g k).right.length:Nat)⟩:=fun k hk=>by
  have hR:g.rules[k]?=some (ax g k):=by unfold ax; exact getD_some hk
  refine KD fun t ht=>?_
  rw[Si,kN,Hg,Bn,yh _ 32 t (Ri _)]
  simp only[Rn]
  rw[JP hA hr hk]
  constructor
  ·rintro (h | ⟨x,hx,hb⟩)
   ·simp at h
   ·obtain ⟨p,h1,h2⟩:=(rF hA hk).1 hx
    exact ⟨ht,p,h2,(cL.1 (Re h1)).2,(hS x p t _ h1).1 hb⟩
  ·rintro ⟨_,p,q1,q2,q3⟩
   have hz:=ja (cL.2 ⟨(hA.b7.left _ (Re hR)).1,q2⟩)
   exact .inr ⟨_,(rF hA hk).2 ⟨p,hz,q1⟩,(hS _ _ _ _ hz).2 q3⟩
 refine BF ?_ ?_ fun x=>?_
 ·rw[xh,List.pairwise_filterMap]
  refine List.pairwise_lt_range.imp fun {k k'} hlt b hb b' hb'=>?_
  unfold iy at hb hb'
  split at hb
  ·simp at hb
  ·split at hb'
   ·simp at hb'
   ·simp only[Q8] at hb hb'
    rw[← hb,← hb']
    simp only
    omega
 ·rw[lg,hcl,List.pairwise_filterMap]
  refine (ki g _).imp fun {x y} hxy b hb b' hb'=>?_
  split at hb
  ·rename_i h1
   split at hb'
   ·rename_i h2
    simp only[Q8] at hb hb'
    rw[← hb,← hb']
    simp only
    rw[eu] at hxy
    rcases hxy with h | ⟨h,h3⟩
    ·exact h
    ·exfalso
     have e:∀ z:aJ,(bO g z).2=false→z.dot=(aI g z.aD).length:=fun z hz=>by
      unfold bO at hz
      split at hz
      ·assumption
      ·simp at hz
     have e1:=e x h1.1
     have e2:=e y h2.1
     rw[h] at e1
     omega
   ·simp at hb'
  ·simp at hb
 ·rw[xh,lg,hcl,Sf,Sf]
  constructor
  ·rintro ⟨k,hk,h⟩
   have hk:=R3.1 hk
   unfold iy at h
   split at h
   ·simp at h
   ·rename_i hb
    refine ⟨_,(hne k hk).1 hb,?_⟩
    rw[Ra ⟨by rw[hnx],by simp only; omega⟩,← hset k hk]
    exact h
  ·rintro ⟨y,hy,h⟩
   split at h
   ·rename_i hc
    obtain ⟨k,hk,rfl⟩:=MU (hA.has hi hy) hc.1 hc.2
    refine ⟨k,R3.2 hk,?_⟩
    unfold iy
    rw[Q9 ((hne k hk).2 hy),hset k hk]
    exact h
   ·simp at h
end
theorem tA {A:bF (Int × Int)} {k:Int × Int} {v:V} (h:getM A k=some v):∃ A1 A2 b,A=A1 ++ (k,v,b) :: A2∧∀ v' c,bu k v' c A=A1 ++ (k,v',b) :: A2:=by
 induction A with
 | nil=>simp[getM] at h
 | cons x A ih =>
  unfold getM at h ih
  rw[SZ] at h
  by_cases e:k=x.1
  ·simp only[e,SP,Rk,Q8] at h
   refine ⟨[],A,x.2.2,by rw[e,← h]; rfl,fun v' c=>?_⟩
   rw[bu,e,SP,Ra rfl]; rfl
  ·rw[beq_eq_false_iff_ne.2 e] at h
   obtain ⟨A1,A2,b,rfl,h3⟩:=ih h
   refine ⟨x :: A1,A2,b,rfl,fun v' c=>?_⟩
   rw[bu,beq_eq_false_iff_ne.2 e,h3]; rfl
theorem qu {A:bF (Int × Int)} {k:Int × Int} (h:getM A k=none) (v:V) (c:Nat):bu k v c A=A ++ [(k,v,c)]:=by
 induction A with
 | nil=>rfl
 | cons x A ih =>
  unfold getM at h ih
  rw[SZ] at h
  by_cases e:k=x.1
  ·simp[e] at h
  ·rw[beq_eq_false_iff_ne.2 e] at h
   rw[bu,beq_eq_false_iff_ne.2 e,ih h]; rfl
theorem ri {A:bF (Int × Int)} {k:Int × Int} : getM A k=none↔k ∉ A.map (·.1):=by
 induction A with
 | nil=>simp[getM]
 | cons x A ih =>
  unfold getM at ih ⊢
  rw[SZ]
  by_cases h:k=x.1
  ·simp[h]
  ·simp only[beq_eq_false_iff_ne.2 h,RE,Rm,not_or]
   rw[ih]
   simp[h]
def hX (fB:Int × Int→List Nat) (A:bF (Int × Int)):List cb:=A.map fun x=>(x.2.1,1,ez (fB x.1))
structure nY (A:bF (Int × Int)) (fB:Int × Int→List Nat):Prop where
 nd:(A.map (·.1)).Nodup
 all:∀ k,fB k≠[]→getM A k≠none
def Gf (fB:Int × Int→List Nat) (k:Int × Int) (l:List Nat):Int × Int→List Nat:=fun z=>if z=k then l else fB z
theorem KF {fB:Int × Int→List Nat} {A:bF (Int × Int)} {k:Int × Int} {l:List Nat} (h:k ∉ A.map (·.1)):hX (Gf fB k l) A=hX fB A:=by
 unfold hX
 refine Tp fun x hx=>?_
 have:x.1≠k:=fun e=>h (e ▸ List.mem_map_of_mem hx)
 simp[Gf,this]
theorem nY.entry {A:bF (Int × Int)} {fB:Int × Int→List Nat} (h:nY A fB) {H:View} {Z:List cb} (ho:bk H (Z ++ hX fB A)) (k:Int × Int) (c:Nat) :
  ∃ P Q b,bu k ((getM A k).getD (.emp 1)) c A=P ++ (k,(getM A k).getD (.emp 1),b) :: Q∧(∀ v c',bu k v c' (bu k ((getM A k).getD (.emp 1)) c A)=P ++ (k,v,b) :: Q)∧bk H (Z ++ (hX fB P ++ ((getM A k).getD (.emp 1),1,ez (fB k)) :: hX fB Q))∧k ∉ P.map (·.1)∧k ∉ Q.map (·.1)∧nY (P ++ (k,(getM A k).getD (.emp 1),b) :: Q) fB:=by
 cases hg:getM A k with
 | some v =>
  obtain ⟨P,Q,b,rfl,hp⟩:=tA hg
  have hnd:=h.nd
  rw[RI,RE,RV] at hnd
  have h1:k ∉ Q.map (·.1):=(RW.1 hnd.2.1).1
  have h2:k ∉ P.map (·.1):=fun hm=>hnd.2.2 k hm k (by simp) rfl
  rw[Rq]
  refine ⟨P,Q,b,hp v c,fun v' c'=>?_,?_,h2,h1,h⟩
  ·rw[hp v c]
   have hg2:getM (P ++ (k,v,b) :: Q) k=some v:=hg
   obtain ⟨P',Q',b',e,hp'⟩:=tA hg2
   rw[hp]
  ·have:=ho
   rw[hX,RI,RE] at this
   exact this
 | none =>
  have hn:=ri.1 hg
  have hf:fB k=[]:=RY fun hne=>h.all k hne hg
  rw[Option.getD_none,qu hg]
  refine ⟨A,[],c,rfl,fun v' c'=>?_,?_,hn,by simp,?_,fun k' hk'=>?_⟩
  ·have hg2:getM (A ++ [(k,V.emp 1,c)]) k=some (.emp 1):=by
    rw[← qu hg,nO,SP,Ra rfl]
   obtain ⟨P',Q',b',e,hp'⟩:=tA hg2
   rw[← qu hg (.emp 1) c]
   clear hp' e hg2
   induction A with
   | nil=>simp[bu]
   | cons x A ih =>
    have hx:k≠x.1:=fun e=>hn (by simp[e])
    have hg3:getM A k=none:=ri.2 fun hm=>hn (by simp[hm])
    rw[bu,beq_eq_false_iff_ne.2 hx]
    simp only[Ru,if_false]
    rw[bu,beq_eq_false_iff_ne.2 hx]
    simp only[Ru,if_false,RM,Tu,true_and]
    rw[qu hg3]
    have:∀ B:bF (Int × Int),getM B k=none→bu k v' c' (B ++ [(k,V.emp 1,c)])=B ++ [(k,v',c)]:=by
     intro B
     induction B with
     | nil=>intro _; simp[bu]
     | cons y B ihB =>
      intro hB
      have hy:=ri.1 hB
      have hyk:k≠y.1:=fun e=>hy (by simp[e])
      rw[RM,bu,beq_eq_false_iff_ne.2 hyk]
      simp only[Ru,if_false,RM,Tu,true_and]
      exact ihB (ri.2 fun hm=>hy (by simp[hm]))
    exact this A hg3
  ·rw[hf]
   have h3:=ho.emp (k:=1) (sz:=1)
   have e:Z ++ (hX fB A ++ (V.emp 1,1,ez []) :: hX fB [])=(Z ++ hX fB A) ++ [(V.emp 1,1,[])]:=by simp[hX]
   rw[e]
   exact h3.perm (List.perm_append_comm (l₁:=[_]))
  ·rw[RI,RV]
   refine ⟨h.nd,by simp,fun x hx y hy e=>?_⟩
   simp at hy
   exact hn (by rw[← hy,← e]; exact hx)
  ·rw[← qu hg,nO]
   split
   ·simp
   ·exact h.all k' hk'
def r0:SC :=
 .seq (an [bz 57 .lss 56 55]) <|
 .seq (.cond (.tmp 57) (.skip) (.exit 2)) <|
 .seq (.block 3 (.seq (an [aj 58 56,aY 59 3 54 56,bM 60 3 59,((some 11),.op (.alloc [(.val (.int .i64 0)),(.emp 1),(.val (.int .i64 0))])),aj 10 58,(none,.op (.store 3 (.tmp 11) (.tmp 60)))]) <|
 .seq (an [aC 61 0 11,ay 62 61,aC 63 1 9,ay 64 63,bz 65 .eql 62 64]) <|
 .cond (.tmp 65) (.seq (an [aj 66 6,bM 67 2 9,bM 68 3 11,bJ 69 74 [66,67,68],aj 70 10,((some 71),.op (.build [(.val (.int .i64 0)),(.val (.int .i64 0))] [(0,1,(.tmp 69)),(1,1,(.tmp 70))])),((some 12),.op (.alloc [(.val (.int .i64 0)),(.val (.int .i64 0))])),(none,.op (.store 2 (.tmp 12) (.tmp 71)))]) <|
 an [aj 72 7,bM 73 2 12,aj 75 8,((some 76),.op (.c4 1 1 [(.val (.int .i64 0))] [(0,(.tmp 75))])),((some 77),.op (.old (.mapEntry 114 (.tmp 72) (.tmp 73)) 0)),kH 74 0 77,((some 78),.op (.app 1 8 (.tmp 74) (.tmp 76))),kH 79 1 77,(none,.op (.old (.entryStore 114 (.tmp 72) (.tmp 79) (.tmp 78)) 0))]) (.skip))) <|
 an [aR 80 .add 56 1,aj 56 80]
def r5:SC :=
 .seq (an [bz 49 .lss 48 47]) <|
 .seq (.cond (.tmp 49) (.skip) (.exit 0)) <|
 .seq (.block 1 (.seq (an [aj 50 48,aY 51 2 46 48,bM 52 2 51,((some 9),.op (.alloc [(.val (.int .i64 0)),(.val (.int .i64 0))])),aj 8 50,(none,.op (.store 2 (.tmp 9) (.tmp 52)))]) <|
 .seq (an [aC 53 2 1,ay 54 53,bj 55 54,bA 56 0]) <|
 .block 2 (.loop r0))) <|
 an [aR 81 .add 48 1,aj 48 81]
def rY:SC :=
 .seq (an [bz 111 .lss 110 109]) <|
 .seq (.cond (.tmp 111) (.skip) (.exit 8)) <|
 .seq (.block 9 (.seq (an [aY 112 1 108 110,ay 113 112,aj 19 113]) <|
 an [aC 114 1 17,ay 115 114,aj 116 6,fp 117 116,aC 118 8 117,ay 119 118,aj 120 19,aY 121 1 119 120,ay 122 121,bz 123 .or 115 122,aC 124 1 17,(none,.op (.store 1 (.tmp 124) (.tmp 123)))])) <|
 an [aR 125 .add 110 1,aj 110 125]
def rH:SC :=
 .seq (an [bz 96 .lss 95 94]) <|
 .seq (.cond (.tmp 96) (.skip) (.exit 6)) <|
 .seq (.block 7 (.seq (an [aj 97 95,aj 15 97]) <|
 .seq (an [aj 98 7,aj 99 14,aj 100 15,((some 101),.op (.build [(.val (.int .i64 0)),(.val (.int .i64 0))] [(0,1,(.tmp 99)),(1,1,(.tmp 100))])),((some 102),.op (.old (.lookup 114 (.tmp 98) (.tmp 101) false) 43)),aj 16 102]) <|
 .seq (.seq (an [aj 103 16,bj 104 103,aR 105 .eql 104 0]) <|
 .cond (.tmp 105) (.exit 7) (.skip)) <|
 .seq (an [aj 106 15,((some 107),.op (.build [(.val (.int .i64 0)),(.val (.int .u32 0))] [(0,1,(.tmp 106))])),((some 17),.op (.alloc [(.val (.int .i64 0)),(.val (.int .u32 0))])),(none,.op (.store 2 (.tmp 17) (.tmp 107)))]) <|
 .seq (.seq (an [aj 108 16,bj 109 108,bA 110 0]) <|
 .block 8 (.loop rY)) <|
 an [aj 126 13,aj 127 14,aj 128 13,aj 129 14,aY 130 1 128 129,ay 131 130,bM 132 2 17,((some 133),.op (.c4 1 2 [(.val (.int .i64 0)),(.val (.int .u32 0))] [(0,(.tmp 132))])),((some 134),.op (.app 2 16 (.tmp 131) (.tmp 133))),aY 135 1 126 127,(none,.op (.store 1 (.tmp 135) (.tmp 134)))])) <|
 an [aR 136 .add 95 1,aj 95 136]
def xF:SC :=
 .seq (an [bz 90 .lss 89 88]) <|
 .seq (.cond (.tmp 90) (.skip) (.exit 4)) <|
 .seq (.block 5 (.seq (an [aj 91 89,aj 14 91]) <|
 .seq (an [aC 92 2 1,ay 93 92,bj 94 93,bA 95 0]) <|
 .block 6 (.loop rH))) <|
 an [aR 137 .add 89 1,aj 89 137]
def CJ:SF:=⟨.seq (an [dN 1 0,((some 2),.op (.bN (.val (.emp 1)))),bA 3 0]) <|
 .seq (an [bM 21 4 1,bJ 22 24 [21],aj 20 22,kH 23 0 20,kH 24 1 20,aj 4 23,aj 5 24]) <|
 .seq (.seq (an [aj 25 5,aR 26 .neq 25 0]) <|
 .cond (.tmp 26) (.seq (an [aj 27 5,((some 2),.op (.bN (.val (.emp 1)))),aj 3 27]) <|
 .ret) (.skip)) <|
 .seq (an [bM 28 4 1,aj 29 4,bJ 30 72 [28,29],aj 6 30]) <|
 .seq (an [aj 31 6,bJ 32 73 [31]]) <|
 .seq (an [aj 33 6,aj 34 6,fp 35 34,aC 36 7 35,ay 37 36,bj 38 37,((some 39),.op (.make 1 24 [(.emp 1)] (.tmp 38) (.tmp 38))),fp 40 33,aC 41 9 40,(none,.op (.store 1 (.tmp 41) (.tmp 39)))]) <|
 .seq (an [((some 42),.op (.mJ)),aj 7 42]) <|
 .seq (.seq (an [aj 43 6,fp 44 43,aC 45 7 44,ay 46 45,bj 47 46,bA 48 0]) <|
 .block 0 (.loop r5)) <|
 .seq (an [aj 82 6,bJ 83 75 [82]]) <|
 .seq (an [aj 84 4,bj 85 84,((some 86),.op (.make 1 24 [(.emp 1)] (.tmp 85) (.tmp 85))),aj 13 86]) <|
 .seq (.seq (an [aj 87 4,bj 88 87,bA 89 0]) <|
 .block 4 (.loop xF)) <|
 .seq (an [aj 138 13,aj 2 138,bA 3 0]) <|
 .ret,
 [.tmp 2,.tmp 3],139⟩
theorem Ez:aU Tryz.prog 33 [1]=some CJ:=by kernel_rfl
theorem HH:Nc Tryz.prog 119 :=
 ⟨⟨⟨ "state",3,0,false,"","gerund/look",0⟩,⟨ "rule",3,1,false,"","gerund/look",8⟩,by kernel_rfl,by decide,by decide,Tryz.underlying3,Tryz.underlying3,rfl,rfl⟩,by kernel_rfl⟩
def bB (g:ao) (a:List aP) (x i:Nat) (key:Int × Int):List Nat :=
 if 0≤key.1∧0≤key.2∧key.2 < g.rules.length then gY g a x key.2.toNat key.1.toNat ++ (if key.2 < i∧(ax g key.2).left=(cK a x).2∧jw a (cK a x).1.toNat (ax g key.2).right=key.1.toNat then [x] else []) else []
theorem OR (g:ao) (a:List aP):bB g a 0 0=fun _=>[]:=by
 funext key
 unfold bB
 split
 ·rename_i h
  rw[Q9 (fun h2=>by omega)]
  simp[gY]
 ·rfl
theorem HA (g:ao) (a:List aP) (x:Nat):bB g a x g.rules.length=bB g a (x+1) 0:=by
 funext key
 unfold bB
 split
 ·rename_i h
  obtain ⟨k,hk⟩:∃ k:Nat,key.2=k:=⟨key.2.toNat,by omega⟩
  have hz:¬ key.2 < ((0:Nat):Int):=by omega
  simp only[hz,false_and,if_false,SM]
  unfold gY
  rw[Sb,Sw]
  congr 1
  rw[hk,Rs]
  by_cases hc:(ax g (k:Int)).left=(cK a x).2∧jw a (cK a x).1.toNat (ax g (k:Int)).right=key.1.toNat
  ·rw[Ra ⟨by omega,hc.1,hc.2⟩]
   rw[List.filter_cons_of_pos (by simp only[Rn]; exact hc)]
   rfl
  ·rw[Q9 (fun h2=>hc ⟨h2.2.1,h2.2.2⟩)]
   symm
   rw[List.filter_cons_of_neg (by simpa using fun h1 h2=>hc ⟨h1,h2⟩)]
   rfl
 ·rfl
theorem Hm (g:ao) (a:List aP) (x i:Nat) (h:¬ (ax g i).left=(cK a x).2):bB g a x (i+1)=bB g a x i:=by
 funext key
 unfold bB
 split
 ·rename_i hk
  congr 1
  by_cases e:key.2=i
  ·rw[Q9 (fun h2=>h (by rw[← e]; exact h2.2.1)),Q9 (fun h2=>by omega)]
  ·by_cases hc:key.2 < i∧(ax g key.2).left=(cK a x).2∧jw a (cK a x).1.toNat (ax g key.2).right=key.1.toNat
   ·rw[Ra hc,Ra ⟨by push_cast; omega,hc.2⟩]
   ·rw[Q9 hc,Q9 (fun h2=>hc ⟨by have:=h2.1; push_cast at this; omega,h2.2⟩)]
 ·rfl
theorem O4 (g:ao) (a:List aP) (x i:Nat) (hi:i < g.rules.length) (h:(ax g i).left=(cK a x).2):bB g a x (i+1)=Gf (bB g a x i) ((jw a (cK a x).1.toNat (ax g i).right:Int),(i:Int)) (bB g a x i ((jw a (cK a x).1.toNat (ax g i).right:Int),(i:Int)) ++ [x]):=by
 funext key
 unfold Gf
 by_cases e:key=((jw a (cK a x).1.toNat (ax g i).right:Int),(i:Int))
 ·rw[Ra e,e]
  unfold bB
  simp only
  rw[Ra ⟨by omega,by omega,by omega⟩,Ra ⟨by push_cast; omega,h,by simp⟩,Ra ⟨by omega,by omega,by omega⟩,Q9 (fun h2=>by omega),SM]
 ·rw[Q9 e]
  unfold bB
  split
  ·rename_i hk
   congr 1
   by_cases hc:key.2 < i∧(ax g key.2).left=(cK a x).2∧jw a (cK a x).1.toNat (ax g key.2).right=key.1.toNat
   ·rw[Ra hc,Ra ⟨by push_cast; omega,hc.2⟩]
   ·rw[Q9 hc,Q9]
    rintro ⟨h1,h2,h3⟩
    push_cast at h1
    by_cases e2:key.2=i
    ·apply e
     rw[e2] at h3
     exact Prod.ext (by simp only; omega) (by simp only; exact e2)
    ·exact hc ⟨by omega,h2,h3⟩
  ·rfl
theorem vw {g:ao} {a:List aP} {x c:Nat} (hr:∀ k:Nat,k < g.rules.length→(ax g k).right.length≤6):∀ (n:Nat) {f:Nat→List Nat},n≤g.rules.length→(∀ z,(f z).length≤c)→∀ z,((List.range n).foldl (oc g a x) f z).length≤c+6 * n
 | 0,f,_,h,z=>by simpa using h z
 | n+1,f,hn,h,z=>by
  have ih:=vw (a:=a) (x:=x) hr n (f:=f) (by omega) h
  rw[Sb,RR,Rx,SD,oc]
  split
  ·have h1:=wu (x:=x) (ys:=mD g a (cK a x).1.toNat (ax g n).right) ih z
   have h2:=GL g a (ax g n).right (cK a x).1.toNat
   have:=hr n (by omega)
   omega
  ·have:=ih z; omega
set_option maxHeartbeats 16000000 in
theorem MY {g:ao} {a:List aP} (hA:bU g a) (hr9:bE g=true) (ha:a.length≤300) {W qn cM bq q1:Nat} {M:bF (Int × Int)} {uw:V} {s e:Nat} {Sl:List BV} {x p:Nat} {B:Int} (hx:(aN a)[x]?=some ((p:Int),B)) {f0:Nat→List Nat} {c0:Nat} (hf0:∀ z,(f0 z).length≤c0) (hc0:c0≤50000000) (hqb:qn≠bq)
  {T:Env} {H:View} {Q:Exit→Env→View→Prop} {v:bX (T,H,Q)}
  (hJ:∃ (A:List (V × List Nat)) (c2:Nat) (M2:bF (Int × Int)),cw g a H W qn cM M uw s e (aN a) Sl A ((.sl q1 0 1 2,2,[[gi p,gi B]]) :: hX (bB g a x 0) M2)∧(∀ z,z < (aN a).length→(A.getD z (.any,[])).2=f0 z)∧H bq=.map (bw dY M2) c2∧fH M2 c2∧nY M2 (bB g a x 0))
  (ht:T 1=.aL (aw g) 0∧T 4=bS a∧T 6=.ptr W 0 0∧T 7=.mp bq∧T 8=gi x∧T 9=.ptr q1 0 0∧T 46=uw∧T 47=gi (aN a).length∧T 48=gi x∧T 54=.aH (g.rules.map aO)∧T 55=gi g.rules.length∧T 56=gi 0)
  (hQ:∀ (T':Env) (H':View),(∃ (A:List (V × List Nat)) (c2:Nat) (M2:bF (Int × Int)),cw g a H' W qn cM M uw s e (aN a) Sl A ((.sl q1 0 1 2,2,[[gi p,gi B]]) :: hX (bB g a x g.rules.length) M2)∧(∀ z,z < (aN a).length→(A.getD z (.any,[])).2=(List.range g.rules.length).foldl (oc g a x) f0 z)∧H' bq=.map (bw dY M2) c2∧fH M2 c2∧nY M2 (bB g a x g.rules.length)) →
   T' 1=.aL (aw g) 0→T' 4=bS a→T' 6=.ptr W 0 0→T' 7=.mp bq→T' 46=uw→T' 47=gi (aN a).length→T' 48=gi x→Q (.exit 2) T' H'):bg Tryz.prog r0 T H Q v:=by
 have hn1:=nJ hA
 have hnl:(aN a).length≤40 * a.length:=ko hA.ok.aX a.length
 have hxl:=(Rl.1 hx).1
 have hxw:=sY hx
 obtain ⟨hB0,hE⟩:=cL.1 (Re hx)
 have hru:=hA.b7.rules
 have hr6:∀ k:Nat,k < g.rules.length→(ax g k).right.length≤6:=fun k hk=>hA.b7.right _ (Re (show g.rules[k]?=some (ax g k) by unfold ax; exact getD_some hk))
 obtain ⟨t1,t4,t6,t7,t8,t9,t46,t47,t48,t54,t55,t56⟩:=ht
 refine bg.up g.rules.length (fun i T H'=>(∃ (A:List (V × List Nat)) (c2:Nat) (M2:bF (Int × Int)),cw g a H' W qn cM M uw s e (aN a) Sl A ((.sl q1 0 1 2,2,[[gi p,gi B]]) :: hX (bB g a x i) M2)∧(∀ z,z < (aN a).length→(A.getD z (.any,[])).2=(List.range i).foldl (oc g a x) f0 z)∧H' bq=.map (bw dY M2) c2∧fH M2 c2∧nY M2 (bB g a x i)) ∧
  T 1=.aL (aw g) 0∧T 4=bS a∧T 6=.ptr W 0 0∧T 7=.mp bq∧T 8=gi x∧T 9=.ptr q1 0 0∧T 46=uw∧T 47=gi (aN a).length∧T 48=gi x∧T 54=.aH (g.rules.map aO)∧T 55=gi g.rules.length∧T 56=gi i) ⟨hJ,t1,t4,t6,t7,t8,t9,t46,t47,t48,t54,t55,t56⟩ ?_
 clear hJ t1 t4 t6 t7 t8 t9 t46 t47 t48 t54 t55 t56
 rintro i k T H1 hk ⟨⟨A,c2,M2,hI,hfA,hmb,hbo,hBk⟩,t1,t4,t6,t7,t8,t9,t46,t47,t48,t54,t55,t56⟩
 simp (disch:=omega) only [↓wr,seval,wq,ah,ag,ak,aa,ab,af,ai,ae,r0,t54,t55,t56]
 refine aq.dec (fun hc=>?_) (fun hc=>?_)
 rotate_left
 ·have hi:i=g.rules.length:=by omega
  subst hi
  simp (disch:=omega) only [↓wr,seval,wq,ah,ag,ak,aa,ab,af,ai,ae]
  exact hQ _ _ ⟨A,c2,M2,hI,hfA,hmb,hbo,hBk⟩ t1 t4 t6 t7 t46 t47 t48
 have hil:i < g.rules.length:=by omega
 have hR:g.rules[i]?=some (ax g i):=by unfold ax; exact getD_some hil
 have hq1:H1 q1=.arr 2 [[gi (p:Int),gi B]]:=by
  have:=hI.own.1 (.sl q1 0 1 2,2,[[gi (p:Int),gi B]]) (by simp)
  rcases this with ⟨h,_⟩ | ⟨m,h1,h2⟩
  ·simp at h
  ·simp only[V.sl.injEq] at h1
   rw[h1.1]; exact h2
 simp (disch:=omega) only [↓wr,seval,wq,ah,ag,ak,aa,ab,af,ai,ae,t1,t6,t7,t8,t9,t54,t55,t56,Rc,hR,Rk,aO]
 intro q2 hq2
 have hI2:=hI.fresh hq2 (o:=.arr 3 [[gi (ax g i).left,encI (ax g i).right,gi (ax g i).prec]])
 have hmb2:(H1.set q2 (.arr 3 [[gi (ax g i).left,encI (ax g i).right,gi (ax g i).prec]])) bq=.map (bw dY M2) c2:=by
  simp only[View.set]; rw[Q9 (fun e=>by rw[← e,hmb] at hq2; simp at hq2)]; exact hmb
 have hq12:q1≠q2:=fun e=>by rw[← e,hq1] at hq2; simp at hq2
 have hkey:(cK a x).2=B∧(cK a x).1.toNat=p:=by rw[hxw]; simp
 simp (disch:=omega) only [↓wr,seval,wq,ah,ag,ak,aa,ab,af,ai,ae,t9,hq12,hq1,encI]
 refine aq.eq (fun hlB=>?_) (fun hlB=>?_)
 rotate_left
 ·simp (disch:=omega) only [↓wr,seval,wq,ah,ag,ak,aa,ab,af,ai,ae,t1,t4,t6,t7,t8,t9,t46,t47,t48,t54,t55,t56]
  rw[set_set]
  have hskip:¬ (ax g i).left=(cK a x).2:=by rw[hkey.1]; exact hlB
  refine aQ hk (by omega) ⟨⟨A,c2,M2,by rw[Hm g a x i hskip]; exact hI2,fun z hz=>?_,hmb2,hbo,by rw[Hm g a x i hskip]; exact hBk⟩,t1,t4,t6,t7,t8,t9,t46,t47,t48,t54,t55,by first | rfl | (congr 2)⟩
  rw[Sb,RR,Rx,SD,oc,Q9 hskip]
  exact hfA z hz
 have hq12':(H1.set q2 (.arr 3 [[gi (ax g i).left,encI (ax g i).right,gi (ax g i).prec]])) q1=.arr 2 [[gi (p:Int),gi B]]:=by
  simp only[View.set]; rw[Q9 hq12]; exact hq1
 rw[set_set]
 have hq22:(H1.set q2 (.arr 3 [[gi (ax g i).left,encI (ax g i).right,gi (ax g i).prec]])) q2=.arr 3 [[gi (ax g i).left,encI (ax g i).right,gi (ax g i).prec]]:=by simp[View.set]
 have e3:(H1.set q2 (.arr 3 [[gi (ax g i).left,.aH ((ax g i).right.map fun x=>[gi x]),gi (ax g i).prec]]))=H1.set q2 (.arr 3 [[gi (ax g i).left,encI (ax g i).right,gi (ax g i).prec]]):=rfl
 try rw[e3]
 generalize H1.set q2 (.arr 3 [[gi (ax g i).left,encI (ax g i).right,gi (ax g i).prec]])=H2 at hI2 hmb2 hq12' hq22 ⊢
 clear hI hmb hq1 hq2
 simp (disch:=omega) only [↓wr,seval,wq,ah,ag,ak,aa,ab,af,ai,ae,t6,t9,hq12',hq22]
 have hlen2:=vw (a:=a) (x:=x) hr6 i (f:=f0) (by omega) hf0
 have hrch:=Mo hA hr9 ha hI2 (fA:=(List.range i).foldl (oc g a x) f0) (c:=c0+6 * i) hfA hlen2 (by omega) hx hil hlB
 simp only[aO] at hrch
 refine aF.eJ (hrch.mono ?_)
 rintro r H5 ⟨rfl,⟨A',hI5,hfA5⟩,hmaps⟩
 have hmb5:=hmaps _ _ _ hmb2
 generalize hEn:jw a p (ax g i).right=En
 simp (disch:=omega) only [↓wr,seval,wq,ah,ag,ak,aa,ab,af,ai,ae,t6,t7,t8,t9]
 intro q3 hq3 q4 hq4
 obtain ⟨n43,hq4⟩:=gQ hq4
 rw[Q9 n43] at hq4
 rw[set_set]
 have hI6:=hI5.fresh hq3 (o:=.arr 2 [[gi (En:Int),gi (i:Int)]])
 have hmb6:(H5.set q3 (.arr 2 [[gi (En:Int),gi (i:Int)]])) bq=.map (bw dY M2) c2:=by
  simp only[View.set]; rw[Q9 (fun e=>by rw[← e,hmb5] at hq3; simp at hq3)]; exact hmb5
 have hq4':(H5.set q3 (.arr 2 [[gi (En:Int),gi (i:Int)]])) q4=.dead:=by simp only[View.set]; rw[Q9 n43]; exact hq4
 have hI7:=hI6.fresh hq4' (o:=.arr 1 [[gi (x:Int)]])
 have hmb7:((H5.set q3 (.arr 2 [[gi (En:Int),gi (i:Int)]])).set q4 (.arr 1 [[gi (x:Int)]])) bq=.map (bw dY M2) c2:=by
  simp only[View.set]
  rw[Q9 (fun e=>by rw[← e,hmb6] at hq4'; simp at hq4')]
  exact hmb6
 have hq47:((H5.set q3 (.arr 2 [[gi (En:Int),gi (i:Int)]])).set q4 (.arr 1 [[gi (x:Int)]])) q4=.arr 1 [[gi (x:Int)]]:=by simp[View.set]
 generalize ((H5.set q3 (.arr 2 [[gi (En:Int),gi (i:Int)]])).set q4 (.arr 1 [[gi (x:Int)]]))=H7 at hI7 hmb7 hq47 ⊢
 clear hI5 hI6 hmb5 hmb6 hq4 hq4' hq3
 have hmt:cT Tryz.prog 114=some (119,43):=by kernel_rfl
 have hz:zeroV Tryz.prog 43=some (.emp 1):=by kernel_rfl
 refine PC (kv:=dY) (kt:=119) (et:=43) (z:=.emp 1) hmt hz (wU HH) (id:=bq) (c:=c2) (m:=M2) (k:=((En:Int),(i:Int))) (by first | rfl | simp (disch:=omega) only [↓wr,seval,wq,ah,ag,ak,aa,ab,af,ai,ae]) (by first | rfl | (simp (disch:=omega) only [↓wr,seval,wq,ah,ag,ak,aa,ab,af,ai,ae]; rfl)) hmb7 hbo fun b c' hb' hbk=>?_
 have hown:=hI7.own
 have hown2:bk H7 (((.sl W 0 1 10,10,[[.aH (g.av.map ca),.aH (g.az.map fun s=>[gs s]),.aH (g.rules.map aO),gi g.start,bS a,bG (au g false),.mp qn,uw,.sl s 0 (aN a).length 1,.sl e 0 (aN a).length 1]]) :: (uw,2,kY (aN a)) :: (.sl s 0 (aN a).length 1,1,bQ Sl) :: (.sl e 0 (aN a).length 1,1,bD A') :: (gX A' ++ [(.sl q1 0 1 2,2,[[gi (p:Int),gi B]])])) ++ hX (bB g a x i) M2):=by
  have e:∀ (X1 X2 X3 X4 y:cb) (R K:List cb),(X1 :: X2 :: X3 :: X4 :: (R ++ [y])) ++ K=X1 :: X2 :: X3 :: X4 :: (R ++ (y :: K)):=fun X1 X2 X3 X4 y R K=>by simp
  rw[e]; exact hown
 obtain ⟨P,Qm,bb,hP1,hP2,hO,hkP,hkQ,hB2⟩:=hBk.entry hown2 ((En:Int),(i:Int)) c2
 have hfb:(bB g a x i ((En:Int),(i:Int))).length≤20000:=by
  unfold bB
  split
  ·rw[Q9 (fun h=>by have:=h.1; simp only at this; omega),SM]
   unfold gY
   have:=Sg (fun y=>decide ((ax g ((((En:Int),(i:Int)).2.toNat:Nat):Int)).left=(cK a y).2∧jw a (cK a y).1.toNat (ax g ((((En:Int),(i:Int)).2.toNat:Nat):Int)).right=((En:Int),(i:Int)).1.toNat)) (List.range x)
   rw[List.length_range] at this
   omega
  ·simp
 generalize hu:(getM M2 ((En:Int),(i:Int))).getD (.emp 1)=u at *
 generalize bu ((En:Int),(i:Int)) u c2 M2=M3 at *
 have hq4b:q4≠bq:=fun e=>by rw[← e,hq47] at hmb7; simp at hmb7
 have hfB:=O4 g a x i hil (by rw[hkey.1]; exact hlB)
 rw[hkey.2,hEn] at hfB
 generalize hfk:bB g a x i ((En:Int),(i:Int))=lk at *
 generalize hZ:(((.sl W 0 1 10,10,[[.aH (g.av.map ca),.aH (g.az.map fun s=>[gs s]),.aH (g.rules.map aO),gi g.start,bS a,bG (au g false),.mp qn,uw,.sl s 0 (aN a).length 1,.sl e 0 (aN a).length 1]]) :: (uw,2,kY (aN a)) :: (.sl s 0 (aN a).length 1,1,bQ Sl) :: (.sl e 0 (aN a).length 1,1,bD A') :: (gX A' ++ [(.sl q1 0 1 2,2,[[gi (p:Int),gi B]])])):List cb)=Z at hO
 have pm:∀ (r:cb) (X Y:List cb),(Z ++ (X ++ r :: Y)).Perm (r :: (Z ++ (X ++ Y))):=fun r X Y=>by
  rw[← RO,← RO]; exact R6
 have hO8:=(hO.perm (pm _ _ _)).sf hmb7 (o:=.map (bw dY M3) c')
 have hel:bR (H7.set bq (.map (bw dY M3) c')) (.sl q4 0 1 1)=some ([[gi (x:Int)]],[q4]):=by simp[bR,View.set,hq4b,hq47]
 simp (disch:=omega) only [↓wr,seval,wq,ah,ag,ak,aa,ab,af,ai,ae,hel]
 refine eR hO8 (by simp[aS]) (by unfold aK; simp; omega) (by unfold aK; simp; omega) ?_
 intro u' H9 o9 l9
 have hm9:=l9.map hO8.head (b:=bq) (c:=c') (es:=bw dY M3) (by simp[View.set])
 have hmq9:=l9.map hO8.head (b:=qn) (c:=cM) (es:=bw dY M) (by simp only[View.set]; rw[Q9 hqb]; exact hI7.mp)
 try simp (disch:=omega) only [↓wr,seval,wq,ah,ag,ak,aa,ab,af,ai,ae]
 refine Pn (kv:=dY) (id:=bq) (c:=c') (b:=b) (m:=M3) (k:=((En:Int),(i:Int))) (v:=u') (by first | rfl | simp (disch:=omega) only [↓wr,seval,wq,ah,ag,ak,aa,ab,af,ai,ae]) (by first | rfl | simp (disch:=omega) only [↓wr,seval,wq,ah,ag,ak,aa,ab,af,ai,ae]) (by first | rfl | simp (disch:=omega) only [↓wr,seval,wq,ah,ag,ak,aa,ab,af,ai,ae]) hm9 hb' hbk fun c0=>?_
 have hb2:=hb'.MX hbk u' c0
 have hgp:=fun k'=>nO ((En:Int),(i:Int)) k' u' c0 M3
 rw[hP2 u' c0] at hb2 ⊢
 simp only[hP2 u' c0] at hgp
 simp (disch:=omega) only [↓wr,seval,wq,ah,ag,ak,aa,ab,af,ai,ae,t1,t4,t6,t7,t8,t9,t46,t47,t48,t54,t55,t56]
 refine aQ hk (by omega) ⟨⟨A',c',P ++ (((En:Int),(i:Int)),u',bb) :: Qm,⟨?_,?_,hI7.bo,hI7.num,hI7.sl,hI7.al⟩,fun z hz=>?_,by simp[View.set],hb2,?_⟩,t1,t4,t6,t7,t8,t9,t46,t47,t48,t54,t55,by first | rfl | (congr 2)⟩
 ·have hbe:hX (bB g a x (i+1)) (P ++ (((En:Int),(i:Int)),u',bb) :: Qm)=hX (bB g a x i) P ++ (u',1,ez lk ++ [[gi (x:Int)]]) :: hX (bB g a x i) Qm:=by
   rw[hfB,show ∀ f:Int × Int→List Nat,hX f (P ++ (((En:Int),(i:Int)),u',bb) :: Qm)=hX f P ++ (u',1,ez (f ((En:Int),(i:Int)))) :: hX f Qm from fun f=>by simp[hX],KF hkP,KF hkQ]
   simp[Gf]
  have o10:=(o9.sf hm9 (o:=.map (bw dY (P ++ (((En:Int),(i:Int)),u',bb) :: Qm)) c')).perm (pm _ _ _).symm
  rw[hbe]
  have e:∀ (X1 X2 X3 X4 y:cb) (R K:List cb),(X1 :: X2 :: X3 :: X4 :: (R ++ [y])) ++ K=X1 :: X2 :: X3 :: X4 :: (R ++ (y :: K)):=fun X1 X2 X3 X4 y R K=>by simp
  rw[← hZ,e] at o10
  exact o10
 ·show (H9.set bq _) qn=_
  simp only[View.set]; rw[Q9 hqb]; exact hmq9
 ·rw[Sb,RR,Rx,SD,oc,Ra (by rw[hkey.1]; exact hlB),hkey.2]
  exact hfA5 z hz
 ·refine ⟨by simpa using hB2.nd,fun k' hk'=>?_⟩
  rw[hgp k']
  split
  ·simp
  ·rename_i hne
   rw[hP1]
   refine hB2.all k' fun h0=>hk' ?_
   rw[hfB]
   unfold Gf
   rw[Q9 (fun e=>hne (by simp[e]))]
   exact h0
end Gv
