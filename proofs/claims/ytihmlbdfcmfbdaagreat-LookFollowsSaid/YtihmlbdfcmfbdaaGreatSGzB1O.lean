/-
  Part 15 of the proof: what the machine does and what the functions answer.
  Conditions: those that each lemma names.
-/
import Derived.Test.YtihmlbdfcmfbdaaGreatSGzB1N
set_option linter.unusedSimpArgs false
set_option linter.unusedVariables false
set_option maxRecDepth 100000
namespace Gv
open Go Go.Proofs
section
variable {g:ao} {a:List aP} {H:View} {W qn cM:Nat} {M:bF (Int × Int)} {uw:V} {s e:Nat} {ws:List (Int × Int)} {Sl:List BV} {A:List (V × List Nat)} {L:List cb}
theorem cw.Pe (h:cw g a H W qn cM M uw s e ws Sl A L) {q:Nat} (hq:H q=.dead) (sz:Nat) (es:List (List V)):cw g a (H.set q (.arr sz es)) W qn cM M uw s e ws Sl A ((.sl q 0 es.length sz,sz,es) :: L):=by
 have pm5:∀ (y a b c d:cb) (X L:List cb),(y :: a :: b :: c :: d :: (X ++ L)).Perm (a :: b :: c :: d :: (X ++ y :: L)):=fun y a b c d X L=>(R6 (l₁:=a :: b :: c :: d :: X)).symm
 have h2:=h.fresh hq (o:=.arr sz es)
 exact ⟨(h.own.new hq sz es).perm (pm5 _ _ _ _ _ _ _),h2.mp,h2.bo,h2.num,h2.sl,h2.al⟩
theorem cw.PM {y:cb} (h:cw g a H W qn cM M uw s e ws Sl A (y :: L)):cw g a H W qn cM M uw s e ws Sl A L :=
 ⟨h.own.sub (.cons_cons _ (.cons_cons _ (.cons_cons _ (.cons_cons _ (List.Sublist.append (.refl _) (.cons _ (.refl _))))))),h.mp,h.bo,h.num,h.sl,h.al⟩
theorem yz (hf:g.dL):∀ (n z:Nat),(jf g a n z).length≤240 * n
 | 0,z=>by simp[jf]
 | n+1,z=>by
  have ih:=yz hf n
  have hr6:∀ k:Nat,k < g.rules.length→(ax g k).right.length≤6:=fun k hk=>hf.right _ (Re (show g.rules[k]?=some (ax g k) by unfold ax; exact getD_some hk))
  have hru:=hf.rules
  have h1:=vw (a:=a) (x:=n) hr6 g.rules.length (f:=jf g a n) (Ri _) ih z
  unfold jf at h1 ⊢
  rw[Sb,RR,Rx,SD,Iu]
  omega
end
set_option maxHeartbeats 16000000 in
theorem of_walks {g:ao} {a:List aP} (hA:bU g a) (hr9:bE g=true) (ha:a.length≤300) {W qn cM bq:Nat} {M:bF (Int × Int)} {uw:V} {s e:Nat} {Sl:List BV} (hqb:qn≠bq)
  {T:Env} {H:View} {Q:Exit→Env→View→Prop} {v:bX (T,H,Q)}
  (hJ:∃ (A:List (V × List Nat)) (c2:Nat) (M2:bF (Int × Int)),cw g a H W qn cM M uw s e (aN a) Sl A (hX (bB g a 0 0) M2)∧(∀ z,z < (aN a).length→(A.getD z (.any,[])).2=jf g a 0 z)∧H bq=.map (bw dY M2) c2∧fH M2 c2∧nY M2 (bB g a 0 0))
  (ht:T 1=.aL (aw g) 0∧T 4=bS a∧T 6=.ptr W 0 0∧T 7=.mp bq∧T 46=uw∧T 47=gi (aN a).length∧T 48=gi 0)
  (hQ:∀ (T':Env) (H':View),(∃ (A:List (V × List Nat)) (c2:Nat) (M2:bF (Int × Int)),cw g a H' W qn cM M uw s e (aN a) Sl A (hX (bB g a (aN a).length 0) M2)∧(∀ z,z < (aN a).length→(A.getD z (.any,[])).2=jf g a (aN a).length z)∧H' bq=.map (bw dY M2) c2∧fH M2 c2∧nY M2 (bB g a (aN a).length 0)) →
   T' 1=.aL (aw g) 0→T' 4=bS a→T' 6=.ptr W 0 0→T' 7=.mp bq→Q (.exit 0) T' H'):bg Tryz.prog r5 T H Q v:=by
 have hn1:=nJ hA
 have hnl:(aN a).length≤40 * a.length:=ko hA.ok.aX a.length
 obtain ⟨t1,t4,t6,t7,t46,t47,t48⟩:=ht
 refine bg.up (aN a).length (fun x T H'=>(∃ (A:List (V × List Nat)) (c2:Nat) (M2:bF (Int × Int)),cw g a H' W qn cM M uw s e (aN a) Sl A (hX (bB g a x 0) M2)∧(∀ z,z < (aN a).length→(A.getD z (.any,[])).2=jf g a x z)∧H' bq=.map (bw dY M2) c2∧fH M2 c2∧nY M2 (bB g a x 0)) ∧
  T 1=.aL (aw g) 0∧T 4=bS a∧T 6=.ptr W 0 0∧T 7=.mp bq∧T 46=uw∧T 47=gi (aN a).length∧T 48=gi x) ⟨hJ,t1,t4,t6,t7,t46,t47,t48⟩ ?_
 clear hJ t1 t4 t6 t7 t46 t47 t48
 rintro x k T H1 hk ⟨⟨A,c2,M2,hI,hfA,hmb,hbo,hBk⟩,t1,t4,t6,t7,t46,t47,t48⟩
 simp (disch:=omega) only [↓wr,seval,wq,ah,ag,ak,aa,ab,af,ai,ae,r5,t46,t47,t48]
 refine aq.dec (fun hc=>?_) (fun hc=>?_)
 rotate_left
 ·have hi:x=(aN a).length:=by omega
  subst hi
  simp (disch:=omega) only [↓wr,seval,wq,ah,ag,ak,aa,ab,af,ai,ae]
  exact hQ _ _ ⟨A,c2,M2,hI,hfA,hmb,hbo,hBk⟩ t1 t4 t6 t7
 have hx:(aN a)[x]?=some (cK a x):=getD_some (by omega)
 obtain ⟨p,hp⟩:=qa (Re hx)
 generalize hxe:cK a x=y at hx hp
 obtain ⟨y1,B⟩:=y
 simp only at hp
 have hy1:y1=p:=by simpa using Sp Prod.fst hp
 subst hy1
 clear hp
 have hwg:(kY (aN a)).getD x []=[gi (p:Int),gi B]:=by
  simp[Q6,hx]
 obtain ⟨hW,⟨w,huw,hw⟩,hs,he,n1,n2,n3⟩:=hI.at hn1
 have hlt:=yz (a:=a) hA.b7 x
 simp (disch:=omega) only [↓wr,seval,wq,ah,ag,ak,aa,ab,af,ai,ae,t1,t46,t47,t48,huw,hw,hwg,aw,encS]
 refine ⟨by omega,by omega,fun q1 hq1=>?_⟩
 rw[set_set]
 have hI2:=hI.Pe hq1 2 [[gi (p:Int),gi B]]
 have hmb2:(H1.set q1 (.arr 2 [[gi (p:Int),gi B]])) bq=.map (bw dY M2) c2:=by
  simp only[View.set]; rw[Q9 (fun e=>by rw[← e,hmb] at hq1; simp at hq1)]; exact hmb
 generalize H1.set q1 (.arr 2 [[gi (p:Int),gi B]])=H2 at hI2 hmb2 ⊢
 refine MY hA hr9 ha hx (f0:=jf g a x) (c0:=240 * x) hlt (by omega) hqb ⟨A,c2,M2,hI2,hfA,hmb2,hbo,hBk⟩ ⟨t1,t4,t6,t7,rfl,rfl,by first | exact t46 | (rw[← huw]; exact t46),t47,t48,rfl,rfl,rfl⟩ (fun T' H' hF u1 u4 u6 u7 u46 u47 u48=>?_)
 obtain ⟨A9,c9,M9,hI9,hf9,hm9,hb9,hk9⟩:=hF
 simp (disch:=omega) only [↓wr,seval,wq,ah,ag,ak,aa,ab,af,ai,ae,u1,u4,u6,u7,u46,u47,u48]
 refine aQ hk (by omega) ⟨⟨A9,c9,M9,by rw[← HA]; exact hI9.PM,fun z hz=>?_,hm9,hb9,by rw[← HA]; exact hk9⟩,u1,u4,u6,u7,u46,u47,by first | rfl | (congr 2)⟩
 show _=jf g a (x+1) z
 unfold jf
 rw[Sb,RR]
 exact hf9 z hz
set_option maxHeartbeats 16000000 in
theorem PT {H0:View} {W s q k n:Nat} {f0 f1 f2 f3 f4 f5 f6 f7 f9 u:V} {Sl:List BV} {l:List Nat} (hW:H0 W=.arr 10 [[f0,f1,f2,f3,f4,f5,f6,f7,.sl s 0 n 1,f9]]) (hs:H0 s=.arr 1 (bQ Sl)) (hsl:Sl.length=n) (hu:bc H0 u 1 (ez l)) (hl:∀ x∈l,x < n) (hll:l.length≤100000) (hq:H0 q=.dead)
  {T:Env} {Q:Exit→Env→View→Prop} {v:bX (T,H0.set q (.arr 2 [[gi k,gw 0]]),Q)}
  (ht:T 6=.ptr W 0 0∧T 17=.ptr q 0 0∧T 108=u∧T 109=gi l.length∧T 110=gi 0)
  (hQ:∀ (T':Env),(∀ j,j < 19→T' j=T j)→T' 13=T 13→T' 14=T 14→T' 88=T 88→T' 89=T 89→T' 94=T 94→T' 95=T 95→Q (.exit 8) T' (H0.set q (.arr 2 [[gi k,gw (kN (sF Sl) l)]]))):bg Tryz.prog rY T (H0.set q (.arr 2 [[gi k,gw 0]])) Q v:=by
 obtain ⟨t6,t17,t108,t109,t110⟩:=ht
 have n1:W≠q:=fun e=>by rw[e,hq] at hW; simp at hW
 have n2:s≠q:=fun e=>by rw[e,hq] at hs; simp at hs
 refine bg.up l.length (fun j T' H'=>H0.set q (.arr 2 [[gi k,gw (kN (sF Sl) (l.take j))]])=H'∧(∀ j,j < 19→T' j=T j)∧T' 88=T 88∧T' 89=T 89∧T' 94=T 94∧T' 95=T 95∧T' 108=u∧T' 109=gi l.length∧T' 110=gi j) ⟨rfl,fun _ _=>rfl,rfl,rfl,rfl,rfl,t108,t109,t110⟩ ?_
 clear t108 t109 t110
 rintro j m T2 _ hm ⟨rfl,ht,t88,t89,t94,t95,t108,t109,t110⟩
 have u6:T2 6=.ptr W 0 0:=by rw[ht 6 (by omega)]; exact t6
 have u17:T2 17=.ptr q 0 0:=by rw[ht 17 (by omega)]; exact t17
 simp (disch:=omega) only [↓wr,seval,wq,ah,ag,ak,aa,ab,af,ai,ae,rY,t108,t109,t110]
 refine aq.dec (fun hc=>?_) (fun hc=>?_)
 rotate_left
 ·simp (disch:=omega) only [↓wr,seval,wq,ah,ag,ak,aa,ab,af,ai,ae]
  rw[Rz (by omega)]
  exact hQ _ (fun j hj=>by
   have:=ht j hj
   rw[← this]
   simp only[oo,Env.put]
   rw[Q9 (by omega),Q9 (by omega)]) (ht 13 (by omega)) (ht 14 (by omega)) t88 t89 t94 t95
 have hy:l[j]?=some (l[j]'(by omega)):=Q7 (by omega)
 have hyl:=hl _ (Rj (show j < l.length by omega))
 have htk:l.take (j+1)=l.take j ++ [l[j]'(by omega)]:=by rw[RG,hy]; rfl
 generalize l[j]'(by omega)=y at hy hyl htk
 obtain ⟨id,hui,hid⟩:=hu.sl (by simp; omega)
 rw[Ro] at hui
 have n3:id≠q:=fun e=>by rw[e,hq] at hid; simp at hid
 simp (disch:=omega) only [↓wr,seval,wq,ah,ag,ak,aa,ab,af,ai,ae,t108,t109,t110,u6,u17,hui,hid,yI hy,n1,n2,n3,hW,hs,me (l:=Sl) (i:=y) (by omega),qq]
 refine ⟨by omega,by omega,hyl,by omega,?_⟩
 rw[set_set]
 have ho:kN (sF Sl) (l.take (j+1))=kN (sF Sl) (l.take j) ||| sF Sl y:=by
  rw[htk]; unfold kN; rw[RR]; rfl
 refine aQ hm (by omega) ⟨by rw[ho],fun i hi=>?_,t88,t89,t94,t95,by first | exact t108 | (rw[← hui]; exact t108),t109,by first | rfl | (congr 2)⟩
 rw[← ht i hi]
 simp only[oo,Env.put]
 repeat rw[Q9 (by omega)]
theorem PE {g:ao} {a:List aP} {n k i:Nat} (hk:k < g.rules.length):bB g a n 0 ((i:Int),(k:Int))=gY g a n k i:=by
 unfold bB
 rw[Ra ⟨by simp only; omega,by simp only; omega,by simp only; omega⟩,Q9 (fun h=>by have:=h.1; simp only at this; omega),SM]
 simp
set_option maxHeartbeats 16000000 in
theorem NA {g:ao} {a:List aP} (hA:bU g a) (ha:a.length≤300) {W qn cM bq al c5:Nat} {M M5:bF (Int × Int)} {uw:V} {s e:Nat} {Sl:List BV} {A:List (V × List Nat)} {i:Nat} (hi:i < a.length) (hqb:qn≠bq) (hk5:nY M5 (bB g a (aN a).length 0)) {fR:Nat→List eF}
  {T:Env} {H:View} {Q:Exit→Env→View→Prop} {v:bX (T,H,Q)}
  (hJ:∃ R:G7,cw g a H W qn cM M uw s e (aN a) Sl A ((.sl al 0 a.length 1,1,bD R) :: (nq R ++ hX (bB g a (aN a).length 0) M5))∧R.length=a.length∧(∀ y,y < a.length→(R.getD y (.any,[])).2=if y=i then [] else fR y)∧H bq=.map (bw dY M5) c5)
  (ht:T 1=.aL (aw g) 0∧T 6=.ptr W 0 0∧T 7=.mp bq∧T 13=.sl al 0 a.length 1∧T 14=gi i∧T 88=gi a.length∧T 89=gi i∧T 94=gi g.rules.length∧T 95=gi 0)
  (hQ:∀ (T':Env) (H':View),(∃ R:G7,cw g a H' W qn cM M uw s e (aN a) Sl A ((.sl al 0 a.length 1,1,bD R) :: (nq R ++ hX (bB g a (aN a).length 0) M5))∧R.length=a.length∧(∀ y,y < a.length→(R.getD y (.any,[])).2=if y=i then xh g a (sF Sl) i else fR y)∧H' bq=.map (bw dY M5) c5) →
   T' 1=.aL (aw g) 0→T' 6=.ptr W 0 0→T' 7=.mp bq→T' 13=.sl al 0 a.length 1→T' 88=gi a.length→T' 89=gi i→Q (.exit 6) T' H'):bg Tryz.prog rH T H Q v:=by
 have hn1:=nJ hA
 have hnl:(aN a).length≤40 * a.length:=ko hA.ok.aX a.length
 have hru:=hA.b7.rules
 obtain ⟨t1,t6,t7,t13,t14,t88,t89,t94,t95⟩:=ht
 refine bg.up g.rules.length (fun k T H'=>(∃ R:G7,cw g a H' W qn cM M uw s e (aN a) Sl A ((.sl al 0 a.length 1,1,bD R) :: (nq R ++ hX (bB g a (aN a).length 0) M5))∧R.length=a.length∧(∀ y,y < a.length→(R.getD y (.any,[])).2=if y=i then (List.range k).filterMap (iy g a (sF Sl) i) else fR y)∧H' bq=.map (bw dY M5) c5) ∧
  T 1=.aL (aw g) 0∧T 6=.ptr W 0 0∧T 7=.mp bq∧T 13=.sl al 0 a.length 1∧T 14=gi i∧T 88=gi a.length∧T 89=gi i∧T 94=gi g.rules.length∧T 95=gi k) ⟨by simpa using hJ,t1,t6,t7,t13,t14,t88,t89,t94,t95⟩ ?_
 clear hJ t1 t6 t7 t13 t14 t88 t89 t94 t95
 rintro k m T H1 hm ⟨⟨R,hI,hRl,hR,hmb⟩,t1,t6,t7,t13,t14,t88,t89,t94,t95⟩
 simp (disch:=omega) only [↓wr,seval,wq,ah,ag,ak,aa,ab,af,ai,ae,rH,t94,t95]
 refine aq.dec (fun hc=>?_) (fun hc=>?_)
 rotate_left
 ·have hkk:k=g.rules.length:=by omega
  subst hkk
  simp (disch:=omega) only [↓wr,seval,wq,ah,ag,ak,aa,ab,af,ai,ae]
  exact hQ _ _ ⟨R,hI,hRl,hR,hmb⟩ t1 t6 t7 t13 t88 t89
 have hkl:k < g.rules.length:=by omega
 have hfB:=PE (g:=g) (a:=a) (n:=(aN a).length) (k:=k) (i:=i) hkl
 have hu:bc H1 ((getM M5 ((i:Int),(k:Int))).getD (.emp 1)) 1 (ez (gY g a (aN a).length k i)):=by
  cases hg:getM M5 ((i:Int),(k:Int)) with
  | none =>
   have:bB g a (aN a).length 0 ((i:Int),(k:Int))=[]:=RY fun hne=>hk5.all _ hne hg
   rw[hfB] at this
   rw[this]; exact .nil
  | some v =>
   obtain ⟨P,Qm,b,rfl,_⟩:=tA hg
   have:=hI.own.1 (v,1,ez (bB g a (aN a).length 0 ((i:Int),(k:Int)))) (by simp[hX])
   rw[hfB] at this
   exact this
 generalize hue:(getM M5 ((i:Int),(k:Int))).getD (.emp 1)=u at hu
 have hul:cY u=some (gY g a (aN a).length k i).length:=by rw[hu.len,Ro]
 have hbl:(gY g a (aN a).length k i).length≤100000:=by
  unfold gY
  have:=Sg (fun x=>decide ((ax g k).left=(cK a x).2∧jw a (cK a x).1.toNat (ax g k).right=i)) (List.range (aN a).length)
  rw[List.length_range] at this
  omega
 have hbn:∀ x∈gY g a (aN a).length k i,x < (aN a).length:=fun x hx=>by
  unfold gY at hx
  exact R3.1 (RQ.1 hx).1
 have hmt:cT Tryz.prog 114=some (119,43):=by kernel_rfl
 have hz:zeroV Tryz.prog 43=some (.emp 1):=by kernel_rfl
 simp (disch:=omega) only [↓wr,seval,wq,ah,ag,ak,aa,ab,af,ai,ae,t7,t14,t95]
 refine Db (kv:=dY) (kt:=119) (et:=43) (z:=.emp 1) (id:=bq) (c:=c5) (m:=M5) (k:=((i:Int),(k:Int))) hmt hz (wU HH) (by first | rfl | simp (disch:=omega) only [↓wr,seval,wq,ah,ag,ak,aa,ab,af,ai,ae]) (by first | rfl | (simp (disch:=omega) only [↓wr,seval,wq,ah,ag,ak,aa,ab,af,ai,ae]; rfl)) hmb ?_
 rw[hue]
 have hst:(List.range (k+1)).filterMap (iy g a (sF Sl) i)=(List.range k).filterMap (iy g a (sF Sl) i) ++ (iy g a (sF Sl) i k).toList:=by
  rw[Sb,List.filterMap_append]
  congr 1
 generalize hbk:gY g a (aN a).length k i=bl at *
 simp (disch:=omega) only [↓wr,seval,wq,ah,ag,ak,aa,ab,af,ai,ae,hul]
 refine aq.eq (fun h0=>?_) (fun h0=>?_)
 ·simp (disch:=omega) only [↓wr,seval,wq,ah,ag,ak,aa,ab,af,ai,ae,t1,t6,t7,t13,t14,t88,t89,t94,t95]
  have hnil:bl=[]:=SV.1 (by omega)
  have hno:iy g a (sF Sl) i k=none:=by unfold iy; rw[hbk,Ra hnil]
  refine aQ hm (by omega) ⟨⟨R,hI,hRl,fun y hy=>?_,hmb⟩,t1,t6,t7,t13,t14,t88,t89,t94,by first | rfl | (congr 2)⟩
  rw[hst,hno]
  simpa using hR y hy
 have hso:iy g a (sF Sl) i k=some ⟨k,kN (sF Sl) bl⟩:=by unfold iy; rw[hbk,Q9 (fun e=>h0 (by rw[e]; rfl))]
 simp (disch:=omega) only [↓wr,seval,wq,ah,ag,ak,aa,ab,af,ai,ae,t6,hul]
 intro q hq
 rw[set_set]
 obtain ⟨hW,_,hs,he,n1,n2,n3⟩:=hI.at hn1
 refine PT hW hs hI.sl hu hbn hbl hq ⟨t6,rfl,rfl,rfl,rfl⟩ (fun T' hT' u13 u14 u88 u89 u94 u95=>?_)
 have v1:T' 1=.aL (aw g) 0:=(hT' 1 (by omega)).trans t1
 have v6:T' 6=.ptr W 0 0:=(hT' 6 (by omega)).trans t6
 have v7:T' 7=.mp bq:=(hT' 7 (by omega)).trans t7
 have v13:T' 13=.sl al 0 a.length 1:=u13.trans t13
 have v14:T' 14=gi i:=u14.trans t14
 have v17:T' 17=.ptr q 0 0:=(hT' 17 (by omega)).trans rfl
 have v88:T' 88=gi a.length:=u88.trans t88
 have v89:T' 89=gi i:=u89.trans t89
 have v94:T' 94=gi g.rules.length:=u94.trans t94
 have v95:T' 95=gi k:=u95.trans t95
 clear hT' u13 u14 u88 u89 u94 u95 t1 t6 t7 t13 t14 t88 t89 t94 t95 hW hs he n1 n2 n3
 have hI2:=hI.fresh hq (o:=.arr 2 [[gi (k:Int),gw (kN (sF Sl) bl)]])
 have hmb2:(H1.set q (.arr 2 [[gi (k:Int),gw (kN (sF Sl) bl)]])) bq=.map (bw dY M5) c5:=by
  simp only[View.set]; rw[Q9 (fun e=>by rw[← e,hmb] at hq; simp at hq)]; exact hmb
 have hq2:(H1.set q (.arr 2 [[gi (k:Int),gw (kN (sF Sl) bl)]])) q=.arr 2 [[gi (k:Int),gw (kN (sF Sl) bl)]]:=by simp[View.set]
 generalize H1.set q (.arr 2 [[gi (k:Int),gw (kN (sF Sl) bl)]])=H2 at hI2 hmb2 hq2 ⊢
 clear hI hmb hq hu
 obtain ⟨R1,⟨ui,li⟩,R2,rfl,hR1,_⟩:=qH (l:=R) (i:=i) (by omega)
 have hlo:nq (R1 ++ (ui,li) :: R2)=nq R1 ++ (ui,2,jY li) :: nq R2:=by simp[nq]
 have hown:=hI2.own
 rw[hlo] at hown
 have hrl:(bD (R1 ++ (ui,li) :: R2)).length=a.length:=by rw[bD,Ro]; exact hRl
 have hal:H2 al=.arr 1 (bD (R1 ++ (ui,li) :: R2)):=by
  have:=hI2.own.1 (.sl al 0 a.length 1,1,bD (R1 ++ (ui,li) :: R2)) (by simp)
  rcases this with ⟨_,kk,h⟩ | ⟨w,h1,h2⟩
  ·simp at h
  ·simp only[V.sl.injEq] at h1
   rw[h1.1]; exact h2
 have hri:(bD (R1 ++ (ui,li) :: R2)).getD i []=[ui]:=by rw[← hR1]; simp[bD]
 have hli:li=(List.range k).filterMap (iy g a (sF Sl) i):=by
  have:=hR i hi
  rw[Ra rfl] at this
  have e:((R1 ++ (ui,li) :: R2).getD i (V.any,([]:List eF))).2=li:=by rw[← hR1]; simp
  rw[e] at this
  exact this
 have hlil:li.length≤40:=by
  rw[hli]
  have:=List.length_filterMap_le (iy g a (sF Sl) i) (List.range k)
  rw[List.length_range] at this
  omega
 simp (disch:=omega) only [↓wr,seval,wq,ah,ag,ak,aa,ab,af,ai,ae,v13,v14,v17,hal,hri,hq2]
 refine ⟨hi,by omega,fun q9 hq9=>?_⟩
 have hel:bR (H2.set q9 (.arr 2 [[gi (k:Int),gw (kN (sF Sl) bl)]])) (.sl q9 0 1 2)=some ([[gi (k:Int),gw (kN (sF Sl) bl)]],[q9]):=by simp[bR,View.set]
 simp (disch:=omega) only [↓wr,seval,wq,ah,ag,ak,aa,ab,af,ai,ae,hel]
 have lx:∀ (a b c d y r:cb) (X R1 R2 K:List cb),a :: b :: c :: d :: (X ++ y :: ((R1 ++ r :: R2) ++ K))=(a :: b :: c :: d :: (X ++ y :: R1)) ++ r :: (R2 ++ K):=fun a b c d y r X R1 R2 K=>by simp
 have ly:∀ (a b c d y:cb) (X K:List cb),a :: b :: c :: d :: (X ++ y :: K)=(a :: b :: c :: d :: X) ++ y :: K:=fun a b c d y X K=>by simp
 rw[lx] at hown
 have hown2:=hown.perm R6
 refine eR (hown2.fresh hq9) (by simp[aS]) (by unfold aK; simp[jY]; omega) (by unfold aK; simp[jY]; omega) ?_
 intro u2 H9 o9 l9
 have hal9:H9 al=.arr 1 (bD (R1 ++ (ui,li) :: R2)):=by
  have:=o9.1 (.sl al 0 a.length 1,1,bD (R1 ++ (ui,li) :: R2)) (by simp)
  rcases this with ⟨_,kk,h⟩ | ⟨w,h1,h2⟩
  ·simp at h
  ·simp only[V.sl.injEq] at h1
   rw[h1.1]; exact h2
 have hm9:=l9.map (hown2.fresh hq9).head (b:=bq) (c:=c5) (es:=bw dY M5) (by
  simp only[View.set]; rw[Q9 (fun e=>by rw[← e,hmb2] at hq9; simp at hq9)]; exact hmb2)
 have hmq9:=l9.map (hown2.fresh hq9).head (b:=qn) (c:=cM) (es:=bw dY M) (by
  have:=hI2.mp
  simp only[View.set]; rw[Q9 (fun e=>by rw[← e,this] at hq9; simp at hq9)]; exact this)
 have hse:(bD (R1 ++ (ui,li) :: R2)).set i [u2]=bD (R1 ++ (u2,li ++ [⟨k,kN (sF Sl) bl⟩]) :: R2):=by rw[← hR1]; simp[bD]
 have o10:=o9.perm R6.symm
 rw[← lx,ly] at o10
 have o11:=(o10.perm R6).put (es':=bD (R1 ++ (u2,li ++ [(⟨k,kN (sF Sl) bl⟩:eF)]) :: R2)) (by simp[bD]) (by rw[hrl])
 have o12:=o11.perm R6.symm
 rw[← ly] at o12
 simp (disch:=omega) only [↓wr,seval,wq,ah,ag,ak,aa,ab,af,ai,ae,v1,v6,v7,v13,v14,v88,v89,v94,v95,hal9,hri,o9.head.cells,o9.head.qi,hse]
 refine ⟨hi,by omega,?_⟩
 refine aQ hm (by omega) ⟨⟨R1 ++ (u2,li ++ [⟨k,kN (sF Sl) bl⟩]) :: R2,⟨?_,?_,hI2.bo,hI2.num,hI2.sl,hI2.al⟩,by simpa using hRl,fun y hy=>?_,?_⟩,v1,v6,v7,v13,v14,v88,v89,v94,by first | rfl | (congr 2)⟩
 ·rw[show nq (R1 ++ (u2,li ++ [(⟨k,kN (sF Sl) bl⟩:eF)]) :: R2)=nq R1 ++ (u2,2,jY li ++ [[gi (k:Int),gw (kN (sF Sl) bl)]]) :: nq R2 by simp[nq,jY,pJ]]
  exact o12
 ·show (H9.set al _) qn=_
  simp only[View.set]; rw[Q9 (fun e=>by rw[← e,hmq9] at hal9; simp at hal9)]; exact hmq9
 ·by_cases e:y=i
  ·rw[Ra e,hst,hso,e,← hR1]
   simp[hli,hR1]
  ·rw[yy (y:=(ui,li)) (by rw[hR1]; exact e),Q9 e]
   have:=hR y hy
   rw[Q9 e] at this
   exact this
 ·show (H9.set al _) bq=_
  simp only[View.set]; rw[Q9 (fun e=>by rw[← e,hm9] at hal9; simp at hal9)]; exact hm9
theorem cw.N4 {g:ao} {a:List aP} {H:View} {W qn cM:Nat} {M:bF (Int × Int)} {uw:V} {s e:Nat} {ws:List (Int × Int)} {Sl:List BV} {A:List (V × List Nat)} {y:cb} {K:List cb} (h:cw g a H W qn cM M uw s e ws Sl A (y :: K)):∀ n:Nat,cw g a H W qn cM M uw s e ws Sl A (y :: (nq (List.replicate n (.emp 1,[])) ++ K))
 | 0=>by simpa [nq] using h
 | n+1=>by
  have ih:=cw.N4 h n
  have lz:∀ (a b c d y r:cb) (X K:List cb),a :: b :: c :: d :: (X ++ (y :: r :: K))=(a :: b :: c :: d :: (X ++ [y])) ++ r :: K:=fun a b c d y r X K=>by simp
  have lw:∀ (a b c d y:cb) (X K:List cb),a :: b :: c :: d :: (X ++ (y :: K))=(a :: b :: c :: d :: (X ++ [y])) ++ K:=fun a b c d y X K=>by simp
  have ho:=ih.own.emp (k:=1) (sz:=2)
  rw[lw] at ho
  have ho2:=ho.perm R6.symm
  rw[← lz] at ho2
  refine ⟨?_,ih.mp,ih.bo,ih.num,ih.sl,ih.al⟩
  rw[show nq (List.replicate (n+1) ((.emp 1,[]):V × List eF)) ++ K=(.emp 1,2,[]) :: (nq (List.replicate n (.emp 1,[])) ++ K) by simp[nq,jY,List.replicate_succ]]
  exact ho2
set_option maxHeartbeats 16000000 in
theorem KY (g:ao) (hg:g.Ok) (hsm:g.Small):de Tryz.prog 33 [.agg (aw g)] (.bt [gR (C9 g).1,gi (C9 g).2]):=by
 refine de.of (eU g) ?_
 have hB:=(Ky g hg hsm).pure
 refine aB.of mixed Ez ?_
 simp only[aw,encS] at hB
 simp (disch:=omega) only [↓wr,seval,wq,ah,ag,ak,aa,ab,af,ai,ae,CJ,aw,encS]
 refine aF.pure hB (by kernel_rfl) ?_
 unfold C9
 simp (disch:=omega) only [↓wr,seval,wq,ah,ag,ak,aa,ab,af,ai,ae]
 refine aq.ne (fun h=>?_) (fun h=>?_)
 ·simp (disch:=omega) only [↓wr,seval,wq,ah,ag,ak,aa,ab,af,ai,ae]
  intro h' _
  rw[Q9 h]
  exact sN (.emp _)
 rw[Ra h]
 have hr:isRed g=true:=by
  rcases Bw g with ⟨_,hr⟩ | ⟨h2,hr⟩ | ⟨h2,hr⟩
  ·exact hr
  ·exact hr
  ·rw[h2] at h; simp at h
 have hr9:=iC hr
 have hf:=pw hr
 obtain ⟨o1,o2,o3⟩:=FF hf h
 have hA:bU g (ct g).1:=⟨hf,o1,zL hf h,zA hf h,o2⟩
 generalize (ct g).1=a at *
 have hn1:=nJ hA
 have hnl:(aN a).length≤40 * a.length:=ko hA.ok.aX a.length
 have hwv:=MP g hg hsm a o3 (fun s hs=>⟨o1.aX s hs,o1.sym s hs⟩) (vg hA) hn1
 simp only[aw,encS] at hwv
 simp (disch:=omega) only [↓wr,seval,wq,ah,ag,ak,aa,ab,af,ai,ae,aw,encS]
 refine aF.eJ ((hwv _).mono ?_)
 rintro r H1 ⟨W,qn,cM,M,uw,s,e,rfl,hI⟩
 simp (disch:=omega) only [↓wr,seval,wq,ah,ag,ak,aa,ab,af,ai,ae]
 refine aF.eJ ((Ot hA hr9 o3 hI).mono ?_)
 rintro r H2 ⟨e2,Sl,A,hI2,hrd⟩
 obtain ⟨hW,⟨w,huw,hw⟩,hs,he,n1,n2,n3⟩:=hI2.at hn1
 have hul:cY uw=some (aN a).length:=by rw[huw]; rfl
 have hWd:∀ q,H2 q=.dead→W≠q:=fun q hq e=>by rw[e,hq] at hW; simp at hW
 simp (disch:=omega) only [↓wr,seval,wq,ah,ag,ak,aa,ab,af,ai,ae,hW,hul]
 refine ⟨⟨by omega,by unfold aK; omega,by unfold aK; omega⟩,fun h0=>by omega,fun _ e3 he3=>?_⟩
 have w1:=hWd e3 he3
 simp (disch:=omega) only [↓wr,seval,wq,ah,ag,ak,aa,ab,af,ai,ae,w1,hul]
 intro bq hbq
 obtain ⟨b1,hbq⟩:=gQ hbq
 obtain ⟨b2,hbq⟩:=gQ hbq
 simp (disch:=omega) only [↓wr,seval,wq,ah,ag,ak,aa,ab,af,ai,ae,Ne.symm b1,hul]
 have hI3:=hI2.N6 he3
 have hbq3:((H2.set e3 (.arr 1 (List.replicate (aN a).length [V.emp 1]))).set W (.arr 10 [[V.aH (g.av.map ca),.aH (g.az.map fun s=>[gs s]),.aH (g.rules.map aO),gi g.start,bS a,bG (au g false),.mp qn,uw,.sl s 0 (aN a).length 1,.sl e3 0 (aN a).length 1]])) bq=.dead:=by
  simp only[View.set]; rw[Q9 b1,Q9 b2]; exact hbq
 generalize ((H2.set e3 (.arr 1 (List.replicate (aN a).length [V.emp 1]))).set W (.arr 10 [[V.aH (g.av.map ca),.aH (g.az.map fun s=>[gs s]),.aH (g.rules.map aO),gi g.start,bS a,bG (au g false),.mp qn,uw,.sl s 0 (aN a).length 1,.sl e3 0 (aN a).length 1]]))=H3 at hI3 hbq3 ⊢
 have hqb:qn≠bq:=fun e=>by have:=hI3.mp; rw[e,hbq3] at this; simp at this
 have hI4:=hI3.fresh hbq3 (o:=.map [] 0)
 have hmb4:(H3.set bq (.map [] 0)) bq=.map (bw dY []) 0:=by simp[View.set,bw]
 generalize H3.set bq (.map [] 0)=H4 at hI4 hmb4 ⊢
 clear hI hI2 hI3 hbq3 hbq he3 hW hw hs he n1 n2 n3 hWd w1 b1 b2
 refine of_walks hA hr9 o3 hqb ⟨_,0,[],hI4,fun z hz=>by simp[Q6,hz,jf],hmb4,⟨by simp,by simp⟩,⟨by simp,fun k hk=>absurd (by rw[OR]) hk⟩⟩ ⟨rfl,rfl,rfl,rfl,rfl,rfl,rfl⟩ (fun T' H' hF u1 u4 u6 u7=>?_)
 obtain ⟨A5,c5,M5,hI5,hf5,hm5,hb5,hk5⟩:=hF
 clear hI4 hmb4
 obtain ⟨-,-,hs5,-⟩:=hI5.at hn1
 have hE2:∀ x,x < (aN a).length→(jf g a (aN a).length x).length≤1000000000∧∀ y∈jf g a (aN a).length x,y < (aN a).length:=fun x hx=>⟨RT (yz hf _ _) (by omega),fun y hy=>((xV _).1 hy).1⟩
 have hCC:=hI5.O1 hn1 (E:=jf g a (aN a).length) hf5 hE2
 simp (disch:=omega) only [↓wr,seval,wq,ah,ag,ak,aa,ab,af,ai,ae,u6]
 refine aF.eJ ((Cj hCC hn1 (by omega) Sl hs5 hI5.sl).mono ?_)
 rintro r H6 ⟨Sl',k1,k2,k3,k4⟩
 have hI6:=(hI5.vO (Sl':=Sl') k1).stay (H':=H6) fun id hid=>by
  simp only[View.set] at hid ⊢
  by_cases e:id=s
  ·rw[Ra e,e]; exact k2
  ·rw[Q9 e] at hid ⊢
   exact k4 id hid e
 have hm6:H6 bq=.map (bw dY M5) c5:=by
  rw[k4 bq (by rw[hm5]; simp) (fun e=>by rw[e,hs5] at hm5; simp at hm5)]; exact hm5
 have hS:∀ (x p t:Nat) (B:Int),(aN a)[x]?=some ((p:Int),B)→((sF Sl' x).getLsbD t=true↔rN g a p B t):=fun x p t B hx =>
  (k3 x t (Rl.1 hx).1).trans (MH hA hrd hx)
 simp (disch:=omega) only [↓wr,seval,wq,ah,ag,ak,aa,ab,af,ai,ae,u4,bS]
 refine ⟨⟨Ri _,by unfold aK; omega,by unfold aK; omega⟩,fun h0=>by omega,fun _ al hal=>?_⟩
 have hI7:=hI6.Pe hal 1 (List.replicate a.length [V.emp 1])
 rw[Te] at hI7
 have hI8:=hI7.N4 a.length
 rw[show List.replicate a.length [V.emp 1]=bD (List.replicate a.length ((.emp 1,[]):V × List eF)) by simp[bD]] at hI8
 have hm8:(H6.set al (.arr 1 (List.replicate a.length [V.emp 1]))) bq=.map (bw dY M5) c5:=by
  simp only[View.set]; rw[Q9 (fun e=>by rw[← e,hm6] at hal; simp at hal)]; exact hm6
 rw[show List.replicate a.length [V.emp 1]=bD (List.replicate a.length ((.emp 1,[]):V × List eF)) by simp[bD]] at hm8
 rw[show List.replicate a.length [V.emp 1]=bD (List.replicate a.length ((.emp 1,[]):V × List eF)) by simp[bD]]
 generalize H6.set al (.arr 1 (bD (List.replicate a.length ((.emp 1,[]):V × List eF))))=H8 at hI8 hm8 ⊢
 try simp (disch:=omega) only [↓wr,seval,wq,ah,ag,ak,aa,ab,af,ai,ae]
 refine bg.up a.length (fun i T H'=>(∃ R:G7,cw g a H' W qn cM M uw s e3 (aN a) Sl' A5 ((.sl al 0 a.length 1,1,bD R) :: (nq R ++ hX (bB g a (aN a).length 0) M5))∧R.length=a.length∧(∀ y,y < a.length→(R.getD y (.any,[])).2=if y < i then xh g a (sF Sl') y else [])∧H' bq=.map (bw dY M5) c5) ∧
  T 1=.aL (aw g) 0∧T 6=.ptr W 0 0∧T 7=.mp bq∧T 13=.sl al 0 a.length 1∧T 88=gi a.length∧T 89=gi i) ⟨⟨_,hI8,by simp,fun y hy=>by simp[Q6,hy],hm8⟩,u1,u6,u7,rfl,rfl,rfl⟩ ?_
 clear hI6 hI7 hI8 hm8 u1 u4 u6 u7
 rintro i k T H9 hk ⟨⟨R,hI9,hRl,hR,hm9⟩,t1,t6,t7,t13,t88,t89⟩
 simp (disch:=omega) only [↓wr,seval,wq,ah,ag,ak,aa,ab,af,ai,ae,xF,t88,t89]
 refine aq.dec (fun hc=>?_) (fun hc=>?_)
 rotate_left
 ·simp (disch:=omega) only [↓wr,seval,wq,ah,ag,ak,aa,ab,af,ai,ae,t13]
  rintro h' rfl
  have hal9:=hI9.own.1 (.sl al 0 a.length 1,1,bD R) (by simp)
  have hLk:R.map (·.2)=pC g a:=by
   unfold pC
   refine List.ext_getElem (by simp[hRl]) fun y h1 h2=>?_
   rw[Ro] at h1
   have:=hR y (by omega)
   rw[Ra (by omega),Nz hA hr hS (by omega)] at this
   rw[List.getElem_map,List.getElem_map,List.getElem_range,← this]
   simp[Q6,h1]
  rw[← hLk]
  exact sN (Ov hal9 fun x hx=>hI9.own.1 (x.1,2,jY x.2) (by
   have:(x.1,2,jY x.2)∈nq R:=Rv.2 ⟨x,hx,rfl⟩
   simp only[Rm,Ry,this,true_or,or_true]))
 simp (disch:=omega) only [↓wr,seval,wq,ah,ag,ak,aa,ab,af,ai,ae,t1,t88,t89,aw,encS]
 refine NA hA o3 (i:=i) (by omega) hqb hk5 (fR:=fun y=>if y < i then xh g a (sF Sl') y else []) ⟨R,hI9,hRl,fun y hy=>?_,hm9⟩ ⟨t1,t6,t7,t13,rfl,t88,t89,rfl,rfl⟩ (fun T' H' hF v1 v6 v7 v13 v88 v89=>?_)
 ·rw[hR y hy]
  by_cases e:y=i
  ·rw[Ra e,Q9 (by omega)]
  ·rw[Q9 e]
 ·obtain ⟨R9,hI10,hRl9,hR9,hm10⟩:=hF
  simp (disch:=omega) only [↓wr,seval,wq,ah,ag,ak,aa,ab,af,ai,ae,v1,v6,v7,v13,v88,v89]
  refine aQ hk (by omega) ⟨⟨R9,hI10,hRl9,fun y hy=>?_,hm10⟩,v1,v6,v7,v13,v88,by first | rfl | (congr 2)⟩
  rw[hR9 y hy]
  by_cases e:y=i
  ·rw[Ra e,Ra (by omega),e]
  ·rw[Q9 e]
   by_cases e2:y < i
   ·rw[Ra e2,Ra (by omega)]
   ·rw[Q9 e2,Q9 (by omega)]
def iY:SC :=
 .seq (.seq (an [aj 37 8,aj 38 3,aj 39 7,aY 40 1 38 39,ay 41 40,bj 42 41,bz 43 .lss 37 42]) <|
 .cond (.tmp 43) (.skip) (.exit 2)) <|
 .seq (.block 3 (.seq (an [aj 46 3,aj 47 7,aY 48 1 46 47,ay 49 48,aj 50 8,aY 51 2 49 50,bM 52 2 51,((some 9),.op (.alloc [(.val (.int .i64 0)),(.val (.int .u32 0))])),(none,.op (.store 2 (.tmp 9) (.tmp 52)))]) <|
 .seq (.seq (.region false [⟨none,[aC 53 0 9,ay 54 53,aR 55 .lss 54 0,aj 56 55]⟩,⟨(some (56,false)),[aC 57 0 9,ay 58 57,aC 59 2 1,ay 60 59,bj 61 60,bz 62 .geq 58 61]⟩,⟨none,[cU 63 56 62,aj 64 63]⟩,⟨(some (64,false)),[aC 65 1 9,ay 66 65,((some 67),.op (.arith .eql (.tmp 66) (.val (.val (.int .u32 0)))))]⟩,⟨none,[cU 68 64 67,aj 69 68]⟩,⟨(some (69,false)),[aC 70 1 9,ay 71 70,aj 72 5,aC 73 2 1,ay 74 73,aC 75 0 9,ay 76 75,aY 77 3 74 76,aC 78 0 77,ay 79 78,aY 80 1 72 79,ay 81 80,bz 82 .andNot 71 81,((some 83),.op (.arith .neq (.tmp 82) (.val (.val (.int .u32 0)))))]⟩,⟨none,[cU 84 69 83,aj 85 84]⟩,⟨(some (85,false)),[aj 86 8,aR 87 .gtr 86 0,aj 88 87]⟩,⟨(some (88,true)),[aj 89 3,aj 90 7,aY 91 1 89 90,ay 92 91,aj 93 8,aR 94 .sub 93 1,aY 95 2 92 94,aC 96 0 95,ay 97 96,aC 98 0 9,ay 99 98,bz 100 .geq 97 99]⟩,⟨(some (85,false)),[gA 101 88 100]⟩,⟨none,[cU 102 85 101]⟩]) <|
 .cond (.tmp 102) (.seq (an [bK 2 false]) <|
 .ret) (.skip)) <|
 an [aj 103 6,aC 104 0 9,ay 105 104,aY 106 1 103 105,(none,.op (.store 1 (.tmp 106) (.val (.val (.bool true)))))])) <|
 an [aj 44 8,aR 45 .add 44 1,aj 8 45]
def iW:SC :=
 .seq (.seq (an [aj 31 7,aj 32 3,bj 33 32,bz 34 .lss 31 33]) <|
 .cond (.tmp 34) (.skip) (.exit 0)) <|
 .seq (.block 1 (.seq (an [bA 8 0]) <|
 .block 2 (.loop iY))) <|
 an [aj 35 7,aR 36 .add 35 1,aj 7 36]
def iV:SC :=
 .seq (.seq (an [aj 107 10,aj 108 6,bj 109 108,bz 110 .lss 107 109]) <|
 .cond (.tmp 110) (.skip) (.exit 4)) <|
 .seq (.block 5 (.seq (an [aj 113 6,aj 114 10,aY 115 1 113 114,ay 116 115,dm 117 116]) <|
 .cond (.tmp 117) (.seq (an [bK 2 false]) <|
 .ret) (.skip))) <|
 an [aj 111 10,aR 112 .add 111 1,aj 10 112]
def jJ:SF:=⟨.seq (an [dN 1 0,bK 2 false]) <|
 .seq (.seq (an [bJ 11 31 [],dm 12 11]) <|
 .cond (.tmp 12) (.seq (an [bK 2 false]) <|
 .ret) (.skip)) <|
 .seq (.seq (an [bM 13 4 1,bJ 14 16 [13]]) <|
 .cond (.tmp 14) (.seq (an [bK 2 true]) <|
 .ret) (.skip)) <|
 .seq (an [bM 16 4 1,bJ 17 33 [16],aj 15 17,kH 18 0 15,kH 19 1 15,aj 3 18,aj 4 19]) <|
 .seq (.seq (an [aj 20 4,aR 21 .neq 20 0]) <|
 .cond (.tmp 21) (.seq (an [aj 22 3,bj 23 22,aR 24 .eql 23 0,aj 2 24]) <|
 .ret) (.skip)) <|
 .seq (an [bM 25 4 1,bJ 26 40 [25],aj 5 26]) <|
 .seq (an [aC 27 2 1,ay 28 27,bj 29 28,((some 30),.op (.make 1 1 [(.val (.bool false))] (.tmp 29) (.tmp 29))),aj 6 30]) <|
 .seq (.seq (an [bA 7 0]) <|
 .block 0 (.loop iW)) <|
 .seq (.seq (an [bA 10 0]) <|
 .block 4 (.loop iV)) <|
 .seq (an [bK 2 true]) <|
 .ret,
 [.tmp 2],118⟩
theorem nV:aU Tryz.prog 10 [1]=some jJ:=by kernel_rfl
structure N8 (g:ao) (L:List (List eF)):Prop where
 len:L.length≤300
 row:∀ i:Nat,((L.getD i []).length≤287)
 fact:∀ (i:Nat),∀ x∈L.getD i [],(0≤x.aD∧x.aD < g.rules.length)∧x.set≠0∧j5 x.set ((fX g (au g false)).getD (ax g x.aD).left.toNat 0)
 sort:∀ i:Nat,(L.getD i []).Pairwise fun x y=>x.aD < y.aD
 all:∀ k:Nat,k < g.rules.length→∃ i,i < L.length∧∃ x∈L.getD i [],x.aD=k
theorem Gq {g:ao} (h:(ct g).2=0):isRed g=true∧bU g (ct g).1∧(ct g).1.length≤300:=by
 have hr:isRed g=true:=by
  rcases Bw g with ⟨_,hr⟩ | ⟨h2,hr⟩ | ⟨h2,hr⟩
  ·exact hr
  ·exact hr
  ·rw[h2] at h; simp at h
 have hf:=pw hr
 obtain ⟨o1,o2,o3⟩:=FF hf h
 exact ⟨hr,⟨hf,o1,zL hf h,zA hf h,o2⟩,o3⟩
theorem Od {g:ao} (h:(ct g).2=0):N8 g (pC g (ct g).1):=by
 obtain ⟨hr,hA,h3⟩:=Gq h
 have hg:∀ i:Nat,(pC g (ct g).1).getD i []=if i < (ct g).1.length then lg g (ct g).1 i else []:=fun i=>by
  rw[pC,Q6,Rc]
  split
  ·rename_i hi; rw[List.getElem?_range hi]; rfl
  ·rename_i hi; rw[RH (by simp; omega)]; rfl
 refine ⟨by simpa [pC] using h3,fun i=>?_,fun i x hx=>?_,fun i=>?_,fun k hk=>?_⟩
 ·rw[hg]
  split
  ·rename_i hi
   unfold lg
   refine RT (List.length_filterMap_le _ _) ?_
   rw[show (fj g (ct g).1).getD i []=gC g (ct g).1 i by unfold fj gC; simp[Q6,Q7 hi]]
   exact yH hA.b7 (ki _ _) fun y hy=>hA.has hi hy
  ·simp
 ·rw[hg] at hx
  split at hx
  ·rename_i hi; exact Kp hA hr hi hx
  ·simp at hx
 ·rw[hg]
  split
  ·exact KG i
  ·exact .nil
 ·obtain ⟨i,hi,x,hx,e⟩:=Mz hA hr hk
  exact ⟨i,by simpa [pC] using hi,x,by rw[hg,Ra hi]; exact hx,e⟩
def Dv (L:List (List eF)) (i j:Nat) (B:List Bool):Prop:=∀ (p q:Nat) (x:eF),(L.getD p [])[q]?=some x→(p < i∨p=i∧q < j)→B.getD x.aD.toNat false=true
set_option maxHeartbeats 8000000 in
theorem Bg (g:ao) (hg:g.Ok):aG Tryz.prog 10 [.agg (aw g)] (gb true):=by
 refine aG.val (eU g) fun H=>?_
 refine aB.of mixed nV ?_
 simp (disch:=omega) only [↓wr,seval,wq,ah,ag,ak,aa,ab,af,ai,ae,jJ,aw,encS]
 refine aF.pure HT (by kernel_rfl) ?_
 simp (disch:=omega) only [↓wr,seval,wq,ah,ag,ak,aa,ab,af,ai,ae,aw,encS]
 refine aF.pure (L7 g) (by kernel_rfl) ?_
 simp (disch:=omega) only [↓wr,seval,wq,ah,ag,ak,aa,ab,af,ai,ae]
 refine aq.split (fun e=>?_) (fun e=>?_)
 ·simp (disch:=omega) only [↓wr,seval,wq,ah,ag,ak,aa,ab,af,ai,ae]
 have h1:=(KY g hg (F6 e)).pure
 have h2:=(F8 g hg).pure
 simp only[aw,encS] at h1 h2
 simp (disch:=omega) only [↓wr,seval,wq,ah,ag,ak,aa,ab,af,ai,ae,aw,encS]
 refine aF.pure h1 (by kernel_rfl) ?_
 unfold C9
 simp (disch:=omega) only [↓wr,seval,wq,ah,ag,ak,aa,ab,af,ai,ae]
 refine aq.ne (fun h=>?_) (fun h=>?_)
 ·by_cases h0:(ct g).2=0
  ·rw[Ra h0] at h; exact absurd rfl h
  ·rw[Q9 h0]
   simp (disch:=omega) only [↓wr,seval,wq,ah,ag,ak,aa,ab,af,ai,ae,gR]
 have h0:(ct g).2=0:=RY fun hn=>by rw[Q9 hn] at h; exact hn h
 rw[Ra h0]
 have hL:=Od h0
 obtain ⟨hr,hA,_⟩:=Gq h0
 have hf:=pw hr
 rw[A7,Ra (iC hr)] at h2
 have hfl:=xA g (au g false)
 have hLl:=hL.len
 have hR1:=hf.Pq; have hR2:=hf.rules
 generalize pC g (ct g).1=L at hL hLl ⊢
 have hfc:∀ i:Nat,∀ x∈L.getD i [],j5 x.set ((fX g (au g false)).getD (ax g x.aD).left.toNat 0):=fun i x hx=>(hL.fact i x hx).2.2
 generalize fX g (au g false)=fol at h2 hfl hfc
 simp (disch:=omega) only [↓wr,seval,wq,ah,ag,ak,aa,ab,af,ai,ae,aw,encS]
 refine aF.pure h2 (by kernel_rfl) ?_
 simp (disch:=omega) only [↓wr,seval,wq,ah,ag,ak,aa,ab,af,ai,ae,aw,encS]
 refine ⟨⟨by omega,by unfold aK; omega,by unfold aK; omega⟩,fun hz=>absurd hz (by omega),fun _ m hm=>?_⟩
 refine bg.up L.length (fun i T H'=>∃ B:List Bool,B.length=g.rules.length∧Dv L i 0 B∧H' m=.arr 1 (cR B)∧T 1=.aL (aw g) 0∧T 3=gR L∧T 5=jv fol∧T 6=.sl m 0 g.rules.length 1∧T 7=gi i)
  ⟨List.replicate g.rules.length false,by simp,fun p q x _ h=>by omega,by simp[View.set],rfl,rfl,rfl,rfl,rfl⟩ ?_
 rintro i k T H1 hk ⟨B,hB,hS,hm1,t1,t3,t5,t6,t7⟩
 simp (disch:=omega) only [↓wr,seval,wq,ah,ag,ak,aa,ab,af,ai,ae,iW,t1,t3,t5,t6,t7,gR]
 refine aq.dec (fun hc=>?_) (fun hc=>?_)
 ·have hx:L[i]?=some (L.getD i []):=getD_some (by omega)
  have r1:=hL.row i; have r2:=hL.fact i; have r3:=hL.sort i
  simp (disch:=omega) only [↓wr,seval,wq,ah,ag,ak,aa,ab,af,ai,ae,t1,t3,t5,t6,t7]
  refine bg.up (L.getD i []).length (fun j T H'=>∃ B:List Bool,B.length=g.rules.length∧Dv L i j B∧H' m=.arr 1 (cR B)∧T 1=.aL (aw g) 0∧T 3=gR L∧T 5=jv fol∧T 6=.sl m 0 g.rules.length 1∧T 7=gi i∧T 8=gi j)
   ⟨B,hB,hS,hm1,t1,t3,t5,t6,t7,rfl⟩ ?_
  clear hm1 t1 t3 t5 t6 t7 hS hB B
  rintro j k2 T2 H2 hk2 ⟨B,hB,hS,hm1,t1,t3,t5,t6,t7,t8⟩
  simp (disch:=omega) only [↓wr,seval,wq,ah,ag,ak,aa,ab,af,ai,ae,iY,t1,t3,t5,t6,t7,t8,gR,Rc,hx,Rk,jY]
  refine aq.dec (fun hd=>?_) (fun hd=>?_)
  ·have hy:(L.getD i [])[j]?=some ((L.getD i [])[j]'(by omega)):=Q7 (by omega)
   have hym:=r2 _ (Rj (show j < (L.getD i []).length by omega))
   have y5:=hfc i _ (Rj (show j < (L.getD i []).length by omega))
   have hpr:∀ z,0 < j→(L.getD i [])[j - 1]?=some z→z.aD < ((L.getD i [])[j]'(by omega)).aD:=fun z h0 hz=>by
    rw[List.pairwise_iff_getElem] at r3
    obtain ⟨h1,rfl⟩:=Rl.1 hz
    exact r3 (j - 1) j _ _ (by omega)
   generalize (L.getD i [])[j]'(by omega)=y at hy hym hpr y5
   obtain ⟨⟨y1,y2⟩,y3,_⟩:=hym
   have hRl:g.rules[y.aD.toNat]?=some (ax g y.aD):=by unfold ax; exact getD_some (by omega)
   have hl:=hf.left _ (Re hRl)
   have hfo:fol[(ax g y.aD).left.toNat]?=some (fol.getD (ax g y.aD).left.toNat 0):=getD_some (by omega)
   have hz:¬ y.set=0#32:=y3
   simp (disch:=omega) only [↓wr,seval,wq,ah,ag,ak,aa,ab,af,ai,ae,t1,t3,t5,t6,t7,t8,gR,Rc,hx,hy,Rk,jY,pJ]
   intro b hb
   have hmb:¬ m=b:=by rintro rfl; rw[hm1] at hb; simp at hb
   have hbm:¬ b=m:=fun e=>hmb e.symm
   refine aq.dec (fun h=>absurd h (by omega)) (fun _=>?_)
   simp (disch:=omega) only [↓wr,seval,wq,ah,ag,ak,aa,ab,af,ai,ae,t1,t3,t5,t6,t7,t8,gR,aw,aO,jv,Rc,hx,hy,hRl,hfo,Rk,jY,pJ]
   refine aq.dec (fun h=>absurd h (by omega)) (fun _=>?_)
   simp (disch:=omega) only [↓wr,seval,wq,ah,ag,ak,aa,ab,af,ai,ae,t1,t3,t5,t6,t7,t8,gR,aw,aO,jv,Rc,hx,hy,hRl,hfo,Rk,jY,pJ]
   refine aq.eq (fun h=>absurd (toNat_zero.1 h) y3) (fun _=>?_)
   simp (disch:=omega) only [↓wr,seval,wq,ah,ag,ak,aa,ab,af,ai,ae,t1,t3,t5,t6,t7,t8,gR,aw,aO,jv,Rc,hx,hy,hRl,hfo,Rk,jY,pJ,M4]
   refine aq.ne (fun h=>absurd (toNat_zero.2 (F3.2 y5)) h) (fun _=>?_)
   simp (disch:=omega) only [↓wr,seval,wq,ah,ag,ak,aa,ab,af,ai,ae,t1,t3,t5,t6,t7,t8,gR,aw,aO,jv,Rc,hx,hy,hRl,hfo,Rk,jY,pJ]
   have hsn:B[y.aD.toNat]?=some (B.getD y.aD.toNat false):=getD_some (by omega)
   have hgs:(cR B).getD y.aD.toNat []=[gb (B.getD y.aD.toNat false)]:=by rw[Q6,Rc,hsn]; rfl
   have hfin:Dv L i (j+1) (B.set y.aD.toNat true):=fun p q x hx2 hpq=>by
    rw[gz]
    split
    ·rfl
    ·rename_i hne
     by_cases e:p=i∧q=j
     ·obtain ⟨rfl,rfl⟩:=e
      rw[hy] at hx2
      simp only[Q8] at hx2
      subst hx2
      exact absurd ⟨rfl,by omega⟩ hne
     ·exact hS p q x hx2 (by omega)
   refine aq.dec (fun h0=>?_) (fun h0=>?_)
   ·obtain ⟨z,hz1⟩:∃ z,(L.getD i [])[j - 1]?=some z:=⟨_,Q7 (by omega)⟩
    have hzl:=hpr z (by omega) hz1
    rw[show j - 1=((j:Int) - 1).toNat by omega] at hz1
    simp (disch:=omega) only [↓wr,seval,wq,ah,ag,ak,aa,ab,af,ai,ae,t1,t3,t5,t6,t7,t8,gR,aw,aO,jv,Rc,hx,hy,hz1,Rk,jY,pJ]
    refine aq.dec (fun h=>absurd h (by omega)) (fun _=>?_)
    simp (disch:=omega) only [↓wr,seval,wq,ah,ag,ak,aa,ab,af,ai,ae,t1,t3,t5,t6,t7,t8,gR,hmb,hbm,hm1,hgs]
    refine ⟨by omega,by omega,aQ hk2 (by omega) ⟨B.set y.aD.toNat true,by simp[hB],hfin,?_,t1,t3,t5,t6,t7,rfl⟩⟩
    simp only[View.set,if_true]
    exact Sp _ Sr.symm
   ·simp (disch:=omega) only [↓wr,seval,wq,ah,ag,ak,aa,ab,af,ai,ae,t1,t3,t5,t6,t7,t8,gR,hmb,hbm,hm1,hgs]
    refine ⟨by omega,by omega,aQ hk2 (by omega) ⟨B.set y.aD.toNat true,by simp[hB],hfin,?_,t1,t3,t5,t6,t7,rfl⟩⟩
    simp only[View.set,if_true]
    exact Sp _ Sr.symm
  ·simp (disch:=omega) only [↓wr,seval,wq,ah,ag,ak,aa,ab,af,ai,ae,t1,t3,t5,t6,t7]
   refine aQ hk (by omega) ⟨B,hB,fun p q x hx2 hpq=>hS p q x hx2 ?_,hm1,t1,t3,t5,t6,rfl⟩
   rcases hpq with h | h
   ·rcases Rw p i with h2 | h2
    ·exact .inl h2
    ·have:p=i:=by omega
     subst this
     have:=(Rl.1 hx2).1
     exact .inr ⟨rfl,by omega⟩
   ·omega
 ·simp (disch:=omega) only [↓wr,seval,wq,ah,ag,ak,aa,ab,af,ai,ae,t1,t3,t6]
  refine bg.up g.rules.length (fun i T H'=>T 6=.sl m 0 g.rules.length 1∧H' m=.arr 1 (cR B)∧T 10=gi i) ⟨t6,hm1,rfl⟩ ?_
  clear t6 hm1
  rintro i k T H1 hk ⟨t6,hm1,t10⟩
  simp (disch:=omega) only [↓wr,seval,wq,ah,ag,ak,aa,ab,af,ai,ae,iV,t6,t10]
  refine aq.dec (fun hc2=>?_) (fun hc2=>?_)
  ·obtain ⟨p,hp,x,hxm,hxr⟩:=hL.all i (by omega)
   obtain ⟨q,hq,e⟩:=Sk.1 hxm
   have hb:=hS p q x (by rw[Q7 hq,e]) (by omega)
   rw[hxr,Rs] at hb
   have hbi:B[i]?=some true:=by rw[← hb]; exact getD_some (by omega)
   have hge:(cR B).getD i []=[gb true]:=by simp[Q6,hbi]
   simp (disch:=omega) only [↓wr,seval,wq,ah,ag,ak,aa,ab,af,ai,ae,t6,t10,hm1,hge]
   exact ⟨by omega,by omega,aQ hk (by omega) ⟨t6,hm1,rfl⟩⟩
  ·simp (disch:=omega) only [↓wr,seval,wq,ah,ag,ak,aa,ab,af,ai,ae]
end Gv
