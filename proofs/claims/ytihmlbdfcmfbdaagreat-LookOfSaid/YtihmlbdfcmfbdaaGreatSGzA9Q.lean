/-
  Part 17 of the proof: what the machine does and what the functions answer.
  Conditions: those that each lemma names.
-/
import Derived.Test.YtihmlbdfcmfbdaaGreatSGzA9P
set_option linter.unusedSimpArgs false
set_option linter.unusedVariables false
set_option maxRecDepth 100000
namespace Gv
open Go Go.Proofs
section
variable {g:aw} {a:List aR} {H:View} {W qn cM:Nat} {M:bU (Int × Int)} {uw:V} {s e:Nat} {ws:List (Int × Int)} {Sl:List BV} {A:List (V × List Nat)} {L:List cz}
theorem cW.SJ (h:cW g a H W qn cM M uw s e ws Sl A L) {q:Nat} (hq:H q=.dead) (sz:Nat) (es:List (List V)):cW g a (H.set q (.arr sz es)) W qn cM M uw s e ws Sl A ((.sl q 0 es.length sz,sz,es) :: L):=by
 have pm5:∀ (y a b c d:cz) (X L:List cz),(y :: a :: b :: c :: d :: (X ++ L)).Perm (a :: b :: c :: d :: (X ++ y :: L)):=fun y a b c d X L=>(VS (l₁:=a :: b :: c :: d :: X)).symm
 have h2:=h.fresh hq (o:=.arr sz es)
 exact ⟨(h.own.new hq sz es).perm (pm5 _ _ _ _ _ _ _),h2.mp,h2.bo,h2.num,h2.sl,h2.al⟩
theorem cW.TH {y:cz} (h:cW g a H W qn cM M uw s e ws Sl A (y :: L)):cW g a H W qn cM M uw s e ws Sl A L :=
 ⟨h.own.sub (.cons_cons _ (.cons_cons _ (.cons_cons _ (.cons_cons _ (List.Sublist.append (.refl _) (.cons _ (.refl _))))))),h.mp,h.bo,h.num,h.sl,h.al⟩
theorem AU (hf:g.dK):∀ (n z:Nat),(jO g a n z).length≤240 * n
 | 0,z=>by simp[jO]
 | n+1,z=>by
  have ih:=AU hf n
  have hr6:∀ k:Nat,k < g.rules.length→(aE g k).right.length≤6:=fun k hk=>hf.right _ (Vf (show g.rules[k]?=some (aE g k) by unfold aE; exact getD_some hk))
  have hru:=hf.rules
  have h1:=yN (a:=a) (x:=n) hr6 g.rules.length (f:=jO g a n) (Vj _) ih z
  unfold jO at h1 ⊢
  rw[V0,VR,VF,Wk,KT]
  omega
end
set_option maxHeartbeats 16000000 in
theorem of_walks {g:aw} {a:List aR} (hA:cF g a) (hr9:bS g=true) (ha:a.length≤300) {W qn cM bq:Nat} {M:bU (Int × Int)} {uw:V} {s e:Nat} {Sl:List BV} (hqb:qn≠bq)
  {T:Env} {H:View} {Q:Exit→Env→View→Prop} {v:cD (T,H,Q)}
  (hJ:∃ (A:List (V × List Nat)) (c2:Nat) (M2:bU (Int × Int)),cW g a H W qn cM M uw s e (bg a) Sl A (iR (bB g a 0 0) M2)∧(∀ z,z < (bg a).length→(A.getD z (.any,[])).2=jO g a 0 z)∧H bq=.map (bR eU M2) c2∧gG M2 c2∧p8 M2 (bB g a 0 0))
  (ht:T 1=.aN (au g) 0∧T 4=bm a∧T 6=.ptr W 0 0∧T 7=.mp bq∧T 46=uw∧T 47=gi (bg a).length∧T 48=gi 0)
  (hQ:∀ (T':Env) (H':View),(∃ (A:List (V × List Nat)) (c2:Nat) (M2:bU (Int × Int)),cW g a H' W qn cM M uw s e (bg a) Sl A (iR (bB g a (bg a).length 0) M2)∧(∀ z,z < (bg a).length→(A.getD z (.any,[])).2=jO g a (bg a).length z)∧H' bq=.map (bR eU M2) c2∧gG M2 c2∧p8 M2 (bB g a (bg a).length 0)) →
   T' 1=.aN (au g) 0→T' 4=bm a→T' 6=.ptr W 0 0→T' 7=.mp bq→Q (.exit 0) T' H'):aZ Tryz.prog uq T H Q v:=by
 have hn1:=pG hA
 have hnl:(bg a).length≤40 * a.length:=lq hA.ok.bk a.length
 obtain ⟨t1,t4,t6,t7,t46,t47,t48⟩:=ht
 refine aZ.up (bg a).length (fun x T H'=>(∃ (A:List (V × List Nat)) (c2:Nat) (M2:bU (Int × Int)),cW g a H' W qn cM M uw s e (bg a) Sl A (iR (bB g a x 0) M2)∧(∀ z,z < (bg a).length→(A.getD z (.any,[])).2=jO g a x z)∧H' bq=.map (bR eU M2) c2∧gG M2 c2∧p8 M2 (bB g a x 0)) ∧
  T 1=.aN (au g) 0∧T 4=bm a∧T 6=.ptr W 0 0∧T 7=.mp bq∧T 46=uw∧T 47=gi (bg a).length∧T 48=gi x) ⟨hJ,t1,t4,t6,t7,t46,t47,t48⟩ ?_
 clear hJ t1 t4 t6 t7 t46 t47 t48
 rintro x k T H1 hk ⟨⟨A,c2,M2,hI,hfA,hmb,hbo,hBk⟩,t1,t4,t6,t7,t46,t47,t48⟩
 simp (disch:=omega) only [↓wr,seval,wq,ah,ag,ak,aa,ab,af,ai,ae,uq,t46,t47,t48]
 refine av.dec (fun hc=>?_) (fun hc=>?_)
 rotate_left
 ·have hi:x=(bg a).length:=by omega
  subst hi
  simp (disch:=omega) only [↓wr,seval,wq,ah,ag,ak,aa,ab,af,ai,ae]
  exact hQ _ _ ⟨A,c2,M2,hI,hfA,hmb,hbo,hBk⟩ t1 t4 t6 t7
 have hx:(bg a)[x]?=some (du a x):=getD_some (by omega)
 obtain ⟨p,hp⟩:=sy (Vf hx)
 generalize hxe:du a x=y at hx hp
 obtain ⟨y1,B⟩:=y
 simp only at hp
 have hy1:y1=p:=by simpa using Wj Prod.fst hp
 subst hy1
 clear hp
 have hwg:(mA (bg a)).getD x []=[gi (p:Int),gi B]:=by
  simp[U8,hx]
 obtain ⟨hW,⟨w,huw,hw⟩,hs,he,n1,n2,n3⟩:=hI.at hn1
 have hlt:=AU (a:=a) hA.dG x
 simp (disch:=omega) only [↓wr,seval,wq,ah,ag,ak,aa,ab,af,ai,ae,t1,t46,t47,t48,huw,hw,hwg,au,encS]
 refine ⟨by omega,by omega,fun q1 hq1=>?_⟩
 rw[set_set]
 have hI2:=hI.SJ hq1 2 [[gi (p:Int),gi B]]
 have hmb2:(H1.set q1 (.arr 2 [[gi (p:Int),gi B]])) bq=.map (bR eU M2) c2:=by
  simp only[View.set]; rw[Va (fun e=>by rw[← e,hmb] at hq1; simp at hq1)]; exact hmb
 generalize H1.set q1 (.arr 2 [[gi (p:Int),gi B]])=H2 at hI2 hmb2 ⊢
 refine Qz hA hr9 ha hx (f0:=jO g a x) (c0:=240 * x) hlt (by omega) hqb ⟨A,c2,M2,hI2,hfA,hmb2,hbo,hBk⟩ ⟨t1,t4,t6,t7,rfl,rfl,by first | exact t46 | (rw[← huw]; exact t46),t47,t48,rfl,rfl,rfl⟩ (fun T' H' hF u1 u4 u6 u7 u46 u47 u48=>?_)
 obtain ⟨A9,c9,M9,hI9,hf9,hm9,hb9,hk9⟩:=hF
 simp (disch:=omega) only [↓wr,seval,wq,ah,ag,ak,aa,ab,af,ai,ae,u1,u4,u6,u7,u46,u47,u48]
 refine aM hk (by omega) ⟨⟨A9,c9,M9,by rw[← JL]; exact hI9.TH,fun z hz=>?_,hm9,hb9,by rw[← JL]; exact hk9⟩,u1,u4,u6,u7,u46,u47,by first | rfl | (congr 2)⟩
 show _=jO g a (x+1) z
 unfold jO
 rw[V0,VR]
 exact hf9 z hz
set_option maxHeartbeats 16000000 in
theorem TE {H0:View} {W s q k n:Nat} {f0 f1 f2 f3 f4 f5 f6 f7 f9 u:V} {Sl:List BV} {l:List Nat} (hW:H0 W=.arr 10 [[f0,f1,f2,f3,f4,f5,f6,f7,.sl s 0 n 1,f9]]) (hs:H0 s=.arr 1 (bT Sl)) (hsl:Sl.length=n) (hu:ba H0 u 1 (fu l)) (hl:∀ x∈l,x < n) (hll:l.length≤100000) (hq:H0 q=.dead)
  {T:Env} {Q:Exit→Env→View→Prop} {v:cD (T,H0.set q (.arr 2 [[gi k,gw 0]]),Q)}
  (ht:T 6=.ptr W 0 0∧T 17=.ptr q 0 0∧T 108=u∧T 109=gi l.length∧T 110=gi 0)
  (hQ:∀ (T':Env),(∀ j,j < 19→T' j=T j)→T' 13=T 13→T' 14=T 14→T' 88=T 88→T' 89=T 89→T' 94=T 94→T' 95=T 95→Q (.exit 8) T' (H0.set q (.arr 2 [[gi k,gw (my (sF Sl) l)]]))):aZ Tryz.prog ur T (H0.set q (.arr 2 [[gi k,gw 0]])) Q v:=by
 obtain ⟨t6,t17,t108,t109,t110⟩:=ht
 have n1:W≠q:=fun e=>by rw[e,hq] at hW; simp at hW
 have n2:s≠q:=fun e=>by rw[e,hq] at hs; simp at hs
 refine aZ.up l.length (fun j T' H'=>H0.set q (.arr 2 [[gi k,gw (my (sF Sl) (l.take j))]])=H'∧(∀ j,j < 19→T' j=T j)∧T' 88=T 88∧T' 89=T 89∧T' 94=T 94∧T' 95=T 95∧T' 108=u∧T' 109=gi l.length∧T' 110=gi j) ⟨rfl,fun _ _=>rfl,rfl,rfl,rfl,rfl,t108,t109,t110⟩ ?_
 clear t108 t109 t110
 rintro j m T2 _ hm ⟨rfl,ht,t88,t89,t94,t95,t108,t109,t110⟩
 have u6:T2 6=.ptr W 0 0:=by rw[ht 6 (by omega)]; exact t6
 have u17:T2 17=.ptr q 0 0:=by rw[ht 17 (by omega)]; exact t17
 simp (disch:=omega) only [↓wr,seval,wq,ah,ag,ak,aa,ab,af,ai,ae,ur,t108,t109,t110]
 refine av.dec (fun hc=>?_) (fun hc=>?_)
 rotate_left
 ·simp (disch:=omega) only [↓wr,seval,wq,ah,ag,ak,aa,ab,af,ai,ae]
  rw[Vq (by omega)]
  exact hQ _ (fun j hj=>by
   have:=ht j hj
   rw[← this]
   simp only[qg,Env.put]
   rw[Va (by omega),Va (by omega)]) (ht 13 (by omega)) (ht 14 (by omega)) t88 t89 t94 t95
 have hy:l[j]?=some (l[j]'(by omega)):=U9 (by omega)
 have hyl:=hl _ (Vi (show j < l.length by omega))
 have htk:l.take (j+1)=l.take j ++ [l[j]'(by omega)]:=by rw[Vx,hy]; rfl
 generalize l[j]'(by omega)=y at hy hyl htk
 obtain ⟨id,hui,hid⟩:=hu.sl (by simp; omega)
 rw[Vg] at hui
 have n3:id≠q:=fun e=>by rw[e,hq] at hid; simp at hid
 simp (disch:=omega) only [↓wr,seval,wq,ah,ag,ak,aa,ab,af,ai,ae,t108,t109,t110,u6,u17,hui,hid,A7 hy,n1,n2,n3,hW,hs,oQ (l:=Sl) (i:=y) (by omega),sC]
 refine ⟨by omega,by omega,hyl,by omega,?_⟩
 rw[set_set]
 have ho:my (sF Sl) (l.take (j+1))=my (sF Sl) (l.take j) ||| sF Sl y:=by
  rw[htk]; unfold my; rw[VR]; rfl
 refine aM hm (by omega) ⟨by rw[ho],fun i hi=>?_,t88,t89,t94,t95,by first | exact t108 | (rw[← hui]; exact t108),t109,by first | rfl | (congr 2)⟩
 rw[← ht i hi]
 simp only[qg,Env.put]
 repeat rw[Va (by omega)]
theorem Ss {g:aw} {a:List aR} {n k i:Nat} (hk:k < g.rules.length):bB g a n 0 ((i:Int),(k:Int))=iK g a n k i:=by
 unfold bB
 rw[Vd ⟨by simp only; omega,by simp only; omega,by simp only; omega⟩,Va (fun h=>by have:=h.1; simp only at this; omega),Wx]
 simp
set_option maxHeartbeats 16000000 in
theorem QH {g:aw} {a:List aR} (hA:cF g a) (ha:a.length≤300) {W qn cM bq al c5:Nat} {M M5:bU (Int × Int)} {uw:V} {s e:Nat} {Sl:List BV} {A:List (V × List Nat)} {i:Nat} (hi:i < a.length) (hqb:qn≠bq) (hk5:p8 M5 (bB g a (bg a).length 0)) {fR:Nat→List eM}
  {T:Env} {H:View} {Q:Exit→Env→View→Prop} {v:cD (T,H,Q)}
  (hJ:∃ R:GQ,cW g a H W qn cM M uw s e (bg a) Sl A ((.sl al 0 a.length 1,1,bQ R) :: (kT R ++ iR (bB g a (bg a).length 0) M5))∧R.length=a.length∧(∀ y,y < a.length→(R.getD y (.any,[])).2=if y=i then [] else fR y)∧H bq=.map (bR eU M5) c5)
  (ht:T 1=.aN (au g) 0∧T 6=.ptr W 0 0∧T 7=.mp bq∧T 13=.sl al 0 a.length 1∧T 14=gi i∧T 88=gi a.length∧T 89=gi i∧T 94=gi g.rules.length∧T 95=gi 0)
  (hQ:∀ (T':Env) (H':View),(∃ R:GQ,cW g a H' W qn cM M uw s e (bg a) Sl A ((.sl al 0 a.length 1,1,bQ R) :: (kT R ++ iR (bB g a (bg a).length 0) M5))∧R.length=a.length∧(∀ y,y < a.length→(R.getD y (.any,[])).2=if y=i then zJ g a (sF Sl) i else fR y)∧H' bq=.map (bR eU M5) c5) →
   T' 1=.aN (au g) 0→T' 6=.ptr W 0 0→T' 7=.mp bq→T' 13=.sl al 0 a.length 1→T' 88=gi a.length→T' 89=gi i→Q (.exit 6) T' H'):aZ Tryz.prog uT T H Q v:=by
 have hn1:=pG hA
 have hnl:(bg a).length≤40 * a.length:=lq hA.ok.bk a.length
 have hru:=hA.dG.rules
 obtain ⟨t1,t6,t7,t13,t14,t88,t89,t94,t95⟩:=ht
 refine aZ.up g.rules.length (fun k T H'=>(∃ R:GQ,cW g a H' W qn cM M uw s e (bg a) Sl A ((.sl al 0 a.length 1,1,bQ R) :: (kT R ++ iR (bB g a (bg a).length 0) M5))∧R.length=a.length∧(∀ y,y < a.length→(R.getD y (.any,[])).2=if y=i then (List.range k).filterMap (jg g a (sF Sl) i) else fR y)∧H' bq=.map (bR eU M5) c5) ∧
  T 1=.aN (au g) 0∧T 6=.ptr W 0 0∧T 7=.mp bq∧T 13=.sl al 0 a.length 1∧T 14=gi i∧T 88=gi a.length∧T 89=gi i∧T 94=gi g.rules.length∧T 95=gi k) ⟨by simpa using hJ,t1,t6,t7,t13,t14,t88,t89,t94,t95⟩ ?_
 clear hJ t1 t6 t7 t13 t14 t88 t89 t94 t95
 rintro k m T H1 hm ⟨⟨R,hI,hRl,hR,hmb⟩,t1,t6,t7,t13,t14,t88,t89,t94,t95⟩
 simp (disch:=omega) only [↓wr,seval,wq,ah,ag,ak,aa,ab,af,ai,ae,uT,t94,t95]
 refine av.dec (fun hc=>?_) (fun hc=>?_)
 rotate_left
 ·have hkk:k=g.rules.length:=by omega
  subst hkk
  simp (disch:=omega) only [↓wr,seval,wq,ah,ag,ak,aa,ab,af,ai,ae]
  exact hQ _ _ ⟨R,hI,hRl,hR,hmb⟩ t1 t6 t7 t13 t88 t89
 have hkl:k < g.rules.length:=by omega
 have hfB:=Ss (g:=g) (a:=a) (n:=(bg a).length) (k:=k) (i:=i) hkl
 have hu:ba H1 ((getM M5 ((i:Int),(k:Int))).getD (.emp 1)) 1 (fu (iK g a (bg a).length k i)):=by
  cases hg:getM M5 ((i:Int),(k:Int)) with
  | none =>
   have:bB g a (bg a).length 0 ((i:Int),(k:Int))=[]:=Wc fun hne=>hk5.all _ hne hg
   rw[hfB] at this
   rw[this]; exact .nil
  | some v =>
   obtain ⟨P,Qm,b,rfl,_⟩:=wx hg
   have:=hI.own.1 (v,1,fu (bB g a (bg a).length 0 ((i:Int),(k:Int)))) (by simp[iR])
   rw[hfB] at this
   exact this
 generalize hue:(getM M5 ((i:Int),(k:Int))).getD (.emp 1)=u at hu
 have hul:cH u=some (iK g a (bg a).length k i).length:=by rw[hu.len,Vg]
 have hbl:(iK g a (bg a).length k i).length≤100000:=by
  unfold iK
  have:=VZ (fun x=>decide ((aE g k).left=(du a x).2∧ke a (du a x).1.toNat (aE g k).right=i)) (List.range (bg a).length)
  rw[List.length_range] at this
  omega
 have hbn:∀ x∈iK g a (bg a).length k i,x < (bg a).length:=fun x hx=>by
  unfold iK at hx
  exact V5.1 (VX.1 hx).1
 have hmt:dB Tryz.prog 114=some (119,43):=by kernel_rfl
 have hz:zeroV Tryz.prog 43=some (.emp 1):=by kernel_rfl
 simp (disch:=omega) only [↓wr,seval,wq,ah,ag,ak,aa,ab,af,ai,ae,t7,t14,t95]
 refine FT (kv:=eU) (kt:=119) (et:=43) (z:=.emp 1) (id:=bq) (c:=c5) (m:=M5) (k:=((i:Int),(k:Int))) hmt hz (z6 JZ) (by first | rfl | simp (disch:=omega) only [↓wr,seval,wq,ah,ag,ak,aa,ab,af,ai,ae]) (by first | rfl | (simp (disch:=omega) only [↓wr,seval,wq,ah,ag,ak,aa,ab,af,ai,ae]; rfl)) hmb ?_
 rw[hue]
 have hst:(List.range (k+1)).filterMap (jg g a (sF Sl) i)=(List.range k).filterMap (jg g a (sF Sl) i) ++ (jg g a (sF Sl) i k).toList:=by
  rw[V0,List.filterMap_append]
  congr 1
 generalize hbk:iK g a (bg a).length k i=bl at *
 simp (disch:=omega) only [↓wr,seval,wq,ah,ag,ak,aa,ab,af,ai,ae,hul]
 refine av.eq (fun h0=>?_) (fun h0=>?_)
 ·simp (disch:=omega) only [↓wr,seval,wq,ah,ag,ak,aa,ab,af,ai,ae,t1,t6,t7,t13,t14,t88,t89,t94,t95]
  have hnil:bl=[]:=Ws.1 (by omega)
  have hno:jg g a (sF Sl) i k=none:=by unfold jg; rw[hbk,Vd hnil]
  refine aM hm (by omega) ⟨⟨R,hI,hRl,fun y hy=>?_,hmb⟩,t1,t6,t7,t13,t14,t88,t89,t94,by first | rfl | (congr 2)⟩
  rw[hst,hno]
  simpa using hR y hy
 have hso:jg g a (sF Sl) i k=some ⟨k,my (sF Sl) bl⟩:=by unfold jg; rw[hbk,Va (fun e=>h0 (by rw[e]; rfl))]
 simp (disch:=omega) only [↓wr,seval,wq,ah,ag,ak,aa,ab,af,ai,ae,t6,hul]
 intro q hq
 rw[set_set]
 obtain ⟨hW,_,hs,he,n1,n2,n3⟩:=hI.at hn1
 refine TE hW hs hI.sl hu hbn hbl hq ⟨t6,rfl,rfl,rfl,rfl⟩ (fun T' hT' u13 u14 u88 u89 u94 u95=>?_)
 have v1:T' 1=.aN (au g) 0:=(hT' 1 (by omega)).trans t1
 have v6:T' 6=.ptr W 0 0:=(hT' 6 (by omega)).trans t6
 have v7:T' 7=.mp bq:=(hT' 7 (by omega)).trans t7
 have v13:T' 13=.sl al 0 a.length 1:=u13.trans t13
 have v14:T' 14=gi i:=u14.trans t14
 have v17:T' 17=.ptr q 0 0:=(hT' 17 (by omega)).trans rfl
 have v88:T' 88=gi a.length:=u88.trans t88
 have v89:T' 89=gi i:=u89.trans t89
 have v94:T' 94=gi g.rules.length:=u94.trans t94
 have v95:T' 95=gi k:=u95.trans t95
 clear hT' u13 u14 u88 u89 u94 u95 t1 t6 t7 t13 t14 t88 t89 t94 t95 hW hs he n1 n2 n3
 have hI2:=hI.fresh hq (o:=.arr 2 [[gi (k:Int),gw (my (sF Sl) bl)]])
 have hmb2:(H1.set q (.arr 2 [[gi (k:Int),gw (my (sF Sl) bl)]])) bq=.map (bR eU M5) c5:=by
  simp only[View.set]; rw[Va (fun e=>by rw[← e,hmb] at hq; simp at hq)]; exact hmb
 have hq2:(H1.set q (.arr 2 [[gi (k:Int),gw (my (sF Sl) bl)]])) q=.arr 2 [[gi (k:Int),gw (my (sF Sl) bl)]]:=by simp[View.set]
 generalize H1.set q (.arr 2 [[gi (k:Int),gw (my (sF Sl) bl)]])=H2 at hI2 hmb2 hq2 ⊢
 clear hI hmb hq hu
 obtain ⟨R1,⟨ui,li⟩,R2,rfl,hR1,_⟩:=mO (l:=R) (i:=i) (by omega)
 have hlo:kT (R1 ++ (ui,li) :: R2)=kT R1 ++ (ui,2,jG li) :: kT R2:=by simp[kT]
 have hown:=hI2.own
 rw[hlo] at hown
 have hrl:(bQ (R1 ++ (ui,li) :: R2)).length=a.length:=by rw[bQ,Vg]; exact hRl
 have hal:H2 al=.arr 1 (bQ (R1 ++ (ui,li) :: R2)):=by
  have:=hI2.own.1 (.sl al 0 a.length 1,1,bQ (R1 ++ (ui,li) :: R2)) (by simp)
  rcases this with ⟨_,kk,h⟩ | ⟨w,h1,h2⟩
  ·simp at h
  ·simp only[V.sl.injEq] at h1
   rw[h1.1]; exact h2
 have hri:(bQ (R1 ++ (ui,li) :: R2)).getD i []=[ui]:=by rw[← hR1]; simp[bQ]
 have hli:li=(List.range k).filterMap (jg g a (sF Sl) i):=by
  have:=hR i hi
  rw[Vd rfl] at this
  have e:((R1 ++ (ui,li) :: R2).getD i (V.any,([]:List eM))).2=li:=by rw[← hR1]; simp
  rw[e] at this
  exact this
 have hlil:li.length≤40:=by
  rw[hli]
  have:=List.length_filterMap_le (jg g a (sF Sl) i) (List.range k)
  rw[List.length_range] at this
  omega
 simp (disch:=omega) only [↓wr,seval,wq,ah,ag,ak,aa,ab,af,ai,ae,v13,v14,v17,hal,hri,hq2]
 refine ⟨hi,by omega,fun q9 hq9=>?_⟩
 have hel:bZ (H2.set q9 (.arr 2 [[gi (k:Int),gw (my (sF Sl) bl)]])) (.sl q9 0 1 2)=some ([[gi (k:Int),gw (my (sF Sl) bl)]],[q9]):=by simp[bZ,View.set]
 simp (disch:=omega) only [↓wr,seval,wq,ah,ag,ak,aa,ab,af,ai,ae,hel]
 have lx:∀ (a b c d y r:cz) (X R1 R2 K:List cz),a :: b :: c :: d :: (X ++ y :: ((R1 ++ r :: R2) ++ K))=(a :: b :: c :: d :: (X ++ y :: R1)) ++ r :: (R2 ++ K):=fun a b c d y r X R1 R2 K=>by simp
 have ly:∀ (a b c d y:cz) (X K:List cz),a :: b :: c :: d :: (X ++ y :: K)=(a :: b :: c :: d :: X) ++ y :: K:=fun a b c d y X K=>by simp
 rw[lx] at hown
 have hown2:=hown.perm VS
 refine cn (hown2.fresh hq9) (by simp[aU]) (by unfold aJ; simp[jG]; omega) (by unfold aJ; simp[jG]; omega) ?_
 intro u2 H9 o9 l9
 have hal9:H9 al=.arr 1 (bQ (R1 ++ (ui,li) :: R2)):=by
  have:=o9.1 (.sl al 0 a.length 1,1,bQ (R1 ++ (ui,li) :: R2)) (by simp)
  rcases this with ⟨_,kk,h⟩ | ⟨w,h1,h2⟩
  ·simp at h
  ·simp only[V.sl.injEq] at h1
   rw[h1.1]; exact h2
 have hm9:=l9.map (hown2.fresh hq9).head (b:=bq) (c:=c5) (es:=bR eU M5) (by
  simp only[View.set]; rw[Va (fun e=>by rw[← e,hmb2] at hq9; simp at hq9)]; exact hmb2)
 have hmq9:=l9.map (hown2.fresh hq9).head (b:=qn) (c:=cM) (es:=bR eU M) (by
  have:=hI2.mp
  simp only[View.set]; rw[Va (fun e=>by rw[← e,this] at hq9; simp at hq9)]; exact this)
 have hse:(bQ (R1 ++ (ui,li) :: R2)).set i [u2]=bQ (R1 ++ (u2,li ++ [⟨k,my (sF Sl) bl⟩]) :: R2):=by rw[← hR1]; simp[bQ]
 have o10:=o9.perm VS.symm
 rw[← lx,ly] at o10
 have o11:=(o10.perm VS).put (es':=bQ (R1 ++ (u2,li ++ [(⟨k,my (sF Sl) bl⟩:eM)]) :: R2)) (by simp[bQ]) (by rw[hrl])
 have o12:=o11.perm VS.symm
 rw[← ly] at o12
 simp (disch:=omega) only [↓wr,seval,wq,ah,ag,ak,aa,ab,af,ai,ae,v1,v6,v7,v13,v14,v88,v89,v94,v95,hal9,hri,o9.head.cells,o9.head.gR,hse]
 refine ⟨hi,by omega,?_⟩
 refine aM hm (by omega) ⟨⟨R1 ++ (u2,li ++ [⟨k,my (sF Sl) bl⟩]) :: R2,⟨?_,?_,hI2.bo,hI2.num,hI2.sl,hI2.al⟩,by simpa using hRl,fun y hy=>?_,?_⟩,v1,v6,v7,v13,v14,v88,v89,v94,by first | rfl | (congr 2)⟩
 ·rw[show kT (R1 ++ (u2,li ++ [(⟨k,my (sF Sl) bl⟩:eM)]) :: R2)=kT R1 ++ (u2,2,jG li ++ [[gi (k:Int),gw (my (sF Sl) bl)]]) :: kT R2 by simp[kT,jG,CQ]]
  exact o12
 ·show (H9.set al _) qn=_
  simp only[View.set]; rw[Va (fun e=>by rw[← e,hmq9] at hal9; simp at hal9)]; exact hmq9
 ·by_cases e:y=i
  ·rw[Vd e,hst,hso,e,← hR1]
   simp[hli,hR1]
  ·rw[A8 (y:=(ui,li)) (by rw[hR1]; exact e),Va e]
   have:=hR y hy
   rw[Va e] at this
   exact this
 ·show (H9.set al _) bq=_
  simp only[View.set]; rw[Va (fun e=>by rw[← e,hm9] at hal9; simp at hal9)]; exact hm9
theorem cW.Q7 {g:aw} {a:List aR} {H:View} {W qn cM:Nat} {M:bU (Int × Int)} {uw:V} {s e:Nat} {ws:List (Int × Int)} {Sl:List BV} {A:List (V × List Nat)} {y:cz} {K:List cz} (h:cW g a H W qn cM M uw s e ws Sl A (y :: K)):∀ n:Nat,cW g a H W qn cM M uw s e ws Sl A (y :: (kT (List.replicate n (.emp 1,[])) ++ K))
 | 0=>by simpa [kT] using h
 | n+1=>by
  have ih:=cW.Q7 h n
  have lz:∀ (a b c d y r:cz) (X K:List cz),a :: b :: c :: d :: (X ++ (y :: r :: K))=(a :: b :: c :: d :: (X ++ [y])) ++ r :: K:=fun a b c d y r X K=>by simp
  have lw:∀ (a b c d y:cz) (X K:List cz),a :: b :: c :: d :: (X ++ (y :: K))=(a :: b :: c :: d :: (X ++ [y])) ++ K:=fun a b c d y X K=>by simp
  have ho:=ih.own.emp (k:=1) (sz:=2)
  rw[lw] at ho
  have ho2:=ho.perm VS.symm
  rw[← lz] at ho2
  refine ⟨?_,ih.mp,ih.bo,ih.num,ih.sl,ih.al⟩
  rw[show kT (List.replicate (n+1) ((.emp 1,[]):V × List eM)) ++ K=(.emp 1,2,[]) :: (kT (List.replicate n (.emp 1,[])) ++ K) by simp[kT,jG,List.replicate_succ]]
  exact ho2
set_option maxHeartbeats 16000000 in
theorem OI (g:aw) (hg:g.Ok) (hsm:g.Small):cR Tryz.prog 33 [.agg (au g)] (.bI [iD (pT g).1,gi (pT g).2]):=by
 refine cR.of (dZ g) ?_
 have hB:=(MU g hg hsm).pure
 refine aC.of mixed F3 ?_
 simp only[au,encS] at hB
 simp (disch:=omega) only [↓wr,seval,wq,ah,ag,ak,aa,ab,af,ai,ae,ED,au,encS]
 refine aD.pure hB (by kernel_rfl) ?_
 unfold pT
 simp (disch:=omega) only [↓wr,seval,wq,ah,ag,ak,aa,ab,af,ai,ae]
 refine av.ne (fun h=>?_) (fun h=>?_)
 ·simp (disch:=omega) only [↓wr,seval,wq,ah,ag,ak,aa,ab,af,ai,ae]
  intro h' _
  rw[Va h]
  exact j9 (.emp _)
 rw[Vd h]
 have hr:isRed g=true:=by
  rcases E4 g with ⟨_,hr⟩ | ⟨h2,hr⟩ | ⟨h2,hr⟩
  ·exact hr
  ·exact hr
  ·rw[h2] at h; simp at h
 have hr9:=ka hr
 have hf:=oo hr
 obtain ⟨o1,o2,o3⟩:=A3 hf h
 have hA:cF g (cG g).1:=⟨hf,o1,Md hf h,L7 hf h,o2⟩
 generalize (cG g).1=a at *
 have hn1:=pG hA
 have hnl:(bg a).length≤40 * a.length:=lq hA.ok.bk a.length
 have hwv:=QL g hg hsm a o3 (fun s hs=>⟨o1.bk s hs,o1.sym s hs⟩) (yD hA) hn1
 simp only[au,encS] at hwv
 simp (disch:=omega) only [↓wr,seval,wq,ah,ag,ak,aa,ab,af,ai,ae,au,encS]
 refine aD.dP ((hwv _).mono ?_)
 rintro r H1 ⟨W,qn,cM,M,uw,s,e,rfl,hI⟩
 simp (disch:=omega) only [↓wr,seval,wq,ah,ag,ak,aa,ab,af,ai,ae]
 refine aD.dP ((Sb hA hr9 o3 hI).mono ?_)
 rintro r H2 ⟨e2,Sl,A,hI2,hrd⟩
 obtain ⟨hW,⟨w,huw,hw⟩,hs,he,n1,n2,n3⟩:=hI2.at hn1
 have hul:cH uw=some (bg a).length:=by rw[huw]; rfl
 have hWd:∀ q,H2 q=.dead→W≠q:=fun q hq e=>by rw[e,hq] at hW; simp at hW
 simp (disch:=omega) only [↓wr,seval,wq,ah,ag,ak,aa,ab,af,ai,ae,hW,hul]
 refine ⟨⟨by omega,by unfold aJ; omega,by unfold aJ; omega⟩,fun h0=>by omega,fun _ e3 he3=>?_⟩
 have w1:=hWd e3 he3
 simp (disch:=omega) only [↓wr,seval,wq,ah,ag,ak,aa,ab,af,ai,ae,w1,hul]
 intro bq hbq
 obtain ⟨b1,hbq⟩:=iJ hbq
 obtain ⟨b2,hbq⟩:=iJ hbq
 simp (disch:=omega) only [↓wr,seval,wq,ah,ag,ak,aa,ab,af,ai,ae,Ne.symm b1,hul]
 have hI3:=hI2.Ri he3
 have hbq3:((H2.set e3 (.arr 1 (List.replicate (bg a).length [V.emp 1]))).set W (.arr 10 [[V.aK (g.ay.map b6),.aK (g.az.map fun s=>[gs s]),.aK (g.rules.map aO),gi g.start,bm a,bP (aA g false),.mp qn,uw,.sl s 0 (bg a).length 1,.sl e3 0 (bg a).length 1]])) bq=.dead:=by
  simp only[View.set]; rw[Va b1,Va b2]; exact hbq
 generalize ((H2.set e3 (.arr 1 (List.replicate (bg a).length [V.emp 1]))).set W (.arr 10 [[V.aK (g.ay.map b6),.aK (g.az.map fun s=>[gs s]),.aK (g.rules.map aO),gi g.start,bm a,bP (aA g false),.mp qn,uw,.sl s 0 (bg a).length 1,.sl e3 0 (bg a).length 1]]))=H3 at hI3 hbq3 ⊢
 have hqb:qn≠bq:=fun e=>by have:=hI3.mp; rw[e,hbq3] at this; simp at this
 have hI4:=hI3.fresh hbq3 (o:=.map [] 0)
 have hmb4:(H3.set bq (.map [] 0)) bq=.map (bR eU []) 0:=by simp[View.set,bR]
 generalize H3.set bq (.map [] 0)=H4 at hI4 hmb4 ⊢
 clear hI hI2 hI3 hbq3 hbq he3 hW hw hs he n1 n2 n3 hWd w1 b1 b2
 refine of_walks hA hr9 o3 hqb ⟨_,0,[],hI4,fun z hz=>by simp[U8,hz,jO],hmb4,⟨by simp,by simp⟩,⟨by simp,fun k hk=>absurd (by rw[Sf]) hk⟩⟩ ⟨rfl,rfl,rfl,rfl,rfl,rfl,rfl⟩ (fun T' H' hF u1 u4 u6 u7=>?_)
 obtain ⟨A5,c5,M5,hI5,hf5,hm5,hb5,hk5⟩:=hF
 clear hI4 hmb4
 obtain ⟨-,-,hs5,-⟩:=hI5.at hn1
 have hE2:∀ x,x < (bg a).length→(jO g a (bg a).length x).length≤1000000000∧∀ y∈jO g a (bg a).length x,y < (bg a).length:=fun x hx=>⟨V1 (AU hf _ _) (by omega),fun y hy=>((Br _).1 hy).1⟩
 have hCC:=hI5.SV hn1 (E:=jO g a (bg a).length) hf5 hE2
 simp (disch:=omega) only [↓wr,seval,wq,ah,ag,ak,aa,ab,af,ai,ae,u6]
 refine aD.dP ((Fl hCC hn1 (by omega) Sl hs5 hI5.sl).mono ?_)
 rintro r H6 ⟨Sl',k1,k2,k3,k4⟩
 have hI6:=(hI5.yx (Sl':=Sl') k1).stay (H':=H6) fun id hid=>by
  simp only[View.set] at hid ⊢
  by_cases e:id=s
  ·rw[Vd e,e]; exact k2
  ·rw[Va e] at hid ⊢
   exact k4 id hid e
 have hm6:H6 bq=.map (bR eU M5) c5:=by
  rw[k4 bq (by rw[hm5]; simp) (fun e=>by rw[e,hs5] at hm5; simp at hm5)]; exact hm5
 have hS:∀ (x p t:Nat) (B:Int),(bg a)[x]?=some ((p:Int),B)→((sF Sl' x).getLsbD t=true↔wQ g a p B t):=fun x p t B hx =>
  (k3 x t (Vn.1 hx).1).trans (P1 hA hrd hx)
 simp (disch:=omega) only [↓wr,seval,wq,ah,ag,ak,aa,ab,af,ai,ae,u4,bm]
 refine ⟨⟨Vj _,by unfold aJ; omega,by unfold aJ; omega⟩,fun h0=>by omega,fun _ al hal=>?_⟩
 have hI7:=hI6.SJ hal 1 (List.replicate a.length [V.emp 1])
 rw[WO] at hI7
 have hI8:=hI7.Q7 a.length
 rw[show List.replicate a.length [V.emp 1]=bQ (List.replicate a.length ((.emp 1,[]):V × List eM)) by simp[bQ]] at hI8
 have hm8:(H6.set al (.arr 1 (List.replicate a.length [V.emp 1]))) bq=.map (bR eU M5) c5:=by
  simp only[View.set]; rw[Va (fun e=>by rw[← e,hm6] at hal; simp at hal)]; exact hm6
 rw[show List.replicate a.length [V.emp 1]=bQ (List.replicate a.length ((.emp 1,[]):V × List eM)) by simp[bQ]] at hm8
 rw[show List.replicate a.length [V.emp 1]=bQ (List.replicate a.length ((.emp 1,[]):V × List eM)) by simp[bQ]]
 generalize H6.set al (.arr 1 (bQ (List.replicate a.length ((.emp 1,[]):V × List eM))))=H8 at hI8 hm8 ⊢
 try simp (disch:=omega) only [↓wr,seval,wq,ah,ag,ak,aa,ab,af,ai,ae]
 refine aZ.up a.length (fun i T H'=>(∃ R:GQ,cW g a H' W qn cM M uw s e3 (bg a) Sl' A5 ((.sl al 0 a.length 1,1,bQ R) :: (kT R ++ iR (bB g a (bg a).length 0) M5))∧R.length=a.length∧(∀ y,y < a.length→(R.getD y (.any,[])).2=if y < i then zJ g a (sF Sl') y else [])∧H' bq=.map (bR eU M5) c5) ∧
  T 1=.aN (au g) 0∧T 6=.ptr W 0 0∧T 7=.mp bq∧T 13=.sl al 0 a.length 1∧T 88=gi a.length∧T 89=gi i) ⟨⟨_,hI8,by simp,fun y hy=>by simp[U8,hy],hm8⟩,u1,u6,u7,rfl,rfl,rfl⟩ ?_
 clear hI6 hI7 hI8 hm8 u1 u4 u6 u7
 rintro i k T H9 hk ⟨⟨R,hI9,hRl,hR,hm9⟩,t1,t6,t7,t13,t88,t89⟩
 simp (disch:=omega) only [↓wr,seval,wq,ah,ag,ak,aa,ab,af,ai,ae,AB,t88,t89]
 refine av.dec (fun hc=>?_) (fun hc=>?_)
 rotate_left
 ·simp (disch:=omega) only [↓wr,seval,wq,ah,ag,ak,aa,ab,af,ai,ae,t13]
  rintro h' rfl
  have hal9:=hI9.own.1 (.sl al 0 a.length 1,1,bQ R) (by simp)
  have hLk:R.map (·.2)=rJ g a:=by
   unfold rJ
   refine List.ext_getElem (by simp[hRl]) fun y h1 h2=>?_
   rw[Vg] at h1
   have:=hR y (by omega)
   rw[Vd (by omega),PD hA hr hS (by omega)] at this
   rw[List.getElem_map,List.getElem_map,List.getElem_range,← this]
   simp[U8,h1]
  rw[← hLk]
  exact j9 (Kl hal9 fun x hx=>hI9.own.1 (x.1,2,jG x.2) (by
   have:(x.1,2,jG x.2)∈kT R:=Vw.2 ⟨x,hx,rfl⟩
   simp only[Vp,VE,this,true_or,or_true]))
 simp (disch:=omega) only [↓wr,seval,wq,ah,ag,ak,aa,ab,af,ai,ae,t1,t88,t89,au,encS]
 refine QH hA o3 (i:=i) (by omega) hqb hk5 (fR:=fun y=>if y < i then zJ g a (sF Sl') y else []) ⟨R,hI9,hRl,fun y hy=>?_,hm9⟩ ⟨t1,t6,t7,t13,rfl,t88,t89,rfl,rfl⟩ (fun T' H' hF v1 v6 v7 v13 v88 v89=>?_)
 ·rw[hR y hy]
  by_cases e:y=i
  ·rw[Vd e,Va (by omega)]
  ·rw[Va e]
 ·obtain ⟨R9,hI10,hRl9,hR9,hm10⟩:=hF
  simp (disch:=omega) only [↓wr,seval,wq,ah,ag,ak,aa,ab,af,ai,ae,v1,v6,v7,v13,v88,v89]
  refine aM hk (by omega) ⟨⟨R9,hI10,hRl9,fun y hy=>?_,hm10⟩,v1,v6,v7,v13,v88,by first | rfl | (congr 2)⟩
  rw[hR9 y hy]
  by_cases e:y=i
  ·rw[Vd e,Vd (by omega),e]
  ·rw[Va e]
   by_cases e2:y < i
   ·rw[Vd e2,Vd (by omega)]
   ·rw[Va e2,Va (by omega)]
def oK:SC :=
 .seq (.seq (ao [aj 29 6,aj 30 0,aj 31 5,aP 32 1 30 31,ax 33 32,aX 34 33,bc 35 .lss 29 34]) <|
 .cond (.tmp 35) (.skip) (.exit 2)) <|
 .seq (.block 3 (.seq (ao [aj 38 0,aj 39 5,aP 40 1 38 39,ax 41 40,aj 42 6,aP 43 2 41 42,bp 44 2 43,aj 45 1,aj 46 5,aP 47 1 45 46,ax 48 47,aj 49 6,aP 50 2 48 49,bp 51 2 50,((some 52),.op (.old (.binOp .neq 69 (.tmp 44) (.tmp 51) 69) 4))]) <|
 .cond (.tmp 52) (.seq (ao [bK 4 false]) <|
 .ret) (.skip))) <|
 ao [aj 36 6,aQ 37 .add 36 1,aj 6 37]
def nW:SC :=
 .seq (.seq (ao [aj 12 5,aj 13 0,aX 14 13,bc 15 .lss 12 14]) <|
 .cond (.tmp 15) (.skip) (.exit 0)) <|
 .seq (.block 1 (.seq (.seq (ao [aj 18 0,aj 19 5,aP 20 1 18 19,ax 21 20,aX 22 21,aj 23 1,aj 24 5,aP 25 1 23 24,ax 26 25,aX 27 26,bc 28 .neq 22 27]) <|
 .cond (.tmp 28) (.seq (ao [bK 4 false]) <|
 .ret) (.skip)) <|
 .seq (ao [bj 6 0]) <|
 .block 2 (.loop oK))) <|
 ao [aj 16 5,aQ 17 .add 16 1,aj 5 17]
def qV:SF:=⟨.seq (ao [bK 4 false]) <|
 .seq (.seq (ao [aj 7 0,aX 8 7,aj 9 1,aX 10 9,bc 11 .neq 8 10]) <|
 .cond (.tmp 11) (.seq (ao [bK 4 false]) <|
 .ret) (.skip)) <|
 .seq (.seq (ao [bj 5 0]) <|
 .block 0 (.loop nW)) <|
 .seq (ao [bK 4 true]) <|
 .ret,
 [.tmp 4],53⟩
theorem vE:aV Tryz.prog 35 []=some qV:=by kernel_rfl
def ov:SF:=⟨.seq (ao [cL 1 0,bK 2 false]) <|
 .seq (.seq (ao [bC 8 31 [],dd 9 8]) <|
 .cond (.tmp 9) (.seq (ao [bK 2 false]) <|
 .ret) (.skip)) <|
 .seq (.seq (ao [bp 10 4 1,bC 11 16 [10]]) <|
 .cond (.tmp 11) (.seq (ao [bK 2 true]) <|
 .ret) (.skip)) <|
 .seq (ao [bp 12 4 1,bC 13 32 [12],((some 3),.op (.alloc [(.emp 1),(.emp 1),(.emp 1),(.val (.int .i64 0))])),(none,.op (.store 4 (.tmp 3) (.tmp 13)))]) <|
 .seq (ao [bp 15 4 3,bC 16 33 [15],aj 14 16,fK 17 0 14,fK 18 1 14,aj 4 17,aj 5 18]) <|
 .seq (ao [bp 20 4 1,bC 21 34 [20],aj 19 21,fK 22 0 19,fK 23 1 19,aj 6 22,aj 7 23]) <|
 .seq (.region false [⟨none,[aj 24 4,aj 25 6,bC 26 35 [24,25],aj 27 26]⟩,⟨(some (27,true)),[aj 28 5,aj 29 7,bc 30 .eql 28 29]⟩,⟨none,[eF 31 27 30,aj 32 31]⟩,⟨(some (32,true)),[bp 33 4 3,bp 34 4 1,bC 35 36 [33,34]]⟩,⟨none,[eF 36 32 35,aj 2 36]⟩]) <|
 .ret,
 [.tmp 2],37⟩
theorem tw:aV Tryz.prog 8 [1]=some ov:=by kernel_rfl
theorem IF (x y:eM):fL Tryz.prog 9998 #[.int .i64 x.aF,.int .u32 x.set.toNat] #[.int .i64 y.aF,.int .u32 y.set.toNat]
  [{ name:= "Rule",type:=3,offset:=0,embedded:=false,tag:= "",pkgPath:= "",byteOffset:=0 },{ name:= "Set",type:=67,offset:=1,embedded:=false,tag:= "",pkgPath:= "",byteOffset:=8 }] ((x.aF == y.aF) && ((((x.set.toNat:Nat):Int) == ((y.set.toNat:Nat):Int)) && true)) :=
 .int _ _ _ .i64 _ _ (by decide) Tryz.underlying3 rfl rfl (.int _ _ _ .u32 _ _ (by decide) Tryz.underlying67 rfl rfl .nil)
set_option maxHeartbeats 4000000 in
theorem Mi (a:List (List eM)) (ha:aS a) (hs:∀ s∈a,aS s):aI Tryz.prog 35 [iD a,iD a] (gb true):=by
 unfold aS at ha
 refine aI.val (by
  intro v hv; simp at hv
  subst hv; exact IM _) fun H=>?_
 refine aC.of mixed vE ?_
 simp (disch:=omega) only [↓wr,seval,wq,ah,ag,ak,aa,ab,af,ai,ae,qV,iD]
 refine av.ne (fun h=>absurd rfl h) (fun _=>?_)
 simp (disch:=omega) only [↓wr,seval,wq,ah,ag,ak,aa,ab,af,ai,ae]
 refine aZ.up a.length (fun i T H'=>T 0=iD a∧T 1=iD a∧T 5=gi i) ⟨rfl,rfl,rfl⟩ ?_
 rintro i k T H' hk ⟨t0,t1,t5⟩
 simp (disch:=omega) only [↓wr,seval,wq,ah,ag,ak,aa,ab,af,ai,ae,nW,t0,t1,t5,iD]
 refine av.dec (fun hc=>?_) (fun hc=>?_)
 ·have hx:a[i]?=some (a[i]'(by omega)):=U9 (by omega)
  have k2:=hs _ (Vi (show i < a.length by omega))
  generalize a[i]'(by omega)=x at hx k2
  unfold aS at k2
  simp (disch:=omega) only [↓wr,seval,wq,ah,ag,ak,aa,ab,af,ai,ae,t0,t1,t5,iD,Vc,hx,Vh,jG]
  refine av.ne (fun h=>absurd rfl h) (fun _=>?_)
  simp (disch:=omega) only [↓wr,seval,wq,ah,ag,ak,aa,ab,af,ai,ae,t0,t1,t5]
  refine aZ.up x.length (fun j T H'=>T 0=iD a∧T 1=iD a∧T 5=gi i∧T 6=gi j) ⟨t0,t1,t5,rfl⟩ ?_
  clear t0 t1 t5
  rintro j m T H2 hm2 ⟨t0,t1,t5,t6⟩
  simp (disch:=omega) only [↓wr,seval,wq,ah,ag,ak,aa,ab,af,ai,ae,oK,t0,t1,t5,t6,iD,Vc,hx,Vh,jG]
  refine av.dec (fun hc2=>?_) (fun hc2=>?_)
  ·have hy:x[j]?=some (x[j]'(by omega)):=U9 (by omega)
   generalize x[j]'(by omega)=y at hy
   simp (disch:=omega) only [↓wr,seval,wq,ah,ag,ak,aa,ab,af,ai,ae,t0,t1,t5,t6,iD,Vc,hx,hy,Vh,jG,CQ]
   refine iw (xs:=#[.int .i64 y.aF,.int .u32 y.set.toNat]) (ys:=#[.int .i64 y.aF,.int .u32 y.set.toNat]) Tryz.underlying69 (by kernel_rfl) (by kernel_rfl) ?_ ?_ (IF y y) (.inr ⟨rfl,rfl⟩) ?_
   ·rfl
   ·rfl
   simp only[WE,Bool.and_self,Xf]
   simp (disch:=omega) only [↓wr,seval,wq,ah,ag,ak,aa,ab,af,ai,ae,t0,t1,t5,t6]
   exact aM hm2 (by omega) ⟨t0,t1,t5,rfl⟩
  ·simp (disch:=omega) only [↓wr,seval,wq,ah,ag,ak,aa,ab,af,ai,ae,t0,t1,t5,t6]
   exact aM hk (by omega) ⟨t0,t1,rfl⟩
 ·simp (disch:=omega) only [↓wr,seval,wq,ah,ag,ak,aa,ab,af,ai,ae]
theorem IY (g:aw):(pT g).1.length≤300∧∀ r∈(pT g).1,r.length≤287:=by
 unfold pT
 split
 ·rename_i h
  have hr:isRed g=true:=by
   rcases E4 g with ⟨_,hr⟩ | ⟨h2,hr⟩ | ⟨h2,hr⟩
   ·exact hr
   ·exact hr
   ·rw[h2] at h; simp at h
  have hf:=oo hr
  obtain ⟨o1,o2,o3⟩:=A3 hf h
  refine ⟨by simpa [rJ] using o3,fun r hr2=>?_⟩
  simp only[rJ,Vw,V5] at hr2
  obtain ⟨i,hi,rfl⟩:=hr2
  unfold qf
  refine V1 (List.length_filterMap_le _ _) ?_
  have hcl:(aY g (cG g).1).getD i []=cw g ((cG g).1.getD i bH).bh:=by
   unfold aY
   simp[U8,U9 hi]
  rw[hcl]
  have hm:=Vf (getD_some (d:=bH) hi)
  exact hX hf (jU _ _) fun y hy=>((cY hf (o1.bh _ hm).2.2).1 hy).has (o1.bh _ hm).2.2
 ·simp
set_option maxHeartbeats 4000000 in
theorem NZ (g:aw) (hg:g.Ok):aI Tryz.prog 8 [.agg (au g)] (gb true):=by
 refine aI.val (dZ g) fun H=>?_
 refine aC.of mixed tw ?_
 simp (disch:=omega) only [↓wr,seval,wq,ah,ag,ak,aa,ab,af,ai,ae,ov,au,encS]
 refine aD.pure Ls (by kernel_rfl) ?_
 simp (disch:=omega) only [↓wr,seval,wq,ah,ag,ak,aa,ab,af,ai,ae,au,encS]
 refine aD.pure (PB g) (by kernel_rfl) ?_
 simp (disch:=omega) only [↓wr,seval,wq,ah,ag,ak,aa,ab,af,ai,ae]
 refine av.split (fun e=>?_) (fun e=>?_)
 ·simp (disch:=omega) only [↓wr,seval,wq,ah,ag,ak,aa,ab,af,ai,ae]
 have h0:=(ND g (K9 e)).pure
 have h1:=(OI g hg (IJ e)).pure
 have h2:=(RL g hg).pure
 have h4:=D7 g g hg
 rw[Xi rfl] at h4
 obtain ⟨l1,l2⟩:=IY g
 generalize pT g=r at h1 h2 l1 l2
 obtain ⟨a,e2⟩:=r
 simp only at h1 h2 l1 l2
 have h3:=Mi a (by unfold aS; omega) (fun s hs=>by have:=l2 s hs; unfold aS; omega)
 simp only[au,encS] at h0 h1 h2 h4
 simp (disch:=omega) only [↓wr,seval,wq,ah,ag,ak,aa,ab,af,ai,ae,au,encS]
 refine aD.pure h0 (by kernel_rfl) ?_
 simp (disch:=omega) only [↓wr,seval,wq,ah,ag,ak,aa,ab,af,ai,ae,au,encS]
 intro q hq
 rw[set_set]
 have hqq:(H.set q (.arr 4 [[.aK (g.ay.map b6),.aK (g.az.map fun s=>[gs s]),.aK (g.rules.map aO),gi g.start]])) q=.arr 4 [[.aK (g.ay.map b6),.aK (g.az.map fun s=>[gs s]),.aK (g.rules.map aO),gi g.start]]:=by simp[View.set]
 generalize H.set q (.arr 4 [[.aK (g.ay.map b6),.aK (g.az.map fun s=>[gs s]),.aK (g.rules.map aO),gi g.start]])=H1 at hqq ⊢
 refine aD.pure h1 (by kernel_rfl) ?_
 simp (disch:=omega) only [↓wr,seval,wq,ah,ag,ak,aa,ab,af,ai,ae,au,encS]
 refine aD.pure h2 (by kernel_rfl) ?_
 simp (disch:=omega) only [↓wr,seval,wq,ah,ag,ak,aa,ab,af,ai,ae]
 refine aD.pure h3 (by kernel_rfl) ?_
 simp (disch:=omega) only [↓wr,seval,wq,ah,ag,ak,aa,ab,af,ai,ae]
 refine av.eq (fun _=>?_) (fun h=>absurd rfl h)
 simp (disch:=omega) only [↓wr,seval,wq,ah,ag,ak,aa,ab,af,ai,ae,hqq,au,encS]
 refine aD.pure h4 (by kernel_rfl) ?_
 simp (disch:=omega) only [↓wr,seval,wq,ah,ag,ak,aa,ab,af,ai,ae]
end Gv
