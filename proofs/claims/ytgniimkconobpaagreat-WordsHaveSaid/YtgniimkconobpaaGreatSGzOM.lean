/-
  Part 13 of the proof: what the machine does and what the functions answer.
  Conditions: those that each lemma names.
-/
import Derived.Test.YtgniimkconobpaaGreatSGzOL
set_option linter.unusedSimpArgs false
set_option linter.unusedVariables false
set_option linter.unusedSimpArgs false
set_option maxRecDepth 100000
namespace Gv
open Go Go.Proofs
def ik (g:au) (x:Item):Bool:=match g.rules[x.bq]? with
  | some R=>decide (R.left=g.start) && decide (x.b8=0) && decide (x.dot=R.right.length)
  | none=>false
def Kept (H H':View):Prop:=∀ id,H id≠.dead→H' id=H id
theorem Kept.refl (H:View):Kept H H:=fun _ _=>rfl
theorem Kept.trans {H H' H'':View} (h:Kept H H') (h':Kept H' H''):Kept H H'':=fun id hid=>by
  have h1:=h id hid
  rw[← h1] at hid
  rw[h' id hid,h1]
theorem Kept.new {H:View} {b:Nat} {o:br} (hb:H b=.dead):Kept H (H.set b o):=fun id hid=>by
  have:id≠b:=by rintro rfl; exact hid hb
  simp[View.set,this]
def xo (H:View) (c:Nat) (g:au) (p:List Int):Prop:=∃ nu sid mid n,H c=.arr 8 [[.aY (g.aw.map cZ),encS g.aD,.aY (g.rules.map bj),gi g.start,encI p,nu,.sl sid 0 n 1,.sl mid 0 n 1]]
theorem xo.keep {H H':View} {c:Nat} {g:au} {p:List Int} (h:xo H c g p) (hs:Kept H H'):xo H' c g p:=by
  obtain ⟨nu,sid,mid,n,h⟩:=h
  exact ⟨nu,sid,mid,n,by rw[hs c (by rw[h]; simp)]; exact h⟩
def iA:SF:=⟨.seq (al [b7 2 0,aP 3 false]) <|
  .seq (al [ao 5 1,bh 6 5,aq 7 0 6,aq 8 2 7,ao 9 8,aq 10 0 2,ao 11 10,aX 12 3 9 11,aO 13 3 12,((some 4),.op (.alloc [(.val (.int .i64 0)),(.emp 1),(.val (.int .i64 0))])),(none,.op (.store 3 (.tmp 4) (.tmp 13)))]) <|
  .seq (.region false [⟨none,[aq 14 0 4,ao 15 14,ao 16 1,bh 17 16,aq 18 0 17,aq 19 3 18,ao 20 19,aK 21 .eql 15 20,aa 22 21]⟩,⟨(some (22,true)),[aq 23 2 2,ao 24 23,ax 25 .eql 24 0]⟩,⟨none,[bk 26 22 25,aa 27 26]⟩,⟨(some (27,true)),[aq 28 1 2,ao 29 28,aq 30 1 4,ao 31 30,aI 32 31,aK 33 .eql 29 32]⟩,⟨none,[bk 34 27 33,aa 3 34]⟩]) <|
  .ret,
  [.tmp 3],35⟩
theorem m6:aR Tryz.prog 58 [2]=some iA:=by kernel_rfl
def cP:SC :=
  .seq (al [aK 9 .lss 8 7]) <|
  .seq (.cond (.tmp 9) (.skip) (.exit 0)) <|
  .seq (.block 1 (.seq (al [aa 10 8,aa 5 10]) <|
  .seq (al [aa 11 1,aa 12 0,aa 13 5,aX 14 3 12 13,aO 15 3 14,((some 16),.call (.tmp 11) [(.tmp 15)])]) <|
  .cond (.tmp 16) (.seq (al [aa 17 5,aa 4 17]) <|
  .ret) (.skip))) <|
  al [ax 18 .add 8 1,aa 8 18]
def cU:SF:=⟨.seq (al [aG 4 0]) <|
  .seq (.seq (al [aa 6 0,aI 7 6,aG 8 0]) <|
  .block 0 (.loop cP)) <|
  .seq (al [aG 4 (-1)]) <|
  .ret,
  [.tmp 4],19⟩
theorem eo:aR Tryz.prog 102 []=some cU:=by kernel_rfl
def cK:SF:=⟨.seq (al [aP 4 false]) <|
  .seq (al [aa 5 0,aa 6 1,aF 7 102 [5,6],ax 8 .geq 7 0,aa 4 8]) <|
  .ret,
  [.tmp 4],9⟩
theorem dU:aR Tryz.prog 57 []=some cK:=by kernel_rfl
def j1:SF:=⟨.seq (al [b7 1 0,aP 2 false]) <|
  .seq (al [ao 3 1,bh 4 3,aq 5 6 4,ao 6 5,ao 7 1,bh 8 7,aq 9 4 8,ao 10 9,aI 11 10,aX 12 1 6 11,ao 13 12,((some 14),.op (.q9 58 [] [(.tmp 1)])),aF 15 57 [13,14],aa 2 15]) <|
  .ret,
  [.tmp 2],16⟩
theorem nX:aR Tryz.prog 36 [1]=some j1:=by kernel_rfl
set_option maxHeartbeats 4000000 in
theorem Ed (c:Nat) (g:au) (p:List Int) (x:Item) (H:View) (hb:xo H c g p) (hx:x.bq < g.rules.length):aB Tryz.prog 58 [.agg (c7 x),.aJ [.ptr c 0 0] 0] H fun r H'=>r=gb (ik g x)∧Kept H H':=by
  obtain ⟨nu,sid,mid,n,hbox⟩:=hb
  have hR:g.rules[x.bq]?=some (g.rules[x.bq]'hx):=List.getElem?_eq_getElem hx
  generalize g.rules[x.bq]'hx=R at hR
  have hw:ik g x=(decide (R.left=g.start) && decide (x.b8=0) && decide (x.dot=R.right.length)):=by unfold ik; rw[hR]
  refine aB.of mixed m6 ?_
  simp (disch:=omega) only [↓wr,↓reduceIte,wq,ai,ah,ak,ae,af,ag,aj,isNil,Nat.reduceEqDiff,Nat.reduceAdd,Nat.reduceLT,Nat.reduceLeDiff,Int.reduceNeg,Int.reduceToNat,reduceCtorEq,iA,c7,hbox,bj,encI,List.getElem?_map,hR]
  intro b hb
  have hcb:c≠b:=by rintro rfl; rw[hbox] at hb; simp at hb
  simp only[if_neg hcb]
  simp (disch:=omega) only [↓wr,↓reduceIte,wq,ai,ah,ak,ae,af,ag,aj,isNil,Nat.reduceEqDiff,Nat.reduceAdd,Nat.reduceLT,Nat.reduceLeDiff,Int.reduceNeg,Int.reduceToNat,reduceCtorEq,hbox]
  refine an.eq (fun e1=>?_) (fun e1=>?_)
  · simp (disch:=omega) only [↓wr,↓reduceIte,wq,ai,ah,ak,ae,af,ag,aj,isNil,Nat.reduceEqDiff,Nat.reduceAdd,Nat.reduceLT,Nat.reduceLeDiff,Int.reduceNeg,Int.reduceToNat,reduceCtorEq]
    refine an.eq (fun e2=>?_) (fun e2=>?_)
    · simp (disch:=omega) only [↓wr,↓reduceIte,wq,ai,ah,ak,ae,af,ag,aj,isNil,Nat.reduceEqDiff,Nat.reduceAdd,Nat.reduceLT,Nat.reduceLeDiff,Int.reduceNeg,Int.reduceToNat,reduceCtorEq]
      refine ⟨?_,?_⟩
      · rw[hw,decide_eq_true e1,decide_eq_true (show x.b8=0 by omega),gb]
        congr 2
        rw[Bool.eq_iff_iff]
        simp
        omega
      · rw[set_set]; exact Kept.new hb
    · simp (disch:=omega) only [↓wr,↓reduceIte,wq,ai,ah,ak,ae,af,ag,aj,isNil,Nat.reduceEqDiff,Nat.reduceAdd,Nat.reduceLT,Nat.reduceLeDiff,Int.reduceNeg,Int.reduceToNat,reduceCtorEq]
      refine ⟨?_,?_⟩
      · rw[hw,decide_eq_true e1,decide_eq_false (show ¬ x.b8=0 by omega)]; rfl
      · rw[set_set]; exact Kept.new hb
  · simp (disch:=omega) only [↓wr,↓reduceIte,wq,ai,ah,ak,ae,af,ag,aj,isNil,Nat.reduceEqDiff,Nat.reduceAdd,Nat.reduceLT,Nat.reduceLeDiff,Int.reduceNeg,Int.reduceToNat,reduceCtorEq]
    refine ⟨?_,?_⟩
    · rw[hw,decide_eq_false e1]; rfl
    · rw[set_set]; exact Kept.new hb
set_option maxHeartbeats 4000000 in
theorem EL (c:Nat) (g:au) (p:List Int) (u:V) (l:List Item) (H:View) (hb:xo H c g p) (ho:aV H u 3 (l.map c7)) (hl:∀ x∈l,x.bq < g.rules.length) (hll:l.length < 1000000) :
    aB Tryz.prog 102 [u,.fn 58 [] [.aJ [.ptr c 0 0] 0]] H fun r H'=>∃ k:Int,r=gi k∧-1≤k∧k < 1000000∧(0≤k↔l.any (ik g)=true)∧Kept H H':=by
  refine aB.of mixed eo ?_
  simp (disch:=omega) only [↓wr,↓reduceIte,wq,ai,ah,ak,ae,af,ag,aj,isNil,Nat.reduceEqDiff,Nat.reduceAdd,Nat.reduceLT,Nat.reduceLeDiff,Int.reduceNeg,Int.reduceToNat,reduceCtorEq,cU,ho.len]
  refine bo.up l.length (fun i T' H'=>Kept H H'∧(l.take i).any (ik g)=false∧T' 0=u∧T' 1=.fn 58 [] [.aJ [.ptr c 0 0] 0]∧T' 7=ak l.length∧T' 8=ak i) ?_ ?_
  · exact ⟨.refl _,by simp,rfl,rfl,rfl,rfl⟩
  rintro i k T' H' hk ⟨hkp,hany,t0,t1,t7,t8⟩
  have hb':=hb.keep hkp
  have ho':aV H' u 3 (l.map c7):=ho.keep fun id hid=>hkp id (by rw[(ho.live hid).1]; simp)
  simp (disch:=omega) only [↓wr,↓reduceIte,wq,ai,ah,ak,ae,af,ag,aj,isNil,Nat.reduceEqDiff,Nat.reduceAdd,Nat.reduceLT,Nat.reduceLeDiff,Int.reduceNeg,Int.reduceToNat,reduceCtorEq,cP,t0,t1,t7,t8]
  refine an.dec (fun hc=>?_) (fun hc=>?_)
  · obtain ⟨m,hsv,hm⟩:=ho'.sl (by simp; omega)
    have hxi:l[i]?=some (l[i]'(by omega)):=List.getElem?_eq_getElem (by omega)
    have hxm:l[i]'(by omega)∈l:=List.getElem_mem _
    have htk:l.take (i+1)=l.take i ++ [l[i]'(by omega)]:=by rw[List.take_add_one,hxi]; rfl
    generalize l[i]'(by omega)=x at hxi hxm htk
    have hgx:(l.map c7).getD i []=[ak x.bq,ak x.dot,ak x.b8]:=by simp[List.getD_eq_getElem?_getD,hxi,c7]
    have hx1:=hl x hxm
    simp (disch:=omega) only [↓wr,↓reduceIte,wq,ai,ah,ak,ae,af,ag,aj,isNil,Nat.reduceEqDiff,Nat.reduceAdd,Nat.reduceLT,Nat.reduceLeDiff,Int.reduceNeg,Int.reduceToNat,reduceCtorEq,t0,t1,t7,t8,hsv,hm,hgx]
    refine ⟨by omega,by omega,?_⟩
    refine az.dg ((Ed c g p x H' hb' hx1).mono ?_)
    rintro r H2 ⟨rfl,hk2⟩
    simp (disch:=omega) only [↓wr,↓reduceIte,wq,ai,ah,ak,ae,af,ag,aj,isNil,Nat.reduceEqDiff,Nat.reduceAdd,Nat.reduceLT,Nat.reduceLeDiff,Int.reduceNeg,Int.reduceToNat,reduceCtorEq]
    refine an.split (fun e=>?_) (fun e=>?_)
    · simp (disch:=omega) only [↓wr,↓reduceIte,wq,ai,ah,ak,ae,af,ag,aj,isNil,Nat.reduceEqDiff,Nat.reduceAdd,Nat.reduceLT,Nat.reduceLeDiff,Int.reduceNeg,Int.reduceToNat,reduceCtorEq,t8]
      refine ⟨(i:Int),rfl,by omega,by omega,⟨fun _=>List.any_eq_true.2 ⟨x,hxm,e⟩,fun _=>by omega⟩,hkp.trans hk2⟩
    · simp (disch:=omega) only [↓wr,↓reduceIte,wq,ai,ah,ak,ae,af,ag,aj,isNil,Nat.reduceEqDiff,Nat.reduceAdd,Nat.reduceLT,Nat.reduceLeDiff,Int.reduceNeg,Int.reduceToNat,reduceCtorEq,t8]
      exact bb hk (by omega) ⟨hkp.trans hk2,by rw[htk,List.any_append,hany]; simp[e],t0.trans rfl,t1,t7,rfl⟩
  · simp (disch:=omega) only [↓wr,↓reduceIte,wq,ai,ah,ak,ae,af,ag,aj,isNil,Nat.reduceEqDiff,Nat.reduceAdd,Nat.reduceLT,Nat.reduceLeDiff,Int.reduceNeg,Int.reduceToNat,reduceCtorEq]
    have:i=l.length:=by omega
    subst this
    rw[List.take_length] at hany
    exact ⟨-1,rfl,by omega,by omega,⟨fun h=>by omega,fun h=>by rw[hany] at h; simp at h⟩,hkp⟩
set_option maxHeartbeats 4000000 in
theorem zf (c:Nat) (g:au) (p:List Int) (u:V) (l:List Item) (H:View) (hb:xo H c g p) (ho:aV H u 3 (l.map c7)) (hl:∀ x∈l,x.bq < g.rules.length) (hll:l.length < 1000000) :
    aB Tryz.prog 57 [u,.fn 58 [] [.aJ [.ptr c 0 0] 0]] H fun r H'=>r=gb (l.any (ik g))∧Kept H H':=by
  refine aB.of mixed dU ?_
  simp (disch:=omega) only [↓wr,↓reduceIte,wq,ai,ah,ak,ae,af,ag,aj,isNil,Nat.reduceEqDiff,Nat.reduceAdd,Nat.reduceLT,Nat.reduceLeDiff,Int.reduceNeg,Int.reduceToNat,reduceCtorEq,cK]
  refine az.dg ((EL c g p u l H hb ho hl hll).mono ?_)
  rintro r H2 ⟨k,rfl,h1,h2,h3,h4⟩
  simp (disch:=omega) only [↓wr,↓reduceIte,wq,ai,ah,ak,ae,af,ag,aj,isNil,Nat.reduceEqDiff,Nat.reduceAdd,Nat.reduceLT,Nat.reduceLeDiff,Int.reduceNeg,Int.reduceToNat,reduceCtorEq]
  refine ⟨?_,h4⟩
  rw[gb]
  congr 2
  rw[Bool.eq_iff_iff,← h3]
  simp
set_option maxHeartbeats 4000000 in
theorem GD (c:Nat) (g:au) (hf:g.nB) (p:List Int) (hp:p.length≤60) (nu:V) (S:Nat→List Item) (B:Nat) (K:List (Nat × br)) (H:View) (hC:Ch H c g p nu S B (p.length+1) K) (hG:Good g p S) :
    aB Tryz.prog 36 [.ptr c 0 0] H fun r _=>r=gb ((S p.length).any (ik g)):=by
  obtain ⟨sid,mid,sv,hbox,hsets,ho⟩:=hC.set (a:=p.length) (by omega)
  have hps:p.length < p.length+1:=by omega
  have hr:=hf.rules
  refine aB.of mixed nX ?_
  simp (disch:=omega) only [↓wr,↓reduceIte,wq,ai,ah,ak,ae,af,ag,aj,isNil,Nat.reduceEqDiff,Nat.reduceAdd,Nat.reduceLT,Nat.reduceLeDiff,Int.reduceNeg,Int.reduceToNat,reduceCtorEq,j1,hbox,encI,hsets,dn hps]
  refine ⟨by omega,by simp,?_⟩
  refine az.dg ((zf c g p (sv p.length) (S p.length) H ⟨_,_,_,_,hbox⟩ ho (fun x hx=>?_) (by have:=hG.len hf hp p.length; omega)).mono ?_)
  · obtain ⟨R,hR,_⟩:=hG.sound _ _ hx
    exact (List.getElem?_eq_some_iff.1 hR).1
  rintro r H2 ⟨rfl,_⟩
  simp (disch:=omega) only [↓wr,↓reduceIte,wq,ai,ah,ak,ae,af,ag,aj,isNil,Nat.reduceEqDiff,Nat.reduceAdd,Nat.reduceLT,Nat.reduceLeDiff,Int.reduceNeg,Int.reduceToNat,reduceCtorEq]
theorem Fk {g:au} (hr:aT g=true) {p:List Int} {S:Nat→List Item} (hG:Good g p S) (hc:wP g p S):(S p.length).any (ik g)=cF g p:=by
  rw[Bool.eq_iff_iff,qU hr,← F1 hr hc hG.sound,List.any_eq_true]
  constructor
  · rintro ⟨x,hx,hw⟩
    refine ⟨x,hx,?_⟩
    unfold ik at hw
    split at hw
    · rename_i R hR
      simp only[Bool.and_eq_true,decide_eq_true_eq] at hw
      exact ⟨R,hR,hw.1.1,hw.1.2,hw.2⟩
    · simp at hw
  · rintro ⟨x,hx,R,hR,h1,h2,h3⟩
    refine ⟨x,hx,?_⟩
    unfold ik
    rw[hR]
    simp only[Bool.and_eq_true,decide_eq_true_eq]
    exact ⟨⟨h1,h2⟩,h3⟩
def r6:SF:=⟨.seq (al [b7 2 0,aP 4 false,aG 5 0]) <|
  .seq (.seq (.region false [⟨none,[aO 6 4 2,aF 7 38 [6],bQ 8 7,aa 9 8]⟩,⟨(some (9,false)),[aa 10 1,aI 11 10,ax 12 .gtr 11 60]⟩,⟨none,[bf 13 9 12,aa 14 13]⟩,⟨(some (14,false)),[aa 15 1,((some 16),.op (.q9 40 [] [(.tmp 2)])),aF 17 39 [15,16]]⟩,⟨none,[bf 18 14 17]⟩]) <|
  .cond (.tmp 18) (.seq (al [aP 4 false,aG 5 1]) <|
  .ret) (.skip)) <|
  .seq (al [aO 19 4 2,aa 20 1,aF 21 35 [19,20],aF 22 36 [21],aa 4 22,aG 5 0]) <|
  .ret,
  [.tmp 4,.tmp 5],23⟩
theorem vg:aR Tryz.prog 17 [2]=some r6:=by kernel_rfl
set_option maxHeartbeats 4000000 in
theorem G1 (g:au) (hg:g.Ok) (hs:g.Small) (p:List Int) (hp:aL p) (hn:∀ x∈p,bJ x):aC Tryz.prog 17 [.agg (ar g),encI p] (kQ (jy g p)):=by
  refine aC.tree (vi g p) (sU _) fun H=>?_
  have hcf:=fj p hp 40 [.aJ (ar g) 0] (by intro v hv; simp at hv; subst hv; exact ff (bB g)) (fun x=>!(decide (-1≤x) && decide (x < g.aw.length))) (fun x hx=>EV g hg x (hn x hx)) (by kernel_rfl)
  refine aB.of mixed vg ?_
  unfold aL at hp
  simp (disch:=omega) only [↓wr,↓reduceIte,wq,ai,ah,ak,ae,af,ag,aj,isNil,Nat.reduceEqDiff,Nat.reduceAdd,Nat.reduceLT,Nat.reduceLeDiff,Int.reduceNeg,Int.reduceToNat,reduceCtorEq,r6,ar,encS]
  refine az.pure (sH g hg hs.names) (by kernel_rfl) ?_
  simp only[ar,encS] at hcf
  have bad:(aT g && decide (p.length≤60) && iK g p)=false→kQ (jy g p)=.bp [gb false,gi 1]:=fun e=>by
    unfold jy; rw[if_neg (by rw[e]; simp)]; rfl
  simp (disch:=omega) only [↓wr,↓reduceIte,wq,ai,ah,ak,ae,af,ag,aj,isNil,Nat.reduceEqDiff,Nat.reduceAdd,Nat.reduceLT,Nat.reduceLeDiff,Int.reduceNeg,Int.reduceToNat,reduceCtorEq]
  refine an.split (fun hr=>?_) (fun hr=>?_)
  · simp (disch:=omega) only [↓wr,↓reduceIte,wq,ai,ah,ak,ae,af,ag,aj,isNil,Nat.reduceEqDiff,Nat.reduceAdd,Nat.reduceLT,Nat.reduceLeDiff,Int.reduceNeg,Int.reduceToNat,reduceCtorEq,encI]
    refine an.dec (fun h6=>?_) (fun h6=>?_)
    · simp (disch:=omega) only [↓wr,↓reduceIte,wq,ai,ah,ak,ae,af,ag,aj,isNil,Nat.reduceEqDiff,Nat.reduceAdd,Nat.reduceLT,Nat.reduceLeDiff,Int.reduceNeg,Int.reduceToNat,reduceCtorEq]
      exact (bad (by rw[decide_eq_false (show ¬ p.length≤60 by omega)]; simp)).symm
    · simp (disch:=omega) only [↓wr,↓reduceIte,wq,ai,ah,ak,ae,af,ag,aj,isNil,Nat.reduceEqDiff,Nat.reduceAdd,Nat.reduceLT,Nat.reduceLeDiff,Int.reduceNeg,Int.reduceToNat,reduceCtorEq]
      refine az.pure hcf (by kernel_rfl) ?_
      simp (disch:=omega) only [↓wr,↓reduceIte,wq,ai,ah,ak,ae,af,ag,aj,isNil,Nat.reduceEqDiff,Nat.reduceAdd,Nat.reduceLT,Nat.reduceLeDiff,Int.reduceNeg,Int.reduceToNat,reduceCtorEq]
      refine an.split (fun hc=>?_) (fun hc=>?_)
      · simp (disch:=omega) only [↓wr,↓reduceIte,wq,ai,ah,ak,ae,af,ag,aj,isNil,Nat.reduceEqDiff,Nat.reduceAdd,Nat.reduceLT,Nat.reduceLeDiff,Int.reduceNeg,Int.reduceToNat,reduceCtorEq]
        rw[← List.not_all_eq_any_not] at hc
        exact (bad (by rw[show iK g p=false by simpa [iK] using hc]; simp)).symm
      · rw[← List.not_all_eq_any_not] at hc
        have hpt:iK g p=true:=by simpa [iK] using hc
        have h60:p.length≤60:=by omega
        simp (disch:=omega) only [↓wr,↓reduceIte,wq,ai,ah,ak,ae,af,ag,aj,isNil,Nat.reduceEqDiff,Nat.reduceAdd,Nat.reduceLT,Nat.reduceLeDiff,Int.reduceNeg,Int.reduceToNat,reduceCtorEq]
        have hrd:=HT g hg hr hs p h60 H
        simp only[ar,encS] at hrd
        refine az.dg (hrd.mono ?_)
        rintro r H1 ⟨c,S,B,rfl,hC,hG,hc⟩
        simp (disch:=omega) only [↓wr,↓reduceIte,wq,ai,ah,ak,ae,af,ag,aj,isNil,Nat.reduceEqDiff,Nat.reduceAdd,Nat.reduceLT,Nat.reduceLeDiff,Int.reduceNeg,Int.reduceToNat,reduceCtorEq]
        refine az.dg ((GD c g (bt hr) p h60 _ S B _ H1 hC hG).mono ?_)
        rintro r H2 rfl
        simp (disch:=omega) only [↓wr,↓reduceIte,wq,ai,ah,ak,ae,af,ag,aj,isNil,Nat.reduceEqDiff,Nat.reduceAdd,Nat.reduceLT,Nat.reduceLeDiff,Int.reduceNeg,Int.reduceToNat,reduceCtorEq]
        rw[jy,if_pos (by rw[hr,hpt,decide_eq_true h60]; rfl),Fk hr hG hc]; rfl
  · simp (disch:=omega) only [↓wr,↓reduceIte,wq,ai,ah,ak,ae,af,ag,aj,isNil,Nat.reduceEqDiff,Nat.reduceAdd,Nat.reduceLT,Nat.reduceLeDiff,Int.reduceNeg,Int.reduceToNat,reduceCtorEq]
    exact (bad (by rw[hr]; simp)).symm
end Gv
set_option linter.unusedSimpArgs false
set_option maxRecDepth 100000
namespace Gv
open Go Go.Proofs
theorem pW:∀ (l:List aZ) (acc:List Int),(l.foldl eA acc).length≤acc.length+l.length
  | [],acc=>by simp
  | r :: l,acc=>by
    have h1:=pW l (eA acc r)
    have h2:(eA acc r).length≤acc.length+1:=by unfold eA; split <;> simp
    simp only[List.foldl_cons,List.length_cons]
    omega
theorem Hk (p q:List Bool) (l:List aZ):(kK p q l).length≤l.length:=by
  have h1:=pW (l.filter (cJ p q)) []
  have h2:=List.length_filter_le (cJ p q) l
  unfold kK
  simp only[List.length_nil] at h1
  omega
theorem HX {g:au} (hg:g.Ok) (p q:List Bool):(rn g (bA (kK p q g.rules)) p q).Ok:=by
  have ho:=Hk p q g.rules
  have h3:=hg.rules
  unfold aL at h3
  have hb:∀ x,bJ (bA (kK p q g.rules) x):=fun x=>by
    have:=B0 (kK p q g.rules) x
    unfold bJ; omega
  have hb2:∀ x,bJ (-1 - bA (kK p q g.rules) x):=fun x=>by
    have:=B0 (kK p q g.rules) x
    unfold bJ; omega
  refine ⟨hg.aw,?_,?_,hb _,hg.term,fun r hr=>?_⟩
  · unfold aL; simp only[rn,List.length_map]; omega
  · have:=List.length_filter_le (cJ p q) g.rules
    unfold aL; simp only[rn,List.length_map]; omega
  · simp only[rn,List.mem_map,List.mem_filter] at hr
    obtain ⟨r0,⟨h0,_⟩,rfl⟩:=hr
    obtain ⟨_,i2,i3,i4⟩:=hg.bq r0 h0
    refine ⟨hb _,i2,by unfold aL at i3 ⊢; simpa [cg] using i3,fun x hx=>?_⟩
    simp only[cg,List.mem_map] at hx
    obtain ⟨s,hs,rfl⟩:=hx
    split
    · exact hb2 _
    · exact i4 s hs
section
variable {g r:au} {p q:List Bool} {o:List Int}
theorem c8.ok (h:c8 g p q o r) (hg:g.Ok):r.Ok:=by
  have:=HX hg p q
  rw[← h.oe,← h.re] at this
  exact this
theorem c8.small (h:c8 g p q o r) (hs:g.Small):r.Small:=by
  have:=sf h.nodup h.inside
  have:=hs.names
  exact ⟨by rw[h.len,h.aw]; omega⟩
end
end Gv
set_option linter.unusedSimpArgs false
set_option maxRecDepth 100000
namespace Gv
open Go Go.Proofs
end Gv
set_option linter.unusedSimpArgs false
set_option maxRecDepth 100000
namespace Gv
open Go Go.Proofs
abbrev Pt:=List (List Bool)
def zO (P:Pt) (N M:Nat):Prop:=P.length=N∧∀ r∈P,r.length=M
def Jn (P:Pt):V:=.aY (P.map fun c=>[cE c])
theorem zO.row {P:Pt} {N M n:Nat} (h:zO P N M) (hn:n < N):∃ r,P[n]?=some r∧r.length=M∧P.getD n []=r:=by
  have hl:n < P.length:=by rw[h.1]; exact hn
  exact ⟨P[n],List.getElem?_eq_getElem hl,h.2 _ (List.getElem_mem hl),by simp[List.getD_eq_getElem?_getD,hl]⟩
end Gv
set_option linter.unusedSimpArgs false
set_option maxRecDepth 100000
namespace Gv
open Go Go.Proofs
structure ka (H:View) (I N M:Nat) (R:Nat→Nat) (P:Pt):Prop where
  top:H I=.arr 1 ((List.range N).map fun n=>[.sl (R n) 0 M 1])
  row:∀ n,n < N→H (R n)=.arr 1 (bw (P.getD n []))
  inj:∀ n n',n < N→n' < N→R n=R n'→n=n'
structure zh (H:View) (I N M k:Nat) (R:Nat→Nat):Prop where
  top:H I=.arr 1 ((List.range N).map fun n=>[if n < k then .sl (R n) 0 M 1 else .emp 1])
  row:∀ n,n < k→H (R n)=.arr 1 (List.replicate M [gb false])
  inj:∀ n n',n < k→n' < k→R n=R n'→n=n'
def I8 (N M:Nat):Pt:=List.replicate N (List.replicate M false)
def DJ (P:Pt) (n i:Nat):Pt:=P.set n ((P.getD n []).set i true)
theorem ka.JQ {H:View} {I N M:Nat} {R:Nat→Nat} {P:Pt} (h:ka H I N M R P) (hP:zO P N M) (hM:0 < M) {n:Nat} (hn:n < N):I≠R n:=fun e=>by
  have h1:=h.row n hn
  obtain ⟨r,_,h2,h3⟩:=hP.row hn
  rw[← e,h.top,h3] at h1
  simp only[br.arr.injEq,true_and] at h1
  exact vt (by omega) h1.symm fun _ _=>by simp
theorem ka.keep {H H':View} {I N M:Nat} {R:Nat→Nat} {P:Pt} (h:ka H I N M R P) (hk:∀ id,H id≠.dead→H' id=H id):ka H' I N M R P :=
  ⟨by rw[hk _ (by rw[h.top]; simp)]; exact h.top,fun n hn=>by rw[hk _ (by rw[h.row n hn]; simp)]; exact h.row n hn,h.inj⟩
theorem ka.put {H:View} {I N M:Nat} {R:Nat→Nat} {P:Pt} (h:ka H I N M R P) (hP:zO P N M) {n i:Nat} (hn:n < N) (hi:i < M) :
    ka (H.set (R n) (.arr 1 (bw ((P.getD n []).set i true)))) I N M R (DJ P n i):=by
  have hI:=h.JQ hP (by omega) hn
  have hnl:n < P.length:=by rw[hP.1]; exact hn
  refine ⟨by simp only[View.set,if_neg hI]; exact h.top,fun m hm=>?_,h.inj⟩
  by_cases e:R m=R n
  · have:=h.inj m n hm hn e
    subst this
    simp only[View.set,if_true]
    congr 2
    simp[DJ,List.getD_eq_getElem?_getD,hnl]
  · simp only[View.set,if_neg e]
    rw[h.row m hm]
    congr 2
    have:n≠m:=fun e2=>e (by rw[e2])
    simp[DJ,List.getD_eq_getElem?_getD,List.getElem?_set,this]
theorem ka.uG {H:View} {I N M:Nat} {R:Nat→Nat} {P:Pt} (hG:ka H I N M R P) (hP:zO P N M):cO H (.sl I 0 N 1) (Jn P):=by
  rintro h rfl
  refine dA.Bh ?_
  refine .sl I 0 N 1 1 _ _ hG.top (by simp) (by simp[hP.1]) (fun n hn=>?_) (fun n j hn hj=>?_)
  · obtain ⟨r,hr,_⟩:=hP.row hn
    simp[List.getD_eq_getElem?_getD,hr,hn]
  · obtain ⟨r,hr,hrl,hrg⟩:=hP.row hn
    have e1:((P.map fun c=>[cE c]).getD n [])=[cE r]:=by simp[List.getD_eq_getElem?_getD,hr]
    have e2:(((List.range N).map fun n=>[V.sl (R n) 0 M 1]).getD (0+n) [])=[V.sl (R n) 0 M 1]:=by simp[List.getD_eq_getElem?_getD,hn]
    rw[e1] at hj ⊢
    rw[e2]
    have:j=0:=by simp at hj; omega
    subst this
    simp only[List.getD_cons_zero]
    have hro:=hG.row n hn
    rw[hrg] at hro
    have:=oo (h:=h) (id:=R n) (is:=r) hro
    rwa [hrl] at this
theorem zh.done {H:View} {I N M:Nat} {R:Nat→Nat} (h:zh H I N M N R):ka H I N M R (I8 N M):=by
  refine ⟨?_,fun n hn=>?_,h.inj⟩
  · rw[h.top]
    congr 1
    apply List.map_congr_left
    intro n hn
    rw[if_pos (by simpa using hn)]
  · rw[h.row n hn]
    simp[I8,List.getD_eq_getElem?_getD,hn]
theorem zh.next {H:View} {I N M k:Nat} {R:Nat→Nat} {r:Nat} (h:zh H I N M k R) (hk:k < N) (hr:H r=.dead) :
    zh ((H.set r (.arr 1 (List.replicate M [gb false]))).set I (.arr 1 ((List.range N).map fun n=>[if n < k+1 then .sl (if n=k then r else R n) 0 M 1 else .emp 1]))) I N M (k+1) (fun n=>if n=k then r else R n):=by
  have hI:r≠I:=by rintro rfl; rw[h.top] at hr; simp at hr
  have hRI:∀ n,n < k→R n≠I:=fun n hn e=>by
    have h1:=h.row n hn
    rw[e,h.top] at h1
    simp only[br.arr.injEq,true_and] at h1
    have h2:=congrArg (·[0]?) h1
    simp only[List.getElem?_map,List.getElem?_range (show 0 < N by omega),List.getElem?_replicate] at h2
    split at h2 <;> simp at h2
    split at h2 <;> simp at h2
  have hRr:∀ n,n < k→R n≠r:=fun n hn e=>by have:=h.row n hn; rw[e,hr] at this; simp at this
  refine ⟨by simp[View.set],fun n hn=>?_,fun n n' hn hn' e=>?_⟩
  · by_cases e:n=k
    · simp only[if_pos e,View.set,if_neg hI,if_true]
    · simp only[if_neg e,View.set,if_neg (hRI n (by omega)),if_neg (hRr n (by omega))]
      exact h.row n (by omega)
  · by_cases e1:n=k
    · by_cases e2:n'=k
      · omega
      · simp only[if_pos e1,if_neg e2] at e
        exact absurd e.symm (hRr n' (by omega))
    · by_cases e2:n'=k
      · simp only[if_neg e1,if_pos e2] at e
        exact absurd e (hRr n (by omega))
      · simp only[if_neg e1,if_neg e2] at e
        exact h.inj n n' (by omega) (by omega) e
end Gv
set_option linter.unusedSimpArgs false
set_option maxRecDepth 100000
namespace Gv
open Go Go.Proofs
end Gv
set_option linter.unusedSimpArgs false
set_option maxRecDepth 100000
namespace Gv
open Go Go.Proofs
def Ht:au:=⟨[⟨⟨#[39,97,39]⟩,0,0⟩,⟨⟨#[39,98,39]⟩,0,0⟩],[⟨#[115]⟩,⟨#[110]⟩],[⟨0,[(-1),(-1)],(-1)⟩,⟨0,[(-2),0,(-2),1],1⟩,⟨0,[],(-1)⟩,⟨1,[(-2)],(-1)⟩,⟨1,[],(-1)⟩],0⟩
end Gv
set_option linter.unusedSimpArgs false
set_option maxRecDepth 100000
namespace Gv
open Go Go.Proofs
section
variable {g:au} {p:List Int} {T:Tb} {N:Nat}
end
theorem n6 (p:List Int) (i:Nat):Sp Ht p [-2] i i:=.bU (-2) [] ⟨1,[],-1⟩ i i i (by decide) (by simp[Ht]) (by decide) (.nil i) (.nil i)
end Gv
set_option linter.unusedSimpArgs false
set_option maxRecDepth 100000
namespace Gv
open Go Go.Proofs
theorem yn (x:Bool × Int):uK (kQ x):=.bp _ fun i hi=>by
  match i,hi with
  | 0,_=>exact ⟨_,rfl⟩
  | 1,_=>exact ⟨_,rfl⟩
end Gv
set_option linter.unusedSimpArgs false
set_option maxRecDepth 100000
namespace Gv
open Go Go.Proofs
def lE:SF:=⟨.seq (al [((some 2),.op (.bg (.val (.emp 1))))]) <|
  .seq (al [((some 3),.op (.bg (.val (.emp 2)))),aa 4 0,((some 5),.op (.app 1 8 (.tmp 3) (.tmp 4))),aa 2 5]) <|
  .ret,
  [.tmp 2],6⟩
theorem ql:aR Tryz.prog 14 []=some lE:=by kernel_rfl
def jZ:SC :=
  .seq (.seq (al [aa 16 4,aq 17 2 1,ao 18 17,aI 19 18,aK 20 .lss 16 19]) <|
  .cond (.tmp 20) (.skip) (.exit 0)) <|
  .seq (.block 1 (.seq (al [aq 23 2 1,ao 24 23,aa 25 4,aX 26 3 24 25,aO 27 3 26,((some 5),.op (.alloc [(.val (.int .i64 0)),(.emp 1),(.val (.int .i64 0))])),(none,.op (.store 3 (.tmp 5) (.tmp 27)))]) <|
  .seq (al [aq 28 1 5,ao 29 28,aF 30 14 [29],aq 31 1 5,(none,.op (.store 1 (.tmp 31) (.tmp 30)))]) <|
  al [aa 32 3,aO 33 3 5,((some 34),.op (.bu 1 3 [(.val (.int .i64 0)),(.emp 1),(.val (.int .i64 0))] [(0,(.tmp 33))])),((some 35),.op (.app 3 40 (.tmp 32) (.tmp 34))),aa 3 35])) <|
  al [aa 21 4,ax 22 .add 21 1,aa 4 22]
def lH:SF:=⟨.seq (al [((some 1),.op (.box (.tmp 0))),((some 2),.op (.alloc [(.emp 1),(.emp 1),(.emp 1),(.val (.int .i64 0))]))]) <|
  .seq (al [((some 6),.op (.bg (.val (.emp 2)))),aq 7 0 1,ao 8 7,((some 9),.op (.app 3 32 (.tmp 6) (.tmp 8))),aq 10 0 1,(none,.op (.store 1 (.tmp 10) (.tmp 9)))]) <|
  .seq (al [((some 11),.op (.bg (.val (.emp 2)))),aq 12 1 1,ao 13 12,((some 14),.op (.app 1 16 (.tmp 11) (.tmp 13))),aq 15 1 1,(none,.op (.store 1 (.tmp 15) (.tmp 14)))]) <|
  .seq (al [((some 3),.op (.bg (.val (.emp 1))))]) <|
  .seq (.seq (al [aG 4 0]) <|
  .block 0 (.loop jZ)) <|
  .seq (al [aa 36 3,aq 37 2 1,(none,.op (.store 1 (.tmp 37) (.tmp 36)))]) <|
  .seq (al [aO 38 4 1,(none,.op (.store 4 (.tmp 2) (.tmp 38)))]) <|
  .ret,
  [.cell 2 (some 4)],39⟩
theorem pY:aR Tryz.prog 27 []=some lH:=by kernel_rfl
theorem Fm (l:List Int) (hl:l.length≤100000) (H:View):aB Tryz.prog 14 [encI l] H fun r H'=>aV H' r 1 (ch l)∧c6 H H' r:=by
  refine aB.of mixed ql ?_
  simp (disch:=omega) only [↓wr,↓reduceIte,wq,ai,ah,ak,ae,af,ag,aj,isNil,Nat.reduceEqDiff,Nat.reduceAdd,Nat.reduceLT,Nat.reduceLeDiff,Int.reduceNeg,Int.reduceToNat,reduceCtorEq,lE,encI]
  refine ed (H:=H) .nil (by simp[aN]) (by unfold aM; simp; omega) (by unfold aM; simp; omega) ?_
  intro u' H' ho hl'
  simp (disch:=omega) only [↓wr,↓reduceIte,wq,ai,ah,ak,ae,af,ag,aj,isNil,Nat.reduceEqDiff,Nat.reduceAdd,Nat.reduceLT,Nat.reduceLeDiff,Int.reduceNeg,Int.reduceToNat,reduceCtorEq]
  exact ⟨ho,fun id hid=>hl' id hid (by simp[owner])⟩
structure au.IQ (g:au):Prop where
  aw:g.aw.length≤40
  aD:g.aD.length≤40
  rules:g.rules.length≤60
  right:∀ r∈g.rules,r.right.length≤20
theorem Dx {g:au} (e:gq g=false):g.IQ:=by
  simp only[gq,Bool.or_eq_false_iff,decide_eq_false_iff_not,List.any_eq_false,decide_eq_true_eq] at e
  exact ⟨by omega,by omega,by omega,fun r hr=>by have:=e.2 r hr; omega⟩
def JT (g:au) (b1 b2:Nat) (u0 u1:V) (i:Nat) (T:Env) (H:View):Prop :=
  (∃ (u2:V) (bs:wD),T 3=u2∧bs.map (·.2)=g.rules.take i ∧
    bG H ((u2,3,gC bs) :: (.sl b1 0 1 4,4,[[u0,u1,.aY (g.rules.map bj),gi g.start]]) :: (u0,3,g.aw.map cZ) :: (u1,1,vO g.aD) :: (.sl b2 0 1 4,4,[[.emp 1,.emp 1,.emp 1,gi 0]]) :: qo bs)) ∧
  T 1=.ptr b1 0 0∧T 2=.ptr b2 0 0∧T 4=gi i
theorem G8 {h:aE} {u0 u1 u2:V} {g:au} {b:wD} (h0:aV h.view u0 3 (g.aw.map cZ)) (h1:aV h.view u1 1 (vO g.aD)) (h2:aV h.view u2 3 (gC b)) (hb:∀ y∈qo b,aV h.view y.1 y.2.1 y.2.2)
    (hr:b.map (·.2)=g.rules):dA h (.agg [u0,u1,u2,gi g.start]) (.agg (ar g)):=by
  refine .agg _ _ rfl fun j hj=>?_
  match j,hj with
  | 0,_=>exact F5 h0
  | 1,_=>exact Gt h1
  | 2,_=>have:=FE h2 hb; rw[hr] at this; exact this
  | 3,_=>exact .val _
  | n+4,hj=>exact absurd hj (by simp only[List.length_cons,List.length_nil]; omega)
set_option maxHeartbeats 4000000 in
theorem F3 (g:au) (hs:g.IQ):cG Tryz.prog 27 [.agg (ar g)] (.agg (ar g)):=by
  refine cG.of (k7 g) ?_
  refine aB.of mixed pY ?_
  have z1:=hs.aw
  have z2:=hs.aD
  have z3:=hs.rules
  simp (disch:=omega) only [↓wr,↓reduceIte,wq,ai,ah,ak,ae,af,ag,aj,isNil,Nat.reduceEqDiff,Nat.reduceAdd,Nat.reduceLT,Nat.reduceLeDiff,Int.reduceNeg,Int.reduceToNat,reduceCtorEq,lH,ar,encS]
  intro b1
  have o1:=(bG.nil.new (H:=fun _=>br.dead) (n:=b1) rfl 4 [[.aY (g.aw.map cZ),.aY (g.aD.map fun s=>[gs s]),.aY (g.rules.map bj),gi g.start]])
  try simp (disch:=omega) only [↓wr,↓reduceIte,wq,ai,ah,ak,ae,af,ag,aj,isNil,Nat.reduceEqDiff,Nat.reduceAdd,Nat.reduceLT,Nat.reduceLeDiff,Int.reduceNeg,Int.reduceToNat,reduceCtorEq,ar,encS]
  intro b2 hb2
  have o2:=(o1.new hb2 4 [[.emp 1,.emp 1,.emp 1,gi 0]]).perm (.swap _ _ _)
  have d21:=(gS hb2 iO).1
  try simp (disch:=omega) only [↓wr,↓reduceIte,wq,ai,ah,ak,ae,af,ag,aj,isNil,Nat.reduceEqDiff,Nat.reduceAdd,Nat.reduceLT,Nat.reduceLeDiff,Int.reduceNeg,Int.reduceToNat,reduceCtorEq,ar,encS,d21,d21.symm]
  refine rq (o2.emp (k:=2) (sz:=3)) (by simp[aN,cZ]) (by unfold aM; simp; omega) (by unfold aM; simp; omega) ?_
  intro u0 H1 o3 _
  have c0:=o3.head.cells
  have k0:=o3.head.r7
  have f1:=o3.is 1 rfl (by simp)
  simp (disch:=omega) only [↓wr,↓reduceIte,wq,ai,ah,ak,ae,af,ag,aj,isNil,Nat.reduceEqDiff,Nat.reduceAdd,Nat.reduceLT,Nat.reduceLeDiff,Int.reduceNeg,Int.reduceToNat,reduceCtorEq,ar,encS,c0,k0,f1]
  have o4:=(o3.at 1 (by simp)).put (es':=[[u0,.aY (g.aD.map fun s=>[gs s]),.aY (g.rules.map bj),gi g.start]]) rfl rfl
  simp only[List.nil_append,List.eraseIdx_cons_succ,List.eraseIdx_cons_zero] at o4
  refine rq (o4.emp (k:=2) (sz:=1)) (by simp[aN]) (by unfold aM; simp; omega) (by unfold aM; simp; omega) ?_
  intro u1 H2 o5 _
  have c1:=o5.head.cells
  have k1:=o5.head.r7
  have f2:=o5.is 1 rfl (by simp)
  simp (disch:=omega) only [↓wr,↓reduceIte,wq,ai,ah,ak,ae,af,ag,aj,isNil,Nat.reduceEqDiff,Nat.reduceAdd,Nat.reduceLT,Nat.reduceLeDiff,Int.reduceNeg,Int.reduceToNat,reduceCtorEq,ar,encS,c1,k1,f2]
  have o6:=(o5.at 1 (by simp)).put (es':=[[u0,u1,.aY (g.rules.map bj),gi g.start]]) rfl rfl
  simp only[List.nil_append,List.eraseIdx_cons_succ,List.eraseIdx_cons_zero] at o6
  have o7:bG _ ((.emp 1,3,gC []) :: (.sl b1 0 1 4,4,[[u0,u1,.aY (g.rules.map bj),gi g.start]]) :: (u0,3,g.aw.map cZ) :: (u1,1,vO g.aD) :: (.sl b2 0 1 4,4,[[.emp 1,.emp 1,.emp 1,gi 0]]) :: qo []) :=
    (o6.perm (.cons _ (.swap _ _ _))).emp (k:=1) (sz:=3)
  clear o1 o2 o3 o4 o5 o6 hb2 f1 f2
  refine bo.up g.rules.length (JT g b1 b2 u0 u1) ⟨⟨.emp 1,[],rfl,by simp,o7⟩,rfl,rfl,rfl⟩ ?_
  clear o7
  rintro i k T H hk ⟨⟨u2,bs,t3,hbs,ho⟩,t1,t2,t4⟩
  have f1:=ho.is 1 rfl (by simp)
  simp (disch:=omega) only [↓wr,↓reduceIte,wq,ai,ah,ak,ae,af,ag,aj,isNil,Nat.reduceEqDiff,Nat.reduceAdd,Nat.reduceLT,Nat.reduceLeDiff,Int.reduceNeg,Int.reduceToNat,reduceCtorEq,jZ,t1,t2,t3,t4,f1]
  refine an.dec (fun hc=>?_) (fun hc=>?_)
  · have hg2:g.rules[i]?=some (g.rules[i]'(by omega)):=List.getElem?_eq_getElem (by omega)
    have hmem:g.rules[i]'(by omega)∈g.rules:=List.getElem_mem _
    have htk:g.rules.take (i+1)=g.rules.take i ++ [g.rules[i]'(by omega)]:=by rw[List.take_add_one,hg2]; rfl
    generalize g.rules[i]'(by omega)=r at hg2 hmem htk
    have hr:=hs.right r hmem
    simp (disch:=omega) only [↓wr,↓reduceIte,wq,ai,ah,ak,ae,af,ag,aj,isNil,Nat.reduceEqDiff,Nat.reduceAdd,Nat.reduceLT,Nat.reduceLeDiff,Int.reduceNeg,Int.reduceToNat,reduceCtorEq,t1,t2,t3,t4,f1,List.getElem?_map,hg2,bj,encI]
    intro n hn
    have o1:=ho.new hn 3 [bj r]
    try simp (disch:=omega) only [↓wr,↓reduceIte,wq,ai,ah,ak,ae,af,ag,aj,isNil,Nat.reduceEqDiff,Nat.reduceAdd,Nat.reduceLT,Nat.reduceLeDiff,Int.reduceNeg,Int.reduceToNat,reduceCtorEq,t1,t2,t3,t4,set_set]
    refine az.dg ((Fm r.right (by omega) _).mono ?_)
    rintro v H1 ⟨hv,hfr⟩
    have o2:=bG.JO (H:=H.set n (.arr 3 [bj r])) o1 hv (by rw[set_set] at hfr; exact hfr)
    have cv:=hv.cells
    have kv:=hv.r7
    have f5:=o2.is 1 rfl (by simp)
    simp only[bj,encI] at f5
    simp (disch:=omega) only [↓wr,↓reduceIte,wq,ai,ah,ak,ae,af,ag,aj,isNil,Nat.reduceEqDiff,Nat.reduceAdd,Nat.reduceLT,Nat.reduceLeDiff,Int.reduceNeg,Int.reduceToNat,reduceCtorEq,t1,t2,t3,t4,f5,cv,kv]
    have o3:=(o2.at 1 (by simp)).put (es':=[[gi r.left,v,gi r.prec]]) rfl rfl
    simp only[List.eraseIdx_cons_succ,List.eraseIdx_cons_zero] at o3
    intro m hm
    try simp (disch:=omega) only [↓wr,↓reduceIte,wq,ai,ah,ak,ae,af,ag,aj,isNil,Nat.reduceEqDiff,Nat.reduceAdd,Nat.reduceLT,Nat.reduceLeDiff,Int.reduceNeg,Int.reduceToNat,reduceCtorEq,t1,t2,t3,t4,cv,kv,dG]
    have hbl:(gC bs).length≤60:=by
      have h1:=congrArg List.length hbs
      simp only[List.length_map,List.length_take] at h1
      simp only[gC,List.length_map]
      omega
    have o4:=(o3.fresh (o:=.arr 3 [[gi r.left,v,gi r.prec]]) hm).at 2 (by simp)
    refine rq o4 (by simp[w6,kv]) (by unfold aM; simp at hbl ⊢; omega) (by unfold aM; simp at hbl ⊢; omega) ?_
    intro u2' H4 o5 _
    simp (disch:=omega) only [↓wr,↓reduceIte,wq,ai,ah,ak,ae,af,ag,aj,isNil,Nat.reduceEqDiff,Nat.reduceAdd,Nat.reduceLT,Nat.reduceLeDiff,Int.reduceNeg,Int.reduceToNat,reduceCtorEq,t1,t2,t3,t4]
    refine bb hk (by omega) ⟨⟨u2',bs ++ [(v,r)],rfl,?_,?_⟩,t1,t2,rfl⟩
    · rw[List.map_append,hbs,htk]; rfl
    · have o6:=((o5.at 1 (by simp)).tail).perm (.refl _)
      simp only[List.eraseIdx_cons_succ,List.eraseIdx_cons_zero] at o6
      refine o6.perm ?_
      simp only[gC,qo,List.map_append,List.map_cons,List.map_nil]
      exact .cons _ (List.perm_append_singleton (v,1,ch r.right) ((.sl b1 0 1 4,4,[[u0,u1,.aY (g.rules.map bj),gi g.start]]) :: (u0,3,g.aw.map cZ) :: (u1,1,vO g.aD) :: (.sl b2 0 1 4,4,[[.emp 1,.emp 1,.emp 1,gi 0]]) :: qo bs)).symm
  · rw[List.take_of_length_le (by omega)] at hbs
    have f2:=ho.is 4 rfl (by simp)
    have c0:=(ho.own 2 rfl).cells
    have k0:=(ho.own 2 rfl).r7
    have c1:=(ho.own 3 rfl).cells
    have k1:=(ho.own 3 rfl).r7
    have c2:=(ho.own 0 rfl).cells
    have k2:=(ho.own 0 rfl).r7
    simp (disch:=omega) only [↓wr,↓reduceIte,wq,ai,ah,ak,ae,af,ag,aj,isNil,Nat.reduceEqDiff,Nat.reduceAdd,Nat.reduceLT,Nat.reduceLeDiff,Int.reduceNeg,Int.reduceToNat,reduceCtorEq,t1,t2,t3,t4,f1,f2,c0,k0,c1,k1,c2,k2,d21,d21.symm]
    intro h' hh
    have o1:=(ho.at 1 (by simp)).put (es':=[[u0,u1,u2,gi g.start]]) rfl rfl
    simp only[List.eraseIdx_cons_succ,List.eraseIdx_cons_zero] at o1
    have o2:=(o1.at 4 (by simp)).put (es':=[[u0,u1,u2,gi g.start]]) rfl rfl
    simp only[List.eraseIdx_cons_succ,List.eraseIdx_cons_zero] at o2
    have hv:h'.view=(H.set b1 (.arr 4 [[u0,u1,u2,gi g.start]])).set b2 (.arr 4 [[u0,u1,u2,gi g.start]]):=hh
    rw[← hv] at o2
    exact G8 (o2.own 3 rfl) (o2.own 4 rfl) (o2.own 2 rfl) (fun y hy=>o2.1 y (by
      refine List.mem_cons_of_mem _ (List.mem_cons_of_mem _ (List.mem_cons_of_mem _ (List.mem_cons_of_mem _ (List.mem_cons_of_mem _ ?_))))
      exact hy)) hbs
end Gv
set_option linter.unusedSimpArgs false
set_option maxRecDepth 100000
namespace Gv
open Go Go.Proofs
theorem cO.Dc {H:View} {u:V} {l:List Int} (h:aV H u 1 (ch l)):cO H u (encI l):=cO.own h fun e he v hv=>by
  obtain ⟨x,_,rfl⟩:=List.mem_map.1 he
  simp at hv; subst hv; exact .val _
end Gv
set_option linter.unusedSimpArgs false
namespace Gv
open Go Go.Proofs
theorem C1 {g:au} (hr:aT g=true) {p l:List Int} {i j:Nat} (h:Sp g p l i j):da l (aH g true) true=true:=by
  induction h with
  | nil=>rfl
  | term s l i j h0 _ _ ih =>
    simp only[da,List.all_cons,Bool.and_eq_true] at ih ⊢
    rw[if_pos h0]
    exact ⟨rfl,ih⟩
  | bU s l R i k j h0 hR hl _ _ ih1 ih2 =>
    have g1:=gz hr hR ih1
    rw[hl] at g1
    simp only[da,List.all_cons,Bool.and_eq_true] at ih2 ⊢
    rw[if_neg (by omega)]
    exact ⟨g1,ih2⟩
section
variable {g r:au} {p q:List Bool} {o:List Int}
theorem c8.sp (h:c8 g p q o r) {w l:List Int} {i j:Nat} (hs:Sp g w l i j):(∀ s∈l,s < 0→-1 - s∈o)→Sp r w (l.map fun s=>if s < 0 then -1 - bA o (-1 - s) else s) i j:=by
  induction hs with
  | nil=>exact fun _=>.nil _
  | term s l i j h0 hf _ ih =>
    intro hl
    rw[List.map_cons,if_neg (by omega)]
    exact .term s _ i j h0 hf (ih fun s hs=>hl s (by simp[hs]))
  | bU s l R i k j h0 hR hle h1 _ ih1 ih2 =>
    intro hl
    have hso:=hl s (by simp) h0
    obtain ⟨R1,hR1,hk1,e1⟩:=h.from_ _ hso
    have hk:cJ p q R=true:=by
      rw[cJ,Bool.and_eq_true] at hk1 ⊢
      refine ⟨by rw[hle,← e1]; exact hk1.1,?_⟩
      rw[h.pe]
      exact C1 h.right h1
    have hin:=(h.kept R hR hk).2
    have hm:cg (bA o) R∈r.rules:=by rw[h.rules]; exact List.mem_map.2 ⟨R,List.mem_filter.2 ⟨hR,hk⟩,rfl⟩
    have hb:=jj hso
    rw[List.map_cons,if_pos h0]
    exact .bU _ _ (cg (bA o) R) i k j (by omega) hm (by simp only[cg]; rw[hle]; omega) (ih1 hin) (ih2 fun s hs=>hl s (by simp[hs]))
end
theorem FX {g:au} {p:List Int} {k:Nat} (hk:k≤p.length) {l:List Int} {i j:Nat} (h:Sp g p l i j):i≤k→k≤j →
    (∃ l1 l2,l=l1 ++ l2∧Sp g (p.take k) l1 i k)∨(∃ l1 s l2 a,l=l1 ++ s :: l2∧s < 0∧Sp g (p.take k) l1 i a∧a < k∧z7 g (p.take k) (-1 - s) a):=by
  induction h with
  | nil i =>
    intro h1 h2
    have:i=k:=by omega
    subst this
    exact .inl ⟨[],[],rfl,.nil _⟩
  | term s l i j h0 hf hs ih =>
    intro h1 h2
    by_cases e:i=k
    · subst e; exact .inl ⟨[],s :: l,rfl,.nil _⟩
    · have hf':fc (p.take k) i s:=by
        obtain ⟨c,hc,h3⟩:=hf
        exact ⟨c,by rw[List.getElem?_take,if_pos (by omega)]; exact hc,h3⟩
      rcases ih (by omega) h2 with ⟨l1,l2,e2,h3⟩ | ⟨l1,s',l2,a,e2,h3,h4,h5,h6⟩
      · exact .inl ⟨s :: l1,l2,by rw[e2]; rfl,.term s l1 i k h0 hf' h3⟩
      · exact .inr ⟨s :: l1,s',l2,a,by rw[e2]; rfl,h3,.term s l1 i a h0 hf' h4,h5,h6⟩
  | bU s l R i m j h0 hR hl hs1 hs2 ih1 ih2 =>
    intro h1 h2
    by_cases e:i=k
    · subst e; exact .inl ⟨[],s :: l,rfl,.nil _⟩
    · by_cases hm:m≤k
      · have c1:=hs1.cut (k:=k) hm
        rcases ih2 hm h2 with ⟨l1,l2,e2,h3⟩ | ⟨l1,s',l2,a,e2,h3,h4,h5,h6⟩
        · exact .inl ⟨s :: l1,l2,by rw[e2]; rfl,.bU s l1 R i m k h0 hR hl c1 h3⟩
        · exact .inr ⟨s :: l1,s',l2,a,by rw[e2]; rfl,h3,.bU s l1 R i m a h0 hR hl c1 h4,h5,h6⟩
      · have hlen:(p.take k).length=k:=by simp; omega
        refine .inr ⟨[],s,l,i,rfl,h0,.nil _,by omega,?_⟩
        rw[← hl]
        rcases ih1 h1 (by omega) with ⟨l1,l2,e2,h3⟩ | ⟨l1,s',l2,a,e2,h3,h4,h5,h6⟩
        · exact .full R l1 l2 i hR e2 (by rw[hlen]; exact h3)
        · exact .deep R l1 l2 s' i a hR e2 h3 h4 (by rw[hlen]; exact h5) h6
theorem z7.cut {g:au} {p:List Int} {k:Nat} (hk:k≤p.length) {n:Int} {f:Nat} (h:z7 g p n f):f≤k→z7 g (p.take k) n f:=by
  have hlen:(p.take k).length=k:=by simp; omega
  induction h with
  | full R l1 l2 f hR e hs =>
    intro hf
    rcases FX hk hs hf hk with ⟨a1,a2,e2,h3⟩ | ⟨a1,s',a2,a,e2,h3,h4,h5,h6⟩
    · exact .full R a1 (a2 ++ l2) f hR (by rw[e,e2]; simp) (by rw[hlen]; exact h3)
    · exact .deep R a1 (a2 ++ l2) s' f a hR (by rw[e,e2]; simp) h3 h4 (by rw[hlen]; exact h5) h6
  | deep R l1 l2 s f a hR e h0 h1 h2 _ ih =>
    intro hf
    by_cases ha:a < k
    · exact .deep R l1 l2 s f a hR e h0 (h1.cut (by omega)) (by rw[hlen]; exact ha) (ih (by omega))
    · rcases FX hk h1 hf (by omega) with ⟨a1,a2,e2,h3⟩ | ⟨a1,s',a2,b,e2,h3,h4,h5,h6⟩
      · exact .full R a1 (a2 ++ s :: l2) f hR (by rw[e,e2]; simp) (by rw[hlen]; exact h3)
      · exact .deep R a1 (a2 ++ s :: l2) s' f b hR (by rw[e,e2]; simp) h3 h4 (by rw[hlen]; exact h5) h6
theorem Sp.wide {g:au} {p p':List Int} (hp:∀ i s,fc p i s→fc p' i s) {l:List Int} {i j:Nat} (h:Sp g p l i j):Sp g p' l i j:=by
  induction h with
  | nil i=>exact .nil i
  | term s l i j h0 hf _ ih=>exact .term s l i j h0 (hp _ _ hf) ih
  | bU s l R i k j h0 hR hl _ _ ih1 ih2=>exact .bU s l R i k j h0 hR hl ih1 ih2
end Gv
set_option linter.unusedSimpArgs false
namespace Gv
open Go
def pad (h:List Int) (k:Nat):List Int:=h ++ List.replicate k (-1)
def gw (fit:List Int→Bool) (T:Nat):Nat→List Int→List (List Int)
  | 0,h=>if fit (pad h 0)=true then [h] else []
  | k+1,h=>if fit (pad h (k+1))=true then (List.range T).flatMap fun (t:Nat)=>gw fit T k (h ++ [(t:Int)]) else []
def bH (fit:List Int→Bool) (T b:Nat):Nat→List Int→List (List Int)→List (List Int)
  | 0,h,out=>if b < out.length∨fit (pad h 0)=false then out else out ++ [h]
  | k+1,h,out=>if b < out.length∨fit (pad h (k+1))=false then out else (List.range T).foldl (fun o (t:Nat)=>bH fit T b k (h ++ [(t:Int)]) o) out
section
variable {fit:List Int→Bool} {T b:Nat}
theorem m7 {k:Nat} {h:List Int} {out:List (List Int)} (hb:b < out.length):bH fit T b k h out=out:=by
  cases k <;> rw[bH,if_pos (.inl hb)]
theorem xP {α:Type} {f:List (List Int)→α→List (List Int)} {a:α→List (List Int)} (hf:∀ o x,∃ l,f o x=o ++ l∧((f o x).length≤b→l=a x)∧(b < (f o x).length→b < (o ++ a x).length)∧(o.length≤b+1→(f o x).length≤b+1)∧(b < o.length→f o x=o)):∀ (xs:List α) (o:List (List Int)),
    ∃ l,xs.foldl f o=o ++ l∧((xs.foldl f o).length≤b→l=xs.flatMap a)∧(b < (xs.foldl f o).length→b < (o ++ xs.flatMap a).length)∧(o.length≤b+1→(xs.foldl f o).length≤b+1)∧(b < o.length→xs.foldl f o=o)
  | [],o=>⟨[],by simp,fun _=>by simp,fun h=>by simpa using h,id,fun _=>rfl⟩
  | x :: xs,o=>by
    obtain ⟨l1,e1,h1,g1,m1,n1⟩:=hf o x
    obtain ⟨l2,e2,h2,g2,m2,n2⟩:=xP hf xs (f o x)
    refine ⟨l1 ++ l2,by rw[List.foldl_cons,e2,e1,List.append_assoc],fun hl=>?_,fun hl=>?_,fun hl=>by rw[List.foldl_cons]; exact m2 (m1 hl),fun hl=>by
      have:=n1 hl
      rw[this] at n2
      rw[List.foldl_cons,this]; exact n2 hl⟩
    · rw[List.foldl_cons] at hl
      have hle:(f o x).length≤b:=by rw[e2,List.length_append] at hl; omega
      rw[h1 hle,h2 hl,List.flatMap_cons]
    · rw[List.foldl_cons] at hl
      have h3:=g2 hl
      by_cases hc:b < (f o x).length
      · have:=g1 hc
        simp only[List.flatMap_cons,List.length_append] at this ⊢
        omega
      · rw[e1,h1 (by omega)] at h3
        rw[List.flatMap_cons,← List.append_assoc]; exact h3
theorem mY:∀ (k:Nat) (h:List Int) (out:List (List Int)),∃ l,bH fit T b k h out=out ++ l∧((bH fit T b k h out).length≤b→l=gw fit T k h)∧(b < (bH fit T b k h out).length→b < (out ++ gw fit T k h).length) ∧
    (out.length≤b+1→(bH fit T b k h out).length≤b+1)∧(b < out.length→bH fit T b k h out=out)
  | 0,h,out=>by
    rw[bH,gw]
    by_cases hb:b < out.length
    · rw[if_pos (.inl hb)]
      exact ⟨[],by simp,fun h=>by omega,fun _=>by rw[List.length_append]; omega,id,fun _=>rfl⟩
    · cases hf:fit (pad h 0) with
      | false=>rw[if_pos (.inr rfl)]; exact ⟨[],by simp,fun _=>by simp,fun h=>by simpa using h,id,fun _=>rfl⟩
      | true =>
        rw[if_neg (by simp; omega),if_pos rfl]
        exact ⟨[h],rfl,fun _=>rfl,id,fun _=>by simp; omega,fun h=>absurd h hb⟩
  | k+1,h,out=>by
    rw[bH,gw]
    by_cases hb:b < out.length
    · rw[if_pos (.inl hb)]
      exact ⟨[],by simp,fun h=>by omega,fun _=>by rw[List.length_append]; omega,id,fun _=>rfl⟩
    · cases hf:fit (pad h (k+1)) with
      | false=>rw[if_pos (.inr rfl)]; exact ⟨[],by simp,fun _=>by simp,fun h=>by simpa using h,id,fun _=>rfl⟩
      | true =>
        rw[if_neg (by simp; omega),if_pos rfl]
        exact xP (fun o (t:Nat)=>mY k (h ++ [(t:Int)]) o) _ _
theorem sR {k:Nat} {h:List Int} {out:List (List Int)} (ho:out.length≤b+1):(bH fit T b k h out).length≤b+1:=by
  obtain ⟨l,_,_,_,h4,_⟩:=mY (fit:=fit) (T:=T) (b:=b) k h out
  exact h4 ho
theorem te {k:Nat} {h:List Int} : ∀ {l:List Nat} {out:List (List Int)},out.length≤b+1→(l.foldl (fun o (t:Nat)=>bH fit T b k (h ++ [(t:Int)]) o) out).length≤b+1
  | [],_,ho=>ho
  | _ :: _,_,ho=>by rw[List.foldl_cons]; exact te (sR ho)
theorem iL:∀ (k:Nat) (h w:List Int),w∈gw fit T k h→fit w=true∧∃ s,w=h ++ s∧s.length=k∧∀ x∈s,0≤x∧x < (T:Int)
  | 0,h,w,hm=>by
    rw[gw] at hm
    split at hm
    · rename_i hf
      simp at hm; subst hm
      exact ⟨by simpa [pad] using hf,[],by simp,rfl,by simp⟩
    · simp at hm
  | k+1,h,w,hm=>by
    rw[gw] at hm
    split at hm
    · rename_i hf
      rw[List.mem_flatMap] at hm
      obtain ⟨t,ht,hm⟩:=hm
      obtain ⟨h1,s,rfl,hs,hx⟩:=iL k _ w hm
      rw[List.mem_range] at ht
      refine ⟨h1,(t:Int) :: s,by simp,by simp[hs],fun x hx'=>?_⟩
      rcases List.mem_cons.1 hx' with rfl | hx'
      · omega
      · exact hx x hx'
    · simp at hm
theorem A6 (hw:∀ (h s:List Int),fit (h ++ s)=true→fit (pad h s.length)=true):∀ (k:Nat) (h s:List Int),s.length=k→(∀ x∈s,0≤x∧x < (T:Int))→fit (h ++ s)=true→h ++ s∈gw fit T k h
  | 0,h,s,hl,_,hf=>by
    have:s=[]:=List.length_eq_zero_iff.1 hl
    subst this
    have:=hw h [] hf
    rw[gw,if_pos (by simpa using this)]; simp
  | k+1,h,s,hl,hx,hf=>by
    cases s with
    | nil=>simp at hl
    | cons x s =>
      have hp:=hw h (x :: s) hf
      rw[hl] at hp
      rw[gw,if_pos hp,List.mem_flatMap]
      have h0:=hx x (by simp)
      refine ⟨x.toNat,by rw[List.mem_range]; omega,?_⟩
      have e:((x.toNat:Nat):Int)=x:=by omega
      rw[e]
      have:=A6 hw k (h ++ [x]) s (by simpa using hl) (fun y hy=>hx y (by simp[hy])) (by simpa using hf)
      simpa using this
def gU:List Int→List Int→Bool
  | a :: l,b :: m=>if a=b then gU l m else decide (a < b)
  | [],_ :: _=>true
  | _,[]=>false
theorem ye (h:List Int) (a b:List Int):gU (h ++ a) (h ++ b)=gU a b:=by
  induction h with
  | nil=>rfl
  | cons x h ih=>simp[gU,ih]
def zr (l:List (List Int)):Prop:=l.Pairwise fun a b=>gU a b=true
theorem ui:∀ (k:Nat) (h:List Int),zr (gw fit T k h)
  | 0,h=>by
    rw[gw]
    split
    · exact List.pairwise_singleton _ _
    · exact .nil
  | k+1,h=>by
    rw[gw]
    split
    · rw[zr,List.pairwise_flatMap]
      refine ⟨fun t _=>ui k _,?_⟩
      refine List.Pairwise.imp ?_ List.pairwise_lt_range
      intro a b hab x hx y hy
      obtain ⟨_,s,rfl,_⟩:=iL k _ x hx
      obtain ⟨_,s',rfl,_⟩:=iL k _ y hy
      rw[List.append_assoc,List.append_assoc,ye]
      simp only[List.cons_append,List.nil_append,gU]
      rw[if_neg (by omega)]
      simp; exact hab
    · exact .nil
end
theorem GC {h s:List Int} (i:Nat) (x:Int) (hf:fc (h ++ s) i x):fc (pad h s.length) i x:=by
  obtain ⟨c,hc,h2⟩:=hf
  unfold fc pad
  by_cases hi:i < h.length
  · exact ⟨c,by rw[List.getElem?_append_left hi] at hc ⊢; exact hc,h2⟩
  · have hl:=(List.getElem?_eq_some_iff.1 hc).1
    rw[List.length_append] at hl
    refine ⟨-1,?_,.inr rfl⟩
    rw[List.getElem?_append_right (by omega),List.getElem?_replicate,if_pos (by omega)]
end Gv
set_option linter.unusedSimpArgs false
set_option maxRecDepth 100000
namespace Gv
open Go Go.Proofs
def cW (l:List (List Int)):V:=.aY (l.map fun w=>[encI w])
theorem mZ (l:List (List Int)):Tree (cW l):=fq _ _ fun x _ v hv=>by
  simp at hv; subst hv; exact cn x
abbrev Hs:=List (V × List Int)
def eP (b:Hs):List (List V):=b.map fun x=>[x.1]
def cR (H:View) (u:V) (out:List (List Int)):Prop:=∃ b:Hs,b.map (·.2)=out∧aV H u 1 (eP b)∧∀ x∈b,aV H x.1 1 (ch x.2)
theorem cR.nil {H:View} {k:Nat} : cR H (.emp k) []:=⟨[],rfl,.nil,by simp⟩
theorem cR.len {H:View} {u:V} {out:List (List Int)} (h:cR H u out):dK u=some out.length:=by
  obtain ⟨b,rfl,ho,_⟩:=h
  rw[ho.len]; simp[eP]
theorem cR.cells {H:View} {u:V} {out:List (List Int)} (h:cR H u out):V.cells u=[u]∧aN u=true:=by
  obtain ⟨b,_,ho,_⟩:=h
  exact ⟨ho.cells,ho.r7⟩
theorem Ib {H:View} {u:V} {b:Hs} (ho:aV H u 1 (eP b)) (hb:∀ x∈b,aV H x.1 1 (ch x.2)) {x:V × List Int} (hx:x∈b) {id:Nat} (hid:owner x.1=some id):owner u≠some id:=by
  intro e
  have h1:=(ho.live e).1
  have h2:=((hb x hx).live hid).1
  rw[h2] at h1
  simp only[br.arr.injEq,true_and] at h1
  cases b with
  | nil=>simp at hx
  | cons y r =>
    have h3:=hb y (by simp)
    cases hw:x.2 with
    | nil=>rw[hw] at h1; simp[eP] at h1
    | cons c w =>
      rw[hw] at h1
      simp only[eP,List.map_cons,List.cons.injEq] at h1
      rcases h3 with ⟨_,k,e2⟩ | ⟨n,e2,_⟩
      · rw[e2] at h1; simp at h1
      · rw[e2] at h1; simp at h1
theorem cR.keep {H H':View} {u:V} {out:List (List Int)} (h:cR H u out) (hk:∀ id,H id≠.dead→H' id=H id):cR H' u out:=by
  obtain ⟨b,e,ho,hb⟩:=h
  exact ⟨b,e,ho.keep fun id hid=>hk id (by rw[(ho.live hid).1]; simp),fun x hx=>(hb x hx).keep fun id hid=>hk id (by rw[((hb x hx).live hid).1]; simp)⟩
theorem cR.add {H H':View} {u u' v:V} {b:Hs} {w:List Int} (ho:aV H u 1 (eP b)) (hb:∀ x∈b,aV H x.1 1 (ch x.2)) (hv:aV H v 1 (ch w)) (hd:∀ id,owner v=some id→owner u≠some id)
    (h1:aV H' u' 1 (eP b ++ [[v]])) (h2:Left H H' u u'):cR H' u' (b.map (·.2) ++ [w]):=by
  refine ⟨b ++ [(v,w)],by simp,by simpa [eP] using h1,fun x hx=>?_⟩
  rcases List.mem_append.1 hx with hx | hx
  · exact (hb x hx).left h2 fun id hid=>Ib ho hb hx hid
  · simp at hx; subst hx
    exact hv.left h2 hd
theorem cR.Ev {h:aE} {u:V} {out:List (List Int)} (ho:cR h.view u out):dA h u (cW out):=by
  obtain ⟨b,rfl,ho,hb⟩:=ho
  have hg:∀ i (hi:i < b.length),(eP b).getD i []=[(b[i]).1]∧(((b.map (·.2)).map fun w=>[encI w]).getD i [])=[encI (b[i]).2]:=fun i hi=>by
    simp[eP,List.getD_eq_getElem?_getD,hi]
  refine dA.own ho (by simp[eP]) (fun i hi=>?_) (fun i j hi hj=>?_)
  · have hi':i < b.length:=by simpa [eP] using hi
    rw[(hg i hi').1,(hg i hi').2]; rfl
  · have hi':i < b.length:=by simpa [eP] using hi
    rw[(hg i hi').2] at hj ⊢
    rw[(hg i hi').1]
    have:j=0:=by simp at hj; omega
    subst this
    simp only[List.getD_cons_zero]
    exact dA.GW (hb _ (List.getElem_mem hi'))
def nN (H:View) (v:V) (p:List Int):Prop:=v=encI p∨(p≠[]∧∃ n,v=.sl n 0 p.length 1∧H n=.arr 1 (ch p))
theorem nN.uG {H:View} {v:V} {p:List Int} (h:nN H v p):cO H v (encI p):=by
  rcases h with rfl | ⟨_,n,rfl,hn⟩
  · exact .tree (cn p)
  · exact q4 hn rfl
theorem nN.len {H:View} {v:V} {p:List Int} (h:nN H v p):dK v=some p.length:=by
  rcases h with rfl | ⟨_,n,rfl,hn⟩
  · simp[encI,dK]
  · rfl
def iF (H H':View) (f:Nat) (u u':V):Prop:=∀ id,H id≠.dead→id≠f→owner u≠some id→H' id=H id∧owner u'≠some id
theorem iF.refl {H:View} {f:Nat} {u:V} : iF H H f u u:=fun _ _ _ h=>⟨rfl,h⟩
theorem iF.trans {H H1 H2:View} {f:Nat} {u u1 u2:V} (h1:iF H H1 f u u1) (h2:iF H1 H2 f u1 u2):iF H H2 f u u2:=fun id hd hf hu=>by
  obtain ⟨a,b⟩:=h1 id hd hf hu
  obtain ⟨c,d⟩:=h2 id (by rw[a]; exact hd) hf b
  exact ⟨c.trans a,d⟩
theorem yI (l:List Int) (hl:l.length≤100000) (v:V) (H:View) (hv:nN H v l):aB Tryz.prog 76 [v] H fun r H'=>aV H' r 1 (ch l)∧c6 H H' r:=by
  rcases hv with rfl | ⟨hne,n,rfl,hn⟩
  · exact Eh l hl H
  · cases l with
    | nil=>exact absurd rfl hne
    | cons p r =>
      refine aB.of mixed cd ?_
      simp only[List.length_cons] at hl ⊢
      have he:bD H (.sl n 0 (r.length+1) 1)=some (ch (p :: r),[n]):=by
        rw[rz _ n 0 r.length 1 1 _ hn (by simp),List.drop_zero,List.take_of_length_le (by simp)]
      simp (disch:=omega) only [↓wr,↓reduceIte,wq,ai,ah,ak,ae,af,ag,aj,isNil,Nat.reduceEqDiff,Nat.reduceAdd,Nat.reduceLT,Nat.reduceLeDiff,Int.reduceNeg,Int.reduceToNat,reduceCtorEq,bZ,he]
      refine ⟨by simp[aN,List.all_map],by unfold aM; simp; omega,fun m hm=>?_⟩
      simp (disch:=omega) only [↓wr,↓reduceIte,wq,ai,ah,ak,ae,af,ag,aj,isNil,Nat.reduceEqDiff,Nat.reduceAdd,Nat.reduceLT,Nat.reduceLeDiff,Int.reduceNeg,Int.reduceToNat,reduceCtorEq]
      have:=aV.new (H:=H) (n:=m) (sz:=1) (es:=ch (p :: r))
      simp only[List.length_map,List.length_cons] at this
      exact ⟨by simpa using this,.new hm⟩
theorem iF.kept {H H':View} {f:Nat} {u:V} (h:∀ id,H id≠.dead→H' id=H id):iF H H' f u u:=fun id hd _ hu=>⟨h id hd,hu⟩
theorem xF {H:View} {u:V} {sz f z:Nat} {es:List (List V)} {e:List (List V)} (ho:aV H u sz es) (hf:H f=.arr z e) (hz:sz≠z):owner u≠some f:=fun e2=>by
  have:=(ho.live e2).1
  rw[hf] at this
  simp only[br.arr.injEq] at this
  exact hz this.1.symm
theorem cR.box {H:View} {u:V} {out:List (List Int)} {f:Nat} {e:List (List V)} {o:br} (h:cR H u out) (hf:H f=.arr 6 e):cR (H.set f o) u out:=by
  obtain ⟨b,e1,ho,hb⟩:=h
  exact ⟨b,e1,ho.other (xF ho hf (by decide)),fun x hx=>(hb x hx).other (xF (hb x hx) hf (by decide))⟩
theorem nN.Ji {H H':View} {v u u':V} {p:List Int} {out:List (List Int)} {f:Nat} {e:List (List V)} (h:nN H v p) (ho:cR H u out) (hf:H f=.arr 6 e) (hk:iF H H' f u u'):nN H' v p:=by
  rcases h with rfl | ⟨hp,n,rfl,hn⟩
  · exact .inl rfl
  · refine .inr ⟨hp,n,rfl,?_⟩
    rw[(hk n (by rw[hn]; simp) (fun e=>by rw[e,hf] at hn; simp at hn) (fun e=>?_)).1,hn]
    obtain ⟨b,_,ho,hb⟩:=ho
    have h1:=(ho.live e).1
    rw[hn] at h1
    simp only[br.arr.injEq,true_and] at h1
    cases p with
    | nil=>exact hp rfl
    | cons c w =>
      cases b with
      | nil=>simp[eP] at h1
      | cons y r =>
        simp only[eP,List.map_cons,List.cons.injEq] at h1
        rcases hb y (by simp) with ⟨_,k,e2⟩ | ⟨n,e2,_⟩
        · rw[e2] at h1; simp at h1
        · rw[e2] at h1; simp at h1
def ie (g:au) (bud:Nat) (u:V):List V:=[.aY (g.aw.map cZ),.aY (g.aD.map fun s=>[gs s]),.aY (g.rules.map bj),gi g.start,gi bud,u]
def kn:SF:=⟨.seq (al [aP 2 false]) <|
  .seq (al [aa 3 0,bh 4 3,aq 5 5 4,ao 6 5,aI 7 6,aa 8 0,bh 9 8,aq 10 4 9,ao 11 10,aK 12 .gtr 7 11,aa 2 12]) <|
  .ret,
  [.tmp 2],13⟩
theorem oR:aR Tryz.prog 82 []=some kn:=by kernel_rfl
def kq:SF:=⟨.seq (al [aP 4 false]) <|
  .seq (al [aa 8 0,bh 9 8,aq 10 0 9,aO 11 4 10,aa 12 1,aF 13 17 [11,12],aa 7 13,bK 14 0 7,bK 15 1 7,aa 5 14,aa 6 15]) <|
  .seq (.region false [⟨none,[aa 16 5,aa 17 16]⟩,⟨(some (17,true)),[aa 18 6,ax 19 .eql 18 0]⟩,⟨none,[bk 20 17 19,aa 4 20]⟩]) <|
  .ret,
  [.tmp 4],21⟩
theorem ph:aR Tryz.prog 121 []=some kq:=by kernel_rfl
def jv:SC :=
  .seq (al [aK 38 .lss 37 36]) <|
  .seq (.cond (.tmp 38) (.skip) (.exit 0)) <|
  .seq (.block 1 (.seq (al [aa 39 37,aa 6 39]) <|
  .seq (al [aa 40 1,aF 41 76 [40],aa 7 41]) <|
  .seq (al [aa 42 7,aa 43 2,aa 44 6,aX 45 1 42 43,(none,.op (.store 1 (.tmp 45) (.tmp 44)))]) <|
  al [aa 46 0,aa 47 7,aa 48 2,ax 49 .add 48 1,aF 50 80 [46,47,49]])) <|
  al [ax 51 .add 37 1,aa 37 51]
def fJ:SF:=⟨.seq (.seq (.region false [⟨none,[aa 8 0,aF 9 82 [8],aa 10 9]⟩,⟨(some (10,false)),[aa 11 0,aa 12 1,aF 13 121 [11,12],bQ 14 13]⟩,⟨none,[bf 15 10 14]⟩]) <|
  .cond (.tmp 15) (.ret) (.skip)) <|
  .seq (.seq (al [aa 16 2,aa 17 1,aI 18 17,aK 19 .eql 16 18]) <|
  .cond (.tmp 19) (.seq (.region true [⟨none,[aa 20 0,aa 21 0,bh 22 21,aq 23 5 22,ao 24 23,aa 25 1,aF 26 76 [25],((some 27),.op (.bu 1 1 [(.emp 1)] [(0,(.tmp 26))])),((some 28),.op (.app 1 24 (.tmp 24) (.tmp 27))),bh 29 20,aq 30 5 29,(none,.op (.store 1 (.tmp 30) (.tmp 28)))]⟩]) <|
  .ret) (.skip)) <|
  .seq (al [aa 31 0,bh 32 31,aq 33 0 32,aq 34 0 33,ao 35 34,aI 36 35,aG 37 0]) <|
  .block 0 (.loop jv),
  [],52⟩
theorem im:aR Tryz.prog 80 []=some fJ:=by kernel_rfl
theorem uH (g:au) (bud f:Nat) (u:V) (out:List (List Int)) (H:View) (hf:H f=.arr 6 [ie g bud u]) (ho:cR H u out):aB Tryz.prog 82 [.ptr f 0 0] H fun r H'=>r=gb (decide (bud < out.length))∧H'=H:=by
  refine aB.of mixed oR ?_
  simp (disch:=omega) only [↓wr,↓reduceIte,wq,ai,ah,ak,ae,af,ag,aj,isNil,Nat.reduceEqDiff,Nat.reduceAdd,Nat.reduceLT,Nat.reduceLeDiff,Int.reduceNeg,Int.reduceToNat,reduceCtorEq,kn,hf,ie,ho.len]
  simp
theorem Ix {g:au} {h:List Int} {k:Nat} (hh:∀ x∈h,0≤x∧x < (g.aw.length:Int)):iK g (pad h k)=true:=by
  unfold iK pad
  rw[List.all_eq_true]
  intro x hx
  rcases List.mem_append.1 hx with hx | hx
  · have:=hh x hx; simp; omega
  · have:=(List.mem_replicate.1 hx).2
    subst this; simp; omega
theorem yQ {g:au} (hr:aT g=true) {h:List Int} {k:Nat} (hh:∀ x∈h,0≤x∧x < (g.aw.length:Int)) (hl:h.length+k≤60):jy g (pad h k)=(cF g (pad h k),0):=by
  rw[jy,if_pos]
  rw[hr,Ix hh,decide_eq_true (by simp[pad]; omega)]; rfl
theorem E4 {g:au} (hg:g.Ok) {h:List Int} {k:Nat} (hh:∀ x∈h,0≤x∧x < (g.aw.length:Int)):∀ x∈pad h k,bJ x:=by
  intro x hx
  have hgt:=hg.aw
  unfold aL at hgt
  unfold pad at hx
  unfold bJ
  rcases List.mem_append.1 hx with hx | hx
  · have:=hh x hx; omega
  · have:=(List.mem_replicate.1 hx).2; omega
theorem zX (g:au) (hg:g.Ok) (hs:g.Small) (hr:aT g=true) (bud f:Nat) (u v:V) (h:List Int) (k:Nat) (H:View) (hf:H f=.arr 6 [ie g bud u]) (hv:nN H v (pad h k)) (hh:∀ x∈h,0≤x∧x < (g.aw.length:Int)) (hl:h.length+k≤60) :
    aB Tryz.prog 121 [.ptr f 0 0,v] H fun r H'=>r=gb (cF g (pad h k))∧H'=H:=by
  have hc:=G1 g hg hs (pad h k) (by unfold aL pad; simp; omega) (E4 hg hh)
  rw[yQ hr hh hl] at hc
  simp only[ar,encS] at hc
  refine aB.of mixed ph ?_
  simp (disch:=omega) only [↓wr,↓reduceIte,wq,ai,ah,ak,ae,af,ag,aj,isNil,Nat.reduceEqDiff,Nat.reduceAdd,Nat.reduceLT,Nat.reduceLeDiff,Int.reduceNeg,Int.reduceToNat,reduceCtorEq,kq,hf,ie]
  refine az.vr hc (by kernel_rfl) (yn _) ⟨.tree (bF _ (bB g)),hv.uG,trivial⟩ ?_
  simp (disch:=omega) only [↓wr,↓reduceIte,wq,ai,ah,ak,ae,af,ag,aj,isNil,Nat.reduceEqDiff,Nat.reduceAdd,Nat.reduceLT,Nat.reduceLeDiff,Int.reduceNeg,Int.reduceToNat,reduceCtorEq,kQ]
  refine an.split (fun e=>?_) (fun e=>?_)
  · simp (disch:=omega) only [↓wr,↓reduceIte,wq,ai,ah,ak,ae,af,ag,aj,isNil,Nat.reduceEqDiff,Nat.reduceAdd,Nat.reduceLT,Nat.reduceLeDiff,Int.reduceNeg,Int.reduceToNat,reduceCtorEq]
    simp[e]
  · simp (disch:=omega) only [↓wr,↓reduceIte,wq,ai,ah,ak,ae,af,ag,aj,isNil,Nat.reduceEqDiff,Nat.reduceAdd,Nat.reduceLT,Nat.reduceLeDiff,Int.reduceNeg,Int.reduceToNat,reduceCtorEq]
    simp[e]
set_option maxHeartbeats 4000000 in
theorem ID (g:au) (hg:g.Ok) (hs:g.Small) (hr:aT g=true) (bud:Nat) (hbud:bud≤500) (f:Nat):∀ (k:Nat) (h:List Int),(∀ x∈h,0≤x∧x < (g.aw.length:Int))→h.length+k≤60→∀ (v u:V) (out:List (List Int)) (H:View),
    H f=.arr 6 [ie g bud u]→cR H u out→out.length≤bud+1→nN H v (pad h k) →
    aB Tryz.prog 80 [.ptr f 0 0,v,gi h.length] H fun _ H'=>∃ u',H' f=.arr 6 [ie g bud u']∧cR H' u' (bH (cF g) g.aw.length bud k h out)∧iF H H' f u u':=by
  intro k
  induction k with
  | zero =>
    intro h hh hl v u out H0 hf ho hlo hv
    refine aB.of mixed im ?_
    simp (disch:=omega) only [↓wr,↓reduceIte,wq,ai,ah,ak,ae,af,ag,aj,isNil,Nat.reduceEqDiff,Nat.reduceAdd,Nat.reduceLT,Nat.reduceLeDiff,Int.reduceNeg,Int.reduceToNat,reduceCtorEq,fJ]
    refine az.dg ((uH g bud f u out H0 hf ho).mono ?_)
    rintro r H1 ⟨rfl,rfl⟩
    simp (disch:=omega) only [↓wr,↓reduceIte,wq,ai,ah,ak,ae,af,ag,aj,isNil,Nat.reduceEqDiff,Nat.reduceAdd,Nat.reduceLT,Nat.reduceLeDiff,Int.reduceNeg,Int.reduceToNat,reduceCtorEq]
    refine an.dec (fun hc=>?_) (fun hc=>?_)
    · simp (disch:=omega) only [↓wr,↓reduceIte,wq,ai,ah,ak,ae,af,ag,aj,isNil,Nat.reduceEqDiff,Nat.reduceAdd,Nat.reduceLT,Nat.reduceLeDiff,Int.reduceNeg,Int.reduceToNat,reduceCtorEq]
      exact ⟨u,hf,by rw[m7 hc]; exact ho,.refl⟩
    · simp (disch:=omega) only [↓wr,↓reduceIte,wq,ai,ah,ak,ae,af,ag,aj,isNil,Nat.reduceEqDiff,Nat.reduceAdd,Nat.reduceLT,Nat.reduceLeDiff,Int.reduceNeg,Int.reduceToNat,reduceCtorEq]
      refine az.dg ((zX g hg hs hr bud f u v h 0 H1 hf hv hh hl).mono ?_)
      rintro r H2 ⟨rfl,rfl⟩
      simp (disch:=omega) only [↓wr,↓reduceIte,wq,ai,ah,ak,ae,af,ag,aj,isNil,Nat.reduceEqDiff,Nat.reduceAdd,Nat.reduceLT,Nat.reduceLeDiff,Int.reduceNeg,Int.reduceToNat,reduceCtorEq]
      refine an.split (fun hp=>?_) (fun hp=>?_)
      · simp (disch:=omega) only [↓wr,↓reduceIte,wq,ai,ah,ak,ae,af,ag,aj,isNil,Nat.reduceEqDiff,Nat.reduceAdd,Nat.reduceLT,Nat.reduceLeDiff,Int.reduceNeg,Int.reduceToNat,reduceCtorEq,hv.len]
        refine an.eq (fun _=>?_) (fun e=>absurd (by simp[pad]) e)
        have hv0:nN H2 v h:=by simpa [pad] using hv
        simp (disch:=omega) only [↓wr,↓reduceIte,wq,ai,ah,ak,ae,af,ag,aj,isNil,Nat.reduceEqDiff,Nat.reduceAdd,Nat.reduceLT,Nat.reduceLeDiff,Int.reduceNeg,Int.reduceToNat,reduceCtorEq,hf,ie]
        refine az.HW (yI h (by omega) v H2 hv0) fun r H3 o3 fr3=>?_
        have c3:=o3.cells
        have k3:=o3.r7
        simp (disch:=omega) only [↓wr,↓reduceIte,wq,ai,ah,ak,ae,af,ag,aj,isNil,Nat.reduceEqDiff,Nat.reduceAdd,Nat.reduceLT,Nat.reduceLeDiff,Int.reduceNeg,Int.reduceToNat,reduceCtorEq,c3,k3]
        intro m hm
        rw[dG]
        simp (disch:=omega) only [↓wr,↓reduceIte,wq,ai,ah,ak,ae,af,ag,aj,isNil,Nat.reduceEqDiff,Nat.reduceAdd,Nat.reduceLT,Nat.reduceLeDiff,Int.reduceNeg,Int.reduceToNat,reduceCtorEq,c3,k3]
        obtain ⟨b,rfl,hob,hbs⟩:=ho
        have hob3:=hob.pD fr3
        have hbs3:∀ x∈b,aV H3 x.1 1 (ch x.2):=fun x hx=>(hbs x hx).pD fr3
        have hf3:H3 f=.arr 6 [ie g bud u]:=by rw[(fr3 f (by rw[hf]; simp)).1,hf]
        have hd:∀ id,owner r=some id→owner u≠some id:=fun id h1 h2=>(fr3 id (by rw[(hob.live h2).1]; simp)).2 h1
        simp only[List.length_map] at hlo
        refine ed (hob3.fresh hm) (by simp[k3]) (by unfold aM; simp[eP]; omega) (by unfold aM; simp[eP]; omega) ?_
        intro u' H4 o4 l4
        have hfm:f≠m:=by rintro rfl; rw[hf3] at hm; simp at hm
        have hf4:H4 f=.arr 6 [ie g bud u]:=by
          have hfs:(H3.set m (.arr 1 [[r]])) f=.arr 6 [ie g bud u]:=by simp only[View.set,if_neg hfm]; exact hf3
          rw[(l4 f (by rw[hfs]; simp) (xF (hob3.fresh hm) hfs (by decide))).1,hfs]
        have ho4:cR H4 u' (b.map (·.2) ++ [h]):=cR.add (hob3.fresh hm) (fun x hx=>(hbs3 x hx).fresh hm) (o3.fresh hm) hd o4 l4
        have c4:=o4.cells
        have k4:=o4.r7
        simp (disch:=omega) only [↓wr,↓reduceIte,wq,ai,ah,ak,ae,af,ag,aj,isNil,Nat.reduceEqDiff,Nat.reduceAdd,Nat.reduceLT,Nat.reduceLeDiff,Int.reduceNeg,Int.reduceToNat,reduceCtorEq,hf4,ie,c4,k4]
        refine ⟨u',by simp[View.set],?_,fun id hid hif hiu=>?_⟩
        · rw[bH,if_neg (by rw[hp]; simp; simpa using hc)]
          exact ho4.box hf4
        · have h3:=fr3 id hid
          have him:id≠m:=by
            rintro rfl
            rw[h3.1] at hm
            exact hid hm
          have h4:=l4 id (by simp only[View.set,if_neg him]; rw[h3.1]; exact hid) hiu
          refine ⟨?_,h4.2⟩
          simp only[View.set,if_neg hif,h4.1,if_neg him,h3.1]
      · simp (disch:=omega) only [↓wr,↓reduceIte,wq,ai,ah,ak,ae,af,ag,aj,isNil,Nat.reduceEqDiff,Nat.reduceAdd,Nat.reduceLT,Nat.reduceLeDiff,Int.reduceNeg,Int.reduceToNat,reduceCtorEq]
        exact ⟨u,hf,by rw[bH,if_pos (.inr hp)]; exact ho,.refl⟩
  | succ k ih =>
    intro h hh hl v u out H0 hf ho hlo hv
    refine aB.of mixed im ?_
    simp (disch:=omega) only [↓wr,↓reduceIte,wq,ai,ah,ak,ae,af,ag,aj,isNil,Nat.reduceEqDiff,Nat.reduceAdd,Nat.reduceLT,Nat.reduceLeDiff,Int.reduceNeg,Int.reduceToNat,reduceCtorEq,fJ]
    refine az.dg ((uH g bud f u out H0 hf ho).mono ?_)
    rintro r H1 ⟨rfl,rfl⟩
    simp (disch:=omega) only [↓wr,↓reduceIte,wq,ai,ah,ak,ae,af,ag,aj,isNil,Nat.reduceEqDiff,Nat.reduceAdd,Nat.reduceLT,Nat.reduceLeDiff,Int.reduceNeg,Int.reduceToNat,reduceCtorEq]
    refine an.dec (fun hc=>?_) (fun hc=>?_)
    · simp (disch:=omega) only [↓wr,↓reduceIte,wq,ai,ah,ak,ae,af,ag,aj,isNil,Nat.reduceEqDiff,Nat.reduceAdd,Nat.reduceLT,Nat.reduceLeDiff,Int.reduceNeg,Int.reduceToNat,reduceCtorEq]
      exact ⟨u,hf,by rw[m7 hc]; exact ho,.refl⟩
    · simp (disch:=omega) only [↓wr,↓reduceIte,wq,ai,ah,ak,ae,af,ag,aj,isNil,Nat.reduceEqDiff,Nat.reduceAdd,Nat.reduceLT,Nat.reduceLeDiff,Int.reduceNeg,Int.reduceToNat,reduceCtorEq]
      refine az.dg ((zX g hg hs hr bud f u v h (k+1) H1 hf hv hh hl).mono ?_)
      rintro r H2 ⟨rfl,rfl⟩
      simp (disch:=omega) only [↓wr,↓reduceIte,wq,ai,ah,ak,ae,af,ag,aj,isNil,Nat.reduceEqDiff,Nat.reduceAdd,Nat.reduceLT,Nat.reduceLeDiff,Int.reduceNeg,Int.reduceToNat,reduceCtorEq]
      refine an.split (fun hp=>?_) (fun hp=>?_)
      · simp (disch:=omega) only [↓wr,↓reduceIte,wq,ai,ah,ak,ae,af,ag,aj,isNil,Nat.reduceEqDiff,Nat.reduceAdd,Nat.reduceLT,Nat.reduceLeDiff,Int.reduceNeg,Int.reduceToNat,reduceCtorEq,hv.len]
        refine an.eq (fun e=>absurd e (by simp[pad]; omega)) (fun _=>?_)
        have hgt:=hg.aw
        unfold aL at hgt
        simp (disch:=omega) only [↓wr,↓reduceIte,wq,ai,ah,ak,ae,af,ag,aj,isNil,Nat.reduceEqDiff,Nat.reduceAdd,Nat.reduceLT,Nat.reduceLeDiff,Int.reduceNeg,Int.reduceToNat,reduceCtorEq,hf,ie]
        refine bo.up g.aw.length (fun i T H'=>∃ u',H' f=.arr 6 [ie g bud u']∧cR H' u' ((List.range i).foldl (fun o (t:Nat)=>bH (cF g) g.aw.length bud k (h ++ [(t:Int)]) o) out)∧iF H2 H' f u u' ∧
          T 0=.ptr f 0 0∧T 1=v∧T 2=gi h.length∧T 36=gi g.aw.length∧T 37=gi i) ⟨u,hf,ho,.refl,rfl,rfl,rfl,rfl,rfl⟩ ?_
        rintro i j T H3 hk ⟨u1,hf3,ho3,kp,t0,t1,t2,t36,t37⟩
        simp (disch:=omega) only [↓wr,↓reduceIte,wq,ai,ah,ak,ae,af,ag,aj,isNil,Nat.reduceEqDiff,Nat.reduceAdd,Nat.reduceLT,Nat.reduceLeDiff,Int.reduceNeg,Int.reduceToNat,reduceCtorEq,jv,t0,t1,t2,t36,t37]
        refine an.dec (fun hi=>?_) (fun hi=>?_)
        · have hv3:=hv.Ji ho hf kp
          have hpl:(pad h (k+1)).length=h.length+(k+1):=by simp[pad]
          simp (disch:=omega) only [↓wr,↓reduceIte,wq,ai,ah,ak,ae,af,ag,aj,isNil,Nat.reduceEqDiff,Nat.reduceAdd,Nat.reduceLT,Nat.reduceLeDiff,Int.reduceNeg,Int.reduceToNat,reduceCtorEq,t0,t1,t2,t36,t37]
          refine az.dg ((yI (pad h (k+1)) (by omega) v H3 hv3).mono ?_)
          rintro r H4 ⟨o4,fr4⟩
          obtain ⟨m,rfl,hm⟩:=o4.sl (by simp[pad]; omega)
          rw[List.length_map,hpl]
          simp (disch:=omega) only [↓wr,↓reduceIte,wq,ai,ah,ak,ae,af,ag,aj,isNil,Nat.reduceEqDiff,Nat.reduceAdd,Nat.reduceLT,Nat.reduceLeDiff,Int.reduceNeg,Int.reduceToNat,reduceCtorEq,t0,t1,t2,t36,t37,hm]
          refine ⟨by omega,by simp[hpl],?_⟩
          have hset:(ch (pad h (k+1))).set h.length [gi i]=ch (pad (h ++ [(i:Int)]) k):=by
            rw[← List.map_set]
            congr 1
            simp[pad,List.replicate_succ]
          rw[show List.drop 1 ((ch (pad h (k+1))).getD h.length [])=[] from by simp[pad,List.getD_eq_getElem?_getD,List.replicate_succ],hset]
          have hlive:∀ id,H3 id≠.dead→(H4.set m (.arr 1 (ch (pad (h ++ [(i:Int)]) k)))) id=H3 id:=fun id hid=>by
            have h4:=fr4 id hid
            have:id≠m:=by rintro rfl; exact h4.2 rfl
            simp only[View.set,if_neg this,h4.1]
          have hcall:=ih (h ++ [(i:Int)]) (fun x hx=>by
            rcases List.mem_append.1 hx with hx | hx
            · exact hh x hx
            · simp at hx; omega) (by simp; omega) (.sl m 0 (h.length+(k+1)) 1) u1 _ (H4.set m (.arr 1 (ch (pad (h ++ [(i:Int)]) k)))) (by rw[hlive f (by rw[hf3]; simp)]; exact hf3) (ho3.keep hlive)
            (te hlo) (.inr ⟨by simp[pad],m,by simp[pad]; try omega,by simp[View.set]⟩)
          rw[show (((h ++ [(i:Int)]).length:Nat):Int)=(h.length:Int)+1 by simp] at hcall
          refine az.dg (hcall.mono ?_)
          rintro r H5 ⟨u5,hf5,ho5,kp5⟩
          simp (disch:=omega) only [↓wr,↓reduceIte,wq,ai,ah,ak,ae,af,ag,aj,isNil,Nat.reduceEqDiff,Nat.reduceAdd,Nat.reduceLT,Nat.reduceLeDiff,Int.reduceNeg,Int.reduceToNat,reduceCtorEq,t0,t1,t2,t36,t37]
          refine bb hk (by omega) ⟨u5,hf5,?_,kp.trans ((iF.kept hlive).trans kp5),t0,t1,t2,t36,rfl⟩
          rw[List.range_succ,List.foldl_append]
          exact ho5
        · have e:i=g.aw.length:=by omega
          subst e
          simp (disch:=omega) only [↓wr,↓reduceIte,wq,ai,ah,ak,ae,af,ag,aj,isNil,Nat.reduceEqDiff,Nat.reduceAdd,Nat.reduceLT,Nat.reduceLeDiff,Int.reduceNeg,Int.reduceToNat,reduceCtorEq,t0,t1,t2,t36,t37]
          refine ⟨u1,hf3,?_,kp⟩
          rw[bH,if_neg (by rw[hp]; simp; simpa using hc)]
          exact ho3
      · simp (disch:=omega) only [↓wr,↓reduceIte,wq,ai,ah,ak,ae,af,ag,aj,isNil,Nat.reduceEqDiff,Nat.reduceAdd,Nat.reduceLT,Nat.reduceLeDiff,Int.reduceNeg,Int.reduceToNat,reduceCtorEq]
        exact ⟨u,hf,by rw[bH,if_pos (.inr hp)]; exact ho,.refl⟩
end Gv
set_option linter.unusedSimpArgs false
set_option maxRecDepth 100000
namespace Gv
open Go Go.Proofs
def jl:SC :=
  .seq (.seq (al [aa 11 5,aa 12 0,aI 13 12,aK 14 .lss 11 13]) <|
  .cond (.tmp 14) (.skip) (.exit 0)) <|
  .seq (.block 1 (.seq (al [aa 17 0,aa 18 5,aX 19 1 17 18,ao 20 19,aa 21 1,aa 22 5,aX 23 1 21 22,ao 24 23,aF 25 19 [20,24],bQ 26 25]) <|
  .cond (.tmp 26) (.seq (al [aP 4 false]) <|
  .ret) (.skip))) <|
  al [aa 15 5,ax 16 .add 15 1,aa 5 16]
def kk:SF:=⟨.seq (al [aP 4 false]) <|
  .seq (.seq (al [aa 6 0,aI 7 6,aa 8 1,aI 9 8,aK 10 .neq 7 9]) <|
  .cond (.tmp 10) (.seq (al [aP 4 false]) <|
  .ret) (.skip)) <|
  .seq (.seq (al [aG 5 0]) <|
  .block 0 (.loop jl)) <|
  .seq (al [aP 4 true]) <|
  .ret,
  [.tmp 4],27⟩
theorem pk:aR Tryz.prog 26 []=some kk:=by kernel_rfl
def jC:SC :=
  .seq (.seq (.region false [⟨none,[aa 6 5,aa 7 0,aI 8 7,aK 9 .lss 6 8,aa 10 9]⟩,⟨(some (10,true)),[aa 11 5,aa 12 1,aI 13 12,aK 14 .lss 11 13]⟩,⟨none,[bk 15 10 14]⟩]) <|
  .cond (.tmp 15) (.skip) (.exit 0)) <|
  .seq (.block 1 (.seq (al [aa 18 0,aa 19 5,aX 20 1 18 19,ao 21 20,aa 22 1,aa 23 5,aX 24 1 22 23,ao 25 24,aK 26 .neq 21 25]) <|
  .cond (.tmp 26) (.seq (al [aa 27 0,aa 28 5,aX 29 1 27 28,ao 30 29,aa 31 1,aa 32 5,aX 33 1 31 32,ao 34 33,aK 35 .lss 30 34,aa 4 35]) <|
  .ret) (.skip))) <|
  al [aa 16 5,ax 17 .add 16 1,aa 5 17]
def lr:SF:=⟨.seq (al [aP 4 false]) <|
  .seq (.seq (al [aG 5 0]) <|
  .block 0 (.loop jC)) <|
  .seq (al [aa 36 0,aI 37 36,aa 38 1,aI 39 38,aK 40 .lss 37 39,aa 4 40]) <|
  .ret,
  [.tmp 4],41⟩
theorem pP:aR Tryz.prog 31 []=some lr:=by kernel_rfl
theorem q3 (a b:List (List Int)) (ha:aL a) (hs:∀ w∈a,aL w):aC Tryz.prog 26 [cW a,cW b] (gb (a == b)):=by
  refine aC.val (by intro v hv; simp at hv; rcases hv with rfl | rfl <;> exact mZ _) fun H=>?_
  refine aB.of mixed pk ?_
  unfold aL at ha
  simp (disch:=omega) only [↓wr,↓reduceIte,wq,ai,ah,ak,ae,af,ag,aj,isNil,Nat.reduceEqDiff,Nat.reduceAdd,Nat.reduceLT,Nat.reduceLeDiff,Int.reduceNeg,Int.reduceToNat,reduceCtorEq,kk,cW]
  refine an.ne (fun h=>?_) (fun h=>?_)
  · simp (disch:=omega) only [↓wr,↓reduceIte,wq,ai,ah,ak,ae,af,ag,aj,isNil,Nat.reduceEqDiff,Nat.reduceAdd,Nat.reduceLT,Nat.reduceLeDiff,Int.reduceNeg,Int.reduceToNat,reduceCtorEq]
    rw[Cv (by omega)]
  · simp (disch:=omega) only [↓wr,↓reduceIte,wq,ai,ah,ak,ae,af,ag,aj,isNil,Nat.reduceEqDiff,Nat.reduceAdd,Nat.reduceLT,Nat.reduceLeDiff,Int.reduceNeg,Int.reduceToNat,reduceCtorEq]
    refine bo.up a.length (fun i T H'=>a.take i=b.take i∧T 0=cW a∧T 1=cW b∧T 5=gi i) ⟨by simp,rfl,rfl,rfl⟩ ?_
    rintro i k T H' hk ⟨hi,h0,h1,h5⟩
    simp (disch:=omega) only [↓wr,↓reduceIte,wq,ai,ah,ak,ae,af,ag,aj,isNil,Nat.reduceEqDiff,Nat.reduceAdd,Nat.reduceLT,Nat.reduceLeDiff,Int.reduceNeg,Int.reduceToNat,reduceCtorEq,jl,h0,h1,h5,cW]
    refine an.dec (fun hc=>?_) (fun hc=>?_)
    · have h2:a[i]?=some (a[i]'(by omega)):=List.getElem?_eq_getElem (by omega)
      have h3:b[i]?=some (b[i]'(by omega)):=List.getElem?_eq_getElem (by omega)
      have hm:=List.mem_of_getElem? h2
      have hp:=xx (a[i]'(by omega)) (b[i]'(by omega)) (hs _ hm)
      simp (disch:=omega) only [↓wr,↓reduceIte,wq,ai,ah,ak,ae,af,ag,aj,isNil,Nat.reduceEqDiff,Nat.reduceAdd,Nat.reduceLT,Nat.reduceLeDiff,Int.reduceNeg,Int.reduceToNat,reduceCtorEq,h0,h1,h5,cW,List.getElem?_map,h2,h3,Option.map_some]
      refine az.pure hp (by kernel_rfl) ?_
      simp (disch:=omega) only [↓wr,↓reduceIte,wq,ai,ah,ak,ae,af,ag,aj,isNil,Nat.reduceEqDiff,Nat.reduceAdd,Nat.reduceLT,Nat.reduceLeDiff,Int.reduceNeg,Int.reduceToNat,reduceCtorEq]
      refine an.split (fun hd=>?_) (fun hd=>?_)
      · simp (disch:=omega) only [↓wr,↓reduceIte,wq,ai,ah,ak,ae,af,ag,aj,isNil,Nat.reduceEqDiff,Nat.reduceAdd,Nat.reduceLT,Nat.reduceLeDiff,Int.reduceNeg,Int.reduceToNat,reduceCtorEq,h0,h1,h5]
        refine bb hk (by omega) ⟨?_,h0,h1,rfl⟩
        have hd:=eq_of_beq hd
        rw[List.take_add_one,List.take_add_one,hi,h2,h3,hd]
      · simp (disch:=omega) only [↓wr,↓reduceIte,wq,ai,ah,ak,ae,af,ag,aj,isNil,Nat.reduceEqDiff,Nat.reduceAdd,Nat.reduceLT,Nat.reduceLeDiff,Int.reduceNeg,Int.reduceToNat,reduceCtorEq]
        have:(a == b)=false:=by
          simp only[beq_eq_false_iff_ne]
          rintro rfl
          simp at hd
        rw[this]
    · simp (disch:=omega) only [↓wr,↓reduceIte,wq,ai,ah,ak,ae,af,ag,aj,isNil,Nat.reduceEqDiff,Nat.reduceAdd,Nat.reduceLT,Nat.reduceLeDiff,Int.reduceNeg,Int.reduceToNat,reduceCtorEq,h0,h1,h5]
      rw[List.take_of_length_le (by omega),List.take_of_length_le (by omega)] at hi
      rw[hi]; simp
theorem D8 {a b:List Int} {i:Nat} (hi:a.take i=b.take i) (ha:i≤a.length) (hb:i≤b.length):gU a b=gU (a.drop i) (b.drop i):=by
  have h:=ye (a.take i) (a.drop i) (b.drop i)
  rw[List.take_append_drop] at h
  rw[hi,List.take_append_drop] at h
  exact h
theorem HQ (a b:List Int) (ha:aL a) (hb:aL b):aC Tryz.prog 31 [encI a,encI b] (gb (gU a b)):=by
  refine aC.val (by intro v hv; simp at hv; rcases hv with rfl | rfl <;> exact cn _) fun H=>?_
  refine aB.of mixed pP ?_
  unfold aL at ha hb
  simp (disch:=omega) only [↓wr,↓reduceIte,wq,ai,ah,ak,ae,af,ag,aj,isNil,Nat.reduceEqDiff,Nat.reduceAdd,Nat.reduceLT,Nat.reduceLeDiff,Int.reduceNeg,Int.reduceToNat,reduceCtorEq,lr,encI]
  refine bo.up a.length (fun i T H'=>a.take i=b.take i∧i≤b.length∧T 0=encI a∧T 1=encI b∧T 5=gi i) ⟨by simp,by simp,rfl,rfl,rfl⟩ ?_
  rintro i k T H' hk ⟨hi,hib,h0,h1,h5⟩
  have hl:=D8 hi (by omega) hib
  simp (disch:=omega) only [↓wr,↓reduceIte,wq,ai,ah,ak,ae,af,ag,aj,isNil,Nat.reduceEqDiff,Nat.reduceAdd,Nat.reduceLT,Nat.reduceLeDiff,Int.reduceNeg,Int.reduceToNat,reduceCtorEq,jC,h0,h1,h5,encI]
  refine an.dec (fun hc=>?_) (fun hc=>?_)
  · simp (disch:=omega) only [↓wr,↓reduceIte,wq,ai,ah,ak,ae,af,ag,aj,isNil,Nat.reduceEqDiff,Nat.reduceAdd,Nat.reduceLT,Nat.reduceLeDiff,Int.reduceNeg,Int.reduceToNat,reduceCtorEq,h0,h1,h5,encI]
    refine an.dec (fun hd=>?_) (fun hd=>?_)
    · have h2:a[i]?=some (a[i]'(by omega)):=List.getElem?_eq_getElem (by omega)
      have h3:b[i]?=some (b[i]'(by omega)):=List.getElem?_eq_getElem (by omega)
      have d2:a.drop i=a[i]'(by omega) :: a.drop (i+1):=List.drop_eq_getElem_cons (by omega)
      have d3:b.drop i=b[i]'(by omega) :: b.drop (i+1):=List.drop_eq_getElem_cons (by omega)
      rw[d2,d3] at hl
      simp only[gU] at hl
      simp (disch:=omega) only [↓wr,↓reduceIte,wq,ai,ah,ak,ae,af,ag,aj,isNil,Nat.reduceEqDiff,Nat.reduceAdd,Nat.reduceLT,Nat.reduceLeDiff,Int.reduceNeg,Int.reduceToNat,reduceCtorEq,h0,h1,h5,encI,List.getElem?_map,h2,h3,Option.map_some]
      refine an.ne (fun he=>?_) (fun he=>?_)
      · simp (disch:=omega) only [↓wr,↓reduceIte,wq,ai,ah,ak,ae,af,ag,aj,isNil,Nat.reduceEqDiff,Nat.reduceAdd,Nat.reduceLT,Nat.reduceLeDiff,Int.reduceNeg,Int.reduceToNat,reduceCtorEq,h0,h1,h5,encI,List.getElem?_map,h2,h3,Option.map_some]
        rw[hl,if_neg he]
      · simp (disch:=omega) only [↓wr,↓reduceIte,wq,ai,ah,ak,ae,af,ag,aj,isNil,Nat.reduceEqDiff,Nat.reduceAdd,Nat.reduceLT,Nat.reduceLeDiff,Int.reduceNeg,Int.reduceToNat,reduceCtorEq,h0,h1,h5]
        refine bb hk (by omega) ⟨?_,by omega,h0,h1,rfl⟩
        rw[List.take_add_one,List.take_add_one,hi,h2,h3,he]
    · simp (disch:=omega) only [↓wr,↓reduceIte,wq,ai,ah,ak,ae,af,ag,aj,isNil,Nat.reduceEqDiff,Nat.reduceAdd,Nat.reduceLT,Nat.reduceLeDiff,Int.reduceNeg,Int.reduceToNat,reduceCtorEq,h0,h1,h5,encI]
      have e1:i=b.length:=by omega
      have d2:a.drop i=a[i]'(by omega) :: a.drop (i+1):=List.drop_eq_getElem_cons (by omega)
      rw[List.drop_eq_nil_of_le (show b.length≤i by omega),d2] at hl
      rw[hl]
      simp only[gU]
      simp; omega
  · simp (disch:=omega) only [↓wr,↓reduceIte,wq,ai,ah,ak,ae,af,ag,aj,isNil,Nat.reduceEqDiff,Nat.reduceAdd,Nat.reduceLT,Nat.reduceLeDiff,Int.reduceNeg,Int.reduceToNat,reduceCtorEq,h0,h1,h5,encI]
    rw[List.drop_eq_nil_of_le (show a.length≤i by omega)] at hl
    rw[hl]
    by_cases hd:i < b.length
    · have d3:b.drop i=b[i]'(by omega) :: b.drop (i+1):=List.drop_eq_getElem_cons (by omega)
      rw[d3]
      simp only[gU]
      simp; omega
    · rw[List.drop_eq_nil_of_le (by omega)]
      simp only[gU]
      simp; omega
end Gv
