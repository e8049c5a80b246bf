/-
  Part 16 of the proof: what the machine does and what the functions answer.
  Conditions: those that each lemma names.
-/
import Derived.Test.YtihmlbdfcmfbdaaGreatSGzA8O
set_option linter.unusedSimpArgs false
set_option linter.unusedVariables false
set_option maxRecDepth 100000
namespace Gv
open Go Go.Proofs
def iM:SC :=
  .seq (.seq (al [aa 66 12,aa 67 5,aa 68 11,aZ 69 2 67 68,ao 70 0 69,aq 71 70,aM 72 71,aO 73 .lss 66 72]) <|
  .cond (.tmp 73) (.skip) (.exit 2)) <|
  .seq (.block 3 (.seq (al [aa 76 5,aa 77 11,aZ 78 2 76 77,ao 79 0 78,aq 80 79,aa 81 12,aZ 82 2 80 81,aH 83 2 82,((some 13),.op (.alloc [(.val (.int .i64 0)),(.val (.int .i64 0))])),(none,.op (.store 2 (.tmp 13) (.tmp 83)))]) <|
  .seq (al [ao 84 1 13,aq 85 84,ax 86 .sub 85 1,ao 87 1 13,(none,.op (.store 1 (.tmp 87) (.tmp 86)))]) <|
  .seq (al [aH 89 4 2,aH 90 2 13,aG 91 18 [89,90],aa 88 91,ct 92 0 88,ct 93 1 88,aa 14 92,aa 15 93]) <|
  .seq (.seq (.region false [⟨none,[aa 94 15,cb 95 94,aa 96 95]⟩,⟨(some (96,false)),[aa 97 14,ao 98 1 7,aq 99 98,aa 100 10,aZ 101 2 99 100,ao 102 0 101,aq 103 102,aO 104 .neq 97 103]⟩,⟨none,[bF 105 96 104]⟩]) <|
  .cond (.tmp 105) (.seq (al [aV 4 false]) <|
  .ret) (.skip)) <|
  al [aa 106 9,ax 107 .add 106 1,aa 9 107])) <|
  al [aa 74 12,ax 75 .add 74 1,aa 12 75]
def iL:SC :=
  .seq (.seq (al [aa 45 10,ao 46 1 7,aq 47 46,aM 48 47,aO 49 .lss 45 48]) <|
  .cond (.tmp 49) (.skip) (.exit 0)) <|
  .seq (.block 1 (.seq (al [ao 52 1 7,aq 53 52,aa 54 10,aZ 55 2 53 54,ao 56 1 55,aq 57 56,aa 11 57]) <|
  .seq (.seq (.region false [⟨none,[aa 58 11,ax 59 .lss 58 0,aa 60 59]⟩,⟨(some (60,false)),[aa 61 11,aa 62 5,aM 63 62,aO 64 .geq 61 63]⟩,⟨none,[bF 65 60 64]⟩]) <|
  .cond (.tmp 65) (.seq (al [aV 4 false]) <|
  .ret) (.skip)) <|
  .seq (al [aF 12 0]) <|
  .block 2 (.loop iM))) <|
  al [aa 50 10,ax 51 .add 50 1,aa 10 51]
def iK:SC :=
  .seq (.seq (al [aa 108 16,aa 109 8,aM 110 109,aO 111 .lss 108 110]) <|
  .cond (.tmp 111) (.skip) (.exit 4)) <|
  .seq (.block 5 (.seq (al [aH 115 4 2,aa 116 8,aa 117 16,aZ 118 2 116 117,aH 119 2 118,aG 120 18 [115,119],aa 114 120,ct 121 0 114,ct 122 1 114,aa 17 121,aa 18 122]) <|
  .seq (al [aa 123 18]) <|
  .cond (.tmp 123) (al [aa 124 9,ax 125 .sub 124 1,aa 9 125]) (.skip))) <|
  al [aa 112 16,ax 113 .add 112 1,aa 16 113]
def jU:SF:=⟨.seq (al [b6 2 0,aV 4 false]) <|
  .seq (.seq (al [aG 19 15 [],cb 20 19]) <|
  .cond (.tmp 20) (.seq (al [aV 4 false]) <|
  .ret) (.skip)) <|
  .seq (.seq (al [aH 21 4 2,aG 22 16 [21]]) <|
  .cond (.tmp 22) (.seq (al [aV 4 true]) <|
  .ret) (.skip)) <|
  .seq (al [aH 24 4 2,aG 25 24 [24],aa 23 25,ct 26 0 23,ct 27 1 23,aa 5 26,aa 6 27]) <|
  .seq (.seq (al [aa 28 6,ax 29 .neq 28 0]) <|
  .cond (.tmp 29) (.seq (al [aV 4 true]) <|
  .ret) (.skip)) <|
  .seq (.seq (al [aa 30 5,aM 31 30,ax 32 .eql 31 0]) <|
  .cond (.tmp 32) (.seq (al [aV 4 false]) <|
  .ret) (.skip)) <|
  .seq (al [aa 33 5,aa 34 1,((some 35),.op (.conv .i64 (.tmp 34))),aa 36 5,aM 37 36,aO 38 .rem 35 37,aZ 39 2 33 38,aH 40 2 39,((some 7),.op (.alloc [(.emp 1),(.emp 1)])),(none,.op (.store 2 (.tmp 7) (.tmp 40)))]) <|
  .seq (al [aH 41 4 2,ao 42 0 7,aq 43 42,aG 44 22 [41,43],aa 8 44]) <|
  .seq (al [aF 9 0]) <|
  .seq (.seq (al [aF 10 0]) <|
  .block 0 (.loop iL)) <|
  .seq (.seq (al [aF 16 0]) <|
  .block 4 (.loop iK)) <|
  .seq (al [aa 126 9,ax 127 .eql 126 0,aa 4 127]) <|
  .ret,
  [.tmp 4],128⟩
theorem nW:bh Tryz.prog 7 [2]=some jU:=by kernel_rfl
theorem Aa {g:an} (hf:g.dg) {x:aJ} (h:cm g x):bO x.aD∧bO x.dot:=by
  have:=dE hf h.1
  have:=hf.rules
  obtain ⟨⟨h1,h2⟩,h3,h4⟩:=h
  unfold bO; omega
set_option maxHeartbeats 16000000 in
theorem EI (g:an) (hg:g.Ok) (n:Int) (hn0:0≤n) (hn1:n≤65535):aC Tryz.prog 7 [.agg (aw g),.val (.int .u16 n)] (gb true):=by
  refine aC.val (by
    intro v hv; simp at hv
    rcases hv with rfl | rfl
    · exact cI _ (dr g)
    · exact .val _) fun H=>?_
  refine aA.of mixed nW ?_
  simp (disch:=omega) only [↓wr,↓reduceIte,wq,ah,ag,aj,ab,ae,af,ai,isNil,Nat.reduceEqDiff,Nat.reduceAdd,Nat.reduceLT,Nat.reduceLeDiff,Int.reduceNeg,Int.reduceToNat,reduceCtorEq,jU,aw,encS]
  refine aE.pure G5 (by kernel_rfl) ?_
  simp (disch:=omega) only [↓wr,↓reduceIte,wq,ah,ag,aj,ab,ae,af,ai,isNil,Nat.reduceEqDiff,Nat.reduceAdd,Nat.reduceLT,Nat.reduceLeDiff,Int.reduceNeg,Int.reduceToNat,reduceCtorEq,aw,encS]
  refine aE.pure (K2 g) (by kernel_rfl) ?_
  simp (disch:=omega) only [↓wr,↓reduceIte,wq,ah,ag,aj,ab,ae,af,ai,isNil,Nat.reduceEqDiff,Nat.reduceAdd,Nat.reduceLT,Nat.reduceLeDiff,Int.reduceNeg,Int.reduceToNat,reduceCtorEq]
  refine au.split (fun e=>?_) (fun e=>?_)
  · simp (disch:=omega) only [↓wr,↓reduceIte,wq,ah,ag,aj,ab,ae,af,ai,isNil,Nat.reduceEqDiff,Nat.reduceAdd,Nat.reduceLT,Nat.reduceLeDiff,Int.reduceNeg,Int.reduceToNat,reduceCtorEq]
  have hsm:=E3 e
  have h1:=(IJ g hg hsm).pure
  simp only[aw,encS] at h1
  simp (disch:=omega) only [↓wr,↓reduceIte,wq,ah,ag,aj,ab,ae,af,ai,isNil,Nat.reduceEqDiff,Nat.reduceAdd,Nat.reduceLT,Nat.reduceLeDiff,Int.reduceNeg,Int.reduceToNat,reduceCtorEq,aw,encS]
  refine aE.pure h1 (by kernel_rfl) ?_
  simp (disch:=omega) only [↓wr,↓reduceIte,wq,ah,ag,aj,ab,ae,af,ai,isNil,Nat.reduceEqDiff,Nat.reduceAdd,Nat.reduceLT,Nat.reduceLeDiff,Int.reduceNeg,Int.reduceToNat,reduceCtorEq]
  by_cases h:(dQ g).2=0
  rotate_left
  · refine au.ne (fun _=>?_) (fun h2=>absurd h2 h)
    simp (disch:=omega) only [↓wr,↓reduceIte,wq,ah,ag,aj,ab,ae,af,ai,isNil,Nat.reduceEqDiff,Nat.reduceAdd,Nat.reduceLT,Nat.reduceLeDiff,Int.reduceNeg,Int.reduceToNat,reduceCtorEq]
  refine au.ne (fun h2=>absurd h h2) (fun _=>?_)
  have hr:isRed g=true:=by
    rcases IX g with ⟨_,hr⟩ | ⟨h2,hr⟩ | ⟨h2,hr⟩
    · exact hr
    · exact hr
    · rw[h2] at h; simp at h
  have hf:=zg hr
  obtain ⟨o1,o2,o3⟩:=Lj hf h
  have hE:=(G4 hf h).Hl
  have hX:=(Hb hf h).all
  generalize (dQ g).1=a at *
  simp (disch:=omega) only [↓wr,↓reduceIte,wq,ah,ag,aj,ab,ae,af,ai,isNil,Nat.reduceEqDiff,Nat.reduceAdd,Nat.reduceLT,Nat.reduceLeDiff,Int.reduceNeg,Int.reduceToNat,reduceCtorEq,j3]
  refine au.dec (fun h0=>by omega) (fun _=>?_)
  obtain ⟨k,hk,hkl⟩:∃ k:Nat,n.tmod (a.length:Int)=k∧k < a.length:=by
    have h1:=Int.tmod_nonneg (a.length:Int) hn0
    have h2:=Int.tmod_lt_of_pos n (show (0:Int) < (a.length:Int) by omega)
    exact ⟨(n.tmod (a.length:Int)).toNat,by omega,by omega⟩
  have hx:a[k]?=some (a[k]'(by omega)):=List.getElem?_eq_getElem (by omega)
  have hm:=List.getElem_mem hkl
  generalize a[k]'(by omega)=x at hx hm
  simp (disch:=omega) only [↓wr,↓reduceIte,wq,ah,ag,aj,ab,ae,af,ai,isNil,Nat.reduceEqDiff,Nat.reduceAdd,Nat.reduceLT,Nat.reduceLeDiff,Int.reduceNeg,Int.reduceToNat,reduceCtorEq,j3]
  rw[if_neg (by omega),hk]
  have hxe:=o1.bU x hm
  have hxk:=(o1.bp x hm).2.2
  have hfl:x.bp.filter (dI g)=x.bp:=List.filter_eq_self.2 fun y hy=>k8.2 ⟨m4 hr,hxk y hy⟩
  have hkl2:=sr hf (o1.bp x hm).1 hxk
  have hC:=(E9 g hg hsm x.bp (by omega) (fun y hy=>Aa hf (hxk y hy))).pure
  rw[hfl] at hC
  have hlh:∀ y∈cn g x.bp,cm g y:=fun y hy=>((pY hf hxk).1 hy).has hxk
  have hll:=sr hf (oP g x.bp) hlh
  have hXx:=hX x hm
  have hEx:=hE x hm
  have hTo:=o1.to x hm
  generalize cn g x.bp=l at hC hlh hll hXx hEx
  simp only[aw,encS] at hC
  simp (disch:=omega) only [↓wr,↓reduceIte,wq,ah,ag,aj,ab,ae,af,ai,isNil,Nat.reduceEqDiff,Nat.reduceAdd,Nat.reduceLT,Nat.reduceLeDiff,Int.reduceNeg,Int.reduceToNat,reduceCtorEq,j3,List.getElem?_map,hx,Option.map_some,sG]
  intro q hq
  rw[set_set]
  have hqq:(H.set q (.arr 2 [[.aK (aS x.bp),.aK (jR x.bU)]])) q=.arr 2 [[.aK (aS x.bp),.aK (jR x.bU)]]:=by simp[View.set]
  generalize H.set q (.arr 2 [[.aK (aS x.bp),.aK (jR x.bU)]])=H1 at hqq
  refine aE.pure hC (by kernel_rfl) ?_
  simp (disch:=omega) only [↓wr,↓reduceIte,wq,ah,ag,aj,ab,ae,af,ai,isNil,Nat.reduceEqDiff,Nat.reduceAdd,Nat.reduceLT,Nat.reduceLeDiff,Int.reduceNeg,Int.reduceToNat,reduceCtorEq]
  have hcap:∀ s,(ba g l s).length≤287:=fun s=>by
    unfold ba
    rw[List.length_map]
    exact Nat.le_trans (List.length_filter_le _ _) hll
  have hS:∀ es:List gU,(es.map fun e=>(ba g l e.sym).length).sum≤287 * es.length:=fun es=>by
    induction es with
    | nil=>simp
    | cons e es ih=>have:=hcap e.sym; simp only[List.map_cons,List.sum_cons,List.length_cons]; omega
  refine bK.up x.bU.length (fun i T H'=>H' q=.arr 2 [[.aK (aS x.bp),.aK (jR x.bU)]]∧T 2=.aU (aw g) 0∧T 5=j3 a∧T 7=.ptr q 0 0∧T 8=.aK (aS l)∧T 9=gi ((((x.bU.take i).map fun e=>(ba g l e.sym).length).sum:Nat):Int)∧T 10=gi i) ⟨hqq,rfl,rfl,rfl,rfl,rfl,rfl⟩ ?_
  clear hqq hq
  rintro i m T H2 hm2 ⟨hqq,t2,t5,t7,t8,t9,t10⟩
  simp (disch:=omega) only [↓wr,↓reduceIte,wq,ah,ag,aj,ab,ae,af,ai,isNil,Nat.reduceEqDiff,Nat.reduceAdd,Nat.reduceLT,Nat.reduceLeDiff,Int.reduceNeg,Int.reduceToNat,reduceCtorEq,iL,t2,t5,t7,t8,t9,t10,hqq,jR]
  refine au.dec (fun hc=>?_) (fun hc=>?_)
  · have hy:x.bU[i]?=some (x.bU[i]'(by omega)):=List.getElem?_eq_getElem (by omega)
    have hym:=List.getElem_mem (show i < x.bU.length by omega)
    have hstep:((x.bU.take (i+1)).map fun e=>(ba g l e.sym).length).sum=((x.bU.take i).map fun e=>(ba g l e.sym).length).sum+(ba g l (x.bU[i]'(by omega)).sym).length:=by
      rw[List.take_add_one,hy,List.map_append]; simp
    have hsb:=hS (x.bU.take i)
    rw[List.length_take] at hsb
    generalize x.bU[i]'(by omega)=y at hy hym hstep
    obtain ⟨y1,y2⟩:=hTo y hym
    have hyE:=hEx y hym
    have hyc:=hcap y.sym
    have hmv:∀ z∈ba g l y.sym,∃ w∈l,bM g w=(y.sym,true)∧z=⟨w.aD,w.dot+1⟩:=fun z hz=>EP.1 hz
    obtain ⟨t,ht⟩:∃ t:Nat,y.to=(t:Int):=⟨y.to.toNat,by omega⟩
    have hz:a[t]?=some (a.getD t bV):=getD_some (by omega)
    rw[show y.to.toNat=t by omega] at hyE
    generalize a.getD t bV=Z at hz hyE
    generalize ba g l y.sym=M at hyE hyc hmv hstep
    generalize ((x.bU.take i).map fun e=>(ba g l e.sym).length).sum=S0 at t9 hstep hsb
    simp (disch:=omega) only [↓wr,↓reduceIte,wq,ah,ag,aj,ab,ae,af,ai,isNil,Nat.reduceEqDiff,Nat.reduceAdd,Nat.reduceLT,Nat.reduceLeDiff,Int.reduceNeg,Int.reduceToNat,reduceCtorEq,t2,t5,t7,t8,t9,t10,hqq,jR,List.getElem?_map,hy,Option.map_some,yA,ht]
    refine au.dec (fun h3=>by omega) (fun _=>?_)
    simp (disch:=omega) only [↓wr,↓reduceIte,wq,ah,ag,aj,ab,ae,af,ai,isNil,Nat.reduceEqDiff,Nat.reduceAdd,Nat.reduceLT,Nat.reduceLeDiff,Int.reduceNeg,Int.reduceToNat,reduceCtorEq,t5,j3]
    refine au.dec (fun h3=>by omega) (fun _=>?_)
    simp (disch:=omega) only [↓wr,↓reduceIte,wq,ah,ag,aj,ab,ae,af,ai,isNil,Nat.reduceEqDiff,Nat.reduceAdd,Nat.reduceLT,Nat.reduceLeDiff,Int.reduceNeg,Int.reduceToNat,reduceCtorEq,t5]
    refine bK.up M.length (fun k T H'=>H' q=.arr 2 [[.aK (aS x.bp),.aK (jR x.bU)]]∧T 2=.aU (aw g) 0∧T 5=j3 a∧T 7=.ptr q 0 0∧T 8=.aK (aS l)∧T 9=gi ((S0+k:Nat):Int)∧T 10=gi i∧T 11=gi t∧T 12=gi k) ⟨hqq,t2,t5,t7,t8,t9,t10,rfl,rfl⟩ ?_
    clear t2 t5 t7 t8 t9 t10 hqq
    rintro k j T H3 hk3 ⟨hqq,t2,t5,t7,t8,t9,t10,t11,t12⟩
    simp (disch:=omega) only [↓wr,↓reduceIte,wq,ah,ag,aj,ab,ae,af,ai,isNil,Nat.reduceEqDiff,Nat.reduceAdd,Nat.reduceLT,Nat.reduceLeDiff,Int.reduceNeg,Int.reduceToNat,reduceCtorEq,iM,t2,t5,t7,t8,t9,t10,t11,t12,j3,List.getElem?_map,hz,Option.map_some,sG,hyE,aS]
    refine au.dec (fun hc3=>?_) (fun hc3=>?_)
    · have hM:M[k]?=some (M[k]'(by omega)):=List.getElem?_eq_getElem (by omega)
      obtain ⟨w,hw,hn,hwe⟩:=hmv _ (List.getElem_mem (show k < M.length by omega))
      rw[hwe] at hM
      have hw6:=Aa hf (hlh w hw)
      have hN:=BE g hg w hw6
      have hnB:sA g w=(y.sym,true):=by unfold sA; rw[if_pos (k8.2 ⟨m4 hr,hlh w hw⟩),hn]
      rw[hnB] at hN
      have hwd:=(hlh w hw).2
      have hwl:=dE hf (hlh w hw).1
      simp only[aw,encS,bu] at hN
      have e1:w.dot+1 - 1=w.dot:=by omega
      simp (disch:=omega) only [↓wr,↓reduceIte,wq,ah,ag,aj,ab,ae,af,ai,isNil,Nat.reduceEqDiff,Nat.reduceAdd,Nat.reduceLT,Nat.reduceLeDiff,Int.reduceNeg,Int.reduceToNat,reduceCtorEq,t2,t5,t7,t8,t9,t10,t11,t12,j3,List.getElem?_map,hz,Option.map_some,sG,hyE,aS,hM,bu,aw,encS]
      intro q2 hq2
      rw[set_set,set_set,e1]
      have hq4:(H3.set q2 (.arr 2 [[gi w.aD,gi w.dot]])) q=.arr 2 [[.aK (aS x.bp),.aK (jR x.bU)]]:=by
        simp only[View.set]
        rw[if_neg (fun e=>by rw[← e,hqq] at hq2; simp at hq2)]; exact hqq
      refine aE.pure hN (by kernel_rfl) ?_
      generalize H3.set q2 (.arr 2 [[gi w.aD,gi w.dot]])=H4 at hq4 ⊢
      simp (disch:=omega) only [↓wr,↓reduceIte,wq,ah,ag,aj,ab,ae,af,ai,isNil,Nat.reduceEqDiff,Nat.reduceAdd,Nat.reduceLT,Nat.reduceLeDiff,Int.reduceNeg,Int.reduceToNat,reduceCtorEq,t2,t5,t7,t8,t9,t10,t11,t12,hq4,jR,List.getElem?_map,hy,Option.map_some,yA]
      refine au.ne (fun h=>absurd rfl h) (fun _=>?_)
      simp (disch:=omega) only [↓wr,↓reduceIte,wq,ah,ag,aj,ab,ae,af,ai,isNil,Nat.reduceEqDiff,Nat.reduceAdd,Nat.reduceLT,Nat.reduceLeDiff,Int.reduceNeg,Int.reduceToNat,reduceCtorEq,t2,t5,t7,t8,t9,t10,t11,t12]
      exact bE hk3 (by omega) ⟨hq4,t2,t5,t7,t8,by first | rfl | (congr 2; push_cast; omega),t10,t11,by first | rfl | (congr 2; push_cast; omega)⟩
    · simp (disch:=omega) only [↓wr,↓reduceIte,wq,ah,ag,aj,ab,ae,af,ai,isNil,Nat.reduceEqDiff,Nat.reduceAdd,Nat.reduceLT,Nat.reduceLeDiff,Int.reduceNeg,Int.reduceToNat,reduceCtorEq,t2,t5,t7,t8,t9,t10]
      have hkM:k=M.length:=by omega
      rw[hkM] at t9
      exact bE hm2 (by omega) ⟨hqq,t2,t5,t7,t8,by rw[hstep]; exact t9,by first | rfl | (congr 2; push_cast; omega)⟩
  · rw[List.take_of_length_le (by omega)] at t9
    have hsum:(x.bU.map fun e=>(ba g l e.sym).length).sum=(l.filter fun x=>(bM g x).2).length:=by
      have:=JV hf hlh
      rw[← hXx,List.map_map] at this
      exact this
    rw[hsum] at t9
    simp (disch:=omega) only [↓wr,↓reduceIte,wq,ah,ag,aj,ab,ae,af,ai,isNil,Nat.reduceEqDiff,Nat.reduceAdd,Nat.reduceLT,Nat.reduceLeDiff,Int.reduceNeg,Int.reduceToNat,reduceCtorEq,t2,t8,t9]
    refine bK.up l.length (fun i T H'=>T 2=.aU (aw g) 0∧T 8=.aK (aS l)∧T 9=gi (((l.filter fun x=>(bM g x).2).length:Int) - (((l.take i).filter fun x=>(bM g x).2).length:Int))∧T 16=gi i) ⟨t2,t8,by rw[List.take_zero,List.filter_nil,List.length_nil,Int.ofNat_zero,Int.sub_zero]; exact t9,rfl⟩ ?_
    clear t2 t5 t7 t8 t9 t10 hqq
    rintro i m T H3 hm3 ⟨t2,t8,t9,t16⟩
    have hfb:=List.length_filter_le (fun x=>(bM g x).2) l
    have hfb2:=List.length_filter_le (fun x=>(bM g x).2) (l.take i)
    rw[List.length_take] at hfb2
    simp (disch:=omega) only [↓wr,↓reduceIte,wq,ah,ag,aj,ab,ae,af,ai,isNil,Nat.reduceEqDiff,Nat.reduceAdd,Nat.reduceLT,Nat.reduceLeDiff,Int.reduceNeg,Int.reduceToNat,reduceCtorEq,iK,t2,t8,t9,t16,aS]
    refine au.dec (fun hc3=>?_) (fun hc3=>?_)
    · have hy:l[i]?=some (l[i]'(by omega)):=List.getElem?_eq_getElem (by omega)
      have hyl:=hlh _ (List.getElem_mem (show i < l.length by omega))
      have hft:=B9 (p:=fun x=>(bM g x).2) hy
      generalize l[i]'(by omega)=y at hy hyl hft
      have hN:=BE g hg y (Aa hf hyl)
      have hnB:sA g y=bM g y:=by unfold sA; rw[if_pos (k8.2 ⟨m4 hr,hyl⟩)]
      rw[hnB] at hN
      generalize bM g y=r at hN hft
      obtain ⟨s,b⟩:=r
      generalize (l.filter fun x=>(bM g x).2).length=A at *
      simp only[aw,encS,bu] at hN
      simp (disch:=omega) only [↓wr,↓reduceIte,wq,ah,ag,aj,ab,ae,af,ai,isNil,Nat.reduceEqDiff,Nat.reduceAdd,Nat.reduceLT,Nat.reduceLeDiff,Int.reduceNeg,Int.reduceToNat,reduceCtorEq,t2,t8,t9,t16,aw,encS,aS,List.getElem?_map,hy,Option.map_some,bu]
      refine aE.pure hN (by kernel_rfl) ?_
      cases b with
      | true =>
        simp only[if_true] at hft
        simp (disch:=omega) only [↓wr,↓reduceIte,wq,ah,ag,aj,ab,ae,af,ai,isNil,Nat.reduceEqDiff,Nat.reduceAdd,Nat.reduceLT,Nat.reduceLeDiff,Int.reduceNeg,Int.reduceToNat,reduceCtorEq,t2,t8,t9,t16]
        exact bE hm3 (by omega) ⟨t2,t8,by rw[hft,List.length_append,List.length_singleton]; show gi ((A:Int) - (((l.take i).filter fun x=>(bM g x).2).length:Int) - 1)=gi _; congr 1; push_cast; omega,by first | rfl | (congr 2; push_cast; omega)⟩
      | false =>
        simp only[Bool.false_eq_true,if_false] at hft
        simp (disch:=omega) only [↓wr,↓reduceIte,wq,ah,ag,aj,ab,ae,af,ai,isNil,Nat.reduceEqDiff,Nat.reduceAdd,Nat.reduceLT,Nat.reduceLeDiff,Int.reduceNeg,Int.reduceToNat,reduceCtorEq,t2,t8,t9,t16]
        exact bE hm3 (by omega) ⟨t2,t8,by rw[hft]; exact t9,by first | rfl | (congr 2; push_cast; omega)⟩
    · rw[List.take_of_length_le (by omega),Int.sub_self] at t9
      simp (disch:=omega) only [↓wr,↓reduceIte,wq,ah,ag,aj,ab,ae,af,ai,isNil,Nat.reduceEqDiff,Nat.reduceAdd,Nat.reduceLT,Nat.reduceLeDiff,Int.reduceNeg,Int.reduceToNat,reduceCtorEq,t9]
      rfl
end Gv
