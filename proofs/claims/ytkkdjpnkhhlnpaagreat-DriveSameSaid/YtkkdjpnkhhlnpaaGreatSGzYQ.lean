/-
  Part 17 of the proof: what the machine does and what the functions answer.
  Conditions: those that each lemma names.
-/
import Derived.Test.YtkkdjpnkhhlnpaaGreatSGzYP
set_option linter.unusedSimpArgs false
set_option linter.unusedVariables false
set_option maxRecDepth 100000
namespace Gv
open Go Go.Proofs
def sE:SF:=⟨.seq (ak [aZ 3 false]) <|
  .seq (.region false [⟨none,[aa 4 0,az 5 .lss 4 0,aa 6 5]⟩,⟨(some (6,false)),[aa 7 0,ao 8 1,aR 9 .geq 7 8]⟩,⟨none,[bB 10 6 9,aa 3 10]⟩]) <|
  .ret,
  [.tmp 3],11⟩
theorem yd:aY Tryz.prog 208 []=some sE:=by kernel_rfl
def vg:SF:=⟨.seq (ak [bW 3 1,aZ 4 false]) <|
  .seq (ak [aa 5 0,((some 6),.op (.uV 208 [] [(.tmp 3)])),aQ 7 90 [5,6],bX 8 7,aa 4 8]) <|
  .ret,
  [.tmp 4],9⟩
theorem zQ:aY Tryz.prog 148 [3]=some vg:=by kernel_rfl
def uX:SF:=⟨.seq (ak [bW 1 0,aI 2 0]) <|
  .seq (ak [au 3 0 1,ao 4 3,aa 2 4]) <|
  .ret,
  [.tmp 2],5⟩
theorem zR:aY Tryz.prog 150 [1]=some uX:=by kernel_rfl
def vR:SF:=⟨.seq (ak [bW 1 0,aZ 2 false]) <|
  .seq (ak [au 3 1 1,aO 4 2 3,((some 5),.op (.build [(.val (.int .i64 0)),(.val (.int .i64 0))] [])),((some 6),.op (.old (.binOp .eql 89 (.tmp 4) (.tmp 5) 89) 4)),aa 2 6]) <|
  .ret,
  [.tmp 2],7⟩
theorem zO:aY Tryz.prog 152 [1]=some vR:=by kernel_rfl
def vK:SF:=⟨.seq (ak [bW 1 0,aI 2 0]) <|
  .seq (ak [au 3 0 1,ao 4 3,aa 2 4]) <|
  .ret,
  [.tmp 2],5⟩
theorem zS:aY Tryz.prog 154 [1]=some vK:=by kernel_rfl
def vn:SF:=⟨.seq (ak [bW 1 0,aZ 2 false]) <|
  .seq (ak [au 3 1 1,ao 4 3,az 5 .eql 4 (-1),aa 2 5]) <|
  .ret,
  [.tmp 2],6⟩
theorem zP:aY Tryz.prog 156 [1]=some vn:=by kernel_rfl
def jn:SC :=
  .seq (ak [aR 13 .lss 12 11]) <|
  .seq (.cond (.tmp 13) (.skip) (.exit 0)) <|
  .seq (.block 1 (.seq (ak [aS 14 3 10 12,aO 15 3 14,((some 9),.op (.alloc [(.val (.int .i64 0)),(.val (.int .i64 0)),(.val (.int .i64 0))])),(none,.op (.store 3 (.tmp 9) (.tmp 15)))]) <|
  .seq (.seq (.region false [⟨none,[aa 16 2,aO 17 3 9,((some 18),.call (.tmp 16) [(.tmp 17)]),aa 19 7,aR 20 .leq 18 19,aa 21 20]⟩,⟨(some (21,false)),[aa 22 2,aO 23 3 9,((some 24),.call (.tmp 22) [(.tmp 23)]),aa 25 1,aR 26 .geq 24 25]⟩,⟨none,[bB 27 21 26]⟩]) <|
  .cond (.tmp 27) (.seq (ak [aZ 6 false]) <|
  .ret) (.skip)) <|
  ak [aa 28 2,aO 29 3 9,((some 30),.call (.tmp 28) [(.tmp 29)]),aa 7 30])) <|
  ak [az 31 .add 12 1,aa 12 31]
def ks:SF:=⟨.seq (ak [aZ 6 false]) <|
  .seq (ak [aI 7 (-1)]) <|
  .seq (.seq (ak [aa 10 0,aM 11 10,aI 12 0]) <|
  .block 0 (.loop jn)) <|
  .seq (ak [aZ 6 true]) <|
  .ret,
  [.tmp 6],32⟩
theorem pZ:aY Tryz.prog 149 []=some ks:=by kernel_rfl
def jR:SC :=
  .seq (ak [aR 13 .lss 12 11]) <|
  .seq (.cond (.tmp 13) (.skip) (.exit 0)) <|
  .seq (.block 1 (.seq (ak [aS 14 2 10 12,aO 15 2 14,((some 9),.op (.alloc [(.val (.int .i64 0)),(.val (.int .i64 0))])),(none,.op (.store 2 (.tmp 9) (.tmp 15)))]) <|
  .seq (.seq (.region false [⟨none,[aa 16 2,aO 17 2 9,((some 18),.call (.tmp 16) [(.tmp 17)]),aa 19 7,aR 20 .leq 18 19,aa 21 20]⟩,⟨(some (21,false)),[aa 22 2,aO 23 2 9,((some 24),.call (.tmp 22) [(.tmp 23)]),aa 25 1,aR 26 .geq 24 25]⟩,⟨none,[bB 27 21 26]⟩]) <|
  .cond (.tmp 27) (.seq (ak [aZ 6 false]) <|
  .ret) (.skip)) <|
  ak [aa 28 2,aO 29 2 9,((some 30),.call (.tmp 28) [(.tmp 29)]),aa 7 30])) <|
  ak [az 31 .add 12 1,aa 12 31]
def kU:SF:=⟨.seq (ak [aZ 6 false]) <|
  .seq (ak [aI 7 (-1)]) <|
  .seq (.seq (ak [aa 10 0,aM 11 10,aI 12 0]) <|
  .block 0 (.loop jR)) <|
  .seq (ak [aZ 6 true]) <|
  .ret,
  [.tmp 6],32⟩
theorem qX:aY Tryz.prog 153 []=some kU:=by kernel_rfl
def vf:SC :=
  .seq (ak [aR 78 .lss 77 76]) <|
  .seq (.cond (.tmp 78) (.skip) (.exit 1)) <|
  .seq (.block 2 (.seq (ak [aS 79 1 75 77,ao 80 79,aa 4 80]) <|
  .seq (.region false [⟨none,[aa 81 4,au 82 0 1,ao 83 82,az 84 .add 83 1,cZ 85 149 [(.tmp 81),(.tmp 84),(.val (.fn 150 [] []))],bX 86 85,aa 87 86]⟩,⟨(some (87,false)),[aa 88 4,cZ 89 151 [(.tmp 88),(.val (.fn 152 [] []))]]⟩,⟨none,[bB 90 87 89]⟩]) <|
  .cond (.tmp 90) (.seq (ak [aZ 2 false]) <|
  .ret) (.skip))) <|
  ak [az 91 .add 77 1,aa 77 91]
def vM:SC :=
  .seq (ak [aR 96 .lss 95 94]) <|
  .seq (.cond (.tmp 96) (.skip) (.exit 3)) <|
  .seq (.block 4 (.seq (ak [aS 97 1 93 95,ao 98 97,aa 6 98]) <|
  .seq (.region false [⟨none,[aa 99 6,au 100 1 1,ao 101 100,cZ 102 153 [(.tmp 99),(.tmp 101),(.val (.fn 154 [] []))],bX 103 102,aa 104 103]⟩,⟨(some (104,false)),[aa 105 6,cZ 106 155 [(.tmp 105),(.val (.fn 156 [] []))]]⟩,⟨none,[bB 107 104 106]⟩]) <|
  .cond (.tmp 107) (.seq (ak [aZ 2 false]) <|
  .ret) (.skip))) <|
  ak [az 108 .add 95 1,aa 95 108]
def yj:SF:=⟨.seq (ak [bW 1 0,aZ 2 false]) <|
  .seq (.block 0 (.seq (.region false [⟨none,[au 8 0 1,ao 9 8,az 10 .lss 9 0,aa 11 10]⟩,⟨(some (11,false)),[au 12 0 1,ao 13 12,az 14 .gtr 13 24]⟩,⟨none,[bB 15 11 14,aa 16 15]⟩,⟨(some (16,false)),[au 17 1 1,ao 18 17,az 19 .lss 18 0]⟩,⟨none,[bB 20 16 19,aa 21 20]⟩,⟨(some (21,false)),[au 22 1 1,ao 23 22,az 24 .gtr 23 16]⟩,⟨none,[bB 25 21 24,aa 7 25]⟩]) <|
  .cond (.tmp 7) (.seq (ak [aZ 2 false]) <|
  .ret) (.seq (.region false [⟨none,[au 27 3 1,ao 28 27,aM 29 28,az 30 .lss 29 1,aa 31 30]⟩,⟨(some (31,false)),[au 32 3 1,ao 33 32,aM 34 33,az 35 .gtr 34 300]⟩,⟨none,[bB 36 31 35,aa 37 36]⟩,⟨(some (37,false)),[au 38 5 1,ao 39 38,aM 40 39,au 41 3 1,ao 42 41,aM 43 42,aR 44 .neq 40 43]⟩,⟨none,[bB 45 37 44,aa 26 45]⟩]) <|
  .cond (.tmp 26) (.seq (ak [aZ 2 false]) <|
  .ret) (.seq (.region false [⟨none,[au 47 2 1,ao 48 47,aM 49 48,az 50 .gtr 49 300,aa 51 50]⟩,⟨(some (51,false)),[au 52 4 1,ao 53 52,aM 54 53,az 55 .gtr 54 300]⟩,⟨none,[bB 56 51 55,aa 46 56]⟩]) <|
  .cond (.tmp 46) (.seq (ak [aZ 2 false]) <|
  .ret) (.seq (.region false [⟨none,[au 58 3 1,ao 59 58,au 60 2 1,ao 61 60,aM 62 61,aQ 63 148 [59,62],bX 64 63,aa 65 64]⟩,⟨(some (65,false)),[au 66 5 1,ao 67 66,au 68 4 1,ao 69 68,aM 70 69,aQ 71 148 [67,70],bX 72 71]⟩,⟨none,[bB 73 65 72,aa 57 73]⟩]) <|
  .cond (.tmp 57) (.seq (ak [aZ 2 false]) <|
  .ret) (.skip)))))) <|
  .seq (.seq (ak [au 74 2 1,ao 75 74,aM 76 75,aI 77 0]) <|
  .block 1 (.loop vf)) <|
  .seq (.seq (ak [au 92 4 1,ao 93 92,aM 94 93,aI 95 0]) <|
  .block 3 (.loop vM)) <|
  .seq (ak [aZ 2 true]) <|
  .ret,
  [.tmp 2],109⟩
theorem Bj:aY Tryz.prog 105 [1]=some yj:=by kernel_rfl
def er:SC :=
  .seq (ak [aR 9 .lss 8 7]) <|
  .seq (.cond (.tmp 9) (.skip) (.exit 0)) <|
  .seq (.block 1 (.seq (ak [aa 10 8,aa 5 10]) <|
  .seq (ak [aa 11 1,aa 12 0,aa 13 5,aS 14 3 12 13,aO 15 3 14,((some 16),.call (.tmp 11) [(.tmp 15)])]) <|
  .cond (.tmp 16) (.seq (ak [aa 17 5,aa 4 17]) <|
  .ret) (.skip))) <|
  ak [az 18 .add 8 1,aa 8 18]
def eO:SF:=⟨.seq (ak [aI 4 0]) <|
  .seq (.seq (ak [aa 6 0,aM 7 6,aI 8 0]) <|
  .block 0 (.loop er)) <|
  .seq (ak [aI 4 (-1)]) <|
  .ret,
  [.tmp 4],19⟩
theorem ir:aY Tryz.prog 209 []=some eO:=by kernel_rfl
def ee:SF:=⟨.seq (ak [aZ 4 false]) <|
  .seq (ak [aa 5 0,aa 6 1,aQ 7 209 [5,6],az 8 .geq 7 0,aa 4 8]) <|
  .ret,
  [.tmp 4],9⟩
theorem gO:aY Tryz.prog 151 []=some ee:=by kernel_rfl
set_option maxHeartbeats 2000000 in
theorem HU (l:List ej) (hl:aL l) (f:FuncId) (cap:List V) (p:ej→Bool) (H:View) (hf:∀ x∈l,aC Tryz.prog f (.agg (en x) :: cap) H fun r H'=>r=gb (p x)∧H'=H) :
    aC Tryz.prog 209 [.aX (l.map fun x=>en x),.fn f [] cap] H fun r H'=>r=gi (cE p l 0)∧H'=H:=by
  refine aC.of mixed ir ?_
  unfold aL at hl
  simp (disch:=omega) only [↓wr,↓reduceIte,wq,ah,aj,Nat.reduceAdd,Nat.reduceLeDiff,Int.reduceNeg,reduceCtorEq,eO]
  refine ba.up l.length (fun i T H'=>H=H'∧cE p (l.drop i) i=cE p l 0∧T 0=.aX (l.map fun x=>en x)∧T 1=.fn f [] cap∧T 7=gi l.length∧T 8=gi i) ⟨rfl,rfl,rfl,rfl,rfl,rfl⟩ ?_
  rintro i k T _ hk ⟨rfl,hi,h0,h1,h7,h8⟩
  simp (disch:=omega) only [↓wr,↓reduceIte,wq,ag,Int.reduceNeg,reduceCtorEq,er,h7,h8]
  refine av.dec (fun hc=>?_) (fun hc=>?_)
  · have hg:l[i]?=some (l[i]'(by omega)):=List.getElem?_eq_getElem (by omega)
    have hm:l[i]'(by omega)∈l:=List.getElem_mem _
    rw[dJ (show i < l.length by omega)] at hi
    generalize l[i]'(by omega)=x at hg hm hi
    simp (disch:=omega) only [↓wr,↓reduceIte,wq,Nat.reduceEqDiff,Nat.reduceAdd,Nat.reduceLeDiff,Int.reduceNeg,reduceCtorEq,h0,h1,h8,List.getElem?_map,hg,en]
    have hcall:=hf x hm
    simp only[en] at hcall
    refine aE.ff (hcall.mono ?_)
    rintro r H2 ⟨rfl,rfl⟩
    simp only[cE] at hi
    simp (disch:=omega) only [↓wr,↓reduceIte,wq,Int.reduceNeg]
    refine av.split (fun hp=>?_) (fun hp=>?_)
    · simp (disch:=omega) only [↓wr,↓reduceIte,wq,ag,Nat.reduceEqDiff,Int.reduceNeg,reduceCtorEq,h8]
      rw[← hi,if_pos hp]
    · simp (disch:=omega) only [↓wr,↓reduceIte,wq,ag,Nat.reduceEqDiff,Int.reduceNeg,reduceCtorEq,h8]
      refine aV hk (by omega) ⟨rfl,?_,h0,h1,h7,rfl⟩
      rw[if_neg (by simp[hp])] at hi
      push_cast; exact hi
  · rw[List.drop_eq_nil_of_le (by omega)] at hi
    simp (disch:=omega) only [↓wr,↓reduceIte,wq,Nat.reduceEqDiff,Int.reduceNeg,reduceCtorEq]
    rw[← hi]; rfl
theorem Du (l:List ej) (hl:aL l) (f:FuncId) (cap:List V) (p:ej→Bool) (H:View) (hf:∀ x∈l,aC Tryz.prog f (.agg (en x) :: cap) H fun r H'=>r=gb (p x)∧H'=H) :
    aC Tryz.prog 151 [.aX (l.map fun x=>en x),.fn f [] cap] H fun r H'=>r=gb (l.any p)∧H'=H:=by
  refine aC.of mixed gO ?_
  simp (disch:=omega) only [↓wr,↓reduceIte,wq,ah,Nat.reduceEqDiff,Nat.reduceAdd,Nat.reduceLeDiff,reduceCtorEq,ee]
  refine aE.ff ((HU l hl f cap p H hf).mono ?_)
  rintro r H2 ⟨rfl,rfl⟩
  simp (disch:=omega) only [↓wr,↓reduceIte,wq,ag,reduceCtorEq]
  rw[← kh _ l 0 (by omega)]
def eN:SC :=
  .seq (ak [aR 9 .lss 8 7]) <|
  .seq (.cond (.tmp 9) (.skip) (.exit 0)) <|
  .seq (.block 1 (.seq (ak [aa 10 8,aa 5 10]) <|
  .seq (ak [aa 11 1,aa 12 0,aa 13 5,aS 14 2 12 13,aO 15 2 14,((some 16),.call (.tmp 11) [(.tmp 15)])]) <|
  .cond (.tmp 16) (.seq (ak [aa 17 5,aa 4 17]) <|
  .ret) (.skip))) <|
  ak [az 18 .add 8 1,aa 8 18]
def fc:SF:=⟨.seq (ak [aI 4 0]) <|
  .seq (.seq (ak [aa 6 0,aM 7 6,aI 8 0]) <|
  .block 0 (.loop eN)) <|
  .seq (ak [aI 4 (-1)]) <|
  .ret,
  [.tmp 4],19⟩
theorem iM:aY Tryz.prog 80 []=some fc:=by kernel_rfl
def eD:SF:=⟨.seq (ak [aZ 4 false]) <|
  .seq (ak [aa 5 0,aa 6 1,aQ 7 80 [5,6],az 8 .geq 7 0,aa 4 8]) <|
  .ret,
  [.tmp 4],9⟩
theorem gV:aY Tryz.prog 155 []=some eD:=by kernel_rfl
set_option maxHeartbeats 2000000 in
theorem HO (l:List de) (hl:aL l) (f:FuncId) (cap:List V) (p:de→Bool) (H:View) (hf:∀ x∈l,aC Tryz.prog f (.agg (dn x) :: cap) H fun r H'=>r=gb (p x)∧H'=H) :
    aC Tryz.prog 80 [.aX (l.map fun x=>dn x),.fn f [] cap] H fun r H'=>r=gi (cE p l 0)∧H'=H:=by
  refine aC.of mixed iM ?_
  unfold aL at hl
  simp (disch:=omega) only [↓wr,↓reduceIte,wq,ah,aj,Nat.reduceAdd,Nat.reduceLeDiff,Int.reduceNeg,reduceCtorEq,fc]
  refine ba.up l.length (fun i T H'=>H=H'∧cE p (l.drop i) i=cE p l 0∧T 0=.aX (l.map fun x=>dn x)∧T 1=.fn f [] cap∧T 7=gi l.length∧T 8=gi i) ⟨rfl,rfl,rfl,rfl,rfl,rfl⟩ ?_
  rintro i k T _ hk ⟨rfl,hi,h0,h1,h7,h8⟩
  simp (disch:=omega) only [↓wr,↓reduceIte,wq,ag,Int.reduceNeg,reduceCtorEq,eN,h7,h8]
  refine av.dec (fun hc=>?_) (fun hc=>?_)
  · have hg:l[i]?=some (l[i]'(by omega)):=List.getElem?_eq_getElem (by omega)
    have hm:l[i]'(by omega)∈l:=List.getElem_mem _
    rw[dJ (show i < l.length by omega)] at hi
    generalize l[i]'(by omega)=x at hg hm hi
    simp (disch:=omega) only [↓wr,↓reduceIte,wq,Nat.reduceEqDiff,Nat.reduceAdd,Nat.reduceLeDiff,Int.reduceNeg,reduceCtorEq,h0,h1,h8,List.getElem?_map,hg,dn]
    have hcall:=hf x hm
    simp only[dn] at hcall
    refine aE.ff (hcall.mono ?_)
    rintro r H2 ⟨rfl,rfl⟩
    simp only[cE] at hi
    simp (disch:=omega) only [↓wr,↓reduceIte,wq,Int.reduceNeg]
    refine av.split (fun hp=>?_) (fun hp=>?_)
    · simp (disch:=omega) only [↓wr,↓reduceIte,wq,ag,Nat.reduceEqDiff,Int.reduceNeg,reduceCtorEq,h8]
      rw[← hi,if_pos hp]
    · simp (disch:=omega) only [↓wr,↓reduceIte,wq,ag,Nat.reduceEqDiff,Int.reduceNeg,reduceCtorEq,h8]
      refine aV hk (by omega) ⟨rfl,?_,h0,h1,h7,rfl⟩
      rw[if_neg (by simp[hp])] at hi
      push_cast; exact hi
  · rw[List.drop_eq_nil_of_le (by omega)] at hi
    simp (disch:=omega) only [↓wr,↓reduceIte,wq,Nat.reduceEqDiff,Int.reduceNeg,reduceCtorEq]
    rw[← hi]; rfl
theorem CI (l:List de) (hl:aL l) (f:FuncId) (cap:List V) (p:de→Bool) (H:View) (hf:∀ x∈l,aC Tryz.prog f (.agg (dn x) :: cap) H fun r H'=>r=gb (p x)∧H'=H) :
    aC Tryz.prog 155 [.aX (l.map fun x=>dn x),.fn f [] cap] H fun r H'=>r=gb (l.any p)∧H'=H:=by
  refine aC.of mixed gV ?_
  simp (disch:=omega) only [↓wr,↓reduceIte,wq,ah,Nat.reduceEqDiff,Nat.reduceAdd,Nat.reduceLeDiff,reduceCtorEq,eD]
  refine aE.ff ((HO l hl f cap p H hf).mono ?_)
  rintro r H2 ⟨rfl,rfl⟩
  simp (disch:=omega) only [↓wr,↓reduceIte,wq,ag,reduceCtorEq]
  rw[← kh _ l 0 (by omega)]
def te (t:Int):Int→List ej→Bool
  | _,[]=>true
  | last,x :: l=>decide (last < x.eP) && decide (x.eP < t) && te t x.eP l
def tF (t:Int):Int→List de→Bool
  | _,[]=>true
  | last,x :: l=>decide (last < x.sym) && decide (x.sym < t) && tF t x.sym l
theorem FJ (t:Int):∀ (last:Int) (l:List ej),(te (t+1) last l && !l.any fun x=>decide (x.cell=⟨0,0⟩))=lK t last l
  | _,[]=>rfl
  | last,x :: l=>by
    rw[te,lK,← FJ t x.eP l,List.any_cons,decide_eq_decide.2 (show x.eP < t+1↔x.eP≤t by omega),decide_not]
    cases decide (last < x.eP) <;> cases decide (x.eP≤t) <;> cases decide (x.cell=⟨0,0⟩) <;> simp
theorem Hc (t:Int):∀ (last:Int) (l:List de),(tF t last l && !l.any fun x=>decide (x.to = -1))=lP t last l
  | _,[]=>rfl
  | last,x :: l=>by
    rw[tF,lP,← Hc t x.sym l,List.any_cons,decide_not]
    cases decide (last < x.sym) <;> cases decide (x.sym < t) <;> cases decide (x.to = -1) <;> simp
theorem Ri (x:ej):∀ v∈[V.agg (en x)],Tree v:=by
  intro v hv; simp at hv; subst hv
  exact bL _ fun v hv=>by simp[en] at hv; rcases hv with rfl | rfl | rfl <;> exact .val _
theorem Ru (x:de):∀ v∈[V.agg (dn x)],Tree v:=by
  intro v hv; simp at hv; subst hv
  exact bL _ fun v hv=>by simp[dn] at hv; rcases hv with rfl | rfl <;> exact .val _
theorem QU (x:ej):aD Tryz.prog 150 [.agg (en x)] (gi x.eP):=by
  refine aD.val (Ri x) fun H=>?_
  refine aC.of mixed zR ?_
  simp (disch:=omega) only [↓wr,↓reduceIte,wq,ah,Nat.reduceEqDiff,Nat.reduceAdd,Nat.reduceLT,Nat.reduceLeDiff,reduceCtorEq,uX,en]
theorem Rs (x:de):aD Tryz.prog 154 [.agg (dn x)] (gi x.sym):=by
  refine aD.val (Ru x) fun H=>?_
  refine aC.of mixed zS ?_
  simp (disch:=omega) only [↓wr,↓reduceIte,wq,ah,Nat.reduceEqDiff,Nat.reduceAdd,Nat.reduceLT,Nat.reduceLeDiff,reduceCtorEq,vK,dn]
theorem QZ (x:ej) (H:View):aC Tryz.prog 152 [.agg (en x)] H fun r H'=>r=gb (decide (x.cell=⟨0,0⟩))∧H'=H:=by
  refine aC.of mixed zO ?_
  simp (disch:=omega) only [↓wr,↓reduceIte,wq,ah,ae,Nat.reduceEqDiff,Nat.reduceAdd,Nat.reduceLeDiff,vR,en]
  refine gB (xs:=#[.int .i64 x.cell.kind,.int .i64 x.cell.n]) (ys:=#[.int .i64 0,.int .i64 0]) Tryz.underlying89 (by kernel_rfl) (by kernel_rfl) ?_ ?_ (Ao x.cell ⟨0,0⟩) (.inl ⟨rfl,rfl⟩) ?_
  · rfl
  · rfl
  rw[Gm]
  simp (disch:=omega) only [↓wr,↓reduceIte,wq,reduceCtorEq]
theorem Q5 (x:de) (H:View):aC Tryz.prog 156 [.agg (dn x)] H fun r H'=>r=gb (decide (x.to = -1))∧H'=H:=by
  refine aC.of mixed zP ?_
  simp (disch:=omega) only [↓wr,↓reduceIte,wq,ah,ag,Nat.reduceEqDiff,Nat.reduceAdd,Nat.reduceLT,Nat.reduceLeDiff,Int.reduceNeg,reduceCtorEq,vn,dn]
  rw[PY]
theorem Iq (x:Int) (n:Nat) (hn:n < 4611686018427387904):aD Tryz.prog 208 [gi x,.aT [gi n] 0] (gb (!IE n x)):=by
  refine aD.val (by
    intro v hv; simp at hv
    rcases hv with rfl | rfl
    · exact .val _
    · exact iQ (by intro v hv; simp at hv; subst hv; exact .val _)) fun H=>?_
  refine aC.of mixed yd ?_
  simp (disch:=omega) only [↓wr,↓reduceIte,wq,ah,ag,Nat.reduceAdd,Nat.reduceLeDiff,reduceCtorEq,sE]
  unfold IE
  refine av.dec (fun h1=>?_) (fun h1=>?_)
  · simp (disch:=omega) only [↓wr,↓reduceIte,wq,Nat.reduceEqDiff,reduceCtorEq]
    rw[decide_eq_false (show ¬ 0≤x by omega)]; rfl
  · simp (disch:=omega) only [↓wr,↓reduceIte,wq,ag,Nat.reduceEqDiff,Nat.reduceLT,reduceCtorEq]
    rw[decide_eq_true (show 0≤x by omega)]
    rw[Bool.true_and,← decide_not]; congr 2; exact decide_eq_decide.2 ⟨fun h=>Int.not_lt.2 h,fun h=>Int.not_lt.1 h⟩
theorem Cn (l:List Int) (hl:aL l) (n:Nat) (hn:n < 4611686018427387904):aD Tryz.prog 148 [encI l,gi n] (gb (l.all fun x=>IE n x)):=by
  refine aD.val (by
    intro v hv; simp at hv
    rcases hv with rfl | rfl
    · exact cF l
    · exact .val _) fun H=>?_
  have hcf:=lV l hl 208 [.aT [gi n] 0] (by intro v hv; simp at hv; subst hv; exact iQ (by intro v hv; simp at hv; subst hv; exact .val _)) (fun x=>!IE n x) (fun x _=>Iq x n hn) (by kernel_rfl)
  refine aC.of mixed zQ ?_
  simp (disch:=omega) only [↓wr,↓reduceIte,wq,ah,Nat.reduceEqDiff,Nat.reduceAdd,Nat.reduceLeDiff,reduceCtorEq,vg]
  refine aE.pure hcf (by kernel_rfl) ?_
  simp (disch:=omega) only [↓wr,↓reduceIte,wq,reduceCtorEq]
  rw[← List.not_all_eq_any_not,Bool.not_not]
set_option maxHeartbeats 4000000 in
theorem Oy (l:List ej) (hl:aL l) (t:Int):aD Tryz.prog 149 [eR l,gi t,.fn 150 [] []] (gb (te t (-1) l)):=by
  refine aD.val (by
    intro v hv; simp at hv
    rcases hv with rfl | rfl | rfl
    · exact cL _ _ fun c _ v hv=>by simp[en] at hv; rcases hv with rfl | rfl | rfl <;> exact .val _
    · exact .val _
    · exact zA (by simp) (by simp)) fun H=>?_
  unfold aL at hl
  refine aC.of mixed pZ ?_
  simp (disch:=omega) only [↓wr,↓reduceIte,wq,ah,aj,Nat.reduceAdd,Nat.reduceLeDiff,Int.reduceNeg,reduceCtorEq,ks]
  refine ba.up l.length (fun j T H'=>∃ last:Int,te t (-1) l=te t last (l.drop j)∧T 1=gi t∧T 2=.fn 150 [] []∧T 7=gi last∧T 10=eR l∧T 11=gi l.length∧T 12=gi j) ⟨-1,by simp,rfl,rfl,rfl,rfl,rfl,rfl⟩ ?_
  rintro j k T H' hk ⟨last,hr,t1,t2,t7,t10,t11,t12⟩
  simp (disch:=omega) only [↓wr,↓reduceIte,wq,ag,Int.reduceNeg,reduceCtorEq,jn,t11,t12]
  refine av.dec (fun hc=>?_) (fun hc=>?_)
  · have hx:l[j]?=some (l[j]'(by omega)):=List.getElem?_eq_getElem (by omega)
    have hd:l.drop j=l[j]'(by omega) :: l.drop (j+1):=List.drop_eq_getElem_cons (by omega)
    generalize l[j]'(by omega)=x at hx hd
    rw[hd,te] at hr
    have h1:=QU x
    simp only[en] at h1
    simp (disch:=omega) only [↓wr,↓reduceIte,wq,ab,Nat.reduceEqDiff,Nat.reduceAdd,Nat.reduceLT,Nat.reduceLeDiff,Int.reduceNeg,t2,t10,t12,List.getElem?_map,hx,en]
    intro b hb
    rw[set_set]
    have hbb:(H'.set b (.arr 3 [[gi x.eP,gi x.cell.kind,gi x.cell.n]])) b=.arr 3 [[gi x.eP,gi x.cell.kind,gi x.cell.n]]:=by simp[View.set]
    generalize H'.set b (.arr 3 [[gi x.eP,gi x.cell.kind,gi x.cell.n]])=H4 at hbb
    refine aE.pure h1 (by kernel_rfl) ?_
    simp (disch:=omega) only [↓wr,↓reduceIte,wq,ag,Nat.reduceEqDiff,Int.reduceNeg,t7]
    refine av.dec (fun g1=>?_) (fun g1=>?_)
    · simp (disch:=omega) only [↓wr,↓reduceIte,wq,ag,Nat.reduceEqDiff,Int.reduceNeg,reduceCtorEq]
      rw[hr,decide_eq_false (show ¬ last < x.eP by omega)]; rfl
    simp (disch:=omega) only [↓wr,↓reduceIte,wq,Nat.reduceEqDiff,Nat.reduceAdd,Nat.reduceLT,Nat.reduceLeDiff,Int.reduceNeg,t2,hbb]
    refine aE.pure h1 (by kernel_rfl) ?_
    simp (disch:=omega) only [↓wr,↓reduceIte,wq,ag,Nat.reduceEqDiff,Int.reduceNeg,t1]
    refine av.dec (fun g2=>?_) (fun g2=>?_)
    · simp (disch:=omega) only [↓wr,↓reduceIte,wq,ag,Nat.reduceEqDiff,Int.reduceNeg,reduceCtorEq]
      rw[hr,decide_eq_false (show ¬ x.eP < t by omega),Bool.and_false]; rfl
    simp (disch:=omega) only [↓wr,↓reduceIte,wq,Nat.reduceEqDiff,Nat.reduceAdd,Nat.reduceLT,Nat.reduceLeDiff,Int.reduceNeg,t2,hbb]
    refine aE.pure h1 (by kernel_rfl) ?_
    simp (disch:=omega) only [↓wr,↓reduceIte,wq,ag,Nat.reduceEqDiff,Int.reduceNeg,reduceCtorEq,t12]
    rw[decide_eq_true (show last < x.eP by omega),decide_eq_true (show x.eP < t by omega)] at hr
    exact aV hk (by omega) ⟨x.eP,hr,t1,t2,rfl,t10,t11,rfl⟩
  · rw[List.drop_eq_nil_of_le (by omega),te] at hr
    simp (disch:=omega) only [↓wr,↓reduceIte,wq,Nat.reduceEqDiff,Int.reduceNeg,reduceCtorEq]
    rw[hr]
set_option maxHeartbeats 4000000 in
theorem OV (l:List de) (hl:aL l) (t:Int):aD Tryz.prog 153 [eE l,gi t,.fn 154 [] []] (gb (tF t (-1) l)):=by
  refine aD.val (by
    intro v hv; simp at hv
    rcases hv with rfl | rfl | rfl
    · exact cL _ _ fun c _ v hv=>by simp[dn] at hv; rcases hv with rfl | rfl <;> exact .val _
    · exact .val _
    · exact zA (by simp) (by simp)) fun H=>?_
  unfold aL at hl
  refine aC.of mixed qX ?_
  simp (disch:=omega) only [↓wr,↓reduceIte,wq,ah,aj,Nat.reduceAdd,Nat.reduceLeDiff,Int.reduceNeg,reduceCtorEq,kU]
  refine ba.up l.length (fun j T H'=>∃ last:Int,tF t (-1) l=tF t last (l.drop j)∧T 1=gi t∧T 2=.fn 154 [] []∧T 7=gi last∧T 10=eE l∧T 11=gi l.length∧T 12=gi j) ⟨-1,by simp,rfl,rfl,rfl,rfl,rfl,rfl⟩ ?_
  rintro j k T H' hk ⟨last,hr,t1,t2,t7,t10,t11,t12⟩
  simp (disch:=omega) only [↓wr,↓reduceIte,wq,ag,Int.reduceNeg,reduceCtorEq,jR,t11,t12]
  refine av.dec (fun hc=>?_) (fun hc=>?_)
  · have hx:l[j]?=some (l[j]'(by omega)):=List.getElem?_eq_getElem (by omega)
    have hd:l.drop j=l[j]'(by omega) :: l.drop (j+1):=List.drop_eq_getElem_cons (by omega)
    generalize l[j]'(by omega)=x at hx hd
    rw[hd,tF] at hr
    have h1:=Rs x
    simp only[dn] at h1
    simp (disch:=omega) only [↓wr,↓reduceIte,wq,ab,Nat.reduceEqDiff,Nat.reduceAdd,Nat.reduceLT,Nat.reduceLeDiff,Int.reduceNeg,t2,t10,t12,List.getElem?_map,hx,dn]
    intro b hb
    rw[set_set]
    have hbb:(H'.set b (.arr 2 [[gi x.sym,gi x.to]])) b=.arr 2 [[gi x.sym,gi x.to]]:=by simp[View.set]
    generalize H'.set b (.arr 2 [[gi x.sym,gi x.to]])=H4 at hbb
    refine aE.pure h1 (by kernel_rfl) ?_
    simp (disch:=omega) only [↓wr,↓reduceIte,wq,ag,Nat.reduceEqDiff,Int.reduceNeg,t7]
    refine av.dec (fun g1=>?_) (fun g1=>?_)
    · simp (disch:=omega) only [↓wr,↓reduceIte,wq,ag,Nat.reduceEqDiff,Int.reduceNeg,reduceCtorEq]
      rw[hr,decide_eq_false (show ¬ last < x.sym by omega)]; rfl
    simp (disch:=omega) only [↓wr,↓reduceIte,wq,Nat.reduceEqDiff,Nat.reduceAdd,Nat.reduceLT,Nat.reduceLeDiff,Int.reduceNeg,t2,hbb]
    refine aE.pure h1 (by kernel_rfl) ?_
    simp (disch:=omega) only [↓wr,↓reduceIte,wq,ag,Nat.reduceEqDiff,Int.reduceNeg,t1]
    refine av.dec (fun g2=>?_) (fun g2=>?_)
    · simp (disch:=omega) only [↓wr,↓reduceIte,wq,ag,Nat.reduceEqDiff,Int.reduceNeg,reduceCtorEq]
      rw[hr,decide_eq_false (show ¬ x.sym < t by omega),Bool.and_false]; rfl
    simp (disch:=omega) only [↓wr,↓reduceIte,wq,Nat.reduceEqDiff,Nat.reduceAdd,Nat.reduceLT,Nat.reduceLeDiff,Int.reduceNeg,t2,hbb]
    refine aE.pure h1 (by kernel_rfl) ?_
    simp (disch:=omega) only [↓wr,↓reduceIte,wq,ag,Nat.reduceEqDiff,Int.reduceNeg,reduceCtorEq,t12]
    rw[decide_eq_true (show last < x.sym by omega),decide_eq_true (show x.sym < t by omega)] at hr
    exact aV hk (by omega) ⟨x.sym,hr,t1,t2,rfl,t10,t11,rfl⟩
  · rw[List.drop_eq_nil_of_le (by omega),tF] at hr
    simp (disch:=omega) only [↓wr,↓reduceIte,wq,Nat.reduceEqDiff,Int.reduceNeg,reduceCtorEq]
    rw[hr]
set_option maxHeartbeats 8000000 in
theorem Mx (p:ju) (hp:p.Ok):aD Tryz.prog 105 [.agg (cP p)] (gb (iF p)):=by
  refine aD.val (Ll p) fun H=>?_
  have h1:=hp.of.1
  have h2:=hp.to.1
  have h3:=hp.rows
  have h4:=hp.gotos
  unfold aL at h1 h2 h3 h4
  have n1:=Cn p.of hp.of.1 p.rows.length h3
  have n2:=Cn p.to hp.to.1 p.gotos.length h4
  simp only[encI] at n1 n2
  refine aC.of mixed Bj ?_
  have hneg:¬ (0≤p.ax∧p.ax≤24∧0≤p.aA∧p.aA≤16∧1≤p.of.length∧p.of.length≤300∧p.to.length=p.of.length∧p.rows.length≤300∧p.gotos.length≤300)→gb false=gb (iF p):=fun h=>by
    unfold iF; rw[decide_eq_false h]; simp
  simp (disch:=omega) only [↓wr,↓reduceIte,wq,ah,ag,Nat.reduceEqDiff,Nat.reduceAdd,Nat.reduceLT,Nat.reduceLeDiff,yj,cP]
  repeat' (first | (refine av.dec (fun _=>?_) (fun _=>?_)) | (refine av.eq (fun _=>?_) (fun _=>?_)) | (refine av.ne (fun _=>?_) (fun _=>?_)) | (refine av.split (fun _=>?_) (fun _=>?_)) | (simp (disch:=omega) only [↓wr,↓reduceIte,wq,ag,aj,Nat.reduceEqDiff,Nat.reduceAdd,Nat.reduceLT,reduceCtorEq,encI]))
  all_goals try exact hneg (by omega)
  have hsh:0≤p.ax∧p.ax≤24∧0≤p.aA∧p.aA≤16∧1≤p.of.length∧p.of.length≤300∧p.to.length=p.of.length∧p.rows.length≤300∧p.gotos.length≤300:=by omega
  rw[show iF p=((p.of.all fun x=>IE p.rows.length x) && (p.to.all fun x=>IE p.gotos.length x) && (p.rows.all fun r=>lK p.ax (-1) r) && p.gotos.all fun r=>lP p.aA (-1) r) by unfold iF; rw[decide_eq_true hsh,Bool.true_and]; rfl]
  refine aE.pure n1 (by kernel_rfl) ?_
  simp (disch:=omega) only [↓wr,↓reduceIte,wq,Int.reduceNeg]
  refine av.split (fun a1=>?_) (fun a1=>?_)
  rotate_left
  · simp (disch:=omega) only [↓wr,↓reduceIte,wq,aj,Nat.reduceEqDiff,Nat.reduceAdd,Nat.reduceLT,Int.reduceNeg,reduceCtorEq]
    rw[a1]; simp
  simp (disch:=omega) only [↓wr,↓reduceIte,wq,aj,Nat.reduceEqDiff,Nat.reduceAdd,Nat.reduceLT,Int.reduceNeg]
  refine aE.pure n2 (by kernel_rfl) ?_
  simp (disch:=omega) only [↓wr,↓reduceIte,wq,Nat.reduceEqDiff,Int.reduceNeg]
  refine av.split (fun a2=>?_) (fun a2=>?_)
  rotate_left
  · simp (disch:=omega) only [↓wr,↓reduceIte,wq,aj,Nat.reduceEqDiff,Nat.reduceAdd,Nat.reduceLT,Int.reduceNeg,reduceCtorEq]
    rw[a2]; simp
  rw[a1,a2,Bool.true_and,Bool.true_and]
  simp (disch:=omega) only [↓wr,↓reduceIte,wq,aj,Nat.reduceEqDiff,Nat.reduceAdd,Nat.reduceLT,Int.reduceNeg,reduceCtorEq]
  refine ba.up p.rows.length (fun i T H'=>((p.rows.take i).all fun r=>lK p.ax (-1) r)=true∧T 1=.aT (cP p) 0∧T 75=.aX (p.rows.map fun r=>[eR r])∧T 76=gi p.rows.length∧T 77=gi i) ⟨by simp,rfl,rfl,rfl,rfl⟩ ?_
  rintro i k T H' hk ⟨a3,t1,t75,t76,t77⟩
  simp (disch:=omega) only [↓wr,↓reduceIte,wq,ag,Int.reduceNeg,vf,t76,t77]
  refine av.dec (fun hc=>?_) (fun hc=>?_)
  · have hr:p.rows[i]?=some (p.rows[i]'(by omega)):=List.getElem?_eq_getElem (by omega)
    generalize p.rows[i]'(by omega)=row at hr
    have hrl:=(hp.row row (List.mem_of_getElem? hr)).1
    have hri:=FJ p.ax (-1) row
    have c1:=Oy row hrl (p.ax+1)
    have hw:gi (p.ax+1)=V.val (Value.int .i64 (p.ax+1)):=rfl
    simp (disch:=omega) only [↓wr,↓reduceIte,wq,ag,Nat.reduceEqDiff,Nat.reduceAdd,Nat.reduceLT,Int.reduceNeg,t1,t75,t77,List.getElem?_map,hr,cP]
    refine aE.pure c1 (by kernel_rfl) ?_
    simp (disch:=omega) only [↓wr,↓reduceIte,wq,Int.reduceNeg]
    refine av.split (fun e1=>?_) (fun e1=>?_)
    rotate_left
    · simp (disch:=omega) only [↓wr,↓reduceIte,wq,ag,Nat.reduceEqDiff,Int.reduceNeg,reduceCtorEq]
      rw[e1,Bool.false_and] at hri
      rw[zF hr hri.symm]; rfl
    simp (disch:=omega) only [↓wr,↓reduceIte,wq,Nat.reduceEqDiff,Int.reduceNeg]
    refine aE.ff ((Du row hrl 152 [] (fun x=>decide (x.cell=⟨0,0⟩)) H' (fun x _=>QZ x H')).mono ?_)
    rintro r H2 ⟨rfl,rfl⟩
    simp (disch:=omega) only [↓wr,↓reduceIte,wq,Nat.reduceEqDiff,Int.reduceNeg]
    rw[e1,Bool.true_and] at hri
    refine av.split (fun e2=>?_) (fun e2=>?_)
    · simp (disch:=omega) only [↓wr,↓reduceIte,wq,ag,Nat.reduceEqDiff,Int.reduceNeg,reduceCtorEq]
      rw[e2] at hri
      rw[zF hr hri.symm]; rfl
    rw[e2] at hri
    simp (disch:=omega) only [↓wr,↓reduceIte,wq,ag,aj,Nat.reduceEqDiff,Int.reduceNeg,reduceCtorEq,t1,t77]
    exact aV hk (by omega) ⟨by rw[Gb hr,a3,← hri]; rfl,t1,t75,t76,rfl⟩
  rw[List.take_of_length_le (by omega)] at a3
  rw[a3,Bool.true_and]
  simp (disch:=omega) only [↓wr,↓reduceIte,wq,aj,Nat.reduceEqDiff,Nat.reduceAdd,Nat.reduceLT,Int.reduceNeg,reduceCtorEq,t1,cP]
  refine ba.up p.gotos.length (fun i T H'=>((p.gotos.take i).all fun r=>lP p.aA (-1) r)=true∧T 1=.aT (cP p) 0∧T 93=.aX (p.gotos.map fun r=>[eE r])∧T 94=gi p.gotos.length∧T 95=gi i) ⟨by simp,t1,rfl,rfl,rfl⟩ ?_
  rintro i k T H' hk ⟨a3,t1,t75,t76,t77⟩
  simp (disch:=omega) only [↓wr,↓reduceIte,wq,ag,Int.reduceNeg,reduceCtorEq,vM,t76,t77]
  refine av.dec (fun hc=>?_) (fun hc=>?_)
  · have hr:p.gotos[i]?=some (p.gotos[i]'(by omega)):=List.getElem?_eq_getElem (by omega)
    generalize p.gotos[i]'(by omega)=row at hr
    have hrl:=(hp.go row (List.mem_of_getElem? hr)).1
    have hri:=Hc p.aA (-1) row
    have c1:=OV row hrl p.aA
    simp (disch:=omega) only [↓wr,↓reduceIte,wq,Nat.reduceEqDiff,Nat.reduceAdd,Nat.reduceLT,Int.reduceNeg,t1,t75,t77,List.getElem?_map,hr,cP]
    refine aE.pure c1 (by kernel_rfl) ?_
    simp (disch:=omega) only [↓wr,↓reduceIte,wq,Int.reduceNeg]
    refine av.split (fun e1=>?_) (fun e1=>?_)
    rotate_left
    · simp (disch:=omega) only [↓wr,↓reduceIte,wq,ag,Nat.reduceEqDiff,Int.reduceNeg,reduceCtorEq]
      rw[e1,Bool.false_and] at hri
      rw[zF hr hri.symm]
    simp (disch:=omega) only [↓wr,↓reduceIte,wq,Nat.reduceEqDiff,Int.reduceNeg]
    refine aE.ff ((CI row hrl 156 [] (fun x=>decide (x.to = -1)) H' (fun x _=>Q5 x H')).mono ?_)
    rintro r H2 ⟨rfl,rfl⟩
    simp (disch:=omega) only [↓wr,↓reduceIte,wq,Nat.reduceEqDiff,Int.reduceNeg]
    rw[e1,Bool.true_and] at hri
    refine av.split (fun e2=>?_) (fun e2=>?_)
    · simp (disch:=omega) only [↓wr,↓reduceIte,wq,ag,Nat.reduceEqDiff,Int.reduceNeg,reduceCtorEq]
      rw[e2] at hri
      rw[zF hr hri.symm]
    rw[e2] at hri
    simp (disch:=omega) only [↓wr,↓reduceIte,wq,ag,Nat.reduceEqDiff,Int.reduceNeg,reduceCtorEq,t77]
    exact aV hk (by omega) ⟨by rw[Gb hr,a3,← hri]; rfl,t1,t75,t76,rfl⟩
  rw[List.take_of_length_le (by omega)] at a3
  rw[a3]
  simp (disch:=omega) only [↓wr,↓reduceIte,wq,Nat.reduceEqDiff,reduceCtorEq]
def PR:List Int:=[37,114,105,103,104,116,32,39,97,39,32,37,108,101,102,116,32,39,104,39,32,37,37,32,115,32,58,32,110,32,115,32,124,32,39,97,39,32,59,32,110,32,58,32,37,112,114,101,99,32,39,104,39,32,59]
def PM:List Int:=[37,37,32,115,32,58,32,39,97,39,32,39,98,39,32,59]
def gN:ay:=⟨[⟨⟨#[39,97,39]⟩,1,2⟩,⟨⟨#[39,104,39]⟩,2,1⟩],[⟨#[115]⟩,⟨#[110]⟩],[⟨0,[-2,-1],-1⟩,⟨0,[0],0⟩,⟨1,[],1⟩],0⟩
def nQ:ay:=⟨[⟨⟨#[39,97,39]⟩,0,0⟩,⟨⟨#[39,98,39]⟩,0,0⟩],[⟨#[115]⟩],[⟨0,[0,1],1⟩],0⟩
def ot:DF:=⟨.seq (aB [aZ 0 false]) <|
  .seq (aB [((some 37),.op (.bh 16 1 [(.val (.int .u8 0))] [(0,(.val (.val (.int .u8 37)))),(1,(.val (.val (.int .u8 37)))),(2,(.val (.val (.int .u8 32)))),(3,(.val (.val (.int .u8 115)))),(4,(.val (.val (.int .u8 32)))),(5,(.val (.val (.int .u8 58)))),(6,(.val (.val (.int .u8 32)))),(7,(.val (.val (.int .u8 39)))),(8,(.val (.val (.int .u8 97)))),(9,(.val (.val (.int .u8 39)))),(10,(.val (.val (.int .u8 32)))),(11,(.val (.val (.int .u8 115)))),(12,(.val (.val (.int .u8 32)))),(13,(.val (.val (.int .u8 124)))),(14,(.val (.val (.int .u8 32)))),(15,(.val (.val (.int .u8 59))))])),((some 38),.op (.old (.convert 96 96 (.tmp 37)) 96)),aQ 39 52 [38],aa 36 39,bH 40 0 36,bH 41 1 36,bH 42 2 36,((some 1),.op (.alloc [(.emp 1),(.emp 1),(.emp 1),(.val (.int .i64 0))])),(none,.op (.store 4 (.tmp 1) (.tmp 40))),aa 2 41,aa 3 42]) <|
  .seq (aB [aO 44 4 1,aQ 45 17 [44],aa 43 45,bH 46 0 43,bH 47 1 43,bH 48 2 43,((some 4),.op (.alloc [(.emp 1),(.emp 1)])),(none,.op (.store 2 (.tmp 4) (.tmp 46))),aa 5 47,aa 6 48]) <|
  .seq (aB [aO 50 2 4,aQ 51 18 [50],aa 49 51,bH 52 0 49,bH 53 1 49,((some 7),.op (.alloc [(.val (.int .i64 0)),(.val (.int .i64 0)),(.emp 1),(.emp 1),(.emp 1),(.emp 1)])),(none,.op (.store 6 (.tmp 7) (.tmp 52))),aa 8 53]) <|
  .seq (aB [aO 55 4 1,aO 56 2 4,((some 57),.op (.bh 2 1 [(.val (.int .i64 0))] [(0,(.val (.val (.int .i64 0)))),(1,(.val (.val (.int .i64 0))))])),aQ 58 19 [55,56,57],aa 54 58,bH 59 0 54,bH 60 1 54,bH 61 2 54,aa 9 59,aa 10 60,aa 11 61]) <|
  .seq (aB [aO 63 4 1,aO 64 6 7,((some 65),.op (.bh 2 1 [(.val (.int .i64 0))] [(0,(.val (.val (.int .i64 0)))),(1,(.val (.val (.int .i64 0))))])),aQ 66 20 [63,64,65],aa 62 66,bH 67 0 62,bH 68 1 62,bH 69 2 62,aa 12 67,aa 13 68,aa 14 69]) <|
  .seq (aB [aO 71 4 1,aO 72 2 4,((some 73),.op (.bh 1 1 [(.val (.int .i64 0))] [(0,(.val (.val (.int .i64 1))))])),aQ 74 19 [71,72,73],aa 70 74,bH 75 0 70,bH 76 1 70,bH 77 2 70,aa 15 75,aa 16 76,aa 17 77]) <|
  .seq (aB [((some 79),.op (.bh 55 1 [(.val (.int .u8 0))] [(0,(.val (.val (.int .u8 37)))),(1,(.val (.val (.int .u8 114)))),(2,(.val (.val (.int .u8 105)))),(3,(.val (.val (.int .u8 103)))),(4,(.val (.val (.int .u8 104)))),(5,(.val (.val (.int .u8 116)))),(6,(.val (.val (.int .u8 32)))),(7,(.val (.val (.int .u8 39)))),(8,(.val (.val (.int .u8 97)))),(9,(.val (.val (.int .u8 39)))),(10,(.val (.val (.int .u8 32)))),(11,(.val (.val (.int .u8 37)))),(12,(.val (.val (.int .u8 108)))),(13,(.val (.val (.int .u8 101)))),(14,(.val (.val (.int .u8 102)))),(15,(.val (.val (.int .u8 116)))),(16,(.val (.val (.int .u8 32)))),(17,(.val (.val (.int .u8 39)))),(18,(.val (.val (.int .u8 104)))),(19,(.val (.val (.int .u8 39)))),(20,(.val (.val (.int .u8 32)))),(21,(.val (.val (.int .u8 37)))),(22,(.val (.val (.int .u8 37)))),(23,(.val (.val (.int .u8 32)))),(24,(.val (.val (.int .u8 115)))),(25,(.val (.val (.int .u8 32)))),(26,(.val (.val (.int .u8 58)))),(27,(.val (.val (.int .u8 32)))),(28,(.val (.val (.int .u8 110)))),(29,(.val (.val (.int .u8 32)))),(30,(.val (.val (.int .u8 115)))),(31,(.val (.val (.int .u8 32)))),(32,(.val (.val (.int .u8 124)))),(33,(.val (.val (.int .u8 32)))),(34,(.val (.val (.int .u8 39)))),(35,(.val (.val (.int .u8 97)))),(36,(.val (.val (.int .u8 39)))),(37,(.val (.val (.int .u8 32)))),(38,(.val (.val (.int .u8 59)))),(39,(.val (.val (.int .u8 32)))),(40,(.val (.val (.int .u8 110)))),(41,(.val (.val (.int .u8 32)))),(42,(.val (.val (.int .u8 58)))),(43,(.val (.val (.int .u8 32)))),(44,(.val (.val (.int .u8 37)))),(45,(.val (.val (.int .u8 112)))),(46,(.val (.val (.int .u8 114)))),(47,(.val (.val (.int .u8 101)))),(48,(.val (.val (.int .u8 99)))),(49,(.val (.val (.int .u8 32)))),(50,(.val (.val (.int .u8 39)))),(51,(.val (.val (.int .u8 104)))),(52,(.val (.val (.int .u8 39)))),(53,(.val (.val (.int .u8 32)))),(54,(.val (.val (.int .u8 59))))])),((some 80),.op (.old (.convert 96 96 (.tmp 79)) 96)),aQ 81 52 [80],aa 78 81,bH 82 0 78,bH 83 1 78,bH 84 2 78,((some 18),.op (.alloc [(.emp 1),(.emp 1),(.emp 1),(.val (.int .i64 0))])),(none,.op (.store 4 (.tmp 18) (.tmp 82))),aa 19 83,aa 20 84]) <|
  .seq (aB [aO 86 4 18,aQ 87 17 [86],aa 85 87,bH 88 0 85,bH 89 1 85,bH 90 2 85,((some 21),.op (.alloc [(.emp 1),(.emp 1)])),(none,.op (.store 2 (.tmp 21) (.tmp 88))),aa 22 89,aa 23 90]) <|
  .seq (aB [aO 92 4 18,aO 93 2 21,((some 94),.op (.bh 1 1 [(.val (.int .i64 0))] [(0,(.val (.val (.int .i64 0))))])),aQ 95 19 [92,93,94],aa 91 95,bH 96 0 91,bH 97 1 91,bH 98 2 91,aa 24 96,aa 25 97,aa 26 98]) <|
  .seq (aB [((some 100),.op (.bh 16 1 [(.val (.int .u8 0))] [(0,(.val (.val (.int .u8 37)))),(1,(.val (.val (.int .u8 37)))),(2,(.val (.val (.int .u8 32)))),(3,(.val (.val (.int .u8 115)))),(4,(.val (.val (.int .u8 32)))),(5,(.val (.val (.int .u8 58)))),(6,(.val (.val (.int .u8 32)))),(7,(.val (.val (.int .u8 39)))),(8,(.val (.val (.int .u8 97)))),(9,(.val (.val (.int .u8 39)))),(10,(.val (.val (.int .u8 32)))),(11,(.val (.val (.int .u8 39)))),(12,(.val (.val (.int .u8 98)))),(13,(.val (.val (.int .u8 39)))),(14,(.val (.val (.int .u8 32)))),(15,(.val (.val (.int .u8 59))))])),((some 101),.op (.old (.convert 96 96 (.tmp 100)) 96)),aQ 102 52 [101],aa 99 102,bH 103 0 99,bH 104 1 99,bH 105 2 99,((some 27),.op (.alloc [(.emp 1),(.emp 1),(.emp 1),(.val (.int .i64 0))])),(none,.op (.store 4 (.tmp 27) (.tmp 103))),aa 28 104,aa 29 105]) <|
  .seq (aB [aO 107 4 27,aQ 108 17 [107],aa 106 108,bH 109 0 106,bH 110 1 106,bH 111 2 106,((some 30),.op (.alloc [(.emp 1),(.emp 1)])),(none,.op (.store 2 (.tmp 30) (.tmp 109))),aa 31 110,aa 32 111]) <|
  .seq (aB [aO 113 4 27,aO 114 2 30,((some 115),.op (.bh 2 1 [(.val (.int .i64 0))] [(0,(.val (.val (.int .i64 0)))),(1,(.val (.val (.int .i64 0))))])),aQ 116 19 [113,114,115],aa 112 116,bH 117 0 112,bH 118 1 112,bH 119 2 112,aa 33 117,aa 34 118,aa 35 119]) <|
  .seq (.region [] [⟨none,[aa 120 11,az 121 .eql 120 0,aa 122 121]⟩,⟨(some (122,true)),[aa 123 14,az 124 .eql 123 0]⟩,⟨none,[bF 125 122 124,aa 126 125]⟩,⟨(some (126,true)),[aa 127 17,az 128 .eql 127 1]⟩,⟨none,[bF 129 126 128,aa 130 129]⟩,⟨(some (130,true)),[aa 131 26,az 132 .eql 131 14]⟩,⟨none,[bF 133 130 132,aa 134 133]⟩,⟨(some (134,true)),[aa 135 35,az 136 .eql 135 3]⟩,⟨none,[bF 137 134 136,aa 138 137]⟩,⟨(some (138,true)),[aa 139 10,az 140 .eql 139 2]⟩,⟨none,[bF 141 138 140,aa 142 141]⟩,⟨(some (142,true)),[aa 143 13,az 144 .eql 143 2]⟩,⟨none,[bF 145 142 144,aa 146 145]⟩,⟨(some (146,true)),[aa 147 34,az 148 .eql 147 1]⟩,⟨none,[bF 149 146 148,aa 150 149]⟩,⟨(some (150,true)),[aa 151 9,((some 152),.op (.bh 3 1 [(.val (.int .i64 0))] [(0,(.val (.val (.int .i64 1)))),(1,(.val (.val (.int .i64 0)))),(2,(.val (.val (.int .i64 0))))])),aQ 153 21 [151,152]]⟩,⟨none,[bF 154 150 153,aa 155 154]⟩,⟨(some (155,true)),[aa 156 12,aa 157 9,aQ 158 21 [156,157]]⟩,⟨none,[bF 159 155 158,aa 160 159]⟩,⟨(some (160,true)),[aO 161 4 1,((some 162),.op (.bh 1 1 [(.val (.int .i64 0))] [(0,(.val (.val (.int .i64 0))))])),aQ 163 53 [161,162]]⟩,⟨none,[bF 164 160 163,aa 165 164]⟩,⟨(some (165,true)),[aO 166 4 1,((some 167),.op (.bh 1 1 [(.val (.int .i64 0))] [(0,(.val (.val (.int .i64 (-1)))))])),aQ 168 53 [166,167],bX 169 168]⟩,⟨none,[bF 170 165 169,aa 0 170]⟩]) <|
  .ret,
  [.tmp 0],171⟩
theorem uP:bM Tryz.prog 15 []=some ot:=by kernel_rfl
def Ai:DF:=⟨.seq (aB [bW 3 0,bW 4 1,((some 6),.op (.bo (.val (.emp 1)))),aI 7 0,aI 8 0]) <|
  .seq (aB [aO 12 6 4,aQ 13 61 [12],aa 11 13,bH 14 0 11,bH 15 1 11,((some 9),.op (.alloc [(.emp 1),(.emp 1)])),(none,.op (.store 2 (.tmp 9) (.tmp 14))),aa 10 15]) <|
  .seq (.seq (aB [aa 16 10,az 17 .neq 16 0]) <|
  .cond (.tmp 17) (.seq (aB [aa 18 10,((some 6),.op (.bo (.val (.emp 1)))),aI 7 0,aa 8 18]) <|
  .ret) (.skip)) <|
  .seq (aB [aO 19 4 3,aO 20 2 9,aa 21 2,aQ 22 19 [19,20,21],bH 23 0 22,bH 24 1 22,bH 25 2 22,aa 6 23,aa 7 24,aa 8 25]) <|
  .ret,
  [.tmp 6,.tmp 7,.tmp 8],26⟩
theorem CT:bM Tryz.prog 20 [3,4]=some Ai:=by kernel_rfl
def tU:DF:=⟨.seq (aB [((some 4),.op (.bo (.val (.val (.int .u64 0))))),((some 5),.op (.bo (.val (.val (.int .u64 0)))))]) <|
  .seq (.cond (.val (.val (.bool false))) (.seq (aB [aa 11 0,((some 12),.op (.conv .u32 (.tmp 11))),aa 13 1,((some 14),.op (.conv .u32 (.tmp 13))),aQ 15 210 [12,14],aa 10 15,bH 16 0 10,bH 17 1 10,aa 6 16,aa 7 17]) <|
  .seq (aB [aa 18 6,((some 19),.op (.conv .u64 (.tmp 18))),aa 20 7,((some 21),.op (.conv .u64 (.tmp 20))),aa 4 19,aa 5 21]) <|
  .ret) (.skip)) <|
  .seq (aB [aa 23 0,aa 24 1,aQ 25 211 [23,24],aa 22 25,bH 26 0 22,bH 27 1 22,aa 8 26,aa 9 27]) <|
  .seq (aB [aa 28 8,aa 29 9,aa 4 28,aa 5 29]) <|
  .ret,
  [.tmp 4,.tmp 5],30⟩
theorem za:bM Tryz.prog 157 []=some tU:=by kernel_rfl
def ry:DF:=⟨.seq (aB [((some 4),.op (.bo (.val (.val (.int .u64 0))))),((some 5),.op (.bo (.val (.val (.int .u64 0)))))]) <|
  .seq (aB [aa 14 0,((some 15),.op (.arith .and (.tmp 14) (.val (.val (.int .u64 4294967295))))),aa 6 15]) <|
  .seq (aB [aa 16 0,((some 17),.op (.sh false (.tmp 16) (.val (.val (.int .u64 32))))),aa 7 17]) <|
  .seq (aB [aa 18 1,((some 19),.op (.arith .and (.tmp 18) (.val (.val (.int .u64 4294967295))))),aa 8 19]) <|
  .seq (aB [aa 20 1,((some 21),.op (.sh false (.tmp 20) (.val (.val (.int .u64 32))))),aa 9 21]) <|
  .seq (aB [aa 22 6,aa 23 8,aR 24 .mul 22 23,aa 10 24]) <|
  .seq (aB [aa 25 7,aa 26 8,aR 27 .mul 25 26,aa 28 10,((some 29),.op (.sh false (.tmp 28) (.val (.val (.int .u64 32))))),aR 30 .add 27 29,aa 11 30]) <|
  .seq (aB [aa 31 11,((some 32),.op (.arith .and (.tmp 31) (.val (.val (.int .u64 4294967295))))),aa 12 32]) <|
  .seq (aB [aa 33 11,((some 34),.op (.sh false (.tmp 33) (.val (.val (.int .u64 32))))),aa 13 34]) <|
  .seq (aB [aa 35 12,aa 36 6,aa 37 9,aR 38 .mul 36 37,aR 39 .add 35 38,aa 12 39]) <|
  .seq (aB [aa 40 7,aa 41 9,aR 42 .mul 40 41,aa 43 13,aR 44 .add 42 43,aa 45 12,((some 46),.op (.sh false (.tmp 45) (.val (.val (.int .u64 32))))),aR 47 .add 44 46,aa 4 47]) <|
  .seq (aB [aa 48 0,aa 49 1,aR 50 .mul 48 49,aa 5 50]) <|
  .ret,
  [.tmp 4,.tmp 5],51⟩
theorem xd:bM Tryz.prog 211 []=some ry:=by kernel_rfl
section
variable {P:Program} {T:Env} {H:View} {K:V→View→Prop} {w:cI (T,H,K)} {t t1 e ty:TypeId}
theorem JB {d x:Operand} {id off len sz bytes s:Nat} {z:List V} {es xs:List (List V)} {rd:List Nat} (he:pG P t=some (sz,bytes,z)) (hd:ev T d=.sl id off len sz) (hx:bN H (ev T x)=some (xs,rd)) (hH:H id=.arr s es) (hl:off+len≤es.length)
    (hc:(xs.all fun e=>e.length == sz && e.all aU)=true) (h0:(xs.take len).isEmpty=false) (hk:K (aj (xs.take len).length) (H.set id (.arr sz (gm es off (xs.take len))))) :
    pz P (.call { callee:=.builtin .copy,args:=#[d,x],argTypes:=#[t,t1] }) ty T H K w:=by
  obtain ⟨e,ti,hse,hi,hti,hz,hzl,hzok,hs0,rfl,rfl⟩:=jV he
  intro n _
  refine ⟨aj (xs.take len).length,.fZ id (.arr ti.size (gm es off (xs.take len))),id :: rd,?_,hk⟩
  simp only[sI,bT,oper]
  simp[xh,hse,hd,hx,dq,hti,h0,hH,hl,hs0,hc]
theorem Oo {d x:Operand} {k:Nat} {sz bytes:Nat} {z:List V} {xs:List (List V)} {rd:List Nat} (he:pG P t=some (sz,bytes,z)) (hd:ev T d=.emp k) (hx:bN H (ev T x)=some (xs,rd)) (hk:K (aj 0) H) :
    pz P (.call { callee:=.builtin .copy,args:=#[d,x],argTypes:=#[t,t1] }) ty T H K w:=by
  obtain ⟨e,ti,hse,hi,hti,hz,hzl,hzok,hs0,rfl,rfl⟩:=jV he
  intro n _
  refine ⟨aj 0,.none,[],?_,hk⟩
  simp only[sI,bT,oper]
  simp[xh,hse,hd,hx,dq,hti]
end
theorem uy:∀ (xs A B:List (List V)),xs.length≤B.length→gm (A ++ B) A.length xs=A ++ xs ++ B.drop xs.length
  | [],A,B,_=>by simp[gm]
  | x :: r,A,[],h=>by simp at h
  | x :: r,A,b :: B,h=>by
    rw[gm,List.set_append_right _ _ (Nat.le_refl _),Nat.sub_self,List.set_cons_zero]
    have:=uy r (A ++ [x]) B (by simpa using h)
    simpa using this
theorem HT {id off k m:Nat} (hm:m≤k):dW 1 (.sl id off k 1) (some (gi m)) none=some (.sl id (off+m) (k - m) 1,.none,[]):=by
  simp[dW,bound,asNat,hm]
def u64 (n:Int):V:=.val (.int .u64 n)
def G0:List (FuncId × DF):=[(157,tU),(211,ry)]
theorem LU:tW Tryz.prog G0:=by
  intro p hp
  simp only[G0,List.mem_cons,List.not_mem_nil,or_false] at hp
  rcases hp with rfl | rfl
  · exact ⟨_,za⟩
  · exact ⟨_,xd⟩
theorem P9 {n:Nat} (h:n≤16):aD Tryz.prog 157 [u64 1,u64 n] (.bf [u64 0,u64 n]):=by
  have key:∀ {n:Nat},vd Tryz.prog G0 (J9 []) 157 [u64 1,u64 n]=some (.bf [u64 0,u64 n])→aD Tryz.prog 157 [u64 1,u64 n] (.bf [u64 0,u64 n]):=fun h =>
    (rB mixed LU (GA (l:=[]) (by simp)) (by intro v hv; simp at hv; rcases hv with rfl | rfl <;> exact .val _) h).pure
  have:n=0∨n=1∨n=2∨n=3∨n=4∨n=5∨n=6∨n=7∨n=8∨n=9∨n=10∨n=11∨n=12∨n=13∨n=14∨n=15∨n=16:=by omega
  rcases this with rfl | rfl | rfl | rfl | rfl | rfl | rfl | rfl | rfl | rfl | rfl | rfl | rfl | rfl | rfl | rfl | rfl <;> exact key (by kernel_rfl)
def fw:SC :=
  .seq (.seq (ak [aa 34 8,aa 35 7,aM 36 35,aR 37 .lss 34 36]) <|
  .cond (.tmp 37) (.skip) (.exit 0)) <|
  .block 1 (ak [aa 38 8,aa 39 7,aa 40 8,((some 41),.op (.slice 1 (.tmp 39) (some (.tmp 40)) none)),aa 42 7,aa 43 8,((some 44),.op (.slice 1 (.tmp 42) none (some (.tmp 43)))),((some 45),.op (.old (.call { callee:=.builtin .copy,args:=#[(.tmp 41),(.tmp 44)],argTypes:=#[27,27] }) 3)),aR 46 .add 38 45,aa 8 46])
def jc:SF:=⟨.seq (ak [((some 4),.op (.bo (.val (.emp 1))))]) <|
  .seq (.seq (ak [aa 9 1,az 10 .lss 9 0]) <|
  .cond (.tmp 10) (.region false [⟨none,[((some 11),.op (.old (.makeInterface 9 (.const (.string ⟨#[99,97,110,110,111,116,32,98,101,32,110,101,103,97,116,105,118,101]⟩))) 20)),(none,.op (.old (.panic (.tmp 11)) 0))]⟩]) (.skip)) <|
  .seq (ak [aa 13 0,aM 14 13,((some 15),.op (.conv .u64 (.tmp 14))),aa 16 1,((some 17),.op (.conv .u64 (.tmp 16))),aQ 18 157 [15,17],aa 12 18,bH 19 0 12,bH 20 1 12,aa 5 19,aa 6 20]) <|
  .seq (.seq (.region false [⟨none,[aa 21 5,((some 22),.op (.arith .gtr (.tmp 21) (.val (.val (.int .u64 0))))),aa 23 22]⟩,⟨(some (23,false)),[aa 24 6,((some 25),.op (.arith .gtr (.tmp 24) (.val (.val (.int .u64 9223372036854775807)))))]⟩,⟨none,[bB 26 23 25]⟩]) <|
  .cond (.tmp 26) (.region false [⟨none,[((some 27),.op (.old (.makeInterface 9 (.const (.string ⟨#[116,104,101,32,114,101,115,117,108,116,32,111,102,32,40,108,101,110,40,120,41,32,42,32,99,111,117,110,116,41,32,111,118,101,114,102,108,111,119,115]⟩))) 20)),(none,.op (.old (.panic (.tmp 27)) 0))]⟩]) (.skip)) <|
  .seq (ak [aa 28 6,((some 29),.op (.conv .i64 (.tmp 28))),((some 30),.op (.make 1 8 [(.val (.int .i64 0))] (.tmp 29) (.tmp 29))),aa 7 30]) <|
  .seq (ak [aa 31 7,aa 32 0,((some 33),.op (.old (.call { callee:=.builtin .copy,args:=#[(.tmp 31),(.tmp 32)],argTypes:=#[27,27] }) 3)),aa 8 33]) <|
  .seq (.block 0 (.loop fw)) <|
  .seq (ak [aa 47 7,aa 4 47]) <|
  .ret,
  [.tmp 4],48⟩
theorem nX:aY Tryz.prog 106 []=some jc:=by kernel_rfl
set_option maxHeartbeats 4000000 in
theorem KS (n:Nat) (hn:n≤16) (m:Nat) (H:View) (hm:H m=.arr 1 [[gi (-1)]]):aC Tryz.prog 106 [.sl m 0 1 1,gi n] H fun r H'=>bc H' r 1 (bA (List.replicate n (-1)))∧fg H H' r:=by
  refine aC.of mixed nX ?_
  have hmul:=P9 hn
  unfold u64 at hmul
  have hw1:IntKind.u64.wrap 1=1:=by decide
  have hw2:IntKind.u64.wrap (n:Int)=n:=by
    have:n=0∨n=1∨n=2∨n=3∨n=4∨n=5∨n=6∨n=7∨n=8∨n=9∨n=10∨n=11∨n=12∨n=13∨n=14∨n=15∨n=16:=by omega
    rcases this with rfl | rfl | rfl | rfl | rfl | rfl | rfl | rfl | rfl | rfl | rfl | rfl | rfl | rfl | rfl | rfl | rfl <;> decide
  have hw3:IntKind.i64.wrap (n:Int)=n:=by
    have:n=0∨n=1∨n=2∨n=3∨n=4∨n=5∨n=6∨n=7∨n=8∨n=9∨n=10∨n=11∨n=12∨n=13∨n=14∨n=15∨n=16:=by omega
    rcases this with rfl | rfl | rfl | rfl | rfl | rfl | rfl | rfl | rfl | rfl | rfl | rfl | rfl | rfl | rfl | rfl | rfl <;> decide
  simp (disch:=omega) only [↓wr,↓reduceIte,wq,ah,ag,Nat.reduceEqDiff,Nat.reduceAdd,Nat.reduceLeDiff,Int.reduceNeg,jc]
  refine av.dec (fun h=>absurd h (by omega)) (fun _=>?_)
  simp (disch:=omega) only [↓wr,↓reduceIte,wq,aj,Nat.reduceEqDiff,Int.reduceNeg,reduceCtorEq]
  rw[show ((1:Nat):Int)=1 from rfl,hw1,hw2]
  refine aE.pure hmul (by kernel_rfl) ?_
  simp (disch:=omega) only [↓wr,↓reduceIte,wq,ag,Nat.reduceEqDiff,Nat.reduceAdd,Nat.reduceLT,Int.reduceNeg]
  refine av.dec (fun h=>absurd h (by omega)) (fun _=>?_)
  simp (disch:=omega) only [↓wr,↓reduceIte,wq,ag,Nat.reduceEqDiff,Int.reduceNeg]
  refine av.dec (fun h=>absurd h (by omega)) (fun _=>?_)
  simp (disch:=omega) only [↓wr,↓reduceIte,wq,Nat.reduceEqDiff,Int.reduceNeg,reduceCtorEq,hw3]
  refine ⟨⟨by omega,by unfold aJ; omega,by unfold aJ; omega⟩,fun h0=>?_,fun h0 b hb=>?_⟩
  · refine Oo (k:=2) (sz:=1) (bytes:=8) (z:=[gi 0]) (xs:=[[gi (-1)]]) (rd:=[m]) (by kernel_rfl) (by simp (disch:=omega) only [↓wr,↓reduceIte,Nat.reduceEqDiff]) (by simp (disch:=omega) only [↓wr,↓reduceIte,Int.reduceNeg]; simp[bN,hm]) ?_
    simp (disch:=omega) only [↓wr,↓reduceIte,wq,aj,Int.reduceNeg]
    refine ba.intro (fun k T H'=>H'=H∧T 7=.emp 2∧T 8=aj 0) 0 ⟨rfl,rfl,rfl⟩ ?_
    rintro k T _ ⟨rfl,t7,t8⟩
    simp (disch:=omega) only [↓wr,↓reduceIte,wq,ag,aj,Nat.reduceEqDiff,Int.reduceNeg,reduceCtorEq,fw,t7,t8]
    refine av.dec (fun h=>absurd h (by omega)) (fun _=>?_)
    simp (disch:=omega) only [↓wr,↓reduceIte,wq,Nat.reduceEqDiff,Int.reduceNeg,reduceCtorEq,t7]
    refine ⟨?_,fun id hid=>⟨rfl,by simp[owner]⟩⟩
    rw[h0]; exact .nil
  have hmb:¬ m=b:=by rintro rfl; rw[hm] at hb; simp at hb
  refine JB (id:=b) (off:=0) (len:=n) (sz:=1) (bytes:=8) (z:=[gi 0]) (s:=1) (es:=List.replicate n [gi 0]) (xs:=[[gi (-1)]]) (rd:=[m]) (by kernel_rfl) (by simp (disch:=omega) only [↓wr,↓reduceIte,Nat.reduceEqDiff]) (by simp (disch:=omega) only [↓wr,↓reduceIte,Int.reduceNeg]; simp[bN,View.set,hmb,hm]) (by simp[View.set]) (by simp) (by simp[aU]) (by obtain ⟨q,rfl⟩:∃ q,n=q+1:=⟨n - 1,by omega⟩; rfl) ?_
  rw[show ([[gi (-1)]]:List (List V)).take n=List.replicate 1 [gi (-1)] by obtain ⟨q,rfl⟩:∃ q,n=q+1:=⟨n - 1,by omega⟩; simp,
    show gm (List.replicate n [gi 0]) 0 (List.replicate 1 [gi (-1)])=List.replicate 1 [gi (-1)] ++ List.replicate (n - 1) [gi 0] by
      have:=uy (List.replicate 1 [gi (-1)]) [] (List.replicate n [gi 0]) (by simp; omega)
      simpa using this,List.length_replicate]
  simp (disch:=omega) only [↓wr,↓reduceIte,wq,aj,Int.reduceNeg]
  rw[set_set]
  refine ba.intro (fun k T H'=>∃ c:Nat,1≤c∧c+k=n∧H' b=.arr 1 (List.replicate c [gi (-1)] ++ List.replicate (n - c) [gi 0])∧(∀ id,H id≠.dead→H' id=H id)∧T 7=.sl b 0 n 1∧T 8=gi c) (n - 1) ⟨1,by omega,by omega,by simp[View.set],fun id hid=>?_,rfl,rfl⟩ ?_
  · have:¬ id=b:=by rintro rfl; exact hid hb
    simp[View.set,this]
  rintro k T H' ⟨c,c1,ck,hH,hkeep,t7,t8⟩
  simp (disch:=omega) only [↓wr,↓reduceIte,wq,ag,aj,Nat.reduceEqDiff,Int.reduceNeg,reduceCtorEq,fw,t7,t8]
  refine av.dec (fun hc=>?_) (fun hc=>?_)
  · simp (disch:=omega) only [↓wr,↓reduceIte,wq,Nat.reduceEqDiff,Int.reduceNeg,t7,t8,HT (id:=b) (off:=0) (k:=n) (m:=c) (by omega),Ak (id:=b) (off:=0) (k:=n) (m:=c) (by omega)]
    have hel:bN H' (.sl b 0 c 1)=some (List.replicate c [gi (-1)],[b]):=by
      obtain ⟨q,rfl⟩:∃ q,c=q+1:=⟨c - 1,by omega⟩
      simp only[bN,hH]
      rw[if_pos (by simp)]
      simp
    obtain ⟨d,hd⟩:∃ d,d=min (n - c) c:=⟨_,rfl⟩
    refine JB (id:=b) (off:=c) (len:=n - c) (sz:=1) (bytes:=8) (z:=[gi 0]) (s:=1) (es:=List.replicate c [gi (-1)] ++ List.replicate (n - c) [gi 0]) (xs:=List.replicate c [gi (-1)]) (rd:=[b]) (by kernel_rfl) (by simp (disch:=omega) only [↓wr,↓reduceIte,Nat.reduceEqDiff]) (by simp (disch:=omega) only [↓wr,↓reduceIte,Int.reduceNeg]; exact hel) hH (by simp) (by simp[aU]) ?_ ?_
    · rw[List.take_replicate,← hd]
      obtain ⟨q,hq⟩:∃ q,d=q+1:=⟨d - 1,by omega⟩
      rw[hq]; rfl
    have hs:=uy (List.replicate d [gi (-1)]) (List.replicate c [gi (-1)]) (List.replicate (n - c) [gi 0]) (by simp; omega)
    rw[List.length_replicate] at hs
    rw[List.take_replicate,← hd,hs,List.length_replicate]
    simp (disch:=omega) only [↓wr,↓reduceIte,wq,ag,aj,Nat.reduceEqDiff,Int.reduceNeg,reduceCtorEq,t7]
    trace_state
    refine ⟨n - (c+d),by omega,c+d,by omega,by omega,?_,fun id hid=>?_,rfl⟩
    · simp[List.drop_replicate,← List.replicate_append_replicate,show n - c - d=n - (c+d) by omega]
    · have:¬ id=b:=by rintro rfl; exact hid hb
      simp[this]; exact hkeep id hid
  · simp (disch:=omega) only [↓wr,↓reduceIte,wq,Nat.reduceEqDiff,Int.reduceNeg,reduceCtorEq,t7]
    obtain rfl:c=n:=by omega
    refine ⟨.inr ⟨b,by simp,by rw[hH]; simp[bA]⟩,fun id hid=>⟨hkeep id hid,?_⟩⟩
    simp only[owner,ne_eq,Option.some.injEq]
    rintro rfl; exact hid hb
theorem QW {α:Type} {X Y:α} {C I:List α} : (Y :: X :: (C ++ I)).Perm ((C ++ [X]) ++ (I ++ [Y])):=by
  rw[← List.append_assoc]
  refine .trans (.cons Y ?_) (List.perm_append_singleton Y _).symm
  rw[List.append_assoc]
  exact List.perm_middle.symm
def Sc (p:ju) (b2:Nat) (i:Nat) (T:Env) (H:View):Prop:=(∃ (ua ug:V) (A:Fg) (G:JR),A.map (·.2)=(ec p).aK.take i∧G.map (·.2)=(ec p).gotos.take i ∧
  bK H ((.sl b2 0 1 2,2,[[ua,ug]]) :: (ua,1,cq A) :: (ug,1,cq G) :: (zI A ++ zN G)))∧T 1=.aT (cP p) 0∧T 2=.ptr b2 0 0∧T 17=gi p.of.length∧T 18=gi i
def tD:SC :=
  .seq (ak [aR 36 .lss 35 34]) <|
  .seq (.cond (.tmp 36) (.skip) (.exit 2)) <|
  .seq (.block 3 (.seq (ak [aS 37 3 33 35,aO 38 3 37,((some 7),.op (.alloc [(.val (.int .i64 0)),(.val (.int .i64 0)),(.val (.int .i64 0))])),(none,.op (.store 3 (.tmp 7) (.tmp 38)))]) <|
  ak [aa 39 5,au 40 0 7,ao 41 40,au 42 1 7,aO 43 2 42,aS 44 2 39 41,(none,.op (.store 2 (.tmp 44) (.tmp 43)))])) <|
  ak [az 45 .add 35 1,aa 35 45]
def tC:SC :=
  .seq (ak [aR 61 .lss 60 59]) <|
  .seq (.cond (.tmp 61) (.skip) (.exit 4)) <|
  .seq (.block 5 (.seq (ak [aS 62 2 58 60,aO 63 2 62,((some 10),.op (.alloc [(.val (.int .i64 0)),(.val (.int .i64 0))])),(none,.op (.store 2 (.tmp 10) (.tmp 63)))]) <|
  ak [aa 64 8,au 65 0 10,ao 66 65,au 67 1 10,ao 68 67,aS 69 1 64 66,(none,.op (.store 1 (.tmp 69) (.tmp 68)))])) <|
  ak [az 70 .add 60 1,aa 60 70]
def tM:SC :=
  .seq (ak [aR 19 .lss 18 17]) <|
  .seq (.cond (.tmp 19) (.skip) (.exit 0)) <|
  .seq (.block 1 (.seq (ak [aa 20 18,aa 4 20]) <|
  .seq (ak [au 21 0 1,ao 22 21,az 23 .add 22 1,((some 24),.op (.make 2 16 [(.val (.int .i64 0)),(.val (.int .i64 0))] (.tmp 23) (.tmp 23))),aa 5 24]) <|
  .seq (.seq (ak [au 25 2 1,ao 26 25,au 27 3 1,ao 28 27,aa 29 4,aS 30 1 28 29,ao 31 30,aS 32 1 26 31,ao 33 32,aM 34 33,aI 35 0]) <|
  .block 2 (.loop tD)) <|
  .seq (ak [((some 46),.op (.bh 1 1 [(.val (.int .i64 0))] [(0,(.val (.val (.int .i64 (-1)))))])),au 47 1 1,ao 48 47,aQ 49 106 [46,48],aa 8 49]) <|
  .seq (.seq (ak [au 50 4 1,ao 51 50,au 52 5 1,ao 53 52,aa 54 4,aS 55 1 53 54,ao 56 55,aS 57 1 51 56,ao 58 57,aM 59 58,aI 60 0]) <|
  .block 4 (.loop tC)) <|
  .kH [(76,72)] [⟨none,[au 71 0 2,ao 72 71,aa 73 5,((some 74),.op (.bh 1 1 [(.emp 1)] [(0,(.tmp 73))])),((some 75),.op (.app 1 24 (.tmp 72) (.tmp 74))),au 76 1 2,ao 77 76,aa 78 8,((some 79),.op (.bh 1 1 [(.emp 1)] [(0,(.tmp 78))])),((some 80),.op (.app 1 24 (.tmp 77) (.tmp 79))),au 81 0 2,(none,.op (.store 1 (.tmp 81) (.tmp 75))),au 82 1 2,(none,.op (.store 1 (.tmp 82) (.tmp 80)))]⟩])) <|
  ak [az 83 .add 18 1,aa 18 83]
def xQ:SF:=⟨.seq (ak [bW 1 0,((some 2),.op (.alloc [(.emp 1),(.emp 1)])),aI 3 0]) <|
  .seq (.seq (ak [aO 11 6 1,aQ 12 105 [11],bX 13 12]) <|
  .cond (.tmp 13) (.seq (ak [aO 14 2 2,(none,.op (.store 2 (.tmp 2) (.tmp 14))),aI 3 1]) <|
  .ret) (.skip)) <|
  .seq (.seq (ak [au 15 3 1,ao 16 15,aM 17 16,aI 18 0]) <|
  .block 0 (.loop tM)) <|
  .seq (ak [aO 84 2 2,(none,.op (.store 2 (.tmp 2) (.tmp 84))),aI 3 0]) <|
  .ret,
  [.cell 2 (some 2),.tmp 3],85⟩
theorem A0:aY Tryz.prog 61 [1,100000]=some xQ:=by kernel_rfl
set_option maxHeartbeats 8000000 in
theorem B9 (p:ju) (hp:p.Ok):cH Tryz.prog 61 [.agg (cP p)] (.bf (if iF p=true then [.agg (bu (ec p)),gi 0] else [.agg (bu ⟨[],[]⟩),gi 1])):=by
  refine cH.of (Ll p) ?_
  have hr:=Mx p hp
  refine aC.of mixed A0 ?_
  simp only[cP,encI] at hr
  simp (disch:=omega) only [↓wr,↓reduceIte,wq,ah,Nat.reduceEqDiff,Nat.reduceAdd,Nat.reduceLeDiff,xQ,cP,encI]
  intro b2
  refine aE.pure hr (by kernel_rfl) ?_
  simp (disch:=omega) only [↓wr,↓reduceIte,wq]
  refine av.split (fun hrt=>?_) (fun hrt=>?_)
  rotate_left
  · simp (disch:=omega) only [↓wr,↓reduceIte,wq,ab,Nat.reduceEqDiff,Nat.reduceAdd,Nat.reduceLT,Nat.reduceLeDiff,reduceCtorEq]
    rw[hrt]
    intro h' _
    exact I6 (.emp _) (.emp _)
  obtain ⟨⟨q1,q2,q3,q4,q5,q6,q7,q8,q9⟩,hof,hto,hrows,hgos⟩:=Cy hrt
  rw[hrt]
  simp (disch:=omega) only [↓wr,↓reduceIte,wq,aj,Nat.reduceEqDiff,Nat.reduceAdd,Nat.reduceLT]
  have o0:=(bK.nil.new (n:=b2) (H:=fun _=>cU.dead) rfl 2 [[.emp 1,.emp 1]])
  refine ba.up p.of.length (Sc p b2) ⟨⟨.emp 1,.emp 1,[],[],by simp,by simp,?_⟩,rfl,rfl,rfl,rfl⟩ ?_
  · exact ((o0.emp (k:=1) (sz:=1)).emp (k:=1) (sz:=1)).perm CR.symm
  rintro i k T H hk ⟨⟨ua,ug,A,G,hA,hG,ho⟩,t1,t2,t17,t18⟩
  simp (disch:=omega) only [↓wr,↓reduceIte,wq,ag,Int.reduceNeg,tM,t17,t18]
  refine av.dec (fun hc=>?_) (fun hc=>?_)
  · have hn:p.of[i]?=some (p.of[i]'(by omega)):=List.getElem?_eq_getElem (by omega)
    have hm:p.to[i]?=some (p.to[i]'(by omega)):=List.getElem?_eq_getElem (by omega)
    have hnr:=hof _ (List.mem_of_getElem? hn)
    have hmr:=hto _ (List.mem_of_getElem? hm)
    generalize p.of[i]'(by omega)=n at hn hnr
    generalize p.to[i]'(by omega)=m at hm hmr
    have hrow:p.rows[n.toNat]?=some (p.rows.getD n.toNat []):=getD_some (by omega)
    have hgo:p.gotos[m.toNat]?=some (p.gotos.getD m.toNat []):=getD_some (by omega)
    have hA2:(ec p).aK[i]?=some (ix (p.rows.getD n.toNat []) (List.replicate (p.ax.toNat+1) (⟨0,0⟩:Cell))):=by simp[ec,hn]
    have hG2:(ec p).gotos[i]?=some (jH (p.gotos.getD m.toNat []) (List.replicate p.aA.toNat (-1))):=by simp[ec,hm]
    have hZ:(List.replicate (p.ax.toNat+1) (⟨0,0⟩:Cell)).length=p.ax.toNat+1:=by simp
    have hZ2:(List.replicate (p.ax.toNat+1) (⟨0,0⟩:Cell)).map bC=List.replicate (p.ax.toNat+1) [gi 0,gi 0]:=by simp[bC]
    generalize List.replicate (p.ax.toNat+1) (⟨0,0⟩:Cell)=Z at hA2 hZ hZ2
    have hrin:=GJ (by omega) (hrows _ (List.mem_of_getElem? hrow))
    have hgin:=GB (by omega) (hgos _ (List.mem_of_getElem? hgo))
    have hrl:=(hp.row _ (List.mem_of_getElem? hrow)).1
    have hgl:=(hp.go _ (List.mem_of_getElem? hgo)).1
    unfold aL at hrl hgl
    generalize p.rows.getD n.toNat []=row at hrow hA2 hrin hrl
    generalize p.gotos.getD m.toNat []=gor at hgo hG2 hgin hgl
    simp (disch:=omega) only [↓wr,↓reduceIte,wq,ag,Nat.reduceEqDiff,Nat.reduceAdd,Nat.reduceLT,Int.reduceNeg,t1,t18,cP,encI]
    refine ⟨⟨by omega,by unfold aJ; omega,by unfold aJ; omega⟩,fun h=>absurd h (by omega),fun _ na hna=>?_⟩
    have o1:=ho.new hna 2 (List.replicate (p.ax+1).toNat [gi 0,gi 0])
    rw[List.length_replicate] at o1
    generalize H.set na (.arr 2 (List.replicate (p.ax+1).toNat [gi 0,gi 0]))=HH at o1 ⊢
    rw[show (p.ax+1).toNat=p.ax.toNat+1 by omega,show List.replicate (p.ax.toNat+1) [gi 0,gi 0]=(ix (row.take 0) Z).map bC by rw[← hZ2]; rfl] at o1
    rw[show (p.ax+1).toNat=p.ax.toNat+1 by omega]
    clear ho
    generalize hB:(((.sl b2 0 1 2,2,[[ua,ug]]) :: (ua,1,cq A) :: (ug,1,cq G) :: (zI A ++ zN G)):List ep)=B at o1
    simp (disch:=omega) only [↓wr,↓reduceIte,wq,aj,Nat.reduceEqDiff,Nat.reduceLT,Int.reduceNeg,List.getElem?_map,hn,hrow]
    refine ba.up row.length (fun j T H'=>bK H' ((.sl na 0 (p.ax.toNat+1) 2,2,(ix (row.take j) Z).map bC) :: B)∧T 1=.aT (cP p) 0∧T 2=.ptr b2 0 0∧T 17=gi p.of.length∧T 18=gi i∧T 4=gi i∧T 5=.sl na 0 (p.ax.toNat+1) 2∧T 33=eR row∧T 34=gi row.length∧T 35=gi j) ⟨o1,t1,t2,t17,t18,rfl,rfl,rfl,rfl,rfl⟩ ?_
    clear o1
    rintro j k2 T2 H2 hk2 ⟨o2,t1,t2,t17,t18,t4,t5,t33,t34,t35⟩
    simp (disch:=omega) only [↓wr,↓reduceIte,wq,ag,af,Nat.reduceEqDiff,Nat.reduceLT,Int.reduceNeg,tD,t34,t35]
    refine av.dec (fun hc2=>?_) (fun hc2=>?_)
    · have hx:row[j]?=some (row[j]'(by omega)):=List.getElem?_eq_getElem (by omega)
      have hxr:=hrin _ (List.mem_of_getElem? hx)
      generalize row[j]'(by omega)=x at hx hxr
      simp (disch:=omega) only [↓wr,↓reduceIte,wq,ab,Nat.reduceEqDiff,Nat.reduceAdd,Nat.reduceLT,Nat.reduceLeDiff,Int.reduceNeg,t5,t33,t35,List.getElem?_map,hx,en]
      have hna2:=o2.is 0 rfl (by simp[tx,hZ])
      intro b hb
      have hbn:¬ na=b:=by rintro rfl; rw[hna2] at hb; simp at hb
      refine ⟨by omega,?_⟩
      simp (disch:=omega) only [↓wr,↓reduceIte,wq,ag,Nat.reduceEqDiff,Nat.reduceAdd,Nat.reduceLeDiff,Int.reduceNeg,reduceCtorEq,t1,t2,t18,t35,hbn,hna2,tx,hZ]
      refine ⟨by omega,?_⟩
      rw[set_set]
      refine aV hk2 (by omega) ⟨?_,t1,t2,t17,t18,t4,t5,t33,t34,rfl⟩
      rw[K9 hx]
      rw[Mz]
      have o3:=(o2.fresh hb (o:=.arr 3 [[gi x.eP,gi x.cell.kind,gi x.cell.n]])).put (es':=((ix (row.take j) Z).map bC).set x.eP.toNat (bC x.cell)) (by simp) (by simp[tx,hZ])
      exact o3.as (es':=((ix (row.take j) Z).set x.eP.toNat x.cell).map bC) (by rw[List.map_set])
    rw[List.take_of_length_le (by omega)] at o2
    simp (disch:=omega) only [↓wr,↓reduceIte,wq,Nat.reduceEqDiff,Nat.reduceAdd,Nat.reduceLT,Int.reduceNeg,reduceCtorEq,t1,t2,t18,cP]
    intro q0 hq0
    have hnn:gi p.aA=gi (p.aA.toNat:Int):=by rw[show ((p.aA.toNat:Nat):Int)=p.aA by omega]
    rw[hnn]
    refine aE.ff ((KS p.aA.toNat (by omega) q0 _ (by simp[View.set])).mono ?_)
    rintro u7 H3 ⟨ho7,hf7⟩
    have o3:=(o2.fresh (o:=.arr 1 [[gi (-1)]]) hq0).Pc ho7 hf7
    clear o2 ho7 hf7 hq0
    have hY:(List.replicate p.aA.toNat (-1:Int)).length=p.aA.toNat:=by simp
    generalize List.replicate p.aA.toNat (-1:Int)=Y at hG2 hY o3
    simp (disch:=omega) only [↓wr,↓reduceIte,wq,aj,Nat.reduceEqDiff,Nat.reduceAdd,Nat.reduceLT,t1,t4,cP,encI,List.getElem?_map,hm,hgo]
    refine ba.up gor.length (fun j T H'=>bK H' ((u7,1,bA (jH (gor.take j) Y)) :: (.sl na 0 (p.ax.toNat+1) 2,2,(ix row Z).map bC) :: B)∧T 1=.aT (cP p) 0∧T 2=.ptr b2 0 0∧T 17=gi p.of.length∧T 18=gi i∧T 5=.sl na 0 (p.ax.toNat+1) 2∧T 8=u7∧T 58=eE gor∧T 59=gi gor.length∧T 60=gi j) ⟨o3,t1,t2,t17,t18,t5,rfl,rfl,rfl,rfl⟩ ?_
    clear o3
    rintro j4 k4 T4 H4 hk4 ⟨o2,t1,t2,t17,t18,t5,t8,t58,t59,t60⟩
    simp (disch:=omega) only [↓wr,↓reduceIte,wq,ag,tC,t59,t60]
    refine av.dec (fun hc4=>?_) (fun hc4=>?_)
    · have hx:gor[j4]?=some (gor[j4]'(by omega)):=List.getElem?_eq_getElem (by omega)
      have hxr:=hgin _ (List.mem_of_getElem? hx)
      generalize gor[j4]'(by omega)=x at hx hxr
      obtain ⟨id,hu,hid⟩:=o2.head.sl (by simp[qn,hY]; omega)
      simp only[List.length_map,qn,hY] at hu
      subst hu
      simp (disch:=omega) only [↓wr,↓reduceIte,wq,ab,Nat.reduceEqDiff,Nat.reduceAdd,Nat.reduceLT,Nat.reduceLeDiff,t8,t58,t60,List.getElem?_map,hx,dn]
      intro b hb
      have hbn:¬ id=b:=by rintro rfl; rw[hid] at hb; simp at hb
      refine ⟨by omega,?_⟩
      simp (disch:=omega) only [↓wr,↓reduceIte,wq,ag,Nat.reduceEqDiff,Nat.reduceAdd,Nat.reduceLeDiff,reduceCtorEq,t2,t18,t60,hbn,hid,qn,hY]
      refine ⟨by omega,?_⟩
      rw[set_set]
      refine aV hk4 (by omega) ⟨?_,t1,t2,t17,t18,t5,t8,t58,t59,rfl⟩
      rw[Ks hx,Pb]
      have o3:=(o2.fresh hb (o:=.arr 2 [[gi x.sym,gi x.to]])).put (es':=(bA (jH (gor.take j4) Y)).set x.sym.toNat [gi x.to]) (by simp) (by simp[qn,hY])
      exact o3.as (es':=bA ((jH (gor.take j4) Y).set x.sym.toNat x.to)) (by simp only[bA,List.map_set])
    · rw[List.take_of_length_le (by omega)] at o2
      have c7:=o2.head.cells
      have k7:=o2.head.fA
      subst hB
      have hb4:=o2.is 2 rfl (by simp)
      simp (disch:=omega) only [↓wr,↓reduceIte,wq,ab,af,Nat.reduceEqDiff,Nat.reduceAdd,Nat.reduceLT,Nat.reduceLeDiff,reduceCtorEq,t2,t18,t5,hb4]
      intro q hq
      have lA:=congrArg List.length hA
      have lG:=congrArg List.length hG
      simp only[List.length_map,List.length_take] at lA lG
      simp (disch:=omega) only [↓wr,↓reduceIte,wq,Nat.reduceEqDiff,bp]
      have o4:=(o2.fresh (o:=.arr 1 [[.sl na 0 (p.ax.toNat+1) 2]]) hq).at 3 (by simp)
      refine bQ o4 (by simp[aU]) (by unfold aJ cq; simp; omega) (by unfold aJ cq; simp; omega) ?_
      intro ua2 H5 o5 _
      simp only[List.eraseIdx_cons_succ,List.eraseIdx_cons_zero] at o5
      have hb5:=o5.is 3 rfl (by simp)
      simp (disch:=omega) only [↓wr,↓reduceIte,wq,af,Nat.reduceEqDiff,Nat.reduceAdd,Nat.reduceLT,t2,t8,c7,k7,hb5]
      intro q2 hq2
      simp (disch:=omega) only [↓wr,↓reduceIte,wq,Nat.reduceEqDiff,bp]
      have o6:=(o5.fresh (o:=.arr 1 [[u7]]) hq2).at 4 (by simp)
      refine bQ o6 (by simp[k7]) (by unfold aJ cq; simp; omega) (by unfold aJ cq; simp; omega) ?_
      intro ug2 H6 o7 _
      simp only[List.eraseIdx_cons_succ,List.eraseIdx_cons_zero] at o7
      have hb7:=o7.is 4 rfl (by simp)
      have ca:=(o7.own 1 rfl).cells
      have ka:=(o7.own 1 rfl).fA
      have cg:=(o7.own 0 rfl).cells
      have kg:=(o7.own 0 rfl).fA
      simp (disch:=omega) only [↓wr,↓reduceIte,wq,ag,ab,Nat.reduceEqDiff,Nat.reduceAdd,Nat.reduceLT,Nat.reduceLeDiff,reduceCtorEq,t2,t18,ca,ka,cg,kg,hb7]
      refine ⟨Dr (o2.own 3 rfl) ((o2.at 2 (by simp)).off rfl _ (List.mem_of_getElem? (i:=2) rfl)),?_⟩
      rw[set_set]
      refine aV hk (by omega) ⟨⟨ua2,ug2,A ++ [(.sl na 0 (p.ax.toNat+1) 2,ix row Z)],G ++ [(u7,jH gor Y)],?_,?_,?_⟩,t1,t2,t17,rfl⟩
      · rw[List.map_append,hA,List.take_add_one,hA2]; rfl
      · rw[List.map_append,hG,List.take_add_one,hG2]; rfl
      · have o8:=(o7.at 4 (by simp)).put (es':=[[ua2,ug2]]) rfl rfl
        simp only[List.eraseIdx_cons_succ,List.eraseIdx_cons_zero] at o8
        refine o8.perm (.cons _ ((List.Perm.swap _ _ _).trans ?_))
        simp only[cq,zI,zN,List.map_append,List.map_cons,List.map_nil]
        exact .cons _ (.cons _ QW)
  · rw[List.take_of_length_le (by simp[ec]; omega)] at hA hG
    have hb2:=ho.is 0 rfl (by simp)
    have ca:=(ho.own 1 rfl).cells
    have ka:=(ho.own 1 rfl).fA
    have cg:=(ho.own 2 rfl).cells
    have kg:=(ho.own 2 rfl).fA
    simp (disch:=omega) only [↓wr,↓reduceIte,wq,ab,Nat.reduceEqDiff,Nat.reduceAdd,Nat.reduceLT,Nat.reduceLeDiff,reduceCtorEq,t2,hb2,ka,kg]
    intro h' hv
    have o9:=ho.put (es':=[[ua,ug]]) rfl rfl
    rw[← hv] at o9
    unfold bu
    rw[← hA,← hG]
    refine I6 (D1 (o9.own 1 rfl) fun x hx=>o9.1 (x.1,2,x.2.map bC) ?_) (KR.R6 ⟨G,rfl,o9.own 2 rfl,fun x hx=>o9.1 (x.1,1,bA x.2) ?_⟩)
    · simp only[List.mem_cons,List.mem_append]
      exact .inr (.inr (.inr (.inl (List.mem_map.2 ⟨x,hx,rfl⟩))))
    · simp only[List.mem_cons,List.mem_append]
      exact .inr (.inr (.inr (.inr (List.mem_map.2 ⟨x,hx,rfl⟩))))
def Pm (g:ay) (s:Int) (n:Nat) (o:List aN):List aN:=(List.range n).foldl (fun o (k:Nat)=>if (bk g k).left = -1 - s then dF o ⟨k,0⟩ else o) o
def G7 (g:ay) (p:List aN) (x:aN):List aN:=if (bI g x).2=true∧(bI g x).1 < 0 then Pm g (bI g x).1 g.rules.length p else p
def we (g:ay) (l:List aN):List aN:=iter (fun o=>o.foldl (G7 g) o) g.rules.length l
def PN (g:ay) (l o:List aN):Bool:=l.all (fun x=>decide (x∈o)) && o.all fun x=>!(bI g x).2 || decide (0≤(bI g x).1) || (List.range g.rules.length).all fun (k:Nat)=>!decide ((bk g k).left = -1 - (bI g x).1) || decide ((⟨k,0⟩:aN)∈o)
def Gx (g:ay) (l o:List aN):Prop:=b6 o∧∀ x∈o,lU g l x
theorem Jx {g:ay} {k:Nat} (h:k < g.rules.length):g.rules[k]?=some (bk g k):=by unfold bk; rw[Int.toNat_natCast]; exact getD_some h
theorem Jz {g:ay} {l:List aN} {x:aN} {s:Int} (hx:lU g l x) (hn:bI g x=(s,true)) (hs:s < 0):∀ (n:Nat) (o:List aN),n≤g.rules.length→Gx g l o→Gx g l (Pm g s n o)
  | 0,_,_,h=>h
  | n+1,o,hn1,h=>by
    have ih:=Jz hx hn hs n o (by omega) h
    unfold Pm at ih ⊢
    rw[List.range_succ,List.foldl_append]
    simp only[List.foldl_cons,List.foldl_nil]
    split
    · rename_i hL
      refine ⟨nk ih.1,fun y hy=>?_⟩
      rcases gX.1 hy with rfl | hy
      · exact .step hx hn hs (Jx (by omega)) hL
      · exact ih.2 y hy
    · exact ih
theorem Ae {g:ay} {l:List aN} : ∀ (q o:List aN),(∀ x∈q,lU g l x)→Gx g l o→Gx g l (q.foldl (G7 g) o)
  | [],_,_,h=>h
  | x :: q,o,hq,h=>by
    rw[List.foldl_cons]
    refine Ae q _ (fun y hy=>hq y (by simp[hy])) ?_
    unfold G7
    split
    · rename_i hc
      exact Jz (hq x (by simp)) (Prod.ext rfl hc.1) hc.2 _ _ (Nat.le_refl _) h
    · exact h
theorem wO {α:Type} {p:α→Prop} {f:α→α} (h:∀ x,p x→p (f x)):∀ (n:Nat) (x:α),p x→p (iter f n x)
  | 0,_,hx=>hx
  | n+1,x,hx=>wO h n (f x) (h x hx)
theorem G9 {g:ay} (hf:g.dU) {l:List aN} (hs:b6 l) (hl:∀ x∈l,cW g x) (h:PN g l (we g l)=true):dA g l=we g l:=by
  have hc:Gx g l (we g l):=wO (fun o ho=>Ae o o ho.2 ho) _ l ⟨hs,fun x hx=>.base hx⟩
  simp only[PN,Bool.and_eq_true,List.all_eq_true,decide_eq_true_eq] at h
  refine Gq hf hl hc.1 hc.2 h.1 fun x hx s k R hn hneg hk hL=>?_
  have h1:=h.2 x hx
  obtain ⟨hkl,hR⟩:=List.getElem?_eq_some_iff.1 hk
  rw[Jx hkl] at hk
  simp only[Option.some.injEq] at hk
  simp only[hn,Bool.not_true,Bool.false_or,Bool.or_eq_true,decide_eq_true_eq,List.all_eq_true,List.mem_range,Bool.not_eq_true',decide_eq_false_iff_not] at h1
  rcases h1 with h1 | h1
  · omega
  · rcases h1 k hkl with h2 | h2
    · exact absurd (by rw[hk]; exact hL) h2
    · exact h2
def Fa (g:ay) (at_:Nat) (out:List bt):List bt:=(List.range (g.ax.length+g.aA.length)).foldl (dK g (we g (out.getD at_ cK).bG) at_) out
def Cq (g:ay):Nat→Nat→List bt→Option (List bt)
  | 0,_,_=>none
  | f+1,at_,out=>if at_ < out.length then
      (if PN g (out.getD at_ cK).bG (we g (out.getD at_ cK).bG)=true∧(Fa g at_ out).length≤300 then Cq g f (at_+1) (Fa g at_ out) else none)
    else some out
theorem FZ {g:ay} (hf:g.dU):∀ (f at_:Nat) (out a:List bt),dM g at_ 0 out→Cq g f at_ out=some a→∀ k:Nat,f≤k→iD g k at_ out=(a,0)
  | 0,_,_,_,_,h,_,_=>by simp[Cq] at h
  | f+1,at_,out,a,hI,h,k,hk=>by
    obtain ⟨j,rfl⟩:∃ j,k=j+1:=⟨k - 1,by omega⟩
    rw[Cq] at h
    rw[iD]
    split at h
    · rename_i ha
      rw[if_pos ha]
      split at h
      · rename_i hc
        have hm:=List.mem_of_getElem? (getD_some (d:=cK) ha)
        have hk1:=hI.bG _ hm
        have e:yT g at_ out (g.ax.length+g.aA.length)=Fa g at_ out:=by
          unfold yT Fa
          rw[G9 hf hk1.1 hk1.2.2 hc.1]
        have hr:=dM.row (hI.uT hf ha).1 (hI.uT hf ha).2 hI (g.ax.length+g.aA.length) (by have:=hf.ax; have:=hf.aA; omega)
        rw[show (List.range (g.ax.length+g.aA.length)).foldl (dK g (dA g (out.getD at_ cK).bG) at_) out=yT g at_ out (g.ax.length+g.aA.length) from rfl] at hr
        rw[e] at hr ⊢
        rw[if_neg (by omega)]
        exact FZ hf f (at_+1) _ a hr.1.next h j (by omega)
      · simp at h
    · rename_i ha
      rw[if_neg ha]
      simp only[Option.some.injEq] at h
      rw[h]
def PD (g:ay) (a:List bt):List (List aN):=a.map fun s=>we g s.bG
def G8 (g:ay) (null:List Bool) (a:List bt) (ls:List (List aN)) (ss:Sets):Sets:=(List.range ls.length).foldl (fun ss (i:Nat)=>(List.range (ls.getD i []).length).foldl (fun ss (k:Nat)=>fJ g null a ls i k ss) ss) ss
def Gk (g:ay) (ls:List (List aN)):Sets:=dT ls (eT ls) 0 ⟨-1,0⟩ (ib g.ax.length)
def fixC (g:ay) (null:List Bool) (a:List bt) (ls:List (List aN)) (ss:Sets):Bool:=(List.range ls.length).all fun (i:Nat)=>(List.range (ls.getD i []).length).all fun (k:Nat)=>decide (fJ g null a ls i k ss=ss)
def Bg (g:ay) (ls:List (List aN)) (ss:Sets) (i:Nat):List dk:=(List.range (ls.getD i []).length).filterMap fun (k:Nat)=>if (bI g ((ls.getD i []).getD k ⟨0,0⟩)).2=false∧0≤((ls.getD i []).getD k ⟨0,0⟩).aP then some ⟨((ls.getD i []).getD k ⟨0,0⟩).aP,cY ss i k⟩ else none
theorem wD {α β:Type} {p:β→Prop} {f:β→α→β} : ∀ (l:List α) (b:β),(∀ x∈l,∀ b,p b→p (f b x))→p b→p (l.foldl f b)
  | [],_,_,h=>h
  | x :: l,b,hf,h=>by
    rw[List.foldl_cons]
    exact wD l _ (fun y hy=>hf y (by simp[hy])) (hf x (by simp) b h)
def JV (g:ay) (a:List bt) (ss:Sets):Prop:=iR (aW g a) ss∧jf g (bm g false) a (aW g a) ss∧∀ k,((aW g a).getD 0 [])[k]?=some ⟨-1,0⟩→(cY ss 0 k).getLsbD g.ax.length=true
theorem Nj {g:ay} {a:List bt} (hf:g.dU) (h1:1≤a.length):JV g a (Gk g (aW g a)):=by
  have hzs:=EG (aW g a)
  have hl0:0 < (aW g a).length:=by simp[aW]; omega
  have hbit:∀ t,(ib (g.ax.length:Int)).getLsbD t=true↔t=g.ax.length:=fun t=>by
    have:=hf.ax
    rw[ib,if_pos (by omega),BitVec.getLsbD_twoPow]
    simp only[Int.toNat_natCast,Bool.and_eq_true,decide_eq_true_eq]
    omega
  refine ⟨fM hzs hl0 ⟨-1,0⟩ (ib g.ax.length),pC hzs (fun i k x t _ h=>by rw[yz] at h; simp at h) hl0 fun t ht hm=>?_,fun k hk=>?_⟩
  · rw[(hbit t).1 ht]
    exact .start hm
  · rw[Gk,qB hzs hl0,if_pos ⟨rfl,hk⟩,BitVec.getLsbD_or,(hbit _).2 rfl,Bool.or_true]
theorem MI {g:ay} {a:List bt} (h1:1≤a.length) (ss:Sets) (h:JV g a ss):JV g a (G8 g (bm g false) a (aW g a) ss):=by
  have hla:(aW g a).length=a.length:=by simp[aW]
  unfold G8
  refine wD _ _ (fun i hi ss hs=>?_) h
  refine wD _ _ (fun k hk ss hs=>?_) hs
  simp only[List.mem_range] at hi hk
  obtain ⟨h2,h3,h4⟩:=hs
  have hp:=Au (g:=g) (null:=bm g false) hla h1 hi k h2
  exact ⟨hp.1,z7 hla h1 hi hk h2 h3,fun k hk=>hp.2.2.2 0 k _ (h4 k hk)⟩
theorem JX {α:Type} (l:List α) (d:α):l=(List.range l.length).map fun k=>l.getD k d:=by
  refine List.ext_getElem (by simp) fun i h1 h2=>?_
  simp[List.getD_eq_getElem?_getD,h1]
theorem Hb {α β:Type} {f h:α→Option β} : ∀ (l:List α),(∀ x∈l,f x=h x)→l.filterMap f=l.filterMap h
  | [],_=>rfl
  | x :: l,hx=>by rw[List.filterMap_cons,List.filterMap_cons,hx x (by simp),Hb l fun y hy=>hx y (by simp[hy])]
theorem OS {g:ay} {a:List bt} {ss:Sets} (h:∀ (i k:Nat) (x:aN),((aW g a).getD i [])[k]?=some x→cY ss i k=sY g a i x) (i:Nat):iC g a i=Bg g (aW g a) ss i:=by
  have e:∀ (l:List aN) (f:aN→Option dk),l.filterMap f=(List.range l.length).filterMap fun k=>f (l.getD k ⟨0,0⟩):=fun l f=>by
    rw[show l.filterMap f=((List.range l.length).map fun k=>l.getD k ⟨0,0⟩).filterMap f from congrArg (List.filterMap f) (JX l ⟨0,0⟩),List.filterMap_map]; rfl
  unfold iC Bg
  rw[e]
  refine Hb _ fun k hk=>?_
  simp only[List.mem_range] at hk
  rw[h i k _ (getD_some hk)]
def MR (g:ay) (a:List bt) (null:List Bool) (ls:List (List aN)) (ss:Sets):dx × List lL :=
  (im g a ((List.range a.length).map (Bg g ls ss)) a.length,pk g a ((List.range a.length).map (Bg g ls ss)) a.length)
theorem zf {g:ay} (hr:isRed g=true) {f n:Nat} {a:List bt} {null:List Bool} {ls:List (List aN)} {ss:Sets} {t:dx} {c:List lL} (ha:Cq g f 0 gq=some a) (hf302:f≤302) (hok:(a.all fun s=>PN g s.bG (we g s.bG))=true)
    (hls:PD g a=ls) (hn:bm g false=null) (hss:iter (G8 g null a ls) n (Gk g ls)=ss) (hfx:fixC g null a ls ss=true) (ht:MR g a null ls ss=(t,c)):dw g=(t,c,0):=by
  have hf:=xn hr
  have hA:bV g=(a,0):=by
    unfold bV
    rw[if_pos hr]
    exact FZ hf f 0 gq a tT ha 302 hf302
  have h0:(bV g).2=0:=by rw[hA]
  obtain ⟨hO,h1,_⟩:=F4 hf h0
  rw[hA] at hO h1
  have hcl:aW g a=ls:=by
    rw[← hls]
    unfold aW PD
    refine List.map_congr_left fun s hs=>?_
    have hk:=hO.bG s hs
    exact G9 hf hk.1 hk.2.2 (List.all_eq_true.1 hok s hs)
  subst hn
  subst hcl
  have hla:(aW g a).length=a.length:=by simp[aW]
  have hK:JV g a ss:=by
    rw[← hss]
    exact wO (fun ss h=>MI h1 ss h) n _ (Nj hf h1)
  obtain ⟨k1,k2,k3⟩:=hK
  have hfix:∀ i k,i < (aW g a).length→k < ((aW g a).getD i []).length→fJ g (bm g false) a (aW g a) i k ss=ss:=fun i k hi hk=>by
    have:=List.all_eq_true.1 (List.all_eq_true.1 hfx i (List.mem_range.2 hi)) k (List.mem_range.2 hk)
    exact of_decide_eq_true this
  have hL:fi g a=(List.range a.length).map (Bg g (aW g a) ss):=by
    unfold fi
    refine List.map_congr_left fun i _=>?_
    exact OS (fun i k x hx=>FB hla h1 k1 k2 k3 hfix hx) i
  unfold MR at ht
  rw[← hL] at ht
  simp only[Prod.mk.injEq] at ht
  unfold dw
  simp only[hA,if_pos,rK,ht.1,ht.2]
def NC (t:dx):Bool:=decide (t.aK.length≤900) && decide (t.gotos.length≤900) && t.aK.all (fun r=>decide (r.length≤900) && r.all fun c=>lQ c.kind && lQ c.n) && t.gotos.all fun r=>decide (r.length≤900) && r.all lQ
theorem yy {t:dx} (h:NC t=true):t.Ok:=by
  unfold NC at h
  simp only[Bool.and_eq_true,decide_eq_true_eq,List.all_eq_true] at h
  obtain ⟨⟨⟨h1,h2⟩,h3⟩,h4⟩:=h
  exact ⟨by unfold aL; omega,by unfold aL; omega,fun r hr=>⟨by unfold aL; have:=(h3 r hr).1; omega,fun c hc=>⟨ie ((h3 r hr).2 c hc).1,ie ((h3 r hr).2 c hc).2⟩⟩,fun r hr=>⟨by unfold aL; have:=(h4 r hr).1; omega,fun x hx=>ie ((h4 r hr).2 x hx)⟩⟩
theorem lT.Ok.new {P:Program} {f:FuncId} {vs:List V} {t:V} (hc:cH P f vs t) (hk:dd P f=true):lT.Ok P (f,vs,t,false):=⟨hk,by simp only[Bool.false_eq_true,if_false]; exact .inl hc⟩
theorem lT.Ok.KK {P:Program} {f:FuncId} {vs:List V} {b:Bool} (hc:aD P f vs (gb b)) (hk:dd P f=true):lT.Ok P (f,vs,gb b,false):=⟨hk,by simp only[Bool.false_eq_true,if_false]; exact .inr ⟨hc,.val _⟩⟩
theorem ext_cons {P:Program} {x:lT} {l:List lT} (h:x.Ok P) (hl:∀ y∈l,y.Ok P):∀ y∈x :: l,y.Ok P:=fun y hy=>by
  rcases List.mem_cons.1 hy with rfl | hy
  · exact h
  · exact hl y hy
def jt:dx:=⟨[[⟨1,1⟩,⟨2,1⟩],[⟨1,1⟩,⟨2,1⟩],[⟨0,0⟩,⟨3,0⟩],[⟨0,0⟩,⟨2,0⟩]],[[2],[3],[-1],[-1]]⟩
theorem C8:jt.Ok:=yy (by kernel_rfl)
theorem SZ:dw fh=(jt,[],0) :=
  zf (f:=10) (n:=2) (a:=[⟨[⟨-1,0⟩],[⟨0,1⟩,⟨-1,2⟩]⟩,⟨[⟨0,1⟩],[⟨0,1⟩,⟨-1,3⟩]⟩,⟨[⟨-1,1⟩],[]⟩,⟨[⟨0,2⟩],[]⟩]) (null:=[true]) (ls:=[[⟨-1,0⟩,⟨0,0⟩,⟨1,0⟩],[⟨0,0⟩,⟨0,1⟩,⟨1,0⟩],[⟨-1,1⟩],[⟨0,2⟩]]) (ss:=[[2,2,2],[2,2,2],[2],[2]]) (by kernel_rfl) (by kernel_rfl) (by decide) (by kernel_rfl) (by kernel_rfl) (by kernel_rfl) (by kernel_rfl) (by kernel_rfl) (by kernel_rfl)
def M1:V:=.bf [.agg (bu jt),.aX (ke []),gi 0]
theorem NB:cH Tryz.prog 17 [.agg (aw fh)] M1:=by
  have h:=rP fh gT.1
  rw[SZ] at h
  exact h
theorem RQ:cH Tryz.prog 52 [wA PR] (me gN):=CO (by kernel_rfl)
theorem yU:gN.Ok∧gN.Small:=FQ (by kernel_rfl)
def sV:dx:=⟨[[⟨2,2⟩,⟨0,0⟩,⟨0,0⟩],[⟨0,0⟩,⟨0,0⟩,⟨2,1⟩],[⟨0,0⟩,⟨0,0⟩,⟨3,0⟩],[⟨2,2⟩,⟨0,0⟩,⟨0,0⟩],[⟨0,0⟩,⟨0,0⟩,⟨2,0⟩]],[[2,3],[-1,-1],[-1,-1],[4,3],[-1,-1]]⟩
theorem P3:sV.Ok:=yy (by kernel_rfl)
theorem Tg:dw gN=(sV,[⟨0,0,1,2,-1⟩,⟨3,0,1,2,-1⟩],0) :=
  zf (f:=10) (n:=2) (a:=[⟨[⟨-1,0⟩],[⟨0,1⟩,⟨-1,2⟩,⟨-2,3⟩]⟩,⟨[⟨1,1⟩],[]⟩,⟨[⟨-1,1⟩],[]⟩,⟨[⟨0,1⟩],[⟨0,1⟩,⟨-1,4⟩,⟨-2,3⟩]⟩,⟨[⟨0,2⟩],[]⟩]) (null:=[false,true]) (ls:=[[⟨-1,0⟩,⟨0,0⟩,⟨1,0⟩,⟨2,0⟩],[⟨1,1⟩],[⟨-1,1⟩],[⟨0,0⟩,⟨0,1⟩,⟨1,0⟩,⟨2,0⟩],[⟨0,2⟩]]) (ss:=[[4,4,4,1],[4],[4],[4,4,4,1],[4]]) (by kernel_rfl) (by kernel_rfl) (by decide) (by kernel_rfl) (by kernel_rfl) (by kernel_rfl) (by kernel_rfl) (by kernel_rfl) (by kernel_rfl)
def LM:V:=.bf [.agg (bu sV),.aX (ke [⟨0,0,1,2,-1⟩,⟨3,0,1,2,-1⟩]),gi 0]
theorem Ng:cH Tryz.prog 17 [.agg (aw gN)] LM:=by
  have h:=rP gN yU.1
  rw[Tg] at h
  exact h
theorem RK:cH Tryz.prog 52 [wA PM] (me nQ):=CO (by kernel_rfl)
theorem zn:nQ.Ok∧nQ.Small:=FQ (by kernel_rfl)
def CG:dx:=⟨[[⟨1,1⟩,⟨0,0⟩,⟨0,0⟩],[⟨0,0⟩,⟨1,3⟩,⟨0,0⟩],[⟨0,0⟩,⟨0,0⟩,⟨3,0⟩],[⟨0,0⟩,⟨0,0⟩,⟨2,0⟩]],[[2],[-1],[-1],[-1]]⟩
theorem Ql:CG.Ok:=yy (by kernel_rfl)
theorem S6:dw nQ=(CG,[],0) :=
  zf (f:=10) (n:=2) (a:=[⟨[⟨-1,0⟩],[⟨0,1⟩,⟨-1,2⟩]⟩,⟨[⟨0,1⟩],[⟨1,3⟩]⟩,⟨[⟨-1,1⟩],[]⟩,⟨[⟨0,2⟩],[]⟩]) (null:=[false]) (ls:=[[⟨-1,0⟩,⟨0,0⟩],[⟨0,1⟩],[⟨-1,1⟩],[⟨0,2⟩]]) (ss:=[[4,4],[4],[4],[4]]) (by kernel_rfl) (by kernel_rfl) (by decide) (by kernel_rfl) (by kernel_rfl) (by kernel_rfl) (by kernel_rfl) (by kernel_rfl) (by kernel_rfl)
def NQ:V:=.bf [.agg (bu CG),.aX (ke []),gi 0]
theorem NT:cH Tryz.prog 17 [.agg (aw nQ)] NQ:=by
  have h:=rP nQ zn.1
  rw[S6] at h
  exact h
theorem RT:∀ (k:Nat) (st rs:List Int),0 < st.length→cm st=3→iq gN sV [0] k st rs 0=([],0,14):=by
  have hc:di sV 3 (bY gN [0] 0)=⟨2,2⟩:=by kernel_rfl
  have hr:(bk gN 2).right=[]:=by kernel_rfl
  have hg:jb sV 3 (bk gN 2).left=3:=by kernel_rfl
  intro k
  induction k with
  | zero =>
    intro st rs hs ht
    rw[mz,ht,hc]
    rfl
  | succ k ih =>
    intro st rs hs ht
    rw[mz,ht,hc]
    simp only[hr,List.length_nil,Nat.sub_zero,List.take_length,ht,hg]
    rw[if_neg (by decide),if_neg (by decide),if_neg (by decide),if_neg (by omega),if_neg (by decide)]
    exact ih _ _ (by simp) (by simp[cm,List.getD_eq_getElem?_getD])
theorem RH:gU gN sV [0]=([],0,14):=by
  have hc:di sV 0 (bY gN [0] 0)=⟨2,2⟩:=by kernel_rfl
  have hr:(bk gN 2).right=[]:=by kernel_rfl
  have hg:jb sV 0 (bk gN 2).left=3:=by kernel_rfl
  have ht:cm [0]=0:=rfl
  rw[ki,if_pos (by kernel_rfl),show (2000:Nat)=1999+1 from rfl,mz,ht,hc]
  simp only[hr,List.length_cons,List.length_nil,Nat.sub_zero,Nat.zero_add,List.take_succ_cons,List.take_zero,ht,hg]
  rw[if_neg (by decide),if_neg (by decide),if_neg (by decide),if_neg (by omega),if_neg (by decide)]
  exact RT 1999 _ _ (by simp) rfl
theorem RG:gU fh jt [0,0]=([1,0,0],2,0):=by
  rw[ki,if_pos (by kernel_rfl)]; kernel_rfl
theorem PV:gU fh jt [1]=([],0,1):=by
  rw[ki,if_neg (by rw[show (nH fh [1] && j0 fh jt)=false by kernel_rfl]; simp)]
theorem RB:gU nQ CG [0,0]=([],1,3):=by
  rw[ki,if_pos (by kernel_rfl)]; kernel_rfl
theorem r7 {w:List Int} (h:w.all lQ=true):∀ x∈w,bJ x:=fun x hx=>ie (List.all_eq_true.1 h x hx)
theorem lS {w:List Int} (h:w.length≤100):aL w:=by unfold aL; omega
def Pw:List lT:=[(19,[.agg (aw fh),.agg (bu jt),encI [0,0]],sR ([1,0,0],2,0),false)]
theorem O4:∀ x∈Pw,x.Ok Tryz.prog :=
  ext_cons (.new (RG ▸ mw fh gT.1 gT.2 jt C8 [0,0] (lS (by decide)) (r7 (by kernel_rfl))) (by kernel_rfl)) (by simp)
end Gv
