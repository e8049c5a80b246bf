/-
  Part 13 of the proof: what the machine does and what the functions answer.
  Conditions: those that each lemma names.
-/
import Derived.Test.YtgniimkconobpaaGreatSGzKL
set_option linter.unusedSimpArgs false
set_option linter.unusedVariables false
set_option linter.unusedSimpArgs false
set_option maxRecDepth 100000
namespace Gv
open Go Go.Proofs
def jK (g:av) (p:List Int):Bool:=p.all fun x=>decide (-1≤x) && decide (x < g.aC.length)
noncomputable def fN (g:av) (p:List Int):Bool:=c8 (fy g p) g.start.toNat 0 p.length
noncomputable def dy (g:av) (p:List Int):Bool × Int:=if (aR g && decide (p.length≤60) && jK g p)=true then (fN g p,0) else (false,1)
def dn (x:Bool × Int):V:=.bz [gb x.1,gi x.2]
theorem jQ (x:Bool × Int):Tree (dn x):=Fj (.val _) (.val _)
theorem jG {g:av} (hr:aR g=true) (p:List Int):fN g p=true↔Sp g p [-1 - g.start] 0 p.length:=by
  have hf:=aO hr
  have h0:=hf.dS
  have h1:=hf.start
  rw[fN,xI (by omega) (by omega) (by omega)]
  rw[show ((g.start.toNat:Nat):Int)=g.start by omega]
def ks:SC :=
  .seq (.seq (al [aa 15 6,aa 16 1,aL 17 16,bb 18 .lss 15 17]) <|
  .cond (.tmp 18) (.skip) (.exit 0)) <|
  .seq (.block 1 (.seq (.region false [⟨none,[aa 21 1,aa 22 6,aN 23 1 21 22,an 24 23,ay 25 .lss 24 (-1),aa 26 25]⟩,⟨(some (26,false)),[aa 27 1,aa 28 6,aN 29 1 27 28,an 30 29,ar 31 0 2,an 32 31,aL 33 32,bb 34 .geq 30 33]⟩,⟨none,[bt 35 26 34]⟩]) <|
  .cond (.tmp 35) (.seq (al [aU 4 false,aH 5 1]) <|
  .ret) (.skip))) <|
  al [aa 19 6,ay 20 .add 19 1,aa 6 20]
def m0:SF:=⟨.seq (al [cE 2 0,aU 4 false,aH 5 0]) <|
  .seq (.seq (.region false [⟨none,[aM 7 4 2,aG 8 41 [7],bL 9 8,aa 10 9]⟩,⟨(some (10,false)),[aa 11 1,aL 12 11,ay 13 .gtr 12 60]⟩,⟨none,[bt 14 10 13]⟩]) <|
  .cond (.tmp 14) (.seq (al [aU 4 false,aH 5 1]) <|
  .ret) (.skip)) <|
  .seq (.seq (al [aH 6 0]) <|
  .block 0 (.loop ks)) <|
  .seq (.region true [⟨none,[aM 36 4 2,aa 37 1,aG 38 42 [36,37],ar 39 3 2,an 40 39,aN 41 1 38 40,an 42 41,((some 43),.op (.idx 1 (.tmp 42) (.val (.val (.int .i64 0))))),an 44 43,aa 45 1,aL 46 45,aN 47 1 44 46,an 48 47,aa 4 48,aH 5 0]⟩]) <|
  .ret,
  [.tmp 4,.tmp 5],49⟩
theorem qt:aX Tryz.prog 18 [2]=some m0:=by kernel_rfl
set_option maxHeartbeats 4000000 in
theorem yP (g:av) (hg:g.Ok) (p:List Int) (hp:aP p) (hn:∀ x∈p,bF x):aE Tryz.prog 18 [.agg (ao g),encI p] (dn (dy g p)):=by
  refine aE.tree (by
    intro v hv; simp at hv
    rcases hv with rfl | rfl
    · exact bV _ (bK g)
    · exact cz p) (jQ _) fun H=>?_
  refine aD.of mixed qt ?_
  unfold aP at hp
  have hgt:=hg.aC
  unfold aP at hgt
  have bad:(aR g && decide (p.length≤60) && jK g p)=false→dn (dy g p)=.bz [gb false,gi 1]:=fun e=>by
    unfold dy; rw[if_neg (by rw[e]; simp)]; rfl
  simp (disch:=omega) only [↓wr,↓reduceIte,wq,ai,ah,ak,ae,af,ag,aj,isNil,Nat.reduceEqDiff,Nat.reduceAdd,Nat.reduceLT,Nat.reduceLeDiff,Int.reduceNeg,Int.reduceToNat,reduceCtorEq,m0,ao,encS,encI]
  refine az.pure (kM g hg) (by kernel_rfl) ?_
  simp (disch:=omega) only [↓wr,↓reduceIte,wq,ai,ah,ak,ae,af,ag,aj,isNil,Nat.reduceEqDiff,Nat.reduceAdd,Nat.reduceLT,Nat.reduceLeDiff,Int.reduceNeg,Int.reduceToNat,reduceCtorEq]
  refine aq.split (fun hr=>?_) (fun hr=>?_)
  · have hf:=aO hr
    simp (disch:=omega) only [↓wr,↓reduceIte,wq,ai,ah,ak,ae,af,ag,aj,isNil,Nat.reduceEqDiff,Nat.reduceAdd,Nat.reduceLT,Nat.reduceLeDiff,Int.reduceNeg,Int.reduceToNat,reduceCtorEq,encI]
    refine aq.dec (fun h6=>?_) (fun h6=>?_)
    · simp (disch:=omega) only [↓wr,↓reduceIte,wq,ai,ah,ak,ae,af,ag,aj,isNil,Nat.reduceEqDiff,Nat.reduceAdd,Nat.reduceLT,Nat.reduceLeDiff,Int.reduceNeg,Int.reduceToNat,reduceCtorEq]
      exact (bad (by rw[decide_eq_false (by omega)]; simp)).symm
    · simp (disch:=omega) only [↓wr,↓reduceIte,wq,ai,ah,ak,ae,af,ag,aj,isNil,Nat.reduceEqDiff,Nat.reduceAdd,Nat.reduceLT,Nat.reduceLeDiff,Int.reduceNeg,Int.reduceToNat,reduceCtorEq,encI]
      refine bo.up p.length (fun i T' H'=>jK g (p.take i)=true∧T' 1=encI p∧T' 2=.aK (ao g) 0∧T' 6=gi i) ⟨rfl,rfl,rfl,rfl⟩ ?_
      rintro i k T' H' hk ⟨hpt,t1,t2,t6⟩
      simp (disch:=omega) only [↓wr,↓reduceIte,wq,ai,ah,ak,ae,af,ag,aj,isNil,Nat.reduceEqDiff,Nat.reduceAdd,Nat.reduceLT,Nat.reduceLeDiff,Int.reduceNeg,Int.reduceToNat,reduceCtorEq,ks,t1,t2,t6,encI]
      refine aq.dec (fun hc=>?_) (fun hc=>?_)
      · have hg1:p[i]?=some (p[i]'(by omega)):=List.getElem?_eq_getElem (by omega)
        have hmem:p[i]'(by omega)∈p:=List.getElem_mem _
        have htk:p.take (i+1)=p.take i ++ [p[i]'(by omega)]:=by rw[List.take_add_one,hg1]; rfl
        generalize p[i]'(by omega)=x at hg1 hmem htk
        have hpn:jK g (p.take (i+1))=(decide (-1≤x) && decide (x < g.aC.length)):=by
          unfold jK at hpt ⊢
          rw[htk,List.all_append,hpt]; simp
        have hbx:(decide (-1≤x) && decide (x < g.aC.length))=false→jK g p=false:=fun e=>by
          unfold jK
          rw[List.all_eq_false]
          exact ⟨x,hmem,by rw[e]; simp⟩
        simp (disch:=omega) only [↓wr,↓reduceIte,wq,ai,ah,ak,ae,af,ag,aj,isNil,Nat.reduceEqDiff,Nat.reduceAdd,Nat.reduceLT,Nat.reduceLeDiff,Int.reduceNeg,Int.reduceToNat,reduceCtorEq,t1,t2,t6,encI,ao,encS,List.getElem?_map,hg1]
        refine aq.dec (fun h1=>?_) (fun h1=>?_)
        · simp (disch:=omega) only [↓wr,↓reduceIte,wq,ai,ah,ak,ae,af,ag,aj,isNil,Nat.reduceEqDiff,Nat.reduceAdd,Nat.reduceLT,Nat.reduceLeDiff,Int.reduceNeg,Int.reduceToNat,reduceCtorEq,t1,t2,t6]
          exact (bad (by rw[hbx (by rw[decide_eq_false (by omega)]; rfl),Bool.and_false])).symm
        · simp (disch:=omega) only [↓wr,↓reduceIte,wq,ai,ah,ak,ae,af,ag,aj,isNil,Nat.reduceEqDiff,Nat.reduceAdd,Nat.reduceLT,Nat.reduceLeDiff,Int.reduceNeg,Int.reduceToNat,reduceCtorEq,t1,t2,t6,encI,ao,encS,List.getElem?_map,hg1]
          refine aq.dec (fun h2=>?_) (fun h2=>?_)
          · simp (disch:=omega) only [↓wr,↓reduceIte,wq,ai,ah,ak,ae,af,ag,aj,isNil,Nat.reduceEqDiff,Nat.reduceAdd,Nat.reduceLT,Nat.reduceLeDiff,Int.reduceNeg,Int.reduceToNat,reduceCtorEq,t1,t2,t6]
            exact (bad (by rw[hbx (by rw[decide_eq_false (show ¬ x < (g.aC.length:Int) by omega),Bool.and_false]),Bool.and_false])).symm
          · simp (disch:=omega) only [↓wr,↓reduceIte,wq,ai,ah,ak,ae,af,ag,aj,isNil,Nat.reduceEqDiff,Nat.reduceAdd,Nat.reduceLT,Nat.reduceLeDiff,Int.reduceNeg,Int.reduceToNat,reduceCtorEq,t1,t2,t6]
            exact aV hk (by omega) ⟨by rw[hpn,decide_eq_true (by omega),decide_eq_true (by omega)]; rfl,t1,t2,rfl⟩
      · rw[List.take_of_length_le (by omega)] at hpt
        simp (disch:=omega) only [↓wr,↓reduceIte,wq,ai,ah,ak,ae,af,ag,aj,isNil,Nat.reduceEqDiff,Nat.reduceAdd,Nat.reduceLT,Nat.reduceLeDiff,Int.reduceNeg,Int.reduceToNat,reduceCtorEq,t1,t2,t6,ao,encS]
        have hof:=HV g hg hf p (by omega)
        simp only[ao,encS] at hof
        refine az.pure hof.pure (by kernel_rfl) ?_
        have h0:=hf.dS
        have h1:=hf.start
        obtain ⟨row,cell,hrow,hcell,hcl,hcg⟩:=(A0 g p).cell (n:=g.start.toNat) (i:=0) (by omega) (by omega)
        have hcr:cell[p.length]?=some (fN g p):=by
          rw[fN,c8,hcg]; simp[List.getD_eq_getElem?_getD,show p.length < cell.length by omega]
        have hA:dy g p=(fN g p,0):=if_pos (by rw[hr,hpt,decide_eq_true (by omega)]; rfl)
        generalize fy g p=S at hrow ⊢
        have hc0:cell[(p.length:Int).toNat]?=some (fN g p):=by rw[Int.toNat_natCast]; exact hcr
        simp (disch:=omega) only [↓wr,↓reduceIte,wq,ai,ah,ak,ae,af,ag,aj,isNil,Nat.reduceEqDiff,Nat.reduceAdd,Nat.reduceLT,Nat.reduceLeDiff,Int.reduceNeg,Int.reduceToNat,reduceCtorEq,t1,t2,t6,encI,ao,encS,eL,bk,List.getElem?_map,hrow,hcell,hcr,hc0]
        rw[hA]; rfl
  · simp (disch:=omega) only [↓wr,↓reduceIte,wq,ai,ah,ak,ae,af,ag,aj,isNil,Nat.reduceEqDiff,Nat.reduceAdd,Nat.reduceLT,Nat.reduceLeDiff,Int.reduceNeg,Int.reduceToNat,reduceCtorEq]
    exact (bad (by rw[hr]; simp)).symm
end Gv
set_option linter.unusedSimpArgs false
set_option maxRecDepth 100000
namespace Gv
open Go Go.Proofs
def vZ (g:av) (w:List Int):Bool:=w.all fun x=>decide (0≤x) && decide (x < g.aC.length)
def dw (g:av) (w:List Int):Bool:=aR g && decide (w.length≤60) && vZ g w
theorem fW (g:av) (w:List Int):∀ v∈[V.agg (ao g),encI w],Tree v:=by
  intro v hv; simp at hv
  rcases hv with rfl | rfl
  · exact bV _ (bK g)
  · exact cz w
def kf:SC :=
  .seq (.seq (al [aa 14 5,aa 15 1,aL 16 15,bb 17 .lss 14 16]) <|
  .cond (.tmp 17) (.skip) (.exit 0)) <|
  .seq (.block 1 (.seq (.region false [⟨none,[aa 20 1,aa 21 5,aN 22 1 20 21,an 23 22,ay 24 .lss 23 0,aa 25 24]⟩,⟨(some (25,false)),[aa 26 1,aa 27 5,aN 28 1 26 27,an 29 28,ar 30 0 2,an 31 30,aL 32 31,bb 33 .geq 29 32]⟩,⟨none,[bt 34 25 33]⟩]) <|
  .cond (.tmp 34) (.seq (al [aU 4 false]) <|
  .ret) (.skip))) <|
  al [aa 18 5,ay 19 .add 18 1,aa 5 19]
def mL:SF:=⟨.seq (al [cE 2 0,aU 4 false]) <|
  .seq (.seq (.region false [⟨none,[aM 6 4 2,aG 7 41 [6],bL 8 7,aa 9 8]⟩,⟨(some (9,false)),[aa 10 1,aL 11 10,ay 12 .gtr 11 60]⟩,⟨none,[bt 13 9 12]⟩]) <|
  .cond (.tmp 13) (.seq (al [aU 4 false]) <|
  .ret) (.skip)) <|
  .seq (.seq (al [aH 5 0]) <|
  .block 0 (.loop kf)) <|
  .seq (al [aU 4 true]) <|
  .ret,
  [.tmp 4],35⟩
theorem qE:aX Tryz.prog 37 [2]=some mL:=by kernel_rfl
def nB:SF:=⟨.seq (al [cE 2 0,aU 4 false,aH 5 0]) <|
  .seq (.seq (al [aM 6 4 2,aa 7 1,aG 8 37 [6,7],bL 9 8]) <|
  .cond (.tmp 9) (.seq (al [aU 4 false,aH 5 1]) <|
  .ret) (.skip)) <|
  .seq (al [aM 10 4 2,aa 11 1,aG 12 18 [10,11],bQ 13 0 12,bQ 14 1 12,aa 4 13,aa 5 14]) <|
  .ret,
  [.tmp 4,.tmp 5],15⟩
theorem r7:aX Tryz.prog 16 [2]=some nB:=by kernel_rfl
def q7:SF:=⟨.seq (al [aU 3 false]) <|
  .seq (.region false [⟨none,[aa 4 0,ay 5 .lss 4 0,aa 6 5]⟩,⟨(some (6,false)),[aa 7 0,ar 8 0 1,an 9 8,aL 10 9,bb 11 .geq 7 10]⟩,⟨none,[bt 12 6 11,aa 3 12]⟩]) <|
  .ret,
  [.tmp 3],13⟩
theorem uX:aX Tryz.prog 53 []=some q7:=by kernel_rfl
def tY:SF:=⟨.seq (al [cE 2 0,aU 4 false]) <|
  .seq (.seq (.region false [⟨none,[aM 5 4 2,aG 6 38 [5],bL 7 6,aa 8 7]⟩,⟨(some (8,false)),[aa 9 1,aL 10 9,ay 11 .gtr 10 60]⟩,⟨none,[bt 12 8 11]⟩]) <|
  .cond (.tmp 12) (.seq (al [aU 4 false]) <|
  .ret) (.skip)) <|
  .seq (al [aa 13 1,((some 14),.op (.oL 53 [] [(.tmp 2)])),aG 15 39 [13,14],bL 16 15,aa 4 16]) <|
  .ret,
  [.tmp 4],17⟩
theorem wh:aX Tryz.prog 34 [2]=some tY:=by kernel_rfl
def pE:SF:=⟨.seq (al [aU 3 false]) <|
  .seq (.region false [⟨none,[aa 4 0,ay 5 .lss 4 (-1),aa 6 5]⟩,⟨(some (6,false)),[aa 7 0,ar 8 0 1,an 9 8,aL 10 9,bb 11 .geq 7 10]⟩,⟨none,[bt 12 6 11,aa 3 12]⟩]) <|
  .ret,
  [.tmp 3],13⟩
theorem te:aX Tryz.prog 40 []=some pE:=by kernel_rfl
set_option maxHeartbeats 2000000 in
theorem yJ (g:av) (hg:g.Ok) (p:List Int) (hp:aP p) (hn:∀ x∈p,bF x):aE Tryz.prog 37 [.agg (ao g),encI p] (gb (dw g p)):=by
  refine aE.val (fW g p) fun H=>?_
  refine aD.of mixed qE ?_
  unfold aP at hp
  have hgt:=hg.aC
  unfold aP at hgt
  simp (disch:=omega) only [↓wr,↓reduceIte,wq,ai,ah,ak,ae,af,ag,aj,isNil,Nat.reduceEqDiff,Nat.reduceAdd,Nat.reduceLT,Nat.reduceLeDiff,Int.reduceNeg,Int.reduceToNat,reduceCtorEq,mL,ao,encS,encI]
  refine az.pure (kM g hg) (by kernel_rfl) ?_
  simp (disch:=omega) only [↓wr,↓reduceIte,wq,ai,ah,ak,ae,af,ag,aj,isNil,Nat.reduceEqDiff,Nat.reduceAdd,Nat.reduceLT,Nat.reduceLeDiff,Int.reduceNeg,Int.reduceToNat,reduceCtorEq]
  refine aq.split (fun hr=>?_) (fun hr=>?_)
  · simp (disch:=omega) only [↓wr,↓reduceIte,wq,ai,ah,ak,ae,af,ag,aj,isNil,Nat.reduceEqDiff,Nat.reduceAdd,Nat.reduceLT,Nat.reduceLeDiff,Int.reduceNeg,Int.reduceToNat,reduceCtorEq,encI]
    refine aq.dec (fun h6=>?_) (fun h6=>?_)
    · simp (disch:=omega) only [↓wr,↓reduceIte,wq,ai,ah,ak,ae,af,ag,aj,isNil,Nat.reduceEqDiff,Nat.reduceAdd,Nat.reduceLT,Nat.reduceLeDiff,Int.reduceNeg,Int.reduceToNat,reduceCtorEq]
      rw[dw,decide_eq_false (show ¬ p.length≤60 by omega)]; simp
    · simp (disch:=omega) only [↓wr,↓reduceIte,wq,ai,ah,ak,ae,af,ag,aj,isNil,Nat.reduceEqDiff,Nat.reduceAdd,Nat.reduceLT,Nat.reduceLeDiff,Int.reduceNeg,Int.reduceToNat,reduceCtorEq,encI]
      refine bo.up p.length (fun i T' H'=>vZ g (p.take i)=true∧T' 1=encI p∧T' 2=.aK (ao g) 0∧T' 5=gi i) ⟨rfl,rfl,rfl,rfl⟩ ?_
      rintro i k T' H' hk ⟨hpt,t1,t2,t6⟩
      simp (disch:=omega) only [↓wr,↓reduceIte,wq,ai,ah,ak,ae,af,ag,aj,isNil,Nat.reduceEqDiff,Nat.reduceAdd,Nat.reduceLT,Nat.reduceLeDiff,Int.reduceNeg,Int.reduceToNat,reduceCtorEq,kf,t1,t2,t6,encI]
      refine aq.dec (fun hc=>?_) (fun hc=>?_)
      · have hg1:p[i]?=some (p[i]'(by omega)):=List.getElem?_eq_getElem (by omega)
        have hmem:p[i]'(by omega)∈p:=List.getElem_mem _
        have htk:p.take (i+1)=p.take i ++ [p[i]'(by omega)]:=by rw[List.take_add_one,hg1]; rfl
        generalize p[i]'(by omega)=x at hg1 hmem htk
        have hpn:vZ g (p.take (i+1))=(decide (0≤x) && decide (x < g.aC.length)):=by
          unfold vZ at hpt ⊢
          rw[htk,List.all_append,hpt]; simp
        have hbx:(decide (0≤x) && decide (x < g.aC.length))=false→dw g p=false:=fun e=>by
          have:vZ g p=false:=by
            unfold vZ
            rw[List.all_eq_false]
            exact ⟨x,hmem,by rw[e]; simp⟩
          rw[dw,this,Bool.and_false]
        simp (disch:=omega) only [↓wr,↓reduceIte,wq,ai,ah,ak,ae,af,ag,aj,isNil,Nat.reduceEqDiff,Nat.reduceAdd,Nat.reduceLT,Nat.reduceLeDiff,Int.reduceNeg,Int.reduceToNat,reduceCtorEq,t1,t2,t6,encI,ao,encS,List.getElem?_map,hg1]
        refine aq.dec (fun h1=>?_) (fun h1=>?_)
        · simp (disch:=omega) only [↓wr,↓reduceIte,wq,ai,ah,ak,ae,af,ag,aj,isNil,Nat.reduceEqDiff,Nat.reduceAdd,Nat.reduceLT,Nat.reduceLeDiff,Int.reduceNeg,Int.reduceToNat,reduceCtorEq,t1,t2,t6]
          rw[hbx (by rw[decide_eq_false (by omega)]; rfl)]
        · simp (disch:=omega) only [↓wr,↓reduceIte,wq,ai,ah,ak,ae,af,ag,aj,isNil,Nat.reduceEqDiff,Nat.reduceAdd,Nat.reduceLT,Nat.reduceLeDiff,Int.reduceNeg,Int.reduceToNat,reduceCtorEq,t1,t2,t6,encI,ao,encS,List.getElem?_map,hg1]
          refine aq.dec (fun h2=>?_) (fun h2=>?_)
          · simp (disch:=omega) only [↓wr,↓reduceIte,wq,ai,ah,ak,ae,af,ag,aj,isNil,Nat.reduceEqDiff,Nat.reduceAdd,Nat.reduceLT,Nat.reduceLeDiff,Int.reduceNeg,Int.reduceToNat,reduceCtorEq,t1,t2,t6]
            rw[hbx (by rw[decide_eq_false (show ¬ x < (g.aC.length:Int) by omega),Bool.and_false])]
          · simp (disch:=omega) only [↓wr,↓reduceIte,wq,ai,ah,ak,ae,af,ag,aj,isNil,Nat.reduceEqDiff,Nat.reduceAdd,Nat.reduceLT,Nat.reduceLeDiff,Int.reduceNeg,Int.reduceToNat,reduceCtorEq,t1,t2,t6]
            exact aV hk (by omega) ⟨by rw[hpn,decide_eq_true (by omega),decide_eq_true (by omega)]; rfl,t1,t2,rfl⟩
      · rw[List.take_of_length_le (by omega)] at hpt
        simp (disch:=omega) only [↓wr,↓reduceIte,wq,ai,ah,ak,ae,af,ag,aj,isNil,Nat.reduceEqDiff,Nat.reduceAdd,Nat.reduceLT,Nat.reduceLeDiff,Int.reduceNeg,Int.reduceToNat,reduceCtorEq,t1,t2,t6]
        rw[dw,hr,hpt,decide_eq_true (by omega)]; rfl
  · simp (disch:=omega) only [↓wr,↓reduceIte,wq,ai,ah,ak,ae,af,ag,aj,isNil,Nat.reduceEqDiff,Nat.reduceAdd,Nat.reduceLT,Nat.reduceLeDiff,Int.reduceNeg,Int.reduceToNat,reduceCtorEq]
    rw[dw,hr]; rfl
noncomputable def fc (g:av) (w:List Int):Bool × Int:=if dw g w=true then (fN g w,0) else (false,1)
theorem G8 {g:av} {w:List Int} (h:dw g w=true):dy g w=(fN g w,0):=by
  unfold dw at h
  simp only[Bool.and_eq_true,decide_eq_true_eq] at h
  refine if_pos ?_
  rw[h.1.1,decide_eq_true h.1.2]
  simp only[Bool.true_and,jK,List.all_eq_true,Bool.and_eq_true,decide_eq_true_eq]
  intro x hx
  have:=List.all_eq_true.1 h.2 x hx
  simp only[Bool.and_eq_true,decide_eq_true_eq] at this
  omega
theorem GM (g:av) (hg:g.Ok) (w:List Int) (hw:aP w) (hn:∀ x∈w,bF x):aE Tryz.prog 16 [.agg (ao g),encI w] (dn (fc g w)):=by
  refine aE.tree (fW g w) (jQ _) fun H=>?_
  refine aD.of mixed r7 ?_
  simp (disch:=omega) only [↓wr,↓reduceIte,wq,ai,ah,ak,ae,af,ag,aj,isNil,Nat.reduceEqDiff,Nat.reduceAdd,Nat.reduceLT,Nat.reduceLeDiff,Int.reduceNeg,Int.reduceToNat,reduceCtorEq,nB,ao,encS]
  have h1:=yJ g hg w hw hn
  have h2:=yP g hg w hw hn
  simp only[ao,encS] at h1 h2
  refine az.pure h1 (by kernel_rfl) ?_
  simp (disch:=omega) only [↓wr,↓reduceIte,wq,ai,ah,ak,ae,af,ag,aj,isNil,Nat.reduceEqDiff,Nat.reduceAdd,Nat.reduceLT,Nat.reduceLeDiff,Int.reduceNeg,Int.reduceToNat,reduceCtorEq]
  refine aq.split (fun hb=>?_) (fun hb=>?_)
  · simp (disch:=omega) only [↓wr,↓reduceIte,wq,ai,ah,ak,ae,af,ag,aj,isNil,Nat.reduceEqDiff,Nat.reduceAdd,Nat.reduceLT,Nat.reduceLeDiff,Int.reduceNeg,Int.reduceToNat,reduceCtorEq]
    refine az.pure h2 (by kernel_rfl) ?_
    rw[G8 hb]
    simp (disch:=omega) only [↓wr,↓reduceIte,wq,ai,ah,ak,ae,af,ag,aj,isNil,Nat.reduceEqDiff,Nat.reduceAdd,Nat.reduceLT,Nat.reduceLeDiff,Int.reduceNeg,Int.reduceToNat,reduceCtorEq,dn]
    rw[fc,if_pos hb]
  · simp (disch:=omega) only [↓wr,↓reduceIte,wq,ai,ah,ak,ae,af,ag,aj,isNil,Nat.reduceEqDiff,Nat.reduceAdd,Nat.reduceLT,Nat.reduceLeDiff,Int.reduceNeg,Int.reduceToNat,reduceCtorEq]
    rw[fc,if_neg (by rw[hb]; simp)]; rfl
theorem EO (g:av) (hg:g.Ok) (x:Int) (hx:bF x):aE Tryz.prog 53 [gi x,.aK (ao g) 0] (gb (!(decide (0≤x) && decide (x < g.aC.length)))):=by
  have hgt:=hg.aC
  unfold aP at hgt
  refine aE.val (by
    intro v hv; simp at hv
    rcases hv with rfl | rfl
    · exact .val _
    · exact en (bK g)) fun H=>?_
  refine aD.of mixed uX ?_
  simp (disch:=omega) only [↓wr,↓reduceIte,wq,ai,ah,ak,ae,af,ag,aj,isNil,Nat.reduceEqDiff,Nat.reduceAdd,Nat.reduceLT,Nat.reduceLeDiff,Int.reduceNeg,Int.reduceToNat,reduceCtorEq,q7,ao,encS]
  refine aq.dec (fun h1=>?_) (fun h1=>?_)
  · simp (disch:=omega) only [↓wr,↓reduceIte,wq,ai,ah,ak,ae,af,ag,aj,isNil,Nat.reduceEqDiff,Nat.reduceAdd,Nat.reduceLT,Nat.reduceLeDiff,Int.reduceNeg,Int.reduceToNat,reduceCtorEq]
    rw[decide_eq_false (show ¬ 0≤x by omega)]; rfl
  · simp (disch:=omega) only [↓wr,↓reduceIte,wq,ai,ah,ak,ae,af,ag,aj,isNil,Nat.reduceEqDiff,Nat.reduceAdd,Nat.reduceLT,Nat.reduceLeDiff,Int.reduceNeg,Int.reduceToNat,reduceCtorEq,ao,encS]
    rw[decide_eq_true (show 0≤x by omega)]
    rw[Bool.true_and,← decide_not]; congr 2; exact decide_eq_decide.2 ⟨fun h=>Int.not_lt.2 h,fun h=>Int.not_lt.1 h⟩
theorem Gn (g:av) (hg:g.Ok) (x:Int) (hx:bF x):aE Tryz.prog 40 [gi x,.aK (ao g) 0] (gb (!(decide (-1≤x) && decide (x < g.aC.length)))):=by
  have hgt:=hg.aC
  unfold aP at hgt
  refine aE.val (by
    intro v hv; simp at hv
    rcases hv with rfl | rfl
    · exact .val _
    · exact en (bK g)) fun H=>?_
  refine aD.of mixed te ?_
  simp (disch:=omega) only [↓wr,↓reduceIte,wq,ai,ah,ak,ae,af,ag,aj,isNil,Nat.reduceEqDiff,Nat.reduceAdd,Nat.reduceLT,Nat.reduceLeDiff,Int.reduceNeg,Int.reduceToNat,reduceCtorEq,pE,ao,encS]
  refine aq.dec (fun h1=>?_) (fun h1=>?_)
  · simp (disch:=omega) only [↓wr,↓reduceIte,wq,ai,ah,ak,ae,af,ag,aj,isNil,Nat.reduceEqDiff,Nat.reduceAdd,Nat.reduceLT,Nat.reduceLeDiff,Int.reduceNeg,Int.reduceToNat,reduceCtorEq]
    rw[decide_eq_false (show ¬ -1≤x by omega)]; rfl
  · simp (disch:=omega) only [↓wr,↓reduceIte,wq,ai,ah,ak,ae,af,ag,aj,isNil,Nat.reduceEqDiff,Nat.reduceAdd,Nat.reduceLT,Nat.reduceLeDiff,Int.reduceNeg,Int.reduceToNat,reduceCtorEq,ao,encS]
    rw[decide_eq_true (show -1≤x by omega)]
    rw[Bool.true_and,← decide_not]; congr 2; exact decide_eq_decide.2 ⟨fun h=>Int.not_lt.2 h,fun h=>Int.not_lt.1 h⟩
set_option maxHeartbeats 2000000 in
theorem A1 (g:av) (hg:g.Ok) (hs:g.Small) (w:List Int) (hw:aP w) (hn:∀ x∈w,bF x):aE Tryz.prog 34 [.agg (ao g),encI w] (gb (dw g w)):=by
  refine aE.val (fW g w) fun H=>?_
  have hcf:=ff w hw 53 [.aK (ao g) 0] (by intro v hv; simp at hv; subst hv; exact en (bK g)) (fun x=>!(decide (0≤x) && decide (x < g.aC.length))) (fun x hx=>EO g hg x (hn x hx)) (by kernel_rfl)
  refine aD.of mixed wh ?_
  unfold aP at hw
  simp (disch:=omega) only [↓wr,↓reduceIte,wq,ai,ah,ak,ae,af,ag,aj,isNil,Nat.reduceEqDiff,Nat.reduceAdd,Nat.reduceLT,Nat.reduceLeDiff,Int.reduceNeg,Int.reduceToNat,reduceCtorEq,tY,ao,encS]
  refine az.pure (jV g hg hs.names) (by kernel_rfl) ?_
  simp only[ao,encS] at hcf
  simp (disch:=omega) only [↓wr,↓reduceIte,wq,ai,ah,ak,ae,af,ag,aj,isNil,Nat.reduceEqDiff,Nat.reduceAdd,Nat.reduceLT,Nat.reduceLeDiff,Int.reduceNeg,Int.reduceToNat,reduceCtorEq]
  refine aq.split (fun hr=>?_) (fun hr=>?_)
  · simp (disch:=omega) only [↓wr,↓reduceIte,wq,ai,ah,ak,ae,af,ag,aj,isNil,Nat.reduceEqDiff,Nat.reduceAdd,Nat.reduceLT,Nat.reduceLeDiff,Int.reduceNeg,Int.reduceToNat,reduceCtorEq,encI]
    refine aq.dec (fun h6=>?_) (fun h6=>?_)
    · simp (disch:=omega) only [↓wr,↓reduceIte,wq,ai,ah,ak,ae,af,ag,aj,isNil,Nat.reduceEqDiff,Nat.reduceAdd,Nat.reduceLT,Nat.reduceLeDiff,Int.reduceNeg,Int.reduceToNat,reduceCtorEq]
      rw[dw,decide_eq_false (show ¬ w.length≤60 by omega)]; simp
    · simp (disch:=omega) only [↓wr,↓reduceIte,wq,ai,ah,ak,ae,af,ag,aj,isNil,Nat.reduceEqDiff,Nat.reduceAdd,Nat.reduceLT,Nat.reduceLeDiff,Int.reduceNeg,Int.reduceToNat,reduceCtorEq]
      refine az.pure hcf (by kernel_rfl) ?_
      simp (disch:=omega) only [↓wr,↓reduceIte,wq,ai,ah,ak,ae,af,ag,aj,isNil,Nat.reduceEqDiff,Nat.reduceAdd,Nat.reduceLT,Nat.reduceLeDiff,Int.reduceNeg,Int.reduceToNat,reduceCtorEq]
      rw[dw,hr,decide_eq_true (show w.length≤60 by omega),← List.not_all_eq_any_not,Bool.not_not]; rfl
  · simp (disch:=omega) only [↓wr,↓reduceIte,wq,ai,ah,ak,ae,af,ag,aj,isNil,Nat.reduceEqDiff,Nat.reduceAdd,Nat.reduceLT,Nat.reduceLeDiff,Int.reduceNeg,Int.reduceToNat,reduceCtorEq]
    rw[dw,hr]; rfl
end Gv
set_option linter.unusedSimpArgs false
namespace Gv
open Go
def cr {κ:Type} (kv:κ→V) (m:cw κ):List (V × V × Nat):=m.map fun x=>(kv x.1,x.2.1,x.2.2)
structure A8 {κ:Type} [BEq κ] (P:Program) (kt:TypeId) (kv:κ→V):Prop where
  find:∀ k e m,jw P kt (kv k) e (cr kv m)=some (eo k m)
  same:∀ k,sameKey (kv k) (kv k)=true
def gO {κ:Type} (m:cw κ) (c:Nat):Prop:=(m.map (·.2.2)).Nodup∧∀ x∈m,x.2.2 < c
def gf {κ:Type} [BEq κ] (m:cw κ) (k:κ):Option Nat:=(m.find? fun x=>k == x.1).map (·.2.2)
section
variable {κ:Type} [BEq κ] [LawfulBEq κ] {kv:κ→V}
theorem jL (k:κ):∀ m:cw κ,match eo k m with
    | some i=>∃ x,m[i]?=some x∧x.1=k∧getM m k=some x.2.1∧gf m k=some x.2.2∧(cr kv m)[i]?=some (kv k,x.2.1,x.2.2)∧∀ v c,(cr kv m).set i (kv k,v,x.2.2)=cr kv (bR k v c m)∧gf (bR k v c m) k=some x.2.2∧(bR k v c m).map (·.2.2)=m.map (·.2.2)
    | none=>getM m k=none∧gf m k=none∧∀ v c,cr kv m ++ [(kv k,v,c)]=cr kv (bR k v c m)∧gf (bR k v c m) k=some c∧(bR k v c m).map (·.2.2)=m.map (·.2.2) ++ [c]
  | []=>⟨rfl,rfl,fun v c=>⟨rfl,by simp[bR,gf],rfl⟩⟩
  | x :: r=>by
    have ih:=jL k r
    simp only[eo]
    cases hk:k == x.1 with
    | true =>
      have hx:x.1=k:=(eq_of_beq hk).symm
      exact ⟨x,rfl,hx,by simp[getM,hk],by simp[gf,hk],by simp[cr,hx],fun v c=>by simp[bR,hk,cr,gf]⟩
    | false =>
      simp only[Bool.false_eq_true,if_false]
      cases hi:eo k r with
      | some i =>
        rw[hi] at ih
        obtain ⟨y,h1,h2,h3,h4,h5,h6⟩:=ih
        refine ⟨y,by simpa using h1,h2,by simpa [getM,hk] using h3,by simpa [gf,hk] using h4,by simpa [cr] using h5,fun v c=>?_⟩
        obtain ⟨g1,g2,g3⟩:=h6 v c
        exact ⟨by simp only[cr] at g1 ⊢; simp[bR,hk,g1],by simpa [bR,hk,gf] using g2,by simp[bR,hk,g3]⟩
      | none =>
        rw[hi] at ih
        refine ⟨by simpa [getM,hk] using ih.1,by simpa [gf,hk] using ih.2.1,fun v c=>?_⟩
        obtain ⟨g1,g2,g3⟩:=ih.2.2 v c
        exact ⟨by simp only[cr] at g1 ⊢; simp[bR,hk,g1],by simpa [bR,hk,gf] using g2,by simp[bR,hk,g3]⟩
theorem gO.put {m:cw κ} {c:Nat} (h:gO m c) (k:κ) (v:V):gO (bR k v c m) (c+1):=by
  have hg:=jL (kv:=fun _=>V.any) k m
  cases hj:eo k m with
  | some j =>
    rw[hj] at hg
    obtain ⟨y,_,_,_,_,_,h6⟩:=hg
    have e:=(h6 v c).2.2
    refine ⟨by rw[e]; exact h.1,fun x hx=>?_⟩
    have:x.2.2∈m.map (·.2.2):=by rw[← e]; exact List.mem_map.2 ⟨x,hx,rfl⟩
    obtain ⟨y,hy,e2⟩:=List.mem_map.1 this
    have:=h.2 y hy
    omega
  | none =>
    rw[hj] at hg
    have e:=(hg.2.2 v c).2.2
    refine ⟨?_,fun x hx=>?_⟩
    · rw[e,List.nodup_append]
      refine ⟨h.1,by simp,fun a ha b hb=>?_⟩
      simp at hb; subst hb
      obtain ⟨y,hy,rfl⟩:=List.mem_map.1 ha
      have:=h.2 y hy
      omega
    · have:x.2.2∈m.map (·.2.2) ++ [c]:=by rw[← e]; exact List.mem_map.2 ⟨x,hx,rfl⟩
      rcases List.mem_append.1 this with h1 | h1
      · obtain ⟨y,hy,e2⟩:=List.mem_map.1 h1
        have:=h.2 y hy
        omega
      · simp at h1; omega
theorem gO.JB {m:cw κ} {c:Nat} (h:gO m c) {k:κ} {b:Nat} (hb:gf m k=some b) (v:V) (c':Nat):gO (bR k v c' m) c:=by
  have hg:=jL (kv:=fun _=>V.any) k m
  cases hj:eo k m with
  | some j =>
    rw[hj] at hg
    obtain ⟨y,_,_,_,_,_,h6⟩:=hg
    have e:=(h6 v c').2.2
    refine ⟨by rw[e]; exact h.1,fun x hx=>?_⟩
    have:x.2.2∈m.map (·.2.2):=by rw[← e]; exact List.mem_map.2 ⟨x,hx,rfl⟩
    obtain ⟨y,hy,e2⟩:=List.mem_map.1 this
    have:=h.2 y hy
    omega
  | none =>
    rw[hj] at hg
    rw[hg.2.1] at hb; simp at hb
omit [BEq κ] [LawfulBEq κ] in
theorem find_born (b:Nat):∀ (m:cw κ) (i:Nat) (x:κ × V × Nat),(m.map (·.2.2)).Nodup→m[i]?=some x→x.2.2=b→(cr kv m).findIdx? (fun e=>e.2.2 == b)=some i
  | [],i,x,_,h,_=>by simp at h
  | y :: m,0,x,hn,h,e=>by
    simp at h; subst h
    simp[cr,List.findIdx?_cons,e]
  | y :: m,i+1,x,hn,h,e=>by
    simp only[List.map_cons,List.nodup_cons] at hn
    have h:m[i]?=some x:=by simpa using h
    have hx:x∈m:=List.mem_of_getElem? h
    have hne:¬ y.2.2=b:=fun e2=>hn.1 (by rw[e2,← e]; exact List.mem_map.2 ⟨x,hx,rfl⟩)
    have ih:=find_born b m i x hn.2 h e
    simp only[cr] at ih
    simp[cr,List.findIdx?_cons,hne,ih]
variable {P:Program} {T:Env} {H:View} {kt et t ty:TypeId}
theorem HS {K:V→View→Prop} {w:cn (T,H,K)} {x i:Operand} {z:V} {id c:Nat} {m:cw κ} {k:κ} (hm:c4 P t=some (kt,et)) (hz:zeroV P et=some z) (hk:A8 P kt kv)
    (hx:ev T x=.mp id) (hi:ev T i=kv k) (hH:H id=.map (cr kv m) c) (h:K ((getM m k).getD z) H):nO P (.lookup t x i false) ty T H K w:=by
  intro n _
  have hf:=hk.find k (cr kv m).isEmpty m
  have hg:=jL (kv:=kv) k m
  refine ⟨(getM m k).getD z,.none,[id],?_,h⟩
  simp only[sI,bN,oper,dr,hm,hz,hx,hi,hH,hf]
  cases hj:eo k m with
  | some j =>
    rw[hj] at hg
    obtain ⟨y,h1,h2,h3,h4,h5,_⟩:=hg
    simp[h5,h3]
  | none =>
    rw[hj] at hg
    simp[hg.1]
theorem zq {z:V} {id c:Nat} {m:cw κ} {k:κ} (hm:c4 P t=some (kt,et)) (hz:zeroV P et=some z) (hk:A8 P kt kv) (hH:H id=.map (cr kv m) c) (hb:gO m c) :
    ∃ b c',cW P t (.mp id) (kv k) H=some (.bz [(getM m k).getD z,ak b],.dN id (.map (cr kv (bR k ((getM m k).getD z) c m)) c'),[id])∧gO (bR k ((getM m k).getD z) c m) c'∧gf (bR k ((getM m k).getD z) c m) k=some b:=by
  have hf:=hk.find k false m
  have hg:=jL (kv:=kv) k m
  cases hj:eo k m with
  | some j =>
    rw[hj] at hg hf
    obtain ⟨y,h1,h2,h3,h4,h5,h6⟩:=hg
    refine ⟨y.2.2,c,?_,?_,?_⟩
    · simp only[cW,hm,hH,hf,h5,hk.same k,if_true,h3,Option.getD_some]
      rw[(h6 y.2.1 c).1]
    · exact hb.JB h4 _ _
    · rw[h3]; exact (h6 _ c).2.1
  | none =>
    rw[hj] at hg hf
    refine ⟨c,c+1,?_,hb.put k _,?_⟩
    · simp only[cW,hm,hH,hf,hz,hg.1,Option.getD_none]
      rw[(hg.2.2 z c).1]
    · rw[hg.1]; exact (hg.2.2 _ c).2.1
theorem I3 {K:V→View→Prop} {w:cn (T,H,K)} {x i:Operand} {z:V} {id c:Nat} {m:cw κ} {k:κ} (hm:c4 P t=some (kt,et)) (hz:zeroV P et=some z) (hk:A8 P kt kv)
    (hx:ev T x=.mp id) (hi:ev T i=kv k) (hH:H id=.map (cr kv m) c) (hb:gO m c)
    (h:∀ b c',gO (bR k ((getM m k).getD z) c m) c'→gf (bR k ((getM m k).getD z) c m) k=some b→K (.bz [(getM m k).getD z,ak b]) (H.set id (.map (cr kv (bR k ((getM m k).getD z) c m)) c'))):nO P (.mapEntry t x i) ty T H K w:=by
  intro n _
  obtain ⟨b,c',h1,h2,h3⟩:=zq (k:=k) hm hz hk hH hb
  refine ⟨.bz [(getM m k).getD z,ak b],.dN id (.map (cr kv (bR k ((getM m k).getD z) c m)) c'),[id],?_,h b c' h2 h3⟩
  simp only[sI,bN,oper,hx,hi]
  exact h1
theorem Jw {K:V→View→Prop} {w:cn (T,H,K)} {x s y:Operand} {id c b:Nat} {m:cw κ} {k:κ} {v:V} (hx:ev T x=.mp id) (hs:ev T s=ak b) (hy:ev T y=v) (hH:H id=.map (cr kv m) c) (hb:gO m c) (hbk:gf m k=some b)
    (h:∀ c0,K .any (H.set id (.map (cr kv (bR k v c0 m)) c))):nO P (.entryStore t x s y) ty T H K w:=by
  intro n _
  have hg:=jL (kv:=kv) k m
  cases hj:eo k m with
  | none=>rw[hj] at hg; rw[hg.2.1] at hbk; simp at hbk
  | some j =>
    rw[hj] at hg
    obtain ⟨z,h1,h2,h3,h4,h5,h6⟩:=hg
    rw[hbk] at h4
    have e:z.2.2=b:=by simp at h4; exact h4.symm
    have hf:=find_born (kv:=kv) b m j z hb.1 h1 e
    refine ⟨.any,.dN id (.map (cr kv (bR k v c m)) c),[id],?_,h c⟩
    have hn:asNat (ak b)=some b:=by simp[asNat,ak]
    simp only[sI,bN,oper,hx,hs,hy,gB,hn,hH,hf,h5]
    rw[(h6 v c).1]
theorem J6 {z:V} {id c:Nat} {m:cw κ} {k:κ} (hm:c4 P t=some (kt,et)) (hz:zeroV P et=some z) (hk:A8 P kt kv) (hH:H id=.map (cr kv m) c) (hb:gO m c):AG P t (.mp id) (kv k) H:=by
  refine ⟨⟨_,_,hH⟩,fun v obj rd he=>?_⟩
  obtain ⟨b,c',h1,h2,h3⟩:=zq (k:=k) hm hz hk hH hb
  rw[he] at h1
  simp only[Option.some.injEq,Prod.mk.injEq,bd.dN.injEq] at h1
  obtain ⟨_,⟨_,rfl⟩,_⟩:=h1
  have key:∀ (m':cw κ) (c2:Nat) (H':View),H' id=.map (cr kv m') c2→dr P t (.mp id) (kv k) false H'=some ((getM m' k).getD z,.none,[id]):=by
    intro m' c2 H' hH'
    have hf:=hk.find k (cr kv m').isEmpty m'
    have hg:=jL (kv:=kv) k m'
    simp only[dr,hm,hz,hH',hf]
    cases hj:eo k m' with
    | some j =>
      rw[hj] at hg
      obtain ⟨y,h1,h2,h3,h4,h5,_⟩:=hg
      simp[h5,h3]
    | none =>
      rw[hj] at hg
      simp[hg.1]
  rw[key (bR k ((getM m k).getD z) c m) c' _ (by simp[View.set]),key m c H hH,oR]
  simp
end
def dx (x:Item):List V:=[ak x.bj,ak x.dot,ak x.cd]
def m8 (x:Item):V:=.agg (dx x)
def iJ (x:Item):Value:=.agg #[.int .i64 x.bj,.int .i64 x.dot,.int .i64 x.cd]
theorem vI (x:Item):cB (m8 x)=some (iJ x):=rfl
theorem wg:∀ m:cw Item,eK (cr m8 m)=some (m.map fun x=>{ key:=iJ x.1,val:=.nilFunc,born:=x.2.2 })
  | []=>rfl
  | x :: r=>by
    have:=wg r
    simp only[cr] at this
    simp[cr,eK,vI,this]
structure IY (P:Program) (kt:TypeId):Prop where
  ty:∃ f0 f1 f2:Field,P.underlying kt=some (.struct #[f0,f1,f2])∧f0.name≠ "_" ∧ f1.name≠ "_" ∧ f2.name≠ "_" ∧ P.underlying f0.type=some (.int .i64)∧P.underlying f1.type=some (.int .i64)∧P.underlying f2.type=some (.int .i64)∧f0.offset=0∧f1.offset=1∧f2.offset=2
  held:P.stoodInHeld kt=false
theorem s8 {P:Program} {α:Type} (x:α):bf P (pure x:Sem α)=some x:=rfl
theorem Js {P:Program} {kt:TypeId} (h:IY P kt):A8 P kt m8 where
  same:=fun k=>by simp[sameKey,vI,iJ,Instr.sameBits]
  find:=by
    obtain ⟨f0,f1,f2,hu,n0,n1,n2,u0,u1,u2,o0,o1,o2⟩:=h.ty
    have heq:∀ a b:Item,bf P (Op.equal kt (iJ a) (iJ b))=some (a == b):=by
      intro a b
      have hf:fZ P 9998 #[.int .i64 (a.bj:Int),.int .i64 (a.dot:Int),.int .i64 (a.cd:Int)] #[.int .i64 (b.bj:Int),.int .i64 (b.dot:Int),.int .i64 (b.cd:Int)] [f0,f1,f2] (((a.bj:Int) == b.bj) && (((a.dot:Int) == b.dot) && (((a.cd:Int) == b.cd) && true))) :=
        .int f0 _ _ .i64 _ _ n0 u0 (by rw[o0]; rfl) (by rw[o0]; rfl) (.int f1 _ _ .i64 _ _ n1 u1 (by rw[o1]; rfl) (by rw[o1]; rfl) (.int f2 _ _ .i64 _ _ n2 u2 (by rw[o2]; rfl) (by rw[o2]; rfl) .nil))
      rw[iJ,iJ,vF hu h.held hf]
      congr 1
      rw[Bool.eq_iff_iff]
      simp only[Bool.and_eq_true,beq_iff_eq,Int.natCast_inj,and_true]
      cases a; cases b; simp
    have hask:∀ (k:Item) (m:cw Item) (i:Nat),bf P (Instr.findAsking kt (iJ k) (m.map fun x=>{ key:=iJ x.1,val:=.nilFunc,born:=x.2.2 }) i)=some ((eo k m).map fun j=>(i+j,.nilFunc)):=by
      intro k m
      induction m with
      | nil=>intro i; rfl
      | cons x r ih =>
        intro i
        simp only[List.map_cons,Instr.findAsking,ba,heq,Option.bind_some,eo]
        cases hk:k == x.1 with
        | true=>simp[s8]
        | false =>
          simp only[Bool.false_eq_true,if_false,ih (i+1),Option.map_map]
          congr 2
          funext j
          simp only[Function.comp]
          congr 1
          omega
    have hint:∀ (e:Bool) (ft:TypeId) (v:Value),P.underlying ft=some (.int .i64)→bf P (Instr.checkKey e 9999 ft v)=some ():=fun e ft v hft=>xH hft trivial e 9998 v
    have hchk:∀ (k:Item) (e:Bool),bf P (Instr.checkKey e 10000 kt (iJ k))=some ():=by
      intro k e
      unfold Instr.checkKey iJ
      rw[ba,cL hu,Option.bind_some]
      have p0:=e9 (P:=P) u0 (.inr ⟨_,rfl⟩) #[.int .i64 (k.bj:Int),.int .i64 (k.dot:Int),.int .i64 (k.cd:Int)] f0.offset (v:=.int .i64 k.bj) (by rw[o0]; rfl)
      have p1:=e9 (P:=P) u1 (.inr ⟨_,rfl⟩) #[.int .i64 (k.bj:Int),.int .i64 (k.dot:Int),.int .i64 (k.cd:Int)] f1.offset (v:=.int .i64 k.dot) (by rw[o1]; rfl)
      have p2:=e9 (P:=P) u2 (.inr ⟨_,rfl⟩) #[.int .i64 (k.bj:Int),.int .i64 (k.dot:Int),.int .i64 (k.cd:Int)] f2.offset (v:=.int .i64 k.cd) (by rw[o2]; rfl)
      simp only[← Array.forIn_toList,List.forIn_cons,List.forIn_nil,if_pos n0,if_pos n1,if_pos n2,ba,p0,p1,p2,hint e _ _ u0,hint e _ _ u1,hint e _ _ u2,Option.bind_some,s8]
    intro k e m
    have hu':bf P (underlying kt)=some _:=cL hu
    simp only[jw,vI,wg,ba,hchk,Option.bind_some]
    have:bf P (Instr.findKey kt (iJ k) (m.map fun x=>{ key:=iJ x.1,val:=.nilFunc,born:=x.2.2 }))=some ((eo k m).map fun j=>(0+j,.nilFunc)):=by
      unfold Instr.findKey
      rw[ba,hu',Option.bind_some]
      cases m with
      | nil=>rfl
      | cons x r=>exact hask k (x :: r) 0
    rw[this]
    cases eo k m with
    | none=>rfl
    | some j=>simp
end Gv
set_option linter.unusedSimpArgs false
set_option maxRecDepth 100000
namespace Gv
open Go Go.Proofs
def Gr (m:cw Item) (s:List Item) (B:Nat):Prop:=∀ x,(x∈s→∃ k:Nat,getM m x=some (ak k)∧1≤k∧k≤B)∧(x ∉ s→getM m x=none)
structure je (H:View) (c sid mid:Nat) (sv:Nat→V) (mi:Nat→Nat) (mm:Nat→cw Item) (cl:Nat→Nat) (g:av) (p:List Int) (nu:V) (S S1:Nat→List Item) (B n:Nat) (K:List (Nat × bE)):Prop where
  box:H c=.arr 8 [[.bc (g.aC.map ch),encS g.au,.bc (g.rules.map aJ),gi g.start,encI p,nu,.sl sid 0 n 1,.sl mid 0 n 1]]
  eX:H sid=.arr 1 ((List.range n).map fun j=>[sv j])
  seen:H mid=.arr 1 ((List.range n).map fun j=>[.mp (mi j)])
  set:∀ j,j < n→bp H (sv j) 3 ((S j).map dx)
  map:∀ j,j < n→H (mi j)=.map (cr m8 (mm j)) (cl j)∧gO (mm j) (cl j)∧Gr (mm j) (S1 j) B
  ne:sid≠mid
  tG:∀ i j o,i < n→j < n→owner (sv i)=some o→owner (sv j)=some o→i=j
  xL:∀ i j,i < n→j < n→mi i=mi j→i=j
  off:∀ q∈K,H q.1=q.2∧q.2≠.dead∧q.1≠sid∧(∀ j,j < n→q.1≠mi j)∧∀ j,j < n→owner (sv j)≠some q.1
def Ch (H:View) (c:Nat) (g:av) (p:List Int) (nu:V) (S:Nat→List Item) (B n:Nat) (K:List (Nat × bE)):Prop:=∃ sid mid sv mi mm cl,je H c sid mid sv mi mm cl g p nu S S B n K
def fO (S:Nat→List Item) (a:Nat) (x:Item):Nat→List Item:=fun b=>if b=a then (if x∈S a then S a else S a ++ [x]) else S b
theorem Ch.more {H:View} {c:Nat} {g:av} {p:List Int} {nu:V} {S:Nat→List Item} {B B' n:Nat} {K:List (Nat × bE)} (h:Ch H c g p nu S B n K) (hB:B≤B'):Ch H c g p nu S B' n K:=by
  obtain ⟨sid,mid,sv,mi,mm,cl,h⟩:=h
  refine ⟨sid,mid,sv,mi,mm,cl,h.box,h.eX,h.seen,h.set,fun j hj=>⟨(h.map j hj).1,(h.map j hj).2.1,fun x=>⟨fun hx=>?_,((h.map j hj).2.2 x).2⟩⟩,h.ne,h.tG,h.xL,h.off⟩
  obtain ⟨k,h1,h2,h3⟩:=((h.map j hj).2.2 x).1 hx
  exact ⟨k,h1,h2,by omega⟩
theorem Ch.drop {H:View} {c:Nat} {g:av} {p:List Int} {nu:V} {S:Nat→List Item} {B n:Nat} {q:Nat × bE} {K:List (Nat × bE)} (h:Ch H c g p nu S B n (q :: K)):Ch H c g p nu S B n K:=by
  obtain ⟨sid,mid,sv,mi,mm,cl,h⟩:=h
  exact ⟨sid,mid,sv,mi,mm,cl,h.box,h.eX,h.seen,h.set,h.map,h.ne,h.tG,h.xL,fun q hq=>h.off q (by simp[hq])⟩
theorem je.new {H:View} {c sid mid:Nat} {sv:Nat→V} {mi:Nat→Nat} {mm:Nat→cw Item} {cl:Nat→Nat} {g:av} {p:List Int} {nu:V} {S S1:Nat→List Item} {B n:Nat} {K:List (Nat × bE)} (h:je H c sid mid sv mi mm cl g p nu S S1 B n K)
    {b:Nat} {o:bE} (hb:H b=.dead) (ho:o≠.dead):je (H.set b o) c sid mid sv mi mm cl g p nu S S1 B n ((b,o) :: K):=by
  have keep:∀ id,H id≠.dead→(H.set b o) id=H id:=fun id hid=>by
    have e:id≠b:=by rintro rfl; exact hid hb
    simp[View.set,e]
  have live:∀ {id},H id≠.dead→b≠id:=fun hid e=>hid (e ▸ hb)
  refine ⟨?_,?_,?_,fun j hj=>?_,fun j hj=>?_,h.ne,h.tG,h.xL,fun q hq=>?_⟩
  · rw[keep _ (by rw[h.box]; simp)]; exact h.box
  · rw[keep _ (by rw[h.eX]; simp)]; exact h.eX
  · rw[keep _ (by rw[h.seen]; simp)]; exact h.seen
  · exact (h.set j hj).fresh hb
  · rw[keep _ (by rw[(h.map j hj).1]; simp)]; exact h.map j hj
  · rcases List.mem_cons.1 hq with rfl | hq
    · refine ⟨by simp[View.set],ho,live (by rw[h.eX]; simp),fun j hj=>live (by rw[(h.map j hj).1]; simp),fun j hj=>?_⟩
      have:=(h.set j hj).ne hb
      exact this
    · obtain ⟨h1,h2,h3⟩:=h.off q hq
      exact ⟨by rw[keep _ (by rw[h1]; exact h2)]; exact h1,h2,h3⟩
theorem Ch.new {H:View} {c:Nat} {g:av} {p:List Int} {nu:V} {S:Nat→List Item} {B n b:Nat} {o:bE} {K:List (Nat × bE)} (h:Ch H c g p nu S B n K) (hb:H b=.dead) (ho:o≠.dead):Ch (H.set b o) c g p nu S B n ((b,o) :: K):=by
  obtain ⟨sid,mid,sv,mi,mm,cl,h⟩:=h
  exact ⟨sid,mid,sv,mi,mm,cl,h.new hb ho⟩
theorem Ch.kept {H:View} {c:Nat} {g:av} {p:List Int} {nu:V} {S:Nat→List Item} {B n:Nat} {K:List (Nat × bE)} (h:Ch H c g p nu S B n K):∀ q∈K,H q.1=q.2:=by
  obtain ⟨sid,mid,sv,mi,mm,cl,h⟩:=h
  exact fun q hq=>(h.off q hq).1
def mH:SF:=⟨.seq (al [cE 5 2]) <|
  .seq (.uC (91,12,13) [] [⟨none,[aa 6 0,bA 7 6,ar 8 7 7,an 9 8,aa 10 1,aN 11 1 9 10,an 12 11,aM 13 3 5,((some 14),.op (.bm (.lookup 91 (.tmp 12) (.tmp 13) false) 3)),ay 15 .add 14 1,((some 16),.op (.bm (.mapEntry 91 (.tmp 12) (.tmp 13)) 0)),bQ 17 1 16,(none,.op (.bm (.entryStore 91 (.tmp 12) (.tmp 17) (.tmp 15)) 0))]⟩]) <|
  .seq (al [aa 18 0,bA 19 18,ar 20 7 19,an 21 20,aa 22 1,aN 23 1 21 22,an 24 23,aM 25 3 5,((some 26),.op (.bm (.lookup 91 (.tmp 24) (.tmp 25) false) 3)),ay 27 .eql 26 1]) <|
  .cond (.tmp 27) (.qp [(30,39)] [⟨none,[aa 28 0,bA 29 28,ar 30 6 29,an 31 30,aa 32 1,aa 33 0,bA 34 33,ar 35 6 34,an 36 35,aa 37 1,aN 38 1 36 37,an 39 38,aM 40 3 5,((some 41),.op (.bH 1 3 [(.val (.int .i64 0)),(.val (.int .i64 0)),(.val (.int .i64 0))] [(0,(.tmp 40))])),((some 42),.op (.app 3 24 (.tmp 39) (.tmp 41))),aN 43 1 31 32,(none,.op (.store 1 (.tmp 43) (.tmp 42)))]⟩]) (.skip),
  [],44⟩
theorem qZ:aX Tryz.prog 100 [5,100000]=some mH:=by kernel_rfl
theorem Hr:IY Tryz.prog 95 :=
  ⟨⟨⟨ "rule",3,0,false,"","gerund/oracle",0⟩,⟨ "dot",3,1,false,"","gerund/oracle",8⟩,⟨ "from",3,2,false,"","gerund/oracle",16⟩,by kernel_rfl,by decide,by decide,by decide,Tryz.underlying3,Tryz.underlying3,Tryz.underlying3,rfl,rfl,rfl⟩,by kernel_rfl⟩
theorem IP {m:cw Item} {s:List Item} {B c c0:Nat} {x:Item} (h:Gr m s B) (k:Nat) (hk:(x∈s∧getM m x=some (ak k))∨(x ∉ s∧k=0)) (hB:k≤B) (z:V):Gr (bR x (ak (k+1:Nat)) c0 (bR x z c m)) (if x∈s then s else s ++ [x]) (B+1):=by
  intro y
  rw[oR,oR]
  by_cases e:y=x
  · subst e
    refine ⟨fun _=>⟨k+1,by simp,by omega,by omega⟩,fun hn=>?_⟩
    exfalso
    by_cases hy:y∈s
    · rw[if_pos hy] at hn; exact hn hy
    · rw[if_neg hy] at hn; exact hn (by simp)
  · have e':(y == x)=false:=by simpa using e
    simp only[e',Bool.false_eq_true,if_false]
    have hmem:(y∈if x∈s then s else s ++ [x])↔y∈s:=by
      split
      · exact Iff.rfl
      · simp[e]
    rw[hmem]
    refine ⟨fun hy=>?_,(h y).2⟩
    obtain ⟨k',h1,h2,h3⟩:=(h y).1 hy
    exact ⟨k',h1,h2,by omega⟩
theorem je.wrote {H:View} {c sid mid:Nat} {sv:Nat→V} {mi:Nat→Nat} {mm:Nat→cw Item} {cl:Nat→Nat} {g:av} {p:List Int} {nu:V} {S S1:Nat→List Item} {B n:Nat} {K:List (Nat × bE)} (h:je H c sid mid sv mi mm cl g p nu S S1 B n K)
    {at0:Nat} (ha:at0 < n) {x:Item} {m':cw Item} {c':Nat} (hb:gO m' c') (hc:Gr m' (fO S1 at0 x at0) (B+1)) :
    je (H.set (mi at0) (.map (cr m8 m') c')) c sid mid sv mi (fun j=>if j=at0 then m' else mm j) (fun j=>if j=at0 then c' else cl j) g p nu S (fO S1 at0 x) (B+1) n K:=by
  obtain ⟨hm1,hm2,hm3⟩:=h.map at0 ha
  have keep:∀ id z es,H id=.arr z es→(H.set (mi at0) (.map (cr m8 m') c')) id=H id:=fun id z es hid=>by
    have e:id≠mi at0:=by rintro rfl; rw[hm1] at hid; simp at hid
    simp[View.set,e]
  refine ⟨?_,?_,?_,fun j hj=>?_,fun j hj=>?_,h.ne,h.tG,h.xL,fun q hq=>?_⟩
  · rw[keep _ _ _ h.box]; exact h.box
  · rw[keep _ _ _ h.eX]; exact h.eX
  · rw[keep _ _ _ h.seen]; exact h.seen
  · exact (h.set j hj).keep fun id hid=>keep _ _ _ ((h.set j hj).live hid).1
  · by_cases e:j=at0
    · subst e
      simp only[if_true]
      exact ⟨by simp[View.set],hb,hc⟩
    · have e2:mi j≠mi at0:=fun q=>e (h.xL j at0 hj ha q)
      simp only[if_neg e]
      obtain ⟨g1,g2,g3⟩:=h.map j hj
      refine ⟨by simp[View.set,e2,g1],g2,?_⟩
      simp only[fO,if_neg e]
      intro y
      refine ⟨fun hy=>?_,(g3 y).2⟩
      obtain ⟨k,h1,h2,h3⟩:=(g3 y).1 hy
      exact ⟨k,h1,h2,by omega⟩
  · obtain ⟨h1,h2,h3,h4,h5⟩:=h.off q hq
    exact ⟨by simp[View.set,h4 at0 ha,h1],h2,h3,h4,h5⟩
theorem je.IV {H H':View} {c sid mid:Nat} {sv:Nat→V} {mi:Nat→Nat} {mm:Nat→cw Item} {cl:Nat→Nat} {g:av} {p:List Int} {nu:V} {S S1:Nat→List Item} {B n:Nat} {K:List (Nat × bE)} (h:je H c sid mid sv mi mm cl g p nu S S1 B n K)
    {at0:Nat} (ha:at0 < n) {x:Item} (hx:¬ x∈S at0) {u':V} (ho:bp H' u' 3 ((S at0).map dx ++ [dx x])) (hl:Left H H' (sv at0) u') :
    je (H'.set sid (.arr 1 (((List.range n).map fun j=>[sv j]).set at0 [u']))) c sid mid (fun j=>if j=at0 then u' else sv j) mi mm cl g p nu (fO S at0 x) S1 B n K:=by
  have own:∀ {id},owner (sv at0)=some id→H id=.arr 3 ((S at0).map dx):=fun hid=>((h.set at0 ha).live hid).1
  have n1:owner (sv at0)≠some sid:=fun e=>by
    have:=own e
    rw[h.eX] at this; simp at this
  have keep:∀ id,H id≠.dead→owner (sv at0)≠some id→H' id=H id∧owner u'≠some id:=hl
  have ns:=keep sid (by rw[h.eX]; simp) n1
  have keep2:∀ id,H id≠.dead→owner (sv at0)≠some id→id≠sid→(H'.set sid (.arr 1 (((List.range n).map fun j=>[sv j]).set at0 [u']))) id=H id:=fun id h1 h2 h3=>by
    simp only[View.set,if_neg h3]; exact (keep id h1 h2).1
  have no3:∀ {id o},H id=o→o≠.arr 3 ((S at0).map dx)→owner (sv at0)≠some id:=fun h1 h2 e=>h2 (by rw[← h1]; exact own e)
  refine ⟨?_,?_,?_,fun j hj=>?_,fun j hj=>?_,h.ne,fun i j o hi hj h1 h2=>?_,h.xL,fun q hq=>?_⟩
  · rw[keep2 c (by rw[h.box]; simp) (no3 h.box (by simp)) (by rintro rfl; have:=h.box; rw[h.eX] at this; simp at this)]; exact h.box
  · simp only[View.set,if_true]
    congr 1
    rw[uP]
    apply List.map_congr_left
    intro j _
    split <;> rfl
  · rw[keep2 mid (by rw[h.seen]; simp) (no3 h.seen (by simp)) h.ne.symm]; exact h.seen
  · by_cases e:j=at0
    · subst e
      simp only[if_true,fO,if_neg hx,List.map_append,List.map_cons,List.map_nil]
      exact ho.other ns.2
    · simp only[if_neg e,fO]
      refine (h.set j hj).keep fun id hid=>?_
      have hlv:=((h.set j hj).live hid).1
      refine keep2 id (by rw[hlv]; simp) (fun e2=>e (h.tG j at0 id hj ha hid e2)) ?_
      rintro rfl; rw[h.eX] at hlv; simp at hlv
  · obtain ⟨g1,g2,g3⟩:=h.map j hj
    refine ⟨?_,g2,g3⟩
    rw[keep2 (mi j) (by rw[g1]; simp) (no3 g1 (by simp)) (by intro e; rw[e,h.eX] at g1; simp at g1)]; exact g1
  · by_cases e1:i=at0
    · by_cases e2:j=at0
      · omega
      · simp only[if_pos e1,if_neg e2] at h1 h2
        exfalso
        have hlv:=((h.set j hj).live h2).1
        exact (keep o (by rw[hlv]; simp) (fun e3=>e2 (h.tG j at0 o hj ha h2 e3))).2 h1
    · by_cases e2:j=at0
      · simp only[if_neg e1,if_pos e2] at h1 h2
        exfalso
        have hlv:=((h.set i hi).live h1).1
        exact (keep o (by rw[hlv]; simp) (fun e3=>e1 (h.tG i at0 o hi ha h1 e3))).2 h2
      · simp only[if_neg e1,if_neg e2] at h1 h2
        exact h.tG i j o hi hj h1 h2
  · obtain ⟨h1,h2,h3,h4,h5⟩:=h.off q hq
    refine ⟨?_,h2,h3,h4,fun j hj=>?_⟩
    · rw[keep2 q.1 (by rw[h1]; exact h2) (h5 at0 ha) h3]; exact h1
    · by_cases e:j=at0
      · simp only[if_pos e]; exact (keep q.1 (by rw[h1]; exact h2) (h5 at0 ha)).2
      · simp only[if_neg e]; exact h5 j hj
set_option maxHeartbeats 4000000 in
theorem wK (c:Nat) (g:av) (p:List Int) (nu:V) (S:Nat→List Item) (B n at0:Nat) (x:Item) (K:List (Nat × bE)) (H:View) (hC:Ch H c g p nu S B n K) (ha:at0 < n) (hn:n < 1000) (hB:B < 1000000000000) (hl:(S at0).length < 1000000)
    (hx:x.bj < 1000∧x.dot < 1000∧x.cd < 1000):aD Tryz.prog 100 [.ptr c 0 0,ak at0,.agg (dx x)] H fun _ H'=>Ch H' c g p nu (fO S at0 x) (B+1) n K:=by
  obtain ⟨sid,mid,sv,mi,mm,cl,h⟩:=hC
  obtain ⟨hm1,hm2,hm3⟩:=h.map at0 ha
  have hmt:c4 Tryz.prog 91=some (95,3):=by kernel_rfl
  have hz:zeroV Tryz.prog 3=some (gi 0):=by kernel_rfl
  have hkey:=Js Hr
  have hk0:∃ k:Nat,(getM (mm at0) x).getD (gi 0)=ak k∧k≤B∧((x∈S at0∧getM (mm at0) x=some (ak k)∧1≤k)∨(¬ x∈S at0∧k=0)):=by
    by_cases hxs:x∈S at0
    · obtain ⟨k,h1,h2,h3⟩:=(hm3 x).1 hxs
      exact ⟨k,by rw[h1]; rfl,h3,.inl ⟨hxs,h1,h2⟩⟩
    · exact ⟨0,by rw[(hm3 x).2 hxs]; rfl,by omega,.inr ⟨hxs,rfl⟩⟩
  obtain ⟨k,hk1,hk2,hk3⟩:=hk0
  refine aD.of mixed qZ ?_
  simp (disch:=omega) only [↓wr,↓reduceIte,wq,ai,ah,ak,ae,af,ag,aj,isNil,Nat.reduceEqDiff,Nat.reduceAdd,Nat.reduceLT,Nat.reduceLeDiff,Int.reduceNeg,Int.reduceToNat,reduceCtorEq,mH,h.box,h.seen,cY ha,dx]
  refine ⟨ha,by simp; omega,?_⟩
  refine HS (kv:=m8) (kt:=95) (et:=3) (z:=gi 0) hmt hz hkey (id:=mi at0) (c:=cl at0) (m:=mm at0) (k:=x) (by simp (disch:=omega) only [↓wr,↓reduceIte,wq,ai,ah,ak,ae,af,ag,aj,isNil,Nat.reduceEqDiff,Nat.reduceAdd,Nat.reduceLT,Nat.reduceLeDiff,Int.reduceNeg,Int.reduceToNat,reduceCtorEq]) (by simp (disch:=omega) only [↓wr,↓reduceIte,wq,ai,ah,ak,ae,af,ag,aj,isNil,Nat.reduceEqDiff,Nat.reduceAdd,Nat.reduceLT,Nat.reduceLeDiff,Int.reduceNeg,Int.reduceToNat,reduceCtorEq]; rfl) hm1 ?_
  rw[hk1]
  simp (disch:=omega) only [↓wr,↓reduceIte,wq,ai,ah,ak,ae,af,ag,aj,isNil,Nat.reduceEqDiff,Nat.reduceAdd,Nat.reduceLT,Nat.reduceLeDiff,Int.reduceNeg,Int.reduceToNat,reduceCtorEq]
  refine I3 (kv:=m8) (kt:=95) (et:=3) (z:=gi 0) hmt hz hkey (id:=mi at0) (c:=cl at0) (m:=mm at0) (k:=x) (by simp (disch:=omega) only [↓wr,↓reduceIte,wq,ai,ah,ak,ae,af,ag,aj,isNil,Nat.reduceEqDiff,Nat.reduceAdd,Nat.reduceLT,Nat.reduceLeDiff,Int.reduceNeg,Int.reduceToNat,reduceCtorEq]) (by simp (disch:=omega) only [↓wr,↓reduceIte,wq,ai,ah,ak,ae,af,ag,aj,isNil,Nat.reduceEqDiff,Nat.reduceAdd,Nat.reduceLT,Nat.reduceLeDiff,Int.reduceNeg,Int.reduceToNat,reduceCtorEq]; rfl) hm1 hm2 fun b c' hb hbk=>?_
  rw[hk1] at hb hbk ⊢
  simp (disch:=omega) only [↓wr,↓reduceIte,wq,ai,ah,ak,ae,af,ag,aj,isNil,Nat.reduceEqDiff,Nat.reduceAdd,Nat.reduceLT,Nat.reduceLeDiff,Int.reduceNeg,Int.reduceToNat,reduceCtorEq]
  have ek:V.val (.int .i64 ((k:Int)+1))=ak (k+1:Nat):=by simp[ak]
  refine Jw (kv:=m8) (id:=mi at0) (c:=c') (b:=b) (m:=bR x (ak k) (cl at0) (mm at0)) (k:=x) (v:=ak (k+1:Nat)) (by simp (disch:=omega) only [↓wr,↓reduceIte,wq,ai,ah,ak,ae,af,ag,aj,isNil,Nat.reduceEqDiff,Nat.reduceAdd,Nat.reduceLT,Nat.reduceLeDiff,Int.reduceNeg,Int.reduceToNat,reduceCtorEq]) (by simp (disch:=omega) only [↓wr,↓reduceIte,wq,ai,ah,ak,ae,af,ag,aj,isNil,Nat.reduceEqDiff,Nat.reduceAdd,Nat.reduceLT,Nat.reduceLeDiff,Int.reduceNeg,Int.reduceToNat,reduceCtorEq]) (by simp (disch:=omega) only [↓wr,↓reduceIte,wq,ai,ah,ak,ae,af,ag,aj,isNil,Nat.reduceEqDiff,Nat.reduceAdd,Nat.reduceLT,Nat.reduceLeDiff,Int.reduceNeg,Int.reduceToNat,reduceCtorEq]; exact ek) (by simp[View.set,ak]) hb hbk fun c0=>?_
  simp (disch:=omega) only [↓wr,↓reduceIte,wq,ai,ah,ak,ae,af,ag,aj,isNil,Nat.reduceEqDiff,Nat.reduceAdd,Nat.reduceLT,Nat.reduceLeDiff,Int.reduceNeg,Int.reduceToNat,reduceCtorEq]
  refine ⟨J6 (kv:=m8) hmt hz hkey hm1 hm2,?_⟩
  rw[set_set]
  have hcnt:Gr (bR x (ak (k+1:Nat)) c0 (bR x (ak k) (cl at0) (mm at0))) (fO S at0 x at0) (B+1):=by
    simp only[fO,if_true]
    exact IP hm3 k (hk3.elim (fun h=>.inl ⟨h.1,h.2.1⟩) .inr) hk2 _
  have h2:=h.wrote ha (hb.JB hbk (ak (k+1:Nat)) c0) hcnt
  have hget:getM (bR x (ak (k+1:Nat)) c0 (bR x (ak k) (cl at0) (mm at0))) x=some (ak (k+1:Nat)):=by rw[oR]; simp
  simp only[ak] at h2 hget ⊢
  generalize bR x (.val (.int .i64 ((k+1:Nat):Int))) c0 (bR x (.val (.int .i64 (k:Int))) (cl at0) (mm at0))=m2 at h2 hget ⊢
  generalize View.set H (mi at0) (.map (cr m8 m2) c')=H2 at h2 ⊢
  have ne1:c≠mi at0:=fun e=>by
    have:=h.box
    rw[e,hm1] at this; simp at this
  simp only[if_neg ne1,h.box]
  simp (disch:=omega) only [↓wr,↓reduceIte,wq,ai,ah,ak,ae,af,ag,aj,isNil,Nat.reduceEqDiff,Nat.reduceAdd,Nat.reduceLT,Nat.reduceLeDiff,Int.reduceNeg,Int.reduceToNat,reduceCtorEq,h2.box,h2.seen,cY ha]
  refine ⟨ha,by simp; omega,?_⟩
  have hm4:=(h2.map at0 ha).1
  simp only[if_true] at hm4
  refine HS (kv:=m8) (kt:=95) (et:=3) (z:=gi 0) hmt hz hkey (id:=mi at0) (c:=c') (m:=m2) (k:=x) (by simp (disch:=omega) only [↓wr,↓reduceIte,wq,ai,ah,ak,ae,af,ag,aj,isNil,Nat.reduceEqDiff,Nat.reduceAdd,Nat.reduceLT,Nat.reduceLeDiff,Int.reduceNeg,Int.reduceToNat,reduceCtorEq]) (by simp (disch:=omega) only [↓wr,↓reduceIte,wq,ai,ah,ak,ae,af,ag,aj,isNil,Nat.reduceEqDiff,Nat.reduceAdd,Nat.reduceLT,Nat.reduceLeDiff,Int.reduceNeg,Int.reduceToNat,reduceCtorEq]; rfl) hm4 ?_
  rw[hget]
  simp (disch:=omega) only [↓wr,↓reduceIte,wq,ai,ah,ak,ae,af,ag,aj,isNil,Nat.reduceEqDiff,Nat.reduceAdd,Nat.reduceLT,Nat.reduceLeDiff,Int.reduceNeg,Int.reduceToNat,reduceCtorEq,Option.getD_some]
  refine aq.eq (fun e=>?_) (fun e=>?_)
  · have hxs:¬ x∈S at0:=by
      rcases hk3 with h3 | h3
      · omega
      · exact h3.1
    simp (disch:=omega) only [↓wr,↓reduceIte,wq,ai,ah,ak,ae,af,ag,aj,isNil,Nat.reduceEqDiff,Nat.reduceAdd,Nat.reduceLT,Nat.reduceLeDiff,Int.reduceNeg,Int.reduceToNat,reduceCtorEq,h2.box,h2.eX,cY ha]
    refine ⟨ha,by simp; omega,fun b1 hb1=>?_⟩
    rw[de]
    have h3:=h2.new hb1 (o:=.arr 3 [dx x]) (by simp)
    simp only[dx,ak] at h3
    have hb3:=h3.off _ (List.mem_cons_self ..)
    generalize View.set H2 b1 _=H3 at h3 hb3 ⊢
    have ho:=h3.set at0 ha
    have hap:jZ (.ptr c 0 6) (sv at0):=by
      rcases ho with ⟨_,k,e⟩ | ⟨m,e,hm⟩
      · rw[e]; trivial
      · rw[e]
        show c≠m
        rintro rfl
        have:=h3.box
        rw[hm] at this; simp at this
    simp (disch:=omega) only [↓wr,↓reduceIte,wq,ai,ah,ak,ae,af,ag,aj,isNil,Nat.reduceEqDiff,Nat.reduceAdd,Nat.reduceLT,Nat.reduceLeDiff,Int.reduceNeg,Int.reduceToNat,reduceCtorEq]
    refine mY ho (by simp) (by simp[V.cells,aS]) (by simp[aI]; omega) (by simp[aI]; omega) fun u' H' ho' hl'=>?_
    have hns:owner (sv at0)≠some sid:=fun e=>by
      have:=(ho.live e).1
      rw[h3.eX] at this; simp at this
    have hs':=(hl' sid (by rw[h3.eX]; simp) hns).1
    rw[h3.eX] at hs'
    simp (disch:=omega) only [↓wr,↓reduceIte,wq,ai,ah,ak,ae,af,ag,aj,isNil,Nat.reduceEqDiff,Nat.reduceAdd,Nat.reduceLT,Nat.reduceLeDiff,Int.reduceNeg,Int.reduceToNat,reduceCtorEq,hs',ho'.cells,ho'.ld,cY ha]
    refine ⟨ha,by simp; omega,hap,?_⟩
    have h4:=h3.IV ha hxs (u':=u') ho' hl'
    exact Ch.drop ⟨_,_,_,_,_,_,h4⟩
  · have hxs:x∈S at0:=by
      rcases hk3 with h3 | h3
      · exact h3.1
      · omega
    simp (disch:=omega) only [↓wr,↓reduceIte,wq,ai,ah,ak,ae,af,ag,aj,isNil,Nat.reduceEqDiff,Nat.reduceAdd,Nat.reduceLT,Nat.reduceLeDiff,Int.reduceNeg,Int.reduceToNat,reduceCtorEq]
    have hS:fO S at0 x=S:=by
      funext b
      simp only[fO,if_pos hxs]
      split
      · rename_i e; rw[e]
      · rfl
    rw[hS] at h2 ⊢
    exact ⟨_,_,_,_,_,_,h2⟩
end Gv
set_option linter.unusedSimpArgs false
namespace Gv
open Go Go.Proofs
inductive xF (g:av) (p:List Int):Int→Nat→Prop
  | start:xF g p g.start 0
  | step (R:aT) (l1 l2:List Int) (n:Int) (f a:Nat):R∈g.rules→R.right=l1 ++ (-1 - n) :: l2→xF g p R.left f→Sp g p l1 f a→xF g p n a
def A7 (g:av) (p:List Int) (x:Item):Prop:=∃ R,g.rules[x.bj]?=some R∧xF g p R.left x.cd
inductive jm (g:av) (p:List Int):Int→Nat→Prop
  | full (R:aT) (l1 l2:List Int) (f:Nat):R∈g.rules→R.right=l1 ++ l2→Sp g p l1 f p.length→jm g p R.left f
  | deep (R:aT) (l1 l2:List Int) (s:Int) (f a:Nat):R∈g.rules→R.right=l1 ++ s :: l2→s < 0→Sp g p l1 f a→a < p.length→jm g p (-1 - s) a→jm g p R.left f
theorem xF.len {g:av} {p:List Int} {n:Int} {a:Nat} (h:xF g p n a):a≤p.length:=by
  induction h with
  | start=>omega
  | step _ _ _ _ _ _ _ _ _ hs ih=>exact hs.len ih
theorem Iw {g:av} (hl:∀ r∈g.rules,0≤r.left) (h0:0≤g.start) {p:List Int} {n:Int} {a:Nat} (h:xF g p n a):0≤n→jm g p n a→jm g p g.start 0:=by
  induction h with
  | start=>exact fun _ h=>h
  | step R l1 l2 n f a hR he ht hs ih =>
    intro hn hp
    refine ih (hl R hR) ?_
    by_cases ha:a < p.length
    · exact .deep R l1 l2 (-1 - n) f a hR he (by omega) hs ha (by rw[show -1 - (-1 - n)=n by omega]; exact hp)
    · have:a=p.length:=by have:=hs.len ht.len; omega
      subst this
      exact .full R l1 _ f hR he hs
theorem CO {l:List Int} {d:Nat} {s:Int} (h:l[d]?=some s):l=l.take d ++ s :: l.drop (d+1):=by
  have h1:=(List.getElem?_eq_some_iff.1 h)
  obtain ⟨hl,he⟩:=h1
  rw[← he]
  simp
theorem A7.ask {g:av} {p:List Int} {a:Nat} {x:Item} (h:A7 g p x) (hs:Sound g p a x) {R:aT} (hR:g.rules[x.bj]?=some R) {s:Int} (hd:R.right[x.dot]?=some s):xF g p (-1 - s) a:=by
  obtain ⟨R1,h1,h2⟩:=h
  obtain ⟨R2,h3,_,_,h4⟩:=hs
  rw[hR] at h1 h3; simp at h1 h3; subst h1; subst h3
  refine .step R (R.right.take x.dot) (R.right.drop (x.dot+1)) (-1 - s) x.cd a (List.mem_of_getElem? hR) ?_ h2 h4
  rw[show -1 - (-1 - s)=s by omega]
  exact CO hd
theorem xl {g:av} (hr:aR g=true) {p:List Int} {S:Nat→List Item} (hc:oC g p S) {l:List Int} {a j:Nat} (h:Sp g p l a j) :
    ∀ (x:Item) (R:aT) (l2:List Int),x∈S a→g.rules[x.bj]?=some R→R.right.drop x.dot=l ++ l2→x.dot≤R.right.length→a≤p.length→(⟨x.bj,x.dot+l.length,x.cd⟩:Item)∈S j:=by
  induction h with
  | nil i =>
    intro x R l2 hx hR hd hle _
    exact hx
  | term s l i j h0 hf _ ih =>
    intro x R l2 hx hR hd hle hp
    have hs:R.right[x.dot]?=some s:=by
      have:=congrArg (·[0]?) hd
      simpa using this
    have hlt:=(List.getElem?_eq_some_iff.1 hs).1
    have h1:=hc.term i x R s hx hR hs h0 hf
    obtain ⟨c,hc',_⟩:=hf
    have hpl:=(List.getElem?_eq_some_iff.1 hc').1
    have:=ih ⟨x.bj,x.dot+1,x.cd⟩ R l2 h1 hR (by have:=congrArg List.tail hd; simpa using this) hlt (by omega)
    simp only[List.length_cons]
    rw[show x.dot+(l.length+1)=x.dot+1+l.length by omega]
    exact this
  | ca s l Q i k j h0 hQ hl hs1 hs2 _ ih2 =>
    intro x R l2 hx hR hd hle hp
    have hs:R.right[x.dot]?=some s:=by
      have:=congrArg (·[0]?) hd
      simpa using this
    have hlt:=(List.getElem?_eq_some_iff.1 hs).1
    obtain ⟨q,hq,hqe⟩:=List.getElem_of_mem hQ
    have hq':g.rules[q]?=some Q:=by rw[List.getElem?_eq_getElem hq,hqe]
    have hpr:=hc.pred i x R s q Q hx hR hs h0 hq' hl hp
    have hdone:=wc hr hc hs1 ⟨q,0,i⟩ Q hpr hq' (by simp) (by simp) hp
    have hk:=hs1.len hp
    have hadv:(⟨x.bj,x.dot+1,x.cd⟩:Item)∈S k:=by
      rcases Nat.lt_or_eq_of_le hs1.le with e | e
      · exact hc.comp k ⟨q,Q.right.length,i⟩ Q x R s hdone hq' rfl e hx hR hs h0 hl hk
      · subst e
        have:=fM hr hQ (Dh hr hs1 rfl)
        rw[hl] at this
        exact hc.null i x R s hx hR hs h0 this hp
    have:=ih2 ⟨x.bj,x.dot+1,x.cd⟩ R l2 hadv hR (by have:=congrArg List.tail hd; simpa using this) hlt hk
    simp only[List.length_cons]
    rw[show x.dot+(l.length+1)=x.dot+1+l.length by omega]
    exact this
theorem pre_some {g:av} (hr:aR g=true) {p:List Int} {S:Nat→List Item} (hc:oC g p S) {n:Int} {f:Nat} (h:jm g p n f) :
    f≤p.length→(∀ (i:Nat) (R:aT),g.rules[i]?=some R→R.left=n→(⟨i,0,f⟩:Item)∈S f)→∃ x,x∈S p.length:=by
  induction h with
  | full R l1 l2 f hR he hs =>
    intro hf hi
    obtain ⟨q,hq,hqe⟩:=List.getElem_of_mem hR
    have hq':g.rules[q]?=some R:=by rw[List.getElem?_eq_getElem hq,hqe]
    exact ⟨_,xl hr hc hs ⟨q,0,f⟩ R l2 (hi q R hq' rfl) hq' (by simpa using he) (by simp) hf⟩
  | deep R l1 l2 s f a hR he h0 hs ha _ ih =>
    intro hf hi
    obtain ⟨q,hq,hqe⟩:=List.getElem_of_mem hR
    have hq':g.rules[q]?=some R:=by rw[List.getElem?_eq_getElem hq,hqe]
    have hx:=xl hr hc hs ⟨q,0,f⟩ R (s :: l2) (hi q R hq' rfl) hq' (by simpa using he) (by simp) hf
    refine ih (by omega) fun i Q hQ hl=>?_
    refine hc.pred a _ R s i Q hx hq' ?_ h0 hQ hl (by omega)
    simp[he]
theorem DX {g:av} (hr:aR g=true) {p:List Int} {S:Nat→List Item} (hc:oC g p S) (hs:∀ a x,x∈S a→Sound g p a x) (ht:∀ a x,x∈S a→A7 g p x):(∃ x,x∈S p.length)↔jm g p g.start 0:=by
  have hf:=aO hr
  constructor
  · rintro ⟨x,hx⟩
    obtain ⟨R,h1,h2,_,h4⟩:=hs _ x hx
    obtain ⟨R',h5,h6⟩:=ht _ x hx
    rw[h1] at h5; simp at h5; subst h5
    have hR:=List.mem_of_getElem? h1
    refine Iw (fun r hr=>(hf.left r hr).1) hf.dS h6 (hf.left R hR).1 ?_
    exact .full R _ (R.right.drop x.dot) x.cd hR (by simp) h4
  · intro h
    exact pre_some hr hc h (by omega) fun i R h1 h2=>hc.start i R h1 h2
theorem Sp.cut {g:av} {p:List Int} {k:Nat} {l:List Int} {i j:Nat} (h:Sp g p l i j):j≤k→Sp g (p.take k) l i j:=by
  induction h with
  | nil i=>exact fun _=>.nil i
  | term s l i j h0 hf h ih =>
    intro hk
    have:=h.le
    obtain ⟨c,hc,h2⟩:=hf
    exact .term s l i j h0 ⟨c,by rw[List.getElem?_take,if_pos (by omega)]; exact hc,h2⟩ (ih hk)
  | ca s l R i m j h0 hR hl h1 h2 ih1 ih2 =>
    intro hk
    have:=h2.le
    exact .ca s l R i m j h0 hR hl (ih1 (by omega)) (ih2 hk)
end Gv
set_option linter.unusedSimpArgs false
set_option maxRecDepth 100000
namespace Gv
open Go Go.Proofs
def Grow (a:Nat) (S S':Nat→List Item):Prop:=∀ b,S b <+: S' b∧(b < a→S' b=S b)
structure Good (g:av) (p:List Int) (S:Nat→List Item):Prop where
  nodup:∀ a,(S a).Nodup
  sound:∀ a x,x∈S a→Sound g p a x
  top:∀ a x,x∈S a→A7 g p x
  out:∀ a,p.length < a→S a=[]
theorem Grow.refl (a:Nat) (S:Nat→List Item):Grow a S S:=fun _=>⟨List.prefix_refl _,fun _=>rfl⟩
theorem Grow.trans {a:Nat} {S S' S'':Nat→List Item} (h:Grow a S S') (h':Grow a S' S''):Grow a S S'':=fun b=>⟨(h b).1.trans (h' b).1,fun hb=>((h' b).2 hb).trans ((h b).2 hb)⟩
theorem Grow.low {a a':Nat} {S S':Nat→List Item} (h:Grow a S S') (ha:a'≤a):Grow a' S S':=fun b=>⟨(h b).1,fun hb=>(h b).2 (by omega)⟩
theorem Grow.mem {a b:Nat} {S S':Nat→List Item} (h:Grow a S S') {x:Item} (hx:x∈S b):x∈S' b:=(h b).1.subset hx
theorem lV {a b:Nat} (S:Nat→List Item) (x:Item) (h:a≤b):Grow a S (fO S b x):=by
  intro d
  unfold fO
  constructor
  · split
    · rename_i e
      subst e
      split
      · exact List.prefix_refl _
      · exact List.prefix_append _ _
    · exact List.prefix_refl _
  · intro hd
    rw[if_neg (by omega)]
theorem uD (S:Nat→List Item) (a:Nat) (x:Item):x∈fO S a x a:=by
  unfold fO
  rw[if_pos rfl]
  split
  · assumption
  · simp
theorem Good.put {g:av} {p:List Int} {S:Nat→List Item} (h:Good g p S) {a:Nat} {x:Item} (hx:Sound g p a x) (ht:A7 g p x) (ha:a≤p.length):Good g p (fO S a x):=by
  refine ⟨fun b=>?_,fun b y hy=>?_,fun b y hy=>?_,fun b hb=>?_⟩
  · unfold fO
    split
    · rename_i e
      subst e
      split
      · exact h.nodup _
      · rename_i hn
        rw[List.nodup_append]
        refine ⟨h.nodup _,by simp,fun u hu v hv=>?_⟩
        simp at hv
        rintro rfl
        exact hn (hv ▸ hu)
    · exact h.nodup _
  · unfold fO at hy
    split at hy
    · rename_i e
      subst e
      split at hy
      · exact h.sound _ _ hy
      · rcases List.mem_append.1 hy with hy | hy
        · exact h.sound _ _ hy
        · simp at hy; subst hy; exact hx
    · exact h.sound _ _ hy
  · unfold fO at hy
    split at hy
    · rename_i e
      subst e
      split at hy
      · exact h.top _ _ hy
      · rcases List.mem_append.1 hy with hy | hy
        · exact h.top _ _ hy
        · simp at hy; subst hy; exact ht
    · exact h.top _ _ hy
  · unfold fO
    rw[if_neg (by omega)]
    exact h.out b hb
theorem pZ:∀ (N:Nat) (l:List Nat),l.Nodup→(∀ x∈l,x < N)→l.length≤N
  | 0,l,_,h=>by
    cases l with
    | nil=>simp
    | cons x l=>exact absurd (h x (by simp)) (by omega)
  | N+1,l,hd,h=>by
    by_cases e:N∈l
    · have h1:=pZ N (l.erase N) (hd.erase N) fun x hx=>by
        have h2:=(hd.mem_erase_iff).1 hx
        have:=h x h2.2
        have:=h2.1
        omega
      rw[List.length_erase_of_mem e] at h1
      omega
    · have:=pZ N l hd fun x hx=>by
        have:=h x hx
        have:x≠N:=by rintro rfl; exact e hx
        omega
      omega
theorem yy {α:Type} {f:α→Nat} : ∀ {l:List α},l.Nodup→(∀ x∈l,∀ y∈l,f x=f y→x=y)→(l.map f).Nodup
  | [],_,_=>by simp
  | x :: l,hd,h=>by
    rw[List.nodup_cons] at hd
    rw[List.map_cons,List.nodup_cons]
    refine ⟨fun hm=>?_,yy hd.2 fun a ha b hb=>h a (by simp[ha]) b (by simp[hb])⟩
    obtain ⟨y,hy,e⟩:=List.mem_map.1 hm
    have:=h y (by simp[hy]) x (by simp) e
    exact hd.1 (this ▸ hy)
theorem Sound.small {g:av} (hf:g.oO) {p:List Int} {a:Nat} {x:Item} (h:Sound g p a x):x.bj < 40∧x.dot < 7∧x.cd≤a:=by
  obtain ⟨R,hR,hd,hfr,_⟩:=h
  have h1:=(List.getElem?_eq_some_iff.1 hR).1
  have h2:=hf.rules
  have h3:=hf.right R (List.mem_of_getElem? hR)
  omega
theorem Good.len {g:av} (hf:g.oO) {p:List Int} (hp:p.length≤60) {S:Nat→List Item} (h:Good g p S) (a:Nat):(S a).length≤17080:=by
  by_cases ha:p.length < a
  · rw[h.out a ha]; simp
  · have hb:∀ x∈S a,x.bj < 40∧x.dot < 7∧x.cd < 61:=fun x hx=>by
      have:=(h.sound a x hx).small hf
      omega
    have:=pZ 17080 ((S a).map fun x=>x.bj * 427+x.dot * 61+x.cd) (yy (h.nodup a) fun x hx y hy e=>by
      have h1:=hb x hx
      have h2:=hb y hy
      cases x; cases y
      simp only at e h1 h2
      simp only[Item.mk.injEq]
      omega) (fun v hv=>by
      obtain ⟨x,hx,rfl⟩:=List.mem_map.1 hv
      have:=hb x hx
      omega)
    simpa using this
theorem Ch.box {H:View} {c:Nat} {g:av} {p:List Int} {nu:V} {S:Nat→List Item} {B n:Nat} {K:List (Nat × bE)} (h:Ch H c g p nu S B n K) :
    ∃ sid mid,H c=.arr 8 [[.bc (g.aC.map ch),encS g.au,.bc (g.rules.map aJ),gi g.start,encI p,nu,.sl sid 0 n 1,.sl mid 0 n 1]]:=by
  obtain ⟨sid,mid,sv,mi,mm,cl,h⟩:=h
  exact ⟨sid,mid,h.box⟩
theorem Ch.set {H:View} {c:Nat} {g:av} {p:List Int} {nu:V} {S:Nat→List Item} {B n:Nat} {K:List (Nat × bE)} (h:Ch H c g p nu S B n K) {a:Nat} (ha:a < n) :
    ∃ (sid mid:Nat) (sv:Nat→V),H c=.arr 8 [[.bc (g.aC.map ch),encS g.au,.bc (g.rules.map aJ),gi g.start,encI p,nu,.sl sid 0 n 1,.sl mid 0 n 1]]∧H sid=.arr 1 ((List.range n).map fun j=>[sv j])∧bp H (sv a) 3 ((S a).map dx):=by
  obtain ⟨sid,mid,sv,mi,mm,cl,h⟩:=h
  exact ⟨sid,mid,sv,h.box,h.eX,h.set a ha⟩
def hD:SC :=
  .seq (al [bb 15 .lss 14 13]) <|
  .seq (.cond (.tmp 15) (.skip) (.exit 0)) <|
  .seq (.block 1 (.seq (al [aa 16 14,aN 17 3 12 14,aM 18 3 17,((some 7),.op (.alloc [(.val (.int .i64 0)),(.emp 1),(.val (.int .i64 0))])),aa 6 16,(none,.op (.store 3 (.tmp 7) (.tmp 18)))]) <|
  .seq (al [ar 19 0 7,an 20 19,aa 21 2,bb 22 .eql 20 21]) <|
  .cond (.tmp 22) (al [aa 23 0,aa 24 1,aa 25 6,aa 26 1,((some 27),.op (.build [(.val (.int .i64 0)),(.val (.int .i64 0)),(.val (.int .i64 0))] [(0,1,(.tmp 25)),(1,1,(.val (.val (.int .i64 0)))),(2,1,(.tmp 26))])),aG 28 100 [23,24,27]]) (.skip))) <|
  al [ay 29 .add 14 1,aa 14 29]
def ji:SF:=⟨.seq (al [aa 8 0,bA 9 8,ar 10 0 9,ar 11 2 10,an 12 11,aL 13 12,aH 14 0]) <|
  .block 0 (.loop hD),
  [],30⟩
theorem nG:aX Tryz.prog 55 []=some ji:=by kernel_rfl
def gL:SC :=
  .seq (.seq (al [aa 11 8,aa 12 0,bA 13 12,ar 14 6 13,an 15 14,aa 16 3,aN 17 1 15 16,an 18 17,aL 19 18,bb 20 .lss 11 19]) <|
  .cond (.tmp 20) (.skip) (.exit 0)) <|
  .seq (.block 1 (.seq (al [aa 23 0,bA 24 23,ar 25 6 24,an 26 25,aa 27 3,aN 28 1 26 27,an 29 28,aa 30 8,aN 31 3 29 30,aM 32 3 31,((some 9),.op (.alloc [(.val (.int .i64 0)),(.val (.int .i64 0)),(.val (.int .i64 0))])),(none,.op (.store 3 (.tmp 9) (.tmp 32)))]) <|
  .seq (al [aa 33 0,bA 34 33,ar 35 0 34,ar 36 2 35,an 37 36,ar 38 0 9,an 39 38,aN 40 3 37 39,ar 41 1 40,an 42 41,aa 10 42]) <|
  .seq (.region false [⟨none,[ar 43 1 9,an 44 43,aa 45 10,aL 46 45,bb 47 .lss 44 46,aa 48 47]⟩,⟨(some (48,true)),[aa 49 10,ar 50 1 9,an 51 50,aN 52 1 49 51,an 53 52,aa 54 2,((some 55),.op (.arith .sub (.val (.val (.int .i64 (-1)))) (.tmp 54))),bb 56 .eql 53 55]⟩,⟨none,[br 57 48 56]⟩]) <|
  .cond (.tmp 57) (al [aa 58 0,aa 59 1,ar 60 0 9,an 61 60,ar 62 1 9,an 63 62,ay 64 .add 63 1,ar 65 2 9,an 66 65,((some 67),.op (.build [(.val (.int .i64 0)),(.val (.int .i64 0)),(.val (.int .i64 0))] [(0,1,(.tmp 61)),(1,1,(.tmp 64)),(2,1,(.tmp 66))])),aG 68 100 [58,59,67]]) (.skip))) <|
  al [aa 21 8,ay 22 .add 21 1,aa 8 22]
def iQ:SF:=⟨.seq (al [aH 8 0]) <|
  .block 0 (.loop gL),
  [],69⟩
theorem nj:aX Tryz.prog 101 []=some iQ:=by kernel_rfl
def k8:SF:=⟨.seq (al [cE 5 2]) <|
  .seq (al [aa 9 0,bA 10 9,ar 11 0 10,ar 12 2 11,an 13 12,ar 14 0 5,an 15 14,aN 16 3 13 15,aM 17 3 16,((some 6),.op (.alloc [(.val (.int .i64 0)),(.emp 1),(.val (.int .i64 0))])),(none,.op (.store 3 (.tmp 6) (.tmp 17)))]) <|
  .seq (.seq (al [ar 18 1 5,an 19 18,ar 20 1 6,an 21 20,aL 22 21,bb 23 .eql 19 22]) <|
  .cond (.tmp 23) (.seq (al [aa 24 0,aa 25 1,ar 26 0 6,an 27 26,ar 28 2 5,an 29 28,aG 30 101 [24,25,27,29]]) <|
  .ret) (.skip)) <|
  .seq (al [ar 31 0 5,an 32 31,ar 33 1 5,an 34 33,ay 35 .add 34 1,ar 36 2 5,an 37 36,((some 38),.op (.build [(.val (.int .i64 0)),(.val (.int .i64 0)),(.val (.int .i64 0))] [(0,1,(.tmp 32)),(1,1,(.tmp 35)),(2,1,(.tmp 37))])),((some 7),.op (.alloc [(.val (.int .i64 0)),(.val (.int .i64 0)),(.val (.int .i64 0))])),(none,.op (.store 3 (.tmp 7) (.tmp 38)))]) <|
  .seq (al [ar 39 1 6,an 40 39,ar 41 1 5,an 42 41,aN 43 1 40 42,an 44 43,aa 8 44]) <|
  .seq (.block 0 (.seq (al [aa 46 8,ay 47 .geq 46 0,aa 45 47]) <|
  .cond (.tmp 45) (.seq (.seq (.region false [⟨none,[aa 48 1,aa 49 0,bA 50 49,ar 51 4 50,an 52 51,aL 53 52,bb 54 .lss 48 53,aa 55 54]⟩,⟨(some (55,true)),[aa 56 0,bA 57 56,ar 58 4 57,an 59 58,aa 60 1,aN 61 1 59 60,an 62 61,aa 63 8,bb 64 .eql 62 63,aa 65 64]⟩,⟨(some (65,false)),[aa 66 0,bA 67 66,ar 68 4 67,an 69 68,aa 70 1,aN 71 1 69 70,an 72 71,ay 73 .eql 72 (-1)]⟩,⟨(some (55,true)),[bt 74 65 73]⟩,⟨none,[br 75 55 74]⟩]) <|
  .cond (.tmp 75) (al [aa 76 0,aa 77 1,ay 78 .add 77 1,aM 79 3 7,aG 80 100 [76,78,79]]) (.skip)) <|
  .ret) (.seq (al [aa 82 0,bA 83 82,ar 84 5 83,an 85 84,aa 86 8,((some 87),.op (.arith .sub (.val (.val (.int .i64 (-1)))) (.tmp 86))),aN 88 1 85 87,an 89 88,aa 81 89]) <|
  .cond (.tmp 81) (al [aa 90 0,aa 91 1,aM 92 3 7,aG 93 100 [90,91,92]]) (.skip)))) <|
  al [aa 94 0,aa 95 1,aa 96 8,((some 97),.op (.arith .sub (.val (.val (.int .i64 (-1)))) (.tmp 96))),aG 98 55 [94,95,97]],
  [],99⟩
theorem qd:aX Tryz.prog 56 [5]=some k8:=by kernel_rfl
set_option maxHeartbeats 4000000 in
theorem ra (c:Nat) (g:av) (hf:g.oO) (p:List Int) (hp:p.length≤60) (nu:V) (S:Nat→List Item) (B at0:Nat) (K:List (Nat × bE)) (H:View) (hC:Ch H c g p nu S B (p.length+1) K) (hG:Good g p S) (ha:at0≤p.length) (hB:B+40 < 1000000000000)
    (ca:Int) (hT:xF g p ca at0):aD Tryz.prog 55 [.ptr c 0 0,ak at0,gi ca] H fun _ H'=>∃ S',Ch H' c g p nu S' (B+40) (p.length+1) K∧Good g p S'∧Grow at0 S S'∧∀ i R,g.rules[i]?=some R→R.left=ca→(⟨i,0,at0⟩:Item)∈S' at0:=by
  have hr40:=hf.rules
  refine aD.of mixed nG ?_
  obtain ⟨sid,mid,hbox⟩:=hC.box
  simp (disch:=omega) only [↓wr,↓reduceIte,wq,ai,ah,ak,ae,af,ag,aj,isNil,Nat.reduceEqDiff,Nat.reduceAdd,Nat.reduceLT,Nat.reduceLeDiff,Int.reduceNeg,Int.reduceToNat,reduceCtorEq,ji,hbox]
  refine bo.up g.rules.length (fun i T' H'=>(∃ S',Ch H' c g p nu S' (B+i) (p.length+1) K∧Good g p S'∧Grow at0 S S'∧∀ j R,j < i→g.rules[j]?=some R→R.left=ca→(⟨j,0,at0⟩:Item)∈S' at0)∧T' 0=.ptr c 0 0∧T' 1=ak at0∧T' 2=gi ca∧T' 12=.bc (g.rules.map aJ)∧T' 13=ak g.rules.length∧T' 14=ak i) ?_ ?_
  · exact ⟨⟨S,hC,hG,.refl _ _,fun j R hj=>by omega⟩,rfl,rfl,rfl,rfl,rfl,rfl⟩
  clear hbox hC hG
  rintro i k T' H' hk ⟨⟨S1,hC,hG,hgr,hall⟩,t0,t1,t2,t12,t13,t14⟩
  simp (disch:=omega) only [↓wr,↓reduceIte,wq,ai,ah,ak,ae,af,ag,aj,isNil,Nat.reduceEqDiff,Nat.reduceAdd,Nat.reduceLT,Nat.reduceLeDiff,Int.reduceNeg,Int.reduceToNat,reduceCtorEq,hD,t0,t1,t2,t12,t13,t14]
  refine aq.dec (fun hc=>?_) (fun hc=>?_)
  · have hg2:g.rules[i]?=some (g.rules[i]'(by omega)):=List.getElem?_eq_getElem (by omega)
    have hmem:g.rules[i]'(by omega)∈g.rules:=List.getElem_mem _
    generalize g.rules[i]'(by omega)=R at hg2 hmem
    simp (disch:=omega) only [↓wr,↓reduceIte,wq,ai,ah,ak,ae,af,ag,aj,isNil,Nat.reduceEqDiff,Nat.reduceAdd,Nat.reduceLT,Nat.reduceLeDiff,Int.reduceNeg,Int.reduceToNat,reduceCtorEq,t0,t1,t2,t12,t13,t14,aJ,encI,List.getElem?_map,hg2]
    intro b hb
    rw[set_set]
    have hC2:=hC.new hb (o:=.arr 3 [[gi R.left,.bc (R.right.map fun x=>[gi x]),gi R.prec]]) (by simp)
    generalize View.set H' b _=H2 at hC2 ⊢
    have hln:=hG.len hf hp at0
    refine aq.eq (fun e=>?_) (fun e=>?_)
    · simp (disch:=omega) only [↓wr,↓reduceIte,wq,ai,ah,ak,ae,af,ag,aj,isNil,Nat.reduceEqDiff,Nat.reduceAdd,Nat.reduceLT,Nat.reduceLeDiff,Int.reduceNeg,Int.reduceToNat,reduceCtorEq,t0,t1]
      refine az.ez ((wK c g p nu S1 (B+i) (p.length+1) at0 ⟨i,0,at0⟩ _ _ hC2 (by omega) (by omega) (by omega) (by omega) ⟨by simp; omega,by simp,by simp; omega⟩).mono ?_)
      intro r H3 hC3
      simp (disch:=omega) only [↓wr,↓reduceIte,wq,ai,ah,ak,ae,af,ag,aj,isNil,Nat.reduceEqDiff,Nat.reduceAdd,Nat.reduceLT,Nat.reduceLeDiff,Int.reduceNeg,Int.reduceToNat,reduceCtorEq,t14]
      have hsd:Sound g p at0 ⟨i,0,at0⟩:=⟨R,hg2,by simp,by simp,by simp; exact .nil _⟩
      refine aV hk (by omega) ⟨⟨_,hC3.drop,hG.put hsd ⟨R,hg2,e ▸ hT⟩ ha,hgr.trans (lV S1 _ (Nat.le_refl _)),fun j Q hj hQ hl=>?_⟩,t0,t1,t2,t12,t13,rfl⟩
      by_cases e2:j=i
      · subst e2; exact uD _ _ _
      · exact (lV S1 _ (Nat.le_refl at0)).mem (hall j Q (by omega) hQ hl)
    · simp (disch:=omega) only [↓wr,↓reduceIte,wq,ai,ah,ak,ae,af,ag,aj,isNil,Nat.reduceEqDiff,Nat.reduceAdd,Nat.reduceLT,Nat.reduceLeDiff,Int.reduceNeg,Int.reduceToNat,reduceCtorEq,t14]
      refine aV hk (by omega) ⟨⟨S1,hC2.drop.more (by omega),hG,hgr,fun j Q hj hQ hl=>?_⟩,t0,t1,t2,t12,t13,rfl⟩
      by_cases e2:j=i
      · subst e2
        rw[hg2] at hQ; simp at hQ; subst hQ
        exact absurd hl e
      · exact hall j Q (by omega) hQ hl
  · simp (disch:=omega) only [↓wr,↓reduceIte,wq,ai,ah,ak,ae,af,ag,aj,isNil,Nat.reduceEqDiff,Nat.reduceAdd,Nat.reduceLT,Nat.reduceLeDiff,Int.reduceNeg,Int.reduceToNat,reduceCtorEq]
    exact ⟨S1,hC.more (by omega),hG,hgr,fun i R hR hl=>hall i R (by have:=(List.getElem?_eq_some_iff.1 hR).1; omega) hR hl⟩
def D5 (g:av) (ca:Int) (S:Nat→List Item) (at_:Nat) (x:Item):Prop:=∀ R,g.rules[x.bj]?=some R→R.right[x.dot]?=some (-1 - ca)→(⟨x.bj,x.dot+1,x.cd⟩:Item)∈S at_
theorem Sound.on {g:av} {p:List Int} {f a:Nat} {x:Item} (h:Sound g p f x) {R:aT} (hR:g.rules[x.bj]?=some R) {s:Int} (hs:R.right[x.dot]?=some s) (hsp:Sp g p [s] f a):Sound g p a ⟨x.bj,x.dot+1,x.cd⟩:=by
  obtain ⟨R',hR',h1,h2,h3⟩:=h
  rw[hR] at hR'; simp at hR'; subst hR'
  have hlt:=(List.getElem?_eq_some_iff.1 hs).1
  refine ⟨R,hR,hlt,Nat.le_trans h2 hsp.le,?_⟩
  have:R.right.take (x.dot+1)=R.right.take x.dot ++ [s]:=by rw[List.take_add_one,hs]; rfl
  rw[this]
  exact h3.app hsp
set_option maxHeartbeats 4000000 in
theorem BY (c:Nat) (g:av) (hf:g.oO) (p:List Int) (hp:p.length≤60) (nu:V) (S:Nat→List Item) (B at0 fr:Nat) (K:List (Nat × bE)) (H:View) (hC:Ch H c g p nu S B (p.length+1) K) (hG:Good g p S) (ha:at0≤p.length) (hfr:fr≤at0) (hB:B+17080 < 1000000000000)
    (ca:Int) (hn:0≤ca∧ca < 1000) (hsp:Sp g p [-1 - ca] fr at0):aD Tryz.prog 101 [.ptr c 0 0,ak at0,gi ca,ak fr] H fun _ H'=>∃ S',Ch H' c g p nu S' (B+17080) (p.length+1) K∧Good g p S'∧Grow at0 S S'∧∀ x∈S' fr,D5 g ca S' at0 x:=by
  have hr40:=hf.rules
  refine aD.of mixed nj ?_
  simp (disch:=omega) only [↓wr,↓reduceIte,wq,ai,ah,ak,ae,af,ag,aj,isNil,Nat.reduceEqDiff,Nat.reduceAdd,Nat.reduceLT,Nat.reduceLeDiff,Int.reduceNeg,Int.reduceToNat,reduceCtorEq,iQ]
  refine bo.up 17080 (fun i T' H'=>(∃ S',Ch H' c g p nu S' (B+i) (p.length+1) K∧Good g p S'∧Grow at0 S S'∧i≤(S' fr).length∧∀ x∈(S' fr).take i,D5 g ca S' at0 x)∧T' 0=.ptr c 0 0∧T' 1=ak at0∧T' 2=gi ca∧T' 3=ak fr∧T' 8=ak i) ?_ ?_
  · exact ⟨⟨S,hC,hG,.refl _ _,Nat.zero_le _,fun x hx=>by simp at hx⟩,rfl,rfl,rfl,rfl,rfl⟩
  clear hC hG
  rintro i k T' H' hk ⟨⟨S1,hC,hG,hgr,hil,hall⟩,t0,t1,t2,t3,t8⟩
  obtain ⟨sid,mid,sv,hbox,hsets,ho⟩:=hC.set (a:=fr) (by omega)
  have hfl:fr < p.length+1:=by omega
  simp (disch:=omega) only [↓wr,↓reduceIte,wq,ai,ah,ak,ae,af,ag,aj,isNil,Nat.reduceEqDiff,Nat.reduceAdd,Nat.reduceLT,Nat.reduceLeDiff,Int.reduceNeg,Int.reduceToNat,reduceCtorEq,gL,t0,t1,t2,t3,t8,hbox,hsets,cY hfl,ho.len]
  refine ⟨by omega,by simp; omega,?_⟩
  refine aq.dec (fun hc=>?_) (fun hc=>?_)
  · obtain ⟨m,hsv,hm⟩:=ho.sl (by simp; omega)
    have hxi:(S1 fr)[i]?=some ((S1 fr)[i]'(by omega)):=List.getElem?_eq_getElem (by omega)
    have hxm:(S1 fr)[i]'(by omega)∈S1 fr:=List.getElem_mem _
    have htk:(S1 fr).take (i+1)=(S1 fr).take i ++ [(S1 fr)[i]'(by omega)]:=by rw[List.take_add_one,hxi]; rfl
    generalize (S1 fr)[i]'(by omega)=x at hxi hxm htk
    have hgx:((S1 fr).map dx).getD i []=[ak x.bj,ak x.dot,ak x.cd]:=by simp[List.getD_eq_getElem?_getD,hxi,dx]
    have hxs:=hG.sound _ _ hxm
    have hsm:=hxs.small hf
    have hxs0:=hxs
    obtain ⟨R,hR,hdl,hff,hxsp⟩:=hxs
    simp (disch:=omega) only [↓wr,↓reduceIte,wq,ai,ah,ak,ae,af,ag,aj,isNil,Nat.reduceEqDiff,Nat.reduceAdd,Nat.reduceLT,Nat.reduceLeDiff,Int.reduceNeg,Int.reduceToNat,reduceCtorEq,t0,t1,t2,t3,t8,hbox,hsets,cY hfl,hsv,hm,hgx]
    refine ⟨hfl,by simp; omega,by omega,by omega,fun b hb=>?_⟩
    have hcb:c≠b:=by rintro rfl; rw[hbox] at hb; simp at hb
    simp only[if_neg hcb]
    rw[set_set]
    have hC2:=hC.new hb (o:=.arr 3 [[.val (.int .i64 x.bj),.val (.int .i64 x.dot),.val (.int .i64 x.cd)]]) (by simp)
    generalize View.set H' b _=H2 at hC2 ⊢
    have hb2:=hC2.kept _ (List.mem_cons_self ..)
    simp only at hb2
    have hmem:=List.mem_of_getElem? hR
    have hrl:=hf.right R hmem
    simp (disch:=omega) only [↓wr,↓reduceIte,wq,ai,ah,ak,ae,af,ag,aj,isNil,Nat.reduceEqDiff,Nat.reduceAdd,Nat.reduceLT,Nat.reduceLeDiff,Int.reduceNeg,Int.reduceToNat,reduceCtorEq,t0,t1,t2,t3,t8,hb2,aJ,encI,List.getElem?_map,hR]
    have hkeep:∀ S2,Grow at0 S1 S2→(∀ R',g.rules[x.bj]?=some R'→R'.right[x.dot]?=some (-1 - ca)→(⟨x.bj,x.dot+1,x.cd⟩:Item)∈S2 at0)→i+1≤(S2 fr).length∧∀ y∈(S2 fr).take (i+1),D5 g ca S2 at0 y:=by
      intro S2 hg2 hx2
      obtain ⟨t,ht⟩:=(hg2 fr).1
      refine ⟨by rw[← ht]; simp; omega,?_⟩
      rw[← ht,List.take_append_of_le_length (by omega),htk]
      intro y hy
      rcases List.mem_append.1 hy with hy | hy
      · exact fun R' h1 h2=>hg2.mem (hall y hy R' h1 h2)
      · simp at hy; subst hy; exact hx2
    have hlf:=hG.len hf hp fr
    have hla:=hG.len hf hp at0
    refine aq.dec (fun h1=>?_) (fun h1=>?_)
    · have hs:R.right[x.dot]?=some (R.right[x.dot]'(by omega)):=List.getElem?_eq_getElem (by omega)
      generalize R.right[x.dot]'(by omega)=s at hs
      simp (disch:=omega) only [↓wr,↓reduceIte,wq,ai,ah,ak,ae,af,ag,aj,isNil,Nat.reduceEqDiff,Nat.reduceAdd,Nat.reduceLT,Nat.reduceLeDiff,Int.reduceNeg,Int.reduceToNat,reduceCtorEq,t0,t1,t2,t3,t8,hb2,hs,List.getElem?_map]
      refine aq.eq (fun e=>?_) (fun e=>?_)
      · simp (disch:=omega) only [↓wr,↓reduceIte,wq,ai,ah,ak,ae,af,ag,aj,isNil,Nat.reduceEqDiff,Nat.reduceAdd,Nat.reduceLT,Nat.reduceLeDiff,Int.reduceNeg,Int.reduceToNat,reduceCtorEq,t0,t1,t2,t3,t8,hb2]
        have hsd:Sound g p at0 ⟨x.bj,x.dot+1,x.cd⟩:=hxs0.on hR hs (e ▸ hsp)
        have hsm2:=hsd.small hf
        simp only at hsm2
        refine az.ez ((wK c g p nu S1 (B+i) (p.length+1) at0 ⟨x.bj,x.dot+1,x.cd⟩ _ _ hC2 (by omega) (by omega) (by omega) (by omega) ⟨by simp; omega,by simp; omega,by simp; omega⟩).mono ?_)
        intro r H3 hC3
        simp (disch:=omega) only [↓wr,↓reduceIte,wq,ai,ah,ak,ae,af,ag,aj,isNil,Nat.reduceEqDiff,Nat.reduceAdd,Nat.reduceLT,Nat.reduceLeDiff,Int.reduceNeg,Int.reduceToNat,reduceCtorEq,t8]
        obtain ⟨k1,k2⟩:=hkeep _ (lV S1 _ (Nat.le_refl _)) (fun R' _ _=>uD _ _ _)
        exact aV hk (by omega) ⟨⟨_,hC3.drop,hG.put hsd (hG.top _ x hxm) ha,hgr.trans (lV S1 _ (Nat.le_refl _)),k1,k2⟩,t0,t1,t2,t3,rfl⟩
      · simp (disch:=omega) only [↓wr,↓reduceIte,wq,ai,ah,ak,ae,af,ag,aj,isNil,Nat.reduceEqDiff,Nat.reduceAdd,Nat.reduceLT,Nat.reduceLeDiff,Int.reduceNeg,Int.reduceToNat,reduceCtorEq,t8]
        obtain ⟨k1,k2⟩:=hkeep _ (.refl _ _) (fun R' h2 h3=>by
          rw[hR] at h2; simp at h2; subst h2
          rw[hs] at h3; simp at h3
          exact absurd h3 e)
        exact aV hk (by omega) ⟨⟨_,hC2.drop.more (by omega),hG,hgr,k1,k2⟩,t0,t1,t2,t3,rfl⟩
    · simp (disch:=omega) only [↓wr,↓reduceIte,wq,ai,ah,ak,ae,af,ag,aj,isNil,Nat.reduceEqDiff,Nat.reduceAdd,Nat.reduceLT,Nat.reduceLeDiff,Int.reduceNeg,Int.reduceToNat,reduceCtorEq,t8]
      obtain ⟨k1,k2⟩:=hkeep _ (.refl _ _) (fun R' h2 h3=>by
        rw[hR] at h2; simp at h2; subst h2
        have:=(List.getElem?_eq_some_iff.1 h3).1
        omega)
      exact aV hk (by omega) ⟨⟨_,hC2.drop.more (by omega),hG,hgr,k1,k2⟩,t0,t1,t2,t3,rfl⟩
  · simp (disch:=omega) only [↓wr,↓reduceIte,wq,ai,ah,ak,ae,af,ag,aj,isNil,Nat.reduceEqDiff,Nat.reduceAdd,Nat.reduceLT,Nat.reduceLeDiff,Int.reduceNeg,Int.reduceToNat,reduceCtorEq]
    have hil2:i=(S1 fr).length:=by omega
    rw[hil2,List.take_length] at hall
    exact ⟨S1,hC.more (by have:=hG.len hf hp fr; omega),hG,hgr,hall⟩
structure rF (g:av) (p:List Int) (S:Nat→List Item) (a:Nat) (x:Item):Prop where
  term:∀ R s,g.rules[x.bj]?=some R→R.right[x.dot]?=some s→0≤s→eu p a s→(⟨x.bj,x.dot+1,x.cd⟩:Item)∈S (a+1)
  pred:∀ R s i R',g.rules[x.bj]?=some R→R.right[x.dot]?=some s→s < 0→g.rules[i]?=some R'→R'.left = -1 - s→(⟨i,0,a⟩:Item)∈S a
  null:∀ R s,g.rules[x.bj]?=some R→R.right[x.dot]?=some s→s < 0→(aw g false).getD (-1 - s).toNat false=true→(⟨x.bj,x.dot+1,x.cd⟩:Item)∈S a
  comp:∀ R,g.rules[x.bj]?=some R→x.dot=R.right.length→x.cd < a→∀ y∈S x.cd,D5 g R.left S a y
theorem rF.grow {g:av} {p:List Int} {S S':Nat→List Item} {a:Nat} {x:Item} (h:rF g p S a x) (hg:Grow a S S'):rF g p S' a x where
  term:=fun R s h1 h2 h3 h4=>hg.mem (h.term R s h1 h2 h3 h4)
  pred:=fun R s i R' h1 h2 h3 h4 h5=>hg.mem (h.pred R s i R' h1 h2 h3 h4 h5)
  null:=fun R s h1 h2 h3 h4=>hg.mem (h.null R s h1 h2 h3 h4)
  comp:=fun R h1 h2 h3 y hy R' h4 h5=>hg.mem (h.comp R h1 h2 h3 y (by rw[(hg x.cd).2 h3] at hy; exact hy) R' h4 h5)
set_option maxHeartbeats 4000000 in
theorem Ij (c:Nat) (g:av) (hr:aR g=true) (p:List Int) (hp:p.length≤60) (S:Nat→List Item) (B at0:Nat) (x:Item) (K:List (Nat × bE)) (H:View) (hC:Ch H c g p (bk (aw g false)) S B (p.length+1) K) (hG:Good g p S) (ha:at0≤p.length) (hB:B+17200 < 1000000000000)
    (hx:x∈S at0):aD Tryz.prog 56 [.ptr c 0 0,ak at0,.agg (dx x)] H fun _ H'=>∃ S',Ch H' c g p (bk (aw g false)) S' (B+17200) (p.length+1) K∧Good g p S'∧Grow at0 S S'∧rF g p S' at0 x:=by
  have hf:=aO hr
  have hxs:=hG.sound _ _ hx
  have hsm:=hxs.small hf
  have hxs0:=hxs
  obtain ⟨R,hR,hdl,hff,hxsp⟩:=hxs
  have hmem:=List.mem_of_getElem? hR
  have hrl:=hf.right R hmem
  have hlf:=hf.left R hmem
  have hns:=hf.au
  obtain ⟨sid,mid,hbox⟩:=hC.box
  refine aD.of mixed qd ?_
  simp (disch:=omega) only [↓wr,↓reduceIte,wq,ai,ah,ak,ae,af,ag,aj,isNil,Nat.reduceEqDiff,Nat.reduceAdd,Nat.reduceLT,Nat.reduceLeDiff,Int.reduceNeg,Int.reduceToNat,reduceCtorEq,k8,dx,hbox,aJ,encI,List.getElem?_map,hR]
  refine fun b hb=>?_
  rw[set_set]
  have hC2:=hC.new hb (o:=.arr 3 [[gi R.left,.bc (R.right.map fun x=>[gi x]),gi R.prec]]) (by simp)
  generalize View.set H b _=H2 at hC2 ⊢
  have hb2:=hC2.kept _ (List.mem_cons_self ..)
  simp only at hb2
  refine aq.eq (fun e=>?_) (fun e=>?_)
  · have e2:x.dot=R.right.length:=by omega
    have hsp:Sp g p [-1 - R.left] x.cd at0:=by
      rw[e2,List.take_length] at hxsp
      exact .ca _ _ R x.cd at0 at0 (by omega) hmem (by omega) hxsp (.nil _)
    simp (disch:=omega) only [↓wr,↓reduceIte,wq,ai,ah,ak,ae,af,ag,aj,isNil,Nat.reduceEqDiff,Nat.reduceAdd,Nat.reduceLT,Nat.reduceLeDiff,Int.reduceNeg,Int.reduceToNat,reduceCtorEq,hb2]
    refine az.ez ((BY c g hf p hp _ S B at0 x.cd _ _ hC2 hG ha hff (by omega) R.left (by omega) hsp).mono ?_)
    rintro r H3 ⟨S1,hC3,hG1,hgr,hw⟩
    simp (disch:=omega) only [↓wr,↓reduceIte,wq,ai,ah,ak,ae,af,ag,aj,isNil,Nat.reduceEqDiff,Nat.reduceAdd,Nat.reduceLT,Nat.reduceLeDiff,Int.reduceNeg,Int.reduceToNat,reduceCtorEq]
    refine ⟨S1,hC3.drop.more (by omega),hG1,hgr,⟨fun R' s h1 h2 h3 h4=>?_,fun R' s i Q h1 h2=>?_,fun R' s h1 h2=>?_,fun R' h1 h2 h3=>?_⟩⟩
    · rw[hR] at h1; simp at h1; subst h1
      have:=(List.getElem?_eq_some_iff.1 h2).1
      omega
    · rw[hR] at h1; simp at h1; subst h1
      have:=(List.getElem?_eq_some_iff.1 h2).1
      omega
    · rw[hR] at h1; simp at h1; subst h1
      have:=(List.getElem?_eq_some_iff.1 h2).1
      omega
    · rw[hR] at h1; simp at h1; subst h1
      exact hw
  · have hlt:x.dot < R.right.length:=by omega
    have hs:R.right[x.dot]?=some (R.right[x.dot]'(by omega)):=List.getElem?_eq_getElem (by omega)
    generalize R.right[x.dot]'(by omega)=s at hs
    simp (disch:=omega) only [↓wr,↓reduceIte,wq,ai,ah,ak,ae,af,ag,aj,isNil,Nat.reduceEqDiff,Nat.reduceAdd,Nat.reduceLT,Nat.reduceLeDiff,Int.reduceNeg,Int.reduceToNat,reduceCtorEq,hb2]
    refine fun b3 hb3=>?_
    rw[set_set]
    have hC3:=hC2.new hb3 (o:=.arr 3 [[.val (.int .i64 x.bj),.val (.int .i64 (x.dot+1)),.val (.int .i64 x.cd)]]) (by simp)
    have hbb:b≠b3:=by rintro rfl; rw[hb2] at hb3; simp at hb3
    simp only[if_neg hbb]
    generalize View.set H2 b3 _=H3 at hC3 ⊢
    have hb4:=hC3.kept _ (List.mem_cons_self ..)
    simp only at hb4
    obtain ⟨sid3,mid3,hbox3⟩:=hC3.box
    have hb5:=hC3.kept (b,_) (List.mem_cons_of_mem _ (List.mem_cons_self ..))
    simp only at hb5
    have hsym:=fun hn:s < 0=>hf.neg hmem (List.mem_of_getElem? hs) hn
    have hla:=hG.len hf hp at0
    simp (disch:=omega) only [↓wr,↓reduceIte,wq,ai,ah,ak,ae,af,ag,aj,isNil,Nat.reduceEqDiff,Nat.reduceAdd,Nat.reduceLT,Nat.reduceLeDiff,Int.reduceNeg,Int.reduceToNat,reduceCtorEq,hb2,hs,List.getElem?_map]
    have hdone:∀ S1:Nat→List Item,(0≤s→eu p at0 s→(⟨x.bj,x.dot+1,x.cd⟩:Item)∈S1 (at0+1))→(s < 0→∀ i R',g.rules[i]?=some R'→R'.left = -1 - s→(⟨i,0,at0⟩:Item)∈S1 at0) →
        (s < 0→(aw g false).getD (-1 - s).toNat false=true→(⟨x.bj,x.dot+1,x.cd⟩:Item)∈S1 at0)→rF g p S1 at0 x:=by
      intro S1 k1 k2 k3
      refine ⟨fun R' s' h1 h2 h3 h4=>?_,fun R' s' i Q h1 h2 h3 h4 h5=>?_,fun R' s' h1 h2 h3 h4=>?_,fun R' h1 h2 h3=>?_⟩
      · rw[hR] at h1; simp at h1; subst h1
        rw[hs] at h2; simp at h2; subst h2
        exact k1 h3 h4
      · rw[hR] at h1; simp at h1; subst h1
        rw[hs] at h2; simp at h2; subst h2
        exact k2 h3 i Q h4 h5
      · rw[hR] at h1; simp at h1; subst h1
        rw[hs] at h2; simp at h2; subst h2
        exact k3 h3 h4
      · rw[hR] at h1; simp at h1; subst h1
        omega
    have hla1:=hG.len hf hp (at0+1)
    refine aq.dec (fun h0=>?_) (fun h0=>?_)
    · have hput:eu p at0 s→at0 < p.length→aD Tryz.prog 100 [.ptr c 0 0,ak (at0+1),.agg (dx ⟨x.bj,x.dot+1,x.cd⟩)] H3 fun _ H'=>∃ S',Ch H' c g p (bk (aw g false)) S' (B+17200) (p.length+1) K∧Good g p S'∧Grow at0 S S'∧rF g p S' at0 x:=by
        intro hfit hap
        have hsd:Sound g p (at0+1) ⟨x.bj,x.dot+1,x.cd⟩:=hxs0.on hR hs (.term s [] at0 (at0+1) h0 hfit (.nil _))
        refine (wK c g p _ S B (p.length+1) (at0+1) ⟨x.bj,x.dot+1,x.cd⟩ _ _ hC3 (by omega) (by omega) (by omega) (by omega) ⟨by simp; omega,by simp; omega,by simp; omega⟩).mono fun r H4 hC4=>?_
        exact ⟨_,hC4.drop.drop.more (by omega),hG.put hsd (hG.top _ x hx) (by omega),lV S _ (by omega),hdone _ (fun _ _=>uD _ _ _) (fun h=>by omega) (fun h=>by omega)⟩
      simp (disch:=omega) only [↓wr,↓reduceIte,wq,ai,ah,ak,ae,af,ag,aj,isNil,Nat.reduceEqDiff,Nat.reduceAdd,Nat.reduceLT,Nat.reduceLeDiff,Int.reduceNeg,Int.reduceToNat,reduceCtorEq,hbox3,encI]
      refine aq.dec (fun h1=>?_) (fun h1=>?_)
      · have hpc:p[at0]?=some (p[at0]'(by omega)):=List.getElem?_eq_getElem (by omega)
        generalize p[at0]'(by omega)=pc at hpc
        simp (disch:=omega) only [↓wr,↓reduceIte,wq,ai,ah,ak,ae,af,ag,aj,isNil,Nat.reduceEqDiff,Nat.reduceAdd,Nat.reduceLT,Nat.reduceLeDiff,Int.reduceNeg,Int.reduceToNat,reduceCtorEq,hbox3,encI,hpc,List.getElem?_map]
        refine aq.eq (fun e1=>?_) (fun e1=>?_)
        · simp (disch:=omega) only [↓wr,↓reduceIte,wq,ai,ah,ak,ae,af,ag,aj,isNil,Nat.reduceEqDiff,Nat.reduceAdd,Nat.reduceLT,Nat.reduceLeDiff,Int.reduceNeg,Int.reduceToNat,reduceCtorEq,hb4]
          refine az.ez ((hput ⟨pc,hpc,.inl e1⟩ (by omega)).mono fun r H4 h4=>?_)
          simp (disch:=omega) only [↓wr,↓reduceIte,wq,ai,ah,ak,ae,af,ag,aj,isNil,Nat.reduceEqDiff,Nat.reduceAdd,Nat.reduceLT,Nat.reduceLeDiff,Int.reduceNeg,Int.reduceToNat,reduceCtorEq]
          exact h4
        · simp (disch:=omega) only [↓wr,↓reduceIte,wq,ai,ah,ak,ae,af,ag,aj,isNil,Nat.reduceEqDiff,Nat.reduceAdd,Nat.reduceLT,Nat.reduceLeDiff,Int.reduceNeg,Int.reduceToNat,reduceCtorEq,hbox3,encI,hpc,List.getElem?_map]
          refine aq.eq (fun e2=>?_) (fun e2=>?_)
          · simp (disch:=omega) only [↓wr,↓reduceIte,wq,ai,ah,ak,ae,af,ag,aj,isNil,Nat.reduceEqDiff,Nat.reduceAdd,Nat.reduceLT,Nat.reduceLeDiff,Int.reduceNeg,Int.reduceToNat,reduceCtorEq,hb4]
            refine az.ez ((hput ⟨pc,hpc,.inr e2⟩ (by omega)).mono fun r H4 h4=>?_)
            simp (disch:=omega) only [↓wr,↓reduceIte,wq,ai,ah,ak,ae,af,ag,aj,isNil,Nat.reduceEqDiff,Nat.reduceAdd,Nat.reduceLT,Nat.reduceLeDiff,Int.reduceNeg,Int.reduceToNat,reduceCtorEq]
            exact h4
          · simp (disch:=omega) only [↓wr,↓reduceIte,wq,ai,ah,ak,ae,af,ag,aj,isNil,Nat.reduceEqDiff,Nat.reduceAdd,Nat.reduceLT,Nat.reduceLeDiff,Int.reduceNeg,Int.reduceToNat,reduceCtorEq]
            refine ⟨S,hC3.drop.drop.more (by omega),hG,.refl _ _,hdone _ (fun _ hfit=>?_) (fun h=>by omega) (fun h=>by omega)⟩
            obtain ⟨pc',h5,h6⟩:=hfit
            rw[hpc] at h5; simp at h5; subst h5
            omega
      · simp (disch:=omega) only [↓wr,↓reduceIte,wq,ai,ah,ak,ae,af,ag,aj,isNil,Nat.reduceEqDiff,Nat.reduceAdd,Nat.reduceLT,Nat.reduceLeDiff,Int.reduceNeg,Int.reduceToNat,reduceCtorEq]
        refine ⟨S,hC3.drop.drop.more (by omega),hG,.refl _ _,hdone _ (fun _ hfit=>?_) (fun h=>by omega) (fun h=>by omega)⟩
        obtain ⟨pc',h5,h6⟩:=hfit
        have:=(List.getElem?_eq_some_iff.1 h5).1
        omega
    · have hlen:=eT hr false
      have hsy:=hsym (by omega)
      have hnb:(aw g false)[(-1 - s).toNat]?=some ((aw g false).getD (-1 - s).toNat false):=by
        simp[List.getD_eq_getElem?_getD,show (-1 - s).toNat < (aw g false).length by omega]
      generalize hnv:(aw g false).getD (-1 - s).toNat false=nb at hnb
      simp (disch:=omega) only [↓wr,↓reduceIte,wq,ai,ah,ak,ae,af,ag,aj,isNil,Nat.reduceEqDiff,Nat.reduceAdd,Nat.reduceLT,Nat.reduceLeDiff,Int.reduceNeg,Int.reduceToNat,reduceCtorEq,hbox3,bk,hnb,List.getElem?_map]
      refine aq.split (fun hnt=>?_) (fun hnt=>?_)
      · have hsd:Sound g p at0 ⟨x.bj,x.dot+1,x.cd⟩:=hxs0.on hR hs (by
          obtain ⟨Q,hQ,hQl,hQs⟩:=D4 hr _ (hnv.trans hnt)
          have:=(hf.left Q hQ).1
          exact .ca s [] Q at0 at0 at0 (by omega) hQ (by omega) (hQs p at0) (.nil _))
        simp (disch:=omega) only [↓wr,↓reduceIte,wq,ai,ah,ak,ae,af,ag,aj,isNil,Nat.reduceEqDiff,Nat.reduceAdd,Nat.reduceLT,Nat.reduceLeDiff,Int.reduceNeg,Int.reduceToNat,reduceCtorEq,hb4]
        refine az.ez ((wK c g p _ S B (p.length+1) at0 ⟨x.bj,x.dot+1,x.cd⟩ _ _ hC3 (by omega) (by omega) (by omega) (by omega) ⟨by simp; omega,by simp; omega,by simp; omega⟩).mono fun r H4 hC4=>?_)
        simp (disch:=omega) only [↓wr,↓reduceIte,wq,ai,ah,ak,ae,af,ag,aj,isNil,Nat.reduceEqDiff,Nat.reduceAdd,Nat.reduceLT,Nat.reduceLeDiff,Int.reduceNeg,Int.reduceToNat,reduceCtorEq]
        refine az.ez ((ra c g hf p hp _ _ _ at0 _ _ hC4 (hG.put hsd (hG.top _ x hx) ha) ha (by omega) (-1 - s) ((hG.top _ x hx).ask hxs0 hR hs)).mono ?_)
        rintro r2 H5 ⟨S2,hC5,hG5,hgr5,hp5⟩
        simp (disch:=omega) only [↓wr,↓reduceIte,wq,ai,ah,ak,ae,af,ag,aj,isNil,Nat.reduceEqDiff,Nat.reduceAdd,Nat.reduceLT,Nat.reduceLeDiff,Int.reduceNeg,Int.reduceToNat,reduceCtorEq]
        exact ⟨S2,hC5.drop.drop.more (by omega),hG5,(lV S _ (Nat.le_refl _)).trans hgr5,hdone _ (fun h=>by omega) (fun _=>hp5) (fun _ _=>hgr5.mem (uD _ _ _))⟩
      · simp (disch:=omega) only [↓wr,↓reduceIte,wq,ai,ah,ak,ae,af,ag,aj,isNil,Nat.reduceEqDiff,Nat.reduceAdd,Nat.reduceLT,Nat.reduceLeDiff,Int.reduceNeg,Int.reduceToNat,reduceCtorEq]
        refine az.ez ((ra c g hf p hp _ _ _ at0 _ _ hC3 hG ha (by omega) (-1 - s) ((hG.top _ x hx).ask hxs0 hR hs)).mono ?_)
        rintro r2 H5 ⟨S2,hC5,hG5,hgr5,hp5⟩
        simp (disch:=omega) only [↓wr,↓reduceIte,wq,ai,ah,ak,ae,af,ag,aj,isNil,Nat.reduceEqDiff,Nat.reduceAdd,Nat.reduceLT,Nat.reduceLeDiff,Int.reduceNeg,Int.reduceToNat,reduceCtorEq]
        exact ⟨S2,hC5.drop.drop.more (by omega),hG5,hgr5,hdone _ (fun h=>by omega) (fun _=>hp5) (fun _ h=>by rw[hnv,hnt] at h; simp at h)⟩
end Gv
