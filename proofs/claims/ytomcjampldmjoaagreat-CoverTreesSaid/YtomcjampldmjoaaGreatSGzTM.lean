/-
  Part 13 of the proof: what the machine does and what the functions answer.
  Conditions: those that each lemma names.
-/
import Derived.Test.YtomcjampldmjoaaGreatSGzTL
set_option linter.unusedSimpArgs false
set_option linter.unusedVariables false
set_option linter.unusedSimpArgs false
set_option maxRecDepth 100000
namespace Gv
open Go Go.Proofs
def mP:SC :=
  .seq (ak [aR 66 .lss 65 64]) <|
  .seq (.cond (.tmp 66) (.skip) (.exit 0)) <|
  .seq (.block 1 (.seq (ak [aN 67 1 63 65,an 68 67,ae 8 68]) <|
  .seq (.seq (ak [ae 69 8,ay 70 .geq 69 0]) <|
  .cond (.tmp 70) (.seq (ak [ae 71 0,ae 72 0,bK 73 72,aq 74 5 73,an 75 74,ae 76 8,((some 77),.op (.bB 1 1 [(.val (.int .i64 0))] [(0,(.tmp 76))])),((some 78),.op (.app 1 8 (.tmp 75) (.tmp 77))),bK 79 71,aq 80 5 79,(none,.op (.store 1 (.tmp 80) (.tmp 78)))]) <|
  .exit 1) (.skip)) <|
  .seq (ak [ae 81 0,ae 82 8,((some 83),.op (.arith .sub (.val (.val (.int .i64 (-1)))) (.tmp 82))),aM 84 210 [81,83],ae 9 84]) <|
  .seq (.seq (ak [ae 85 9,ay 86 .eql 85 0]) <|
  .cond (.tmp 86) (.seq (ak [aH 4 0]) <|
  .ret) (.skip)) <|
  ak [ae 87 6,ae 88 9,((some 89),.op (.mm true (.tmp 87) (.tmp 88))),ae 6 89])) <|
  ak [ay 90 .add 65 1,ae 65 90]
def gM:SF:=⟨.seq (ak [aH 4 0]) <|
  .seq (.seq (ak [ae 10 0,bK 11 10,aq 12 4 11,an 13 12,aQ 14 13,ay 15 .eql 14 0]) <|
  .cond (.tmp 15) (.seq (ak [aH 4 0]) <|
  .ret) (.skip)) <|
  .seq (ak [ae 16 0,bK 17 16,aq 18 4 17,an 19 18,((some 20),.op (.idx 1 (.tmp 19) (.val (.val (.int .i64 0))))),an 21 20,ae 5 21]) <|
  .seq (.seq (.region false [⟨none,[ae 22 5,ay 23 .lss 22 0,ae 24 23]⟩,⟨(some (24,false)),[ae 25 5,ae 26 0,bK 27 26,aq 28 0 27,aq 29 2 28,an 30 29,aQ 31 30,aR 32 .geq 25 31]⟩,⟨none,[bI 33 24 32,ae 34 33]⟩,⟨(some (34,false)),[ae 35 0,bK 36 35,aq 37 0 36,aq 38 2 37,an 39 38,ae 40 5,aN 41 3 39 40,aq 42 0 41,an 43 42,ae 44 1,aR 45 .neq 43 44]⟩,⟨none,[bI 46 34 45]⟩]) <|
  .cond (.tmp 46) (.seq (ak [aH 4 0]) <|
  .ret) (.skip)) <|
  .seq (ak [ae 47 0,ae 48 0,bK 49 48,aq 50 4 49,an 51 50,((some 52),.op (.slice 1 (.tmp 51) (some (.val (.val (.int .i64 1)))) none)),bK 53 47,aq 54 4 53,(none,.op (.store 1 (.tmp 54) (.tmp 52)))]) <|
  .seq (ak [aH 6 0]) <|
  .seq (.seq (ak [ae 55 0,bK 56 55,aq 57 0 56,aq 58 2 57,an 59 58,ae 60 5,aN 61 3 59 60,aq 62 1 61,an 63 62,aQ 64 63,aH 65 0]) <|
  .block 0 (.loop mP)) <|
  .seq (ak [ae 91 0,ae 92 0,bK 93 92,aq 94 6 93,an 95 94,ae 96 5,((some 97),.op (.bB 1 1 [(.val (.int .i64 0))] [(0,(.tmp 96))])),((some 98),.op (.app 1 8 (.tmp 95) (.tmp 97))),bK 99 91,aq 100 6 99,(none,.op (.store 1 (.tmp 100) (.tmp 98)))]) <|
  .seq (ak [ae 101 6,ay 102 .add 101 1,ae 4 102]) <|
  .ret,
  [.tmp 4],103⟩
theorem im:aU Tryz.prog 210 []=some gM:=by kernel_rfl
def y0:SF:=⟨.seq (ak [cr 2 0,((some 4),.op (.aX (.val (.val (.pointer none))))),aH 5 0]) <|
  .seq (.seq (.region false [⟨none,[aS 8 4 2,aM 9 45 [8],cm 10 9,ae 11 10]⟩,⟨(some (11,false)),[ae 12 1,aQ 13 12,ay 14 .gtr 13 300]⟩,⟨none,[bI 15 11 14]⟩]) <|
  .cond (.tmp 15) (.seq (ak [((some 4),.op (.aX (.val (.val (.pointer none))))),aH 5 0]) <|
  .ret) (.skip)) <|
  .seq (ak [aS 16 4 2,ae 17 1,((some 18),.op (.build [(.emp 1),(.emp 1),(.emp 1),(.val (.int .i64 0)),(.emp 1),(.emp 1),(.emp 1)] [(0,4,(.tmp 16)),(4,1,(.tmp 17))])),((some 19),.op (.box (.tmp 18))),ae 6 19]) <|
  .seq (ak [ae 20 6,aq 21 3 2,an 22 21,aM 23 210 [20,22],ae 7 23]) <|
  .seq (.seq (ak [ae 24 6,bK 25 24,aq 26 4 25,an 27 26,aQ 28 27,ay 29 .gtr 28 0]) <|
  .cond (.tmp 29) (.seq (ak [((some 4),.op (.aX (.val (.val (.pointer none))))),aH 5 0]) <|
  .ret) (.skip)) <|
  .seq (ak [ae 30 6,ae 31 7,ae 4 30,ae 5 31]) <|
  .ret,
  [.tmp 4,.tmp 5],32⟩
theorem BA:aU Tryz.prog 170 [2]=some y0:=by kernel_rfl
def yQ:SF:=⟨.seq (ak [cr 2 0,((some 4),.op (.aX (.val (.emp 1)))),aH 5 0]) <|
  .seq (ak [aS 9 4 2,ae 10 1,aM 11 170 [9,10],ae 8 11,bV 12 0 8,bV 13 1 8,ae 6 12,ae 7 13]) <|
  .seq (.seq (ak [ae 14 7,ay 15 .eql 14 0]) <|
  .cond (.tmp 15) (.seq (ak [((some 4),.op (.aX (.val (.emp 1)))),aH 5 1]) <|
  .ret) (.skip)) <|
  .seq (ak [ae 16 6,bK 17 16,aq 18 5 17,an 19 18,ae 4 19,aH 5 0]) <|
  .ret,
  [.tmp 4,.tmp 5],20⟩
theorem BP:aU Tryz.prog 111 [2]=some yQ:=by kernel_rfl
def fO (g:ao) (rest:List Int) (uw up:V):List V:=[.aY (g.ax.map cg),.aY (g.au.map fun s=>[gs s]),.aY (g.rules.map aJ),gi g.start,encI rest,uw,up]
def FA (g:ao) (b:Nat) (rest W Po:List Int) (H:View):Prop:=∃ uw up,bC H [(.sl b 0 1 7,7,[fO g rest uw up]),(uw,1,aZ W),(up,1,aZ Po)]
theorem vB {g:ao} {f:Nat} {n:Int} {rest:List Int} {x:Wk} (hn:n < 0) (h:bJ g f [n] rest=some x):1≤x.high:=by
  cases f with
  | zero=>rw[kj hn] at h; simp at h
  | succ f =>
    cases rest with
    | nil=>rw[fX hn] at h; simp at h
    | cons t rest =>
      rw[ee hn] at h
      cases hr:dQ g t with
      | none=>rw[hr] at h; simp at h
      | some R =>
        rw[hr] at h
        simp only at h
        split at h
        · cases hw:bJ g f R.right rest with
          | none=>rw[hw] at h; simp at h
          | some y =>
            rw[hw] at h
            simp only[dU] at h
            simp at h; subst h
            simp[p0]
        · simp at h
theorem Jd (k:Int) (rest:List Int):iw 1 (.aY ([gi k] :: rest.map fun x=>[gi x])) (some (.val (.int .i64 1))) none=some (.aY (rest.map fun x=>[gi x]),.none,[]):=by
  have:asNat (.val (.int .i64 1))=some 1:=rfl
  simp[iw,bound,this,List.all_map]
  rw[List.take_of_length_le (by simp)]
def D1 (g:ao) (b:Nat) (o:Option Wk) (W Po:List Int) (r:V) (H:View):Prop:=match o with
  | some x=>r=gi x.high∧FA g b x.rest (W ++ x.word) (Po ++ x.post) H
  | none=>r=gi 0∧∃ rest W Po,rest.length≤300∧FA g b rest W Po H
theorem D1.bad {g:ao} {b:Nat} {W Po W' Po' rest:List Int} {H:View} (hl:rest.length≤300) (h:FA g b rest W' Po' H):D1 g b none W Po (gi 0) H:=⟨rfl,rest,W',Po',hl,h⟩
set_option maxHeartbeats 4000000 in
theorem Oo (g:ao) (hg:g.Ok) (hf:g.gm) (b:Nat):∀ (f:Nat) (n:Int) (rest W Po:List Int) (H:View),f≤300→0≤n→n < g.au.length→rest.length≤f→W.length+6 * rest.length≤10000→Po.length+rest.length≤10000→FA g b rest W Po H →
    az Tryz.prog 210 [.ptr b 0 0,gi n] H fun r H'=>D1 g b (bJ g f [-1 - n] rest) W Po r H':=by
  intro f
  induction f with
  | zero =>
    intro n rest W Po H0 hf3 hn0 hn1 hl hW hP hw
    have hrest:rest=[]:=List.length_eq_zero_iff.1 (by omega)
    subst hrest
    have hw0:=hw
    obtain ⟨uw,up,ho⟩:=hw
    have hb:=ho.is 0 rfl (by simp)
    refine az.of mixed im ?_
    simp (disch:=omega) only [↓wr,↓reduceIte,wq,ah,ag,aj,Nat.reduceAdd,Nat.reduceLT,Nat.reduceLeDiff,Int.reduceNeg,reduceCtorEq,gM,hb,fO,encI]
    refine ar.eq (fun _=>?_) (fun e=>absurd rfl e)
    simp (disch:=omega) only [↓wr,↓reduceIte,wq,Int.reduceNeg,reduceCtorEq]
    rw[fX (by omega)]
    exact .bad (by simp) hw0
  | succ f ih =>
    intro n rest W Po H0 hf3 hn0 hn1 hl hW hP hw
    have hw0:=hw
    obtain ⟨uw,up,ho⟩:=hw
    have hb:=ho.is 0 rfl (by simp)
    cases rest with
    | nil =>
      refine az.of mixed im ?_
      simp (disch:=omega) only [↓wr,↓reduceIte,wq,ah,ag,aj,Nat.reduceAdd,Nat.reduceLT,Nat.reduceLeDiff,Int.reduceNeg,reduceCtorEq,gM,hb,fO,encI]
      refine ar.eq (fun _=>?_) (fun e=>absurd rfl e)
      simp (disch:=omega) only [↓wr,↓reduceIte,wq,Int.reduceNeg,reduceCtorEq]
      rw[fX (by omega)]
      exact .bad (by simp) hw0
    | cons t rest =>
      simp only[List.length_cons] at hl hW hP
      have bad:(∀ R,dQ g t=some R→R.left≠n)→D1 g b (bJ g (f+1) [-1 - n] (t :: rest)) W Po (gi 0) H0:=fun h=>by
        have:bJ g (f+1) [-1 - n] (t :: rest)=none:=by
          rw[ee (by omega)]
          cases hr:dQ g t with
          | none=>rfl
          | some R =>
            simp only
            rw[if_neg (by have:=h R hr; omega)]
        rw[this]
        exact .bad (by simp; omega) hw0
      refine az.of mixed im ?_
      simp (disch:=omega) only [↓wr,↓reduceIte,wq,ah,ag,aj,Nat.reduceAdd,Nat.reduceLT,Nat.reduceLeDiff,Int.reduceNeg,reduceCtorEq,gM,hb,fO,encI]
      refine ar.eq (fun e=>absurd e (by omega)) (fun _=>?_)
      simp (disch:=omega) only [↓wr,↓reduceIte,wq,ag,Nat.reduceAdd,Nat.reduceLT,Int.reduceNeg,Int.reduceToNat,reduceCtorEq,hb,fO,encI,List.getElem?_cons_zero]
      refine ar.dec (fun ht=>?_) (fun ht=>?_)
      · simp (disch:=omega) only [↓wr,↓reduceIte,wq,Nat.reduceEqDiff,Int.reduceNeg,reduceCtorEq]
        exact bad fun R hR=>by unfold dQ at hR; rw[if_neg (by omega)] at hR; simp at hR
      · obtain ⟨k,rfl⟩:∃ k:Nat,t=k:=⟨t.toNat,by omega⟩
        simp (disch:=omega) only [↓wr,↓reduceIte,wq,ag,aj,Nat.reduceEqDiff,Nat.reduceAdd,Nat.reduceLT,Int.reduceNeg,reduceCtorEq,hb,fO,encI]
        refine ar.dec (fun hk=>?_) (fun hk=>?_)
        · simp (disch:=omega) only [↓wr,↓reduceIte,wq,Nat.reduceEqDiff,Int.reduceNeg,reduceCtorEq]
          exact bad fun R hR=>by
            unfold dQ at hR
            rw[if_pos (by omega),Int.toNat_natCast] at hR
            have:=(List.getElem?_eq_some_iff.1 hR).1
            omega
        · have hR:g.rules[k]?=some (g.rules[k]'(by omega)):=List.getElem?_eq_getElem (by omega)
          have hmr:=List.mem_of_getElem? hR
          generalize g.rules[k]'(by omega)=R at hR hmr
          have hra:dQ g (k:Int)=some R:=by rw[dQ,if_pos (by omega),Int.toNat_natCast]; exact hR
          have hrw:=hg.ba R hmr
          have hr6:=hf.right R hmr
          simp (disch:=omega) only [↓wr,↓reduceIte,wq,ag,Nat.reduceEqDiff,Nat.reduceAdd,Nat.reduceLT,Int.reduceNeg,reduceCtorEq,hb,fO,encI,List.getElem?_map,hR,aJ]
          refine ar.ne (fun he=>?_) (fun he=>?_)
          · simp (disch:=omega) only [↓wr,↓reduceIte,wq,Int.reduceNeg,reduceCtorEq]
            exact bad fun R' hR'=>by rw[hra] at hR'; simp at hR'; subst hR'; exact he
          · simp (disch:=omega) only [↓wr,↓reduceIte,wq,aj,aa,Nat.reduceEqDiff,Nat.reduceAdd,Nat.reduceLT,Nat.reduceLeDiff,Int.reduceNeg,reduceCtorEq,hb,fO,encI,List.getElem?_map,hR,aJ,Jd]
            have o1:=ho.put (es':=[fO g rest uw up]) rfl rfl
            have hnone:∀ i,bJ g f (R.right.take i) rest=none→bJ g (f+1) [-1 - n] ((k:Int) :: rest)=none:=fun i h=>by
              rw[ee (by omega),hra]
              simp only
              rw[if_pos (by omega)]
              have e:=lM g f (R.right.take i) (R.right.drop i) rest
              rw[List.take_append_drop,h] at e
              rw[e]
            refine bb.up R.right.length (fun i T H'=>∃ x,bJ g f (R.right.take i) rest=some x∧FA g b x.rest (W ++ x.word) (Po ++ x.post) H'∧T 0=.ptr b 0 0∧T 5=gi k∧T 6=gi x.high∧T 63=encI R.right∧T 64=gi R.right.length∧T 65=gi i)
              ⟨_,dU _ _ _,⟨uw,up,by simpa [fO,encI] using o1⟩,rfl,rfl,rfl,rfl,rfl,rfl⟩ ?_
            clear hb o1 ho hw0 bad
            rintro i j T H1 hj ⟨x,hx,hw1,t0,t5,t6,t63,t64,t65⟩
            obtain ⟨z1,z2,z3,z4⟩:=qz hf.right f _ _ x hx
            simp (disch:=omega) only [↓wr,↓reduceIte,wq,ag,Int.reduceNeg,reduceCtorEq,mP,t64,t65,encI]
            refine ar.dec (fun hi=>?_) (fun hi=>?_)
            · have hg1:R.right[i]?=some (R.right[i]'(by omega)):=List.getElem?_eq_getElem (by omega)
              have hmem:R.right[i]'(by omega)∈R.right:=List.getElem_mem _
              have htk:R.right.take (i+1)=R.right.take i ++ [R.right[i]'(by omega)]:=by rw[List.take_add_one,hg1]; rfl
              have hap:=lM g f (R.right.take i) [R.right[i]'(by omega)] rest
              rw[← htk,hx] at hap
              generalize R.right[i]'(by omega)=s at hg1 hmem htk hap
              simp only at hap
              have hs64:=hrw.2.2.2 s hmem
              unfold bP at hs64
              simp only[List.length_take] at z3
              simp (disch:=omega) only [↓wr,↓reduceIte,wq,ag,Nat.reduceEqDiff,Nat.reduceLT,Int.reduceNeg,t63,t65,encI,List.getElem?_map,hg1]
              refine ar.dec (fun hs=>?_) (fun hs=>?_)
              · obtain ⟨uw1,up1,o1⟩:=hw1
                have hb1:=o1.is 0 rfl (by simp)
                simp (disch:=omega) only [↓wr,↓reduceIte,wq,af,Nat.reduceEqDiff,Nat.reduceAdd,Nat.reduceLT,Int.reduceNeg,reduceCtorEq,t0,hb1,fO]
                intro m hm
                rw[bO]
                simp (disch:=omega) only [↓wr,↓reduceIte,wq,Nat.reduceEqDiff,Int.reduceNeg]
                refine bW ((o1.at 1 (by simp)).fresh hm) (by simp[aP]) (by unfold aE; simp; omega) (by unfold aE; simp; omega) ?_
                intro u2 H2 o2 _
                simp only[List.eraseIdx_cons_succ,List.eraseIdx_cons_zero] at o2
                have hb2:=o2.is 1 rfl (by simp)
                have c2:=o2.head.cells
                have k2:=o2.head.fB
                simp (disch:=omega) only [↓wr,↓reduceIte,wq,ag,aa,af,Nat.reduceEqDiff,Nat.reduceAdd,Nat.reduceLT,Nat.reduceLeDiff,Int.reduceNeg,reduceCtorEq,t0,t5,t65,hb2,fO,c2,k2]
                have o3:=(o2.at 1 (by simp)).put (es':=[fO g x.rest u2 up1]) rfl rfl
                simp only[List.eraseIdx_cons_succ,List.eraseIdx_cons_zero] at o3
                rw[fN hs,dU] at hap
                simp only[Option.map_some] at hap
                refine aI hj (by omega) ⟨_,hap,⟨u2,up1,?_⟩,t0,t5,?_,t63,t64,rfl⟩
                · simpa [fO,nW,rA] using o3
                · exact t6.trans (by simp[nW,rA])
              · simp (disch:=omega) only [↓wr,↓reduceIte,wq,ag,Nat.reduceEqDiff,Int.reduceNeg,reduceCtorEq,t0]
                have hcall:=ih (-1 - s) x.rest (W ++ x.word) (Po ++ x.post) H1 (by omega) (by omega) (by
                  have:=hf.sym R hmr s hmem
                  unfold iu at this
                  rw[if_neg (by omega)] at this
                  simpa using this) (by omega) (by simp; omega) (by simp; omega) hw1
                rw[show -1 - (-1 - s)=s by omega] at hcall
                refine aB.gq (hcall.mono ?_)
                intro r H2 hr
                cases hy:bJ g f [s] x.rest with
                | none =>
                  rw[hy] at hr hap
                  obtain ⟨rfl,rest',W',Po',hl',hw'⟩:=hr
                  simp (disch:=omega) only [↓wr,↓reduceIte,wq,ag,Int.reduceNeg]
                  refine ar.eq (fun _=>?_) (fun e=>absurd rfl e)
                  simp (disch:=omega) only [↓wr,↓reduceIte,wq,ag,Nat.reduceEqDiff,Int.reduceNeg,reduceCtorEq]
                  rw[hnone (i+1) hap]
                  exact .bad hl' hw'
                | some y =>
                  rw[hy] at hr hap
                  obtain ⟨rfl,hw2⟩:=hr
                  have hyh:=vB (by omega) hy
                  simp (disch:=omega) only [↓wr,↓reduceIte,wq,ag,Int.reduceNeg]
                  refine ar.eq (fun e=>absurd e (by omega)) (fun _=>?_)
                  simp (disch:=omega) only [↓wr,↓reduceIte,wq,ag,Nat.reduceEqDiff,Int.reduceNeg,reduceCtorEq,t0,t6,t65]
                  simp only[Option.map_some] at hap
                  refine aI hj (by omega) ⟨_,hap,?_,t0,t5,?_,t63,t64,rfl⟩
                  · simpa [nW] using hw2
                  · show gi (if (y.high:Int) > x.high then (y.high:Int) else x.high)=gi ((nW x y).high:Nat)
                    congr 2
                    simp only[nW]
                    split <;> omega
            · rw[List.take_of_length_le (by omega)] at hx
              obtain ⟨uw1,up1,o1⟩:=hw1
              have hb1:=o1.is 0 rfl (by simp)
              simp (disch:=omega) only [↓wr,↓reduceIte,wq,af,Nat.reduceEqDiff,Nat.reduceAdd,Nat.reduceLT,Int.reduceNeg,reduceCtorEq,t0,t5,hb1,fO]
              intro m hm
              rw[bO]
              simp (disch:=omega) only [↓wr,↓reduceIte,wq,Nat.reduceEqDiff,Int.reduceNeg]
              refine bW ((o1.at 2 (by simp)).fresh hm) (by simp[aP]) (by unfold aE; simp; omega) (by unfold aE; simp; omega) ?_
              intro u2 H2 o2 _
              simp only[List.eraseIdx_cons_succ,List.eraseIdx_cons_zero] at o2
              have hb2:=o2.is 1 rfl (by simp)
              have c2:=o2.head.cells
              have k2:=o2.head.fB
              simp (disch:=omega) only [↓wr,↓reduceIte,wq,ag,aa,Nat.reduceEqDiff,Nat.reduceAdd,Nat.reduceLT,Nat.reduceLeDiff,Int.reduceNeg,reduceCtorEq,t0,t6,hb2,fO,c2,k2]
              have o3:=(o2.at 1 (by simp)).put (es':=[fO g x.rest uw1 u2]) rfl rfl
              simp only[List.eraseIdx_cons_succ,List.eraseIdx_cons_zero] at o3
              have hfin:bJ g (f+1) [-1 - n] ((k:Int) :: rest)=some ⟨x.rest,x.word ++ [],x.post ++ [(k:Int)],max (x.high+1) 0⟩:=by
                rw[ee (by omega),hra]
                simp only
                rw[if_pos (by omega),hx]
                simp only[dU,Option.map_some,p0]
              rw[hfin]
              refine ⟨?_,uw1,u2,?_⟩
              · simp
              · have o4:=o3.perm (.cons _ (.swap _ _ _))
                simpa [fO] using o4
end Gv
set_option linter.unusedSimpArgs false
set_option maxRecDepth 100000
namespace Gv
open Go Go.Proofs
theorem Pr:rq.Ok:=by
  refine ⟨by unfold aL; decide,by unfold aL; decide,by unfold aL; decide,by unfold bP; decide,?_,?_⟩
  · intro t ht; simp[rq] at ht
  · intro r hr; simp[rq] at hr
theorem tZ:∀ (l:List aO) (acc:List Int),(l.foldl dk acc).length≤acc.length+l.length
  | [],acc=>by simp
  | r :: l,acc=>by
    have h1:=tZ l (dk acc r)
    have h2:(dk acc r).length≤acc.length+1:=by unfold dk; split <;> simp
    simp only[List.foldl_cons,List.length_cons]
    omega
theorem Np (p q:List Bool) (l:List aO):(bQ p q l).length≤l.length:=by
  have h1:=tZ (l.filter (bH p q)) []
  have h2:=List.length_filter_le (bH p q) l
  unfold bQ
  simp only[List.length_nil] at h1
  omega
theorem N1 {g:ao} (hg:g.Ok) (p q:List Bool):(jj g (bm (bQ p q g.rules)) p q).Ok:=by
  have ho:=Np p q g.rules
  have h3:=hg.rules
  unfold aL at h3
  have hb:∀ x,bP (bm (bQ p q g.rules) x):=fun x=>by
    have:=Ck (bQ p q g.rules) x
    unfold bP; omega
  have hb2:∀ x,bP (-1 - bm (bQ p q g.rules) x):=fun x=>by
    have:=Ck (bQ p q g.rules) x
    unfold bP; omega
  refine ⟨hg.ax,?_,?_,hb _,hg.term,fun r hr=>?_⟩
  · unfold aL; simp only[jj,List.length_map]; omega
  · have:=List.length_filter_le (bH p q) g.rules
    unfold aL; simp only[jj,List.length_map]; omega
  · simp only[jj,List.mem_map,List.mem_filter] at hr
    obtain ⟨r0,⟨h0,_⟩,rfl⟩:=hr
    obtain ⟨_,i2,i3,i4⟩:=hg.ba r0 h0
    refine ⟨hb _,i2,by unfold aL at i3 ⊢; simpa [bj] using i3,fun x hx=>?_⟩
    simp only[bj,List.mem_map] at hx
    obtain ⟨s,hs,rfl⟩:=hx
    split
    · exact hb2 _
    · exact i4 s hs
section
variable {g r:ao} {p q:List Bool} {o:List Int}
theorem dW.ok (h:dW g p q o r) (hg:g.Ok):r.Ok:=by
  have:=N1 hg p q
  rw[← h.oe,← h.re] at this
  exact this
theorem dW.small (h:dW g p q o r) (hs:g.Small):r.Small:=by
  have:=pZ h.nodup h.inside
  have:=hs.names
  exact ⟨by rw[h.len,h.ax]; omega⟩
end
end Gv
set_option linter.unusedSimpArgs false
set_option maxRecDepth 100000
namespace Gv
open Go Go.Proofs
def lH:SC :=
  .seq (.seq (ak [ae 11 5,ae 12 0,aQ 13 12,aR 14 .lss 11 13]) <|
  .cond (.tmp 14) (.skip) (.exit 0)) <|
  .seq (.block 1 (.seq (ak [ae 17 0,ae 18 5,aN 19 1 17 18,an 20 19,ae 21 1,ae 22 5,aN 23 1 21 22,an 24 23,((some 25),.op (.beq false (.tmp 20) (.tmp 24)))]) <|
  .cond (.tmp 25) (.seq (ak [bg 4 false]) <|
  .ret) (.skip))) <|
  ak [ae 15 5,ay 16 .add 15 1,ae 5 16]
def nt:SF:=⟨.seq (ak [bg 4 false]) <|
  .seq (.seq (ak [ae 6 0,aQ 7 6,ae 8 1,aQ 9 8,aR 10 .neq 7 9]) <|
  .cond (.tmp 10) (.seq (ak [bg 4 false]) <|
  .ret) (.skip)) <|
  .seq (.seq (ak [aH 5 0]) <|
  .block 0 (.loop lH)) <|
  .seq (ak [bg 4 true]) <|
  .ret,
  [.tmp 4],26⟩
theorem td:aU Tryz.prog 35 []=some nt:=by kernel_rfl
theorem Mw (a b:List Bool) (ha:aL a) (H:View):az Tryz.prog 35 [bE a,bE b] H fun r H'=>r=gb (a == b)∧H'=H:=by
  refine az.of mixed td ?_
  unfold aL at ha
  simp (disch:=omega) only [↓wr,↓reduceIte,wq,ah,ag,aj,Nat.reduceEqDiff,Nat.reduceAdd,Nat.reduceLeDiff,reduceCtorEq,nt,bE]
  refine ar.ne (fun h=>?_) (fun h=>?_)
  · simp (disch:=omega) only [↓wr,↓reduceIte,wq,reduceCtorEq]
    rw[By (by omega)]
  · simp (disch:=omega) only [↓wr,wq]
    refine bb.intro (fun k T H'=>∃ i:Nat,i+k=a.length∧a.take i=b.take i∧T 0=bE a∧T 1=bE b∧T 5=gi i∧H'=H) a.length ?_ ?_
    · exact ⟨0,by omega,by simp,rfl,rfl,rfl,rfl⟩
    · rintro k T H' ⟨i,hk,hi,h0,h1,h5,rfl⟩
      simp (disch:=omega) only [↓wr,↓reduceIte,wq,ag,aj,Nat.reduceEqDiff,reduceCtorEq,lH,h0,h5,bE]
      refine ar.dec (fun hc=>?_) (fun hc=>?_)
      · have h2:a[i]?=some (a[i]'(by omega)):=List.getElem?_eq_getElem (by omega)
        have h3:b[i]?=some (b[i]'(by omega)):=List.getElem?_eq_getElem (by omega)
        simp (disch:=omega) only [↓wr,↓reduceIte,wq,Nat.reduceEqDiff,Nat.reduceLT,reduceCtorEq,h0,h1,h5,bE,List.getElem?_map,h2,h3]
        refine ar.split (fun hd=>?_) (fun hd=>?_)
        · simp (disch:=omega) only [↓wr,↓reduceIte,wq,ag,Nat.reduceEqDiff,reduceCtorEq]
          have:(a == b)=false:=by
            simp only[beq_eq_false_iff_ne]; rintro rfl; simp at hd
          rw[this]
        · simp (disch:=omega) only [↓wr,↓reduceIte,wq,ag,Nat.reduceEqDiff,reduceCtorEq,h0,h1,h5,bE]
          refine ⟨k - 1,by omega,i+1,by omega,?_,rfl⟩
          have hd:a[i]'(by omega)=b[i]'(by omega):=by simpa using hd
          rw[List.take_add_one,List.take_add_one,hi,h2,h3,hd]
      · simp (disch:=omega) only [↓wr,↓reduceIte,wq,Nat.reduceEqDiff,reduceCtorEq]
        have:a=b:=by
          have e:i=a.length:=by omega
          rw[List.take_of_length_le (by omega),List.take_of_length_le (by omega)] at hi
          exact hi
        rw[this]; simp
theorem Mx (a b:List Bool) (ha:aL a):aF Tryz.prog 35 [bE a,bE b] (gb (a == b)) :=
  aF.of (by simp[gO]) ((Mw a b ha _).mono fun r H' h h' _=>by rw[h.1]; exact .tree _ (.val _))
end Gv
set_option linter.unusedSimpArgs false
set_option maxRecDepth 100000
namespace Gv
open Go Go.Proofs
theorem bytes_beq (a b:ByteArray):(a == b)=decide (a=b):=by
  cases a with | mk a=>cases b with | mk b =>
  rw[Bool.eq_iff_iff]
  show (ByteArray.beq ⟨a⟩ ⟨b⟩=true)↔_
  simp only[ByteArray.beq]
  simp
theorem CY (a b:ByteArray):gH a b=decide (a=b):=by
  cases a with | mk a=>cases b with | mk b =>
  rw[Bool.eq_iff_iff]
  simp[gH]
theorem oH {α:Type} {a b:List α} {i:Nat} {x y:α} (hx:a[i]?=some x) (hy:b[i]?=some y) (h:a.take i=b.take i) (e:x=y):a.take (i+1)=b.take (i+1):=by
  rw[List.take_add_one,List.take_add_one,h,hx,hy,e]
theorem qY {α:Type} {a b:List α} {i:Nat} (ha:a.length≤i) (hb:b.length≤i) (h:a.take i=b.take i):a=b:=by
  rwa [List.take_of_length_le ha,List.take_of_length_le hb] at h
theorem vF {α:Type} {a b:List α} {i:Nat} {x y:α} (hx:a[i]?=some x) (hy:b[i]?=some y) (e:x≠y):a≠b:=by
  rintro rfl; rw[hx] at hy; exact e (by simpa using hy)
theorem q6 {α:Type} {a b:List α} (h:¬ a.length=b.length):a≠b:=fun e=>h (by rw[e])
theorem zg (x y:Term):gj Tryz.prog 9998 #[.string x.name,.int .i64 x.level,.int .i64 x.assoc] #[.string y.name,.int .i64 y.level,.int .i64 y.assoc]
    [{ name:= "Name",type:=9,offset:=0,embedded:=false,tag:= "",pkgPath:= "",byteOffset:=0 },{ name:= "Level",type:=3,offset:=1,embedded:=false,tag:= "",pkgPath:= "",byteOffset:=16 },
        { name:= "Assoc",type:=3,offset:=2,embedded:=false,tag:= "",pkgPath:= "",byteOffset:=24 }] (x.name == y.name && (x.level == y.level && (x.assoc == y.assoc && true))) :=
  .str _ _ _ _ _ (by decide) Tryz.underlying9 rfl rfl (.int _ _ _ _ _ _ (by decide) Tryz.underlying3 rfl rfl (.int _ _ _ _ _ _ (by decide) Tryz.underlying3 rfl rfl .nil))
theorem Ia (x y:Term):(x.name == y.name && (x.level == y.level && (x.assoc == y.assoc && true)))=decide (x=y):=by
  rw[bytes_beq,Bool.eq_iff_iff]
  cases x; cases y
  simp
theorem OI (a b:Int):(a == b)=decide (a=b):=by rw[Bool.eq_iff_iff]; simp
theorem Ml (x y:aO):decide (x=y)=(decide (x.left=y.left) && (decide (x.prec=y.prec) && decide (x.right=y.right))):=by
  cases x; cases y
  rw[Bool.eq_iff_iff]
  simp[and_comm]
theorem E9 (x y:ao):decide (x=y)=(decide (x.ax=y.ax) && (decide (x.au=y.au) && (decide (x.rules=y.rules) && decide (x.start=y.start)))):=by
  cases x; cases y
  rw[Bool.eq_iff_iff]
  simp
theorem Dw (g k:ao):∀ v∈[V.agg (al g),V.agg (al k)],Tree v:=by
  intro v hv; simp at hv
  rcases hv with rfl | rfl <;> exact ch _ (cE _)
def mS:SC :=
  .seq (.seq (ak [ae 42 5,aq 43 0 2,an 44 43,aQ 45 44,aR 46 .lss 42 45]) <|
  .cond (.tmp 46) (.skip) (.exit 0)) <|
  .seq (.block 1 (.seq (ak [aq 49 0 2,an 50 49,ae 51 5,aN 52 3 50 51,aS 53 3 52,aq 54 0 3,an 55 54,ae 56 5,aN 57 3 55 56,aS 58 3 57,((some 59),.op (.old (.binOp .neq 119 (.tmp 53) (.tmp 58) 119) 4))]) <|
  .cond (.tmp 59) (.seq (ak [bg 4 false]) <|
  .ret) (.skip))) <|
  ak [ae 47 5,ay 48 .add 47 1,ae 5 48]
def mf:SC :=
  .seq (.seq (ak [ae 60 6,aq 61 1 2,an 62 61,aQ 63 62,aR 64 .lss 60 63]) <|
  .cond (.tmp 64) (.skip) (.exit 2)) <|
  .seq (.block 3 (.seq (ak [aq 67 1 2,an 68 67,ae 69 6,aN 70 1 68 69,an 71 70,aq 72 1 3,an 73 72,ae 74 6,aN 75 1 73 74,an 76 75,((some 77),.op (.iV .neq (.tmp 71) (.tmp 76)))]) <|
  .cond (.tmp 77) (.seq (ak [bg 4 false]) <|
  .ret) (.skip))) <|
  ak [ae 65 6,ay 66 .add 65 1,ae 6 66]
def mN:SC :=
  .seq (.seq (ak [ae 78 7,aq 79 2 2,an 80 79,aQ 81 80,aR 82 .lss 78 81]) <|
  .cond (.tmp 82) (.skip) (.exit 4)) <|
  .seq (.block 5 (.seq (ak [aq 85 2 2,an 86 85,ae 87 7,aN 88 3 86 87,aS 89 3 88,aq 90 2 3,an 91 90,ae 92 7,aN 93 3 91 92,aS 94 3 93,((some 8),.op (.alloc [(.val (.int .i64 0)),(.emp 1),(.val (.int .i64 0))])),((some 9),.op (.alloc [(.val (.int .i64 0)),(.emp 1),(.val (.int .i64 0))])),(none,.op (.store 3 (.tmp 8) (.tmp 89))),(none,.op (.store 3 (.tmp 9) (.tmp 94)))]) <|
  .seq (.region false [⟨none,[aq 95 0 8,an 96 95,aq 97 0 9,an 98 97,aR 99 .neq 96 98,ae 100 99]⟩,⟨(some (100,false)),[aq 101 2 8,an 102 101,aq 103 2 9,an 104 103,aR 105 .neq 102 104]⟩,⟨none,[bI 106 100 105,ae 107 106]⟩,⟨(some (107,false)),[aq 108 1 8,an 109 108,aq 110 1 9,an 111 110,aM 112 17 [109,111],cm 113 112]⟩,⟨none,[bI 114 107 113]⟩]) <|
  .cond (.tmp 114) (.seq (ak [bg 4 false]) <|
  .ret) (.skip))) <|
  ak [ae 83 7,ay 84 .add 83 1,ae 7 84]
def pa:SF:=⟨.seq (ak [cr 2 0,cr 3 1,bg 4 false]) <|
  .seq (.seq (.region false [⟨none,[aq 10 0 2,an 11 10,aQ 12 11,aq 13 0 3,an 14 13,aQ 15 14,aR 16 .neq 12 15,ae 17 16]⟩,⟨(some (17,false)),[aq 18 1 2,an 19 18,aQ 20 19,aq 21 1 3,an 22 21,aQ 23 22,aR 24 .neq 20 23]⟩,⟨none,[bI 25 17 24,ae 26 25]⟩,⟨(some (26,false)),[aq 27 2 2,an 28 27,aQ 29 28,aq 30 2 3,an 31 30,aQ 32 31,aR 33 .neq 29 32]⟩,⟨none,[bI 34 26 33,ae 35 34]⟩,⟨(some (35,false)),[aq 36 3 2,an 37 36,aq 38 3 3,an 39 38,aR 40 .neq 37 39]⟩,⟨none,[bI 41 35 40]⟩]) <|
  .cond (.tmp 41) (.seq (ak [bg 4 false]) <|
  .ret) (.skip)) <|
  .seq (.seq (ak [aH 5 0]) <|
  .block 0 (.loop mS)) <|
  .seq (.seq (ak [aH 6 0]) <|
  .block 2 (.loop mf)) <|
  .seq (.seq (ak [aH 7 0]) <|
  .block 4 (.loop mN)) <|
  .seq (ak [bg 4 true]) <|
  .ret,
  [.tmp 4],115⟩
theorem uJ:aU Tryz.prog 34 [2,3]=some pa:=by kernel_rfl
set_option maxHeartbeats 2000000 in
theorem Dh (g k:ao) (hg:g.Ok):aF Tryz.prog 34 [.agg (al g),.agg (al k)] (gb (decide (g=k))):=by
  refine aF.val (Dw g k) fun H=>?_
  rw[E9]
  refine az.of mixed uJ ?_
  have h1:=hg.ax
  have h2:=hg.au
  have h3:=hg.rules
  unfold aL at h1 h2 h3
  simp (disch:=omega) only [↓wr,↓reduceIte,wq,ah,ag,aj,Nat.reduceEqDiff,Nat.reduceAdd,Nat.reduceLT,Nat.reduceLeDiff,pa,al,encS]
  repeat' (first | (refine ar.dec (fun _=>?_) (fun _=>?_)) | (refine ar.eq (fun _=>?_) (fun _=>?_)) | (refine ar.ne (fun _=>?_) (fun _=>?_)) | (refine ar.split (fun _=>?_) (fun _=>?_)) | (simp (disch:=omega) only [↓wr,↓reduceIte,wq,ag,aj,Nat.reduceEqDiff,Nat.reduceAdd,Nat.reduceLT,reduceCtorEq]))
  · rename_i e; rw[decide_eq_false (q6 (by omega))]; rfl
  · rename_i e; rw[decide_eq_false (p:=g.au=k.au) (q6 (by omega))]; simp
  · rename_i e; rw[decide_eq_false (p:=g.rules=k.rules) (q6 (by omega))]; simp
  · rename_i e; rw[decide_eq_false e]; simp
  rename_i l1 l2 l3 l4
  refine bb.up g.ax.length (fun i T _=>g.ax.take i=k.ax.take i∧T 2=.aT (al g) 0∧T 3=.aT (al k) 0∧T 5=gi i) ⟨by simp,rfl,rfl,rfl⟩ ?_
  rintro i m T H hm ⟨hi,t2,t3,t5⟩
  simp (disch:=omega) only [↓wr,↓reduceIte,wq,ag,aj,Nat.reduceEqDiff,Nat.reduceAdd,Nat.reduceLT,mS,t2,t5,al,encS]
  refine ar.dec (fun hc=>?_) (fun hc=>?_)
  · have hx:=List.getElem?_eq_getElem (l:=g.ax) (i:=i) (by omega)
    have hy:=List.getElem?_eq_getElem (l:=k.ax) (i:=i) (by omega)
    generalize g.ax[i]'(by omega)=x at hx
    generalize k.ax[i]'(by omega)=y at hy
    simp (disch:=omega) only [↓wr,↓reduceIte,wq,Nat.reduceEqDiff,Nat.reduceAdd,Nat.reduceLT,Nat.reduceLeDiff,t2,t3,t5,List.getElem?_map,hx,hy,cg,al,encS]
    refine ze (xs:=#[.string x.name,.int .i64 x.level,.int .i64 x.assoc]) (ys:=#[.string y.name,.int .i64 y.level,.int .i64 y.assoc]) Tryz.underlying119 (by kernel_rfl) (by kernel_rfl) ?_ ?_ (zg x y) (.inr ⟨rfl,rfl⟩) ?_
    · rfl
    · rfl
    rw[Ia]
    simp (disch:=omega) only [↓wr,↓reduceIte,wq]
    refine ar.split (fun e=>?_) (fun e=>?_)
    · simp (disch:=omega) only [↓wr,↓reduceIte,wq,ag,Nat.reduceEqDiff,reduceCtorEq,t5]
      exact aI hm (by omega) ⟨oH hx hy hi (by simpa using e),t2,t3,rfl⟩
    · simp (disch:=omega) only [↓wr,↓reduceIte,wq,ag,Nat.reduceEqDiff,reduceCtorEq,t5]
      rw[decide_eq_false (vF hx hy (by simpa using e))]; rfl
  have e1:g.ax=k.ax:=qY (by omega) (by omega) hi
  simp (disch:=omega) only [↓wr,↓reduceIte,wq,Nat.reduceEqDiff,reduceCtorEq]
  clear hi hc hm
  refine bb.up g.au.length (fun i T _=>g.au.take i=k.au.take i∧T 2=.aT (al g) 0∧T 3=.aT (al k) 0∧T 6=gi i) ⟨by simp,t2,t3,rfl⟩ ?_
  clear t2 t3 t5 T H i m
  rintro i m T H hm ⟨hi,t2,t3,t5⟩
  simp (disch:=omega) only [↓wr,↓reduceIte,wq,ag,aj,Nat.reduceEqDiff,Nat.reduceAdd,Nat.reduceLT,mf,t2,t5,al,encS]
  refine ar.dec (fun hc=>?_) (fun hc=>?_)
  · have hx:=List.getElem?_eq_getElem (l:=g.au) (i:=i) (by omega)
    have hy:=List.getElem?_eq_getElem (l:=k.au) (i:=i) (by omega)
    generalize g.au[i]'(by omega)=x at hx
    generalize k.au[i]'(by omega)=y at hy
    simp (disch:=omega) only [↓wr,↓reduceIte,wq,Nat.reduceEqDiff,Nat.reduceAdd,Nat.reduceLT,t2,t3,t5,List.getElem?_map,hx,hy,al,encS,CY]
    refine ar.split (fun e=>?_) (fun e=>?_)
    · simp (disch:=omega) only [↓wr,↓reduceIte,wq,ag,Nat.reduceEqDiff,reduceCtorEq,t5]
      exact aI hm (by omega) ⟨oH hx hy hi (by simpa using e),t2,t3,rfl⟩
    · simp (disch:=omega) only [↓wr,↓reduceIte,wq,ag,Nat.reduceEqDiff,reduceCtorEq,t5]
      rw[decide_eq_false (p:=g.au=k.au) (vF hx hy (by simpa using e))]; simp
  have e2:g.au=k.au:=qY (by omega) (by omega) hi
  simp (disch:=omega) only [↓wr,↓reduceIte,wq,Nat.reduceEqDiff,reduceCtorEq]
  clear hi hc hm
  refine bb.up g.rules.length (fun i T _=>g.rules.take i=k.rules.take i∧T 2=.aT (al g) 0∧T 3=.aT (al k) 0∧T 7=gi i) ⟨by simp,t2,t3,rfl⟩ ?_
  clear t2 t3 t5 T H i m
  rintro i m T H hm ⟨hi,t2,t3,t5⟩
  simp (disch:=omega) only [↓wr,↓reduceIte,wq,ag,aj,Nat.reduceEqDiff,Nat.reduceAdd,Nat.reduceLT,reduceCtorEq,mN,t2,t5,al,encS]
  refine ar.dec (fun hc=>?_) (fun hc=>?_)
  · have hx:=List.getElem?_eq_getElem (l:=g.rules) (i:=i) (by omega)
    have hy:=List.getElem?_eq_getElem (l:=k.rules) (i:=i) (by omega)
    have hmx:g.rules[i]'(by omega)∈g.rules:=List.getElem_mem _
    generalize g.rules[i]'(by omega)=x at hx hmx
    generalize k.rules[i]'(by omega)=y at hy
    have hsx:=(hg.ba x hmx).2.2.1
    simp (disch:=omega) only [↓wr,↓reduceIte,wq,aa,Nat.reduceEqDiff,Nat.reduceAdd,Nat.reduceLT,Nat.reduceLeDiff,t2,t3,t5,List.getElem?_map,hx,hy,aJ,encI,al,encS]
    intro n hn
    try simp (disch:=omega) only [↓wr,↓reduceIte,wq,ah,ag,aj,aa,ab,af,ai,isNil,Nat.reduceEqDiff,Nat.reduceAdd,Nat.reduceLT,Nat.reduceLeDiff,Int.reduceNeg,Int.reduceToNat,reduceCtorEq,t2,t3,t5,aJ,encI]
    intro n2 hn2
    have hmn:=(bU hn2 bT).1
    try simp (disch:=omega) only [↓wr,↓reduceIte,wq,ag,aa,Nat.reduceEqDiff,Nat.reduceAdd,Nat.reduceLT,Nat.reduceLeDiff,hmn,hmn.symm]
    have hne:x≠y→V.val (Value.bool false)=V.val (Value.bool (decide (g.ax=k.ax) && (decide (g.au=k.au) && (decide (g.rules=k.rules) && decide (g.start=k.start))))):=fun e=>by
      rw[decide_eq_false (p:=g.rules=k.rules) (vF hx hy e)]; simp
    repeat' (first | (refine ar.dec (fun _=>?_) (fun _=>?_)) | (refine ar.eq (fun _=>?_) (fun _=>?_)) | (refine ar.ne (fun _=>?_) (fun _=>?_)) | (refine ar.split (fun _=>?_) (fun _=>?_)) | (refine aB.pure (BF x.right y.right hsx) (by kernel_rfl) ?_) | (simp (disch:=omega) only [↓wr,↓reduceIte,wq,ag,Nat.reduceEqDiff,Nat.reduceAdd,Nat.reduceLT,reduceCtorEq,t5,hmn.symm]))
    · rename_i e; exact hne fun h=>e (by rw[h])
    · rename_i e; exact hne fun h=>e (by rw[h])
    · rename_i e3 e2 e1
      refine aI hm (by omega) ⟨oH hx hy hi ?_,t2,t3,rfl⟩
      cases x; cases y
      simp_all
    · rename_i e; exact hne fun h=>by rw[h] at e; simp at e
  · have e3:g.rules=k.rules:=qY (by omega) (by omega) hi
    simp (disch:=omega) only [↓wr,↓reduceIte,wq,Nat.reduceEqDiff,reduceCtorEq]
    simp[e1,e2,e3,l4]
end Gv
set_option linter.unusedSimpArgs false
set_option maxRecDepth 100000
namespace Gv
open Go Go.Proofs
def eX:SC :=
  .seq (ak [aR 14 .lss 13 12]) <|
  .seq (.cond (.tmp 14) (.skip) (.exit 0)) <|
  .seq (.block 1 (.seq (ak [ae 15 13,ae 5 15]) <|
  .seq (ak [ae 16 0,ae 17 5,aN 18 3 16 17,aS 19 3 18,ae 20 1,ae 21 5,aN 22 3 20 21,aS 23 3 22,((some 24),.op (.old (.binOp .neq 119 (.tmp 19) (.tmp 23) 119) 4))]) <|
  .cond (.tmp 24) (.seq (ak [bg 4 false]) <|
  .ret) (.skip))) <|
  ak [ay 25 .add 13 1,ae 13 25]
def fD:SF:=⟨.seq (ak [bg 4 false]) <|
  .seq (.seq (ak [ae 6 0,aQ 7 6,ae 8 1,aQ 9 8,aR 10 .neq 7 9]) <|
  .cond (.tmp 10) (.seq (ak [bg 4 false]) <|
  .ret) (.skip)) <|
  .seq (.seq (ak [ae 11 0,aQ 12 11,aH 13 0]) <|
  .block 0 (.loop eX)) <|
  .seq (ak [bg 4 true]) <|
  .ret,
  [.tmp 4],26⟩
theorem ji:aU Tryz.prog 165 []=some fD:=by kernel_rfl
def fU:SC :=
  .seq (ak [aR 14 .lss 13 12]) <|
  .seq (.cond (.tmp 14) (.skip) (.exit 0)) <|
  .seq (.block 1 (.seq (ak [ae 15 13,ae 5 15]) <|
  .seq (ak [ae 16 0,ae 17 5,aN 18 1 16 17,an 19 18,ae 20 1,ae 21 5,aN 22 1 20 21,an 23 22,((some 24),.op (.iV .neq (.tmp 19) (.tmp 23)))]) <|
  .cond (.tmp 24) (.seq (ak [bg 4 false]) <|
  .ret) (.skip))) <|
  ak [ay 25 .add 13 1,ae 13 25]
def gB:SF:=⟨.seq (ak [bg 4 false]) <|
  .seq (.seq (ak [ae 6 0,aQ 7 6,ae 8 1,aQ 9 8,aR 10 .neq 7 9]) <|
  .cond (.tmp 10) (.seq (ak [bg 4 false]) <|
  .ret) (.skip)) <|
  .seq (.seq (ak [ae 11 0,aQ 12 11,aH 13 0]) <|
  .block 0 (.loop fU)) <|
  .seq (ak [bg 4 true]) <|
  .ret,
  [.tmp 4],26⟩
theorem kL:aU Tryz.prog 166 []=some gB:=by kernel_rfl
def iC:SC :=
  .seq (ak [aR 14 .lss 13 12]) <|
  .seq (.cond (.tmp 14) (.skip) (.exit 0)) <|
  .seq (.block 1 (.seq (ak [ae 15 13,ae 5 15]) <|
  .seq (ak [ae 16 0,ae 17 5,aN 18 1 16 17,an 19 18,ae 20 1,ae 21 5,aN 22 1 20 21,an 23 22,aR 24 .neq 19 23]) <|
  .cond (.tmp 24) (.seq (ak [bg 4 false]) <|
  .ret) (.skip))) <|
  ak [ay 25 .add 13 1,ae 13 25]
def jl:SF:=⟨.seq (ak [bg 4 false]) <|
  .seq (.seq (ak [ae 6 0,aQ 7 6,ae 8 1,aQ 9 8,aR 10 .neq 7 9]) <|
  .cond (.tmp 10) (.seq (ak [bg 4 false]) <|
  .ret) (.skip)) <|
  .seq (.seq (ak [ae 11 0,aQ 12 11,aH 13 0]) <|
  .block 0 (.loop iC)) <|
  .seq (ak [bg 4 true]) <|
  .ret,
  [.tmp 4],26⟩
theorem oo:aU Tryz.prog 208 []=some jl:=by kernel_rfl
def zb:SF:=⟨.seq (ak [cr 2 0,cr 3 1,bg 4 false]) <|
  .seq (.region false [⟨none,[aq 5 0 2,an 6 5,aq 7 0 3,an 8 7,aR 9 .eql 6 8,ae 10 9]⟩,⟨(some (10,true)),[aq 11 2 2,an 12 11,aq 13 2 3,an 14 13,aR 15 .eql 12 14]⟩,⟨none,[bM 16 10 15,ae 17 16]⟩,⟨(some (17,true)),[aq 18 1 2,an 19 18,aq 20 1 3,an 21 20,aM 22 208 [19,21]]⟩,⟨none,[bM 23 17 22,ae 4 23]⟩]) <|
  .ret,
  [.tmp 4],24⟩
theorem BM:aU Tryz.prog 168 [2,3]=some zb:=by kernel_rfl
def cL:SC :=
  .seq (ak [aR 18 .lss 17 16]) <|
  .seq (.cond (.tmp 18) (.skip) (.exit 0)) <|
  .seq (.block 1 (.seq (ak [ae 19 17,aN 20 3 15 17,aS 21 3 20,((some 8),.op (.alloc [(.val (.int .i64 0)),(.emp 1),(.val (.int .i64 0))])),ae 7 19,(none,.op (.store 3 (.tmp 8) (.tmp 21)))]) <|
  .seq (ak [ae 22 1,ae 23 7,aN 24 3 22 23,aS 25 3 24,((some 9),.op (.alloc [(.val (.int .i64 0)),(.emp 1),(.val (.int .i64 0))])),(none,.op (.store 3 (.tmp 9) (.tmp 25)))]) <|
  .seq (ak [ae 26 2,aS 27 3 8,aS 28 3 9,((some 29),.call (.tmp 26) [(.tmp 27),(.tmp 28)]),cm 30 29]) <|
  .cond (.tmp 30) (.seq (ak [bg 6 false]) <|
  .ret) (.skip))) <|
  ak [ay 31 .add 17 1,ae 17 31]
def cQ:SF:=⟨.seq (ak [bg 6 false]) <|
  .seq (.seq (ak [ae 10 0,aQ 11 10,ae 12 1,aQ 13 12,aR 14 .neq 11 13]) <|
  .cond (.tmp 14) (.seq (ak [bg 6 false]) <|
  .ret) (.skip)) <|
  .seq (.seq (ak [ae 15 0,aQ 16 15,aH 17 0]) <|
  .block 0 (.loop cL)) <|
  .seq (ak [bg 6 true]) <|
  .ret,
  [.tmp 6],32⟩
theorem ep:aU Tryz.prog 167 []=some cQ:=by kernel_rfl
def AM:SF:=⟨.seq (ak [cr 2 0,cr 3 1,bg 4 false]) <|
  .seq (.region false [⟨none,[aq 5 0 2,an 6 5,aq 7 0 3,an 8 7,aM 9 165 [6,8],ae 10 9]⟩,⟨(some (10,true)),[aq 11 1 2,an 12 11,aq 13 1 3,an 14 13,aM 15 166 [12,14]]⟩,⟨none,[bM 16 10 15,ae 17 16]⟩,⟨(some (17,true)),[aq 18 2 2,an 19 18,aq 20 2 3,an 21 20,cJ 22 167 [(.tmp 19),(.tmp 21),(.val (.fn 168 [] []))]]⟩,⟨none,[bM 23 17 22,ae 24 23]⟩,⟨(some (24,true)),[aq 25 3 2,an 26 25,aq 27 3 3,an 28 27,aR 29 .eql 26 28]⟩,⟨none,[bM 30 24 29,ae 4 30]⟩]) <|
  .ret,
  [.tmp 4],31⟩
theorem DU:aU Tryz.prog 108 [2,3]=some AM:=by kernel_rfl
theorem Lq {α:Type} {f g:α→List V} {a b:List α} (hf:∀ x,∀ v∈f x,Tree v) (hg:∀ x,∀ v∈g x,Tree v):∀ v∈[V.aY (a.map f),V.aY (b.map g)],Tree v:=by
  intro v hv; simp at hv
  rcases hv with rfl | rfl
  · exact eU _ _ fun x _=>hf x
  · exact eU _ _ fun x _=>hg x
theorem Lr (a b:List Term) (ha:aL a) (H:View):az Tryz.prog 165 [.aY (a.map cg),.aY (b.map cg)] H fun r _=>r=gb (decide (a=b)):=by
  refine az.of mixed ji ?_
  unfold aL at ha
  simp (disch:=omega) only [↓wr,↓reduceIte,wq,ah,ag,aj,Nat.reduceEqDiff,Nat.reduceAdd,Nat.reduceLeDiff,reduceCtorEq,fD]
  refine ar.ne (fun h=>?_) (fun h=>?_)
  · simp (disch:=omega) only [↓wr,↓reduceIte,wq,reduceCtorEq]
    rw[decide_eq_false (q6 (by omega))]
  · simp (disch:=omega) only [↓wr,↓reduceIte,wq,aj,reduceCtorEq]
    refine bb.up a.length (fun i T _=>a.take i=b.take i∧T 0=.aY (a.map cg)∧T 1=.aY (b.map cg)∧T 12=gi a.length∧T 13=gi i) ⟨by simp,rfl,rfl,rfl,rfl⟩ ?_
    rintro i k T H hk ⟨hi,h0,h1,h7,h8⟩
    simp (disch:=omega) only [↓wr,↓reduceIte,wq,ag,reduceCtorEq,eX,h7,h8]
    refine ar.dec (fun hc=>?_) (fun hc=>?_)
    · have h2:a[i]?=some (a[i]'(by omega)):=List.getElem?_eq_getElem (by omega)
      have h3:b[i]?=some (b[i]'(by omega)):=List.getElem?_eq_getElem (by omega)
      generalize a[i]'(by omega)=x at h2
      generalize b[i]'(by omega)=y at h3
      simp (disch:=omega) only [↓wr,↓reduceIte,wq,Nat.reduceEqDiff,Nat.reduceAdd,Nat.reduceLeDiff,reduceCtorEq,h0,h1,h8,List.getElem?_map,h2,h3,cg]
      refine ze (xs:=#[.string x.name,.int .i64 x.level,.int .i64 x.assoc]) (ys:=#[.string y.name,.int .i64 y.level,.int .i64 y.assoc]) Tryz.underlying119 (by kernel_rfl) (by kernel_rfl) ?_ ?_ (zg x y) (.inr ⟨rfl,rfl⟩) ?_
      · rfl
      · rfl
      rw[Ia]
      simp (disch:=omega) only [↓wr,↓reduceIte,wq]
      refine ar.split (fun e=>?_) (fun e=>?_)
      · simp (disch:=omega) only [↓wr,↓reduceIte,wq,ag,Nat.reduceEqDiff,reduceCtorEq,h8]
        exact aI hk (by omega) ⟨oH h2 h3 hi (by simpa using e),h0,h1,h7,rfl⟩
      · simp (disch:=omega) only [↓wr,↓reduceIte,wq,ag,Nat.reduceEqDiff,reduceCtorEq,h8]
        rw[decide_eq_false (vF h2 h3 (by simpa using e))]
    · simp (disch:=omega) only [↓wr,↓reduceIte,wq,Nat.reduceEqDiff,reduceCtorEq]
      rw[decide_eq_true (qY (by omega) (by omega) hi)]
theorem J1 (a b:List ByteArray) (ha:aL a) (H:View):az Tryz.prog 166 [encS a,encS b] H fun r _=>r=gb (decide (a=b)):=by
  refine az.of mixed kL ?_
  unfold aL at ha
  simp (disch:=omega) only [↓wr,↓reduceIte,wq,ah,ag,aj,Nat.reduceEqDiff,Nat.reduceAdd,Nat.reduceLeDiff,reduceCtorEq,gB,encS]
  refine ar.ne (fun h=>?_) (fun h=>?_)
  · simp (disch:=omega) only [↓wr,↓reduceIte,wq,reduceCtorEq]
    rw[decide_eq_false (q6 (by omega))]
  · simp (disch:=omega) only [↓wr,↓reduceIte,wq,aj,reduceCtorEq]
    refine bb.up a.length (fun i T _=>a.take i=b.take i∧T 0=encS a∧T 1=encS b∧T 12=gi a.length∧T 13=gi i) ⟨by simp,rfl,rfl,rfl,rfl⟩ ?_
    rintro i k T H hk ⟨hi,h0,h1,h7,h8⟩
    simp (disch:=omega) only [↓wr,↓reduceIte,wq,ag,reduceCtorEq,fU,h7,h8,encS]
    refine ar.dec (fun hc=>?_) (fun hc=>?_)
    · have h2:a[i]?=some (a[i]'(by omega)):=List.getElem?_eq_getElem (by omega)
      have h3:b[i]?=some (b[i]'(by omega)):=List.getElem?_eq_getElem (by omega)
      generalize a[i]'(by omega)=x at h2
      generalize b[i]'(by omega)=y at h3
      simp (disch:=omega) only [↓wr,↓reduceIte,wq,Nat.reduceEqDiff,Nat.reduceLT,reduceCtorEq,h0,h1,h8,encS,List.getElem?_map,h2,h3,CY]
      refine ar.split (fun e=>?_) (fun e=>?_)
      · simp (disch:=omega) only [↓wr,↓reduceIte,wq,ag,Nat.reduceEqDiff,reduceCtorEq,h8]
        exact aI hk (by omega) ⟨oH h2 h3 hi (by simpa using e),h0,h1,h7,rfl⟩
      · simp (disch:=omega) only [↓wr,↓reduceIte,wq,ag,Nat.reduceEqDiff,reduceCtorEq,h8]
        rw[decide_eq_false (vF h2 h3 (by simpa using e))]
    · simp (disch:=omega) only [↓wr,↓reduceIte,wq,Nat.reduceEqDiff,reduceCtorEq]
      rw[decide_eq_true (qY (by omega) (by omega) hi)]
theorem Lf (a b:List Int) (ha:aL a) (H:View):az Tryz.prog 208 [encI a,encI b] H fun r _=>r=gb (decide (a=b)):=by
  refine az.of mixed oo ?_
  unfold aL at ha
  simp (disch:=omega) only [↓wr,↓reduceIte,wq,ah,ag,aj,Nat.reduceEqDiff,Nat.reduceAdd,Nat.reduceLeDiff,reduceCtorEq,jl,encI]
  refine ar.ne (fun h=>?_) (fun h=>?_)
  · simp (disch:=omega) only [↓wr,↓reduceIte,wq,reduceCtorEq]
    rw[decide_eq_false (q6 (by omega))]
  · simp (disch:=omega) only [↓wr,↓reduceIte,wq,aj,reduceCtorEq]
    refine bb.up a.length (fun i T _=>a.take i=b.take i∧T 0=encI a∧T 1=encI b∧T 12=gi a.length∧T 13=gi i) ⟨by simp,rfl,rfl,rfl,rfl⟩ ?_
    rintro i k T H hk ⟨hi,h0,h1,h7,h8⟩
    simp (disch:=omega) only [↓wr,↓reduceIte,wq,ag,reduceCtorEq,iC,h7,h8,encI]
    refine ar.dec (fun hc=>?_) (fun hc=>?_)
    · have h2:a[i]?=some (a[i]'(by omega)):=List.getElem?_eq_getElem (by omega)
      have h3:b[i]?=some (b[i]'(by omega)):=List.getElem?_eq_getElem (by omega)
      generalize a[i]'(by omega)=x at h2
      generalize b[i]'(by omega)=y at h3
      simp (disch:=omega) only [↓wr,↓reduceIte,wq,ag,Nat.reduceEqDiff,Nat.reduceLT,reduceCtorEq,h0,h1,h8,encI,List.getElem?_map,h2,h3]
      refine ar.ne (fun e=>?_) (fun e=>?_)
      · simp (disch:=omega) only [↓wr,↓reduceIte,wq,ag,Nat.reduceEqDiff,reduceCtorEq,h8]
        rw[decide_eq_false (vF h2 h3 e)]
      · simp (disch:=omega) only [↓wr,↓reduceIte,wq,ag,Nat.reduceEqDiff,reduceCtorEq,h8]
        exact aI hk (by omega) ⟨oH h2 h3 hi e,h0,h1,h7,rfl⟩
    · simp (disch:=omega) only [↓wr,↓reduceIte,wq,Nat.reduceEqDiff,reduceCtorEq]
      rw[decide_eq_true (qY (by omega) (by omega) hi)]
theorem Kg (a b:List Term) (ha:aL a):aF Tryz.prog 165 [.aY (a.map cg),.aY (b.map cg)] (gb (decide (a=b))):=aF.val (Lq rV rV) (Lr a b ha)
theorem JA (a b:List ByteArray) (ha:aL a):aF Tryz.prog 166 [encS a,encS b] (gb (decide (a=b))):=aF.val (by
  intro v hv; simp at hv
  rcases hv with rfl | rfl <;> exact yg _) (J1 a b ha)
theorem JX (a b:List Int) (ha:aL a):aF Tryz.prog 208 [encI a,encI b] (gb (decide (a=b))):=aF.val (by
  intro v hv; simp at hv
  rcases hv with rfl | rfl <;> exact bX _) (Lf a b ha)
theorem Mr (x y:aO) (hx:aL x.right):aF Tryz.prog 168 [.agg (aJ x),.agg (aJ y)] (gb (decide (x=y))):=by
  refine aF.val (by
    intro v hv; simp at hv
    rcases hv with rfl | rfl <;> exact ch _ (eJ _)) fun H=>?_
  rw[Ml]
  refine az.of mixed BM ?_
  simp (disch:=omega) only [↓wr,↓reduceIte,wq,ah,ag,Nat.reduceEqDiff,Nat.reduceAdd,Nat.reduceLT,Nat.reduceLeDiff,zb,aJ,encI]
  repeat' (first | (refine ar.dec (fun _=>?_) (fun _=>?_)) | (refine ar.eq (fun _=>?_) (fun _=>?_)) | (refine ar.ne (fun _=>?_) (fun _=>?_)) | (refine ar.split (fun _=>?_) (fun _=>?_)) | (refine aB.pure (JX x.right y.right hx) (by kernel_rfl) ?_) | (simp (disch:=omega) only [↓wr,↓reduceIte,wq,ag,Nat.reduceEqDiff,Nat.reduceAdd,Nat.reduceLT,reduceCtorEq]))
  all_goals simp[*]
theorem Ed (a b:List aO) (ha:aL a) (hr:∀ r∈a,aL r.right) (H:View):az Tryz.prog 167 [.aY (a.map aJ),.aY (b.map aJ),.fn 168 [] []] H fun r _=>r=gb (decide (a=b)):=by
  refine az.of mixed ep ?_
  unfold aL at ha
  simp (disch:=omega) only [↓wr,↓reduceIte,wq,ah,ag,aj,Nat.reduceEqDiff,Nat.reduceAdd,Nat.reduceLeDiff,reduceCtorEq,cQ]
  refine ar.ne (fun h=>?_) (fun h=>?_)
  · simp (disch:=omega) only [↓wr,↓reduceIte,wq,reduceCtorEq]
    rw[decide_eq_false (q6 (by omega))]
  · simp (disch:=omega) only [↓wr,↓reduceIte,wq,aj,reduceCtorEq]
    refine bb.up a.length (fun i T _=>a.take i=b.take i∧T 15=.aY (a.map aJ)∧T 1=.aY (b.map aJ)∧T 2=.fn 168 [] []∧T 16=gi a.length∧T 17=gi i) ⟨by simp,rfl,rfl,rfl,rfl,rfl⟩ ?_
    rintro i k T H hk ⟨hi,h0,h1,h6,h7,h8⟩
    simp (disch:=omega) only [↓wr,↓reduceIte,wq,ag,reduceCtorEq,cL,h7,h8]
    refine ar.dec (fun hc=>?_) (fun hc=>?_)
    · have h2:a[i]?=some (a[i]'(by omega)):=List.getElem?_eq_getElem (by omega)
      have h3:b[i]?=some (b[i]'(by omega)):=List.getElem?_eq_getElem (by omega)
      have hm:a[i]'(by omega)∈a:=List.getElem_mem _
      generalize a[i]'(by omega)=x at h2 hm
      generalize b[i]'(by omega)=y at h3
      have hsx:=hr x hm
      simp (disch:=omega) only [↓wr,↓reduceIte,wq,aa,Nat.reduceEqDiff,Nat.reduceAdd,Nat.reduceLT,Nat.reduceLeDiff,h0,h1,h6,h8,List.getElem?_map,h2,h3,aJ,encI]
      intro n hn
      try simp (disch:=omega) only [↓wr,↓reduceIte,wq,ah,ag,aj,aa,ab,af,ai,isNil,Nat.reduceEqDiff,Nat.reduceAdd,Nat.reduceLT,Nat.reduceLeDiff,Int.reduceNeg,Int.reduceToNat,reduceCtorEq,h0,h1,h6,h7,h8,List.getElem?_map,h2,h3,aJ,encI]
      intro m hmd
      have hmn:=(bU hmd bT).1
      try simp (disch:=omega) only [↓wr,↓reduceIte,wq,Nat.reduceEqDiff,Nat.reduceAdd,Nat.reduceLT,Nat.reduceLeDiff,hmn.symm]
      refine aB.pure (Mr x y hsx) (by kernel_rfl) ?_
      simp (disch:=omega) only [↓wr,↓reduceIte,wq]
      refine ar.split (fun e=>?_) (fun e=>?_)
      · simp (disch:=omega) only [↓wr,↓reduceIte,wq,ag,Nat.reduceEqDiff,Nat.reduceAdd,reduceCtorEq,h8]
        exact aI hk (by omega) ⟨oH h2 h3 hi (by simpa using e),h0,h1,h6,h7,rfl⟩
      · simp (disch:=omega) only [↓wr,↓reduceIte,wq,ag,Nat.reduceEqDiff,Nat.reduceAdd,reduceCtorEq,h8]
        rw[decide_eq_false (vF h2 h3 (by simpa using e))]
    · simp (disch:=omega) only [↓wr,↓reduceIte,wq,Nat.reduceEqDiff,reduceCtorEq]
      rw[decide_eq_true (qY (by omega) (by omega) hi)]
theorem FV (a b:List aO) (ha:aL a) (hr:∀ r∈a,aL r.right):aF Tryz.prog 167 [.aY (a.map aJ),.aY (b.map aJ),.fn 168 [] []] (gb (decide (a=b))):=aF.val (by
  intro v hv; simp at hv
  rcases hv with rfl | rfl | rfl
  · exact eU _ _ fun x _=>eJ x
  · exact eU _ _ fun x _=>eJ x
  · exact B5 (by simp) (by simp)) (Ed a b ha hr)
theorem Nd (g k:ao) (hg:g.Ok):aF Tryz.prog 108 [.agg (al g),.agg (al k)] (gb (decide (g=k))):=by
  refine aF.val (Dw g k) fun H=>?_
  rw[E9]
  refine az.of mixed DU ?_
  simp (disch:=omega) only [↓wr,↓reduceIte,wq,ah,Nat.reduceEqDiff,Nat.reduceAdd,Nat.reduceLT,Nat.reduceLeDiff,AM,al,encS]
  repeat' (first | (refine ar.dec (fun _=>?_) (fun _=>?_)) | (refine ar.eq (fun _=>?_) (fun _=>?_)) | (refine ar.ne (fun _=>?_) (fun _=>?_)) | (refine ar.split (fun _=>?_) (fun _=>?_)) | (refine aB.pure (Kg g.ax k.ax hg.ax) (by kernel_rfl) ?_) | (refine aB.pure (JA g.au k.au hg.au) (by kernel_rfl) ?_) | (refine aB.pure (FV g.rules k.rules hg.rules (fun r hr=>(hg.ba r hr).2.2.1)) (by kernel_rfl) ?_) | (simp (disch:=omega) only [↓wr,↓reduceIte,wq,ag,Nat.reduceEqDiff,Nat.reduceAdd,Nat.reduceLT,reduceCtorEq]))
  all_goals simp_all [OI]
end Gv
set_option linter.unusedSimpArgs false
set_option maxRecDepth 100000
namespace Gv
open Go Go.Proofs
def Du:SF:=⟨.seq (ak [cr 1 0,bg 2 false]) <|
  .seq (ak [aS 7 4 1,aM 8 107 [7],ae 6 8,bV 9 0 6,bV 10 1 6,bV 11 2 6,((some 3),.op (.alloc [(.emp 1),(.emp 1),(.emp 1),(.val (.int .i64 0))])),(none,.op (.store 4 (.tmp 3) (.tmp 9))),ae 4 10,ae 5 11]) <|
  .seq (.region false [⟨none,[ae 12 5,ay 13 .eql 12 0,ae 14 13]⟩,⟨(some (14,true)),[aS 15 4 1,aS 16 4 3,aM 17 108 [15,16]]⟩,⟨none,[bM 18 14 17,ae 2 18]⟩]) <|
  .ret,
  [.tmp 2],19⟩
theorem Fk:aU Tryz.prog 60 [1]=some Du:=by kernel_rfl
def rr:SF:=⟨.seq (ak [cr 1 0,bg 2 false]) <|
  .seq (ak [aS 7 4 1,aM 8 67 [7],ae 6 8,bV 9 0 6,bV 10 1 6,bV 11 2 6,((some 3),.op (.alloc [(.emp 1),(.emp 1),(.emp 1),(.val (.int .i64 0))])),(none,.op (.store 4 (.tmp 3) (.tmp 9))),ae 4 10,ae 5 11]) <|
  .seq (.region false [⟨none,[ae 12 5,ay 13 .eql 12 0,ae 14 13]⟩,⟨(some (14,true)),[aS 15 4 1,aS 16 4 3,aM 17 34 [15,16]]⟩,⟨none,[bM 18 14 17,ae 2 18]⟩]) <|
  .ret,
  [.tmp 2],19⟩
theorem wU:aU Tryz.prog 38 [1]=some rr:=by kernel_rfl
theorem LD (g:ao) (hg:g.Ok) (hs:g.Small):aF Tryz.prog 60 [.agg (al g)] (gb (isRed g)):=by
  refine aF.val (di g) fun H=>?_
  refine az.of mixed Fk ?_
  simp (disch:=omega) only [↓wr,↓reduceIte,wq,ah,Nat.reduceEqDiff,Nat.reduceAdd,Nat.reduceLeDiff,Du,al,encS]
  refine aB.pure (Jv g hg hs).pure (by kernel_rfl) ?_
  unfold isRed
  generalize eR g=x
  obtain ⟨k,il,e⟩:=x
  simp (disch:=omega) only [↓wr,↓reduceIte,wq,ag,aa,Nat.reduceEqDiff,Nat.reduceAdd,Nat.reduceLT,Nat.reduceLeDiff,vH,al,encS]
  intro n hn
  refine ar.eq (fun h=>?_) (fun h=>?_)
  · simp (disch:=omega) only [↓wr,↓reduceIte,wq,Nat.reduceEqDiff,Nat.reduceAdd,Nat.reduceLT,Nat.reduceLeDiff]
    refine aB.pure (Nd g k hg) (by kernel_rfl) ?_
    simp (disch:=omega) only [↓wr,↓reduceIte,wq,Nat.reduceEqDiff,reduceCtorEq]
    simp[h]
  · simp (disch:=omega) only [↓wr,↓reduceIte,wq,Nat.reduceEqDiff,reduceCtorEq]
    simp[h]
theorem KK (g:ao) (hg:g.Ok):aF Tryz.prog 38 [.agg (al g)] (gb (isRed g)):=by
  refine aF.val (di g) fun H=>?_
  refine az.of mixed wU ?_
  simp (disch:=omega) only [↓wr,↓reduceIte,wq,ah,Nat.reduceEqDiff,Nat.reduceAdd,Nat.reduceLeDiff,rr,al,encS]
  refine aB.pure (Gj g hg).pure (by kernel_rfl) ?_
  unfold isRed
  generalize eR g=x
  obtain ⟨k,il,e⟩:=x
  simp (disch:=omega) only [↓wr,↓reduceIte,wq,ag,aa,Nat.reduceEqDiff,Nat.reduceAdd,Nat.reduceLT,Nat.reduceLeDiff,vH,al,encS]
  intro n hn
  refine ar.eq (fun h=>?_) (fun h=>?_)
  · simp (disch:=omega) only [↓wr,↓reduceIte,wq,Nat.reduceEqDiff,Nat.reduceAdd,Nat.reduceLT,Nat.reduceLeDiff]
    refine aB.pure (Dh g k hg) (by kernel_rfl) ?_
    simp (disch:=omega) only [↓wr,↓reduceIte,wq,Nat.reduceEqDiff,reduceCtorEq]
    simp[h]
  · simp (disch:=omega) only [↓wr,↓reduceIte,wq,Nat.reduceEqDiff,reduceCtorEq]
    simp[h]
end Gv
set_option maxRecDepth 100000
namespace Gv
open Go Go.Proofs
def P0:ao:=⟨[⟨⟨#[39,97,39]⟩,0,0⟩,⟨⟨#[39,98,39]⟩,0,0⟩,⟨⟨#[39,99,39]⟩,0,0⟩,⟨⟨#[39,100,39]⟩,0,0⟩],[⟨#[115]⟩,⟨#[117]⟩,⟨#[118]⟩],[⟨0,[0,(-2)],0⟩,⟨0,[1],1⟩,⟨0,[],(-1)⟩,⟨1,[(-2),2],2⟩,⟨2,[3,(-1)],3⟩],0⟩
end Gv
set_option linter.unusedSimpArgs false
set_option maxRecDepth 100000
namespace Gv
open Go Go.Proofs
def OV:ao:=⟨P0.ax,[⟨#[115]⟩],[⟨0,[1],1⟩,⟨0,[],(-1)⟩],0⟩
theorem nM:isRed OV=true:=by kernel_rfl
end Gv
set_option linter.unusedSimpArgs false
set_option maxRecDepth 100000
namespace Gv
open Go Go.Proofs
end Gv
set_option linter.unusedSimpArgs false
set_option maxRecDepth 100000
namespace Gv
open Go Go.Proofs
def pG:SF:=⟨.seq (ak [((some 2),.op (.aX (.val (.emp 1))))]) <|
  .seq (ak [((some 3),.op (.aX (.val (.emp 2)))),ae 4 0,((some 5),.op (.app 1 8 (.tmp 3) (.tmp 4))),ae 2 5]) <|
  .ret,
  [.tmp 2],6⟩
theorem tD:aU Tryz.prog 14 []=some pG:=by kernel_rfl
def my:SC :=
  .seq (.seq (ak [ae 16 4,aq 17 2 1,an 18 17,aQ 19 18,aR 20 .lss 16 19]) <|
  .cond (.tmp 20) (.skip) (.exit 0)) <|
  .seq (.block 1 (.seq (ak [aq 23 2 1,an 24 23,ae 25 4,aN 26 3 24 25,aS 27 3 26,((some 5),.op (.alloc [(.val (.int .i64 0)),(.emp 1),(.val (.int .i64 0))])),(none,.op (.store 3 (.tmp 5) (.tmp 27)))]) <|
  .seq (ak [aq 28 1 5,an 29 28,aM 30 14 [29],aq 31 1 5,(none,.op (.store 1 (.tmp 31) (.tmp 30)))]) <|
  ak [ae 32 3,aS 33 3 5,((some 34),.op (.bB 1 3 [(.val (.int .i64 0)),(.emp 1),(.val (.int .i64 0))] [(0,(.tmp 33))])),((some 35),.op (.app 3 40 (.tmp 32) (.tmp 34))),ae 3 35])) <|
  ak [ae 21 4,ay 22 .add 21 1,ae 4 22]
def pb:SF:=⟨.seq (ak [((some 1),.op (.box (.tmp 0))),((some 2),.op (.alloc [(.emp 1),(.emp 1),(.emp 1),(.val (.int .i64 0))]))]) <|
  .seq (ak [((some 6),.op (.aX (.val (.emp 2)))),aq 7 0 1,an 8 7,((some 9),.op (.app 3 32 (.tmp 6) (.tmp 8))),aq 10 0 1,(none,.op (.store 1 (.tmp 10) (.tmp 9)))]) <|
  .seq (ak [((some 11),.op (.aX (.val (.emp 2)))),aq 12 1 1,an 13 12,((some 14),.op (.app 1 16 (.tmp 11) (.tmp 13))),aq 15 1 1,(none,.op (.store 1 (.tmp 15) (.tmp 14)))]) <|
  .seq (ak [((some 3),.op (.aX (.val (.emp 1))))]) <|
  .seq (.seq (ak [aH 4 0]) <|
  .block 0 (.loop my)) <|
  .seq (ak [ae 36 3,aq 37 2 1,(none,.op (.store 1 (.tmp 37) (.tmp 36)))]) <|
  .seq (ak [aS 38 4 1,(none,.op (.store 4 (.tmp 2) (.tmp 38)))]) <|
  .ret,
  [.cell 2 (some 4)],39⟩
theorem tP:aU Tryz.prog 30 []=some pb:=by kernel_rfl
theorem KT (l:List Int) (hl:l.length≤100000) (H:View):az Tryz.prog 14 [encI l] H fun r H'=>aV H' r 1 (aZ l)∧cP H H' r:=by
  refine az.of mixed tD ?_
  simp (disch:=omega) only [↓wr,↓reduceIte,wq,ah,Nat.reduceEqDiff,Nat.reduceLeDiff,reduceCtorEq,pG,encI]
  refine iB (H:=H) .nil (by simp[aP]) (by unfold aE; simp; omega) (by unfold aE; simp; omega) ?_
  intro u' H' ho hl'
  simp (disch:=omega) only [↓wr,↓reduceIte,wq,reduceCtorEq]
  exact ⟨ho,fun id hid=>hl' id hid (by simp[owner])⟩
structure ao.Ph (g:ao):Prop where
  ax:g.ax.length≤40
  au:g.au.length≤40
  rules:g.rules.length≤60
  right:∀ r∈g.rules,r.right.length≤20
theorem It {g:ao} (e:jF g=false):g.Ph:=by
  simp only[jF,Bool.or_eq_false_iff,decide_eq_false_iff_not,List.any_eq_false,decide_eq_true_eq] at e
  exact ⟨by omega,by omega,by omega,fun r hr=>by have:=e.2 r hr; omega⟩
def Qr (g:ao) (b1 b2:Nat) (u0 u1:V) (i:Nat) (T:Env) (H:View):Prop :=
  (∃ (u2:V) (bs:rW),T 3=u2∧bs.map (·.2)=g.rules.take i ∧
    bC H ((u2,3,dR bs) :: (.sl b1 0 1 4,4,[[u0,u1,.aY (g.rules.map aJ),gi g.start]]) :: (u0,3,g.ax.map cg) :: (u1,1,gx g.au) :: (.sl b2 0 1 4,4,[[.emp 1,.emp 1,.emp 1,gi 0]]) :: gg bs)) ∧
  T 1=.ptr b1 0 0∧T 2=.ptr b2 0 0∧T 4=gi i
theorem Nj {h:aG} {u0 u1 u2:V} {g:ao} {b:rW} (h0:aV h.view u0 3 (g.ax.map cg)) (h1:aV h.view u1 1 (gx g.au)) (h2:aV h.view u2 3 (dR b)) (hb:∀ y∈gg b,aV h.view y.1 y.2.1 y.2.2)
    (hr:b.map (·.2)=g.rules):cK h (.agg [u0,u1,u2,gi g.start]) (.agg (al g)):=by
  refine .agg _ _ rfl fun j hj=>?_
  match j,hj with
  | 0,_=>exact Cs h0
  | 1,_=>exact Ft h1
  | 2,_=>have:=Dg h2 hb; rw[hr] at this; exact this
  | 3,_=>exact .val _
  | n+4,hj=>exact absurd hj (by simp only[List.length_cons,List.length_nil]; omega)
set_option maxHeartbeats 4000000 in
theorem Ln (g:ao) (hs:g.Ph):bN Tryz.prog 30 [.agg (al g)] (.agg (al g)):=by
  refine bN.of (di g) ?_
  refine az.of mixed tP ?_
  have z1:=hs.ax
  have z2:=hs.au
  have z3:=hs.rules
  simp (disch:=omega) only [↓wr,↓reduceIte,wq,ah,Nat.reduceEqDiff,Nat.reduceAdd,Nat.reduceLeDiff,pb,al,encS]
  intro b1
  have o1:=(bC.nil.new (H:=fun _=>bS.dead) (n:=b1) rfl 4 [[.aY (g.ax.map cg),.aY (g.au.map fun s=>[gs s]),.aY (g.rules.map aJ),gi g.start]])
  try simp (disch:=omega) only [↓wr,↓reduceIte,wq,ah,ag,aj,aa,ab,af,ai,isNil,Nat.reduceEqDiff,Nat.reduceAdd,Nat.reduceLT,Nat.reduceLeDiff,Int.reduceNeg,Int.reduceToNat,reduceCtorEq,al,encS]
  intro b2 hb2
  have o2:=(o1.new hb2 4 [[.emp 1,.emp 1,.emp 1,gi 0]]).perm (.swap _ _ _)
  have d21:=(bU hb2 bT).1
  try simp (disch:=omega) only [↓wr,↓reduceIte,wq,Nat.reduceEqDiff,Nat.reduceAdd,Nat.reduceLT,d21.symm]
  refine bW (o2.emp (k:=2) (sz:=3)) (by simp[aP,cg]) (by unfold aE; simp; omega) (by unfold aE; simp; omega) ?_
  intro u0 H1 o3 _
  have c0:=o3.head.cells
  have k0:=o3.head.fB
  have f1:=o3.is 1 rfl (by simp)
  simp (disch:=omega) only [↓wr,↓reduceIte,wq,aa,Nat.reduceEqDiff,Nat.reduceAdd,Nat.reduceLT,Nat.reduceLeDiff,c0,k0,f1]
  have o4:=(o3.at 1 (by simp)).put (es':=[[u0,.aY (g.au.map fun s=>[gs s]),.aY (g.rules.map aJ),gi g.start]]) rfl rfl
  simp only[List.nil_append,List.eraseIdx_cons_succ,List.eraseIdx_cons_zero] at o4
  refine bW (o4.emp (k:=2) (sz:=1)) (by simp[aP]) (by unfold aE; simp; omega) (by unfold aE; simp; omega) ?_
  intro u1 H2 o5 _
  have c1:=o5.head.cells
  have k1:=o5.head.fB
  have f2:=o5.is 1 rfl (by simp)
  simp (disch:=omega) only [↓wr,↓reduceIte,wq,aa,Nat.reduceEqDiff,Nat.reduceAdd,Nat.reduceLT,Nat.reduceLeDiff,c1,k1,f2]
  have o6:=(o5.at 1 (by simp)).put (es':=[[u0,u1,.aY (g.rules.map aJ),gi g.start]]) rfl rfl
  simp only[List.nil_append,List.eraseIdx_cons_succ,List.eraseIdx_cons_zero] at o6
  have o7:bC _ ((.emp 1,3,dR []) :: (.sl b1 0 1 4,4,[[u0,u1,.aY (g.rules.map aJ),gi g.start]]) :: (u0,3,g.ax.map cg) :: (u1,1,gx g.au) :: (.sl b2 0 1 4,4,[[.emp 1,.emp 1,.emp 1,gi 0]]) :: gg []) :=
    (o6.perm (.cons _ (.swap _ _ _))).emp (k:=1) (sz:=3)
  clear o1 o2 o3 o4 o5 o6 hb2 f1 f2
  refine bb.up g.rules.length (Qr g b1 b2 u0 u1) ⟨⟨.emp 1,[],rfl,by simp,o7⟩,rfl,rfl,rfl⟩ ?_
  clear o7
  rintro i k T H hk ⟨⟨u2,bs,t3,hbs,ho⟩,t1,t2,t4⟩
  have f1:=ho.is 1 rfl (by simp)
  simp (disch:=omega) only [↓wr,↓reduceIte,wq,ag,aj,Nat.reduceEqDiff,Nat.reduceAdd,Nat.reduceLT,my,t1,t4,f1]
  refine ar.dec (fun hc=>?_) (fun hc=>?_)
  · have hg2:g.rules[i]?=some (g.rules[i]'(by omega)):=List.getElem?_eq_getElem (by omega)
    have hmem:g.rules[i]'(by omega)∈g.rules:=List.getElem_mem _
    have htk:g.rules.take (i+1)=g.rules.take i ++ [g.rules[i]'(by omega)]:=by rw[List.take_add_one,hg2]; rfl
    generalize g.rules[i]'(by omega)=r at hg2 hmem htk
    have hr:=hs.right r hmem
    simp (disch:=omega) only [↓wr,↓reduceIte,wq,aa,Nat.reduceEqDiff,Nat.reduceAdd,Nat.reduceLT,Nat.reduceLeDiff,t1,t4,f1,List.getElem?_map,hg2,aJ,encI]
    intro n hn
    have o1:=ho.new hn 3 [aJ r]
    try simp (disch:=omega) only [↓wr,↓reduceIte,wq,ah,ag,aj,aa,ab,af,ai,isNil,Nat.reduceEqDiff,Nat.reduceAdd,Nat.reduceLT,Nat.reduceLeDiff,Int.reduceNeg,Int.reduceToNat,reduceCtorEq,t1,t2,t3,t4,set_set]
    refine aB.gq ((KT r.right (by omega) _).mono ?_)
    rintro v H1 ⟨hv,hfr⟩
    have o2:=bC.M7 (H:=H.set n (.arr 3 [aJ r])) o1 hv (by rw[set_set] at hfr; exact hfr)
    have cv:=hv.cells
    have kv:=hv.fB
    have f5:=o2.is 1 rfl (by simp)
    simp only[aJ,encI] at f5
    simp (disch:=omega) only [↓wr,↓reduceIte,wq,aa,af,Nat.reduceEqDiff,Nat.reduceAdd,Nat.reduceLT,Nat.reduceLeDiff,t3,f5,cv,kv]
    have o3:=(o2.at 1 (by simp)).put (es':=[[gi r.left,v,gi r.prec]]) rfl rfl
    simp only[List.eraseIdx_cons_succ,List.eraseIdx_cons_zero] at o3
    intro m hm
    try simp (disch:=omega) only [↓wr,↓reduceIte,wq,Nat.reduceEqDiff,bO]
    have hbl:(dR bs).length≤60:=by
      have h1:=congrArg List.length hbs
      simp only[List.length_map,List.length_take] at h1
      simp only[dR,List.length_map]
      omega
    have o4:=(o3.fresh (o:=.arr 3 [[gi r.left,v,gi r.prec]]) hm).at 2 (by simp)
    refine bW o4 (by simp[uA,kv]) (by unfold aE; simp at hbl ⊢; omega) (by unfold aE; simp at hbl ⊢; omega) ?_
    intro u2' H4 o5 _
    simp (disch:=omega) only [↓wr,↓reduceIte,wq,ag,aa,Nat.reduceEqDiff,reduceCtorEq,t1,t2,t4]
    refine aI hk (by omega) ⟨⟨u2',bs ++ [(v,r)],rfl,?_,?_⟩,t1,t2,rfl⟩
    · rw[List.map_append,hbs,htk]; rfl
    · have o6:=((o5.at 1 (by simp)).tail).perm (.refl _)
      simp only[List.eraseIdx_cons_succ,List.eraseIdx_cons_zero] at o6
      refine o6.perm ?_
      simp only[dR,gg,List.map_append,List.map_cons,List.map_nil]
      exact .cons _ (List.perm_append_singleton (v,1,aZ r.right) ((.sl b1 0 1 4,4,[[u0,u1,.aY (g.rules.map aJ),gi g.start]]) :: (u0,3,g.ax.map cg) :: (u1,1,gx g.au) :: (.sl b2 0 1 4,4,[[.emp 1,.emp 1,.emp 1,gi 0]]) :: gg bs)).symm
  · rw[List.take_of_length_le (by omega)] at hbs
    have f2:=ho.is 4 rfl (by simp)
    have c0:=(ho.own 2 rfl).cells
    have k0:=(ho.own 2 rfl).fB
    have c1:=(ho.own 3 rfl).cells
    have k1:=(ho.own 3 rfl).fB
    have c2:=(ho.own 0 rfl).cells
    have k2:=(ho.own 0 rfl).fB
    simp (disch:=omega) only [↓wr,↓reduceIte,wq,aa,Nat.reduceEqDiff,Nat.reduceAdd,Nat.reduceLT,Nat.reduceLeDiff,reduceCtorEq,t1,t2,t3,f1,f2,k0,k1,c2,k2,d21]
    intro h' hh
    have o1:=(ho.at 1 (by simp)).put (es':=[[u0,u1,u2,gi g.start]]) rfl rfl
    simp only[List.eraseIdx_cons_succ,List.eraseIdx_cons_zero] at o1
    have o2:=(o1.at 4 (by simp)).put (es':=[[u0,u1,u2,gi g.start]]) rfl rfl
    simp only[List.eraseIdx_cons_succ,List.eraseIdx_cons_zero] at o2
    have hv:h'.view=(H.set b1 (.arr 4 [[u0,u1,u2,gi g.start]])).set b2 (.arr 4 [[u0,u1,u2,gi g.start]]):=hh
    rw[← hv] at o2
    exact Nj (o2.own 3 rfl) (o2.own 4 rfl) (o2.own 2 rfl) (fun y hy=>o2.1 y (by
      refine List.mem_cons_of_mem _ (List.mem_cons_of_mem _ (List.mem_cons_of_mem _ (List.mem_cons_of_mem _ (List.mem_cons_of_mem _ ?_))))
      exact hy)) hbs
end Gv
set_option linter.unusedSimpArgs false
set_option maxRecDepth 100000
namespace Gv
open Go Go.Proofs
theorem cK.fr {h:aG} {v t:V} (f:cK h v t):Fr h v t:=by
  induction f with
  | val v=>exact .tree _ (.val _)
  | emp k=>exact .emp k
  | sl id off len esz z es es' h1 h2 h3 h4 _ ih=>exact .sl id off len esz z es es' h1 h2 h3 h4 ih
  | agg cs cs' h1 _ ih=>exact .agg cs cs' h1 ih
  | bt cs cs' h1 _ ih=>exact .bt cs cs' h1 ih
end Gv
set_option linter.unusedSimpArgs false
set_option maxRecDepth 100000
namespace Gv
open Go Go.Proofs
def iv:DC :=
  .seq (.seq (aw [ae 34 8,ae 35 7,aQ 36 35,aR 37 .lss 34 36]) <|
  .cond (.tmp 37) (.skip) (.exit 0)) <|
  .block 1 (aw [ae 38 8,ae 39 7,ae 40 8,((some 41),.op (.slice 4 (.tmp 39) (some (.tmp 40)) none)),ae 42 7,ae 43 8,((some 44),.op (.slice 4 (.tmp 42) none (some (.tmp 43)))),((some 45),.op (.old (.call { callee:=.builtin .copy,args:=#[(.tmp 41),(.tmp 44)],argTypes:=#[284,284] }) 3)),aR 46 .add 38 45,ae 8 46])
def eD:DF:=⟨.seq (aw [((some 4),.op (.aX (.val (.emp 1))))]) <|
  .seq (.seq (aw [ae 9 1,ay 10 .lss 9 0]) <|
  .cond (.tmp 10) (.region [] [⟨none,[((some 11),.op (.old (.makeInterface 9 (.const (.string ⟨#[99,97,110,110,111,116,32,98,101,32,110,101,103,97,116,105,118,101]⟩))) 20)),(none,.op (.old (.panic (.tmp 11)) 0))]⟩]) (.skip)) <|
  .seq (aw [ae 13 0,aQ 14 13,((some 15),.op (.conv .u64 (.tmp 14))),ae 16 1,((some 17),.op (.conv .u64 (.tmp 16))),aM 18 153 [15,17],ae 12 18,bV 19 0 12,bV 20 1 12,ae 5 19,ae 6 20]) <|
  .seq (.seq (.region [] [⟨none,[ae 21 5,((some 22),.op (.arith .gtr (.tmp 21) (.val (.val (.int .u64 0))))),ae 23 22]⟩,⟨(some (23,false)),[ae 24 6,((some 25),.op (.arith .gtr (.tmp 24) (.val (.val (.int .u64 9223372036854775807)))))]⟩,⟨none,[bI 26 23 25]⟩]) <|
  .cond (.tmp 26) (.region [] [⟨none,[((some 27),.op (.old (.makeInterface 9 (.const (.string ⟨#[116,104,101,32,114,101,115,117,108,116,32,111,102,32,40,108,101,110,40,120,41,32,42,32,99,111,117,110,116,41,32,111,118,101,114,102,108,111,119,115]⟩))) 20)),(none,.op (.old (.panic (.tmp 27)) 0))]⟩]) (.skip)) <|
  .seq (aw [ae 28 6,((some 29),.op (.conv .i64 (.tmp 28))),((some 30),.op (.make 4 32 [(.val (.int .i64 0)),(.val (.int .i64 0)),(.val (.int .i64 0)),(.val (.int .i64 0))] (.tmp 29) (.tmp 29))),ae 7 30]) <|
  .seq (aw [ae 31 7,ae 32 0,((some 33),.op (.old (.call { callee:=.builtin .copy,args:=#[(.tmp 31),(.tmp 32)],argTypes:=#[284,284] }) 3)),ae 8 33]) <|
  .seq (.block 0 (.loop iv)) <|
  .seq (aw [ae 47 7,ae 4 47]) <|
  .ret,
  [.tmp 4],48⟩
theorem gY:bL Tryz.prog 248 []=some eD:=by kernel_rfl
def r7:DF:=⟨.seq (aw [((some 4),.op (.aX (.val (.val (.int .u64 0))))),((some 5),.op (.aX (.val (.val (.int .u64 0)))))]) <|
  .seq (.cond (.val (.val (.bool false))) (.seq (aw [ae 11 0,((some 12),.op (.conv .u32 (.tmp 11))),ae 13 1,((some 14),.op (.conv .u32 (.tmp 13))),aM 15 197 [12,14],ae 10 15,bV 16 0 10,bV 17 1 10,ae 6 16,ae 7 17]) <|
  .seq (aw [ae 18 6,((some 19),.op (.conv .u64 (.tmp 18))),ae 20 7,((some 21),.op (.conv .u64 (.tmp 20))),ae 4 19,ae 5 21]) <|
  .ret) (.skip)) <|
  .seq (aw [ae 23 0,ae 24 1,aM 25 198 [23,24],ae 22 25,bV 26 0 22,bV 27 1 22,ae 8 26,ae 9 27]) <|
  .seq (aw [ae 28 8,ae 29 9,ae 4 28,ae 5 29]) <|
  .ret,
  [.tmp 4,.tmp 5],30⟩
theorem xb:bL Tryz.prog 153 []=some r7:=by kernel_rfl
def qq:DF:=⟨.seq (aw [((some 4),.op (.aX (.val (.val (.int .u32 0))))),((some 5),.op (.aX (.val (.val (.int .u32 0)))))]) <|
  .seq (aw [ae 7 0,((some 8),.op (.conv .u64 (.tmp 7))),ae 9 1,((some 10),.op (.conv .u64 (.tmp 9))),aR 11 .mul 8 10,ae 6 11]) <|
  .seq (aw [ae 12 6,((some 13),.op (.sh false (.tmp 12) (.val (.val (.int .u64 32))))),((some 14),.op (.conv .u32 (.tmp 13))),ae 15 6,((some 16),.op (.conv .u32 (.tmp 15))),ae 4 14,ae 5 16]) <|
  .ret,
  [.tmp 4,.tmp 5],17⟩
theorem uW:bL Tryz.prog 197 []=some qq:=by kernel_rfl
def qg:DF:=⟨.seq (aw [((some 4),.op (.aX (.val (.val (.int .u64 0))))),((some 5),.op (.aX (.val (.val (.int .u64 0)))))]) <|
  .seq (aw [ae 14 0,((some 15),.op (.arith .and (.tmp 14) (.val (.val (.int .u64 4294967295))))),ae 6 15]) <|
  .seq (aw [ae 16 0,((some 17),.op (.sh false (.tmp 16) (.val (.val (.int .u64 32))))),ae 7 17]) <|
  .seq (aw [ae 18 1,((some 19),.op (.arith .and (.tmp 18) (.val (.val (.int .u64 4294967295))))),ae 8 19]) <|
  .seq (aw [ae 20 1,((some 21),.op (.sh false (.tmp 20) (.val (.val (.int .u64 32))))),ae 9 21]) <|
  .seq (aw [ae 22 6,ae 23 8,aR 24 .mul 22 23,ae 10 24]) <|
  .seq (aw [ae 25 7,ae 26 8,aR 27 .mul 25 26,ae 28 10,((some 29),.op (.sh false (.tmp 28) (.val (.val (.int .u64 32))))),aR 30 .add 27 29,ae 11 30]) <|
  .seq (aw [ae 31 11,((some 32),.op (.arith .and (.tmp 31) (.val (.val (.int .u64 4294967295))))),ae 12 32]) <|
  .seq (aw [ae 33 11,((some 34),.op (.sh false (.tmp 33) (.val (.val (.int .u64 32))))),ae 13 34]) <|
  .seq (aw [ae 35 12,ae 36 6,ae 37 9,aR 38 .mul 36 37,aR 39 .add 35 38,ae 12 39]) <|
  .seq (aw [ae 40 7,ae 41 9,aR 42 .mul 40 41,ae 43 13,aR 44 .add 42 43,ae 45 12,((some 46),.op (.sh false (.tmp 45) (.val (.val (.int .u64 32))))),aR 47 .add 44 46,ae 4 47]) <|
  .seq (aw [ae 48 0,ae 49 1,aR 50 .mul 48 49,ae 5 50]) <|
  .ret,
  [.tmp 4,.tmp 5],51⟩
theorem vV:bL Tryz.prog 198 []=some qg:=by kernel_rfl
def Ej:List (FuncId × DF):=[(248,eD),(153,r7),(197,qq),(198,qg)]
theorem Ke:sx Tryz.prog Ej:=by
  intro p hp
  simp only[Ej,List.mem_cons,List.not_mem_nil,or_false] at hp
  rcases hp with rfl | rfl | rfl | rfl
  · exact ⟨_,gY⟩
  · exact ⟨_,xb⟩
  · exact ⟨_,uW⟩
  · exact ⟨_,vV⟩
def bR (p:bh):List V:=[gi p.ba,gi p.br,gi p.rules,gi p.ax]
abbrev gJ (P:List bh):V:=.aY (P.map bR)
theorem qJ (P:List bh):Tree (gJ P):=eU _ _ fun x _ v hv=>by
  simp[bR] at hv
  rcases hv with rfl | rfl | rfl | rfl <;> exact .val _
theorem O8 {n:Nat} (h:tG Tryz.prog Ej (fun _ _ _=>none) 248 [gJ [gP],gi n]=some (gJ (List.replicate n gP))):bN Tryz.prog 248 [gJ [gP],gi n] (gJ (List.replicate n gP)) :=
  qG mixed Ke (IJ _) (by
    intro v hv; simp at hv
    rcases hv with rfl | rfl
    · exact qJ [gP]
    · exact .val _) h
theorem Lh {n:Nat} (h1:1≤n) (h2:n≤16):bN Tryz.prog 248 [gJ [gP],gi n] (gJ (List.replicate n gP)):=by
  have:n=1∨n=2∨n=3∨n=4∨n=5∨n=6∨n=7∨n=8∨n=9∨n=10∨n=11∨n=12∨n=13∨n=14∨n=15∨n=16:=by omega
  rcases this with rfl | rfl | rfl | rfl | rfl | rfl | rfl | rfl | rfl | rfl | rfl | rfl | rfl | rfl | rfl | rfl <;> exact O8 (by kernel_rfl)
theorem Bt (p:bh):∀ v∈bR p,Tree v:=by
  intro v hv; simp[bR] at hv
  rcases hv with rfl | rfl | rfl | rfl <;> exact .val _
theorem Pj (h:aG) (p:bh):cK h (.agg (bR p)) (.agg (bR p)):=.agg _ _ rfl fun i hi=>by
  match i,hi with
  | 0,_=>exact .val _
  | 1,_=>exact .val _
  | 2,_=>exact .val _
  | 3,_=>exact .val _
  | n+4,h=>exact absurd h (by simp[bR])
def wb (p:bh):Prop:=c9 p∧(-1≤p.ba∧p.ba≤1000000)∧0≤p.br∧p.br≤1000000
theorem LU:wb bq:=by unfold wb c9 bq; decide
theorem FO {x:Int} : (if x < 1048576 then x else 1048576)=min 1048576 x:=by omega
theorem JC {x y:Int} : (if y > x then y else x)=max x y:=by omega
def wg:SC :=
  .seq (ak [aR 12 .lss 11 10]) <|
  .seq (.cond (.tmp 12) (.skip) (.exit 0)) <|
  .seq (.block 1 (.seq (ak [aN 13 1 9 11,an 14 13,ae 7 14]) <|
  .seq (.seq (ak [ae 15 7,ay 16 .geq 15 0]) <|
  .cond (.tmp 16) (.seq (ak [aq 17 3 4,an 18 17,ay 19 .add 18 1,((some 20),.op (.mm false (.val (.val (.int .i64 1048576))) (.tmp 19))),aq 21 3 4,(none,.op (.store 1 (.tmp 21) (.tmp 20)))]) <|
  .exit 1) (.skip)) <|
  .seq (ak [ae 22 1,ae 23 7,((some 24),.op (.arith .sub (.val (.val (.int .i64 (-1)))) (.tmp 23))),aN 25 4 22 24,aS 26 4 25,((some 8),.op (.alloc [(.val (.int .i64 0)),(.val (.int .i64 0)),(.val (.int .i64 0)),(.val (.int .i64 0))])),(none,.op (.store 4 (.tmp 8) (.tmp 26)))]) <|
  .seq (.seq (ak [aq 27 0 8,an 28 27,ay 29 .lss 28 0]) <|
  .cond (.tmp 29) (.seq (ak [aS 30 4 4,(none,.op (.store 4 (.tmp 4) (.tmp 30))),bg 5 false]) <|
  .ret) (.skip)) <|
  .seq (ak [aq 31 1 4,an 32 31,aq 33 1 8,an 34 33,((some 35),.op (.mm true (.tmp 32) (.tmp 34))),aq 36 1 4,(none,.op (.store 1 (.tmp 36) (.tmp 35)))]) <|
  .lV [(45,49)] [⟨none,[aq 37 2 4,an 38 37,aq 39 2 8,an 40 39,aR 41 .add 38 40,((some 42),.op (.mm false (.val (.val (.int .i64 1048576))) (.tmp 41))),aq 43 3 4,an 44 43,aq 45 3 8,an 46 45,aR 47 .add 44 46,((some 48),.op (.mm false (.val (.val (.int .i64 1048576))) (.tmp 47))),aq 49 2 4,(none,.op (.store 1 (.tmp 49) (.tmp 42))),aq 50 3 4,(none,.op (.store 1 (.tmp 50) (.tmp 48)))]⟩])) <|
  ak [ay 51 .add 11 1,ae 11 51]
def yU:SF:=⟨.seq (ak [((some 4),.op (.alloc [(.val (.int .i64 0)),(.val (.int .i64 0)),(.val (.int .i64 0)),(.val (.int .i64 0))])),bg 5 false]) <|
  .seq (.seq (ak [ae 9 0,aQ 10 9,aH 11 0]) <|
  .block 0 (.loop wg)) <|
  .seq (ak [aS 52 4 4,(none,.op (.store 4 (.tmp 4) (.tmp 52))),bg 5 true]) <|
  .ret,
  [.cell 4 (some 4),.tmp 5],53⟩
theorem BE:aU Tryz.prog 232 []=some yU:=by kernel_rfl
theorem yl {P:List bh} {m:Nat} (h:m < P.length):(P.map bR)[m]?=some (bR (bc P m)):=by
  simp[bc,List.getD_eq_getElem?_getD,h]
set_option maxHeartbeats 2000000 in
theorem KN (P:List bh) (hP:∀ m,wb (bc P m)) (l:List Int) (hl:aL l) (hn:∀ x∈l,bP x∧(x < 0→-1 - x < P.length)) :
    bN Tryz.prog 232 [encI l,gJ P] (.bt [.agg (bR (bF P l bq).1),gb (bF P l bq).2]):=by
  have key:∀ H,az Tryz.prog 232 [encI l,gJ P] H fun r _=>r=.bt [.agg (bR (bF P l bq).1),gb (bF P l bq).2]:=?_
  · refine bN.of (by
      intro v hv; simp at hv
      rcases hv with rfl | rfl
      · exact bX l
      · exact qJ P) ((key _).mono fun r H' e h' _=>?_)
    rw[e]; exact zo (Pj _ _) (.val _)
  intro H
  refine az.of mixed BE ?_
  unfold aL at hl
  simp (disch:=omega) only [↓wr,↓reduceIte,wq,ah,aj,Nat.reduceAdd,Nat.reduceLeDiff,reduceCtorEq,yU,encI]
  intro m hm
  try simp (disch:=omega) only [↓wr,↓reduceIte,wq,ah,ag,aj,aa,ab,af,ai,isNil,Nat.reduceEqDiff,Nat.reduceAdd,Nat.reduceLT,Nat.reduceLeDiff,Int.reduceNeg,Int.reduceToNat,reduceCtorEq,encI]
  refine bb.up l.length (fun i T H'=>∃ s:bh,wb s∧s.ba=0∧bF P (l.drop i) s=bF P l bq∧H' m=.arr 4 [bR s]∧T 1=gJ P∧T 4=.ptr m 0 0∧T 9=encI l∧T 10=gi l.length∧T 11=gi i) ?_ ?_
  · exact ⟨bq,LU,rfl,rfl,by simp[View.set,bR,bq],rfl,rfl,rfl,rfl,rfl⟩
  rintro i k T H hk ⟨s,hs,hs0,hsum,hH,t1,t4,t9,t10,t11⟩
  unfold wb c9 at hs
  simp (disch:=omega) only [↓wr,↓reduceIte,wq,ag,Int.reduceNeg,wg,t10,t11,encI]
  refine ar.dec (fun hc=>?_) (fun hc=>?_)
  · have hg:l[i]?=some (l[i]'(by omega)):=List.getElem?_eq_getElem (by omega)
    have hmem:l[i]'(by omega)∈l:=List.getElem_mem _
    rw[c8 (show i < l.length by omega)] at hsum
    generalize l[i]'(by omega)=x at hg hmem hsum
    obtain ⟨⟨hx1,hx2⟩,hx3⟩:=hn x hmem
    simp (disch:=omega) only [↓wr,↓reduceIte,wq,ag,Nat.reduceEqDiff,Nat.reduceLT,Int.reduceNeg,t9,t11,encI,List.getElem?_map,hg]
    refine ar.dec (fun hd=>?_) (fun hd=>?_)
    · simp (disch:=omega) only [↓wr,↓reduceIte,wq,ag,aa,Nat.reduceEqDiff,Nat.reduceAdd,Nat.reduceLT,Nat.reduceLeDiff,Int.reduceNeg,reduceCtorEq,t4,t11,hH,bR,FO]
      rw[xI (show 0≤x from hd)] at hsum
      refine aI hk (by omega) ⟨_,?_,?_,hsum,?_,t1,t4,t9,t10,rfl⟩
      · unfold wb c9; simp only; omega
      · exact hs0
      · simp[View.set]
    · have hm:(bG x) < P.length:=by have:=hx3 (by omega); unfold bG; omega
      have hp:=hP (bG x)
      unfold wb c9 at hp
      simp (disch:=omega) only [↓wr,↓reduceIte,wq,ag,aa,Nat.reduceEqDiff,Nat.reduceAdd,Nat.reduceLT,Int.reduceNeg,t1,yl hm]
      simp (disch:=omega) only [↓wr,↓reduceIte,wq,Nat.reduceAdd,Nat.reduceLT,Nat.reduceLeDiff,Int.reduceNeg,bR]
      intro q hq
      have hqm:m≠q:=by rintro rfl; rw[hH] at hq; simp at hq
      try simp (disch:=omega) only [↓wr,↓reduceIte,wq,ah,ag,aj,aa,ab,af,ai,isNil,Nat.reduceEqDiff,Nat.reduceAdd,Nat.reduceLT,Nat.reduceLeDiff,Int.reduceNeg,Int.reduceToNat,reduceCtorEq,t1,t4,t9,t10,t11,encI,hH,hqm,hqm.symm,bR]
      refine ar.dec (fun he=>?_) (fun he=>?_)
      · simp (disch:=omega) only [↓wr,↓reduceIte,wq,ag,aa,Nat.reduceEqDiff,Nat.reduceAdd,Nat.reduceLT,Nat.reduceLeDiff,Int.reduceNeg,reduceCtorEq,t4,t11,hH,hqm,bR]
        rw[CQ (by omega) he] at hsum
        rw[← hsum]
      · simp (disch:=omega) only [↓wr,↓reduceIte,wq,ag,aa,Nat.reduceEqDiff,Nat.reduceAdd,Nat.reduceLT,Nat.reduceLeDiff,Int.reduceNeg,reduceCtorEq,t4,t11,hH,hqm,hqm.symm,bR,FO,JC]
        rw[vZ (by omega) he] at hsum
        refine aI hk (by omega) ⟨_,?_,?_,hsum,?_,t1,t4,t9,t10,rfl⟩
        · unfold wb c9; simp only; omega
        · exact hs0
        · simp[View.set]
  · simp (disch:=omega) only [↓wr,↓reduceIte,wq,aa,Nat.reduceEqDiff,Nat.reduceAdd,Nat.reduceLT,Nat.reduceLeDiff,reduceCtorEq,t4,hH,bR]
    rw[List.drop_eq_nil_of_le (by omega)] at hsum
    rw[← hsum]; try rfl
def dn:SF:=⟨.seq (ak [((some 2),.op (.aX (.val (.emp 1))))]) <|
  .seq (.seq (ak [ae 3 0,((some 4),.op (.nil true 0 (.tmp 3) (.val (.emp 1))))]) <|
  .cond (.tmp 4) (.seq (ak [((some 2),.op (.aX (.val (.emp 1))))]) <|
  .ret) (.skip)) <|
  .seq (ak [((some 5),.op (.aX (.val (.emp 2)))),ae 6 0,((some 7),.op (.app 4 32 (.tmp 5) (.tmp 6))),ae 2 7]) <|
  .ret,
  [.tmp 2],8⟩
theorem hX:aU Tryz.prog 249 []=some dn:=by kernel_rfl
theorem Iv (P:List bh) (hl:P.length≤100000) (h1:1≤P.length) (u:V) (H:View) (hu:u=gJ P∨aV H u 4 (P.map bR)) :
    az Tryz.prog 249 [u] H fun r H'=>aV H' r 4 (P.map bR)∧cP H H' r:=by
  have hall:((P.map bR).all fun e=>e.length == 4 && e.all aP)=true:=by simp[List.all_map,bR,aP]
  refine az.of mixed hX ?_
  cases P with
  | nil=>simp at h1
  | cons p r =>
    simp only[List.length_cons] at hl
    rcases hu with rfl | hu
    · simp (disch:=omega) only [↓wr,↓reduceIte,wq,ah,ai,isNil,Nat.reduceEqDiff,Nat.reduceLeDiff,reduceCtorEq,dn,gJ]
      refine ⟨by simpa using hall,by unfold aE; simp; omega,fun m hm=>?_⟩
      simp (disch:=omega) only [↓wr,↓reduceIte,wq,reduceCtorEq]
      have:=aV.new (H:=H) (n:=m) (sz:=4) (es:=(p :: r).map bR)
      simp only[List.length_map,List.length_cons] at this
      exact ⟨by simpa using this,.new hm⟩
    · obtain ⟨n,rfl,hn⟩:=hu.sl (by simp)
      simp only[List.length_map,List.length_cons] at hn ⊢
      have he:cb H (.sl n 0 (r.length+1) 4)=some ((p :: r).map bR,[n]):=by
        rw[qA _ n 0 r.length 4 4 _ hn (by simp),List.drop_zero,List.take_of_length_le (by simp)]
      simp (disch:=omega) only [↓wr,↓reduceIte,wq,ah,ai,isNil,Nat.reduceEqDiff,Nat.reduceLeDiff,reduceCtorEq,dn,he]
      refine ⟨by simpa using hall,by unfold aE; simp; omega,fun m hm=>?_⟩
      simp (disch:=omega) only [↓wr,↓reduceIte,wq,reduceCtorEq]
      have:=aV.new (H:=H) (n:=m) (sz:=4) (es:=(p :: r).map bR)
      simp only[List.length_map,List.length_cons] at this
      exact ⟨by simpa using this,.new hm⟩
end Gv
