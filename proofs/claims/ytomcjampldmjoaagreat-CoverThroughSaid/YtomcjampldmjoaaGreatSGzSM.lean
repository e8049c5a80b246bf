/-
  Part 13 of the proof: what the machine does and what the functions answer.
  Conditions: those that each lemma names.
-/
import Derived.Test.YtomcjampldmjoaaGreatSGzSL
set_option linter.unusedSimpArgs false
set_option linter.unusedVariables false
set_option maxRecDepth 100000
namespace Gv
open Go Go.Proofs
def my:SC :=
  .seq (ak [aR 66 .lss 65 64]) <|
  .seq (.cond (.tmp 66) (.skip) (.exit 0)) <|
  .seq (.block 1 (.seq (ak [aQ 67 1 63 65,an 68 67,ae 8 68]) <|
  .seq (.seq (ak [ae 69 8,ax 70 .geq 69 0]) <|
  .cond (.tmp 70) (.seq (ak [ae 71 0,ae 72 0,bJ 73 72,aq 74 5 73,an 75 74,ae 76 8,((some 77),.op (.bA 1 1 [(.val (.int .i64 0))] [(0,(.tmp 76))])),((some 78),.op (.app 1 8 (.tmp 75) (.tmp 77))),bJ 79 71,aq 80 5 79,(none,.op (.store 1 (.tmp 80) (.tmp 78)))]) <|
  .exit 1) (.skip)) <|
  .seq (ak [ae 81 0,ae 82 8,((some 83),.op (.arith .sub (.val (.val (.int .i64 (-1)))) (.tmp 82))),aL 84 210 [81,83],ae 9 84]) <|
  .seq (.seq (ak [ae 85 9,ax 86 .eql 85 0]) <|
  .cond (.tmp 86) (.seq (ak [aH 4 0]) <|
  .ret) (.skip)) <|
  ak [ae 87 6,ae 88 9,((some 89),.op (.mm true (.tmp 87) (.tmp 88))),ae 6 89])) <|
  ak [ax 90 .add 65 1,ae 65 90]
def gI:SF:=⟨.seq (ak [aH 4 0]) <|
  .seq (.seq (ak [ae 10 0,bJ 11 10,aq 12 4 11,an 13 12,aP 14 13,ax 15 .eql 14 0]) <|
  .cond (.tmp 15) (.seq (ak [aH 4 0]) <|
  .ret) (.skip)) <|
  .seq (ak [ae 16 0,bJ 17 16,aq 18 4 17,an 19 18,((some 20),.op (.idx 1 (.tmp 19) (.val (.val (.int .i64 0))))),an 21 20,ae 5 21]) <|
  .seq (.seq (.region false [⟨none,[ae 22 5,ax 23 .lss 22 0,ae 24 23]⟩,⟨(some (24,false)),[ae 25 5,ae 26 0,bJ 27 26,aq 28 0 27,aq 29 2 28,an 30 29,aP 31 30,aR 32 .geq 25 31]⟩,⟨none,[bH 33 24 32,ae 34 33]⟩,⟨(some (34,false)),[ae 35 0,bJ 36 35,aq 37 0 36,aq 38 2 37,an 39 38,ae 40 5,aQ 41 3 39 40,aq 42 0 41,an 43 42,ae 44 1,aR 45 .neq 43 44]⟩,⟨none,[bH 46 34 45]⟩]) <|
  .cond (.tmp 46) (.seq (ak [aH 4 0]) <|
  .ret) (.skip)) <|
  .seq (ak [ae 47 0,ae 48 0,bJ 49 48,aq 50 4 49,an 51 50,((some 52),.op (.slice 1 (.tmp 51) (some (.val (.val (.int .i64 1)))) none)),bJ 53 47,aq 54 4 53,(none,.op (.store 1 (.tmp 54) (.tmp 52)))]) <|
  .seq (ak [aH 6 0]) <|
  .seq (.seq (ak [ae 55 0,bJ 56 55,aq 57 0 56,aq 58 2 57,an 59 58,ae 60 5,aQ 61 3 59 60,aq 62 1 61,an 63 62,aP 64 63,aH 65 0]) <|
  .block 0 (.loop my)) <|
  .seq (ak [ae 91 0,ae 92 0,bJ 93 92,aq 94 6 93,an 95 94,ae 96 5,((some 97),.op (.bA 1 1 [(.val (.int .i64 0))] [(0,(.tmp 96))])),((some 98),.op (.app 1 8 (.tmp 95) (.tmp 97))),bJ 99 91,aq 100 6 99,(none,.op (.store 1 (.tmp 100) (.tmp 98)))]) <|
  .seq (ak [ae 101 6,ax 102 .add 101 1,ae 4 102]) <|
  .ret,
  [.tmp 4],103⟩
theorem ik:aU Tryz.prog 210 []=some gI:=by kernel_rfl
def y4:SF:=⟨.seq (ak [cx 2 0,((some 4),.op (.aZ (.val (.val (.pointer none))))),aH 5 0]) <|
  .seq (.seq (.region false [⟨none,[aT 8 4 2,aL 9 45 [8],cd 10 9,ae 11 10]⟩,⟨(some (11,false)),[ae 12 1,aP 13 12,ax 14 .gtr 13 300]⟩,⟨none,[bH 15 11 14]⟩]) <|
  .cond (.tmp 15) (.seq (ak [((some 4),.op (.aZ (.val (.val (.pointer none))))),aH 5 0]) <|
  .ret) (.skip)) <|
  .seq (ak [aT 16 4 2,ae 17 1,((some 18),.op (.build [(.emp 1),(.emp 1),(.emp 1),(.val (.int .i64 0)),(.emp 1),(.emp 1),(.emp 1)] [(0,4,(.tmp 16)),(4,1,(.tmp 17))])),((some 19),.op (.box (.tmp 18))),ae 6 19]) <|
  .seq (ak [ae 20 6,aq 21 3 2,an 22 21,aL 23 210 [20,22],ae 7 23]) <|
  .seq (.seq (ak [ae 24 6,bJ 25 24,aq 26 4 25,an 27 26,aP 28 27,ax 29 .gtr 28 0]) <|
  .cond (.tmp 29) (.seq (ak [((some 4),.op (.aZ (.val (.val (.pointer none))))),aH 5 0]) <|
  .ret) (.skip)) <|
  .seq (ak [ae 30 6,ae 31 7,ae 4 30,ae 5 31]) <|
  .ret,
  [.tmp 4,.tmp 5],32⟩
theorem BR:aU Tryz.prog 170 [2]=some y4:=by kernel_rfl
def yM:SF:=⟨.seq (ak [cx 2 0,((some 4),.op (.aZ (.val (.emp 1)))),aH 5 0]) <|
  .seq (ak [aT 9 4 2,ae 10 1,aL 11 170 [9,10],ae 8 11,bU 12 0 8,bU 13 1 8,ae 6 12,ae 7 13]) <|
  .seq (.seq (ak [ae 14 7,ax 15 .eql 14 0]) <|
  .cond (.tmp 15) (.seq (ak [((some 4),.op (.aZ (.val (.emp 1)))),aH 5 1]) <|
  .ret) (.skip)) <|
  .seq (ak [ae 16 6,bJ 17 16,aq 18 5 17,an 19 18,ae 4 19,aH 5 0]) <|
  .ret,
  [.tmp 4,.tmp 5],20⟩
theorem BO:aU Tryz.prog 111 [2]=some yM:=by kernel_rfl
def fO (g:ao) (rest:List Int) (uw up:V):List V:=[.aY (g.ay.map cr),.aY (g.au.map fun s=>[gs s]),.aY (g.rules.map aK),gi g.start,encI rest,uw,up]
def D1 (g:ao) (b:Nat) (rest W Po:List Int) (H:View):Prop:=∃ uw up,bC H [(.sl b 0 1 7,7,[fO g rest uw up]),(uw,1,aW W),(up,1,aW Po)]
theorem vt {g:ao} {f:Nat} {n:Int} {rest:List Int} {x:Wk} (hn:n < 0) (h:bI g f [n] rest=some x):1≤x.high:=by
  cases f with
  | zero=>rw[ki hn] at h; simp at h
  | succ f =>
    cases rest with
    | nil=>rw[fZ hn] at h; simp at h
    | cons t rest =>
      rw[ec hn] at h
      cases hr:dR g t with
      | none=>rw[hr] at h; simp at h
      | some R =>
        rw[hr] at h
        simp only at h
        split at h
        · cases hw:bI g f R.right rest with
          | none=>rw[hw] at h; simp at h
          | some y =>
            rw[hw] at h
            simp only[dT] at h
            simp at h; subst h
            simp[pV]
        · simp at h
theorem GB (k:Int) (rest:List Int):ig 1 (.aY ([gi k] :: rest.map fun x=>[gi x])) (some (.val (.int .i64 1))) none=some (.aY (rest.map fun x=>[gi x]),.none,[]):=by
  have:asNat (.val (.int .i64 1))=some 1:=rfl
  simp[ig,bound,this,List.all_map]
  rw[List.take_of_length_le (by simp)]
def DB (g:ao) (b:Nat) (o:Option Wk) (W Po:List Int) (r:V) (H:View):Prop:=match o with
  | some x=>r=gi x.high∧D1 g b x.rest (W ++ x.word) (Po ++ x.post) H
  | none=>r=gi 0∧∃ rest W Po,rest.length≤300∧D1 g b rest W Po H
theorem DB.bad {g:ao} {b:Nat} {W Po W' Po' rest:List Int} {H:View} (hl:rest.length≤300) (h:D1 g b rest W' Po' H):DB g b none W Po (gi 0) H:=⟨rfl,rest,W',Po',hl,h⟩
set_option maxHeartbeats 4000000 in
theorem No (g:ao) (hg:g.Ok) (hf:g.gp) (b:Nat):∀ (f:Nat) (n:Int) (rest W Po:List Int) (H:View),f≤300→0≤n→n < g.au.length→rest.length≤f→W.length+6 * rest.length≤10000→Po.length+rest.length≤10000→D1 g b rest W Po H →
    az Tryz.prog 210 [.ptr b 0 0,gi n] H fun r H'=>DB g b (bI g f [-1 - n] rest) W Po r H':=by
  intro f
  induction f with
  | zero =>
    intro n rest W Po H0 hf3 hn0 hn1 hl hW hP hw
    have hrest:rest=[]:=List.length_eq_zero_iff.1 (by omega)
    subst hrest
    have hw0:=hw
    obtain ⟨uw,up,ho⟩:=hw
    have hb:=ho.is 0 rfl (by simp)
    refine az.of mixed ik ?_
    simp (disch:=omega) only [↓wr,↓reduceIte,wq,ah,ag,aj,Nat.reduceAdd,Nat.reduceLT,Nat.reduceLeDiff,Int.reduceNeg,reduceCtorEq,gI,hb,fO,encI]
    refine ar.eq (fun _=>?_) (fun e=>absurd rfl e)
    simp (disch:=omega) only [↓wr,↓reduceIte,wq,Int.reduceNeg,reduceCtorEq]
    rw[fZ (by omega)]
    exact .bad (by simp) hw0
  | succ f ih =>
    intro n rest W Po H0 hf3 hn0 hn1 hl hW hP hw
    have hw0:=hw
    obtain ⟨uw,up,ho⟩:=hw
    have hb:=ho.is 0 rfl (by simp)
    cases rest with
    | nil =>
      refine az.of mixed ik ?_
      simp (disch:=omega) only [↓wr,↓reduceIte,wq,ah,ag,aj,Nat.reduceAdd,Nat.reduceLT,Nat.reduceLeDiff,Int.reduceNeg,reduceCtorEq,gI,hb,fO,encI]
      refine ar.eq (fun _=>?_) (fun e=>absurd rfl e)
      simp (disch:=omega) only [↓wr,↓reduceIte,wq,Int.reduceNeg,reduceCtorEq]
      rw[fZ (by omega)]
      exact .bad (by simp) hw0
    | cons t rest =>
      simp only[List.length_cons] at hl hW hP
      have bad:(∀ R,dR g t=some R→R.left≠n)→DB g b (bI g (f+1) [-1 - n] (t :: rest)) W Po (gi 0) H0:=fun h=>by
        have:bI g (f+1) [-1 - n] (t :: rest)=none:=by
          rw[ec (by omega)]
          cases hr:dR g t with
          | none=>rfl
          | some R =>
            simp only
            rw[if_neg (by have:=h R hr; omega)]
        rw[this]
        exact .bad (by simp; omega) hw0
      refine az.of mixed ik ?_
      simp (disch:=omega) only [↓wr,↓reduceIte,wq,ah,ag,aj,Nat.reduceAdd,Nat.reduceLT,Nat.reduceLeDiff,Int.reduceNeg,reduceCtorEq,gI,hb,fO,encI]
      refine ar.eq (fun e=>absurd e (by omega)) (fun _=>?_)
      simp (disch:=omega) only [↓wr,↓reduceIte,wq,ag,Nat.reduceAdd,Nat.reduceLT,Int.reduceNeg,Int.reduceToNat,reduceCtorEq,hb,fO,encI,List.getElem?_cons_zero]
      refine ar.dec (fun ht=>?_) (fun ht=>?_)
      · simp (disch:=omega) only [↓wr,↓reduceIte,wq,Nat.reduceEqDiff,Int.reduceNeg,reduceCtorEq]
        exact bad fun R hR=>by unfold dR at hR; rw[if_neg (by omega)] at hR; simp at hR
      · obtain ⟨k,rfl⟩:∃ k:Nat,t=k:=⟨t.toNat,by omega⟩
        simp (disch:=omega) only [↓wr,↓reduceIte,wq,ag,aj,Nat.reduceEqDiff,Nat.reduceAdd,Nat.reduceLT,Int.reduceNeg,reduceCtorEq,hb,fO,encI]
        refine ar.dec (fun hk=>?_) (fun hk=>?_)
        · simp (disch:=omega) only [↓wr,↓reduceIte,wq,Nat.reduceEqDiff,Int.reduceNeg,reduceCtorEq]
          exact bad fun R hR=>by
            unfold dR at hR
            rw[if_pos (by omega),Int.toNat_natCast] at hR
            have:=(List.getElem?_eq_some_iff.1 hR).1
            omega
        · have hR:g.rules[k]?=some (g.rules[k]'(by omega)):=List.getElem?_eq_getElem (by omega)
          have hmr:=List.mem_of_getElem? hR
          generalize g.rules[k]'(by omega)=R at hR hmr
          have hra:dR g (k:Int)=some R:=by rw[dR,if_pos (by omega),Int.toNat_natCast]; exact hR
          have hrw:=hg.ba R hmr
          have hr6:=hf.right R hmr
          simp (disch:=omega) only [↓wr,↓reduceIte,wq,ag,Nat.reduceEqDiff,Nat.reduceAdd,Nat.reduceLT,Int.reduceNeg,reduceCtorEq,hb,fO,encI,List.getElem?_map,hR,aK]
          refine ar.ne (fun he=>?_) (fun he=>?_)
          · simp (disch:=omega) only [↓wr,↓reduceIte,wq,Int.reduceNeg,reduceCtorEq]
            exact bad fun R' hR'=>by rw[hra] at hR'; simp at hR'; subst hR'; exact he
          · simp (disch:=omega) only [↓wr,↓reduceIte,wq,aj,aa,Nat.reduceEqDiff,Nat.reduceAdd,Nat.reduceLT,Nat.reduceLeDiff,Int.reduceNeg,reduceCtorEq,hb,fO,encI,List.getElem?_map,hR,aK,GB]
            have o1:=ho.put (es':=[fO g rest uw up]) rfl rfl
            have hnone:∀ i,bI g f (R.right.take i) rest=none→bI g (f+1) [-1 - n] ((k:Int) :: rest)=none:=fun i h=>by
              rw[ec (by omega),hra]
              simp only
              rw[if_pos (by omega)]
              have e:=ly g f (R.right.take i) (R.right.drop i) rest
              rw[List.take_append_drop,h] at e
              rw[e]
            refine bc.up R.right.length (fun i T H'=>∃ x,bI g f (R.right.take i) rest=some x∧D1 g b x.rest (W ++ x.word) (Po ++ x.post) H'∧T 0=.ptr b 0 0∧T 5=gi k∧T 6=gi x.high∧T 63=encI R.right∧T 64=gi R.right.length∧T 65=gi i)
              ⟨_,dT _ _ _,⟨uw,up,by simpa [fO,encI] using o1⟩,rfl,rfl,rfl,rfl,rfl,rfl⟩ ?_
            clear hb o1 ho hw0 bad
            rintro i j T H1 hj ⟨x,hx,hw1,t0,t5,t6,t63,t64,t65⟩
            obtain ⟨z1,z2,z3,z4⟩:=qj hf.right f _ _ x hx
            simp (disch:=omega) only [↓wr,↓reduceIte,wq,ag,Int.reduceNeg,reduceCtorEq,my,t64,t65,encI]
            refine ar.dec (fun hi=>?_) (fun hi=>?_)
            · have hg1:R.right[i]?=some (R.right[i]'(by omega)):=List.getElem?_eq_getElem (by omega)
              have hmem:R.right[i]'(by omega)∈R.right:=List.getElem_mem _
              have htk:R.right.take (i+1)=R.right.take i ++ [R.right[i]'(by omega)]:=by rw[List.take_add_one,hg1]; rfl
              have hap:=ly g f (R.right.take i) [R.right[i]'(by omega)] rest
              rw[← htk,hx] at hap
              generalize R.right[i]'(by omega)=s at hg1 hmem htk hap
              simp only at hap
              have hs64:=hrw.2.2.2 s hmem
              unfold bM at hs64
              simp only[List.length_take] at z3
              simp (disch:=omega) only [↓wr,↓reduceIte,wq,ag,Nat.reduceEqDiff,Nat.reduceLT,Int.reduceNeg,t63,t65,encI,List.getElem?_map,hg1]
              refine ar.dec (fun hs=>?_) (fun hs=>?_)
              · obtain ⟨uw1,up1,o1⟩:=hw1
                have hb1:=o1.is 0 rfl (by simp)
                simp (disch:=omega) only [↓wr,↓reduceIte,wq,af,Nat.reduceEqDiff,Nat.reduceAdd,Nat.reduceLT,Int.reduceNeg,reduceCtorEq,t0,hb1,fO]
                intro m hm
                rw[bQ]
                simp (disch:=omega) only [↓wr,↓reduceIte,wq,Nat.reduceEqDiff,Int.reduceNeg]
                refine cp ((o1.at 1 (by simp)).fresh hm) (by simp[aO]) (by unfold aG; simp; omega) (by unfold aG; simp; omega) ?_
                intro u2 H2 o2 _
                simp only[List.eraseIdx_cons_succ,List.eraseIdx_cons_zero] at o2
                have hb2:=o2.is 1 rfl (by simp)
                have c2:=o2.head.cells
                have k2:=o2.head.gX
                simp (disch:=omega) only [↓wr,↓reduceIte,wq,ag,aa,af,Nat.reduceEqDiff,Nat.reduceAdd,Nat.reduceLT,Nat.reduceLeDiff,Int.reduceNeg,reduceCtorEq,t0,t5,t65,hb2,fO,c2,k2]
                have o3:=(o2.at 1 (by simp)).put (es':=[fO g x.rest u2 up1]) rfl rfl
                simp only[List.eraseIdx_cons_succ,List.eraseIdx_cons_zero] at o3
                rw[fP hs,dT] at hap
                simp only[Option.map_some] at hap
                refine aJ hj (by omega) ⟨_,hap,⟨u2,up1,?_⟩,t0,t5,?_,t63,t64,rfl⟩
                · simpa [fO,nN,rj] using o3
                · exact t6.trans (by simp[nN,rj])
              · simp (disch:=omega) only [↓wr,↓reduceIte,wq,ag,Nat.reduceEqDiff,Int.reduceNeg,reduceCtorEq,t0]
                have hcall:=ih (-1 - s) x.rest (W ++ x.word) (Po ++ x.post) H1 (by omega) (by omega) (by
                  have:=hf.sym R hmr s hmem
                  unfold im at this
                  rw[if_neg (by omega)] at this
                  simpa using this) (by omega) (by simp; omega) (by simp; omega) hw1
                rw[show -1 - (-1 - s)=s by omega] at hcall
                refine aC.gA (hcall.mono ?_)
                intro r H2 hr
                cases hy:bI g f [s] x.rest with
                | none =>
                  rw[hy] at hr hap
                  obtain ⟨rfl,rest',W',Po',hl',hw'⟩:=hr
                  simp (disch:=omega) only [↓wr,↓reduceIte,wq,ag,Int.reduceNeg]
                  refine ar.eq (fun _=>?_) (fun e=>absurd rfl e)
                  simp (disch:=omega) only [↓wr,↓reduceIte,wq,ag,Nat.reduceEqDiff,Int.reduceNeg,reduceCtorEq]
                  rw[hnone (i+1) hap]
                  exact .bad hl' hw'
                | some y =>
                  rw[hy] at hr hap
                  obtain ⟨rfl,hw2⟩:=hr
                  have hyh:=vt (by omega) hy
                  simp (disch:=omega) only [↓wr,↓reduceIte,wq,ag,Int.reduceNeg]
                  refine ar.eq (fun e=>absurd e (by omega)) (fun _=>?_)
                  simp (disch:=omega) only [↓wr,↓reduceIte,wq,ag,Nat.reduceEqDiff,Int.reduceNeg,reduceCtorEq,t0,t6,t65]
                  simp only[Option.map_some] at hap
                  refine aJ hj (by omega) ⟨_,hap,?_,t0,t5,?_,t63,t64,rfl⟩
                  · simpa [nN] using hw2
                  · show gi (if (y.high:Int) > x.high then (y.high:Int) else x.high)=gi ((nN x y).high:Nat)
                    congr 2
                    simp only[nN]
                    split <;> omega
            · rw[List.take_of_length_le (by omega)] at hx
              obtain ⟨uw1,up1,o1⟩:=hw1
              have hb1:=o1.is 0 rfl (by simp)
              simp (disch:=omega) only [↓wr,↓reduceIte,wq,af,Nat.reduceEqDiff,Nat.reduceAdd,Nat.reduceLT,Int.reduceNeg,reduceCtorEq,t0,t5,hb1,fO]
              intro m hm
              rw[bQ]
              simp (disch:=omega) only [↓wr,↓reduceIte,wq,Nat.reduceEqDiff,Int.reduceNeg]
              refine cp ((o1.at 2 (by simp)).fresh hm) (by simp[aO]) (by unfold aG; simp; omega) (by unfold aG; simp; omega) ?_
              intro u2 H2 o2 _
              simp only[List.eraseIdx_cons_succ,List.eraseIdx_cons_zero] at o2
              have hb2:=o2.is 1 rfl (by simp)
              have c2:=o2.head.cells
              have k2:=o2.head.gX
              simp (disch:=omega) only [↓wr,↓reduceIte,wq,ag,aa,Nat.reduceEqDiff,Nat.reduceAdd,Nat.reduceLT,Nat.reduceLeDiff,Int.reduceNeg,reduceCtorEq,t0,t6,hb2,fO,c2,k2]
              have o3:=(o2.at 1 (by simp)).put (es':=[fO g x.rest uw1 u2]) rfl rfl
              simp only[List.eraseIdx_cons_succ,List.eraseIdx_cons_zero] at o3
              have hfin:bI g (f+1) [-1 - n] ((k:Int) :: rest)=some ⟨x.rest,x.word ++ [],x.post ++ [(k:Int)],max (x.high+1) 0⟩:=by
                rw[ec (by omega),hra]
                simp only
                rw[if_pos (by omega),hx]
                simp only[dT,Option.map_some,pV]
              rw[hfin]
              refine ⟨?_,uw1,u2,?_⟩
              · simp
              · have o4:=o3.perm (.cons _ (.swap _ _ _))
                simpa [fO] using o4
theorem OF:q8.Ok:=by
  refine ⟨by unfold aN; decide,by unfold aN; decide,by unfold aN; decide,by unfold bM; decide,?_,?_⟩
  · intro t ht; simp[q8] at ht
  · intro r hr; simp[q8] at hr
theorem tH:∀ (l:List aM) (acc:List Int),(l.foldl di acc).length≤acc.length+l.length
  | [],acc=>by simp
  | r :: l,acc=>by
    have h1:=tH l (di acc r)
    have h2:(di acc r).length≤acc.length+1:=by unfold di; split <;> simp
    simp only[List.foldl_cons,List.length_cons]
    omega
theorem J5 (p q:List Bool) (l:List aM):(bL p q l).length≤l.length:=by
  have h1:=tH (l.filter (bG p q)) []
  have h2:=List.length_filter_le (bG p q) l
  unfold bL
  simp only[List.length_nil] at h1
  omega
theorem Nz {g:ao} (hg:g.Ok) (p q:List Bool):(je g (bo (bL p q g.rules)) p q).Ok:=by
  have ho:=J5 p q g.rules
  have h3:=hg.rules
  unfold aN at h3
  have hb:∀ x,bM (bo (bL p q g.rules) x):=fun x=>by
    have:=BP (bL p q g.rules) x
    unfold bM; omega
  have hb2:∀ x,bM (-1 - bo (bL p q g.rules) x):=fun x=>by
    have:=BP (bL p q g.rules) x
    unfold bM; omega
  refine ⟨hg.ay,?_,?_,hb _,hg.term,fun r hr=>?_⟩
  · unfold aN; simp only[je,List.length_map]; omega
  · have:=List.length_filter_le (bG p q) g.rules
    unfold aN; simp only[je,List.length_map]; omega
  · simp only[je,List.mem_map,List.mem_filter] at hr
    obtain ⟨r0,⟨h0,_⟩,rfl⟩:=hr
    obtain ⟨_,i2,i3,i4⟩:=hg.ba r0 h0
    refine ⟨hb _,i2,by unfold aN at i3 ⊢; simpa [bj] using i3,fun x hx=>?_⟩
    simp only[bj,List.mem_map] at hx
    obtain ⟨s,hs,rfl⟩:=hx
    split
    · exact hb2 _
    · exact i4 s hs
section
variable {g r:ao} {p q:List Bool} {o:List Int}
theorem dX.ok (h:dX g p q o r) (hg:g.Ok):r.Ok:=by
  have:=Nz hg p q
  rw[← h.oe,← h.re] at this
  exact this
theorem dX.small (h:dX g p q o r) (hs:g.Small):r.Small:=by
  have:=pU h.nodup h.inside
  have:=hs.names
  exact ⟨by rw[h.len,h.ay]; omega⟩
end
def lW:SC :=
  .seq (.seq (ak [ae 11 5,ae 12 0,aP 13 12,aR 14 .lss 11 13]) <|
  .cond (.tmp 14) (.skip) (.exit 0)) <|
  .seq (.block 1 (.seq (ak [ae 17 0,ae 18 5,aQ 19 1 17 18,an 20 19,ae 21 1,ae 22 5,aQ 23 1 21 22,an 24 23,((some 25),.op (.beq false (.tmp 20) (.tmp 24)))]) <|
  .cond (.tmp 25) (.seq (ak [bg 4 false]) <|
  .ret) (.skip))) <|
  ak [ae 15 5,ax 16 .add 15 1,ae 5 16]
def nj:SF:=⟨.seq (ak [bg 4 false]) <|
  .seq (.seq (ak [ae 6 0,aP 7 6,ae 8 1,aP 9 8,aR 10 .neq 7 9]) <|
  .cond (.tmp 10) (.seq (ak [bg 4 false]) <|
  .ret) (.skip)) <|
  .seq (.seq (ak [aH 5 0]) <|
  .block 0 (.loop lW)) <|
  .seq (ak [bg 4 true]) <|
  .ret,
  [.tmp 4],26⟩
theorem sX:aU Tryz.prog 35 []=some nj:=by kernel_rfl
theorem Kv (a b:List Bool) (ha:aN a) (H:View):az Tryz.prog 35 [bF a,bF b] H fun r H'=>r=gb (a == b)∧H'=H:=by
  refine az.of mixed sX ?_
  unfold aN at ha
  simp (disch:=omega) only [↓wr,↓reduceIte,wq,ah,ag,aj,Nat.reduceEqDiff,Nat.reduceAdd,Nat.reduceLeDiff,reduceCtorEq,nj,bF]
  refine ar.ne (fun h=>?_) (fun h=>?_)
  · simp (disch:=omega) only [↓wr,↓reduceIte,wq,reduceCtorEq]
    rw[BE (by omega)]
  · simp (disch:=omega) only [↓wr,wq]
    refine bc.intro (fun k T H'=>∃ i:Nat,i+k=a.length∧a.take i=b.take i∧T 0=bF a∧T 1=bF b∧T 5=gi i∧H'=H) a.length ?_ ?_
    · exact ⟨0,by omega,by simp,rfl,rfl,rfl,rfl⟩
    · rintro k T H' ⟨i,hk,hi,h0,h1,h5,rfl⟩
      simp (disch:=omega) only [↓wr,↓reduceIte,wq,ag,aj,Nat.reduceEqDiff,reduceCtorEq,lW,h0,h5,bF]
      refine ar.dec (fun hc=>?_) (fun hc=>?_)
      · have h2:a[i]?=some (a[i]'(by omega)):=List.getElem?_eq_getElem (by omega)
        have h3:b[i]?=some (b[i]'(by omega)):=List.getElem?_eq_getElem (by omega)
        simp (disch:=omega) only [↓wr,↓reduceIte,wq,Nat.reduceEqDiff,Nat.reduceLT,reduceCtorEq,h0,h1,h5,bF,List.getElem?_map,h2,h3]
        refine ar.split (fun hd=>?_) (fun hd=>?_)
        · simp (disch:=omega) only [↓wr,↓reduceIte,wq,ag,Nat.reduceEqDiff,reduceCtorEq]
          have:(a == b)=false:=by
            simp only[beq_eq_false_iff_ne]; rintro rfl; simp at hd
          rw[this]
        · simp (disch:=omega) only [↓wr,↓reduceIte,wq,ag,Nat.reduceEqDiff,reduceCtorEq,h0,h1,h5,bF]
          refine ⟨k - 1,by omega,i+1,by omega,?_,rfl⟩
          have hd:a[i]'(by omega)=b[i]'(by omega):=by simpa using hd
          rw[List.take_add_one,List.take_add_one,hi,h2,h3,hd]
      · simp (disch:=omega) only [↓wr,↓reduceIte,wq,Nat.reduceEqDiff,reduceCtorEq]
        have:a=b:=by
          have e:i=a.length:=by omega
          rw[List.take_of_length_le (by omega),List.take_of_length_le (by omega)] at hi
          exact hi
        rw[this]; simp
theorem Lx (a b:List Bool) (ha:aN a):aF Tryz.prog 35 [bF a,bF b] (gb (a == b)) :=
  aF.of (by simp[gN]) ((Kv a b ha _).mono fun r H' h h' _=>by rw[h.1]; exact .tree _ (.val _))
theorem bytes_beq (a b:ByteArray):(a == b)=decide (a=b):=by
  cases a with | mk a=>cases b with | mk b =>
  rw[Bool.eq_iff_iff]
  show (ByteArray.beq ⟨a⟩ ⟨b⟩=true)↔_
  simp only[ByteArray.beq]
  simp
theorem CI (a b:ByteArray):gK a b=decide (a=b):=by
  cases a with | mk a=>cases b with | mk b =>
  rw[Bool.eq_iff_iff]
  simp[gK]
theorem oy {α:Type} {a b:List α} {i:Nat} {x y:α} (hx:a[i]?=some x) (hy:b[i]?=some y) (h:a.take i=b.take i) (e:x=y):a.take (i+1)=b.take (i+1):=by
  rw[List.take_add_one,List.take_add_one,h,hx,hy,e]
theorem qV {α:Type} {a b:List α} {i:Nat} (ha:a.length≤i) (hb:b.length≤i) (h:a.take i=b.take i):a=b:=by
  rwa [List.take_of_length_le ha,List.take_of_length_le hb] at h
theorem vJ {α:Type} {a b:List α} {i:Nat} {x y:α} (hx:a[i]?=some x) (hy:b[i]?=some y) (e:x≠y):a≠b:=by
  rintro rfl; rw[hx] at hy; exact e (by simpa using hy)
theorem qU {α:Type} {a b:List α} (h:¬ a.length=b.length):a≠b:=fun e=>h (by rw[e])
theorem yZ (x y:Term):gq Tryz.prog 9998 #[.string x.name,.int .i64 x.level,.int .i64 x.assoc] #[.string y.name,.int .i64 y.level,.int .i64 y.assoc]
    [{ name:= "Name",type:=9,offset:=0,embedded:=false,tag:= "",pkgPath:= "",byteOffset:=0 },{ name:= "Level",type:=3,offset:=1,embedded:=false,tag:= "",pkgPath:= "",byteOffset:=16 },
        { name:= "Assoc",type:=3,offset:=2,embedded:=false,tag:= "",pkgPath:= "",byteOffset:=24 }] (x.name == y.name && (x.level == y.level && (x.assoc == y.assoc && true))) :=
  .str _ _ _ _ _ (by decide) Tryz.underlying9 rfl rfl (.int _ _ _ _ _ _ (by decide) Tryz.underlying3 rfl rfl (.int _ _ _ _ _ _ (by decide) Tryz.underlying3 rfl rfl .nil))
theorem Gc (x y:Term):(x.name == y.name && (x.level == y.level && (x.assoc == y.assoc && true)))=decide (x=y):=by
  rw[bytes_beq,Bool.eq_iff_iff]
  cases x; cases y
  simp
theorem MI (a b:Int):(a == b)=decide (a=b):=by rw[Bool.eq_iff_iff]; simp
theorem Kk (x y:aM):decide (x=y)=(decide (x.left=y.left) && (decide (x.prec=y.prec) && decide (x.right=y.right))):=by
  cases x; cases y
  rw[Bool.eq_iff_iff]
  simp[and_comm]
theorem E9 (x y:ao):decide (x=y)=(decide (x.ay=y.ay) && (decide (x.au=y.au) && (decide (x.rules=y.rules) && decide (x.start=y.start)))):=by
  cases x; cases y
  rw[Bool.eq_iff_iff]
  simp
theorem B9 (g k:ao):∀ v∈[V.agg (al g),V.agg (al k)],Tree v:=by
  intro v hv; simp at hv
  rcases hv with rfl | rfl <;> exact cg _ (cO _)
def ma:SC :=
  .seq (.seq (ak [ae 42 5,aq 43 0 2,an 44 43,aP 45 44,aR 46 .lss 42 45]) <|
  .cond (.tmp 46) (.skip) (.exit 0)) <|
  .seq (.block 1 (.seq (ak [aq 49 0 2,an 50 49,ae 51 5,aQ 52 3 50 51,aT 53 3 52,aq 54 0 3,an 55 54,ae 56 5,aQ 57 3 55 56,aT 58 3 57,((some 59),.op (.old (.binOp .neq 119 (.tmp 53) (.tmp 58) 119) 4))]) <|
  .cond (.tmp 59) (.seq (ak [bg 4 false]) <|
  .ret) (.skip))) <|
  ak [ae 47 5,ax 48 .add 47 1,ae 5 48]
def m5:SC :=
  .seq (.seq (ak [ae 60 6,aq 61 1 2,an 62 61,aP 63 62,aR 64 .lss 60 63]) <|
  .cond (.tmp 64) (.skip) (.exit 2)) <|
  .seq (.block 3 (.seq (ak [aq 67 1 2,an 68 67,ae 69 6,aQ 70 1 68 69,an 71 70,aq 72 1 3,an 73 72,ae 74 6,aQ 75 1 73 74,an 76 75,((some 77),.op (.iN .neq (.tmp 71) (.tmp 76)))]) <|
  .cond (.tmp 77) (.seq (ak [bg 4 false]) <|
  .ret) (.skip))) <|
  ak [ae 65 6,ax 66 .add 65 1,ae 6 66]
def mb:SC :=
  .seq (.seq (ak [ae 78 7,aq 79 2 2,an 80 79,aP 81 80,aR 82 .lss 78 81]) <|
  .cond (.tmp 82) (.skip) (.exit 4)) <|
  .seq (.block 5 (.seq (ak [aq 85 2 2,an 86 85,ae 87 7,aQ 88 3 86 87,aT 89 3 88,aq 90 2 3,an 91 90,ae 92 7,aQ 93 3 91 92,aT 94 3 93,((some 8),.op (.alloc [(.val (.int .i64 0)),(.emp 1),(.val (.int .i64 0))])),((some 9),.op (.alloc [(.val (.int .i64 0)),(.emp 1),(.val (.int .i64 0))])),(none,.op (.store 3 (.tmp 8) (.tmp 89))),(none,.op (.store 3 (.tmp 9) (.tmp 94)))]) <|
  .seq (.region false [⟨none,[aq 95 0 8,an 96 95,aq 97 0 9,an 98 97,aR 99 .neq 96 98,ae 100 99]⟩,⟨(some (100,false)),[aq 101 2 8,an 102 101,aq 103 2 9,an 104 103,aR 105 .neq 102 104]⟩,⟨none,[bH 106 100 105,ae 107 106]⟩,⟨(some (107,false)),[aq 108 1 8,an 109 108,aq 110 1 9,an 111 110,aL 112 17 [109,111],cd 113 112]⟩,⟨none,[bH 114 107 113]⟩]) <|
  .cond (.tmp 114) (.seq (ak [bg 4 false]) <|
  .ret) (.skip))) <|
  ak [ae 83 7,ax 84 .add 83 1,ae 7 84]
def pn:SF:=⟨.seq (ak [cx 2 0,cx 3 1,bg 4 false]) <|
  .seq (.seq (.region false [⟨none,[aq 10 0 2,an 11 10,aP 12 11,aq 13 0 3,an 14 13,aP 15 14,aR 16 .neq 12 15,ae 17 16]⟩,⟨(some (17,false)),[aq 18 1 2,an 19 18,aP 20 19,aq 21 1 3,an 22 21,aP 23 22,aR 24 .neq 20 23]⟩,⟨none,[bH 25 17 24,ae 26 25]⟩,⟨(some (26,false)),[aq 27 2 2,an 28 27,aP 29 28,aq 30 2 3,an 31 30,aP 32 31,aR 33 .neq 29 32]⟩,⟨none,[bH 34 26 33,ae 35 34]⟩,⟨(some (35,false)),[aq 36 3 2,an 37 36,aq 38 3 3,an 39 38,aR 40 .neq 37 39]⟩,⟨none,[bH 41 35 40]⟩]) <|
  .cond (.tmp 41) (.seq (ak [bg 4 false]) <|
  .ret) (.skip)) <|
  .seq (.seq (ak [aH 5 0]) <|
  .block 0 (.loop ma)) <|
  .seq (.seq (ak [aH 6 0]) <|
  .block 2 (.loop m5)) <|
  .seq (.seq (ak [aH 7 0]) <|
  .block 4 (.loop mb)) <|
  .seq (ak [bg 4 true]) <|
  .ret,
  [.tmp 4],115⟩
theorem uv:aU Tryz.prog 34 [2,3]=some pn:=by kernel_rfl
set_option maxHeartbeats 2000000 in
theorem Ip (g k:ao) (hg:g.Ok):aF Tryz.prog 34 [.agg (al g),.agg (al k)] (gb (decide (g=k))):=by
  refine aF.val (B9 g k) fun H=>?_
  rw[E9]
  refine az.of mixed uv ?_
  have h1:=hg.ay
  have h2:=hg.au
  have h3:=hg.rules
  unfold aN at h1 h2 h3
  simp (disch:=omega) only [↓wr,↓reduceIte,wq,ah,ag,aj,Nat.reduceEqDiff,Nat.reduceAdd,Nat.reduceLT,Nat.reduceLeDiff,pn,al,encS]
  repeat' (first | (refine ar.dec (fun _=>?_) (fun _=>?_)) | (refine ar.eq (fun _=>?_) (fun _=>?_)) | (refine ar.ne (fun _=>?_) (fun _=>?_)) | (refine ar.split (fun _=>?_) (fun _=>?_)) | (simp (disch:=omega) only [↓wr,↓reduceIte,wq,ag,aj,Nat.reduceEqDiff,Nat.reduceAdd,Nat.reduceLT,reduceCtorEq]))
  · rename_i e; rw[decide_eq_false (qU (by omega))]; rfl
  · rename_i e; rw[decide_eq_false (p:=g.au=k.au) (qU (by omega))]; simp
  · rename_i e; rw[decide_eq_false (p:=g.rules=k.rules) (qU (by omega))]; simp
  · rename_i e; rw[decide_eq_false e]; simp
  rename_i l1 l2 l3 l4
  refine bc.up g.ay.length (fun i T _=>g.ay.take i=k.ay.take i∧T 2=.aS (al g) 0∧T 3=.aS (al k) 0∧T 5=gi i) ⟨by simp,rfl,rfl,rfl⟩ ?_
  rintro i m T H hm ⟨hi,t2,t3,t5⟩
  simp (disch:=omega) only [↓wr,↓reduceIte,wq,ag,aj,Nat.reduceEqDiff,Nat.reduceAdd,Nat.reduceLT,ma,t2,t5,al,encS]
  refine ar.dec (fun hc=>?_) (fun hc=>?_)
  · have hx:=List.getElem?_eq_getElem (l:=g.ay) (i:=i) (by omega)
    have hy:=List.getElem?_eq_getElem (l:=k.ay) (i:=i) (by omega)
    generalize g.ay[i]'(by omega)=x at hx
    generalize k.ay[i]'(by omega)=y at hy
    simp (disch:=omega) only [↓wr,↓reduceIte,wq,Nat.reduceEqDiff,Nat.reduceAdd,Nat.reduceLT,Nat.reduceLeDiff,t2,t3,t5,List.getElem?_map,hx,hy,cr,al,encS]
    refine yS (xs:=#[.string x.name,.int .i64 x.level,.int .i64 x.assoc]) (ys:=#[.string y.name,.int .i64 y.level,.int .i64 y.assoc]) Tryz.underlying119 (by kernel_rfl) (by kernel_rfl) ?_ ?_ (yZ x y) (.inr ⟨rfl,rfl⟩) ?_
    · rfl
    · rfl
    rw[Gc]
    simp (disch:=omega) only [↓wr,↓reduceIte,wq]
    refine ar.split (fun e=>?_) (fun e=>?_)
    · simp (disch:=omega) only [↓wr,↓reduceIte,wq,ag,Nat.reduceEqDiff,reduceCtorEq,t5]
      exact aJ hm (by omega) ⟨oy hx hy hi (by simpa using e),t2,t3,rfl⟩
    · simp (disch:=omega) only [↓wr,↓reduceIte,wq,ag,Nat.reduceEqDiff,reduceCtorEq,t5]
      rw[decide_eq_false (vJ hx hy (by simpa using e))]; rfl
  have e1:g.ay=k.ay:=qV (by omega) (by omega) hi
  simp (disch:=omega) only [↓wr,↓reduceIte,wq,Nat.reduceEqDiff,reduceCtorEq]
  clear hi hc hm
  refine bc.up g.au.length (fun i T _=>g.au.take i=k.au.take i∧T 2=.aS (al g) 0∧T 3=.aS (al k) 0∧T 6=gi i) ⟨by simp,t2,t3,rfl⟩ ?_
  clear t2 t3 t5 T H i m
  rintro i m T H hm ⟨hi,t2,t3,t5⟩
  simp (disch:=omega) only [↓wr,↓reduceIte,wq,ag,aj,Nat.reduceEqDiff,Nat.reduceAdd,Nat.reduceLT,m5,t2,t5,al,encS]
  refine ar.dec (fun hc=>?_) (fun hc=>?_)
  · have hx:=List.getElem?_eq_getElem (l:=g.au) (i:=i) (by omega)
    have hy:=List.getElem?_eq_getElem (l:=k.au) (i:=i) (by omega)
    generalize g.au[i]'(by omega)=x at hx
    generalize k.au[i]'(by omega)=y at hy
    simp (disch:=omega) only [↓wr,↓reduceIte,wq,Nat.reduceEqDiff,Nat.reduceAdd,Nat.reduceLT,t2,t3,t5,List.getElem?_map,hx,hy,al,encS,CI]
    refine ar.split (fun e=>?_) (fun e=>?_)
    · simp (disch:=omega) only [↓wr,↓reduceIte,wq,ag,Nat.reduceEqDiff,reduceCtorEq,t5]
      exact aJ hm (by omega) ⟨oy hx hy hi (by simpa using e),t2,t3,rfl⟩
    · simp (disch:=omega) only [↓wr,↓reduceIte,wq,ag,Nat.reduceEqDiff,reduceCtorEq,t5]
      rw[decide_eq_false (p:=g.au=k.au) (vJ hx hy (by simpa using e))]; simp
  have e2:g.au=k.au:=qV (by omega) (by omega) hi
  simp (disch:=omega) only [↓wr,↓reduceIte,wq,Nat.reduceEqDiff,reduceCtorEq]
  clear hi hc hm
  refine bc.up g.rules.length (fun i T _=>g.rules.take i=k.rules.take i∧T 2=.aS (al g) 0∧T 3=.aS (al k) 0∧T 7=gi i) ⟨by simp,t2,t3,rfl⟩ ?_
  clear t2 t3 t5 T H i m
  rintro i m T H hm ⟨hi,t2,t3,t5⟩
  simp (disch:=omega) only [↓wr,↓reduceIte,wq,ag,aj,Nat.reduceEqDiff,Nat.reduceAdd,Nat.reduceLT,reduceCtorEq,mb,t2,t5,al,encS]
  refine ar.dec (fun hc=>?_) (fun hc=>?_)
  · have hx:=List.getElem?_eq_getElem (l:=g.rules) (i:=i) (by omega)
    have hy:=List.getElem?_eq_getElem (l:=k.rules) (i:=i) (by omega)
    have hmx:g.rules[i]'(by omega)∈g.rules:=List.getElem_mem _
    generalize g.rules[i]'(by omega)=x at hx hmx
    generalize k.rules[i]'(by omega)=y at hy
    have hsx:=(hg.ba x hmx).2.2.1
    simp (disch:=omega) only [↓wr,↓reduceIte,wq,aa,Nat.reduceEqDiff,Nat.reduceAdd,Nat.reduceLT,Nat.reduceLeDiff,t2,t3,t5,List.getElem?_map,hx,hy,aK,encI,al,encS]
    intro n hn
    try simp (disch:=omega) only [↓wr,↓reduceIte,wq,ah,ag,aj,aa,ab,af,ai,isNil,Nat.reduceEqDiff,Nat.reduceAdd,Nat.reduceLT,Nat.reduceLeDiff,Int.reduceNeg,Int.reduceToNat,reduceCtorEq,t2,t3,t5,aK,encI]
    intro n2 hn2
    have hmn:=(bV hn2 bT).1
    try simp (disch:=omega) only [↓wr,↓reduceIte,wq,ag,aa,Nat.reduceEqDiff,Nat.reduceAdd,Nat.reduceLT,Nat.reduceLeDiff,hmn,hmn.symm]
    have hne:x≠y→V.val (Value.bool false)=V.val (Value.bool (decide (g.ay=k.ay) && (decide (g.au=k.au) && (decide (g.rules=k.rules) && decide (g.start=k.start))))):=fun e=>by
      rw[decide_eq_false (p:=g.rules=k.rules) (vJ hx hy e)]; simp
    repeat' (first | (refine ar.dec (fun _=>?_) (fun _=>?_)) | (refine ar.eq (fun _=>?_) (fun _=>?_)) | (refine ar.ne (fun _=>?_) (fun _=>?_)) | (refine ar.split (fun _=>?_) (fun _=>?_)) | (refine aC.pure (yl x.right y.right hsx) (by kernel_rfl) ?_) | (simp (disch:=omega) only [↓wr,↓reduceIte,wq,ag,Nat.reduceEqDiff,Nat.reduceAdd,Nat.reduceLT,reduceCtorEq,t5,hmn.symm]))
    · rename_i e; exact hne fun h=>e (by rw[h])
    · rename_i e; exact hne fun h=>e (by rw[h])
    · rename_i e3 e2 e1
      refine aJ hm (by omega) ⟨oy hx hy hi ?_,t2,t3,rfl⟩
      cases x; cases y
      simp_all
    · rename_i e; exact hne fun h=>by rw[h] at e; simp at e
  · have e3:g.rules=k.rules:=qV (by omega) (by omega) hi
    simp (disch:=omega) only [↓wr,↓reduceIte,wq,Nat.reduceEqDiff,reduceCtorEq]
    simp[e1,e2,e3,l4]
def eY:SC :=
  .seq (ak [aR 14 .lss 13 12]) <|
  .seq (.cond (.tmp 14) (.skip) (.exit 0)) <|
  .seq (.block 1 (.seq (ak [ae 15 13,ae 5 15]) <|
  .seq (ak [ae 16 0,ae 17 5,aQ 18 3 16 17,aT 19 3 18,ae 20 1,ae 21 5,aQ 22 3 20 21,aT 23 3 22,((some 24),.op (.old (.binOp .neq 119 (.tmp 19) (.tmp 23) 119) 4))]) <|
  .cond (.tmp 24) (.seq (ak [bg 4 false]) <|
  .ret) (.skip))) <|
  ak [ax 25 .add 13 1,ae 13 25]
def fB:SF:=⟨.seq (ak [bg 4 false]) <|
  .seq (.seq (ak [ae 6 0,aP 7 6,ae 8 1,aP 9 8,aR 10 .neq 7 9]) <|
  .cond (.tmp 10) (.seq (ak [bg 4 false]) <|
  .ret) (.skip)) <|
  .seq (.seq (ak [ae 11 0,aP 12 11,aH 13 0]) <|
  .block 0 (.loop eY)) <|
  .seq (ak [bg 4 true]) <|
  .ret,
  [.tmp 4],26⟩
theorem jh:aU Tryz.prog 165 []=some fB:=by kernel_rfl
def fV:SC :=
  .seq (ak [aR 14 .lss 13 12]) <|
  .seq (.cond (.tmp 14) (.skip) (.exit 0)) <|
  .seq (.block 1 (.seq (ak [ae 15 13,ae 5 15]) <|
  .seq (ak [ae 16 0,ae 17 5,aQ 18 1 16 17,an 19 18,ae 20 1,ae 21 5,aQ 22 1 20 21,an 23 22,((some 24),.op (.iN .neq (.tmp 19) (.tmp 23)))]) <|
  .cond (.tmp 24) (.seq (ak [bg 4 false]) <|
  .ret) (.skip))) <|
  ak [ax 25 .add 13 1,ae 13 25]
def gz:SF:=⟨.seq (ak [bg 4 false]) <|
  .seq (.seq (ak [ae 6 0,aP 7 6,ae 8 1,aP 9 8,aR 10 .neq 7 9]) <|
  .cond (.tmp 10) (.seq (ak [bg 4 false]) <|
  .ret) (.skip)) <|
  .seq (.seq (ak [ae 11 0,aP 12 11,aH 13 0]) <|
  .block 0 (.loop fV)) <|
  .seq (ak [bg 4 true]) <|
  .ret,
  [.tmp 4],26⟩
theorem kJ:aU Tryz.prog 166 []=some gz:=by kernel_rfl
def iy:SC :=
  .seq (ak [aR 14 .lss 13 12]) <|
  .seq (.cond (.tmp 14) (.skip) (.exit 0)) <|
  .seq (.block 1 (.seq (ak [ae 15 13,ae 5 15]) <|
  .seq (ak [ae 16 0,ae 17 5,aQ 18 1 16 17,an 19 18,ae 20 1,ae 21 5,aQ 22 1 20 21,an 23 22,aR 24 .neq 19 23]) <|
  .cond (.tmp 24) (.seq (ak [bg 4 false]) <|
  .ret) (.skip))) <|
  ak [ax 25 .add 13 1,ae 13 25]
def jr:SF:=⟨.seq (ak [bg 4 false]) <|
  .seq (.seq (ak [ae 6 0,aP 7 6,ae 8 1,aP 9 8,aR 10 .neq 7 9]) <|
  .cond (.tmp 10) (.seq (ak [bg 4 false]) <|
  .ret) (.skip)) <|
  .seq (.seq (ak [ae 11 0,aP 12 11,aH 13 0]) <|
  .block 0 (.loop iy)) <|
  .seq (ak [bg 4 true]) <|
  .ret,
  [.tmp 4],26⟩
theorem ov:aU Tryz.prog 208 []=some jr:=by kernel_rfl
def yU:SF:=⟨.seq (ak [cx 2 0,cx 3 1,bg 4 false]) <|
  .seq (.region false [⟨none,[aq 5 0 2,an 6 5,aq 7 0 3,an 8 7,aR 9 .eql 6 8,ae 10 9]⟩,⟨(some (10,true)),[aq 11 2 2,an 12 11,aq 13 2 3,an 14 13,aR 15 .eql 12 14]⟩,⟨none,[bN 16 10 15,ae 17 16]⟩,⟨(some (17,true)),[aq 18 1 2,an 19 18,aq 20 1 3,an 21 20,aL 22 208 [19,21]]⟩,⟨none,[bN 23 17 22,ae 4 23]⟩]) <|
  .ret,
  [.tmp 4],24⟩
theorem BG:aU Tryz.prog 168 [2,3]=some yU:=by kernel_rfl
def cM:SC :=
  .seq (ak [aR 18 .lss 17 16]) <|
  .seq (.cond (.tmp 18) (.skip) (.exit 0)) <|
  .seq (.block 1 (.seq (ak [ae 19 17,aQ 20 3 15 17,aT 21 3 20,((some 8),.op (.alloc [(.val (.int .i64 0)),(.emp 1),(.val (.int .i64 0))])),ae 7 19,(none,.op (.store 3 (.tmp 8) (.tmp 21)))]) <|
  .seq (ak [ae 22 1,ae 23 7,aQ 24 3 22 23,aT 25 3 24,((some 9),.op (.alloc [(.val (.int .i64 0)),(.emp 1),(.val (.int .i64 0))])),(none,.op (.store 3 (.tmp 9) (.tmp 25)))]) <|
  .seq (ak [ae 26 2,aT 27 3 8,aT 28 3 9,((some 29),.call (.tmp 26) [(.tmp 27),(.tmp 28)]),cd 30 29]) <|
  .cond (.tmp 30) (.seq (ak [bg 6 false]) <|
  .ret) (.skip))) <|
  ak [ax 31 .add 17 1,ae 17 31]
def cR:SF:=⟨.seq (ak [bg 6 false]) <|
  .seq (.seq (ak [ae 10 0,aP 11 10,ae 12 1,aP 13 12,aR 14 .neq 11 13]) <|
  .cond (.tmp 14) (.seq (ak [bg 6 false]) <|
  .ret) (.skip)) <|
  .seq (.seq (ak [ae 15 0,aP 16 15,aH 17 0]) <|
  .block 0 (.loop cM)) <|
  .seq (ak [bg 6 true]) <|
  .ret,
  [.tmp 6],32⟩
theorem er:aU Tryz.prog 167 []=some cR:=by kernel_rfl
def Aj:SF:=⟨.seq (ak [cx 2 0,cx 3 1,bg 4 false]) <|
  .seq (.region false [⟨none,[aq 5 0 2,an 6 5,aq 7 0 3,an 8 7,aL 9 165 [6,8],ae 10 9]⟩,⟨(some (10,true)),[aq 11 1 2,an 12 11,aq 13 1 3,an 14 13,aL 15 166 [12,14]]⟩,⟨none,[bN 16 10 15,ae 17 16]⟩,⟨(some (17,true)),[aq 18 2 2,an 19 18,aq 20 2 3,an 21 20,cL 22 167 [(.tmp 19),(.tmp 21),(.val (.fn 168 [] []))]]⟩,⟨none,[bN 23 17 22,ae 24 23]⟩,⟨(some (24,true)),[aq 25 3 2,an 26 25,aq 27 3 3,an 28 27,aR 29 .eql 26 28]⟩,⟨none,[bN 30 24 29,ae 4 30]⟩]) <|
  .ret,
  [.tmp 4],31⟩
theorem Dl:aU Tryz.prog 108 [2,3]=some Aj:=by kernel_rfl
theorem IE {α:Type} {f g:α→List V} {a b:List α} (hf:∀ x,∀ v∈f x,Tree v) (hg:∀ x,∀ v∈g x,Tree v):∀ v∈[V.aY (a.map f),V.aY (b.map g)],Tree v:=by
  intro v hv; simp at hv
  rcases hv with rfl | rfl
  · exact eV _ _ fun x _=>hf x
  · exact eV _ _ fun x _=>hg x
theorem IQ (a b:List Term) (ha:aN a) (H:View):az Tryz.prog 165 [.aY (a.map cr),.aY (b.map cr)] H fun r _=>r=gb (decide (a=b)):=by
  refine az.of mixed jh ?_
  unfold aN at ha
  simp (disch:=omega) only [↓wr,↓reduceIte,wq,ah,ag,aj,Nat.reduceEqDiff,Nat.reduceAdd,Nat.reduceLeDiff,reduceCtorEq,fB]
  refine ar.ne (fun h=>?_) (fun h=>?_)
  · simp (disch:=omega) only [↓wr,↓reduceIte,wq,reduceCtorEq]
    rw[decide_eq_false (qU (by omega))]
  · simp (disch:=omega) only [↓wr,↓reduceIte,wq,aj,reduceCtorEq]
    refine bc.up a.length (fun i T _=>a.take i=b.take i∧T 0=.aY (a.map cr)∧T 1=.aY (b.map cr)∧T 12=gi a.length∧T 13=gi i) ⟨by simp,rfl,rfl,rfl,rfl⟩ ?_
    rintro i k T H hk ⟨hi,h0,h1,h7,h8⟩
    simp (disch:=omega) only [↓wr,↓reduceIte,wq,ag,reduceCtorEq,eY,h7,h8]
    refine ar.dec (fun hc=>?_) (fun hc=>?_)
    · have h2:a[i]?=some (a[i]'(by omega)):=List.getElem?_eq_getElem (by omega)
      have h3:b[i]?=some (b[i]'(by omega)):=List.getElem?_eq_getElem (by omega)
      generalize a[i]'(by omega)=x at h2
      generalize b[i]'(by omega)=y at h3
      simp (disch:=omega) only [↓wr,↓reduceIte,wq,Nat.reduceEqDiff,Nat.reduceAdd,Nat.reduceLeDiff,reduceCtorEq,h0,h1,h8,List.getElem?_map,h2,h3,cr]
      refine yS (xs:=#[.string x.name,.int .i64 x.level,.int .i64 x.assoc]) (ys:=#[.string y.name,.int .i64 y.level,.int .i64 y.assoc]) Tryz.underlying119 (by kernel_rfl) (by kernel_rfl) ?_ ?_ (yZ x y) (.inr ⟨rfl,rfl⟩) ?_
      · rfl
      · rfl
      rw[Gc]
      simp (disch:=omega) only [↓wr,↓reduceIte,wq]
      refine ar.split (fun e=>?_) (fun e=>?_)
      · simp (disch:=omega) only [↓wr,↓reduceIte,wq,ag,Nat.reduceEqDiff,reduceCtorEq,h8]
        exact aJ hk (by omega) ⟨oy h2 h3 hi (by simpa using e),h0,h1,h7,rfl⟩
      · simp (disch:=omega) only [↓wr,↓reduceIte,wq,ag,Nat.reduceEqDiff,reduceCtorEq,h8]
        rw[decide_eq_false (vJ h2 h3 (by simpa using e))]
    · simp (disch:=omega) only [↓wr,↓reduceIte,wq,Nat.reduceEqDiff,reduceCtorEq]
      rw[decide_eq_true (qV (by omega) (by omega) hi)]
theorem IW (a b:List ByteArray) (ha:aN a) (H:View):az Tryz.prog 166 [encS a,encS b] H fun r _=>r=gb (decide (a=b)):=by
  refine az.of mixed kJ ?_
  unfold aN at ha
  simp (disch:=omega) only [↓wr,↓reduceIte,wq,ah,ag,aj,Nat.reduceEqDiff,Nat.reduceAdd,Nat.reduceLeDiff,reduceCtorEq,gz,encS]
  refine ar.ne (fun h=>?_) (fun h=>?_)
  · simp (disch:=omega) only [↓wr,↓reduceIte,wq,reduceCtorEq]
    rw[decide_eq_false (qU (by omega))]
  · simp (disch:=omega) only [↓wr,↓reduceIte,wq,aj,reduceCtorEq]
    refine bc.up a.length (fun i T _=>a.take i=b.take i∧T 0=encS a∧T 1=encS b∧T 12=gi a.length∧T 13=gi i) ⟨by simp,rfl,rfl,rfl,rfl⟩ ?_
    rintro i k T H hk ⟨hi,h0,h1,h7,h8⟩
    simp (disch:=omega) only [↓wr,↓reduceIte,wq,ag,reduceCtorEq,fV,h7,h8,encS]
    refine ar.dec (fun hc=>?_) (fun hc=>?_)
    · have h2:a[i]?=some (a[i]'(by omega)):=List.getElem?_eq_getElem (by omega)
      have h3:b[i]?=some (b[i]'(by omega)):=List.getElem?_eq_getElem (by omega)
      generalize a[i]'(by omega)=x at h2
      generalize b[i]'(by omega)=y at h3
      simp (disch:=omega) only [↓wr,↓reduceIte,wq,Nat.reduceEqDiff,Nat.reduceLT,reduceCtorEq,h0,h1,h8,encS,List.getElem?_map,h2,h3,CI]
      refine ar.split (fun e=>?_) (fun e=>?_)
      · simp (disch:=omega) only [↓wr,↓reduceIte,wq,ag,Nat.reduceEqDiff,reduceCtorEq,h8]
        exact aJ hk (by omega) ⟨oy h2 h3 hi (by simpa using e),h0,h1,h7,rfl⟩
      · simp (disch:=omega) only [↓wr,↓reduceIte,wq,ag,Nat.reduceEqDiff,reduceCtorEq,h8]
        rw[decide_eq_false (vJ h2 h3 (by simpa using e))]
    · simp (disch:=omega) only [↓wr,↓reduceIte,wq,Nat.reduceEqDiff,reduceCtorEq]
      rw[decide_eq_true (qV (by omega) (by omega) hi)]
theorem I4 (a b:List Int) (ha:aN a) (H:View):az Tryz.prog 208 [encI a,encI b] H fun r _=>r=gb (decide (a=b)):=by
  refine az.of mixed ov ?_
  unfold aN at ha
  simp (disch:=omega) only [↓wr,↓reduceIte,wq,ah,ag,aj,Nat.reduceEqDiff,Nat.reduceAdd,Nat.reduceLeDiff,reduceCtorEq,jr,encI]
  refine ar.ne (fun h=>?_) (fun h=>?_)
  · simp (disch:=omega) only [↓wr,↓reduceIte,wq,reduceCtorEq]
    rw[decide_eq_false (qU (by omega))]
  · simp (disch:=omega) only [↓wr,↓reduceIte,wq,aj,reduceCtorEq]
    refine bc.up a.length (fun i T _=>a.take i=b.take i∧T 0=encI a∧T 1=encI b∧T 12=gi a.length∧T 13=gi i) ⟨by simp,rfl,rfl,rfl,rfl⟩ ?_
    rintro i k T H hk ⟨hi,h0,h1,h7,h8⟩
    simp (disch:=omega) only [↓wr,↓reduceIte,wq,ag,reduceCtorEq,iy,h7,h8,encI]
    refine ar.dec (fun hc=>?_) (fun hc=>?_)
    · have h2:a[i]?=some (a[i]'(by omega)):=List.getElem?_eq_getElem (by omega)
      have h3:b[i]?=some (b[i]'(by omega)):=List.getElem?_eq_getElem (by omega)
      generalize a[i]'(by omega)=x at h2
      generalize b[i]'(by omega)=y at h3
      simp (disch:=omega) only [↓wr,↓reduceIte,wq,ag,Nat.reduceEqDiff,Nat.reduceLT,reduceCtorEq,h0,h1,h8,encI,List.getElem?_map,h2,h3]
      refine ar.ne (fun e=>?_) (fun e=>?_)
      · simp (disch:=omega) only [↓wr,↓reduceIte,wq,ag,Nat.reduceEqDiff,reduceCtorEq,h8]
        rw[decide_eq_false (vJ h2 h3 e)]
      · simp (disch:=omega) only [↓wr,↓reduceIte,wq,ag,Nat.reduceEqDiff,reduceCtorEq,h8]
        exact aJ hk (by omega) ⟨oy h2 h3 hi e,h0,h1,h7,rfl⟩
    · simp (disch:=omega) only [↓wr,↓reduceIte,wq,Nat.reduceEqDiff,reduceCtorEq]
      rw[decide_eq_true (qV (by omega) (by omega) hi)]
theorem HN (a b:List Term) (ha:aN a):aF Tryz.prog 165 [.aY (a.map cr),.aY (b.map cr)] (gb (decide (a=b))):=aF.val (IE rV rV) (IQ a b ha)
theorem Ic (a b:List ByteArray) (ha:aN a):aF Tryz.prog 166 [encS a,encS b] (gb (decide (a=b))):=aF.val (by
  intro v hv; simp at hv
  rcases hv with rfl | rfl <;> exact wZ _) (IW a b ha)
theorem Jc (a b:List Int) (ha:aN a):aF Tryz.prog 208 [encI a,encI b] (gb (decide (a=b))):=aF.val (by
  intro v hv; simp at hv
  rcases hv with rfl | rfl <;> exact bX _) (I4 a b ha)
theorem Ke (x y:aM) (hx:aN x.right):aF Tryz.prog 168 [.agg (aK x),.agg (aK y)] (gb (decide (x=y))):=by
  refine aF.val (by
    intro v hv; simp at hv
    rcases hv with rfl | rfl <;> exact cg _ (eK _)) fun H=>?_
  rw[Kk]
  refine az.of mixed BG ?_
  simp (disch:=omega) only [↓wr,↓reduceIte,wq,ah,ag,Nat.reduceEqDiff,Nat.reduceAdd,Nat.reduceLT,Nat.reduceLeDiff,yU,aK,encI]
  repeat' (first | (refine ar.dec (fun _=>?_) (fun _=>?_)) | (refine ar.eq (fun _=>?_) (fun _=>?_)) | (refine ar.ne (fun _=>?_) (fun _=>?_)) | (refine ar.split (fun _=>?_) (fun _=>?_)) | (refine aC.pure (Jc x.right y.right hx) (by kernel_rfl) ?_) | (simp (disch:=omega) only [↓wr,↓reduceIte,wq,ag,Nat.reduceEqDiff,Nat.reduceAdd,Nat.reduceLT,reduceCtorEq]))
  all_goals simp[*]
theorem D8 (a b:List aM) (ha:aN a) (hr:∀ r∈a,aN r.right) (H:View):az Tryz.prog 167 [.aY (a.map aK),.aY (b.map aK),.fn 168 [] []] H fun r _=>r=gb (decide (a=b)):=by
  refine az.of mixed er ?_
  unfold aN at ha
  simp (disch:=omega) only [↓wr,↓reduceIte,wq,ah,ag,aj,Nat.reduceEqDiff,Nat.reduceAdd,Nat.reduceLeDiff,reduceCtorEq,cR]
  refine ar.ne (fun h=>?_) (fun h=>?_)
  · simp (disch:=omega) only [↓wr,↓reduceIte,wq,reduceCtorEq]
    rw[decide_eq_false (qU (by omega))]
  · simp (disch:=omega) only [↓wr,↓reduceIte,wq,aj,reduceCtorEq]
    refine bc.up a.length (fun i T _=>a.take i=b.take i∧T 15=.aY (a.map aK)∧T 1=.aY (b.map aK)∧T 2=.fn 168 [] []∧T 16=gi a.length∧T 17=gi i) ⟨by simp,rfl,rfl,rfl,rfl,rfl⟩ ?_
    rintro i k T H hk ⟨hi,h0,h1,h6,h7,h8⟩
    simp (disch:=omega) only [↓wr,↓reduceIte,wq,ag,reduceCtorEq,cM,h7,h8]
    refine ar.dec (fun hc=>?_) (fun hc=>?_)
    · have h2:a[i]?=some (a[i]'(by omega)):=List.getElem?_eq_getElem (by omega)
      have h3:b[i]?=some (b[i]'(by omega)):=List.getElem?_eq_getElem (by omega)
      have hm:a[i]'(by omega)∈a:=List.getElem_mem _
      generalize a[i]'(by omega)=x at h2 hm
      generalize b[i]'(by omega)=y at h3
      have hsx:=hr x hm
      simp (disch:=omega) only [↓wr,↓reduceIte,wq,aa,Nat.reduceEqDiff,Nat.reduceAdd,Nat.reduceLT,Nat.reduceLeDiff,h0,h1,h6,h8,List.getElem?_map,h2,h3,aK,encI]
      intro n hn
      try simp (disch:=omega) only [↓wr,↓reduceIte,wq,ah,ag,aj,aa,ab,af,ai,isNil,Nat.reduceEqDiff,Nat.reduceAdd,Nat.reduceLT,Nat.reduceLeDiff,Int.reduceNeg,Int.reduceToNat,reduceCtorEq,h0,h1,h6,h7,h8,List.getElem?_map,h2,h3,aK,encI]
      intro m hmd
      have hmn:=(bV hmd bT).1
      try simp (disch:=omega) only [↓wr,↓reduceIte,wq,Nat.reduceEqDiff,Nat.reduceAdd,Nat.reduceLT,Nat.reduceLeDiff,hmn.symm]
      refine aC.pure (Ke x y hsx) (by kernel_rfl) ?_
      simp (disch:=omega) only [↓wr,↓reduceIte,wq]
      refine ar.split (fun e=>?_) (fun e=>?_)
      · simp (disch:=omega) only [↓wr,↓reduceIte,wq,ag,Nat.reduceEqDiff,Nat.reduceAdd,reduceCtorEq,h8]
        exact aJ hk (by omega) ⟨oy h2 h3 hi (by simpa using e),h0,h1,h6,h7,rfl⟩
      · simp (disch:=omega) only [↓wr,↓reduceIte,wq,ag,Nat.reduceEqDiff,Nat.reduceAdd,reduceCtorEq,h8]
        rw[decide_eq_false (vJ h2 h3 (by simpa using e))]
    · simp (disch:=omega) only [↓wr,↓reduceIte,wq,Nat.reduceEqDiff,reduceCtorEq]
      rw[decide_eq_true (qV (by omega) (by omega) hi)]
theorem EU (a b:List aM) (ha:aN a) (hr:∀ r∈a,aN r.right):aF Tryz.prog 167 [.aY (a.map aK),.aY (b.map aK),.fn 168 [] []] (gb (decide (a=b))):=aF.val (by
  intro v hv; simp at hv
  rcases hv with rfl | rfl | rfl
  · exact eV _ _ fun x _=>eK x
  · exact eV _ _ fun x _=>eK x
  · exact BS (by simp) (by simp)) (D8 a b ha hr)
theorem L2 (g k:ao) (hg:g.Ok):aF Tryz.prog 108 [.agg (al g),.agg (al k)] (gb (decide (g=k))):=by
  refine aF.val (B9 g k) fun H=>?_
  rw[E9]
  refine az.of mixed Dl ?_
  simp (disch:=omega) only [↓wr,↓reduceIte,wq,ah,Nat.reduceEqDiff,Nat.reduceAdd,Nat.reduceLT,Nat.reduceLeDiff,Aj,al,encS]
  repeat' (first | (refine ar.dec (fun _=>?_) (fun _=>?_)) | (refine ar.eq (fun _=>?_) (fun _=>?_)) | (refine ar.ne (fun _=>?_) (fun _=>?_)) | (refine ar.split (fun _=>?_) (fun _=>?_)) | (refine aC.pure (HN g.ay k.ay hg.ay) (by kernel_rfl) ?_) | (refine aC.pure (Ic g.au k.au hg.au) (by kernel_rfl) ?_) | (refine aC.pure (EU g.rules k.rules hg.rules (fun r hr=>(hg.ba r hr).2.2.1)) (by kernel_rfl) ?_) | (simp (disch:=omega) only [↓wr,↓reduceIte,wq,ag,Nat.reduceEqDiff,Nat.reduceAdd,Nat.reduceLT,reduceCtorEq]))
  all_goals simp_all [MI]
def CE:SF:=⟨.seq (ak [cx 1 0,bg 2 false]) <|
  .seq (ak [aT 7 4 1,aL 8 107 [7],ae 6 8,bU 9 0 6,bU 10 1 6,bU 11 2 6,((some 3),.op (.alloc [(.emp 1),(.emp 1),(.emp 1),(.val (.int .i64 0))])),(none,.op (.store 4 (.tmp 3) (.tmp 9))),ae 4 10,ae 5 11]) <|
  .seq (.region false [⟨none,[ae 12 5,ax 13 .eql 12 0,ae 14 13]⟩,⟨(some (14,true)),[aT 15 4 1,aT 16 4 3,aL 17 108 [15,16]]⟩,⟨none,[bN 18 14 17,ae 2 18]⟩]) <|
  .ret,
  [.tmp 2],19⟩
theorem Ei:aU Tryz.prog 60 [1]=some CE:=by kernel_rfl
def rb:SF:=⟨.seq (ak [cx 1 0,bg 2 false]) <|
  .seq (ak [aT 7 4 1,aL 8 67 [7],ae 6 8,bU 9 0 6,bU 10 1 6,bU 11 2 6,((some 3),.op (.alloc [(.emp 1),(.emp 1),(.emp 1),(.val (.int .i64 0))])),(none,.op (.store 4 (.tmp 3) (.tmp 9))),ae 4 10,ae 5 11]) <|
  .seq (.region false [⟨none,[ae 12 5,ax 13 .eql 12 0,ae 14 13]⟩,⟨(some (14,true)),[aT 15 4 1,aT 16 4 3,aL 17 34 [15,16]]⟩,⟨none,[bN 18 14 17,ae 2 18]⟩]) <|
  .ret,
  [.tmp 2],19⟩
theorem wk:aU Tryz.prog 38 [1]=some rb:=by kernel_rfl
theorem Jj (g:ao) (hg:g.Ok) (hs:g.Small):aF Tryz.prog 60 [.agg (al g)] (gb (isRed g)):=by
  refine aF.val (dM g) fun H=>?_
  refine az.of mixed Ei ?_
  simp (disch:=omega) only [↓wr,↓reduceIte,wq,ah,Nat.reduceEqDiff,Nat.reduceAdd,Nat.reduceLeDiff,CE,al,encS]
  refine aC.pure (Hb g hg hs).pure (by kernel_rfl) ?_
  unfold isRed
  generalize eX g=x
  obtain ⟨k,il,e⟩:=x
  simp (disch:=omega) only [↓wr,↓reduceIte,wq,ag,aa,Nat.reduceEqDiff,Nat.reduceAdd,Nat.reduceLT,Nat.reduceLeDiff,vh,al,encS]
  intro n hn
  refine ar.eq (fun h=>?_) (fun h=>?_)
  · simp (disch:=omega) only [↓wr,↓reduceIte,wq,Nat.reduceEqDiff,Nat.reduceAdd,Nat.reduceLT,Nat.reduceLeDiff]
    refine aC.pure (L2 g k hg) (by kernel_rfl) ?_
    simp (disch:=omega) only [↓wr,↓reduceIte,wq,Nat.reduceEqDiff,reduceCtorEq]
    simp[h]
  · simp (disch:=omega) only [↓wr,↓reduceIte,wq,Nat.reduceEqDiff,reduceCtorEq]
    simp[h]
theorem O2 (g:ao) (hg:g.Ok):aF Tryz.prog 38 [.agg (al g)] (gb (isRed g)):=by
  refine aF.val (dM g) fun H=>?_
  refine az.of mixed wk ?_
  simp (disch:=omega) only [↓wr,↓reduceIte,wq,ah,Nat.reduceEqDiff,Nat.reduceAdd,Nat.reduceLeDiff,rb,al,encS]
  refine aC.pure (Fm g hg).pure (by kernel_rfl) ?_
  unfold isRed
  generalize eX g=x
  obtain ⟨k,il,e⟩:=x
  simp (disch:=omega) only [↓wr,↓reduceIte,wq,ag,aa,Nat.reduceEqDiff,Nat.reduceAdd,Nat.reduceLT,Nat.reduceLeDiff,vh,al,encS]
  intro n hn
  refine ar.eq (fun h=>?_) (fun h=>?_)
  · simp (disch:=omega) only [↓wr,↓reduceIte,wq,Nat.reduceEqDiff,Nat.reduceAdd,Nat.reduceLT,Nat.reduceLeDiff]
    refine aC.pure (Ip g k hg) (by kernel_rfl) ?_
    simp (disch:=omega) only [↓wr,↓reduceIte,wq,Nat.reduceEqDiff,reduceCtorEq]
    simp[h]
  · simp (disch:=omega) only [↓wr,↓reduceIte,wq,Nat.reduceEqDiff,reduceCtorEq]
    simp[h]
def PW:ao:=⟨[⟨⟨#[39,97,39]⟩,0,0⟩,⟨⟨#[39,98,39]⟩,0,0⟩,⟨⟨#[39,99,39]⟩,0,0⟩,⟨⟨#[39,100,39]⟩,0,0⟩],[⟨#[115]⟩,⟨#[117]⟩,⟨#[118]⟩],[⟨0,[0,(-2)],0⟩,⟨0,[1],1⟩,⟨0,[],(-1)⟩,⟨1,[(-2),2],2⟩,⟨2,[3,(-1)],3⟩],0⟩
def OT:ao:=⟨PW.ay,[⟨#[115]⟩],[⟨0,[1],1⟩,⟨0,[],(-1)⟩],0⟩
theorem nf:isRed OT=true:=by kernel_rfl
structure ao.QD (g:ao):Prop where
  ay:g.ay.length≤40
  au:g.au.length≤40
  rules:g.rules.length≤60
  right:∀ r∈g.rules,r.right.length≤20
theorem cP.fr {h:aE} {v t:V} (f:cP h v t):Fr h v t:=by
  induction f with
  | val v=>exact .tree _ (.val _)
  | emp k=>exact .emp k
  | sl id off len esz z es es' h1 h2 h3 h4 _ ih=>exact .sl id off len esz z es es' h1 h2 h3 h4 ih
  | agg cs cs' h1 _ ih=>exact .agg cs cs' h1 ih
  | bt cs cs' h1 _ ih=>exact .bt cs cs' h1 ih
def hX:DC :=
  .seq (.seq (aw [ae 34 8,ae 35 7,aP 36 35,aR 37 .lss 34 36]) <|
  .cond (.tmp 37) (.skip) (.exit 0)) <|
  .block 1 (aw [ae 38 8,ae 39 7,ae 40 8,((some 41),.op (.slice 4 (.tmp 39) (some (.tmp 40)) none)),ae 42 7,ae 43 8,((some 44),.op (.slice 4 (.tmp 42) none (some (.tmp 43)))),((some 45),.op (.old (.call { callee:=.builtin .copy,args:=#[(.tmp 41),(.tmp 44)],argTypes:=#[284,284] }) 3)),aR 46 .add 38 45,ae 8 46])
def eE:DF:=⟨.seq (aw [((some 4),.op (.aZ (.val (.emp 1))))]) <|
  .seq (.seq (aw [ae 9 1,ax 10 .lss 9 0]) <|
  .cond (.tmp 10) (.region [] [⟨none,[((some 11),.op (.old (.makeInterface 9 (.const (.string ⟨#[99,97,110,110,111,116,32,98,101,32,110,101,103,97,116,105,118,101]⟩))) 20)),(none,.op (.old (.panic (.tmp 11)) 0))]⟩]) (.skip)) <|
  .seq (aw [ae 13 0,aP 14 13,((some 15),.op (.conv .u64 (.tmp 14))),ae 16 1,((some 17),.op (.conv .u64 (.tmp 16))),aL 18 153 [15,17],ae 12 18,bU 19 0 12,bU 20 1 12,ae 5 19,ae 6 20]) <|
  .seq (.seq (.region [] [⟨none,[ae 21 5,((some 22),.op (.arith .gtr (.tmp 21) (.val (.val (.int .u64 0))))),ae 23 22]⟩,⟨(some (23,false)),[ae 24 6,((some 25),.op (.arith .gtr (.tmp 24) (.val (.val (.int .u64 9223372036854775807)))))]⟩,⟨none,[bH 26 23 25]⟩]) <|
  .cond (.tmp 26) (.region [] [⟨none,[((some 27),.op (.old (.makeInterface 9 (.const (.string ⟨#[116,104,101,32,114,101,115,117,108,116,32,111,102,32,40,108,101,110,40,120,41,32,42,32,99,111,117,110,116,41,32,111,118,101,114,102,108,111,119,115]⟩))) 20)),(none,.op (.old (.panic (.tmp 27)) 0))]⟩]) (.skip)) <|
  .seq (aw [ae 28 6,((some 29),.op (.conv .i64 (.tmp 28))),((some 30),.op (.make 4 32 [(.val (.int .i64 0)),(.val (.int .i64 0)),(.val (.int .i64 0)),(.val (.int .i64 0))] (.tmp 29) (.tmp 29))),ae 7 30]) <|
  .seq (aw [ae 31 7,ae 32 0,((some 33),.op (.old (.call { callee:=.builtin .copy,args:=#[(.tmp 31),(.tmp 32)],argTypes:=#[284,284] }) 3)),ae 8 33]) <|
  .seq (.block 0 (.loop hX)) <|
  .seq (aw [ae 47 7,ae 4 47]) <|
  .ret,
  [.tmp 4],48⟩
theorem gY:bK Tryz.prog 248 []=some eE:=by kernel_rfl
def rS:DF:=⟨.seq (aw [((some 4),.op (.aZ (.val (.val (.int .u64 0))))),((some 5),.op (.aZ (.val (.val (.int .u64 0)))))]) <|
  .seq (.cond (.val (.val (.bool false))) (.seq (aw [ae 11 0,((some 12),.op (.conv .u32 (.tmp 11))),ae 13 1,((some 14),.op (.conv .u32 (.tmp 13))),aL 15 197 [12,14],ae 10 15,bU 16 0 10,bU 17 1 10,ae 6 16,ae 7 17]) <|
  .seq (aw [ae 18 6,((some 19),.op (.conv .u64 (.tmp 18))),ae 20 7,((some 21),.op (.conv .u64 (.tmp 20))),ae 4 19,ae 5 21]) <|
  .ret) (.skip)) <|
  .seq (aw [ae 23 0,ae 24 1,aL 25 198 [23,24],ae 22 25,bU 26 0 22,bU 27 1 22,ae 8 26,ae 9 27]) <|
  .seq (aw [ae 28 8,ae 29 9,ae 4 28,ae 5 29]) <|
  .ret,
  [.tmp 4,.tmp 5],30⟩
theorem xN:bK Tryz.prog 153 []=some rS:=by kernel_rfl
def p7:DF:=⟨.seq (aw [((some 4),.op (.aZ (.val (.val (.int .u32 0))))),((some 5),.op (.aZ (.val (.val (.int .u32 0)))))]) <|
  .seq (aw [ae 7 0,((some 8),.op (.conv .u64 (.tmp 7))),ae 9 1,((some 10),.op (.conv .u64 (.tmp 9))),aR 11 .mul 8 10,ae 6 11]) <|
  .seq (aw [ae 12 6,((some 13),.op (.sh false (.tmp 12) (.val (.val (.int .u64 32))))),((some 14),.op (.conv .u32 (.tmp 13))),ae 15 6,((some 16),.op (.conv .u32 (.tmp 15))),ae 4 14,ae 5 16]) <|
  .ret,
  [.tmp 4,.tmp 5],17⟩
theorem vg:bK Tryz.prog 197 []=some p7:=by kernel_rfl
def pY:DF:=⟨.seq (aw [((some 4),.op (.aZ (.val (.val (.int .u64 0))))),((some 5),.op (.aZ (.val (.val (.int .u64 0)))))]) <|
  .seq (aw [ae 14 0,((some 15),.op (.arith .and (.tmp 14) (.val (.val (.int .u64 4294967295))))),ae 6 15]) <|
  .seq (aw [ae 16 0,((some 17),.op (.sh false (.tmp 16) (.val (.val (.int .u64 32))))),ae 7 17]) <|
  .seq (aw [ae 18 1,((some 19),.op (.arith .and (.tmp 18) (.val (.val (.int .u64 4294967295))))),ae 8 19]) <|
  .seq (aw [ae 20 1,((some 21),.op (.sh false (.tmp 20) (.val (.val (.int .u64 32))))),ae 9 21]) <|
  .seq (aw [ae 22 6,ae 23 8,aR 24 .mul 22 23,ae 10 24]) <|
  .seq (aw [ae 25 7,ae 26 8,aR 27 .mul 25 26,ae 28 10,((some 29),.op (.sh false (.tmp 28) (.val (.val (.int .u64 32))))),aR 30 .add 27 29,ae 11 30]) <|
  .seq (aw [ae 31 11,((some 32),.op (.arith .and (.tmp 31) (.val (.val (.int .u64 4294967295))))),ae 12 32]) <|
  .seq (aw [ae 33 11,((some 34),.op (.sh false (.tmp 33) (.val (.val (.int .u64 32))))),ae 13 34]) <|
  .seq (aw [ae 35 12,ae 36 6,ae 37 9,aR 38 .mul 36 37,aR 39 .add 35 38,ae 12 39]) <|
  .seq (aw [ae 40 7,ae 41 9,aR 42 .mul 40 41,ae 43 13,aR 44 .add 42 43,ae 45 12,((some 46),.op (.sh false (.tmp 45) (.val (.val (.int .u64 32))))),aR 47 .add 44 46,ae 4 47]) <|
  .seq (aw [ae 48 0,ae 49 1,aR 50 .mul 48 49,ae 5 50]) <|
  .ret,
  [.tmp 4,.tmp 5],51⟩
theorem vc:bK Tryz.prog 198 []=some pY:=by kernel_rfl
def Fb:List (FuncId × DF):=[(248,eE),(153,rS),(197,p7),(198,pY)]
theorem Je:rL Tryz.prog Fb:=by
  intro p hp
  simp only[Fb,List.mem_cons,List.not_mem_nil,or_false] at hp
  rcases hp with rfl | rfl | rfl | rfl
  · exact ⟨_,gY⟩
  · exact ⟨_,xN⟩
  · exact ⟨_,vg⟩
  · exact ⟨_,vc⟩
def bO (p:bh):List V:=[gi p.ba,gi p.br,gi p.rules,gi p.ay]
abbrev gH (P:List bh):V:=.aY (P.map bO)
theorem qu (P:List bh):Tree (gH P):=eV _ _ fun x _ v hv=>by
  simp[bO] at hv
  rcases hv with rfl | rfl | rfl | rfl <;> exact .val _
theorem PF {n:Nat} (h:tw Tryz.prog Fb (fun _ _ _=>none) 248 [gH [gL],gi n]=some (gH (List.replicate n gL))):bP Tryz.prog 248 [gH [gL],gi n] (gH (List.replicate n gL)) :=
  qB mixed Je (GR _) (by
    intro v hv; simp at hv
    rcases hv with rfl | rfl
    · exact qu [gL]
    · exact .val _) h
theorem Jy {n:Nat} (h1:1≤n) (h2:n≤16):bP Tryz.prog 248 [gH [gL],gi n] (gH (List.replicate n gL)):=by
  have:n=1∨n=2∨n=3∨n=4∨n=5∨n=6∨n=7∨n=8∨n=9∨n=10∨n=11∨n=12∨n=13∨n=14∨n=15∨n=16:=by omega
  rcases this with rfl | rfl | rfl | rfl | rfl | rfl | rfl | rfl | rfl | rfl | rfl | rfl | rfl | rfl | rfl | rfl <;> exact PF (by kernel_rfl)
theorem z6 (p:bh):∀ v∈bO p,Tree v:=by
  intro v hv; simp[bO] at hv
  rcases hv with rfl | rfl | rfl | rfl <;> exact .val _
theorem OG (h:aE) (p:bh):cP h (.agg (bO p)) (.agg (bO p)):=.agg _ _ rfl fun i hi=>by
  match i,hi with
  | 0,_=>exact .val _
  | 1,_=>exact .val _
  | 2,_=>exact .val _
  | 3,_=>exact .val _
  | n+4,h=>exact absurd h (by simp[bO])
def vT (p:bh):Prop:=dc p∧(-1≤p.ba∧p.ba≤1000000)∧0≤p.br∧p.br≤1000000
theorem KX:vT bq:=by unfold vT dc bq; decide
theorem Er {x:Int} : (if x < 1048576 then x else 1048576)=min 1048576 x:=by omega
theorem JC {x y:Int} : (if y > x then y else x)=max x y:=by omega
def vU:SC :=
  .seq (ak [aR 12 .lss 11 10]) <|
  .seq (.cond (.tmp 12) (.skip) (.exit 0)) <|
  .seq (.block 1 (.seq (ak [aQ 13 1 9 11,an 14 13,ae 7 14]) <|
  .seq (.seq (ak [ae 15 7,ax 16 .geq 15 0]) <|
  .cond (.tmp 16) (.seq (ak [aq 17 3 4,an 18 17,ax 19 .add 18 1,((some 20),.op (.mm false (.val (.val (.int .i64 1048576))) (.tmp 19))),aq 21 3 4,(none,.op (.store 1 (.tmp 21) (.tmp 20)))]) <|
  .exit 1) (.skip)) <|
  .seq (ak [ae 22 1,ae 23 7,((some 24),.op (.arith .sub (.val (.val (.int .i64 (-1)))) (.tmp 23))),aQ 25 4 22 24,aT 26 4 25,((some 8),.op (.alloc [(.val (.int .i64 0)),(.val (.int .i64 0)),(.val (.int .i64 0)),(.val (.int .i64 0))])),(none,.op (.store 4 (.tmp 8) (.tmp 26)))]) <|
  .seq (.seq (ak [aq 27 0 8,an 28 27,ax 29 .lss 28 0]) <|
  .cond (.tmp 29) (.seq (ak [aT 30 4 4,(none,.op (.store 4 (.tmp 4) (.tmp 30))),bg 5 false]) <|
  .ret) (.skip)) <|
  .seq (ak [aq 31 1 4,an 32 31,aq 33 1 8,an 34 33,((some 35),.op (.mm true (.tmp 32) (.tmp 34))),aq 36 1 4,(none,.op (.store 1 (.tmp 36) (.tmp 35)))]) <|
  .lX [(45,49)] [⟨none,[aq 37 2 4,an 38 37,aq 39 2 8,an 40 39,aR 41 .add 38 40,((some 42),.op (.mm false (.val (.val (.int .i64 1048576))) (.tmp 41))),aq 43 3 4,an 44 43,aq 45 3 8,an 46 45,aR 47 .add 44 46,((some 48),.op (.mm false (.val (.val (.int .i64 1048576))) (.tmp 47))),aq 49 2 4,(none,.op (.store 1 (.tmp 49) (.tmp 42))),aq 50 3 4,(none,.op (.store 1 (.tmp 50) (.tmp 48)))]⟩])) <|
  ak [ax 51 .add 11 1,ae 11 51]
def yH:SF:=⟨.seq (ak [((some 4),.op (.alloc [(.val (.int .i64 0)),(.val (.int .i64 0)),(.val (.int .i64 0)),(.val (.int .i64 0))])),bg 5 false]) <|
  .seq (.seq (ak [ae 9 0,aP 10 9,aH 11 0]) <|
  .block 0 (.loop vU)) <|
  .seq (ak [aT 52 4 4,(none,.op (.store 4 (.tmp 4) (.tmp 52))),bg 5 true]) <|
  .ret,
  [.cell 4 (some 4),.tmp 5],53⟩
theorem BJ:aU Tryz.prog 232 []=some yH:=by kernel_rfl
theorem xm {P:List bh} {m:Nat} (h:m < P.length):(P.map bO)[m]?=some (bO (bb P m)):=by
  simp[bb,List.getD_eq_getElem?_getD,h]
set_option maxHeartbeats 2000000 in
theorem Jl (P:List bh) (hP:∀ m,vT (bb P m)) (l:List Int) (hl:aN l) (hn:∀ x∈l,bM x∧(x < 0→-1 - x < P.length)) :
    bP Tryz.prog 232 [encI l,gH P] (.bt [.agg (bO (bE P l bq).1),gb (bE P l bq).2]):=by
  have key:∀ H,az Tryz.prog 232 [encI l,gH P] H fun r _=>r=.bt [.agg (bO (bE P l bq).1),gb (bE P l bq).2]:=?_
  · refine bP.of (by
      intro v hv; simp at hv
      rcases hv with rfl | rfl
      · exact bX l
      · exact qu P) ((key _).mono fun r H' e h' _=>?_)
    rw[e]; exact zQ (OG _ _) (.val _)
  intro H
  refine az.of mixed BJ ?_
  unfold aN at hl
  simp (disch:=omega) only [↓wr,↓reduceIte,wq,ah,aj,Nat.reduceAdd,Nat.reduceLeDiff,reduceCtorEq,yH,encI]
  intro m hm
  try simp (disch:=omega) only [↓wr,↓reduceIte,wq,ah,ag,aj,aa,ab,af,ai,isNil,Nat.reduceEqDiff,Nat.reduceAdd,Nat.reduceLT,Nat.reduceLeDiff,Int.reduceNeg,Int.reduceToNat,reduceCtorEq,encI]
  refine bc.up l.length (fun i T H'=>∃ s:bh,vT s∧s.ba=0∧bE P (l.drop i) s=bE P l bq∧H' m=.arr 4 [bO s]∧T 1=gH P∧T 4=.ptr m 0 0∧T 9=encI l∧T 10=gi l.length∧T 11=gi i) ?_ ?_
  · exact ⟨bq,KX,rfl,rfl,by simp[View.set,bO,bq],rfl,rfl,rfl,rfl,rfl⟩
  rintro i k T H hk ⟨s,hs,hs0,hsum,hH,t1,t4,t9,t10,t11⟩
  unfold vT dc at hs
  simp (disch:=omega) only [↓wr,↓reduceIte,wq,ag,Int.reduceNeg,vU,t10,t11,encI]
  refine ar.dec (fun hc=>?_) (fun hc=>?_)
  · have hg:l[i]?=some (l[i]'(by omega)):=List.getElem?_eq_getElem (by omega)
    have hmem:l[i]'(by omega)∈l:=List.getElem_mem _
    rw[c9 (show i < l.length by omega)] at hsum
    generalize l[i]'(by omega)=x at hg hmem hsum
    obtain ⟨⟨hx1,hx2⟩,hx3⟩:=hn x hmem
    simp (disch:=omega) only [↓wr,↓reduceIte,wq,ag,Nat.reduceEqDiff,Nat.reduceLT,Int.reduceNeg,t9,t11,encI,List.getElem?_map,hg]
    refine ar.dec (fun hd=>?_) (fun hd=>?_)
    · simp (disch:=omega) only [↓wr,↓reduceIte,wq,ag,aa,Nat.reduceEqDiff,Nat.reduceAdd,Nat.reduceLT,Nat.reduceLeDiff,Int.reduceNeg,reduceCtorEq,t4,t11,hH,bO,Er]
      rw[w5 (show 0≤x from hd)] at hsum
      refine aJ hk (by omega) ⟨_,?_,?_,hsum,?_,t1,t4,t9,t10,rfl⟩
      · unfold vT dc; simp only; omega
      · exact hs0
      · simp[View.set]
    · have hm:(bD x) < P.length:=by have:=hx3 (by omega); unfold bD; omega
      have hp:=hP (bD x)
      unfold vT dc at hp
      simp (disch:=omega) only [↓wr,↓reduceIte,wq,ag,aa,Nat.reduceEqDiff,Nat.reduceAdd,Nat.reduceLT,Int.reduceNeg,t1,xm hm]
      simp (disch:=omega) only [↓wr,↓reduceIte,wq,Nat.reduceAdd,Nat.reduceLT,Nat.reduceLeDiff,Int.reduceNeg,bO]
      intro q hq
      have hqm:m≠q:=by rintro rfl; rw[hH] at hq; simp at hq
      try simp (disch:=omega) only [↓wr,↓reduceIte,wq,ah,ag,aj,aa,ab,af,ai,isNil,Nat.reduceEqDiff,Nat.reduceAdd,Nat.reduceLT,Nat.reduceLeDiff,Int.reduceNeg,Int.reduceToNat,reduceCtorEq,t1,t4,t9,t10,t11,encI,hH,hqm,hqm.symm,bO]
      refine ar.dec (fun he=>?_) (fun he=>?_)
      · simp (disch:=omega) only [↓wr,↓reduceIte,wq,ag,aa,Nat.reduceEqDiff,Nat.reduceAdd,Nat.reduceLT,Nat.reduceLeDiff,Int.reduceNeg,reduceCtorEq,t4,t11,hH,hqm,bO]
        rw[CH (by omega) he] at hsum
        rw[← hsum]
      · simp (disch:=omega) only [↓wr,↓reduceIte,wq,ag,aa,Nat.reduceEqDiff,Nat.reduceAdd,Nat.reduceLT,Nat.reduceLeDiff,Int.reduceNeg,reduceCtorEq,t4,t11,hH,hqm,hqm.symm,bO,Er,JC]
        rw[vw (by omega) he] at hsum
        refine aJ hk (by omega) ⟨_,?_,?_,hsum,?_,t1,t4,t9,t10,rfl⟩
        · unfold vT dc; simp only; omega
        · exact hs0
        · simp[View.set]
  · simp (disch:=omega) only [↓wr,↓reduceIte,wq,aa,Nat.reduceEqDiff,Nat.reduceAdd,Nat.reduceLT,Nat.reduceLeDiff,reduceCtorEq,t4,hH,bO]
    rw[List.drop_eq_nil_of_le (by omega)] at hsum
    rw[← hsum]; try rfl
def dp:SF:=⟨.seq (ak [((some 2),.op (.aZ (.val (.emp 1))))]) <|
  .seq (.seq (ak [ae 3 0,((some 4),.op (.nil true 0 (.tmp 3) (.val (.emp 1))))]) <|
  .cond (.tmp 4) (.seq (ak [((some 2),.op (.aZ (.val (.emp 1))))]) <|
  .ret) (.skip)) <|
  .seq (ak [((some 5),.op (.aZ (.val (.emp 2)))),ae 6 0,((some 7),.op (.app 4 32 (.tmp 5) (.tmp 6))),ae 2 7]) <|
  .ret,
  [.tmp 2],8⟩
theorem iv:aU Tryz.prog 249 []=some dp:=by kernel_rfl
theorem GN (P:List bh) (hl:P.length≤100000) (h1:1≤P.length) (u:V) (H:View) (hu:u=gH P∨aV H u 4 (P.map bO)) :
    az Tryz.prog 249 [u] H fun r H'=>aV H' r 4 (P.map bO)∧cY H H' r:=by
  have hall:((P.map bO).all fun e=>e.length == 4 && e.all aO)=true:=by simp[List.all_map,bO,aO]
  refine az.of mixed iv ?_
  cases P with
  | nil=>simp at h1
  | cons p r =>
    simp only[List.length_cons] at hl
    rcases hu with rfl | hu
    · simp (disch:=omega) only [↓wr,↓reduceIte,wq,ah,ai,isNil,Nat.reduceEqDiff,Nat.reduceLeDiff,reduceCtorEq,dp,gH]
      refine ⟨by simpa using hall,by unfold aG; simp; omega,fun m hm=>?_⟩
      simp (disch:=omega) only [↓wr,↓reduceIte,wq,reduceCtorEq]
      have:=aV.new (H:=H) (n:=m) (sz:=4) (es:=(p :: r).map bO)
      simp only[List.length_map,List.length_cons] at this
      exact ⟨by simpa using this,.new hm⟩
    · obtain ⟨n,rfl,hn⟩:=hu.sl (by simp)
      simp only[List.length_map,List.length_cons] at hn ⊢
      have he:ca H (.sl n 0 (r.length+1) 4)=some ((p :: r).map bO,[n]):=by
        rw[qD _ n 0 r.length 4 4 _ hn (by simp),List.drop_zero,List.take_of_length_le (by simp)]
      simp (disch:=omega) only [↓wr,↓reduceIte,wq,ah,ai,isNil,Nat.reduceEqDiff,Nat.reduceLeDiff,reduceCtorEq,dp,he]
      refine ⟨by simpa using hall,by unfold aG; simp; omega,fun m hm=>?_⟩
      simp (disch:=omega) only [↓wr,↓reduceIte,wq,reduceCtorEq]
      have:=aV.new (H:=H) (n:=m) (sz:=4) (es:=(p :: r).map bO)
      simp only[List.length_map,List.length_cons] at this
      exact ⟨by simpa using this,.new hm⟩
end Gv
