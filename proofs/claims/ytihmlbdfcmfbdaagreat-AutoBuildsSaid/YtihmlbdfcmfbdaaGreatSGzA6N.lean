/-
  Part 14 of the proof: what the machine does and what the functions answer.
  Conditions: those that each lemma names.
-/
import Derived.Shelf.SlSortCmp.NoneTotal
import Derived.Shelf.SlicesG.Cmp
import Derived.StillTailTactics
import Derived.Test.YtihmlbdfcmfbdaaGreatSGzA6M
set_option linter.unusedSimpArgs false
set_option linter.unusedVariables false
set_option maxRecDepth 100000
namespace Gv
open Go Go.Proofs
theorem vg {g:ao} (hf:g.dH) : -100≤g.start∧g.start≤100:=by
  have:=hf.jJ; have:=hf.start; have:=hf.ay; omega
theorem DZ (g:ao) (hf:g.dH) (x:aL) (hx:c4 g x):aD Tryz.prog 51 [.agg (aw g),.agg (bQ x)] (.bu [gi (cU g x).1,gb (cU g x).2]) :=
  KP g (vg hf) x hx.1 hx.2 (by have:=fF hf hx.1; omega)
theorem oS {l:List aL} {i:Nat} {y:aL} (h:l[i]?=some y):(aS l).getD i []=[gi y.aH,gi y.dot]:=by simp[aS,List.getD_eq_getElem?_getD,h,bQ]
theorem bB (l:List aL):(aS l).length=l.length:=by simp[aS]
theorem uF {g:ao} {x:aL} {s:Int} {b:Bool} (hf:g.dH) (hx:c4 g x) (h:cU g x=(s,b)) : -1000≤s∧s≤1000:=by
  have hsym:∀ s∈dt g x.aH,-1000≤s∧s≤1000:=by
    intro s hs
    unfold dt at hs
    split at hs
    · simp at hs; subst hs; have:=vg hf; omega
    · have hR:g.rules[x.aH.toNat]?=some (dC g x.aH):=by unfold dC; exact getD_some (by have:=hx.1; omega)
      have h1:=hf.sym _ (List.mem_of_getElem? hR) s hs
      have:=hf.az; have:=hf.ay
      unfold hU at h1
      split at h1 <;> simp at h1 <;> omega
  unfold cU at h
  split at h
  · simp at h; omega
  · rename_i hd
    simp only[Prod.mk.injEq] at h
    have hlt:x.dot.toNat < (dt g x.aH).length:=by have:=hx.2; omega
    rw[← h.1]
    exact hsym _ (List.mem_of_getElem? (getD_some hlt))
def kd:SC :=
  .seq (.seq (ak [aa 12 6,aa 13 1,aJ 14 13,aN 15 .lss 12 14]) <|
  .cond (.tmp 15) (.skip) (.exit 0)) <|
  .seq (.block 1 (ak [aa 18 5,aa 19 1,aa 20 6,aP 21 2 19 20,aK 22 2 21,aI 23 108 [18,22],aa 5 23])) <|
  ak [aa 16 6,aA 17 .add 16 1,aa 6 17]
def gE:SC :=
  .seq (.seq (.region false [⟨none,[aa 41 9,aa 42 41]⟩,⟨(some (42,true)),[aa 43 8,aA 44 .lss 43 0]⟩,⟨none,[bG 45 42 44,aa 46 45]⟩,⟨(some (46,true)),[aa 47 11,av 48 2 2,au 49 48,aJ 50 49,aN 51 .lss 47 50]⟩,⟨none,[bG 52 46 51]⟩]) <|
  .cond (.tmp 52) (.skip) (.exit 4)) <|
  .seq (.block 5 (.seq (ak [av 55 2 2,au 56 55,aa 57 11,aP 58 3 56 57,av 59 0 58,au 60 59,aa 61 8,((some 62),.op (.arith .sub (.val (.val (.int .i64 (-1)))) (.tmp 61))),aN 63 .eql 60 62]) <|
  .cond (.tmp 63) (ak [aa 64 5,aa 65 11,((some 66),.op (.build [(.val (.int .i64 0)),(.val (.int .i64 0))] [(0,1,(.tmp 65))])),aI 67 108 [64,66],aa 5 67]) (.skip))) <|
  ak [aa 53 11,aA 54 .add 53 1,aa 11 54]
def ki:SC :=
  .seq (.seq (ak [aa 24 7,aa 25 5,aJ 26 25,aN 27 .lss 24 26]) <|
  .cond (.tmp 27) (.skip) (.exit 2)) <|
  .seq (.block 3 (.seq (ak [aK 31 4 2,aa 32 5,aa 33 7,aP 34 2 32 33,aK 35 2 34,aI 36 51 [31,35],aa 30 36,cG 37 0 30,cG 38 1 30,aa 8 37,aa 9 38]) <|
  .seq (ak [aa 39 5,aJ 40 39,aa 10 40]) <|
  .seq (.seq (ak [aF 11 0]) <|
  .block 4 (.loop gE)) <|
  .seq (ak [aa 68 5,aJ 69 68,aa 70 10,aN 71 .gtr 69 70]) <|
  .cond (.tmp 71) (ak [aF 7 (-1)]) (.skip))) <|
  ak [aa 28 7,aA 29 .add 28 1,aa 7 29]
def lj:SF:=⟨.seq (ak [bZ 2 0,((some 4),.op (.bm (.val (.emp 1))))]) <|
  .seq (ak [((some 5),.op (.bm (.val (.emp 1))))]) <|
  .seq (.seq (ak [aF 6 0]) <|
  .block 0 (.loop kd)) <|
  .seq (.seq (ak [aF 7 0]) <|
  .block 2 (.loop ki)) <|
  .seq (ak [aa 72 5,aa 4 72]) <|
  .ret,
  [.tmp 4],73⟩
theorem qu:bf Tryz.prog 60 [2]=some lj:=by kernel_rfl
def lD:SC :=
  .seq (.seq (ak [aa 11 8,aa 12 1,aJ 13 12,aN 14 .lss 11 13]) <|
  .cond (.tmp 14) (.skip) (.exit 0)) <|
  .seq (.block 1 (.seq (ak [aK 18 4 3,aa 19 1,aa 20 8,aP 21 2 19 20,aK 22 2 21,aI 23 51 [18,22],aa 17 23,cG 24 0 17,cG 25 1 17,aa 9 24,aa 10 25]) <|
  .seq (.region false [⟨none,[aa 26 10,aa 27 26]⟩,⟨(some (27,true)),[aa 28 9,aa 29 2,aN 30 .eql 28 29]⟩,⟨none,[bG 31 27 30]⟩]) <|
  .cond (.tmp 31) (ak [aa 32 7,aa 33 1,aa 34 8,aP 35 2 33 34,av 36 0 35,au 37 36,aa 38 1,aa 39 8,aP 40 2 38 39,av 41 1 40,au 42 41,aA 43 .add 42 1,((some 44),.op (.build [(.val (.int .i64 0)),(.val (.int .i64 0))] [(0,1,(.tmp 37)),(1,1,(.tmp 43))])),aI 45 108 [32,44],aa 7 45]) (.skip))) <|
  ak [aa 15 8,aA 16 .add 15 1,aa 8 16]
def ni:SF:=⟨.seq (ak [bZ 3 0,((some 6),.op (.bm (.val (.emp 1))))]) <|
  .seq (ak [((some 7),.op (.bm (.val (.emp 1))))]) <|
  .seq (.seq (ak [aF 8 0]) <|
  .block 0 (.loop lD)) <|
  .seq (ak [aa 46 7,aa 6 46]) <|
  .ret,
  [.tmp 6],47⟩
theorem sJ:bf Tryz.prog 66 [3]=some ni:=by kernel_rfl
def lz:SC :=
  .seq (.seq (ak [aa 11 5,aa 12 0,aJ 13 12,aN 14 .lss 11 13]) <|
  .cond (.tmp 14) (.skip) (.exit 0)) <|
  .seq (.block 1 (.seq (ak [aa 17 0,aa 18 5,aP 19 2 17 18,aK 20 2 19,aa 21 1,aa 22 5,aP 23 2 21 22,aK 24 2 23,((some 25),.op (.old (.binOp .neq 33 (.tmp 20) (.tmp 24) 33) 4))]) <|
  .cond (.tmp 25) (.seq (ak [aX 4 false]) <|
  .ret) (.skip))) <|
  ak [aa 15 5,aA 16 .add 15 1,aa 5 16]
def mV:SF:=⟨.seq (ak [aX 4 false]) <|
  .seq (.seq (ak [aa 6 0,aJ 7 6,aa 8 1,aJ 9 8,aN 10 .neq 7 9]) <|
  .cond (.tmp 10) (.seq (ak [aX 4 false]) <|
  .ret) (.skip)) <|
  .seq (.seq (ak [aF 5 0]) <|
  .block 0 (.loop lz)) <|
  .seq (ak [aX 4 true]) <|
  .ret,
  [.tmp 4],26⟩
theorem r5:bf Tryz.prog 21 []=some mV:=by kernel_rfl
def lW:SF:=⟨.seq (ak [bZ 2 0,aF 4 0]) <|
  .seq (.seq (ak [aa 5 1,av 6 0 2,au 7 6,aJ 8 7,aN 9 .lss 5 8]) <|
  .cond (.tmp 9) (.seq (ak [aa 10 1,aa 4 10]) <|
  .ret) (.skip)) <|
  .seq (ak [aa 11 1,av 12 0 2,au 13 12,aJ 14 13,aN 15 .sub 11 14,((some 16),.op (.arith .sub (.val (.val (.int .i64 (-1)))) (.tmp 15))),aa 4 16]) <|
  .ret,
  [.tmp 4],17⟩
theorem q7:bf Tryz.prog 65 [2]=some lW:=by kernel_rfl
def Pz (g:ao) (out:List aL) (x:aL):Prop:=∀ (s:Int) (k:Nat) (R:aT),cU g x=(s,true)→s < 0→g.rules[k]?=some R→R.left = -1 - s→(⟨k,0⟩:aL)∈out
def MT (g:ao) (l:List aL) (H:View) (m:Nat) (T:Env) (H':View):Prop:=∃ (i:Nat) (r:V) (out:List aL),m=(300 - out.length) * 1000+(300 - i)∧i≤out.length∧aQ H' r 2 (aS out)∧cd H H' r∧bS out∧(∀ x∈out,lY g l x)∧(∀ x∈l,x∈out)∧(∀ j x,j < i→out[j]?=some x→Pz g out x) ∧
  T 2=.aR (aw g) 0∧T 5=r∧T 7=gi i
set_option maxHeartbeats 8000000 in
theorem Eg (g:ao) (hf:g.dH) (l:List aL) (hl:∀ x∈l,c4 g x) (hn:l.length≤10000) (u:V) (H:View) (ho:aQ H u 2 (aS l)):aC Tryz.prog 60 [.agg (aw g),u] H fun r H'=>aQ H' r 2 (aS (cM g l))∧cd H H' r:=by
  refine aC.of mixed qu ?_
  have hlen:cq u=some l.length:=by rw[ho.len]; simp[aS]
  have hru:=hf.rules
  simp (disch:=omega) only [↓wr,↓reduceIte,wq,ah,ag,aj,ab,ae,af,ai,isNil,Nat.reduceEqDiff,Nat.reduceAdd,Nat.reduceLT,Nat.reduceLeDiff,Int.reduceNeg,Int.reduceToNat,reduceCtorEq,lj,aw,encS]
  refine bz.up l.length (fun i T H'=>∃ (r:V) (out:List aL),aQ H' r 2 (aS out)∧cd H H' r∧bS out∧(∀ x,x∈out↔x∈l.take i)∧out.length≤287∧T 1=u∧T 2=.aR (aw g) 0∧T 5=r∧T 6=gi i)
    ⟨.emp 1,[],.nil,.emp,.nil,by simp,by simp,rfl,rfl,rfl,rfl⟩ ?_
  rintro i k T H' hk ⟨r,out,o1,fr,hso,hm,hle,t1,t2,t5,t6⟩
  simp (disch:=omega) only [↓wr,↓reduceIte,wq,ah,ag,aj,ab,ae,af,ai,isNil,Nat.reduceEqDiff,Nat.reduceAdd,Nat.reduceLT,Nat.reduceLeDiff,Int.reduceNeg,Int.reduceToNat,reduceCtorEq,kd,t1,t2,t5,t6,hlen]
  refine ax.dec (fun hc=>?_) (fun hc=>?_)
  · have hy:l[i]?=some (l[i]'(by omega)):=List.getElem?_eq_getElem (by omega)
    have htk:l.take (i+1)=l.take i ++ [l[i]'(by omega)]:=by rw[List.take_add_one,hy]; rfl
    generalize l[i]'(by omega)=y at hy htk
    obtain ⟨id,hu,hid⟩:=ho.sl (by simp[aS]; omega)
    have hid':H' id=.arr 2 (aS l):=by rw[(fr id (by rw[hid]; simp)).1,hid]
    simp (disch:=omega) only [↓wr,↓reduceIte,wq,ah,ag,aj,ab,ae,af,ai,isNil,Nat.reduceEqDiff,Nat.reduceAdd,Nat.reduceLT,Nat.reduceLeDiff,Int.reduceNeg,Int.reduceToNat,reduceCtorEq,t1,t2,t5,t6,hu,hid',oS hy]
    refine ⟨by first | omega | (simp[aS]; omega),by first | omega | (simp[aS]; omega),?_⟩
    refine aG.jR ((zE r out (by omega) y H' o1).mono ?_)
    rintro r2 H2 ⟨o2,l2⟩
    simp (disch:=omega) only [↓wr,↓reduceIte,wq,ah,ag,aj,ab,ae,af,ai,isNil,Nat.reduceEqDiff,Nat.reduceAdd,Nat.reduceLT,Nat.reduceLeDiff,Int.reduceNeg,Int.reduceToNat,reduceCtorEq,t1,t2,t5,t6]
    have hmm:∀ x,x∈dJ out y↔x∈l.take (i+1):=fun x=>by
      rw[iw,htk,List.mem_append,hm,List.mem_singleton,or_comm]
    have hs2:=pV (x:=y) hso
    exact bq hk (by omega) ⟨r2,dJ out y,o2,fr.step l2,hs2,hmm,gT hf hs2 (fun x hx=>hl x (List.mem_of_mem_take ((hmm x).1 hx))),t1,t2,rfl,rfl⟩
  rw[List.take_of_length_le (by omega)] at hm
  simp (disch:=omega) only [↓wr,↓reduceIte,wq,ah,ag,aj,ab,ae,af,ai,isNil,Nat.reduceEqDiff,Nat.reduceAdd,Nat.reduceLT,Nat.reduceLeDiff,Int.reduceNeg,Int.reduceToNat,reduceCtorEq,t1,t2,t5,t6]
  refine bz.intro (MT g l H) ((300 - out.length) * 1000+300)
    ⟨0,r,out,by omega,Nat.zero_le _,o1,fr,hso,fun x hx=>.base ((hm x).1 hx),fun x hx=>(hm x).2 hx,fun j x hj=>by omega,t2,t5,rfl⟩ ?_
  clear o1 fr hso hm hle t1 t2 t5 t6 hc hk
  rintro m T1 H1 ⟨i,r,out,rfl,hi,o1,fr,hso,hcl,hba,hdn,t2,t5,t7⟩
  have hhas:∀ x∈out,c4 g x:=fun x hx=>(hcl x hx).has hl
  have hle:=gT hf hso hhas
  have hlr:cq r=some out.length:=by rw[o1.len,bB]
  simp (disch:=omega) only [↓wr,↓reduceIte,wq,ah,ag,aj,ab,ae,af,ai,isNil,Nat.reduceEqDiff,Nat.reduceAdd,Nat.reduceLT,Nat.reduceLeDiff,Int.reduceNeg,Int.reduceToNat,reduceCtorEq,ki,t2,t5,t7,hlr]
  refine ax.dec (fun hc=>?_) (fun hc=>?_)
  · have hy:out[i]?=some (out[i]'(by omega)):=List.getElem?_eq_getElem (by omega)
    have hyH:=hhas _ (List.getElem_mem (show i < out.length by omega))
    have hyC:=hcl _ (List.getElem_mem (show i < out.length by omega))
    generalize out[i]'(by omega)=y at hy hyH hyC
    have h1:=DZ g hf y hyH
    cases hny:cU g y with
    | mk s okb =>
    have hsb:=uF hf hyH hny
    rw[hny] at h1
    obtain ⟨id,hu,hid⟩:=o1.sl (by simp[aS]; omega)
    rw[bB] at hu
    simp only[aw,encS,bQ] at h1
    simp (disch:=omega) only [↓wr,↓reduceIte,wq,ah,ag,aj,ab,ae,af,ai,isNil,Nat.reduceEqDiff,Nat.reduceAdd,Nat.reduceLT,Nat.reduceLeDiff,Int.reduceNeg,Int.reduceToNat,reduceCtorEq,t2,t5,t7,hu,hid,oS hy,aw,encS]
    refine ⟨by first | omega | (simp[aS]; omega),by first | omega | (simp[aS]; omega),?_⟩
    refine aG.pure h1 (by kernel_rfl) ?_
    simp (disch:=omega) only [↓wr,↓reduceIte,wq,ah,ag,aj,ab,ae,af,ai,isNil,Nat.reduceEqDiff,Nat.reduceAdd,Nat.reduceLT,Nat.reduceLeDiff,Int.reduceNeg,Int.reduceToNat,reduceCtorEq,t2,t5,t7,hu]
    refine bz.up g.rules.length (fun k T H'=>∃ (r2:V) (out2:List aL),aQ H' r2 2 (aS out2)∧cd H H' r2∧bS out2∧(∀ x∈out2,lY g l x)∧(∀ x∈out,x∈out2)∧out.length≤out2.length∧(out2.length=out.length→out2=out) ∧
      (∀ (q:Nat) (R:aT),q < k→okb=true→s < 0→g.rules[q]?=some R→R.left = -1 - s→(⟨q,0⟩:aL)∈out2)∧T 2=.aR (aw g) 0∧T 5=r2∧T 7=gi i∧T 8=gi s∧T 9=gb okb∧T 10=gi out.length∧T 11=gi k)
      ⟨r,out,o1,fr,hso,hcl,fun x hx=>hx,Nat.le_refl _,fun _=>rfl,fun q R hq=>by omega,t2,by rw[← hu]; exact t5,t7,rfl,rfl,rfl,rfl⟩ ?_
    clear o1 fr t2 t5 t7 hid hu
    rintro k j T2 H2 hk ⟨r2,out2,o2,fr2,hso2,hcl2,hsub,hlen2,hsame,hall,t2,t5,t7,t8,t9,t10,t11⟩
    have hhas2:∀ x∈out2,c4 g x:=fun x hx=>(hcl2 x hx).has hl
    have hle2:=gT hf hso2 hhas2
    have hlr2:cq r2=some out2.length:=by rw[o2.len,bB]
    have more:out.length < out2.length→∀ T':Env,T' 2=.aR (aw g) 0→T' 5=r2→T' 7=gi 0→∃ k',k' < (300 - out.length) * 1000+(300 - i)∧MT g l H k' T' H2:=fun h T' e2 e5 e7 =>
      ⟨(300 - out2.length) * 1000+300,by omega,0,r2,out2,by omega,Nat.zero_le _,o2,fr2,hso2,hcl2,fun x hx=>hsub x (hba x hx),fun j x hj=>by omega,e2,e5,e7⟩
    have stay:(okb=true→s < 0→g.rules.length≤k)→¬ out.length < out2.length→∀ T':Env,T' 2=.aR (aw g) 0→T' 5=r2→T' 7=gi ((i:Int)+1)→∃ k',k' < (300 - out.length) * 1000+(300 - i)∧MT g l H k' T' H2:=fun hend h T' e2 e5 e7=>by
      have e:=hsame (by omega)
      subst e
      refine ⟨(300 - out2.length) * 1000+(300 - (i+1)),by omega,i+1,r2,out2,rfl,by omega,o2,fr2,hso2,hcl2,hba,fun j x hj hx=>?_,e2,e5,e7⟩
      rcases Nat.lt_or_ge j i with hji | hji
      · exact hdn j x hji hx
      · have:j=i:=by omega
        subst this
        rw[hy] at hx
        simp only[Option.some.injEq] at hx
        subst hx
        intro s' q R h1 h2 h3 h4
        rw[hny] at h1
        simp only[Prod.mk.injEq] at h1
        obtain ⟨rfl,rfl⟩:=h1
        have:=(List.getElem?_eq_some_iff.1 h3).1
        exact hall q R (by have:=hend rfl h2; omega) rfl h2 h3 h4
    cases okb with
    | false =>
      simp (disch:=omega) only [↓wr,↓reduceIte,wq,ah,ag,aj,ab,ae,af,ai,isNil,Nat.reduceEqDiff,Nat.reduceAdd,Nat.reduceLT,Nat.reduceLeDiff,Int.reduceNeg,Int.reduceToNat,reduceCtorEq,gE,t2,t5,t7,t8,t9,t10,t11,hlr2]
      refine ax.dec (fun hg=>?_) (fun hg=>?_)
      · simp (disch:=omega) only [↓wr,↓reduceIte,wq,ah,ag,aj,ab,ae,af,ai,isNil,Nat.reduceEqDiff,Nat.reduceAdd,Nat.reduceLT,Nat.reduceLeDiff,Int.reduceNeg,Int.reduceToNat,reduceCtorEq,t2,t5,t7]
        exact more (by omega) _ t2 t5 rfl
      · simp (disch:=omega) only [↓wr,↓reduceIte,wq,ah,ag,aj,ab,ae,af,ai,isNil,Nat.reduceEqDiff,Nat.reduceAdd,Nat.reduceLT,Nat.reduceLeDiff,Int.reduceNeg,Int.reduceToNat,reduceCtorEq,t2,t5,t7]
        exact stay (fun h=>by simp at h) (by omega) _ t2 t5 rfl
    | true =>
      simp (disch:=omega) only [↓wr,↓reduceIte,wq,ah,ag,aj,ab,ae,af,ai,isNil,Nat.reduceEqDiff,Nat.reduceAdd,Nat.reduceLT,Nat.reduceLeDiff,Int.reduceNeg,Int.reduceToNat,reduceCtorEq,gE,t2,t5,t7,t8,t9,t10,t11,hlr2,aw]
      refine ax.dec (fun hneg=>?_) (fun hneg=>?_)
      · simp (disch:=omega) only [↓wr,↓reduceIte,wq,ah,ag,aj,ab,ae,af,ai,isNil,Nat.reduceEqDiff,Nat.reduceAdd,Nat.reduceLT,Nat.reduceLeDiff,Int.reduceNeg,Int.reduceToNat,reduceCtorEq,t2,t5,t7,t8,t9,t10,t11,hlr2,aw]
        refine ax.dec (fun hkl=>?_) (fun hkl=>?_)
        · have hR:g.rules[k]?=some (g.rules[k]'(by omega)):=List.getElem?_eq_getElem (by omega)
          have hL:=hf.left _ (List.getElem_mem (show k < g.rules.length by omega))
          generalize g.rules[k]'(by omega)=R at hR hL
          simp (disch:=omega) only [↓wr,↓reduceIte,wq,ah,ag,aj,ab,ae,af,ai,isNil,Nat.reduceEqDiff,Nat.reduceAdd,Nat.reduceLT,Nat.reduceLeDiff,Int.reduceNeg,Int.reduceToNat,reduceCtorEq,t2,t5,t7,t8,t9,t10,t11,aw,ba,List.getElem?_map,hR,Option.map_some]
          refine ax.eq (fun he=>?_) (fun he=>?_)
          · simp (disch:=omega) only [↓wr,↓reduceIte,wq,ah,ag,aj,ab,ae,af,ai,isNil,Nat.reduceEqDiff,Nat.reduceAdd,Nat.reduceLT,Nat.reduceLeDiff,Int.reduceNeg,Int.reduceToNat,reduceCtorEq,t2,t5,t7,t8,t9,t10,t11]
            refine aG.jR ((zE r2 out2 (by omega) ⟨k,0⟩ H2 o2).mono ?_)
            rintro r3 H3 ⟨o3,l3⟩
            simp (disch:=omega) only [↓wr,↓reduceIte,wq,ah,ag,aj,ab,ae,af,ai,isNil,Nat.reduceEqDiff,Nat.reduceAdd,Nat.reduceLT,Nat.reduceLeDiff,Int.reduceNeg,Int.reduceToNat,reduceCtorEq,t2,t5,t7,t8,t9,t10,t11]
            have hnew:lY g l ⟨k,0⟩:=.step hyC hny hneg hR he
            refine bq hk (by omega) ⟨r3,dJ out2 ⟨k,0⟩,o3,fr2.step l3,pV hso2,fun x hx=>?_,fun x hx=>iw.2 (.inr (hsub x hx)),by have:=CO out2 ⟨k,0⟩; omega,fun h=>?_,fun q R' hq h2 h3 h4=>?_,t2,rfl,t7,t8,t9,t10,rfl⟩
            · rcases iw.1 hx with rfl | hx
              · exact hnew
              · exact hcl2 x hx
            · have hin:(⟨k,0⟩:aL)∈out2:=Classical.byContradiction fun hno=>by
                have:=zW hno; omega
              rw[zT hso2 hin] at h ⊢
              exact hsame h
            · rcases Nat.lt_or_ge q k with hqk | hqk
              · exact iw.2 (.inr (hall q R' hqk rfl h2 h3 h4))
              · have:q=k:=by omega
                subst this
                exact iw.2 (.inl rfl)
          · simp (disch:=omega) only [↓wr,↓reduceIte,wq,ah,ag,aj,ab,ae,af,ai,isNil,Nat.reduceEqDiff,Nat.reduceAdd,Nat.reduceLT,Nat.reduceLeDiff,Int.reduceNeg,Int.reduceToNat,reduceCtorEq,t2,t5,t7,t8,t9,t10,t11]
            refine bq hk (by omega) ⟨r2,out2,o2,fr2,hso2,hcl2,hsub,hlen2,hsame,fun q R' hq h2 h3 h4=>?_,t2,t5,t7,t8,t9,t10,rfl⟩
            rcases Nat.lt_or_ge q k with hqk | hqk
            · exact hall q R' hqk rfl h2 h3 h4
            · have:q=k:=by omega
              subst this
              rw[hR] at h3
              simp only[Option.some.injEq] at h3
              subst h3
              exact absurd h4 he
        · simp (disch:=omega) only [↓wr,↓reduceIte,wq,ah,ag,aj,ab,ae,af,ai,isNil,Nat.reduceEqDiff,Nat.reduceAdd,Nat.reduceLT,Nat.reduceLeDiff,Int.reduceNeg,Int.reduceToNat,reduceCtorEq,t2,t5,t7,t8,t9,t10,t11,hlr2]
          refine ax.dec (fun hg=>?_) (fun hg=>?_)
          · simp (disch:=omega) only [↓wr,↓reduceIte,wq,ah,ag,aj,ab,ae,af,ai,isNil,Nat.reduceEqDiff,Nat.reduceAdd,Nat.reduceLT,Nat.reduceLeDiff,Int.reduceNeg,Int.reduceToNat,reduceCtorEq,t2,t5,t7]
            exact more (by omega) _ t2 t5 rfl
          · simp (disch:=omega) only [↓wr,↓reduceIte,wq,ah,ag,aj,ab,ae,af,ai,isNil,Nat.reduceEqDiff,Nat.reduceAdd,Nat.reduceLT,Nat.reduceLeDiff,Int.reduceNeg,Int.reduceToNat,reduceCtorEq,t2,t5,t7]
            exact stay (fun _ _=>by omega) (by omega) _ t2 t5 rfl
      · simp (disch:=omega) only [↓wr,↓reduceIte,wq,ah,ag,aj,ab,ae,af,ai,isNil,Nat.reduceEqDiff,Nat.reduceAdd,Nat.reduceLT,Nat.reduceLeDiff,Int.reduceNeg,Int.reduceToNat,reduceCtorEq,t2,t5,t7,t8,t9,t10,t11,hlr2]
        refine ax.dec (fun hg=>?_) (fun hg=>?_)
        · simp (disch:=omega) only [↓wr,↓reduceIte,wq,ah,ag,aj,ab,ae,af,ai,isNil,Nat.reduceEqDiff,Nat.reduceAdd,Nat.reduceLT,Nat.reduceLeDiff,Int.reduceNeg,Int.reduceToNat,reduceCtorEq,t2,t5,t7]
          exact more (by omega) _ t2 t5 rfl
        · simp (disch:=omega) only [↓wr,↓reduceIte,wq,ah,ag,aj,ab,ae,af,ai,isNil,Nat.reduceEqDiff,Nat.reduceAdd,Nat.reduceLT,Nat.reduceLeDiff,Int.reduceNeg,Int.reduceToNat,reduceCtorEq,t2,t5,t7]
          exact stay (fun _ h=>absurd h hneg) (by omega) _ t2 t5 rfl
  · simp (disch:=omega) only [↓wr,↓reduceIte,wq,ah,ag,aj,ab,ae,af,ai,isNil,Nat.reduceEqDiff,Nat.reduceAdd,Nat.reduceLT,Nat.reduceLeDiff,Int.reduceNeg,Int.reduceToNat,reduceCtorEq,t2,t5,t7]
    have hi2:i=out.length:=by omega
    rw[F1 hf hl hso hcl hba (fun x hx s k R h1 h2 h3 h4=>by
      obtain ⟨j,hj,e⟩:=List.mem_iff_getElem.1 hx
      exact hdn j x (by omega) (by rw[List.getElem?_eq_getElem hj,e]) s k R h1 h2 h3 h4)]
    exact ⟨o1,fr⟩
set_option maxHeartbeats 8000000 in
theorem Ij (g:ao) (hf:g.dH) (l:List aL) (hs:bS l) (hl:∀ x∈l,c4 g x) (s:Int) (u:V) (H:View) (ho:aQ H u 2 (aS l)):aC Tryz.prog 66 [.agg (aw g),u,gi s] H fun r H'=>aQ H' r 2 (aS (bc g l s))∧cd H H' r:=by
  refine aC.of mixed sJ ?_
  have hlen:cq u=some l.length:=by rw[ho.len]; simp[aS]
  have hle:=gT hf hs hl
  simp (disch:=omega) only [↓wr,↓reduceIte,wq,ah,ag,aj,ab,ae,af,ai,isNil,Nat.reduceEqDiff,Nat.reduceAdd,Nat.reduceLT,Nat.reduceLeDiff,Int.reduceNeg,Int.reduceToNat,reduceCtorEq,ni,aw,encS]
  refine bz.up l.length (fun i T H'=>∃ (r:V),aQ H' r 2 (aS (bc g (l.take i) s))∧cd H H' r∧T 1=u∧T 2=gi s∧T 3=.aR (aw g) 0∧T 7=r∧T 8=gi i)
    ⟨.emp 1,.nil,.emp,rfl,rfl,rfl,rfl,rfl⟩ ?_
  rintro i k T H' hk ⟨r,o1,fr,t1,t2,t3,t7,t8⟩
  simp (disch:=omega) only [↓wr,↓reduceIte,wq,ah,ag,aj,ab,ae,af,ai,isNil,Nat.reduceEqDiff,Nat.reduceAdd,Nat.reduceLT,Nat.reduceLeDiff,Int.reduceNeg,Int.reduceToNat,reduceCtorEq,lD,t1,t2,t3,t7,t8,hlen]
  refine ax.dec (fun hc=>?_) (fun hc=>?_)
  · have hy:l[i]?=some (l[i]'(by omega)):=List.getElem?_eq_getElem (by omega)
    have hyH:=hl _ (List.getElem_mem (show i < l.length by omega))
    have htk:=KY (g:=g) hs (show l[i]?=some (l[i]'(by omega)) from hy) s
    generalize l[i]'(by omega)=y at hy hyH htk
    have h1:=DZ g hf y hyH
    cases hny:cU g y with
    | mk q okb =>
    rw[hny] at h1
    obtain ⟨id,hu,hid⟩:=ho.sl (by simp[aS]; omega)
    have hid':H' id=.arr 2 (aS l):=by rw[(fr id (by rw[hid]; simp)).1,hid]
    rw[bB] at hu
    have hdot:=hyH.2
    have h6:=fF hf hyH.1
    have hml:=qv (g:=g) (l:=l.take i) (s:=s)
    simp only[List.length_take] at hml
    simp only[aw,encS,bQ] at h1
    simp (disch:=omega) only [↓wr,↓reduceIte,wq,ah,ag,aj,ab,ae,af,ai,isNil,Nat.reduceEqDiff,Nat.reduceAdd,Nat.reduceLT,Nat.reduceLeDiff,Int.reduceNeg,Int.reduceToNat,reduceCtorEq,t1,t2,t3,t7,t8,hu,hid',oS hy,aw,encS]
    refine ⟨by first | omega | (simp[aS]; omega),by first | omega | (simp[aS]; omega),?_⟩
    refine aG.pure h1 (by kernel_rfl) ?_
    have skip:¬ cU g y=(s,true)→∀ T':Env,T' 1=u→T' 2=gi s→T' 3=.aR (aw g) 0→T' 7=r→T' 8=gi ((i:Int)+1)→∃ k',k' < k∧CP l.length k' (fun i T H'=>∃ (r:V),aQ H' r 2 (aS (bc g (l.take i) s))∧cd H H' r∧T 1=u∧T 2=gi s∧T 3=.aR (aw g) 0∧T 7=r∧T 8=gi i) T' H':=fun hne T' e1 e2 e3 e7 e8=>by
      rw[if_neg hne] at htk
      exact bq hk (by omega) ⟨r,by rw[htk]; exact o1,fr,e1,e2,e3,e7,e8⟩
    cases okb with
    | false =>
      simp (disch:=omega) only [↓wr,↓reduceIte,wq,ah,ag,aj,ab,ae,af,ai,isNil,Nat.reduceEqDiff,Nat.reduceAdd,Nat.reduceLT,Nat.reduceLeDiff,Int.reduceNeg,Int.reduceToNat,reduceCtorEq,t1,t2,t3,t7,t8]
      exact skip (by rw[hny]; simp) _ t1 t2 t3 t7 rfl
    | true =>
      simp (disch:=omega) only [↓wr,↓reduceIte,wq,ah,ag,aj,ab,ae,af,ai,isNil,Nat.reduceEqDiff,Nat.reduceAdd,Nat.reduceLT,Nat.reduceLeDiff,Int.reduceNeg,Int.reduceToNat,reduceCtorEq,t1,t2,t3,t7,t8]
      refine ax.eq (fun he=>?_) (fun he=>?_)
      · simp (disch:=omega) only [↓wr,↓reduceIte,wq,ah,ag,aj,ab,ae,af,ai,isNil,Nat.reduceEqDiff,Nat.reduceAdd,Nat.reduceLT,Nat.reduceLeDiff,Int.reduceNeg,Int.reduceToNat,reduceCtorEq,t1,t2,t3,t7,t8,hu,hid',oS hy]
        refine ⟨by first | omega | (simp[aS]; omega),by first | omega | (simp[aS]; omega),?_⟩
        refine ⟨by first | omega | (simp[aS]; omega),by first | omega | (simp[aS]; omega),?_⟩
        refine aG.jR ((zE r (bc g (l.take i) s) (by omega) ⟨y.aH,y.dot+1⟩ H' o1).mono ?_)
        rintro r2 H2 ⟨o2,l2⟩
        simp (disch:=omega) only [↓wr,↓reduceIte,wq,ah,ag,aj,ab,ae,af,ai,isNil,Nat.reduceEqDiff,Nat.reduceAdd,Nat.reduceLT,Nat.reduceLeDiff,Int.reduceNeg,Int.reduceToNat,reduceCtorEq,t1,t2,t3,t7,t8]
        rw[if_pos (by rw[hny,he])] at htk
        exact bq hk (by omega) ⟨r2,by rw[htk]; exact o2,fr.step l2,t1,t2,t3,rfl,rfl⟩
      · simp (disch:=omega) only [↓wr,↓reduceIte,wq,ah,ag,aj,ab,ae,af,ai,isNil,Nat.reduceEqDiff,Nat.reduceAdd,Nat.reduceLT,Nat.reduceLeDiff,Int.reduceNeg,Int.reduceToNat,reduceCtorEq,t1,t2,t3,t7,t8]
        exact skip (by rw[hny]; simp[he]) _ t1 t2 t3 t7 rfl
  · simp (disch:=omega) only [↓wr,↓reduceIte,wq,ah,ag,aj,ab,ae,af,ai,isNil,Nat.reduceEqDiff,Nat.reduceAdd,Nat.reduceLT,Nat.reduceLeDiff,Int.reduceNeg,Int.reduceToNat,reduceCtorEq,t1,t2,t3,t7,t8]
    rw[List.take_of_length_le (by omega)] at o1
    exact ⟨o1,fr⟩
theorem Bc {g:ao} (hf:g.dH) {i:Nat} (hi:i < g.az.length+g.ay.length) : -100≤aU g i∧aU g i≤100:=by
  have:=hf.az; have:=hf.ay
  unfold aU; split <;> omega
theorem F9 (g:ao) (hf:g.dH) (i:Nat) (hi:i < g.az.length+g.ay.length):aD Tryz.prog 65 [.agg (aw g),gi i] (gi (aU g i)):=by
  refine aD.val (by
    intro v hv; simp at hv
    rcases hv with rfl | rfl
    · exact dd _ (dT g)
    · exact .val _) fun H=>?_
  have:=hf.az; have:=hf.ay
  refine aC.of mixed q7 ?_
  unfold aU
  simp (disch:=omega) only [↓wr,↓reduceIte,wq,ah,ag,aj,ab,ae,af,ai,isNil,Nat.reduceEqDiff,Nat.reduceAdd,Nat.reduceLT,Nat.reduceLeDiff,Int.reduceNeg,Int.reduceToNat,reduceCtorEq,lW,aw,encS]
  refine ax.dec (fun h=>?_) (fun h=>?_)
  · simp (disch:=omega) only [↓wr,↓reduceIte,wq,ah,ag,aj,ab,ae,af,ai,isNil,Nat.reduceEqDiff,Nat.reduceAdd,Nat.reduceLT,Nat.reduceLeDiff,Int.reduceNeg,Int.reduceToNat,reduceCtorEq]
    rw[if_pos (by omega)]
  · simp (disch:=omega) only [↓wr,↓reduceIte,wq,ah,ag,aj,ab,ae,af,ai,isNil,Nat.reduceEqDiff,Nat.reduceAdd,Nat.reduceLT,Nat.reduceLeDiff,Int.reduceNeg,Int.reduceToNat,reduceCtorEq,aw]
    rw[if_neg (by omega)]
theorem Bm (l:List aL):Tree (.aZ (aS l)):=eF _ _ fun x _ v hv=>by simp[bQ] at hv; rcases hv with rfl | rfl <;> exact .val _
theorem Bb (a b:List aL) (ha:aW a) (hb:aW b):aD Tryz.prog 21 [.aZ (aS a),.aZ (aS b)] (gb (a == b)):=by
  unfold aW at ha hb
  refine aD.val (by
    intro v hv; simp at hv
    rcases hv with rfl | rfl <;> exact Bm _) fun H=>?_
  refine aC.of mixed r5 ?_
  simp (disch:=omega) only [↓wr,↓reduceIte,wq,ah,ag,aj,ab,ae,af,ai,isNil,Nat.reduceEqDiff,Nat.reduceAdd,Nat.reduceLT,Nat.reduceLeDiff,Int.reduceNeg,Int.reduceToNat,reduceCtorEq,mV,aS]
  refine ax.ne (fun h=>?_) (fun h=>?_)
  · simp (disch:=omega) only [↓wr,↓reduceIte,wq,ah,ag,aj,ab,ae,af,ai,isNil,Nat.reduceEqDiff,Nat.reduceAdd,Nat.reduceLT,Nat.reduceLeDiff,Int.reduceNeg,Int.reduceToNat,reduceCtorEq]
    have:(a == b)=false:=by simp; rintro rfl; exact h rfl
    rw[this]
  · simp (disch:=omega) only [↓wr,↓reduceIte,wq,ah,ag,aj,ab,ae,af,ai,isNil,Nat.reduceEqDiff,Nat.reduceAdd,Nat.reduceLT,Nat.reduceLeDiff,Int.reduceNeg,Int.reduceToNat,reduceCtorEq]
    refine bz.up a.length (fun i T H'=>a.take i=b.take i∧T 0=.aZ (aS a)∧T 1=.aZ (aS b)∧T 5=gi i) ⟨rfl,rfl,rfl,rfl⟩ ?_
    rintro i k T H' hk ⟨he,t0,t1,t5⟩
    simp (disch:=omega) only [↓wr,↓reduceIte,wq,ah,ag,aj,ab,ae,af,ai,isNil,Nat.reduceEqDiff,Nat.reduceAdd,Nat.reduceLT,Nat.reduceLeDiff,Int.reduceNeg,Int.reduceToNat,reduceCtorEq,lz,t0,t1,t5,aS]
    refine ax.dec (fun hc=>?_) (fun hc=>?_)
    · have hx:a[i]?=some (a[i]'(by omega)):=List.getElem?_eq_getElem (by omega)
      have hy:b[i]?=some (b[i]'(by omega)):=List.getElem?_eq_getElem (by omega)
      generalize a[i]'(by omega)=x at hx
      generalize b[i]'(by omega)=y at hy
      simp (disch:=omega) only [↓wr,↓reduceIte,wq,ah,ag,aj,ab,ae,af,ai,isNil,Nat.reduceEqDiff,Nat.reduceAdd,Nat.reduceLT,Nat.reduceLeDiff,Int.reduceNeg,Int.reduceToNat,reduceCtorEq,t0,t1,t5,aS,List.getElem?_map,hx,hy,Option.map_some,bQ]
      refine gS (xs:=#[.int .i64 x.aH,.int .i64 x.dot]) (ys:=#[.int .i64 y.aH,.int .i64 y.dot]) Tryz.underlying33 (by kernel_rfl) (by kernel_rfl) ?_ ?_ (rh x y) (.inr ⟨rfl,rfl⟩) ?_
      · rfl
      · rfl
      rw[AB]
      simp (disch:=omega) only [↓wr,↓reduceIte,wq,ah,ag,aj,ab,ae,af,ai,isNil,Nat.reduceEqDiff,Nat.reduceAdd,Nat.reduceLT,Nat.reduceLeDiff,Int.reduceNeg,Int.reduceToNat,reduceCtorEq,t0,t1,t5]
      refine ax.dec (fun e2=>?_) (fun e2=>?_)
      · simp (disch:=omega) only [↓wr,↓reduceIte,wq,ah,ag,aj,ab,ae,af,ai,isNil,Nat.reduceEqDiff,Nat.reduceAdd,Nat.reduceLT,Nat.reduceLeDiff,Int.reduceNeg,Int.reduceToNat,reduceCtorEq,t0,t1,t5]
        exact bq hk (by omega) ⟨by rw[List.take_add_one,List.take_add_one,he,hx,hy,e2],t0,t1,rfl⟩
      · simp (disch:=omega) only [↓wr,↓reduceIte,wq,ah,ag,aj,ab,ae,af,ai,isNil,Nat.reduceEqDiff,Nat.reduceAdd,Nat.reduceLT,Nat.reduceLeDiff,Int.reduceNeg,Int.reduceToNat,reduceCtorEq]
        have:(a == b)=false:=by
          simp; rintro rfl
          rw[hx] at hy; simp at hy; exact e2 hy
        rw[this]
    · simp (disch:=omega) only [↓wr,↓reduceIte,wq,ah,ag,aj,ab,ae,af,ai,isNil,Nat.reduceEqDiff,Nat.reduceAdd,Nat.reduceLT,Nat.reduceLeDiff,Int.reduceNeg,Int.reduceToNat,reduceCtorEq,t0,t1,t5]
      rw[List.take_of_length_le (by omega),List.take_of_length_le (by omega)] at he
      rw[he,beq_self_eq_true]
structure Q6 where
  aH:Int
  set:BV
  deriving DecidableEq
structure Q8 where
  state:Int
  term:Int
  kind:Int
  aH:Int
  other:Int
  deriving DecidableEq
noncomputable def dQ (g:ao):List bt × Int:=if isRed g=true then gB g 302 0 fe else ([],1)
structure dO (g:ao) (at_ i:Nat) (out:List bt):Prop where
  bo:∀ s∈out,bS s.bo∧s.bo≠[]∧∀ x∈s.bo,c4 g x
  bT:∀ j s,out[j]?=some s→s.bT.length≤40∧(j=at_→s.bT.length≤i)∧(at_ < j→s.bT=[])
  to:∀ s∈out,∀ e∈s.bT,0≤e.to∧e.to < out.length
  sym:∀ s∈out,∀ e∈s.bT,-1000≤e.sym∧e.sym≤1000
theorem mem_modify {α:Type} {l:List α} {i:Nat} {f:α→α} {y:α} (h:y∈l.modify i f):y∈l∨∃ x,l[i]?=some x∧y=f x:=by
  obtain ⟨j,hj,e⟩:=List.mem_iff_getElem.1 h
  simp only[List.length_modify] at hj
  rw[List.getElem_modify] at e
  split at e
  · rename_i hij
    subst hij
    exact .inr ⟨l[i],List.getElem?_eq_getElem hj,e.symm⟩
  · exact .inl (e ▸ List.getElem_mem hj)
theorem Lx (g:ao) (l:List aL) (at_:Nat) (out:List bt) (i:Nat):out.length≤(cX g l at_ out i).length∧(cX g l at_ out i).length≤out.length+1:=by
  unfold cX
  split
  · omega
  · split
    · simp
    · simp
theorem dO.put {g:ao} {at_ i:Nat} {out:List bt} (h:dO g at_ i out) (hi:i < 40) {s:Int} (hs : -1000≤s∧s≤1000) {to:Int} (ht:0≤to∧to < out.length):dO g at_ (i+1) (out.modify at_ fun x=>(⟨x.bo,x.bT ++ [⟨s,to⟩]⟩:bt)):=by
  refine ⟨fun y hy=>?_,fun j y hy=>?_,fun y hy e he=>?_,fun y hy e he=>?_⟩
  rotate_right
  · rcases mem_modify hy with hy | ⟨x,hx,rfl⟩
    · exact h.sym y hy e he
    · rcases List.mem_append.1 he with he | he
      · exact h.sym x (List.mem_of_getElem? hx) e he
      · simp at he; subst he; exact hs
  · rcases mem_modify hy with hy | ⟨x,hx,rfl⟩
    · exact h.bo y hy
    · exact h.bo x (List.mem_of_getElem? hx)
  · rw[List.getElem?_modify] at hy
    cases hx:out[j]? with
    | none=>rw[hx] at hy; simp at hy
    | some x =>
      rw[hx] at hy
      have h1:=h.bT j x hx
      by_cases e:at_=j
      · subst e
        simp at hy
        subst hy
        have:=h1.2.1 rfl
        refine ⟨by simp; omega,fun _=>by simp; omega,fun h=>by omega⟩
      · simp[e] at hy
        subst hy
        exact ⟨h1.1,fun h=>absurd h.symm e,h1.2.2⟩
  · rw[List.length_modify]
    rcases mem_modify hy with hy | ⟨x,hx,rfl⟩
    · exact h.to y hy e he
    · rcases List.mem_append.1 he with he | he
      · exact h.to x (List.mem_of_getElem? hx) e he
      · simp at he; subst he; exact ht
theorem dO.up {g:ao} {at_ i:Nat} {out:List bt} (h:dO g at_ i out):dO g at_ (i+1) out :=
  ⟨h.bo,fun j s hs=>by have:=h.bT j s hs; exact ⟨this.1,fun e=>by have:=this.2.1 e; omega,this.2.2⟩,h.to,h.sym⟩
theorem dO.add {g:ao} {at_ i:Nat} {out:List bt} (h:dO g at_ i out) {k:List aL} (hk:bS k∧k≠[]∧∀ x∈k,c4 g x):dO g at_ i (out ++ [⟨k,[]⟩]):=by
  refine ⟨fun y hy=>?_,fun j y hy=>?_,fun y hy e he=>?_,fun y hy e he=>?_⟩
  rotate_right
  · rcases List.mem_append.1 hy with hy | hy
    · exact h.sym y hy e he
    · simp at hy; subst hy; simp at he
  · rcases List.mem_append.1 hy with hy | hy
    · exact h.bo y hy
    · simp at hy; subst hy; exact hk
  · rcases Nat.lt_or_ge j out.length with hj | hj
    · rw[List.getElem?_append_left hj] at hy; exact h.bT j y hy
    · rw[List.getElem?_append_right hj] at hy
      cases hq:j - out.length with
      | zero=>rw[hq] at hy; simp at hy; subst hy; exact ⟨by simp,fun _=>by simp,fun _=>rfl⟩
      | succ q=>rw[hq] at hy; simp at hy
  · rcases List.mem_append.1 hy with hy | hy
    · have:=h.to y hy e he; simp; omega
    · simp at hy; subst hy; simp at he
theorem dO.step {g:ao} {l:List aL} (hs:bS l) (hl:∀ x∈l,c4 g x) {at_ i:Nat} {out:List bt} (h:dO g at_ i out) (hi:i < 40):dO g at_ (i+1) (cX g l at_ out i):=by
  unfold cX
  split
  · exact h.up
  · rename_i hne
    have hb : -1000≤aU g i∧aU g i≤1000:=by unfold aU; split <;> omega
    split
    · exact (h.add ⟨Di _ hs,hne,Ex hl⟩).put hi hb (by simp; omega)
    · have:=ur out (bc g l (aU g i))
      exact h.put hi hb ⟨by omega,this⟩
theorem dO.next {g:ao} {at_ i:Nat} {out:List bt} (h:dO g at_ i out):dO g (at_+1) 0 out :=
  ⟨h.bo,fun j s hs=>by
    have:=h.bT j s hs
    exact ⟨this.1,fun e=>by have:=this.2.2 (by omega); simp[this],fun e=>this.2.2 (by omega)⟩,h.to,h.sym⟩
theorem dO.row {g:ao} {l:List aL} (hs:bS l) (hl:∀ x∈l,c4 g x) {at_:Nat} {out:List bt} (h:dO g at_ 0 out):∀ n:Nat,n≤40→dO g at_ n ((List.range n).foldl (cX g l at_) out)∧out.length≤((List.range n).foldl (cX g l at_) out).length∧((List.range n).foldl (cX g l at_) out).length≤out.length+n
  | 0,_=>⟨h,Nat.le_refl _,Nat.le_refl _⟩
  | n+1,hn=>by
    obtain ⟨h1,h2,h3⟩:=dO.row hs hl h n (by omega)
    rw[List.range_succ,List.foldl_append]
    simp only[List.foldl_cons,List.foldl_nil]
    have:=Lx g l at_ ((List.range n).foldl (cX g l at_) out) n
    exact ⟨h1.step hs hl (by omega),by omega,by omega⟩
theorem rX {g:ao} : dO g 0 0 fe:=by
  refine ⟨fun s hs=>?_,fun j s hs=>?_,fun s hs e he=>?_,fun s hs e he=>?_⟩
  rotate_right
  · simp[fe] at hs; subst hs; simp at he
  · simp[fe] at hs; subst hs
    refine ⟨by simp[bS],by simp,fun x hx=>?_⟩
    simp at hx; subst hx
    exact ⟨⟨by simp,by simp only; omega⟩,by simp,by simp[dt]⟩
  · have:=List.mem_of_getElem? hs
    simp[fe] at this; subst this; simp
  · simp[fe] at hs; subst hs; simp at he
theorem dO.sC {g:ao} (hf:g.dH) {at_ i:Nat} {out:List bt} (h:dO g at_ i out) {j:Nat} (hj:j < out.length):bS (cM g (out.getD j cg).bo)∧∀ x∈cM g (out.getD j cg).bo,c4 g x:=by
  have hm:=List.mem_of_getElem? (getD_some (d:=cg) hj)
  exact ⟨p8 _ _,fun x hx=>((rl hf (h.bo _ hm).2.2).1 hx).has (h.bo _ hm).2.2⟩
structure DN (g:ao) (a:List bt):Prop where
  bo:∀ s∈a,bS s.bo∧s.bo≠[]∧∀ x∈s.bo,c4 g x
  bT:∀ s∈a,s.bT.length≤40
  to:∀ s∈a,∀ e∈s.bT,0≤e.to∧e.to < a.length
  sym:∀ s∈a,∀ e∈s.bT,-1000≤e.sym∧e.sym≤1000
theorem dO.ok {g:ao} {at_ i:Nat} {out:List bt} (h:dO g at_ i out):DN g out :=
  ⟨h.bo,fun s hs=>by obtain ⟨j,hj,e⟩:=List.mem_iff_getElem.1 hs; exact (h.bT j s (by rw[List.getElem?_eq_getElem hj,e])).1,h.to,h.sym⟩
theorem E1 {g:ao} (hf:g.dH):∀ (f at_:Nat) (out:List bt),dO g at_ 0 out→1≤out.length→out.length≤300→(gB g f at_ out).2=0→DN g (gB g f at_ out).1∧1≤(gB g f at_ out).1.length∧(gB g f at_ out).1.length≤300
  | 0,_,out,h,h1,h2,_=>⟨h.ok,h1,h2⟩
  | f+1,at_,out,h,h1,h2,h3=>by
    rw[gB] at h3 ⊢
    split
    · rename_i ha
      rw[if_pos ha] at h3
      have hr:=dO.row (h.sC hf ha).1 (h.sC hf ha).2 h (g.az.length+g.ay.length) (by have:=hf.az; have:=hf.ay; omega)
      rw[show (List.range (g.az.length+g.ay.length)).foldl (cX g (cM g (out.getD at_ cg).bo) at_) out=Fm g at_ out (g.az.length+g.ay.length) from rfl] at hr
      split
      · rename_i hc; rw[if_pos hc] at h3; simp at h3
      · rename_i hc
        rw[if_neg hc] at h3
        exact E1 hf f (at_+1) _ hr.1.next (by omega) (by omega) h3
    · exact ⟨h.ok,h1,h2⟩
theorem MD {g:ao} (hf:g.dH) (h:(dQ g).2=0):DN g (dQ g).1∧1≤(dQ g).1.length∧(dQ g).1.length≤300:=by
  unfold dQ at h ⊢
  split
  · rename_i hr
    rw[if_pos hr] at h
    exact E1 hf 302 0 fe rX (by simp[fe]) (by simp[fe]) h
  · rename_i hr
    rw[if_neg hr] at h
    simp at h
def kc (l:List fh):List (List V):=l.map xW
def mD (s:bt):List V:=[.aZ (aS s.bo),.aZ (kc s.bT)]
def dZ (a:List bt):V:=.aZ (a.map mD)
theorem OA (l:List fh):Tree (.aZ (kc l)):=eF _ _ fun x _ v hv=>by simp[xW] at hv; rcases hv with rfl | rfl <;> exact .val _
theorem HX (s:bt):∀ v∈mD s,Tree v:=by
  intro v hv; simp[mD] at hv
  rcases hv with rfl | rfl
  · exact Bm _
  · exact OA _
theorem yz (a:List bt):Tree (dZ a):=eF _ _ fun x _=>HX x
abbrev m3:=V × V × bt
def dW (A:List m3):List (List V):=A.map fun x=>[x.1,x.2.1]
def kj (A:List m3):List ew:=A.flatMap fun x=>[(x.1,2,aS x.2.2.bo),(x.2.1,2,kc x.2.2.bT)]
theorem cF (A:List m3):(dW A).length=A.length:=by simp[dW]
theorem lA {A:List m3} {x:m3} (hx:x∈A):(x.1,2,aS x.2.2.bo)∈kj A∧(x.2.1,2,kc x.2.2.bT)∈kj A:=by
  constructor <;> exact List.mem_flatMap.2 ⟨x,hx,by simp⟩
theorem BG {h:aE} {u:V} {A:List m3} (ho:aQ h.view u 2 (dW A)) (hb:∀ x∈A,aQ h.view x.1 2 (aS x.2.2.bo)∧aQ h.view x.2.1 2 (kc x.2.2.bT)):dN h u (dZ (A.map fun x=>x.2.2)):=by
  have hg:∀ i (hi:i < A.length),(dW A).getD i []=[(A[i]).1,(A[i]).2.1]∧(((A.map fun x=>x.2.2).map mD).getD i [])=mD (A[i]).2.2:=fun i hi=>by
    simp[dW,List.getD_eq_getElem?_getD,hi]
  refine dN.own ho (by simp[dW]) (fun i hi=>?_) (fun i j hi hj=>?_)
  · have hi':i < A.length:=by simpa [dW] using hi
    rw[(hg i hi').1,(hg i hi').2]; rfl
  · have hi':i < A.length:=by simpa [dW] using hi
    rw[(hg i hi').2] at hj ⊢
    rw[(hg i hi').1]
    have hx:=hb _ (List.getElem_mem hi')
    generalize A[i]'hi'=y at hx hj
    obtain ⟨h1,h2⟩:=hx
    match j,hj with
    | 0,_ =>
      refine dN.own h1 rfl (fun i _=>rfl) (fun i j hi hj=>?_)
      rw[bB] at hi
      have e:(aS y.2.2.bo).getD i []=bQ y.2.2.bo[i]:=by simp[aS,List.getD_eq_getElem?_getD,hi]
      rw[e] at hj ⊢
      match j,hj with
      | 0,_=>exact .val _
      | 1,_=>exact .val _
    | 1,_ =>
      refine dN.own h2 rfl (fun i _=>rfl) (fun i j hi hj=>?_)
      simp only[kc,List.length_map] at hi
      have e:(kc y.2.2.bT).getD i []=xW y.2.2.bT[i]:=by simp[kc,List.getD_eq_getElem?_getD,hi]
      rw[e] at hj ⊢
      match j,hj with
      | 0,_=>exact .val _
      | 1,_=>exact .val _
    | n+2,hj=>exact absurd hj (by simp[mD])
def mE:SC :=
  .seq (.seq (ak [aa 6 5,aa 7 0,aJ 8 7,aN 9 .lss 6 8]) <|
  .cond (.tmp 9) (.skip) (.exit 0)) <|
  .seq (.block 1 (.seq (ak [aa 12 0,aa 13 5,aP 14 2 12 13,av 15 0 14,au 16 15,aa 17 1,aI 18 21 [16,17]]) <|
  .cond (.tmp 18) (.seq (ak [aa 19 5,aa 4 19]) <|
  .ret) (.skip))) <|
  ak [aa 10 5,aA 11 .add 10 1,aa 5 11]
def oT:SF:=⟨.seq (ak [aF 4 0]) <|
  .seq (.seq (ak [aF 5 0]) <|
  .block 0 (.loop mE)) <|
  .seq (ak [aF 4 (-1)]) <|
  .ret,
  [.tmp 4],20⟩
theorem sQ:bf Tryz.prog 67 []=some oT:=by kernel_rfl
def lF:SC :=
  .seq (.seq (ak [aa 31 7,av 32 0 1,au 33 32,aJ 34 33,av 35 1 1,au 36 35,aJ 37 36,aN 38 .add 34 37,aN 39 .lss 31 38]) <|
  .cond (.tmp 39) (.skip) (.exit 2)) <|
  .seq (.block 3 (.seq (ak [aK 42 4 1,aa 43 7,aI 44 65 [42,43],aa 8 44]) <|
  .seq (ak [aK 45 4 1,aa 46 6,aa 47 8,aI 48 66 [45,46,47],aa 9 48]) <|
  .seq (.seq (ak [aa 49 9,aJ 50 49,aA 51 .eql 50 0]) <|
  .cond (.tmp 51) (.exit 3) (.skip)) <|
  .seq (ak [aa 52 4,aa 53 9,aI 54 67 [52,53],aa 10 54]) <|
  .seq (.seq (ak [aa 55 10,aA 56 .lss 55 0]) <|
  .cond (.tmp 56) (.seq (ak [aa 57 4,aJ 58 57,aa 10 58]) <|
  ak [aa 59 4,aa 60 9,((some 61),.op (.build [(.emp 1),(.emp 1)] [(0,1,(.tmp 60))])),((some 62),.op (.bC 1 2 [(.emp 1),(.emp 1)] [(0,(.tmp 61))])),((some 63),.op (.app 2 48 (.tmp 59) (.tmp 62))),aa 4 63]) (.skip)) <|
  ak [aa 64 4,aa 65 5,aa 66 4,aa 67 5,aP 68 2 66 67,av 69 1 68,au 70 69,aa 71 8,aa 72 10,((some 73),.op (.build [(.val (.int .i64 0)),(.val (.int .i64 0))] [(0,1,(.tmp 71)),(1,1,(.tmp 72))])),((some 74),.op (.bC 1 2 [(.val (.int .i64 0)),(.val (.int .i64 0))] [(0,(.tmp 73))])),((some 75),.op (.app 2 16 (.tmp 70) (.tmp 74))),aP 76 2 64 65,av 77 1 76,(none,.op (.store 1 (.tmp 77) (.tmp 75)))])) <|
  ak [aa 40 7,aA 41 .add 40 1,aa 7 41]
def k7:SC :=
  .seq (.seq (ak [aa 18 5,aa 19 4,aJ 20 19,aN 21 .lss 18 20]) <|
  .cond (.tmp 21) (.skip) (.exit 0)) <|
  .seq (.block 1 (.seq (ak [aK 24 4 1,aa 25 4,aa 26 5,aP 27 2 25 26,av 28 0 27,au 29 28,aI 30 60 [24,29],aa 6 30]) <|
  .seq (.seq (ak [aF 7 0]) <|
  .block 2 (.loop lF)) <|
  .seq (ak [aa 78 4,aJ 79 78,aA 80 .gtr 79 300]) <|
  .cond (.tmp 80) (.seq (ak [((some 2),.op (.bm (.val (.emp 1)))),aF 3 5]) <|
  .ret) (.skip))) <|
  ak [aa 22 5,aA 23 .add 22 1,aa 5 23]
def mR:SF:=⟨.seq (ak [bZ 1 0,((some 2),.op (.bm (.val (.emp 1)))),aF 3 0]) <|
  .seq (.seq (ak [aK 11 4 1,aI 12 30 [11],b6 13 12]) <|
  .cond (.tmp 13) (.seq (ak [((some 2),.op (.bm (.val (.emp 1)))),aF 3 1]) <|
  .ret) (.skip)) <|
  .seq (ak [((some 14),.op (.build [(.val (.int .i64 0)),(.val (.int .i64 0))] [(0,1,(.val (.val (.int .i64 (-1)))))])),((some 15),.op (.bC 1 2 [(.val (.int .i64 0)),(.val (.int .i64 0))] [(0,(.tmp 14))])),((some 16),.op (.build [(.emp 1),(.emp 1)] [(0,1,(.tmp 15))])),((some 17),.op (.bC 1 2 [(.emp 1),(.emp 1)] [(0,(.tmp 16))])),aa 4 17]) <|
  .seq (.seq (ak [aF 5 0]) <|
  .block 0 (.loop k7)) <|
  .seq (ak [aa 81 4,aa 2 81,aF 3 0]) <|
  .ret,
  [.tmp 2,.tmp 3],82⟩
theorem sw:bf Tryz.prog 25 [1]=some mR:=by kernel_rfl
theorem IC:∀ (a:List bt) (k:List aL) (i:Nat),(∀ j s,j < i→a[j]?=some s→s.bo≠k)→(∀ s,a[i]?=some s→s.bo=k→findD a k=i)∧(i=a.length→findD a k = -1):=by
  intro a k i h
  refine ⟨fun s h1 h2=>Ft a k i s h1 h2 h,fun e=>?_⟩
  subst e
  refine AF a k fun s hs=>?_
  obtain ⟨j,hj,e⟩:=List.mem_iff_getElem.1 hs
  exact h j s hj (by rw[List.getElem?_eq_getElem hj,e])
theorem Lf (a:List bt) (ha:aW a) (hs:∀ s∈a,aW s.bo) (k:List aL) (hk:aW k):aD Tryz.prog 67 [dZ a,.aZ (aS k)] (gi (findD a k)):=by
  unfold aW at ha
  refine aD.val (by
    intro v hv; simp at hv
    rcases hv with rfl | rfl
    · exact yz _
    · exact Bm _) fun H=>?_
  refine aC.of mixed sQ ?_
  simp (disch:=omega) only [↓wr,↓reduceIte,wq,ah,ag,aj,ab,ae,af,ai,isNil,Nat.reduceEqDiff,Nat.reduceAdd,Nat.reduceLT,Nat.reduceLeDiff,Int.reduceNeg,Int.reduceToNat,reduceCtorEq,oT,dZ]
  refine bz.up a.length (fun i T H'=>(∀ j s,j < i→a[j]?=some s→s.bo≠k)∧T 0=dZ a∧T 1=.aZ (aS k)∧T 5=gi i) ⟨fun j s h=>by omega,rfl,rfl,rfl⟩ ?_
  rintro i n T H' hn ⟨hall,t0,t1,t5⟩
  obtain ⟨f1,f2⟩:=IC a k i hall
  simp (disch:=omega) only [↓wr,↓reduceIte,wq,ah,ag,aj,ab,ae,af,ai,isNil,Nat.reduceEqDiff,Nat.reduceAdd,Nat.reduceLT,Nat.reduceLeDiff,Int.reduceNeg,Int.reduceToNat,reduceCtorEq,mE,t0,t1,t5,dZ]
  refine ax.dec (fun hc=>?_) (fun hc=>?_)
  · have hx:a[i]?=some (a[i]'(by omega)):=List.getElem?_eq_getElem (by omega)
    have hm:=hs _ (List.getElem_mem (show i < a.length by omega))
    generalize a[i]'(by omega)=x at hx hm
    simp (disch:=omega) only [↓wr,↓reduceIte,wq,ah,ag,aj,ab,ae,af,ai,isNil,Nat.reduceEqDiff,Nat.reduceAdd,Nat.reduceLT,Nat.reduceLeDiff,Int.reduceNeg,Int.reduceToNat,reduceCtorEq,t0,t1,t5,dZ,List.getElem?_map,hx,Option.map_some,mD]
    refine aG.pure (Bb x.bo k hm hk) (by kernel_rfl) ?_
    simp (disch:=omega) only [↓wr,↓reduceIte,wq,ah,ag,aj,ab,ae,af,ai,isNil,Nat.reduceEqDiff,Nat.reduceAdd,Nat.reduceLT,Nat.reduceLeDiff,Int.reduceNeg,Int.reduceToNat,reduceCtorEq,t0,t1,t5]
    refine ax.split (fun e=>?_) (fun e=>?_)
    · simp (disch:=omega) only [↓wr,↓reduceIte,wq,ah,ag,aj,ab,ae,af,ai,isNil,Nat.reduceEqDiff,Nat.reduceAdd,Nat.reduceLT,Nat.reduceLeDiff,Int.reduceNeg,Int.reduceToNat,reduceCtorEq,t0,t1,t5]
      rw[f1 x hx (by simpa using e)]
    · simp (disch:=omega) only [↓wr,↓reduceIte,wq,ah,ag,aj,ab,ae,af,ai,isNil,Nat.reduceEqDiff,Nat.reduceAdd,Nat.reduceLT,Nat.reduceLeDiff,Int.reduceNeg,Int.reduceToNat,reduceCtorEq,t0,t1,t5]
      refine bq hn (by omega) ⟨fun j s hj hjs=>?_,t0,t1,rfl⟩
      rcases Nat.lt_or_ge j i with h | h
      · exact hall j s h hjs
      · have:j=i:=by omega
        subst this
        rw[hx] at hjs; simp at hjs; subst hjs
        simpa using e
  · simp (disch:=omega) only [↓wr,↓reduceIte,wq,ah,ag,aj,ab,ae,af,ai,isNil,Nat.reduceEqDiff,Nat.reduceAdd,Nat.reduceLT,Nat.reduceLeDiff,Int.reduceNeg,Int.reduceToNat,reduceCtorEq,t0,t1,t5]
    rw[f2 (by omega)]
theorem ID {g:ao} (hf:g.dH) {s:bt} (h:bS s.bo∧s.bo≠[]∧∀ x∈s.bo,c4 g x):aW s.bo:=by
  have:=gT hf h.1 h.2.2; unfold aW; omega
theorem dD.Q4 {H:View} {u:V} {A:List m3} {L:List ew} (h:bg H ((u,2,dW A) :: L)) (hL:∀ x∈kj A,x∈L):dD H u (dZ (A.map fun x=>x.2.2)):=by
  rintro h' rfl
  exact (BG h.head fun x hx=>⟨h.1 _ (List.mem_cons_of_mem _ (hL _ (lA hx).1)),h.1 _ (List.mem_cons_of_mem _ (hL _ (lA hx).2))⟩).fr
theorem dD.lr {H:View} {u:V} {l:List aL} (h:aQ H u 2 (aS l)):dD H u (.aZ (aS l)) :=
  dD.own h fun e he v hv=>by
    obtain ⟨x,_,rfl⟩:=List.mem_map.1 he
    simp[bQ] at hv; rcases hv with rfl | rfl <;> exact .val _
theorem qh {h:aE} {u v:V} {e:Int} (h1:dN h u v):dN h (.bu [u,gi e]) (.bu [v,gi e]):=.bu _ _ rfl fun i hi=>by
  match i,hi with
  | 0,_=>exact h1
  | 1,_=>exact .val _
theorem tX {α:Type} {l:List α} {i:Nat} (h:i < l.length):∃ a x b,l=a ++ x :: b∧a.length=i∧l[i]?=some x :=
  ⟨l.take i,l[i],l.drop (i+1),by rw[← List.drop_eq_getElem_cons h,List.take_append_drop],by simp; omega,List.getElem?_eq_getElem h⟩
theorem zG {α:Type} (a:List α) (x:α) (b:List α) (f:α→α):(a ++ x :: b).modify a.length f=a ++ f x :: b:=by
  induction a with
  | nil=>rfl
  | cons y a ih=>simp only[List.cons_append,List.length_cons,List.modify_succ_cons,ih]
theorem Gq {g:ao} (h:isRed g=true):bK g=true:=by
  unfold isRed at h
  simp only[Bool.and_eq_true,beq_iff_eq,decide_eq_true_eq] at h
  refine Decidable.byContradiction fun hn=>?_
  have h1:=h.1
  unfold fi at h1
  simp[hn] at h1
theorem uK {g:ao} (h:isRed g=true):g.dH:=bL (Gq h)
theorem Qs {α:Type} {a b c:α} {l:List α} : (a :: b :: c :: l).Perm (c :: b :: a :: l):=(List.Perm.swap _ _ _).trans (((List.Perm.swap _ _ _).cons _).trans (List.Perm.swap _ _ _))
theorem Pj {α:Type} {e u p r:α} {S:List α} : (e :: u :: p :: r :: S).Perm (u :: r :: (S ++ [p,e])) :=
  (List.Perm.swap _ _ _).trans (.cons _ (Qs.trans (.cons _ (List.perm_append_comm (l₁:=[p,e]) (l₂:=S)))))
theorem JR {α:Type} {u r k e:α} {S1 S2:List α} : (u :: r :: (S1 ++ k :: e :: S2)).Perm (e :: u :: r :: (S1 ++ k :: S2)):=by
  have h:(S1 ++ k :: e :: S2).Perm (e :: (S1 ++ k :: S2)):=by
    have:=List.perm_middle (a:=e) (l₁:=S1 ++ [k]) (l₂:=S2)
    simpa using this
  exact (((h.cons r).cons u).trans ((List.Perm.swap _ _ _).cons u)).trans (List.Perm.swap _ _ _)
theorem xL (A:List m3) (x:m3) (B:List m3):kj (A ++ x :: B)=kj A ++ (x.1,2,aS x.2.2.bo) :: (x.2.1,2,kc x.2.2.bT) :: kj B:=by simp[kj]
def P3 (g:ao) (m:Nat) (T:Env) (H:View):Prop:=∃ (at_:Nat) (u:V) (A:List m3) (out:List bt),m+at_=302∧out=A.map (fun x=>x.2.2)∧bg H ((u,2,dW A) :: kj A)∧dO g at_ 0 out∧1≤out.length∧out.length≤300∧gB g m at_ out=dQ g∧at_≤out.length ∧
  T 1=.aR (aw g) 0∧T 4=u∧T 5=gi at_
set_option maxHeartbeats 16000000 in
theorem Ja (g:ao) (hg:g.Ok):dE Tryz.prog 25 [.agg (aw g)] (.bu [dZ (dQ g).1,gi (dQ g).2]):=by
  refine dE.of (eN g) ?_
  have hIs:=OY g hg
  refine aC.of mixed sw ?_
  simp only[aw,encS] at hIs
  simp (disch:=omega) only [↓wr,↓reduceIte,wq,ah,ag,aj,ab,ae,af,ai,isNil,Nat.reduceEqDiff,Nat.reduceAdd,Nat.reduceLT,Nat.reduceLeDiff,Int.reduceNeg,Int.reduceToNat,reduceCtorEq,mR,aw,encS]
  refine aG.pure hIs (by kernel_rfl) ?_
  simp (disch:=omega) only [↓wr,↓reduceIte,wq,ah,ag,aj,ab,ae,af,ai,isNil,Nat.reduceEqDiff,Nat.reduceAdd,Nat.reduceLT,Nat.reduceLeDiff,Int.reduceNeg,Int.reduceToNat,reduceCtorEq]
  refine ax.split (fun hr=>?_) (fun hr=>?_)
  rotate_left
  · simp (disch:=omega) only [↓wr,↓reduceIte,wq,ah,ag,aj,ab,ae,af,ai,isNil,Nat.reduceEqDiff,Nat.reduceAdd,Nat.reduceLT,Nat.reduceLeDiff,Int.reduceNeg,Int.reduceToNat,reduceCtorEq]
    intro h' _
    have e:dQ g=([],1):=by unfold dQ; rw[if_neg (by rw[hr]; simp)]
    rw[e]
    exact qh (.emp _)
  have hf:g.dH:=uK hr
  have e0:gB g 302 0 fe=dQ g:=by unfold dQ; rw[if_pos hr]
  have hT:=hf.az; have hN:=hf.ay
  simp (disch:=omega) only [↓wr,↓reduceIte,wq,ah,ag,aj,ab,ae,af,ai,isNil,Nat.reduceEqDiff,Nat.reduceAdd,Nat.reduceLT,Nat.reduceLeDiff,Int.reduceNeg,Int.reduceToNat,reduceCtorEq]
  intro q1 q2 hq2
  have o0:bg (((View.set (fun _=>bM.dead) q1 (.arr 2 [[gi (-1),gi 0]])).set q2 (.arr 2 [[.sl q1 0 1 2,.emp 1]]))) ((.sl q2 0 1 2,2,dW [(.sl q1 0 1 2,.emp 1,⟨[⟨-1,0⟩],[]⟩)]) :: kj [(.sl q1 0 1 2,.emp 1,⟨[⟨-1,0⟩],[]⟩)]) :=
    (((bg.nil.emp (k:=1) (sz:=2)).new (n:=q1) rfl 2 [[gi (-1),gi 0]]).new (by simpa [View.set] using hq2) 2 [[.sl q1 0 1 2,.emp 1]])
  generalize (View.set (fun _=>bM.dead) q1 (.arr 2 [[gi (-1),gi 0]])).set q2 (.arr 2 [[.sl q1 0 1 2,.emp 1]])=H0 at o0 ⊢
  refine bz.intro (P3 g) 302 ⟨0,_,_,fe,rfl,rfl,o0,rX,Nat.le_refl _,by simp[fe],e0,by omega,rfl,rfl,rfl⟩ ?_
  clear o0 hq2
  rintro m T H ⟨at_,u,A,out,hm,rfl,ho,hI,h1,h300,hl,hle,t1,t4,t5⟩
  have hlu:cq u=some A.length:=by rw[ho.head.len,cF]
  simp only[List.length_map] at h1 h300 hle
  simp (disch:=omega) only [↓wr,↓reduceIte,wq,ah,ag,aj,ab,ae,af,ai,isNil,Nat.reduceEqDiff,Nat.reduceAdd,Nat.reduceLT,Nat.reduceLeDiff,Int.reduceNeg,Int.reduceToNat,reduceCtorEq,k7,t1,t4,t5,hlu]
  refine ax.dec (fun hc=>?_) (fun hc=>?_)
  rotate_left
  · simp (disch:=omega) only [↓wr,↓reduceIte,wq,ah,ag,aj,ab,ae,af,ai,isNil,Nat.reduceEqDiff,Nat.reduceAdd,Nat.reduceLT,Nat.reduceLeDiff,Int.reduceNeg,Int.reduceToNat,reduceCtorEq,t1,t4,t5]
    have e1:dQ g=(A.map (fun x=>x.2.2),0):=by
      rw[← hl]
      cases m with
      | zero=>rfl
      | succ m=>rw[gB,if_neg (by simp; omega)]
    rw[e1]
    rintro h' rfl
    exact qh (BG ho.head fun x hx=>⟨ho.1 _ (List.mem_cons_of_mem _ (lA hx).1),ho.1 _ (List.mem_cons_of_mem _ (lA hx).2)⟩)
  obtain ⟨m,rfl⟩:∃ q,m=q+1:=⟨m - 1,by omega⟩
  have hat:at_ < A.length:=by omega
  obtain ⟨A1,x,A2,rfl,hA1,hx⟩:=tX hat
  have hxm:x∈A1 ++ x :: A2:=by simp
  obtain ⟨hk1,hk2,hk3⟩:=hI.bo x.2.2 (List.mem_map_of_mem hxm)
  have hkl:=gT hf hk1 hk3
  have hh:aQ H u 2 (dW (A1 ++ x :: A2)):=ho.head
  obtain ⟨id,hu,hid⟩:=hh.sl (by rw[cF]; omega)
  have hgx:(dW (A1 ++ x :: A2)).getD at_ []=[x.1,x.2.1]:=by simp[dW,List.getD_eq_getElem?_getD,← hA1]
  have hcl:cM g ((List.map (fun x=>x.2.2) (A1 ++ x :: A2)).getD at_ cg).bo=cM g x.2.2.bo:=by
    rw[List.getD_eq_getElem?_getD,List.getElem?_map,hx]; rfl
  have hrow:=fun n hn=>dO.row (hI.sC hf (show at_ < ((A1 ++ x :: A2).map fun x=>x.2.2).length by simpa using hat)).1 (hI.sC hf (show at_ < ((A1 ++ x :: A2).map fun x=>x.2.2).length by simpa using hat)).2 hI n hn
  rw[gB,if_pos (by simpa using hat),Fm] at hl
  rw[hcl] at hl hrow
  have hcs:=p8 g x.2.2.bo
  have hch:∀ y∈cM g x.2.2.bo,c4 g y:=fun y hy=>((rl hf hk3).1 hy).has hk3
  rw[cF] at hu
  simp (disch:=omega) only [↓wr,↓reduceIte,wq,ah,ag,aj,ab,ae,af,ai,isNil,Nat.reduceEqDiff,Nat.reduceAdd,Nat.reduceLT,Nat.reduceLeDiff,Int.reduceNeg,Int.reduceToNat,reduceCtorEq,t1,t4,t5,hu,hid,hgx,aw,encS]
  refine ⟨by omega,by rw[cF]; omega,?_⟩
  refine aG.jR ((Eg g hf x.2.2.bo hk3 (by omega) x.1 H (ho.1 _ (List.mem_cons_of_mem _ (lA hxm).1))).mono ?_)
  rintro r H2 ⟨or,fr⟩
  have o2:=ho.Iw or fr
  clear or fr hid hgx hcl hx
  generalize cM g x.2.2.bo=cl at *
  generalize hout0:(A1 ++ x :: A2).map (fun x=>x.2.2)=out0 at *
  have hol:out0.length=(A1 ++ x :: A2).length:=by rw[← hout0]; simp
  simp (disch:=omega) only [↓wr,↓reduceIte,wq,ah,ag,aj,ab,ae,af,ai,isNil,Nat.reduceEqDiff,Nat.reduceAdd,Nat.reduceLT,Nat.reduceLeDiff,Int.reduceNeg,Int.reduceToNat,reduceCtorEq,t1,t4,t5]
  refine bz.up (g.az.length+g.ay.length) (fun i T H'=>∃ (u:V) (A:List m3),A.map (fun x=>x.2.2)=(List.range i).foldl (cX g cl at_) out0∧bg H' ((r,2,aS cl) :: (u,2,dW A) :: kj A)∧T 1=.aR (aw g) 0∧T 4=u∧T 5=gi at_∧T 6=r∧T 7=gi i)
    ⟨u,_,hout0,o2,t1,by rw[← hu]; exact t4,t5,rfl,rfl⟩ ?_
  rw[← hol] at h1 h300 hle hat
  clear o2 ho hh hu t1 t4 t5 hlu hout0 hxm hol hc hk1 hk2 hk3 hkl hA1
  clear u H2 H T id A1 x A2
  rintro i k T H' hk ⟨u,A,hA,ho,t1,t4,t5,t6,t7⟩
  obtain ⟨iI,il1,il2⟩:=hrow i (by omega)
  rw[← hA] at iI il1 il2
  rw[List.length_map] at il1 il2
  have hlu:cq u=some A.length:=by rw[ho.tail.head.len,cF]
  have hcl':=gT hf hcs hch
  simp (disch:=omega) only [↓wr,↓reduceIte,wq,ah,ag,aj,ab,ae,af,ai,isNil,Nat.reduceEqDiff,Nat.reduceAdd,Nat.reduceLT,Nat.reduceLeDiff,Int.reduceNeg,Int.reduceToNat,reduceCtorEq,lF,t1,t4,t5,t6,t7,aw,encS]
  refine ax.dec (fun hc=>?_) (fun hc=>?_)
  rotate_left
  · have hi:i=g.az.length+g.ay.length:=by omega
    subst hi
    rw[← hA] at hl
    simp (disch:=omega) only [↓wr,↓reduceIte,wq,ah,ag,aj,ab,ae,af,ai,isNil,Nat.reduceEqDiff,Nat.reduceAdd,Nat.reduceLT,Nat.reduceLeDiff,Int.reduceNeg,Int.reduceToNat,reduceCtorEq,t1,t4,t5,t6,hlu]
    refine ax.dec (fun h3=>?_) (fun h3=>?_)
    · simp (disch:=omega) only [↓wr,↓reduceIte,wq,ah,ag,aj,ab,ae,af,ai,isNil,Nat.reduceEqDiff,Nat.reduceAdd,Nat.reduceLT,Nat.reduceLeDiff,Int.reduceNeg,Int.reduceToNat,reduceCtorEq]
      intro h' _
      rw[if_pos (by rw[List.length_map]; omega)] at hl
      rw[← hl]
      exact qh (.emp _)
    · simp (disch:=omega) only [↓wr,↓reduceIte,wq,ah,ag,aj,ab,ae,af,ai,isNil,Nat.reduceEqDiff,Nat.reduceAdd,Nat.reduceLT,Nat.reduceLeDiff,Int.reduceNeg,Int.reduceToNat,reduceCtorEq,t1,t4,t5]
      rw[if_neg (by rw[List.length_map]; omega)] at hl
      exact ⟨m,by omega,at_+1,u,A,_,by omega,rfl,ho.tail,iI.next,by rw[List.length_map]; omega,by rw[List.length_map]; omega,hl,by rw[List.length_map]; omega,t1,t4,rfl⟩
  have hcN:i < g.az.length+g.ay.length:=by omega
  have hs15:=F9 g hf i hcN
  have hsb:=Bc hf hcN
  simp only[aw,encS] at hs15
  simp (disch:=omega) only [↓wr,↓reduceIte,wq,ah,ag,aj,ab,ae,af,ai,isNil,Nat.reduceEqDiff,Nat.reduceAdd,Nat.reduceLT,Nat.reduceLeDiff,Int.reduceNeg,Int.reduceToNat,reduceCtorEq,t1,t4,t5,t6,t7,aw,encS]
  refine aG.pure hs15 (by kernel_rfl) ?_
  simp (disch:=omega) only [↓wr,↓reduceIte,wq,ah,ag,aj,ab,ae,af,ai,isNil,Nat.reduceEqDiff,Nat.reduceAdd,Nat.reduceLT,Nat.reduceLeDiff,Int.reduceNeg,Int.reduceToNat,reduceCtorEq,t1,t4,t5,t6,t7,aw,encS]
  refine aG.jR ((Ij g hf cl hcs hch (aU g i) r H' ho.head).mono ?_)
  rintro r9 H9 ⟨or,fr⟩
  have o9:=ho.Iw or fr
  have hml:=qv (g:=g) (l:=cl) (s:=aU g i)
  have hl9:cq r9=some (bc g cl (aU g i)).length:=by rw[or.len,bB]
  have hstep:(List.range (i+1)).foldl (cX g cl at_) out0=cX g cl at_ (A.map fun x=>x.2.2) i:=by rw[List.range_succ,List.foldl_append,← hA]; rfl
  simp (disch:=omega) only [↓wr,↓reduceIte,wq,ah,ag,aj,ab,ae,af,ai,isNil,Nat.reduceEqDiff,Nat.reduceAdd,Nat.reduceLT,Nat.reduceLeDiff,Int.reduceNeg,Int.reduceToNat,reduceCtorEq,t1,t4,t5,t6,t7,hl9]
  refine ax.eq (fun he=>?_) (fun he=>?_)
  · have hnil:bc g cl (aU g i)=[]:=List.length_eq_zero_iff.1 (by omega)
    simp (disch:=omega) only [↓wr,↓reduceIte,wq,ah,ag,aj,ab,ae,af,ai,isNil,Nat.reduceEqDiff,Nat.reduceAdd,Nat.reduceLT,Nat.reduceLeDiff,Int.reduceNeg,Int.reduceToNat,reduceCtorEq,t1,t4,t5,t6,t7]
    exact bq hk (by omega) ⟨u,A,by rw[hstep,cX,if_pos hnil],o9.tail,t1,t4,t5,t6,rfl⟩
  have hne:bc g cl (aU g i)≠[]:=fun e=>he (by rw[e]; rfl)
  simp (disch:=omega) only [↓wr,↓reduceIte,wq,ah,ag,aj,ab,ae,af,ai,isNil,Nat.reduceEqDiff,Nat.reduceAdd,Nat.reduceLT,Nat.reduceLeDiff,Int.reduceNeg,Int.reduceToNat,reduceCtorEq,t1,t4,t5,t6,t7]
  have hfind:=Lf (A.map fun x=>x.2.2) (by unfold aW; rw[List.length_map]; omega) (fun s hs=>ID hf (iI.bo s hs)) (bc g cl (aU g i)) (by unfold aW; omega)
  refine aG.O6 hfind (by kernel_rfl) (.val _) ⟨dD.Q4 o9.tail.tail (fun x hx=>hx),dD.lr or,trivial⟩ ?_
  have hfl:=ur (A.map fun x=>x.2.2) (bc g cl (aU g i))
  have hfg:=qC (A.map fun x=>x.2.2) (bc g cl (aU g i))
  rw[List.length_map] at hfl
  have hat2:at_ < A.length:=by omega
  simp (disch:=omega) only [↓wr,↓reduceIte,wq,ah,ag,aj,ab,ae,af,ai,isNil,Nat.reduceEqDiff,Nat.reduceAdd,Nat.reduceLT,Nat.reduceLeDiff,Int.reduceNeg,Int.reduceToNat,reduceCtorEq,t1,t4,t5,t6,t7]
  obtain ⟨A1,x,A2,hAs,hA1,hx⟩:=tX hat2
  have hxe:x.2.2.bT.length≤40:=(iI.bT at_ x.2.2 (by rw[List.getElem?_map,hx]; rfl)).1
  have hgx:∀ B,(dW (A1 ++ x :: B)).getD at_ []=[x.1,x.2.1]:=fun B=>by simp[dW,List.getD_eq_getElem?_getD,← hA1]
  have hput:∀ (B:List m3) (c:fh),((A1 ++ x :: B).map fun x=>x.2.2).modify at_ (fun s=>(⟨s.bo,s.bT ++ [c]⟩:bt))=(A1 ++ (x.1,x.2.1,(⟨x.2.2.bo,x.2.2.bT ++ [c]⟩:bt)) :: B).map fun x=>x.2.2:=fun B c=>by
    rw[List.map_append,List.map_cons,← hA1,← List.length_map (f:=fun x:m3=>x.2.2),zG,List.map_append,List.map_cons]
  refine ax.dec (fun hneg=>?_) (fun hneg=>?_)
  simp (disch:=omega) only [↓wr,↓reduceIte,wq,ah,ag,aj,ab,ae,af,ai,isNil,Nat.reduceEqDiff,Nat.reduceAdd,Nat.reduceLT,Nat.reduceLeDiff,Int.reduceNeg,Int.reduceToNat,reduceCtorEq,t1,t4,t5,t6,t7,hlu,or.cells,or.kg]
  intro q hq
  simp (disch:=omega) only [↓wr,↓reduceIte,wq,ah,ag,aj,ab,ae,af,ai,isNil,Nat.reduceEqDiff,Nat.reduceAdd,Nat.reduceLT,Nat.reduceLeDiff,Int.reduceNeg,Int.reduceToNat,reduceCtorEq,cy]
  have o10:=(o9.fresh (o:=.arr 2 [[r9,.emp 1]]) hq).at 2 (by simp)
  refine dK o10 (by simp[or.kg,xM]) (by unfold aO; rw[cF]; simp; omega) (by unfold aO; rw[cF]; simp; omega) ?_
  intro u2 H10 o11 _
  simp only[List.getElem_cons_succ,List.getElem_cons_zero,List.eraseIdx_cons_succ,List.eraseIdx_cons_zero] at o11
  have o12:=(o11.emp (k:=1) (sz:=2)).perm Pj
  have hst:cX g cl at_ (A.map fun x=>x.2.2) i=((A1 ++ x :: (A2 ++ [(r9,.emp 1,(⟨bc g cl (aU g i),[]⟩:bt))])).map fun x=>x.2.2).modify at_ (fun s=>(⟨s.bo,s.bT ++ [⟨aU g i,(A.length:Int)⟩]⟩:bt)):=by
    rw[cX,if_neg hne,if_pos hneg,List.length_map]
    congr 1
    rw[hAs]; simp
  have o13:bg H10 ((u2,2,dW (A1 ++ x :: (A2 ++ [(r9,.emp 1,(⟨bc g cl (aU g i),[]⟩:bt))]))) :: (r,2,aS cl) :: kj (A1 ++ x :: (A2 ++ [(r9,.emp 1,(⟨bc g cl (aU g i),[]⟩:bt))]))):=by
    have e1:dW (A1 ++ x :: (A2 ++ [(r9,.emp 1,(⟨bc g cl (aU g i),[]⟩:bt))]))=dW A ++ [[r9,.emp 1]]:=by rw[hAs]; simp[dW]
    have e2:kj (A1 ++ x :: (A2 ++ [(r9,.emp 1,(⟨bc g cl (aU g i),[]⟩:bt))]))=kj A ++ [(r9,2,aS (bc g cl (aU g i))),(.emp 1,2,[])]:=by rw[hAs]; simp[kj]; rfl
    rw[e1,e2]
    exact o12
  generalize (A2 ++ [(r9,V.emp 1,(⟨bc g cl (aU g i),[]⟩:bt))])=B at hst o13
  generalize (A.length:Int)=to at hst ⊢
  rotate_left
  have hst:cX g cl at_ (A.map fun x=>x.2.2) i=((A1 ++ x :: A2).map fun x=>x.2.2).modify at_ (fun s=>(⟨s.bo,s.bT ++ [⟨aU g i,findD (A.map fun x=>x.2.2) (bc g cl (aU g i))⟩]⟩:bt)):=by
    rw[cX,if_neg hne,if_neg hneg,← hAs]
  have o13:=o9.tail.perm (.swap _ _ _)
  clear or fr
  generalize H9=H10 at o9 o13 ⊢
  obtain ⟨u2,hu2⟩:∃ y,y=u:=⟨_,rfl⟩
  rw[← hu2] at o13 t4
  rw[hAs] at o13
  generalize findD (A.map fun x=>x.2.2) (bc g cl (aU g i))=to at hst ⊢
  generalize A2=B at hst o13
  all_goals (
    obtain ⟨id,hu,hid⟩:=(show aQ H10 u2 2 (dW (A1 ++ x :: B)) from o13.head).sl (by rw[cF]; simp; omega)
    rw[cF] at hu
    rw[xL] at o13
    simp (disch:=omega) only [↓wr,↓reduceIte,wq,ah,ag,aj,ab,ae,af,ai,isNil,Nat.reduceEqDiff,Nat.reduceAdd,Nat.reduceLT,Nat.reduceLeDiff,Int.reduceNeg,Int.reduceToNat,reduceCtorEq,t1,t4,t5,t6,t7,hu,hid,hgx B]
    refine ⟨by simp; omega,by rw[cF]; simp; omega,?_⟩
    intro q2 hq2
    simp (disch:=omega) only [↓wr,↓reduceIte,wq,ah,ag,aj,ab,ae,af,ai,isNil,Nat.reduceEqDiff,Nat.reduceAdd,Nat.reduceLT,Nat.reduceLeDiff,Int.reduceNeg,Int.reduceToNat,reduceCtorEq,cy]
    refine dK ((o13.perm JR).fresh hq2) (by simp[aV]) (by unfold aO; simp[kc]; omega) (by unfold aO; simp[kc]; omega) ?_
    intro e2 H11 o14 _
    have hid2:H11 id=.arr 2 (dW (A1 ++ x :: B)):=((o14.own 1 rfl).live (by rw[hu]; rfl)).1
    simp (disch:=omega) only [↓wr,↓reduceIte,wq,ah,ag,aj,ab,ae,af,ai,isNil,Nat.reduceEqDiff,Nat.reduceAdd,Nat.reduceLT,Nat.reduceLeDiff,Int.reduceNeg,Int.reduceToNat,reduceCtorEq,t1,t4,t5,t6,t7,hu,hid2,hgx B,o14.head.cells,o14.head.kg]
    have hset:(dW (A1 ++ x :: B)).set at_ [x.1,e2]=dW (A1 ++ (x.1,e2,(⟨x.2.2.bo,x.2.2.bT ++ [⟨aU g i,to⟩]⟩:bt)) :: B):=by
      rw[← hA1]; simp[dW]
    have hpd:kc (x.2.2.bT ++ [⟨aU g i,to⟩])=kc x.2.2.bT ++ [[gi (aU g i),gi to]]:=by simp[kc,xW]
    have o15:=o14.perm (.swap _ _ _)
    rw[hu] at o15
    have o16:=((o15.put (es':=dW (A1 ++ (x.1,e2,(⟨x.2.2.bo,x.2.2.bT ++ [⟨aU g i,to⟩]⟩:bt)) :: B)) (by rw[cF,cF]; simp) (by rw[cF])).perm (.swap _ _ _)).perm JR.symm
    rw[← hpd] at o16
    have o17:=o16.perm (.swap _ _ _)
    rw[← hu] at o17
    rw[hset]
    refine ⟨by simp; omega,by rw[cF]; simp; omega,bq hk (by omega) ⟨u2,_,?_,by rw[xL]; exact o17,t1,by first | rfl | exact t4 | exact hu.symm,t5,t6,rfl⟩⟩
    rw[hstep,hst,hput]; simp)
theorem toNat_zero {s:BV} : ((s.toNat:Nat):Int)=0↔s=0:=by
  constructor
  · intro h; exact BitVec.eq_of_toNat_eq (by simpa using h)
  · rintro rfl; rfl
instance (g:ao) (x:aL):Decidable (c4 g x):=by unfold c4; infer_instance
open Go Go.Proofs Go.Shelf Go.RowKit Go.Sort
theorem bF.cut {P:Program} {f:FuncId} {vs:List V} {h h':aE} {r:V} (hc:bF P f vs h r h') {id sz:Nat} {es rest:List (List V)} (hid:h'.view id=.arr sz (es ++ rest)):bF P f vs h r (h'.set id (.arr sz es)):=by
  have hlt:id < h'.length:=gq (by rw[hid]; simp)
  refine ⟨by simpa using hc.1,fun Z μ F w xs hr hh hf=>(hc.2 Z μ F w xs hr hh (by simpa using hf)).mono ?_⟩
  rintro e w' ⟨x,Z',μ',rfl,hv,hh',hex,hmu⟩
  refine ⟨x,Z',μ',rfl,hv,?_,hex,by simpa using hmu⟩
  have e1:∀ k,cat (h'.set id (.arr sz es)) F k=if k=id then .arr sz es else cat h' F k:=fun k=>by
    simp only[cat,List.length_set]
    by_cases hk:k < h'.length
    · rw[if_pos hk,if_pos hk,iG hlt]; rfl
    · rw[if_neg hk,if_neg hk,if_neg (by omega)]
  have e2:cat h' F id=.arr sz (es ++ rest):=by simp only[cat]; rw[if_pos hlt,hid]
  refine ⟨fun k=>?_,fun i j b o s o' s' hne h1 h2=>?_,hh'.lt,hh'.cp,hh'.fQ⟩
  · rw[e1]
    split
    · rename_i hk
      subst hk
      have h3:=hh'.obj k
      rw[e2] at h3
      intro b o0 s hm
      obtain ⟨k1,⟨c,e,f,hc,hf,hs⟩,k3,k4⟩:=h3 b o0 s hm
      have hg:∀ i,i < es.length→(es ++ rest).getD i []=es.getD i []:=fun i hi=>by
        simp[List.getD_eq_getElem?_getD,List.getElem?_append_left hi]
      refine ⟨k1,⟨c,e,f,hc,hf,?_⟩,fun i hi=>?_,fun i j hi hj=>?_⟩
      · rw[List.length_append,Nat.add_mul] at hs; omega
      · rw[← hg i hi]; exact k3 i (by rw[List.length_append]; omega)
      · rw[← hg i hi]; exact k4 i j (by rw[List.length_append]; omega) hj
    · exact hh'.obj k
  · have h3:=hh'.inj i j b o s o' s' hne h1 h2
    rw[e1,e1]
    rcases h3 with h3 | h3
    · left
      rw[if_neg (fun e=>by rw[e,e2] at h3; simp at h3)]; exact h3
    · right
      rw[if_neg (fun e=>by rw[e,e2] at h3; simp at h3)]; exact h3
theorem aC.cut {P:Program} {f:FuncId} {vs:List V} {H:View} {K K':V→View→Prop} (h:aC P f vs H K) (hk:∀ r H',K r H'→K' r H'∨∃ id sz es rest,H' id=.arr sz (es ++ rest)∧K' r (H'.set id (.arr sz es))):aC P f vs H K':=by
  refine ⟨h.1,fun h0 hv=>?_⟩
  obtain ⟨r,h',ha,hs,hK⟩:=h.2 h0 hv
  rcases hk r _ hK with h1 | ⟨id,sz,es,rest,hid,h1⟩
  · exact ⟨r,h',ha,hs,h1⟩
  · have hlt:id < h'.length:=gq (by rw[hid]; simp)
    refine ⟨r,h'.set id (.arr sz es),ha.cut hid,fun k hk0 hd=>?_,by rw[iG hlt]; exact h1⟩
    have h2:=hs k hk0 hd
    rw[iG hlt]
    simp only[View.set]
    rw[if_neg (fun e=>by rw[e,hid] at h2; simp at h2)]
    exact h2
instance:Inhabited aL:=⟨⟨0,0⟩⟩
def gG (x:aL):List Value:=[.int .i64 x.aH,.int .i64 x.dot]
def mn (a b:aL):Int:=if Lib.compareInt a.aH b.aH≠0 then Lib.compareInt a.aH b.aH else Lib.compareInt a.dot b.dot
theorem MB (a b:aL):(Lib.compareInt a.aH b.aH≠0→mn a b=Lib.compareInt a.aH b.aH)∧(Lib.compareInt a.aH b.aH=0→mn a b=Lib.compareInt a.dot b.dot):=by
  unfold mn
  exact ⟨fun h=>by rw[if_pos h],fun h=>by rw[if_neg (by simp[h])]⟩
theorem qX (a b:aL):ltOf mn a b=cb a b:=by
  have hc:∀ x y:Int,(x < y∧Lib.compareInt x y = -1)∨(x=y∧Lib.compareInt x y=0)∨(y < x∧Lib.compareInt x y=1):=fun x y=>by
    unfold Lib.compareInt; (repeat' split) <;> omega
  rw[Bool.eq_iff_iff,eM]
  simp only[ltOf,decide_eq_true_eq,mn]
  rcases hc a.aH b.aH with ⟨h,e⟩ | ⟨h,e⟩ | ⟨h,e⟩ <;> rcases hc a.dot b.dot with ⟨k,e2⟩ | ⟨k,e2⟩ | ⟨k,e2⟩ <;> simp[e,e2] <;> omega
theorem Ir:SWO (ltOf mn) where
  irrefl x:=by rw[qX]; exact jX
  trans x y z h k:=by rw[qX] at *; exact mC h k
  ntrans x y z h k:=by
    rw[qX] at *
    cases e:cb x z with
    | false=>rfl
    | true =>
      have h1:¬ cb x y=true:=by simp[h]
      have h2:¬ cb y z=true:=by simp[k]
      rw[eM] at h1 h2 e
      omega
def dM (l:List aL):List aL:=l.mergeSort fun x y=>!cb y x
theorem J2 (l:List aL):(l.toArray.toList.mergeSort fun x y=>!(ltOf mn) y x)=dM l:=by
  have e:(fun x y=>!(ltOf mn) y x)=fun x y=>!cb y x:=by funext x y; rw[qX]
  rw[e]; rfl
theorem yE (l:List aL):(dM l).Perm l:=List.mergeSort_perm _ _
theorem gM (l:List aL):(dM l).length=l.length:=(yE l).length_eq
theorem yI (l:List aL):(dM l).Pairwise fun x y=>cb y x=false:=by
  have:=List.pairwise_mergeSort (le:=fun x y:aL=>!cb y x) (fun a b c h k=>by
      simp only[Bool.not_eq_true',Bool.not_eq_false'] at h k ⊢
      cases e:cb c a with
      | false=>simp
      | true =>
        have h1:¬ cb b a=true:=by simpa using h
        have h2:¬ cb c b=true:=by simpa using k
        rw[eM] at h1 h2 e
        omega) (fun a b=>by
      cases e:cb b a with
      | false=>simp
      | true=>simp[F8 e]) l
  exact this.imp fun h=>by simpa using h
def Lc:Ren where
  f:=fun
    | 6=>112
    | 15=>167
    | 14=>166
    | 28=>207
    | 29=>208
    | 20=>199
    | 21=>200
    | 22=>201
    | 23=>202
    | 24=>203
    | 25=>204
    | 26=>205
    | 27=>206
    | 46=>227
    | 47=>228
    | 48=>229
    | 49=>230
    | 50=>231
    | 57=>244
    | n=>n
  t:=fun
    | 22=>27
    | 24=>33
    | 25=>164
    | 3=>3
    | 39=>212
    | 0=>0
    | 53=>67
    | 55=>249
    | 4=>4
    | 46=>242
    | 45=>241
    | 50=>30
    | 5=>5
    | 9=>9
    | 66=>269
    | 70=>273
    | 76=>282
    | 77=>283
    | n=>n
  g:=fun n=>n
theorem Nz:Go.Proofs.SlLaysF0.n6 Tryz.prog Lc where
  mixed:=by kernel_rfl
  f6:=⟨Tryz.f112.name,by kernel_rfl,by kernel_rfl⟩
  f14:=⟨Tryz.f166.name,by kernel_rfl,by kernel_rfl⟩
  f15:=by kernel_rfl
  f20:=⟨Tryz.f199.name,by kernel_rfl,by kernel_rfl⟩
  f21:=⟨Tryz.f200.name,by kernel_rfl,by kernel_rfl⟩
  f22:=⟨Tryz.f201.name,by kernel_rfl,by kernel_rfl⟩
  f23:=⟨Tryz.f202.name,by kernel_rfl,by kernel_rfl⟩
  f24:=⟨Tryz.f203.name,by kernel_rfl,by kernel_rfl⟩
  f25:=⟨Tryz.f204.name,by kernel_rfl,by kernel_rfl⟩
  f26:=⟨Tryz.f205.name,by kernel_rfl,by kernel_rfl⟩
  f27:=⟨Tryz.f206.name,by kernel_rfl,by kernel_rfl⟩
  f28:=by kernel_rfl
  f29:=by kernel_rfl
  f46:=⟨Tryz.f227.name,by kernel_rfl,by kernel_rfl⟩
  f47:=by kernel_rfl
  f48:=by kernel_rfl
  f49:=⟨Tryz.f230.name,by kernel_rfl,by kernel_rfl⟩
  f50:=⟨Tryz.f231.name,by kernel_rfl,by kernel_rfl⟩
  f57:=⟨Tryz.f244.name,by kernel_rfl,by kernel_rfl⟩
  t0:=Tryz.underlying0
  a0:=Tryz.isAgg0
  z0:=Tryz.sizeOf0
  v0:=Tryz.zeroValue0
  t3:=Tryz.underlying3
  a3:=Tryz.isAgg3
  z3:=Tryz.sizeOf3
  v3:=Tryz.zeroValue3
  t4:=Tryz.underlying4
  a4:=Tryz.isAgg4
  z4:=Tryz.sizeOf4
  v4:=Tryz.zeroValue4
  t5:=Tryz.underlying5
  a5:=Tryz.isAgg5
  z5:=Tryz.sizeOf5
  v5:=Tryz.zeroValue5
  t9:=Tryz.underlying9
  a9:=Tryz.isAgg9
  z9:=Tryz.sizeOf9
  v9:=Tryz.zeroValue9
  t22:=Tryz.underlying27
  a22:=Tryz.isAgg27
  z22:=Tryz.sizeOf27
  v22:=Tryz.zeroValue27
  t25:=Tryz.underlying164
  a25:=Tryz.isAgg164
  z25:=Tryz.sizeOf164
  v25:=Tryz.zeroValue164
  t39:=Tryz.underlying212
  a39:=Tryz.isAgg212
  z39:=Tryz.sizeOf212
  v39:=Tryz.zeroValue212
  t45:=Tryz.underlying241
  a45:=Tryz.isAgg241
  z45:=Tryz.sizeOf241
  v45:=Tryz.zeroValue241
  t46:=Tryz.underlying242
  a46:=Tryz.isAgg242
  z46:=Tryz.sizeOf242
  v46:=Tryz.zeroValue242
  t50:=Tryz.underlying30
  a50:=Tryz.isAgg30
  z50:=Tryz.sizeOf30
  v50:=Tryz.zeroValue30
  t53:=Tryz.underlying67
  a53:=Tryz.isAgg67
  z53:=Tryz.sizeOf67
  v53:=Tryz.zeroValue67
  t55:=Tryz.underlying249
  a55:=Tryz.isAgg249
  z55:=Tryz.sizeOf249
  v55:=Tryz.zeroValue249
  t66:=Tryz.underlying269
  a66:=Tryz.isAgg269
  z66:=Tryz.sizeOf269
  v66:=Tryz.zeroValue269
  t70:=Tryz.underlying273
  a70:=Tryz.isAgg273
  z70:=Tryz.sizeOf273
  v70:=Tryz.zeroValue273
  t76:=Tryz.underlying282
  a76:=Tryz.isAgg282
  z76:=Tryz.sizeOf282
  v76:=Tryz.zeroValue282
  t77:=Tryz.underlying283
  a77:=Tryz.isAgg283
  z77:=Tryz.sizeOf283
  v77:=Tryz.zeroValue283
def M9:Ren where
  f:=fun
    | 5=>126
    | 7=>173
    | n=>n
  t:=fun
    | 22=>3
    | 3=>3
    | 4=>4
    | n=>n
  g:=fun n=>n
theorem Pe:Go.Proofs.SlLaysC2.n5 Tryz.prog M9 where
  mixed:=by kernel_rfl
  f5:=⟨Tryz.f126.name,by kernel_rfl,by kernel_rfl⟩
  f7:=⟨Tryz.f173.name,by kernel_rfl,by kernel_rfl⟩
  t3:=Tryz.underlying3
  a3:=Tryz.isAgg3
  z3:=Tryz.sizeOf3
  v3:=Tryz.zeroValue3
  t4:=Tryz.underlying4
  a4:=Tryz.isAgg4
  z4:=Tryz.sizeOf4
  v4:=Tryz.zeroValue4
  t22:=Tryz.underlying3
  a22:=Tryz.isAgg3
  z22:=Tryz.sizeOf3
  v22:=Tryz.zeroValue3
section
attribute [local go_sem] Oper.semAt_some
set_option maxHeartbeats 4000000 in
theorem Gm (x y:Int) (b cap:Nat) (W:World) (h0:W.cell? ⟨b,0,none⟩=some (.int .i64 x)) (h1:W.cell? ⟨b,1,none⟩=some (.int .i64 y)) (r:Int) (hr:(x≠0→r=x)∧(x=0→r=y)) :
    Calls Tryz.prog 168 #[.slice (some ⟨b,0,none⟩) 2 cap] W fun e w'=>e=.returned (.int .i64 r)∧w'=W:=by
  go_enter Tryz.func168,Tryz.ntmps168
  go_wp2
  refine wp_loop_rounds 3 ?_
  rw[rounds_succ]
  go_wp2
  · rename_i h
    go_ret
    exact ⟨by rw[hr.1 (by simpa using h)]; rfl,rfl⟩
  · rename_i h
    have hx:x=0:=by simpa using h
    rw[rounds_succ]
    go_wp2
    · rename_i h
      go_ret
      exact ⟨by rw[hr.2 hx]; rfl,rfl⟩
    · rename_i h
      rw[rounds_succ]
      go_wp2
      go_ret
      exact ⟨by rw[hr.2 hx,show y=0 by simpa using h]; rfl,rfl⟩
structure PD (p:Prop):Prop where
  out:p
set_option maxHeartbeats 4000000 in
theorem Gc (x1 x2 y1 y2:Int) (W:World) (r:Int) (hr:(Lib.compareInt x1 y1≠0→r=Lib.compareInt x1 y1)∧(Lib.compareInt x1 y1=0→r=Lib.compareInt x2 y2)) :
    Calls Tryz.prog 113 #[.agg #[.int .i64 x1,.int .i64 x2],.agg #[.int .i64 y1,.int .i64 y2]] W fun e w'=>e=.returned (.int .i64 r)∧∃ q os',w'=grow (W.drewN q) os':=by
  have hcon1:=fun W'=>AnyG.cmp_Compare_int Pe x1 y1 W'
  change ∀ W',Calls Tryz.prog 126 _ _ _ at hcon1
  have hcon2:=fun W'=>AnyG.cmp_Compare_int Pe x2 y2 W'
  change ∀ W',Calls Tryz.prog 126 _ _ _ at hcon2
  generalize Lib.compareInt x1 y1=c1 at *
  generalize Lib.compareInt x2 y2=c2 at *
  go_enter Tryz.func113,Tryz.ntmps113
  go_wp2_with (first | (go_at_call 126; refine (hcon1 _).mono ?_; rintro e w' ⟨rfl,rfl⟩) | (go_at_call 126; refine (hcon2 _).mono ?_; rintro e w' ⟨rfl,rfl⟩))
  obtain ⟨b1,hb1⟩:∃ b1,b1=W.heap.size:=⟨_,rfl⟩
  obtain ⟨b2,hb2⟩:∃ b2,b2=W.heap.size+1:=⟨_,rfl⟩
  rw[← hb2,← hb1]
  generalize hW1:(W.alloc (Obj.cells #[Value.int IntKind.i64 x1,Value.int IntKind.i64 x2] 33)).alloc (Obj.cells #[Value.int IntKind.i64 y1,Value.int IntKind.i64 y2] 33)=W1
  have hh1:W1.heap[b1]?=some (.cells #[Value.int IntKind.i64 x1,Value.int IntKind.i64 x2] 33 (0,0)):=by
    rw[← hW1,hb1]; exact (Below.heap_alloc _ _ _ (by simp)).trans (World.alloc_heap_new W _)
  have hh2:W1.heap[b2]?=some (.cells #[Value.int IntKind.i64 y1,Value.int IntKind.i64 y2] 33 (0,0)):=by
    rw[← hW1,hb2]
    have:=World.alloc_heap_new (W.alloc (Obj.cells #[Value.int IntKind.i64 x1,Value.int IntKind.i64 x2] 33)) (Obj.cells #[Value.int IntKind.i64 y1,Value.int IntKind.i64 y2] 33)
    rwa [World.size_alloc] at this
  have k0:W1.cell? ⟨b1,0,none⟩=some (.int .i64 x1):=by unfold World.cell?; rw[hh1]; rfl
  have k1:W1.cell? ⟨b1,1,none⟩=some (.int .i64 x2):=by unfold World.cell?; rw[hh1]; rfl
  have k2:W1.cell? ⟨b2,0,none⟩=some (.int .i64 y1):=by unfold World.cell?; rw[hh2]; rfl
  have k3:W1.cell? ⟨b2,1,none⟩=some (.int .i64 y2):=by unfold World.cell?; rw[hh2]; rfl
  clear hh1 hh2
  refine wp_region_still_tail 10 (by kernel_rfl) (by kernel_rfl) ?_
  change wpStill _ _ W1.drew (fun a'=>wpList _ _ _ _ a' W1.drew) _ _
  generalize hW2:W1.drew=W2
  replace k0:W2.cell? ⟨b1,0,none⟩=some (.int .i64 x1):=by rw[← hW2]; exact k0
  replace k1:W2.cell? ⟨b1,1,none⟩=some (.int .i64 x2):=by rw[← hW2]; exact k1
  replace k2:W2.cell? ⟨b2,0,none⟩=some (.int .i64 y1):=by rw[← hW2]; exact k2
  replace k3:W2.cell? ⟨b2,1,none⟩=some (.int .i64 y2):=by rw[← hW2]; exact k3
  have hgr:PD (W2=grow (W.drewN 1) #[Obj.cells #[Value.int IntKind.i64 x1,Value.int IntKind.i64 x2] 33,Obj.cells #[Value.int IntKind.i64 y1,Value.int IntKind.i64 y2] 33]):=by
    refine ⟨?_⟩
    rw[← hW2,← hW1,alloc_eq_grow,alloc_eq_grow,grow_grow]; rfl
  clear hW1 hW2 hb1 hb2
  simp only[List.take_succ_cons,List.take_zero,List.drop_succ_cons,List.drop_zero]
  iterate 4 still_step
  still_call (hcon1 _)
  iterate 4 still_step
  still_call (hcon2 _)
  refine wpStill_nil ?_
  go_wp2_with (go_at_call 168; refine (Gm c1 c2 _ _ _ ?_ ?_ r hr).mono ?_)
  · unfold World.cell?; rw[World.alloc_heap_new]; rfl
  · unfold World.cell?; rw[World.alloc_heap_new]; rfl
  · rintro e w' ⟨rfl,rfl⟩
    go_wp2
    go_ret
    refine ⟨rfl,1,#[Obj.cells #[Value.int IntKind.i64 x1,Value.int IntKind.i64 x2] 33,Obj.cells #[Value.int IntKind.i64 y1,Value.int IntKind.i64 y2] 33,Obj.cells #[Value.int IntKind.i64 c1,Value.int IntKind.i64 c2] 3],?_⟩
    rw[hgr.out,alloc_eq_grow,grow_grow]; rfl
end
theorem E6 {Z:Nat→Prop} {μ:Mu} {hp:Array Obj} {id off len esz:Nat} {x:Value} (h:aB Z μ hp (.sl id off len esz) x) :
    (len=0∧∃ a,x=.slice a 0 0)∨∃ b o0 cap,∃ c:Array Value,∃ e f,x=.slice (some ⟨b,o0+off * esz,none⟩) len cap∧μ id=some (b,o0,esz)∧len≤cap∧hp[b]?=some (.cells c e f)∧o0+(off+cap) * esz≤c.size:=by
  cases h with
  | mY _ _ _ a=>exact .inl ⟨rfl,a,rfl⟩
  | sl _ _ _ _ b o0 cap c e f h1 h2 h3 h4=>exact .inr ⟨b,o0,cap,c,e,f,rfl,h1,h2,h3,h4⟩
theorem OM {Z:Nat→Prop} {μ:Mu} {hp:Array Obj} {f:FuncId} {x:Value} (h:aB Z μ hp (.fn f [] []) x):x=.func (.func f) #[] #[]:=by
  cases h with
  | fn _ _ _ aas bs h1 h2 _ _ =>
    rw[Array.eq_empty_of_size_eq_zero h1.symm,Array.eq_empty_of_size_eq_zero h2.symm]
theorem BM (w:World) (b o0 m:Nat) (d:Array aL) (os:Array Obj) {j:Nat} (hj:j < w.heap.size):(sortWorldK gG 2 w b o0 m d os).heap[j]?=if b=j then (w.heap[j]?).map (onCells (putCells id o0 (flatK gG 2 d))) else w.heap[j]?:=by
  unfold sortWorldK grow putRowK putRow mapBlock
  simp only[Sort.ahead]
  rw[Array.getElem?_append_left (by simpa using hj),Array.getElem?_modify]
set_option maxHeartbeats 4000000 in
theorem MW (l:List aL) (hl:l.length < 1152921504606846976) (u:V) (H:View) (ho:aQ H u 2 (aS l)):aC Tryz.prog 112 [u,.fn 113 [] []] H fun r H'=>r=.bu []∧(∀ id,owner u≠some id→H' id=H id)∧aQ H' u 2 (aS (dM l)):=by
  refine ⟨by kernel_rfl,?_⟩
  rintro h rfl
  have eg:∀ args w,(callFunc 113 args).run Tryz.prog w=.ok (.enter 113 args) w:=enters_of Tryz.func113 (by kernel_rfl) rfl
  by_cases hnil:l=[]
  · subst hnil
    refine ⟨.bu [],h,⟨Nat.le_refl _,fun Z μ F w xs hrel hr hfree=>?_⟩,.refl _,rfl,fun _ _=>rfl,by simpa [dM] using ho⟩
    obtain ⟨hlen,hv⟩:=hrel
    obtain ⟨x,y,rfl⟩:∃ x y,xs=[x,y]:=by
      match xs,hlen with
      | [x,y],_=>exact ⟨x,y,rfl⟩
    have h0:aB Z μ w.heap u x:=hv 0 (by simp)
    obtain ⟨p,cap,rfl⟩:∃ p cap,x=.slice p 0 cap:=by
      rcases ho with ⟨_,k,rfl⟩ | ⟨n,rfl,_⟩
      · cases h0 with | emp _ a _ _=>exact ⟨a,0,rfl⟩
      · rcases E6 h0 with ⟨_,a,e⟩ | ⟨b,o0,cap,c,e,f,e2,_⟩
        · exact ⟨a,0,e⟩
        · exact ⟨_,cap,e2⟩
    refine (AnyF.slices_SortFunc_none Nz p cap y w).mono ?_
    rintro e w' ⟨rfl,rfl⟩
    exact ⟨.tuple #[],Z,μ,rfl,.bu [] #[] rfl (fun i hi=>by simp at hi),hr,Ext.refl _ _ _ _,fun _ _=>rfl⟩
  have hpos:0 < l.length:=List.length_pos_iff.2 hnil
  obtain ⟨n,rfl,hn⟩:=ho.sl (by rw[bB]; exact hpos)
  rw[bB]
  have hlt:n < h.length:=gq (by rw[hn]; simp)
  refine ⟨.bu [],h.set n (.arr 2 (aS (dM l))),⟨by simp,fun Z μ F w xs hrel hr hfree=>?_⟩,fun k hk hd=>?_,rfl,fun id hid=>?_,?_⟩
  rotate_left
  · rw[iG hlt]
    simp only[View.set]
    rw[if_neg (fun e=>by rw[e,hn] at hd; simp at hd)]; exact hd
  · rw[iG hlt]
    simp only[View.set]
    rw[if_neg (fun e=>hid (by rw[e]; rfl))]
  · refine .inr ⟨n,by rw[bB,gM],?_⟩
    rw[iG hlt]; simp[View.set]
  obtain ⟨hlen,hv⟩:=hrel
  obtain ⟨x,y,rfl⟩:∃ x y,xs=[x,y]:=by
    match xs,hlen with
    | [x,y],_=>exact ⟨x,y,rfl⟩
  have h0:aB Z μ w.heap (.sl n 0 l.length 2) x:=hv 0 (by simp)
  have h1:aB Z μ w.heap (.fn 113 [] []) y:=hv 1 (by simp)
  have hy:=OM h1
  subst hy
  rcases E6 h0 with ⟨e,_⟩ | ⟨b,o0,cap,c0,e0,f0,rfl,hμ,hcap,_,_⟩
  · omega
  rw[Nat.zero_mul,Nat.add_zero]
  have hcat:cat h F n=.arr 2 (aS l):=by simp only[cat]; rw[if_pos hlt,hn]
  have hob:=hr.obj n
  rw[hcat] at hob
  obtain ⟨_,⟨c,ty,fz,hc,hfz,hsz⟩,hq,hcell⟩:=hob b o0 2 hμ
  rw[bB] at hsz hq hcell
  have hbl:b < w.heap.size:=hr.lt _ _ _ _ hμ
  have hgl:∀ (m:List aL) (i:Nat) (hi:i < m.length),(aS m).getD i []=bQ m[i]:=fun m i hi=>by simp[aS,List.getD_eq_getElem?_getD,hi]
  have hH:HoldsK gG 2 w b o0 l.toArray:=by
    intro j hj
    rw[size_flatK] at hj
    have hj':j < l.length * 2:=by simpa using hj
    have hi:j / 2 < l.length:=by omega
    obtain ⟨x,hx,hxv⟩:=hcell (j / 2) (j % 2) hi (by omega)
    rw[show o0+j / 2 * 2+j % 2=o0+j by omega] at hx
    have hxe:x=(flatK gG 2 l.toArray)[j]!:=by
      rw[get_flatK _ _ _ _ hj]
      rw[hgl l _ hi] at hxv
      have e1:l.toArray[j / 2]! = l[j / 2]:=by simp[hi]
      rw[e1]
      rcases Nat.lt_or_ge (j % 2) 1 with h2 | h2
      · rw[show j % 2=0 by omega] at hxv ⊢
        simp only[bQ,List.getD_cons_zero] at hxv
        cases hxv; rfl
      · rw[show j % 2=1 by omega] at hxv ⊢
        simp only[bQ,List.getD_cons_succ,List.getD_cons_zero] at hxv
        cases hxv; rfl
    refine ⟨by rw[lC,hx,hxe]; rfl,?_⟩
    simp only[World.frozen?,hc]
    rcases hfz with e | e
    · simp only[e,Bool.and_eq_false_iff,decide_eq_false_iff_not]; omega
    · simp only[Bool.and_eq_false_iff,decide_eq_false_iff_not]; omega
  have hT:∀ x y,(ltOf mn) x y=false→(ltOf mn) y x=false→x=y:=fun x y h1 h2=>by
    rw[qX] at h1 h2
    exact Decidable.byContradiction fun hne=>by rw[uJ h1 hne] at h2; simp at h2
  have hrun:=AnyQ.slices_SortFunc_total Nz 2 Tryz.isAgg33 Tryz.sizeOf33 gG (fun _=>rfl) (fun x v hv=>by simp[gG] at hv; rcases hv with rfl | rfl <;> rfl) mn Ir 113 #[] b o0 cap l.toArray w eg (fun _ _ _ _ x y=>Gc x.aH x.dot y.aH y.dot _ _ (MB x y)) hH hbl (by simp; omega) hT
  rw[J2] at hrun
  refine Calls.mono (show Calls Tryz.prog 112 _ w _ from hrun) ?_
  rintro e w' ⟨rfl,m,os,rfl⟩
  have hsl:=gM l
  have hheap:=fun {j:Nat} (hj:j < w.heap.size)=>BM w b o0 m (dM l).toArray os hj
  have hafter:HoldsK gG 2 (sortWorldK gG 2 w b o0 m (dM l).toArray os) b o0 (dM l).toArray:=SWK.holds ⟨m,os,rfl⟩ hbl hH (by simp[hsl])
  have hsize:w.heap.size≤(sortWorldK gG 2 w b o0 m (dM l).toArray os).heap.size:=SWK.le (dk:=(dM l).toArray) ⟨m,os,rfl⟩
  have hsame:dU w (sortWorldK gG 2 w b o0 m (dM l).toArray os):=⟨rfl,rfl,rfl,hsize⟩
  generalize sortWorldK gG 2 w b o0 m (dM l).toArray os=w' at *
  have hb':w'.heap[b]?=some (.cells (putCells id o0 (flatK gG 2 (dM l).toArray) c) ty fz):=by
    rw[hheap hbl,if_pos rfl,hc]; rfl
  have heff:kO Z μ μ w.heap w'.heap h.length (.eQ n (.arr 2 (aS (dM l)))):=by
    refine ⟨b,o0,2,hμ,rfl,fun j hj hne=>by rw[hheap hj,if_neg (fun e=>hne e.symm)],fun j cc ee ff hjj=>?_,?_⟩
    · have hjl:j < w.heap.size:=by
        rcases Nat.lt_or_ge j w.heap.size with q | q
        · exact q
        · simp[Array.getElem?_eq_none q] at hjj
      by_cases e:b=j
      · subst e
        rw[hc] at hjj
        simp only[Option.some.injEq,Obj.cells.injEq] at hjj
        obtain ⟨rfl,rfl,rfl⟩:=hjj
        exact ⟨_,_,hb',by simp[putCells]⟩
      · exact ⟨cc,ff,by rw[hheap hjl,if_neg e]; exact hjj,rfl⟩
    · intro b1 o1 s1 h1
      rw[hμ] at h1
      simp only[Option.some.injEq,Prod.mk.injEq] at h1
      obtain ⟨rfl,rfl,rfl⟩:=h1
      refine ⟨rfl,⟨_,ty,fz,hb',?_,?_⟩,fun i hi=>?_,fun i j hi hj=>?_⟩
      · simpa [putCells] using hfz
      · rw[bB,hsl]; simpa [putCells] using hsz
      · rw[bB] at hi; rw[hgl _ i hi]; rfl
      · rw[bB] at hi
        have:=(hafter.cell (i:=i) (c:=j) (by simpa using hi) hj).1
        rw[lC] at this
        refine ⟨_,this,?_⟩
        rw[hgl _ i hi]
        have e1:(dM l).toArray[i]! = (dM l)[i]:=by simp[hi]
        rw[e1]
        match j,hj with
        | 0,_=>exact .val _ rfl
        | 1,_=>exact .val _ rfl
  have hne:cat h F n≠.dead:=by rw[hcat]; simp
  have hrel':=hr.eff (n:=h.length) (eff:=.eQ n (.arr 2 (aS (dM l)))) (by trivial) hsize heff (fun id o e=>by cases e; exact hne) (fun id o e=>by cases e)
  obtain ⟨hext,hmu⟩:=heff.ext hsame (by trivial) hr.cp hr.fQ
  refine ⟨.tuple #[],Z,μ,rfl,.bu [] #[] rfl (fun i hi=>by simp at hi),?_,hext,fun _ _=>rfl⟩
  have ev:cat (h.set n (.arr 2 (aS (dM l)))) F=bj.view (cat h F) h.length (.eQ n (.arr 2 (aS (dM l)))):=by
    funext k
    simp only[cat,bj.view,View.set,List.length_set]
    by_cases hk:k < h.length
    · rw[if_pos hk,if_pos hk,iG hlt]; rfl
    · rw[if_neg hk,if_neg hk,if_neg (by omega)]
  rw[ev]
  exact hrel'
abbrev fR:aL:=⟨0,0⟩
def eA (l:List aL):Nat→List aL
  | 0=>[]
  | n+1=>if n=0∨l.getD n fR≠l.getD (n - 1) fR then eA l n ++ [l.getD n fR] else eA l n
theorem wU (l:List aL):∀ n,n≤l.length→(∀ j,0 < j→j < n→l.getD j fR≠l.getD (j - 1) fR)→eA l n=l.take n
  | 0,_,_=>by simp[eA]
  | n+1,hn,h=>by
    have ih:=wU l n (by omega) fun j h1 h2=>h j h1 (by omega)
    have hx:l[n]?=some (l.getD n fR):=getD_some (by omega)
    rw[eA,if_pos,ih,List.take_add_one,hx]
    · rfl
    · by_cases e:n=0
      · exact .inl e
      · exact .inr (h n (by omega) (by omega))
def xR (l:List aL):List aL:=eA (dM l) l.length
theorem uZ {l:List aL} (hp:l.Pairwise fun x y=>cb y x=false):∀ n,n≤l.length→bS (eA l n)∧(∀ x,x∈eA l n↔∃ i,i < n∧l.getD i fR=x)
  | 0,_=>by simp[eA,bS]
  | n+1,hn=>by
    obtain ⟨h1,h2⟩:=uZ hp n (by omega)
    have hge:∀ i j,i < j→j < l.length→cb (l.getD j fR) (l.getD i fR)=false:=fun i j hij hj=>by
      have:=List.pairwise_iff_getElem.1 hp i j (by omega) hj hij
      simpa [List.getD_eq_getElem?_getD,List.getElem?_eq_getElem hj,List.getElem?_eq_getElem (show i < l.length by omega)] using this
    rw[eA]
    split
    · rename_i hc
      refine ⟨?_,fun x=>?_⟩
      · rw[bS,List.pairwise_append]
        refine ⟨h1,by simp,fun a ha b hb=>?_⟩
        rw[List.mem_singleton] at hb; subst hb
        obtain ⟨i,hi,rfl⟩:=(h2 a).1 ha
        have hc:l.getD n fR≠l.getD (n - 1) fR:=hc.resolve_left (by omega)
        have k1:=uJ (hge (n - 1) n (by omega) (by omega)) hc
        rcases Nat.lt_or_ge i (n - 1) with h | h
        · have k2:=hge i (n - 1) h (by omega)
          have k3:¬ cb (l.getD (n - 1) fR) (l.getD i fR)=true:=by rw[k2]; simp
          rw[eM] at k1 k3 ⊢
          omega
        · have:i=n - 1:=by omega
          subst this; exact k1
      · rw[List.mem_append,h2,List.mem_singleton]
        constructor
        · rintro (⟨i,hi,e⟩ | e)
          · exact ⟨i,by omega,e⟩
          · exact ⟨n,by omega,e.symm⟩
        · rintro ⟨i,hi,e⟩
          rcases Nat.lt_or_ge i n with h | h
          · exact .inl ⟨i,h,e⟩
          · have:i=n:=by omega
            subst this; exact .inr e.symm
    · rename_i hc
      simp only[not_or,Decidable.not_not] at hc
      refine ⟨h1,fun x=>?_⟩
      rw[h2]
      constructor
      · rintro ⟨i,hi,e⟩; exact ⟨i,by omega,e⟩
      · rintro ⟨i,hi,e⟩
        rcases Nat.lt_or_ge i n with h | h
        · exact ⟨i,h,e⟩
        · have:i=n:=by omega
          subst this
          exact ⟨i - 1,by omega,by rw[← hc.2]; exact e⟩
theorem z6 (l:List aL):bS (xR l):=(uZ (yI l) _ (by rw[gM]; exact Nat.le_refl _)).1
theorem ow {l:List aL} {x:aL} : x∈xR l↔x∈l:=by
  rw[xR,(uZ (yI l) _ (by rw[gM]; exact Nat.le_refl _)).2,← (yE l).mem_iff,List.mem_iff_getElem]
  constructor
  · rintro ⟨i,hi,e⟩
    have hi':i < (dM l).length:=by rw[gM]; exact hi
    exact ⟨i,hi',by rw[List.getD_eq_getElem?_getD,List.getElem?_eq_getElem hi'] at e; exact e⟩
  · rintro ⟨i,hi,e⟩
    exact ⟨i,by rw[gM] at hi; exact hi,by rw[List.getD_eq_getElem?_getD,List.getElem?_eq_getElem hi]; exact e⟩
theorem Im {l:List aL} (h:bS l):xR l=l:=xx (z6 l) h fun _=>ow
def me (g:ao) (s:Int):Int:=if s < 0 then (g.az.length:Int) - 1 - s else s
theorem E3 (g:ao) (k:Nat):me g (aU g k)=k:=by
  unfold me aU; split <;> split <;> omega
theorem Mp {g:ao} {s:Int} (h1:s < g.az.length):0≤me g s∧aU g (me g s).toNat=s:=by
  unfold me aU; split
  · rw[if_neg (by omega)]; omega
  · rw[if_pos (by omega)]; omega
theorem NY {g:ao} {s:Int} (h:hU g s=true):s < g.az.length∧me g s < g.az.length+g.ay.length:=by
  unfold hU at h
  unfold me
  by_cases h0:0≤s
  · rw[if_pos h0] at h
    rw[if_neg (by omega)]
    simp at h
    omega
  · rw[if_neg h0] at h
    rw[if_pos (by omega)]
    simp at h
    omega
def eY (l:List aL):List UInt8:=l.flatMap fun x=>[UInt8.ofNat (x.aH+1).toNat,UInt8.ofNat x.dot.toNat]
theorem Ll {a b:Nat} (ha:a < 256) (hb:b < 256) (h:UInt8.ofNat a=UInt8.ofNat b):a=b:=by
  have:=congrArg UInt8.toNat h
  simp at this
  omega
theorem FC {g:ao} (hf:g.dH):∀ {a b:List aL},(∀ x∈a,c4 g x)→(∀ x∈b,c4 g x)→eY a=eY b→a=b
  | [],[],_,_,_=>rfl
  | [],y :: b,_,_,h=>by simp[eY] at h
  | x :: a,[],_,_,h=>by simp[eY] at h
  | x :: a,y :: b,ha,hb,h=>by
    simp only[eY,List.flatMap_cons,List.cons_append,List.nil_append,List.cons.injEq] at h
    obtain ⟨h1,h2,h3⟩:=h
    have hx:=ha x (by simp)
    have hy:=hb y (by simp)
    have hr:=hf.rules
    have e1:=fF hf hx.1
    have e2:=fF hf hy.1
    have:=hx.1; have:=hx.2; have:=hy.1; have:=hy.2
    have k1:=Ll (by omega) (by omega) h1
    have k2:=Ll (by omega) (by omega) h2
    have ih:=FC hf (fun z hz=>ha z (by simp[hz])) (fun z hz=>hb z (by simp[hz])) h3
    obtain ⟨xr,xd⟩:=x
    obtain ⟨yr,yd⟩:=y
    simp only at *
    have:xr=yr:=by omega
    have:xd=yd:=by omega
    subst_vars; rfl
section
variable {P:Program} {T:Env} {H:View} {K:V→View→Prop} {w:cD (T,H,K)} {t ty:TypeId}
theorem LU {d:Operand} {id off len sz bytes s:Nat} {z:List V} {es:List (List V)} (he:rm P t=some (sz,bytes,z)) (hd:ev T d=.sl id off len sz) (hH:H id=.arr s es) (hl:off+len≤es.length) (h0:len≠0)
    (hk:K (.bu []) (H.set id (.arr sz (fo es off (List.replicate len z))))):nT P (.call { callee:=.builtin .clear,args:=#[d],argTypes:=#[t] }) ty T H K w:=by
  obtain ⟨e,ti,hse,hi,hti,hz,hzl,hzok,hs0,rfl,rfl⟩:=nD he
  intro n _
  refine ⟨.bu [],.eQ id (.arr ti.size (fo es off (List.replicate len z))),[id],?_,hk⟩
  simp only[sI,bY,oper]
  simp only[List.all_eq_true] at hzok
  simp[tB,hse,hd,cq,hti,h0,hH,hl,hs0,hz,hzl,hzok]
  exact hzok
end
theorem w8:∀ (xs A B:List (List V)),xs.length≤B.length→fo (A ++ B) A.length xs=A ++ xs ++ B.drop xs.length
  | [],A,B,_=>by simp[fo]
  | x :: r,A,[],h=>by simp at h
  | x :: r,A,b :: B,h=>by
    rw[fo,List.set_append_right _ _ (Nat.le_refl _),Nat.sub_self,List.set_cons_zero]
    have:=w8 r (A ++ [x]) B (by simpa using h)
    simpa using this
theorem wO {id off k m:Nat} (hm:m≤k):fI 2 (.sl id off k 2) (some (gi m)) none=some (.sl id (off+m) (k - m) 2,.none,[]):=by
  simp[fI,bound,asNat,hm]
theorem D1 {id off k m:Nat} (hm:m≤k):fI 2 (.sl id off k 2) none (some (gi m))=some (.sl id off m 2,.none,[]):=by
  simp[fI,bound,asNat,hm]
def eS:SC :=
  .seq (.seq (ak [aa 29 5,aa 30 4,aJ 31 30,aN 32 .lss 29 31]) <|
  .cond (.tmp 32) (.skip) (.exit 2)) <|
  .seq (.block 3 (.seq (ak [aa 35 4,aa 36 5,aP 37 2 35 36,aK 38 2 37,aa 39 4,aa 40 5,aA 41 .sub 40 1,aP 42 2 39 41,aK 43 2 42,((some 44),.op (.old (.binOp .neq 33 (.tmp 38) (.tmp 43) 33) 4))]) <|
  .cond (.tmp 44) (.seq (ak [aa 45 0,aa 46 3,aa 47 4,aa 48 5,aP 49 2 47 48,aK 50 2 49,aP 51 2 45 46,(none,.op (.store 2 (.tmp 51) (.tmp 50)))]) <|
  ak [aa 52 3,aA 53 .add 52 1,aa 3 53]) (.skip))) <|
  ak [aa 33 5,aA 34 .add 33 1,aa 5 34]
def eU:SC :=
  .seq (.seq (ak [aa 10 3,aa 11 0,aJ 12 11,aN 13 .lss 10 12]) <|
  .cond (.tmp 13) (.skip) (.exit 0)) <|
  .seq (.block 1 (.seq (ak [aa 16 0,aa 17 3,aP 18 2 16 17,aK 19 2 18,aa 20 0,aa 21 3,aA 22 .sub 21 1,aP 23 2 20 22,aK 24 2 23,((some 25),.op (.old (.binOp .eql 33 (.tmp 19) (.tmp 24) 33) 4))]) <|
  .cond (.tmp 25) (.seq (ak [aa 26 0,aa 27 3,((some 28),.op (.slice 2 (.tmp 26) (some (.tmp 27)) none)),aa 4 28]) <|
  .seq (.seq (ak [aF 5 1]) <|
  .block 2 (.loop eS)) <|
  .seq (ak [aa 54 0,aa 55 3,((some 56),.op (.slice 2 (.tmp 54) (some (.tmp 55)) none)),(none,.op (.old (.call { callee:=.builtin .clear,args:=#[(.tmp 56)],argTypes:=#[27] }) 0))]) <|
  .seq (ak [aa 57 0,aa 58 3,((some 59),.op (.slice 2 (.tmp 57) none (some (.tmp 58)))),aa 2 59]) <|
  .ret) (.skip))) <|
  ak [aa 14 3,aA 15 .add 14 1,aa 3 15]
def fw:SF:=⟨.seq (ak [((some 2),.op (.bm (.val (.emp 1))))]) <|
  .seq (.seq (ak [aa 6 0,aJ 7 6,aA 8 .lss 7 2]) <|
  .cond (.tmp 8) (.seq (ak [aa 9 0,aa 2 9]) <|
  .ret) (.skip)) <|
  .seq (.seq (ak [aF 3 1]) <|
  .block 0 (.loop eU)) <|
  .seq (ak [aa 60 0,aa 2 60]) <|
  .ret,
  [.tmp 2],61⟩
theorem iE:bf Tryz.prog 114 []=some fw:=by kernel_rfl
def yg:SF:=⟨.seq (ak [((some 2),.op (.bm (.val (.emp 1))))]) <|
  .seq (ak [aa 3 0,c9 4 112 [(.tmp 3),(.val (.fn 113 [] []))]]) <|
  .seq (ak [aa 5 0,aI 6 114 [5],aa 2 6]) <|
  .ret,
  [.tmp 2],7⟩
theorem BW:bf Tryz.prog 64 []=some yg:=by kernel_rfl
theorem qb {l:List aL} {i:Nat} (h:i < l.length):(aS l).getD i []=[gi (l.getD i fR).aH,gi (l.getD i fR).dot]:=oS (getD_some h)
theorem I0 (l:List aL) (i j:Nat) (x d:aL) (hi:i < l.length):(l.set i x).getD j d=if i=j then x else l.getD j d:=by
  rw[rz]
  by_cases e:i=j
  · rw[if_pos ⟨e,hi⟩,if_pos e]
  · rw[if_neg (fun h=>e h.1),if_neg e]
set_option maxHeartbeats 16000000 in
theorem HY (l:List aL) (hn:l.length≤100000) (u:V) (H:View) (ho:aQ H u 2 (aS l)):aC Tryz.prog 114 [u] H fun r H'=>(∀ id,owner u≠some id→H' id=H id)∧aQ H' r 2 (aS (eA l l.length))∧owner r=owner u:=by
  refine aC.cut (K:=fun r H'=>(H'=H∧r=u∧eA l l.length=l)∨∃ id rest,u=.sl id 0 l.length 2∧r=.sl id 0 (eA l l.length).length 2∧H'=H.set id (.arr 2 (aS (eA l l.length) ++ rest))) ?_ ?_
  rotate_left
  · rintro r H' (⟨rfl,rfl,e⟩ | ⟨id,rest,rfl,rfl,rfl⟩)
    · exact .inl ⟨fun _ _=>rfl,by rw[e]; exact ho,rfl⟩
    · refine .inr ⟨id,2,aS (eA l l.length),rest,by simp[View.set],fun j hj=>?_,?_,rfl⟩
      · rw[set_set]
        simp only[View.set]
        rw[if_neg (fun e=>hj (by rw[e]; rfl))]
      · rw[set_set]
        exact .inr ⟨id,by rw[bB],by simp[View.set]⟩
  refine aC.of mixed iE ?_
  have hlen:cq u=some l.length:=by rw[ho.len,bB]
  simp (disch:=omega) only [↓wr,↓reduceIte,wq,ah,ag,aj,ab,ae,af,ai,isNil,Nat.reduceEqDiff,Nat.reduceAdd,Nat.reduceLT,Nat.reduceLeDiff,Int.reduceNeg,Int.reduceToNat,reduceCtorEq,fw,hlen]
  refine ax.dec (fun h2=>?_) (fun h2=>?_)
  · simp (disch:=omega) only [↓wr,↓reduceIte,wq,ah,ag,aj,ab,ae,af,ai,isNil,Nat.reduceEqDiff,Nat.reduceAdd,Nat.reduceLT,Nat.reduceLeDiff,Int.reduceNeg,Int.reduceToNat,reduceCtorEq]
    left
    try refine ⟨rfl,rfl,?_⟩
    match l,h2 with
    | [],_=>rfl
    | [x],_=>rfl
    | _ :: _ :: _,h2=>simp at h2; omega
  obtain ⟨id,hu,hid⟩:=ho.sl (by rw[bB]; omega)
  rw[bB] at hu
  subst hu
  simp (disch:=omega) only [↓wr,↓reduceIte,wq,ah,ag,aj,ab,ae,af,ai,isNil,Nat.reduceEqDiff,Nat.reduceAdd,Nat.reduceLT,Nat.reduceLeDiff,Int.reduceNeg,Int.reduceToNat,reduceCtorEq]
  refine bz.up (l.length - 1) (fun i T H'=>H=H'∧(∀ j,0 < j→j < i+1→l.getD j fR≠l.getD (j - 1) fR)∧T 0=.sl id 0 l.length 2∧T 3=gi ((i+1:Nat):Int)) ⟨rfl,fun j h1 h2=>by omega,rfl,rfl⟩ ?_
  rintro i k T _ hk ⟨rfl,hne,t0,t3⟩
  simp (disch:=omega) only [↓wr,↓reduceIte,wq,ah,ag,aj,ab,ae,af,ai,isNil,Nat.reduceEqDiff,Nat.reduceAdd,Nat.reduceLT,Nat.reduceLeDiff,Int.reduceNeg,Int.reduceToNat,reduceCtorEq,eU,t0,t3]
  refine ax.dec (fun hc=>?_) (fun hc=>?_)
  rotate_left
  · simp (disch:=omega) only [↓wr,↓reduceIte,wq,ah,ag,aj,ab,ae,af,ai,isNil,Nat.reduceEqDiff,Nat.reduceAdd,Nat.reduceLT,Nat.reduceLeDiff,Int.reduceNeg,Int.reduceToNat,reduceCtorEq,t0]
    left
    try refine ⟨rfl,rfl,?_⟩
    rw[wU l _ (Nat.le_refl _) (fun j h1 h2=>hne j h1 (by omega)),List.take_length]
  have hi1:i+1 < l.length:=by omega
  have e1:(((i+1:Nat):Int) - 1)=(i:Int):=by omega
  simp (disch:=omega) only [↓wr,↓reduceIte,wq,ah,ag,aj,ab,ae,af,ai,isNil,Nat.reduceEqDiff,Nat.reduceAdd,Nat.reduceLT,Nat.reduceLeDiff,Int.reduceNeg,Int.reduceToNat,reduceCtorEq,t0,t3,hid,qb hi1,qb (show i < l.length by omega),e1]
  refine ⟨by omega,by rw[bB]; omega,?_⟩
  refine ⟨by omega,by rw[bB]; omega,?_⟩
  generalize hx:l.getD (i+1) fR=x
  generalize hy:l.getD i fR=y
  refine gS (xs:=#[.int .i64 x.aH,.int .i64 x.dot]) (ys:=#[.int .i64 y.aH,.int .i64 y.dot]) Tryz.underlying33 (by kernel_rfl) (by kernel_rfl) ?_ ?_ (rh x y) (.inl ⟨rfl,rfl⟩) ?_
  · rfl
  · rfl
  rw[AB]
  simp (disch:=omega) only [↓wr,↓reduceIte,wq,ah,ag,aj,ab,ae,af,ai,isNil,Nat.reduceEqDiff,Nat.reduceAdd,Nat.reduceLT,Nat.reduceLeDiff,Int.reduceNeg,Int.reduceToNat,reduceCtorEq,t0,t3]
  refine ax.dec (fun heq=>?_) (fun heq=>?_)
  rotate_left
  · simp (disch:=omega) only [↓wr,↓reduceIte,wq,ah,ag,aj,ab,ae,af,ai,isNil,Nat.reduceEqDiff,Nat.reduceAdd,Nat.reduceLT,Nat.reduceLeDiff,Int.reduceNeg,Int.reduceToNat,reduceCtorEq,t0,t3]
    refine bq hk (by omega) ⟨rfl,fun j h1 h2=>?_,t0,by push_cast; rfl⟩
    rcases Nat.lt_or_ge j (i+1) with q | q
    · exact hne j h1 q
    · have:j=i+1:=by omega
      subst this
      rw[Nat.add_sub_cancel,hx,hy]; exact heq
  have hstart:eA l (i+1+1)=l.take (i+1):=by
    rw[eA,if_neg,wU l (i+1) (by omega) hne]
    rw[Nat.add_sub_cancel,hx,hy]
    simp[heq]
  simp (disch:=omega) only [↓wr,↓reduceIte,wq,ah,ag,aj,ab,ae,af,ai,isNil,Nat.reduceEqDiff,Nat.reduceAdd,Nat.reduceLT,Nat.reduceLeDiff,Int.reduceNeg,Int.reduceToNat,reduceCtorEq,t0,t3,wO (id:=id) (off:=0) (k:=l.length) (m:=i+1) (by omega)]
  refine bz.up (l.length - (i+1) - 1) (fun i2 T H'=>∃ (kk:Nat) (cur:List aL),H'=H.set id (.arr 2 (aS cur))∧cur.length=l.length∧i+1≤kk∧kk≤i+1+i2∧cur.take kk=eA l (i+1+(i2+1))∧(∀ j,kk≤j→cur.getD j fR=l.getD j fR) ∧
    T 0=.sl id 0 l.length 2∧T 3=gi kk∧T 4=.sl id (i+1) (l.length - (i+1)) 2∧T 5=gi ((i2+1:Nat):Int)) ⟨i+1,l,?_,rfl,Nat.le_refl _,by omega,by rw[hstart],fun _ _=>rfl,t0,t3,?_,rfl⟩ ?_
  · funext j; simp only[View.set]; split
    · rename_i e; rw[e,hid]
    · rfl
  · rfl
  clear t0 t3 hk
  rintro i2 k2 T2 _ hk2 ⟨kk,cur,rfl,hcl,k1,k3,hct,hcj,t0,t3,t4,t5⟩
  have hset:(H.set id (.arr 2 (aS cur))) id=.arr 2 (aS cur):=by simp[View.set]
  simp (disch:=omega) only [↓wr,↓reduceIte,wq,ah,ag,aj,ab,ae,af,ai,isNil,Nat.reduceEqDiff,Nat.reduceAdd,Nat.reduceLT,Nat.reduceLeDiff,Int.reduceNeg,Int.reduceToNat,reduceCtorEq,eS,t0,t3,t4,t5]
  refine ax.dec (fun hc2=>?_) (fun hc2=>?_)
  · have hp:i+1+(i2+1) < l.length:=by omega
    have e2:(((i2+1:Nat):Int) - 1)=(i2:Int):=by omega
    simp (disch:=omega) only [↓wr,↓reduceIte,wq,ah,ag,aj,ab,ae,af,ai,isNil,Nat.reduceEqDiff,Nat.reduceAdd,Nat.reduceLT,Nat.reduceLeDiff,Int.reduceNeg,Int.reduceToNat,reduceCtorEq,t0,t3,t4,t5,hset,e2,qb (l:=cur) (show i+1+(i2+1) < cur.length by omega),qb (l:=cur) (show i+1+i2 < cur.length by omega)]
    refine ⟨by omega,by rw[bB]; omega,?_⟩
    refine ⟨by omega,by rw[bB]; omega,?_⟩
    rw[hcj _ (show kk≤i+1+(i2+1) by omega),hcj _ (show kk≤i+1+i2 by omega)]
    generalize hx2:l.getD (i+1+(i2+1)) fR=x2
    generalize hy2:l.getD (i+1+i2) fR=y2
    refine gS (xs:=#[.int .i64 x2.aH,.int .i64 x2.dot]) (ys:=#[.int .i64 y2.aH,.int .i64 y2.dot]) Tryz.underlying33 (by kernel_rfl) (by kernel_rfl) ?_ ?_ (rh x2 y2) (.inr ⟨rfl,rfl⟩) ?_
    · rfl
    · rfl
    rw[AB]
    simp (disch:=omega) only [↓wr,↓reduceIte,wq,ah,ag,aj,ab,ae,af,ai,isNil,Nat.reduceEqDiff,Nat.reduceAdd,Nat.reduceLT,Nat.reduceLeDiff,Int.reduceNeg,Int.reduceToNat,reduceCtorEq,t0,t3,t4,t5]
    have hcu:eA l (i+1+(i2+1+1))=if x2=y2 then eA l (i+1+(i2+1)) else eA l (i+1+(i2+1)) ++ [x2]:=by
      rw[show i+1+(i2+1+1)=(i+1+(i2+1))+1 by omega,eA,hx2,show i+1+(i2+1) - 1=i+1+i2 by omega,hy2]
      by_cases e:x2=y2
      · rw[if_pos e,if_neg (by simp[e])]
      · rw[if_neg e,if_pos (.inr e)]
    refine ax.dec (fun he=>?_) (fun he=>?_)
    · simp (disch:=omega) only [↓wr,↓reduceIte,wq,ah,ag,aj,ab,ae,af,ai,isNil,Nat.reduceEqDiff,Nat.reduceAdd,Nat.reduceLT,Nat.reduceLeDiff,Int.reduceNeg,Int.reduceToNat,reduceCtorEq,t0,t3,t4,t5]
      rw[if_pos he] at hcu
      exact bq hk2 (by omega) ⟨kk,cur,rfl,hcl,k1,by omega,by rw[hcu]; exact hct,hcj,t0,t3,t4,by push_cast; rfl⟩
    · simp (disch:=omega) only [↓wr,↓reduceIte,wq,ah,ag,aj,ab,ae,af,ai,isNil,Nat.reduceEqDiff,Nat.reduceAdd,Nat.reduceLT,Nat.reduceLeDiff,Int.reduceNeg,Int.reduceToNat,reduceCtorEq,t0,t3,t4,t5,hset,qb (l:=cur) (show i+1+(i2+1) < cur.length by omega)]
      rw[hcj _ (show kk≤i+1+(i2+1) by omega),hx2]
      have hkl:(aS cur).getD kk []=[gi (cur.getD kk fR).aH,gi (cur.getD kk fR).dot]:=qb (by omega)
      have hse:(aS cur).set kk [gi x2.aH,gi x2.dot]=aS (cur.set kk x2):=by simp[aS,List.map_set,bQ]
      simp (disch:=omega) only [↓wr,↓reduceIte,wq,ah,ag,aj,ab,ae,af,ai,isNil,Nat.reduceEqDiff,Nat.reduceAdd,Nat.reduceLT,Nat.reduceLeDiff,Int.reduceNeg,Int.reduceToNat,reduceCtorEq,t0,t3,t4,t5,hset,hkl,hse]
      rw[set_set]
      rw[if_neg he] at hcu
      refine ⟨by omega,by rw[bB]; omega,?_⟩
      refine ⟨by omega,by rw[bB]; omega,?_⟩
      refine bq hk2 (by omega) ⟨kk+1,cur.set kk x2,rfl,by simp[hcl],by omega,by omega,?_,fun j hj=>?_,t0,by push_cast; rfl,t4,by push_cast; rfl⟩
      · rw[hcu,← hct,List.take_add_one,List.take_set_of_le (Nat.le_refl _),List.getElem?_set_self (by omega)]; rfl
      · rw[I0 _ _ _ _ _ (by omega),if_neg (by omega)]
        exact hcj j (by omega)
  · have hi2:i+1+(i2+1)=l.length:=by omega
    rw[hi2] at hct
    have hz:l.length - kk≠0:=by omega
    have hkl:kk=(eA l l.length).length:=by rw[← hct,List.length_take]; omega
    simp (disch:=omega) only [↓wr,↓reduceIte,wq,ah,ag,aj,ab,ae,af,ai,isNil,Nat.reduceEqDiff,Nat.reduceAdd,Nat.reduceLT,Nat.reduceLeDiff,Int.reduceNeg,Int.reduceToNat,reduceCtorEq,t0,t3,wO (id:=id) (off:=0) (k:=l.length) (m:=kk) (by omega)]
    refine LU (id:=id) (off:=kk) (len:=l.length - kk) (sz:=2) (bytes:=16) (s:=2) (z:=[gi 0,gi 0]) (es:=aS cur) (by kernel_rfl) (by simp (disch:=omega) only [↓wr,↓reduceIte,wq,ah,ag,aj,ab,ae,af,ai,isNil,Nat.reduceEqDiff,Nat.reduceAdd,Nat.reduceLT,Nat.reduceLeDiff,Int.reduceNeg,Int.reduceToNat,reduceCtorEq]; try rw[Nat.zero_add]) hset (by rw[bB]; omega) hz ?_
    rw[set_set]
    have hsr:fo (aS cur) kk (List.replicate (l.length - kk) [gi 0,gi 0])=aS (eA l l.length) ++ List.replicate (l.length - kk) [gi 0,gi 0]:=by
      have h1:=w8 (List.replicate (l.length - kk) [gi 0,gi 0]) (aS (cur.take kk)) (aS (cur.drop kk)) (by simp[aS]; omega)
      rw[show aS (cur.take kk) ++ aS (cur.drop kk)=aS cur by rw[aS,aS,← List.map_append,List.take_append_drop]; rfl] at h1
      rw[show (aS (cur.take kk)).length=kk by rw[bB,List.length_take]; omega] at h1
      rw[h1,hct,List.drop_eq_nil_of_le (by simp[aS]; omega),List.append_nil]
    rw[hsr]
    simp (disch:=omega) only [↓wr,↓reduceIte,wq,ah,ag,aj,ab,ae,af,ai,isNil,Nat.reduceEqDiff,Nat.reduceAdd,Nat.reduceLT,Nat.reduceLeDiff,Int.reduceNeg,Int.reduceToNat,reduceCtorEq,t0,t3,D1 (id:=id) (off:=0) (k:=l.length) (m:=kk) (by omega)]
    right
    exact ⟨id,List.replicate (l.length - kk) [gi 0,gi 0],rfl,by rw[hkl],rfl⟩
set_option maxHeartbeats 4000000 in
theorem HK (l:List aL) (hn:l.length≤100000) (u:V) (H:View) (ho:aQ H u 2 (aS l)):aC Tryz.prog 64 [u] H fun r H'=>(∀ id,owner u≠some id→H' id=H id)∧aQ H' r 2 (aS (xR l))∧owner r=owner u:=by
  refine aC.of mixed BW ?_
  simp (disch:=omega) only [↓wr,↓reduceIte,wq,ah,ag,aj,ab,ae,af,ai,isNil,Nat.reduceEqDiff,Nat.reduceAdd,Nat.reduceLT,Nat.reduceLeDiff,Int.reduceNeg,Int.reduceToNat,reduceCtorEq,yg]
  refine aG.jR ((MW l (by omega) u H ho).mono ?_)
  rintro r H2 ⟨rfl,k2,o2⟩
  simp (disch:=omega) only [↓wr,↓reduceIte,wq,ah,ag,aj,ab,ae,af,ai,isNil,Nat.reduceEqDiff,Nat.reduceAdd,Nat.reduceLT,Nat.reduceLeDiff,Int.reduceNeg,Int.reduceToNat,reduceCtorEq]
  refine aG.jR ((HY (dM l) (by rw[gM]; omega) u H2 o2).mono ?_)
  rintro r H3 ⟨k3,o3,e3⟩
  simp (disch:=omega) only [↓wr,↓reduceIte,wq,ah,ag,aj,ab,ae,af,ai,isNil,Nat.reduceEqDiff,Nat.reduceAdd,Nat.reduceLT,Nat.reduceLeDiff,Int.reduceNeg,Int.reduceToNat,reduceCtorEq]
  rw[gM] at o3
  exact ⟨fun id hid=>by rw[k3 id hid,k2 id hid],o3,e3⟩
end Gv
