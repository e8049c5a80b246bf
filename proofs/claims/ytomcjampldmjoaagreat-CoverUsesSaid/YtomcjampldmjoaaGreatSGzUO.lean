/-
  Part 15 of the proof: what the machine does and what the functions answer.
  Conditions: those that each lemma names.
-/
import Derived.Test.YtomcjampldmjoaaGreatSGzUN
set_option linter.unusedSimpArgs false
set_option linter.unusedVariables false
set_option linter.unusedSimpArgs false
set_option maxRecDepth 100000
namespace Gv
open Go Go.Proofs
def gB:SC :=
  .seq (ak [aS 9 .lss 8 7]) <|
  .seq (.cond (.tmp 9) (.skip) (.exit 0)) <|
  .seq (.block 1 (.seq (ak [aa 10 8,aa 5 10]) <|
  .seq (ak [aa 11 1,aa 12 0,aa 13 5,bo 14 1 12 13,aq 15 14,aS 16 .eql 11 15]) <|
  .cond (.tmp 16) (.seq (ak [aa 17 5,aa 4 17]) <|
  .ret) (.skip))) <|
  ak [aA 18 .add 8 1,aa 8 18]
def hX:SF:=⟨.seq (ak [aI 4 0]) <|
  .seq (.seq (ak [aa 6 0,aQ 7 6,aI 8 0]) <|
  .block 0 (.loop gB)) <|
  .seq (ak [aI 4 (-1)]) <|
  .ret,
  [.tmp 4],19⟩
theorem l5:aV Tryz.prog 114 []=some hX:=by kernel_rfl
def gf:SF:=⟨.seq (ak [aW 4 false]) <|
  .seq (ak [aa 5 0,aa 6 1,aK 7 114 [5,6],aA 8 .geq 7 0,aa 4 8]) <|
  .ret,
  [.tmp 4],9⟩
theorem ks:aV Tryz.prog 66 []=some gf:=by kernel_rfl
def pJ:SF:=⟨.seq (ak [aW 3 false]) <|
  .seq (ak [aa 4 0,aq 5 1,aK 6 66 [4,5],aa 3 6]) <|
  .ret,
  [.tmp 3],7⟩
theorem uk:aV Tryz.prog 65 []=some pJ:=by kernel_rfl
def eJ:SC :=
  .seq (ak [aS 9 .lss 8 7]) <|
  .seq (.cond (.tmp 9) (.skip) (.exit 0)) <|
  .seq (.block 1 (.seq (ak [aa 10 8,aa 5 10]) <|
  .seq (ak [aa 11 1,aa 12 0,aa 13 5,bo 14 1 12 13,aq 15 14,((some 16),.call (.tmp 11) [(.tmp 15)])]) <|
  .cond (.tmp 16) (.seq (ak [aa 17 5,aa 4 17]) <|
  .ret) (.skip))) <|
  ak [aA 18 .add 8 1,aa 8 18]
def eY:SF:=⟨.seq (ak [aI 4 0]) <|
  .seq (.seq (ak [aa 6 0,aQ 7 6,aI 8 0]) <|
  .block 0 (.loop eJ)) <|
  .seq (ak [aI 4 (-1)]) <|
  .ret,
  [.tmp 4],19⟩
theorem iy:aV Tryz.prog 113 []=some eY:=by kernel_rfl
def ew:SF:=⟨.seq (ak [aW 4 false]) <|
  .seq (ak [aa 5 0,aa 6 1,aK 7 113 [5,6],aA 8 .geq 7 0,aa 4 8]) <|
  .ret,
  [.tmp 4],9⟩
theorem gX:aV Tryz.prog 64 []=some ew:=by kernel_rfl
def pF:SC :=
  .seq (ak [aS 15 .lss 14 13]) <|
  .seq (.cond (.tmp 15) (.skip) (.exit 0)) <|
  .seq (.block 1 (.seq (ak [aa 16 14,((some 5),.op (.alloc [(.val (.int .i64 0))])),(none,.op (.store 1 (.tmp 5) (.tmp 16)))]) <|
  .seq (.seq (ak [aa 17 4,((some 18),.op (.sJ 65 [] [(.tmp 5)])),aK 19 64 [17,18]]) <|
  .cond (.tmp 19) (.exit 1) (.skip)) <|
  .seq (ak [aZ 21 4 1,aq 22 5,aK 23 61 [21,22],aa 20 23,b6 24 0 20,b6 25 1 20,aa 6 24,aa 7 25]) <|
  .seq (.seq (ak [aa 26 7,aA 27 .neq 26 0]) <|
  .cond (.tmp 27) (.seq (ak [aa 28 7,((some 2),.op (.bd (.val (.emp 1)))),aa 3 28]) <|
  .ret) (.skip)) <|
  ak [aa 29 4,aa 30 6,((some 31),.op (.bE 1 1 [(.emp 1)] [(0,(.tmp 30))])),((some 32),.op (.app 1 24 (.tmp 29) (.tmp 31))),aa 4 32])) <|
  ak [aA 33 .add 14 1,aa 14 33]
def sP:SF:=⟨.seq (ak [c8 1 0,((some 2),.op (.bd (.val (.emp 1)))),aI 3 0]) <|
  .seq (.seq (ak [aZ 8 4 1,aK 9 60 [8],cn 10 9]) <|
  .cond (.tmp 10) (.seq (ak [((some 2),.op (.bd (.val (.emp 1)))),aI 3 1]) <|
  .ret) (.skip)) <|
  .seq (ak [((some 4),.op (.bd (.val (.emp 1))))]) <|
  .seq (.seq (ak [ao 11 2 1,aq 12 11,aQ 13 12,aI 14 0]) <|
  .block 0 (.loop pF)) <|
  .seq (ak [aa 34 4,aa 2 34,aI 3 0]) <|
  .ret,
  [.tmp 2,.tmp 3],35⟩
theorem wk:aV Tryz.prog 31 [1]=some sP:=by kernel_rfl
theorem DR (l:List Int) (x:Int):∀ v∈[encI l,gi x],Tree v:=by
  intro v hv; simp at hv
  rcases hv with rfl | rfl
  · exact du l
  · exact .val _
theorem Im (l:List Int) (hl:aH l) (x:Int):aE Tryz.prog 114 [encI l,gi x] (gi (cO (fun y=>x == y) l 0)):=by
  refine aE.val (DR l x) fun H=>?_
  refine aB.of mixed l5 ?_
  unfold aH at hl
  simp (disch:=omega) only [↓wr,↓reduceIte,wq,ah,ag,aj,ab,ae,af,ai,isNil,Nat.reduceEqDiff,Nat.reduceAdd,Nat.reduceLT,Nat.reduceLeDiff,Int.reduceNeg,Int.reduceToNat,reduceCtorEq,hX,encI]
  refine bw.up l.length (fun i T _=>cO (fun y=>x == y) (l.drop i) i=cO (fun y=>x == y) l 0∧T 0=encI l∧T 1=gi x∧T 7=gi l.length∧T 8=gi i) ⟨rfl,rfl,rfl,rfl,rfl⟩ ?_
  rintro i k T H hk ⟨hi,h0,h1,h7,h8⟩
  simp (disch:=omega) only [↓wr,↓reduceIte,wq,ah,ag,aj,ab,ae,af,ai,isNil,Nat.reduceEqDiff,Nat.reduceAdd,Nat.reduceLT,Nat.reduceLeDiff,Int.reduceNeg,Int.reduceToNat,reduceCtorEq,gB,h0,h1,h7,h8,encI]
  refine an.dec (fun hc=>?_) (fun hc=>?_)
  · have hg:l[i]?=some (l[i]'(by omega)):=List.getElem?_eq_getElem (by omega)
    rw[dC (show i < l.length by omega)] at hi
    generalize l[i]'(by omega)=y at hg hi
    simp (disch:=omega) only [↓wr,↓reduceIte,wq,ah,ag,aj,ab,ae,af,ai,isNil,Nat.reduceEqDiff,Nat.reduceAdd,Nat.reduceLT,Nat.reduceLeDiff,Int.reduceNeg,Int.reduceToNat,reduceCtorEq,h0,h1,h7,h8,encI,List.getElem?_map,hg]
    simp only[cO] at hi
    refine an.eq (fun e=>?_) (fun e=>?_)
    · simp (disch:=omega) only [↓wr,↓reduceIte,wq,ah,ag,aj,ab,ae,af,ai,isNil,Nat.reduceEqDiff,Nat.reduceAdd,Nat.reduceLT,Nat.reduceLeDiff,Int.reduceNeg,Int.reduceToNat,reduceCtorEq]
      rw[← hi,if_pos (by simpa using e)]
    · simp (disch:=omega) only [↓wr,↓reduceIte,wq,ah,ag,aj,ab,ae,af,ai,isNil,Nat.reduceEqDiff,Nat.reduceAdd,Nat.reduceLT,Nat.reduceLeDiff,Int.reduceNeg,Int.reduceToNat,reduceCtorEq,h0,h1,h7,h8]
      refine aT hk (by omega) ⟨?_,h0,h1,h7,rfl⟩
      rw[if_neg (by simpa using e)] at hi
      push_cast; exact hi
  · rw[List.drop_eq_nil_of_le (by omega)] at hi
    simp (disch:=omega) only [↓wr,↓reduceIte,wq,ah,ag,aj,ab,ae,af,ai,isNil,Nat.reduceEqDiff,Nat.reduceAdd,Nat.reduceLT,Nat.reduceLeDiff,Int.reduceNeg,Int.reduceToNat,reduceCtorEq,h0,h1,h7,h8]
    rw[← hi]; rfl
theorem K0 (l:List Int) (x:Int):(l.any fun y=>x == y)=decide (x∈l):=by
  rw[Bool.eq_iff_iff,List.any_eq_true,decide_eq_true_eq]
  constructor
  · rintro ⟨y,hy,e⟩
    rw[show x=y by simpa using e]; exact hy
  · exact fun h=>⟨x,h,by simp⟩
theorem Ce (l:List Int) (hl:aH l) (x:Int):aE Tryz.prog 66 [encI l,gi x] (gb (decide (x∈l))):=by
  refine aE.val (DR l x) fun H=>?_
  refine aB.of mixed ks ?_
  simp (disch:=omega) only [↓wr,↓reduceIte,wq,ah,ag,aj,ab,ae,af,ai,isNil,Nat.reduceEqDiff,Nat.reduceAdd,Nat.reduceLT,Nat.reduceLeDiff,Int.reduceNeg,Int.reduceToNat,reduceCtorEq,gf]
  refine aF.pure (Im l hl x) (by kernel_rfl) ?_
  simp (disch:=omega) only [↓wr,↓reduceIte,wq,ah,ag,aj,ab,ae,af,ai,isNil,Nat.reduceEqDiff,Nat.reduceAdd,Nat.reduceLT,Nat.reduceLeDiff,Int.reduceNeg,Int.reduceToNat,reduceCtorEq]
  rw[← K0,← mo _ l 0 (by omega)]
theorem G8 (w:List Int) (hw:aH w) (b:Nat) (i:Int) (H:View) (hb:H b=.arr 1 [[gi i]]):aB Tryz.prog 65 [encI w,.ptr b 0 0] H fun r H'=>r=gb (decide (i∈w))∧H'=H:=by
  refine aB.of mixed uk ?_
  simp (disch:=omega) only [↓wr,↓reduceIte,wq,ah,ag,aj,ab,ae,af,ai,isNil,Nat.reduceEqDiff,Nat.reduceAdd,Nat.reduceLT,Nat.reduceLeDiff,Int.reduceNeg,Int.reduceToNat,reduceCtorEq,pJ,hb]
  refine aF.pure (Ce w hw i) (by kernel_rfl) ?_
  simp (disch:=omega) only [↓wr,↓reduceIte,wq,ah,ag,aj,ab,ae,af,ai,isNil,Nat.reduceEqDiff,Nat.reduceAdd,Nat.reduceLT,Nat.reduceLeDiff,Int.reduceNeg,Int.reduceToNat,reduceCtorEq]
set_option maxHeartbeats 4000000 in
theorem F1 (l:List (List Int)) (hl:l.length≤100000) (hs:∀ w∈l,aH w) (u:V) (b:Nat) (x:Int) (H:View) (hb:H b=.arr 1 [[gi x]]) (ho:aO H u 1 (Cu l)) :
    aB Tryz.prog 113 [u,.fn 65 [] [.ptr b 0 0]] H fun r H'=>r=gi (cO (fun w=>decide (x∈w)) l 0)∧H'=H:=by
  refine aB.of mixed iy ?_
  simp (disch:=omega) only [↓wr,↓reduceIte,wq,ah,ag,aj,ab,ae,af,ai,isNil,Nat.reduceEqDiff,Nat.reduceAdd,Nat.reduceLT,Nat.reduceLeDiff,Int.reduceNeg,Int.reduceToNat,reduceCtorEq,eY,ho.len,List.length_map]
  refine bw.up l.length (fun i T H'=>H=H'∧cO (fun w=>decide (x∈w)) (l.drop i) i=cO (fun w=>decide (x∈w)) l 0∧T 0=u∧T 1=.fn 65 [] [.ptr b 0 0]∧T 7=gi l.length∧T 8=gi i) ⟨rfl,rfl,rfl,rfl,rfl,rfl⟩ ?_
  rintro i k T _ hk ⟨rfl,hi,h0,h1,h7,h8⟩
  simp (disch:=omega) only [↓wr,↓reduceIte,wq,ah,ag,aj,ab,ae,af,ai,isNil,Nat.reduceEqDiff,Nat.reduceAdd,Nat.reduceLT,Nat.reduceLeDiff,Int.reduceNeg,Int.reduceToNat,reduceCtorEq,eJ,h0,h1,h7,h8]
  refine an.dec (fun hc=>?_) (fun hc=>?_)
  · obtain ⟨m,hsv,hm⟩:=ho.sl (by simp; omega)
    have hg:l[i]?=some (l[i]'(by omega)):=List.getElem?_eq_getElem (by omega)
    have hmem:l[i]'(by omega)∈l:=List.getElem_mem _
    rw[dC (show i < l.length by omega)] at hi
    generalize l[i]'(by omega)=w at hg hi hmem
    have hgw:(Cu l).getD i []=[encI w]:=by simp[List.getD_eq_getElem?_getD,hg]
    simp (disch:=omega) only [↓wr,↓reduceIte,wq,ah,ag,aj,ab,ae,af,ai,isNil,Nat.reduceEqDiff,Nat.reduceAdd,Nat.reduceLT,Nat.reduceLeDiff,Int.reduceNeg,Int.reduceToNat,reduceCtorEq,h0,h1,h7,h8,hsv,hm,hgw]
    refine ⟨by omega,by omega,?_⟩
    refine aF.gH ((G8 w (hs w hmem) b x H hb).mono ?_)
    rintro r H2 ⟨rfl,rfl⟩
    simp only[cO] at hi
    simp (disch:=omega) only [↓wr,↓reduceIte,wq,ah,ag,aj,ab,ae,af,ai,isNil,Nat.reduceEqDiff,Nat.reduceAdd,Nat.reduceLT,Nat.reduceLeDiff,Int.reduceNeg,Int.reduceToNat,reduceCtorEq]
    refine an.dec (fun e=>?_) (fun e=>?_)
    · simp (disch:=omega) only [↓wr,↓reduceIte,wq,ah,ag,aj,ab,ae,af,ai,isNil,Nat.reduceEqDiff,Nat.reduceAdd,Nat.reduceLT,Nat.reduceLeDiff,Int.reduceNeg,Int.reduceToNat,reduceCtorEq,h8]
      rw[← hi,if_pos (by simpa using e)]
    · simp (disch:=omega) only [↓wr,↓reduceIte,wq,ah,ag,aj,ab,ae,af,ai,isNil,Nat.reduceEqDiff,Nat.reduceAdd,Nat.reduceLT,Nat.reduceLeDiff,Int.reduceNeg,Int.reduceToNat,reduceCtorEq,h0,h1,h7,h8]
      refine aT hk (by omega) ⟨rfl,?_,h0.trans rfl,h1,h7,rfl⟩
      rw[if_neg (by simpa using e)] at hi
      push_cast; exact hi
  · rw[List.drop_eq_nil_of_le (by omega)] at hi
    simp (disch:=omega) only [↓wr,↓reduceIte,wq,ah,ag,aj,ab,ae,af,ai,isNil,Nat.reduceEqDiff,Nat.reduceAdd,Nat.reduceLT,Nat.reduceLeDiff,Int.reduceNeg,Int.reduceToNat,reduceCtorEq,h0,h1,h7,h8]
    rw[← hi]; rfl
theorem AV (l:List (List Int)) (hl:l.length≤100000) (hs:∀ w∈l,aH w) (u:V) (b:Nat) (x:Int) (H:View) (hb:H b=.arr 1 [[gi x]]) (ho:aO H u 1 (Cu l)) :
    aB Tryz.prog 64 [u,.fn 65 [] [.ptr b 0 0]] H fun r H'=>r=gb (l.any fun w=>decide (x∈w))∧H'=H:=by
  refine aB.of mixed gX ?_
  simp (disch:=omega) only [↓wr,↓reduceIte,wq,ah,ag,aj,ab,ae,af,ai,isNil,Nat.reduceEqDiff,Nat.reduceAdd,Nat.reduceLT,Nat.reduceLeDiff,Int.reduceNeg,Int.reduceToNat,reduceCtorEq,ew]
  refine aF.gH ((F1 l hl hs u b x H hb ho).mono ?_)
  rintro r H2 ⟨rfl,rfl⟩
  simp (disch:=omega) only [↓wr,↓reduceIte,wq,ah,ag,aj,ab,ae,af,ai,isNil,Nat.reduceEqDiff,Nat.reduceAdd,Nat.reduceLT,Nat.reduceLeDiff,Int.reduceNeg,Int.reduceToNat,reduceCtorEq]
  rw[← mo _ l 0 (by omega)]
set_option maxHeartbeats 8000000 in
theorem Av (g:al) (hg:g.Ok) (hsm:g.Small):aE Tryz.prog 31 [.agg (av g)] (A3 (ng g)):=by
  refine aE.of (gn g) ?_
  have hc:=HW g hg hsm
  have hrl:=hg.rules
  unfold aH at hrl
  refine aB.of mixed wk ?_
  simp only[av,encS] at hc
  simp (disch:=omega) only [↓wr,↓reduceIte,wq,ah,ag,aj,ab,ae,af,ai,isNil,Nat.reduceEqDiff,Nat.reduceAdd,Nat.reduceLT,Nat.reduceLeDiff,Int.reduceNeg,Int.reduceToNat,reduceCtorEq,sP,av,encS]
  refine aF.pure hc (by kernel_rfl) ?_
  simp (disch:=omega) only [↓wr,↓reduceIte,wq,ah,ag,aj,ab,ae,af,ai,isNil,Nat.reduceEqDiff,Nat.reduceAdd,Nat.reduceLT,Nat.reduceLeDiff,Int.reduceNeg,Int.reduceToNat,reduceCtorEq]
  refine an.split (fun hr=>?_) (fun hr=>?_)
  rotate_left
  · simp (disch:=omega) only [↓wr,↓reduceIte,wq,ah,ag,aj,ab,ae,af,ai,isNil,Nat.reduceEqDiff,Nat.reduceAdd,Nat.reduceLT,Nat.reduceLeDiff,Int.reduceNeg,Int.reduceToNat,reduceCtorEq]
    intro h' _
    rw[ng,if_neg (by rw[hr]; simp)]
    exact wZ (x:=([],1)) .nil
  have hri:=(ja hr).1
  have hf:=bc hri
  have e0:ng g=bG g g.rules.length:=by rw[ng,if_pos hr]
  have h40:=hf.rules
  simp (disch:=omega) only [↓wr,↓reduceIte,wq,ah,ag,aj,ab,ae,af,ai,isNil,Nat.reduceEqDiff,Nat.reduceAdd,Nat.reduceLT,Nat.reduceLeDiff,Int.reduceNeg,Int.reduceToNat,reduceCtorEq,av,encS]
  refine bw.up g.rules.length (fun i T H'=>∃ u,(bG g i).2=0∧aO H' u 1 (Cu (bG g i).1)∧T 1=.aR (av g) 0∧T 4=u∧T 13=gi g.rules.length∧T 14=gi i) ?_ ?_
  · exact ⟨_,rfl,.nil,rfl,rfl,rfl,rfl⟩
  rintro i k T H' hk ⟨u,hz,ho,t1,t4,t13,t14⟩
  simp (disch:=omega) only [↓wr,↓reduceIte,wq,ah,ag,aj,ab,ae,af,ai,isNil,Nat.reduceEqDiff,Nat.reduceAdd,Nat.reduceLT,Nat.reduceLeDiff,Int.reduceNeg,Int.reduceToNat,reduceCtorEq,pF,t1,t4,t13,t14,av,encS]
  refine an.dec (fun hd=>?_) (fun hd=>?_)
  · obtain ⟨a1,a2,a3,a4⟩:=Ae hr i (by omega)
    have hw:∀ t∈(bG g i).1,t.length≤300:=fun t ht=>by obtain ⟨_,_,h,_⟩:=a2 t ht; exact h
    simp (disch:=omega) only [↓wr,↓reduceIte,wq,ah,ag,aj,ab,ae,af,ai,isNil,Nat.reduceEqDiff,Nat.reduceAdd,Nat.reduceLT,Nat.reduceLeDiff,Int.reduceNeg,Int.reduceToNat,reduceCtorEq,t1,t4,t13,t14,av,encS]
    intro b hb
    have ho':=ho.fresh hb (o:=.arr 1 [[gi i]])
    have hbb:(H'.set b (.arr 1 [[gi i]])) b=.arr 1 [[gi i]]:=by simp[View.set]
    refine aF.gH (P:=Tryz.prog) ((AV (bG g i).1 (by omega) (fun w h=>by unfold aH; have:=hw w h; omega) u b i _ (by simp[View.set]) (by rw[set_set]; exact ho')).mono ?_)
    rintro r H2 ⟨rfl,rfl⟩
    rw[set_set]
    simp (disch:=omega) only [↓wr,↓reduceIte,wq,ah,ag,aj,ab,ae,af,ai,isNil,Nat.reduceEqDiff,Nat.reduceAdd,Nat.reduceLT,Nat.reduceLeDiff,Int.reduceNeg,Int.reduceToNat,reduceCtorEq,t1,t4,t13,t14]
    refine an.split (fun hany=>?_) (fun hany=>?_)
    · simp (disch:=omega) only [↓wr,↓reduceIte,wq,ah,ag,aj,ab,ae,af,ai,isNil,Nat.reduceEqDiff,Nat.reduceAdd,Nat.reduceLT,Nat.reduceLeDiff,Int.reduceNeg,Int.reduceToNat,reduceCtorEq,t1,t4,t13,t14]
      have en:bG g (i+1)=bG g i:=by rw[bG,if_neg (by rw[hz]; simp),if_pos hany]
      exact aT hk (by omega) ⟨u,by rw[en]; exact hz,by rw[en]; exact ho',t1,t4,t13,rfl⟩
    · have p2:=vP g hg hsm hr i (by omega)
      simp only[av,encS,mh] at p2
      generalize H'.set b (.arr 1 [[gi i]])=H5 at ho' hbb
      simp (disch:=omega) only [↓wr,↓reduceIte,wq,ah,ag,aj,ab,ae,af,ai,isNil,Nat.reduceEqDiff,Nat.reduceAdd,Nat.reduceLT,Nat.reduceLeDiff,Int.reduceNeg,Int.reduceToNat,reduceCtorEq,t1,t4,t13,t14,av,encS,hbb]
      refine aF.pure p2 (by kernel_rfl) ?_
      simp (disch:=omega) only [↓wr,↓reduceIte,wq,ah,ag,aj,ab,ae,af,ai,isNil,Nat.reduceEqDiff,Nat.reduceAdd,Nat.reduceLT,Nat.reduceLeDiff,Int.reduceNeg,Int.reduceToNat,reduceCtorEq,t1,t4,t13,t14]
      refine an.ne (fun hne=>?_) (fun hne=>?_)
      · simp (disch:=omega) only [↓wr,↓reduceIte,wq,ah,ag,aj,ab,ae,af,ai,isNil,Nat.reduceEqDiff,Nat.reduceAdd,Nat.reduceLT,Nat.reduceLeDiff,Int.reduceNeg,Int.reduceToNat,reduceCtorEq,t1,t4,t13,t14]
        have en:bG g (i+1)=([],(dz g i).2):=by rw[bG,if_neg (by rw[hz]; simp),if_neg (by rw[hany]; simp),if_neg hne]
        intro h' _
        rw[e0,Fy (i:=i+1) (by rw[en]; exact hne) (by omega),en]
        exact wZ (x:=([],(dz g i).2)) .nil
      · have en:bG g (i+1)=((bG g i).1 ++ [(dz g i).1],0):=by rw[bG,if_neg (by rw[hz]; simp),if_neg (by rw[hany]; simp),if_pos hne]
        simp (disch:=omega) only [↓wr,↓reduceIte,wq,ah,ag,aj,ab,ae,af,ai,isNil,Nat.reduceEqDiff,Nat.reduceAdd,Nat.reduceLT,Nat.reduceLeDiff,Int.reduceNeg,Int.reduceToNat,reduceCtorEq,t1,t4,t13,t14,encI]
        intro q hq
        simp (disch:=omega) only [↓wr,↓reduceIte,wq,ah,ag,aj,ab,ae,af,ai,isNil,Nat.reduceEqDiff,Nat.reduceAdd,Nat.reduceLT,Nat.reduceLeDiff,Int.reduceNeg,Int.reduceToNat,reduceCtorEq,t1,t4,t13,t14,dg]
        refine pk (ho'.fresh hq) (by simp) (Mv _) (by unfold aL; simp; omega) (by unfold aL; simp; omega) ?_
        intro u2 H2 o2 _
        simp (disch:=omega) only [↓wr,↓reduceIte,wq,ah,ag,aj,ab,ae,af,ai,isNil,Nat.reduceEqDiff,Nat.reduceAdd,Nat.reduceLT,Nat.reduceLeDiff,Int.reduceNeg,Int.reduceToNat,reduceCtorEq,t1,t4,t13,t14]
        exact aT hk (by omega) ⟨u2,by rw[en],by rw[en,Cu,List.map_append]; exact o2,t1,rfl,t13,rfl⟩
  · simp (disch:=omega) only [↓wr,↓reduceIte,wq,ah,ag,aj,ab,ae,af,ai,isNil,Nat.reduceEqDiff,Nat.reduceAdd,Nat.reduceLT,Nat.reduceLeDiff,Int.reduceNeg,Int.reduceToNat,reduceCtorEq,t1,t4,t13,t14]
    rintro h' rfl
    rw[e0,show g.rules.length=i by omega]
    have:=wZ (x:=bG g i) ho
    rwa [hz] at this
end Gv
set_option linter.unusedSimpArgs false
set_option maxRecDepth 100000
namespace Gv
open Go Go.Proofs
def kc:SC :=
  .seq (.seq (ak [aa 11 5,aa 12 0,aQ 13 12,aS 14 .lss 11 13]) <|
  .cond (.tmp 14) (.skip) (.exit 0)) <|
  .seq (.block 1 (.seq (ak [aa 17 0,aa 18 5,bo 19 1 17 18,aq 20 19,aa 21 1,aa 22 5,bo 23 1 21 22,aq 24 23,aK 25 17 [20,24],cn 26 25]) <|
  .cond (.tmp 26) (.seq (ak [aW 4 false]) <|
  .ret) (.skip))) <|
  ak [aa 15 5,aA 16 .add 15 1,aa 5 16]
def lF:SF:=⟨.seq (ak [aW 4 false]) <|
  .seq (.seq (ak [aa 6 0,aQ 7 6,aa 8 1,aQ 9 8,aS 10 .neq 7 9]) <|
  .cond (.tmp 10) (.seq (ak [aW 4 false]) <|
  .ret) (.skip)) <|
  .seq (.seq (ak [aI 5 0]) <|
  .block 0 (.loop kc)) <|
  .seq (ak [aW 4 true]) <|
  .ret,
  [.tmp 4],27⟩
theorem qq:aV Tryz.prog 33 []=some lF:=by kernel_rfl
theorem Kf (a b:List (List Int)) (ha:aH a) (hs:∀ w∈a,aH w):aE Tryz.prog 33 [bQ a,bQ b] (gb (a == b)):=by
  refine aE.val (by intro v hv; simp at hv; rcases hv with rfl | rfl <;> exact x6 _) fun H=>?_
  refine aB.of mixed qq ?_
  unfold aH at ha
  simp (disch:=omega) only [↓wr,↓reduceIte,wq,ah,ag,aj,ab,ae,af,ai,isNil,Nat.reduceEqDiff,Nat.reduceAdd,Nat.reduceLT,Nat.reduceLeDiff,Int.reduceNeg,Int.reduceToNat,reduceCtorEq,lF,bQ]
  refine an.ne (fun h=>?_) (fun h=>?_)
  · simp (disch:=omega) only [↓wr,↓reduceIte,wq,ah,ag,aj,ab,ae,af,ai,isNil,Nat.reduceEqDiff,Nat.reduceAdd,Nat.reduceLT,Nat.reduceLeDiff,Int.reduceNeg,Int.reduceToNat,reduceCtorEq]
    rw[yJ (by omega)]
  · simp (disch:=omega) only [↓wr,↓reduceIte,wq,ah,ag,aj,ab,ae,af,ai,isNil,Nat.reduceEqDiff,Nat.reduceAdd,Nat.reduceLT,Nat.reduceLeDiff,Int.reduceNeg,Int.reduceToNat,reduceCtorEq]
    refine bw.up a.length (fun i T H'=>a.take i=b.take i∧T 0=bQ a∧T 1=bQ b∧T 5=gi i) ⟨by simp,rfl,rfl,rfl⟩ ?_
    rintro i k T H' hk ⟨hi,h0,h1,h5⟩
    simp (disch:=omega) only [↓wr,↓reduceIte,wq,ah,ag,aj,ab,ae,af,ai,isNil,Nat.reduceEqDiff,Nat.reduceAdd,Nat.reduceLT,Nat.reduceLeDiff,Int.reduceNeg,Int.reduceToNat,reduceCtorEq,kc,h0,h1,h5,bQ]
    refine an.dec (fun hc=>?_) (fun hc=>?_)
    · have h2:a[i]?=some (a[i]'(by omega)):=List.getElem?_eq_getElem (by omega)
      have h3:b[i]?=some (b[i]'(by omega)):=List.getElem?_eq_getElem (by omega)
      have hm:=List.mem_of_getElem? h2
      have hp:=D0 (a[i]'(by omega)) (b[i]'(by omega)) (hs _ hm)
      simp (disch:=omega) only [↓wr,↓reduceIte,wq,ah,ag,aj,ab,ae,af,ai,isNil,Nat.reduceEqDiff,Nat.reduceAdd,Nat.reduceLT,Nat.reduceLeDiff,Int.reduceNeg,Int.reduceToNat,reduceCtorEq,h0,h1,h5,bQ,List.getElem?_map,h2,h3,Option.map_some]
      refine aF.pure hp (by kernel_rfl) ?_
      simp (disch:=omega) only [↓wr,↓reduceIte,wq,ah,ag,aj,ab,ae,af,ai,isNil,Nat.reduceEqDiff,Nat.reduceAdd,Nat.reduceLT,Nat.reduceLeDiff,Int.reduceNeg,Int.reduceToNat,reduceCtorEq]
      refine an.split (fun hd=>?_) (fun hd=>?_)
      · simp (disch:=omega) only [↓wr,↓reduceIte,wq,ah,ag,aj,ab,ae,af,ai,isNil,Nat.reduceEqDiff,Nat.reduceAdd,Nat.reduceLT,Nat.reduceLeDiff,Int.reduceNeg,Int.reduceToNat,reduceCtorEq,h0,h1,h5]
        refine aT hk (by omega) ⟨?_,h0,h1,rfl⟩
        have hd:=eq_of_beq hd
        rw[List.take_add_one,List.take_add_one,hi,h2,h3,hd]
      · simp (disch:=omega) only [↓wr,↓reduceIte,wq,ah,ag,aj,ab,ae,af,ai,isNil,Nat.reduceEqDiff,Nat.reduceAdd,Nat.reduceLT,Nat.reduceLeDiff,Int.reduceNeg,Int.reduceToNat,reduceCtorEq]
        have:(a == b)=false:=by
          simp only[beq_eq_false_iff_ne]
          rintro rfl
          simp at hd
        rw[this]
    · simp (disch:=omega) only [↓wr,↓reduceIte,wq,ah,ag,aj,ab,ae,af,ai,isNil,Nat.reduceEqDiff,Nat.reduceAdd,Nat.reduceLT,Nat.reduceLeDiff,Int.reduceNeg,Int.reduceToNat,reduceCtorEq,h0,h1,h5]
      rw[List.take_of_length_le (by omega),List.take_of_length_le (by omega)] at hi
      rw[hi]; simp
end Gv
namespace Gv
open Go
def Fq:Value→Value→Bool
  | .int k a,.int k' b=>decide (k=k') && decide (a=b)
  | .bool a,.bool b=>a == b
  | .string a,.string b=>fE a b
  | .pointer none,.pointer none=>true
  | _,_=>false
theorem JV:∀ (a b:Value),Fq a b=true→a=b:=by
  intro a b h
  unfold Fq at h
  split at h
  · simp only[Bool.and_eq_true,decide_eq_true_eq] at h
    rw[h.1,h.2]
  · rename_i a b
    rw[show a=b by simpa using h]
  · rename_i a b
    obtain ⟨a⟩:=a
    obtain ⟨b⟩:=b
    simp only[fE,beq_iff_eq] at h
    rw[show a=b from Array.toList_inj.1 h]
  · rfl
  · simp at h
def vB (q:V→V→Bool):List V→List V→Bool
  | [],[]=>true
  | a :: l,b :: m=>q a b && vB q l m
  | _,_=>false
def Ec (q:V→V→Bool):List (List V)→List (List V)→Bool
  | [],[]=>true
  | a :: l,b :: m=>vB q a b && Ec q l m
  | _,_=>false
def AK:Nat→V→V→Bool
  | 0,_,_=>false
  | k+1,a,b=>match a,b with
    | .val x,.val y=>Fq x y
    | .aN x,.aN y=>Ec (AK k) x y
    | .agg x,.agg y=>vB (AK k) x y
    | .bg x,.bg y=>vB (AK k) x y
    | _,_=>false
theorem rB {q:V→V→Bool} (hq:∀ a b,q a b=true→a=b):∀ (l m:List V),vB q l m=true→l=m
  | [],[],_=>rfl
  | a :: l,b :: m,h=>by
    simp only[vB,Bool.and_eq_true] at h
    rw[hq a b h.1,rB hq l m h.2]
  | [],_ :: _,h=>by simp[vB] at h
  | _ :: _,[],h=>by simp[vB] at h
theorem HT {q:V→V→Bool} (hq:∀ a b,q a b=true→a=b):∀ (l m:List (List V)),Ec q l m=true→l=m
  | [],[],_=>rfl
  | a :: l,b :: m,h=>by
    simp only[Ec,Bool.and_eq_true] at h
    rw[rB hq a b h.1,HT hq l m h.2]
  | [],_ :: _,h=>by simp[Ec] at h
  | _ :: _,[],h=>by simp[Ec] at h
theorem Br:∀ (k:Nat) (a b:V),AK k a b=true→a=b
  | 0,_,_,h=>by simp[AK] at h
  | k+1,a,b,h=>by
    have ih:=Br k
    unfold AK at h
    split at h
    · rw[JV _ _ h]
    · rw[HT ih _ _ h]
    · rw[rB ih _ _ h]
    · rw[rB ih _ _ h]
    · simp at h
def pw:Nat→V→Bool
  | 0,_=>false
  | k+1,v=>match v with
    | .val _=>true
    | .emp _=>true
    | .de=>true
    | .aN es=>es.all fun e=>e.all (pw k)
    | .agg cs=>cs.all (pw k)
    | .bg cs=>cs.all (pw k)
    | _=>false
theorem rN {q:V→Bool} {l:List V} (h:l.all q=true) {i:Nat} (hi:i < l.length):q (l.getD i .any)=true:=by
  have e:l.getD i .any=l[i]:=by simp[List.getD_eq_getElem?_getD,hi]
  rw[e]
  exact List.all_eq_true.1 h _ (List.getElem_mem _)
theorem wz:∀ (k:Nat) (v:V),pw k v=true→Tree v
  | 0,_,h=>by simp[pw] at h
  | k+1,v,h=>by
    have ih:=wz k
    unfold pw at h
    split at h
    · exact .val _
    · exact .emp _
    · exact .de
    · rename_i es
      refine .aN _ fun i j hi hj=>ih _ ?_
      have e:es.getD i []=es[i]:=by simp[List.getD_eq_getElem?_getD,hi]
      have h1:=List.all_eq_true.1 h _ (List.getElem_mem hi)
      rw[e] at hj ⊢
      exact rN h1 hj
    · exact .agg _ fun i hi=>ih _ (rN h hi)
    · exact .bg _ fun i hi=>ih _ (rN h hi)
    · simp at h
noncomputable def rS (H:View):Nat→V→Option V
  | 0,_=>none
  | k+1,v=>match v with
    | .val x=>some (.val x)
    | .emp _=>some (.aN [])
    | .aN es=>match pw 60 (.aN es) with
      | true=>some (.aN es)
      | false=>none
    | .sl id off len _=>match H id with
      | .arr _ es=>match Nat.ble (off+len) es.length with
        | true=>(yV (rS H k) ((es.drop off).take len)).map .aN
        | false=>none
      | _=>none
    | .agg cs=>(kH (rS H k) cs).map .agg
    | .bg cs=>(kH (rS H k) cs).map .bg
    | _=>none
theorem zh (h:aC):∀ (k:Nat) (v t:V),rS h.view k v=some t→Fr h v t
  | 0,v,t,hf=>by simp[rS] at hf
  | k+1,v,t,hf=>by
    have ih:=zh h k
    simp only[rS] at hf
    split at hf
    · simp only[Option.some.injEq] at hf; subst hf; exact .tree _ (.val _)
    · simp only[Option.some.injEq] at hf; subst hf; exact .emp _
    · split at hf
      · rename_i ht
        simp only[Option.some.injEq] at hf; subst hf; exact .tree _ (wz _ _ ht)
      · simp at hf
    · rename_i id off len esz
      split at hf
      · rename_i z es hH
        split at hf
        · rename_i hle
          have hle:=Nat.le_of_ble_eq_true hle
          simp only[Option.map_eq_some_iff] at hf
          obtain ⟨es',he,rfl⟩:=hf
          obtain ⟨g1,g2⟩:=y5 _ _ he
          have hlen:es'.length=len:=by rw[g1]; simp; omega
          have hg:∀ i,i < len→((es.drop off).take len).getD i []=es.getD (off+i) []:=fun i hi=>by
            simp[List.getD_eq_getElem?_getD,List.getElem?_take,hi]
          have g3:∀ i,i < len→kH (rS h.view k) (es.getD (off+i) [])=some (es'.getD i []):=fun i hi=>by
            rw[← hg i hi]; exact g2 i (by rw[← g1,hlen]; exact hi)
          exact .sl id off len esz z es es' hH hle hlen (fun i hi=>(fc _ _ (g3 i hi)).1) (fun i j hi hj=>ih _ _ ((fc _ _ (g3 i hi)).2 j (by rw[← (fc _ _ (g3 i hi)).1]; exact hj)))
        · simp at hf
      · simp at hf
    · simp only[Option.map_eq_some_iff] at hf
      obtain ⟨l,hl,rfl⟩:=hf
      obtain ⟨g1,g2⟩:=fc _ _ hl
      exact .agg _ _ g1 (fun i hi=>ih _ _ (g2 i hi))
    · simp only[Option.map_eq_some_iff] at hf
      obtain ⟨l,hl,rfl⟩:=hf
      obtain ⟨g1,g2⟩:=fc _ _ hl
      exact .bg _ _ g1 (fun i hi=>ih _ _ (g2 i hi))
    · simp at hf
theorem aE.seen {P:Program} {f:FuncId} {vs ts:List V} {t:V} (hc:aE P f ts t) (ht:∀ i,i < vs.length→Tree (vs.getD i .any)) (hl:ts.length=vs.length) (hfr:∀ i,i < vs.length→Fr [] (vs.getD i .any) (ts.getD i .any)):aE P f vs t:=by
  intro Z μ w xs hrel hz
  have hr0:fk Z (fun _=>none) w.heap (cat [] fun _=>.dead):=by
    rw[y9]
    exact ⟨fun _=>trivial,fun i j b o s o' s' _ h=>by simp at h,fun id b o s h=>by simp at h,hz,fun id b o s h=>by simp at h⟩
  have hno:∀ b,¬ fW (fun _=>none) b:=fun b ⟨_,_,_,h⟩=>by simp at h
  have hts:dG (fun b=>Z b∨fW (fun _=>none) b) μ w.heap ts xs:=⟨by rw[hl,hrel.1],fun i hi=>yd hr0 (hfr i (by omega)) (r9 (hrel.2 i (by omega)) (ht i (by omega)))⟩
  refine (hc _ μ w xs hts (fun b hb=>hb.elim (hz b) (fun h=>absurd h (hno b)))).mono ?_
  rintro e w' ⟨x,Z',rfl,hv,hs,h1,h2,ho⟩
  exact ⟨x,Z',rfl,hv,hs,fun b hb=>h1 b (.inl hb),fun b hb=>(h2 b hb).elim (fun h=>h.elim .inl (fun h=>absurd h (hno b))) .inr,ho⟩
abbrev yA:=FuncId × List V × V × Bool
def yA.Ok (P:Program) (x:yA):Prop:=cy P x.1=true∧if x.2.2.2=true then aE P x.1 x.2.1 x.2.2.1 else (cr P x.1 x.2.1 x.2.2.1∨(aE P x.1 x.2.1 x.2.2.1∧wU x.2.2.1))
noncomputable def Kp (g:FuncId) (vs:List V) (H:View) (x:yA):Bool:=Nat.beq x.1 g && (match x.2.2.2 with
  | true=>vs.all (pw 60) && (match kH (rS (fun _=>.dead) 60) vs with
    | some ts=>vB (AK 60) ts x.2.1
    | none=>false)
  | false=>match kH (rS H 60) vs with
    | some ts=>vB (AK 60) ts x.2.1
    | none=>false)
noncomputable def Kx (l:List yA):uF:=fun g vs H=>(l.find? (Kp g vs H)).map fun x=>x.2.2.1
theorem JZ {P:Program} {l:List yA} (hl:∀ x∈l,x.Ok P):oR P (Kx l):=by
  intro g vs H t h
  unfold Kx at h
  simp only[Option.map_eq_some_iff] at h
  obtain ⟨⟨f,ts,r,b⟩,hx,rfl⟩:=h
  obtain ⟨h1,h2⟩:=hl _ (List.mem_of_find?_eq_some hx)
  have hq:=List.find?_some hx
  simp only[Kp,Bool.and_eq_true] at hq
  obtain ⟨hg,hq⟩:=hq
  have hg:=Nat.eq_of_beq_eq_true hg
  simp only at hg h1 h2 hq
  subst hg
  refine ⟨h1,?_⟩
  rintro h rfl
  cases b with
  | true =>
    simp only[Bool.and_eq_true] at hq
    obtain ⟨hq1,hq2⟩:=hq
    split at hq2
    · rename_i us hus
      obtain ⟨g1,g2⟩:=fc _ _ hus
      have:=rB (Br 60) _ _ hq2
      subst this
      simp only[if_true] at h2
      exact bL.fw (h2.seen (fun i hi=>wz _ _ (rN hq1 hi)) g1 fun i hi=>zh [] 60 _ _ (g2 i hi)) h
    · simp at hq2
  | false =>
    simp only at hq
    split at hq
    · rename_i us hus
      obtain ⟨g1,g2⟩:=fc _ _ hus
      have:=rB (Br 60) _ _ hq
      subst this
      have hfr:=fun i hi=>zh h 60 _ _ (g2 i hi)
      simp only[Bool.false_eq_true,if_false] at h2
      rcases h2 with h2 | ⟨h2,h3⟩
      · exact bL.rI h2 g1 hfr
      · exact bL.borrow h2 h3 g1 hfr
    · simp at hq
end Gv
set_option linter.unusedSimpArgs false
set_option maxRecDepth 100000
namespace Gv
open Go Go.Proofs
def pK (x:Int):Bool:=decide (-9223372036854775808≤x) && decide (x≤9223372036854775807)
theorem lT {x:Int} (h:pK x=true):bT x:=by
  unfold pK at h
  simp only[Bool.and_eq_true,decide_eq_true_eq] at h
  exact h
def okB (g:al):Bool:=decide (g.ay.length≤900) && decide (g.ax.length≤100) && decide (g.rules.length≤900) && pK g.start && g.ay.all (fun t=>pK t.level && pK t.assoc) && g.rules.all fun r=>pK r.left && pK r.prec && decide (r.right.length≤900) && r.right.all pK
theorem HJ {g:al} (h:okB g=true):g.Ok∧g.Small:=by
  unfold okB at h
  simp only[Bool.and_eq_true,decide_eq_true_eq,List.all_eq_true] at h
  obtain ⟨⟨⟨⟨⟨h1,h2⟩,h3⟩,h4⟩,h5⟩,h6⟩:=h
  refine ⟨⟨by unfold aH; omega,by unfold aH; omega,by unfold aH; omega,lT h4,fun t ht=>⟨lT (h5 t ht).1,lT (h5 t ht).2⟩,fun r hr=>?_⟩,⟨by omega⟩⟩
  have:=h6 r hr
  exact ⟨lT this.1.1.1,lT this.1.1.2,by unfold aH; have:=this.1.2; omega,fun x hx=>lT (this.2 x hx)⟩
def Kz:List Int:=[37,37,32,115,32,58,32,39,120,39,32,116,32,117,32,124,32,39,113,39,32,59,32,116,32,58,32,39,97,39,32,124,32,39,116,39,32,118,32,59,32,117,32,58,32,39,117,39,32,59,32,118,32,58,32,39,118,39,32,124,32,39,119,39,32,59]
def gL:al:=⟨[⟨⟨#[39,120,39]⟩,0,0⟩,⟨⟨#[39,113,39]⟩,0,0⟩,⟨⟨#[39,97,39]⟩,0,0⟩,⟨⟨#[39,116,39]⟩,0,0⟩,⟨⟨#[39,117,39]⟩,0,0⟩,⟨⟨#[39,118,39]⟩,0,0⟩,⟨⟨#[39,119,39]⟩,0,0⟩],[⟨#[115]⟩,⟨#[116]⟩,⟨#[117]⟩,⟨#[118]⟩],[⟨0,[0,-2,-3],0⟩,⟨0,[1],1⟩,⟨1,[2],2⟩,⟨1,[3,-4],3⟩,⟨2,[4],4⟩,⟨3,[5],5⟩,⟨3,[6],6⟩],0⟩
theorem Mk:cr Tryz.prog 41 [wv Kz] (oq gL):=DZ (by kernel_rfl)
theorem me:gL.Ok∧gL.Small:=HJ (by kernel_rfl)
theorem zR:od.Ok∧od.Small:=HJ (by kernel_rfl)
theorem HO {g:al} (hg:∀ r∈g.rules,r.right.length≤6) (t:List Int):(jJ g t).1.length≤1+6 * t.length:=by
  unfold jJ jG
  split
  · rename_i x h
    split at h
    · cases hx:bP g t.length [-1 - g.start] t with
      | none=>rw[hx] at h; simp at h
      | some y =>
        rw[hx] at h
        simp only at h
        split at h
        · simp only[Option.some.injEq] at h
          subst h
          have:=(xR hg _ _ _ _ hx).2.2.1
          simp at this ⊢; omega
        · simp at h
    · simp at h
  · simp
theorem vy {g:al} (hr:bk g=true) {i:Int} {t:List Int} (h:dP g i=(t,true)) (ht:t.length≤9):dz g i=(t,0):=by
  have:=HO (bc hr).right t
  rw[dz,h]
  simp only[Bool.true_eq_false,if_false]
  rw[if_neg (by omega)]
theorem LC:ng od=([[0,1]],0):=by
  have h0:dz od 0=([0,1],0):=vy (by kernel_rfl) (by kernel_rfl) (by decide)
  rw[ng,if_pos (by kernel_rfl),show od.rules.length=2 from rfl,bG,bG,bG]
  simp[h0]
theorem MD:mH gL 6=([0,3,6,4],0):=by
  rw[mH,if_pos (by kernel_rfl)]
  exact vy (by kernel_rfl) (by kernel_rfl) (by decide)
theorem LY:mH gL 7=([],1):=by rw[mH,if_neg (by rw[show (isRed gL && decide (0≤(7:Int)) && decide ((7:Int) < gL.rules.length))=false by kernel_rfl]; simp)]
theorem Mg:ng oK=([],1):=by rw[ng,if_neg (by rw[show isRed oK=false by kernel_rfl]; simp)]
def lP:DF:=⟨.seq (au [aW 0 false]) <|
  .seq (au [((some 16),.op (.bE 16 1 [(.val (.int .u8 0))] [(0,(.val (.val (.int .u8 37)))),(1,(.val (.val (.int .u8 37)))),(2,(.val (.val (.int .u8 32)))),(3,(.val (.val (.int .u8 115)))),(4,(.val (.val (.int .u8 32)))),(5,(.val (.val (.int .u8 58)))),(6,(.val (.val (.int .u8 32)))),(7,(.val (.val (.int .u8 39)))),(8,(.val (.val (.int .u8 97)))),(9,(.val (.val (.int .u8 39)))),(10,(.val (.val (.int .u8 32)))),(11,(.val (.val (.int .u8 115)))),(12,(.val (.val (.int .u8 32)))),(13,(.val (.val (.int .u8 124)))),(14,(.val (.val (.int .u8 32)))),(15,(.val (.val (.int .u8 59))))])),((some 17),.op (.old (.convert 73 73 (.tmp 16)) 73)),aK 18 41 [17],aa 15 18,b6 19 0 15,b6 20 1 15,b6 21 2 15,((some 1),.op (.alloc [(.emp 1),(.emp 1),(.emp 1),(.val (.int .i64 0))])),(none,.op (.store 4 (.tmp 1) (.tmp 19))),aa 2 20,aa 3 21]) <|
  .seq (au [((some 23),.op (.bE 66 1 [(.val (.int .u8 0))] [(0,(.val (.val (.int .u8 37)))),(1,(.val (.val (.int .u8 37)))),(2,(.val (.val (.int .u8 32)))),(3,(.val (.val (.int .u8 115)))),(4,(.val (.val (.int .u8 32)))),(5,(.val (.val (.int .u8 58)))),(6,(.val (.val (.int .u8 32)))),(7,(.val (.val (.int .u8 39)))),(8,(.val (.val (.int .u8 120)))),(9,(.val (.val (.int .u8 39)))),(10,(.val (.val (.int .u8 32)))),(11,(.val (.val (.int .u8 116)))),(12,(.val (.val (.int .u8 32)))),(13,(.val (.val (.int .u8 117)))),(14,(.val (.val (.int .u8 32)))),(15,(.val (.val (.int .u8 124)))),(16,(.val (.val (.int .u8 32)))),(17,(.val (.val (.int .u8 39)))),(18,(.val (.val (.int .u8 113)))),(19,(.val (.val (.int .u8 39)))),(20,(.val (.val (.int .u8 32)))),(21,(.val (.val (.int .u8 59)))),(22,(.val (.val (.int .u8 32)))),(23,(.val (.val (.int .u8 116)))),(24,(.val (.val (.int .u8 32)))),(25,(.val (.val (.int .u8 58)))),(26,(.val (.val (.int .u8 32)))),(27,(.val (.val (.int .u8 39)))),(28,(.val (.val (.int .u8 97)))),(29,(.val (.val (.int .u8 39)))),(30,(.val (.val (.int .u8 32)))),(31,(.val (.val (.int .u8 124)))),(32,(.val (.val (.int .u8 32)))),(33,(.val (.val (.int .u8 39)))),(34,(.val (.val (.int .u8 116)))),(35,(.val (.val (.int .u8 39)))),(36,(.val (.val (.int .u8 32)))),(37,(.val (.val (.int .u8 118)))),(38,(.val (.val (.int .u8 32)))),(39,(.val (.val (.int .u8 59)))),(40,(.val (.val (.int .u8 32)))),(41,(.val (.val (.int .u8 117)))),(42,(.val (.val (.int .u8 32)))),(43,(.val (.val (.int .u8 58)))),(44,(.val (.val (.int .u8 32)))),(45,(.val (.val (.int .u8 39)))),(46,(.val (.val (.int .u8 117)))),(47,(.val (.val (.int .u8 39)))),(48,(.val (.val (.int .u8 32)))),(49,(.val (.val (.int .u8 59)))),(50,(.val (.val (.int .u8 32)))),(51,(.val (.val (.int .u8 118)))),(52,(.val (.val (.int .u8 32)))),(53,(.val (.val (.int .u8 58)))),(54,(.val (.val (.int .u8 32)))),(55,(.val (.val (.int .u8 39)))),(56,(.val (.val (.int .u8 118)))),(57,(.val (.val (.int .u8 39)))),(58,(.val (.val (.int .u8 32)))),(59,(.val (.val (.int .u8 124)))),(60,(.val (.val (.int .u8 32)))),(61,(.val (.val (.int .u8 39)))),(62,(.val (.val (.int .u8 119)))),(63,(.val (.val (.int .u8 39)))),(64,(.val (.val (.int .u8 32)))),(65,(.val (.val (.int .u8 59))))])),((some 24),.op (.old (.convert 73 73 (.tmp 23)) 73)),aK 25 41 [24],aa 22 25,b6 26 0 22,b6 27 1 22,b6 28 2 22,((some 4),.op (.alloc [(.emp 1),(.emp 1),(.emp 1),(.val (.int .i64 0))])),(none,.op (.store 4 (.tmp 4) (.tmp 26))),aa 5 27,aa 6 28]) <|
  .seq (au [aZ 30 4 1,aK 31 31 [30],aa 29 31,b6 32 0 29,b6 33 1 29,aa 7 32,aa 8 33]) <|
  .seq (au [aZ 35 4 4,cH 36 28 [(.tmp 35),(.val (.val (.int .i64 6)))],aa 34 36,b6 37 0 34,b6 38 1 34,aa 9 37,aa 10 38]) <|
  .seq (au [aZ 40 4 4,cH 41 28 [(.tmp 40),(.val (.val (.int .i64 7)))],aa 39 41,b6 42 0 39,b6 43 1 39,aa 11 42,aa 12 43]) <|
  .seq (au [((some 45),.op (.build [(.emp 1),(.emp 1),(.emp 1),(.val (.int .i64 0))] [])),aK 46 31 [45],aa 44 46,b6 47 0 44,b6 48 1 44,aa 13 47,aa 14 48]) <|
  .seq (.region [] [⟨none,[aa 49 8,aA 50 .eql 49 0,aa 51 50]⟩,⟨(some (51,true)),[aa 52 10,aA 53 .eql 52 0]⟩,⟨none,[bI 54 51 53,aa 55 54]⟩,⟨(some (55,true)),[aa 56 12,aA 57 .eql 56 1]⟩,⟨none,[bI 58 55 57,aa 59 58]⟩,⟨(some (59,true)),[aa 60 14,aA 61 .eql 60 1]⟩,⟨none,[bI 62 59 61,aa 63 62]⟩,⟨(some (63,true)),[aa 64 7,((some 65),.op (.bE 2 1 [(.val (.int .i64 0))] [(0,(.val (.val (.int .i64 0)))),(1,(.val (.val (.int .i64 1))))])),((some 66),.op (.bE 1 1 [(.emp 1)] [(0,(.tmp 65))])),aK 67 33 [64,66]]⟩,⟨none,[bI 68 63 67,aa 69 68]⟩,⟨(some (69,true)),[aa 70 9,((some 71),.op (.bE 4 1 [(.val (.int .i64 0))] [(0,(.val (.val (.int .i64 0)))),(1,(.val (.val (.int .i64 3)))),(2,(.val (.val (.int .i64 6)))),(3,(.val (.val (.int .i64 4))))])),aK 72 17 [70,71]]⟩,⟨none,[bI 73 69 72,aa 74 73]⟩,⟨(some (74,true)),[aZ 75 4 4,aa 76 9,((some 77),.op (.bE 1 1 [(.val (.int .i64 0))] [(0,(.val (.val (.int .i64 9))))])),((some 78),.op (.bE 2 1 [(.emp 1)] [(0,(.tmp 76)),(1,(.tmp 77))])),aK 79 36 [75,78],((some 80),.op (.bE 7 1 [(.val (.bool false))] [(0,(.val (.val (.bool true)))),(1,(.val (.val (.bool false)))),(2,(.val (.val (.bool false)))),(3,(.val (.val (.bool true)))),(4,(.val (.val (.bool true)))),(5,(.val (.val (.bool false)))),(6,(.val (.val (.bool true))))])),aK 81 35 [79,80]]⟩,⟨none,[bI 82 74 81,aa 0 82]⟩]) <|
  .ret,
  [.tmp 0],83⟩
theorem qm:bt Tryz.prog 27 []=some lP:=by kernel_rfl
def Dv:List (FuncId × DF):=[(27,lP)]
theorem Gc:pG Tryz.prog Dv:=by
  intro p hp
  simp only[Dv,List.mem_cons,List.not_mem_nil,or_false] at hp
  rcases hp with rfl
  · exact ⟨_,qm⟩
def Kl:List yA:=[(41,[wv KD],oq od,false),(41,[wv Kz],oq gL,false),
  (31,[.agg (av od)],A3 ([[0,1]],0),true),(28,[.agg (av gL),gi 6],mh ([0,3,6,4],0),true),(28,[.agg (av gL),gi 7],mh ([],1),true),(31,[.agg (av oK)],A3 ([],1),true),
  (33,[bQ [[0,1]],bQ [[0,1]]],gb true,false),(17,[encI [0,3,6,4],encI [0,3,6,4]],gb true,false),
  (36,[.agg (av gL),bQ [[0,3,6,4],[9]]],bR [true,false,false,true,true,false,true],false),(35,[bR [true,false,false,true,true,false,true],bR [true,false,false,true,true,false,true]],gb true,false)]
theorem Jb:∀ x∈Kl,x.Ok Tryz.prog:=by
  intro x hx
  simp only[Kl,List.mem_cons,List.not_mem_nil,or_false] at hx
  have sl:∀ l:List Int,l.length≤100→aH l:=fun l h=>by unfold aH; omega
  rcases hx with rfl | rfl | rfl | rfl | rfl | rfl | rfl | rfl | rfl | rfl
  · exact ⟨by kernel_rfl,.inl Mz⟩
  · exact ⟨by kernel_rfl,.inl Mk⟩
  · exact ⟨by kernel_rfl,LC ▸ Av od zR.1 zR.2⟩
  · exact ⟨by kernel_rfl,MD ▸ vC gL me.1 me.2 6 (by unfold bT; omega)⟩
  · exact ⟨by kernel_rfl,LY ▸ vC gL me.1 me.2 7 (by unfold bT; omega)⟩
  · exact ⟨by kernel_rfl,Mg ▸ Av oK Me ⟨by decide⟩⟩
  · exact ⟨by kernel_rfl,.inr ⟨Kf [[0,1]] [[0,1]] (by unfold aH; decide) (by intro w hw; simp at hw; subst hw; exact sl _ (by decide)),.val _⟩⟩
  · exact ⟨by kernel_rfl,.inr ⟨D0 [0,3,6,4] [0,3,6,4] (sl _ (by decide)),.val _⟩⟩
  · exact ⟨by kernel_rfl,.inl ((show k6 gL [[0,3,6,4],[9]]=[true,false,false,true,true,false,true] by kernel_rfl) ▸ Bi gL me.1 me.2 [[0,3,6,4],[9]] (by unfold aH; decide) (by intro w hw; simp at hw; rcases hw with rfl | rfl <;> exact sl _ (by decide)))⟩
  · exact ⟨by kernel_rfl,.inr ⟨Cy [true,false,false,true,true,false,true] [true,false,false,true,true,false,true] (by unfold aH; decide),.val _⟩⟩
theorem FX:aE Tryz.prog 27 [] (gb true) :=
  (og mixed Gc (JZ Jb) (by simp) (by kernel_rfl)).pure
end Gv
set_option linter.unusedSimpArgs false
set_option maxRecDepth 100000
namespace Gv
open Go Go.Proofs
theorem Cv (g:al) (hg:g.Ok) (l:List (List Int)) (hl:aH l) (hs:∀ w∈l,aH w∧∀ y∈w,bT y):aE Tryz.prog 9 [.agg (av g),bQ l] (gb true):=xI FX g hg l hl hs
end Gv
