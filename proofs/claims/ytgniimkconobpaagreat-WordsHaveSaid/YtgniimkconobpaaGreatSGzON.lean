/-
  Part 14 of the proof: what the machine does and what the functions answer.
  Conditions: those that each lemma names.
-/
import Derived.Test.YtgniimkconobpaaGreatSGzOM
set_option linter.unusedSimpArgs false
set_option linter.unusedVariables false
set_option linter.unusedSimpArgs false
set_option maxRecDepth 100000
namespace Gv
open Go Go.Proofs
theorem oX {H:View} {u:V} {sz:Nat} {es:List (List V)} (h:aV H u sz es):∃ rd,bD H u=some (es,rd):=by
  rcases h with ⟨rfl,k,rfl⟩ | ⟨n,rfl,hn⟩
  · exact ⟨_,pw _ k⟩
  · cases es with
    | nil=>exact ⟨[],by simp[bD]⟩
    | cons e es=>exact ⟨_,by rw[show (e :: es).length=es.length+1 from rfl,rz _ n 0 es.length sz sz _ hn (by simp),List.drop_zero,List.take_of_length_le (by simp)]⟩
theorem Left.trans {H H1 H2:View} {u u1 u2:V} (h1:Left H H1 u u1) (h2:Left H1 H2 u1 u2):Left H H2 u u2:=fun id hd hu=>by
  obtain ⟨a,b⟩:=h1 id hd hu
  obtain ⟨c,d⟩:=h2 id (by rw[a]; exact hd) b
  exact ⟨c.trans a,d⟩
theorem xE (l:List Int):((ch l).all fun e=>e.length == 1 && e.all aN)=true:=by simp[List.all_map,aN]
def jB:SC :=
  .seq (.seq (al [aa 13 7,aI 14 13,aa 15 2,aK 16 .lss 14 15]) <|
  .cond (.tmp 16) (.skip) (.exit 0)) <|
  .block 1 (al [aa 17 7,((some 18),.op (.bu 1 1 [(.val (.int .i64 0))] [(0,(.val (.val (.int .i64 (-1)))))])),((some 19),.op (.app 1 8 (.tmp 17) (.tmp 18))),aa 7 19])
def lZ:SF:=⟨.seq (al [b7 3 0,aP 6 false]) <|
  .seq (al [((some 10),.op (.bg (.val (.emp 2)))),aa 11 1,((some 12),.op (.app 1 8 (.tmp 10) (.tmp 11))),aa 7 12]) <|
  .seq (.block 0 (.loop jB)) <|
  .seq (al [aO 21 4 3,aa 22 7,aF 23 18 [21,22],aa 20 23,bK 24 0 20,bK 25 1 20,aa 8 24,aa 9 25]) <|
  .seq (al [aa 26 8,aa 6 26]) <|
  .ret,
  [.tmp 6],27⟩
theorem pX:aR Tryz.prog 83 [3]=some lZ:=by kernel_rfl
def jY:SC :=
  .seq (.seq (al [aa 34 11,aq 35 0 5,ao 36 35,aI 37 36,aK 38 .lss 34 37]) <|
  .cond (.tmp 38) (.skip) (.exit 0)) <|
  .seq (.block 1 (.np [(5,42),(5,44)] [⟨none,[aO 41 4 5,((some 42),.op (.bg (.val (.emp 2)))),aa 43 1,((some 44),.op (.app 1 8 (.tmp 42) (.tmp 43))),aa 45 11,((some 46),.op (.bu 1 1 [(.val (.int .i64 0))] [(0,(.tmp 45))])),((some 47),.op (.app 1 8 (.tmp 44) (.tmp 46))),aa 48 2,aa 49 3,aa 50 4,aF 51 49 [41,47,48,49,50],aa 4 51]⟩])) <|
  al [aa 39 11,ax 40 .add 39 1,aa 11 40]
def gG:SF:=⟨.seq (al [b7 5 0,((some 10),.op (.bg (.val (.emp 1))))]) <|
  .seq (.seq (.region false [⟨none,[aa 12 4,aI 13 12,aa 14 3,aK 15 .gtr 13 14,aa 16 15]⟩,⟨(some (16,false)),[aO 17 4 5,aa 18 1,aa 19 2,aF 20 83 [17,18,19],bQ 21 20]⟩,⟨none,[bf 22 16 21]⟩]) <|
  .cond (.tmp 22) (.seq (al [aa 23 4,aa 10 23]) <|
  .ret) (.skip)) <|
  .seq (.seq (al [aa 24 1,aI 25 24,aa 26 2,aK 27 .eql 25 26]) <|
  .cond (.tmp 27) (.seq (al [aa 28 4,((some 29),.op (.bg (.val (.emp 2)))),aa 30 1,((some 31),.op (.app 1 8 (.tmp 29) (.tmp 30))),((some 32),.op (.bu 1 1 [(.emp 1)] [(0,(.tmp 31))])),((some 33),.op (.app 1 24 (.tmp 28) (.tmp 32))),aa 10 33]) <|
  .ret) (.skip)) <|
  .seq (.seq (al [aG 11 0]) <|
  .block 0 (.loop jY)) <|
  .seq (al [aa 52 4,aa 10 52]) <|
  .ret,
  [.tmp 10],53⟩
theorem ju:aR Tryz.prog 49 [5,100000]=some gG:=by kernel_rfl
def mJ:SF:=⟨.seq (al [b7 3 0,aP 6 false]) <|
  .seq (.region false [⟨none,[aO 7 4 3,aF 8 41 [7],aa 9 8]⟩,⟨(some (9,true)),[aa 10 1,ax 11 .geq 10 0]⟩,⟨none,[bk 12 9 11,aa 13 12]⟩,⟨(some (13,true)),[aa 14 1,ax 15 .leq 14 10]⟩,⟨none,[bk 16 13 15,aa 17 16]⟩,⟨(some (17,true)),[aa 18 2,ax 19 .geq 18 0]⟩,⟨none,[bk 20 17 19,aa 21 20]⟩,⟨(some (21,true)),[aa 22 2,ax 23 .leq 22 500]⟩,⟨none,[bk 24 21 23,aa 6 24]⟩]) <|
  .ret,
  [.tmp 6],25⟩
theorem qD:aR Tryz.prog 48 [3]=some mJ:=by kernel_rfl
def me:SF:=⟨.seq (al [b7 3 0,((some 6),.op (.bg (.val (.emp 1)))),aG 7 0]) <|
  .seq (.seq (al [aO 9 4 3,aa 10 1,aa 11 2,aF 12 48 [9,10,11],bQ 13 12]) <|
  .cond (.tmp 13) (.seq (al [((some 6),.op (.bg (.val (.emp 1)))),aG 7 1]) <|
  .ret) (.skip)) <|
  .seq (al [aO 14 4 3,aa 15 1,aa 16 2,bT 17 49 [(.tmp 14),(.val (.emp 1)),(.tmp 15),(.tmp 16),(.val (.emp 1))],aa 8 17]) <|
  .seq (.seq (al [aa 18 8,aI 19 18,aa 20 2,aK 21 .gtr 19 20]) <|
  .cond (.tmp 21) (.seq (al [((some 6),.op (.bg (.val (.emp 1)))),aG 7 13]) <|
  .ret) (.skip)) <|
  .seq (al [aa 22 8,aa 6 22,aG 7 0]) <|
  .ret,
  [.tmp 6,.tmp 7],23⟩
theorem qf:aR Tryz.prog 25 [3]=some me:=by kernel_rfl
def jN:SC :=
  .seq (.seq (al [aa 15 9,aa 16 1,aK 17 .leq 15 16]) <|
  .cond (.tmp 17) (.skip) (.exit 0)) <|
  .seq (.block 1 (al [aO 20 4 3,aa 21 9,aa 22 2,aa 23 8,bT 24 49 [(.tmp 20),(.val (.emp 1)),(.tmp 21),(.tmp 22),(.tmp 23)],aa 8 24])) <|
  al [aa 18 9,ax 19 .add 18 1,aa 9 19]
def lK:SF:=⟨.seq (al [b7 3 0,((some 6),.op (.bg (.val (.emp 1)))),aG 7 0]) <|
  .seq (.seq (al [aO 10 4 3,aa 11 1,aa 12 2,aF 13 48 [10,11,12],bQ 14 13]) <|
  .cond (.tmp 14) (.seq (al [((some 6),.op (.bg (.val (.emp 1)))),aG 7 1]) <|
  .ret) (.skip)) <|
  .seq (al [((some 8),.op (.bg (.val (.emp 1))))]) <|
  .seq (.seq (al [aG 9 0]) <|
  .block 0 (.loop jN)) <|
  .seq (.seq (al [aa 25 8,aI 26 25,aa 27 2,aK 28 .gtr 26 27]) <|
  .cond (.tmp 28) (.seq (al [((some 6),.op (.bg (.val (.emp 1)))),aG 7 13]) <|
  .ret) (.skip)) <|
  .seq (al [aa 29 8,aa 6 29,aG 7 0]) <|
  .ret,
  [.tmp 6,.tmp 7],30⟩
theorem qp:aR Tryz.prog 29 [3]=some lK:=by kernel_rfl
theorem Ha {h:List Int} {k:Nat} : ch (pad h k) ++ [[gi (-1)]]=ch (pad h (k+1)):=by
  simp[pad,List.replicate_succ']
theorem yq (g:au) (hg:g.Ok) (hr:aT g=true) (h:List Int) (k:Nat) (hh:∀ x∈h,0≤x∧x < (g.aw.length:Int)) (hl:h.length+k≤60) :
    aC Tryz.prog 83 [.agg (ar g),encI h,gi (h.length+k:Nat)] (gb (cF g (pad h k))):=by
  refine aC.val (by
    intro v hv; simp at hv
    rcases hv with rfl | rfl | rfl
    · exact bF _ (bB g)
    · exact cn h
    · exact .val _) fun H=>?_
  have hc:=yB g hg (pad h k) (by unfold aL pad; simp; omega) (E4 hg hh)
  rw[yQ hr hh hl] at hc
  simp only[ar,encS] at hc
  refine aB.of mixed pX ?_
  simp (disch:=omega) only [↓wr,↓reduceIte,wq,ai,ah,ak,ae,af,ag,aj,isNil,Nat.reduceEqDiff,Nat.reduceAdd,Nat.reduceLT,Nat.reduceLeDiff,Int.reduceNeg,Int.reduceToNat,reduceCtorEq,lZ,encI,ar,encS]
  refine ed (es:=[]) .nil (xE h) (by unfold aM; simp; omega) (by unfold aM; simp; omega) ?_
  rintro u H1 ho -
  simp (disch:=omega) only [↓wr,↓reduceIte,wq,ai,ah,ak,ae,af,ag,aj,isNil,Nat.reduceEqDiff,Nat.reduceAdd,Nat.reduceLT,Nat.reduceLeDiff,Int.reduceNeg,Int.reduceToNat,reduceCtorEq]
  refine bo.up k (fun i T H'=>∃ u,T 7=u∧aV H' u 1 (ch (pad h i))∧T 2=gi (h.length+k:Nat)∧T 3=.aJ (ar g) 0) ⟨u,rfl,by simpa [pad] using ho,rfl,rfl⟩ ?_
  rintro i j T H2 hk ⟨u2,ht7,ho,t2,t3⟩
  have hlen:=ho.len
  simp only[List.length_map,pad,List.length_append,List.length_replicate] at hlen
  simp (disch:=omega) only [↓wr,↓reduceIte,wq,ai,ah,ak,ae,af,ag,aj,isNil,Nat.reduceEqDiff,Nat.reduceAdd,Nat.reduceLT,Nat.reduceLeDiff,Int.reduceNeg,Int.reduceToNat,reduceCtorEq,jB,ht7,t2,t3,hlen]
  refine an.dec (fun hc2=>?_) (fun hc2=>?_)
  · simp (disch:=omega) only [↓wr,↓reduceIte,wq,ai,ah,ak,ae,af,ag,aj,isNil,Nat.reduceEqDiff,Nat.reduceAdd,Nat.reduceLT,Nat.reduceLeDiff,Int.reduceNeg,Int.reduceToNat,reduceCtorEq,ht7,t2,t3]
    intro m hm
    rw[dG]
    simp (disch:=omega) only [↓wr,↓reduceIte,wq,ai,ah,ak,ae,af,ag,aj,isNil,Nat.reduceEqDiff,Nat.reduceAdd,Nat.reduceLT,Nat.reduceLeDiff,Int.reduceNeg,Int.reduceToNat,reduceCtorEq,ht7]
    refine ed (ho.fresh hm) (by simp[aN]) (by unfold aM; simp[pad]; omega) (by unfold aM; simp[pad]; omega) ?_
    rintro u3 H3 ho3 -
    simp (disch:=omega) only [↓wr,↓reduceIte,wq,ai,ah,ak,ae,af,ag,aj,isNil,Nat.reduceEqDiff,Nat.reduceAdd,Nat.reduceLT,Nat.reduceLeDiff,Int.reduceNeg,Int.reduceToNat,reduceCtorEq,ht7,t2,t3]
    refine bb hk (by omega) ⟨u3,rfl,?_,t2,t3⟩
    rw[← Ha]; exact ho3
  · have e:i=k:=by omega
    subst e
    simp (disch:=omega) only [↓wr,↓reduceIte,wq,ai,ah,ak,ae,af,ag,aj,isNil,Nat.reduceEqDiff,Nat.reduceAdd,Nat.reduceLT,Nat.reduceLeDiff,Int.reduceNeg,Int.reduceToNat,reduceCtorEq,ht7,t2,t3,ar,encS]
    refine az.vr hc (by kernel_rfl) (yn _) ⟨.tree (bF _ (bB g)),.Dc ho,trivial⟩ ?_
    simp (disch:=omega) only [↓wr,↓reduceIte,wq,ai,ah,ak,ae,af,ag,aj,isNil,Nat.reduceEqDiff,Nat.reduceAdd,Nat.reduceLT,Nat.reduceLeDiff,Int.reduceNeg,Int.reduceToNat,reduceCtorEq,kQ]
set_option maxHeartbeats 4000000 in
theorem BY (g:au) (hg:g.Ok) (hr:aT g=true) (bud:Nat) (hbud:bud≤500):∀ (k:Nat) (h:List Int),(∀ x∈h,0≤x∧x < (g.aw.length:Int))→h.length+k≤60→∀ (v u:V) (out:List (List Int)) (H:View),
    aV H v 1 (ch h)→cR H u out→out.length≤bud+1→(∀ id,owner v=some id→owner u≠some id) →
    aB Tryz.prog 49 [.agg (ar g),v,gi (h.length+k:Nat),gi bud,u] H fun u' H'=>cR H' u' (bH (cF g) g.aw.length bud k h out)∧Left H H' u u':=by
  intro k
  induction k with
  | zero =>
    intro h hh hl v u out H0 hov ho hlo hd
    refine aB.of mixed ju ?_
    have hc:=yq g hg hr h (0) hh hl
    obtain ⟨rd,he⟩:=oX hov
    have hlv:=hov.len
    rw[List.length_map] at hlv
    have lv:=cO.Dc hov
    have lg:cO H0 (.agg (ar g)) (.agg (ar g)):=.tree (bF _ (bB g))
    simp only[ar,encS] at hc lg
    simp (disch:=omega) only [↓wr,↓reduceIte,wq,ai,ah,ak,ae,af,ag,aj,isNil,Nat.reduceEqDiff,Nat.reduceAdd,Nat.reduceLT,Nat.reduceLeDiff,Int.reduceNeg,Int.reduceToNat,reduceCtorEq,gG,ar,encS,ho.len]
    refine an.dec (fun hb=>?_) (fun hb=>?_)
    · simp (disch:=omega) only [↓wr,↓reduceIte,wq,ai,ah,ak,ae,af,ag,aj,isNil,Nat.reduceEqDiff,Nat.reduceAdd,Nat.reduceLT,Nat.reduceLeDiff,Int.reduceNeg,Int.reduceToNat,reduceCtorEq]
      exact ⟨by rw[m7 (by omega)]; exact ho,.refl⟩
    · simp (disch:=omega) only [↓wr,↓reduceIte,wq,ai,ah,ak,ae,af,ag,aj,isNil,Nat.reduceEqDiff,Nat.reduceAdd,Nat.reduceLT,Nat.reduceLeDiff,Int.reduceNeg,Int.reduceToNat,reduceCtorEq,ho.len]
      refine az.vr hc (by kernel_rfl) (.val _) ⟨lg,lv,.tree (.val _),trivial⟩ ?_
      simp (disch:=omega) only [↓wr,↓reduceIte,wq,ai,ah,ak,ae,af,ag,aj,isNil,Nat.reduceEqDiff,Nat.reduceAdd,Nat.reduceLT,Nat.reduceLeDiff,Int.reduceNeg,Int.reduceToNat,reduceCtorEq]
      refine an.split (fun hp=>?_) (fun hp=>?_)
      · simp (disch:=omega) only [↓wr,↓reduceIte,wq,ai,ah,ak,ae,af,ag,aj,isNil,Nat.reduceEqDiff,Nat.reduceAdd,Nat.reduceLT,Nat.reduceLeDiff,Int.reduceNeg,Int.reduceToNat,reduceCtorEq,hlv,he]
        refine an.eq (fun _=>?_) (fun e=>absurd (by omega) e)
        simp (disch:=omega) only [↓wr,↓reduceIte,wq,ai,ah,ak,ae,af,ag,aj,isNil,Nat.reduceEqDiff,Nat.reduceAdd,Nat.reduceLT,Nat.reduceLeDiff,Int.reduceNeg,Int.reduceToNat,reduceCtorEq,he]
        refine ed (es:=[]) .nil (xE h) (by unfold aM; simp; omega) (by unfold aM; simp; omega) ?_
        intro u1 H1 o1 l1
        rw[List.nil_append] at o1
        have c1:=o1.cells
        have k1:=o1.r7
        have fr1:c6 H0 H1 u1:=fun id hid=>l1 id hid (by simp[owner])
        simp (disch:=omega) only [↓wr,↓reduceIte,wq,ai,ah,ak,ae,af,ag,aj,isNil,Nat.reduceEqDiff,Nat.reduceAdd,Nat.reduceLT,Nat.reduceLeDiff,Int.reduceNeg,Int.reduceToNat,reduceCtorEq,c1,k1]
        intro m hm
        rw[dG]
        obtain ⟨b,rfl,hob,hbs⟩:=ho
        have hd1:∀ id,owner u1=some id→owner u≠some id:=fun id h1 h2=>(fr1 id (by rw[(hob.live h2).1]; simp)).2 h1
        simp only[List.length_map] at hlo
        simp (disch:=omega) only [↓wr,↓reduceIte,wq,ai,ah,ak,ae,af,ag,aj,isNil,Nat.reduceEqDiff,Nat.reduceAdd,Nat.reduceLT,Nat.reduceLeDiff,Int.reduceNeg,Int.reduceToNat,reduceCtorEq,c1,k1]
        refine ed ((hob.pD fr1).fresh hm) (by simp[k1]) (by unfold aM; simp[eP]; omega) (by unfold aM; simp[eP]; omega) ?_
        intro u2 H2 o2 l2
        simp (disch:=omega) only [↓wr,↓reduceIte,wq,ai,ah,ak,ae,af,ag,aj,isNil,Nat.reduceEqDiff,Nat.reduceAdd,Nat.reduceLT,Nat.reduceLeDiff,Int.reduceNeg,Int.reduceToNat,reduceCtorEq]
        refine ⟨?_,fun id hid hu=>?_⟩
        · rw[bH,if_neg (by rw[hp]; simp; simpa using hb)]
          exact cR.add ((hob.pD fr1).fresh hm) (fun x hx=>((hbs x hx).pD fr1).fresh hm) (o1.fresh hm) hd1 o2 l2
        · have h3:=fr1 id hid
          have him:id≠m:=by
            rintro rfl
            rw[h3.1] at hm
            exact hid hm
          have h4:=l2 id (by simp only[View.set,if_neg him]; rw[h3.1]; exact hid) hu
          refine ⟨?_,h4.2⟩
          rw[h4.1]
          simp only[View.set,if_neg him,h3.1]
      · simp (disch:=omega) only [↓wr,↓reduceIte,wq,ai,ah,ak,ae,af,ag,aj,isNil,Nat.reduceEqDiff,Nat.reduceAdd,Nat.reduceLT,Nat.reduceLeDiff,Int.reduceNeg,Int.reduceToNat,reduceCtorEq]
        exact ⟨by rw[bH,if_pos (.inr hp)]; exact ho,.refl⟩
  | succ k ih =>
    intro h hh hl v u out H0 hov ho hlo hd
    refine aB.of mixed ju ?_
    have hc:=yq g hg hr h (k+1) hh hl
    obtain ⟨rd,he⟩:=oX hov
    have hlv:=hov.len
    rw[List.length_map] at hlv
    have lv:=cO.Dc hov
    have lg:cO H0 (.agg (ar g)) (.agg (ar g)):=.tree (bF _ (bB g))
    simp only[ar,encS] at hc lg
    simp (disch:=omega) only [↓wr,↓reduceIte,wq,ai,ah,ak,ae,af,ag,aj,isNil,Nat.reduceEqDiff,Nat.reduceAdd,Nat.reduceLT,Nat.reduceLeDiff,Int.reduceNeg,Int.reduceToNat,reduceCtorEq,gG,ar,encS,ho.len]
    refine an.dec (fun hb=>?_) (fun hb=>?_)
    · simp (disch:=omega) only [↓wr,↓reduceIte,wq,ai,ah,ak,ae,af,ag,aj,isNil,Nat.reduceEqDiff,Nat.reduceAdd,Nat.reduceLT,Nat.reduceLeDiff,Int.reduceNeg,Int.reduceToNat,reduceCtorEq]
      exact ⟨by rw[m7 (by omega)]; exact ho,.refl⟩
    · simp (disch:=omega) only [↓wr,↓reduceIte,wq,ai,ah,ak,ae,af,ag,aj,isNil,Nat.reduceEqDiff,Nat.reduceAdd,Nat.reduceLT,Nat.reduceLeDiff,Int.reduceNeg,Int.reduceToNat,reduceCtorEq,ho.len]
      refine az.vr hc (by kernel_rfl) (.val _) ⟨lg,lv,.tree (.val _),trivial⟩ ?_
      simp (disch:=omega) only [↓wr,↓reduceIte,wq,ai,ah,ak,ae,af,ag,aj,isNil,Nat.reduceEqDiff,Nat.reduceAdd,Nat.reduceLT,Nat.reduceLeDiff,Int.reduceNeg,Int.reduceToNat,reduceCtorEq]
      refine an.split (fun hp=>?_) (fun hp=>?_)
      · simp (disch:=omega) only [↓wr,↓reduceIte,wq,ai,ah,ak,ae,af,ag,aj,isNil,Nat.reduceEqDiff,Nat.reduceAdd,Nat.reduceLT,Nat.reduceLeDiff,Int.reduceNeg,Int.reduceToNat,reduceCtorEq,hlv,he]
        refine an.eq (fun e=>absurd e (by omega)) (fun _=>?_)
        have hgt:=hg.aw
        unfold aL at hgt
        simp (disch:=omega) only [↓wr,↓reduceIte,wq,ai,ah,ak,ae,af,ag,aj,isNil,Nat.reduceEqDiff,Nat.reduceAdd,Nat.reduceLT,Nat.reduceLeDiff,Int.reduceNeg,Int.reduceToNat,reduceCtorEq]
        refine bo.up g.aw.length (fun i T H'=>∃ u1,cR H' u1 ((List.range i).foldl (fun o (t:Nat)=>bH (cF g) g.aw.length bud k (h ++ [(t:Int)]) o) out)∧Left H0 H' u u1 ∧
          T 4=u1∧T 1=v∧T 2=gi (h.length+(k+1):Nat)∧T 3=gi bud∧T 5=.aJ (ar g) 0∧T 11=gi i) ⟨u,ho,.refl,rfl,rfl,rfl,rfl,rfl,rfl⟩ ?_
        rintro i j T H3 hk ⟨u1,ho3,kp,t4,t1,t2,t3,t5,t11⟩
        have hov3:=hov.left kp hd
        obtain ⟨rd3,he3⟩:=oX hov3
        simp (disch:=omega) only [↓wr,↓reduceIte,wq,ai,ah,ak,ae,af,ag,aj,isNil,Nat.reduceEqDiff,Nat.reduceAdd,Nat.reduceLT,Nat.reduceLeDiff,Int.reduceNeg,Int.reduceToNat,reduceCtorEq,jY,t4,t1,t2,t3,t5,t11,ar,encS]
        refine an.dec (fun hi=>?_) (fun hi=>?_)
        · simp (disch:=omega) only [↓wr,↓reduceIte,wq,ai,ah,ak,ae,af,ag,aj,isNil,Nat.reduceEqDiff,Nat.reduceAdd,Nat.reduceLT,Nat.reduceLeDiff,Int.reduceNeg,Int.reduceToNat,reduceCtorEq,t4,t1,t2,t3,t5,t11,ar,encS,he3]
          refine ed (es:=[]) .nil (xE h) (by unfold aM; simp; omega) (by unfold aM; simp; omega) ?_
          intro ua H4 o4 l4
          rw[List.nil_append] at o4
          have fr4:c6 H3 H4 ua:=fun id hid=>l4 id hid (by simp[owner])
          simp (disch:=omega) only [↓wr,↓reduceIte,wq,ai,ah,ak,ae,af,ag,aj,isNil,Nat.reduceEqDiff,Nat.reduceAdd,Nat.reduceLT,Nat.reduceLeDiff,Int.reduceNeg,Int.reduceToNat,reduceCtorEq,t4,t1,t2,t3,t5,t11]
          intro m hm
          rw[dG]
          simp (disch:=omega) only [↓wr,↓reduceIte,wq,ai,ah,ak,ae,af,ag,aj,isNil,Nat.reduceEqDiff,Nat.reduceAdd,Nat.reduceLT,Nat.reduceLeDiff,Int.reduceNeg,Int.reduceToNat,reduceCtorEq,t4,t1,t2,t3,t5,t11]
          refine ed (o4.fresh hm) (by simp[aN]) (by unfold aM; simp; omega) (by unfold aM; simp; omega) ?_
          intro ub H5 o5 l5
          have hlive:∀ id,H3 id≠.dead→H5 id=H3 id∧owner ub≠some id:=fun id hid=>by
            have h3:=fr4 id hid
            have him:id≠m:=by
              rintro rfl
              rw[h3.1] at hm
              exact hid hm
            have h4:=l5 id (by simp only[View.set,if_neg him]; rw[h3.1]; exact hid) h3.2
            refine ⟨?_,h4.2⟩
            rw[h4.1]
            simp only[View.set,if_neg him,h3.1]
          have hcall:=ih (h ++ [(i:Int)]) (fun x hx=>by
            rcases List.mem_append.1 hx with hx | hx
            · exact hh x hx
            · simp at hx; omega) (by simp; omega) ub u1 _ H5 (by simpa using o5) (ho3.keep fun id hid=>(hlive id hid).1) (te hlo) (fun id e1 e2=>by
              obtain ⟨b,_,hob,_⟩:=ho3
              exact (hlive id (by rw[(hob.live e2).1]; simp)).2 e1)
          rw[show (h ++ [(i:Int)]).length+k=h.length+(k+1) by simp; omega] at hcall
          simp only[ar,encS] at hcall
          simp (disch:=omega) only [↓wr,↓reduceIte,wq,ai,ah,ak,ae,af,ag,aj,isNil,Nat.reduceEqDiff,Nat.reduceAdd,Nat.reduceLT,Nat.reduceLeDiff,Int.reduceNeg,Int.reduceToNat,reduceCtorEq,t4,t1,t2,t3,t5,t11,ar,encS]
          refine az.dg (hcall.mono ?_)
          rintro u5 H6 ⟨ho6,l6⟩
          simp (disch:=omega) only [↓wr,↓reduceIte,wq,ai,ah,ak,ae,af,ag,aj,isNil,Nat.reduceEqDiff,Nat.reduceAdd,Nat.reduceLT,Nat.reduceLeDiff,Int.reduceNeg,Int.reduceToNat,reduceCtorEq,t4,t1,t2,t3,t5,t11]
          refine bb hk (by omega) ⟨u5,?_,kp.trans (Left.trans (fun id hd hu=>⟨(hlive id hd).1,hu⟩) l6),rfl,t1,t2,t3,t5,rfl⟩
          rw[List.range_succ,List.foldl_append]
          exact ho6
        · have e:i=g.aw.length:=by omega
          subst e
          simp (disch:=omega) only [↓wr,↓reduceIte,wq,ai,ah,ak,ae,af,ag,aj,isNil,Nat.reduceEqDiff,Nat.reduceAdd,Nat.reduceLT,Nat.reduceLeDiff,Int.reduceNeg,Int.reduceToNat,reduceCtorEq,t4,t1,t2,t3,t5,t11]
          refine ⟨?_,kp⟩
          rw[bH,if_neg (by rw[hp]; simp; simpa using hb)]
          exact ho3
      · simp (disch:=omega) only [↓wr,↓reduceIte,wq,ai,ah,ak,ae,af,ag,aj,isNil,Nat.reduceEqDiff,Nat.reduceAdd,Nat.reduceLT,Nat.reduceLeDiff,Int.reduceNeg,Int.reduceToNat,reduceCtorEq]
        exact ⟨by rw[bH,if_pos (.inr hp)]; exact ho,.refl⟩
def ib (g:au) (n b:Int):Bool:=aT g && decide (0≤n) && decide (n≤10) && decide (0≤b) && decide (b≤500)
noncomputable def b6 (g:au) (n b:Int):List (List Int) × Int:=if ib g n b=true then (let l:=bH (cF g) g.aw.length b.toNat n.toNat [] []; if b.toNat < l.length then ([],13) else (l,0)) else ([],1)
noncomputable def dY (g:au) (b:Nat):Nat→List (List Int)
  | 0=>[]
  | n+1=>bH (cF g) g.aw.length b n [] (dY g b n)
noncomputable def eT (g:au) (n b:Int):List (List Int) × Int:=if ib g n b=true then (let l:=dY g b.toNat (n.toNat+1); if b.toNat < l.length then ([],13) else (l,0)) else ([],1)
theorem yH (g:au) (b:Nat):∀ n,(dY g b n).length≤b+1
  | 0=>by simp[dY]
  | n+1=>sR (yH g b n)
def dD (x:List (List Int) × Int):V:=.bp [cW x.1,gi x.2]
theorem wv (x:List (List Int) × Int):Tree (dD x):=yf (mZ _) (.val _)
theorem jx (g:au) (n b:Int):∀ v∈[V.agg (ar g),gi n,gi b],Tree v:=by
  intro v hv; simp at hv
  rcases hv with rfl | rfl | rfl
  · exact bF _ (bB g)
  · exact .val _
  · exact .val _
theorem ee {h:aE} {u:V} {out:List (List Int)} {e:Int} (ho:cR h.view u out):dA h (.bp [u,gi e]) (dD (out,e)):=by
  refine .bp _ _ rfl fun j hj=>?_
  match j,hj with
  | 0,_=>exact ho.Ev
  | 1,_=>exact .val _
  | n+2,hj=>exact absurd hj (by simp only[List.length_cons,List.length_nil]; omega)
theorem Ar (g:au) (hg:g.Ok) (n b:Int):aC Tryz.prog 48 [.agg (ar g),gi n,gi b] (gb (ib g n b)):=by
  refine aC.val (jx g n b) fun H=>?_
  refine aB.of mixed qD ?_
  simp (disch:=omega) only [↓wr,↓reduceIte,wq,ai,ah,ak,ae,af,ag,aj,isNil,Nat.reduceEqDiff,Nat.reduceAdd,Nat.reduceLT,Nat.reduceLeDiff,Int.reduceNeg,Int.reduceToNat,reduceCtorEq,mJ,ar,encS]
  have hc:=rA g hg
  simp only[ar,encS] at hc
  refine az.pure hc (by kernel_rfl) ?_
  unfold ib
  repeat' (first | (refine an.dec (fun _=>?_) (fun _=>?_)) | (refine an.eq (fun _=>?_) (fun _=>?_)) | (refine an.ne (fun _=>?_) (fun _=>?_)) | (refine an.split (fun _=>?_) (fun _=>?_)) | (simp (disch:=omega) only [↓wr,↓reduceIte,wq,ai,ah,ak,ae,af,ag,aj,isNil,Nat.reduceEqDiff,Nat.reduceAdd,Nat.reduceLT,Nat.reduceLeDiff,Int.reduceNeg,Int.reduceToNat,reduceCtorEq]))
  all_goals (simp_all <;> (intros; omega))
set_option maxHeartbeats 4000000 in
theorem F8 (g:au) (hg:g.Ok) (n b:Int):cG Tryz.prog 25 [.agg (ar g),gi n,gi b] (dD (b6 g n b)):=by
  refine cG.of (jx g n b) ?_
  refine aB.of mixed qf ?_
  have hc:=Ar g hg n b
  simp only[ar,encS] at hc
  simp (disch:=omega) only [↓wr,↓reduceIte,wq,ai,ah,ak,ae,af,ag,aj,isNil,Nat.reduceEqDiff,Nat.reduceAdd,Nat.reduceLT,Nat.reduceLeDiff,Int.reduceNeg,Int.reduceToNat,reduceCtorEq,me,ar,encS]
  refine az.pure hc (by kernel_rfl) ?_
  simp (disch:=omega) only [↓wr,↓reduceIte,wq,ai,ah,ak,ae,af,ag,aj,isNil,Nat.reduceEqDiff,Nat.reduceAdd,Nat.reduceLT,Nat.reduceLeDiff,Int.reduceNeg,Int.reduceToNat,reduceCtorEq]
  refine an.split (fun hm=>?_) (fun hm=>?_)
  · have hm':=hm
    simp only[ib,Bool.and_eq_true,decide_eq_true_eq] at hm'
    obtain ⟨n,rfl⟩:∃ k:Nat,n=k:=⟨n.toNat,by omega⟩
    obtain ⟨b,rfl⟩:∃ k:Nat,b=k:=⟨b.toNat,by omega⟩
    simp (disch:=omega) only [↓wr,↓reduceIte,wq,ai,ah,ak,ae,af,ag,aj,isNil,Nat.reduceEqDiff,Nat.reduceAdd,Nat.reduceLT,Nat.reduceLeDiff,Int.reduceNeg,Int.reduceToNat,reduceCtorEq]
    have hmo:=BY g hg hm'.1.1.1.1 b (by omega) n [] (by simp) (by simp; omega) (.emp 1) (.emp 1) [] (fun _=>.dead) (.inl ⟨rfl,1,rfl⟩) .nil (by simp) (by simp[owner])
    simp only[ar,encS,List.length_nil,Nat.zero_add] at hmo
    refine az.dg (hmo.mono ?_)
    rintro u H1 ⟨ho,_⟩
    rw[b6,if_pos hm]
    simp only[Int.toNat_natCast]
    generalize bH (cF g) g.aw.length b n [] []=out at ho
    simp (disch:=omega) only [↓wr,↓reduceIte,wq,ai,ah,ak,ae,af,ag,aj,isNil,Nat.reduceEqDiff,Nat.reduceAdd,Nat.reduceLT,Nat.reduceLeDiff,Int.reduceNeg,Int.reduceToNat,reduceCtorEq,ho.len]
    refine an.dec (fun hc2=>?_) (fun hc2=>?_)
    · simp (disch:=omega) only [↓wr,↓reduceIte,wq,ai,ah,ak,ae,af,ag,aj,isNil,Nat.reduceEqDiff,Nat.reduceAdd,Nat.reduceLT,Nat.reduceLeDiff,Int.reduceNeg,Int.reduceToNat,reduceCtorEq]
      rintro h' rfl
      rw[if_pos (by omega)]
      exact ee .nil
    · simp (disch:=omega) only [↓wr,↓reduceIte,wq,ai,ah,ak,ae,af,ag,aj,isNil,Nat.reduceEqDiff,Nat.reduceAdd,Nat.reduceLT,Nat.reduceLeDiff,Int.reduceNeg,Int.reduceToNat,reduceCtorEq]
      rintro h' rfl
      rw[if_neg (by omega)]
      exact ee ho
  · simp (disch:=omega) only [↓wr,↓reduceIte,wq,ai,ah,ak,ae,af,ag,aj,isNil,Nat.reduceEqDiff,Nat.reduceAdd,Nat.reduceLT,Nat.reduceLeDiff,Int.reduceNeg,Int.reduceToNat,reduceCtorEq]
    intro h' _
    rw[b6,if_neg (by rw[hm]; simp)]
    exact ee .nil
set_option maxHeartbeats 4000000 in
theorem Eg (g:au) (hg:g.Ok) (n b:Int):cG Tryz.prog 29 [.agg (ar g),gi n,gi b] (dD (eT g n b)):=by
  refine cG.of (jx g n b) ?_
  refine aB.of mixed qp ?_
  have hc:=Ar g hg n b
  simp only[ar,encS] at hc
  simp (disch:=omega) only [↓wr,↓reduceIte,wq,ai,ah,ak,ae,af,ag,aj,isNil,Nat.reduceEqDiff,Nat.reduceAdd,Nat.reduceLT,Nat.reduceLeDiff,Int.reduceNeg,Int.reduceToNat,reduceCtorEq,lK,ar,encS]
  refine az.pure hc (by kernel_rfl) ?_
  simp (disch:=omega) only [↓wr,↓reduceIte,wq,ai,ah,ak,ae,af,ag,aj,isNil,Nat.reduceEqDiff,Nat.reduceAdd,Nat.reduceLT,Nat.reduceLeDiff,Int.reduceNeg,Int.reduceToNat,reduceCtorEq]
  refine an.split (fun hm=>?_) (fun hm=>?_)
  · have hm':=hm
    simp only[ib,Bool.and_eq_true,decide_eq_true_eq] at hm'
    obtain ⟨n,rfl⟩:∃ k:Nat,n=k:=⟨n.toNat,by omega⟩
    obtain ⟨b,rfl⟩:∃ k:Nat,b=k:=⟨b.toNat,by omega⟩
    simp (disch:=omega) only [↓wr,↓reduceIte,wq,ai,ah,ak,ae,af,ag,aj,isNil,Nat.reduceEqDiff,Nat.reduceAdd,Nat.reduceLT,Nat.reduceLeDiff,Int.reduceNeg,Int.reduceToNat,reduceCtorEq]
    refine bo.up (n+1) (fun i T H'=>∃ u,T 8=u∧cR H' u (dY g b i)∧T 1=gi n∧T 2=gi b∧T 3=.aJ (ar g) 0∧T 9=gi i) ⟨.emp 1,rfl,.nil,rfl,rfl,rfl,rfl⟩ ?_
    rintro i j T H2 hk ⟨u,ht8,ho,t1,t2,t3,t9⟩
    simp (disch:=omega) only [↓wr,↓reduceIte,wq,ai,ah,ak,ae,af,ag,aj,isNil,Nat.reduceEqDiff,Nat.reduceAdd,Nat.reduceLT,Nat.reduceLeDiff,Int.reduceNeg,Int.reduceToNat,reduceCtorEq,jN,ht8,t1,t2,t3,t9]
    refine an.dec (fun hc2=>?_) (fun hc2=>?_)
    · have hmo:=BY g hg hm'.1.1.1.1 b (by omega) i [] (by simp) (by simp; omega) (.emp 1) u (dY g b i) H2 (.inl ⟨rfl,1,rfl⟩) ho (yH g b i) (by simp[owner])
      simp only[ar,encS,List.length_nil,Nat.zero_add] at hmo
      simp (disch:=omega) only [↓wr,↓reduceIte,wq,ai,ah,ak,ae,af,ag,aj,isNil,Nat.reduceEqDiff,Nat.reduceAdd,Nat.reduceLT,Nat.reduceLeDiff,Int.reduceNeg,Int.reduceToNat,reduceCtorEq,ht8,t1,t2,t3,t9,ar,encS]
      refine az.dg (hmo.mono ?_)
      rintro u3 H3 ⟨ho3,_⟩
      simp (disch:=omega) only [↓wr,↓reduceIte,wq,ai,ah,ak,ae,af,ag,aj,isNil,Nat.reduceEqDiff,Nat.reduceAdd,Nat.reduceLT,Nat.reduceLeDiff,Int.reduceNeg,Int.reduceToNat,reduceCtorEq,ht8,t1,t2,t3,t9]
      exact bb hk (by omega) ⟨u3,rfl,ho3,t1,t2,t3,rfl⟩
    · have e:i=n+1:=by omega
      subst e
      rw[eT,if_pos hm]
      simp only[Int.toNat_natCast]
      generalize dY g b (n+1)=out at ho
      simp (disch:=omega) only [↓wr,↓reduceIte,wq,ai,ah,ak,ae,af,ag,aj,isNil,Nat.reduceEqDiff,Nat.reduceAdd,Nat.reduceLT,Nat.reduceLeDiff,Int.reduceNeg,Int.reduceToNat,reduceCtorEq,ht8,t1,t2,t3,t9,ho.len]
      refine an.dec (fun hc2=>?_) (fun hc2=>?_)
      · simp (disch:=omega) only [↓wr,↓reduceIte,wq,ai,ah,ak,ae,af,ag,aj,isNil,Nat.reduceEqDiff,Nat.reduceAdd,Nat.reduceLT,Nat.reduceLeDiff,Int.reduceNeg,Int.reduceToNat,reduceCtorEq]
        rintro h' rfl
        rw[if_pos (by omega)]
        exact ee .nil
      · simp (disch:=omega) only [↓wr,↓reduceIte,wq,ai,ah,ak,ae,af,ag,aj,isNil,Nat.reduceEqDiff,Nat.reduceAdd,Nat.reduceLT,Nat.reduceLeDiff,Int.reduceNeg,Int.reduceToNat,reduceCtorEq,ht8]
        rintro h' rfl
        rw[if_neg (by omega)]
        exact ee ho
  · simp (disch:=omega) only [↓wr,↓reduceIte,wq,ai,ah,ak,ae,af,ag,aj,isNil,Nat.reduceEqDiff,Nat.reduceAdd,Nat.reduceLT,Nat.reduceLeDiff,Int.reduceNeg,Int.reduceToNat,reduceCtorEq]
    intro h' _
    rw[eT,if_neg (by rw[hm]; simp)]
    exact ee .nil
end Gv
set_option linter.unusedSimpArgs false
set_option maxRecDepth 100000
namespace Gv
open Go Go.Proofs
def kM:DC :=
  .seq (.seq (av [aa 34 8,aa 35 7,aI 36 35,aK 37 .lss 34 36]) <|
  .cond (.tmp 37) (.skip) (.exit 0)) <|
  .block 1 (av [aa 38 8,aa 39 7,aa 40 8,((some 41),.op (.slice 1 (.tmp 39) (some (.tmp 40)) none)),aa 42 7,aa 43 8,((some 44),.op (.slice 1 (.tmp 42) none (some (.tmp 43)))),((some 45),.op (.bc (.call { callee:=.builtin .copy,args:=#[(.tmp 41),(.tmp 44)],argTypes:=#[27,27] }) 3)),aK 46 .add 38 45,aa 8 46])
def fA:DF:=⟨.seq (av [((some 4),.op (.bg (.val (.emp 1))))]) <|
  .seq (.seq (av [aa 9 1,ax 10 .lss 9 0]) <|
  .cond (.tmp 10) (.region [] [⟨none,[((some 11),.op (.bc (.makeInterface 9 (.const (.string ⟨#[99,97,110,110,111,116,32,98,101,32,110,101,103,97,116,105,118,101]⟩))) 20)),(none,.op (.bc (.panic (.tmp 11)) 0))]⟩]) (.skip)) <|
  .seq (av [aa 13 0,aI 14 13,((some 15),.op (.conv .u64 (.tmp 14))),aa 16 1,((some 17),.op (.conv .u64 (.tmp 16))),aF 18 122 [15,17],aa 12 18,bK 19 0 12,bK 20 1 12,aa 5 19,aa 6 20]) <|
  .seq (.seq (.region [] [⟨none,[aa 21 5,((some 22),.op (.arith .gtr (.tmp 21) (.val (.val (.int .u64 0))))),aa 23 22]⟩,⟨(some (23,false)),[aa 24 6,((some 25),.op (.arith .gtr (.tmp 24) (.val (.val (.int .u64 9223372036854775807)))))]⟩,⟨none,[bf 26 23 25]⟩]) <|
  .cond (.tmp 26) (.region [] [⟨none,[((some 27),.op (.bc (.makeInterface 9 (.const (.string ⟨#[116,104,101,32,114,101,115,117,108,116,32,111,102,32,40,108,101,110,40,120,41,32,42,32,99,111,117,110,116,41,32,111,118,101,114,102,108,111,119,115]⟩))) 20)),(none,.op (.bc (.panic (.tmp 27)) 0))]⟩]) (.skip)) <|
  .seq (av [aa 28 6,((some 29),.op (.conv .i64 (.tmp 28))),((some 30),.op (.make 1 8 [(.val (.int .i64 0))] (.tmp 29) (.tmp 29))),aa 7 30]) <|
  .seq (av [aa 31 7,aa 32 0,((some 33),.op (.bc (.call { callee:=.builtin .copy,args:=#[(.tmp 31),(.tmp 32)],argTypes:=#[27,27] }) 3)),aa 8 33]) <|
  .seq (.block 0 (.loop kM)) <|
  .seq (av [aa 47 7,aa 4 47]) <|
  .ret,
  [.tmp 4],48⟩
theorem kf:bm Tryz.prog 81 []=some fA:=by kernel_rfl
def oB:DF:=⟨.seq (av [((some 4),.op (.bg (.val (.val (.int .u64 0))))),((some 5),.op (.bg (.val (.val (.int .u64 0)))))]) <|
  .seq (.cond (.val (.val (.bool false))) (.seq (av [aa 11 0,((some 12),.op (.conv .u32 (.tmp 11))),aa 13 1,((some 14),.op (.conv .u32 (.tmp 13))),aF 15 150 [12,14],aa 10 15,bK 16 0 10,bK 17 1 10,aa 6 16,aa 7 17]) <|
  .seq (av [aa 18 6,((some 19),.op (.conv .u64 (.tmp 18))),aa 20 7,((some 21),.op (.conv .u64 (.tmp 20))),aa 4 19,aa 5 21]) <|
  .ret) (.skip)) <|
  .seq (av [aa 23 0,aa 24 1,aF 25 151 [23,24],aa 22 25,bK 26 0 22,bK 27 1 22,aa 8 26,aa 9 27]) <|
  .seq (av [aa 28 8,aa 29 9,aa 4 28,aa 5 29]) <|
  .ret,
  [.tmp 4,.tmp 5],30⟩
theorem sT:bm Tryz.prog 122 []=some oB:=by kernel_rfl
def mI:DF:=⟨.seq (av [((some 4),.op (.bg (.val (.val (.int .u32 0))))),((some 5),.op (.bg (.val (.val (.int .u32 0)))))]) <|
  .seq (av [aa 7 0,((some 8),.op (.conv .u64 (.tmp 7))),aa 9 1,((some 10),.op (.conv .u64 (.tmp 9))),aK 11 .mul 8 10,aa 6 11]) <|
  .seq (av [aa 12 6,((some 13),.op (.sh false (.tmp 12) (.val (.val (.int .u64 32))))),((some 14),.op (.conv .u32 (.tmp 13))),aa 15 6,((some 16),.op (.conv .u32 (.tmp 15))),aa 4 14,aa 5 16]) <|
  .ret,
  [.tmp 4,.tmp 5],17⟩
theorem rr:bm Tryz.prog 150 []=some mI:=by kernel_rfl
def mT:DF:=⟨.seq (av [((some 4),.op (.bg (.val (.val (.int .u64 0))))),((some 5),.op (.bg (.val (.val (.int .u64 0)))))]) <|
  .seq (av [aa 14 0,((some 15),.op (.arith .and (.tmp 14) (.val (.val (.int .u64 4294967295))))),aa 6 15]) <|
  .seq (av [aa 16 0,((some 17),.op (.sh false (.tmp 16) (.val (.val (.int .u64 32))))),aa 7 17]) <|
  .seq (av [aa 18 1,((some 19),.op (.arith .and (.tmp 18) (.val (.val (.int .u64 4294967295))))),aa 8 19]) <|
  .seq (av [aa 20 1,((some 21),.op (.sh false (.tmp 20) (.val (.val (.int .u64 32))))),aa 9 21]) <|
  .seq (av [aa 22 6,aa 23 8,aK 24 .mul 22 23,aa 10 24]) <|
  .seq (av [aa 25 7,aa 26 8,aK 27 .mul 25 26,aa 28 10,((some 29),.op (.sh false (.tmp 28) (.val (.val (.int .u64 32))))),aK 30 .add 27 29,aa 11 30]) <|
  .seq (av [aa 31 11,((some 32),.op (.arith .and (.tmp 31) (.val (.val (.int .u64 4294967295))))),aa 12 32]) <|
  .seq (av [aa 33 11,((some 34),.op (.sh false (.tmp 33) (.val (.val (.int .u64 32))))),aa 13 34]) <|
  .seq (av [aa 35 12,aa 36 6,aa 37 9,aK 38 .mul 36 37,aK 39 .add 35 38,aa 12 39]) <|
  .seq (av [aa 40 7,aa 41 9,aK 42 .mul 40 41,aa 43 13,aK 44 .add 42 43,aa 45 12,((some 46),.op (.sh false (.tmp 45) (.val (.val (.int .u64 32))))),aK 47 .add 44 46,aa 4 47]) <|
  .seq (av [aa 48 0,aa 49 1,aK 50 .mul 48 49,aa 5 50]) <|
  .ret,
  [.tmp 4,.tmp 5],51⟩
theorem qQ:bm Tryz.prog 151 []=some mT:=by kernel_rfl
def w5:List (FuncId × DF):=[(81,fA),(122,oB),(150,mI),(151,mT)]
theorem Dd:rI Tryz.prog w5:=by
  intro p hp
  simp only[w5,List.mem_cons,List.not_mem_nil,or_false] at hp
  rcases hp with rfl | rfl | rfl | rfl
  · exact ⟨_,kf⟩
  · exact ⟨_,sT⟩
  · exact ⟨_,rr⟩
  · exact ⟨_,qQ⟩
theorem HR {n:Nat} (h:pO Tryz.prog w5 (fun _ _=>none) 81 [encI [-1],gi n]=some (encI (List.replicate n (-1)))):cG Tryz.prog 81 [encI [-1],gi n] (encI (List.replicate n (-1))) :=
  rf mixed Dd (Dm _) (by
    intro v hv; simp at hv
    rcases hv with rfl | rfl
    · exact cn [-1]
    · exact .val _) h
theorem DP {n:Nat} (h2:n≤10):cG Tryz.prog 81 [encI [-1],gi n] (encI (List.replicate n (-1))):=by
  have:n=0∨n=1∨n=2∨n=3∨n=4∨n=5∨n=6∨n=7∨n=8∨n=9∨n=10:=by omega
  rcases this with rfl | rfl | rfl | rfl | rfl | rfl | rfl | rfl | rfl | rfl | rfl <;> exact HR (by kernel_rfl)
def uy:SF:=⟨.seq (al [b7 3 0,aP 6 false]) <|
  .seq (.region false [⟨none,[aO 7 4 3,aF 8 38 [7],aa 9 8]⟩,⟨(some (9,true)),[aa 10 1,ax 11 .geq 10 0]⟩,⟨none,[bk 12 9 11,aa 13 12]⟩,⟨(some (13,true)),[aa 14 1,ax 15 .leq 14 10]⟩,⟨none,[bk 16 13 15,aa 17 16]⟩,⟨(some (17,true)),[aa 18 2,ax 19 .geq 18 0]⟩,⟨none,[bk 20 17 19,aa 21 20]⟩,⟨(some (21,true)),[aa 22 2,ax 23 .leq 22 500]⟩,⟨none,[bk 24 21 23,aa 6 24]⟩]) <|
  .ret,
  [.tmp 6],25⟩
theorem xd:aR Tryz.prog 46 [3]=some uy:=by kernel_rfl
def ku:SC :=
  .seq (al [aK 18 .lss 17 16]) <|
  .seq (.cond (.tmp 18) (.skip) (.exit 0)) <|
  .seq (.block 1 (.seq (al [aX 19 1 15 17,ao 20 19,aa 10 20]) <|
  al [aa 21 8,((some 22),.op (.bu 1 1 [(.val (.int .i64 0))] [(0,(.val (.val (.int .i64 (-1)))))])),aa 23 10,aF 24 81 [22,23],bT 25 80 [(.tmp 21),(.tmp 24),(.val (.val (.int .i64 0)))]])) <|
  al [ax 26 .add 17 1,aa 17 26]
def mQ:SF:=⟨.seq (al [b7 3 0,((some 6),.op (.bg (.val (.emp 1)))),aG 7 0]) <|
  .seq (al [aO 11 4 3,aa 12 2,((some 13),.op (.build [(.emp 1),(.emp 1),(.emp 1),(.val (.int .i64 0)),(.val (.int .i64 0)),(.emp 1)] [(0,4,(.tmp 11)),(4,1,(.tmp 12))])),((some 14),.op (.box (.tmp 13))),aa 8 14]) <|
  .seq (.seq (al [aa 15 1,aI 16 15,aG 17 0]) <|
  .block 0 (.loop ku)) <|
  .seq (.seq (al [aa 27 8,aF 28 82 [27]]) <|
  .cond (.tmp 28) (.seq (al [((some 6),.op (.bg (.val (.emp 1)))),aG 7 13]) <|
  .ret) (.skip)) <|
  .seq (al [aa 29 8,bh 30 29,aq 31 5 30,ao 32 31,aa 6 32,aG 7 0]) <|
  .ret,
  [.tmp 6,.tmp 7],33⟩
theorem rM:aR Tryz.prog 47 [3]=some mQ:=by kernel_rfl
def s9:SF:=⟨.seq (al [b7 3 0,((some 6),.op (.bg (.val (.emp 1)))),aG 7 0]) <|
  .seq (.seq (al [aO 8 4 3,aa 9 1,aa 10 2,aF 11 46 [8,9,10],bQ 12 11]) <|
  .cond (.tmp 12) (.seq (al [((some 6),.op (.bg (.val (.emp 1)))),aG 7 1]) <|
  .ret) (.skip)) <|
  .seq (al [aO 13 4 3,aa 14 1,((some 15),.op (.bu 1 1 [(.val (.int .i64 0))] [(0,(.tmp 14))])),aa 16 2,aF 17 47 [13,15,16],bK 18 0 17,bK 19 1 17,aa 6 18,aa 7 19]) <|
  .ret,
  [.tmp 6,.tmp 7],20⟩
theorem wW:aR Tryz.prog 24 [3]=some s9:=by kernel_rfl
def qj:SC :=
  .seq (al [aK 18 .lss 17 16]) <|
  .seq (.cond (.tmp 18) (.skip) (.exit 0)) <|
  .seq (.block 1 (.seq (al [aa 19 17,aa 9 19]) <|
  al [aa 20 8,aa 21 9,((some 22),.op (.bu 1 1 [(.val (.int .i64 0))] [(0,(.tmp 21))])),((some 23),.op (.app 1 8 (.tmp 20) (.tmp 22))),aa 8 23])) <|
  al [ax 24 .add 17 1,aa 17 24]
def s5:SF:=⟨.seq (al [b7 3 0,((some 6),.op (.bg (.val (.emp 1)))),aG 7 0]) <|
  .seq (.seq (al [aO 10 4 3,aa 11 1,aa 12 2,aF 13 46 [10,11,12],bQ 14 13]) <|
  .cond (.tmp 14) (.seq (al [((some 6),.op (.bg (.val (.emp 1)))),aG 7 1]) <|
  .ret) (.skip)) <|
  .seq (al [((some 8),.op (.bg (.val (.emp 1))))]) <|
  .seq (.seq (al [aa 15 1,ax 16 .add 15 1,aG 17 0]) <|
  .block 0 (.loop qj)) <|
  .seq (al [aO 25 4 3,aa 26 8,aa 27 2,aF 28 47 [25,26,27],bK 29 0 28,bK 30 1 28,aa 6 29,aa 7 30]) <|
  .ret,
  [.tmp 6,.tmp 7],31⟩
theorem vX:aR Tryz.prog 28 [3]=some s5:=by kernel_rfl
theorem BX (g:au) (hg:g.Ok) (hs:g.Small) (n b:Int):aC Tryz.prog 46 [.agg (ar g),gi n,gi b] (gb (ib g n b)):=by
  refine aC.val (jx g n b) fun H=>?_
  refine aB.of mixed xd ?_
  simp (disch:=omega) only [↓wr,↓reduceIte,wq,ai,ah,ak,ae,af,ag,aj,isNil,Nat.reduceEqDiff,Nat.reduceAdd,Nat.reduceLT,Nat.reduceLeDiff,Int.reduceNeg,Int.reduceToNat,reduceCtorEq,uy,ar,encS]
  have hc:=sH g hg hs.names
  simp only[ar,encS] at hc
  refine az.pure hc (by kernel_rfl) ?_
  unfold ib
  repeat' (first | (refine an.dec (fun _=>?_) (fun _=>?_)) | (refine an.eq (fun _=>?_) (fun _=>?_)) | (refine an.ne (fun _=>?_) (fun _=>?_)) | (refine an.split (fun _=>?_) (fun _=>?_)) | (simp (disch:=omega) only [↓wr,↓reduceIte,wq,ai,ah,ak,ae,af,ag,aj,isNil,Nat.reduceEqDiff,Nat.reduceAdd,Nat.reduceLT,Nat.reduceLeDiff,Int.reduceNeg,Int.reduceToNat,reduceCtorEq]))
  all_goals (simp_all <;> (intros; omega))
noncomputable def ln (g:au) (b:Nat):List Nat→List (List Int)→List (List Int)
  | [],out=>out
  | n :: l,out=>ln g b l (bH (cF g) g.aw.length b n [] out)
noncomputable def vF (g:au) (b:Nat) (l:List Nat):List (List Int) × Int:=if b < (ln g b l []).length then ([],13) else (ln g b l [],0)
theorem qK (g:au) (b n:Nat):∀ (l:List Nat) (out:List (List Int)),ln g b (l ++ [n]) out=bH (cF g) g.aw.length b n [] (ln g b l out)
  | [],_=>rfl
  | m :: l,out=>by rw[List.cons_append,ln,ln,qK g b n l]
theorem xX (g:au) (b:Nat):∀ (l:List Nat) (out:List (List Int)),out.length≤b+1→(ln g b l out).length≤b+1
  | [],_,h=>h
  | n :: l,_,h=>xX g b l _ (sR h)
set_option maxHeartbeats 4000000 in
theorem s7 (g:au) (hg:g.Ok) (hs:g.Small) (hr:aT g=true) (b:Nat) (hb:b≤500) (l:List Nat) (hl:l.length≤100) (hn:∀ n∈l,n≤10) :
    cG Tryz.prog 47 [.agg (ar g),encI (l.map fun (n:Nat)=>(n:Int)),gi b] (dD (vF g b l)):=by
  refine cG.of (by
    intro v hv; simp at hv
    rcases hv with rfl | rfl | rfl
    · exact bF _ (bB g)
    · exact cn _
    · exact .val _) ?_
  refine aB.of mixed rM ?_
  simp (disch:=omega) only [↓wr,↓reduceIte,wq,ai,ah,ak,ae,af,ag,aj,isNil,Nat.reduceEqDiff,Nat.reduceAdd,Nat.reduceLT,Nat.reduceLeDiff,Int.reduceNeg,Int.reduceToNat,reduceCtorEq,mQ,ar,encS,encI]
  intro f
  refine bo.up l.length (fun i T H'=>∃ u,H' f=.arr 6 [ie g b u]∧cR H' u (ln g b (l.take i) [])∧T 8=.ptr f 0 0∧T 15=encI (l.map fun (n:Nat)=>(n:Int))∧T 16=gi l.length∧T 17=gi i) ⟨.emp 1,by simp[View.set,ie],.nil,rfl,rfl,rfl,rfl⟩ ?_
  rintro i j T H1 hk ⟨u,hf,ho,t8,t15,t16,t17⟩
  simp (disch:=omega) only [↓wr,↓reduceIte,wq,ai,ah,ak,ae,af,ag,aj,isNil,Nat.reduceEqDiff,Nat.reduceAdd,Nat.reduceLT,Nat.reduceLeDiff,Int.reduceNeg,Int.reduceToNat,reduceCtorEq,ku,t8,t15,t16,t17,encI]
  refine an.dec (fun hi=>?_) (fun hi=>?_)
  · have h2:l[i]?=some (l[i]'(by omega)):=List.getElem?_eq_getElem (by omega)
    have hm:=List.mem_of_getElem? h2
    have htk:l.take (i+1)=l.take i ++ [l[i]'(by omega)]:=by rw[List.take_add_one,h2]; rfl
    generalize l[i]'(by omega)=n at h2 hm htk
    have h10:=hn n hm
    have hlo:=xX g b (l.take i) [] (by simp)
    simp (disch:=omega) only [↓wr,↓reduceIte,wq,ai,ah,ak,ae,af,ag,aj,isNil,Nat.reduceEqDiff,Nat.reduceAdd,Nat.reduceLT,Nat.reduceLeDiff,Int.reduceNeg,Int.reduceToNat,reduceCtorEq,t8,t15,t16,t17,encI,List.getElem?_map,h2,Option.map_some]
    intro m hmd
    have hfm:f≠m:=by rintro rfl; rw[hf] at hmd; simp at hmd
    refine az.rj (DP h10) (by kernel_rfl) ⟨q4 (l:=[-1]) (by simp[View.set]) rfl,.tree (.val _),trivial⟩ ?_
    simp (disch:=omega) only [↓wr,↓reduceIte,wq,ai,ah,ak,ae,af,ag,aj,isNil,Nat.reduceEqDiff,Nat.reduceAdd,Nat.reduceLT,Nat.reduceLeDiff,Int.reduceNeg,Int.reduceToNat,reduceCtorEq,t8,t15,t16,t17]
    have hlive:∀ id,H1 id≠.dead→(H1.set m (.arr 1 [[gi (-1)]])) id=H1 id:=fun id hid=>by
      have:id≠m:=by rintro rfl; exact hid hmd
      simp[View.set,this]
    have hcall:=ID g hg hs hr b hb f n [] (by simp) (by simp; omega) (encI (pad [] n)) u _ (H1.set m (.arr 1 [[gi (-1)]])) (by rw[hlive f (by rw[hf]; simp)]; exact hf) (ho.keep hlive) hlo (.inl rfl)
    simp only[pad,List.nil_append,List.length_nil] at hcall
    refine az.dg (hcall.mono ?_)
    rintro r H2 ⟨u2,hf2,ho2,_⟩
    simp (disch:=omega) only [↓wr,↓reduceIte,wq,ai,ah,ak,ae,af,ag,aj,isNil,Nat.reduceEqDiff,Nat.reduceAdd,Nat.reduceLT,Nat.reduceLeDiff,Int.reduceNeg,Int.reduceToNat,reduceCtorEq,t8,t15,t16,t17]
    refine bb hk (by omega) ⟨u2,hf2,?_,t8,t15,t16,rfl⟩
    rw[htk,qK]; exact ho2
  · rw[List.take_of_length_le (by omega)] at ho
    simp (disch:=omega) only [↓wr,↓reduceIte,wq,ai,ah,ak,ae,af,ag,aj,isNil,Nat.reduceEqDiff,Nat.reduceAdd,Nat.reduceLT,Nat.reduceLeDiff,Int.reduceNeg,Int.reduceToNat,reduceCtorEq,t8,t15,t16,t17]
    refine az.dg ((uH g b f u _ H1 hf ho).mono ?_)
    rintro r H2 ⟨rfl,rfl⟩
    simp (disch:=omega) only [↓wr,↓reduceIte,wq,ai,ah,ak,ae,af,ag,aj,isNil,Nat.reduceEqDiff,Nat.reduceAdd,Nat.reduceLT,Nat.reduceLeDiff,Int.reduceNeg,Int.reduceToNat,reduceCtorEq]
    unfold vF
    refine an.dec (fun hc=>?_) (fun hc=>?_)
    · simp (disch:=omega) only [↓wr,↓reduceIte,wq,ai,ah,ak,ae,af,ag,aj,isNil,Nat.reduceEqDiff,Nat.reduceAdd,Nat.reduceLT,Nat.reduceLeDiff,Int.reduceNeg,Int.reduceToNat,reduceCtorEq]
      intro h' _
      rw[if_pos hc]
      exact ee .nil
    · simp (disch:=omega) only [↓wr,↓reduceIte,wq,ai,ah,ak,ae,af,ag,aj,isNil,Nat.reduceEqDiff,Nat.reduceAdd,Nat.reduceLT,Nat.reduceLeDiff,Int.reduceNeg,Int.reduceToNat,reduceCtorEq,t8,hf,ie]
      rintro h' rfl
      rw[if_neg hc]
      exact ee ho
set_option maxHeartbeats 4000000 in
theorem iM (g:au) (hg:g.Ok) (hs:g.Small) (n b:Int):aC Tryz.prog 24 [.agg (ar g),gi n,gi b] (dD (b6 g n b)):=by
  refine aC.of (jx g n b) ?_
  refine aB.of mixed wW ?_
  have hc:=BX g hg hs n b
  simp only[ar,encS] at hc
  simp (disch:=omega) only [↓wr,↓reduceIte,wq,ai,ah,ak,ae,af,ag,aj,isNil,Nat.reduceEqDiff,Nat.reduceAdd,Nat.reduceLT,Nat.reduceLeDiff,Int.reduceNeg,Int.reduceToNat,reduceCtorEq,s9,ar,encS]
  refine az.pure hc (by kernel_rfl) ?_
  simp (disch:=omega) only [↓wr,↓reduceIte,wq,ai,ah,ak,ae,af,ag,aj,isNil,Nat.reduceEqDiff,Nat.reduceAdd,Nat.reduceLT,Nat.reduceLeDiff,Int.reduceNeg,Int.reduceToNat,reduceCtorEq]
  refine an.split (fun hm=>?_) (fun hm=>?_)
  · have hm':=hm
    simp only[ib,Bool.and_eq_true,decide_eq_true_eq] at hm'
    obtain ⟨n,rfl⟩:∃ k:Nat,n=k:=⟨n.toNat,by omega⟩
    obtain ⟨b,rfl⟩:∃ k:Nat,b=k:=⟨b.toNat,by omega⟩
    have hcall:=s7 g hg hs hm'.1.1.1.1 b (by omega) [n] (by simp) (by simp; omega)
    have he:vF g b [n]=b6 g n b:=by rw[b6,if_pos hm]; rfl
    rw[he] at hcall
    generalize b6 g n b=x at hcall
    simp only[ar,encS,List.map_cons,List.map_nil] at hcall
    simp (disch:=omega) only [↓wr,↓reduceIte,wq,ai,ah,ak,ae,af,ag,aj,isNil,Nat.reduceEqDiff,Nat.reduceAdd,Nat.reduceLT,Nat.reduceLeDiff,Int.reduceNeg,Int.reduceToNat,reduceCtorEq]
    intro m
    refine az.rj hcall (by kernel_rfl) ⟨.tree (bF _ (bB g)),q4 (l:=[(n:Int)]) (by simp[View.set]) rfl,.tree (.val _),trivial⟩ ?_
    simp (disch:=omega) only [↓wr,↓reduceIte,wq,ai,ah,ak,ae,af,ag,aj,isNil,Nat.reduceEqDiff,Nat.reduceAdd,Nat.reduceLT,Nat.reduceLeDiff,Int.reduceNeg,Int.reduceToNat,reduceCtorEq,dD]
    exact fun h' _=>.tree _ (wv _)
  · simp (disch:=omega) only [↓wr,↓reduceIte,wq,ai,ah,ak,ae,af,ag,aj,isNil,Nat.reduceEqDiff,Nat.reduceAdd,Nat.reduceLT,Nat.reduceLeDiff,Int.reduceNeg,Int.reduceToNat,reduceCtorEq]
    rw[b6,if_neg (by rw[hm]; simp)]
    exact fun h' _=>(ee .nil).Bh
theorem ux (g:au) (b:Nat):∀ n,ln g b (List.range n) []=dY g b n
  | 0=>rfl
  | n+1=>by rw[List.range_succ,qK,ux g b n,dY]
set_option maxHeartbeats 4000000 in
theorem AF (g:au) (hg:g.Ok) (hs:g.Small) (n b:Int):aC Tryz.prog 28 [.agg (ar g),gi n,gi b] (dD (eT g n b)):=by
  refine aC.of (jx g n b) ?_
  refine aB.of mixed vX ?_
  have hc:=BX g hg hs n b
  simp only[ar,encS] at hc
  simp (disch:=omega) only [↓wr,↓reduceIte,wq,ai,ah,ak,ae,af,ag,aj,isNil,Nat.reduceEqDiff,Nat.reduceAdd,Nat.reduceLT,Nat.reduceLeDiff,Int.reduceNeg,Int.reduceToNat,reduceCtorEq,s5,ar,encS]
  refine az.pure hc (by kernel_rfl) ?_
  simp (disch:=omega) only [↓wr,↓reduceIte,wq,ai,ah,ak,ae,af,ag,aj,isNil,Nat.reduceEqDiff,Nat.reduceAdd,Nat.reduceLT,Nat.reduceLeDiff,Int.reduceNeg,Int.reduceToNat,reduceCtorEq]
  refine an.split (fun hm=>?_) (fun hm=>?_)
  · have hm':=hm
    simp only[ib,Bool.and_eq_true,decide_eq_true_eq] at hm'
    obtain ⟨n,rfl⟩:∃ k:Nat,n=k:=⟨n.toNat,by omega⟩
    obtain ⟨b,rfl⟩:∃ k:Nat,b=k:=⟨b.toNat,by omega⟩
    simp (disch:=omega) only [↓wr,↓reduceIte,wq,ai,ah,ak,ae,af,ag,aj,isNil,Nat.reduceEqDiff,Nat.reduceAdd,Nat.reduceLT,Nat.reduceLeDiff,Int.reduceNeg,Int.reduceToNat,reduceCtorEq]
    refine bo.up (n+1) (fun i T H'=>∃ u,T 8=u∧aV H' u 1 (ch ((List.range i).map fun (k:Nat)=>(k:Int)))∧T 2=gi b∧T 3=.aJ (ar g) 0∧T 16=gi (n+1)∧T 17=gi i) ⟨.emp 1,rfl,.nil,rfl,rfl,rfl,rfl⟩ ?_
    rintro i j T H1 hk ⟨u,t8,ho,t2,t3,t16,t17⟩
    simp (disch:=omega) only [↓wr,↓reduceIte,wq,ai,ah,ak,ae,af,ag,aj,isNil,Nat.reduceEqDiff,Nat.reduceAdd,Nat.reduceLT,Nat.reduceLeDiff,Int.reduceNeg,Int.reduceToNat,reduceCtorEq,qj,t8,t2,t3,t16,t17]
    refine an.dec (fun hi=>?_) (fun hi=>?_)
    · simp (disch:=omega) only [↓wr,↓reduceIte,wq,ai,ah,ak,ae,af,ag,aj,isNil,Nat.reduceEqDiff,Nat.reduceAdd,Nat.reduceLT,Nat.reduceLeDiff,Int.reduceNeg,Int.reduceToNat,reduceCtorEq,t8,t2,t3,t16,t17]
      intro m hmd
      rw[dG]
      simp (disch:=omega) only [↓wr,↓reduceIte,wq,ai,ah,ak,ae,af,ag,aj,isNil,Nat.reduceEqDiff,Nat.reduceAdd,Nat.reduceLT,Nat.reduceLeDiff,Int.reduceNeg,Int.reduceToNat,reduceCtorEq,t8,t2,t3,t16,t17]
      refine ed (ho.fresh hmd) (by simp[aN]) (by unfold aM; simp; omega) (by unfold aM; simp; omega) ?_
      intro u2 H2 o2 _
      simp (disch:=omega) only [↓wr,↓reduceIte,wq,ai,ah,ak,ae,af,ag,aj,isNil,Nat.reduceEqDiff,Nat.reduceAdd,Nat.reduceLT,Nat.reduceLeDiff,Int.reduceNeg,Int.reduceToNat,reduceCtorEq,t8,t2,t3,t16,t17]
      exact bb hk (by omega) ⟨u2,rfl,by rw[List.range_succ]; simpa using o2,t2,t3,t16,rfl⟩
    · have e:i=n+1:=by omega
      subst e
      have hcall:=s7 g hg hs hm'.1.1.1.1 b (by omega) (List.range (n+1)) (by simp; omega) (by intro k hk; rw[List.mem_range] at hk; omega)
      have he:vF g b (List.range (n+1))=eT g n b:=by rw[eT,if_pos hm,vF,ux]; rfl
      rw[he] at hcall
      generalize eT g n b=x at hcall
      simp only[ar,encS] at hcall
      simp (disch:=omega) only [↓wr,↓reduceIte,wq,ai,ah,ak,ae,af,ag,aj,isNil,Nat.reduceEqDiff,Nat.reduceAdd,Nat.reduceLT,Nat.reduceLeDiff,Int.reduceNeg,Int.reduceToNat,reduceCtorEq,t8,t2,t3,t16,t17,ar,encS]
      refine az.rj hcall (by kernel_rfl) ⟨.tree (bF _ (bB g)),.Dc ho,.tree (.val _),trivial⟩ ?_
      simp (disch:=omega) only [↓wr,↓reduceIte,wq,ai,ah,ak,ae,af,ag,aj,isNil,Nat.reduceEqDiff,Nat.reduceAdd,Nat.reduceLT,Nat.reduceLeDiff,Int.reduceNeg,Int.reduceToNat,reduceCtorEq,dD]
      exact fun h' _=>.tree _ (wv _)
  · simp (disch:=omega) only [↓wr,↓reduceIte,wq,ai,ah,ak,ae,af,ag,aj,isNil,Nat.reduceEqDiff,Nat.reduceAdd,Nat.reduceLT,Nat.reduceLeDiff,Int.reduceNeg,Int.reduceToNat,reduceCtorEq]
    rw[eT,if_neg (by rw[hm]; simp)]
    exact fun h' _=>(ee .nil).Bh
end Gv
set_option linter.unusedSimpArgs false
set_option maxRecDepth 100000
namespace Gv
open Go Go.Proofs
def wC:List Int:=[37,37,32,115,32,58,32,115,32,115,32,124,32,39,97,39,32,124,32,39,98,39,32,124,32,59]
def vM:List Int:=[37,37,32,115,32,58,32,115,32,39,97,39,32,59]
def dm:au:=⟨[⟨⟨#[39,97,39]⟩,0,0⟩,⟨⟨#[39,98,39]⟩,0,0⟩],[⟨#[115]⟩],[⟨0,[-1,-1],-1⟩,⟨0,[0],0⟩,⟨0,[1],1⟩,⟨0,[],-1⟩],0⟩
def jA:au:=⟨[⟨⟨#[39,97,39]⟩,0,0⟩],[⟨#[115]⟩],[⟨0,[-1,0],0⟩],0⟩
theorem Jp:cG Tryz.prog 33 [tc wC] (ja dm):=B8 (by kernel_rfl)
theorem Jr:cG Tryz.prog 33 [tc vM] (ja jA):=B8 (by kernel_rfl)
theorem GS:dm.Ok:=by
  refine ⟨by unfold aL; decide,by unfold aL; decide,by unfold aL; decide,by unfold bJ; decide,?_,?_⟩
  · intro t ht; simp[dm] at ht; rcases ht with rfl | rfl <;> unfold bJ <;> decide
  · intro r hr; simp[dm] at hr; rcases hr with rfl | rfl | rfl | rfl <;> unfold bJ aL <;> decide
theorem Gl:jA.Ok:=by
  refine ⟨by unfold aL; decide,by unfold aL; decide,by unfold aL; decide,by unfold bJ; decide,?_,?_⟩
  · intro t ht; simp[jA] at ht; rcases ht with rfl; unfold bJ; decide
  · intro r hr; simp[jA] at hr; rcases hr with rfl; unfold bJ aL; decide
theorem Br:dm.Small:=⟨by decide⟩
theorem Bn:jA.Small:=⟨by decide⟩
theorem J2:aT dm=true:=by kernel_rfl
theorem JE:aT jA=true:=by kernel_rfl
theorem uC {fit fit':List Int→Bool} {T b:Nat} (hf:∀ (k:Nat) (h:List Int),(∀ x∈h,0≤x∧x < (T:Int))→fit (pad h k)=fit' (pad h k)):∀ (k:Nat) (h:List Int) (out:List (List Int)),(∀ x∈h,0≤x∧x < (T:Int))→bH fit T b k h out=bH fit' T b k h out
  | 0,h,out,hh=>by rw[bH,bH,hf 0 h hh]
  | k+1,h,out,hh=>by
    rw[bH,bH,hf (k+1) h hh]
    split
    · rfl
    · have key:∀ (l:List Nat) (o:List (List Int)),(∀ t∈l,t < T)→l.foldl (fun o (t:Nat)=>bH fit T b k (h ++ [(t:Int)]) o) o=l.foldl (fun o (t:Nat)=>bH fit' T b k (h ++ [(t:Int)]) o) o:=by
        intro l
        induction l with
        | nil=>intro o _; rfl
        | cons t l ih =>
          intro o ht
          rw[List.foldl_cons,List.foldl_cons,uC hf k _ _ (fun x hx=>by
            rcases List.mem_append.1 hx with hx | hx
            · exact hh x hx
            · have:=ht t (by simp); simp at hx; omega),ih _ fun t ht'=>ht t (by simp[ht'])]
      exact key _ _ fun t ht=>by simpa using ht
theorem JH {p:List Int} (hp:∀ x∈p,x = -1∨x=0∨x=1):∀ (n i:Nat),i+n=p.length→Sp dm p [-1] i p.length
  | 0,i,h=>by
    have:i=p.length:=by omega
    subst this
    exact .bU (-1) [] ⟨0,[],-1⟩ _ _ _ (by decide) (by simp[dm]) (by decide) (.nil _) (.nil _)
  | n+1,i,h=>by
    have ih:=JH hp n (i+1) (by omega)
    have hi:p[i]?=some (p[i]'(by omega)):=List.getElem?_eq_getElem (by omega)
    have hm:=hp _ (List.mem_of_getElem? hi)
    have h1:Sp dm p [-1] i (i+1):=by
      by_cases e:p[i]'(by omega)=1
      · exact .bU (-1) [] ⟨0,[1],1⟩ i (i+1) (i+1) (by decide) (by simp[dm]) (by decide) (.term 1 [] i (i+1) (by decide) ⟨_,hi,.inl e⟩ (.nil _)) (.nil _)
      · exact .bU (-1) [] ⟨0,[0],0⟩ i (i+1) (i+1) (by decide) (by simp[dm]) (by decide) (.term 0 [] i (i+1) (by decide) ⟨_,hi,by omega⟩ (.nil _)) (.nil _)
    exact .bU (-1) [] ⟨0,[-1,-1],-1⟩ i p.length p.length (by decide) (by simp[dm]) (by decide) (h1.app ih) (.nil _)
theorem JM (k:Nat) (h:List Int) (hh:∀ x∈h,0≤x∧x < ((2:Nat):Int)):cF dm (pad h k)=true:=by
  refine (qU J2 _).2 (JH (fun x hx=>?_) _ 0 (Nat.zero_add _))
  unfold pad at hx
  rcases List.mem_append.1 hx with hx | hx
  · have:=hh x hx; omega
  · exact .inl (List.mem_replicate.1 hx).2
theorem zd (b k:Nat) (out:List (List Int)):bH (cF dm) dm.aw.length b k [] out=bH (fun _=>true) 2 b k [] out:=uC (T:=2) JM k [] out (by simp)
theorem J5:b6 dm 2 4=([[0,0],[0,1],[1,0],[1,1]],0):=by
  rw[b6,if_pos (by kernel_rfl)]
  simp only[zd]
  kernel_rfl
theorem JZ:b6 dm 2 3=([],13):=by
  rw[b6,if_pos (by kernel_rfl)]
  simp only[zd]
  kernel_rfl
theorem J4:eT dm 1 3=([[],[0],[1]],0):=by
  rw[eT,if_pos (by kernel_rfl)]
  have e:dY dm 3 2=[[],[0],[1]]:=by
    rw[dY,dY,dY,zd,zd]; kernel_rfl
  show (let l:=dY dm 3 2; if 3 < l.length then (([],13):List (List Int) × Int) else (l,0))=_
  rw[e]; rfl
theorem J3:b6 dm 11 3=([],1):=by
  rw[b6,if_neg (by rw[show ib dm 11 3=false by kernel_rfl]; simp)]
theorem l8:b6 jA 3 0=([],0):=by
  have hf:cF jA (pad [] 3)=false:=by
    rw[Bool.eq_false_iff,Ne,qU JE]
    intro hs
    have:=C1 JE hs
    rw[show da [-1 - jA.start] (aH jA true) true=false by kernel_rfl] at this
    simp at this
  rw[b6,if_pos (by kernel_rfl)]
  simp only[show (3:Int).toNat=3 from rfl,bH,hf]
  simp
end Gv
set_option linter.unusedSimpArgs false
set_option maxRecDepth 100000
namespace Gv
open Go Go.Proofs
theorem cR.uG {H:View} {u:V} {out:List (List Int)} (ho:cR H u out):cO H u (cW out):=by
  rintro h rfl
  exact ho.Ev.Bh
def kB:SF:=⟨.seq (al [aP 0 false]) <|
  .seq (al [((some 18),.op (.bu 26 1 [(.val (.int .u8 0))] [(0,(.val (.val (.int .u8 37)))),(1,(.val (.val (.int .u8 37)))),(2,(.val (.val (.int .u8 32)))),(3,(.val (.val (.int .u8 115)))),(4,(.val (.val (.int .u8 32)))),(5,(.val (.val (.int .u8 58)))),(6,(.val (.val (.int .u8 32)))),(7,(.val (.val (.int .u8 115)))),(8,(.val (.val (.int .u8 32)))),(9,(.val (.val (.int .u8 115)))),(10,(.val (.val (.int .u8 32)))),(11,(.val (.val (.int .u8 124)))),(12,(.val (.val (.int .u8 32)))),(13,(.val (.val (.int .u8 39)))),(14,(.val (.val (.int .u8 97)))),(15,(.val (.val (.int .u8 39)))),(16,(.val (.val (.int .u8 32)))),(17,(.val (.val (.int .u8 124)))),(18,(.val (.val (.int .u8 32)))),(19,(.val (.val (.int .u8 39)))),(20,(.val (.val (.int .u8 98)))),(21,(.val (.val (.int .u8 39)))),(22,(.val (.val (.int .u8 32)))),(23,(.val (.val (.int .u8 124)))),(24,(.val (.val (.int .u8 32)))),(25,(.val (.val (.int .u8 59))))])),((some 19),.op (.bc (.convert 57 57 (.tmp 18)) 57)),aF 20 33 [19],aa 17 20,bK 21 0 17,bK 22 1 17,bK 23 2 17,((some 1),.op (.alloc [(.emp 1),(.emp 1),(.emp 1),(.val (.int .i64 0))])),(none,.op (.store 4 (.tmp 1) (.tmp 21))),aa 2 22,aa 3 23]) <|
  .seq (al [aO 25 4 1,bT 26 24 [(.tmp 25),(.val (.val (.int .i64 2))),(.val (.val (.int .i64 4)))],aa 24 26,bK 27 0 24,bK 28 1 24,aa 4 27,aa 5 28]) <|
  .seq (al [aO 30 4 1,bT 31 24 [(.tmp 30),(.val (.val (.int .i64 2))),(.val (.val (.int .i64 3)))],aa 29 31,bK 32 0 29,bK 33 1 29,aa 6 32,aa 7 33]) <|
  .seq (al [aO 35 4 1,bT 36 28 [(.tmp 35),(.val (.val (.int .i64 1))),(.val (.val (.int .i64 3)))],aa 34 36,bK 37 0 34,bK 38 1 34,aa 8 37,aa 9 38]) <|
  .seq (al [((some 40),.op (.bu 14 1 [(.val (.int .u8 0))] [(0,(.val (.val (.int .u8 37)))),(1,(.val (.val (.int .u8 37)))),(2,(.val (.val (.int .u8 32)))),(3,(.val (.val (.int .u8 115)))),(4,(.val (.val (.int .u8 32)))),(5,(.val (.val (.int .u8 58)))),(6,(.val (.val (.int .u8 32)))),(7,(.val (.val (.int .u8 115)))),(8,(.val (.val (.int .u8 32)))),(9,(.val (.val (.int .u8 39)))),(10,(.val (.val (.int .u8 97)))),(11,(.val (.val (.int .u8 39)))),(12,(.val (.val (.int .u8 32)))),(13,(.val (.val (.int .u8 59))))])),((some 41),.op (.bc (.convert 57 57 (.tmp 40)) 57)),aF 42 33 [41],aa 39 42,bK 43 0 39,bK 44 1 39,bK 45 2 39,((some 10),.op (.alloc [(.emp 1),(.emp 1),(.emp 1),(.val (.int .i64 0))])),(none,.op (.store 4 (.tmp 10) (.tmp 43))),aa 11 44,aa 12 45]) <|
  .seq (al [aO 47 4 10,bT 48 24 [(.tmp 47),(.val (.val (.int .i64 3))),(.val (.val (.int .i64 0)))],aa 46 48,bK 49 0 46,bK 50 1 46,aa 13 49,aa 14 50]) <|
  .seq (al [aO 52 4 1,bT 53 24 [(.tmp 52),(.val (.val (.int .i64 11))),(.val (.val (.int .i64 3)))],aa 51 53,bK 54 0 51,bK 55 1 51,aa 15 54,aa 16 55]) <|
  .seq (.region false [⟨none,[aa 56 5,ax 57 .eql 56 0,aa 58 57]⟩,⟨(some (58,true)),[aa 59 7,ax 60 .eql 59 13]⟩,⟨none,[bk 61 58 60,aa 62 61]⟩,⟨(some (62,true)),[aa 63 9,ax 64 .eql 63 0]⟩,⟨none,[bk 65 62 64,aa 66 65]⟩,⟨(some (66,true)),[aa 67 14,ax 68 .eql 67 0]⟩,⟨none,[bk 69 66 68,aa 70 69]⟩,⟨(some (70,true)),[aa 71 16,ax 72 .eql 71 1]⟩,⟨none,[bk 73 70 72,aa 74 73]⟩,⟨(some (74,true)),[aa 75 4,((some 76),.op (.bu 2 1 [(.val (.int .i64 0))] [(0,(.val (.val (.int .i64 0)))),(1,(.val (.val (.int .i64 0))))])),((some 77),.op (.bu 2 1 [(.val (.int .i64 0))] [(0,(.val (.val (.int .i64 0)))),(1,(.val (.val (.int .i64 1))))])),((some 78),.op (.bu 2 1 [(.val (.int .i64 0))] [(0,(.val (.val (.int .i64 1)))),(1,(.val (.val (.int .i64 0))))])),((some 79),.op (.bu 2 1 [(.val (.int .i64 0))] [(0,(.val (.val (.int .i64 1)))),(1,(.val (.val (.int .i64 1))))])),((some 80),.op (.bu 4 1 [(.emp 1)] [(0,(.tmp 76)),(1,(.tmp 77)),(2,(.tmp 78)),(3,(.tmp 79))])),aF 81 26 [75,80]]⟩,⟨none,[bk 82 74 81,aa 83 82]⟩,⟨(some (83,true)),[aa 84 8,((some 85),.op (.bg (.val (.emp 2)))),((some 86),.op (.bu 1 1 [(.val (.int .i64 0))] [(0,(.val (.val (.int .i64 0))))])),((some 87),.op (.bu 1 1 [(.val (.int .i64 0))] [(0,(.val (.val (.int .i64 1))))])),((some 88),.op (.bu 3 1 [(.emp 1)] [(0,(.tmp 85)),(1,(.tmp 86)),(2,(.tmp 87))])),aF 89 26 [84,88]]⟩,⟨none,[bk 90 83 89,aa 91 90]⟩,⟨(some (91,true)),[aa 92 13,aI 93 92,ax 94 .eql 93 0]⟩,⟨none,[bk 95 91 94,aa 0 95]⟩]) <|
  .ret,
  [.tmp 0],96⟩
theorem oQ:aR Tryz.prog 22 []=some kB:=by kernel_rfl
def lV:SF:=⟨.seq (al [b7 1 0,aP 2 false]) <|
  .seq (.region false [⟨none,[aq 3 0 1,ao 4 3,ax 5 .geq 4 0,aa 6 5]⟩,⟨(some (6,true)),[aq 7 0 1,ao 8 7,ax 9 .leq 8 10]⟩,⟨none,[bk 10 6 9,aa 11 10]⟩,⟨(some (11,true)),[aq 12 1 1,ao 13 12,ax 14 .geq 13 0]⟩,⟨none,[bk 15 11 14,aa 16 15]⟩,⟨(some (16,true)),[aq 17 1 1,ao 18 17,ax 19 .leq 18 500]⟩,⟨none,[bk 20 16 19,aa 21 20]⟩,⟨(some (21,true)),[aq 22 0 1,ao 23 22,ax 24 .gtr 23 5,aa 25 24]⟩,⟨(some (25,false)),[aq 26 1 1,ao 27 26,ax 28 .gtr 27 40]⟩,⟨(some (21,true)),[bf 29 25 28]⟩,⟨none,[bk 30 21 29,aa 2 30]⟩]) <|
  .ret,
  [.tmp 2],31⟩
theorem qk:aR Tryz.prog 23 [1]=some lV:=by kernel_rfl
set_option maxHeartbeats 4000000 in
theorem yX (g1 g2:au) (k1:g1.Ok) (k2:g2.Ok) (s1:g1.Small) (s2:g2.Small) (h1:cG Tryz.prog 33 [tc wC] (ja g1)) (h2:cG Tryz.prog 33 [tc vM] (ja g2))
    (e1:b6 g1 2 4=([[0,0],[0,1],[1,0],[1,1]],0)) (e2:b6 g1 2 3=([],13)) (e3:eT g1 1 3=([[],[0],[1]],0)) (e4:b6 g2 3 0=([],0)) (e5:b6 g1 11 3=([],1)):aC Tryz.prog 22 [] (gb true):=by
  refine aC.val (by simp) fun H=>?_
  refine aB.of mixed oQ ?_
  simp (disch:=omega) only [↓wr,↓reduceIte,wq,ai,ah,ak,ae,af,ag,aj,isNil,Nat.reduceEqDiff,Nat.reduceAdd,Nat.reduceLT,Nat.reduceLeDiff,Int.reduceNeg,Int.reduceToNat,reduceCtorEq,kB]
  intro n1 hn1
  try simp (disch:=omega) only [↓wr,↓reduceIte,wq,ai,ah,ak,ae,af,ag,aj,isNil,Nat.reduceEqDiff,Nat.reduceAdd,Nat.reduceLT,Nat.reduceLeDiff,Int.reduceNeg,Int.reduceToNat,reduceCtorEq]
  generalize t1:wC.map (fun x=>[gy x])=es1
  have t1':=t1
  simp only[wC,List.map_cons,List.map_nil] at t1'
  rw[t1']
  refine uh (id:=n1) (len:=26) Tryz.underlying57 Tryz.underlying5 rfl (by omega) (by simp only[View.set,if_true]; rfl) ?_
  simp (disch:=omega) only [↓wr,↓reduceIte,wq,ai,ah,ak,ae,af,ag,aj,isNil,Nat.reduceEqDiff,Nat.reduceAdd,Nat.reduceLT,Nat.reduceLeDiff,Int.reduceNeg,Int.reduceToNat,reduceCtorEq]
  refine az.rj h1 (by kernel_rfl) ⟨wm wC (by simp only[View.set,if_true,t1]),trivial⟩ ?_
  clear t1 t1' hn1
  generalize H.set n1 (br.arr 1 es1)=H1
  clear H
  simp (disch:=omega) only [↓wr,↓reduceIte,wq,ai,ah,ak,ae,af,ag,aj,isNil,Nat.reduceEqDiff,Nat.reduceAdd,Nat.reduceLT,Nat.reduceLeDiff,Int.reduceNeg,Int.reduceToNat,reduceCtorEq,ja,ar,encS]
  intro n2 hn2
  try simp (disch:=omega) only [↓wr,↓reduceIte,wq,ai,ah,ak,ae,af,ag,aj,isNil,Nat.reduceEqDiff,Nat.reduceAdd,Nat.reduceLT,Nat.reduceLeDiff,Int.reduceNeg,Int.reduceToNat,reduceCtorEq]
  have p1:=iM g1 k1 s1 2 4
  have p2:=iM g1 k1 s1 2 3
  have p3:=AF g1 k1 s1 1 3
  have p4:=iM g2 k2 s2 3 0
  have p5:=iM g1 k1 s1 11 3
  rw[e1] at p1
  rw[e2] at p2
  rw[e3] at p3
  rw[e4] at p4
  rw[e5] at p5
  simp only[ar,encS] at p1 p2 p3 p4 p5
  refine az.Ep (fun H=>H n2=.arr 4 [ar g1]) p1 (by kernel_rfl) (by simp[View.set,ar,encS]) ?_
  clear hn2
  intro H2 f2
  simp only[ar,encS] at f2
  simp (disch:=omega) only [↓wr,↓reduceIte,wq,ai,ah,ak,ae,af,ag,aj,isNil,Nat.reduceEqDiff,Nat.reduceAdd,Nat.reduceLT,Nat.reduceLeDiff,Int.reduceNeg,Int.reduceToNat,reduceCtorEq,f2,dD]
  refine az.pure p2 (by kernel_rfl) ?_
  simp (disch:=omega) only [↓wr,↓reduceIte,wq,ai,ah,ak,ae,af,ag,aj,isNil,Nat.reduceEqDiff,Nat.reduceAdd,Nat.reduceLT,Nat.reduceLeDiff,Int.reduceNeg,Int.reduceToNat,reduceCtorEq,f2,dD]
  refine az.pure p3 (by kernel_rfl) ?_
  simp (disch:=omega) only [↓wr,↓reduceIte,wq,ai,ah,ak,ae,af,ag,aj,isNil,Nat.reduceEqDiff,Nat.reduceAdd,Nat.reduceLT,Nat.reduceLeDiff,Int.reduceNeg,Int.reduceToNat,reduceCtorEq,f2,dD]
  intro n3 hn3
  have d32:n3≠n2:=by rintro rfl; rw[f2] at hn3; simp at hn3
  try simp (disch:=omega) only [↓wr,↓reduceIte,wq,ai,ah,ak,ae,af,ag,aj,isNil,Nat.reduceEqDiff,Nat.reduceAdd,Nat.reduceLT,Nat.reduceLeDiff,Int.reduceNeg,Int.reduceToNat,reduceCtorEq]
  generalize t1:vM.map (fun x=>[gy x])=es2
  have t1':=t1
  simp only[vM,List.map_cons,List.map_nil] at t1'
  rw[t1']
  refine uh (id:=n3) (len:=14) Tryz.underlying57 Tryz.underlying5 rfl (by omega) (by simp only[View.set,if_true]; rfl) ?_
  simp (disch:=omega) only [↓wr,↓reduceIte,wq,ai,ah,ak,ae,af,ag,aj,isNil,Nat.reduceEqDiff,Nat.reduceAdd,Nat.reduceLT,Nat.reduceLeDiff,Int.reduceNeg,Int.reduceToNat,reduceCtorEq]
  refine az.rj h2 (by kernel_rfl) ⟨wm vM (by simp only[View.set,if_true,t1]),trivial⟩ ?_
  clear t1 t1'
  simp (disch:=omega) only [↓wr,↓reduceIte,wq,ai,ah,ak,ae,af,ag,aj,isNil,Nat.reduceEqDiff,Nat.reduceAdd,Nat.reduceLT,Nat.reduceLeDiff,Int.reduceNeg,Int.reduceToNat,reduceCtorEq,ja,ar,encS]
  intro n4 hn4
  have d43:=(gS hn4 iO).1
  have d42:n4≠n2:=by
    rintro rfl
    have:=(gS hn4 iO).2
    rw[f2] at this; simp at this
  try simp (disch:=omega) only [↓wr,↓reduceIte,wq,ai,ah,ak,ae,af,ag,aj,isNil,Nat.reduceEqDiff,Nat.reduceAdd,Nat.reduceLT,Nat.reduceLeDiff,Int.reduceNeg,Int.reduceToNat,reduceCtorEq,d32,d43,d42,d32.symm,d43.symm,d42.symm]
  refine az.Ep (fun H=>H n2=.arr 4 [ar g1]∧H n4=.arr 4 [ar g2]) p4 (by kernel_rfl) (by simp[View.set,ar,encS,d32.symm,d42.symm,f2]) ?_
  clear hn4 hn3 f2 H2 d32 d43 d42
  rintro H2 ⟨f2,f4⟩
  simp only[ar,encS] at f2 f4
  simp (disch:=omega) only [↓wr,↓reduceIte,wq,ai,ah,ak,ae,af,ag,aj,isNil,Nat.reduceEqDiff,Nat.reduceAdd,Nat.reduceLT,Nat.reduceLeDiff,Int.reduceNeg,Int.reduceToNat,reduceCtorEq,f2,f4,dD]
  refine az.pure p5 (by kernel_rfl) ?_
  simp (disch:=omega) only [↓wr,↓reduceIte,wq,ai,ah,ak,ae,af,ag,aj,isNil,Nat.reduceEqDiff,Nat.reduceAdd,Nat.reduceLT,Nat.reduceLeDiff,Int.reduceNeg,Int.reduceToNat,reduceCtorEq,f2,f4,dD]
  repeat' (first | (refine an.eq (fun _=>?_) (fun hx=>absurd rfl hx)) | simp (disch:=omega) only [↓wr,↓reduceIte,wq,ai,ah,ak,ae,af,ag,aj,isNil,Nat.reduceEqDiff,Nat.reduceAdd,Nat.reduceLT,Nat.reduceLeDiff,Int.reduceNeg,Int.reduceToNat,reduceCtorEq])
  have q1:=q3 [[0,0],[0,1],[1,0],[1,1]] [[0,0],[0,1],[1,0],[1,1]] (by unfold aL; decide) (by intro w hw; simp at hw; rcases hw with rfl | rfl | rfl | rfl <;> (unfold aL; decide))
  have q2:=q3 [[],[0],[1]] [[],[0],[1]] (by unfold aL; decide) (by intro w hw; simp at hw; rcases hw with rfl | rfl | rfl <;> (unfold aL; decide))
  rw[beq_self_eq_true] at q1 q2
  intro a ha b hb c hc d hd e he
  have oa:aV (H2.set a (.arr 1 [[gi 0],[gi 0]])) (.sl a 0 2 1) 1 (ch [0,0]):=.inr ⟨a,rfl,by simp[View.set]⟩
  have ob:aV ((H2.set a (.arr 1 [[gi 0],[gi 0]])).set b (.arr 1 [[gi 0],[gi 1]])) (.sl b 0 2 1) 1 (ch [0,1]):=.inr ⟨b,rfl,by simp[View.set]⟩
  have oc:aV (((H2.set a (.arr 1 [[gi 0],[gi 0]])).set b (.arr 1 [[gi 0],[gi 1]])).set c (.arr 1 [[gi 1],[gi 0]])) (.sl c 0 2 1) 1 (ch [1,0]):=.inr ⟨c,rfl,by simp[View.set]⟩
  have od:aV ((((H2.set a (.arr 1 [[gi 0],[gi 0]])).set b (.arr 1 [[gi 0],[gi 1]])).set c (.arr 1 [[gi 1],[gi 0]])).set d (.arr 1 [[gi 1],[gi 1]])) (.sl d 0 2 1) 1 (ch [1,1]):=.inr ⟨d,rfl,by simp[View.set]⟩
  have hout:cR (((((H2.set a (.arr 1 [[gi 0],[gi 0]])).set b (.arr 1 [[gi 0],[gi 1]])).set c (.arr 1 [[gi 1],[gi 0]])).set d (.arr 1 [[gi 1],[gi 1]])).set e (.arr 1 [[.sl a 0 2 1],[.sl b 0 2 1],[.sl c 0 2 1],[.sl d 0 2 1]])) (.sl e 0 4 1) [[0,0],[0,1],[1,0],[1,1]]:=by
    refine ⟨[(.sl a 0 2 1,[0,0]),(.sl b 0 2 1,[0,1]),(.sl c 0 2 1,[1,0]),(.sl d 0 2 1,[1,1])],rfl,.inr ⟨e,rfl,by simp[View.set,eP]⟩,?_⟩
    intro x hx
    simp only[List.mem_cons,List.not_mem_nil,or_false] at hx
    rcases hx with rfl | rfl | rfl | rfl
    · exact (((oa.fresh hb).fresh hc).fresh hd).fresh he
    · exact ((ob.fresh hc).fresh hd).fresh he
    · exact (oc.fresh hd).fresh he
    · exact od.fresh he
  refine az.vr q1 (by kernel_rfl) (.val _) ⟨.tree (mZ _),hout.uG,trivial⟩ ?_
  clear hout oa ob oc od ha hb hc hd he f2 f4 q1
  generalize (((((H2.set a (.arr 1 [[gi 0],[gi 0]])).set b (.arr 1 [[gi 0],[gi 1]])).set c (.arr 1 [[gi 1],[gi 0]])).set d (.arr 1 [[gi 1],[gi 1]])).set e (.arr 1 [[.sl a 0 2 1],[.sl b 0 2 1],[.sl c 0 2 1],[.sl d 0 2 1]]))=H3
  simp (disch:=omega) only [↓wr,↓reduceIte,wq,ai,ah,ak,ae,af,ag,aj,isNil,Nat.reduceEqDiff,Nat.reduceAdd,Nat.reduceLT,Nat.reduceLeDiff,Int.reduceNeg,Int.reduceToNat,reduceCtorEq]
  intro f hf h hh i hi
  have of:aV (H3.set f (.arr 1 [[gi 0]])) (.sl f 0 1 1) 1 (ch [0]):=.inr ⟨f,rfl,by simp[View.set]⟩
  have oh:aV ((H3.set f (.arr 1 [[gi 0]])).set h (.arr 1 [[gi 1]])) (.sl h 0 1 1) 1 (ch [1]):=.inr ⟨h,rfl,by simp[View.set]⟩
  have hout:cR (((H3.set f (.arr 1 [[gi 0]])).set h (.arr 1 [[gi 1]])).set i (.arr 1 [[.emp 2],[.sl f 0 1 1],[.sl h 0 1 1]])) (.sl i 0 3 1) [[],[0],[1]]:=by
    refine ⟨[(.emp 2,[]),(.sl f 0 1 1,[0]),(.sl h 0 1 1,[1])],rfl,.inr ⟨i,rfl,by simp[View.set,eP]⟩,?_⟩
    intro x hx
    simp only[List.mem_cons,List.not_mem_nil,or_false] at hx
    rcases hx with rfl | rfl | rfl
    · exact .nil
    · exact (of.fresh hh).fresh hi
    · exact oh.fresh hi
  refine az.vr q2 (by kernel_rfl) (.val _) ⟨.tree (mZ _),hout.uG,trivial⟩ ?_
  simp (disch:=omega) only [↓wr,↓reduceIte,wq,ai,ah,ak,ae,af,ag,aj,isNil,Nat.reduceEqDiff,Nat.reduceAdd,Nat.reduceLT,Nat.reduceLeDiff,Int.reduceNeg,Int.reduceToNat,reduceCtorEq,cW]
  simp
theorem nh:aC Tryz.prog 22 [] (gb true):=yX dm jA GS Gl Br Bn Jp Jr J5 JZ J4 l8 J3
def dI (n b:Int):List V:=[gi n,gi b]
def Hx (n b:Int):Bool:=decide (0≤n) && decide (n≤10) && decide (0≤b) && decide (b≤500) && (decide (5 < n) || decide (40 < b))
theorem xc (n b:Int):aC Tryz.prog 23 [.agg (dI n b)] (gb (Hx n b)):=by
  refine aC.val (by intro v hv; simp at hv; subst hv; exact bF _ (by intro v hv; simp[dI] at hv; rcases hv with rfl | rfl <;> exact .val _)) fun H=>?_
  refine aB.of mixed qk ?_
  simp (disch:=omega) only [↓wr,↓reduceIte,wq,ai,ah,ak,ae,af,ag,aj,isNil,Nat.reduceEqDiff,Nat.reduceAdd,Nat.reduceLT,Nat.reduceLeDiff,Int.reduceNeg,Int.reduceToNat,reduceCtorEq,lV,dI]
  unfold Hx
  repeat' (first | (refine an.dec (fun _=>?_) (fun _=>?_)) | (refine an.eq (fun _=>?_) (fun _=>?_)) | (refine an.ne (fun _=>?_) (fun _=>?_)) | (refine an.split (fun _=>?_) (fun _=>?_)) | (simp (disch:=omega) only [↓wr,↓reduceIte,wq,ai,ah,ak,ae,af,ag,aj,isNil,Nat.reduceEqDiff,Nat.reduceAdd,Nat.reduceLT,Nat.reduceLeDiff,Int.reduceNeg,Int.reduceToNat,reduceCtorEq]))
  all_goals (simp_all <;> (intros; omega))
end Gv
set_option linter.unusedSimpArgs false
set_option maxRecDepth 100000
namespace Gv
open Go Go.Proofs
instance:DecidableEq Term:=fun a b=>decidable_of_iff (a.name=b.name∧a.level=b.level∧a.assoc=b.assoc) (by cases a; cases b; simp)
instance:DecidableEq aZ:=fun a b=>decidable_of_iff (a.left=b.left∧a.prec=b.prec∧a.right=b.right) (by cases a; cases b; simp[and_comm])
instance:DecidableEq au:=fun a b=>decidable_of_iff (a.aw=b.aw∧a.aD=b.aD∧a.rules=b.rules∧a.start=b.start) (by cases a; cases b; simp)
theorem bytes_beq (a b:ByteArray):(a == b)=decide (a=b):=by
  cases a with | mk a=>cases b with | mk b =>
  rw[Bool.eq_iff_iff]
  show (ByteArray.beq ⟨a⟩ ⟨b⟩=true)↔_
  simp only[ByteArray.beq]
  simp
theorem E6 (a b:ByteArray):fo a b=decide (a=b):=by
  cases a with | mk a=>cases b with | mk b =>
  rw[Bool.eq_iff_iff]
  simp[fo]
theorem xB {α:Type} {a b:List α} {i:Nat} {x y:α} (hx:a[i]?=some x) (hy:b[i]?=some y) (h:a.take i=b.take i) (e:x=y):a.take (i+1)=b.take (i+1):=by
  rw[List.take_add_one,List.take_add_one,h,hx,hy,e]
theorem Au {α:Type} {a b:List α} {i:Nat} (ha:a.length≤i) (hb:b.length≤i) (h:a.take i=b.take i):a=b:=by
  rwa [List.take_of_length_le ha,List.take_of_length_le hb] at h
theorem Dr {α:Type} {a b:List α} {i:Nat} {x y:α} (hx:a[i]?=some x) (hy:b[i]?=some y) (e:x≠y):a≠b:=by
  rintro rfl; rw[hx] at hy; exact e (by simpa using hy)
theorem zW {α:Type} {a b:List α} (h:¬ a.length=b.length):a≠b:=fun e=>h (by rw[e])
theorem Bv (x y:Term):dS Tryz.prog 9998 #[.string x.name,.int .i64 x.level,.int .i64 x.assoc] #[.string y.name,.int .i64 y.level,.int .i64 y.assoc]
    [{ name:= "Name",type:=9,offset:=0,embedded:=false,tag:= "",pkgPath:= "",byteOffset:=0 },{ name:= "Level",type:=3,offset:=1,embedded:=false,tag:= "",pkgPath:= "",byteOffset:=16 },
        { name:= "Assoc",type:=3,offset:=2,embedded:=false,tag:= "",pkgPath:= "",byteOffset:=24 }] (x.name == y.name && (x.level == y.level && (x.assoc == y.assoc && true))) :=
  .str _ _ _ _ _ (by decide) Tryz.underlying9 rfl rfl (.int _ _ _ _ _ _ (by decide) Tryz.underlying3 rfl rfl (.int _ _ _ _ _ _ (by decide) Tryz.underlying3 rfl rfl .nil))
theorem HK (x y:Term):(x.name == y.name && (x.level == y.level && (x.assoc == y.assoc && true)))=decide (x=y):=by
  rw[bytes_beq,Bool.eq_iff_iff]
  cases x; cases y
  simp
theorem Hg (x y:au):decide (x=y)=(decide (x.aw=y.aw) && (decide (x.aD=y.aD) && (decide (x.rules=y.rules) && decide (x.start=y.start)))):=by
  cases x; cases y
  rw[Bool.eq_iff_iff]
  simp
theorem Fo (g k:au):∀ v∈[V.agg (ar g),V.agg (ar k)],Tree v:=by
  intro v hv; simp at hv
  rcases hv with rfl | rfl <;> exact bF _ (bB _)
def j7:SC :=
  .seq (.seq (al [aa 42 5,aq 43 0 2,ao 44 43,aI 45 44,aK 46 .lss 42 45]) <|
  .cond (.tmp 46) (.skip) (.exit 0)) <|
  .seq (.block 1 (.seq (al [aq 49 0 2,ao 50 49,aa 51 5,aX 52 3 50 51,aO 53 3 52,aq 54 0 3,ao 55 54,aa 56 5,aX 57 3 55 56,aO 58 3 57,((some 59),.op (.bc (.binOp .neq 81 (.tmp 53) (.tmp 58) 81) 4))]) <|
  .cond (.tmp 59) (.seq (al [aP 4 false]) <|
  .ret) (.skip))) <|
  al [aa 47 5,ax 48 .add 47 1,aa 5 48]
def kb:SC :=
  .seq (.seq (al [aa 60 6,aq 61 1 2,ao 62 61,aI 63 62,aK 64 .lss 60 63]) <|
  .cond (.tmp 64) (.skip) (.exit 2)) <|
  .seq (.block 3 (.seq (al [aq 67 1 2,ao 68 67,aa 69 6,aX 70 1 68 69,ao 71 70,aq 72 1 3,ao 73 72,aa 74 6,aX 75 1 73 74,ao 76 75,((some 77),.op (.fO .neq (.tmp 71) (.tmp 76)))]) <|
  .cond (.tmp 77) (.seq (al [aP 4 false]) <|
  .ret) (.skip))) <|
  al [aa 65 6,ax 66 .add 65 1,aa 6 66]
def jV:SC :=
  .seq (.seq (al [aa 78 7,aq 79 2 2,ao 80 79,aI 81 80,aK 82 .lss 78 81]) <|
  .cond (.tmp 82) (.skip) (.exit 4)) <|
  .seq (.block 5 (.seq (al [aq 85 2 2,ao 86 85,aa 87 7,aX 88 3 86 87,aO 89 3 88,aq 90 2 3,ao 91 90,aa 92 7,aX 93 3 91 92,aO 94 3 93,((some 8),.op (.alloc [(.val (.int .i64 0)),(.emp 1),(.val (.int .i64 0))])),((some 9),.op (.alloc [(.val (.int .i64 0)),(.emp 1),(.val (.int .i64 0))])),(none,.op (.store 3 (.tmp 8) (.tmp 89))),(none,.op (.store 3 (.tmp 9) (.tmp 94)))]) <|
  .seq (.region false [⟨none,[aq 95 0 8,ao 96 95,aq 97 0 9,ao 98 97,aK 99 .neq 96 98,aa 100 99]⟩,⟨(some (100,false)),[aq 101 2 8,ao 102 101,aq 103 2 9,ao 104 103,aK 105 .neq 102 104]⟩,⟨none,[bf 106 100 105,aa 107 106]⟩,⟨(some (107,false)),[aq 108 1 8,ao 109 108,aq 110 1 9,ao 111 110,aF 112 19 [109,111],bQ 113 112]⟩,⟨none,[bf 114 107 113]⟩]) <|
  .cond (.tmp 114) (.seq (al [aP 4 false]) <|
  .ret) (.skip))) <|
  al [aa 83 7,ax 84 .add 83 1,aa 7 84]
def ml:SF:=⟨.seq (al [b7 2 0,b7 3 1,aP 4 false]) <|
  .seq (.seq (.region false [⟨none,[aq 10 0 2,ao 11 10,aI 12 11,aq 13 0 3,ao 14 13,aI 15 14,aK 16 .neq 12 15,aa 17 16]⟩,⟨(some (17,false)),[aq 18 1 2,ao 19 18,aI 20 19,aq 21 1 3,ao 22 21,aI 23 22,aK 24 .neq 20 23]⟩,⟨none,[bf 25 17 24,aa 26 25]⟩,⟨(some (26,false)),[aq 27 2 2,ao 28 27,aI 29 28,aq 30 2 3,ao 31 30,aI 32 31,aK 33 .neq 29 32]⟩,⟨none,[bf 34 26 33,aa 35 34]⟩,⟨(some (35,false)),[aq 36 3 2,ao 37 36,aq 38 3 3,ao 39 38,aK 40 .neq 37 39]⟩,⟨none,[bf 41 35 40]⟩]) <|
  .cond (.tmp 41) (.seq (al [aP 4 false]) <|
  .ret) (.skip)) <|
  .seq (.seq (al [aG 5 0]) <|
  .block 0 (.loop j7)) <|
  .seq (.seq (al [aG 6 0]) <|
  .block 2 (.loop kb)) <|
  .seq (.seq (al [aG 7 0]) <|
  .block 4 (.loop jV)) <|
  .seq (al [aP 4 true]) <|
  .ret,
  [.tmp 4],115⟩
theorem qy:aR Tryz.prog 30 [2,3]=some ml:=by kernel_rfl
set_option maxHeartbeats 2000000 in
theorem F2 (g k:au) (hg:g.Ok):aC Tryz.prog 30 [.agg (ar g),.agg (ar k)] (gb (decide (g=k))):=by
  refine aC.val (Fo g k) fun H=>?_
  rw[Hg]
  refine aB.of mixed qy ?_
  have h1:=hg.aw
  have h2:=hg.aD
  have h3:=hg.rules
  unfold aL at h1 h2 h3
  simp (disch:=omega) only [↓wr,↓reduceIte,wq,ai,ah,ak,ae,af,ag,aj,isNil,Nat.reduceEqDiff,Nat.reduceAdd,Nat.reduceLT,Nat.reduceLeDiff,Int.reduceNeg,Int.reduceToNat,reduceCtorEq,ml,ar,encS]
  repeat' (first | (refine an.dec (fun _=>?_) (fun _=>?_)) | (refine an.eq (fun _=>?_) (fun _=>?_)) | (refine an.ne (fun _=>?_) (fun _=>?_)) | (refine an.split (fun _=>?_) (fun _=>?_)) | (simp (disch:=omega) only [↓wr,↓reduceIte,wq,ai,ah,ak,ae,af,ag,aj,isNil,Nat.reduceEqDiff,Nat.reduceAdd,Nat.reduceLT,Nat.reduceLeDiff,Int.reduceNeg,Int.reduceToNat,reduceCtorEq,ar,encS]))
  · rename_i e; rw[decide_eq_false (zW (by omega))]; rfl
  · rename_i e; rw[decide_eq_false (p:=g.aD=k.aD) (zW (by omega))]; simp
  · rename_i e; rw[decide_eq_false (p:=g.rules=k.rules) (zW (by omega))]; simp
  · rename_i e; rw[decide_eq_false e]; simp
  rename_i l1 l2 l3 l4
  refine bo.up g.aw.length (fun i T _=>g.aw.take i=k.aw.take i∧T 2=.aJ (ar g) 0∧T 3=.aJ (ar k) 0∧T 5=gi i) ⟨by simp,rfl,rfl,rfl⟩ ?_
  rintro i m T H hm ⟨hi,t2,t3,t5⟩
  simp (disch:=omega) only [↓wr,↓reduceIte,wq,ai,ah,ak,ae,af,ag,aj,isNil,Nat.reduceEqDiff,Nat.reduceAdd,Nat.reduceLT,Nat.reduceLeDiff,Int.reduceNeg,Int.reduceToNat,reduceCtorEq,j7,t2,t3,t5,ar,encS]
  refine an.dec (fun hc=>?_) (fun hc=>?_)
  · have hx:=List.getElem?_eq_getElem (l:=g.aw) (i:=i) (by omega)
    have hy:=List.getElem?_eq_getElem (l:=k.aw) (i:=i) (by omega)
    generalize g.aw[i]'(by omega)=x at hx
    generalize k.aw[i]'(by omega)=y at hy
    simp (disch:=omega) only [↓wr,↓reduceIte,wq,ai,ah,ak,ae,af,ag,aj,isNil,Nat.reduceEqDiff,Nat.reduceAdd,Nat.reduceLT,Nat.reduceLeDiff,Int.reduceNeg,Int.reduceToNat,reduceCtorEq,t2,t3,t5,List.getElem?_map,hx,hy,cZ,ar,encS]
    refine Bo (xs:=#[.string x.name,.int .i64 x.level,.int .i64 x.assoc]) (ys:=#[.string y.name,.int .i64 y.level,.int .i64 y.assoc]) Tryz.underlying81 (by kernel_rfl) (by kernel_rfl) ?_ ?_ (Bv x y) (.inr ⟨rfl,rfl⟩) ?_
    · rfl
    · rfl
    rw[HK]
    simp (disch:=omega) only [↓wr,↓reduceIte,wq,ai,ah,ak,ae,af,ag,aj,isNil,Nat.reduceEqDiff,Nat.reduceAdd,Nat.reduceLT,Nat.reduceLeDiff,Int.reduceNeg,Int.reduceToNat,reduceCtorEq,t2,t3,t5]
    refine an.split (fun e=>?_) (fun e=>?_)
    · simp (disch:=omega) only [↓wr,↓reduceIte,wq,ai,ah,ak,ae,af,ag,aj,isNil,Nat.reduceEqDiff,Nat.reduceAdd,Nat.reduceLT,Nat.reduceLeDiff,Int.reduceNeg,Int.reduceToNat,reduceCtorEq,t2,t3,t5]
      exact bb hm (by omega) ⟨xB hx hy hi (by simpa using e),t2,t3,rfl⟩
    · simp (disch:=omega) only [↓wr,↓reduceIte,wq,ai,ah,ak,ae,af,ag,aj,isNil,Nat.reduceEqDiff,Nat.reduceAdd,Nat.reduceLT,Nat.reduceLeDiff,Int.reduceNeg,Int.reduceToNat,reduceCtorEq,t2,t3,t5]
      rw[decide_eq_false (Dr hx hy (by simpa using e))]; rfl
  have e1:g.aw=k.aw:=Au (by omega) (by omega) hi
  simp (disch:=omega) only [↓wr,↓reduceIte,wq,ai,ah,ak,ae,af,ag,aj,isNil,Nat.reduceEqDiff,Nat.reduceAdd,Nat.reduceLT,Nat.reduceLeDiff,Int.reduceNeg,Int.reduceToNat,reduceCtorEq,t2,t3,t5]
  clear hi hc hm
  refine bo.up g.aD.length (fun i T _=>g.aD.take i=k.aD.take i∧T 2=.aJ (ar g) 0∧T 3=.aJ (ar k) 0∧T 6=gi i) ⟨by simp,t2,t3,rfl⟩ ?_
  clear t2 t3 t5 T H i m
  rintro i m T H hm ⟨hi,t2,t3,t5⟩
  simp (disch:=omega) only [↓wr,↓reduceIte,wq,ai,ah,ak,ae,af,ag,aj,isNil,Nat.reduceEqDiff,Nat.reduceAdd,Nat.reduceLT,Nat.reduceLeDiff,Int.reduceNeg,Int.reduceToNat,reduceCtorEq,kb,t2,t3,t5,ar,encS]
  refine an.dec (fun hc=>?_) (fun hc=>?_)
  · have hx:=List.getElem?_eq_getElem (l:=g.aD) (i:=i) (by omega)
    have hy:=List.getElem?_eq_getElem (l:=k.aD) (i:=i) (by omega)
    generalize g.aD[i]'(by omega)=x at hx
    generalize k.aD[i]'(by omega)=y at hy
    simp (disch:=omega) only [↓wr,↓reduceIte,wq,ai,ah,ak,ae,af,ag,aj,isNil,Nat.reduceEqDiff,Nat.reduceAdd,Nat.reduceLT,Nat.reduceLeDiff,Int.reduceNeg,Int.reduceToNat,reduceCtorEq,t2,t3,t5,List.getElem?_map,hx,hy,cZ,ar,encS,E6]
    refine an.split (fun e=>?_) (fun e=>?_)
    · simp (disch:=omega) only [↓wr,↓reduceIte,wq,ai,ah,ak,ae,af,ag,aj,isNil,Nat.reduceEqDiff,Nat.reduceAdd,Nat.reduceLT,Nat.reduceLeDiff,Int.reduceNeg,Int.reduceToNat,reduceCtorEq,t2,t3,t5]
      exact bb hm (by omega) ⟨xB hx hy hi (by simpa using e),t2,t3,rfl⟩
    · simp (disch:=omega) only [↓wr,↓reduceIte,wq,ai,ah,ak,ae,af,ag,aj,isNil,Nat.reduceEqDiff,Nat.reduceAdd,Nat.reduceLT,Nat.reduceLeDiff,Int.reduceNeg,Int.reduceToNat,reduceCtorEq,t2,t3,t5]
      rw[decide_eq_false (p:=g.aD=k.aD) (Dr hx hy (by simpa using e))]; simp
  have e2:g.aD=k.aD:=Au (by omega) (by omega) hi
  simp (disch:=omega) only [↓wr,↓reduceIte,wq,ai,ah,ak,ae,af,ag,aj,isNil,Nat.reduceEqDiff,Nat.reduceAdd,Nat.reduceLT,Nat.reduceLeDiff,Int.reduceNeg,Int.reduceToNat,reduceCtorEq,t2,t3,t5]
  clear hi hc hm
  refine bo.up g.rules.length (fun i T _=>g.rules.take i=k.rules.take i∧T 2=.aJ (ar g) 0∧T 3=.aJ (ar k) 0∧T 7=gi i) ⟨by simp,t2,t3,rfl⟩ ?_
  clear t2 t3 t5 T H i m
  rintro i m T H hm ⟨hi,t2,t3,t5⟩
  simp (disch:=omega) only [↓wr,↓reduceIte,wq,ai,ah,ak,ae,af,ag,aj,isNil,Nat.reduceEqDiff,Nat.reduceAdd,Nat.reduceLT,Nat.reduceLeDiff,Int.reduceNeg,Int.reduceToNat,reduceCtorEq,jV,t2,t3,t5,ar,encS]
  refine an.dec (fun hc=>?_) (fun hc=>?_)
  · have hx:=List.getElem?_eq_getElem (l:=g.rules) (i:=i) (by omega)
    have hy:=List.getElem?_eq_getElem (l:=k.rules) (i:=i) (by omega)
    have hmx:g.rules[i]'(by omega)∈g.rules:=List.getElem_mem _
    generalize g.rules[i]'(by omega)=x at hx hmx
    generalize k.rules[i]'(by omega)=y at hy
    have hsx:=(hg.bq x hmx).2.2.1
    simp (disch:=omega) only [↓wr,↓reduceIte,wq,ai,ah,ak,ae,af,ag,aj,isNil,Nat.reduceEqDiff,Nat.reduceAdd,Nat.reduceLT,Nat.reduceLeDiff,Int.reduceNeg,Int.reduceToNat,reduceCtorEq,t2,t3,t5,List.getElem?_map,hx,hy,bj,encI,ar,encS]
    intro n hn
    try simp (disch:=omega) only [↓wr,↓reduceIte,wq,ai,ah,ak,ae,af,ag,aj,isNil,Nat.reduceEqDiff,Nat.reduceAdd,Nat.reduceLT,Nat.reduceLeDiff,Int.reduceNeg,Int.reduceToNat,reduceCtorEq,t2,t3,t5,bj,encI]
    intro n2 hn2
    have hmn:=(gS hn2 iO).1
    try simp (disch:=omega) only [↓wr,↓reduceIte,wq,ai,ah,ak,ae,af,ag,aj,isNil,Nat.reduceEqDiff,Nat.reduceAdd,Nat.reduceLT,Nat.reduceLeDiff,Int.reduceNeg,Int.reduceToNat,reduceCtorEq,t2,t3,t5,bj,encI,hmn,hmn.symm]
    have hne:x≠y→V.val (Value.bool false)=V.val (Value.bool (decide (g.aw=k.aw) && (decide (g.aD=k.aD) && (decide (g.rules=k.rules) && decide (g.start=k.start))))):=fun e=>by
      rw[decide_eq_false (p:=g.rules=k.rules) (Dr hx hy e)]; simp
    repeat' (first | (refine an.dec (fun _=>?_) (fun _=>?_)) | (refine an.eq (fun _=>?_) (fun _=>?_)) | (refine an.ne (fun _=>?_) (fun _=>?_)) | (refine an.split (fun _=>?_) (fun _=>?_)) | (refine az.pure (xx x.right y.right hsx) (by kernel_rfl) ?_) | (simp (disch:=omega) only [↓wr,↓reduceIte,wq,ai,ah,ak,ae,af,ag,aj,isNil,Nat.reduceEqDiff,Nat.reduceAdd,Nat.reduceLT,Nat.reduceLeDiff,Int.reduceNeg,Int.reduceToNat,reduceCtorEq,t2,t3,t5,bj,encI,hmn,hmn.symm]))
    · rename_i e; exact hne fun h=>e (by rw[h])
    · rename_i e; exact hne fun h=>e (by rw[h])
    · rename_i e3 e2 e1
      refine bb hm (by omega) ⟨xB hx hy hi ?_,t2,t3,rfl⟩
      cases x; cases y
      simp_all
    · rename_i e; exact hne fun h=>by rw[h] at e; simp at e
  · have e3:g.rules=k.rules:=Au (by omega) (by omega) hi
    simp (disch:=omega) only [↓wr,↓reduceIte,wq,ai,ah,ak,ae,af,ag,aj,isNil,Nat.reduceEqDiff,Nat.reduceAdd,Nat.reduceLT,Nat.reduceLeDiff,Int.reduceNeg,Int.reduceToNat,reduceCtorEq,t2,t3,t5]
    simp[e1,e2,e3,l4]
end Gv
set_option linter.unusedSimpArgs false
set_option maxRecDepth 100000
namespace Gv
open Go Go.Proofs
theorem GP (g:au) (l:List Int) (n:Int):∀ v∈[V.agg (ar g),encI l,.val (.int .u8 n)],Tree v:=by
  intro v hv; simp at hv
  rcases hv with rfl | rfl | rfl
  · exact bF _ (bB g)
  · exact cn l
  · exact .val _
end Gv
