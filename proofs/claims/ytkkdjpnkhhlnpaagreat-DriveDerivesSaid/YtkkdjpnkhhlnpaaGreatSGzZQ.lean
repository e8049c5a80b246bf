/-
  Part 17 of the proof: what the machine does and what the functions answer.
  Conditions: those that each lemma names.
-/
import Derived.Test.YtkkdjpnkhhlnpaaGreatSGzZP
set_option linter.unusedSimpArgs false
set_option linter.unusedVariables false
set_option maxRecDepth 100000
namespace Gv
open Go Go.Proofs
def B_gerundref19_Back_0:SC :=
  .seq (.seq (ab [aa 8 4,ah 9 .geq 8 0]) <|
  .cond (.tmp 9) (.skip) (.exit 0)) <|
  .seq (.block 1 (ab [aa 12 3,aa 13 0,aa 14 4,av 15 1 13 14,ae 16 15,((some 17),.op (.bslice 1 1 [(.val (.int .i64 0))] [(0,(.tmp 16))])),((some 18),.op (.app 1 8 (.tmp 12) (.tmp 17))),aa 3 18])) <|
  ab [aa 10 4,ah 11 .sub 10 1,aa 4 11]
def S_gerundref19_Back:SF:=⟨.seq (ab [((some 2),.op (.mov (.val (.emp 1))))]) <|
  .seq (ab [((some 3),.op (.mov (.val (.emp 1))))]) <|
  .seq (.seq (ab [aa 5 0,aj 6 5,ah 7 .sub 6 1,aa 4 7]) <|
  .block 0 (.loop B_gerundref19_Back_0)) <|
  .seq (ab [aa 19 3,aa 2 19]) <|
  .ret,
  [.tmp 2],20⟩
theorem S_gerundref19_Back_ok:compF Tryz.prog 23 []=some S_gerundref19_Back:=by kernel_rfl
def B_gerundref19_Derives_0:SC :=
  .seq (.seq (.region false [⟨none,[aa 49 10,ah 50 .geq 49 0,aa 51 50]⟩,⟨(some (51,true)),[aa 52 7,aa 53 10,av 54 1 52 53,ae 55 54,ah 56 .geq 55 0]⟩,⟨none,[az 57 51 56]⟩]) <|
  .cond (.tmp 57) (.skip) (.exit 2)) <|
  .block 3 (ab [aa 58 10,ah 59 .sub 58 1,aa 10 59])
def B_gerundref19_Derives_1:SC :=
  .seq (.seq (ab [aa 17 8,aa 18 1,aj 19 18,ak 20 .lss 17 19]) <|
  .cond (.tmp 20) (.skip) (.exit 0)) <|
  .seq (.block 1 (.seq (.seq (.region false [⟨none,[aa 23 1,aa 24 8,av 25 1 23 24,ae 26 25,ah 27 .lss 26 0,aa 28 27]⟩,⟨(some (28,false)),[aa 29 1,aa 30 8,av 31 1 29 30,ae 32 31,af 33 2 3,ae 34 33,aj 35 34,ak 36 .geq 32 35]⟩,⟨none,[ay 37 28 36]⟩]) <|
  .cond (.tmp 37) (.seq (ab [aw 6 false]) <|
  .ret) (.skip)) <|
  .seq (ab [af 38 2 3,ae 39 38,aa 40 1,aa 41 8,av 42 1 40 41,ae 43 42,av 44 3 39 43,au 45 3 44,((some 9),.op (.alloc [(.val (.int .i64 0)),(.emp 1),(.val (.int .i64 0))])),(none,.op (.store 3 (.tmp 9) (.tmp 45)))]) <|
  .seq (ab [aa 46 7,aj 47 46,ah 48 .sub 47 1,aa 10 48]) <|
  .seq (.block 2 (.loop B_gerundref19_Derives_0)) <|
  .seq (.seq (.region false [⟨none,[aa 60 10,ah 61 .lss 60 0,aa 62 61]⟩,⟨(some (62,false)),[aa 63 7,aa 64 10,av 65 1 63 64,ae 66 65,((some 67),.op (.arith .sub (.val (.val (.int .i64 (-1)))) (.tmp 66))),af 68 0 9,ae 69 68,ak 70 .neq 67 69]⟩,⟨none,[ay 71 62 70]⟩]) <|
  .cond (.tmp 71) (.seq (ab [aw 6 false]) <|
  .ret) (.skip)) <|
  .seq (ab [((some 72),.op (.mov (.val (.emp 2)))),aa 73 7,aa 74 10,ah 75 .add 74 1,((some 76),.op (.slice 1 (.tmp 73) (some (.tmp 75)) none)),((some 77),.op (.app 1 8 (.tmp 72) (.tmp 76))),aa 11 77]) <|
  .regionA [(83,78)] [⟨none,[((some 78),.op (.mov (.val (.emp 2)))),aa 79 7,aa 80 10,((some 81),.op (.slice 1 (.tmp 79) none (some (.tmp 80)))),((some 82),.op (.app 1 8 (.tmp 78) (.tmp 81))),af 83 1 9,ae 84 83,((some 85),.op (.app 1 8 (.tmp 82) (.tmp 84))),aa 86 11,((some 87),.op (.app 1 8 (.tmp 85) (.tmp 86))),aa 7 87]⟩])) <|
  ab [aa 21 8,ah 22 .add 21 1,aa 8 22]
def B_gerundref19_Derives_2:SC :=
  .seq (.seq (ab [aa 93 12,aa 94 2,aj 95 94,ak 96 .lss 93 95]) <|
  .cond (.tmp 96) (.skip) (.exit 4)) <|
  .seq (.block 5 (.seq (ab [aa 99 7,aa 100 12,av 101 1 99 100,ae 102 101,aa 103 2,aa 104 12,av 105 1 103 104,ae 106 105,ak 107 .neq 102 106]) <|
  .cond (.tmp 107) (.seq (ab [aw 6 false]) <|
  .ret) (.skip))) <|
  ab [aa 97 12,ah 98 .add 97 1,aa 12 98]
def S_gerundref19_Derives:SF:=⟨.seq (ab [aC 3 0,aw 6 false]) <|
  .seq (ab [af 13 3 3,ae 14 13,((some 15),.op (.arith .sub (.val (.val (.int .i64 (-1)))) (.tmp 14))),((some 16),.op (.bslice 1 1 [(.val (.int .i64 0))] [(0,(.tmp 15))])),aa 7 16]) <|
  .seq (.seq (ab [ai 8 0]) <|
  .block 0 (.loop B_gerundref19_Derives_1)) <|
  .seq (.seq (ab [aa 88 7,aj 89 88,aa 90 2,aj 91 90,ak 92 .neq 89 91]) <|
  .cond (.tmp 92) (.seq (ab [aw 6 false]) <|
  .ret) (.skip)) <|
  .seq (.seq (ab [ai 12 0]) <|
  .block 4 (.loop B_gerundref19_Derives_2)) <|
  .seq (ab [aw 6 true]) <|
  .ret,
  [.tmp 6],108⟩
theorem S_gerundref19_Derives_ok:compF Tryz.prog 22 [3,100000]=some S_gerundref19_Derives:=by kernel_rfl
def S_gerundlaw19_DriveDerives:SF:=⟨.seq (ab [aC 2 0,aw 4 false]) <|
  .seq (.seq (ab [ao 11 15 [],aB 12 11]) <|
  .cond (.tmp 12) (.seq (ab [aw 4 false]) <|
  .ret) (.skip)) <|
  .seq (.seq (.region false [⟨none,[au 13 4 2,ao 14 16 [13],aa 15 14]⟩,⟨(some (15,false)),[aa 16 1,aj 17 16,ah 18 .gtr 17 100]⟩,⟨none,[ay 19 15 18]⟩]) <|
  .cond (.tmp 19) (.seq (ab [aw 4 true]) <|
  .ret) (.skip)) <|
  .seq (ab [au 21 4 2,ao 22 17 [21],aa 20 22,aA 23 0 20,aA 24 1 20,aA 25 2 20,((some 5),.op (.alloc [(.emp 1),(.emp 1)])),(none,.op (.store 2 (.tmp 5) (.tmp 23))),aa 6 24,aa 7 25]) <|
  .seq (.seq (ab [aa 26 7,ah 27 .neq 26 0]) <|
  .cond (.tmp 27) (.seq (ab [aw 4 true]) <|
  .ret) (.skip)) <|
  .seq (ab [au 29 4 2,au 30 2 5,aa 31 1,ao 32 19 [29,30,31],aa 28 32,aA 33 0 28,aA 34 1 28,aA 35 2 28,aa 8 33,aa 9 34,aa 10 35]) <|
  .seq (.seq (ab [aa 36 10,ah 37 .neq 36 0]) <|
  .cond (.tmp 37) (.seq (ab [aa 38 8,aj 39 38,ah 40 .eql 39 0,aa 4 40]) <|
  .ret) (.skip)) <|
  .seq (.region true [⟨none,[aa 41 9,aa 42 1,aj 43 42,ak 44 .eql 41 43,aa 45 44]⟩,⟨(some (45,true)),[au 46 4 2,aa 47 8,ao 48 23 [47],aa 49 1,ao 50 22 [46,48,49]]⟩,⟨none,[az 51 45 50,aa 4 51]⟩]) <|
  .ret,
  [.tmp 4],52⟩
theorem S_gerundlaw19_DriveDerives_ok:compF Tryz.prog 4 [2]=some S_gerundlaw19_DriveDerives:=by kernel_rfl
theorem pn_Back19 (l:List Int) (hl:l.length≤100000):PNew Tryz.prog 23 [encI l] (encI l.reverse):=by
  refine PNew.of (by intro v hv; simp at hv; subst hv; exact encI_tree _) ?_
  refine MCall.of mixed S_gerundref19_Back_ok ?_
  simp (disch:=omega) only [↓wr,↓reduceIte,wq,oneV,intOp,goI,Nat.reduceLeDiff,reduceCtorEq,S_gerundref19_Back,encI]
  refine LoopG.up l.length (fun j T H'=>∃ u:V,OwnA H' u 1 (intsE (l.reverse.take j))∧T 0=encI l∧T 3=u∧T 4=gi ((l.length:Int) - 1 - j)) ⟨.emp 1,.nil,rfl,rfl,by show gi ((l.length:Int) - 1)=gi ((l.length:Int) - 1 - (0:Nat)); rw[Int.natCast_zero,Int.sub_zero]⟩ ?_
  rintro j k T H hk ⟨u,ho,t0,t3,t4⟩
  simp (disch:=omega) only [↓wr,↓reduceIte,wq,intOp,reduceCtorEq,B_gerundref19_Back_0,t4]
  refine GoB.dec (fun hc=>?_) (fun hc=>?_)
  · have hlt:j < l.length:=by omega
    have hx:l[((l.length:Int) - 1 - j).toNat]?=some (l.reverse[j]'(by simpa using hlt)):=by
      rw[show ((l.length:Int) - 1 - j).toNat=l.length - 1 - j by omega,List.getElem_reverse,List.getElem?_eq_getElem (by omega)]
    have htk:l.reverse.take (j+1)=l.reverse.take j ++ [l.reverse[j]'(by simpa using hlt)]:=by
      rw[List.take_add_one,List.getElem?_eq_getElem (by simpa using hlt)]; rfl
    generalize l.reverse[j]'(by simpa using hlt)=x at hx htk
    simp (disch:=omega) only [↓wr,↓reduceIte,wq,fillE,Nat.reduceEqDiff,Nat.reduceLT,reduceCtorEq,t0,t3,t4,encI,List.getElem?_map,hx]
    intro q hq
    simp (disch:=omega) only [↓wr,↓reduceIte,wq,Nat.reduceEqDiff,elemsOf_new]
    refine goApp_all (ho.fresh hq) (by simp[cellOk]) (by unfold limit; simp; omega) (by unfold limit; simp; omega) ?_
    intro u2 H2 o2 _
    simp (disch:=omega) only [↓wr,↓reduceIte,wq,intOp,Nat.reduceEqDiff,reduceCtorEq,t4]
    exact up_next hk hlt ⟨u2,by rw[htk]; simpa using o2,t0,rfl,by show gi ((l.length:Int) - 1 - j - 1)=_; rw[show (l.length:Int) - 1 - j - 1=(l.length:Int) - 1 - ((j+1:Nat):Int) by omega]⟩
  · simp (disch:=omega) only [↓wr,↓reduceIte,wq,Nat.reduceEqDiff,reduceCtorEq,t3]
    rw[List.take_of_length_le (by simp; omega)] at ho
    rintro h' rfl
    exact frn_ints ho
theorem lastNeg_lt:∀ (l:List Int) (k:Nat),-1≤lastNeg l k∧lastNeg l k < k
  | _,0=>by simp[lastNeg]
  | l,k+1=>by
    have:=lastNeg_lt l k
    rw[lastNeg]; split <;> omega
theorem intsE_at {l:List Int} {i:Nat} {x:Int} (h:l[i]?=some x):(intsE l).getD i []=[gi x]:=by simp[List.getD_eq_getElem?_getD,h]
theorem derF_cons (g:Gram) (r:Int) (rs form:List Int):derF g (r :: rs) form=(if r < 0∨(g.rules.length:Int)≤r then none
    else if lastNeg form form.length < 0 then none
    else if -1 - form.getD (lastNeg form form.length).toNat 0=(ruleD g r).left then derF g rs (form.take (lastNeg form form.length).toNat ++ (ruleD g r).right ++ form.drop ((lastNeg form form.length).toNat+1))
    else none):=rfl
theorem sym_small {g:Gram} (hf:g.Fine) {R:Rule} (hR:R∈g.rules):∀ s∈R.right,-1000≤s∧s≤1000:=by
  intro s hs
  have h1:=hf.sym _ hR s hs
  have:=hf.terms; have:=hf.nons
  unfold hasG at h1
  split at h1 <;> simp at h1 <;> omega
set_option maxHeartbeats 16000000 in
theorem pc_Derives19 (g:Gram) (hg:g.Ok) (hf:g.Fine) (rules w:List Int) (hr:rules.length≤3000) (hri:∀ x∈rules,In64 x) (hw:Short w):PCall Tryz.prog 22 [.agg (encG g),encI rules,encI w] (gb (derivesB g rules w)):=by
  refine PCall.val (by
    intro v hv; simp at hv
    rcases hv with rfl | rfl | rfl
    · exact tree_agg _ (encG_tree g)
    · exact encI_tree _
    · exact encI_tree _) fun H=>?_
  unfold Short at hw
  have hst:=fine_start hf
  have hru:=hf.rules
  refine MCall.of mixed S_gerundref19_Derives_ok ?_
  simp (disch:=omega) only [↓wr,↓reduceIte,wq,oneV,intOp,fillE,Nat.reduceEqDiff,Nat.reduceAdd,Nat.reduceLT,Nat.reduceLeDiff,Int.reduceNeg,S_gerundref19_Derives,encG,encS,encI]
  intro q0 hq0
  refine LoopG.up rules.length (fun i T H'=>∃ (u:V) (form:List Int),derF g (rules.drop i) form=derF g rules [-1 - g.start]∧form.length≤1+6 * i∧(∀ s∈form,-1000≤s∧s≤1000)∧OwnA H' u 1 (intsE form)∧T 1=encI rules∧T 2=encI w∧T 3=.fptr (encG g) 0∧T 7=u∧T 8=gi i)
    ⟨.sl q0 0 1 1,[-1 - g.start],rfl,by simp,by intro s hs; simp at hs; subst hs; omega,.inr ⟨q0,rfl,by simp[View.set]⟩,rfl,rfl,rfl,rfl,rfl⟩ ?_
  clear hq0
  clear q0 H
  rintro i k T H hk ⟨u,form,hd,hfl,hfs,ho,t1,t2,t3,t7,t8⟩
  simp (disch:=omega) only [↓wr,↓reduceIte,wq,intOp,goI,Nat.reduceEqDiff,Int.reduceNeg,B_gerundref19_Derives_1,t1,t8,encI]
  refine GoB.dec (fun hc=>?_) (fun hc=>?_)
  · have hx:rules[i]?=some (rules[i]'(by omega)):=List.getElem?_eq_getElem (by omega)
    have hxm:=hri _ (List.getElem_mem (show i < rules.length by omega))
    rw[List.drop_eq_getElem_cons (show i < rules.length by omega),derF_cons] at hd
    generalize rules[i]'(by omega)=r at hx hxm hd
    unfold In64 at hxm
    have no:derF g rules [-1 - g.start]=none→gb false=gb (derivesB g rules w):=fun h=>by rw[derivesB,h]; rfl
    simp (disch:=omega) only [↓wr,↓reduceIte,wq,intOp,Nat.reduceEqDiff,Nat.reduceLT,Int.reduceNeg,t1,t8,encI,List.getElem?_map,hx]
    refine GoB.dec (fun h1=>?_) (fun h1=>?_)
    · simp (disch:=omega) only [↓wr,↓reduceIte,wq,intOp,Nat.reduceEqDiff,Int.reduceNeg,reduceCtorEq]
      exact no (by rw[← hd,if_pos (.inl h1)])
    simp (disch:=omega) only [↓wr,↓reduceIte,wq,intOp,goI,Nat.reduceEqDiff,Nat.reduceAdd,Nat.reduceLT,Int.reduceNeg,t1,t3,t8,encI,List.getElem?_map,hx,encG]
    refine GoB.dec (fun h2=>?_) (fun h2=>?_)
    · simp (disch:=omega) only [↓wr,↓reduceIte,wq,intOp,Nat.reduceEqDiff,Int.reduceNeg,reduceCtorEq]
      exact no (by rw[← hd,if_pos (.inr (by omega))])
    rw[if_neg (by omega)] at hd
    have hR:g.rules[r.toNat]?=some (ruleD g r):=by unfold ruleD; exact getD_some (by omega)
    have hRm:=List.mem_of_getElem? hR
    have hL:=hf.left _ hRm
    have hR6:=hf.right _ hRm
    have hRs:=sym_small hf hRm
    generalize ruleD g r=R at hR hL hR6 hRs hd
    have hln:=lastNeg_lt form form.length
    simp (disch:=omega) only [↓wr,↓reduceIte,wq,goI,splice,Nat.reduceEqDiff,Nat.reduceAdd,Nat.reduceLT,Nat.reduceLeDiff,Int.reduceNeg,t1,t3,t7,t8,encI,List.getElem?_map,hx,hR,encG,encR]
    intro b9 hb9
    rw[set_set]
    have hob:=ho.fresh (o:=.arr 3 [[gi R.left,.fro (R.right.map fun x=>[gi x]),gi R.prec]]) hb9
    have hb9':(H.set b9 (.arr 3 [[gi R.left,.fro (R.right.map fun x=>[gi x]),gi R.prec]])) b9=.arr 3 [[gi R.left,.fro (R.right.map fun x=>[gi x]),gi R.prec]]:=by simp[View.set]
    have hlu:lenV u=some form.length:=by rw[ho.len]; simp
    clear ho
    generalize H.set b9 (.arr 3 [[gi R.left,.fro (R.right.map fun x=>[gi x]),gi R.prec]])=H1 at hob hb9' ⊢
    simp (disch:=omega) only [↓wr,↓reduceIte,wq,intOp,Int.reduceNeg,hlu]
    refine LoopG.upX 2 form.length (fun j T H'=>H'=H1∧lastNeg form (form.length - j)=lastNeg form form.length∧T 1=encI rules∧T 2=encI w∧T 3=.fptr (encG g) 0∧T 7=u∧T 8=gi i∧T 9=.ptr b9 0 0∧T 10=gi ((form.length:Int) - 1 - j))
      (fun T H'=>H'=H1∧T 1=encI rules∧T 2=encI w∧T 3=.fptr (encG g) 0∧T 7=u∧T 8=gi i∧T 9=.ptr b9 0 0∧T 10=gi (lastNeg form form.length)) ?_ ?_ ?_
    · exact ⟨rfl,rfl,t1,t2,t3,t7,t8,rfl,by show gi ((form.length:Int) - 1)=gi ((form.length:Int) - 1 - (0:Nat)); rw[Int.natCast_zero,Int.sub_zero]⟩
    · clear t1 t2 t3 t7 t8
      rintro Q' hQ' j k2 T2 H2 hk2 ⟨eH,hlj,t1,t2,t3,t7,t8,t9,t10⟩
      subst eH
      simp (disch:=omega) only [↓wr,↓reduceIte,wq,intOp,B_gerundref19_Derives_0,t10]
      refine GoB.dec (fun hcj=>?_) (fun hcj=>?_)
      · have hlt:j < form.length:=by omega
        have hf1:form[form.length - 1 - j]?=some (form.getD (form.length - 1 - j) 0):=getD_some (by omega)
        obtain ⟨id,hu,hid⟩:=hob.sl (by simp; omega)
        rw[List.length_map] at hu
        rw[show form.length - j=(form.length - 1 - j)+1 by omega,lastNeg] at hlj
        have hnn:((form.length:Int) - 1 - j).toNat=form.length - 1 - j:=by omega
        generalize form.getD (form.length - 1 - j) 0=y at hf1 hlj
        simp (disch:=omega) only [↓wr,↓reduceIte,wq,intOp,Nat.reduceEqDiff,Nat.reduceLT,t7,t10,hu,hid,hnn,intsE_at hf1]
        refine ⟨by omega,by first | omega | (simp; omega),?_⟩
        refine GoB.dec (fun hy=>?_) (fun hy=>?_)
        · rw[if_neg (by omega)] at hlj
          simp (disch:=omega) only [↓wr,↓reduceIte,wq,intOp,Nat.reduceEqDiff,t10]
          exact up_next hk2 hlt ⟨rfl,by rw[show form.length - (j+1)=form.length - 1 - j by omega]; exact hlj,t1,t2,t3,by first | exact t7 | (rw[hu]; exact t7),t8,t9,by show gi ((form.length:Int) - 1 - j - 1)=_; rw[show (form.length:Int) - 1 - j - 1=(form.length:Int) - 1 - ((j+1:Nat):Int) by omega]⟩
        · rw[if_pos (by omega)] at hlj
          rw[show (form.length:Int) - 1 - j=lastNeg form form.length by omega] at t10
          simp (disch:=omega) only [↓wr]
          exact hQ' _ _ ⟨rfl,t1,t2,t3,t7,t8,t9,t10⟩
      · rw[show form.length - j=0 by omega,lastNeg] at hlj
        rw[show (form.length:Int) - 1 - j=lastNeg form form.length by omega] at t10
        simp (disch:=omega) only [↓wr,↓reduceIte,wq,Nat.reduceEqDiff]
        exact hQ' _ _ ⟨rfl,t1,t2,t3,t7,t8,t9,t10⟩
    clear t1 t2 t3 t7 t8
    rintro T2 H2 ⟨eH,t1,t2,t3,t7,t8,t9,t10⟩
    subst eH
    generalize lastNeg form form.length=at0 at hln hd t10
    simp (disch:=omega) only [↓wr,↓reduceIte,wq,intOp,Int.reduceNeg,reduceCtorEq,t7,t8,t10]
    refine GoB.dec (fun hneg=>?_) (fun hneg=>?_)
    · simp (disch:=omega) only [↓wr,↓reduceIte,wq,intOp,Nat.reduceEqDiff,Int.reduceNeg,reduceCtorEq]
      exact no (by rw[← hd,if_pos hneg])
    rw[if_neg hneg] at hd
    obtain ⟨at1,rfl⟩:∃ n:Nat,at0=n:=⟨at0.toNat,by omega⟩
    rw[Int.toNat_natCast] at hd
    have hal:at1 < form.length:=by omega
    have hf1:form[at1]?=some (form.getD at1 0):=getD_some hal
    have hfy:=hfs _ (List.mem_of_getElem? hf1)
    generalize form.getD at1 0=y at hf1 hfy hd
    obtain ⟨id,hu,hid⟩:=hob.sl (by simp; omega)
    rw[List.length_map] at hu
    subst hu
    simp (disch:=omega) only [↓wr,↓reduceIte,wq,intOp,Nat.reduceEqDiff,Nat.reduceAdd,Nat.reduceLT,Int.reduceNeg,t7,t9,t10,hid,hb9',intsE_at hf1]
    refine ⟨hal,by first | omega | (simp; omega),?_⟩
    refine GoB.ne (fun hL2=>?_) (fun hL2=>?_)
    · simp (disch:=omega) only [↓wr,↓reduceIte,wq,intOp,Nat.reduceEqDiff,Int.reduceNeg,reduceCtorEq]
      exact no (by rw[← hd,if_neg hL2])
    rw[if_pos hL2] at hd
    obtain ⟨rd1,hel1⟩:∃ rd,elemsOf H2 (.sl id (at1+1) (form.length - (at1+1)) 1)=some (intsE (form.drop (at1+1)),rd):=by
      cases hz:form.length - (at1+1) with
      | zero=>exact ⟨[],by rw[List.drop_eq_nil_of_le (by omega)]; rfl⟩
      | succ z =>
        refine ⟨[id],?_⟩
        rw[elemsOf_sl H2 id (at1+1) z 1 1 (intsE form) hid (by simp; omega),show (intsE form).drop (at1+1)=intsE (form.drop (at1+1)) from List.map_drop.symm,List.take_of_length_le (by simp; omega)]
    have htl:=sSliceG_tail (sz:=1) (id:=id) (off:=0) (k:=form.length) (m:=at1+1) (by omega)
    rw[show (((at1+1:Nat)):Int)=(at1:Int)+1 by omega,Nat.zero_add] at htl
    have hhd:=sSliceG_head (sz:=1) (id:=id) (off:=0) (k:=form.length) (m:=at1) (by omega)
    simp (disch:=omega) only [↓wr,↓reduceIte,wq,intOp,Nat.reduceEqDiff,Int.reduceNeg,t7,t10,htl,hel1]
    refine goApp_all OwnA.nil (ints_okB _) (by unfold limit; simp; omega) (by unfold limit; simp; omega) ?_
    intro rest H3 o3 l3
    have hid3:H3 id=.arr 1 (intsE form):=by rw[(l3 id (by rw[hid]; simp) (by simp[owner])).1,hid]
    have hb93:H3 b9=.arr 3 [[gi R.left,.fro (R.right.map fun x=>[gi x]),gi R.prec]]:=by rw[(l3 b9 (by rw[hb9']; simp) (by simp[owner])).1,hb9']
    obtain ⟨rd2,hel2⟩:∃ rd,elemsOf H3 (.sl id 0 at1 1)=some (intsE (form.take at1),rd):=by
      cases hz:at1 with
      | zero=>exact ⟨[],rfl⟩
      | succ z =>
        refine ⟨[id],?_⟩
        rw[elemsOf_sl H3 id 0 z 1 1 (intsE form) hid3 (by simp; omega),List.drop_zero,show (intsE form).take (z+1)=intsE (form.take (z+1)) from List.map_take.symm]
    simp (disch:=omega) only [↓wr,↓reduceIte,wq,Nat.reduceEqDiff,Int.reduceNeg,t7,t10,hhd,hel2]
    refine goApp_all OwnA.nil (ints_okB _) (by unfold limit; simp; omega) (by unfold limit; simp; omega) ?_
    intro u3 H4 o4 l4
    have hb94:H4 b9=.arr 3 [[gi R.left,.fro (R.right.map fun x=>[gi x]),gi R.prec]]:=by rw[(l4 b9 (by rw[hb93]; simp) (by simp[owner])).1,hb93]
    have r4:=o3.left l4 (fun id _=>by simp[owner])
    simp (disch:=omega) only [↓wr,↓reduceIte,wq,Nat.reduceEqDiff,Nat.reduceAdd,Nat.reduceLT,Int.reduceNeg,t9,hb94]
    refine goApp_all (bytes:=8) (xs:=intsE R.right) o4 (ints_okB _) (by unfold limit; simp only[List.length_map,List.length_take,List.nil_append]; omega) (by unfold limit; simp only[List.length_map,List.length_take,List.nil_append]; omega) ?_
    intro u4 H5 o5 l5
    have r5:=r4.left l5 (fun id hid=>(l4 id (by rw[(o3.live hid).1]; simp) (by simp[owner])).2)
    obtain ⟨rd3,hel3⟩:=own_elems r5
    simp (disch:=omega) only [↓wr,↓reduceIte,wq,Nat.reduceEqDiff,Int.reduceNeg,hel3]
    refine goApp_all o5 (ints_okB _) (by unfold limit; simp only[List.length_append,List.length_map,List.length_take,List.length_drop,List.nil_append]; omega) (by unfold limit; simp only[List.length_append,List.length_map,List.length_take,List.length_drop,List.nil_append]; omega) ?_
    intro u5 H6 o6 _
    simp (disch:=omega) only [↓wr,↓reduceIte,wq,intOp,Nat.reduceEqDiff,Int.reduceNeg,reduceCtorEq,t8]
    refine up_next hk (by omega) ⟨u5,form.take at1 ++ R.right ++ form.drop (at1+1),hd,?_,fun s hs=>?_,?_,t1,t2,t3,rfl,rfl⟩
    · simp; omega
    · rcases List.mem_append.1 hs with hs | hs
      · rcases List.mem_append.1 hs with hs | hs
        · exact hfs s (List.mem_of_mem_take hs)
        · exact hRs s hs
      · exact hfs s (List.mem_of_mem_drop hs)
    · rw[intsE,List.map_append,List.map_append]
      simpa [List.append_assoc] using o6
  · rw[List.drop_eq_nil_of_le (by omega),derF] at hd
    have hlu:lenV u=some form.length:=by rw[ho.len]; simp
    have hres:derivesB g rules w=decide (form=w):=by
      rw[derivesB,← hd,Bool.eq_iff_iff]; simp
    simp (disch:=omega) only [↓wr,↓reduceIte,wq,intOp,goI,Nat.reduceEqDiff,reduceCtorEq,t2,t7,hlu,encI]
    refine GoB.ne (fun hne=>?_) (fun hne=>?_)
    · simp (disch:=omega) only [↓wr,↓reduceIte,wq,reduceCtorEq]
      rw[hres,decide_eq_false]
      rintro rfl; exact hne rfl
    simp (disch:=omega) only [↓wr,wq]
    refine LoopG.up w.length (fun j T H'=>H'=H∧form.take j=w.take j∧T 2=encI w∧T 7=u∧T 12=gi j) ⟨rfl,rfl,t2,t7,rfl⟩ ?_
    clear t1 t2 t3 t7 t8
    rintro j k2 T2 H2 hk2 ⟨eH,he,t2,t7,t12⟩
    subst eH
    simp (disch:=omega) only [↓wr,↓reduceIte,wq,intOp,goI,Nat.reduceEqDiff,reduceCtorEq,B_gerundref19_Derives_2,t2,t12,encI]
    refine GoB.dec (fun hcj=>?_) (fun hcj=>?_)
    · have hx:form[j]?=some (form[j]'(by omega)):=List.getElem?_eq_getElem (by omega)
      have hy:w[j]?=some (w[j]'(by omega)):=List.getElem?_eq_getElem (by omega)
      generalize form[j]'(by omega)=x at hx
      generalize w[j]'(by omega)=y at hy
      obtain ⟨id,hu,hid⟩:=ho.sl (by simp; omega)
      rw[List.length_map] at hu
      simp (disch:=omega) only [↓wr,↓reduceIte,wq,intOp,Nat.reduceEqDiff,Nat.reduceLT,t2,t7,t12,hu,hid,intsE_at hx,encI,List.getElem?_map,hy]
      refine ⟨by omega,by first | omega | (simp; omega),?_⟩
      refine GoB.ne (fun hxy=>?_) (fun hxy=>?_)
      · simp (disch:=omega) only [↓wr,↓reduceIte,wq,intOp,Nat.reduceEqDiff,reduceCtorEq]
        rw[hres,decide_eq_false]
        rintro rfl
        rw[hx] at hy; simp at hy; exact hxy hy
      · simp (disch:=omega) only [↓wr,↓reduceIte,wq,intOp,Nat.reduceEqDiff,reduceCtorEq,t12]
        exact up_next hk2 (by omega) ⟨rfl,by rw[List.take_add_one,List.take_add_one,he,hx,hy,hxy],t2,by first | rfl | exact t7 | (rw[hu]; exact t7) | exact hu.symm,rfl⟩
    · simp (disch:=omega) only [↓wr,↓reduceIte,wq,Nat.reduceEqDiff,reduceCtorEq]
      rw[List.take_of_length_le (by omega),List.take_of_length_le (by omega)] at he
      rw[hres,decide_eq_true he]
theorem plainA_derives {g:Gram} (hb:BuiltT g (autoD g).1) (w:List Int):((plainA g (buildD g).1 w).2.2=0→(plainA g (buildD g).1 w).2.1=w.length∧derivesB g (plainA g (buildD g).1 w).1.reverse w=true)∧((plainA g (buildD g).1 w).2.2≠0→(plainA g (buildD g).1 w).1=[]):=by
  rw[plainA_eq]
  split
  · rename_i h
    rw[Bool.and_eq_true] at h
    have hw:∀ x∈w,0≤x∧x < (g.terms.length:Int):=by
      have:=h.1
      unfold wordB terB at this
      simp only[Bool.and_eq_true,List.all_eq_true,decide_eq_true_eq] at this
      exact this.2
    rw[hb.tab]
    have:=run_derives hb.fine hb.ok hb.edge hb.len1 look_is hw 2000 [0] [] 0 [] .nil (Nat.zero_le _) (by simp[derF])
    refine ⟨fun h0=>?_,this.2⟩
    obtain ⟨p1,p2⟩:=this.1 h0
    exact ⟨p1,by rw[derivesB,p2]; simp⟩
  · exact ⟨fun h=>by simp at h,fun _=>rfl⟩
theorem runD_rule {g:Gram} {t:Tab} (ht:t.Ok) (w:List Int):∀ (k:Nat) (st rs:List Int) (at_:Nat),(∀ x∈rs,In64 x)→∀ x∈(runD g t w k st rs at_).1,In64 x:=by
  have hc:∀ s x:Int,In64 (cellA t s x).n:=fun s x=>by
    unfold cellA
    rw[List.getD_eq_getElem?_getD,List.getD_eq_getElem?_getD]
    cases h:t.actions[s.toNat]? with
    | none=>simp[In64]
    | some r =>
      simp only[Option.getD_some]
      cases h2:r[x.toNat]? with
      | none=>simp[In64]
      | some c=>exact ((ht.row r (List.mem_of_getElem? h)).2 c (List.mem_of_getElem? h2)).2
  intro k
  induction k with
  | zero =>
    intro st rs at_ h
    rw[runD_eq]
    split
    · exact h
    · split <;> simp
  | succ k ih =>
    intro st rs at_ h
    rw[runD_eq]
    split
    · exact h
    · split
      · simp
      · simp only
        split
        · exact ih _ _ _ h
        · split
          · simp
          · split
            · simp
            · refine ih _ _ _ fun x hx=>?_
              rcases List.mem_append.1 hx with hx | hx
              · exact h x hx
              · simp at hx; subst hx; exact hc _ _
theorem plainA_rule {g:Gram} {t:Tab} (ht:t.Ok) (w:List Int):(∀ x∈(plainA g t w).1,In64 x)∧(plainA g t w).1.length≤2000:=by
  rw[plainA_eq]
  split
  · exact ⟨runD_rule ht w 2000 [0] [] 0 (by simp),by have:=runD_len g t w 2000 [0] [] 0; simpa using this⟩
  · simp
set_option maxHeartbeats 8000000 in
theorem pc_DriveDerives (g:Gram) (hg:g.Ok) (w:List Int) (hw:Short w) (hn:∀ x∈w,In64 x):PCall Tryz.prog 4 [.agg (encG g),encI w] (gb true):=by
  refine PCall.val (gw_args2 g w) fun H=>?_
  have hw':=hw
  unfold Short at hw'
  have hB:=(pn_Build17 g hg).pure
  refine MCall.of mixed S_gerundlaw19_DriveDerives_ok ?_
  simp only[encG,encS,encTab] at hB
  simp (disch:=omega) only [↓wr,wq,oneV,Nat.reduceAdd,Nat.reduceLeDiff,S_gerundlaw19_DriveDerives,encG,encS,encI]
  refine CallG.pure pc_alive19 (by kernel_rfl) ?_
  simp (disch:=omega) only [↓wr,↓reduceIte,wq,Nat.reduceEqDiff,Nat.reduceAdd,Nat.reduceLeDiff]
  refine CallG.pure (pc_great g) (by kernel_rfl) ?_
  simp (disch:=omega) only [↓wr,↓reduceIte,wq]
  refine GoB.split (fun e=>?_) (fun e=>?_)
  · simp (disch:=omega) only [↓wr,↓reduceIte,wq,Nat.reduceEqDiff,reduceCtorEq]
  have hsm:g.Small:=great_small e
  simp (disch:=omega) only [↓wr,↓reduceIte,wq,intOp,goI,Nat.reduceEqDiff]
  refine GoB.dec (fun hl=>?_) (fun hl=>?_)
  · simp (disch:=omega) only [↓wr,↓reduceIte,wq,reduceCtorEq]
  simp (disch:=omega) only [↓wr,↓reduceIte,wq,Nat.reduceEqDiff,Nat.reduceAdd,Nat.reduceLeDiff]
  refine CallG.pure hB (by kernel_rfl) ?_
  by_cases hz:(buildD g).2.2=0
  · have hb:=build_is hg hz
    have htk:=hb.tok
    have p1:=(pn_dPlain g hg hsm _ htk w hw hn).pure
    obtain ⟨d1,d2⟩:=plainA_derives hb w
    obtain ⟨r1,r2⟩:=plainA_rule (g:=g) htk w
    generalize plainA g (buildD g).1 w=y at p1 d1 d2 r1 r2
    obtain ⟨y1,y2,y3⟩:=y
    simp only at d1 d2 r1 r2
    have hf:=hb.fine
    clear hb htk
    generalize (buildD g).1=t at *
    have hbk:=(pn_Back19 y1 (by omega)).pure
    have hde:=pc_Derives19 g hg hf y1.reverse w (by simp; omega) (fun x hx=>r1 x (by simpa using hx)) hw
    simp only[encG,encS,encTab,encI,outD] at p1 hde hbk
    simp (disch:=omega) only [↓wr,↓reduceIte,wq,intOp,splice,Nat.reduceEqDiff,Nat.reduceAdd,Nat.reduceLT,Nat.reduceLeDiff]
    intro b5 hb5
    refine GoB.ne (fun h=>absurd hz h) (fun _=>?_)
    simp (disch:=omega) only [↓wr,↓reduceIte,wq,Nat.reduceEqDiff,Nat.reduceAdd,Nat.reduceLT,Nat.reduceLeDiff,encI]
    refine CallG.pure p1 (by kernel_rfl) ?_
    simp (disch:=omega) only [↓wr,↓reduceIte,wq,intOp,Nat.reduceEqDiff,Nat.reduceAdd,Nat.reduceLT]
    refine GoB.ne (fun hne=>?_) (fun h0=>?_)
    · rw[d2 hne]
      simp (disch:=omega) only [↓wr,↓reduceIte,wq,intOp,goI,Nat.reduceEqDiff,reduceCtorEq]
      rfl
    · obtain ⟨q1,q2⟩:=d1 h0
      rw[q2] at hde
      simp (disch:=omega) only [↓wr,↓reduceIte,wq,intOp,goI,Nat.reduceEqDiff]
      refine GoB.eq (fun _=>?_) (fun h=>absurd q1 h)
      simp (disch:=omega) only [↓wr,↓reduceIte,wq,Nat.reduceEqDiff,Nat.reduceAdd,Nat.reduceLeDiff]
      refine CallG.pure hbk (by kernel_rfl) ?_
      simp (disch:=omega) only [↓wr,↓reduceIte,wq,Nat.reduceEqDiff]
      refine CallG.pure hde (by kernel_rfl) ?_
      simp (disch:=omega) only [↓wr,↓reduceIte,wq,Nat.reduceEqDiff,reduceCtorEq]
  · simp (disch:=omega) only [↓wr,↓reduceIte,wq,intOp,splice,Nat.reduceEqDiff,Nat.reduceAdd,Nat.reduceLT,Nat.reduceLeDiff]
    intro b5 hb5
    refine GoB.ne (fun h=>?_) (fun h=>absurd h hz)
    simp (disch:=omega) only [↓wr,↓reduceIte,wq,reduceCtorEq]
end Gv
