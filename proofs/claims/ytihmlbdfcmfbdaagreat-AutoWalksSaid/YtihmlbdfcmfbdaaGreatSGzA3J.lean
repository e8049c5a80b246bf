/-
  Part 10 of the proof: what the machine does and what the functions answer.
  Conditions: those that each lemma names.
-/
import Derived.Test.YtihmlbdfcmfbdaaGreatSGzA3I
set_option linter.unusedSimpArgs false
set_option linter.unusedVariables false
set_option maxRecDepth 100000
namespace Gv
open Go Go.Proofs
def nH:SC :=
  .seq (aq [aQ 44 .lss 43 42]) <|
  .seq (.cond (.tmp 44) (.skip) (.exit 0)) <|
  .seq (.block 1 (.seq (aq [aa 45 43,ba 46 3 41 43,aO 47 3 46,((some 11),.op (.alloc [(.val (.int .i64 0)),(.emp 1),(.val (.int .i64 0))])),aa 10 45,(none,.op (.store 3 (.tmp 11) (.tmp 47)))]) <|
  .seq (.seq (.region false [⟨none,[aa 48 6,an 49 0 11,ar 50 49,ba 51 1 48 50,ar 52 51,cw 53 52,aa 54 53]⟩,⟨(some (54,false)),[aO 55 3 11,aa 56 5,aD 57 160 [55,56],cw 58 57]⟩,⟨none,[bV 59 54 58]⟩]) <|
  .cond (.tmp 59) (.exit 1) (.skip)) <|
  .seq (aq [aa 60 7,aa 61 10,((some 62),.op (.bz 1 1 [(.val (.int .i64 0))] [(0,(.tmp 61))])),((some 63),.op (.app 1 8 (.tmp 60) (.tmp 62))),aa 7 63]) <|
  .seq (aq [aa 65 9,an 66 0 11,ar 67 66,((some 68),.op (.old (.lookup 204 (.tmp 65) (.tmp 67) true) 30)),aa 64 68,cr 69 0 64,cr 70 1 64,aa 12 69,aa 13 70]) <|
  .seq (aq [aa 71 13,cw 72 71]) <|
  .cond (.tmp 72) (.seq (aq [aa 73 9,an 74 0 11,ar 75 74,an 76 1 8,ar 77 76,aR 78 77,(none,.op (.old (.mapUpdate 204 (.tmp 73) (.tmp 75) (.tmp 78)) 0))]) <|
  .region false [⟨none,[an 79 1 8,ar 80 79,an 81 1 1,ar 82 81,an 83 0 11,ar 84 83,ba 85 1 82 84,ar 86 85,((some 87),.op (.bz 1 1 [(.val (.string ⟨#[]⟩))] [(0,(.tmp 86))])),((some 88),.op (.app 1 16 (.tmp 80) (.tmp 87))),an 89 1 8,(none,.op (.store 1 (.tmp 89) (.tmp 88)))]⟩]) (.skip))) <|
  aq [aw 90 .add 43 1,aa 43 90]
def m4:SC :=
  .seq (aq [aQ 116 .lss 115 114]) <|
  .seq (.cond (.tmp 116) (.skip) (.exit 4)) <|
  .seq (.block 5 (.seq (aq [aa 117 115,ba 118 1 113 115,ar 119 118,aa 18 117,aa 19 119]) <|
  .seq (aq [aa 120 19,aw 121 .lss 120 0]) <|
  .cond (.tmp 121) (aq [an 122 1 17,ar 123 122,aa 124 18,aa 125 9,aa 126 19,((some 127),.op (.arith .sub (.val (.val (.int .i64 (-1)))) (.tmp 126))),((some 128),.op (.old (.lookup 204 (.tmp 125) (.tmp 127) false) 3)),((some 129),.op (.arith .sub (.val (.val (.int .i64 (-1)))) (.tmp 128))),ba 130 1 123 124,(none,.op (.store 1 (.tmp 130) (.tmp 129)))]) (.skip))) <|
  aq [aw 131 .add 115 1,aa 115 131]
def m7:SC :=
  .seq (aq [aQ 94 .lss 93 92]) <|
  .seq (.cond (.tmp 94) (.skip) (.exit 2)) <|
  .seq (.block 3 (.seq (aq [ba 95 1 91 93,ar 96 95,aa 15 96]) <|
  .seq (aq [an 97 2 1,ar 98 97,aa 99 15,ba 100 3 98 99,aO 101 3 100,((some 16),.op (.alloc [(.val (.int .i64 0)),(.emp 1),(.val (.int .i64 0))])),(none,.op (.store 3 (.tmp 16) (.tmp 101)))]) <|
  .seq (.region true [⟨none,[aa 102 9,an 103 0 16,ar 104 103,((some 105),.op (.old (.lookup 204 (.tmp 102) (.tmp 104) false) 3)),an 106 1 16,ar 107 106,aD 108 161 [107],an 109 2 16,ar 110 109,((some 111),.op (.build [(.val (.int .i64 0)),(.emp 1),(.val (.int .i64 0))] [(0,1,(.tmp 105)),(1,1,(.tmp 108)),(2,1,(.tmp 110))])),((some 17),.op (.alloc [(.val (.int .i64 0)),(.emp 1),(.val (.int .i64 0))])),(none,.op (.store 3 (.tmp 17) (.tmp 111)))]⟩]) <|
  .seq (.seq (aq [an 112 1 17,ar 113 112,aR 114 113,aA 115 0]) <|
  .block 4 (.loop m4)) <|
  aq [an 132 2 8,ar 133 132,aO 134 3 17,((some 135),.op (.bz 1 3 [(.val (.int .i64 0)),(.emp 1),(.val (.int .i64 0))] [(0,(.tmp 134))])),((some 136),.op (.app 3 40 (.tmp 133) (.tmp 135))),an 137 2 8,(none,.op (.store 1 (.tmp 137) (.tmp 136)))])) <|
  aq [aw 138 .add 93 1,aa 93 138]
def qx:SF:=⟨.seq (aq [c5 1 0,((some 2),.op (.alloc [(.emp 1),(.emp 1),(.emp 1),(.val (.int .i64 0))])),((some 3),.op (.bc (.val (.emp 1)))),aA 4 0]) <|
  .seq (.seq (aq [aO 20 4 1,aD 21 52 [20],cw 22 21]) <|
  .cond (.tmp 22) (.seq (aq [((some 23),.op (.build [(.emp 1),(.emp 1),(.emp 1),(.val (.int .i64 0))] [])),(none,.op (.store 4 (.tmp 2) (.tmp 23))),((some 3),.op (.bc (.val (.emp 1)))),aA 4 1]) <|
  .ret) (.skip)) <|
  .seq (.region true [⟨none,[aO 24 4 1,aD 25 157 [24],aO 26 4 1,aD 27 158 [26],aa 5 25,aa 6 27]⟩]) <|
  .seq (.seq (aq [aa 28 5,an 29 3 1,ar 30 29,ba 31 1 28 30,ar 32 31,cw 33 32]) <|
  .cond (.tmp 33) (.seq (aq [((some 34),.op (.build [(.emp 1),(.emp 1),(.emp 1),(.val (.int .i64 0))] [])),(none,.op (.store 4 (.tmp 2) (.tmp 34))),((some 3),.op (.bc (.val (.emp 1)))),aA 4 9]) <|
  .ret) (.skip)) <|
  .seq (aq [((some 7),.op (.bc (.val (.emp 1))))]) <|
  .seq (aq [an 35 0 1,ar 36 35,aD 37 159 [36],((some 38),.op (.build [(.emp 1),(.emp 1),(.emp 1),(.val (.int .i64 0))] [(0,1,(.tmp 37))])),((some 8),.op (.alloc [(.emp 1),(.emp 1),(.emp 1),(.val (.int .i64 0))])),(none,.op (.store 4 (.tmp 8) (.tmp 38)))]) <|
  .seq (aq [((some 39),.op (.lW)),aa 9 39]) <|
  .seq (.seq (aq [an 40 2 1,ar 41 40,aR 42 41,aA 43 0]) <|
  .block 0 (.loop nH)) <|
  .seq (.seq (aq [aa 91 7,aR 92 91,aA 93 0]) <|
  .block 2 (.loop m7)) <|
  .seq (aq [aa 139 9,an 140 3 1,ar 141 140,((some 142),.op (.old (.lookup 204 (.tmp 139) (.tmp 141) false) 3)),an 143 3 8,(none,.op (.store 1 (.tmp 143) (.tmp 142)))]) <|
  .seq (aq [aO 144 4 8,aa 145 7,(none,.op (.store 4 (.tmp 2) (.tmp 144))),aa 3 145,aA 4 0]) <|
  .ret,
  [.cell 2 (some 4),.tmp 3,.tmp 4],146⟩
theorem tB:bD Tryz.prog 109 [1]=some qx:=by kernel_rfl
abbrev qY (m:cG Int):List (V × V × Nat):=de (Value.int .i64) m
def Io (g:al) (p q:List Bool) (b2 b8 b9:Nat) (u0:V) (i:Nat) (T:Env) (H:View):Prop :=
  (∃ u1 u3:V,T 7=u3∧(∀ x∈bW p q (g.rules.take i),0≤x∧x < g.ay.length)∧(bW p q (g.rules.take i)).length≤i ∧
    bg H [(.sl b8 0 1 4,4,[[u0,u1,.emp 1,gi 0]]),(u3,1,cU (ct p q (g.rules.take i) 0)),
      (u1,1,nk ((bW p q (g.rules.take i)).map fun x=>g.ay.getD x.toNat ⟨#[]⟩)),(u0,3,g.az.map cF),(.sl b2 0 1 4,4,[[.emp 1,.emp 1,.emp 1,gi 0]])] ∧
    ∃ m c,H b9=.map (qY m) c∧ji gi (fR (bW p q (g.rules.take i)) 0) m) ∧
  T 1=.aS (aX g) 0∧T 2=.ptr b2 0 0∧T 5=cB p∧T 6=cB q∧T 8=.ptr b8 0 0∧T 9=.mp b9∧T 41=.aI (g.rules.map bf)∧T 42=gi g.rules.length∧T 43=gi i
theorem w7 {α:Type} {x s:α} : ∀ {a d:List α} {k:Nat},a.length=k→(a ++ s :: d).set k x=a ++ x :: d
  | [],d,k,h=>by simp at h; subst h; rfl
  | y :: a,d,k,h=>by
    cases k with
    | zero=>simp at h
    | succ k=>simp only[List.cons_append,List.set_cons_succ]; rw[w7 (by simpa using h)]
def JL (g:al) (p q:List Bool) (b2 b8 b9:Nat) (u0 u1 u3:V) (o kl:List Int) (mm:cG Int) (cc:Nat) (i:Nat) (T:Env) (H:View):Prop :=
  (∃ (u2:V) (bs:vS),bs.map (·.2)=((g.rules.filter (bj p q)).take i).map (bd (cz o)) ∧
    bg H ((.sl b8 0 1 4,4,[[u0,u1,u2,gi 0]]) :: (u3,1,cU kl) ::
      (u1,1,nk (o.map fun x=>g.ay.getD x.toNat ⟨#[]⟩)) :: (u0,3,g.az.map cF) :: (u2,3,gP bs) :: (.sl b2 0 1 4,4,[[.emp 1,.emp 1,.emp 1,gi 0]]) :: ot bs) ∧
    H b9=.map (qY mm) cc) ∧
  T 1=.aS (aX g) 0∧T 2=.ptr b2 0 0∧T 7=u3∧T 8=.ptr b8 0 0∧T 9=.mp b9∧T 91=u3∧T 92=gi kl.length∧T 93=gi i
def JQ (g:al) (b2 b8 b9 b16 b17:Nat) (u3 v:V) (o kl:List Int) (mm:cG Int) (cc:Nat) (r:aE) (L:List eD) (i k:Nat) (T:Env) (H:View):Prop :=
  bg H ((.sl b17 0 1 3,3,[[gi (cz o r.left),v,gi r.prec]]) :: (v,1,cU ((bd (cz o) r).right.take k ++ r.right.drop k)) :: (.sl b16 0 1 3,3,[bf r]) :: L) ∧
  H b9=.map (qY mm) cc∧T 1=.aS (aX g) 0∧T 2=.ptr b2 0 0∧T 7=u3∧T 8=.ptr b8 0 0∧T 9=.mp b9∧T 91=u3∧T 92=gi kl.length∧T 93=gi i∧T 17=.ptr b17 0 0∧T 113=v∧T 114=gi r.right.length∧T 115=gi k
set_option maxHeartbeats 8000000 in
theorem A7 (g:al) (hg:g.Ok) (hs:g.Small):dJ Tryz.prog 109 [.agg (aX g)] (wZ (if bu g=true then
    if (aB g true).getD g.start.toNat false=true then (iM g (cz (bW (aB g true) (bh g) g.rules)) (aB g true) (bh g),ct (aB g true) (bh g) g.rules 0,0)
    else (np,[],9)
  else (np,[],1))):=by
  refine dJ.of (oZ g) ?_
  refine aH.of mixed tB ?_
  simp (disch:=omega) only [↓wr,↓reduceIte,wq,ai,ag,ak,ab,ae,af,aj,isNil,Nat.reduceEqDiff,Nat.reduceAdd,Nat.reduceLT,Nat.reduceLeDiff,Int.reduceNeg,Int.reduceToNat,reduceCtorEq,qx,aX,encS]
  intro b2
  try simp (disch:=omega) only [↓wr,↓reduceIte,wq,ai,ag,ak,ab,ae,af,aj,isNil,Nat.reduceEqDiff,Nat.reduceAdd,Nat.reduceLT,Nat.reduceLeDiff,Int.reduceNeg,Int.reduceToNat,reduceCtorEq,aX,encS]
  refine aN.pure (mY g hg hs.names) (by kernel_rfl) ?_
  repeat' (first | (refine ax.dec (fun _=>?_) (fun _=>?_)) | (refine ax.eq (fun _=>?_) (fun _=>?_)) | (refine ax.ne (fun _=>?_) (fun _=>?_)) | (refine ax.split (fun _=>?_) (fun _=>?_)) | (simp (disch:=omega) only [↓wr,↓reduceIte,wq,ai,ag,ak,ab,ae,af,aj,isNil,Nat.reduceEqDiff,Nat.reduceAdd,Nat.reduceLT,Nat.reduceLeDiff,Int.reduceNeg,Int.reduceToNat,reduceCtorEq,aX,encS,set_set]))
  · rename_i hr
    rw[if_pos hr]
    refine aN.pure (pa g hg hs).pure (by kernel_rfl) ?_
    simp (disch:=omega) only [↓wr,↓reduceIte,wq,ai,ag,ak,ab,ae,af,aj,isNil,Nat.reduceEqDiff,Nat.reduceAdd,Nat.reduceLT,Nat.reduceLeDiff,Int.reduceNeg,Int.reduceToNat,reduceCtorEq,aX,encS]
    refine aN.pure (yl g hg hs).pure (by kernel_rfl) ?_
    have hf:=bA hr
    have h3:=hf.mI
    have h4:=hf.start
    have hpl:=kB hr true
    have hql:=od hr
    generalize aB g true=p at hpl ⊢
    generalize bh g=q at hql ⊢
    have hps:p[g.start.toNat]?=some (p[g.start.toNat]'(by omega)):=List.getElem?_eq_getElem (by omega)
    have hpd:p.getD g.start.toNat false=p[g.start.toNat]'(by omega):=by simp[List.getD_eq_getElem?_getD,hps]
    generalize p[g.start.toNat]'(by omega)=s at hps hpd
    rw[hpd]
    simp (disch:=omega) only [↓wr,↓reduceIte,wq,ai,ag,ak,ab,ae,af,aj,isNil,Nat.reduceEqDiff,Nat.reduceAdd,Nat.reduceLT,Nat.reduceLeDiff,Int.reduceNeg,Int.reduceToNat,reduceCtorEq,aX,encS,cB,List.getElem?_map,hps]
    cases s with
    | false =>
      simp (disch:=omega) only [↓wr,↓reduceIte,wq,ai,ag,ak,ab,ae,af,aj,isNil,Nat.reduceEqDiff,Nat.reduceAdd,Nat.reduceLT,Nat.reduceLeDiff,Int.reduceNeg,Int.reduceToNat,reduceCtorEq,aX,encS,set_set]
      rintro h' hh
      exact zA
    | true =>
      simp (disch:=omega) only [↓wr,↓reduceIte,wq,ai,ag,ak,ab,ae,af,aj,isNil,Nat.reduceEqDiff,Nat.reduceAdd,Nat.reduceLT,Nat.reduceLeDiff,Int.reduceNeg,Int.reduceToNat,reduceCtorEq,aX,encS,set_set]
      have hN:=hf.ay
      have hN1:=hf.Dc
      have hT:=hf.az
      have hR:=hf.rules
      refine aN.wi ((FQ g.az (by omega) _).mono ?_)
      rintro u0 H1 ⟨hu0,hfr⟩
      have ho1:=(bg.nil.new (H:=fun _=>br.dead) (n:=b2) rfl 4 [[.emp 1,.emp 1,.emp 1,gi 0]]).Ic hu0 hfr
      have c0:=ho1.head.cells
      have k0:=ho1.head.x4
      simp (disch:=omega) only [↓wr,↓reduceIte,wq,ai,ag,ak,ab,ae,af,aj,isNil,Nat.reduceEqDiff,Nat.reduceAdd,Nat.reduceLT,Nat.reduceLeDiff,Int.reduceNeg,Int.reduceToNat,reduceCtorEq,aX,encS,c0,k0]
      intro b8 hb8
      have ho2:=ho1.new hb8 4 [[u0,.emp 1,.emp 1,gi 0]]
      try simp (disch:=omega) only [↓wr,↓reduceIte,wq,ai,ag,ak,ab,ae,af,aj,isNil,Nat.reduceEqDiff,Nat.reduceAdd,Nat.reduceLT,Nat.reduceLeDiff,Int.reduceNeg,Int.reduceToNat,reduceCtorEq,aX,encS,c0,k0,set_set]
      intro b9 hb9
      have hb98:=(eA hb9 eK).1
      have hb9:=(eA (eA hb9 eK).2 eK).2
      have ho3:=(((ho2.fresh (n:=b9) (o:=.map [] 0) (by simp only[View.set,if_neg hb98]; exact hb9)).emp (k:=1) (sz:=1)).emp (k:=1) (sz:=1)).perm JO.symm
      try simp (disch:=omega) only [↓wr,↓reduceIte,wq,ai,ag,ak,ab,ae,af,aj,isNil,Nat.reduceEqDiff,Nat.reduceAdd,Nat.reduceLT,Nat.reduceLeDiff,Int.reduceNeg,Int.reduceToNat,reduceCtorEq,aX,encS,c0,k0,set_set]
      refine cD.up g.rules.length (Io g p q b2 b8 b9 u0) ?_ ?_
      · refine ⟨⟨.emp 1,.emp 1,rfl,by simp[bW],by simp[bW],by rw[set_set]; exact ho3,[],0,by simp[View.set,de],trivial⟩,rfl,rfl,rfl,rfl,rfl,rfl,rfl,rfl,rfl⟩
      clear ho1 ho2 ho3 hb8 hb9 hb98
      rintro i k T H2 hk ⟨⟨u1,u3,t7,hin,holen,ho,mm,cc,h9,hm9⟩,t1,t2,t5,t6,t8,t9,t41,t42,t43⟩
      simp (disch:=omega) only [↓wr,↓reduceIte,wq,ai,ag,ak,ab,ae,af,aj,isNil,Nat.reduceEqDiff,Nat.reduceAdd,Nat.reduceLT,Nat.reduceLeDiff,Int.reduceNeg,Int.reduceToNat,reduceCtorEq,nH,t1,t2,t5,t6,t7,t8,t9,t41,t42,t43,aX]
      refine ax.dec (fun hc=>?_) (fun hc=>?_)
      · have hg2:g.rules[i]?=some (g.rules[i]'(by omega)):=List.getElem?_eq_getElem (by omega)
        have hmem:g.rules[i]'(by omega)∈g.rules:=List.getElem_mem _
        have htk:g.rules.take (i+1)=g.rules.take i ++ [g.rules[i]'(by omega)]:=by rw[List.take_add_one,hg2]; rfl
        generalize g.rules[i]'(by omega)=r at hg2 hmem htk
        obtain ⟨hl1,hl2,hl3,hr6,hsy⟩:=hf.u5 hg hmem
        have hqs:q[r.left.toNat]?=some (q[r.left.toNat]'(by omega)):=List.getElem?_eq_getElem (by omega)
        have hqd:q.getD r.left.toNat false=q[r.left.toNat]'(by omega):=by simp[List.getD_eq_getElem?_getD,hqs]
        generalize q[r.left.toNat]'(by omega)=qs at hqs hqd
        simp (disch:=omega) only [↓wr,↓reduceIte,wq,ai,ag,ak,ab,ae,af,aj,isNil,Nat.reduceEqDiff,Nat.reduceAdd,Nat.reduceLT,Nat.reduceLeDiff,Int.reduceNeg,Int.reduceToNat,reduceCtorEq,t1,t2,t5,t6,t7,t8,t9,t41,t42,t43,bf,encI,List.getElem?_map,hg2]
        intro b11 hb11
        have hoA:=ho.new hb11 3 [bf r]
        have n911:b9≠b11:=by rintro rfl; rw[h9] at hb11; simp at hb11
        try simp (disch:=omega) only [↓wr,↓reduceIte,wq,ai,ag,ak,ab,ae,af,aj,isNil,Nat.reduceEqDiff,Nat.reduceAdd,Nat.reduceLT,Nat.reduceLeDiff,Int.reduceNeg,Int.reduceToNat,reduceCtorEq,t1,t2,t5,t6,t7,t8,t9,t41,t42,t43,bf,encI,cB,List.getElem?_map,hqs,set_set]
        have hskip:∀ (T2:Env) (H':View),bj p q r=false→H'=H2.set b11 (.arr 3 [bf r])→T2 7=u3→T2 1=.aS (aX g) 0→T2 2=.ptr b2 0 0→T2 5=cB p→T2 6=cB q→T2 8=.ptr b8 0 0→T2 9=.mp b9→T2 41=.aI (g.rules.map bf)→T2 42=gi g.rules.length→T2 43=gi ((i:Int)+1) →
            ∃ k',k' < k∧Ba g.rules.length k' (Io g p q b2 b8 b9 u0) T2 H':=by
          intro T2 H' hkr hH' a7 a1 a2 a5 a6 a8 a9 a41 a42 a43
          have e1:bW p q (g.rules.take (i+1))=bW p q (g.rules.take i):=by rw[htk,xJ,if_neg (by simp[hkr])]
          have e2:ct p q (g.rules.take (i+1)) 0=ct p q (g.rules.take i) 0:=by rw[htk,mh]; simp[ct,hkr]
          refine bI hk (by omega) ⟨⟨u1,u3,a7,by rw[e1]; exact hin,by rw[e1]; omega,by rw[e1,e2,hH']; exact hoA.tail,mm,cc,by rw[hH']; simp[View.set,n911,h9],by rw[e1]; exact hm9⟩,a1,a2,a5,a6,a8,a9,a41,a42,by rw[a43]; rfl⟩
        cases qs with
        | false =>
          simp (disch:=omega) only [↓wr,↓reduceIte,wq,ai,ag,ak,ab,ae,af,aj,isNil,Nat.reduceEqDiff,Nat.reduceAdd,Nat.reduceLT,Nat.reduceLeDiff,Int.reduceNeg,Int.reduceToNat,reduceCtorEq,t1,t2,t5,t6,t7,t8,t9,t41,t42,t43]
          refine hskip _ _ (by rw[bj,hqd]; rfl) ?_ ?_ ?_ ?_ ?_ ?_ ?_ ?_ ?_ ?_ ?_
          all_goals first | exact t7 | exact t1 | exact t2 | exact t5 | exact t6 | exact t8 | exact t9 | exact t41 | exact t42 | rfl | (rw[set_set]; rfl)
        | true =>
          simp (disch:=omega) only [↓wr,↓reduceIte,wq,ai,ag,ak,ab,ae,af,aj,isNil,Nat.reduceEqDiff,Nat.reduceAdd,Nat.reduceLT,Nat.reduceLeDiff,Int.reduceNeg,Int.reduceToNat,reduceCtorEq,t1,t2,t5,t6,t7,t8,t9,t41,t42,t43,bf,encI,cB]
          refine aN.pure (rP r p (hg.aZ r hmem).2.2.1 (fun s hs'=>⟨(hsy s hs').1,fun h=>by rw[hpl]; exact (hsy s hs').2 h⟩)) (by kernel_rfl) ?_
          simp (disch:=omega) only [↓wr,↓reduceIte,wq,ai,ag,ak,ab,ae,af,aj,isNil,Nat.reduceEqDiff,Nat.reduceAdd,Nat.reduceLT,Nat.reduceLeDiff,Int.reduceNeg,Int.reduceToNat,reduceCtorEq,t1,t2,t5,t6,t7,t8,t9,t41,t42,t43]
          refine ax.split (fun hal=>?_) (fun hal=>?_)
          · simp (disch:=omega) only [↓wr,↓reduceIte,wq,ai,ag,ak,ab,ae,af,aj,isNil,Nat.reduceEqDiff,Nat.reduceAdd,Nat.reduceLT,Nat.reduceLeDiff,Int.reduceNeg,Int.reduceToNat,reduceCtorEq,t1,t2,t5,t6,t7,t8,t9,t41,t42,t43]
            have hkr:bj p q r=true:=by rw[bj,hqd,hal]; rfl
            intro m hm
            try simp (disch:=omega) only [↓wr,↓reduceIte,wq,ai,ag,ak,ab,ae,af,aj,isNil,Nat.reduceEqDiff,Nat.reduceAdd,Nat.reduceLT,Nat.reduceLeDiff,Int.reduceNeg,Int.reduceToNat,reduceCtorEq,t1,t2,t5,t6,t7,t8,t9,t41,t42,t43,iw]
            have hm11:=(eA hm eK).1
            have hm:=(eA (eA hm eK).2 eK).2
            have hoB:=(hoA.fresh (n:=m) (o:=.arr 1 [[gi i]]) (by simp only[View.set,if_neg hm11]; exact hm)).at 2 (by simp)
            have n9m:b9≠m:=by rintro rfl; rw[h9] at hm; simp at hm
            have hkl:(ct p q (g.rules.take i) 0).length≤40:=by
              rw[nB]
              have h1:=List.length_filter_le (bj p q) (g.rules.take i)
              have h2:(g.rules.take i).length≤i:=List.length_take_le _ _
              omega
            refine pD (by rw[set_set]; exact hoB) (by simp[aL]) (by unfold bb; simp at hkl ⊢; omega) (by unfold bb; simp at hkl ⊢; omega) ?_
            intro u3' H3 ho3 hleft
            have f11:=ho3.is 1 rfl (by simp)
            have f8:=ho3.is 2 rfl (by simp)
            have hleft':Left ((H2.set b11 (.arr 3 [bf r])).set m (.arr 1 [[gi i]])) H3 u3 u3':=by rw[set_set] at hleft; exact hleft
            have f9:H3 b9=.map (qY mm) cc:=hleft'.map (b:=b9) hoB.head (by simp[View.set,n911,n9m,h9])
            have hu1:cT u1=some (nk ((bW p q (g.rules.take i)).map fun x=>g.ay.getD x.toNat ⟨#[]⟩)).length:=(ho3.own 3 rfl).len
            simp only[bf,encI] at f11
            have e2:ct p q (g.rules.take (i+1)) 0=ct p q (g.rules.take i) 0 ++ [(i:Int)]:=by
              rw[htk,mh]; simp[ct,hkr,show i≤g.rules.length by omega]
            have e1:bW p q (g.rules.take (i+1))=c9 (bW p q (g.rules.take i)) r:=by rw[htk,xJ,if_pos hkr]
            generalize bW p q (g.rules.take i)=o at *
            generalize ct p q (g.rules.take i) 0=kl at *
            simp (disch:=omega) only [↓wr,↓reduceIte,wq,ai,ag,ak,ab,ae,af,aj,isNil,Nat.reduceEqDiff,Nat.reduceAdd,Nat.reduceLT,Nat.reduceLeDiff,Int.reduceNeg,Int.reduceToNat,reduceCtorEq,t1,t2,t5,t6,t8,t9,t41,t42,t43,f11,f8]
            refine Ja (kt:=3) (et:=3) (z:=gi 0) (by kernel_rfl) (by kernel_rfl) (kZ .i64 Tryz.underlying3) (id:=b9) (c:=cc) (m:=mm) (k:=r.left) (by simp (disch:=omega) only [↓wr,↓reduceIte,wq,ai,ag,ak,ab,ae,af,aj,isNil,Nat.reduceEqDiff,Nat.reduceAdd,Nat.reduceLT,Nat.reduceLeDiff,Int.reduceNeg,Int.reduceToNat,reduceCtorEq,t9]) (by simp (disch:=omega) only [↓wr,↓reduceIte,wq,ai,ag,ak,ab,ae,af,aj,isNil,Nat.reduceEqDiff,Nat.reduceAdd,Nat.reduceLT,Nat.reduceLeDiff,Int.reduceNeg,Int.reduceToNat,reduceCtorEq]) f9 ?_
            rw[hm9.get,m5]
            have hob:o.length≤40:=by omega
            by_cases hx:r.left∈o
            · have e1':c9 o r=o:=by rw[c9,if_pos hx]
              rw[if_pos hx]
              simp (disch:=omega) only [↓wr,↓reduceIte,wq,ai,ag,ak,ab,ae,af,aj,isNil,Nat.reduceEqDiff,Nat.reduceAdd,Nat.reduceLT,Nat.reduceLeDiff,Int.reduceNeg,Int.reduceToNat,reduceCtorEq,t1,t2,t5,t6,t8,t9,t41,t42,t43,Option.isSome_some]
              have ho4:=(((ho3.at 1 (by simp)).tail).perm (.swap _ _ _))
              refine bI hk (by omega) ⟨⟨u1,u3',rfl,by rw[e1,e1']; exact hin,by rw[e1,e1']; omega,?_,mm,cc,f9,by rw[e1,e1']; exact hm9⟩,t1,t2,t5,t6,t8,t9,t41,t42,rfl⟩
              rw[e1,e1',e2]
              simp only[List.map_append,List.map_cons,List.map_nil]
              exact ho4
            · have e1':c9 o r=o ++ [r.left]:=by rw[c9,if_neg hx]
              rw[if_neg hx]
              have hgn:g.ay[r.left.toNat]?=some (g.ay[r.left.toNat]'(by omega)):=List.getElem?_eq_getElem (by omega)
              have hgnd:g.ay.getD r.left.toNat ⟨#[]⟩=g.ay[r.left.toNat]'(by omega):=by simp[List.getD_eq_getElem?_getD,hgn]
              generalize g.ay[r.left.toNat]'(by omega)=nm at hgn hgnd
              simp (disch:=omega) only [↓wr,↓reduceIte,wq,ai,ag,ak,ab,ae,af,aj,isNil,Nat.reduceEqDiff,Nat.reduceAdd,Nat.reduceLT,Nat.reduceLeDiff,Int.reduceNeg,Int.reduceToNat,reduceCtorEq,t1,t2,t5,t6,t8,t9,t41,t42,t43,Option.isSome_none,f11,f8,hu1,List.length_map]
              refine Aj (kt:=3) (et:=3) (by kernel_rfl) (kZ .i64 Tryz.underlying3) (id:=b9) (c:=cc) (m:=mm) (k:=r.left) (v:=gi o.length) (by simp (disch:=omega) only [↓wr,↓reduceIte,wq,ai,ag,ak,ab,ae,af,aj,isNil,Nat.reduceEqDiff,Nat.reduceAdd,Nat.reduceLT,Nat.reduceLeDiff,Int.reduceNeg,Int.reduceToNat,reduceCtorEq,t9]) (by simp (disch:=omega) only [↓wr,↓reduceIte,wq,ai,ag,ak,ab,ae,af,aj,isNil,Nat.reduceEqDiff,Nat.reduceAdd,Nat.reduceLT,Nat.reduceLeDiff,Int.reduceNeg,Int.reduceToNat,reduceCtorEq]) (by simp (disch:=omega) only [↓wr,↓reduceIte,wq,ai,ag,ak,ab,ae,af,aj,isNil,Nat.reduceEqDiff,Nat.reduceAdd,Nat.reduceLT,Nat.reduceLeDiff,Int.reduceNeg,Int.reduceToNat,reduceCtorEq]) f9 ?_
              intro c'
              have n89:b8≠b9:=vu ho3 2 rfl f9
              have n119:b11≠b9:=vu ho3 1 rfl f9
              simp (disch:=omega) only [↓wr,↓reduceIte,wq,ai,ag,ak,ab,ae,af,aj,isNil,Nat.reduceEqDiff,Nat.reduceAdd,Nat.reduceLT,Nat.reduceLeDiff,Int.reduceNeg,Int.reduceToNat,reduceCtorEq,t1,t2,t5,t6,t8,t9,t41,t42,t43,f11,f8,n89,n119,aX,encS,List.getElem?_map,hgn]
              intro m2 hm2
              have hm29:=(eA hm2 (by simp)).1
              have hm2:=(eA hm2 (by simp)).2
              have ho5:=((ho3.zt f9 (o:=.map (qY (cJ r.left (gi o.length) cc mm)) c')).fresh (n:=m2) (o:=.arr 1 [[gs nm]]) (by simp only[View.set,if_neg hm29]; exact hm2)).at 3 (by simp)
              try simp (disch:=omega) only [↓wr,↓reduceIte,wq,ai,ag,ak,ab,ae,af,aj,isNil,Nat.reduceEqDiff,Nat.reduceAdd,Nat.reduceLT,Nat.reduceLeDiff,Int.reduceNeg,Int.reduceToNat,reduceCtorEq,t1,t2,t5,t6,t8,t9,t41,t42,t43,iw]
              refine pD ho5 (by simp[aL]) (by unfold bb; simp; omega) (by unfold bb; simp; omega) ?_
              intro u1' H5 ho6 hleft2
              have c1:=ho6.head.cells
              have k1:=ho6.head.x4
              have f8':=ho6.is 3 rfl (by simp)
              have f9':=hleft2.map (b:=b9) (es:=qY (cJ r.left (gi o.length) cc mm)) (c:=c') ho5.head (by simp[View.set,Ne.symm hm29])
              have n89':b9≠b8:=n89.symm
              simp (disch:=omega) only [↓wr,↓reduceIte,wq,ai,ag,ak,ab,ae,af,aj,isNil,Nat.reduceEqDiff,Nat.reduceAdd,Nat.reduceLT,Nat.reduceLeDiff,Int.reduceNeg,Int.reduceToNat,reduceCtorEq,t1,t2,t5,t6,t8,t9,t41,t42,t43,f8',c1,k1]
              have ho7:=(ho6.at 3 (by simp)).put (es':=[[u0,u1',.emp 1,gi 0]]) rfl rfl
              have ho8:=(((ho7.at 3 (by simp)).tail).perm (.cons _ (.swap _ _ _)))
              refine bI hk (by omega) ⟨⟨u1',u3',rfl,?_,?_,?_,_,c',(by simp only[View.set,if_neg n89']; exact f9'),?_⟩,t1,t2,t5,t6,t8,t9,t41,t42,rfl⟩
              · rw[e1,e1']; intro x hx'; rcases List.mem_append.1 hx' with h | h
                · exact hin x h
                · simp at h; subst h; exact ⟨hl2,hl3⟩
              · rw[e1,e1']; simp; omega
              · rw[e1,e1',e2]
                simp only[List.map_append,List.map_cons,List.map_nil,hgnd]
                exact ho8
              · rw[e1,e1',vd,Int.zero_add,← xj hx]
                exact hm9.put r.left (o.length:Int) cc
          · simp (disch:=omega) only [↓wr,↓reduceIte,wq,ai,ag,ak,ab,ae,af,aj,isNil,Nat.reduceEqDiff,Nat.reduceAdd,Nat.reduceLT,Nat.reduceLeDiff,Int.reduceNeg,Int.reduceToNat,reduceCtorEq,t1,t2,t5,t6,t7,t8,t9,t41,t42,t43]
            refine hskip _ _ (by rw[bj,hqd,hal]; rfl) ?_ ?_ ?_ ?_ ?_ ?_ ?_ ?_ ?_ ?_ ?_
            all_goals first | exact t7 | exact t1 | exact t2 | exact t5 | exact t6 | exact t8 | exact t9 | exact t41 | exact t42 | rfl | (rw[set_set]; rfl)
      · rw[List.take_of_length_le (by omega)] at ho hin holen hm9
        have hkl40:(ct p q g.rules 0).length≤40:=by
          rw[nB]; have h1:=List.length_filter_le (bj p q) g.rules; omega
        have hkg:=qU p q g.rules 0
        have hkln:=nB p q g.rules 0
        have hrg:iM g (cz (bW p q g.rules)) p q=⟨g.az,(bW p q g.rules).map fun x=>g.ay.getD x.toNat ⟨#[]⟩,(g.rules.filter (bj p q)).map (bd (cz (bW p q g.rules))),cz (bW p q g.rules) g.start⟩:=rfl
        rw[hrg,if_pos rfl]
        clear hrg
        generalize bW p q g.rules=o at *
        generalize ct p q g.rules 0=kl at *
        have hob:o.length≤40:=by omega
        have hu3:cT u3=some (cU kl).length:=(ho.own 1 rfl).len
        simp (disch:=omega) only [↓wr,↓reduceIte,wq,ai,ag,ak,ab,ae,af,aj,isNil,Nat.reduceEqDiff,Nat.reduceAdd,Nat.reduceLT,Nat.reduceLeDiff,Int.reduceNeg,Int.reduceToNat,reduceCtorEq,t1,t2,t5,t6,t7,t8,t9,hu3,List.length_map]
        refine cD.up kl.length (JL g p q b2 b8 b9 u0 u1 u3 o kl mm cc) ?_ ?_
        · refine ⟨⟨.emp 1,[],by simp,?_,h9⟩,t1,t2,t7,t8,t9,t7,rfl,rfl⟩
          exact (ho.emp (k:=1) (sz:=3)).perm (sr [(.sl b8 0 1 4,4,[[u0,u1,.emp 1,gi 0]]),(u3,1,cU kl),(u1,1,nk (o.map fun x=>g.ay.getD x.toNat ⟨#[]⟩)),(u0,3,g.az.map cF),(.emp 1,3,[]),(.sl b2 0 1 4,4,[[.emp 1,.emp 1,.emp 1,gi 0]])] 4 (by simp)).symm
        clear ho h9 t1 t2 t5 t6 t7 t8 t9 t41 t42 t43
        rintro i k T H2 hk ⟨⟨u2,bs,hbs,ho,h9⟩,t1,t2,t7,t8,t9,t91,t92,t93⟩
        simp (disch:=omega) only [↓wr,↓reduceIte,wq,ai,ag,ak,ab,ae,af,aj,isNil,Nat.reduceEqDiff,Nat.reduceAdd,Nat.reduceLT,Nat.reduceLeDiff,Int.reduceNeg,Int.reduceToNat,reduceCtorEq,m7,t1,t2,t7,t8,t9,t91,t92,t93]
        refine ax.dec (fun hc=>?_) (fun hc=>?_)
        · obtain ⟨n3,e3,hn3⟩:=(ho.own 1 rfl).sl (by simp; omega)
          rw[List.length_map] at e3
          subst e3
          obtain ⟨m,hm1,hm2,hm3⟩:=hkg i (by omega)
          have hbg:=z2 (show i < kl.length by omega)
          rw[Int.zero_add] at hm1
          have hki:kl[i]'(by omega)=(m:Int):=by
            rw[List.getElem?_eq_getElem (show i < kl.length by omega)] at hm1; simpa using hm1
          rw[hki] at hbg
          have hg2:g.rules[m]?=some (g.rules[m]'hm3):=List.getElem?_eq_getElem hm3
          have hmem:g.rules[m]'hm3∈g.rules:=List.getElem_mem _
          have htk:(g.rules.filter (bj p q)).take (i+1)=(g.rules.filter (bj p q)).take i ++ [g.rules[m]'hm3]:=by
            rw[List.take_add_one,← hm2,hg2]; rfl
          generalize g.rules[m]'hm3=r at hg2 hmem htk
          obtain ⟨hl1,hl2,hl3,hr6,hsy⟩:=hf.u5 hg hmem
          simp (disch:=omega) only [↓wr,↓reduceIte,wq,ai,ag,ak,ab,ae,af,aj,isNil,Nat.reduceEqDiff,Nat.reduceAdd,Nat.reduceLT,Nat.reduceLeDiff,Int.reduceNeg,Int.reduceToNat,reduceCtorEq,t1,t2,t7,t8,t9,t91,t92,t93,hn3,hbg,List.length_map,aX,bf,encI,List.getElem?_map,hg2]
          refine ⟨by omega,by omega,?_⟩
          intro b16 hb16
          have hoA:=ho.new hb16 3 [bf r]
          have n916:b9≠b16:=by rintro rfl; rw[h9] at hb16; simp at hb16
          try simp (disch:=omega) only [↓wr,↓reduceIte,wq,ai,ag,ak,ab,ae,af,aj,isNil,Nat.reduceEqDiff,Nat.reduceAdd,Nat.reduceLT,Nat.reduceLeDiff,Int.reduceNeg,Int.reduceToNat,reduceCtorEq,t1,t2,t7,t8,t9,t91,t92,t93,set_set]
          refine yE (kt:=3) (et:=3) (z:=gi 0) (by kernel_rfl) (by kernel_rfl) (kZ .i64 Tryz.underlying3) (id:=b9) (c:=cc) (m:=mm) (k:=r.left) (by simp (disch:=omega) only [↓wr,↓reduceIte,wq,ai,ag,ak,ab,ae,af,aj,isNil,Nat.reduceEqDiff,Nat.reduceAdd,Nat.reduceLT,Nat.reduceLeDiff,Int.reduceNeg,Int.reduceToNat,reduceCtorEq,t9]) (by simp (disch:=omega) only [↓wr,↓reduceIte,wq,ai,ag,ak,ab,ae,af,aj,isNil,Nat.reduceEqDiff,Nat.reduceAdd,Nat.reduceLT,Nat.reduceLeDiff,Int.reduceNeg,Int.reduceToNat,reduceCtorEq]) (by simp[View.set,n916,h9]) ?_
          have hgt:∀ x,(getM mm x).getD (gi 0)=gi (cz o x):=fun x=>by
            rw[hm9.get,cz]; cases cE (fR o 0) x <;> rfl
          rw[hgt]
          simp (disch:=omega) only [↓wr,↓reduceIte,wq,ai,ag,ak,ab,ae,af,aj,isNil,Nat.reduceEqDiff,Nat.reduceAdd,Nat.reduceLT,Nat.reduceLeDiff,Int.reduceNeg,Int.reduceToNat,reduceCtorEq,t1,t2,t7,t8,t9,t91,t92,t93]
          refine aN.HX (E4 r.right (by omega) _) ?_
          intro v H3 hv hfr
          have hoB:=bg.Ic (H:=H2.set b16 (.arr 3 [bf r])) hoA hv (by rw[set_set] at hfr; exact hfr)
          have h9B:H3 b9=.map (qY mm) cc:=by
            rw[(hfr b9 (by simp[View.set,n916,h9])).1]; simp[View.set,n916,h9]
          have cv:=hv.cells
          have kv:=hv.x4
          have lv:=hv.len
          have f16:=hoB.is 1 rfl (by simp)
          simp only[bf,encI] at f16
          simp (disch:=omega) only [↓wr,↓reduceIte,wq,ai,ag,ak,ab,ae,af,aj,isNil,Nat.reduceEqDiff,Nat.reduceAdd,Nat.reduceLT,Nat.reduceLeDiff,Int.reduceNeg,Int.reduceToNat,reduceCtorEq,t1,t2,t7,t8,t9,t91,t92,t93,f16,cv,kv]
          intro b17 hb17
          have hoC:=hoB.new hb17 3 [[gi (cz o r.left),v,gi r.prec]]
          have n917:b9≠b17:=by rintro rfl; rw[h9B] at hb17; simp at hb17
          try simp (disch:=omega) only [↓wr,↓reduceIte,wq,ai,ag,ak,ab,ae,af,aj,isNil,Nat.reduceEqDiff,Nat.reduceAdd,Nat.reduceLT,Nat.reduceLeDiff,Int.reduceNeg,Int.reduceToNat,reduceCtorEq,t1,t2,t7,t8,t9,t91,t92,t93,cv,kv,lv,set_set,List.length_map]
          generalize hL:((V.sl b8 0 1 4,4,[[u0,u1,u2,gi 0]]) :: (V.sl n3 0 kl.length 1,1,cU kl) ::
              (u1,1,nk (o.map fun x=>g.ay.getD x.toNat ⟨#[]⟩)) :: (u0,3,g.az.map cF) :: (u2,3,gP bs) :: (V.sl b2 0 1 4,4,[[V.emp 1,V.emp 1,V.emp 1,gi 0]]) :: ot bs:List eD)=L at hoC
          refine cD.up r.right.length (JQ g b2 b8 b9 b16 b17 (.sl n3 0 kl.length 1) v o kl mm cc r L i) ?_ ?_
          · exact ⟨by rw[set_set]; exact hoC,by simp[View.set,n917,h9B],t1,t2,t7,t8,t9,t91,t92,t93,rfl,rfl,rfl,rfl⟩
          clear hoA hoB hoC hb16 hb17 h9 h9B f16 hv hfr t1 t2 t7 t8 t9 t91 t92 t93
          rintro k k2 T H3 hk2 ⟨hoC,h9,t1,t2,t7,t8,t9,t91,t92,t93,t17,t113,t114,t115⟩
          have f17:=hoC.is 0 rfl (by simp)
          simp (disch:=omega) only [↓wr,↓reduceIte,wq,ai,ag,ak,ab,ae,af,aj,isNil,Nat.reduceEqDiff,Nat.reduceAdd,Nat.reduceLT,Nat.reduceLeDiff,Int.reduceNeg,Int.reduceToNat,reduceCtorEq,m4,t1,t2,t7,t8,t9,t91,t92,t93,t17,t113,t114,t115]
          refine ax.dec (fun hcc=>?_) (fun hcc=>?_)
          · have hgs:r.right[k]?=some (r.right[k]'(by omega)):=List.getElem?_eq_getElem (by omega)
            have hms:r.right[k]'(by omega)∈r.right:=List.getElem_mem _
            have hrl:(bd (cz o) r).right.length=r.right.length:=by simp[bd]
            have hts:(bd (cz o) r).right.take (k+1)=(bd (cz o) r).right.take k ++ [if r.right[k]'(by omega) < 0 then -1 - cz o (-1 - r.right[k]'(by omega)) else r.right[k]'(by omega)]:=by
              rw[List.take_add_one]; simp[bd,hgs]
            have hdr:=kb (show k < r.right.length by omega)
            generalize r.right[k]'(by omega)=s at hgs hms hts hdr
            obtain ⟨⟨s1,s2⟩,s3⟩:=hsy s hms
            have hbd:=HR o (-1 - s)
            rw[hdr] at hoC
            have hlen:(((bd (cz o) r).right.take k ++ s :: r.right.drop (k+1)).map fun x=>[gi x]).length=r.right.length:=by simp; omega
            obtain ⟨nv,ev,hnv⟩:=(hoC.own 1 rfl).sl (by rw[hlen]; omega)
            rw[hlen] at ev
            subst ev
            have hlt:k < ((bd (cz o) r).right.take k ++ s :: r.right.drop (k+1)).length:=by simp; omega
            have hbg2:=z2 hlt
            have hel:((bd (cz o) r).right.take k ++ s :: r.right.drop (k+1))[k]'hlt=s:=by
              rw[List.getElem_append_right (by simp; omega)]
              simp[show k - min k r.right.length=0 by omega,hrl]
            rw[hel] at hbg2
            simp (disch:=omega) only [↓wr,↓reduceIte,wq,ai,ag,ak,ab,ae,af,aj,isNil,Nat.reduceEqDiff,Nat.reduceAdd,Nat.reduceLT,Nat.reduceLeDiff,Int.reduceNeg,Int.reduceToNat,reduceCtorEq,t1,t2,t7,t8,t9,t91,t92,t93,t17,t113,t114,t115,hnv,hbg2,List.length_map]
            refine ⟨by omega,hlt,?_⟩
            have hlk:((bd (cz o) r).right.take k).length=k:=by rw[List.length_take]; omega
            have nv9:nv≠b9:=vu hoC 1 rfl h9
            refine ax.dec (fun hneg=>?_) (fun hneg=>?_)
            · rw[if_pos hneg] at hts
              simp (disch:=omega) only [↓wr,↓reduceIte,wq,ai,ag,ak,ab,ae,af,aj,isNil,Nat.reduceEqDiff,Nat.reduceAdd,Nat.reduceLT,Nat.reduceLeDiff,Int.reduceNeg,Int.reduceToNat,reduceCtorEq,t1,t2,t7,t8,t9,t91,t92,t93,t17,t113,t114,t115,f17]
              refine yE (kt:=3) (et:=3) (z:=gi 0) (by kernel_rfl) (by kernel_rfl) (kZ .i64 Tryz.underlying3) (id:=b9) (c:=cc) (m:=mm) (k:=-1 - s) (by simp (disch:=omega) only [↓wr,↓reduceIte,wq,ai,ag,ak,ab,ae,af,aj,isNil,Nat.reduceEqDiff,Nat.reduceAdd,Nat.reduceLT,Nat.reduceLeDiff,Int.reduceNeg,Int.reduceToNat,reduceCtorEq,t9]) (by simp (disch:=omega) only [↓wr,↓reduceIte,wq,ai,ag,ak,ab,ae,af,aj,isNil,Nat.reduceEqDiff,Nat.reduceAdd,Nat.reduceLT,Nat.reduceLeDiff,Int.reduceNeg,Int.reduceToNat,reduceCtorEq]) h9 ?_
              rw[hgt]
              simp (disch:=omega) only [↓wr,↓reduceIte,wq,ai,ag,ak,ab,ae,af,aj,isNil,Nat.reduceEqDiff,Nat.reduceAdd,Nat.reduceLT,Nat.reduceLeDiff,Int.reduceNeg,Int.reduceToNat,reduceCtorEq,t1,t2,t7,t8,t9,t91,t92,t93,t17,t113,t114,t115,f17,hnv,hbg2,List.length_map]
              refine ⟨by omega,hlt,?_⟩
              have hoD:=((hoC.at 1 (by simp)).put (es':=((((bd (cz o) r).right.take k ++ s :: r.right.drop (k+1)).map fun x=>[gi x]).set k [gi (-1 - cz o (-1 - s))])) (by simp) (by rw[hlen])).perm (.swap _ _ _)
              refine bI hk2 (by omega) ⟨?_,by simp only[View.set,if_neg nv9.symm]; exact h9,t1,t2,t7,t8,t9,t91,t92,t93,t17,t113,t114,rfl⟩
              rw[ints_set,w7 hlk] at hoD
              rw[hts,List.append_assoc]
              rw[ints_set,w7 hlk]
              exact hoD
            · rw[if_neg hneg] at hts
              simp (disch:=omega) only [↓wr,↓reduceIte,wq,ai,ag,ak,ab,ae,af,aj,isNil,Nat.reduceEqDiff,Nat.reduceAdd,Nat.reduceLT,Nat.reduceLeDiff,Int.reduceNeg,Int.reduceToNat,reduceCtorEq,t1,t2,t7,t8,t9,t91,t92,t93,t17,t113,t114,t115]
              refine bI hk2 (by omega) ⟨?_,h9,t1,t2,t7,t8,t9,t91,t92,t93,t17,t113,t114,rfl⟩
              rw[hts,List.append_assoc]
              exact hoC
          · rw[List.take_of_length_le (by simp[bd]; omega),List.drop_eq_nil_of_le (by omega),List.append_nil] at hoC
            subst hL
            have f8:=hoC.is 3 rfl (by simp)
            have cv:=(hoC.own 1 rfl).cells
            have kv:=(hoC.own 1 rfl).x4
            have hbl:(gP bs).length≤40:=by
              have h1:=congrArg List.length hbs
              simp only[List.length_map,List.length_take] at h1
              simp only[gP,List.length_map]
              omega
            simp (disch:=omega) only [↓wr,↓reduceIte,wq,ai,ag,ak,ab,ae,af,aj,isNil,Nat.reduceEqDiff,Nat.reduceAdd,Nat.reduceLT,Nat.reduceLeDiff,Int.reduceNeg,Int.reduceToNat,reduceCtorEq,t1,t2,t7,t8,t9,t91,t92,t93,t17,t113,t114,t115,f8,f17,cv,kv]
            intro m hm
            have n9m:b9≠m:=by rintro rfl; rw[h9] at hm; simp at hm
            try simp (disch:=omega) only [↓wr,↓reduceIte,wq,ai,ag,ak,ab,ae,af,aj,isNil,Nat.reduceEqDiff,Nat.reduceAdd,Nat.reduceLT,Nat.reduceLeDiff,Int.reduceNeg,Int.reduceToNat,reduceCtorEq,t1,t2,t7,t8,t9,t91,t92,t93,t17,iw]
            have hoD:=(hoC.fresh (o:=.arr 3 [[gi (cz o r.left),v,gi r.prec]]) hm).at 7 (by simp)
            refine pD hoD (by simp[vY,kv]) (by unfold bb; simp at hbl ⊢; omega) (by unfold bb; simp at hbl ⊢; omega) ?_
            intro u2' H4 hoE hleft
            have cu:=hoE.head.cells
            have ku:=hoE.head.x4
            have f8':=hoE.is 4 rfl (by simp)
            have h9':H4 b9=.map (qY mm) cc:=hleft.map (b:=b9) hoD.head (by simp[View.set,n9m,h9])
            have n98:b9≠b8:=(vu hoE 4 rfl h9').symm
            simp (disch:=omega) only [↓wr,↓reduceIte,wq,ai,ag,ak,ab,ae,af,aj,isNil,Nat.reduceEqDiff,Nat.reduceAdd,Nat.reduceLT,Nat.reduceLeDiff,Int.reduceNeg,Int.reduceToNat,reduceCtorEq,t1,t2,t7,t8,t9,t91,t92,t93,t17,f8',cu,ku]
            have hoF:=(hoE.at 4 (by simp)).put (es':=[[u0,u1,u2',gi 0]]) rfl rfl
            have hoG:=((((hoF.at 2 (by simp)).tail).at 3 (by simp)).tail)
            refine bI hk (by omega) ⟨⟨u2',bs ++ [(v,bd (cz o) r)],?_,?_,by simp only[View.set,if_neg n98]; exact h9'⟩,t1,t2,t7,t8,t9,t91,t92,rfl⟩
            · rw[List.map_append,hbs,htk,List.map_append]; rfl
            · refine hoG.perm (.cons _ ?_)
              simp only[ot,gP,List.map_append,List.map_cons,List.map_nil]
              refine .trans ?_ (sr _ 3 (by simp)).symm
              refine .cons _ ?_
              exact (List.perm_append_singleton (v,1,cU (bd (cz o) r).right) ((.sl n3 0 kl.length 1,1,cU kl) :: (u1,1,nk (o.map fun x=>g.ay.getD x.toNat ⟨#[]⟩)) :: (u0,3,g.az.map cF) :: (.sl b2 0 1 4,4,[[.emp 1,.emp 1,.emp 1,gi 0]]) :: ot bs)).symm
        · rw[List.take_of_length_le (by omega)] at hbs
          have f8:=ho.is 0 rfl (by simp)
          have f2:=ho.is 5 rfl (by simp)
          have n82:b8≠b2:=ho.Kl 0 5 rfl rfl (by omega)
          have c1:=(ho.own 2 rfl).cells
          have k1:=(ho.own 2 rfl).x4
          have c2:=(ho.own 4 rfl).cells
          have k2:=(ho.own 4 rfl).x4
          have hgt:∀ x,(getM mm x).getD (gi 0)=gi (cz o x):=fun x=>by
            rw[hm9.get,cz]; cases cE (fR o 0) x <;> rfl
          simp (disch:=omega) only [↓wr,↓reduceIte,wq,ai,ag,ak,ab,ae,af,aj,isNil,Nat.reduceEqDiff,Nat.reduceAdd,Nat.reduceLT,Nat.reduceLeDiff,Int.reduceNeg,Int.reduceToNat,reduceCtorEq,t1,t2,t7,t8,t9,t91,t92,t93,aX]
          refine yE (kt:=3) (et:=3) (z:=gi 0) (by kernel_rfl) (by kernel_rfl) (kZ .i64 Tryz.underlying3) (id:=b9) (c:=cc) (m:=mm) (k:=g.start) (by simp (disch:=omega) only [↓wr,↓reduceIte,wq,ai,ag,ak,ab,ae,af,aj,isNil,Nat.reduceEqDiff,Nat.reduceAdd,Nat.reduceLT,Nat.reduceLeDiff,Int.reduceNeg,Int.reduceToNat,reduceCtorEq,t9]) (by simp (disch:=omega) only [↓wr,↓reduceIte,wq,ai,ag,ak,ab,ae,af,aj,isNil,Nat.reduceEqDiff,Nat.reduceAdd,Nat.reduceLT,Nat.reduceLeDiff,Int.reduceNeg,Int.reduceToNat,reduceCtorEq]) h9 ?_
          rw[hgt]
          simp (disch:=omega) only [↓wr,↓reduceIte,wq,ai,ag,ak,ab,ae,af,aj,isNil,Nat.reduceEqDiff,Nat.reduceAdd,Nat.reduceLT,Nat.reduceLeDiff,Int.reduceNeg,Int.reduceToNat,reduceCtorEq,t1,t2,t7,t8,t9,t91,t92,t93,f8,f2,n82,n82.symm,c0,k0,c1,k1,c2,k2]
          intro h' hh
          have hoA:=ho.put (es':=[[u0,u1,u2,gi (cz o g.start)]]) rfl rfl
          have hoB:=(hoA.at 5 (by simp)).put (es':=[[u0,u1,u2,gi (cz o g.start)]]) rfl rfl
          have hv:h'.view=(H2.set b8 (.arr 4 [[u0,u1,u2,gi (cz o g.start)]])).set b2 (.arr 4 [[u0,u1,u2,gi (cz o g.start)]]):=hh
          rw[← hv] at hoB
          exact HK (x:=(⟨g.az,o.map fun x=>g.ay.getD x.toNat ⟨#[]⟩,(g.rules.filter (bj p q)).map (bd (cz o)),cz o g.start⟩,kl,0)) (b:=bs) (hoB.own 4 rfl) (hoB.own 3 rfl) (hoB.own 5 rfl) (fun y hy=>hoB.1 y (by
            refine List.mem_cons_of_mem _ (List.mem_cons_of_mem _ (List.mem_cons_of_mem _ (List.mem_cons_of_mem _ (List.mem_cons_of_mem _ (List.mem_cons_of_mem _ ?_)))))
            exact hy)) hbs (hoB.own 2 rfl)
  · rename_i hr
    intro h' hh
    rw[if_neg (by simp[hr])]
    exact zA
theorem Cs {l:List Int} {a b:List Bool} {t:Bool} (h:ei a b) (k:eh l a t=true):eh l b t=true:=by
  simp only[eh,List.all_eq_true] at k ⊢
  intro s hs
  have:=k s hs
  by_cases h0:0≤s
  · rw[if_pos h0] at this ⊢; exact this
  · rw[if_neg h0] at this ⊢; exact h.2 _ this
theorem ei.CZ {a b:List Bool} (h:ei a b) (k:ei b a):a=b:=by
  have h1:=h.c3
  have h2:=k.c3
  exact h1.2 (by omega)
def jr (g:al) (t:Bool) (is:List Bool):Prop:=∀ i,is.getD i false=true→∃ r∈g.rules,r.left.toNat=i∧eh r.right is t=true
theorem jr.step {g:al} {t:Bool} {is:List Bool} {r:aE} (h:jr g t is) (hr:r∈g.rules):jr g t (dn t is r):=by
  have hle:ei is (dn t is r):=by
    unfold dn
    split
    · exact .set _ _
    · exact .refl _
  intro i hi
  by_cases e:is.getD i false=true
  · obtain ⟨r',h1,h2,h3⟩:=h i e
    exact ⟨r',h1,h2,Cs hle h3⟩
  · unfold dn at hi
    by_cases ha:eh r.right is t=true
    · rw[if_pos ha] at hi
      have:r.left.toNat=i:=by
        refine Classical.byContradiction fun hne=>e ?_
        simp only[List.getD_eq_getElem?_getD,List.getElem?_set,if_neg hne] at hi ⊢
        exact hi
      exact ⟨r,hr,this,Cs hle ha⟩
    · rw[if_neg ha] at hi; exact absurd hi e
theorem jr.fold {g:al} {t:Bool} : ∀ (l:List aE) (is:List Bool),(∀ r∈l,r∈g.rules)→jr g t is→jr g t (l.foldl (dn t) is)
  | [],is,_,h=>h
  | r :: l,is,hl,h=>jr.fold l _ (fun x hx=>hl x (by simp[hx])) (h.step (hl r (by simp)))
theorem jr.iter {g:al} {t:Bool} : ∀ (n:Nat) (is:List Bool),jr g t is→jr g t (iter (kn g t) n is)
  | 0,_,h=>h
  | n+1,is,h=>jr.iter n _ (jr.fold g.rules is (fun _ h=>h) h)
theorem DA (g:al) (t:Bool):jr g t (aB g t):=by
  unfold aB
  split
  · refine jr.iter _ _ ?_
    intro i hi
    simp only[cb,List.getD_eq_getElem?_getD,List.getElem?_replicate] at hi
    split at hi <;> simp at hi
  · intro i hi; simp at hi
theorem Cl (is:List Bool) (s:Int):ei is (mark is s):=by
  unfold mark
  split
  · exact .set _ _
  · exact .refl _
theorem uj:∀ (l:List Int) (is:List Bool),ei is (l.foldl mark is)
  | [],is=>.refl _
  | s :: l,is=>(Cl is s).trans (uj l _)
theorem AO (p is:List Bool) (r:aE):ei is (gm p is r):=by
  unfold gm
  split
  · exact uj _ _
  · exact .refl _
theorem zi (p:List Bool):∀ (l:List aE) (is:List Bool),ei is (l.foldl (gm p) is)
  | [],is=>.refl _
  | r :: l,is=>(AO p is r).trans (zi p l _)
theorem xQ {p:List Bool} : ∀ {l:List aE} {is:List Bool},l.foldl (gm p) is=is→∀ r∈l,gm p is r=is
  | [],_,_,_,h=>by simp at h
  | r :: l,is,h,x,hx=>by
    rw[List.foldl_cons] at h
    have h1:=zi p l (gm p is r)
    rw[h] at h1
    have h2:=(h1.CZ (AO p is r))
    rcases List.mem_cons.1 hx with rfl | hx
    · exact h2
    · rw[h2] at h; exact xQ h x hx
theorem xM:∀ {l:List Int} {is:List Bool},l.foldl mark is=is→∀ s∈l,mark is s=is
  | [],_,_,_,h=>by simp at h
  | r :: l,is,h,x,hx=>by
    rw[List.foldl_cons] at h
    have h1:=uj l (mark is r)
    rw[h] at h1
    have h2:=(h1.CZ (Cl is r))
    rcases List.mem_cons.1 hx with rfl | hx
    · exact h2
    · rw[h2] at h; exact xM h x hx
theorem x7 {g:al} (hr:bu g=true):oH g (aB g true) (bh g)=bh g∧ei ((cb g).set g.start.toNat true) (bh g):=by
  have hf:=bA hr
  have h:=nf (mS (aB g true)) g.rules 16 ((cb g).set g.start.toNat true) (by have:=hf.ay; simp[cb]; omega)
  rw[BK,Es hr] at h
  exact h
theorem tq {g:al} (hr:bu g=true):(bh g).getD g.start.toNat false=true:=by
  have hf:=bA hr
  refine (x7 hr).2.2 _ ?_
  have h3:=hf.mI
  have h4:=hf.start
  simp only[List.getD_eq_getElem?_getD]
  rw[List.getElem?_set_self (by simp[cb]; omega)]
  rfl
theorem uU {g:al} (hr:bu g=true) {r:aE} (hm:r∈g.rules) (hk:bj (aB g true) (bh g) r=true) {s:Int} (hs:s∈r.right) (hn:s < 0):(bh g).getD (-1 - s).toNat false=true:=by
  have hf:=bA hr
  have h1:=xQ (x7 hr).1 r hm
  unfold gm at h1
  rw[bj] at hk
  rw[if_pos hk] at h1
  have h2:=xM h1 s hs
  unfold mark at h2
  rw[if_pos hn] at h2
  rw[← h2]
  have hl:=od hr
  have:=hf.neg hm hs hn
  simp only[List.getD_eq_getElem?_getD]
  rw[List.getElem?_set_self (by omega)]
  rfl
theorem FH {g:al} (hr:bu g=true) {x:Int} (h0:0≤x) (hp:(aB g true).getD x.toNat false=true) (hq:(bh g).getD x.toNat false=true):x∈bW (aB g true) (bh g) g.rules:=by
  obtain ⟨r,h1,h2,h3⟩:=DA g true _ hp
  have hf:=bA hr
  have h4:=hf.left r h1
  have:r.left=x:=by omega
  refine zx.2 ⟨r,h1,?_,this⟩
  rw[bj,this,hq,h3]; rfl
theorem DB (g:al):(if bu g=true then
    if (aB g true).getD g.start.toNat false=true then (iM g (cz (bW (aB g true) (bh g) g.rules)) (aB g true) (bh g),ct (aB g true) (bh g) g.rules 0,0)
    else (np,[],9)
  else (np,[],1))=fN g:=by
  unfold fN
  by_cases hr:bu g=true
  · rw[if_pos hr,if_pos hr]
    by_cases hp:(aB g true).getD g.start.toNat false=true
    · rw[if_pos hp,if_pos hp]
      have hf:=bA hr
      rw[Fv]
      · exact FH hr hf.mI hp (tq hr)
      · intro r hm
        obtain ⟨h1,h2⟩:=List.mem_filter.1 hm
        refine ⟨zx.2 ⟨r,h1,h2,rfl⟩,fun s hs hn=>?_⟩
        refine FH hr (by omega) ?_ (uU hr h1 h2 hs hn)
        rw[bj,Bool.and_eq_true] at h2
        have:=h2.2
        simp only[eh,List.all_eq_true] at this
        have:=this s hs
        rwa [if_neg (by omega)] at this
    · rw[if_neg hp,if_neg hp]
  · rw[if_neg hr,if_neg hr]
theorem CG (g:al) (hg:g.Ok) (hs:g.Small):dJ Tryz.prog 109 [.agg (aX g)] (wZ (fN g)):=by
  rw[← DB]; exact A7 g hg hs
structure Cell where
  kind:Int
  n:Int
  deriving DecidableEq
structure rC where
  bL:List (List Cell)
  gotos:List (List Int)
  deriving DecidableEq
def Di (g:al) (n:Nat) (c:Cell):Bool:=if c.kind=0∨c.kind=3 then decide (c.n=0) else if c.kind=1 then decide (0≤c.n) && decide (c.n < n) else if c.kind=2 then decide (0≤c.n) && decide (c.n < g.rules.length) else false
def Iy (g:al) (n:Nat) (a:List Cell) (l:List Int):Bool:=decide (a.length=g.az.length+1) && decide (l.length=g.ay.length) && a.all (Di g n) && l.all fun x=>decide (-1≤x) && decide (x < n)
def CE (t:rC) (s x:Int):Cell:=(t.bL.getD s.toNat []).getD x.toNat ⟨0,0⟩
def yJ (t:rC) (s x:Int):Int:=(t.gotos.getD s.toNat []).getD x.toNat (-1)
def CQ (g:al) (k:Int):aE:=g.rules.getD k.toNat ⟨0,[],0⟩
def Fx (t:rC) (st:List Int):Prop:=st≠[]∧∀ x∈st,0≤x∧x < t.bL.length
theorem getD_some {α:Type} {l:List α} {j:Nat} {d:α} (h:j < l.length):l[j]?=some (l.getD j d):=by simp[List.getD_eq_getElem?_getD,h]
theorem Fx.app {t:rC} {st:List Int} {x:Int} (h:∀ y∈st,0≤y∧y < t.bL.length) (hx:0≤x∧x < t.bL.length):Fx t (st ++ [x]):=by
  refine ⟨by simp,fun y hy=>?_⟩
  rcases List.mem_append.1 hy with hy | hy
  · exact h y hy
  · simp at hy; subst hy; exact hx
theorem Fx.take {t:rC} {st:List Int} (h:Fx t st) {k:Nat} (hk:0 < k):Fx t (st.take k):=by
  refine ⟨?_,fun y hy=>h.2 y (List.mem_of_mem_take hy)⟩
  intro e
  rcases List.take_eq_nil_iff.1 e with e | e
  · omega
  · exact h.1 e
structure l6 (g:al) (t:rC):Prop where
  right:bu g=true
  n1:1≤t.bL.length
  Kr:t.bL.length≤300
  len:t.gotos.length=t.bL.length
  row:∀ i,i < t.bL.length→Iy g t.bL.length (t.bL.getD i []) (t.gotos.getD i [])=true
theorem l6.vP {g:al} {t:rC} (h:l6 g t) {i:Nat} (hi:i < t.bL.length):(t.bL.getD i []).length=g.az.length+1∧(t.gotos.getD i []).length=g.ay.length∧(∀ c∈t.bL.getD i [],Di g t.bL.length c=true)∧∀ x∈t.gotos.getD i [],-1≤x∧x < t.bL.length:=by
  have:=h.row i hi
  unfold Iy at this
  simp only[Bool.and_eq_true,decide_eq_true_eq,List.all_eq_true] at this
  exact ⟨this.1.1.1,this.1.1.2,this.1.2,this.2⟩
theorem l6.cell {g:al} {t:rC} (h:l6 g t) {s x:Int} (hs:0≤s∧s < t.bL.length) (hx:0≤x∧x≤g.az.length):Di g t.bL.length (CE t s x)=true∧(t.bL.getD s.toNat [])[x.toNat]?=some (CE t s x):=by
  have hi:s.toNat < t.bL.length:=by omega
  obtain ⟨h1,_,h3,_⟩:=h.vP hi
  have hj:x.toNat < (t.bL.getD s.toNat []).length:=by omega
  have e:(t.bL.getD s.toNat [])[x.toNat]?=some (CE t s x):=getD_some hj
  exact ⟨h3 _ (List.mem_of_getElem? e),e⟩
theorem l6.go {g:al} {t:rC} (h:l6 g t) {s x:Int} (hs:0≤s∧s < t.bL.length) (hx:0≤x∧x < g.ay.length):(-1≤yJ t s x∧yJ t s x < t.bL.length)∧(t.gotos.getD s.toNat [])[x.toNat]?=some (yJ t s x):=by
  have hi:s.toNat < t.bL.length:=by omega
  obtain ⟨_,h2,_,h4⟩:=h.vP hi
  have hj:x.toNat < (t.gotos.getD s.toNat []).length:=by omega
  have e:(t.gotos.getD s.toNat [])[x.toNat]?=some (yJ t s x):=getD_some hj
  exact ⟨h4 _ (List.mem_of_getElem? e),e⟩
theorem AJ {x:Int} : ∀ (o:List Int) (i:Int),x∈o→∃ k:Nat,cp (fun y=>y == x) o i=i+k∧o[k]?=some x
  | [],_,h=>by simp at h
  | y :: o,i,h=>by
    by_cases e:y=x
    · exact ⟨0,by simp[cp,e],by simp[e]⟩
    · have hx:x∈o:=by
        rcases List.mem_cons.1 h with rfl | h
        · exact absurd rfl e
        · exact h
      obtain ⟨k,h1,h2⟩:=AJ o (i+1) hx
      exact ⟨k+1,by simp only[cp]; rw[if_neg (by simp[e]),h1]; push_cast; omega,by simpa using h2⟩
theorem tX {o:List Int} {x:Int} (h:x∈o):o[(bk o x).toNat]?=some x:=by
  obtain ⟨k,h1,h2⟩:=AJ o 0 h
  have:bk o x=k:=by unfold bk; omega
  rw[this]; simpa using h2
theorem sx {o:List Int} (hn:o.Nodup) {k:Nat} {x:Int} (h:o[k]?=some x):bk o x=k:=by
  have hx:=List.mem_of_getElem? h
  have h1:=tX hx
  have h2:=gU hx
  obtain ⟨hk,h3⟩:=List.getElem?_eq_some_iff.1 h
  obtain ⟨hk2,h4⟩:=List.getElem?_eq_some_iff.1 h1
  have:=(List.getElem_inj hn).1 (h4.trans h3.symm)
  omega
theorem Gb (acc:List Int) (r:aE):∃ m,c9 acc r=acc ++ m:=by
  unfold c9
  split
  · exact ⟨[],by simp⟩
  · exact ⟨_,rfl⟩
theorem oO:∀ (l:List aE) (acc:List Int),∃ m,l.foldl c9 acc=acc ++ m
  | [],acc=>⟨[],by simp⟩
  | r :: l,acc=>by
    obtain ⟨m,hm⟩:=Gb acc r
    obtain ⟨k,hk⟩:=oO l (c9 acc r)
    exact ⟨m ++ k,by rw[List.foldl_cons,hk,hm,List.append_assoc]⟩
theorem Gk {a b:List Int} {x:Int} (h:x∈a):bk (a ++ b) x=bk a x:=by
  unfold bk
  rw[sX _ _ _ _ (by omega)]
  have:=gU h
  unfold bk at this
  rw[if_pos this.1]
theorem qa {r:al} {o:List Int} (ho:o.Nodup) (hr:r.ay.length=o.length):∀ (l:List aE) (acc:List Int),o=l.foldl c9 acc→(∀ x∈l,kr r (bd (bk o) x)=true)→gJ r (l.map (bd (bk o))) ((acc.length:Int) - 1)=true
  | [],acc,h,_=>by
    simp only[List.foldl_nil] at h
    simp[gJ,hr,h]
  | x :: l,acc,h,hb=>by
    simp only[List.map_cons,gJ,Bool.and_eq_true,decide_eq_true_eq]
    rw[List.foldl_cons] at h
    have h1:(bd (bk o) x).left=bk o x.left:=rfl
    obtain ⟨m,hm⟩:=oO l (c9 acc x)
    rw[← h] at hm
    by_cases hx:x.left∈acc
    · have e:c9 acc x=acc:=by unfold c9; rw[if_pos hx]
      rw[e] at hm h
      have h2:=gU hx
      have h3:bk o x.left=bk acc x.left:=by rw[hm]; exact Gk hx
      rw[h1,h3,if_neg (by omega)]
      exact ⟨⟨⟨h2.1,by omega⟩,hb x (by simp)⟩,qa ho hr l acc h fun y hy=>hb y (by simp[hy])⟩
    · have e:c9 acc x=acc ++ [x.left]:=by unfold c9; rw[if_neg hx]
      rw[e] at hm h
      have h3:bk o x.left=acc.length:=sx ho (by rw[hm]; simp)
      rw[h1,h3,if_pos (by omega)]
      refine ⟨⟨⟨by omega,by omega⟩,hb x (by simp)⟩,?_⟩
      have:=qa ho hr l (acc ++ [x.left]) h fun y hy=>hb y (by simp[hy])
      rw[List.length_append] at this
      simpa using this
theorem sV {g r:al} (h:r.az=g.az):∀ (l:List Term) (i:Int),kN r l i=kN g l i
  | [],_=>rfl
  | t :: l,i=>by
    simp only[kN,sV h l]
    congr 1
    simp only[mZ,nC,uX,h]
theorem lD {o:List Int} {n:Nat} (h:o.Nodup) (hb:∀ x∈o,0≤x∧x < n):o.length≤n:=by
  have:=kM o ((List.range n).map fun (k:Nat)=>(k:Int)) h fun x hx=>by
    have:=hb x hx
    exact List.mem_map.2 ⟨x.toNat,List.mem_range.2 (by omega),by omega⟩
  simpa using this
structure c7 (g:al) (p q:List Bool) (o:List Int) (r:al):Prop where
  right:bu g=true
  pe:p=aB g true
  qe:q=bh g
  oe:o=bW p q g.rules
  re:r=iM g (bk o) p q
  nodup:o.Nodup
  inside:∀ x∈o,0≤x∧x < g.ay.length
  kept:∀ R∈g.rules,bj p q R=true→R.left∈o∧∀ s∈R.right,s < 0→-1 - s∈o
  from_:∀ x∈o,∃ R∈g.rules,bj p q R=true∧R.left=x
  start:g.start∈o
section
variable {g r:al} {p q:List Bool} {o:List Int}
theorem c7.rules (h:c7 g p q o r):r.rules=(g.rules.filter (bj p q)).map (bd (bk o)):=by rw[h.re]; rfl
theorem c7.ay (h:c7 g p q o r):r.ay=o.map fun x=>g.ay.getD x.toNat ⟨#[]⟩:=by rw[h.re,h.oe]; rfl
theorem c7.az (h:c7 g p q o r):r.az=g.az:=by rw[h.re]; rfl
theorem c7.yZ (h:c7 g p q o r):r.start=bk o g.start:=by rw[h.re]; rfl
theorem c7.len (h:c7 g p q o r):r.ay.length=o.length:=by rw[h.ay]; simp
theorem c7.iX (h:c7 g p q o r):bu r=true:=by
  have hf:=bA h.right
  have hR:=h.right
  simp only[bu,sC,vJ,Bool.and_eq_true,decide_eq_true_eq] at hR ⊢
  obtain ⟨⟨⟨⟨⟨⟨⟨a1,a2⟩,⟨a3,a4⟩,a5⟩,a6⟩,a7⟩,a8⟩,a9⟩,a10⟩:=hR
  have hst:=gU h.start
  have hol:o.length≤g.ay.length:=lD h.nodup h.inside
  have hgn:g.ay.Nodup∧∀ s∈g.ay,gx (eZ s)=true∧nC g s < 0:=by
    rw[nd] at a5
    refine ⟨(nr g.ay).1 fun k s hk=>?_,fun s hs=>?_⟩
    · have:=a5 k s hk
      simp only[og,zo,Bool.and_eq_true,beq_iff_eq] at this
      have:=this.1.2
      omega
    · obtain ⟨k,hk⟩:=List.getElem?_of_mem hs
      have:=a5 k s hk
      simp only[og,Bool.and_eq_true,decide_eq_true_eq] at this
      exact ⟨this.1.1,this.2⟩
  have hget:∀ x∈o,∃ (hx:x.toNat < g.ay.length),g.ay.getD x.toNat ⟨#[]⟩=g.ay[x.toNat]:=fun x hx=>by
    have:=h.inside x hx
    exact ⟨by omega,by simp[List.getD_eq_getElem?_getD,List.getElem?_eq_getElem (show x.toNat < g.ay.length by omega)]⟩
  have hrn:r.ay.Nodup:=by
    rw[h.ay,List.nodup_iff_pairwise_ne,List.pairwise_map]
    refine (List.Pairwise.and_mem.1 h.nodup).imp ?_
    rintro x y ⟨hx,hy,hne⟩ e
    obtain ⟨h1,h2⟩:=hget x hx
    obtain ⟨h3,h4⟩:=hget y hy
    rw[h2,h4] at e
    have h5:=(List.getElem_inj hgn.1).1 e
    have h6:=h.inside x hx
    have h7:=h.inside y hy
    exact hne (by omega)
  have hrules:(g.rules.filter (bj p q)).length≤g.rules.length:=List.length_filter_le _ _
  obtain ⟨R0,hR0,hk0,_⟩:=h.from_ _ h.start
  have hpos:0 < (g.rules.filter (bj p q)).length:=List.length_pos_of_mem (List.mem_filter.2 ⟨hR0,hk0⟩)
  have hrl:r.rules.length=(g.rules.filter (bj p q)).length:=by rw[h.rules]; simp
  refine ⟨⟨⟨⟨⟨⟨⟨by rw[h.az]; exact a1,?_⟩,⟨by rw[h.len]; omega,by rw[h.len]; omega⟩,?_⟩,by omega⟩,by omega⟩,by rw[h.yZ]; omega⟩,by rw[h.yZ,h.len]; omega⟩,?_⟩
  · rw[h.az,sV h.az]; exact a2
  · rw[nd]
    intro k s hk
    have hm:=List.mem_of_getElem? hk
    have hidx:=(nr r.ay).2 hrn k s hk
    rw[h.ay,List.mem_map] at hm
    obtain ⟨x,hx,rfl⟩:=hm
    obtain ⟨h1,h2⟩:=hget x hx
    obtain ⟨h3,h4⟩:=hgn.2 _ (h2 ▸ List.getElem_mem h1:g.ay.getD x.toNat ⟨#[]⟩∈g.ay)
    simp only[og,zo,Bool.and_eq_true,beq_iff_eq,decide_eq_true_eq]
    refine ⟨⟨h3,by rw[hidx]; omega⟩,?_⟩
    simp only[nC,h.az] at h4 ⊢
    exact h4
  · rw[h.rules]
    have:=qa (r:=r) h.nodup h.len (g.rules.filter (bj p q)) [] (by rw[h.oe]; rfl) (fun x hx=>?_)
    · simpa using this
    obtain ⟨hm,hk⟩:=List.mem_filter.1 hx
    obtain ⟨_,hin⟩:=h.kept x hm hk
    have hb:=(sf _ _ a10).2 x hm
    have hb:=hb.2.2
    simp only[kr,Bool.and_eq_true,decide_eq_true_eq,List.all_eq_true] at hb ⊢
    obtain ⟨⟨⟨b1,b2⟩,b3⟩,b4⟩:=hb
    refine ⟨⟨⟨by simpa [bd] using b1,b2⟩,by rw[h.az]; exact b3⟩,fun s hs=>?_⟩
    simp only[bd,List.mem_map] at hs
    obtain ⟨s0,hs0,rfl⟩:=hs
    have b5:=b4 s0 hs0
    by_cases hn:s0 < 0
    · rw[if_pos hn]
      have hl:=gU (hin s0 hs0 hn)
      simp only[tK,nR,Bool.and_eq_true]
      rw[if_neg (by omega),decide_eq_false (p:=0≤-1 - bk o (-1 - s0)) (by omega)]
      simp only[h.len,decide_eq_true_eq,Bool.false_and,Bool.not_false,and_true]
      omega
    · rw[if_neg hn]
      simp only[tK,nR,h.az] at b5 ⊢
      rw[if_pos (by omega)] at b5 ⊢
      exact b5
end
inductive oL (g:al):Int→Prop
  | mk (R:aE):R∈g.rules→(∀ s∈R.right,s < 0→oL g (-1 - s))→oL g R.left
inductive kU (g:al) (p:List Bool):Int→Prop
  | start:kU g p g.start
  | next (R:aE) (s:Int):R∈g.rules→kU g p R.left→eh R.right p true=true→s∈R.right→s < 0→kU g p (-1 - s)
theorem pB {l:List Int} {p:List Bool} : eh l p true=true↔∀ s∈l,s < 0→p.getD (-1 - s).toNat false=true:=by
  simp only[eh,List.all_eq_true]
  constructor
  · intro h s hs hn
    have:=h s hs
    rwa [if_neg (by omega)] at this
  · intro h s hs
    by_cases hn:s < 0
    · rw[if_neg (by omega)]; exact h s hs hn
    · rw[if_pos (by omega)]
theorem tR {l:List Bool} {i j:Nat} (h:(l.set i true).getD j false=true):j=i∨l.getD j false=true:=by
  by_cases e:i=j
  · exact .inl e.symm
  · right
    simp only[List.getD_eq_getElem?_getD,List.getElem?_set,if_neg e] at h ⊢
    exact h
theorem u6 {g:al} {i:Nat} : (cb g).getD i false=false:=by
  simp only[cb,List.getD_eq_getElem?_getD,List.getElem?_replicate]
  split <;> rfl
theorem y7 {g:al} (hr:bu g=true):∀ i:Nat,(aB g true).getD i false=true→oL g i:=by
  have hf:=bA hr
  have hst:∀ (is:List Bool) (R:aE),R∈g.rules→(∀ i:Nat,is.getD i false=true→oL g i)→∀ i:Nat,(dn true is R).getD i false=true→oL g i:=by
    intro is R hR h i hi
    unfold dn at hi
    split at hi
    · rename_i ha
      rcases tR hi with rfl | hi
      · have:=hf.left R hR
        have e:((R.left.toNat:Nat):Int)=R.left:=by omega
        rw[e]
        refine .mk R hR fun s hs hn=>?_
        have:=h _ (pB.1 ha s hs hn)
        rwa [show (((-1 - s).toNat:Nat):Int) = -1 - s by omega] at this
      · exact h i hi
    · exact h i hi
  have hfold:∀ (l:List aE) (is:List Bool),(∀ R∈l,R∈g.rules)→(∀ i:Nat,is.getD i false=true→oL g i)→∀ i:Nat,(l.foldl (dn true) is).getD i false=true→oL g i:=by
    intro l
    induction l with
    | nil=>intro is _ h; exact h
    | cons R l ih=>intro is hl h; exact ih _ (fun x hx=>hl x (by simp[hx])) (hst is R (hl R (by simp)) h)
  have hit:∀ (n:Nat) (is:List Bool),(∀ i:Nat,is.getD i false=true→oL g i)→∀ i:Nat,(iter (kn g true) n is).getD i false=true→oL g i:=by
    intro n
    induction n with
    | zero=>intro is h; exact h
    | succ n ih=>intro is h; exact ih _ (hfold g.rules is (fun _ h=>h) h)
  rw[aB,if_pos hr]
  exact hit _ _ fun i hi=>by rw[u6] at hi; simp at hi
theorem xu (t:Bool) (is:List Bool) (R:aE):ei is (dn t is R):=by
  unfold dn
  split
  · exact .set _ _
  · exact .refl _
theorem xP (t:Bool):∀ (l:List aE) (is:List Bool),ei is (l.foldl (dn t) is)
  | [],is=>.refl _
  | R :: l,is=>(xu t is R).trans (xP t l _)
theorem uM {t:Bool} : ∀ {l:List aE} {is:List Bool},l.foldl (dn t) is=is→∀ R∈l,dn t is R=is
  | [],_,_,_,h=>by simp at h
  | R :: l,is,h,x,hx=>by
    rw[List.foldl_cons] at h
    have h1:=xP t l (dn t is R)
    rw[h] at h1
    have h2:=(h1.CZ (xu t is R))
    rcases List.mem_cons.1 hx with rfl | hx
    · exact h2
    · rw[h2] at h; exact uM h x hx
theorem DV {g:al} (hr:bu g=true) (t:Bool):kn g t (aB g t)=aB g t:=by
  have hf:=bA hr
  have h:=nf (mE t) g.rules 16 (cb g) (by have:=hf.ay; simp[cb]; omega)
  rw[Cu,DQ hr] at h
  exact h.1
theorem mo {g:al} (hr:bu g=true) {t:Bool} {R:aE} (hR:R∈g.rules) (ha:eh R.right (aB g t) t=true):(aB g t).getD R.left.toNat false=true:=by
  have h1:=uM (DV hr t) R hR
  have hf:=bA hr
  have hl:=kB hr t
  have hb:=hf.left R hR
  unfold dn at h1
  rw[if_pos ha] at h1
  rw[← h1]
  simp only[List.getD_eq_getElem?_getD]
  rw[List.getElem?_set_self (by omega)]
  rfl
theorem ry {g:al} (hr:bu g=true) {x:Int} (h:oL g x):(aB g true).getD x.toNat false=true:=by
  induction h with
  | mk R hR _ ih=>exact mo hr hR (pB.2 fun s hs hn=>ih s hs hn)
theorem zO {g:al} (hr:bu g=true):∀ i:Nat,(bh g).getD i false=true→kU g (aB g true) i:=by
  have hf:=bA hr
  have hmk:∀ (R:aE),R∈g.rules→kU g (aB g true) R.left→eh R.right (aB g true) true=true→∀ (l:List Int) (is:List Bool),(∀ s∈l,s∈R.right)→(∀ i:Nat,is.getD i false=true→kU g (aB g true) i)→∀ i:Nat,(l.foldl mark is).getD i false=true→kU g (aB g true) i:=by
    intro R hR hl ha l
    induction l with
    | nil=>intro is _ h; exact h
    | cons s l ih =>
      intro is hs h
      refine ih _ (fun x hx=>hs x (by simp[hx])) fun i hi=>?_
      unfold mark at hi
      split at hi
      · rename_i hn
        rcases tR hi with rfl | hi
        · rw[show (((-1 - s).toNat:Nat):Int) = -1 - s by omega]
          exact .next R s hR hl ha (hs s (by simp)) hn
        · exact h i hi
      · exact h i hi
  have hst:∀ (is:List Bool) (R:aE),R∈g.rules→(∀ i:Nat,is.getD i false=true→kU g (aB g true) i)→∀ i:Nat,(gm (aB g true) is R).getD i false=true→kU g (aB g true) i:=by
    intro is R hR h
    unfold gm
    split
    · rename_i ha
      rw[Bool.and_eq_true] at ha
      have h1:=h _ ha.1
      have:=hf.left R hR
      rw[show ((R.left.toNat:Nat):Int)=R.left by omega] at h1
      exact hmk R hR h1 ha.2 R.right is (fun _ h=>h) h
    · exact h
  have hfold:∀ (l:List aE) (is:List Bool),(∀ R∈l,R∈g.rules)→(∀ i:Nat,is.getD i false=true→kU g (aB g true) i)→∀ i:Nat,(l.foldl (gm (aB g true)) is).getD i false=true→kU g (aB g true) i:=by
    intro l
    induction l with
    | nil=>intro is _ h; exact h
    | cons R l ih=>intro is hl h; exact ih _ (fun x hx=>hl x (by simp[hx])) (hst is R (hl R (by simp)) h)
  have hit:∀ (n:Nat) (is:List Bool),(∀ i:Nat,is.getD i false=true→kU g (aB g true) i)→∀ i:Nat,(iter (oH g (aB g true)) n is).getD i false=true→kU g (aB g true) i:=by
    intro n
    induction n with
    | zero=>intro is h; exact h
    | succ n ih=>intro is h; exact ih _ (hfold g.rules is (fun _ h=>h) h)
  rw[bh,if_pos hr]
  refine hit _ _ fun i hi=>?_
  rcases tR hi with rfl | hi
  · have:=hf.mI
    rw[show ((g.start.toNat:Nat):Int)=g.start by omega]
    exact .start
  · rw[u6] at hi; simp at hi
theorem rF {g:al} (hr:bu g=true) {x:Int} (h:kU g (aB g true) x):(bh g).getD x.toNat false=true:=by
  induction h with
  | start=>exact tq hr
  | next R s hR _ ha hs hn ih=>exact uU hr hR (by rw[bj,ih,ha]; rfl) hs hn
section
variable {g r:al} {p q:List Bool} {o:List Int}
theorem c7.J8 (h:c7 g p q o r) {x:Int} (hd:oL g x):x∈o→oL r (bk o x):=by
  induction hd with
  | mk R hR hsub ih =>
    intro hx
    obtain ⟨R1,hR1,hk1,e1⟩:=h.from_ _ hx
    have hk:bj p q R=true:=by
      rw[bj,Bool.and_eq_true] at hk1 ⊢
      refine ⟨by rw[← e1]; exact hk1.1,?_⟩
      rw[h.pe]
      exact pB.2 fun s hs hn=>ry h.right (hsub s hs hn)
    have hin:=(h.kept R hR hk).2
    have hm:bd (bk o) R∈r.rules:=by rw[h.rules]; exact List.mem_map.2 ⟨R,List.mem_filter.2 ⟨hR,hk⟩,rfl⟩
    refine oL.mk (bd (bk o) R) hm fun s' hs' hn'=>?_
    simp only[bd,List.mem_map] at hs'
    obtain ⟨s,hs,rfl⟩:=hs'
    by_cases hn:s < 0
    · rw[if_pos hn]
      have:=ih s hs hn (hin s hs hn)
      rwa [show -1 - (-1 - bk o (-1 - s))=bk o (-1 - s) by omega]
    · rw[if_neg hn] at hn'; omega
theorem c7.IZ (h:c7 g p q o r) {x:Int} (hx:x∈o):(aB r true).getD (bk o x).toNat false=true:=by
  obtain ⟨R,hR,hk,rfl⟩:=h.from_ _ hx
  rw[bj,Bool.and_eq_true,h.pe] at hk
  have h1:=mo h.right hR hk.2
  have h2:=y7 h.right _ h1
  have:=(h.inside _ hx)
  rw[show ((R.left.toNat:Nat):Int)=R.left by omega] at h2
  exact ry h.iX (h.J8 h2 hx)
theorem c7.at_ (h:c7 g p q o r) {k:Nat} (hk:k < o.length):∃ x∈o,bk o x=k∧o[k]?=some x:=⟨o[k],List.getElem_mem _,sx h.nodup (List.getElem?_eq_getElem hk),List.getElem?_eq_getElem hk⟩
theorem c7.yj (h:c7 g p q o r) {k:Nat} (hk:k < o.length):(aB r true).getD k false=true:=by
  obtain ⟨x,hx,h1,_⟩:=h.at_ hk
  have:=h.IZ hx
  rwa [h1,Int.toNat_natCast] at this
theorem c7.Fg (h:c7 g p q o r) {R:aE} (hR:R∈r.rules):eh R.right (aB r true) true=true:=by
  have hf:=bA h.iX
  refine pB.2 fun s hs hn=>h.yj ?_
  have:=hf.neg hR hs hn
  rw[h.len] at this
  omega
theorem c7.Kf (h:c7 g p q o r) {x:Int} (hd:kU g (aB g true) x):kU r (aB r true) (bk o x):=by
  induction hd with
  | start=>rw[← h.yZ]; exact .start
  | next R s hR h1 ha hs hn ih =>
    have hk:bj p q R=true:=by
      rw[bj,h.pe,h.qe,ha,rF h.right h1]; rfl
    have hm:bd (bk o) R∈r.rules:=by rw[h.rules]; exact List.mem_map.2 ⟨R,List.mem_filter.2 ⟨hR,hk⟩,rfl⟩
    have hin:=(h.kept R hR hk).2 s hs hn
    have h2:=gU hin
    have:=kU.next (g:=r) (p:=aB r true) (bd (bk o) R) (-1 - bk o (-1 - s)) hm ih (h.Fg hm) (by
      simp only[bd,List.mem_map]
      exact ⟨s,hs,by rw[if_pos hn]⟩) (by omega)
    rwa [show -1 - (-1 - bk o (-1 - s))=bk o (-1 - s) by omega] at this
theorem c7.FC (h:c7 g p q o r) {k:Nat} (hk:k < o.length):(bh r).getD k false=true:=by
  obtain ⟨x,hx,h1,_⟩:=h.at_ hk
  obtain ⟨R,hR,hkk,rfl⟩:=h.from_ _ hx
  rw[bj,Bool.and_eq_true,h.qe] at hkk
  have h2:=zO h.right _ hkk.1
  have:=(h.inside _ hx)
  rw[show ((R.left.toNat:Nat):Int)=R.left by omega] at h2
  have:=rF h.iX (h.Kf h2)
  rwa [h1,Int.toNat_natCast] at this
def ig (n:Nat):List Int:=(List.range n).map fun (k:Nat)=>(k:Int)
theorem Az (n:Nat):(ig n).length=n:=by simp[ig]
theorem uk {n k:Nat} (h:k < n):(ig n)[k]?=some (k:Int):=by simp[ig,h]
theorem DH (n:Nat):(ig n).Nodup:=by
  rw[ig,List.nodup_iff_pairwise_ne,List.pairwise_map]
  exact (List.nodup_range (n:=n)).imp fun h e=>h (by omega)
theorem tY {n:Nat} {x:Int} (h0:0≤x) (h1:x < n):bk (ig n) x=x:=by
  have:=sx (DH n) (uk (n:=n) (k:=x.toNat) (by omega))
  rw[show ((x.toNat:Nat):Int)=x by omega] at this
  exact this
theorem x5 {p q:List Bool} : ∀ (l:List aE) (i:Int),(∀ R∈l,bj p q R=true)→ct p q l i=(List.range l.length).map fun (k:Nat)=>i+(k:Int)
  | [],_,_=>rfl
  | R :: l,i,h=>by
    rw[ct,if_pos (h R (by simp)),x5 l (i+1) (fun x hx=>h x (by simp[hx])),List.length_cons,List.range_succ_eq_map,List.map_cons,List.map_map]
    congr 1
    · omega
    · apply List.map_congr_left
      intro k _
      simp only[Function.comp]
      push_cast; omega
theorem ox {f:Int→Int} {o:List Int} (hf:∀ x∈o,∀ y∈o,f x=f y→x=y):∀ (l:List aE) (acc:List Int),(∀ x∈acc,x∈o)→(∀ R∈l,R.left∈o)→(l.map (bd f)).foldl c9 (acc.map f)=(l.foldl c9 acc).map f
  | [],_,_,_=>rfl
  | R :: l,acc,ha,hl=>by
    have e:c9 (acc.map f) (bd f R)=(c9 acc R).map f:=by
      have h1:(bd f R).left=f R.left:=rfl
      unfold c9
      rw[h1]
      by_cases h:R.left∈acc
      · rw[if_pos h,if_pos (List.mem_map.2 ⟨_,h,rfl⟩)]
      · rw[if_neg h,if_neg (fun hm=>by
          obtain ⟨y,hy,e⟩:=List.mem_map.1 hm
          exact h (hf y (ha y hy) _ (hl R (by simp)) e ▸ hy))]
        simp
    rw[List.map_cons,List.foldl_cons,List.foldl_cons,e]
    refine ox hf l (c9 acc R) (fun x hx=>?_) (fun x hx=>hl x (by simp[hx]))
    unfold c9 at hx
    split at hx
    · exact ha x hx
    · rcases List.mem_append.1 hx with hx | hx
      · exact ha x hx
      · simp at hx; subst hx; exact hl R (by simp)
theorem c7.inj (h:c7 g p q o r):∀ x∈o,∀ y∈o,bk o x=bk o y→x=y:=by
  intro x hx y hy e
  have h1:=tX hx
  have h2:=tX hy
  rw[e,h2] at h1
  exact (Option.some.inj h1).symm
theorem c7.HY (h:c7 g p q o r):o.map (bk o)=ig o.length:=by
  apply List.ext_getElem?
  intro k
  rw[List.getElem?_map]
  by_cases hk:k < o.length
  · rw[uk hk,List.getElem?_eq_getElem hk,Option.map_some,sx h.nodup (List.getElem?_eq_getElem hk)]
  · rw[List.getElem?_eq_none (by omega),List.getElem?_eq_none (by rw[Az]; omega)]; rfl
theorem c7.ur (h:c7 g p q o r):∀ R∈r.rules,bj (aB r true) (bh r) R=true:=fun R hR=>by
  have hf:=bA h.iX
  have:=hf.left R hR
  rw[h.len] at this
  rw[bj,h.FC (by omega),h.Fg hR]; rfl
theorem c7.ord (h:c7 g p q o r):bW (aB r true) (bh r) r.rules=ig o.length:=by
  unfold bW
  rw[List.filter_eq_self.2 h.ur,h.rules]
  have:=ox h.inj (g.rules.filter (bj p q)) [] (by simp) (fun R hR=>by
    obtain ⟨h1,h2⟩:=List.mem_filter.1 hR
    exact (h.kept R h1 h2).1)
  rw[List.map_nil] at this
  rw[this,← h.HY]
  congr 1
  rw[h.oe]; rfl
theorem c7.once (h:c7 g p q o r):fN r=(r,ig r.rules.length,0):=by
  have hf:=bA h.iX
  have hst:=hf.start
  have hst0:=hf.mI
  rw[h.len] at hst
  rw[AE h.iX,if_pos (h.yj (by omega)),h.ord]
  have hk:ct (aB r true) (bh r) r.rules 0=ig r.rules.length:=by
    rw[x5 _ _ h.ur]
    unfold ig
    apply List.map_congr_left
    intro k _; omega
  have hr:iM r (bk (ig o.length)) (aB r true) (bh r)=r:=by
    unfold iM
    rw[h.ord,List.filter_eq_self.2 h.ur]
    have e1:((ig o.length).map fun x=>r.ay.getD x.toNat ⟨#[]⟩)=r.ay:=by
      apply List.ext_getElem?
      intro k
      rw[List.getElem?_map]
      by_cases hkk:k < o.length
      · rw[uk hkk,Option.map_some]
        simp[List.getD_eq_getElem?_getD,List.getElem?_eq_getElem (show k < r.ay.length by rw[h.len]; omega)]
      · rw[List.getElem?_eq_none (by rw[Az]; omega),List.getElem?_eq_none (by rw[h.len]; omega)]; rfl
    have e2:r.rules.map (bd (bk (ig o.length)))=r.rules:=by
      conv=>rhs; rw[← List.map_id r.rules]
      apply List.map_congr_left
      intro R hR
      have hl:=hf.left R hR
      rw[h.len] at hl
      unfold bd
      rw[tY hl.1 hl.2]
      have e3:(R.right.map fun s=>if s < 0 then -1 - bk (ig o.length) (-1 - s) else s)=R.right:=by
        conv=>rhs; rw[← List.map_id R.right]
        apply List.map_congr_left
        intro s hs
        by_cases hn:s < 0
        · have:=hf.neg hR hs hn
          rw[h.len] at this
          rw[if_pos hn,tY (by omega) this]
          simp only[id]; omega
        · rw[if_neg hn]; rfl
      rw[e3]; rfl
    rw[e1,e2,tY hst0 hst]
  rw[hr,hk]
end
def isRed (g:al):Bool:=(fN g).2.2 == 0 && decide (g=(fN g).1)
def ln (p:List Int) (i:Nat) (s:Int):Prop:=∃ c,p[i]?=some c∧(c=s∨c = -1)
inductive Sp (g:al) (p:List Int):List Int→Nat→Nat→Prop
  | nil (i:Nat):Sp g p [] i i
  | term (s:Int) (l:List Int) (i j:Nat):0≤s→ln p i s→Sp g p l (i+1) j→Sp g p (s :: l) i j
  | cX (s:Int) (l:List Int) (R:aE) (i k j:Nat):s < 0→R∈g.rules→R.left = -1 - s→Sp g p R.right i k→Sp g p l k j→Sp g p (s :: l) i j
theorem Sp.le {g:al} {p:List Int} {l:List Int} {i j:Nat} (h:Sp g p l i j):i≤j:=by
  induction h with
  | nil=>exact Nat.le_refl _
  | term _ _ _ _ _ _ _ ih=>omega
  | cX _ _ _ _ _ _ _ _ _ _ _ ih1 ih2=>omega
theorem Sp.len {g:al} {p:List Int} {l:List Int} {i j:Nat} (h:Sp g p l i j):i≤p.length→j≤p.length:=by
  induction h with
  | nil=>exact id
  | term _ _ i _ _ hf _ ih =>
    intro _
    obtain ⟨c,hc,_⟩:=hf
    have:=(List.getElem?_eq_some_iff.1 hc).1
    exact ih (by omega)
  | cX _ _ _ _ _ _ _ _ _ _ _ ih1 ih2=>exact fun h=>ih2 (ih1 h)
theorem Sp.app {g:al} {p:List Int} {a:List Int} {i k:Nat} (h:Sp g p a i k):∀ {b:List Int} {j:Nat},Sp g p b k j→Sp g p (a ++ b) i j:=by
  induction h with
  | nil=>exact fun h=>h
  | term s l i _ h0 hf _ ih=>exact fun hb=>.term s _ i _ h0 hf (ih hb)
  | cX s l R i k _ h0 hR hl h1 _ _ ih2=>exact fun hb=>.cX s _ R i k _ h0 hR hl h1 (ih2 hb)
theorem Sp.split {g:al} {p:List Int} : ∀ {a b:List Int} {i j:Nat},Sp g p (a ++ b) i j→∃ k,Sp g p a i k∧Sp g p b k j
  | [],b,i,j,h=>⟨i,.nil i,h⟩
  | s :: a,b,i,j,h=>by
    cases h with
    | term _ _ _ _ h0 hf h =>
      obtain ⟨k,h1,h2⟩:=Sp.split h
      exact ⟨k,.term s a i k h0 hf h1,h2⟩
    | cX _ _ R _ m _ h0 hR hl h1 h =>
      obtain ⟨k,h2,h3⟩:=Sp.split h
      exact ⟨k,.cX s a R i m k h0 hR hl h1 h2,h3⟩
structure Item where
  aZ:Nat
  dot:Nat
  je:Nat
  deriving DecidableEq
def Sound (g:al) (p:List Int) (at_:Nat) (x:Item):Prop:=∃ R,g.rules[x.aZ]?=some R∧x.dot≤R.right.length∧x.je≤at_∧Sp g p (R.right.take x.dot) x.je at_
structure Kd (g:al) (p:List Int) (S:Nat→List Item):Prop where
  start:∀ (i:Nat) (R:aE),g.rules[i]?=some R→R.left=g.start→⟨i,0,0⟩∈S 0
  term:∀ a x R s,x∈S a→g.rules[x.aZ]?=some R→R.right[x.dot]?=some s→0≤s→ln p a s→⟨x.aZ,x.dot+1,x.je⟩∈S (a+1)
  pred:∀ a x R s i R',x∈S a→g.rules[x.aZ]?=some R→R.right[x.dot]?=some s→s < 0→g.rules[i]?=some R'→R'.left = -1 - s→a≤p.length→⟨i,0,a⟩∈S a
  null:∀ a x R s,x∈S a→g.rules[x.aZ]?=some R→R.right[x.dot]?=some s→s < 0→(aB g false).getD (-1 - s).toNat false=true→a≤p.length→⟨x.aZ,x.dot+1,x.je⟩∈S a
  comp:∀ a y R' x R s,y∈S a→g.rules[y.aZ]?=some R'→y.dot=R'.right.length→y.je < a→x∈S y.je→g.rules[x.aZ]?=some R→R.right[x.dot]?=some s→s < 0→R'.left = -1 - s→a≤p.length→⟨x.aZ,x.dot+1,x.je⟩∈S a
inductive In (p:List Int) (T:Nat→Nat→Nat→Prop):List Int→Nat→Nat→Prop
  | nil (i:Nat):In p T [] i i
  | term (s:Int) (l:List Int) (i j:Nat):0≤s→ln p i s→In p T l (i+1) j→In p T (s :: l) i j
  | cX (s:Int) (l:List Int) (i k j:Nat):s < 0→T (-1 - s).toNat i k→In p T l k j→In p T (s :: l) i j
theorem In.app {p:List Int} {T:Nat→Nat→Nat→Prop} {a:List Int} {i k:Nat} (h:In p T a i k):∀ {b:List Int} {j:Nat},In p T b k j→In p T (a ++ b) i j:=by
  induction h with
  | nil=>exact fun h=>h
  | term s l i _ h0 hf _ ih=>exact fun hb=>.term s _ i _ h0 hf (ih hb)
  | cX s l i k _ h0 h1 _ ih=>exact fun hb=>.cX s _ i k _ h0 h1 (ih hb)
theorem In.split {p:List Int} {T:Nat→Nat→Nat→Prop} : ∀ {a b:List Int} {i j:Nat},In p T (a ++ b) i j→∃ k,In p T a i k∧In p T b k j
  | [],b,i,j,h=>⟨i,.nil i,h⟩
  | s :: a,b,i,j,h=>by
    cases h with
    | term _ _ _ _ h0 hf h =>
      obtain ⟨k,h1,h2⟩:=In.split h
      exact ⟨k,.term s a i k h0 hf h1,h2⟩
    | cX _ _ _ m _ h0 h1 h =>
      obtain ⟨k,h2,h3⟩:=In.split h
      exact ⟨k,.cX s a i m k h0 h1 h2,h3⟩
theorem In.le {p:List Int} {T:Nat→Nat→Nat→Prop} (hT:∀ n i j,T n i j→i≤j) {l:List Int} {i j:Nat} (h:In p T l i j):i≤j:=by
  induction h with
  | nil=>exact Nat.le_refl _
  | term _ _ _ _ _ _ _ ih=>omega
  | cX _ _ _ _ _ _ h1 _ ih=>have:=hT _ _ _ h1; omega
def stepT (p:List Int) (T:Nat→Nat→Nat→Prop) (s:Int) (i j:Nat):Prop:=if 0≤s then ln p i s∧j=i+1 else T (-1 - s).toNat i j
theorem In.one {p:List Int} {T:Nat→Nat→Nat→Prop} {s:Int} {i j:Nat} : In p T [s] i j↔stepT p T s i j:=by
  unfold stepT
  constructor
  · intro h
    cases h with
    | term _ _ _ _ h0 hf h=>cases h; rw[if_pos h0]; exact ⟨hf,rfl⟩
    | cX _ _ _ _ _ h0 h1 h=>cases h; rw[if_neg (by omega)]; exact h1
  · intro h
    by_cases h0:0≤s
    · rw[if_pos h0] at h
      obtain ⟨hf,rfl⟩:=h
      exact .term s [] i _ h0 hf (.nil _)
    · rw[if_neg h0] at h
      exact .cX s [] i j j (by omega) h (.nil _)
abbrev Tb:=List (List (List Bool))
def tZ (T:Tb) (N M:Nat):Prop:=T.length=N∧∀ r∈T,r.length=M∧∀ c∈r,c.length=M
theorem tZ.row {T:Tb} {N M n:Nat} (h:tZ T N M) (hn:n < N):∃ r,T[n]?=some r∧r.length=M∧T.getD n []=r:=by
  have:n < T.length:=by rw[h.1]; exact hn
  exact ⟨T[n],List.getElem?_eq_getElem this,(h.2 _ (List.getElem_mem _)).1,by simp[List.getD_eq_getElem?_getD,this]⟩
theorem tZ.cell {T:Tb} {N M n i:Nat} (h:tZ T N M) (hn:n < N) (hi:i < M):∃ r c,T[n]?=some r∧r[i]?=some c∧c.length=M∧(T.getD n []).getD i []=c:=by
  obtain ⟨r,hr,hl,hg⟩:=h.row hn
  have h1:i < r.length:=by omega
  refine ⟨r,r[i],hr,List.getElem?_eq_getElem h1,(h.2 r (List.mem_of_getElem? hr)).2 _ (List.getElem_mem _),?_⟩
  rw[hg]; simp[List.getD_eq_getElem?_getD,h1]
def CF (T:Tb) (n i j:Nat):Tb:=T.set n ((T.getD n []).set i (((T.getD n []).getD i []).set j true))
def IQ (N M:Nat):Tb:=List.replicate N (List.replicate M (List.replicate M false))
def G8 (T:Tb):V:=.aI (T.map fun r=>[.aI (r.map fun c=>[cB c])])
structure mF (H:View) (I N M:Nat) (R:Nat→Nat) (C:Nat→Nat→Nat) (T:Tb):Prop where
  top:H I=.arr 1 ((List.range N).map fun n=>[.sl (R n) 0 M 1])
  row:∀ n,n < N→H (R n)=.arr 1 ((List.range M).map fun i=>[.sl (C n i) 0 M 1])
  cell:∀ n i,n < N→i < M→H (C n i)=.arr 1 (dA ((T.getD n []).getD i []))
  inj:∀ n i n' i',n < N→i < M→n' < N→i' < M→C n i=C n' i'→n=n'∧i=i'
theorem tw {c:List Bool} {k:Nat} {F:Nat→List V} (hc:0 < c.length) (h:dA c=(List.range k).map F) (hF:∀ n x,F n≠[gb x]):False:=by
  cases c with
  | nil=>simp at hc
  | cons x c =>
    cases k with
    | zero=>simp at h
    | succ k =>
      rw[List.range_succ_eq_map] at h
      simp only[List.map_cons,List.cons.injEq] at h
      exact hF 0 x h.1.symm
theorem mF.keep {H H':View} {I N M:Nat} {R:Nat→Nat} {C:Nat→Nat→Nat} {T:Tb} (h:mF H I N M R C T) (hk:∀ id,H id≠.dead→H' id=H id):mF H' I N M R C T :=
  ⟨by rw[hk _ (by rw[h.top]; simp)]; exact h.top,fun n hn=>by rw[hk _ (by rw[h.row n hn]; simp)]; exact h.row n hn,fun n i hn hi=>by rw[hk _ (by rw[h.cell n i hn hi]; simp)]; exact h.cell n i hn hi,h.inj⟩
theorem mF.put {H:View} {I N M:Nat} {R:Nat→Nat} {C:Nat→Nat→Nat} {T:Tb} (h:mF H I N M R C T) (hT:tZ T N M) {n i j:Nat} (hn:n < N) (hi:i < M) (hj:j < M) :
    mF (H.set (C n i) (.arr 1 (dA (((T.getD n []).getD i []).set j true)))) I N M R C (CF T n i j):=by
  obtain ⟨r,c,hr,hc,hcl,hg⟩:=hT.cell hn hi
  have hcell:=h.cell n i hn hi
  rw[hg] at hcell
  have e1:I≠C n i:=fun e=>by
    have:=h.top
    rw[e,hcell] at this
    simp only[br.arr.injEq,true_and] at this
    exact tw (by omega) this fun _ _=>by simp
  have e2:∀ m,m < N→R m≠C n i:=fun m hm e=>by
    have:=h.row m hm
    rw[e,hcell] at this
    simp only[br.arr.injEq,true_and] at this
    exact tw (by omega) this fun _ _=>by simp
  refine ⟨by simp only[View.set,if_neg e1]; exact h.top,fun m hm=>by simp only[View.set,if_neg (e2 m hm)]; exact h.row m hm,fun m q hm hq=>?_,h.inj⟩
  obtain ⟨r',hr',hrl,hg'⟩:=hT.row hn
  rw[hr] at hr'; simp at hr'; subst hr'
  have hnl:n < T.length:=by rw[hT.1]; exact hn
  by_cases e:C m q=C n i
  · obtain ⟨rfl,rfl⟩:=h.inj m q n i hm hq hn hi e
    simp only[View.set,if_true]
    congr 2
    rw[CF]
    simp[List.getD_eq_getElem?_getD,hnl]
    rw[List.getElem?_set]
    have:q < T[m].length:=by
      have:=(List.getElem?_eq_some_iff.1 hr).2
      rw[this,hrl]; exact hq
    simp[this]
  · simp only[View.set,if_neg e]
    rw[h.cell m q hm hq]
    congr 2
    rw[CF]
    by_cases em:n=m
    · subst em
      have eq:i≠q:=fun e'=>e (by rw[e'])
      simp[List.getD_eq_getElem?_getD,hnl,List.getElem?_set,eq]
    · simp[List.getD_eq_getElem?_getD,List.getElem?_set,em]
theorem mF.Jm {h:av} {I N M:Nat} {R:Nat→Nat} {C:Nat→Nat→Nat} {T:Tb} (hG:mF h.view I N M R C T) (hT:tZ T N M):dp h (.sl I 0 N 1) (G8 T):=by
  refine .sl I 0 N 1 1 _ _ hG.top (by simp) (by simp[hT.1]) (fun n hn=>?_) (fun n j hn hj=>?_)
  · obtain ⟨r,hr,_⟩:=hT.row hn
    simp[List.getD_eq_getElem?_getD,hr,hn]
  · obtain ⟨r,hr,hrl,hrg⟩:=hT.row hn
    have e1:((T.map fun r=>[V.aI (r.map fun c=>[cB c])]).getD n [])=[V.aI (r.map fun c=>[cB c])]:=by simp[List.getD_eq_getElem?_getD,hr]
    have e2:(((List.range N).map fun n=>[V.sl (R n) 0 M 1]).getD (0+n) [])=[V.sl (R n) 0 M 1]:=by simp[List.getD_eq_getElem?_getD,hn]
    rw[e1] at hj ⊢
    rw[e2]
    have:j=0:=by simp at hj; omega
    subst this
    simp only[List.getD_cons_zero]
    refine .sl (R n) 0 M 1 1 _ _ (hG.row n hn) (by simp) (by simp[hrl]) (fun i hi=>?_) (fun i q hi hq=>?_)
    · simp[List.getD_eq_getElem?_getD,hi,show i < r.length by omega]
    · have hic:i < r.length:=by omega
      have f1:((r.map fun c=>[cB c]).getD i [])=[cB r[i]]:=by simp[List.getD_eq_getElem?_getD,hic]
      have f2:(((List.range M).map fun i=>[V.sl (C n i) 0 M 1]).getD (0+i) [])=[V.sl (C n i) 0 M 1]:=by simp[List.getD_eq_getElem?_getD,hi]
      rw[f1] at hq ⊢
      rw[f2]
      have:q=0:=by simp at hq; omega
      subst this
      simp only[List.getD_cons_zero]
      have hcell:=hG.cell n i hn hi
      have e3:(T.getD n []).getD i []=r[i]:=by rw[hrg]; simp[List.getD_eq_getElem?_getD,hic]
      rw[e3] at hcell
      have hcl:=(hT.2 r (List.mem_of_getElem? hr)).2 _ (List.getElem_mem hic)
      have:=qT (h:=h) (id:=C n i) (is:=r[i]) hcell
      rwa [hcl] at this
theorem dp.IC {h:av} {v t:V} (f:dp h v t):Fr h v t:=by
  induction f with
  | val v=>exact .tree _ (.val v)
  | emp k=>exact .emp k
  | sl id off len esz z es es' hH hle hlen hl _ ih=>exact .sl id off len esz z es es' hH hle hlen hl ih
  | agg cs cs' hl _ ih=>exact .agg cs cs' hl ih
  | aV cs cs' hl _ ih=>exact .aV cs cs' hl ih
theorem mF.CL {H:View} {I N M:Nat} {R:Nat→Nat} {C:Nat→Nat→Nat} {T:Tb} (hG:mF H I N M R C T) (hT:tZ T N M):dz H (.sl I 0 N 1) (G8 T):=by
  rintro h rfl
  exact (hG.Jm hT).IC
structure Iz (H:View) (I N M k:Nat) (R:Nat→Nat) (C:Nat→Nat→Nat):Prop where
  top:H I=.arr 1 ((List.range N).map fun n=>[if n < k then .sl (R n) 0 M 1 else .emp 1])
  row:∀ n,n < k→H (R n)=.arr 1 ((List.range M).map fun i=>[.sl (C n i) 0 M 1])
  cell:∀ n i,n < k→i < M→H (C n i)=.arr 1 (List.replicate M [gb false])
  inj:∀ n i n' i',n < k→i < M→n' < k→i' < M→C n i=C n' i'→n=n'∧i=i'
  ne:∀ n,n < k→I≠R n
structure zm (H:View) (I N M k:Nat) (R:Nat→Nat) (C:Nat→Nat→Nat) (r i:Nat) (D:Nat→Nat):Prop where
  top:H I=.arr 1 ((List.range N).map fun n=>[if n < k then .sl (R n) 0 M 1 else if n=k then .sl r 0 M 1 else .emp 1])
  row:∀ n,n < k→H (R n)=.arr 1 ((List.range M).map fun i=>[.sl (C n i) 0 M 1])
  cell:∀ n i,n < k→i < M→H (C n i)=.arr 1 (List.replicate M [gb false])
  inj:∀ n i n' i',n < k→i < M→n' < k→i' < M→C n i=C n' i'→n=n'∧i=i'
  ne:∀ n,n < k→I≠R n
  Iq:H r=.arr 1 ((List.range M).map fun j=>[if j < i then .sl (D j) 0 M 1 else .emp 1])
  yF:∀ j,j < i→H (D j)=.arr 1 (List.replicate M [gb false])
  Ix:∀ j j',j < i→j' < i→D j=D j'→j=j'
  xf:I≠r∧(∀ n,n < k→R n≠r)∧∀ n q j,n < k→q < M→j < i→C n q≠D j
theorem BU {M i:Nat} {F:Nat→List V} {v:List V} : ((List.range M).map F).set i v=(List.range M).map fun j=>if j=i then v else F j:=by
  apply List.ext_getElem (by simp)
  intro j h1 h2
  simp only[List.getElem_set,List.getElem_map,List.getElem_range]
  by_cases e:i=j
  · subst e; simp
  · rw[if_neg e,if_neg (Ne.symm e)]
theorem Iz.done {H:View} {I N M:Nat} {R:Nat→Nat} {C:Nat→Nat→Nat} (h:Iz H I N M N R C):mF H I N M R C (IQ N M):=by
  refine ⟨?_,h.row,fun n i hn hi=>?_,h.inj⟩
  · rw[h.top]
    congr 1
    apply List.map_congr_left
    intro n hn
    rw[if_pos (by simpa using hn)]
  · rw[h.cell n i hn hi]
    simp[IQ,List.getD_eq_getElem?_getD,hn,hi]
theorem zm.Jw {H:View} {I N M k:Nat} {R:Nat→Nat} {C:Nat→Nat→Nat} {r:Nat} {D:Nat→Nat} (h:zm H I N M k R C r M D):Iz H I N M (k+1) (fun n=>if n=k then r else R n) (fun n=>if n=k then D else C n):=by
  refine ⟨?_,fun n hn=>?_,fun n i hn hi=>?_,fun n i n' i' hn hi hn' hi' e=>?_,fun n hn=>?_⟩
  · rw[h.top]
    congr 1
    apply List.map_congr_left
    intro n _
    by_cases e1:n < k
    · rw[if_pos e1,if_pos (by omega),if_neg (by omega)]
    · by_cases e2:n=k
      · rw[if_neg e1,if_pos e2,if_pos (by omega),if_pos e2]
      · rw[if_neg e1,if_neg e2,if_neg (by omega)]
  · by_cases e:n=k
    · simp only[if_pos e]
      rw[h.Iq]
      congr 1
      apply List.map_congr_left
      intro i hi
      rw[if_pos (by simpa using hi)]
    · simp only[if_neg e]; exact h.row n (by omega)
  · by_cases e:n=k
    · simp only[if_pos e]; exact h.yF i hi
    · simp only[if_neg e]; exact h.cell n i (by omega) hi
  · by_cases e1:n=k
    · by_cases e2:n'=k
      · simp only[if_pos e1,if_pos e2] at e
        exact ⟨by omega,h.Ix i i' hi hi' e⟩
      · simp only[if_pos e1,if_neg e2] at e
        exact absurd e.symm (h.xf.2.2 n' i' i (by omega) hi' hi)
    · by_cases e2:n'=k
      · simp only[if_neg e1,if_pos e2] at e
        exact absurd e (h.xf.2.2 n i i' (by omega) hi hi')
      · simp only[if_neg e1,if_neg e2] at e
        exact h.inj n i n' i' (by omega) hi (by omega) hi' e
  · by_cases e:n=k
    · simp only[if_pos e]; exact h.xf.1
    · simp only[if_neg e]; exact h.ne n (by omega)
theorem zm.next {H H':View} {I N M k:Nat} {R:Nat→Nat} {C:Nat→Nat→Nat} {r i d:Nat} {D:Nat→Nat} (h:zm H I N M k R C r i D) (hN:0 < N) (hM:0 < M) (hd:H d=.dead)
    (hr':H' r=.arr 1 (((List.range M).map fun j=>[if j < i then V.sl (D j) 0 M 1 else .emp 1]).set i [.sl d 0 M 1])) (hd':H' d=.arr 1 (List.replicate M [gb false])) (ho:∀ id,H id≠.dead→id≠r→H' id=H id) :
    zm H' I N M k R C r (i+1) (fun j=>if j=i then d else D j):=by
  have live:∀ id,H id≠.dead→id≠d:=fun id hid e=>by subst e; exact hid hd
  have boolr:∀ id,H id=.arr 1 (List.replicate M [gb false])→id≠r:=fun id hid e=>by
    rw[e,h.Iq] at hid
    simp only[br.arr.injEq,true_and] at hid
    have:=congrArg (·[0]?) hid
    simp[hM] at this
    split at this <;> simp at this
  refine ⟨?_,fun n hn=>?_,fun n q hn hq=>?_,h.inj,h.ne,?_,fun j hj=>?_,fun j j' hj hj' e=>?_,⟨h.xf.1,h.xf.2.1,fun n q j hn hq hj=>?_⟩⟩
  · rw[ho I (by rw[h.top]; simp) h.xf.1]; exact h.top
  · rw[ho _ (by rw[h.row n hn]; simp) (h.xf.2.1 n hn)]; exact h.row n hn
  · have:=h.cell n q hn hq
    rw[ho _ (by rw[this]; simp) (boolr _ this)]; exact this
  · rw[hr',BU]
    congr 1
    apply List.map_congr_left
    intro j _
    by_cases e:j=i
    · rw[if_pos e,if_pos (by omega),if_pos e]
    · rw[if_neg e]
      by_cases e2:j < i
      · rw[if_pos e2,if_pos (by omega),if_neg e]
      · rw[if_neg e2,if_neg (by omega)]
  · by_cases e:j=i
    · simp only[if_pos e]; exact hd'
    · simp only[if_neg e]
      have:=h.yF j (by omega)
      rw[ho _ (by rw[this]; simp) (boolr _ this)]; exact this
  · by_cases e1:j=i
    · by_cases e2:j'=i
      · omega
      · simp only[if_pos e1,if_neg e2] at e
        exact absurd e.symm (live _ (by rw[h.yF j' (by omega)]; simp))
    · by_cases e2:j'=i
      · simp only[if_neg e1,if_pos e2] at e
        exact absurd e (live _ (by rw[h.yF j (by omega)]; simp))
      · simp only[if_neg e1,if_neg e2] at e
        exact h.Ix j j' (by omega) (by omega) e
  · by_cases e:j=i
    · simp only[if_pos e]; exact live _ (by rw[h.cell n q hn hq]; simp)
    · simp only[if_neg e]; exact h.xf.2.2 n q j hn hq (by omega)
structure rC.Ok (t:rC):Prop where
  bL:aJ t.bL
  gotos:aJ t.gotos
  row:∀ r∈t.bL,aJ r∧∀ c∈r,bw c.kind∧bw c.n
  go:∀ r∈t.gotos,aJ r∧∀ x∈r,bw x
structure bm where
  aZ:Int
  bQ:Int
  rules:Int
  az:Int
def mf:bm:=⟨(-1),0,0,0⟩
def eo:bm:=⟨0,0,0,0⟩
def bJ (P:List bm) (m:Nat):bm:=P.getD m mf
abbrev mA (x:Int):Nat:=(-1 - x).toNat
def ej (P:List bm):List Int→bm→bm × Bool
  | [],s=>(s,true)
  | x :: l,s=>if 0≤x then ej P l ⟨s.aZ,s.bQ,s.rules,min 1048576 (s.az+1)⟩
    else if (bJ P (mA x)).aZ < 0 then (s,false)
    else ej P l ⟨s.aZ,max s.bQ (bJ P (mA x)).bQ,min 1048576 (s.rules+(bJ P (mA x)).rules),min 1048576 (s.az+(bJ P (mA x)).az)⟩
def bX (P:List bm) (m:Nat):Prop:=0≤(bJ P m).aZ
def pJ (P:List bm) (l:List Int):Prop:=∀ x∈l,x < 0→bX P (mA x)
theorem oA (P:List bm):∀ (l:List Int) (s:bm),(ej P l s).2=true↔pJ P l
  | [],s=>by simp[ej,pJ]
  | x :: l,s=>by
    simp only[ej,pJ,List.mem_cons]
    by_cases h:0≤x
    · rw[if_pos h,oA P l]
      refine ⟨fun k y hy hn=>?_,fun k y hy=>k y (.inr hy)⟩
      rcases hy with rfl | hy
      · omega
      · exact k y hy hn
    · rw[if_neg h]
      by_cases h2:(bJ P (mA x)).aZ < 0
      · rw[if_pos h2]
        simp only[Bool.false_eq_true,false_iff]
        intro k
        have:=k x (.inl rfl) (by omega)
        unfold bX at this; omega
      · rw[if_neg h2,oA P l]
        refine ⟨fun k y hy hn=>?_,fun k y hy=>k y (.inr hy)⟩
        rcases hy with rfl | hy
        · unfold bX; omega
        · exact k y hy hn
theorem kG (P:List bm) (k:Int):∀ (l:List Int) (s:bm),pJ P l→((ej P l s).1.bQ≤k↔s.bQ≤k∧∀ x∈l,x < 0→(bJ P (mA x)).bQ≤k)
  | [],s,_=>by simp[ej]
  | x :: l,s,h=>by
    have hl:pJ P l:=fun y hy=>h y (by simp[hy])
    simp only[ej,List.mem_cons]
    by_cases h0:0≤x
    · rw[if_pos h0,kG P k l _ hl]
      refine ⟨fun ⟨a,b⟩=>⟨a,fun y hy hn=>?_⟩,fun ⟨a,b⟩=>⟨a,fun y hy=>b y (.inr hy)⟩⟩
      rcases hy with rfl | hy
      · omega
      · exact b y hy hn
    · have:=h x (by simp) (by omega)
      unfold bX at this
      rw[if_neg h0,if_neg (by omega),kG P k l _ hl]
      refine ⟨fun ⟨a,b⟩=>⟨by simp only at a; omega,fun y hy hn=>?_⟩,fun ⟨a,b⟩=>⟨by have:=b x (.inl rfl) (by omega); simp only; omega,fun y hy=>b y (.inr hy)⟩⟩
      rcases hy with rfl | hy
      · simp only at a; omega
      · exact b y hy hn
theorem q4 (P:List bm):∀ (l:List Int) (s:bm),s.bQ≤(ej P l s).1.bQ
  | [],s=>Int.le_refl _
  | x :: l,s=>by
    simp only[ej]
    split
    · exact q4 P l _
    · split
      · exact Int.le_refl _
      · have:=q4 P l ⟨s.aZ,max s.bQ (bJ P (mA x)).bQ,min 1048576 (s.rules+(bJ P (mA x)).rules),min 1048576 (s.az+(bJ P (mA x)).az)⟩
        simp only at this ⊢; omega
def kY (P:List bm) (i:Nat) (r:aE):bm:=⟨i,(ej P r.right eo).1.bQ+1,min 1048576 ((ej P r.right eo).1.rules+1),(ej P r.right eo).1.az⟩
def yC (P:List bm) (i:Nat) (N:List bm) (r:aE):List bm :=
  if 0≤(bJ N r.left.toNat).aZ then N else if (ej P r.right eo).2=true then N.set r.left.toNat (kY P i r) else N
def pE (P:List bm):Nat→List bm→List aE→List bm
  | _,N,[]=>N
  | i,N,r :: l=>pE P (i+1) (yC P i N r) l
def uI (rules:List aE) (P:List bm):List bm:=pE P 0 P rules
def jt (P:List bm) (m:Nat):Nat→List aE→Option bm
  | _,[]=>none
  | i,r :: l=>if r.left.toNat=m∧(ej P r.right eo).2=true then some (kY P i r) else jt P m (i+1) l
theorem Cq {N:List bm} {i m:Nat} {p:bm} (hm:m < N.length):bJ (N.set i p) m=if i=m then p else bJ N m:=by
  simp only[bJ,List.getD_eq_getElem?_getD,List.getElem?_set]
  split
  · rename_i e; subst e; simp[hm]
  · rfl
theorem xh (P:List bm) (i:Nat) (N:List bm) (r:aE):(yC P i N r).length=N.length:=by
  unfold yC; split; · rfl
  split <;> simp
theorem xU (P:List bm):∀ (l:List aE) (i:Nat) (N:List bm),(pE P i N l).length=N.length
  | [],_,_=>rfl
  | r :: l,i,N=>by rw[pE,xU P l,xh]
theorem AI (P:List bm) (m:Nat):∀ (l:List aE) (i:Nat) (N:List bm),m < N.length→bJ (pE P i N l) m=if 0≤(bJ N m).aZ then bJ N m else (jt P m i l).getD (bJ N m)
  | [],i,N,hm=>by simp[pE,jt]
  | r :: l,i,N,hm=>by
    rw[pE,AI P m l (i+1) _ (by rw[xh]; exact hm),jt]
    unfold yC
    by_cases h1:0≤(bJ N r.left.toNat).aZ
    · rw[if_pos h1]
      by_cases h2:r.left.toNat=m
      · subst h2
        rw[if_pos h1,if_pos h1]
      · rw[if_neg (c:=r.left.toNat=m∧_) (fun e=>h2 e.1)]
    · rw[if_neg h1]
      by_cases h3:(ej P r.right eo).2=true
      · rw[if_pos h3]
        by_cases h2:r.left.toNat=m
        · subst h2
          rw[Cq hm,if_pos rfl,if_neg h1,if_pos (show (0:Int)≤(kY P i r).aZ by simp only[kY]; omega),if_pos (c:=r.left.toNat=r.left.toNat∧_) (And.intro rfl h3)]
          rfl
        · rw[Cq hm,if_neg h2,if_neg (c:=r.left.toNat=m∧_) (fun e=>h2 e.1)]
      · rw[if_neg h3,if_neg (c:=r.left.toNat=m∧_) (fun e=>h3 e.2)]
theorem kH {P:List bm} {m:Nat} : ∀ {l:List aE} {i:Nat} {p:bm},jt P m i l=some p→∃ (j:Nat) (r:aE),l[j]?=some r∧r.left.toNat=m∧pJ P r.right∧p=kY P (i+j) r∧∀ (j':Nat) (r':aE),j' < j→l[j']?=some r'→r'.left.toNat=m→¬ pJ P r'.right
  | [],i,p,h=>by simp[jt] at h
  | r :: l,i,p,h=>by
    rw[jt] at h
    by_cases hc:r.left.toNat=m∧(ej P r.right eo).2=true
    · rw[if_pos hc] at h
      exact ⟨0,r,rfl,hc.1,(oA P _ _).1 hc.2,by simpa using h.symm,fun j' r' hj=>by omega⟩
    · rw[if_neg hc] at h
      obtain ⟨j,r2,a,b,c,d,e⟩:=kH h
      refine ⟨j+1,r2,by simpa using a,b,c,by rw[d]; congr 1; omega,fun j' r' hj hr hl hk=>?_⟩
      cases j' with
      | zero =>
        simp at hr; subst hr
        exact hc ⟨hl,(oA P _ _).2 hk⟩
      | succ j'=>exact e j' r' (by omega) (by simpa using hr) hl hk
theorem yf {P:List bm} {m:Nat} : ∀ {l:List aE} {i:Nat},jt P m i l=none→∀ r∈l,r.left.toNat=m→¬ pJ P r.right
  | [],i,h,r,hr,_,_=>by simp at hr
  | r :: l,i,h,r',hr,hl,hk=>by
    rw[jt] at h
    by_cases hc:r.left.toNat=m∧(ej P r.right eo).2=true
    · rw[if_pos hc] at h; simp at h
    · rw[if_neg hc] at h
      rcases List.mem_cons.1 hr with rfl | hr
      · exact hc ⟨hl,(oA P _ _).2 hk⟩
      · exact yf h r' hr hl hk
def aT (g:al) (k:Nat):List bm:=iter (uI g.rules) k (List.replicate g.ay.length mf)
theorem x3 {α:Type} (f:α→α):∀ (k:Nat) (x:α),iter f (k+1) x=f (iter f k x)
  | 0,x=>rfl
  | k+1,x=>by rw[iter,x3 f k,iter]
theorem uG (g:al) (k:Nat):aT g (k+1)=uI g.rules (aT g k):=x3 _ _ _
theorem jc (g:al):∀ k,(aT g k).length=g.ay.length
  | 0=>by simp[aT,iter]
  | k+1=>by rw[uG,uI,xU,jc g k]
theorem oK {P:List bm} {m:Nat} (h:P.length≤m):bJ P m=mf:=by simp[bJ,List.getD_eq_getElem?_getD,List.getElem?_eq_none h]
theorem FU {P:List bm} {m:Nat} (h:bX P m):m < P.length:=by
  rcases Nat.lt_or_ge m P.length with h1 | h1
  · exact h1
  · unfold bX at h; rw[oK h1] at h; simp[mf] at h
theorem mP (g:al) (k m:Nat):bJ (aT g (k+1)) m=if 0≤(bJ (aT g k) m).aZ then bJ (aT g k) m else if m < g.ay.length then (jt (aT g k) m 0 g.rules).getD (bJ (aT g k) m) else bJ (aT g k) m:=by
  by_cases hm:m < g.ay.length
  · rw[uG,uI,AI _ _ _ _ _ (by rw[jc]; exact hm),if_pos hm]
  · rw[if_neg hm,oK (by rw[jc]; omega),oK (by rw[jc]; omega)]
    simp
theorem Dh {g:al} {k m:Nat} (h:bX (aT g k) m):bJ (aT g (k+1)) m=bJ (aT g k) m:=by
  rw[mP]; unfold bX at h; rw[if_pos h]
theorem tb {g:al} {k m:Nat} (h:bX (aT g k) m):∀ d,bJ (aT g (k+d)) m=bJ (aT g k) m
  | 0=>rfl
  | d+1=>by
    have ih:=tb h d
    have:bX (aT g (k+d)) m:=by unfold bX at h ⊢; rw[ih]; exact h
    rw[← ih,← Dh this]; rfl
theorem jB {g:al} {k m j:Nat} (h:bX (aT g k) m) (hj:k≤j):bJ (aT g j) m=bJ (aT g k) m∧bX (aT g j) m:=by
  obtain ⟨d,rfl⟩:∃ d,j=k+d:=⟨j - k,by omega⟩
  have:=tb h d
  exact ⟨this,by unfold bX at h ⊢; rw[this]; exact h⟩
theorem xI {g:al} {k m:Nat} (h0:¬ bX (aT g k) m) (h:bX (aT g (k+1)) m):jt (aT g k) m 0 g.rules=some (bJ (aT g (k+1)) m):=by
  unfold bX at h h0
  rw[mP,if_neg h0] at h
  rw[mP,if_neg h0]
  split at h
  · rename_i hm
    rw[if_pos hm]
    cases hc:jt (aT g k) m 0 g.rules with
    | none=>rw[hc] at h; exact absurd h h0
    | some p=>rfl
  · exact absurd h h0
theorem pW {g:al} {m:Nat} : ∀ {k:Nat},¬ bX (aT g k) m→bJ (aT g k) m=mf
  | 0,_=>by
    simp only[aT,iter,bJ,List.getD_eq_getElem?_getD,List.getElem?_replicate]
    split <;> rfl
  | k+1,h=>by
    have h0:¬ bX (aT g k) m:=fun e=>h (jB e (by omega)).2
    unfold bX at h h0
    rw[mP,if_neg h0] at h ⊢
    split
    · rename_i hm
      rw[if_pos hm] at h
      cases hc:jt (aT g k) m 0 g.rules with
      | none=>exact pW (k:=k) h0
      | some p =>
        rw[hc] at h
        obtain ⟨j,r,_,_,_,rfl,_⟩:=kH hc
        simp only[Option.getD_some,kY] at h; omega
    · exact pW (k:=k) h0
theorem mr (g:al):∀ k:Nat,∀ m,bX (aT g k) m→1≤(bJ (aT g k) m).bQ∧(bJ (aT g k) m).bQ≤k∧∀ j:Nat,j≤k→(bJ (aT g k) m).bQ≤j→bX (aT g j) m
  | 0,m,h=>by
    unfold bX at h
    have:bJ (aT g 0) m=mf:=by
      simp only[aT,iter,bJ,List.getD_eq_getElem?_getD,List.getElem?_replicate]
      split <;> rfl
    rw[this] at h; simp[mf] at h
  | k+1,m,h=>by
    have ih:=mr g k
    by_cases h0:bX (aT g k) m
    · obtain ⟨a,b,c⟩:=ih m h0
      rw[(jB h0 (Nat.le_succ k)).1]
      refine ⟨a,by push_cast; omega,fun j hj hh=>?_⟩
      rcases Nat.lt_or_ge k j with e | e
      · exact (jB h0 (by omega)).2
      · exact c j e hh
    · have hc:=xI h0 h
      obtain ⟨i,r,hr,hl,hk,hp,_⟩:=kH hc
      have hh:(bJ (aT g (k+1)) m).bQ=(ej (aT g k) r.right eo).1.bQ+1:=by rw[hp]; rfl
      have h1:=q4 (aT g k) r.right eo
      have h2:=(kG (aT g k) k r.right eo hk).2 ⟨by simp[eo],fun x hx hn=>(ih _ (hk x hx hn)).2.1⟩
      have h3:¬ (ej (aT g k) r.right eo).1.bQ≤(k:Int) - 1:=by
        intro hle
        have hz:(0:Int)≤(ej (aT g k) r.right eo).1.bQ:=h1
        obtain ⟨d,rfl⟩:∃ d,k=d+1:=⟨k - 1,by omega⟩
        have h4:=((kG (aT g (d+1)) _ r.right eo hk).1 hle).2
        have h5:pJ (aT g d) r.right:=fun x hx hn=>(ih _ (hk x hx hn)).2.2 d (by omega) (by have:=h4 x hx hn; push_cast at this; omega)
        apply h0
        by_cases h6:bX (aT g d) m
        · exact (jB h6 (by omega)).2
        · unfold bX at h6 ⊢
          have hm:=FU h
          rw[jc] at hm
          rw[mP,if_neg h6,if_pos hm]
          cases hc2:jt (aT g d) m 0 g.rules with
          | none=>exact absurd h5 (yf hc2 r (List.mem_of_getElem? hr) hl)
          | some p =>
            obtain ⟨j,r2,_,_,_,rfl,_⟩:=kH hc2
            simp only[Option.getD_some,kY]; omega
      have hz:(0:Int)≤(ej (aT g k) r.right eo).1.bQ:=h1
      refine ⟨by omega,by push_cast; omega,fun j hj hle=>?_⟩
      have:j=k+1:=by omega
      subst this; exact h
def cM (g:al):List bm:=aT g g.ay.length
theorem rr (g:al):(cM g).length=g.ay.length:=jc _ _
theorem tt {g:al} {m:Nat} (h:bX (cM g) m):1≤(bJ (cM g) m).bQ∧(bJ (cM g) m).bQ≤g.ay.length:=⟨(mr g _ m h).1,(mr g _ m h).2.1⟩
theorem Av {g:al} {m:Nat} (h:¬ bX (cM g) m):bJ (cM g) m=mf:=pW h
def Ij (h:List Int) (m:Nat):Int:=h.getD m 0
abbrev II (P:List bm):List Int:=P.map bm.bQ
theorem Hu (P:List bm) (m:Nat):Ij (II P) m=(bJ P m).bQ:=by
  simp only[Ij,bJ,List.getD_eq_getElem?_getD,List.getElem?_map]
  cases P[m]? <;> rfl
def G3 (P:List bm):Prop:=∀ m,(bX P m→1≤(bJ P m).bQ)∧(¬ bX P m→bJ P m=mf)
theorem G3.zero {P:List bm} (h:G3 P) (m:Nat):Ij (II P) m=0↔¬ bX P m:=by
  rw[Hu]
  constructor
  · intro e k; have:=(h m).1 k; omega
  · intro k; rw[(h m).2 k]; rfl
def mJ (S:List (Int × Int)) (m:Nat):Int × Int:=S.getD m (0,0)
def rI (p:bm):Int × Int:=(min 1000 p.rules,min 1000 p.az)
def jm (p:bm):Prop:=(0≤p.rules∧p.rules≤1048576)∧(0≤p.az∧p.az≤1048576)
theorem tu {P:List bm} (hP:∀ m,jm (bJ P m)):∀ (l:List Int) (s:bm),jm s→jm (ej P l s).1
  | [],s,h=>h
  | x :: l,s,h=>by
    have hx:=hP (mA x)
    unfold jm at h hx
    simp only[ej]
    split
    · exact tu hP l _ (by unfold jm; simp only; omega)
    · split
      · exact h
      · exact tu hP l _ (by unfold jm; simp only; omega)
theorem F0:jm eo:=by unfold jm; simp[eo]
theorem EW:jm mf:=by unfold jm; simp[mf]
theorem q9 (g:al):∀ k m,jm (bJ (aT g k) m)
  | 0,m=>by
    have:bJ (aT g 0) m=mf:=by
      simp only[aT,iter,bJ,List.getD_eq_getElem?_getD,List.getElem?_replicate]
      split <;> rfl
    rw[this]; exact EW
  | k+1,m=>by
    by_cases h:bX (aT g (k+1)) m
    · by_cases h0:bX (aT g k) m
      · rw[(jB h0 (Nat.le_succ k)).1]; exact q9 g k m
      · obtain ⟨i,r,_,_,_,hp,_⟩:=kH (xI h0 h)
        rw[hp]
        have:=tu (q9 g k) r.right eo F0
        unfold jm at this ⊢
        simp only[kY]; omega
    · rw[pW h]; exact EW
inductive rQ (g:al):List Int→List Int→List Int→Prop
  | nil:rQ g [] [] []
  | term (s:Int) (l t w:List Int):0≤s→rQ g l t w→rQ g (s :: l) t (s :: w)
  | cX (s:Int) (l:List Int) (k:Nat) (R:aE) (t1 w1 t w:List Int):s < 0→g.rules[k]?=some R→R.left = -1 - s→rQ g R.right t1 w1→rQ g l t w→rQ g (s :: l) (((k:Int) :: t1) ++ t) (w1 ++ w)
theorem rQ.app {g:al} {a t w:List Int} (h:rQ g a t w) {b t' w':List Int} (k:rQ g b t' w'):rQ g (a ++ b) (t ++ t') (w ++ w'):=by
  induction h with
  | nil=>exact k
  | term s l t w h0 _ ih=>exact .term s _ _ _ h0 ih
  | cX s l k R t1 w1 t w h0 hR hl h1 _ _ ih =>
    have:=rQ.cX s _ k R t1 w1 _ _ h0 hR hl h1 ih
    simpa using this
structure Wk where
  rest:List Int
  word:List Int
  post:List Int
  high:Nat
structure Way where
  cX:Int
  aZ:Int
  place:Int
def iG (F:List Way):List Int:=F.map Way.cX
structure m3 (g:al) (F:List Way):Prop where
  first:F[0]?=some ⟨g.start,-1,0⟩
  nodup:(iG F).Nodup
  from_:∀ i x,F[i]?=some x→0 < i→∃ (k j:Nat) (R:aE),x.aZ=(k:Int)∧x.place=(j:Int)∧g.rules[k]?=some R∧R.right[j]?=some (-1 - x.cX)∧0≤x.cX∧∃ m y,m < i∧F[m]?=some y∧y.cX=R.left
theorem m3.pre {g:al} {F:List Way} (h:m3 g F) {i m:Nat} {x:Way} (hx:F[i]?=some x) (w:Way):(F ++ [w])[i]?=some x:=by
  rw[List.getElem?_append_left (List.getElem?_eq_some_iff.1 hx).1]; exact hx
theorem m3.inside {g:al} {F:List Way} (h:m3 g F) (h0:0≤g.start∧g.start < g.ay.length) (hs:∀ R∈g.rules,∀ s∈R.right,s < 0→-1 - s < g.ay.length):∀ n∈iG F,0≤n∧n < g.ay.length:=by
  intro n hn
  simp only[iG,List.mem_map] at hn
  obtain ⟨x,hx,rfl⟩:=hn
  obtain ⟨i,hi⟩:=List.mem_iff_getElem?.1 hx
  by_cases hi0:i=0
  · subst hi0
    rw[h.first] at hi
    simp at hi; subst hi
    exact h0
  · obtain ⟨k,j,R,_,_,h3,h4,h5,_⟩:=h.from_ i x hi (by omega)
    have:=hs R (List.mem_of_getElem? h3) _ (List.mem_of_getElem? h4) (by omega)
    omega
theorem m3.len {g:al} {F:List Way} (h:m3 g F) (h0:0≤g.start∧g.start < g.ay.length) (hs:∀ R∈g.rules,∀ s∈R.right,s < 0→-1 - s < g.ay.length):F.length≤g.ay.length:=by
  have:=lD h.nodup (h.inside h0 hs)
  simpa [iG] using this
def lookW (F:List Way) (n:Int):Option Way:=F.find? fun x=>x.cX == n
def y0 (F:List Way) (n:Int):Nat:=F.findIdx fun x=>x.cX == n
theorem Hv {F:List Way} {n:Int} (h:n∈iG F):∃ x,lookW F n=some x∧F[y0 F n]?=some x∧x.cX=n:=by
  induction F with
  | nil=>simp[iG] at h
  | cons y F ih =>
    by_cases e:y.cX=n
    · exact ⟨y,by simp[lookW,e],by simp[y0,List.findIdx_cons,e],e⟩
    · have h':n∈iG F:=by
        simp only[iG,List.map_cons,List.mem_cons] at h ⊢
        rcases h with h | h
        · exact absurd h.symm e
        · exact h
      obtain ⟨x,h1,h2,h3⟩:=ih h'
      refine ⟨x,by simpa [lookW,e] using h1,?_,h3⟩
      have:y0 (y :: F) n=y0 F n+1:=by simp[y0,List.findIdx_cons,show (y.cX == n)=false by simpa using e]
      rw[this]; simpa using h2
theorem Iv:np.Ok:=by
  refine ⟨by unfold aJ; decide,by unfold aJ; decide,by unfold aJ; decide,by unfold bw; decide,?_,?_⟩
  · intro t ht; simp[np] at ht
  · intro r hr; simp[np] at hr
theorem oW:∀ (l:List aE) (acc:List Int),(l.foldl c9 acc).length≤acc.length+l.length
  | [],acc=>by simp
  | r :: l,acc=>by
    have h1:=oW l (c9 acc r)
    have h2:(c9 acc r).length≤acc.length+1:=by unfold c9; split <;> simp
    simp only[List.foldl_cons,List.length_cons]
    omega
theorem FY (p q:List Bool) (l:List aE):(bW p q l).length≤l.length:=by
  have h1:=oW (l.filter (bj p q)) []
  have h2:=List.length_filter_le (bj p q) l
  unfold bW
  simp only[List.length_nil] at h1
  omega
theorem HJ {g:al} (hg:g.Ok) (p q:List Bool):(iM g (bk (bW p q g.rules)) p q).Ok:=by
  have ho:=FY p q g.rules
  have h3:=hg.rules
  unfold aJ at h3
  have hb:∀ x,bw (bk (bW p q g.rules) x):=fun x=>by
    have:=Ck (bW p q g.rules) x
    unfold bw; omega
  have hb2:∀ x,bw (-1 - bk (bW p q g.rules) x):=fun x=>by
    have:=Ck (bW p q g.rules) x
    unfold bw; omega
  refine ⟨hg.az,?_,?_,hb _,hg.term,fun r hr=>?_⟩
  · unfold aJ; simp only[iM,List.length_map]; omega
  · have:=List.length_filter_le (bj p q) g.rules
    unfold aJ; simp only[iM,List.length_map]; omega
  · simp only[iM,List.mem_map,List.mem_filter] at hr
    obtain ⟨r0,⟨h0,_⟩,rfl⟩:=hr
    obtain ⟨_,i2,i3,i4⟩:=hg.aZ r0 h0
    refine ⟨hb _,i2,by unfold aJ at i3 ⊢; simpa [bd] using i3,fun x hx=>?_⟩
    simp only[bd,List.mem_map] at hx
    obtain ⟨s,hs,rfl⟩:=hx
    split
    · exact hb2 _
    · exact i4 s hs
section
variable {g r:al} {p q:List Bool} {o:List Int}
theorem c7.ok (h:c7 g p q o r) (hg:g.Ok):r.Ok:=by
  have:=HJ hg p q
  rw[← h.oe,← h.re] at this
  exact this
theorem c7.small (h:c7 g p q o r) (hs:g.Small):r.Small:=by
  have:=lD h.nodup h.inside
  have:=hs.names
  exact ⟨by rw[h.len,h.az]; omega⟩
end
theorem bytes_beq (a b:ByteArray):(a == b)=decide (a=b):=by
  cases a with | mk a=>cases b with | mk b =>
  rw[Bool.eq_iff_iff]
  show (ByteArray.beq ⟨a⟩ ⟨b⟩=true)↔_
  simp only[ByteArray.beq]
  simp
theorem EO (a b:ByteArray):eX a b=decide (a=b):=by
  cases a with | mk a=>cases b with | mk b =>
  rw[Bool.eq_iff_iff]
  simp[eX]
theorem sM {α:Type} {a b:List α} {i:Nat} {x y:α} (hx:a[i]?=some x) (hy:b[i]?=some y) (h:a.take i=b.take i) (e:x=y):a.take (i+1)=b.take (i+1):=by
  rw[List.take_add_one,List.take_add_one,h,hx,hy,e]
theorem vo {α:Type} {a b:List α} {i:Nat} (ha:a.length≤i) (hb:b.length≤i) (h:a.take i=b.take i):a=b:=by
  rwa [List.take_of_length_le ha,List.take_of_length_le hb] at h
theorem yM {α:Type} {a b:List α} {i:Nat} {x y:α} (hx:a[i]?=some x) (hy:b[i]?=some y) (e:x≠y):a≠b:=by
  rintro rfl; rw[hx] at hy; exact e (by simpa using hy)
theorem vL {α:Type} {a b:List α} (h:¬ a.length=b.length):a≠b:=fun e=>h (by rw[e])
theorem AT (x y:Term):eJ Tryz.prog 9998 #[.string x.name,.int .i64 x.level,.int .i64 x.assoc] #[.string y.name,.int .i64 y.level,.int .i64 y.assoc]
    [{ name:= "Name",type:=9,offset:=0,embedded:=false,tag:= "",pkgPath:= "",byteOffset:=0 },{ name:= "Level",type:=3,offset:=1,embedded:=false,tag:= "",pkgPath:= "",byteOffset:=16 },
        { name:= "Assoc",type:=3,offset:=2,embedded:=false,tag:= "",pkgPath:= "",byteOffset:=24 }] (x.name == y.name && (x.level == y.level && (x.assoc == y.assoc && true))) :=
  .str _ _ _ _ _ (by decide) Tryz.underlying9 rfl rfl (.int _ _ _ _ _ _ (by decide) Tryz.underlying3 rfl rfl (.int _ _ _ _ _ _ (by decide) Tryz.underlying3 rfl rfl .nil))
theorem HF (x y:Term):(x.name == y.name && (x.level == y.level && (x.assoc == y.assoc && true)))=decide (x=y):=by
  rw[bytes_beq,Bool.eq_iff_iff]
  cases x; cases y
  simp
theorem HS (a b:Int):(a == b)=decide (a=b):=by rw[Bool.eq_iff_iff]; simp
theorem GP (x y:aE):decide (x=y)=(decide (x.left=y.left) && (decide (x.prec=y.prec) && decide (x.right=y.right))):=by
  cases x; cases y
  rw[Bool.eq_iff_iff]
  simp[and_comm]
theorem GY (x y:al):decide (x=y)=(decide (x.az=y.az) && (decide (x.ay=y.ay) && (decide (x.rules=y.rules) && decide (x.start=y.start)))):=by
  cases x; cases y
  rw[Bool.eq_iff_iff]
  simp
theorem EC (g k:al):∀ v∈[V.agg (aX g),V.agg (aX k)],Tree v:=by
  intro v hv; simp at hv
  rcases hv with rfl | rfl <;> exact fL _ (iT _)
end Gv
