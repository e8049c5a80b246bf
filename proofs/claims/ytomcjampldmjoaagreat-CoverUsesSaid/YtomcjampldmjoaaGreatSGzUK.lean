/-
  Part 11 of the proof: what the machine does and what the functions answer.
  Conditions: those that each lemma names.
-/
import Derived.Test.YtomcjampldmjoaaGreatSGzUJ
set_option linter.unusedSimpArgs false
set_option linter.unusedVariables false
set_option linter.unusedSimpArgs false
set_option maxRecDepth 100000
namespace Gv
open Go Go.Proofs
def pt:SC :=
  .seq (ak [aS 44 .lss 43 42]) <|
  .seq (.cond (.tmp 44) (.skip) (.exit 0)) <|
  .seq (.block 1 (.seq (ak [aa 45 43,bp 46 3 41 43,ba 47 3 46,((some 11),.op (.alloc [(.val (.int .i64 0)),(.emp 1),(.val (.int .i64 0))])),aa 10 45,(none,.op (.store 3 (.tmp 11) (.tmp 47)))]) <|
  .seq (.seq (.region false [⟨none,[aa 48 6,ao 49 0 11,aq 50 49,bp 51 1 48 50,aq 52 51,cq 53 52,aa 54 53]⟩,⟨(some (54,false)),[ba 55 3 11,aa 56 5,aK 57 163 [55,56],cq 58 57]⟩,⟨none,[bD 59 54 58]⟩]) <|
  .cond (.tmp 59) (.exit 1) (.skip)) <|
  .seq (ak [aa 60 7,aa 61 10,((some 62),.op (.bF 1 1 [(.val (.int .i64 0))] [(0,(.tmp 61))])),((some 63),.op (.app 1 8 (.tmp 60) (.tmp 62))),aa 7 63]) <|
  .seq (ak [aa 65 9,ao 66 0 11,aq 67 66,((some 68),.op (.bb (.lookup 230 (.tmp 65) (.tmp 67) true) 103)),aa 64 68,b7 69 0 64,b7 70 1 64,aa 12 69,aa 13 70]) <|
  .seq (ak [aa 71 13,cq 72 71]) <|
  .cond (.tmp 72) (.seq (ak [aa 73 9,ao 74 0 11,aq 75 74,ao 76 1 8,aq 77 76,aP 78 77,(none,.op (.bb (.mapUpdate 230 (.tmp 73) (.tmp 75) (.tmp 78)) 0))]) <|
  .region false [⟨none,[ao 79 1 8,aq 80 79,ao 81 1 1,aq 82 81,ao 83 0 11,aq 84 83,bp 85 1 82 84,aq 86 85,((some 87),.op (.bF 1 1 [(.val (.string ⟨#[]⟩))] [(0,(.tmp 86))])),((some 88),.op (.app 1 16 (.tmp 80) (.tmp 87))),ao 89 1 8,(none,.op (.store 1 (.tmp 89) (.tmp 88)))]⟩]) (.skip))) <|
  ak [aA 90 .add 43 1,aa 43 90]
def pA:SC :=
  .seq (ak [aS 116 .lss 115 114]) <|
  .seq (.cond (.tmp 116) (.skip) (.exit 4)) <|
  .seq (.block 5 (.seq (ak [aa 117 115,bp 118 1 113 115,aq 119 118,aa 18 117,aa 19 119]) <|
  .seq (ak [aa 120 19,aA 121 .lss 120 0]) <|
  .cond (.tmp 121) (ak [ao 122 1 17,aq 123 122,aa 124 18,aa 125 9,aa 126 19,((some 127),.op (.arith .sub (.val (.val (.int .i64 (-1)))) (.tmp 126))),((some 128),.op (.bb (.lookup 230 (.tmp 125) (.tmp 127) false) 3)),((some 129),.op (.arith .sub (.val (.val (.int .i64 (-1)))) (.tmp 128))),bp 130 1 123 124,(none,.op (.store 1 (.tmp 130) (.tmp 129)))]) (.skip))) <|
  ak [aA 131 .add 115 1,aa 115 131]
def pJ:SC :=
  .seq (ak [aS 94 .lss 93 92]) <|
  .seq (.cond (.tmp 94) (.skip) (.exit 2)) <|
  .seq (.block 3 (.seq (ak [bp 95 1 91 93,aq 96 95,aa 15 96]) <|
  .seq (ak [ao 97 2 1,aq 98 97,aa 99 15,bp 100 3 98 99,ba 101 3 100,((some 16),.op (.alloc [(.val (.int .i64 0)),(.emp 1),(.val (.int .i64 0))])),(none,.op (.store 3 (.tmp 16) (.tmp 101)))]) <|
  .seq (.region true [⟨none,[aa 102 9,ao 103 0 16,aq 104 103,((some 105),.op (.bb (.lookup 230 (.tmp 102) (.tmp 104) false) 3)),ao 106 1 16,aq 107 106,aK 108 164 [107],ao 109 2 16,aq 110 109,((some 111),.op (.build [(.val (.int .i64 0)),(.emp 1),(.val (.int .i64 0))] [(0,1,(.tmp 105)),(1,1,(.tmp 108)),(2,1,(.tmp 110))])),((some 17),.op (.alloc [(.val (.int .i64 0)),(.emp 1),(.val (.int .i64 0))])),(none,.op (.store 3 (.tmp 17) (.tmp 111)))]⟩]) <|
  .seq (.seq (ak [ao 112 1 17,aq 113 112,aP 114 113,aI 115 0]) <|
  .block 4 (.loop pA)) <|
  ak [ao 132 2 8,aq 133 132,ba 134 3 17,((some 135),.op (.bF 1 3 [(.val (.int .i64 0)),(.emp 1),(.val (.int .i64 0))] [(0,(.tmp 134))])),((some 136),.op (.app 3 40 (.tmp 133) (.tmp 135))),ao 137 2 8,(none,.op (.store 1 (.tmp 137) (.tmp 136)))])) <|
  ak [aA 138 .add 93 1,aa 93 138]
def te:SF:=⟨.seq (ak [c9 1 0,((some 2),.op (.alloc [(.emp 1),(.emp 1),(.emp 1),(.val (.int .i64 0))])),((some 3),.op (.bd (.val (.emp 1)))),aI 4 0]) <|
  .seq (.seq (ak [ba 20 4 1,aK 21 45 [20],cq 22 21]) <|
  .cond (.tmp 22) (.seq (ak [((some 23),.op (.build [(.emp 1),(.emp 1),(.emp 1),(.val (.int .i64 0))] [])),(none,.op (.store 4 (.tmp 2) (.tmp 23))),((some 3),.op (.bd (.val (.emp 1)))),aI 4 1]) <|
  .ret) (.skip)) <|
  .seq (.region true [⟨none,[ba 24 4 1,aK 25 160 [24],ba 26 4 1,aK 27 161 [26],aa 5 25,aa 6 27]⟩]) <|
  .seq (.seq (ak [aa 28 5,ao 29 3 1,aq 30 29,bp 31 1 28 30,aq 32 31,cq 33 32]) <|
  .cond (.tmp 33) (.seq (ak [((some 34),.op (.build [(.emp 1),(.emp 1),(.emp 1),(.val (.int .i64 0))] [])),(none,.op (.store 4 (.tmp 2) (.tmp 34))),((some 3),.op (.bd (.val (.emp 1)))),aI 4 9]) <|
  .ret) (.skip)) <|
  .seq (ak [((some 7),.op (.bd (.val (.emp 1))))]) <|
  .seq (ak [ao 35 0 1,aq 36 35,aK 37 162 [36],((some 38),.op (.build [(.emp 1),(.emp 1),(.emp 1),(.val (.int .i64 0))] [(0,1,(.tmp 37))])),((some 8),.op (.alloc [(.emp 1),(.emp 1),(.emp 1),(.val (.int .i64 0))])),(none,.op (.store 4 (.tmp 8) (.tmp 38)))]) <|
  .seq (ak [((some 39),.op (.pR)),aa 9 39]) <|
  .seq (.seq (ak [ao 40 2 1,aq 41 40,aP 42 41,aI 43 0]) <|
  .block 0 (.loop pt)) <|
  .seq (.seq (ak [aa 91 7,aP 92 91,aI 93 0]) <|
  .block 2 (.loop pJ)) <|
  .seq (ak [aa 139 9,ao 140 3 1,aq 141 140,((some 142),.op (.bb (.lookup 230 (.tmp 139) (.tmp 141) false) 3)),ao 143 3 8,(none,.op (.store 1 (.tmp 143) (.tmp 142)))]) <|
  .seq (ak [ba 144 4 8,aa 145 7,(none,.op (.store 4 (.tmp 2) (.tmp 144))),aa 3 145,aI 4 0]) <|
  .ret,
  [.cell 2 (some 4),.tmp 3,.tmp 4],146⟩
theorem wv:aV Tryz.prog 107 [1]=some te:=by kernel_rfl
abbrev uC (m:c4 Int):List (V × V × Nat):=cF (Value.int .i64) m
def LJ (g:al) (p q:List Bool) (b2 b8 b9:Nat) (u0:V) (i:Nat) (T:Env) (H:View):Prop :=
  (∃ u1 u3:V,T 7=u3∧(∀ x∈cb p q (g.rules.take i),0≤x∧x < g.aw.length)∧(cb p q (g.rules.take i)).length≤i ∧
    bE H [(.sl b8 0 1 4,4,[[u0,u1,.emp 1,gi 0]]),(u3,1,bY (cP p q (g.rules.take i) 0)),
      (u1,1,p9 ((cb p q (g.rules.take i)).map fun x=>g.aw.getD x.toNat ⟨#[]⟩)),(u0,3,g.ay.map cz),(.sl b2 0 1 4,4,[[.emp 1,.emp 1,.emp 1,gi 0]])] ∧
    ∃ m c,H b9=.map (uC m) c∧kN gi (gJ (cb p q (g.rules.take i)) 0) m) ∧
  T 1=.aR (av g) 0∧T 2=.ptr b2 0 0∧T 5=bS p∧T 6=bS q∧T 8=.ptr b8 0 0∧T 9=.mp b9∧T 41=.aN (g.rules.map bf)∧T 42=gi g.rules.length∧T 43=gi i
theorem y3 {α:Type} {x s:α} : ∀ {a d:List α} {k:Nat},a.length=k→(a ++ s :: d).set k x=a ++ x :: d
  | [],d,k,h=>by simp at h; subst h; rfl
  | y :: a,d,k,h=>by
    cases k with
    | zero=>simp at h
    | succ k=>simp only[List.cons_append,List.set_cons_succ]; rw[y3 (by simpa using h)]
def MQ (g:al) (p q:List Bool) (b2 b8 b9:Nat) (u0 u1 u3:V) (o kl:List Int) (mm:c4 Int) (cc:Nat) (i:Nat) (T:Env) (H:View):Prop :=
  (∃ (u2:V) (bs:xn),bs.map (·.2)=((g.rules.filter (bI p q)).take i).map (bA (cT o)) ∧
    bE H ((.sl b8 0 1 4,4,[[u0,u1,u2,gi 0]]) :: (u3,1,bY kl) ::
      (u1,1,p9 (o.map fun x=>g.aw.getD x.toNat ⟨#[]⟩)) :: (u0,3,g.ay.map cz) :: (u2,3,iA bs) :: (.sl b2 0 1 4,4,[[.emp 1,.emp 1,.emp 1,gi 0]]) :: qY bs) ∧
    H b9=.map (uC mm) cc) ∧
  T 1=.aR (av g) 0∧T 2=.ptr b2 0 0∧T 7=u3∧T 8=.ptr b8 0 0∧T 9=.mp b9∧T 91=u3∧T 92=gi kl.length∧T 93=gi i
def MR (g:al) (b2 b8 b9 b16 b17:Nat) (u3 v:V) (o kl:List Int) (mm:c4 Int) (cc:Nat) (r:aJ) (L:List fw) (i k:Nat) (T:Env) (H:View):Prop :=
  bE H ((.sl b17 0 1 3,3,[[gi (cT o r.left),v,gi r.prec]]) :: (v,1,bY ((bA (cT o) r).right.take k ++ r.right.drop k)) :: (.sl b16 0 1 3,3,[bf r]) :: L) ∧
  H b9=.map (uC mm) cc∧T 1=.aR (av g) 0∧T 2=.ptr b2 0 0∧T 7=u3∧T 8=.ptr b8 0 0∧T 9=.mp b9∧T 91=u3∧T 92=gi kl.length∧T 93=gi i∧T 17=.ptr b17 0 0∧T 113=v∧T 114=gi r.right.length∧T 115=gi k
set_option maxHeartbeats 8000000 in
theorem Dm (g:al) (hg:g.Ok) (hs:g.Small):cw Tryz.prog 107 [.agg (av g)] (yN (if bm g=true then
    if (aG g true).getD g.start.toNat false=true then (iO g (cT (cb (aG g true) (bw g) g.rules)) (aG g true) (bw g),cP (aG g true) (bw g) g.rules 0,0)
    else (oO,[],9)
  else (oO,[],1))):=by
  refine cw.of (fY g) ?_
  refine aB.of mixed wv ?_
  simp (disch:=omega) only [↓wr,↓reduceIte,wq,ah,ag,aj,ab,ae,af,ai,isNil,Nat.reduceEqDiff,Nat.reduceAdd,Nat.reduceLT,Nat.reduceLeDiff,Int.reduceNeg,Int.reduceToNat,reduceCtorEq,te,av,encS]
  intro b2
  try simp (disch:=omega) only [↓wr,↓reduceIte,wq,ah,ag,aj,ab,ae,af,ai,isNil,Nat.reduceEqDiff,Nat.reduceAdd,Nat.reduceLT,Nat.reduceLeDiff,Int.reduceNeg,Int.reduceToNat,reduceCtorEq,av,encS]
  refine aF.pure (kq g hg hs.names) (by kernel_rfl) ?_
  repeat' (first | (refine an.dec (fun _=>?_) (fun _=>?_)) | (refine an.eq (fun _=>?_) (fun _=>?_)) | (refine an.ne (fun _=>?_) (fun _=>?_)) | (refine an.split (fun _=>?_) (fun _=>?_)) | (simp (disch:=omega) only [↓wr,↓reduceIte,wq,ah,ag,aj,ab,ae,af,ai,isNil,Nat.reduceEqDiff,Nat.reduceAdd,Nat.reduceLT,Nat.reduceLeDiff,Int.reduceNeg,Int.reduceToNat,reduceCtorEq,av,encS,set_set]))
  · rename_i hr
    rw[if_pos hr]
    refine aF.pure (q4 g hg hs).pure (by kernel_rfl) ?_
    simp (disch:=omega) only [↓wr,↓reduceIte,wq,ah,ag,aj,ab,ae,af,ai,isNil,Nat.reduceEqDiff,Nat.reduceAdd,Nat.reduceLT,Nat.reduceLeDiff,Int.reduceNeg,Int.reduceToNat,reduceCtorEq,av,encS]
    refine aF.pure (AW g hg hs).pure (by kernel_rfl) ?_
    have hf:=bg hr
    have h3:=hf.gV
    have h4:=hf.start
    have hpl:=mB hr true
    have hql:=qc hr
    generalize aG g true=p at hpl ⊢
    generalize bw g=q at hql ⊢
    have hps:p[g.start.toNat]?=some (p[g.start.toNat]'(by omega)):=List.getElem?_eq_getElem (by omega)
    have hpd:p.getD g.start.toNat false=p[g.start.toNat]'(by omega):=by simp[List.getD_eq_getElem?_getD,hps]
    generalize p[g.start.toNat]'(by omega)=s at hps hpd
    rw[hpd]
    simp (disch:=omega) only [↓wr,↓reduceIte,wq,ah,ag,aj,ab,ae,af,ai,isNil,Nat.reduceEqDiff,Nat.reduceAdd,Nat.reduceLT,Nat.reduceLeDiff,Int.reduceNeg,Int.reduceToNat,reduceCtorEq,av,encS,bS,List.getElem?_map,hps]
    cases s with
    | false =>
      simp (disch:=omega) only [↓wr,↓reduceIte,wq,ah,ag,aj,ab,ae,af,ai,isNil,Nat.reduceEqDiff,Nat.reduceAdd,Nat.reduceLT,Nat.reduceLeDiff,Int.reduceNeg,Int.reduceToNat,reduceCtorEq,av,encS,set_set]
      rintro h' hh
      exact Bi
    | true =>
      simp (disch:=omega) only [↓wr,↓reduceIte,wq,ah,ag,aj,ab,ae,af,ai,isNil,Nat.reduceEqDiff,Nat.reduceAdd,Nat.reduceLT,Nat.reduceLeDiff,Int.reduceNeg,Int.reduceToNat,reduceCtorEq,av,encS,set_set]
      have hN:=hf.aw
      have hN1:=hf.xm
      have hT:=hf.ay
      have hR:=hf.rules
      refine aF.gQ ((GY g.ay (by omega) _).mono ?_)
      rintro u0 H1 ⟨hu0,hfr⟩
      have ho1:=(bE.nil.new (H:=fun _=>bO.dead) (n:=b2) rfl 4 [[.emp 1,.emp 1,.emp 1,gi 0]]).Ma hu0 hfr
      have c0:=ho1.head.cells
      have k0:=ho1.head.oz
      simp (disch:=omega) only [↓wr,↓reduceIte,wq,ah,ag,aj,ab,ae,af,ai,isNil,Nat.reduceEqDiff,Nat.reduceAdd,Nat.reduceLT,Nat.reduceLeDiff,Int.reduceNeg,Int.reduceToNat,reduceCtorEq,av,encS,c0,k0]
      intro b8 hb8
      have ho2:=ho1.new hb8 4 [[u0,.emp 1,.emp 1,gi 0]]
      try simp (disch:=omega) only [↓wr,↓reduceIte,wq,ah,ag,aj,ab,ae,af,ai,isNil,Nat.reduceEqDiff,Nat.reduceAdd,Nat.reduceLT,Nat.reduceLeDiff,Int.reduceNeg,Int.reduceToNat,reduceCtorEq,av,encS,c0,k0,set_set]
      intro b9 hb9
      have hb98:=(dm hb9 dq).1
      have hb9:=(dm (dm hb9 dq).2 dq).2
      have ho3:=(((ho2.fresh (n:=b9) (o:=.map [] 0) (by simp only[View.set,if_neg hb98]; exact hb9)).emp (k:=1) (sz:=1)).emp (k:=1) (sz:=1)).perm LQ.symm
      try simp (disch:=omega) only [↓wr,↓reduceIte,wq,ah,ag,aj,ab,ae,af,ai,isNil,Nat.reduceEqDiff,Nat.reduceAdd,Nat.reduceLT,Nat.reduceLeDiff,Int.reduceNeg,Int.reduceToNat,reduceCtorEq,av,encS,c0,k0,set_set]
      refine bz.up g.rules.length (LJ g p q b2 b8 b9 u0) ?_ ?_
      · refine ⟨⟨.emp 1,.emp 1,rfl,by simp[cb],by simp[cb],by rw[set_set]; exact ho3,[],0,by simp[View.set,cF],trivial⟩,rfl,rfl,rfl,rfl,rfl,rfl,rfl,rfl,rfl⟩
      clear ho1 ho2 ho3 hb8 hb9 hb98
      rintro i k T H2 hk ⟨⟨u1,u3,t7,hin,holen,ho,mm,cc,h9,hm9⟩,t1,t2,t5,t6,t8,t9,t41,t42,t43⟩
      simp (disch:=omega) only [↓wr,↓reduceIte,wq,ah,ag,aj,ab,ae,af,ai,isNil,Nat.reduceEqDiff,Nat.reduceAdd,Nat.reduceLT,Nat.reduceLeDiff,Int.reduceNeg,Int.reduceToNat,reduceCtorEq,pt,t1,t2,t5,t6,t7,t8,t9,t41,t42,t43,av]
      refine an.dec (fun hc=>?_) (fun hc=>?_)
      · have hg2:g.rules[i]?=some (g.rules[i]'(by omega)):=List.getElem?_eq_getElem (by omega)
        have hmem:g.rules[i]'(by omega)∈g.rules:=List.getElem_mem _
        have htk:g.rules.take (i+1)=g.rules.take i ++ [g.rules[i]'(by omega)]:=by rw[List.take_add_one,hg2]; rfl
        generalize g.rules[i]'(by omega)=r at hg2 hmem htk
        obtain ⟨hl1,hl2,hl3,hr6,hsy⟩:=hf.xZ hg hmem
        have hqs:q[r.left.toNat]?=some (q[r.left.toNat]'(by omega)):=List.getElem?_eq_getElem (by omega)
        have hqd:q.getD r.left.toNat false=q[r.left.toNat]'(by omega):=by simp[List.getD_eq_getElem?_getD,hqs]
        generalize q[r.left.toNat]'(by omega)=qs at hqs hqd
        simp (disch:=omega) only [↓wr,↓reduceIte,wq,ah,ag,aj,ab,ae,af,ai,isNil,Nat.reduceEqDiff,Nat.reduceAdd,Nat.reduceLT,Nat.reduceLeDiff,Int.reduceNeg,Int.reduceToNat,reduceCtorEq,t1,t2,t5,t6,t7,t8,t9,t41,t42,t43,bf,encI,List.getElem?_map,hg2]
        intro b11 hb11
        have hoA:=ho.new hb11 3 [bf r]
        have n911:b9≠b11:=by rintro rfl; rw[h9] at hb11; simp at hb11
        try simp (disch:=omega) only [↓wr,↓reduceIte,wq,ah,ag,aj,ab,ae,af,ai,isNil,Nat.reduceEqDiff,Nat.reduceAdd,Nat.reduceLT,Nat.reduceLeDiff,Int.reduceNeg,Int.reduceToNat,reduceCtorEq,t1,t2,t5,t6,t7,t8,t9,t41,t42,t43,bf,encI,bS,List.getElem?_map,hqs,set_set]
        have hskip:∀ (T2:Env) (H':View),bI p q r=false→H'=H2.set b11 (.arr 3 [bf r])→T2 7=u3→T2 1=.aR (av g) 0→T2 2=.ptr b2 0 0→T2 5=bS p→T2 6=bS q→T2 8=.ptr b8 0 0→T2 9=.mp b9→T2 41=.aN (g.rules.map bf)→T2 42=gi g.rules.length→T2 43=gi ((i:Int)+1) →
            ∃ k',k' < k∧Ek g.rules.length k' (LJ g p q b2 b8 b9 u0) T2 H':=by
          intro T2 H' hkr hH' a7 a1 a2 a5 a6 a8 a9 a41 a42 a43
          have e1:cb p q (g.rules.take (i+1))=cb p q (g.rules.take i):=by rw[htk,zq,if_neg (by simp[hkr])]
          have e2:cP p q (g.rules.take (i+1)) 0=cP p q (g.rules.take i) 0:=by rw[htk,oS]; simp[cP,hkr]
          refine aT hk (by omega) ⟨⟨u1,u3,a7,by rw[e1]; exact hin,by rw[e1]; omega,by rw[e1,e2,hH']; exact hoA.tail,mm,cc,by rw[hH']; simp[View.set,n911,h9],by rw[e1]; exact hm9⟩,a1,a2,a5,a6,a8,a9,a41,a42,by rw[a43]; rfl⟩
        cases qs with
        | false =>
          simp (disch:=omega) only [↓wr,↓reduceIte,wq,ah,ag,aj,ab,ae,af,ai,isNil,Nat.reduceEqDiff,Nat.reduceAdd,Nat.reduceLT,Nat.reduceLeDiff,Int.reduceNeg,Int.reduceToNat,reduceCtorEq,t1,t2,t5,t6,t7,t8,t9,t41,t42,t43]
          refine hskip _ _ (by rw[bI,hqd]; rfl) ?_ ?_ ?_ ?_ ?_ ?_ ?_ ?_ ?_ ?_ ?_
          all_goals first | exact t7 | exact t1 | exact t2 | exact t5 | exact t6 | exact t8 | exact t9 | exact t41 | exact t42 | rfl | (rw[set_set]; rfl)
        | true =>
          simp (disch:=omega) only [↓wr,↓reduceIte,wq,ah,ag,aj,ab,ae,af,ai,isNil,Nat.reduceEqDiff,Nat.reduceAdd,Nat.reduceLT,Nat.reduceLeDiff,Int.reduceNeg,Int.reduceToNat,reduceCtorEq,t1,t2,t5,t6,t7,t8,t9,t41,t42,t43,bf,encI,bS]
          refine aF.pure (uZ r p (hg.bc r hmem).2.2.1 (fun s hs'=>⟨(hsy s hs').1,fun h=>by rw[hpl]; exact (hsy s hs').2 h⟩)) (by kernel_rfl) ?_
          simp (disch:=omega) only [↓wr,↓reduceIte,wq,ah,ag,aj,ab,ae,af,ai,isNil,Nat.reduceEqDiff,Nat.reduceAdd,Nat.reduceLT,Nat.reduceLeDiff,Int.reduceNeg,Int.reduceToNat,reduceCtorEq,t1,t2,t5,t6,t7,t8,t9,t41,t42,t43]
          refine an.split (fun hal=>?_) (fun hal=>?_)
          · simp (disch:=omega) only [↓wr,↓reduceIte,wq,ah,ag,aj,ab,ae,af,ai,isNil,Nat.reduceEqDiff,Nat.reduceAdd,Nat.reduceLT,Nat.reduceLeDiff,Int.reduceNeg,Int.reduceToNat,reduceCtorEq,t1,t2,t5,t6,t7,t8,t9,t41,t42,t43]
            have hkr:bI p q r=true:=by rw[bI,hqd,hal]; rfl
            intro m hm
            try simp (disch:=omega) only [↓wr,↓reduceIte,wq,ah,ag,aj,ab,ae,af,ai,isNil,Nat.reduceEqDiff,Nat.reduceAdd,Nat.reduceLT,Nat.reduceLeDiff,Int.reduceNeg,Int.reduceToNat,reduceCtorEq,t1,t2,t5,t6,t7,t8,t9,t41,t42,t43,dh]
            have hm11:=(dm hm dq).1
            have hm:=(dm (dm hm dq).2 dq).2
            have hoB:=(hoA.fresh (n:=m) (o:=.arr 1 [[gi i]]) (by simp only[View.set,if_neg hm11]; exact hm)).at 2 (by simp)
            have n9m:b9≠m:=by rintro rfl; rw[h9] at hm; simp at hm
            have hkl:(cP p q (g.rules.take i) 0).length≤40:=by
              rw[p7]
              have h1:=List.length_filter_le (bI p q) (g.rules.take i)
              have h2:(g.rules.take i).length≤i:=List.length_take_le _ _
              omega
            refine fF (by rw[set_set]; exact hoB) (by simp[aM]) (by unfold aL; simp at hkl ⊢; omega) (by unfold aL; simp at hkl ⊢; omega) ?_
            intro u3' H3 ho3 hleft
            have f11:=ho3.is 1 rfl (by simp)
            have f8:=ho3.is 2 rfl (by simp)
            have hleft':Left ((H2.set b11 (.arr 3 [bf r])).set m (.arr 1 [[gi i]])) H3 u3 u3':=by rw[set_set] at hleft; exact hleft
            have f9:H3 b9=.map (uC mm) cc:=hleft'.map (b:=b9) hoB.head (by simp[View.set,n911,n9m,h9])
            have hu1:dC u1=some (p9 ((cb p q (g.rules.take i)).map fun x=>g.aw.getD x.toNat ⟨#[]⟩)).length:=(ho3.own 3 rfl).len
            simp only[bf,encI] at f11
            have e2:cP p q (g.rules.take (i+1)) 0=cP p q (g.rules.take i) 0 ++ [(i:Int)]:=by
              rw[htk,oS]; simp[cP,hkr,show i≤g.rules.length by omega]
            have e1:cb p q (g.rules.take (i+1))=dn (cb p q (g.rules.take i)) r:=by rw[htk,zq,if_pos hkr]
            generalize cb p q (g.rules.take i)=o at *
            generalize cP p q (g.rules.take i) 0=kl at *
            simp (disch:=omega) only [↓wr,↓reduceIte,wq,ah,ag,aj,ab,ae,af,ai,isNil,Nat.reduceEqDiff,Nat.reduceAdd,Nat.reduceLT,Nat.reduceLeDiff,Int.reduceNeg,Int.reduceToNat,reduceCtorEq,t1,t2,t5,t6,t8,t9,t41,t42,t43,f11,f8]
            refine Ko (kt:=3) (et:=3) (z:=gi 0) (by kernel_rfl) (by kernel_rfl) (gu .i64 Tryz.underlying3) (id:=b9) (c:=cc) (m:=mm) (k:=r.left) (by simp (disch:=omega) only [↓wr,↓reduceIte,wq,ah,ag,aj,ab,ae,af,ai,isNil,Nat.reduceEqDiff,Nat.reduceAdd,Nat.reduceLT,Nat.reduceLeDiff,Int.reduceNeg,Int.reduceToNat,reduceCtorEq,t9]) (by simp (disch:=omega) only [↓wr,↓reduceIte,wq,ah,ag,aj,ab,ae,af,ai,isNil,Nat.reduceEqDiff,Nat.reduceAdd,Nat.reduceLT,Nat.reduceLeDiff,Int.reduceNeg,Int.reduceToNat,reduceCtorEq]) f9 ?_
            rw[hm9.get,pk]
            have hob:o.length≤40:=by omega
            by_cases hx:r.left∈o
            · have e1':dn o r=o:=by rw[dn,if_pos hx]
              rw[if_pos hx]
              simp (disch:=omega) only [↓wr,↓reduceIte,wq,ah,ag,aj,ab,ae,af,ai,isNil,Nat.reduceEqDiff,Nat.reduceAdd,Nat.reduceLT,Nat.reduceLeDiff,Int.reduceNeg,Int.reduceToNat,reduceCtorEq,t1,t2,t5,t6,t8,t9,t41,t42,t43,Option.isSome_some]
              have ho4:=(((ho3.at 1 (by simp)).tail).perm (.swap _ _ _))
              refine aT hk (by omega) ⟨⟨u1,u3',rfl,by rw[e1,e1']; exact hin,by rw[e1,e1']; omega,?_,mm,cc,f9,by rw[e1,e1']; exact hm9⟩,t1,t2,t5,t6,t8,t9,t41,t42,rfl⟩
              rw[e1,e1',e2]
              simp only[List.map_append,List.map_cons,List.map_nil]
              exact ho4
            · have e1':dn o r=o ++ [r.left]:=by rw[dn,if_neg hx]
              rw[if_neg hx]
              have hgn:g.aw[r.left.toNat]?=some (g.aw[r.left.toNat]'(by omega)):=List.getElem?_eq_getElem (by omega)
              have hgnd:g.aw.getD r.left.toNat ⟨#[]⟩=g.aw[r.left.toNat]'(by omega):=by simp[List.getD_eq_getElem?_getD,hgn]
              generalize g.aw[r.left.toNat]'(by omega)=nm at hgn hgnd
              simp (disch:=omega) only [↓wr,↓reduceIte,wq,ah,ag,aj,ab,ae,af,ai,isNil,Nat.reduceEqDiff,Nat.reduceAdd,Nat.reduceLT,Nat.reduceLeDiff,Int.reduceNeg,Int.reduceToNat,reduceCtorEq,t1,t2,t5,t6,t8,t9,t41,t42,t43,Option.isSome_none,f11,f8,hu1,List.length_map]
              refine tH (kt:=3) (et:=3) (by kernel_rfl) (gu .i64 Tryz.underlying3) (id:=b9) (c:=cc) (m:=mm) (k:=r.left) (v:=gi o.length) (by simp (disch:=omega) only [↓wr,↓reduceIte,wq,ah,ag,aj,ab,ae,af,ai,isNil,Nat.reduceEqDiff,Nat.reduceAdd,Nat.reduceLT,Nat.reduceLeDiff,Int.reduceNeg,Int.reduceToNat,reduceCtorEq,t9]) (by simp (disch:=omega) only [↓wr,↓reduceIte,wq,ah,ag,aj,ab,ae,af,ai,isNil,Nat.reduceEqDiff,Nat.reduceAdd,Nat.reduceLT,Nat.reduceLeDiff,Int.reduceNeg,Int.reduceToNat,reduceCtorEq]) (by simp (disch:=omega) only [↓wr,↓reduceIte,wq,ah,ag,aj,ab,ae,af,ai,isNil,Nat.reduceEqDiff,Nat.reduceAdd,Nat.reduceLT,Nat.reduceLeDiff,Int.reduceNeg,Int.reduceToNat,reduceCtorEq]) f9 ?_
              intro c'
              have n89:b8≠b9:=xT ho3 2 rfl f9
              have n119:b11≠b9:=xT ho3 1 rfl f9
              simp (disch:=omega) only [↓wr,↓reduceIte,wq,ah,ag,aj,ab,ae,af,ai,isNil,Nat.reduceEqDiff,Nat.reduceAdd,Nat.reduceLT,Nat.reduceLeDiff,Int.reduceNeg,Int.reduceToNat,reduceCtorEq,t1,t2,t5,t6,t8,t9,t41,t42,t43,f11,f8,n89,n119,av,encS,List.getElem?_map,hgn]
              intro m2 hm2
              have hm29:=(dm hm2 (by simp)).1
              have hm2:=(dm hm2 (by simp)).2
              have ho5:=((ho3.ug f9 (o:=.map (uC (cA r.left (gi o.length) cc mm)) c')).fresh (n:=m2) (o:=.arr 1 [[gs nm]]) (by simp only[View.set,if_neg hm29]; exact hm2)).at 3 (by simp)
              try simp (disch:=omega) only [↓wr,↓reduceIte,wq,ah,ag,aj,ab,ae,af,ai,isNil,Nat.reduceEqDiff,Nat.reduceAdd,Nat.reduceLT,Nat.reduceLeDiff,Int.reduceNeg,Int.reduceToNat,reduceCtorEq,t1,t2,t5,t6,t8,t9,t41,t42,t43,dh]
              refine fF ho5 (by simp[aM]) (by unfold aL; simp; omega) (by unfold aL; simp; omega) ?_
              intro u1' H5 ho6 hleft2
              have c1:=ho6.head.cells
              have k1:=ho6.head.oz
              have f8':=ho6.is 3 rfl (by simp)
              have f9':=hleft2.map (b:=b9) (es:=uC (cA r.left (gi o.length) cc mm)) (c:=c') ho5.head (by simp[View.set,Ne.symm hm29])
              have n89':b9≠b8:=n89.symm
              simp (disch:=omega) only [↓wr,↓reduceIte,wq,ah,ag,aj,ab,ae,af,ai,isNil,Nat.reduceEqDiff,Nat.reduceAdd,Nat.reduceLT,Nat.reduceLeDiff,Int.reduceNeg,Int.reduceToNat,reduceCtorEq,t1,t2,t5,t6,t8,t9,t41,t42,t43,f8',c1,k1]
              have ho7:=(ho6.at 3 (by simp)).put (es':=[[u0,u1',.emp 1,gi 0]]) rfl rfl
              have ho8:=(((ho7.at 3 (by simp)).tail).perm (.cons _ (.swap _ _ _)))
              refine aT hk (by omega) ⟨⟨u1',u3',rfl,?_,?_,?_,_,c',(by simp only[View.set,if_neg n89']; exact f9'),?_⟩,t1,t2,t5,t6,t8,t9,t41,t42,rfl⟩
              · rw[e1,e1']; intro x hx'; rcases List.mem_append.1 hx' with h | h
                · exact hin x h
                · simp at h; subst h; exact ⟨hl2,hl3⟩
              · rw[e1,e1']; simp; omega
              · rw[e1,e1',e2]
                simp only[List.map_append,List.map_cons,List.map_nil,hgnd]
                exact ho8
              · rw[e1,e1',xp,Int.zero_add,← zE hx]
                exact hm9.put r.left (o.length:Int) cc
          · simp (disch:=omega) only [↓wr,↓reduceIte,wq,ah,ag,aj,ab,ae,af,ai,isNil,Nat.reduceEqDiff,Nat.reduceAdd,Nat.reduceLT,Nat.reduceLeDiff,Int.reduceNeg,Int.reduceToNat,reduceCtorEq,t1,t2,t5,t6,t7,t8,t9,t41,t42,t43]
            refine hskip _ _ (by rw[bI,hqd,hal]; rfl) ?_ ?_ ?_ ?_ ?_ ?_ ?_ ?_ ?_ ?_ ?_
            all_goals first | exact t7 | exact t1 | exact t2 | exact t5 | exact t6 | exact t8 | exact t9 | exact t41 | exact t42 | rfl | (rw[set_set]; rfl)
      · rw[List.take_of_length_le (by omega)] at ho hin holen hm9
        have hkl40:(cP p q g.rules 0).length≤40:=by
          rw[p7]; have h1:=List.length_filter_le (bI p q) g.rules; omega
        have hkg:=uR p q g.rules 0
        have hkln:=p7 p q g.rules 0
        have hrg:iO g (cT (cb p q g.rules)) p q=⟨g.ay,(cb p q g.rules).map fun x=>g.aw.getD x.toNat ⟨#[]⟩,(g.rules.filter (bI p q)).map (bA (cT (cb p q g.rules))),cT (cb p q g.rules) g.start⟩:=rfl
        rw[hrg,if_pos rfl]
        clear hrg
        generalize cb p q g.rules=o at *
        generalize cP p q g.rules 0=kl at *
        have hob:o.length≤40:=by omega
        have hu3:dC u3=some (bY kl).length:=(ho.own 1 rfl).len
        simp (disch:=omega) only [↓wr,↓reduceIte,wq,ah,ag,aj,ab,ae,af,ai,isNil,Nat.reduceEqDiff,Nat.reduceAdd,Nat.reduceLT,Nat.reduceLeDiff,Int.reduceNeg,Int.reduceToNat,reduceCtorEq,t1,t2,t5,t6,t7,t8,t9,hu3,List.length_map]
        refine bz.up kl.length (MQ g p q b2 b8 b9 u0 u1 u3 o kl mm cc) ?_ ?_
        · refine ⟨⟨.emp 1,[],by simp,?_,h9⟩,t1,t2,t7,t8,t9,t7,rfl,rfl⟩
          exact (ho.emp (k:=1) (sz:=3)).perm (vc [(.sl b8 0 1 4,4,[[u0,u1,.emp 1,gi 0]]),(u3,1,bY kl),(u1,1,p9 (o.map fun x=>g.aw.getD x.toNat ⟨#[]⟩)),(u0,3,g.ay.map cz),(.emp 1,3,[]),(.sl b2 0 1 4,4,[[.emp 1,.emp 1,.emp 1,gi 0]])] 4 (by simp)).symm
        clear ho h9 t1 t2 t5 t6 t7 t8 t9 t41 t42 t43
        rintro i k T H2 hk ⟨⟨u2,bs,hbs,ho,h9⟩,t1,t2,t7,t8,t9,t91,t92,t93⟩
        simp (disch:=omega) only [↓wr,↓reduceIte,wq,ah,ag,aj,ab,ae,af,ai,isNil,Nat.reduceEqDiff,Nat.reduceAdd,Nat.reduceLT,Nat.reduceLeDiff,Int.reduceNeg,Int.reduceToNat,reduceCtorEq,pJ,t1,t2,t7,t8,t9,t91,t92,t93]
        refine an.dec (fun hc=>?_) (fun hc=>?_)
        · obtain ⟨n3,e3,hn3⟩:=(ho.own 1 rfl).sl (by simp; omega)
          rw[List.length_map] at e3
          subst e3
          obtain ⟨m,hm1,hm2,hm3⟩:=hkg i (by omega)
          have hbg:=CK (show i < kl.length by omega)
          rw[Int.zero_add] at hm1
          have hki:kl[i]'(by omega)=(m:Int):=by
            rw[List.getElem?_eq_getElem (show i < kl.length by omega)] at hm1; simpa using hm1
          rw[hki] at hbg
          have hg2:g.rules[m]?=some (g.rules[m]'hm3):=List.getElem?_eq_getElem hm3
          have hmem:g.rules[m]'hm3∈g.rules:=List.getElem_mem _
          have htk:(g.rules.filter (bI p q)).take (i+1)=(g.rules.filter (bI p q)).take i ++ [g.rules[m]'hm3]:=by
            rw[List.take_add_one,← hm2,hg2]; rfl
          generalize g.rules[m]'hm3=r at hg2 hmem htk
          obtain ⟨hl1,hl2,hl3,hr6,hsy⟩:=hf.xZ hg hmem
          simp (disch:=omega) only [↓wr,↓reduceIte,wq,ah,ag,aj,ab,ae,af,ai,isNil,Nat.reduceEqDiff,Nat.reduceAdd,Nat.reduceLT,Nat.reduceLeDiff,Int.reduceNeg,Int.reduceToNat,reduceCtorEq,t1,t2,t7,t8,t9,t91,t92,t93,hn3,hbg,List.length_map,av,bf,encI,List.getElem?_map,hg2]
          refine ⟨by omega,by omega,?_⟩
          intro b16 hb16
          have hoA:=ho.new hb16 3 [bf r]
          have n916:b9≠b16:=by rintro rfl; rw[h9] at hb16; simp at hb16
          try simp (disch:=omega) only [↓wr,↓reduceIte,wq,ah,ag,aj,ab,ae,af,ai,isNil,Nat.reduceEqDiff,Nat.reduceAdd,Nat.reduceLT,Nat.reduceLeDiff,Int.reduceNeg,Int.reduceToNat,reduceCtorEq,t1,t2,t7,t8,t9,t91,t92,t93,set_set]
          refine vh (kt:=3) (et:=3) (z:=gi 0) (by kernel_rfl) (by kernel_rfl) (gu .i64 Tryz.underlying3) (id:=b9) (c:=cc) (m:=mm) (k:=r.left) (by simp (disch:=omega) only [↓wr,↓reduceIte,wq,ah,ag,aj,ab,ae,af,ai,isNil,Nat.reduceEqDiff,Nat.reduceAdd,Nat.reduceLT,Nat.reduceLeDiff,Int.reduceNeg,Int.reduceToNat,reduceCtorEq,t9]) (by simp (disch:=omega) only [↓wr,↓reduceIte,wq,ah,ag,aj,ab,ae,af,ai,isNil,Nat.reduceEqDiff,Nat.reduceAdd,Nat.reduceLT,Nat.reduceLeDiff,Int.reduceNeg,Int.reduceToNat,reduceCtorEq]) (by simp[View.set,n916,h9]) ?_
          have hgt:∀ x,(getM mm x).getD (gi 0)=gi (cT o x):=fun x=>by
            rw[hm9.get,cT]; cases cZ (gJ o 0) x <;> rfl
          rw[hgt]
          simp (disch:=omega) only [↓wr,↓reduceIte,wq,ah,ag,aj,ab,ae,af,ai,isNil,Nat.reduceEqDiff,Nat.reduceAdd,Nat.reduceLT,Nat.reduceLeDiff,Int.reduceNeg,Int.reduceToNat,reduceCtorEq,t1,t2,t7,t8,t9,t91,t92,t93]
          refine aF.Lg (HN r.right (by omega) _) ?_
          intro v H3 hv hfr
          have hoB:=bE.Ma (H:=H2.set b16 (.arr 3 [bf r])) hoA hv (by rw[set_set] at hfr; exact hfr)
          have h9B:H3 b9=.map (uC mm) cc:=by
            rw[(hfr b9 (by simp[View.set,n916,h9])).1]; simp[View.set,n916,h9]
          have cv:=hv.cells
          have kv:=hv.oz
          have lv:=hv.len
          have f16:=hoB.is 1 rfl (by simp)
          simp only[bf,encI] at f16
          simp (disch:=omega) only [↓wr,↓reduceIte,wq,ah,ag,aj,ab,ae,af,ai,isNil,Nat.reduceEqDiff,Nat.reduceAdd,Nat.reduceLT,Nat.reduceLeDiff,Int.reduceNeg,Int.reduceToNat,reduceCtorEq,t1,t2,t7,t8,t9,t91,t92,t93,f16,cv,kv]
          intro b17 hb17
          have hoC:=hoB.new hb17 3 [[gi (cT o r.left),v,gi r.prec]]
          have n917:b9≠b17:=by rintro rfl; rw[h9B] at hb17; simp at hb17
          try simp (disch:=omega) only [↓wr,↓reduceIte,wq,ah,ag,aj,ab,ae,af,ai,isNil,Nat.reduceEqDiff,Nat.reduceAdd,Nat.reduceLT,Nat.reduceLeDiff,Int.reduceNeg,Int.reduceToNat,reduceCtorEq,t1,t2,t7,t8,t9,t91,t92,t93,cv,kv,lv,set_set,List.length_map]
          generalize hL:((V.sl b8 0 1 4,4,[[u0,u1,u2,gi 0]]) :: (V.sl n3 0 kl.length 1,1,bY kl) ::
              (u1,1,p9 (o.map fun x=>g.aw.getD x.toNat ⟨#[]⟩)) :: (u0,3,g.ay.map cz) :: (u2,3,iA bs) :: (V.sl b2 0 1 4,4,[[V.emp 1,V.emp 1,V.emp 1,gi 0]]) :: qY bs:List fw)=L at hoC
          refine bz.up r.right.length (MR g b2 b8 b9 b16 b17 (.sl n3 0 kl.length 1) v o kl mm cc r L i) ?_ ?_
          · exact ⟨by rw[set_set]; exact hoC,by simp[View.set,n917,h9B],t1,t2,t7,t8,t9,t91,t92,t93,rfl,rfl,rfl,rfl⟩
          clear hoA hoB hoC hb16 hb17 h9 h9B f16 hv hfr t1 t2 t7 t8 t9 t91 t92 t93
          rintro k k2 T H3 hk2 ⟨hoC,h9,t1,t2,t7,t8,t9,t91,t92,t93,t17,t113,t114,t115⟩
          have f17:=hoC.is 0 rfl (by simp)
          simp (disch:=omega) only [↓wr,↓reduceIte,wq,ah,ag,aj,ab,ae,af,ai,isNil,Nat.reduceEqDiff,Nat.reduceAdd,Nat.reduceLT,Nat.reduceLeDiff,Int.reduceNeg,Int.reduceToNat,reduceCtorEq,pA,t1,t2,t7,t8,t9,t91,t92,t93,t17,t113,t114,t115]
          refine an.dec (fun hcc=>?_) (fun hcc=>?_)
          · have hgs:r.right[k]?=some (r.right[k]'(by omega)):=List.getElem?_eq_getElem (by omega)
            have hms:r.right[k]'(by omega)∈r.right:=List.getElem_mem _
            have hrl:(bA (cT o) r).right.length=r.right.length:=by simp[bA]
            have hts:(bA (cT o) r).right.take (k+1)=(bA (cT o) r).right.take k ++ [if r.right[k]'(by omega) < 0 then -1 - cT o (-1 - r.right[k]'(by omega)) else r.right[k]'(by omega)]:=by
              rw[List.take_add_one]; simp[bA,hgs]
            have hdr:=dD (show k < r.right.length by omega)
            generalize r.right[k]'(by omega)=s at hgs hms hts hdr
            obtain ⟨⟨s1,s2⟩,s3⟩:=hsy s hms
            have hbd:=KI o (-1 - s)
            rw[hdr] at hoC
            have hlen:(((bA (cT o) r).right.take k ++ s :: r.right.drop (k+1)).map fun x=>[gi x]).length=r.right.length:=by simp; omega
            obtain ⟨nv,ev,hnv⟩:=(hoC.own 1 rfl).sl (by rw[hlen]; omega)
            rw[hlen] at ev
            subst ev
            have hlt:k < ((bA (cT o) r).right.take k ++ s :: r.right.drop (k+1)).length:=by simp; omega
            have hbg2:=CK hlt
            have hel:((bA (cT o) r).right.take k ++ s :: r.right.drop (k+1))[k]'hlt=s:=by
              rw[List.getElem_append_right (by simp; omega)]
              simp[show k - min k r.right.length=0 by omega,hrl]
            rw[hel] at hbg2
            simp (disch:=omega) only [↓wr,↓reduceIte,wq,ah,ag,aj,ab,ae,af,ai,isNil,Nat.reduceEqDiff,Nat.reduceAdd,Nat.reduceLT,Nat.reduceLeDiff,Int.reduceNeg,Int.reduceToNat,reduceCtorEq,t1,t2,t7,t8,t9,t91,t92,t93,t17,t113,t114,t115,hnv,hbg2,List.length_map]
            refine ⟨by omega,hlt,?_⟩
            have hlk:((bA (cT o) r).right.take k).length=k:=by rw[List.length_take]; omega
            have nv9:nv≠b9:=xT hoC 1 rfl h9
            refine an.dec (fun hneg=>?_) (fun hneg=>?_)
            · rw[if_pos hneg] at hts
              simp (disch:=omega) only [↓wr,↓reduceIte,wq,ah,ag,aj,ab,ae,af,ai,isNil,Nat.reduceEqDiff,Nat.reduceAdd,Nat.reduceLT,Nat.reduceLeDiff,Int.reduceNeg,Int.reduceToNat,reduceCtorEq,t1,t2,t7,t8,t9,t91,t92,t93,t17,t113,t114,t115,f17]
              refine vh (kt:=3) (et:=3) (z:=gi 0) (by kernel_rfl) (by kernel_rfl) (gu .i64 Tryz.underlying3) (id:=b9) (c:=cc) (m:=mm) (k:=-1 - s) (by simp (disch:=omega) only [↓wr,↓reduceIte,wq,ah,ag,aj,ab,ae,af,ai,isNil,Nat.reduceEqDiff,Nat.reduceAdd,Nat.reduceLT,Nat.reduceLeDiff,Int.reduceNeg,Int.reduceToNat,reduceCtorEq,t9]) (by simp (disch:=omega) only [↓wr,↓reduceIte,wq,ah,ag,aj,ab,ae,af,ai,isNil,Nat.reduceEqDiff,Nat.reduceAdd,Nat.reduceLT,Nat.reduceLeDiff,Int.reduceNeg,Int.reduceToNat,reduceCtorEq]) h9 ?_
              rw[hgt]
              simp (disch:=omega) only [↓wr,↓reduceIte,wq,ah,ag,aj,ab,ae,af,ai,isNil,Nat.reduceEqDiff,Nat.reduceAdd,Nat.reduceLT,Nat.reduceLeDiff,Int.reduceNeg,Int.reduceToNat,reduceCtorEq,t1,t2,t7,t8,t9,t91,t92,t93,t17,t113,t114,t115,f17,hnv,hbg2,List.length_map]
              refine ⟨by omega,hlt,?_⟩
              have hoD:=((hoC.at 1 (by simp)).put (es':=((((bA (cT o) r).right.take k ++ s :: r.right.drop (k+1)).map fun x=>[gi x]).set k [gi (-1 - cT o (-1 - s))])) (by simp) (by rw[hlen])).perm (.swap _ _ _)
              refine aT hk2 (by omega) ⟨?_,by simp only[View.set,if_neg nv9.symm]; exact h9,t1,t2,t7,t8,t9,t91,t92,t93,t17,t113,t114,rfl⟩
              rw[ints_set,y3 hlk] at hoD
              rw[hts,List.append_assoc]
              rw[ints_set,y3 hlk]
              exact hoD
            · rw[if_neg hneg] at hts
              simp (disch:=omega) only [↓wr,↓reduceIte,wq,ah,ag,aj,ab,ae,af,ai,isNil,Nat.reduceEqDiff,Nat.reduceAdd,Nat.reduceLT,Nat.reduceLeDiff,Int.reduceNeg,Int.reduceToNat,reduceCtorEq,t1,t2,t7,t8,t9,t91,t92,t93,t17,t113,t114,t115]
              refine aT hk2 (by omega) ⟨?_,h9,t1,t2,t7,t8,t9,t91,t92,t93,t17,t113,t114,rfl⟩
              rw[hts,List.append_assoc]
              exact hoC
          · rw[List.take_of_length_le (by simp[bA]; omega),List.drop_eq_nil_of_le (by omega),List.append_nil] at hoC
            subst hL
            have f8:=hoC.is 3 rfl (by simp)
            have cv:=(hoC.own 1 rfl).cells
            have kv:=(hoC.own 1 rfl).oz
            have hbl:(iA bs).length≤40:=by
              have h1:=congrArg List.length hbs
              simp only[List.length_map,List.length_take] at h1
              simp only[iA,List.length_map]
              omega
            simp (disch:=omega) only [↓wr,↓reduceIte,wq,ah,ag,aj,ab,ae,af,ai,isNil,Nat.reduceEqDiff,Nat.reduceAdd,Nat.reduceLT,Nat.reduceLeDiff,Int.reduceNeg,Int.reduceToNat,reduceCtorEq,t1,t2,t7,t8,t9,t91,t92,t93,t17,t113,t114,t115,f8,f17,cv,kv]
            intro m hm
            have n9m:b9≠m:=by rintro rfl; rw[h9] at hm; simp at hm
            try simp (disch:=omega) only [↓wr,↓reduceIte,wq,ah,ag,aj,ab,ae,af,ai,isNil,Nat.reduceEqDiff,Nat.reduceAdd,Nat.reduceLT,Nat.reduceLeDiff,Int.reduceNeg,Int.reduceToNat,reduceCtorEq,t1,t2,t7,t8,t9,t91,t92,t93,t17,dh]
            have hoD:=(hoC.fresh (o:=.arr 3 [[gi (cT o r.left),v,gi r.prec]]) hm).at 7 (by simp)
            refine fF hoD (by simp[yY,kv]) (by unfold aL; simp at hbl ⊢; omega) (by unfold aL; simp at hbl ⊢; omega) ?_
            intro u2' H4 hoE hleft
            have cu:=hoE.head.cells
            have ku:=hoE.head.oz
            have f8':=hoE.is 4 rfl (by simp)
            have h9':H4 b9=.map (uC mm) cc:=hleft.map (b:=b9) hoD.head (by simp[View.set,n9m,h9])
            have n98:b9≠b8:=(xT hoE 4 rfl h9').symm
            simp (disch:=omega) only [↓wr,↓reduceIte,wq,ah,ag,aj,ab,ae,af,ai,isNil,Nat.reduceEqDiff,Nat.reduceAdd,Nat.reduceLT,Nat.reduceLeDiff,Int.reduceNeg,Int.reduceToNat,reduceCtorEq,t1,t2,t7,t8,t9,t91,t92,t93,t17,f8',cu,ku]
            have hoF:=(hoE.at 4 (by simp)).put (es':=[[u0,u1,u2',gi 0]]) rfl rfl
            have hoG:=((((hoF.at 2 (by simp)).tail).at 3 (by simp)).tail)
            refine aT hk (by omega) ⟨⟨u2',bs ++ [(v,bA (cT o) r)],?_,?_,by simp only[View.set,if_neg n98]; exact h9'⟩,t1,t2,t7,t8,t9,t91,t92,rfl⟩
            · rw[List.map_append,hbs,htk,List.map_append]; rfl
            · refine hoG.perm (.cons _ ?_)
              simp only[qY,iA,List.map_append,List.map_cons,List.map_nil]
              refine .trans ?_ (vc _ 3 (by simp)).symm
              refine .cons _ ?_
              exact (List.perm_append_singleton (v,1,bY (bA (cT o) r).right) ((.sl n3 0 kl.length 1,1,bY kl) :: (u1,1,p9 (o.map fun x=>g.aw.getD x.toNat ⟨#[]⟩)) :: (u0,3,g.ay.map cz) :: (.sl b2 0 1 4,4,[[.emp 1,.emp 1,.emp 1,gi 0]]) :: qY bs)).symm
        · rw[List.take_of_length_le (by omega)] at hbs
          have f8:=ho.is 0 rfl (by simp)
          have f2:=ho.is 5 rfl (by simp)
          have n82:b8≠b2:=ho.M9 0 5 rfl rfl (by omega)
          have c1:=(ho.own 2 rfl).cells
          have k1:=(ho.own 2 rfl).oz
          have c2:=(ho.own 4 rfl).cells
          have k2:=(ho.own 4 rfl).oz
          have hgt:∀ x,(getM mm x).getD (gi 0)=gi (cT o x):=fun x=>by
            rw[hm9.get,cT]; cases cZ (gJ o 0) x <;> rfl
          simp (disch:=omega) only [↓wr,↓reduceIte,wq,ah,ag,aj,ab,ae,af,ai,isNil,Nat.reduceEqDiff,Nat.reduceAdd,Nat.reduceLT,Nat.reduceLeDiff,Int.reduceNeg,Int.reduceToNat,reduceCtorEq,t1,t2,t7,t8,t9,t91,t92,t93,av]
          refine vh (kt:=3) (et:=3) (z:=gi 0) (by kernel_rfl) (by kernel_rfl) (gu .i64 Tryz.underlying3) (id:=b9) (c:=cc) (m:=mm) (k:=g.start) (by simp (disch:=omega) only [↓wr,↓reduceIte,wq,ah,ag,aj,ab,ae,af,ai,isNil,Nat.reduceEqDiff,Nat.reduceAdd,Nat.reduceLT,Nat.reduceLeDiff,Int.reduceNeg,Int.reduceToNat,reduceCtorEq,t9]) (by simp (disch:=omega) only [↓wr,↓reduceIte,wq,ah,ag,aj,ab,ae,af,ai,isNil,Nat.reduceEqDiff,Nat.reduceAdd,Nat.reduceLT,Nat.reduceLeDiff,Int.reduceNeg,Int.reduceToNat,reduceCtorEq]) h9 ?_
          rw[hgt]
          simp (disch:=omega) only [↓wr,↓reduceIte,wq,ah,ag,aj,ab,ae,af,ai,isNil,Nat.reduceEqDiff,Nat.reduceAdd,Nat.reduceLT,Nat.reduceLeDiff,Int.reduceNeg,Int.reduceToNat,reduceCtorEq,t1,t2,t7,t8,t9,t91,t92,t93,f8,f2,n82,n82.symm,c0,k0,c1,k1,c2,k2]
          intro h' hh
          have hoA:=ho.put (es':=[[u0,u1,u2,gi (cT o g.start)]]) rfl rfl
          have hoB:=(hoA.at 5 (by simp)).put (es':=[[u0,u1,u2,gi (cT o g.start)]]) rfl rfl
          have hv:h'.view=(H2.set b8 (.arr 4 [[u0,u1,u2,gi (cT o g.start)]])).set b2 (.arr 4 [[u0,u1,u2,gi (cT o g.start)]]):=hh
          rw[← hv] at hoB
          exact KP (x:=(⟨g.ay,o.map fun x=>g.aw.getD x.toNat ⟨#[]⟩,(g.rules.filter (bI p q)).map (bA (cT o)),cT o g.start⟩,kl,0)) (b:=bs) (hoB.own 4 rfl) (hoB.own 3 rfl) (hoB.own 5 rfl) (fun y hy=>hoB.1 y (by
            refine List.mem_cons_of_mem _ (List.mem_cons_of_mem _ (List.mem_cons_of_mem _ (List.mem_cons_of_mem _ (List.mem_cons_of_mem _ (List.mem_cons_of_mem _ ?_)))))
            exact hy)) hbs (hoB.own 2 rfl)
  · rename_i hr
    intro h' hh
    rw[if_neg (by simp[hr])]
    exact Bi
end Gv
set_option linter.unusedSimpArgs false
namespace Gv
open Go Go.Proofs
theorem DM {l:List Int} {a b:List Bool} {t:Bool} (h:eJ a b) (k:ey l a t=true):ey l b t=true:=by
  simp only[ey,List.all_eq_true] at k ⊢
  intro s hs
  have:=k s hs
  by_cases h0:0≤s
  · rw[if_pos h0] at this ⊢; exact this
  · rw[if_neg h0] at this ⊢; exact h.2 _ this
theorem eJ.Kd {a b:List Bool} (h:eJ a b) (k:eJ b a):a=b:=by
  have h1:=h.cK
  have h2:=k.cK
  exact h1.2 (by omega)
def kM (g:al) (t:Bool) (is:List Bool):Prop:=∀ i,is.getD i false=true→∃ r∈g.rules,r.left.toNat=i∧ey r.right is t=true
theorem kM.step {g:al} {t:Bool} {is:List Bool} {r:aJ} (h:kM g t is) (hr:r∈g.rules):kM g t (dK t is r):=by
  have hle:eJ is (dK t is r):=by
    unfold dK
    split
    · exact .set _ _
    · exact .refl _
  intro i hi
  by_cases e:is.getD i false=true
  · obtain ⟨r',h1,h2,h3⟩:=h i e
    exact ⟨r',h1,h2,DM hle h3⟩
  · unfold dK at hi
    by_cases ha:ey r.right is t=true
    · rw[if_pos ha] at hi
      have:r.left.toNat=i:=by
        refine Classical.byContradiction fun hne=>e ?_
        simp only[List.getD_eq_getElem?_getD,List.getElem?_set,if_neg hne] at hi ⊢
        exact hi
      exact ⟨r,hr,this,DM hle ha⟩
    · rw[if_neg ha] at hi; exact absurd hi e
theorem kM.fold {g:al} {t:Bool} : ∀ (l:List aJ) (is:List Bool),(∀ r∈l,r∈g.rules)→kM g t is→kM g t (l.foldl (dK t) is)
  | [],is,_,h=>h
  | r :: l,is,hl,h=>kM.fold l _ (fun x hx=>hl x (by simp[hx])) (h.step (hl r (by simp)))
theorem kM.iter {g:al} {t:Bool} : ∀ (n:Nat) (is:List Bool),kM g t is→kM g t (iter (mw g t) n is)
  | 0,_,h=>h
  | n+1,is,h=>kM.iter n _ (kM.fold g.rules is (fun _ h=>h) h)
theorem Fy (g:al) (t:Bool):kM g t (aG g t):=by
  unfold aG
  split
  · refine kM.iter _ _ ?_
    intro i hi
    simp only[cE,List.getD_eq_getElem?_getD,List.getElem?_replicate] at hi
    split at hi <;> simp at hi
  · intro i hi; simp at hi
theorem Dv (is:List Bool) (s:Int):eJ is (mark is s):=by
  unfold mark
  split
  · exact .set _ _
  · exact .refl _
theorem wN:∀ (l:List Int) (is:List Bool),eJ is (l.foldl mark is)
  | [],is=>.refl _
  | s :: l,is=>(Dv is s).trans (wN l _)
theorem B1 (p is:List Bool) (r:aJ):eJ is (ik p is r):=by
  unfold ik
  split
  · exact wN _ _
  · exact .refl _
theorem CT (p:List Bool):∀ (l:List aJ) (is:List Bool),eJ is (l.foldl (ik p) is)
  | [],is=>.refl _
  | r :: l,is=>(B1 p is r).trans (CT p l _)
theorem Aw {p:List Bool} : ∀ {l:List aJ} {is:List Bool},l.foldl (ik p) is=is→∀ r∈l,ik p is r=is
  | [],_,_,_,h=>by simp at h
  | r :: l,is,h,x,hx=>by
    rw[List.foldl_cons] at h
    have h1:=CT p l (ik p is r)
    rw[h] at h1
    have h2:=(h1.Kd (B1 p is r))
    rcases List.mem_cons.1 hx with rfl | hx
    · exact h2
    · rw[h2] at h; exact Aw h x hx
theorem zZ:∀ {l:List Int} {is:List Bool},l.foldl mark is=is→∀ s∈l,mark is s=is
  | [],_,_,_,h=>by simp at h
  | r :: l,is,h,x,hx=>by
    rw[List.foldl_cons] at h
    have h1:=wN l (mark is r)
    rw[h] at h1
    have h2:=(h1.Kd (Dv is r))
    rcases List.mem_cons.1 hx with rfl | hx
    · exact h2
    · rw[h2] at h; exact zZ h x hx
theorem AJ {g:al} (hr:bm g=true):q8 g (aG g true) (bw g)=bw g∧eJ ((cE g).set g.start.toNat true) (bw g):=by
  have hf:=bg hr
  have h:=pq (oW (aG g true)) g.rules 16 ((cE g).set g.start.toNat true) (by have:=hf.aw; simp[cE]; omega)
  rw[EO,Iy hr] at h
  exact h
theorem qG {g:al} (hr:bm g=true):(bw g).getD g.start.toNat false=true:=by
  have hf:=bg hr
  refine (AJ hr).2.2 _ ?_
  have h3:=hf.gV
  have h4:=hf.start
  simp only[List.getD_eq_getElem?_getD]
  rw[List.getElem?_set_self (by simp[cE]; omega)]
  rfl
theorem sB {g:al} (hr:bm g=true) {r:aJ} (hm:r∈g.rules) (hk:bI (aG g true) (bw g) r=true) {s:Int} (hs:s∈r.right) (hn:s < 0):(bw g).getD (-1 - s).toNat false=true:=by
  have hf:=bg hr
  have h1:=Aw (AJ hr).1 r hm
  unfold ik at h1
  rw[bI] at hk
  rw[if_pos hk] at h1
  have h2:=zZ h1 s hs
  unfold mark at h2
  rw[if_pos hn] at h2
  rw[← h2]
  have hl:=qc hr
  have:=hf.neg hm hs hn
  simp only[List.getD_eq_getElem?_getD]
  rw[List.getElem?_set_self (by omega)]
  rfl
theorem x6 {g:al} (hr:bm g=true) {x:Int} (h0:0≤x) (hp:(aG g true).getD x.toNat false=true) (hq:(bw g).getD x.toNat false=true):x∈cb (aG g true) (bw g) g.rules:=by
  obtain ⟨r,h1,h2,h3⟩:=Fy g true _ hp
  have hf:=bg hr
  have h4:=hf.left r h1
  have:r.left=x:=by omega
  refine oE.2 ⟨r,h1,?_,this⟩
  rw[bI,this,hq,h3]; rfl
theorem F8 (g:al):(if bm g=true then
    if (aG g true).getD g.start.toNat false=true then (iO g (cT (cb (aG g true) (bw g) g.rules)) (aG g true) (bw g),cP (aG g true) (bw g) g.rules 0,0)
    else (oO,[],9)
  else (oO,[],1))=fK g:=by
  unfold fK
  by_cases hr:bm g=true
  · rw[if_pos hr,if_pos hr]
    by_cases hp:(aG g true).getD g.start.toNat false=true
    · rw[if_pos hp,if_pos hp]
      have hf:=bg hr
      rw[Hc]
      · exact x6 hr hf.gV hp (qG hr)
      · intro r hm
        obtain ⟨h1,h2⟩:=List.mem_filter.1 hm
        refine ⟨oE.2 ⟨r,h1,h2,rfl⟩,fun s hs hn=>?_⟩
        refine x6 hr (by omega) ?_ (sB hr h1 h2 hs hn)
        rw[bI,Bool.and_eq_true] at h2
        have:=h2.2
        simp only[ey,List.all_eq_true] at this
        have:=this s hs
        rwa [if_neg (by omega)] at this
    · rw[if_neg hp,if_neg hp]
  · rw[if_neg hr,if_neg hr]
theorem F1 (g:al) (hg:g.Ok) (hs:g.Small):cw Tryz.prog 107 [.agg (av g)] (yN (fK g)):=by
  rw[← F8]; exact Dm g hg hs
end Gv
set_option linter.unusedSimpArgs false
namespace Gv
open Go Go.Proofs
theorem BS {x:Int} : ∀ (o:List Int) (i:Int),x∈o→∃ k:Nat,cO (fun y=>y == x) o i=i+k∧o[k]?=some x
  | [],_,h=>by simp at h
  | y :: o,i,h=>by
    by_cases e:y=x
    · exact ⟨0,by simp[cO,e],by simp[e]⟩
    · have hx:x∈o:=by
        rcases List.mem_cons.1 h with rfl | h
        · exact absurd rfl e
        · exact h
      obtain ⟨k,h1,h2⟩:=BS o (i+1) hx
      exact ⟨k+1,by simp only[cO]; rw[if_neg (by simp[e]),h1]; push_cast; omega,by simpa using h2⟩
theorem wP {o:List Int} {x:Int} (h:x∈o):o[(bK o x).toNat]?=some x:=by
  obtain ⟨k,h1,h2⟩:=BS o 0 h
  have:bK o x=k:=by unfold bK; omega
  rw[this]; simpa using h2
theorem vl {o:List Int} (hn:o.Nodup) {k:Nat} {x:Int} (h:o[k]?=some x):bK o x=k:=by
  have hx:=List.mem_of_getElem? h
  have h1:=wP hx
  have h2:=jb hx
  obtain ⟨hk,h3⟩:=List.getElem?_eq_some_iff.1 h
  obtain ⟨hk2,h4⟩:=List.getElem?_eq_some_iff.1 h1
  have:=(List.getElem_inj hn).1 (h4.trans h3.symm)
  omega
theorem oF:∀ (l:List aJ) (acc:List Int),acc.Nodup→(l.foldl dn acc).Nodup
  | [],_,h=>h
  | r :: l,acc,h=>oF l _ (E3 h)
theorem F6 (p q:List Bool) (l:List aJ):(cb p q l).Nodup:=oF _ _ List.nodup_nil
theorem I6 (acc:List Int) (r:aJ):∃ m,dn acc r=acc ++ m:=by
  unfold dn
  split
  · exact ⟨[],by simp⟩
  · exact ⟨_,rfl⟩
theorem qJ:∀ (l:List aJ) (acc:List Int),∃ m,l.foldl dn acc=acc ++ m
  | [],acc=>⟨[],by simp⟩
  | r :: l,acc=>by
    obtain ⟨m,hm⟩:=I6 acc r
    obtain ⟨k,hk⟩:=qJ l (dn acc r)
    exact ⟨m ++ k,by rw[List.foldl_cons,hk,hm,List.append_assoc]⟩
theorem JE {a b:List Int} {x:Int} (h:x∈a):bK (a ++ b) x=bK a x:=by
  unfold bK
  rw[vz _ _ _ _ (by omega)]
  have:=jb h
  unfold bK at this
  rw[if_pos this.1]
theorem sF {r:al} {o:List Int} (ho:o.Nodup) (hr:r.aw.length=o.length):∀ (l:List aJ) (acc:List Int),o=l.foldl dn acc→(∀ x∈l,fq r (bA (bK o) x)=true)→eP r (l.map (bA (bK o))) ((acc.length:Int) - 1)=true
  | [],acc,h,_=>by
    simp only[List.foldl_nil] at h
    simp[eP,hr,h]
  | x :: l,acc,h,hb=>by
    simp only[List.map_cons,eP,Bool.and_eq_true,decide_eq_true_eq]
    rw[List.foldl_cons] at h
    have h1:(bA (bK o) x).left=bK o x.left:=rfl
    obtain ⟨m,hm⟩:=qJ l (dn acc x)
    rw[← h] at hm
    by_cases hx:x.left∈acc
    · have e:dn acc x=acc:=by unfold dn; rw[if_pos hx]
      rw[e] at hm h
      have h2:=jb hx
      have h3:bK o x.left=bK acc x.left:=by rw[hm]; exact JE hx
      rw[h1,h3,if_neg (by omega)]
      exact ⟨⟨⟨h2.1,by omega⟩,hb x (by simp)⟩,sF ho hr l acc h fun y hy=>hb y (by simp[hy])⟩
    · have e:dn acc x=acc ++ [x.left]:=by unfold dn; rw[if_neg hx]
      rw[e] at hm h
      have h3:bK o x.left=acc.length:=vl ho (by rw[hm]; simp)
      rw[h1,h3,if_pos (by omega)]
      refine ⟨⟨⟨by omega,by omega⟩,hb x (by simp)⟩,?_⟩
      have:=sF ho hr l (acc ++ [x.left]) h fun y hy=>hb y (by simp[hy])
      rw[List.length_append] at this
      simpa using this
theorem vH {g r:al} (h:r.ay=g.ay):∀ (l:List Term) (i:Int),gX r l i=gX g l i
  | [],_=>rfl
  | t :: l,i=>by
    simp only[gX,vH h l]
    congr 1
    simp only[iq,jN,nV,h]
theorem nA {o:List Int} {n:Nat} (h:o.Nodup) (hb:∀ x∈o,0≤x∧x < n):o.length≤n:=by
  have:=nd o ((List.range n).map fun (k:Nat)=>(k:Int)) h fun x hx=>by
    have:=hb x hx
    exact List.mem_map.2 ⟨x.toNat,List.mem_range.2 (by omega),by omega⟩
  simpa using this
structure dz (g:al) (p q:List Bool) (o:List Int) (r:al):Prop where
  right:bm g=true
  pe:p=aG g true
  qe:q=bw g
  oe:o=cb p q g.rules
  re:r=iO g (bK o) p q
  nodup:o.Nodup
  inside:∀ x∈o,0≤x∧x < g.aw.length
  kept:∀ R∈g.rules,bI p q R=true→R.left∈o∧∀ s∈R.right,s < 0→-1 - s∈o
  from_:∀ x∈o,∃ R∈g.rules,bI p q R=true∧R.left=x
  start:g.start∈o
theorem LF {g:al} (hr:bm g=true) (hp:(aG g true).getD g.start.toNat false=true):dz g (aG g true) (bw g) (cb (aG g true) (bw g) g.rules) (iO g (bK (cb (aG g true) (bw g) g.rules)) (aG g true) (bw g)):=by
  have hf:=bg hr
  refine ⟨hr,rfl,rfl,rfl,rfl,F6 _ _ _,fun x hx=>?_,fun R hm hk=>⟨oE.2 ⟨R,hm,hk,rfl⟩,fun s hs hn=>?_⟩,fun x hx=>oE.1 hx,x6 hr hf.gV hp (qG hr)⟩
  · obtain ⟨R,h1,_,rfl⟩:=oE.1 hx
    exact hf.left R h1
  · refine x6 hr (by omega) ?_ (sB hr hm hk hs hn)
    rw[bI,Bool.and_eq_true] at hk
    have:=hk.2
    simp only[ey,List.all_eq_true] at this
    have:=this s hs
    rwa [if_neg (by omega)] at this
section
variable {g r:al} {p q:List Bool} {o:List Int}
theorem dz.rules (h:dz g p q o r):r.rules=(g.rules.filter (bI p q)).map (bA (bK o)):=by rw[h.re]; rfl
theorem dz.aw (h:dz g p q o r):r.aw=o.map fun x=>g.aw.getD x.toNat ⟨#[]⟩:=by rw[h.re,h.oe]; rfl
theorem dz.ay (h:dz g p q o r):r.ay=g.ay:=by rw[h.re]; rfl
theorem dz.Ce (h:dz g p q o r):r.start=bK o g.start:=by rw[h.re]; rfl
theorem dz.len (h:dz g p q o r):r.aw.length=o.length:=by rw[h.aw]; simp
theorem dz.ke (h:dz g p q o r):bm r=true:=by
  have hf:=bg h.right
  have hR:=h.right
  simp only[bm,hD,iK,Bool.and_eq_true,decide_eq_true_eq] at hR ⊢
  obtain ⟨⟨⟨⟨⟨⟨⟨a1,a2⟩,⟨a3,a4⟩,a5⟩,a6⟩,a7⟩,a8⟩,a9⟩,a10⟩:=hR
  have hst:=jb h.start
  have hol:o.length≤g.aw.length:=nA h.nodup h.inside
  have hgn:g.aw.Nodup∧∀ s∈g.aw,eo (dJ s)=true∧jN g s < 0:=by
    rw[pF] at a5
    refine ⟨(pZ g.aw).1 fun k s hk=>?_,fun s hs=>?_⟩
    · have:=a5 k s hk
      simp only[ju,tD,Bool.and_eq_true,beq_iff_eq] at this
      have:=this.1.2
      omega
    · obtain ⟨k,hk⟩:=List.getElem?_of_mem hs
      have:=a5 k s hk
      simp only[ju,Bool.and_eq_true,decide_eq_true_eq] at this
      exact ⟨this.1.1,this.2⟩
  have hget:∀ x∈o,∃ (hx:x.toNat < g.aw.length),g.aw.getD x.toNat ⟨#[]⟩=g.aw[x.toNat]:=fun x hx=>by
    have:=h.inside x hx
    exact ⟨by omega,by simp[List.getD_eq_getElem?_getD,List.getElem?_eq_getElem (show x.toNat < g.aw.length by omega)]⟩
  have hrn:r.aw.Nodup:=by
    rw[h.aw,List.nodup_iff_pairwise_ne,List.pairwise_map]
    refine (List.Pairwise.and_mem.1 h.nodup).imp ?_
    rintro x y ⟨hx,hy,hne⟩ e
    obtain ⟨h1,h2⟩:=hget x hx
    obtain ⟨h3,h4⟩:=hget y hy
    rw[h2,h4] at e
    have h5:=(List.getElem_inj hgn.1).1 e
    have h6:=h.inside x hx
    have h7:=h.inside y hy
    exact hne (by omega)
  have hrules:(g.rules.filter (bI p q)).length≤g.rules.length:=List.length_filter_le _ _
  obtain ⟨R0,hR0,hk0,_⟩:=h.from_ _ h.start
  have hpos:0 < (g.rules.filter (bI p q)).length:=List.length_pos_of_mem (List.mem_filter.2 ⟨hR0,hk0⟩)
  have hrl:r.rules.length=(g.rules.filter (bI p q)).length:=by rw[h.rules]; simp
  refine ⟨⟨⟨⟨⟨⟨⟨by rw[h.ay]; exact a1,?_⟩,⟨by rw[h.len]; omega,by rw[h.len]; omega⟩,?_⟩,by omega⟩,by omega⟩,by rw[h.Ce]; omega⟩,by rw[h.Ce,h.len]; omega⟩,?_⟩
  · rw[h.ay,vH h.ay]; exact a2
  · rw[pF]
    intro k s hk
    have hm:=List.mem_of_getElem? hk
    have hidx:=(pZ r.aw).2 hrn k s hk
    rw[h.aw,List.mem_map] at hm
    obtain ⟨x,hx,rfl⟩:=hm
    obtain ⟨h1,h2⟩:=hget x hx
    obtain ⟨h3,h4⟩:=hgn.2 _ (h2 ▸ List.getElem_mem h1:g.aw.getD x.toNat ⟨#[]⟩∈g.aw)
    simp only[ju,tD,Bool.and_eq_true,beq_iff_eq,decide_eq_true_eq]
    refine ⟨⟨h3,by rw[hidx]; omega⟩,?_⟩
    simp only[jN,h.ay] at h4 ⊢
    exact h4
  · rw[h.rules]
    have:=sF (r:=r) h.nodup h.len (g.rules.filter (bI p q)) [] (by rw[h.oe]; rfl) (fun x hx=>?_)
    · simpa using this
    obtain ⟨hm,hk⟩:=List.mem_filter.1 hx
    obtain ⟨_,hin⟩:=h.kept x hm hk
    have hb:=(tW _ _ a10).2 x hm
    have hb:=hb.2.2
    simp only[fq,Bool.and_eq_true,decide_eq_true_eq,List.all_eq_true] at hb ⊢
    obtain ⟨⟨⟨b1,b2⟩,b3⟩,b4⟩:=hb
    refine ⟨⟨⟨by simpa [bA] using b1,b2⟩,by rw[h.ay]; exact b3⟩,fun s hs=>?_⟩
    simp only[bA,List.mem_map] at hs
    obtain ⟨s0,hs0,rfl⟩:=hs
    have b5:=b4 s0 hs0
    by_cases hn:s0 < 0
    · rw[if_pos hn]
      have hl:=jb (hin s0 hs0 hn)
      simp only[jT,iL,Bool.and_eq_true]
      rw[if_neg (by omega),decide_eq_false (p:=0≤-1 - bK o (-1 - s0)) (by omega)]
      simp only[h.len,decide_eq_true_eq,Bool.false_and,Bool.not_false,and_true]
      omega
    · rw[if_neg hn]
      simp only[jT,iL,h.ay] at b5 ⊢
      rw[if_pos (by omega)] at b5 ⊢
      exact b5
end
end Gv
set_option linter.unusedSimpArgs false
namespace Gv
open Go Go.Proofs
inductive rG (g:al):Int→Prop
  | mk (R:aJ):R∈g.rules→(∀ s∈R.right,s < 0→rG g (-1 - s))→rG g R.left
inductive lJ (g:al) (p:List Bool):Int→Prop
  | start:lJ g p g.start
  | next (R:aJ) (s:Int):R∈g.rules→lJ g p R.left→ey R.right p true=true→s∈R.right→s < 0→lJ g p (-1 - s)
theorem sJ {l:List Int} {p:List Bool} : ey l p true=true↔∀ s∈l,s < 0→p.getD (-1 - s).toNat false=true:=by
  simp only[ey,List.all_eq_true]
  constructor
  · intro h s hs hn
    have:=h s hs
    rwa [if_neg (by omega)] at this
  · intro h s hs
    by_cases hn:s < 0
    · rw[if_neg (by omega)]; exact h s hs hn
    · rw[if_pos (by omega)]
theorem wz {l:List Bool} {i j:Nat} (h:(l.set i true).getD j false=true):j=i∨l.getD j false=true:=by
  by_cases e:i=j
  · exact .inl e.symm
  · right
    simp only[List.getD_eq_getElem?_getD,List.getElem?_set,if_neg e] at h ⊢
    exact h
theorem w9 {g:al} {i:Nat} : (cE g).getD i false=false:=by
  simp only[cE,List.getD_eq_getElem?_getD,List.getElem?_replicate]
  split <;> rfl
theorem BE {g:al} (hr:bm g=true):∀ i:Nat,(aG g true).getD i false=true→rG g i:=by
  have hf:=bg hr
  have hst:∀ (is:List Bool) (R:aJ),R∈g.rules→(∀ i:Nat,is.getD i false=true→rG g i)→∀ i:Nat,(dK true is R).getD i false=true→rG g i:=by
    intro is R hR h i hi
    unfold dK at hi
    split at hi
    · rename_i ha
      rcases wz hi with rfl | hi
      · have:=hf.left R hR
        have e:((R.left.toNat:Nat):Int)=R.left:=by omega
        rw[e]
        refine .mk R hR fun s hs hn=>?_
        have:=h _ (sJ.1 ha s hs hn)
        rwa [show (((-1 - s).toNat:Nat):Int) = -1 - s by omega] at this
      · exact h i hi
    · exact h i hi
  have hfold:∀ (l:List aJ) (is:List Bool),(∀ R∈l,R∈g.rules)→(∀ i:Nat,is.getD i false=true→rG g i)→∀ i:Nat,(l.foldl (dK true) is).getD i false=true→rG g i:=by
    intro l
    induction l with
    | nil=>intro is _ h; exact h
    | cons R l ih=>intro is hl h; exact ih _ (fun x hx=>hl x (by simp[hx])) (hst is R (hl R (by simp)) h)
  have hit:∀ (n:Nat) (is:List Bool),(∀ i:Nat,is.getD i false=true→rG g i)→∀ i:Nat,(iter (mw g true) n is).getD i false=true→rG g i:=by
    intro n
    induction n with
    | zero=>intro is h; exact h
    | succ n ih=>intro is h; exact ih _ (hfold g.rules is (fun _ h=>h) h)
  rw[aG,if_pos hr]
  exact hit _ _ fun i hi=>by rw[w9] at hi; simp at hi
theorem Ae (t:Bool) (is:List Bool) (R:aJ):eJ is (dK t is R):=by
  unfold dK
  split
  · exact .set _ _
  · exact .refl _
theorem zB (t:Bool):∀ (l:List aJ) (is:List Bool),eJ is (l.foldl (dK t) is)
  | [],is=>.refl _
  | R :: l,is=>(Ae t is R).trans (zB t l _)
theorem x9 {t:Bool} : ∀ {l:List aJ} {is:List Bool},l.foldl (dK t) is=is→∀ R∈l,dK t is R=is
  | [],_,_,_,h=>by simp at h
  | R :: l,is,h,x,hx=>by
    rw[List.foldl_cons] at h
    have h1:=zB t l (dK t is R)
    rw[h] at h1
    have h2:=(h1.Kd (Ae t is R))
    rcases List.mem_cons.1 hx with rfl | hx
    · exact h2
    · rw[h2] at h; exact x9 h x hx
theorem G7 {g:al} (hr:bm g=true) (t:Bool):mw g t (aG g t)=aG g t:=by
  have hf:=bg hr
  have h:=pq (oI t) g.rules 16 (cE g) (by have:=hf.aw; simp[cE]; omega)
  rw[EX,Hg hr] at h
  exact h.1
theorem oM {g:al} (hr:bm g=true) {t:Bool} {R:aJ} (hR:R∈g.rules) (ha:ey R.right (aG g t) t=true):(aG g t).getD R.left.toNat false=true:=by
  have h1:=x9 (G7 hr t) R hR
  have hf:=bg hr
  have hl:=mB hr t
  have hb:=hf.left R hR
  unfold dK at h1
  rw[if_pos ha] at h1
  rw[← h1]
  simp only[List.getD_eq_getElem?_getD]
  rw[List.getElem?_set_self (by omega)]
  rfl
theorem uA {g:al} (hr:bm g=true) {x:Int} (h:rG g x):(aG g true).getD x.toNat false=true:=by
  induction h with
  | mk R hR _ ih=>exact oM hr hR (sJ.2 fun s hs hn=>ih s hs hn)
theorem uQ {g:al} (hr:bm g=true):∀ i:Nat,(bw g).getD i false=true→lJ g (aG g true) i:=by
  have hf:=bg hr
  have hmk:∀ (R:aJ),R∈g.rules→lJ g (aG g true) R.left→ey R.right (aG g true) true=true→∀ (l:List Int) (is:List Bool),(∀ s∈l,s∈R.right)→(∀ i:Nat,is.getD i false=true→lJ g (aG g true) i)→∀ i:Nat,(l.foldl mark is).getD i false=true→lJ g (aG g true) i:=by
    intro R hR hl ha l
    induction l with
    | nil=>intro is _ h; exact h
    | cons s l ih =>
      intro is hs h
      refine ih _ (fun x hx=>hs x (by simp[hx])) fun i hi=>?_
      unfold mark at hi
      split at hi
      · rename_i hn
        rcases wz hi with rfl | hi
        · rw[show (((-1 - s).toNat:Nat):Int) = -1 - s by omega]
          exact .next R s hR hl ha (hs s (by simp)) hn
        · exact h i hi
      · exact h i hi
  have hst:∀ (is:List Bool) (R:aJ),R∈g.rules→(∀ i:Nat,is.getD i false=true→lJ g (aG g true) i)→∀ i:Nat,(ik (aG g true) is R).getD i false=true→lJ g (aG g true) i:=by
    intro is R hR h
    unfold ik
    split
    · rename_i ha
      rw[Bool.and_eq_true] at ha
      have h1:=h _ ha.1
      have:=hf.left R hR
      rw[show ((R.left.toNat:Nat):Int)=R.left by omega] at h1
      exact hmk R hR h1 ha.2 R.right is (fun _ h=>h) h
    · exact h
  have hfold:∀ (l:List aJ) (is:List Bool),(∀ R∈l,R∈g.rules)→(∀ i:Nat,is.getD i false=true→lJ g (aG g true) i)→∀ i:Nat,(l.foldl (ik (aG g true)) is).getD i false=true→lJ g (aG g true) i:=by
    intro l
    induction l with
    | nil=>intro is _ h; exact h
    | cons R l ih=>intro is hl h; exact ih _ (fun x hx=>hl x (by simp[hx])) (hst is R (hl R (by simp)) h)
  have hit:∀ (n:Nat) (is:List Bool),(∀ i:Nat,is.getD i false=true→lJ g (aG g true) i)→∀ i:Nat,(iter (q8 g (aG g true)) n is).getD i false=true→lJ g (aG g true) i:=by
    intro n
    induction n with
    | zero=>intro is h; exact h
    | succ n ih=>intro is h; exact ih _ (hfold g.rules is (fun _ h=>h) h)
  rw[bw,if_pos hr]
  refine hit _ _ fun i hi=>?_
  rcases wz hi with rfl | hi
  · have:=hf.gV
    rw[show ((g.start.toNat:Nat):Int)=g.start by omega]
    exact .start
  · rw[w9] at hi; simp at hi
theorem uS {g:al} (hr:bm g=true) {x:Int} (h:lJ g (aG g true) x):(bw g).getD x.toNat false=true:=by
  induction h with
  | start=>exact qG hr
  | next R s hR _ ha hs hn ih=>exact sB hr hR (by rw[bI,ih,ha]; rfl) hs hn
section
variable {g r:al} {p q:List Bool} {o:List Int}
theorem dz.M0 (h:dz g p q o r) {x:Int} (hd:rG g x):x∈o→rG r (bK o x):=by
  induction hd with
  | mk R hR hsub ih =>
    intro hx
    obtain ⟨R1,hR1,hk1,e1⟩:=h.from_ _ hx
    have hk:bI p q R=true:=by
      rw[bI,Bool.and_eq_true] at hk1 ⊢
      refine ⟨by rw[← e1]; exact hk1.1,?_⟩
      rw[h.pe]
      exact sJ.2 fun s hs hn=>uA h.right (hsub s hs hn)
    have hin:=(h.kept R hR hk).2
    have hm:bA (bK o) R∈r.rules:=by rw[h.rules]; exact List.mem_map.2 ⟨R,List.mem_filter.2 ⟨hR,hk⟩,rfl⟩
    refine rG.mk (bA (bK o) R) hm fun s' hs' hn'=>?_
    simp only[bA,List.mem_map] at hs'
    obtain ⟨s,hs,rfl⟩:=hs'
    by_cases hn:s < 0
    · rw[if_pos hn]
      have:=ih s hs hn (hin s hs hn)
      rwa [show -1 - (-1 - bK o (-1 - s))=bK o (-1 - s) by omega]
    · rw[if_neg hn] at hn'; omega
theorem dz.Mw (h:dz g p q o r) {x:Int} (hx:x∈o):(aG r true).getD (bK o x).toNat false=true:=by
  obtain ⟨R,hR,hk,rfl⟩:=h.from_ _ hx
  rw[bI,Bool.and_eq_true,h.pe] at hk
  have h1:=oM h.right hR hk.2
  have h2:=BE h.right _ h1
  have:=(h.inside _ hx)
  rw[show ((R.left.toNat:Nat):Int)=R.left by omega] at h2
  exact uA h.ke (h.M0 h2 hx)
theorem dz.at_ (h:dz g p q o r) {k:Nat} (hk:k < o.length):∃ x∈o,bK o x=k∧o[k]?=some x:=⟨o[k],List.getElem_mem _,vl h.nodup (List.getElem?_eq_getElem hk),List.getElem?_eq_getElem hk⟩
theorem dz.AB (h:dz g p q o r) {k:Nat} (hk:k < o.length):(aG r true).getD k false=true:=by
  obtain ⟨x,hx,h1,_⟩:=h.at_ hk
  have:=h.Mw hx
  rwa [h1,Int.toNat_natCast] at this
theorem dz.HJ (h:dz g p q o r) {R:aJ} (hR:R∈r.rules):ey R.right (aG r true) true=true:=by
  have hf:=bg h.ke
  refine sJ.2 fun s hs hn=>h.AB ?_
  have:=hf.neg hR hs hn
  rw[h.len] at this
  omega
theorem dz.M8 (h:dz g p q o r) {x:Int} (hd:lJ g (aG g true) x):lJ r (aG r true) (bK o x):=by
  induction hd with
  | start=>rw[← h.Ce]; exact .start
  | next R s hR h1 ha hs hn ih =>
    have hk:bI p q R=true:=by
      rw[bI,h.pe,h.qe,ha,uS h.right h1]; rfl
    have hm:bA (bK o) R∈r.rules:=by rw[h.rules]; exact List.mem_map.2 ⟨R,List.mem_filter.2 ⟨hR,hk⟩,rfl⟩
    have hin:=(h.kept R hR hk).2 s hs hn
    have h2:=jb hin
    have:=lJ.next (g:=r) (p:=aG r true) (bA (bK o) R) (-1 - bK o (-1 - s)) hm ih (h.HJ hm) (by
      simp only[bA,List.mem_map]
      exact ⟨s,hs,by rw[if_pos hn]⟩) (by omega)
    rwa [show -1 - (-1 - bK o (-1 - s))=bK o (-1 - s) by omega] at this
theorem dz.zM (h:dz g p q o r) {k:Nat} (hk:k < o.length):(bw r).getD k false=true:=by
  obtain ⟨x,hx,h1,_⟩:=h.at_ hk
  obtain ⟨R,hR,hkk,rfl⟩:=h.from_ _ hx
  rw[bI,Bool.and_eq_true,h.qe] at hkk
  have h2:=uQ h.right _ hkk.1
  have:=(h.inside _ hx)
  rw[show ((R.left.toNat:Nat):Int)=R.left by omega] at h2
  have:=uS h.ke (h.M8 h2)
  rwa [h1,Int.toNat_natCast] at this
def jA (n:Nat):List Int:=(List.range n).map fun (k:Nat)=>(k:Int)
theorem BU (n:Nat):(jA n).length=n:=by simp[jA]
theorem v7 {n k:Nat} (h:k < n):(jA n)[k]?=some (k:Int):=by simp[jA,h]
theorem F4 (n:Nat):(jA n).Nodup:=by
  rw[jA,List.nodup_iff_pairwise_ne,List.pairwise_map]
  exact (List.nodup_range (n:=n)).imp fun h e=>h (by omega)
theorem wL {n:Nat} {x:Int} (h0:0≤x) (h1:x < n):bK (jA n) x=x:=by
  have:=vl (F4 n) (v7 (n:=n) (k:=x.toNat) (by omega))
  rw[show ((x.toNat:Nat):Int)=x by omega] at this
  exact this
theorem zO {p q:List Bool} : ∀ (l:List aJ) (i:Int),(∀ R∈l,bI p q R=true)→cP p q l i=(List.range l.length).map fun (k:Nat)=>i+(k:Int)
  | [],_,_=>rfl
  | R :: l,i,h=>by
    rw[cP,if_pos (h R (by simp)),zO l (i+1) (fun x hx=>h x (by simp[hx])),List.length_cons,List.range_succ_eq_map,List.map_cons,List.map_map]
    congr 1
    · omega
    · apply List.map_congr_left
      intro k _
      simp only[Function.comp]
      push_cast; omega
theorem rI {f:Int→Int} {o:List Int} (hf:∀ x∈o,∀ y∈o,f x=f y→x=y):∀ (l:List aJ) (acc:List Int),(∀ x∈acc,x∈o)→(∀ R∈l,R.left∈o)→(l.map (bA f)).foldl dn (acc.map f)=(l.foldl dn acc).map f
  | [],_,_,_=>rfl
  | R :: l,acc,ha,hl=>by
    have e:dn (acc.map f) (bA f R)=(dn acc R).map f:=by
      have h1:(bA f R).left=f R.left:=rfl
      unfold dn
      rw[h1]
      by_cases h:R.left∈acc
      · rw[if_pos h,if_pos (List.mem_map.2 ⟨_,h,rfl⟩)]
      · rw[if_neg h,if_neg (fun hm=>by
          obtain ⟨y,hy,e⟩:=List.mem_map.1 hm
          exact h (hf y (ha y hy) _ (hl R (by simp)) e ▸ hy))]
        simp
    rw[List.map_cons,List.foldl_cons,List.foldl_cons,e]
    refine rI hf l (dn acc R) (fun x hx=>?_) (fun x hx=>hl x (by simp[hx]))
    unfold dn at hx
    split at hx
    · exact ha x hx
    · rcases List.mem_append.1 hx with hx | hx
      · exact ha x hx
      · simp at hx; subst hx; exact hl R (by simp)
theorem dz.inj (h:dz g p q o r):∀ x∈o,∀ y∈o,bK o x=bK o y→x=y:=by
  intro x hx y hy e
  have h1:=wP hx
  have h2:=wP hy
  rw[e,h2] at h1
  exact (Option.some.inj h1).symm
theorem dz.Lr (h:dz g p q o r):o.map (bK o)=jA o.length:=by
  apply List.ext_getElem?
  intro k
  rw[List.getElem?_map]
  by_cases hk:k < o.length
  · rw[v7 hk,List.getElem?_eq_getElem hk,Option.map_some,vl h.nodup (List.getElem?_eq_getElem hk)]
  · rw[List.getElem?_eq_none (by omega),List.getElem?_eq_none (by rw[BU]; omega)]; rfl
theorem dz.wO (h:dz g p q o r):∀ R∈r.rules,bI (aG r true) (bw r) R=true:=fun R hR=>by
  have hf:=bg h.ke
  have:=hf.left R hR
  rw[h.len] at this
  rw[bI,h.zM (by omega),h.HJ hR]; rfl
theorem dz.ord (h:dz g p q o r):cb (aG r true) (bw r) r.rules=jA o.length:=by
  unfold cb
  rw[List.filter_eq_self.2 h.wO,h.rules]
  have:=rI h.inj (g.rules.filter (bI p q)) [] (by simp) (fun R hR=>by
    obtain ⟨h1,h2⟩:=List.mem_filter.1 hR
    exact (h.kept R h1 h2).1)
  rw[List.map_nil] at this
  rw[this,← h.Lr]
  congr 1
  rw[h.oe]; rfl
theorem dz.once (h:dz g p q o r):fK r=(r,jA r.rules.length,0):=by
  have hf:=bg h.ke
  have hst:=hf.start
  have hst0:=hf.gV
  rw[h.len] at hst
  rw[oK h.ke,if_pos (h.AB (by omega)),h.ord]
  have hk:cP (aG r true) (bw r) r.rules 0=jA r.rules.length:=by
    rw[zO _ _ h.wO]
    unfold jA
    apply List.map_congr_left
    intro k _; omega
  have hr:iO r (bK (jA o.length)) (aG r true) (bw r)=r:=by
    unfold iO
    rw[h.ord,List.filter_eq_self.2 h.wO]
    have e1:((jA o.length).map fun x=>r.aw.getD x.toNat ⟨#[]⟩)=r.aw:=by
      apply List.ext_getElem?
      intro k
      rw[List.getElem?_map]
      by_cases hkk:k < o.length
      · rw[v7 hkk,Option.map_some]
        simp[List.getD_eq_getElem?_getD,List.getElem?_eq_getElem (show k < r.aw.length by rw[h.len]; omega)]
      · rw[List.getElem?_eq_none (by rw[BU]; omega),List.getElem?_eq_none (by rw[h.len]; omega)]; rfl
    have e2:r.rules.map (bA (bK (jA o.length)))=r.rules:=by
      conv=>rhs; rw[← List.map_id r.rules]
      apply List.map_congr_left
      intro R hR
      have hl:=hf.left R hR
      rw[h.len] at hl
      unfold bA
      rw[wL hl.1 hl.2]
      have e3:(R.right.map fun s=>if s < 0 then -1 - bK (jA o.length) (-1 - s) else s)=R.right:=by
        conv=>rhs; rw[← List.map_id R.right]
        apply List.map_congr_left
        intro s hs
        by_cases hn:s < 0
        · have:=hf.neg hR hs hn
          rw[h.len] at this
          rw[if_pos hn,wL (by omega) this]
          simp only[id]; omega
        · rw[if_neg hn]; rfl
      rw[e3]; rfl
    rw[e1,e2,wL hst0 hst]
  rw[hr,hk]
end
def isRed (g:al):Bool:=(fK g).2.2 == 0 && decide (g=(fK g).1)
end Gv
set_option linter.unusedSimpArgs false
namespace Gv
open Go Go.Proofs
end Gv
set_option linter.unusedSimpArgs false
namespace Gv
open Go Go.Proofs
structure aY where
  bc:Int
  br:Int
  rules:Int
  ay:Int
def gE:aY:=⟨(-1),0,0,0⟩
def bo:aY:=⟨0,0,0,0⟩
def aX (P:List aY) (m:Nat):aY:=P.getD m gE
abbrev bL (x:Int):Nat:=(-1 - x).toNat
def bB (P:List aY):List Int→aY→aY × Bool
  | [],s=>(s,true)
  | x :: l,s=>if 0≤x then bB P l ⟨s.bc,s.br,s.rules,min 1048576 (s.ay+1)⟩
    else if (aX P (bL x)).bc < 0 then (s,false)
    else bB P l ⟨s.bc,max s.br (aX P (bL x)).br,min 1048576 (s.rules+(aX P (bL x)).rules),min 1048576 (s.ay+(aX P (bL x)).ay)⟩
def bk (P:List aY) (m:Nat):Prop:=0≤(aX P m).bc
def jB (P:List aY) (l:List Int):Prop:=∀ x∈l,x < 0→bk P (bL x)
theorem kn (P:List aY):∀ (l:List Int) (s:aY),(bB P l s).2=true↔jB P l
  | [],s=>by simp[bB,jB]
  | x :: l,s=>by
    simp only[bB,jB,List.mem_cons]
    by_cases h:0≤x
    · rw[if_pos h,kn P l]
      refine ⟨fun k y hy hn=>?_,fun k y hy=>k y (.inr hy)⟩
      rcases hy with rfl | hy
      · omega
      · exact k y hy hn
    · rw[if_neg h]
      by_cases h2:(aX P (bL x)).bc < 0
      · rw[if_pos h2]
        simp only[Bool.false_eq_true,false_iff]
        intro k
        have:=k x (.inl rfl) (by omega)
        unfold bk at this; omega
      · rw[if_neg h2,kn P l]
        refine ⟨fun k y hy hn=>?_,fun k y hy=>k y (.inr hy)⟩
        rcases hy with rfl | hy
        · unfold bk; omega
        · exact k y hy hn
theorem fO (P:List aY) (k:Int):∀ (l:List Int) (s:aY),jB P l→((bB P l s).1.br≤k↔s.br≤k∧∀ x∈l,x < 0→(aX P (bL x)).br≤k)
  | [],s,_=>by simp[bB]
  | x :: l,s,h=>by
    have hl:jB P l:=fun y hy=>h y (by simp[hy])
    simp only[bB,List.mem_cons]
    by_cases h0:0≤x
    · rw[if_pos h0,fO P k l _ hl]
      refine ⟨fun ⟨a,b⟩=>⟨a,fun y hy hn=>?_⟩,fun ⟨a,b⟩=>⟨a,fun y hy=>b y (.inr hy)⟩⟩
      rcases hy with rfl | hy
      · omega
      · exact b y hy hn
    · have:=h x (by simp) (by omega)
      unfold bk at this
      rw[if_neg h0,if_neg (by omega),fO P k l _ hl]
      refine ⟨fun ⟨a,b⟩=>⟨by simp only at a; omega,fun y hy hn=>?_⟩,fun ⟨a,b⟩=>⟨by have:=b x (.inl rfl) (by omega); simp only; omega,fun y hy=>b y (.inr hy)⟩⟩
      rcases hy with rfl | hy
      · simp only at a; omega
      · exact b y hy hn
theorem xb {P P':List aY} : ∀ (l:List Int) (s:aY),(∀ x∈l,x < 0→aX P (bL x)=aX P' (bL x))→bB P l s=bB P' l s
  | [],s,_=>rfl
  | x :: l,s,h=>by
    have hl:=fun s=>xb (P:=P) (P':=P') l s fun y hy=>h y (by simp[hy])
    simp only[bB]
    by_cases h0:0≤x
    · rw[if_pos h0,if_pos h0,hl]
    · rw[if_neg h0,if_neg h0,h x (by simp) (by omega),hl]
theorem pG (P:List aY):∀ (l:List Int) (s:aY),s.br≤(bB P l s).1.br
  | [],s=>Int.le_refl _
  | x :: l,s=>by
    simp only[bB]
    split
    · exact pG P l _
    · split
      · exact Int.le_refl _
      · have:=pG P l ⟨s.bc,max s.br (aX P (bL x)).br,min 1048576 (s.rules+(aX P (bL x)).rules),min 1048576 (s.ay+(aX P (bL x)).ay)⟩
        simp only at this ⊢; omega
def eQ (P:List aY) (i:Nat) (r:aJ):aY:=⟨i,(bB P r.right bo).1.br+1,min 1048576 ((bB P r.right bo).1.rules+1),(bB P r.right bo).1.ay⟩
def my (P:List aY) (i:Nat) (N:List aY) (r:aJ):List aY :=
  if 0≤(aX N r.left.toNat).bc then N else if (bB P r.right bo).2=true then N.set r.left.toNat (eQ P i r) else N
def jK (P:List aY):Nat→List aY→List aJ→List aY
  | _,N,[]=>N
  | i,N,r :: l=>jK P (i+1) (my P i N r) l
def uo (rules:List aJ) (P:List aY):List aY:=jK P 0 P rules
def jS (P:List aY) (m:Nat):Nat→List aJ→Option aY
  | _,[]=>none
  | i,r :: l=>if r.left.toNat=m∧(bB P r.right bo).2=true then some (eQ P i r) else jS P m (i+1) l
theorem ve {N:List aY} {i m:Nat} {p:aY} (hm:m < N.length):aX (N.set i p) m=if i=m then p else aX N m:=by
  simp only[aX,List.getD_eq_getElem?_getD,List.getElem?_set]
  split
  · rename_i e; subst e; simp[hm]
  · rfl
theorem Au (P:List aY) (i:Nat) (N:List aY) (r:aJ):(my P i N r).length=N.length:=by
  unfold my; split; · rfl
  split <;> simp
theorem zX (P:List aY):∀ (l:List aJ) (i:Nat) (N:List aY),(jK P i N l).length=N.length
  | [],_,_=>rfl
  | r :: l,i,N=>by rw[jK,zX P l,Au]
theorem Bd (P:List aY) (m:Nat):∀ (l:List aJ) (i:Nat) (N:List aY),m < N.length→aX (jK P i N l) m=if 0≤(aX N m).bc then aX N m else (jS P m i l).getD (aX N m)
  | [],i,N,hm=>by simp[jK,jS]
  | r :: l,i,N,hm=>by
    rw[jK,Bd P m l (i+1) _ (by rw[Au]; exact hm),jS]
    unfold my
    by_cases h1:0≤(aX N r.left.toNat).bc
    · rw[if_pos h1]
      by_cases h2:r.left.toNat=m
      · subst h2
        rw[if_pos h1,if_pos h1]
      · rw[if_neg (c:=r.left.toNat=m∧_) (fun e=>h2 e.1)]
    · rw[if_neg h1]
      by_cases h3:(bB P r.right bo).2=true
      · rw[if_pos h3]
        by_cases h2:r.left.toNat=m
        · subst h2
          rw[ve hm,if_pos rfl,if_neg h1,if_pos (show (0:Int)≤(eQ P i r).bc by simp only[eQ]; omega),if_pos (c:=r.left.toNat=r.left.toNat∧_) (And.intro rfl h3)]
          rfl
        · rw[ve hm,if_neg h2,if_neg (c:=r.left.toNat=m∧_) (fun e=>h2 e.1)]
      · rw[if_neg h3,if_neg (c:=r.left.toNat=m∧_) (fun e=>h3 e.2)]
theorem iB {P:List aY} {m:Nat} : ∀ {l:List aJ} {i:Nat} {p:aY},jS P m i l=some p→∃ (j:Nat) (r:aJ),l[j]?=some r∧r.left.toNat=m∧jB P r.right∧p=eQ P (i+j) r∧∀ (j':Nat) (r':aJ),j' < j→l[j']?=some r'→r'.left.toNat=m→¬ jB P r'.right
  | [],i,p,h=>by simp[jS] at h
  | r :: l,i,p,h=>by
    rw[jS] at h
    by_cases hc:r.left.toNat=m∧(bB P r.right bo).2=true
    · rw[if_pos hc] at h
      exact ⟨0,r,rfl,hc.1,(kn P _ _).1 hc.2,by simpa using h.symm,fun j' r' hj=>by omega⟩
    · rw[if_neg hc] at h
      obtain ⟨j,r2,a,b,c,d,e⟩:=iB h
      refine ⟨j+1,r2,by simpa using a,b,c,by rw[d]; congr 1; omega,fun j' r' hj hr hl hk=>?_⟩
      cases j' with
      | zero =>
        simp at hr; subst hr
        exact hc ⟨hl,(kn P _ _).2 hk⟩
      | succ j'=>exact e j' r' (by omega) (by simpa using hr) hl hk
theorem Ax {P:List aY} {m:Nat} : ∀ {l:List aJ} {i:Nat},jS P m i l=none→∀ r∈l,r.left.toNat=m→¬ jB P r.right
  | [],i,h,r,hr,_,_=>by simp at hr
  | r :: l,i,h,r',hr,hl,hk=>by
    rw[jS] at h
    by_cases hc:r.left.toNat=m∧(bB P r.right bo).2=true
    · rw[if_pos hc] at h; simp at h
    · rw[if_neg hc] at h
      rcases List.mem_cons.1 hr with rfl | hr
      · exact hc ⟨hl,(kn P _ _).2 hk⟩
      · exact Ax h r' hr hl hk
def aD (g:al) (k:Nat):List aY:=iter (uo g.rules) k (List.replicate g.aw.length gE)
theorem Am {α:Type} (f:α→α):∀ (k:Nat) (x:α),iter f (k+1) x=f (iter f k x)
  | 0,x=>rfl
  | k+1,x=>by rw[iter,Am f k,iter]
theorem kH (g:al) (k:Nat):aD g (k+1)=uo g.rules (aD g k):=Am _ _ _
theorem er (g:al):∀ k,(aD g k).length=g.aw.length
  | 0=>by simp[aD,iter]
  | k+1=>by rw[kH,uo,zX,er g k]
theorem ry {P:List aY} {m:Nat} (h:P.length≤m):aX P m=gE:=by simp[aX,List.getD_eq_getElem?_getD,List.getElem?_eq_none h]
theorem Cp {P:List aY} {m:Nat} (h:bk P m):m < P.length:=by
  rcases Nat.lt_or_ge m P.length with h1 | h1
  · exact h1
  · unfold bk at h; rw[ry h1] at h; simp[gE] at h
theorem oC (g:al) (k m:Nat):aX (aD g (k+1)) m=if 0≤(aX (aD g k) m).bc then aX (aD g k) m else if m < g.aw.length then (jS (aD g k) m 0 g.rules).getD (aX (aD g k) m) else aX (aD g k) m:=by
  by_cases hm:m < g.aw.length
  · rw[kH,uo,Bd _ _ _ _ _ (by rw[er]; exact hm),if_pos hm]
  · rw[if_neg hm,ry (by rw[er]; omega),ry (by rw[er]; omega)]
    simp
theorem xi {g:al} {k m:Nat} (h:bk (aD g k) m):aX (aD g (k+1)) m=aX (aD g k) m:=by
  rw[oC]; unfold bk at h; rw[if_pos h]
theorem vT {g:al} {k m:Nat} (h:bk (aD g k) m):∀ d,aX (aD g (k+d)) m=aX (aD g k) m
  | 0=>rfl
  | d+1=>by
    have ih:=vT h d
    have:bk (aD g (k+d)) m:=by unfold bk at h ⊢; rw[ih]; exact h
    rw[← ih,← xi this]; rfl
theorem eT {g:al} {k m j:Nat} (h:bk (aD g k) m) (hj:k≤j):aX (aD g j) m=aX (aD g k) m∧bk (aD g j) m:=by
  obtain ⟨d,rfl⟩:∃ d,j=k+d:=⟨j - k,by omega⟩
  have:=vT h d
  exact ⟨this,by unfold bk at h ⊢; rw[this]; exact h⟩
theorem uj {g:al} {k m:Nat} (h0:¬ bk (aD g k) m) (h:bk (aD g (k+1)) m):jS (aD g k) m 0 g.rules=some (aX (aD g (k+1)) m):=by
  unfold bk at h h0
  rw[oC,if_neg h0] at h
  rw[oC,if_neg h0]
  split at h
  · rename_i hm
    rw[if_pos hm]
    cases hc:jS (aD g k) m 0 g.rules with
    | none=>rw[hc] at h; exact absurd h h0
    | some p=>rfl
  · exact absurd h h0
theorem jU {g:al} {m:Nat} : ∀ {k:Nat},¬ bk (aD g k) m→aX (aD g k) m=gE
  | 0,_=>by
    simp only[aD,iter,aX,List.getD_eq_getElem?_getD,List.getElem?_replicate]
    split <;> rfl
  | k+1,h=>by
    have h0:¬ bk (aD g k) m:=fun e=>h (eT e (by omega)).2
    unfold bk at h h0
    rw[oC,if_neg h0] at h ⊢
    split
    · rename_i hm
      rw[if_pos hm] at h
      cases hc:jS (aD g k) m 0 g.rules with
      | none=>exact jU (k:=k) h0
      | some p =>
        rw[hc] at h
        obtain ⟨j,r,_,_,_,rfl,_⟩:=iB hc
        simp only[Option.getD_some,eQ] at h; omega
    · exact jU (k:=k) h0
theorem ez (g:al):∀ k:Nat,∀ m,bk (aD g k) m→1≤(aX (aD g k) m).br∧(aX (aD g k) m).br≤k∧∀ j:Nat,j≤k→(aX (aD g k) m).br≤j→bk (aD g j) m
  | 0,m,h=>by
    unfold bk at h
    have:aX (aD g 0) m=gE:=by
      simp only[aD,iter,aX,List.getD_eq_getElem?_getD,List.getElem?_replicate]
      split <;> rfl
    rw[this] at h; simp[gE] at h
  | k+1,m,h=>by
    have ih:=ez g k
    by_cases h0:bk (aD g k) m
    · obtain ⟨a,b,c⟩:=ih m h0
      rw[(eT h0 (Nat.le_succ k)).1]
      refine ⟨a,by push_cast; omega,fun j hj hh=>?_⟩
      rcases Nat.lt_or_ge k j with e | e
      · exact (eT h0 (by omega)).2
      · exact c j e hh
    · have hc:=uj h0 h
      obtain ⟨i,r,hr,hl,hk,hp,_⟩:=iB hc
      have hh:(aX (aD g (k+1)) m).br=(bB (aD g k) r.right bo).1.br+1:=by rw[hp]; rfl
      have h1:=pG (aD g k) r.right bo
      have h2:=(fO (aD g k) k r.right bo hk).2 ⟨by simp[bo],fun x hx hn=>(ih _ (hk x hx hn)).2.1⟩
      have h3:¬ (bB (aD g k) r.right bo).1.br≤(k:Int) - 1:=by
        intro hle
        have hz:(0:Int)≤(bB (aD g k) r.right bo).1.br:=h1
        obtain ⟨d,rfl⟩:∃ d,k=d+1:=⟨k - 1,by omega⟩
        have h4:=((fO (aD g (d+1)) _ r.right bo hk).1 hle).2
        have h5:jB (aD g d) r.right:=fun x hx hn=>(ih _ (hk x hx hn)).2.2 d (by omega) (by have:=h4 x hx hn; push_cast at this; omega)
        apply h0
        by_cases h6:bk (aD g d) m
        · exact (eT h6 (by omega)).2
        · unfold bk at h6 ⊢
          have hm:=Cp h
          rw[er] at hm
          rw[oC,if_neg h6,if_pos hm]
          cases hc2:jS (aD g d) m 0 g.rules with
          | none=>exact absurd h5 (Ax hc2 r (List.mem_of_getElem? hr) hl)
          | some p =>
            obtain ⟨j,r2,_,_,_,rfl,_⟩:=iB hc2
            simp only[Option.getD_some,eQ]; omega
      have hz:(0:Int)≤(bB (aD g k) r.right bo).1.br:=h1
      refine ⟨by omega,by push_cast; omega,fun j hj hle=>?_⟩
      have:j=k+1:=by omega
      subst this; exact h
theorem so {g:al} {m:Nat} : ∀ {k:Nat},bk (aD g k) m→∃ j,j < k∧¬ bk (aD g j) m∧(aX (aD g k) m).br=j+1∧jS (aD g j) m 0 g.rules=some (aX (aD g k) m)
  | 0,h=>by
    have:=(ez g 0 m h)
    simp at this; omega
  | k+1,h=>by
    by_cases h0:bk (aD g k) m
    · obtain ⟨j,a,b,c,d⟩:=so h0
      rw[(eT h0 (Nat.le_succ k)).1]
      exact ⟨j,by omega,b,c,d⟩
    · refine ⟨k,by omega,h0,?_,uj h0 h⟩
      obtain ⟨a,b,c⟩:=ez g (k+1) m h
      rcases Int.lt_or_le (k:Int) (aX (aD g (k+1)) m).br with e | e
      · push_cast at b; omega
      · exact absurd (c k (by omega) e) h0
def oZ (P:List aY):List Bool:=P.map fun p=>decide (0≤p.bc)
theorem yr (P:List aY) (m:Nat):(oZ P).getD m false=true↔bk P m:=by
  simp only[oZ,bk,aX,List.getD_eq_getElem?_getD,List.getElem?_map]
  cases P[m]? with
  | none=>simp[gE]
  | some p=>simp
theorem Mh (g:al) (k:Nat):eJ (oZ (aD g k)) (oZ (aD g (k+1))) :=
  ⟨by simp[oZ,er],fun i h=>(yr _ _).2 (eT ((yr _ _).1 h) (by omega)).2⟩
theorem LP {g:al} {k:Nat} (h:oZ (aD g k)=oZ (aD g (k+1))):aD g (k+1)=aD g k:=by
  have hp:∀ m,aX (aD g (k+1)) m=aX (aD g k) m:=fun m=>by
    by_cases h0:bk (aD g k) m
    · exact xi h0
    · have h1:¬ bk (aD g (k+1)) m:=fun e=>h0 ((yr _ _).1 (by rw[h]; exact (yr _ _).2 e))
      rw[jU h0,jU h1]
  apply List.ext_getElem (by rw[er,er])
  intro m h1 h2
  have:=hp m
  simpa [aX,List.getD_eq_getElem?_getD,h1,h2] using this
theorem Fj {g:al} {k:Nat} (hk:k≤cK (oZ (aD g k))):aD g (k+1)=aD g k∨k+1≤cK (oZ (aD g (k+1))):=by
  have:=(Mh g k).cK
  by_cases e:cK (oZ (aD g k))=cK (oZ (aD g (k+1)))
  · exact .inl (LP (this.2 e))
  · exact .inr (by omega)
theorem Dn (g:al) (k:Nat):cK (oZ (aD g k))≤g.aw.length:=by
  have:=sq (oZ (aD g k))
  simpa [oZ,er] using this
theorem xQ {g:al} {k:Nat} (h:aD g (k+1)=aD g k):∀ d,aD g (k+d)=aD g k
  | 0=>rfl
  | d+1=>by
    have ih:=xQ h d
    rw[← Nat.add_assoc,kH,ih,← kH,h]
def ar (g:al):List aY:=aD g g.aw.length
theorem kh (g:al):(ar g).length=g.aw.length:=er _ _
theorem Jv {g:al} {k:Nat} (hk:k≤g.aw.length) (h:aD g (k+1)=aD g k):aD g k=ar g:=by
  obtain ⟨d,hd⟩:∃ d,g.aw.length=k+d:=⟨g.aw.length - k,by omega⟩
  rw[ar,hd,xQ h d]
theorem g8 {g:al} {m:Nat} (h:bk (ar g) m):1≤(aX (ar g) m).br∧(aX (ar g) m).br≤g.aw.length:=⟨(ez g _ m h).1,(ez g _ m h).2.1⟩
theorem B3 {g:al} {m:Nat} (h:¬ bk (ar g) m):aX (ar g) m=gE:=jU h
theorem vK {g:al} {m:Nat} (h:bk (ar g) m):∃ (i:Nat) (r:aJ),g.rules[i]?=some r∧r.left.toNat=m∧jB (ar g) r.right∧aX (ar g) m=eQ (ar g) i r ∧
    ∀ (j:Nat) (r':aJ),j < i→g.rules[j]?=some r'→r'.left.toNat=m→jB (ar g) r'.right→(bB (ar g) r'.right bo).1.br+1≠(aX (ar g) m).br:=by
  obtain ⟨k,hk,hn,hh,hc⟩:=so h
  obtain ⟨i,r,hr,hl,ha,hp,hmin⟩:=iB hc
  have hsame:∀ x∈r.right,x < 0→aX (aD g k) (bL x)=aX (ar g) (bL x):=fun x hx hn=>((eT (ha x hx hn) (by omega)).1).symm
  have hs:bB (aD g k) r.right bo=bB (ar g) r.right bo:=xb _ _ hsame
  refine ⟨i,r,hr,hl,fun x hx hn=>(eT (ha x hx hn) (by omega)).2,?_,fun j r' hj hr' hl' ha' he=>?_⟩
  · show aX (aD g g.aw.length) m=_
    rw[hp]; unfold eQ; rw[hs,Nat.zero_add]
  · have h1:(aX (ar g) m).br=k+1:=hh
    refine hmin j r' hj hr' hl' fun x hx hn=>?_
    have h2:=((fO (ar g) k r'.right bo ha').1 (by omega)).2 x hx hn
    exact (ez g _ _ (ha' x hx hn)).2.2 k (by omega) h2
end Gv
set_option linter.unusedSimpArgs false
namespace Gv
open Go Go.Proofs
def Lx (h:List Int) (m:Nat):Int:=h.getD m 0
abbrev Lw (P:List aY):List Int:=P.map aY.br
theorem KW (P:List aY) (m:Nat):Lx (Lw P) m=(aX P m).br:=by
  simp only[Lx,aX,List.getD_eq_getElem?_getD,List.getElem?_map]
  cases P[m]? <;> rfl
def Kt (P:List aY):Prop:=∀ m,(bk P m→1≤(aX P m).br)∧(¬ bk P m→aX P m=gE)
theorem Kt.zero {P:List aY} (h:Kt P) (m:Nat):Lx (Lw P) m=0↔¬ bk P m:=by
  rw[KW]
  constructor
  · intro e k; have:=(h m).1 k; omega
  · intro k; rw[(h m).2 k]; rfl
theorem zp {P:List aY} {x:Int} {l:List Int} {s:aY} (h:0≤x):bB P (x :: l) s=bB P l ⟨s.bc,s.br,s.rules,min 1048576 (s.ay+1)⟩:=by rw[bB,if_pos h]
theorem wg {P:List aY} {x:Int} {l:List Int} {s:aY} (h:¬ 0≤x) (hk:¬ (aX P (bL x)).bc < 0):bB P (x :: l) s=bB P l ⟨s.bc,max s.br (aX P (bL x)).br,min 1048576 (s.rules+(aX P (bL x)).rules),min 1048576 (s.ay+(aX P (bL x)).ay)⟩:=by rw[bB,if_neg h,if_neg hk]
theorem HI {P:List aY} {x:Int} {l:List Int} {s:aY} (h:¬ 0≤x) (hk:(aX P (bL x)).bc < 0):bB P (x :: l) s=(s,false):=by rw[bB,if_neg h,if_pos hk]
def oX (S:List (Int × Int)) (m:Nat):Int × Int:=S.getD m (0,0)
def uU (p:aY):Int × Int:=(min 1000 p.rules,min 1000 p.ay)
def dt (p:aY):Prop:=(0≤p.rules∧p.rules≤1048576)∧(0≤p.ay∧p.ay≤1048576)
theorem oL {P:List aY} (hP:∀ m,dt (aX P m)):∀ (l:List Int) (s:aY),dt s→dt (bB P l s).1
  | [],s,h=>h
  | x :: l,s,h=>by
    have hx:=hP (bL x)
    unfold dt at h hx
    simp only[bB]
    split
    · exact oL hP l _ (by unfold dt; simp only; omega)
    · split
      · exact h
      · exact oL hP l _ (by unfold dt; simp only; omega)
theorem lW:dt bo:=by unfold dt; simp[bo]
theorem Hm:dt gE:=by unfold dt; simp[gE]
theorem gz (g:al):∀ k m,dt (aX (aD g k) m)
  | 0,m=>by
    have:aX (aD g 0) m=gE:=by
      simp only[aD,iter,aX,List.getD_eq_getElem?_getD,List.getElem?_replicate]
      split <;> rfl
    rw[this]; exact Hm
  | k+1,m=>by
    by_cases h:bk (aD g (k+1)) m
    · by_cases h0:bk (aD g k) m
      · rw[(eT h0 (Nat.le_succ k)).1]; exact gz g k m
      · obtain ⟨i,r,_,_,_,hp,_⟩:=iB (uj h0 h)
        rw[hp]
        have:=oL (gz g k) r.right bo lW
        unfold dt at this ⊢
        simp only[eQ]; omega
    · rw[jU h]; exact Hm
def pr (g:al) (i:Int):List Int:=(g.rules.getD i.toNat ⟨0,[],0⟩).right
def c5 (g:al) (P:List aY):Nat→List Int→List Int
  | 0,l=>l.flatMap fun x=>if 0≤x then [x] else []
  | f+1,l=>l.flatMap fun x=>if 0≤x then [x] else c5 g P f (pr g (aX P (bL x)).bc)
def cL (g:al) (P:List aY):Nat→List Int→List Int
  | 0,_=>[]
  | f+1,l=>l.flatMap fun x=>if 0≤x then [] else (aX P (bL x)).bc :: cL g P f (pr g (aX P (bL x)).bc)
def yc (P:List aY) (f:Nat) (l:List Int):Prop:=∀ x∈l,x < 0→bk P (bL x)∧(aX P (bL x)).br≤f
theorem m9 (g:al) (P:List aY) (f:Nat):c5 g P f []=[]:=by cases f <;> rfl
theorem pH (g:al) (P:List aY) (f:Nat):cL g P f []=[]:=by cases f <;> rfl
theorem gD (g:al) (P:List aY) (f:Nat) (a b:List Int):c5 g P f (a ++ b)=c5 g P f a ++ c5 g P f b:=by cases f <;> simp[c5]
theorem gB (g:al) (P:List aY) (f:Nat) (a b:List Int):cL g P f (a ++ b)=cL g P f a ++ cL g P f b:=by cases f <;> simp[cL]
theorem jh {g:al} {P:List aY} {f:Nat} {x:Int} (h:0≤x):c5 g P f [x]=[x]:=by cases f <;> simp[c5,h]
theorem kZ {g:al} {P:List aY} {f:Nat} {x:Int} (h:0≤x):cL g P f [x]=[]:=by cases f <;> simp[cL,h]
theorem j9 {g:al} {P:List aY} {f:Nat} {x:Int} (h:x < 0):c5 g P (f+1) [x]=c5 g P f (pr g (aX P (bL x)).bc):=by
  simp[c5,show ¬ 0≤x by omega]
theorem j3 {g:al} {P:List aY} {f:Nat} {x:Int} (h:x < 0):cL g P (f+1) [x]=(aX P (bL x)).bc :: cL g P f (pr g (aX P (bL x)).bc):=by
  simp[cL,show ¬ 0≤x by omega]
theorem y0 {g:al} {l:List Int} (h:yc (ar g) 0 l):∀ x∈l,0≤x:=fun x hx=>by
  rcases Int.lt_or_le x 0 with h1 | h1
  · obtain ⟨a,b⟩:=h x hx h1
    have:=(g8 a).1
    simp at b; omega
  · exact h1
theorem si {g:al} {f:Nat} {m:Nat} (h:bk (ar g) m) (hh:(aX (ar g) m).br≤(f:Int)+1):∃ (i:Nat) (r:aJ),(aX (ar g) m).bc=i∧g.rules[i]?=some r∧pr g (aX (ar g) m).bc=r.right∧yc (ar g) f r.right∧aX (ar g) m=eQ (ar g) i r:=by
  obtain ⟨i,r,hr,hl,ha,hp,_⟩:=vK h
  have hi:(aX (ar g) m).bc=i:=by rw[hp]; rfl
  have h2:(aX (ar g) m).br=(bB (ar g) r.right bo).1.br+1:=by rw[hp]; rfl
  have h1:=((fO (ar g) f r.right bo ha).1 (by omega)).2
  refine ⟨i,r,hi,hr,?_,fun x hx hn=>⟨ha x hx hn,h1 x hx hn⟩,hp⟩
  rw[hi]; simp[pr,List.getD_eq_getElem?_getD,hr]
theorem jg {g:al} {f:Nat} (hc:∀ x,x < 0→bk (ar g) (bL x)→(aX (ar g) (bL x)).br≤f→(aX (ar g) (bL x)).rules=min 1048576 ((cL g (ar g) f [x]).length:Int)∧(aX (ar g) (bL x)).ay=min 1048576 ((c5 g (ar g) f [x]).length:Int)) :
    ∀ (l:List Int) (s:aY),yc (ar g) f l→dt s→(bB (ar g) l s).1.rules=min 1048576 (s.rules+(cL g (ar g) f l).length)∧(bB (ar g) l s).1.ay=min 1048576 (s.ay+(c5 g (ar g) f l).length)
  | [],s,_,hs=>by
    unfold dt at hs
    rw[m9,pH]
    simp only[bB,List.length_nil]; omega
  | x :: l,s,hu,hs=>by
    have hu':yc (ar g) f l:=fun y hy=>hu y (by simp[hy])
    have e1:=gD g (ar g) f [x] l
    have e2:=gB g (ar g) f [x] l
    rw[List.singleton_append] at e1 e2
    rw[e1,e2,List.length_append,List.length_append]
    have hx:dt (aX (ar g) (bL x)):=gz g g.aw.length (bL x)
    unfold dt at hs hx
    by_cases h0:0≤x
    · obtain ⟨i1,i2⟩:=jg hc l ⟨s.bc,s.br,s.rules,min 1048576 (s.ay+1)⟩ hu' (by unfold dt; simp only; omega)
      rw[zp h0,i1,i2,jh h0,kZ h0]
      simp only[List.length_cons,List.length_nil]
      omega
    · obtain ⟨hk,hh⟩:=hu x (by simp) (by omega)
      obtain ⟨k1,k2⟩:=hc x (by omega) hk hh
      obtain ⟨i1,i2⟩:=jg hc l ⟨s.bc,max s.br (aX (ar g) (bL x)).br,min 1048576 (s.rules+(aX (ar g) (bL x)).rules),min 1048576 (s.ay+(aX (ar g) (bL x)).ay)⟩ hu' (by unfold dt; simp only; omega)
      unfold bk at hk
      rw[wg h0 (by omega),i1,i2,k1,k2]
      push_cast
      omega
theorem uV (g:al):∀ (f:Nat) (l:List Int) (s:aY),yc (ar g) f l→dt s →
    (bB (ar g) l s).1.rules=min 1048576 (s.rules+(cL g (ar g) f l).length)∧(bB (ar g) l s).1.ay=min 1048576 (s.ay+(c5 g (ar g) f l).length)
  | 0,l,s,hu,hs=>jg (fun x hx hk hh=>by have:=(g8 hk).1; simp only[Int.natCast_zero] at hh; omega) l s hu hs
  | f+1,l,s,hu,hs=>jg (fun x hx hk hh=>by
      obtain ⟨i,r,hi,hr,hra,hur,hp⟩:=si (f:=f) hk (by push_cast at hh; exact hh)
      obtain ⟨j1,j2⟩:=uV g f r.right bo hur lW
      have k1:(aX (ar g) (bL x)).rules=min 1048576 ((bB (ar g) r.right bo).1.rules+1):=by rw[hp]; rfl
      have k2:(aX (ar g) (bL x)).ay=(bB (ar g) r.right bo).1.ay:=by rw[hp]; rfl
      rw[j9 hx,j3 hx,hra,k1,k2,j1,j2]
      simp only[List.length_cons,bo]
      push_cast
      omega) l s hu hs
theorem lX {g:al} {f:Nat} (hc:∀ x,x < 0→(c5 g (ar g) f [x]).length≤6 * (cL g (ar g) f [x]).length):∀ (l:List Int),(c5 g (ar g) f l).length≤l.length+6 * (cL g (ar g) f l).length
  | []=>by rw[m9]; simp
  | x :: l=>by
    have e1:=gD g (ar g) f [x] l
    have e2:=gB g (ar g) f [x] l
    rw[List.singleton_append] at e1 e2
    rw[e1,e2,List.length_append,List.length_append]
    have ih:=lX hc l
    by_cases h0:0≤x
    · rw[jh h0,kZ h0]
      simp only[List.length_cons,List.length_nil]; omega
    · have:=hc x (by omega)
      simp only[List.length_cons]; omega
theorem Lm {g:al} (hg:∀ r∈g.rules,r.right.length≤6) (i:Int):(pr g i).length≤6:=by
  simp only[pr,List.getD_eq_getElem?_getD]
  cases hr:g.rules[i.toNat]? with
  | none=>simp
  | some r=>simpa using hg r (List.mem_of_getElem? hr)
theorem Ay {g:al} (hg:∀ r∈g.rules,r.right.length≤6):∀ (f:Nat) (l:List Int),(c5 g (ar g) f l).length≤l.length+6 * (cL g (ar g) f l).length
  | 0,l=>lX (fun x hx=>by simp[c5,show ¬ 0≤x by omega]) l
  | f+1,l=>lX (fun x hx=>by
      have i2:=Ay hg f (pr g (aX (ar g) (bL x)).bc)
      have:=Lm hg (aX (ar g) (bL x)).bc
      rw[j9 hx,j3 hx]
      simp only[List.length_cons]; omega) l
def fV (g:al) (n:Int):List Int × Int :=
  if (bm g && decide (0≤n) && decide (n < g.aw.length))=true then
    (if (aX (ar g) n.toNat).bc < 0 then ([],9) else if 300 < (aX (ar g) n.toNat).rules then ([],13) else (cL g (ar g) g.aw.length [-1 - n],0))
  else ([],1)
end Gv
set_option linter.unusedSimpArgs false
namespace Gv
open Go Go.Proofs
def mJ (p:List Int) (i:Nat) (s:Int):Prop:=∃ c,p[i]?=some c∧(c=s∨c = -1)
inductive Sp (g:al) (p:List Int):List Int→Nat→Nat→Prop
  | nil (i:Nat):Sp g p [] i i
  | term (s:Int) (l:List Int) (i j:Nat):0≤s→mJ p i s→Sp g p l (i+1) j→Sp g p (s :: l) i j
  | bV (s:Int) (l:List Int) (R:aJ) (i k j:Nat):s < 0→R∈g.rules→R.left = -1 - s→Sp g p R.right i k→Sp g p l k j→Sp g p (s :: l) i j
theorem Sp.le {g:al} {p:List Int} {l:List Int} {i j:Nat} (h:Sp g p l i j):i≤j:=by
  induction h with
  | nil=>exact Nat.le_refl _
  | term _ _ _ _ _ _ _ ih=>omega
  | bV _ _ _ _ _ _ _ _ _ _ _ ih1 ih2=>omega
theorem Sp.len {g:al} {p:List Int} {l:List Int} {i j:Nat} (h:Sp g p l i j):i≤p.length→j≤p.length:=by
  induction h with
  | nil=>exact id
  | term _ _ i _ _ hf _ ih =>
    intro _
    obtain ⟨c,hc,_⟩:=hf
    have:=(List.getElem?_eq_some_iff.1 hc).1
    exact ih (by omega)
  | bV _ _ _ _ _ _ _ _ _ _ _ ih1 ih2=>exact fun h=>ih2 (ih1 h)
theorem Sp.app {g:al} {p:List Int} {a:List Int} {i k:Nat} (h:Sp g p a i k):∀ {b:List Int} {j:Nat},Sp g p b k j→Sp g p (a ++ b) i j:=by
  induction h with
  | nil=>exact fun h=>h
  | term s l i _ h0 hf _ ih=>exact fun hb=>.term s _ i _ h0 hf (ih hb)
  | bV s l R i k _ h0 hR hl h1 _ _ ih2=>exact fun hb=>.bV s _ R i k _ h0 hR hl h1 (ih2 hb)
theorem Sp.split {g:al} {p:List Int} : ∀ {a b:List Int} {i j:Nat},Sp g p (a ++ b) i j→∃ k,Sp g p a i k∧Sp g p b k j
  | [],b,i,j,h=>⟨i,.nil i,h⟩
  | s :: a,b,i,j,h=>by
    cases h with
    | term _ _ _ _ h0 hf h =>
      obtain ⟨k,h1,h2⟩:=Sp.split h
      exact ⟨k,.term s a i k h0 hf h1,h2⟩
    | bV _ _ R _ m _ h0 hR hl h1 h =>
      obtain ⟨k,h2,h3⟩:=Sp.split h
      exact ⟨k,.bV s a R i m k h0 hR hl h1 h2,h3⟩
structure Item where
  bc:Nat
  dot:Nat
  j4:Nat
  deriving DecidableEq
def Sound (g:al) (p:List Int) (at_:Nat) (x:Item):Prop:=∃ R,g.rules[x.bc]?=some R∧x.dot≤R.right.length∧x.j4≤at_∧Sp g p (R.right.take x.dot) x.j4 at_
structure M7 (g:al) (p:List Int) (S:Nat→List Item):Prop where
  start:∀ (i:Nat) (R:aJ),g.rules[i]?=some R→R.left=g.start→⟨i,0,0⟩∈S 0
  term:∀ a x R s,x∈S a→g.rules[x.bc]?=some R→R.right[x.dot]?=some s→0≤s→mJ p a s→⟨x.bc,x.dot+1,x.j4⟩∈S (a+1)
  pred:∀ a x R s i R',x∈S a→g.rules[x.bc]?=some R→R.right[x.dot]?=some s→s < 0→g.rules[i]?=some R'→R'.left = -1 - s→a≤p.length→⟨i,0,a⟩∈S a
  null:∀ a x R s,x∈S a→g.rules[x.bc]?=some R→R.right[x.dot]?=some s→s < 0→(aG g false).getD (-1 - s).toNat false=true→a≤p.length→⟨x.bc,x.dot+1,x.j4⟩∈S a
  comp:∀ a y R' x R s,y∈S a→g.rules[y.bc]?=some R'→y.dot=R'.right.length→y.j4 < a→x∈S y.j4→g.rules[x.bc]?=some R→R.right[x.dot]?=some s→s < 0→R'.left = -1 - s→a≤p.length→⟨x.bc,x.dot+1,x.j4⟩∈S a
inductive In (p:List Int) (T:Nat→Nat→Nat→Prop):List Int→Nat→Nat→Prop
  | nil (i:Nat):In p T [] i i
  | term (s:Int) (l:List Int) (i j:Nat):0≤s→mJ p i s→In p T l (i+1) j→In p T (s :: l) i j
  | bV (s:Int) (l:List Int) (i k j:Nat):s < 0→T (-1 - s).toNat i k→In p T l k j→In p T (s :: l) i j
end Gv
set_option linter.unusedSimpArgs false
namespace Gv
open Go
inductive gZ (g:al):List Int→List Int→List Int→Prop
  | nil:gZ g [] [] []
  | term (s:Int) (l t w:List Int):0≤s→gZ g l t w→gZ g (s :: l) t (s :: w)
  | bV (s:Int) (l:List Int) (k:Nat) (R:aJ) (t1 w1 t w:List Int):s < 0→g.rules[k]?=some R→R.left = -1 - s→gZ g R.right t1 w1→gZ g l t w→gZ g (s :: l) (((k:Int) :: t1) ++ t) (w1 ++ w)
theorem gZ.app {g:al} {a t w:List Int} (h:gZ g a t w) {b t' w':List Int} (k:gZ g b t' w'):gZ g (a ++ b) (t ++ t') (w ++ w'):=by
  induction h with
  | nil=>exact k
  | term s l t w h0 _ ih=>exact .term s _ _ _ h0 ih
  | bV s l k R t1 w1 t w h0 hR hl h1 _ _ ih =>
    have:=gZ.bV s _ k R t1 w1 _ _ h0 hR hl h1 ih
    simpa using this
structure Wk where
  rest:List Int
  word:List Int
  post:List Int
  high:Nat
def qw (s:Int) (x:Wk):Wk:=⟨x.rest,s :: x.word,x.post,x.high⟩
def rU (t:Int) (x y:Wk):Wk:=⟨y.rest,x.word ++ y.word,x.post ++ (t :: y.post),max (x.high+1) y.high⟩
def fH (g:al) (t:Int):Option aJ:=if 0≤t then g.rules[t.toNat]? else none
def bQ (g:al):Nat→List Int→List Int→Option Wk
  | _,[],rest=>some ⟨rest,[],[],0⟩
  | f,s :: l,rest=>if 0≤s then (bQ g f l rest).map (qw s) else
    match f,rest with
    | f+1,t :: rest=>match fH g t with
      | some R=>if R.left = -1 - s then (match bQ g f R.right rest with
        | some x=>(bQ g (f+1) l x.rest).map (rU t x)
        | none=>none) else none
      | none=>none
    | _,_=>none
termination_by f l _=>(f,l.length)
theorem gF (g:al) (f:Nat) (rest:List Int):bQ g f [] rest=some ⟨rest,[],[],0⟩:=by rw[bQ.eq_def]
theorem jm {g:al} {f:Nat} {s:Int} {l rest:List Int} (h:0≤s):bQ g f (s :: l) rest=(bQ g f l rest).map (qw s):=by
  rw[bQ.eq_def]; simp only[if_pos h]
theorem nU {g:al} {s:Int} {l rest:List Int} (h:s < 0):bQ g 0 (s :: l) rest=none:=by
  rw[bQ.eq_def]; simp only[if_neg (show ¬ 0≤s by omega)]
theorem kk {g:al} {f:Nat} {s:Int} {l:List Int} (h:s < 0):bQ g f (s :: l) []=none:=by
  rw[bQ.eq_def]; simp only[if_neg (show ¬ 0≤s by omega)]
theorem gx {g:al} {f:Nat} {s t:Int} {l rest:List Int} (h:s < 0):bQ g (f+1) (s :: l) (t :: rest)=match fH g t with
      | some R=>if R.left = -1 - s then (match bQ g f R.right rest with
        | some x=>(bQ g (f+1) l x.rest).map (rU t x)
        | none=>none) else none
      | none=>none:=by
  rw[bQ.eq_def]; simp only[if_neg (show ¬ 0≤s by omega)]
def sk (x y:Wk):Wk:=⟨y.rest,x.word ++ y.word,x.post ++ y.post,max x.high y.high⟩
theorem pE (g:al) (f:Nat):∀ (a b rest:List Int),bQ g f (a ++ b) rest=match bQ g f a rest with
    | some x=>(bQ g f b x.rest).map (sk x)
    | none=>none
  | [],b,rest=>by
    rw[gF]
    simp only[List.nil_append]
    cases bQ g f b rest <;> simp[sk]
  | s :: a,b,rest=>by
    by_cases h:0≤s
    · rw[List.cons_append,jm h,jm h,pE g f a b rest]
      cases bQ g f a rest with
      | none=>rfl
      | some x =>
        simp only[Option.map_some,qw]
        cases bQ g f b x.rest <;> simp[sk,qw]
    · cases f with
      | zero=>rw[List.cons_append,nU (by omega),nU (by omega)]
      | succ f =>
        cases rest with
        | nil=>rw[List.cons_append,kk (by omega),kk (by omega)]
        | cons t rest =>
          rw[List.cons_append,gx (by omega),gx (by omega)]
          cases fH g t with
          | none=>rfl
          | some R =>
            simp only
            split
            · cases bQ g f R.right rest with
              | none=>rfl
              | some x =>
                simp only
                rw[pE g (f+1) a b x.rest]
                cases bQ g (f+1) a x.rest with
                | none=>rfl
                | some y =>
                  simp only[Option.map_some,rU]
                  cases bQ g (f+1) b y.rest <;> simp[rU,sk,Nat.max_assoc]
            · rfl
theorem xE {g:al} (hg:∀ r∈g.rules,r.right.length≤6):∀ (f:Nat) (l rest:List Int) (x:Wk),bQ g f l rest=some x→x.rest.length≤rest.length∧x.post.length+x.rest.length=rest.length∧x.word.length+6 * x.rest.length≤l.length+6 * rest.length∧x.high≤f:=by
  intro f
  induction f with
  | zero =>
    intro l
    induction l with
    | nil=>intro rest x h; rw[gF] at h; simp at h; subst h; simp
    | cons s l ih =>
      intro rest x h
      by_cases hs:0≤s
      · rw[jm hs] at h
        cases hw:bQ g 0 l rest with
        | none=>rw[hw] at h; simp at h
        | some y =>
          rw[hw] at h; simp at h; subst h
          have:=ih rest y hw
          simp[qw]; omega
      · rw[nU (by omega)] at h; simp at h
  | succ f ihf =>
    intro l
    induction l with
    | nil=>intro rest x h; rw[gF] at h; simp at h; subst h; simp
    | cons s l ih =>
      intro rest x h
      by_cases hs:0≤s
      · rw[jm hs] at h
        cases hw:bQ g (f+1) l rest with
        | none=>rw[hw] at h; simp at h
        | some y =>
          rw[hw] at h; simp at h; subst h
          have:=ih rest y hw
          simp[qw]; omega
      · cases rest with
        | nil=>rw[kk (by omega)] at h; simp at h
        | cons t rest =>
          rw[gx (by omega)] at h
          cases hr:fH g t with
          | none=>rw[hr] at h; simp at h
          | some R =>
            rw[hr] at h
            simp only at h
            split at h
            · cases hw:bQ g f R.right rest with
              | none=>rw[hw] at h; simp at h
              | some y =>
                rw[hw] at h
                simp only at h
                cases hz:bQ g (f+1) l y.rest with
                | none=>rw[hz] at h; simp at h
                | some z =>
                  rw[hz] at h; simp at h; subst h
                  have h1:=ihf R.right rest y hw
                  have h2:=ih y.rest z hz
                  have h3:R.right.length≤6:=by
                    unfold fH at hr
                    split at hr
                    · exact hg R (List.mem_of_getElem? hr)
                    · simp at hr
                  simp[rU]; omega
            · simp at h
theorem JH {g:al} {l t w:List Int} (h:gZ g l t w):∀ (f:Nat) (rest:List Int),t.length≤f→∃ x,bQ g f l (t ++ rest)=some x∧x.rest=rest∧x.word=w:=by
  induction h with
  | nil=>exact fun f rest _=>⟨_,gF _ _ _,rfl,rfl⟩
  | term s l t w h0 _ ih =>
    intro f rest hf
    obtain ⟨x,h1,h2,h3⟩:=ih f rest hf
    exact ⟨qw s x,by rw[jm h0,h1]; rfl,h2,by rw[qw,h3]⟩
  | bV s l k R t1 w1 t w h0 hR hl _ _ ih1 ih2 =>
    intro f rest hf
    obtain ⟨f,rfl⟩:∃ f',f=f'+1:=⟨f - 1,by simp at hf; omega⟩
    obtain ⟨x,h1,h2,h3⟩:=ih1 f (t ++ rest) (by simp at hf; omega)
    obtain ⟨y,h4,h5,h6⟩:=ih2 (f+1) rest (by simp at hf; omega)
    refine ⟨rU k x y,?_,h5,by rw[rU,h3,h6]⟩
    rw[List.cons_append,List.cons_append,List.append_assoc,gx h0]
    have:fH g (k:Int)=some R:=by rw[fH,if_pos (by omega)]; simpa using hR
    rw[this]
    simp only
    rw[if_pos hl,h1]
    simp only
    rw[h2,h4]; rfl
theorem Ht {g:al} (hleft:∀ r∈g.rules,0≤r.left):∀ (f:Nat) (l:List Int),yc (ar g) f l→gZ g l (cL g (ar g) f l) (c5 g (ar g) f l):=by
  intro f
  induction f with
  | zero =>
    intro l
    induction l with
    | nil=>intro _; rw[pH,m9]; exact .nil
    | cons s l ih =>
      intro h
      have h0:=y0 h s (by simp)
      have e1:=gB g (ar g) 0 [s] l
      have e2:=gD g (ar g) 0 [s] l
      rw[List.singleton_append] at e1 e2
      rw[e1,e2,kZ h0,jh h0]
      exact .term s l _ _ h0 (ih fun x hx=>h x (by simp[hx]))
  | succ f ihf =>
    intro l
    induction l with
    | nil=>intro _; rw[pH,m9]; exact .nil
    | cons s l ih =>
      intro h
      have hl:=ih fun x hx=>h x (by simp[hx])
      have e1:=gB g (ar g) (f+1) [s] l
      have e2:=gD g (ar g) (f+1) [s] l
      rw[List.singleton_append] at e1 e2
      rw[e1,e2]
      by_cases h0:0≤s
      · rw[kZ h0,jh h0]
        exact .term s l _ _ h0 hl
      · obtain ⟨hk,hh⟩:=h s (by simp) (by omega)
        obtain ⟨i,R,hi,hR,hra,hur,hlf⟩:=si (f:=f) hk (by push_cast at hh; exact hh)
        rw[j3 (by omega),j9 (by omega),hra,hi]
        have hRl:R.left = -1 - s:=by
          obtain ⟨i',r',hr',hl',_,hp',_⟩:=vK hk
          have:(i':Int)=i:=by rw[← hi,hp']; rfl
          have:i'=i:=by omega
          subst this
          rw[hR] at hr'
          simp at hr'; subst hr'
          have:=hleft R (List.mem_of_getElem? hR)
          unfold bL at hl'
          omega
        exact .bV s l i R _ _ _ _ (by omega) hR hRl (ihf R.right hur) hl
end Gv
