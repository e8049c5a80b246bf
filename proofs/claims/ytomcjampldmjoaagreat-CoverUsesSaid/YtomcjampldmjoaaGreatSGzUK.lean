/-
  Part 11 of the proof: what the machine does and what the functions answer.
  Conditions: those that each lemma names.
-/
import Derived.Test.YtomcjampldmjoaaGreatSGzUJ
set_option linter.unusedSimpArgs false
set_option linter.unusedVariables false
set_option linter.unusedSimpArgs false
set_option maxRecDepth 100000
namespace Gv
open Go Go.Proofs
def pj:SC :=
  .seq (ak [aS 44 .lss 43 42]) <|
  .seq (.cond (.tmp 44) (.skip) (.exit 0)) <|
  .seq (.block 1 (.seq (ak [aa 45 43,bo 46 3 41 43,aZ 47 3 46,((some 11),.op (.alloc [(.val (.int .i64 0)),(.emp 1),(.val (.int .i64 0))])),aa 10 45,(none,.op (.store 3 (.tmp 11) (.tmp 47)))]) <|
  .seq (.seq (.region false [⟨none,[aa 48 6,ao 49 0 11,aq 50 49,bo 51 1 48 50,aq 52 51,cn 53 52,aa 54 53]⟩,⟨(some (54,false)),[aZ 55 3 11,aa 56 5,aK 57 163 [55,56],cn 58 57]⟩,⟨none,[bC 59 54 58]⟩]) <|
  .cond (.tmp 59) (.exit 1) (.skip)) <|
  .seq (ak [aa 60 7,aa 61 10,((some 62),.op (.bE 1 1 [(.val (.int .i64 0))] [(0,(.tmp 61))])),((some 63),.op (.app 1 8 (.tmp 60) (.tmp 62))),aa 7 63]) <|
  .seq (ak [aa 65 9,ao 66 0 11,aq 67 66,((some 68),.op (.old (.lookup 230 (.tmp 65) (.tmp 67) true) 103)),aa 64 68,b6 69 0 64,b6 70 1 64,aa 12 69,aa 13 70]) <|
  .seq (ak [aa 71 13,cn 72 71]) <|
  .cond (.tmp 72) (.seq (ak [aa 73 9,ao 74 0 11,aq 75 74,ao 76 1 8,aq 77 76,aQ 78 77,(none,.op (.old (.mapUpdate 230 (.tmp 73) (.tmp 75) (.tmp 78)) 0))]) <|
  .region false [⟨none,[ao 79 1 8,aq 80 79,ao 81 1 1,aq 82 81,ao 83 0 11,aq 84 83,bo 85 1 82 84,aq 86 85,((some 87),.op (.bE 1 1 [(.val (.string ⟨#[]⟩))] [(0,(.tmp 86))])),((some 88),.op (.app 1 16 (.tmp 80) (.tmp 87))),ao 89 1 8,(none,.op (.store 1 (.tmp 89) (.tmp 88)))]⟩]) (.skip))) <|
  ak [aA 90 .add 43 1,aa 43 90]
def pT:SC :=
  .seq (ak [aS 116 .lss 115 114]) <|
  .seq (.cond (.tmp 116) (.skip) (.exit 4)) <|
  .seq (.block 5 (.seq (ak [aa 117 115,bo 118 1 113 115,aq 119 118,aa 18 117,aa 19 119]) <|
  .seq (ak [aa 120 19,aA 121 .lss 120 0]) <|
  .cond (.tmp 121) (ak [ao 122 1 17,aq 123 122,aa 124 18,aa 125 9,aa 126 19,((some 127),.op (.arith .sub (.val (.val (.int .i64 (-1)))) (.tmp 126))),((some 128),.op (.old (.lookup 230 (.tmp 125) (.tmp 127) false) 3)),((some 129),.op (.arith .sub (.val (.val (.int .i64 (-1)))) (.tmp 128))),bo 130 1 123 124,(none,.op (.store 1 (.tmp 130) (.tmp 129)))]) (.skip))) <|
  ak [aA 131 .add 115 1,aa 115 131]
def px:SC :=
  .seq (ak [aS 94 .lss 93 92]) <|
  .seq (.cond (.tmp 94) (.skip) (.exit 2)) <|
  .seq (.block 3 (.seq (ak [bo 95 1 91 93,aq 96 95,aa 15 96]) <|
  .seq (ak [ao 97 2 1,aq 98 97,aa 99 15,bo 100 3 98 99,aZ 101 3 100,((some 16),.op (.alloc [(.val (.int .i64 0)),(.emp 1),(.val (.int .i64 0))])),(none,.op (.store 3 (.tmp 16) (.tmp 101)))]) <|
  .seq (.region true [⟨none,[aa 102 9,ao 103 0 16,aq 104 103,((some 105),.op (.old (.lookup 230 (.tmp 102) (.tmp 104) false) 3)),ao 106 1 16,aq 107 106,aK 108 164 [107],ao 109 2 16,aq 110 109,((some 111),.op (.build [(.val (.int .i64 0)),(.emp 1),(.val (.int .i64 0))] [(0,1,(.tmp 105)),(1,1,(.tmp 108)),(2,1,(.tmp 110))])),((some 17),.op (.alloc [(.val (.int .i64 0)),(.emp 1),(.val (.int .i64 0))])),(none,.op (.store 3 (.tmp 17) (.tmp 111)))]⟩]) <|
  .seq (.seq (ak [ao 112 1 17,aq 113 112,aQ 114 113,aI 115 0]) <|
  .block 4 (.loop pT)) <|
  ak [ao 132 2 8,aq 133 132,aZ 134 3 17,((some 135),.op (.bE 1 3 [(.val (.int .i64 0)),(.emp 1),(.val (.int .i64 0))] [(0,(.tmp 134))])),((some 136),.op (.app 3 40 (.tmp 133) (.tmp 135))),ao 137 2 8,(none,.op (.store 1 (.tmp 137) (.tmp 136)))])) <|
  ak [aA 138 .add 93 1,aa 93 138]
def tc:SF:=⟨.seq (ak [c8 1 0,((some 2),.op (.alloc [(.emp 1),(.emp 1),(.emp 1),(.val (.int .i64 0))])),((some 3),.op (.bd (.val (.emp 1)))),aI 4 0]) <|
  .seq (.seq (ak [aZ 20 4 1,aK 21 45 [20],cn 22 21]) <|
  .cond (.tmp 22) (.seq (ak [((some 23),.op (.build [(.emp 1),(.emp 1),(.emp 1),(.val (.int .i64 0))] [])),(none,.op (.store 4 (.tmp 2) (.tmp 23))),((some 3),.op (.bd (.val (.emp 1)))),aI 4 1]) <|
  .ret) (.skip)) <|
  .seq (.region true [⟨none,[aZ 24 4 1,aK 25 160 [24],aZ 26 4 1,aK 27 161 [26],aa 5 25,aa 6 27]⟩]) <|
  .seq (.seq (ak [aa 28 5,ao 29 3 1,aq 30 29,bo 31 1 28 30,aq 32 31,cn 33 32]) <|
  .cond (.tmp 33) (.seq (ak [((some 34),.op (.build [(.emp 1),(.emp 1),(.emp 1),(.val (.int .i64 0))] [])),(none,.op (.store 4 (.tmp 2) (.tmp 34))),((some 3),.op (.bd (.val (.emp 1)))),aI 4 9]) <|
  .ret) (.skip)) <|
  .seq (ak [((some 7),.op (.bd (.val (.emp 1))))]) <|
  .seq (ak [ao 35 0 1,aq 36 35,aK 37 162 [36],((some 38),.op (.build [(.emp 1),(.emp 1),(.emp 1),(.val (.int .i64 0))] [(0,1,(.tmp 37))])),((some 8),.op (.alloc [(.emp 1),(.emp 1),(.emp 1),(.val (.int .i64 0))])),(none,.op (.store 4 (.tmp 8) (.tmp 38)))]) <|
  .seq (ak [((some 39),.op (.pU)),aa 9 39]) <|
  .seq (.seq (ak [ao 40 2 1,aq 41 40,aQ 42 41,aI 43 0]) <|
  .block 0 (.loop pj)) <|
  .seq (.seq (ak [aa 91 7,aQ 92 91,aI 93 0]) <|
  .block 2 (.loop px)) <|
  .seq (ak [aa 139 9,ao 140 3 1,aq 141 140,((some 142),.op (.old (.lookup 230 (.tmp 139) (.tmp 141) false) 3)),ao 143 3 8,(none,.op (.store 1 (.tmp 143) (.tmp 142)))]) <|
  .seq (ak [aZ 144 4 8,aa 145 7,(none,.op (.store 4 (.tmp 2) (.tmp 144))),aa 3 145,aI 4 0]) <|
  .ret,
  [.cell 2 (some 4),.tmp 3,.tmp 4],146⟩
theorem we:aV Tryz.prog 107 [1]=some tc:=by kernel_rfl
abbrev tL (m:cZ Int):List (V × V × Nat):=cE (Value.int .i64) m
def L6 (g:al) (p q:List Bool) (b2 b8 b9:Nat) (u0:V) (i:Nat) (T:Env) (H:View):Prop :=
  (∃ u1 u3:V,T 7=u3∧(∀ x∈ca p q (g.rules.take i),0≤x∧x < g.ax.length)∧(ca p q (g.rules.take i)).length≤i ∧
    bD H [(.sl b8 0 1 4,4,[[u0,u1,.emp 1,gi 0]]),(u3,1,bY (cM p q (g.rules.take i) 0)),
      (u1,1,pW ((ca p q (g.rules.take i)).map fun x=>g.ax.getD x.toNat ⟨#[]⟩)),(u0,3,g.ay.map cz),(.sl b2 0 1 4,4,[[.emp 1,.emp 1,.emp 1,gi 0]])] ∧
    ∃ m c,H b9=.map (tL m) c∧lg gi (gI (ca p q (g.rules.take i)) 0) m) ∧
  T 1=.aR (av g) 0∧T 2=.ptr b2 0 0∧T 5=bR p∧T 6=bR q∧T 8=.ptr b8 0 0∧T 9=.mp b9∧T 41=.aN (g.rules.map bf)∧T 42=gi g.rules.length∧T 43=gi i
theorem zb {α:Type} {x s:α} : ∀ {a d:List α} {k:Nat},a.length=k→(a ++ s :: d).set k x=a ++ x :: d
  | [],d,k,h=>by simp at h; subst h; rfl
  | y :: a,d,k,h=>by
    cases k with
    | zero=>simp at h
    | succ k=>simp only[List.cons_append,List.set_cons_succ]; rw[zb (by simpa using h)]
def MY (g:al) (p q:List Bool) (b2 b8 b9:Nat) (u0 u1 u3:V) (o kl:List Int) (mm:cZ Int) (cc:Nat) (i:Nat) (T:Env) (H:View):Prop :=
  (∃ (u2:V) (bs:yn),bs.map (·.2)=((g.rules.filter (bH p q)).take i).map (bz (cQ o)) ∧
    bD H ((.sl b8 0 1 4,4,[[u0,u1,u2,gi 0]]) :: (u3,1,bY kl) ::
      (u1,1,pW (o.map fun x=>g.ax.getD x.toNat ⟨#[]⟩)) :: (u0,3,g.ay.map cz) :: (u2,3,iF bs) :: (.sl b2 0 1 4,4,[[.emp 1,.emp 1,.emp 1,gi 0]]) :: rE bs) ∧
    H b9=.map (tL mm) cc) ∧
  T 1=.aR (av g) 0∧T 2=.ptr b2 0 0∧T 7=u3∧T 8=.ptr b8 0 0∧T 9=.mp b9∧T 91=u3∧T 92=gi kl.length∧T 93=gi i
def ML (g:al) (b2 b8 b9 b16 b17:Nat) (u3 v:V) (o kl:List Int) (mm:cZ Int) (cc:Nat) (r:aJ) (L:List fv) (i k:Nat) (T:Env) (H:View):Prop :=
  bD H ((.sl b17 0 1 3,3,[[gi (cQ o r.left),v,gi r.prec]]) :: (v,1,bY ((bz (cQ o) r).right.take k ++ r.right.drop k)) :: (.sl b16 0 1 3,3,[bf r]) :: L) ∧
  H b9=.map (tL mm) cc∧T 1=.aR (av g) 0∧T 2=.ptr b2 0 0∧T 7=u3∧T 8=.ptr b8 0 0∧T 9=.mp b9∧T 91=u3∧T 92=gi kl.length∧T 93=gi i∧T 17=.ptr b17 0 0∧T 113=v∧T 114=gi r.right.length∧T 115=gi k
set_option maxHeartbeats 8000000 in
theorem Dq (g:al) (hg:g.Ok) (hs:g.Small):cr Tryz.prog 107 [.agg (av g)] (zi (if bk g=true then
    if (aG g true).getD g.start.toNat false=true then (iQ g (cQ (ca (aG g true) (bu g) g.rules)) (aG g true) (bu g),cM (aG g true) (bu g) g.rules 0,0)
    else (oK,[],9)
  else (oK,[],1))):=by
  refine cr.of (gn g) ?_
  refine aB.of mixed we ?_
  simp (disch:=omega) only [↓wr,↓reduceIte,wq,ah,ag,aj,ab,ae,af,ai,isNil,Nat.reduceEqDiff,Nat.reduceAdd,Nat.reduceLT,Nat.reduceLeDiff,Int.reduceNeg,Int.reduceToNat,reduceCtorEq,tc,av,encS]
  intro b2
  try simp (disch:=omega) only [↓wr,↓reduceIte,wq,ah,ag,aj,ab,ae,af,ai,isNil,Nat.reduceEqDiff,Nat.reduceAdd,Nat.reduceLT,Nat.reduceLeDiff,Int.reduceNeg,Int.reduceToNat,reduceCtorEq,av,encS]
  refine aF.pure (kp g hg hs.names) (by kernel_rfl) ?_
  repeat' (first | (refine an.dec (fun _=>?_) (fun _=>?_)) | (refine an.eq (fun _=>?_) (fun _=>?_)) | (refine an.ne (fun _=>?_) (fun _=>?_)) | (refine an.split (fun _=>?_) (fun _=>?_)) | (simp (disch:=omega) only [↓wr,↓reduceIte,wq,ah,ag,aj,ab,ae,af,ai,isNil,Nat.reduceEqDiff,Nat.reduceAdd,Nat.reduceLT,Nat.reduceLeDiff,Int.reduceNeg,Int.reduceToNat,reduceCtorEq,av,encS,set_set]))
  · rename_i hr
    rw[if_pos hr]
    refine aF.pure (q4 g hg hs).pure (by kernel_rfl) ?_
    simp (disch:=omega) only [↓wr,↓reduceIte,wq,ah,ag,aj,ab,ae,af,ai,isNil,Nat.reduceEqDiff,Nat.reduceAdd,Nat.reduceLT,Nat.reduceLeDiff,Int.reduceNeg,Int.reduceToNat,reduceCtorEq,av,encS]
    refine aF.pure (AW g hg hs).pure (by kernel_rfl) ?_
    have hf:=bc hr
    have h3:=hf.gY
    have h4:=hf.start
    have hpl:=my hr true
    have hql:=qi hr
    generalize aG g true=p at hpl ⊢
    generalize bu g=q at hql ⊢
    have hps:p[g.start.toNat]?=some (p[g.start.toNat]'(by omega)):=List.getElem?_eq_getElem (by omega)
    have hpd:p.getD g.start.toNat false=p[g.start.toNat]'(by omega):=by simp[List.getD_eq_getElem?_getD,hps]
    generalize p[g.start.toNat]'(by omega)=s at hps hpd
    rw[hpd]
    simp (disch:=omega) only [↓wr,↓reduceIte,wq,ah,ag,aj,ab,ae,af,ai,isNil,Nat.reduceEqDiff,Nat.reduceAdd,Nat.reduceLT,Nat.reduceLeDiff,Int.reduceNeg,Int.reduceToNat,reduceCtorEq,av,encS,bR,List.getElem?_map,hps]
    cases s with
    | false =>
      simp (disch:=omega) only [↓wr,↓reduceIte,wq,ah,ag,aj,ab,ae,af,ai,isNil,Nat.reduceEqDiff,Nat.reduceAdd,Nat.reduceLT,Nat.reduceLeDiff,Int.reduceNeg,Int.reduceToNat,reduceCtorEq,av,encS,set_set]
      rintro h' hh
      exact BN
    | true =>
      simp (disch:=omega) only [↓wr,↓reduceIte,wq,ah,ag,aj,ab,ae,af,ai,isNil,Nat.reduceEqDiff,Nat.reduceAdd,Nat.reduceLT,Nat.reduceLeDiff,Int.reduceNeg,Int.reduceToNat,reduceCtorEq,av,encS,set_set]
      have hN:=hf.ax
      have hN1:=hf.xS
      have hT:=hf.ay
      have hR:=hf.rules
      refine aF.gH ((GO g.ay (by omega) _).mono ?_)
      rintro u0 H1 ⟨hu0,hfr⟩
      have ho1:=(bD.nil.new (H:=fun _=>bN.dead) (n:=b2) rfl 4 [[.emp 1,.emp 1,.emp 1,gi 0]]).Lw hu0 hfr
      have c0:=ho1.head.cells
      have k0:=ho1.head.oQ
      simp (disch:=omega) only [↓wr,↓reduceIte,wq,ah,ag,aj,ab,ae,af,ai,isNil,Nat.reduceEqDiff,Nat.reduceAdd,Nat.reduceLT,Nat.reduceLeDiff,Int.reduceNeg,Int.reduceToNat,reduceCtorEq,av,encS,c0,k0]
      intro b8 hb8
      have ho2:=ho1.new hb8 4 [[u0,.emp 1,.emp 1,gi 0]]
      try simp (disch:=omega) only [↓wr,↓reduceIte,wq,ah,ag,aj,ab,ae,af,ai,isNil,Nat.reduceEqDiff,Nat.reduceAdd,Nat.reduceLT,Nat.reduceLeDiff,Int.reduceNeg,Int.reduceToNat,reduceCtorEq,av,encS,c0,k0,set_set]
      intro b9 hb9
      have hb98:=(dk hb9 dr).1
      have hb9:=(dk (dk hb9 dr).2 dr).2
      have ho3:=(((ho2.fresh (n:=b9) (o:=.map [] 0) (by simp only[View.set,if_neg hb98]; exact hb9)).emp (k:=1) (sz:=1)).emp (k:=1) (sz:=1)).perm LM.symm
      try simp (disch:=omega) only [↓wr,↓reduceIte,wq,ah,ag,aj,ab,ae,af,ai,isNil,Nat.reduceEqDiff,Nat.reduceAdd,Nat.reduceLT,Nat.reduceLeDiff,Int.reduceNeg,Int.reduceToNat,reduceCtorEq,av,encS,c0,k0,set_set]
      refine bw.up g.rules.length (L6 g p q b2 b8 b9 u0) ?_ ?_
      · refine ⟨⟨.emp 1,.emp 1,rfl,by simp[ca],by simp[ca],by rw[set_set]; exact ho3,[],0,by simp[View.set,cE],trivial⟩,rfl,rfl,rfl,rfl,rfl,rfl,rfl,rfl,rfl⟩
      clear ho1 ho2 ho3 hb8 hb9 hb98
      rintro i k T H2 hk ⟨⟨u1,u3,t7,hin,holen,ho,mm,cc,h9,hm9⟩,t1,t2,t5,t6,t8,t9,t41,t42,t43⟩
      simp (disch:=omega) only [↓wr,↓reduceIte,wq,ah,ag,aj,ab,ae,af,ai,isNil,Nat.reduceEqDiff,Nat.reduceAdd,Nat.reduceLT,Nat.reduceLeDiff,Int.reduceNeg,Int.reduceToNat,reduceCtorEq,pj,t1,t2,t5,t6,t7,t8,t9,t41,t42,t43,av]
      refine an.dec (fun hc=>?_) (fun hc=>?_)
      · have hg2:g.rules[i]?=some (g.rules[i]'(by omega)):=List.getElem?_eq_getElem (by omega)
        have hmem:g.rules[i]'(by omega)∈g.rules:=List.getElem_mem _
        have htk:g.rules.take (i+1)=g.rules.take i ++ [g.rules[i]'(by omega)]:=by rw[List.take_add_one,hg2]; rfl
        generalize g.rules[i]'(by omega)=r at hg2 hmem htk
        obtain ⟨hl1,hl2,hl3,hr6,hsy⟩:=hf.xD hg hmem
        have hqs:q[r.left.toNat]?=some (q[r.left.toNat]'(by omega)):=List.getElem?_eq_getElem (by omega)
        have hqd:q.getD r.left.toNat false=q[r.left.toNat]'(by omega):=by simp[List.getD_eq_getElem?_getD,hqs]
        generalize q[r.left.toNat]'(by omega)=qs at hqs hqd
        simp (disch:=omega) only [↓wr,↓reduceIte,wq,ah,ag,aj,ab,ae,af,ai,isNil,Nat.reduceEqDiff,Nat.reduceAdd,Nat.reduceLT,Nat.reduceLeDiff,Int.reduceNeg,Int.reduceToNat,reduceCtorEq,t1,t2,t5,t6,t7,t8,t9,t41,t42,t43,bf,encI,List.getElem?_map,hg2]
        intro b11 hb11
        have hoA:=ho.new hb11 3 [bf r]
        have n911:b9≠b11:=by rintro rfl; rw[h9] at hb11; simp at hb11
        try simp (disch:=omega) only [↓wr,↓reduceIte,wq,ah,ag,aj,ab,ae,af,ai,isNil,Nat.reduceEqDiff,Nat.reduceAdd,Nat.reduceLT,Nat.reduceLeDiff,Int.reduceNeg,Int.reduceToNat,reduceCtorEq,t1,t2,t5,t6,t7,t8,t9,t41,t42,t43,bf,encI,bR,List.getElem?_map,hqs,set_set]
        have hskip:∀ (T2:Env) (H':View),bH p q r=false→H'=H2.set b11 (.arr 3 [bf r])→T2 7=u3→T2 1=.aR (av g) 0→T2 2=.ptr b2 0 0→T2 5=bR p→T2 6=bR q→T2 8=.ptr b8 0 0→T2 9=.mp b9→T2 41=.aN (g.rules.map bf)→T2 42=gi g.rules.length→T2 43=gi ((i:Int)+1) →
            ∃ k',k' < k∧Ex g.rules.length k' (L6 g p q b2 b8 b9 u0) T2 H':=by
          intro T2 H' hkr hH' a7 a1 a2 a5 a6 a8 a9 a41 a42 a43
          have e1:ca p q (g.rules.take (i+1))=ca p q (g.rules.take i):=by rw[htk,zL,if_neg (by simp[hkr])]
          have e2:cM p q (g.rules.take (i+1)) 0=cM p q (g.rules.take i) 0:=by rw[htk,o5]; simp[cM,hkr]
          refine aT hk (by omega) ⟨⟨u1,u3,a7,by rw[e1]; exact hin,by rw[e1]; omega,by rw[e1,e2,hH']; exact hoA.tail,mm,cc,by rw[hH']; simp[View.set,n911,h9],by rw[e1]; exact hm9⟩,a1,a2,a5,a6,a8,a9,a41,a42,by rw[a43]; rfl⟩
        cases qs with
        | false =>
          simp (disch:=omega) only [↓wr,↓reduceIte,wq,ah,ag,aj,ab,ae,af,ai,isNil,Nat.reduceEqDiff,Nat.reduceAdd,Nat.reduceLT,Nat.reduceLeDiff,Int.reduceNeg,Int.reduceToNat,reduceCtorEq,t1,t2,t5,t6,t7,t8,t9,t41,t42,t43]
          refine hskip _ _ (by rw[bH,hqd]; rfl) ?_ ?_ ?_ ?_ ?_ ?_ ?_ ?_ ?_ ?_ ?_
          all_goals first | exact t7 | exact t1 | exact t2 | exact t5 | exact t6 | exact t8 | exact t9 | exact t41 | exact t42 | rfl | (rw[set_set]; rfl)
        | true =>
          simp (disch:=omega) only [↓wr,↓reduceIte,wq,ah,ag,aj,ab,ae,af,ai,isNil,Nat.reduceEqDiff,Nat.reduceAdd,Nat.reduceLT,Nat.reduceLeDiff,Int.reduceNeg,Int.reduceToNat,reduceCtorEq,t1,t2,t5,t6,t7,t8,t9,t41,t42,t43,bf,encI,bR]
          refine aF.pure (uL r p (hg.bb r hmem).2.2.1 (fun s hs'=>⟨(hsy s hs').1,fun h=>by rw[hpl]; exact (hsy s hs').2 h⟩)) (by kernel_rfl) ?_
          simp (disch:=omega) only [↓wr,↓reduceIte,wq,ah,ag,aj,ab,ae,af,ai,isNil,Nat.reduceEqDiff,Nat.reduceAdd,Nat.reduceLT,Nat.reduceLeDiff,Int.reduceNeg,Int.reduceToNat,reduceCtorEq,t1,t2,t5,t6,t7,t8,t9,t41,t42,t43]
          refine an.split (fun hal=>?_) (fun hal=>?_)
          · simp (disch:=omega) only [↓wr,↓reduceIte,wq,ah,ag,aj,ab,ae,af,ai,isNil,Nat.reduceEqDiff,Nat.reduceAdd,Nat.reduceLT,Nat.reduceLeDiff,Int.reduceNeg,Int.reduceToNat,reduceCtorEq,t1,t2,t5,t6,t7,t8,t9,t41,t42,t43]
            have hkr:bH p q r=true:=by rw[bH,hqd,hal]; rfl
            intro m hm
            try simp (disch:=omega) only [↓wr,↓reduceIte,wq,ah,ag,aj,ab,ae,af,ai,isNil,Nat.reduceEqDiff,Nat.reduceAdd,Nat.reduceLT,Nat.reduceLeDiff,Int.reduceNeg,Int.reduceToNat,reduceCtorEq,t1,t2,t5,t6,t7,t8,t9,t41,t42,t43,dg]
            have hm11:=(dk hm dr).1
            have hm:=(dk (dk hm dr).2 dr).2
            have hoB:=(hoA.fresh (n:=m) (o:=.arr 1 [[gi i]]) (by simp only[View.set,if_neg hm11]; exact hm)).at 2 (by simp)
            have n9m:b9≠m:=by rintro rfl; rw[h9] at hm; simp at hm
            have hkl:(cM p q (g.rules.take i) 0).length≤40:=by
              rw[pI]
              have h1:=List.length_filter_le (bH p q) (g.rules.take i)
              have h2:(g.rules.take i).length≤i:=List.length_take_le _ _
              omega
            refine fI (by rw[set_set]; exact hoB) (by simp[aM]) (by unfold aL; simp at hkl ⊢; omega) (by unfold aL; simp at hkl ⊢; omega) ?_
            intro u3' H3 ho3 hleft
            have f11:=ho3.is 1 rfl (by simp)
            have f8:=ho3.is 2 rfl (by simp)
            have hleft':Left ((H2.set b11 (.arr 3 [bf r])).set m (.arr 1 [[gi i]])) H3 u3 u3':=by rw[set_set] at hleft; exact hleft
            have f9:H3 b9=.map (tL mm) cc:=hleft'.map (b:=b9) hoB.head (by simp[View.set,n911,n9m,h9])
            have hu1:dB u1=some (pW ((ca p q (g.rules.take i)).map fun x=>g.ax.getD x.toNat ⟨#[]⟩)).length:=(ho3.own 3 rfl).len
            simp only[bf,encI] at f11
            have e2:cM p q (g.rules.take (i+1)) 0=cM p q (g.rules.take i) 0 ++ [(i:Int)]:=by
              rw[htk,o5]; simp[cM,hkr,show i≤g.rules.length by omega]
            have e1:ca p q (g.rules.take (i+1))=dn (ca p q (g.rules.take i)) r:=by rw[htk,zL,if_pos hkr]
            generalize ca p q (g.rules.take i)=o at *
            generalize cM p q (g.rules.take i) 0=kl at *
            simp (disch:=omega) only [↓wr,↓reduceIte,wq,ah,ag,aj,ab,ae,af,ai,isNil,Nat.reduceEqDiff,Nat.reduceAdd,Nat.reduceLT,Nat.reduceLeDiff,Int.reduceNeg,Int.reduceToNat,reduceCtorEq,t1,t2,t5,t6,t8,t9,t41,t42,t43,f11,f8]
            refine KC (kt:=3) (et:=3) (z:=gi 0) (by kernel_rfl) (by kernel_rfl) (ga .i64 Tryz.underlying3) (id:=b9) (c:=cc) (m:=mm) (k:=r.left) (by simp (disch:=omega) only [↓wr,↓reduceIte,wq,ah,ag,aj,ab,ae,af,ai,isNil,Nat.reduceEqDiff,Nat.reduceAdd,Nat.reduceLT,Nat.reduceLeDiff,Int.reduceNeg,Int.reduceToNat,reduceCtorEq,t9]) (by simp (disch:=omega) only [↓wr,↓reduceIte,wq,ah,ag,aj,ab,ae,af,ai,isNil,Nat.reduceEqDiff,Nat.reduceAdd,Nat.reduceLT,Nat.reduceLeDiff,Int.reduceNeg,Int.reduceToNat,reduceCtorEq]) f9 ?_
            rw[hm9.get,pN]
            have hob:o.length≤40:=by omega
            by_cases hx:r.left∈o
            · have e1':dn o r=o:=by rw[dn,if_pos hx]
              rw[if_pos hx]
              simp (disch:=omega) only [↓wr,↓reduceIte,wq,ah,ag,aj,ab,ae,af,ai,isNil,Nat.reduceEqDiff,Nat.reduceAdd,Nat.reduceLT,Nat.reduceLeDiff,Int.reduceNeg,Int.reduceToNat,reduceCtorEq,t1,t2,t5,t6,t8,t9,t41,t42,t43,Option.isSome_some]
              have ho4:=(((ho3.at 1 (by simp)).tail).perm (.swap _ _ _))
              refine aT hk (by omega) ⟨⟨u1,u3',rfl,by rw[e1,e1']; exact hin,by rw[e1,e1']; omega,?_,mm,cc,f9,by rw[e1,e1']; exact hm9⟩,t1,t2,t5,t6,t8,t9,t41,t42,rfl⟩
              rw[e1,e1',e2]
              simp only[List.map_append,List.map_cons,List.map_nil]
              exact ho4
            · have e1':dn o r=o ++ [r.left]:=by rw[dn,if_neg hx]
              rw[if_neg hx]
              have hgn:g.ax[r.left.toNat]?=some (g.ax[r.left.toNat]'(by omega)):=List.getElem?_eq_getElem (by omega)
              have hgnd:g.ax.getD r.left.toNat ⟨#[]⟩=g.ax[r.left.toNat]'(by omega):=by simp[List.getD_eq_getElem?_getD,hgn]
              generalize g.ax[r.left.toNat]'(by omega)=nm at hgn hgnd
              simp (disch:=omega) only [↓wr,↓reduceIte,wq,ah,ag,aj,ab,ae,af,ai,isNil,Nat.reduceEqDiff,Nat.reduceAdd,Nat.reduceLT,Nat.reduceLeDiff,Int.reduceNeg,Int.reduceToNat,reduceCtorEq,t1,t2,t5,t6,t8,t9,t41,t42,t43,Option.isSome_none,f11,f8,hu1,List.length_map]
              refine uV (kt:=3) (et:=3) (by kernel_rfl) (ga .i64 Tryz.underlying3) (id:=b9) (c:=cc) (m:=mm) (k:=r.left) (v:=gi o.length) (by simp (disch:=omega) only [↓wr,↓reduceIte,wq,ah,ag,aj,ab,ae,af,ai,isNil,Nat.reduceEqDiff,Nat.reduceAdd,Nat.reduceLT,Nat.reduceLeDiff,Int.reduceNeg,Int.reduceToNat,reduceCtorEq,t9]) (by simp (disch:=omega) only [↓wr,↓reduceIte,wq,ah,ag,aj,ab,ae,af,ai,isNil,Nat.reduceEqDiff,Nat.reduceAdd,Nat.reduceLT,Nat.reduceLeDiff,Int.reduceNeg,Int.reduceToNat,reduceCtorEq]) (by simp (disch:=omega) only [↓wr,↓reduceIte,wq,ah,ag,aj,ab,ae,af,ai,isNil,Nat.reduceEqDiff,Nat.reduceAdd,Nat.reduceLT,Nat.reduceLeDiff,Int.reduceNeg,Int.reduceToNat,reduceCtorEq]) f9 ?_
              intro c'
              have n89:b8≠b9:=ym ho3 2 rfl f9
              have n119:b11≠b9:=ym ho3 1 rfl f9
              simp (disch:=omega) only [↓wr,↓reduceIte,wq,ah,ag,aj,ab,ae,af,ai,isNil,Nat.reduceEqDiff,Nat.reduceAdd,Nat.reduceLT,Nat.reduceLeDiff,Int.reduceNeg,Int.reduceToNat,reduceCtorEq,t1,t2,t5,t6,t8,t9,t41,t42,t43,f11,f8,n89,n119,av,encS,List.getElem?_map,hgn]
              intro m2 hm2
              have hm29:=(dk hm2 (by simp)).1
              have hm2:=(dk hm2 (by simp)).2
              have ho5:=((ho3.tJ f9 (o:=.map (tL (cA r.left (gi o.length) cc mm)) c')).fresh (n:=m2) (o:=.arr 1 [[gs nm]]) (by simp only[View.set,if_neg hm29]; exact hm2)).at 3 (by simp)
              try simp (disch:=omega) only [↓wr,↓reduceIte,wq,ah,ag,aj,ab,ae,af,ai,isNil,Nat.reduceEqDiff,Nat.reduceAdd,Nat.reduceLT,Nat.reduceLeDiff,Int.reduceNeg,Int.reduceToNat,reduceCtorEq,t1,t2,t5,t6,t8,t9,t41,t42,t43,dg]
              refine fI ho5 (by simp[aM]) (by unfold aL; simp; omega) (by unfold aL; simp; omega) ?_
              intro u1' H5 ho6 hleft2
              have c1:=ho6.head.cells
              have k1:=ho6.head.oQ
              have f8':=ho6.is 3 rfl (by simp)
              have f9':=hleft2.map (b:=b9) (es:=tL (cA r.left (gi o.length) cc mm)) (c:=c') ho5.head (by simp[View.set,Ne.symm hm29])
              have n89':b9≠b8:=n89.symm
              simp (disch:=omega) only [↓wr,↓reduceIte,wq,ah,ag,aj,ab,ae,af,ai,isNil,Nat.reduceEqDiff,Nat.reduceAdd,Nat.reduceLT,Nat.reduceLeDiff,Int.reduceNeg,Int.reduceToNat,reduceCtorEq,t1,t2,t5,t6,t8,t9,t41,t42,t43,f8',c1,k1]
              have ho7:=(ho6.at 3 (by simp)).put (es':=[[u0,u1',.emp 1,gi 0]]) rfl rfl
              have ho8:=(((ho7.at 3 (by simp)).tail).perm (.cons _ (.swap _ _ _)))
              refine aT hk (by omega) ⟨⟨u1',u3',rfl,?_,?_,?_,_,c',(by simp only[View.set,if_neg n89']; exact f9'),?_⟩,t1,t2,t5,t6,t8,t9,t41,t42,rfl⟩
              · rw[e1,e1']; intro x hx'; rcases List.mem_append.1 hx' with h | h
                · exact hin x h
                · simp at h; subst h; exact ⟨hl2,hl3⟩
              · rw[e1,e1']; simp; omega
              · rw[e1,e1',e2]
                simp only[List.map_append,List.map_cons,List.map_nil,hgnd]
                exact ho8
              · rw[e1,e1',xz,Int.zero_add,← Ap hx]
                exact hm9.put r.left (o.length:Int) cc
          · simp (disch:=omega) only [↓wr,↓reduceIte,wq,ah,ag,aj,ab,ae,af,ai,isNil,Nat.reduceEqDiff,Nat.reduceAdd,Nat.reduceLT,Nat.reduceLeDiff,Int.reduceNeg,Int.reduceToNat,reduceCtorEq,t1,t2,t5,t6,t7,t8,t9,t41,t42,t43]
            refine hskip _ _ (by rw[bH,hqd,hal]; rfl) ?_ ?_ ?_ ?_ ?_ ?_ ?_ ?_ ?_ ?_ ?_
            all_goals first | exact t7 | exact t1 | exact t2 | exact t5 | exact t6 | exact t8 | exact t9 | exact t41 | exact t42 | rfl | (rw[set_set]; rfl)
      · rw[List.take_of_length_le (by omega)] at ho hin holen hm9
        have hkl40:(cM p q g.rules 0).length≤40:=by
          rw[pI]; have h1:=List.length_filter_le (bH p q) g.rules; omega
        have hkg:=tS p q g.rules 0
        have hkln:=pI p q g.rules 0
        have hrg:iQ g (cQ (ca p q g.rules)) p q=⟨g.ay,(ca p q g.rules).map fun x=>g.ax.getD x.toNat ⟨#[]⟩,(g.rules.filter (bH p q)).map (bz (cQ (ca p q g.rules))),cQ (ca p q g.rules) g.start⟩:=rfl
        rw[hrg,if_pos rfl]
        clear hrg
        generalize ca p q g.rules=o at *
        generalize cM p q g.rules 0=kl at *
        have hob:o.length≤40:=by omega
        have hu3:dB u3=some (bY kl).length:=(ho.own 1 rfl).len
        simp (disch:=omega) only [↓wr,↓reduceIte,wq,ah,ag,aj,ab,ae,af,ai,isNil,Nat.reduceEqDiff,Nat.reduceAdd,Nat.reduceLT,Nat.reduceLeDiff,Int.reduceNeg,Int.reduceToNat,reduceCtorEq,t1,t2,t5,t6,t7,t8,t9,hu3,List.length_map]
        refine bw.up kl.length (MY g p q b2 b8 b9 u0 u1 u3 o kl mm cc) ?_ ?_
        · refine ⟨⟨.emp 1,[],by simp,?_,h9⟩,t1,t2,t7,t8,t9,t7,rfl,rfl⟩
          exact (ho.emp (k:=1) (sz:=3)).perm (vn [(.sl b8 0 1 4,4,[[u0,u1,.emp 1,gi 0]]),(u3,1,bY kl),(u1,1,pW (o.map fun x=>g.ax.getD x.toNat ⟨#[]⟩)),(u0,3,g.ay.map cz),(.emp 1,3,[]),(.sl b2 0 1 4,4,[[.emp 1,.emp 1,.emp 1,gi 0]])] 4 (by simp)).symm
        clear ho h9 t1 t2 t5 t6 t7 t8 t9 t41 t42 t43
        rintro i k T H2 hk ⟨⟨u2,bs,hbs,ho,h9⟩,t1,t2,t7,t8,t9,t91,t92,t93⟩
        simp (disch:=omega) only [↓wr,↓reduceIte,wq,ah,ag,aj,ab,ae,af,ai,isNil,Nat.reduceEqDiff,Nat.reduceAdd,Nat.reduceLT,Nat.reduceLeDiff,Int.reduceNeg,Int.reduceToNat,reduceCtorEq,px,t1,t2,t7,t8,t9,t91,t92,t93]
        refine an.dec (fun hc=>?_) (fun hc=>?_)
        · obtain ⟨n3,e3,hn3⟩:=(ho.own 1 rfl).sl (by simp; omega)
          rw[List.length_map] at e3
          subst e3
          obtain ⟨m,hm1,hm2,hm3⟩:=hkg i (by omega)
          have hbg:=C6 (show i < kl.length by omega)
          rw[Int.zero_add] at hm1
          have hki:kl[i]'(by omega)=(m:Int):=by
            rw[List.getElem?_eq_getElem (show i < kl.length by omega)] at hm1; simpa using hm1
          rw[hki] at hbg
          have hg2:g.rules[m]?=some (g.rules[m]'hm3):=List.getElem?_eq_getElem hm3
          have hmem:g.rules[m]'hm3∈g.rules:=List.getElem_mem _
          have htk:(g.rules.filter (bH p q)).take (i+1)=(g.rules.filter (bH p q)).take i ++ [g.rules[m]'hm3]:=by
            rw[List.take_add_one,← hm2,hg2]; rfl
          generalize g.rules[m]'hm3=r at hg2 hmem htk
          obtain ⟨hl1,hl2,hl3,hr6,hsy⟩:=hf.xD hg hmem
          simp (disch:=omega) only [↓wr,↓reduceIte,wq,ah,ag,aj,ab,ae,af,ai,isNil,Nat.reduceEqDiff,Nat.reduceAdd,Nat.reduceLT,Nat.reduceLeDiff,Int.reduceNeg,Int.reduceToNat,reduceCtorEq,t1,t2,t7,t8,t9,t91,t92,t93,hn3,hbg,List.length_map,av,bf,encI,List.getElem?_map,hg2]
          refine ⟨by omega,by omega,?_⟩
          intro b16 hb16
          have hoA:=ho.new hb16 3 [bf r]
          have n916:b9≠b16:=by rintro rfl; rw[h9] at hb16; simp at hb16
          try simp (disch:=omega) only [↓wr,↓reduceIte,wq,ah,ag,aj,ab,ae,af,ai,isNil,Nat.reduceEqDiff,Nat.reduceAdd,Nat.reduceLT,Nat.reduceLeDiff,Int.reduceNeg,Int.reduceToNat,reduceCtorEq,t1,t2,t7,t8,t9,t91,t92,t93,set_set]
          refine u7 (kt:=3) (et:=3) (z:=gi 0) (by kernel_rfl) (by kernel_rfl) (ga .i64 Tryz.underlying3) (id:=b9) (c:=cc) (m:=mm) (k:=r.left) (by simp (disch:=omega) only [↓wr,↓reduceIte,wq,ah,ag,aj,ab,ae,af,ai,isNil,Nat.reduceEqDiff,Nat.reduceAdd,Nat.reduceLT,Nat.reduceLeDiff,Int.reduceNeg,Int.reduceToNat,reduceCtorEq,t9]) (by simp (disch:=omega) only [↓wr,↓reduceIte,wq,ah,ag,aj,ab,ae,af,ai,isNil,Nat.reduceEqDiff,Nat.reduceAdd,Nat.reduceLT,Nat.reduceLeDiff,Int.reduceNeg,Int.reduceToNat,reduceCtorEq]) (by simp[View.set,n916,h9]) ?_
          have hgt:∀ x,(getM mm x).getD (gi 0)=gi (cQ o x):=fun x=>by
            rw[hm9.get,cQ]; cases c3 (gI o 0) x <;> rfl
          rw[hgt]
          simp (disch:=omega) only [↓wr,↓reduceIte,wq,ah,ag,aj,ab,ae,af,ai,isNil,Nat.reduceEqDiff,Nat.reduceAdd,Nat.reduceLT,Nat.reduceLeDiff,Int.reduceNeg,Int.reduceToNat,reduceCtorEq,t1,t2,t7,t8,t9,t91,t92,t93]
          refine aF.Ll (Hf r.right (by omega) _) ?_
          intro v H3 hv hfr
          have hoB:=bD.Lw (H:=H2.set b16 (.arr 3 [bf r])) hoA hv (by rw[set_set] at hfr; exact hfr)
          have h9B:H3 b9=.map (tL mm) cc:=by
            rw[(hfr b9 (by simp[View.set,n916,h9])).1]; simp[View.set,n916,h9]
          have cv:=hv.cells
          have kv:=hv.oQ
          have lv:=hv.len
          have f16:=hoB.is 1 rfl (by simp)
          simp only[bf,encI] at f16
          simp (disch:=omega) only [↓wr,↓reduceIte,wq,ah,ag,aj,ab,ae,af,ai,isNil,Nat.reduceEqDiff,Nat.reduceAdd,Nat.reduceLT,Nat.reduceLeDiff,Int.reduceNeg,Int.reduceToNat,reduceCtorEq,t1,t2,t7,t8,t9,t91,t92,t93,f16,cv,kv]
          intro b17 hb17
          have hoC:=hoB.new hb17 3 [[gi (cQ o r.left),v,gi r.prec]]
          have n917:b9≠b17:=by rintro rfl; rw[h9B] at hb17; simp at hb17
          try simp (disch:=omega) only [↓wr,↓reduceIte,wq,ah,ag,aj,ab,ae,af,ai,isNil,Nat.reduceEqDiff,Nat.reduceAdd,Nat.reduceLT,Nat.reduceLeDiff,Int.reduceNeg,Int.reduceToNat,reduceCtorEq,t1,t2,t7,t8,t9,t91,t92,t93,cv,kv,lv,set_set,List.length_map]
          generalize hL:((V.sl b8 0 1 4,4,[[u0,u1,u2,gi 0]]) :: (V.sl n3 0 kl.length 1,1,bY kl) ::
              (u1,1,pW (o.map fun x=>g.ax.getD x.toNat ⟨#[]⟩)) :: (u0,3,g.ay.map cz) :: (u2,3,iF bs) :: (V.sl b2 0 1 4,4,[[V.emp 1,V.emp 1,V.emp 1,gi 0]]) :: rE bs:List fv)=L at hoC
          refine bw.up r.right.length (ML g b2 b8 b9 b16 b17 (.sl n3 0 kl.length 1) v o kl mm cc r L i) ?_ ?_
          · exact ⟨by rw[set_set]; exact hoC,by simp[View.set,n917,h9B],t1,t2,t7,t8,t9,t91,t92,t93,rfl,rfl,rfl,rfl⟩
          clear hoA hoB hoC hb16 hb17 h9 h9B f16 hv hfr t1 t2 t7 t8 t9 t91 t92 t93
          rintro k k2 T H3 hk2 ⟨hoC,h9,t1,t2,t7,t8,t9,t91,t92,t93,t17,t113,t114,t115⟩
          have f17:=hoC.is 0 rfl (by simp)
          simp (disch:=omega) only [↓wr,↓reduceIte,wq,ah,ag,aj,ab,ae,af,ai,isNil,Nat.reduceEqDiff,Nat.reduceAdd,Nat.reduceLT,Nat.reduceLeDiff,Int.reduceNeg,Int.reduceToNat,reduceCtorEq,pT,t1,t2,t7,t8,t9,t91,t92,t93,t17,t113,t114,t115]
          refine an.dec (fun hcc=>?_) (fun hcc=>?_)
          · have hgs:r.right[k]?=some (r.right[k]'(by omega)):=List.getElem?_eq_getElem (by omega)
            have hms:r.right[k]'(by omega)∈r.right:=List.getElem_mem _
            have hrl:(bz (cQ o) r).right.length=r.right.length:=by simp[bz]
            have hts:(bz (cQ o) r).right.take (k+1)=(bz (cQ o) r).right.take k ++ [if r.right[k]'(by omega) < 0 then -1 - cQ o (-1 - r.right[k]'(by omega)) else r.right[k]'(by omega)]:=by
              rw[List.take_add_one]; simp[bz,hgs]
            have hdr:=dC (show k < r.right.length by omega)
            generalize r.right[k]'(by omega)=s at hgs hms hts hdr
            obtain ⟨⟨s1,s2⟩,s3⟩:=hsy s hms
            have hbd:=Lm o (-1 - s)
            rw[hdr] at hoC
            have hlen:(((bz (cQ o) r).right.take k ++ s :: r.right.drop (k+1)).map fun x=>[gi x]).length=r.right.length:=by simp; omega
            obtain ⟨nv,ev,hnv⟩:=(hoC.own 1 rfl).sl (by rw[hlen]; omega)
            rw[hlen] at ev
            subst ev
            have hlt:k < ((bz (cQ o) r).right.take k ++ s :: r.right.drop (k+1)).length:=by simp; omega
            have hbg2:=C6 hlt
            have hel:((bz (cQ o) r).right.take k ++ s :: r.right.drop (k+1))[k]'hlt=s:=by
              rw[List.getElem_append_right (by simp; omega)]
              simp[show k - min k r.right.length=0 by omega,hrl]
            rw[hel] at hbg2
            simp (disch:=omega) only [↓wr,↓reduceIte,wq,ah,ag,aj,ab,ae,af,ai,isNil,Nat.reduceEqDiff,Nat.reduceAdd,Nat.reduceLT,Nat.reduceLeDiff,Int.reduceNeg,Int.reduceToNat,reduceCtorEq,t1,t2,t7,t8,t9,t91,t92,t93,t17,t113,t114,t115,hnv,hbg2,List.length_map]
            refine ⟨by omega,hlt,?_⟩
            have hlk:((bz (cQ o) r).right.take k).length=k:=by rw[List.length_take]; omega
            have nv9:nv≠b9:=ym hoC 1 rfl h9
            refine an.dec (fun hneg=>?_) (fun hneg=>?_)
            · rw[if_pos hneg] at hts
              simp (disch:=omega) only [↓wr,↓reduceIte,wq,ah,ag,aj,ab,ae,af,ai,isNil,Nat.reduceEqDiff,Nat.reduceAdd,Nat.reduceLT,Nat.reduceLeDiff,Int.reduceNeg,Int.reduceToNat,reduceCtorEq,t1,t2,t7,t8,t9,t91,t92,t93,t17,t113,t114,t115,f17]
              refine u7 (kt:=3) (et:=3) (z:=gi 0) (by kernel_rfl) (by kernel_rfl) (ga .i64 Tryz.underlying3) (id:=b9) (c:=cc) (m:=mm) (k:=-1 - s) (by simp (disch:=omega) only [↓wr,↓reduceIte,wq,ah,ag,aj,ab,ae,af,ai,isNil,Nat.reduceEqDiff,Nat.reduceAdd,Nat.reduceLT,Nat.reduceLeDiff,Int.reduceNeg,Int.reduceToNat,reduceCtorEq,t9]) (by simp (disch:=omega) only [↓wr,↓reduceIte,wq,ah,ag,aj,ab,ae,af,ai,isNil,Nat.reduceEqDiff,Nat.reduceAdd,Nat.reduceLT,Nat.reduceLeDiff,Int.reduceNeg,Int.reduceToNat,reduceCtorEq]) h9 ?_
              rw[hgt]
              simp (disch:=omega) only [↓wr,↓reduceIte,wq,ah,ag,aj,ab,ae,af,ai,isNil,Nat.reduceEqDiff,Nat.reduceAdd,Nat.reduceLT,Nat.reduceLeDiff,Int.reduceNeg,Int.reduceToNat,reduceCtorEq,t1,t2,t7,t8,t9,t91,t92,t93,t17,t113,t114,t115,f17,hnv,hbg2,List.length_map]
              refine ⟨by omega,hlt,?_⟩
              have hoD:=((hoC.at 1 (by simp)).put (es':=((((bz (cQ o) r).right.take k ++ s :: r.right.drop (k+1)).map fun x=>[gi x]).set k [gi (-1 - cQ o (-1 - s))])) (by simp) (by rw[hlen])).perm (.swap _ _ _)
              refine aT hk2 (by omega) ⟨?_,by simp only[View.set,if_neg nv9.symm]; exact h9,t1,t2,t7,t8,t9,t91,t92,t93,t17,t113,t114,rfl⟩
              rw[ints_set,zb hlk] at hoD
              rw[hts,List.append_assoc]
              rw[ints_set,zb hlk]
              exact hoD
            · rw[if_neg hneg] at hts
              simp (disch:=omega) only [↓wr,↓reduceIte,wq,ah,ag,aj,ab,ae,af,ai,isNil,Nat.reduceEqDiff,Nat.reduceAdd,Nat.reduceLT,Nat.reduceLeDiff,Int.reduceNeg,Int.reduceToNat,reduceCtorEq,t1,t2,t7,t8,t9,t91,t92,t93,t17,t113,t114,t115]
              refine aT hk2 (by omega) ⟨?_,h9,t1,t2,t7,t8,t9,t91,t92,t93,t17,t113,t114,rfl⟩
              rw[hts,List.append_assoc]
              exact hoC
          · rw[List.take_of_length_le (by simp[bz]; omega),List.drop_eq_nil_of_le (by omega),List.append_nil] at hoC
            subst hL
            have f8:=hoC.is 3 rfl (by simp)
            have cv:=(hoC.own 1 rfl).cells
            have kv:=(hoC.own 1 rfl).oQ
            have hbl:(iF bs).length≤40:=by
              have h1:=congrArg List.length hbs
              simp only[List.length_map,List.length_take] at h1
              simp only[iF,List.length_map]
              omega
            simp (disch:=omega) only [↓wr,↓reduceIte,wq,ah,ag,aj,ab,ae,af,ai,isNil,Nat.reduceEqDiff,Nat.reduceAdd,Nat.reduceLT,Nat.reduceLeDiff,Int.reduceNeg,Int.reduceToNat,reduceCtorEq,t1,t2,t7,t8,t9,t91,t92,t93,t17,t113,t114,t115,f8,f17,cv,kv]
            intro m hm
            have n9m:b9≠m:=by rintro rfl; rw[h9] at hm; simp at hm
            try simp (disch:=omega) only [↓wr,↓reduceIte,wq,ah,ag,aj,ab,ae,af,ai,isNil,Nat.reduceEqDiff,Nat.reduceAdd,Nat.reduceLT,Nat.reduceLeDiff,Int.reduceNeg,Int.reduceToNat,reduceCtorEq,t1,t2,t7,t8,t9,t91,t92,t93,t17,dg]
            have hoD:=(hoC.fresh (o:=.arr 3 [[gi (cQ o r.left),v,gi r.prec]]) hm).at 7 (by simp)
            refine fI hoD (by simp[y0,kv]) (by unfold aL; simp at hbl ⊢; omega) (by unfold aL; simp at hbl ⊢; omega) ?_
            intro u2' H4 hoE hleft
            have cu:=hoE.head.cells
            have ku:=hoE.head.oQ
            have f8':=hoE.is 4 rfl (by simp)
            have h9':H4 b9=.map (tL mm) cc:=hleft.map (b:=b9) hoD.head (by simp[View.set,n9m,h9])
            have n98:b9≠b8:=(ym hoE 4 rfl h9').symm
            simp (disch:=omega) only [↓wr,↓reduceIte,wq,ah,ag,aj,ab,ae,af,ai,isNil,Nat.reduceEqDiff,Nat.reduceAdd,Nat.reduceLT,Nat.reduceLeDiff,Int.reduceNeg,Int.reduceToNat,reduceCtorEq,t1,t2,t7,t8,t9,t91,t92,t93,t17,f8',cu,ku]
            have hoF:=(hoE.at 4 (by simp)).put (es':=[[u0,u1,u2',gi 0]]) rfl rfl
            have hoG:=((((hoF.at 2 (by simp)).tail).at 3 (by simp)).tail)
            refine aT hk (by omega) ⟨⟨u2',bs ++ [(v,bz (cQ o) r)],?_,?_,by simp only[View.set,if_neg n98]; exact h9'⟩,t1,t2,t7,t8,t9,t91,t92,rfl⟩
            · rw[List.map_append,hbs,htk,List.map_append]; rfl
            · refine hoG.perm (.cons _ ?_)
              simp only[rE,iF,List.map_append,List.map_cons,List.map_nil]
              refine .trans ?_ (vn _ 3 (by simp)).symm
              refine .cons _ ?_
              exact (List.perm_append_singleton (v,1,bY (bz (cQ o) r).right) ((.sl n3 0 kl.length 1,1,bY kl) :: (u1,1,pW (o.map fun x=>g.ax.getD x.toNat ⟨#[]⟩)) :: (u0,3,g.ay.map cz) :: (.sl b2 0 1 4,4,[[.emp 1,.emp 1,.emp 1,gi 0]]) :: rE bs)).symm
        · rw[List.take_of_length_le (by omega)] at hbs
          have f8:=ho.is 0 rfl (by simp)
          have f2:=ho.is 5 rfl (by simp)
          have n82:b8≠b2:=ho.M0 0 5 rfl rfl (by omega)
          have c1:=(ho.own 2 rfl).cells
          have k1:=(ho.own 2 rfl).oQ
          have c2:=(ho.own 4 rfl).cells
          have k2:=(ho.own 4 rfl).oQ
          have hgt:∀ x,(getM mm x).getD (gi 0)=gi (cQ o x):=fun x=>by
            rw[hm9.get,cQ]; cases c3 (gI o 0) x <;> rfl
          simp (disch:=omega) only [↓wr,↓reduceIte,wq,ah,ag,aj,ab,ae,af,ai,isNil,Nat.reduceEqDiff,Nat.reduceAdd,Nat.reduceLT,Nat.reduceLeDiff,Int.reduceNeg,Int.reduceToNat,reduceCtorEq,t1,t2,t7,t8,t9,t91,t92,t93,av]
          refine u7 (kt:=3) (et:=3) (z:=gi 0) (by kernel_rfl) (by kernel_rfl) (ga .i64 Tryz.underlying3) (id:=b9) (c:=cc) (m:=mm) (k:=g.start) (by simp (disch:=omega) only [↓wr,↓reduceIte,wq,ah,ag,aj,ab,ae,af,ai,isNil,Nat.reduceEqDiff,Nat.reduceAdd,Nat.reduceLT,Nat.reduceLeDiff,Int.reduceNeg,Int.reduceToNat,reduceCtorEq,t9]) (by simp (disch:=omega) only [↓wr,↓reduceIte,wq,ah,ag,aj,ab,ae,af,ai,isNil,Nat.reduceEqDiff,Nat.reduceAdd,Nat.reduceLT,Nat.reduceLeDiff,Int.reduceNeg,Int.reduceToNat,reduceCtorEq]) h9 ?_
          rw[hgt]
          simp (disch:=omega) only [↓wr,↓reduceIte,wq,ah,ag,aj,ab,ae,af,ai,isNil,Nat.reduceEqDiff,Nat.reduceAdd,Nat.reduceLT,Nat.reduceLeDiff,Int.reduceNeg,Int.reduceToNat,reduceCtorEq,t1,t2,t7,t8,t9,t91,t92,t93,f8,f2,n82,n82.symm,c0,k0,c1,k1,c2,k2]
          intro h' hh
          have hoA:=ho.put (es':=[[u0,u1,u2,gi (cQ o g.start)]]) rfl rfl
          have hoB:=(hoA.at 5 (by simp)).put (es':=[[u0,u1,u2,gi (cQ o g.start)]]) rfl rfl
          have hv:h'.view=(H2.set b8 (.arr 4 [[u0,u1,u2,gi (cQ o g.start)]])).set b2 (.arr 4 [[u0,u1,u2,gi (cQ o g.start)]]):=hh
          rw[← hv] at hoB
          exact KG (x:=(⟨g.ay,o.map fun x=>g.ax.getD x.toNat ⟨#[]⟩,(g.rules.filter (bH p q)).map (bz (cQ o)),cQ o g.start⟩,kl,0)) (b:=bs) (hoB.own 4 rfl) (hoB.own 3 rfl) (hoB.own 5 rfl) (fun y hy=>hoB.1 y (by
            refine List.mem_cons_of_mem _ (List.mem_cons_of_mem _ (List.mem_cons_of_mem _ (List.mem_cons_of_mem _ (List.mem_cons_of_mem _ (List.mem_cons_of_mem _ ?_)))))
            exact hy)) hbs (hoB.own 2 rfl)
  · rename_i hr
    intro h' hh
    rw[if_neg (by simp[hr])]
    exact BN
end Gv
set_option linter.unusedSimpArgs false
namespace Gv
open Go Go.Proofs
theorem EK {l:List Int} {a b:List Bool} {t:Bool} (h:eE a b) (k:ep l a t=true):ep l b t=true:=by
  simp only[ep,List.all_eq_true] at k ⊢
  intro s hs
  have:=k s hs
  by_cases h0:0≤s
  · rw[if_pos h0] at this ⊢; exact this
  · rw[if_neg h0] at this ⊢; exact h.2 _ this
theorem eE.J7 {a b:List Bool} (h:eE a b) (k:eE b a):a=b:=by
  have h1:=h.cL
  have h2:=k.cL
  exact h1.2 (by omega)
def k7 (g:al) (t:Bool) (is:List Bool):Prop:=∀ i,is.getD i false=true→∃ r∈g.rules,r.left.toNat=i∧ep r.right is t=true
theorem k7.step {g:al} {t:Bool} {is:List Bool} {r:aJ} (h:k7 g t is) (hr:r∈g.rules):k7 g t (dK t is r):=by
  have hle:eE is (dK t is r):=by
    unfold dK
    split
    · exact .set _ _
    · exact .refl _
  intro i hi
  by_cases e:is.getD i false=true
  · obtain ⟨r',h1,h2,h3⟩:=h i e
    exact ⟨r',h1,h2,EK hle h3⟩
  · unfold dK at hi
    by_cases ha:ep r.right is t=true
    · rw[if_pos ha] at hi
      have:r.left.toNat=i:=by
        refine Classical.byContradiction fun hne=>e ?_
        simp only[List.getD_eq_getElem?_getD,List.getElem?_set,if_neg hne] at hi ⊢
        exact hi
      exact ⟨r,hr,this,EK hle ha⟩
    · rw[if_neg ha] at hi; exact absurd hi e
theorem k7.fold {g:al} {t:Bool} : ∀ (l:List aJ) (is:List Bool),(∀ r∈l,r∈g.rules)→k7 g t is→k7 g t (l.foldl (dK t) is)
  | [],is,_,h=>h
  | r :: l,is,hl,h=>k7.fold l _ (fun x hx=>hl x (by simp[hx])) (h.step (hl r (by simp)))
theorem k7.iter {g:al} {t:Bool} : ∀ (n:Nat) (is:List Bool),k7 g t is→k7 g t (iter (lS g t) n is)
  | 0,_,h=>h
  | n+1,is,h=>k7.iter n _ (k7.fold g.rules is (fun _ h=>h) h)
theorem Gd (g:al) (t:Bool):k7 g t (aG g t):=by
  unfold aG
  split
  · refine k7.iter _ _ ?_
    intro i hi
    simp only[cB,List.getD_eq_getElem?_getD,List.getElem?_replicate] at hi
    split at hi <;> simp at hi
  · intro i hi; simp at hi
theorem El (is:List Bool) (s:Int):eE is (mark is s):=by
  unfold mark
  split
  · exact .set _ _
  · exact .refl _
theorem wa:∀ (l:List Int) (is:List Bool),eE is (l.foldl mark is)
  | [],is=>.refl _
  | s :: l,is=>(El is s).trans (wa l _)
theorem BA (p is:List Bool) (r:aJ):eE is (ig p is r):=by
  unfold ig
  split
  · exact wa _ _
  · exact .refl _
theorem BY (p:List Bool):∀ (l:List aJ) (is:List Bool),eE is (l.foldl (ig p) is)
  | [],is=>.refl _
  | r :: l,is=>(BA p is r).trans (BY p l _)
theorem AB {p:List Bool} : ∀ {l:List aJ} {is:List Bool},l.foldl (ig p) is=is→∀ r∈l,ig p is r=is
  | [],_,_,_,h=>by simp at h
  | r :: l,is,h,x,hx=>by
    rw[List.foldl_cons] at h
    have h1:=BY p l (ig p is r)
    rw[h] at h1
    have h2:=(h1.J7 (BA p is r))
    rcases List.mem_cons.1 hx with rfl | hx
    · exact h2
    · rw[h2] at h; exact AB h x hx
theorem z8:∀ {l:List Int} {is:List Bool},l.foldl mark is=is→∀ s∈l,mark is s=is
  | [],_,_,_,h=>by simp at h
  | r :: l,is,h,x,hx=>by
    rw[List.foldl_cons] at h
    have h1:=wa l (mark is r)
    rw[h] at h1
    have h2:=(h1.J7 (El is r))
    rcases List.mem_cons.1 hx with rfl | hx
    · exact h2
    · rw[h2] at h; exact z8 h x hx
theorem zH {g:al} (hr:bk g=true):rv g (aG g true) (bu g)=bu g∧eE ((cB g).set g.start.toNat true) (bu g):=by
  have hf:=bc hr
  have h:=pM (oP (aG g true)) g.rules 16 ((cB g).set g.start.toNat true) (by have:=hf.ax; simp[cB]; omega)
  rw[Ev,IP hr] at h
  exact h
theorem qB {g:al} (hr:bk g=true):(bu g).getD g.start.toNat false=true:=by
  have hf:=bc hr
  refine (zH hr).2.2 _ ?_
  have h3:=hf.gY
  have h4:=hf.start
  simp only[List.getD_eq_getElem?_getD]
  rw[List.getElem?_set_self (by simp[cB]; omega)]
  rfl
theorem rZ {g:al} (hr:bk g=true) {r:aJ} (hm:r∈g.rules) (hk:bH (aG g true) (bu g) r=true) {s:Int} (hs:s∈r.right) (hn:s < 0):(bu g).getD (-1 - s).toNat false=true:=by
  have hf:=bc hr
  have h1:=AB (zH hr).1 r hm
  unfold ig at h1
  rw[bH] at hk
  rw[if_pos hk] at h1
  have h2:=z8 h1 s hs
  unfold mark at h2
  rw[if_pos hn] at h2
  rw[← h2]
  have hl:=qi hr
  have:=hf.neg hm hs hn
  simp only[List.getD_eq_getElem?_getD]
  rw[List.getElem?_set_self (by omega)]
  rfl
theorem xZ {g:al} (hr:bk g=true) {x:Int} (h0:0≤x) (hp:(aG g true).getD x.toNat false=true) (hq:(bu g).getD x.toNat false=true):x∈ca (aG g true) (bu g) g.rules:=by
  obtain ⟨r,h1,h2,h3⟩:=Gd g true _ hp
  have hf:=bc hr
  have h4:=hf.left r h1
  have:r.left=x:=by omega
  refine oU.2 ⟨r,h1,?_,this⟩
  rw[bH,this,hq,h3]; rfl
theorem Gf (g:al):(if bk g=true then
    if (aG g true).getD g.start.toNat false=true then (iQ g (cQ (ca (aG g true) (bu g) g.rules)) (aG g true) (bu g),cM (aG g true) (bu g) g.rules 0,0)
    else (oK,[],9)
  else (oK,[],1))=fK g:=by
  unfold fK
  by_cases hr:bk g=true
  · rw[if_pos hr,if_pos hr]
    by_cases hp:(aG g true).getD g.start.toNat false=true
    · rw[if_pos hp,if_pos hp]
      have hf:=bc hr
      rw[Gp]
      · exact xZ hr hf.gY hp (qB hr)
      · intro r hm
        obtain ⟨h1,h2⟩:=List.mem_filter.1 hm
        refine ⟨oU.2 ⟨r,h1,h2,rfl⟩,fun s hs hn=>?_⟩
        refine xZ hr (by omega) ?_ (rZ hr h1 h2 hs hn)
        rw[bH,Bool.and_eq_true] at h2
        have:=h2.2
        simp only[ep,List.all_eq_true] at this
        have:=this s hs
        rwa [if_neg (by omega)] at this
    · rw[if_neg hp,if_neg hp]
  · rw[if_neg hr,if_neg hr]
theorem Fa (g:al) (hg:g.Ok) (hs:g.Small):cr Tryz.prog 107 [.agg (av g)] (zi (fK g)):=by
  rw[← Gf]; exact Dq g hg hs
end Gv
set_option linter.unusedSimpArgs false
namespace Gv
open Go Go.Proofs
theorem B9 {x:Int} : ∀ (o:List Int) (i:Int),x∈o→∃ k:Nat,cO (fun y=>y == x) o i=i+k∧o[k]?=some x
  | [],_,h=>by simp at h
  | y :: o,i,h=>by
    by_cases e:y=x
    · exact ⟨0,by simp[cO,e],by simp[e]⟩
    · have hx:x∈o:=by
        rcases List.mem_cons.1 h with rfl | h
        · exact absurd rfl e
        · exact h
      obtain ⟨k,h1,h2⟩:=B9 o (i+1) hx
      exact ⟨k+1,by simp only[cO]; rw[if_neg (by simp[e]),h1]; push_cast; omega,by simpa using h2⟩
theorem wb {o:List Int} {x:Int} (h:x∈o):o[(bJ o x).toNat]?=some x:=by
  obtain ⟨k,h1,h2⟩:=B9 o 0 h
  have:bJ o x=k:=by unfold bJ; omega
  rw[this]; simpa using h2
theorem vh {o:List Int} (hn:o.Nodup) {k:Nat} {x:Int} (h:o[k]?=some x):bJ o x=k:=by
  have hx:=List.mem_of_getElem? h
  have h1:=wb hx
  have h2:=iV hx
  obtain ⟨hk,h3⟩:=List.getElem?_eq_some_iff.1 h
  obtain ⟨hk2,h4⟩:=List.getElem?_eq_some_iff.1 h1
  have:=(List.getElem_inj hn).1 (h4.trans h3.symm)
  omega
theorem oN:∀ (l:List aJ) (acc:List Int),acc.Nodup→(l.foldl dn acc).Nodup
  | [],_,h=>h
  | r :: l,acc,h=>oN l _ (Ff h)
theorem FI (p q:List Bool) (l:List aJ):(ca p q l).Nodup:=oN _ _ List.nodup_nil
theorem Jd (acc:List Int) (r:aJ):∃ m,dn acc r=acc ++ m:=by
  unfold dn
  split
  · exact ⟨[],by simp⟩
  · exact ⟨_,rfl⟩
theorem rf:∀ (l:List aJ) (acc:List Int),∃ m,l.foldl dn acc=acc ++ m
  | [],acc=>⟨[],by simp⟩
  | r :: l,acc=>by
    obtain ⟨m,hm⟩:=Jd acc r
    obtain ⟨k,hk⟩:=rf l (dn acc r)
    exact ⟨m ++ k,by rw[List.foldl_cons,hk,hm,List.append_assoc]⟩
theorem IX {a b:List Int} {x:Int} (h:x∈a):bJ (a ++ b) x=bJ a x:=by
  unfold bJ
  rw[vQ _ _ _ _ (by omega)]
  have:=iV h
  unfold bJ at this
  rw[if_pos this.1]
theorem rY {r:al} {o:List Int} (ho:o.Nodup) (hr:r.ax.length=o.length):∀ (l:List aJ) (acc:List Int),o=l.foldl dn acc→(∀ x∈l,fp r (bz (bJ o) x)=true)→eO r (l.map (bz (bJ o))) ((acc.length:Int) - 1)=true
  | [],acc,h,_=>by
    simp only[List.foldl_nil] at h
    simp[eO,hr,h]
  | x :: l,acc,h,hb=>by
    simp only[List.map_cons,eO,Bool.and_eq_true,decide_eq_true_eq]
    rw[List.foldl_cons] at h
    have h1:(bz (bJ o) x).left=bJ o x.left:=rfl
    obtain ⟨m,hm⟩:=rf l (dn acc x)
    rw[← h] at hm
    by_cases hx:x.left∈acc
    · have e:dn acc x=acc:=by unfold dn; rw[if_pos hx]
      rw[e] at hm h
      have h2:=iV hx
      have h3:bJ o x.left=bJ acc x.left:=by rw[hm]; exact IX hx
      rw[h1,h3,if_neg (by omega)]
      exact ⟨⟨⟨h2.1,by omega⟩,hb x (by simp)⟩,rY ho hr l acc h fun y hy=>hb y (by simp[hy])⟩
    · have e:dn acc x=acc ++ [x.left]:=by unfold dn; rw[if_neg hx]
      rw[e] at hm h
      have h3:bJ o x.left=acc.length:=vh ho (by rw[hm]; simp)
      rw[h1,h3,if_pos (by omega)]
      refine ⟨⟨⟨by omega,by omega⟩,hb x (by simp)⟩,?_⟩
      have:=rY ho hr l (acc ++ [x.left]) h fun y hy=>hb y (by simp[hy])
      rw[List.length_append] at this
      simpa using this
theorem vE {g r:al} (h:r.ay=g.ay):∀ (l:List Term) (i:Int),gQ r l i=gQ g l i
  | [],_=>rfl
  | t :: l,i=>by
    simp only[gQ,vE h l]
    congr 1
    simp only[ij,jM,nX,h]
theorem nG {o:List Int} {n:Nat} (h:o.Nodup) (hb:∀ x∈o,0≤x∧x < n):o.length≤n:=by
  have:=mT o ((List.range n).map fun (k:Nat)=>(k:Int)) h fun x hx=>by
    have:=hb x hx
    exact List.mem_map.2 ⟨x.toNat,List.mem_range.2 (by omega),by omega⟩
  simpa using this
structure dy (g:al) (p q:List Bool) (o:List Int) (r:al):Prop where
  right:bk g=true
  pe:p=aG g true
  qe:q=bu g
  oe:o=ca p q g.rules
  re:r=iQ g (bJ o) p q
  nodup:o.Nodup
  inside:∀ x∈o,0≤x∧x < g.ax.length
  kept:∀ R∈g.rules,bH p q R=true→R.left∈o∧∀ s∈R.right,s < 0→-1 - s∈o
  from_:∀ x∈o,∃ R∈g.rules,bH p q R=true∧R.left=x
  start:g.start∈o
theorem LI {g:al} (hr:bk g=true) (hp:(aG g true).getD g.start.toNat false=true):dy g (aG g true) (bu g) (ca (aG g true) (bu g) g.rules) (iQ g (bJ (ca (aG g true) (bu g) g.rules)) (aG g true) (bu g)):=by
  have hf:=bc hr
  refine ⟨hr,rfl,rfl,rfl,rfl,FI _ _ _,fun x hx=>?_,fun R hm hk=>⟨oU.2 ⟨R,hm,hk,rfl⟩,fun s hs hn=>?_⟩,fun x hx=>oU.1 hx,xZ hr hf.gY hp (qB hr)⟩
  · obtain ⟨R,h1,_,rfl⟩:=oU.1 hx
    exact hf.left R h1
  · refine xZ hr (by omega) ?_ (rZ hr hm hk hs hn)
    rw[bH,Bool.and_eq_true] at hk
    have:=hk.2
    simp only[ep,List.all_eq_true] at this
    have:=this s hs
    rwa [if_neg (by omega)] at this
section
variable {g r:al} {p q:List Bool} {o:List Int}
theorem dy.rules (h:dy g p q o r):r.rules=(g.rules.filter (bH p q)).map (bz (bJ o)):=by rw[h.re]; rfl
theorem dy.ax (h:dy g p q o r):r.ax=o.map fun x=>g.ax.getD x.toNat ⟨#[]⟩:=by rw[h.re,h.oe]; rfl
theorem dy.ay (h:dy g p q o r):r.ay=g.ay:=by rw[h.re]; rfl
theorem dy.Cz (h:dy g p q o r):r.start=bJ o g.start:=by rw[h.re]; rfl
theorem dy.len (h:dy g p q o r):r.ax.length=o.length:=by rw[h.ax]; simp
theorem dy.j7 (h:dy g p q o r):bk r=true:=by
  have hf:=bc h.right
  have hR:=h.right
  simp only[bk,g9,iH,Bool.and_eq_true,decide_eq_true_eq] at hR ⊢
  obtain ⟨⟨⟨⟨⟨⟨⟨a1,a2⟩,⟨a3,a4⟩,a5⟩,a6⟩,a7⟩,a8⟩,a9⟩,a10⟩:=hR
  have hst:=iV h.start
  have hol:o.length≤g.ax.length:=nG h.nodup h.inside
  have hgn:g.ax.Nodup∧∀ s∈g.ax,ec (dI s)=true∧jM g s < 0:=by
    rw[pV] at a5
    refine ⟨(p7 g.ax).1 fun k s hk=>?_,fun s hs=>?_⟩
    · have:=a5 k s hk
      simp only[jv,tI,Bool.and_eq_true,beq_iff_eq] at this
      have:=this.1.2
      omega
    · obtain ⟨k,hk⟩:=List.getElem?_of_mem hs
      have:=a5 k s hk
      simp only[jv,Bool.and_eq_true,decide_eq_true_eq] at this
      exact ⟨this.1.1,this.2⟩
  have hget:∀ x∈o,∃ (hx:x.toNat < g.ax.length),g.ax.getD x.toNat ⟨#[]⟩=g.ax[x.toNat]:=fun x hx=>by
    have:=h.inside x hx
    exact ⟨by omega,by simp[List.getD_eq_getElem?_getD,List.getElem?_eq_getElem (show x.toNat < g.ax.length by omega)]⟩
  have hrn:r.ax.Nodup:=by
    rw[h.ax,List.nodup_iff_pairwise_ne,List.pairwise_map]
    refine (List.Pairwise.and_mem.1 h.nodup).imp ?_
    rintro x y ⟨hx,hy,hne⟩ e
    obtain ⟨h1,h2⟩:=hget x hx
    obtain ⟨h3,h4⟩:=hget y hy
    rw[h2,h4] at e
    have h5:=(List.getElem_inj hgn.1).1 e
    have h6:=h.inside x hx
    have h7:=h.inside y hy
    exact hne (by omega)
  have hrules:(g.rules.filter (bH p q)).length≤g.rules.length:=List.length_filter_le _ _
  obtain ⟨R0,hR0,hk0,_⟩:=h.from_ _ h.start
  have hpos:0 < (g.rules.filter (bH p q)).length:=List.length_pos_of_mem (List.mem_filter.2 ⟨hR0,hk0⟩)
  have hrl:r.rules.length=(g.rules.filter (bH p q)).length:=by rw[h.rules]; simp
  refine ⟨⟨⟨⟨⟨⟨⟨by rw[h.ay]; exact a1,?_⟩,⟨by rw[h.len]; omega,by rw[h.len]; omega⟩,?_⟩,by omega⟩,by omega⟩,by rw[h.Cz]; omega⟩,by rw[h.Cz,h.len]; omega⟩,?_⟩
  · rw[h.ay,vE h.ay]; exact a2
  · rw[pV]
    intro k s hk
    have hm:=List.mem_of_getElem? hk
    have hidx:=(p7 r.ax).2 hrn k s hk
    rw[h.ax,List.mem_map] at hm
    obtain ⟨x,hx,rfl⟩:=hm
    obtain ⟨h1,h2⟩:=hget x hx
    obtain ⟨h3,h4⟩:=hgn.2 _ (h2 ▸ List.getElem_mem h1:g.ax.getD x.toNat ⟨#[]⟩∈g.ax)
    simp only[jv,tI,Bool.and_eq_true,beq_iff_eq,decide_eq_true_eq]
    refine ⟨⟨h3,by rw[hidx]; omega⟩,?_⟩
    simp only[jM,h.ay] at h4 ⊢
    exact h4
  · rw[h.rules]
    have:=rY (r:=r) h.nodup h.len (g.rules.filter (bH p q)) [] (by rw[h.oe]; rfl) (fun x hx=>?_)
    · simpa using this
    obtain ⟨hm,hk⟩:=List.mem_filter.1 hx
    obtain ⟨_,hin⟩:=h.kept x hm hk
    have hb:=(tT _ _ a10).2 x hm
    have hb:=hb.2.2
    simp only[fp,Bool.and_eq_true,decide_eq_true_eq,List.all_eq_true] at hb ⊢
    obtain ⟨⟨⟨b1,b2⟩,b3⟩,b4⟩:=hb
    refine ⟨⟨⟨by simpa [bz] using b1,b2⟩,by rw[h.ay]; exact b3⟩,fun s hs=>?_⟩
    simp only[bz,List.mem_map] at hs
    obtain ⟨s0,hs0,rfl⟩:=hs
    have b5:=b4 s0 hs0
    by_cases hn:s0 < 0
    · rw[if_pos hn]
      have hl:=iV (hin s0 hs0 hn)
      simp only[jZ,iA,Bool.and_eq_true]
      rw[if_neg (by omega),decide_eq_false (p:=0≤-1 - bJ o (-1 - s0)) (by omega)]
      simp only[h.len,decide_eq_true_eq,Bool.false_and,Bool.not_false,and_true]
      omega
    · rw[if_neg hn]
      simp only[jZ,iA,h.ay] at b5 ⊢
      rw[if_pos (by omega)] at b5 ⊢
      exact b5
end
end Gv
set_option linter.unusedSimpArgs false
namespace Gv
open Go Go.Proofs
inductive qI (g:al):Int→Prop
  | mk (R:aJ):R∈g.rules→(∀ s∈R.right,s < 0→qI g (-1 - s))→qI g R.left
inductive lJ (g:al) (p:List Bool):Int→Prop
  | start:lJ g p g.start
  | next (R:aJ) (s:Int):R∈g.rules→lJ g p R.left→ep R.right p true=true→s∈R.right→s < 0→lJ g p (-1 - s)
theorem rO {l:List Int} {p:List Bool} : ep l p true=true↔∀ s∈l,s < 0→p.getD (-1 - s).toNat false=true:=by
  simp only[ep,List.all_eq_true]
  constructor
  · intro h s hs hn
    have:=h s hs
    rwa [if_neg (by omega)] at this
  · intro h s hs
    by_cases hn:s < 0
    · rw[if_neg (by omega)]; exact h s hs hn
    · rw[if_pos (by omega)]
theorem w8 {l:List Bool} {i j:Nat} (h:(l.set i true).getD j false=true):j=i∨l.getD j false=true:=by
  by_cases e:i=j
  · exact .inl e.symm
  · right
    simp only[List.getD_eq_getElem?_getD,List.getElem?_set,if_neg e] at h ⊢
    exact h
theorem yk {g:al} {i:Nat} : (cB g).getD i false=false:=by
  simp only[cB,List.getD_eq_getElem?_getD,List.getElem?_replicate]
  split <;> rfl
theorem BH {g:al} (hr:bk g=true):∀ i:Nat,(aG g true).getD i false=true→qI g i:=by
  have hf:=bc hr
  have hst:∀ (is:List Bool) (R:aJ),R∈g.rules→(∀ i:Nat,is.getD i false=true→qI g i)→∀ i:Nat,(dK true is R).getD i false=true→qI g i:=by
    intro is R hR h i hi
    unfold dK at hi
    split at hi
    · rename_i ha
      rcases w8 hi with rfl | hi
      · have:=hf.left R hR
        have e:((R.left.toNat:Nat):Int)=R.left:=by omega
        rw[e]
        refine .mk R hR fun s hs hn=>?_
        have:=h _ (rO.1 ha s hs hn)
        rwa [show (((-1 - s).toNat:Nat):Int) = -1 - s by omega] at this
      · exact h i hi
    · exact h i hi
  have hfold:∀ (l:List aJ) (is:List Bool),(∀ R∈l,R∈g.rules)→(∀ i:Nat,is.getD i false=true→qI g i)→∀ i:Nat,(l.foldl (dK true) is).getD i false=true→qI g i:=by
    intro l
    induction l with
    | nil=>intro is _ h; exact h
    | cons R l ih=>intro is hl h; exact ih _ (fun x hx=>hl x (by simp[hx])) (hst is R (hl R (by simp)) h)
  have hit:∀ (n:Nat) (is:List Bool),(∀ i:Nat,is.getD i false=true→qI g i)→∀ i:Nat,(iter (lS g true) n is).getD i false=true→qI g i:=by
    intro n
    induction n with
    | zero=>intro is h; exact h
    | succ n ih=>intro is h; exact ih _ (hfold g.rules is (fun _ h=>h) h)
  rw[aG,if_pos hr]
  exact hit _ _ fun i hi=>by rw[yk] at hi; simp at hi
theorem AD (t:Bool) (is:List Bool) (R:aJ):eE is (dK t is R):=by
  unfold dK
  split
  · exact .set _ _
  · exact .refl _
theorem Ad (t:Bool):∀ (l:List aJ) (is:List Bool),eE is (l.foldl (dK t) is)
  | [],is=>.refl _
  | R :: l,is=>(AD t is R).trans (Ad t l _)
theorem x8 {t:Bool} : ∀ {l:List aJ} {is:List Bool},l.foldl (dK t) is=is→∀ R∈l,dK t is R=is
  | [],_,_,_,h=>by simp at h
  | R :: l,is,h,x,hx=>by
    rw[List.foldl_cons] at h
    have h1:=Ad t l (dK t is R)
    rw[h] at h1
    have h2:=(h1.J7 (AD t is R))
    rcases List.mem_cons.1 hx with rfl | hx
    · exact h2
    · rw[h2] at h; exact x8 h x hx
theorem Hn {g:al} (hr:bk g=true) (t:Bool):lS g t (aG g t)=aG g t:=by
  have hf:=bc hr
  have h:=pM (oY t) g.rules 16 (cB g) (by have:=hf.ax; simp[cB]; omega)
  rw[EP,G6 hr] at h
  exact h.1
theorem oS {g:al} (hr:bk g=true) {t:Bool} {R:aJ} (hR:R∈g.rules) (ha:ep R.right (aG g t) t=true):(aG g t).getD R.left.toNat false=true:=by
  have h1:=x8 (Hn hr t) R hR
  have hf:=bc hr
  have hl:=my hr t
  have hb:=hf.left R hR
  unfold dK at h1
  rw[if_pos ha] at h1
  rw[← h1]
  simp only[List.getD_eq_getElem?_getD]
  rw[List.getElem?_set_self (by omega)]
  rfl
theorem tO {g:al} (hr:bk g=true) {x:Int} (h:qI g x):(aG g true).getD x.toNat false=true:=by
  induction h with
  | mk R hR _ ih=>exact oS hr hR (rO.2 fun s hs hn=>ih s hs hn)
theorem tU {g:al} (hr:bk g=true):∀ i:Nat,(bu g).getD i false=true→lJ g (aG g true) i:=by
  have hf:=bc hr
  have hmk:∀ (R:aJ),R∈g.rules→lJ g (aG g true) R.left→ep R.right (aG g true) true=true→∀ (l:List Int) (is:List Bool),(∀ s∈l,s∈R.right)→(∀ i:Nat,is.getD i false=true→lJ g (aG g true) i)→∀ i:Nat,(l.foldl mark is).getD i false=true→lJ g (aG g true) i:=by
    intro R hR hl ha l
    induction l with
    | nil=>intro is _ h; exact h
    | cons s l ih =>
      intro is hs h
      refine ih _ (fun x hx=>hs x (by simp[hx])) fun i hi=>?_
      unfold mark at hi
      split at hi
      · rename_i hn
        rcases w8 hi with rfl | hi
        · rw[show (((-1 - s).toNat:Nat):Int) = -1 - s by omega]
          exact .next R s hR hl ha (hs s (by simp)) hn
        · exact h i hi
      · exact h i hi
  have hst:∀ (is:List Bool) (R:aJ),R∈g.rules→(∀ i:Nat,is.getD i false=true→lJ g (aG g true) i)→∀ i:Nat,(ig (aG g true) is R).getD i false=true→lJ g (aG g true) i:=by
    intro is R hR h
    unfold ig
    split
    · rename_i ha
      rw[Bool.and_eq_true] at ha
      have h1:=h _ ha.1
      have:=hf.left R hR
      rw[show ((R.left.toNat:Nat):Int)=R.left by omega] at h1
      exact hmk R hR h1 ha.2 R.right is (fun _ h=>h) h
    · exact h
  have hfold:∀ (l:List aJ) (is:List Bool),(∀ R∈l,R∈g.rules)→(∀ i:Nat,is.getD i false=true→lJ g (aG g true) i)→∀ i:Nat,(l.foldl (ig (aG g true)) is).getD i false=true→lJ g (aG g true) i:=by
    intro l
    induction l with
    | nil=>intro is _ h; exact h
    | cons R l ih=>intro is hl h; exact ih _ (fun x hx=>hl x (by simp[hx])) (hst is R (hl R (by simp)) h)
  have hit:∀ (n:Nat) (is:List Bool),(∀ i:Nat,is.getD i false=true→lJ g (aG g true) i)→∀ i:Nat,(iter (rv g (aG g true)) n is).getD i false=true→lJ g (aG g true) i:=by
    intro n
    induction n with
    | zero=>intro is h; exact h
    | succ n ih=>intro is h; exact ih _ (hfold g.rules is (fun _ h=>h) h)
  rw[bu,if_pos hr]
  refine hit _ _ fun i hi=>?_
  rcases w8 hi with rfl | hi
  · have:=hf.gY
    rw[show ((g.start.toNat:Nat):Int)=g.start by omega]
    exact .start
  · rw[yk] at hi; simp at hi
theorem ue {g:al} (hr:bk g=true) {x:Int} (h:lJ g (aG g true) x):(bu g).getD x.toNat false=true:=by
  induction h with
  | start=>exact qB hr
  | next R s hR _ ha hs hn ih=>exact rZ hr hR (by rw[bH,ih,ha]; rfl) hs hn
section
variable {g r:al} {p q:List Bool} {o:List Int}
theorem dy.M7 (h:dy g p q o r) {x:Int} (hd:qI g x):x∈o→qI r (bJ o x):=by
  induction hd with
  | mk R hR hsub ih =>
    intro hx
    obtain ⟨R1,hR1,hk1,e1⟩:=h.from_ _ hx
    have hk:bH p q R=true:=by
      rw[bH,Bool.and_eq_true] at hk1 ⊢
      refine ⟨by rw[← e1]; exact hk1.1,?_⟩
      rw[h.pe]
      exact rO.2 fun s hs hn=>tO h.right (hsub s hs hn)
    have hin:=(h.kept R hR hk).2
    have hm:bz (bJ o) R∈r.rules:=by rw[h.rules]; exact List.mem_map.2 ⟨R,List.mem_filter.2 ⟨hR,hk⟩,rfl⟩
    refine qI.mk (bz (bJ o) R) hm fun s' hs' hn'=>?_
    simp only[bz,List.mem_map] at hs'
    obtain ⟨s,hs,rfl⟩:=hs'
    by_cases hn:s < 0
    · rw[if_pos hn]
      have:=ih s hs hn (hin s hs hn)
      rwa [show -1 - (-1 - bJ o (-1 - s))=bJ o (-1 - s) by omega]
    · rw[if_neg hn] at hn'; omega
theorem dy.Mw (h:dy g p q o r) {x:Int} (hx:x∈o):(aG r true).getD (bJ o x).toNat false=true:=by
  obtain ⟨R,hR,hk,rfl⟩:=h.from_ _ hx
  rw[bH,Bool.and_eq_true,h.pe] at hk
  have h1:=oS h.right hR hk.2
  have h2:=BH h.right _ h1
  have:=(h.inside _ hx)
  rw[show ((R.left.toNat:Nat):Int)=R.left by omega] at h2
  exact tO h.j7 (h.M7 h2 hx)
theorem dy.at_ (h:dy g p q o r) {k:Nat} (hk:k < o.length):∃ x∈o,bJ o x=k∧o[k]?=some x:=⟨o[k],List.getElem_mem _,vh h.nodup (List.getElem?_eq_getElem hk),List.getElem?_eq_getElem hk⟩
theorem dy.zC (h:dy g p q o r) {k:Nat} (hk:k < o.length):(aG r true).getD k false=true:=by
  obtain ⟨x,hx,h1,_⟩:=h.at_ hk
  have:=h.Mw hx
  rwa [h1,Int.toNat_natCast] at this
theorem dy.Ix (h:dy g p q o r) {R:aJ} (hR:R∈r.rules):ep R.right (aG r true) true=true:=by
  have hf:=bc h.j7
  refine rO.2 fun s hs hn=>h.zC ?_
  have:=hf.neg hR hs hn
  rw[h.len] at this
  omega
theorem dy.M8 (h:dy g p q o r) {x:Int} (hd:lJ g (aG g true) x):lJ r (aG r true) (bJ o x):=by
  induction hd with
  | start=>rw[← h.Cz]; exact .start
  | next R s hR h1 ha hs hn ih =>
    have hk:bH p q R=true:=by
      rw[bH,h.pe,h.qe,ha,ue h.right h1]; rfl
    have hm:bz (bJ o) R∈r.rules:=by rw[h.rules]; exact List.mem_map.2 ⟨R,List.mem_filter.2 ⟨hR,hk⟩,rfl⟩
    have hin:=(h.kept R hR hk).2 s hs hn
    have h2:=iV hin
    have:=lJ.next (g:=r) (p:=aG r true) (bz (bJ o) R) (-1 - bJ o (-1 - s)) hm ih (h.Ix hm) (by
      simp only[bz,List.mem_map]
      exact ⟨s,hs,by rw[if_pos hn]⟩) (by omega)
    rwa [show -1 - (-1 - bJ o (-1 - s))=bJ o (-1 - s) by omega] at this
theorem dy.zo (h:dy g p q o r) {k:Nat} (hk:k < o.length):(bu r).getD k false=true:=by
  obtain ⟨x,hx,h1,_⟩:=h.at_ hk
  obtain ⟨R,hR,hkk,rfl⟩:=h.from_ _ hx
  rw[bH,Bool.and_eq_true,h.qe] at hkk
  have h2:=tU h.right _ hkk.1
  have:=(h.inside _ hx)
  rw[show ((R.left.toNat:Nat):Int)=R.left by omega] at h2
  have:=ue h.j7 (h.M8 h2)
  rwa [h1,Int.toNat_natCast] at this
def jt (n:Nat):List Int:=(List.range n).map fun (k:Nat)=>(k:Int)
theorem Bk (n:Nat):(jt n).length=n:=by simp[jt]
theorem wT {n k:Nat} (h:k < n):(jt n)[k]?=some (k:Int):=by simp[jt,h]
theorem E9 (n:Nat):(jt n).Nodup:=by
  rw[jt,List.nodup_iff_pairwise_ne,List.pairwise_map]
  exact (List.nodup_range (n:=n)).imp fun h e=>h (by omega)
theorem wi {n:Nat} {x:Int} (h0:0≤x) (h1:x < n):bJ (jt n) x=x:=by
  have:=vh (E9 n) (wT (n:=n) (k:=x.toNat) (by omega))
  rw[show ((x.toNat:Nat):Int)=x by omega] at this
  exact this
theorem zQ {p q:List Bool} : ∀ (l:List aJ) (i:Int),(∀ R∈l,bH p q R=true)→cM p q l i=(List.range l.length).map fun (k:Nat)=>i+(k:Int)
  | [],_,_=>rfl
  | R :: l,i,h=>by
    rw[cM,if_pos (h R (by simp)),zQ l (i+1) (fun x hx=>h x (by simp[hx])),List.length_cons,List.range_succ_eq_map,List.map_cons,List.map_map]
    congr 1
    · omega
    · apply List.map_congr_left
      intro k _
      simp only[Function.comp]
      push_cast; omega
theorem q6 {f:Int→Int} {o:List Int} (hf:∀ x∈o,∀ y∈o,f x=f y→x=y):∀ (l:List aJ) (acc:List Int),(∀ x∈acc,x∈o)→(∀ R∈l,R.left∈o)→(l.map (bz f)).foldl dn (acc.map f)=(l.foldl dn acc).map f
  | [],_,_,_=>rfl
  | R :: l,acc,ha,hl=>by
    have e:dn (acc.map f) (bz f R)=(dn acc R).map f:=by
      have h1:(bz f R).left=f R.left:=rfl
      unfold dn
      rw[h1]
      by_cases h:R.left∈acc
      · rw[if_pos h,if_pos (List.mem_map.2 ⟨_,h,rfl⟩)]
      · rw[if_neg h,if_neg (fun hm=>by
          obtain ⟨y,hy,e⟩:=List.mem_map.1 hm
          exact h (hf y (ha y hy) _ (hl R (by simp)) e ▸ hy))]
        simp
    rw[List.map_cons,List.foldl_cons,List.foldl_cons,e]
    refine q6 hf l (dn acc R) (fun x hx=>?_) (fun x hx=>hl x (by simp[hx]))
    unfold dn at hx
    split at hx
    · exact ha x hx
    · rcases List.mem_append.1 hx with hx | hx
      · exact ha x hx
      · simp at hx; subst hx; exact hl R (by simp)
theorem dy.inj (h:dy g p q o r):∀ x∈o,∀ y∈o,bJ o x=bJ o y→x=y:=by
  intro x hx y hy e
  have h1:=wb hx
  have h2:=wb hy
  rw[e,h2] at h1
  exact (Option.some.inj h1).symm
theorem dy.Lf (h:dy g p q o r):o.map (bJ o)=jt o.length:=by
  apply List.ext_getElem?
  intro k
  rw[List.getElem?_map]
  by_cases hk:k < o.length
  · rw[wT hk,List.getElem?_eq_getElem hk,Option.map_some,vh h.nodup (List.getElem?_eq_getElem hk)]
  · rw[List.getElem?_eq_none (by omega),List.getElem?_eq_none (by rw[Bk]; omega)]; rfl
theorem dy.wW (h:dy g p q o r):∀ R∈r.rules,bH (aG r true) (bu r) R=true:=fun R hR=>by
  have hf:=bc h.j7
  have:=hf.left R hR
  rw[h.len] at this
  rw[bH,h.zo (by omega),h.Ix hR]; rfl
theorem dy.ord (h:dy g p q o r):ca (aG r true) (bu r) r.rules=jt o.length:=by
  unfold ca
  rw[List.filter_eq_self.2 h.wW,h.rules]
  have:=q6 h.inj (g.rules.filter (bH p q)) [] (by simp) (fun R hR=>by
    obtain ⟨h1,h2⟩:=List.mem_filter.1 hR
    exact (h.kept R h1 h2).1)
  rw[List.map_nil] at this
  rw[this,← h.Lf]
  congr 1
  rw[h.oe]; rfl
theorem dy.once (h:dy g p q o r):fK r=(r,jt r.rules.length,0):=by
  have hf:=bc h.j7
  have hst:=hf.start
  have hst0:=hf.gY
  rw[h.len] at hst
  rw[oA h.j7,if_pos (h.zC (by omega)),h.ord]
  have hk:cM (aG r true) (bu r) r.rules 0=jt r.rules.length:=by
    rw[zQ _ _ h.wW]
    unfold jt
    apply List.map_congr_left
    intro k _; omega
  have hr:iQ r (bJ (jt o.length)) (aG r true) (bu r)=r:=by
    unfold iQ
    rw[h.ord,List.filter_eq_self.2 h.wW]
    have e1:((jt o.length).map fun x=>r.ax.getD x.toNat ⟨#[]⟩)=r.ax:=by
      apply List.ext_getElem?
      intro k
      rw[List.getElem?_map]
      by_cases hkk:k < o.length
      · rw[wT hkk,Option.map_some]
        simp[List.getD_eq_getElem?_getD,List.getElem?_eq_getElem (show k < r.ax.length by rw[h.len]; omega)]
      · rw[List.getElem?_eq_none (by rw[Bk]; omega),List.getElem?_eq_none (by rw[h.len]; omega)]; rfl
    have e2:r.rules.map (bz (bJ (jt o.length)))=r.rules:=by
      conv=>rhs; rw[← List.map_id r.rules]
      apply List.map_congr_left
      intro R hR
      have hl:=hf.left R hR
      rw[h.len] at hl
      unfold bz
      rw[wi hl.1 hl.2]
      have e3:(R.right.map fun s=>if s < 0 then -1 - bJ (jt o.length) (-1 - s) else s)=R.right:=by
        conv=>rhs; rw[← List.map_id R.right]
        apply List.map_congr_left
        intro s hs
        by_cases hn:s < 0
        · have:=hf.neg hR hs hn
          rw[h.len] at this
          rw[if_pos hn,wi (by omega) this]
          simp only[id]; omega
        · rw[if_neg hn]; rfl
      rw[e3]; rfl
    rw[e1,e2,wi hst0 hst]
  rw[hr,hk]
end
def isRed (g:al):Bool:=(fK g).2.2 == 0 && decide (g=(fK g).1)
end Gv
set_option linter.unusedSimpArgs false
namespace Gv
open Go Go.Proofs
end Gv
set_option linter.unusedSimpArgs false
namespace Gv
open Go Go.Proofs
structure aY where
  bb:Int
  bq:Int
  rules:Int
  ay:Int
def gx:aY:=⟨(-1),0,0,0⟩
def bm:aY:=⟨0,0,0,0⟩
def aX (P:List aY) (m:Nat):aY:=P.getD m gx
abbrev bK (x:Int):Nat:=(-1 - x).toNat
def bA (P:List aY):List Int→aY→aY × Bool
  | [],s=>(s,true)
  | x :: l,s=>if 0≤x then bA P l ⟨s.bb,s.bq,s.rules,min 1048576 (s.ay+1)⟩
    else if (aX P (bK x)).bb < 0 then (s,false)
    else bA P l ⟨s.bb,max s.bq (aX P (bK x)).bq,min 1048576 (s.rules+(aX P (bK x)).rules),min 1048576 (s.ay+(aX P (bK x)).ay)⟩
def bj (P:List aY) (m:Nat):Prop:=0≤(aX P m).bb
def ju (P:List aY) (l:List Int):Prop:=∀ x∈l,x < 0→bj P (bK x)
theorem j3 (P:List aY):∀ (l:List Int) (s:aY),(bA P l s).2=true↔ju P l
  | [],s=>by simp[bA,ju]
  | x :: l,s=>by
    simp only[bA,ju,List.mem_cons]
    by_cases h:0≤x
    · rw[if_pos h,j3 P l]
      refine ⟨fun k y hy hn=>?_,fun k y hy=>k y (.inr hy)⟩
      rcases hy with rfl | hy
      · omega
      · exact k y hy hn
    · rw[if_neg h]
      by_cases h2:(aX P (bK x)).bb < 0
      · rw[if_pos h2]
        simp only[Bool.false_eq_true,false_iff]
        intro k
        have:=k x (.inl rfl) (by omega)
        unfold bj at this; omega
      · rw[if_neg h2,j3 P l]
        refine ⟨fun k y hy hn=>?_,fun k y hy=>k y (.inr hy)⟩
        rcases hy with rfl | hy
        · unfold bj; omega
        · exact k y hy hn
theorem fL (P:List aY) (k:Int):∀ (l:List Int) (s:aY),ju P l→((bA P l s).1.bq≤k↔s.bq≤k∧∀ x∈l,x < 0→(aX P (bK x)).bq≤k)
  | [],s,_=>by simp[bA]
  | x :: l,s,h=>by
    have hl:ju P l:=fun y hy=>h y (by simp[hy])
    simp only[bA,List.mem_cons]
    by_cases h0:0≤x
    · rw[if_pos h0,fL P k l _ hl]
      refine ⟨fun ⟨a,b⟩=>⟨a,fun y hy hn=>?_⟩,fun ⟨a,b⟩=>⟨a,fun y hy=>b y (.inr hy)⟩⟩
      rcases hy with rfl | hy
      · omega
      · exact b y hy hn
    · have:=h x (by simp) (by omega)
      unfold bj at this
      rw[if_neg h0,if_neg (by omega),fL P k l _ hl]
      refine ⟨fun ⟨a,b⟩=>⟨by simp only at a; omega,fun y hy hn=>?_⟩,fun ⟨a,b⟩=>⟨by have:=b x (.inl rfl) (by omega); simp only; omega,fun y hy=>b y (.inr hy)⟩⟩
      rcases hy with rfl | hy
      · simp only at a; omega
      · exact b y hy hn
theorem xp {P P':List aY} : ∀ (l:List Int) (s:aY),(∀ x∈l,x < 0→aX P (bK x)=aX P' (bK x))→bA P l s=bA P' l s
  | [],s,_=>rfl
  | x :: l,s,h=>by
    have hl:=fun s=>xp (P:=P) (P':=P') l s fun y hy=>h y (by simp[hy])
    simp only[bA]
    by_cases h0:0≤x
    · rw[if_pos h0,if_pos h0,hl]
    · rw[if_neg h0,if_neg h0,h x (by simp) (by omega),hl]
theorem pA (P:List aY):∀ (l:List Int) (s:aY),s.bq≤(bA P l s).1.bq
  | [],s=>Int.le_refl _
  | x :: l,s=>by
    simp only[bA]
    split
    · exact pA P l _
    · split
      · exact Int.le_refl _
      · have:=pA P l ⟨s.bb,max s.bq (aX P (bK x)).bq,min 1048576 (s.rules+(aX P (bK x)).rules),min 1048576 (s.ay+(aX P (bK x)).ay)⟩
        simp only at this ⊢; omega
def eN (P:List aY) (i:Nat) (r:aJ):aY:=⟨i,(bA P r.right bm).1.bq+1,min 1048576 ((bA P r.right bm).1.rules+1),(bA P r.right bm).1.ay⟩
def mD (P:List aY) (i:Nat) (N:List aY) (r:aJ):List aY :=
  if 0≤(aX N r.left.toNat).bb then N else if (bA P r.right bm).2=true then N.set r.left.toNat (eN P i r) else N
def jO (P:List aY):Nat→List aY→List aJ→List aY
  | _,N,[]=>N
  | i,N,r :: l=>jO P (i+1) (mD P i N r) l
def uu (rules:List aJ) (P:List aY):List aY:=jO P 0 P rules
def jR (P:List aY) (m:Nat):Nat→List aJ→Option aY
  | _,[]=>none
  | i,r :: l=>if r.left.toNat=m∧(bA P r.right bm).2=true then some (eN P i r) else jR P m (i+1) l
theorem u6 {N:List aY} {i m:Nat} {p:aY} (hm:m < N.length):aX (N.set i p) m=if i=m then p else aX N m:=by
  simp only[aX,List.getD_eq_getElem?_getD,List.getElem?_set]
  split
  · rename_i e; subst e; simp[hm]
  · rfl
theorem zI (P:List aY) (i:Nat) (N:List aY) (r:aJ):(mD P i N r).length=N.length:=by
  unfold mD; split; · rfl
  split <;> simp
theorem zZ (P:List aY):∀ (l:List aJ) (i:Nat) (N:List aY),(jO P i N l).length=N.length
  | [],_,_=>rfl
  | r :: l,i,N=>by rw[jO,zZ P l,zI]
theorem CR (P:List aY) (m:Nat):∀ (l:List aJ) (i:Nat) (N:List aY),m < N.length→aX (jO P i N l) m=if 0≤(aX N m).bb then aX N m else (jR P m i l).getD (aX N m)
  | [],i,N,hm=>by simp[jO,jR]
  | r :: l,i,N,hm=>by
    rw[jO,CR P m l (i+1) _ (by rw[zI]; exact hm),jR]
    unfold mD
    by_cases h1:0≤(aX N r.left.toNat).bb
    · rw[if_pos h1]
      by_cases h2:r.left.toNat=m
      · subst h2
        rw[if_pos h1,if_pos h1]
      · rw[if_neg (c:=r.left.toNat=m∧_) (fun e=>h2 e.1)]
    · rw[if_neg h1]
      by_cases h3:(bA P r.right bm).2=true
      · rw[if_pos h3]
        by_cases h2:r.left.toNat=m
        · subst h2
          rw[u6 hm,if_pos rfl,if_neg h1,if_pos (show (0:Int)≤(eN P i r).bb by simp only[eN]; omega),if_pos (c:=r.left.toNat=r.left.toNat∧_) (And.intro rfl h3)]
          rfl
        · rw[u6 hm,if_neg h2,if_neg (c:=r.left.toNat=m∧_) (fun e=>h2 e.1)]
      · rw[if_neg h3,if_neg (c:=r.left.toNat=m∧_) (fun e=>h3 e.2)]
theorem iP {P:List aY} {m:Nat} : ∀ {l:List aJ} {i:Nat} {p:aY},jR P m i l=some p→∃ (j:Nat) (r:aJ),l[j]?=some r∧r.left.toNat=m∧ju P r.right∧p=eN P (i+j) r∧∀ (j':Nat) (r':aJ),j' < j→l[j']?=some r'→r'.left.toNat=m→¬ ju P r'.right
  | [],i,p,h=>by simp[jR] at h
  | r :: l,i,p,h=>by
    rw[jR] at h
    by_cases hc:r.left.toNat=m∧(bA P r.right bm).2=true
    · rw[if_pos hc] at h
      exact ⟨0,r,rfl,hc.1,(j3 P _ _).1 hc.2,by simpa using h.symm,fun j' r' hj=>by omega⟩
    · rw[if_neg hc] at h
      obtain ⟨j,r2,a,b,c,d,e⟩:=iP h
      refine ⟨j+1,r2,by simpa using a,b,c,by rw[d]; congr 1; omega,fun j' r' hj hr hl hk=>?_⟩
      cases j' with
      | zero =>
        simp at hr; subst hr
        exact hc ⟨hl,(j3 P _ _).2 hk⟩
      | succ j'=>exact e j' r' (by omega) (by simpa using hr) hl hk
theorem Af {P:List aY} {m:Nat} : ∀ {l:List aJ} {i:Nat},jR P m i l=none→∀ r∈l,r.left.toNat=m→¬ ju P r.right
  | [],i,h,r,hr,_,_=>by simp at hr
  | r :: l,i,h,r',hr,hl,hk=>by
    rw[jR] at h
    by_cases hc:r.left.toNat=m∧(bA P r.right bm).2=true
    · rw[if_pos hc] at h; simp at h
    · rw[if_neg hc] at h
      rcases List.mem_cons.1 hr with rfl | hr
      · exact hc ⟨hl,(j3 P _ _).2 hk⟩
      · exact Af h r' hr hl hk
def aD (g:al) (k:Nat):List aY:=iter (uu g.rules) k (List.replicate g.ax.length gx)
theorem zB {α:Type} (f:α→α):∀ (k:Nat) (x:α),iter f (k+1) x=f (iter f k x)
  | 0,x=>rfl
  | k+1,x=>by rw[iter,zB f k,iter]
theorem ln (g:al) (k:Nat):aD g (k+1)=uu g.rules (aD g k):=zB _ _ _
theorem ey (g:al):∀ k,(aD g k).length=g.ax.length
  | 0=>by simp[aD,iter]
  | k+1=>by rw[ln,uu,zZ,ey g k]
theorem rq {P:List aY} {m:Nat} (h:P.length≤m):aX P m=gx:=by simp[aX,List.getD_eq_getElem?_getD,List.getElem?_eq_none h]
theorem Bq {P:List aY} {m:Nat} (h:bj P m):m < P.length:=by
  rcases Nat.lt_or_ge m P.length with h1 | h1
  · exact h1
  · unfold bj at h; rw[rq h1] at h; simp[gx] at h
theorem oZ (g:al) (k m:Nat):aX (aD g (k+1)) m=if 0≤(aX (aD g k) m).bb then aX (aD g k) m else if m < g.ax.length then (jR (aD g k) m 0 g.rules).getD (aX (aD g k) m) else aX (aD g k) m:=by
  by_cases hm:m < g.ax.length
  · rw[ln,uu,CR _ _ _ _ _ (by rw[ey]; exact hm),if_pos hm]
  · rw[if_neg hm,rq (by rw[ey]; omega),rq (by rw[ey]; omega)]
    simp
theorem xj {g:al} {k m:Nat} (h:bj (aD g k) m):aX (aD g (k+1)) m=aX (aD g k) m:=by
  rw[oZ]; unfold bj at h; rw[if_pos h]
theorem vL {g:al} {k m:Nat} (h:bj (aD g k) m):∀ d,aX (aD g (k+d)) m=aX (aD g k) m
  | 0=>rfl
  | d+1=>by
    have ih:=vL h d
    have:bj (aD g (k+d)) m:=by unfold bj at h ⊢; rw[ih]; exact h
    rw[← ih,← xj this]; rfl
theorem eT {g:al} {k m j:Nat} (h:bj (aD g k) m) (hj:k≤j):aX (aD g j) m=aX (aD g k) m∧bj (aD g j) m:=by
  obtain ⟨d,rfl⟩:∃ d,j=k+d:=⟨j - k,by omega⟩
  have:=vL h d
  exact ⟨this,by unfold bj at h ⊢; rw[this]; exact h⟩
theorem tX {g:al} {k m:Nat} (h0:¬ bj (aD g k) m) (h:bj (aD g (k+1)) m):jR (aD g k) m 0 g.rules=some (aX (aD g (k+1)) m):=by
  unfold bj at h h0
  rw[oZ,if_neg h0] at h
  rw[oZ,if_neg h0]
  split at h
  · rename_i hm
    rw[if_pos hm]
    cases hc:jR (aD g k) m 0 g.rules with
    | none=>rw[hc] at h; exact absurd h h0
    | some p=>rfl
  · exact absurd h h0
theorem jU {g:al} {m:Nat} : ∀ {k:Nat},¬ bj (aD g k) m→aX (aD g k) m=gx
  | 0,_=>by
    simp only[aD,iter,aX,List.getD_eq_getElem?_getD,List.getElem?_replicate]
    split <;> rfl
  | k+1,h=>by
    have h0:¬ bj (aD g k) m:=fun e=>h (eT e (by omega)).2
    unfold bj at h h0
    rw[oZ,if_neg h0] at h ⊢
    split
    · rename_i hm
      rw[if_pos hm] at h
      cases hc:jR (aD g k) m 0 g.rules with
      | none=>exact jU (k:=k) h0
      | some p =>
        rw[hc] at h
        obtain ⟨j,r,_,_,_,rfl,_⟩:=iP hc
        simp only[Option.getD_some,eN] at h; omega
    · exact jU (k:=k) h0
theorem eC (g:al):∀ k:Nat,∀ m,bj (aD g k) m→1≤(aX (aD g k) m).bq∧(aX (aD g k) m).bq≤k∧∀ j:Nat,j≤k→(aX (aD g k) m).bq≤j→bj (aD g j) m
  | 0,m,h=>by
    unfold bj at h
    have:aX (aD g 0) m=gx:=by
      simp only[aD,iter,aX,List.getD_eq_getElem?_getD,List.getElem?_replicate]
      split <;> rfl
    rw[this] at h; simp[gx] at h
  | k+1,m,h=>by
    have ih:=eC g k
    by_cases h0:bj (aD g k) m
    · obtain ⟨a,b,c⟩:=ih m h0
      rw[(eT h0 (Nat.le_succ k)).1]
      refine ⟨a,by push_cast; omega,fun j hj hh=>?_⟩
      rcases Nat.lt_or_ge k j with e | e
      · exact (eT h0 (by omega)).2
      · exact c j e hh
    · have hc:=tX h0 h
      obtain ⟨i,r,hr,hl,hk,hp,_⟩:=iP hc
      have hh:(aX (aD g (k+1)) m).bq=(bA (aD g k) r.right bm).1.bq+1:=by rw[hp]; rfl
      have h1:=pA (aD g k) r.right bm
      have h2:=(fL (aD g k) k r.right bm hk).2 ⟨by simp[bm],fun x hx hn=>(ih _ (hk x hx hn)).2.1⟩
      have h3:¬ (bA (aD g k) r.right bm).1.bq≤(k:Int) - 1:=by
        intro hle
        have hz:(0:Int)≤(bA (aD g k) r.right bm).1.bq:=h1
        obtain ⟨d,rfl⟩:∃ d,k=d+1:=⟨k - 1,by omega⟩
        have h4:=((fL (aD g (d+1)) _ r.right bm hk).1 hle).2
        have h5:ju (aD g d) r.right:=fun x hx hn=>(ih _ (hk x hx hn)).2.2 d (by omega) (by have:=h4 x hx hn; push_cast at this; omega)
        apply h0
        by_cases h6:bj (aD g d) m
        · exact (eT h6 (by omega)).2
        · unfold bj at h6 ⊢
          have hm:=Bq h
          rw[ey] at hm
          rw[oZ,if_neg h6,if_pos hm]
          cases hc2:jR (aD g d) m 0 g.rules with
          | none=>exact absurd h5 (Af hc2 r (List.mem_of_getElem? hr) hl)
          | some p =>
            obtain ⟨j,r2,_,_,_,rfl,_⟩:=iP hc2
            simp only[Option.getD_some,eN]; omega
      have hz:(0:Int)≤(bA (aD g k) r.right bm).1.bq:=h1
      refine ⟨by omega,by push_cast; omega,fun j hj hle=>?_⟩
      have:j=k+1:=by omega
      subst this; exact h
theorem sC {g:al} {m:Nat} : ∀ {k:Nat},bj (aD g k) m→∃ j,j < k∧¬ bj (aD g j) m∧(aX (aD g k) m).bq=j+1∧jR (aD g j) m 0 g.rules=some (aX (aD g k) m)
  | 0,h=>by
    have:=(eC g 0 m h)
    simp at this; omega
  | k+1,h=>by
    by_cases h0:bj (aD g k) m
    · obtain ⟨j,a,b,c,d⟩:=sC h0
      rw[(eT h0 (Nat.le_succ k)).1]
      exact ⟨j,by omega,b,c,d⟩
    · refine ⟨k,by omega,h0,?_,tX h0 h⟩
      obtain ⟨a,b,c⟩:=eC g (k+1) m h
      rcases Int.lt_or_le (k:Int) (aX (aD g (k+1)) m).bq with e | e
      · push_cast at b; omega
      · exact absurd (c k (by omega) e) h0
def oJ (P:List aY):List Bool:=P.map fun p=>decide (0≤p.bb)
theorem xA (P:List aY) (m:Nat):(oJ P).getD m false=true↔bj P m:=by
  simp only[oJ,bj,aX,List.getD_eq_getElem?_getD,List.getElem?_map]
  cases P[m]? with
  | none=>simp[gx]
  | some p=>simp
theorem LX (g:al) (k:Nat):eE (oJ (aD g k)) (oJ (aD g (k+1))) :=
  ⟨by simp[oJ,ey],fun i h=>(xA _ _).2 (eT ((xA _ _).1 h) (by omega)).2⟩
theorem L3 {g:al} {k:Nat} (h:oJ (aD g k)=oJ (aD g (k+1))):aD g (k+1)=aD g k:=by
  have hp:∀ m,aX (aD g (k+1)) m=aX (aD g k) m:=fun m=>by
    by_cases h0:bj (aD g k) m
    · exact xj h0
    · have h1:¬ bj (aD g (k+1)) m:=fun e=>h0 ((xA _ _).1 (by rw[h]; exact (xA _ _).2 e))
      rw[jU h0,jU h1]
  apply List.ext_getElem (by rw[ey,ey])
  intro m h1 h2
  have:=hp m
  simpa [aX,List.getD_eq_getElem?_getD,h1,h2] using this
theorem FH {g:al} {k:Nat} (hk:k≤cL (oJ (aD g k))):aD g (k+1)=aD g k∨k+1≤cL (oJ (aD g (k+1))):=by
  have:=(LX g k).cL
  by_cases e:cL (oJ (aD g k))=cL (oJ (aD g (k+1)))
  · exact .inl (L3 (this.2 e))
  · exact .inr (by omega)
theorem Dl (g:al) (k:Nat):cL (oJ (aD g k))≤g.ax.length:=by
  have:=rW (oJ (aD g k))
  simpa [oJ,ey] using this
theorem xK {g:al} {k:Nat} (h:aD g (k+1)=aD g k):∀ d,aD g (k+d)=aD g k
  | 0=>rfl
  | d+1=>by
    have ih:=xK h d
    rw[← Nat.add_assoc,ln,ih,← ln,h]
def ar (g:al):List aY:=aD g g.ax.length
theorem ki (g:al):(ar g).length=g.ax.length:=ey _ _
theorem Jy {g:al} {k:Nat} (hk:k≤g.ax.length) (h:aD g (k+1)=aD g k):aD g k=ar g:=by
  obtain ⟨d,hd⟩:∃ d,g.ax.length=k+d:=⟨g.ax.length - k,by omega⟩
  rw[ar,hd,xK h d]
theorem gZ {g:al} {m:Nat} (h:bj (ar g) m):1≤(aX (ar g) m).bq∧(aX (ar g) m).bq≤g.ax.length:=⟨(eC g _ m h).1,(eC g _ m h).2.1⟩
theorem C0 {g:al} {m:Nat} (h:¬ bj (ar g) m):aX (ar g) m=gx:=jU h
theorem vJ {g:al} {m:Nat} (h:bj (ar g) m):∃ (i:Nat) (r:aJ),g.rules[i]?=some r∧r.left.toNat=m∧ju (ar g) r.right∧aX (ar g) m=eN (ar g) i r ∧
    ∀ (j:Nat) (r':aJ),j < i→g.rules[j]?=some r'→r'.left.toNat=m→ju (ar g) r'.right→(bA (ar g) r'.right bm).1.bq+1≠(aX (ar g) m).bq:=by
  obtain ⟨k,hk,hn,hh,hc⟩:=sC h
  obtain ⟨i,r,hr,hl,ha,hp,hmin⟩:=iP hc
  have hsame:∀ x∈r.right,x < 0→aX (aD g k) (bK x)=aX (ar g) (bK x):=fun x hx hn=>((eT (ha x hx hn) (by omega)).1).symm
  have hs:bA (aD g k) r.right bm=bA (ar g) r.right bm:=xp _ _ hsame
  refine ⟨i,r,hr,hl,fun x hx hn=>(eT (ha x hx hn) (by omega)).2,?_,fun j r' hj hr' hl' ha' he=>?_⟩
  · show aX (aD g g.ax.length) m=_
    rw[hp]; unfold eN; rw[hs,Nat.zero_add]
  · have h1:(aX (ar g) m).bq=k+1:=hh
    refine hmin j r' hj hr' hl' fun x hx hn=>?_
    have h2:=((fL (ar g) k r'.right bm ha').1 (by omega)).2 x hx hn
    exact (eC g _ _ (ha' x hx hn)).2.2 k (by omega) h2
end Gv
set_option linter.unusedSimpArgs false
namespace Gv
open Go Go.Proofs
def LK (h:List Int) (m:Nat):Int:=h.getD m 0
abbrev Lv (P:List aY):List Int:=P.map aY.bq
theorem K8 (P:List aY) (m:Nat):LK (Lv P) m=(aX P m).bq:=by
  simp only[LK,aX,List.getD_eq_getElem?_getD,List.getElem?_map]
  cases P[m]? <;> rfl
def Kk (P:List aY):Prop:=∀ m,(bj P m→1≤(aX P m).bq)∧(¬ bj P m→aX P m=gx)
theorem Kk.zero {P:List aY} (h:Kk P) (m:Nat):LK (Lv P) m=0↔¬ bj P m:=by
  rw[K8]
  constructor
  · intro e k; have:=(h m).1 k; omega
  · intro k; rw[(h m).2 k]; rfl
theorem zU {P:List aY} {x:Int} {l:List Int} {s:aY} (h:0≤x):bA P (x :: l) s=bA P l ⟨s.bb,s.bq,s.rules,min 1048576 (s.ay+1)⟩:=by rw[bA,if_pos h]
theorem wc {P:List aY} {x:Int} {l:List Int} {s:aY} (h:¬ 0≤x) (hk:¬ (aX P (bK x)).bb < 0):bA P (x :: l) s=bA P l ⟨s.bb,max s.bq (aX P (bK x)).bq,min 1048576 (s.rules+(aX P (bK x)).rules),min 1048576 (s.ay+(aX P (bK x)).ay)⟩:=by rw[bA,if_neg h,if_neg hk]
theorem HN {P:List aY} {x:Int} {l:List Int} {s:aY} (h:¬ 0≤x) (hk:(aX P (bK x)).bb < 0):bA P (x :: l) s=(s,false):=by rw[bA,if_neg h,if_pos hk]
def oT (S:List (Int × Int)) (m:Nat):Int × Int:=S.getD m (0,0)
def tK (p:aY):Int × Int:=(min 1000 p.rules,min 1000 p.ay)
def dq (p:aY):Prop:=(0≤p.rules∧p.rules≤1048576)∧(0≤p.ay∧p.ay≤1048576)
theorem oO {P:List aY} (hP:∀ m,dq (aX P m)):∀ (l:List Int) (s:aY),dq s→dq (bA P l s).1
  | [],s,h=>h
  | x :: l,s,h=>by
    have hx:=hP (bK x)
    unfold dq at h hx
    simp only[bA]
    split
    · exact oO hP l _ (by unfold dq; simp only; omega)
    · split
      · exact h
      · exact oO hP l _ (by unfold dq; simp only; omega)
theorem lV:dq bm:=by unfold dq; simp[bm]
theorem HG:dq gx:=by unfold dq; simp[gx]
theorem gA (g:al):∀ k m,dq (aX (aD g k) m)
  | 0,m=>by
    have:aX (aD g 0) m=gx:=by
      simp only[aD,iter,aX,List.getD_eq_getElem?_getD,List.getElem?_replicate]
      split <;> rfl
    rw[this]; exact HG
  | k+1,m=>by
    by_cases h:bj (aD g (k+1)) m
    · by_cases h0:bj (aD g k) m
      · rw[(eT h0 (Nat.le_succ k)).1]; exact gA g k m
      · obtain ⟨i,r,_,_,_,hp,_⟩:=iP (tX h0 h)
        rw[hp]
        have:=oO (gA g k) r.right bm lV
        unfold dq at this ⊢
        simp only[eN]; omega
    · rw[jU h]; exact HG
def pQ (g:al) (i:Int):List Int:=(g.rules.getD i.toNat ⟨0,[],0⟩).right
def c7 (g:al) (P:List aY):Nat→List Int→List Int
  | 0,l=>l.flatMap fun x=>if 0≤x then [x] else []
  | f+1,l=>l.flatMap fun x=>if 0≤x then [x] else c7 g P f (pQ g (aX P (bK x)).bb)
def cK (g:al) (P:List aY):Nat→List Int→List Int
  | 0,_=>[]
  | f+1,l=>l.flatMap fun x=>if 0≤x then [] else (aX P (bK x)).bb :: cK g P f (pQ g (aX P (bK x)).bb)
def yi (P:List aY) (f:Nat) (l:List Int):Prop:=∀ x∈l,x < 0→bj P (bK x)∧(aX P (bK x)).bq≤f
theorem m6 (g:al) (P:List aY) (f:Nat):c7 g P f []=[]:=by cases f <;> rfl
theorem pP (g:al) (P:List aY) (f:Nat):cK g P f []=[]:=by cases f <;> rfl
theorem gE (g:al) (P:List aY) (f:Nat) (a b:List Int):c7 g P f (a ++ b)=c7 g P f a ++ c7 g P f b:=by cases f <;> simp[c7]
theorem gC (g:al) (P:List aY) (f:Nat) (a b:List Int):cK g P f (a ++ b)=cK g P f a ++ cK g P f b:=by cases f <;> simp[cK]
theorem iT {g:al} {P:List aY} {f:Nat} {x:Int} (h:0≤x):c7 g P f [x]=[x]:=by cases f <;> simp[c7,h]
theorem lp {g:al} {P:List aY} {f:Nat} {x:Int} (h:0≤x):cK g P f [x]=[]:=by cases f <;> simp[cK,h]
theorem kn {g:al} {P:List aY} {f:Nat} {x:Int} (h:x < 0):c7 g P (f+1) [x]=c7 g P f (pQ g (aX P (bK x)).bb):=by
  simp[c7,show ¬ 0≤x by omega]
theorem j0 {g:al} {P:List aY} {f:Nat} {x:Int} (h:x < 0):cK g P (f+1) [x]=(aX P (bK x)).bb :: cK g P f (pQ g (aX P (bK x)).bb):=by
  simp[cK,show ¬ 0≤x by omega]
theorem yQ {g:al} {l:List Int} (h:yi (ar g) 0 l):∀ x∈l,0≤x:=fun x hx=>by
  rcases Int.lt_or_le x 0 with h1 | h1
  · obtain ⟨a,b⟩:=h x hx h1
    have:=(gZ a).1
    simp at b; omega
  · exact h1
theorem sk {g:al} {f:Nat} {m:Nat} (h:bj (ar g) m) (hh:(aX (ar g) m).bq≤(f:Int)+1):∃ (i:Nat) (r:aJ),(aX (ar g) m).bb=i∧g.rules[i]?=some r∧pQ g (aX (ar g) m).bb=r.right∧yi (ar g) f r.right∧aX (ar g) m=eN (ar g) i r:=by
  obtain ⟨i,r,hr,hl,ha,hp,_⟩:=vJ h
  have hi:(aX (ar g) m).bb=i:=by rw[hp]; rfl
  have h2:(aX (ar g) m).bq=(bA (ar g) r.right bm).1.bq+1:=by rw[hp]; rfl
  have h1:=((fL (ar g) f r.right bm ha).1 (by omega)).2
  refine ⟨i,r,hi,hr,?_,fun x hx hn=>⟨ha x hx hn,h1 x hx hn⟩,hp⟩
  rw[hi]; simp[pQ,List.getD_eq_getElem?_getD,hr]
theorem jc {g:al} {f:Nat} (hc:∀ x,x < 0→bj (ar g) (bK x)→(aX (ar g) (bK x)).bq≤f→(aX (ar g) (bK x)).rules=min 1048576 ((cK g (ar g) f [x]).length:Int)∧(aX (ar g) (bK x)).ay=min 1048576 ((c7 g (ar g) f [x]).length:Int)) :
    ∀ (l:List Int) (s:aY),yi (ar g) f l→dq s→(bA (ar g) l s).1.rules=min 1048576 (s.rules+(cK g (ar g) f l).length)∧(bA (ar g) l s).1.ay=min 1048576 (s.ay+(c7 g (ar g) f l).length)
  | [],s,_,hs=>by
    unfold dq at hs
    rw[m6,pP]
    simp only[bA,List.length_nil]; omega
  | x :: l,s,hu,hs=>by
    have hu':yi (ar g) f l:=fun y hy=>hu y (by simp[hy])
    have e1:=gE g (ar g) f [x] l
    have e2:=gC g (ar g) f [x] l
    rw[List.singleton_append] at e1 e2
    rw[e1,e2,List.length_append,List.length_append]
    have hx:dq (aX (ar g) (bK x)):=gA g g.ax.length (bK x)
    unfold dq at hs hx
    by_cases h0:0≤x
    · obtain ⟨i1,i2⟩:=jc hc l ⟨s.bb,s.bq,s.rules,min 1048576 (s.ay+1)⟩ hu' (by unfold dq; simp only; omega)
      rw[zU h0,i1,i2,iT h0,lp h0]
      simp only[List.length_cons,List.length_nil]
      omega
    · obtain ⟨hk,hh⟩:=hu x (by simp) (by omega)
      obtain ⟨k1,k2⟩:=hc x (by omega) hk hh
      obtain ⟨i1,i2⟩:=jc hc l ⟨s.bb,max s.bq (aX (ar g) (bK x)).bq,min 1048576 (s.rules+(aX (ar g) (bK x)).rules),min 1048576 (s.ay+(aX (ar g) (bK x)).ay)⟩ hu' (by unfold dq; simp only; omega)
      unfold bj at hk
      rw[wc h0 (by omega),i1,i2,k1,k2]
      push_cast
      omega
theorem uc (g:al):∀ (f:Nat) (l:List Int) (s:aY),yi (ar g) f l→dq s →
    (bA (ar g) l s).1.rules=min 1048576 (s.rules+(cK g (ar g) f l).length)∧(bA (ar g) l s).1.ay=min 1048576 (s.ay+(c7 g (ar g) f l).length)
  | 0,l,s,hu,hs=>jc (fun x hx hk hh=>by have:=(gZ hk).1; simp only[Int.natCast_zero] at hh; omega) l s hu hs
  | f+1,l,s,hu,hs=>jc (fun x hx hk hh=>by
      obtain ⟨i,r,hi,hr,hra,hur,hp⟩:=sk (f:=f) hk (by push_cast at hh; exact hh)
      obtain ⟨j1,j2⟩:=uc g f r.right bm hur lV
      have k1:(aX (ar g) (bK x)).rules=min 1048576 ((bA (ar g) r.right bm).1.rules+1):=by rw[hp]; rfl
      have k2:(aX (ar g) (bK x)).ay=(bA (ar g) r.right bm).1.ay:=by rw[hp]; rfl
      rw[kn hx,j0 hx,hra,k1,k2,j1,j2]
      simp only[List.length_cons,bm]
      push_cast
      omega) l s hu hs
theorem lW {g:al} {f:Nat} (hc:∀ x,x < 0→(c7 g (ar g) f [x]).length≤6 * (cK g (ar g) f [x]).length):∀ (l:List Int),(c7 g (ar g) f l).length≤l.length+6 * (cK g (ar g) f l).length
  | []=>by rw[m6]; simp
  | x :: l=>by
    have e1:=gE g (ar g) f [x] l
    have e2:=gC g (ar g) f [x] l
    rw[List.singleton_append] at e1 e2
    rw[e1,e2,List.length_append,List.length_append]
    have ih:=lW hc l
    by_cases h0:0≤x
    · rw[iT h0,lp h0]
      simp only[List.length_cons,List.length_nil]; omega
    · have:=hc x (by omega)
      simp only[List.length_cons]; omega
theorem Lr {g:al} (hg:∀ r∈g.rules,r.right.length≤6) (i:Int):(pQ g i).length≤6:=by
  simp only[pQ,List.getD_eq_getElem?_getD]
  cases hr:g.rules[i.toNat]? with
  | none=>simp
  | some r=>simpa using hg r (List.mem_of_getElem? hr)
theorem Am {g:al} (hg:∀ r∈g.rules,r.right.length≤6):∀ (f:Nat) (l:List Int),(c7 g (ar g) f l).length≤l.length+6 * (cK g (ar g) f l).length
  | 0,l=>lW (fun x hx=>by simp[c7,show ¬ 0≤x by omega]) l
  | f+1,l=>lW (fun x hx=>by
      have i2:=Am hg f (pQ g (aX (ar g) (bK x)).bb)
      have:=Lr hg (aX (ar g) (bK x)).bb
      rw[kn hx,j0 hx]
      simp only[List.length_cons]; omega) l
def fS (g:al) (n:Int):List Int × Int :=
  if (bk g && decide (0≤n) && decide (n < g.ax.length))=true then
    (if (aX (ar g) n.toNat).bb < 0 then ([],9) else if 300 < (aX (ar g) n.toNat).rules then ([],13) else (cK g (ar g) g.ax.length [-1 - n],0))
  else ([],1)
end Gv
set_option linter.unusedSimpArgs false
namespace Gv
open Go Go.Proofs
def mJ (p:List Int) (i:Nat) (s:Int):Prop:=∃ c,p[i]?=some c∧(c=s∨c = -1)
inductive Sp (g:al) (p:List Int):List Int→Nat→Nat→Prop
  | nil (i:Nat):Sp g p [] i i
  | term (s:Int) (l:List Int) (i j:Nat):0≤s→mJ p i s→Sp g p l (i+1) j→Sp g p (s :: l) i j
  | bU (s:Int) (l:List Int) (R:aJ) (i k j:Nat):s < 0→R∈g.rules→R.left = -1 - s→Sp g p R.right i k→Sp g p l k j→Sp g p (s :: l) i j
theorem Sp.le {g:al} {p:List Int} {l:List Int} {i j:Nat} (h:Sp g p l i j):i≤j:=by
  induction h with
  | nil=>exact Nat.le_refl _
  | term _ _ _ _ _ _ _ ih=>omega
  | bU _ _ _ _ _ _ _ _ _ _ _ ih1 ih2=>omega
theorem Sp.len {g:al} {p:List Int} {l:List Int} {i j:Nat} (h:Sp g p l i j):i≤p.length→j≤p.length:=by
  induction h with
  | nil=>exact id
  | term _ _ i _ _ hf _ ih =>
    intro _
    obtain ⟨c,hc,_⟩:=hf
    have:=(List.getElem?_eq_some_iff.1 hc).1
    exact ih (by omega)
  | bU _ _ _ _ _ _ _ _ _ _ _ ih1 ih2=>exact fun h=>ih2 (ih1 h)
theorem Sp.app {g:al} {p:List Int} {a:List Int} {i k:Nat} (h:Sp g p a i k):∀ {b:List Int} {j:Nat},Sp g p b k j→Sp g p (a ++ b) i j:=by
  induction h with
  | nil=>exact fun h=>h
  | term s l i _ h0 hf _ ih=>exact fun hb=>.term s _ i _ h0 hf (ih hb)
  | bU s l R i k _ h0 hR hl h1 _ _ ih2=>exact fun hb=>.bU s _ R i k _ h0 hR hl h1 (ih2 hb)
theorem Sp.split {g:al} {p:List Int} : ∀ {a b:List Int} {i j:Nat},Sp g p (a ++ b) i j→∃ k,Sp g p a i k∧Sp g p b k j
  | [],b,i,j,h=>⟨i,.nil i,h⟩
  | s :: a,b,i,j,h=>by
    cases h with
    | term _ _ _ _ h0 hf h =>
      obtain ⟨k,h1,h2⟩:=Sp.split h
      exact ⟨k,.term s a i k h0 hf h1,h2⟩
    | bU _ _ R _ m _ h0 hR hl h1 h =>
      obtain ⟨k,h2,h3⟩:=Sp.split h
      exact ⟨k,.bU s a R i m k h0 hR hl h1 h2,h3⟩
structure Item where
  bb:Nat
  dot:Nat
  kr:Nat
  deriving DecidableEq
def Sound (g:al) (p:List Int) (at_:Nat) (x:Item):Prop:=∃ R,g.rules[x.bb]?=some R∧x.dot≤R.right.length∧x.kr≤at_∧Sp g p (R.right.take x.dot) x.kr at_
structure M6 (g:al) (p:List Int) (S:Nat→List Item):Prop where
  start:∀ (i:Nat) (R:aJ),g.rules[i]?=some R→R.left=g.start→⟨i,0,0⟩∈S 0
  term:∀ a x R s,x∈S a→g.rules[x.bb]?=some R→R.right[x.dot]?=some s→0≤s→mJ p a s→⟨x.bb,x.dot+1,x.kr⟩∈S (a+1)
  pred:∀ a x R s i R',x∈S a→g.rules[x.bb]?=some R→R.right[x.dot]?=some s→s < 0→g.rules[i]?=some R'→R'.left = -1 - s→a≤p.length→⟨i,0,a⟩∈S a
  null:∀ a x R s,x∈S a→g.rules[x.bb]?=some R→R.right[x.dot]?=some s→s < 0→(aG g false).getD (-1 - s).toNat false=true→a≤p.length→⟨x.bb,x.dot+1,x.kr⟩∈S a
  comp:∀ a y R' x R s,y∈S a→g.rules[y.bb]?=some R'→y.dot=R'.right.length→y.kr < a→x∈S y.kr→g.rules[x.bb]?=some R→R.right[x.dot]?=some s→s < 0→R'.left = -1 - s→a≤p.length→⟨x.bb,x.dot+1,x.kr⟩∈S a
inductive In (p:List Int) (T:Nat→Nat→Nat→Prop):List Int→Nat→Nat→Prop
  | nil (i:Nat):In p T [] i i
  | term (s:Int) (l:List Int) (i j:Nat):0≤s→mJ p i s→In p T l (i+1) j→In p T (s :: l) i j
  | bU (s:Int) (l:List Int) (i k j:Nat):s < 0→T (-1 - s).toNat i k→In p T l k j→In p T (s :: l) i j
end Gv
set_option linter.unusedSimpArgs false
namespace Gv
open Go
inductive gV (g:al):List Int→List Int→List Int→Prop
  | nil:gV g [] [] []
  | term (s:Int) (l t w:List Int):0≤s→gV g l t w→gV g (s :: l) t (s :: w)
  | bU (s:Int) (l:List Int) (k:Nat) (R:aJ) (t1 w1 t w:List Int):s < 0→g.rules[k]?=some R→R.left = -1 - s→gV g R.right t1 w1→gV g l t w→gV g (s :: l) (((k:Int) :: t1) ++ t) (w1 ++ w)
theorem gV.app {g:al} {a t w:List Int} (h:gV g a t w) {b t' w':List Int} (k:gV g b t' w'):gV g (a ++ b) (t ++ t') (w ++ w'):=by
  induction h with
  | nil=>exact k
  | term s l t w h0 _ ih=>exact .term s _ _ _ h0 ih
  | bU s l k R t1 w1 t w h0 hR hl h1 _ _ ih =>
    have:=gV.bU s _ k R t1 w1 _ _ h0 hR hl h1 ih
    simpa using this
structure Wk where
  rest:List Int
  word:List Int
  post:List Int
  high:Nat
def qc (s:Int) (x:Wk):Wk:=⟨x.rest,s :: x.word,x.post,x.high⟩
def sA (t:Int) (x y:Wk):Wk:=⟨y.rest,x.word ++ y.word,x.post ++ (t :: y.post),max (x.high+1) y.high⟩
def fB (g:al) (t:Int):Option aJ:=if 0≤t then g.rules[t.toNat]? else none
def bP (g:al):Nat→List Int→List Int→Option Wk
  | _,[],rest=>some ⟨rest,[],[],0⟩
  | f,s :: l,rest=>if 0≤s then (bP g f l rest).map (qc s) else
    match f,rest with
    | f+1,t :: rest=>match fB g t with
      | some R=>if R.left = -1 - s then (match bP g f R.right rest with
        | some x=>(bP g (f+1) l x.rest).map (sA t x)
        | none=>none) else none
      | none=>none
    | _,_=>none
termination_by f l _=>(f,l.length)
theorem gD (g:al) (f:Nat) (rest:List Int):bP g f [] rest=some ⟨rest,[],[],0⟩:=by rw[bP.eq_def]
theorem jj {g:al} {f:Nat} {s:Int} {l rest:List Int} (h:0≤s):bP g f (s :: l) rest=(bP g f l rest).map (qc s):=by
  rw[bP.eq_def]; simp only[if_pos h]
theorem nW {g:al} {s:Int} {l rest:List Int} (h:s < 0):bP g 0 (s :: l) rest=none:=by
  rw[bP.eq_def]; simp only[if_neg (show ¬ 0≤s by omega)]
theorem kh {g:al} {f:Nat} {s:Int} {l:List Int} (h:s < 0):bP g f (s :: l) []=none:=by
  rw[bP.eq_def]; simp only[if_neg (show ¬ 0≤s by omega)]
theorem gF {g:al} {f:Nat} {s t:Int} {l rest:List Int} (h:s < 0):bP g (f+1) (s :: l) (t :: rest)=match fB g t with
      | some R=>if R.left = -1 - s then (match bP g f R.right rest with
        | some x=>(bP g (f+1) l x.rest).map (sA t x)
        | none=>none) else none
      | none=>none:=by
  rw[bP.eq_def]; simp only[if_neg (show ¬ 0≤s by omega)]
def r5 (x y:Wk):Wk:=⟨y.rest,x.word ++ y.word,x.post ++ y.post,max x.high y.high⟩
theorem pC (g:al) (f:Nat):∀ (a b rest:List Int),bP g f (a ++ b) rest=match bP g f a rest with
    | some x=>(bP g f b x.rest).map (r5 x)
    | none=>none
  | [],b,rest=>by
    rw[gD]
    simp only[List.nil_append]
    cases bP g f b rest <;> simp[r5]
  | s :: a,b,rest=>by
    by_cases h:0≤s
    · rw[List.cons_append,jj h,jj h,pC g f a b rest]
      cases bP g f a rest with
      | none=>rfl
      | some x =>
        simp only[Option.map_some,qc]
        cases bP g f b x.rest <;> simp[r5,qc]
    · cases f with
      | zero=>rw[List.cons_append,nW (by omega),nW (by omega)]
      | succ f =>
        cases rest with
        | nil=>rw[List.cons_append,kh (by omega),kh (by omega)]
        | cons t rest =>
          rw[List.cons_append,gF (by omega),gF (by omega)]
          cases fB g t with
          | none=>rfl
          | some R =>
            simp only
            split
            · cases bP g f R.right rest with
              | none=>rfl
              | some x =>
                simp only
                rw[pC g (f+1) a b x.rest]
                cases bP g (f+1) a x.rest with
                | none=>rfl
                | some y =>
                  simp only[Option.map_some,sA]
                  cases bP g (f+1) b y.rest <;> simp[sA,r5,Nat.max_assoc]
            · rfl
theorem xR {g:al} (hg:∀ r∈g.rules,r.right.length≤6):∀ (f:Nat) (l rest:List Int) (x:Wk),bP g f l rest=some x→x.rest.length≤rest.length∧x.post.length+x.rest.length=rest.length∧x.word.length+6 * x.rest.length≤l.length+6 * rest.length∧x.high≤f:=by
  intro f
  induction f with
  | zero =>
    intro l
    induction l with
    | nil=>intro rest x h; rw[gD] at h; simp at h; subst h; simp
    | cons s l ih =>
      intro rest x h
      by_cases hs:0≤s
      · rw[jj hs] at h
        cases hw:bP g 0 l rest with
        | none=>rw[hw] at h; simp at h
        | some y =>
          rw[hw] at h; simp at h; subst h
          have:=ih rest y hw
          simp[qc]; omega
      · rw[nW (by omega)] at h; simp at h
  | succ f ihf =>
    intro l
    induction l with
    | nil=>intro rest x h; rw[gD] at h; simp at h; subst h; simp
    | cons s l ih =>
      intro rest x h
      by_cases hs:0≤s
      · rw[jj hs] at h
        cases hw:bP g (f+1) l rest with
        | none=>rw[hw] at h; simp at h
        | some y =>
          rw[hw] at h; simp at h; subst h
          have:=ih rest y hw
          simp[qc]; omega
      · cases rest with
        | nil=>rw[kh (by omega)] at h; simp at h
        | cons t rest =>
          rw[gF (by omega)] at h
          cases hr:fB g t with
          | none=>rw[hr] at h; simp at h
          | some R =>
            rw[hr] at h
            simp only at h
            split at h
            · cases hw:bP g f R.right rest with
              | none=>rw[hw] at h; simp at h
              | some y =>
                rw[hw] at h
                simp only at h
                cases hz:bP g (f+1) l y.rest with
                | none=>rw[hz] at h; simp at h
                | some z =>
                  rw[hz] at h; simp at h; subst h
                  have h1:=ihf R.right rest y hw
                  have h2:=ih y.rest z hz
                  have h3:R.right.length≤6:=by
                    unfold fB at hr
                    split at hr
                    · exact hg R (List.mem_of_getElem? hr)
                    · simp at hr
                  simp[sA]; omega
            · simp at h
theorem I6 {g:al} {l t w:List Int} (h:gV g l t w):∀ (f:Nat) (rest:List Int),t.length≤f→∃ x,bP g f l (t ++ rest)=some x∧x.rest=rest∧x.word=w:=by
  induction h with
  | nil=>exact fun f rest _=>⟨_,gD _ _ _,rfl,rfl⟩
  | term s l t w h0 _ ih =>
    intro f rest hf
    obtain ⟨x,h1,h2,h3⟩:=ih f rest hf
    exact ⟨qc s x,by rw[jj h0,h1]; rfl,h2,by rw[qc,h3]⟩
  | bU s l k R t1 w1 t w h0 hR hl _ _ ih1 ih2 =>
    intro f rest hf
    obtain ⟨f,rfl⟩:∃ f',f=f'+1:=⟨f - 1,by simp at hf; omega⟩
    obtain ⟨x,h1,h2,h3⟩:=ih1 f (t ++ rest) (by simp at hf; omega)
    obtain ⟨y,h4,h5,h6⟩:=ih2 (f+1) rest (by simp at hf; omega)
    refine ⟨sA k x y,?_,h5,by rw[sA,h3,h6]⟩
    rw[List.cons_append,List.cons_append,List.append_assoc,gF h0]
    have:fB g (k:Int)=some R:=by rw[fB,if_pos (by omega)]; simpa using hR
    rw[this]
    simp only
    rw[if_pos hl,h1]
    simp only
    rw[h2,h4]; rfl
theorem Gs {g:al} (hleft:∀ r∈g.rules,0≤r.left):∀ (f:Nat) (l:List Int),yi (ar g) f l→gV g l (cK g (ar g) f l) (c7 g (ar g) f l):=by
  intro f
  induction f with
  | zero =>
    intro l
    induction l with
    | nil=>intro _; rw[pP,m6]; exact .nil
    | cons s l ih =>
      intro h
      have h0:=yQ h s (by simp)
      have e1:=gC g (ar g) 0 [s] l
      have e2:=gE g (ar g) 0 [s] l
      rw[List.singleton_append] at e1 e2
      rw[e1,e2,lp h0,iT h0]
      exact .term s l _ _ h0 (ih fun x hx=>h x (by simp[hx]))
  | succ f ihf =>
    intro l
    induction l with
    | nil=>intro _; rw[pP,m6]; exact .nil
    | cons s l ih =>
      intro h
      have hl:=ih fun x hx=>h x (by simp[hx])
      have e1:=gC g (ar g) (f+1) [s] l
      have e2:=gE g (ar g) (f+1) [s] l
      rw[List.singleton_append] at e1 e2
      rw[e1,e2]
      by_cases h0:0≤s
      · rw[lp h0,iT h0]
        exact .term s l _ _ h0 hl
      · obtain ⟨hk,hh⟩:=h s (by simp) (by omega)
        obtain ⟨i,R,hi,hR,hra,hur,hlf⟩:=sk (f:=f) hk (by push_cast at hh; exact hh)
        rw[j0 (by omega),kn (by omega),hra,hi]
        have hRl:R.left = -1 - s:=by
          obtain ⟨i',r',hr',hl',_,hp',_⟩:=vJ hk
          have:(i':Int)=i:=by rw[← hi,hp']; rfl
          have:i'=i:=by omega
          subst this
          rw[hR] at hr'
          simp at hr'; subst hr'
          have:=hleft R (List.mem_of_getElem? hR)
          unfold bK at hl'
          omega
        exact .bU s l i R _ _ _ _ (by omega) hR hRl (ihf R.right hur) hl
end Gv
