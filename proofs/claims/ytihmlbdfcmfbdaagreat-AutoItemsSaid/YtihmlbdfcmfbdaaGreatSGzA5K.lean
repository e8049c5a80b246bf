/-
  Part 11 of the proof: what the machine does and what the functions answer.
  Conditions: those that each lemma names.
-/
import Derived.Test.YtihmlbdfcmfbdaaGreatSGzA5J
set_option linter.unusedSimpArgs false
set_option linter.unusedVariables false
set_option maxRecDepth 100000
namespace Gv
open Go Go.Proofs
def qw:SC :=
  .seq (al [aS 44 .lss 43 42]) <|
  .seq (.cond (.tmp 44) (.skip) (.exit 0)) <|
  .seq (.block 1 (.seq (al [aa 45 43,aZ 46 3 41 43,aK 47 3 46,((some 11),.op (.alloc [(.val (.int .i64 0)),(.emp 1),(.val (.int .i64 0))])),aa 10 45,(none,.op (.store 3 (.tmp 11) (.tmp 47)))]) <|
  .seq (.seq (.region false [⟨none,[aa 48 6,au 49 0 11,aw 50 49,aZ 51 1 48 50,aw 52 51,b7 53 52,aa 54 53]⟩,⟨(some (54,false)),[aK 55 3 11,aa 56 5,aH 57 160 [55,56],b7 58 57]⟩,⟨none,[bC 59 54 58]⟩]) <|
  .cond (.tmp 59) (.exit 1) (.skip)) <|
  .seq (al [aa 60 7,aa 61 10,((some 62),.op (.bF 1 1 [(.val (.int .i64 0))] [(0,(.tmp 61))])),((some 63),.op (.app 1 8 (.tmp 60) (.tmp 62))),aa 7 63]) <|
  .seq (al [aa 65 9,au 66 0 11,aw 67 66,((some 68),.op (.old (.lookup 204 (.tmp 65) (.tmp 67) true) 30)),aa 64 68,cB 69 0 64,cB 70 1 64,aa 12 69,aa 13 70]) <|
  .seq (al [aa 71 13,b7 72 71]) <|
  .cond (.tmp 72) (.seq (al [aa 73 9,au 74 0 11,aw 75 74,au 76 1 8,aw 77 76,aR 78 77,(none,.op (.old (.mapUpdate 204 (.tmp 73) (.tmp 75) (.tmp 78)) 0))]) <|
  .region false [⟨none,[au 79 1 8,aw 80 79,au 81 1 1,aw 82 81,au 83 0 11,aw 84 83,aZ 85 1 82 84,aw 86 85,((some 87),.op (.bF 1 1 [(.val (.string ⟨#[]⟩))] [(0,(.tmp 86))])),((some 88),.op (.app 1 16 (.tmp 80) (.tmp 87))),au 89 1 8,(none,.op (.store 1 (.tmp 89) (.tmp 88)))]⟩]) (.skip))) <|
  al [az 90 .add 43 1,aa 43 90]
def qp:SC :=
  .seq (al [aS 116 .lss 115 114]) <|
  .seq (.cond (.tmp 116) (.skip) (.exit 4)) <|
  .seq (.block 5 (.seq (al [aa 117 115,aZ 118 1 113 115,aw 119 118,aa 18 117,aa 19 119]) <|
  .seq (al [aa 120 19,az 121 .lss 120 0]) <|
  .cond (.tmp 121) (al [au 122 1 17,aw 123 122,aa 124 18,aa 125 9,aa 126 19,((some 127),.op (.arith .sub (.val (.val (.int .i64 (-1)))) (.tmp 126))),((some 128),.op (.old (.lookup 204 (.tmp 125) (.tmp 127) false) 3)),((some 129),.op (.arith .sub (.val (.val (.int .i64 (-1)))) (.tmp 128))),aZ 130 1 123 124,(none,.op (.store 1 (.tmp 130) (.tmp 129)))]) (.skip))) <|
  al [az 131 .add 115 1,aa 115 131]
def qy:SC :=
  .seq (al [aS 94 .lss 93 92]) <|
  .seq (.cond (.tmp 94) (.skip) (.exit 2)) <|
  .seq (.block 3 (.seq (al [aZ 95 1 91 93,aw 96 95,aa 15 96]) <|
  .seq (al [au 97 2 1,aw 98 97,aa 99 15,aZ 100 3 98 99,aK 101 3 100,((some 16),.op (.alloc [(.val (.int .i64 0)),(.emp 1),(.val (.int .i64 0))])),(none,.op (.store 3 (.tmp 16) (.tmp 101)))]) <|
  .seq (.region true [⟨none,[aa 102 9,au 103 0 16,aw 104 103,((some 105),.op (.old (.lookup 204 (.tmp 102) (.tmp 104) false) 3)),au 106 1 16,aw 107 106,aH 108 161 [107],au 109 2 16,aw 110 109,((some 111),.op (.build [(.val (.int .i64 0)),(.emp 1),(.val (.int .i64 0))] [(0,1,(.tmp 105)),(1,1,(.tmp 108)),(2,1,(.tmp 110))])),((some 17),.op (.alloc [(.val (.int .i64 0)),(.emp 1),(.val (.int .i64 0))])),(none,.op (.store 3 (.tmp 17) (.tmp 111)))]⟩]) <|
  .seq (.seq (al [au 112 1 17,aw 113 112,aR 114 113,aJ 115 0]) <|
  .block 4 (.loop qp)) <|
  al [au 132 2 8,aw 133 132,aK 134 3 17,((some 135),.op (.bF 1 3 [(.val (.int .i64 0)),(.emp 1),(.val (.int .i64 0))] [(0,(.tmp 134))])),((some 136),.op (.app 3 40 (.tmp 133) (.tmp 135))),au 137 2 8,(none,.op (.store 1 (.tmp 137) (.tmp 136)))])) <|
  al [az 138 .add 93 1,aa 93 138]
def tD:SF:=⟨.seq (al [bQ 1 0,((some 2),.op (.alloc [(.emp 1),(.emp 1),(.emp 1),(.val (.int .i64 0))])),((some 3),.op (.bk (.val (.emp 1)))),aJ 4 0]) <|
  .seq (.seq (al [aK 20 4 1,aH 21 52 [20],b7 22 21]) <|
  .cond (.tmp 22) (.seq (al [((some 23),.op (.build [(.emp 1),(.emp 1),(.emp 1),(.val (.int .i64 0))] [])),(none,.op (.store 4 (.tmp 2) (.tmp 23))),((some 3),.op (.bk (.val (.emp 1)))),aJ 4 1]) <|
  .ret) (.skip)) <|
  .seq (.region true [⟨none,[aK 24 4 1,aH 25 157 [24],aK 26 4 1,aH 27 158 [26],aa 5 25,aa 6 27]⟩]) <|
  .seq (.seq (al [aa 28 5,au 29 3 1,aw 30 29,aZ 31 1 28 30,aw 32 31,b7 33 32]) <|
  .cond (.tmp 33) (.seq (al [((some 34),.op (.build [(.emp 1),(.emp 1),(.emp 1),(.val (.int .i64 0))] [])),(none,.op (.store 4 (.tmp 2) (.tmp 34))),((some 3),.op (.bk (.val (.emp 1)))),aJ 4 9]) <|
  .ret) (.skip)) <|
  .seq (al [((some 7),.op (.bk (.val (.emp 1))))]) <|
  .seq (al [au 35 0 1,aw 36 35,aH 37 159 [36],((some 38),.op (.build [(.emp 1),(.emp 1),(.emp 1),(.val (.int .i64 0))] [(0,1,(.tmp 37))])),((some 8),.op (.alloc [(.emp 1),(.emp 1),(.emp 1),(.val (.int .i64 0))])),(none,.op (.store 4 (.tmp 8) (.tmp 38)))]) <|
  .seq (al [((some 39),.op (.oB)),aa 9 39]) <|
  .seq (.seq (al [au 40 2 1,aw 41 40,aR 42 41,aJ 43 0]) <|
  .block 0 (.loop qw)) <|
  .seq (.seq (al [aa 91 7,aR 92 91,aJ 93 0]) <|
  .block 2 (.loop qy)) <|
  .seq (al [aa 139 9,au 140 3 1,aw 141 140,((some 142),.op (.old (.lookup 204 (.tmp 139) (.tmp 141) false) 3)),au 143 3 8,(none,.op (.store 1 (.tmp 143) (.tmp 142)))]) <|
  .seq (al [aK 144 4 8,aa 145 7,(none,.op (.store 4 (.tmp 2) (.tmp 144))),aa 3 145,aJ 4 0]) <|
  .ret,
  [.cell 2 (some 4),.tmp 3,.tmp 4],146⟩
theorem xw:bf Tryz.prog 109 [1]=some tD:=by kernel_rfl
abbrev uv (m:cd Int):List (V × V × Nat):=dC (Value.int .i64) m
def M3 (g:ao) (p q:List Bool) (b2 b8 b9:Nat) (u0:V) (i:Nat) (T:Env) (H:View):Prop :=
  (∃ u1 u3:V,T 7=u3∧(∀ x∈cK p q (g.rules.take i),0≤x∧x < g.aC.length)∧(cK p q (g.rules.take i)).length≤i ∧
    bq H [(.sl b8 0 1 4,4,[[u0,u1,.emp 1,gi 0]]),(u3,1,du (db p q (g.rules.take i) 0)),
      (u1,1,pW ((cK p q (g.rules.take i)).map fun x=>g.aC.getD x.toNat ⟨#[]⟩)),(u0,3,g.aA.map cU),(.sl b2 0 1 4,4,[[.emp 1,.emp 1,.emp 1,gi 0]])] ∧
    ∃ m c,H b9=.map (uv m) c∧lp gi (hU (cK p q (g.rules.take i)) 0) m) ∧
  T 1=.aX (ax g) 0∧T 2=.ptr b2 0 0∧T 5=df p∧T 6=df q∧T 8=.ptr b8 0 0∧T 9=.mp b9∧T 41=.aP (g.rules.map bo)∧T 42=gi g.rules.length∧T 43=gi i
theorem zG {α:Type} {x s:α} : ∀ {a d:List α} {k:Nat},a.length=k→(a ++ s :: d).set k x=a ++ x :: d
  | [],d,k,h=>by simp at h; subst h; rfl
  | y :: a,d,k,h=>by
    cases k with
    | zero=>simp at h
    | succ k=>simp only[List.cons_append,List.set_cons_succ]; rw[zG (by simpa using h)]
def OC (g:ao) (p q:List Bool) (b2 b8 b9:Nat) (u0 u1 u3:V) (o kl:List Int) (mm:cd Int) (cc:Nat) (i:Nat) (T:Env) (H:View):Prop :=
  (∃ (u2:V) (bs:yL),bs.map (·.2)=((g.rules.filter (bI p q)).take i).map (bA (dc o)) ∧
    bq H ((.sl b8 0 1 4,4,[[u0,u1,u2,gi 0]]) :: (u3,1,du kl) ::
      (u1,1,pW (o.map fun x=>g.aC.getD x.toNat ⟨#[]⟩)) :: (u0,3,g.aA.map cU) :: (u2,3,iZ bs) :: (.sl b2 0 1 4,4,[[.emp 1,.emp 1,.emp 1,gi 0]]) :: rE bs) ∧
    H b9=.map (uv mm) cc) ∧
  T 1=.aX (ax g) 0∧T 2=.ptr b2 0 0∧T 7=u3∧T 8=.ptr b8 0 0∧T 9=.mp b9∧T 91=u3∧T 92=gi kl.length∧T 93=gi i
def Ou (g:ao) (b2 b8 b9 b16 b17:Nat) (u3 v:V) (o kl:List Int) (mm:cd Int) (cc:Nat) (r:aN) (L:List fa) (i k:Nat) (T:Env) (H:View):Prop :=
  bq H ((.sl b17 0 1 3,3,[[gi (dc o r.left),v,gi r.prec]]) :: (v,1,du ((bA (dc o) r).right.take k ++ r.right.drop k)) :: (.sl b16 0 1 3,3,[bo r]) :: L) ∧
  H b9=.map (uv mm) cc∧T 1=.aX (ax g) 0∧T 2=.ptr b2 0 0∧T 7=u3∧T 8=.ptr b8 0 0∧T 9=.mp b9∧T 91=u3∧T 92=gi kl.length∧T 93=gi i∧T 17=.ptr b17 0 0∧T 113=v∧T 114=gi r.right.length∧T 115=gi k
set_option maxHeartbeats 8000000 in
theorem EH (g:ao) (hg:g.Ok) (hs:g.Small):dR Tryz.prog 109 [.agg (ax g)] (zR (if bt g=true then
    if (aM g true).getD g.start.toNat false=true then (kg g (dc (cK (aM g true) (bE g) g.rules)) (aM g true) (bE g),db (aM g true) (bE g) g.rules 0,0)
    else (qh,[],9)
  else (qh,[],1))):=by
  refine dR.of (jj g) ?_
  refine aB.of mixed xw ?_
  simp (disch:=omega) only [↓wr,↓reduceIte,wq,ah,ag,aj,ab,ae,af,ai,isNil,Nat.reduceEqDiff,Nat.reduceAdd,Nat.reduceLT,Nat.reduceLeDiff,Int.reduceNeg,Int.reduceToNat,reduceCtorEq,tD,ax,encS]
  intro b2
  try simp (disch:=omega) only [↓wr,↓reduceIte,wq,ah,ag,aj,ab,ae,af,ai,isNil,Nat.reduceEqDiff,Nat.reduceAdd,Nat.reduceLT,Nat.reduceLeDiff,Int.reduceNeg,Int.reduceToNat,reduceCtorEq,ax,encS]
  refine aG.pure (nb g hg hs.names) (by kernel_rfl) ?_
  repeat' (first | (refine av.dec (fun _=>?_) (fun _=>?_)) | (refine av.eq (fun _=>?_) (fun _=>?_)) | (refine av.ne (fun _=>?_) (fun _=>?_)) | (refine av.split (fun _=>?_) (fun _=>?_)) | (simp (disch:=omega) only [↓wr,↓reduceIte,wq,ah,ag,aj,ab,ae,af,ai,isNil,Nat.reduceEqDiff,Nat.reduceAdd,Nat.reduceLT,Nat.reduceLeDiff,Int.reduceNeg,Int.reduceToNat,reduceCtorEq,ax,encS,set_set]))
  · rename_i hr
    rw[if_pos hr]
    refine aG.pure (rO g hg hs).pure (by kernel_rfl) ?_
    simp (disch:=omega) only [↓wr,↓reduceIte,wq,ah,ag,aj,ab,ae,af,ai,isNil,Nat.reduceEqDiff,Nat.reduceAdd,Nat.reduceLT,Nat.reduceLeDiff,Int.reduceNeg,Int.reduceToNat,reduceCtorEq,ax,encS]
    refine aG.pure (B2 g hg hs).pure (by kernel_rfl) ?_
    have hf:=bu hr
    have h3:=hf.lF
    have h4:=hf.start
    have hpl:=mU hr true
    have hql:=qX hr
    generalize aM g true=p at hpl ⊢
    generalize bE g=q at hql ⊢
    have hps:p[g.start.toNat]?=some (p[g.start.toNat]'(by omega)):=List.getElem?_eq_getElem (by omega)
    have hpd:p.getD g.start.toNat false=p[g.start.toNat]'(by omega):=by simp[List.getD_eq_getElem?_getD,hps]
    generalize p[g.start.toNat]'(by omega)=s at hps hpd
    rw[hpd]
    simp (disch:=omega) only [↓wr,↓reduceIte,wq,ah,ag,aj,ab,ae,af,ai,isNil,Nat.reduceEqDiff,Nat.reduceAdd,Nat.reduceLT,Nat.reduceLeDiff,Int.reduceNeg,Int.reduceToNat,reduceCtorEq,ax,encS,df,List.getElem?_map,hps]
    cases s with
    | false =>
      simp (disch:=omega) only [↓wr,↓reduceIte,wq,ah,ag,aj,ab,ae,af,ai,isNil,Nat.reduceEqDiff,Nat.reduceAdd,Nat.reduceLT,Nat.reduceLeDiff,Int.reduceNeg,Int.reduceToNat,reduceCtorEq,ax,encS,set_set]
      rintro h' hh
      exact CO
    | true =>
      simp (disch:=omega) only [↓wr,↓reduceIte,wq,ah,ag,aj,ab,ae,af,ai,isNil,Nat.reduceEqDiff,Nat.reduceAdd,Nat.reduceLT,Nat.reduceLeDiff,Int.reduceNeg,Int.reduceToNat,reduceCtorEq,ax,encS,set_set]
      have hN:=hf.aC
      have hN1:=hf.yO
      have hT:=hf.aA
      have hR:=hf.rules
      refine aG.gT ((IB g.aA (by omega) _).mono ?_)
      rintro u0 H1 ⟨hu0,hfr⟩
      have ho1:=(bq.nil.new (H:=fun _=>bM.dead) (n:=b2) rfl 4 [[.emp 1,.emp 1,.emp 1,gi 0]]).M7 hu0 hfr
      have c0:=ho1.head.cells
      have k0:=ho1.head.A8
      simp (disch:=omega) only [↓wr,↓reduceIte,wq,ah,ag,aj,ab,ae,af,ai,isNil,Nat.reduceEqDiff,Nat.reduceAdd,Nat.reduceLT,Nat.reduceLeDiff,Int.reduceNeg,Int.reduceToNat,reduceCtorEq,ax,encS,c0,k0]
      intro b8 hb8
      have ho2:=ho1.new hb8 4 [[u0,.emp 1,.emp 1,gi 0]]
      try simp (disch:=omega) only [↓wr,↓reduceIte,wq,ah,ag,aj,ab,ae,af,ai,isNil,Nat.reduceEqDiff,Nat.reduceAdd,Nat.reduceLT,Nat.reduceLeDiff,Int.reduceNeg,Int.reduceToNat,reduceCtorEq,ax,encS,c0,k0,set_set]
      intro b9 hb9
      have hb98:=(fQ hb9 fU).1
      have hb9:=(fQ (fQ hb9 fU).2 fU).2
      have ho3:=(((ho2.fresh (n:=b9) (o:=.map [] 0) (by simp only[View.set,if_neg hb98]; exact hb9)).emp (k:=1) (sz:=1)).emp (k:=1) (sz:=1)).perm Oy.symm
      try simp (disch:=omega) only [↓wr,↓reduceIte,wq,ah,ag,aj,ab,ae,af,ai,isNil,Nat.reduceEqDiff,Nat.reduceAdd,Nat.reduceLT,Nat.reduceLeDiff,Int.reduceNeg,Int.reduceToNat,reduceCtorEq,ax,encS,c0,k0,set_set]
      refine bH.up g.rules.length (M3 g p q b2 b8 b9 u0) ?_ ?_
      · refine ⟨⟨.emp 1,.emp 1,rfl,by simp[cK],by simp[cK],by rw[set_set]; exact ho3,[],0,by simp[View.set,dC],trivial⟩,rfl,rfl,rfl,rfl,rfl,rfl,rfl,rfl,rfl⟩
      clear ho1 ho2 ho3 hb8 hb9 hb98
      rintro i k T H2 hk ⟨⟨u1,u3,t7,hin,holen,ho,mm,cc,h9,hm9⟩,t1,t2,t5,t6,t8,t9,t41,t42,t43⟩
      simp (disch:=omega) only [↓wr,↓reduceIte,wq,ah,ag,aj,ab,ae,af,ai,isNil,Nat.reduceEqDiff,Nat.reduceAdd,Nat.reduceLT,Nat.reduceLeDiff,Int.reduceNeg,Int.reduceToNat,reduceCtorEq,qw,t1,t2,t5,t6,t7,t8,t9,t41,t42,t43,ax]
      refine av.dec (fun hc=>?_) (fun hc=>?_)
      · have hg2:g.rules[i]?=some (g.rules[i]'(by omega)):=List.getElem?_eq_getElem (by omega)
        have hmem:g.rules[i]'(by omega)∈g.rules:=List.getElem_mem _
        have htk:g.rules.take (i+1)=g.rules.take i ++ [g.rules[i]'(by omega)]:=by rw[List.take_add_one,hg2]; rfl
        generalize g.rules[i]'(by omega)=r at hg2 hmem htk
        obtain ⟨hl1,hl2,hl3,hr6,hsy⟩:=hf.xX hg hmem
        have hqs:q[r.left.toNat]?=some (q[r.left.toNat]'(by omega)):=List.getElem?_eq_getElem (by omega)
        have hqd:q.getD r.left.toNat false=q[r.left.toNat]'(by omega):=by simp[List.getD_eq_getElem?_getD,hqs]
        generalize q[r.left.toNat]'(by omega)=qs at hqs hqd
        simp (disch:=omega) only [↓wr,↓reduceIte,wq,ah,ag,aj,ab,ae,af,ai,isNil,Nat.reduceEqDiff,Nat.reduceAdd,Nat.reduceLT,Nat.reduceLeDiff,Int.reduceNeg,Int.reduceToNat,reduceCtorEq,t1,t2,t5,t6,t7,t8,t9,t41,t42,t43,bo,encI,List.getElem?_map,hg2]
        intro b11 hb11
        have hoA:=ho.new hb11 3 [bo r]
        have n911:b9≠b11:=by rintro rfl; rw[h9] at hb11; simp at hb11
        try simp (disch:=omega) only [↓wr,↓reduceIte,wq,ah,ag,aj,ab,ae,af,ai,isNil,Nat.reduceEqDiff,Nat.reduceAdd,Nat.reduceLT,Nat.reduceLeDiff,Int.reduceNeg,Int.reduceToNat,reduceCtorEq,t1,t2,t5,t6,t7,t8,t9,t41,t42,t43,bo,encI,df,List.getElem?_map,hqs,set_set]
        have hskip:∀ (T2:Env) (H':View),bI p q r=false→H'=H2.set b11 (.arr 3 [bo r])→T2 7=u3→T2 1=.aX (ax g) 0→T2 2=.ptr b2 0 0→T2 5=df p→T2 6=df q→T2 8=.ptr b8 0 0→T2 9=.mp b9→T2 41=.aP (g.rules.map bo)→T2 42=gi g.rules.length→T2 43=gi ((i:Int)+1) →
            ∃ k',k' < k∧Ga g.rules.length k' (M3 g p q b2 b8 b9 u0) T2 H':=by
          intro T2 H' hkr hH' a7 a1 a2 a5 a6 a8 a9 a41 a42 a43
          have e1:cK p q (g.rules.take (i+1))=cK p q (g.rules.take i):=by rw[htk,A6,if_neg (by simp[hkr])]
          have e2:db p q (g.rules.take (i+1)) 0=db p q (g.rules.take i) 0:=by rw[htk,po]; simp[db,hkr]
          refine bD hk (by omega) ⟨⟨u1,u3,a7,by rw[e1]; exact hin,by rw[e1]; omega,by rw[e1,e2,hH']; exact hoA.tail,mm,cc,by rw[hH']; simp[View.set,n911,h9],by rw[e1]; exact hm9⟩,a1,a2,a5,a6,a8,a9,a41,a42,by rw[a43]; rfl⟩
        cases qs with
        | false =>
          simp (disch:=omega) only [↓wr,↓reduceIte,wq,ah,ag,aj,ab,ae,af,ai,isNil,Nat.reduceEqDiff,Nat.reduceAdd,Nat.reduceLT,Nat.reduceLeDiff,Int.reduceNeg,Int.reduceToNat,reduceCtorEq,t1,t2,t5,t6,t7,t8,t9,t41,t42,t43]
          refine hskip _ _ (by rw[bI,hqd]; rfl) ?_ ?_ ?_ ?_ ?_ ?_ ?_ ?_ ?_ ?_ ?_
          all_goals first | exact t7 | exact t1 | exact t2 | exact t5 | exact t6 | exact t8 | exact t9 | exact t41 | exact t42 | rfl | (rw[set_set]; rfl)
        | true =>
          simp (disch:=omega) only [↓wr,↓reduceIte,wq,ah,ag,aj,ab,ae,af,ai,isNil,Nat.reduceEqDiff,Nat.reduceAdd,Nat.reduceLT,Nat.reduceLeDiff,Int.reduceNeg,Int.reduceToNat,reduceCtorEq,t1,t2,t5,t6,t7,t8,t9,t41,t42,t43,bo,encI,df]
          refine aG.pure (u9 r p (hg.aF r hmem).2.2.1 (fun s hs'=>⟨(hsy s hs').1,fun h=>by rw[hpl]; exact (hsy s hs').2 h⟩)) (by kernel_rfl) ?_
          simp (disch:=omega) only [↓wr,↓reduceIte,wq,ah,ag,aj,ab,ae,af,ai,isNil,Nat.reduceEqDiff,Nat.reduceAdd,Nat.reduceLT,Nat.reduceLeDiff,Int.reduceNeg,Int.reduceToNat,reduceCtorEq,t1,t2,t5,t6,t7,t8,t9,t41,t42,t43]
          refine av.split (fun hal=>?_) (fun hal=>?_)
          · simp (disch:=omega) only [↓wr,↓reduceIte,wq,ah,ag,aj,ab,ae,af,ai,isNil,Nat.reduceEqDiff,Nat.reduceAdd,Nat.reduceLT,Nat.reduceLeDiff,Int.reduceNeg,Int.reduceToNat,reduceCtorEq,t1,t2,t5,t6,t7,t8,t9,t41,t42,t43]
            have hkr:bI p q r=true:=by rw[bI,hqd,hal]; rfl
            intro m hm
            try simp (disch:=omega) only [↓wr,↓reduceIte,wq,ah,ag,aj,ab,ae,af,ai,isNil,Nat.reduceEqDiff,Nat.reduceAdd,Nat.reduceLT,Nat.reduceLeDiff,Int.reduceNeg,Int.reduceToNat,reduceCtorEq,t1,t2,t5,t6,t7,t8,t9,t41,t42,t43,ed]
            have hm11:=(fQ hm fU).1
            have hm:=(fQ (fQ hm fU).2 fU).2
            have hoB:=(hoA.fresh (n:=m) (o:=.arr 1 [[gi i]]) (by simp only[View.set,if_neg hm11]; exact hm)).at 2 (by simp)
            have n9m:b9≠m:=by rintro rfl; rw[h9] at hm; simp at hm
            have hkl:(db p q (g.rules.take i) 0).length≤40:=by
              rw[ql]
              have h1:=List.length_filter_le (bI p q) (g.rules.take i)
              have h2:(g.rules.take i).length≤i:=List.length_take_le _ _
              omega
            refine oG (by rw[set_set]; exact hoB) (by simp[aU]) (by unfold aW; simp at hkl ⊢; omega) (by unfold aW; simp at hkl ⊢; omega) ?_
            intro u3' H3 ho3 hleft
            have f11:=ho3.is 1 rfl (by simp)
            have f8:=ho3.is 2 rfl (by simp)
            have hleft':Left ((H2.set b11 (.arr 3 [bo r])).set m (.arr 1 [[gi i]])) H3 u3 u3':=by rw[set_set] at hleft; exact hleft
            have f9:H3 b9=.map (uv mm) cc:=hleft'.map (b:=b9) hoB.head (by simp[View.set,n911,n9m,h9])
            have hu1:cF u1=some (pW ((cK p q (g.rules.take i)).map fun x=>g.aC.getD x.toNat ⟨#[]⟩)).length:=(ho3.own 3 rfl).len
            simp only[bo,encI] at f11
            have e2:db p q (g.rules.take (i+1)) 0=db p q (g.rules.take i) 0 ++ [(i:Int)]:=by
              rw[htk,po]; simp[db,hkr,show i≤g.rules.length by omega]
            have e1:cK p q (g.rules.take (i+1))=dS (cK p q (g.rules.take i)) r:=by rw[htk,A6,if_pos hkr]
            generalize cK p q (g.rules.take i)=o at *
            generalize db p q (g.rules.take i) 0=kl at *
            simp (disch:=omega) only [↓wr,↓reduceIte,wq,ah,ag,aj,ab,ae,af,ai,isNil,Nat.reduceEqDiff,Nat.reduceAdd,Nat.reduceLT,Nat.reduceLeDiff,Int.reduceNeg,Int.reduceToNat,reduceCtorEq,t1,t2,t5,t6,t8,t9,t41,t42,t43,f11,f8]
            refine NJ (kt:=3) (et:=3) (z:=gi 0) (by kernel_rfl) (by kernel_rfl) (m4 .i64 Tryz.underlying3) (id:=b9) (c:=cc) (m:=mm) (k:=r.left) (by simp (disch:=omega) only [↓wr,↓reduceIte,wq,ah,ag,aj,ab,ae,af,ai,isNil,Nat.reduceEqDiff,Nat.reduceAdd,Nat.reduceLT,Nat.reduceLeDiff,Int.reduceNeg,Int.reduceToNat,reduceCtorEq,t9]) (by simp (disch:=omega) only [↓wr,↓reduceIte,wq,ah,ag,aj,ab,ae,af,ai,isNil,Nat.reduceEqDiff,Nat.reduceAdd,Nat.reduceLT,Nat.reduceLeDiff,Int.reduceNeg,Int.reduceToNat,reduceCtorEq]) f9 ?_
            rw[hm9.get,pV]
            have hob:o.length≤40:=by omega
            by_cases hx:r.left∈o
            · have e1':dS o r=o:=by rw[dS,if_pos hx]
              rw[if_pos hx]
              simp (disch:=omega) only [↓wr,↓reduceIte,wq,ah,ag,aj,ab,ae,af,ai,isNil,Nat.reduceEqDiff,Nat.reduceAdd,Nat.reduceLT,Nat.reduceLeDiff,Int.reduceNeg,Int.reduceToNat,reduceCtorEq,t1,t2,t5,t6,t8,t9,t41,t42,t43,Option.isSome_some]
              have ho4:=(((ho3.at 1 (by simp)).tail).perm (.swap _ _ _))
              refine bD hk (by omega) ⟨⟨u1,u3',rfl,by rw[e1,e1']; exact hin,by rw[e1,e1']; omega,?_,mm,cc,f9,by rw[e1,e1']; exact hm9⟩,t1,t2,t5,t6,t8,t9,t41,t42,rfl⟩
              rw[e1,e1',e2]
              simp only[List.map_append,List.map_cons,List.map_nil]
              exact ho4
            · have e1':dS o r=o ++ [r.left]:=by rw[dS,if_neg hx]
              rw[if_neg hx]
              have hgn:g.aC[r.left.toNat]?=some (g.aC[r.left.toNat]'(by omega)):=List.getElem?_eq_getElem (by omega)
              have hgnd:g.aC.getD r.left.toNat ⟨#[]⟩=g.aC[r.left.toNat]'(by omega):=by simp[List.getD_eq_getElem?_getD,hgn]
              generalize g.aC[r.left.toNat]'(by omega)=nm at hgn hgnd
              simp (disch:=omega) only [↓wr,↓reduceIte,wq,ah,ag,aj,ab,ae,af,ai,isNil,Nat.reduceEqDiff,Nat.reduceAdd,Nat.reduceLT,Nat.reduceLeDiff,Int.reduceNeg,Int.reduceToNat,reduceCtorEq,t1,t2,t5,t6,t8,t9,t41,t42,t43,Option.isSome_none,f11,f8,hu1,List.length_map]
              refine DS (kt:=3) (et:=3) (by kernel_rfl) (m4 .i64 Tryz.underlying3) (id:=b9) (c:=cc) (m:=mm) (k:=r.left) (v:=gi o.length) (by simp (disch:=omega) only [↓wr,↓reduceIte,wq,ah,ag,aj,ab,ae,af,ai,isNil,Nat.reduceEqDiff,Nat.reduceAdd,Nat.reduceLT,Nat.reduceLeDiff,Int.reduceNeg,Int.reduceToNat,reduceCtorEq,t9]) (by simp (disch:=omega) only [↓wr,↓reduceIte,wq,ah,ag,aj,ab,ae,af,ai,isNil,Nat.reduceEqDiff,Nat.reduceAdd,Nat.reduceLT,Nat.reduceLeDiff,Int.reduceNeg,Int.reduceToNat,reduceCtorEq]) (by simp (disch:=omega) only [↓wr,↓reduceIte,wq,ah,ag,aj,ab,ae,af,ai,isNil,Nat.reduceEqDiff,Nat.reduceAdd,Nat.reduceLT,Nat.reduceLeDiff,Int.reduceNeg,Int.reduceToNat,reduceCtorEq]) f9 ?_
              intro c'
              have n89:b8≠b9:=yl ho3 2 rfl f9
              have n119:b11≠b9:=yl ho3 1 rfl f9
              simp (disch:=omega) only [↓wr,↓reduceIte,wq,ah,ag,aj,ab,ae,af,ai,isNil,Nat.reduceEqDiff,Nat.reduceAdd,Nat.reduceLT,Nat.reduceLeDiff,Int.reduceNeg,Int.reduceToNat,reduceCtorEq,t1,t2,t5,t6,t8,t9,t41,t42,t43,f11,f8,n89,n119,ax,encS,List.getElem?_map,hgn]
              intro m2 hm2
              have hm29:=(fQ hm2 (by simp)).1
              have hm2:=(fQ hm2 (by simp)).2
              have ho5:=((ho3.DW f9 (o:=.map (uv (cy r.left (gi o.length) cc mm)) c')).fresh (n:=m2) (o:=.arr 1 [[gs nm]]) (by simp only[View.set,if_neg hm29]; exact hm2)).at 3 (by simp)
              try simp (disch:=omega) only [↓wr,↓reduceIte,wq,ah,ag,aj,ab,ae,af,ai,isNil,Nat.reduceEqDiff,Nat.reduceAdd,Nat.reduceLT,Nat.reduceLeDiff,Int.reduceNeg,Int.reduceToNat,reduceCtorEq,t1,t2,t5,t6,t8,t9,t41,t42,t43,ed]
              refine oG ho5 (by simp[aU]) (by unfold aW; simp; omega) (by unfold aW; simp; omega) ?_
              intro u1' H5 ho6 hleft2
              have c1:=ho6.head.cells
              have k1:=ho6.head.A8
              have f8':=ho6.is 3 rfl (by simp)
              have f9':=hleft2.map (b:=b9) (es:=uv (cy r.left (gi o.length) cc mm)) (c:=c') ho5.head (by simp[View.set,Ne.symm hm29])
              have n89':b9≠b8:=n89.symm
              simp (disch:=omega) only [↓wr,↓reduceIte,wq,ah,ag,aj,ab,ae,af,ai,isNil,Nat.reduceEqDiff,Nat.reduceAdd,Nat.reduceLT,Nat.reduceLeDiff,Int.reduceNeg,Int.reduceToNat,reduceCtorEq,t1,t2,t5,t6,t8,t9,t41,t42,t43,f8',c1,k1]
              have ho7:=(ho6.at 3 (by simp)).put (es':=[[u0,u1',.emp 1,gi 0]]) rfl rfl
              have ho8:=(((ho7.at 3 (by simp)).tail).perm (.cons _ (.swap _ _ _)))
              refine bD hk (by omega) ⟨⟨u1',u3',rfl,?_,?_,?_,_,c',(by simp only[View.set,if_neg n89']; exact f9'),?_⟩,t1,t2,t5,t6,t8,t9,t41,t42,rfl⟩
              · rw[e1,e1']; intro x hx'; rcases List.mem_append.1 hx' with h | h
                · exact hin x h
                · simp at h; subst h; exact ⟨hl2,hl3⟩
              · rw[e1,e1']; simp; omega
              · rw[e1,e1',e2]
                simp only[List.map_append,List.map_cons,List.map_nil,hgnd]
                exact ho8
              · rw[e1,e1',zl,Int.zero_add,← AN hx]
                exact hm9.put r.left (o.length:Int) cc
          · simp (disch:=omega) only [↓wr,↓reduceIte,wq,ah,ag,aj,ab,ae,af,ai,isNil,Nat.reduceEqDiff,Nat.reduceAdd,Nat.reduceLT,Nat.reduceLeDiff,Int.reduceNeg,Int.reduceToNat,reduceCtorEq,t1,t2,t5,t6,t7,t8,t9,t41,t42,t43]
            refine hskip _ _ (by rw[bI,hqd,hal]; rfl) ?_ ?_ ?_ ?_ ?_ ?_ ?_ ?_ ?_ ?_ ?_
            all_goals first | exact t7 | exact t1 | exact t2 | exact t5 | exact t6 | exact t8 | exact t9 | exact t41 | exact t42 | rfl | (rw[set_set]; rfl)
      · rw[List.take_of_length_le (by omega)] at ho hin holen hm9
        have hkl40:(db p q g.rules 0).length≤40:=by
          rw[ql]; have h1:=List.length_filter_le (bI p q) g.rules; omega
        have hkg:=vA p q g.rules 0
        have hkln:=ql p q g.rules 0
        have hrg:kg g (dc (cK p q g.rules)) p q=⟨g.aA,(cK p q g.rules).map fun x=>g.aC.getD x.toNat ⟨#[]⟩,(g.rules.filter (bI p q)).map (bA (dc (cK p q g.rules))),dc (cK p q g.rules) g.start⟩:=rfl
        rw[hrg,if_pos rfl]
        clear hrg
        generalize cK p q g.rules=o at *
        generalize db p q g.rules 0=kl at *
        have hob:o.length≤40:=by omega
        have hu3:cF u3=some (du kl).length:=(ho.own 1 rfl).len
        simp (disch:=omega) only [↓wr,↓reduceIte,wq,ah,ag,aj,ab,ae,af,ai,isNil,Nat.reduceEqDiff,Nat.reduceAdd,Nat.reduceLT,Nat.reduceLeDiff,Int.reduceNeg,Int.reduceToNat,reduceCtorEq,t1,t2,t5,t6,t7,t8,t9,hu3,List.length_map]
        refine bH.up kl.length (OC g p q b2 b8 b9 u0 u1 u3 o kl mm cc) ?_ ?_
        · refine ⟨⟨.emp 1,[],by simp,?_,h9⟩,t1,t2,t7,t8,t9,t7,rfl,rfl⟩
          exact (ho.emp (k:=1) (sz:=3)).perm (vO [(.sl b8 0 1 4,4,[[u0,u1,.emp 1,gi 0]]),(u3,1,du kl),(u1,1,pW (o.map fun x=>g.aC.getD x.toNat ⟨#[]⟩)),(u0,3,g.aA.map cU),(.emp 1,3,[]),(.sl b2 0 1 4,4,[[.emp 1,.emp 1,.emp 1,gi 0]])] 4 (by simp)).symm
        clear ho h9 t1 t2 t5 t6 t7 t8 t9 t41 t42 t43
        rintro i k T H2 hk ⟨⟨u2,bs,hbs,ho,h9⟩,t1,t2,t7,t8,t9,t91,t92,t93⟩
        simp (disch:=omega) only [↓wr,↓reduceIte,wq,ah,ag,aj,ab,ae,af,ai,isNil,Nat.reduceEqDiff,Nat.reduceAdd,Nat.reduceLT,Nat.reduceLeDiff,Int.reduceNeg,Int.reduceToNat,reduceCtorEq,qy,t1,t2,t7,t8,t9,t91,t92,t93]
        refine av.dec (fun hc=>?_) (fun hc=>?_)
        · obtain ⟨n3,e3,hn3⟩:=(ho.own 1 rfl).sl (by simp; omega)
          rw[List.length_map] at e3
          subst e3
          obtain ⟨m,hm1,hm2,hm3⟩:=hkg i (by omega)
          have hbg:=Df (show i < kl.length by omega)
          rw[Int.zero_add] at hm1
          have hki:kl[i]'(by omega)=(m:Int):=by
            rw[List.getElem?_eq_getElem (show i < kl.length by omega)] at hm1; simpa using hm1
          rw[hki] at hbg
          have hg2:g.rules[m]?=some (g.rules[m]'hm3):=List.getElem?_eq_getElem hm3
          have hmem:g.rules[m]'hm3∈g.rules:=List.getElem_mem _
          have htk:(g.rules.filter (bI p q)).take (i+1)=(g.rules.filter (bI p q)).take i ++ [g.rules[m]'hm3]:=by
            rw[List.take_add_one,← hm2,hg2]; rfl
          generalize g.rules[m]'hm3=r at hg2 hmem htk
          obtain ⟨hl1,hl2,hl3,hr6,hsy⟩:=hf.xX hg hmem
          simp (disch:=omega) only [↓wr,↓reduceIte,wq,ah,ag,aj,ab,ae,af,ai,isNil,Nat.reduceEqDiff,Nat.reduceAdd,Nat.reduceLT,Nat.reduceLeDiff,Int.reduceNeg,Int.reduceToNat,reduceCtorEq,t1,t2,t7,t8,t9,t91,t92,t93,hn3,hbg,List.length_map,ax,bo,encI,List.getElem?_map,hg2]
          refine ⟨by omega,by omega,?_⟩
          intro b16 hb16
          have hoA:=ho.new hb16 3 [bo r]
          have n916:b9≠b16:=by rintro rfl; rw[h9] at hb16; simp at hb16
          try simp (disch:=omega) only [↓wr,↓reduceIte,wq,ah,ag,aj,ab,ae,af,ai,isNil,Nat.reduceEqDiff,Nat.reduceAdd,Nat.reduceLT,Nat.reduceLeDiff,Int.reduceNeg,Int.reduceToNat,reduceCtorEq,t1,t2,t7,t8,t9,t91,t92,t93,set_set]
          refine B8 (kt:=3) (et:=3) (z:=gi 0) (by kernel_rfl) (by kernel_rfl) (m4 .i64 Tryz.underlying3) (id:=b9) (c:=cc) (m:=mm) (k:=r.left) (by simp (disch:=omega) only [↓wr,↓reduceIte,wq,ah,ag,aj,ab,ae,af,ai,isNil,Nat.reduceEqDiff,Nat.reduceAdd,Nat.reduceLT,Nat.reduceLeDiff,Int.reduceNeg,Int.reduceToNat,reduceCtorEq,t9]) (by simp (disch:=omega) only [↓wr,↓reduceIte,wq,ah,ag,aj,ab,ae,af,ai,isNil,Nat.reduceEqDiff,Nat.reduceAdd,Nat.reduceLT,Nat.reduceLeDiff,Int.reduceNeg,Int.reduceToNat,reduceCtorEq]) (by simp[View.set,n916,h9]) ?_
          have hgt:∀ x,(getM mm x).getD (gi 0)=gi (dc o x):=fun x=>by
            rw[hm9.get,dc]; cases dm (hU o 0) x <;> rfl
          rw[hgt]
          simp (disch:=omega) only [↓wr,↓reduceIte,wq,ah,ag,aj,ab,ae,af,ai,isNil,Nat.reduceEqDiff,Nat.reduceAdd,Nat.reduceLT,Nat.reduceLeDiff,Int.reduceNeg,Int.reduceToNat,reduceCtorEq,t1,t2,t7,t8,t9,t91,t92,t93]
          refine aG.Mh (Jp r.right (by omega) _) ?_
          intro v H3 hv hfr
          have hoB:=bq.M7 (H:=H2.set b16 (.arr 3 [bo r])) hoA hv (by rw[set_set] at hfr; exact hfr)
          have h9B:H3 b9=.map (uv mm) cc:=by
            rw[(hfr b9 (by simp[View.set,n916,h9])).1]; simp[View.set,n916,h9]
          have cv:=hv.cells
          have kv:=hv.A8
          have lv:=hv.len
          have f16:=hoB.is 1 rfl (by simp)
          simp only[bo,encI] at f16
          simp (disch:=omega) only [↓wr,↓reduceIte,wq,ah,ag,aj,ab,ae,af,ai,isNil,Nat.reduceEqDiff,Nat.reduceAdd,Nat.reduceLT,Nat.reduceLeDiff,Int.reduceNeg,Int.reduceToNat,reduceCtorEq,t1,t2,t7,t8,t9,t91,t92,t93,f16,cv,kv]
          intro b17 hb17
          have hoC:=hoB.new hb17 3 [[gi (dc o r.left),v,gi r.prec]]
          have n917:b9≠b17:=by rintro rfl; rw[h9B] at hb17; simp at hb17
          try simp (disch:=omega) only [↓wr,↓reduceIte,wq,ah,ag,aj,ab,ae,af,ai,isNil,Nat.reduceEqDiff,Nat.reduceAdd,Nat.reduceLT,Nat.reduceLeDiff,Int.reduceNeg,Int.reduceToNat,reduceCtorEq,t1,t2,t7,t8,t9,t91,t92,t93,cv,kv,lv,set_set,List.length_map]
          generalize hL:((V.sl b8 0 1 4,4,[[u0,u1,u2,gi 0]]) :: (V.sl n3 0 kl.length 1,1,du kl) ::
              (u1,1,pW (o.map fun x=>g.aC.getD x.toNat ⟨#[]⟩)) :: (u0,3,g.aA.map cU) :: (u2,3,iZ bs) :: (V.sl b2 0 1 4,4,[[V.emp 1,V.emp 1,V.emp 1,gi 0]]) :: rE bs:List fa)=L at hoC
          refine bH.up r.right.length (Ou g b2 b8 b9 b16 b17 (.sl n3 0 kl.length 1) v o kl mm cc r L i) ?_ ?_
          · exact ⟨by rw[set_set]; exact hoC,by simp[View.set,n917,h9B],t1,t2,t7,t8,t9,t91,t92,t93,rfl,rfl,rfl,rfl⟩
          clear hoA hoB hoC hb16 hb17 h9 h9B f16 hv hfr t1 t2 t7 t8 t9 t91 t92 t93
          rintro k k2 T H3 hk2 ⟨hoC,h9,t1,t2,t7,t8,t9,t91,t92,t93,t17,t113,t114,t115⟩
          have f17:=hoC.is 0 rfl (by simp)
          simp (disch:=omega) only [↓wr,↓reduceIte,wq,ah,ag,aj,ab,ae,af,ai,isNil,Nat.reduceEqDiff,Nat.reduceAdd,Nat.reduceLT,Nat.reduceLeDiff,Int.reduceNeg,Int.reduceToNat,reduceCtorEq,qp,t1,t2,t7,t8,t9,t91,t92,t93,t17,t113,t114,t115]
          refine av.dec (fun hcc=>?_) (fun hcc=>?_)
          · have hgs:r.right[k]?=some (r.right[k]'(by omega)):=List.getElem?_eq_getElem (by omega)
            have hms:r.right[k]'(by omega)∈r.right:=List.getElem_mem _
            have hrl:(bA (dc o) r).right.length=r.right.length:=by simp[bA]
            have hts:(bA (dc o) r).right.take (k+1)=(bA (dc o) r).right.take k ++ [if r.right[k]'(by omega) < 0 then -1 - dc o (-1 - r.right[k]'(by omega)) else r.right[k]'(by omega)]:=by
              rw[List.take_add_one]; simp[bA,hgs]
            have hdr:=fk (show k < r.right.length by omega)
            generalize r.right[k]'(by omega)=s at hgs hms hts hdr
            obtain ⟨⟨s1,s2⟩,s3⟩:=hsy s hms
            have hbd:=Mt o (-1 - s)
            rw[hdr] at hoC
            have hlen:(((bA (dc o) r).right.take k ++ s :: r.right.drop (k+1)).map fun x=>[gi x]).length=r.right.length:=by simp; omega
            obtain ⟨nv,ev,hnv⟩:=(hoC.own 1 rfl).sl (by rw[hlen]; omega)
            rw[hlen] at ev
            subst ev
            have hlt:k < ((bA (dc o) r).right.take k ++ s :: r.right.drop (k+1)).length:=by simp; omega
            have hbg2:=Df hlt
            have hel:((bA (dc o) r).right.take k ++ s :: r.right.drop (k+1))[k]'hlt=s:=by
              rw[List.getElem_append_right (by simp; omega)]
              simp[show k - min k r.right.length=0 by omega,hrl]
            rw[hel] at hbg2
            simp (disch:=omega) only [↓wr,↓reduceIte,wq,ah,ag,aj,ab,ae,af,ai,isNil,Nat.reduceEqDiff,Nat.reduceAdd,Nat.reduceLT,Nat.reduceLeDiff,Int.reduceNeg,Int.reduceToNat,reduceCtorEq,t1,t2,t7,t8,t9,t91,t92,t93,t17,t113,t114,t115,hnv,hbg2,List.length_map]
            refine ⟨by omega,hlt,?_⟩
            have hlk:((bA (dc o) r).right.take k).length=k:=by rw[List.length_take]; omega
            have nv9:nv≠b9:=yl hoC 1 rfl h9
            refine av.dec (fun hneg=>?_) (fun hneg=>?_)
            · rw[if_pos hneg] at hts
              simp (disch:=omega) only [↓wr,↓reduceIte,wq,ah,ag,aj,ab,ae,af,ai,isNil,Nat.reduceEqDiff,Nat.reduceAdd,Nat.reduceLT,Nat.reduceLeDiff,Int.reduceNeg,Int.reduceToNat,reduceCtorEq,t1,t2,t7,t8,t9,t91,t92,t93,t17,t113,t114,t115,f17]
              refine B8 (kt:=3) (et:=3) (z:=gi 0) (by kernel_rfl) (by kernel_rfl) (m4 .i64 Tryz.underlying3) (id:=b9) (c:=cc) (m:=mm) (k:=-1 - s) (by simp (disch:=omega) only [↓wr,↓reduceIte,wq,ah,ag,aj,ab,ae,af,ai,isNil,Nat.reduceEqDiff,Nat.reduceAdd,Nat.reduceLT,Nat.reduceLeDiff,Int.reduceNeg,Int.reduceToNat,reduceCtorEq,t9]) (by simp (disch:=omega) only [↓wr,↓reduceIte,wq,ah,ag,aj,ab,ae,af,ai,isNil,Nat.reduceEqDiff,Nat.reduceAdd,Nat.reduceLT,Nat.reduceLeDiff,Int.reduceNeg,Int.reduceToNat,reduceCtorEq]) h9 ?_
              rw[hgt]
              simp (disch:=omega) only [↓wr,↓reduceIte,wq,ah,ag,aj,ab,ae,af,ai,isNil,Nat.reduceEqDiff,Nat.reduceAdd,Nat.reduceLT,Nat.reduceLeDiff,Int.reduceNeg,Int.reduceToNat,reduceCtorEq,t1,t2,t7,t8,t9,t91,t92,t93,t17,t113,t114,t115,f17,hnv,hbg2,List.length_map]
              refine ⟨by omega,hlt,?_⟩
              have hoD:=((hoC.at 1 (by simp)).put (es':=((((bA (dc o) r).right.take k ++ s :: r.right.drop (k+1)).map fun x=>[gi x]).set k [gi (-1 - dc o (-1 - s))])) (by simp) (by rw[hlen])).perm (.swap _ _ _)
              refine bD hk2 (by omega) ⟨?_,by simp only[View.set,if_neg nv9.symm]; exact h9,t1,t2,t7,t8,t9,t91,t92,t93,t17,t113,t114,rfl⟩
              rw[ints_set,zG hlk] at hoD
              rw[hts,List.append_assoc]
              rw[ints_set,zG hlk]
              exact hoD
            · rw[if_neg hneg] at hts
              simp (disch:=omega) only [↓wr,↓reduceIte,wq,ah,ag,aj,ab,ae,af,ai,isNil,Nat.reduceEqDiff,Nat.reduceAdd,Nat.reduceLT,Nat.reduceLeDiff,Int.reduceNeg,Int.reduceToNat,reduceCtorEq,t1,t2,t7,t8,t9,t91,t92,t93,t17,t113,t114,t115]
              refine bD hk2 (by omega) ⟨?_,h9,t1,t2,t7,t8,t9,t91,t92,t93,t17,t113,t114,rfl⟩
              rw[hts,List.append_assoc]
              exact hoC
          · rw[List.take_of_length_le (by simp[bA]; omega),List.drop_eq_nil_of_le (by omega),List.append_nil] at hoC
            subst hL
            have f8:=hoC.is 3 rfl (by simp)
            have cv:=(hoC.own 1 rfl).cells
            have kv:=(hoC.own 1 rfl).A8
            have hbl:(iZ bs).length≤40:=by
              have h1:=congrArg List.length hbs
              simp only[List.length_map,List.length_take] at h1
              simp only[iZ,List.length_map]
              omega
            simp (disch:=omega) only [↓wr,↓reduceIte,wq,ah,ag,aj,ab,ae,af,ai,isNil,Nat.reduceEqDiff,Nat.reduceAdd,Nat.reduceLT,Nat.reduceLeDiff,Int.reduceNeg,Int.reduceToNat,reduceCtorEq,t1,t2,t7,t8,t9,t91,t92,t93,t17,t113,t114,t115,f8,f17,cv,kv]
            intro m hm
            have n9m:b9≠m:=by rintro rfl; rw[h9] at hm; simp at hm
            try simp (disch:=omega) only [↓wr,↓reduceIte,wq,ah,ag,aj,ab,ae,af,ai,isNil,Nat.reduceEqDiff,Nat.reduceAdd,Nat.reduceLT,Nat.reduceLeDiff,Int.reduceNeg,Int.reduceToNat,reduceCtorEq,t1,t2,t7,t8,t9,t91,t92,t93,t17,ed]
            have hoD:=(hoC.fresh (o:=.arr 3 [[gi (dc o r.left),v,gi r.prec]]) hm).at 7 (by simp)
            refine oG hoD (by simp[Ap,kv]) (by unfold aW; simp at hbl ⊢; omega) (by unfold aW; simp at hbl ⊢; omega) ?_
            intro u2' H4 hoE hleft
            have cu:=hoE.head.cells
            have ku:=hoE.head.A8
            have f8':=hoE.is 4 rfl (by simp)
            have h9':H4 b9=.map (uv mm) cc:=hleft.map (b:=b9) hoD.head (by simp[View.set,n9m,h9])
            have n98:b9≠b8:=(yl hoE 4 rfl h9').symm
            simp (disch:=omega) only [↓wr,↓reduceIte,wq,ah,ag,aj,ab,ae,af,ai,isNil,Nat.reduceEqDiff,Nat.reduceAdd,Nat.reduceLT,Nat.reduceLeDiff,Int.reduceNeg,Int.reduceToNat,reduceCtorEq,t1,t2,t7,t8,t9,t91,t92,t93,t17,f8',cu,ku]
            have hoF:=(hoE.at 4 (by simp)).put (es':=[[u0,u1,u2',gi 0]]) rfl rfl
            have hoG:=((((hoF.at 2 (by simp)).tail).at 3 (by simp)).tail)
            refine bD hk (by omega) ⟨⟨u2',bs ++ [(v,bA (dc o) r)],?_,?_,by simp only[View.set,if_neg n98]; exact h9'⟩,t1,t2,t7,t8,t9,t91,t92,rfl⟩
            · rw[List.map_append,hbs,htk,List.map_append]; rfl
            · refine hoG.perm (.cons _ ?_)
              simp only[rE,iZ,List.map_append,List.map_cons,List.map_nil]
              refine .trans ?_ (vO _ 3 (by simp)).symm
              refine .cons _ ?_
              exact (List.perm_append_singleton (v,1,du (bA (dc o) r).right) ((.sl n3 0 kl.length 1,1,du kl) :: (u1,1,pW (o.map fun x=>g.aC.getD x.toNat ⟨#[]⟩)) :: (u0,3,g.aA.map cU) :: (.sl b2 0 1 4,4,[[.emp 1,.emp 1,.emp 1,gi 0]]) :: rE bs)).symm
        · rw[List.take_of_length_le (by omega)] at hbs
          have f8:=ho.is 0 rfl (by simp)
          have f2:=ho.is 5 rfl (by simp)
          have n82:b8≠b2:=ho.O1 0 5 rfl rfl (by omega)
          have c1:=(ho.own 2 rfl).cells
          have k1:=(ho.own 2 rfl).A8
          have c2:=(ho.own 4 rfl).cells
          have k2:=(ho.own 4 rfl).A8
          have hgt:∀ x,(getM mm x).getD (gi 0)=gi (dc o x):=fun x=>by
            rw[hm9.get,dc]; cases dm (hU o 0) x <;> rfl
          simp (disch:=omega) only [↓wr,↓reduceIte,wq,ah,ag,aj,ab,ae,af,ai,isNil,Nat.reduceEqDiff,Nat.reduceAdd,Nat.reduceLT,Nat.reduceLeDiff,Int.reduceNeg,Int.reduceToNat,reduceCtorEq,t1,t2,t7,t8,t9,t91,t92,t93,ax]
          refine B8 (kt:=3) (et:=3) (z:=gi 0) (by kernel_rfl) (by kernel_rfl) (m4 .i64 Tryz.underlying3) (id:=b9) (c:=cc) (m:=mm) (k:=g.start) (by simp (disch:=omega) only [↓wr,↓reduceIte,wq,ah,ag,aj,ab,ae,af,ai,isNil,Nat.reduceEqDiff,Nat.reduceAdd,Nat.reduceLT,Nat.reduceLeDiff,Int.reduceNeg,Int.reduceToNat,reduceCtorEq,t9]) (by simp (disch:=omega) only [↓wr,↓reduceIte,wq,ah,ag,aj,ab,ae,af,ai,isNil,Nat.reduceEqDiff,Nat.reduceAdd,Nat.reduceLT,Nat.reduceLeDiff,Int.reduceNeg,Int.reduceToNat,reduceCtorEq]) h9 ?_
          rw[hgt]
          simp (disch:=omega) only [↓wr,↓reduceIte,wq,ah,ag,aj,ab,ae,af,ai,isNil,Nat.reduceEqDiff,Nat.reduceAdd,Nat.reduceLT,Nat.reduceLeDiff,Int.reduceNeg,Int.reduceToNat,reduceCtorEq,t1,t2,t7,t8,t9,t91,t92,t93,f8,f2,n82,n82.symm,c0,k0,c1,k1,c2,k2]
          intro h' hh
          have hoA:=ho.put (es':=[[u0,u1,u2,gi (dc o g.start)]]) rfl rfl
          have hoB:=(hoA.at 5 (by simp)).put (es':=[[u0,u1,u2,gi (dc o g.start)]]) rfl rfl
          have hv:h'.view=(H2.set b8 (.arr 4 [[u0,u1,u2,gi (dc o g.start)]])).set b2 (.arr 4 [[u0,u1,u2,gi (dc o g.start)]]):=hh
          rw[← hv] at hoB
          exact L2 (x:=(⟨g.aA,o.map fun x=>g.aC.getD x.toNat ⟨#[]⟩,(g.rules.filter (bI p q)).map (bA (dc o)),dc o g.start⟩,kl,0)) (b:=bs) (hoB.own 4 rfl) (hoB.own 3 rfl) (hoB.own 5 rfl) (fun y hy=>hoB.1 y (by
            refine List.mem_cons_of_mem _ (List.mem_cons_of_mem _ (List.mem_cons_of_mem _ (List.mem_cons_of_mem _ (List.mem_cons_of_mem _ (List.mem_cons_of_mem _ ?_)))))
            exact hy)) hbs (hoB.own 2 rfl)
  · rename_i hr
    intro h' hh
    rw[if_neg (by simp[hr])]
    exact CO
theorem FT {l:List Int} {a b:List Bool} {t:Bool} (h:fD a b) (k:fB l a t=true):fB l b t=true:=by
  simp only[fB,List.all_eq_true] at k ⊢
  intro s hs
  have:=k s hs
  by_cases h0:0≤s
  · rw[if_pos h0] at this ⊢; exact this
  · rw[if_neg h0] at this ⊢; exact h.2 _ this
theorem fD.GC {a b:List Bool} (h:fD a b) (k:fD b a):a=b:=by
  have h1:=h.dN
  have h2:=k.dN
  exact h1.2 (by omega)
def lg (g:ao) (t:Bool) (is:List Bool):Prop:=∀ i,is.getD i false=true→∃ r∈g.rules,r.left.toNat=i∧fB r.right is t=true
theorem lg.step {g:ao} {t:Bool} {is:List Bool} {r:aN} (h:lg g t is) (hr:r∈g.rules):lg g t (eo t is r):=by
  have hle:fD is (eo t is r):=by
    unfold eo
    split
    · exact .set _ _
    · exact .refl _
  intro i hi
  by_cases e:is.getD i false=true
  · obtain ⟨r',h1,h2,h3⟩:=h i e
    exact ⟨r',h1,h2,FT hle h3⟩
  · unfold eo at hi
    by_cases ha:fB r.right is t=true
    · rw[if_pos ha] at hi
      have:r.left.toNat=i:=by
        refine Classical.byContradiction fun hne=>e ?_
        simp only[List.getD_eq_getElem?_getD,List.getElem?_set,if_neg hne] at hi ⊢
        exact hi
      exact ⟨r,hr,this,FT hle ha⟩
    · rw[if_neg ha] at hi; exact absurd hi e
theorem lg.fold {g:ao} {t:Bool} : ∀ (l:List aN) (is:List Bool),(∀ r∈l,r∈g.rules)→lg g t is→lg g t (l.foldl (eo t) is)
  | [],is,_,h=>h
  | r :: l,is,hl,h=>lg.fold l _ (fun x hx=>hl x (by simp[hx])) (h.step (hl r (by simp)))
theorem lg.iter {g:ao} {t:Bool} : ∀ (n:Nat) (is:List Bool),lg g t is→lg g t (iter (mG g t) n is)
  | 0,_,h=>h
  | n+1,is,h=>lg.iter n _ (lg.fold g.rules is (fun _ h=>h) h)
theorem Gs (g:ao) (t:Bool):lg g t (aM g t):=by
  unfold aM
  split
  · refine lg.iter _ _ ?_
    intro i hi
    simp only[cR,List.getD_eq_getElem?_getD,List.getElem?_replicate] at hi
    split at hi <;> simp at hi
  · intro i hi; simp at hi
theorem E1 (is:List Bool) (s:Int):fD is (mark is s):=by
  unfold mark
  split
  · exact .set _ _
  · exact .refl _
theorem xm:∀ (l:List Int) (is:List Bool),fD is (l.foldl mark is)
  | [],is=>.refl _
  | s :: l,is=>(E1 is s).trans (xm l _)
theorem Co (p is:List Bool) (r:aN):fD is (iJ p is r):=by
  unfold iJ
  split
  · exact xm _ _
  · exact .refl _
theorem Cp (p:List Bool):∀ (l:List aN) (is:List Bool),fD is (l.foldl (iJ p) is)
  | [],is=>.refl _
  | r :: l,is=>(Co p is r).trans (Cp p l _)
theorem Bn {p:List Bool} : ∀ {l:List aN} {is:List Bool},l.foldl (iJ p) is=is→∀ r∈l,iJ p is r=is
  | [],_,_,_,h=>by simp at h
  | r :: l,is,h,x,hx=>by
    rw[List.foldl_cons] at h
    have h1:=Cp p l (iJ p is r)
    rw[h] at h1
    have h2:=(h1.GC (Co p is r))
    rcases List.mem_cons.1 hx with rfl | hx
    · exact h2
    · rw[h2] at h; exact Bn h x hx
theorem BL:∀ {l:List Int} {is:List Bool},l.foldl mark is=is→∀ s∈l,mark is s=is
  | [],_,_,_,h=>by simp at h
  | r :: l,is,h,x,hx=>by
    rw[List.foldl_cons] at h
    have h1:=xm l (mark is r)
    rw[h] at h1
    have h2:=(h1.GC (E1 is r))
    rcases List.mem_cons.1 hx with rfl | hx
    · exact h2
    · rw[h2] at h; exact BL h x hx
theorem Bz {g:ao} (hr:bt g=true):rv g (aM g true) (bE g)=bE g∧fD ((cR g).set g.start.toNat true) (bE g):=by
  have hf:=bu hr
  have h:=pZ (pb (aM g true)) g.rules 16 ((cR g).set g.start.toNat true) (by have:=hf.aC; simp[cR]; omega)
  rw[E2,IJ hr] at h
  exact h
theorem wV {g:ao} (hr:bt g=true):(bE g).getD g.start.toNat false=true:=by
  have hf:=bu hr
  refine (Bz hr).2.2 _ ?_
  have h3:=hf.lF
  have h4:=hf.start
  simp only[List.getD_eq_getElem?_getD]
  rw[List.getElem?_set_self (by simp[cR]; omega)]
  rfl
theorem yH {g:ao} (hr:bt g=true) {r:aN} (hm:r∈g.rules) (hk:bI (aM g true) (bE g) r=true) {s:Int} (hs:s∈r.right) (hn:s < 0):(bE g).getD (-1 - s).toNat false=true:=by
  have hf:=bu hr
  have h1:=Bn (Bz hr).1 r hm
  unfold iJ at h1
  rw[bI] at hk
  rw[if_pos hk] at h1
  have h2:=BL h1 s hs
  unfold mark at h2
  rw[if_pos hn] at h2
  rw[← h2]
  have hl:=qX hr
  have:=hf.neg hm hs hn
  simp only[List.getD_eq_getElem?_getD]
  rw[List.getElem?_set_self (by omega)]
  rfl
theorem Ju {g:ao} (hr:bt g=true) {x:Int} (h0:0≤x) (hp:(aM g true).getD x.toNat false=true) (hq:(bE g).getD x.toNat false=true):x∈cK (aM g true) (bE g) g.rules:=by
  obtain ⟨r,h1,h2,h3⟩:=Gs g true _ hp
  have hf:=bu hr
  have h4:=hf.left r h1
  have:r.left=x:=by omega
  refine C8.2 ⟨r,h1,?_,this⟩
  rw[bI,this,hq,h3]; rfl
theorem HC (g:ao):(if bt g=true then
    if (aM g true).getD g.start.toNat false=true then (kg g (dc (cK (aM g true) (bE g) g.rules)) (aM g true) (bE g),db (aM g true) (bE g) g.rules 0,0)
    else (qh,[],9)
  else (qh,[],1))=ie g:=by
  unfold ie
  by_cases hr:bt g=true
  · rw[if_pos hr,if_pos hr]
    by_cases hp:(aM g true).getD g.start.toNat false=true
    · rw[if_pos hp,if_pos hp]
      have hf:=bu hr
      rw[IL]
      · exact Ju hr hf.lF hp (wV hr)
      · intro r hm
        obtain ⟨h1,h2⟩:=List.mem_filter.1 hm
        refine ⟨C8.2 ⟨r,h1,h2,rfl⟩,fun s hs hn=>?_⟩
        refine Ju hr (by omega) ?_ (yH hr h1 h2 hs hn)
        rw[bI,Bool.and_eq_true] at h2
        have:=h2.2
        simp only[fB,List.all_eq_true] at this
        have:=this s hs
        rwa [if_neg (by omega)] at this
    · rw[if_neg hp,if_neg hp]
  · rw[if_neg hr,if_neg hr]
theorem Gk (g:ao) (hg:g.Ok) (hs:g.Small):dR Tryz.prog 109 [.agg (ax g)] (zR (ie g)):=by
  rw[← HC]; exact EH g hg hs
structure Cell where
  kind:Int
  n:Int
  deriving DecidableEq
structure uD where
  cp:List (List Cell)
  gotos:List (List Int)
  deriving DecidableEq
def GU (g:ao) (n:Nat) (c:Cell):Bool:=if c.kind=0∨c.kind=3 then decide (c.n=0) else if c.kind=1 then decide (0≤c.n) && decide (c.n < n) else if c.kind=2 then decide (0≤c.n) && decide (c.n < g.rules.length) else false
def MJ (g:ao) (n:Nat) (a:List Cell) (l:List Int):Bool:=decide (a.length=g.aA.length+1) && decide (l.length=g.aC.length) && a.all (GU g n) && l.all fun x=>decide (-1≤x) && decide (x < n)
def GX (t:uD) (s x:Int):Cell:=(t.cp.getD s.toNat []).getD x.toNat ⟨0,0⟩
def Cc (t:uD) (s x:Int):Int:=(t.gotos.getD s.toNat []).getD x.toNat (-1)
def zW (st:List Int):Int:=st.getD (st.length - 1) 0
def dh (g:ao) (k:Int):aN:=g.rules.getD k.toNat ⟨0,[],0⟩
def JA (t:uD) (st:List Int):Prop:=st≠[]∧∀ x∈st,0≤x∧x < t.cp.length
theorem getD_some {α:Type} {l:List α} {j:Nat} {d:α} (h:j < l.length):l[j]?=some (l.getD j d):=by simp[List.getD_eq_getElem?_getD,h]
theorem Kf (st:List Int) (x:Int):zW (st ++ [x])=x:=by simp[zW,List.getD_eq_getElem?_getD]
theorem JA.app {t:uD} {st:List Int} {x:Int} (h:∀ y∈st,0≤y∧y < t.cp.length) (hx:0≤x∧x < t.cp.length):JA t (st ++ [x]):=by
  refine ⟨by simp,fun y hy=>?_⟩
  rcases List.mem_append.1 hy with hy | hy
  · exact h y hy
  · simp at hy; subst hy; exact hx
theorem JA.take {t:uD} {st:List Int} (h:JA t st) {k:Nat} (hk:0 < k):JA t (st.take k):=by
  refine ⟨?_,fun y hy=>h.2 y (List.mem_of_mem_take hy)⟩
  intro e
  rcases List.take_eq_nil_iff.1 e with e | e
  · omega
  · exact h.1 e
structure oS (g:ao) (t:uD):Prop where
  right:bt g=true
  n1:1≤t.cp.length
  Pa:t.cp.length≤300
  len:t.gotos.length=t.cp.length
  row:∀ i,i < t.cp.length→MJ g t.cp.length (t.cp.getD i []) (t.gotos.getD i [])=true
theorem oS.y7 {g:ao} {t:uD} (h:oS g t) {i:Nat} (hi:i < t.cp.length):(t.cp.getD i []).length=g.aA.length+1∧(t.gotos.getD i []).length=g.aC.length∧(∀ c∈t.cp.getD i [],GU g t.cp.length c=true)∧∀ x∈t.gotos.getD i [],-1≤x∧x < t.cp.length:=by
  have:=h.row i hi
  unfold MJ at this
  simp only[Bool.and_eq_true,decide_eq_true_eq,List.all_eq_true] at this
  exact ⟨this.1.1.1,this.1.1.2,this.1.2,this.2⟩
theorem oS.cell {g:ao} {t:uD} (h:oS g t) {s x:Int} (hs:0≤s∧s < t.cp.length) (hx:0≤x∧x≤g.aA.length):GU g t.cp.length (GX t s x)=true∧(t.cp.getD s.toNat [])[x.toNat]?=some (GX t s x):=by
  have hi:s.toNat < t.cp.length:=by omega
  obtain ⟨h1,_,h3,_⟩:=h.y7 hi
  have hj:x.toNat < (t.cp.getD s.toNat []).length:=by omega
  have e:(t.cp.getD s.toNat [])[x.toNat]?=some (GX t s x):=getD_some hj
  exact ⟨h3 _ (List.mem_of_getElem? e),e⟩
theorem oS.go {g:ao} {t:uD} (h:oS g t) {s x:Int} (hs:0≤s∧s < t.cp.length) (hx:0≤x∧x < g.aC.length):(-1≤Cc t s x∧Cc t s x < t.cp.length)∧(t.gotos.getD s.toNat [])[x.toNat]?=some (Cc t s x):=by
  have hi:s.toNat < t.cp.length:=by omega
  obtain ⟨_,h2,_,h4⟩:=h.y7 hi
  have hj:x.toNat < (t.gotos.getD s.toNat []).length:=by omega
  have e:(t.gotos.getD s.toNat [])[x.toNat]?=some (Cc t s x):=getD_some hj
  exact ⟨h4 _ (List.mem_of_getElem? e),e⟩
theorem De {x:Int} : ∀ (o:List Int) (i:Int),x∈o→∃ k:Nat,c4 (fun y=>y == x) o i=i+k∧o[k]?=some x
  | [],_,h=>by simp at h
  | y :: o,i,h=>by
    by_cases e:y=x
    · exact ⟨0,by simp[c4,e],by simp[e]⟩
    · have hx:x∈o:=by
        rcases List.mem_cons.1 h with rfl | h
        · exact absurd rfl e
        · exact h
      obtain ⟨k,h1,h2⟩:=De o (i+1) hx
      exact ⟨k+1,by simp only[c4]; rw[if_neg (by simp[e]),h1]; push_cast; omega,by simpa using h2⟩
theorem xQ {o:List Int} {x:Int} (h:x∈o):o[(bK o x).toNat]?=some x:=by
  obtain ⟨k,h1,h2⟩:=De o 0 h
  have:bK o x=k:=by unfold bK; omega
  rw[this]; simpa using h2
theorem vY {o:List Int} (hn:o.Nodup) {k:Nat} {x:Int} (h:o[k]?=some x):bK o x=k:=by
  have hx:=List.mem_of_getElem? h
  have h1:=xQ hx
  have h2:=jk hx
  obtain ⟨hk,h3⟩:=List.getElem?_eq_some_iff.1 h
  obtain ⟨hk2,h4⟩:=List.getElem?_eq_some_iff.1 h1
  have:=(List.getElem_inj hn).1 (h4.trans h3.symm)
  omega
theorem Lp (acc:List Int) (r:aN):∃ m,dS acc r=acc ++ m:=by
  unfold dS
  split
  · exact ⟨[],by simp⟩
  · exact ⟨_,rfl⟩
theorem rq:∀ (l:List aN) (acc:List Int),∃ m,l.foldl dS acc=acc ++ m
  | [],acc=>⟨[],by simp⟩
  | r :: l,acc=>by
    obtain ⟨m,hm⟩:=Lp acc r
    obtain ⟨k,hk⟩:=rq l (dS acc r)
    exact ⟨m ++ k,by rw[List.foldl_cons,hk,hm,List.append_assoc]⟩
theorem KL {a b:List Int} {x:Int} (h:x∈a):bK (a ++ b) x=bK a x:=by
  unfold bK
  rw[wT _ _ _ _ (by omega)]
  have:=jk h
  unfold bK at this
  rw[if_pos this.1]
theorem te {r:ao} {o:List Int} (ho:o.Nodup) (hr:r.aC.length=o.length):∀ (l:List aN) (acc:List Int),o=l.foldl dS acc→(∀ x∈l,fX r (bA (bK o) x)=true)→fC r (l.map (bA (bK o))) ((acc.length:Int) - 1)=true
  | [],acc,h,_=>by
    simp only[List.foldl_nil] at h
    simp[fC,hr,h]
  | x :: l,acc,h,hb=>by
    simp only[List.map_cons,fC,Bool.and_eq_true,decide_eq_true_eq]
    rw[List.foldl_cons] at h
    have h1:(bA (bK o) x).left=bK o x.left:=rfl
    obtain ⟨m,hm⟩:=rq l (dS acc x)
    rw[← h] at hm
    by_cases hx:x.left∈acc
    · have e:dS acc x=acc:=by unfold dS; rw[if_pos hx]
      rw[e] at hm h
      have h2:=jk hx
      have h3:bK o x.left=bK acc x.left:=by rw[hm]; exact KL hx
      rw[h1,h3,if_neg (by omega)]
      exact ⟨⟨⟨h2.1,by omega⟩,hb x (by simp)⟩,te ho hr l acc h fun y hy=>hb y (by simp[hy])⟩
    · have e:dS acc x=acc ++ [x.left]:=by unfold dS; rw[if_neg hx]
      rw[e] at hm h
      have h3:bK o x.left=acc.length:=vY ho (by rw[hm]; simp)
      rw[h1,h3,if_pos (by omega)]
      refine ⟨⟨⟨by omega,by omega⟩,hb x (by simp)⟩,?_⟩
      have:=te ho hr l (acc ++ [x.left]) h fun y hy=>hb y (by simp[hy])
      rw[List.length_append] at this
      simpa using this
theorem wv {g r:ao} (h:r.aA=g.aA):∀ (l:List Term) (i:Int),im r l i=im g l i
  | [],_=>rfl
  | t :: l,i=>by
    simp only[im,wv h l]
    congr 1
    simp only[iM,j4,oI,h]
theorem nP {o:List Int} {n:Nat} (h:o.Nodup) (hb:∀ x∈o,0≤x∧x < n):o.length≤n:=by
  have:=kD o ((List.range n).map fun (k:Nat)=>(k:Int)) h fun x hx=>by
    have:=hb x hx
    exact List.mem_map.2 ⟨x.toNat,List.mem_range.2 (by omega),by omega⟩
  simpa using this
structure dP (g:ao) (p q:List Bool) (o:List Int) (r:ao):Prop where
  right:bt g=true
  pe:p=aM g true
  qe:q=bE g
  oe:o=cK p q g.rules
  re:r=kg g (bK o) p q
  nodup:o.Nodup
  inside:∀ x∈o,0≤x∧x < g.aC.length
  kept:∀ R∈g.rules,bI p q R=true→R.left∈o∧∀ s∈R.right,s < 0→-1 - s∈o
  from_:∀ x∈o,∃ R∈g.rules,bI p q R=true∧R.left=x
  start:g.start∈o
section
variable {g r:ao} {p q:List Bool} {o:List Int}
theorem dP.rules (h:dP g p q o r):r.rules=(g.rules.filter (bI p q)).map (bA (bK o)):=by rw[h.re]; rfl
theorem dP.aC (h:dP g p q o r):r.aC=o.map fun x=>g.aC.getD x.toNat ⟨#[]⟩:=by rw[h.re,h.oe]; rfl
theorem dP.aA (h:dP g p q o r):r.aA=g.aA:=by rw[h.re]; rfl
theorem dP.El (h:dP g p q o r):r.start=bK o g.start:=by rw[h.re]; rfl
theorem dP.len (h:dP g p q o r):r.aC.length=o.length:=by rw[h.aC]; simp
theorem dP.kJ (h:dP g p q o r):bt r=true:=by
  have hf:=bu h.right
  have hR:=h.right
  simp only[bt,ix,jd,Bool.and_eq_true,decide_eq_true_eq] at hR ⊢
  obtain ⟨⟨⟨⟨⟨⟨⟨a1,a2⟩,⟨a3,a4⟩,a5⟩,a6⟩,a7⟩,a8⟩,a9⟩,a10⟩:=hR
  have hst:=jk h.start
  have hol:o.length≤g.aC.length:=nP h.nodup h.inside
  have hgn:g.aC.Nodup∧∀ s∈g.aC,eW (dZ s)=true∧j4 g s < 0:=by
    rw[p9] at a5
    refine ⟨(qi g.aC).1 fun k s hk=>?_,fun s hs=>?_⟩
    · have:=a5 k s hk
      simp only[jL,um,Bool.and_eq_true,beq_iff_eq] at this
      have:=this.1.2
      omega
    · obtain ⟨k,hk⟩:=List.getElem?_of_mem hs
      have:=a5 k s hk
      simp only[jL,Bool.and_eq_true,decide_eq_true_eq] at this
      exact ⟨this.1.1,this.2⟩
  have hget:∀ x∈o,∃ (hx:x.toNat < g.aC.length),g.aC.getD x.toNat ⟨#[]⟩=g.aC[x.toNat]:=fun x hx=>by
    have:=h.inside x hx
    exact ⟨by omega,by simp[List.getD_eq_getElem?_getD,List.getElem?_eq_getElem (show x.toNat < g.aC.length by omega)]⟩
  have hrn:r.aC.Nodup:=by
    rw[h.aC,List.nodup_iff_pairwise_ne,List.pairwise_map]
    refine (List.Pairwise.and_mem.1 h.nodup).imp ?_
    rintro x y ⟨hx,hy,hne⟩ e
    obtain ⟨h1,h2⟩:=hget x hx
    obtain ⟨h3,h4⟩:=hget y hy
    rw[h2,h4] at e
    have h5:=(List.getElem_inj hgn.1).1 e
    have h6:=h.inside x hx
    have h7:=h.inside y hy
    exact hne (by omega)
  have hrules:(g.rules.filter (bI p q)).length≤g.rules.length:=List.length_filter_le _ _
  obtain ⟨R0,hR0,hk0,_⟩:=h.from_ _ h.start
  have hpos:0 < (g.rules.filter (bI p q)).length:=List.length_pos_of_mem (List.mem_filter.2 ⟨hR0,hk0⟩)
  have hrl:r.rules.length=(g.rules.filter (bI p q)).length:=by rw[h.rules]; simp
  refine ⟨⟨⟨⟨⟨⟨⟨by rw[h.aA]; exact a1,?_⟩,⟨by rw[h.len]; omega,by rw[h.len]; omega⟩,?_⟩,by omega⟩,by omega⟩,by rw[h.El]; omega⟩,by rw[h.El,h.len]; omega⟩,?_⟩
  · rw[h.aA,wv h.aA]; exact a2
  · rw[p9]
    intro k s hk
    have hm:=List.mem_of_getElem? hk
    have hidx:=(qi r.aC).2 hrn k s hk
    rw[h.aC,List.mem_map] at hm
    obtain ⟨x,hx,rfl⟩:=hm
    obtain ⟨h1,h2⟩:=hget x hx
    obtain ⟨h3,h4⟩:=hgn.2 _ (h2 ▸ List.getElem_mem h1:g.aC.getD x.toNat ⟨#[]⟩∈g.aC)
    simp only[jL,um,Bool.and_eq_true,beq_iff_eq,decide_eq_true_eq]
    refine ⟨⟨h3,by rw[hidx]; omega⟩,?_⟩
    simp only[j4,h.aA] at h4 ⊢
    exact h4
  · rw[h.rules]
    have:=te (r:=r) h.nodup h.len (g.rules.filter (bI p q)) [] (by rw[h.oe]; rfl) (fun x hx=>?_)
    · simpa using this
    obtain ⟨hm,hk⟩:=List.mem_filter.1 hx
    obtain ⟨_,hin⟩:=h.kept x hm hk
    have hb:=(uC _ _ a10).2 x hm
    have hb:=hb.2.2
    simp only[fX,Bool.and_eq_true,decide_eq_true_eq,List.all_eq_true] at hb ⊢
    obtain ⟨⟨⟨b1,b2⟩,b3⟩,b4⟩:=hb
    refine ⟨⟨⟨by simpa [bA] using b1,b2⟩,by rw[h.aA]; exact b3⟩,fun s hs=>?_⟩
    simp only[bA,List.mem_map] at hs
    obtain ⟨s0,hs0,rfl⟩:=hs
    have b5:=b4 s0 hs0
    by_cases hn:s0 < 0
    · rw[if_pos hn]
      have hl:=jk (hin s0 hs0 hn)
      simp only[kf,iB,Bool.and_eq_true]
      rw[if_neg (by omega),decide_eq_false (p:=0≤-1 - bK o (-1 - s0)) (by omega)]
      simp only[h.len,decide_eq_true_eq,Bool.false_and,Bool.not_false,and_true]
      omega
    · rw[if_neg hn]
      simp only[kf,iB,h.aA] at b5 ⊢
      rw[if_pos (by omega)] at b5 ⊢
      exact b5
end
inductive rP (g:ao):Int→Prop
  | mk (R:aN):R∈g.rules→(∀ s∈R.right,s < 0→rP g (-1 - s))→rP g R.left
inductive m9 (g:ao) (p:List Bool):Int→Prop
  | start:m9 g p g.start
  | next (R:aN) (s:Int):R∈g.rules→m9 g p R.left→fB R.right p true=true→s∈R.right→s < 0→m9 g p (-1 - s)
theorem sJ {l:List Int} {p:List Bool} : fB l p true=true↔∀ s∈l,s < 0→p.getD (-1 - s).toNat false=true:=by
  simp only[fB,List.all_eq_true]
  constructor
  · intro h s hs hn
    have:=h s hs
    rwa [if_neg (by omega)] at this
  · intro h s hs
    by_cases hn:s < 0
    · rw[if_neg (by omega)]; exact h s hs hn
    · rw[if_pos (by omega)]
theorem w7 {l:List Bool} {i j:Nat} (h:(l.set i true).getD j false=true):j=i∨l.getD j false=true:=by
  by_cases e:i=j
  · exact .inl e.symm
  · right
    simp only[List.getD_eq_getElem?_getD,List.getElem?_set,if_neg e] at h ⊢
    exact h
theorem yC {g:ao} {i:Nat} : (cR g).getD i false=false:=by
  simp only[cR,List.getD_eq_getElem?_getD,List.getElem?_replicate]
  split <;> rfl
theorem CV {g:ao} (hr:bt g=true):∀ i:Nat,(aM g true).getD i false=true→rP g i:=by
  have hf:=bu hr
  have hst:∀ (is:List Bool) (R:aN),R∈g.rules→(∀ i:Nat,is.getD i false=true→rP g i)→∀ i:Nat,(eo true is R).getD i false=true→rP g i:=by
    intro is R hR h i hi
    unfold eo at hi
    split at hi
    · rename_i ha
      rcases w7 hi with rfl | hi
      · have:=hf.left R hR
        have e:((R.left.toNat:Nat):Int)=R.left:=by omega
        rw[e]
        refine .mk R hR fun s hs hn=>?_
        have:=h _ (sJ.1 ha s hs hn)
        rwa [show (((-1 - s).toNat:Nat):Int) = -1 - s by omega] at this
      · exact h i hi
    · exact h i hi
  have hfold:∀ (l:List aN) (is:List Bool),(∀ R∈l,R∈g.rules)→(∀ i:Nat,is.getD i false=true→rP g i)→∀ i:Nat,(l.foldl (eo true) is).getD i false=true→rP g i:=by
    intro l
    induction l with
    | nil=>intro is _ h; exact h
    | cons R l ih=>intro is hl h; exact ih _ (fun x hx=>hl x (by simp[hx])) (hst is R (hl R (by simp)) h)
  have hit:∀ (n:Nat) (is:List Bool),(∀ i:Nat,is.getD i false=true→rP g i)→∀ i:Nat,(iter (mG g true) n is).getD i false=true→rP g i:=by
    intro n
    induction n with
    | zero=>intro is h; exact h
    | succ n ih=>intro is h; exact ih _ (hfold g.rules is (fun _ h=>h) h)
  rw[aM,if_pos hr]
  exact hit _ _ fun i hi=>by rw[yC] at hi; simp at hi
theorem Bg (t:Bool) (is:List Bool) (R:aN):fD is (eo t is R):=by
  unfold eo
  split
  · exact .set _ _
  · exact .refl _
theorem A0 (t:Bool):∀ (l:List aN) (is:List Bool),fD is (l.foldl (eo t) is)
  | [],is=>.refl _
  | R :: l,is=>(Bg t is R).trans (A0 t l _)
theorem xV {t:Bool} : ∀ {l:List aN} {is:List Bool},l.foldl (eo t) is=is→∀ R∈l,eo t is R=is
  | [],_,_,_,h=>by simp at h
  | R :: l,is,h,x,hx=>by
    rw[List.foldl_cons] at h
    have h1:=A0 t l (eo t is R)
    rw[h] at h1
    have h2:=(h1.GC (Bg t is R))
    rcases List.mem_cons.1 hx with rfl | hx
    · exact h2
    · rw[h2] at h; exact xV h x hx
theorem Ii {g:ao} (hr:bt g=true) (t:Bool):mG g t (aM g t)=aM g t:=by
  have hf:=bu hr
  have h:=pZ (pF t) g.rules 16 (cR g) (by have:=hf.aC; simp[cR]; omega)
  rw[FR,Jb hr] at h
  exact h.1
theorem pD {g:ao} (hr:bt g=true) {t:Bool} {R:aN} (hR:R∈g.rules) (ha:fB R.right (aM g t) t=true):(aM g t).getD R.left.toNat false=true:=by
  have h1:=xV (Ii hr t) R hR
  have hf:=bu hr
  have hl:=mU hr t
  have hb:=hf.left R hR
  unfold eo at h1
  rw[if_pos ha] at h1
  rw[← h1]
  simp only[List.getD_eq_getElem?_getD]
  rw[List.getElem?_set_self (by omega)]
  rfl
theorem vF {g:ao} (hr:bt g=true) {x:Int} (h:rP g x):(aM g true).getD x.toNat false=true:=by
  induction h with
  | mk R hR _ ih=>exact pD hr hR (sJ.2 fun s hs hn=>ih s hs hn)
theorem Er {g:ao} (hr:bt g=true):∀ i:Nat,(bE g).getD i false=true→m9 g (aM g true) i:=by
  have hf:=bu hr
  have hmk:∀ (R:aN),R∈g.rules→m9 g (aM g true) R.left→fB R.right (aM g true) true=true→∀ (l:List Int) (is:List Bool),(∀ s∈l,s∈R.right)→(∀ i:Nat,is.getD i false=true→m9 g (aM g true) i)→∀ i:Nat,(l.foldl mark is).getD i false=true→m9 g (aM g true) i:=by
    intro R hR hl ha l
    induction l with
    | nil=>intro is _ h; exact h
    | cons s l ih =>
      intro is hs h
      refine ih _ (fun x hx=>hs x (by simp[hx])) fun i hi=>?_
      unfold mark at hi
      split at hi
      · rename_i hn
        rcases w7 hi with rfl | hi
        · rw[show (((-1 - s).toNat:Nat):Int) = -1 - s by omega]
          exact .next R s hR hl ha (hs s (by simp)) hn
        · exact h i hi
      · exact h i hi
  have hst:∀ (is:List Bool) (R:aN),R∈g.rules→(∀ i:Nat,is.getD i false=true→m9 g (aM g true) i)→∀ i:Nat,(iJ (aM g true) is R).getD i false=true→m9 g (aM g true) i:=by
    intro is R hR h
    unfold iJ
    split
    · rename_i ha
      rw[Bool.and_eq_true] at ha
      have h1:=h _ ha.1
      have:=hf.left R hR
      rw[show ((R.left.toNat:Nat):Int)=R.left by omega] at h1
      exact hmk R hR h1 ha.2 R.right is (fun _ h=>h) h
    · exact h
  have hfold:∀ (l:List aN) (is:List Bool),(∀ R∈l,R∈g.rules)→(∀ i:Nat,is.getD i false=true→m9 g (aM g true) i)→∀ i:Nat,(l.foldl (iJ (aM g true)) is).getD i false=true→m9 g (aM g true) i:=by
    intro l
    induction l with
    | nil=>intro is _ h; exact h
    | cons R l ih=>intro is hl h; exact ih _ (fun x hx=>hl x (by simp[hx])) (hst is R (hl R (by simp)) h)
  have hit:∀ (n:Nat) (is:List Bool),(∀ i:Nat,is.getD i false=true→m9 g (aM g true) i)→∀ i:Nat,(iter (rv g (aM g true)) n is).getD i false=true→m9 g (aM g true) i:=by
    intro n
    induction n with
    | zero=>intro is h; exact h
    | succ n ih=>intro is h; exact ih _ (hfold g.rules is (fun _ h=>h) h)
  rw[bE,if_pos hr]
  refine hit _ _ fun i hi=>?_
  rcases w7 hi with rfl | hi
  · have:=hf.lF
    rw[show ((g.start.toNat:Nat):Int)=g.start by omega]
    exact .start
  · rw[yC] at hi; simp at hi
theorem uU {g:ao} (hr:bt g=true) {x:Int} (h:m9 g (aM g true) x):(bE g).getD x.toNat false=true:=by
  induction h with
  | start=>exact wV hr
  | next R s hR _ ha hs hn ih=>exact yH hr hR (by rw[bI,ih,ha]; rfl) hs hn
section
variable {g r:ao} {p q:List Bool} {o:List Int}
theorem dP.OP (h:dP g p q o r) {x:Int} (hd:rP g x):x∈o→rP r (bK o x):=by
  induction hd with
  | mk R hR hsub ih =>
    intro hx
    obtain ⟨R1,hR1,hk1,e1⟩:=h.from_ _ hx
    have hk:bI p q R=true:=by
      rw[bI,Bool.and_eq_true] at hk1 ⊢
      refine ⟨by rw[← e1]; exact hk1.1,?_⟩
      rw[h.pe]
      exact sJ.2 fun s hs hn=>vF h.right (hsub s hs hn)
    have hin:=(h.kept R hR hk).2
    have hm:bA (bK o) R∈r.rules:=by rw[h.rules]; exact List.mem_map.2 ⟨R,List.mem_filter.2 ⟨hR,hk⟩,rfl⟩
    refine rP.mk (bA (bK o) R) hm fun s' hs' hn'=>?_
    simp only[bA,List.mem_map] at hs'
    obtain ⟨s,hs,rfl⟩:=hs'
    by_cases hn:s < 0
    · rw[if_pos hn]
      have:=ih s hs hn (hin s hs hn)
      rwa [show -1 - (-1 - bK o (-1 - s))=bK o (-1 - s) by omega]
    · rw[if_neg hn] at hn'; omega
theorem dP.NF (h:dP g p q o r) {x:Int} (hx:x∈o):(aM r true).getD (bK o x).toNat false=true:=by
  obtain ⟨R,hR,hk,rfl⟩:=h.from_ _ hx
  rw[bI,Bool.and_eq_true,h.pe] at hk
  have h1:=pD h.right hR hk.2
  have h2:=CV h.right _ h1
  have:=(h.inside _ hx)
  rw[show ((R.left.toNat:Nat):Int)=R.left by omega] at h2
  exact vF h.kJ (h.OP h2 hx)
theorem dP.at_ (h:dP g p q o r) {k:Nat} (hk:k < o.length):∃ x∈o,bK o x=k∧o[k]?=some x:=⟨o[k],List.getElem_mem _,vY h.nodup (List.getElem?_eq_getElem hk),List.getElem?_eq_getElem hk⟩
theorem dP.Bq (h:dP g p q o r) {k:Nat} (hk:k < o.length):(aM r true).getD k false=true:=by
  obtain ⟨x,hx,h1,_⟩:=h.at_ hk
  have:=h.NF hx
  rwa [h1,Int.toNat_natCast] at this
theorem dP.HH (h:dP g p q o r) {R:aN} (hR:R∈r.rules):fB R.right (aM r true) true=true:=by
  have hf:=bu h.kJ
  refine sJ.2 fun s hs hn=>h.Bq ?_
  have:=hf.neg hR hs hn
  rw[h.len] at this
  omega
theorem dP.OT (h:dP g p q o r) {x:Int} (hd:m9 g (aM g true) x):m9 r (aM r true) (bK o x):=by
  induction hd with
  | start=>rw[← h.El]; exact .start
  | next R s hR h1 ha hs hn ih =>
    have hk:bI p q R=true:=by
      rw[bI,h.pe,h.qe,ha,uU h.right h1]; rfl
    have hm:bA (bK o) R∈r.rules:=by rw[h.rules]; exact List.mem_map.2 ⟨R,List.mem_filter.2 ⟨hR,hk⟩,rfl⟩
    have hin:=(h.kept R hR hk).2 s hs hn
    have h2:=jk hin
    have:=m9.next (g:=r) (p:=aM r true) (bA (bK o) R) (-1 - bK o (-1 - s)) hm ih (h.HH hm) (by
      simp only[bA,List.mem_map]
      exact ⟨s,hs,by rw[if_pos hn]⟩) (by omega)
    rwa [show -1 - (-1 - bK o (-1 - s))=bK o (-1 - s) by omega] at this
theorem dP.JY (h:dP g p q o r) {k:Nat} (hk:k < o.length):(bE r).getD k false=true:=by
  obtain ⟨x,hx,h1,_⟩:=h.at_ hk
  obtain ⟨R,hR,hkk,rfl⟩:=h.from_ _ hx
  rw[bI,Bool.and_eq_true,h.qe] at hkk
  have h2:=Er h.right _ hkk.1
  have:=(h.inside _ hx)
  rw[show ((R.left.toNat:Nat):Int)=R.left by omega] at h2
  have:=uU h.kJ (h.OT h2)
  rwa [h1,Int.toNat_natCast] at this
def jO (n:Nat):List Int:=(List.range n).map fun (k:Nat)=>(k:Int)
theorem CF (n:Nat):(jO n).length=n:=by simp[jO]
theorem xN {n k:Nat} (h:k < n):(jO n)[k]?=some (k:Int):=by simp[jO,h]
theorem Hi (n:Nat):(jO n).Nodup:=by
  rw[jO,List.nodup_iff_pairwise_ne,List.pairwise_map]
  exact (List.nodup_range (n:=n)).imp fun h e=>h (by omega)
theorem xR {n:Nat} {x:Int} (h0:0≤x) (h1:x < n):bK (jO n) x=x:=by
  have:=vY (Hi n) (xN (n:=n) (k:=x.toNat) (by omega))
  rw[show ((x.toNat:Nat):Int)=x by omega] at this
  exact this
theorem AS {p q:List Bool} : ∀ (l:List aN) (i:Int),(∀ R∈l,bI p q R=true)→db p q l i=(List.range l.length).map fun (k:Nat)=>i+(k:Int)
  | [],_,_=>rfl
  | R :: l,i,h=>by
    rw[db,if_pos (h R (by simp)),AS l (i+1) (fun x hx=>h x (by simp[hx])),List.length_cons,List.range_succ_eq_map,List.map_cons,List.map_map]
    congr 1
    · omega
    · apply List.map_congr_left
      intro k _
      simp only[Function.comp]
      push_cast; omega
theorem q5 {f:Int→Int} {o:List Int} (hf:∀ x∈o,∀ y∈o,f x=f y→x=y):∀ (l:List aN) (acc:List Int),(∀ x∈acc,x∈o)→(∀ R∈l,R.left∈o)→(l.map (bA f)).foldl dS (acc.map f)=(l.foldl dS acc).map f
  | [],_,_,_=>rfl
  | R :: l,acc,ha,hl=>by
    have e:dS (acc.map f) (bA f R)=(dS acc R).map f:=by
      have h1:(bA f R).left=f R.left:=rfl
      unfold dS
      rw[h1]
      by_cases h:R.left∈acc
      · rw[if_pos h,if_pos (List.mem_map.2 ⟨_,h,rfl⟩)]
      · rw[if_neg h,if_neg (fun hm=>by
          obtain ⟨y,hy,e⟩:=List.mem_map.1 hm
          exact h (hf y (ha y hy) _ (hl R (by simp)) e ▸ hy))]
        simp
    rw[List.map_cons,List.foldl_cons,List.foldl_cons,e]
    refine q5 hf l (dS acc R) (fun x hx=>?_) (fun x hx=>hl x (by simp[hx]))
    unfold dS at hx
    split at hx
    · exact ha x hx
    · rcases List.mem_append.1 hx with hx | hx
      · exact ha x hx
      · simp at hx; subst hx; exact hl R (by simp)
theorem dP.inj (h:dP g p q o r):∀ x∈o,∀ y∈o,bK o x=bK o y→x=y:=by
  intro x hx y hy e
  have h1:=xQ hx
  have h2:=xQ hy
  rw[e,h2] at h1
  exact (Option.some.inj h1).symm
theorem dP.MC (h:dP g p q o r):o.map (bK o)=jO o.length:=by
  apply List.ext_getElem?
  intro k
  rw[List.getElem?_map]
  by_cases hk:k < o.length
  · rw[xN hk,List.getElem?_eq_getElem hk,Option.map_some,vY h.nodup (List.getElem?_eq_getElem hk)]
  · rw[List.getElem?_eq_none (by omega),List.getElem?_eq_none (by rw[CF]; omega)]; rfl
theorem dP.xF (h:dP g p q o r):∀ R∈r.rules,bI (aM r true) (bE r) R=true:=fun R hR=>by
  have hf:=bu h.kJ
  have:=hf.left R hR
  rw[h.len] at this
  rw[bI,h.JY (by omega),h.HH hR]; rfl
theorem dP.ord (h:dP g p q o r):cK (aM r true) (bE r) r.rules=jO o.length:=by
  unfold cK
  rw[List.filter_eq_self.2 h.xF,h.rules]
  have:=q5 h.inj (g.rules.filter (bI p q)) [] (by simp) (fun R hR=>by
    obtain ⟨h1,h2⟩:=List.mem_filter.1 hR
    exact (h.kept R h1 h2).1)
  rw[List.map_nil] at this
  rw[this,← h.MC]
  congr 1
  rw[h.oe]; rfl
theorem dP.once (h:dP g p q o r):ie r=(r,jO r.rules.length,0):=by
  have hf:=bu h.kJ
  have hst:=hf.start
  have hst0:=hf.lF
  rw[h.len] at hst
  rw[CU h.kJ,if_pos (h.Bq (by omega)),h.ord]
  have hk:db (aM r true) (bE r) r.rules 0=jO r.rules.length:=by
    rw[AS _ _ h.xF]
    unfold jO
    apply List.map_congr_left
    intro k _; omega
  have hr:kg r (bK (jO o.length)) (aM r true) (bE r)=r:=by
    unfold kg
    rw[h.ord,List.filter_eq_self.2 h.xF]
    have e1:((jO o.length).map fun x=>r.aC.getD x.toNat ⟨#[]⟩)=r.aC:=by
      apply List.ext_getElem?
      intro k
      rw[List.getElem?_map]
      by_cases hkk:k < o.length
      · rw[xN hkk,Option.map_some]
        simp[List.getD_eq_getElem?_getD,List.getElem?_eq_getElem (show k < r.aC.length by rw[h.len]; omega)]
      · rw[List.getElem?_eq_none (by rw[CF]; omega),List.getElem?_eq_none (by rw[h.len]; omega)]; rfl
    have e2:r.rules.map (bA (bK (jO o.length)))=r.rules:=by
      conv=>rhs; rw[← List.map_id r.rules]
      apply List.map_congr_left
      intro R hR
      have hl:=hf.left R hR
      rw[h.len] at hl
      unfold bA
      rw[xR hl.1 hl.2]
      have e3:(R.right.map fun s=>if s < 0 then -1 - bK (jO o.length) (-1 - s) else s)=R.right:=by
        conv=>rhs; rw[← List.map_id R.right]
        apply List.map_congr_left
        intro s hs
        by_cases hn:s < 0
        · have:=hf.neg hR hs hn
          rw[h.len] at this
          rw[if_pos hn,xR (by omega) this]
          simp only[id]; omega
        · rw[if_neg hn]; rfl
      rw[e3]; rfl
    rw[e1,e2,xR hst0 hst]
  rw[hr,hk]
end
def isRed (g:ao):Bool:=(ie g).2.2 == 0 && decide (g=(ie g).1)
def np (p:List Int) (i:Nat) (s:Int):Prop:=∃ c,p[i]?=some c∧(c=s∨c = -1)
inductive Sp (g:ao) (p:List Int):List Int→Nat→Nat→Prop
  | nil (i:Nat):Sp g p [] i i
  | term (s:Int) (l:List Int) (i j:Nat):0≤s→np p i s→Sp g p l (i+1) j→Sp g p (s :: l) i j
  | dF (s:Int) (l:List Int) (R:aN) (i k j:Nat):s < 0→R∈g.rules→R.left = -1 - s→Sp g p R.right i k→Sp g p l k j→Sp g p (s :: l) i j
theorem Sp.le {g:ao} {p:List Int} {l:List Int} {i j:Nat} (h:Sp g p l i j):i≤j:=by
  induction h with
  | nil=>exact Nat.le_refl _
  | term _ _ _ _ _ _ _ ih=>omega
  | dF _ _ _ _ _ _ _ _ _ _ _ ih1 ih2=>omega
theorem Sp.len {g:ao} {p:List Int} {l:List Int} {i j:Nat} (h:Sp g p l i j):i≤p.length→j≤p.length:=by
  induction h with
  | nil=>exact id
  | term _ _ i _ _ hf _ ih =>
    intro _
    obtain ⟨c,hc,_⟩:=hf
    have:=(List.getElem?_eq_some_iff.1 hc).1
    exact ih (by omega)
  | dF _ _ _ _ _ _ _ _ _ _ _ ih1 ih2=>exact fun h=>ih2 (ih1 h)
theorem Sp.app {g:ao} {p:List Int} {a:List Int} {i k:Nat} (h:Sp g p a i k):∀ {b:List Int} {j:Nat},Sp g p b k j→Sp g p (a ++ b) i j:=by
  induction h with
  | nil=>exact fun h=>h
  | term s l i _ h0 hf _ ih=>exact fun hb=>.term s _ i _ h0 hf (ih hb)
  | dF s l R i k _ h0 hR hl h1 _ _ ih2=>exact fun hb=>.dF s _ R i k _ h0 hR hl h1 (ih2 hb)
theorem Sp.split {g:ao} {p:List Int} : ∀ {a b:List Int} {i j:Nat},Sp g p (a ++ b) i j→∃ k,Sp g p a i k∧Sp g p b k j
  | [],b,i,j,h=>⟨i,.nil i,h⟩
  | s :: a,b,i,j,h=>by
    cases h with
    | term _ _ _ _ h0 hf h =>
      obtain ⟨k,h1,h2⟩:=Sp.split h
      exact ⟨k,.term s a i k h0 hf h1,h2⟩
    | dF _ _ R _ m _ h0 hR hl h1 h =>
      obtain ⟨k,h2,h3⟩:=Sp.split h
      exact ⟨k,.dF s a R i m k h0 hR hl h1 h2,h3⟩
structure Item where
  aF:Nat
  dot:Nat
  kq:Nat
  deriving DecidableEq
def Sound (g:ao) (p:List Int) (at_:Nat) (x:Item):Prop:=∃ R,g.rules[x.aF]?=some R∧x.dot≤R.right.length∧x.kq≤at_∧Sp g p (R.right.take x.dot) x.kq at_
structure OU (g:ao) (p:List Int) (S:Nat→List Item):Prop where
  start:∀ (i:Nat) (R:aN),g.rules[i]?=some R→R.left=g.start→⟨i,0,0⟩∈S 0
  term:∀ a x R s,x∈S a→g.rules[x.aF]?=some R→R.right[x.dot]?=some s→0≤s→np p a s→⟨x.aF,x.dot+1,x.kq⟩∈S (a+1)
  pred:∀ a x R s i R',x∈S a→g.rules[x.aF]?=some R→R.right[x.dot]?=some s→s < 0→g.rules[i]?=some R'→R'.left = -1 - s→a≤p.length→⟨i,0,a⟩∈S a
  null:∀ a x R s,x∈S a→g.rules[x.aF]?=some R→R.right[x.dot]?=some s→s < 0→(aM g false).getD (-1 - s).toNat false=true→a≤p.length→⟨x.aF,x.dot+1,x.kq⟩∈S a
  comp:∀ a y R' x R s,y∈S a→g.rules[y.aF]?=some R'→y.dot=R'.right.length→y.kq < a→x∈S y.kq→g.rules[x.aF]?=some R→R.right[x.dot]?=some s→s < 0→R'.left = -1 - s→a≤p.length→⟨x.aF,x.dot+1,x.kq⟩∈S a
inductive In (p:List Int) (T:Nat→Nat→Nat→Prop):List Int→Nat→Nat→Prop
  | nil (i:Nat):In p T [] i i
  | term (s:Int) (l:List Int) (i j:Nat):0≤s→np p i s→In p T l (i+1) j→In p T (s :: l) i j
  | dF (s:Int) (l:List Int) (i k j:Nat):s < 0→T (-1 - s).toNat i k→In p T l k j→In p T (s :: l) i j
theorem In.app {p:List Int} {T:Nat→Nat→Nat→Prop} {a:List Int} {i k:Nat} (h:In p T a i k):∀ {b:List Int} {j:Nat},In p T b k j→In p T (a ++ b) i j:=by
  induction h with
  | nil=>exact fun h=>h
  | term s l i _ h0 hf _ ih=>exact fun hb=>.term s _ i _ h0 hf (ih hb)
  | dF s l i k _ h0 h1 _ ih=>exact fun hb=>.dF s _ i k _ h0 h1 (ih hb)
theorem In.split {p:List Int} {T:Nat→Nat→Nat→Prop} : ∀ {a b:List Int} {i j:Nat},In p T (a ++ b) i j→∃ k,In p T a i k∧In p T b k j
  | [],b,i,j,h=>⟨i,.nil i,h⟩
  | s :: a,b,i,j,h=>by
    cases h with
    | term _ _ _ _ h0 hf h =>
      obtain ⟨k,h1,h2⟩:=In.split h
      exact ⟨k,.term s a i k h0 hf h1,h2⟩
    | dF _ _ _ m _ h0 h1 h =>
      obtain ⟨k,h2,h3⟩:=In.split h
      exact ⟨k,.dF s a i m k h0 h1 h2,h3⟩
theorem In.le {p:List Int} {T:Nat→Nat→Nat→Prop} (hT:∀ n i j,T n i j→i≤j) {l:List Int} {i j:Nat} (h:In p T l i j):i≤j:=by
  induction h with
  | nil=>exact Nat.le_refl _
  | term _ _ _ _ _ _ _ ih=>omega
  | dF _ _ _ _ _ _ h1 _ ih=>have:=hT _ _ _ h1; omega
def stepT (p:List Int) (T:Nat→Nat→Nat→Prop) (s:Int) (i j:Nat):Prop:=if 0≤s then np p i s∧j=i+1 else T (-1 - s).toNat i j
theorem In.one {p:List Int} {T:Nat→Nat→Nat→Prop} {s:Int} {i j:Nat} : In p T [s] i j↔stepT p T s i j:=by
  unfold stepT
  constructor
  · intro h
    cases h with
    | term _ _ _ _ h0 hf h=>cases h; rw[if_pos h0]; exact ⟨hf,rfl⟩
    | dF _ _ _ _ _ h0 h1 h=>cases h; rw[if_neg (by omega)]; exact h1
  · intro h
    by_cases h0:0≤s
    · rw[if_pos h0] at h
      obtain ⟨hf,rfl⟩:=h
      exact .term s [] i _ h0 hf (.nil _)
    · rw[if_neg h0] at h
      exact .dF s [] i j j (by omega) h (.nil _)
theorem In.snoc {p:List Int} {T:Nat→Nat→Nat→Prop} {a:List Int} {s:Int} {i j:Nat} : In p T (a ++ [s]) i j↔∃ k,In p T a i k∧stepT p T s k j :=
  ⟨fun h=>by obtain ⟨k,h1,h2⟩:=h.split; exact ⟨k,h1,In.one.1 h2⟩,fun ⟨k,h1,h2⟩=>h1.app (In.one.2 h2)⟩
abbrev Tb:=List (List (List Bool))
def xL (T:Tb) (N M:Nat):Prop:=T.length=N∧∀ r∈T,r.length=M∧∀ c∈r,c.length=M
theorem xL.row {T:Tb} {N M n:Nat} (h:xL T N M) (hn:n < N):∃ r,T[n]?=some r∧r.length=M∧T.getD n []=r:=by
  have:n < T.length:=by rw[h.1]; exact hn
  exact ⟨T[n],List.getElem?_eq_getElem this,(h.2 _ (List.getElem_mem _)).1,by simp[List.getD_eq_getElem?_getD,this]⟩
theorem xL.cell {T:Tb} {N M n i:Nat} (h:xL T N M) (hn:n < N) (hi:i < M):∃ r c,T[n]?=some r∧r[i]?=some c∧c.length=M∧(T.getD n []).getD i []=c:=by
  obtain ⟨r,hr,hl,hg⟩:=h.row hn
  have h1:i < r.length:=by omega
  refine ⟨r,r[i],hr,List.getElem?_eq_getElem h1,(h.2 r (List.mem_of_getElem? hr)).2 _ (List.getElem_mem _),?_⟩
  rw[hg]; simp[List.getD_eq_getElem?_getD,h1]
def GI (T:Tb) (n i j:Nat):Tb:=T.set n ((T.getD n []).set i (((T.getD n []).getD i []).set j true))
def Nd (N M:Nat):Tb:=List.replicate N (List.replicate M (List.replicate M false))
def LS (T:Tb):V:=.aP (T.map fun r=>[.aP (r.map fun c=>[df c])])
structure pj (H:View) (I N M:Nat) (R:Nat→Nat) (C:Nat→Nat→Nat) (T:Tb):Prop where
  top:H I=.arr 1 ((List.range N).map fun n=>[.sl (R n) 0 M 1])
  row:∀ n,n < N→H (R n)=.arr 1 ((List.range M).map fun i=>[.sl (C n i) 0 M 1])
  cell:∀ n i,n < N→i < M→H (C n i)=.arr 1 (cQ ((T.getD n []).getD i []))
  inj:∀ n i n' i',n < N→i < M→n' < N→i' < M→C n i=C n' i'→n=n'∧i=i'
theorem xK {c:List Bool} {k:Nat} {F:Nat→List V} (hc:0 < c.length) (h:cQ c=(List.range k).map F) (hF:∀ n x,F n≠[gb x]):False:=by
  cases c with
  | nil=>simp at hc
  | cons x c =>
    cases k with
    | zero=>simp at h
    | succ k =>
      rw[List.range_succ_eq_map] at h
      simp only[List.map_cons,List.cons.injEq] at h
      exact hF 0 x h.1.symm
theorem pj.keep {H H':View} {I N M:Nat} {R:Nat→Nat} {C:Nat→Nat→Nat} {T:Tb} (h:pj H I N M R C T) (hk:∀ id,H id≠.dead→H' id=H id):pj H' I N M R C T :=
  ⟨by rw[hk _ (by rw[h.top]; simp)]; exact h.top,fun n hn=>by rw[hk _ (by rw[h.row n hn]; simp)]; exact h.row n hn,fun n i hn hi=>by rw[hk _ (by rw[h.cell n i hn hi]; simp)]; exact h.cell n i hn hi,h.inj⟩
theorem pj.put {H:View} {I N M:Nat} {R:Nat→Nat} {C:Nat→Nat→Nat} {T:Tb} (h:pj H I N M R C T) (hT:xL T N M) {n i j:Nat} (hn:n < N) (hi:i < M) (hj:j < M) :
    pj (H.set (C n i) (.arr 1 (cQ (((T.getD n []).getD i []).set j true)))) I N M R C (GI T n i j):=by
  obtain ⟨r,c,hr,hc,hcl,hg⟩:=hT.cell hn hi
  have hcell:=h.cell n i hn hi
  rw[hg] at hcell
  have e1:I≠C n i:=fun e=>by
    have:=h.top
    rw[e,hcell] at this
    simp only[bM.arr.injEq,true_and] at this
    exact xK (by omega) this fun _ _=>by simp
  have e2:∀ m,m < N→R m≠C n i:=fun m hm e=>by
    have:=h.row m hm
    rw[e,hcell] at this
    simp only[bM.arr.injEq,true_and] at this
    exact xK (by omega) this fun _ _=>by simp
  refine ⟨by simp only[View.set,if_neg e1]; exact h.top,fun m hm=>by simp only[View.set,if_neg (e2 m hm)]; exact h.row m hm,fun m q hm hq=>?_,h.inj⟩
  obtain ⟨r',hr',hrl,hg'⟩:=hT.row hn
  rw[hr] at hr'; simp at hr'; subst hr'
  have hnl:n < T.length:=by rw[hT.1]; exact hn
  by_cases e:C m q=C n i
  · obtain ⟨rfl,rfl⟩:=h.inj m q n i hm hq hn hi e
    simp only[View.set,if_true]
    congr 2
    rw[GI]
    simp[List.getD_eq_getElem?_getD,hnl]
    rw[List.getElem?_set]
    have:q < T[m].length:=by
      have:=(List.getElem?_eq_some_iff.1 hr).2
      rw[this,hrl]; exact hq
    simp[this]
  · simp only[View.set,if_neg e]
    rw[h.cell m q hm hq]
    congr 2
    rw[GI]
    by_cases em:n=m
    · subst em
      have eq:i≠q:=fun e'=>e (by rw[e'])
      simp[List.getD_eq_getElem?_getD,hnl,List.getElem?_set,eq]
    · simp[List.getD_eq_getElem?_getD,List.getElem?_set,em]
theorem pj.NW {h:aD} {I N M:Nat} {R:Nat→Nat} {C:Nat→Nat→Nat} {T:Tb} (hG:pj h.view I N M R C T) (hT:xL T N M):dJ h (.sl I 0 N 1) (LS T):=by
  refine .sl I 0 N 1 1 _ _ hG.top (by simp) (by simp[hT.1]) (fun n hn=>?_) (fun n j hn hj=>?_)
  · obtain ⟨r,hr,_⟩:=hT.row hn
    simp[List.getD_eq_getElem?_getD,hr,hn]
  · obtain ⟨r,hr,hrl,hrg⟩:=hT.row hn
    have e1:((T.map fun r=>[V.aP (r.map fun c=>[df c])]).getD n [])=[V.aP (r.map fun c=>[df c])]:=by simp[List.getD_eq_getElem?_getD,hr]
    have e2:(((List.range N).map fun n=>[V.sl (R n) 0 M 1]).getD (0+n) [])=[V.sl (R n) 0 M 1]:=by simp[List.getD_eq_getElem?_getD,hn]
    rw[e1] at hj ⊢
    rw[e2]
    have:j=0:=by simp at hj; omega
    subst this
    simp only[List.getD_cons_zero]
    refine .sl (R n) 0 M 1 1 _ _ (hG.row n hn) (by simp) (by simp[hrl]) (fun i hi=>?_) (fun i q hi hq=>?_)
    · simp[List.getD_eq_getElem?_getD,hi,show i < r.length by omega]
    · have hic:i < r.length:=by omega
      have f1:((r.map fun c=>[df c]).getD i [])=[df r[i]]:=by simp[List.getD_eq_getElem?_getD,hic]
      have f2:(((List.range M).map fun i=>[V.sl (C n i) 0 M 1]).getD (0+i) [])=[V.sl (C n i) 0 M 1]:=by simp[List.getD_eq_getElem?_getD,hi]
      rw[f1] at hq ⊢
      rw[f2]
      have:q=0:=by simp at hq; omega
      subst this
      simp only[List.getD_cons_zero]
      have hcell:=hG.cell n i hn hi
      have e3:(T.getD n []).getD i []=r[i]:=by rw[hrg]; simp[List.getD_eq_getElem?_getD,hic]
      rw[e3] at hcell
      have hcl:=(hT.2 r (List.mem_of_getElem? hr)).2 _ (List.getElem_mem hic)
      have:=ui (h:=h) (id:=C n i) (is:=r[i]) hcell
      rwa [hcl] at this
theorem dJ.MT {h:aD} {v t:V} (f:dJ h v t):Fr h v t:=by
  induction f with
  | val v=>exact .tree _ (.val v)
  | emp k=>exact .emp k
  | sl id off len esz z es es' hH hle hlen hl _ ih=>exact .sl id off len esz z es es' hH hle hlen hl ih
  | agg cs cs' hl _ ih=>exact .agg cs cs' hl ih
  | bg cs cs' hl _ ih=>exact .bg cs cs' hl ih
theorem pj.GW {H:View} {I N M:Nat} {R:Nat→Nat} {C:Nat→Nat→Nat} {T:Tb} (hG:pj H I N M R C T) (hT:xL T N M):dQ H (.sl I 0 N 1) (LS T):=by
  rintro h rfl
  exact (hG.NW hT).MT
structure Nj (H:View) (I N M k:Nat) (R:Nat→Nat) (C:Nat→Nat→Nat):Prop where
  top:H I=.arr 1 ((List.range N).map fun n=>[if n < k then .sl (R n) 0 M 1 else .emp 1])
  row:∀ n,n < k→H (R n)=.arr 1 ((List.range M).map fun i=>[.sl (C n i) 0 M 1])
  cell:∀ n i,n < k→i < M→H (C n i)=.arr 1 (List.replicate M [gb false])
  inj:∀ n i n' i',n < k→i < M→n' < k→i' < M→C n i=C n' i'→n=n'∧i=i'
  ne:∀ n,n < k→I≠R n
structure CA (H:View) (I N M k:Nat) (R:Nat→Nat) (C:Nat→Nat→Nat) (r i:Nat) (D:Nat→Nat):Prop where
  top:H I=.arr 1 ((List.range N).map fun n=>[if n < k then .sl (R n) 0 M 1 else if n=k then .sl r 0 M 1 else .emp 1])
  row:∀ n,n < k→H (R n)=.arr 1 ((List.range M).map fun i=>[.sl (C n i) 0 M 1])
  cell:∀ n i,n < k→i < M→H (C n i)=.arr 1 (List.replicate M [gb false])
  inj:∀ n i n' i',n < k→i < M→n' < k→i' < M→C n i=C n' i'→n=n'∧i=i'
  ne:∀ n,n < k→I≠R n
  MZ:H r=.arr 1 ((List.range M).map fun j=>[if j < i then .sl (D j) 0 M 1 else .emp 1])
  Ce:∀ j,j < i→H (D j)=.arr 1 (List.replicate M [gb false])
  MU:∀ j j',j < i→j' < i→D j=D j'→j=j'
  AQ:I≠r∧(∀ n,n < k→R n≠r)∧∀ n q j,n < k→q < M→j < i→C n q≠D j
theorem FX {M i:Nat} {F:Nat→List V} {v:List V} : ((List.range M).map F).set i v=(List.range M).map fun j=>if j=i then v else F j:=by
  apply List.ext_getElem (by simp)
  intro j h1 h2
  simp only[List.getElem_set,List.getElem_map,List.getElem_range]
  by_cases e:i=j
  · subst e; simp
  · rw[if_neg e,if_neg (Ne.symm e)]
theorem Nj.done {H:View} {I N M:Nat} {R:Nat→Nat} {C:Nat→Nat→Nat} (h:Nj H I N M N R C):pj H I N M R C (Nd N M):=by
  refine ⟨?_,h.row,fun n i hn hi=>?_,h.inj⟩
  · rw[h.top]
    congr 1
    apply List.map_congr_left
    intro n hn
    rw[if_pos (by simpa using hn)]
  · rw[h.cell n i hn hi]
    simp[Nd,List.getD_eq_getElem?_getD,hn,hi]
theorem CA.N0 {H:View} {I N M k:Nat} {R:Nat→Nat} {C:Nat→Nat→Nat} {r:Nat} {D:Nat→Nat} (h:CA H I N M k R C r M D):Nj H I N M (k+1) (fun n=>if n=k then r else R n) (fun n=>if n=k then D else C n):=by
  refine ⟨?_,fun n hn=>?_,fun n i hn hi=>?_,fun n i n' i' hn hi hn' hi' e=>?_,fun n hn=>?_⟩
  · rw[h.top]
    congr 1
    apply List.map_congr_left
    intro n _
    by_cases e1:n < k
    · rw[if_pos e1,if_pos (by omega),if_neg (by omega)]
    · by_cases e2:n=k
      · rw[if_neg e1,if_pos e2,if_pos (by omega),if_pos e2]
      · rw[if_neg e1,if_neg e2,if_neg (by omega)]
  · by_cases e:n=k
    · simp only[if_pos e]
      rw[h.MZ]
      congr 1
      apply List.map_congr_left
      intro i hi
      rw[if_pos (by simpa using hi)]
    · simp only[if_neg e]; exact h.row n (by omega)
  · by_cases e:n=k
    · simp only[if_pos e]; exact h.Ce i hi
    · simp only[if_neg e]; exact h.cell n i (by omega) hi
  · by_cases e1:n=k
    · by_cases e2:n'=k
      · simp only[if_pos e1,if_pos e2] at e
        exact ⟨by omega,h.MU i i' hi hi' e⟩
      · simp only[if_pos e1,if_neg e2] at e
        exact absurd e.symm (h.AQ.2.2 n' i' i (by omega) hi' hi)
    · by_cases e2:n'=k
      · simp only[if_neg e1,if_pos e2] at e
        exact absurd e (h.AQ.2.2 n i i' (by omega) hi hi')
      · simp only[if_neg e1,if_neg e2] at e
        exact h.inj n i n' i' (by omega) hi (by omega) hi' e
  · by_cases e:n=k
    · simp only[if_pos e]; exact h.AQ.1
    · simp only[if_neg e]; exact h.ne n (by omega)
theorem CA.next {H H':View} {I N M k:Nat} {R:Nat→Nat} {C:Nat→Nat→Nat} {r i d:Nat} {D:Nat→Nat} (h:CA H I N M k R C r i D) (hN:0 < N) (hM:0 < M) (hd:H d=.dead)
    (hr':H' r=.arr 1 (((List.range M).map fun j=>[if j < i then V.sl (D j) 0 M 1 else .emp 1]).set i [.sl d 0 M 1])) (hd':H' d=.arr 1 (List.replicate M [gb false])) (ho:∀ id,H id≠.dead→id≠r→H' id=H id) :
    CA H' I N M k R C r (i+1) (fun j=>if j=i then d else D j):=by
  have live:∀ id,H id≠.dead→id≠d:=fun id hid e=>by subst e; exact hid hd
  have boolr:∀ id,H id=.arr 1 (List.replicate M [gb false])→id≠r:=fun id hid e=>by
    rw[e,h.MZ] at hid
    simp only[bM.arr.injEq,true_and] at hid
    have:=congrArg (·[0]?) hid
    simp[hM] at this
    split at this <;> simp at this
  refine ⟨?_,fun n hn=>?_,fun n q hn hq=>?_,h.inj,h.ne,?_,fun j hj=>?_,fun j j' hj hj' e=>?_,⟨h.AQ.1,h.AQ.2.1,fun n q j hn hq hj=>?_⟩⟩
  · rw[ho I (by rw[h.top]; simp) h.AQ.1]; exact h.top
  · rw[ho _ (by rw[h.row n hn]; simp) (h.AQ.2.1 n hn)]; exact h.row n hn
  · have:=h.cell n q hn hq
    rw[ho _ (by rw[this]; simp) (boolr _ this)]; exact this
  · rw[hr',FX]
    congr 1
    apply List.map_congr_left
    intro j _
    by_cases e:j=i
    · rw[if_pos e,if_pos (by omega),if_pos e]
    · rw[if_neg e]
      by_cases e2:j < i
      · rw[if_pos e2,if_pos (by omega),if_neg e]
      · rw[if_neg e2,if_neg (by omega)]
  · by_cases e:j=i
    · simp only[if_pos e]; exact hd'
    · simp only[if_neg e]
      have:=h.Ce j (by omega)
      rw[ho _ (by rw[this]; simp) (boolr _ this)]; exact this
  · by_cases e1:j=i
    · by_cases e2:j'=i
      · omega
      · simp only[if_pos e1,if_neg e2] at e
        exact absurd e.symm (live _ (by rw[h.Ce j' (by omega)]; simp))
    · by_cases e2:j'=i
      · simp only[if_neg e1,if_pos e2] at e
        exact absurd e (live _ (by rw[h.Ce j (by omega)]; simp))
      · simp only[if_neg e1,if_neg e2] at e
        exact h.MU j j' (by omega) (by omega) e
  · by_cases e:j=i
    · simp only[if_pos e]; exact live _ (by rw[h.cell n q hn hq]; simp)
    · simp only[if_neg e]; exact h.AQ.2.2 n q j hn hq (by omega)
structure uD.Ok (t:uD):Prop where
  cp:bc t.cp
  gotos:bc t.gotos
  row:∀ r∈t.cp,bc r∧∀ c∈r,bB c.kind∧bB c.n
  go:∀ r∈t.gotos,bc r∧∀ x∈r,bB x
structure bL where
  aF:Int
  cA:Int
  rules:Int
  aA:Int
def pJ:bL:=⟨(-1),0,0,0⟩
def fF:bL:=⟨0,0,0,0⟩
def ca (P:List bL) (m:Nat):bL:=P.getD m pJ
abbrev oZ (x:Int):Nat:=(-1 - x).toNat
def fI (P:List bL):List Int→bL→bL × Bool
  | [],s=>(s,true)
  | x :: l,s=>if 0≤x then fI P l ⟨s.aF,s.cA,s.rules,min 1048576 (s.aA+1)⟩
    else if (ca P (oZ x)).aF < 0 then (s,false)
    else fI P l ⟨s.aF,max s.cA (ca P (oZ x)).cA,min 1048576 (s.rules+(ca P (oZ x)).rules),min 1048576 (s.aA+(ca P (oZ x)).aA)⟩
def cI (P:List bL) (m:Nat):Prop:=0≤(ca P m).aF
def tf (P:List bL) (l:List Int):Prop:=∀ x∈l,x < 0→cI P (oZ x)
theorem rT (P:List bL):∀ (l:List Int) (s:bL),(fI P l s).2=true↔tf P l
  | [],s=>by simp[fI,tf]
  | x :: l,s=>by
    simp only[fI,tf,List.mem_cons]
    by_cases h:0≤x
    · rw[if_pos h,rT P l]
      refine ⟨fun k y hy hn=>?_,fun k y hy=>k y (.inr hy)⟩
      rcases hy with rfl | hy
      · omega
      · exact k y hy hn
    · rw[if_neg h]
      by_cases h2:(ca P (oZ x)).aF < 0
      · rw[if_pos h2]
        simp only[Bool.false_eq_true,false_iff]
        intro k
        have:=k x (.inl rfl) (by omega)
        unfold cI at this; omega
      · rw[if_neg h2,rT P l]
        refine ⟨fun k y hy hn=>?_,fun k y hy=>k y (.inr hy)⟩
        rcases hy with rfl | hy
        · unfold cI; omega
        · exact k y hy hn
theorem mL (P:List bL) (k:Int):∀ (l:List Int) (s:bL),tf P l→((fI P l s).1.cA≤k↔s.cA≤k∧∀ x∈l,x < 0→(ca P (oZ x)).cA≤k)
  | [],s,_=>by simp[fI]
  | x :: l,s,h=>by
    have hl:tf P l:=fun y hy=>h y (by simp[hy])
    simp only[fI,List.mem_cons]
    by_cases h0:0≤x
    · rw[if_pos h0,mL P k l _ hl]
      refine ⟨fun ⟨a,b⟩=>⟨a,fun y hy hn=>?_⟩,fun ⟨a,b⟩=>⟨a,fun y hy=>b y (.inr hy)⟩⟩
      rcases hy with rfl | hy
      · omega
      · exact b y hy hn
    · have:=h x (by simp) (by omega)
      unfold cI at this
      rw[if_neg h0,if_neg (by omega),mL P k l _ hl]
      refine ⟨fun ⟨a,b⟩=>⟨by simp only at a; omega,fun y hy hn=>?_⟩,fun ⟨a,b⟩=>⟨by have:=b x (.inl rfl) (by omega); simp only; omega,fun y hy=>b y (.inr hy)⟩⟩
      rcases hy with rfl | hy
      · simp only at a; omega
      · exact b y hy hn
theorem uh (P:List bL):∀ (l:List Int) (s:bL),s.cA≤(fI P l s).1.cA
  | [],s=>Int.le_refl _
  | x :: l,s=>by
    simp only[fI]
    split
    · exact uh P l _
    · split
      · exact Int.le_refl _
      · have:=uh P l ⟨s.aF,max s.cA (ca P (oZ x)).cA,min 1048576 (s.rules+(ca P (oZ x)).rules),min 1048576 (s.aA+(ca P (oZ x)).aA)⟩
        simp only at this ⊢; omega
def nH (P:List bL) (i:Nat) (r:aN):bL:=⟨i,(fI P r.right fF).1.cA+1,min 1048576 ((fI P r.right fF).1.rules+1),(fI P r.right fF).1.aA⟩
def B4 (P:List bL) (i:Nat) (N:List bL) (r:aN):List bL :=
  if 0≤(ca N r.left.toNat).aF then N else if (fI P r.right fF).2=true then N.set r.left.toNat (nH P i r) else N
def sD (P:List bL):Nat→List bL→List aN→List bL
  | _,N,[]=>N
  | i,N,r :: l=>sD P (i+1) (B4 P i N r) l
def yk (rules:List aN) (P:List bL):List bL:=sD P 0 P rules
def kO (P:List bL) (m:Nat):Nat→List aN→Option bL
  | _,[]=>none
  | i,r :: l=>if r.left.toNat=m∧(fI P r.right fF).2=true then some (nH P i r) else kO P m (i+1) l
theorem FF {N:List bL} {i m:Nat} {p:bL} (hm:m < N.length):ca (N.set i p) m=if i=m then p else ca N m:=by
  simp only[ca,List.getD_eq_getElem?_getD,List.getElem?_set]
  split
  · rename_i e; subst e; simp[hm]
  · rfl
theorem A4 (P:List bL) (i:Nat) (N:List bL) (r:aN):(B4 P i N r).length=N.length:=by
  unfold B4; split; · rfl
  split <;> simp
theorem BE (P:List bL):∀ (l:List aN) (i:Nat) (N:List bL),(sD P i N l).length=N.length
  | [],_,_=>rfl
  | r :: l,i,N=>by rw[sD,BE P l,A4]
theorem Dd (P:List bL) (m:Nat):∀ (l:List aN) (i:Nat) (N:List bL),m < N.length→ca (sD P i N l) m=if 0≤(ca N m).aF then ca N m else (kO P m i l).getD (ca N m)
  | [],i,N,hm=>by simp[sD,kO]
  | r :: l,i,N,hm=>by
    rw[sD,Dd P m l (i+1) _ (by rw[A4]; exact hm),kO]
    unfold B4
    by_cases h1:0≤(ca N r.left.toNat).aF
    · rw[if_pos h1]
      by_cases h2:r.left.toNat=m
      · subst h2
        rw[if_pos h1,if_pos h1]
      · rw[if_neg (c:=r.left.toNat=m∧_) (fun e=>h2 e.1)]
    · rw[if_neg h1]
      by_cases h3:(fI P r.right fF).2=true
      · rw[if_pos h3]
        by_cases h2:r.left.toNat=m
        · subst h2
          rw[FF hm,if_pos rfl,if_neg h1,if_pos (show (0:Int)≤(nH P i r).aF by simp only[nH]; omega),if_pos (c:=r.left.toNat=r.left.toNat∧_) (And.intro rfl h3)]
          rfl
        · rw[FF hm,if_neg h2,if_neg (c:=r.left.toNat=m∧_) (fun e=>h2 e.1)]
      · rw[if_neg h3,if_neg (c:=r.left.toNat=m∧_) (fun e=>h3 e.2)]
theorem nq {P:List bL} {m:Nat} : ∀ {l:List aN} {i:Nat} {p:bL},kO P m i l=some p→∃ (j:Nat) (r:aN),l[j]?=some r∧r.left.toNat=m∧tf P r.right∧p=nH P (i+j) r∧∀ (j':Nat) (r':aN),j' < j→l[j']?=some r'→r'.left.toNat=m→¬ tf P r'.right
  | [],i,p,h=>by simp[kO] at h
  | r :: l,i,p,h=>by
    rw[kO] at h
    by_cases hc:r.left.toNat=m∧(fI P r.right fF).2=true
    · rw[if_pos hc] at h
      exact ⟨0,r,rfl,hc.1,(rT P _ _).1 hc.2,by simpa using h.symm,fun j' r' hj=>by omega⟩
    · rw[if_neg hc] at h
      obtain ⟨j,r2,a,b,c,d,e⟩:=nq h
      refine ⟨j+1,r2,by simpa using a,b,c,by rw[d]; congr 1; omega,fun j' r' hj hr hl hk=>?_⟩
      cases j' with
      | zero =>
        simp at hr; subst hr
        exact hc ⟨hl,(rT P _ _).2 hk⟩
      | succ j'=>exact e j' r' (by omega) (by simpa using hr) hl hk
theorem BA {P:List bL} {m:Nat} : ∀ {l:List aN} {i:Nat},kO P m i l=none→∀ r∈l,r.left.toNat=m→¬ tf P r.right
  | [],i,h,r,hr,_,_=>by simp at hr
  | r :: l,i,h,r',hr,hl,hk=>by
    rw[kO] at h
    by_cases hc:r.left.toNat=m∧(fI P r.right fF).2=true
    · rw[if_pos hc] at h; simp at h
    · rw[if_neg hc] at h
      rcases List.mem_cons.1 hr with rfl | hr
      · exact hc ⟨hl,(rT P _ _).2 hk⟩
      · exact BA h r' hr hl hk
def bm (g:ao) (k:Nat):List bL:=iter (yk g.rules) k (List.replicate g.aC.length pJ)
theorem AM {α:Type} (f:α→α):∀ (k:Nat) (x:α),iter f (k+1) x=f (iter f k x)
  | 0,x=>rfl
  | k+1,x=>by rw[iter,AM f k,iter]
theorem xZ (g:ao) (k:Nat):bm g (k+1)=yk g.rules (bm g k):=AM _ _ _
theorem kL (g:ao):∀ k,(bm g k).length=g.aC.length
  | 0=>by simp[bm,iter]
  | k+1=>by rw[xZ,yk,BE,kL g k]
theorem rj {P:List bL} {m:Nat} (h:P.length≤m):ca P m=pJ:=by simp[ca,List.getD_eq_getElem?_getD,List.getElem?_eq_none h]
theorem Lg {P:List bL} {m:Nat} (h:cI P m):m < P.length:=by
  rcases Nat.lt_or_ge m P.length with h1 | h1
  · exact h1
  · unfold cI at h; rw[rj h1] at h; simp[pJ] at h
theorem pf (g:ao) (k m:Nat):ca (bm g (k+1)) m=if 0≤(ca (bm g k) m).aF then ca (bm g k) m else if m < g.aC.length then (kO (bm g k) m 0 g.rules).getD (ca (bm g k) m) else ca (bm g k) m:=by
  by_cases hm:m < g.aC.length
  · rw[xZ,yk,Dd _ _ _ _ _ (by rw[kL]; exact hm),if_pos hm]
  · rw[if_neg hm,rj (by rw[kL]; omega),rj (by rw[kL]; omega)]
    simp
theorem Gj {g:ao} {k m:Nat} (h:cI (bm g k) m):ca (bm g (k+1)) m=ca (bm g k) m:=by
  rw[pf]; unfold cI at h; rw[if_pos h]
theorem wL {g:ao} {k m:Nat} (h:cI (bm g k) m):∀ d,ca (bm g (k+d)) m=ca (bm g k) m
  | 0=>rfl
  | d+1=>by
    have ih:=wL h d
    have:cI (bm g (k+d)) m:=by unfold cI at h ⊢; rw[ih]; exact h
    rw[← ih,← Gj this]; rfl
theorem lI {g:ao} {k m j:Nat} (h:cI (bm g k) m) (hj:k≤j):ca (bm g j) m=ca (bm g k) m∧cI (bm g j) m:=by
  obtain ⟨d,rfl⟩:∃ d,j=k+d:=⟨j - k,by omega⟩
  have:=wL h d
  exact ⟨this,by unfold cI at h ⊢; rw[this]; exact h⟩
theorem Ba {g:ao} {k m:Nat} (h0:¬ cI (bm g k) m) (h:cI (bm g (k+1)) m):kO (bm g k) m 0 g.rules=some (ca (bm g (k+1)) m):=by
  unfold cI at h h0
  rw[pf,if_neg h0] at h
  rw[pf,if_neg h0]
  split at h
  · rename_i hm
    rw[if_pos hm]
    cases hc:kO (bm g k) m 0 g.rules with
    | none=>rw[hc] at h; exact absurd h h0
    | some p=>rfl
  · exact absurd h h0
theorem sm {g:ao} {m:Nat} : ∀ {k:Nat},¬ cI (bm g k) m→ca (bm g k) m=pJ
  | 0,_=>by
    simp only[bm,iter,ca,List.getD_eq_getElem?_getD,List.getElem?_replicate]
    split <;> rfl
  | k+1,h=>by
    have h0:¬ cI (bm g k) m:=fun e=>h (lI e (by omega)).2
    unfold cI at h h0
    rw[pf,if_neg h0] at h ⊢
    split
    · rename_i hm
      rw[if_pos hm] at h
      cases hc:kO (bm g k) m 0 g.rules with
      | none=>exact sm (k:=k) h0
      | some p =>
        rw[hc] at h
        obtain ⟨j,r,_,_,_,rfl,_⟩:=nq hc
        simp only[Option.getD_some,nH] at h; omega
    · exact sm (k:=k) h0
theorem pA (g:ao):∀ k:Nat,∀ m,cI (bm g k) m→1≤(ca (bm g k) m).cA∧(ca (bm g k) m).cA≤k∧∀ j:Nat,j≤k→(ca (bm g k) m).cA≤j→cI (bm g j) m
  | 0,m,h=>by
    unfold cI at h
    have:ca (bm g 0) m=pJ:=by
      simp only[bm,iter,ca,List.getD_eq_getElem?_getD,List.getElem?_replicate]
      split <;> rfl
    rw[this] at h; simp[pJ] at h
  | k+1,m,h=>by
    have ih:=pA g k
    by_cases h0:cI (bm g k) m
    · obtain ⟨a,b,c⟩:=ih m h0
      rw[(lI h0 (Nat.le_succ k)).1]
      refine ⟨a,by push_cast; omega,fun j hj hh=>?_⟩
      rcases Nat.lt_or_ge k j with e | e
      · exact (lI h0 (by omega)).2
      · exact c j e hh
    · have hc:=Ba h0 h
      obtain ⟨i,r,hr,hl,hk,hp,_⟩:=nq hc
      have hh:(ca (bm g (k+1)) m).cA=(fI (bm g k) r.right fF).1.cA+1:=by rw[hp]; rfl
      have h1:=uh (bm g k) r.right fF
      have h2:=(mL (bm g k) k r.right fF hk).2 ⟨by simp[fF],fun x hx hn=>(ih _ (hk x hx hn)).2.1⟩
      have h3:¬ (fI (bm g k) r.right fF).1.cA≤(k:Int) - 1:=by
        intro hle
        have hz:(0:Int)≤(fI (bm g k) r.right fF).1.cA:=h1
        obtain ⟨d,rfl⟩:∃ d,k=d+1:=⟨k - 1,by omega⟩
        have h4:=((mL (bm g (d+1)) _ r.right fF hk).1 hle).2
        have h5:tf (bm g d) r.right:=fun x hx hn=>(ih _ (hk x hx hn)).2.2 d (by omega) (by have:=h4 x hx hn; push_cast at this; omega)
        apply h0
        by_cases h6:cI (bm g d) m
        · exact (lI h6 (by omega)).2
        · unfold cI at h6 ⊢
          have hm:=Lg h
          rw[kL] at hm
          rw[pf,if_neg h6,if_pos hm]
          cases hc2:kO (bm g d) m 0 g.rules with
          | none=>exact absurd h5 (BA hc2 r (List.mem_of_getElem? hr) hl)
          | some p =>
            obtain ⟨j,r2,_,_,_,rfl,_⟩:=nq hc2
            simp only[Option.getD_some,nH]; omega
      have hz:(0:Int)≤(fI (bm g k) r.right fF).1.cA:=h1
      refine ⟨by omega,by push_cast; omega,fun j hj hle=>?_⟩
      have:j=k+1:=by omega
      subst this; exact h
def dy (g:ao):List bL:=bm g g.aC.length
theorem uf (g:ao):(dy g).length=g.aC.length:=kL _ _
theorem wx {g:ao} {m:Nat} (h:cI (dy g) m):1≤(ca (dy g) m).cA∧(ca (dy g) m).cA≤g.aC.length:=⟨(pA g _ m h).1,(pA g _ m h).2.1⟩
theorem CL {g:ao} {m:Nat} (h:¬ cI (dy g) m):ca (dy g) m=pJ:=sm h
def M0 (h:List Int) (m:Nat):Int:=h.getD m 0
abbrev Nm (P:List bL):List Int:=P.map bL.cA
theorem Mo (P:List bL) (m:Nat):M0 (Nm P) m=(ca P m).cA:=by
  simp only[M0,ca,List.getD_eq_getElem?_getD,List.getElem?_map]
  cases P[m]? <;> rfl
def Lx (P:List bL):Prop:=∀ m,(cI P m→1≤(ca P m).cA)∧(¬ cI P m→ca P m=pJ)
theorem Lx.zero {P:List bL} (h:Lx P) (m:Nat):M0 (Nm P) m=0↔¬ cI P m:=by
  rw[Mo]
  constructor
  · intro e k; have:=(h m).1 k; omega
  · intro k; rw[(h m).2 k]; rfl
def pw (S:List (Int × Int)) (m:Nat):Int × Int:=S.getD m (0,0)
def vD (p:bL):Int × Int:=(min 1000 p.rules,min 1000 p.aA)
def lJ (p:bL):Prop:=(0≤p.rules∧p.rules≤1048576)∧(0≤p.aA∧p.aA≤1048576)
theorem xT {P:List bL} (hP:∀ m,lJ (ca P m)):∀ (l:List Int) (s:bL),lJ s→lJ (fI P l s).1
  | [],s,h=>h
  | x :: l,s,h=>by
    have hx:=hP (oZ x)
    unfold lJ at h hx
    simp only[fI]
    split
    · exact xT hP l _ (by unfold lJ; simp only; omega)
    · split
      · exact h
      · exact xT hP l _ (by unfold lJ; simp only; omega)
theorem J9:lJ fF:=by unfold lJ; simp[fF]
theorem HK:lJ pJ:=by unfold lJ; simp[pJ]
theorem uA (g:ao):∀ k m,lJ (ca (bm g k) m)
  | 0,m=>by
    have:ca (bm g 0) m=pJ:=by
      simp only[bm,iter,ca,List.getD_eq_getElem?_getD,List.getElem?_replicate]
      split <;> rfl
    rw[this]; exact HK
  | k+1,m=>by
    by_cases h:cI (bm g (k+1)) m
    · by_cases h0:cI (bm g k) m
      · rw[(lI h0 (Nat.le_succ k)).1]; exact uA g k m
      · obtain ⟨i,r,_,_,_,hp,_⟩:=nq (Ba h0 h)
        rw[hp]
        have:=xT (uA g k) r.right fF J9
        unfold lJ at this ⊢
        simp only[nH]; omega
    · rw[sm h]; exact HK
inductive uB (g:ao):List Int→List Int→List Int→Prop
  | nil:uB g [] [] []
  | term (s:Int) (l t w:List Int):0≤s→uB g l t w→uB g (s :: l) t (s :: w)
  | dF (s:Int) (l:List Int) (k:Nat) (R:aN) (t1 w1 t w:List Int):s < 0→g.rules[k]?=some R→R.left = -1 - s→uB g R.right t1 w1→uB g l t w→uB g (s :: l) (((k:Int) :: t1) ++ t) (w1 ++ w)
theorem uB.app {g:ao} {a t w:List Int} (h:uB g a t w) {b t' w':List Int} (k:uB g b t' w'):uB g (a ++ b) (t ++ t') (w ++ w'):=by
  induction h with
  | nil=>exact k
  | term s l t w h0 _ ih=>exact .term s _ _ _ h0 ih
  | dF s l k R t1 w1 t w h0 hR hl h1 _ _ ih =>
    have:=uB.dF s _ k R t1 w1 _ _ h0 hR hl h1 ih
    simpa using this
structure Wk where
  rest:List Int
  word:List Int
  post:List Int
  high:Nat
structure Way where
  dF:Int
  aF:Int
  place:Int
def j7 (F:List Way):List Int:=F.map Way.dF
structure qa (g:ao) (F:List Way):Prop where
  first:F[0]?=some ⟨g.start,-1,0⟩
  nodup:(j7 F).Nodup
  from_:∀ i x,F[i]?=some x→0 < i→∃ (k j:Nat) (R:aN),x.aF=(k:Int)∧x.place=(j:Int)∧g.rules[k]?=some R∧R.right[j]?=some (-1 - x.dF)∧0≤x.dF∧∃ m y,m < i∧F[m]?=some y∧y.dF=R.left
theorem qa.pre {g:ao} {F:List Way} (h:qa g F) {i m:Nat} {x:Way} (hx:F[i]?=some x) (w:Way):(F ++ [w])[i]?=some x:=by
  rw[List.getElem?_append_left (List.getElem?_eq_some_iff.1 hx).1]; exact hx
theorem qa.inside {g:ao} {F:List Way} (h:qa g F) (h0:0≤g.start∧g.start < g.aC.length) (hs:∀ R∈g.rules,∀ s∈R.right,s < 0→-1 - s < g.aC.length):∀ n∈j7 F,0≤n∧n < g.aC.length:=by
  intro n hn
  simp only[j7,List.mem_map] at hn
  obtain ⟨x,hx,rfl⟩:=hn
  obtain ⟨i,hi⟩:=List.mem_iff_getElem?.1 hx
  by_cases hi0:i=0
  · subst hi0
    rw[h.first] at hi
    simp at hi; subst hi
    exact h0
  · obtain ⟨k,j,R,_,_,h3,h4,h5,_⟩:=h.from_ i x hi (by omega)
    have:=hs R (List.mem_of_getElem? h3) _ (List.mem_of_getElem? h4) (by omega)
    omega
theorem qa.len {g:ao} {F:List Way} (h:qa g F) (h0:0≤g.start∧g.start < g.aC.length) (hs:∀ R∈g.rules,∀ s∈R.right,s < 0→-1 - s < g.aC.length):F.length≤g.aC.length:=by
  have:=nP h.nodup (h.inside h0 hs)
  simpa [j7] using this
def lookW (F:List Way) (n:Int):Option Way:=F.find? fun x=>x.dF == n
def C6 (F:List Way) (n:Int):Nat:=F.findIdx fun x=>x.dF == n
theorem Mw {F:List Way} {n:Int} (h:n∈j7 F):∃ x,lookW F n=some x∧F[C6 F n]?=some x∧x.dF=n:=by
  induction F with
  | nil=>simp[j7] at h
  | cons y F ih =>
    by_cases e:y.dF=n
    · exact ⟨y,by simp[lookW,e],by simp[C6,List.findIdx_cons,e],e⟩
    · have h':n∈j7 F:=by
        simp only[j7,List.map_cons,List.mem_cons] at h ⊢
        rcases h with h | h
        · exact absurd h.symm e
        · exact h
      obtain ⟨x,h1,h2,h3⟩:=ih h'
      refine ⟨x,by simpa [lookW,e] using h1,?_,h3⟩
      have:C6 (y :: F) n=C6 F n+1:=by simp[C6,List.findIdx_cons,show (y.dF == n)=false by simpa using e]
      rw[this]; simpa using h2
def OI (g:ao) (rest:List Int) (uw up:V):List V:=[.aP (g.aA.map cU),.aP (g.aC.map fun s=>[gs s]),.aP (g.rules.map bo),gi g.start,encI rest,uw,up]
def Nc (g:ao) (b:Nat) (rest W Po:List Int) (H:View):Prop:=∃ uw up,bq H [(.sl b 0 1 7,7,[OI g rest uw up]),(uw,1,du W),(up,1,du Po)]
def LB (g:ao) (b:Nat) (o:Option Wk) (W Po:List Int) (r:V) (H:View):Prop:=match o with
  | some x=>r=gi x.high∧Nc g b x.rest (W ++ x.word) (Po ++ x.post) H
  | none=>r=gi 0∧∃ rest W Po,rest.length≤300∧Nc g b rest W Po H
theorem LB.bad {g:ao} {b:Nat} {W Po W' Po' rest:List Int} {H:View} (hl:rest.length≤300) (h:Nc g b rest W' Po' H):LB g b none W Po (gi 0) H:=⟨rfl,rest,W',Po',hl,h⟩
theorem M8:qh.Ok:=by
  refine ⟨by unfold bc; decide,by unfold bc; decide,by unfold bc; decide,by unfold bB; decide,?_,?_⟩
  · intro t ht; simp[qh] at ht
  · intro r hr; simp[qh] at hr
theorem rW:∀ (l:List aN) (acc:List Int),(l.foldl dS acc).length≤acc.length+l.length
  | [],acc=>by simp
  | r :: l,acc=>by
    have h1:=rW l (dS acc r)
    have h2:(dS acc r).length≤acc.length+1:=by unfold dS; split <;> simp
    simp only[List.foldl_cons,List.length_cons]
    omega
theorem Ko (p q:List Bool) (l:List aN):(cK p q l).length≤l.length:=by
  have h1:=rW (l.filter (bI p q)) []
  have h2:=List.length_filter_le (bI p q) l
  unfold cK
  simp only[List.length_nil] at h1
  omega
theorem LY {g:ao} (hg:g.Ok) (p q:List Bool):(kg g (bK (cK p q g.rules)) p q).Ok:=by
  have ho:=Ko p q g.rules
  have h3:=hg.rules
  unfold bc at h3
  have hb:∀ x,bB (bK (cK p q g.rules) x):=fun x=>by
    have:=F2 (cK p q g.rules) x
    unfold bB; omega
  have hb2:∀ x,bB (-1 - bK (cK p q g.rules) x):=fun x=>by
    have:=F2 (cK p q g.rules) x
    unfold bB; omega
  refine ⟨hg.aA,?_,?_,hb _,hg.term,fun r hr=>?_⟩
  · unfold bc; simp only[kg,List.length_map]; omega
  · have:=List.length_filter_le (bI p q) g.rules
    unfold bc; simp only[kg,List.length_map]; omega
  · simp only[kg,List.mem_map,List.mem_filter] at hr
    obtain ⟨r0,⟨h0,_⟩,rfl⟩:=hr
    obtain ⟨_,i2,i3,i4⟩:=hg.aF r0 h0
    refine ⟨hb _,i2,by unfold bc at i3 ⊢; simpa [bA] using i3,fun x hx=>?_⟩
    simp only[bA,List.mem_map] at hx
    obtain ⟨s,hs,rfl⟩:=hx
    split
    · exact hb2 _
    · exact i4 s hs
section
variable {g r:ao} {p q:List Bool} {o:List Int}
theorem dP.ok (h:dP g p q o r) (hg:g.Ok):r.Ok:=by
  have:=LY hg p q
  rw[← h.oe,← h.re] at this
  exact this
theorem dP.small (h:dP g p q o r) (hs:g.Small):r.Small:=by
  have:=nP h.nodup h.inside
  have:=hs.names
  exact ⟨by rw[h.len,h.aA]; omega⟩
end
theorem bytes_beq (a b:ByteArray):(a == b)=decide (a=b):=by
  cases a with | mk a=>cases b with | mk b =>
  rw[Bool.eq_iff_iff]
  show (ByteArray.beq ⟨a⟩ ⟨b⟩=true)↔_
  simp only[ByteArray.beq]
  simp
theorem Ie (a b:ByteArray):gu a b=decide (a=b):=by
  cases a with | mk a=>cases b with | mk b =>
  rw[Bool.eq_iff_iff]
  simp[gu]
theorem vR {α:Type} {a b:List α} {i:Nat} {x y:α} (hx:a[i]?=some x) (hy:b[i]?=some y) (h:a.take i=b.take i) (e:x=y):a.take (i+1)=b.take (i+1):=by
  rw[List.take_add_one,List.take_add_one,h,hx,hy,e]
theorem yU {α:Type} {a b:List α} {i:Nat} (ha:a.length≤i) (hb:b.length≤i) (h:a.take i=b.take i):a=b:=by
  rwa [List.take_of_length_le ha,List.take_of_length_le hb] at h
theorem Ci {α:Type} {a b:List α} {i:Nat} {x y:α} (hx:a[i]?=some x) (hy:b[i]?=some y) (e:x≠y):a≠b:=by
  rintro rfl; rw[hx] at hy; exact e (by simpa using hy)
theorem yA {α:Type} {a b:List α} (h:¬ a.length=b.length):a≠b:=fun e=>h (by rw[e])
theorem EC (x y:Term):fw Tryz.prog 9998 #[.string x.name,.int .i64 x.level,.int .i64 x.assoc] #[.string y.name,.int .i64 y.level,.int .i64 y.assoc]
    [{ name:= "Name",type:=9,offset:=0,embedded:=false,tag:= "",pkgPath:= "",byteOffset:=0 },{ name:= "Level",type:=3,offset:=1,embedded:=false,tag:= "",pkgPath:= "",byteOffset:=16 },
        { name:= "Assoc",type:=3,offset:=2,embedded:=false,tag:= "",pkgPath:= "",byteOffset:=24 }] (x.name == y.name && (x.level == y.level && (x.assoc == y.assoc && true))) :=
  .str _ _ _ _ _ (by decide) Tryz.underlying9 rfl rfl (.int _ _ _ _ _ _ (by decide) Tryz.underlying3 rfl rfl (.int _ _ _ _ _ _ (by decide) Tryz.underlying3 rfl rfl .nil))
theorem Mp (x y:Term):(x.name == y.name && (x.level == y.level && (x.assoc == y.assoc && true)))=decide (x=y):=by
  rw[bytes_beq,Bool.eq_iff_iff]
  cases x; cases y
  simp
theorem Mf (a b:Int):(a == b)=decide (a=b):=by rw[Bool.eq_iff_iff]; simp
theorem KD (x y:aN):decide (x=y)=(decide (x.left=y.left) && (decide (x.prec=y.prec) && decide (x.right=y.right))):=by
  cases x; cases y
  rw[Bool.eq_iff_iff]
  simp[and_comm]
theorem La (x y:ao):decide (x=y)=(decide (x.aA=y.aA) && (decide (x.aC=y.aC) && (decide (x.rules=y.rules) && decide (x.start=y.start)))):=by
  cases x; cases y
  rw[Bool.eq_iff_iff]
  simp
theorem I5 (g k:ao):∀ v∈[V.agg (ax g),V.agg (ax k)],Tree v:=by
  intro v hv; simp at hv
  rcases hv with rfl | rfl <;> exact cg _ (c8 _)
end Gv
