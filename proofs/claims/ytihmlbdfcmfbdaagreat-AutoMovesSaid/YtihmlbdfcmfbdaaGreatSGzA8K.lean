/-
  Part 11 of the proof: what the machine does and what the functions answer.
  Conditions: those that each lemma names.
-/
import Derived.Test.YtihmlbdfcmfbdaaGreatSGzA8J
set_option linter.unusedSimpArgs false
set_option linter.unusedVariables false
set_option maxRecDepth 100000
namespace Gv
open Go Go.Proofs
def qn:SC :=
  .seq (al [aO 44 .lss 43 42]) <|
  .seq (.cond (.tmp 44) (.skip) (.exit 0)) <|
  .seq (.block 1 (.seq (al [aa 45 43,aZ 46 3 41 43,aH 47 3 46,((some 11),.op (.alloc [(.val (.int .i64 0)),(.emp 1),(.val (.int .i64 0))])),aa 10 45,(none,.op (.store 3 (.tmp 11) (.tmp 47)))]) <|
  .seq (.seq (.region false [⟨none,[aa 48 6,ao 49 0 11,aq 50 49,aZ 51 1 48 50,aq 52 51,cb 53 52,aa 54 53]⟩,⟨(some (54,false)),[aH 55 3 11,aa 56 5,aG 57 160 [55,56],cb 58 57]⟩,⟨none,[bF 59 54 58]⟩]) <|
  .cond (.tmp 59) (.exit 1) (.skip)) <|
  .seq (al [aa 60 7,aa 61 10,((some 62),.op (.bD 1 1 [(.val (.int .i64 0))] [(0,(.tmp 61))])),((some 63),.op (.app 1 8 (.tmp 60) (.tmp 62))),aa 7 63]) <|
  .seq (al [aa 65 9,ao 66 0 11,aq 67 66,((some 68),.op (.old (.lookup 204 (.tmp 65) (.tmp 67) true) 30)),aa 64 68,ct 69 0 64,ct 70 1 64,aa 12 69,aa 13 70]) <|
  .seq (al [aa 71 13,cb 72 71]) <|
  .cond (.tmp 72) (.seq (al [aa 73 9,ao 74 0 11,aq 75 74,ao 76 1 8,aq 77 76,aM 78 77,(none,.op (.old (.mapUpdate 204 (.tmp 73) (.tmp 75) (.tmp 78)) 0))]) <|
  .region false [⟨none,[ao 79 1 8,aq 80 79,ao 81 1 1,aq 82 81,ao 83 0 11,aq 84 83,aZ 85 1 82 84,aq 86 85,((some 87),.op (.bD 1 1 [(.val (.string ⟨#[]⟩))] [(0,(.tmp 86))])),((some 88),.op (.app 1 16 (.tmp 80) (.tmp 87))),ao 89 1 8,(none,.op (.store 1 (.tmp 89) (.tmp 88)))]⟩]) (.skip))) <|
  al [ax 90 .add 43 1,aa 43 90]
def qj:SC :=
  .seq (al [aO 116 .lss 115 114]) <|
  .seq (.cond (.tmp 116) (.skip) (.exit 4)) <|
  .seq (.block 5 (.seq (al [aa 117 115,aZ 118 1 113 115,aq 119 118,aa 18 117,aa 19 119]) <|
  .seq (al [aa 120 19,ax 121 .lss 120 0]) <|
  .cond (.tmp 121) (al [ao 122 1 17,aq 123 122,aa 124 18,aa 125 9,aa 126 19,((some 127),.op (.arith .sub (.val (.val (.int .i64 (-1)))) (.tmp 126))),((some 128),.op (.old (.lookup 204 (.tmp 125) (.tmp 127) false) 3)),((some 129),.op (.arith .sub (.val (.val (.int .i64 (-1)))) (.tmp 128))),aZ 130 1 123 124,(none,.op (.store 1 (.tmp 130) (.tmp 129)))]) (.skip))) <|
  al [ax 131 .add 115 1,aa 115 131]
def qy:SC :=
  .seq (al [aO 94 .lss 93 92]) <|
  .seq (.cond (.tmp 94) (.skip) (.exit 2)) <|
  .seq (.block 3 (.seq (al [aZ 95 1 91 93,aq 96 95,aa 15 96]) <|
  .seq (al [ao 97 2 1,aq 98 97,aa 99 15,aZ 100 3 98 99,aH 101 3 100,((some 16),.op (.alloc [(.val (.int .i64 0)),(.emp 1),(.val (.int .i64 0))])),(none,.op (.store 3 (.tmp 16) (.tmp 101)))]) <|
  .seq (.region true [⟨none,[aa 102 9,ao 103 0 16,aq 104 103,((some 105),.op (.old (.lookup 204 (.tmp 102) (.tmp 104) false) 3)),ao 106 1 16,aq 107 106,aG 108 161 [107],ao 109 2 16,aq 110 109,((some 111),.op (.build [(.val (.int .i64 0)),(.emp 1),(.val (.int .i64 0))] [(0,1,(.tmp 105)),(1,1,(.tmp 108)),(2,1,(.tmp 110))])),((some 17),.op (.alloc [(.val (.int .i64 0)),(.emp 1),(.val (.int .i64 0))])),(none,.op (.store 3 (.tmp 17) (.tmp 111)))]⟩]) <|
  .seq (.seq (al [ao 112 1 17,aq 113 112,aM 114 113,aF 115 0]) <|
  .block 4 (.loop qj)) <|
  al [ao 132 2 8,aq 133 132,aH 134 3 17,((some 135),.op (.bD 1 3 [(.val (.int .i64 0)),(.emp 1),(.val (.int .i64 0))] [(0,(.tmp 134))])),((some 136),.op (.app 3 40 (.tmp 133) (.tmp 135))),ao 137 2 8,(none,.op (.store 1 (.tmp 137) (.tmp 136)))])) <|
  al [ax 138 .add 93 1,aa 93 138]
def tN:SF:=⟨.seq (al [b6 1 0,((some 2),.op (.alloc [(.emp 1),(.emp 1),(.emp 1),(.val (.int .i64 0))])),((some 3),.op (.bj (.val (.emp 1)))),aF 4 0]) <|
  .seq (.seq (al [aH 20 4 1,aG 21 52 [20],cb 22 21]) <|
  .cond (.tmp 22) (.seq (al [((some 23),.op (.build [(.emp 1),(.emp 1),(.emp 1),(.val (.int .i64 0))] [])),(none,.op (.store 4 (.tmp 2) (.tmp 23))),((some 3),.op (.bj (.val (.emp 1)))),aF 4 1]) <|
  .ret) (.skip)) <|
  .seq (.region true [⟨none,[aH 24 4 1,aG 25 157 [24],aH 26 4 1,aG 27 158 [26],aa 5 25,aa 6 27]⟩]) <|
  .seq (.seq (al [aa 28 5,ao 29 3 1,aq 30 29,aZ 31 1 28 30,aq 32 31,cb 33 32]) <|
  .cond (.tmp 33) (.seq (al [((some 34),.op (.build [(.emp 1),(.emp 1),(.emp 1),(.val (.int .i64 0))] [])),(none,.op (.store 4 (.tmp 2) (.tmp 34))),((some 3),.op (.bj (.val (.emp 1)))),aF 4 9]) <|
  .ret) (.skip)) <|
  .seq (al [((some 7),.op (.bj (.val (.emp 1))))]) <|
  .seq (al [ao 35 0 1,aq 36 35,aG 37 159 [36],((some 38),.op (.build [(.emp 1),(.emp 1),(.emp 1),(.val (.int .i64 0))] [(0,1,(.tmp 37))])),((some 8),.op (.alloc [(.emp 1),(.emp 1),(.emp 1),(.val (.int .i64 0))])),(none,.op (.store 4 (.tmp 8) (.tmp 38)))]) <|
  .seq (al [((some 39),.op (.kX)),aa 9 39]) <|
  .seq (.seq (al [ao 40 2 1,aq 41 40,aM 42 41,aF 43 0]) <|
  .block 0 (.loop qn)) <|
  .seq (.seq (al [aa 91 7,aM 92 91,aF 93 0]) <|
  .block 2 (.loop qy)) <|
  .seq (al [aa 139 9,ao 140 3 1,aq 141 140,((some 142),.op (.old (.lookup 204 (.tmp 139) (.tmp 141) false) 3)),ao 143 3 8,(none,.op (.store 1 (.tmp 143) (.tmp 142)))]) <|
  .seq (al [aH 144 4 8,aa 145 7,(none,.op (.store 4 (.tmp 2) (.tmp 144))),aa 3 145,aF 4 0]) <|
  .ret,
  [.cell 2 (some 4),.tmp 3,.tmp 4],146⟩
theorem xy:bh Tryz.prog 109 [1]=some tN:=by kernel_rfl
abbrev vG (m:bY Int):List (V × V × Nat):=bL (Value.int .i64) m
def Ns (g:an) (p q:List Bool) (b2 b8 b9:Nat) (u0:V) (i:Nat) (T:Env) (H:View):Prop :=
  (∃ u1 u3:V,T 7=u3∧(∀ x∈cO p q (g.rules.take i),0≤x∧x < g.az.length)∧(cO p q (g.rules.take i)).length≤i ∧
    bf H [(.sl b8 0 1 4,4,[[u0,u1,.emp 1,gi 0]]),(u3,1,dA (dc p q (g.rules.take i) 0)),
      (u1,1,qp ((cO p q (g.rules.take i)).map fun x=>g.az.getD x.toNat ⟨#[]⟩)),(u0,3,g.av.map cX),(.sl b2 0 1 4,4,[[.emp 1,.emp 1,.emp 1,gi 0]])] ∧
    ∃ m c,H b9=.map (vG m) c∧ll gi (im (cO p q (g.rules.take i)) 0) m) ∧
  T 1=.aU (aw g) 0∧T 2=.ptr b2 0 0∧T 5=di p∧T 6=di q∧T 8=.ptr b8 0 0∧T 9=.mp b9∧T 41=.aK (g.rules.map bm)∧T 42=gi g.rules.length∧T 43=gi i
theorem AL {α:Type} {x s:α} : ∀ {a d:List α} {k:Nat},a.length=k→(a ++ s :: d).set k x=a ++ x :: d
  | [],d,k,h=>by simp at h; subst h; rfl
  | y :: a,d,k,h=>by
    cases k with
    | zero=>simp at h
    | succ k=>simp only[List.cons_append,List.set_cons_succ]; rw[AL (by simpa using h)]
def OK (g:an) (p q:List Bool) (b2 b8 b9:Nat) (u0 u1 u3:V) (o kl:List Int) (mm:bY Int) (cc:Nat) (i:Nat) (T:Env) (H:View):Prop :=
  (∃ (u2:V) (bs:yK),bs.map (·.2)=((g.rules.filter (bJ p q)).take i).map (bA (de o)) ∧
    bf H ((.sl b8 0 1 4,4,[[u0,u1,u2,gi 0]]) :: (u3,1,dA kl) ::
      (u1,1,qp (o.map fun x=>g.az.getD x.toNat ⟨#[]⟩)) :: (u0,3,g.av.map cX) :: (u2,3,js bs) :: (.sl b2 0 1 4,4,[[.emp 1,.emp 1,.emp 1,gi 0]]) :: rS bs) ∧
    H b9=.map (vG mm) cc) ∧
  T 1=.aU (aw g) 0∧T 2=.ptr b2 0 0∧T 7=u3∧T 8=.ptr b8 0 0∧T 9=.mp b9∧T 91=u3∧T 92=gi kl.length∧T 93=gi i
def OV (g:an) (b2 b8 b9 b16 b17:Nat) (u3 v:V) (o kl:List Int) (mm:bY Int) (cc:Nat) (r:aL) (L:List eJ) (i k:Nat) (T:Env) (H:View):Prop :=
  bf H ((.sl b17 0 1 3,3,[[gi (de o r.left),v,gi r.prec]]) :: (v,1,dA ((bA (de o) r).right.take k ++ r.right.drop k)) :: (.sl b16 0 1 3,3,[bm r]) :: L) ∧
  H b9=.map (vG mm) cc∧T 1=.aU (aw g) 0∧T 2=.ptr b2 0 0∧T 7=u3∧T 8=.ptr b8 0 0∧T 9=.mp b9∧T 91=u3∧T 92=gi kl.length∧T 93=gi i∧T 17=.ptr b17 0 0∧T 113=v∧T 114=gi r.right.length∧T 115=gi k
set_option maxHeartbeats 8000000 in
theorem EW (g:an) (hg:g.Ok) (hs:g.Small):dW Tryz.prog 109 [.agg (aw g)] (zV (if bt g=true then
    if (aI g true).getD g.start.toNat false=true then (ki g (de (cO (aI g true) (bH g) g.rules)) (aI g true) (bH g),dc (aI g true) (bH g) g.rules 0,0)
    else (p7,[],9)
  else (p7,[],1))):=by
  refine dW.of (iC g) ?_
  refine aA.of mixed xy ?_
  simp (disch:=omega) only [↓wr,↓reduceIte,wq,ah,ag,aj,ab,ae,af,ai,isNil,Nat.reduceEqDiff,Nat.reduceAdd,Nat.reduceLT,Nat.reduceLeDiff,Int.reduceNeg,Int.reduceToNat,reduceCtorEq,tN,aw,encS]
  intro b2
  try simp (disch:=omega) only [↓wr,↓reduceIte,wq,ah,ag,aj,ab,ae,af,ai,isNil,Nat.reduceEqDiff,Nat.reduceAdd,Nat.reduceLT,Nat.reduceLeDiff,Int.reduceNeg,Int.reduceToNat,reduceCtorEq,aw,encS]
  refine aE.pure (np g hg hs.names) (by kernel_rfl) ?_
  repeat' (first | (refine au.dec (fun _=>?_) (fun _=>?_)) | (refine au.eq (fun _=>?_) (fun _=>?_)) | (refine au.ne (fun _=>?_) (fun _=>?_)) | (refine au.split (fun _=>?_) (fun _=>?_)) | (simp (disch:=omega) only [↓wr,↓reduceIte,wq,ah,ag,aj,ab,ae,af,ai,isNil,Nat.reduceEqDiff,Nat.reduceAdd,Nat.reduceLT,Nat.reduceLeDiff,Int.reduceNeg,Int.reduceToNat,reduceCtorEq,aw,encS,set_set]))
  · rename_i hr
    rw[if_pos hr]
    refine aE.pure (rC g hg hs).pure (by kernel_rfl) ?_
    simp (disch:=omega) only [↓wr,↓reduceIte,wq,ah,ag,aj,ab,ae,af,ai,isNil,Nat.reduceEqDiff,Nat.reduceAdd,Nat.reduceLT,Nat.reduceLeDiff,Int.reduceNeg,Int.reduceToNat,reduceCtorEq,aw,encS]
    refine aE.pure (Cg g hg hs).pure (by kernel_rfl) ?_
    have hf:=bC hr
    have h3:=hf.ld
    have h4:=hf.start
    have hpl:=mO hr true
    have hql:=qO hr
    generalize aI g true=p at hpl ⊢
    generalize bH g=q at hql ⊢
    have hps:p[g.start.toNat]?=some (p[g.start.toNat]'(by omega)):=List.getElem?_eq_getElem (by omega)
    have hpd:p.getD g.start.toNat false=p[g.start.toNat]'(by omega):=by simp[List.getD_eq_getElem?_getD,hps]
    generalize p[g.start.toNat]'(by omega)=s at hps hpd
    rw[hpd]
    simp (disch:=omega) only [↓wr,↓reduceIte,wq,ah,ag,aj,ab,ae,af,ai,isNil,Nat.reduceEqDiff,Nat.reduceAdd,Nat.reduceLT,Nat.reduceLeDiff,Int.reduceNeg,Int.reduceToNat,reduceCtorEq,aw,encS,di,List.getElem?_map,hps]
    cases s with
    | false =>
      simp (disch:=omega) only [↓wr,↓reduceIte,wq,ah,ag,aj,ab,ae,af,ai,isNil,Nat.reduceEqDiff,Nat.reduceAdd,Nat.reduceLT,Nat.reduceLeDiff,Int.reduceNeg,Int.reduceToNat,reduceCtorEq,aw,encS,set_set]
      rintro h' hh
      exact DK
    | true =>
      simp (disch:=omega) only [↓wr,↓reduceIte,wq,ah,ag,aj,ab,ae,af,ai,isNil,Nat.reduceEqDiff,Nat.reduceAdd,Nat.reduceLT,Nat.reduceLeDiff,Int.reduceNeg,Int.reduceToNat,reduceCtorEq,aw,encS,set_set]
      have hN:=hf.az
      have hN1:=hf.zM
      have hT:=hf.av
      have hR:=hf.rules
      refine aE.gF ((Ig g.av (by omega) _).mono ?_)
      rintro u0 H1 ⟨hu0,hfr⟩
      have ho1:=(bf.nil.new (H:=fun _=>bI.dead) (n:=b2) rfl 4 [[.emp 1,.emp 1,.emp 1,gi 0]]).Ny hu0 hfr
      have c0:=ho1.head.cells
      have k0:=ho1.head.uV
      simp (disch:=omega) only [↓wr,↓reduceIte,wq,ah,ag,aj,ab,ae,af,ai,isNil,Nat.reduceEqDiff,Nat.reduceAdd,Nat.reduceLT,Nat.reduceLeDiff,Int.reduceNeg,Int.reduceToNat,reduceCtorEq,aw,encS,c0,k0]
      intro b8 hb8
      have ho2:=ho1.new hb8 4 [[u0,.emp 1,.emp 1,gi 0]]
      try simp (disch:=omega) only [↓wr,↓reduceIte,wq,ah,ag,aj,ab,ae,af,ai,isNil,Nat.reduceEqDiff,Nat.reduceAdd,Nat.reduceLT,Nat.reduceLeDiff,Int.reduceNeg,Int.reduceToNat,reduceCtorEq,aw,encS,c0,k0,set_set]
      intro b9 hb9
      have hb98:=(fA hb9 fW).1
      have hb9:=(fA (fA hb9 fW).2 fW).2
      have ho3:=(((ho2.fresh (n:=b9) (o:=.map [] 0) (by simp only[View.set,if_neg hb98]; exact hb9)).emp (k:=1) (sz:=1)).emp (k:=1) (sz:=1)).perm O1.symm
      try simp (disch:=omega) only [↓wr,↓reduceIte,wq,ah,ag,aj,ab,ae,af,ai,isNil,Nat.reduceEqDiff,Nat.reduceAdd,Nat.reduceLT,Nat.reduceLeDiff,Int.reduceNeg,Int.reduceToNat,reduceCtorEq,aw,encS,c0,k0,set_set]
      refine bK.up g.rules.length (Ns g p q b2 b8 b9 u0) ?_ ?_
      · refine ⟨⟨.emp 1,.emp 1,rfl,by simp[cO],by simp[cO],by rw[set_set]; exact ho3,[],0,by simp[View.set,bL],trivial⟩,rfl,rfl,rfl,rfl,rfl,rfl,rfl,rfl,rfl⟩
      clear ho1 ho2 ho3 hb8 hb9 hb98
      rintro i k T H2 hk ⟨⟨u1,u3,t7,hin,holen,ho,mm,cc,h9,hm9⟩,t1,t2,t5,t6,t8,t9,t41,t42,t43⟩
      simp (disch:=omega) only [↓wr,↓reduceIte,wq,ah,ag,aj,ab,ae,af,ai,isNil,Nat.reduceEqDiff,Nat.reduceAdd,Nat.reduceLT,Nat.reduceLeDiff,Int.reduceNeg,Int.reduceToNat,reduceCtorEq,qn,t1,t2,t5,t6,t7,t8,t9,t41,t42,t43,aw]
      refine au.dec (fun hc=>?_) (fun hc=>?_)
      · have hg2:g.rules[i]?=some (g.rules[i]'(by omega)):=List.getElem?_eq_getElem (by omega)
        have hmem:g.rules[i]'(by omega)∈g.rules:=List.getElem_mem _
        have htk:g.rules.take (i+1)=g.rules.take i ++ [g.rules[i]'(by omega)]:=by rw[List.take_add_one,hg2]; rfl
        generalize g.rules[i]'(by omega)=r at hg2 hmem htk
        obtain ⟨hl1,hl2,hl3,hr6,hsy⟩:=hf.zn hg hmem
        have hqs:q[r.left.toNat]?=some (q[r.left.toNat]'(by omega)):=List.getElem?_eq_getElem (by omega)
        have hqd:q.getD r.left.toNat false=q[r.left.toNat]'(by omega):=by simp[List.getD_eq_getElem?_getD,hqs]
        generalize q[r.left.toNat]'(by omega)=qs at hqs hqd
        simp (disch:=omega) only [↓wr,↓reduceIte,wq,ah,ag,aj,ab,ae,af,ai,isNil,Nat.reduceEqDiff,Nat.reduceAdd,Nat.reduceLT,Nat.reduceLeDiff,Int.reduceNeg,Int.reduceToNat,reduceCtorEq,t1,t2,t5,t6,t7,t8,t9,t41,t42,t43,bm,encI,List.getElem?_map,hg2]
        intro b11 hb11
        have hoA:=ho.new hb11 3 [bm r]
        have n911:b9≠b11:=by rintro rfl; rw[h9] at hb11; simp at hb11
        try simp (disch:=omega) only [↓wr,↓reduceIte,wq,ah,ag,aj,ab,ae,af,ai,isNil,Nat.reduceEqDiff,Nat.reduceAdd,Nat.reduceLT,Nat.reduceLeDiff,Int.reduceNeg,Int.reduceToNat,reduceCtorEq,t1,t2,t5,t6,t7,t8,t9,t41,t42,t43,bm,encI,di,List.getElem?_map,hqs,set_set]
        have hskip:∀ (T2:Env) (H':View),bJ p q r=false→H'=H2.set b11 (.arr 3 [bm r])→T2 7=u3→T2 1=.aU (aw g) 0→T2 2=.ptr b2 0 0→T2 5=di p→T2 6=di q→T2 8=.ptr b8 0 0→T2 9=.mp b9→T2 41=.aK (g.rules.map bm)→T2 42=gi g.rules.length→T2 43=gi ((i:Int)+1) →
            ∃ k',k' < k∧FA g.rules.length k' (Ns g p q b2 b8 b9 u0) T2 H':=by
          intro T2 H' hkr hH' a7 a1 a2 a5 a6 a8 a9 a41 a42 a43
          have e1:cO p q (g.rules.take (i+1))=cO p q (g.rules.take i):=by rw[htk,B2,if_neg (by simp[hkr])]
          have e2:dc p q (g.rules.take (i+1)) 0=dc p q (g.rules.take i) 0:=by rw[htk,o9]; simp[dc,hkr]
          refine bE hk (by omega) ⟨⟨u1,u3,a7,by rw[e1]; exact hin,by rw[e1]; omega,by rw[e1,e2,hH']; exact hoA.tail,mm,cc,by rw[hH']; simp[View.set,n911,h9],by rw[e1]; exact hm9⟩,a1,a2,a5,a6,a8,a9,a41,a42,by rw[a43]; rfl⟩
        cases qs with
        | false =>
          simp (disch:=omega) only [↓wr,↓reduceIte,wq,ah,ag,aj,ab,ae,af,ai,isNil,Nat.reduceEqDiff,Nat.reduceAdd,Nat.reduceLT,Nat.reduceLeDiff,Int.reduceNeg,Int.reduceToNat,reduceCtorEq,t1,t2,t5,t6,t7,t8,t9,t41,t42,t43]
          refine hskip _ _ (by rw[bJ,hqd]; rfl) ?_ ?_ ?_ ?_ ?_ ?_ ?_ ?_ ?_ ?_ ?_
          all_goals first | exact t7 | exact t1 | exact t2 | exact t5 | exact t6 | exact t8 | exact t9 | exact t41 | exact t42 | rfl | (rw[set_set]; rfl)
        | true =>
          simp (disch:=omega) only [↓wr,↓reduceIte,wq,ah,ag,aj,ab,ae,af,ai,isNil,Nat.reduceEqDiff,Nat.reduceAdd,Nat.reduceLT,Nat.reduceLeDiff,Int.reduceNeg,Int.reduceToNat,reduceCtorEq,t1,t2,t5,t6,t7,t8,t9,t41,t42,t43,bm,encI,di]
          refine aE.pure (uJ r p (hg.aD r hmem).2.2.1 (fun s hs'=>⟨(hsy s hs').1,fun h=>by rw[hpl]; exact (hsy s hs').2 h⟩)) (by kernel_rfl) ?_
          simp (disch:=omega) only [↓wr,↓reduceIte,wq,ah,ag,aj,ab,ae,af,ai,isNil,Nat.reduceEqDiff,Nat.reduceAdd,Nat.reduceLT,Nat.reduceLeDiff,Int.reduceNeg,Int.reduceToNat,reduceCtorEq,t1,t2,t5,t6,t7,t8,t9,t41,t42,t43]
          refine au.split (fun hal=>?_) (fun hal=>?_)
          · simp (disch:=omega) only [↓wr,↓reduceIte,wq,ah,ag,aj,ab,ae,af,ai,isNil,Nat.reduceEqDiff,Nat.reduceAdd,Nat.reduceLT,Nat.reduceLeDiff,Int.reduceNeg,Int.reduceToNat,reduceCtorEq,t1,t2,t5,t6,t7,t8,t9,t41,t42,t43]
            have hkr:bJ p q r=true:=by rw[bJ,hqd,hal]; rfl
            intro m hm
            try simp (disch:=omega) only [↓wr,↓reduceIte,wq,ah,ag,aj,ab,ae,af,ai,isNil,Nat.reduceEqDiff,Nat.reduceAdd,Nat.reduceLT,Nat.reduceLeDiff,Int.reduceNeg,Int.reduceToNat,reduceCtorEq,t1,t2,t5,t6,t7,t8,t9,t41,t42,t43,fP]
            have hm11:=(fA hm fW).1
            have hm:=(fA (fA hm fW).2 fW).2
            have hoB:=(hoA.fresh (n:=m) (o:=.arr 1 [[gi i]]) (by simp only[View.set,if_neg hm11]; exact hm)).at 2 (by simp)
            have n9m:b9≠m:=by rintro rfl; rw[h9] at hm; simp at hm
            have hkl:(dc p q (g.rules.take i) 0).length≤40:=by
              rw[qo]
              have h1:=List.length_filter_le (bJ p q) (g.rules.take i)
              have h2:(g.rules.take i).length≤i:=List.length_take_le _ _
              omega
            refine jM (by rw[set_set]; exact hoB) (by simp[aR]) (by unfold aW; simp at hkl ⊢; omega) (by unfold aW; simp at hkl ⊢; omega) ?_
            intro u3' H3 ho3 hleft
            have f11:=ho3.is 1 rfl (by simp)
            have f8:=ho3.is 2 rfl (by simp)
            have hleft':Left ((H2.set b11 (.arr 3 [bm r])).set m (.arr 1 [[gi i]])) H3 u3 u3':=by rw[set_set] at hleft; exact hleft
            have f9:H3 b9=.map (vG mm) cc:=hleft'.map (b:=b9) hoB.head (by simp[View.set,n911,n9m,h9])
            have hu1:cH u1=some (qp ((cO p q (g.rules.take i)).map fun x=>g.az.getD x.toNat ⟨#[]⟩)).length:=(ho3.own 3 rfl).len
            simp only[bm,encI] at f11
            have e2:dc p q (g.rules.take (i+1)) 0=dc p q (g.rules.take i) 0 ++ [(i:Int)]:=by
              rw[htk,o9]; simp[dc,hkr,show i≤g.rules.length by omega]
            have e1:cO p q (g.rules.take (i+1))=dV (cO p q (g.rules.take i)) r:=by rw[htk,B2,if_pos hkr]
            generalize cO p q (g.rules.take i)=o at *
            generalize dc p q (g.rules.take i) 0=kl at *
            simp (disch:=omega) only [↓wr,↓reduceIte,wq,ah,ag,aj,ab,ae,af,ai,isNil,Nat.reduceEqDiff,Nat.reduceAdd,Nat.reduceLT,Nat.reduceLeDiff,Int.reduceNeg,Int.reduceToNat,reduceCtorEq,t1,t2,t5,t6,t8,t9,t41,t42,t43,f11,f8]
            refine Me (kt:=3) (et:=3) (z:=gi 0) (by kernel_rfl) (by kernel_rfl) (jg .i64 Tryz.underlying3) (id:=b9) (c:=cc) (m:=mm) (k:=r.left) (by simp (disch:=omega) only [↓wr,↓reduceIte,wq,ah,ag,aj,ab,ae,af,ai,isNil,Nat.reduceEqDiff,Nat.reduceAdd,Nat.reduceLT,Nat.reduceLeDiff,Int.reduceNeg,Int.reduceToNat,reduceCtorEq,t9]) (by simp (disch:=omega) only [↓wr,↓reduceIte,wq,ah,ag,aj,ab,ae,af,ai,isNil,Nat.reduceEqDiff,Nat.reduceAdd,Nat.reduceLT,Nat.reduceLeDiff,Int.reduceNeg,Int.reduceToNat,reduceCtorEq]) f9 ?_
            rw[hm9.get,ql]
            have hob:o.length≤40:=by omega
            by_cases hx:r.left∈o
            · have e1':dV o r=o:=by rw[dV,if_pos hx]
              rw[if_pos hx]
              simp (disch:=omega) only [↓wr,↓reduceIte,wq,ah,ag,aj,ab,ae,af,ai,isNil,Nat.reduceEqDiff,Nat.reduceAdd,Nat.reduceLT,Nat.reduceLeDiff,Int.reduceNeg,Int.reduceToNat,reduceCtorEq,t1,t2,t5,t6,t8,t9,t41,t42,t43,Option.isSome_some]
              have ho4:=(((ho3.at 1 (by simp)).tail).perm (.swap _ _ _))
              refine bE hk (by omega) ⟨⟨u1,u3',rfl,by rw[e1,e1']; exact hin,by rw[e1,e1']; omega,?_,mm,cc,f9,by rw[e1,e1']; exact hm9⟩,t1,t2,t5,t6,t8,t9,t41,t42,rfl⟩
              rw[e1,e1',e2]
              simp only[List.map_append,List.map_cons,List.map_nil]
              exact ho4
            · have e1':dV o r=o ++ [r.left]:=by rw[dV,if_neg hx]
              rw[if_neg hx]
              have hgn:g.az[r.left.toNat]?=some (g.az[r.left.toNat]'(by omega)):=List.getElem?_eq_getElem (by omega)
              have hgnd:g.az.getD r.left.toNat ⟨#[]⟩=g.az[r.left.toNat]'(by omega):=by simp[List.getD_eq_getElem?_getD,hgn]
              generalize g.az[r.left.toNat]'(by omega)=nm at hgn hgnd
              simp (disch:=omega) only [↓wr,↓reduceIte,wq,ah,ag,aj,ab,ae,af,ai,isNil,Nat.reduceEqDiff,Nat.reduceAdd,Nat.reduceLT,Nat.reduceLeDiff,Int.reduceNeg,Int.reduceToNat,reduceCtorEq,t1,t2,t5,t6,t8,t9,t41,t42,t43,Option.isSome_none,f11,f8,hu1,List.length_map]
              refine sd (kt:=3) (et:=3) (by kernel_rfl) (jg .i64 Tryz.underlying3) (id:=b9) (c:=cc) (m:=mm) (k:=r.left) (v:=gi o.length) (by simp (disch:=omega) only [↓wr,↓reduceIte,wq,ah,ag,aj,ab,ae,af,ai,isNil,Nat.reduceEqDiff,Nat.reduceAdd,Nat.reduceLT,Nat.reduceLeDiff,Int.reduceNeg,Int.reduceToNat,reduceCtorEq,t9]) (by simp (disch:=omega) only [↓wr,↓reduceIte,wq,ah,ag,aj,ab,ae,af,ai,isNil,Nat.reduceEqDiff,Nat.reduceAdd,Nat.reduceLT,Nat.reduceLeDiff,Int.reduceNeg,Int.reduceToNat,reduceCtorEq]) (by simp (disch:=omega) only [↓wr,↓reduceIte,wq,ah,ag,aj,ab,ae,af,ai,isNil,Nat.reduceEqDiff,Nat.reduceAdd,Nat.reduceLT,Nat.reduceLeDiff,Int.reduceNeg,Int.reduceToNat,reduceCtorEq]) f9 ?_
              intro c'
              have n89:b8≠b9:=yM ho3 2 rfl f9
              have n119:b11≠b9:=yM ho3 1 rfl f9
              simp (disch:=omega) only [↓wr,↓reduceIte,wq,ah,ag,aj,ab,ae,af,ai,isNil,Nat.reduceEqDiff,Nat.reduceAdd,Nat.reduceLT,Nat.reduceLeDiff,Int.reduceNeg,Int.reduceToNat,reduceCtorEq,t1,t2,t5,t6,t8,t9,t41,t42,t43,f11,f8,n89,n119,aw,encS,List.getElem?_map,hgn]
              intro m2 hm2
              have hm29:=(fA hm2 (by simp)).1
              have hm2:=(fA hm2 (by simp)).2
              have ho5:=((ho3.vJ f9 (o:=.map (vG (bR r.left (gi o.length) cc mm)) c')).fresh (n:=m2) (o:=.arr 1 [[gs nm]]) (by simp only[View.set,if_neg hm29]; exact hm2)).at 3 (by simp)
              try simp (disch:=omega) only [↓wr,↓reduceIte,wq,ah,ag,aj,ab,ae,af,ai,isNil,Nat.reduceEqDiff,Nat.reduceAdd,Nat.reduceLT,Nat.reduceLeDiff,Int.reduceNeg,Int.reduceToNat,reduceCtorEq,t1,t2,t5,t6,t8,t9,t41,t42,t43,fP]
              refine jM ho5 (by simp[aR]) (by unfold aW; simp; omega) (by unfold aW; simp; omega) ?_
              intro u1' H5 ho6 hleft2
              have c1:=ho6.head.cells
              have k1:=ho6.head.uV
              have f8':=ho6.is 3 rfl (by simp)
              have f9':=hleft2.map (b:=b9) (es:=vG (bR r.left (gi o.length) cc mm)) (c:=c') ho5.head (by simp[View.set,Ne.symm hm29])
              have n89':b9≠b8:=n89.symm
              simp (disch:=omega) only [↓wr,↓reduceIte,wq,ah,ag,aj,ab,ae,af,ai,isNil,Nat.reduceEqDiff,Nat.reduceAdd,Nat.reduceLT,Nat.reduceLeDiff,Int.reduceNeg,Int.reduceToNat,reduceCtorEq,t1,t2,t5,t6,t8,t9,t41,t42,t43,f8',c1,k1]
              have ho7:=(ho6.at 3 (by simp)).put (es':=[[u0,u1',.emp 1,gi 0]]) rfl rfl
              have ho8:=(((ho7.at 3 (by simp)).tail).perm (.cons _ (.swap _ _ _)))
              refine bE hk (by omega) ⟨⟨u1',u3',rfl,?_,?_,?_,_,c',(by simp only[View.set,if_neg n89']; exact f9'),?_⟩,t1,t2,t5,t6,t8,t9,t41,t42,rfl⟩
              · rw[e1,e1']; intro x hx'; rcases List.mem_append.1 hx' with h | h
                · exact hin x h
                · simp at h; subst h; exact ⟨hl2,hl3⟩
              · rw[e1,e1']; simp; omega
              · rw[e1,e1',e2]
                simp only[List.map_append,List.map_cons,List.map_nil,hgnd]
                exact ho8
              · rw[e1,e1',yw,Int.zero_add,← BZ hx]
                exact hm9.put r.left (o.length:Int) cc
          · simp (disch:=omega) only [↓wr,↓reduceIte,wq,ah,ag,aj,ab,ae,af,ai,isNil,Nat.reduceEqDiff,Nat.reduceAdd,Nat.reduceLT,Nat.reduceLeDiff,Int.reduceNeg,Int.reduceToNat,reduceCtorEq,t1,t2,t5,t6,t7,t8,t9,t41,t42,t43]
            refine hskip _ _ (by rw[bJ,hqd,hal]; rfl) ?_ ?_ ?_ ?_ ?_ ?_ ?_ ?_ ?_ ?_ ?_
            all_goals first | exact t7 | exact t1 | exact t2 | exact t5 | exact t6 | exact t8 | exact t9 | exact t41 | exact t42 | rfl | (rw[set_set]; rfl)
      · rw[List.take_of_length_le (by omega)] at ho hin holen hm9
        have hkl40:(dc p q g.rules 0).length≤40:=by
          rw[qo]; have h1:=List.length_filter_le (bJ p q) g.rules; omega
        have hkg:=uu p q g.rules 0
        have hkln:=qo p q g.rules 0
        have hrg:ki g (de (cO p q g.rules)) p q=⟨g.av,(cO p q g.rules).map fun x=>g.az.getD x.toNat ⟨#[]⟩,(g.rules.filter (bJ p q)).map (bA (de (cO p q g.rules))),de (cO p q g.rules) g.start⟩:=rfl
        rw[hrg,if_pos rfl]
        clear hrg
        generalize cO p q g.rules=o at *
        generalize dc p q g.rules 0=kl at *
        have hob:o.length≤40:=by omega
        have hu3:cH u3=some (dA kl).length:=(ho.own 1 rfl).len
        simp (disch:=omega) only [↓wr,↓reduceIte,wq,ah,ag,aj,ab,ae,af,ai,isNil,Nat.reduceEqDiff,Nat.reduceAdd,Nat.reduceLT,Nat.reduceLeDiff,Int.reduceNeg,Int.reduceToNat,reduceCtorEq,t1,t2,t5,t6,t7,t8,t9,hu3,List.length_map]
        refine bK.up kl.length (OK g p q b2 b8 b9 u0 u1 u3 o kl mm cc) ?_ ?_
        · refine ⟨⟨.emp 1,[],by simp,?_,h9⟩,t1,t2,t7,t8,t9,t7,rfl,rfl⟩
          exact (ho.emp (k:=1) (sz:=3)).perm (vT [(.sl b8 0 1 4,4,[[u0,u1,.emp 1,gi 0]]),(u3,1,dA kl),(u1,1,qp (o.map fun x=>g.az.getD x.toNat ⟨#[]⟩)),(u0,3,g.av.map cX),(.emp 1,3,[]),(.sl b2 0 1 4,4,[[.emp 1,.emp 1,.emp 1,gi 0]])] 4 (by simp)).symm
        clear ho h9 t1 t2 t5 t6 t7 t8 t9 t41 t42 t43
        rintro i k T H2 hk ⟨⟨u2,bs,hbs,ho,h9⟩,t1,t2,t7,t8,t9,t91,t92,t93⟩
        simp (disch:=omega) only [↓wr,↓reduceIte,wq,ah,ag,aj,ab,ae,af,ai,isNil,Nat.reduceEqDiff,Nat.reduceAdd,Nat.reduceLT,Nat.reduceLeDiff,Int.reduceNeg,Int.reduceToNat,reduceCtorEq,qy,t1,t2,t7,t8,t9,t91,t92,t93]
        refine au.dec (fun hc=>?_) (fun hc=>?_)
        · obtain ⟨n3,e3,hn3⟩:=(ho.own 1 rfl).sl (by simp; omega)
          rw[List.length_map] at e3
          subst e3
          obtain ⟨m,hm1,hm2,hm3⟩:=hkg i (by omega)
          have hbg:=De (show i < kl.length by omega)
          rw[Int.zero_add] at hm1
          have hki:kl[i]'(by omega)=(m:Int):=by
            rw[List.getElem?_eq_getElem (show i < kl.length by omega)] at hm1; simpa using hm1
          rw[hki] at hbg
          have hg2:g.rules[m]?=some (g.rules[m]'hm3):=List.getElem?_eq_getElem hm3
          have hmem:g.rules[m]'hm3∈g.rules:=List.getElem_mem _
          have htk:(g.rules.filter (bJ p q)).take (i+1)=(g.rules.filter (bJ p q)).take i ++ [g.rules[m]'hm3]:=by
            rw[List.take_add_one,← hm2,hg2]; rfl
          generalize g.rules[m]'hm3=r at hg2 hmem htk
          obtain ⟨hl1,hl2,hl3,hr6,hsy⟩:=hf.zn hg hmem
          simp (disch:=omega) only [↓wr,↓reduceIte,wq,ah,ag,aj,ab,ae,af,ai,isNil,Nat.reduceEqDiff,Nat.reduceAdd,Nat.reduceLT,Nat.reduceLeDiff,Int.reduceNeg,Int.reduceToNat,reduceCtorEq,t1,t2,t7,t8,t9,t91,t92,t93,hn3,hbg,List.length_map,aw,bm,encI,List.getElem?_map,hg2]
          refine ⟨by omega,by omega,?_⟩
          intro b16 hb16
          have hoA:=ho.new hb16 3 [bm r]
          have n916:b9≠b16:=by rintro rfl; rw[h9] at hb16; simp at hb16
          try simp (disch:=omega) only [↓wr,↓reduceIte,wq,ah,ag,aj,ab,ae,af,ai,isNil,Nat.reduceEqDiff,Nat.reduceAdd,Nat.reduceLT,Nat.reduceLeDiff,Int.reduceNeg,Int.reduceToNat,reduceCtorEq,t1,t2,t7,t8,t9,t91,t92,t93,set_set]
          refine vU (kt:=3) (et:=3) (z:=gi 0) (by kernel_rfl) (by kernel_rfl) (jg .i64 Tryz.underlying3) (id:=b9) (c:=cc) (m:=mm) (k:=r.left) (by simp (disch:=omega) only [↓wr,↓reduceIte,wq,ah,ag,aj,ab,ae,af,ai,isNil,Nat.reduceEqDiff,Nat.reduceAdd,Nat.reduceLT,Nat.reduceLeDiff,Int.reduceNeg,Int.reduceToNat,reduceCtorEq,t9]) (by simp (disch:=omega) only [↓wr,↓reduceIte,wq,ah,ag,aj,ab,ae,af,ai,isNil,Nat.reduceEqDiff,Nat.reduceAdd,Nat.reduceLT,Nat.reduceLeDiff,Int.reduceNeg,Int.reduceToNat,reduceCtorEq]) (by simp[View.set,n916,h9]) ?_
          have hgt:∀ x,(getM mm x).getD (gi 0)=gi (de o x):=fun x=>by
            rw[hm9.get,de]; cases dt (im o 0) x <;> rfl
          rw[hgt]
          simp (disch:=omega) only [↓wr,↓reduceIte,wq,ah,ag,aj,ab,ae,af,ai,isNil,Nat.reduceEqDiff,Nat.reduceAdd,Nat.reduceLT,Nat.reduceLeDiff,Int.reduceNeg,Int.reduceToNat,reduceCtorEq,t1,t2,t7,t8,t9,t91,t92,t93]
          refine aE.Fq (Jp r.right (by omega) _) ?_
          intro v H3 hv hfr
          have hoB:=bf.Ny (H:=H2.set b16 (.arr 3 [bm r])) hoA hv (by rw[set_set] at hfr; exact hfr)
          have h9B:H3 b9=.map (vG mm) cc:=by
            rw[(hfr b9 (by simp[View.set,n916,h9])).1]; simp[View.set,n916,h9]
          have cv:=hv.cells
          have kv:=hv.uV
          have lv:=hv.len
          have f16:=hoB.is 1 rfl (by simp)
          simp only[bm,encI] at f16
          simp (disch:=omega) only [↓wr,↓reduceIte,wq,ah,ag,aj,ab,ae,af,ai,isNil,Nat.reduceEqDiff,Nat.reduceAdd,Nat.reduceLT,Nat.reduceLeDiff,Int.reduceNeg,Int.reduceToNat,reduceCtorEq,t1,t2,t7,t8,t9,t91,t92,t93,f16,cv,kv]
          intro b17 hb17
          have hoC:=hoB.new hb17 3 [[gi (de o r.left),v,gi r.prec]]
          have n917:b9≠b17:=by rintro rfl; rw[h9B] at hb17; simp at hb17
          try simp (disch:=omega) only [↓wr,↓reduceIte,wq,ah,ag,aj,ab,ae,af,ai,isNil,Nat.reduceEqDiff,Nat.reduceAdd,Nat.reduceLT,Nat.reduceLeDiff,Int.reduceNeg,Int.reduceToNat,reduceCtorEq,t1,t2,t7,t8,t9,t91,t92,t93,cv,kv,lv,set_set,List.length_map]
          generalize hL:((V.sl b8 0 1 4,4,[[u0,u1,u2,gi 0]]) :: (V.sl n3 0 kl.length 1,1,dA kl) ::
              (u1,1,qp (o.map fun x=>g.az.getD x.toNat ⟨#[]⟩)) :: (u0,3,g.av.map cX) :: (u2,3,js bs) :: (V.sl b2 0 1 4,4,[[V.emp 1,V.emp 1,V.emp 1,gi 0]]) :: rS bs:List eJ)=L at hoC
          refine bK.up r.right.length (OV g b2 b8 b9 b16 b17 (.sl n3 0 kl.length 1) v o kl mm cc r L i) ?_ ?_
          · exact ⟨by rw[set_set]; exact hoC,by simp[View.set,n917,h9B],t1,t2,t7,t8,t9,t91,t92,t93,rfl,rfl,rfl,rfl⟩
          clear hoA hoB hoC hb16 hb17 h9 h9B f16 hv hfr t1 t2 t7 t8 t9 t91 t92 t93
          rintro k k2 T H3 hk2 ⟨hoC,h9,t1,t2,t7,t8,t9,t91,t92,t93,t17,t113,t114,t115⟩
          have f17:=hoC.is 0 rfl (by simp)
          simp (disch:=omega) only [↓wr,↓reduceIte,wq,ah,ag,aj,ab,ae,af,ai,isNil,Nat.reduceEqDiff,Nat.reduceAdd,Nat.reduceLT,Nat.reduceLeDiff,Int.reduceNeg,Int.reduceToNat,reduceCtorEq,qj,t1,t2,t7,t8,t9,t91,t92,t93,t17,t113,t114,t115]
          refine au.dec (fun hcc=>?_) (fun hcc=>?_)
          · have hgs:r.right[k]?=some (r.right[k]'(by omega)):=List.getElem?_eq_getElem (by omega)
            have hms:r.right[k]'(by omega)∈r.right:=List.getElem_mem _
            have hrl:(bA (de o) r).right.length=r.right.length:=by simp[bA]
            have hts:(bA (de o) r).right.take (k+1)=(bA (de o) r).right.take k ++ [if r.right[k]'(by omega) < 0 then -1 - de o (-1 - r.right[k]'(by omega)) else r.right[k]'(by omega)]:=by
              rw[List.take_add_one]; simp[bA,hgs]
            have hdr:=fv (show k < r.right.length by omega)
            generalize r.right[k]'(by omega)=s at hgs hms hts hdr
            obtain ⟨⟨s1,s2⟩,s3⟩:=hsy s hms
            have hbd:=MU o (-1 - s)
            rw[hdr] at hoC
            have hlen:(((bA (de o) r).right.take k ++ s :: r.right.drop (k+1)).map fun x=>[gi x]).length=r.right.length:=by simp; omega
            obtain ⟨nv,ev,hnv⟩:=(hoC.own 1 rfl).sl (by rw[hlen]; omega)
            rw[hlen] at ev
            subst ev
            have hlt:k < ((bA (de o) r).right.take k ++ s :: r.right.drop (k+1)).length:=by simp; omega
            have hbg2:=De hlt
            have hel:((bA (de o) r).right.take k ++ s :: r.right.drop (k+1))[k]'hlt=s:=by
              rw[List.getElem_append_right (by simp; omega)]
              simp[show k - min k r.right.length=0 by omega,hrl]
            rw[hel] at hbg2
            simp (disch:=omega) only [↓wr,↓reduceIte,wq,ah,ag,aj,ab,ae,af,ai,isNil,Nat.reduceEqDiff,Nat.reduceAdd,Nat.reduceLT,Nat.reduceLeDiff,Int.reduceNeg,Int.reduceToNat,reduceCtorEq,t1,t2,t7,t8,t9,t91,t92,t93,t17,t113,t114,t115,hnv,hbg2,List.length_map]
            refine ⟨by omega,hlt,?_⟩
            have hlk:((bA (de o) r).right.take k).length=k:=by rw[List.length_take]; omega
            have nv9:nv≠b9:=yM hoC 1 rfl h9
            refine au.dec (fun hneg=>?_) (fun hneg=>?_)
            · rw[if_pos hneg] at hts
              simp (disch:=omega) only [↓wr,↓reduceIte,wq,ah,ag,aj,ab,ae,af,ai,isNil,Nat.reduceEqDiff,Nat.reduceAdd,Nat.reduceLT,Nat.reduceLeDiff,Int.reduceNeg,Int.reduceToNat,reduceCtorEq,t1,t2,t7,t8,t9,t91,t92,t93,t17,t113,t114,t115,f17]
              refine vU (kt:=3) (et:=3) (z:=gi 0) (by kernel_rfl) (by kernel_rfl) (jg .i64 Tryz.underlying3) (id:=b9) (c:=cc) (m:=mm) (k:=-1 - s) (by simp (disch:=omega) only [↓wr,↓reduceIte,wq,ah,ag,aj,ab,ae,af,ai,isNil,Nat.reduceEqDiff,Nat.reduceAdd,Nat.reduceLT,Nat.reduceLeDiff,Int.reduceNeg,Int.reduceToNat,reduceCtorEq,t9]) (by simp (disch:=omega) only [↓wr,↓reduceIte,wq,ah,ag,aj,ab,ae,af,ai,isNil,Nat.reduceEqDiff,Nat.reduceAdd,Nat.reduceLT,Nat.reduceLeDiff,Int.reduceNeg,Int.reduceToNat,reduceCtorEq]) h9 ?_
              rw[hgt]
              simp (disch:=omega) only [↓wr,↓reduceIte,wq,ah,ag,aj,ab,ae,af,ai,isNil,Nat.reduceEqDiff,Nat.reduceAdd,Nat.reduceLT,Nat.reduceLeDiff,Int.reduceNeg,Int.reduceToNat,reduceCtorEq,t1,t2,t7,t8,t9,t91,t92,t93,t17,t113,t114,t115,f17,hnv,hbg2,List.length_map]
              refine ⟨by omega,hlt,?_⟩
              have hoD:=((hoC.at 1 (by simp)).put (es':=((((bA (de o) r).right.take k ++ s :: r.right.drop (k+1)).map fun x=>[gi x]).set k [gi (-1 - de o (-1 - s))])) (by simp) (by rw[hlen])).perm (.swap _ _ _)
              refine bE hk2 (by omega) ⟨?_,by simp only[View.set,if_neg nv9.symm]; exact h9,t1,t2,t7,t8,t9,t91,t92,t93,t17,t113,t114,rfl⟩
              rw[ints_set,AL hlk] at hoD
              rw[hts,List.append_assoc]
              rw[ints_set,AL hlk]
              exact hoD
            · rw[if_neg hneg] at hts
              simp (disch:=omega) only [↓wr,↓reduceIte,wq,ah,ag,aj,ab,ae,af,ai,isNil,Nat.reduceEqDiff,Nat.reduceAdd,Nat.reduceLT,Nat.reduceLeDiff,Int.reduceNeg,Int.reduceToNat,reduceCtorEq,t1,t2,t7,t8,t9,t91,t92,t93,t17,t113,t114,t115]
              refine bE hk2 (by omega) ⟨?_,h9,t1,t2,t7,t8,t9,t91,t92,t93,t17,t113,t114,rfl⟩
              rw[hts,List.append_assoc]
              exact hoC
          · rw[List.take_of_length_le (by simp[bA]; omega),List.drop_eq_nil_of_le (by omega),List.append_nil] at hoC
            subst hL
            have f8:=hoC.is 3 rfl (by simp)
            have cv:=(hoC.own 1 rfl).cells
            have kv:=(hoC.own 1 rfl).uV
            have hbl:(js bs).length≤40:=by
              have h1:=congrArg List.length hbs
              simp only[List.length_map,List.length_take] at h1
              simp only[js,List.length_map]
              omega
            simp (disch:=omega) only [↓wr,↓reduceIte,wq,ah,ag,aj,ab,ae,af,ai,isNil,Nat.reduceEqDiff,Nat.reduceAdd,Nat.reduceLT,Nat.reduceLeDiff,Int.reduceNeg,Int.reduceToNat,reduceCtorEq,t1,t2,t7,t8,t9,t91,t92,t93,t17,t113,t114,t115,f8,f17,cv,kv]
            intro m hm
            have n9m:b9≠m:=by rintro rfl; rw[h9] at hm; simp at hm
            try simp (disch:=omega) only [↓wr,↓reduceIte,wq,ah,ag,aj,ab,ae,af,ai,isNil,Nat.reduceEqDiff,Nat.reduceAdd,Nat.reduceLT,Nat.reduceLeDiff,Int.reduceNeg,Int.reduceToNat,reduceCtorEq,t1,t2,t7,t8,t9,t91,t92,t93,t17,fP]
            have hoD:=(hoC.fresh (o:=.arr 3 [[gi (de o r.left),v,gi r.prec]]) hm).at 7 (by simp)
            refine jM hoD (by simp[AG,kv]) (by unfold aW; simp at hbl ⊢; omega) (by unfold aW; simp at hbl ⊢; omega) ?_
            intro u2' H4 hoE hleft
            have cu:=hoE.head.cells
            have ku:=hoE.head.uV
            have f8':=hoE.is 4 rfl (by simp)
            have h9':H4 b9=.map (vG mm) cc:=hleft.map (b:=b9) hoD.head (by simp[View.set,n9m,h9])
            have n98:b9≠b8:=(yM hoE 4 rfl h9').symm
            simp (disch:=omega) only [↓wr,↓reduceIte,wq,ah,ag,aj,ab,ae,af,ai,isNil,Nat.reduceEqDiff,Nat.reduceAdd,Nat.reduceLT,Nat.reduceLeDiff,Int.reduceNeg,Int.reduceToNat,reduceCtorEq,t1,t2,t7,t8,t9,t91,t92,t93,t17,f8',cu,ku]
            have hoF:=(hoE.at 4 (by simp)).put (es':=[[u0,u1,u2',gi 0]]) rfl rfl
            have hoG:=((((hoF.at 2 (by simp)).tail).at 3 (by simp)).tail)
            refine bE hk (by omega) ⟨⟨u2',bs ++ [(v,bA (de o) r)],?_,?_,by simp only[View.set,if_neg n98]; exact h9'⟩,t1,t2,t7,t8,t9,t91,t92,rfl⟩
            · rw[List.map_append,hbs,htk,List.map_append]; rfl
            · refine hoG.perm (.cons _ ?_)
              simp only[rS,js,List.map_append,List.map_cons,List.map_nil]
              refine .trans ?_ (vT _ 3 (by simp)).symm
              refine .cons _ ?_
              exact (List.perm_append_singleton (v,1,dA (bA (de o) r).right) ((.sl n3 0 kl.length 1,1,dA kl) :: (u1,1,qp (o.map fun x=>g.az.getD x.toNat ⟨#[]⟩)) :: (u0,3,g.av.map cX) :: (.sl b2 0 1 4,4,[[.emp 1,.emp 1,.emp 1,gi 0]]) :: rS bs)).symm
        · rw[List.take_of_length_le (by omega)] at hbs
          have f8:=ho.is 0 rfl (by simp)
          have f2:=ho.is 5 rfl (by simp)
          have n82:b8≠b2:=ho.Py 0 5 rfl rfl (by omega)
          have c1:=(ho.own 2 rfl).cells
          have k1:=(ho.own 2 rfl).uV
          have c2:=(ho.own 4 rfl).cells
          have k2:=(ho.own 4 rfl).uV
          have hgt:∀ x,(getM mm x).getD (gi 0)=gi (de o x):=fun x=>by
            rw[hm9.get,de]; cases dt (im o 0) x <;> rfl
          simp (disch:=omega) only [↓wr,↓reduceIte,wq,ah,ag,aj,ab,ae,af,ai,isNil,Nat.reduceEqDiff,Nat.reduceAdd,Nat.reduceLT,Nat.reduceLeDiff,Int.reduceNeg,Int.reduceToNat,reduceCtorEq,t1,t2,t7,t8,t9,t91,t92,t93,aw]
          refine vU (kt:=3) (et:=3) (z:=gi 0) (by kernel_rfl) (by kernel_rfl) (jg .i64 Tryz.underlying3) (id:=b9) (c:=cc) (m:=mm) (k:=g.start) (by simp (disch:=omega) only [↓wr,↓reduceIte,wq,ah,ag,aj,ab,ae,af,ai,isNil,Nat.reduceEqDiff,Nat.reduceAdd,Nat.reduceLT,Nat.reduceLeDiff,Int.reduceNeg,Int.reduceToNat,reduceCtorEq,t9]) (by simp (disch:=omega) only [↓wr,↓reduceIte,wq,ah,ag,aj,ab,ae,af,ai,isNil,Nat.reduceEqDiff,Nat.reduceAdd,Nat.reduceLT,Nat.reduceLeDiff,Int.reduceNeg,Int.reduceToNat,reduceCtorEq]) h9 ?_
          rw[hgt]
          simp (disch:=omega) only [↓wr,↓reduceIte,wq,ah,ag,aj,ab,ae,af,ai,isNil,Nat.reduceEqDiff,Nat.reduceAdd,Nat.reduceLT,Nat.reduceLeDiff,Int.reduceNeg,Int.reduceToNat,reduceCtorEq,t1,t2,t7,t8,t9,t91,t92,t93,f8,f2,n82,n82.symm,c0,k0,c1,k1,c2,k2]
          intro h' hh
          have hoA:=ho.put (es':=[[u0,u1,u2,gi (de o g.start)]]) rfl rfl
          have hoB:=(hoA.at 5 (by simp)).put (es':=[[u0,u1,u2,gi (de o g.start)]]) rfl rfl
          have hv:h'.view=(H2.set b8 (.arr 4 [[u0,u1,u2,gi (de o g.start)]])).set b2 (.arr 4 [[u0,u1,u2,gi (de o g.start)]]):=hh
          rw[← hv] at hoB
          exact MM (x:=(⟨g.av,o.map fun x=>g.az.getD x.toNat ⟨#[]⟩,(g.rules.filter (bJ p q)).map (bA (de o)),de o g.start⟩,kl,0)) (b:=bs) (hoB.own 4 rfl) (hoB.own 3 rfl) (hoB.own 5 rfl) (fun y hy=>hoB.1 y (by
            refine List.mem_cons_of_mem _ (List.mem_cons_of_mem _ (List.mem_cons_of_mem _ (List.mem_cons_of_mem _ (List.mem_cons_of_mem _ (List.mem_cons_of_mem _ ?_)))))
            exact hy)) hbs (hoB.own 2 rfl)
  · rename_i hr
    intro h' hh
    rw[if_neg (by simp[hr])]
    exact DK
theorem Gd {l:List Int} {a b:List Bool} {t:Bool} (h:fF a b) (k:fC l a t=true):fC l b t=true:=by
  simp only[fC,List.all_eq_true] at k ⊢
  intro s hs
  have:=k s hs
  by_cases h0:0≤s
  · rw[if_pos h0] at this ⊢; exact this
  · rw[if_neg h0] at this ⊢; exact h.2 _ this
theorem fF.GR {a b:List Bool} (h:fF a b) (k:fF b a):a=b:=by
  have h1:=h.dS
  have h2:=k.dS
  exact h1.2 (by omega)
def lz (g:an) (t:Bool) (is:List Bool):Prop:=∀ i,is.getD i false=true→∃ r∈g.rules,r.left.toNat=i∧fC r.right is t=true
theorem lz.step {g:an} {t:Bool} {is:List Bool} {r:aL} (h:lz g t is) (hr:r∈g.rules):lz g t (eo t is r):=by
  have hle:fF is (eo t is r):=by
    unfold eo
    split
    · exact .set _ _
    · exact .refl _
  intro i hi
  by_cases e:is.getD i false=true
  · obtain ⟨r',h1,h2,h3⟩:=h i e
    exact ⟨r',h1,h2,Gd hle h3⟩
  · unfold eo at hi
    by_cases ha:fC r.right is t=true
    · rw[if_pos ha] at hi
      have:r.left.toNat=i:=by
        refine Classical.byContradiction fun hne=>e ?_
        simp only[List.getD_eq_getElem?_getD,List.getElem?_set,if_neg hne] at hi ⊢
        exact hi
      exact ⟨r,hr,this,Gd hle ha⟩
    · rw[if_neg ha] at hi; exact absurd hi e
theorem lz.fold {g:an} {t:Bool} : ∀ (l:List aL) (is:List Bool),(∀ r∈l,r∈g.rules)→lz g t is→lz g t (l.foldl (eo t) is)
  | [],is,_,h=>h
  | r :: l,is,hl,h=>lz.fold l _ (fun x hx=>hl x (by simp[hx])) (h.step (hl r (by simp)))
theorem lz.iter {g:an} {t:Bool} : ∀ (n:Nat) (is:List Bool),lz g t is→lz g t (iter (mM g t) n is)
  | 0,_,h=>h
  | n+1,is,h=>lz.iter n _ (lz.fold g.rules is (fun _ h=>h) h)
theorem GQ (g:an) (t:Bool):lz g t (aI g t):=by
  unfold aI
  split
  · refine lz.iter _ _ ?_
    intro i hi
    simp only[cW,List.getD_eq_getElem?_getD,List.getElem?_replicate] at hi
    split at hi <;> simp at hi
  · intro i hi; simp at hi
theorem Gh (is:List Bool) (s:Int):fF is (mark is s):=by
  unfold mark
  split
  · exact .set _ _
  · exact .refl _
theorem xF:∀ (l:List Int) (is:List Bool),fF is (l.foldl mark is)
  | [],is=>.refl _
  | s :: l,is=>(Gh is s).trans (xF l _)
theorem D1 (p is:List Bool) (r:aL):fF is (iU p is r):=by
  unfold iU
  split
  · exact xF _ _
  · exact .refl _
theorem D3 (p:List Bool):∀ (l:List aL) (is:List Bool),fF is (l.foldl (iU p) is)
  | [],is=>.refl _
  | r :: l,is=>(D1 p is r).trans (D3 p l _)
theorem BM {p:List Bool} : ∀ {l:List aL} {is:List Bool},l.foldl (iU p) is=is→∀ r∈l,iU p is r=is
  | [],_,_,_,h=>by simp at h
  | r :: l,is,h,x,hx=>by
    rw[List.foldl_cons] at h
    have h1:=D3 p l (iU p is r)
    rw[h] at h1
    have h2:=(h1.GR (D1 p is r))
    rcases List.mem_cons.1 hx with rfl | hx
    · exact h2
    · rw[h2] at h; exact BM h x hx
theorem BH:∀ {l:List Int} {is:List Bool},l.foldl mark is=is→∀ s∈l,mark is s=is
  | [],_,_,_,h=>by simp at h
  | r :: l,is,h,x,hx=>by
    rw[List.foldl_cons] at h
    have h1:=xF l (mark is r)
    rw[h] at h1
    have h2:=(h1.GR (Gh is r))
    rcases List.mem_cons.1 hx with rfl | hx
    · exact h2
    · rw[h2] at h; exact BH h x hx
theorem BD {g:an} (hr:bt g=true):rO g (aI g true) (bH g)=bH g∧fF ((cW g).set g.start.toNat true) (bH g):=by
  have hf:=bC hr
  have h:=pZ (pN (aI g true)) g.rules 16 ((cW g).set g.start.toNat true) (by have:=hf.az; simp[cW]; omega)
  rw[Fj,IQ hr] at h
  exact h
theorem xh {g:an} (hr:bt g=true):(bH g).getD g.start.toNat false=true:=by
  have hf:=bC hr
  refine (BD hr).2.2 _ ?_
  have h3:=hf.ld
  have h4:=hf.start
  simp only[List.getD_eq_getElem?_getD]
  rw[List.getElem?_set_self (by simp[cW]; omega)]
  rfl
theorem zi {g:an} (hr:bt g=true) {r:aL} (hm:r∈g.rules) (hk:bJ (aI g true) (bH g) r=true) {s:Int} (hs:s∈r.right) (hn:s < 0):(bH g).getD (-1 - s).toNat false=true:=by
  have hf:=bC hr
  have h1:=BM (BD hr).1 r hm
  unfold iU at h1
  rw[bJ] at hk
  rw[if_pos hk] at h1
  have h2:=BH h1 s hs
  unfold mark at h2
  rw[if_pos hn] at h2
  rw[← h2]
  have hl:=qO hr
  have:=hf.neg hm hs hn
  simp only[List.getD_eq_getElem?_getD]
  rw[List.getElem?_set_self (by omega)]
  rfl
theorem Kt {g:an} (hr:bt g=true) {x:Int} (h0:0≤x) (hp:(aI g true).getD x.toNat false=true) (hq:(bH g).getD x.toNat false=true):x∈cO (aI g true) (bH g) g.rules:=by
  obtain ⟨r,h1,h2,h3⟩:=GQ g true _ hp
  have hf:=bC hr
  have h4:=hf.left r h1
  have:r.left=x:=by omega
  refine D6.2 ⟨r,h1,?_,this⟩
  rw[bJ,this,hq,h3]; rfl
theorem G7 (g:an):(if bt g=true then
    if (aI g true).getD g.start.toNat false=true then (ki g (de (cO (aI g true) (bH g) g.rules)) (aI g true) (bH g),dc (aI g true) (bH g) g.rules 0,0)
    else (p7,[],9)
  else (p7,[],1))=gE g:=by
  unfold gE
  by_cases hr:bt g=true
  · rw[if_pos hr,if_pos hr]
    by_cases hp:(aI g true).getD g.start.toNat false=true
    · rw[if_pos hp,if_pos hp]
      have hf:=bC hr
      rw[JL]
      · exact Kt hr hf.ld hp (xh hr)
      · intro r hm
        obtain ⟨h1,h2⟩:=List.mem_filter.1 hm
        refine ⟨D6.2 ⟨r,h1,h2,rfl⟩,fun s hs hn=>?_⟩
        refine Kt hr (by omega) ?_ (zi hr h1 h2 hs hn)
        rw[bJ,Bool.and_eq_true] at h2
        have:=h2.2
        simp only[fC,List.all_eq_true] at this
        have:=this s hs
        rwa [if_neg (by omega)] at this
    · rw[if_neg hp,if_neg hp]
  · rw[if_neg hr,if_neg hr]
theorem Hf (g:an) (hg:g.Ok) (hs:g.Small):dW Tryz.prog 109 [.agg (aw g)] (zV (gE g)):=by
  rw[← G7]; exact EW g hg hs
structure Cell where
  kind:Int
  n:Int
  deriving DecidableEq
structure uF where
  cr:List (List Cell)
  gotos:List (List Int)
  deriving DecidableEq
def HG (g:an) (n:Nat) (c:Cell):Bool:=if c.kind=0∨c.kind=3 then decide (c.n=0) else if c.kind=1 then decide (0≤c.n) && decide (c.n < n) else if c.kind=2 then decide (0≤c.n) && decide (c.n < g.rules.length) else false
def Nm (g:an) (n:Nat) (a:List Cell) (l:List Int):Bool:=decide (a.length=g.av.length+1) && decide (l.length=g.az.length) && a.all (HG g n) && l.all fun x=>decide (-1≤x) && decide (x < n)
def Ib (t:uF) (s x:Int):Cell:=(t.cr.getD s.toNat []).getD x.toNat ⟨0,0⟩
def Cw (t:uF) (s x:Int):Int:=(t.gotos.getD s.toNat []).getD x.toNat (-1)
def zX (st:List Int):Int:=st.getD (st.length - 1) 0
def dq (g:an) (k:Int):aL:=g.rules.getD k.toNat ⟨0,[],0⟩
def Kb (t:uF) (st:List Int):Prop:=st≠[]∧∀ x∈st,0≤x∧x < t.cr.length
theorem getD_some {α:Type} {l:List α} {j:Nat} {d:α} (h:j < l.length):l[j]?=some (l.getD j d):=by simp[List.getD_eq_getElem?_getD,h]
theorem Lq (st:List Int) (x:Int):zX (st ++ [x])=x:=by simp[zX,List.getD_eq_getElem?_getD]
theorem Kb.app {t:uF} {st:List Int} {x:Int} (h:∀ y∈st,0≤y∧y < t.cr.length) (hx:0≤x∧x < t.cr.length):Kb t (st ++ [x]):=by
  refine ⟨by simp,fun y hy=>?_⟩
  rcases List.mem_append.1 hy with hy | hy
  · exact h y hy
  · simp at hy; subst hy; exact hx
theorem Kb.take {t:uF} {st:List Int} (h:Kb t st) {k:Nat} (hk:0 < k):Kb t (st.take k):=by
  refine ⟨?_,fun y hy=>h.2 y (List.mem_of_mem_take hy)⟩
  intro e
  rcases List.take_eq_nil_iff.1 e with e | e
  · omega
  · exact h.1 e
structure oY (g:an) (t:uF):Prop where
  right:bt g=true
  n1:1≤t.cr.length
  PI:t.cr.length≤300
  len:t.gotos.length=t.cr.length
  row:∀ i,i < t.cr.length→Nm g t.cr.length (t.cr.getD i []) (t.gotos.getD i [])=true
theorem oY.yk {g:an} {t:uF} (h:oY g t) {i:Nat} (hi:i < t.cr.length):(t.cr.getD i []).length=g.av.length+1∧(t.gotos.getD i []).length=g.az.length∧(∀ c∈t.cr.getD i [],HG g t.cr.length c=true)∧∀ x∈t.gotos.getD i [],-1≤x∧x < t.cr.length:=by
  have:=h.row i hi
  unfold Nm at this
  simp only[Bool.and_eq_true,decide_eq_true_eq,List.all_eq_true] at this
  exact ⟨this.1.1.1,this.1.1.2,this.1.2,this.2⟩
theorem oY.cell {g:an} {t:uF} (h:oY g t) {s x:Int} (hs:0≤s∧s < t.cr.length) (hx:0≤x∧x≤g.av.length):HG g t.cr.length (Ib t s x)=true∧(t.cr.getD s.toNat [])[x.toNat]?=some (Ib t s x):=by
  have hi:s.toNat < t.cr.length:=by omega
  obtain ⟨h1,_,h3,_⟩:=h.yk hi
  have hj:x.toNat < (t.cr.getD s.toNat []).length:=by omega
  have e:(t.cr.getD s.toNat [])[x.toNat]?=some (Ib t s x):=getD_some hj
  exact ⟨h3 _ (List.mem_of_getElem? e),e⟩
theorem oY.go {g:an} {t:uF} (h:oY g t) {s x:Int} (hs:0≤s∧s < t.cr.length) (hx:0≤x∧x < g.az.length):(-1≤Cw t s x∧Cw t s x < t.cr.length)∧(t.gotos.getD s.toNat [])[x.toNat]?=some (Cw t s x):=by
  have hi:s.toNat < t.cr.length:=by omega
  obtain ⟨_,h2,_,h4⟩:=h.yk hi
  have hj:x.toNat < (t.gotos.getD s.toNat []).length:=by omega
  have e:(t.gotos.getD s.toNat [])[x.toNat]?=some (Cw t s x):=getD_some hj
  exact ⟨h4 _ (List.mem_of_getElem? e),e⟩
theorem Eb {x:Int} : ∀ (o:List Int) (i:Int),x∈o→∃ k:Nat,c6 (fun y=>y == x) o i=i+k∧o[k]?=some x
  | [],_,h=>by simp at h
  | y :: o,i,h=>by
    by_cases e:y=x
    · exact ⟨0,by simp[c6,e],by simp[e]⟩
    · have hx:x∈o:=by
        rcases List.mem_cons.1 h with rfl | h
        · exact absurd rfl e
        · exact h
      obtain ⟨k,h1,h2⟩:=Eb o (i+1) hx
      exact ⟨k+1,by simp only[c6]; rw[if_neg (by simp[e]),h1]; push_cast; omega,by simpa using h2⟩
theorem xm {o:List Int} {x:Int} (h:x∈o):o[(bP o x).toNat]?=some x:=by
  obtain ⟨k,h1,h2⟩:=Eb o 0 h
  have:bP o x=k:=by unfold bP; omega
  rw[this]; simpa using h2
theorem wb {o:List Int} (hn:o.Nodup) {k:Nat} {x:Int} (h:o[k]?=some x):bP o x=k:=by
  have hx:=List.mem_of_getElem? h
  have h1:=xm hx
  have h2:=jA hx
  obtain ⟨hk,h3⟩:=List.getElem?_eq_some_iff.1 h
  obtain ⟨hk2,h4⟩:=List.getElem?_eq_some_iff.1 h1
  have:=(List.getElem_inj hn).1 (h4.trans h3.symm)
  omega
theorem Ln (acc:List Int) (r:aL):∃ m,dV acc r=acc ++ m:=by
  unfold dV
  split
  · exact ⟨[],by simp⟩
  · exact ⟨_,rfl⟩
theorem rP:∀ (l:List aL) (acc:List Int),∃ m,l.foldl dV acc=acc ++ m
  | [],acc=>⟨[],by simp⟩
  | r :: l,acc=>by
    obtain ⟨m,hm⟩:=Ln acc r
    obtain ⟨k,hk⟩:=rP l (dV acc r)
    exact ⟨m ++ k,by rw[List.foldl_cons,hk,hm,List.append_assoc]⟩
theorem LH {a b:List Int} {x:Int} (h:x∈a):bP (a ++ b) x=bP a x:=by
  unfold bP
  rw[wK _ _ _ _ (by omega)]
  have:=jA h
  unfold bP at this
  rw[if_pos this.1]
theorem sH {r:an} {o:List Int} (ho:o.Nodup) (hr:r.az.length=o.length):∀ (l:List aL) (acc:List Int),o=l.foldl dV acc→(∀ x∈l,ga r (bA (bP o) x)=true)→fH r (l.map (bA (bP o))) ((acc.length:Int) - 1)=true
  | [],acc,h,_=>by
    simp only[List.foldl_nil] at h
    simp[fH,hr,h]
  | x :: l,acc,h,hb=>by
    simp only[List.map_cons,fH,Bool.and_eq_true,decide_eq_true_eq]
    rw[List.foldl_cons] at h
    have h1:(bA (bP o) x).left=bP o x.left:=rfl
    obtain ⟨m,hm⟩:=rP l (dV acc x)
    rw[← h] at hm
    by_cases hx:x.left∈acc
    · have e:dV acc x=acc:=by unfold dV; rw[if_pos hx]
      rw[e] at hm h
      have h2:=jA hx
      have h3:bP o x.left=bP acc x.left:=by rw[hm]; exact LH hx
      rw[h1,h3,if_neg (by omega)]
      exact ⟨⟨⟨h2.1,by omega⟩,hb x (by simp)⟩,sH ho hr l acc h fun y hy=>hb y (by simp[hy])⟩
    · have e:dV acc x=acc ++ [x.left]:=by unfold dV; rw[if_neg hx]
      rw[e] at hm h
      have h3:bP o x.left=acc.length:=wb ho (by rw[hm]; simp)
      rw[h1,h3,if_pos (by omega)]
      refine ⟨⟨⟨by omega,by omega⟩,hb x (by simp)⟩,?_⟩
      have:=sH ho hr l (acc ++ [x.left]) h fun y hy=>hb y (by simp[hy])
      rw[List.length_append] at this
      simpa using this
theorem xg {g r:an} (h:r.av=g.av):∀ (l:List Term) (i:Int),iA r l i=iA g l i
  | [],_=>rfl
  | t :: l,i=>by
    simp only[iA,xg h l]
    congr 1
    simp only[iR,kf,oL,h]
theorem oo {o:List Int} {n:Nat} (h:o.Nodup) (hb:∀ x∈o,0≤x∧x < n):o.length≤n:=by
  have:=kN o ((List.range n).map fun (k:Nat)=>(k:Int)) h fun x hx=>by
    have:=hb x hx
    exact List.mem_map.2 ⟨x.toNat,List.mem_range.2 (by omega),by omega⟩
  simpa using this
structure dT (g:an) (p q:List Bool) (o:List Int) (r:an):Prop where
  right:bt g=true
  pe:p=aI g true
  qe:q=bH g
  oe:o=cO p q g.rules
  re:r=ki g (bP o) p q
  nodup:o.Nodup
  inside:∀ x∈o,0≤x∧x < g.az.length
  kept:∀ R∈g.rules,bJ p q R=true→R.left∈o∧∀ s∈R.right,s < 0→-1 - s∈o
  from_:∀ x∈o,∃ R∈g.rules,bJ p q R=true∧R.left=x
  start:g.start∈o
section
variable {g r:an} {p q:List Bool} {o:List Int}
theorem dT.rules (h:dT g p q o r):r.rules=(g.rules.filter (bJ p q)).map (bA (bP o)):=by rw[h.re]; rfl
theorem dT.az (h:dT g p q o r):r.az=o.map fun x=>g.az.getD x.toNat ⟨#[]⟩:=by rw[h.re,h.oe]; rfl
theorem dT.av (h:dT g p q o r):r.av=g.av:=by rw[h.re]; rfl
theorem dT.Dk (h:dT g p q o r):r.start=bP o g.start:=by rw[h.re]; rfl
theorem dT.len (h:dT g p q o r):r.az.length=o.length:=by rw[h.az]; simp
theorem dT.kG (h:dT g p q o r):bt r=true:=by
  have hf:=bC h.right
  have hR:=h.right
  simp only[bt,iB,jn,Bool.and_eq_true,decide_eq_true_eq] at hR ⊢
  obtain ⟨⟨⟨⟨⟨⟨⟨a1,a2⟩,⟨a3,a4⟩,a5⟩,a6⟩,a7⟩,a8⟩,a9⟩,a10⟩:=hR
  have hst:=jA h.start
  have hol:o.length≤g.az.length:=oo h.nodup h.inside
  have hgn:g.az.Nodup∧∀ s∈g.az,fc (eh s)=true∧kf g s < 0:=by
    rw[qq] at a5
    refine ⟨(qz g.az).1 fun k s hk=>?_,fun s hs=>?_⟩
    · have:=a5 k s hk
      simp only[jZ,vo,Bool.and_eq_true,beq_iff_eq] at this
      have:=this.1.2
      omega
    · obtain ⟨k,hk⟩:=List.getElem?_of_mem hs
      have:=a5 k s hk
      simp only[jZ,Bool.and_eq_true,decide_eq_true_eq] at this
      exact ⟨this.1.1,this.2⟩
  have hget:∀ x∈o,∃ (hx:x.toNat < g.az.length),g.az.getD x.toNat ⟨#[]⟩=g.az[x.toNat]:=fun x hx=>by
    have:=h.inside x hx
    exact ⟨by omega,by simp[List.getD_eq_getElem?_getD,List.getElem?_eq_getElem (show x.toNat < g.az.length by omega)]⟩
  have hrn:r.az.Nodup:=by
    rw[h.az,List.nodup_iff_pairwise_ne,List.pairwise_map]
    refine (List.Pairwise.and_mem.1 h.nodup).imp ?_
    rintro x y ⟨hx,hy,hne⟩ e
    obtain ⟨h1,h2⟩:=hget x hx
    obtain ⟨h3,h4⟩:=hget y hy
    rw[h2,h4] at e
    have h5:=(List.getElem_inj hgn.1).1 e
    have h6:=h.inside x hx
    have h7:=h.inside y hy
    exact hne (by omega)
  have hrules:(g.rules.filter (bJ p q)).length≤g.rules.length:=List.length_filter_le _ _
  obtain ⟨R0,hR0,hk0,_⟩:=h.from_ _ h.start
  have hpos:0 < (g.rules.filter (bJ p q)).length:=List.length_pos_of_mem (List.mem_filter.2 ⟨hR0,hk0⟩)
  have hrl:r.rules.length=(g.rules.filter (bJ p q)).length:=by rw[h.rules]; simp
  refine ⟨⟨⟨⟨⟨⟨⟨by rw[h.av]; exact a1,?_⟩,⟨by rw[h.len]; omega,by rw[h.len]; omega⟩,?_⟩,by omega⟩,by omega⟩,by rw[h.Dk]; omega⟩,by rw[h.Dk,h.len]; omega⟩,?_⟩
  · rw[h.av,xg h.av]; exact a2
  · rw[qq]
    intro k s hk
    have hm:=List.mem_of_getElem? hk
    have hidx:=(qz r.az).2 hrn k s hk
    rw[h.az,List.mem_map] at hm
    obtain ⟨x,hx,rfl⟩:=hm
    obtain ⟨h1,h2⟩:=hget x hx
    obtain ⟨h3,h4⟩:=hgn.2 _ (h2 ▸ List.getElem_mem h1:g.az.getD x.toNat ⟨#[]⟩∈g.az)
    simp only[jZ,vo,Bool.and_eq_true,beq_iff_eq,decide_eq_true_eq]
    refine ⟨⟨h3,by rw[hidx]; omega⟩,?_⟩
    simp only[kf,h.av] at h4 ⊢
    exact h4
  · rw[h.rules]
    have:=sH (r:=r) h.nodup h.len (g.rules.filter (bJ p q)) [] (by rw[h.oe]; rfl) (fun x hx=>?_)
    · simpa using this
    obtain ⟨hm,hk⟩:=List.mem_filter.1 hx
    obtain ⟨_,hin⟩:=h.kept x hm hk
    have hb:=(uz _ _ a10).2 x hm
    have hb:=hb.2.2
    simp only[ga,Bool.and_eq_true,decide_eq_true_eq,List.all_eq_true] at hb ⊢
    obtain ⟨⟨⟨b1,b2⟩,b3⟩,b4⟩:=hb
    refine ⟨⟨⟨by simpa [bA] using b1,b2⟩,by rw[h.av]; exact b3⟩,fun s hs=>?_⟩
    simp only[bA,List.mem_map] at hs
    obtain ⟨s0,hs0,rfl⟩:=hs
    have b5:=b4 s0 hs0
    by_cases hn:s0 < 0
    · rw[if_pos hn]
      have hl:=jA (hin s0 hs0 hn)
      simp only[kn,gY,Bool.and_eq_true]
      rw[if_neg (by omega),decide_eq_false (p:=0≤-1 - bP o (-1 - s0)) (by omega)]
      simp only[h.len,decide_eq_true_eq,Bool.false_and,Bool.not_false,and_true]
      omega
    · rw[if_neg hn]
      simp only[kn,gY,h.av] at b5 ⊢
      rw[if_pos (by omega)] at b5 ⊢
      exact b5
end
inductive r7 (g:an):Int→Prop
  | mk (R:aL):R∈g.rules→(∀ s∈R.right,s < 0→r7 g (-1 - s))→r7 g R.left
inductive nJ (g:an) (p:List Bool):Int→Prop
  | start:nJ g p g.start
  | next (R:aL) (s:Int):R∈g.rules→nJ g p R.left→fC R.right p true=true→s∈R.right→s < 0→nJ g p (-1 - s)
theorem tz {l:List Int} {p:List Bool} : fC l p true=true↔∀ s∈l,s < 0→p.getD (-1 - s).toNat false=true:=by
  simp only[fC,List.all_eq_true]
  constructor
  · intro h s hs hn
    have:=h s hs
    rwa [if_neg (by omega)] at this
  · intro h s hs
    by_cases hn:s < 0
    · rw[if_neg (by omega)]; exact h s hs hn
    · rw[if_pos (by omega)]
theorem xC {l:List Bool} {i j:Nat} (h:(l.set i true).getD j false=true):j=i∨l.getD j false=true:=by
  by_cases e:i=j
  · exact .inl e.symm
  · right
    simp only[List.getD_eq_getElem?_getD,List.getElem?_set,if_neg e] at h ⊢
    exact h
theorem yD {g:an} {i:Nat} : (cW g).getD i false=false:=by
  simp only[cW,List.getD_eq_getElem?_getD,List.getElem?_replicate]
  split <;> rfl
theorem DX {g:an} (hr:bt g=true):∀ i:Nat,(aI g true).getD i false=true→r7 g i:=by
  have hf:=bC hr
  have hst:∀ (is:List Bool) (R:aL),R∈g.rules→(∀ i:Nat,is.getD i false=true→r7 g i)→∀ i:Nat,(eo true is R).getD i false=true→r7 g i:=by
    intro is R hR h i hi
    unfold eo at hi
    split at hi
    · rename_i ha
      rcases xC hi with rfl | hi
      · have:=hf.left R hR
        have e:((R.left.toNat:Nat):Int)=R.left:=by omega
        rw[e]
        refine .mk R hR fun s hs hn=>?_
        have:=h _ (tz.1 ha s hs hn)
        rwa [show (((-1 - s).toNat:Nat):Int) = -1 - s by omega] at this
      · exact h i hi
    · exact h i hi
  have hfold:∀ (l:List aL) (is:List Bool),(∀ R∈l,R∈g.rules)→(∀ i:Nat,is.getD i false=true→r7 g i)→∀ i:Nat,(l.foldl (eo true) is).getD i false=true→r7 g i:=by
    intro l
    induction l with
    | nil=>intro is _ h; exact h
    | cons R l ih=>intro is hl h; exact ih _ (fun x hx=>hl x (by simp[hx])) (hst is R (hl R (by simp)) h)
  have hit:∀ (n:Nat) (is:List Bool),(∀ i:Nat,is.getD i false=true→r7 g i)→∀ i:Nat,(iter (mM g true) n is).getD i false=true→r7 g i:=by
    intro n
    induction n with
    | zero=>intro is h; exact h
    | succ n ih=>intro is h; exact ih _ (hfold g.rules is (fun _ h=>h) h)
  rw[aI,if_pos hr]
  exact hit _ _ fun i hi=>by rw[yD] at hi; simp at hi
theorem Bk (t:Bool) (is:List Bool) (R:aL):fF is (eo t is R):=by
  unfold eo
  split
  · exact .set _ _
  · exact .refl _
theorem B1 (t:Bool):∀ (l:List aL) (is:List Bool),fF is (l.foldl (eo t) is)
  | [],is=>.refl _
  | R :: l,is=>(Bk t is R).trans (B1 t l _)
theorem yB {t:Bool} : ∀ {l:List aL} {is:List Bool},l.foldl (eo t) is=is→∀ R∈l,eo t is R=is
  | [],_,_,_,h=>by simp at h
  | R :: l,is,h,x,hx=>by
    rw[List.foldl_cons] at h
    have h1:=B1 t l (eo t is R)
    rw[h] at h1
    have h2:=(h1.GR (Bk t is R))
    rcases List.mem_cons.1 hx with rfl | hx
    · exact h2
    · rw[h2] at h; exact yB h x hx
theorem Jt {g:an} (hr:bt g=true) (t:Bool):mM g t (aI g t)=aI g t:=by
  have hf:=bC hr
  have h:=pZ (pj t) g.rules 16 (cW g) (by have:=hf.az; simp[cW]; omega)
  rw[F9,Jz hr] at h
  exact h.1
theorem pF {g:an} (hr:bt g=true) {t:Bool} {R:aL} (hR:R∈g.rules) (ha:fC R.right (aI g t) t=true):(aI g t).getD R.left.toNat false=true:=by
  have h1:=yB (Jt hr t) R hR
  have hf:=bC hr
  have hl:=mO hr t
  have hb:=hf.left R hR
  unfold eo at h1
  rw[if_pos ha] at h1
  rw[← h1]
  simp only[List.getD_eq_getElem?_getD]
  rw[List.getElem?_set_self (by omega)]
  rfl
theorem uK {g:an} (hr:bt g=true) {x:Int} (h:r7 g x):(aI g true).getD x.toNat false=true:=by
  induction h with
  | mk R hR _ ih=>exact pF hr hR (tz.2 fun s hs hn=>ih s hs hn)
theorem Dt {g:an} (hr:bt g=true):∀ i:Nat,(bH g).getD i false=true→nJ g (aI g true) i:=by
  have hf:=bC hr
  have hmk:∀ (R:aL),R∈g.rules→nJ g (aI g true) R.left→fC R.right (aI g true) true=true→∀ (l:List Int) (is:List Bool),(∀ s∈l,s∈R.right)→(∀ i:Nat,is.getD i false=true→nJ g (aI g true) i)→∀ i:Nat,(l.foldl mark is).getD i false=true→nJ g (aI g true) i:=by
    intro R hR hl ha l
    induction l with
    | nil=>intro is _ h; exact h
    | cons s l ih =>
      intro is hs h
      refine ih _ (fun x hx=>hs x (by simp[hx])) fun i hi=>?_
      unfold mark at hi
      split at hi
      · rename_i hn
        rcases xC hi with rfl | hi
        · rw[show (((-1 - s).toNat:Nat):Int) = -1 - s by omega]
          exact .next R s hR hl ha (hs s (by simp)) hn
        · exact h i hi
      · exact h i hi
  have hst:∀ (is:List Bool) (R:aL),R∈g.rules→(∀ i:Nat,is.getD i false=true→nJ g (aI g true) i)→∀ i:Nat,(iU (aI g true) is R).getD i false=true→nJ g (aI g true) i:=by
    intro is R hR h
    unfold iU
    split
    · rename_i ha
      rw[Bool.and_eq_true] at ha
      have h1:=h _ ha.1
      have:=hf.left R hR
      rw[show ((R.left.toNat:Nat):Int)=R.left by omega] at h1
      exact hmk R hR h1 ha.2 R.right is (fun _ h=>h) h
    · exact h
  have hfold:∀ (l:List aL) (is:List Bool),(∀ R∈l,R∈g.rules)→(∀ i:Nat,is.getD i false=true→nJ g (aI g true) i)→∀ i:Nat,(l.foldl (iU (aI g true)) is).getD i false=true→nJ g (aI g true) i:=by
    intro l
    induction l with
    | nil=>intro is _ h; exact h
    | cons R l ih=>intro is hl h; exact ih _ (fun x hx=>hl x (by simp[hx])) (hst is R (hl R (by simp)) h)
  have hit:∀ (n:Nat) (is:List Bool),(∀ i:Nat,is.getD i false=true→nJ g (aI g true) i)→∀ i:Nat,(iter (rO g (aI g true)) n is).getD i false=true→nJ g (aI g true) i:=by
    intro n
    induction n with
    | zero=>intro is h; exact h
    | succ n ih=>intro is h; exact ih _ (hfold g.rules is (fun _ h=>h) h)
  rw[bH,if_pos hr]
  refine hit _ _ fun i hi=>?_
  rcases xC hi with rfl | hi
  · have:=hf.ld
    rw[show ((g.start.toNat:Nat):Int)=g.start by omega]
    exact .start
  · rw[yD] at hi; simp at hi
theorem vC {g:an} (hr:bt g=true) {x:Int} (h:nJ g (aI g true) x):(bH g).getD x.toNat false=true:=by
  induction h with
  | start=>exact xh hr
  | next R s hR _ ha hs hn ih=>exact zi hr hR (by rw[bJ,ih,ha]; rfl) hs hn
section
variable {g r:an} {p q:List Bool} {o:List Int}
theorem dT.Pj (h:dT g p q o r) {x:Int} (hd:r7 g x):x∈o→r7 r (bP o x):=by
  induction hd with
  | mk R hR hsub ih =>
    intro hx
    obtain ⟨R1,hR1,hk1,e1⟩:=h.from_ _ hx
    have hk:bJ p q R=true:=by
      rw[bJ,Bool.and_eq_true] at hk1 ⊢
      refine ⟨by rw[← e1]; exact hk1.1,?_⟩
      rw[h.pe]
      exact tz.2 fun s hs hn=>uK h.right (hsub s hs hn)
    have hin:=(h.kept R hR hk).2
    have hm:bA (bP o) R∈r.rules:=by rw[h.rules]; exact List.mem_map.2 ⟨R,List.mem_filter.2 ⟨hR,hk⟩,rfl⟩
    refine r7.mk (bA (bP o) R) hm fun s' hs' hn'=>?_
    simp only[bA,List.mem_map] at hs'
    obtain ⟨s,hs,rfl⟩:=hs'
    by_cases hn:s < 0
    · rw[if_pos hn]
      have:=ih s hs hn (hin s hs hn)
      rwa [show -1 - (-1 - bP o (-1 - s))=bP o (-1 - s) by omega]
    · rw[if_neg hn] at hn'; omega
theorem dT.Om (h:dT g p q o r) {x:Int} (hx:x∈o):(aI r true).getD (bP o x).toNat false=true:=by
  obtain ⟨R,hR,hk,rfl⟩:=h.from_ _ hx
  rw[bJ,Bool.and_eq_true,h.pe] at hk
  have h1:=pF h.right hR hk.2
  have h2:=DX h.right _ h1
  have:=(h.inside _ hx)
  rw[show ((R.left.toNat:Nat):Int)=R.left by omega] at h2
  exact uK h.kG (h.Pj h2 hx)
theorem dT.at_ (h:dT g p q o r) {k:Nat} (hk:k < o.length):∃ x∈o,bP o x=k∧o[k]?=some x:=⟨o[k],List.getElem_mem _,wb h.nodup (List.getElem?_eq_getElem hk),List.getElem?_eq_getElem hk⟩
theorem dT.A0 (h:dT g p q o r) {k:Nat} (hk:k < o.length):(aI r true).getD k false=true:=by
  obtain ⟨x,hx,h1,_⟩:=h.at_ hk
  have:=h.Om hx
  rwa [h1,Int.toNat_natCast] at this
theorem dT.J4 (h:dT g p q o r) {R:aL} (hR:R∈r.rules):fC R.right (aI r true) true=true:=by
  have hf:=bC h.kG
  refine tz.2 fun s hs hn=>h.A0 ?_
  have:=hf.neg hR hs hn
  rw[h.len] at this
  omega
theorem dT.Ps (h:dT g p q o r) {x:Int} (hd:nJ g (aI g true) x):nJ r (aI r true) (bP o x):=by
  induction hd with
  | start=>rw[← h.Dk]; exact .start
  | next R s hR h1 ha hs hn ih =>
    have hk:bJ p q R=true:=by
      rw[bJ,h.pe,h.qe,ha,vC h.right h1]; rfl
    have hm:bA (bP o) R∈r.rules:=by rw[h.rules]; exact List.mem_map.2 ⟨R,List.mem_filter.2 ⟨hR,hk⟩,rfl⟩
    have hin:=(h.kept R hR hk).2 s hs hn
    have h2:=jA hin
    have:=nJ.next (g:=r) (p:=aI r true) (bA (bP o) R) (-1 - bP o (-1 - s)) hm ih (h.J4 hm) (by
      simp only[bA,List.mem_map]
      exact ⟨s,hs,by rw[if_pos hn]⟩) (by omega)
    rwa [show -1 - (-1 - bP o (-1 - s))=bP o (-1 - s) by omega] at this
theorem dT.IT (h:dT g p q o r) {k:Nat} (hk:k < o.length):(bH r).getD k false=true:=by
  obtain ⟨x,hx,h1,_⟩:=h.at_ hk
  obtain ⟨R,hR,hkk,rfl⟩:=h.from_ _ hx
  rw[bJ,Bool.and_eq_true,h.qe] at hkk
  have h2:=Dt h.right _ hkk.1
  have:=(h.inside _ hx)
  rw[show ((R.left.toNat:Nat):Int)=R.left by omega] at h2
  have:=vC h.kG (h.Ps h2)
  rwa [h1,Int.toNat_natCast] at this
def jW (n:Nat):List Int:=(List.range n).map fun (k:Nat)=>(k:Int)
theorem Em (n:Nat):(jW n).length=n:=by simp[jW]
theorem xn {n k:Nat} (h:k < n):(jW n)[k]?=some (k:Int):=by simp[jW,h]
theorem HJ (n:Nat):(jW n).Nodup:=by
  rw[jW,List.nodup_iff_pairwise_ne,List.pairwise_map]
  exact (List.nodup_range (n:=n)).imp fun h e=>h (by omega)
theorem xQ {n:Nat} {x:Int} (h0:0≤x) (h1:x < n):bP (jW n) x=x:=by
  have:=wb (HJ n) (xn (n:=n) (k:=x.toNat) (by omega))
  rw[show ((x.toNat:Nat):Int)=x by omega] at this
  exact this
theorem A4 {p q:List Bool} : ∀ (l:List aL) (i:Int),(∀ R∈l,bJ p q R=true)→dc p q l i=(List.range l.length).map fun (k:Nat)=>i+(k:Int)
  | [],_,_=>rfl
  | R :: l,i,h=>by
    rw[dc,if_pos (h R (by simp)),A4 l (i+1) (fun x hx=>h x (by simp[hx])),List.length_cons,List.range_succ_eq_map,List.map_cons,List.map_map]
    congr 1
    · omega
    · apply List.map_congr_left
      intro k _
      simp only[Function.comp]
      push_cast; omega
theorem rn {f:Int→Int} {o:List Int} (hf:∀ x∈o,∀ y∈o,f x=f y→x=y):∀ (l:List aL) (acc:List Int),(∀ x∈acc,x∈o)→(∀ R∈l,R.left∈o)→(l.map (bA f)).foldl dV (acc.map f)=(l.foldl dV acc).map f
  | [],_,_,_=>rfl
  | R :: l,acc,ha,hl=>by
    have e:dV (acc.map f) (bA f R)=(dV acc R).map f:=by
      have h1:(bA f R).left=f R.left:=rfl
      unfold dV
      rw[h1]
      by_cases h:R.left∈acc
      · rw[if_pos h,if_pos (List.mem_map.2 ⟨_,h,rfl⟩)]
      · rw[if_neg h,if_neg (fun hm=>by
          obtain ⟨y,hy,e⟩:=List.mem_map.1 hm
          exact h (hf y (ha y hy) _ (hl R (by simp)) e ▸ hy))]
        simp
    rw[List.map_cons,List.foldl_cons,List.foldl_cons,e]
    refine rn hf l (dV acc R) (fun x hx=>?_) (fun x hx=>hl x (by simp[hx]))
    unfold dV at hx
    split at hx
    · exact ha x hx
    · rcases List.mem_append.1 hx with hx | hx
      · exact ha x hx
      · simp at hx; subst hx; exact hl R (by simp)
theorem dT.inj (h:dT g p q o r):∀ x∈o,∀ y∈o,bP o x=bP o y→x=y:=by
  intro x hx y hy e
  have h1:=xm hx
  have h2:=xm hy
  rw[e,h2] at h1
  exact (Option.some.inj h1).symm
theorem dT.MT (h:dT g p q o r):o.map (bP o)=jW o.length:=by
  apply List.ext_getElem?
  intro k
  rw[List.getElem?_map]
  by_cases hk:k < o.length
  · rw[xn hk,List.getElem?_eq_getElem hk,Option.map_some,wb h.nodup (List.getElem?_eq_getElem hk)]
  · rw[List.getElem?_eq_none (by omega),List.getElem?_eq_none (by rw[Em]; omega)]; rfl
theorem dT.xx (h:dT g p q o r):∀ R∈r.rules,bJ (aI r true) (bH r) R=true:=fun R hR=>by
  have hf:=bC h.kG
  have:=hf.left R hR
  rw[h.len] at this
  rw[bJ,h.IT (by omega),h.J4 hR]; rfl
theorem dT.ord (h:dT g p q o r):cO (aI r true) (bH r) r.rules=jW o.length:=by
  unfold cO
  rw[List.filter_eq_self.2 h.xx,h.rules]
  have:=rn h.inj (g.rules.filter (bJ p q)) [] (by simp) (fun R hR=>by
    obtain ⟨h1,h2⟩:=List.mem_filter.1 hR
    exact (h.kept R h1 h2).1)
  rw[List.map_nil] at this
  rw[this,← h.MT]
  congr 1
  rw[h.oe]; rfl
theorem dT.once (h:dT g p q o r):gE r=(r,jW r.rules.length,0):=by
  have hf:=bC h.kG
  have hst:=hf.start
  have hst0:=hf.ld
  rw[h.len] at hst
  rw[CL h.kG,if_pos (h.A0 (by omega)),h.ord]
  have hk:dc (aI r true) (bH r) r.rules 0=jW r.rules.length:=by
    rw[A4 _ _ h.xx]
    unfold jW
    apply List.map_congr_left
    intro k _; omega
  have hr:ki r (bP (jW o.length)) (aI r true) (bH r)=r:=by
    unfold ki
    rw[h.ord,List.filter_eq_self.2 h.xx]
    have e1:((jW o.length).map fun x=>r.az.getD x.toNat ⟨#[]⟩)=r.az:=by
      apply List.ext_getElem?
      intro k
      rw[List.getElem?_map]
      by_cases hkk:k < o.length
      · rw[xn hkk,Option.map_some]
        simp[List.getD_eq_getElem?_getD,List.getElem?_eq_getElem (show k < r.az.length by rw[h.len]; omega)]
      · rw[List.getElem?_eq_none (by rw[Em]; omega),List.getElem?_eq_none (by rw[h.len]; omega)]; rfl
    have e2:r.rules.map (bA (bP (jW o.length)))=r.rules:=by
      conv=>rhs; rw[← List.map_id r.rules]
      apply List.map_congr_left
      intro R hR
      have hl:=hf.left R hR
      rw[h.len] at hl
      unfold bA
      rw[xQ hl.1 hl.2]
      have e3:(R.right.map fun s=>if s < 0 then -1 - bP (jW o.length) (-1 - s) else s)=R.right:=by
        conv=>rhs; rw[← List.map_id R.right]
        apply List.map_congr_left
        intro s hs
        by_cases hn:s < 0
        · have:=hf.neg hR hs hn
          rw[h.len] at this
          rw[if_pos hn,xQ (by omega) this]
          simp only[id]; omega
        · rw[if_neg hn]; rfl
      rw[e3]; rfl
    rw[e1,e2,xQ hst0 hst]
  rw[hr,hk]
end
def isRed (g:an):Bool:=(gE g).2.2 == 0 && decide (g=(gE g).1)
def nM (p:List Int) (i:Nat) (s:Int):Prop:=∃ c,p[i]?=some c∧(c=s∨c = -1)
inductive Sp (g:an) (p:List Int):List Int→Nat→Nat→Prop
  | nil (i:Nat):Sp g p [] i i
  | term (s:Int) (l:List Int) (i j:Nat):0≤s→nM p i s→Sp g p l (i+1) j→Sp g p (s :: l) i j
  | dK (s:Int) (l:List Int) (R:aL) (i k j:Nat):s < 0→R∈g.rules→R.left = -1 - s→Sp g p R.right i k→Sp g p l k j→Sp g p (s :: l) i j
theorem Sp.le {g:an} {p:List Int} {l:List Int} {i j:Nat} (h:Sp g p l i j):i≤j:=by
  induction h with
  | nil=>exact Nat.le_refl _
  | term _ _ _ _ _ _ _ ih=>omega
  | dK _ _ _ _ _ _ _ _ _ _ _ ih1 ih2=>omega
theorem Sp.len {g:an} {p:List Int} {l:List Int} {i j:Nat} (h:Sp g p l i j):i≤p.length→j≤p.length:=by
  induction h with
  | nil=>exact id
  | term _ _ i _ _ hf _ ih =>
    intro _
    obtain ⟨c,hc,_⟩:=hf
    have:=(List.getElem?_eq_some_iff.1 hc).1
    exact ih (by omega)
  | dK _ _ _ _ _ _ _ _ _ _ _ ih1 ih2=>exact fun h=>ih2 (ih1 h)
theorem Sp.app {g:an} {p:List Int} {a:List Int} {i k:Nat} (h:Sp g p a i k):∀ {b:List Int} {j:Nat},Sp g p b k j→Sp g p (a ++ b) i j:=by
  induction h with
  | nil=>exact fun h=>h
  | term s l i _ h0 hf _ ih=>exact fun hb=>.term s _ i _ h0 hf (ih hb)
  | dK s l R i k _ h0 hR hl h1 _ _ ih2=>exact fun hb=>.dK s _ R i k _ h0 hR hl h1 (ih2 hb)
theorem Sp.split {g:an} {p:List Int} : ∀ {a b:List Int} {i j:Nat},Sp g p (a ++ b) i j→∃ k,Sp g p a i k∧Sp g p b k j
  | [],b,i,j,h=>⟨i,.nil i,h⟩
  | s :: a,b,i,j,h=>by
    cases h with
    | term _ _ _ _ h0 hf h =>
      obtain ⟨k,h1,h2⟩:=Sp.split h
      exact ⟨k,.term s a i k h0 hf h1,h2⟩
    | dK _ _ R _ m _ h0 hR hl h1 h =>
      obtain ⟨k,h2,h3⟩:=Sp.split h
      exact ⟨k,.dK s a R i m k h0 hR hl h1 h2,h3⟩
structure Item where
  aD:Nat
  dot:Nat
  kM:Nat
  deriving DecidableEq
def Sound (g:an) (p:List Int) (at_:Nat) (x:Item):Prop:=∃ R,g.rules[x.aD]?=some R∧x.dot≤R.right.length∧x.kM≤at_∧Sp g p (R.right.take x.dot) x.kM at_
structure Pq (g:an) (p:List Int) (S:Nat→List Item):Prop where
  start:∀ (i:Nat) (R:aL),g.rules[i]?=some R→R.left=g.start→⟨i,0,0⟩∈S 0
  term:∀ a x R s,x∈S a→g.rules[x.aD]?=some R→R.right[x.dot]?=some s→0≤s→nM p a s→⟨x.aD,x.dot+1,x.kM⟩∈S (a+1)
  pred:∀ a x R s i R',x∈S a→g.rules[x.aD]?=some R→R.right[x.dot]?=some s→s < 0→g.rules[i]?=some R'→R'.left = -1 - s→a≤p.length→⟨i,0,a⟩∈S a
  null:∀ a x R s,x∈S a→g.rules[x.aD]?=some R→R.right[x.dot]?=some s→s < 0→(aI g false).getD (-1 - s).toNat false=true→a≤p.length→⟨x.aD,x.dot+1,x.kM⟩∈S a
  comp:∀ a y R' x R s,y∈S a→g.rules[y.aD]?=some R'→y.dot=R'.right.length→y.kM < a→x∈S y.kM→g.rules[x.aD]?=some R→R.right[x.dot]?=some s→s < 0→R'.left = -1 - s→a≤p.length→⟨x.aD,x.dot+1,x.kM⟩∈S a
inductive In (p:List Int) (T:Nat→Nat→Nat→Prop):List Int→Nat→Nat→Prop
  | nil (i:Nat):In p T [] i i
  | term (s:Int) (l:List Int) (i j:Nat):0≤s→nM p i s→In p T l (i+1) j→In p T (s :: l) i j
  | dK (s:Int) (l:List Int) (i k j:Nat):s < 0→T (-1 - s).toNat i k→In p T l k j→In p T (s :: l) i j
theorem In.app {p:List Int} {T:Nat→Nat→Nat→Prop} {a:List Int} {i k:Nat} (h:In p T a i k):∀ {b:List Int} {j:Nat},In p T b k j→In p T (a ++ b) i j:=by
  induction h with
  | nil=>exact fun h=>h
  | term s l i _ h0 hf _ ih=>exact fun hb=>.term s _ i _ h0 hf (ih hb)
  | dK s l i k _ h0 h1 _ ih=>exact fun hb=>.dK s _ i k _ h0 h1 (ih hb)
theorem In.split {p:List Int} {T:Nat→Nat→Nat→Prop} : ∀ {a b:List Int} {i j:Nat},In p T (a ++ b) i j→∃ k,In p T a i k∧In p T b k j
  | [],b,i,j,h=>⟨i,.nil i,h⟩
  | s :: a,b,i,j,h=>by
    cases h with
    | term _ _ _ _ h0 hf h =>
      obtain ⟨k,h1,h2⟩:=In.split h
      exact ⟨k,.term s a i k h0 hf h1,h2⟩
    | dK _ _ _ m _ h0 h1 h =>
      obtain ⟨k,h2,h3⟩:=In.split h
      exact ⟨k,.dK s a i m k h0 h1 h2,h3⟩
theorem In.le {p:List Int} {T:Nat→Nat→Nat→Prop} (hT:∀ n i j,T n i j→i≤j) {l:List Int} {i j:Nat} (h:In p T l i j):i≤j:=by
  induction h with
  | nil=>exact Nat.le_refl _
  | term _ _ _ _ _ _ _ ih=>omega
  | dK _ _ _ _ _ _ h1 _ ih=>have:=hT _ _ _ h1; omega
def stepT (p:List Int) (T:Nat→Nat→Nat→Prop) (s:Int) (i j:Nat):Prop:=if 0≤s then nM p i s∧j=i+1 else T (-1 - s).toNat i j
theorem In.one {p:List Int} {T:Nat→Nat→Nat→Prop} {s:Int} {i j:Nat} : In p T [s] i j↔stepT p T s i j:=by
  unfold stepT
  constructor
  · intro h
    cases h with
    | term _ _ _ _ h0 hf h=>cases h; rw[if_pos h0]; exact ⟨hf,rfl⟩
    | dK _ _ _ _ _ h0 h1 h=>cases h; rw[if_neg (by omega)]; exact h1
  · intro h
    by_cases h0:0≤s
    · rw[if_pos h0] at h
      obtain ⟨hf,rfl⟩:=h
      exact .term s [] i _ h0 hf (.nil _)
    · rw[if_neg h0] at h
      exact .dK s [] i j j (by omega) h (.nil _)
theorem In.snoc {p:List Int} {T:Nat→Nat→Nat→Prop} {a:List Int} {s:Int} {i j:Nat} : In p T (a ++ [s]) i j↔∃ k,In p T a i k∧stepT p T s k j :=
  ⟨fun h=>by obtain ⟨k,h1,h2⟩:=h.split; exact ⟨k,h1,In.one.1 h2⟩,fun ⟨k,h1,h2⟩=>h1.app (In.one.2 h2)⟩
abbrev Tb:=List (List (List Bool))
def xA (T:Tb) (N M:Nat):Prop:=T.length=N∧∀ r∈T,r.length=M∧∀ c∈r,c.length=M
theorem xA.row {T:Tb} {N M n:Nat} (h:xA T N M) (hn:n < N):∃ r,T[n]?=some r∧r.length=M∧T.getD n []=r:=by
  have:n < T.length:=by rw[h.1]; exact hn
  exact ⟨T[n],List.getElem?_eq_getElem this,(h.2 _ (List.getElem_mem _)).1,by simp[List.getD_eq_getElem?_getD,this]⟩
theorem xA.cell {T:Tb} {N M n i:Nat} (h:xA T N M) (hn:n < N) (hi:i < M):∃ r c,T[n]?=some r∧r[i]?=some c∧c.length=M∧(T.getD n []).getD i []=c:=by
  obtain ⟨r,hr,hl,hg⟩:=h.row hn
  have h1:i < r.length:=by omega
  refine ⟨r,r[i],hr,List.getElem?_eq_getElem h1,(h.2 r (List.mem_of_getElem? hr)).2 _ (List.getElem_mem _),?_⟩
  rw[hg]; simp[List.getD_eq_getElem?_getD,h1]
def He (T:Tb) (n i j:Nat):Tb:=T.set n ((T.getD n []).set i (((T.getD n []).getD i []).set j true))
def Nx (N M:Nat):Tb:=List.replicate N (List.replicate M (List.replicate M false))
def LY (T:Tb):V:=.aK (T.map fun r=>[.aK (r.map fun c=>[di c])])
structure pH (H:View) (I N M:Nat) (R:Nat→Nat) (C:Nat→Nat→Nat) (T:Tb):Prop where
  top:H I=.arr 1 ((List.range N).map fun n=>[.sl (R n) 0 M 1])
  row:∀ n,n < N→H (R n)=.arr 1 ((List.range M).map fun i=>[.sl (C n i) 0 M 1])
  cell:∀ n i,n < N→i < M→H (C n i)=.arr 1 (cT ((T.getD n []).getD i []))
  inj:∀ n i n' i',n < N→i < M→n' < N→i' < M→C n i=C n' i'→n=n'∧i=i'
theorem xN {c:List Bool} {k:Nat} {F:Nat→List V} (hc:0 < c.length) (h:cT c=(List.range k).map F) (hF:∀ n x,F n≠[gb x]):False:=by
  cases c with
  | nil=>simp at hc
  | cons x c =>
    cases k with
    | zero=>simp at h
    | succ k =>
      rw[List.range_succ_eq_map] at h
      simp only[List.map_cons,List.cons.injEq] at h
      exact hF 0 x h.1.symm
theorem pH.keep {H H':View} {I N M:Nat} {R:Nat→Nat} {C:Nat→Nat→Nat} {T:Tb} (h:pH H I N M R C T) (hk:∀ id,H id≠.dead→H' id=H id):pH H' I N M R C T :=
  ⟨by rw[hk _ (by rw[h.top]; simp)]; exact h.top,fun n hn=>by rw[hk _ (by rw[h.row n hn]; simp)]; exact h.row n hn,fun n i hn hi=>by rw[hk _ (by rw[h.cell n i hn hi]; simp)]; exact h.cell n i hn hi,h.inj⟩
theorem pH.put {H:View} {I N M:Nat} {R:Nat→Nat} {C:Nat→Nat→Nat} {T:Tb} (h:pH H I N M R C T) (hT:xA T N M) {n i j:Nat} (hn:n < N) (hi:i < M) (hj:j < M) :
    pH (H.set (C n i) (.arr 1 (cT (((T.getD n []).getD i []).set j true)))) I N M R C (He T n i j):=by
  obtain ⟨r,c,hr,hc,hcl,hg⟩:=hT.cell hn hi
  have hcell:=h.cell n i hn hi
  rw[hg] at hcell
  have e1:I≠C n i:=fun e=>by
    have:=h.top
    rw[e,hcell] at this
    simp only[bI.arr.injEq,true_and] at this
    exact xN (by omega) this fun _ _=>by simp
  have e2:∀ m,m < N→R m≠C n i:=fun m hm e=>by
    have:=h.row m hm
    rw[e,hcell] at this
    simp only[bI.arr.injEq,true_and] at this
    exact xN (by omega) this fun _ _=>by simp
  refine ⟨by simp only[View.set,if_neg e1]; exact h.top,fun m hm=>by simp only[View.set,if_neg (e2 m hm)]; exact h.row m hm,fun m q hm hq=>?_,h.inj⟩
  obtain ⟨r',hr',hrl,hg'⟩:=hT.row hn
  rw[hr] at hr'; simp at hr'; subst hr'
  have hnl:n < T.length:=by rw[hT.1]; exact hn
  by_cases e:C m q=C n i
  · obtain ⟨rfl,rfl⟩:=h.inj m q n i hm hq hn hi e
    simp only[View.set,if_true]
    congr 2
    rw[He]
    simp[List.getD_eq_getElem?_getD,hnl]
    rw[List.getElem?_set]
    have:q < T[m].length:=by
      have:=(List.getElem?_eq_some_iff.1 hr).2
      rw[this,hrl]; exact hq
    simp[this]
  · simp only[View.set,if_neg e]
    rw[h.cell m q hm hq]
    congr 2
    rw[He]
    by_cases em:n=m
    · subst em
      have eq:i≠q:=fun e'=>e (by rw[e'])
      simp[List.getD_eq_getElem?_getD,hnl,List.getElem?_set,eq]
    · simp[List.getD_eq_getElem?_getD,List.getElem?_set,em]
theorem pH.Ov {h:aB} {I N M:Nat} {R:Nat→Nat} {C:Nat→Nat→Nat} {T:Tb} (hG:pH h.view I N M R C T) (hT:xA T N M):dx h (.sl I 0 N 1) (LY T):=by
  refine .sl I 0 N 1 1 _ _ hG.top (by simp) (by simp[hT.1]) (fun n hn=>?_) (fun n j hn hj=>?_)
  · obtain ⟨r,hr,_⟩:=hT.row hn
    simp[List.getD_eq_getElem?_getD,hr,hn]
  · obtain ⟨r,hr,hrl,hrg⟩:=hT.row hn
    have e1:((T.map fun r=>[V.aK (r.map fun c=>[di c])]).getD n [])=[V.aK (r.map fun c=>[di c])]:=by simp[List.getD_eq_getElem?_getD,hr]
    have e2:(((List.range N).map fun n=>[V.sl (R n) 0 M 1]).getD (0+n) [])=[V.sl (R n) 0 M 1]:=by simp[List.getD_eq_getElem?_getD,hn]
    rw[e1] at hj ⊢
    rw[e2]
    have:j=0:=by simp at hj; omega
    subst this
    simp only[List.getD_cons_zero]
    refine .sl (R n) 0 M 1 1 _ _ (hG.row n hn) (by simp) (by simp[hrl]) (fun i hi=>?_) (fun i q hi hq=>?_)
    · simp[List.getD_eq_getElem?_getD,hi,show i < r.length by omega]
    · have hic:i < r.length:=by omega
      have f1:((r.map fun c=>[di c]).getD i [])=[di r[i]]:=by simp[List.getD_eq_getElem?_getD,hic]
      have f2:(((List.range M).map fun i=>[V.sl (C n i) 0 M 1]).getD (0+i) [])=[V.sl (C n i) 0 M 1]:=by simp[List.getD_eq_getElem?_getD,hi]
      rw[f1] at hq ⊢
      rw[f2]
      have:q=0:=by simp at hq; omega
      subst this
      simp only[List.getD_cons_zero]
      have hcell:=hG.cell n i hn hi
      have e3:(T.getD n []).getD i []=r[i]:=by rw[hrg]; simp[List.getD_eq_getElem?_getD,hic]
      rw[e3] at hcell
      have hcl:=(hT.2 r (List.mem_of_getElem? hr)).2 _ (List.getElem_mem hic)
      have:=uL (h:=h) (id:=C n i) (is:=r[i]) hcell
      rwa [hcl] at this
theorem dx.NX {h:aB} {v t:V} (f:dx h v t):Fr h v t:=by
  induction f with
  | val v=>exact .tree _ (.val v)
  | emp k=>exact .emp k
  | sl id off len esz z es es' hH hle hlen hl _ ih=>exact .sl id off len esz z es es' hH hle hlen hl ih
  | agg cs cs' hl _ ih=>exact .agg cs cs' hl ih
  | bc cs cs' hl _ ih=>exact .bc cs cs' hl ih
theorem pH.H8 {H:View} {I N M:Nat} {R:Nat→Nat} {C:Nat→Nat→Nat} {T:Tb} (hG:pH H I N M R C T) (hT:xA T N M):eK H (.sl I 0 N 1) (LY T):=by
  rintro h rfl
  exact (hG.Ov hT).NX
structure Nr (H:View) (I N M k:Nat) (R:Nat→Nat) (C:Nat→Nat→Nat):Prop where
  top:H I=.arr 1 ((List.range N).map fun n=>[if n < k then .sl (R n) 0 M 1 else .emp 1])
  row:∀ n,n < k→H (R n)=.arr 1 ((List.range M).map fun i=>[.sl (C n i) 0 M 1])
  cell:∀ n i,n < k→i < M→H (C n i)=.arr 1 (List.replicate M [gb false])
  inj:∀ n i n' i',n < k→i < M→n' < k→i' < M→C n i=C n' i'→n=n'∧i=i'
  ne:∀ n,n < k→I≠R n
structure D4 (H:View) (I N M k:Nat) (R:Nat→Nat) (C:Nat→Nat→Nat) (r i:Nat) (D:Nat→Nat):Prop where
  top:H I=.arr 1 ((List.range N).map fun n=>[if n < k then .sl (R n) 0 M 1 else if n=k then .sl r 0 M 1 else .emp 1])
  row:∀ n,n < k→H (R n)=.arr 1 ((List.range M).map fun i=>[.sl (C n i) 0 M 1])
  cell:∀ n i,n < k→i < M→H (C n i)=.arr 1 (List.replicate M [gb false])
  inj:∀ n i n' i',n < k→i < M→n' < k→i' < M→C n i=C n' i'→n=n'∧i=i'
  ne:∀ n,n < k→I≠R n
  NA:H r=.arr 1 ((List.range M).map fun j=>[if j < i then .sl (D j) 0 M 1 else .emp 1])
  CF:∀ j,j < i→H (D j)=.arr 1 (List.replicate M [gb false])
  NO:∀ j j',j < i→j' < i→D j=D j'→j=j'
  Bc:I≠r∧(∀ n,n < k→R n≠r)∧∀ n q j,n < k→q < M→j < i→C n q≠D j
theorem Gz {M i:Nat} {F:Nat→List V} {v:List V} : ((List.range M).map F).set i v=(List.range M).map fun j=>if j=i then v else F j:=by
  apply List.ext_getElem (by simp)
  intro j h1 h2
  simp only[List.getElem_set,List.getElem_map,List.getElem_range]
  by_cases e:i=j
  · subst e; simp
  · rw[if_neg e,if_neg (Ne.symm e)]
theorem Nr.done {H:View} {I N M:Nat} {R:Nat→Nat} {C:Nat→Nat→Nat} (h:Nr H I N M N R C):pH H I N M R C (Nx N M):=by
  refine ⟨?_,h.row,fun n i hn hi=>?_,h.inj⟩
  · rw[h.top]
    congr 1
    apply List.map_congr_left
    intro n hn
    rw[if_pos (by simpa using hn)]
  · rw[h.cell n i hn hi]
    simp[Nx,List.getD_eq_getElem?_getD,hn,hi]
theorem D4.OR {H:View} {I N M k:Nat} {R:Nat→Nat} {C:Nat→Nat→Nat} {r:Nat} {D:Nat→Nat} (h:D4 H I N M k R C r M D):Nr H I N M (k+1) (fun n=>if n=k then r else R n) (fun n=>if n=k then D else C n):=by
  refine ⟨?_,fun n hn=>?_,fun n i hn hi=>?_,fun n i n' i' hn hi hn' hi' e=>?_,fun n hn=>?_⟩
  · rw[h.top]
    congr 1
    apply List.map_congr_left
    intro n _
    by_cases e1:n < k
    · rw[if_pos e1,if_pos (by omega),if_neg (by omega)]
    · by_cases e2:n=k
      · rw[if_neg e1,if_pos e2,if_pos (by omega),if_pos e2]
      · rw[if_neg e1,if_neg e2,if_neg (by omega)]
  · by_cases e:n=k
    · simp only[if_pos e]
      rw[h.NA]
      congr 1
      apply List.map_congr_left
      intro i hi
      rw[if_pos (by simpa using hi)]
    · simp only[if_neg e]; exact h.row n (by omega)
  · by_cases e:n=k
    · simp only[if_pos e]; exact h.CF i hi
    · simp only[if_neg e]; exact h.cell n i (by omega) hi
  · by_cases e1:n=k
    · by_cases e2:n'=k
      · simp only[if_pos e1,if_pos e2] at e
        exact ⟨by omega,h.NO i i' hi hi' e⟩
      · simp only[if_pos e1,if_neg e2] at e
        exact absurd e.symm (h.Bc.2.2 n' i' i (by omega) hi' hi)
    · by_cases e2:n'=k
      · simp only[if_neg e1,if_pos e2] at e
        exact absurd e (h.Bc.2.2 n i i' (by omega) hi hi')
      · simp only[if_neg e1,if_neg e2] at e
        exact h.inj n i n' i' (by omega) hi (by omega) hi' e
  · by_cases e:n=k
    · simp only[if_pos e]; exact h.Bc.1
    · simp only[if_neg e]; exact h.ne n (by omega)
theorem D4.next {H H':View} {I N M k:Nat} {R:Nat→Nat} {C:Nat→Nat→Nat} {r i d:Nat} {D:Nat→Nat} (h:D4 H I N M k R C r i D) (hN:0 < N) (hM:0 < M) (hd:H d=.dead)
    (hr':H' r=.arr 1 (((List.range M).map fun j=>[if j < i then V.sl (D j) 0 M 1 else .emp 1]).set i [.sl d 0 M 1])) (hd':H' d=.arr 1 (List.replicate M [gb false])) (ho:∀ id,H id≠.dead→id≠r→H' id=H id) :
    D4 H' I N M k R C r (i+1) (fun j=>if j=i then d else D j):=by
  have live:∀ id,H id≠.dead→id≠d:=fun id hid e=>by subst e; exact hid hd
  have boolr:∀ id,H id=.arr 1 (List.replicate M [gb false])→id≠r:=fun id hid e=>by
    rw[e,h.NA] at hid
    simp only[bI.arr.injEq,true_and] at hid
    have:=congrArg (·[0]?) hid
    simp[hM] at this
    split at this <;> simp at this
  refine ⟨?_,fun n hn=>?_,fun n q hn hq=>?_,h.inj,h.ne,?_,fun j hj=>?_,fun j j' hj hj' e=>?_,⟨h.Bc.1,h.Bc.2.1,fun n q j hn hq hj=>?_⟩⟩
  · rw[ho I (by rw[h.top]; simp) h.Bc.1]; exact h.top
  · rw[ho _ (by rw[h.row n hn]; simp) (h.Bc.2.1 n hn)]; exact h.row n hn
  · have:=h.cell n q hn hq
    rw[ho _ (by rw[this]; simp) (boolr _ this)]; exact this
  · rw[hr',Gz]
    congr 1
    apply List.map_congr_left
    intro j _
    by_cases e:j=i
    · rw[if_pos e,if_pos (by omega),if_pos e]
    · rw[if_neg e]
      by_cases e2:j < i
      · rw[if_pos e2,if_pos (by omega),if_neg e]
      · rw[if_neg e2,if_neg (by omega)]
  · by_cases e:j=i
    · simp only[if_pos e]; exact hd'
    · simp only[if_neg e]
      have:=h.CF j (by omega)
      rw[ho _ (by rw[this]; simp) (boolr _ this)]; exact this
  · by_cases e1:j=i
    · by_cases e2:j'=i
      · omega
      · simp only[if_pos e1,if_neg e2] at e
        exact absurd e.symm (live _ (by rw[h.CF j' (by omega)]; simp))
    · by_cases e2:j'=i
      · simp only[if_neg e1,if_pos e2] at e
        exact absurd e (live _ (by rw[h.CF j (by omega)]; simp))
      · simp only[if_neg e1,if_neg e2] at e
        exact h.NO j j' (by omega) (by omega) e
  · by_cases e:j=i
    · simp only[if_pos e]; exact live _ (by rw[h.cell n q hn hq]; simp)
    · simp only[if_neg e]; exact h.Bc.2.2 n q j hn hq (by omega)
structure uF.Ok (t:uF):Prop where
  cr:bo t.cr
  gotos:bo t.gotos
  row:∀ r∈t.cr,bo r∧∀ c∈r,bO c.kind∧bO c.n
  go:∀ r∈t.gotos,bo r∧∀ x∈r,bO x
structure bQ where
  aD:Int
  cB:Int
  rules:Int
  av:Int
def py:bQ:=⟨(-1),0,0,0⟩
def fI:bQ:=⟨0,0,0,0⟩
def cg (P:List bQ) (m:Nat):bQ:=P.getD m py
abbrev pb (x:Int):Nat:=(-1 - x).toNat
def fJ (P:List bQ):List Int→bQ→bQ × Bool
  | [],s=>(s,true)
  | x :: l,s=>if 0≤x then fJ P l ⟨s.aD,s.cB,s.rules,min 1048576 (s.av+1)⟩
    else if (cg P (pb x)).aD < 0 then (s,false)
    else fJ P l ⟨s.aD,max s.cB (cg P (pb x)).cB,min 1048576 (s.rules+(cg P (pb x)).rules),min 1048576 (s.av+(cg P (pb x)).av)⟩
def cL (P:List bQ) (m:Nat):Prop:=0≤(cg P m).aD
def ta (P:List bQ) (l:List Int):Prop:=∀ x∈l,x < 0→cL P (pb x)
theorem r5 (P:List bQ):∀ (l:List Int) (s:bQ),(fJ P l s).2=true↔ta P l
  | [],s=>by simp[fJ,ta]
  | x :: l,s=>by
    simp only[fJ,ta,List.mem_cons]
    by_cases h:0≤x
    · rw[if_pos h,r5 P l]
      refine ⟨fun k y hy hn=>?_,fun k y hy=>k y (.inr hy)⟩
      rcases hy with rfl | hy
      · omega
      · exact k y hy hn
    · rw[if_neg h]
      by_cases h2:(cg P (pb x)).aD < 0
      · rw[if_pos h2]
        simp only[Bool.false_eq_true,false_iff]
        intro k
        have:=k x (.inl rfl) (by omega)
        unfold cL at this; omega
      · rw[if_neg h2,r5 P l]
        refine ⟨fun k y hy hn=>?_,fun k y hy=>k y (.inr hy)⟩
        rcases hy with rfl | hy
        · unfold cL; omega
        · exact k y hy hn
theorem m5 (P:List bQ) (k:Int):∀ (l:List Int) (s:bQ),ta P l→((fJ P l s).1.cB≤k↔s.cB≤k∧∀ x∈l,x < 0→(cg P (pb x)).cB≤k)
  | [],s,_=>by simp[fJ]
  | x :: l,s,h=>by
    have hl:ta P l:=fun y hy=>h y (by simp[hy])
    simp only[fJ,List.mem_cons]
    by_cases h0:0≤x
    · rw[if_pos h0,m5 P k l _ hl]
      refine ⟨fun ⟨a,b⟩=>⟨a,fun y hy hn=>?_⟩,fun ⟨a,b⟩=>⟨a,fun y hy=>b y (.inr hy)⟩⟩
      rcases hy with rfl | hy
      · omega
      · exact b y hy hn
    · have:=h x (by simp) (by omega)
      unfold cL at this
      rw[if_neg h0,if_neg (by omega),m5 P k l _ hl]
      refine ⟨fun ⟨a,b⟩=>⟨by simp only at a; omega,fun y hy hn=>?_⟩,fun ⟨a,b⟩=>⟨by have:=b x (.inl rfl) (by omega); simp only; omega,fun y hy=>b y (.inr hy)⟩⟩
      rcases hy with rfl | hy
      · simp only at a; omega
      · exact b y hy hn
theorem vM (P:List bQ):∀ (l:List Int) (s:bQ),s.cB≤(fJ P l s).1.cB
  | [],s=>Int.le_refl _
  | x :: l,s=>by
    simp only[fJ]
    split
    · exact vM P l _
    · split
      · exact Int.le_refl _
      · have:=vM P l ⟨s.aD,max s.cB (cg P (pb x)).cB,min 1048576 (s.rules+(cg P (pb x)).rules),min 1048576 (s.av+(cg P (pb x)).av)⟩
        simp only at this ⊢; omega
def nE (P:List bQ) (i:Nat) (r:aL):bQ:=⟨i,(fJ P r.right fI).1.cB+1,min 1048576 ((fJ P r.right fI).1.rules+1),(fJ P r.right fI).1.av⟩
def Ct (P:List bQ) (i:Nat) (N:List bQ) (r:aL):List bQ :=
  if 0≤(cg N r.left.toNat).aD then N else if (fJ P r.right fI).2=true then N.set r.left.toNat (nE P i r) else N
def sS (P:List bQ):Nat→List bQ→List aL→List bQ
  | _,N,[]=>N
  | i,N,r :: l=>sS P (i+1) (Ct P i N r) l
def zE (rules:List aL) (P:List bQ):List bQ:=sS P 0 P rules
def lJ (P:List bQ) (m:Nat):Nat→List aL→Option bQ
  | _,[]=>none
  | i,r :: l=>if r.left.toNat=m∧(fJ P r.right fI).2=true then some (nE P i r) else lJ P m (i+1) l
theorem Gc {N:List bQ} {i m:Nat} {p:bQ} (hm:m < N.length):cg (N.set i p) m=if i=m then p else cg N m:=by
  simp only[cg,List.getD_eq_getElem?_getD,List.getElem?_set]
  split
  · rename_i e; subst e; simp[hm]
  · rfl
theorem B4 (P:List bQ) (i:Nat) (N:List bQ) (r:aL):(Ct P i N r).length=N.length:=by
  unfold Ct; split; · rfl
  split <;> simp
theorem BA (P:List bQ):∀ (l:List aL) (i:Nat) (N:List bQ),(sS P i N l).length=N.length
  | [],_,_=>rfl
  | r :: l,i,N=>by rw[sS,BA P l,B4]
theorem Ex (P:List bQ) (m:Nat):∀ (l:List aL) (i:Nat) (N:List bQ),m < N.length→cg (sS P i N l) m=if 0≤(cg N m).aD then cg N m else (lJ P m i l).getD (cg N m)
  | [],i,N,hm=>by simp[sS,lJ]
  | r :: l,i,N,hm=>by
    rw[sS,Ex P m l (i+1) _ (by rw[B4]; exact hm),lJ]
    unfold Ct
    by_cases h1:0≤(cg N r.left.toNat).aD
    · rw[if_pos h1]
      by_cases h2:r.left.toNat=m
      · subst h2
        rw[if_pos h1,if_pos h1]
      · rw[if_neg (c:=r.left.toNat=m∧_) (fun e=>h2 e.1)]
    · rw[if_neg h1]
      by_cases h3:(fJ P r.right fI).2=true
      · rw[if_pos h3]
        by_cases h2:r.left.toNat=m
        · subst h2
          rw[Gc hm,if_pos rfl,if_neg h1,if_pos (show (0:Int)≤(nE P i r).aD by simp only[nE]; omega),if_pos (c:=r.left.toNat=r.left.toNat∧_) (And.intro rfl h3)]
          rfl
        · rw[Gc hm,if_neg h2,if_neg (c:=r.left.toNat=m∧_) (fun e=>h2 e.1)]
      · rw[if_neg h3,if_neg (c:=r.left.toNat=m∧_) (fun e=>h3 e.2)]
theorem nf {P:List bQ} {m:Nat} : ∀ {l:List aL} {i:Nat} {p:bQ},lJ P m i l=some p→∃ (j:Nat) (r:aL),l[j]?=some r∧r.left.toNat=m∧ta P r.right∧p=nE P (i+j) r∧∀ (j':Nat) (r':aL),j' < j→l[j']?=some r'→r'.left.toNat=m→¬ ta P r'.right
  | [],i,p,h=>by simp[lJ] at h
  | r :: l,i,p,h=>by
    rw[lJ] at h
    by_cases hc:r.left.toNat=m∧(fJ P r.right fI).2=true
    · rw[if_pos hc] at h
      exact ⟨0,r,rfl,hc.1,(r5 P _ _).1 hc.2,by simpa using h.symm,fun j' r' hj=>by omega⟩
    · rw[if_neg hc] at h
      obtain ⟨j,r2,a,b,c,d,e⟩:=nf h
      refine ⟨j+1,r2,by simpa using a,b,c,by rw[d]; congr 1; omega,fun j' r' hj hr hl hk=>?_⟩
      cases j' with
      | zero =>
        simp at hr; subst hr
        exact hc ⟨hl,(r5 P _ _).2 hk⟩
      | succ j'=>exact e j' r' (by omega) (by simpa using hr) hl hk
theorem Bq {P:List bQ} {m:Nat} : ∀ {l:List aL} {i:Nat},lJ P m i l=none→∀ r∈l,r.left.toNat=m→¬ ta P r.right
  | [],i,h,r,hr,_,_=>by simp at hr
  | r :: l,i,h,r',hr,hl,hk=>by
    rw[lJ] at h
    by_cases hc:r.left.toNat=m∧(fJ P r.right fI).2=true
    · rw[if_pos hc] at h; simp at h
    · rw[if_neg hc] at h
      rcases List.mem_cons.1 hr with rfl | hr
      · exact hc ⟨hl,(r5 P _ _).2 hk⟩
      · exact Bq h r' hr hl hk
def bk (g:an) (k:Nat):List bQ:=iter (zE g.rules) k (List.replicate g.az.length py)
theorem BO {α:Type} (f:α→α):∀ (k:Nat) (x:α),iter f (k+1) x=f (iter f k x)
  | 0,x=>rfl
  | k+1,x=>by rw[iter,BO f k,iter]
theorem yz (g:an) (k:Nat):bk g (k+1)=zE g.rules (bk g k):=BO _ _ _
theorem kK (g:an):∀ k,(bk g k).length=g.az.length
  | 0=>by simp[bk,iter]
  | k+1=>by rw[yz,zE,BA,kK g k]
theorem rq {P:List bQ} {m:Nat} (h:P.length≤m):cg P m=py:=by simp[cg,List.getD_eq_getElem?_getD,List.getElem?_eq_none h]
theorem LU {P:List bQ} {m:Nat} (h:cL P m):m < P.length:=by
  rcases Nat.lt_or_ge m P.length with h1 | h1
  · exact h1
  · unfold cL at h; rw[rq h1] at h; simp[py] at h
theorem pQ (g:an) (k m:Nat):cg (bk g (k+1)) m=if 0≤(cg (bk g k) m).aD then cg (bk g k) m else if m < g.az.length then (lJ (bk g k) m 0 g.rules).getD (cg (bk g k) m) else cg (bk g k) m:=by
  by_cases hm:m < g.az.length
  · rw[yz,zE,Ex _ _ _ _ _ (by rw[kK]; exact hm),if_pos hm]
  · rw[if_neg hm,rq (by rw[kK]; omega),rq (by rw[kK]; omega)]
    simp
theorem Hs {g:an} {k m:Nat} (h:cL (bk g k) m):cg (bk g (k+1)) m=cg (bk g k) m:=by
  rw[pQ]; unfold cL at h; rw[if_pos h]
theorem wT {g:an} {k m:Nat} (h:cL (bk g k) m):∀ d,cg (bk g (k+d)) m=cg (bk g k) m
  | 0=>rfl
  | d+1=>by
    have ih:=wT h d
    have:cL (bk g (k+d)) m:=by unfold cL at h ⊢; rw[ih]; exact h
    rw[← ih,← Hs this]; rfl
theorem lu {g:an} {k m j:Nat} (h:cL (bk g k) m) (hj:k≤j):cg (bk g j) m=cg (bk g k) m∧cL (bk g j) m:=by
  obtain ⟨d,rfl⟩:∃ d,j=k+d:=⟨j - k,by omega⟩
  have:=wT h d
  exact ⟨this,by unfold cL at h ⊢; rw[this]; exact h⟩
theorem Bp {g:an} {k m:Nat} (h0:¬ cL (bk g k) m) (h:cL (bk g (k+1)) m):lJ (bk g k) m 0 g.rules=some (cg (bk g (k+1)) m):=by
  unfold cL at h h0
  rw[pQ,if_neg h0] at h
  rw[pQ,if_neg h0]
  split at h
  · rename_i hm
    rw[if_pos hm]
    cases hc:lJ (bk g k) m 0 g.rules with
    | none=>rw[hc] at h; exact absurd h h0
    | some p=>rfl
  · exact absurd h h0
theorem sL {g:an} {m:Nat} : ∀ {k:Nat},¬ cL (bk g k) m→cg (bk g k) m=py
  | 0,_=>by
    simp only[bk,iter,cg,List.getD_eq_getElem?_getD,List.getElem?_replicate]
    split <;> rfl
  | k+1,h=>by
    have h0:¬ cL (bk g k) m:=fun e=>h (lu e (by omega)).2
    unfold cL at h h0
    rw[pQ,if_neg h0] at h ⊢
    split
    · rename_i hm
      rw[if_pos hm] at h
      cases hc:lJ (bk g k) m 0 g.rules with
      | none=>exact sL (k:=k) h0
      | some p =>
        rw[hc] at h
        obtain ⟨j,r,_,_,_,rfl,_⟩:=nf hc
        simp only[Option.getD_some,nE] at h; omega
    · exact sL (k:=k) h0
theorem pq (g:an):∀ k:Nat,∀ m,cL (bk g k) m→1≤(cg (bk g k) m).cB∧(cg (bk g k) m).cB≤k∧∀ j:Nat,j≤k→(cg (bk g k) m).cB≤j→cL (bk g j) m
  | 0,m,h=>by
    unfold cL at h
    have:cg (bk g 0) m=py:=by
      simp only[bk,iter,cg,List.getD_eq_getElem?_getD,List.getElem?_replicate]
      split <;> rfl
    rw[this] at h; simp[py] at h
  | k+1,m,h=>by
    have ih:=pq g k
    by_cases h0:cL (bk g k) m
    · obtain ⟨a,b,c⟩:=ih m h0
      rw[(lu h0 (Nat.le_succ k)).1]
      refine ⟨a,by push_cast; omega,fun j hj hh=>?_⟩
      rcases Nat.lt_or_ge k j with e | e
      · exact (lu h0 (by omega)).2
      · exact c j e hh
    · have hc:=Bp h0 h
      obtain ⟨i,r,hr,hl,hk,hp,_⟩:=nf hc
      have hh:(cg (bk g (k+1)) m).cB=(fJ (bk g k) r.right fI).1.cB+1:=by rw[hp]; rfl
      have h1:=vM (bk g k) r.right fI
      have h2:=(m5 (bk g k) k r.right fI hk).2 ⟨by simp[fI],fun x hx hn=>(ih _ (hk x hx hn)).2.1⟩
      have h3:¬ (fJ (bk g k) r.right fI).1.cB≤(k:Int) - 1:=by
        intro hle
        have hz:(0:Int)≤(fJ (bk g k) r.right fI).1.cB:=h1
        obtain ⟨d,rfl⟩:∃ d,k=d+1:=⟨k - 1,by omega⟩
        have h4:=((m5 (bk g (d+1)) _ r.right fI hk).1 hle).2
        have h5:ta (bk g d) r.right:=fun x hx hn=>(ih _ (hk x hx hn)).2.2 d (by omega) (by have:=h4 x hx hn; push_cast at this; omega)
        apply h0
        by_cases h6:cL (bk g d) m
        · exact (lu h6 (by omega)).2
        · unfold cL at h6 ⊢
          have hm:=LU h
          rw[kK] at hm
          rw[pQ,if_neg h6,if_pos hm]
          cases hc2:lJ (bk g d) m 0 g.rules with
          | none=>exact absurd h5 (Bq hc2 r (List.mem_of_getElem? hr) hl)
          | some p =>
            obtain ⟨j,r2,_,_,_,rfl,_⟩:=nf hc2
            simp only[Option.getD_some,nE]; omega
      have hz:(0:Int)≤(fJ (bk g k) r.right fI).1.cB:=h1
      refine ⟨by omega,by push_cast; omega,fun j hj hle=>?_⟩
      have:j=k+1:=by omega
      subst this; exact h
def dB (g:an):List bQ:=bk g g.az.length
theorem u9 (g:an):(dB g).length=g.az.length:=kK _ _
theorem wO {g:an} {m:Nat} (h:cL (dB g) m):1≤(cg (dB g) m).cB∧(cg (dB g) m).cB≤g.az.length:=⟨(pq g _ m h).1,(pq g _ m h).2.1⟩
theorem C4 {g:an} {m:Nat} (h:¬ cL (dB g) m):cg (dB g) m=py:=sL h
def Nu (h:List Int) (m:Nat):Int:=h.getD m 0
abbrev NP (P:List bQ):List Int:=P.map bQ.cB
theorem MG (P:List bQ) (m:Nat):Nu (NP P) m=(cg P m).cB:=by
  simp only[Nu,cg,List.getD_eq_getElem?_getD,List.getElem?_map]
  cases P[m]? <;> rfl
def Mj (P:List bQ):Prop:=∀ m,(cL P m→1≤(cg P m).cB)∧(¬ cL P m→cg P m=py)
theorem Mj.zero {P:List bQ} (h:Mj P) (m:Nat):Nu (NP P) m=0↔¬ cL P m:=by
  rw[MG]
  constructor
  · intro e k; have:=(h m).1 k; omega
  · intro k; rw[(h m).2 k]; rfl
def px (S:List (Int × Int)) (m:Nat):Int × Int:=S.getD m (0,0)
def vf (p:bQ):Int × Int:=(min 1000 p.rules,min 1000 p.av)
def lA (p:bQ):Prop:=(0≤p.rules∧p.rules≤1048576)∧(0≤p.av∧p.av≤1048576)
theorem xI {P:List bQ} (hP:∀ m,lA (cg P m)):∀ (l:List Int) (s:bQ),lA s→lA (fJ P l s).1
  | [],s,h=>h
  | x :: l,s,h=>by
    have hx:=hP (pb x)
    unfold lA at h hx
    simp only[fJ]
    split
    · exact xI hP l _ (by unfold lA; simp only; omega)
    · split
      · exact h
      · exact xI hP l _ (by unfold lA; simp only; omega)
theorem KB:lA fI:=by unfold lA; simp[fI]
theorem Jf:lA py:=by unfold lA; simp[py]
theorem uI (g:an):∀ k m,lA (cg (bk g k) m)
  | 0,m=>by
    have:cg (bk g 0) m=py:=by
      simp only[bk,iter,cg,List.getD_eq_getElem?_getD,List.getElem?_replicate]
      split <;> rfl
    rw[this]; exact Jf
  | k+1,m=>by
    by_cases h:cL (bk g (k+1)) m
    · by_cases h0:cL (bk g k) m
      · rw[(lu h0 (Nat.le_succ k)).1]; exact uI g k m
      · obtain ⟨i,r,_,_,_,hp,_⟩:=nf (Bp h0 h)
        rw[hp]
        have:=xI (uI g k) r.right fI KB
        unfold lA at this ⊢
        simp only[nE]; omega
    · rw[sL h]; exact Jf
inductive vz (g:an):List Int→List Int→List Int→Prop
  | nil:vz g [] [] []
  | term (s:Int) (l t w:List Int):0≤s→vz g l t w→vz g (s :: l) t (s :: w)
  | dK (s:Int) (l:List Int) (k:Nat) (R:aL) (t1 w1 t w:List Int):s < 0→g.rules[k]?=some R→R.left = -1 - s→vz g R.right t1 w1→vz g l t w→vz g (s :: l) (((k:Int) :: t1) ++ t) (w1 ++ w)
theorem vz.app {g:an} {a t w:List Int} (h:vz g a t w) {b t' w':List Int} (k:vz g b t' w'):vz g (a ++ b) (t ++ t') (w ++ w'):=by
  induction h with
  | nil=>exact k
  | term s l t w h0 _ ih=>exact .term s _ _ _ h0 ih
  | dK s l k R t1 w1 t w h0 hR hl h1 _ _ ih =>
    have:=vz.dK s _ k R t1 w1 _ _ h0 hR hl h1 ih
    simpa using this
structure Wk where
  rest:List Int
  word:List Int
  post:List Int
  high:Nat
structure Way where
  dK:Int
  aD:Int
  place:Int
def kg (F:List Way):List Int:=F.map Way.dK
structure qx (g:an) (F:List Way):Prop where
  first:F[0]?=some ⟨g.start,-1,0⟩
  nodup:(kg F).Nodup
  from_:∀ i x,F[i]?=some x→0 < i→∃ (k j:Nat) (R:aL),x.aD=(k:Int)∧x.place=(j:Int)∧g.rules[k]?=some R∧R.right[j]?=some (-1 - x.dK)∧0≤x.dK∧∃ m y,m < i∧F[m]?=some y∧y.dK=R.left
theorem qx.pre {g:an} {F:List Way} (h:qx g F) {i m:Nat} {x:Way} (hx:F[i]?=some x) (w:Way):(F ++ [w])[i]?=some x:=by
  rw[List.getElem?_append_left (List.getElem?_eq_some_iff.1 hx).1]; exact hx
theorem qx.inside {g:an} {F:List Way} (h:qx g F) (h0:0≤g.start∧g.start < g.az.length) (hs:∀ R∈g.rules,∀ s∈R.right,s < 0→-1 - s < g.az.length):∀ n∈kg F,0≤n∧n < g.az.length:=by
  intro n hn
  simp only[kg,List.mem_map] at hn
  obtain ⟨x,hx,rfl⟩:=hn
  obtain ⟨i,hi⟩:=List.mem_iff_getElem?.1 hx
  by_cases hi0:i=0
  · subst hi0
    rw[h.first] at hi
    simp at hi; subst hi
    exact h0
  · obtain ⟨k,j,R,_,_,h3,h4,h5,_⟩:=h.from_ i x hi (by omega)
    have:=hs R (List.mem_of_getElem? h3) _ (List.mem_of_getElem? h4) (by omega)
    omega
theorem qx.len {g:an} {F:List Way} (h:qx g F) (h0:0≤g.start∧g.start < g.az.length) (hs:∀ R∈g.rules,∀ s∈R.right,s < 0→-1 - s < g.az.length):F.length≤g.az.length:=by
  have:=oo h.nodup (h.inside h0 hs)
  simpa [kg] using this
def lookW (F:List Way) (n:Int):Option Way:=F.find? fun x=>x.dK == n
def Ef (F:List Way) (n:Int):Nat:=F.findIdx fun x=>x.dK == n
theorem M9 {F:List Way} {n:Int} (h:n∈kg F):∃ x,lookW F n=some x∧F[Ef F n]?=some x∧x.dK=n:=by
  induction F with
  | nil=>simp[kg] at h
  | cons y F ih =>
    by_cases e:y.dK=n
    · exact ⟨y,by simp[lookW,e],by simp[Ef,List.findIdx_cons,e],e⟩
    · have h':n∈kg F:=by
        simp only[kg,List.map_cons,List.mem_cons] at h ⊢
        rcases h with h | h
        · exact absurd h.symm e
        · exact h
      obtain ⟨x,h1,h2,h3⟩:=ih h'
      refine ⟨x,by simpa [lookW,e] using h1,?_,h3⟩
      have:Ef (y :: F) n=Ef F n+1:=by simp[Ef,List.findIdx_cons,show (y.dK == n)=false by simpa using e]
      rw[this]; simpa using h2
def O4 (g:an) (rest:List Int) (uw up:V):List V:=[.aK (g.av.map cX),.aK (g.az.map fun s=>[gs s]),.aK (g.rules.map bm),gi g.start,encI rest,uw,up]
def NC (g:an) (b:Nat) (rest W Po:List Int) (H:View):Prop:=∃ uw up,bf H [(.sl b 0 1 7,7,[O4 g rest uw up]),(uw,1,dA W),(up,1,dA Po)]
def L2 (g:an) (b:Nat) (o:Option Wk) (W Po:List Int) (r:V) (H:View):Prop:=match o with
  | some x=>r=gi x.high∧NC g b x.rest (W ++ x.word) (Po ++ x.post) H
  | none=>r=gi 0∧∃ rest W Po,rest.length≤300∧NC g b rest W Po H
theorem L2.bad {g:an} {b:Nat} {W Po W' Po' rest:List Int} {H:View} (hl:rest.length≤300) (h:NC g b rest W' Po' H):L2 g b none W Po (gi 0) H:=⟨rfl,rest,W',Po',hl,h⟩
theorem Nv:p7.Ok:=by
  refine ⟨by unfold bo; decide,by unfold bo; decide,by unfold bo; decide,by unfold bO; decide,?_,?_⟩
  · intro t ht; simp[p7] at ht
  · intro r hr; simp[p7] at hr
theorem rM:∀ (l:List aL) (acc:List Int),(l.foldl dV acc).length≤acc.length+l.length
  | [],acc=>by simp
  | r :: l,acc=>by
    have h1:=rM l (dV acc r)
    have h2:(dV acc r).length≤acc.length+1:=by unfold dV; split <;> simp
    simp only[List.foldl_cons,List.length_cons]
    omega
theorem Lf (p q:List Bool) (l:List aL):(cO p q l).length≤l.length:=by
  have h1:=rM (l.filter (bJ p q)) []
  have h2:=List.length_filter_le (bJ p q) l
  unfold cO
  simp only[List.length_nil] at h1
  omega
theorem MD {g:an} (hg:g.Ok) (p q:List Bool):(ki g (bP (cO p q g.rules)) p q).Ok:=by
  have ho:=Lf p q g.rules
  have h3:=hg.rules
  unfold bo at h3
  have hb:∀ x,bO (bP (cO p q g.rules) x):=fun x=>by
    have:=FF (cO p q g.rules) x
    unfold bO; omega
  have hb2:∀ x,bO (-1 - bP (cO p q g.rules) x):=fun x=>by
    have:=FF (cO p q g.rules) x
    unfold bO; omega
  refine ⟨hg.av,?_,?_,hb _,hg.term,fun r hr=>?_⟩
  · unfold bo; simp only[ki,List.length_map]; omega
  · have:=List.length_filter_le (bJ p q) g.rules
    unfold bo; simp only[ki,List.length_map]; omega
  · simp only[ki,List.mem_map,List.mem_filter] at hr
    obtain ⟨r0,⟨h0,_⟩,rfl⟩:=hr
    obtain ⟨_,i2,i3,i4⟩:=hg.aD r0 h0
    refine ⟨hb _,i2,by unfold bo at i3 ⊢; simpa [bA] using i3,fun x hx=>?_⟩
    simp only[bA,List.mem_map] at hx
    obtain ⟨s,hs,rfl⟩:=hx
    split
    · exact hb2 _
    · exact i4 s hs
section
variable {g r:an} {p q:List Bool} {o:List Int}
theorem dT.ok (h:dT g p q o r) (hg:g.Ok):r.Ok:=by
  have:=MD hg p q
  rw[← h.oe,← h.re] at this
  exact this
theorem dT.small (h:dT g p q o r) (hs:g.Small):r.Small:=by
  have:=oo h.nodup h.inside
  have:=hs.names
  exact ⟨by rw[h.len,h.av]; omega⟩
end
theorem bytes_beq (a b:ByteArray):(a == b)=decide (a=b):=by
  cases a with | mk a=>cases b with | mk b =>
  rw[Bool.eq_iff_iff]
  show (ByteArray.beq ⟨a⟩ ⟨b⟩=true)↔_
  simp only[ByteArray.beq]
  simp
theorem J7 (a b:ByteArray):gB a b=decide (a=b):=by
  cases a with | mk a=>cases b with | mk b =>
  rw[Bool.eq_iff_iff]
  simp[gB]
theorem v7 {α:Type} {a b:List α} {i:Nat} {x y:α} (hx:a[i]?=some x) (hy:b[i]?=some y) (h:a.take i=b.take i) (e:x=y):a.take (i+1)=b.take (i+1):=by
  rw[List.take_add_one,List.take_add_one,h,hx,hy,e]
theorem yL {α:Type} {a b:List α} {i:Nat} (ha:a.length≤i) (hb:b.length≤i) (h:a.take i=b.take i):a=b:=by
  rwa [List.take_of_length_le ha,List.take_of_length_le hb] at h
theorem CA {α:Type} {a b:List α} {i:Nat} {x y:α} (hx:a[i]?=some x) (hy:b[i]?=some y) (e:x≠y):a≠b:=by
  rintro rfl; rw[hx] at hy; exact e (by simpa using hy)
theorem yG {α:Type} {a b:List α} (h:¬ a.length=b.length):a≠b:=fun e=>h (by rw[e])
theorem EZ (x y:Term):fB Tryz.prog 9998 #[.string x.name,.int .i64 x.level,.int .i64 x.assoc] #[.string y.name,.int .i64 y.level,.int .i64 y.assoc]
    [{ name:= "Name",type:=9,offset:=0,embedded:=false,tag:= "",pkgPath:= "",byteOffset:=0 },{ name:= "Level",type:=3,offset:=1,embedded:=false,tag:= "",pkgPath:= "",byteOffset:=16 },
        { name:= "Assoc",type:=3,offset:=2,embedded:=false,tag:= "",pkgPath:= "",byteOffset:=24 }] (x.name == y.name && (x.level == y.level && (x.assoc == y.assoc && true))) :=
  .str _ _ _ _ _ (by decide) Tryz.underlying9 rfl rfl (.int _ _ _ _ _ _ (by decide) Tryz.underlying3 rfl rfl (.int _ _ _ _ _ _ (by decide) Tryz.underlying3 rfl rfl .nil))
theorem MZ (x y:Term):(x.name == y.name && (x.level == y.level && (x.assoc == y.assoc && true)))=decide (x=y):=by
  rw[bytes_beq,Bool.eq_iff_iff]
  cases x; cases y
  simp
theorem M6 (a b:Int):(a == b)=decide (a=b):=by rw[Bool.eq_iff_iff]; simp
theorem Lr (x y:aL):decide (x=y)=(decide (x.left=y.left) && (decide (x.prec=y.prec) && decide (x.right=y.right))):=by
  cases x; cases y
  rw[Bool.eq_iff_iff]
  simp[and_comm]
theorem K6 (x y:an):decide (x=y)=(decide (x.av=y.av) && (decide (x.az=y.az) && (decide (x.rules=y.rules) && decide (x.start=y.start)))):=by
  cases x; cases y
  rw[Bool.eq_iff_iff]
  simp
theorem Ju (g k:an):∀ v∈[V.agg (aw g),V.agg (aw k)],Tree v:=by
  intro v hv; simp at hv
  rcases hv with rfl | rfl <;> exact cI _ (dr _)
end Gv
