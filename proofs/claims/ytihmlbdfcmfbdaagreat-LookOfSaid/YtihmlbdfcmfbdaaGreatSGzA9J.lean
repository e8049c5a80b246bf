/-
  Part 10 of the proof: what the machine does and what the functions answer.
  Conditions: those that each lemma names.
-/
import Derived.Test.YtihmlbdfcmfbdaaGreatSGzA9I
set_option linter.unusedSimpArgs false
set_option linter.unusedVariables false
set_option maxRecDepth 100000
namespace Gv
open Go Go.Proofs
def tE:SC :=
 .seq (ao [bc 44 .lss 43 42]) <|
 .seq (.cond (.tmp 44) (.skip) (.exit 0)) <|
 .seq (.block 1 (.seq (ao [aj 45 43,aP 46 3 41 43,bp 47 3 46,((some 11),.op (.alloc [(.val (.int .i64 0)),(.emp 1),(.val (.int .i64 0))])),aj 10 45,(none,.op (.store 3 (.tmp 11) (.tmp 47)))]) <|
 .seq (.seq (.region false [⟨none,[aj 48 6,aB 49 0 11,ax 50 49,aP 51 1 48 50,ax 52 51,dd 53 52,aj 54 53]⟩,⟨(some (54,false)),[bp 55 3 11,aj 56 5,bC 57 160 [55,56],dd 58 57]⟩,⟨none,[c6 59 54 58]⟩]) <|
 .cond (.tmp 59) (.exit 1) (.skip)) <|
 .seq (ao [aj 60 7,aj 61 10,((some 62),.op (.cg 1 1 [(.val (.int .i64 0))] [(0,(.tmp 61))])),((some 63),.op (.app 1 8 (.tmp 60) (.tmp 62))),aj 7 63]) <|
 .seq (ao [aj 65 9,aB 66 0 11,ax 67 66,((some 68),.op (.old (.lookup 204 (.tmp 65) (.tmp 67) true) 30)),aj 64 68,fK 69 0 64,fK 70 1 64,aj 12 69,aj 13 70]) <|
 .seq (ao [aj 71 13,dd 72 71]) <|
 .cond (.tmp 72) (.seq (ao [aj 73 9,aB 74 0 11,ax 75 74,aB 76 1 8,ax 77 76,aX 78 77,(none,.op (.old (.mapUpdate 204 (.tmp 73) (.tmp 75) (.tmp 78)) 0))]) <|
 .region false [⟨none,[aB 79 1 8,ax 80 79,aB 81 1 1,ax 82 81,aB 83 0 11,ax 84 83,aP 85 1 82 84,ax 86 85,((some 87),.op (.cg 1 1 [(.val (.string ⟨#[]⟩))] [(0,(.tmp 86))])),((some 88),.op (.app 1 16 (.tmp 80) (.tmp 87))),aB 89 1 8,(none,.op (.store 1 (.tmp 89) (.tmp 88)))]⟩]) (.skip))) <|
 ao [aQ 90 .add 43 1,aj 43 90]
def uk:SC :=
 .seq (ao [bc 116 .lss 115 114]) <|
 .seq (.cond (.tmp 116) (.skip) (.exit 4)) <|
 .seq (.block 5 (.seq (ao [aj 117 115,aP 118 1 113 115,ax 119 118,aj 18 117,aj 19 119]) <|
 .seq (ao [aj 120 19,aQ 121 .lss 120 0]) <|
 .cond (.tmp 121) (ao [aB 122 1 17,ax 123 122,aj 124 18,aj 125 9,aj 126 19,((some 127),.op (.arith .sub (.val (.val (.int .i64 (-1)))) (.tmp 126))),((some 128),.op (.old (.lookup 204 (.tmp 125) (.tmp 127) false) 3)),((some 129),.op (.arith .sub (.val (.val (.int .i64 (-1)))) (.tmp 128))),aP 130 1 123 124,(none,.op (.store 1 (.tmp 130) (.tmp 129)))]) (.skip))) <|
 ao [aQ 131 .add 115 1,aj 115 131]
def ug:SC :=
 .seq (ao [bc 94 .lss 93 92]) <|
 .seq (.cond (.tmp 94) (.skip) (.exit 2)) <|
 .seq (.block 3 (.seq (ao [aP 95 1 91 93,ax 96 95,aj 15 96]) <|
 .seq (ao [aB 97 2 1,ax 98 97,aj 99 15,aP 100 3 98 99,bp 101 3 100,((some 16),.op (.alloc [(.val (.int .i64 0)),(.emp 1),(.val (.int .i64 0))])),(none,.op (.store 3 (.tmp 16) (.tmp 101)))]) <|
 .seq (.region true [⟨none,[aj 102 9,aB 103 0 16,ax 104 103,((some 105),.op (.old (.lookup 204 (.tmp 102) (.tmp 104) false) 3)),aB 106 1 16,ax 107 106,bC 108 161 [107],aB 109 2 16,ax 110 109,((some 111),.op (.build [(.val (.int .i64 0)),(.emp 1),(.val (.int .i64 0))] [(0,1,(.tmp 105)),(1,1,(.tmp 108)),(2,1,(.tmp 110))])),((some 17),.op (.alloc [(.val (.int .i64 0)),(.emp 1),(.val (.int .i64 0))])),(none,.op (.store 3 (.tmp 17) (.tmp 111)))]⟩]) <|
 .seq (.seq (ao [aB 112 1 17,ax 113 112,aX 114 113,bj 115 0]) <|
 .block 4 (.loop uk)) <|
 ao [aB 132 2 8,ax 133 132,bp 134 3 17,((some 135),.op (.cg 1 3 [(.val (.int .i64 0)),(.emp 1),(.val (.int .i64 0))] [(0,(.tmp 134))])),((some 136),.op (.app 3 40 (.tmp 133) (.tmp 135))),aB 137 2 8,(none,.op (.store 1 (.tmp 137) (.tmp 136)))])) <|
 ao [aQ 138 .add 93 1,aj 93 138]
def xE:SF:=⟨.seq (ao [cL 1 0,((some 2),.op (.alloc [(.emp 1),(.emp 1),(.emp 1),(.val (.int .i64 0))])),((some 3),.op (.bL (.val (.emp 1)))),bj 4 0]) <|
 .seq (.seq (ao [bp 20 4 1,bC 21 52 [20],dd 22 21]) <|
 .cond (.tmp 22) (.seq (ao [((some 23),.op (.build [(.emp 1),(.emp 1),(.emp 1),(.val (.int .i64 0))] [])),(none,.op (.store 4 (.tmp 2) (.tmp 23))),((some 3),.op (.bL (.val (.emp 1)))),bj 4 1]) <|
 .ret) (.skip)) <|
 .seq (.region true [⟨none,[bp 24 4 1,bC 25 157 [24],bp 26 4 1,bC 27 158 [26],aj 5 25,aj 6 27]⟩]) <|
 .seq (.seq (ao [aj 28 5,aB 29 3 1,ax 30 29,aP 31 1 28 30,ax 32 31,dd 33 32]) <|
 .cond (.tmp 33) (.seq (ao [((some 34),.op (.build [(.emp 1),(.emp 1),(.emp 1),(.val (.int .i64 0))] [])),(none,.op (.store 4 (.tmp 2) (.tmp 34))),((some 3),.op (.bL (.val (.emp 1)))),bj 4 9]) <|
 .ret) (.skip)) <|
 .seq (ao [((some 7),.op (.bL (.val (.emp 1))))]) <|
 .seq (ao [aB 35 0 1,ax 36 35,bC 37 159 [36],((some 38),.op (.build [(.emp 1),(.emp 1),(.emp 1),(.val (.int .i64 0))] [(0,1,(.tmp 37))])),((some 8),.op (.alloc [(.emp 1),(.emp 1),(.emp 1),(.val (.int .i64 0))])),(none,.op (.store 4 (.tmp 8) (.tmp 38)))]) <|
 .seq (ao [((some 39),.op (.nM)),aj 9 39]) <|
 .seq (.seq (ao [aB 40 2 1,ax 41 40,aX 42 41,bj 43 0]) <|
 .block 0 (.loop tE)) <|
 .seq (.seq (ao [aj 91 7,aX 92 91,bj 93 0]) <|
 .block 2 (.loop ug)) <|
 .seq (ao [aj 139 9,aB 140 3 1,ax 141 140,((some 142),.op (.old (.lookup 204 (.tmp 139) (.tmp 141) false) 3)),aB 143 3 8,(none,.op (.store 1 (.tmp 143) (.tmp 142)))]) <|
 .seq (ao [bp 144 4 8,aj 145 7,(none,.op (.store 4 (.tmp 2) (.tmp 144))),aj 3 145,bj 4 0]) <|
 .ret,
 [.cell 2 (some 4),.tmp 3,.tmp 4],146⟩
theorem Bn:aV Tryz.prog 109 [1]=some xE:=by kernel_rfl
abbrev yQ (m:bU Int):List (V × V × Nat):=cx (Value.int .i64) m
def Su (g:aw) (p q:List Bool) (b2 b8 b9:Nat) (u0:V) (i:Nat) (T:Env) (H:View):Prop :=
 (∃ u1 u3:V,T 7=u3∧(∀ x∈cy p q (g.rules.take i),0≤x∧x < g.az.length)∧(cy p q (g.rules.take i)).length≤i ∧
  bt H [(.sl b8 0 1 4,4,[[u0,u1,.emp 1,gi 0]]),(u3,1,cb (c8 p q (g.rules.take i) 0)),
   (u1,1,iP ((cy p q (g.rules.take i)).map fun x=>g.az.getD x.toNat ⟨#[]⟩)),(u0,3,g.ay.map b6),(.sl b2 0 1 4,4,[[.emp 1,.emp 1,.emp 1,gi 0]])] ∧
  ∃ m c,H b9=.map (yQ m) c∧oC gi (jJ (cy p q (g.rules.take i)) 0) m) ∧
 T 1=.aN (au g) 0∧T 2=.ptr b2 0 0∧T 5=bP p∧T 6=bP q∧T 8=.ptr b8 0 0∧T 9=.mp b9∧T 41=.aK (g.rules.map aO)∧T 42=gi g.rules.length∧T 43=gi i
theorem Dv {α:Type} {x s:α} : ∀ {a d:List α} {k:Nat},a.length=k→(a ++ s :: d).set k x=a ++ x :: d
 | [],d,k,h=>by simp at h; subst h; rfl
 | y :: a,d,k,h=>by
  cases k with
  | zero=>simp at h
  | succ k=>simp only[VL,List.set_cons_succ]; rw[Dv (by simpa using h)]
def UK (g:aw) (p q:List Bool) (b2 b8 b9:Nat) (u0 u1 u3:V) (o kl:List Int) (mm:bU Int) (cc:Nat) (i:Nat) (T:Env) (H:View):Prop :=
 (∃ (u2:V) (bs:tA),bs.map (·.2)=((g.rules.filter (ct p q)).take i).map (bY (ep o)) ∧
  bt H ((.sl b8 0 1 4,4,[[u0,u1,u2,gi 0]]) :: (u3,1,cb kl) ::
   (u1,1,iP (o.map fun x=>g.az.getD x.toNat ⟨#[]⟩)) :: (u0,3,g.ay.map b6) :: (u2,3,e9 bs) :: (.sl b2 0 1 4,4,[[.emp 1,.emp 1,.emp 1,gi 0]]) :: iG bs) ∧
  H b9=.map (yQ mm) cc) ∧
 T 1=.aN (au g) 0∧T 2=.ptr b2 0 0∧T 7=u3∧T 8=.ptr b8 0 0∧T 9=.mp b9∧T 91=u3∧T 92=gi kl.length∧T 93=gi i
def Uu (g:aw) (b2 b8 b9 b16 b17:Nat) (u3 v:V) (o kl:List Int) (mm:bU Int) (cc:Nat) (r:bw) (L:List cz) (i k:Nat) (T:Env) (H:View):Prop :=
 bt H ((.sl b17 0 1 3,3,[[gi (ep o r.left),v,gi r.prec]]) :: (v,1,cb ((bY (ep o) r).right.take k ++ r.right.drop k)) :: (.sl b16 0 1 3,3,[aO r]) :: L) ∧
 H b9=.map (yQ mm) cc∧T 1=.aN (au g) 0∧T 2=.ptr b2 0 0∧T 7=u3∧T 8=.ptr b8 0 0∧T 9=.mp b9∧T 91=u3∧T 92=gi kl.length∧T 93=gi i∧T 17=.ptr b17 0 0∧T 113=v∧T 114=gi r.right.length∧T 115=gi k
set_option maxHeartbeats 8000000 in
theorem IW (g:aw) (hg:g.Ok) (hs:g.Small):cR Tryz.prog 109 [.agg (au g)] (wW (if bS g=true then
  if (aA g true).getD g.start.toNat false=true then (rp g (ep (cy (aA g true) (ca g) g.rules)) (aA g true) (ca g),c8 (aA g true) (ca g) g.rules 0,0)
  else (uW,[],9)
 else (uW,[],1))):=by
 refine cR.of (dZ g) ?_
 refine aC.of mixed Bn ?_
 simp (disch:=omega) only [↓wr,seval,wq,ah,ag,ak,aa,ab,af,ai,ae,xE,au,encS]
 intro b2
 try simp (disch:=omega) only [↓wr,seval,wq,ah,ag,ak,aa,ab,af,ai,ae,au,encS]
 refine aD.pure (ub g hg hs.names) (by kernel_rfl) ?_
 repeat' (first | (refine av.dec (fun _=>?_) (fun _=>?_)) | (refine av.eq (fun _=>?_) (fun _=>?_)) | (refine av.ne (fun _=>?_) (fun _=>?_)) | (refine av.split (fun _=>?_) (fun _=>?_)) | (simp (disch:=omega) only [↓wr,seval,wq,ah,ag,ak,aa,ab,af,ai,ae,au,encS,set_set]))
 ·rename_i hr
  rw[Vd hr]
  refine aD.pure (vf g hg hs).pure (by kernel_rfl) ?_
  simp (disch:=omega) only [↓wr,seval,wq,ah,ag,ak,aa,ab,af,ai,ae,au,encS]
  refine aD.pure (FJ g hg hs).pure (by kernel_rfl) ?_
  have hf:=bO hr
  have h3:=hf.me
  have h4:=hf.start
  have hpl:=fk hr true
  have hql:=pW hr
  generalize aA g true=p at hpl ⊢
  generalize ca g=q at hql ⊢
  have hps:p[g.start.toNat]?=some (p[g.start.toNat]'(by omega)):=U9 (by omega)
  have hpd:p.getD g.start.toNat false=p[g.start.toNat]'(by omega):=by simp[U8,hps]
  generalize p[g.start.toNat]'(by omega)=s at hps hpd
  rw[hpd]
  simp (disch:=omega) only [↓wr,seval,wq,ah,ag,ak,aa,ab,af,ai,ae,au,encS,bP,Vc,hps]
  cases s with
  | false =>
   simp (disch:=omega) only [↓wr,seval,wq,ah,ag,ak,aa,ab,af,ai,ae,au,encS,set_set]
   rintro h' hh
   exact wi
  | true =>
   simp (disch:=omega) only [↓wr,seval,wq,ah,ag,ak,aa,ab,af,ai,ae,au,encS,set_set]
   have hN:=hf.az
   have hN1:=hf.p9
   have hT:=hf.ay
   have hR:=hf.rules
   refine aD.dP ((NV g.ay (by omega) _).mono ?_)
   rintro u0 H1 ⟨hu0,hfr⟩
   have ho1:=(bt.nil.new (H:=fun _=>cZ.dead) (n:=b2) rfl 4 [[.emp 1,.emp 1,.emp 1,gi 0]]).G4 hu0 hfr
   have c0:=ho1.head.cells
   have k0:=ho1.head.gR
   simp (disch:=omega) only [↓wr,seval,wq,ah,ag,ak,aa,ab,af,ai,ae,au,encS,c0,k0]
   intro b8 hb8
   have ho2:=ho1.new hb8 4 [[u0,.emp 1,.emp 1,gi 0]]
   try simp (disch:=omega) only [↓wr,seval,wq,ah,ag,ak,aa,ab,af,ai,ae,au,encS,c0,k0,set_set]
   intro b9 hb9
   have hb98:=(de hb9 c7).1
   have hb9:=(de (de hb9 c7).2 c7).2
   have ho3:=(((ho2.fresh (n:=b9) (o:=.map [] 0) (by simp only[View.set,Va hb98]; exact hb9)).emp (k:=1) (sz:=1)).emp (k:=1) (sz:=1)).perm HZ.symm
   try simp (disch:=omega) only [↓wr,seval,wq,ah,ag,ak,aa,ab,af,ai,ae,au,encS,c0,k0,set_set]
   refine aZ.up g.rules.length (Su g p q b2 b8 b9 u0) ?_ ?_
   ·refine ⟨⟨.emp 1,.emp 1,rfl,by simp[cy],by simp[cy],by rw[set_set]; exact ho3,[],0,by simp[View.set,cx],trivial⟩,rfl,rfl,rfl,rfl,rfl,rfl,rfl,rfl,rfl⟩
   clear ho1 ho2 ho3 hb8 hb9 hb98
   rintro i k T H2 hk ⟨⟨u1,u3,t7,hin,holen,ho,mm,cc,h9,hm9⟩,t1,t2,t5,t6,t8,t9,t41,t42,t43⟩
   simp (disch:=omega) only [↓wr,seval,wq,ah,ag,ak,aa,ab,af,ai,ae,tE,t1,t2,t5,t6,t7,t8,t9,t41,t42,t43,au]
   refine av.dec (fun hc=>?_) (fun hc=>?_)
   ·have hg2:g.rules[i]?=some (g.rules[i]'(by omega)):=U9 (by omega)
    have hmem:g.rules[i]'(by omega)∈g.rules:=Vi _
    have htk:g.rules.take (i+1)=g.rules.take i ++ [g.rules[i]'(by omega)]:=by rw[Vx,hg2]; rfl
    generalize g.rules[i]'(by omega)=r at hg2 hmem htk
    obtain ⟨hl1,hl2,hl3,hr6,hsy⟩:=hf.tb hg hmem
    have hqs:q[r.left.toNat]?=some (q[r.left.toNat]'(by omega)):=U9 (by omega)
    have ky:q.getD r.left.toNat false=q[r.left.toNat]'(by omega):=by simp[U8,hqs]
    generalize q[r.left.toNat]'(by omega)=qs at hqs ky
    simp (disch:=omega) only [↓wr,seval,wq,ah,ag,ak,aa,ab,af,ai,ae,t1,t2,t5,t6,t7,t8,t9,t41,t42,t43,aO,encI,Vc,hg2]
    intro b11 hb11
    have hoA:=ho.new hb11 3 [aO r]
    have n911:b9≠b11:=by rintro rfl; rw[h9] at hb11; simp at hb11
    try simp (disch:=omega) only [↓wr,seval,wq,ah,ag,ak,aa,ab,af,ai,ae,t1,t2,t5,t6,t7,t8,t9,t41,t42,t43,aO,encI,bP,Vc,hqs,set_set]
    have hskip:∀ (T2:Env) (H':View),ct p q r=false→H'=H2.set b11 (.arr 3 [aO r])→T2 7=u3→T2 1=.aN (au g) 0→T2 2=.ptr b2 0 0→T2 5=bP p→T2 6=bP q→T2 8=.ptr b8 0 0→T2 9=.mp b9→T2 41=.aK (g.rules.map aO)→T2 42=gi g.rules.length→T2 43=gi ((i:Int)+1) →
      ∃ k',k' < k∧Cn g.rules.length k' (Su g p q b2 b8 b9 u0) T2 H':=by
     intro T2 H' hkr hH' a7 a1 a2 a5 a6 a8 a9 a41 a42 a43
     have e1:cy p q (g.rules.take (i+1))=cy p q (g.rules.take i):=by rw[htk,tZ,Va (by simp[hkr])]
     have e2:c8 p q (g.rules.take (i+1)) 0=c8 p q (g.rules.take i) 0:=by rw[htk,kI]; simp[c8,hkr]
     refine aM hk (by omega) ⟨⟨u1,u3,a7,by rw[e1]; exact hin,by rw[e1]; omega,by rw[e1,e2,hH']; exact hoA.tail,mm,cc,by rw[hH']; simp[View.set,n911,h9],by rw[e1]; exact hm9⟩,a1,a2,a5,a6,a8,a9,a41,a42,by rw[a43]; rfl⟩
    cases qs with
    | false =>
     simp (disch:=omega) only [↓wr,seval,wq,ah,ag,ak,aa,ab,af,ai,ae,t1,t2,t5,t6,t7,t8,t9,t41,t42,t43]
     refine hskip _ _ (by rw[ct,ky]; rfl) ?_ ?_ ?_ ?_ ?_ ?_ ?_ ?_ ?_ ?_ ?_
     all_goals first | exact t7 | exact t1 | exact t2 | exact t5 | exact t6 | exact t8 | exact t9 | exact t41 | exact t42 | rfl | (rw[set_set]; rfl)
    | true =>
     simp (disch:=omega) only [↓wr,seval,wq,ah,ag,ak,aa,ab,af,ai,ae,t1,t2,t5,t6,t7,t8,t9,t41,t42,t43,aO,encI,bP]
     refine aD.pure (tL r p (hg.aF r hmem).2.2.1 (fun s hs'=>⟨(hsy s hs').1,fun h=>by rw[hpl]; exact (hsy s hs').2 h⟩)) (by kernel_rfl) ?_
     simp (disch:=omega) only [↓wr,seval,wq,ah,ag,ak,aa,ab,af,ai,ae,t1,t2,t5,t6,t7,t8,t9,t41,t42,t43]
     refine av.split (fun hal=>?_) (fun hal=>?_)
     ·simp (disch:=omega) only [↓wr,seval,wq,ah,ag,ak,aa,ab,af,ai,ae,t1,t2,t5,t6,t7,t8,t9,t41,t42,t43]
      have hkr:ct p q r=true:=by rw[ct,ky,hal]; rfl
      intro m hm
      try simp (disch:=omega) only [↓wr,seval,wq,ah,ag,ak,aa,ab,af,ai,ae,t1,t2,t5,t6,t7,t8,t9,t41,t42,t43,bV]
      have hm11:=(de hm c7).1
      have hm:=(de (de hm c7).2 c7).2
      have hoB:=(hoA.fresh (n:=m) (o:=.arr 1 [[gi i]]) (by simp only[View.set,Va hm11]; exact hm)).at 2 (by simp)
      have n9m:b9≠m:=by rintro rfl; rw[h9] at hm; simp at hm
      have hkl:(c8 p q (g.rules.take i) 0).length≤40:=by
       rw[kL]
       have h1:=VZ (ct p q) (g.rules.take i)
       have h2:(g.rules.take i).length≤i:=List.length_take_le _ _
       omega
      refine cn (by rw[set_set]; exact hoB) (by simp[aU]) (by unfold aJ; simp at hkl ⊢; omega) (by unfold aJ; simp at hkl ⊢; omega) ?_
      intro u3' H3 ho3 hleft
      have f11:=ho3.is 1 rfl (by simp)
      have f8:=ho3.is 2 rfl (by simp)
      have hleft':Left ((H2.set b11 (.arr 3 [aO r])).set m (.arr 1 [[gi i]])) H3 u3 u3':=by rw[set_set] at hleft; exact hleft
      have f9:H3 b9=.map (yQ mm) cc:=hleft'.map (b:=b9) hoB.head (by simp[View.set,n911,n9m,h9])
      have hu1:cH u1=some (iP ((cy p q (g.rules.take i)).map fun x=>g.az.getD x.toNat ⟨#[]⟩)).length:=(ho3.own 3 rfl).len
      simp only[aO,encI] at f11
      have e2:c8 p q (g.rules.take (i+1)) 0=c8 p q (g.rules.take i) 0 ++ [(i:Int)]:=by
       rw[htk,kI]; simp[c8,hkr,show i≤g.rules.length by omega]
      have e1:cy p q (g.rules.take (i+1))=fZ (cy p q (g.rules.take i)) r:=by rw[htk,tZ,Vd hkr]
      generalize cy p q (g.rules.take i)=o at *
      generalize c8 p q (g.rules.take i) 0=kl at *
      simp (disch:=omega) only [↓wr,seval,wq,ah,ag,ak,aa,ab,af,ai,ae,t1,t2,t5,t6,t8,t9,t41,t42,t43,f11,f8]
      refine Q1 (kt:=3) (et:=3) (z:=gi 0) (by kernel_rfl) (by kernel_rfl) (kY .i64 Tryz.underlying3) (id:=b9) (c:=cc) (m:=mm) (k:=r.left) (by simp (disch:=omega) only [↓wr,seval,wq,ah,ag,ak,aa,ab,af,ai,ae,t9]) (by simp (disch:=omega) only [↓wr,seval,wq,ah,ag,ak,aa,ab,af,ai,ae]) f9 ?_
      rw[hm9.get,tB]
      have hob:o.length≤40:=by omega
      by_cases hx:r.left∈o
      ·have e1':fZ o r=o:=by rw[fZ,Vd hx]
       rw[Vd hx]
       simp (disch:=omega) only [↓wr,seval,wq,ah,ag,ak,aa,ab,af,ai,ae,t1,t2,t5,t6,t8,t9,t41,t42,t43,Option.isSome_some]
       have ho4:=(((ho3.at 1 (by simp)).tail).perm (.swap _ _ _))
       refine aM hk (by omega) ⟨⟨u1,u3',rfl,by rw[e1,e1']; exact hin,by rw[e1,e1']; omega,?_,mm,cc,f9,by rw[e1,e1']; exact hm9⟩,t1,t2,t5,t6,t8,t9,t41,t42,rfl⟩
       rw[e1,e1',e2]
       simp only[VB,VC,WM]
       exact ho4
      ·have e1':fZ o r=o ++ [r.left]:=by rw[fZ,Va hx]
       rw[Va hx]
       have hgn:g.az[r.left.toNat]?=some (g.az[r.left.toNat]'(by omega)):=U9 (by omega)
       have hgnd:g.az.getD r.left.toNat ⟨#[]⟩=g.az[r.left.toNat]'(by omega):=by simp[U8,hgn]
       generalize g.az[r.left.toNat]'(by omega)=nm at hgn hgnd
       simp (disch:=omega) only [↓wr,seval,wq,ah,ag,ak,aa,ab,af,ai,ae,t1,t2,t5,t6,t8,t9,t41,t42,t43,Option.isSome_none,f11,f8,hu1,Vg]
       refine uY (kt:=3) (et:=3) (by kernel_rfl) (kY .i64 Tryz.underlying3) (id:=b9) (c:=cc) (m:=mm) (k:=r.left) (v:=gi o.length) (by simp (disch:=omega) only [↓wr,seval,wq,ah,ag,ak,aa,ab,af,ai,ae,t9]) (by simp (disch:=omega) only [↓wr,seval,wq,ah,ag,ak,aa,ab,af,ai,ae]) (by simp (disch:=omega) only [↓wr,seval,wq,ah,ag,ak,aa,ab,af,ai,ae]) f9 ?_
       intro c'
       have n89:b8≠b9:=BY ho3 2 rfl f9
       have n119:b11≠b9:=BY ho3 1 rfl f9
       simp (disch:=omega) only [↓wr,seval,wq,ah,ag,ak,aa,ab,af,ai,ae,t1,t2,t5,t6,t8,t9,t41,t42,t43,f11,f8,n89,n119,au,encS,Vc,hgn]
       intro m2 hm2
       have hm29:=(de hm2 (by simp)).1
       have hm2:=(de hm2 (by simp)).2
       have ho5:=((ho3.vr f9 (o:=.map (yQ (bN r.left (gi o.length) cc mm)) c')).fresh (n:=m2) (o:=.arr 1 [[gs nm]]) (by simp only[View.set,Va hm29]; exact hm2)).at 3 (by simp)
       try simp (disch:=omega) only [↓wr,seval,wq,ah,ag,ak,aa,ab,af,ai,ae,t1,t2,t5,t6,t8,t9,t41,t42,t43,bV]
       refine cn ho5 (by simp[aU]) (by unfold aJ; simp; omega) (by unfold aJ; simp; omega) ?_
       intro u1' H5 ho6 hleft2
       have c1:=ho6.head.cells
       have k1:=ho6.head.gR
       have f8':=ho6.is 3 rfl (by simp)
       have f9':=hleft2.map (b:=b9) (es:=yQ (bN r.left (gi o.length) cc mm)) (c:=c') ho5.head (by simp[View.set,Ne.symm hm29])
       have n89':b9≠b8:=n89.symm
       simp (disch:=omega) only [↓wr,seval,wq,ah,ag,ak,aa,ab,af,ai,ae,t1,t2,t5,t6,t8,t9,t41,t42,t43,f8',c1,k1]
       have ho7:=(ho6.at 3 (by simp)).put (es':=[[u0,u1',.emp 1,gi 0]]) rfl rfl
       have ho8:=(((ho7.at 3 (by simp)).tail).perm (.cons _ (.swap _ _ _)))
       refine aM hk (by omega) ⟨⟨u1',u3',rfl,?_,?_,?_,_,c',(by simp only[View.set,Va n89']; exact f9'),?_⟩,t1,t2,t5,t6,t8,t9,t41,t42,rfl⟩
       ·rw[e1,e1']; intro x hx'; rcases VE.1 hx' with h | h
        ·exact hin x h
        ·simp at h; subst h; exact ⟨hl2,hl3⟩
       ·rw[e1,e1']; simp; omega
       ·rw[e1,e1',e2]
        simp only[VB,VC,WM,hgnd]
        exact ho8
       ·rw[e1,e1',Cd,Int.zero_add,← Fb hx]
        exact hm9.put r.left (o.length:Int) cc
     ·simp (disch:=omega) only [↓wr,seval,wq,ah,ag,ak,aa,ab,af,ai,ae,t1,t2,t5,t6,t7,t8,t9,t41,t42,t43]
      refine hskip _ _ (by rw[ct,ky,hal]; rfl) ?_ ?_ ?_ ?_ ?_ ?_ ?_ ?_ ?_ ?_ ?_
      all_goals first | exact t7 | exact t1 | exact t2 | exact t5 | exact t6 | exact t8 | exact t9 | exact t41 | exact t42 | rfl | (rw[set_set]; rfl)
   ·rw[Vq (by omega)] at ho hin holen hm9
    have hkl40:(c8 p q g.rules 0).length≤40:=by
     rw[kL]; have h1:=VZ (ct p q) g.rules; omega
    have hkg:=tX p q g.rules 0
    have hkln:=kL p q g.rules 0
    have hrg:rp g (ep (cy p q g.rules)) p q=⟨g.ay,(cy p q g.rules).map fun x=>g.az.getD x.toNat ⟨#[]⟩,(g.rules.filter (ct p q)).map (bY (ep (cy p q g.rules))),ep (cy p q g.rules) g.start⟩:=rfl
    rw[hrg]
    clear hrg
    generalize cy p q g.rules=o at *
    generalize c8 p q g.rules 0=kl at *
    have hob:o.length≤40:=by omega
    have hu3:cH u3=some (cb kl).length:=(ho.own 1 rfl).len
    simp (disch:=omega) only [↓wr,seval,wq,ah,ag,ak,aa,ab,af,ai,ae,t1,t2,t5,t6,t7,t8,t9,hu3,Vg]
    refine aZ.up kl.length (UK g p q b2 b8 b9 u0 u1 u3 o kl mm cc) ?_ ?_
    ·refine ⟨⟨.emp 1,[],by simp,?_,h9⟩,t1,t2,t7,t8,t9,t7,rfl,rfl⟩
     exact (ho.emp (k:=1) (sz:=3)).perm (r8 [(.sl b8 0 1 4,4,[[u0,u1,.emp 1,gi 0]]),(u3,1,cb kl),(u1,1,iP (o.map fun x=>g.az.getD x.toNat ⟨#[]⟩)),(u0,3,g.ay.map b6),(.emp 1,3,[]),(.sl b2 0 1 4,4,[[.emp 1,.emp 1,.emp 1,gi 0]])] 4 (by simp)).symm
    clear ho h9 t1 t2 t5 t6 t7 t8 t9 t41 t42 t43
    rintro i k T H2 hk ⟨⟨u2,bs,hbs,ho,h9⟩,t1,t2,t7,t8,t9,t91,t92,t93⟩
    simp (disch:=omega) only [↓wr,seval,wq,ah,ag,ak,aa,ab,af,ai,ae,ug,t1,t2,t7,t8,t9,t91,t92,t93]
    refine av.dec (fun hc=>?_) (fun hc=>?_)
    ·obtain ⟨n3,e3,hn3⟩:=(ho.own 1 rfl).sl (by simp; omega)
     rw[Vg] at e3
     subst e3
     obtain ⟨m,hm1,hm2,hm3⟩:=hkg i (by omega)
     have hbg:=kH (show i < kl.length by omega)
     rw[Int.zero_add] at hm1
     have hki:kl[i]'(by omega)=(m:Int):=by
      rw[U9 (show i < kl.length by omega)] at hm1; simpa using hm1
     rw[hki] at hbg
     have hg2:g.rules[m]?=some (g.rules[m]'hm3):=U9 hm3
     have hmem:g.rules[m]'hm3∈g.rules:=Vi _
     have htk:(g.rules.filter (ct p q)).take (i+1)=(g.rules.filter (ct p q)).take i ++ [g.rules[m]'hm3]:=by
      rw[Vx,← hm2,hg2]; rfl
     generalize g.rules[m]'hm3=r at hg2 hmem htk
     obtain ⟨hl1,hl2,hl3,hr6,hsy⟩:=hf.tb hg hmem
     simp (disch:=omega) only [↓wr,seval,wq,ah,ag,ak,aa,ab,af,ai,ae,t1,t2,t7,t8,t9,t91,t92,t93,hn3,hbg,Vg,au,aO,encI,Vc,hg2]
     refine ⟨by omega,by omega,?_⟩
     intro b16 hb16
     have hoA:=ho.new hb16 3 [aO r]
     have n916:b9≠b16:=by rintro rfl; rw[h9] at hb16; simp at hb16
     try simp (disch:=omega) only [↓wr,seval,wq,ah,ag,ak,aa,ab,af,ai,ae,t1,t2,t7,t8,t9,t91,t92,t93,set_set]
     refine z7 (kt:=3) (et:=3) (z:=gi 0) (by kernel_rfl) (by kernel_rfl) (kY .i64 Tryz.underlying3) (id:=b9) (c:=cc) (m:=mm) (k:=r.left) (by simp (disch:=omega) only [↓wr,seval,wq,ah,ag,ak,aa,ab,af,ai,ae,t9]) (by simp (disch:=omega) only [↓wr,seval,wq,ah,ag,ak,aa,ab,af,ai,ae]) (by simp[View.set,n916,h9]) ?_
     have hgt:∀ x,(getM mm x).getD (gi 0)=gi (ep o x):=fun x=>by
      rw[hm9.get,ep]; cases eA (jJ o 0) x <;> rfl
     rw[hgt]
     simp (disch:=omega) only [↓wr,seval,wq,ah,ag,ak,aa,ab,af,ai,ae,t1,t2,t7,t8,t9,t91,t92,t93]
     refine aD.JA (OP r.right (by omega) _) ?_
     intro v H3 hv hfr
     have hoB:=bt.G4 (H:=H2.set b16 (.arr 3 [aO r])) hoA hv (by rw[set_set] at hfr; exact hfr)
     have h9B:H3 b9=.map (yQ mm) cc:=by
      rw[(hfr b9 (by simp[View.set,n916,h9])).1]; simp[View.set,n916,h9]
     have cv:=hv.cells
     have kv:=hv.gR
     have lv:=hv.len
     have f16:=hoB.is 1 rfl (by simp)
     simp only[aO,encI] at f16
     simp (disch:=omega) only [↓wr,seval,wq,ah,ag,ak,aa,ab,af,ai,ae,t1,t2,t7,t8,t9,t91,t92,t93,f16,cv,kv]
     intro b17 hb17
     have hoC:=hoB.new hb17 3 [[gi (ep o r.left),v,gi r.prec]]
     have n917:b9≠b17:=by rintro rfl; rw[h9B] at hb17; simp at hb17
     try simp (disch:=omega) only [↓wr,seval,wq,ah,ag,ak,aa,ab,af,ai,ae,t1,t2,t7,t8,t9,t91,t92,t93,cv,kv,lv,set_set,Vg]
     generalize hL:((V.sl b8 0 1 4,4,[[u0,u1,u2,gi 0]]) :: (V.sl n3 0 kl.length 1,1,cb kl) ::
       (u1,1,iP (o.map fun x=>g.az.getD x.toNat ⟨#[]⟩)) :: (u0,3,g.ay.map b6) :: (u2,3,e9 bs) :: (V.sl b2 0 1 4,4,[[V.emp 1,V.emp 1,V.emp 1,gi 0]]) :: iG bs:List cz)=L at hoC
     refine aZ.up r.right.length (Uu g b2 b8 b9 b16 b17 (.sl n3 0 kl.length 1) v o kl mm cc r L i) ?_ ?_
     ·exact ⟨by rw[set_set]; exact hoC,by simp[View.set,n917,h9B],t1,t2,t7,t8,t9,t91,t92,t93,rfl,rfl,rfl,rfl⟩
     clear hoA hoB hoC hb16 hb17 h9 h9B f16 hv hfr t1 t2 t7 t8 t9 t91 t92 t93
     rintro k k2 T H3 hk2 ⟨hoC,h9,t1,t2,t7,t8,t9,t91,t92,t93,t17,t113,t114,t115⟩
     have f17:=hoC.is 0 rfl (by simp)
     simp (disch:=omega) only [↓wr,seval,wq,ah,ag,ak,aa,ab,af,ai,ae,uk,t1,t2,t7,t8,t9,t91,t92,t93,t17,t113,t114,t115]
     refine av.dec (fun hcc=>?_) (fun hcc=>?_)
     ·have hgs:r.right[k]?=some (r.right[k]'(by omega)):=U9 (by omega)
      have hms:r.right[k]'(by omega)∈r.right:=Vi _
      have hrl:(bY (ep o) r).right.length=r.right.length:=by simp[bY]
      have hts:(bY (ep o) r).right.take (k+1)=(bY (ep o) r).right.take k ++ [if r.right[k]'(by omega) < 0 then -1 - ep o (-1 - r.right[k]'(by omega)) else r.right[k]'(by omega)]:=by
       rw[Vx]; simp[bY,hgs]
      have hdr:=eW (show k < r.right.length by omega)
      generalize r.right[k]'(by omega)=s at hgs hms hts hdr
      obtain ⟨⟨s1,s2⟩,s3⟩:=hsy s hms
      have hbd:=RR o (-1 - s)
      rw[hdr] at hoC
      have hlen:(((bY (ep o) r).right.take k ++ s :: r.right.drop (k+1)).map fun x=>[gi x]).length=r.right.length:=by simp; omega
      obtain ⟨nv,ev,hnv⟩:=(hoC.own 1 rfl).sl (by rw[hlen]; omega)
      rw[hlen] at ev
      subst ev
      have hlt:k < ((bY (ep o) r).right.take k ++ s :: r.right.drop (k+1)).length:=by simp; omega
      have hbg2:=kH hlt
      have hel:((bY (ep o) r).right.take k ++ s :: r.right.drop (k+1))[k]'hlt=s:=by
       rw[List.getElem_append_right (by simp; omega)]
       simp[show k - min k r.right.length=0 by omega,hrl]
      rw[hel] at hbg2
      simp (disch:=omega) only [↓wr,seval,wq,ah,ag,ak,aa,ab,af,ai,ae,t1,t2,t7,t8,t9,t91,t92,t93,t17,t113,t114,t115,hnv,hbg2,Vg]
      refine ⟨by omega,hlt,?_⟩
      have hlk:((bY (ep o) r).right.take k).length=k:=by rw[VQ]; omega
      have nv9:nv≠b9:=BY hoC 1 rfl h9
      refine av.dec (fun hneg=>?_) (fun hneg=>?_)
      ·rw[Vd hneg] at hts
       simp (disch:=omega) only [↓wr,seval,wq,ah,ag,ak,aa,ab,af,ai,ae,t1,t2,t7,t8,t9,t91,t92,t93,t17,t113,t114,t115,f17]
       refine z7 (kt:=3) (et:=3) (z:=gi 0) (by kernel_rfl) (by kernel_rfl) (kY .i64 Tryz.underlying3) (id:=b9) (c:=cc) (m:=mm) (k:=-1 - s) (by simp (disch:=omega) only [↓wr,seval,wq,ah,ag,ak,aa,ab,af,ai,ae,t9]) (by simp (disch:=omega) only [↓wr,seval,wq,ah,ag,ak,aa,ab,af,ai,ae]) h9 ?_
       rw[hgt]
       simp (disch:=omega) only [↓wr,seval,wq,ah,ag,ak,aa,ab,af,ai,ae,t1,t2,t7,t8,t9,t91,t92,t93,t17,t113,t114,t115,f17,hnv,hbg2,Vg]
       refine ⟨by omega,hlt,?_⟩
       have hoD:=((hoC.at 1 (by simp)).put (es':=((((bY (ep o) r).right.take k ++ s :: r.right.drop (k+1)).map fun x=>[gi x]).set k [gi (-1 - ep o (-1 - s))])) (by simp) (by rw[hlen])).perm (.swap _ _ _)
       refine aM hk2 (by omega) ⟨?_,by simp only[View.set,Va nv9.symm]; exact h9,t1,t2,t7,t8,t9,t91,t92,t93,t17,t113,t114,rfl⟩
       rw[ints_set,Dv hlk] at hoD
       rw[hts,VV]
       rw[ints_set,Dv hlk]
       exact hoD
      ·rw[Va hneg] at hts
       simp (disch:=omega) only [↓wr,seval,wq,ah,ag,ak,aa,ab,af,ai,ae,t1,t2,t7,t8,t9,t91,t92,t93,t17,t113,t114,t115]
       refine aM hk2 (by omega) ⟨?_,h9,t1,t2,t7,t8,t9,t91,t92,t93,t17,t113,t114,rfl⟩
       rw[hts,VV]
       exact hoC
     ·rw[Vq (by simp[bY]; omega),VD (by omega),Wx] at hoC
      subst hL
      have f8:=hoC.is 3 rfl (by simp)
      have cv:=(hoC.own 1 rfl).cells
      have kv:=(hoC.own 1 rfl).gR
      have hbl:(e9 bs).length≤40:=by
       have h1:=Wj List.length hbs
       simp only[Vg,VQ] at h1
       simp only[e9,Vg]
       omega
      simp (disch:=omega) only [↓wr,seval,wq,ah,ag,ak,aa,ab,af,ai,ae,t1,t2,t7,t8,t9,t91,t92,t93,t17,t113,t114,t115,f8,f17,cv,kv]
      intro m hm
      have n9m:b9≠m:=by rintro rfl; rw[h9] at hm; simp at hm
      try simp (disch:=omega) only [↓wr,seval,wq,ah,ag,ak,aa,ab,af,ai,ae,t1,t2,t7,t8,t9,t91,t92,t93,t17,bV]
      have hoD:=(hoC.fresh (o:=.arr 3 [[gi (ep o r.left),v,gi r.prec]]) hm).at 7 (by simp)
      refine cn hoD (by simp[vR,kv]) (by unfold aJ; simp at hbl ⊢; omega) (by unfold aJ; simp at hbl ⊢; omega) ?_
      intro u2' H4 hoE hleft
      have cu:=hoE.head.cells
      have ku:=hoE.head.gR
      have f8':=hoE.is 4 rfl (by simp)
      have h9':H4 b9=.map (yQ mm) cc:=hleft.map (b:=b9) hoD.head (by simp[View.set,n9m,h9])
      have n98:b9≠b8:=(BY hoE 4 rfl h9').symm
      simp (disch:=omega) only [↓wr,seval,wq,ah,ag,ak,aa,ab,af,ai,ae,t1,t2,t7,t8,t9,t91,t92,t93,t17,f8',cu,ku]
      have hoF:=(hoE.at 4 (by simp)).put (es':=[[u0,u1,u2',gi 0]]) rfl rfl
      have hoG:=((((hoF.at 2 (by simp)).tail).at 3 (by simp)).tail)
      refine aM hk (by omega) ⟨⟨u2',bs ++ [(v,bY (ep o) r)],?_,?_,by simp only[View.set,Va n98]; exact h9'⟩,t1,t2,t7,t8,t9,t91,t92,rfl⟩
      ·rw[VB,hbs,htk,VB]; rfl
      ·refine hoG.perm (.cons _ ?_)
       simp only[iG,e9,VB,VC,WM]
       refine .trans ?_ (r8 _ 3 (by simp)).symm
       refine .cons _ ?_
       exact (W9 (v,1,cb (bY (ep o) r).right) ((.sl n3 0 kl.length 1,1,cb kl) :: (u1,1,iP (o.map fun x=>g.az.getD x.toNat ⟨#[]⟩)) :: (u0,3,g.ay.map b6) :: (.sl b2 0 1 4,4,[[.emp 1,.emp 1,.emp 1,gi 0]]) :: iG bs)).symm
    ·rw[Vq (by omega)] at hbs
     have f8:=ho.is 0 rfl (by simp)
     have f2:=ho.is 5 rfl (by simp)
     have n82:b8≠b2:=ho.E0 0 5 rfl rfl (by omega)
     have c1:=(ho.own 2 rfl).cells
     have k1:=(ho.own 2 rfl).gR
     have c2:=(ho.own 4 rfl).cells
     have k2:=(ho.own 4 rfl).gR
     have hgt:∀ x,(getM mm x).getD (gi 0)=gi (ep o x):=fun x=>by
      rw[hm9.get,ep]; cases eA (jJ o 0) x <;> rfl
     simp (disch:=omega) only [↓wr,seval,wq,ah,ag,ak,aa,ab,af,ai,ae,t1,t2,t7,t8,t9,t91,t92,t93,au]
     refine z7 (kt:=3) (et:=3) (z:=gi 0) (by kernel_rfl) (by kernel_rfl) (kY .i64 Tryz.underlying3) (id:=b9) (c:=cc) (m:=mm) (k:=g.start) (by simp (disch:=omega) only [↓wr,seval,wq,ah,ag,ak,aa,ab,af,ai,ae,t9]) (by simp (disch:=omega) only [↓wr,seval,wq,ah,ag,ak,aa,ab,af,ai,ae]) h9 ?_
     rw[hgt]
     simp (disch:=omega) only [↓wr,seval,wq,ah,ag,ak,aa,ab,af,ai,ae,t1,t2,t7,t8,t9,t91,t92,t93,f8,f2,n82,n82.symm,c0,k0,c1,k1,c2,k2]
     intro h' hh
     have hoA:=ho.put (es':=[[u0,u1,u2,gi (ep o g.start)]]) rfl rfl
     have hoB:=(hoA.at 5 (by simp)).put (es':=[[u0,u1,u2,gi (ep o g.start)]]) rfl rfl
     have hv:h'.view=(H2.set b8 (.arr 4 [[u0,u1,u2,gi (ep o g.start)]])).set b2 (.arr 4 [[u0,u1,u2,gi (ep o g.start)]]):=hh
     rw[← hv] at hoB
     exact KH (x:=(⟨g.ay,o.map fun x=>g.az.getD x.toNat ⟨#[]⟩,(g.rules.filter (ct p q)).map (bY (ep o)),ep o g.start⟩,kl,0)) (b:=bs) (hoB.own 4 rfl) (hoB.own 3 rfl) (hoB.own 5 rfl) (fun y hy=>hoB.1 y (by
      refine Vt _ (Vt _ (Vt _ (Vt _ (Vt _ (Vt _ ?_)))))
      exact hy)) hbs (hoB.own 2 rfl)
 ·rename_i hr
  intro h' hh
  rw[Va (by simp[hr])]
  exact wi
theorem KI {l:List Int} {a b:List Bool} {t:Bool} (h:gB a b) (k:cQ l a t=true):cQ l b t=true:=by
 simp only[cQ,VK] at k ⊢
 intro s hs
 have:=k s hs
 by_cases h0:0≤s
 ·rw[Vd h0] at this ⊢; exact this
 ·rw[Va h0] at this ⊢; exact h.2 _ this
theorem gB.sU {a b:List Bool} (h:gB a b) (k:gB b a):a=b:=by
 have h1:=h.er
 have h2:=k.er
 exact h1.2 (by omega)
def oI (g:aw) (t:Bool) (is:List Bool):Prop:=∀ i,is.getD i false=true→∃ r∈g.rules,r.left.toNat=i∧cQ r.right is t=true
theorem oI.step {g:aw} {t:Bool} {is:List Bool} {r:bw} (h:oI g t is) (hr:r∈g.rules):oI g t (eE t is r):=by
 have hle:gB is (eE t is r):=by
  unfold eE
  split
  ·exact .set _ _
  ·exact .refl _
 intro i hi
 by_cases e:is.getD i false=true
 ·obtain ⟨r',h1,h2,h3⟩:=h i e
  exact ⟨r',h1,h2,KI hle h3⟩
 ·unfold eE at hi
  by_cases ha:cQ r.right is t=true
  ·rw[Vd ha] at hi
   have:r.left.toNat=i:=by
    refine Wi fun hne=>e ?_
    simp only[U8,WH,Va hne] at hi ⊢
    exact hi
   exact ⟨r,hr,this,KI hle ha⟩
  ·rw[Va ha] at hi; exact absurd hi e
theorem oI.fold {g:aw} {t:Bool} : ∀ (l:List bw) (is:List Bool),(∀ r∈l,r∈g.rules)→oI g t is→oI g t (l.foldl (eE t) is)
 | [],is,_,h=>h
 | r :: l,is,hl,h=>oI.fold l _ (fun x hx=>hl x (by simp[hx])) (h.step (hl r (by simp)))
theorem oI.iter {g:aw} {t:Bool} : ∀ (n:Nat) (is:List Bool),oI g t is→oI g t (iter (kd g t) n is)
 | 0,_,h=>h
 | n+1,is,h=>oI.iter n _ (oI.fold g.rules is (fun _ h=>h) h)
theorem Ly (g:aw) (t:Bool):oI g t (aA g t):=by
 unfold aA
 split
 ·refine oI.iter _ _ ?_
  intro i hi
  simp only[cp,U8,WT] at hi
  split at hi <;> simp at hi
 ·intro i hi; simp at hi
theorem JR (is:List Bool) (s:Int):gB is (mark is s):=by
 unfold mark
 split
 ·exact .set _ _
 ·exact .refl _
theorem Bv:∀ (l:List Int) (is:List Bool),gB is (l.foldl mark is)
 | [],is=>.refl _
 | s :: l,is=>(JR is s).trans (Bv l _)
theorem GG (p is:List Bool) (r:bw):gB is (ig p is r):=by
 unfold ig
 split
 ·exact Bv _ _
 ·exact .refl _
theorem Iu (p:List Bool):∀ (l:List bw) (is:List Bool),gB is (l.foldl (ig p) is)
 | [],is=>.refl _
 | r :: l,is=>(GG p is r).trans (Iu p l _)
theorem EV {p:List Bool} : ∀ {l:List bw} {is:List Bool},l.foldl (ig p) is=is→∀ r∈l,ig p is r=is
 | [],_,_,_,h=>by simp at h
 | r :: l,is,h,x,hx=>by
  rw[VF] at h
  have h1:=Iu p l (ig p is r)
  rw[h] at h1
  have h2:=(h1.sU (GG p is r))
  rcases Vp.1 hx with rfl | hx
  ·exact h2
  ·rw[h2] at h; exact EV h x hx
theorem Ey:∀ {l:List Int} {is:List Bool},l.foldl mark is=is→∀ s∈l,mark is s=is
 | [],_,_,_,h=>by simp at h
 | r :: l,is,h,x,hx=>by
  rw[VF] at h
  have h1:=Bv l (mark is r)
  rw[h] at h1
  have h2:=(h1.sU (JR is r))
  rcases Vp.1 hx with rfl | hx
  ·exact h2
  ·rw[h2] at h; exact Ey h x hx
theorem Es {g:aw} (hr:bS g=true):qC g (aA g true) (ca g)=ca g∧gB ((cp g).set g.start.toNat true) (ca g):=by
 have hf:=bO hr
 have h:=ua (ta (aA g true)) g.rules 16 ((cp g).set g.start.toNat true) (by have:=hf.az; simp[cp]; omega)
 rw[KE,OJ hr] at h
 exact h
theorem Aj {g:aw} (hr:bS g=true):(ca g).getD g.start.toNat false=true:=by
 have hf:=bO hr
 refine (Es hr).2.2 _ ?_
 have h3:=hf.me
 have h4:=hf.start
 simp only[U8]
 rw[W6 (by simp[cp]; omega)]
 rfl
theorem Ch {g:aw} (hr:bS g=true) {r:bw} (hm:r∈g.rules) (hk:ct (aA g true) (ca g) r=true) {s:Int} (hs:s∈r.right) (hn:s < 0):(ca g).getD (-1 - s).toNat false=true:=by
 have hf:=bO hr
 have h1:=EV (Es hr).1 r hm
 unfold ig at h1
 rw[ct] at hk
 rw[Vd hk] at h1
 have h2:=Ey h1 s hs
 unfold mark at h2
 rw[Vd hn] at h2
 rw[← h2]
 have hl:=pW hr
 have:=hf.neg hm hs hn
 simp only[U8]
 rw[W6 (by omega)]
 rfl
theorem BE {g:aw} (hr:bS g=true) {x:Int} (h0:0≤x) (hp:(aA g true).getD x.toNat false=true) (hq:(ca g).getD x.toNat false=true):x∈cy (aA g true) (ca g) g.rules:=by
 obtain ⟨r,h1,h2,h3⟩:=Ly g true _ hp
 have hf:=bO hr
 have h4:=hf.left r h1
 have:r.left=x:=by omega
 refine sL.2 ⟨r,h1,?_,this⟩
 rw[ct,this,hq,h3]; rfl
theorem Lc (g:aw):(if bS g=true then
  if (aA g true).getD g.start.toNat false=true then (rp g (ep (cy (aA g true) (ca g) g.rules)) (aA g true) (ca g),c8 (aA g true) (ca g) g.rules 0,0)
  else (uW,[],9)
 else (uW,[],1))=gm g:=by
 unfold gm
 by_cases hr:bS g=true
 ·rw[Vd hr,Vd hr]
  by_cases hp:(aA g true).getD g.start.toNat false=true
  ·rw[Vd hp,Vd hp]
   have hf:=bO hr
   rw[Ov]
   ·exact BE hr hf.me hp (Aj hr)
   ·intro r hm
    obtain ⟨h1,h2⟩:=VX.1 hm
    refine ⟨sL.2 ⟨r,h1,h2,rfl⟩,fun s hs hn=>?_⟩
    refine BE hr (by omega) ?_ (Ch hr h1 h2 hs hn)
    rw[ct,Vm] at h2
    have:=h2.2
    simp only[cQ,VK] at this
    have:=this s hs
    rwa [Va (by omega)] at this
  ·rw[Va hp,Va hp]
 ·rw[Va hr,Va hr]
theorem Le (g:aw) (hg:g.Ok) (hs:g.Small):cR Tryz.prog 109 [.agg (au g)] (wW (gm g)):=by
 rw[← Lc]; exact IW g hg hs
def aE (g:aw) (k:Int):bw:=g.rules.getD k.toNat ⟨0,[],0⟩
theorem getD_some {α:Type} {l:List α} {j:Nat} {d:α} (h:j < l.length):l[j]?=some (l.getD j d):=by simp[U8,h]
theorem Hu {x:Int} : ∀ (o:List Int) (i:Int),x∈o→∃ k:Nat,cE (fun y=>y == x) o i=i+k∧o[k]?=some x
 | [],_,h=>by simp at h
 | y :: o,i,h=>by
  by_cases e:y=x
  ·exact ⟨0,by simp[cE,e],by simp[e]⟩
  ·have hx:x∈o:=by
    rcases Vp.1 h with rfl | h
    ·exact absurd rfl e
    ·exact h
   obtain ⟨k,h1,h2⟩:=Hu o (i+1) hx
   exact ⟨k+1,by simp only[cE]; rw[Va (by simp[e]),h1]; push_cast; omega,by simpa using h2⟩
theorem PU {o:List Int} {x:Int} (h:x∈o):o[(bW o x).toNat]?=some x:=by
 obtain ⟨k,h1,h2⟩:=Hu o 0 h
 have:bW o x=k:=by unfold bW; omega
 rw[this]; simpa using h2
theorem JQ {o:List Int} (hn:o.Nodup) {k:Nat} {x:Int} (h:o[k]?=some x):bW o x=k:=by
 have hx:=Vf h
 have h1:=PU hx
 have h2:=pC hx
 obtain ⟨hk,h3⟩:=Vn.1 h
 obtain ⟨hk2,h4⟩:=Vn.1 h1
 have:=(List.getElem_inj hn).1 (h4.trans h3.symm)
 omega
theorem sV:∀ (l:List bw) (acc:List Int),acc.Nodup→(l.foldl fZ acc).Nodup
 | [],_,h=>h
 | r :: l,acc,h=>sV l _ (BG h)
theorem L4 (p q:List Bool) (l:List bw):(cy p q l).Nodup:=sV _ _ List.nodup_nil
theorem Qy (acc:List Int) (r:bw):∃ m,fZ acc r=acc ++ m:=by
 unfold fZ
 split
 ·exact ⟨[],by simp⟩
 ·exact ⟨_,rfl⟩
theorem vA:∀ (l:List bw) (acc:List Int),∃ m,l.foldl fZ acc=acc ++ m
 | [],acc=>⟨[],by simp⟩
 | r :: l,acc=>by
  obtain ⟨m,hm⟩:=Qy acc r
  obtain ⟨k,hk⟩:=vA l (fZ acc r)
  exact ⟨m ++ k,by rw[VF,hk,hm,VV]⟩
theorem QK {a b:List Int} {x:Int} (h:x∈a):bW (a ++ b) x=bW a x:=by
 unfold bW
 rw[uy _ _ _ _ (by omega)]
 have:=pC h
 unfold bW at this
 rw[Vd this.1]
theorem wv {r:aw} {o:List Int} (ho:o.Nodup) (hr:r.az.length=o.length):∀ (l:List bw) (acc:List Int),o=l.foldl fZ acc→(∀ x∈l,iM r (bY (bW o) x)=true)→ic r (l.map (bY (bW o))) ((acc.length:Int) - 1)=true
 | [],acc,h,_=>by
  simp only[Wk] at h
  simp[ic,hr,h]
 | x :: l,acc,h,hb=>by
  simp only[VC,ic,Vm,Vo]
  rw[VF] at h
  have h1:(bY (bW o) x).left=bW o x.left:=rfl
  obtain ⟨m,hm⟩:=vA l (fZ acc x)
  rw[← h] at hm
  by_cases hx:x.left∈acc
  ·have e:fZ acc x=acc:=by unfold fZ; rw[Vd hx]
   rw[e] at hm h
   have h2:=pC hx
   have h3:bW o x.left=bW acc x.left:=by rw[hm]; exact QK hx
   rw[h1,h3,Va (by omega)]
   exact ⟨⟨⟨h2.1,by omega⟩,hb x (by simp)⟩,wv ho hr l acc h fun y hy=>hb y (by simp[hy])⟩
  ·have e:fZ acc x=acc ++ [x.left]:=by unfold fZ; rw[Va hx]
   rw[e] at hm h
   have h3:bW o x.left=acc.length:=JQ ho (by rw[hm]; simp)
   rw[h1,h3,Vd (by omega)]
   refine ⟨⟨⟨by omega,by omega⟩,hb x (by simp)⟩,?_⟩
   have:=wv ho hr l (acc ++ [x.left]) h fun y hy=>hb y (by simp[hy])
   rw[V6] at this
   simpa using this
theorem Ae {g r:aw} (h:r.ay=g.ay):∀ (l:List Term) (i:Int),j5 r l i=j5 g l i
 | [],_=>rfl
 | t :: l,i=>by
  simp only[j5,Ae h l]
  congr 1
  simp only[kp,mF,rO,h]
theorem FR {o:List Int} {n:Nat} (h:o.Nodup) (hb:∀ x∈o,0≤x∧x < n):o.length≤n:=by
 have:=nC o ((List.range n).map fun (k:Nat)=>(k:Int)) h fun x hx=>by
  have:=hb x hx
  exact Vw.2 ⟨x.toNat,V5.2 (by omega),by omega⟩
 simpa using this
structure ml (g:aw) (p q:List Bool) (o:List Int) (r:aw):Prop where
 right:bS g=true
 pe:p=aA g true
 qe:q=ca g
 oe:o=cy p q g.rules
 re:r=rp g (bW o) p q
 nodup:o.Nodup
 inside:∀ x∈o,0≤x∧x < g.az.length
 kept:∀ R∈g.rules,ct p q R=true→R.left∈o∧∀ s∈R.right,s < 0→-1 - s∈o
 from_:∀ x∈o,∃ R∈g.rules,ct p q R=true∧R.left=x
 start:g.start∈o
theorem Sv {g:aw} (hr:bS g=true) (hp:(aA g true).getD g.start.toNat false=true):ml g (aA g true) (ca g) (cy (aA g true) (ca g) g.rules) (rp g (bW (cy (aA g true) (ca g) g.rules)) (aA g true) (ca g)):=by
 have hf:=bO hr
 refine ⟨hr,rfl,rfl,rfl,rfl,L4 _ _ _,fun x hx=>?_,fun R hm hk=>⟨sL.2 ⟨R,hm,hk,rfl⟩,fun s hs hn=>?_⟩,fun x hx=>sL.1 hx,BE hr hf.me hp (Aj hr)⟩
 ·obtain ⟨R,h1,_,rfl⟩:=sL.1 hx
  exact hf.left R h1
 ·refine BE hr (by omega) ?_ (Ch hr hm hk hs hn)
  rw[ct,Vm] at hk
  have:=hk.2
  simp only[cQ,VK] at this
  have:=this s hs
  rwa [Va (by omega)] at this
section
variable {g r:aw} {p q:List Bool} {o:List Int}
theorem ml.rules (h:ml g p q o r):r.rules=(g.rules.filter (ct p q)).map (bY (bW o)):=by rw[h.re]; rfl
theorem ml.az (h:ml g p q o r):r.az=o.map fun x=>g.az.getD x.toNat ⟨#[]⟩:=by rw[h.re,h.oe]; rfl
theorem ml.ay (h:ml g p q o r):r.ay=g.ay:=by rw[h.re]; rfl
theorem ml.OO (h:ml g p q o r):r.start=bW o g.start:=by rw[h.re]; rfl
theorem ml.len (h:ml g p q o r):r.az.length=o.length:=by rw[h.az]; simp
theorem ml.N9 (h:ml g p q o r):bS r=true:=by
 have hf:=bO h.right
 have hR:=h.right
 simp only[bS,j7,kR,Vm,Vo] at hR ⊢
 obtain ⟨⟨⟨⟨⟨⟨⟨a1,a2⟩,⟨a3,a4⟩,a5⟩,a6⟩,a7⟩,a8⟩,a9⟩,a10⟩:=hR
 have hst:=pC h.start
 have hol:o.length≤g.az.length:=FR h.nodup h.inside
 have hgn:g.az.Nodup∧∀ s∈g.az,gC (fJ s)=true∧mF g s < 0:=by
  rw[tS] at a5
  refine ⟨(tO g.az).1 fun k s hk=>?_,fun s hs=>?_⟩
  ·have:=a5 k s hk
   simp only[lY,zn,Vm,Wd] at this
   have:=this.1.2
   omega
  ·obtain ⟨k,hk⟩:=List.getElem?_of_mem hs
   have:=a5 k s hk
   simp only[lY,Vm,Vo] at this
   exact ⟨this.1.1,this.2⟩
 have hget:∀ x∈o,∃ (hx:x.toNat < g.az.length),g.az.getD x.toNat ⟨#[]⟩=g.az[x.toNat]:=fun x hx=>by
  have:=h.inside x hx
  exact ⟨by omega,by simp[U8,U9 (show x.toNat < g.az.length by omega)]⟩
 have hrn:r.az.Nodup:=by
  rw[h.az,W8,Xe]
  refine (List.Pairwise.and_mem.1 h.nodup).imp ?_
  rintro x y ⟨hx,hy,hne⟩ e
  obtain ⟨h1,h2⟩:=hget x hx
  obtain ⟨h3,h4⟩:=hget y hy
  rw[h2,h4] at e
  have h5:=(List.getElem_inj hgn.1).1 e
  have h6:=h.inside x hx
  have h7:=h.inside y hy
  exact hne (by omega)
 have hrules:(g.rules.filter (ct p q)).length≤g.rules.length:=VZ _ _
 obtain ⟨R0,hR0,hk0,_⟩:=h.from_ _ h.start
 have hpos:0 < (g.rules.filter (ct p q)).length:=List.length_pos_of_mem (VX.2 ⟨hR0,hk0⟩)
 have hrl:r.rules.length=(g.rules.filter (ct p q)).length:=by rw[h.rules]; simp
 refine ⟨⟨⟨⟨⟨⟨⟨by rw[h.ay]; exact a1,?_⟩,⟨by rw[h.len]; omega,by rw[h.len]; omega⟩,?_⟩,by omega⟩,by omega⟩,by rw[h.OO]; omega⟩,by rw[h.OO,h.len]; omega⟩,?_⟩
 ·rw[h.ay,Ae h.ay]; exact a2
 ·rw[tS]
  intro k s hk
  have hm:=Vf hk
  have hidx:=(tO r.az).2 hrn k s hk
  rw[h.az,Vw] at hm
  obtain ⟨x,hx,rfl⟩:=hm
  obtain ⟨h1,h2⟩:=hget x hx
  obtain ⟨h3,h4⟩:=hgn.2 _ (h2 ▸ Vi h1:g.az.getD x.toNat ⟨#[]⟩∈g.az)
  simp only[lY,zn,Vm,Wd,Vo]
  refine ⟨⟨h3,by rw[hidx]; omega⟩,?_⟩
  simp only[mF,h.ay] at h4 ⊢
  exact h4
 ·rw[h.rules]
  have:=wv (r:=r) h.nodup h.len (g.rules.filter (ct p q)) [] (by rw[h.oe]; rfl) (fun x hx=>?_)
  ·simpa using this
  obtain ⟨hm,hk⟩:=VX.1 hx
  obtain ⟨_,hin⟩:=h.kept x hm hk
  have hb:=(yH _ _ a10).2 x hm
  have hb:=hb.2.2
  simp only[iM,Vm,Vo,VK] at hb ⊢
  obtain ⟨⟨⟨b1,b2⟩,b3⟩,b4⟩:=hb
  refine ⟨⟨⟨by simpa [bY] using b1,b2⟩,by rw[h.ay]; exact b3⟩,fun s hs=>?_⟩
  simp only[bY,Vw] at hs
  obtain ⟨s0,hs0,rfl⟩:=hs
  have b5:=b4 s0 hs0
  by_cases hn:s0 < 0
  ·rw[Vd hn]
   have hl:=pC (hin s0 hs0 hn)
   simp only[mT,gu,Vm]
   rw[Va (by omega),decide_eq_false (p:=0≤-1 - bW o (-1 - s0)) (by omega)]
   simp only[h.len,Vo,WN,Bool.not_false,and_true]
   omega
  ·rw[Va hn]
   simp only[mT,gu,h.ay] at b5 ⊢
   rw[Vd (by omega)] at b5 ⊢
   exact b5
end
inductive um (g:aw):Int→Prop
 | mk (R:bw):R∈g.rules→(∀ s∈R.right,s < 0→um g (-1 - s))→um g R.left
theorem AV {l:List Int} {p:List Bool} : cQ l p true=true↔∀ s∈l,s < 0→p.getD (-1 - s).toNat false=true:=by
 simp only[cQ,VK]
 constructor
 ·intro h s hs hn
  have:=h s hs
  rwa [Va (by omega)] at this
 ·intro h s hs
  by_cases hn:s < 0
  ·rw[Va (by omega)]; exact h s hs hn
  ·rw[Vd (by omega)]
theorem Qe {l:List Bool} {i j:Nat} (h:(l.set i true).getD j false=true):j=i∨l.getD j false=true:=by
 by_cases e:i=j
 ·exact .inl e.symm
 ·right
  simp only[U8,WH,Va e] at h ⊢
  exact h
theorem Lu {g:aw} {i:Nat} : (cp g).getD i false=false:=by
 simp only[cp,U8,WT]
 split <;> rfl
theorem yP {g:aw} (hr:bS g=true):∀ i:Nat,(aA g true).getD i false=true→um g i:=by
 have hf:=bO hr
 have hst:∀ (is:List Bool) (R:bw),R∈g.rules→(∀ i:Nat,is.getD i false=true→um g i)→∀ i:Nat,(eE true is R).getD i false=true→um g i:=by
  intro is R hR h i hi
  unfold eE at hi
  split at hi
  ·rename_i ha
   rcases Qe hi with rfl | hi
   ·have:=hf.left R hR
    have e:((R.left.toNat:Nat):Int)=R.left:=by omega
    rw[e]
    refine .mk R hR fun s hs hn=>?_
    have:=h _ (AV.1 ha s hs hn)
    rwa [show (((-1 - s).toNat:Nat):Int) = -1 - s by omega] at this
   ·exact h i hi
  ·exact h i hi
 have hfold:∀ (l:List bw) (is:List Bool),(∀ R∈l,R∈g.rules)→(∀ i:Nat,is.getD i false=true→um g i)→∀ i:Nat,(l.foldl (eE true) is).getD i false=true→um g i:=by
  intro l
  induction l with
  | nil=>intro is _ h; exact h
  | cons R l ih=>intro is hl h; exact ih _ (fun x hx=>hl x (by simp[hx])) (hst is R (hl R (by simp)) h)
 have hit:∀ (n:Nat) (is:List Bool),(∀ i:Nat,is.getD i false=true→um g i)→∀ i:Nat,(iter (kd g true) n is).getD i false=true→um g i:=by
  intro n
  induction n with
  | zero=>intro is h; exact h
  | succ n ih=>intro is h; exact ih _ (hfold g.rules is (fun _ h=>h) h)
 rw[aA,Vd hr]
 exact hit _ _ fun i hi=>by rw[Lu] at hi; simp at hi
theorem EE (t:Bool) (is:List Bool) (R:bw):gB is (eE t is R):=by
 unfold eE
 split
 ·exact .set _ _
 ·exact .refl _
theorem Ei (t:Bool):∀ (l:List bw) (is:List Bool),gB is (l.foldl (eE t) is)
 | [],is=>.refl _
 | R :: l,is=>(EE t is R).trans (Ei t l _)
theorem Cf {t:Bool} : ∀ {l:List bw} {is:List Bool},l.foldl (eE t) is=is→∀ R∈l,eE t is R=is
 | [],_,_,_,h=>by simp at h
 | R :: l,is,h,x,hx=>by
  rw[VF] at h
  have h1:=Ei t l (eE t is R)
  rw[h] at h1
  have h2:=(h1.sU (EE t is R))
  rcases Vp.1 hx with rfl | hx
  ·exact h2
  ·rw[h2] at h; exact Cf h x hx
theorem O8 {g:aw} (hr:bS g=true) (t:Bool):kd g t (aA g t)=aA g t:=by
 have hf:=bO hr
 have h:=ua (mg t) g.rules 16 (cp g) (by have:=hf.az; simp[cp]; omega)
 rw[Ka,GH hr] at h
 exact h.1
theorem sY {g:aw} (hr:bS g=true) {t:Bool} {R:bw} (hR:R∈g.rules) (ha:cQ R.right (aA g t) t=true):(aA g t).getD R.left.toNat false=true:=by
 have h1:=Cf (O8 hr t) R hR
 have hf:=bO hr
 have hl:=fk hr t
 have hb:=hf.left R hR
 unfold eE at h1
 rw[Vd ha] at h1
 rw[← h1]
 simp only[U8]
 rw[W6 (by omega)]
 rfl
theorem zo {g:aw} (hr:bS g=true) {x:Int} (h:um g x):(aA g true).getD x.toNat false=true:=by
 induction h with
 | mk R hR _ ih=>exact sY hr hR (AV.2 fun s hs hn=>ih s hs hn)
section
variable {g r:aw} {p q:List Bool} {o:List Int}
theorem ml.UO (h:ml g p q o r) {x:Int} (hd:um g x):x∈o→um r (bW o x):=by
 induction hd with
 | mk R hR hsub ih =>
  intro hx
  obtain ⟨R1,hR1,hk1,e1⟩:=h.from_ _ hx
  have hk:ct p q R=true:=by
   rw[ct,Vm] at hk1 ⊢
   refine ⟨by rw[← e1]; exact hk1.1,?_⟩
   rw[h.pe]
   exact AV.2 fun s hs hn=>zo h.right (hsub s hs hn)
  have hin:=(h.kept R hR hk).2
  have hm:bY (bW o) R∈r.rules:=by rw[h.rules]; exact Vw.2 ⟨R,VX.2 ⟨hR,hk⟩,rfl⟩
  refine um.mk (bY (bW o) R) hm fun s' hs' hn'=>?_
  simp only[bY,Vw] at hs'
  obtain ⟨s,hs,rfl⟩:=hs'
  by_cases hn:s < 0
  ·rw[Vd hn]
   have:=ih s hs hn (hin s hs hn)
   rwa [show -1 - (-1 - bW o (-1 - s))=bW o (-1 - s) by omega]
  ·rw[Va hn] at hn'; omega
theorem ml.TR (h:ml g p q o r) {x:Int} (hx:x∈o):(aA r true).getD (bW o x).toNat false=true:=by
 obtain ⟨R,hR,hk,rfl⟩:=h.from_ _ hx
 rw[ct,Vm,h.pe] at hk
 have h1:=sY h.right hR hk.2
 have h2:=yP h.right _ h1
 have:=(h.inside _ hx)
 rw[show ((R.left.toNat:Nat):Int)=R.left by omega] at h2
 exact zo h.N9 (h.UO h2 hx)
theorem ml.at_ (h:ml g p q o r) {k:Nat} (hk:k < o.length):∃ x∈o,bW o x=k∧o[k]?=some x:=⟨o[k],Vi _,JQ h.nodup (U9 hk),U9 hk⟩
theorem ml.Mo (h:ml g p q o r) {k:Nat} (hk:k < o.length):(aA r true).getD k false=true:=by
 obtain ⟨x,hx,h1,_⟩:=h.at_ hk
 have:=h.TR hx
 rwa [h1,Vv] at this
end
def isRed (g:aw):Bool:=(gm g).2.2 == 0 && decide (g=(gm g).1)
def Tn (p:List Int) (i:Nat) (s:Int):Prop:=∃ c,p[i]?=some c∧(c=s∨c = -1)
structure Item where
 aF:Nat
 dot:Nat
 MF:Nat
 deriving DecidableEq
structure U6 (g:aw) (p:List Int) (S:Nat→List Item):Prop where
 start:∀ (i:Nat) (R:bw),g.rules[i]?=some R→R.left=g.start→⟨i,0,0⟩∈S 0
 term:∀ a x R s,x∈S a→g.rules[x.aF]?=some R→R.right[x.dot]?=some s→0≤s→Tn p a s→⟨x.aF,x.dot+1,x.MF⟩∈S (a+1)
 pred:∀ a x R s i R',x∈S a→g.rules[x.aF]?=some R→R.right[x.dot]?=some s→s < 0→g.rules[i]?=some R'→R'.left = -1 - s→a≤p.length→⟨i,0,a⟩∈S a
 null:∀ a x R s,x∈S a→g.rules[x.aF]?=some R→R.right[x.dot]?=some s→s < 0→(aA g false).getD (-1 - s).toNat false=true→a≤p.length→⟨x.aF,x.dot+1,x.MF⟩∈S a
 comp:∀ a y R' x R s,y∈S a→g.rules[y.aF]?=some R'→y.dot=R'.right.length→y.MF < a→x∈S y.MF→g.rules[x.aF]?=some R→R.right[x.dot]?=some s→s < 0→R'.left = -1 - s→a≤p.length→⟨x.aF,x.dot+1,x.MF⟩∈S a
abbrev Tb:=List (List (List Bool))
theorem Tm:uW.Ok:=by
 refine ⟨by unfold aS; decide,by unfold aS; decide,by unfold aS; decide,by unfold cm; decide,?_,?_⟩
 ·intro t ht; simp[uW] at ht
 ·intro r hr; simp[uW] at hr
section
variable {g r:aw} {p q:List Bool} {o:List Int}
end
theorem bytes_beq (a b:ByteArray):(a == b)=decide (a=b):=by
 cases a with | mk a=>cases b with | mk b =>
 rw[We]
 show (ByteArray.beq ⟨a⟩ ⟨b⟩=true)↔_
 simp only[ByteArray.beq]
 simp
theorem EJ (a b:ByteArray):ja a b=decide (a=b):=by
 cases a with | mk a=>cases b with | mk b =>
 rw[We]
 simp[ja]
theorem pz {α:Type} {a b:List α} {i:Nat} {x y:α} (hx:a[i]?=some x) (hy:b[i]?=some y) (h:a.take i=b.take i) (e:x=y):a.take (i+1)=b.take (i+1):=by
 rw[Vx,Vx,h,hx,hy,e]
theorem s6 {α:Type} {a b:List α} {i:Nat} (ha:a.length≤i) (hb:b.length≤i) (h:a.take i=b.take i):a=b:=by
 rwa [Vq ha,Vq hb] at h
theorem xb {α:Type} {a b:List α} {i:Nat} {x y:α} (hx:a[i]?=some x) (hy:b[i]?=some y) (e:x≠y):a≠b:=by
 rintro rfl; rw[hx] at hy; exact e (by simpa using hy)
theorem sG {α:Type} {a b:List α} (h:¬ a.length=b.length):a≠b:=fun e=>h (by rw[e])
theorem AD (x y:Term):fL Tryz.prog 9998 #[.string x.name,.int .i64 x.level,.int .i64 x.assoc] #[.string y.name,.int .i64 y.level,.int .i64 y.assoc]
  [{ name:= "Name",type:=9,offset:=0,embedded:=false,tag:= "",pkgPath:= "",byteOffset:=0 },{ name:= "Level",type:=3,offset:=1,embedded:=false,tag:= "",pkgPath:= "",byteOffset:=16 },
   { name:= "Assoc",type:=3,offset:=2,embedded:=false,tag:= "",pkgPath:= "",byteOffset:=24 }] (x.name == y.name && (x.level == y.level && (x.assoc == y.assoc && true))) :=
 .str _ _ _ _ _ (by decide) Tryz.underlying9 rfl rfl (.int _ _ _ _ _ _ (by decide) Tryz.underlying3 rfl rfl (.int _ _ _ _ _ _ (by decide) Tryz.underlying3 rfl rfl .nil))
theorem Km (x y:Term):(x.name == y.name && (x.level == y.level && (x.assoc == y.assoc && true)))=decide (x=y):=by
 rw[bytes_beq,We]
 cases x; cases y
 simp
theorem RP (a b:Int):(a == b)=decide (a=b):=by rw[We]; simp
theorem Pt (x y:bw):decide (x=y)=(decide (x.left=y.left) && (decide (x.prec=y.prec) && decide (x.right=y.right))):=by
 cases x; cases y
 rw[We]
 simp[and_comm]
theorem Hq (x y:aw):decide (x=y)=(decide (x.ay=y.ay) && (decide (x.az=y.az) && (decide (x.rules=y.rules) && decide (x.start=y.start)))):=by
 cases x; cases y
 rw[We]
 simp
theorem Fw (g k:aw):∀ v∈[V.agg (au g),V.agg (au k)],Tree v:=by
 intro v hv; simp at hv
 rcases hv with rfl | rfl <;> exact cI _ (dH _)
def oy:SC :=
 .seq (.seq (ao [aj 42 5,aB 43 0 2,ax 44 43,aX 45 44,bc 46 .lss 42 45]) <|
 .cond (.tmp 46) (.skip) (.exit 0)) <|
 .seq (.block 1 (.seq (ao [aB 49 0 2,ax 50 49,aj 51 5,aP 52 3 50 51,bp 53 3 52,aB 54 0 3,ax 55 54,aj 56 5,aP 57 3 55 56,bp 58 3 57,((some 59),.op (.old (.binOp .neq 129 (.tmp 53) (.tmp 58) 129) 4))]) <|
 .cond (.tmp 59) (.seq (ao [bK 4 false]) <|
 .ret) (.skip))) <|
 ao [aj 47 5,aQ 48 .add 47 1,aj 5 48]
def nX:SC :=
 .seq (.seq (ao [aj 60 6,aB 61 1 2,ax 62 61,aX 63 62,bc 64 .lss 60 63]) <|
 .cond (.tmp 64) (.skip) (.exit 2)) <|
 .seq (.block 3 (.seq (ao [aB 67 1 2,ax 68 67,aj 69 6,aP 70 1 68 69,ax 71 70,aB 72 1 3,ax 73 72,aj 74 6,aP 75 1 73 74,ax 76 75,((some 77),.op (.xN .neq (.tmp 71) (.tmp 76)))]) <|
 .cond (.tmp 77) (.seq (ao [bK 4 false]) <|
 .ret) (.skip))) <|
 ao [aj 65 6,aQ 66 .add 65 1,aj 6 66]
def oO:SC :=
 .seq (.seq (ao [aj 78 7,aB 79 2 2,ax 80 79,aX 81 80,bc 82 .lss 78 81]) <|
 .cond (.tmp 82) (.skip) (.exit 4)) <|
 .seq (.block 5 (.seq (ao [aB 85 2 2,ax 86 85,aj 87 7,aP 88 3 86 87,bp 89 3 88,aB 90 2 3,ax 91 90,aj 92 7,aP 93 3 91 92,bp 94 3 93,((some 8),.op (.alloc [(.val (.int .i64 0)),(.emp 1),(.val (.int .i64 0))])),((some 9),.op (.alloc [(.val (.int .i64 0)),(.emp 1),(.val (.int .i64 0))])),(none,.op (.store 3 (.tmp 8) (.tmp 89))),(none,.op (.store 3 (.tmp 9) (.tmp 94)))]) <|
 .seq (.region false [⟨none,[aB 95 0 8,ax 96 95,aB 97 0 9,ax 98 97,bc 99 .neq 96 98,aj 100 99]⟩,⟨(some (100,false)),[aB 101 2 8,ax 102 101,aB 103 2 9,ax 104 103,bc 105 .neq 102 104]⟩,⟨none,[c6 106 100 105,aj 107 106]⟩,⟨(some (107,false)),[aB 108 1 8,ax 109 108,aB 110 1 9,ax 111 110,bC 112 37 [109,111],dd 113 112]⟩,⟨none,[c6 114 107 113]⟩]) <|
 .cond (.tmp 114) (.seq (ao [bK 4 false]) <|
 .ret) (.skip))) <|
 ao [aj 83 7,aQ 84 .add 83 1,aj 7 84]
def qQ:SF:=⟨.seq (ao [cL 2 0,cL 3 1,bK 4 false]) <|
 .seq (.seq (.region false [⟨none,[aB 10 0 2,ax 11 10,aX 12 11,aB 13 0 3,ax 14 13,aX 15 14,bc 16 .neq 12 15,aj 17 16]⟩,⟨(some (17,false)),[aB 18 1 2,ax 19 18,aX 20 19,aB 21 1 3,ax 22 21,aX 23 22,bc 24 .neq 20 23]⟩,⟨none,[c6 25 17 24,aj 26 25]⟩,⟨(some (26,false)),[aB 27 2 2,ax 28 27,aX 29 28,aB 30 2 3,ax 31 30,aX 32 31,bc 33 .neq 29 32]⟩,⟨none,[c6 34 26 33,aj 35 34]⟩,⟨(some (35,false)),[aB 36 3 2,ax 37 36,aB 38 3 3,ax 39 38,bc 40 .neq 37 39]⟩,⟨none,[c6 41 35 40]⟩]) <|
 .cond (.tmp 41) (.seq (ao [bK 4 false]) <|
 .ret) (.skip)) <|
 .seq (.seq (ao [bj 5 0]) <|
 .block 0 (.loop oy)) <|
 .seq (.seq (ao [bj 6 0]) <|
 .block 2 (.loop nX)) <|
 .seq (.seq (ao [bj 7 0]) <|
 .block 4 (.loop oO)) <|
 .seq (ao [bK 4 true]) <|
 .ret,
 [.tmp 4],115⟩
theorem vH:aV Tryz.prog 36 [2,3]=some qQ:=by kernel_rfl
set_option maxHeartbeats 2000000 in
theorem D7 (g k:aw) (hg:g.Ok):aI Tryz.prog 36 [.agg (au g),.agg (au k)] (gb (decide (g=k))):=by
 refine aI.val (Fw g k) fun H=>?_
 rw[Hq]
 refine aC.of mixed vH ?_
 have h1:=hg.ay
 have h2:=hg.az
 have h3:=hg.rules
 unfold aS at h1 h2 h3
 simp (disch:=omega) only [↓wr,seval,wq,ah,ag,ak,aa,ab,af,ai,ae,qQ,au,encS]
 repeat' (first | (refine av.dec (fun _=>?_) (fun _=>?_)) | (refine av.eq (fun _=>?_) (fun _=>?_)) | (refine av.ne (fun _=>?_) (fun _=>?_)) | (refine av.split (fun _=>?_) (fun _=>?_)) | (simp (disch:=omega) only [↓wr,seval,wq,ah,ag,ak,aa,ab,af,ai,ae,au,encS]))
 ·rename_i e; rw[decide_eq_false (sG (by omega))]; rfl
 ·rename_i e; rw[decide_eq_false (p:=g.az=k.az) (sG (by omega))]; simp
 ·rename_i e; rw[decide_eq_false (p:=g.rules=k.rules) (sG (by omega))]; simp
 ·rename_i e; rw[decide_eq_false e]; simp
 rename_i l1 l2 l3 l4
 refine aZ.up g.ay.length (fun i T _=>g.ay.take i=k.ay.take i∧T 2=.aN (au g) 0∧T 3=.aN (au k) 0∧T 5=gi i) ⟨by simp,rfl,rfl,rfl⟩ ?_
 rintro i m T H hm ⟨hi,t2,t3,t5⟩
 simp (disch:=omega) only [↓wr,seval,wq,ah,ag,ak,aa,ab,af,ai,ae,oy,t2,t3,t5,au,encS]
 refine av.dec (fun hc=>?_) (fun hc=>?_)
 ·have hx:=U9 (l:=g.ay) (i:=i) (by omega)
  have hy:=U9 (l:=k.ay) (i:=i) (by omega)
  generalize g.ay[i]'(by omega)=x at hx
  generalize k.ay[i]'(by omega)=y at hy
  simp (disch:=omega) only [↓wr,seval,wq,ah,ag,ak,aa,ab,af,ai,ae,t2,t3,t5,Vc,hx,hy,b6,au,encS]
  refine iw (xs:=#[.string x.name,.int .i64 x.level,.int .i64 x.assoc]) (ys:=#[.string y.name,.int .i64 y.level,.int .i64 y.assoc]) Tryz.underlying129 (by kernel_rfl) (by kernel_rfl) ?_ ?_ (AD x y) (.inr ⟨rfl,rfl⟩) ?_
  ·rfl
  ·rfl
  rw[Km]
  simp (disch:=omega) only [↓wr,seval,wq,ah,ag,ak,aa,ab,af,ai,ae,t2,t3,t5]
  refine av.split (fun e=>?_) (fun e=>?_)
  ·simp (disch:=omega) only [↓wr,seval,wq,ah,ag,ak,aa,ab,af,ai,ae,t2,t3,t5]
   exact aM hm (by omega) ⟨pz hx hy hi (by simpa using e),t2,t3,rfl⟩
  ·simp (disch:=omega) only [↓wr,seval,wq,ah,ag,ak,aa,ab,af,ai,ae,t2,t3,t5]
   rw[decide_eq_false (xb hx hy (by simpa using e))]; rfl
 have e1:g.ay=k.ay:=s6 (by omega) (by omega) hi
 simp (disch:=omega) only [↓wr,seval,wq,ah,ag,ak,aa,ab,af,ai,ae,t2,t3,t5]
 clear hi hc hm
 refine aZ.up g.az.length (fun i T _=>g.az.take i=k.az.take i∧T 2=.aN (au g) 0∧T 3=.aN (au k) 0∧T 6=gi i) ⟨by simp,t2,t3,rfl⟩ ?_
 clear t2 t3 t5 T H i m
 rintro i m T H hm ⟨hi,t2,t3,t5⟩
 simp (disch:=omega) only [↓wr,seval,wq,ah,ag,ak,aa,ab,af,ai,ae,nX,t2,t3,t5,au,encS]
 refine av.dec (fun hc=>?_) (fun hc=>?_)
 ·have hx:=U9 (l:=g.az) (i:=i) (by omega)
  have hy:=U9 (l:=k.az) (i:=i) (by omega)
  generalize g.az[i]'(by omega)=x at hx
  generalize k.az[i]'(by omega)=y at hy
  simp (disch:=omega) only [↓wr,seval,wq,ah,ag,ak,aa,ab,af,ai,ae,t2,t3,t5,Vc,hx,hy,b6,au,encS,EJ]
  refine av.split (fun e=>?_) (fun e=>?_)
  ·simp (disch:=omega) only [↓wr,seval,wq,ah,ag,ak,aa,ab,af,ai,ae,t2,t3,t5]
   exact aM hm (by omega) ⟨pz hx hy hi (by simpa using e),t2,t3,rfl⟩
  ·simp (disch:=omega) only [↓wr,seval,wq,ah,ag,ak,aa,ab,af,ai,ae,t2,t3,t5]
   rw[decide_eq_false (p:=g.az=k.az) (xb hx hy (by simpa using e))]; simp
 have e2:g.az=k.az:=s6 (by omega) (by omega) hi
 simp (disch:=omega) only [↓wr,seval,wq,ah,ag,ak,aa,ab,af,ai,ae,t2,t3,t5]
 clear hi hc hm
 refine aZ.up g.rules.length (fun i T _=>g.rules.take i=k.rules.take i∧T 2=.aN (au g) 0∧T 3=.aN (au k) 0∧T 7=gi i) ⟨by simp,t2,t3,rfl⟩ ?_
 clear t2 t3 t5 T H i m
 rintro i m T H hm ⟨hi,t2,t3,t5⟩
 simp (disch:=omega) only [↓wr,seval,wq,ah,ag,ak,aa,ab,af,ai,ae,oO,t2,t3,t5,au,encS]
 refine av.dec (fun hc=>?_) (fun hc=>?_)
 ·have hx:=U9 (l:=g.rules) (i:=i) (by omega)
  have hy:=U9 (l:=k.rules) (i:=i) (by omega)
  have hmx:g.rules[i]'(by omega)∈g.rules:=Vi _
  generalize g.rules[i]'(by omega)=x at hx hmx
  generalize k.rules[i]'(by omega)=y at hy
  have hsx:=(hg.aF x hmx).2.2.1
  simp (disch:=omega) only [↓wr,seval,wq,ah,ag,ak,aa,ab,af,ai,ae,t2,t3,t5,Vc,hx,hy,aO,encI,au,encS]
  intro n hn
  try simp (disch:=omega) only [↓wr,seval,wq,ah,ag,ak,aa,ab,af,ai,ae,t2,t3,t5,aO,encI]
  intro n2 hn2
  have hmn:=(de hn2 c7).1
  try simp (disch:=omega) only [↓wr,seval,wq,ah,ag,ak,aa,ab,af,ai,ae,t2,t3,t5,aO,encI,hmn,hmn.symm]
  have hne:x≠y→V.val (Value.bool false)=V.val (Value.bool (decide (g.ay=k.ay) && (decide (g.az=k.az) && (decide (g.rules=k.rules) && decide (g.start=k.start))))):=fun e=>by
   rw[decide_eq_false (p:=g.rules=k.rules) (xb hx hy e)]; simp
  repeat' (first | (refine av.dec (fun _=>?_) (fun _=>?_)) | (refine av.eq (fun _=>?_) (fun _=>?_)) | (refine av.ne (fun _=>?_) (fun _=>?_)) | (refine av.split (fun _=>?_) (fun _=>?_)) | (refine aD.pure (RE x.right y.right hsx) (by kernel_rfl) ?_) | (simp (disch:=omega) only [↓wr,seval,wq,ah,ag,ak,aa,ab,af,ai,ae,t2,t3,t5,aO,encI,hmn,hmn.symm]))
  ·rename_i e; exact hne fun h=>e (by rw[h])
  ·rename_i e; exact hne fun h=>e (by rw[h])
  ·rename_i e3 e2 e1
   refine aM hm (by omega) ⟨pz hx hy hi ?_,t2,t3,rfl⟩
   cases x; cases y
   simp_all
  ·rename_i e; exact hne fun h=>by rw[h] at e; simp at e
 ·have e3:g.rules=k.rules:=s6 (by omega) (by omega) hi
  simp (disch:=omega) only [↓wr,seval,wq,ah,ag,ak,aa,ab,af,ai,ae,t2,t3,t5]
  simp[e1,e2,e3,l4]
def gA:SC :=
 .seq (ao [bc 14 .lss 13 12]) <|
 .seq (.cond (.tmp 14) (.skip) (.exit 0)) <|
 .seq (.block 1 (.seq (ao [aj 15 13,aj 5 15]) <|
 .seq (ao [aj 16 0,aj 17 5,aP 18 3 16 17,bp 19 3 18,aj 20 1,aj 21 5,aP 22 3 20 21,bp 23 3 22,((some 24),.op (.old (.binOp .neq 129 (.tmp 19) (.tmp 23) 129) 4))]) <|
 .cond (.tmp 24) (.seq (ao [bK 4 false]) <|
 .ret) (.skip))) <|
 ao [aQ 25 .add 13 1,aj 13 25]
def gW:SF:=⟨.seq (ao [bK 4 false]) <|
 .seq (.seq (ao [aj 6 0,aX 7 6,aj 8 1,aX 9 8,bc 10 .neq 7 9]) <|
 .cond (.tmp 10) (.seq (ao [bK 4 false]) <|
 .ret) (.skip)) <|
 .seq (.seq (ao [aj 11 0,aX 12 11,bj 13 0]) <|
 .block 0 (.loop gA)) <|
 .seq (ao [bK 4 true]) <|
 .ret,
 [.tmp 4],26⟩
theorem kh:aV Tryz.prog 162 []=some gW:=by kernel_rfl
def iu:SC :=
 .seq (ao [bc 14 .lss 13 12]) <|
 .seq (.cond (.tmp 14) (.skip) (.exit 0)) <|
 .seq (.block 1 (.seq (ao [aj 15 13,aj 5 15]) <|
 .seq (ao [aj 16 0,aj 17 5,aP 18 1 16 17,ax 19 18,aj 20 1,aj 21 5,aP 22 1 20 21,ax 23 22,((some 24),.op (.xN .neq (.tmp 19) (.tmp 23)))]) <|
 .cond (.tmp 24) (.seq (ao [bK 4 false]) <|
 .ret) (.skip))) <|
 ao [aQ 25 .add 13 1,aj 13 25]
def iQ:SF:=⟨.seq (ao [bK 4 false]) <|
 .seq (.seq (ao [aj 6 0,aX 7 6,aj 8 1,aX 9 8,bc 10 .neq 7 9]) <|
 .cond (.tmp 10) (.seq (ao [bK 4 false]) <|
 .ret) (.skip)) <|
 .seq (.seq (ao [aj 11 0,aX 12 11,bj 13 0]) <|
 .block 0 (.loop iu)) <|
 .seq (ao [bK 4 true]) <|
 .ret,
 [.tmp 4],26⟩
theorem lU:aV Tryz.prog 163 []=some iQ:=by kernel_rfl
def jD:SC :=
 .seq (ao [bc 14 .lss 13 12]) <|
 .seq (.cond (.tmp 14) (.skip) (.exit 0)) <|
 .seq (.block 1 (.seq (ao [aj 15 13,aj 5 15]) <|
 .seq (ao [aj 16 0,aj 17 5,aP 18 1 16 17,ax 19 18,aj 20 1,aj 21 5,aP 22 1 20 21,ax 23 22,bc 24 .neq 19 23]) <|
 .cond (.tmp 24) (.seq (ao [bK 4 false]) <|
 .ret) (.skip))) <|
 ao [aQ 25 .add 13 1,aj 13 25]
def kr:SF:=⟨.seq (ao [bK 4 false]) <|
 .seq (.seq (ao [aj 6 0,aX 7 6,aj 8 1,aX 9 8,bc 10 .neq 7 9]) <|
 .cond (.tmp 10) (.seq (ao [bK 4 false]) <|
 .ret) (.skip)) <|
 .seq (.seq (ao [aj 11 0,aX 12 11,bj 13 0]) <|
 .block 0 (.loop jD)) <|
 .seq (ao [bK 4 true]) <|
 .ret,
 [.tmp 4],26⟩
theorem pA:aV Tryz.prog 198 []=some kr:=by kernel_rfl
def AF:SF:=⟨.seq (ao [cL 2 0,cL 3 1,bK 4 false]) <|
 .seq (.region false [⟨none,[aB 5 0 2,ax 6 5,aB 7 0 3,ax 8 7,bc 9 .eql 6 8,aj 10 9]⟩,⟨(some (10,true)),[aB 11 2 2,ax 12 11,aB 13 2 3,ax 14 13,bc 15 .eql 12 14]⟩,⟨none,[eF 16 10 15,aj 17 16]⟩,⟨(some (17,true)),[aB 18 1 2,ax 19 18,aB 20 1 3,ax 21 20,bC 22 198 [19,21]]⟩,⟨none,[eF 23 17 22,aj 4 23]⟩]) <|
 .ret,
 [.tmp 4],24⟩
theorem Df:aV Tryz.prog 165 [2,3]=some AF:=by kernel_rfl
def dC:SC :=
 .seq (ao [bc 18 .lss 17 16]) <|
 .seq (.cond (.tmp 18) (.skip) (.exit 0)) <|
 .seq (.block 1 (.seq (ao [aj 19 17,aP 20 3 15 17,bp 21 3 20,((some 8),.op (.alloc [(.val (.int .i64 0)),(.emp 1),(.val (.int .i64 0))])),aj 7 19,(none,.op (.store 3 (.tmp 8) (.tmp 21)))]) <|
 .seq (ao [aj 22 1,aj 23 7,aP 24 3 22 23,bp 25 3 24,((some 9),.op (.alloc [(.val (.int .i64 0)),(.emp 1),(.val (.int .i64 0))])),(none,.op (.store 3 (.tmp 9) (.tmp 25)))]) <|
 .seq (ao [aj 26 2,bp 27 3 8,bp 28 3 9,((some 29),.call (.tmp 26) [(.tmp 27),(.tmp 28)]),dd 30 29]) <|
 .cond (.tmp 30) (.seq (ao [bK 6 false]) <|
 .ret) (.skip))) <|
 ao [aQ 31 .add 17 1,aj 17 31]
def dI:SF:=⟨.seq (ao [bK 6 false]) <|
 .seq (.seq (ao [aj 10 0,aX 11 10,aj 12 1,aX 13 12,bc 14 .neq 11 13]) <|
 .cond (.tmp 14) (.seq (ao [bK 6 false]) <|
 .ret) (.skip)) <|
 .seq (.seq (ao [aj 15 0,aX 16 15,bj 17 0]) <|
 .block 0 (.loop dC)) <|
 .seq (ao [bK 6 true]) <|
 .ret,
 [.tmp 6],32⟩
theorem fH:aV Tryz.prog 164 []=some dI:=by kernel_rfl
def B9:SF:=⟨.seq (ao [cL 2 0,cL 3 1,bK 4 false]) <|
 .seq (.region false [⟨none,[aB 5 0 2,ax 6 5,aB 7 0 3,ax 8 7,bC 9 162 [6,8],aj 10 9]⟩,⟨(some (10,true)),[aB 11 1 2,ax 12 11,aB 13 1 3,ax 14 13,bC 15 163 [12,14]]⟩,⟨none,[eF 16 10 15,aj 17 16]⟩,⟨(some (17,true)),[aB 18 2 2,ax 19 18,aB 20 2 3,ax 21 20,oc 22 164 [(.tmp 19),(.tmp 21),(.val (.fn 165 [] []))]]⟩,⟨none,[eF 23 17 22,aj 24 23]⟩,⟨(some (24,true)),[aB 25 3 2,ax 26 25,aB 27 3 3,ax 28 27,bc 29 .eql 26 28]⟩,⟨none,[eF 30 24 29,aj 4 30]⟩]) <|
 .ret,
 [.tmp 4],31⟩
theorem FH:aV Tryz.prog 110 [2,3]=some B9:=by kernel_rfl
theorem MB {α:Type} {f g:α→List V} {a b:List α} (hf:∀ x,∀ v∈f x,Tree v) (hg:∀ x,∀ v∈g x,Tree v):∀ v∈[V.aK (a.map f),V.aK (b.map g)],Tree v:=by
 intro v hv; simp at hv
 rcases hv with rfl | rfl
 ·exact fa _ _ fun x _=>hf x
 ·exact fa _ _ fun x _=>hg x
theorem OL (a b:List Term) (ha:aS a) (H:View):aC Tryz.prog 162 [.aK (a.map b6),.aK (b.map b6)] H fun r _=>r=gb (decide (a=b)):=by
 refine aC.of mixed kh ?_
 unfold aS at ha
 simp (disch:=omega) only [↓wr,seval,wq,ah,ag,ak,aa,ab,af,ai,ae,gW]
 refine av.ne (fun h=>?_) (fun h=>?_)
 ·simp (disch:=omega) only [↓wr,seval,wq,ah,ag,ak,aa,ab,af,ai,ae]
  rw[decide_eq_false (sG (by omega))]
 ·simp (disch:=omega) only [↓wr,seval,wq,ah,ag,ak,aa,ab,af,ai,ae]
  refine aZ.up a.length (fun i T _=>a.take i=b.take i∧T 0=.aK (a.map b6)∧T 1=.aK (b.map b6)∧T 12=gi a.length∧T 13=gi i) ⟨by simp,rfl,rfl,rfl,rfl⟩ ?_
  rintro i k T H hk ⟨hi,h0,h1,h7,h8⟩
  simp (disch:=omega) only [↓wr,seval,wq,ah,ag,ak,aa,ab,af,ai,ae,gA,h0,h1,h7,h8]
  refine av.dec (fun hc=>?_) (fun hc=>?_)
  ·have h2:a[i]?=some (a[i]'(by omega)):=U9 (by omega)
   have h3:b[i]?=some (b[i]'(by omega)):=U9 (by omega)
   generalize a[i]'(by omega)=x at h2
   generalize b[i]'(by omega)=y at h3
   simp (disch:=omega) only [↓wr,seval,wq,ah,ag,ak,aa,ab,af,ai,ae,h0,h1,h7,h8,Vc,h2,h3,b6]
   refine iw (xs:=#[.string x.name,.int .i64 x.level,.int .i64 x.assoc]) (ys:=#[.string y.name,.int .i64 y.level,.int .i64 y.assoc]) Tryz.underlying129 (by kernel_rfl) (by kernel_rfl) ?_ ?_ (AD x y) (.inr ⟨rfl,rfl⟩) ?_
   ·rfl
   ·rfl
   rw[Km]
   simp (disch:=omega) only [↓wr,seval,wq,ah,ag,ak,aa,ab,af,ai,ae,h0,h1,h7,h8]
   refine av.split (fun e=>?_) (fun e=>?_)
   ·simp (disch:=omega) only [↓wr,seval,wq,ah,ag,ak,aa,ab,af,ai,ae,h0,h1,h7,h8]
    exact aM hk (by omega) ⟨pz h2 h3 hi (by simpa using e),h0,h1,h7,rfl⟩
   ·simp (disch:=omega) only [↓wr,seval,wq,ah,ag,ak,aa,ab,af,ai,ae,h0,h1,h7,h8]
    rw[decide_eq_false (xb h2 h3 (by simpa using e))]
  ·simp (disch:=omega) only [↓wr,seval,wq,ah,ag,ak,aa,ab,af,ai,ae,h0,h1,h7,h8]
   rw[Xi (s6 (by omega) (by omega) hi)]
theorem O3 (a b:List ByteArray) (ha:aS a) (H:View):aC Tryz.prog 163 [encS a,encS b] H fun r _=>r=gb (decide (a=b)):=by
 refine aC.of mixed lU ?_
 unfold aS at ha
 simp (disch:=omega) only [↓wr,seval,wq,ah,ag,ak,aa,ab,af,ai,ae,iQ,encS]
 refine av.ne (fun h=>?_) (fun h=>?_)
 ·simp (disch:=omega) only [↓wr,seval,wq,ah,ag,ak,aa,ab,af,ai,ae]
  rw[decide_eq_false (sG (by omega))]
 ·simp (disch:=omega) only [↓wr,seval,wq,ah,ag,ak,aa,ab,af,ai,ae]
  refine aZ.up a.length (fun i T _=>a.take i=b.take i∧T 0=encS a∧T 1=encS b∧T 12=gi a.length∧T 13=gi i) ⟨by simp,rfl,rfl,rfl,rfl⟩ ?_
  rintro i k T H hk ⟨hi,h0,h1,h7,h8⟩
  simp (disch:=omega) only [↓wr,seval,wq,ah,ag,ak,aa,ab,af,ai,ae,iu,h0,h1,h7,h8,encS]
  refine av.dec (fun hc=>?_) (fun hc=>?_)
  ·have h2:a[i]?=some (a[i]'(by omega)):=U9 (by omega)
   have h3:b[i]?=some (b[i]'(by omega)):=U9 (by omega)
   generalize a[i]'(by omega)=x at h2
   generalize b[i]'(by omega)=y at h3
   simp (disch:=omega) only [↓wr,seval,wq,ah,ag,ak,aa,ab,af,ai,ae,h0,h1,h7,h8,encS,Vc,h2,h3,EJ]
   refine av.split (fun e=>?_) (fun e=>?_)
   ·simp (disch:=omega) only [↓wr,seval,wq,ah,ag,ak,aa,ab,af,ai,ae,h0,h1,h7,h8]
    exact aM hk (by omega) ⟨pz h2 h3 hi (by simpa using e),h0,h1,h7,rfl⟩
   ·simp (disch:=omega) only [↓wr,seval,wq,ah,ag,ak,aa,ab,af,ai,ae,h0,h1,h7,h8]
    rw[decide_eq_false (xb h2 h3 (by simpa using e))]
  ·simp (disch:=omega) only [↓wr,seval,wq,ah,ag,ak,aa,ab,af,ai,ae,h0,h1,h7,h8]
   rw[Xi (s6 (by omega) (by omega) hi)]
theorem Mp (a b:List Int) (ha:aS a) (H:View):aC Tryz.prog 198 [encI a,encI b] H fun r _=>r=gb (decide (a=b)):=by
 refine aC.of mixed pA ?_
 unfold aS at ha
 simp (disch:=omega) only [↓wr,seval,wq,ah,ag,ak,aa,ab,af,ai,ae,kr,encI]
 refine av.ne (fun h=>?_) (fun h=>?_)
 ·simp (disch:=omega) only [↓wr,seval,wq,ah,ag,ak,aa,ab,af,ai,ae]
  rw[decide_eq_false (sG (by omega))]
 ·simp (disch:=omega) only [↓wr,seval,wq,ah,ag,ak,aa,ab,af,ai,ae]
  refine aZ.up a.length (fun i T _=>a.take i=b.take i∧T 0=encI a∧T 1=encI b∧T 12=gi a.length∧T 13=gi i) ⟨by simp,rfl,rfl,rfl,rfl⟩ ?_
  rintro i k T H hk ⟨hi,h0,h1,h7,h8⟩
  simp (disch:=omega) only [↓wr,seval,wq,ah,ag,ak,aa,ab,af,ai,ae,jD,h0,h1,h7,h8,encI]
  refine av.dec (fun hc=>?_) (fun hc=>?_)
  ·have h2:a[i]?=some (a[i]'(by omega)):=U9 (by omega)
   have h3:b[i]?=some (b[i]'(by omega)):=U9 (by omega)
   generalize a[i]'(by omega)=x at h2
   generalize b[i]'(by omega)=y at h3
   simp (disch:=omega) only [↓wr,seval,wq,ah,ag,ak,aa,ab,af,ai,ae,h0,h1,h7,h8,encI,Vc,h2,h3]
   refine av.ne (fun e=>?_) (fun e=>?_)
   ·simp (disch:=omega) only [↓wr,seval,wq,ah,ag,ak,aa,ab,af,ai,ae,h0,h1,h7,h8]
    rw[decide_eq_false (xb h2 h3 e)]
   ·simp (disch:=omega) only [↓wr,seval,wq,ah,ag,ak,aa,ab,af,ai,ae,h0,h1,h7,h8]
    exact aM hk (by omega) ⟨pz h2 h3 hi e,h0,h1,h7,rfl⟩
  ·simp (disch:=omega) only [↓wr,seval,wq,ah,ag,ak,aa,ab,af,ai,ae,h0,h1,h7,h8]
   rw[Xi (s6 (by omega) (by omega) hi)]
theorem Nk (a b:List Term) (ha:aS a):aI Tryz.prog 162 [.aK (a.map b6),.aK (b.map b6)] (gb (decide (a=b))):=aI.val (MB tx tx) (OL a b ha)
theorem NW (a b:List ByteArray) (ha:aS a):aI Tryz.prog 163 [encS a,encS b] (gb (decide (a=b))):=aI.val (by
 intro v hv; simp at hv
 rcases hv with rfl | rfl <;> exact zA _) (O3 a b ha)
theorem Mm (a b:List Int) (ha:aS a):aI Tryz.prog 198 [encI a,encI b] (gb (decide (a=b))):=aI.val (by
 intro v hv; simp at hv
 rcases hv with rfl | rfl <;> exact eP _) (Mp a b ha)
theorem Qg (x y:bw) (hx:aS x.right):aI Tryz.prog 165 [.agg (aO x),.agg (aO y)] (gb (decide (x=y))):=by
 refine aI.val (by
  intro v hv; simp at hv
  rcases hv with rfl | rfl <;> exact cI _ (gL _)) fun H=>?_
 rw[Pt]
 refine aC.of mixed Df ?_
 simp (disch:=omega) only [↓wr,seval,wq,ah,ag,ak,aa,ab,af,ai,ae,AF,aO,encI]
 repeat' (first | (refine av.dec (fun _=>?_) (fun _=>?_)) | (refine av.eq (fun _=>?_) (fun _=>?_)) | (refine av.ne (fun _=>?_) (fun _=>?_)) | (refine av.split (fun _=>?_) (fun _=>?_)) | (refine aD.pure (Mm x.right y.right hx) (by kernel_rfl) ?_) | (simp (disch:=omega) only [↓wr,seval,wq,ah,ag,ak,aa,ab,af,ai,ae,aO]))
 all_goals simp[*]
theorem Ib (a b:List bw) (ha:aS a) (hr:∀ r∈a,aS r.right) (H:View):aC Tryz.prog 164 [.aK (a.map aO),.aK (b.map aO),.fn 165 [] []] H fun r _=>r=gb (decide (a=b)):=by
 refine aC.of mixed fH ?_
 unfold aS at ha
 simp (disch:=omega) only [↓wr,seval,wq,ah,ag,ak,aa,ab,af,ai,ae,dI]
 refine av.ne (fun h=>?_) (fun h=>?_)
 ·simp (disch:=omega) only [↓wr,seval,wq,ah,ag,ak,aa,ab,af,ai,ae]
  rw[decide_eq_false (sG (by omega))]
 ·simp (disch:=omega) only [↓wr,seval,wq,ah,ag,ak,aa,ab,af,ai,ae]
  refine aZ.up a.length (fun i T _=>a.take i=b.take i∧T 15=.aK (a.map aO)∧T 1=.aK (b.map aO)∧T 2=.fn 165 [] []∧T 16=gi a.length∧T 17=gi i) ⟨by simp,rfl,rfl,rfl,rfl,rfl⟩ ?_
  rintro i k T H hk ⟨hi,h0,h1,h6,h7,h8⟩
  simp (disch:=omega) only [↓wr,seval,wq,ah,ag,ak,aa,ab,af,ai,ae,dC,h0,h1,h6,h7,h8]
  refine av.dec (fun hc=>?_) (fun hc=>?_)
  ·have h2:a[i]?=some (a[i]'(by omega)):=U9 (by omega)
   have h3:b[i]?=some (b[i]'(by omega)):=U9 (by omega)
   have hm:a[i]'(by omega)∈a:=Vi _
   generalize a[i]'(by omega)=x at h2 hm
   generalize b[i]'(by omega)=y at h3
   have hsx:=hr x hm
   simp (disch:=omega) only [↓wr,seval,wq,ah,ag,ak,aa,ab,af,ai,ae,h0,h1,h6,h7,h8,Vc,h2,h3,aO,encI]
   intro n hn
   try simp (disch:=omega) only [↓wr,seval,wq,ah,ag,ak,aa,ab,af,ai,ae,h0,h1,h6,h7,h8,Vc,h2,h3,aO,encI]
   intro m hmd
   have hmn:=(de hmd c7).1
   try simp (disch:=omega) only [↓wr,seval,wq,ah,ag,ak,aa,ab,af,ai,ae,h0,h1,h6,h7,h8,Vc,h2,h3,aO,encI,hmn,hmn.symm]
   refine aD.pure (Qg x y hsx) (by kernel_rfl) ?_
   simp (disch:=omega) only [↓wr,seval,wq,ah,ag,ak,aa,ab,af,ai,ae,h0,h1,h6,h7,h8]
   refine av.split (fun e=>?_) (fun e=>?_)
   ·simp (disch:=omega) only [↓wr,seval,wq,ah,ag,ak,aa,ab,af,ai,ae,h0,h1,h6,h7,h8]
    exact aM hk (by omega) ⟨pz h2 h3 hi (by simpa using e),h0,h1,h6,h7,rfl⟩
   ·simp (disch:=omega) only [↓wr,seval,wq,ah,ag,ak,aa,ab,af,ai,ae,h0,h1,h6,h7,h8]
    rw[decide_eq_false (xb h2 h3 (by simpa using e))]
  ·simp (disch:=omega) only [↓wr,seval,wq,ah,ag,ak,aa,ab,af,ai,ae,h0,h1,h6,h7,h8]
   rw[Xi (s6 (by omega) (by omega) hi)]
theorem Ia (a b:List bw) (ha:aS a) (hr:∀ r∈a,aS r.right):aI Tryz.prog 164 [.aK (a.map aO),.aK (b.map aO),.fn 165 [] []] (gb (decide (a=b))):=aI.val (by
 intro v hv; simp at hv
 rcases hv with rfl | rfl | rfl
 ·exact fa _ _ fun x _=>gL x
 ·exact fa _ _ fun x _=>gL x
 ·exact Dz (by simp) (by simp)) (Ib a b ha hr)
theorem PK (g k:aw) (hg:g.Ok):aI Tryz.prog 110 [.agg (au g),.agg (au k)] (gb (decide (g=k))):=by
 refine aI.val (Fw g k) fun H=>?_
 rw[Hq]
 refine aC.of mixed FH ?_
 simp (disch:=omega) only [↓wr,seval,wq,ah,ag,ak,aa,ab,af,ai,ae,B9,au,encS]
 repeat' (first | (refine av.dec (fun _=>?_) (fun _=>?_)) | (refine av.eq (fun _=>?_) (fun _=>?_)) | (refine av.ne (fun _=>?_) (fun _=>?_)) | (refine av.split (fun _=>?_) (fun _=>?_)) | (refine aD.pure (Nk g.ay k.ay hg.ay) (by kernel_rfl) ?_) | (refine aD.pure (NW g.az k.az hg.az) (by kernel_rfl) ?_) | (refine aD.pure (Ia g.rules k.rules hg.rules (fun r hr=>(hg.aF r hr).2.2.1)) (by kernel_rfl) ?_) | (simp (disch:=omega) only [↓wr,seval,wq,ah,ag,ak,aa,ab,af,ai,ae,au,encS]))
 all_goals simp_all [RP]
def Fj:SF:=⟨.seq (ao [cL 1 0,bK 2 false]) <|
 .seq (ao [bp 7 4 1,bC 8 109 [7],aj 6 8,fK 9 0 6,fK 10 1 6,fK 11 2 6,((some 3),.op (.alloc [(.emp 1),(.emp 1),(.emp 1),(.val (.int .i64 0))])),(none,.op (.store 4 (.tmp 3) (.tmp 9))),aj 4 10,aj 5 11]) <|
 .seq (.region false [⟨none,[aj 12 5,aQ 13 .eql 12 0,aj 14 13]⟩,⟨(some (14,true)),[bp 15 4 1,bp 16 4 3,bC 17 110 [15,16]]⟩,⟨none,[eF 18 14 17,aj 2 18]⟩]) <|
 .ret,
 [.tmp 2],19⟩
theorem HJ:aV Tryz.prog 61 [1]=some Fj:=by kernel_rfl
def sO:SF:=⟨.seq (ao [cL 1 0,bK 2 false]) <|
 .seq (ao [bp 7 4 1,bC 8 70 [7],aj 6 8,fK 9 0 6,fK 10 1 6,fK 11 2 6,((some 3),.op (.alloc [(.emp 1),(.emp 1),(.emp 1),(.val (.int .i64 0))])),(none,.op (.store 4 (.tmp 3) (.tmp 9))),aj 4 10,aj 5 11]) <|
 .seq (.region false [⟨none,[aj 12 5,aQ 13 .eql 12 0,aj 14 13]⟩,⟨(some (14,true)),[bp 15 4 1,bp 16 4 3,bC 17 36 [15,16]]⟩,⟨none,[eF 18 14 17,aj 2 18]⟩]) <|
 .ret,
 [.tmp 2],19⟩
theorem xX:aV Tryz.prog 30 [1]=some sO:=by kernel_rfl
theorem Nz (g:aw) (hg:g.Ok) (hs:g.Small):aI Tryz.prog 61 [.agg (au g)] (gb (isRed g)):=by
 refine aI.val (dZ g) fun H=>?_
 refine aC.of mixed HJ ?_
 simp (disch:=omega) only [↓wr,seval,wq,ah,ag,ak,aa,ab,af,ai,ae,Fj,au,encS]
 refine aD.pure (Le g hg hs).pure (by kernel_rfl) ?_
 unfold isRed
 generalize gm g=x
 obtain ⟨k,il,e⟩:=x
 simp (disch:=omega) only [↓wr,seval,wq,ah,ag,ak,aa,ab,af,ai,ae,wW,au,encS]
 intro n hn
 refine av.eq (fun h=>?_) (fun h=>?_)
 ·simp (disch:=omega) only [↓wr,seval,wq,ah,ag,ak,aa,ab,af,ai,ae,wW,au,encS]
  refine aD.pure (PK g k hg) (by kernel_rfl) ?_
  simp (disch:=omega) only [↓wr,seval,wq,ah,ag,ak,aa,ab,af,ai,ae]
  simp[h]
 ·simp (disch:=omega) only [↓wr,seval,wq,ah,ag,ak,aa,ab,af,ai,ae]
  simp[h]
theorem SH (g:aw) (hg:g.Ok):aI Tryz.prog 30 [.agg (au g)] (gb (isRed g)):=by
 refine aI.val (dZ g) fun H=>?_
 refine aC.of mixed xX ?_
 simp (disch:=omega) only [↓wr,seval,wq,ah,ag,ak,aa,ab,af,ai,ae,sO,au,encS]
 refine aD.pure (I2 g hg).pure (by kernel_rfl) ?_
 unfold isRed
 generalize gm g=x
 obtain ⟨k,il,e⟩:=x
 simp (disch:=omega) only [↓wr,seval,wq,ah,ag,ak,aa,ab,af,ai,ae,wW,au,encS]
 intro n hn
 refine av.eq (fun h=>?_) (fun h=>?_)
 ·simp (disch:=omega) only [↓wr,seval,wq,ah,ag,ak,aa,ab,af,ai,ae,wW,au,encS]
  refine aD.pure (D7 g k hg) (by kernel_rfl) ?_
  simp (disch:=omega) only [↓wr,seval,wq,ah,ag,ak,aa,ab,af,ai,ae]
  simp[h]
 ·simp (disch:=omega) only [↓wr,seval,wq,ah,ag,ak,aa,ab,af,ai,ae]
  simp[h]
def TQ:aw:=⟨[⟨⟨#[39,97,39]⟩,0,0⟩,⟨⟨#[39,98,39]⟩,0,0⟩,⟨⟨#[39,99,39]⟩,0,0⟩,⟨⟨#[39,100,39]⟩,0,0⟩],[⟨#[115]⟩,⟨#[117]⟩,⟨#[118]⟩],[⟨0,[0,(-2)],0⟩,⟨0,[1],1⟩,⟨0,[],(-1)⟩,⟨1,[(-2),2],2⟩,⟨2,[3,(-1)],3⟩],0⟩
def Sz:aw:=⟨TQ.ay,[⟨#[115]⟩],[⟨0,[1],1⟩,⟨0,[],(-1)⟩],0⟩
theorem oV:isRed Sz=true:=by kernel_rfl
def qu:SF:=⟨.seq (ao [((some 2),.op (.bL (.val (.emp 1))))]) <|
 .seq (ao [((some 3),.op (.bL (.val (.emp 2)))),aj 4 0,((some 5),.op (.app 1 8 (.tmp 3) (.tmp 4))),aj 2 5]) <|
 .ret,
 [.tmp 2],6⟩
theorem vo:aV Tryz.prog 71 []=some qu:=by kernel_rfl
def oJ:SC :=
 .seq (.seq (ao [aj 16 4,aB 17 2 1,ax 18 17,aX 19 18,bc 20 .lss 16 19]) <|
 .cond (.tmp 20) (.skip) (.exit 0)) <|
 .seq (.block 1 (.seq (ao [aB 23 2 1,ax 24 23,aj 25 4,aP 26 3 24 25,bp 27 3 26,((some 5),.op (.alloc [(.val (.int .i64 0)),(.emp 1),(.val (.int .i64 0))])),(none,.op (.store 3 (.tmp 5) (.tmp 27)))]) <|
 .seq (ao [aB 28 1 5,ax 29 28,bC 30 71 [29],aB 31 1 5,(none,.op (.store 1 (.tmp 31) (.tmp 30)))]) <|
 ao [aj 32 3,bp 33 3 5,((some 34),.op (.cg 1 3 [(.val (.int .i64 0)),(.emp 1),(.val (.int .i64 0))] [(0,(.tmp 33))])),((some 35),.op (.app 3 40 (.tmp 32) (.tmp 34))),aj 3 35])) <|
 ao [aj 21 4,aQ 22 .add 21 1,aj 4 22]
def qo:SF:=⟨.seq (ao [((some 1),.op (.box (.tmp 0))),((some 2),.op (.alloc [(.emp 1),(.emp 1),(.emp 1),(.val (.int .i64 0))]))]) <|
 .seq (ao [((some 6),.op (.bL (.val (.emp 2)))),aB 7 0 1,ax 8 7,((some 9),.op (.app 3 32 (.tmp 6) (.tmp 8))),aB 10 0 1,(none,.op (.store 1 (.tmp 10) (.tmp 9)))]) <|
 .seq (ao [((some 11),.op (.bL (.val (.emp 2)))),aB 12 1 1,ax 13 12,((some 14),.op (.app 1 16 (.tmp 11) (.tmp 13))),aB 15 1 1,(none,.op (.store 1 (.tmp 15) (.tmp 14)))]) <|
 .seq (ao [((some 3),.op (.bL (.val (.emp 1))))]) <|
 .seq (.seq (ao [bj 4 0]) <|
 .block 0 (.loop oJ)) <|
 .seq (ao [aj 36 3,aB 37 2 1,(none,.op (.store 1 (.tmp 37) (.tmp 36)))]) <|
 .seq (ao [bp 38 4 1,(none,.op (.store 4 (.tmp 2) (.tmp 38)))]) <|
 .ret,
 [.cell 2 (some 4)],39⟩
theorem vM:aV Tryz.prog 32 []=some qo:=by kernel_rfl
theorem M4 (l:List Int) (hl:l.length≤100000) (H:View):aC Tryz.prog 71 [encI l] H fun r H'=>ba H' r 1 (cb l)∧dh H H' r:=by
 refine aC.of mixed vo ?_
 simp (disch:=omega) only [↓wr,seval,wq,ah,ag,ak,aa,ab,af,ai,ae,qu,encI]
 refine gS (H:=H) .nil (by simp[aU]) (by unfold aJ; simp; omega) (by unfold aJ; simp; omega) ?_
 intro u' H' ho hl'
 simp (disch:=omega) only [↓wr,seval,wq,ah,ag,ak,aa,ab,af,ai,ae]
 exact ⟨ho,fun id hid=>hl' id hid (by simp[owner])⟩
structure aw.S5 (g:aw):Prop where
 ay:g.ay.length≤40
 az:g.az.length≤40
 rules:g.rules.length≤60
 right:∀ r∈g.rules,r.right.length≤20
theorem K9 {g:aw} (e:kG g=false):g.S5:=by
 simp only[kG,Bool.or_eq_false_iff,Wp,List.any_eq_false,Vo] at e
 exact ⟨by omega,by omega,by omega,fun r hr=>by have:=e.2 r hr; omega⟩
def Uj (g:aw) (b1 b2:Nat) (u0 u1:V) (i:Nat) (T:Env) (H:View):Prop :=
 (∃ (u2:V) (bs:tA),T 3=u2∧bs.map (·.2)=g.rules.take i ∧
  bt H ((u2,3,e9 bs) :: (.sl b1 0 1 4,4,[[u0,u1,.aK (g.rules.map aO),gi g.start]]) :: (u0,3,g.ay.map b6) :: (u1,1,iP g.az) :: (.sl b2 0 1 4,4,[[.emp 1,.emp 1,.emp 1,gi 0]]) :: iG bs)) ∧
 T 1=.ptr b1 0 0∧T 2=.ptr b2 0 0∧T 4=gi i
theorem PM {h:aL} {u0 u1 u2:V} {g:aw} {b:tA} (h0:ba h.view u0 3 (g.ay.map b6)) (h1:ba h.view u1 1 (iP g.az)) (h2:ba h.view u2 3 (e9 b)) (hb:∀ y∈iG b,ba h.view y.1 y.2.1 y.2.2)
  (hr:b.map (·.2)=g.rules):eu h (.agg [u0,u1,u2,gi g.start]) (.agg (au g)):=by
 refine .agg _ _ rfl fun j hj=>?_
 match j,hj with
 | 0,_=>exact EC h0
 | 1,_=>exact Ic h1
 | 2,_=>have:=Ff h2 hb; rw[hr] at this; exact this
 | 3,_=>exact .val _
 | n+4,hj=>exact absurd hj (by simp only[Vr,VJ]; omega)
set_option maxHeartbeats 4000000 in
theorem ND (g:aw) (hs:g.S5):cR Tryz.prog 32 [.agg (au g)] (.agg (au g)):=by
 refine cR.of (dZ g) ?_
 refine aC.of mixed vM ?_
 have z1:=hs.ay
 have z2:=hs.az
 have z3:=hs.rules
 simp (disch:=omega) only [↓wr,seval,wq,ah,ag,ak,aa,ab,af,ai,ae,qo,au,encS]
 intro b1
 have o1:=(bt.nil.new (H:=fun _=>cZ.dead) (n:=b1) rfl 4 [[.aK (g.ay.map b6),.aK (g.az.map fun s=>[gs s]),.aK (g.rules.map aO),gi g.start]])
 try simp (disch:=omega) only [↓wr,seval,wq,ah,ag,ak,aa,ab,af,ai,ae,au,encS]
 intro b2 hb2
 have o2:=(o1.new hb2 4 [[.emp 1,.emp 1,.emp 1,gi 0]]).perm (.swap _ _ _)
 have d21:=(de hb2 c7).1
 try simp (disch:=omega) only [↓wr,seval,wq,ah,ag,ak,aa,ab,af,ai,ae,au,encS,d21,d21.symm]
 refine cn (o2.emp (k:=2) (sz:=3)) (by simp[aU,b6]) (by unfold aJ; simp; omega) (by unfold aJ; simp; omega) ?_
 intro u0 H1 o3 _
 have c0:=o3.head.cells
 have k0:=o3.head.gR
 have f1:=o3.is 1 rfl (by simp)
 simp (disch:=omega) only [↓wr,seval,wq,ah,ag,ak,aa,ab,af,ai,ae,au,encS,c0,k0,f1]
 have o4:=(o3.at 1 (by simp)).put (es':=[[u0,.aK (g.az.map fun s=>[gs s]),.aK (g.rules.map aO),gi g.start]]) rfl rfl
 simp only[V9,Wf,Wg] at o4
 refine cn (o4.emp (k:=2) (sz:=1)) (by simp[aU]) (by unfold aJ; simp; omega) (by unfold aJ; simp; omega) ?_
 intro u1 H2 o5 _
 have c1:=o5.head.cells
 have k1:=o5.head.gR
 have f2:=o5.is 1 rfl (by simp)
 simp (disch:=omega) only [↓wr,seval,wq,ah,ag,ak,aa,ab,af,ai,ae,au,encS,c1,k1,f2]
 have o6:=(o5.at 1 (by simp)).put (es':=[[u0,u1,.aK (g.rules.map aO),gi g.start]]) rfl rfl
 simp only[V9,Wf,Wg] at o6
 have o7:bt _ ((.emp 1,3,e9 []) :: (.sl b1 0 1 4,4,[[u0,u1,.aK (g.rules.map aO),gi g.start]]) :: (u0,3,g.ay.map b6) :: (u1,1,iP g.az) :: (.sl b2 0 1 4,4,[[.emp 1,.emp 1,.emp 1,gi 0]]) :: iG []) :=
  (o6.perm (.cons _ (.swap _ _ _))).emp (k:=1) (sz:=3)
 clear o1 o2 o3 o4 o5 o6 hb2 f1 f2
 refine aZ.up g.rules.length (Uj g b1 b2 u0 u1) ⟨⟨.emp 1,[],rfl,by simp,o7⟩,rfl,rfl,rfl⟩ ?_
 clear o7
 rintro i k T H hk ⟨⟨u2,bs,t3,hbs,ho⟩,t1,t2,t4⟩
 have f1:=ho.is 1 rfl (by simp)
 simp (disch:=omega) only [↓wr,seval,wq,ah,ag,ak,aa,ab,af,ai,ae,oJ,t1,t2,t3,t4,f1]
 refine av.dec (fun hc=>?_) (fun hc=>?_)
 ·have hg2:g.rules[i]?=some (g.rules[i]'(by omega)):=U9 (by omega)
  have hmem:g.rules[i]'(by omega)∈g.rules:=Vi _
  have htk:g.rules.take (i+1)=g.rules.take i ++ [g.rules[i]'(by omega)]:=by rw[Vx,hg2]; rfl
  generalize g.rules[i]'(by omega)=r at hg2 hmem htk
  have hr:=hs.right r hmem
  simp (disch:=omega) only [↓wr,seval,wq,ah,ag,ak,aa,ab,af,ai,ae,t1,t2,t3,t4,f1,Vc,hg2,aO,encI]
  intro n hn
  have o1:=ho.new hn 3 [aO r]
  try simp (disch:=omega) only [↓wr,seval,wq,ah,ag,ak,aa,ab,af,ai,ae,t1,t2,t3,t4,set_set]
  refine aD.dP ((M4 r.right (by omega) _).mono ?_)
  rintro v H1 ⟨hv,hfr⟩
  have o2:=bt.G4 (H:=H.set n (.arr 3 [aO r])) o1 hv (by rw[set_set] at hfr; exact hfr)
  have cv:=hv.cells
  have kv:=hv.gR
  have f5:=o2.is 1 rfl (by simp)
  simp only[aO,encI] at f5
  simp (disch:=omega) only [↓wr,seval,wq,ah,ag,ak,aa,ab,af,ai,ae,t1,t2,t3,t4,f5,cv,kv]
  have o3:=(o2.at 1 (by simp)).put (es':=[[gi r.left,v,gi r.prec]]) rfl rfl
  simp only[Wf,Wg] at o3
  intro m hm
  try simp (disch:=omega) only [↓wr,seval,wq,ah,ag,ak,aa,ab,af,ai,ae,t1,t2,t3,t4,cv,kv,bV]
  have hbl:(e9 bs).length≤60:=by
   have h1:=Wj List.length hbs
   simp only[Vg,VQ] at h1
   simp only[e9,Vg]
   omega
  have o4:=(o3.fresh (o:=.arr 3 [[gi r.left,v,gi r.prec]]) hm).at 2 (by simp)
  refine cn o4 (by simp[vR,kv]) (by unfold aJ; simp at hbl ⊢; omega) (by unfold aJ; simp at hbl ⊢; omega) ?_
  intro u2' H4 o5 _
  simp (disch:=omega) only [↓wr,seval,wq,ah,ag,ak,aa,ab,af,ai,ae,t1,t2,t3,t4]
  refine aM hk (by omega) ⟨⟨u2',bs ++ [(v,r)],rfl,?_,?_⟩,t1,t2,rfl⟩
  ·rw[VB,hbs,htk]; rfl
  ·have o6:=((o5.at 1 (by simp)).tail).perm (.refl _)
   simp only[Wf,Wg] at o6
   refine o6.perm ?_
   simp only[e9,iG,VB,VC,WM]
   exact .cons _ (W9 (v,1,cb r.right) ((.sl b1 0 1 4,4,[[u0,u1,.aK (g.rules.map aO),gi g.start]]) :: (u0,3,g.ay.map b6) :: (u1,1,iP g.az) :: (.sl b2 0 1 4,4,[[.emp 1,.emp 1,.emp 1,gi 0]]) :: iG bs)).symm
 ·rw[Vq (by omega)] at hbs
  have f2:=ho.is 4 rfl (by simp)
  have c0:=(ho.own 2 rfl).cells
  have k0:=(ho.own 2 rfl).gR
  have c1:=(ho.own 3 rfl).cells
  have k1:=(ho.own 3 rfl).gR
  have c2:=(ho.own 0 rfl).cells
  have k2:=(ho.own 0 rfl).gR
  simp (disch:=omega) only [↓wr,seval,wq,ah,ag,ak,aa,ab,af,ai,ae,t1,t2,t3,t4,f1,f2,c0,k0,c1,k1,c2,k2,d21,d21.symm]
  intro h' hh
  have o1:=(ho.at 1 (by simp)).put (es':=[[u0,u1,u2,gi g.start]]) rfl rfl
  simp only[Wf,Wg] at o1
  have o2:=(o1.at 4 (by simp)).put (es':=[[u0,u1,u2,gi g.start]]) rfl rfl
  simp only[Wf,Wg] at o2
  have hv:h'.view=(H.set b1 (.arr 4 [[u0,u1,u2,gi g.start]])).set b2 (.arr 4 [[u0,u1,u2,gi g.start]]):=hh
  rw[← hv] at o2
  exact PM (o2.own 3 rfl) (o2.own 4 rfl) (o2.own 2 rfl) (fun y hy=>o2.1 y (by
   refine Vt _ (Vt _ (Vt _ (Vt _ (Vt _ ?_))))
   exact hy)) hbs
theorem eu.fr {h:aL} {v t:V} (f:eu h v t):Fr h v t:=by
 induction f with
 | val v=>exact .tree _ (.val _)
 | emp k=>exact .emp k
 | sl id off len esz z es es' h1 h2 h3 h4 _ ih=>exact .sl id off len esz z es es' h1 h2 h3 h4 ih
 | agg cs cs' h1 _ ih=>exact .agg cs cs' h1 ih
 | bI cs cs' h1 _ ih=>exact .bI cs cs' h1 ih
end Gv
