/-
  Part 10 of the proof: what the machine does and what the functions answer.
  Conditions: those that each lemma names.
-/
import Derived.Test.YtihmlbdfcmfbdaaGreatSGzB2I
set_option linter.unusedSimpArgs false
set_option linter.unusedVariables false
set_option maxRecDepth 100000
namespace Gv
open Go Go.Proofs
def tg:SC :=
 .seq (ao [bg 44 .lss 43 42]) <|
 .seq (.cond (.tmp 44) (.skip) (.exit 0)) <|
 .seq (.block 1 (.seq (ao [aj 45 43,aR 46 3 41 43,bp 47 3 46,((some 11),.op (.alloc [(.val (.int .i64 0)),(.emp 1),(.val (.int .i64 0))])),aj 10 45,(none,.op (.store 3 (.tmp 11) (.tmp 47)))]) <|
 .seq (.seq (.region false [⟨none,[aj 48 6,aD 49 0 11,ay 50 49,aR 51 1 48 50,ay 52 51,dp 53 52,aj 54 53]⟩,⟨(some (54,false)),[bp 55 3 11,aj 56 5,bD 57 160 [55,56],dp 58 57]⟩,⟨none,[cU 59 54 58]⟩]) <|
 .cond (.tmp 59) (.exit 1) (.skip)) <|
 .seq (ao [aj 60 7,aj 61 10,((some 62),.op (.cw 1 1 [(.val (.int .i64 0))] [(0,(.tmp 61))])),((some 63),.op (.app 1 8 (.tmp 60) (.tmp 62))),aj 7 63]) <|
 .seq (ao [aj 65 9,aD 66 0 11,ay 67 66,((some 68),.op (.old (.lookup 204 (.tmp 65) (.tmp 67) true) 30)),aj 64 68,gP 69 0 64,gP 70 1 64,aj 12 69,aj 13 70]) <|
 .seq (ao [aj 71 13,dp 72 71]) <|
 .cond (.tmp 72) (.seq (ao [aj 73 9,aD 74 0 11,ay 75 74,aD 76 1 8,ay 77 76,aV 78 77,(none,.op (.old (.mapUpdate 204 (.tmp 73) (.tmp 75) (.tmp 78)) 0))]) <|
 .region false [⟨none,[aD 79 1 8,ay 80 79,aD 81 1 1,ay 82 81,aD 83 0 11,ay 84 83,aR 85 1 82 84,ay 86 85,((some 87),.op (.cw 1 1 [(.val (.string ⟨#[]⟩))] [(0,(.tmp 86))])),((some 88),.op (.app 1 16 (.tmp 80) (.tmp 87))),aD 89 1 8,(none,.op (.store 1 (.tmp 89) (.tmp 88)))]⟩]) (.skip))) <|
 ao [aQ 90 .add 43 1,aj 43 90]
def tK:SC :=
 .seq (ao [bg 116 .lss 115 114]) <|
 .seq (.cond (.tmp 116) (.skip) (.exit 4)) <|
 .seq (.block 5 (.seq (ao [aj 117 115,aR 118 1 113 115,ay 119 118,aj 18 117,aj 19 119]) <|
 .seq (ao [aj 120 19,aQ 121 .lss 120 0]) <|
 .cond (.tmp 121) (ao [aD 122 1 17,ay 123 122,aj 124 18,aj 125 9,aj 126 19,((some 127),.op (.arith .sub (.val (.val (.int .i64 (-1)))) (.tmp 126))),((some 128),.op (.old (.lookup 204 (.tmp 125) (.tmp 127) false) 3)),((some 129),.op (.arith .sub (.val (.val (.int .i64 (-1)))) (.tmp 128))),aR 130 1 123 124,(none,.op (.store 1 (.tmp 130) (.tmp 129)))]) (.skip))) <|
 ao [aQ 131 .add 115 1,aj 115 131]
def tD:SC :=
 .seq (ao [bg 94 .lss 93 92]) <|
 .seq (.cond (.tmp 94) (.skip) (.exit 2)) <|
 .seq (.block 3 (.seq (ao [aR 95 1 91 93,ay 96 95,aj 15 96]) <|
 .seq (ao [aD 97 2 1,ay 98 97,aj 99 15,aR 100 3 98 99,bp 101 3 100,((some 16),.op (.alloc [(.val (.int .i64 0)),(.emp 1),(.val (.int .i64 0))])),(none,.op (.store 3 (.tmp 16) (.tmp 101)))]) <|
 .seq (.region true [⟨none,[aj 102 9,aD 103 0 16,ay 104 103,((some 105),.op (.old (.lookup 204 (.tmp 102) (.tmp 104) false) 3)),aD 106 1 16,ay 107 106,bD 108 161 [107],aD 109 2 16,ay 110 109,((some 111),.op (.build [(.val (.int .i64 0)),(.emp 1),(.val (.int .i64 0))] [(0,1,(.tmp 105)),(1,1,(.tmp 108)),(2,1,(.tmp 110))])),((some 17),.op (.alloc [(.val (.int .i64 0)),(.emp 1),(.val (.int .i64 0))])),(none,.op (.store 3 (.tmp 17) (.tmp 111)))]⟩]) <|
 .seq (.seq (ao [aD 112 1 17,ay 113 112,aV 114 113,bj 115 0]) <|
 .block 4 (.loop tK)) <|
 ao [aD 132 2 8,ay 133 132,bp 134 3 17,((some 135),.op (.cw 1 3 [(.val (.int .i64 0)),(.emp 1),(.val (.int .i64 0))] [(0,(.tmp 134))])),((some 136),.op (.app 3 40 (.tmp 133) (.tmp 135))),aD 137 2 8,(none,.op (.store 1 (.tmp 137) (.tmp 136)))])) <|
 ao [aQ 138 .add 93 1,aj 93 138]
def wX:SF:=⟨.seq (ao [cO 1 0,((some 2),.op (.alloc [(.emp 1),(.emp 1),(.emp 1),(.val (.int .i64 0))])),((some 3),.op (.bP (.val (.emp 1)))),bj 4 0]) <|
 .seq (.seq (ao [bp 20 4 1,bD 21 52 [20],dp 22 21]) <|
 .cond (.tmp 22) (.seq (ao [((some 23),.op (.build [(.emp 1),(.emp 1),(.emp 1),(.val (.int .i64 0))] [])),(none,.op (.store 4 (.tmp 2) (.tmp 23))),((some 3),.op (.bP (.val (.emp 1)))),bj 4 1]) <|
 .ret) (.skip)) <|
 .seq (.region true [⟨none,[bp 24 4 1,bD 25 157 [24],bp 26 4 1,bD 27 158 [26],aj 5 25,aj 6 27]⟩]) <|
 .seq (.seq (ao [aj 28 5,aD 29 3 1,ay 30 29,aR 31 1 28 30,ay 32 31,dp 33 32]) <|
 .cond (.tmp 33) (.seq (ao [((some 34),.op (.build [(.emp 1),(.emp 1),(.emp 1),(.val (.int .i64 0))] [])),(none,.op (.store 4 (.tmp 2) (.tmp 34))),((some 3),.op (.bP (.val (.emp 1)))),bj 4 9]) <|
 .ret) (.skip)) <|
 .seq (ao [((some 7),.op (.bP (.val (.emp 1))))]) <|
 .seq (ao [aD 35 0 1,ay 36 35,bD 37 159 [36],((some 38),.op (.build [(.emp 1),(.emp 1),(.emp 1),(.val (.int .i64 0))] [(0,1,(.tmp 37))])),((some 8),.op (.alloc [(.emp 1),(.emp 1),(.emp 1),(.val (.int .i64 0))])),(none,.op (.store 4 (.tmp 8) (.tmp 38)))]) <|
 .seq (ao [((some 39),.op (.nR)),aj 9 39]) <|
 .seq (.seq (ao [aD 40 2 1,ay 41 40,aV 42 41,bj 43 0]) <|
 .block 0 (.loop tg)) <|
 .seq (.seq (ao [aj 91 7,aV 92 91,bj 93 0]) <|
 .block 2 (.loop tD)) <|
 .seq (ao [aj 139 9,aD 140 3 1,ay 141 140,((some 142),.op (.old (.lookup 204 (.tmp 139) (.tmp 141) false) 3)),aD 143 3 8,(none,.op (.store 1 (.tmp 143) (.tmp 142)))]) <|
 .seq (ao [bp 144 4 8,aj 145 7,(none,.op (.store 4 (.tmp 2) (.tmp 144))),aj 3 145,bj 4 0]) <|
 .ret,
 [.cell 2 (some 4),.tmp 3,.tmp 4],146⟩
theorem AH:aU Tryz.prog 109 [1]=some wX:=by kernel_rfl
abbrev yK (m:bV Int):List (V × V × Nat):=ct (Value.int .i64) m
def RP (g:aw) (p q:List Bool) (b2 b8 b9:Nat) (u0:V) (i:Nat) (T:Env) (H:View):Prop :=
 (∃ u1 u3:V,T 7=u3∧(∀ x∈cn p q (g.rules.take i),0≤x∧x < g.ax.length)∧(cn p q (g.rules.take i)).length≤i ∧
  bt H [(.sl b8 0 1 4,4,[[u0,u1,.emp 1,gi 0]]),(u3,1,bZ (cZ p q (g.rules.take i) 0)),
   (u1,1,j7 ((cn p q (g.rules.take i)).map fun x=>g.ax.getD x.toNat ⟨#[]⟩)),(u0,3,g.az.map cg),(.sl b2 0 1 4,4,[[.emp 1,.emp 1,.emp 1,gi 0]])] ∧
  ∃ m c,H b9=.map (yK m) c∧nG gi (jB (cn p q (g.rules.take i)) 0) m) ∧
 T 1=.aO (au g) 0∧T 2=.ptr b2 0 0∧T 5=bI p∧T 6=bI q∧T 8=.ptr b8 0 0∧T 9=.mp b9∧T 41=.aL (g.rules.map aP)∧T 42=gi g.rules.length∧T 43=gi i
theorem C2 {α:Type} {x s:α} : ∀ {a d:List α} {k:Nat},a.length=k→(a ++ s :: d).set k x=a ++ x :: d
 | [],d,k,h=>by simp at h; subst h; rfl
 | y :: a,d,k,h=>by
  cases k with
  | zero=>simp at h
  | succ k=>simp only[UI,List.set_cons_succ]; rw[C2 (by simpa using h)]
def Tm (g:aw) (p q:List Bool) (b2 b8 b9:Nat) (u0 u1 u3:V) (o kl:List Int) (mm:bV Int) (cc:Nat) (i:Nat) (T:Env) (H:View):Prop :=
 (∃ (u2:V) (bs:zE),bs.map (·.2)=((g.rules.filter (b6 p q)).take i).map (bT (dV o)) ∧
  bt H ((.sl b8 0 1 4,4,[[u0,u1,u2,gi 0]]) :: (u3,1,bZ kl) ::
   (u1,1,j7 (o.map fun x=>g.ax.getD x.toNat ⟨#[]⟩)) :: (u0,3,g.az.map cg) :: (u2,3,gW bs) :: (.sl b2 0 1 4,4,[[.emp 1,.emp 1,.emp 1,gi 0]]) :: lZ bs) ∧
  H b9=.map (yK mm) cc) ∧
 T 1=.aO (au g) 0∧T 2=.ptr b2 0 0∧T 7=u3∧T 8=.ptr b8 0 0∧T 9=.mp b9∧T 91=u3∧T 92=gi kl.length∧T 93=gi i
def TD (g:aw) (b2 b8 b9 b16 b17:Nat) (u3 v:V) (o kl:List Int) (mm:bV Int) (cc:Nat) (r:aW) (L:List cF) (i k:Nat) (T:Env) (H:View):Prop :=
 bt H ((.sl b17 0 1 3,3,[[gi (dV o r.left),v,gi r.prec]]) :: (v,1,bZ ((bT (dV o) r).right.take k ++ r.right.drop k)) :: (.sl b16 0 1 3,3,[aP r]) :: L) ∧
 H b9=.map (yK mm) cc∧T 1=.aO (au g) 0∧T 2=.ptr b2 0 0∧T 7=u3∧T 8=.ptr b8 0 0∧T 9=.mp b9∧T 91=u3∧T 92=gi kl.length∧T 93=gi i∧T 17=.ptr b17 0 0∧T 113=v∧T 114=gi r.right.length∧T 115=gi k
set_option maxHeartbeats 8000000 in
theorem It (g:aw) (hg:g.Ok) (hs:g.Small):cX Tryz.prog 109 [.agg (au g)] (vT (if bR g=true then
  if (aA g true).getD g.start.toNat false=true then (pF g (dV (cn (aA g true) (bS g) g.rules)) (aA g true) (bS g),cZ (aA g true) (bS g) g.rules 0,0)
  else (uB,[],9)
 else (uB,[],1))):=by
 refine cX.of (ef g) ?_
 refine aC.of mixed AH ?_
 simp (disch:=omega) only [↓wr,seval,wq,ah,ag,ak,aa,ab,af,ai,ae,wX,au,encS]
 intro b2
 try simp (disch:=omega) only [↓wr,seval,wq,ah,ag,ak,aa,ab,af,ai,ae,au,encS]
 refine aE.pure (s8 g hg hs.names) (by kernel_rfl) ?_
 repeat' (first | (refine av.dec (fun _=>?_) (fun _=>?_)) | (refine av.eq (fun _=>?_) (fun _=>?_)) | (refine av.ne (fun _=>?_) (fun _=>?_)) | (refine av.split (fun _=>?_) (fun _=>?_)) | (simp (disch:=omega) only [↓wr,seval,wq,ah,ag,ak,aa,ab,af,ai,ae,au,encS,set_set]))
 ·rename_i hr
  rw[T9 hr]
  refine aE.pure (vf g hg hs).pure (by kernel_rfl) ?_
  simp (disch:=omega) only [↓wr,seval,wq,ah,ag,ak,aa,ab,af,ai,ae,au,encS]
  refine aE.pure (Fe g hg hs).pure (by kernel_rfl) ?_
  have hf:=bM hr
  have h3:=hf.iX
  have h4:=hf.start
  have hpl:=eV hr true
  have hql:=p7 hr
  generalize aA g true=p at hpl ⊢
  generalize bS g=q at hql ⊢
  have hps:p[g.start.toNat]?=some (p[g.start.toNat]'(by omega)):=T4 (by omega)
  have hpd:p.getD g.start.toNat false=p[g.start.toNat]'(by omega):=by simp[T0,hps]
  generalize p[g.start.toNat]'(by omega)=s at hps hpd
  rw[hpd]
  simp (disch:=omega) only [↓wr,seval,wq,ah,ag,ak,aa,ab,af,ai,ae,au,encS,bI,T8,hps]
  cases s with
  | false =>
   simp (disch:=omega) only [↓wr,seval,wq,ah,ag,ak,aa,ab,af,ai,ae,au,encS,set_set]
   rintro h' hh
   exact vK
  | true =>
   simp (disch:=omega) only [↓wr,seval,wq,ah,ag,ak,aa,ab,af,ai,ae,au,encS,set_set]
   have hN:=hf.ax
   have hN1:=hf.mc
   have hT:=hf.az
   have hR:=hf.rules
   refine aE.ez ((N8 g.az (by omega) _).mono ?_)
   rintro u0 H1 ⟨hu0,hfr⟩
   have ho1:=(bt.nil.new (H:=fun _=>dy.dead) (n:=b2) rfl 4 [[.emp 1,.emp 1,.emp 1,gi 0]]).Lc hu0 hfr
   have c0:=ho1.head.cells
   have k0:=ho1.head.jt
   simp (disch:=omega) only [↓wr,seval,wq,ah,ag,ak,aa,ab,af,ai,ae,au,encS,c0,k0]
   intro b8 hb8
   have ho2:=ho1.new hb8 4 [[u0,.emp 1,.emp 1,gi 0]]
   try simp (disch:=omega) only [↓wr,seval,wq,ah,ag,ak,aa,ab,af,ai,ae,au,encS,c0,k0,set_set]
   intro b9 hb9
   have hb98:=(dq hb9 dc).1
   have hb9:=(dq (dq hb9 dc).2 dc).2
   have ho3:=(((ho2.fresh (n:=b9) (o:=.map [] 0) (by simp only[View.set,T6 hb98]; exact hb9)).emp (k:=1) (sz:=1)).emp (k:=1) (sz:=1)).perm Li.symm
   try simp (disch:=omega) only [↓wr,seval,wq,ah,ag,ak,aa,ab,af,ai,ae,au,encS,c0,k0,set_set]
   refine bc.up g.rules.length (RP g p q b2 b8 b9 u0) ?_ ?_
   ·refine ⟨⟨.emp 1,.emp 1,rfl,by simp[cn],by simp[cn],by rw[set_set]; exact ho3,[],0,by simp[View.set,ct],trivial⟩,rfl,rfl,rfl,rfl,rfl,rfl,rfl,rfl,rfl⟩
   clear ho1 ho2 ho3 hb8 hb9 hb98
   rintro i k T H2 hk ⟨⟨u1,u3,t7,hin,holen,ho,mm,cc,h9,hm9⟩,t1,t2,t5,t6,t8,t9,t41,t42,t43⟩
   simp (disch:=omega) only [↓wr,seval,wq,ah,ag,ak,aa,ab,af,ai,ae,tg,t1,t2,t5,t6,t7,t8,t9,t41,t42,t43,au]
   refine av.dec (fun hc=>?_) (fun hc=>?_)
   ·have hg2:g.rules[i]?=some (g.rules[i]'(by omega)):=T4 (by omega)
    have hmem:g.rules[i]'(by omega)∈g.rules:=Ud _
    have htk:g.rules.take (i+1)=g.rules.take i ++ [g.rules[i]'(by omega)]:=by rw[Uw,hg2]; rfl
    generalize g.rules[i]'(by omega)=r at hg2 hmem htk
    obtain ⟨hl1,hl2,hl3,hr6,hsy⟩:=hf.sr hg hmem
    have hqs:q[r.left.toNat]?=some (q[r.left.toNat]'(by omega)):=T4 (by omega)
    have j8:q.getD r.left.toNat false=q[r.left.toNat]'(by omega):=by simp[T0,hqs]
    generalize q[r.left.toNat]'(by omega)=qs at hqs j8
    simp (disch:=omega) only [↓wr,seval,wq,ah,ag,ak,aa,ab,af,ai,ae,t1,t2,t5,t6,t7,t8,t9,t41,t42,t43,aP,encI,T8,hg2]
    intro b11 hb11
    have hoA:=ho.new hb11 3 [aP r]
    have n911:b9≠b11:=by rintro rfl; rw[h9] at hb11; simp at hb11
    try simp (disch:=omega) only [↓wr,seval,wq,ah,ag,ak,aa,ab,af,ai,ae,t1,t2,t5,t6,t7,t8,t9,t41,t42,t43,aP,encI,bI,T8,hqs,set_set]
    have hskip:∀ (T2:Env) (H':View),b6 p q r=false→H'=H2.set b11 (.arr 3 [aP r])→T2 7=u3→T2 1=.aO (au g) 0→T2 2=.ptr b2 0 0→T2 5=bI p→T2 6=bI q→T2 8=.ptr b8 0 0→T2 9=.mp b9→T2 41=.aL (g.rules.map aP)→T2 42=gi g.rules.length→T2 43=gi ((i:Int)+1) →
      ∃ k',k' < k∧DH g.rules.length k' (RP g p q b2 b8 b9 u0) T2 H':=by
     intro T2 H' hkr hH' a7 a1 a2 a5 a6 a8 a9 a41 a42 a43
     have e1:cn p q (g.rules.take (i+1))=cn p q (g.rules.take i):=by rw[htk,tc,T6 (by simp[hkr])]
     have e2:cZ p q (g.rules.take (i+1)) 0=cZ p q (g.rules.take i) 0:=by rw[htk,kG]; simp[cZ,hkr]
     refine aN hk (by omega) ⟨⟨u1,u3,a7,by rw[e1]; exact hin,by rw[e1]; omega,by rw[e1,e2,hH']; exact hoA.tail,mm,cc,by rw[hH']; simp[View.set,n911,h9],by rw[e1]; exact hm9⟩,a1,a2,a5,a6,a8,a9,a41,a42,by rw[a43]; rfl⟩
    cases qs with
    | false =>
     simp (disch:=omega) only [↓wr,seval,wq,ah,ag,ak,aa,ab,af,ai,ae,t1,t2,t5,t6,t7,t8,t9,t41,t42,t43]
     refine hskip _ _ (by rw[b6,j8]; rfl) ?_ ?_ ?_ ?_ ?_ ?_ ?_ ?_ ?_ ?_ ?_
     all_goals first | exact t7 | exact t1 | exact t2 | exact t5 | exact t6 | exact t8 | exact t9 | exact t41 | exact t42 | rfl | (rw[set_set]; rfl)
    | true =>
     simp (disch:=omega) only [↓wr,seval,wq,ah,ag,ak,aa,ab,af,ai,ae,t1,t2,t5,t6,t7,t8,t9,t41,t42,t43,aP,encI,bI]
     refine aE.pure (tI r p (hg.aH r hmem).2.2.1 (fun s hs'=>⟨(hsy s hs').1,fun h=>by rw[hpl]; exact (hsy s hs').2 h⟩)) (by kernel_rfl) ?_
     simp (disch:=omega) only [↓wr,seval,wq,ah,ag,ak,aa,ab,af,ai,ae,t1,t2,t5,t6,t7,t8,t9,t41,t42,t43]
     refine av.split (fun hal=>?_) (fun hal=>?_)
     ·simp (disch:=omega) only [↓wr,seval,wq,ah,ag,ak,aa,ab,af,ai,ae,t1,t2,t5,t6,t7,t8,t9,t41,t42,t43]
      have hkr:b6 p q r=true:=by rw[b6,j8,hal]; rfl
      intro m hm
      try simp (disch:=omega) only [↓wr,seval,wq,ah,ag,ak,aa,ab,af,ai,ae,t1,t2,t5,t6,t7,t8,t9,t41,t42,t43,cb]
      have hm11:=(dq hm dc).1
      have hm:=(dq (dq hm dc).2 dc).2
      have hoB:=(hoA.fresh (n:=m) (o:=.arr 1 [[gi i]]) (by simp only[View.set,T6 hm11]; exact hm)).at 2 (by simp)
      have n9m:b9≠m:=by rintro rfl; rw[h9] at hm; simp at hm
      have hkl:(cZ p q (g.rules.take i) 0).length≤40:=by
       rw[kq]
       have h1:=UW (b6 p q) (g.rules.take i)
       have h2:(g.rules.take i).length≤i:=List.length_take_le _ _
       omega
      refine c6 (by rw[set_set]; exact hoB) (by simp[aX]) (by unfold aK; simp at hkl ⊢; omega) (by unfold aK; simp at hkl ⊢; omega) ?_
      intro u3' H3 ho3 hleft
      have f11:=ho3.is 1 rfl (by simp)
      have f8:=ho3.is 2 rfl (by simp)
      have hleft':Left ((H2.set b11 (.arr 3 [aP r])).set m (.arr 1 [[gi i]])) H3 u3 u3':=by rw[set_set] at hleft; exact hleft
      have f9:H3 b9=.map (yK mm) cc:=hleft'.map (b:=b9) hoB.head (by simp[View.set,n911,n9m,h9])
      have hu1:cG u1=some (j7 ((cn p q (g.rules.take i)).map fun x=>g.ax.getD x.toNat ⟨#[]⟩)).length:=(ho3.own 3 rfl).len
      simp only[aP,encI] at f11
      have e2:cZ p q (g.rules.take (i+1)) 0=cZ p q (g.rules.take i) 0 ++ [(i:Int)]:=by
       rw[htk,kG]; simp[cZ,hkr,show i≤g.rules.length by omega]
      have e1:cn p q (g.rules.take (i+1))=fQ (cn p q (g.rules.take i)) r:=by rw[htk,tc,T9 hkr]
      generalize cn p q (g.rules.take i)=o at *
      generalize cZ p q (g.rules.take i) 0=kl at *
      simp (disch:=omega) only [↓wr,seval,wq,ah,ag,ak,aa,ab,af,ai,ae,t1,t2,t5,t6,t8,t9,t41,t42,t43,f11,f8]
      refine P3 (kt:=3) (et:=3) (z:=gi 0) (by kernel_rfl) (by kernel_rfl) (kx .i64 Tryz.underlying3) (id:=b9) (c:=cc) (m:=mm) (k:=r.left) (by simp (disch:=omega) only [↓wr,seval,wq,ah,ag,ak,aa,ab,af,ai,ae,t9]) (by simp (disch:=omega) only [↓wr,seval,wq,ah,ag,ak,aa,ab,af,ai,ae]) f9 ?_
      rw[hm9.get,sW]
      have hob:o.length≤40:=by omega
      by_cases hx:r.left∈o
      ·have e1':fQ o r=o:=by rw[fQ,T9 hx]
       rw[T9 hx]
       simp (disch:=omega) only [↓wr,seval,wq,ah,ag,ak,aa,ab,af,ai,ae,t1,t2,t5,t6,t8,t9,t41,t42,t43,Option.isSome_some]
       have ho4:=(((ho3.at 1 (by simp)).tail).perm (.swap _ _ _))
       refine aN hk (by omega) ⟨⟨u1,u3',rfl,by rw[e1,e1']; exact hin,by rw[e1,e1']; omega,?_,mm,cc,f9,by rw[e1,e1']; exact hm9⟩,t1,t2,t5,t6,t8,t9,t41,t42,rfl⟩
       rw[e1,e1',e2]
       simp only[UA,Uz,VD]
       exact ho4
      ·have e1':fQ o r=o ++ [r.left]:=by rw[fQ,T6 hx]
       rw[T6 hx]
       have hgn:g.ax[r.left.toNat]?=some (g.ax[r.left.toNat]'(by omega)):=T4 (by omega)
       have hgnd:g.ax.getD r.left.toNat ⟨#[]⟩=g.ax[r.left.toNat]'(by omega):=by simp[T0,hgn]
       generalize g.ax[r.left.toNat]'(by omega)=nm at hgn hgnd
       simp (disch:=omega) only [↓wr,seval,wq,ah,ag,ak,aa,ab,af,ai,ae,t1,t2,t5,t6,t8,t9,t41,t42,t43,Option.isSome_none,f11,f8,hu1,Uc]
       refine uU (kt:=3) (et:=3) (by kernel_rfl) (kx .i64 Tryz.underlying3) (id:=b9) (c:=cc) (m:=mm) (k:=r.left) (v:=gi o.length) (by simp (disch:=omega) only [↓wr,seval,wq,ah,ag,ak,aa,ab,af,ai,ae,t9]) (by simp (disch:=omega) only [↓wr,seval,wq,ah,ag,ak,aa,ab,af,ai,ae]) (by simp (disch:=omega) only [↓wr,seval,wq,ah,ag,ak,aa,ab,af,ai,ae]) f9 ?_
       intro c'
       have n89:b8≠b9:=Cy ho3 2 rfl f9
       have n119:b11≠b9:=Cy ho3 1 rfl f9
       simp (disch:=omega) only [↓wr,seval,wq,ah,ag,ak,aa,ab,af,ai,ae,t1,t2,t5,t6,t8,t9,t41,t42,t43,f11,f8,n89,n119,au,encS,T8,hgn]
       intro m2 hm2
       have hm29:=(dq hm2 (by simp)).1
       have hm2:=(dq hm2 (by simp)).2
       have ho5:=((ho3.uM f9 (o:=.map (yK (bJ r.left (gi o.length) cc mm)) c')).fresh (n:=m2) (o:=.arr 1 [[gs nm]]) (by simp only[View.set,T6 hm29]; exact hm2)).at 3 (by simp)
       try simp (disch:=omega) only [↓wr,seval,wq,ah,ag,ak,aa,ab,af,ai,ae,t1,t2,t5,t6,t8,t9,t41,t42,t43,cb]
       refine c6 ho5 (by simp[aX]) (by unfold aK; simp; omega) (by unfold aK; simp; omega) ?_
       intro u1' H5 ho6 hleft2
       have c1:=ho6.head.cells
       have k1:=ho6.head.jt
       have f8':=ho6.is 3 rfl (by simp)
       have f9':=hleft2.map (b:=b9) (es:=yK (bJ r.left (gi o.length) cc mm)) (c:=c') ho5.head (by simp[View.set,Ne.symm hm29])
       have n89':b9≠b8:=n89.symm
       simp (disch:=omega) only [↓wr,seval,wq,ah,ag,ak,aa,ab,af,ai,ae,t1,t2,t5,t6,t8,t9,t41,t42,t43,f8',c1,k1]
       have ho7:=(ho6.at 3 (by simp)).put (es':=[[u0,u1',.emp 1,gi 0]]) rfl rfl
       have ho8:=(((ho7.at 3 (by simp)).tail).perm (.cons _ (.swap _ _ _)))
       refine aN hk (by omega) ⟨⟨u1',u3',rfl,?_,?_,?_,_,c',(by simp only[View.set,T6 n89']; exact f9'),?_⟩,t1,t2,t5,t6,t8,t9,t41,t42,rfl⟩
       ·rw[e1,e1']; intro x hx'; rcases Uy.1 hx' with h | h
        ·exact hin x h
        ·simp at h; subst h; exact ⟨hl2,hl3⟩
       ·rw[e1,e1']; simp; omega
       ·rw[e1,e1',e2]
        simp only[UA,Uz,VD,hgnd]
        exact ho8
       ·rw[e1,e1',AZ,Int.zero_add,← EF hx]
        exact hm9.put r.left (o.length:Int) cc
     ·simp (disch:=omega) only [↓wr,seval,wq,ah,ag,ak,aa,ab,af,ai,ae,t1,t2,t5,t6,t7,t8,t9,t41,t42,t43]
      refine hskip _ _ (by rw[b6,j8,hal]; rfl) ?_ ?_ ?_ ?_ ?_ ?_ ?_ ?_ ?_ ?_ ?_
      all_goals first | exact t7 | exact t1 | exact t2 | exact t5 | exact t6 | exact t8 | exact t9 | exact t41 | exact t42 | rfl | (rw[set_set]; rfl)
   ·rw[Uo (by omega)] at ho hin holen hm9
    have hkl40:(cZ p q g.rules 0).length≤40:=by
     rw[kq]; have h1:=UW (b6 p q) g.rules; omega
    have hkg:=s9 p q g.rules 0
    have hkln:=kq p q g.rules 0
    have hrg:pF g (dV (cn p q g.rules)) p q=⟨g.az,(cn p q g.rules).map fun x=>g.ax.getD x.toNat ⟨#[]⟩,(g.rules.filter (b6 p q)).map (bT (dV (cn p q g.rules))),dV (cn p q g.rules) g.start⟩:=rfl
    rw[hrg]
    clear hrg
    generalize cn p q g.rules=o at *
    generalize cZ p q g.rules 0=kl at *
    have hob:o.length≤40:=by omega
    have hu3:cG u3=some (bZ kl).length:=(ho.own 1 rfl).len
    simp (disch:=omega) only [↓wr,seval,wq,ah,ag,ak,aa,ab,af,ai,ae,t1,t2,t5,t6,t7,t8,t9,hu3,Uc]
    refine bc.up kl.length (Tm g p q b2 b8 b9 u0 u1 u3 o kl mm cc) ?_ ?_
    ·refine ⟨⟨.emp 1,[],by simp,?_,h9⟩,t1,t2,t7,t8,t9,t7,rfl,rfl⟩
     exact (ho.emp (k:=1) (sz:=3)).perm (rI [(.sl b8 0 1 4,4,[[u0,u1,.emp 1,gi 0]]),(u3,1,bZ kl),(u1,1,j7 (o.map fun x=>g.ax.getD x.toNat ⟨#[]⟩)),(u0,3,g.az.map cg),(.emp 1,3,[]),(.sl b2 0 1 4,4,[[.emp 1,.emp 1,.emp 1,gi 0]])] 4 (by simp)).symm
    clear ho h9 t1 t2 t5 t6 t7 t8 t9 t41 t42 t43
    rintro i k T H2 hk ⟨⟨u2,bs,hbs,ho,h9⟩,t1,t2,t7,t8,t9,t91,t92,t93⟩
    simp (disch:=omega) only [↓wr,seval,wq,ah,ag,ak,aa,ab,af,ai,ae,tD,t1,t2,t7,t8,t9,t91,t92,t93]
    refine av.dec (fun hc=>?_) (fun hc=>?_)
    ·obtain ⟨n3,e3,hn3⟩:=(ho.own 1 rfl).sl (by simp; omega)
     rw[Uc] at e3
     subst e3
     obtain ⟨m,hm1,hm2,hm3⟩:=hkg i (by omega)
     have hbg:=kJ (show i < kl.length by omega)
     rw[Int.zero_add] at hm1
     have hki:kl[i]'(by omega)=(m:Int):=by
      rw[T4 (show i < kl.length by omega)] at hm1; simpa using hm1
     rw[hki] at hbg
     have hg2:g.rules[m]?=some (g.rules[m]'hm3):=T4 hm3
     have hmem:g.rules[m]'hm3∈g.rules:=Ud _
     have htk:(g.rules.filter (b6 p q)).take (i+1)=(g.rules.filter (b6 p q)).take i ++ [g.rules[m]'hm3]:=by
      rw[Uw,← hm2,hg2]; rfl
     generalize g.rules[m]'hm3=r at hg2 hmem htk
     obtain ⟨hl1,hl2,hl3,hr6,hsy⟩:=hf.sr hg hmem
     simp (disch:=omega) only [↓wr,seval,wq,ah,ag,ak,aa,ab,af,ai,ae,t1,t2,t7,t8,t9,t91,t92,t93,hn3,hbg,Uc,au,aP,encI,T8,hg2]
     refine ⟨by omega,by omega,?_⟩
     intro b16 hb16
     have hoA:=ho.new hb16 3 [aP r]
     have n916:b9≠b16:=by rintro rfl; rw[h9] at hb16; simp at hb16
     try simp (disch:=omega) only [↓wr,seval,wq,ah,ag,ak,aa,ab,af,ai,ae,t1,t2,t7,t8,t9,t91,t92,t93,set_set]
     refine zu (kt:=3) (et:=3) (z:=gi 0) (by kernel_rfl) (by kernel_rfl) (kx .i64 Tryz.underlying3) (id:=b9) (c:=cc) (m:=mm) (k:=r.left) (by simp (disch:=omega) only [↓wr,seval,wq,ah,ag,ak,aa,ab,af,ai,ae,t9]) (by simp (disch:=omega) only [↓wr,seval,wq,ah,ag,ak,aa,ab,af,ai,ae]) (by simp[View.set,n916,h9]) ?_
     have hgt:∀ x,(getM mm x).getD (gi 0)=gi (dV o x):=fun x=>by
      rw[hm9.get,dV]; cases ej (jB o 0) x <;> rfl
     rw[hgt]
     simp (disch:=omega) only [↓wr,seval,wq,ah,ag,ak,aa,ab,af,ai,ae,t1,t2,t7,t8,t9,t91,t92,t93]
     refine aE.Ji (NX r.right (by omega) _) ?_
     intro v H3 hv hfr
     have hoB:=bt.Lc (H:=H2.set b16 (.arr 3 [aP r])) hoA hv (by rw[set_set] at hfr; exact hfr)
     have h9B:H3 b9=.map (yK mm) cc:=by
      rw[(hfr b9 (by simp[View.set,n916,h9])).1]; simp[View.set,n916,h9]
     have cv:=hv.cells
     have kv:=hv.jt
     have lv:=hv.len
     have f16:=hoB.is 1 rfl (by simp)
     simp only[aP,encI] at f16
     simp (disch:=omega) only [↓wr,seval,wq,ah,ag,ak,aa,ab,af,ai,ae,t1,t2,t7,t8,t9,t91,t92,t93,f16,cv,kv]
     intro b17 hb17
     have hoC:=hoB.new hb17 3 [[gi (dV o r.left),v,gi r.prec]]
     have n917:b9≠b17:=by rintro rfl; rw[h9B] at hb17; simp at hb17
     try simp (disch:=omega) only [↓wr,seval,wq,ah,ag,ak,aa,ab,af,ai,ae,t1,t2,t7,t8,t9,t91,t92,t93,cv,kv,lv,set_set,Uc]
     generalize hL:((V.sl b8 0 1 4,4,[[u0,u1,u2,gi 0]]) :: (V.sl n3 0 kl.length 1,1,bZ kl) ::
       (u1,1,j7 (o.map fun x=>g.ax.getD x.toNat ⟨#[]⟩)) :: (u0,3,g.az.map cg) :: (u2,3,gW bs) :: (V.sl b2 0 1 4,4,[[V.emp 1,V.emp 1,V.emp 1,gi 0]]) :: lZ bs:List cF)=L at hoC
     refine bc.up r.right.length (TD g b2 b8 b9 b16 b17 (.sl n3 0 kl.length 1) v o kl mm cc r L i) ?_ ?_
     ·exact ⟨by rw[set_set]; exact hoC,by simp[View.set,n917,h9B],t1,t2,t7,t8,t9,t91,t92,t93,rfl,rfl,rfl,rfl⟩
     clear hoA hoB hoC hb16 hb17 h9 h9B f16 hv hfr t1 t2 t7 t8 t9 t91 t92 t93
     rintro k k2 T H3 hk2 ⟨hoC,h9,t1,t2,t7,t8,t9,t91,t92,t93,t17,t113,t114,t115⟩
     have f17:=hoC.is 0 rfl (by simp)
     simp (disch:=omega) only [↓wr,seval,wq,ah,ag,ak,aa,ab,af,ai,ae,tK,t1,t2,t7,t8,t9,t91,t92,t93,t17,t113,t114,t115]
     refine av.dec (fun hcc=>?_) (fun hcc=>?_)
     ·have hgs:r.right[k]?=some (r.right[k]'(by omega)):=T4 (by omega)
      have hms:r.right[k]'(by omega)∈r.right:=Ud _
      have hrl:(bT (dV o) r).right.length=r.right.length:=by simp[bT]
      have hts:(bT (dV o) r).right.take (k+1)=(bT (dV o) r).right.take k ++ [if r.right[k]'(by omega) < 0 then -1 - dV o (-1 - r.right[k]'(by omega)) else r.right[k]'(by omega)]:=by
       rw[Uw]; simp[bT,hgs]
      have hdr:=eM (show k < r.right.length by omega)
      generalize r.right[k]'(by omega)=s at hgs hms hts hdr
      obtain ⟨⟨s1,s2⟩,s3⟩:=hsy s hms
      have hbd:=QG o (-1 - s)
      rw[hdr] at hoC
      have hlen:(((bT (dV o) r).right.take k ++ s :: r.right.drop (k+1)).map fun x=>[gi x]).length=r.right.length:=by simp; omega
      obtain ⟨nv,ev,hnv⟩:=(hoC.own 1 rfl).sl (by rw[hlen]; omega)
      rw[hlen] at ev
      subst ev
      have hlt:k < ((bT (dV o) r).right.take k ++ s :: r.right.drop (k+1)).length:=by simp; omega
      have hbg2:=kJ hlt
      have hel:((bT (dV o) r).right.take k ++ s :: r.right.drop (k+1))[k]'hlt=s:=by
       rw[List.getElem_append_right (by simp; omega)]
       simp[show k - min k r.right.length=0 by omega,hrl]
      rw[hel] at hbg2
      simp (disch:=omega) only [↓wr,seval,wq,ah,ag,ak,aa,ab,af,ai,ae,t1,t2,t7,t8,t9,t91,t92,t93,t17,t113,t114,t115,hnv,hbg2,Uc]
      refine ⟨by omega,hlt,?_⟩
      have hlk:((bT (dV o) r).right.take k).length=k:=by rw[UN]; omega
      have nv9:nv≠b9:=Cy hoC 1 rfl h9
      refine av.dec (fun hneg=>?_) (fun hneg=>?_)
      ·rw[T9 hneg] at hts
       simp (disch:=omega) only [↓wr,seval,wq,ah,ag,ak,aa,ab,af,ai,ae,t1,t2,t7,t8,t9,t91,t92,t93,t17,t113,t114,t115,f17]
       refine zu (kt:=3) (et:=3) (z:=gi 0) (by kernel_rfl) (by kernel_rfl) (kx .i64 Tryz.underlying3) (id:=b9) (c:=cc) (m:=mm) (k:=-1 - s) (by simp (disch:=omega) only [↓wr,seval,wq,ah,ag,ak,aa,ab,af,ai,ae,t9]) (by simp (disch:=omega) only [↓wr,seval,wq,ah,ag,ak,aa,ab,af,ai,ae]) h9 ?_
       rw[hgt]
       simp (disch:=omega) only [↓wr,seval,wq,ah,ag,ak,aa,ab,af,ai,ae,t1,t2,t7,t8,t9,t91,t92,t93,t17,t113,t114,t115,f17,hnv,hbg2,Uc]
       refine ⟨by omega,hlt,?_⟩
       have hoD:=((hoC.at 1 (by simp)).put (es':=((((bT (dV o) r).right.take k ++ s :: r.right.drop (k+1)).map fun x=>[gi x]).set k [gi (-1 - dV o (-1 - s))])) (by simp) (by rw[hlen])).perm (.swap _ _ _)
       refine aN hk2 (by omega) ⟨?_,by simp only[View.set,T6 nv9.symm]; exact h9,t1,t2,t7,t8,t9,t91,t92,t93,t17,t113,t114,rfl⟩
       rw[ints_set,C2 hlk] at hoD
       rw[hts,UL]
       rw[ints_set,C2 hlk]
       exact hoD
      ·rw[T6 hneg] at hts
       simp (disch:=omega) only [↓wr,seval,wq,ah,ag,ak,aa,ab,af,ai,ae,t1,t2,t7,t8,t9,t91,t92,t93,t17,t113,t114,t115]
       refine aN hk2 (by omega) ⟨?_,h9,t1,t2,t7,t8,t9,t91,t92,t93,t17,t113,t114,rfl⟩
       rw[hts,UL]
       exact hoC
     ·rw[Uo (by simp[bT]; omega),UB (by omega),VB] at hoC
      subst hL
      have f8:=hoC.is 3 rfl (by simp)
      have cv:=(hoC.own 1 rfl).cells
      have kv:=(hoC.own 1 rfl).jt
      have hbl:(gW bs).length≤40:=by
       have h1:=Vl List.length hbs
       simp only[Uc,UN] at h1
       simp only[gW,Uc]
       omega
      simp (disch:=omega) only [↓wr,seval,wq,ah,ag,ak,aa,ab,af,ai,ae,t1,t2,t7,t8,t9,t91,t92,t93,t17,t113,t114,t115,f8,f17,cv,kv]
      intro m hm
      have n9m:b9≠m:=by rintro rfl; rw[h9] at hm; simp at hm
      try simp (disch:=omega) only [↓wr,seval,wq,ah,ag,ak,aa,ab,af,ai,ae,t1,t2,t7,t8,t9,t91,t92,t93,t17,cb]
      have hoD:=(hoC.fresh (o:=.arr 3 [[gi (dV o r.left),v,gi r.prec]]) hm).at 7 (by simp)
      refine c6 hoD (by simp[zD,kv]) (by unfold aK; simp at hbl ⊢; omega) (by unfold aK; simp at hbl ⊢; omega) ?_
      intro u2' H4 hoE hleft
      have cu:=hoE.head.cells
      have ku:=hoE.head.jt
      have f8':=hoE.is 4 rfl (by simp)
      have h9':H4 b9=.map (yK mm) cc:=hleft.map (b:=b9) hoD.head (by simp[View.set,n9m,h9])
      have n98:b9≠b8:=(Cy hoE 4 rfl h9').symm
      simp (disch:=omega) only [↓wr,seval,wq,ah,ag,ak,aa,ab,af,ai,ae,t1,t2,t7,t8,t9,t91,t92,t93,t17,f8',cu,ku]
      have hoF:=(hoE.at 4 (by simp)).put (es':=[[u0,u1,u2',gi 0]]) rfl rfl
      have hoG:=((((hoF.at 2 (by simp)).tail).at 3 (by simp)).tail)
      refine aN hk (by omega) ⟨⟨u2',bs ++ [(v,bT (dV o) r)],?_,?_,by simp only[View.set,T6 n98]; exact h9'⟩,t1,t2,t7,t8,t9,t91,t92,rfl⟩
      ·rw[UA,hbs,htk,UA]; rfl
      ·refine hoG.perm (.cons _ ?_)
       simp only[lZ,gW,UA,Uz,VD]
       refine .trans ?_ (rI _ 3 (by simp)).symm
       refine .cons _ ?_
       exact (List.perm_append_singleton (v,1,bZ (bT (dV o) r).right) ((.sl n3 0 kl.length 1,1,bZ kl) :: (u1,1,j7 (o.map fun x=>g.ax.getD x.toNat ⟨#[]⟩)) :: (u0,3,g.az.map cg) :: (.sl b2 0 1 4,4,[[.emp 1,.emp 1,.emp 1,gi 0]]) :: lZ bs)).symm
    ·rw[Uo (by omega)] at hbs
     have f8:=ho.is 0 rfl (by simp)
     have f2:=ho.is 5 rfl (by simp)
     have n82:b8≠b2:=ho.DB 0 5 rfl rfl (by omega)
     have c1:=(ho.own 2 rfl).cells
     have k1:=(ho.own 2 rfl).jt
     have c2:=(ho.own 4 rfl).cells
     have k2:=(ho.own 4 rfl).jt
     have hgt:∀ x,(getM mm x).getD (gi 0)=gi (dV o x):=fun x=>by
      rw[hm9.get,dV]; cases ej (jB o 0) x <;> rfl
     simp (disch:=omega) only [↓wr,seval,wq,ah,ag,ak,aa,ab,af,ai,ae,t1,t2,t7,t8,t9,t91,t92,t93,au]
     refine zu (kt:=3) (et:=3) (z:=gi 0) (by kernel_rfl) (by kernel_rfl) (kx .i64 Tryz.underlying3) (id:=b9) (c:=cc) (m:=mm) (k:=g.start) (by simp (disch:=omega) only [↓wr,seval,wq,ah,ag,ak,aa,ab,af,ai,ae,t9]) (by simp (disch:=omega) only [↓wr,seval,wq,ah,ag,ak,aa,ab,af,ai,ae]) h9 ?_
     rw[hgt]
     simp (disch:=omega) only [↓wr,seval,wq,ah,ag,ak,aa,ab,af,ai,ae,t1,t2,t7,t8,t9,t91,t92,t93,f8,f2,n82,n82.symm,c0,k0,c1,k1,c2,k2]
     intro h' hh
     have hoA:=ho.put (es':=[[u0,u1,u2,gi (dV o g.start)]]) rfl rfl
     have hoB:=(hoA.at 5 (by simp)).put (es':=[[u0,u1,u2,gi (dV o g.start)]]) rfl rfl
     have hv:h'.view=(H2.set b8 (.arr 4 [[u0,u1,u2,gi (dV o g.start)]])).set b2 (.arr 4 [[u0,u1,u2,gi (dV o g.start)]]):=hh
     rw[← hv] at hoB
     exact JR (x:=(⟨g.az,o.map fun x=>g.ax.getD x.toNat ⟨#[]⟩,(g.rules.filter (b6 p q)).map (bT (dV o)),dV o g.start⟩,kl,0)) (b:=bs) (hoB.own 4 rfl) (hoB.own 3 rfl) (hoB.own 5 rfl) (fun y hy=>hoB.1 y (by
      refine Ux _ (Ux _ (Ux _ (Ux _ (Ux _ (Ux _ ?_)))))
      exact hy)) hbs (hoB.own 2 rfl)
 ·rename_i hr
  intro h' hh
  rw[T6 (by simp[hr])]
  exact vK
theorem I8 {l:List Int} {a b:List Bool} {t:Bool} (h:fq a b) (k:cz l a t=true):cz l b t=true:=by
 simp only[cz,UE] at k ⊢
 intro s hs
 have:=k s hs
 by_cases h0:0≤s
 ·rw[T9 h0] at this ⊢; exact this
 ·rw[T6 h0] at this ⊢; exact h.2 _ this
theorem fq.G4 {a b:List Bool} (h:fq a b) (k:fq b a):a=b:=by
 have h1:=h.ec
 have h2:=k.ec
 exact h1.2 (by omega)
def ox (g:aw) (t:Bool) (is:List Bool):Prop:=∀ i,is.getD i false=true→∃ r∈g.rules,r.left.toNat=i∧cz r.right is t=true
theorem ox.step {g:aw} {t:Bool} {is:List Bool} {r:aW} (h:ox g t is) (hr:r∈g.rules):ox g t (ey t is r):=by
 have hle:fq is (ey t is r):=by
  unfold ey
  split
  ·exact .set _ _
  ·exact .refl _
 intro i hi
 by_cases e:is.getD i false=true
 ·obtain ⟨r',h1,h2,h3⟩:=h i e
  exact ⟨r',h1,h2,I8 hle h3⟩
 ·unfold ey at hi
  by_cases ha:cz r.right is t=true
  ·rw[T9 ha] at hi
   have:r.left.toNat=i:=by
    refine Vs fun hne=>e ?_
    simp only[T0,Vm,T6 hne] at hi ⊢
    exact hi
   exact ⟨r,hr,this,I8 hle ha⟩
  ·rw[T6 ha] at hi; exact absurd hi e
theorem ox.fold {g:aw} {t:Bool} : ∀ (l:List aW) (is:List Bool),(∀ r∈l,r∈g.rules)→ox g t is→ox g t (l.foldl (ey t) is)
 | [],is,_,h=>h
 | r :: l,is,hl,h=>ox.fold l _ (fun x hx=>hl x (by simp[hx])) (h.step (hl r (by simp)))
theorem ox.iter {g:aw} {t:Bool} : ∀ (n:Nat) (is:List Bool),ox g t is→ox g t (iter (jO g t) n is)
 | 0,_,h=>h
 | n+1,is,h=>ox.iter n _ (ox.fold g.rules is (fun _ h=>h) h)
theorem Lo (g:aw) (t:Bool):ox g t (aA g t):=by
 unfold aA
 split
 ·refine ox.iter _ _ ?_
  intro i hi
  simp only[cd,T0,Vx] at hi
  split at hi <;> simp at hi
 ·intro i hi; simp at hi
theorem IJ (is:List Bool) (s:Int):fq is (mark is s):=by
 unfold mark
 split
 ·exact .set _ _
 ·exact .refl _
theorem As:∀ (l:List Int) (is:List Bool),fq is (l.foldl mark is)
 | [],is=>.refl _
 | s :: l,is=>(IJ is s).trans (As l _)
theorem Hy (p is:List Bool) (r:aW):fq is (fT p is r):=by
 unfold fT
 split
 ·exact As _ _
 ·exact .refl _
theorem HJ (p:List Bool):∀ (l:List aW) (is:List Bool),fq is (l.foldl (fT p) is)
 | [],is=>.refl _
 | r :: l,is=>(Hy p is r).trans (HJ p l _)
theorem EC {p:List Bool} : ∀ {l:List aW} {is:List Bool},l.foldl (fT p) is=is→∀ r∈l,fT p is r=is
 | [],_,_,_,h=>by simp at h
 | r :: l,is,h,x,hx=>by
  rw[Uu] at h
  have h1:=HJ p l (fT p is r)
  rw[h] at h1
  have h2:=(h1.G4 (Hy p is r))
  rcases Uk.1 hx with rfl | hx
  ·exact h2
  ·rw[h2] at h; exact EC h x hx
theorem Ev:∀ {l:List Int} {is:List Bool},l.foldl mark is=is→∀ s∈l,mark is s=is
 | [],_,_,_,h=>by simp at h
 | r :: l,is,h,x,hx=>by
  rw[Uu] at h
  have h1:=As l (mark is r)
  rw[h] at h1
  have h2:=(h1.G4 (IJ is r))
  rcases Uk.1 hx with rfl | hx
  ·exact h2
  ·rw[h2] at h; exact Ev h x hx
theorem EW {g:aw} (hr:bR g=true):oz g (aA g true) (bS g)=bS g∧fq ((cd g).set g.start.toNat true) (bS g):=by
 have hf:=bM hr
 have h:=tC (r7 (aA g true)) g.rules 16 ((cd g).set g.start.toNat true) (by have:=hf.ax; simp[cd]; omega)
 rw[IT,LL hr] at h
 exact h
theorem um {g:aw} (hr:bR g=true):(bS g).getD g.start.toNat false=true:=by
 have hf:=bM hr
 refine (EW hr).2.2 _ ?_
 have h3:=hf.iX
 have h4:=hf.start
 simp only[T0]
 rw[VN (by simp[cd]; omega)]
 rfl
theorem wc {g:aw} (hr:bR g=true) {r:aW} (hm:r∈g.rules) (hk:b6 (aA g true) (bS g) r=true) {s:Int} (hs:s∈r.right) (hn:s < 0):(bS g).getD (-1 - s).toNat false=true:=by
 have hf:=bM hr
 have h1:=EC (EW hr).1 r hm
 unfold fT at h1
 rw[b6] at hk
 rw[T9 hk] at h1
 have h2:=Ev h1 s hs
 unfold mark at h2
 rw[T9 hn] at h2
 rw[← h2]
 have hl:=p7 hr
 have:=hf.neg hm hs hn
 simp only[T0]
 rw[VN (by omega)]
 rfl
theorem BP {g:aw} (hr:bR g=true) {x:Int} (h0:0≤x) (hp:(aA g true).getD x.toNat false=true) (hq:(bS g).getD x.toNat false=true):x∈cn (aA g true) (bS g) g.rules:=by
 obtain ⟨r,h1,h2,h3⟩:=Lo g true _ hp
 have hf:=bM hr
 have h4:=hf.left r h1
 have:r.left=x:=by omega
 refine sD.2 ⟨r,h1,?_,this⟩
 rw[b6,this,hq,h3]; rfl
theorem KD (g:aw):(if bR g=true then
  if (aA g true).getD g.start.toNat false=true then (pF g (dV (cn (aA g true) (bS g) g.rules)) (aA g true) (bS g),cZ (aA g true) (bS g) g.rules 0,0)
  else (uB,[],9)
 else (uB,[],1))=fy g:=by
 unfold fy
 by_cases hr:bR g=true
 ·rw[T9 hr,T9 hr]
  by_cases hp:(aA g true).getD g.start.toNat false=true
  ·rw[T9 hp,T9 hp]
   have hf:=bM hr
   rw[MC]
   ·exact BP hr hf.iX hp (um hr)
   ·intro r hm
    obtain ⟨h1,h2⟩:=UQ.1 hm
    refine ⟨sD.2 ⟨r,h1,h2,rfl⟩,fun s hs hn=>?_⟩
    refine BP hr (by omega) ?_ (wc hr h1 h2 hs hn)
    rw[b6,Uh] at h2
    have:=h2.2
    simp only[cz,UE] at this
    have:=this s hs
    rwa [T6 (by omega)] at this
  ·rw[T6 hp,T6 hp]
 ·rw[T6 hr,T6 hr]
theorem Kz (g:aw) (hg:g.Ok) (hs:g.Small):cX Tryz.prog 109 [.agg (au g)] (vT (fy g)):=by
 rw[← KD]; exact It g hg hs
def aB (g:aw) (k:Int):aW:=g.rules.getD k.toNat ⟨0,[],0⟩
theorem getD_some {α:Type} {l:List α} {j:Nat} {d:α} (h:j < l.length):l[j]?=some (l.getD j d):=by simp[T0,h]
theorem F9 {x:Int} : ∀ (o:List Int) (i:Int),x∈o→∃ k:Nat,cB (fun y=>y == x) o i=i+k∧o[k]?=some x
 | [],_,h=>by simp at h
 | y :: o,i,h=>by
  by_cases e:y=x
  ·exact ⟨0,by simp[cB,e],by simp[e]⟩
  ·have hx:x∈o:=by
    rcases Uk.1 h with rfl | h
    ·exact absurd rfl e
    ·exact h
   obtain ⟨k,h1,h2⟩:=F9 o (i+1) hx
   exact ⟨k+1,by simp only[cB]; rw[T6 (by simp[e]),h1]; push_cast; omega,by simpa using h2⟩
theorem OU {o:List Int} {x:Int} (h:x∈o):o[(bQ o x).toNat]?=some x:=by
 obtain ⟨k,h1,h2⟩:=F9 o 0 h
 have:bQ o x=k:=by unfold bQ; omega
 rw[this]; simpa using h2
theorem Jn {o:List Int} (hn:o.Nodup) {k:Nat} {x:Int} (h:o[k]?=some x):bQ o x=k:=by
 have hx:=Ub h
 have h1:=OU hx
 have h2:=nb hx
 obtain ⟨hk,h3⟩:=Uj.1 h
 obtain ⟨hk2,h4⟩:=Uj.1 h1
 have:=(List.getElem_inj hn).1 (h4.trans h3.symm)
 omega
theorem sC:∀ (l:List aW) (acc:List Int),acc.Nodup→(l.foldl fQ acc).Nodup
 | [],_,h=>h
 | r :: l,acc,h=>sC l _ (Ch h)
theorem KN (p q:List Bool) (l:List aW):(cn p q l).Nodup:=sC _ _ List.nodup_nil
theorem Oq (acc:List Int) (r:aW):∃ m,fQ acc r=acc ++ m:=by
 unfold fQ
 split
 ·exact ⟨[],by simp⟩
 ·exact ⟨_,rfl⟩
theorem uC:∀ (l:List aW) (acc:List Int),∃ m,l.foldl fQ acc=acc ++ m
 | [],acc=>⟨[],by simp⟩
 | r :: l,acc=>by
  obtain ⟨m,hm⟩:=Oq acc r
  obtain ⟨k,hk⟩:=uC l (fQ acc r)
  exact ⟨m ++ k,by rw[Uu,hk,hm,UL]⟩
theorem OL {a b:List Int} {x:Int} (h:x∈a):bQ (a ++ b) x=bQ a x:=by
 unfold bQ
 rw[ua _ _ _ _ (by omega)]
 have:=nb h
 unfold bQ at this
 rw[T9 this.1]
theorem wM {r:aw} {o:List Int} (ho:o.Nodup) (hr:r.ax.length=o.length):∀ (l:List aW) (acc:List Int),o=l.foldl fQ acc→(∀ x∈l,iA r (bT (bQ o) x)=true)→gV r (l.map (bT (bQ o))) ((acc.length:Int) - 1)=true
 | [],acc,h,_=>by
  simp only[Vk] at h
  simp[gV,hr,h]
 | x :: l,acc,h,hb=>by
  simp only[Uz,gV,Uh,Ul]
  rw[Uu] at h
  have h1:(bT (bQ o) x).left=bQ o x.left:=rfl
  obtain ⟨m,hm⟩:=uC l (fQ acc x)
  rw[← h] at hm
  by_cases hx:x.left∈acc
  ·have e:fQ acc x=acc:=by unfold fQ; rw[T9 hx]
   rw[e] at hm h
   have h2:=nb hx
   have h3:bQ o x.left=bQ acc x.left:=by rw[hm]; exact OL hx
   rw[h1,h3,T6 (by omega)]
   exact ⟨⟨⟨h2.1,by omega⟩,hb x (by simp)⟩,wM ho hr l acc h fun y hy=>hb y (by simp[hy])⟩
  ·have e:fQ acc x=acc ++ [x.left]:=by unfold fQ; rw[T6 hx]
   rw[e] at hm h
   have h3:bQ o x.left=acc.length:=Jn ho (by rw[hm]; simp)
   rw[h1,h3,T9 (by omega)]
   refine ⟨⟨⟨by omega,by omega⟩,hb x (by simp)⟩,?_⟩
   have:=wM ho hr l (acc ++ [x.left]) h fun y hy=>hb y (by simp[hy])
   rw[UX] at this
   simpa using this
theorem zV {g r:aw} (h:r.az=g.az):∀ (l:List Term) (i:Int),jK r l i=jK g l i
 | [],_=>rfl
 | t :: l,i=>by
  simp only[jK,zV h l]
  congr 1
  simp only[kc,ml,rD,h]
theorem Fh {o:List Int} {n:Nat} (h:o.Nodup) (hb:∀ x∈o,0≤x∧x < n):o.length≤n:=by
 have:=mP o ((List.range n).map fun (k:Nat)=>(k:Int)) h fun x hx=>by
  have:=hb x hx
  exact Ur.2 ⟨x.toNat,UR.2 (by omega),by omega⟩
 simpa using this
structure jf (g:aw) (p q:List Bool) (o:List Int) (r:aw):Prop where
 right:bR g=true
 pe:p=aA g true
 qe:q=bS g
 oe:o=cn p q g.rules
 re:r=pF g (bQ o) p q
 nodup:o.Nodup
 inside:∀ x∈o,0≤x∧x < g.ax.length
 kept:∀ R∈g.rules,b6 p q R=true→R.left∈o∧∀ s∈R.right,s < 0→-1 - s∈o
 from_:∀ x∈o,∃ R∈g.rules,b6 p q R=true∧R.left=x
 start:g.start∈o
theorem Mz {g:aw} (hr:bR g=true) (hp:(aA g true).getD g.start.toNat false=true):jf g (aA g true) (bS g) (cn (aA g true) (bS g) g.rules) (pF g (bQ (cn (aA g true) (bS g) g.rules)) (aA g true) (bS g)):=by
 have hf:=bM hr
 refine ⟨hr,rfl,rfl,rfl,rfl,KN _ _ _,fun x hx=>?_,fun R hm hk=>⟨sD.2 ⟨R,hm,hk,rfl⟩,fun s hs hn=>?_⟩,fun x hx=>sD.1 hx,BP hr hf.iX hp (um hr)⟩
 ·obtain ⟨R,h1,_,rfl⟩:=sD.1 hx
  exact hf.left R h1
 ·refine BP hr (by omega) ?_ (wc hr hm hk hs hn)
  rw[b6,Uh] at hk
  have:=hk.2
  simp only[cz,UE] at this
  have:=this s hs
  rwa [T6 (by omega)] at this
section
variable {g r:aw} {p q:List Bool} {o:List Int}
theorem jf.rules (h:jf g p q o r):r.rules=(g.rules.filter (b6 p q)).map (bT (bQ o)):=by rw[h.re]; rfl
theorem jf.ax (h:jf g p q o r):r.ax=o.map fun x=>g.ax.getD x.toNat ⟨#[]⟩:=by rw[h.re,h.oe]; rfl
theorem jf.az (h:jf g p q o r):r.az=g.az:=by rw[h.re]; rfl
theorem jf.GX (h:jf g p q o r):r.start=bQ o g.start:=by rw[h.re]; rfl
theorem jf.len (h:jf g p q o r):r.ax.length=o.length:=by rw[h.ax]; simp
theorem jf.xK (h:jf g p q o r):bR r=true:=by
 have hf:=bM h.right
 have hR:=h.right
 simp only[bR,jR,kD,Uh,Ul] at hR ⊢
 obtain ⟨⟨⟨⟨⟨⟨⟨a1,a2⟩,⟨a3,a4⟩,a5⟩,a6⟩,a7⟩,a8⟩,a9⟩,a10⟩:=hR
 have hst:=nb h.start
 have hol:o.length≤g.ax.length:=Fh h.nodup h.inside
 have hgn:g.ax.Nodup∧∀ s∈g.ax,gx (fp s)=true∧ml g s < 0:=by
  rw[tf] at a5
  refine ⟨(td g.ax).1 fun k s hk=>?_,fun s hs=>?_⟩
  ·have:=a5 k s hk
   simp only[lF,yO,Uh,Va] at this
   have:=this.1.2
   omega
  ·obtain ⟨k,hk⟩:=List.getElem?_of_mem hs
   have:=a5 k s hk
   simp only[lF,Uh,Ul] at this
   exact ⟨this.1.1,this.2⟩
 have hget:∀ x∈o,∃ (hx:x.toNat < g.ax.length),g.ax.getD x.toNat ⟨#[]⟩=g.ax[x.toNat]:=fun x hx=>by
  have:=h.inside x hx
  exact ⟨by omega,by simp[T0,T4 (show x.toNat < g.ax.length by omega)]⟩
 have hrn:r.ax.Nodup:=by
  rw[h.ax,VP,VX]
  refine (List.Pairwise.and_mem.1 h.nodup).imp ?_
  rintro x y ⟨hx,hy,hne⟩ e
  obtain ⟨h1,h2⟩:=hget x hx
  obtain ⟨h3,h4⟩:=hget y hy
  rw[h2,h4] at e
  have h5:=(List.getElem_inj hgn.1).1 e
  have h6:=h.inside x hx
  have h7:=h.inside y hy
  exact hne (by omega)
 have hrules:(g.rules.filter (b6 p q)).length≤g.rules.length:=UW _ _
 obtain ⟨R0,hR0,hk0,_⟩:=h.from_ _ h.start
 have hpos:0 < (g.rules.filter (b6 p q)).length:=List.length_pos_of_mem (UQ.2 ⟨hR0,hk0⟩)
 have hrl:r.rules.length=(g.rules.filter (b6 p q)).length:=by rw[h.rules]; simp
 refine ⟨⟨⟨⟨⟨⟨⟨by rw[h.az]; exact a1,?_⟩,⟨by rw[h.len]; omega,by rw[h.len]; omega⟩,?_⟩,by omega⟩,by omega⟩,by rw[h.GX]; omega⟩,by rw[h.GX,h.len]; omega⟩,?_⟩
 ·rw[h.az,zV h.az]; exact a2
 ·rw[tf]
  intro k s hk
  have hm:=Ub hk
  have hidx:=(td r.ax).2 hrn k s hk
  rw[h.ax,Ur] at hm
  obtain ⟨x,hx,rfl⟩:=hm
  obtain ⟨h1,h2⟩:=hget x hx
  obtain ⟨h3,h4⟩:=hgn.2 _ (h2 ▸ Ud h1:g.ax.getD x.toNat ⟨#[]⟩∈g.ax)
  simp only[lF,yO,Uh,Va,Ul]
  refine ⟨⟨h3,by rw[hidx]; omega⟩,?_⟩
  simp only[ml,h.az] at h4 ⊢
  exact h4
 ·rw[h.rules]
  have:=wM (r:=r) h.nodup h.len (g.rules.filter (b6 p q)) [] (by rw[h.oe]; rfl) (fun x hx=>?_)
  ·simpa using this
  obtain ⟨hm,hk⟩:=UQ.1 hx
  obtain ⟨_,hin⟩:=h.kept x hm hk
  have hb:=(x6 _ _ a10).2 x hm
  have hb:=hb.2.2
  simp only[iA,Uh,Ul,UE] at hb ⊢
  obtain ⟨⟨⟨b1,b2⟩,b3⟩,b4⟩:=hb
  refine ⟨⟨⟨by simpa [bT] using b1,b2⟩,by rw[h.az]; exact b3⟩,fun s hs=>?_⟩
  simp only[bT,Ur] at hs
  obtain ⟨s0,hs0,rfl⟩:=hs
  have b5:=b4 s0 hs0
  by_cases hn:s0 < 0
  ·rw[T9 hn]
   have hl:=nb (hin s0 hs0 hn)
   simp only[mF,iz,Uh]
   rw[T6 (by omega),decide_eq_false (p:=0≤-1 - bQ o (-1 - s0)) (by omega)]
   simp only[h.len,Ul,VA,Bool.not_false,and_true]
   omega
  ·rw[T6 hn]
   simp only[mF,iz,h.az] at b5 ⊢
   rw[T9 (by omega)] at b5 ⊢
   exact b5
end
inductive ta (g:aw):Int→Prop
 | mk (R:aW):R∈g.rules→(∀ s∈R.right,s < 0→ta g (-1 - s))→ta g R.left
inductive nY (g:aw) (p:List Bool):Int→Prop
 | start:nY g p g.start
 | next (R:aW) (s:Int):R∈g.rules→nY g p R.left→cz R.right p true=true→s∈R.right→s < 0→nY g p (-1 - s)
theorem vA {l:List Int} {p:List Bool} : cz l p true=true↔∀ s∈l,s < 0→p.getD (-1 - s).toNat false=true:=by
 simp only[cz,UE]
 constructor
 ·intro h s hs hn
  have:=h s hs
  rwa [T6 (by omega)] at this
 ·intro h s hs
  by_cases hn:s < 0
  ·rw[T6 (by omega)]; exact h s hs hn
  ·rw[T9 (by omega)]
theorem AI {l:List Bool} {i j:Nat} (h:(l.set i true).getD j false=true):j=i∨l.getD j false=true:=by
 by_cases e:i=j
 ·exact .inl e.symm
 ·right
  simp only[T0,Vm,T6 e] at h ⊢
  exact h
theorem Bi {g:aw} {i:Nat} : (cd g).getD i false=false:=by
 simp only[cd,T0,Vx]
 split <;> rfl
theorem sw {g:aw} (hr:bR g=true):∀ i:Nat,(aA g true).getD i false=true→ta g i:=by
 have hf:=bM hr
 have hst:∀ (is:List Bool) (R:aW),R∈g.rules→(∀ i:Nat,is.getD i false=true→ta g i)→∀ i:Nat,(ey true is R).getD i false=true→ta g i:=by
  intro is R hR h i hi
  unfold ey at hi
  split at hi
  ·rename_i ha
   rcases AI hi with rfl | hi
   ·have:=hf.left R hR
    have e:((R.left.toNat:Nat):Int)=R.left:=by omega
    rw[e]
    refine .mk R hR fun s hs hn=>?_
    have:=h _ (vA.1 ha s hs hn)
    rwa [show (((-1 - s).toNat:Nat):Int) = -1 - s by omega] at this
   ·exact h i hi
  ·exact h i hi
 have hfold:∀ (l:List aW) (is:List Bool),(∀ R∈l,R∈g.rules)→(∀ i:Nat,is.getD i false=true→ta g i)→∀ i:Nat,(l.foldl (ey true) is).getD i false=true→ta g i:=by
  intro l
  induction l with
  | nil=>intro is _ h; exact h
  | cons R l ih=>intro is hl h; exact ih _ (fun x hx=>hl x (by simp[hx])) (hst is R (hl R (by simp)) h)
 have hit:∀ (n:Nat) (is:List Bool),(∀ i:Nat,is.getD i false=true→ta g i)→∀ i:Nat,(iter (jO g true) n is).getD i false=true→ta g i:=by
  intro n
  induction n with
  | zero=>intro is h; exact h
  | succ n ih=>intro is h; exact ih _ (hfold g.rules is (fun _ h=>h) h)
 rw[aA,T9 hr]
 exact hit _ _ fun i hi=>by rw[Bi] at hi; simp at hi
theorem DY (t:Bool) (is:List Bool) (R:aW):fq is (ey t is R):=by
 unfold ey
 split
 ·exact .set _ _
 ·exact .refl _
theorem D1 (t:Bool):∀ (l:List aW) (is:List Bool),fq is (l.foldl (ey t) is)
 | [],is=>.refl _
 | R :: l,is=>(DY t is R).trans (D1 t l _)
theorem Cj {t:Bool} : ∀ {l:List aW} {is:List Bool},l.foldl (ey t) is=is→∀ R∈l,ey t is R=is
 | [],_,_,_,h=>by simp at h
 | R :: l,is,h,x,hx=>by
  rw[Uu] at h
  have h1:=D1 t l (ey t is R)
  rw[h] at h1
  have h2:=(h1.G4 (DY t is R))
  rcases Uk.1 hx with rfl | hx
  ·exact h2
  ·rw[h2] at h; exact Cj h x hx
theorem MR {g:aw} (hr:bR g=true) (t:Bool):jO g t (aA g t)=aA g t:=by
 have hf:=bM hr
 have h:=tC (lP t) g.rules 16 (cd g) (by have:=hf.ax; simp[cd]; omega)
 rw[Jg,Hg hr] at h
 exact h.1
theorem r5 {g:aw} (hr:bR g=true) {t:Bool} {R:aW} (hR:R∈g.rules) (ha:cz R.right (aA g t) t=true):(aA g t).getD R.left.toNat false=true:=by
 have h1:=Cj (MR hr t) R hR
 have hf:=bM hr
 have hl:=eV hr t
 have hb:=hf.left R hR
 unfold ey at h1
 rw[T9 ha] at h1
 rw[← h1]
 simp only[T0]
 rw[VN (by omega)]
 rfl
theorem xZ {g:aw} (hr:bR g=true) {x:Int} (h:ta g x):(aA g true).getD x.toNat false=true:=by
 induction h with
 | mk R hR _ ih=>exact r5 hr hR (vA.2 fun s hs hn=>ih s hs hn)
theorem yj {g:aw} (hr:bR g=true):∀ i:Nat,(bS g).getD i false=true→nY g (aA g true) i:=by
 have hf:=bM hr
 have hmk:∀ (R:aW),R∈g.rules→nY g (aA g true) R.left→cz R.right (aA g true) true=true→∀ (l:List Int) (is:List Bool),(∀ s∈l,s∈R.right)→(∀ i:Nat,is.getD i false=true→nY g (aA g true) i)→∀ i:Nat,(l.foldl mark is).getD i false=true→nY g (aA g true) i:=by
  intro R hR hl ha l
  induction l with
  | nil=>intro is _ h; exact h
  | cons s l ih =>
   intro is hs h
   refine ih _ (fun x hx=>hs x (by simp[hx])) fun i hi=>?_
   unfold mark at hi
   split at hi
   ·rename_i hn
    rcases AI hi with rfl | hi
    ·rw[show (((-1 - s).toNat:Nat):Int) = -1 - s by omega]
     exact .next R s hR hl ha (hs s (by simp)) hn
    ·exact h i hi
   ·exact h i hi
 have hst:∀ (is:List Bool) (R:aW),R∈g.rules→(∀ i:Nat,is.getD i false=true→nY g (aA g true) i)→∀ i:Nat,(fT (aA g true) is R).getD i false=true→nY g (aA g true) i:=by
  intro is R hR h
  unfold fT
  split
  ·rename_i ha
   rw[Uh] at ha
   have h1:=h _ ha.1
   have:=hf.left R hR
   rw[show ((R.left.toNat:Nat):Int)=R.left by omega] at h1
   exact hmk R hR h1 ha.2 R.right is (fun _ h=>h) h
  ·exact h
 have hfold:∀ (l:List aW) (is:List Bool),(∀ R∈l,R∈g.rules)→(∀ i:Nat,is.getD i false=true→nY g (aA g true) i)→∀ i:Nat,(l.foldl (fT (aA g true)) is).getD i false=true→nY g (aA g true) i:=by
  intro l
  induction l with
  | nil=>intro is _ h; exact h
  | cons R l ih=>intro is hl h; exact ih _ (fun x hx=>hl x (by simp[hx])) (hst is R (hl R (by simp)) h)
 have hit:∀ (n:Nat) (is:List Bool),(∀ i:Nat,is.getD i false=true→nY g (aA g true) i)→∀ i:Nat,(iter (oz g (aA g true)) n is).getD i false=true→nY g (aA g true) i:=by
  intro n
  induction n with
  | zero=>intro is h; exact h
  | succ n ih=>intro is h; exact ih _ (hfold g.rules is (fun _ h=>h) h)
 rw[bS,T9 hr]
 refine hit _ _ fun i hi=>?_
 rcases AI hi with rfl | hi
 ·have:=hf.iX
  rw[show ((g.start.toNat:Nat):Int)=g.start by omega]
  exact .start
 ·rw[Bi] at hi; simp at hi
theorem yp {g:aw} (hr:bR g=true) {x:Int} (h:nY g (aA g true) x):(bS g).getD x.toNat false=true:=by
 induction h with
 | start=>exact um hr
 | next R s hR _ ha hs hn ih=>exact wc hr hR (by rw[b6,ih,ha]; rfl) hs hn
section
variable {g r:aw} {p q:List Bool} {o:List Int}
theorem jf.TI (h:jf g p q o r) {x:Int} (hd:ta g x):x∈o→ta r (bQ o x):=by
 induction hd with
 | mk R hR hsub ih =>
  intro hx
  obtain ⟨R1,hR1,hk1,e1⟩:=h.from_ _ hx
  have hk:b6 p q R=true:=by
   rw[b6,Uh] at hk1 ⊢
   refine ⟨by rw[← e1]; exact hk1.1,?_⟩
   rw[h.pe]
   exact vA.2 fun s hs hn=>xZ h.right (hsub s hs hn)
  have hin:=(h.kept R hR hk).2
  have hm:bT (bQ o) R∈r.rules:=by rw[h.rules]; exact Ur.2 ⟨R,UQ.2 ⟨hR,hk⟩,rfl⟩
  refine ta.mk (bT (bQ o) R) hm fun s' hs' hn'=>?_
  simp only[bT,Ur] at hs'
  obtain ⟨s,hs,rfl⟩:=hs'
  by_cases hn:s < 0
  ·rw[T9 hn]
   have:=ih s hs hn (hin s hs hn)
   rwa [show -1 - (-1 - bQ o (-1 - s))=bQ o (-1 - s) by omega]
  ·rw[T6 hn] at hn'; omega
theorem jf.Sr (h:jf g p q o r) {x:Int} (hx:x∈o):(aA r true).getD (bQ o x).toNat false=true:=by
 obtain ⟨R,hR,hk,rfl⟩:=h.from_ _ hx
 rw[b6,Uh,h.pe] at hk
 have h1:=r5 h.right hR hk.2
 have h2:=sw h.right _ h1
 have:=(h.inside _ hx)
 rw[show ((R.left.toNat:Nat):Int)=R.left by omega] at h2
 exact xZ h.xK (h.TI h2 hx)
theorem jf.at_ (h:jf g p q o r) {k:Nat} (hk:k < o.length):∃ x∈o,bQ o x=k∧o[k]?=some x:=⟨o[k],Ud _,Jn h.nodup (T4 hk),T4 hk⟩
theorem jf.ED (h:jf g p q o r) {k:Nat} (hk:k < o.length):(aA r true).getD k false=true:=by
 obtain ⟨x,hx,h1,_⟩:=h.at_ hk
 have:=h.Sr hx
 rwa [h1,Uq] at this
theorem jf.RN (h:jf g p q o r) {R:aW} (hR:R∈r.rules):cz R.right (aA r true) true=true:=by
 have hf:=bM h.xK
 refine vA.2 fun s hs hn=>h.ED ?_
 have:=hf.neg hR hs hn
 rw[h.len] at this
 omega
theorem jf.TJ (h:jf g p q o r) {x:Int} (hd:nY g (aA g true) x):nY r (aA r true) (bQ o x):=by
 induction hd with
 | start=>rw[← h.GX]; exact .start
 | next R s hR h1 ha hs hn ih =>
  have hk:b6 p q R=true:=by
   rw[b6,h.pe,h.qe,ha,yp h.right h1]; rfl
  have hm:bT (bQ o) R∈r.rules:=by rw[h.rules]; exact Ur.2 ⟨R,UQ.2 ⟨hR,hk⟩,rfl⟩
  have hin:=(h.kept R hR hk).2 s hs hn
  have h2:=nb hin
  have:=nY.next (g:=r) (p:=aA r true) (bT (bQ o) R) (-1 - bQ o (-1 - s)) hm ih (h.RN hm) (by
   simp only[bT,Ur]
   exact ⟨s,hs,by rw[T9 hn]⟩) (by omega)
  rwa [show -1 - (-1 - bQ o (-1 - s))=bQ o (-1 - s) by omega] at this
theorem jf.LR (h:jf g p q o r) {k:Nat} (hk:k < o.length):(bS r).getD k false=true:=by
 obtain ⟨x,hx,h1,_⟩:=h.at_ hk
 obtain ⟨R,hR,hkk,rfl⟩:=h.from_ _ hx
 rw[b6,Uh,h.qe] at hkk
 have h2:=yj h.right _ hkk.1
 have:=(h.inside _ hx)
 rw[show ((R.left.toNat:Nat):Int)=R.left by omega] at h2
 have:=yp h.xK (h.TJ h2)
 rwa [h1,Uq] at this
end
def isRed (g:aw):Bool:=(fy g).2.2 == 0 && decide (g=(fy g).1)
def Rp (p:List Int) (i:Nat) (s:Int):Prop:=∃ c,p[i]?=some c∧(c=s∨c = -1)
structure Item where
 aH:Nat
 dot:Nat
 NS:Nat
 deriving DecidableEq
structure TG (g:aw) (p:List Int) (S:Nat→List Item):Prop where
 start:∀ (i:Nat) (R:aW),g.rules[i]?=some R→R.left=g.start→⟨i,0,0⟩∈S 0
 term:∀ a x R s,x∈S a→g.rules[x.aH]?=some R→R.right[x.dot]?=some s→0≤s→Rp p a s→⟨x.aH,x.dot+1,x.NS⟩∈S (a+1)
 pred:∀ a x R s i R',x∈S a→g.rules[x.aH]?=some R→R.right[x.dot]?=some s→s < 0→g.rules[i]?=some R'→R'.left = -1 - s→a≤p.length→⟨i,0,a⟩∈S a
 null:∀ a x R s,x∈S a→g.rules[x.aH]?=some R→R.right[x.dot]?=some s→s < 0→(aA g false).getD (-1 - s).toNat false=true→a≤p.length→⟨x.aH,x.dot+1,x.NS⟩∈S a
 comp:∀ a y R' x R s,y∈S a→g.rules[y.aH]?=some R'→y.dot=R'.right.length→y.NS < a→x∈S y.NS→g.rules[x.aH]?=some R→R.right[x.dot]?=some s→s < 0→R'.left = -1 - s→a≤p.length→⟨x.aH,x.dot+1,x.NS⟩∈S a
abbrev Tb:=List (List (List Bool))
theorem Ri:uB.Ok:=by
 refine ⟨by unfold aY; decide,by unfold aY; decide,by unfold aY; decide,by unfold cp; decide,?_,?_⟩
 ·intro t ht; simp[uB] at ht
 ·intro r hr; simp[uB] at hr
section
variable {g r:aw} {p q:List Bool} {o:List Int}
end
theorem bytes_beq (a b:ByteArray):(a == b)=decide (a=b):=by
 cases a with | mk a=>cases b with | mk b =>
 rw[Vc]
 show (ByteArray.beq ⟨a⟩ ⟨b⟩=true)↔_
 simp only[ByteArray.beq]
 simp
theorem DG (a b:ByteArray):iP a b=decide (a=b):=by
 cases a with | mk a=>cases b with | mk b =>
 rw[Vc]
 simp[iP]
theorem pw {α:Type} {a b:List α} {i:Nat} {x y:α} (hx:a[i]?=some x) (hy:b[i]?=some y) (h:a.take i=b.take i) (e:x=y):a.take (i+1)=b.take (i+1):=by
 rw[Uw,Uw,h,hx,hy,e]
theorem sP {α:Type} {a b:List α} {i:Nat} (ha:a.length≤i) (hb:b.length≤i) (h:a.take i=b.take i):a=b:=by
 rwa [Uo ha,Uo hb] at h
theorem vY {α:Type} {a b:List α} {i:Nat} {x y:α} (hx:a[i]?=some x) (hy:b[i]?=some y) (e:x≠y):a≠b:=by
 rintro rfl; rw[hx] at hy; exact e (by simpa using hy)
theorem so {α:Type} {a b:List α} (h:¬ a.length=b.length):a≠b:=fun e=>h (by rw[e])
theorem Ab (x y:Term):gh Tryz.prog 9998 #[.string x.name,.int .i64 x.level,.int .i64 x.assoc] #[.string y.name,.int .i64 y.level,.int .i64 y.assoc]
  [{ name:= "Name",type:=9,offset:=0,embedded:=false,tag:= "",pkgPath:= "",byteOffset:=0 },{ name:= "Level",type:=3,offset:=1,embedded:=false,tag:= "",pkgPath:= "",byteOffset:=16 },
   { name:= "Assoc",type:=3,offset:=2,embedded:=false,tag:= "",pkgPath:= "",byteOffset:=24 }] (x.name == y.name && (x.level == y.level && (x.assoc == y.assoc && true))) :=
 .str _ _ _ _ _ (by decide) Tryz.underlying9 rfl rfl (.int _ _ _ _ _ _ (by decide) Tryz.underlying3 rfl rfl (.int _ _ _ _ _ _ (by decide) Tryz.underlying3 rfl rfl .nil))
theorem J8 (x y:Term):(x.name == y.name && (x.level == y.level && (x.assoc == y.assoc && true)))=decide (x=y):=by
 rw[bytes_beq,Vc]
 cases x; cases y
 simp
theorem Rc (a b:Int):(a == b)=decide (a=b):=by rw[Vc]; simp
theorem O2 (x y:aW):decide (x=y)=(decide (x.left=y.left) && (decide (x.prec=y.prec) && decide (x.right=y.right))):=by
 cases x; cases y
 rw[Vc]
 simp[and_comm]
theorem Gj (x y:aw):decide (x=y)=(decide (x.az=y.az) && (decide (x.ax=y.ax) && (decide (x.rules=y.rules) && decide (x.start=y.start)))):=by
 cases x; cases y
 rw[Vc]
 simp
theorem Ek (g k:aw):∀ v∈[V.agg (au g),V.agg (au k)],Tree v:=by
 intro v hv; simp at hv
 rcases hv with rfl | rfl <;> exact cT _ (dR _)
def nT:SC :=
 .seq (.seq (ao [aj 42 5,aD 43 0 2,ay 44 43,aV 45 44,bg 46 .lss 42 45]) <|
 .cond (.tmp 46) (.skip) (.exit 0)) <|
 .seq (.block 1 (.seq (ao [aD 49 0 2,ay 50 49,aj 51 5,aR 52 3 50 51,bp 53 3 52,aD 54 0 3,ay 55 54,aj 56 5,aR 57 3 55 56,bp 58 3 57,((some 59),.op (.old (.binOp .neq 129 (.tmp 53) (.tmp 58) 129) 4))]) <|
 .cond (.tmp 59) (.seq (ao [bH 4 false]) <|
 .ret) (.skip))) <|
 ao [aj 47 5,aQ 48 .add 47 1,aj 5 48]
def oy:SC :=
 .seq (.seq (ao [aj 60 6,aD 61 1 2,ay 62 61,aV 63 62,bg 64 .lss 60 63]) <|
 .cond (.tmp 64) (.skip) (.exit 2)) <|
 .seq (.block 3 (.seq (ao [aD 67 1 2,ay 68 67,aj 69 6,aR 70 1 68 69,ay 71 70,aD 72 1 3,ay 73 72,aj 74 6,aR 75 1 73 74,ay 76 75,((some 77),.op (.xk .neq (.tmp 71) (.tmp 76)))]) <|
 .cond (.tmp 77) (.seq (ao [bH 4 false]) <|
 .ret) (.skip))) <|
 ao [aj 65 6,aQ 66 .add 65 1,aj 6 66]
def oF:SC :=
 .seq (.seq (ao [aj 78 7,aD 79 2 2,ay 80 79,aV 81 80,bg 82 .lss 78 81]) <|
 .cond (.tmp 82) (.skip) (.exit 4)) <|
 .seq (.block 5 (.seq (ao [aD 85 2 2,ay 86 85,aj 87 7,aR 88 3 86 87,bp 89 3 88,aD 90 2 3,ay 91 90,aj 92 7,aR 93 3 91 92,bp 94 3 93,((some 8),.op (.alloc [(.val (.int .i64 0)),(.emp 1),(.val (.int .i64 0))])),((some 9),.op (.alloc [(.val (.int .i64 0)),(.emp 1),(.val (.int .i64 0))])),(none,.op (.store 3 (.tmp 8) (.tmp 89))),(none,.op (.store 3 (.tmp 9) (.tmp 94)))]) <|
 .seq (.region false [⟨none,[aD 95 0 8,ay 96 95,aD 97 0 9,ay 98 97,bg 99 .neq 96 98,aj 100 99]⟩,⟨(some (100,false)),[aD 101 2 8,ay 102 101,aD 103 2 9,ay 104 103,bg 105 .neq 102 104]⟩,⟨none,[cU 106 100 105,aj 107 106]⟩,⟨(some (107,false)),[aD 108 1 8,ay 109 108,aD 110 1 9,ay 111 110,bD 112 37 [109,111],dp 113 112]⟩,⟨none,[cU 114 107 113]⟩]) <|
 .cond (.tmp 114) (.seq (ao [bH 4 false]) <|
 .ret) (.skip))) <|
 ao [aj 83 7,aQ 84 .add 83 1,aj 7 84]
def qk:SF:=⟨.seq (ao [cO 2 0,cO 3 1,bH 4 false]) <|
 .seq (.seq (.region false [⟨none,[aD 10 0 2,ay 11 10,aV 12 11,aD 13 0 3,ay 14 13,aV 15 14,bg 16 .neq 12 15,aj 17 16]⟩,⟨(some (17,false)),[aD 18 1 2,ay 19 18,aV 20 19,aD 21 1 3,ay 22 21,aV 23 22,bg 24 .neq 20 23]⟩,⟨none,[cU 25 17 24,aj 26 25]⟩,⟨(some (26,false)),[aD 27 2 2,ay 28 27,aV 29 28,aD 30 2 3,ay 31 30,aV 32 31,bg 33 .neq 29 32]⟩,⟨none,[cU 34 26 33,aj 35 34]⟩,⟨(some (35,false)),[aD 36 3 2,ay 37 36,aD 38 3 3,ay 39 38,bg 40 .neq 37 39]⟩,⟨none,[cU 41 35 40]⟩]) <|
 .cond (.tmp 41) (.seq (ao [bH 4 false]) <|
 .ret) (.skip)) <|
 .seq (.seq (ao [bj 5 0]) <|
 .block 0 (.loop nT)) <|
 .seq (.seq (ao [bj 6 0]) <|
 .block 2 (.loop oy)) <|
 .seq (.seq (ao [bj 7 0]) <|
 .block 4 (.loop oF)) <|
 .seq (ao [bH 4 true]) <|
 .ret,
 [.tmp 4],115⟩
theorem uK:aU Tryz.prog 36 [2,3]=some qk:=by kernel_rfl
set_option maxHeartbeats 2000000 in
theorem Mk (g k:aw) (hg:g.Ok):aG Tryz.prog 36 [.agg (au g),.agg (au k)] (gb (decide (g=k))):=by
 refine aG.val (Ek g k) fun H=>?_
 rw[Gj]
 refine aC.of mixed uK ?_
 have h1:=hg.az
 have h2:=hg.ax
 have h3:=hg.rules
 unfold aY at h1 h2 h3
 simp (disch:=omega) only [↓wr,seval,wq,ah,ag,ak,aa,ab,af,ai,ae,qk,au,encS]
 repeat' (first | (refine av.dec (fun _=>?_) (fun _=>?_)) | (refine av.eq (fun _=>?_) (fun _=>?_)) | (refine av.ne (fun _=>?_) (fun _=>?_)) | (refine av.split (fun _=>?_) (fun _=>?_)) | (simp (disch:=omega) only [↓wr,seval,wq,ah,ag,ak,aa,ab,af,ai,ae,au,encS]))
 ·rename_i e; rw[decide_eq_false (so (by omega))]; rfl
 ·rename_i e; rw[decide_eq_false (p:=g.ax=k.ax) (so (by omega))]; simp
 ·rename_i e; rw[decide_eq_false (p:=g.rules=k.rules) (so (by omega))]; simp
 ·rename_i e; rw[decide_eq_false e]; simp
 rename_i l1 l2 l3 l4
 refine bc.up g.az.length (fun i T _=>g.az.take i=k.az.take i∧T 2=.aO (au g) 0∧T 3=.aO (au k) 0∧T 5=gi i) ⟨by simp,rfl,rfl,rfl⟩ ?_
 rintro i m T H hm ⟨hi,t2,t3,t5⟩
 simp (disch:=omega) only [↓wr,seval,wq,ah,ag,ak,aa,ab,af,ai,ae,nT,t2,t3,t5,au,encS]
 refine av.dec (fun hc=>?_) (fun hc=>?_)
 ·have hx:=T4 (l:=g.az) (i:=i) (by omega)
  have hy:=T4 (l:=k.az) (i:=i) (by omega)
  generalize g.az[i]'(by omega)=x at hx
  generalize k.az[i]'(by omega)=y at hy
  simp (disch:=omega) only [↓wr,seval,wq,ah,ag,ak,aa,ab,af,ai,ae,t2,t3,t5,T8,hx,hy,cg,au,encS]
  refine jT (xs:=#[.string x.name,.int .i64 x.level,.int .i64 x.assoc]) (ys:=#[.string y.name,.int .i64 y.level,.int .i64 y.assoc]) Tryz.underlying129 (by kernel_rfl) (by kernel_rfl) ?_ ?_ (Ab x y) (.inr ⟨rfl,rfl⟩) ?_
  ·rfl
  ·rfl
  rw[J8]
  simp (disch:=omega) only [↓wr,seval,wq,ah,ag,ak,aa,ab,af,ai,ae,t2,t3,t5]
  refine av.split (fun e=>?_) (fun e=>?_)
  ·simp (disch:=omega) only [↓wr,seval,wq,ah,ag,ak,aa,ab,af,ai,ae,t2,t3,t5]
   exact aN hm (by omega) ⟨pw hx hy hi (by simpa using e),t2,t3,rfl⟩
  ·simp (disch:=omega) only [↓wr,seval,wq,ah,ag,ak,aa,ab,af,ai,ae,t2,t3,t5]
   rw[decide_eq_false (vY hx hy (by simpa using e))]; rfl
 have e1:g.az=k.az:=sP (by omega) (by omega) hi
 simp (disch:=omega) only [↓wr,seval,wq,ah,ag,ak,aa,ab,af,ai,ae,t2,t3,t5]
 clear hi hc hm
 refine bc.up g.ax.length (fun i T _=>g.ax.take i=k.ax.take i∧T 2=.aO (au g) 0∧T 3=.aO (au k) 0∧T 6=gi i) ⟨by simp,t2,t3,rfl⟩ ?_
 clear t2 t3 t5 T H i m
 rintro i m T H hm ⟨hi,t2,t3,t5⟩
 simp (disch:=omega) only [↓wr,seval,wq,ah,ag,ak,aa,ab,af,ai,ae,oy,t2,t3,t5,au,encS]
 refine av.dec (fun hc=>?_) (fun hc=>?_)
 ·have hx:=T4 (l:=g.ax) (i:=i) (by omega)
  have hy:=T4 (l:=k.ax) (i:=i) (by omega)
  generalize g.ax[i]'(by omega)=x at hx
  generalize k.ax[i]'(by omega)=y at hy
  simp (disch:=omega) only [↓wr,seval,wq,ah,ag,ak,aa,ab,af,ai,ae,t2,t3,t5,T8,hx,hy,cg,au,encS,DG]
  refine av.split (fun e=>?_) (fun e=>?_)
  ·simp (disch:=omega) only [↓wr,seval,wq,ah,ag,ak,aa,ab,af,ai,ae,t2,t3,t5]
   exact aN hm (by omega) ⟨pw hx hy hi (by simpa using e),t2,t3,rfl⟩
  ·simp (disch:=omega) only [↓wr,seval,wq,ah,ag,ak,aa,ab,af,ai,ae,t2,t3,t5]
   rw[decide_eq_false (p:=g.ax=k.ax) (vY hx hy (by simpa using e))]; simp
 have e2:g.ax=k.ax:=sP (by omega) (by omega) hi
 simp (disch:=omega) only [↓wr,seval,wq,ah,ag,ak,aa,ab,af,ai,ae,t2,t3,t5]
 clear hi hc hm
 refine bc.up g.rules.length (fun i T _=>g.rules.take i=k.rules.take i∧T 2=.aO (au g) 0∧T 3=.aO (au k) 0∧T 7=gi i) ⟨by simp,t2,t3,rfl⟩ ?_
 clear t2 t3 t5 T H i m
 rintro i m T H hm ⟨hi,t2,t3,t5⟩
 simp (disch:=omega) only [↓wr,seval,wq,ah,ag,ak,aa,ab,af,ai,ae,oF,t2,t3,t5,au,encS]
 refine av.dec (fun hc=>?_) (fun hc=>?_)
 ·have hx:=T4 (l:=g.rules) (i:=i) (by omega)
  have hy:=T4 (l:=k.rules) (i:=i) (by omega)
  have hmx:g.rules[i]'(by omega)∈g.rules:=Ud _
  generalize g.rules[i]'(by omega)=x at hx hmx
  generalize k.rules[i]'(by omega)=y at hy
  have hsx:=(hg.aH x hmx).2.2.1
  simp (disch:=omega) only [↓wr,seval,wq,ah,ag,ak,aa,ab,af,ai,ae,t2,t3,t5,T8,hx,hy,aP,encI,au,encS]
  intro n hn
  try simp (disch:=omega) only [↓wr,seval,wq,ah,ag,ak,aa,ab,af,ai,ae,t2,t3,t5,aP,encI]
  intro n2 hn2
  have hmn:=(dq hn2 dc).1
  try simp (disch:=omega) only [↓wr,seval,wq,ah,ag,ak,aa,ab,af,ai,ae,t2,t3,t5,aP,encI,hmn,hmn.symm]
  have hne:x≠y→V.val (Value.bool false)=V.val (Value.bool (decide (g.az=k.az) && (decide (g.ax=k.ax) && (decide (g.rules=k.rules) && decide (g.start=k.start))))):=fun e=>by
   rw[decide_eq_false (p:=g.rules=k.rules) (vY hx hy e)]; simp
  repeat' (first | (refine av.dec (fun _=>?_) (fun _=>?_)) | (refine av.eq (fun _=>?_) (fun _=>?_)) | (refine av.ne (fun _=>?_) (fun _=>?_)) | (refine av.split (fun _=>?_) (fun _=>?_)) | (refine aE.pure (QI x.right y.right hsx) (by kernel_rfl) ?_) | (simp (disch:=omega) only [↓wr,seval,wq,ah,ag,ak,aa,ab,af,ai,ae,t2,t3,t5,aP,encI,hmn,hmn.symm]))
  ·rename_i e; exact hne fun h=>e (by rw[h])
  ·rename_i e; exact hne fun h=>e (by rw[h])
  ·rename_i e3 e2 e1
   refine aN hm (by omega) ⟨pw hx hy hi ?_,t2,t3,rfl⟩
   cases x; cases y
   simp_all
  ·rename_i e; exact hne fun h=>by rw[h] at e; simp at e
 ·have e3:g.rules=k.rules:=sP (by omega) (by omega) hi
  simp (disch:=omega) only [↓wr,seval,wq,ah,ag,ak,aa,ab,af,ai,ae,t2,t3,t5]
  simp[e1,e2,e3,l4]
def gn:SC :=
 .seq (ao [bg 14 .lss 13 12]) <|
 .seq (.cond (.tmp 14) (.skip) (.exit 0)) <|
 .seq (.block 1 (.seq (ao [aj 15 13,aj 5 15]) <|
 .seq (ao [aj 16 0,aj 17 5,aR 18 3 16 17,bp 19 3 18,aj 20 1,aj 21 5,aR 22 3 20 21,bp 23 3 22,((some 24),.op (.old (.binOp .neq 129 (.tmp 19) (.tmp 23) 129) 4))]) <|
 .cond (.tmp 24) (.seq (ao [bH 4 false]) <|
 .ret) (.skip))) <|
 ao [aQ 25 .add 13 1,aj 13 25]
def gN:SF:=⟨.seq (ao [bH 4 false]) <|
 .seq (.seq (ao [aj 6 0,aV 7 6,aj 8 1,aV 9 8,bg 10 .neq 7 9]) <|
 .cond (.tmp 10) (.seq (ao [bH 4 false]) <|
 .ret) (.skip)) <|
 .seq (.seq (ao [aj 11 0,aV 12 11,bj 13 0]) <|
 .block 0 (.loop gn)) <|
 .seq (ao [bH 4 true]) <|
 .ret,
 [.tmp 4],26⟩
theorem jU:aU Tryz.prog 162 []=some gN:=by kernel_rfl
def ia:SC :=
 .seq (ao [bg 14 .lss 13 12]) <|
 .seq (.cond (.tmp 14) (.skip) (.exit 0)) <|
 .seq (.block 1 (.seq (ao [aj 15 13,aj 5 15]) <|
 .seq (ao [aj 16 0,aj 17 5,aR 18 1 16 17,ay 19 18,aj 20 1,aj 21 5,aR 22 1 20 21,ay 23 22,((some 24),.op (.xk .neq (.tmp 19) (.tmp 23)))]) <|
 .cond (.tmp 24) (.seq (ao [bH 4 false]) <|
 .ret) (.skip))) <|
 ao [aQ 25 .add 13 1,aj 13 25]
def iD:SF:=⟨.seq (ao [bH 4 false]) <|
 .seq (.seq (ao [aj 6 0,aV 7 6,aj 8 1,aV 9 8,bg 10 .neq 7 9]) <|
 .cond (.tmp 10) (.seq (ao [bH 4 false]) <|
 .ret) (.skip)) <|
 .seq (.seq (ao [aj 11 0,aV 12 11,bj 13 0]) <|
 .block 0 (.loop ia)) <|
 .seq (ao [bH 4 true]) <|
 .ret,
 [.tmp 4],26⟩
theorem lC:aU Tryz.prog 163 []=some iD:=by kernel_rfl
def js:SC :=
 .seq (ao [bg 14 .lss 13 12]) <|
 .seq (.cond (.tmp 14) (.skip) (.exit 0)) <|
 .seq (.block 1 (.seq (ao [aj 15 13,aj 5 15]) <|
 .seq (ao [aj 16 0,aj 17 5,aR 18 1 16 17,ay 19 18,aj 20 1,aj 21 5,aR 22 1 20 21,ay 23 22,bg 24 .neq 19 23]) <|
 .cond (.tmp 24) (.seq (ao [bH 4 false]) <|
 .ret) (.skip))) <|
 ao [aQ 25 .add 13 1,aj 13 25]
def j9:SF:=⟨.seq (ao [bH 4 false]) <|
 .seq (.seq (ao [aj 6 0,aV 7 6,aj 8 1,aV 9 8,bg 10 .neq 7 9]) <|
 .cond (.tmp 10) (.seq (ao [bH 4 false]) <|
 .ret) (.skip)) <|
 .seq (.seq (ao [aj 11 0,aV 12 11,bj 13 0]) <|
 .block 0 (.loop js)) <|
 .seq (ao [bH 4 true]) <|
 .ret,
 [.tmp 4],26⟩
theorem pI:aU Tryz.prog 198 []=some j9:=by kernel_rfl
def z8:SF:=⟨.seq (ao [cO 2 0,cO 3 1,bH 4 false]) <|
 .seq (.region false [⟨none,[aD 5 0 2,ay 6 5,aD 7 0 3,ay 8 7,bg 9 .eql 6 8,aj 10 9]⟩,⟨(some (10,true)),[aD 11 2 2,ay 12 11,aD 13 2 3,ay 14 13,bg 15 .eql 12 14]⟩,⟨none,[eS 16 10 15,aj 17 16]⟩,⟨(some (17,true)),[aD 18 1 2,ay 19 18,aD 20 1 3,ay 21 20,bD 22 198 [19,21]]⟩,⟨none,[eS 23 17 22,aj 4 23]⟩]) <|
 .ret,
 [.tmp 4],24⟩
theorem CS:aU Tryz.prog 165 [2,3]=some z8:=by kernel_rfl
def dA:SC :=
 .seq (ao [bg 18 .lss 17 16]) <|
 .seq (.cond (.tmp 18) (.skip) (.exit 0)) <|
 .seq (.block 1 (.seq (ao [aj 19 17,aR 20 3 15 17,bp 21 3 20,((some 8),.op (.alloc [(.val (.int .i64 0)),(.emp 1),(.val (.int .i64 0))])),aj 7 19,(none,.op (.store 3 (.tmp 8) (.tmp 21)))]) <|
 .seq (ao [aj 22 1,aj 23 7,aR 24 3 22 23,bp 25 3 24,((some 9),.op (.alloc [(.val (.int .i64 0)),(.emp 1),(.val (.int .i64 0))])),(none,.op (.store 3 (.tmp 9) (.tmp 25)))]) <|
 .seq (ao [aj 26 2,bp 27 3 8,bp 28 3 9,((some 29),.call (.tmp 26) [(.tmp 27),(.tmp 28)]),dp 30 29]) <|
 .cond (.tmp 30) (.seq (ao [bH 6 false]) <|
 .ret) (.skip))) <|
 ao [aQ 31 .add 17 1,aj 17 31]
def dE:SF:=⟨.seq (ao [bH 6 false]) <|
 .seq (.seq (ao [aj 10 0,aV 11 10,aj 12 1,aV 13 12,bg 14 .neq 11 13]) <|
 .cond (.tmp 14) (.seq (ao [bH 6 false]) <|
 .ret) (.skip)) <|
 .seq (.seq (ao [aj 15 0,aV 16 15,bj 17 0]) <|
 .block 0 (.loop dA)) <|
 .seq (ao [bH 6 true]) <|
 .ret,
 [.tmp 6],32⟩
theorem fo:aU Tryz.prog 164 []=some dE:=by kernel_rfl
def CD:SF:=⟨.seq (ao [cO 2 0,cO 3 1,bH 4 false]) <|
 .seq (.region false [⟨none,[aD 5 0 2,ay 6 5,aD 7 0 3,ay 8 7,bD 9 162 [6,8],aj 10 9]⟩,⟨(some (10,true)),[aD 11 1 2,ay 12 11,aD 13 1 3,ay 14 13,bD 15 163 [12,14]]⟩,⟨none,[eS 16 10 15,aj 17 16]⟩,⟨(some (17,true)),[aD 18 2 2,ay 19 18,aD 20 2 3,ay 21 20,pc 22 164 [(.tmp 19),(.tmp 21),(.val (.fn 165 [] []))]]⟩,⟨none,[eS 23 17 22,aj 24 23]⟩,⟨(some (24,true)),[aD 25 3 2,ay 26 25,aD 27 3 3,ay 28 27,bg 29 .eql 26 28]⟩,⟨none,[eS 30 24 29,aj 4 30]⟩]) <|
 .ret,
 [.tmp 4],31⟩
theorem E9:aU Tryz.prog 110 [2,3]=some CD:=by kernel_rfl
theorem MB {α:Type} {f g:α→List V} {a b:List α} (hf:∀ x,∀ v∈f x,Tree v) (hg:∀ x,∀ v∈g x,Tree v):∀ v∈[V.aL (a.map f),V.aL (b.map g)],Tree v:=by
 intro v hv; simp at hv
 rcases hv with rfl | rfl
 ·exact fD _ _ fun x _=>hf x
 ·exact fD _ _ fun x _=>hg x
theorem MZ (a b:List Term) (ha:aY a) (H:View):aC Tryz.prog 162 [.aL (a.map cg),.aL (b.map cg)] H fun r _=>r=gb (decide (a=b)):=by
 refine aC.of mixed jU ?_
 unfold aY at ha
 simp (disch:=omega) only [↓wr,seval,wq,ah,ag,ak,aa,ab,af,ai,ae,gN]
 refine av.ne (fun h=>?_) (fun h=>?_)
 ·simp (disch:=omega) only [↓wr,seval,wq,ah,ag,ak,aa,ab,af,ai,ae]
  rw[decide_eq_false (so (by omega))]
 ·simp (disch:=omega) only [↓wr,seval,wq,ah,ag,ak,aa,ab,af,ai,ae]
  refine bc.up a.length (fun i T _=>a.take i=b.take i∧T 0=.aL (a.map cg)∧T 1=.aL (b.map cg)∧T 12=gi a.length∧T 13=gi i) ⟨by simp,rfl,rfl,rfl,rfl⟩ ?_
  rintro i k T H hk ⟨hi,h0,h1,h7,h8⟩
  simp (disch:=omega) only [↓wr,seval,wq,ah,ag,ak,aa,ab,af,ai,ae,gn,h0,h1,h7,h8]
  refine av.dec (fun hc=>?_) (fun hc=>?_)
  ·have h2:a[i]?=some (a[i]'(by omega)):=T4 (by omega)
   have h3:b[i]?=some (b[i]'(by omega)):=T4 (by omega)
   generalize a[i]'(by omega)=x at h2
   generalize b[i]'(by omega)=y at h3
   simp (disch:=omega) only [↓wr,seval,wq,ah,ag,ak,aa,ab,af,ai,ae,h0,h1,h7,h8,T8,h2,h3,cg]
   refine jT (xs:=#[.string x.name,.int .i64 x.level,.int .i64 x.assoc]) (ys:=#[.string y.name,.int .i64 y.level,.int .i64 y.assoc]) Tryz.underlying129 (by kernel_rfl) (by kernel_rfl) ?_ ?_ (Ab x y) (.inr ⟨rfl,rfl⟩) ?_
   ·rfl
   ·rfl
   rw[J8]
   simp (disch:=omega) only [↓wr,seval,wq,ah,ag,ak,aa,ab,af,ai,ae,h0,h1,h7,h8]
   refine av.split (fun e=>?_) (fun e=>?_)
   ·simp (disch:=omega) only [↓wr,seval,wq,ah,ag,ak,aa,ab,af,ai,ae,h0,h1,h7,h8]
    exact aN hk (by omega) ⟨pw h2 h3 hi (by simpa using e),h0,h1,h7,rfl⟩
   ·simp (disch:=omega) only [↓wr,seval,wq,ah,ag,ak,aa,ab,af,ai,ae,h0,h1,h7,h8]
    rw[decide_eq_false (vY h2 h3 (by simpa using e))]
  ·simp (disch:=omega) only [↓wr,seval,wq,ah,ag,ak,aa,ab,af,ai,ae,h0,h1,h7,h8]
   rw[decide_eq_true (sP (by omega) (by omega) hi)]
theorem Nl (a b:List ByteArray) (ha:aY a) (H:View):aC Tryz.prog 163 [encS a,encS b] H fun r _=>r=gb (decide (a=b)):=by
 refine aC.of mixed lC ?_
 unfold aY at ha
 simp (disch:=omega) only [↓wr,seval,wq,ah,ag,ak,aa,ab,af,ai,ae,iD,encS]
 refine av.ne (fun h=>?_) (fun h=>?_)
 ·simp (disch:=omega) only [↓wr,seval,wq,ah,ag,ak,aa,ab,af,ai,ae]
  rw[decide_eq_false (so (by omega))]
 ·simp (disch:=omega) only [↓wr,seval,wq,ah,ag,ak,aa,ab,af,ai,ae]
  refine bc.up a.length (fun i T _=>a.take i=b.take i∧T 0=encS a∧T 1=encS b∧T 12=gi a.length∧T 13=gi i) ⟨by simp,rfl,rfl,rfl,rfl⟩ ?_
  rintro i k T H hk ⟨hi,h0,h1,h7,h8⟩
  simp (disch:=omega) only [↓wr,seval,wq,ah,ag,ak,aa,ab,af,ai,ae,ia,h0,h1,h7,h8,encS]
  refine av.dec (fun hc=>?_) (fun hc=>?_)
  ·have h2:a[i]?=some (a[i]'(by omega)):=T4 (by omega)
   have h3:b[i]?=some (b[i]'(by omega)):=T4 (by omega)
   generalize a[i]'(by omega)=x at h2
   generalize b[i]'(by omega)=y at h3
   simp (disch:=omega) only [↓wr,seval,wq,ah,ag,ak,aa,ab,af,ai,ae,h0,h1,h7,h8,encS,T8,h2,h3,DG]
   refine av.split (fun e=>?_) (fun e=>?_)
   ·simp (disch:=omega) only [↓wr,seval,wq,ah,ag,ak,aa,ab,af,ai,ae,h0,h1,h7,h8]
    exact aN hk (by omega) ⟨pw h2 h3 hi (by simpa using e),h0,h1,h7,rfl⟩
   ·simp (disch:=omega) only [↓wr,seval,wq,ah,ag,ak,aa,ab,af,ai,ae,h0,h1,h7,h8]
    rw[decide_eq_false (vY h2 h3 (by simpa using e))]
  ·simp (disch:=omega) only [↓wr,seval,wq,ah,ag,ak,aa,ab,af,ai,ae,h0,h1,h7,h8]
   rw[decide_eq_true (sP (by omega) (by omega) hi)]
theorem LQ (a b:List Int) (ha:aY a) (H:View):aC Tryz.prog 198 [encI a,encI b] H fun r _=>r=gb (decide (a=b)):=by
 refine aC.of mixed pI ?_
 unfold aY at ha
 simp (disch:=omega) only [↓wr,seval,wq,ah,ag,ak,aa,ab,af,ai,ae,j9,encI]
 refine av.ne (fun h=>?_) (fun h=>?_)
 ·simp (disch:=omega) only [↓wr,seval,wq,ah,ag,ak,aa,ab,af,ai,ae]
  rw[decide_eq_false (so (by omega))]
 ·simp (disch:=omega) only [↓wr,seval,wq,ah,ag,ak,aa,ab,af,ai,ae]
  refine bc.up a.length (fun i T _=>a.take i=b.take i∧T 0=encI a∧T 1=encI b∧T 12=gi a.length∧T 13=gi i) ⟨by simp,rfl,rfl,rfl,rfl⟩ ?_
  rintro i k T H hk ⟨hi,h0,h1,h7,h8⟩
  simp (disch:=omega) only [↓wr,seval,wq,ah,ag,ak,aa,ab,af,ai,ae,js,h0,h1,h7,h8,encI]
  refine av.dec (fun hc=>?_) (fun hc=>?_)
  ·have h2:a[i]?=some (a[i]'(by omega)):=T4 (by omega)
   have h3:b[i]?=some (b[i]'(by omega)):=T4 (by omega)
   generalize a[i]'(by omega)=x at h2
   generalize b[i]'(by omega)=y at h3
   simp (disch:=omega) only [↓wr,seval,wq,ah,ag,ak,aa,ab,af,ai,ae,h0,h1,h7,h8,encI,T8,h2,h3]
   refine av.ne (fun e=>?_) (fun e=>?_)
   ·simp (disch:=omega) only [↓wr,seval,wq,ah,ag,ak,aa,ab,af,ai,ae,h0,h1,h7,h8]
    rw[decide_eq_false (vY h2 h3 e)]
   ·simp (disch:=omega) only [↓wr,seval,wq,ah,ag,ak,aa,ab,af,ai,ae,h0,h1,h7,h8]
    exact aN hk (by omega) ⟨pw h2 h3 hi e,h0,h1,h7,rfl⟩
  ·simp (disch:=omega) only [↓wr,seval,wq,ah,ag,ak,aa,ab,af,ai,ae,h0,h1,h7,h8]
   rw[decide_eq_true (sP (by omega) (by omega) hi)]
theorem LK (a b:List Term) (ha:aY a):aG Tryz.prog 162 [.aL (a.map cg),.aL (b.map cg)] (gb (decide (a=b))):=aG.val (MB sZ sZ) (MZ a b ha)
theorem N5 (a b:List ByteArray) (ha:aY a):aG Tryz.prog 163 [encS a,encS b] (gb (decide (a=b))):=aG.val (by
 intro v hv; simp at hv
 rcases hv with rfl | rfl <;> exact yg _) (Nl a b ha)
theorem Nv (a b:List Int) (ha:aY a):aG Tryz.prog 198 [encI a,encI b] (gb (decide (a=b))):=aG.val (by
 intro v hv; simp at hv
 rcases hv with rfl | rfl <;> exact fM _) (LQ a b ha)
theorem Pr (x y:aW) (hx:aY x.right):aG Tryz.prog 165 [.agg (aP x),.agg (aP y)] (gb (decide (x=y))):=by
 refine aG.val (by
  intro v hv; simp at hv
  rcases hv with rfl | rfl <;> exact cT _ (gB _)) fun H=>?_
 rw[O2]
 refine aC.of mixed CS ?_
 simp (disch:=omega) only [↓wr,seval,wq,ah,ag,ak,aa,ab,af,ai,ae,z8,aP,encI]
 repeat' (first | (refine av.dec (fun _=>?_) (fun _=>?_)) | (refine av.eq (fun _=>?_) (fun _=>?_)) | (refine av.ne (fun _=>?_) (fun _=>?_)) | (refine av.split (fun _=>?_) (fun _=>?_)) | (refine aE.pure (Nv x.right y.right hx) (by kernel_rfl) ?_) | (simp (disch:=omega) only [↓wr,seval,wq,ah,ag,ak,aa,ab,af,ai,ae,aP]))
 all_goals simp[*]
theorem G5 (a b:List aW) (ha:aY a) (hr:∀ r∈a,aY r.right) (H:View):aC Tryz.prog 164 [.aL (a.map aP),.aL (b.map aP),.fn 165 [] []] H fun r _=>r=gb (decide (a=b)):=by
 refine aC.of mixed fo ?_
 unfold aY at ha
 simp (disch:=omega) only [↓wr,seval,wq,ah,ag,ak,aa,ab,af,ai,ae,dE]
 refine av.ne (fun h=>?_) (fun h=>?_)
 ·simp (disch:=omega) only [↓wr,seval,wq,ah,ag,ak,aa,ab,af,ai,ae]
  rw[decide_eq_false (so (by omega))]
 ·simp (disch:=omega) only [↓wr,seval,wq,ah,ag,ak,aa,ab,af,ai,ae]
  refine bc.up a.length (fun i T _=>a.take i=b.take i∧T 15=.aL (a.map aP)∧T 1=.aL (b.map aP)∧T 2=.fn 165 [] []∧T 16=gi a.length∧T 17=gi i) ⟨by simp,rfl,rfl,rfl,rfl,rfl⟩ ?_
  rintro i k T H hk ⟨hi,h0,h1,h6,h7,h8⟩
  simp (disch:=omega) only [↓wr,seval,wq,ah,ag,ak,aa,ab,af,ai,ae,dA,h0,h1,h6,h7,h8]
  refine av.dec (fun hc=>?_) (fun hc=>?_)
  ·have h2:a[i]?=some (a[i]'(by omega)):=T4 (by omega)
   have h3:b[i]?=some (b[i]'(by omega)):=T4 (by omega)
   have hm:a[i]'(by omega)∈a:=Ud _
   generalize a[i]'(by omega)=x at h2 hm
   generalize b[i]'(by omega)=y at h3
   have hsx:=hr x hm
   simp (disch:=omega) only [↓wr,seval,wq,ah,ag,ak,aa,ab,af,ai,ae,h0,h1,h6,h7,h8,T8,h2,h3,aP,encI]
   intro n hn
   try simp (disch:=omega) only [↓wr,seval,wq,ah,ag,ak,aa,ab,af,ai,ae,h0,h1,h6,h7,h8,T8,h2,h3,aP,encI]
   intro m hmd
   have hmn:=(dq hmd dc).1
   try simp (disch:=omega) only [↓wr,seval,wq,ah,ag,ak,aa,ab,af,ai,ae,h0,h1,h6,h7,h8,T8,h2,h3,aP,encI,hmn,hmn.symm]
   refine aE.pure (Pr x y hsx) (by kernel_rfl) ?_
   simp (disch:=omega) only [↓wr,seval,wq,ah,ag,ak,aa,ab,af,ai,ae,h0,h1,h6,h7,h8]
   refine av.split (fun e=>?_) (fun e=>?_)
   ·simp (disch:=omega) only [↓wr,seval,wq,ah,ag,ak,aa,ab,af,ai,ae,h0,h1,h6,h7,h8]
    exact aN hk (by omega) ⟨pw h2 h3 hi (by simpa using e),h0,h1,h6,h7,rfl⟩
   ·simp (disch:=omega) only [↓wr,seval,wq,ah,ag,ak,aa,ab,af,ai,ae,h0,h1,h6,h7,h8]
    rw[decide_eq_false (vY h2 h3 (by simpa using e))]
  ·simp (disch:=omega) only [↓wr,seval,wq,ah,ag,ak,aa,ab,af,ai,ae,h0,h1,h6,h7,h8]
   rw[decide_eq_true (sP (by omega) (by omega) hi)]
theorem GD (a b:List aW) (ha:aY a) (hr:∀ r∈a,aY r.right):aG Tryz.prog 164 [.aL (a.map aP),.aL (b.map aP),.fn 165 [] []] (gb (decide (a=b))):=aG.val (by
 intro v hv; simp at hv
 rcases hv with rfl | rfl | rfl
 ·exact fD _ _ fun x _=>gB x
 ·exact fD _ _ fun x _=>gB x
 ·exact CU (by simp) (by simp)) (G5 a b ha hr)
theorem PQ (g k:aw) (hg:g.Ok):aG Tryz.prog 110 [.agg (au g),.agg (au k)] (gb (decide (g=k))):=by
 refine aG.val (Ek g k) fun H=>?_
 rw[Gj]
 refine aC.of mixed E9 ?_
 simp (disch:=omega) only [↓wr,seval,wq,ah,ag,ak,aa,ab,af,ai,ae,CD,au,encS]
 repeat' (first | (refine av.dec (fun _=>?_) (fun _=>?_)) | (refine av.eq (fun _=>?_) (fun _=>?_)) | (refine av.ne (fun _=>?_) (fun _=>?_)) | (refine av.split (fun _=>?_) (fun _=>?_)) | (refine aE.pure (LK g.az k.az hg.az) (by kernel_rfl) ?_) | (refine aE.pure (N5 g.ax k.ax hg.ax) (by kernel_rfl) ?_) | (refine aE.pure (GD g.rules k.rules hg.rules (fun r hr=>(hg.aH r hr).2.2.1)) (by kernel_rfl) ?_) | (simp (disch:=omega) only [↓wr,seval,wq,ah,ag,ak,aa,ab,af,ai,ae,au,encS]))
 all_goals simp_all [Rc]
def EP:SF:=⟨.seq (ao [cO 1 0,bH 2 false]) <|
 .seq (ao [bp 7 4 1,bD 8 109 [7],aj 6 8,gP 9 0 6,gP 10 1 6,gP 11 2 6,((some 3),.op (.alloc [(.emp 1),(.emp 1),(.emp 1),(.val (.int .i64 0))])),(none,.op (.store 4 (.tmp 3) (.tmp 9))),aj 4 10,aj 5 11]) <|
 .seq (.region false [⟨none,[aj 12 5,aQ 13 .eql 12 0,aj 14 13]⟩,⟨(some (14,true)),[bp 15 4 1,bp 16 4 3,bD 17 110 [15,16]]⟩,⟨none,[eS 18 14 17,aj 2 18]⟩]) <|
 .ret,
 [.tmp 2],19⟩
theorem Gg:aU Tryz.prog 61 [1]=some EP:=by kernel_rfl
def sg:SF:=⟨.seq (ao [cO 1 0,bH 2 false]) <|
 .seq (ao [bp 7 4 1,bD 8 70 [7],aj 6 8,gP 9 0 6,gP 10 1 6,gP 11 2 6,((some 3),.op (.alloc [(.emp 1),(.emp 1),(.emp 1),(.val (.int .i64 0))])),(none,.op (.store 4 (.tmp 3) (.tmp 9))),aj 4 10,aj 5 11]) <|
 .seq (.region false [⟨none,[aj 12 5,aQ 13 .eql 12 0,aj 14 13]⟩,⟨(some (14,true)),[bp 15 4 1,bp 16 4 3,bD 17 36 [15,16]]⟩,⟨none,[eS 18 14 17,aj 2 18]⟩]) <|
 .ret,
 [.tmp 2],19⟩
theorem xp:aU Tryz.prog 30 [1]=some sg:=by kernel_rfl
theorem L2 (g:aw) (hg:g.Ok) (hs:g.Small):aG Tryz.prog 61 [.agg (au g)] (gb (isRed g)):=by
 refine aG.val (ef g) fun H=>?_
 refine aC.of mixed Gg ?_
 simp (disch:=omega) only [↓wr,seval,wq,ah,ag,ak,aa,ab,af,ai,ae,EP,au,encS]
 refine aE.pure (Kz g hg hs).pure (by kernel_rfl) ?_
 unfold isRed
 generalize fy g=x
 obtain ⟨k,il,e⟩:=x
 simp (disch:=omega) only [↓wr,seval,wq,ah,ag,ak,aa,ab,af,ai,ae,vT,au,encS]
 intro n hn
 refine av.eq (fun h=>?_) (fun h=>?_)
 ·simp (disch:=omega) only [↓wr,seval,wq,ah,ag,ak,aa,ab,af,ai,ae,vT,au,encS]
  refine aE.pure (PQ g k hg) (by kernel_rfl) ?_
  simp (disch:=omega) only [↓wr,seval,wq,ah,ag,ak,aa,ab,af,ai,ae]
  simp[h]
 ·simp (disch:=omega) only [↓wr,seval,wq,ah,ag,ak,aa,ab,af,ai,ae]
  simp[h]
theorem L6 (g:aw) (hg:g.Ok):aG Tryz.prog 30 [.agg (au g)] (gb (isRed g)):=by
 refine aG.val (ef g) fun H=>?_
 refine aC.of mixed xp ?_
 simp (disch:=omega) only [↓wr,seval,wq,ah,ag,ak,aa,ab,af,ai,ae,sg,au,encS]
 refine aE.pure (Io g hg).pure (by kernel_rfl) ?_
 unfold isRed
 generalize fy g=x
 obtain ⟨k,il,e⟩:=x
 simp (disch:=omega) only [↓wr,seval,wq,ah,ag,ak,aa,ab,af,ai,ae,vT,au,encS]
 intro n hn
 refine av.eq (fun h=>?_) (fun h=>?_)
 ·simp (disch:=omega) only [↓wr,seval,wq,ah,ag,ak,aa,ab,af,ai,ae,vT,au,encS]
  refine aE.pure (Mk g k hg) (by kernel_rfl) ?_
  simp (disch:=omega) only [↓wr,seval,wq,ah,ag,ak,aa,ab,af,ai,ae]
  simp[h]
 ·simp (disch:=omega) only [↓wr,seval,wq,ah,ag,ak,aa,ab,af,ai,ae]
  simp[h]
def Sz:aw:=⟨[⟨⟨#[39,97,39]⟩,0,0⟩,⟨⟨#[39,98,39]⟩,0,0⟩,⟨⟨#[39,99,39]⟩,0,0⟩,⟨⟨#[39,100,39]⟩,0,0⟩],[⟨#[115]⟩,⟨#[117]⟩,⟨#[118]⟩],[⟨0,[0,(-2)],0⟩,⟨0,[1],1⟩,⟨0,[],(-1)⟩,⟨1,[(-2),2],2⟩,⟨2,[3,(-1)],3⟩],0⟩
def R6:aw:=⟨Sz.az,[⟨#[115]⟩],[⟨0,[1],1⟩,⟨0,[],(-1)⟩],0⟩
theorem oL:isRed R6=true:=by kernel_rfl
theorem er.fr {h:aJ} {v t:V} (f:er h v t):Fr h v t:=by
 induction f with
 | val v=>exact .tree _ (.val _)
 | emp k=>exact .emp k
 | sl id off len esz z es es' h1 h2 h3 h4 _ ih=>exact .sl id off len esz z es es' h1 h2 h3 h4 ih
 | agg cs cs' h1 _ ih=>exact .agg cs cs' h1 ih
 | bE cs cs' h1 _ ih=>exact .bE cs cs' h1 ih
def bN {κ:Type} (kv:κ→V) (m:bV κ):List (V × V × Nat):=m.map fun x=>(kv x.1,x.2.1,x.2.2)
structure G6 {κ:Type} [BEq κ] (P:Program) (kt:TypeId) (kv:κ→V):Prop where
 find:∀ k e m,mb P kt (kv k) e (bN kv m)=some (gF k m)
 same:∀ k,sameKey (kv k) (kv k)=true
def gv {κ:Type} (m:bV κ) (c:Nat):Prop:=(m.map (·.2.2)).Nodup∧∀ x∈m,x.2.2 < c
def jG {κ:Type} [BEq κ] (m:bV κ) (k:κ):Option Nat:=(m.find? fun x=>k == x.1).map (·.2.2)
section
variable {κ:Type} [BEq κ] [LawfulBEq κ] {kv:κ→V}
theorem mE (k:κ):∀ m:bV κ,match gF k m with
  | some i=>∃ x,m[i]?=some x∧x.1=k∧getM m k=some x.2.1∧jG m k=some x.2.2∧(bN kv m)[i]?=some (kv k,x.2.1,x.2.2)∧∀ v c,(bN kv m).set i (kv k,v,x.2.2)=bN kv (bJ k v c m)∧jG (bJ k v c m) k=some x.2.2∧(bJ k v c m).map (·.2.2)=m.map (·.2.2)
  | none=>getM m k=none∧jG m k=none∧∀ v c,bN kv m ++ [(kv k,v,c)]=bN kv (bJ k v c m)∧jG (bJ k v c m) k=some c∧(bJ k v c m).map (·.2.2)=m.map (·.2.2) ++ [c]
 | []=>⟨rfl,rfl,fun v c=>⟨rfl,by simp[bJ,jG],rfl⟩⟩
 | x :: r=>by
  have ih:=mE k r
  simp only[gF]
  cases hk:k == x.1 with
  | true =>
   have hx:x.1=k:=(eq_of_beq hk).symm
   exact ⟨x,rfl,hx,by simp[getM,hk],by simp[jG,hk],by simp[bN,hx],fun v c=>by simp[bJ,hk,bN,jG]⟩
  | false =>
   simp only[Ut,if_false]
   cases hi:gF k r with
   | some i =>
    rw[hi] at ih
    obtain ⟨y,h1,h2,h3,h4,h5,h6⟩:=ih
    refine ⟨y,by simpa using h1,h2,by simpa [getM,hk] using h3,by simpa [jG,hk] using h4,by simpa [bN] using h5,fun v c=>?_⟩
    obtain ⟨g1,g2,g3⟩:=h6 v c
    exact ⟨by simp only[bN] at g1 ⊢; simp[bJ,hk,g1],by simpa [bJ,hk,jG] using g2,by simp[bJ,hk,g3]⟩
   | none =>
    rw[hi] at ih
    refine ⟨by simpa [getM,hk] using ih.1,by simpa [jG,hk] using ih.2.1,fun v c=>?_⟩
    obtain ⟨g1,g2,g3⟩:=ih.2.2 v c
    exact ⟨by simp only[bN] at g1 ⊢; simp[bJ,hk,g1],by simpa [bJ,hk,jG] using g2,by simp[bJ,hk,g3]⟩
theorem gv.put {m:bV κ} {c:Nat} (h:gv m c) (k:κ) (v:V):gv (bJ k v c m) (c+1):=by
 have hg:=mE (kv:=fun _=>V.any) k m
 cases hj:gF k m with
 | some j =>
  rw[hj] at hg
  obtain ⟨y,_,_,_,_,_,h6⟩:=hg
  have e:=(h6 v c).2.2
  refine ⟨by rw[e]; exact h.1,fun x hx=>?_⟩
  have:x.2.2∈m.map (·.2.2):=by rw[← e]; exact Ur.2 ⟨x,hx,rfl⟩
  obtain ⟨y,hy,e2⟩:=Ur.1 this
  have:=h.2 y hy
  omega
 | none =>
  rw[hj] at hg
  have e:=(hg.2.2 v c).2.2
  refine ⟨?_,fun x hx=>?_⟩
  ·rw[e,UY]
   refine ⟨h.1,by simp,fun a ha b hb=>?_⟩
   simp at hb; subst hb
   obtain ⟨y,hy,rfl⟩:=Ur.1 ha
   have:=h.2 y hy
   omega
  ·have:x.2.2∈m.map (·.2.2) ++ [c]:=by rw[← e]; exact Ur.2 ⟨x,hx,rfl⟩
   rcases Uy.1 this with h1 | h1
   ·obtain ⟨y,hy,e2⟩:=Ur.1 h1
    have:=h.2 y hy
    omega
   ·simp at h1; omega
theorem gv.Po {m:bV κ} {c:Nat} (h:gv m c) {k:κ} {b:Nat} (hb:jG m k=some b) (v:V) (c':Nat):gv (bJ k v c' m) c:=by
 have hg:=mE (kv:=fun _=>V.any) k m
 cases hj:gF k m with
 | some j =>
  rw[hj] at hg
  obtain ⟨y,_,_,_,_,_,h6⟩:=hg
  have e:=(h6 v c').2.2
  refine ⟨by rw[e]; exact h.1,fun x hx=>?_⟩
  have:x.2.2∈m.map (·.2.2):=by rw[← e]; exact Ur.2 ⟨x,hx,rfl⟩
  obtain ⟨y,hy,e2⟩:=Ur.1 this
  have:=h.2 y hy
  omega
 | none =>
  rw[hj] at hg
  rw[hg.2.1] at hb; simp at hb
omit [BEq κ] [LawfulBEq κ] in
theorem find_born (b:Nat):∀ (m:bV κ) (i:Nat) (x:κ × V × Nat),(m.map (·.2.2)).Nodup→m[i]?=some x→x.2.2=b→(bN kv m).findIdx? (fun e=>e.2.2 == b)=some i
 | [],i,x,_,h,_=>by simp at h
 | y :: m,0,x,hn,h,e=>by
  simp at h; subst h
  simp[bN,List.findIdx?_cons,e]
 | y :: m,i+1,x,hn,h,e=>by
  simp only[Uz,U1] at hn
  have h:m[i]?=some x:=by simpa using h
  have hx:x∈m:=Ub h
  have hne:¬ y.2.2=b:=fun e2=>hn.1 (by rw[e2,← e]; exact Ur.2 ⟨x,hx,rfl⟩)
  have ih:=find_born b m i x hn.2 h e
  simp only[bN] at ih
  simp[bN,List.findIdx?_cons,hne,ih]
variable {P:Program} {T:Env} {H:View} {kt et t ty:TypeId}
theorem Fo {K:V→View→Prop} {w:cE (T,H,K)} {x i:Operand} {z:V} {id c:Nat} {m:bV κ} {k:κ} (hm:dz P t=some (kt,et)) (hz:zeroV P et=some z) (hk:G6 P kt kv)
  (hx:ev T x=.mp id) (hi:ev T i=kv k) (hH:H id=.map (bN kv m) c) (h:K ((getM m k).getD z) H):kb P (.lookup t x i false) ty T H K w:=by
 intro n _
 have hf:=hk.find k (bN kv m).isEmpty m
 have hg:=mE (kv:=kv) k m
 refine ⟨(getM m k).getD z,.none,[id],?_,h⟩
 simp only[sI,cm,oper,fE,hm,hz,hx,hi,hH,hf]
 cases hj:gF k m with
 | some j =>
  rw[hj] at hg
  obtain ⟨y,h1,h2,h3,h4,h5,_⟩:=hg
  simp[h5,h3]
 | none =>
  rw[hj] at hg
  simp[hg.1]
theorem Nh {z:V} {id c:Nat} {m:bV κ} {k:κ} (hm:dz P t=some (kt,et)) (hz:zeroV P et=some z) (hk:G6 P kt kv) (hH:H id=.map (bN kv m) c) (hb:gv m c) :
  ∃ b c',eh P t (.mp id) (kv k) H=some (.bE [(getM m k).getD z,ak b],.eW id (.map (bN kv (bJ k ((getM m k).getD z) c m)) c'),[id])∧gv (bJ k ((getM m k).getD z) c m) c'∧jG (bJ k ((getM m k).getD z) c m) k=some b:=by
 have hf:=hk.find k false m
 have hg:=mE (kv:=kv) k m
 cases hj:gF k m with
 | some j =>
  rw[hj] at hg hf
  obtain ⟨y,h1,h2,h3,h4,h5,h6⟩:=hg
  refine ⟨y.2.2,c,?_,?_,?_⟩
  ·simp only[eh,hm,hH,hf,h5,hk.same k,if_true,h3,Un]
   rw[(h6 y.2.1 c).1]
  ·exact hb.Po h4 _ _
  ·rw[h3]; exact (h6 _ c).2.1
 | none =>
  rw[hj] at hg hf
  refine ⟨c,c+1,?_,hb.put k _,?_⟩
  ·simp only[eh,hm,hH,hf,hz,hg.1,Option.getD_none]
   rw[(hg.2.2 z c).1]
  ·rw[hg.1]; exact (hg.2.2 _ c).2.1
theorem Rs {K:V→View→Prop} {w:cE (T,H,K)} {x i:Operand} {z:V} {id c:Nat} {m:bV κ} {k:κ} (hm:dz P t=some (kt,et)) (hz:zeroV P et=some z) (hk:G6 P kt kv)
  (hx:ev T x=.mp id) (hi:ev T i=kv k) (hH:H id=.map (bN kv m) c) (hb:gv m c)
  (h:∀ b c',gv (bJ k ((getM m k).getD z) c m) c'→jG (bJ k ((getM m k).getD z) c m) k=some b→K (.bE [(getM m k).getD z,ak b]) (H.set id (.map (bN kv (bJ k ((getM m k).getD z) c m)) c'))):kb P (.mapEntry t x i) ty T H K w:=by
 intro n _
 obtain ⟨b,c',h1,h2,h3⟩:=Nh (k:=k) hm hz hk hH hb
 refine ⟨.bE [(getM m k).getD z,ak b],.eW id (.map (bN kv (bJ k ((getM m k).getD z) c m)) c'),[id],?_,h b c' h2 h3⟩
 simp only[sI,cm,oper,hx,hi]
 exact h1
theorem RI {K:V→View→Prop} {w:cE (T,H,K)} {x s y:Operand} {id c b:Nat} {m:bV κ} {k:κ} {v:V} (hx:ev T x=.mp id) (hs:ev T s=ak b) (hy:ev T y=v) (hH:H id=.map (bN kv m) c) (hb:gv m c) (hbk:jG m k=some b)
  (h:∀ c0,K .any (H.set id (.map (bN kv (bJ k v c0 m)) c))):kb P (.entryStore t x s y) ty T H K w:=by
 intro n _
 have hg:=mE (kv:=kv) k m
 cases hj:gF k m with
 | none=>rw[hj] at hg; rw[hg.2.1] at hbk; simp at hbk
 | some j =>
  rw[hj] at hg
  obtain ⟨z,h1,h2,h3,h4,h5,h6⟩:=hg
  rw[hbk] at h4
  have e:z.2.2=b:=by simp at h4; exact h4.symm
  have hf:=find_born (kv:=kv) b m j z hb.1 h1 e
  refine ⟨.any,.eW id (.map (bN kv (bJ k v c m)) c),[id],?_,h c⟩
  have hn:asNat (ak b)=some b:=by simp[asNat,ak]
  simp only[sI,cm,oper,hx,hs,hy,jM,hn,hH,hf,h5]
  rw[(h6 v c).1]
end
theorem xx {P:Program} {α:Type} (x:α):bG P (pure x:Sem α)=some x:=rfl
end Gv
