/-
  Part 10 of the proof: what the machine does and what the functions answer.
  Conditions: those that each lemma names.
-/
import Derived.Test.YtihmlbdfcmfbdaaGreatSGzB4I
set_option linter.unusedSimpArgs false
set_option linter.unusedVariables false
set_option maxRecDepth 100000
set_option maxHeartbeats 20000000
namespace Gv
open Go Go.Proofs
def tW:SC :=
 ae [ab [aV 44 .lss 43 42],bY 44 (.exit 0),.block 1 (ae [ab [aa 45 43,aQ 46 3 41 43,bg 47 3 46,((some 11),.op (.alloc [(.val (.int .i64 0)),(.emp 1),(.val (.int .i64 0))])),aa 10 45,bU 3 11 47],ae [.region false [⟨none,[aa 48 6,ao 49 0 11,aj 50 49,aQ 51 1 48 50,aj 52 51,de 53 52,aa 54 53]⟩,⟨(some (54,false)),[bg 55 3 11,aa 56 5,bz 57 160 [55,56],de 58 57]⟩,⟨none,[cz 59 54 58]⟩],bf 59 (.exit 1)],ab [aa 60 7,aa 61 10,((some 62),.op (.bV 1 1 [(.val (.int .i64 0))] [(0,(.tmp 61))])),gY 63 1 8 60 62,aa 7 63],ab [aa 65 9,ao 66 0 11,aj 67 66,((some 68),.op (.old (.lookup 204 (.tmp 65) (.tmp 67) true) 30)),aa 64 68,fI 69 0 64,fI 70 1 64,aa 12 69,aa 13 70],ab [aa 71 13,de 72 71],bf 72 (ae [ab [aa 73 9,ao 74 0 11,aj 75 74,ao 76 1 8,aj 77 76,aN 78 77,(none,.op (.old (.mapUpdate 204 (.tmp 73) (.tmp 75) (.tmp 78)) 0))],.region false [⟨none,[ao 79 1 8,aj 80 79,ao 81 1 1,aj 82 81,ao 83 0 11,aj 84 83,aQ 85 1 82 84,aj 86 85,((some 87),.op (.bV 1 1 [(.val (.string ⟨#[]⟩))] [(0,(.tmp 86))])),gY 88 1 16 80 87,ao 89 1 8,bU 1 89 88]⟩]])]),ab [aH 90 .add 43 1,aa 43 90]]
def uK:SC :=
 ae [ab [aV 116 .lss 115 114],bY 116 (.exit 4),.block 5 (ae [ab [aa 117 115,aQ 118 1 113 115,aj 119 118,aa 18 117,aa 19 119],ab [aa 120 19,aH 121 .lss 120 0],bf 121 (ab [ao 122 1 17,aj 123 122,aa 124 18,aa 125 9,aa 126 19,((some 127),.op (.arith .sub (.val (.val (.int .i64 (-1)))) (.tmp 126))),((some 128),.op (.old (.lookup 204 (.tmp 125) (.tmp 127) false) 3)),((some 129),.op (.arith .sub (.val (.val (.int .i64 (-1)))) (.tmp 128))),aQ 130 1 123 124,bU 1 130 129])]),ab [aH 131 .add 115 1,aa 115 131]]
def uo:SC :=
 ae [ab [aV 94 .lss 93 92],bY 94 (.exit 2),.block 3 (ae [ab [aQ 95 1 91 93,aj 96 95,aa 15 96],ab [ao 97 2 1,aj 98 97,aa 99 15,aQ 100 3 98 99,bg 101 3 100,((some 16),.op (.alloc [(.val (.int .i64 0)),(.emp 1),(.val (.int .i64 0))])),bU 3 16 101],.region true [⟨none,[aa 102 9,ao 103 0 16,aj 104 103,((some 105),.op (.old (.lookup 204 (.tmp 102) (.tmp 104) false) 3)),ao 106 1 16,aj 107 106,bz 108 161 [107],ao 109 2 16,aj 110 109,((some 111),.op (.build [(.val (.int .i64 0)),(.emp 1),(.val (.int .i64 0))] [(0,1,(.tmp 105)),(1,1,(.tmp 108)),(2,1,(.tmp 110))])),((some 17),.op (.alloc [(.val (.int .i64 0)),(.emp 1),(.val (.int .i64 0))])),bU 3 17 111]⟩],ae [ab [ao 112 1 17,aj 113 112,aN 114 113,aS 115 0],b6 4 uK],ab [ao 132 2 8,aj 133 132,bg 134 3 17,((some 135),.op (.bV 1 3 [(.val (.int .i64 0)),(.emp 1),(.val (.int .i64 0))] [(0,(.tmp 134))])),gY 136 3 40 133 135,ao 137 2 8,bU 1 137 136]]),ab [aH 138 .add 93 1,aa 93 138]]
def x9:SF:=⟨ae [ab [cI 1 0,((some 2),.op (.alloc [(.emp 1),(.emp 1),(.emp 1),(.val (.int .i64 0))])),df 3 1,aS 4 0],ae [ab [bg 20 4 1,bz 21 52 [20],de 22 21],bf 22 (ae [ab [((some 23),.op (.build [(.emp 1),(.emp 1),(.emp 1),(.val (.int .i64 0))] [])),bU 4 2 23,df 3 1,aS 4 1],.ret])],.region true [⟨none,[bg 24 4 1,bz 25 157 [24],bg 26 4 1,bz 27 158 [26],aa 5 25,aa 6 27]⟩],ae [ab [aa 28 5,ao 29 3 1,aj 30 29,aQ 31 1 28 30,aj 32 31,de 33 32],bf 33 (ae [ab [((some 34),.op (.build [(.emp 1),(.emp 1),(.emp 1),(.val (.int .i64 0))] [])),bU 4 2 34,df 3 1,aS 4 9],.ret])],ab [df 7 1],ab [ao 35 0 1,aj 36 35,bz 37 159 [36],((some 38),.op (.build [(.emp 1),(.emp 1),(.emp 1),(.val (.int .i64 0))] [(0,1,(.tmp 37))])),((some 8),.op (.alloc [(.emp 1),(.emp 1),(.emp 1),(.val (.int .i64 0))])),bU 4 8 38],ab [((some 39),.op (.pD)),aa 9 39],ae [ab [ao 40 2 1,aj 41 40,aN 42 41,aS 43 0],b6 0 tW],ae [ab [aa 91 7,aN 92 91,aS 93 0],b6 2 uo],ab [aa 139 9,ao 140 3 1,aj 141 140,((some 142),.op (.old (.lookup 204 (.tmp 139) (.tmp 141) false) 3)),ao 143 3 8,bU 1 143 142],ab [bg 144 4 8,aa 145 7,bU 4 2 144,aa 3 145,aS 4 0],.ret],
 [.cell 2 (some 4),.tmp 3,.tmp 4],146⟩
theorem B4:aR Tryz.prog 109 [1]=some x9:=by kernel_rfl
abbrev zx (m:bQ Int):List (V × V × Nat):=cx (Value.int .i64) m
def UY (g:ag) (p q:List Bool) (b2 b8 b9:Nat) (u0:V) (i:Nat) (T:Env) (H:View):Prop :=
 (∃ u1 u3:V,T 7=u3∧(∀ x∈ct p q (g.rules.take i),0≤x∧x < g.ak.length)∧(ct p q (g.rules.take i)).length≤i ∧
  ba H [(.sl b8 0 1 4,4,[[u0,u1,.emp 1,gi 0]]),(u3,1,bE (c8 p q (g.rules.take i) 0)),
   (u1,1,kT ((ct p q (g.rules.take i)).map fun x=>g.ak.getD x.toNat ⟨#[]⟩)),(u0,3,g.af.map bW),(.sl b2 0 1 4,4,[[.emp 1,.emp 1,.emp 1,gi 0]])] ∧
  ∃ m c,H b9=.map (zx m) c∧py gi (kp (ct p q (g.rules.take i)) 0) m) ∧
 T 1=.aJ (ai g) 0∧T 2=.ptr b2 0 0∧T 5=bO p∧T 6=bO q∧T 8=.ptr b8 0 0∧T 9=.mp b9∧T 41=.aE (g.rules.map aP)∧T 42=gi g.rules.length∧T 43=gi i
theorem EG {α:Type} {x s:α} : ∀ {a d:List α} {k:Nat},a.length=k→(a ++ s :: d).set k x=a ++ x :: d
 | [],d,k,h=>by simp at h; subst h; rfl
 | y :: a,d,k,h=>by
  cases k with
  | zero=>simp at h
  | succ k=>simp only[XQ,List.set_cons_succ]; rw[EG (by simpa using h)]
def WI (g:ag) (p q:List Bool) (b2 b8 b9:Nat) (u0 u1 u3:V) (o kl:List Int) (mm:bQ Int) (cc:Nat) (i:Nat) (T:Env) (H:View):Prop :=
 (∃ (u2:V) (bs:Au),bs.map (·.2)=((g.rules.filter (cb p q)).take i).map (bP (eo o)) ∧
  ba H ((.sl b8 0 1 4,4,[[u0,u1,u2,gi 0]]) :: (u3,1,bE kl) ::
   (u1,1,kT (o.map fun x=>g.ak.getD x.toNat ⟨#[]⟩)) :: (u0,3,g.af.map bW) :: (u2,3,iy bs) :: (.sl b2 0 1 4,4,[[.emp 1,.emp 1,.emp 1,gi 0]]) :: mH bs) ∧
  H b9=.map (zx mm) cc) ∧
 T 1=.aJ (ai g) 0∧T 2=.ptr b2 0 0∧T 7=u3∧T 8=.ptr b8 0 0∧T 9=.mp b9∧T 91=u3∧T 92=gi kl.length∧T 93=gi i
def Ww (g:ag) (b2 b8 b9 b16 b17:Nat) (u3 v:V) (o kl:List Int) (mm:bQ Int) (cc:Nat) (r:aW) (L:List cw) (i k:Nat) (T:Env) (H:View):Prop :=
 ba H ((.sl b17 0 1 3,3,[[gi (eo o r.left),v,gi r.prec]]) :: (v,1,bE ((bP (eo o) r).right.take k ++ r.right.drop k)) :: (.sl b16 0 1 3,3,[aP r]) :: L) ∧
 H b9=.map (zx mm) cc∧T 1=.aJ (ai g) 0∧T 2=.ptr b2 0 0∧T 7=u3∧T 8=.ptr b8 0 0∧T 9=.mp b9∧T 91=u3∧T 92=gi kl.length∧T 93=gi i∧T 17=.ptr b17 0 0∧T 113=v∧T 114=gi r.right.length∧T 115=gi k
theorem JI (g:ag) (hg:g.Ok) (hs:g.Small):dc Tryz.prog 109 [.agg (ai g)] (xb (if bG g=true then
  if (au g true).getD g.start.toNat false=true then (qB g (eo (ct (au g true) (bN g) g.rules)) (au g true) (bN g),c8 (au g true) (bN g) g.rules 0,0)
  else (wu,[],9)
 else (wu,[],1))):=by
 refine dc.of (fu g) ?_
 refine aw.of mixed B4 ?_
 simp (disch:=omega)only[↓wr,seval,wq,x9,ai,encS]
 intro Q
 try simp (disch:=omega)only[↓wr,seval,wq,ai,encS]
 refine ay.pure (nQ g hg hs.names) ?_
 repeat' (first | (refine ah.dec (fun _=>?_) (fun _=>?_)) | (refine ah.eq (fun _=>?_) (fun _=>?_)) | (refine ah.ne (fun _=>?_) (fun _=>?_)) | (refine ah.split (fun _=>?_) (fun _=>?_)) | (simp (disch:=omega)only[↓wr,seval,wq,ai,encS,set_set]))
 ·rename_i hr
  rw[Xg hr]
  refine ay.pure (wE g hg hs).pure ?_
  simp (disch:=omega)only[↓wr,seval,wq,ai,encS]
  refine ay.pure (GC g hg hs).pure ?_
  have hf:=bJ hr
  have h3:=hf.kA
  have h4:=hf.start
  have c9:=gT hr true
  have fx:=qX hr
  generalize au g true=p at c9 ⊢
  generalize bN g=q at fx ⊢
  have cg:p[g.start.toNat]?=some (p[g.start.toNat]'(by omega)):=Xc (by omega)
  have da:p.getD g.start.toNat false=p[g.start.toNat]'(by omega):=by simp[Xb,cg]
  generalize p[g.start.toNat]'(by omega)=s at cg da
  rw[da]
  simp (disch:=omega)only[↓wr,seval,wq,ai,encS,bO,Xf,cg]
  cases s with
  | false =>
   simp (disch:=omega)only[↓wr,seval,wq,ai,encS,set_set]
   rintro h' hh
   exact xq
  | true =>
   simp (disch:=omega)only[↓wr,seval,wq,ai,encS,set_set]
   have hN:=hf.ak
   have hS:=hf.qU
   have hT:=hf.af
   have hR:=hf.rules
   refine ay.dZ ((PB g.af (by omega) _).mono ?_)
   rintro B H1 ⟨fz,K⟩
   have bd:=(ba.nil.new (H:=fun _=>c6.dead) (n:=Q) rfl 4 [[.emp 1,.emp 1,.emp 1,gi 0]]).HW fz K
   have c0:=bd.head.cells
   have k0:=bd.head.iO
   simp (disch:=omega)only[↓wr,seval,wq,ai,encS,c0,k0]
   intro O db
   have dj:=bd.new db 4 [[B,.emp 1,.emp 1,gi 0]]
   try simp (disch:=omega)only[↓wr,seval,wq,ai,encS,c0,k0,set_set]
   intro d R
   have b5:=(cO R cJ).1
   have R:=(cO (cO R cJ).2 cJ).2
   have f:=(((dj.fresh (n:=d) (o:=.map [] 0) (by simp only[View.set,Xd b5]; exact R)).emp (k:=1) (sz:=1)).emp (k:=1) (sz:=1)).perm EU.symm
   try simp (disch:=omega)only[↓wr,seval,wq,ai,encS,c0,k0,set_set]
   refine aU.up g.rules.length (UY g p q Q O d B) ?_ ?_
   ·refine ⟨⟨.emp 1,.emp 1,rfl,by simp[ct],by simp[ct],by rw[set_set]; exact f,[],0,by simp[View.set,cx],trivial⟩,rfl,rfl,rfl,rfl,rfl,rfl,rfl,rfl,rfl⟩
   clear bd dj f db R b5
   rintro i k T H2 hk ⟨⟨G,u3,t7,bl,ch,A,mm,C,j,D⟩,t1,t2,t5,t6,t8,t9,t41,t42,t43⟩
   simp (disch:=omega)only[↓wr,seval,wq,tW,t1,t2,t5,t6,t7,t8,t9,t41,t42,t43,ai]
   apply ah.dec<;>intro hc
   ·have E:g.rules[i]?=some (g.rules[i]'(by omega)):=Xc (by omega)
    have l:g.rules[i]'(by omega)∈g.rules:=Xm _
    have w:g.rules.take (i+1)=g.rules.take i ++ [g.rules[i]'(by omega)]:=by rw[XH,E]; rfl
    generalize g.rules[i]'(by omega)=r at E l w
    obtain ⟨fB,dm,ds,fS,bn⟩:=hf.tN hg l
    have cj:q[r.left.toNat]?=some (q[r.left.toNat]'(by omega)):=Xc (by omega)
    have kY:q.getD r.left.toNat false=q[r.left.toNat]'(by omega):=by simp[Xb,cj]
    generalize q[r.left.toNat]'(by omega)=qs at cj kY
    simp (disch:=omega)only[↓wr,seval,wq,t1,t2,t5,t6,t7,t8,t9,t41,t42,t43,aP,encI,Xf,E]
    intro bq S
    have F:=A.new S 3 [aP r]
    have b7:d≠bq:=by rintro rfl; rw[j] at S; simp at S
    try simp (disch:=omega)only[↓wr,seval,wq,t1,t2,t5,t6,t7,t8,t9,t41,t42,t43,aP,encI,bO,Xf,cj,set_set]
    have U:∀ (P:Env) (H':View),cb p q r=false→H'=H2.set bq (.arr 3 [aP r])→P 7=u3→P 1=.aJ (ai g) 0→P 2=.ptr Q 0 0→P 5=bO p→P 6=bO q→P 8=.ptr O 0 0→P 9=.mp d→P 41=.aE (g.rules.map aP)→P 42=gi g.rules.length→P 43=gi ((i:Int)+1) →
      ∃ k',k' < k∧Ft g.rules.length k' (UY g p q Q O d B) P H':=by
     intro P H' W dv a7 a1 a2 a5 a6 a8 a9 a41 gd gk
     have M:ct p q (g.rules.take (i+1))=ct p q (g.rules.take i):=by rw[w,uF,Xd (by simp[W])]
     have e2:c8 p q (g.rules.take (i+1)) 0=c8 p q (g.rules.take i) 0:=by rw[w,lS]; simp[c8,W]
     refine aF hk (by omega) ⟨⟨G,u3,a7,by rw[M]; exact bl,by rw[M]; omega,by rw[M,e2,dv]; exact F.tail,mm,C,by rw[dv]; simp[View.set,b7,j],by rw[M]; exact D⟩,a1,a2,a5,a6,a8,a9,a41,gd,by rw[gk]; rfl⟩
    cases qs with
    | false =>
     simp (disch:=omega)only[↓wr,seval,wq,t1,t2,t5,t6,t7,t8,t9,t41,t42,t43]
     refine U _ _ (by rw[cb,kY]; rfl) ?_ ?_ ?_ ?_ ?_ ?_ ?_ ?_ ?_ ?_ ?_
     all_goals first | exact t7 | exact t1 | exact t2 | exact t5 | exact t6 | exact t8 | exact t9 | exact t41 | exact t42 | rfl | (rw[set_set]; rfl)
    | true =>
     simp (disch:=omega)only[↓wr,seval,wq,t1,t2,t5,t6,t7,t8,t9,t41,t42,t43,aP,encI,bO]
     refine ay.pure (tS r p (hg.ax r l).2.2.1 (fun s ea=>⟨(bn s ea).1,fun h=>by rw[c9]; exact (bn s ea).2 h⟩)) ?_
     simp (disch:=omega)only[↓wr,seval,wq,t1,t2,t5,t6,t7,t8,t9,t41,t42,t43]
     apply ah.split<;>intro ck
     ·simp (disch:=omega)only[↓wr,seval,wq,t1,t2,t5,t6,t7,t8,t9,t41,t42,t43]
      have W:cb p q r=true:=by rw[cb,kY,ck]; rfl
      intro m hm
      try simp (disch:=omega)only[↓wr,seval,wq,t1,t2,t5,t6,t7,t8,t9,t41,t42,t43,bT]
      have eb:=(cO hm cJ).1
      have hm:=(cO (cO hm cJ).2 cJ).2
      have e:=(F.fresh (n:=m) (o:=.arr 1 [[gi i]]) (by simp only[View.set,Xd eb]; exact hm)).at 2 (by simp)
      have cA:d≠m:=by rintro rfl; rw[j] at hm; simp at hm
      have ec:(c8 p q (g.rules.take i) 0).length≤40:=by
       rw[lM]
       have h1:=X9 (cb p q) (g.rules.take i)
       have h2:(g.rules.take i).length≤i:=List.length_take_le _ _
       omega
      refine cB (by rw[set_set]; exact e) (by simp[aO]) (by unfold aB; simp at ec ⊢; omega) (by unfold aB; simp at ec ⊢; omega) ?_
      intro cC H3 f t
      have f11:=f.is 1 rfl (by simp)
      have f8:=f.is 2 rfl (by simp)
      have br:Left ((H2.set bq (.arr 3 [aP r])).set m (.arr 1 [[gi i]])) H3 u3 cC:=by rw[set_set] at t; exact t
      have f9:H3 d=.map (zx mm) C:=br.map (b:=d) e.head (by simp[View.set,b7,cA,j])
      have gl:cH G=some (kT ((ct p q (g.rules.take i)).map fun x=>g.ak.getD x.toNat ⟨#[]⟩)).length:=(f.own 3 rfl).len
      simp only[aP,encI] at f11
      have e2:c8 p q (g.rules.take (i+1)) 0=c8 p q (g.rules.take i) 0 ++ [(i:Int)]:=by
       rw[w,lS]; simp[c8,W,show i≤g.rules.length by omega]
      have M:ct p q (g.rules.take (i+1))=gq (ct p q (g.rules.take i)) r:=by rw[w,uF,Xg W]
      generalize ct p q (g.rules.take i)=o at *
      generalize c8 p q (g.rules.take i) 0=kl at *
      simp (disch:=omega)only[↓wr,seval,wq,t1,t2,t5,t6,t8,t9,t41,t42,t43,f11,f8]
      refine Tc (kt:=3) (et:=3) (z:=gi 0) (by kernel_rfl) (by kernel_rfl) (lq .i64 Tryz.underlying3) (id:=d) (c:=C) (m:=mm) (k:=r.left) (by simp (disch:=omega)only[↓wr,seval,wq,t9]) (by simp (disch:=omega)only[↓wr,seval,wq]) f9 ?_
      rw[D.get,uL]
      have gr:o.length≤40:=by omega
      by_cases hx:r.left∈o
      ·have u:gq o r=o:=by rw[gq,Xg hx]
       rw[Xg hx]
       simp (disch:=omega)only[↓wr,seval,wq,t1,t2,t5,t6,t8,t9,t41,t42,t43,Option.isSome_some]
       have ha:=(((f.at 1 (by simp)).tail).perm (.swap _ _ _))
       refine aF hk (by omega) ⟨⟨G,cC,rfl,by rw[M,u]; exact bl,by rw[M,u]; omega,?_,mm,C,f9,by rw[M,u]; exact D⟩,t1,t2,t5,t6,t8,t9,t41,t42,rfl⟩
       rw[M,u,e2]
       simp only[XD,XF,YK]
       exact ha
      ·have u:gq o r=o ++ [r.left]:=by rw[gq,Xd hx]
       rw[Xd hx]
       have cN:g.ak[r.left.toNat]?=some (g.ak[r.left.toNat]'(by omega)):=Xc (by omega)
       have ca:g.ak.getD r.left.toNat ⟨#[]⟩=g.ak[r.left.toNat]'(by omega):=by simp[Xb,cN]
       generalize g.ak[r.left.toNat]'(by omega)=nm at cN ca
       simp (disch:=omega)only[↓wr,seval,wq,t1,t2,t5,t6,t8,t9,t41,t42,t43,Option.isSome_none,f11,f8,gl,Xj]
       refine vQ (kt:=3) (et:=3) (by kernel_rfl) (lq .i64 Tryz.underlying3) (id:=d) (c:=C) (m:=mm) (k:=r.left) (v:=gi o.length) (by simp (disch:=omega)only[↓wr,seval,wq,t9]) (by simp (disch:=omega)only[↓wr,seval,wq]) (by simp (disch:=omega)only[↓wr,seval,wq]) f9 ?_
       intro c'
       have ee:O≠d:=CM f 2 rfl f9
       have n119:bq≠d:=CM f 1 rfl f9
       simp (disch:=omega)only[↓wr,seval,wq,t1,t2,t5,t6,t8,t9,t41,t42,t43,f11,f8,ee,n119,ai,encS,Xf,cN]
       intro m2 N
       have cf:=(cO N (by simp)).1
       have N:=(cO N (by simp)).2
       have eg:=((f.wj f9 (o:=.map (zx (bF r.left (gi o.length) C mm)) c')).fresh (n:=m2) (o:=.arr 1 [[gs nm]]) (by simp only[View.set,Xd cf]; exact N)).at 3 (by simp)
       try simp (disch:=omega)only[↓wr,seval,wq,t1,t2,t5,t6,t8,t9,t41,t42,t43,bT]
       refine cB eg (by simp[aO]) (by unfold aB; simp; omega) (by unfold aB; simp; omega) ?_
       intro ei H5 bx b0
       have c1:=bx.head.cells
       have k1:=bx.head.iO
       have cS:=bx.is 3 rfl (by simp)
       have hb:=b0.map (b:=d) (es:=zx (bF r.left (gi o.length) C mm)) (c:=c') eg.head (by simp[View.set,Ne.symm cf])
       have ek:d≠O:=ee.symm
       simp (disch:=omega)only[↓wr,seval,wq,t1,t2,t5,t6,t8,t9,t41,t42,t43,cS,c1,k1]
       have hj:=(bx.at 3 (by simp)).put (es':=[[B,ei,.emp 1,gi 0]]) rfl rfl
       have hn:=(((hj.at 3 (by simp)).tail).perm (.cons _ (.swap _ _ _)))
       refine aF hk (by omega) ⟨⟨ei,cC,rfl,?_,?_,?_,_,c',(by simp only[View.set,Xd ek]; exact hb),?_⟩,t1,t2,t5,t6,t8,t9,t41,t42,rfl⟩
       ·rw[M,u]; intro x ht; rcases XE.1 ht with h | h
        ·exact bl x h
        ·simp at h; subst h; exact ⟨dm,ds⟩
       ·rw[M,u]; simp; omega
       ·rw[M,u,e2]
        simp only[XD,XF,YK,ca]
        exact hn
       ·rw[M,u,CU,Int.zero_add,← Gi hx]
        exact D.put r.left (o.length:Int) C
     ·simp (disch:=omega)only[↓wr,seval,wq,t1,t2,t5,t6,t7,t8,t9,t41,t42,t43]
      refine U _ _ (by rw[cb,kY,ck]; rfl) ?_ ?_ ?_ ?_ ?_ ?_ ?_ ?_ ?_ ?_ ?_
      all_goals first | exact t7 | exact t1 | exact t2 | exact t5 | exact t6 | exact t8 | exact t9 | exact t41 | exact t42 | rfl | (rw[set_set]; rfl)
   ·rw[Xv (by omega)] at A bl ch D
    have hz:(c8 p q g.rules 0).length≤40:=by
     rw[lM]; have h1:=X9 (cb p q) g.rules; omega
    have hA:=uj p q g.rules 0
    have hQ:=lM p q g.rules 0
    have en:qB g (eo (ct p q g.rules)) p q=⟨g.af,(ct p q g.rules).map fun x=>g.ak.getD x.toNat ⟨#[]⟩,(g.rules.filter (cb p q)).map (bP (eo (ct p q g.rules))),eo (ct p q g.rules) g.start⟩:=rfl
    rw[en]
    clear en
    generalize ct p q g.rules=o at *
    generalize c8 p q g.rules 0=kl at *
    have gr:o.length≤40:=by omega
    have hB:cH u3=some (bE kl).length:=(A.own 1 rfl).len
    simp (disch:=omega)only[↓wr,seval,wq,t1,t2,t5,t6,t7,t8,t9,hB,Xj]
    refine aU.up kl.length (WI g p q Q O d B G u3 o kl mm C) ?_ ?_
    ·refine ⟨⟨.emp 1,[],by simp,?_,j⟩,t1,t2,t7,t8,t9,t7,rfl,rfl⟩
     exact (A.emp (k:=1) (sz:=3)).perm (sN [(.sl O 0 1 4,4,[[B,G,.emp 1,gi 0]]),(u3,1,bE kl),(G,1,kT (o.map fun x=>g.ak.getD x.toNat ⟨#[]⟩)),(B,3,g.af.map bW),(.emp 1,3,[]),(.sl Q 0 1 4,4,[[.emp 1,.emp 1,.emp 1,gi 0]])] 4 (by simp)).symm
    clear A j t1 t2 t5 t6 t7 t8 t9 t41 t42 t43
    rintro i k T H2 hk ⟨⟨u2,bs,b1,A,j⟩,t1,t2,t7,t8,t9,t91,t92,t93⟩
    simp (disch:=omega)only[↓wr,seval,wq,uo,t1,t2,t7,t8,t9,t91,t92,t93]
    apply ah.dec<;>intro hc
    ·obtain ⟨n3,e3,hC⟩:=(A.own 1 rfl).sl (by simp; omega)
     rw[Xj] at e3
     subst e3
     obtain ⟨m,cV,N,X⟩:=hA i (by omega)
     have eH:=lR (show i < kl.length by omega)
     rw[Int.zero_add] at cV
     have hD:kl[i]'(by omega)=(m:Int):=by
      rw[Xc (show i < kl.length by omega)] at cV; simpa using cV
     rw[hD] at eH
     have E:g.rules[m]?=some (g.rules[m]'X):=Xc X
     have l:g.rules[m]'X∈g.rules:=Xm _
     have w:(g.rules.filter (cb p q)).take (i+1)=(g.rules.filter (cb p q)).take i ++ [g.rules[m]'X]:=by
      rw[XH,← N,E]; rfl
     generalize g.rules[m]'X=r at E l w
     obtain ⟨fB,dm,ds,fS,bn⟩:=hf.tN hg l
     simp (disch:=omega)only[↓wr,seval,wq,t1,t2,t7,t8,t9,t91,t92,t93,hC,eH,Xj,ai,aP,encI,Xf,E]
     refine ⟨by omega,by omega,?_⟩
     intro c3 I
     have F:=A.new I 3 [aP r]
     have Y:d≠c3:=by rintro rfl; rw[j] at I; simp at I
     try simp (disch:=omega)only[↓wr,seval,wq,t1,t2,t7,t8,t9,t91,t92,t93,set_set]
     refine Ar (kt:=3) (et:=3) (z:=gi 0) (by kernel_rfl) (by kernel_rfl) (lq .i64 Tryz.underlying3) (id:=d) (c:=C) (m:=mm) (k:=r.left) (by simp (disch:=omega)only[↓wr,seval,wq,t9]) (by simp (disch:=omega)only[↓wr,seval,wq]) (by simp[View.set,Y,j]) ?_
     have b3:∀ x,(getM mm x).getD (gi 0)=gi (eo o x):=fun x=>by
      rw[D.get,eo]; cases eA (kp o 0) x <;> rfl
     rw[b3]
     simp (disch:=omega)only[↓wr,seval,wq,t1,t2,t7,t8,t9,t91,t92,t93]
     refine ay.KE (PL r.right (by omega) _) ?_
     intro v H3 hv K
     have e:=ba.HW (H:=H2.set c3 (.arr 3 [aP r])) F hv (by rw[set_set] at K; exact K)
     have c5:H3 d=.map (zx mm) C:=by
      rw[(K d (by simp[View.set,Y,j])).1]; simp[View.set,Y,j]
     have cv:=hv.cells
     have kv:=hv.iO
     have lv:=hv.len
     have f16:=e.is 1 rfl (by simp)
     simp only[aP,encI] at f16
     simp (disch:=omega)only[↓wr,seval,wq,t1,t2,t7,t8,t9,t91,t92,t93,f16,cv,kv]
     intro e0 J
     have a:=e.new J 3 [[gi (eo o r.left),v,gi r.prec]]
     have e4:d≠e0:=by rintro rfl; rw[c5] at J; simp at J
     try simp (disch:=omega)only[↓wr,seval,wq,t1,t2,t7,t8,t9,t91,t92,t93,cv,kv,lv,set_set,Xj]
     generalize hL:((V.sl O 0 1 4,4,[[B,G,u2,gi 0]]) :: (V.sl n3 0 kl.length 1,1,bE kl) ::
       (G,1,kT (o.map fun x=>g.ak.getD x.toNat ⟨#[]⟩)) :: (B,3,g.af.map bW) :: (u2,3,iy bs) :: (V.sl Q 0 1 4,4,[[V.emp 1,V.emp 1,V.emp 1,gi 0]]) :: mH bs:List cw)=L at a
     refine aU.up r.right.length (Ww g Q O d c3 e0 (.sl n3 0 kl.length 1) v o kl mm C r L i) ?_ ?_
     ·exact ⟨by rw[set_set]; exact a,by simp[View.set,e4,c5],t1,t2,t7,t8,t9,t91,t92,t93,rfl,rfl,rfl,rfl⟩
     clear F e a I J j c5 f16 hv K t1 t2 t7 t8 t9 t91 t92 t93
     rintro k k2 T H3 e5 ⟨a,j,t1,t2,t7,t8,t9,t91,t92,t93,t17,t113,t114,t115⟩
     have f17:=a.is 0 rfl (by simp)
     simp (disch:=omega)only[↓wr,seval,wq,uK,t1,t2,t7,t8,t9,t91,t92,t93,t17,t113,t114,t115]
     apply ah.dec<;>intro hF
     ·have e6:r.right[k]?=some (r.right[k]'(by omega)):=Xc (by omega)
      have e7:r.right[k]'(by omega)∈r.right:=Xm _
      have hG:(bP (eo o) r).right.length=r.right.length:=by simp[bP]
      have Z:(bP (eo o) r).right.take (k+1)=(bP (eo o) r).right.take k ++ [if r.right[k]'(by omega) < 0 then -1 - eo o (-1 - r.right[k]'(by omega)) else r.right[k]'(by omega)]:=by
       rw[XH]; simp[bP,e6]
      have e8:=fp (show k < r.right.length by omega)
      generalize r.right[k]'(by omega)=s at e6 e7 Z e8
      obtain ⟨⟨s1,s2⟩,s3⟩:=bn s e7
      have hV:=Uk o (-1 - s)
      rw[e8] at a
      have hlen:(((bP (eo o) r).right.take k ++ s :: r.right.drop (k+1)).map fun x=>[gi x]).length=r.right.length:=by simp; omega
      obtain ⟨nv,ev,fb⟩:=(a.own 1 rfl).sl (by rw[hlen]; omega)
      rw[hlen] at ev
      subst ev
      have b4:k < ((bP (eo o) r).right.take k ++ s :: r.right.drop (k+1)).length:=by simp; omega
      have an:=lR b4
      have hI:((bP (eo o) r).right.take k ++ s :: r.right.drop (k+1))[k]'b4=s:=by
       rw[List.getElem_append_right (by simp; omega)]
       simp[show k - min k r.right.length=0 by omega,hG]
      rw[hI] at an
      simp (disch:=omega)only[↓wr,seval,wq,t1,t2,t7,t8,t9,t91,t92,t93,t17,t113,t114,t115,fb,an,Xj]
      refine ⟨by omega,b4,?_⟩
      have ff:((bP (eo o) r).right.take k).length=k:=by rw[X0]; omega
      have hJ:nv≠d:=CM a 1 rfl j
      apply ah.dec<;>intro aq
      ·rw[Xg aq] at Z
       simp (disch:=omega)only[↓wr,seval,wq,t1,t2,t7,t8,t9,t91,t92,t93,t17,t113,t114,t115,f17]
       refine Ar (kt:=3) (et:=3) (z:=gi 0) (by kernel_rfl) (by kernel_rfl) (lq .i64 Tryz.underlying3) (id:=d) (c:=C) (m:=mm) (k:=-1 - s) (by simp (disch:=omega)only[↓wr,seval,wq,t9]) (by simp (disch:=omega)only[↓wr,seval,wq]) j ?_
       rw[b3]
       simp (disch:=omega)only[↓wr,seval,wq,t1,t2,t7,t8,t9,t91,t92,t93,t17,t113,t114,t115,f17,fb,an,Xj]
       refine ⟨by omega,b4,?_⟩
       have ar:=((a.at 1 (by simp)).put (es':=((((bP (eo o) r).right.take k ++ s :: r.right.drop (k+1)).map fun x=>[gi x]).set k [gi (-1 - eo o (-1 - s))])) (by simp) (by rw[hlen])).perm (.swap _ _ _)
       refine aF e5 (by omega) ⟨?_,by simp only[View.set,Xd hJ.symm]; exact j,t1,t2,t7,t8,t9,t91,t92,t93,t17,t113,t114,rfl⟩
       rw[ints_set,EG ff] at ar
       rw[Z,XO]
       rw[ints_set,EG ff]
       exact ar
      ·rw[Xd aq] at Z
       simp (disch:=omega)only[↓wr,seval,wq,t1,t2,t7,t8,t9,t91,t92,t93,t17,t113,t114,t115]
       refine aF e5 (by omega) ⟨?_,j,t1,t2,t7,t8,t9,t91,t92,t93,t17,t113,t114,rfl⟩
       rw[Z,XO]
       exact a
     ·rw[Xv (by simp[bP]; omega),XK (by omega),Yz] at a
      subst hL
      have f8:=a.is 3 rfl (by simp)
      have cv:=(a.own 1 rfl).cells
      have kv:=(a.own 1 rfl).iO
      have fl:(iy bs).length≤40:=by
       have h1:=YA List.length b1
       simp only[Xj,X0] at h1
       simp only[iy,Xj]
       omega
      simp (disch:=omega)only[↓wr,seval,wq,t1,t2,t7,t8,t9,t91,t92,t93,t17,t113,t114,t115,f8,f17,cv,kv]
      intro m hm
      have cA:d≠m:=by rintro rfl; rw[j] at hm; simp at hm
      try simp (disch:=omega)only[↓wr,seval,wq,t1,t2,t7,t8,t9,t91,t92,t93,t17,bT]
      have ar:=(a.fresh (o:=.arr 3 [[gi (eo o r.left),v,gi r.prec]]) hm).at 7 (by simp)
      refine cB ar (by simp[AJ,kv]) (by unfold aB; simp at fl ⊢; omega) (by unfold aB; simp at fl ⊢; omega) ?_
      intro fm H4 bb t
      have cu:=bb.head.cells
      have ku:=bb.head.iO
      have cS:=bb.is 4 rfl (by simp)
      have fs:H4 d=.map (zx mm) C:=t.map (b:=d) ar.head (by simp[View.set,cA,j])
      have hK:d≠O:=(CM bb 4 rfl fs).symm
      simp (disch:=omega)only[↓wr,seval,wq,t1,t2,t7,t8,t9,t91,t92,t93,t17,cS,cu,ku]
      have hM:=(bb.at 4 (by simp)).put (es':=[[B,G,fm,gi 0]]) rfl rfl
      have hP:=((((hM.at 2 (by simp)).tail).at 3 (by simp)).tail)
      refine aF hk (by omega) ⟨⟨fm,bs ++ [(v,bP (eo o) r)],?_,?_,by simp only[View.set,Xd hK]; exact fs⟩,t1,t2,t7,t8,t9,t91,t92,rfl⟩
      ·rw[XD,b1,w,XD]; rfl
      ·refine hP.perm (.cons _ ?_)
       simp only[mH,iy,XD,XF,YK]
       refine .trans ?_ (sN _ 3 (by simp)).symm
       refine .cons _ ?_
       exact (List.perm_append_singleton (v,1,bE (bP (eo o) r).right) ((.sl n3 0 kl.length 1,1,bE kl) :: (G,1,kT (o.map fun x=>g.ak.getD x.toNat ⟨#[]⟩)) :: (B,3,g.af.map bW) :: (.sl Q 0 1 4,4,[[.emp 1,.emp 1,.emp 1,gi 0]]) :: mH bs)).symm
    ·rw[Xv (by omega)] at b1
     have f8:=A.is 0 rfl (by simp)
     have f2:=A.is 5 rfl (by simp)
     have ft:O≠Q:=A.FD 0 5 rfl rfl (by omega)
     have c1:=(A.own 2 rfl).cells
     have k1:=(A.own 2 rfl).iO
     have c2:=(A.own 4 rfl).cells
     have k2:=(A.own 4 rfl).iO
     have b3:∀ x,(getM mm x).getD (gi 0)=gi (eo o x):=fun x=>by
      rw[D.get,eo]; cases eA (kp o 0) x <;> rfl
     simp (disch:=omega)only[↓wr,seval,wq,t1,t2,t7,t8,t9,t91,t92,t93,ai]
     refine Ar (kt:=3) (et:=3) (z:=gi 0) (by kernel_rfl) (by kernel_rfl) (lq .i64 Tryz.underlying3) (id:=d) (c:=C) (m:=mm) (k:=g.start) (by simp (disch:=omega)only[↓wr,seval,wq,t9]) (by simp (disch:=omega)only[↓wr,seval,wq]) j ?_
     rw[b3]
     simp (disch:=omega)only[↓wr,seval,wq,t1,t2,t7,t8,t9,t91,t92,t93,f8,f2,ft,ft.symm,c0,k0,c1,k1,c2,k2]
     intro h' hh
     have F:=A.put (es':=[[B,G,u2,gi (eo o g.start)]]) rfl rfl
     have e:=(F.at 5 (by simp)).put (es':=[[B,G,u2,gi (eo o g.start)]]) rfl rfl
     have hv:h'.view=(H2.set O (.arr 4 [[B,G,u2,gi (eo o g.start)]])).set Q (.arr 4 [[B,G,u2,gi (eo o g.start)]]):=hh
     rw[← hv] at e
     exact LD (x:=(⟨g.af,o.map fun x=>g.ak.getD x.toNat ⟨#[]⟩,(g.rules.filter (cb p q)).map (bP (eo o)),eo o g.start⟩,kl,0)) (b:=bs) (e.own 4 rfl) (e.own 3 rfl) (e.own 5 rfl) (fun y hy=>e.1 y (by
      refine XJ _ (XJ _ (XJ _ (XJ _ (XJ _ (XJ _ ?_)))))
      exact hy)) b1 (e.own 2 rfl)
 ·rename_i hr
  intro h' hh
  rw[Xd (by simp[hr])]
  exact xq
theorem KT {l:List Int} {a b:List Bool} {t:Bool} (h:fT a b) (k:cE l a t=true):cE l b t=true:=by
 simp only[cE,XI] at k ⊢
 intro s hs
 have:=k s hs
 by_cases c:0≤s
 ·rw[Xg c] at this ⊢; exact this
 ·rw[Xd c] at this ⊢; exact h.2 _ this
theorem fT.HJ {a b:List Bool} (h:fT a b) (k:fT b a):a=b:=by
 have h1:=h.ew
 have c:=k.ew
 exact h1.2 (by omega)
def pf (g:ag) (t:Bool) (is:List Bool):Prop:=∀ i,is.getD i false=true→∃ r∈g.rules,r.left.toNat=i∧cE r.right is t=true
theorem pf.step {g:ag} {t:Bool} {is:List Bool} {r:aW} (h:pf g t is) (hr:r∈g.rules):pf g t (eC t is r):=by
 have hle:fT is (eC t is r):=by
  unfold eC
  split
  ·exact .set _ _
  ·exact .refl _
 intro i hi
 by_cases e:is.getD i false=true
 ·obtain ⟨c,h1,d,f⟩:=h i e
  exact ⟨c,h1,d,KT hle f⟩
 ·unfold eC at hi
  by_cases a:cE r.right is t=true
  ·rw[Xg a] at hi
   have:r.left.toNat=i:=by
    refine YI fun b=>e ?_
    simp only[Xb,YC,Xd b] at hi ⊢
    exact hi
   exact ⟨r,hr,this,KT hle a⟩
  ·rw[Xd a] at hi; exact absurd hi e
theorem pf.fold {g:ag} {t:Bool} : ∀ (l:List aW) (is:List Bool),(∀ r∈l,r∈g.rules)→pf g t is→pf g t (l.foldl (eC t) is)
 | [],is,_,h=>h
 | r :: l,is,hl,h=>pf.fold l _ (fun x a=>hl x (by simp[a])) (h.step (hl r (by simp)))
theorem pf.iter {g:ag} {t:Bool} : ∀ (n:Nat) (is:List Bool),pf g t is→pf g t (iter (kC g t) n is)
 | 0,_,h=>h
 | n+1,is,h=>pf.iter n _ (pf.fold g.rules is (fun _ h=>h) h)
theorem Mj (g:ag) (t:Bool):pf g t (au g t):=by
 unfold au
 split
 ·refine pf.iter _ _ ?_
  intro i hi
  simp only[cn,Xb,YP] at hi
  split at hi <;> simp at hi
 ·intro i hi; simp at hi
theorem Kp (is:List Bool) (s:Int):fT is (mark is s):=by
 unfold mark
 split
 ·exact .set _ _
 ·exact .refl _
theorem BW:∀ (l:List Int) (is:List Bool),fT is (l.foldl mark is)
 | [],is=>.refl _
 | s :: l,is=>(Kp is s).trans (BW l _)
theorem It (p is:List Bool) (r:aW):fT is (gz p is r):=by
 unfold gz
 split
 ·exact BW _ _
 ·exact .refl _
theorem Jz (p:List Bool):∀ (l:List aW) (is:List Bool),fT is (l.foldl (gz p) is)
 | [],is=>.refl _
 | r :: l,is=>(It p is r).trans (Jz p l _)
theorem Gs {p:List Bool} : ∀ {l:List aW} {is:List Bool},l.foldl (gz p) is=is→∀ r∈l,gz p is r=is
 | [],_,_,_,h=>by simp at h
 | r :: l,is,h,x,a=>by
  rw[XC] at h
  have h1:=Jz p l (gz p is r)
  rw[h] at h1
  have b:=(h1.HJ (It p is r))
  rcases Xs.1 a with rfl | a
  ·exact b
  ·rw[b] at h; exact Gs h x a
theorem FM:∀ {l:List Int} {is:List Bool},l.foldl mark is=is→∀ s∈l,mark is s=is
 | [],_,_,_,h=>by simp at h
 | r :: l,is,h,x,a=>by
  rw[XC] at h
  have h1:=BW l (mark is r)
  rw[h] at h1
  have b:=(h1.HJ (Kp is r))
  rcases Xs.1 a with rfl | a
  ·exact b
  ·rw[b] at h; exact FM h x a
theorem Fi {g:ag} (hr:bG g=true):pB g (au g true) (bN g)=bN g∧fT ((cn g).set g.start.toNat true) (bN g):=by
 have a:=bJ hr
 have h:=uh (tG (au g true)) g.rules 16 ((cn g).set g.start.toNat true) (by have:=a.ak; simp[cn]; omega)
 rw[Lf,NX hr] at h
 exact h
theorem uU {g:ag} (hr:bG g=true):(bN g).getD g.start.toNat false=true:=by
 have a:=bJ hr
 refine (Fi hr).2.2 _ ?_
 have b:=a.kA
 have c:=a.start
 simp only[Xb]
 rw[Y3 (by simp[cn]; omega)]
 rfl
theorem xu {g:ag} (hr:bG g=true) {r:aW} (hm:r∈g.rules) (hk:cb (au g true) (bN g) r=true) {s:Int} (hs:s∈r.right) (b:s < 0):(bN g).getD (-1 - s).toNat false=true:=by
 have c:=bJ hr
 have h1:=Gs (Fi hr).1 r hm
 unfold gz at h1
 rw[cb] at hk
 rw[Xg hk] at h1
 have a:=FM h1 s hs
 unfold mark at a
 rw[Xg b] at a
 rw[← a]
 have hl:=qX hr
 have:=c.neg hm hs b
 simp only[Xb]
 rw[Y3 (by omega)]
 rfl
theorem Dt {g:ag} (hr:bG g=true) {x:Int} (c:0≤x) (hp:(au g true).getD x.toNat false=true) (hq:(bN g).getD x.toNat false=true):x∈ct (au g true) (bN g) g.rules:=by
 obtain ⟨r,h1,d,a⟩:=Mj g true _ hp
 have b:=bJ hr
 have e:=b.left r h1
 have:r.left=x:=by omega
 refine s6.2 ⟨r,h1,?_,this⟩
 rw[cb,this,hq,a]; rfl
theorem Mq (g:ag):(if bG g=true then
  if (au g true).getD g.start.toNat false=true then (qB g (eo (ct (au g true) (bN g) g.rules)) (au g true) (bN g),c8 (au g true) (bN g) g.rules 0,0)
  else (wu,[],9)
 else (wu,[],1))=fX g:=by
 unfold fX
 by_cases hr:bG g=true
 ·rw[Xg hr,Xg hr]
  by_cases hp:(au g true).getD g.start.toNat false=true
  ·rw[Xg hp,Xg hp]
   have b:=bJ hr
   rw[N6]
   ·exact Dt hr b.kA hp (uU hr)
   ·intro r hm
    obtain ⟨h1,a⟩:=XY.1 hm
    refine ⟨s6.2 ⟨r,h1,a,rfl⟩,fun s hs c=>?_⟩
    refine Dt hr (by omega) ?_ (xu hr h1 a hs c)
    rw[cb,Xl] at a
    have:=a.2
    simp only[cE,XI] at this
    have:=this s hs
    rwa [Xd (by omega)] at this
  ·rw[Xd hp,Xd hp]
 ·rw[Xd hr,Xd hr]
theorem Mh (g:ag) (a:g.Ok) (hs:g.Small):dc Tryz.prog 109 [.agg (ai g)] (xb (fX g)):=by
 rw[← Mq]; exact JI g a hs
structure Cell where
 kind:Int
 n:Int
 deriving DecidableEq
structure sS where
 bC:List (List Cell)
 gotos:List (List Int)
 deriving DecidableEq
def jK (g:ag) (n:Nat) (c:Cell):Bool:=if c.kind=0∨c.kind=3 then decide (c.n=0) else if c.kind=1 then decide (0≤c.n) && decide (c.n < n) else if c.kind=2 then decide (0≤c.n) && decide (c.n < g.rules.length) else false
def yE (g:ag) (n:Nat) (a:List Cell) (l:List Int):Bool:=decide (a.length=g.af.length+1) && decide (l.length=g.ak.length) && a.all (jK g n) && l.all fun x=>decide (-1≤x) && decide (x < n)
def lD (g:ag) (t:sS):Bool:=bG g && decide (1≤t.bC.length) && decide (t.bC.length≤300) && decide (t.gotos.length=t.bC.length) && (List.range t.bC.length).all fun i=>yE g t.bC.length (t.bC.getD i []) (t.gotos.getD i [])
def av (g:ag) (k:Int):aW:=g.rules.getD k.toNat ⟨0,[],0⟩
theorem getD_some {α:Type} {l:List α} {j:Nat} {d:α} (h:j < l.length):l[j]?=some (l.getD j d):=by simp[Xb,h]
structure Er (g:ag) (t:sS):Prop where
 right:bG g=true
 n1:1≤t.bC.length
 n300:t.bC.length≤300
 len:t.gotos.length=t.bC.length
 row:∀ i,i < t.bC.length→yE g t.bC.length (t.bC.getD i []) (t.gotos.getD i [])=true
theorem AT {g:ag} {t:sS} (h:lD g t=true):Er g t:=by
 unfold lD at h
 simp only[Xl,Xr,XI,XU] at h
 exact ⟨h.1.1.1.1,h.1.1.1.2,h.1.1.2,h.1.2,h.2⟩
theorem Er.CQ {g:ag} {t:sS} (h:Er g t) {i:Nat} (hi:i < t.bC.length):(t.bC.getD i []).length=g.af.length+1∧(t.gotos.getD i []).length=g.ak.length∧(∀ c∈t.bC.getD i [],jK g t.bC.length c=true)∧∀ x∈t.gotos.getD i [],-1≤x∧x < t.bC.length:=by
 have:=h.row i hi
 unfold yE at this
 simp only[Xl,Xr,XI] at this
 exact ⟨this.1.1.1,this.1.1.2,this.1.2,this.2⟩
theorem HP {x:Int} : ∀ (o:List Int) (i:Int),x∈o→∃ k:Nat,cG (fun y=>y == x) o i=i+k∧o[k]?=some x
 | [],_,h=>by simp at h
 | y :: o,i,h=>by
  by_cases e:y=x
  ·exact ⟨0,by simp[cG,e],by simp[e]⟩
  ·have a:x∈o:=by
    rcases Xs.1 h with rfl | h
    ·exact absurd rfl e
    ·exact h
   obtain ⟨k,h1,b⟩:=HP o (i+1) a
   exact ⟨k+1,by simp only[cG]; rw[Xd (by simp[e]),h1]; push_cast; omega,by simpa using b⟩
theorem QU {o:List Int} {x:Int} (h:x∈o):o[(bL o x).toNat]?=some x:=by
 obtain ⟨k,h1,a⟩:=HP o 0 h
 have:bL o x=k:=by unfold bL; omega
 rw[this]; simpa using a
theorem KH {o:List Int} (b:o.Nodup) {k:Nat} {x:Int} (h:o[k]?=some x):bL o x=k:=by
 have a:=Xi h
 have h1:=QU a
 have f:=nY a
 obtain ⟨hk,c⟩:=Xq.1 h
 obtain ⟨d,e⟩:=Xq.1 h1
 have:=(List.getElem_inj b).1 (e.trans c.symm)
 omega
theorem sX:∀ (l:List aW) (acc:List Int),acc.Nodup→(l.foldl gq acc).Nodup
 | [],_,h=>h
 | r :: l,acc,h=>sX l _ (DG h)
theorem MQ (p q:List Bool) (l:List aW):(ct p q l).Nodup:=sX _ _ List.nodup_nil
theorem Ri (acc:List Int) (r:aW):∃ m,gq acc r=acc ++ m:=by
 unfold gq
 split
 ·exact ⟨[],by simp⟩
 ·exact ⟨_,rfl⟩
theorem vK:∀ (l:List aW) (acc:List Int),∃ m,l.foldl gq acc=acc ++ m
 | [],acc=>⟨[],by simp⟩
 | r :: l,acc=>by
  obtain ⟨m,hm⟩:=Ri acc r
  obtain ⟨k,hk⟩:=vK l (gq acc r)
  exact ⟨m ++ k,by rw[XC,hk,hm,XO]⟩
theorem Sb {a b:List Int} {x:Int} (h:x∈a):bL (a ++ b) x=bL a x:=by
 unfold bL
 rw[vr _ _ _ _ (by omega)]
 have:=nY h
 unfold bL at this
 rw[Xg this.1]
theorem xC {r:ag} {o:List Int} (c:o.Nodup) (hr:r.ak.length=o.length):∀ (l:List aW) (acc:List Int),o=l.foldl gq acc→(∀ x∈l,jc r (bP (bL o) x)=true)→iA r (l.map (bP (bL o))) ((acc.length:Int) - 1)=true
 | [],acc,h,_=>by
  simp only[YF] at h
  simp[iA,hr,h]
 | x :: l,acc,h,a=>by
  simp only[XF,iA,Xl,Xr]
  rw[XC] at h
  have h1:(bP (bL o) x).left=bL o x.left:=rfl
  obtain ⟨m,hm⟩:=vK l (gq acc x)
  rw[← h] at hm
  by_cases b:x.left∈acc
  ·have e:gq acc x=acc:=by unfold gq; rw[Xg b]
   rw[e] at hm h
   have g:=nY b
   have d:bL o x.left=bL acc x.left:=by rw[hm]; exact Sb b
   rw[h1,d,Xd (by omega)]
   exact ⟨⟨⟨g.1,by omega⟩,a x (by simp)⟩,xC c hr l acc h fun y f=>a y (by simp[f])⟩
  ·have e:gq acc x=acc ++ [x.left]:=by unfold gq; rw[Xd b]
   rw[e] at hm h
   have d:bL o x.left=acc.length:=KH c (by rw[hm]; simp)
   rw[h1,d,Xg (by omega)]
   refine ⟨⟨⟨by omega,by omega⟩,a x (by simp)⟩,?_⟩
   have:=xC c hr l (acc ++ [x.left]) h fun y f=>a y (by simp[f])
   rw[XV] at this
   simpa using this
theorem Bi {g r:ag} (h:r.af=g.af):∀ (l:List Term) (i:Int),ky r l i=ky g l i
 | [],_=>rfl
 | t :: l,i=>by
  simp only[ky,Bi h l]
  congr 1
  simp only[kS,np,sm,h]
theorem GG {o:List Int} {n:Nat} (h:o.Nodup) (a:∀ x∈o,0≤x∧x < n):o.length≤n:=by
 have:=ot o ((List.range n).map fun (k:Nat)=>(k:Int)) h fun x b=>by
  have:=a x b
  exact Xw.2 ⟨x.toNat,XU.2 (by omega),by omega⟩
 simpa using this
structure jX (g:ag) (p q:List Bool) (o:List Int) (r:ag):Prop where
 right:bG g=true
 pe:p=au g true
 qe:q=bN g
 oe:o=ct p q g.rules
 re:r=qB g (bL o) p q
 nodup:o.Nodup
 inside:∀ x∈o,0≤x∧x < g.ak.length
 kept:∀ R∈g.rules,cb p q R=true→R.left∈o∧∀ s∈R.right,s < 0→-1 - s∈o
 from_:∀ x∈o,∃ R∈g.rules,cb p q R=true∧R.left=x
 start:g.start∈o
theorem QK {g:ag} (hr:bG g=true) (hp:(au g true).getD g.start.toNat false=true):jX g (au g true) (bN g) (ct (au g true) (bN g) g.rules) (qB g (bL (ct (au g true) (bN g) g.rules)) (au g true) (bN g)):=by
 have b:=bJ hr
 refine ⟨hr,rfl,rfl,rfl,rfl,MQ _ _ _,fun x a=>?_,fun R hm hk=>⟨s6.2 ⟨R,hm,hk,rfl⟩,fun s hs c=>?_⟩,fun x a=>s6.1 a,Dt hr b.kA hp (uU hr)⟩
 ·obtain ⟨R,h1,_,rfl⟩:=s6.1 a
  exact b.left R h1
 ·refine Dt hr (by omega) ?_ (xu hr hm hk hs c)
  rw[cb,Xl] at hk
  have:=hk.2
  simp only[cE,XI] at this
  have:=this s hs
  rwa [Xd (by omega)] at this
section
variable {g r:ag} {p q:List Bool} {o:List Int}
theorem jX.rules (h:jX g p q o r):r.rules=(g.rules.filter (cb p q)).map (bP (bL o)):=by rw[h.re]; rfl
theorem jX.ak (h:jX g p q o r):r.ak=o.map fun x=>g.ak.getD x.toNat ⟨#[]⟩:=by rw[h.re,h.oe]; rfl
theorem jX.af (h:jX g p q o r):r.af=g.af:=by rw[h.re]; rfl
theorem jX.Jr (h:jX g p q o r):r.start=bL o g.start:=by rw[h.re]; rfl
theorem jX.len (h:jX g p q o r):r.ak.length=o.length:=by rw[h.ak]; simp
theorem jX.zW (h:jX g p q o r):bG r=true:=by
 have P:=bJ h.right
 have D:=h.right
 simp only[bG,kE,lC,Xl,Xr] at D ⊢
 obtain ⟨⟨⟨⟨⟨⟨⟨H,a2⟩,⟨a3,a4⟩,a5⟩,Q⟩,R⟩,S⟩,a9⟩,n⟩:=D
 have I:=nY h.start
 have J:o.length≤g.ak.length:=GG h.nodup h.inside
 have c:g.ak.Nodup∧∀ s∈g.ak,gS (fQ s)=true∧np g s < 0:=by
  rw[uz] at a5
  refine ⟨(tZ g.ak).1 fun k s hk=>?_,fun s hs=>?_⟩
  ·have:=a5 k s hk
   simp only[mE,zM,Xl,Yo] at this
   have:=this.1.2
   omega
  ·obtain ⟨k,hk⟩:=List.getElem?_of_mem hs
   have:=a5 k s hk
   simp only[mE,Xl,Xr] at this
   exact ⟨this.1.1,this.2⟩
 have a:∀ x∈o,∃ (b:x.toNat < g.ak.length),g.ak.getD x.toNat ⟨#[]⟩=g.ak[x.toNat]:=fun x b=>by
  have:=h.inside x b
  exact ⟨by omega,by simp[Xb,Xc (show x.toNat < g.ak.length by omega)]⟩
 have t:r.ak.Nodup:=by
  rw[h.ak,Y5,Zb]
  refine (List.Pairwise.and_mem.1 h.nodup).imp ?_
  rintro x y ⟨b,E,u⟩ e
  obtain ⟨h1,v⟩:=a x b
  obtain ⟨F,i⟩:=a y E
  rw[v,i] at e
  have T:=(List.getElem_inj c.1).1 e
  have U:=h.inside x b
  have V:=h.inside y E
  exact u (by omega)
 have j:(g.rules.filter (cb p q)).length≤g.rules.length:=X9 _ _
 obtain ⟨W,w,z,_⟩:=h.from_ _ h.start
 have G:0 < (g.rules.filter (cb p q)).length:=List.length_pos_of_mem (XY.2 ⟨w,z⟩)
 have K:r.rules.length=(g.rules.filter (cb p q)).length:=by rw[h.rules]; simp
 refine ⟨⟨⟨⟨⟨⟨⟨by rw[h.af]; exact H,?_⟩,⟨by rw[h.len]; omega,by rw[h.len]; omega⟩,?_⟩,by omega⟩,by omega⟩,by rw[h.Jr]; omega⟩,by rw[h.Jr,h.len]; omega⟩,?_⟩
 ·rw[h.af,Bi h.af]; exact a2
 ·rw[uz]
  intro k s hk
  have hm:=Xi hk
  have d:=(tZ r.ak).2 t k s hk
  rw[h.ak,Xw] at hm
  obtain ⟨x,b,rfl⟩:=hm
  obtain ⟨h1,v⟩:=a x b
  obtain ⟨F,i⟩:=c.2 _ (v ▸ Xm h1:g.ak.getD x.toNat ⟨#[]⟩∈g.ak)
  simp only[mE,zM,Xl,Yo,Xr]
  refine ⟨⟨F,by rw[d]; omega⟩,?_⟩
  simp only[np,h.af] at i ⊢
  exact i
 ·rw[h.rules]
  have:=xC (r:=r) h.nodup h.len (g.rules.filter (cb p q)) [] (by rw[h.oe]; rfl) (fun x b=>?_)
  ·simpa using this
  obtain ⟨hm,hk⟩:=XY.1 b
  obtain ⟨_,A⟩:=h.kept x hm hk
  have l:=(zZ _ _ n).2 x hm
  have l:=l.2.2
  simp only[jc,Xl,Xr,XI] at l ⊢
  obtain ⟨⟨⟨L,M⟩,N⟩,O⟩:=l
  refine ⟨⟨⟨by simpa [bP] using L,M⟩,by rw[h.af]; exact N⟩,fun s hs=>?_⟩
  simp only[bP,Xw] at hs
  obtain ⟨m,f,rfl⟩:=hs
  have B:=O m f
  by_cases C:m < 0
  ·rw[Xg C]
   have hl:=nY (A m f C)
   simp only[nz,gu,Xl]
   rw[Xd (by omega),decide_eq_false (p:=0≤-1 - bL o (-1 - m)) (by omega)]
   simp only[h.len,Xr,YS,Bool.not_false,and_true]
   omega
  ·rw[Xd C]
   simp only[nz,gu,h.af] at B ⊢
   rw[Xg (by omega)] at B ⊢
   exact B
end
inductive tX (g:ag):Int→Prop
 | mk (R:aW):R∈g.rules→(∀ s∈R.right,s < 0→tX g (-1 - s))→tX g R.left
inductive oO (g:ag) (p:List Bool):Int→Prop
 | start:oO g p g.start
 | next (R:aW) (s:Int):R∈g.rules→oO g p R.left→cE R.right p true=true→s∈R.right→s < 0→oO g p (-1 - s)
theorem xy {l:List Int} {p:List Bool} : cE l p true=true↔∀ s∈l,s < 0→p.getD (-1 - s).toNat false=true:=by
 simp only[cE,XI]
 constructor
 ·intro h s hs a
  have:=h s hs
  rwa [Xd (by omega)] at this
 ·intro h s hs
  by_cases a:s < 0
  ·rw[Xd (by omega)]; exact h s hs a
  ·rw[Xg (by omega)]
theorem B3 {l:List Bool} {i j:Nat} (h:(l.set i true).getD j false=true):j=i∨l.getD j false=true:=by
 by_cases e:i=j
 ·exact .inl e.symm
 ·right
  simp only[Xb,YC,Xd e] at h ⊢
  exact h
theorem Cu {g:ag} {i:Nat} : (cn g).getD i false=false:=by
 simp only[cn,Xb,YP]
 split <;> rfl
theorem zd {g:ag} (hr:bG g=true):∀ i:Nat,(au g true).getD i false=true→tX g i:=by
 have j:=bJ hr
 have b:∀ (is:List Bool) (R:aW),R∈g.rules→(∀ i:Nat,is.getD i false=true→tX g i)→∀ i:Nat,(eC true is R).getD i false=true→tX g i:=by
  intro is R f h i hi
  unfold eC at hi
  split at hi
  ·rename_i k
   rcases B3 hi with rfl | hi
   ·have:=j.left R f
    have e:((R.left.toNat:Nat):Int)=R.left:=by omega
    rw[e]
    refine .mk R f fun s hs m=>?_
    have:=h _ (xy.1 k s hs m)
    rwa [show (((-1 - s).toNat:Nat):Int) = -1 - s by omega] at this
   ·exact h i hi
  ·exact h i hi
 have a:∀ (l:List aW) (is:List Bool),(∀ R∈l,R∈g.rules)→(∀ i:Nat,is.getD i false=true→tX g i)→∀ i:Nat,(l.foldl (eC true) is).getD i false=true→tX g i:=by
  intro l
  induction l with
  | nil=>intro is _ h; exact h
  | cons R l c=>intro is hl h; exact c _ (fun x o=>hl x (by simp[o])) (b is R (hl R (by simp)) h)
 have d:∀ (n:Nat) (is:List Bool),(∀ i:Nat,is.getD i false=true→tX g i)→∀ i:Nat,(iter (kC g true) n is).getD i false=true→tX g i:=by
  intro n
  induction n with
  | zero=>intro is h; exact h
  | succ n c=>intro is h; exact c _ (a g.rules is (fun _ h=>h) h)
 rw[au,Xg hr]
 exact d _ _ fun i hi=>by rw[Cu] at hi; simp at hi
theorem FQ (t:Bool) (is:List Bool) (R:aW):fT is (eC t is R):=by
 unfold eC
 split
 ·exact .set _ _
 ·exact .refl _
theorem Gb (t:Bool):∀ (l:List aW) (is:List Bool),fT is (l.foldl (eC t) is)
 | [],is=>.refl _
 | R :: l,is=>(FQ t is R).trans (Gb t l _)
theorem Dm {t:Bool} : ∀ {l:List aW} {is:List Bool},l.foldl (eC t) is=is→∀ R∈l,eC t is R=is
 | [],_,_,_,h=>by simp at h
 | R :: l,is,h,x,a=>by
  rw[XC] at h
  have h1:=Gb t l (eC t is R)
  rw[h] at h1
  have b:=(h1.HJ (FQ t is R))
  rcases Xs.1 a with rfl | a
  ·exact b
  ·rw[b] at h; exact Dm h x a
theorem Qd {g:ag} (hr:bG g=true) (t:Bool):kC g t (au g t)=au g t:=by
 have a:=bJ hr
 have h:=uh (mM t) g.rules 16 (cn g) (by have:=a.ak; simp[cn]; omega)
 rw[LB,G5 hr] at h
 exact h.1
theorem tq {g:ag} (hr:bG g=true) {t:Bool} {R:aW} (a:R∈g.rules) (b:cE R.right (au g t) t=true):(au g t).getD R.left.toNat false=true:=by
 have h1:=Dm (Qd hr t) R a
 have c:=bJ hr
 have hl:=gT hr t
 have d:=c.left R a
 unfold eC at h1
 rw[Xg b] at h1
 rw[← h1]
 simp only[Xb]
 rw[Y3 (by omega)]
 rfl
theorem zS {g:ag} (hr:bG g=true) {x:Int} (h:tX g x):(au g true).getD x.toNat false=true:=by
 induction h with
 | mk R a _ b=>exact tq hr a (xy.2 fun s hs c=>b s hs c)
theorem za {g:ag} (hr:bG g=true):∀ i:Nat,(bN g).getD i false=true→oO g (au g true) i:=by
 have m:=bJ hr
 have e:∀ (R:aW),R∈g.rules→oO g (au g true) R.left→cE R.right (au g true) true=true→∀ (l:List Int) (is:List Bool),(∀ s∈l,s∈R.right)→(∀ i:Nat,is.getD i false=true→oO g (au g true) i)→∀ i:Nat,(l.foldl mark is).getD i false=true→oO g (au g true) i:=by
  intro R d hl b l
  induction l with
  | nil=>intro is _ h; exact h
  | cons s l c =>
   intro is hs h
   refine c _ (fun x f=>hs x (by simp[f])) fun i hi=>?_
   unfold mark at hi
   split at hi
   ·rename_i o
    rcases B3 hi with rfl | hi
    ·rw[show (((-1 - s).toNat:Nat):Int) = -1 - s by omega]
     exact .next R s d hl b (hs s (by simp)) o
    ·exact h i hi
   ·exact h i hi
 have j:∀ (is:List Bool) (R:aW),R∈g.rules→(∀ i:Nat,is.getD i false=true→oO g (au g true) i)→∀ i:Nat,(gz (au g true) is R).getD i false=true→oO g (au g true) i:=by
  intro is R d h
  unfold gz
  split
  ·rename_i b
   rw[Xl] at b
   have h1:=h _ b.1
   have:=m.left R d
   rw[show ((R.left.toNat:Nat):Int)=R.left by omega] at h1
   exact e R d h1 b.2 R.right is (fun _ h=>h) h
  ·exact h
 have a:∀ (l:List aW) (is:List Bool),(∀ R∈l,R∈g.rules)→(∀ i:Nat,is.getD i false=true→oO g (au g true) i)→∀ i:Nat,(l.foldl (gz (au g true)) is).getD i false=true→oO g (au g true) i:=by
  intro l
  induction l with
  | nil=>intro is _ h; exact h
  | cons R l c=>intro is hl h; exact c _ (fun x f=>hl x (by simp[f])) (j is R (hl R (by simp)) h)
 have k:∀ (n:Nat) (is:List Bool),(∀ i:Nat,is.getD i false=true→oO g (au g true) i)→∀ i:Nat,(iter (pB g (au g true)) n is).getD i false=true→oO g (au g true) i:=by
  intro n
  induction n with
  | zero=>intro is h; exact h
  | succ n c=>intro is h; exact c _ (a g.rules is (fun _ h=>h) h)
 rw[bN,Xg hr]
 refine k _ _ fun i hi=>?_
 rcases B3 hi with rfl | hi
 ·have:=m.kA
  rw[show ((g.start.toNat:Nat):Int)=g.start by omega]
  exact .start
 ·rw[Cu] at hi; simp at hi
theorem zD {g:ag} (hr:bG g=true) {x:Int} (h:oO g (au g true) x):(bN g).getD x.toNat false=true:=by
 induction h with
 | start=>exact uU hr
 | next R s a _ b hs c d=>exact xu hr a (by rw[cb,d,b]; rfl) hs c
section
variable {g r:ag} {p q:List Bool} {o:List Int}
theorem jX.WQ (h:jX g p q o r) {x:Int} (hd:tX g x):x∈o→tX r (bL o x):=by
 induction hd with
 | mk R i b j =>
  intro k
  obtain ⟨n,l,c,m⟩:=h.from_ _ k
  have hk:cb p q R=true:=by
   rw[cb,Xl] at c ⊢
   refine ⟨by rw[← m]; exact c.1,?_⟩
   rw[h.pe]
   exact xy.2 fun s hs a=>zS h.right (b s hs a)
  have e:=(h.kept R i hk).2
  have hm:bP (bL o) R∈r.rules:=by rw[h.rules]; exact Xw.2 ⟨R,XY.2 ⟨i,hk⟩,rfl⟩
  refine tX.mk (bP (bL o) R) hm fun t d f=>?_
  simp only[bP,Xw] at d
  obtain ⟨s,hs,rfl⟩:=d
  by_cases a:s < 0
  ·rw[Xg a]
   have:=j s hs a (e s hs a)
   rwa [show -1 - (-1 - bL o (-1 - s))=bL o (-1 - s) by omega]
  ·rw[Xd a] at f; omega
theorem jX.VI (h:jX g p q o r) {x:Int} (a:x∈o):(au r true).getD (bL o x).toNat false=true:=by
 obtain ⟨R,c,hk,rfl⟩:=h.from_ _ a
 rw[cb,Xl,h.pe] at hk
 have h1:=tq h.right c hk.2
 have b:=zd h.right _ h1
 have:=(h.inside _ a)
 rw[show ((R.left.toNat:Nat):Int)=R.left by omega] at b
 exact zS h.zW (h.WQ b a)
theorem jX.at_ (h:jX g p q o r) {k:Nat} (hk:k < o.length):∃ x∈o,bL o x=k∧o[k]?=some x:=⟨o[k],Xm _,KH h.nodup (Xc hk),Xc hk⟩
theorem jX.FU (h:jX g p q o r) {k:Nat} (hk:k < o.length):(au r true).getD k false=true:=by
 obtain ⟨x,a,h1,_⟩:=h.at_ hk
 have:=h.VI a
 rwa [h1,Xy] at this
theorem jX.Vo (h:jX g p q o r) {R:aW} (a:R∈r.rules):cE R.right (au r true) true=true:=by
 have b:=bJ h.zW
 refine xy.2 fun s hs c=>h.FU ?_
 have:=b.neg a hs c
 rw[h.len] at this
 omega
theorem jX.W9 (h:jX g p q o r) {x:Int} (hd:oO g (au g true) x):oO r (au r true) (bL o x):=by
 induction hd with
 | start=>rw[← h.Jr]; exact .start
 | next R s b h1 d hs c e =>
  have hk:cb p q R=true:=by
   rw[cb,h.pe,h.qe,d,zD h.right h1]; rfl
  have hm:bP (bL o) R∈r.rules:=by rw[h.rules]; exact Xw.2 ⟨R,XY.2 ⟨b,hk⟩,rfl⟩
  have a:=(h.kept R b hk).2 s hs c
  have f:=nY a
  have:=oO.next (g:=r) (p:=au r true) (bP (bL o) R) (-1 - bL o (-1 - s)) hm e (h.Vo hm) (by
   simp only[bP,Xw]
   exact ⟨s,hs,by rw[Xg c]⟩) (by omega)
  rwa [show -1 - (-1 - bL o (-1 - s))=bL o (-1 - s) by omega] at this
theorem jX.OU (h:jX g p q o r) {k:Nat} (hk:k < o.length):(bN r).getD k false=true:=by
 obtain ⟨x,b,h1,_⟩:=h.at_ hk
 obtain ⟨R,d,a,rfl⟩:=h.from_ _ b
 rw[cb,Xl,h.qe] at a
 have c:=za h.right _ a.1
 have:=(h.inside _ b)
 rw[show ((R.left.toNat:Nat):Int)=R.left by omega] at c
 have:=zD h.zW (h.W9 c)
 rwa [h1,Xy] at this
end
def isRed (g:ag):Bool:=(fX g).2.2 == 0 && decide (g=(fX g).1)
def U6 (p:List Int) (i:Nat) (s:Int):Prop:=∃ c,p[i]?=some c∧(c=s∨c = -1)
structure Item where
 ax:Nat
 dot:Nat
 Ol:Nat
 deriving DecidableEq
structure WM (g:ag) (p:List Int) (S:Nat→List Item):Prop where
 start:∀ (i:Nat) (R:aW),g.rules[i]?=some R→R.left=g.start→⟨i,0,0⟩∈S 0
 term:∀ a x R s,x∈S a→g.rules[x.ax]?=some R→R.right[x.dot]?=some s→0≤s→U6 p a s→⟨x.ax,x.dot+1,x.Ol⟩∈S (a+1)
 pred:∀ a x R s i R',x∈S a→g.rules[x.ax]?=some R→R.right[x.dot]?=some s→s < 0→g.rules[i]?=some R'→R'.left = -1 - s→a≤p.length→⟨i,0,a⟩∈S a
 null:∀ a x R s,x∈S a→g.rules[x.ax]?=some R→R.right[x.dot]?=some s→s < 0→(au g false).getD (-1 - s).toNat false=true→a≤p.length→⟨x.ax,x.dot+1,x.Ol⟩∈S a
 comp:∀ a y R' x R s,y∈S a→g.rules[y.ax]?=some R'→y.dot=R'.right.length→y.Ol < a→x∈S y.Ol→g.rules[x.ax]?=some R→R.right[x.dot]?=some s→s < 0→R'.left = -1 - s→a≤p.length→⟨x.ax,x.dot+1,x.Ol⟩∈S a
abbrev Tb:=List (List (List Bool))
def ic (c:Cell):List V:=[gi c.kind,gi c.n]
abbrev lu (l:List Cell):V:=.aE (l.map ic)
def dO (t:sS):List V:=[.aE (t.bC.map fun r=>[lu r]),.aE (t.gotos.map fun r=>[encI r])]
theorem zq (c:Cell):∀ v∈ic c,Tree v:=by
 intro v a; simp[ic] at a; rcases a with rfl | rfl <;> exact .val _
theorem J3 (l:List Cell):Tree (lu l):=eN _ _ fun c _ v a=>zq c v a
theorem Bg (t:sS):∀ v∈dO t,Tree v:=by
 intro v a
 simp only[dO,Xs,List.not_mem_nil,or_false] at a
 rcases a with rfl | rfl
 ·exact eN _ _ fun r _ v a=>by simp at a; subst a; exact J3 r
 ·exact eN _ _ fun r _ v a=>by simp at a; subst a; exact gp r
structure sS.Ok (t:sS):Prop where
 bC:aL t.bC
 gotos:aL t.gotos
 row:∀ r∈t.bC,aL r∧∀ c∈r,cy c.kind∧cy c.n
 go:∀ r∈t.gotos,aL r∧∀ x∈r,cy x
def qZ:SF:=⟨ae [ab [cI 3 0,cI 4 1,cI 5 2,bu 6 false],ae [ab [ao 7 0 5,aj 8 7],.block 0 (ae [ae [ab [aH 10 .eql 8 0,aa 9 10],bY 9 (ab [aH 11 .eql 8 3,aa 9 11])],.cond (.tmp 9) (ae [ab [ao 12 1 5,aj 13 12,aH 14 .eql 13 0,aa 6 14],.ret]) (ae [ab [aH 16 .eql 8 1,aa 15 16],.cond (.tmp 15) (ae [.region false [⟨none,[ao 17 1 5,aj 18 17,aH 19 .geq 18 0,aa 20 19]⟩,⟨(some (20,true)),[ao 21 1 5,aj 22 21,ao 23 0 4,aj 24 23,aN 25 24,aV 26 .lss 22 25]⟩,⟨none,[eJ 27 20 26,aa 6 27]⟩],.ret]) (ae [ab [aH 29 .eql 8 2,aa 28 29],bf 28 (ae [.region false [⟨none,[ao 30 1 5,aj 31 30,aH 32 .geq 31 0,aa 33 32]⟩,⟨(some (33,true)),[ao 34 1 5,aj 35 34,ao 36 2 3,aj 37 36,aN 38 37,aV 39 .lss 35 38]⟩,⟨none,[eJ 40 33 39,aa 6 40]⟩],.ret])])])])],ab [bu 6 false],.ret],
 [.tmp 6],41⟩
theorem wz:aR Tryz.prog 93 [3,4,5]=some qZ:=by kernel_rfl
def ou:SC :=
 ae [ae [ab [aa 62 6,ao 63 0 3,aj 64 63,aa 65 5,aQ 66 1 64 65,aj 67 66,aN 68 67,aV 69 .lss 62 68],bY 69 (.exit 2)],.block 3 (ae [ab [bg 72 4 2,bg 73 2 3,ao 74 0 3,aj 75 74,aa 76 5,aQ 77 1 75 76,aj 78 77,aa 79 6,aQ 80 2 78 79,bg 81 2 80,bz 82 93 [72,73,81],de 83 82],bf 83 (ae [ab [bu 4 false],.ret])]),ab [aa 70 6,aH 71 .add 70 1,aa 6 71]]
def nL:SC :=
 ae [ae [ab [aa 84 7,ao 85 1 3,aj 86 85,aa 87 5,aQ 88 1 86 87,aj 89 88,aN 90 89,aV 91 .lss 84 90],bY 91 (.exit 4)],.block 5 (ae [.region false [⟨none,[ao 94 1 3,aj 95 94,aa 96 5,aQ 97 1 95 96,aj 98 97,aa 99 7,aQ 100 1 98 99,aj 101 100,aH 102 .lss 101 (-1),aa 103 102]⟩,⟨(some (103,false)),[ao 104 1 3,aj 105 104,aa 106 5,aQ 107 1 105 106,aj 108 107,aa 109 7,aQ 110 1 108 109,aj 111 110,ao 112 0 3,aj 113 112,aN 114 113,aV 115 .geq 111 114]⟩,⟨none,[cz 116 103 115]⟩],bf 116 (ae [ab [bu 4 false],.ret])]),ab [aa 92 7,aH 93 .add 92 1,aa 7 93]]
def nP:SC :=
 ae [ae [ab [aa 32 5,ao 33 0 3,aj 34 33,aN 35 34,aV 36 .lss 32 35],bY 36 (.exit 0)],.block 1 (ae [ae [.region false [⟨none,[ao 39 0 3,aj 40 39,aa 41 5,aQ 42 1 40 41,aj 43 42,aN 44 43,ao 45 0 2,aj 46 45,aN 47 46,aH 48 .add 47 1,aV 49 .neq 44 48,aa 50 49]⟩,⟨(some (50,false)),[ao 51 1 3,aj 52 51,aa 53 5,aQ 54 1 52 53,aj 55 54,aN 56 55,ao 57 1 2,aj 58 57,aN 59 58,aV 60 .neq 56 59]⟩,⟨none,[cz 61 50 60]⟩],bf 61 (ae [ab [bu 4 false],.ret])],ae [ab [aS 6 0],b6 2 ou],ab [aS 7 0],b6 4 nL]),ab [aa 37 5,aH 38 .add 37 1,aa 5 38]]
def p8:SF:=⟨ae [ab [cI 2 0,cI 3 1,bu 4 false],ae [.region false [⟨none,[bg 8 4 2,bz 9 54 [8],de 10 9,aa 11 10]⟩,⟨(some (11,false)),[ao 12 0 3,aj 13 12,aN 14 13,aH 15 .lss 14 1]⟩,⟨none,[cz 16 11 15,aa 17 16]⟩,⟨(some (17,false)),[ao 18 0 3,aj 19 18,aN 20 19,aH 21 .gtr 20 300]⟩,⟨none,[cz 22 17 21,aa 23 22]⟩,⟨(some (23,false)),[ao 24 1 3,aj 25 24,aN 26 25,ao 27 0 3,aj 28 27,aN 29 28,aV 30 .neq 26 29]⟩,⟨none,[cz 31 23 30]⟩],bf 31 (ae [ab [bu 4 false],.ret])],ae [ab [aS 5 0],b6 0 nP],ab [bu 4 true],.ret],
 [.tmp 4],117⟩
theorem vl:aR Tryz.prog 48 [2,3]=some p8:=by kernel_rfl
theorem Qj (g:ag) (t:sS) (c:Cell):aA Tryz.prog 93 [.agg (ai g),.agg (dO t),.agg (ic c)] (gb (jK g t.bC.length c)):=by
 refine aA.val (by
  intro v a; simp at a
  rcases a with rfl | rfl | rfl
  ·exact cq _ (dE g)
  ·exact cq _ (Bg t)
  ·exact cq _ (zq c)) fun H=>?_
 refine aw.of mixed wz ?_
 unfold jK
 simp (disch:=omega)only[↓wr,seval,wq,qZ,ic,dO,ai,encS]
 repeat' (first | (refine ah.dec (fun _=>?_) (fun _=>?_)) | (refine ah.eq (fun _=>?_) (fun _=>?_)) | (refine ah.ne (fun _=>?_) (fun _=>?_)) | (refine ah.split (fun _=>?_) (fun _=>?_)) | (simp (disch:=omega)only[↓wr,seval,wq,ic,dO,ai,encS]))
 all_goals simp_all
 all_goals first
  | omega
  | rfl
theorem Mm {g:ag} {t:sS} {i:Nat} (hi:i < t.bC.length) (h:yE g t.bC.length (t.bC.getD i []) (t.gotos.getD i [])=false):lD g t=false:=by
 rw[Bool.eq_false_iff]
 intro hr
 have:=(AT hr).row i hi
 rw[h] at this; simp at this
theorem TW (g:ag) (t:sS):∀ v∈[V.agg (ai g),.agg (dO t)],Tree v:=by
 intro v a; simp at a
 rcases a with rfl | rfl
 ·exact cq _ (dE g)
 ·exact cq _ (Bg t)
theorem MA (g:ag) (B:g.Ok) (t:sS) (y:t.Ok):aA Tryz.prog 48 [.agg (ai g),.agg (dO t)] (gb (lD g t)):=by
 refine aA.val (TW g t) fun H=>?_
 have z:=sJ g B
 have h1:=y.bC
 have L:=y.gotos
 have M:=B.af
 have N:=B.ak
 unfold aL at h1 L M N
 refine aw.of mixed vl ?_
 simp only[ai,encS] at z
 simp (disch:=omega)only[↓wr,seval,wq,p8,ai,encS,dO]
 refine ay.pure z ?_
 have n:(bG g && decide (1≤t.bC.length) && decide (t.bC.length≤300) && decide (t.gotos.length=t.bC.length))=false→lD g t=false:=fun h=>by unfold lD; rw[h]; rfl
 simp (disch:=omega)only[↓wr,seval,wq]
 apply ah.split<;>intro hr
 rotate_left
 ·simp (disch:=omega)only[↓wr,seval,wq]
  rw[n (by rw[hr]; rfl)]
 simp (disch:=omega)only[↓wr,seval,wq,dO]
 apply ah.dec<;>intro c1
 ·simp (disch:=omega)only[↓wr,seval,wq]
  rw[n (by rw[hr]; simp; omega)]
 simp (disch:=omega)only[↓wr,seval,wq,dO]
 apply ah.dec<;>intro c2
 ·simp (disch:=omega)only[↓wr,seval,wq]
  rw[n (by rw[hr]; simp; omega)]
 simp (disch:=omega)only[↓wr,seval,wq,dO]
 apply ah.ne<;>intro O
 ·simp (disch:=omega)only[↓wr,seval,wq]
  rw[n (by rw[hr]; simp; omega)]
 simp (disch:=omega)only[↓wr,seval,wq]
 have W:=bJ hr
 refine aU.up t.bC.length (fun i T H'=>(∀ k,k < i→yE g t.bC.length (t.bC.getD k []) (t.gotos.getD k [])=true)∧T 2=.aJ (ai g) 0∧T 3=.aJ (dO t) 0∧T 5=gi i) ⟨fun k hk=>by omega,rfl,rfl,rfl⟩ ?_
 rintro i k T H' hk ⟨p,t2,t3,t5⟩
 simp (disch:=omega)only[↓wr,seval,wq,nP,t2,t3,t5,dO]
 apply ah.dec<;>intro hd
 rotate_left
 ·simp (disch:=omega)only[↓wr,seval,wq]
  rw[show lD g t=true from by
   unfold lD
   rw[hr]
   simp only[Xl,Xr,XI,XU,Ys]
   exact ⟨⟨⟨by omega,by omega⟩,by omega⟩,fun k hk=>p k (by omega)⟩]
 have hi:i < t.bC.length:=by omega
 have v:t.bC[i]?=some (t.bC.getD i []):=getD_some hi
 have hl:t.gotos[i]?=some (t.gotos.getD i []):=getD_some (by omega)
 have C:=y.row _ (Xi v)
 have D:=y.go _ (Xi hl)
 have b:=@Mm g t i hi
 generalize P:t.bC.getD i []=a at v C b
 generalize el:t.gotos.getD i []=l at hl D b
 have f:yE g t.bC.length a l=(decide (a.length=g.af.length+1) && decide (l.length=g.ak.length) && a.all (jK g t.bC.length) && l.all fun x=>decide (-1≤x) && decide (x < t.bC.length)):=rfl
 obtain ⟨Q,C⟩:=C
 obtain ⟨sl,D⟩:=D
 unfold aL at Q sl
 simp (disch:=omega)only[↓wr,seval,wq,t2,t3,t5,dO,ai,encS,Xf,v,hl,Xk]
 apply ah.ne<;>intro d1
 ·simp (disch:=omega)only[↓wr,seval,wq]
  rw[b (by rw[f]; simp; omega)]
 simp (disch:=omega)only[↓wr,seval,wq,t2,t3,t5,dO,ai,encS,encI,Xf,v,hl,Xk]
 apply ah.ne<;>intro d2
 ·simp (disch:=omega)only[↓wr,seval,wq]
  rw[b (by rw[f]; simp; omega)]
 simp (disch:=omega)only[↓wr,seval,wq,t2,t3,t5]
 refine aU.up a.length (fun j T H'=>(∀ k,k < j→jK g t.bC.length (a.getD k ⟨0,0⟩)=true)∧T 2=.aJ (ai g) 0∧T 3=.aJ (dO t) 0∧T 5=gi i∧T 6=gi j) ⟨fun k hk=>by omega,t2,t3,t5,rfl⟩ ?_
 rintro j X Y R E ⟨r,t2,t3,t5,t6⟩
 simp (disch:=omega)only[↓wr,seval,wq,ou,t2,t3,t5,t6,dO,ai,encS,Xf,v,Xk]
 apply ah.dec<;>intro S
 ·have s:a[j]?=some (a.getD j ⟨0,0⟩):=getD_some (by omega)
  have d:=Xi s
  generalize F:a.getD j ⟨0,0⟩=c at s d
  have m:=Qj g t c
  simp only[ai,encS,dO,ic] at m
  simp (disch:=omega)only[↓wr,seval,wq,t2,t3,t5,t6,dO,ai,encS,Xf,v,s,Xk,ic]
  refine ay.pure m ?_
  simp (disch:=omega)only[↓wr,seval,wq]
  apply ah.split<;>intro u
  ·simp (disch:=omega)only[↓wr,seval,wq,t2,t3,t5,t6]
   exact aF E (by omega) ⟨fun k hk=>by
    by_cases e:k=j
    ·subst e; rw[F]; exact u
    ·exact r k (by omega),t2,t3,t5,rfl⟩
  ·simp (disch:=omega)only[↓wr,seval,wq]
   rw[b (by
    rw[f,Bool.eq_false_iff]
    intro h
    simp only[Xl,XI] at h
    have:=h.1.2 c d
    rw[u] at this; simp at this)]
 simp (disch:=omega)only[↓wr,seval,wq,t2,t3,t5]
 refine aU.up l.length (fun j T H'=>(∀ k,k < j→-1≤l.getD k 0∧l.getD k 0 < t.bC.length)∧T 2=.aJ (ai g) 0∧T 3=.aJ (dO t) 0∧T 5=gi i∧T 7=gi j) ⟨fun k hk=>by omega,t2,t3,t5,rfl⟩ ?_
 rintro A k2 Z H2 G ⟨w,t2,t3,t5,t7⟩
 simp (disch:=omega)only[↓wr,seval,wq,nL,t2,t3,t5,t7,dO,encI,Xf,hl,Xk]
 apply ah.dec<;>intro I
 ·have o:l[A]?=some (l.getD A 0):=getD_some (by omega)
  have d:=Xi o
  generalize F:l.getD A 0=x at o d
  have bad:¬(-1≤x∧x < (t.bC.length:Int))→yE g t.bC.length a l=false:=fun U=>by
   rw[f,Bool.eq_false_iff]
   intro h
   simp only[Xl,XI,Xr] at h
   exact U (h.2 x d)
  simp (disch:=omega)only[↓wr,seval,wq,t2,t3,t5,t7,dO,encI,Xf,hl,o,Xk]
  apply ah.dec<;>intro J
  ·simp (disch:=omega)only[↓wr,seval,wq]
   rw[b (bad (by omega))]
  simp (disch:=omega)only[↓wr,seval,wq,t2,t3,t5,t7,dO,encI,Xf,hl,o,Xk]
  apply ah.dec<;>intro V
  ·simp (disch:=omega)only[↓wr,seval,wq]
   rw[b (bad (by omega))]
  ·simp (disch:=omega)only[↓wr,seval,wq,t2,t3,t5,t7]
   exact aF G (by omega) ⟨fun k hk=>by
    by_cases e:k=A
    ·subst e; rw[F]; omega
    ·exact w k (by omega),t2,t3,t5,rfl⟩
 ·simp (disch:=omega)only[↓wr,seval,wq,t2,t3,t5]
  refine aF hk (by omega) ⟨fun k hk=>?_,t2,t3,rfl⟩
  by_cases e:k=i
  ·subst e
   rw[P,el,f]
   simp only[Xl,XI,Xr]
   refine ⟨⟨⟨by omega,by omega⟩,fun c z=>?_⟩,fun x J=>?_⟩
   ·obtain ⟨q,hq⟩:=List.mem_iff_getElem?.1 z
    have K:=(Xq.1 hq).1
    have:=r q (by omega)
    rwa [Xb,hq] at this
   ·obtain ⟨q,hq⟩:=List.mem_iff_getElem?.1 J
    have K:=(Xq.1 hq).1
    have:=w q (by omega)
    rwa [Xb,hq] at this
  ·exact p k (by omega)
theorem UO:wu.Ok:=by
 refine ⟨by unfold aL; decide,by unfold aL; decide,by unfold aL; decide,by unfold cy; decide,?_,?_⟩
 ·intro t a; simp[wu] at a
 ·intro r hr; simp[wu] at hr
section
variable {g r:ag} {p q:List Bool} {o:List Int}
end
theorem bytes_beq (a b:ByteArray):(a == b)=decide (a=b):=by
 cases a with | mk a=>cases b with | mk b =>
 rw[Yl]
 show (ByteArray.beq ⟨a⟩ ⟨b⟩=true)↔_
 simp only[ByteArray.beq]
 simp
theorem FY (a b:ByteArray):jo a b=decide (a=b):=by
 cases a with | mk a=>cases b with | mk b =>
 rw[Yl]
 simp[jo]
theorem qt {α:Type} {a b:List α} {i:Nat} {x y:α} (c:a[i]?=some x) (d:b[i]?=some y) (h:a.take i=b.take i) (e:x=y):a.take (i+1)=b.take (i+1):=by
 rw[XH,XH,h,c,d,e]
theorem tM {α:Type} {a b:List α} {i:Nat} (c:a.length≤i) (d:b.length≤i) (h:a.take i=b.take i):a=b:=by
 rwa [Xv c,Xv d] at h
theorem xz {α:Type} {a b:List α} {i:Nat} {x y:α} (d:a[i]?=some x) (c:b[i]?=some y) (e:x≠y):a≠b:=by
 rintro rfl; rw[d] at c; exact e (by simpa using c)
theorem tL {α:Type} {a b:List α} (h:¬ a.length=b.length):a≠b:=fun e=>h (by rw[e])
theorem Bp (x y:Term):gI Tryz.prog 9998 #[.string x.name,.int .i64 x.level,.int .i64 x.assoc] #[.string y.name,.int .i64 y.level,.int .i64 y.assoc]
  [{ name:= "Name",type:=9,offset:=0,embedded:=false,tag:= "",pkgPath:= "",byteOffset:=0 },{ name:= "Level",type:=3,offset:=1,embedded:=false,tag:= "",pkgPath:= "",byteOffset:=16 },
   { name:= "Assoc",type:=3,offset:=2,embedded:=false,tag:= "",pkgPath:= "",byteOffset:=24 }] (x.name == y.name && (x.level == y.level && (x.assoc == y.assoc && true))) :=
 .str _ _ _ _ _ (by decide) Tryz.underlying9 rfl rfl (.int _ _ _ _ _ _ (by decide) Tryz.underlying3 rfl rfl (.int _ _ _ _ _ _ (by decide) Tryz.underlying3 rfl rfl .nil))
theorem LF (x y:Term):(x.name == y.name && (x.level == y.level && (x.assoc == y.assoc && true)))=decide (x=y):=by
 rw[bytes_beq,Yl]
 cases x; cases y
 simp
theorem TE (a b:Int):(a == b)=decide (a=b):=by rw[Yl]; simp
theorem QS (x y:aW):decide (x=y)=(decide (x.left=y.left) && (decide (x.prec=y.prec) && decide (x.right=y.right))):=by
 cases x; cases y
 rw[Yl]
 simp[and_comm]
theorem Jp (x y:ag):decide (x=y)=(decide (x.af=y.af) && (decide (x.ak=y.ak) && (decide (x.rules=y.rules) && decide (x.start=y.start)))):=by
 cases x; cases y
 rw[Yl]
 simp
theorem FZ (g k:ag):∀ v∈[V.agg (ai g),V.agg (ai k)],Tree v:=by
 intro v a; simp at a
 rcases a with rfl | rfl <;> exact cq _ (dE _)
def oK:SC :=
 ae [ae [ab [aa 42 5,ao 43 0 2,aj 44 43,aN 45 44,aV 46 .lss 42 45],bY 46 (.exit 0)],.block 1 (ae [ab [ao 49 0 2,aj 50 49,aa 51 5,aQ 52 3 50 51,bg 53 3 52,ao 54 0 3,aj 55 54,aa 56 5,aQ 57 3 55 56,bg 58 3 57,((some 59),.op (.old (.binOp .neq 129 (.tmp 53) (.tmp 58) 129) 4))],bf 59 (ae [ab [bu 4 false],.ret])]),ab [aa 47 5,aH 48 .add 47 1,aa 5 48]]
def oV:SC :=
 ae [ae [ab [aa 60 6,ao 61 1 2,aj 62 61,aN 63 62,aV 64 .lss 60 63],bY 64 (.exit 2)],.block 3 (ae [ab [ao 67 1 2,aj 68 67,aa 69 6,aQ 70 1 68 69,aj 71 70,ao 72 1 3,aj 73 72,aa 74 6,aQ 75 1 73 74,aj 76 75,((some 77),.op (.yc .neq (.tmp 71) (.tmp 76)))],bf 77 (ae [ab [bu 4 false],.ret])]),ab [aa 65 6,aH 66 .add 65 1,aa 6 66]]
def oG:SC :=
 ae [ae [ab [aa 78 7,ao 79 2 2,aj 80 79,aN 81 80,aV 82 .lss 78 81],bY 82 (.exit 4)],.block 5 (ae [ab [ao 85 2 2,aj 86 85,aa 87 7,aQ 88 3 86 87,bg 89 3 88,ao 90 2 3,aj 91 90,aa 92 7,aQ 93 3 91 92,bg 94 3 93,((some 8),.op (.alloc [(.val (.int .i64 0)),(.emp 1),(.val (.int .i64 0))])),((some 9),.op (.alloc [(.val (.int .i64 0)),(.emp 1),(.val (.int .i64 0))])),bU 3 8 89,bU 3 9 94],.region false [⟨none,[ao 95 0 8,aj 96 95,ao 97 0 9,aj 98 97,aV 99 .neq 96 98,aa 100 99]⟩,⟨(some (100,false)),[ao 101 2 8,aj 102 101,ao 103 2 9,aj 104 103,aV 105 .neq 102 104]⟩,⟨none,[cz 106 100 105,aa 107 106]⟩,⟨(some (107,false)),[ao 108 1 8,aj 109 108,ao 110 1 9,aj 111 110,bz 112 37 [109,111],de 113 112]⟩,⟨none,[cz 114 107 113]⟩],bf 114 (ae [ab [bu 4 false],.ret])]),ab [aa 83 7,aH 84 .add 83 1,aa 7 84]]
def rF:SF:=⟨ae [ab [cI 2 0,cI 3 1,bu 4 false],ae [.region false [⟨none,[ao 10 0 2,aj 11 10,aN 12 11,ao 13 0 3,aj 14 13,aN 15 14,aV 16 .neq 12 15,aa 17 16]⟩,⟨(some (17,false)),[ao 18 1 2,aj 19 18,aN 20 19,ao 21 1 3,aj 22 21,aN 23 22,aV 24 .neq 20 23]⟩,⟨none,[cz 25 17 24,aa 26 25]⟩,⟨(some (26,false)),[ao 27 2 2,aj 28 27,aN 29 28,ao 30 2 3,aj 31 30,aN 32 31,aV 33 .neq 29 32]⟩,⟨none,[cz 34 26 33,aa 35 34]⟩,⟨(some (35,false)),[ao 36 3 2,aj 37 36,ao 38 3 3,aj 39 38,aV 40 .neq 37 39]⟩,⟨none,[cz 41 35 40]⟩],bf 41 (ae [ab [bu 4 false],.ret])],ae [ab [aS 5 0],b6 0 oK],ae [ab [aS 6 0],b6 2 oV],ae [ab [aS 7 0],b6 4 oG],ab [bu 4 true],.ret],
 [.tmp 4],115⟩
theorem vO:aR Tryz.prog 36 [2,3]=some rF:=by kernel_rfl
theorem QG (g k:ag) (o:g.Ok):aA Tryz.prog 36 [.agg (ai g),.agg (ai k)] (gb (decide (g=k))):=by
 refine aA.val (FZ g k) fun H=>?_
 rw[Jp]
 refine aw.of mixed vO ?_
 have h1:=o.af
 have v:=o.ak
 have w:=o.rules
 unfold aL at h1 v w
 simp (disch:=omega)only[↓wr,seval,wq,rF,ai,encS]
 repeat' (first | (refine ah.dec (fun _=>?_) (fun _=>?_)) | (refine ah.eq (fun _=>?_) (fun _=>?_)) | (refine ah.ne (fun _=>?_) (fun _=>?_)) | (refine ah.split (fun _=>?_) (fun _=>?_)) | (simp (disch:=omega)only[↓wr,seval,wq,ai,encS]))
 ·rename_i e; rw[decide_eq_false (tL (by omega))]; rfl
 ·rename_i e; rw[decide_eq_false (p:=g.ak=k.ak) (tL (by omega))]; simp
 ·rename_i e; rw[decide_eq_false (p:=g.rules=k.rules) (tL (by omega))]; simp
 ·rename_i e; rw[decide_eq_false e]; simp
 rename_i A B C z
 refine aU.up g.af.length (fun i T _=>g.af.take i=k.af.take i∧T 2=.aJ (ai g) 0∧T 3=.aJ (ai k) 0∧T 5=gi i) ⟨by simp,rfl,rfl,rfl⟩ ?_
 rintro i m T H hm ⟨hi,t2,t3,t5⟩
 simp (disch:=omega)only[↓wr,seval,wq,oK,t2,t3,t5,ai,encS]
 apply ah.dec<;>intro d
 ·have a:=Xc (l:=g.af) (i:=i) (by omega)
  have b:=Xc (l:=k.af) (i:=i) (by omega)
  generalize g.af[i]'(by omega)=x at a
  generalize k.af[i]'(by omega)=y at b
  simp (disch:=omega)only[↓wr,seval,wq,t2,t3,t5,Xf,a,b,bW,ai,encS]
  refine jB (xs:=#[.string x.name,.int .i64 x.level,.int .i64 x.assoc]) (ys:=#[.string y.name,.int .i64 y.level,.int .i64 y.assoc]) Tryz.underlying129 (by kernel_rfl) (by kernel_rfl) ?_ ?_ (Bp x y) (.inr ⟨rfl,rfl⟩) ?_
  ·rfl
  ·rfl
  rw[LF]
  simp (disch:=omega)only[↓wr,seval,wq,t2,t3,t5]
  apply ah.split<;>intro e
  ·simp (disch:=omega)only[↓wr,seval,wq,t2,t3,t5]
   exact aF hm (by omega) ⟨qt a b hi (by simpa using e),t2,t3,rfl⟩
  ·simp (disch:=omega)only[↓wr,seval,wq,t2,t3,t5]
   rw[decide_eq_false (xz a b (by simpa using e))]; rfl
 have s:g.af=k.af:=tM (by omega) (by omega) hi
 simp (disch:=omega)only[↓wr,seval,wq,t2,t3,t5]
 clear hi d hm
 refine aU.up g.ak.length (fun i T _=>g.ak.take i=k.ak.take i∧T 2=.aJ (ai g) 0∧T 3=.aJ (ai k) 0∧T 6=gi i) ⟨by simp,t2,t3,rfl⟩ ?_
 clear t2 t3 t5 T H i m
 rintro i m T H hm ⟨hi,t2,t3,t5⟩
 simp (disch:=omega)only[↓wr,seval,wq,oV,t2,t3,t5,ai,encS]
 apply ah.dec<;>intro d
 ·have a:=Xc (l:=g.ak) (i:=i) (by omega)
  have b:=Xc (l:=k.ak) (i:=i) (by omega)
  generalize g.ak[i]'(by omega)=x at a
  generalize k.ak[i]'(by omega)=y at b
  simp (disch:=omega)only[↓wr,seval,wq,t2,t3,t5,Xf,a,b,bW,ai,encS,FY]
  apply ah.split<;>intro e
  ·simp (disch:=omega)only[↓wr,seval,wq,t2,t3,t5]
   exact aF hm (by omega) ⟨qt a b hi (by simpa using e),t2,t3,rfl⟩
  ·simp (disch:=omega)only[↓wr,seval,wq,t2,t3,t5]
   rw[decide_eq_false (p:=g.ak=k.ak) (xz a b (by simpa using e))]; simp
 have t:g.ak=k.ak:=tM (by omega) (by omega) hi
 simp (disch:=omega)only[↓wr,seval,wq,t2,t3,t5]
 clear hi d hm
 refine aU.up g.rules.length (fun i T _=>g.rules.take i=k.rules.take i∧T 2=.aJ (ai g) 0∧T 3=.aJ (ai k) 0∧T 7=gi i) ⟨by simp,t2,t3,rfl⟩ ?_
 clear t2 t3 t5 T H i m
 rintro i m T H hm ⟨hi,t2,t3,t5⟩
 simp (disch:=omega)only[↓wr,seval,wq,oG,t2,t3,t5,ai,encS]
 apply ah.dec<;>intro d
 ·have a:=Xc (l:=g.rules) (i:=i) (by omega)
  have b:=Xc (l:=k.rules) (i:=i) (by omega)
  have j:g.rules[i]'(by omega)∈g.rules:=Xm _
  generalize g.rules[i]'(by omega)=x at a j
  generalize k.rules[i]'(by omega)=y at b
  have q:=(o.ax x j).2.2.1
  simp (disch:=omega)only[↓wr,seval,wq,t2,t3,t5,Xf,a,b,aP,encI,ai,encS]
  intro n D
  try simp (disch:=omega)only[↓wr,seval,wq,t2,t3,t5,aP,encI]
  intro E r
  have c:=(cO r cJ).1
  try simp (disch:=omega)only[↓wr,seval,wq,t2,t3,t5,aP,encI,c,c.symm]
  have f:x≠y→V.val (Value.bool false)=V.val (Value.bool (decide (g.af=k.af) && (decide (g.ak=k.ak) && (decide (g.rules=k.rules) && decide (g.start=k.start))))):=fun e=>by
   rw[decide_eq_false (p:=g.rules=k.rules) (xz a b e)]; simp
  repeat' (first | (refine ah.dec (fun _=>?_) (fun _=>?_)) | (refine ah.eq (fun _=>?_) (fun _=>?_)) | (refine ah.ne (fun _=>?_) (fun _=>?_)) | (refine ah.split (fun _=>?_) (fun _=>?_)) | (refine ay.pure (TS x.right y.right q) ?_) | (simp (disch:=omega)only[↓wr,seval,wq,t2,t3,t5,aP,encI,c,c.symm]))
  ·rename_i e; exact f fun h=>e (by rw[h])
  ·rename_i e; exact f fun h=>e (by rw[h])
  ·rename_i u t s
   refine aF hm (by omega) ⟨qt a b hi ?_,t2,t3,rfl⟩
   cases x; cases y
   simp_all
  ·rename_i e; exact f fun h=>by rw[h] at e; simp at e
 ·have u:g.rules=k.rules:=tM (by omega) (by omega) hi
  simp (disch:=omega)only[↓wr,seval,wq,t2,t3,t5]
  simp[s,t,u,z]
end Gv
