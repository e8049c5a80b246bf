/-
  Part 10 of the proof: what the machine does and what the functions answer.
  Conditions: those that each lemma names.
-/
import Derived.Test.YtihmlbdfcmfbdaaGreatSGzB5I
set_option linter.unusedSimpArgs false
set_option linter.unusedVariables false
set_option maxRecDepth 100000
set_option maxHeartbeats 20000000
namespace Gv
open Go Go.Proofs
def wo:SC :=
 ae [ab [aQ 44 .lss 43 42],bS 44 (.exit 0),.block 1 (ae [ab [aa 45 43,aI 46 3 41 43,aY 47 3 46,((some 11),.op (.alloc [(.val (.int .i64 0)),(.emp 1),(.val (.int .i64 0))])),aa 10 45,bZ 3 11 47],ae [.region false [⟨none,[aa 48 6,ao 49 0 11,aj 50 49,aI 51 1 48 50,aj 52 51,c4 53 52,aa 54 53]⟩,⟨(some (54,false)),[aY 55 3 11,aa 56 5,bm 57 160 [55,56],c4 58 57]⟩,⟨none,[cF 59 54 58]⟩],bf 59 (.exit 1)],ab [aa 60 7,aa 61 10,((some 62),.op (.bW 1 1 [(.val (.int .i64 0))] [(0,(.tmp 61))])),gx 63 1 8 60 62,aa 7 63],ab [aa 65 9,ao 66 0 11,aj 67 66,((some 68),.op (.old (.lookup 204 (.tmp 65) (.tmp 67) true) 30)),aa 64 68,eP 69 0 64,eP 70 1 64,aa 12 69,aa 13 70],ab [aa 71 13,c4 72 71],bf 72 (ae [ab [aa 73 9,ao 74 0 11,aj 75 74,ao 76 1 8,aj 77 76,aM 78 77,(none,.op (.old (.mapUpdate 204 (.tmp 73) (.tmp 75) (.tmp 78)) 0))],.region false [⟨none,[ao 79 1 8,aj 80 79,ao 81 1 1,aj 82 81,ao 83 0 11,aj 84 83,aI 85 1 82 84,aj 86 85,((some 87),.op (.bW 1 1 [(.val (.string ⟨#[]⟩))] [(0,(.tmp 86))])),gx 88 1 16 80 87,ao 89 1 8,bZ 1 89 88]⟩]])]),ab [aF 90 .add 43 1,aa 43 90]]
def wx:SC :=
 ae [ab [aQ 116 .lss 115 114],bS 116 (.exit 4),.block 5 (ae [ab [aa 117 115,aI 118 1 113 115,aj 119 118,aa 18 117,aa 19 119],ab [aa 120 19,aF 121 .lss 120 0],bf 121 (ab [ao 122 1 17,aj 123 122,aa 124 18,aa 125 9,aa 126 19,((some 127),.op (.arith .sub (.val (.val (.int .i64 (-1)))) (.tmp 126))),((some 128),.op (.old (.lookup 204 (.tmp 125) (.tmp 127) false) 3)),((some 129),.op (.arith .sub (.val (.val (.int .i64 (-1)))) (.tmp 128))),aI 130 1 123 124,bZ 1 130 129])]),ab [aF 131 .add 115 1,aa 115 131]]
def wN:SC :=
 ae [ab [aQ 94 .lss 93 92],bS 94 (.exit 2),.block 3 (ae [ab [aI 95 1 91 93,aj 96 95,aa 15 96],ab [ao 97 2 1,aj 98 97,aa 99 15,aI 100 3 98 99,aY 101 3 100,((some 16),.op (.alloc [(.val (.int .i64 0)),(.emp 1),(.val (.int .i64 0))])),bZ 3 16 101],.region true [⟨none,[aa 102 9,ao 103 0 16,aj 104 103,((some 105),.op (.old (.lookup 204 (.tmp 102) (.tmp 104) false) 3)),ao 106 1 16,aj 107 106,bm 108 161 [107],ao 109 2 16,aj 110 109,((some 111),.op (.build [(.val (.int .i64 0)),(.emp 1),(.val (.int .i64 0))] [(0,1,(.tmp 105)),(1,1,(.tmp 108)),(2,1,(.tmp 110))])),((some 17),.op (.alloc [(.val (.int .i64 0)),(.emp 1),(.val (.int .i64 0))])),bZ 3 17 111]⟩],ae [ab [ao 112 1 17,aj 113 112,aM 114 113,aT 115 0],bX 4 wx],ab [ao 132 2 8,aj 133 132,aY 134 3 17,((some 135),.op (.bW 1 3 [(.val (.int .i64 0)),(.emp 1),(.val (.int .i64 0))] [(0,(.tmp 134))])),gx 136 3 40 133 135,ao 137 2 8,bZ 1 137 136]]),ab [aF 138 .add 93 1,aa 93 138]]
def Ak:SF:=⟨ae [ab [cy 1 0,((some 2),.op (.alloc [(.emp 1),(.emp 1),(.emp 1),(.val (.int .i64 0))])),cT 3 1,aT 4 0],ae [ab [aY 20 4 1,bm 21 52 [20],c4 22 21],bf 22 (ae [ab [((some 23),.op (.build [(.emp 1),(.emp 1),(.emp 1),(.val (.int .i64 0))] [])),bZ 4 2 23,cT 3 1,aT 4 1],.ret])],.region true [⟨none,[aY 24 4 1,bm 25 157 [24],aY 26 4 1,bm 27 158 [26],aa 5 25,aa 6 27]⟩],ae [ab [aa 28 5,ao 29 3 1,aj 30 29,aI 31 1 28 30,aj 32 31,c4 33 32],bf 33 (ae [ab [((some 34),.op (.build [(.emp 1),(.emp 1),(.emp 1),(.val (.int .i64 0))] [])),bZ 4 2 34,cT 3 1,aT 4 9],.ret])],ab [cT 7 1],ab [ao 35 0 1,aj 36 35,bm 37 159 [36],((some 38),.op (.build [(.emp 1),(.emp 1),(.emp 1),(.val (.int .i64 0))] [(0,1,(.tmp 37))])),((some 8),.op (.alloc [(.emp 1),(.emp 1),(.emp 1),(.val (.int .i64 0))])),bZ 4 8 38],ab [((some 39),.op (.p9)),aa 9 39],ae [ab [ao 40 2 1,aj 41 40,aM 42 41,aT 43 0],bX 0 wo],ae [ab [aa 91 7,aM 92 91,aT 93 0],bX 2 wN],ab [aa 139 9,ao 140 3 1,aj 141 140,((some 142),.op (.old (.lookup 204 (.tmp 139) (.tmp 141) false) 3)),ao 143 3 8,bZ 1 143 142],ab [aY 144 4 8,aa 145 7,bZ 4 2 144,aa 3 145,aT 4 0],.ret],
 [.cell 2 (some 4),.tmp 3,.tmp 4],146⟩
theorem D1:aO Tryz.prog 109 [1]=some Ak:=by kernel_rfl
abbrev Cb (m:bY Int):List (V × V × Nat):=cI (Value.int .i64) m
def X8 (g:ai) (p q:List Bool) (b2 b8 b9:Nat) (u0:V) (i:Nat) (T:Env) (H:View):Prop :=
 (∃ u1 u3:V,T 7=u3/\(∀ x∈cH p q (g.rules.take i),0<=x/\x < g.ak.length)/\(cH p q (g.rules.take i)).length<=i /\
  bk H [(.sl b8 0 1 4,4,[[u0,u1,.emp 1,gi 0]]),(u3,1,bK (dx p q (g.rules.take i) 0)),
   (u1,1,me ((cH p q (g.rules.take i)).map λx=>g.ak.getD x.toNat ⟨#[]⟩)),(u0,3,g.af.map cm),(.sl b2 0 1 4,4,[[.emp 1,.emp 1,.emp 1,gi 0]])] /\
  ∃ m c,H b9=.map (Cb m) c/\qM gi (kO (cH p q (g.rules.take i)) 0) m) /\
 T 1=.aH (ag g) 0/\T 2=.ptr b2 0 0/\T 5=bO p/\T 6=bO q/\T 8=.ptr b8 0 0/\T 9=.mp b9/\T 41=.aE (g.rules.map aU)/\T 42=gi g.rules.length/\T 43=gi i
theorem G5 {α:Type} {x s:α} : ∀ {a d:List α} {k:Nat},a.length=k->(a ++ s :: d).set k x=a ++ x :: d
 | [],d,k,h=>by simp at h;subst h;rfl
 | y :: a,d,k,h=>by
  cases k with
  | zero=>simp at h
  | succ k=>simp only[aa9,List.set_cons_succ];rw[G5 (by simpa using h)]
def ZG (g:ai) (p q:List Bool) (b2 b8 b9:Nat) (u0 u1 u3:V) (o kl:List Int) (mm:bY Int) (cc:Nat) (i:Nat) (T:Env) (H:View):Prop :=
 (∃ (u2:V) (bs:CB),bs.map (·.2)=((g.rules.filter (cw p q)).take i).map (bU (eQ o)) /\
  bk H ((.sl b8 0 1 4,4,[[u0,u1,u2,gi 0]]) :: (u3,1,bK kl) ::
   (u1,1,me (o.map λx=>g.ak.getD x.toNat ⟨#[]⟩)) :: (u0,3,g.af.map cm) :: (u2,3,jc bs) :: (.sl b2 0 1 4,4,[[.emp 1,.emp 1,.emp 1,gi 0]]) :: nV bs) /\
  H b9=.map (Cb mm) cc) /\
 T 1=.aH (ag g) 0/\T 2=.ptr b2 0 0/\T 7=u3/\T 8=.ptr b8 0 0/\T 9=.mp b9/\T 91=u3/\T 92=gi kl.length/\T 93=gi i
def ZD (g:ai) (b2 b8 b9 b16 b17:Nat) (u3 v:V) (o kl:List Int) (mm:bY Int) (cc:Nat) (r:bg) (L:List cx) (i k:Nat) (T:Env) (H:View):Prop :=
 bk H ((.sl b17 0 1 3,3,[[gi (eQ o r.left),v,gi r.prec]]) :: (v,1,bK ((bU (eQ o) r).right.take k ++ r.right.drop k)) :: (.sl b16 0 1 3,3,[aU r]) :: L) /\
 H b9=.map (Cb mm) cc/\T 1=.aH (ag g) 0/\T 2=.ptr b2 0 0/\T 7=u3/\T 8=.ptr b8 0 0/\T 9=.mp b9/\T 91=u3/\T 92=gi kl.length/\T 93=gi i/\T 17=.ptr b17 0 0/\T 113=v/\T 114=gi r.right.length/\T 115=gi k
theorem Mm (g:ai) (hg:g.Ok) (hs:g.Small):cW Tryz.prog 109 [.agg (ag g)] (z7 (if bC g=true then
  if (au g true).getD g.start.toNat false=true then (rI g (eQ (cH (au g true) (bT g) g.rules)) (au g true) (bT g),dx (au g true) (bT g) g.rules 0,0)
  else (yi,[],9)
 else (yi,[],1))):=by
 refine cW.of (eK g) ?_
 refine av.of mixed D1 ?_
 simp(disch:=omega)only[↓wr,seval,wq,Ak,ag,encS]
 intro Q
 try simp(disch:=omega)only[↓wr,seval,wq,ag,encS]
 refine ay.pure (mM g hg hs.names) ?_
 repeat' (first | ((first|apply ah.dec|apply ah.eq|apply ah.ne|apply ah.split)<;>intro)|(simp(disch:=omega)only[↓wr,seval,wq,ag,encS,set_set]))
 .rename_i hr
  rw[aaw hr]
  refine ay.pure (xK g hg hs).pure ?_
  simp(disch:=omega)only[↓wr,seval,wq,ag,encS]
  refine ay.pure (I6 g hg hs).pure ?_
  have hf:=bu hr
  have h3:=hf.lf
  have h4:=hf.start
  have c9:=fZ hr true
  have fs:=r8 hr
  generalize au g true=p at c9 ⊢
  generalize bT g=q at fs ⊢
  have cg:p[g.start.toNat]?=some (p[g.start.toNat]'(by omega)):=aar (by omega)
  have da:p.getD g.start.toNat false=p[g.start.toNat]'(by omega):=by simp[aaq,cg]
  generalize p[g.start.toNat]'(by omega)=s at cg da
  rw[da]
  simp(disch:=omega)only[↓wr,seval,wq,ag,encS,bO,aav,cg]
  cases s with
  | false =>
   simp(disch:=omega)only[↓wr,seval,wq,ag,encS,set_set]
   rintro h' hh
   exact yP
  | true =>
   simp(disch:=omega)only[↓wr,seval,wq,ag,encS,set_set]
   have hN:=hf.ak
   have hP:=hf.p7
   have hT:=hf.af
   have hR:=hf.rules
   refine ay.dr ((Rj g.af (by omega) _).mono ?_)
   rintro B H1 ⟨ft,K⟩
   have bd:=(bk.nil.new (H:=λ_=>di.dead) (n:=Q) rfl 4 [[.emp 1,.emp 1,.emp 1,gi 0]]).Ka ft K
   have c0:=bd.head.cells
   have k0:=bd.head.iO
   simp(disch:=omega)only[↓wr,seval,wq,ag,encS,c0,k0]
   intro O db
   have dc:=bd.new db 4 [[B,.emp 1,.emp 1,gi 0]]
   try simp(disch:=omega)only[↓wr,seval,wq,ag,encS,c0,k0,set_set]
   intro d R
   have b5:=(df R c7).1
   have R:=(df (df R c7).2 c7).2
   have f:=(((dc.fresh (n:=d) (o:=.map [] 0) (by simp only[View.set,aat b5];exact R)).emp (k:=1) (sz:=1)).emp (k:=1) (sz:=1)).perm Eg.symm
   try simp(disch:=omega)only[↓wr,seval,wq,ag,encS,c0,k0,set_set]
   refine aS.up g.rules.length (X8 g p q Q O d B) ?_ ?_
   .refine⟨⟨.emp 1,.emp 1,rfl,by simp[cH],by simp[cH],by rw[set_set];exact f,[],0,by simp[View.set,cI],trivial⟩,rfl,rfl,rfl,rfl,rfl,rfl,rfl,rfl,rfl⟩
   clear bd dc f db R b5
   rintro i k T H2 hk ⟨⟨G,u3,t7,bl,ch,A,mm,C,j,D⟩,t1,t2,t5,t6,t8,t9,t41,t42,t43⟩
   simp(disch:=omega)only[↓wr,seval,wq,wo,t1,t2,t5,t6,t7,t8,t9,t41,t42,t43,ag]
   apply ah.dec<;>intro hc
   .have E:g.rules[i]?=some (g.rules[i]'(by omega)):=aar (by omega)
    have l:g.rules[i]'(by omega)∈g.rules:=aaC _
    have w:g.rules.take (i+1)=g.rules.take i ++ [g.rules[i]'(by omega)]:=by rw[aaQ,E];rfl
    generalize g.rules[i]'(by omega)=r at E l w
    obtain⟨fx,dj,dm,fz,bn⟩:=hf.uW hg l
    have cj:q[r.left.toNat]?=some (q[r.left.toNat]'(by omega)):=aar (by omega)
    have mf:q.getD r.left.toNat false=q[r.left.toNat]'(by omega):=by simp[aaq,cj]
    generalize q[r.left.toNat]'(by omega)=qs at cj mf
    simp(disch:=omega)only[↓wr,seval,wq,t1,t2,t5,t6,t7,t8,t9,t41,t42,t43,aU,encI,aav,E]
    intro bq S
    have F:=A.new S 3 [aU r]
    have b7:d≠bq:=by rintro rfl;rw[j] at S;simp at S
    try simp(disch:=omega)only[↓wr,seval,wq,t1,t2,t5,t6,t7,t8,t9,t41,t42,t43,aU,encI,bO,aav,cj,set_set]
    have U:∀ (P:Env) (H':View),cw p q r=false->H'=H2.set bq (.arr 3 [aU r])->P 7=u3->P 1=.aH (ag g) 0->P 2=.ptr Q 0 0->P 5=bO p->P 6=bO q->P 8=.ptr O 0 0->P 9=.mp d->P 41=.aE (g.rules.map aU)->P 42=gi g.rules.length->P 43=gi ((i:Int)+1) ->
      ∃ k',k' < k/\Fl g.rules.length k' (X8 g p q Q O d B) P H':=by
     intro P H' W ds a7 a1 a2 a5 a6 a8 a9 a41 fB fS
     have M:cH p q (g.rules.take (i+1))=cH p q (g.rules.take i):=by rw[w,vY,aat (by simp[W])]
     have e2:dx p q (g.rules.take (i+1)) 0=dx p q (g.rules.take i) 0:=by rw[w,mG];simp[dx,W]
     refine aC hk (by omega) ⟨⟨G,u3,a7,by rw[M];exact bl,by rw[M];omega,by rw[M,e2,ds];exact F.tail,mm,C,by rw[ds];simp[View.set,b7,j],by rw[M];exact D⟩,a1,a2,a5,a6,a8,a9,a41,fB,by rw[fS];rfl⟩
    cases qs with
    | false =>
     simp(disch:=omega)only[↓wr,seval,wq,t1,t2,t5,t6,t7,t8,t9,t41,t42,t43]
     refine U _ _ (by rw[cw,mf];rfl) ?_ ?_ ?_ ?_ ?_ ?_ ?_ ?_ ?_ ?_ ?_
     all_goals first | exact t7 | exact t1 | exact t2 | exact t5 | exact t6 | exact t8 | exact t9 | exact t41 | exact t42 | rfl | (rw[set_set];rfl)
    | true =>
     simp(disch:=omega)only[↓wr,seval,wq,t1,t2,t5,t6,t7,t8,t9,t41,t42,t43,aU,encI,bO]
     refine ay.pure (we r p (hg.ax r l).2.2.1 (λs dv=>⟨(bn s dv).1,λh=>by rw[c9];exact(bn s dv).2 h⟩)) ?_
     simp(disch:=omega)only[↓wr,seval,wq,t1,t2,t5,t6,t7,t8,t9,t41,t42,t43]
     apply ah.split<;>intro ck
     .simp(disch:=omega)only[↓wr,seval,wq,t1,t2,t5,t6,t7,t8,t9,t41,t42,t43]
      have W:cw p q r=true:=by rw[cw,mf,ck];rfl
      intro m hm
      try simp(disch:=omega)only[↓wr,seval,wq,t1,t2,t5,t6,t7,t8,t9,t41,t42,t43,bM]
      have dy:=(df hm c7).1
      have hm:=(df (df hm c7).2 c7).2
      have e:=(F.fresh (n:=m) (o:=.arr 1 [[gi i]]) (by simp only[View.set,aat dy];exact hm)).at 2 (by simp)
      have cA:d≠m:=by rintro rfl;rw[j] at hm;simp at hm
      have ea:(dx p q (g.rules.take i) 0).length<=40:=by
       rw[mH]
       have h1:=abh (cw p q) (g.rules.take i)
       have h2:(g.rules.take i).length<=i:=List.length_take_le _ _
       omega
      refine ct (by rw[set_set];exact e) (by simp[aR]) (by unfold aD;simp at ea ⊢;omega) (by unfold aD;simp at ea ⊢;omega) ?_
      intro cC H3 f t
      have f11:=f.is 1 rfl (by simp)
      have f8:=f.is 2 rfl (by simp)
      have br:Left ((H2.set bq (.arr 3 [aU r])).set m (.arr 1 [[gi i]])) H3 u3 cC:=by rw[set_set] at t;exact t
      have f9:H3 d=.map (Cb mm) C:=br.map (b:=d) e.head (by simp[View.set,b7,cA,j])
      have gd:cU G=some (me ((cH p q (g.rules.take i)).map λx=>g.ak.getD x.toNat ⟨#[]⟩)).length:=(f.own 3 rfl).len
      simp only[aU,encI] at f11
      have e2:dx p q (g.rules.take (i+1)) 0=dx p q (g.rules.take i) 0 ++ [(i:Int)]:=by
       rw[w,mG];simp[dx,W,show i<=g.rules.length by omega]
      have M:cH p q (g.rules.take (i+1))=gW (cH p q (g.rules.take i)) r:=by rw[w,vY,aaw W]
      generalize cH p q (g.rules.take i)=o at *
      generalize dx p q (g.rules.take i) 0=kl at *
      simp(disch:=omega)only[↓wr,seval,wq,t1,t2,t5,t6,t8,t9,t41,t42,t43,f11,f8]
      refine WH (kt:=3) (et:=3) (z:=gi 0) (by kernel_rfl) (by kernel_rfl) (mA .i64 Tryz.underlying3) (id:=d) (c:=C) (m:=mm) (k:=r.left) (by simp(disch:=omega)only[↓wr,seval,wq,t9]) (by simp(disch:=omega)only[↓wr,seval,wq]) f9 ?_
      rw[D.get,wy]
      have gk:o.length<=40:=by omega
      by_cases hx:r.left∈o
      .have u:gW o r=o:=by rw[gW,aaw hx]
       rw[aaw hx]
       simp(disch:=omega)only[↓wr,seval,wq,t1,t2,t5,t6,t8,t9,t41,t42,t43,Option.isSome_some]
       have gl:=(((f.at 1 (by simp)).tail).perm (.swap _ _ _))
       refine aC hk (by omega) ⟨⟨G,cC,rfl,by rw[M,u];exact bl,by rw[M,u];omega,?_,mm,C,f9,by rw[M,u];exact D⟩,t1,t2,t5,t6,t8,t9,t41,t42,rfl⟩
       rw[M,u,e2]
       simp only[aaS,aaW,ab3]
       exact gl
      .have u:gW o r=o ++ [r.left]:=by rw[gW,aat hx]
       rw[aat hx]
       have cN:g.ak[r.left.toNat]?=some (g.ak[r.left.toNat]'(by omega)):=aar (by omega)
       have ca:g.ak.getD r.left.toNat ⟨#[]⟩=g.ak[r.left.toNat]'(by omega):=by simp[aaq,cN]
       generalize g.ak[r.left.toNat]'(by omega)=nm at cN ca
       simp(disch:=omega)only[↓wr,seval,wq,t1,t2,t5,t6,t8,t9,t41,t42,t43,Option.isSome_none,f11,f8,gd,aaA]
       refine ye (kt:=3) (et:=3) (by kernel_rfl) (mA .i64 Tryz.underlying3) (id:=d) (c:=C) (m:=mm) (k:=r.left) (v:=gi o.length) (by simp(disch:=omega)only[↓wr,seval,wq,t9]) (by simp(disch:=omega)only[↓wr,seval,wq]) (by simp(disch:=omega)only[↓wr,seval,wq]) f9 ?_
       intro c'
       have eb:O≠d:=Fb f 2 rfl f9
       have n119:bq≠d:=Fb f 1 rfl f9
       simp(disch:=omega)only[↓wr,seval,wq,t1,t2,t5,t6,t8,t9,t41,t42,t43,f11,f8,eb,n119,ag,encS,aav,cN]
       intro m2 N
       have cf:=(df N (by simp)).1
       have N:=(df N (by simp)).2
       have ec:=((f.xM f9 (o:=.map (Cb (bN r.left (gi o.length) C mm)) c')).fresh (n:=m2) (o:=.arr 1 [[gs nm]]) (by simp only[View.set,aat cf];exact N)).at 3 (by simp)
       try simp(disch:=omega)only[↓wr,seval,wq,t1,t2,t5,t6,t8,t9,t41,t42,t43,bM]
       refine ct ec (by simp[aR]) (by unfold aD;simp;omega) (by unfold aD;simp;omega) ?_
       intro ee H5 bx b0
       have c1:=bx.head.cells
       have k1:=bx.head.iO
       have cS:=bx.is 3 rfl (by simp)
       have gr:=b0.map (b:=d) (es:=Cb (bN r.left (gi o.length) C mm)) (c:=c') ec.head (by simp[View.set,Ne.symm cf])
       have eg:d≠O:=eb.symm
       simp(disch:=omega)only[↓wr,seval,wq,t1,t2,t5,t6,t8,t9,t41,t42,t43,cS,c1,k1]
       have ha:=(bx.at 3 (by simp)).put (es':=[[B,ee,.emp 1,gi 0]]) rfl rfl
       have hb:=(((ha.at 3 (by simp)).tail).perm (.cons _ (.swap _ _ _)))
       refine aC hk (by omega) ⟨⟨ee,cC,rfl,?_,?_,?_,_,c',(by simp only[View.set,aat eg];exact gr),?_⟩,t1,t2,t5,t6,t8,t9,t41,t42,rfl⟩
       .rw[M,u];intro x hj;rcases aaZ.1 hj with h | h
        .exact bl x h
        .simp at h;subst h;exact⟨dj,dm⟩
       .rw[M,u];simp;omega
       .rw[M,u,e2]
        simp only[aaS,aaW,ab3,ca]
        exact hb
       .rw[M,u,E1,Int.zero_add,<-IV hx]
        exact D.put r.left (o.length:Int) C
     .simp(disch:=omega)only[↓wr,seval,wq,t1,t2,t5,t6,t7,t8,t9,t41,t42,t43]
      refine U _ _ (by rw[cw,mf,ck];rfl) ?_ ?_ ?_ ?_ ?_ ?_ ?_ ?_ ?_ ?_ ?_
      all_goals first | exact t7 | exact t1 | exact t2 | exact t5 | exact t6 | exact t8 | exact t9 | exact t41 | exact t42 | rfl | (rw[set_set];rfl)
   .rw[aaJ (by omega)] at A bl ch D
    have hn:(dx p q g.rules 0).length<=40:=by
     rw[mH];have h1:=abh (cw p q) g.rules;omega
    have ht:=vT p q g.rules 0
    have hM:=mH p q g.rules 0
    have ei:rI g (eQ (cH p q g.rules)) p q=⟨g.af,(cH p q g.rules).map λx=>g.ak.getD x.toNat ⟨#[]⟩,(g.rules.filter (cw p q)).map (bU (eQ (cH p q g.rules))),eQ (cH p q g.rules) g.start⟩:=rfl
    rw[ei]
    clear ei
    generalize cH p q g.rules=o at *
    generalize dx p q g.rules 0=kl at *
    have gk:o.length<=40:=by omega
    have hz:cU u3=some (bK kl).length:=(A.own 1 rfl).len
    simp(disch:=omega)only[↓wr,seval,wq,t1,t2,t5,t6,t7,t8,t9,hz,aaA]
    refine aS.up kl.length (ZG g p q Q O d B G u3 o kl mm C) ?_ ?_
    .refine⟨⟨.emp 1,[],by simp,?_,j⟩,t1,t2,t7,t8,t9,t7,rfl,rfl⟩
     exact(A.emp (k:=1) (sz:=3)).perm (uH [(.sl O 0 1 4,4,[[B,G,.emp 1,gi 0]]),(u3,1,bK kl),(G,1,me (o.map λx=>g.ak.getD x.toNat ⟨#[]⟩)),(B,3,g.af.map cm),(.emp 1,3,[]),(.sl Q 0 1 4,4,[[.emp 1,.emp 1,.emp 1,gi 0]])] 4 (by simp)).symm
    clear A j t1 t2 t5 t6 t7 t8 t9 t41 t42 t43
    rintro i k T H2 hk ⟨⟨u2,bs,b1,A,j⟩,t1,t2,t7,t8,t9,t91,t92,t93⟩
    simp(disch:=omega)only[↓wr,seval,wq,wN,t1,t2,t7,t8,t9,t91,t92,t93]
    apply ah.dec<;>intro hc
    .obtain⟨n3,e3,hA⟩:=(A.own 1 rfl).sl (by simp;omega)
     rw[aaA] at e3
     subst e3
     obtain⟨m,cV,N,X⟩:=ht i (by omega)
     have ek:=mD (show i < kl.length by omega)
     rw[Int.zero_add] at cV
     have hB:kl[i]'(by omega)=(m:Int):=by
      rw[aar (show i < kl.length by omega)] at cV;simpa using cV
     rw[hB] at ek
     have E:g.rules[m]?=some (g.rules[m]'X):=aar X
     have l:g.rules[m]'X∈g.rules:=aaC _
     have w:(g.rules.filter (cw p q)).take (i+1)=(g.rules.filter (cw p q)).take i ++ [g.rules[m]'X]:=by
      rw[aaQ,<-N,E];rfl
     generalize g.rules[m]'X=r at E l w
     obtain⟨fx,dj,dm,fz,bn⟩:=hf.uW hg l
     simp(disch:=omega)only[↓wr,seval,wq,t1,t2,t7,t8,t9,t91,t92,t93,hA,ek,aaA,ag,aU,encI,aav,E]
     refine⟨by omega,by omega,?_⟩
     intro c3 I
     have F:=A.new I 3 [aU r]
     have Y:d≠c3:=by rintro rfl;rw[j] at I;simp at I
     try simp(disch:=omega)only[↓wr,seval,wq,t1,t2,t7,t8,t9,t91,t92,t93,set_set]
     refine Cx (kt:=3) (et:=3) (z:=gi 0) (by kernel_rfl) (by kernel_rfl) (mA .i64 Tryz.underlying3) (id:=d) (c:=C) (m:=mm) (k:=r.left) (by simp(disch:=omega)only[↓wr,seval,wq,t9]) (by simp(disch:=omega)only[↓wr,seval,wq]) (by simp[View.set,Y,j]) ?_
     have b3:∀ x,(getM mm x).getD (gi 0)=gi (eQ o x):=λx=>by
      rw[D.get,eQ];cases fg (kO o 0) x <;> rfl
     rw[b3]
     simp(disch:=omega)only[↓wr,seval,wq,t1,t2,t7,t8,t9,t91,t92,t93]
     refine ay.NZ (TL r.right (by omega) _) ?_
     intro v H3 hv K
     have e:=bk.Ka (H:=H2.set c3 (.arr 3 [aU r])) F hv (by rw[set_set] at K;exact K)
     have c5:H3 d=.map (Cb mm) C:=by
      rw[(K d (by simp[View.set,Y,j])).1];simp[View.set,Y,j]
     have cv:=hv.cells
     have kv:=hv.iO
     have lv:=hv.len
     have f16:=e.is 1 rfl (by simp)
     simp only[aU,encI] at f16
     simp(disch:=omega)only[↓wr,seval,wq,t1,t2,t7,t8,t9,t91,t92,t93,f16,cv,kv]
     intro en J
     have a:=e.new J 3 [[gi (eQ o r.left),v,gi r.prec]]
     have eH:d≠en:=by rintro rfl;rw[c5] at J;simp at J
     try simp(disch:=omega)only[↓wr,seval,wq,t1,t2,t7,t8,t9,t91,t92,t93,cv,kv,lv,set_set,aaA]
     generalize hL:((V.sl O 0 1 4,4,[[B,G,u2,gi 0]]) :: (V.sl n3 0 kl.length 1,1,bK kl) ::
       (G,1,me (o.map λx=>g.ak.getD x.toNat ⟨#[]⟩)) :: (B,3,g.af.map cm) :: (u2,3,jc bs) :: (V.sl Q 0 1 4,4,[[V.emp 1,V.emp 1,V.emp 1,gi 0]]) :: nV bs:List cx)=L at a
     refine aS.up r.right.length (ZD g Q O d c3 en (.sl n3 0 kl.length 1) v o kl mm C r L i) ?_ ?_
     .exact⟨by rw[set_set];exact a,by simp[View.set,eH,c5],t1,t2,t7,t8,t9,t91,t92,t93,rfl,rfl,rfl,rfl⟩
     clear F e a I J j c5 f16 hv K t1 t2 t7 t8 t9 t91 t92 t93
     rintro k k2 T H3 e0 ⟨a,j,t1,t2,t7,t8,t9,t91,t92,t93,t17,t113,t114,t115⟩
     have f17:=a.is 0 rfl (by simp)
     simp(disch:=omega)only[↓wr,seval,wq,wx,t1,t2,t7,t8,t9,t91,t92,t93,t17,t113,t114,t115]
     apply ah.dec<;>intro hC
     .have e4:r.right[k]?=some (r.right[k]'(by omega)):=aar (by omega)
      have e5:r.right[k]'(by omega)∈r.right:=aaC _
      have hD:(bU (eQ o) r).right.length=r.right.length:=by simp[bU]
      have Z:(bU (eQ o) r).right.take (k+1)=(bU (eQ o) r).right.take k ++ [if r.right[k]'(by omega) < 0 then -1 - eQ o (-1 - r.right[k]'(by omega)) else r.right[k]'(by omega)]:=by
       rw[aaQ];simp[bU,e4]
      have e6:=eZ (show k < r.right.length by omega)
      generalize r.right[k]'(by omega)=s at e4 e5 Z e6
      obtain⟨⟨s1,s2⟩,s3⟩:=bn s e5
      have hQ:=XH o (-1 - s)
      rw[e6] at a
      have hlen:(((bU (eQ o) r).right.take k ++ s :: r.right.drop (k+1)).map λx=>[gi x]).length=r.right.length:=by simp;omega
      obtain⟨nv,ev,e7⟩:=(a.own 1 rfl).sl (by rw[hlen];omega)
      rw[hlen] at ev
      subst ev
      have b4:k < ((bU (eQ o) r).right.take k ++ s :: r.right.drop (k+1)).length:=by simp;omega
      have an:=mD b4
      have hF:((bU (eQ o) r).right.take k ++ s :: r.right.drop (k+1))[k]'b4=s:=by
       rw[List.getElem_append_right (by simp;omega)]
       simp[show k - min k r.right.length=0 by omega,hD]
      rw[hF] at an
      simp(disch:=omega)only[↓wr,seval,wq,t1,t2,t7,t8,t9,t91,t92,t93,t17,t113,t114,t115,e7,an,aaA]
      refine⟨by omega,b4,?_⟩
      have e8:((bU (eQ o) r).right.take k).length=k:=by rw[abc];omega
      have hG:nv≠d:=Fb a 1 rfl j
      apply ah.dec<;>intro aq
      .rw[aaw aq] at Z
       simp(disch:=omega)only[↓wr,seval,wq,t1,t2,t7,t8,t9,t91,t92,t93,t17,t113,t114,t115,f17]
       refine Cx (kt:=3) (et:=3) (z:=gi 0) (by kernel_rfl) (by kernel_rfl) (mA .i64 Tryz.underlying3) (id:=d) (c:=C) (m:=mm) (k:=-1 - s) (by simp(disch:=omega)only[↓wr,seval,wq,t9]) (by simp(disch:=omega)only[↓wr,seval,wq]) j ?_
       rw[b3]
       simp(disch:=omega)only[↓wr,seval,wq,t1,t2,t7,t8,t9,t91,t92,t93,t17,t113,t114,t115,f17,e7,an,aaA]
       refine⟨by omega,b4,?_⟩
       have ar:=((a.at 1 (by simp)).put (es':=((((bU (eQ o) r).right.take k ++ s :: r.right.drop (k+1)).map λx=>[gi x]).set k [gi (-1 - eQ o (-1 - s))])) (by simp) (by rw[hlen])).perm (.swap _ _ _)
       refine aC e0 (by omega) ⟨?_,by simp only[View.set,aat hG.symm];exact j,t1,t2,t7,t8,t9,t91,t92,t93,t17,t113,t114,rfl⟩
       rw[ints_set,G5 e8] at ar
       rw[Z,aa6]
       rw[ints_set,G5 e8]
       exact ar
      .rw[aat aq] at Z
       simp(disch:=omega)only[↓wr,seval,wq,t1,t2,t7,t8,t9,t91,t92,t93,t17,t113,t114,t115]
       refine aC e0 (by omega) ⟨?_,j,t1,t2,t7,t8,t9,t91,t92,t93,t17,t113,t114,rfl⟩
       rw[Z,aa6]
       exact a
     .rw[aaJ (by simp[bU];omega),aaV (by omega),abI] at a
      subst hL
      have f8:=a.is 3 rfl (by simp)
      have cv:=(a.own 1 rfl).cells
      have kv:=(a.own 1 rfl).iO
      have fb:(jc bs).length<=40:=by
       have h1:=abk List.length b1
       simp only[aaA,abc] at h1
       simp only[jc,aaA]
       omega
      simp(disch:=omega)only[↓wr,seval,wq,t1,t2,t7,t8,t9,t91,t92,t93,t17,t113,t114,t115,f8,f17,cv,kv]
      intro m hm
      have cA:d≠m:=by rintro rfl;rw[j] at hm;simp at hm
      try simp(disch:=omega)only[↓wr,seval,wq,t1,t2,t7,t8,t9,t91,t92,t93,t17,bM]
      have ar:=(a.fresh (o:=.arr 3 [[gi (eQ o r.left),v,gi r.prec]]) hm).at 7 (by simp)
      refine ct ar (by simp[CW,kv]) (by unfold aD;simp at fb ⊢;omega) (by unfold aD;simp at fb ⊢;omega) ?_
      intro ff H4 bb t
      have cu:=bb.head.cells
      have ku:=bb.head.iO
      have cS:=bb.is 4 rfl (by simp)
      have fl:H4 d=.map (Cb mm) C:=t.map (b:=d) ar.head (by simp[View.set,cA,j])
      have hI:d≠O:=(Fb bb 4 rfl fl).symm
      simp(disch:=omega)only[↓wr,seval,wq,t1,t2,t7,t8,t9,t91,t92,t93,t17,cS,cu,ku]
      have hJ:=(bb.at 4 (by simp)).put (es':=[[B,G,ff,gi 0]]) rfl rfl
      have hK:=((((hJ.at 2 (by simp)).tail).at 3 (by simp)).tail)
      refine aC hk (by omega) ⟨⟨ff,bs ++ [(v,bU (eQ o) r)],?_,?_,by simp only[View.set,aat hI];exact fl⟩,t1,t2,t7,t8,t9,t91,t92,rfl⟩
      .rw[aaS,b1,w,aaS];rfl
      .refine hK.perm (.cons _ ?_)
       simp only[nV,jc,aaS,aaW,ab3]
       refine .trans ?_ (uH _ 3 (by simp)).symm
       refine .cons _ ?_
       exact(ab7 (v,1,bK (bU (eQ o) r).right) ((.sl n3 0 kl.length 1,1,bK kl) :: (G,1,me (o.map λx=>g.ak.getD x.toNat ⟨#[]⟩)) :: (B,3,g.af.map cm) :: (.sl Q 0 1 4,4,[[.emp 1,.emp 1,.emp 1,gi 0]]) :: nV bs)).symm
    .rw[aaJ (by omega)] at b1
     have f8:=A.is 0 rfl (by simp)
     have f2:=A.is 5 rfl (by simp)
     have fm:O≠Q:=A.Ih 0 5 rfl rfl (by omega)
     have c1:=(A.own 2 rfl).cells
     have k1:=(A.own 2 rfl).iO
     have c2:=(A.own 4 rfl).cells
     have k2:=(A.own 4 rfl).iO
     have b3:∀ x,(getM mm x).getD (gi 0)=gi (eQ o x):=λx=>by
      rw[D.get,eQ];cases fg (kO o 0) x <;> rfl
     simp(disch:=omega)only[↓wr,seval,wq,t1,t2,t7,t8,t9,t91,t92,t93,ag]
     refine Cx (kt:=3) (et:=3) (z:=gi 0) (by kernel_rfl) (by kernel_rfl) (mA .i64 Tryz.underlying3) (id:=d) (c:=C) (m:=mm) (k:=g.start) (by simp(disch:=omega)only[↓wr,seval,wq,t9]) (by simp(disch:=omega)only[↓wr,seval,wq]) j ?_
     rw[b3]
     simp(disch:=omega)only[↓wr,seval,wq,t1,t2,t7,t8,t9,t91,t92,t93,f8,f2,fm,fm.symm,c0,k0,c1,k1,c2,k2]
     intro h' hh
     have F:=A.put (es':=[[B,G,u2,gi (eQ o g.start)]]) rfl rfl
     have e:=(F.at 5 (by simp)).put (es':=[[B,G,u2,gi (eQ o g.start)]]) rfl rfl
     have hv:h'.view=(H2.set O (.arr 4 [[B,G,u2,gi (eQ o g.start)]])).set Q (.arr 4 [[B,G,u2,gi (eQ o g.start)]]):=hh
     rw[<-hv] at e
     exact Ot (x:=(⟨g.af,o.map λx=>g.ak.getD x.toNat ⟨#[]⟩,(g.rules.filter (cw p q)).map (bU (eQ o)),eQ o g.start⟩,kl,0)) (b:=bs) (e.own 4 rfl) (e.own 3 rfl) (e.own 5 rfl) (λy hy=>e.1 y (by
      refine aaO _ (aaO _ (aaO _ (aaO _ (aaO _ (aaO _ ?_)))))
      exact hy)) b1 (e.own 2 rfl)
 .rename_i hr
  intro h' hh
  rw[aat (by simp[hr])]
  exact yP
theorem Ow {l:List Int} {a b:List Bool} {t:Bool} (h:gG a b) (k:cP l a t=true):cP l b t=true:=by
 simp only[cP,aaX] at k ⊢
 intro s hs
 have:=k s hs
 by_cases c:0<=s
 .rw[aaw c] at this ⊢;exact this
 .rw[aat c] at this ⊢;exact h.2 _ this
theorem gG.tF {a b:List Bool} (h:gG a b) (k:gG b a):a=b:=by
 have h1:=h.eX
 have c:=k.eX
 exact h1.2 (by omega)
def qc (g:ai) (t:Bool) (is:List Bool):Prop:=∀ i,is.getD i false=true->∃ r∈g.rules,r.left.toNat=i/\cP r.right is t=true
theorem qc.step {g:ai} {t:Bool} {is:List Bool} {r:bg} (h:qc g t is) (hr:r∈g.rules):qc g t (fk t is r):=by
 have hle:gG is (fk t is r):=by
  unfold fk
  split
  .exact .set _ _
  .exact .refl _
 intro i hi
 by_cases e:is.getD i false=true
 .obtain⟨c,h1,d,f⟩:=h i e
  exact⟨c,h1,d,Ow hle f⟩
 .unfold fk at hi
  by_cases a:cP r.right is t=true
  .rw[aaw a] at hi
   have:r.left.toNat=i:=by
    refine abK λb=>e ?_
    simp only[aaq,abV,aat b] at hi ⊢
    exact hi
   exact⟨r,hr,this,Ow hle a⟩
  .rw[aat a] at hi;exact absurd hi e
theorem qc.fold {g:ai} {t:Bool} : ∀ (l:List bg) (is:List Bool),(∀ r∈l,r∈g.rules)->qc g t is->qc g t (l.foldl (fk t) is)
 | [],is,_,h=>h
 | r :: l,is,hl,h=>qc.fold l _ (λx a=>hl x (by simp[a])) (h.step (hl r (by simp)))
theorem qc.iter {g:ai} {t:Bool} : ∀ (n:Nat) (is:List Bool),qc g t is->qc g t (iter (lF g t) n is)
 | 0,_,h=>h
 | n+1,is,h=>qc.iter n _ (qc.fold g.rules is (λ_ h=>h) h)
theorem PG (g:ai) (t:Bool):qc g t (au g t):=by
 unfold au
 split
 .refine qc.iter _ _ ?_
  intro i hi
  simp only[cE,aaq,abX] at hi
  split at hi <;> simp at hi
 .intro i hi;simp at hi
theorem Nv (is:List Bool) (s:Int):gG is (mark is s):=by
 unfold mark
 split
 .exact .set _ _
 .exact .refl _
theorem DM:∀ (l:List Int) (is:List Bool),gG is (l.foldl mark is)
 | [],is=>.refl _
 | s :: l,is=>(Nv is s).trans (DM l _)
theorem KJ (p is:List Bool) (r:bg):gG is (gZ p is r):=by
 unfold gZ
 split
 .exact DM _ _
 .exact .refl _
theorem Ls (p:List Bool):∀ (l:List bg) (is:List Bool),gG is (l.foldl (gZ p) is)
 | [],is=>.refl _
 | r :: l,is=>(KJ p is r).trans (Ls p l _)
theorem Hw {p:List Bool} : ∀ {l:List bg} {is:List Bool},l.foldl (gZ p) is=is->∀ r∈l,gZ p is r=is
 | [],_,_,_,h=>by simp at h
 | r :: l,is,h,x,a=>by
  rw[aaR] at h
  have h1:=Ls p l (gZ p is r)
  rw[h] at h1
  have b:=(h1.tF (KJ p is r))
  rcases aaI.1 a with rfl | a
  .exact b
  .rw[b] at h;exact Hw h x a
theorem HG:∀ {l:List Int} {is:List Bool},l.foldl mark is=is->∀ s∈l,mark is s=is
 | [],_,_,_,h=>by simp at h
 | r :: l,is,h,x,a=>by
  rw[aaR] at h
  have h1:=DM l (mark is r)
  rw[h] at h1
  have b:=(h1.tF (Nv is r))
  rcases aaI.1 a with rfl | a
  .exact b
  .rw[b] at h;exact HG h x a
theorem IA {g:ai} (hr:bC g=true):qP g (au g true) (bT g)=bT g/\gG ((cE g).set g.start.toNat true) (bT g):=by
 have a:=bu hr
 have h:=vW (vG (au g true)) g.rules 16 ((cE g).set g.start.toNat true) (by have:=a.ak;simp[cE];omega)
 rw[Ns,QS hr] at h
 exact h
theorem xi {g:ai} (hr:bC g=true):(bT g).getD g.start.toNat false=true:=by
 have a:=bu hr
 refine(IA hr).2.2 _ ?_
 have b:=a.lf
 have c:=a.start
 simp only[aaq]
 rw[ab9 (by simp[cE];omega)]
 rfl
theorem zm {g:ai} (hr:bC g=true) {r:bg} (hm:r∈g.rules) (hk:cw (au g true) (bT g) r=true) {s:Int} (hs:s∈r.right) (b:s < 0):(bT g).getD (-1 - s).toNat false=true:=by
 have c:=bu hr
 have h1:=Hw (IA hr).1 r hm
 unfold gZ at h1
 rw[cw] at hk
 rw[aaw hk] at h1
 have a:=HG h1 s hs
 unfold mark at a
 rw[aaw b] at a
 rw[<-a]
 have hl:=r8 hr
 have:=c.neg hm hs b
 simp only[aaq]
 rw[ab9 (by omega)]
 rfl
theorem EJ {g:ai} (hr:bC g=true) {x:Int} (c:0<=x) (hp:(au g true).getD x.toNat false=true) (hq:(bT g).getD x.toNat false=true):x∈cH (au g true) (bT g) g.rules:=by
 obtain⟨r,h1,d,a⟩:=PG g true _ hp
 have b:=bu hr
 have e:=b.left r h1
 have:r.left=x:=by omega
 refine vp.2 ⟨r,h1,?_,this⟩
 rw[cw,this,hq,a];rfl
theorem OU (g:ai):(if bC g=true then
  if (au g true).getD g.start.toNat false=true then (rI g (eQ (cH (au g true) (bT g) g.rules)) (au g true) (bT g),dx (au g true) (bT g) g.rules 0,0)
  else (yi,[],9)
 else (yi,[],1))=gL g:=by
 unfold gL
 by_cases hr:bC g=true
 .rw[aaw hr,aaw hr]
  by_cases hp:(au g true).getD g.start.toNat false=true
  .rw[aaw hp,aaw hp]
   have b:=bu hr
   rw[SQ]
   .exact EJ hr b.lf hp (xi hr)
   .intro r hm
    obtain⟨h1,a⟩:=abj.1 hm
    refine⟨vp.2 ⟨r,h1,a,rfl⟩,λs hs c=>?_⟩
    refine EJ hr (by omega) ?_ (zm hr h1 a hs c)
    rw[cw,aaB] at a
    have:=a.2
    simp only[cP,aaX] at this
    have:=this s hs
    rwa [aat (by omega)] at this
  .rw[aat hp,aat hp]
 .rw[aat hr,aat hr]
theorem OZ (g:ai) (a:g.Ok) (hs:g.Small):cW Tryz.prog 109 [.agg (ag g)] (z7 (gL g)):=by
 rw[<-OU];exact Mm g a hs
structure Cell where
 kind:Int
 n:Int
 deriving DecidableEq
structure tU where
 aZ:List (List Cell)
 gotos:List (List Int)
 deriving DecidableEq
def jm (g:ai) (n:Nat) (c:Cell):Bool:=if c.kind=0∨c.kind=3 then decide (c.n=0) else if c.kind=1 then decide (0<=c.n) && decide (c.n < n) else if c.kind=2 then decide (0<=c.n) && decide (c.n < g.rules.length) else false
def w7 (g:ai) (n:Nat) (a:List Cell) (l:List Int):Bool:=decide (a.length=g.af.length+1) && decide (l.length=g.ak.length) && a.all (jm g n) && l.all λx=>decide (-1<=x) && decide (x < n)
def jf (g:ai) (t:tU):Bool:=bC g && decide (1<=t.aZ.length) && decide (t.aZ.length<=300) && decide (t.gotos.length=t.aZ.length) && (List.range t.aZ.length).all λi=>w7 g t.aZ.length (t.aZ.getD i []) (t.gotos.getD i [])
def aw (g:ai) (k:Int):bg:=g.rules.getD k.toNat ⟨0,[],0⟩
theorem getD_some {α:Type} {l:List α} {j:Nat} {d:α} (h:j < l.length):l[j]?=some (l.getD j d):=by simp[aaq,h]
structure Hb (g:ai) (t:tU):Prop where
 right:bC g=true
 n1:1<=t.aZ.length
 n300:t.aZ.length<=300
 len:t.gotos.length=t.aZ.length
 row:∀ i,i < t.aZ.length->w7 g t.aZ.length (t.aZ.getD i []) (t.gotos.getD i [])=true
theorem Dg {g:ai} {t:tU} (h:jf g t=true):Hb g t:=by
 unfold jf at h
 simp only[aaB,aaE,aaX,abl] at h
 exact⟨h.1.1.1.1,h.1.1.1.2,h.1.1.2,h.1.2,h.2⟩
theorem Hb.Fu {g:ai} {t:tU} (h:Hb g t) {i:Nat} (hi:i < t.aZ.length):(t.aZ.getD i []).length=g.af.length+1/\(t.gotos.getD i []).length=g.ak.length/\(∀ c∈t.aZ.getD i [],jm g t.aZ.length c=true)/\∀ x∈t.gotos.getD i [],-1<=x/\x < t.aZ.length:=by
 have:=h.row i hi
 unfold w7 at this
 simp only[aaB,aaE,aaX] at this
 exact⟨this.1.1.1,this.1.1.2,this.1.2,this.2⟩
theorem Kw {x:Int} : ∀ (o:List Int) (i:Int),x∈o->∃ k:Nat,cz (λy=>y == x) o i=i+k/\o[k]?=some x
 | [],_,h=>by simp at h
 | y :: o,i,h=>by
  by_cases e:y=x
  .exact⟨0,by simp[cz,e],by simp[e]⟩
  .have a:x∈o:=by
    rcases aaI.1 h with rfl | h
    .exact absurd rfl e
    .exact h
   obtain⟨k,h1,b⟩:=Kw o (i+1) a
   exact⟨k+1,by simp only[cz];rw[aat (by simp[e]),h1];push_cast;omega,by simpa using b⟩
theorem VV {o:List Int} {x:Int} (h:x∈o):o[(bR o x).toNat]?=some x:=by
 obtain⟨k,h1,a⟩:=Kw o 0 h
 have:bR o x=k:=by unfold bR;omega
 rw[this];simpa using a
theorem NL {o:List Int} (b:o.Nodup) {k:Nat} {x:Int} (h:o[k]?=some x):bR o x=k:=by
 have a:=aax h
 have h1:=VV a
 have f:=pA a
 obtain⟨hk,c⟩:=aaG.1 h
 obtain⟨d,e⟩:=aaG.1 h1
 have:=(List.getElem_inj b).1 (e.trans c.symm)
 omega
theorem vu:∀ (l:List bg) (acc:List Int),acc.Nodup->(l.foldl gW acc).Nodup
 | [],_,h=>h
 | r :: l,acc,h=>vu l _ (Ge h)
theorem PW (p q:List Bool) (l:List bg):(cH p q l).Nodup:=vu _ _ List.nodup_nil
theorem VE (acc:List Int) (r:bg):∃ m,gW acc r=acc ++ m:=by
 unfold gW
 split
 .exact⟨[],by simp⟩
 .exact⟨_,rfl⟩
theorem xS:∀ (l:List bg) (acc:List Int),∃ m,l.foldl gW acc=acc ++ m
 | [],acc=>⟨[],by simp⟩
 | r :: l,acc=>by
  obtain⟨m,hm⟩:=VE acc r
  obtain⟨k,hk⟩:=xS l (gW acc r)
  exact⟨m ++ k,by rw[aaR,hk,hm,aa6]⟩
theorem Vs {a b:List Int} {x:Int} (h:x∈a):bR (a ++ b) x=bR a x:=by
 unfold bR
 rw[wZ _ _ _ _ (by omega)]
 have:=pA h
 unfold bR at this
 rw[aaw this.1]
theorem zH {r:ai} {o:List Int} (c:o.Nodup) (hr:r.ak.length=o.length):∀ (l:List bg) (acc:List Int),o=l.foldl gW acc->(∀ x∈l,jJ r (bU (bR o) x)=true)->jd r (l.map (bU (bR o))) ((acc.length:Int) - 1)=true
 | [],acc,h,_=>by
  simp only[abL] at h
  simp[jd,hr,h]
 | x :: l,acc,h,a=>by
  simp only[aaW,jd,aaB,aaE]
  rw[aaR] at h
  have h1:(bU (bR o) x).left=bR o x.left:=rfl
  obtain⟨m,hm⟩:=xS l (gW acc x)
  rw[<-h] at hm
  by_cases b:x.left∈acc
  .have e:gW acc x=acc:=by unfold gW;rw[aaw b]
   rw[e] at hm h
   have g:=pA b
   have d:bR o x.left=bR acc x.left:=by rw[hm];exact Vs b
   rw[h1,d,aat (by omega)]
   exact⟨⟨⟨g.1,by omega⟩,a x (by simp)⟩,zH c hr l acc h λy f=>a y (by simp[f])⟩
  .have e:gW acc x=acc ++ [x.left]:=by unfold gW;rw[aat b]
   rw[e] at hm h
   have d:bR o x.left=acc.length:=NL c (by rw[hm];simp)
   rw[h1,d,aaw (by omega)]
   refine⟨⟨⟨by omega,by omega⟩,a x (by simp)⟩,?_⟩
   have:=zH c hr l (acc ++ [x.left]) h λy f=>a y (by simp[f])
   rw[abd] at this
   simpa using this
theorem Dc {g r:ai} (h:r.af=g.af):∀ (l:List Term) (i:Int),lj r l i=lj g l i
 | [],_=>rfl
 | t :: l,i=>by
  simp only[lj,Dc h l]
  congr 1
  simp only[mb,oC,ub,h]
theorem Ja {o:List Int} {n:Nat} (h:o.Nodup) (a:∀ x∈o,0<=x/\x < n):o.length<=n:=by
 have:=pH o ((List.range n).map λ(k:Nat)=>(k:Int)) h λx b=>by
  have:=a x b
  exact aaM.2 ⟨x.toNat,abl.2 (by omega),by omega⟩
 simpa using this
structure ky (g:ai) (p q:List Bool) (o:List Int) (r:ai):Prop where
 right:bC g=true
 pe:p=au g true
 qe:q=bT g
 oe:o=cH p q g.rules
 re:r=rI g (bR o) p q
 nodup:o.Nodup
 inside:∀ x∈o,0<=x/\x < g.ak.length
 kept:∀ R∈g.rules,cw p q R=true->R.left∈o/\∀ s∈R.right,s < 0->-1 - s∈o
 from_:∀ x∈o,∃ R∈g.rules,cw p q R=true/\R.left=x
 start:g.start∈o
theorem Sy {g:ai} (hr:bC g=true) (hp:(au g true).getD g.start.toNat false=true):ky g (au g true) (bT g) (cH (au g true) (bT g) g.rules) (rI g (bR (cH (au g true) (bT g) g.rules)) (au g true) (bT g)):=by
 have b:=bu hr
 refine⟨hr,rfl,rfl,rfl,rfl,PW _ _ _,λx a=>?_,λR hm hk=>⟨vp.2 ⟨R,hm,hk,rfl⟩,λs hs c=>?_⟩,λx a=>vp.1 a,EJ hr b.lf hp (xi hr)⟩
 .obtain⟨R,h1,_,rfl⟩:=vp.1 a
  exact b.left R h1
 .refine EJ hr (by omega) ?_ (zm hr hm hk hs c)
  rw[cw,aaB] at hk
  have:=hk.2
  simp only[cP,aaX] at this
  have:=this s hs
  rwa [aat (by omega)] at this
section
variable {g r:ai} {p q:List Bool} {o:List Int}
theorem ky.rules (h:ky g p q o r):r.rules=(g.rules.filter (cw p q)).map (bU (bR o)):=by rw[h.re];rfl
theorem ky.ak (h:ky g p q o r):r.ak=o.map λx=>g.ak.getD x.toNat ⟨#[]⟩:=by rw[h.re,h.oe];rfl
theorem ky.af (h:ky g p q o r):r.af=g.af:=by rw[h.re];rfl
theorem ky.LN (h:ky g p q o r):r.start=bR o g.start:=by rw[h.re];rfl
theorem ky.len (h:ky g p q o r):r.ak.length=o.length:=by rw[h.ak];simp
theorem ky.BO (h:ky g p q o r):bC r=true:=by
 have P:=bu h.right
 have D:=h.right
 simp only[bC,lE,mJ,aaB,aaE] at D ⊢
 obtain⟨⟨⟨⟨⟨⟨⟨H,a2⟩,⟨a3,a4⟩,a5⟩,Q⟩,R⟩,S⟩,a9⟩,n⟩:=D
 have I:=pA h.start
 have J:o.length<=g.ak.length:=Ja h.nodup h.inside
 have c:g.ak.Nodup/\∀ s∈g.ak,iD (gF s)=true/\oC g s < 0:=by
  rw[wM] at a5
  refine⟨(wC g.ak).1 λk s hk=>?_,λs hs=>?_⟩
  .have:=a5 k s hk
   simp only[nQ,Bm,aaB,abH] at this
   have:=this.1.2
   omega
  .obtain⟨k,hk⟩:=List.getElem?_of_mem hs
   have:=a5 k s hk
   simp only[nQ,aaB,aaE] at this
   exact⟨this.1.1,this.2⟩
 have a:∀ x∈o,∃ (b:x.toNat < g.ak.length),g.ak.getD x.toNat ⟨#[]⟩=g.ak[x.toNat]:=λx b=>by
  have:=h.inside x b
  exact⟨by omega,by simp[aaq,aar (show x.toNat < g.ak.length by omega)]⟩
 have t:r.ak.Nodup:=by
  rw[h.ak,acn,acu]
  refine(List.Pairwise.and_mem.1 h.nodup).imp ?_
  rintro x y ⟨b,E,u⟩ e
  obtain⟨h1,v⟩:=a x b
  obtain⟨F,i⟩:=a y E
  rw[v,i] at e
  have T:=(List.getElem_inj c.1).1 e
  have U:=h.inside x b
  have V:=h.inside y E
  exact u (by omega)
 have j:(g.rules.filter (cw p q)).length<=g.rules.length:=abh _ _
 obtain⟨W,w,z,_⟩:=h.from_ _ h.start
 have G:0 < (g.rules.filter (cw p q)).length:=List.length_pos_of_mem (abj.2 ⟨w,z⟩)
 have K:r.rules.length=(g.rules.filter (cw p q)).length:=by rw[h.rules];simp
 refine⟨⟨⟨⟨⟨⟨⟨by rw[h.af];exact H,?_⟩,⟨by rw[h.len];omega,by rw[h.len];omega⟩,?_⟩,by omega⟩,by omega⟩,by rw[h.LN];omega⟩,by rw[h.LN,h.len];omega⟩,?_⟩
 .rw[h.af,Dc h.af];exact a2
 .rw[wM]
  intro k s hk
  have hm:=aax hk
  have d:=(wC r.ak).2 t k s hk
  rw[h.ak,aaM] at hm
  obtain⟨x,b,rfl⟩:=hm
  obtain⟨h1,v⟩:=a x b
  obtain⟨F,i⟩:=c.2 _ (v ▸ aaC h1:g.ak.getD x.toNat ⟨#[]⟩∈g.ak)
  simp only[nQ,Bm,aaB,abH,aaE]
  refine⟨⟨F,by rw[d];omega⟩,?_⟩
  simp only[oC,h.af] at i ⊢
  exact i
 .rw[h.rules]
  have:=zH (r:=r) h.nodup h.len (g.rules.filter (cw p q)) [] (by rw[h.oe];rfl) (λx b=>?_)
  .simpa using this
  obtain⟨hm,hk⟩:=abj.1 b
  obtain⟨_,A⟩:=h.kept x hm hk
  have l:=(BK _ _ n).2 x hm
  have l:=l.2.2
  simp only[jJ,aaB,aaE,aaX] at l ⊢
  obtain⟨⟨⟨L,M⟩,N⟩,O⟩:=l
  refine⟨⟨⟨by simpa [bU] using L,M⟩,by rw[h.af];exact N⟩,λs hs=>?_⟩
  simp only[bU,aaM] at hs
  obtain⟨m,f,rfl⟩:=hs
  have B:=O m f
  by_cases C:m < 0
  .rw[aaw C]
   have hl:=pA (A m f C)
   simp only[oV,fP,aaB]
   rw[aat (by omega),decide_eq_false (p:=0≤-1 - bR o (-1 - m)) (by omega)]
   simp only[h.len,aaE,ab8,Bool.not_false,and_true]
   omega
  .rw[aat C]
   simp only[oV,fP,h.af] at B ⊢
   rw[aaw (by omega)] at B ⊢
   exact B
end
inductive wb (g:ai):Int->Prop
 | mk (R:bg):R∈g.rules->(∀ s∈R.right,s < 0->wb g (-1 - s))->wb g R.left
inductive pS (g:ai) (p:List Bool):Int->Prop
 | start:pS g p g.start
 | next (R:bg) (s:Int):R∈g.rules->pS g p R.left->cP R.right p true=true->s∈R.right->s < 0->pS g p (-1 - s)
theorem ze {l:List Int} {p:List Bool} : cP l p true=true↔∀ s∈l,s < 0->p.getD (-1 - s).toNat false=true:=by
 simp only[cP,aaX]
 constructor
 .intro h s hs a
  have:=h s hs
  rwa [aat (by omega)] at this
 .intro h s hs
  by_cases a:s < 0
  .rw[aat (by omega)];exact h s hs a
  .rw[aaw (by omega)]
theorem Ed {l:List Bool} {i j:Nat} (h:(l.set i true).getD j false=true):j=i∨l.getD j false=true:=by
 by_cases e:i=j
 .exact .inl e.symm
 .right
  simp only[aaq,abV,aat e] at h ⊢
  exact h
theorem Gc {g:ai} {i:Nat} : (cE g).getD i false=false:=by
 simp only[cE,aaq,abX]
 split <;> rfl
theorem Bw {g:ai} (hr:bC g=true):∀ i:Nat,(au g true).getD i false=true->wb g i:=by
 have j:=bu hr
 have b:∀ (is:List Bool) (R:bg),R∈g.rules->(∀ i:Nat,is.getD i false=true->wb g i)->∀ i:Nat,(fk true is R).getD i false=true->wb g i:=by
  intro is R f h i hi
  unfold fk at hi
  split at hi
  .rename_i k
   rcases Ed hi with rfl | hi
   .have:=j.left R f
    have e:((R.left.toNat:Nat):Int)=R.left:=by omega
    rw[e]
    refine .mk R f λs hs m=>?_
    have:=h _ (ze.1 k s hs m)
    rwa [show (((-1 - s).toNat:Nat):Int) = -1 - s by omega] at this
   .exact h i hi
  .exact h i hi
 have a:∀ (l:List bg) (is:List Bool),(∀ R∈l,R∈g.rules)->(∀ i:Nat,is.getD i false=true->wb g i)->∀ i:Nat,(l.foldl (fk true) is).getD i false=true->wb g i:=by
  intro l
  induction l with
  | nil=>intro is _ h;exact h
  | cons R l c=>intro is hl h;exact c _ (λx o=>hl x (by simp[o])) (b is R (hl R (by simp)) h)
 have d:∀ (n:Nat) (is:List Bool),(∀ i:Nat,is.getD i false=true->wb g i)->∀ i:Nat,(iter (lF g true) n is).getD i false=true->wb g i:=by
  intro n
  induction n with
  | zero=>intro is h;exact h
  | succ n c=>intro is h;exact c _ (a g.rules is (λ_ h=>h) h)
 rw[au,aaw hr]
 exact d _ _ λi hi=>by rw[Gc] at hi;simp at hi
theorem HM (t:Bool) (is:List Bool) (R:bg):gG is (fk t is R):=by
 unfold fk
 split
 .exact .set _ _
 .exact .refl _
theorem HN (t:Bool):∀ (l:List bg) (is:List Bool),gG is (l.foldl (fk t) is)
 | [],is=>.refl _
 | R :: l,is=>(HM t is R).trans (HN t l _)
theorem EE {t:Bool} : ∀ {l:List bg} {is:List Bool},l.foldl (fk t) is=is->∀ R∈l,fk t is R=is
 | [],_,_,_,h=>by simp at h
 | R :: l,is,h,x,a=>by
  rw[aaR] at h
  have h1:=HN t l (fk t is R)
  rw[h] at h1
  have b:=(h1.tF (HM t is R))
  rcases aaI.1 a with rfl | a
  .exact b
  .rw[b] at h;exact EE h x a
theorem SK {g:ai} (hr:bC g=true) (t:Bool):lF g t (au g t)=au g t:=by
 have a:=bu hr
 have h:=vW (nY t) g.rules 16 (cE g) (by have:=a.ak;simp[cE];omega)
 rw[Ox,KK hr] at h
 exact h.1
theorem vm {g:ai} (hr:bC g=true) {t:Bool} {R:bg} (a:R∈g.rules) (b:cP R.right (au g t) t=true):(au g t).getD R.left.toNat false=true:=by
 have h1:=EE (SK hr t) R a
 have c:=bu hr
 have hl:=fZ hr t
 have d:=c.left R a
 unfold fk at h1
 rw[aaw b] at h1
 rw[<-h1]
 simp only[aaq]
 rw[ab9 (by omega)]
 rfl
theorem BH {g:ai} (hr:bC g=true) {x:Int} (h:wb g x):(au g true).getD x.toNat false=true:=by
 induction h with
 | mk R a _ b=>exact vm hr a (ze.2 λs hs c=>b s hs c)
theorem Bv {g:ai} (hr:bC g=true):∀ i:Nat,(bT g).getD i false=true->pS g (au g true) i:=by
 have m:=bu hr
 have e:∀ (R:bg),R∈g.rules->pS g (au g true) R.left->cP R.right (au g true) true=true->∀ (l:List Int) (is:List Bool),(∀ s∈l,s∈R.right)->(∀ i:Nat,is.getD i false=true->pS g (au g true) i)->∀ i:Nat,(l.foldl mark is).getD i false=true->pS g (au g true) i:=by
  intro R d hl b l
  induction l with
  | nil=>intro is _ h;exact h
  | cons s l c =>
   intro is hs h
   refine c _ (λx f=>hs x (by simp[f])) λi hi=>?_
   unfold mark at hi
   split at hi
   .rename_i o
    rcases Ed hi with rfl | hi
    .rw[show (((-1 - s).toNat:Nat):Int) = -1 - s by omega]
     exact .next R s d hl b (hs s (by simp)) o
    .exact h i hi
   .exact h i hi
 have j:∀ (is:List Bool) (R:bg),R∈g.rules->(∀ i:Nat,is.getD i false=true->pS g (au g true) i)->∀ i:Nat,(gZ (au g true) is R).getD i false=true->pS g (au g true) i:=by
  intro is R d h
  unfold gZ
  split
  .rename_i b
   rw[aaB] at b
   have h1:=h _ b.1
   have:=m.left R d
   rw[show ((R.left.toNat:Nat):Int)=R.left by omega] at h1
   exact e R d h1 b.2 R.right is (λ_ h=>h) h
  .exact h
 have a:∀ (l:List bg) (is:List Bool),(∀ R∈l,R∈g.rules)->(∀ i:Nat,is.getD i false=true->pS g (au g true) i)->∀ i:Nat,(l.foldl (gZ (au g true)) is).getD i false=true->pS g (au g true) i:=by
  intro l
  induction l with
  | nil=>intro is _ h;exact h
  | cons R l c=>intro is hl h;exact c _ (λx f=>hl x (by simp[f])) (j is R (hl R (by simp)) h)
 have k:∀ (n:Nat) (is:List Bool),(∀ i:Nat,is.getD i false=true->pS g (au g true) i)->∀ i:Nat,(iter (qP g (au g true)) n is).getD i false=true->pS g (au g true) i:=by
  intro n
  induction n with
  | zero=>intro is h;exact h
  | succ n c=>intro is h;exact c _ (a g.rules is (λ_ h=>h) h)
 rw[bT,aaw hr]
 refine k _ _ λi hi=>?_
 rcases Ed hi with rfl | hi
 .have:=m.lf
  rw[show ((g.start.toNat:Nat):Int)=g.start by omega]
  exact .start
 .rw[Gc] at hi;simp at hi
theorem BG {g:ai} (hr:bC g=true) {x:Int} (h:pS g (au g true) x):(bT g).getD x.toNat false=true:=by
 induction h with
 | start=>exact xi hr
 | next R s a _ b hs c d=>exact zm hr a (by rw[cw,d,b];rfl) hs c
section
variable {g r:ai} {p q:List Bool} {o:List Int}
theorem ky.der (h:ky g p q o r) {x:Int} (hd:wb g x):x∈o->wb r (bR o x):=by
 induction hd with
 | mk R i b j =>
  intro k
  obtain⟨n,l,c,m⟩:=h.from_ _ k
  have hk:cw p q R=true:=by
   rw[cw,aaB] at c ⊢
   refine⟨by rw[<-m];exact c.1,?_⟩
   rw[h.pe]
   exact ze.2 λs hs a=>BH h.right (b s hs a)
  have e:=(h.kept R i hk).2
  have hm:bU (bR o) R∈r.rules:=by rw[h.rules];exact aaM.2 ⟨R,abj.2 ⟨i,hk⟩,rfl⟩
  refine wb.mk (bU (bR o) R) hm λt d f=>?_
  simp only[bU,aaM] at d
  obtain⟨s,hs,rfl⟩:=d
  by_cases a:s < 0
  .rw[aaw a]
   have:=j s hs a (e s hs a)
   rwa [show -1 - (-1 - bR o (-1 - s))=bR o (-1 - s) by omega]
  .rw[aat a] at f;omega
theorem ky.Y7 (h:ky g p q o r) {x:Int} (a:x∈o):(au r true).getD (bR o x).toNat false=true:=by
 obtain⟨R,c,hk,rfl⟩:=h.from_ _ a
 rw[cw,aaB,h.pe] at hk
 have h1:=vm h.right c hk.2
 have b:=Bw h.right _ h1
 have:=(h.inside _ a)
 rw[show ((R.left.toNat:Nat):Int)=R.left by omega] at b
 exact BH h.BO (h.der b a)
theorem ky.at_ (h:ky g p q o r) {k:Nat} (hk:k < o.length):∃ x∈o,bR o x=k/\o[k]?=some x:=⟨o[k],aaC _,NL h.nodup (aar hk),aar hk⟩
theorem ky.I3 (h:ky g p q o r) {k:Nat} (hk:k < o.length):(au r true).getD k false=true:=by
 obtain⟨x,a,h1,_⟩:=h.at_ hk
 have:=h.Y7 a
 rwa [h1,aaN] at this
theorem ky.X0 (h:ky g p q o r) {R:bg} (a:R∈r.rules):cP R.right (au r true) true=true:=by
 have b:=bu h.BO
 refine ze.2 λs hs c=>h.I3 ?_
 have:=b.neg a hs c
 rw[h.len] at this
 omega
theorem ky.rch (h:ky g p q o r) {x:Int} (hd:pS g (au g true) x):pS r (au r true) (bR o x):=by
 induction hd with
 | start=>rw[<-h.LN];exact .start
 | next R s b h1 d hs c e =>
  have hk:cw p q R=true:=by
   rw[cw,h.pe,h.qe,d,BG h.right h1];rfl
  have hm:bU (bR o) R∈r.rules:=by rw[h.rules];exact aaM.2 ⟨R,abj.2 ⟨b,hk⟩,rfl⟩
  have a:=(h.kept R b hk).2 s hs c
  have f:=pA a
  have:=pS.next (g:=r) (p:=au r true) (bU (bR o) R) (-1 - bR o (-1 - s)) hm e (h.X0 hm) (by
   simp only[bU,aaM]
   exact⟨s,hs,by rw[aaw c]⟩) (by omega)
  rwa [show -1 - (-1 - bR o (-1 - s))=bR o (-1 - s) by omega] at this
theorem ky.Q1 (h:ky g p q o r) {k:Nat} (hk:k < o.length):(bT r).getD k false=true:=by
 obtain⟨x,b,h1,_⟩:=h.at_ hk
 obtain⟨R,d,a,rfl⟩:=h.from_ _ b
 rw[cw,aaB,h.qe] at a
 have c:=Bv h.right _ a.1
 have:=(h.inside _ b)
 rw[show ((R.left.toNat:Nat):Int)=R.left by omega] at c
 have:=BG h.BO (h.rch c)
 rwa [h1,aaN] at this
end
def isRed (g:ai):Bool:=(gL g).2.2 == 0 && decide (g=(gL g).1)
def Yq (p:List Int) (i:Nat) (s:Int):Prop:=∃ c,p[i]?=some c/\(c=s∨c = -1)
structure Item where
 ax:Nat
 dot:Nat
 Uk:Nat
 deriving DecidableEq
structure aae (g:ai) (p:List Int) (S:Nat->List Item):Prop where
 start:∀ (i:Nat) (R:bg),g.rules[i]?=some R->R.left=g.start->⟨i,0,0⟩∈S 0
 term:∀ a x R s,x∈S a->g.rules[x.ax]?=some R->R.right[x.dot]?=some s->0<=s->Yq p a s->⟨x.ax,x.dot+1,x.Uk⟩∈S (a+1)
 pred:∀ a x R s i R',x∈S a->g.rules[x.ax]?=some R->R.right[x.dot]?=some s->s < 0->g.rules[i]?=some R'->R'.left = -1 - s->a<=p.length->⟨i,0,a⟩∈S a
 null:∀ a x R s,x∈S a->g.rules[x.ax]?=some R->R.right[x.dot]?=some s->s < 0->(au g false).getD (-1 - s).toNat false=true->a<=p.length->⟨x.ax,x.dot+1,x.Uk⟩∈S a
 comp:∀ a y R' x R s,y∈S a->g.rules[y.ax]?=some R'->y.dot=R'.right.length->y.Uk < a->x∈S y.Uk->g.rules[x.ax]?=some R->R.right[x.dot]?=some s->s < 0->R'.left = -1 - s->a<=p.length->⟨x.ax,x.dot+1,x.Uk⟩∈S a
abbrev Tb:=List (List (List Bool))
def cK (c:Cell):List V:=[gi c.kind,gi c.n]
abbrev hU (l:List Cell):V:=.aE (l.map cK)
def cJ (t:tU):List V:=[.aE (t.aZ.map λr=>[hU r]),.aE (t.gotos.map λr=>[encI r])]
theorem vz (c:Cell):∀ v∈cK c,Tree v:=by
 intro v a;simp[cK] at a;rcases a with rfl | rfl <;> exact .val _
theorem L7 (l:List Cell):Tree (hU l):=fe _ _ λc _ v a=>vz c v a
theorem Dd (t:tU):∀ v∈cJ t,Tree v:=by
 intro v a
 simp only[cJ,aaI,List.not_mem_nil,or_false] at a
 rcases a with rfl | rfl
 .exact fe _ _ λr _ v a=>by simp at a;subst a;exact L7 r
 .exact fe _ _ λr _ v a=>by simp at a;subst a;exact fa r
structure tU.Ok (t:tU):Prop where
 aZ:aK t.aZ
 gotos:aK t.gotos
 row:∀ r∈t.aZ,aK r/\∀ c∈r,b6 c.kind/\b6 c.n
 go:∀ r∈t.gotos,aK r/\∀ x∈r,b6 x
def sG:SF:=⟨ae [ab [cy 3 0,cy 4 1,cy 5 2,bw 6 false],ae [ab [ao 7 0 5,aj 8 7],.block 0 (ae [ae [ab [aF 10 .eql 8 0,aa 9 10],bS 9 (ab [aF 11 .eql 8 3,aa 9 11])],.cond (.tmp 9) (ae [ab [ao 12 1 5,aj 13 12,aF 14 .eql 13 0,aa 6 14],.ret]) (ae [ab [aF 16 .eql 8 1,aa 15 16],.cond (.tmp 15) (ae [.region false [⟨none,[ao 17 1 5,aj 18 17,aF 19 .geq 18 0,aa 20 19]⟩,⟨(some (20,true)),[ao 21 1 5,aj 22 21,ao 23 0 4,aj 24 23,aM 25 24,aQ 26 .lss 22 25]⟩,⟨none,[eC 27 20 26,aa 6 27]⟩],.ret]) (ae [ab [aF 29 .eql 8 2,aa 28 29],bf 28 (ae [.region false [⟨none,[ao 30 1 5,aj 31 30,aF 32 .geq 31 0,aa 33 32]⟩,⟨(some (33,true)),[ao 34 1 5,aj 35 34,ao 36 2 3,aj 37 36,aM 38 37,aQ 39 .lss 35 38]⟩,⟨none,[eC 40 33 39,aa 6 40]⟩],.ret])])])])],ab [bw 6 false],.ret],
 [.tmp 6],41⟩
theorem yG:aO Tryz.prog 93 [3,4,5]=some sG:=by kernel_rfl
def pw:SC :=
 ae [ae [ab [aa 62 6,ao 63 0 3,aj 64 63,aa 65 5,aI 66 1 64 65,aj 67 66,aM 68 67,aQ 69 .lss 62 68],bS 69 (.exit 2)],.block 3 (ae [ab [aY 72 4 2,aY 73 2 3,ao 74 0 3,aj 75 74,aa 76 5,aI 77 1 75 76,aj 78 77,aa 79 6,aI 80 2 78 79,aY 81 2 80,bm 82 93 [72,73,81],c4 83 82],bf 83 (ae [ab [bw 4 false],.ret])]),ab [aa 70 6,aF 71 .add 70 1,aa 6 71]]
def pj:SC :=
 ae [ae [ab [aa 84 7,ao 85 1 3,aj 86 85,aa 87 5,aI 88 1 86 87,aj 89 88,aM 90 89,aQ 91 .lss 84 90],bS 91 (.exit 4)],.block 5 (ae [.region false [⟨none,[ao 94 1 3,aj 95 94,aa 96 5,aI 97 1 95 96,aj 98 97,aa 99 7,aI 100 1 98 99,aj 101 100,aF 102 .lss 101 (-1),aa 103 102]⟩,⟨(some (103,false)),[ao 104 1 3,aj 105 104,aa 106 5,aI 107 1 105 106,aj 108 107,aa 109 7,aI 110 1 108 109,aj 111 110,ao 112 0 3,aj 113 112,aM 114 113,aQ 115 .geq 111 114]⟩,⟨none,[cF 116 103 115]⟩],bf 116 (ae [ab [bw 4 false],.ret])]),ab [aa 92 7,aF 93 .add 92 1,aa 7 93]]
def pK:SC :=
 ae [ae [ab [aa 32 5,ao 33 0 3,aj 34 33,aM 35 34,aQ 36 .lss 32 35],bS 36 (.exit 0)],.block 1 (ae [ae [.region false [⟨none,[ao 39 0 3,aj 40 39,aa 41 5,aI 42 1 40 41,aj 43 42,aM 44 43,ao 45 0 2,aj 46 45,aM 47 46,aF 48 .add 47 1,aQ 49 .neq 44 48,aa 50 49]⟩,⟨(some (50,false)),[ao 51 1 3,aj 52 51,aa 53 5,aI 54 1 52 53,aj 55 54,aM 56 55,ao 57 1 2,aj 58 57,aM 59 58,aQ 60 .neq 56 59]⟩,⟨none,[cF 61 50 60]⟩],bf 61 (ae [ab [bw 4 false],.ret])],ae [ab [aT 6 0],bX 2 pw],ab [aT 7 0],bX 4 pj]),ab [aa 37 5,aF 38 .add 37 1,aa 5 38]]
def qU:SF:=⟨ae [ab [cy 2 0,cy 3 1,bw 4 false],ae [.region false [⟨none,[aY 8 4 2,bm 9 54 [8],c4 10 9,aa 11 10]⟩,⟨(some (11,false)),[ao 12 0 3,aj 13 12,aM 14 13,aF 15 .lss 14 1]⟩,⟨none,[cF 16 11 15,aa 17 16]⟩,⟨(some (17,false)),[ao 18 0 3,aj 19 18,aM 20 19,aF 21 .gtr 20 300]⟩,⟨none,[cF 22 17 21,aa 23 22]⟩,⟨(some (23,false)),[ao 24 1 3,aj 25 24,aM 26 25,ao 27 0 3,aj 28 27,aM 29 28,aQ 30 .neq 26 29]⟩,⟨none,[cF 31 23 30]⟩],bf 31 (ae [ab [bw 4 false],.ret])],ae [ab [aT 5 0],bX 0 pK],ab [bw 4 true],.ret],
 [.tmp 4],117⟩
theorem xw:aO Tryz.prog 48 [2,3]=some qU:=by kernel_rfl
def BE:SF:=⟨ae [ab [cy 3 0,bw 6 false],ab [aT 7 1],ae [ab [ao 8 0 3,aj 9 8],.block 0 (ae [ae [ab [aF 11 .eql 9 0,aa 10 11],bS 10 (ab [aF 12 .eql 9 3,aa 10 12])],bS 10 (ae [ab [aF 14 .eql 9 1,aa 13 14],.cond (.tmp 13) (ab [aa 15 1,aa 7 15]) (ae [ab [aF 17 .eql 9 2,aa 16 17],.cond (.tmp 16) (ab [aa 18 2,aa 7 18]) (ae [ab [bw 6 false],.ret])])])])],.region false [⟨none,[ao 19 1 3,aj 20 19,aF 21 .geq 20 0,aa 22 21]⟩,⟨(some (22,true)),[ao 23 1 3,aj 24 23,aa 25 7,aQ 26 .lss 24 25]⟩,⟨none,[eC 27 22 26,aa 6 27]⟩],.ret],
 [.tmp 6],28⟩
theorem FY:aO Tryz.prog 90 [3]=some BE:=by kernel_rfl
def wO:SF:=⟨ae [ab [cy 3 0,bw 4 false],ab [aY 5 2 3,aj 6 1,ao 7 2 2,aj 8 7,aM 9 8,bm 10 90 [5,6,9],c4 11 10,aa 4 11],.ret],
 [.tmp 4],12⟩
theorem Cj:aO Tryz.prog 89 [3]=some wO:=by kernel_rfl
def wA:SF:=⟨ae [ab [bw 3 false],.region false [⟨none,[aa 4 0,aF 5 .lss 4 (-1),aa 6 5]⟩,⟨(some (6,false)),[aa 7 0,aj 8 1,aQ 9 .geq 7 8]⟩,⟨none,[cF 10 6 9,aa 3 10]⟩],.ret],
 [.tmp 3],11⟩
theorem Bp:aO Tryz.prog 92 []=some wA:=by kernel_rfl
def wc:SC :=
 ae [ab [aQ 33 .lss 32 31],bS 33 (.exit 0),.block 1 (ae [ab [aa 34 32,aI 35 1 30 32,aj 36 35,aa 6 34,aa 7 36],ae [.region false [⟨none,[aa 37 7,aM 38 37,ao 39 0 2,aj 40 39,aM 41 40,aF 42 .add 41 1,aQ 43 .neq 38 42,aa 44 43]⟩,⟨(some (44,false)),[ao 45 1 3,aj 46 45,aa 47 6,aI 48 1 46 47,aj 49 48,aM 50 49,ao 51 1 2,aj 52 51,aM 53 52,aQ 54 .neq 50 53]⟩,⟨none,[cF 55 44 54]⟩],bf 55 (ae [ab [bw 4 false],.ret])],ae [ab [aa 56 7,((some 57),.op (.rQ 89 [] [(.tmp 5),(.tmp 2)])),bm 58 88 [56,57]],bf 58 (ae [ab [bw 4 false],.ret])],ab [ao 59 1 3,aj 60 59,aa 61 6,aI 62 1 60 61,aj 63 62,((some 64),.op (.rQ 92 [] [(.tmp 5)])),bm 65 91 [63,64]],bf 65 (ae [ab [bw 4 false],.ret])]),ab [aF 66 .add 32 1,aa 32 66]]
def Ap:SF:=⟨ae [ab [cy 2 0,cy 3 1,bw 4 false],ab [ao 8 0 3,aj 9 8,aM 10 9,((some 5),.op (.alloc [(.val (.int .i64 0))])),bZ 1 5 10],ae [.region false [⟨none,[aY 11 4 2,bm 12 52 [11],c4 13 12,aa 14 13]⟩,⟨(some (14,false)),[aj 15 5,aF 16 .lss 15 1]⟩,⟨none,[cF 17 14 16,aa 18 17]⟩,⟨(some (18,false)),[aj 19 5,aF 20 .gtr 19 300]⟩,⟨none,[cF 21 18 20,aa 22 21]⟩,⟨(some (22,false)),[ao 23 1 3,aj 24 23,aM 25 24,aj 26 5,aQ 27 .neq 25 26]⟩,⟨none,[cF 28 22 27]⟩],bf 28 (ae [ab [bw 4 false],.ret])],ae [ab [ao 29 0 3,aj 30 29,aM 31 30,aT 32 0],bX 0 wc],ab [bw 4 true],.ret],
 [.tmp 4],67⟩
theorem DI:aO Tryz.prog 47 [2,3]=some Ap:=by kernel_rfl
theorem QN (g:ai) (t:tU) (c:Cell):az Tryz.prog 93 [.agg (ag g),.agg (cJ t),.agg (cK c)] (gb (jm g t.aZ.length c)):=by
 refine az.val (by
  intro v a;simp at a
  rcases a with rfl | rfl | rfl
  .exact cn _ (dq g)
  .exact cn _ (Dd t)
  .exact cn _ (vz c)) λH=>?_
 refine av.of mixed yG ?_
 unfold jm
 simp(disch:=omega)only[↓wr,seval,wq,sG,cK,cJ,ag,encS]
 repeat' (first | ((first|apply ah.dec|apply ah.eq|apply ah.ne|apply ah.split)<;>intro)|(simp(disch:=omega)only[↓wr,seval,wq,cK,cJ,ag,encS]))
 all_goals simp_all
 all_goals first
  | omega
  | rfl
theorem Ve (c:Cell) (a b:Int):az Tryz.prog 90 [.agg (cK c),gi a,gi b] (gb (if c.kind=0∨c.kind=3 then decide (c.n=0) else if c.kind=1 then decide (0<=c.n) && decide (c.n < a) else if c.kind=2 then decide (0<=c.n) && decide (c.n < b) else false)):=by
 refine az.val (by
  intro v d;simp at d
  rcases d with rfl | rfl | rfl
  .exact cn _ (vz c)
  .exact .val _
  .exact .val _) λH=>?_
 refine av.of mixed FY ?_
 simp(disch:=omega)only[↓wr,seval,wq,BE,cK]
 repeat' (first | ((first|apply ah.dec|apply ah.eq|apply ah.ne|apply ah.split)<;>intro)|(simp(disch:=omega)only[↓wr,seval,wq,cK]))
 all_goals simp_all
 all_goals omega
theorem Fs {g:ai} {t:tU} {i:Nat} (hi:i < t.aZ.length) (h:w7 g t.aZ.length (t.aZ.getD i []) (t.gotos.getD i [])=false):jf g t=false:=by
 rw[acG]
 intro hr
 have:=(Dg hr).row i hi
 rw[h] at this;simp at this
theorem Om (g:ai) (t:tU):∀ v∈[V.agg (ag g),.agg (cJ t)],Tree v:=by
 intro v a;simp at a
 rcases a with rfl | rfl
 .exact cn _ (dq g)
 .exact cn _ (Dd t)
theorem O6 (g:ai) (B:g.Ok) (t:tU) (y:t.Ok):az Tryz.prog 48 [.agg (ag g),.agg (cJ t)] (gb (jf g t)):=by
 refine az.val (Om g t) λH=>?_
 have z:=kT g B
 have h1:=y.aZ
 have L:=y.gotos
 have M:=B.af
 have N:=B.ak
 unfold aK at h1 L M N
 refine av.of mixed xw ?_
 simp only[ag,encS] at z
 simp(disch:=omega)only[↓wr,seval,wq,qU,ag,encS,cJ]
 refine ay.pure z ?_
 have n:(bC g && decide (1<=t.aZ.length) && decide (t.aZ.length<=300) && decide (t.gotos.length=t.aZ.length))=false->jf g t=false:=λh=>by unfold jf;rw[h];rfl
 simp(disch:=omega)only[↓wr,seval,wq]
 apply ah.split<;>intro hr
 rotate_left
 .simp(disch:=omega)only[↓wr,seval,wq]
  rw[n (by rw[hr];rfl)]
 simp(disch:=omega)only[↓wr,seval,wq,cJ]
 apply ah.dec<;>intro c1
 .simp(disch:=omega)only[↓wr,seval,wq]
  rw[n (by rw[hr];simp;omega)]
 simp(disch:=omega)only[↓wr,seval,wq,cJ]
 apply ah.dec<;>intro c2
 .simp(disch:=omega)only[↓wr,seval,wq]
  rw[n (by rw[hr];simp;omega)]
 simp(disch:=omega)only[↓wr,seval,wq,cJ]
 apply ah.ne<;>intro O
 .simp(disch:=omega)only[↓wr,seval,wq]
  rw[n (by rw[hr];simp;omega)]
 simp(disch:=omega)only[↓wr,seval,wq]
 have W:=bu hr
 refine aS.up t.aZ.length (λi T H'=>(∀ k,k < i->w7 g t.aZ.length (t.aZ.getD k []) (t.gotos.getD k [])=true)/\T 2=.aH (ag g) 0/\T 3=.aH (cJ t) 0/\T 5=gi i) ⟨λk hk=>by omega,rfl,rfl,rfl⟩ ?_
 rintro i k T H' hk ⟨p,t2,t3,t5⟩
 simp(disch:=omega)only[↓wr,seval,wq,pK,t2,t3,t5,cJ]
 apply ah.dec<;>intro hd
 rotate_left
 .simp(disch:=omega)only[↓wr,seval,wq]
  rw[show jf g t=true from by
   unfold jf
   rw[hr]
   simp only[aaB,aaE,aaX,abl,abE]
   exact⟨⟨⟨by omega,by omega⟩,by omega⟩,λk hk=>p k (by omega)⟩]
 have hi:i < t.aZ.length:=by omega
 have v:t.aZ[i]?=some (t.aZ.getD i []):=getD_some hi
 have hl:t.gotos[i]?=some (t.gotos.getD i []):=getD_some (by omega)
 have C:=y.row _ (aax v)
 have D:=y.go _ (aax hl)
 have b:=@Fs g t i hi
 generalize P:t.aZ.getD i []=a at v C b
 generalize el:t.gotos.getD i []=l at hl D b
 have f:w7 g t.aZ.length a l=(decide (a.length=g.af.length+1) && decide (l.length=g.ak.length) && a.all (jm g t.aZ.length) && l.all λx=>decide (-1<=x) && decide (x < t.aZ.length)):=rfl
 obtain⟨Q,C⟩:=C
 obtain⟨sl,D⟩:=D
 unfold aK at Q sl
 simp(disch:=omega)only[↓wr,seval,wq,t2,t3,t5,cJ,ag,encS,aav,v,hl,aaz]
 apply ah.ne<;>intro d1
 .simp(disch:=omega)only[↓wr,seval,wq]
  rw[b (by rw[f];simp;omega)]
 simp(disch:=omega)only[↓wr,seval,wq,t2,t3,t5,cJ,ag,encS,encI,aav,v,hl,aaz]
 apply ah.ne<;>intro d2
 .simp(disch:=omega)only[↓wr,seval,wq]
  rw[b (by rw[f];simp;omega)]
 simp(disch:=omega)only[↓wr,seval,wq,t2,t3,t5]
 refine aS.up a.length (λj T H'=>(∀ k,k < j->jm g t.aZ.length (a.getD k ⟨0,0⟩)=true)/\T 2=.aH (ag g) 0/\T 3=.aH (cJ t) 0/\T 5=gi i/\T 6=gi j) ⟨λk hk=>by omega,t2,t3,t5,rfl⟩ ?_
 rintro j X Y R E ⟨r,t2,t3,t5,t6⟩
 simp(disch:=omega)only[↓wr,seval,wq,pw,t2,t3,t5,t6,cJ,ag,encS,aav,v,aaz]
 apply ah.dec<;>intro S
 .have s:a[j]?=some (a.getD j ⟨0,0⟩):=getD_some (by omega)
  have d:=aax s
  generalize F:a.getD j ⟨0,0⟩=c at s d
  have m:=QN g t c
  simp only[ag,encS,cJ,cK] at m
  simp(disch:=omega)only[↓wr,seval,wq,t2,t3,t5,t6,cJ,ag,encS,aav,v,s,aaz,cK]
  refine ay.pure m ?_
  simp(disch:=omega)only[↓wr,seval,wq]
  apply ah.split<;>intro u
  .simp(disch:=omega)only[↓wr,seval,wq,t2,t3,t5,t6]
   exact aC E (by omega) ⟨λk hk=>by
    by_cases e:k=j
    .subst e;rw[F];exact u
    .exact r k (by omega),t2,t3,t5,rfl⟩
  .simp(disch:=omega)only[↓wr,seval,wq]
   rw[b (by
    rw[f,acG]
    intro h
    simp only[aaB,aaX] at h
    have:=h.1.2 c d
    rw[u] at this;simp at this)]
 simp(disch:=omega)only[↓wr,seval,wq,t2,t3,t5]
 refine aS.up l.length (λj T H'=>(∀ k,k < j->-1<=l.getD k 0/\l.getD k 0 < t.aZ.length)/\T 2=.aH (ag g) 0/\T 3=.aH (cJ t) 0/\T 5=gi i/\T 7=gi j) ⟨λk hk=>by omega,t2,t3,t5,rfl⟩ ?_
 rintro A k2 Z H2 G ⟨w,t2,t3,t5,t7⟩
 simp(disch:=omega)only[↓wr,seval,wq,pj,t2,t3,t5,t7,cJ,encI,aav,hl,aaz]
 apply ah.dec<;>intro I
 .have o:l[A]?=some (l.getD A 0):=getD_some (by omega)
  have d:=aax o
  generalize F:l.getD A 0=x at o d
  have bad:¬(-1<=x/\x < (t.aZ.length:Int))->w7 g t.aZ.length a l=false:=λU=>by
   rw[f,acG]
   intro h
   simp only[aaB,aaX,aaE] at h
   exact U (h.2 x d)
  simp(disch:=omega)only[↓wr,seval,wq,t2,t3,t5,t7,cJ,encI,aav,hl,o,aaz]
  apply ah.dec<;>intro J
  .simp(disch:=omega)only[↓wr,seval,wq]
   rw[b (bad (by omega))]
  simp(disch:=omega)only[↓wr,seval,wq,t2,t3,t5,t7,cJ,encI,aav,hl,o,aaz]
  apply ah.dec<;>intro V
  .simp(disch:=omega)only[↓wr,seval,wq]
   rw[b (bad (by omega))]
  .simp(disch:=omega)only[↓wr,seval,wq,t2,t3,t5,t7]
   exact aC G (by omega) ⟨λk hk=>by
    by_cases e:k=A
    .subst e;rw[F];omega
    .exact w k (by omega),t2,t3,t5,rfl⟩
 .simp(disch:=omega)only[↓wr,seval,wq,t2,t3,t5]
  refine aC hk (by omega) ⟨λk hk=>?_,t2,t3,rfl⟩
  by_cases e:k=i
  .subst e
   rw[P,el,f]
   simp only[aaB,aaX,aaE]
   refine⟨⟨⟨by omega,by omega⟩,λc z=>?_⟩,λx J=>?_⟩
   .obtain⟨q,hq⟩:=List.mem_iff_getElem?.1 z
    have K:=(aaG.1 hq).1
    have:=r q (by omega)
    rwa [aaq,hq] at this
   .obtain⟨q,hq⟩:=List.mem_iff_getElem?.1 J
    have K:=(aaG.1 hq).1
    have:=w q (by omega)
    rwa [aaq,hq] at this
  .exact p k (by omega)
def gH:SC :=
 ae [ab [aQ 9 .lss 8 7],bS 9 (.exit 0),.block 1 (ae [ab [aa 10 8,aa 5 10],ab [aa 11 1,aa 12 0,aa 13 5,aI 14 2 12 13,aY 15 2 14,((some 16),.call (.tmp 11) [(.tmp 15)])],bf 16 (ae [ab [aa 17 5,aa 4 17],.ret])]),ab [aF 18 .add 8 1,aa 8 18]]
def gP:SF:=⟨ae [ab [aT 4 0],ae [ab [aa 6 0,aM 7 6,aT 8 0],bX 0 gH],ab [aT 4 (-1)],.ret],
 [.tmp 4],19⟩
theorem kE:aO Tryz.prog 132 []=some gP:=by kernel_rfl
def gv:SF:=⟨ae [ab [bw 4 false],ab [aa 5 0,aa 6 1,bm 7 132 [5,6],aF 8 .geq 7 0,aa 4 8],.ret],
 [.tmp 4],9⟩
theorem j7:aO Tryz.prog 88 []=some gv:=by kernel_rfl
theorem Ji (l:List Cell) (hl:aK l) (f:FuncId) (cap:List V) (p:Cell->Bool) (H:View) (g:∀ x∈l,av Tryz.prog f (.agg (cK x) :: cap) H λr H'=>r=gb (p x)/\H'=H) :
  av Tryz.prog 132 [.aE (l.map λx=>cK x),.fn f [] cap] H λr H'=>r=gi (cz p l 0)/\H'=H:=by
 refine av.of mixed kE ?_
 unfold aK at hl
 simp(disch:=omega)only[↓wr,seval,wq,gP]
 refine aS.up l.length (λi T H'=>H=H'/\cz p (l.drop i) i=cz p l 0/\T 0=.aE (l.map λx=>cK x)/\T 1=.fn f [] cap/\T 7=gi l.length/\T 8=gi i) ⟨rfl,rfl,rfl,rfl,rfl,rfl⟩ ?_
 rintro i k T _ hk ⟨rfl,hi,b,h1,c,d⟩
 simp(disch:=omega)only[↓wr,seval,wq,gH,b,h1,c,d]
 apply ah.dec<;>intro h
 .have e:l[i]?=some (l[i]'(by omega)):=aar (by omega)
  have hm:l[i]'(by omega)∈l:=aaC _
  rw[eZ (show i < l.length by omega)] at hi
  generalize l[i]'(by omega)=x at e hm hi
  simp(disch:=omega)only[↓wr,seval,wq,b,h1,c,d,aav,e,aaz,cK]
  have a:=g x hm
  simp only[cK] at a
  refine ay.dr (a.mono ?_)
  rintro r j ⟨rfl,rfl⟩
  simp only[cz] at hi
  simp(disch:=omega)only[↓wr,seval,wq]
  apply ah.split<;>intro hp
  .simp(disch:=omega)only[↓wr,seval,wq,b,h1,c,d]
   rw[<-hi,aaw hp]
  .simp(disch:=omega)only[↓wr,seval,wq,b,h1,c,d]
   refine aC hk (by omega) ⟨rfl,?_,b,h1,c,rfl⟩
   rw[aat (by simp[hp])] at hi
   push_cast;exact hi
 .rw[aaV (by omega)] at hi
  simp(disch:=omega)only[↓wr,seval,wq,b,h1,c,d]
  rw[<-hi];rfl
theorem DG (l:List Cell) (hl:aK l) (f:FuncId) (cap:List V) (p:Cell->Bool) (H:View) (a:∀ x∈l,av Tryz.prog f (.agg (cK x) :: cap) H λr H'=>r=gb (p x)/\H'=H) :
  av Tryz.prog 88 [.aE (l.map λx=>cK x),.fn f [] cap] H λr H'=>r=gb (l.any p)/\H'=H:=by
 refine av.of mixed j7 ?_
 simp(disch:=omega)only[↓wr,seval,wq,gv]
 refine ay.dr ((Ji l hl f cap p H a).mono ?_)
 rintro r b ⟨rfl,rfl⟩
 simp(disch:=omega)only[↓wr,seval,wq]
 rw[<-oN _ l 0 (by omega)]
def Jt (x:Int):List V:=[gi x]
theorem JA (l:List Int) (hl:aK l) (f:FuncId) (cap:List V) (p:Int->Bool) (H:View) (g:∀ x∈l,av Tryz.prog f (gi x :: cap) H λr H'=>r=gb (p x)/\H'=H) :
  av Tryz.prog 133 [.aE (l.map λx=>Jt x),.fn f [] cap] H λr H'=>r=gi (cz p l 0)/\H'=H:=by
 refine av.of mixed gn ?_
 unfold aK at hl
 simp(disch:=omega)only[↓wr,seval,wq,fu]
 refine aS.up l.length (λi T H'=>H=H'/\cz p (l.drop i) i=cz p l 0/\T 0=.aE (l.map λx=>Jt x)/\T 1=.fn f [] cap/\T 7=gi l.length/\T 8=gi i) ⟨rfl,rfl,rfl,rfl,rfl,rfl⟩ ?_
 rintro i k T _ hk ⟨rfl,hi,b,h1,c,d⟩
 simp(disch:=omega)only[↓wr,seval,wq,eY,b,h1,c,d]
 apply ah.dec<;>intro h
 .have e:l[i]?=some (l[i]'(by omega)):=aar (by omega)
  have hm:l[i]'(by omega)∈l:=aaC _
  rw[eZ (show i < l.length by omega)] at hi
  generalize l[i]'(by omega)=x at e hm hi
  simp(disch:=omega)only[↓wr,seval,wq,b,h1,c,d,aav,e,aaz,Jt]
  have a:=g x hm
  refine ay.dr (a.mono ?_)
  rintro r j ⟨rfl,rfl⟩
  simp only[cz] at hi
  simp(disch:=omega)only[↓wr,seval,wq]
  apply ah.split<;>intro hp
  .simp(disch:=omega)only[↓wr,seval,wq,b,h1,c,d]
   rw[<-hi,aaw hp]
  .simp(disch:=omega)only[↓wr,seval,wq,b,h1,c,d]
   refine aC hk (by omega) ⟨rfl,?_,b,h1,c,rfl⟩
   rw[aat (by simp[hp])] at hi
   push_cast;exact hi
 .rw[aaV (by omega)] at hi
  simp(disch:=omega)only[↓wr,seval,wq,b,h1,c,d]
  rw[<-hi];rfl
theorem EZ (l:List Int) (hl:aK l) (f:FuncId) (cap:List V) (p:Int->Bool) (H:View) (a:∀ x∈l,av Tryz.prog f (gi x :: cap) H λr H'=>r=gb (p x)/\H'=H) :
  av Tryz.prog 91 [.aE (l.map λx=>Jt x),.fn f [] cap] H λr H'=>r=gb (l.any p)/\H'=H:=by
 refine av.of mixed fH ?_
 simp(disch:=omega)only[↓wr,seval,wq,eM]
 refine ay.dr ((JA l hl f cap p H a).mono ?_)
 rintro r b ⟨rfl,rfl⟩
 simp(disch:=omega)only[↓wr,seval,wq]
 rw[<-oN _ l 0 (by omega)]
theorem XP (g:ai) (b n:Nat) (c:Cell) (H:View) (d:H b=.arr 1 [[gi n]]):av Tryz.prog 89 [.agg (cK c),.ptr b 0 0,.aH (ag g) 0] H λr H'=>r=gb (!jm g n c)/\H'=H:=by
 refine av.of mixed Cj ?_
 have a:=Ve c n g.rules.length
 simp only[cK] at a
 simp(disch:=omega)only[↓wr,seval,wq,wO,cK,ag,encS,d]
 refine ay.pure a ?_
 simp(disch:=omega)only[↓wr,seval,wq]
 rfl
theorem YE (b n:Nat) (x:Int) (H:View) (a:H b=.arr 1 [[gi n]]):av Tryz.prog 92 [gi x,.ptr b 0 0] H λr H'=>r=gb (!(decide (-1<=x) && decide (x < n)))/\H'=H:=by
 refine av.of mixed Bp ?_
 simp(disch:=omega)only[↓wr,seval,wq,wA,a]
 repeat' (first | ((first|apply ah.dec|apply ah.eq|apply ah.ne|apply ah.split)<;>intro)|(simp(disch:=omega)only[↓wr,seval,wq,a]))
 .rename_i c
  rw[decide_eq_false (show ¬ -1<=x by omega)];rfl
 .rename_i c
  rw[acx (show -1<=x by omega),abE,<-decide_not]
  rw[decide_eq_decide.2 (show (x≥(n:Int))↔¬ x < n by omega)]
theorem Ti (g:ai) (y:g.Ok) (z:g.Small) (t:tU) (q:t.Ok):az Tryz.prog 47 [.agg (ag g),.agg (cJ t)] (gb (jf g t)):=by
 refine az.val (Om g t) λH=>?_
 have s:=mM g y z.names
 have h1:=q.aZ
 have I:=q.gotos
 have J:=y.af
 have K:=y.ak
 unfold aK at h1 I J K
 refine av.of mixed DI ?_
 simp only[ag,encS] at s
 simp(disch:=omega)only[↓wr,seval,wq,Ap,ag,encS,cJ]
 intro b N
 rw[set_set]
 have f:(H.set b (.arr 1 [[gi t.aZ.length]])) b=.arr 1 [[gi t.aZ.length]]:=by simp[View.set]
 generalize H.set b (.arr 1 [[gi t.aZ.length]])=H1 at f
 try simp(disch:=omega)only[↓wr,seval,wq,cJ,f]
 refine ay.pure s ?_
 have n:(bC g && decide (1<=t.aZ.length) && decide (t.aZ.length<=300) && decide (t.gotos.length=t.aZ.length))=false->jf g t=false:=λh=>by unfold jf;rw[h];rfl
 simp(disch:=omega)only[↓wr,seval,wq]
 apply ah.split<;>intro hr
 rotate_left
 .simp(disch:=omega)only[↓wr,seval,wq]
  rw[n (by rw[hr];rfl)]
 simp(disch:=omega)only[↓wr,seval,wq,cJ,f]
 apply ah.dec<;>intro c1
 .simp(disch:=omega)only[↓wr,seval,wq]
  rw[n (by rw[hr];simp;omega)]
 simp(disch:=omega)only[↓wr,seval,wq,cJ,f]
 apply ah.dec<;>intro c2
 .simp(disch:=omega)only[↓wr,seval,wq]
  rw[n (by rw[hr];simp;omega)]
 simp(disch:=omega)only[↓wr,seval,wq,cJ,f]
 apply ah.ne<;>intro L
 .simp(disch:=omega)only[↓wr,seval,wq]
  rw[n (by rw[hr];simp;omega)]
 simp(disch:=omega)only[↓wr,seval,wq,cJ,f]
 have O:=bu hr
 refine aS.up t.aZ.length (λi T H'=>H1=H'/\(∀ k,k < i->w7 g t.aZ.length (t.aZ.getD k []) (t.gotos.getD k [])=true)/\T 2=.aH (ag g) 0/\T 3=.aH (cJ t) 0/\T 5=.ptr b 0 0/\T 30=.aE (t.aZ.map λr=>[hU r])/\T 31=gi t.aZ.length/\T 32=gi i) ⟨rfl,λk hk=>by omega,rfl,rfl,rfl,rfl,rfl,rfl⟩ ?_
 rintro i k T _ hk ⟨rfl,o,t2,t3,t5,t30,t31,t32⟩
 simp(disch:=omega)only[↓wr,seval,wq,wc,t2,t3,t5,t30,t31,t32,cJ]
 apply ah.dec<;>intro hd
 rotate_left
 .simp(disch:=omega)only[↓wr,seval,wq]
  rw[show jf g t=true from by
   unfold jf
   rw[hr]
   simp only[aaB,aaE,aaX,abl,abE]
   exact⟨⟨⟨by omega,by omega⟩,by omega⟩,λk hk=>o k (by omega)⟩]
 have hi:i < t.aZ.length:=by omega
 have u:t.aZ[i]?=some (t.aZ.getD i []):=getD_some hi
 have hl:t.gotos[i]?=some (t.gotos.getD i []):=getD_some (by omega)
 have A:=q.row _ (aax u)
 have B:=q.go _ (aax hl)
 have d:=@Fs g t i hi
 generalize M:t.aZ.getD i []=a at u A d
 generalize el:t.gotos.getD i []=l at hl B d
 have j:w7 g t.aZ.length a l=(decide (a.length=g.af.length+1) && decide (l.length=g.ak.length) && a.all (jm g t.aZ.length) && l.all λx=>decide (-1<=x) && decide (x < t.aZ.length)):=rfl
 obtain⟨G,A⟩:=A
 obtain⟨sl,B⟩:=B
 have C:=G
 have D:=sl
 unfold aK at G sl
 simp(disch:=omega)only[↓wr,seval,wq,t2,t3,t5,t30,t31,t32,cJ,ag,encS,aav,u,hl,aaz]
 apply ah.ne<;>intro d1
 .simp(disch:=omega)only[↓wr,seval,wq]
  rw[d (by rw[j];simp;omega)]
 simp(disch:=omega)only[↓wr,seval,wq,t2,t3,t5,t30,t31,t32,cJ,ag,encS,encI,aav,u,hl,aaz]
 apply ah.ne<;>intro d2
 .simp(disch:=omega)only[↓wr,seval,wq]
  rw[d (by rw[j];simp;omega)]
 simp(disch:=omega)only[↓wr,seval,wq,t2,t3,t5,t30,t31,t32]
 refine ay.dr ((DG a C 89 [.ptr b 0 0,.aH (ag g) 0] (λc=>!jm g t.aZ.length c) H1 λc _=>XP g b t.aZ.length c H1 f).mono ?_)
 rintro r E ⟨rfl,rfl⟩
 simp(disch:=omega)only[↓wr,seval,wq,t2,t3,t5,t30,t31,t32]
 apply ah.split<;>intro v
 .simp(disch:=omega)only[↓wr,seval,wq]
  rw[d (by
   obtain⟨c,p,m⟩:=List.any_eq_true.1 v
   rw[j,acG]
   intro h
   simp only[aaB,aaX] at h
   have:=h.1.2 c p
   rw[this] at m;simp at m)]
 simp(disch:=omega)only[↓wr,seval,wq,t2,t3,t5,t30,t31,t32,cJ,encI,aav,hl,aaz]
 refine ay.dr ((EZ l D 92 [.ptr b 0 0] (λx=>!(decide (-1<=x) && decide (x < t.aZ.length))) E λx _=>YE b t.aZ.length x E f).mono ?_)
 rintro r E ⟨rfl,rfl⟩
 simp(disch:=omega)only[↓wr,seval,wq,t2,t3,t5,t30,t31,t32]
 apply ah.split<;>intro w
 .simp(disch:=omega)only[↓wr,seval,wq]
  rw[d (by
   obtain⟨c,p,m⟩:=List.any_eq_true.1 w
   rw[j,acG]
   intro h
   simp only[aaB,aaX] at h
   have:=h.2 c p
   simp only[this.1,this.2] at m;simp at m)]
 .simp(disch:=omega)only[↓wr,seval,wq,t2,t3,t5,t30,t31,t32]
  refine aC hk (by omega) ⟨rfl,λk hk=>?_,t2,t3,t5,t30,t31,rfl⟩
  by_cases e:k=i
  .subst e
   rw[M,el,j]
   rw[List.any_eq_false] at v w
   simp only[aaB,aaX,aaE]
   refine⟨⟨⟨by omega,by omega⟩,λc s=>?_⟩,λx F=>?_⟩
   .simpa using v c s
   .simpa using w x F
  .exact o k (by omega)
theorem YG:yi.Ok:=by
 refine⟨by unfold aK;decide,by unfold aK;decide,by unfold aK;decide,by unfold b6;decide,?_,?_⟩
 .intro t a;simp[yi] at a
 .intro r hr;simp[yi] at hr
section
variable {g r:ai} {p q:List Bool} {o:List Int}
end
end Gv
