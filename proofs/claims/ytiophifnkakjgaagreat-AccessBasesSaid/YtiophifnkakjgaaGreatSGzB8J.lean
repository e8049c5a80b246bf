/-
  Part 10 of the proof: what the machine does and what the functions answer.
  Conditions: those that each lemma names.
-/
import Derived.Test.YtiophifnkakjgaaGreatSGzB8I
set_option linter.unusedSimpArgs false
set_option linter.unusedVariables false
set_option maxRecDepth 100000
set_option maxHeartbeats 20000000
namespace Gv
open Go Go.Proofs
def tH:SC :=
 ae [ab [aR 44 .lss 43 42],bX 44 (.exit 0),.block 1 (ae [ab [aa 45 43,aO 46 3 41 43,aS 47 3 46,((some 11),.op (.alloc [(.val (.int .i64 0)),(.emp 1),(.val (.int .i64 0))])),aa 10 45,cg 3 11 47],ae [.region false [⟨none,[aa 48 6,al 49 0 11,ak 50 49,aO 51 1 48 50,ak 52 51,c7 53 52,aa 54 53]⟩,⟨(some (54,false)),[aS 55 3 11,aa 56 5,aX 57 164 [55,56],c7 58 57]⟩,⟨none,[cM 59 54 58]⟩],ba 59 (.exit 1)],ab [aa 60 7,aa 61 10,((some 62),.op (.bP 1 1 [(.val (.int .i64 0))] [(0,(.tmp 61))])),fk 63 1 8 60 62,aa 7 63],ab [aa 65 9,al 66 0 11,ak 67 66,((some 68),.op (.old (.lookup 265 (.tmp 65) (.tmp 67) true) 66)),aa 64 68,du 69 0 64,du 70 1 64,aa 12 69,aa 13 70],ab [aa 71 13,c7 72 71],ba 72 (ae [ab [aa 73 9,al 74 0 11,ak 75 74,al 76 1 8,ak 77 76,aM 78 77,(none,.op (.old (.mapUpdate 265 (.tmp 73) (.tmp 75) (.tmp 78)) 0))],.region false [⟨none,[al 79 1 8,ak 80 79,al 81 1 1,ak 82 81,al 83 0 11,ak 84 83,aO 85 1 82 84,ak 86 85,((some 87),.op (.bP 1 1 [(.val (.string ⟨#[]⟩))] [(0,(.tmp 86))])),fk 88 1 16 80 87,al 89 1 8,cg 1 89 88]⟩]])]),ab [aG 90 .add 43 1,aa 43 90]]
def tF:SC :=
 ae [ab [aR 116 .lss 115 114],bX 116 (.exit 4),.block 5 (ae [ab [aa 117 115,aO 118 1 113 115,ak 119 118,aa 18 117,aa 19 119],ab [aa 120 19,aG 121 .lss 120 0],ba 121 (ab [al 122 1 17,ak 123 122,aa 124 18,aa 125 9,aa 126 19,((some 127),.op (.arith .sub (.val (.val (.int .i64 (-1)))) (.tmp 126))),((some 128),.op (.old (.lookup 265 (.tmp 125) (.tmp 127) false) 3)),((some 129),.op (.arith .sub (.val (.val (.int .i64 (-1)))) (.tmp 128))),aO 130 1 123 124,cg 1 130 129])]),ab [aG 131 .add 115 1,aa 115 131]]
def tA:SC :=
 ae [ab [aR 94 .lss 93 92],bX 94 (.exit 2),.block 3 (ae [ab [aO 95 1 91 93,ak 96 95,aa 15 96],ab [al 97 2 1,ak 98 97,aa 99 15,aO 100 3 98 99,aS 101 3 100,((some 16),.op (.alloc [(.val (.int .i64 0)),(.emp 1),(.val (.int .i64 0))])),cg 3 16 101],.region true [⟨none,[aa 102 9,al 103 0 16,ak 104 103,((some 105),.op (.old (.lookup 265 (.tmp 102) (.tmp 104) false) 3)),al 106 1 16,ak 107 106,aX 108 140 [107],al 109 2 16,ak 110 109,((some 111),.op (.build [(.val (.int .i64 0)),(.emp 1),(.val (.int .i64 0))] [(0,1,(.tmp 105)),(1,1,(.tmp 108)),(2,1,(.tmp 110))])),((some 17),.op (.alloc [(.val (.int .i64 0)),(.emp 1),(.val (.int .i64 0))])),cg 3 17 111]⟩],ae [ab [al 112 1 17,ak 113 112,aM 114 113,aN 115 0],bY 4 tF],ab [al 132 2 8,ak 133 132,aS 134 3 17,((some 135),.op (.bP 1 3 [(.val (.int .i64 0)),(.emp 1),(.val (.int .i64 0))] [(0,(.tmp 134))])),fk 136 3 40 133 135,al 137 2 8,cg 1 137 136]]),ab [aG 138 .add 93 1,aa 93 138]]
def xe:SF:=⟨ae [ab [cw 1 0,((some 2),.op (.alloc [(.emp 1),(.emp 1),(.emp 1),(.val (.int .i64 0))])),bI 3 1,aN 4 0],ae [ab [aS 20 4 1,aX 21 89 [20],c7 22 21],ba 22 (ae [ab [((some 23),.op (.build [(.emp 1),(.emp 1),(.emp 1),(.val (.int .i64 0))] [])),cg 4 2 23,bI 3 1,aN 4 1],.ret])],.region true [⟨none,[aS 24 4 1,aX 25 161 [24],aS 26 4 1,aX 27 162 [26],aa 5 25,aa 6 27]⟩],ae [ab [aa 28 5,al 29 3 1,ak 30 29,aO 31 1 28 30,ak 32 31,c7 33 32],ba 33 (ae [ab [((some 34),.op (.build [(.emp 1),(.emp 1),(.emp 1),(.val (.int .i64 0))] [])),cg 4 2 34,bI 3 1,aN 4 9],.ret])],ab [bI 7 1],ab [al 35 0 1,ak 36 35,aX 37 163 [36],((some 38),.op (.build [(.emp 1),(.emp 1),(.emp 1),(.val (.int .i64 0))] [(0,1,(.tmp 37))])),((some 8),.op (.alloc [(.emp 1),(.emp 1),(.emp 1),(.val (.int .i64 0))])),cg 4 8 38],ab [((some 39),.op (.qb)),aa 9 39],ae [ab [al 40 2 1,ak 41 40,aM 42 41,aN 43 0],bY 0 tH],ae [ab [aa 91 7,aM 92 91,aN 93 0],bY 2 tA],ab [aa 139 9,al 140 3 1,ak 141 140,((some 142),.op (.old (.lookup 265 (.tmp 139) (.tmp 141) false) 3)),al 143 3 8,cg 1 143 142],ab [aS 144 4 8,aa 145 7,cg 4 2 144,aa 3 145,aN 4 0],.ret],
 [.cell 2 (some 4),.tmp 3,.tmp 4],146⟩
theorem Ao:aH Tryz.prog 92 [1]=some xe:=by kernel_rfl
abbrev yn (m:cB Int):List (V × V × Nat):=cn (Value.int .i64) m
def RT (g:ag) (p q:List Bool) (b2 b8 b9:Nat) (u0:V) (i:Nat) (T:Env) (H:View):Prop :=
 (∃ u1 u3:V,T 7=u3/\(∀ x∈cy p q (g.rules.take i),0<=x/\x < g.aj.length)/\(cy p q (g.rules.take i)).length<=i /\
  bc H [(.sl b8 0 1 4,4,[[u0,u1,.emp 1,gi 0]]),(u3,1,bt (c5 p q (g.rules.take i) 0)),
   (u1,1,iw ((cy p q (g.rules.take i)).map λx=>g.aj.getD x.toNat ⟨#[]⟩)),(u0,3,g.au.map cP),(.sl b2 0 1 4,4,[[.emp 1,.emp 1,.emp 1,gi 0]])] /\
  ∃ m c,H b9=.map (yn m) c/\oD gi (jJ (cy p q (g.rules.take i)) 0) m) /\
 T 1=.aJ (af g) 0/\T 2=.ptr b2 0 0/\T 5=cD p/\T 6=cD q/\T 8=.ptr b8 0 0/\T 9=.mp b9/\T 41=.aQ (g.rules.map aI)/\T 42=gi g.rules.length/\T 43=gi i
theorem CG {α:Type} {x s:α} : ∀ {a d:List α} {k:Nat},a.length=k->(a ++ s :: d).set k x=a ++ x :: d
 | [],d,k,h=>by simp at h;subst h;rfl
 | y :: a,d,k,h=>by
  cases k with
  | zero=>simp at h
  | succ k=>simp only[Va,List.set_cons_succ];rw[CG (by simpa using h)]
def TN (g:ag) (p q:List Bool) (b2 b8 b9:Nat) (u0 u1 u3:V) (o kl:List Int) (mm:cB Int) (cc:Nat) (i:Nat) (T:Env) (H:View):Prop :=
 (∃ (u2:V) (bs:sV),bs.map (·.2)=((g.rules.filter (c6 p q)).take i).map (cp (ej o)) /\
  bc H ((.sl b8 0 1 4,4,[[u0,u1,u2,gi 0]]) :: (u3,1,bt kl) ::
   (u1,1,iw (o.map λx=>g.aj.getD x.toNat ⟨#[]⟩)) :: (u0,3,g.au.map cP) :: (u2,3,eV bs) :: (.sl b2 0 1 4,4,[[.emp 1,.emp 1,.emp 1,gi 0]]) :: ig bs) /\
  H b9=.map (yn mm) cc) /\
 T 1=.aJ (af g) 0/\T 2=.ptr b2 0 0/\T 7=u3/\T 8=.ptr b8 0 0/\T 9=.mp b9/\T 91=u3/\T 92=gi kl.length/\T 93=gi i
def Tv (g:ag) (b2 b8 b9 b16 b17:Nat) (u3 v:V) (o kl:List Int) (mm:cB Int) (cc:Nat) (r:bb) (L:List dN) (i k:Nat) (T:Env) (H:View):Prop :=
 bc H ((.sl b17 0 1 3,3,[[gi (ej o r.left),v,gi r.prec]]) :: (v,1,bt ((cp (ej o) r).right.take k ++ r.right.drop k)) :: (.sl b16 0 1 3,3,[aI r]) :: L) /\
 H b9=.map (yn mm) cc/\T 1=.aJ (af g) 0/\T 2=.ptr b2 0 0/\T 7=u3/\T 8=.ptr b8 0 0/\T 9=.mp b9/\T 91=u3/\T 92=gi kl.length/\T 93=gi i/\T 17=.ptr b17 0 0/\T 113=v/\T 114=gi r.right.length/\T 115=gi k
theorem HY (g:ag) (hg:g.Ok) (hs:g.Small):b6 Tryz.prog 92 [.agg (af g)] (vY (if bV g=true then
  if (bD g true).getD g.start.toNat false=true then (vR g (ej (cy (bD g true) (cr g) g.rules)) (bD g true) (cr g),c5 (bD g true) (cr g) g.rules 0,0)
  else (rl,[],9)
 else (rl,[],1))):=by
 refine b6.of (dO g) ?_
 refine av.of mixed Ao ?_
 simp(disch:=omega)only[↓wr,seval,wq,xe,af,encS]
 intro Q
 try simp(disch:=omega)only[↓wr,seval,wq,af,encS]
 refine aw.pure (sT g hg hs.names) ?_
 repeat' (first | ((first|apply ai.dec|apply ai.eq|apply ai.ne|apply ai.split)<;>intro)|(simp(disch:=omega)only[↓wr,seval,wq,af,encS,set_set]))
 .rename_i hr
  rw[Uz hr]
  refine aw.pure (uA g hg hs).pure ?_
  simp(disch:=omega)only[↓wr,seval,wq,af,encS]
  refine aw.pure (EZ g hg hs).pure ?_
  have hf:=b4 hr
  have h3:=hf.oh
  have h4:=hf.start
  have ee:=mc hr true
  have hl:=pU hr
  generalize bD g true=p at ee ⊢
  generalize cr g=q at hl ⊢
  have cV:p[g.start.toNat]?=some (p[g.start.toNat]'(by omega)):=Uv (by omega)
  have eg:p.getD g.start.toNat false=p[g.start.toNat]'(by omega):=by simp[Uu,cV]
  generalize p[g.start.toNat]'(by omega)=s at cV eg
  rw[eg]
  simp(disch:=omega)only[↓wr,seval,wq,af,encS,cD,Uy,cV]
  cases s with
  | false =>
   simp(disch:=omega)only[↓wr,seval,wq,af,encS,set_set]
   rintro h' hh
   exact wc
  | true =>
   simp(disch:=omega)only[↓wr,seval,wq,af,encS,set_set]
   have hN:=hf.aj
   have iI:=hf.lp
   have hT:=hf.au
   have hR:=hf.rules
   refine aw.dL ((OL g.au (by omega) _).mono ?_)
   rintro B H1 ⟨hn,K⟩
   have bl:=(bc.nil.new (H:=λ_=>dB.dead) (n:=Q) rfl 4 [[.emp 1,.emp 1,.emp 1,gi 0]]).Af hn K
   have c0:=bl.head.cells
   have k0:=bl.head.er
   simp(disch:=omega)only[↓wr,seval,wq,af,encS,c0,k0]
   intro O ei
   have ek:=bl.new ei 4 [[B,.emp 1,.emp 1,gi 0]]
   try simp(disch:=omega)only[↓wr,seval,wq,af,encS,c0,k0,set_set]
   intro d R
   have cA:=(bU R bR).1
   have R:=(bU (bU R bR).2 bR).2
   have f:=(((ek.fresh (n:=d) (o:=.map [] 0) (by simp only[View.set,Ux cA];exact R)).emp (k:=1) (sz:=1)).emp (k:=1) (sz:=1)).perm FZ.symm
   try simp(disch:=omega)only[↓wr,seval,wq,af,encS,c0,k0,set_set]
   refine aV.up g.rules.length (RT g p q Q O d B) ?_ ?_
   .refine⟨⟨.emp 1,.emp 1,rfl,by simp[cy],by simp[cy],by rw[set_set];exact f,[],0,by simp[View.set,cn],trivial⟩,rfl,rfl,rfl,rfl,rfl,rfl,rfl,rfl,rfl⟩
   clear bl ek f ei R cA
   rintro i k T H2 hk ⟨⟨G,u3,t7,bn,c3,A,mm,C,j,D⟩,t1,t2,t5,t6,t8,t9,t41,t42,t43⟩
   simp(disch:=omega)only[↓wr,seval,wq,tH,t1,t2,t5,t6,t7,t8,t9,t41,t42,t43,af]
   apply ai.dec<;>intro hc
   .have E:g.rules[i]?=some (g.rules[i]'(by omega)):=Uv (by omega)
    have l:g.rules[i]'(by omega)∈g.rules:=UC _
    have w:g.rules.take (i+1)=g.rules.take i ++ [g.rules[i]'(by omega)]:=by rw[UW,E];rfl
    generalize g.rules[i]'(by omega)=r at E l w
    obtain⟨hq,eH,e0,ht,br⟩:=hf.qT hg l
    have c4:q[r.left.toNat]?=some (q[r.left.toNat]'(by omega)):=Uv (by omega)
    have bx:q.getD r.left.toNat false=q[r.left.toNat]'(by omega):=by simp[Uu,c4]
    generalize q[r.left.toNat]'(by omega)=qs at c4 bx
    simp(disch:=omega)only[↓wr,seval,wq,t1,t2,t5,t6,t7,t8,t9,t41,t42,t43,aI,encI,Uy,E]
    intro b0 S
    have F:=A.new S 3 [aI r]
    have cC:d≠b0:=by rintro rfl;rw[j] at S;simp at S
    try simp(disch:=omega)only[↓wr,seval,wq,t1,t2,t5,t6,t7,t8,t9,t41,t42,t43,aI,encI,cD,Uy,c4,set_set]
    have U:∀ (P:Env) (H':View),c6 p q r=false->H'=H2.set b0 (.arr 3 [aI r])->P 7=u3->P 1=.aJ (af g) 0->P 2=.ptr Q 0 0->P 5=cD p->P 6=cD q->P 8=.ptr O 0 0->P 9=.mp d->P 41=.aQ (g.rules.map aI)->P 42=gi g.rules.length->P 43=gi ((i:Int)+1) ->
      ∃ k',k' < k/\D3 g.rules.length k' (RT g p q Q O d B) P H':=by
     intro P H' W e4 a7 a1 a2 a5 a6 a8 a9 a41 hz hA
     have M:cy p q (g.rules.take (i+1))=cy p q (g.rules.take i):=by rw[w,tz,Ux (by simp[W])]
     have e2:c5 p q (g.rules.take (i+1)) 0=c5 p q (g.rules.take i) 0:=by rw[w,kA];simp[c5,W]
     refine aD hk (by omega) ⟨⟨G,u3,a7,by rw[M];exact bn,by rw[M];omega,by rw[M,e2,e4];exact F.tail,mm,C,by rw[e4];simp[View.set,cC,j],by rw[M];exact D⟩,a1,a2,a5,a6,a8,a9,a41,hz,by rw[hA];rfl⟩
    cases qs with
    | false =>
     simp(disch:=omega)only[↓wr,seval,wq,t1,t2,t5,t6,t7,t8,t9,t41,t42,t43]
     refine U _ _ (by rw[c6,bx];rfl) ?_ ?_ ?_ ?_ ?_ ?_ ?_ ?_ ?_ ?_ ?_
     all_goals first | exact t7 | exact t1 | exact t2 | exact t5 | exact t6 | exact t8 | exact t9 | exact t41 | exact t42 | rfl | (rw[set_set];rfl)
    | true =>
     simp(disch:=omega)only[↓wr,seval,wq,t1,t2,t5,t6,t7,t8,t9,t41,t42,t43,aI,encI,cD]
     refine aw.pure (xV r p (hg.ax r l).2.2.1 (λs e5=>⟨(br s e5).1,λh=>by rw[ee];exact(br s e5).2 h⟩)) ?_
     simp(disch:=omega)only[↓wr,seval,wq,t1,t2,t5,t6,t7,t8,t9,t41,t42,t43]
     apply ai.split<;>intro da
     .simp(disch:=omega)only[↓wr,seval,wq,t1,t2,t5,t6,t7,t8,t9,t41,t42,t43]
      have W:c6 p q r=true:=by rw[c6,bx,da];rfl
      intro m hm
      try simp(disch:=omega)only[↓wr,seval,wq,t1,t2,t5,t6,t7,t8,t9,t41,t42,t43,bH]
      have e6:=(bU hm bR).1
      have hm:=(bU (bU hm bR).2 bR).2
      have e:=(F.fresh (n:=m) (o:=.arr 1 [[gi i]]) (by simp only[View.set,Ux e6];exact hm)).at 2 (by simp)
      have db:d≠m:=by rintro rfl;rw[j] at hm;simp at hm
      have e7:(c5 p q (g.rules.take i) 0).length<=40:=by
       rw[kM]
       have h1:=VU (c6 p q) (g.rules.take i)
       have h2:(g.rules.take i).length<=i:=List.length_take_le _ _
       omega
      refine cx (by rw[set_set];exact e) (by simp[aF]) (by unfold aB;simp at e7 ⊢;omega) (by unfold aB;simp at e7 ⊢;omega) ?_
      intro dj H3 f t
      have f11:=f.is 1 rfl (by simp)
      have f8:=f.is 2 rfl (by simp)
      have b1:Left ((H2.set b0 (.arr 3 [aI r])).set m (.arr 1 [[gi i]])) H3 u3 dj:=by rw[set_set] at t;exact t
      have f9:H3 d=.map (yn mm) C:=b1.map (b:=d) e.head (by simp[View.set,cC,db,j])
      have hB:cd G=some (iw ((cy p q (g.rules.take i)).map λx=>g.aj.getD x.toNat ⟨#[]⟩)).length:=(f.own 3 rfl).len
      simp only[aI,encI] at f11
      have e2:c5 p q (g.rules.take (i+1)) 0=c5 p q (g.rules.take i) 0 ++ [(i:Int)]:=by
       rw[w,kA];simp[c5,W,show i<=g.rules.length by omega]
      have M:cy p q (g.rules.take (i+1))=kS (cy p q (g.rules.take i)) r:=by rw[w,tz,Uz W]
      generalize cy p q (g.rules.take i)=o at *
      generalize c5 p q (g.rules.take i) 0=kl at *
      simp(disch:=omega)only[↓wr,seval,wq,t1,t2,t5,t6,t8,t9,t41,t42,t43,f11,f8]
      refine QK (kt:=3) (et:=3) (z:=gi 0) (by kernel_rfl) (by kernel_rfl) (kU .i64 Tryz.underlying3) (id:=d) (c:=C) (m:=mm) (k:=r.left) (by simp(disch:=omega)only[↓wr,seval,wq,t9]) (by simp(disch:=omega)only[↓wr,seval,wq]) f9 ?_
      rw[D.get,tf]
      have hC:o.length<=40:=by omega
      by_cases hx:r.left∈o
      .have u:kS o r=o:=by rw[kS,Uz hx]
       rw[Uz hx]
       simp(disch:=omega)only[↓wr,seval,wq,t1,t2,t5,t6,t8,t9,t41,t42,t43,Option.isSome_some]
       have hE:=(((f.at 1 (by simp)).tail).perm (.swap _ _ _))
       refine aD hk (by omega) ⟨⟨G,dj,rfl,by rw[M,u];exact bn,by rw[M,u];omega,?_,mm,C,f9,by rw[M,u];exact D⟩,t1,t2,t5,t6,t8,t9,t41,t42,rfl⟩
       rw[M,u,e2]
       simp only[UT,U2,VS]
       exact hE
      .have u:kS o r=o ++ [r.left]:=by rw[kS,Ux hx]
       rw[Ux hx]
       have dm:g.aj[r.left.toNat]?=some (g.aj[r.left.toNat]'(by omega)):=Uv (by omega)
       have cN:g.aj.getD r.left.toNat ⟨#[]⟩=g.aj[r.left.toNat]'(by omega):=by simp[Uu,dm]
       generalize g.aj[r.left.toNat]'(by omega)=nm at dm cN
       simp(disch:=omega)only[↓wr,seval,wq,t1,t2,t5,t6,t8,t9,t41,t42,t43,Option.isSome_none,f11,f8,hB,UB]
       refine uL (kt:=3) (et:=3) (by kernel_rfl) (kU .i64 Tryz.underlying3) (id:=d) (c:=C) (m:=mm) (k:=r.left) (v:=gi o.length) (by simp(disch:=omega)only[↓wr,seval,wq,t9]) (by simp(disch:=omega)only[↓wr,seval,wq]) (by simp(disch:=omega)only[↓wr,seval,wq]) f9 ?_
       intro c'
       have e8:O≠d:=Bc f 2 rfl f9
       have n119:b0≠d:=Bc f 1 rfl f9
       simp(disch:=omega)only[↓wr,seval,wq,t1,t2,t5,t6,t8,t9,t41,t42,t43,f11,f8,e8,n119,af,encS,Uy,dm]
       intro m2 N
       have cS:=(bU N (by simp)).1
       have N:=(bU N (by simp)).2
       have e9:=((f.BO f9 (o:=.map (yn (bL r.left (gi o.length) C mm)) c')).fresh (n:=m2) (o:=.arr 1 [[gs nm]]) (by simp only[View.set,Ux cS];exact N)).at 3 (by simp)
       try simp(disch:=omega)only[↓wr,seval,wq,t1,t2,t5,t6,t8,t9,t41,t42,t43,bH]
       refine cx e9 (by simp[aF]) (by unfold aB;simp;omega) (by unfold aB;simp;omega) ?_
       intro fb H5 b7 cf
       have c1:=b7.head.cells
       have k1:=b7.head.er
       have ds:=b7.is 3 rfl (by simp)
       have hF:=cf.map (b:=d) (es:=yn (bL r.left (gi o.length) C mm)) (c:=c') e9.head (by simp[View.set,Ne.symm cS])
       have ff:d≠O:=e8.symm
       simp(disch:=omega)only[↓wr,seval,wq,t1,t2,t5,t6,t8,t9,t41,t42,t43,ds,c1,k1]
       have hG:=(b7.at 3 (by simp)).put (es':=[[B,fb,.emp 1,gi 0]]) rfl rfl
       have hI:=(((hG.at 3 (by simp)).tail).perm (.cons _ (.swap _ _ _)))
       refine aD hk (by omega) ⟨⟨fb,dj,rfl,?_,?_,?_,_,c',(by simp only[View.set,Ux ff];exact hF),?_⟩,t1,t2,t5,t6,t8,t9,t41,t42,rfl⟩
       .rw[M,u];intro x hJ;rcases UR.1 hJ with h | h
        .exact bn x h
        .simp at h;subst h;exact⟨eH,e0⟩
       .rw[M,u];simp;omega
       .rw[M,u,e2]
        simp only[UT,U2,VS,cN]
        exact hI
       .rw[M,u,AZ,Int.zero_add,<-Eb hx]
        exact D.put r.left (o.length:Int) C
     .simp(disch:=omega)only[↓wr,seval,wq,t1,t2,t5,t6,t7,t8,t9,t41,t42,t43]
      refine U _ _ (by rw[c6,bx,da];rfl) ?_ ?_ ?_ ?_ ?_ ?_ ?_ ?_ ?_ ?_ ?_
      all_goals first | exact t7 | exact t1 | exact t2 | exact t5 | exact t6 | exact t8 | exact t9 | exact t41 | exact t42 | rfl | (rw[set_set];rfl)
   .rw[UK (by omega)] at A bn c3 D
    have hK:(c5 p q g.rules 0).length<=40:=by
     rw[kM];have h1:=VU (c6 p q) g.rules;omega
    have hM:=tD p q g.rules 0
    have ih:=kM p q g.rules 0
    have fl:vR g (ej (cy p q g.rules)) p q=⟨g.au,(cy p q g.rules).map λx=>g.aj.getD x.toNat ⟨#[]⟩,(g.rules.filter (c6 p q)).map (cp (ej (cy p q g.rules))),ej (cy p q g.rules) g.start⟩:=rfl
    rw[fl]
    clear fl
    generalize cy p q g.rules=o at *
    generalize c5 p q g.rules 0=kl at *
    have hC:o.length<=40:=by omega
    have hP:cd u3=some (bt kl).length:=(A.own 1 rfl).len
    simp(disch:=omega)only[↓wr,seval,wq,t1,t2,t5,t6,t7,t8,t9,hP,UB]
    refine aV.up kl.length (TN g p q Q O d B G u3 o kl mm C) ?_ ?_
    .refine⟨⟨.emp 1,[],by simp,?_,j⟩,t1,t2,t7,t8,t9,t7,rfl,rfl⟩
     exact(A.emp (k:=1) (sz:=3)).perm (rU [(.sl O 0 1 4,4,[[B,G,.emp 1,gi 0]]),(u3,1,bt kl),(G,1,iw (o.map λx=>g.aj.getD x.toNat ⟨#[]⟩)),(B,3,g.au.map cP),(.emp 1,3,[]),(.sl Q 0 1 4,4,[[.emp 1,.emp 1,.emp 1,gi 0]])] 4 (by simp)).symm
    clear A j t1 t2 t5 t6 t7 t8 t9 t41 t42 t43
    rintro i k T H2 hk ⟨⟨u2,bs,ch,A,j⟩,t1,t2,t7,t8,t9,t91,t92,t93⟩
    simp(disch:=omega)only[↓wr,seval,wq,tA,t1,t2,t7,t8,t9,t91,t92,t93]
    apply ai.dec<;>intro hc
    .obtain⟨n3,e3,hS⟩:=(A.own 1 rfl).sl (by simp;omega)
     rw[UB] at e3
     subst e3
     obtain⟨m,dv,N,X⟩:=hM i (by omega)
     have fm:=kG (show i < kl.length by omega)
     rw[Int.zero_add] at dv
     have hV:kl[i]'(by omega)=(m:Int):=by
      rw[Uv (show i < kl.length by omega)] at dv;simpa using dv
     rw[hV] at fm
     have E:g.rules[m]?=some (g.rules[m]'X):=Uv X
     have l:g.rules[m]'X∈g.rules:=UC _
     have w:(g.rules.filter (c6 p q)).take (i+1)=(g.rules.filter (c6 p q)).take i ++ [g.rules[m]'X]:=by
      rw[UW,<-N,E];rfl
     generalize g.rules[m]'X=r at E l w
     obtain⟨hq,eH,e0,ht,br⟩:=hf.qT hg l
     simp(disch:=omega)only[↓wr,seval,wq,t1,t2,t7,t8,t9,t91,t92,t93,hS,fm,UB,af,aI,encI,Uy,E]
     refine⟨by omega,by omega,?_⟩
     intro ea I
     have F:=A.new I 3 [aI r]
     have Y:d≠ea:=by rintro rfl;rw[j] at I;simp at I
     try simp(disch:=omega)only[↓wr,seval,wq,t1,t2,t7,t8,t9,t91,t92,t93,set_set]
     refine zg (kt:=3) (et:=3) (z:=gi 0) (by kernel_rfl) (by kernel_rfl) (kU .i64 Tryz.underlying3) (id:=d) (c:=C) (m:=mm) (k:=r.left) (by simp(disch:=omega)only[↓wr,seval,wq,t9]) (by simp(disch:=omega)only[↓wr,seval,wq]) (by simp[View.set,Y,j]) ?_
     have cj:∀ x,(getM mm x).getD (gi 0)=gi (ej o x):=λx=>by
      rw[D.get,ej];cases eA (jJ o 0) x <;> rfl
     rw[cj]
     simp(disch:=omega)only[↓wr,seval,wq,t1,t2,t7,t8,t9,t91,t92,t93]
     refine aw.Dr (NC r.right (by omega) _) ?_
     intro v H3 hv K
     have e:=bc.Af (H:=H2.set ea (.arr 3 [aI r])) F hv (by rw[set_set] at K;exact K)
     have eb:H3 d=.map (yn mm) C:=by
      rw[(K d (by simp[View.set,Y,j])).1];simp[View.set,Y,j]
     have cv:=hv.cells
     have kv:=hv.er
     have lv:=hv.len
     have f16:=e.is 1 rfl (by simp)
     simp only[aI,encI] at f16
     simp(disch:=omega)only[↓wr,seval,wq,t1,t2,t7,t8,t9,t91,t92,t93,f16,cv,kv]
     intro fs J
     have a:=e.new J 3 [[gi (ej o r.left),v,gi r.prec]]
     have ft:d≠fs:=by rintro rfl;rw[eb] at J;simp at J
     try simp(disch:=omega)only[↓wr,seval,wq,t1,t2,t7,t8,t9,t91,t92,t93,cv,kv,lv,set_set,UB]
     generalize hL:((V.sl O 0 1 4,4,[[B,G,u2,gi 0]]) :: (V.sl n3 0 kl.length 1,1,bt kl) ::
       (G,1,iw (o.map λx=>g.aj.getD x.toNat ⟨#[]⟩)) :: (B,3,g.au.map cP) :: (u2,3,eV bs) :: (V.sl Q 0 1 4,4,[[V.emp 1,V.emp 1,V.emp 1,gi 0]]) :: ig bs:List dN)=L at a
     refine aV.up r.right.length (Tv g Q O d ea fs (.sl n3 0 kl.length 1) v o kl mm C r L i) ?_ ?_
     .exact⟨by rw[set_set];exact a,by simp[View.set,ft,eb],t1,t2,t7,t8,t9,t91,t92,t93,rfl,rfl,rfl,rfl⟩
     clear F e a I J j eb f16 hv K t1 t2 t7 t8 t9 t91 t92 t93
     rintro k k2 T H3 fx ⟨a,j,t1,t2,t7,t8,t9,t91,t92,t93,t17,t113,t114,t115⟩
     have f17:=a.is 0 rfl (by simp)
     simp(disch:=omega)only[↓wr,seval,wq,tF,t1,t2,t7,t8,t9,t91,t92,t93,t17,t113,t114,t115]
     apply ai.dec<;>intro hW
     .have fz:r.right[k]?=some (r.right[k]'(by omega)):=Uv (by omega)
      have gd:r.right[k]'(by omega)∈r.right:=UC _
      have hY:(cp (ej o) r).right.length=r.right.length:=by simp[cp]
      have Z:(cp (ej o) r).right.take (k+1)=(cp (ej o) r).right.take k ++ [if r.right[k]'(by omega) < 0 then -1 - ej o (-1 - r.right[k]'(by omega)) else r.right[k]'(by omega)]:=by
       rw[UW];simp[cp,fz]
      have gk:=dW (show k < r.right.length by omega)
      generalize r.right[k]'(by omega)=s at fz gd Z gk
      obtain⟨⟨s1,s2⟩,s3⟩:=br s gd
      have jl:=Ru o (-1 - s)
      rw[gk] at a
      have hlen:(((cp (ej o) r).right.take k ++ s :: r.right.drop (k+1)).map λx=>[gi x]).length=r.right.length:=by simp;omega
      obtain⟨nv,ev,gl⟩:=(a.own 1 rfl).sl (by rw[hlen];omega)
      rw[hlen] at ev
      subst ev
      have ck:k < ((cp (ej o) r).right.take k ++ s :: r.right.drop (k+1)).length:=by simp;omega
      have an:=kG ck
      have h0:((cp (ej o) r).right.take k ++ s :: r.right.drop (k+1))[k]'ck=s:=by
       rw[List.getElem_append_right (by simp;omega)]
       simp[show k - min k r.right.length=0 by omega,hY]
      rw[h0] at an
      simp(disch:=omega)only[↓wr,seval,wq,t1,t2,t7,t8,t9,t91,t92,t93,t17,t113,t114,t115,gl,an,UB]
      refine⟨by omega,ck,?_⟩
      have gr:((cp (ej o) r).right.take k).length=k:=by rw[Vj];omega
      have h5:nv≠d:=Bc a 1 rfl j
      apply ai.dec<;>intro aq
      .rw[Uz aq] at Z
       simp(disch:=omega)only[↓wr,seval,wq,t1,t2,t7,t8,t9,t91,t92,t93,t17,t113,t114,t115,f17]
       refine zg (kt:=3) (et:=3) (z:=gi 0) (by kernel_rfl) (by kernel_rfl) (kU .i64 Tryz.underlying3) (id:=d) (c:=C) (m:=mm) (k:=-1 - s) (by simp(disch:=omega)only[↓wr,seval,wq,t9]) (by simp(disch:=omega)only[↓wr,seval,wq]) j ?_
       rw[cj]
       simp(disch:=omega)only[↓wr,seval,wq,t1,t2,t7,t8,t9,t91,t92,t93,t17,t113,t114,t115,f17,gl,an,UB]
       refine⟨by omega,ck,?_⟩
       have ar:=((a.at 1 (by simp)).put (es':=((((cp (ej o) r).right.take k ++ s :: r.right.drop (k+1)).map λx=>[gi x]).set k [gi (-1 - ej o (-1 - s))])) (by simp) (by rw[hlen])).perm (.swap _ _ _)
       refine aD fx (by omega) ⟨?_,by simp only[View.set,Ux h5.symm];exact j,t1,t2,t7,t8,t9,t91,t92,t93,t17,t113,t114,rfl⟩
       rw[ints_set,CG gr] at ar
       rw[Z,Vs]
       rw[ints_set,CG gr]
       exact ar
      .rw[Ux aq] at Z
       simp(disch:=omega)only[↓wr,seval,wq,t1,t2,t7,t8,t9,t91,t92,t93,t17,t113,t114,t115]
       refine aD fx (by omega) ⟨?_,j,t1,t2,t7,t8,t9,t91,t92,t93,t17,t113,t114,rfl⟩
       rw[Z,Vs]
       exact a
     .rw[UK (by simp[cp];omega),US (by omega),V0] at a
      subst hL
      have f8:=a.is 3 rfl (by simp)
      have cv:=(a.own 1 rfl).cells
      have kv:=(a.own 1 rfl).er
      have ha:(eV bs).length<=40:=by
       have h1:=congrArg List.length ch
       simp only[UB,Vj] at h1
       simp only[eV,UB]
       omega
      simp(disch:=omega)only[↓wr,seval,wq,t1,t2,t7,t8,t9,t91,t92,t93,t17,t113,t114,t115,f8,f17,cv,kv]
      intro m hm
      have db:d≠m:=by rintro rfl;rw[j] at hm;simp at hm
      try simp(disch:=omega)only[↓wr,seval,wq,t1,t2,t7,t8,t9,t91,t92,t93,t17,bH]
      have ar:=(a.fresh (o:=.arr 3 [[gi (ej o r.left),v,gi r.prec]]) hm).at 7 (by simp)
      refine cx ar (by simp[vg,kv]) (by unfold aB;simp at ha ⊢;omega) (by unfold aB;simp at ha ⊢;omega) ?_
      intro hb H4 bd t
      have cu:=bd.head.cells
      have ku:=bd.head.er
      have ds:=bd.is 4 rfl (by simp)
      have hd:H4 d=.map (yn mm) C:=t.map (b:=d) ar.head (by simp[View.set,db,j])
      have h6:d≠O:=(Bc bd 4 rfl hd).symm
      simp(disch:=omega)only[↓wr,seval,wq,t1,t2,t7,t8,t9,t91,t92,t93,t17,ds,cu,ku]
      have h7:=(bd.at 4 (by simp)).put (es':=[[B,G,hb,gi 0]]) rfl rfl
      have h8:=((((h7.at 2 (by simp)).tail).at 3 (by simp)).tail)
      refine aD hk (by omega) ⟨⟨hb,bs ++ [(v,cp (ej o) r)],?_,?_,by simp only[View.set,Ux h6];exact hd⟩,t1,t2,t7,t8,t9,t91,t92,rfl⟩
      .rw[UT,ch,w,UT];rfl
      .refine h8.perm (.cons _ ?_)
       simp only[ig,eV,UT,U2,VS]
       refine .trans ?_ (rU _ 3 (by simp)).symm
       refine .cons _ ?_
       exact(List.perm_append_singleton (v,1,bt (cp (ej o) r).right) ((.sl n3 0 kl.length 1,1,bt kl) :: (G,1,iw (o.map λx=>g.aj.getD x.toNat ⟨#[]⟩)) :: (B,3,g.au.map cP) :: (.sl Q 0 1 4,4,[[.emp 1,.emp 1,.emp 1,gi 0]]) :: ig bs)).symm
    .rw[UK (by omega)] at ch
     have f8:=A.is 0 rfl (by simp)
     have f2:=A.is 5 rfl (by simp)
     have hj:O≠Q:=A.J3 0 5 rfl rfl (by omega)
     have c1:=(A.own 2 rfl).cells
     have k1:=(A.own 2 rfl).er
     have c2:=(A.own 4 rfl).cells
     have k2:=(A.own 4 rfl).er
     have cj:∀ x,(getM mm x).getD (gi 0)=gi (ej o x):=λx=>by
      rw[D.get,ej];cases eA (jJ o 0) x <;> rfl
     simp(disch:=omega)only[↓wr,seval,wq,t1,t2,t7,t8,t9,t91,t92,t93,af]
     refine zg (kt:=3) (et:=3) (z:=gi 0) (by kernel_rfl) (by kernel_rfl) (kU .i64 Tryz.underlying3) (id:=d) (c:=C) (m:=mm) (k:=g.start) (by simp(disch:=omega)only[↓wr,seval,wq,t9]) (by simp(disch:=omega)only[↓wr,seval,wq]) j ?_
     rw[cj]
     simp(disch:=omega)only[↓wr,seval,wq,t1,t2,t7,t8,t9,t91,t92,t93,f8,f2,hj,hj.symm,c0,k0,c1,k1,c2,k2]
     intro h' hh
     have F:=A.put (es':=[[B,G,u2,gi (ej o g.start)]]) rfl rfl
     have e:=(F.at 5 (by simp)).put (es':=[[B,G,u2,gi (ej o g.start)]]) rfl rfl
     have hv:h'.view=(H2.set O (.arr 4 [[B,G,u2,gi (ej o g.start)]])).set Q (.arr 4 [[B,G,u2,gi (ej o g.start)]]):=hh
     rw[<-hv] at e
     exact IM (x:=(⟨g.au,o.map λx=>g.aj.getD x.toNat ⟨#[]⟩,(g.rules.filter (c6 p q)).map (cp (ej o)),ej o g.start⟩,kl,0)) (b:=bs) (e.own 4 rfl) (e.own 3 rfl) (e.own 5 rfl) (λy hy=>e.1 y (by
      refine UP _ (UP _ (UP _ (UP _ (UP _ (UP _ ?_)))))
      exact hy)) ch (e.own 2 rfl)
 .rename_i hr
  intro h' hh
  rw[Ux (by simp[hr])]
  exact wc
theorem I1 {l:List Int} {a b:List Bool} {t:Bool} (h:hQ a b) (k:ga l a t=true):ga l b t=true:=by
 simp only[ga,U3] at k ⊢
 intro s d
 have:=k s d
 by_cases c:0<=s
 .rw[Uz c] at this ⊢;exact this
 .rw[Ux c] at this ⊢;exact h.2 _ this
theorem hQ.Sm {a b:List Bool} (h:hQ a b) (k:hQ b a):a=b:=by
 have h1:=h.dQ
 have c:=k.dQ
 exact h1.2 (by omega)
def ou (g:ag) (t:Bool) (is:List Bool):Prop:=∀ i,is.getD i false=true->∃ r∈g.rules,r.left.toNat=i/\ga r.right is t=true
theorem ou.step {g:ag} {t:Bool} {is:List Bool} {r:bb} (h:ou g t is) (hr:r∈g.rules):ou g t (iF t is r):=by
 have hle:hQ is (iF t is r):=by
  unfold iF
  split
  .exact .set _ _
  .exact .refl _
 intro i hi
 by_cases e:is.getD i false=true
 .obtain⟨c,h1,d,f⟩:=h i e
  exact⟨c,h1,d,I1 hle f⟩
 .unfold iF at hi
  by_cases a:ga r.right is t=true
  .rw[Uz a] at hi
   have:r.left.toNat=i:=by
    refine VH λb=>e ?_
    simp only[Uu,VA,Ux b] at hi ⊢
    exact hi
   exact⟨r,hr,this,I1 hle a⟩
  .rw[Ux a] at hi;exact absurd hi e
theorem ou.fold {g:ag} {t:Bool} : ∀ (l:List bb) (is:List Bool),(∀ r∈l,r∈g.rules)->ou g t is->ou g t (l.foldl (iF t) is)
 | [],is,_,h=>h
 | r :: l,is,a,h=>ou.fold l _ (λx b=>a x (by simp[b])) (h.step (a r (by simp)))
theorem ou.iter {g:ag} {t:Bool} : ∀ (n:Nat) (is:List Bool),ou g t is->ou g t (iter (nu g t) n is)
 | 0,_,h=>h
 | n+1,is,h=>ou.iter n _ (ou.fold g.rules is (λ_ h=>h) h)
theorem LL (g:ag) (t:Bool):ou g t (bD g t):=by
 unfold bD
 split
 .refine ou.iter _ _ ?_
  intro i hi
  simp only[cI,Uu,VP] at hi
  split at hi <;> simp at hi
 .intro i hi;simp at hi
theorem JO (is:List Bool) (s:Int):hQ is (mark is s):=by
 unfold mark
 split
 .exact .set _ _
 .exact .refl _
theorem Ak:∀ (l:List Int) (is:List Bool),hQ is (l.foldl mark is)
 | [],is=>.refl _
 | s :: l,is=>(JO is s).trans (Ak l _)
theorem FQ (p is:List Bool) (r:bb):hQ is (gW p is r):=by
 unfold gW
 split
 .exact Ak _ _
 .exact .refl _
theorem F6 (p:List Bool):∀ (l:List bb) (is:List Bool),hQ is (l.foldl (gW p) is)
 | [],is=>.refl _
 | r :: l,is=>(FQ p is r).trans (F6 p l _)
theorem Ed {p:List Bool} : ∀ {l:List bb} {is:List Bool},l.foldl (gW p) is=is->∀ r∈l,gW p is r=is
 | [],_,_,_,h=>by simp at h
 | r :: l,is,h,x,a=>by
  rw[Vf] at h
  have h1:=F6 p l (gW p is r)
  rw[h] at h1
  have b:=(h1.Sm (FQ p is r))
  rcases UO.1 a with rfl | a
  .exact b
  .rw[b] at h;exact Ed h x a
theorem EI:∀ {l:List Int} {is:List Bool},l.foldl mark is=is->∀ s∈l,mark is s=is
 | [],_,_,_,h=>by simp at h
 | r :: l,is,h,x,a=>by
  rw[Vf] at h
  have h1:=Ak l (mark is r)
  rw[h] at h1
  have b:=(h1.Sm (JO is r))
  rcases UO.1 a with rfl | a
  .exact b
  .rw[b] at h;exact EI h x a
theorem Eo {g:ag} (hr:bV g=true):qn g (bD g true) (cr g)=cr g/\hQ ((cI g).set g.start.toNat true) (cr g):=by
 have a:=b4 hr
 have h:=xU (sr (bD g true)) g.rules 16 ((cI g).set g.start.toNat true) (by have:=a.aj;simp[cI];omega)
 rw[I5,MW hr] at h
 exact h
theorem HT {g:ag} (hr:bV g=true):(cr g).getD g.start.toNat false=true:=by
 have a:=b4 hr
 refine(Eo hr).2.2 _ ?_
 have b:=a.oh
 have c:=a.start
 simp only[Uu]
 rw[List.getElem?_set_self (by simp[cI];omega)]
 rfl
theorem KU {g:ag} (hr:bV g=true) {r:bb} (hm:r∈g.rules) (hk:c6 (bD g true) (cr g) r=true) {s:Int} (b:s∈r.right) (c:s < 0):(cr g).getD (-1 - s).toNat false=true:=by
 have d:=b4 hr
 have h1:=Ed (Eo hr).1 r hm
 unfold gW at h1
 rw[c6] at hk
 rw[Uz hk] at h1
 have a:=EI h1 s b
 unfold mark at a
 rw[Uz c] at a
 rw[<-a]
 have e:=pU hr
 have:=d.neg hm b c
 simp only[Uu]
 rw[List.getElem?_set_self (by omega)]
 rfl
theorem Oc {g:ag} (hr:bV g=true) {x:Int} (d:0<=x) (hp:(bD g true).getD x.toNat false=true) (a:(cr g).getD x.toNat false=true):x∈cy (bD g true) (cr g) g.rules:=by
 obtain⟨r,h1,e,b⟩:=LL g true _ hp
 have c:=b4 hr
 have f:=c.left r h1
 have:r.left=x:=by omega
 refine Hr.2 ⟨r,h1,?_,this⟩
 rw[c6,this,a,b];rfl
theorem Ks (g:ag):(if bV g=true then
  if (bD g true).getD g.start.toNat false=true then (vR g (ej (cy (bD g true) (cr g) g.rules)) (bD g true) (cr g),c5 (bD g true) (cr g) g.rules 0,0)
  else (rl,[],9)
 else (rl,[],1))=gP g:=by
 unfold gP
 by_cases hr:bV g=true
 .rw[Uz hr,Uz hr]
  by_cases hp:(bD g true).getD g.start.toNat false=true
  .rw[Uz hp,Uz hp]
   have c:=b4 hr
   rw[Ni]
   .exact Oc hr c.oh hp (HT hr)
   .intro r hm
    obtain⟨h1,a⟩:=Vu.1 hm
    refine⟨Hr.2 ⟨r,h1,a,rfl⟩,λs b d=>?_⟩
    refine Oc hr (by omega) ?_ (KU hr h1 a b d)
    rw[c6,UJ] at a
    have:=a.2
    simp only[ga,U3] at this
    have:=this s b
    rwa [Ux (by omega)] at this
  .rw[Ux hp,Ux hp]
 .rw[Ux hr,Ux hr]
theorem Lk (g:ag) (a:g.Ok) (b:g.Small):b6 Tryz.prog 92 [.agg (af g)] (vY (gP g)):=by
 rw[<-Ks];exact HY g a b
def bN (g:ag) (k:Int):bb:=g.rules.getD k.toNat ⟨0,[],0⟩
theorem getD_some {α:Type} {l:List α} {j:Nat} {d:α} (h:j < l.length):l[j]?=some (l.getD j d):=by simp[Uu,h]
section
variable {g r:ag} {p q:List Bool} {o:List Int}
end
section
variable {g r:ag} {p q:List Bool} {o:List Int}
end
def isRed (g:ag):Bool:=(gP g).2.2 == 0 && decide (g=(gP g).1)
def LX (p:List Int) (i:Nat) (s:Int):Prop:=∃ c,p[i]?=some c/\(c=s∨c = -1)
inductive Sp (g:ag) (p:List Int):List Int->Nat->Nat->Prop
 | nil (i:Nat):Sp g p [] i i
 | term (s:Int) (l:List Int) (i j:Nat):0<=s->LX p i s->Sp g p l (i+1) j->Sp g p (s :: l) i j
 | M0 (s:Int) (l:List Int) (R:bb) (i k j:Nat):s < 0->R∈g.rules->R.left = -1 - s->Sp g p R.right i k->Sp g p l k j->Sp g p (s :: l) i j
theorem Sp.app {g:ag} {p:List Int} {a:List Int} {i k:Nat} (h:Sp g p a i k):∀ {b:List Int} {j:Nat},Sp g p b k j->Sp g p (a ++ b) i j:=by
 induction h with
 | nil=>exact λh=>h
 | term s l i _ c f _ m=>exact λd=>.term s _ i _ c f (m d)
 | M0 s l R i k _ c n o h1 _ _ e=>exact λd=>.M0 s _ R i k _ c n o h1 (e d)
theorem Sp.split {g:ag} {p:List Int} : ∀ {a b:List Int} {i j:Nat},Sp g p (a ++ b) i j->∃ k,Sp g p a i k/\Sp g p b k j
 | [],b,i,j,h=>⟨i,.nil i,h⟩
 | s :: a,b,i,j,h=>by
  cases h with
  | term _ _ _ _ c e h =>
   obtain⟨k,h1,d⟩:=Sp.split h
   exact⟨k,.term s a i k c e h1,d⟩
  | M0 _ _ R _ m _ c f l h1 h =>
   obtain⟨k,d,n⟩:=Sp.split h
   exact⟨k,.M0 s a R i m k c f l h1 d,n⟩
structure Item where
 ax:Nat
 dot:Nat
 No:Nat
 deriving DecidableEq
structure Ud (g:ag) (p:List Int) (S:Nat->List Item):Prop where
 start:∀ (i:Nat) (R:bb),g.rules[i]?=some R->R.left=g.start->⟨i,0,0⟩∈S 0
 term:∀ a x R s,x∈S a->g.rules[x.ax]?=some R->R.right[x.dot]?=some s->0<=s->LX p a s->⟨x.ax,x.dot+1,x.No⟩∈S (a+1)
 pred:∀ a x R s i R',x∈S a->g.rules[x.ax]?=some R->R.right[x.dot]?=some s->s < 0->g.rules[i]?=some R'->R'.left = -1 - s->a<=p.length->⟨i,0,a⟩∈S a
 null:∀ a x R s,x∈S a->g.rules[x.ax]?=some R->R.right[x.dot]?=some s->s < 0->(bD g false).getD (-1 - s).toNat false=true->a<=p.length->⟨x.ax,x.dot+1,x.No⟩∈S a
 comp:∀ a y R' x R s,y∈S a->g.rules[y.ax]?=some R'->y.dot=R'.right.length->y.No < a->x∈S y.No->g.rules[x.ax]?=some R->R.right[x.dot]?=some s->s < 0->R'.left = -1 - s->a<=p.length->⟨x.ax,x.dot+1,x.No⟩∈S a
abbrev Tb:=List (List (List Bool))
theorem dz.K7 {h:aC} {v t:V} (f:dz h v t):Fr h v t:=by
 induction f with
 | val v=>exact .tree _ (.val v)
 | emp k=>exact .emp k
 | sl id off len esz z es es' hH hle hlen b _ c=>exact .sl id off len esz z es es' hH hle hlen b c
 | agg cs a b _ c=>exact .agg cs a b c
 | aY cs a b _ c=>exact .aY cs a b c
structure bm where
 ax:Int
 bu:Int
 rules:Int
 au:Int
def iK:bm:=⟨(-1),0,0,0⟩
def aZ:bm:=⟨0,0,0,0⟩
def bk (P:List bm) (m:Nat):bm:=P.getD m iK
abbrev bT (x:Int):Nat:=(-1 - x).toNat
def bF (P:List bm):List Int->bm->bm × Bool
 | [],s=>(s,true)
 | x :: l,s=>if 0<=x then bF P l ⟨s.ax,s.bu,s.rules,min 1048576 (s.au+1)⟩
  else if (bk P (bT x)).ax < 0 then (s,false)
  else bF P l ⟨s.ax,max s.bu (bk P (bT x)).bu,min 1048576 (s.rules+(bk P (bT x)).rules),min 1048576 (s.au+(bk P (bT x)).au)⟩
def bz (P:List bm) (m:Nat):Prop:=0<=(bk P m).ax
def gE (P:List bm) (l:List Int):Prop:=∀ x∈l,x < 0->bz P (bT x)
theorem gL (P:List bm):∀ (l:List Int) (s:bm),(bF P l s).2=true↔gE P l
 | [],s=>by simp[bF,gE]
 | x :: l,s=>by
  simp only[bF,gE,UO]
  by_cases h:0<=x
  .rw[Uz h,gL P l]
   refine⟨λk y a b=>?_,λk y a=>k y (.inr a)⟩
   rcases a with rfl | a
   .omega
   .exact k y a b
  .rw[Ux h]
   by_cases c:(bk P (bT x)).ax < 0
   .rw[Uz c]
    simp only[UX,false_iff]
    intro k
    have:=k x (.inl rfl) (by omega)
    unfold bz at this;omega
   .rw[Ux c,gL P l]
    refine⟨λk y a b=>?_,λk y a=>k y (.inr a)⟩
    rcases a with rfl | a
    .unfold bz;omega
    .exact k y a b
theorem hZ (P:List bm) (k:Int):∀ (l:List Int) (s:bm),gE P l->((bF P l s).1.bu<=k↔s.bu<=k/\∀ x∈l,x < 0->(bk P (bT x)).bu<=k)
 | [],s,_=>by simp[bF]
 | x :: l,s,h=>by
  have e:gE P l:=λy c=>h y (by simp[c])
  simp only[bF,UO]
  by_cases f:0<=x
  .rw[Uz f,hZ P k l _ e]
   refine⟨λ⟨a,b⟩=>⟨a,λy c d=>?_⟩,λ⟨a,b⟩=>⟨a,λy c=>b y (.inr c)⟩⟩
   rcases c with rfl | c
   .omega
   .exact b y c d
  .have:=h x (by simp) (by omega)
   unfold bz at this
   rw[Ux f,Ux (by omega),hZ P k l _ e]
   refine⟨λ⟨a,b⟩=>⟨by simp only at a;omega,λy c d=>?_⟩,λ⟨a,b⟩=>⟨by have:=b x (.inl rfl) (by omega);simp only;omega,λy c=>b y (.inr c)⟩⟩
   rcases c with rfl | c
   .simp only at a;omega
   .exact b y c d
theorem BA {P P':List bm} : ∀ (l:List Int) (s:bm),(∀ x∈l,x < 0->bk P (bT x)=bk P' (bT x))->bF P l s=bF P' l s
 | [],s,_=>rfl
 | x :: l,s,h=>by
  have b:=λs=>BA (P:=P) (P':=P') l s λy c=>h y (by simp[c])
  simp only[bF]
  by_cases a:0<=x
  .rw[Uz a,Uz a,b]
  .rw[Ux a,Ux a,h x (by simp) (by omega),b]
theorem qv (P:List bm):∀ (l:List Int) (s:bm),s.bu<=(bF P l s).1.bu
 | [],s=>Int.le_refl _
 | x :: l,s=>by
  simp only[bF]
  split
  .exact qv P l _
  .split
   .exact Int.le_refl _
   .have:=qv P l ⟨s.ax,max s.bu (bk P (bT x)).bu,min 1048576 (s.rules+(bk P (bT x)).rules),min 1048576 (s.au+(bk P (bT x)).au)⟩
    simp only at this ⊢;omega
def fv (P:List bm) (i:Nat) (r:bb):bm:=⟨i,(bF P r.right aZ).1.bu+1,min 1048576 ((bF P r.right aZ).1.rules+1),(bF P r.right aZ).1.au⟩
def pS (P:List bm) (i:Nat) (N:List bm) (r:bb):List bm :=
 if 0<=(bk N r.left.toNat).ax then N else if (bF P r.right aZ).2=true then N.set r.left.toNat (fv P i r) else N
def mg (P:List bm):Nat->List bm->List bb->List bm
 | _,N,[]=>N
 | i,N,r :: l=>mg P (i+1) (pS P i N r) l
def xM (rules:List bb) (P:List bm):List bm:=mg P 0 P rules
def lR (P:List bm) (m:Nat):Nat->List bb->Option bm
 | _,[]=>none
 | i,r :: l=>if r.left.toNat=m/\(bF P r.right aZ).2=true then some (fv P i r) else lR P m (i+1) l
theorem zj {N:List bm} {i m:Nat} {p:bm} (hm:m < N.length):bk (N.set i p) m=if i=m then p else bk N m:=by
 simp only[bk,Uu,VA]
 split
 .rename_i e;subst e;simp[hm]
 .rfl
theorem DJ (P:List bm) (i:Nat) (N:List bm) (r:bb):(pS P i N r).length=N.length:=by
 unfold pS;split; · rfl
 split <;> simp
theorem EG (P:List bm):∀ (l:List bb) (i:Nat) (N:List bm),(mg P i N l).length=N.length
 | [],_,_=>rfl
 | r :: l,i,N=>by rw[mg,EG P l,DJ]
theorem Ht (P:List bm) (m:Nat):∀ (l:List bb) (i:Nat) (N:List bm),m < N.length->bk (mg P i N l) m=if 0<=(bk N m).ax then bk N m else (lR P m i l).getD (bk N m)
 | [],i,N,hm=>by simp[mg,lR]
 | r :: l,i,N,hm=>by
  rw[mg,Ht P m l (i+1) _ (by rw[DJ];exact hm),lR]
  unfold pS
  by_cases h1:0<=(bk N r.left.toNat).ax
  .rw[Uz h1]
   by_cases a:r.left.toNat=m
   .subst a
    rw[Uz h1,Uz h1]
   .rw[Ux (c:=r.left.toNat=m/\_) (λe=>a e.1)]
  .rw[Ux h1]
   by_cases b:(bF P r.right aZ).2=true
   .rw[Uz b]
    by_cases a:r.left.toNat=m
    .subst a
     rw[zj hm,Uz rfl,Ux h1,Uz (show (0:Int)<=(fv P i r).ax by simp only[fv];omega),Uz (c:=r.left.toNat=r.left.toNat/\_) (And.intro rfl b)]
     rfl
    .rw[zj hm,Ux a,Ux (c:=r.left.toNat=m/\_) (λe=>a e.1)]
   .rw[Ux b,Ux (c:=r.left.toNat=m/\_) (λe=>b e.2)]
theorem iH {P:List bm} {m:Nat} : ∀ {l:List bb} {i:Nat} {p:bm},lR P m i l=some p->∃ (j:Nat) (r:bb),l[j]?=some r/\r.left.toNat=m/\gE P r.right/\p=fv P (i+j) r/\∀ (f:Nat) (g:bb),f < j->l[f]?=some g->g.left.toNat=m->¬ gE P g.right
 | [],i,p,h=>by simp[lR] at h
 | r :: l,i,p,h=>by
  rw[lR] at h
  by_cases k:r.left.toNat=m/\(bF P r.right aZ).2=true
  .rw[Uz k] at h
   exact⟨0,r,rfl,k.1,(gL P _ _).1 k.2,by simpa using h.symm,λf g o=>by omega⟩
  .rw[Ux k] at h
   obtain⟨j,q,a,b,c,d,e⟩:=iH h
   refine⟨j+1,q,by simpa using a,b,c,by rw[d];congr 1;omega,λf g o hr n hk=>?_⟩
   cases f with
   | zero =>
    simp at hr;subst hr
    exact k ⟨n,(gL P _ _).2 hk⟩
   | succ f=>exact e f g (by omega) (by simpa using hr) n hk
theorem yw {P:List bm} {m:Nat} : ∀ {l:List bb} {i:Nat},lR P m i l=none->∀ r∈l,r.left.toNat=m->¬ gE P r.right
 | [],i,h,r,hr,_,_=>by simp at hr
 | r :: l,i,h,c,hr,b,hk=>by
  rw[lR] at h
  by_cases a:r.left.toNat=m/\(bF P r.right aZ).2=true
  .rw[Uz a] at h;simp at h
  .rw[Ux a] at h
   rcases UO.1 hr with rfl | hr
   .exact a ⟨b,(gL P _ _).2 hk⟩
   .exact yw h c hr b hk
def aA (g:ag) (k:Nat):List bm:=iter (xM g.rules) k (List.replicate g.aj.length iK)
theorem DG {α:Type} (f:α->α):∀ (k:Nat) (x:α),iter f (k+1) x=f (iter f k x)
 | 0,x=>rfl
 | k+1,x=>by rw[iter,DG f k,iter]
theorem nU (g:ag) (k:Nat):aA g (k+1)=xM g.rules (aA g k):=DG _ _ _
theorem eL (g:ag):∀ k,(aA g k).length=g.aj.length
 | 0=>by simp[aA,iter]
 | k+1=>by rw[nU,xM,EG,eL g k]
theorem uv {P:List bm} {m:Nat} (h:P.length<=m):bk P m=iK:=by simp[bk,Uu,U6 h]
theorem Fo {P:List bm} {m:Nat} (h:bz P m):m < P.length:=by
 rcases UZ m P.length with h1 | h1
 .exact h1
 .unfold bz at h;rw[uv h1] at h;simp[iK] at h
theorem py (g:ag) (k m:Nat):bk (aA g (k+1)) m=if 0<=(bk (aA g k) m).ax then bk (aA g k) m else if m < g.aj.length then (lR (aA g k) m 0 g.rules).getD (bk (aA g k) m) else bk (aA g k) m:=by
 by_cases hm:m < g.aj.length
 .rw[nU,xM,Ht _ _ _ _ _ (by rw[eL];exact hm),Uz hm]
 .rw[Ux hm,uv (by rw[eL];omega),uv (by rw[eL];omega)]
  simp
theorem Bv {g:ag} {k m:Nat} (h:bz (aA g k) m):bk (aA g (k+1)) m=bk (aA g k) m:=by
 rw[py];unfold bz at h;rw[Uz h]
theorem zG {g:ag} {k m:Nat} (h:bz (aA g k) m):∀ d,bk (aA g (k+d)) m=bk (aA g k) m
 | 0=>rfl
 | d+1=>by
  have a:=zG h d
  have:bz (aA g (k+d)) m:=by unfold bz at h ⊢;rw[a];exact h
  rw[<-a,<-Bv this];rfl
theorem gp {g:ag} {k m j:Nat} (h:bz (aA g k) m) (a:k<=j):bk (aA g j) m=bk (aA g k) m/\bz (aA g j) m:=by
 obtain⟨d,rfl⟩:∃ d,j=k+d:=⟨j - k,by omega⟩
 have:=zG h d
 exact⟨this,by unfold bz at h ⊢;rw[this];exact h⟩
theorem tE {g:ag} {k m:Nat} (a:¬ bz (aA g k) m) (h:bz (aA g (k+1)) m):lR (aA g k) m 0 g.rules=some (bk (aA g (k+1)) m):=by
 unfold bz at h a
 rw[py,Ux a] at h
 rw[py,Ux a]
 split at h
 .rename_i hm
  rw[Uz hm]
  cases b:lR (aA g k) m 0 g.rules with
  | none=>rw[b] at h;exact absurd h a
  | some p=>rfl
 .exact absurd h a
theorem jh {g:ag} {m:Nat} : ∀ {k:Nat},¬ bz (aA g k) m->bk (aA g k) m=iK
 | 0,_=>by
  simp only[aA,iter,bk,Uu,VP]
  split <;> rfl
 | k+1,h=>by
  have a:¬ bz (aA g k) m:=λe=>h (gp e (by omega)).2
  unfold bz at h a
  rw[py,Ux a] at h ⊢
  split
  .rename_i hm
   rw[Uz hm] at h
   cases b:lR (aA g k) m 0 g.rules with
   | none=>exact jh (k:=k) a
   | some p =>
    rw[b] at h
    obtain⟨j,r,_,_,_,rfl,_⟩:=iH b
    simp only[UM,fv] at h;omega
  .exact jh (k:=k) a
theorem eN (g:ag):∀ k:Nat,∀ m,bz (aA g k) m->1<=(bk (aA g k) m).bu/\(bk (aA g k) m).bu<=k/\∀ j:Nat,j<=k->(bk (aA g k) m).bu<=j->bz (aA g j) m
 | 0,m,h=>by
  unfold bz at h
  have:bk (aA g 0) m=iK:=by
   simp only[aA,iter,bk,Uu,VP]
   split <;> rfl
  rw[this] at h;simp[iK] at h
 | k+1,m,h=>by
  have q:=eN g k
  by_cases f:bz (aA g k) m
  .obtain⟨a,b,c⟩:=q m f
   rw[(gp f (Nat.le_succ k)).1]
   refine⟨a,by push_cast;omega,λj u t=>?_⟩
   rcases UZ k j with e | e
   .exact(gp f (by omega)).2
   .exact c j e t
  .have v:=tE f h
   obtain⟨i,r,hr,w,hk,hp,_⟩:=iH v
   have t:(bk (aA g (k+1)) m).bu=(bF (aA g k) r.right aZ).1.bu+1:=by rw[hp];rfl
   have h1:=qv (aA g k) r.right aZ
   have B:=(hZ (aA g k) k r.right aZ hk).2 ⟨by simp[aZ],λx n o=>(q _ (hk x n o)).2.1⟩
   have C:¬ (bF (aA g k) r.right aZ).1.bu<=(k:Int) - 1:=by
    intro hle
    have y:(0:Int)<=(bF (aA g k) r.right aZ).1.bu:=h1
    obtain⟨d,rfl⟩:∃ d,k=d+1:=⟨k - 1,by omega⟩
    have z:=((hZ (aA g (d+1)) _ r.right aZ hk).1 hle).2
    have A:gE (aA g d) r.right:=λx n o=>(q _ (hk x n o)).2.2 d (by omega) (by have:=z x n o;push_cast at this;omega)
    apply f
    by_cases s:bz (aA g d) m
    .exact(gp s (by omega)).2
    .unfold bz at s ⊢
     have hm:=Fo h
     rw[eL] at hm
     rw[py,Ux s,Uz hm]
     cases l:lR (aA g d) m 0 g.rules with
     | none=>exact absurd A (yw l r (UL hr) w)
     | some p =>
      obtain⟨j,D,_,_,_,rfl,_⟩:=iH l
      simp only[UM,fv];omega
   have y:(0:Int)<=(bF (aA g k) r.right aZ).1.bu:=h1
   refine⟨by omega,by push_cast;omega,λj u hle=>?_⟩
   have:j=k+1:=by omega
   subst this;exact h
theorem wD {g:ag} {m:Nat} : ∀ {k:Nat},bz (aA g k) m->∃ j,j < k/\¬ bz (aA g j) m/\(bk (aA g k) m).bu=j+1/\lR (aA g j) m 0 g.rules=some (bk (aA g k) m)
 | 0,h=>by
  have:=(eN g 0 m h)
  simp at this;omega
 | k+1,h=>by
  by_cases f:bz (aA g k) m
  .obtain⟨j,a,b,c,d⟩:=wD f
   rw[(gp f (Nat.le_succ k)).1]
   exact⟨j,by omega,b,c,d⟩
  .refine⟨k,by omega,f,?_,tE f h⟩
   obtain⟨a,b,c⟩:=eN g (k+1) m h
   rcases Int.lt_or_le (k:Int) (bk (aA g (k+1)) m).bu with e | e
   .push_cast at b;omega
   .exact absurd (c k (by omega) e) f
def sj (P:List bm):List Bool:=P.map λp=>decide (0<=p.ax)
theorem AT (P:List bm) (m:Nat):(sj P).getD m false=true↔bz P m:=by
 simp only[sj,bz,bk,Uu,Uy]
 cases P[m]? with
 | none=>simp[iK]
 | some p=>simp
theorem RR (g:ag) (k:Nat):hQ (sj (aA g k)) (sj (aA g (k+1))) :=
 ⟨by simp[sj,eL],λi h=>(AT _ _).2 (gp ((AT _ _).1 h) (by omega)).2⟩
theorem RP {g:ag} {k:Nat} (h:sj (aA g k)=sj (aA g (k+1))):aA g (k+1)=aA g k:=by
 have hp:∀ m,bk (aA g (k+1)) m=bk (aA g k) m:=λm=>by
  by_cases a:bz (aA g k) m
  .exact Bv a
  .have h1:¬ bz (aA g (k+1)) m:=λe=>a ((AT _ _).1 (by rw[h];exact(AT _ _).2 e))
   rw[jh a,jh h1]
 apply List.ext_getElem (by rw[eL,eL])
 intro m h1 b
 have:=hp m
 simpa [bk,Uu,h1,b] using this
theorem KY {g:ag} {k:Nat} (hk:k<=dQ (sj (aA g k))):aA g (k+1)=aA g k∨k+1<=dQ (sj (aA g (k+1))):=by
 have:=(RR g k).dQ
 by_cases e:dQ (sj (aA g k))=dQ (sj (aA g (k+1)))
 .exact .inl (RP (this.2 e))
 .exact .inr (by omega)
theorem Ii (g:ag) (k:Nat):dQ (sj (aA g k))<=g.aj.length:=by
 have:=wM (sj (aA g k))
 simpa [sj,eL] using this
theorem BH {g:ag} {k:Nat} (h:aA g (k+1)=aA g k):∀ d,aA g (k+d)=aA g k
 | 0=>rfl
 | d+1=>by
  have a:=BH h d
  rw[<-VR,nU,a,<-nU,h]
def ao (g:ag):List bm:=aA g g.aj.length
theorem fL (g:ag):(ao g).length=g.aj.length:=eL _ _
theorem PA {g:ag} {k:Nat} (hk:k<=g.aj.length) (h:aA g (k+1)=aA g k):aA g k=ao g:=by
 obtain⟨d,a⟩:∃ d,g.aj.length=k+d:=⟨g.aj.length - k,by omega⟩
 rw[ao,a,BH h d]
theorem kc {g:ag} {m:Nat} (h:bz (ao g) m):1<=(bk (ao g) m).bu/\(bk (ao g) m).bu<=g.aj.length:=⟨(eN g _ m h).1,(eN g _ m h).2.1⟩
theorem vJ {g:ag} {m:Nat} (h:¬ bz (ao g) m):bk (ao g) m=iK:=jh h
theorem pW {g:ag} {m:Nat} (h:bz (ao g) m):∃ (i:Nat) (r:bb),g.rules[i]?=some r/\r.left.toNat=m/\gE (ao g) r.right/\bk (ao g) m=fv (ao g) i r /\
  ∀ (j:Nat) (a:bb),j < i->g.rules[j]?=some a->a.left.toNat=m->gE (ao g) a.right->(bF (ao g) a.right aZ).1.bu+1≠(bk (ao g) m).bu:=by
 obtain⟨k,hk,b,p,q⟩:=wD h
 obtain⟨i,r,hr,s,o,hp,e⟩:=iH q
 have c:∀ x∈r.right,x < 0->bk (aA g k) (bT x)=bk (ao g) (bT x):=λx d b=>((gp (o x d b) (by omega)).1).symm
 have t:bF (aA g k) r.right aZ=bF (ao g) r.right aZ:=BA _ _ c
 refine⟨i,r,hr,s,λx d b=>(gp (o x d b) (by omega)).2,?_,λj a u l n f he=>?_⟩
 .show bk (aA g g.aj.length) m=_
  rw[hp];unfold fv;rw[t,Vm]
 .have h1:(bk (ao g) m).bu=k+1:=p
  refine e j a u l n λx d b=>?_
  have v:=((hZ (ao g) k a.right aZ f).1 (by omega)).2 x d b
  exact(eN g _ _ (f x d b)).2.2 k (by omega) v
def fD (h:List Int) (m:Nat):Int:=h.getD m 0
def fy (h:List Int):List Int->Int->Int
 | [],top=>top+1
 | x :: l,top=>if 0<=x then fy h l top else if fD h (bT x)=0 then 0 else fy h l (max top (fD h (bT x)))
def j6 (old:List Int) (k:Int) (out:List Int) (r:bb):List Int:=if fD out r.left.toNat=0/\fy old r.right 0=k then out.set r.left.toNat k else out
abbrev fh (P:List bm):List Int:=P.map bm.bu
theorem ll (P:List bm) (m:Nat):fD (fh P) m=(bk P m).bu:=by
 simp only[fD,bk,Uu,Uy]
 cases P[m]? <;> rfl
def zf (P:List bm):Prop:=∀ m,(bz P m->1<=(bk P m).bu)/\(¬ bz P m->bk P m=iK)
theorem CD (g:ag) (k:Nat):zf (aA g k):=λm=>⟨λh=>(eN g k m h).1,jh⟩
theorem zf.zero {P:List bm} (h:zf P) (m:Nat):fD (fh P) m=0↔¬ bz P m:=by
 rw[ll]
 constructor
 .intro e k;have:=(h m).1 k;omega
 .intro k;rw[(h m).2 k];rfl
theorem yQ {P:List bm} {x:Int} {l:List Int} {s:bm} (h:0<=x):bF P (x :: l) s=bF P l ⟨s.ax,s.bu,s.rules,min 1048576 (s.au+1)⟩:=by rw[bF,Uz h]
theorem Ax {P:List bm} {x:Int} {l:List Int} {s:bm} (h:¬ 0<=x) (hk:¬ (bk P (bT x)).ax < 0):bF P (x :: l) s=bF P l ⟨s.ax,max s.bu (bk P (bT x)).bu,min 1048576 (s.rules+(bk P (bT x)).rules),min 1048576 (s.au+(bk P (bT x)).au)⟩:=by rw[bF,Ux h,Ux hk]
theorem Dx {P:List bm} {x:Int} {l:List Int} {s:bm} (h:¬ 0<=x) (hk:(bk P (bT x)).ax < 0):bF P (x :: l) s=(s,false):=by rw[bF,Ux h,Uz hk]
theorem yq {P:List bm} (b:zf P):∀ (l:List Int) (s:bm),fy (fh P) l s.bu=if (bF P l s).2=true then (bF P l s).1.bu+1 else 0
 | [],s=>by simp[fy,bF]
 | x :: l,s=>by
  simp only[fy]
  by_cases a:0<=x
  .rw[Uz a,yQ a,<-yq b l]
  .rw[Ux a]
   by_cases h1:bz P (bT x)
   .have c:=h1
    unfold bz at c
    rw[Ux (λe=>((b.zero _).1 e) h1),Ax a (by omega),<-yq b l,ll]
   .have c:=h1
    unfold bz at c
    rw[Uz ((b.zero _).2 h1),Dx a (by omega)]
    rfl
theorem qp {P:List bm} (a:zf P) (l:List Int):(fy (fh P) l 0=0↔¬ gE P l)/\(gE P l->fy (fh P) l 0=(bF P l aZ).1.bu+1):=by
 have h:=yq a l aZ
 have h1:=qv P l aZ
 have c:(0:Int)<=(bF P l aZ).1.bu:=h1
 have b:fy (fh P) l 0=_:=h
 rw[b]
 by_cases hk:gE P l
 .have:=(gL P l aZ).2 hk
  rw[Uz this]
  exact⟨⟨λe=>by omega,λe=>absurd hk e⟩,λ_=>rfl⟩
 .have:=λe=>hk ((gL P l aZ).1 e)
  rw[Ux this]
  exact⟨⟨λ_=>hk,λ_=>rfl⟩,λe=>absurd e hk⟩
theorem RF {out:List Int} {i m:Nat} {v:Int} (hm:m < out.length):fD (out.set i v) m=if i=m then v else fD out m:=by
 simp only[fD,Uu,VA]
 split
 .rename_i e;subst e;simp[hm]
 .rfl
theorem B5 (old:List Int) (k:Int) (out:List Int) (r:bb):(j6 old k out r).length=out.length:=by
 unfold j6;split <;> simp
theorem B4 (old:List Int) (k:Int):∀ (l:List bb) (out:List Int),(l.foldl (j6 old k) out).length=out.length
 | [],_=>rfl
 | r :: l,out=>by rw[Vf,B4 old k l,B5]
theorem EB (old:List Int) (k:Int) (m:Nat) (hk:k≠0):∀ (l:List bb) (out:List Int),m < out.length ->
  (fD out m≠0->fD (l.foldl (j6 old k) out) m=fD out m) /\
  (fD out m=0->(∃ r∈l,r.left.toNat=m/\fy old r.right 0=k)->fD (l.foldl (j6 old k) out) m=k) /\
  (fD out m=0->(¬ ∃ r∈l,r.left.toNat=m/\fy old r.right 0=k)->fD (l.foldl (j6 old k) out) m=0)
 | [],out,hm=>⟨λ_=>rfl,λ_ ⟨r,hr,_⟩=>by simp at hr,λh _=>h⟩
 | r :: l,out,hm=>by
  obtain⟨i1,i2,i3⟩:=EB old k m hk l (j6 old k out r) (by rw[B5];exact hm)
  rw[Vf]
  unfold j6 at i1 i2 i3 ⊢
  by_cases d:fD out r.left.toNat=0/\fy old r.right 0=k
  .rw[Uz d] at i1 i2 i3 ⊢
   rw[RF hm] at i1 i2 i3
   by_cases e:r.left.toNat=m
   .rw[Uz e] at i1 i2 i3
    refine⟨λh=>absurd (e ▸ d.1) h,λ_ _=>i1 hk,λ_ h=>absurd ⟨r,by simp,e,d.2⟩ h⟩
   .rw[Ux e] at i1 i2 i3
    refine⟨i1,λh ⟨c,a,h1,b⟩=>?_,λh h1=>i3 h λ⟨c,a,b⟩=>h1 ⟨c,by simp[a],b⟩⟩
    rcases UO.1 a with rfl | a
    .exact absurd h1 e
    .exact i2 h ⟨c,a,h1,b⟩
  .rw[Ux d] at i1 i2 i3 ⊢
   refine⟨i1,λh ⟨c,a,h1,b⟩=>?_,λh h1=>i3 h λ⟨c,a,b⟩=>h1 ⟨c,by simp[a],b⟩⟩
   rcases UO.1 a with rfl | a
   .exact absurd ⟨h1 ▸ h,b⟩ d
   .exact i2 h ⟨c,a,h1,b⟩
theorem Ro (g:ag) (k:Nat):g.rules.foldl (j6 (fh (aA g k)) ((k:Int)+1)) (fh (aA g k))=fh (aA g (k+1)):=by
 apply List.ext_getElem (by rw[B4];simp[eL])
 intro m h1 t
 have hm:m < g.aj.length:=by simpa [eL] using t
 have u:∀ {l:List Int} (h:m < l.length),l[m]=fD l m:=λh=>by simp[fD,Uu,h]
 rw[u h1,u t,ll]
 obtain⟨i1,i2,i3⟩:=EB (fh (aA g k)) ((k:Int)+1) m (by omega) g.rules (fh (aA g k)) (by simp[eL,hm])
 have n:=CD g k
 by_cases d:bz (aA g k) m
 .rw[i1 (λe=>(n.zero m).1 e d),ll,(gp d (Nat.le_succ k)).1]
 .have v:=(n.zero m).2 d
  by_cases f:bz (aA g (k+1)) m
  .obtain⟨i,r,hr,o,q,hp,_⟩:=iH (tE d f)
   obtain⟨a,b,c⟩:=eN g (k+1) m f
   have he:(bk (aA g (k+1)) m).bu=k+1:=by
    rcases Int.lt_or_le (k:Int) (bk (aA g (k+1)) m).bu with e | e
    .push_cast at b;omega
    .exact absurd (c k (by omega) e) d
   rw[he]
   refine i2 v ⟨r,UL hr,o,?_⟩
   rw[(qp n r.right).2 q,<-he,hp];rfl
  .rw[jh f]
   refine i3 v λ⟨r,hr,o,he⟩=>?_
   have q:gE (aA g k) r.right:=by
    rcases Classical.em (gE (aA g k) r.right) with h | h
    .exact h
    .have:=(qp n r.right).1.2 h;omega
   unfold bz at d f
   rw[py,Ux d,Uz hm] at f
   cases s:lR (aA g k) m 0 g.rules with
   | none=>exact yw s r hr o q
   | some p =>
    rw[s] at f
    obtain⟨j,w,_,_,_,rfl,_⟩:=iH s
    simp only[UM,fv] at f;omega
def kp (h:List Int) (m:Nat):List bb->Int->Int
 | [],_=>(-1)
 | r :: l,i=>if r.left=(m:Int)/\0 < fD h m/\fy h r.right 0=fD h m then i else kp h m l (i+1)
theorem BY {h:List Int} {m:Nat} : ∀ {l:List bb} {i:Int},(∀ r∈l,¬ (r.left=(m:Int)/\0 < fD h m/\fy h r.right 0=fD h m))->kp h m l i=(-1)
 | [],_,_=>rfl
 | r :: l,i,a=>by rw[kp,Ux (a r (by simp)),BY λr hr=>a r (by simp[hr])]
theorem Cl {h:List Int} {m:Nat} : ∀ {l:List bb} {i:Int} {j:Nat} {r:bb},l[j]?=some r->(r.left=(m:Int)/\0 < fD h m/\fy h r.right 0=fD h m) ->
  (∀ (b:Nat) (a:bb),b < j->l[b]?=some a->¬ (a.left=(m:Int)/\0 < fD h m/\fy h a.right 0=fD h m))->kp h m l i=i+j
 | [],_,_,_,hr,_,_=>by simp at hr
 | e :: l,i,0,r,hr,c,_=>by
  simp at hr;subst hr
  rw[kp,Uz c];simp
 | e :: l,i,j+1,r,hr,c,f=>by
  rw[kp,Ux (f 0 e (by omega) rfl),Cl (l:=l) (i:=i+1) (by simpa using hr) c λb a g d=>f (b+1) a (by omega) (by simpa using d)]
  push_cast;omega
theorem Kp {g:ag} (n:∀ r∈g.rules,0<=r.left) (m:Nat):kp (fh (ao g)) m g.rules 0=(bk (ao g) m).ax:=by
 have e:zf (ao g):=CD g _
 by_cases h:bz (ao g) m
 .obtain⟨i,r,hr,s,o,hp,a⟩:=pW h
  have t:=n r (UL hr)
  have p:fy (fh (ao g)) r.right 0=fD (fh (ao g)) m:=by
   rw[(qp e _).2 o,ll,hp];rfl
  have b:0 < fD (fh (ao g)) m:=by rw[ll];have:=(kc h).1;omega
  have:=Cl (h:=fh (ao g)) (m:=m) (i:=0) hr ⟨by omega,b,p⟩ λj f q k l=>by
   have c:gE (ao g) f.right:=by
    rcases Classical.em (gE (ao g) f.right) with h | h
    .exact h
    .have:=(qp e f.right).1.2 h;omega
   have d:=l.2.2
   rw[(qp e _).2 c,ll] at d
   exact a j f q k (by omega) c d
  rw[this,hp];simp[fv]
 .rw[vJ h]
  refine BY λr hr l=>?_
  have:=(e.zero m).2 h
  omega
def oE (a b:Int × Int):Int × Int:=(min 1000 (a.1+b.1),min 1000 (a.2+b.2))
def j7 (S:List (Int × Int)) (m:Nat):Int × Int:=S.getD m (0,0)
def mo (S:List (Int × Int)):List Int->Int × Int->Int × Int
 | [],s=>s
 | x :: l,s=>mo S l (oE s (if 0<=x then (0,1) else j7 S (bT x)))
def ke (p:bm):Int × Int:=(min 1000 p.rules,min 1000 p.au)
def ed (p:bm):Prop:=(0<=p.rules/\p.rules<=1048576)/\(0<=p.au/\p.au<=1048576)
theorem mH {P:List bm} (a:∀ m,ed (bk P m)):∀ (l:List Int) (s:bm),ed s->ed (bF P l s).1
 | [],s,h=>h
 | x :: l,s,h=>by
  have b:=a (bT x)
  unfold ed at h b
  simp only[bF]
  split
  .exact mH a l _ (by unfold ed;simp only;omega)
  .split
   .exact h
   .exact mH a l _ (by unfold ed;simp only;omega)
theorem fZ:ed aZ:=by unfold ed;simp[aZ]
theorem Np:ed iK:=by unfold ed;simp[iK]
theorem ja (g:ag):∀ k m,ed (bk (aA g k) m)
 | 0,m=>by
  have:bk (aA g 0) m=iK:=by
   simp only[aA,iter,bk,Uu,VP]
   split <;> rfl
  rw[this];exact Np
 | k+1,m=>by
  by_cases h:bz (aA g (k+1)) m
  .by_cases a:bz (aA g k) m
   .rw[(gp a (Nat.le_succ k)).1];exact ja g k m
   .obtain⟨i,r,_,_,_,hp,_⟩:=iH (tE a h)
    rw[hp]
    have:=mH (ja g k) r.right aZ fZ
    unfold ed at this ⊢
    simp only[fv];omega
  .rw[jh h];exact Np
theorem vL {P:List bm} {S:List (Int × Int)} (e:∀ m,ed (bk P m)):∀ (l:List Int) (s:bm) (t:Int × Int),ed s->gE P l->(∀ x∈l,x < 0->j7 S (bT x)=ke (bk P (bT x)))->t=ke s->mo S l t=ke (bF P l s).1
 | [],s,t,_,_,_,c=>c
 | x :: l,s,t,i,g,h,c=>by
  have j:=e (bT x)
  unfold ed at i j
  have a:gE P l:=λy f=>g y (by simp[f])
  have b:=λy (f:y∈l)=>h y (by simp[f])
  simp only[mo,bF]
  by_cases d:0<=x
  .rw[Uz d,Uz d]
   refine vL e l _ _ (by unfold ed;simp only;omega) a b ?_
   subst c
   simp only[oE,ke,UA];omega
  .have hk:=g x (by simp) (by omega)
   unfold bz at hk
   rw[Ux d,Ux d,Ux (by omega),h x (by simp) (by omega)]
   refine vL e l _ _ (by unfold ed;simp only;omega) a b ?_
   subst c
   simp only[oE,ke,UA];omega
theorem Oy {g:ag} {S:List (Int × Int)} {m:Nat} (h:bz (ao g) m) {i:Nat} {r:bb} (hr:g.rules[i]?=some r) (hi:(bk (ao g) m).ax=i)
  (e:∀ k,(bk (ao g) k).bu < (bk (ao g) m).bu->bz (ao g) k->j7 S k=ke (bk (ao g) k)):oE (1,0) (mo S r.right (0,0))=ke (bk (ao g) m):=by
 obtain⟨f,l,a,n,b,hp,_⟩:=pW h
 have:f=i:=by rw[hp] at hi;simp only[fv] at hi;omega
 subst this
 rw[hr] at a;simp at a;subst a
 have o:(bk (ao g) m).bu=(bF (ao g) r.right aZ).1.bu+1:=by rw[hp];rfl
 have h1:=((hZ (ao g) ((bk (ao g) m).bu - 1) r.right aZ b).1 (by omega)).2
 rw[vL (P:=ao g) (λm=>ja g _ m) r.right aZ (0,0) fZ b (λx c d=>e _ (by have:=h1 x c d;omega) (b x c d)) rfl]
 have:=mH (ja g g.aj.length) r.right aZ fZ
 have j:ed (bF (ao g) r.right aZ).1:=this
 unfold ed at j
 rw[hp]
 simp only[oE,ke,fv,UA];omega
def Cj (g:ag) (i:Int):List Int:=(g.rules.getD i.toNat ⟨0,[],0⟩).right
def dF (g:ag) (P:List bm):Nat->List Int->List Int
 | 0,l=>l.flatMap λx=>if 0<=x then [x] else []
 | f+1,l=>l.flatMap λx=>if 0<=x then [x] else dF g P f (Cj g (bk P (bT x)).ax)
def eF (g:ag) (P:List bm):Nat->List Int->List Int
 | 0,_=>[]
 | f+1,l=>l.flatMap λx=>if 0<=x then [] else (bk P (bT x)).ax :: eF g P f (Cj g (bk P (bT x)).ax)
def Ba (P:List bm) (f:Nat) (l:List Int):Prop:=∀ x∈l,x < 0->bz P (bT x)/\(bk P (bT x)).bu<=f
theorem tn (g:ag) (P:List bm) (f:Nat):dF g P f []=[]:=by cases f <;> rfl
theorem EC (g:ag) (P:List bm) (f:Nat):eF g P f []=[]:=by cases f <;> rfl
theorem gA (g:ag) (P:List bm) (f:Nat) (a b:List Int):dF g P f (a ++ b)=dF g P f a ++ dF g P f b:=by cases f <;> simp[dF]
theorem kX (g:ag) (P:List bm) (f:Nat) (a b:List Int):eF g P f (a ++ b)=eF g P f a ++ eF g P f b:=by cases f <;> simp[eF]
theorem lf {g:ag} {P:List bm} {f:Nat} {x:Int} (h:0<=x):dF g P f [x]=[x]:=by cases f <;> simp[dF,h]
theorem wJ {g:ag} {P:List bm} {f:Nat} {x:Int} (h:0<=x):eF g P f [x]=[]:=by cases f <;> simp[eF,h]
theorem kH {g:ag} {P:List bm} {f:Nat} {x:Int} (h:x < 0):dF g P (f+1) [x]=dF g P f (Cj g (bk P (bT x)).ax):=by
 simp[dF,show ¬ 0<=x by omega]
theorem qu {g:ag} {P:List bm} {f:Nat} {x:Int} (h:x < 0):eF g P (f+1) [x]=(bk P (bT x)).ax :: eF g P f (Cj g (bk P (bT x)).ax):=by
 simp[eF,show ¬ 0<=x by omega]
theorem Da {g:ag} {l:List Int} (h:Ba (ao g) 0 l):∀ x∈l,0<=x:=λx c=>by
 rcases Int.lt_or_le x 0 with h1 | h1
 .obtain⟨a,b⟩:=h x c h1
  have:=(kc a).1
  simp at b;omega
 .exact h1
theorem vK {g:ag} {f:Nat} {m:Nat} (h:bz (ao g) m) (d:(bk (ao g) m).bu<=(f:Int)+1):∃ (i:Nat) (r:bb),(bk (ao g) m).ax=i/\g.rules[i]?=some r/\Cj g (bk (ao g) m).ax=r.right/\Ba (ao g) f r.right/\bk (ao g) m=fv (ao g) i r:=by
 obtain⟨i,r,hr,e,a,hp,_⟩:=pW h
 have hi:(bk (ao g) m).ax=i:=by rw[hp];rfl
 have j:(bk (ao g) m).bu=(bF (ao g) r.right aZ).1.bu+1:=by rw[hp];rfl
 have h1:=((hZ (ao g) f r.right aZ a).1 (by omega)).2
 refine⟨i,r,hi,hr,?_,λx b c=>⟨a x b c,h1 x b c⟩,hp⟩
 rw[hi];simp[Cj,Uu,hr]
theorem ln {g:ag} {f:Nat} (c:∀ x,x < 0->bz (ao g) (bT x)->(bk (ao g) (bT x)).bu<=f->(bk (ao g) (bT x)).rules=min 1048576 ((eF g (ao g) f [x]).length:Int)/\(bk (ao g) (bT x)).au=min 1048576 ((dF g (ao g) f [x]).length:Int)) :
  ∀ (l:List Int) (s:bm),Ba (ao g) f l->ed s->(bF (ao g) l s).1.rules=min 1048576 (s.rules+(eF g (ao g) f l).length)/\(bF (ao g) l s).1.au=min 1048576 (s.au+(dF g (ao g) f l).length)
 | [],s,_,d=>by
  unfold ed at d
  rw[tn,EC]
  simp only[bF,UU];omega
 | x :: l,s,hu,d=>by
  have a:Ba (ao g) f l:=λy i=>hu y (by simp[i])
  have e:=gA g (ao g) f [x] l
  have h:=kX g (ao g) f [x] l
  rw[List.singleton_append] at e h
  rw[e,h,UY,UY]
  have j:ed (bk (ao g) (bT x)):=ja g g.aj.length (bT x)
  unfold ed at d j
  by_cases b:0<=x
  .obtain⟨i1,i2⟩:=ln c l ⟨s.ax,s.bu,s.rules,min 1048576 (s.au+1)⟩ a (by unfold ed;simp only;omega)
   rw[yQ b,i1,i2,lf b,wJ b]
   simp only[UE,UU]
   omega
  .obtain⟨hk,k⟩:=hu x (by simp) (by omega)
   obtain⟨m,k2⟩:=c x (by omega) hk k
   obtain⟨i1,i2⟩:=ln c l ⟨s.ax,max s.bu (bk (ao g) (bT x)).bu,min 1048576 (s.rules+(bk (ao g) (bT x)).rules),min 1048576 (s.au+(bk (ao g) (bT x)).au)⟩ a (by unfold ed;simp only;omega)
   unfold bz at hk
   rw[Ax b (by omega),i1,i2,m,k2]
   push_cast
   omega
theorem nD (g:ag):∀ (f:Nat) (l:List Int) (s:bm),Ba (ao g) f l->ed s ->
  (bF (ao g) l s).1.rules=min 1048576 (s.rules+(eF g (ao g) f l).length)/\(bF (ao g) l s).1.au=min 1048576 (s.au+(dF g (ao g) f l).length)
 | 0,l,s,hu,b=>ln (λx c hk a=>by have:=(kc hk).1;simp only[Int.natCast_zero] at a;omega) l s hu b
 | f+1,l,s,hu,b=>ln (λx c hk a=>by
   obtain⟨i,r,hi,hr,d,e,hp⟩:=vK (f:=f) hk (by push_cast at a;exact a)
   obtain⟨h,j⟩:=nD g f r.right aZ e fZ
   have k:(bk (ao g) (bT x)).rules=min 1048576 ((bF (ao g) r.right aZ).1.rules+1):=by rw[hp];rfl
   have k2:(bk (ao g) (bT x)).au=(bF (ao g) r.right aZ).1.au:=by rw[hp];rfl
   rw[kH c,qu c,d,k,k2,h,j]
   simp only[UE,aZ]
   push_cast
   omega) l s hu b
theorem pG {g:ag} {f:Nat} (a:∀ x,x < 0->(dF g (ao g) f [x]).length<=6 * (eF g (ao g) f [x]).length):∀ (l:List Int),(dF g (ao g) f l).length<=l.length+6 * (eF g (ao g) f l).length
 | []=>by rw[tn];simp
 | x :: l=>by
  have b:=gA g (ao g) f [x] l
  have c:=kX g (ao g) f [x] l
  rw[List.singleton_append] at b c
  rw[b,c,UY,UY]
  have e:=pG a l
  by_cases d:0<=x
  .rw[lf d,wJ d]
   simp only[UE,UU];omega
  .have:=a x (by omega)
   simp only[UE];omega
theorem Rr {g:ag} (a:∀ r∈g.rules,r.right.length<=6) (i:Int):(Cj g i).length<=6:=by
 simp only[Cj,Uu]
 cases hr:g.rules[i.toNat]? with
 | none=>simp
 | some r=>simpa using a r (UL hr)
theorem Ew {g:ag} (b:∀ r∈g.rules,r.right.length<=6):∀ (f:Nat) (l:List Int),(dF g (ao g) f l).length<=l.length+6 * (eF g (ao g) f l).length
 | 0,l=>pG (λx a=>by simp[dF,show ¬ 0<=x by omega]) l
 | f+1,l=>pG (λx a=>by
  have i2:=Ew b f (Cj g (bk (ao g) (bT x)).ax)
  have:=Rr b (bk (ao g) (bT x)).ax
  rw[kH a,qu a]
  simp only[UE];omega) l
def dw (g:ag) (l:List Int):List Int × Int :=
 if (bV g && l.all (dI g))=true then
  (if (bF (ao g) l aZ).2=false then ([],9) else if 300 < (bF (ao g) l aZ).1.rules∨60 < (bF (ao g) l aZ).1.au then ([],13) else (dF g (ao g) g.aj.length l,0))
 else ([],1)
theorem RL:rl.Ok:=by
 refine⟨by unfold aL;decide,by unfold aL;decide,by unfold aL;decide,by unfold bO;decide,?_,?_⟩
 .intro t a;simp[rl] at a
 .intro r hr;simp[rl] at hr
section
variable {g r:ag} {p q:List Bool} {o:List Int}
end
theorem bytes_beq (a b:ByteArray):(a == b)=decide (a=b):=by
 cases a with | mk a=>cases b with | mk b =>
 rw[Vw]
 show (ByteArray.beq ⟨a⟩ ⟨b⟩=true)↔_
 simp only[ByteArray.beq]
 simp
theorem Eg (a b:ByteArray):iV a b=decide (a=b):=by
 cases a with | mk a=>cases b with | mk b =>
 rw[Vw]
 simp[iV]
theorem pH {α:Type} {a b:List α} {i:Nat} {x y:α} (c:a[i]?=some x) (d:b[i]?=some y) (h:a.take i=b.take i) (e:x=y):a.take (i+1)=b.take (i+1):=by
 rw[UW,UW,h,c,d,e]
theorem sF {α:Type} {a b:List α} {i:Nat} (c:a.length<=i) (d:b.length<=i) (h:a.take i=b.take i):a=b:=by
 rwa [UK c,UK d] at h
theorem vP {α:Type} {a b:List α} {i:Nat} {x y:α} (d:a[i]?=some x) (c:b[i]?=some y) (e:x≠y):a≠b:=by
 rintro rfl;rw[d] at c;exact e (by simpa using c)
theorem sB {α:Type} {a b:List α} (h:¬ a.length=b.length):a≠b:=λe=>h (by rw[e])
theorem zR (x y:Term):gM Tryz.prog 9998 #[.string x.name,.int .i64 x.level,.int .i64 x.assoc] #[.string y.name,.int .i64 y.level,.int .i64 y.assoc]
  [{ name:= "Name",type:=9,offset:=0,embedded:=false,tag:= "",pkgPath:= "",byteOffset:=0 },{ name:= "Level",type:=3,offset:=1,embedded:=false,tag:= "",pkgPath:= "",byteOffset:=16 },
   { name:= "Assoc",type:=3,offset:=2,embedded:=false,tag:= "",pkgPath:= "",byteOffset:=24 }] (x.name == y.name && (x.level == y.level && (x.assoc == y.assoc && true))) :=
 .str _ _ _ _ _ (by decide) Tryz.underlying9 rfl rfl (.int _ _ _ _ _ _ (by decide) Tryz.underlying3 rfl rfl (.int _ _ _ _ _ _ (by decide) Tryz.underlying3 rfl rfl .nil))
theorem JZ (x y:Term):(x.name == y.name && (x.level == y.level && (x.assoc == y.assoc && true)))=decide (x=y):=by
 rw[bytes_beq,Vw]
 cases x;cases y
 simp
theorem Rt (a b:Int):(a == b)=decide (a=b):=by rw[Vw];simp
theorem O6 (x y:bb):decide (x=y)=(decide (x.left=y.left) && (decide (x.prec=y.prec) && decide (x.right=y.right))):=by
 cases x;cases y
 rw[Vw]
 simp[and_comm]
theorem Gs (x y:ag):decide (x=y)=(decide (x.au=y.au) && (decide (x.aj=y.aj) && (decide (x.rules=y.rules) && decide (x.start=y.start)))):=by
 cases x;cases y
 rw[Vw]
 simp
theorem Ei (g k:ag):∀ v∈[V.agg (af g),V.agg (af k)],Tree v:=by
 intro v a;simp at a
 rcases a with rfl | rfl <;> exact bZ _ (cz _)
def oy:SC :=
 ae [ae [ab [aa 42 5,al 43 0 2,ak 44 43,aM 45 44,aR 46 .lss 42 45],bX 46 (.exit 0)],.block 1 (ae [ab [al 49 0 2,ak 50 49,aa 51 5,aO 52 3 50 51,aS 53 3 52,al 54 0 3,ak 55 54,aa 56 5,aO 57 3 55 56,aS 58 3 57,((some 59),.op (.old (.binOp .neq 130 (.tmp 53) (.tmp 58) 130) 4))],ba 59 (ae [ab [bq 4 false],.ret])]),ab [aa 47 5,aG 48 .add 47 1,aa 5 48]]
def oB:SC :=
 ae [ae [ab [aa 60 6,al 61 1 2,ak 62 61,aM 63 62,aR 64 .lss 60 63],bX 64 (.exit 2)],.block 3 (ae [ab [al 67 1 2,ak 68 67,aa 69 6,aO 70 1 68 69,ak 71 70,al 72 1 3,ak 73 72,aa 74 6,aO 75 1 73 74,ak 76 75,((some 77),.op (.xg .neq (.tmp 71) (.tmp 76)))],ba 77 (ae [ab [bq 4 false],.ret])]),ab [aa 65 6,aG 66 .add 65 1,aa 6 66]]
def oJ:SC :=
 ae [ae [ab [aa 78 7,al 79 2 2,ak 80 79,aM 81 80,aR 82 .lss 78 81],bX 82 (.exit 4)],.block 5 (ae [ab [al 85 2 2,ak 86 85,aa 87 7,aO 88 3 86 87,aS 89 3 88,al 90 2 3,ak 91 90,aa 92 7,aO 93 3 91 92,aS 94 3 93,((some 8),.op (.alloc [(.val (.int .i64 0)),(.emp 1),(.val (.int .i64 0))])),((some 9),.op (.alloc [(.val (.int .i64 0)),(.emp 1),(.val (.int .i64 0))])),cg 3 8 89,cg 3 9 94],.region false [⟨none,[al 95 0 8,ak 96 95,al 97 0 9,ak 98 97,aR 99 .neq 96 98,aa 100 99]⟩,⟨(some (100,false)),[al 101 2 8,ak 102 101,al 103 2 9,ak 104 103,aR 105 .neq 102 104]⟩,⟨none,[cM 106 100 105,aa 107 106]⟩,⟨(some (107,false)),[al 108 1 8,ak 109 108,al 110 1 9,ak 111 110,aX 112 26 [109,111],c7 113 112]⟩,⟨none,[cM 114 107 113]⟩],ba 114 (ae [ab [bq 4 false],.ret])]),ab [aa 83 7,aG 84 .add 83 1,aa 7 84]]
def qg:SF:=⟨ae [ab [cw 2 0,cw 3 1,bq 4 false],ae [.region false [⟨none,[al 10 0 2,ak 11 10,aM 12 11,al 13 0 3,ak 14 13,aM 15 14,aR 16 .neq 12 15,aa 17 16]⟩,⟨(some (17,false)),[al 18 1 2,ak 19 18,aM 20 19,al 21 1 3,ak 22 21,aM 23 22,aR 24 .neq 20 23]⟩,⟨none,[cM 25 17 24,aa 26 25]⟩,⟨(some (26,false)),[al 27 2 2,ak 28 27,aM 29 28,al 30 2 3,ak 31 30,aM 32 31,aR 33 .neq 29 32]⟩,⟨none,[cM 34 26 33,aa 35 34]⟩,⟨(some (35,false)),[al 36 3 2,ak 37 36,al 38 3 3,ak 39 38,aR 40 .neq 37 39]⟩,⟨none,[cM 41 35 40]⟩],ba 41 (ae [ab [bq 4 false],.ret])],ae [ab [aN 5 0],bY 0 oy],ae [ab [aN 6 0],bY 2 oB],ae [ab [aN 7 0],bY 4 oJ],ab [bq 4 true],.ret],
 [.tmp 4],115⟩
theorem vl:aH Tryz.prog 31 [2,3]=some qg:=by kernel_rfl
theorem D7 (g k:ag) (o:g.Ok):az Tryz.prog 31 [.agg (af g),.agg (af k)] (gb (decide (g=k))):=by
 refine az.val (Ei g k) λH=>?_
 rw[Gs]
 refine av.of mixed vl ?_
 have h1:=o.au
 have v:=o.aj
 have w:=o.rules
 unfold aL at h1 v w
 simp(disch:=omega)only[↓wr,seval,wq,qg,af,encS]
 repeat' (first | ((first|apply ai.dec|apply ai.eq|apply ai.ne|apply ai.split)<;>intro)|(simp(disch:=omega)only[↓wr,seval,wq,af,encS]))
 .rename_i e;rw[decide_eq_false (sB (by omega))];rfl
 .rename_i e;rw[decide_eq_false (p:=g.aj=k.aj) (sB (by omega))];simp
 .rename_i e;rw[decide_eq_false (p:=g.rules=k.rules) (sB (by omega))];simp
 .rename_i e;rw[decide_eq_false e];simp
 rename_i A B C z
 refine aV.up g.au.length (λi T _=>g.au.take i=k.au.take i/\T 2=.aJ (af g) 0/\T 3=.aJ (af k) 0/\T 5=gi i) ⟨by simp,rfl,rfl,rfl⟩ ?_
 rintro i m T H hm ⟨hi,t2,t3,t5⟩
 simp(disch:=omega)only[↓wr,seval,wq,oy,t2,t3,t5,af,encS]
 apply ai.dec<;>intro d
 .have a:=Uv (l:=g.au) (i:=i) (by omega)
  have b:=Uv (l:=k.au) (i:=i) (by omega)
  generalize g.au[i]'(by omega)=x at a
  generalize k.au[i]'(by omega)=y at b
  simp(disch:=omega)only[↓wr,seval,wq,t2,t3,t5,Uy,a,b,cP,af,encS]
  refine jc (xs:=#[.string x.name,.int .i64 x.level,.int .i64 x.assoc]) (ys:=#[.string y.name,.int .i64 y.level,.int .i64 y.assoc]) Tryz.underlying130 (by kernel_rfl) (by kernel_rfl) ?_ ?_ (zR x y) (.inr ⟨rfl,rfl⟩) ?_
  .rfl
  .rfl
  rw[JZ]
  simp(disch:=omega)only[↓wr,seval,wq,t2,t3,t5]
  apply ai.split<;>intro e
  .simp(disch:=omega)only[↓wr,seval,wq,t2,t3,t5]
   exact aD hm (by omega) ⟨pH a b hi (by simpa using e),t2,t3,rfl⟩
  .simp(disch:=omega)only[↓wr,seval,wq,t2,t3,t5]
   rw[decide_eq_false (vP a b (by simpa using e))];rfl
 have s:g.au=k.au:=sF (by omega) (by omega) hi
 simp(disch:=omega)only[↓wr,seval,wq,t2,t3,t5]
 clear hi d hm
 refine aV.up g.aj.length (λi T _=>g.aj.take i=k.aj.take i/\T 2=.aJ (af g) 0/\T 3=.aJ (af k) 0/\T 6=gi i) ⟨by simp,t2,t3,rfl⟩ ?_
 clear t2 t3 t5 T H i m
 rintro i m T H hm ⟨hi,t2,t3,t5⟩
 simp(disch:=omega)only[↓wr,seval,wq,oB,t2,t3,t5,af,encS]
 apply ai.dec<;>intro d
 .have a:=Uv (l:=g.aj) (i:=i) (by omega)
  have b:=Uv (l:=k.aj) (i:=i) (by omega)
  generalize g.aj[i]'(by omega)=x at a
  generalize k.aj[i]'(by omega)=y at b
  simp(disch:=omega)only[↓wr,seval,wq,t2,t3,t5,Uy,a,b,cP,af,encS,Eg]
  apply ai.split<;>intro e
  .simp(disch:=omega)only[↓wr,seval,wq,t2,t3,t5]
   exact aD hm (by omega) ⟨pH a b hi (by simpa using e),t2,t3,rfl⟩
  .simp(disch:=omega)only[↓wr,seval,wq,t2,t3,t5]
   rw[decide_eq_false (p:=g.aj=k.aj) (vP a b (by simpa using e))];simp
 have t:g.aj=k.aj:=sF (by omega) (by omega) hi
 simp(disch:=omega)only[↓wr,seval,wq,t2,t3,t5]
 clear hi d hm
 refine aV.up g.rules.length (λi T _=>g.rules.take i=k.rules.take i/\T 2=.aJ (af g) 0/\T 3=.aJ (af k) 0/\T 7=gi i) ⟨by simp,t2,t3,rfl⟩ ?_
 clear t2 t3 t5 T H i m
 rintro i m T H hm ⟨hi,t2,t3,t5⟩
 simp(disch:=omega)only[↓wr,seval,wq,oJ,t2,t3,t5,af,encS]
 apply ai.dec<;>intro d
 .have a:=Uv (l:=g.rules) (i:=i) (by omega)
  have b:=Uv (l:=k.rules) (i:=i) (by omega)
  have j:g.rules[i]'(by omega)∈g.rules:=UC _
  generalize g.rules[i]'(by omega)=x at a j
  generalize k.rules[i]'(by omega)=y at b
  have q:=(o.ax x j).2.2.1
  simp(disch:=omega)only[↓wr,seval,wq,t2,t3,t5,Uy,a,b,aI,encI,af,encS]
  intro n D
  try simp(disch:=omega)only[↓wr,seval,wq,t2,t3,t5,aI,encI]
  intro E r
  have c:=(bU r bR).1
  try simp(disch:=omega)only[↓wr,seval,wq,t2,t3,t5,aI,encI,c,c.symm]
  have f:x≠y->V.val (Value.bool false)=V.val (Value.bool (decide (g.au=k.au) && (decide (g.aj=k.aj) && (decide (g.rules=k.rules) && decide (g.start=k.start))))):=λe=>by
   rw[decide_eq_false (p:=g.rules=k.rules) (vP a b e)];simp
  repeat' (first | ((first|apply ai.dec|apply ai.eq|apply ai.ne|apply ai.split)<;>intro)|(refine aw.pure (Iz x.right y.right q) ?_)|(simp(disch:=omega)only[↓wr,seval,wq,t2,t3,t5,aI,encI,c,c.symm]))
  .rename_i e;exact f λh=>e (by rw[h])
  .rename_i e;exact f λh=>e (by rw[h])
  .rename_i u t s
   refine aD hm (by omega) ⟨pH a b hi ?_,t2,t3,rfl⟩
   cases x;cases y
   simp_all
  .rename_i e;exact f λh=>by rw[h] at e;simp at e
 .have u:g.rules=k.rules:=sF (by omega) (by omega) hi
  simp(disch:=omega)only[↓wr,seval,wq,t2,t3,t5]
  simp[s,t,u,z]
end Gv
