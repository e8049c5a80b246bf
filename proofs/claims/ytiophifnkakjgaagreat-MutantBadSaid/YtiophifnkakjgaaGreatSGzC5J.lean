/-
  Part 10 of the proof: what the machine does and what the functions answer.
  Conditions: those that each lemma names.
-/
import Derived.Test.YtiophifnkakjgaaGreatSGzC5I
set_option linter.unusedSimpArgs false
set_option linter.unusedVariables false
set_option maxRecDepth 100000
set_option maxHeartbeats 20000000
namespace Gv
open Go Go.Proofs
def v8:SC:=
 ai [ag [aS 44 .lss 43 42],bQ 44 (.exit 0),.block 1 (ai [ag [af 45 43,aK 46 3 41 43,aU 47 3 46,((some 11),.op (.alloc [(.val (.int .i64 0)),(.emp 1),(.val (.int .i64 0))])),af 10 45,cz 3 11 47],ai [.region false [⟨none,[af 48 6,aw 49 0 11,au 50 49,aK 51 1 48 50,au 52 51,cX 53 52,af 54 53]⟩,⟨(some (54,false)),[aU 55 3 11,af 56 5,aV 57 164 [55,56],cX 58 57]⟩,⟨none,[cG 59 54 58]⟩],aX 59 (.exit 1)],ag [af 60 7,af 61 10,((some 62),.op (.bO 1 1 [(.val (.int .i64 0))] [(0,(.tmp 61))])),fP 63 1 8 60 62,af 7 63],ag [af 65 9,aw 66 0 11,au 67 66,((some 68),.op (.old (.lookup 265 (.tmp 65) (.tmp 67) true) 66)),af 64 68,du 69 0 64,du 70 1 64,af 12 69,af 13 70],ag [af 71 13,cX 72 71],aX 72 (ai [ag [af 73 9,aw 74 0 11,au 75 74,aw 76 1 8,au 77 76,aM 78 77,(none,.op (.old (.mapUpdate 265 (.tmp 73) (.tmp 75) (.tmp 78)) 0))],.region false [⟨none,[aw 79 1 8,au 80 79,aw 81 1 1,au 82 81,aw 83 0 11,au 84 83,aK 85 1 82 84,au 86 85,((some 87),.op (.bO 1 1 [(.val (.string ⟨#[]⟩))] [(0,(.tmp 86))])),fP 88 1 16 80 87,aw 89 1 8,cz 1 89 88]⟩]])]),ag [aH 90 .add 43 1,af 43 90]]
def wu:SC:=
 ai [ag [aS 116 .lss 115 114],bQ 116 (.exit 4),.block 5 (ai [ag [af 117 115,aK 118 1 113 115,au 119 118,af 18 117,af 19 119],ag [af 120 19,aH 121 .lss 120 0],aX 121 (ag [aw 122 1 17,au 123 122,af 124 18,af 125 9,af 126 19,((some 127),.op (.arith .sub (.val (.val (.int .i64 (-1)))) (.tmp 126))),((some 128),.op (.old (.lookup 265 (.tmp 125) (.tmp 127) false) 3)),((some 129),.op (.arith .sub (.val (.val (.int .i64 (-1)))) (.tmp 128))),aK 130 1 123 124,cz 1 130 129])]),ag [aH 131 .add 115 1,af 115 131]]
def xg:SC:=
 ai [ag [aS 94 .lss 93 92],bQ 94 (.exit 2),.block 3 (ai [ag [aK 95 1 91 93,au 96 95,af 15 96],ag [aw 97 2 1,au 98 97,af 99 15,aK 100 3 98 99,aU 101 3 100,((some 16),.op (.alloc [(.val (.int .i64 0)),(.emp 1),(.val (.int .i64 0))])),cz 3 16 101],.region true [⟨none,[af 102 9,aw 103 0 16,au 104 103,((some 105),.op (.old (.lookup 265 (.tmp 102) (.tmp 104) false) 3)),aw 106 1 16,au 107 106,aV 108 140 [107],aw 109 2 16,au 110 109,((some 111),.op (.build [(.val (.int .i64 0)),(.emp 1),(.val (.int .i64 0))] [(0,1,(.tmp 105)),(1,1,(.tmp 108)),(2,1,(.tmp 110))])),((some 17),.op (.alloc [(.val (.int .i64 0)),(.emp 1),(.val (.int .i64 0))])),cz 3 17 111]⟩],ai [ag [aw 112 1 17,au 113 112,aM 114 113,aT 115 0],bS 4 wu],ag [aw 132 2 8,au 133 132,aU 134 3 17,((some 135),.op (.bO 1 3 [(.val (.int .i64 0)),(.emp 1),(.val (.int .i64 0))] [(0,(.tmp 134))])),fP 136 3 40 133 135,aw 137 2 8,cz 1 137 136]]),ag [aH 138 .add 93 1,af 93 138]]
def As:SF:=⟨ai [ag [cg 1 0,((some 2),.op (.alloc [(.emp 1),(.emp 1),(.emp 1),(.val (.int .i64 0))])),bU 3 1,aT 4 0],ai [ag [aU 20 4 1,aV 21 89 [20],cX 22 21],aX 22 (ai [ag [((some 23),.op (.build [(.emp 1),(.emp 1),(.emp 1),(.val (.int .i64 0))] [])),cz 4 2 23,bU 3 1,aT 4 1],.ret])],.region true [⟨none,[aU 24 4 1,aV 25 161 [24],aU 26 4 1,aV 27 162 [26],af 5 25,af 6 27]⟩],ai [ag [af 28 5,aw 29 3 1,au 30 29,aK 31 1 28 30,au 32 31,cX 33 32],aX 33 (ai [ag [((some 34),.op (.build [(.emp 1),(.emp 1),(.emp 1),(.val (.int .i64 0))] [])),cz 4 2 34,bU 3 1,aT 4 9],.ret])],ag [bU 7 1],ag [aw 35 0 1,au 36 35,aV 37 163 [36],((some 38),.op (.build [(.emp 1),(.emp 1),(.emp 1),(.val (.int .i64 0))] [(0,1,(.tmp 37))])),((some 8),.op (.alloc [(.emp 1),(.emp 1),(.emp 1),(.val (.int .i64 0))])),cz 4 8 38],ag [((some 39),.op (.qW)),af 9 39],ai [ag [aw 40 2 1,au 41 40,aM 42 41,aT 43 0],bS 0 v8],ai [ag [af 91 7,aM 92 91,aT 93 0],bS 2 xg],ag [af 139 9,aw 140 3 1,au 141 140,((some 142),.op (.old (.lookup 265 (.tmp 139) (.tmp 141) false) 3)),aw 143 3 8,cz 1 143 142],ag [aU 144 4 8,af 145 7,cz 4 2 144,af 3 145,aT 4 0],.ret],
 [.cell 2 (some 4),.tmp 3,.tmp 4],146⟩
theorem Ep:aJ aa 92 [1]=some As:=by kernel_rfl
abbrev A8 (m:cH Int):List (V × V × Nat):=cO (Value.int .i64) m
def YI (g:aj) (p q:List Bool) (b2 b8 b9:Nat) (u0:V) (i:Nat) (T:Env) (H:View):Prop:=
 (∃u1 u3:V,T 7=u3/\(∀x∈cY p q (g.rules.take i),0<=x/\x<g.av.length)/\(cY p q (g.rules.take i)).length<=i /\
  bw H [(.sl b8 0 1 4,4,[[u0,u1,.emp 1,gi 0]]),(u3,1,aR (dA p q (g.rules.take i) 0)),
   (u1,1,l8 ((cY p q (g.rules.take i)).map λx=>g.av.getD x.toNat ⟨#[]⟩)),(u0,3,g.ax.map dd),(.sl b2 0 1 4,4,[[.emp 1,.emp 1,.emp 1,gi 0]])] /\
  ∃m c,H b9=.map (A8 m) c/\qn gi (lu (cY p q (g.rules.take i)) 0) m) /\
 T 1=.aP (ak g) 0/\T 2=.ptr b2 0 0/\T 5=bX p/\T 6=bX q/\T 8=.ptr b8 0 0/\T 9=.mp b9/\T 41=.aZ (g.rules.map aO)/\T 42=gi g.rules.length/\T 43=gi i
theorem HA {α:Type} {x s:α}:∀ {a d:List α} {k:Nat},a.length=k->(a++s::d).set k x=a++x::d
 | [],d,k,h=>by simp at h;subst h;rfl
 | y::a,d,k,h=>by
  cases k with
  | zero=>simp at h
  | succ k=>simp only[abl,List.set_cons_succ];rw[HA (by simpa using h)]
def ZI (g:aj) (p q:List Bool) (b2 b8 b9:Nat) (u0 u1 u3:V) (o kl:List Int) (mm:cH Int) (cc:Nat) (i:Nat) (T:Env) (H:View):Prop:=
 (∃(u2:V) (bs:CV),bs.map (·.2)=((g.rules.filter (dE p q)).take i).map (cQ (eU o)) /\
  bw H ((.sl b8 0 1 4,4,[[u0,u1,u2,gi 0]])::(u3,1,aR kl) ::
   (u1,1,l8 (o.map λx=>g.av.getD x.toNat ⟨#[]⟩))::(u0,3,g.ax.map dd)::(u2,3,iR bs)::(.sl b2 0 1 4,4,[[.emp 1,.emp 1,.emp 1,gi 0]])::nX bs) /\
  H b9=.map (A8 mm) cc) /\
 T 1=.aP (ak g) 0/\T 2=.ptr b2 0 0/\T 7=u3/\T 8=.ptr b8 0 0/\T 9=.mp b9/\T 91=u3/\T 92=gi kl.length/\T 93=gi i
def Z4 (g:aj) (b2 b8 b9 b16 b17:Nat) (u3 v:V) (o kl:List Int) (mm:cH Int) (cc:Nat) (r:bc) (L:List ew) (i k:Nat) (T:Env) (H:View):Prop:=
 bw H ((.sl b17 0 1 3,3,[[gi (eU o r.left),v,gi r.prec]])::(v,1,aR ((cQ (eU o) r).right.take k++r.right.drop k))::(.sl b16 0 1 3,3,[aO r])::L) /\
 H b9=.map (A8 mm) cc/\T 1=.aP (ak g) 0/\T 2=.ptr b2 0 0/\T 7=u3/\T 8=.ptr b8 0 0/\T 9=.mp b9/\T 91=u3/\T 92=gi kl.length/\T 93=gi i/\T 17=.ptr b17 0 0/\T 113=v/\T 114=gi r.right.length/\T 115=gi k
theorem Mt (g:aj) (hg:g.Ok) (hs:g.Small):cd aa 92 [.agg (ak g)] (Af (if bt g=true then
  if (bj g true).getD g.start.toNat false=true then (zY g (eU (cY (bj g true) (cR g) g.rules)) (bj g true) (cR g),dA (bj g true) (cR g) g.rules 0,0)
  else (u7,[],9)
 else (u7,[],1))):=by
 refine cd.of (dR g) ?_
 refine az.of mixed Ep ?_
 simp(disch:=omega)only[↓wr,seval,wq,As,ak,encS]
 intro Q
 try simp(disch:=omega)only[↓wr,seval,wq,ak,encS]
 refine ay.pure (pk g hg hs.names) ?_
 repeat' (first | ((first|apply ao.dec|apply ao.eq|apply ao.ne|apply ao.split)<;>intro)|(simp(disch:=omega)only[↓wr,seval,wq,set_set]))
 .rename_i hr
  rw[aaL hr]
  refine ay.pure (yS g hg hs).pure ?_
  simp(disch:=omega)only[↓wr,seval,wq]
  refine ay.pure (Jj g hg hs).pure ?_
  have hf:=bF hr
  have h3:=hf.lE
  have h4:=hf.start
  have c4:=jj hr true
  have fs:=sn hr
  generalize bj g true=p at c4 ⊢
  generalize cR g=q at fs ⊢
  have cf:p[g.start.toNat]?=some (p[g.start.toNat]'(by omega)):=aaH (by omega)
  have da:p.getD g.start.toNat false=p[g.start.toNat]'(by omega):=by simp[cf]
  generalize p[g.start.toNat]'(by omega)=s at cf da
  rw[da]
  simp(disch:=omega)only[↓wr,seval,wq,bX,aaJ,cf]
  cases s with
  | false =>
   simp(disch:=omega)only[↓wr,seval,wq,set_set]
   rintro h' hh
   exact zD
  | true =>
   simp(disch:=omega)only[↓wr,seval,wq]
   have hN:=hf.av
   have hI:=hf.lg
   have hT:=hf.ax
   have hR:=hf.rules
   refine ay.cw ((Ue g.ax (by omega) _).mono ?_)
   rintro B H1 ⟨ft,K⟩
   have aq:=(bw.nil.new (H:=λ_=>cr.dead) (n:=Q) rfl 4 [[.emp 1,.emp 1,.emp 1,gi 0]]).G3 ft K
   have c0:=aq.head.cells
   have k0:=aq.head.dU
   simp(disch:=omega)only[↓wr,seval,wq,c0,k0]
   intro O db
   have dc:=aq.new db 4 [[B,.emp 1,.emp 1,gi 0]]
   try simp(disch:=omega)only[↓wr,seval,wq,ak,encS,c0,k0,set_set]
   intro d R
   have b5:=(cn R cx).1
   have R:=(cn (cn R cx).2 cx).2
   have f:=(((dc.fresh (n:=d) (o:=.map [] 0) (by simp only[View.set,aaI b5];exact R)).emp (k:=1) (sz:=1)).emp (k:=1) (sz:=1)).perm Ma.symm
   try simp(disch:=omega)only[↓wr,seval,wq,ak,encS,c0,k0,set_set]
   refine aW.up g.rules.length (YI g p q Q O d B) ?_ ?_
   .refine⟨⟨.emp 1,.emp 1,rfl,by simp[cY],by simp[cY],by rw[set_set];exact f,[],0,by simp[View.set,cO],trivial⟩,rfl,rfl,rfl,rfl,rfl,rfl,rfl,rfl,rfl⟩
   clear aq dc f db R b5
   rintro i k T H2 hk ⟨⟨G,u3,t7,ar,ch,A,mm,C,j,D⟩,t1,t2,t5,t6,t8,t9,t41,t42,t43⟩
   simp(disch:=omega)only[↓wr,seval,wq,v8,t42,t43]
   apply ao.dec<;>intro hc
   .have E:g.rules[i]?=some (g.rules[i]'(by omega)):=aaH (by omega)
    have l:g.rules[i]'(by omega)∈g.rules:=aaP _
    have w:g.rules.take (i+1)=g.rules.take i++[g.rules[i]'(by omega)]:=by rw[aa2,E];rfl
    generalize g.rules[i]'(by omega)=r at E l w
    obtain⟨fv,dj,dm,fx,bd⟩:=hf.pX hg l
    have cj:q[r.left.toNat]?=some (q[r.left.toNat]'(by omega)):=aaH (by omega)
    have bl:q.getD r.left.toNat false=q[r.left.toNat]'(by omega):=by simp[cj]
    generalize q[r.left.toNat]'(by omega)=qs at cj bl
    simp(disch:=omega)only[↓wr,seval,wq,t6,t41,t43,aO,encI,aaJ,E]
    intro bn S
    have F:=A.new S 3 [aO r]
    have b7:d≠bn:=by rintro rfl;rw[j] at S;simp at S
    try simp(disch:=omega)only[↓wr,seval,wq,bX,aaJ,cj]
    have U:∀(P:Env) (H':View),dE p q r=false->H'=H2.set bn (.arr 3 [aO r])->P 7=u3->P 1=.aP (ak g) 0->P 2=.ptr Q 0 0->P 5=bX p->P 6=bX q->P 8=.ptr O 0 0->P 9=.mp d->P 41=.aZ (g.rules.map aO)->P 42=gi g.rules.length->P 43=gi ((i:Int)+1) ->
      ∃k',k'<k/\EW g.rules.length k' (YI g p q Q O d B) P H':=by
     intro P H' W ds a7 a1 a2 a5 a6 a8 a9 a41 fy fz
     have M:cY p q (g.rules.take (i+1))=cY p q (g.rules.take i):=by rw[w,wb,aaI (by simp[W])]
     have e2:dA p q (g.rules.take (i+1)) 0=dA p q (g.rules.take i) 0:=by rw[w,mH];simp[dA,W]
     refine aE hk (by omega) ⟨⟨G,u3,a7,by rw[M];exact ar,by rw[M];omega,by rw[M,e2,ds];exact F.tail,mm,C,by rw[ds];simp[View.set,b7,j],by rw[M];exact D⟩,a1,a2,a5,a6,a8,a9,a41,fy,by rw[fz];rfl⟩
    cases qs with
    | false =>
     simp(disch:=omega)only[↓wr,seval,wq,t2,t7,t43]
     refine U _ _ (by rw[dE,bl];rfl) ?_ ?_ ?_ ?_ ?_ ?_ ?_ ?_ ?_ ?_ ?_
     all_goals first | exact t7 | exact t1 | exact t2 | exact t5 | exact t6 | exact t8 | exact t9 | exact t41 | exact t42 | rfl | (rw[set_set];rfl)
    | true =>
     simp(disch:=omega)only[↓wr,seval,wq,t5,bX]
     refine ay.pure (wC r p (hg.aB r l).2.2.1 (λs dv=>⟨(bd s dv).1,λh=>by rw[c4];exact(bd s dv).2 h⟩)) ?_
     simp(disch:=omega)only[↓wr,seval,wq]
     apply ao.split<;>intro ck
     .simp(disch:=omega)only[↓wr,seval,wq,t7]
      have W:dE p q r=true:=by rw[dE,bl,ck];rfl
      intro m hm
      try simp(disch:=omega)only[↓wr,seval,wq,bE]
      have ea:=(cn hm cx).1
      have hm:=(cn (cn hm cx).2 cx).2
      have e:=(F.fresh (n:=m) (o:=.arr 1 [[gi i]]) (by simp only[View.set,aaI ea];exact hm)).at 2 (by simp)
      have cA:d≠m:=by rintro rfl;rw[j] at hm;simp at hm
      have eb:(dA p q (g.rules.take i) 0).length<=40:=by
       rw[mo]
       have h1:=aco (dE p q) (g.rules.take i)
       have h2:(g.rules.take i).length<=i:=List.length_take_le _ _
       omega
      refine dC (by rw[set_set];exact e) (by simp[aL]) (by unfold aF;simp at eb ⊢;omega) (by unfold aF;simp at eb ⊢;omega) ?_
      intro cC H3 f t
      have f11:=f.is 1 rfl (by simp)
      have f8:=f.is 2 rfl (by simp)
      have br:Left ((H2.set bn (.arr 3 [aO r])).set m (.arr 1 [[gi i]])) H3 u3 cC:=by rw[set_set] at t;exact t
      have f9:H3 d=.map (A8 mm) C:=br.map (b:=d) e.head (by simp[View.set,b7,cA,j])
      have ga:cE G=some (l8 ((cY p q (g.rules.take i)).map λx=>g.av.getD x.toNat ⟨#[]⟩)).length:=(f.own 3 rfl).len
      simp only[aO,encI] at f11
      have e2:dA p q (g.rules.take (i+1)) 0=dA p q (g.rules.take i) 0++[(i:Int)]:=by
       rw[w,mH];simp[dA,W,show i<=g.rules.length by omega]
      have M:cY p q (g.rules.take (i+1))=mA (cY p q (g.rules.take i)) r:=by rw[w,wb,aaL W]
      generalize cY p q (g.rules.take i)=o at *
      generalize dA p q (g.rules.take i) 0=kl at *
      simp(disch:=omega)only[↓wr,seval,wq,t9,f11]
      refine WC (kt:=3) (et:=3) (z:=gi 0) (by kernel_rfl) (by kernel_rfl) (mG .i64 Tryz.underlying3) (id:=d) (c:=C) (m:=mm) (k:=r.left) (by simp(disch:=omega)only[↓wr,seval]) (by simp(disch:=omega)only[↓wr,seval]) f9 ?_
      rw[D.get,wQ]
      have gd:o.length<=40:=by omega
      by_cases hx:r.left∈o
      .have u:mA o r=o:=by rw[mA,aaL hx]
       rw[aaL hx]
       simp(disch:=omega)only[↓wr,seval,wq,t2,t43,Option.isSome_some]
       have gk:=(((f.at 1 (by simp)).tail).perm (.swap _ _ _))
       refine aE hk (by omega) ⟨⟨G,cC,rfl,by rw[M,u];exact ar,by rw[M,u];omega,?_,mm,C,f9,by rw[M,u];exact D⟩,t1,t2,t5,t6,t8,t9,t41,t42,rfl⟩
       rw[M,u,e2]
       simp only[aa8,aba,acg]
       exact gk
      .have u:mA o r=o++[r.left]:=by rw[mA,aaI hx]
       rw[aaI hx]
       have cI:g.av[r.left.toNat]?=some (g.av[r.left.toNat]'(by omega)):=aaH (by omega)
       have ca:g.av.getD r.left.toNat ⟨#[]⟩=g.av[r.left.toNat]'(by omega):=by simp[cI]
       generalize g.av[r.left.toNat]'(by omega)=nm at cI ca
       simp(disch:=omega)only[↓wr,seval,wq,t8,t9,Option.isSome_none,f11,f8,ga]
       refine yE (kt:=3) (et:=3) (by kernel_rfl) (mG .i64 Tryz.underlying3) (id:=d) (c:=C) (m:=mm) (k:=r.left) (v:=gi o.length) (by simp(disch:=omega)only[↓wr,seval]) (by simp(disch:=omega)only[↓wr,seval]) (by simp(disch:=omega)only[↓wr,seval]) f9 ?_
       intro c'
       have ee:O≠d:=EZ f 2 rfl f9
       have n119:bn≠d:=EZ f 1 rfl f9
       simp(disch:=omega)only[↓wr,seval,wq,t1,t8,f11,f8,ee,n119,ak,encS,aaJ,cI]
       intro m2 N
       have cb:=(cn N (by simp)).1
       have N:=(cn N (by simp)).2
       have ef:=((f.E0 f9 (o:=.map (A8 (bN r.left (gi o.length) C mm)) c')).fresh (n:=m2) (o:=.arr 1 [[gs nm]]) (by simp only[View.set,aaI cb];exact N)).at 3 (by simp)
       try simp(disch:=omega)only[↓wr,seval,wq,bE]
       refine dC ef (by simp[aL]) (by unfold aF;simp;omega) (by unfold aF;simp;omega) ?_
       intro eg H5 bx b0
       have c1:=bx.head.cells
       have k1:=bx.head.dU
       have cN:=bx.is 3 rfl (by simp)
       have gr:=b0.map (b:=d) (es:=A8 (bN r.left (gi o.length) C mm)) (c:=c') ef.head (by simp[View.set,Ne.symm cb])
       have ei:d≠O:=ee.symm
       simp(disch:=omega)only[↓wr,seval,wq,t2,t8,t43,cN,c1,k1]
       have ha:=(bx.at 3 (by simp)).put (es':=[[B,eg,.emp 1,gi 0]]) rfl rfl
       have hb:=(((ha.at 3 (by simp)).tail).perm (.cons _ (.swap _ _ _)))
       refine aE hk (by omega) ⟨⟨eg,cC,rfl,?_,?_,?_,_,c',(by simp only[View.set,aaI ei];exact gr),?_⟩,t1,t2,t5,t6,t8,t9,t41,t42,rfl⟩
       .rw[M,u];intro x hd;rcases aa0.1 hd with h | h
        .exact ar x h
        .simp at h;subst h;exact⟨dj,dm⟩
       .rw[M,u];simp;omega
       .rw[M,u,e2]
        simp only[aa8,aba,acg,ca]
        exact hb
       .rw[M,u,Ez,Int.zero_add,<-Ih hx]
        exact D.put r.left (o.length:Int) C
     .simp(disch:=omega)only[↓wr,seval,wq,t2,t7,t43]
      refine U _ _ (by rw[dE,bl,ck];rfl) ?_ ?_ ?_ ?_ ?_ ?_ ?_ ?_ ?_ ?_ ?_
      all_goals first | exact t7 | exact t1 | exact t2 | exact t5 | exact t6 | exact t8 | exact t9 | exact t41 | exact t42 | rfl | (rw[set_set];rfl)
   .rw[aaY (by omega)] at A ar ch D
    have hj:(dA p q g.rules 0).length<=40:=by
     rw[mo];have h1:=aco (dE p q) g.rules;omega
    have hl:=wT p q g.rules 0
    have hG:=mo p q g.rules 0
    have ej:zY g (eU (cY p q g.rules)) p q=⟨g.ax,(cY p q g.rules).map λx=>g.av.getD x.toNat ⟨#[]⟩,(g.rules.filter (dE p q)).map (cQ (eU (cY p q g.rules))),eU (cY p q g.rules) g.start⟩:=rfl
    rw[ej]
    clear ej
    generalize cY p q g.rules=o at *
    generalize dA p q g.rules 0=kl at *
    have gd:o.length<=40:=by omega
    have hn:cE u3=some (aR kl).length:=(A.own 1 rfl).len
    simp(disch:=omega)only[↓wr,seval,wq,t2,t7,hn]
    refine aW.up kl.length (ZI g p q Q O d B G u3 o kl mm C) ?_ ?_
    .refine⟨⟨.emp 1,[],by simp,?_,j⟩,t1,t2,t7,t8,t9,t7,rfl,rfl⟩
     exact(A.emp (k:=1) (sz:=3)).perm (uX [(.sl O 0 1 4,4,[[B,G,.emp 1,gi 0]]),(u3,1,aR kl),(G,1,l8 (o.map λx=>g.av.getD x.toNat ⟨#[]⟩)),(B,3,g.ax.map dd),(.emp 1,3,[]),(.sl Q 0 1 4,4,[[.emp 1,.emp 1,.emp 1,gi 0]])] 4 (by simp)).symm
    clear A j t1 t2 t5 t6 t7 t8 t9 t41 t42 t43
    rintro i k T H2 hk ⟨⟨u2,bs,b1,A,j⟩,t1,t2,t7,t8,t9,t91,t92,t93⟩
    simp(disch:=omega)only[↓wr,seval,wq,xg,t92,t93]
    apply ao.dec<;>intro hc
    .obtain⟨n3,e3,hq⟩:=(A.own 1 rfl).sl (by simp;omega)
     rw[aaM] at e3
     subst e3
     obtain⟨m,cS,N,X⟩:=hl i (by omega)
     have ek:=mN (show i<kl.length by omega)
     rw[Int.zero_add] at cS
     have ht:kl[i]'(by omega)=(m:Int):=by
      rw[aaH (show i<kl.length by omega)] at cS;simpa using cS
     rw[ht] at ek
     have E:g.rules[m]?=some (g.rules[m]'X):=aaH X
     have l:g.rules[m]'X∈g.rules:=aaP _
     have w:(g.rules.filter (dE p q)).take (i+1)=(g.rules.filter (dE p q)).take i++[g.rules[m]'X]:=by
      rw[aa2,<-N,E];rfl
     generalize g.rules[m]'X=r at E l w
     obtain⟨fv,dj,dm,fx,bd⟩:=hf.pX hg l
     simp(disch:=omega)only[↓wr,seval,wq,t1,t9,t91,t93,hq,ek,ak,aO,encI,aaJ,E]
     refine⟨by omega,by omega,?_⟩
     intro cV I
     have F:=A.new I 3 [aO r]
     have Y:d≠cV:=by rintro rfl;rw[j] at I;simp at I
     try simp(disch:=omega)only[↓wr,seval,wq,t1,t2,t7,t8,t9,t91,t92,t93,set_set]
     refine CO (kt:=3) (et:=3) (z:=gi 0) (by kernel_rfl) (by kernel_rfl) (mG .i64 Tryz.underlying3) (id:=d) (c:=C) (m:=mm) (k:=r.left) (by simp(disch:=omega)only[↓wr,seval]) (by simp(disch:=omega)only[↓wr,seval]) (by simp[View.set,Y,j]) ?_
     have b3:∀x,(getM mm x).getD (gi 0)=gi (eU o x):=λx=>by
      rw[D.get,eU];cases fh (lu o 0) x<;>rfl
     rw[b3]
     simp(disch:=omega)only[↓wr,seval,wq]
     refine ay.Hs (Ic r.right (by omega) _) ?_
     intro v H3 hv K
     have e:=bw.G3 (H:=H2.set cV (.arr 3 [aO r])) F hv (by rw[set_set] at K;exact K)
     have c3:H3 d=.map (A8 mm) C:=by
      rw[(K d (by simp[View.set,Y,j])).1];simp[View.set,Y,j]
     have cv:=hv.cells
     have kv:=hv.dU
     have lv:=hv.len
     have f16:=e.is 1 rfl (by simp)
     simp only[aO,encI] at f16
     simp(disch:=omega)only[↓wr,seval,wq,f16,cv,kv]
     intro eH J
     have a:=e.new J 3 [[gi (eU o r.left),v,gi r.prec]]
     have e0:d≠eH:=by rintro rfl;rw[c3] at J;simp at J
     try simp(disch:=omega)only[↓wr,seval,wq,lv]
     generalize hL:((V.sl O 0 1 4,4,[[B,G,u2,gi 0]])::(V.sl n3 0 kl.length 1,1,aR kl) ::
       (G,1,l8 (o.map λx=>g.av.getD x.toNat ⟨#[]⟩))::(B,3,g.ax.map dd)::(u2,3,iR bs)::(V.sl Q 0 1 4,4,[[V.emp 1,V.emp 1,V.emp 1,gi 0]])::nX bs:List ew)=L at a
     refine aW.up r.right.length (Z4 g Q O d cV eH (.sl n3 0 kl.length 1) v o kl mm C r L i) ?_ ?_
     .exact⟨by rw[set_set];exact a,by simp[View.set,e0,c3],t1,t2,t7,t8,t9,t91,t92,t93,rfl,rfl,rfl,rfl⟩
     clear F e a I J j c3 f16 hv K t1 t2 t7 t8 t9 t91 t92 t93
     rintro k k2 T H3 e4 ⟨a,j,t1,t2,t7,t8,t9,t91,t92,t93,t17,t113,t114,t115⟩
     have f17:=a.is 0 rfl (by simp)
     simp(disch:=omega)only[↓wr,seval,wq,wu,t114,t115]
     apply ao.dec<;>intro hz
     .have e5:r.right[k]?=some (r.right[k]'(by omega)):=aaH (by omega)
      have e6:r.right[k]'(by omega)∈r.right:=aaP _
      have hA:(cQ (eU o) r).right.length=r.right.length:=by simp[cQ]
      have Z:(cQ (eU o) r).right.take (k+1)=(cQ (eU o) r).right.take k++[if r.right[k]'(by omega)<0 then -1-eU o (-1-r.right[k]'(by omega)) else r.right[k]'(by omega)]:=by
       rw[aa2];simp[cQ,e5]
      have e7:=eL (show k<r.right.length by omega)
      generalize r.right[k]'(by omega)=s at e5 e6 Z e7
      obtain⟨⟨s1,s2⟩,s3⟩:=bd s e6
      have hJ:=Xw o (-1-s)
      rw[e7] at a
      have hlen:(((cQ (eU o) r).right.take k++s::r.right.drop (k+1)).map λx=>[gi x]).length=r.right.length:=by simp;omega
      obtain⟨nv,ev,e8⟩:=(a.own 1 rfl).sl (by rw[hlen];omega)
      rw[hlen] at ev
      subst ev
      have b4:k<((cQ (eU o) r).right.take k++s::r.right.drop (k+1)).length:=by simp;omega
      have ab:=mN b4
      have hB:((cQ (eU o) r).right.take k++s::r.right.drop (k+1))[k]'b4=s:=by
       rw[List.getElem_append_right (by simp;omega)]
       simp[show k-min k r.right.length=0 by omega,hA]
      rw[hB] at ab
      simp(disch:=omega)only[↓wr,seval,wq,t113,t115,e8,ab]
      refine⟨by omega,b4,?_⟩
      have e9:((cQ (eU o) r).right.take k).length=k:=by rw[abL];omega
      have hC:nv≠d:=EZ a 1 rfl j
      apply ao.dec<;>intro ae
      .rw[aaL ae] at Z
       simp(disch:=omega)only[↓wr,seval,wq,t9,t17,f17]
       refine CO (kt:=3) (et:=3) (z:=gi 0) (by kernel_rfl) (by kernel_rfl) (mG .i64 Tryz.underlying3) (id:=d) (c:=C) (m:=mm) (k:=-1-s) (by simp(disch:=omega)only[↓wr,seval]) (by simp(disch:=omega)only[↓wr,seval]) j ?_
       rw[b3]
       simp(disch:=omega)only[↓wr,seval,wq,t1,t2,t8,t93,t115,e8,ab]
       refine⟨by omega,b4,?_⟩
       have al:=((a.at 1 (by simp)).put (es':=((((cQ (eU o) r).right.take k++s::r.right.drop (k+1)).map λx=>[gi x]).set k [gi (-1-eU o (-1-s))])) (by simp) (by rw[hlen])).perm (.swap _ _ _)
       refine aE e4 (by omega) ⟨?_,by simp only[View.set,aaI hC.symm];exact j,t1,t2,t7,t8,t9,t91,t92,t93,t17,t113,t114,rfl⟩
       rw[ints_set,HA e9] at al
       rw[Z,abM]
       rw[ints_set,HA e9]
       exact al
      .rw[aaI ae] at Z
       simp(disch:=omega)only[↓wr,seval,wq,t1,t2,t8,t93,t115]
       refine aE e4 (by omega) ⟨?_,j,t1,t2,t7,t8,t9,t91,t92,t93,t17,t113,t114,rfl⟩
       rw[Z,abM]
       exact a
     .rw[aaY (by simp[cQ];omega),aa7 (by omega),abo] at a
      subst hL
      have f8:=a.is 3 rfl (by simp)
      have cv:=(a.own 1 rfl).cells
      have kv:=(a.own 1 rfl).dU
      have fb:(iR bs).length<=40:=by
       have h1:=abQ List.length b1
       simp only[aaM,abL] at h1
       simp only[iR,aaM]
       omega
      simp(disch:=omega)only[↓wr,seval,wq,t1,t2,t8,t93,t17,f8,f17,kv]
      intro m hm
      have cA:d≠m:=by rintro rfl;rw[j] at hm;simp at hm
      try simp(disch:=omega)only[↓wr,seval,wq,bE]
      have al:=(a.fresh (o:=.arr 3 [[gi (eU o r.left),v,gi r.prec]]) hm).at 7 (by simp)
      refine dC al (by simp[Cx,kv]) (by unfold aF;simp at fb ⊢;omega) (by unfold aF;simp at fb ⊢;omega) ?_
      intro ff H4 an t
      have cu:=an.head.cells
      have ku:=an.head.dU
      have cN:=an.is 4 rfl (by simp)
      have fl:H4 d=.map (A8 mm) C:=t.map (b:=d) al.head (by simp[View.set,cA,j])
      have hD:d≠O:=(EZ an 4 rfl fl).symm
      simp(disch:=omega)only[↓wr,seval,wq,t1,t2,t8,t93,cN,cu,ku]
      have hE:=(an.at 4 (by simp)).put (es':=[[B,G,ff,gi 0]]) rfl rfl
      have hF:=((((hE.at 2 (by simp)).tail).at 3 (by simp)).tail)
      refine aE hk (by omega) ⟨⟨ff,bs++[(v,cQ (eU o) r)],?_,?_,by simp only[View.set,aaI hD];exact fl⟩,t1,t2,t7,t8,t9,t91,t92,rfl⟩
      .rw[aa8,b1,w,aa8];rfl
      .refine hF.perm (.cons _ ?_)
       simp only[nX,iR,aa8,aba,acg]
       refine .trans ?_ (uX _ 3 (by simp)).symm
       refine .cons _ ?_
       exact(List.perm_append_singleton (v,1,aR (cQ (eU o) r).right) ((.sl n3 0 kl.length 1,1,aR kl)::(G,1,l8 (o.map λx=>g.av.getD x.toNat ⟨#[]⟩))::(B,3,g.ax.map dd)::(.sl Q 0 1 4,4,[[.emp 1,.emp 1,.emp 1,gi 0]])::nX bs)).symm
    .rw[aaY (by omega)] at b1
     have f8:=A.is 0 rfl (by simp)
     have f2:=A.is 5 rfl (by simp)
     have fm:O≠Q:=A.Ng 0 5 rfl rfl (by omega)
     have c1:=(A.own 2 rfl).cells
     have k1:=(A.own 2 rfl).dU
     have c2:=(A.own 4 rfl).cells
     have k2:=(A.own 4 rfl).dU
     have b3:∀x,(getM mm x).getD (gi 0)=gi (eU o x):=λx=>by
      rw[D.get,eU];cases fh (lu o 0) x<;>rfl
     simp(disch:=omega)only[↓wr,seval,wq,t1,t2,ak]
     refine CO (kt:=3) (et:=3) (z:=gi 0) (by kernel_rfl) (by kernel_rfl) (mG .i64 Tryz.underlying3) (id:=d) (c:=C) (m:=mm) (k:=g.start) (by simp(disch:=omega)only[↓wr,seval,t9]) (by simp(disch:=omega)only[↓wr,seval]) j ?_
     rw[b3]
     simp(disch:=omega)only[↓wr,seval,wq,t2,t7,t8,f8,f2,fm.symm,k0,k1,k2]
     intro h' hh
     have F:=A.put (es':=[[B,G,u2,gi (eU o g.start)]]) rfl rfl
     have e:=(F.at 5 (by simp)).put (es':=[[B,G,u2,gi (eU o g.start)]]) rfl rfl
     have hv:h'.view=(H2.set O (.arr 4 [[B,G,u2,gi (eU o g.start)]])).set Q (.arr 4 [[B,G,u2,gi (eU o g.start)]]):=hh
     rw[<-hv] at e
     exact OH (x:=(⟨g.ax,o.map λx=>g.av.getD x.toNat ⟨#[]⟩,(g.rules.filter (dE p q)).map (cQ (eU o)),eU o g.start⟩,kl,0)) (b:=bs) (e.own 4 rfl) (e.own 3 rfl) (e.own 5 rfl) (λy hy=>e.1 y (by
      refine aa6 _ (aa6 _ (aa6 _ (aa6 _ (aa6 _ (aa6 _ ?_)))))
      exact hy)) b1 (e.own 2 rfl)
 .rename_i hr
  intro h' hh
  rw[aaI (by simp[hr])]
  exact zD
theorem OD {l:List Int} {a b:List Bool} {t:Bool} (h:iK a b) (k:fq l a t=true):fq l b t=true:=by
 simp only[fq,abc] at k ⊢
 intro s d
 have:=k s d
 by_cases c:0<=s
 .rw[aaL c] at this ⊢;exact this
 .rw[aaI c] at this ⊢;exact h.2 _ this
theorem iK.Wi {a b:List Bool} (h:iK a b) (k:iK b a):a=b:=by
 have h1:=h.dg
 have c:=k.dg
 exact h1.2 (by omega)
def qi (g:aj) (t:Bool) (is:List Bool):Prop:=∀i,is.getD i false=true->∃r∈g.rules,r.left.toNat=i/\fq r.right is t=true
theorem qi.step {g:aj} {t:Bool} {is:List Bool} {r:bc} (h:qi g t is) (hr:r∈g.rules):qi g t (fk t is r):=by
 have hle:iK is (fk t is r):=by
  unfold fk
  split
  .exact .set _ _
  .exact .refl _
 intro i hi
 by_cases e:is.getD i false=true
 .obtain⟨c,h1,d,f⟩:=h i e
  exact⟨c,h1,d,OD hle f⟩
 .unfold fk at hi
  by_cases a:fq r.right is t=true
  .rw[aaL a] at hi
   have:r.left.toNat=i:=by
    refine acb λb=>e ?_
    simp only[aaG,abw,aaI b] at hi ⊢
    exact hi
   exact⟨r,hr,this,OD hle a⟩
  .rw[aaI a] at hi;exact absurd hi e
theorem qi.fold {g:aj} {t:Bool}:∀(l:List bc) (is:List Bool),(∀r∈l,r∈g.rules)->qi g t is->qi g t (l.foldl (fk t) is)
 | [],is,_,h=>h
 | r::l,is,a,h=>qi.fold l _ (λx b=>a x (by simp[b])) (h.step (a r (by simp)))
theorem qi.iter {g:aj} {t:Bool}:∀(n:Nat) (is:List Bool),qi g t is->qi g t (iter (lP g t) n is)
 | 0,_,h=>h
 | n+1,is,h=>qi.iter n _ (qi.fold g.rules is (λ_ h=>h) h)
theorem Qm (g:aj) (t:Bool):qi g t (bj g t):=by
 unfold bj
 split
 .refine qi.iter _ _ ?_
  intro i hi
  simp only[cK,aaG,abA] at hi
  split at hi<;>simp at hi
 .intro i hi;simp at hi
theorem OQ (is:List Bool) (s:Int):iK is (mark is s):=by
 unfold mark
 split
 .exact .set _ _
 .exact .refl _
theorem DE:∀(l:List Int) (is:List Bool),iK is (l.foldl mark is)
 | [],is=>.refl _
 | s::l,is=>(OQ is s).trans (DE l _)
theorem K0 (p is:List Bool) (r:bc):iK is (jc p is r):=by
 unfold jc
 split
 .exact DE _ _
 .exact .refl _
theorem JY (p:List Bool):∀(l:List bc) (is:List Bool),iK is (l.foldl (jc p) is)
 | [],is=>.refl _
 | r::l,is=>(K0 p is r).trans (JY p l _)
theorem HS {p:List Bool}:∀ {l:List bc} {is:List Bool},l.foldl (jc p) is=is->∀r∈l,jc p is r=is
 | [],_,_,_,h=>by simp at h
 | r::l,is,h,x,a=>by
  rw[abr] at h
  have h1:=JY p l (jc p is r)
  rw[h] at h1
  have b:=(h1.Wi (K0 p is r))
  rcases aa1.1 a with rfl | a
  .exact b
  .rw[b] at h;exact HS h x a
theorem Ij:∀ {l:List Int} {is:List Bool},l.foldl mark is=is->∀s∈l,mark is s=is
 | [],_,_,_,h=>by simp at h
 | r::l,is,h,x,a=>by
  rw[abr] at h
  have h1:=DE l (mark is r)
  rw[h] at h1
  have b:=(h1.Wi (OQ is r))
  rcases aa1.1 a with rfl | a
  .exact b
  .rw[b] at h;exact Ij h x a
theorem IX {g:aj} (hr:bt g=true):s0 g (bj g true) (cR g)=cR g/\iK ((cK g).set g.start.toNat true) (cR g):=by
 have a:=bF hr
 have h:=xf (vE (bj g true)) g.rules 16 ((cK g).set g.start.toNat true) (by have:=a.av;simp[cK];omega)
 rw[M7,TZ hr] at h
 exact h
theorem MO {g:aj} (hr:bt g=true):(cR g).getD g.start.toNat false=true:=by
 have a:=bF hr
 refine(IX hr).2.2 _ ?_
 have b:=a.lE
 have c:=a.start
 simp only[aaG]
 rw[acA (by simp[cK];omega)]
 rfl
theorem P1 {g:aj} (hr:bt g=true) {r:bc} (hm:r∈g.rules) (hk:dE (bj g true) (cR g) r=true) {s:Int} (b:s∈r.right) (c:s<0):(cR g).getD (-1-s).toNat false=true:=by
 have d:=bF hr
 have h1:=HS (IX hr).1 r hm
 unfold jc at h1
 rw[dE] at hk
 rw[aaL hk] at h1
 have a:=Ij h1 s b
 unfold mark at a
 rw[aaL c] at a
 rw[<-a]
 have e:=sn hr
 have:=d.neg hm b c
 simp only[aaG]
 rw[acA (by omega)]
 rfl
theorem Sg {g:aj} (hr:bt g=true) {x:Int} (d:0<=x) (hp:(bj g true).getD x.toNat false=true) (a:(cR g).getD x.toNat false=true):x∈cY (bj g true) (cR g) g.rules:=by
 obtain⟨r,h1,e,b⟩:=Qm g true _ hp
 have c:=bF hr
 have f:=c.left r h1
 have:r.left=x:=by omega
 refine LG.2 ⟨r,h1,?_,this⟩
 rw[dE,this,a,b];rfl
theorem Pv (g:aj):(if bt g=true then
  if (bj g true).getD g.start.toNat false=true then (zY g (eU (cY (bj g true) (cR g) g.rules)) (bj g true) (cR g),dA (bj g true) (cR g) g.rules 0,0)
  else (u7,[],9)
 else (u7,[],1))=iO g:=by
 unfold iO
 by_cases hr:bt g=true
 .rw[aaL hr,aaL hr]
  by_cases hp:(bj g true).getD g.start.toNat false=true
  .rw[aaL hp,aaL hp]
   have c:=bF hr
   rw[R6]
   .exact Sg hr c.lE hp (MO hr)
   .intro r hm
    obtain⟨h1,a⟩:=abR.1 hm
    refine⟨LG.2 ⟨r,h1,a,rfl⟩,λs b d=>?_⟩
    refine Sg hr (by omega) ?_ (P1 hr h1 a b d)
    rw[dE,aaR] at a
    have:=a.2
    simp only[fq,abc] at this
    have:=this s b
    rwa [aaI (by omega)] at this
  .rw[aaI hp,aaI hp]
 .rw[aaI hr,aaI hr]
theorem PT (g:aj) (a:g.Ok) (b:g.Small):cd aa 92 [.agg (ak g)] (Af (iO g)):=by
 rw[<-Pv];exact Mt g a b
def b6 (g:aj) (k:Int):bc:=g.rules.getD k.toNat ⟨0,[],0⟩
theorem getD_some {α:Type} {l:List α} {j:Nat} {d:α} (h:j<l.length):l[j]?=some (l.getD j d):=by simp[h]
section
variable {g r:aj} {p q:List Bool} {o:List Int}
end
theorem VG {l:List Bool} {i j:Nat} (h:(l.set i true).getD j false=true):j=i∨l.getD j false=true:=by
 by_cases e:i=j
 .exact .inl e.symm
 .right
  simp only[aaG,abw,aaI e] at h ⊢
  exact h
theorem PA {g:aj} {i:Nat} : (cK g).getD i false=false:=by
 simp only[cK,aaG,abA]
 split<;>rfl
theorem Jg (t:Bool) (is:List Bool) (R:bc):iK is (fk t is R):=by
 unfold fk
 split
 .exact .set _ _
 .exact .refl _
theorem IQ (t:Bool):∀(l:List bc) (is:List Bool),iK is (l.foldl (fk t) is)
 | [],is=>.refl _
 | R::l,is=>(Jg t is R).trans (IQ t l _)
theorem Fp {t:Bool}:∀ {l:List bc} {is:List Bool},l.foldl (fk t) is=is->∀R∈l,fk t is R=is
 | [],_,_,_,h=>by simp at h
 | R::l,is,h,x,a=>by
  rw[abr] at h
  have h1:=IQ t l (fk t is R)
  rw[h] at h1
  have b:=(h1.Wi (Jg t is R))
  rcases aa1.1 a with rfl | a
  .exact b
  .rw[b] at h;exact Fp h x a
theorem Rw {g:aj} (hr:bt g=true) (t:Bool):lP g t (bj g t)=bj g t:=by
 have a:=bF hr
 have h:=xf (oB t) g.rules 16 (cK g) (by have:=a.av;simp[cK];omega)
 rw[Nh,Ki hr] at h
 exact h.1
theorem BW {g:aj} (hr:bt g=true) {t:Bool} {R:bc} (a:R∈g.rules) (b:fq R.right (bj g t) t=true):(bj g t).getD R.left.toNat false=true:=by
 have h1:=Fp (Rw hr t) R a
 have c:=bF hr
 have d:=jj hr t
 have e:=c.left R a
 unfold fk at h1
 rw[aaL b] at h1
 rw[<-h1]
 simp only[aaG]
 rw[acA (by omega)]
 rfl
section
variable {g r:aj} {p q:List Bool} {o:List Int}
end
def isRed (g:aj):Bool:=(iO g).2.2==0&&decide (g=(iO g).1)
def vJ (p:List Int) (i:Nat) (s:Int):Prop:=∃c,p[i]?=some c/\(c=s∨c = -1)
inductive Sp (g:aj) (p:List Int):List Int->Nat->Nat->Prop
 | nil (i:Nat):Sp g p [] i i
 | term (s:Int) (l:List Int) (i j:Nat):0<=s->vJ p i s->Sp g p l (i+1) j->Sp g p (s::l) i j
 | eJ (s:Int) (l:List Int) (R:bc) (i k j:Nat):s<0->R∈g.rules->R.left = -1-s->Sp g p R.right i k->Sp g p l k j->Sp g p (s::l) i j
theorem Sp.le {g:aj} {p:List Int} {l:List Int} {i j:Nat} (h:Sp g p l i j):i<=j:=by
 induction h with
 | nil=>exact aaQ _
 | term _ _ _ _ _ _ _ c=>omega
 | eJ _ _ _ _ _ _ _ _ _ _ _ a b=>omega
theorem Sp.len {g:aj} {p:List Int} {l:List Int} {i j:Nat} (h:Sp g p l i j):i<=p.length->j<=p.length:=by
 induction h with
 | nil=>exact id
 | term _ _ i _ _ d _ e =>
  intro _
  obtain⟨c,f,_⟩:=d
  have:=(aaO.1 f).1
  exact e (by omega)
 | eJ _ _ _ _ _ _ _ _ _ _ _ a b=>exact λh=>b (a h)
theorem Sp.app {g:aj} {p:List Int} {a:List Int} {i k:Nat} (h:Sp g p a i k):∀ {b:List Int} {j:Nat},Sp g p b k j->Sp g p (a++b) i j:=by
 induction h with
 | nil=>exact λh=>h
 | term s l i _ c f _ m=>exact λd=>.term s _ i _ c f (m d)
 | eJ s l R i k _ c n o h1 _ _ e=>exact λd=>.eJ s _ R i k _ c n o h1 (e d)
theorem Sp.split {g:aj} {p:List Int}:∀ {a b:List Int} {i j:Nat},Sp g p (a++b) i j->∃k,Sp g p a i k/\Sp g p b k j
 | [],b,i,j,h=>⟨i,.nil i,h⟩
 | s::a,b,i,j,h=>by
  cases h with
  | term _ _ _ _ c e h =>
   obtain⟨k,h1,d⟩:=Sp.split h
   exact⟨k,.term s a i k c e h1,d⟩
  | eJ _ _ R _ m _ c f l h1 h =>
   obtain⟨k,d,n⟩:=Sp.split h
   exact⟨k,.eJ s a R i m k c f l h1 d,n⟩
theorem WT {g:aj} (hr:bt g=true) {p l:List Int} {i j:Nat} (h:Sp g p l i j):i=j->fq l (bj g false) false=true:=by
 induction h with
 | nil=>intro _;rfl
 | term _ _ _ _ _ _ h _=>intro e;have:=h.le;omega
 | eJ s l R i k j m c d h1 f a b =>
  intro e
  have n:=h1.le
  have o:=f.le
  have g1:=BW hr c (a (by omega))
  rw[d] at g1
  have g2:=b (by omega)
  simp only[fq,abT,aaR] at g2 ⊢
  rw[aaI (by omega)]
  exact⟨g1,g2⟩
def wN (g:aj) (is:List Bool):Prop:=∀i,is.getD i false=true->∃R∈g.rules,R.left.toNat=i/\∀(p:List Int) (k:Nat),Sp g p R.right k k
theorem KO {g:aj} (a:∀r∈g.rules,0<=r.left) {is:List Bool} (h:wN g is):∀l:List Int,fq l is false=true->∀(p:List Int) (k:Nat),Sp g p l k k
 | [],_,p,k=>.nil k
 | s::l,b,p,k=>by
  simp only[fq,abT,aaR] at b
  obtain⟨h1,e⟩:=b
  by_cases c:0<=s
  .rw[aaL c] at h1;simp at h1
  .rw[aaI c] at h1
   obtain⟨R,d,i,f⟩:=h _ h1
   have:=a R d
   exact .eJ s l R k k k (by omega) d (by omega) (f p k) (KO a h l e p k)
theorem Pc {g:aj} (hr:bt g=true):wN g (bj g false):=by
 have j:=bF hr
 have b:=λr c=>(j.left r c).1
 have d:∀(is:List Bool) (R:bc),R∈g.rules->wN g is->wN g (fk false is R):=by
  intro is R k h i hi
  unfold fk at hi
  split at hi
  .rename_i m
   rcases VG hi with rfl | hi
   .exact⟨R,k,rfl,KO b h R.right m⟩
   .exact h i hi
  .exact h i hi
 have a:∀(l:List bc) (is:List Bool),(∀R∈l,R∈g.rules)->wN g is->wN g (l.foldl (fk false) is):=by
  intro l
  induction l with
  | nil=>intro is _ h;exact h
  | cons R l e=>intro is b h;exact e _ (λx o=>b x (by simp[o])) (d is R (b R (by simp)) h)
 have f:∀(n:Nat) (is:List Bool),wN g is->wN g (iter (lP g false) n is):=by
  intro n
  induction n with
  | zero=>intro is h;exact h
  | succ n e=>intro is h;exact e _ (a g.rules is (λ_ h=>h) h)
 unfold bj
 rw[aaL hr]
 exact f _ _ λi hi=>by rw[PA] at hi;simp at hi
structure Item where
 aB:Nat
 dot:Nat
 en:Nat
 deriving DecidableEq
def Sound (g:aj) (p:List Int) (at_:Nat) (x:Item):Prop:=∃R,g.rules[x.aB]?=some R/\x.dot<=R.right.length/\x.en<=at_/\Sp g p (R.right.take x.dot) x.en at_
structure FL (g:aj) (p:List Int) (S:Nat->List Item):Prop where
 start:∀(i:Nat) (R:bc),g.rules[i]?=some R->R.left=g.start->⟨i,0,0⟩∈S 0
 term:∀a x R s,x∈S a->g.rules[x.aB]?=some R->R.right[x.dot]?=some s->0<=s->vJ p a s->⟨x.aB,x.dot+1,x.en⟩∈S (a+1)
 pred:∀a x R s i R',x∈S a->g.rules[x.aB]?=some R->R.right[x.dot]?=some s->s<0->g.rules[i]?=some R'->R'.left = -1-s->a<=p.length->⟨i,0,a⟩∈S a
 null:∀a x R s,x∈S a->g.rules[x.aB]?=some R->R.right[x.dot]?=some s->s<0->(bj g false).getD (-1-s).toNat false=true->a<=p.length->⟨x.aB,x.dot+1,x.en⟩∈S a
 comp:∀a y R' x R s,y∈S a->g.rules[y.aB]?=some R'->y.dot=R'.right.length->y.en<a->x∈S y.en->g.rules[x.aB]?=some R->R.right[x.dot]?=some s->s<0->R'.left = -1-s->a<=p.length->⟨x.aB,x.dot+1,x.en⟩∈S a
theorem O7 {g:aj} (hr:bt g=true) {p:List Int} {S:Nat->List Item} (w:FL g p S) {l:List Int} {a j:Nat} (h:Sp g p l a j):
  ∀(x:Item) (R:bc),x∈S a->g.rules[x.aB]?=some R->R.right.drop x.dot=l->x.dot<=R.right.length->a<=p.length->⟨x.aB,R.right.length,x.en⟩∈S j:=by
 induction h with
 | nil i =>
  intro x R d b f hle _
  have:x.dot=R.right.length:=by
   have:=abQ List.length f
   simp at this;omega
  rw[<-this];exact d
 | term s l i j u E _ G =>
  intro x R d b f hle hp
  have m:R.right[x.dot]?=some s:=by
   have:=abQ (·[0]?) f
   simpa using this
  have n:=(aaO.1 m).1
  have h1:=w.term i x R s d b m u E
  obtain⟨c,y,_⟩:=E
  have H:=(aaO.1 y).1
  refine G ⟨x.aB,x.dot+1,x.en⟩ R h1 b ?_ n (by omega)
  have:=abQ List.tail f
  simpa using this
 | eJ s l Q i k j u F z o I A B =>
  intro x R d b f hle hp
  have m:R.right[x.dot]?=some s:=by
   have:=abQ (·[0]?) f
   simpa using this
  have n:=(aaO.1 m).1
  obtain⟨q,J,C⟩:=acx F
  have r:g.rules[q]?=some Q:=by rw[aaH J,C]
  have D:=w.pred i x R s q Q d b m u r z hp
  have t:=A ⟨q,0,i⟩ Q D r (by simp) (by simp) hp
  have hk:=o.len hp
  have v:⟨x.aB,x.dot+1,x.en⟩∈S k:=by
   rcases Nat.lt_or_eq_of_le o.le with e | e
   .exact w.comp k ⟨q,Q.right.length,i⟩ Q x R s t r rfl e d b m u z hk
   .subst e
    have:=BW hr F (WT hr o rfl)
    rw[z] at this
    exact w.null i x R s d b m u this hp
  refine B ⟨x.aB,x.dot+1,x.en⟩ R v b ?_ n hk
  have:=abQ List.tail f
  simpa using this
theorem SU {g:aj} (hr:bt g=true) {p:List Int} {S:Nat->List Item} (j:FL g p S) (l:∀a x,x∈S a->Sound g p a x):
  (∃x∈S p.length,∃R,g.rules[x.aB]?=some R/\R.left=g.start/\x.en=0/\x.dot=R.right.length)↔Sp g p [-1-g.start] 0 p.length:=by
 have m:=bF hr
 have u:=m.lE
 constructor
 .rintro⟨x,n,R,e,o,f,r⟩
  obtain⟨v,c,_,_,b⟩:=l _ x n
  rw[e] at c;simp at c;subst c
  rw[r,aca,f] at b
  exact .eJ _ _ R 0 p.length p.length (by omega) (aaV e) (by omega) b (.nil _)
 .intro h
  cases h with
  | term _ _ _ _ h1 _ _=>omega
  | eJ _ _ R _ k _ h1 e o b s =>
   cases s
   obtain⟨q,t,i⟩:=acx e
   have d:g.rules[q]?=some R:=by rw[aaH t,i]
   have:=O7 hr j b ⟨q,0,0⟩ R (j.start q R d (by omega)) d (by simp) (by simp) (by omega)
   exact⟨_,this,R,d,by omega,rfl,rfl⟩
inductive In (p:List Int) (T:Nat->Nat->Nat->Prop):List Int->Nat->Nat->Prop
 | nil (i:Nat):In p T [] i i
 | term (s:Int) (l:List Int) (i j:Nat):0<=s->vJ p i s->In p T l (i+1) j->In p T (s::l) i j
 | eJ (s:Int) (l:List Int) (i k j:Nat):s<0->T (-1-s).toNat i k->In p T l k j->In p T (s::l) i j
theorem WI {g:aj} {p:List Int} {T:Nat->Nat->Nat->Prop} (c:∀n i j,T n i j->Sp g p [-1-(n:Int)] i j) {l:List Int} {i j:Nat} (h:In p T l i j):Sp g p l i j:=by
 induction h with
 | nil i=>exact .nil i
 | term s l i j b d _ a=>exact .term s l i j b d a
 | eJ s l i k j b h1 _ a =>
  have:=c _ _ _ h1
  rw[show -1-(((-1-s).toNat:Nat):Int)=s by omega] at this
  exact Sp.app this a
theorem Zi {g:aj} (u:∀r∈g.rules,0<=r.left) {p:List Int} {T:Nat->Nat->Nat->Prop} (n:∀R∈g.rules,∀i j,i<=p.length->In p T R.right i j->T R.left.toNat i j) {l:List Int} {i j:Nat} (h:Sp g p l i j):i<=p.length->In p T l i j:=by
 induction h with
 | nil i=>intro _;exact .nil i
 | term s l i j a b _ o =>
  intro _
  obtain⟨c,m,d⟩:=b
  have:=(aaO.1 m).1
  exact .term s l i j a ⟨c,m,d⟩ (o (by omega))
 | eJ s l R i k j a q t h1 _ e f =>
  intro hp
  have:=n R q i k hp (e hp)
  rw[t] at this
  exact .eJ s l i k j a this (f (h1.len hp))
theorem Ra {g:aj} (b:∀r∈g.rules,0<=r.left) {p:List Int} {T:Nat->Nat->Nat->Prop} (c:∀n i j,T n i j->Sp g p [-1-(n:Int)] i j) (a:∀R∈g.rules,∀i j,i<=p.length->In p T R.right i j->T R.left.toNat i j) {n i j:Nat} (hi:i<=p.length):
  T n i j↔Sp g p [-1-(n:Int)] i j:=by
 refine⟨c n i j,λh=>?_⟩
 cases h with
 | term _ _ _ _ d _ _=>omega
 | eJ _ _ R _ k _ d e l h1 f =>
  cases f
  have:=a R e i _ hi (Zi b a h1 hi)
  rw[show R.left.toNat=n by omega] at this
  exact this
theorem In.app {p:List Int} {T:Nat->Nat->Nat->Prop} {a:List Int} {i k:Nat} (h:In p T a i k):∀ {b:List Int} {j:Nat},In p T b k j->In p T (a++b) i j:=by
 induction h with
 | nil=>exact λh=>h
 | term s l i _ c f _ d=>exact λe=>.term s _ i _ c f (d e)
 | eJ s l i k _ c h1 _ d=>exact λe=>.eJ s _ i k _ c h1 (d e)
theorem In.split {p:List Int} {T:Nat->Nat->Nat->Prop}:∀ {a b:List Int} {i j:Nat},In p T (a++b) i j->∃k,In p T a i k/\In p T b k j
 | [],b,i,j,h=>⟨i,.nil i,h⟩
 | s::a,b,i,j,h=>by
  cases h with
  | term _ _ _ _ c e h =>
   obtain⟨k,h1,d⟩:=In.split h
   exact⟨k,.term s a i k c e h1,d⟩
  | eJ _ _ _ m _ c h1 h =>
   obtain⟨k,d,f⟩:=In.split h
   exact⟨k,.eJ s a i m k c h1 d,f⟩
theorem In.le {p:List Int} {T:Nat->Nat->Nat->Prop} (a:∀n i j,T n i j->i<=j) {l:List Int} {i j:Nat} (h:In p T l i j):i<=j:=by
 induction h with
 | nil=>exact aaQ _
 | term _ _ _ _ _ _ _ b=>omega
 | eJ _ _ _ _ _ _ h1 _ b=>have:=a _ _ _ h1;omega
def stepT (p:List Int) (T:Nat->Nat->Nat->Prop) (s:Int) (i j:Nat):Prop:=if 0<=s then vJ p i s/\j=i+1 else T (-1-s).toNat i j
theorem In.one {p:List Int} {T:Nat->Nat->Nat->Prop} {s:Int} {i j:Nat} : In p T [s] i j↔stepT p T s i j:=by
 unfold stepT
 constructor
 .intro h
  cases h with
  | term _ _ _ _ a b h=>cases h;rw[aaL a];exact⟨b,rfl⟩
  | eJ _ _ _ _ _ a h1 h=>cases h;rw[aaI (by omega)];exact h1
 .intro h
  by_cases a:0<=s
  .rw[aaL a] at h
   obtain⟨b,rfl⟩:=h
   exact .term s [] i _ a b (.nil _)
  .rw[aaI a] at h
   exact .eJ s [] i j j (by omega) h (.nil _)
theorem In.snoc {p:List Int} {T:Nat->Nat->Nat->Prop} {a:List Int} {s:Int} {i j:Nat} : In p T (a++[s]) i j↔∃k,In p T a i k/\stepT p T s k j:=
 ⟨λh=>by obtain⟨k,h1,b⟩:=h.split;exact⟨k,h1,In.one.1 b⟩,λ⟨k,h1,b⟩=>h1.app (In.one.2 b)⟩
abbrev Tb:=List (List (List Bool))
def iF (T:Tb) (n i j:Nat):Bool:=((T.getD n []).getD i []).getD j false
def kM (T:Tb) (N M:Nat):Prop:=T.length=N/\∀r∈T,r.length=M/\∀c∈r,c.length=M
theorem kM.row {T:Tb} {N M n:Nat} (h:kM T N M) (a:n<N):∃r,T[n]?=some r/\r.length=M/\T.getD n []=r:=by
 have:n<T.length:=by rw[h.1];exact a
 exact⟨T[n],aaH this,(h.2 _ (aaP _)).1,by simp[this]⟩
theorem kM.cell {T:Tb} {N M n i:Nat} (h:kM T N M) (a:n<N) (hi:i<M):∃r c,T[n]?=some r/\r[i]?=some c/\c.length=M/\(T.getD n []).getD i []=c:=by
 obtain⟨r,hr,d,b⟩:=h.row a
 have h1:i<r.length:=by omega
 refine⟨r,r[i],hr,aaH h1,(h.2 r (aaV hr)).2 _ (aaP _),?_⟩
 rw[b];simp[h1]
def qw (T:Tb) (n i j:Nat):Tb:=T.set n ((T.getD n []).set i (((T.getD n []).getD i []).set j true))
def Bm (N M:Nat):Tb:=List.replicate N (List.replicate M (List.replicate M false))
theorem Nz (N M:Nat):kM (Bm N M) N M:=by
 refine⟨by simp[Bm],λr hr=>?_⟩
 simp only[Bm,List.mem_replicate] at hr
 obtain⟨_,rfl⟩:=hr
 refine⟨by simp,λc a=>?_⟩
 simp only[List.mem_replicate] at a
 obtain⟨_,rfl⟩:=a
 simp
theorem XN (N M n i j:Nat):iF (Bm N M) n i j=false:=by
 simp only[iF,Bm,aaG,abA]
 split
 .simp only[aaZ,abA]
  split
  .simp only[aaZ,abA]
   split<;>rfl
  .rfl
 .rfl
theorem UY {T:Tb} {N M n i j:Nat} (h:kM T N M) (k:n<N) (hi:i<M):kM (qw T n i j) N M:=by
 obtain⟨r,c,hr,m,e,l⟩:=h.cell k hi
 obtain⟨o,a,f,b⟩:=h.row k
 rw[hr] at a;simp at a;subst a
 refine⟨by simp[qw,h.1],λx d=>?_⟩
 rw[qw,b,] at d
 rcases List.mem_or_eq_of_mem_set d with d | rfl
 .exact h.2 x d
 .refine⟨by simp[f],λy g=>?_⟩
  rcases List.mem_or_eq_of_mem_set g with g | rfl
  .exact(h.2 r (aaV hr)).2 y g
  .rw[b] at l
   rw[l];simp[e]
theorem VF {T:Tb} {N M n i j d f k:Nat} (h:kM T N M) (l:n<N) (hi:i<M) (y:j<M):iF (qw T n i j) d f k=if d=n/\f=i/\k=j then true else iF T d f k:=by
 obtain⟨r,c,hr,z,u,t⟩:=h.cell l hi
 obtain⟨A,a,v,b⟩:=h.row l
 rw[hr] at a;simp at a;subst a
 have w:n<T.length:=by rw[h.1];exact l
 have m:i<r.length:=by omega
 have o:j<c.length:=by omega
 rw[b] at t
 have g:r.getD i []=c:=t
 simp only[iF,qw,b,g]
 by_cases p:d=n
 .subst p
  have x:(T.set d (r.set i (c.set j true))).getD d []=r.set i (c.set j true):=by simp[w]
  rw[x,b]
  by_cases q:f=i
  .subst q
   have a2:(r.set f (c.set j true)).getD f []=c.set j true:=by simp[m]
   rw[a2,g]
   by_cases s:k=j
   .subst s
    rw[aaL ⟨rfl,rfl,rfl⟩]
    simp[o]
   .rw[aaI (λe=>s e.2.2)]
    simp[Ne.symm s]
  .rw[aaI (λe=>q e.2.1)]
   simp[Ne.symm q]
 .rw[aaI (λe=>p e.1)]
  simp[Ne.symm p]
def ky (p:List Int) (T:Tb) (s:Int) (a j:Nat):Bool:=
 if 0<=s then decide (a<p.length)&&(p.getD a 0==s||p.getD a 0 == -1)&&decide (j=a+1) else decide (a<=j)&&iF T (-1-s).toNat a j
def fA (p:List Int) (T:Tb) (s:Int) (now:List Bool) (f a0 j:Nat):Bool:=(List.range a0).any λa=>decide (f<=a)&&now.getD a false&&ky p T s a j
def gH (M:Nat) (F:Nat->Bool):List Bool:=(List.range M).map F
def oH (p:List Int) (T:Tb) (f:Nat) (now:List Bool) (s:Int):List Bool:=gH (p.length+1) (fA p T s now f (p.length+1))
def l0 (p:List Int) (T:Tb) (l:List Int) (f:Nat):List Bool:=l.foldl (oH p T f) (gH (p.length+1) λj=>decide (j=f))
theorem lM (M:Nat) (F:Nat->Bool):(gH M F).length=M:=by simp[gH]
theorem J5 {M j:Nat} {F:Nat->Bool} (h:j<M):(gH M F).getD j false=F j:=by simp[gH,h]
theorem NA {M i:Nat} {F:Nat->Bool} (v:Bool):(gH M F).set i v=gH M λj=>if j=i then v else F j:=by
 apply abB (by simp[gH])
 intro j h1 a
 simp only[gH,aaM,List.length_range] at a
 simp only[gH,List.getElem_set,acD,acS]
 by_cases e:i=j
 .subst e;simp
 .rw[aaI e,aaI (Ne.symm e)]
theorem mg {M:Nat} {F G:Nat->Bool} (h:∀j,j<M->F j=G j):gH M F=gH M G:=by
 unfold gH
 apply abK
 intro j a
 exact h j (by simpa using a)
theorem Bp (p:List Int) (T:Tb) (f:Nat):∀(l:List Int) (now:List Bool),now.length=p.length+1->(l.foldl (oH p T f) now).length=p.length+1
 | [],_,h=>h
 | s::l,now,_=>Bp p T f l _ (by rw[oH,lM])
theorem IV (p:List Int) (T:Tb) (l:List Int) (f:Nat):(l0 p T l f).length=p.length+1:=Bp p T f l _ (lM _ _)
theorem Pk (p:List Int) (T:Tb) (s:Int) (now:List Bool) (f a j:Nat):fA p T s now f (a+1) j=(fA p T s now f a j||(decide (f<=a)&&now.getD a false&&ky p T s a j)):=by
 simp[fA,ab9]
theorem Mw (p:List Int) (T:Tb) (s:Int) (now:List Bool) (f j:Nat):fA p T s now f f j=false:=by
 simp only[fA,List.any_eq_false,abH]
 intro a b
 rw[decide_eq_false (by omega)];simp
def oE (T:Tb):V:=.aZ (T.map λr=>[.aZ (r.map λc=>[bX c])])
theorem QF (T:Tb):Tree (oE T):=fg _ _ λr _ v a=>by
 simp at a;subst a
 exact fg _ _ λc _ v a=>by simp at a;subst a;exact jR c
def qx:SC:=
 ai [ai [ag [af 75 13,af 76 1,aM 77 76,aS 78 .leq 75 77],bQ 78 (.exit 4)],.block 5 (.region false [⟨none,[af 81 11,af 82 13,af 83 11,af 84 13,aK 85 1 83 84,au 86 85,af 87 86]⟩,⟨(some (87,false)),[af 88 2,af 89 0,af 90 10,aK 91 1 89 90,au 92 91,((some 93),.op (.arith .sub (.val (.val (.int .i64 (-1)))) (.tmp 92))),aK 94 1 88 93,au 95 94,af 96 12,aK 97 1 95 96,au 98 97,af 99 13,aK 100 1 98 99,au 101 100]⟩,⟨none,[cG 102 87 101,aK 103 1 81 82,cz 1 103 102]⟩]),ag [af 79 13,aH 80 .add 79 1,af 13 80]]
def qN:SC:=
 ai [ai [ag [af 32 12,af 33 1,aM 34 33,aS 35 .leq 32 34],bQ 35 (.exit 2)],.block 3 (ai [ai [ag [af 38 9,af 39 12,aK 40 1 38 39,au 41 40,cX 42 41],aX 42 (.exit 3)],ai [ag [af 43 0,af 44 10,aK 45 1 43 44,au 46 45,aH 47 .geq 46 0],aX 47 (ai [ai [.region false [⟨none,[af 48 12,af 49 1,aM 50 49,aS 51 .lss 48 50,af 52 51]⟩,⟨(some (52,true)),[af 53 1,af 54 12,aK 55 1 53 54,au 56 55,af 57 0,af 58 10,aK 59 1 57 58,au 60 59,aS 61 .eql 56 60,af 62 61]⟩,⟨(some (62,false)),[af 63 1,af 64 12,aK 65 1 63 64,au 66 65,aH 67 .eql 66 (-1)]⟩,⟨(some (52,true)),[cG 68 62 67]⟩,⟨none,[dQ 69 52 68]⟩],aX 69 (ag [af 70 11,af 71 12,aH 72 .add 71 1,aK 73 1 70 72,(none,.op (.store 1 (.tmp 73) (.val (.val (.bool true)))))])],.exit 3])],ag [af 74 12,af 13 74],bS 4 qx]),ag [af 36 12,aH 37 .add 36 1,af 12 37]]
def p8:SC:=
 ai [ai [ag [af 21 10,af 22 0,aM 23 22,aS 24 .lss 21 23],bQ 24 (.exit 0)],.block 1 (ai [ag [af 27 1,aM 28 27,aH 29 .add 28 1,((some 30),.op (.make 1 1 [(.val (.bool false))] (.tmp 29) (.tmp 29))),af 11 30],ai [ag [af 31 3,af 12 31],bS 2 qN],ag [af 104 11,af 9 104]]),ag [af 25 10,aH 26 .add 25 1,af 10 26]]
def tj:SF:=⟨ai [ag [bU 8 1],ag [af 14 1,aM 15 14,aH 16 .add 15 1,((some 17),.op (.make 1 1 [(.val (.bool false))] (.tmp 16) (.tmp 16))),af 9 17],ag [af 18 9,af 19 3,aK 20 1 18 19,(none,.op (.store 1 (.tmp 20) (.val (.val (.bool true)))))],ai [ag [aT 10 0],bS 0 p8],ag [af 105 9,af 8 105],.ret],
 [.tmp 8],106⟩
theorem yO:aJ aa 200 []=some tj:=by kernel_rfl
theorem uO {l:List Bool} {i:Nat} (h:i<l.length):(bT l).getD i []=[gb (l.getD i false)]:=by simp[h]
theorem XU (l p:List Int) (T:Tb) (f N:Nat) (hl:aI l) (hp:p.length<=1000) (hT:kM T N (p.length+1)) (hf:f<=p.length) (hn:∀x∈l,bp x/\(x<0->-1-x<N)):
  cd aa 200 [encI l,encI p,oE T,gi f] (bX (l0 p T l f)):=by
 unfold aI at hl
 have hM:((p.length:Int)+1).toNat=p.length+1:=by omega
 refine cd.of (by
  intro v Y;simp at Y
  rcases Y with rfl | rfl | rfl | rfl
  .exact bC l
  .exact bC p
  .exact QF T
  .exact .val _) ?_
 refine az.of mixed yO ?_
 simp(disch:=omega)only[↓wr,seval,wq,tj,encI]
 refine⟨⟨by omega,by unfold aF;omega,by unfold aF;omega⟩,λh=>by omega,?_⟩
 intro _ b
 try simp(disch:=omega)only[↓wr,seval,wq,encI]
 refine⟨by omega,by simp;omega,?_⟩
 have E:(List.replicate (p.length+1) [gb false]).set f [gb true]=bT (gH (p.length+1) λj=>decide (j=f)):=by
  rw[show List.replicate (p.length+1) [gb false]=bT (List.replicate (p.length+1) false) by simp,iG]
  congr 1
  apply abB (by simp[gH])
  intro j h1 h2
  simp only[gH,List.getElem_set,List.getElem_replicate,acD,acS]
  by_cases e:f=j
  .subst e;simp
  .rw[aaI e];simp[Ne.symm e]
 refine aW.up l.length (λq a H'=>∃(b:Nat),a 9=.sl b 0 (p.length+1) 1/\H' b=.arr 1 (bT ((l.take q).foldl (oH p T f) (gH (p.length+1) λj=>decide (j=f))))/\a 0=encI l/\a 1=encI p/\a 2=oE T/\a 3=gi f/\a 10=gi q) ?_ ?_
 .refine⟨b,rfl,?_,rfl,rfl,rfl,rfl,rfl⟩
  simp only[View.set,if_true]
  rw[aaG,abA,aaL (by omega)]
  rw[List.take_zero,acH,<-E];rfl
 rintro q k a H hk ⟨b,t9,o,t0,t1,t2,t3,t10⟩
 have P:=Bp p T f (l.take q) (gH (p.length+1) λj=>decide (j=f)) (lM _ _)
 have F:∀x,l[q]?=some x->(l.take (q+1)).foldl (oH p T f) (gH (p.length+1) λj=>decide (j=f))=oH p T f ((l.take q).foldl (oH p T f) (gH (p.length+1) λj=>decide (j=f))) x:=λx hx=>by
  rw[aa2,hx,ace];rfl
 simp(disch:=omega)only[↓wr,seval,wq,p8,t0,t10,encI]
 apply ao.dec<;>intro hc
 .have O:l[q]?=some (l[q]'(by omega)):=aaH (by omega)
  have D:l[q]'(by omega)∈l:=aaP _
  have G:=F _ O
  generalize l[q]'(by omega)=s at O D G
  generalize (l.take q).foldl (oH p T f) (gH (p.length+1) λj=>decide (j=f))=now at o P G
  obtain⟨⟨a8,bd⟩,Z⟩:=hn s D
  simp(disch:=omega)only[↓wr,seval,wq,t1,t3,encI]
  refine⟨⟨by omega,by unfold aF;omega,by unfold aF;omega⟩,λh=>by omega,?_⟩
  intro _ d w
  have A:b≠d:=by rintro rfl;rw[o] at w;simp at w
  try simp(disch:=omega)only[↓wr,seval,wq,t0,t1,t2,t3,t9,t10,encI]
  refine aW.up (p.length+1-f) (λi a H'=>H' b=.arr 1 (bT now)/\H' d=.arr 1 (bT (gH (p.length+1) (fA p T s now f (f+i))))/\a 9=.sl b 0 (p.length+1) 1/\a 11=.sl d 0 (p.length+1) 1/\a 0=encI l/\a 1=encI p/\a 2=oE T/\a 3=gi f/\a 10=gi q/\a 12=gi ((f+i:Nat):Int)) ?_ ?_
  .refine⟨by simp[View.set,A,o],?_,t9,rfl,t0,t1,t2,t3,t10,rfl⟩
   simp only[View.set,if_true]
   rw[hM,show List.replicate (p.length+1) [V.val (Value.bool false)]=bT (List.replicate (p.length+1) false) by simp]
   congr 2
   apply abB (by simp[gH])
   intro j h1 h2
   simp only[gH,List.getElem_replicate,acD,acS]
   rw[acf,Mw]
  clear w o t0 t1 t2 t3 t9 t10
  rintro i m a H hm ⟨o,w,t9,t11,t0,t1,t2,t3,t10,t12⟩
  simp(disch:=omega)only[↓wr,seval,wq,qN,t1,t12,encI]
  apply ao.dec<;>intro ae
  .have al:=uO (l:=now) (i:=f+i) (by omega)
   simp(disch:=omega)only[↓wr,seval,wq,t9,t12,o,al]
   refine⟨by omega,by omega,?_⟩
   have t:=Pk p T s now f (f+i)
   rw[abj (show f<=f+i by omega),abu] at t
   have bl:∀j,(λj=>fA p T s now f (f+i) j) j=fA p T s now f (f+i) j:=λ_=>rfl
   generalize now.getD (f+i) false=bn at t
   apply ao.split<;>intro I
   .subst I
    simp only[abu] at t
    simp(disch:=omega)only[↓wr,seval,wq,t0,t10,encI,aaJ,O]
    apply ao.dec<;>intro J
    .have z:∀j,ky p T s (f+i) j=(decide (f+i<p.length)&&(p.getD (f+i) 0==s||p.getD (f+i) 0 == -1)&&decide (j=f+i+1)):=λj=>by rw[ky,aaL (show 0<=s from J)]
     simp(disch:=omega)only[↓wr,seval,wq,t1,t12,encI]
     apply ao.dec<;>intro ha
     .have K:p[f+i]?=some (p.getD (f+i) 0):=by simp[show f+i<p.length by omega]
      generalize p.getD (f+i) 0=c at K z
      have g:∀v:Bool,(bT (gH (p.length+1) (fA p T s now f (f+i)))).set (f+i+1) [gb v]=bT (gH (p.length+1) λj=>if j=f+i+1 then v else fA p T s now f (f+i) j):=λv=>by rw[iG,NA]
      have y:=uO (l:=gH (p.length+1) (fA p T s now f (f+i))) (i:=f+i+1) (by rw[lM];omega)
      have Q:(c=s∨c = -1)->bT (gH (p.length+1) (fA p T s now f (f+(i+1))))=bT (gH (p.length+1) λj=>if j=f+i+1 then true else fA p T s now f (f+i) j):=λB=>by
       congr 1
       refine mg λj _=>?_
       rw[<-abn,t,z]
       by_cases e:j=f+i+1
       .rw[aaL e,abj (show f+i<p.length by omega),abj e]
        rcases B with h | h<;>simp[h]
       .rw[aaI e,decide_eq_false e];simp
      have an:¬ (c=s∨c = -1)->bT (gH (p.length+1) (fA p T s now f (f+(i+1))))=bT (gH (p.length+1) (fA p T s now f (f+i))):=λB=>by
       congr 1
       refine mg λj _=>?_
       rw[<-abn,t,z,show (c==s||c == -1)=false by simp;omega];simp
      have R:((f+i:Nat):Int)+1=((f+i+1:Nat):Int):=by omega
      have ga:∀ {C:Env} {H2:View},C 9=.sl b 0 (p.length+1) 1->C 11=.sl d 0 (p.length+1) 1->C 0=encI l->C 1=encI p->C 2=oE T->C 3=gi f->C 10=gi q->C 12=gi (((f+i:Nat):Int)+1)->H2 b=.arr 1 (bT now)->H2 d=.arr 1 (bT (gH (p.length+1) (fA p T s now f (f+(i+1))))) ->
        ∃k',k'<m/\EW (p.length+1-f) k' (λi a H'=>H' b=.arr 1 (bT now)/\H' d=.arr 1 (bT (gH (p.length+1) (fA p T s now f (f+i))))/\a 9=.sl b 0 (p.length+1) 1/\a 11=.sl d 0 (p.length+1) 1/\a 0=encI l/\a 1=encI p/\a 2=oE T/\a 3=gi f/\a 10=gi q/\a 12=gi ((f+i:Nat):Int)) C H2:=λa9 aq a0 a1 a2 a3 ar a12 ab ad=>aE hm (by omega) ⟨ab,ad,a9,aq,a0,a1,a2,a3,ar,by rw[a12];rfl⟩
      simp(disch:=omega)only[↓wr,seval,wq,t0,t1,t10,t12,encI,aaJ,O,K]
      apply ao.eq<;>intro B
      .simp(disch:=omega)only[↓wr,seval,wq,t9,t10,t11,t12,R,w]
       refine⟨by omega,by rw[lM];omega,?_⟩
       refine ga t9 t11 t0 t1 t2 t3 t10 rfl (by simp[View.set,A,o]) ?_
       simp only[View.set,if_true]
       rw[y,Q (.inl B),<-g true];rfl
      .simp(disch:=omega)only[↓wr,seval,wq,t1,t12,encI,aaJ,K]
       apply ao.eq<;>intro S
       .simp(disch:=omega)only[↓wr,seval,wq,t9,t10,t11,t12,R,w]
        refine⟨by omega,by rw[lM];omega,?_⟩
        refine ga t9 t11 t0 t1 t2 t3 t10 rfl (by simp[View.set,A,o]) ?_
        simp only[View.set,if_true]
        rw[y,Q (.inr S),<-g true];rfl
       .simp(disch:=omega)only[↓wr,seval,wq,t9,t10,t11,t12]
        exact ga t9 t11 t0 t1 t2 t3 t10 rfl o (by rw[an (by omega)];exact w)
     .simp(disch:=omega)only[↓wr,seval,wq,t9,t10,t11,t12]
      refine aE hm (by omega) ⟨o,?_,t9,t11,t0,t1,t2,t3,t10,rfl⟩
      rw[w,<-abn]
      refine abQ (λl=>cr.arr 1 (bT l)) (mg λj _=>?_)
      rw[t,z,decide_eq_false (show ¬ f+i<p.length by omega)];simp
    .have br : -1-s<N:=Z (by omega)
     obtain⟨row,cell,U,L,bs,a6⟩:=hT.cell (n:=(-1-s).toNat) (i:=f+i) (by omega) (by omega)
     have z:∀j,ky p T s (f+i) j=(decide (f+i<=j)&&cell.getD j false):=λj=>by
      rw[ky,aaI (show ¬ 0<=s from J),iF,a6]
     simp(disch:=omega)only[↓wr,seval,wq,t12]
     refine aW.up (p.length+1-(f+i)) (λr a H'=>H' b=.arr 1 (bT now)/\H' d=.arr 1 (bT (gH (p.length+1) λj=>fA p T s now f (f+i) j||(decide (j<f+i+r)&&ky p T s (f+i) j)))/\a 9=.sl b 0 (p.length+1) 1/\a 11=.sl d 0 (p.length+1) 1/\a 0=encI l/\a 1=encI p/\a 2=oE T/\a 3=gi f/\a 10=gi q/\a 12=gi ((f+i:Nat):Int)/\a 13=gi ((f+i+r:Nat):Int)) ?_ ?_
     .refine⟨o,?_,t9,t11,t0,t1,t2,t3,t10,t12,rfl⟩
      rw[w]
      refine abQ (λl=>cr.arr 1 (bT l)) (mg λj _=>?_)
      rw[z]
      by_cases e:j<f+i
      .rw[decide_eq_false (show ¬ f+i<=j by omega)];simp
      .rw[decide_eq_false (show ¬ j<f+i+0 by omega)];simp
     clear w o t0 t1 t2 t3 t9 t10 t11 t12
     rintro r u a H hu ⟨o,w,t9,t11,t0,t1,t2,t3,t10,t12,t13⟩
     simp(disch:=omega)only[↓wr,seval,wq,qx,t1,t13,encI]
     apply ao.dec<;>intro a7
     .have hF:∀j,(fA p T s now f (f+i) j||(decide (j<f+i+(r+1))&&ky p T s (f+i) j))=if j=f+i+r then (fA p T s now f (f+i) j||ky p T s (f+i) j) else (fA p T s now f (f+i) j||(decide (j<f+i+r)&&ky p T s (f+i) j)):=λj=>by
       by_cases e:j=f+i+r
       .rw[aaL e,abj (show j<f+i+(r+1) by omega),abu]
       .rw[aaI e]
        congr 2
        simp only[decide_eq_decide];omega
      have y:=uO (l:=gH (p.length+1) λj=>fA p T s now f (f+i) j||(decide (j<f+i+r)&&ky p T s (f+i) j)) (i:=f+i+r) (by rw[lM];omega)
      rw[J5 (by omega),decide_eq_false (show ¬ f+i+r<f+i+r by omega),ab0,Bool.or_false] at y
      have W:=z (f+i+r)
      rw[abj (show f+i<=f+i+r by omega),abu] at W
      have X:cell[f+i+r]?=some (cell.getD (f+i+r) false):=by simp[show f+i+r<cell.length by omega]
      have g:∀v,v=(fA p T s now f (f+i) (f+i+r)||ky p T s (f+i) (f+i+r))->(bT (gH (p.length+1) λj=>fA p T s now f (f+i) j||(decide (j<f+i+r)&&ky p T s (f+i) j))).set (f+i+r) [gb v]=bT (gH (p.length+1) λj=>fA p T s now f (f+i) j||(decide (j<f+i+(r+1))&&ky p T s (f+i) j)):=λv Y=>by
       rw[iG,NA]
       refine abQ bT (mg λj _=>?_)
       rw[hF]
       by_cases e:j=f+i+r
       .subst e;rw[aaL rfl,aaL rfl,Y]
       .rw[aaI e,aaI e]
      rw[W] at g
      generalize cell.getD (f+i+r) false=cv at X g
      generalize fA p T s now f (f+i) (f+i+r)=pv at y g
      simp(disch:=omega)only[↓wr,seval,wq,t11,t13,w,y]
      refine⟨by omega,by rw[lM];omega,?_⟩
      apply ao.split<;>intro M
      .simp(disch:=omega)only[↓wr,seval,wq,t9,t10,t11,t12,t13,w]
       refine⟨by omega,by rw[lM];omega,aE hu (by omega) ⟨by simp[View.set,A,o],?_,t9,t11,t0,t1,t2,t3,t10,t12,rfl⟩⟩
       simp only[View.set,if_true]
       rw[y,<-g true (by rw[M];rfl)];rfl
      .simp(disch:=omega)only[↓wr,seval,wq,t0,t2,t9,t10,t11,t12,t13,encI,oE,bX,aaJ,O,U,L,X,w]
       refine⟨by omega,by rw[lM];omega,aE hu (by omega) ⟨by simp[View.set,A,o],?_,t9,t11,t0,t1,t2,t3,t10,t12,rfl⟩⟩
       simp only[View.set,if_true]
       rw[y,<-g cv (by rw[M];rfl)];rfl
     .simp(disch:=omega)only[↓wr,seval,wq,t9,t10,t11,t12]
      have hr:f+i+r=p.length+1:=by omega
      refine aE hm (by omega) ⟨o,?_,t9,t11,t0,t1,t2,t3,t10,rfl⟩
      rw[w,<-abn]
      refine abQ (λl=>cr.arr 1 (bT l)) (mg λj hj=>?_)
      rw[t,hr,abj hj,abu]
   .subst I
    simp only[ab0,Bool.or_false] at t
    simp(disch:=omega)only[↓wr,seval,wq,t9,t10,t11,t12]
    refine aE hm (by omega) ⟨o,?_,t9,t11,t0,t1,t2,t3,t10,by rfl⟩
    rw[w,<-abn]
    exact abQ (λl=>cr.arr 1 (bT l)) (mg λj _=>(t j).symm)
  .have hi:f+i=p.length+1:=by omega
   rw[hi] at w
   simp(disch:=omega)only[↓wr,seval,wq,t9,t10,t11]
   refine aE hk (by omega) ⟨d,rfl,?_,t0,t1,t2,t3,rfl⟩
   rw[G];exact w
 .have e:q=l.length:=by omega
  subst e
  rw[aca] at o P
  simp(disch:=omega)only[↓wr,seval,wq,t9]
  intro h' hh
  have:=tJ (h:=h') (id:=b) (is:=l0 p T l f) (by rw[hh];exact o)
  rwa [IV] at this
def FA (T:Tb) (n i j:Nat):Prop:=i<=j/\iF T n i j=true
theorem Im {p:List Int} {T:Tb} {s:Int} {a j:Nat} : ky p T s a j=true↔stepT p (FA T) s a j:=by
 unfold ky stepT
 split
 .simp only[aaR,aaX,acv,abJ]
  constructor
  .rintro⟨⟨h1,b⟩,d⟩
   exact⟨⟨p.getD a 0,by simp[h1],b⟩,d⟩
  .rintro⟨⟨c,e,b⟩,d⟩
   have h1:=(aaO.1 e).1
   have:p.getD a 0=c:=by simp[e]
   exact⟨⟨h1,by rw[this];exact b⟩,d⟩
 .simp only[aaR,aaX];rfl
theorem J4 {T:Tb}:∀n i j,FA T n i j->i<=j:=λ_ _ _ h=>h.1
theorem Ks {p:List Int} {T:Tb} {f:Nat} (i:f<=p.length):∀(l pre:List Int) (now:List Bool),(∀j,j<=p.length->(now.getD j false=true↔In p (FA T) pre f j)) ->
  ∀j,j<=p.length->((l.foldl (oH p T f) now).getD j false=true↔In p (FA T) (pre++l) f j)
 | [],pre,now,h,j,b=>by rw[abo];exact h j b
 | s::l,pre,now,h,j,b=>by
  have k:∀j,j<=p.length->((oH p T f now s).getD j false=true↔In p (FA T) (pre++[s]) f j):=λj b=>by
   rw[oH,J5 (by omega),In.snoc]
   simp only[fA,abU,abH,aaR,aaX]
   constructor
   .rintro⟨a,g,⟨_,c⟩,d⟩
    exact⟨a,(h a (by omega)).1 c,Im.1 d⟩
   .rintro⟨a,c,d⟩
    have hle:=c.le J4
    have g:a<=p.length:=by
     have e:=d
     unfold stepT at e
     split at e
     .omega
     .have:=e.1;omega
    exact⟨a,by omega,⟨hle,(h a g).2 c⟩,Im.2 d⟩
  have:=Ks i l (pre++[s]) (oH p T f now s) k j b
  rwa [abM] at this
theorem Kk {p:List Int} {T:Tb} {l:List Int} {f:Nat} (b:f<=p.length) {j:Nat} (a:j<=p.length):(l0 p T l f).getD j false=true↔In p (FA T) l f j:=by
 have:=Ks (T:=T) b l [] (gH (p.length+1) λj=>decide (j=f)) (λj a=>by
  rw[J5 (by omega),aaX]
  constructor
  .rintro rfl;exact .nil _
  .intro h;cases h;rfl) j a
 exact this
open Classical in
noncomputable def C6 (g:aj) (p:List Int):Tb:=(List.range g.av.length).map λ(n:Nat)=>(List.range (p.length+1)).map λ(i:Nat)=>(List.range (p.length+1)).map λ(j:Nat)=>decide (Sp g p [-1-(n:Int)] i j)
theorem Sq (g:aj) (p:List Int):kM (C6 g p) g.av.length (p.length+1):=by
 refine⟨by simp[C6],λr hr=>?_⟩
 simp only[C6,aa4] at hr
 obtain⟨n,_,rfl⟩:=hr
 refine⟨by simp,λc a=>?_⟩
 simp only[aa4] at a
 obtain⟨i,_,rfl⟩:=a
 simp
theorem TR {g:aj} {p:List Int} {n i j:Nat} (a:n<g.av.length) (hi:i<=p.length) (b:j<=p.length):iF (C6 g p) n i j=true↔Sp g p [-1-(n:Int)] i j:=by
 simp[iF,C6,a,show i<p.length+1 by omega,show j<p.length+1 by omega]
theorem Yz {S T:Tb} {N M:Nat} (a:kM S N M) (b:kM T N M) (h:∀n i j,n<N->i<M->j<M->iF S n i j=iF T n i j):S=T:=by
 apply abB (by rw[a.1,b.1])
 intro n h1 c
 have f:n<N:=by rw[<-a.1];exact h1
 have g:=(a.2 _ (aaP h1)).1
 have a2:=(b.2 _ (aaP c)).1
 apply abB (by rw[g,a2])
 intro i d e
 have hi:i<M:=by omega
 have k:=(a.2 _ (aaP h1)).2 _ (aaP d)
 have l:=(b.2 _ (aaP c)).2 _ (aaP e)
 apply abB (by rw[k,l])
 intro j m o
 have:=h n i j f hi (by omega)
 simpa [iF,aaG,h1,c,d,e,m,o] using this
theorem YU {g:aj} {p:List Int} {T:Tb} (c:∀r∈g.rules,0<=r.left) (m:∀r∈g.rules,r.left<g.av.length) (d:kM T g.av.length (p.length+1)) (b:∀n i j,FA T n i j->Sp g p [-1-(n:Int)] i j)
  (e:∀n i j,iF T n i j=true->i<=j) (f:∀R∈g.rules,∀i j,i<=j->j<=p.length->(l0 p T R.right i).getD j false=true->iF T R.left.toNat i j=true):T=C6 g p:=by
 refine Yz d (Sq g p) λn i j k hi o=>?_
 rw[aby,TR k (by omega) (by omega)]
 have a:∀R∈g.rules,∀i j,i<=p.length->In p (FA T) R.right i j->FA T R.left.toNat i j:=λR l i j hi h=>by
  have hle:=h.le J4
  have hlen:=(WI b h).len hi
  exact⟨hle,f R l i j hle hlen ((Kk hi hlen).2 h)⟩
 rw[<-Ra c b a (by omega)]
 exact⟨λh=>⟨e n i j h,h⟩,λh=>h.2⟩
structure qS (H:View) (I N M:Nat) (R:Nat->Nat) (C:Nat->Nat->Nat) (T:Tb):Prop where
 top:H I=.arr 1 ((List.range N).map λn=>[.sl (R n) 0 M 1])
 row:∀n,n<N->H (R n)=.arr 1 ((List.range M).map λi=>[.sl (C n i) 0 M 1])
 cell:∀n i,n<N->i<M->H (C n i)=.arr 1 (bT ((T.getD n []).getD i []))
 inj:∀n i n' i',n<N->i<M->n'<N->i'<M->C n i=C n' i'->n=n'/\i=i'
theorem Lu {c:List Bool} {k:Nat} {F:Nat->List V} (a:0<c.length) (h:bT c=(List.range k).map F) (b:∀n x,F n≠[gb x]):False:=by
 cases c with
 | nil=>simp at a
 | cons x c =>
  cases k with
  | zero=>simp at h
  | succ k =>
   rw[List.range_succ_eq_map] at h
   simp only[aba,List.cons.injEq] at h
   exact b 0 x h.1.symm
theorem qS.keep {H H':View} {I N M:Nat} {R:Nat->Nat} {C:Nat->Nat->Nat} {T:Tb} (h:qS H I N M R C T) (hk:∀id,H id≠.dead->H' id=H id):qS H' I N M R C T:=
 ⟨by rw[hk _ (by rw[h.top];simp)];exact h.top,λn a=>by rw[hk _ (by rw[h.row n a];simp)];exact h.row n a,λn i a hi=>by rw[hk _ (by rw[h.cell n i a hi];simp)];exact h.cell n i a hi,h.inj⟩
theorem qS.put {H:View} {I N M:Nat} {R:Nat->Nat} {C:Nat->Nat->Nat} {T:Tb} (h:qS H I N M R C T) (g:kM T N M) {n i j:Nat} (d:n<N) (hi:i<M) (v:j<M):
  qS (H.set (C n i) (.arr 1 (bT (((T.getD n []).getD i []).set j true)))) I N M R C (qw T n i j):=by
 obtain⟨r,c,hr,w,o,p⟩:=g.cell d hi
 have a:=h.cell n i d hi
 rw[p] at a
 have s:I≠C n i:=λe=>by
  have:=h.top
  rw[e,a] at this
  simp only[cr.arr.injEq,true_and] at this
  exact Lu (by omega) this λ_ _=>by simp
 have t:∀m,m<N->R m≠C n i:=λm hm e=>by
  have:=h.row m hm
  rw[e,a] at this
  simp only[cr.arr.injEq,true_and] at this
  exact Lu (by omega) this λ_ _=>by simp
 refine⟨by simp only[View.set,aaI s];exact h.top,λm hm=>by simp only[View.set,aaI (t m hm)];exact h.row m hm,λm q hm k=>?_,h.inj⟩
 obtain⟨x,b,l,u⟩:=g.row d
 rw[hr] at b;simp at b;subst b
 have f:n<T.length:=by rw[g.1];exact d
 by_cases e:C m q=C n i
 .obtain⟨rfl,rfl⟩:=h.inj m q n i hm k d hi e
  simp only[View.set,if_true]
  congr 2
  rw[qw]
  simp[f]
  rw[abw]
  have:q<T[m].length:=by
   have:=(aaO.1 hr).2
   rw[this,l];exact k
  simp[this]
 .simp only[View.set,aaI e]
  rw[h.cell m q hm k]
  congr 2
  rw[qw]
  by_cases em:n=m
  .subst em
   have eq:i≠q:=λe'=>e (by rw[e'])
   simp[f,eq]
  .simp[em]
theorem qS.Zs {h:Heap} {I N M:Nat} {R:Nat->Nat} {C:Nat->Nat->Nat} {T:Tb} (f:qS h.view I N M R C T) (e:kM T N M):dF h (.sl I 0 N 1) (oE T):=by
 refine .sl I 0 N 1 1 _ _ f.top (by simp) (by simp[e.1]) (λn b=>?_) (λn j b m=>?_)
 .obtain⟨r,hr,_⟩:=e.row b
  simp[hr,b]
 .obtain⟨r,hr,g,k⟩:=e.row b
  have p:((T.map λr=>[V.aZ (r.map λc=>[bX c])]).getD n [])=[V.aZ (r.map λc=>[bX c])]:=by simp[hr]
  have s:(((List.range N).map λn=>[V.sl (R n) 0 M 1]).getD (0+n) [])=[V.sl (R n) 0 M 1]:=by simp[b]
  rw[p] at m ⊢
  rw[s]
  have:j=0:=by simp at m;omega
  subst this
  simp only[abO]
  refine .sl (R n) 0 M 1 1 _ _ (f.row n b) (by simp) (by simp[g]) (λi hi=>?_) (λi q hi o=>?_)
  .simp[hi,show i<r.length by omega]
  .have d:i<r.length:=by omega
   have f1:((r.map λc=>[bX c]).getD i [])=[bX r[i]]:=by simp[d]
   have f2:(((List.range M).map λi=>[V.sl (C n i) 0 M 1]).getD (0+i) [])=[V.sl (C n i) 0 M 1]:=by simp[hi]
   rw[f1] at o ⊢
   rw[f2]
   have:q=0:=by simp at o;omega
   subst this
   simp only[abO]
   have a:=f.cell n i b hi
   have t:(T.getD n []).getD i []=r[i]:=by rw[k];simp[d]
   rw[t] at a
   have l:=(e.2 r (aaV hr)).2 _ (aaP d)
   have:=tJ (h:=h) (id:=C n i) (is:=r[i]) a
   rwa [l] at this
theorem dF.L5 {h:Heap} {v t:V} (f:dF h v t):Fr h v t:=by
 induction f with
 | val v=>exact .tree _ (.val v)
 | emp k=>exact .emp k
 | sl id off len esz z es es' hH hle hlen b _ c=>exact .sl id off len esz z es es' hH hle hlen b c
 | agg cs a b _ c=>exact .agg cs a b c
 | bb cs a b _ c=>exact .bb cs a b c
theorem qS.kH {H:View} {I N M:Nat} {R:Nat->Nat} {C:Nat->Nat->Nat} {T:Tb} (a:qS H I N M R C T) (b:kM T N M):cq H (.sl I 0 N 1) (oE T):=by
 rintro h rfl
 exact(a.Zs b).L5
end Gv
