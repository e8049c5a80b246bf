/-
  Part 10 of the proof: what the machine does and what the functions answer.
  Conditions: those that each lemma names.
-/
import Derived.Test.YtiophifnkakjgaaGreatSGzC1I
set_option linter.unusedSimpArgs false
set_option linter.unusedVariables false
set_option maxRecDepth 100000
set_option maxHeartbeats 20000000
namespace Gv
open Go Go.Proofs
def wH:SC :=
 ae [ab [aQ 44 .lss 43 42],bX 44 (.exit 0),.block 1 (ae [ab [aa 45 43,aO 46 3 41 43,aZ 47 3 46,((some 11),.op (.alloc [(.val (.int .i64 0)),(.emp 1),(.val (.int .i64 0))])),aa 10 45,cD 3 11 47],ae [.region false [⟨none,[aa 48 6,ao 49 0 11,ak 50 49,aO 51 1 48 50,ak 52 51,c9 53 52,aa 54 53]⟩,⟨(some (54,false)),[aZ 55 3 11,aa 56 5,bk 57 164 [55,56],c9 58 57]⟩,⟨none,[cy 59 54 58]⟩],bb 59 (.exit 1)],ab [aa 60 7,aa 61 10,((some 62),.op (.bJ 1 1 [(.val (.int .i64 0))] [(0,(.tmp 61))])),fD 63 1 8 60 62,aa 7 63],ab [aa 65 9,ao 66 0 11,ak 67 66,((some 68),.op (.old (.lookup 265 (.tmp 65) (.tmp 67) true) 66)),aa 64 68,dr 69 0 64,dr 70 1 64,aa 12 69,aa 13 70],ab [aa 71 13,c9 72 71],bb 72 (ae [ab [aa 73 9,ao 74 0 11,ak 75 74,ao 76 1 8,ak 77 76,aN 78 77,(none,.op (.old (.mapUpdate 265 (.tmp 73) (.tmp 75) (.tmp 78)) 0))],.region false [⟨none,[ao 79 1 8,ak 80 79,ao 81 1 1,ak 82 81,ao 83 0 11,ak 84 83,aO 85 1 82 84,ak 86 85,((some 87),.op (.bJ 1 1 [(.val (.string ⟨#[]⟩))] [(0,(.tmp 86))])),fD 88 1 16 80 87,ao 89 1 8,cD 1 89 88]⟩]])]),ab [aF 90 .add 43 1,aa 43 90]]
def vR:SC :=
 ae [ab [aQ 116 .lss 115 114],bX 116 (.exit 4),.block 5 (ae [ab [aa 117 115,aO 118 1 113 115,ak 119 118,aa 18 117,aa 19 119],ab [aa 120 19,aF 121 .lss 120 0],bb 121 (ab [ao 122 1 17,ak 123 122,aa 124 18,aa 125 9,aa 126 19,((some 127),.op (.arith .sub (.val (.val (.int .i64 (-1)))) (.tmp 126))),((some 128),.op (.old (.lookup 265 (.tmp 125) (.tmp 127) false) 3)),((some 129),.op (.arith .sub (.val (.val (.int .i64 (-1)))) (.tmp 128))),aO 130 1 123 124,cD 1 130 129])]),ab [aF 131 .add 115 1,aa 115 131]]
def v7:SC :=
 ae [ab [aQ 94 .lss 93 92],bX 94 (.exit 2),.block 3 (ae [ab [aO 95 1 91 93,ak 96 95,aa 15 96],ab [ao 97 2 1,ak 98 97,aa 99 15,aO 100 3 98 99,aZ 101 3 100,((some 16),.op (.alloc [(.val (.int .i64 0)),(.emp 1),(.val (.int .i64 0))])),cD 3 16 101],.region true [⟨none,[aa 102 9,ao 103 0 16,ak 104 103,((some 105),.op (.old (.lookup 265 (.tmp 102) (.tmp 104) false) 3)),ao 106 1 16,ak 107 106,bk 108 140 [107],ao 109 2 16,ak 110 109,((some 111),.op (.build [(.val (.int .i64 0)),(.emp 1),(.val (.int .i64 0))] [(0,1,(.tmp 105)),(1,1,(.tmp 108)),(2,1,(.tmp 110))])),((some 17),.op (.alloc [(.val (.int .i64 0)),(.emp 1),(.val (.int .i64 0))])),cD 3 17 111]⟩],ae [ab [ao 112 1 17,ak 113 112,aN 114 113,aR 115 0],bZ 4 vR],ab [ao 132 2 8,ak 133 132,aZ 134 3 17,((some 135),.op (.bJ 1 3 [(.val (.int .i64 0)),(.emp 1),(.val (.int .i64 0))] [(0,(.tmp 134))])),fD 136 3 40 133 135,ao 137 2 8,cD 1 137 136]]),ab [aF 138 .add 93 1,aa 93 138]]
def Af:SF:=⟨ae [ab [cF 1 0,((some 2),.op (.alloc [(.emp 1),(.emp 1),(.emp 1),(.val (.int .i64 0))])),bT 3 1,aR 4 0],ae [ab [aZ 20 4 1,bk 21 89 [20],c9 22 21],bb 22 (ae [ab [((some 23),.op (.build [(.emp 1),(.emp 1),(.emp 1),(.val (.int .i64 0))] [])),cD 4 2 23,bT 3 1,aR 4 1],.ret])],.region true [⟨none,[aZ 24 4 1,bk 25 161 [24],aZ 26 4 1,bk 27 162 [26],aa 5 25,aa 6 27]⟩],ae [ab [aa 28 5,ao 29 3 1,ak 30 29,aO 31 1 28 30,ak 32 31,c9 33 32],bb 33 (ae [ab [((some 34),.op (.build [(.emp 1),(.emp 1),(.emp 1),(.val (.int .i64 0))] [])),cD 4 2 34,bT 3 1,aR 4 9],.ret])],ab [bT 7 1],ab [ao 35 0 1,ak 36 35,bk 37 163 [36],((some 38),.op (.build [(.emp 1),(.emp 1),(.emp 1),(.val (.int .i64 0))] [(0,1,(.tmp 37))])),((some 8),.op (.alloc [(.emp 1),(.emp 1),(.emp 1),(.val (.int .i64 0))])),cD 4 8 38],ab [((some 39),.op (.rY)),aa 9 39],ae [ab [ao 40 2 1,ak 41 40,aN 42 41,aR 43 0],bZ 0 wH],ae [ab [aa 91 7,aN 92 91,aR 93 0],bZ 2 v7],ab [aa 139 9,ao 140 3 1,ak 141 140,((some 142),.op (.old (.lookup 265 (.tmp 139) (.tmp 141) false) 3)),ao 143 3 8,cD 1 143 142],ab [aZ 144 4 8,aa 145 7,cD 4 2 144,aa 3 145,aR 4 0],.ret],
 [.cell 2 (some 4),.tmp 3,.tmp 4],146⟩
theorem Dx:aP Tryz.prog 92 [1]=some Af:=by kernel_rfl
abbrev AN (m:cZ Int):List (V × V × Nat):=cO (Value.int .i64) m
def YA (g:af) (p q:List Bool) (b2 b8 b9:Nat) (u0:V) (i:Nat) (T:Env) (H:View):Prop :=
 (∃ u1 u3:V,T 7=u3/\(∀ x∈cL p q (g.rules.take i),0<=x/\x < g.al.length)/\(cL p q (g.rules.take i)).length<=i /\
  bq H [(.sl b8 0 1 4,4,[[u0,u1,.emp 1,gi 0]]),(u3,1,bH (dD p q (g.rules.take i) 0)),
   (u1,1,lD ((cL p q (g.rules.take i)).map λx=>g.al.getD x.toNat ⟨#[]⟩)),(u0,3,g.ai.map dg),(.sl b2 0 1 4,4,[[.emp 1,.emp 1,.emp 1,gi 0]])] /\
  ∃ m c,H b9=.map (AN m) c/\qc gi (kV (cL p q (g.rules.take i)) 0) m) /\
 T 1=.aL (ag g) 0/\T 2=.ptr b2 0 0/\T 5=cI p/\T 6=cI q/\T 8=.ptr b8 0 0/\T 9=.mp b9/\T 41=.aU (g.rules.map bg)/\T 42=gi g.rules.length/\T 43=gi i
theorem GI {α:Type} {x s:α} : ∀ {a d:List α} {k:Nat},a.length=k->(a ++ s :: d).set k x=a ++ x :: d
 | [],d,k,h=>by simp at h;subst h;rfl
 | y :: a,d,k,h=>by
  cases k with
  | zero=>simp at h
  | succ k=>simp only[abk,List.set_cons_succ];rw[GI (by simpa using h)]
def Z8 (g:af) (p q:List Bool) (b2 b8 b9:Nat) (u0 u1 u3:V) (o kl:List Int) (mm:cZ Int) (cc:Nat) (i:Nat) (T:Env) (H:View):Prop :=
 (∃ (u2:V) (bs:Ce),bs.map (·.2)=((g.rules.filter (cB p q)).take i).map (bS (eV o)) /\
  bq H ((.sl b8 0 1 4,4,[[u0,u1,u2,gi 0]]) :: (u3,1,bH kl) ::
   (u1,1,lD (o.map λx=>g.al.getD x.toNat ⟨#[]⟩)) :: (u0,3,g.ai.map dg) :: (u2,3,iD bs) :: (.sl b2 0 1 4,4,[[.emp 1,.emp 1,.emp 1,gi 0]]) :: nF bs) /\
  H b9=.map (AN mm) cc) /\
 T 1=.aL (ag g) 0/\T 2=.ptr b2 0 0/\T 7=u3/\T 8=.ptr b8 0 0/\T 9=.mp b9/\T 91=u3/\T 92=gi kl.length/\T 93=gi i
def ZQ (g:af) (b2 b8 b9 b16 b17:Nat) (u3 v:V) (o kl:List Int) (mm:cZ Int) (cc:Nat) (r:aX) (L:List dH) (i k:Nat) (T:Env) (H:View):Prop :=
 bq H ((.sl b17 0 1 3,3,[[gi (eV o r.left),v,gi r.prec]]) :: (v,1,bH ((bS (eV o) r).right.take k ++ r.right.drop k)) :: (.sl b16 0 1 3,3,[bg r]) :: L) /\
 H b9=.map (AN mm) cc/\T 1=.aL (ag g) 0/\T 2=.ptr b2 0 0/\T 7=u3/\T 8=.ptr b8 0 0/\T 9=.mp b9/\T 91=u3/\T 92=gi kl.length/\T 93=gi i/\T 17=.ptr b17 0 0/\T 113=v/\T 114=gi r.right.length/\T 115=gi k
theorem Mi (g:af) (hg:g.Ok) (hs:g.Small):cK Tryz.prog 92 [.agg (ag g)] (zL (if bp g=true then
  if (av g true).getD g.start.toNat false=true then (rq g (eV (cL (av g true) (bP g) g.rules)) (av g true) (bP g),dD (av g true) (bP g) g.rules 0,0)
  else (tC,[],9)
 else (tC,[],1))):=by
 refine cK.of (eK g) ?_
 refine aw.of mixed Dx ?_
 simp(disch:=omega)only[↓wr,seval,wq,Af,ag,encS]
 intro Q
 try simp(disch:=omega)only[↓wr,seval,wq,ag,encS]
 refine ax.pure (vN g hg hs.names) ?_
 repeat' (first | ((first|apply aj.dec|apply aj.eq|apply aj.ne|apply aj.split)<;>intro)|(simp(disch:=omega)only[↓wr,seval,wq,ag,encS,set_set]))
 .rename_i hr
  rw[aaF hr]
  refine ax.pure (yf g hg hs).pure ?_
  simp(disch:=omega)only[↓wr,seval,wq,ag,encS]
  refine ax.pure (IX g hg hs).pure ?_
  have hf:=bj hr
  have h3:=hf.kj
  have h4:=hf.start
  have dj:=jf hr true
  have gd:=sd hr
  generalize av g true=p at dj ⊢
  generalize bP g=q at gd ⊢
  have ck:p[g.start.toNat]?=some (p[g.start.toNat]'(by omega)):=aaB (by omega)
  have dm:p.getD g.start.toNat false=p[g.start.toNat]'(by omega):=by simp[aaA,ck]
  generalize p[g.start.toNat]'(by omega)=s at ck dm
  rw[dm]
  simp(disch:=omega)only[↓wr,seval,wq,ag,encS,cI,aaE,ck]
  cases s with
  | false =>
   simp(disch:=omega)only[↓wr,seval,wq,ag,encS,set_set]
   rintro h' hh
   exact zJ
  | true =>
   simp(disch:=omega)only[↓wr,seval,wq,ag,encS,set_set]
   have hN:=hf.al
   have hW:=hf.sm
   have hT:=hf.ai
   have hR:=hf.rules
   refine ax.eM ((Q6 g.ai (by omega) _).mono ?_)
   rintro B H1 ⟨gk,K⟩
   have bl:=(bq.nil.new (H:=λ_=>dG.dead) (n:=Q) rfl 4 [[.emp 1,.emp 1,.emp 1,gi 0]]).Gr gk K
   have c0:=bl.head.cells
   have k0:=bl.head.fL
   simp(disch:=omega)only[↓wr,seval,wq,ag,encS,c0,k0]
   intro O ds
   have dv:=bl.new ds 4 [[B,.emp 1,.emp 1,gi 0]]
   try simp(disch:=omega)only[↓wr,seval,wq,ag,encS,c0,k0,set_set]
   intro d R
   have cf:=(cq R cm).1
   have R:=(cq (cq R cm).2 cm).2
   have f:=(((dv.fresh (n:=d) (o:=.map [] 0) (by simp only[View.set,aaD cf];exact R)).emp (k:=1) (sz:=1)).emp (k:=1) (sz:=1)).perm DQ.symm
   try simp(disch:=omega)only[↓wr,seval,wq,ag,encS,c0,k0,set_set]
   refine ba.up g.rules.length (YA g p q Q O d B) ?_ ?_
   .refine⟨⟨.emp 1,.emp 1,rfl,by simp[cL],by simp[cL],by rw[set_set];exact f,[],0,by simp[View.set,cO],trivial⟩,rfl,rfl,rfl,rfl,rfl,rfl,rfl,rfl,rfl⟩
   clear bl dv f ds R cf
   rintro i k T H2 hk ⟨⟨G,u3,t7,bn,cr,A,mm,C,j,D⟩,t1,t2,t5,t6,t8,t9,t41,t42,t43⟩
   simp(disch:=omega)only[↓wr,seval,wq,wH,t1,t2,t5,t6,t7,t8,t9,t41,t42,t43,ag]
   apply aj.dec<;>intro hc
   .have E:g.rules[i]?=some (g.rules[i]'(by omega)):=aaB (by omega)
    have l:g.rules[i]'(by omega)∈g.rules:=aaL _
    have w:g.rules.take (i+1)=g.rules.take i ++ [g.rules[i]'(by omega)]:=by rw[aa3,E];rfl
    generalize g.rules[i]'(by omega)=r at E l w
    obtain⟨gl,ea,eb,gr,br⟩:=hf.yn hg l
    have cA:q[r.left.toNat]?=some (q[r.left.toNat]'(by omega)):=aaB (by omega)
    have bx:q.getD r.left.toNat false=q[r.left.toNat]'(by omega):=by simp[aaA,cA]
    generalize q[r.left.toNat]'(by omega)=qs at cA bx
    simp(disch:=omega)only[↓wr,seval,wq,t1,t2,t5,t6,t7,t8,t9,t41,t42,t43,bg,encI,aaE,E]
    intro b0 S
    have F:=A.new S 3 [bg r]
    have cg:d≠b0:=by rintro rfl;rw[j] at S;simp at S
    try simp(disch:=omega)only[↓wr,seval,wq,t1,t2,t5,t6,t7,t8,t9,t41,t42,t43,bg,encI,cI,aaE,cA,set_set]
    have U:∀ (P:Env) (H':View),cB p q r=false->H'=H2.set b0 (.arr 3 [bg r])->P 7=u3->P 1=.aL (ag g) 0->P 2=.ptr Q 0 0->P 5=cI p->P 6=cI q->P 8=.ptr O 0 0->P 9=.mp d->P 41=.aU (g.rules.map bg)->P 42=gi g.rules.length->P 43=gi ((i:Int)+1) ->
      ∃ k',k' < k/\EY g.rules.length k' (YA g p q Q O d B) P H':=by
     intro P H' W ec a7 a1 a2 a5 a6 a8 a9 a41 ha hb
     have M:cL p q (g.rules.take (i+1))=cL p q (g.rules.take i):=by rw[w,wD,aaD (by simp[W])]
     have e2:dD p q (g.rules.take (i+1)) 0=dD p q (g.rules.take i) 0:=by rw[w,mr];simp[dD,W]
     refine aG hk (by omega) ⟨⟨G,u3,a7,by rw[M];exact bn,by rw[M];omega,by rw[M,e2,ec];exact F.tail,mm,C,by rw[ec];simp[View.set,cg,j],by rw[M];exact D⟩,a1,a2,a5,a6,a8,a9,a41,ha,by rw[hb];rfl⟩
    cases qs with
    | false =>
     simp(disch:=omega)only[↓wr,seval,wq,t1,t2,t5,t6,t7,t8,t9,t41,t42,t43]
     refine U _ _ (by rw[cB,bx];rfl) ?_ ?_ ?_ ?_ ?_ ?_ ?_ ?_ ?_ ?_ ?_
     all_goals first | exact t7 | exact t1 | exact t2 | exact t5 | exact t6 | exact t8 | exact t9 | exact t41 | exact t42 | rfl | (rw[set_set];rfl)
    | true =>
     simp(disch:=omega)only[↓wr,seval,wq,t1,t2,t5,t6,t7,t8,t9,t41,t42,t43,bg,encI,cI]
     refine ax.pure (A9 r p (hg.au r l).2.2.1 (λs ee=>⟨(br s ee).1,λh=>by rw[dj];exact(br s ee).2 h⟩)) ?_
     simp(disch:=omega)only[↓wr,seval,wq,t1,t2,t5,t6,t7,t8,t9,t41,t42,t43]
     apply aj.split<;>intro cC
     .simp(disch:=omega)only[↓wr,seval,wq,t1,t2,t5,t6,t7,t8,t9,t41,t42,t43]
      have W:cB p q r=true:=by rw[cB,bx,cC];rfl
      intro m hm
      try simp(disch:=omega)only[↓wr,seval,wq,t1,t2,t5,t6,t7,t8,t9,t41,t42,t43,bz]
      have eg:=(cq hm cm).1
      have hm:=(cq (cq hm cm).2 cm).2
      have e:=(F.fresh (n:=m) (o:=.arr 1 [[gi i]]) (by simp only[View.set,aaD eg];exact hm)).at 2 (by simp)
      have cN:d≠m:=by rintro rfl;rw[j] at hm;simp at hm
      have ei:(dD p q (g.rules.take i) 0).length<=40:=by
       rw[mw]
       have h1:=abJ (cB p q) (g.rules.take i)
       have h2:(g.rules.take i).length<=i:=List.length_take_le _ _
       omega
      refine b6 (by rw[set_set];exact e) (by simp[aI]) (by unfold aC;simp at ei ⊢;omega) (by unfold aC;simp at ei ⊢;omega) ?_
      intro cS H3 f t
      have f11:=f.is 1 rfl (by simp)
      have f8:=f.is 2 rfl (by simp)
      have b1:Left ((H2.set b0 (.arr 3 [bg r])).set m (.arr 1 [[gi i]])) H3 u3 cS:=by rw[set_set] at t;exact t
      have f9:H3 d=.map (AN mm) C:=b1.map (b:=d) e.head (by simp[View.set,cg,cN,j])
      have hd:cT G=some (lD ((cL p q (g.rules.take i)).map λx=>g.al.getD x.toNat ⟨#[]⟩)).length:=(f.own 3 rfl).len
      simp only[bg,encI] at f11
      have e2:dD p q (g.rules.take (i+1)) 0=dD p q (g.rules.take i) 0 ++ [(i:Int)]:=by
       rw[w,mr];simp[dD,W,show i<=g.rules.length by omega]
      have M:cL p q (g.rules.take (i+1))=gI (cL p q (g.rules.take i)) r:=by rw[w,wD,aaF W]
      generalize cL p q (g.rules.take i)=o at *
      generalize dD p q (g.rules.take i) 0=kl at *
      simp(disch:=omega)only[↓wr,seval,wq,t1,t2,t5,t6,t8,t9,t41,t42,t43,f11,f8]
      refine WC (kt:=3) (et:=3) (z:=gi 0) (by kernel_rfl) (by kernel_rfl) (my .i64 Tryz.underlying3) (id:=d) (c:=C) (m:=mm) (k:=r.left) (by simp(disch:=omega)only[↓wr,seval,wq,t9]) (by simp(disch:=omega)only[↓wr,seval,wq]) f9 ?_
      rw[D.get,wm]
      have hj:o.length<=40:=by omega
      by_cases hx:r.left∈o
      .have u:gI o r=o:=by rw[gI,aaF hx]
       rw[aaF hx]
       simp(disch:=omega)only[↓wr,seval,wq,t1,t2,t5,t6,t8,t9,t41,t42,t43,Option.isSome_some]
       have hl:=(((f.at 1 (by simp)).tail).perm (.swap _ _ _))
       refine aG hk (by omega) ⟨⟨G,cS,rfl,by rw[M,u];exact bn,by rw[M,u];omega,?_,mm,C,f9,by rw[M,u];exact D⟩,t1,t2,t5,t6,t8,t9,t41,t42,rfl⟩
       rw[M,u,e2]
       simp only[aaW,aa9,acb]
       exact hl
      .have u:gI o r=o ++ [r.left]:=by rw[gI,aaD hx]
       rw[aaD hx]
       have cV:g.al[r.left.toNat]?=some (g.al[r.left.toNat]'(by omega)):=aaB (by omega)
       have ch:g.al.getD r.left.toNat ⟨#[]⟩=g.al[r.left.toNat]'(by omega):=by simp[aaA,cV]
       generalize g.al[r.left.toNat]'(by omega)=nm at cV ch
       simp(disch:=omega)only[↓wr,seval,wq,t1,t2,t5,t6,t8,t9,t41,t42,t43,Option.isSome_none,f11,f8,hd,aaJ]
       refine yj (kt:=3) (et:=3) (by kernel_rfl) (my .i64 Tryz.underlying3) (id:=d) (c:=C) (m:=mm) (k:=r.left) (v:=gi o.length) (by simp(disch:=omega)only[↓wr,seval,wq,t9]) (by simp(disch:=omega)only[↓wr,seval,wq]) (by simp(disch:=omega)only[↓wr,seval,wq]) f9 ?_
       intro c'
       have ek:O≠d:=El f 2 rfl f9
       have n119:b0≠d:=El f 1 rfl f9
       simp(disch:=omega)only[↓wr,seval,wq,t1,t2,t5,t6,t8,t9,t41,t42,t43,f11,f8,ek,n119,ag,encS,aaE,cV]
       intro m2 N
       have cj:=(cq N (by simp)).1
       have N:=(cq N (by simp)).2
       have eH:=((f.Ew f9 (o:=.map (AN (bV r.left (gi o.length) C mm)) c')).fresh (n:=m2) (o:=.arr 1 [[gs nm]]) (by simp only[View.set,aaD cj];exact N)).at 3 (by simp)
       try simp(disch:=omega)only[↓wr,seval,wq,t1,t2,t5,t6,t8,t9,t41,t42,t43,bz]
       refine b6 eH (by simp[aI]) (by unfold aC;simp;omega) (by unfold aC;simp;omega) ?_
       intro eX H5 b3 b4
       have c1:=b3.head.cells
       have k1:=b3.head.fL
       have c3:=b3.is 3 rfl (by simp)
       have hn:=b4.map (b:=d) (es:=AN (bV r.left (gi o.length) C mm)) (c:=c') eH.head (by simp[View.set,Ne.symm cj])
       have e0:d≠O:=ek.symm
       simp(disch:=omega)only[↓wr,seval,wq,t1,t2,t5,t6,t8,t9,t41,t42,t43,c3,c1,k1]
       have hq:=(b3.at 3 (by simp)).put (es':=[[B,eX,.emp 1,gi 0]]) rfl rfl
       have ht:=(((hq.at 3 (by simp)).tail).perm (.cons _ (.swap _ _ _)))
       refine aG hk (by omega) ⟨⟨eX,cS,rfl,?_,?_,?_,_,c',(by simp only[View.set,aaD e0];exact hn),?_⟩,t1,t2,t5,t6,t8,t9,t41,t42,rfl⟩
       .rw[M,u];intro x hz;rcases aa1.1 hz with h | h
        .exact bn x h
        .simp at h;subst h;exact⟨ea,eb⟩
       .rw[M,u];simp;omega
       .rw[M,u,e2]
        simp only[aaW,aa9,acb,ch]
        exact ht
       .rw[M,u,EJ,Int.zero_add,<-IK hx]
        exact D.put r.left (o.length:Int) C
     .simp(disch:=omega)only[↓wr,seval,wq,t1,t2,t5,t6,t7,t8,t9,t41,t42,t43]
      refine U _ _ (by rw[cB,bx,cC];rfl) ?_ ?_ ?_ ?_ ?_ ?_ ?_ ?_ ?_ ?_ ?_
      all_goals first | exact t7 | exact t1 | exact t2 | exact t5 | exact t6 | exact t8 | exact t9 | exact t41 | exact t42 | rfl | (rw[set_set];rfl)
   .rw[aaS (by omega)] at A bn cr D
    have hA:(dD p q g.rules 0).length<=40:=by
     rw[mw];have h1:=abJ (cB p q) g.rules;omega
    have hB:=wA p q g.rules 0
    have hV:=mw p q g.rules 0
    have e4:rq g (eV (cL p q g.rules)) p q=⟨g.ai,(cL p q g.rules).map λx=>g.al.getD x.toNat ⟨#[]⟩,(g.rules.filter (cB p q)).map (bS (eV (cL p q g.rules))),eV (cL p q g.rules) g.start⟩:=rfl
    rw[e4]
    clear e4
    generalize cL p q g.rules=o at *
    generalize dD p q g.rules 0=kl at *
    have hj:o.length<=40:=by omega
    have hC:cT u3=some (bH kl).length:=(A.own 1 rfl).len
    simp(disch:=omega)only[↓wr,seval,wq,t1,t2,t5,t6,t7,t8,t9,hC,aaJ]
    refine ba.up kl.length (Z8 g p q Q O d B G u3 o kl mm C) ?_ ?_
    .refine⟨⟨.emp 1,[],by simp,?_,j⟩,t1,t2,t7,t8,t9,t7,rfl,rfl⟩
     exact(A.emp (k:=1) (sz:=3)).perm (uz [(.sl O 0 1 4,4,[[B,G,.emp 1,gi 0]]),(u3,1,bH kl),(G,1,lD (o.map λx=>g.al.getD x.toNat ⟨#[]⟩)),(B,3,g.ai.map dg),(.emp 1,3,[]),(.sl Q 0 1 4,4,[[.emp 1,.emp 1,.emp 1,gi 0]])] 4 (by simp)).symm
    clear A j t1 t2 t5 t6 t7 t8 t9 t41 t42 t43
    rintro i k T H2 hk ⟨⟨u2,bs,b5,A,j⟩,t1,t2,t7,t8,t9,t91,t92,t93⟩
    simp(disch:=omega)only[↓wr,seval,wq,v7,t1,t2,t7,t8,t9,t91,t92,t93]
    apply aj.dec<;>intro hc
    .obtain⟨n3,e3,hE⟩:=(A.own 1 rfl).sl (by simp;omega)
     rw[aaJ] at e3
     subst e3
     obtain⟨m,c4,N,X⟩:=hB i (by omega)
     have e5:=mg (show i < kl.length by omega)
     rw[Int.zero_add] at c4
     have hF:kl[i]'(by omega)=(m:Int):=by
      rw[aaB (show i < kl.length by omega)] at c4;simpa using c4
     rw[hF] at e5
     have E:g.rules[m]?=some (g.rules[m]'X):=aaB X
     have l:g.rules[m]'X∈g.rules:=aaL _
     have w:(g.rules.filter (cB p q)).take (i+1)=(g.rules.filter (cB p q)).take i ++ [g.rules[m]'X]:=by
      rw[aa3,<-N,E];rfl
     generalize g.rules[m]'X=r at E l w
     obtain⟨gl,ea,eb,gr,br⟩:=hf.yn hg l
     simp(disch:=omega)only[↓wr,seval,wq,t1,t2,t7,t8,t9,t91,t92,t93,hE,e5,aaJ,ag,bg,encI,aaE,E]
     refine⟨by omega,by omega,?_⟩
     intro da I
     have F:=A.new I 3 [bg r]
     have Y:d≠da:=by rintro rfl;rw[j] at I;simp at I
     try simp(disch:=omega)only[↓wr,seval,wq,t1,t2,t7,t8,t9,t91,t92,t93,set_set]
     refine Cd (kt:=3) (et:=3) (z:=gi 0) (by kernel_rfl) (by kernel_rfl) (my .i64 Tryz.underlying3) (id:=d) (c:=C) (m:=mm) (k:=r.left) (by simp(disch:=omega)only[↓wr,seval,wq,t9]) (by simp(disch:=omega)only[↓wr,seval,wq]) (by simp[View.set,Y,j]) ?_
     have b7:∀ x,(getM mm x).getD (gi 0)=gi (eV o x):=λx=>by
      rw[D.get,eV];cases fe (kV o 0) x <;> rfl
     rw[b7]
     simp(disch:=omega)only[↓wr,seval,wq,t1,t2,t7,t8,t9,t91,t92,t93]
     refine ax.GJ (Rr r.right (by omega) _) ?_
     intro v H3 hv K
     have e:=bq.Gr (H:=H2.set da (.arr 3 [bg r])) F hv (by rw[set_set] at K;exact K)
     have db:H3 d=.map (AN mm) C:=by
      rw[(K d (by simp[View.set,Y,j])).1];simp[View.set,Y,j]
     have cv:=hv.cells
     have kv:=hv.fL
     have lv:=hv.len
     have f16:=e.is 1 rfl (by simp)
     simp only[bg,encI] at f16
     simp(disch:=omega)only[↓wr,seval,wq,t1,t2,t7,t8,t9,t91,t92,t93,f16,cv,kv]
     intro e6 J
     have a:=e.new J 3 [[gi (eV o r.left),v,gi r.prec]]
     have e7:d≠e6:=by rintro rfl;rw[db] at J;simp at J
     try simp(disch:=omega)only[↓wr,seval,wq,t1,t2,t7,t8,t9,t91,t92,t93,cv,kv,lv,set_set,aaJ]
     generalize hL:((V.sl O 0 1 4,4,[[B,G,u2,gi 0]]) :: (V.sl n3 0 kl.length 1,1,bH kl) ::
       (G,1,lD (o.map λx=>g.al.getD x.toNat ⟨#[]⟩)) :: (B,3,g.ai.map dg) :: (u2,3,iD bs) :: (V.sl Q 0 1 4,4,[[V.emp 1,V.emp 1,V.emp 1,gi 0]]) :: nF bs:List dH)=L at a
     refine ba.up r.right.length (ZQ g Q O d da e6 (.sl n3 0 kl.length 1) v o kl mm C r L i) ?_ ?_
     .exact⟨by rw[set_set];exact a,by simp[View.set,e7,db],t1,t2,t7,t8,t9,t91,t92,t93,rfl,rfl,rfl,rfl⟩
     clear F e a I J j db f16 hv K t1 t2 t7 t8 t9 t91 t92 t93
     rintro k k2 T H3 e8 ⟨a,j,t1,t2,t7,t8,t9,t91,t92,t93,t17,t113,t114,t115⟩
     have f17:=a.is 0 rfl (by simp)
     simp(disch:=omega)only[↓wr,seval,wq,vR,t1,t2,t7,t8,t9,t91,t92,t93,t17,t113,t114,t115]
     apply aj.dec<;>intro hG
     .have e9:r.right[k]?=some (r.right[k]'(by omega)):=aaB (by omega)
      have fb:r.right[k]'(by omega)∈r.right:=aaL _
      have hI:(bS (eV o) r).right.length=r.right.length:=by simp[bS]
      have Z:(bS (eV o) r).right.take (k+1)=(bS (eV o) r).right.take k ++ [if r.right[k]'(by omega) < 0 then -1 - eV o (-1 - r.right[k]'(by omega)) else r.right[k]'(by omega)]:=by
       rw[aa3];simp[bS,e9]
      have ff:=fq (show k < r.right.length by omega)
      generalize r.right[k]'(by omega)=s at e9 fb Z ff
      obtain⟨⟨s1,s2⟩,s3⟩:=br s fb
      have hX:=XM o (-1 - s)
      rw[ff] at a
      have hlen:(((bS (eV o) r).right.take k ++ s :: r.right.drop (k+1)).map λx=>[gi x]).length=r.right.length:=by simp;omega
      obtain⟨nv,ev,fl⟩:=(a.own 1 rfl).sl (by rw[hlen];omega)
      rw[hlen] at ev
      subst ev
      have ca:k < ((bS (eV o) r).right.take k ++ s :: r.right.drop (k+1)).length:=by simp;omega
      have an:=mg ca
      have hJ:((bS (eV o) r).right.take k ++ s :: r.right.drop (k+1))[k]'ca=s:=by
       rw[List.getElem_append_right (by simp;omega)]
       simp[show k - min k r.right.length=0 by omega,hI]
      rw[hJ] at an
      simp(disch:=omega)only[↓wr,seval,wq,t1,t2,t7,t8,t9,t91,t92,t93,t17,t113,t114,t115,fl,an,aaJ]
      refine⟨by omega,ca,?_⟩
      have fm:((bS (eV o) r).right.take k).length=k:=by rw[abn];omega
      have hK:nv≠d:=El a 1 rfl j
      apply aj.dec<;>intro aq
      .rw[aaF aq] at Z
       simp(disch:=omega)only[↓wr,seval,wq,t1,t2,t7,t8,t9,t91,t92,t93,t17,t113,t114,t115,f17]
       refine Cd (kt:=3) (et:=3) (z:=gi 0) (by kernel_rfl) (by kernel_rfl) (my .i64 Tryz.underlying3) (id:=d) (c:=C) (m:=mm) (k:=-1 - s) (by simp(disch:=omega)only[↓wr,seval,wq,t9]) (by simp(disch:=omega)only[↓wr,seval,wq]) j ?_
       rw[b7]
       simp(disch:=omega)only[↓wr,seval,wq,t1,t2,t7,t8,t9,t91,t92,t93,t17,t113,t114,t115,f17,fl,an,aaJ]
       refine⟨by omega,ca,?_⟩
       have ar:=((a.at 1 (by simp)).put (es':=((((bS (eV o) r).right.take k ++ s :: r.right.drop (k+1)).map λx=>[gi x]).set k [gi (-1 - eV o (-1 - s))])) (by simp) (by rw[hlen])).perm (.swap _ _ _)
       refine aG e8 (by omega) ⟨?_,by simp only[View.set,aaD hK.symm];exact j,t1,t2,t7,t8,t9,t91,t92,t93,t17,t113,t114,rfl⟩
       rw[ints_set,GI fm] at ar
       rw[Z,abl]
       rw[ints_set,GI fm]
       exact ar
      .rw[aaD aq] at Z
       simp(disch:=omega)only[↓wr,seval,wq,t1,t2,t7,t8,t9,t91,t92,t93,t17,t113,t114,t115]
       refine aG e8 (by omega) ⟨?_,j,t1,t2,t7,t8,t9,t91,t92,t93,t17,t113,t114,rfl⟩
       rw[Z,abl]
       exact a
     .rw[aaS (by simp[bS];omega),aa7 (by omega),abS] at a
      subst hL
      have f8:=a.is 3 rfl (by simp)
      have cv:=(a.own 1 rfl).cells
      have kv:=(a.own 1 rfl).fL
      have fs:(iD bs).length<=40:=by
       have h1:=abN List.length b5
       simp only[aaJ,abn] at h1
       simp only[iD,aaJ]
       omega
      simp(disch:=omega)only[↓wr,seval,wq,t1,t2,t7,t8,t9,t91,t92,t93,t17,t113,t114,t115,f8,f17,cv,kv]
      intro m hm
      have cN:d≠m:=by rintro rfl;rw[j] at hm;simp at hm
      try simp(disch:=omega)only[↓wr,seval,wq,t1,t2,t7,t8,t9,t91,t92,t93,t17,bz]
      have ar:=(a.fresh (o:=.arr 3 [[gi (eV o r.left),v,gi r.prec]]) hm).at 7 (by simp)
      refine b6 ar (by simp[Cg,kv]) (by unfold aC;simp at fs ⊢;omega) (by unfold aC;simp at fs ⊢;omega) ?_
      intro ft H4 bd t
      have cu:=bd.head.cells
      have ku:=bd.head.fL
      have c3:=bd.is 4 rfl (by simp)
      have fx:H4 d=.map (AN mm) C:=t.map (b:=d) ar.head (by simp[View.set,cN,j])
      have hM:d≠O:=(El bd 4 rfl fx).symm
      simp(disch:=omega)only[↓wr,seval,wq,t1,t2,t7,t8,t9,t91,t92,t93,t17,c3,cu,ku]
      have hP:=(bd.at 4 (by simp)).put (es':=[[B,G,ft,gi 0]]) rfl rfl
      have hS:=((((hP.at 2 (by simp)).tail).at 3 (by simp)).tail)
      refine aG hk (by omega) ⟨⟨ft,bs ++ [(v,bS (eV o) r)],?_,?_,by simp only[View.set,aaD hM];exact fx⟩,t1,t2,t7,t8,t9,t91,t92,rfl⟩
      .rw[aaW,b5,w,aaW];rfl
      .refine hS.perm (.cons _ ?_)
       simp only[nF,iD,aaW,aa9,acb]
       refine .trans ?_ (uz _ 3 (by simp)).symm
       refine .cons _ ?_
       exact(acu (v,1,bH (bS (eV o) r).right) ((.sl n3 0 kl.length 1,1,bH kl) :: (G,1,lD (o.map λx=>g.al.getD x.toNat ⟨#[]⟩)) :: (B,3,g.ai.map dg) :: (.sl Q 0 1 4,4,[[.emp 1,.emp 1,.emp 1,gi 0]]) :: nF bs)).symm
    .rw[aaS (by omega)] at b5
     have f8:=A.is 0 rfl (by simp)
     have f2:=A.is 5 rfl (by simp)
     have fz:O≠Q:=A.Ni 0 5 rfl rfl (by omega)
     have c1:=(A.own 2 rfl).cells
     have k1:=(A.own 2 rfl).fL
     have c2:=(A.own 4 rfl).cells
     have k2:=(A.own 4 rfl).fL
     have b7:∀ x,(getM mm x).getD (gi 0)=gi (eV o x):=λx=>by
      rw[D.get,eV];cases fe (kV o 0) x <;> rfl
     simp(disch:=omega)only[↓wr,seval,wq,t1,t2,t7,t8,t9,t91,t92,t93,ag]
     refine Cd (kt:=3) (et:=3) (z:=gi 0) (by kernel_rfl) (by kernel_rfl) (my .i64 Tryz.underlying3) (id:=d) (c:=C) (m:=mm) (k:=g.start) (by simp(disch:=omega)only[↓wr,seval,wq,t9]) (by simp(disch:=omega)only[↓wr,seval,wq]) j ?_
     rw[b7]
     simp(disch:=omega)only[↓wr,seval,wq,t1,t2,t7,t8,t9,t91,t92,t93,f8,f2,fz,fz.symm,c0,k0,c1,k1,c2,k2]
     intro h' hh
     have F:=A.put (es':=[[B,G,u2,gi (eV o g.start)]]) rfl rfl
     have e:=(F.at 5 (by simp)).put (es':=[[B,G,u2,gi (eV o g.start)]]) rfl rfl
     have hv:h'.view=(H2.set O (.arr 4 [[B,G,u2,gi (eV o g.start)]])).set Q (.arr 4 [[B,G,u2,gi (eV o g.start)]]):=hh
     rw[<-hv] at e
     exact Oy (x:=(⟨g.ai,o.map λx=>g.al.getD x.toNat ⟨#[]⟩,(g.rules.filter (cB p q)).map (bS (eV o)),eV o g.start⟩,kl,0)) (b:=bs) (e.own 4 rfl) (e.own 3 rfl) (e.own 5 rfl) (λy hy=>e.1 y (by
      refine aaV _ (aaV _ (aaV _ (aaV _ (aaV _ (aaV _ ?_)))))
      exact hy)) b5 (e.own 2 rfl)
 .rename_i hr
  intro h' hh
  rw[aaD (by simp[hr])]
  exact zJ
theorem M5 {l:List Int} {a b:List Bool} {t:Bool} (h:gf a b) (k:dB l a t=true):dB l b t=true:=by
 simp only[dB,aaZ] at k ⊢
 intro s d
 have:=k s d
 by_cases c:0<=s
 .rw[aaF c] at this ⊢;exact this
 .rw[aaD c] at this ⊢;exact h.2 _ this
theorem gf.tz {a b:List Bool} (h:gf a b) (k:gf b a):a=b:=by
 have h1:=h.dQ
 have c:=k.dQ
 exact h1.2 (by omega)
def qn (g:af) (t:Bool) (is:List Bool):Prop:=∀ i,is.getD i false=true->∃ r∈g.rules,r.left.toNat=i/\dB r.right is t=true
theorem qn.step {g:af} {t:Bool} {is:List Bool} {r:aX} (h:qn g t is) (hr:r∈g.rules):qn g t (fi t is r):=by
 have hle:gf is (fi t is r):=by
  unfold fi
  split
  .exact .set _ _
  .exact .refl _
 intro i hi
 by_cases e:is.getD i false=true
 .obtain⟨c,h1,d,f⟩:=h i e
  exact⟨c,h1,d,M5 hle f⟩
 .unfold fi at hi
  by_cases a:dB r.right is t=true
  .rw[aaF a] at hi
   have:r.left.toNat=i:=by
    refine abO λb=>e ?_
    simp only[aaA,abW,aaD b] at hi ⊢
    exact hi
   exact⟨r,hr,this,M5 hle a⟩
  .rw[aaD a] at hi;exact absurd hi e
theorem qn.fold {g:af} {t:Bool} : ∀ (l:List aX) (is:List Bool),(∀ r∈l,r∈g.rules)->qn g t is->qn g t (l.foldl (fi t) is)
 | [],is,_,h=>h
 | r :: l,is,a,h=>qn.fold l _ (λx b=>a x (by simp[b])) (h.step (a r (by simp)))
theorem qn.iter {g:af} {t:Bool} : ∀ (n:Nat) (is:List Bool),qn g t is->qn g t (iter (lg g t) n is)
 | 0,_,h=>h
 | n+1,is,h=>qn.iter n _ (qn.fold g.rules is (λ_ h=>h) h)
theorem Pj (g:af) (t:Bool):qn g t (av g t):=by
 unfold av
 split
 .refine qn.iter _ _ ?_
  intro i hi
  simp only[cQ,aaA,abV] at hi
  split at hi <;> simp at hi
 .intro i hi;simp at hi
theorem N4 (is:List Bool) (s:Int):gf is (mark is s):=by
 unfold mark
 split
 .exact .set _ _
 .exact .refl _
theorem DP:∀ (l:List Int) (is:List Bool),gf is (l.foldl mark is)
 | [],is=>.refl _
 | s :: l,is=>(N4 is s).trans (DP l _)
theorem JY (p is:List Bool) (r:aX):gf is (gJ p is r):=by
 unfold gJ
 split
 .exact DP _ _
 .exact .refl _
theorem KF (p:List Bool):∀ (l:List aX) (is:List Bool),gf is (l.foldl (gJ p) is)
 | [],is=>.refl _
 | r :: l,is=>(JY p is r).trans (KF p l _)
theorem Hu {p:List Bool} : ∀ {l:List aX} {is:List Bool},l.foldl (gJ p) is=is->∀ r∈l,gJ p is r=is
 | [],_,_,_,h=>by simp at h
 | r :: l,is,h,x,a=>by
  rw[abc] at h
  have h1:=KF p l (gJ p is r)
  rw[h] at h1
  have b:=(h1.tz (JY p is r))
  rcases aaT.1 a with rfl | a
  .exact b
  .rw[b] at h;exact Hu h x a
theorem HZ:∀ {l:List Int} {is:List Bool},l.foldl mark is=is->∀ s∈l,mark is s=is
 | [],_,_,_,h=>by simp at h
 | r :: l,is,h,x,a=>by
  rw[abc] at h
  have h1:=DP l (mark is r)
  rw[h] at h1
  have b:=(h1.tz (N4 is r))
  rcases aaT.1 a with rfl | a
  .exact b
  .rw[b] at h;exact HZ h x a
theorem G3 {g:af} (hr:bp g=true):ql g (av g true) (bP g)=bP g/\gf ((cQ g).set g.start.toNat true) (bP g):=by
 have a:=bj hr
 have h:=wv (uU (av g true)) g.rules 16 ((cQ g).set g.start.toNat true) (by have:=a.al;simp[cQ];omega)
 rw[Of,Tn hr] at h
 exact h
theorem wM {g:af} (hr:bp g=true):(bP g).getD g.start.toNat false=true:=by
 have a:=bj hr
 refine(G3 hr).2.2 _ ?_
 have b:=a.kj
 have c:=a.start
 simp only[aaA]
 rw[ab6 (by simp[cQ];omega)]
 rfl
theorem y8 {g:af} (hr:bp g=true) {r:aX} (hm:r∈g.rules) (hk:cB (av g true) (bP g) r=true) {s:Int} (b:s∈r.right) (c:s < 0):(bP g).getD (-1 - s).toNat false=true:=by
 have d:=bj hr
 have h1:=Hu (G3 hr).1 r hm
 unfold gJ at h1
 rw[cB] at hk
 rw[aaF hk] at h1
 have a:=HZ h1 s b
 unfold mark at a
 rw[aaF c] at a
 rw[<-a]
 have e:=sd hr
 have:=d.neg hm b c
 simp only[aaA]
 rw[ab6 (by omega)]
 rfl
theorem DZ {g:af} (hr:bp g=true) {x:Int} (d:0<=x) (hp:(av g true).getD x.toNat false=true) (a:(bP g).getD x.toNat false=true):x∈cL (av g true) (bP g) g.rules:=by
 obtain⟨r,h1,e,b⟩:=Pj g true _ hp
 have c:=bj hr
 have f:=c.left r h1
 have:r.left=x:=by omega
 refine uH.2 ⟨r,h1,?_,this⟩
 rw[cB,this,a,b];rfl
theorem PC (g:af):(if bp g=true then
  if (av g true).getD g.start.toNat false=true then (rq g (eV (cL (av g true) (bP g) g.rules)) (av g true) (bP g),dD (av g true) (bP g) g.rules 0,0)
  else (tC,[],9)
 else (tC,[],1))=gv g:=by
 unfold gv
 by_cases hr:bp g=true
 .rw[aaF hr,aaF hr]
  by_cases hp:(av g true).getD g.start.toNat false=true
  .rw[aaF hp,aaF hp]
   have c:=bj hr
   rw[TM]
   .exact DZ hr c.kj hp (wM hr)
   .intro r hm
    obtain⟨h1,a⟩:=abt.1 hm
    refine⟨uH.2 ⟨r,h1,a,rfl⟩,λs b d=>?_⟩
    refine DZ hr (by omega) ?_ (y8 hr h1 a b d)
    rw[cB,aaK] at a
    have:=a.2
    simp only[dB,aaZ] at this
    have:=this s b
    rwa [aaD (by omega)] at this
  .rw[aaD hp,aaD hp]
 .rw[aaD hr,aaD hr]
theorem P5 (g:af) (a:g.Ok) (b:g.Small):cK Tryz.prog 92 [.agg (ag g)] (zL (gv g)):=by
 rw[<-PC];exact Mi g a b
structure Cell where
 kind:Int
 n:Int
 deriving DecidableEq
structure iz where
 bo:List (List Cell)
 gotos:List (List Int)
 deriving DecidableEq
def iN (g:af) (n:Nat) (c:Cell):Bool:=if c.kind=0∨c.kind=3 then decide (c.n=0) else if c.kind=1 then decide (0<=c.n) && decide (c.n < n) else if c.kind=2 then decide (0<=c.n) && decide (c.n < g.rules.length) else false
def Bl (g:af) (n:Nat) (a:List Cell) (l:List Int):Bool:=decide (a.length=g.ai.length+1) && decide (l.length=g.al.length) && a.all (iN g n) && l.all λx=>decide (-1<=x) && decide (x < n)
def jK (g:af) (t:iz):Bool:=bp g && decide (1<=t.bo.length) && decide (t.bo.length<=300) && decide (t.gotos.length=t.bo.length) && (List.range t.bo.length).all λi=>Bl g t.bo.length (t.bo.getD i []) (t.gotos.getD i [])
def dI (t:iz) (s x:Int):Cell:=(t.bo.getD s.toNat []).getD x.toNat ⟨0,0⟩
def mR (t:iz) (s x:Int):Int:=(t.gotos.getD s.toNat []).getD x.toNat (-1)
def c5 (st:List Int):Int:=st.getD (st.length - 1) 0
def cp (g:af) (w:List Int) (at_:Nat):Int:=if at_ < w.length then w.getD at_ 0 else g.ai.length
def aA (g:af) (k:Int):aX:=g.rules.getD k.toNat ⟨0,[],0⟩
def kz (g:af) (t:iz) (w:List Int):Nat->List Int->List Int->Nat->List Int × Int × Int
 | k,st,rs,at_ =>
  if (dI t (c5 st) (cp g w at_)).kind=3/\at_=w.length then (rs,at_,0)
  else if (dI t (c5 st) (cp g w at_)).kind=0∨(dI t (c5 st) (cp g w at_)).kind=3∨(dI t (c5 st) (cp g w at_)).kind=1/\at_=w.length then ([],at_,3)
  else match k with
   | 0=>([],at_,14)
   | k+1 =>
    if (dI t (c5 st) (cp g w at_)).kind=1 then kz g t w k (st ++ [(dI t (c5 st) (cp g w at_)).n]) rs (at_+1)
    else if st.length<=(aA g (dI t (c5 st) (cp g w at_)).n).right.length then ([],at_,3)
    else if mR t (c5 (st.take (st.length - (aA g (dI t (c5 st) (cp g w at_)).n).right.length))) (aA g (dI t (c5 st) (cp g w at_)).n).left = -1 then ([],at_,3)
    else kz g t w k (st.take (st.length - (aA g (dI t (c5 st) (cp g w at_)).n).right.length) ++ [mR t (c5 (st.take (st.length - (aA g (dI t (c5 st) (cp g w at_)).n).right.length))) (aA g (dI t (c5 st) (cp g w at_)).n).left])
     (rs ++ [(dI t (c5 st) (cp g w at_)).n]) at_
def Ld (t:iz) (st:List Int):Prop:=st≠[]/\∀ x∈st,0<=x/\x < t.bo.length
theorem getD_some {α:Type} {l:List α} {j:Nat} {d:α} (h:j < l.length):l[j]?=some (l.getD j d):=by simp[aaA,h]
theorem LG {st:List Int} (h:st≠[]):c5 st∈st:=by
 have a:st.length - 1 < st.length:=by have:=ab7.2 h;omega
 unfold c5
 simp[aaA,a]
theorem zQ (st:List Int) (x:Int):c5 (st ++ [x])=x:=by simp[c5,aaA]
theorem Ld.app {t:iz} {st:List Int} {x:Int} (h:∀ y∈st,0<=y/\y < t.bo.length) (b:0<=x/\x < t.bo.length):Ld t (st ++ [x]):=by
 refine⟨by simp,λy a=>?_⟩
 rcases aa1.1 a with a | a
 .exact h y a
 .simp at a;subst a;exact b
theorem Ld.take {t:iz} {st:List Int} (h:Ld t st) {k:Nat} (hk:0 < k):Ld t (st.take k):=by
 refine⟨?_,λy a=>h.2 y (acB a)⟩
 intro e
 rcases List.take_eq_nil_iff.1 e with e | e
 .omega
 .exact h.1 e
structure rU (g:af) (t:iz):Prop where
 right:bp g=true
 n1:1<=t.bo.length
 n300:t.bo.length<=300
 len:t.gotos.length=t.bo.length
 row:∀ i,i < t.bo.length->Bl g t.bo.length (t.bo.getD i []) (t.gotos.getD i [])=true
theorem wP {g:af} {t:iz} (h:jK g t=true):rU g t:=by
 unfold jK at h
 simp only[aaK,aaP,aaZ,abA] at h
 exact⟨h.1.1.1.1,h.1.1.1.2,h.1.1.2,h.1.2,h.2⟩
theorem rU.qE {g:af} {t:iz} (h:rU g t) {i:Nat} (hi:i < t.bo.length):(t.bo.getD i []).length=g.ai.length+1/\(t.gotos.getD i []).length=g.al.length/\(∀ c∈t.bo.getD i [],iN g t.bo.length c=true)/\∀ x∈t.gotos.getD i [],-1<=x/\x < t.bo.length:=by
 have:=h.row i hi
 unfold Bl at this
 simp only[aaK,aaP,aaZ] at this
 exact⟨this.1.1.1,this.1.1.2,this.1.2,this.2⟩
theorem rU.cell {g:af} {t:iz} (h:rU g t) {s x:Int} (c:0<=s/\s < t.bo.length) (d:0<=x/\x<=g.ai.length):iN g t.bo.length (dI t s x)=true/\(t.bo.getD s.toNat [])[x.toNat]?=some (dI t s x):=by
 have hi:s.toNat < t.bo.length:=by omega
 obtain⟨h1,_,a,_⟩:=h.qE hi
 have b:x.toNat < (t.bo.getD s.toNat []).length:=by omega
 have e:(t.bo.getD s.toNat [])[x.toNat]?=some (dI t s x):=getD_some b
 exact⟨a _ (aaI e),e⟩
theorem rU.go {g:af} {t:iz} (h:rU g t) {s x:Int} (c:0<=s/\s < t.bo.length) (d:0<=x/\x < g.al.length):(-1<=mR t s x/\mR t s x < t.bo.length)/\(t.gotos.getD s.toNat [])[x.toNat]?=some (mR t s x):=by
 have hi:s.toNat < t.bo.length:=by omega
 obtain⟨_,f,_,a⟩:=h.qE hi
 have b:x.toNat < (t.gotos.getD s.toNat []).length:=by omega
 have e:(t.gotos.getD s.toNat [])[x.toNat]?=some (mR t s x):=getD_some b
 exact⟨a _ (aaI e),e⟩
def vd (g:af) (t:iz) (w:List Int):List Int × Int × Int:=if (bp g && decide (w.length<=60) && (w.all λx=>decide (0<=x) && decide (x < g.ai.length)) && jK g t)=true then kz g t w 2000 [0] [] 0 else ([],0,1)
theorem Js {x:Int} : ∀ (o:List Int) (i:Int),x∈o->∃ k:Nat,dM (λy=>y == x) o i=i+k/\o[k]?=some x
 | [],_,h=>by simp at h
 | y :: o,i,h=>by
  by_cases e:y=x
  .exact⟨0,by simp[dM,e],by simp[e]⟩
  .have a:x∈o:=by
    rcases aaT.1 h with rfl | h
    .exact absurd rfl e
    .exact h
   obtain⟨k,h1,b⟩:=Js o (i+1) a
   exact⟨k+1,by simp only[dM];rw[aaD (by simp[e]),h1];push_cast;omega,by simpa using b⟩
theorem Vg {o:List Int} {x:Int} (h:x∈o):o[(bN o x).toNat]?=some x:=by
 obtain⟨k,h1,a⟩:=Js o 0 h
 have:bN o x=k:=by unfold bN;omega
 rw[this];simpa using a
theorem MM {o:List Int} (b:o.Nodup) {k:Nat} {x:Int} (h:o[k]?=some x):bN o x=k:=by
 have a:=aaI h
 have h1:=Vg a
 have f:=pB a
 obtain⟨hk,c⟩:=aaR.1 h
 obtain⟨d,e⟩:=aaR.1 h1
 have:=(List.getElem_inj b).1 (e.trans c.symm)
 omega
theorem vg:∀ (l:List aX) (acc:List Int),acc.Nodup->(l.foldl gI acc).Nodup
 | [],_,h=>h
 | r :: l,acc,h=>vg l _ (FI h)
theorem Pc (p q:List Bool) (l:List aX):(cL p q l).Nodup:=vg _ _ List.nodup_nil
theorem Vb (acc:List Int) (r:aX):∃ m,gI acc r=acc ++ m:=by
 unfold gI
 split
 .exact⟨[],by simp⟩
 .exact⟨_,rfl⟩
theorem xH:∀ (l:List aX) (acc:List Int),∃ m,l.foldl gI acc=acc ++ m
 | [],acc=>⟨[],by simp⟩
 | r :: l,acc=>by
  obtain⟨m,hm⟩:=Vb acc r
  obtain⟨k,hk⟩:=xH l (gI acc r)
  exact⟨m ++ k,by rw[abc,hk,hm,abl]⟩
theorem Va {a b:List Int} {x:Int} (h:x∈a):bN (a ++ b) x=bN a x:=by
 unfold bN
 rw[xn _ _ _ _ (by omega)]
 have:=pB h
 unfold bN at this
 rw[aaF this.1]
theorem yN {r:af} {o:List Int} (c:o.Nodup) (hr:r.al.length=o.length):∀ (l:List aX) (acc:List Int),o=l.foldl gI acc->(∀ x∈l,js r (bS (bN o) x)=true)->iE r (l.map (bS (bN o))) ((acc.length:Int) - 1)=true
 | [],acc,h,_=>by
  simp only[acd] at h
  simp[iE,hr,h]
 | x :: l,acc,h,a=>by
  simp only[aa9,iE,aaK,aaP]
  rw[abc] at h
  have h1:(bS (bN o) x).left=bN o x.left:=rfl
  obtain⟨m,hm⟩:=xH l (gI acc x)
  rw[<-h] at hm
  by_cases b:x.left∈acc
  .have e:gI acc x=acc:=by unfold gI;rw[aaF b]
   rw[e] at hm h
   have g:=pB b
   have d:bN o x.left=bN acc x.left:=by rw[hm];exact Va b
   rw[h1,d,aaD (by omega)]
   exact⟨⟨⟨g.1,by omega⟩,a x (by simp)⟩,yN c hr l acc h λy f=>a y (by simp[f])⟩
  .have e:gI acc x=acc ++ [x.left]:=by unfold gI;rw[aaD b]
   rw[e] at hm h
   have d:bN o x.left=acc.length:=MM c (by rw[hm];simp)
   rw[h1,d,aaF (by omega)]
   refine⟨⟨⟨by omega,by omega⟩,a x (by simp)⟩,?_⟩
   have:=yN c hr l (acc ++ [x.left]) h λy f=>a y (by simp[f])
   rw[aa4] at this
   simpa using this
theorem CM {g r:af} (h:r.ai=g.ai):∀ (l:List Term) (i:Int),k7 r l i=k7 g l i
 | [],_=>rfl
 | t :: l,i=>by
  simp only[k7,CM h l]
  congr 1
  simp only[lR,nV,tR,h]
theorem IW {o:List Int} {n:Nat} (h:o.Nodup) (a:∀ x∈o,0<=x/\x < n):o.length<=n:=by
 have:=oV o ((List.range n).map λ(k:Nat)=>(k:Int)) h λx b=>by
  have:=a x b
  exact aaX.2 ⟨x.toNat,abA.2 (by omega),by omega⟩
 simpa using this
structure km (g:af) (p q:List Bool) (o:List Int) (r:af):Prop where
 right:bp g=true
 pe:p=av g true
 qe:q=bP g
 oe:o=cL p q g.rules
 re:r=rq g (bN o) p q
 nodup:o.Nodup
 inside:∀ x∈o,0<=x/\x < g.al.length
 kept:∀ R∈g.rules,cB p q R=true->R.left∈o/\∀ s∈R.right,s < 0->-1 - s∈o
 from_:∀ x∈o,∃ R∈g.rules,cB p q R=true/\R.left=x
 start:g.start∈o
theorem QO {g:af} (hr:bp g=true) (hp:(av g true).getD g.start.toNat false=true):km g (av g true) (bP g) (cL (av g true) (bP g) g.rules) (rq g (bN (cL (av g true) (bP g) g.rules)) (av g true) (bP g)):=by
 have b:=bj hr
 refine⟨hr,rfl,rfl,rfl,rfl,Pc _ _ _,λx a=>?_,λR hm hk=>⟨uH.2 ⟨R,hm,hk,rfl⟩,λs c d=>?_⟩,λx a=>uH.1 a,DZ hr b.kj hp (wM hr)⟩
 .obtain⟨R,h1,_,rfl⟩:=uH.1 a
  exact b.left R h1
 .refine DZ hr (by omega) ?_ (y8 hr hm hk c d)
  rw[cB,aaK] at hk
  have:=hk.2
  simp only[dB,aaZ] at this
  have:=this s c
  rwa [aaD (by omega)] at this
section
variable {g r:af} {p q:List Bool} {o:List Int}
theorem km.rules (h:km g p q o r):r.rules=(g.rules.filter (cB p q)).map (bS (bN o)):=by rw[h.re];rfl
theorem km.al (h:km g p q o r):r.al=o.map λx=>g.al.getD x.toNat ⟨#[]⟩:=by rw[h.re,h.oe];rfl
theorem km.ai (h:km g p q o r):r.ai=g.ai:=by rw[h.re];rfl
theorem km.LQ (h:km g p q o r):r.start=bN o g.start:=by rw[h.re];rfl
theorem km.len (h:km g p q o r):r.al.length=o.length:=by rw[h.al];simp
theorem km.Bc (h:km g p q o r):bp r=true:=by
 have Q:=bj h.right
 have E:=h.right
 simp only[bp,lq,mn,aaK,aaP] at E ⊢
 obtain⟨⟨⟨⟨⟨⟨⟨I,a2⟩,⟨a3,a4⟩,a5⟩,R⟩,S⟩,T⟩,a9⟩,t⟩:=E
 have J:=pB h.start
 have K:o.length<=g.al.length:=IW h.nodup h.inside
 have c:g.al.Nodup/\∀ s∈g.al,gZ (gp s)=true/\nV g s < 0:=by
  rw[vX] at a5
  refine⟨(wJ g.al).1 λk s hk=>?_,λs i=>?_⟩
  .have:=a5 k s hk
   simp only[nD,Bg,aaK,abB] at this
   have:=this.1.2
   omega
  .obtain⟨k,hk⟩:=List.getElem?_of_mem i
   have:=a5 k s hk
   simp only[nD,aaK,aaP] at this
   exact⟨this.1.1,this.2⟩
 have a:∀ x∈o,∃ (b:x.toNat < g.al.length),g.al.getD x.toNat ⟨#[]⟩=g.al[x.toNat]:=λx b=>by
  have:=h.inside x b
  exact⟨by omega,by simp[aaA,aaB (show x.toNat < g.al.length by omega)]⟩
 have u:r.al.Nodup:=by
  rw[h.al,acs,acL]
  refine(List.Pairwise.and_mem.1 h.nodup).imp ?_
  rintro x y ⟨b,F,v⟩ e
  obtain⟨h1,w⟩:=a x b
  obtain⟨G,j⟩:=a y F
  rw[w,j] at e
  have U:=(List.getElem_inj c.1).1 e
  have V:=h.inside x b
  have W:=h.inside y F
  exact v (by omega)
 have l:(g.rules.filter (cB p q)).length<=g.rules.length:=abJ _ _
 obtain⟨X,z,A,_⟩:=h.from_ _ h.start
 have H:0 < (g.rules.filter (cB p q)).length:=List.length_pos_of_mem (abt.2 ⟨z,A⟩)
 have L:r.rules.length=(g.rules.filter (cB p q)).length:=by rw[h.rules];simp
 refine⟨⟨⟨⟨⟨⟨⟨by rw[h.ai];exact I,?_⟩,⟨by rw[h.len];omega,by rw[h.len];omega⟩,?_⟩,by omega⟩,by omega⟩,by rw[h.LQ];omega⟩,by rw[h.LQ,h.len];omega⟩,?_⟩
 .rw[h.ai,CM h.ai];exact a2
 .rw[vX]
  intro k s hk
  have hm:=aaI hk
  have d:=(wJ r.al).2 u k s hk
  rw[h.al,aaX] at hm
  obtain⟨x,b,rfl⟩:=hm
  obtain⟨h1,w⟩:=a x b
  obtain⟨G,j⟩:=c.2 _ (w ▸ aaL h1:g.al.getD x.toNat ⟨#[]⟩∈g.al)
  simp only[nD,Bg,aaK,abB,aaP]
  refine⟨⟨G,by rw[d];omega⟩,?_⟩
  simp only[nV,h.ai] at j ⊢
  exact j
 .rw[h.rules]
  have:=yN (r:=r) h.nodup h.len (g.rules.filter (cB p q)) [] (by rw[h.oe];rfl) (λx b=>?_)
  .simpa using this
  obtain⟨hm,hk⟩:=abt.1 b
  obtain⟨_,B⟩:=h.kept x hm hk
  have m:=(BD _ _ t).2 x hm
  have m:=m.2.2
  simp only[js,aaK,aaP,aaZ] at m ⊢
  obtain⟨⟨⟨M,N⟩,O⟩,P⟩:=m
  refine⟨⟨⟨by simpa [bS] using M,N⟩,by rw[h.ai];exact O⟩,λs i=>?_⟩
  simp only[bS,aaX] at i
  obtain⟨n,f,rfl⟩:=i
  have C:=P n f
  by_cases D:n < 0
  .rw[aaF D]
   have Y:=pB (B n f D)
   simp only[ot,dL,aaK]
   rw[aaD (by omega),decide_eq_false (p:=0≤-1 - bN o (-1 - n)) (by omega)]
   simp only[h.len,aaP,ab2,Bool.not_false,and_true]
   omega
  .rw[aaD D]
   simp only[ot,dL,h.ai] at C ⊢
   rw[aaF (by omega)] at C ⊢
   exact C
end
inductive vH (g:af):Int->Prop
 | mk (R:aX):R∈g.rules->(∀ s∈R.right,s < 0->vH g (-1 - s))->vH g R.left
inductive qp (g:af) (p:List Bool):Int->Prop
 | start:qp g p g.start
 | next (R:aX) (s:Int):R∈g.rules->qp g p R.left->dB R.right p true=true->s∈R.right->s < 0->qp g p (-1 - s)
theorem zD {l:List Int} {p:List Bool} : dB l p true=true↔∀ s∈l,s < 0->p.getD (-1 - s).toNat false=true:=by
 simp only[dB,aaZ]
 constructor
 .intro h s a b
  have:=h s a
  rwa [aaD (by omega)] at this
 .intro h s a
  by_cases b:s < 0
  .rw[aaD (by omega)];exact h s a b
  .rw[aaF (by omega)]
theorem Dr {l:List Bool} {i j:Nat} (h:(l.set i true).getD j false=true):j=i∨l.getD j false=true:=by
 by_cases e:i=j
 .exact .inl e.symm
 .right
  simp only[aaA,abW,aaD e] at h ⊢
  exact h
theorem F1 {g:af} {i:Nat} : (cQ g).getD i false=false:=by
 simp only[cQ,aaA,abV]
 split <;> rfl
theorem BN {g:af} (hr:bp g=true):∀ i:Nat,(av g true).getD i false=true->vH g i:=by
 have k:=bj hr
 have b:∀ (is:List Bool) (R:aX),R∈g.rules->(∀ i:Nat,is.getD i false=true->vH g i)->∀ i:Nat,(fi true is R).getD i false=true->vH g i:=by
  intro is R f h i hi
  unfold fi at hi
  split at hi
  .rename_i m
   rcases Dr hi with rfl | hi
   .have:=k.left R f
    have e:((R.left.toNat:Nat):Int)=R.left:=by omega
    rw[e]
    refine .mk R f λs o p=>?_
    have:=h _ (zD.1 m s o p)
    rwa [show (((-1 - s).toNat:Nat):Int) = -1 - s by omega] at this
   .exact h i hi
  .exact h i hi
 have a:∀ (l:List aX) (is:List Bool),(∀ R∈l,R∈g.rules)->(∀ i:Nat,is.getD i false=true->vH g i)->∀ i:Nat,(l.foldl (fi true) is).getD i false=true->vH g i:=by
  intro l
  induction l with
  | nil=>intro is _ h;exact h
  | cons R l c=>intro is j h;exact c _ (λx q=>j x (by simp[q])) (b is R (j R (by simp)) h)
 have d:∀ (n:Nat) (is:List Bool),(∀ i:Nat,is.getD i false=true->vH g i)->∀ i:Nat,(iter (lg g true) n is).getD i false=true->vH g i:=by
  intro n
  induction n with
  | zero=>intro is h;exact h
  | succ n c=>intro is h;exact c _ (a g.rules is (λ_ h=>h) h)
 rw[av,aaF hr]
 exact d _ _ λi hi=>by rw[F1] at hi;simp at hi
theorem IN (t:Bool) (is:List Bool) (R:aX):gf is (fi t is R):=by
 unfold fi
 split
 .exact .set _ _
 .exact .refl _
theorem HI (t:Bool):∀ (l:List aX) (is:List Bool),gf is (l.foldl (fi t) is)
 | [],is=>.refl _
 | R :: l,is=>(IN t is R).trans (HI t l _)
theorem Ey {t:Bool} : ∀ {l:List aX} {is:List Bool},l.foldl (fi t) is=is->∀ R∈l,fi t is R=is
 | [],_,_,_,h=>by simp at h
 | R :: l,is,h,x,a=>by
  rw[abc] at h
  have h1:=HI t l (fi t is R)
  rw[h] at h1
  have b:=(h1.tz (IN t is R))
  rcases aaT.1 a with rfl | a
  .exact b
  .rw[b] at h;exact Ey h x a
theorem Rb {g:af} (hr:bp g=true) (t:Bool):lg g t (av g t)=av g t:=by
 have a:=bj hr
 have h:=wv (uC t) g.rules 16 (cQ g) (by have:=a.al;simp[cQ];omega)
 rw[NW,Q4 hr] at h
 exact h.1
theorem mf {g:af} (hr:bp g=true) {t:Bool} {R:aX} (a:R∈g.rules) (b:dB R.right (av g t) t=true):(av g t).getD R.left.toNat false=true:=by
 have h1:=Ey (Rb hr t) R a
 have c:=bj hr
 have d:=jf hr t
 have e:=c.left R a
 unfold fi at h1
 rw[aaF b] at h1
 rw[<-h1]
 simp only[aaA]
 rw[ab6 (by omega)]
 rfl
theorem Bv {g:af} (hr:bp g=true) {x:Int} (h:vH g x):(av g true).getD x.toNat false=true:=by
 induction h with
 | mk R a _ b=>exact mf hr a (zD.2 λs c d=>b s c d)
theorem A4 {g:af} (hr:bp g=true):∀ i:Nat,(bP g).getD i false=true->qp g (av g true) i:=by
 have o:=bj hr
 have f:∀ (R:aX),R∈g.rules->qp g (av g true) R.left->dB R.right (av g true) true=true->∀ (l:List Int) (is:List Bool),(∀ s∈l,s∈R.right)->(∀ i:Nat,is.getD i false=true->qp g (av g true) i)->∀ i:Nat,(l.foldl mark is).getD i false=true->qp g (av g true) i:=by
  intro R d e b l
  induction l with
  | nil=>intro is _ h;exact h
  | cons s l c =>
   intro is p h
   refine c _ (λx j=>p x (by simp[j])) λi hi=>?_
   unfold mark at hi
   split at hi
   .rename_i q
    rcases Dr hi with rfl | hi
    .rw[show (((-1 - s).toNat:Nat):Int) = -1 - s by omega]
     exact .next R s d e b (p s (by simp)) q
    .exact h i hi
   .exact h i hi
 have k:∀ (is:List Bool) (R:aX),R∈g.rules->(∀ i:Nat,is.getD i false=true->qp g (av g true) i)->∀ i:Nat,(gJ (av g true) is R).getD i false=true->qp g (av g true) i:=by
  intro is R d h
  unfold gJ
  split
  .rename_i b
   rw[aaK] at b
   have h1:=h _ b.1
   have:=o.left R d
   rw[show ((R.left.toNat:Nat):Int)=R.left by omega] at h1
   exact f R d h1 b.2 R.right is (λ_ h=>h) h
  .exact h
 have a:∀ (l:List aX) (is:List Bool),(∀ R∈l,R∈g.rules)->(∀ i:Nat,is.getD i false=true->qp g (av g true) i)->∀ i:Nat,(l.foldl (gJ (av g true)) is).getD i false=true->qp g (av g true) i:=by
  intro l
  induction l with
  | nil=>intro is _ h;exact h
  | cons R l c=>intro is e h;exact c _ (λx j=>e x (by simp[j])) (k is R (e R (by simp)) h)
 have m:∀ (n:Nat) (is:List Bool),(∀ i:Nat,is.getD i false=true->qp g (av g true) i)->∀ i:Nat,(iter (ql g (av g true)) n is).getD i false=true->qp g (av g true) i:=by
  intro n
  induction n with
  | zero=>intro is h;exact h
  | succ n c=>intro is h;exact c _ (a g.rules is (λ_ h=>h) h)
 rw[bP,aaF hr]
 refine m _ _ λi hi=>?_
 rcases Dr hi with rfl | hi
 .have:=o.kj
  rw[show ((g.start.toNat:Nat):Int)=g.start by omega]
  exact .start
 .rw[F1] at hi;simp at hi
theorem AM {g:af} (hr:bp g=true) {x:Int} (h:qp g (av g true) x):(bP g).getD x.toNat false=true:=by
 induction h with
 | start=>exact wM hr
 | next R s a _ b c d e=>exact y8 hr a (by rw[cB,e,b];rfl) c d
section
variable {g r:af} {p q:List Bool} {o:List Int}
theorem km.SN (h:km g p q o r) {x:Int} (k:vH g x):x∈o->vH r (bN o x):=by
 induction k with
 | mk R j b l =>
  intro m
  obtain⟨u,n,c,t⟩:=h.from_ _ m
  have hk:cB p q R=true:=by
   rw[cB,aaK] at c ⊢
   refine⟨by rw[<-t];exact c.1,?_⟩
   rw[h.pe]
   exact zD.2 λs e a=>Bv h.right (b s e a)
  have f:=(h.kept R j hk).2
  have hm:bS (bN o) R∈r.rules:=by rw[h.rules];exact aaX.2 ⟨R,abt.2 ⟨j,hk⟩,rfl⟩
  refine vH.mk (bS (bN o) R) hm λv d i=>?_
  simp only[bS,aaX] at d
  obtain⟨s,e,rfl⟩:=d
  by_cases a:s < 0
  .rw[aaF a]
   have:=l s e a (f s e a)
   rwa [show -1 - (-1 - bN o (-1 - s))=bN o (-1 - s) by omega]
  .rw[aaD a] at i;omega
theorem km.Zk (h:km g p q o r) {x:Int} (a:x∈o):(av r true).getD (bN o x).toNat false=true:=by
 obtain⟨R,c,hk,rfl⟩:=h.from_ _ a
 rw[cB,aaK,h.pe] at hk
 have h1:=mf h.right c hk.2
 have b:=BN h.right _ h1
 have:=(h.inside _ a)
 rw[show ((R.left.toNat:Nat):Int)=R.left by omega] at b
 exact Bv h.Bc (h.SN b a)
theorem km.at_ (h:km g p q o r) {k:Nat} (hk:k < o.length):∃ x∈o,bN o x=k/\o[k]?=some x:=⟨o[k],aaL _,MM h.nodup (aaB hk),aaB hk⟩
theorem km.HK (h:km g p q o r) {k:Nat} (hk:k < o.length):(av r true).getD k false=true:=by
 obtain⟨x,a,h1,_⟩:=h.at_ hk
 have:=h.Zk a
 rwa [h1,aa0] at this
theorem km.Yd (h:km g p q o r) {R:aX} (a:R∈r.rules):dB R.right (av r true) true=true:=by
 have b:=bj h.Bc
 refine zD.2 λs c d=>h.HK ?_
 have:=b.neg a c d
 rw[h.len] at this
 omega
theorem km.rch (h:km g p q o r) {x:Int} (e:qp g (av g true) x):qp r (av r true) (bN o x):=by
 induction e with
 | start=>rw[<-h.LQ];exact .start
 | next R s b h1 f c d i =>
  have hk:cB p q R=true:=by
   rw[cB,h.pe,h.qe,f,AM h.right h1];rfl
  have hm:bS (bN o) R∈r.rules:=by rw[h.rules];exact aaX.2 ⟨R,abt.2 ⟨b,hk⟩,rfl⟩
  have a:=(h.kept R b hk).2 s c d
  have j:=pB a
  have:=qp.next (g:=r) (p:=av r true) (bS (bN o) R) (-1 - bN o (-1 - s)) hm i (h.Yd hm) (by
   simp only[bS,aaX]
   exact⟨s,c,by rw[aaF d]⟩) (by omega)
  rwa [show -1 - (-1 - bN o (-1 - s))=bN o (-1 - s) by omega] at this
theorem km.Ro (h:km g p q o r) {k:Nat} (hk:k < o.length):(bP r).getD k false=true:=by
 obtain⟨x,b,h1,_⟩:=h.at_ hk
 obtain⟨R,d,a,rfl⟩:=h.from_ _ b
 rw[cB,aaK,h.qe] at a
 have c:=A4 h.right _ a.1
 have:=(h.inside _ b)
 rw[show ((R.left.toNat:Nat):Int)=R.left by omega] at c
 have:=AM h.Bc (h.rch c)
 rwa [h1,aa0] at this
end
def isRed (g:af):Bool:=(gv g).2.2 == 0 && decide (g=(gv g).1)
def TG (p:List Int) (i:Nat) (s:Int):Prop:=∃ c,p[i]?=some c/\(c=s∨c = -1)
inductive Sp (g:af) (p:List Int):List Int->Nat->Nat->Prop
 | nil (i:Nat):Sp g p [] i i
 | term (s:Int) (l:List Int) (i j:Nat):0<=s->TG p i s->Sp g p l (i+1) j->Sp g p (s :: l) i j
 | vZ (s:Int) (l:List Int) (R:aX) (i k j:Nat):s < 0->R∈g.rules->R.left = -1 - s->Sp g p R.right i k->Sp g p l k j->Sp g p (s :: l) i j
theorem Sp.le {g:af} {p:List Int} {l:List Int} {i j:Nat} (h:Sp g p l i j):i<=j:=by
 induction h with
 | nil=>exact aaM _
 | term _ _ _ _ _ _ _ c=>omega
 | vZ _ _ _ _ _ _ _ _ _ _ _ a b=>omega
theorem Sp.app {g:af} {p:List Int} {a:List Int} {i k:Nat} (h:Sp g p a i k):∀ {b:List Int} {j:Nat},Sp g p b k j->Sp g p (a ++ b) i j:=by
 induction h with
 | nil=>exact λh=>h
 | term s l i _ c f _ m=>exact λd=>.term s _ i _ c f (m d)
 | vZ s l R i k _ c n o h1 _ _ e=>exact λd=>.vZ s _ R i k _ c n o h1 (e d)
theorem Sp.split {g:af} {p:List Int} : ∀ {a b:List Int} {i j:Nat},Sp g p (a ++ b) i j->∃ k,Sp g p a i k/\Sp g p b k j
 | [],b,i,j,h=>⟨i,.nil i,h⟩
 | s :: a,b,i,j,h=>by
  cases h with
  | term _ _ _ _ c e h =>
   obtain⟨k,h1,d⟩:=Sp.split h
   exact⟨k,.term s a i k c e h1,d⟩
  | vZ _ _ R _ m _ c f l h1 h =>
   obtain⟨k,d,n⟩:=Sp.split h
   exact⟨k,.vZ s a R i m k c f l h1 d,n⟩
theorem NR {g:af} (hr:bp g=true) {p l:List Int} {i j:Nat} (h:Sp g p l i j):i=j->dB l (av g false) false=true:=by
 induction h with
 | nil=>intro _;rfl
 | term _ _ _ _ _ _ h _=>intro e;have:=h.le;omega
 | vZ s l R i k j m c d h1 f a b =>
  intro e
  have n:=h1.le
  have o:=f.le
  have g1:=mf hr c (a (by omega))
  rw[d] at g1
  have g2:=b (by omega)
  simp only[dB,abQ,aaK] at g2 ⊢
  rw[aaD (by omega)]
  exact⟨g1,g2⟩
structure Item where
 au:Nat
 dot:Nat
 RZ:Nat
 deriving DecidableEq
structure aak (g:af) (p:List Int) (S:Nat->List Item):Prop where
 start:∀ (i:Nat) (R:aX),g.rules[i]?=some R->R.left=g.start->⟨i,0,0⟩∈S 0
 term:∀ a x R s,x∈S a->g.rules[x.au]?=some R->R.right[x.dot]?=some s->0<=s->TG p a s->⟨x.au,x.dot+1,x.RZ⟩∈S (a+1)
 pred:∀ a x R s i R',x∈S a->g.rules[x.au]?=some R->R.right[x.dot]?=some s->s < 0->g.rules[i]?=some R'->R'.left = -1 - s->a<=p.length->⟨i,0,a⟩∈S a
 null:∀ a x R s,x∈S a->g.rules[x.au]?=some R->R.right[x.dot]?=some s->s < 0->(av g false).getD (-1 - s).toNat false=true->a<=p.length->⟨x.au,x.dot+1,x.RZ⟩∈S a
 comp:∀ a y R' x R s,y∈S a->g.rules[y.au]?=some R'->y.dot=R'.right.length->y.RZ < a->x∈S y.RZ->g.rules[x.au]?=some R->R.right[x.dot]?=some s->s < 0->R'.left = -1 - s->a<=p.length->⟨x.au,x.dot+1,x.RZ⟩∈S a
abbrev Tb:=List (List (List Bool))
def UM (T:Tb) (n i j:Nat):Bool:=((T.getD n []).getD i []).getD j false
open Classical in
noncomputable def YB (g:af) (p:List Int):Tb:=(List.range g.al.length).map λ(n:Nat)=>(List.range (p.length+1)).map λ(i:Nat)=>(List.range (p.length+1)).map λ(j:Nat)=>decide (Sp g p [-1 - (n:Int)] i j)
theorem Ym {g:af} {p:List Int} {n i j:Nat} (a:n < g.al.length) (hi:i<=p.length) (b:j<=p.length):UM (YB g p) n i j=true↔Sp g p [-1 - (n:Int)] i j:=by
 simp[UM,YB,aaA,a,show i < p.length+1 by omega,show j < p.length+1 by omega]
theorem cM.YI {h:aE} {v t:V} (f:cM h v t):Fr h v t:=by
 induction f with
 | val v=>exact .tree _ (.val v)
 | emp k=>exact .emp k
 | sl id off len esz z es es' hH hle hlen b _ c=>exact .sl id off len esz z es es' hH hle hlen b c
 | agg cs a b _ c=>exact .agg cs a b c
 | bf cs a b _ c=>exact .bf cs a b c
noncomputable def Vf (g:af) (p:List Int):Bool:=UM (YB g p) g.start.toNat 0 p.length
theorem Ly {g:af} (hr:bp g=true) (p:List Int):Vf g p=true↔Sp g p [-1 - g.start] 0 p.length:=by
 have a:=bj hr
 have b:=a.kj
 have h1:=a.start
 rw[Vf,Ym (by omega) (by omega) (by omega)]
 rw[show ((g.start.toNat:Nat):Int)=g.start by omega]
def AS (g:af) (w:List Int):Bool:=w.all λx=>decide (0<=x) && decide (x < g.ai.length)
def sf (g:af) (w:List Int):Bool:=bp g && decide (w.length<=60) && AS g w
theorem UT (g:af) (w:List Int):∀ v∈[V.agg (ag g),encI w],Tree v:=by
 intro v a;simp at a
 rcases a with rfl | rfl
 .exact bL _ (cd g)
 .exact cx w
def qx:SC :=
 ae [ae [ab [aa 14 5,aa 15 1,aN 16 15,aQ 17 .lss 14 16],bX 17 (.exit 0)],.block 1 (ae [.region false [⟨none,[aa 20 1,aa 21 5,aO 22 1 20 21,ak 23 22,aF 24 .lss 23 0,aa 25 24]⟩,⟨(some (25,false)),[aa 26 1,aa 27 5,aO 28 1 26 27,ak 29 28,ao 30 0 2,ak 31 30,aN 32 31,aQ 33 .geq 29 32]⟩,⟨none,[cy 34 25 33]⟩],bb 34 (ae [ab [bB 4 false],.ret])]),ab [aa 18 5,aF 19 .add 18 1,aa 5 19]]
def sW:SF:=⟨ae [ab [cF 2 0,bB 4 false],ae [.region false [⟨none,[aZ 6 4 2,bk 7 50 [6],c9 8 7,aa 9 8]⟩,⟨(some (9,false)),[aa 10 1,aN 11 10,aF 12 .gtr 11 60]⟩,⟨none,[cy 13 9 12]⟩],bb 13 (ae [ab [bB 4 false],.ret])],ae [ab [aR 5 0],bZ 0 qx],ab [bB 4 true],.ret],
 [.tmp 4],35⟩
theorem yu:aP Tryz.prog 17 [2]=some sW:=by kernel_rfl
theorem TL (g:af) (m:g.Ok) (p:List Int) (hp:aK p) (r:∀ x∈p,bM x):az Tryz.prog 17 [.agg (ag g),encI p] (gb (sf g p)):=by
 refine az.val (UT g p) λH=>?_
 refine aw.of mixed yu ?_
 unfold aK at hp
 have j:=m.ai
 unfold aK at j
 simp(disch:=omega)only[↓wr,seval,wq,sW,ag,encS,encI]
 refine ax.pure (iO g m) ?_
 simp(disch:=omega)only[↓wr,seval,wq]
 apply aj.split<;>intro hr
 .simp(disch:=omega)only[↓wr,seval,wq,encI]
  apply aj.dec<;>intro n
  .simp(disch:=omega)only[↓wr,seval,wq]
   rw[sf,decide_eq_false (show ¬ p.length<=60 by omega)];simp
  .simp(disch:=omega)only[↓wr,seval,wq,encI]
   refine ba.up p.length (λi h H'=>AS g (p.take i)=true/\h 1=encI p/\h 2=.aL (ag g) 0/\h 5=gi i) ⟨rfl,rfl,rfl,rfl⟩ ?_
   rintro i k h H' hk ⟨a,t1,t2,t6⟩
   simp(disch:=omega)only[↓wr,seval,wq,qx,t1,t2,t6,encI]
   apply aj.dec<;>intro o
   .have b:p[i]?=some (p[i]'(by omega)):=aaB (by omega)
    have c:p[i]'(by omega)∈p:=aaL _
    have d:p.take (i+1)=p.take i ++ [p[i]'(by omega)]:=by rw[aa3,b];rfl
    generalize p[i]'(by omega)=x at b c d
    have l:AS g (p.take (i+1))=(decide (0<=x) && decide (x < g.ai.length)):=by
     unfold AS at a ⊢
     rw[d,List.all_append,a];simp
    have f:(decide (0<=x) && decide (x < g.ai.length))=false->sf g p=false:=λe=>by
     have:AS g p=false:=by
      unfold AS
      rw[List.all_eq_false]
      exact⟨x,c,by rw[e];simp⟩
     rw[sf,this,acy]
    simp(disch:=omega)only[↓wr,seval,wq,t1,t2,t6,encI,ag,encS,aaE,b]
    apply aj.dec<;>intro h1
    .simp(disch:=omega)only[↓wr,seval,wq,t1,t2,t6]
     rw[f (by rw[decide_eq_false (by omega)];rfl)]
    .simp(disch:=omega)only[↓wr,seval,wq,t1,t2,t6,encI,ag,encS,aaE,b]
     apply aj.dec<;>intro q
     .simp(disch:=omega)only[↓wr,seval,wq,t1,t2,t6]
      rw[f (by rw[decide_eq_false (show ¬ x < (g.ai.length:Int) by omega),acy])]
     .simp(disch:=omega)only[↓wr,seval,wq,t1,t2,t6]
      exact aG hk (by omega) ⟨by rw[l,ack (by omega),ack (by omega)];rfl,t1,t2,rfl⟩
   .rw[aaS (by omega)] at a
    simp(disch:=omega)only[↓wr,seval,wq,t1,t2,t6]
    rw[sf,hr,a,ack (by omega)];rfl
 .simp(disch:=omega)only[↓wr,seval,wq]
  rw[sf,hr];rfl
def dp (c:Cell):List V:=[gi c.kind,gi c.n]
abbrev BG (l:List Cell):V:=.aU (l.map dp)
def cW (t:iz):List V:=[.aU (t.bo.map λr=>[BG r]),.aU (t.gotos.map λr=>[encI r])]
theorem vc (c:Cell):∀ v∈dp c,Tree v:=by
 intro v a;simp[dp] at a;rcases a with rfl | rfl <;> exact .val _
theorem Mo (l:List Cell):Tree (BG l):=ew _ _ λc _ v a=>vc c v a
theorem wK (t:iz):∀ v∈cW t,Tree v:=by
 intro v a
 simp only[cW,aaT,List.not_mem_nil,or_false] at a
 rcases a with rfl | rfl
 .exact ew _ _ λr _ v a=>by simp at a;subst a;exact Mo r
 .exact ew _ _ λr _ v a=>by simp at a;subst a;exact cx r
structure iz.Ok (t:iz):Prop where
 bo:aK t.bo
 gotos:aK t.gotos
 row:∀ r∈t.bo,aK r/\∀ c∈r,bM c.kind/\bM c.n
 go:∀ r∈t.gotos,aK r/\∀ x∈r,bM x
def sB:SF:=⟨ae [ab [cF 3 0,cF 4 1,cF 5 2,bB 6 false],ae [ab [ao 7 0 5,ak 8 7],.block 0 (ae [ae [ab [aF 10 .eql 8 0,aa 9 10],bX 9 (ab [aF 11 .eql 8 3,aa 9 11])],.cond (.tmp 9) (ae [ab [ao 12 1 5,ak 13 12,aF 14 .eql 13 0,aa 6 14],.ret]) (ae [ab [aF 16 .eql 8 1,aa 15 16],.cond (.tmp 15) (ae [.region false [⟨none,[ao 17 1 5,ak 18 17,aF 19 .geq 18 0,aa 20 19]⟩,⟨(some (20,true)),[ao 21 1 5,ak 22 21,ao 23 0 4,ak 24 23,aN 25 24,aQ 26 .lss 22 25]⟩,⟨none,[eO 27 20 26,aa 6 27]⟩],.ret]) (ae [ab [aF 29 .eql 8 2,aa 28 29],bb 28 (ae [.region false [⟨none,[ao 30 1 5,ak 31 30,aF 32 .geq 31 0,aa 33 32]⟩,⟨(some (33,true)),[ao 34 1 5,ak 35 34,ao 36 2 3,ak 37 36,aN 38 37,aQ 39 .lss 35 38]⟩,⟨none,[eO 40 33 39,aa 6 40]⟩],.ret])])])])],ab [bB 6 false],.ret],
 [.tmp 6],41⟩
theorem yI:aP Tryz.prog 107 [3,4,5]=some sB:=by kernel_rfl
def oH:SC :=
 ae [ae [ab [aa 62 6,ao 63 0 3,ak 64 63,aa 65 5,aO 66 1 64 65,ak 67 66,aN 68 67,aQ 69 .lss 62 68],bX 69 (.exit 2)],.block 3 (ae [ab [aZ 72 4 2,aZ 73 2 3,ao 74 0 3,ak 75 74,aa 76 5,aO 77 1 75 76,ak 78 77,aa 79 6,aO 80 2 78 79,aZ 81 2 80,bk 82 107 [72,73,81],c9 83 82],bb 83 (ae [ab [bB 4 false],.ret])]),ab [aa 70 6,aF 71 .add 70 1,aa 6 71]]
def oP:SC :=
 ae [ae [ab [aa 84 7,ao 85 1 3,ak 86 85,aa 87 5,aO 88 1 86 87,ak 89 88,aN 90 89,aQ 91 .lss 84 90],bX 91 (.exit 4)],.block 5 (ae [.region false [⟨none,[ao 94 1 3,ak 95 94,aa 96 5,aO 97 1 95 96,ak 98 97,aa 99 7,aO 100 1 98 99,ak 101 100,aF 102 .lss 101 (-1),aa 103 102]⟩,⟨(some (103,false)),[ao 104 1 3,ak 105 104,aa 106 5,aO 107 1 105 106,ak 108 107,aa 109 7,aO 110 1 108 109,ak 111 110,ao 112 0 3,ak 113 112,aN 114 113,aQ 115 .geq 111 114]⟩,⟨none,[cy 116 103 115]⟩],bb 116 (ae [ab [bB 4 false],.ret])]),ab [aa 92 7,aF 93 .add 92 1,aa 7 93]]
def oS:SC :=
 ae [ae [ab [aa 32 5,ao 33 0 3,ak 34 33,aN 35 34,aQ 36 .lss 32 35],bX 36 (.exit 0)],.block 1 (ae [ae [.region false [⟨none,[ao 39 0 3,ak 40 39,aa 41 5,aO 42 1 40 41,ak 43 42,aN 44 43,ao 45 0 2,ak 46 45,aN 47 46,aF 48 .add 47 1,aQ 49 .neq 44 48,aa 50 49]⟩,⟨(some (50,false)),[ao 51 1 3,ak 52 51,aa 53 5,aO 54 1 52 53,ak 55 54,aN 56 55,ao 57 1 2,ak 58 57,aN 59 58,aQ 60 .neq 56 59]⟩,⟨none,[cy 61 50 60]⟩],bb 61 (ae [ab [bB 4 false],.ret])],ae [ab [aR 6 0],bZ 2 oH],ab [aR 7 0],bZ 4 oP]),ab [aa 37 5,aF 38 .add 37 1,aa 5 38]]
def qM:SF:=⟨ae [ab [cF 2 0,cF 3 1,bB 4 false],ae [.region false [⟨none,[aZ 8 4 2,bk 9 50 [8],c9 10 9,aa 11 10]⟩,⟨(some (11,false)),[ao 12 0 3,ak 13 12,aN 14 13,aF 15 .lss 14 1]⟩,⟨none,[cy 16 11 15,aa 17 16]⟩,⟨(some (17,false)),[ao 18 0 3,ak 19 18,aN 20 19,aF 21 .gtr 20 300]⟩,⟨none,[cy 22 17 21,aa 23 22]⟩,⟨(some (23,false)),[ao 24 1 3,ak 25 24,aN 26 25,ao 27 0 3,ak 28 27,aN 29 28,aQ 30 .neq 26 29]⟩,⟨none,[cy 31 23 30]⟩],bb 31 (ae [ab [bB 4 false],.ret])],ae [ab [aR 5 0],bZ 0 oS],ab [bB 4 true],.ret],
 [.tmp 4],117⟩
theorem wN:aP Tryz.prog 51 [2,3]=some qM:=by kernel_rfl
theorem S0 (g:af) (t:iz) (c:Cell):az Tryz.prog 107 [.agg (ag g),.agg (cW t),.agg (dp c)] (gb (iN g t.bo.length c)):=by
 refine az.val (by
  intro v a;simp at a
  rcases a with rfl | rfl | rfl
  .exact bL _ (cd g)
  .exact bL _ (wK t)
  .exact bL _ (vc c)) λH=>?_
 refine aw.of mixed yI ?_
 unfold iN
 simp(disch:=omega)only[↓wr,seval,wq,sB,dp,cW,ag,encS]
 repeat' (first | ((first|apply aj.dec|apply aj.eq|apply aj.ne|apply aj.split)<;>intro)|(simp(disch:=omega)only[↓wr,seval,wq,dp,cW,ag,encS]))
 all_goals simp_all
 all_goals first
  | omega
  | rfl
theorem Pt {g:af} {t:iz} {i:Nat} (hi:i < t.bo.length) (h:Bl g t.bo.length (t.bo.getD i []) (t.gotos.getD i [])=false):jK g t=false:=by
 rw[Bool.eq_false_iff]
 intro hr
 have:=(wP hr).row i hi
 rw[h] at this;simp at this
theorem Xb (g:af) (t:iz):∀ v∈[V.agg (ag g),.agg (cW t)],Tree v:=by
 intro v a;simp at a
 rcases a with rfl | rfl
 .exact bL _ (cd g)
 .exact bL _ (wK t)
theorem Pm (g:af) (D:g.Ok) (t:iz) (A:t.Ok):az Tryz.prog 51 [.agg (ag g),.agg (cW t)] (gb (jK g t)):=by
 refine az.val (Xb g t) λH=>?_
 have B:=iO g D
 have h1:=A.bo
 have N:=A.gotos
 have O:=D.ai
 have P:=D.al
 unfold aK at h1 N O P
 refine aw.of mixed wN ?_
 simp only[ag,encS] at B
 simp(disch:=omega)only[↓wr,seval,wq,qM,ag,encS,cW]
 refine ax.pure B ?_
 have n:(bp g && decide (1<=t.bo.length) && decide (t.bo.length<=300) && decide (t.gotos.length=t.bo.length))=false->jK g t=false:=λh=>by unfold jK;rw[h];rfl
 simp(disch:=omega)only[↓wr,seval,wq]
 apply aj.split<;>intro hr
 rotate_left
 .simp(disch:=omega)only[↓wr,seval,wq]
  rw[n (by rw[hr];rfl)]
 simp(disch:=omega)only[↓wr,seval,wq,cW]
 apply aj.dec<;>intro c1
 .simp(disch:=omega)only[↓wr,seval,wq]
  rw[n (by rw[hr];simp;omega)]
 simp(disch:=omega)only[↓wr,seval,wq,cW]
 apply aj.dec<;>intro c2
 .simp(disch:=omega)only[↓wr,seval,wq]
  rw[n (by rw[hr];simp;omega)]
 simp(disch:=omega)only[↓wr,seval,wq,cW]
 apply aj.ne<;>intro Q
 .simp(disch:=omega)only[↓wr,seval,wq]
  rw[n (by rw[hr];simp;omega)]
 simp(disch:=omega)only[↓wr,seval,wq]
 have Z:=bj hr
 refine ba.up t.bo.length (λi T H'=>(∀ k,k < i->Bl g t.bo.length (t.bo.getD k []) (t.gotos.getD k [])=true)/\T 2=.aL (ag g) 0/\T 3=.aL (cW t) 0/\T 5=gi i) ⟨λk hk=>by omega,rfl,rfl,rfl⟩ ?_
 rintro i k T H' hk ⟨p,t2,t3,t5⟩
 simp(disch:=omega)only[↓wr,seval,wq,oS,t2,t3,t5,cW]
 apply aj.dec<;>intro R
 rotate_left
 .simp(disch:=omega)only[↓wr,seval,wq]
  rw[show jK g t=true from by
   unfold jK
   rw[hr]
   simp only[aaK,aaP,aaZ,abA,abM]
   exact⟨⟨⟨by omega,by omega⟩,by omega⟩,λk hk=>p k (by omega)⟩]
 have hi:i < t.bo.length:=by omega
 have w:t.bo[i]?=some (t.bo.getD i []):=getD_some hi
 have s:t.gotos[i]?=some (t.gotos.getD i []):=getD_some (by omega)
 have E:=A.row _ (aaI w)
 have F:=A.go _ (aaI s)
 have b:=@Pt g t i hi
 generalize S:t.bo.getD i []=a at w E b
 generalize el:t.gotos.getD i []=l at s F b
 have f:Bl g t.bo.length a l=(decide (a.length=g.ai.length+1) && decide (l.length=g.al.length) && a.all (iN g t.bo.length) && l.all λx=>decide (-1<=x) && decide (x < t.bo.length)):=rfl
 obtain⟨U,E⟩:=E
 obtain⟨sl,F⟩:=F
 unfold aK at U sl
 simp(disch:=omega)only[↓wr,seval,wq,t2,t3,t5,cW,ag,encS,aaE,w,s,aaH]
 apply aj.ne<;>intro d1
 .simp(disch:=omega)only[↓wr,seval,wq]
  rw[b (by rw[f];simp;omega)]
 simp(disch:=omega)only[↓wr,seval,wq,t2,t3,t5,cW,ag,encS,encI,aaE,w,s,aaH]
 apply aj.ne<;>intro d2
 .simp(disch:=omega)only[↓wr,seval,wq]
  rw[b (by rw[f];simp;omega)]
 simp(disch:=omega)only[↓wr,seval,wq,t2,t3,t5]
 refine ba.up a.length (λj T H'=>(∀ k,k < j->iN g t.bo.length (a.getD k ⟨0,0⟩)=true)/\T 2=.aL (ag g) 0/\T 3=.aL (cW t) 0/\T 5=gi i/\T 6=gi j) ⟨λk hk=>by omega,t2,t3,t5,rfl⟩ ?_
 rintro j k' T' V G ⟨r,t2,t3,t5,t6⟩
 simp(disch:=omega)only[↓wr,seval,wq,oH,t2,t3,t5,t6,cW,ag,encS,aaE,w,aaH]
 apply aj.dec<;>intro W
 .have u:a[j]?=some (a.getD j ⟨0,0⟩):=getD_some (by omega)
  have d:=aaI u
  generalize I:a.getD j ⟨0,0⟩=c at u d
  have m:=S0 g t c
  simp only[ag,encS,cW,dp] at m
  simp(disch:=omega)only[↓wr,seval,wq,t2,t3,t5,t6,cW,ag,encS,aaE,w,u,aaH,dp]
  refine ax.pure m ?_
  simp(disch:=omega)only[↓wr,seval,wq]
  apply aj.split<;>intro v
  .simp(disch:=omega)only[↓wr,seval,wq,t2,t3,t5,t6]
   exact aG G (by omega) ⟨λk hk=>by
    by_cases e:k=j
    .subst e;rw[I];exact v
    .exact r k (by omega),t2,t3,t5,rfl⟩
  .simp(disch:=omega)only[↓wr,seval,wq]
   rw[b (by
    rw[f,Bool.eq_false_iff]
    intro h
    simp only[aaK,aaZ] at h
    have:=h.1.2 c d
    rw[v] at this;simp at this)]
 simp(disch:=omega)only[↓wr,seval,wq,t2,t3,t5]
 refine ba.up l.length (λj T H'=>(∀ k,k < j->-1<=l.getD k 0/\l.getD k 0 < t.bo.length)/\T 2=.aL (ag g) 0/\T 3=.aL (cW t) 0/\T 5=gi i/\T 7=gi j) ⟨λk hk=>by omega,t2,t3,t5,rfl⟩ ?_
 rintro C k2 T2 H2 J ⟨y,t2,t3,t5,t7⟩
 simp(disch:=omega)only[↓wr,seval,wq,oP,t2,t3,t5,t7,cW,encI,aaE,s,aaH]
 apply aj.dec<;>intro K
 .have o:l[C]?=some (l.getD C 0):=getD_some (by omega)
  have d:=aaI o
  generalize I:l.getD C 0=x at o d
  have bad:¬(-1<=x/\x < (t.bo.length:Int))->Bl g t.bo.length a l=false:=λX=>by
   rw[f,Bool.eq_false_iff]
   intro h
   simp only[aaK,aaZ,aaP] at h
   exact X (h.2 x d)
  simp(disch:=omega)only[↓wr,seval,wq,t2,t3,t5,t7,cW,encI,aaE,s,o,aaH]
  apply aj.dec<;>intro L
  .simp(disch:=omega)only[↓wr,seval,wq]
   rw[b (bad (by omega))]
  simp(disch:=omega)only[↓wr,seval,wq,t2,t3,t5,t7,cW,encI,aaE,s,o,aaH]
  apply aj.dec<;>intro Y
  .simp(disch:=omega)only[↓wr,seval,wq]
   rw[b (bad (by omega))]
  .simp(disch:=omega)only[↓wr,seval,wq,t2,t3,t5,t7]
   exact aG J (by omega) ⟨λk hk=>by
    by_cases e:k=C
    .subst e;rw[I];omega
    .exact y k (by omega),t2,t3,t5,rfl⟩
 .simp(disch:=omega)only[↓wr,seval,wq,t2,t3,t5]
  refine aG hk (by omega) ⟨λk hk=>?_,t2,t3,rfl⟩
  by_cases e:k=i
  .subst e
   rw[S,el,f]
   simp only[aaK,aaZ,aaP]
   refine⟨⟨⟨by omega,by omega⟩,λc B=>?_⟩,λx L=>?_⟩
   .obtain⟨q,z⟩:=List.mem_iff_getElem?.1 B
    have M:=(aaR.1 z).1
    have:=r q (by omega)
    rwa [aaA,z] at this
   .obtain⟨q,z⟩:=List.mem_iff_getElem?.1 L
    have M:=(aaR.1 z).1
    have:=y q (by omega)
    rwa [aaA,z] at this
  .exact p k (by omega)
structure bK where
 au:Int
 cE:Int
 rules:Int
 ai:Int
def nI:bK:=⟨(-1),0,0,0⟩
def bF:bK:=⟨0,0,0,0⟩
def bW (P:List bK) (m:Nat):bK:=P.getD m nI
abbrev du (x:Int):Nat:=(-1 - x).toNat
def cb (P:List bK):List Int->bK->bK × Bool
 | [],s=>(s,true)
 | x :: l,s=>if 0<=x then cb P l ⟨s.au,s.cE,s.rules,min 1048576 (s.ai+1)⟩
  else if (bW P (du x)).au < 0 then (s,false)
  else cb P l ⟨s.au,max s.cE (bW P (du x)).cE,min 1048576 (s.rules+(bW P (du x)).rules),min 1048576 (s.ai+(bW P (du x)).ai)⟩
def cG (P:List bK) (m:Nat):Prop:=0<=(bW P m).au
def lW (P:List bK) (l:List Int):Prop:=∀ x∈l,x < 0->cG P (du x)
theorem kn (P:List bK):∀ (l:List Int) (s:bK),(cb P l s).2=true↔lW P l
 | [],s=>by simp[cb,lW]
 | x :: l,s=>by
  simp only[cb,lW,aaT]
  by_cases h:0<=x
  .rw[aaF h,kn P l]
   refine⟨λk y a b=>?_,λk y a=>k y (.inr a)⟩
   rcases a with rfl | a
   .omega
   .exact k y a b
  .rw[aaD h]
   by_cases c:(bW P (du x)).au < 0
   .rw[aaF c]
    simp only[aba,false_iff]
    intro k
    have:=k x (.inl rfl) (by omega)
    unfold cG at this;omega
   .rw[aaD c,kn P l]
    refine⟨λk y a b=>?_,λk y a=>k y (.inr a)⟩
    rcases a with rfl | a
    .unfold cG;omega
    .exact k y a b
theorem j4 (P:List bK) (k:Int):∀ (l:List Int) (s:bK),lW P l->((cb P l s).1.cE<=k↔s.cE<=k/\∀ x∈l,x < 0->(bW P (du x)).cE<=k)
 | [],s,_=>by simp[cb]
 | x :: l,s,h=>by
  have e:lW P l:=λy c=>h y (by simp[c])
  simp only[cb,aaT]
  by_cases f:0<=x
  .rw[aaF f,j4 P k l _ e]
   refine⟨λ⟨a,b⟩=>⟨a,λy c d=>?_⟩,λ⟨a,b⟩=>⟨a,λy c=>b y (.inr c)⟩⟩
   rcases c with rfl | c
   .omega
   .exact b y c d
  .have:=h x (by simp) (by omega)
   unfold cG at this
   rw[aaD f,aaD (by omega),j4 P k l _ e]
   refine⟨λ⟨a,b⟩=>⟨by simp only at a;omega,λy c d=>?_⟩,λ⟨a,b⟩=>⟨by have:=b x (.inl rfl) (by omega);simp only;omega,λy c=>b y (.inr c)⟩⟩
   rcases c with rfl | c
   .simp only at a;omega
   .exact b y c d
theorem FT {P P':List bK} : ∀ (l:List Int) (s:bK),(∀ x∈l,x < 0->bW P (du x)=bW P' (du x))->cb P l s=cb P' l s
 | [],s,_=>rfl
 | x :: l,s,h=>by
  have b:=λs=>FT (P:=P) (P':=P') l s λy c=>h y (by simp[c])
  simp only[cb]
  by_cases a:0<=x
  .rw[aaF a,aaF a,b]
  .rw[aaD a,aaD a,h x (by simp) (by omega),b]
theorem wg (P:List bK):∀ (l:List Int) (s:bK),s.cE<=(cb P l s).1.cE
 | [],s=>Int.le_refl _
 | x :: l,s=>by
  simp only[cb]
  split
  .exact wg P l _
  .split
   .exact Int.le_refl _
   .have:=wg P l ⟨s.au,max s.cE (bW P (du x)).cE,min 1048576 (s.rules+(bW P (du x)).rules),min 1048576 (s.ai+(bW P (du x)).ai)⟩
    simp only at this ⊢;omega
def iF (P:List bK) (i:Nat) (r:aX):bK:=⟨i,(cb P r.right bF).1.cE+1,min 1048576 ((cb P r.right bF).1.rules+1),(cb P r.right bF).1.ai⟩
def si (P:List bK) (i:Nat) (N:List bK) (r:aX):List bK :=
 if 0<=(bW N r.left.toNat).au then N else if (cb P r.right bF).2=true then N.set r.left.toNat (iF P i r) else N
def nU (P:List bK):Nat->List bK->List aX->List bK
 | _,N,[]=>N
 | i,N,r :: l=>nU P (i+1) (si P i N r) l
def AR (rules:List aX) (P:List bK):List bK:=nU P 0 P rules
def om (P:List bK) (m:Nat):Nat->List aX->Option bK
 | _,[]=>none
 | i,r :: l=>if r.left.toNat=m/\(cb P r.right bF).2=true then some (iF P i r) else om P m (i+1) l
theorem Cu {N:List bK} {i m:Nat} {p:bK} (hm:m < N.length):bW (N.set i p) m=if i=m then p else bW N m:=by
 simp only[bW,aaA,abW]
 split
 .rename_i e;subst e;simp[hm]
 .rfl
theorem Hf (P:List bK) (i:Nat) (N:List bK) (r:aX):(si P i N r).length=N.length:=by
 unfold si;split; · rfl
 split <;> simp
theorem Hm (P:List bK):∀ (l:List aX) (i:Nat) (N:List bK),(nU P i N l).length=N.length
 | [],_,_=>rfl
 | r :: l,i,N=>by rw[nU,Hm P l,Hf]
theorem J5 (P:List bK) (m:Nat):∀ (l:List aX) (i:Nat) (N:List bK),m < N.length->bW (nU P i N l) m=if 0<=(bW N m).au then bW N m else (om P m i l).getD (bW N m)
 | [],i,N,hm=>by simp[nU,om]
 | r :: l,i,N,hm=>by
  rw[nU,J5 P m l (i+1) _ (by rw[Hf];exact hm),om]
  unfold si
  by_cases h1:0<=(bW N r.left.toNat).au
  .rw[aaF h1]
   by_cases a:r.left.toNat=m
   .subst a
    rw[aaF h1,aaF h1]
   .rw[aaD (c:=r.left.toNat=m/\_) (λe=>a e.1)]
  .rw[aaD h1]
   by_cases b:(cb P r.right bF).2=true
   .rw[aaF b]
    by_cases a:r.left.toNat=m
    .subst a
     rw[Cu hm,aaF rfl,aaD h1,aaF (show (0:Int)<=(iF P i r).au by simp only[iF];omega),aaF (c:=r.left.toNat=r.left.toNat/\_) (And.intro rfl b)]
     rfl
    .rw[Cu hm,aaD a,aaD (c:=r.left.toNat=m/\_) (λe=>a e.1)]
   .rw[aaD b,aaD (c:=r.left.toNat=m/\_) (λe=>b e.2)]
theorem lZ {P:List bK} {m:Nat} : ∀ {l:List aX} {i:Nat} {p:bK},om P m i l=some p->∃ (j:Nat) (r:aX),l[j]?=some r/\r.left.toNat=m/\lW P r.right/\p=iF P (i+j) r/\∀ (f:Nat) (g:aX),f < j->l[f]?=some g->g.left.toNat=m->¬ lW P g.right
 | [],i,p,h=>by simp[om] at h
 | r :: l,i,p,h=>by
  rw[om] at h
  by_cases k:r.left.toNat=m/\(cb P r.right bF).2=true
  .rw[aaF k] at h
   exact⟨0,r,rfl,k.1,(kn P _ _).1 k.2,by simpa using h.symm,λf g o=>by omega⟩
  .rw[aaD k] at h
   obtain⟨j,q,a,b,c,d,e⟩:=lZ h
   refine⟨j+1,q,by simpa using a,b,c,by rw[d];congr 1;omega,λf g o hr n hk=>?_⟩
   cases f with
   | zero =>
    simp at hr;subst hr
    exact k ⟨n,(kn P _ _).2 hk⟩
   | succ f=>exact e f g (by omega) (by simpa using hr) n hk
theorem IJ {P:List bK} {m:Nat} : ∀ {l:List aX} {i:Nat},om P m i l=none->∀ r∈l,r.left.toNat=m->¬ lW P r.right
 | [],i,h,r,hr,_,_=>by simp at hr
 | r :: l,i,h,c,hr,b,hk=>by
  rw[om] at h
  by_cases a:r.left.toNat=m/\(cb P r.right bF).2=true
  .rw[aaF a] at h;simp at h
  .rw[aaD a] at h
   rcases aaT.1 hr with rfl | hr
   .exact a ⟨b,(kn P _ _).2 hk⟩
   .exact IJ h c hr b hk
def aH (g:af) (k:Nat):List bK:=iter (AR g.rules) k (List.replicate g.al.length nI)
theorem HV {α:Type} (f:α->α):∀ (k:Nat) (x:α),iter f (k+1) x=f (iter f k x)
 | 0,x=>rfl
 | k+1,x=>by rw[iter,HV f k,iter]
theorem qd (g:af) (k:Nat):aH g (k+1)=AR g.rules (aH g k):=HV _ _ _
theorem ij (g:af):∀ k,(aH g k).length=g.al.length
 | 0=>by simp[aH,iter]
 | k+1=>by rw[qd,AR,Hm,ij g k]
theorem GY {P:List bK} {m:Nat} (h:P.length<=m):bW P m=nI:=by simp[bW,aaA,aa6 h]
theorem KG {P:List bK} {m:Nat} (h:cG P m):m < P.length:=by
 rcases aa2 m P.length with h1 | h1
 .exact h1
 .unfold cG at h;rw[GY h1] at h;simp[nI] at h
theorem vl (g:af) (k m:Nat):bW (aH g (k+1)) m=if 0<=(bW (aH g k) m).au then bW (aH g k) m else if m < g.al.length then (om (aH g k) m 0 g.rules).getD (bW (aH g k) m) else bW (aH g k) m:=by
 by_cases hm:m < g.al.length
 .rw[qd,AR,J5 _ _ _ _ _ (by rw[ij];exact hm),aaF hm]
 .rw[aaD hm,GY (by rw[ij];omega),GY (by rw[ij];omega)]
  simp
theorem Fk {g:af} {k m:Nat} (h:cG (aH g k) m):bW (aH g (k+1)) m=bW (aH g k) m:=by
 rw[vl];unfold cG at h;rw[aaF h]
theorem CT {g:af} {k m:Nat} (h:cG (aH g k) m):∀ d,bW (aH g (k+d)) m=bW (aH g k) m
 | 0=>rfl
 | d+1=>by
  have a:=CT h d
  have:cG (aH g (k+d)) m:=by unfold cG at h ⊢;rw[a];exact h
  rw[<-a,<-Fk this];rfl
theorem iK {g:af} {k m j:Nat} (h:cG (aH g k) m) (a:k<=j):bW (aH g j) m=bW (aH g k) m/\cG (aH g j) m:=by
 obtain⟨d,rfl⟩:∃ d,j=k+d:=⟨j - k,by omega⟩
 have:=CT h d
 exact⟨this,by unfold cG at h ⊢;rw[this];exact h⟩
theorem Bo {g:af} {k m:Nat} (a:¬ cG (aH g k) m) (h:cG (aH g (k+1)) m):om (aH g k) m 0 g.rules=some (bW (aH g (k+1)) m):=by
 unfold cG at h a
 rw[vl,aaD a] at h
 rw[vl,aaD a]
 split at h
 .rename_i hm
  rw[aaF hm]
  cases b:om (aH g k) m 0 g.rules with
  | none=>rw[b] at h;exact absurd h a
  | some p=>rfl
 .exact absurd h a
theorem rA {g:af} {m:Nat} : ∀ {k:Nat},¬ cG (aH g k) m->bW (aH g k) m=nI
 | 0,_=>by
  simp only[aH,iter,bW,aaA,abV]
  split <;> rfl
 | k+1,h=>by
  have a:¬ cG (aH g k) m:=λe=>h (iK e (by omega)).2
  unfold cG at h a
  rw[vl,aaD a] at h ⊢
  split
  .rename_i hm
   rw[aaF hm] at h
   cases b:om (aH g k) m 0 g.rules with
   | none=>exact rA (k:=k) a
   | some p =>
    rw[b] at h
    obtain⟨j,r,_,_,_,rfl,_⟩:=lZ b
    simp only[aaU,iF] at h;omega
  .exact rA (k:=k) a
theorem ik (g:af):∀ k:Nat,∀ m,cG (aH g k) m->1<=(bW (aH g k) m).cE/\(bW (aH g k) m).cE<=k/\∀ j:Nat,j<=k->(bW (aH g k) m).cE<=j->cG (aH g j) m
 | 0,m,h=>by
  unfold cG at h
  have:bW (aH g 0) m=nI:=by
   simp only[aH,iter,bW,aaA,abV]
   split <;> rfl
  rw[this] at h;simp[nI] at h
 | k+1,m,h=>by
  have q:=ik g k
  by_cases f:cG (aH g k) m
  .obtain⟨a,b,c⟩:=q m f
   rw[(iK f (Nat.le_succ k)).1]
   refine⟨a,by push_cast;omega,λj u t=>?_⟩
   rcases aa2 k j with e | e
   .exact(iK f (by omega)).2
   .exact c j e t
  .have v:=Bo f h
   obtain⟨i,r,hr,w,hk,hp,_⟩:=lZ v
   have t:(bW (aH g (k+1)) m).cE=(cb (aH g k) r.right bF).1.cE+1:=by rw[hp];rfl
   have h1:=wg (aH g k) r.right bF
   have B:=(j4 (aH g k) k r.right bF hk).2 ⟨by simp[bF],λx n o=>(q _ (hk x n o)).2.1⟩
   have C:¬ (cb (aH g k) r.right bF).1.cE<=(k:Int) - 1:=by
    intro hle
    have y:(0:Int)<=(cb (aH g k) r.right bF).1.cE:=h1
    obtain⟨d,rfl⟩:∃ d,k=d+1:=⟨k - 1,by omega⟩
    have z:=((j4 (aH g (d+1)) _ r.right bF hk).1 hle).2
    have A:lW (aH g d) r.right:=λx n o=>(q _ (hk x n o)).2.2 d (by omega) (by have:=z x n o;push_cast at this;omega)
    apply f
    by_cases s:cG (aH g d) m
    .exact(iK s (by omega)).2
    .unfold cG at s ⊢
     have hm:=KG h
     rw[ij] at hm
     rw[vl,aaD s,aaF hm]
     cases l:om (aH g d) m 0 g.rules with
     | none=>exact absurd A (IJ l r (aaI hr) w)
     | some p =>
      obtain⟨j,D,_,_,_,rfl,_⟩:=lZ l
      simp only[aaU,iF];omega
   have y:(0:Int)<=(cb (aH g k) r.right bF).1.cE:=h1
   refine⟨by omega,by push_cast;omega,λj u hle=>?_⟩
   have:j=k+1:=by omega
   subst this;exact h
theorem yZ {g:af} {m:Nat} : ∀ {k:Nat},cG (aH g k) m->∃ j,j < k/\¬ cG (aH g j) m/\(bW (aH g k) m).cE=j+1/\om (aH g j) m 0 g.rules=some (bW (aH g k) m)
 | 0,h=>by
  have:=(ik g 0 m h)
  simp at this;omega
 | k+1,h=>by
  by_cases f:cG (aH g k) m
  .obtain⟨j,a,b,c,d⟩:=yZ f
   rw[(iK f (Nat.le_succ k)).1]
   exact⟨j,by omega,b,c,d⟩
  .refine⟨k,by omega,f,?_,Bo f h⟩
   obtain⟨a,b,c⟩:=ik g (k+1) m h
   rcases Int.lt_or_le (k:Int) (bW (aH g (k+1)) m).cE with e | e
   .push_cast at b;omega
   .exact absurd (c k (by omega) e) f
def uJ (P:List bK):List Bool:=P.map λp=>decide (0<=p.au)
theorem FK (P:List bK) (m:Nat):(uJ P).getD m false=true↔cG P m:=by
 simp only[uJ,cG,bW,aaA,aaE]
 cases P[m]? with
 | none=>simp[nI]
 | some p=>simp
theorem XV (g:af) (k:Nat):gf (uJ (aH g k)) (uJ (aH g (k+1))) :=
 ⟨by simp[uJ,ij],λi h=>(FK _ _).2 (iK ((FK _ _).1 h) (by omega)).2⟩
theorem XY {g:af} {k:Nat} (h:uJ (aH g k)=uJ (aH g (k+1))):aH g (k+1)=aH g k:=by
 have hp:∀ m,bW (aH g (k+1)) m=bW (aH g k) m:=λm=>by
  by_cases a:cG (aH g k) m
  .exact Fk a
  .have h1:¬ cG (aH g (k+1)) m:=λe=>a ((FK _ _).1 (by rw[h];exact(FK _ _).2 e))
   rw[rA a,rA h1]
 apply List.ext_getElem (by rw[ij,ij])
 intro m h1 b
 have:=hp m
 simpa [bW,aaA,h1,b] using this
theorem O9 {g:af} {k:Nat} (hk:k<=dQ (uJ (aH g k))):aH g (k+1)=aH g k∨k+1<=dQ (uJ (aH g (k+1))):=by
 have:=(XV g k).dQ
 by_cases e:dQ (uJ (aH g k))=dQ (uJ (aH g (k+1)))
 .exact .inl (XY (this.2 e))
 .exact .inr (by omega)
theorem Mt (g:af) (k:Nat):dQ (uJ (aH g k))<=g.al.length:=by
 have:=rR (uJ (aH g k))
 simpa [uJ,ij] using this
theorem D8 {g:af} {k:Nat} (h:aH g (k+1)=aH g k):∀ d,aH g (k+d)=aH g k
 | 0=>rfl
 | d+1=>by
  have a:=D8 h d
  rw[<-aca,qd,a,<-qd,h]
def aD (g:af):List bK:=aH g g.al.length
theorem BE (g:af):(aD g).length=g.al.length:=ij _ _
theorem Uy {g:af} {k:Nat} (hk:k<=g.al.length) (h:aH g (k+1)=aH g k):aH g k=aD g:=by
 obtain⟨d,a⟩:∃ d,g.al.length=k+d:=⟨g.al.length - k,by omega⟩
 rw[aD,a,D8 h d]
theorem xC {g:af} {m:Nat} (h:cG (aD g) m):1<=(bW (aD g) m).cE/\(bW (aD g) m).cE<=g.al.length:=⟨(ik g _ m h).1,(ik g _ m h).2.1⟩
theorem Da {g:af} {m:Nat} (h:cG (aD g) m):∃ (i:Nat) (r:aX),g.rules[i]?=some r/\r.left.toNat=m/\lW (aD g) r.right/\bW (aD g) m=iF (aD g) i r /\
  ∀ (j:Nat) (a:aX),j < i->g.rules[j]?=some a->a.left.toNat=m->lW (aD g) a.right->(cb (aD g) a.right bF).1.cE+1≠(bW (aD g) m).cE:=by
 obtain⟨k,hk,b,p,q⟩:=yZ h
 obtain⟨i,r,hr,s,o,hp,e⟩:=lZ q
 have c:∀ x∈r.right,x < 0->bW (aH g k) (du x)=bW (aD g) (du x):=λx d b=>((iK (o x d b) (by omega)).1).symm
 have t:cb (aH g k) r.right bF=cb (aD g) r.right bF:=FT _ _ c
 refine⟨i,r,hr,s,λx d b=>(iK (o x d b) (by omega)).2,?_,λj a u l n f he=>?_⟩
 .show bW (aH g g.al.length) m=_
  rw[hp];unfold iF;rw[t,abq]
 .have h1:(bW (aD g) m).cE=k+1:=p
  refine e j a u l n λx d b=>?_
  have v:=((j4 (aD g) k a.right bF f).1 (by omega)).2 x d b
  exact(ik g _ _ (f x d b)).2.2 k (by omega) v
end Gv
