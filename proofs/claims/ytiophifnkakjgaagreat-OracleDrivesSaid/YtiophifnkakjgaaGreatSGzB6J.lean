/-
  Part 10 of the proof: what the machine does and what the functions answer.
  Conditions: those that each lemma names.
-/
import Derived.Test.YtiophifnkakjgaaGreatSGzB6I
set_option linter.unusedSimpArgs false
set_option linter.unusedVariables false
set_option maxRecDepth 100000
set_option maxHeartbeats 20000000
namespace Gv
open Go Go.Proofs
def sK:SC :=
 af [ab [aV 44 .lss 43 42],bW 44 (.exit 0),.block 1 (af [ab [aa 45 43,aM 46 3 41 43,aU 47 3 46,((some 11),.op (.alloc [(.val (.int .i64 0)),(.emp 1),(.val (.int .i64 0))])),aa 10 45,cG 3 11 47],af [.region false [⟨none,[aa 48 6,au 49 0 11,aj 50 49,aM 51 1 48 50,aj 52 51,cb 53 52,aa 54 53]⟩,⟨(some (54,false)),[aU 55 3 11,aa 56 5,ba 57 164 [55,56],cb 58 57]⟩,⟨none,[bP 59 54 58]⟩],bg 59 (.exit 1)],ab [aa 60 7,aa 61 10,((some 62),.op (.bG 1 1 [(.val (.int .i64 0))] [(0,(.tmp 61))])),fM 63 1 8 60 62,aa 7 63],ab [aa 65 9,au 66 0 11,aj 67 66,((some 68),.op (.old (.lookup 265 (.tmp 65) (.tmp 67) true) 66)),aa 64 68,cZ 69 0 64,cZ 70 1 64,aa 12 69,aa 13 70],ab [aa 71 13,cb 72 71],bg 72 (af [ab [aa 73 9,au 74 0 11,aj 75 74,au 76 1 8,aj 77 76,aP 78 77,(none,.op (.old (.mapUpdate 265 (.tmp 73) (.tmp 75) (.tmp 78)) 0))],.region false [⟨none,[au 79 1 8,aj 80 79,au 81 1 1,aj 82 81,au 83 0 11,aj 84 83,aM 85 1 82 84,aj 86 85,((some 87),.op (.bG 1 1 [(.val (.string ⟨#[]⟩))] [(0,(.tmp 86))])),fM 88 1 16 80 87,au 89 1 8,cG 1 89 88]⟩]])]),ab [aE 90 .add 43 1,aa 43 90]]
def sE:SC :=
 af [ab [aV 116 .lss 115 114],bW 116 (.exit 4),.block 5 (af [ab [aa 117 115,aM 118 1 113 115,aj 119 118,aa 18 117,aa 19 119],ab [aa 120 19,aE 121 .lss 120 0],bg 121 (ab [au 122 1 17,aj 123 122,aa 124 18,aa 125 9,aa 126 19,((some 127),.op (.arith .sub (.val (.val (.int .i64 (-1)))) (.tmp 126))),((some 128),.op (.old (.lookup 265 (.tmp 125) (.tmp 127) false) 3)),((some 129),.op (.arith .sub (.val (.val (.int .i64 (-1)))) (.tmp 128))),aM 130 1 123 124,cG 1 130 129])]),ab [aE 131 .add 115 1,aa 115 131]]
def sN:SC :=
 af [ab [aV 94 .lss 93 92],bW 94 (.exit 2),.block 3 (af [ab [aM 95 1 91 93,aj 96 95,aa 15 96],ab [au 97 2 1,aj 98 97,aa 99 15,aM 100 3 98 99,aU 101 3 100,((some 16),.op (.alloc [(.val (.int .i64 0)),(.emp 1),(.val (.int .i64 0))])),cG 3 16 101],.region true [⟨none,[aa 102 9,au 103 0 16,aj 104 103,((some 105),.op (.old (.lookup 265 (.tmp 102) (.tmp 104) false) 3)),au 106 1 16,aj 107 106,ba 108 140 [107],au 109 2 16,aj 110 109,((some 111),.op (.build [(.val (.int .i64 0)),(.emp 1),(.val (.int .i64 0))] [(0,1,(.tmp 105)),(1,1,(.tmp 108)),(2,1,(.tmp 110))])),((some 17),.op (.alloc [(.val (.int .i64 0)),(.emp 1),(.val (.int .i64 0))])),cG 3 17 111]⟩],af [ab [au 112 1 17,aj 113 112,aP 114 113,aT 115 0],bX 4 sE],ab [au 132 2 8,aj 133 132,aU 134 3 17,((some 135),.op (.bG 1 3 [(.val (.int .i64 0)),(.emp 1),(.val (.int .i64 0))] [(0,(.tmp 134))])),fM 136 3 40 133 135,au 137 2 8,cG 1 137 136]]),ab [aE 138 .add 93 1,aa 93 138]]
def xg:SF:=⟨af [ab [cd 1 0,((some 2),.op (.alloc [(.emp 1),(.emp 1),(.emp 1),(.val (.int .i64 0))])),ct 3 1,aT 4 0],af [ab [aU 20 4 1,ba 21 89 [20],cb 22 21],bg 22 (af [ab [((some 23),.op (.build [(.emp 1),(.emp 1),(.emp 1),(.val (.int .i64 0))] [])),cG 4 2 23,ct 3 1,aT 4 1],.ret])],.region true [⟨none,[aU 24 4 1,ba 25 161 [24],aU 26 4 1,ba 27 162 [26],aa 5 25,aa 6 27]⟩],af [ab [aa 28 5,au 29 3 1,aj 30 29,aM 31 1 28 30,aj 32 31,cb 33 32],bg 33 (af [ab [((some 34),.op (.build [(.emp 1),(.emp 1),(.emp 1),(.val (.int .i64 0))] [])),cG 4 2 34,ct 3 1,aT 4 9],.ret])],ab [ct 7 1],ab [au 35 0 1,aj 36 35,ba 37 163 [36],((some 38),.op (.build [(.emp 1),(.emp 1),(.emp 1),(.val (.int .i64 0))] [(0,1,(.tmp 37))])),((some 8),.op (.alloc [(.emp 1),(.emp 1),(.emp 1),(.val (.int .i64 0))])),cG 4 8 38],ab [((some 39),.op (.sU)),aa 9 39],af [ab [au 40 2 1,aj 41 40,aP 42 41,aT 43 0],bX 0 sK],af [ab [aa 91 7,aP 92 91,aT 93 0],bX 2 sN],ab [aa 139 9,au 140 3 1,aj 141 140,((some 142),.op (.old (.lookup 265 (.tmp 139) (.tmp 141) false) 3)),au 143 3 8,cG 1 143 142],ab [aU 144 4 8,aa 145 7,cG 4 2 144,aa 3 145,aT 4 0],.ret],
 [.cell 2 (some 4),.tmp 3,.tmp 4],146⟩
theorem Ao:aQ Tryz.prog 92 [1]=some xg:=by kernel_rfl
abbrev xA (m:dk Int):List (V × V × Nat):=ff (Value.int .i64) m
def Su (g:ae) (p q:List Bool) (b2 b8 b9:Nat) (u0:V) (i:Nat) (T:Env) (H:View):Prop :=
 (∃ u1 u3:V,T 7=u3/\(∀ x∈bL p q (g.rules.take i),0<=x/\x < g.ao.length)/\(bL p q (g.rules.take i)).length<=i /\
  bH H [(.sl b8 0 1 4,4,[[u0,u1,.emp 1,gi 0]]),(u3,1,bR (cT p q (g.rules.take i) 0)),
   (u1,1,jZ ((bL p q (g.rules.take i)).map λx=>g.ao.getD x.toNat ⟨#[]⟩)),(u0,3,g.ai.map cO),(.sl b2 0 1 4,4,[[.emp 1,.emp 1,.emp 1,gi 0]])] /\
  ∃ m c,H b9=.map (xA m) c/\nB gi (jk (bL p q (g.rules.take i)) 0) m) /\
 T 1=.aF (ag g) 0/\T 2=.ptr b2 0 0/\T 5=bK p/\T 6=bK q/\T 8=.ptr b8 0 0/\T 9=.mp b9/\T 41=.aS (g.rules.map aW)/\T 42=gi g.rules.length/\T 43=gi i
theorem C8 {α:Type} {x s:α} : ∀ {a d:List α} {k:Nat},a.length=k->(a ++ s :: d).set k x=a ++ x :: d
 | [],d,k,h=>by simp at h;subst h;rfl
 | y :: a,d,k,h=>by
  cases k with
  | zero=>simp at h
  | succ k=>simp only[VZ,List.set_cons_succ];rw[C8 (by simpa using h)]
def T5 (g:ae) (p q:List Bool) (b2 b8 b9:Nat) (u0 u1 u3:V) (o kl:List Int) (mm:dk Int) (cc:Nat) (i:Nat) (T:Env) (H:View):Prop :=
 (∃ (u2:V) (bs:y9),bs.map (·.2)=((g.rules.filter (bO p q)).take i).map (bB (dK o)) /\
  bH H ((.sl b8 0 1 4,4,[[u0,u1,u2,gi 0]]) :: (u3,1,bR kl) ::
   (u1,1,jZ (o.map λx=>g.ao.getD x.toNat ⟨#[]⟩)) :: (u0,3,g.ai.map cO) :: (u2,3,gH bs) :: (.sl b2 0 1 4,4,[[.emp 1,.emp 1,.emp 1,gi 0]]) :: lz bs) /\
  H b9=.map (xA mm) cc) /\
 T 1=.aF (ag g) 0/\T 2=.ptr b2 0 0/\T 7=u3/\T 8=.ptr b8 0 0/\T 9=.mp b9/\T 91=u3/\T 92=gi kl.length/\T 93=gi i
def Uh (g:ae) (b2 b8 b9 b16 b17:Nat) (u3 v:V) (o kl:List Int) (mm:dk Int) (cc:Nat) (r:aN) (L:List eC) (i k:Nat) (T:Env) (H:View):Prop :=
 bH H ((.sl b17 0 1 3,3,[[gi (dK o r.left),v,gi r.prec]]) :: (v,1,bR ((bB (dK o) r).right.take k ++ r.right.drop k)) :: (.sl b16 0 1 3,3,[aW r]) :: L) /\
 H b9=.map (xA mm) cc/\T 1=.aF (ag g) 0/\T 2=.ptr b2 0 0/\T 7=u3/\T 8=.ptr b8 0 0/\T 9=.mp b9/\T 91=u3/\T 92=gi kl.length/\T 93=gi i/\T 17=.ptr b17 0 0/\T 113=v/\T 114=gi r.right.length/\T 115=gi k
theorem HU (g:ae) (hg:g.Ok) (hs:g.Small):cx Tryz.prog 92 [.agg (ag g)] (vQ (if aO g=true then
  if (ak g true).getD g.start.toNat false=true then (iT g (dK (bL (ak g true) (bp g) g.rules)) (ak g true) (bp g),cT (ak g true) (bp g) g.rules 0,0)
  else (Cp,[],9)
 else (Cp,[],1))):=by
 refine cx.of (eP g) ?_
 refine aw.of mixed Ao ?_
 simp(disch:=omega)only[↓wr,seval,wq,xg,ag,encS]
 intro R
 try simp(disch:=omega)only[↓wr,seval,wq,ag,encS]
 refine av.pure (ng g hg hs.names) ?_
 repeat' (first | ((first|apply ah.dec|apply ah.eq|apply ah.ne|apply ah.split)<;>intro)|(simp(disch:=omega)only[↓wr,seval,wq,ag,encS,set_set]))
 .rename_i hr
  rw[Va hr]
  refine av.pure (uO g hg hs).pure ?_
  simp(disch:=omega)only[↓wr,seval,wq,ag,encS]
  refine av.pure (ET g hg hs).pure ?_
  have hf:=aK hr
  have h3:=hf.ic
  have h4:=hf.start
  have dv:=fi hr true
  have hj:=pF hr
  generalize ak g true=p at dv ⊢
  generalize bp g=q at hj ⊢
  have cr:p[g.start.toNat]?=some (p[g.start.toNat]'(by omega)):=U6 (by omega)
  have ea:p.getD g.start.toNat false=p[g.start.toNat]'(by omega):=by simp[U5,cr]
  generalize p[g.start.toNat]'(by omega)=s at cr ea
  rw[ea]
  simp(disch:=omega)only[↓wr,seval,wq,ag,encS,bK,U9,cr]
  cases s with
  | false =>
   simp(disch:=omega)only[↓wr,seval,wq,ag,encS,set_set]
   rintro h' hh
   exact vD
  | true =>
   simp(disch:=omega)only[↓wr,seval,wq,ag,encS,set_set]
   have hN:=hf.ao
   have h7:=hf.sX
   have hT:=hf.ai
   have hR:=hf.rules
   refine av.eD ((Nn g.ai (by omega) _).mono ?_)
   rintro B H1 ⟨hl,M⟩
   have bn:=(bH.nil.new (H:=λ_=>bT.dead) (n:=R) rfl 4 [[.emp 1,.emp 1,.emp 1,gi 0]]).LU hl M
   have c0:=bn.head.cells
   have k0:=bn.head.iG
   simp(disch:=omega)only[↓wr,seval,wq,ag,encS,c0,k0]
   intro P eb
   have ec:=bn.new eb 4 [[B,.emp 1,.emp 1,gi 0]]
   try simp(disch:=omega)only[↓wr,seval,wq,ag,encS,c0,k0,set_set]
   intro d S
   have cg:=(bS S bQ).1
   have S:=(bS (bS S bQ).2 bQ).2
   have f:=(((ec.fresh (n:=d) (o:=.map [] 0) (by simp only[View.set,U8 cg];exact S)).emp (k:=1) (sz:=1)).emp (k:=1) (sz:=1)).perm CC.symm
   try simp(disch:=omega)only[↓wr,seval,wq,ag,encS,c0,k0,set_set]
   refine bc.up g.rules.length (Su g p q R P d B) ?_ ?_
   .refine⟨⟨.emp 1,.emp 1,rfl,by simp[bL],by simp[bL],by rw[set_set];exact f,[],0,by simp[View.set,ff],trivial⟩,rfl,rfl,rfl,rfl,rfl,rfl,rfl,rfl,rfl⟩
   clear bn ec f eb S cg
   rintro i k T H2 hk ⟨⟨I,u3,t7,br,cC,A,mm,C,j,D⟩,t1,t2,t5,t6,t8,t9,t41,t42,t43⟩
   simp(disch:=omega)only[↓wr,seval,wq,sK,t1,t2,t5,t6,t7,t8,t9,t41,t42,t43,ag]
   apply ah.dec<;>intro hc
   .have E:g.rules[i]?=some (g.rules[i]'(by omega)):=U6 (by omega)
    have l:g.rules[i]'(by omega)∈g.rules:=Vg _
    have w:g.rules.take (i+1)=g.rules.take i ++ [g.rules[i]'(by omega)]:=by rw[Vs,E];rfl
    generalize g.rules[i]'(by omega)=r at E l w
    obtain⟨hn,eg,ei,hq,bx⟩:=hf.rM hg l
    have cN:q[r.left.toNat]?=some (q[r.left.toNat]'(by omega)):=U6 (by omega)
    have b0:q.getD r.left.toNat false=q[r.left.toNat]'(by omega):=by simp[U5,cN]
    generalize q[r.left.toNat]'(by omega)=qs at cN b0
    simp(disch:=omega)only[↓wr,seval,wq,t1,t2,t5,t6,t7,t8,t9,t41,t42,t43,aW,encI,U9,E]
    intro b1 U
    have F:=A.new U 3 [aW r]
    have ch:d≠b1:=by rintro rfl;rw[j] at U;simp at U
    try simp(disch:=omega)only[↓wr,seval,wq,t1,t2,t5,t6,t7,t8,t9,t41,t42,t43,aW,encI,bK,U9,cN,set_set]
    have W:∀ (Q:Env) (H':View),bO p q r=false->H'=H2.set b1 (.arr 3 [aW r])->Q 7=u3->Q 1=.aF (ag g) 0->Q 2=.ptr R 0 0->Q 5=bK p->Q 6=bK q->Q 8=.ptr P 0 0->Q 9=.mp d->Q 41=.aS (g.rules.map aW)->Q 42=gi g.rules.length->Q 43=gi ((i:Int)+1) ->
      ∃ k',k' < k/\BJ g.rules.length k' (Su g p q R P d B) Q H':=by
     intro Q H' X ek a7 a1 a2 a5 a6 a8 a9 a41 ht hz
     have N:bL p q (g.rules.take (i+1))=bL p q (g.rules.take i):=by rw[w,sC,U8 (by simp[X])]
     have e2:cT p q (g.rules.take (i+1)) 0=cT p q (g.rules.take i) 0:=by rw[w,j8];simp[cT,X]
     refine aI hk (by omega) ⟨⟨I,u3,a7,by rw[N];exact br,by rw[N];omega,by rw[N,e2,ek];exact F.tail,mm,C,by rw[ek];simp[View.set,ch,j],by rw[N];exact D⟩,a1,a2,a5,a6,a8,a9,a41,ht,by rw[hz];rfl⟩
    cases qs with
    | false =>
     simp(disch:=omega)only[↓wr,seval,wq,t1,t2,t5,t6,t7,t8,t9,t41,t42,t43]
     refine W _ _ (by rw[bO,b0];rfl) ?_ ?_ ?_ ?_ ?_ ?_ ?_ ?_ ?_ ?_ ?_
     all_goals first | exact t7 | exact t1 | exact t2 | exact t5 | exact t6 | exact t8 | exact t9 | exact t41 | exact t42 | rfl | (rw[set_set];rfl)
    | true =>
     simp(disch:=omega)only[↓wr,seval,wq,t1,t2,t5,t6,t7,t8,t9,t41,t42,t43,aW,encI,bK]
     refine av.pure (tj r p (hg.al r l).2.2.1 (λs eH=>⟨(bx s eH).1,λh=>by rw[dv];exact(bx s eH).2 h⟩)) ?_
     simp(disch:=omega)only[↓wr,seval,wq,t1,t2,t5,t6,t7,t8,t9,t41,t42,t43]
     apply ah.split<;>intro cS
     .simp(disch:=omega)only[↓wr,seval,wq,t1,t2,t5,t6,t7,t8,t9,t41,t42,t43]
      have X:bO p q r=true:=by rw[bO,b0,cS];rfl
      intro m hm
      try simp(disch:=omega)only[↓wr,seval,wq,t1,t2,t5,t6,t7,t8,t9,t41,t42,t43,bt]
      have eX:=(bS hm bQ).1
      have hm:=(bS (bS hm bQ).2 bQ).2
      have e:=(F.fresh (n:=m) (o:=.arr 1 [[gi i]]) (by simp only[View.set,U8 eX];exact hm)).at 2 (by simp)
      have cV:d≠m:=by rintro rfl;rw[j] at hm;simp at hm
      have e0:(cT p q (g.rules.take i) 0).length<=40:=by
       rw[km]
       have h1:=VY (bO p q) (g.rules.take i)
       have h2:(g.rules.take i).length<=i:=List.length_take_le _ _
       omega
      refine cn (by rw[set_set];exact e) (by simp[aJ]) (by unfold aD;simp at e0 ⊢;omega) (by unfold aD;simp at e0 ⊢;omega) ?_
      intro c3 H3 f t
      have f11:=f.is 1 rfl (by simp)
      have f8:=f.is 2 rfl (by simp)
      have b3:Left ((H2.set b1 (.arr 3 [aW r])).set m (.arr 1 [[gi i]])) H3 u3 c3:=by rw[set_set] at t;exact t
      have f9:H3 d=.map (xA mm) C:=b3.map (b:=d) e.head (by simp[View.set,ch,cV,j])
      have hA:dH I=some (jZ ((bL p q (g.rules.take i)).map λx=>g.ao.getD x.toNat ⟨#[]⟩)).length:=(f.own 3 rfl).len
      simp only[aW,encI] at f11
      have e2:cT p q (g.rules.take (i+1)) 0=cT p q (g.rules.take i) 0 ++ [(i:Int)]:=by
       rw[w,j8];simp[cT,X,show i<=g.rules.length by omega]
      have N:bL p q (g.rules.take (i+1))=eR (bL p q (g.rules.take i)) r:=by rw[w,sC,Va X]
      generalize bL p q (g.rules.take i)=o at *
      generalize cT p q (g.rules.take i) 0=G at *
      simp(disch:=omega)only[↓wr,seval,wq,t1,t2,t5,t6,t8,t9,t41,t42,t43,f11,f8]
      refine Tp (kt:=3) (et:=3) (z:=gi 0) (by kernel_rfl) (by kernel_rfl) (qn .i64 Tryz.underlying3) (id:=d) (c:=C) (m:=mm) (k:=r.left) (by simp(disch:=omega)only[↓wr,seval,wq,t9]) (by simp(disch:=omega)only[↓wr,seval,wq]) f9 ?_
      rw[D.get,tg]
      have hB:o.length<=40:=by omega
      by_cases hx:r.left∈o
      .have u:eR o r=o:=by rw[eR,Va hx]
       rw[Va hx]
       simp(disch:=omega)only[↓wr,seval,wq,t1,t2,t5,t6,t8,t9,t41,t42,t43,Option.isSome_some]
       have hC:=(((f.at 1 (by simp)).tail).perm (.swap _ _ _))
       refine aI hk (by omega) ⟨⟨I,c3,rfl,by rw[N,u];exact br,by rw[N,u];omega,?_,mm,C,f9,by rw[N,u];exact D⟩,t1,t2,t5,t6,t8,t9,t41,t42,rfl⟩
       rw[N,u,e2]
       simp only[Vz,VF,Wg]
       exact hC
      .have u:eR o r=o ++ [r.left]:=by rw[eR,U8 hx]
       rw[U8 hx]
       have da:g.ao[r.left.toNat]?=some (g.ao[r.left.toNat]'(by omega)):=U6 (by omega)
       have cj:g.ao.getD r.left.toNat ⟨#[]⟩=g.ao[r.left.toNat]'(by omega):=by simp[U5,da]
       generalize g.ao[r.left.toNat]'(by omega)=nm at da cj
       simp(disch:=omega)only[↓wr,seval,wq,t1,t2,t5,t6,t8,t9,t41,t42,t43,Option.isSome_none,f11,f8,hA,Vl]
       refine Gb (kt:=3) (et:=3) (by kernel_rfl) (qn .i64 Tryz.underlying3) (id:=d) (c:=C) (m:=mm) (k:=r.left) (v:=gi o.length) (by simp(disch:=omega)only[↓wr,seval,wq,t9]) (by simp(disch:=omega)only[↓wr,seval,wq]) (by simp(disch:=omega)only[↓wr,seval,wq]) f9 ?_
       intro c'
       have e4:P≠d:=B3 f 2 rfl f9
       have n119:b1≠d:=B3 f 1 rfl f9
       simp(disch:=omega)only[↓wr,seval,wq,t1,t2,t5,t6,t8,t9,t41,t42,t43,f11,f8,e4,n119,ag,encS,U9,da]
       intro m2 O
       have ck:=(bS O (by simp)).1
       have O:=(bS O (by simp)).2
       have e5:=((f.SK f9 (o:=.map (xA (cy r.left (gi o.length) C mm)) c')).fresh (n:=m2) (o:=.arr 1 [[gs nm]]) (by simp only[View.set,U8 ck];exact O)).at 3 (by simp)
       try simp(disch:=omega)only[↓wr,seval,wq,t1,t2,t5,t6,t8,t9,t41,t42,t43,bt]
       refine cn e5 (by simp[aJ]) (by unfold aD;simp;omega) (by unfold aD;simp;omega) ?_
       intro e6 H5 b4 b5
       have c1:=b4.head.cells
       have k1:=b4.head.iG
       have db:=b4.is 3 rfl (by simp)
       have hE:=b5.map (b:=d) (es:=xA (cy r.left (gi o.length) C mm)) (c:=c') e5.head (by simp[View.set,Ne.symm ck])
       have e7:d≠P:=e4.symm
       simp(disch:=omega)only[↓wr,seval,wq,t1,t2,t5,t6,t8,t9,t41,t42,t43,db,c1,k1]
       have hF:=(b4.at 3 (by simp)).put (es':=[[B,e6,.emp 1,gi 0]]) rfl rfl
       have hG:=(((hF.at 3 (by simp)).tail).perm (.cons _ (.swap _ _ _)))
       refine aI hk (by omega) ⟨⟨e6,c3,rfl,?_,?_,?_,_,c',(by simp only[View.set,U8 e7];exact hE),?_⟩,t1,t2,t5,t6,t8,t9,t41,t42,rfl⟩
       .rw[N,u];intro x hI;rcases VK.1 hI with h | h
        .exact br x h
        .simp at h;subst h;exact⟨eg,ei⟩
       .rw[N,u];simp;omega
       .rw[N,u,e2]
        simp only[Vz,VF,Wg,cj]
        exact hG
       .rw[N,u,Bt,Int.zero_add,<-Eu hx]
        exact D.put r.left (o.length:Int) C
     .simp(disch:=omega)only[↓wr,seval,wq,t1,t2,t5,t6,t7,t8,t9,t41,t42,t43]
      refine W _ _ (by rw[bO,b0,cS];rfl) ?_ ?_ ?_ ?_ ?_ ?_ ?_ ?_ ?_ ?_ ?_
      all_goals first | exact t7 | exact t1 | exact t2 | exact t5 | exact t6 | exact t8 | exact t9 | exact t41 | exact t42 | rfl | (rw[set_set];rfl)
   .rw[Vn (by omega)] at A br cC D
    have hJ:(cT p q g.rules 0).length<=40:=by
     rw[km];have h1:=VY (bO p q) g.rules;omega
    have hK:=sJ p q g.rules 0
    have h6:=km p q g.rules 0
    have e8:iT g (dK (bL p q g.rules)) p q=⟨g.ai,(bL p q g.rules).map λx=>g.ao.getD x.toNat ⟨#[]⟩,(g.rules.filter (bO p q)).map (bB (dK (bL p q g.rules))),dK (bL p q g.rules) g.start⟩:=rfl
    rw[e8]
    clear e8
    generalize bL p q g.rules=o at *
    generalize cT p q g.rules 0=G at *
    have hB:o.length<=40:=by omega
    have hM:dH u3=some (bR G).length:=(A.own 1 rfl).len
    simp(disch:=omega)only[↓wr,seval,wq,t1,t2,t5,t6,t7,t8,t9,hM,Vl]
    refine bc.up G.length (T5 g p q R P d B I u3 o G mm C) ?_ ?_
    .refine⟨⟨.emp 1,[],by simp,?_,j⟩,t1,t2,t7,t8,t9,t7,rfl,rfl⟩
     exact(A.emp (k:=1) (sz:=3)).perm (rv [(.sl P 0 1 4,4,[[B,I,.emp 1,gi 0]]),(u3,1,bR G),(I,1,jZ (o.map λx=>g.ao.getD x.toNat ⟨#[]⟩)),(B,3,g.ai.map cO),(.emp 1,3,[]),(.sl R 0 1 4,4,[[.emp 1,.emp 1,.emp 1,gi 0]])] 4 (by simp)).symm
    clear A j t1 t2 t5 t6 t7 t8 t9 t41 t42 t43
    rintro i k T H2 hk ⟨⟨u2,bs,b7,A,j⟩,t1,t2,t7,t8,t9,t91,t92,t93⟩
    simp(disch:=omega)only[↓wr,seval,wq,sN,t1,t2,t7,t8,t9,t91,t92,t93]
    apply ah.dec<;>intro hc
    .obtain⟨n3,e3,hP⟩:=(A.own 1 rfl).sl (by simp;omega)
     rw[Vl] at e3
     subst e3
     obtain⟨m,dj,O,Y⟩:=hK i (by omega)
     have fl:=kB (show i < G.length by omega)
     rw[Int.zero_add] at dj
     have hQ:G[i]'(by omega)=(m:Int):=by
      rw[U6 (show i < G.length by omega)] at dj;simpa using dj
     rw[hQ] at fl
     have E:g.rules[m]?=some (g.rules[m]'Y):=U6 Y
     have l:g.rules[m]'Y∈g.rules:=Vg _
     have w:(g.rules.filter (bO p q)).take (i+1)=(g.rules.filter (bO p q)).take i ++ [g.rules[m]'Y]:=by
      rw[Vs,<-O,E];rfl
     generalize g.rules[m]'Y=r at E l w
     obtain⟨hn,eg,ei,hq,bx⟩:=hf.rM hg l
     simp(disch:=omega)only[↓wr,seval,wq,t1,t2,t7,t8,t9,t91,t92,t93,hP,fl,Vl,ag,aW,encI,U9,E]
     refine⟨by omega,by omega,?_⟩
     intro dm J
     have F:=A.new J 3 [aW r]
     have Z:d≠dm:=by rintro rfl;rw[j] at J;simp at J
     try simp(disch:=omega)only[↓wr,seval,wq,t1,t2,t7,t8,t9,t91,t92,t93,set_set]
     refine Fa (kt:=3) (et:=3) (z:=gi 0) (by kernel_rfl) (by kernel_rfl) (qn .i64 Tryz.underlying3) (id:=d) (c:=C) (m:=mm) (k:=r.left) (by simp(disch:=omega)only[↓wr,seval,wq,t9]) (by simp(disch:=omega)only[↓wr,seval,wq]) (by simp[View.set,Z,j]) ?_
     have ca:∀ x,(getM mm x).getD (gi 0)=gi (dK o x):=λx=>by
      rw[D.get,dK];cases dU (jk o 0) x <;> rfl
     rw[ca]
     simp(disch:=omega)only[↓wr,seval,wq,t1,t2,t7,t8,t9,t91,t92,t93]
     refine av.R3 (Oa r.right (by omega) _) ?_
     intro v H3 hv M
     have e:=bH.LU (H:=H2.set dm (.arr 3 [aW r])) F hv (by rw[set_set] at M;exact M)
     have ds:H3 d=.map (xA mm) C:=by
      rw[(M d (by simp[View.set,Z,j])).1];simp[View.set,Z,j]
     have cv:=hv.cells
     have kv:=hv.iG
     have lv:=hv.len
     have f16:=e.is 1 rfl (by simp)
     simp only[aW,encI] at f16
     simp(disch:=omega)only[↓wr,seval,wq,t1,t2,t7,t8,t9,t91,t92,t93,f16,cv,kv]
     intro fm K
     have a:=e.new K 3 [[gi (dK o r.left),v,gi r.prec]]
     have fs:d≠fm:=by rintro rfl;rw[ds] at K;simp at K
     try simp(disch:=omega)only[↓wr,seval,wq,t1,t2,t7,t8,t9,t91,t92,t93,cv,kv,lv,set_set,Vl]
     generalize hL:((V.sl P 0 1 4,4,[[B,I,u2,gi 0]]) :: (V.sl n3 0 G.length 1,1,bR G) ::
       (I,1,jZ (o.map λx=>g.ao.getD x.toNat ⟨#[]⟩)) :: (B,3,g.ai.map cO) :: (u2,3,gH bs) :: (V.sl R 0 1 4,4,[[V.emp 1,V.emp 1,V.emp 1,gi 0]]) :: lz bs:List eC)=L at a
     refine bc.up r.right.length (Uh g R P d dm fm (.sl n3 0 G.length 1) v o G mm C r L i) ?_ ?_
     .exact⟨by rw[set_set];exact a,by simp[View.set,fs,ds],t1,t2,t7,t8,t9,t91,t92,t93,rfl,rfl,rfl,rfl⟩
     clear F e a J K j ds f16 hv M t1 t2 t7 t8 t9 t91 t92 t93
     rintro k k2 T H3 ft ⟨a,j,t1,t2,t7,t8,t9,t91,t92,t93,t17,t113,t114,t115⟩
     have f17:=a.is 0 rfl (by simp)
     simp(disch:=omega)only[↓wr,seval,wq,sE,t1,t2,t7,t8,t9,t91,t92,t93,t17,t113,t114,t115]
     apply ah.dec<;>intro hS
     .have fx:r.right[k]?=some (r.right[k]'(by omega)):=U6 (by omega)
      have fz:r.right[k]'(by omega)∈r.right:=Vg _
      have hV:(bB (dK o) r).right.length=r.right.length:=by simp[bB]
      have an:(bB (dK o) r).right.take (k+1)=(bB (dK o) r).right.take k ++ [if r.right[k]'(by omega) < 0 then -1 - dK o (-1 - r.right[k]'(by omega)) else r.right[k]'(by omega)]:=by
       rw[Vs];simp[bB,fx]
      have gd:=e9 (show k < r.right.length by omega)
      generalize r.right[k]'(by omega)=s at fx fz an gd
      obtain⟨⟨s1,s2⟩,s3⟩:=bx s fz
      have h8:=Rg o (-1 - s)
      rw[gd] at a
      have hlen:(((bB (dK o) r).right.take k ++ s :: r.right.drop (k+1)).map λx=>[gi x]).length=r.right.length:=by simp;omega
      obtain⟨nv,ev,gk⟩:=(a.own 1 rfl).sl (by rw[hlen];omega)
      rw[hlen] at ev
      subst ev
      have cf:k < ((bB (dK o) r).right.take k ++ s :: r.right.drop (k+1)).length:=by simp;omega
      have aq:=kB cf
      have hW:((bB (dK o) r).right.take k ++ s :: r.right.drop (k+1))[k]'cf=s:=by
       rw[List.getElem_append_right (by simp;omega)]
       simp[show k - min k r.right.length=0 by omega,hV]
      rw[hW] at aq
      simp(disch:=omega)only[↓wr,seval,wq,t1,t2,t7,t8,t9,t91,t92,t93,t17,t113,t114,t115,gk,aq,Vl]
      refine⟨by omega,cf,?_⟩
      have gl:((bB (dK o) r).right.take k).length=k:=by rw[VS];omega
      have hX:nv≠d:=B3 a 1 rfl j
      apply ah.dec<;>intro ar
      .rw[Va ar] at an
       simp(disch:=omega)only[↓wr,seval,wq,t1,t2,t7,t8,t9,t91,t92,t93,t17,t113,t114,t115,f17]
       refine Fa (kt:=3) (et:=3) (z:=gi 0) (by kernel_rfl) (by kernel_rfl) (qn .i64 Tryz.underlying3) (id:=d) (c:=C) (m:=mm) (k:=-1 - s) (by simp(disch:=omega)only[↓wr,seval,wq,t9]) (by simp(disch:=omega)only[↓wr,seval,wq]) j ?_
       rw[ca]
       simp(disch:=omega)only[↓wr,seval,wq,t1,t2,t7,t8,t9,t91,t92,t93,t17,t113,t114,t115,f17,gk,aq,Vl]
       refine⟨by omega,cf,?_⟩
       have bd:=((a.at 1 (by simp)).put (es':=((((bB (dK o) r).right.take k ++ s :: r.right.drop (k+1)).map λx=>[gi x]).set k [gi (-1 - dK o (-1 - s))])) (by simp) (by rw[hlen])).perm (.swap _ _ _)
       refine aI ft (by omega) ⟨?_,by simp only[View.set,U8 hX.symm];exact j,t1,t2,t7,t8,t9,t91,t92,t93,t17,t113,t114,rfl⟩
       rw[ints_set,C8 gl] at bd
       rw[an,VR]
       rw[ints_set,C8 gl]
       exact bd
      .rw[U8 ar] at an
       simp(disch:=omega)only[↓wr,seval,wq,t1,t2,t7,t8,t9,t91,t92,t93,t17,t113,t114,t115]
       refine aI ft (by omega) ⟨?_,j,t1,t2,t7,t8,t9,t91,t92,t93,t17,t113,t114,rfl⟩
       rw[an,VR]
       exact a
     .rw[Vn (by simp[bB];omega),VA (by omega),WH] at a
      subst hL
      have f8:=a.is 3 rfl (by simp)
      have cv:=(a.own 1 rfl).cells
      have kv:=(a.own 1 rfl).iG
      have gr:(gH bs).length<=40:=by
       have h1:=VT List.length b7
       simp only[Vl,VS] at h1
       simp only[gH,Vl]
       omega
      simp(disch:=omega)only[↓wr,seval,wq,t1,t2,t7,t8,t9,t91,t92,t93,t17,t113,t114,t115,f8,f17,cv,kv]
      intro m hm
      have cV:d≠m:=by rintro rfl;rw[j] at hm;simp at hm
      try simp(disch:=omega)only[↓wr,seval,wq,t1,t2,t7,t8,t9,t91,t92,t93,t17,bt]
      have bd:=(a.fresh (o:=.arr 3 [[gi (dK o r.left),v,gi r.prec]]) hm).at 7 (by simp)
      refine cn bd (by simp[yW,kv]) (by unfold aD;simp at gr ⊢;omega) (by unfold aD;simp at gr ⊢;omega) ?_
      intro ha H4 bl t
      have cu:=bl.head.cells
      have ku:=bl.head.iG
      have db:=bl.is 4 rfl (by simp)
      have hb:H4 d=.map (xA mm) C:=t.map (b:=d) bd.head (by simp[View.set,cV,j])
      have hY:d≠P:=(B3 bl 4 rfl hb).symm
      simp(disch:=omega)only[↓wr,seval,wq,t1,t2,t7,t8,t9,t91,t92,t93,t17,db,cu,ku]
      have h0:=(bl.at 4 (by simp)).put (es':=[[B,I,ha,gi 0]]) rfl rfl
      have h5:=((((h0.at 2 (by simp)).tail).at 3 (by simp)).tail)
      refine aI hk (by omega) ⟨⟨ha,bs ++ [(v,bB (dK o) r)],?_,?_,by simp only[View.set,U8 hY];exact hb⟩,t1,t2,t7,t8,t9,t91,t92,rfl⟩
      .rw[Vz,b7,w,Vz];rfl
      .refine h5.perm (.cons _ ?_)
       simp only[lz,gH,Vz,VF,Wg]
       refine .trans ?_ (rv _ 3 (by simp)).symm
       refine .cons _ ?_
       exact(WX (v,1,bR (bB (dK o) r).right) ((.sl n3 0 G.length 1,1,bR G) :: (I,1,jZ (o.map λx=>g.ao.getD x.toNat ⟨#[]⟩)) :: (B,3,g.ai.map cO) :: (.sl R 0 1 4,4,[[.emp 1,.emp 1,.emp 1,gi 0]]) :: lz bs)).symm
    .rw[Vn (by omega)] at b7
     have f8:=A.is 0 rfl (by simp)
     have f2:=A.is 5 rfl (by simp)
     have hd:P≠R:=A.MG 0 5 rfl rfl (by omega)
     have c1:=(A.own 2 rfl).cells
     have k1:=(A.own 2 rfl).iG
     have c2:=(A.own 4 rfl).cells
     have k2:=(A.own 4 rfl).iG
     have ca:∀ x,(getM mm x).getD (gi 0)=gi (dK o x):=λx=>by
      rw[D.get,dK];cases dU (jk o 0) x <;> rfl
     simp(disch:=omega)only[↓wr,seval,wq,t1,t2,t7,t8,t9,t91,t92,t93,ag]
     refine Fa (kt:=3) (et:=3) (z:=gi 0) (by kernel_rfl) (by kernel_rfl) (qn .i64 Tryz.underlying3) (id:=d) (c:=C) (m:=mm) (k:=g.start) (by simp(disch:=omega)only[↓wr,seval,wq,t9]) (by simp(disch:=omega)only[↓wr,seval,wq]) j ?_
     rw[ca]
     simp(disch:=omega)only[↓wr,seval,wq,t1,t2,t7,t8,t9,t91,t92,t93,f8,f2,hd,hd.symm,c0,k0,c1,k1,c2,k2]
     intro h' hh
     have F:=A.put (es':=[[B,I,u2,gi (dK o g.start)]]) rfl rfl
     have e:=(F.at 5 (by simp)).put (es':=[[B,I,u2,gi (dK o g.start)]]) rfl rfl
     have hv:h'.view=(H2.set P (.arr 4 [[B,I,u2,gi (dK o g.start)]])).set R (.arr 4 [[B,I,u2,gi (dK o g.start)]]):=hh
     rw[<-hv] at e
     exact Jk (x:=(⟨g.ai,o.map λx=>g.ao.getD x.toNat ⟨#[]⟩,(g.rules.filter (bO p q)).map (bB (dK o)),dK o g.start⟩,G,0)) (b:=bs) (e.own 4 rfl) (e.own 3 rfl) (e.own 5 rfl) (λy hy=>e.1 y (by
      refine Vt _ (Vt _ (Vt _ (Vt _ (Vt _ (Vt _ ?_)))))
      exact hy)) b7 (e.own 2 rfl)
 .rename_i hr
  intro h' hh
  rw[U8 (by simp[hr])]
  exact vD
theorem Jj {l:List Int} {a b:List Bool} {t:Bool} (h:fg a b) (k:cp l a t=true):cp l b t=true:=by
 simp only[cp,Vr] at k ⊢
 intro s d
 have:=k s d
 by_cases c:0<=s
 .rw[Va c] at this ⊢;exact this
 .rw[U8 c] at this ⊢;exact h.2 _ this
theorem fg.qN {a b:List Bool} (h:fg a b) (k:fg b a):a=b:=by
 have h1:=h.dN
 have c:=k.dN
 exact h1.2 (by omega)
def nQ (g:ae) (t:Bool) (is:List Bool):Prop:=∀ i,is.getD i false=true->∃ r∈g.rules,r.left.toNat=i/\cp r.right is t=true
theorem nQ.step {g:ae} {t:Bool} {is:List Bool} {r:aN} (h:nQ g t is) (hr:r∈g.rules):nQ g t (dw t is r):=by
 have hle:fg is (dw t is r):=by
  unfold dw
  split
  .exact .set _ _
  .exact .refl _
 intro i hi
 by_cases e:is.getD i false=true
 .obtain⟨c,h1,d,f⟩:=h i e
  exact⟨c,h1,d,Jj hle f⟩
 .unfold dw at hi
  by_cases a:cp r.right is t=true
  .rw[Va a] at hi
   have:r.left.toNat=i:=by
    refine Wu λb=>e ?_
    simp only[U5,Wk,U8 b] at hi ⊢
    exact hi
   exact⟨r,hr,this,Jj hle a⟩
  .rw[U8 a] at hi;exact absurd hi e
theorem nQ.fold {g:ae} {t:Bool} : ∀ (l:List aN) (is:List Bool),(∀ r∈l,r∈g.rules)->nQ g t is->nQ g t (l.foldl (dw t) is)
 | [],is,_,h=>h
 | r :: l,is,a,h=>nQ.fold l _ (λx b=>a x (by simp[b])) (h.step (a r (by simp)))
theorem nQ.iter {g:ae} {t:Bool} : ∀ (n:Nat) (is:List Bool),nQ g t is->nQ g t (iter (ja g t) n is)
 | 0,_,h=>h
 | n+1,is,h=>nQ.iter n _ (nQ.fold g.rules is (λ_ h=>h) h)
theorem KB (g:ae) (t:Bool):nQ g t (ak g t):=by
 unfold ak
 split
 .refine nQ.iter _ _ ?_
  intro i hi
  simp only[bV,U5,List.getElem?_replicate] at hi
  split at hi <;> simp at hi
 .intro i hi;simp at hi
theorem I4 (is:List Bool) (s:Int):fg is (mark is s):=by
 unfold mark
 split
 .exact .set _ _
 .exact .refl _
theorem zY:∀ (l:List Int) (is:List Bool),fg is (l.foldl mark is)
 | [],is=>.refl _
 | s :: l,is=>(I4 is s).trans (zY l _)
theorem FW (p is:List Bool) (r:aN):fg is (fB p is r):=by
 unfold fB
 split
 .exact zY _ _
 .exact .refl _
theorem GI (p:List Bool):∀ (l:List aN) (is:List Bool),fg is (l.foldl (fB p) is)
 | [],is=>.refl _
 | r :: l,is=>(FW p is r).trans (GI p l _)
theorem D9 {p:List Bool} : ∀ {l:List aN} {is:List Bool},l.foldl (fB p) is=is->∀ r∈l,fB p is r=is
 | [],_,_,_,h=>by simp at h
 | r :: l,is,h,x,a=>by
  rw[VC] at h
  have h1:=GI p l (fB p is r)
  rw[h] at h1
  have b:=(h1.qN (FW p is r))
  rcases Vq.1 a with rfl | a
  .exact b
  .rw[b] at h;exact D9 h x a
theorem EB:∀ {l:List Int} {is:List Bool},l.foldl mark is=is->∀ s∈l,mark is s=is
 | [],_,_,_,h=>by simp at h
 | r :: l,is,h,x,a=>by
  rw[VC] at h
  have h1:=zY l (mark is r)
  rw[h] at h1
  have b:=(h1.qN (I4 is r))
  rcases Vq.1 a with rfl | a
  .exact b
  .rw[b] at h;exact EB h x a
theorem DS {g:ae} (hr:aO g=true):ot g (ak g true) (bp g)=bp g/\fg ((bV g).set g.start.toNat true) (bp g):=by
 have a:=aK hr
 have h:=sQ (rQ (ak g true)) g.rules 16 ((bV g).set g.start.toNat true) (by have:=a.ao;simp[bV];omega)
 rw[IN,MK hr] at h
 exact h
theorem ub {g:ae} (hr:aO g=true):(bp g).getD g.start.toNat false=true:=by
 have a:=aK hr
 refine(DS hr).2.2 _ ?_
 have b:=a.ic
 have c:=a.start
 simp only[U5]
 rw[WU (by simp[bV];omega)]
 rfl
theorem vx {g:ae} (hr:aO g=true) {r:aN} (hm:r∈g.rules) (hk:bO (ak g true) (bp g) r=true) {s:Int} (b:s∈r.right) (c:s < 0):(bp g).getD (-1 - s).toNat false=true:=by
 have d:=aK hr
 have h1:=D9 (DS hr).1 r hm
 unfold fB at h1
 rw[bO] at hk
 rw[Va hk] at h1
 have a:=EB h1 s b
 unfold mark at a
 rw[Va c] at a
 rw[<-a]
 have e:=pF hr
 have:=d.neg hm b c
 simp only[U5]
 rw[WU (by omega)]
 rfl
theorem A4 {g:ae} (hr:aO g=true) {x:Int} (d:0<=x) (hp:(ak g true).getD x.toNat false=true) (a:(bp g).getD x.toNat false=true):x∈bL (ak g true) (bp g) g.rules:=by
 obtain⟨r,h1,e,b⟩:=KB g true _ hp
 have c:=aK hr
 have f:=c.left r h1
 have:r.left=x:=by omega
 refine rH.2 ⟨r,h1,?_,this⟩
 rw[bO,this,a,b];rfl
theorem LD (g:ae):(if aO g=true then
  if (ak g true).getD g.start.toNat false=true then (iT g (dK (bL (ak g true) (bp g) g.rules)) (ak g true) (bp g),cT (ak g true) (bp g) g.rules 0,0)
  else (Cp,[],9)
 else (Cp,[],1))=dV g:=by
 unfold dV
 by_cases hr:aO g=true
 .rw[Va hr,Va hr]
  by_cases hp:(ak g true).getD g.start.toNat false=true
  .rw[Va hp,Va hp]
   have c:=aK hr
   rw[Mk]
   .exact A4 hr c.ic hp (ub hr)
   .intro r hm
    obtain⟨h1,a⟩:=VV.1 hm
    refine⟨rH.2 ⟨r,h1,a,rfl⟩,λs b d=>?_⟩
    refine A4 hr (by omega) ?_ (vx hr h1 a b d)
    rw[bO,Vd] at a
    have:=a.2
    simp only[cp,Vr] at this
    have:=this s b
    rwa [U8 (by omega)] at this
  .rw[U8 hp,U8 hp]
 .rw[U8 hr,U8 hr]
theorem Lz (g:ae) (a:g.Ok) (b:g.Small):cx Tryz.prog 92 [.agg (ag g)] (vQ (dV g)):=by
 rw[<-LD];exact HU g a b
structure Cell where
 kind:Int
 n:Int
 deriving DecidableEq
structure gn where
 aY:List (List Cell)
 gotos:List (List Int)
 deriving DecidableEq
def gI (g:ae) (n:Nat) (c:Cell):Bool:=if c.kind=0∨c.kind=3 then decide (c.n=0) else if c.kind=1 then decide (0<=c.n) && decide (c.n < n) else if c.kind=2 then decide (0<=c.n) && decide (c.n < g.rules.length) else false
def xP (g:ae) (n:Nat) (a:List Cell) (l:List Int):Bool:=decide (a.length=g.ai.length+1) && decide (l.length=g.ao.length) && a.all (gI g n) && l.all λx=>decide (-1<=x) && decide (x < n)
def iU (g:ae) (t:gn):Bool:=aO g && decide (1<=t.aY.length) && decide (t.aY.length<=300) && decide (t.gotos.length=t.aY.length) && (List.range t.aY.length).all λi=>xP g t.aY.length (t.aY.getD i []) (t.gotos.getD i [])
def cX (t:gn) (s x:Int):Cell:=(t.aY.getD s.toNat []).getD x.toNat ⟨0,0⟩
def kJ (t:gn) (s x:Int):Int:=(t.gotos.getD s.toNat []).getD x.toNat (-1)
def bM (st:List Int):Int:=st.getD (st.length - 1) 0
def bJ (g:ae) (w:List Int) (at_:Nat):Int:=if at_ < w.length then w.getD at_ 0 else g.ai.length
def az (g:ae) (k:Int):aN:=g.rules.getD k.toNat ⟨0,[],0⟩
def gA (g:ae) (t:gn) (w:List Int):Nat->List Int->List Int->Nat->List Int × Int × Int
 | k,st,rs,at_ =>
  if (cX t (bM st) (bJ g w at_)).kind=3/\at_=w.length then (rs,at_,0)
  else if (cX t (bM st) (bJ g w at_)).kind=0∨(cX t (bM st) (bJ g w at_)).kind=3∨(cX t (bM st) (bJ g w at_)).kind=1/\at_=w.length then ([],at_,3)
  else match k with
   | 0=>([],at_,14)
   | k+1 =>
    if (cX t (bM st) (bJ g w at_)).kind=1 then gA g t w k (st ++ [(cX t (bM st) (bJ g w at_)).n]) rs (at_+1)
    else if st.length<=(az g (cX t (bM st) (bJ g w at_)).n).right.length then ([],at_,3)
    else if kJ t (bM (st.take (st.length - (az g (cX t (bM st) (bJ g w at_)).n).right.length))) (az g (cX t (bM st) (bJ g w at_)).n).left = -1 then ([],at_,3)
    else gA g t w k (st.take (st.length - (az g (cX t (bM st) (bJ g w at_)).n).right.length) ++ [kJ t (bM (st.take (st.length - (az g (cX t (bM st) (bJ g w at_)).n).right.length))) (az g (cX t (bM st) (bJ g w at_)).n).left])
     (rs ++ [(cX t (bM st) (bJ g w at_)).n]) at_
def F8 (t:gn) (st:List Int):Prop:=st≠[]/\∀ x∈st,0<=x/\x < t.aY.length
theorem getD_some {α:Type} {l:List α} {j:Nat} {d:α} (h:j < l.length):l[j]?=some (l.getD j d):=by simp[U5,h]
theorem FQ {st:List Int} (h:st≠[]):bM st∈st:=by
 have a:st.length - 1 < st.length:=by have:=WR.2 h;omega
 unfold bM
 simp[U5,a]
theorem j7 (st:List Int) (x:Int):bM (st ++ [x])=x:=by simp[bM,U5]
theorem F8.app {t:gn} {st:List Int} {x:Int} (h:∀ y∈st,0<=y/\y < t.aY.length) (b:0<=x/\x < t.aY.length):F8 t (st ++ [x]):=by
 refine⟨by simp,λy a=>?_⟩
 rcases VK.1 a with a | a
 .exact h y a
 .simp at a;subst a;exact b
theorem F8.take {t:gn} {st:List Int} (h:F8 t st) {k:Nat} (hk:0 < k):F8 t (st.take k):=by
 refine⟨?_,λy a=>h.2 y (W4 a)⟩
 intro e
 rcases List.take_eq_nil_iff.1 e with e | e
 .omega
 .exact h.1 e
structure pb (g:ae) (t:gn):Prop where
 right:aO g=true
 n1:1<=t.aY.length
 n300:t.aY.length<=300
 len:t.gotos.length=t.aY.length
 row:∀ i,i < t.aY.length->xP g t.aY.length (t.aY.getD i []) (t.gotos.getD i [])=true
theorem ud {g:ae} {t:gn} (h:iU g t=true):pb g t:=by
 unfold iU at h
 simp only[Vd,Vj,Vr,Wa] at h
 exact⟨h.1.1.1.1,h.1.1.1.2,h.1.1.2,h.1.2,h.2⟩
theorem pb.nC {g:ae} {t:gn} (h:pb g t) {i:Nat} (hi:i < t.aY.length):(t.aY.getD i []).length=g.ai.length+1/\(t.gotos.getD i []).length=g.ao.length/\(∀ c∈t.aY.getD i [],gI g t.aY.length c=true)/\∀ x∈t.gotos.getD i [],-1<=x/\x < t.aY.length:=by
 have:=h.row i hi
 unfold xP at this
 simp only[Vd,Vj,Vr] at this
 exact⟨this.1.1.1,this.1.1.2,this.1.2,this.2⟩
theorem pb.cell {g:ae} {t:gn} (h:pb g t) {s x:Int} (c:0<=s/\s < t.aY.length) (d:0<=x/\x<=g.ai.length):gI g t.aY.length (cX t s x)=true/\(t.aY.getD s.toNat [])[x.toNat]?=some (cX t s x):=by
 have hi:s.toNat < t.aY.length:=by omega
 obtain⟨h1,_,a,_⟩:=h.nC hi
 have b:x.toNat < (t.aY.getD s.toNat []).length:=by omega
 have e:(t.aY.getD s.toNat [])[x.toNat]?=some (cX t s x):=getD_some b
 exact⟨a _ (Vc e),e⟩
theorem pb.go {g:ae} {t:gn} (h:pb g t) {s x:Int} (c:0<=s/\s < t.aY.length) (d:0<=x/\x < g.ao.length):(-1<=kJ t s x/\kJ t s x < t.aY.length)/\(t.gotos.getD s.toNat [])[x.toNat]?=some (kJ t s x):=by
 have hi:s.toNat < t.aY.length:=by omega
 obtain⟨_,f,_,a⟩:=h.nC hi
 have b:x.toNat < (t.gotos.getD s.toNat []).length:=by omega
 have e:(t.gotos.getD s.toNat [])[x.toNat]?=some (kJ t s x):=getD_some b
 exact⟨a _ (Vc e),e⟩
def rS (g:ae) (t:gn) (w:List Int):List Int × Int × Int:=if (aO g && decide (w.length<=60) && (w.all λx=>decide (0<=x) && decide (x < g.ai.length)) && iU g t)=true then gA g t w 2000 [0] [] 0 else ([],0,1)
theorem Ha {x:Int} : ∀ (o:List Int) (i:Int),x∈o->∃ k:Nat,dI (λy=>y == x) o i=i+k/\o[k]?=some x
 | [],_,h=>by simp at h
 | y :: o,i,h=>by
  by_cases e:y=x
  .exact⟨0,by simp[dI,e],by simp[e]⟩
  .have a:x∈o:=by
    rcases Vq.1 h with rfl | h
    .exact absurd rfl e
    .exact h
   obtain⟨k,h1,b⟩:=Ha o (i+1) a
   exact⟨k+1,by simp only[dI];rw[U8 (by simp[e]),h1];push_cast;omega,by simpa using b⟩
theorem Qa {o:List Int} {x:Int} (h:x∈o):o[(bw o x).toNat]?=some x:=by
 obtain⟨k,h1,a⟩:=Ha o 0 h
 have:bw o x=k:=by unfold bw;omega
 rw[this];simpa using a
theorem JD {o:List Int} (b:o.Nodup) {k:Nat} {x:Int} (h:o[k]?=some x):bw o x=k:=by
 have a:=Vc h
 have h1:=Qa a
 have f:=mG a
 obtain⟨hk,c⟩:=Vf.1 h
 obtain⟨d,e⟩:=Vf.1 h1
 have:=(List.getElem_inj b).1 (e.trans c.symm)
 omega
theorem rI:∀ (l:List aN) (acc:List Int),acc.Nodup->(l.foldl eR acc).Nodup
 | [],_,h=>h
 | r :: l,acc,h=>rI l _ (BL h)
theorem Kt (p q:List Bool) (l:List aN):(bL p q l).Nodup:=rI _ _ List.nodup_nil
theorem Pe (acc:List Int) (r:aN):∃ m,eR acc r=acc ++ m:=by
 unfold eR
 split
 .exact⟨[],by simp⟩
 .exact⟨_,rfl⟩
theorem uZ:∀ (l:List aN) (acc:List Int),∃ m,l.foldl eR acc=acc ++ m
 | [],acc=>⟨[],by simp⟩
 | r :: l,acc=>by
  obtain⟨m,hm⟩:=Pe acc r
  obtain⟨k,hk⟩:=uZ l (eR acc r)
  exact⟨m ++ k,by rw[VC,hk,hm,VR]⟩
theorem Qg {a b:List Int} {x:Int} (h:x∈a):bw (a ++ b) x=bw a x:=by
 unfold bw
 rw[tS _ _ _ _ (by omega)]
 have:=mG h
 unfold bw at this
 rw[Va this.1]
theorem v7 {r:ae} {o:List Int} (c:o.Nodup) (hr:r.ao.length=o.length):∀ (l:List aN) (acc:List Int),o=l.foldl eR acc->(∀ x∈l,ig r (bB (bw o) x)=true)->gC r (l.map (bB (bw o))) ((acc.length:Int) - 1)=true
 | [],acc,h,_=>by
  simp only[WL] at h
  simp[gC,hr,h]
 | x :: l,acc,h,a=>by
  simp only[VF,gC,Vd,Vj]
  rw[VC] at h
  have h1:(bB (bw o) x).left=bw o x.left:=rfl
  obtain⟨m,hm⟩:=uZ l (eR acc x)
  rw[<-h] at hm
  by_cases b:x.left∈acc
  .have e:eR acc x=acc:=by unfold eR;rw[Va b]
   rw[e] at hm h
   have g:=mG b
   have d:bw o x.left=bw acc x.left:=by rw[hm];exact Qg b
   rw[h1,d,U8 (by omega)]
   exact⟨⟨⟨g.1,by omega⟩,a x (by simp)⟩,v7 c hr l acc h λy f=>a y (by simp[f])⟩
  .have e:eR acc x=acc ++ [x.left]:=by unfold eR;rw[U8 b]
   rw[e] at hm h
   have d:bw o x.left=acc.length:=JD c (by rw[hm];simp)
   rw[h1,d,Va (by omega)]
   refine⟨⟨⟨by omega,by omega⟩,a x (by simp)⟩,?_⟩
   have:=v7 c hr l (acc ++ [x.left]) h λy f=>a y (by simp[f])
   rw[Wf] at this
   simpa using this
theorem zE {g r:ae} (h:r.ai=g.ai):∀ (l:List Term) (i:Int),jw r l i=jw g l i
 | [],_=>rfl
 | t :: l,i=>by
  simp only[jw,zE h l]
  congr 1
  simp only[jQ,l5,q7,h]
theorem xc {o:List Int} {n:Nat} (h:o.Nodup) (a:∀ x∈o,0<=x/\x < n):o.length<=n:=by
 have:=qp o ((List.range n).map λ(k:Nat)=>(k:Int)) h λx b=>by
  have:=a x b
  exact Vv.2 ⟨x.toNat,Wa.2 (by omega),by omega⟩
 simpa using this
structure gU (g:ae) (p q:List Bool) (o:List Int) (r:ae):Prop where
 right:aO g=true
 pe:p=ak g true
 qe:q=bp g
 oe:o=bL p q g.rules
 re:r=iT g (bw o) p q
 nodup:o.Nodup
 inside:∀ x∈o,0<=x/\x < g.ao.length
 kept:∀ R∈g.rules,bO p q R=true->R.left∈o/\∀ s∈R.right,s < 0->-1 - s∈o
 from_:∀ x∈o,∃ R∈g.rules,bO p q R=true/\R.left=x
 start:g.start∈o
theorem F7 {g:ae} (hr:aO g=true) (hp:(ak g true).getD g.start.toNat false=true):gU g (ak g true) (bp g) (bL (ak g true) (bp g) g.rules) (iT g (bw (bL (ak g true) (bp g) g.rules)) (ak g true) (bp g)):=by
 have b:=aK hr
 refine⟨hr,rfl,rfl,rfl,rfl,Kt _ _ _,λx a=>?_,λR hm hk=>⟨rH.2 ⟨R,hm,hk,rfl⟩,λs c d=>?_⟩,λx a=>rH.1 a,A4 hr b.ic hp (ub hr)⟩
 .obtain⟨R,h1,_,rfl⟩:=rH.1 a
  exact b.left R h1
 .refine A4 hr (by omega) ?_ (vx hr hm hk c d)
  rw[bO,Vd] at hk
  have:=hk.2
  simp only[cp,Vr] at this
  have:=this s c
  rwa [U8 (by omega)] at this
section
variable {g r:ae} {p q:List Bool} {o:List Int}
theorem gU.rules (h:gU g p q o r):r.rules=(g.rules.filter (bO p q)).map (bB (bw o)):=by rw[h.re];rfl
theorem gU.ao (h:gU g p q o r):r.ao=o.map λx=>g.ao.getD x.toNat ⟨#[]⟩:=by rw[h.re,h.oe];rfl
theorem gU.ai (h:gU g p q o r):r.ai=g.ai:=by rw[h.re];rfl
theorem gU.Hd (h:gU g p q o r):r.start=bw o g.start:=by rw[h.re];rfl
theorem gU.len (h:gU g p q o r):r.ao.length=o.length:=by rw[h.ao];simp
theorem gU.th (h:gU g p q o r):aO r=true:=by
 have Q:=aK h.right
 have E:=h.right
 simp only[aO,jH,kp,Vd,Vj] at E ⊢
 obtain⟨⟨⟨⟨⟨⟨⟨I,a2⟩,⟨a3,a4⟩,a5⟩,R⟩,S⟩,T⟩,a9⟩,t⟩:=E
 have J:=mG h.start
 have K:o.length<=g.ao.length:=xc h.nodup h.inside
 have c:g.ao.Nodup/\∀ s∈g.ao,fP (fh s)=true/\l5 g s < 0:=by
  rw[s7] at a5
  refine⟨(sV g.ao).1 λk s hk=>?_,λs i=>?_⟩
  .have:=a5 k s hk
   simp only[lq,xC,Vd,V8] at this
   have:=this.1.2
   omega
  .obtain⟨k,hk⟩:=List.getElem?_of_mem i
   have:=a5 k s hk
   simp only[lq,Vd,Vj] at this
   exact⟨this.1.1,this.2⟩
 have a:∀ x∈o,∃ (b:x.toNat < g.ao.length),g.ao.getD x.toNat ⟨#[]⟩=g.ao[x.toNat]:=λx b=>by
  have:=h.inside x b
  exact⟨by omega,by simp[U5,U6 (show x.toNat < g.ao.length by omega)]⟩
 have u:r.ao.Nodup:=by
  rw[h.ao,WW,Xd]
  refine(List.Pairwise.and_mem.1 h.nodup).imp ?_
  rintro x y ⟨b,F,v⟩ e
  obtain⟨h1,w⟩:=a x b
  obtain⟨G,j⟩:=a y F
  rw[w,j] at e
  have U:=(List.getElem_inj c.1).1 e
  have V:=h.inside x b
  have W:=h.inside y F
  exact v (by omega)
 have l:(g.rules.filter (bO p q)).length<=g.rules.length:=VY _ _
 obtain⟨X,z,A,_⟩:=h.from_ _ h.start
 have H:0 < (g.rules.filter (bO p q)).length:=List.length_pos_of_mem (VV.2 ⟨z,A⟩)
 have L:r.rules.length=(g.rules.filter (bO p q)).length:=by rw[h.rules];simp
 refine⟨⟨⟨⟨⟨⟨⟨by rw[h.ai];exact I,?_⟩,⟨by rw[h.len];omega,by rw[h.len];omega⟩,?_⟩,by omega⟩,by omega⟩,by rw[h.Hd];omega⟩,by rw[h.Hd,h.len];omega⟩,?_⟩
 .rw[h.ai,zE h.ai];exact a2
 .rw[s7]
  intro k s hk
  have hm:=Vc hk
  have d:=(sV r.ao).2 u k s hk
  rw[h.ao,Vv] at hm
  obtain⟨x,b,rfl⟩:=hm
  obtain⟨h1,w⟩:=a x b
  obtain⟨G,j⟩:=c.2 _ (w ▸ Vg h1:g.ao.getD x.toNat ⟨#[]⟩∈g.ao)
  simp only[lq,xC,Vd,V8,Vj]
  refine⟨⟨G,by rw[d];omega⟩,?_⟩
  simp only[l5,h.ai] at j ⊢
  exact j
 .rw[h.rules]
  have:=v7 (r:=r) h.nodup h.len (g.rules.filter (bO p q)) [] (by rw[h.oe];rfl) (λx b=>?_)
  .simpa using this
  obtain⟨hm,hk⟩:=VV.1 b
  obtain⟨_,B⟩:=h.kept x hm hk
  have m:=(yO _ _ t).2 x hm
  have m:=m.2.2
  simp only[ig,Vd,Vj,Vr] at m ⊢
  obtain⟨⟨⟨M,N⟩,O⟩,P⟩:=m
  refine⟨⟨⟨by simpa [bB] using M,N⟩,by rw[h.ai];exact O⟩,λs i=>?_⟩
  simp only[bB,Vv] at i
  obtain⟨n,f,rfl⟩:=i
  have C:=P n f
  by_cases D:n < 0
  .rw[Va D]
   have Y:=mG (B n f D)
   simp only[l8,gB,Vd]
   rw[U8 (by omega),decide_eq_false (p:=0≤-1 - bw o (-1 - n)) (by omega)]
   simp only[h.len,Vj,WK,Bool.not_false,and_true]
   omega
  .rw[U8 D]
   simp only[l8,gB,h.ai] at C ⊢
   rw[Va (by omega)] at C ⊢
   exact C
end
inductive s9 (g:ae):Int->Prop
 | mk (R:aN):R∈g.rules->(∀ s∈R.right,s < 0->s9 g (-1 - s))->s9 g R.left
inductive nN (g:ae) (p:List Bool):Int->Prop
 | start:nN g p g.start
 | next (R:aN) (s:Int):R∈g.rules->nN g p R.left->cp R.right p true=true->s∈R.right->s < 0->nN g p (-1 - s)
theorem wL {l:List Int} {p:List Bool} : cp l p true=true↔∀ s∈l,s < 0->p.getD (-1 - s).toNat false=true:=by
 simp only[cp,Vr]
 constructor
 .intro h s a b
  have:=h s a
  rwa [U8 (by omega)] at this
 .intro h s a
  by_cases b:s < 0
  .rw[U8 (by omega)];exact h s a b
  .rw[Va (by omega)]
theorem vT {l:List Bool} {i j:Nat} (h:(l.set i true).getD j false=true):j=i∨l.getD j false=true:=by
 by_cases e:i=j
 .exact .inl e.symm
 .right
  simp only[U5,Wk,U8 e] at h ⊢
  exact h
theorem vt {g:ae} {i:Nat} : (bV g).getD i false=false:=by
 simp only[bV,U5,List.getElem?_replicate]
 split <;> rfl
theorem xz {g:ae} (hr:aO g=true):∀ i:Nat,(ak g true).getD i false=true->s9 g i:=by
 have k:=aK hr
 have b:∀ (is:List Bool) (R:aN),R∈g.rules->(∀ i:Nat,is.getD i false=true->s9 g i)->∀ i:Nat,(dw true is R).getD i false=true->s9 g i:=by
  intro is R f h i hi
  unfold dw at hi
  split at hi
  .rename_i m
   rcases vT hi with rfl | hi
   .have:=k.left R f
    have e:((R.left.toNat:Nat):Int)=R.left:=by omega
    rw[e]
    refine .mk R f λs o p=>?_
    have:=h _ (wL.1 m s o p)
    rwa [show (((-1 - s).toNat:Nat):Int) = -1 - s by omega] at this
   .exact h i hi
  .exact h i hi
 have a:∀ (l:List aN) (is:List Bool),(∀ R∈l,R∈g.rules)->(∀ i:Nat,is.getD i false=true->s9 g i)->∀ i:Nat,(l.foldl (dw true) is).getD i false=true->s9 g i:=by
  intro l
  induction l with
  | nil=>intro is _ h;exact h
  | cons R l c=>intro is j h;exact c _ (λx q=>j x (by simp[q])) (b is R (j R (by simp)) h)
 have d:∀ (n:Nat) (is:List Bool),(∀ i:Nat,is.getD i false=true->s9 g i)->∀ i:Nat,(iter (ja g true) n is).getD i false=true->s9 g i:=by
  intro n
  induction n with
  | zero=>intro is h;exact h
  | succ n c=>intro is h;exact c _ (a g.rules is (λ_ h=>h) h)
 rw[ak,Va hr]
 exact d _ _ λi hi=>by rw[vt] at hi;simp at hi
theorem EH (t:Bool) (is:List Bool) (R:aN):fg is (dw t is R):=by
 unfold dw
 split
 .exact .set _ _
 .exact .refl _
theorem Ev (t:Bool):∀ (l:List aN) (is:List Bool),fg is (l.foldl (dw t) is)
 | [],is=>.refl _
 | R :: l,is=>(EH t is R).trans (Ev t l _)
theorem AG {t:Bool} : ∀ {l:List aN} {is:List Bool},l.foldl (dw t) is=is->∀ R∈l,dw t is R=is
 | [],_,_,_,h=>by simp at h
 | R :: l,is,h,x,a=>by
  rw[VC] at h
  have h1:=Ev t l (dw t is R)
  rw[h] at h1
  have b:=(h1.qN (EH t is R))
  rcases Vq.1 a with rfl | a
  .exact b
  .rw[b] at h;exact AG h x a
theorem N4 {g:ae} (hr:aO g=true) (t:Bool):ja g t (ak g t)=ak g t:=by
 have a:=aK hr
 have h:=sQ (lS t) g.rules 16 (bV g) (by have:=a.ao;simp[bV];omega)
 rw[IK,Fx hr] at h
 exact h.1
theorem ie {g:ae} (hr:aO g=true) {t:Bool} {R:aN} (a:R∈g.rules) (b:cp R.right (ak g t) t=true):(ak g t).getD R.left.toNat false=true:=by
 have h1:=AG (N4 hr t) R a
 have c:=aK hr
 have d:=fi hr t
 have e:=c.left R a
 unfold dw at h1
 rw[Va b] at h1
 rw[<-h1]
 simp only[U5]
 rw[WU (by omega)]
 rfl
theorem xp {g:ae} (hr:aO g=true) {x:Int} (h:s9 g x):(ak g true).getD x.toNat false=true:=by
 induction h with
 | mk R a _ b=>exact ie hr a (wL.2 λs c d=>b s c d)
theorem xV {g:ae} (hr:aO g=true):∀ i:Nat,(bp g).getD i false=true->nN g (ak g true) i:=by
 have o:=aK hr
 have f:∀ (R:aN),R∈g.rules->nN g (ak g true) R.left->cp R.right (ak g true) true=true->∀ (l:List Int) (is:List Bool),(∀ s∈l,s∈R.right)->(∀ i:Nat,is.getD i false=true->nN g (ak g true) i)->∀ i:Nat,(l.foldl mark is).getD i false=true->nN g (ak g true) i:=by
  intro R d e b l
  induction l with
  | nil=>intro is _ h;exact h
  | cons s l c =>
   intro is p h
   refine c _ (λx j=>p x (by simp[j])) λi hi=>?_
   unfold mark at hi
   split at hi
   .rename_i q
    rcases vT hi with rfl | hi
    .rw[show (((-1 - s).toNat:Nat):Int) = -1 - s by omega]
     exact .next R s d e b (p s (by simp)) q
    .exact h i hi
   .exact h i hi
 have k:∀ (is:List Bool) (R:aN),R∈g.rules->(∀ i:Nat,is.getD i false=true->nN g (ak g true) i)->∀ i:Nat,(fB (ak g true) is R).getD i false=true->nN g (ak g true) i:=by
  intro is R d h
  unfold fB
  split
  .rename_i b
   rw[Vd] at b
   have h1:=h _ b.1
   have:=o.left R d
   rw[show ((R.left.toNat:Nat):Int)=R.left by omega] at h1
   exact f R d h1 b.2 R.right is (λ_ h=>h) h
  .exact h
 have a:∀ (l:List aN) (is:List Bool),(∀ R∈l,R∈g.rules)->(∀ i:Nat,is.getD i false=true->nN g (ak g true) i)->∀ i:Nat,(l.foldl (fB (ak g true)) is).getD i false=true->nN g (ak g true) i:=by
  intro l
  induction l with
  | nil=>intro is _ h;exact h
  | cons R l c=>intro is e h;exact c _ (λx j=>e x (by simp[j])) (k is R (e R (by simp)) h)
 have m:∀ (n:Nat) (is:List Bool),(∀ i:Nat,is.getD i false=true->nN g (ak g true) i)->∀ i:Nat,(iter (ot g (ak g true)) n is).getD i false=true->nN g (ak g true) i:=by
  intro n
  induction n with
  | zero=>intro is h;exact h
  | succ n c=>intro is h;exact c _ (a g.rules is (λ_ h=>h) h)
 rw[bp,Va hr]
 refine m _ _ λi hi=>?_
 rcases vT hi with rfl | hi
 .have:=o.ic
  rw[show ((g.start.toNat:Nat):Int)=g.start by omega]
  exact .start
 .rw[vt] at hi;simp at hi
theorem x7 {g:ae} (hr:aO g=true) {x:Int} (h:nN g (ak g true) x):(bp g).getD x.toNat false=true:=by
 induction h with
 | start=>exact ub hr
 | next R s a _ b c d e=>exact vx hr a (by rw[bO,e,b];rfl) c d
section
variable {g r:ae} {p q:List Bool} {o:List Int}
theorem gU.UQ (h:gU g p q o r) {x:Int} (k:s9 g x):x∈o->s9 r (bw o x):=by
 induction k with
 | mk R j b l =>
  intro m
  obtain⟨u,n,c,t⟩:=h.from_ _ m
  have hk:bO p q R=true:=by
   rw[bO,Vd] at c ⊢
   refine⟨by rw[<-t];exact c.1,?_⟩
   rw[h.pe]
   exact wL.2 λs e a=>xp h.right (b s e a)
  have f:=(h.kept R j hk).2
  have hm:bB (bw o) R∈r.rules:=by rw[h.rules];exact Vv.2 ⟨R,VV.2 ⟨j,hk⟩,rfl⟩
  refine s9.mk (bB (bw o) R) hm λv d i=>?_
  simp only[bB,Vv] at d
  obtain⟨s,e,rfl⟩:=d
  by_cases a:s < 0
  .rw[Va a]
   have:=l s e a (f s e a)
   rwa [show -1 - (-1 - bw o (-1 - s))=bw o (-1 - s) by omega]
  .rw[U8 a] at i;omega
theorem gU.TF (h:gU g p q o r) {x:Int} (a:x∈o):(ak r true).getD (bw o x).toNat false=true:=by
 obtain⟨R,c,hk,rfl⟩:=h.from_ _ a
 rw[bO,Vd,h.pe] at hk
 have h1:=ie h.right c hk.2
 have b:=xz h.right _ h1
 have:=(h.inside _ a)
 rw[show ((R.left.toNat:Nat):Int)=R.left by omega] at b
 exact xp h.th (h.UQ b a)
theorem gU.at_ (h:gU g p q o r) {k:Nat} (hk:k < o.length):∃ x∈o,bw o x=k/\o[k]?=some x:=⟨o[k],Vg _,JD h.nodup (U6 hk),U6 hk⟩
theorem gU.D0 (h:gU g p q o r) {k:Nat} (hk:k < o.length):(ak r true).getD k false=true:=by
 obtain⟨x,a,h1,_⟩:=h.at_ hk
 have:=h.TF a
 rwa [h1,VD] at this
theorem gU.Ss (h:gU g p q o r) {R:aN} (a:R∈r.rules):cp R.right (ak r true) true=true:=by
 have b:=aK h.th
 refine wL.2 λs c d=>h.D0 ?_
 have:=b.neg a c d
 rw[h.len] at this
 omega
theorem gU.UL (h:gU g p q o r) {x:Int} (e:nN g (ak g true) x):nN r (ak r true) (bw o x):=by
 induction e with
 | start=>rw[<-h.Hd];exact .start
 | next R s b h1 f c d i =>
  have hk:bO p q R=true:=by
   rw[bO,h.pe,h.qe,f,x7 h.right h1];rfl
  have hm:bB (bw o) R∈r.rules:=by rw[h.rules];exact Vv.2 ⟨R,VV.2 ⟨b,hk⟩,rfl⟩
  have a:=(h.kept R b hk).2 s c d
  have j:=mG a
  have:=nN.next (g:=r) (p:=ak r true) (bB (bw o) R) (-1 - bw o (-1 - s)) hm i (h.Ss hm) (by
   simp only[bB,Vv]
   exact⟨s,c,by rw[Va d]⟩) (by omega)
  rwa [show -1 - (-1 - bw o (-1 - s))=bw o (-1 - s) by omega] at this
theorem gU.Mo (h:gU g p q o r) {k:Nat} (hk:k < o.length):(bp r).getD k false=true:=by
 obtain⟨x,b,h1,_⟩:=h.at_ hk
 obtain⟨R,d,a,rfl⟩:=h.from_ _ b
 rw[bO,Vd,h.qe] at a
 have c:=xV h.right _ a.1
 have:=(h.inside _ b)
 rw[show ((R.left.toNat:Nat):Int)=R.left by omega] at c
 have:=x7 h.th (h.UL c)
 rwa [h1,VD] at this
end
def isRed (g:ae):Bool:=(dV g).2.2 == 0 && decide (g=(dV g).1)
def jx (p:List Int) (i:Nat) (s:Int):Prop:=∃ c,p[i]?=some c/\(c=s∨c = -1)
inductive Sp (g:ae) (p:List Int):List Int->Nat->Nat->Prop
 | nil (i:Nat):Sp g p [] i i
 | term (s:Int) (l:List Int) (i j:Nat):0<=s->jx p i s->Sp g p l (i+1) j->Sp g p (s :: l) i j
 | dD (s:Int) (l:List Int) (R:aN) (i k j:Nat):s < 0->R∈g.rules->R.left = -1 - s->Sp g p R.right i k->Sp g p l k j->Sp g p (s :: l) i j
theorem Sp.le {g:ae} {p:List Int} {l:List Int} {i j:Nat} (h:Sp g p l i j):i<=j:=by
 induction h with
 | nil=>exact Vh _
 | term _ _ _ _ _ _ _ c=>omega
 | dD _ _ _ _ _ _ _ _ _ _ _ a b=>omega
theorem Sp.len {g:ae} {p:List Int} {l:List Int} {i j:Nat} (h:Sp g p l i j):i<=p.length->j<=p.length:=by
 induction h with
 | nil=>exact id
 | term _ _ i _ _ d _ e =>
  intro _
  obtain⟨c,f,_⟩:=d
  have:=(Vf.1 f).1
  exact e (by omega)
 | dD _ _ _ _ _ _ _ _ _ _ _ a b=>exact λh=>b (a h)
theorem Sp.app {g:ae} {p:List Int} {a:List Int} {i k:Nat} (h:Sp g p a i k):∀ {b:List Int} {j:Nat},Sp g p b k j->Sp g p (a ++ b) i j:=by
 induction h with
 | nil=>exact λh=>h
 | term s l i _ c f _ m=>exact λd=>.term s _ i _ c f (m d)
 | dD s l R i k _ c n o h1 _ _ e=>exact λd=>.dD s _ R i k _ c n o h1 (e d)
theorem Sp.split {g:ae} {p:List Int} : ∀ {a b:List Int} {i j:Nat},Sp g p (a ++ b) i j->∃ k,Sp g p a i k/\Sp g p b k j
 | [],b,i,j,h=>⟨i,.nil i,h⟩
 | s :: a,b,i,j,h=>by
  cases h with
  | term _ _ _ _ c e h =>
   obtain⟨k,h1,d⟩:=Sp.split h
   exact⟨k,.term s a i k c e h1,d⟩
  | dD _ _ R _ m _ c f l h1 h =>
   obtain⟨k,d,n⟩:=Sp.split h
   exact⟨k,.dD s a R i m k c f l h1 d,n⟩
theorem zk {g:ae} (hr:aO g=true) {p l:List Int} {i j:Nat} (h:Sp g p l i j):i=j->cp l (ak g false) false=true:=by
 induction h with
 | nil=>intro _;rfl
 | term _ _ _ _ _ _ h _=>intro e;have:=h.le;omega
 | dD s l R i k j m c d h1 f a b =>
  intro e
  have n:=h1.le
  have o:=f.le
  have g1:=ie hr c (a (by omega))
  rw[d] at g1
  have g2:=b (by omega)
  simp only[cp,Wb,Vd] at g2 ⊢
  rw[U8 (by omega)]
  exact⟨g1,g2⟩
def tf (g:ae) (is:List Bool):Prop:=∀ i,is.getD i false=true->∃ R∈g.rules,R.left.toNat=i/\∀ (p:List Int) (k:Nat),Sp g p R.right k k
theorem Hv {g:ae} (a:∀ r∈g.rules,0<=r.left) {is:List Bool} (h:tf g is):∀ l:List Int,cp l is false=true->∀ (p:List Int) (k:Nat),Sp g p l k k
 | [],_,p,k=>.nil k
 | s :: l,b,p,k=>by
  simp only[cp,Wb,Vd] at b
  obtain⟨h1,e⟩:=b
  by_cases c:0<=s
  .rw[Va c] at h1;simp at h1
  .rw[U8 c] at h1
   obtain⟨R,d,i,f⟩:=h _ h1
   have:=a R d
   exact .dD s l R k k k (by omega) d (by omega) (f p k) (Hv a h l e p k)
theorem LO {g:ae} (hr:aO g=true):tf g (ak g false):=by
 have j:=aK hr
 have b:=λr c=>(j.left r c).1
 have d:∀ (is:List Bool) (R:aN),R∈g.rules->tf g is->tf g (dw false is R):=by
  intro is R k h i hi
  unfold dw at hi
  split at hi
  .rename_i m
   rcases vT hi with rfl | hi
   .exact⟨R,k,rfl,Hv b h R.right m⟩
   .exact h i hi
  .exact h i hi
 have a:∀ (l:List aN) (is:List Bool),(∀ R∈l,R∈g.rules)->tf g is->tf g (l.foldl (dw false) is):=by
  intro l
  induction l with
  | nil=>intro is _ h;exact h
  | cons R l e=>intro is b h;exact e _ (λx o=>b x (by simp[o])) (d is R (b R (by simp)) h)
 have f:∀ (n:Nat) (is:List Bool),tf g is->tf g (iter (ja g false) n is):=by
  intro n
  induction n with
  | zero=>intro is h;exact h
  | succ n e=>intro is h;exact e _ (a g.rules is (λ_ h=>h) h)
 unfold ak
 rw[Va hr]
 exact f _ _ λi hi=>by rw[vt] at hi;simp at hi
structure Item where
 al:Nat
 dot:Nat
 c9:Nat
 deriving DecidableEq
def Sound (g:ae) (p:List Int) (at_:Nat) (x:Item):Prop:=∃ R,g.rules[x.al]?=some R/\x.dot<=R.right.length/\x.c9<=at_/\Sp g p (R.right.take x.dot) x.c9 at_
structure sq (g:ae) (p:List Int) (S:Nat->List Item):Prop where
 start:∀ (i:Nat) (R:aN),g.rules[i]?=some R->R.left=g.start->⟨i,0,0⟩∈S 0
 term:∀ a x R s,x∈S a->g.rules[x.al]?=some R->R.right[x.dot]?=some s->0<=s->jx p a s->⟨x.al,x.dot+1,x.c9⟩∈S (a+1)
 pred:∀ a x R s i R',x∈S a->g.rules[x.al]?=some R->R.right[x.dot]?=some s->s < 0->g.rules[i]?=some R'->R'.left = -1 - s->a<=p.length->⟨i,0,a⟩∈S a
 null:∀ a x R s,x∈S a->g.rules[x.al]?=some R->R.right[x.dot]?=some s->s < 0->(ak g false).getD (-1 - s).toNat false=true->a<=p.length->⟨x.al,x.dot+1,x.c9⟩∈S a
 comp:∀ a y R' x R s,y∈S a->g.rules[y.al]?=some R'->y.dot=R'.right.length->y.c9 < a->x∈S y.c9->g.rules[x.al]?=some R->R.right[x.dot]?=some s->s < 0->R'.left = -1 - s->a<=p.length->⟨x.al,x.dot+1,x.c9⟩∈S a
theorem Cf {g:ae} (hr:aO g=true) {p:List Int} {S:Nat->List Item} (w:sq g p S) {l:List Int} {a j:Nat} (h:Sp g p l a j) :
  ∀ (x:Item) (R:aN),x∈S a->g.rules[x.al]?=some R->R.right.drop x.dot=l->x.dot<=R.right.length->a<=p.length->⟨x.al,R.right.length,x.c9⟩∈S j:=by
 induction h with
 | nil i =>
  intro x R d b f hle _
  have:x.dot=R.right.length:=by
   have:=VT List.length f
   simp at this;omega
  rw[<-this];exact d
 | term s l i j u E _ G =>
  intro x R d b f hle hp
  have m:R.right[x.dot]?=some s:=by
   have:=VT (·[0]?) f
   simpa using this
  have n:=(Vf.1 m).1
  have h1:=w.term i x R s d b m u E
  obtain⟨c,y,_⟩:=E
  have H:=(Vf.1 y).1
  refine G ⟨x.al,x.dot+1,x.c9⟩ R h1 b ?_ n (by omega)
  have:=VT List.tail f
  simpa using this
 | dD s l Q i k j u F z o I A B =>
  intro x R d b f hle hp
  have m:R.right[x.dot]?=some s:=by
   have:=VT (·[0]?) f
   simpa using this
  have n:=(Vf.1 m).1
  obtain⟨q,J,C⟩:=Wi F
  have r:g.rules[q]?=some Q:=by rw[U6 J,C]
  have D:=w.pred i x R s q Q d b m u r z hp
  have t:=A ⟨q,0,i⟩ Q D r (by simp) (by simp) hp
  have hk:=o.len hp
  have v:⟨x.al,x.dot+1,x.c9⟩∈S k:=by
   rcases Nat.lt_or_eq_of_le o.le with e | e
   .exact w.comp k ⟨q,Q.right.length,i⟩ Q x R s t r rfl e d b m u z hk
   .subst e
    have:=ie hr F (zk hr o rfl)
    rw[z] at this
    exact w.null i x R s d b m u this hp
  refine B ⟨x.al,x.dot+1,x.c9⟩ R v b ?_ n hk
  have:=VT List.tail f
  simpa using this
theorem Nl {g:ae} (hr:aO g=true) {p:List Int} {S:Nat->List Item} (j:sq g p S) (l:∀ a x,x∈S a->Sound g p a x) :
  (∃ x∈S p.length,∃ R,g.rules[x.al]?=some R/\R.left=g.start/\x.c9=0/\x.dot=R.right.length)↔Sp g p [-1 - g.start] 0 p.length:=by
 have m:=aK hr
 have u:=m.ic
 constructor
 .rintro⟨x,n,R,e,o,f,r⟩
  obtain⟨v,c,_,_,b⟩:=l _ x n
  rw[e] at c;simp at c;subst c
  rw[r,WJ,f] at b
  exact .dD _ _ R 0 p.length p.length (by omega) (Vc e) (by omega) b (.nil _)
 .intro h
  cases h with
  | term _ _ _ _ h1 _ _=>omega
  | dD _ _ R _ k _ h1 e o b s =>
   cases s
   obtain⟨q,t,i⟩:=Wi e
   have d:g.rules[q]?=some R:=by rw[U6 t,i]
   have:=Cf hr j b ⟨q,0,0⟩ R (j.start q R d (by omega)) d (by simp) (by simp) (by omega)
   exact⟨_,this,R,d,by omega,rfl,rfl⟩
inductive In (p:List Int) (T:Nat->Nat->Nat->Prop):List Int->Nat->Nat->Prop
 | nil (i:Nat):In p T [] i i
 | term (s:Int) (l:List Int) (i j:Nat):0<=s->jx p i s->In p T l (i+1) j->In p T (s :: l) i j
 | dD (s:Int) (l:List Int) (i k j:Nat):s < 0->T (-1 - s).toNat i k->In p T l k j->In p T (s :: l) i j
theorem QZ {g:ae} (u:∀ r∈g.rules,0<=r.left) {p:List Int} {T:Nat->Nat->Nat->Prop} (n:∀ R∈g.rules,∀ i j,i<=p.length->In p T R.right i j->T R.left.toNat i j) {l:List Int} {i j:Nat} (h:Sp g p l i j):i<=p.length->In p T l i j:=by
 induction h with
 | nil i=>intro _;exact .nil i
 | term s l i j a b _ o =>
  intro _
  obtain⟨c,m,d⟩:=b
  have:=(Vf.1 m).1
  exact .term s l i j a ⟨c,m,d⟩ (o (by omega))
 | dD s l R i k j a q t h1 _ e f =>
  intro hp
  have:=n R q i k hp (e hp)
  rw[t] at this
  exact .dD s l i k j a this (f (h1.len hp))
theorem In.app {p:List Int} {T:Nat->Nat->Nat->Prop} {a:List Int} {i k:Nat} (h:In p T a i k):∀ {b:List Int} {j:Nat},In p T b k j->In p T (a ++ b) i j:=by
 induction h with
 | nil=>exact λh=>h
 | term s l i _ c f _ d=>exact λe=>.term s _ i _ c f (d e)
 | dD s l i k _ c h1 _ d=>exact λe=>.dD s _ i k _ c h1 (d e)
theorem In.split {p:List Int} {T:Nat->Nat->Nat->Prop} : ∀ {a b:List Int} {i j:Nat},In p T (a ++ b) i j->∃ k,In p T a i k/\In p T b k j
 | [],b,i,j,h=>⟨i,.nil i,h⟩
 | s :: a,b,i,j,h=>by
  cases h with
  | term _ _ _ _ c e h =>
   obtain⟨k,h1,d⟩:=In.split h
   exact⟨k,.term s a i k c e h1,d⟩
  | dD _ _ _ m _ c h1 h =>
   obtain⟨k,d,f⟩:=In.split h
   exact⟨k,.dD s a i m k c h1 d,f⟩
theorem In.le {p:List Int} {T:Nat->Nat->Nat->Prop} (a:∀ n i j,T n i j->i<=j) {l:List Int} {i j:Nat} (h:In p T l i j):i<=j:=by
 induction h with
 | nil=>exact Vh _
 | term _ _ _ _ _ _ _ b=>omega
 | dD _ _ _ _ _ _ h1 _ b=>have:=a _ _ _ h1;omega
def stepT (p:List Int) (T:Nat->Nat->Nat->Prop) (s:Int) (i j:Nat):Prop:=if 0<=s then jx p i s/\j=i+1 else T (-1 - s).toNat i j
theorem In.one {p:List Int} {T:Nat->Nat->Nat->Prop} {s:Int} {i j:Nat} : In p T [s] i j↔stepT p T s i j:=by
 unfold stepT
 constructor
 .intro h
  cases h with
  | term _ _ _ _ a b h=>cases h;rw[Va a];exact⟨b,rfl⟩
  | dD _ _ _ _ _ a h1 h=>cases h;rw[U8 (by omega)];exact h1
 .intro h
  by_cases a:0<=s
  .rw[Va a] at h
   obtain⟨b,rfl⟩:=h
   exact .term s [] i _ a b (.nil _)
  .rw[U8 a] at h
   exact .dD s [] i j j (by omega) h (.nil _)
theorem In.snoc {p:List Int} {T:Nat->Nat->Nat->Prop} {a:List Int} {s:Int} {i j:Nat} : In p T (a ++ [s]) i j↔∃ k,In p T a i k/\stepT p T s k j :=
 ⟨λh=>by obtain⟨k,h1,b⟩:=h.split;exact⟨k,h1,In.one.1 b⟩,λ⟨k,h1,b⟩=>h1.app (In.one.2 b)⟩
abbrev Tb:=List (List (List Bool))
def se (T:Tb) (n i j:Nat):Bool:=((T.getD n []).getD i []).getD j false
def tD (T:Tb) (N M:Nat):Prop:=T.length=N/\∀ r∈T,r.length=M/\∀ c∈r,c.length=M
def KX (p:List Int) (T:Tb) (s:Int) (a j:Nat):Bool :=
 if 0<=s then decide (a < p.length) && (p.getD a 0 == s || p.getD a 0 == -1) && decide (j=a+1) else decide (a<=j) && se T (-1 - s).toNat a j
def QR (p:List Int) (T:Tb) (s:Int) (now:List Bool) (f a0 j:Nat):Bool:=(List.range a0).any λa=>decide (f<=a) && now.getD a false && KX p T s a j
def MD (M:Nat) (F:Nat->Bool):List Bool:=(List.range M).map F
def Cr (p:List Int) (T:Tb) (f:Nat) (now:List Bool) (s:Int):List Bool:=MD (p.length+1) (QR p T s now f (p.length+1))
def Bl (p:List Int) (T:Tb) (l:List Int) (f:Nat):List Bool:=l.foldl (Cr p T f) (MD (p.length+1) λj=>decide (j=f))
theorem OH {M j:Nat} {F:Nat->Bool} (h:j < M):(MD M F).getD j false=F j:=by simp[MD,U5,h]
def Cd (T:Tb) (n i j:Nat):Prop:=i<=j/\se T n i j=true
theorem Dq {p:List Int} {T:Tb} {s:Int} {a j:Nat} : KX p T s a j=true↔stepT p (Cd T) s a j:=by
 unfold KX stepT
 split
 .simp only[Vd,Vj,VP,V8]
  constructor
  .rintro⟨⟨h1,b⟩,d⟩
   exact⟨⟨p.getD a 0,by simp[U5,h1],b⟩,d⟩
  .rintro⟨⟨c,e,b⟩,d⟩
   have h1:=(Vf.1 e).1
   have:p.getD a 0=c:=by simp[U5,e]
   exact⟨⟨h1,by rw[this];exact b⟩,d⟩
 .simp only[Vd,Vj];rfl
theorem Nr {T:Tb} : ∀ n i j,Cd T n i j->i<=j:=λ_ _ _ h=>h.1
theorem Fg {p:List Int} {T:Tb} {f:Nat} (i:f<=p.length):∀ (l pre:List Int) (now:List Bool),(∀ j,j<=p.length->(now.getD j false=true↔In p (Cd T) pre f j)) ->
  ∀ j,j<=p.length->((l.foldl (Cr p T f) now).getD j false=true↔In p (Cd T) (pre ++ l) f j)
 | [],pre,now,h,j,b=>by rw[WH];exact h j b
 | s :: l,pre,now,h,j,b=>by
  have k:∀ j,j<=p.length->((Cr p T f now s).getD j false=true↔In p (Cd T) (pre ++ [s]) f j):=λj b=>by
   rw[Cr,OH (by omega),In.snoc]
   simp only[QR,WC,Wa,Vd,Vj]
   constructor
   .rintro⟨a,g,⟨_,c⟩,d⟩
    exact⟨a,(h a (by omega)).1 c,Dq.1 d⟩
   .rintro⟨a,c,d⟩
    have hle:=c.le Nr
    have g:a<=p.length:=by
     have e:=d
     unfold stepT at e
     split at e
     .omega
     .have:=e.1;omega
    exact⟨a,by omega,⟨hle,(h a g).2 c⟩,Dq.2 d⟩
  have:=Fg i l (pre ++ [s]) (Cr p T f now s) k j b
  rwa [VR] at this
theorem HC {p:List Int} {T:Tb} {l:List Int} {f:Nat} (b:f<=p.length) {j:Nat} (a:j<=p.length):(Bl p T l f).getD j false=true↔In p (Cd T) l f j:=by
 have:=Fg (T:=T) b l [] (MD (p.length+1) λj=>decide (j=f)) (λj a=>by
  rw[OH (by omega),Vj]
  constructor
  .rintro rfl;exact .nil _
  .intro h;cases h;rfl) j a
 exact this
open Classical in
noncomputable def S3 (g:ae) (p:List Int):Tb:=(List.range g.ao.length).map λ(n:Nat)=>(List.range (p.length+1)).map λ(i:Nat)=>(List.range (p.length+1)).map λ(j:Nat)=>decide (Sp g p [-1 - (n:Int)] i j)
theorem SM {g:ae} {p:List Int} {n i j:Nat} (a:n < g.ao.length) (hi:i<=p.length) (b:j<=p.length):se (S3 g p) n i j=true↔Sp g p [-1 - (n:Int)] i j:=by
 simp[se,S3,U5,a,show i < p.length+1 by omega,show j < p.length+1 by omega]
theorem R4 {M i:Nat} {F:Nat->List V} {v:List V} : ((List.range M).map F).set i v=(List.range M).map λj=>if j=i then v else F j:=by
 apply List.ext_getElem (by simp)
 intro j h1 a
 simp only[List.getElem_set,List.getElem_map,List.getElem_range]
 by_cases e:i=j
 .subst e;simp
 .rw[U8 e,U8 (Ne.symm e)]
theorem iL {M i:Nat} {F:Nat->List V} (h:i < M):((List.range M).map F).getD i []=F i:=by simp[U5,h]
def Da (g:ae) (p:List Int):Bool:=p.all λx=>decide (-1<=x) && decide (x < g.ai.length)
noncomputable def me (g:ae) (p:List Int):Bool:=se (S3 g p) g.start.toNat 0 p.length
noncomputable def pB (g:ae) (p:List Int):Bool × Int:=if (aO g && decide (p.length<=60) && Da g p)=true then (me g p,0) else (false,1)
def mn (x:Bool × Int):V:=.bm [gb x.1,gi x.2]
theorem ye (x:Bool × Int):Tree (mn x):=x6 (.val _) (.val _)
theorem mj {g:ae} (hr:aO g=true) (p:List Int):me g p=true↔Sp g p [-1 - g.start] 0 p.length:=by
 have a:=aK hr
 have b:=a.ic
 have h1:=a.start
 rw[me,SM (by omega) (by omega) (by omega)]
 rw[show ((g.start.toNat:Nat):Int)=g.start by omega]
def vE (g:ae) (w:List Int):Bool:=w.all λx=>decide (0<=x) && decide (x < g.ai.length)
def fQ (g:ae) (w:List Int):Bool:=aO g && decide (w.length<=60) && vE g w
theorem pq (g:ae) (w:List Int):∀ v∈[V.agg (ag g),encI w],Tree v:=by
 intro v a;simp at a
 rcases a with rfl | rfl
 .exact bz _ (bE g)
 .exact eM w
def oc:SC :=
 af [af [ab [aa 14 5,aa 15 1,aP 16 15,aV 17 .lss 14 16],bW 17 (.exit 0)],.block 1 (af [.region false [⟨none,[aa 20 1,aa 21 5,aM 22 1 20 21,aj 23 22,aE 24 .lss 23 0,aa 25 24]⟩,⟨(some (25,false)),[aa 26 1,aa 27 5,aM 28 1 26 27,aj 29 28,au 30 0 2,aj 31 30,aP 32 31,aV 33 .geq 29 32]⟩,⟨none,[bP 34 25 33]⟩],bg 34 (af [ab [bu 4 false],.ret])]),ab [aa 18 5,aE 19 .add 18 1,aa 5 19]]
def qf:SF:=⟨af [ab [cd 2 0,bu 4 false],af [.region false [⟨none,[aU 6 4 2,ba 7 50 [6],cb 8 7,aa 9 8]⟩,⟨(some (9,false)),[aa 10 1,aP 11 10,aE 12 .gtr 11 60]⟩,⟨none,[bP 13 9 12]⟩],bg 13 (af [ab [bu 4 false],.ret])],af [ab [aT 5 0],bX 0 oc],ab [bu 4 true],.ret],
 [.tmp 4],35⟩
theorem uM:aQ Tryz.prog 17 [2]=some qf:=by kernel_rfl
def uN:SF:=⟨af [ab [bu 3 false],.region false [⟨none,[aa 4 0,aE 5 .lss 4 0,aa 6 5]⟩,⟨(some (6,false)),[aa 7 0,au 8 0 1,aj 9 8,aP 10 9,aV 11 .geq 7 10]⟩,⟨none,[bP 12 6 11,aa 3 12]⟩],.ret],
 [.tmp 3],13⟩
theorem zr:aQ Tryz.prog 108 []=some uN:=by kernel_rfl
def xT:SF:=⟨af [ab [cd 2 0,bu 4 false],af [.region false [⟨none,[aU 5 4 2,ba 6 89 [5],cb 7 6,aa 8 7]⟩,⟨(some (8,false)),[aa 9 1,aP 10 9,aE 11 .gtr 10 60]⟩,⟨none,[bP 12 8 11]⟩],bg 12 (af [ab [bu 4 false],.ret])],ab [aa 13 1,((some 14),.op (.rW 108 [] [(.tmp 2)])),ba 15 90 [13,14],cb 16 15,aa 4 16],.ret],
 [.tmp 4],17⟩
theorem Bd:aQ Tryz.prog 52 [2]=some xT:=by kernel_rfl
def sT:SF:=⟨af [ab [bu 3 false],.region false [⟨none,[aa 4 0,aE 5 .lss 4 (-1),aa 6 5]⟩,⟨(some (6,false)),[aa 7 0,au 8 0 1,aj 9 8,aP 10 9,aV 11 .geq 7 10]⟩,⟨none,[bP 12 6 11,aa 3 12]⟩],.ret],
 [.tmp 3],13⟩
theorem yg:aQ Tryz.prog 91 []=some sT:=by kernel_rfl
theorem Eo (g:ae) (m:g.Ok) (p:List Int) (hp:aH p) (r:∀ x∈p,bD x):ay Tryz.prog 17 [.agg (ag g),encI p] (gb (fQ g p)):=by
 refine ay.val (pq g p) λH=>?_
 refine aw.of mixed uM ?_
 unfold aH at hp
 have j:=m.ai
 unfold aH at j
 simp(disch:=omega)only[↓wr,seval,wq,qf,ag,encS,encI]
 refine av.pure (gK g m) ?_
 simp(disch:=omega)only[↓wr,seval,wq]
 apply ah.split<;>intro hr
 .simp(disch:=omega)only[↓wr,seval,wq,encI]
  apply ah.dec<;>intro n
  .simp(disch:=omega)only[↓wr,seval,wq]
   rw[fQ,decide_eq_false (show ¬ p.length<=60 by omega)];simp
  .simp(disch:=omega)only[↓wr,seval,wq,encI]
   refine bc.up p.length (λi h H'=>vE g (p.take i)=true/\h 1=encI p/\h 2=.aF (ag g) 0/\h 5=gi i) ⟨rfl,rfl,rfl,rfl⟩ ?_
   rintro i k h H' hk ⟨a,t1,t2,t6⟩
   simp(disch:=omega)only[↓wr,seval,wq,oc,t1,t2,t6,encI]
   apply ah.dec<;>intro o
   .have b:p[i]?=some (p[i]'(by omega)):=U6 (by omega)
    have c:p[i]'(by omega)∈p:=Vg _
    have d:p.take (i+1)=p.take i ++ [p[i]'(by omega)]:=by rw[Vs,b];rfl
    generalize p[i]'(by omega)=x at b c d
    have l:vE g (p.take (i+1))=(decide (0<=x) && decide (x < g.ai.length)):=by
     unfold vE at a ⊢
     rw[d,List.all_append,a];simp
    have f:(decide (0<=x) && decide (x < g.ai.length))=false->fQ g p=false:=λe=>by
     have:vE g p=false:=by
      unfold vE
      rw[List.all_eq_false]
      exact⟨x,c,by rw[e];simp⟩
     rw[fQ,this,W7]
    simp(disch:=omega)only[↓wr,seval,wq,t1,t2,t6,encI,ag,encS,U9,b]
    apply ah.dec<;>intro h1
    .simp(disch:=omega)only[↓wr,seval,wq,t1,t2,t6]
     rw[f (by rw[decide_eq_false (by omega)];rfl)]
    .simp(disch:=omega)only[↓wr,seval,wq,t1,t2,t6,encI,ag,encS,U9,b]
     apply ah.dec<;>intro q
     .simp(disch:=omega)only[↓wr,seval,wq,t1,t2,t6]
      rw[f (by rw[decide_eq_false (show ¬ x < (g.ai.length:Int) by omega),W7])]
     .simp(disch:=omega)only[↓wr,seval,wq,t1,t2,t6]
      exact aI hk (by omega) ⟨by rw[l,Wn (by omega),Wn (by omega)];rfl,t1,t2,rfl⟩
   .rw[Vn (by omega)] at a
    simp(disch:=omega)only[↓wr,seval,wq,t1,t2,t6]
    rw[fQ,hr,a,Wn (by omega)];rfl
 .simp(disch:=omega)only[↓wr,seval,wq]
  rw[fQ,hr];rfl
noncomputable def ko (g:ae) (w:List Int):Bool × Int:=if fQ g w=true then (me g w,0) else (false,1)
theorem M3 (g:ae) (c:g.Ok) (x:Int) (d:bD x):ay Tryz.prog 108 [gi x,.aF (ag g) 0] (gb (!(decide (0<=x) && decide (x < g.ai.length)))):=by
 have a:=c.ai
 unfold aH at a
 refine ay.val (by
  intro v b;simp at b
  rcases b with rfl | rfl
  .exact .val _
  .exact gh (bE g)) λH=>?_
 refine aw.of mixed zr ?_
 simp(disch:=omega)only[↓wr,seval,wq,uN,ag,encS]
 apply ah.dec<;>intro h1
 .simp(disch:=omega)only[↓wr,seval,wq]
  rw[decide_eq_false (show ¬ 0<=x by omega)];rfl
 .simp(disch:=omega)only[↓wr,seval,wq,ag,encS]
  rw[Wn (show 0<=x by omega)]
  rw[V3,<-decide_not];congr 2;exact decide_eq_decide.2 ⟨λh=>Int.not_lt.2 h,λh=>Int.not_lt.1 h⟩
theorem OP (g:ae) (c:g.Ok) (x:Int) (d:bD x):ay Tryz.prog 91 [gi x,.aF (ag g) 0] (gb (!(decide (-1<=x) && decide (x < g.ai.length)))):=by
 have a:=c.ai
 unfold aH at a
 refine ay.val (by
  intro v b;simp at b
  rcases b with rfl | rfl
  .exact .val _
  .exact gh (bE g)) λH=>?_
 refine aw.of mixed yg ?_
 simp(disch:=omega)only[↓wr,seval,wq,sT,ag,encS]
 apply ah.dec<;>intro h1
 .simp(disch:=omega)only[↓wr,seval,wq]
  rw[decide_eq_false (show ¬ -1<=x by omega)];rfl
 .simp(disch:=omega)only[↓wr,seval,wq,ag,encS]
  rw[Wn (show -1<=x by omega)]
  rw[V3,<-decide_not];congr 2;exact decide_eq_decide.2 ⟨λh=>Int.not_lt.2 h,λh=>Int.not_lt.1 h⟩
theorem Gy (g:ae) (b:g.Ok) (d:g.Small) (w:List Int) (hw:aH w) (e:∀ x∈w,bD x):ay Tryz.prog 52 [.agg (ag g),encI w] (gb (fQ g w)):=by
 refine ay.val (pq g w) λH=>?_
 have a:=gW w hw 108 [.aF (ag g) 0] (by intro v c;simp at c;subst c;exact gh (bE g)) (λx=>!(decide (0<=x) && decide (x < g.ai.length))) (λx f=>M3 g b x (e x f)) (by kernel_rfl)
 refine aw.of mixed Bd ?_
 unfold aH at hw
 simp(disch:=omega)only[↓wr,seval,wq,xT,ag,encS]
 refine av.pure (ng g b d.names) ?_
 simp only[ag,encS] at a
 simp(disch:=omega)only[↓wr,seval,wq]
 apply ah.split<;>intro hr
 .simp(disch:=omega)only[↓wr,seval,wq,encI]
  apply ah.dec<;>intro h
  .simp(disch:=omega)only[↓wr,seval,wq]
   rw[fQ,decide_eq_false (show ¬ w.length<=60 by omega)];simp
  .simp(disch:=omega)only[↓wr,seval,wq]
   refine av.pure a ?_
   simp(disch:=omega)only[↓wr,seval,wq]
   rw[fQ,hr,Wn (show w.length<=60 by omega),<-List.not_all_eq_any_not,Bool.not_not];rfl
 .simp(disch:=omega)only[↓wr,seval,wq]
  rw[fQ,hr];rfl
def cK (c:Cell):List V:=[gi c.kind,gi c.n]
abbrev xZ (l:List Cell):V:=.aS (l.map cK)
def cB (t:gn):List V:=[.aS (t.aY.map λr=>[xZ r]),.aS (t.gotos.map λr=>[encI r])]
theorem rT (c:Cell):∀ v∈cK c,Tree v:=by
 intro v a;simp[cK] at a;rcases a with rfl | rfl <;> exact .val _
theorem Ib (l:List Cell):Tree (xZ l):=fq _ _ λc _ v a=>rT c v a
theorem tO (t:gn):∀ v∈cB t,Tree v:=by
 intro v a
 simp only[cB,Vq,List.not_mem_nil,or_false] at a
 rcases a with rfl | rfl
 .exact fq _ _ λr _ v a=>by simp at a;subst a;exact Ib r
 .exact fq _ _ λr _ v a=>by simp at a;subst a;exact eM r
structure gn.Ok (t:gn):Prop where
 aY:aH t.aY
 gotos:aH t.gotos
 row:∀ r∈t.aY,aH r/\∀ c∈r,bD c.kind/\bD c.n
 go:∀ r∈t.gotos,aH r/\∀ x∈r,bD x
def pV:SF:=⟨af [ab [cd 3 0,cd 4 1,cd 5 2,bu 6 false],af [ab [au 7 0 5,aj 8 7],.block 0 (af [af [ab [aE 10 .eql 8 0,aa 9 10],bW 9 (ab [aE 11 .eql 8 3,aa 9 11])],.cond (.tmp 9) (af [ab [au 12 1 5,aj 13 12,aE 14 .eql 13 0,aa 6 14],.ret]) (af [ab [aE 16 .eql 8 1,aa 15 16],.cond (.tmp 15) (af [.region false [⟨none,[au 17 1 5,aj 18 17,aE 19 .geq 18 0,aa 20 19]⟩,⟨(some (20,true)),[au 21 1 5,aj 22 21,au 23 0 4,aj 24 23,aP 25 24,aV 26 .lss 22 25]⟩,⟨none,[c8 27 20 26,aa 6 27]⟩],.ret]) (af [ab [aE 29 .eql 8 2,aa 28 29],bg 28 (af [.region false [⟨none,[au 30 1 5,aj 31 30,aE 32 .geq 31 0,aa 33 32]⟩,⟨(some (33,true)),[au 34 1 5,aj 35 34,au 36 2 3,aj 37 36,aP 38 37,aV 39 .lss 35 38]⟩,⟨none,[c8 40 33 39,aa 6 40]⟩],.ret])])])])],ab [bu 6 false],.ret],
 [.tmp 6],41⟩
theorem uB:aQ Tryz.prog 107 [3,4,5]=some pV:=by kernel_rfl
def mU:SC :=
 af [af [ab [aa 62 6,au 63 0 3,aj 64 63,aa 65 5,aM 66 1 64 65,aj 67 66,aP 68 67,aV 69 .lss 62 68],bW 69 (.exit 2)],.block 3 (af [ab [aU 72 4 2,aU 73 2 3,au 74 0 3,aj 75 74,aa 76 5,aM 77 1 75 76,aj 78 77,aa 79 6,aM 80 2 78 79,aU 81 2 80,ba 82 107 [72,73,81],cb 83 82],bg 83 (af [ab [bu 4 false],.ret])]),ab [aa 70 6,aE 71 .add 70 1,aa 6 71]]
def mY:SC :=
 af [af [ab [aa 84 7,au 85 1 3,aj 86 85,aa 87 5,aM 88 1 86 87,aj 89 88,aP 90 89,aV 91 .lss 84 90],bW 91 (.exit 4)],.block 5 (af [.region false [⟨none,[au 94 1 3,aj 95 94,aa 96 5,aM 97 1 95 96,aj 98 97,aa 99 7,aM 100 1 98 99,aj 101 100,aE 102 .lss 101 (-1),aa 103 102]⟩,⟨(some (103,false)),[au 104 1 3,aj 105 104,aa 106 5,aM 107 1 105 106,aj 108 107,aa 109 7,aM 110 1 108 109,aj 111 110,au 112 0 3,aj 113 112,aP 114 113,aV 115 .geq 111 114]⟩,⟨none,[bP 116 103 115]⟩],bg 116 (af [ab [bu 4 false],.ret])]),ab [aa 92 7,aE 93 .add 92 1,aa 7 93]]
def mX:SC :=
 af [af [ab [aa 32 5,au 33 0 3,aj 34 33,aP 35 34,aV 36 .lss 32 35],bW 36 (.exit 0)],.block 1 (af [af [.region false [⟨none,[au 39 0 3,aj 40 39,aa 41 5,aM 42 1 40 41,aj 43 42,aP 44 43,au 45 0 2,aj 46 45,aP 47 46,aE 48 .add 47 1,aV 49 .neq 44 48,aa 50 49]⟩,⟨(some (50,false)),[au 51 1 3,aj 52 51,aa 53 5,aM 54 1 52 53,aj 55 54,aP 56 55,au 57 1 2,aj 58 57,aP 59 58,aV 60 .neq 56 59]⟩,⟨none,[bP 61 50 60]⟩],bg 61 (af [ab [bu 4 false],.ret])],af [ab [aT 6 0],bX 2 mU],ab [aT 7 0],bX 4 mY]),ab [aa 37 5,aE 38 .add 37 1,aa 5 38]]
def oK:SF:=⟨af [ab [cd 2 0,cd 3 1,bu 4 false],af [.region false [⟨none,[aU 8 4 2,ba 9 50 [8],cb 10 9,aa 11 10]⟩,⟨(some (11,false)),[au 12 0 3,aj 13 12,aP 14 13,aE 15 .lss 14 1]⟩,⟨none,[bP 16 11 15,aa 17 16]⟩,⟨(some (17,false)),[au 18 0 3,aj 19 18,aP 20 19,aE 21 .gtr 20 300]⟩,⟨none,[bP 22 17 21,aa 23 22]⟩,⟨(some (23,false)),[au 24 1 3,aj 25 24,aP 26 25,au 27 0 3,aj 28 27,aP 29 28,aV 30 .neq 26 29]⟩,⟨none,[bP 31 23 30]⟩],bg 31 (af [ab [bu 4 false],.ret])],af [ab [aT 5 0],bX 0 mX],ab [bu 4 true],.ret],
 [.tmp 4],117⟩
theorem uq:aQ Tryz.prog 51 [2,3]=some oK:=by kernel_rfl
theorem NX (g:ae) (t:gn) (c:Cell):ay Tryz.prog 107 [.agg (ag g),.agg (cB t),.agg (cK c)] (gb (gI g t.aY.length c)):=by
 refine ay.val (by
  intro v a;simp at a
  rcases a with rfl | rfl | rfl
  .exact bz _ (bE g)
  .exact bz _ (tO t)
  .exact bz _ (rT c)) λH=>?_
 refine aw.of mixed uB ?_
 unfold gI
 simp(disch:=omega)only[↓wr,seval,wq,pV,cK,cB,ag,encS]
 repeat' (first | ((first|apply ah.dec|apply ah.eq|apply ah.ne|apply ah.split)<;>intro)|(simp(disch:=omega)only[↓wr,seval,wq,cK,cB,ag,encS]))
 all_goals simp_all
 all_goals first
  | omega
  | rfl
theorem K1 {g:ae} {t:gn} {i:Nat} (hi:i < t.aY.length) (h:xP g t.aY.length (t.aY.getD i []) (t.gotos.getD i [])=false):iU g t=false:=by
 rw[Bool.eq_false_iff]
 intro hr
 have:=(ud hr).row i hi
 rw[h] at this;simp at this
theorem RH (g:ae) (t:gn):∀ v∈[V.agg (ag g),.agg (cB t)],Tree v:=by
 intro v a;simp at a
 rcases a with rfl | rfl
 .exact bz _ (bE g)
 .exact bz _ (tO t)
theorem Ky (g:ae) (D:g.Ok) (t:gn) (A:t.Ok):ay Tryz.prog 51 [.agg (ag g),.agg (cB t)] (gb (iU g t)):=by
 refine ay.val (RH g t) λH=>?_
 have B:=gK g D
 have h1:=A.aY
 have N:=A.gotos
 have O:=D.ai
 have P:=D.ao
 unfold aH at h1 N O P
 refine aw.of mixed uq ?_
 simp only[ag,encS] at B
 simp(disch:=omega)only[↓wr,seval,wq,oK,ag,encS,cB]
 refine av.pure B ?_
 have n:(aO g && decide (1<=t.aY.length) && decide (t.aY.length<=300) && decide (t.gotos.length=t.aY.length))=false->iU g t=false:=λh=>by unfold iU;rw[h];rfl
 simp(disch:=omega)only[↓wr,seval,wq]
 apply ah.split<;>intro hr
 rotate_left
 .simp(disch:=omega)only[↓wr,seval,wq]
  rw[n (by rw[hr];rfl)]
 simp(disch:=omega)only[↓wr,seval,wq,cB]
 apply ah.dec<;>intro c1
 .simp(disch:=omega)only[↓wr,seval,wq]
  rw[n (by rw[hr];simp;omega)]
 simp(disch:=omega)only[↓wr,seval,wq,cB]
 apply ah.dec<;>intro c2
 .simp(disch:=omega)only[↓wr,seval,wq]
  rw[n (by rw[hr];simp;omega)]
 simp(disch:=omega)only[↓wr,seval,wq,cB]
 apply ah.ne<;>intro Q
 .simp(disch:=omega)only[↓wr,seval,wq]
  rw[n (by rw[hr];simp;omega)]
 simp(disch:=omega)only[↓wr,seval,wq]
 have Z:=aK hr
 refine bc.up t.aY.length (λi T H'=>(∀ k,k < i->xP g t.aY.length (t.aY.getD k []) (t.gotos.getD k [])=true)/\T 2=.aF (ag g) 0/\T 3=.aF (cB t) 0/\T 5=gi i) ⟨λk hk=>by omega,rfl,rfl,rfl⟩ ?_
 rintro i k T H' hk ⟨p,t2,t3,t5⟩
 simp(disch:=omega)only[↓wr,seval,wq,mX,t2,t3,t5,cB]
 apply ah.dec<;>intro R
 rotate_left
 .simp(disch:=omega)only[↓wr,seval,wq]
  rw[show iU g t=true from by
   unfold iU
   rw[hr]
   simp only[Vd,Vj,Vr,Wa,V3]
   exact⟨⟨⟨by omega,by omega⟩,by omega⟩,λk hk=>p k (by omega)⟩]
 have hi:i < t.aY.length:=by omega
 have w:t.aY[i]?=some (t.aY.getD i []):=getD_some hi
 have s:t.gotos[i]?=some (t.gotos.getD i []):=getD_some (by omega)
 have E:=A.row _ (Vc w)
 have F:=A.go _ (Vc s)
 have b:=@K1 g t i hi
 generalize S:t.aY.getD i []=a at w E b
 generalize el:t.gotos.getD i []=l at s F b
 have f:xP g t.aY.length a l=(decide (a.length=g.ai.length+1) && decide (l.length=g.ao.length) && a.all (gI g t.aY.length) && l.all λx=>decide (-1<=x) && decide (x < t.aY.length)):=rfl
 obtain⟨U,E⟩:=E
 obtain⟨sl,F⟩:=F
 unfold aH at U sl
 simp(disch:=omega)only[↓wr,seval,wq,t2,t3,t5,cB,ag,encS,U9,w,s,Ve]
 apply ah.ne<;>intro d1
 .simp(disch:=omega)only[↓wr,seval,wq]
  rw[b (by rw[f];simp;omega)]
 simp(disch:=omega)only[↓wr,seval,wq,t2,t3,t5,cB,ag,encS,encI,U9,w,s,Ve]
 apply ah.ne<;>intro d2
 .simp(disch:=omega)only[↓wr,seval,wq]
  rw[b (by rw[f];simp;omega)]
 simp(disch:=omega)only[↓wr,seval,wq,t2,t3,t5]
 refine bc.up a.length (λj T H'=>(∀ k,k < j->gI g t.aY.length (a.getD k ⟨0,0⟩)=true)/\T 2=.aF (ag g) 0/\T 3=.aF (cB t) 0/\T 5=gi i/\T 6=gi j) ⟨λk hk=>by omega,t2,t3,t5,rfl⟩ ?_
 rintro j k' T' V G ⟨r,t2,t3,t5,t6⟩
 simp(disch:=omega)only[↓wr,seval,wq,mU,t2,t3,t5,t6,cB,ag,encS,U9,w,Ve]
 apply ah.dec<;>intro W
 .have u:a[j]?=some (a.getD j ⟨0,0⟩):=getD_some (by omega)
  have d:=Vc u
  generalize I:a.getD j ⟨0,0⟩=c at u d
  have m:=NX g t c
  simp only[ag,encS,cB,cK] at m
  simp(disch:=omega)only[↓wr,seval,wq,t2,t3,t5,t6,cB,ag,encS,U9,w,u,Ve,cK]
  refine av.pure m ?_
  simp(disch:=omega)only[↓wr,seval,wq]
  apply ah.split<;>intro v
  .simp(disch:=omega)only[↓wr,seval,wq,t2,t3,t5,t6]
   exact aI G (by omega) ⟨λk hk=>by
    by_cases e:k=j
    .subst e;rw[I];exact v
    .exact r k (by omega),t2,t3,t5,rfl⟩
  .simp(disch:=omega)only[↓wr,seval,wq]
   rw[b (by
    rw[f,Bool.eq_false_iff]
    intro h
    simp only[Vd,Vr] at h
    have:=h.1.2 c d
    rw[v] at this;simp at this)]
 simp(disch:=omega)only[↓wr,seval,wq,t2,t3,t5]
 refine bc.up l.length (λj T H'=>(∀ k,k < j->-1<=l.getD k 0/\l.getD k 0 < t.aY.length)/\T 2=.aF (ag g) 0/\T 3=.aF (cB t) 0/\T 5=gi i/\T 7=gi j) ⟨λk hk=>by omega,t2,t3,t5,rfl⟩ ?_
 rintro C k2 T2 H2 J ⟨y,t2,t3,t5,t7⟩
 simp(disch:=omega)only[↓wr,seval,wq,mY,t2,t3,t5,t7,cB,encI,U9,s,Ve]
 apply ah.dec<;>intro K
 .have o:l[C]?=some (l.getD C 0):=getD_some (by omega)
  have d:=Vc o
  generalize I:l.getD C 0=x at o d
  have bad:¬(-1<=x/\x < (t.aY.length:Int))->xP g t.aY.length a l=false:=λX=>by
   rw[f,Bool.eq_false_iff]
   intro h
   simp only[Vd,Vr,Vj] at h
   exact X (h.2 x d)
  simp(disch:=omega)only[↓wr,seval,wq,t2,t3,t5,t7,cB,encI,U9,s,o,Ve]
  apply ah.dec<;>intro L
  .simp(disch:=omega)only[↓wr,seval,wq]
   rw[b (bad (by omega))]
  simp(disch:=omega)only[↓wr,seval,wq,t2,t3,t5,t7,cB,encI,U9,s,o,Ve]
  apply ah.dec<;>intro Y
  .simp(disch:=omega)only[↓wr,seval,wq]
   rw[b (bad (by omega))]
  .simp(disch:=omega)only[↓wr,seval,wq,t2,t3,t5,t7]
   exact aI J (by omega) ⟨λk hk=>by
    by_cases e:k=C
    .subst e;rw[I];omega
    .exact y k (by omega),t2,t3,t5,rfl⟩
 .simp(disch:=omega)only[↓wr,seval,wq,t2,t3,t5]
  refine aI hk (by omega) ⟨λk hk=>?_,t2,t3,rfl⟩
  by_cases e:k=i
  .subst e
   rw[S,el,f]
   simp only[Vd,Vr,Vj]
   refine⟨⟨⟨by omega,by omega⟩,λc B=>?_⟩,λx L=>?_⟩
   .obtain⟨q,z⟩:=List.mem_iff_getElem?.1 B
    have M:=(Vf.1 z).1
    have:=r q (by omega)
    rwa [U5,z] at this
   .obtain⟨q,z⟩:=List.mem_iff_getElem?.1 L
    have M:=(Vf.1 z).1
    have:=y q (by omega)
    rwa [U5,z] at this
  .exact p k (by omega)
theorem uS:∀ (l:List aN) (acc:List Int),(l.foldl eR acc).length<=acc.length+l.length
 | [],acc=>by simp
 | r :: l,acc=>by
  have h1:=uS l (eR acc r)
  have a:(eR acc r).length<=acc.length+1:=by unfold eR;split <;> simp
  simp only[VC,Vm]
  omega
theorem PG (p q:List Bool) (l:List aN):(bL p q l).length<=l.length:=by
 have h1:=uS (l.filter (bO p q)) []
 have a:=VY (bO p q) l
 unfold bL
 simp only[Vy] at h1
 omega
theorem Re {g:ae} (a:g.Ok) (p q:List Bool):(iT g (bw (bL p q g.rules)) p q).Ok:=by
 have j:=PG p q g.rules
 have e:=a.rules
 unfold aH at e
 have c:∀ x,bD (bw (bL p q g.rules) x):=λx=>by
  have:=De (bL p q g.rules) x
  unfold bD;omega
 have b:∀ x,bD (-1 - bw (bL p q g.rules) x):=λx=>by
  have:=De (bL p q g.rules) x
  unfold bD;omega
 refine⟨a.ai,?_,?_,c _,a.term,λr hr=>?_⟩
 .unfold aH;simp only[iT,Vl];omega
 .have:=VY (bO p q) g.rules
  unfold aH;simp only[iT,Vl];omega
 .simp only[iT,Vv,VV] at hr
  obtain⟨f,⟨h,_⟩,rfl⟩:=hr
  obtain⟨_,i2,i3,i4⟩:=a.al f h
  refine⟨c _,i2,by unfold aH at i3 ⊢;simpa [bB] using i3,λx d=>?_⟩
  simp only[bB,Vv] at d
  obtain⟨s,i,rfl⟩:=d
  split
  .exact b _
  .exact i4 s i
section
variable {g r:ae} {p q:List Bool} {o:List Int}
theorem gU.ok (h:gU g p q o r) (a:g.Ok):r.Ok:=by
 have:=Re a p q
 rw[<-h.oe,<-h.re] at this
 exact this
theorem gU.small (h:gU g p q o r) (a:g.Small):r.Small:=by
 have:=xc h.nodup h.inside
 have:=a.names
 exact⟨by rw[h.len,h.ai];omega⟩
end
end Gv
