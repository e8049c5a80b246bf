/-
  Part 10 of the proof: what the machine does and what the functions answer.
  Conditions: those that each lemma names.
-/
import Derived.Test.YtiophifnkakjgaaGreatSGzB9I
set_option linter.unusedSimpArgs false
set_option linter.unusedVariables false
set_option maxRecDepth 100000
set_option maxHeartbeats 20000000
namespace Gv
open Go Go.Proofs
def tP:SC :=
 af [ae [aS 44 .lss 43 42],bO 44 (.exit 0),.block 1 (af [ae [aa 45 43,aL 46 3 41 43,bb 47 3 46,((some 11),.op (.alloc [(.val (.int .i64 0)),(.emp 1),(.val (.int .i64 0))])),aa 10 45,cy 3 11 47],af [.region false [⟨none,[aa 48 6,av 49 0 11,al 50 49,aL 51 1 48 50,al 52 51,c5 53 52,aa 54 53]⟩,⟨(some (54,false)),[bb 55 3 11,aa 56 5,bf 57 164 [55,56],c5 58 57]⟩,⟨none,[cx 59 54 58]⟩],aZ 59 (.exit 1)],ae [aa 60 7,aa 61 10,((some 62),.op (.cg 1 1 [(.val (.int .i64 0))] [(0,(.tmp 61))])),gp 63 1 8 60 62,aa 7 63],ae [aa 65 9,av 66 0 11,al 67 66,((some 68),.op (.old (.lookup 265 (.tmp 65) (.tmp 67) true) 66)),aa 64 68,dJ 69 0 64,dJ 70 1 64,aa 12 69,aa 13 70],ae [aa 71 13,c5 72 71],aZ 72 (af [ae [aa 73 9,av 74 0 11,al 75 74,av 76 1 8,al 77 76,aN 78 77,(none,.op (.old (.mapUpdate 265 (.tmp 73) (.tmp 75) (.tmp 78)) 0))],.region false [⟨none,[av 79 1 8,al 80 79,av 81 1 1,al 82 81,av 83 0 11,al 84 83,aL 85 1 82 84,al 86 85,((some 87),.op (.cg 1 1 [(.val (.string ⟨#[]⟩))] [(0,(.tmp 86))])),gp 88 1 16 80 87,av 89 1 8,cy 1 89 88]⟩]])]),ae [aF 90 .add 43 1,aa 43 90]]
def tg:SC :=
 af [ae [aS 116 .lss 115 114],bO 116 (.exit 4),.block 5 (af [ae [aa 117 115,aL 118 1 113 115,al 119 118,aa 18 117,aa 19 119],ae [aa 120 19,aF 121 .lss 120 0],aZ 121 (ae [av 122 1 17,al 123 122,aa 124 18,aa 125 9,aa 126 19,((some 127),.op (.arith .sub (.val (.val (.int .i64 (-1)))) (.tmp 126))),((some 128),.op (.old (.lookup 265 (.tmp 125) (.tmp 127) false) 3)),((some 129),.op (.arith .sub (.val (.val (.int .i64 (-1)))) (.tmp 128))),aL 130 1 123 124,cy 1 130 129])]),ae [aF 131 .add 115 1,aa 115 131]]
def tT:SC :=
 af [ae [aS 94 .lss 93 92],bO 94 (.exit 2),.block 3 (af [ae [aL 95 1 91 93,al 96 95,aa 15 96],ae [av 97 2 1,al 98 97,aa 99 15,aL 100 3 98 99,bb 101 3 100,((some 16),.op (.alloc [(.val (.int .i64 0)),(.emp 1),(.val (.int .i64 0))])),cy 3 16 101],.region true [⟨none,[aa 102 9,av 103 0 16,al 104 103,((some 105),.op (.old (.lookup 265 (.tmp 102) (.tmp 104) false) 3)),av 106 1 16,al 107 106,bf 108 140 [107],av 109 2 16,al 110 109,((some 111),.op (.build [(.val (.int .i64 0)),(.emp 1),(.val (.int .i64 0))] [(0,1,(.tmp 105)),(1,1,(.tmp 108)),(2,1,(.tmp 110))])),((some 17),.op (.alloc [(.val (.int .i64 0)),(.emp 1),(.val (.int .i64 0))])),cy 3 17 111]⟩],af [ae [av 112 1 17,al 113 112,aN 114 113,aP 115 0],bR 4 tg],ae [av 132 2 8,al 133 132,bb 134 3 17,((some 135),.op (.cg 1 3 [(.val (.int .i64 0)),(.emp 1),(.val (.int .i64 0))] [(0,(.tmp 134))])),gp 136 3 40 133 135,av 137 2 8,cy 1 137 136]]),ae [aF 138 .add 93 1,aa 93 138]]
def xt:SF:=⟨af [ae [cE 1 0,((some 2),.op (.alloc [(.emp 1),(.emp 1),(.emp 1),(.val (.int .i64 0))])),bT 3 1,aP 4 0],af [ae [bb 20 4 1,bf 21 89 [20],c5 22 21],aZ 22 (af [ae [((some 23),.op (.build [(.emp 1),(.emp 1),(.emp 1),(.val (.int .i64 0))] [])),cy 4 2 23,bT 3 1,aP 4 1],.ret])],.region true [⟨none,[bb 24 4 1,bf 25 161 [24],bb 26 4 1,bf 27 162 [26],aa 5 25,aa 6 27]⟩],af [ae [aa 28 5,av 29 3 1,al 30 29,aL 31 1 28 30,al 32 31,c5 33 32],aZ 33 (af [ae [((some 34),.op (.build [(.emp 1),(.emp 1),(.emp 1),(.val (.int .i64 0))] [])),cy 4 2 34,bT 3 1,aP 4 9],.ret])],ae [bT 7 1],ae [av 35 0 1,al 36 35,bf 37 163 [36],((some 38),.op (.build [(.emp 1),(.emp 1),(.emp 1),(.val (.int .i64 0))] [(0,1,(.tmp 37))])),((some 8),.op (.alloc [(.emp 1),(.emp 1),(.emp 1),(.val (.int .i64 0))])),cy 4 8 38],ae [((some 39),.op (.qq)),aa 9 39],af [ae [av 40 2 1,al 41 40,aN 42 41,aP 43 0],bR 0 tP],af [ae [aa 91 7,aN 92 91,aP 93 0],bR 2 tT],ae [aa 139 9,av 140 3 1,al 141 140,((some 142),.op (.old (.lookup 265 (.tmp 139) (.tmp 141) false) 3)),av 143 3 8,cy 1 143 142],ae [bb 144 4 8,aa 145 7,cy 4 2 144,aa 3 145,aP 4 0],.ret],
 [.cell 2 (some 4),.tmp 3,.tmp 4],146⟩
theorem Ax:aM Tryz.prog 92 [1]=some xt:=by kernel_rfl
abbrev za (m:cF Int):List (V × V × Nat):=cp (Value.int .i64) m
def SE (g:ai) (p q:List Bool) (b2 b8 b9:Nat) (u0:V) (i:Nat) (T:Env) (H:View):Prop :=
 (∃ u1 u3:V,T 7=u3/\(∀ x∈cB p q (g.rules.take i),0<=x/\x < g.ak.length)/\(cB p q (g.rules.take i)).length<=i /\
  bo H [(.sl b8 0 1 4,4,[[u0,u1,.emp 1,gi 0]]),(u3,1,bw (c9 p q (g.rules.take i) 0)),
   (u1,1,kH ((cB p q (g.rules.take i)).map λx=>g.ak.getD x.toNat ⟨#[]⟩)),(u0,3,g.au.map dq),(.sl b2 0 1 4,4,[[.emp 1,.emp 1,.emp 1,gi 0]])] /\
  ∃ m c,H b9=.map (za m) c/\o8 gi (j4 (cB p q (g.rules.take i)) 0) m) /\
 T 1=.aJ (ag g) 0/\T 2=.ptr b2 0 0/\T 5=b5 p/\T 6=b5 q/\T 8=.ptr b8 0 0/\T 9=.mp b9/\T 41=.aW (g.rules.map aK)/\T 42=gi g.rules.length/\T 43=gi i
theorem DB {α:Type} {x s:α} : ∀ {a d:List α} {k:Nat},a.length=k->(a ++ s :: d).set k x=a ++ x :: d
 | [],d,k,h=>by simp at h;subst h;rfl
 | y :: a,d,k,h=>by
  cases k with
  | zero=>simp at h
  | succ k=>simp only[V4,List.set_cons_succ];rw[DB (by simpa using h)]
def Un (g:ai) (p q:List Bool) (b2 b8 b9:Nat) (u0 u1 u3:V) (o kl:List Int) (mm:cF Int) (cc:Nat) (i:Nat) (T:Env) (H:View):Prop :=
 (∃ (u2:V) (bs:zk),bs.map (·.2)=((g.rules.filter (dd p q)).take i).map (cq (ec o)) /\
  bo H ((.sl b8 0 1 4,4,[[u0,u1,u2,gi 0]]) :: (u3,1,bw kl) ::
   (u1,1,kH (o.map λx=>g.ak.getD x.toNat ⟨#[]⟩)) :: (u0,3,g.au.map dq) :: (u2,3,gU bs) :: (.sl b2 0 1 4,4,[[.emp 1,.emp 1,.emp 1,gi 0]]) :: mg bs) /\
  H b9=.map (za mm) cc) /\
 T 1=.aJ (ag g) 0/\T 2=.ptr b2 0 0/\T 7=u3/\T 8=.ptr b8 0 0/\T 9=.mp b9/\T 91=u3/\T 92=gi kl.length/\T 93=gi i
def UL (g:ai) (b2 b8 b9 b16 b17:Nat) (u3 v:V) (o kl:List Int) (mm:cF Int) (cc:Nat) (r:ba) (L:List dM) (i k:Nat) (T:Env) (H:View):Prop :=
 bo H ((.sl b17 0 1 3,3,[[gi (ec o r.left),v,gi r.prec]]) :: (v,1,bw ((cq (ec o) r).right.take k ++ r.right.drop k)) :: (.sl b16 0 1 3,3,[aK r]) :: L) /\
 H b9=.map (za mm) cc/\T 1=.aJ (ag g) 0/\T 2=.ptr b2 0 0/\T 7=u3/\T 8=.ptr b8 0 0/\T 9=.mp b9/\T 91=u3/\T 92=gi kl.length/\T 93=gi i/\T 17=.ptr b17 0 0/\T 113=v/\T 114=gi r.right.length/\T 115=gi k
theorem Iy (g:ai) (hg:g.Ok) (hs:g.Small):ca Tryz.prog 92 [.agg (ag g)] (vR (if bM g=true then
  if (bF g true).getD g.start.toNat false=true then (vQ g (ec (cB (bF g true) (cr g) g.rules)) (bF g true) (cr g),c9 (bF g true) (cr g) g.rules 0,0)
  else (rK,[],9)
 else (rK,[],1))):=by
 refine ca.of (eD g) ?_
 refine aw.of mixed Ax ?_
 simp(disch:=omega)only[↓wr,seval,wq,xt,ag,encS]
 intro Q
 try simp(disch:=omega)only[↓wr,seval,wq,ag,encS]
 refine ax.pure (tQ g hg hs.names) ?_
 repeat' (first | ((first|apply aj.dec|apply aj.eq|apply aj.ne|apply aj.split)<;>intro)|(simp(disch:=omega)only[↓wr,seval,wq,ag,encS,set_set]))
 .rename_i hr
  rw[Vu hr]
  refine ax.pure (vl g hg hs).pure ?_
  simp(disch:=omega)only[↓wr,seval,wq,ag,encS]
  refine ax.pure (Fk g hg hs).pure ?_
  have hf:=bX hr
  have h3:=hf.kT
  have h4:=hf.start
  have ea:=mq hr true
  have gr:=qf hr
  generalize bF g true=p at ea ⊢
  generalize cr g=q at gr ⊢
  have cN:p[g.start.toNat]?=some (p[g.start.toNat]'(by omega)):=Vq (by omega)
  have eb:p.getD g.start.toNat false=p[g.start.toNat]'(by omega):=by simp[Vp,cN]
  generalize p[g.start.toNat]'(by omega)=s at cN eb
  rw[eb]
  simp(disch:=omega)only[↓wr,seval,wq,ag,encS,b5,Vt,cN]
  cases s with
  | false =>
   simp(disch:=omega)only[↓wr,seval,wq,ag,encS,set_set]
   rintro h' hh
   exact vJ
  | true =>
   simp(disch:=omega)only[↓wr,seval,wq,ag,encS,set_set]
   have hN:=hf.ak
   have h5:=hf.kC
   have hT:=hf.au
   have hR:=hf.rules
   refine ax.eA ((M3 g.au (by omega) _).mono ?_)
   rintro B H1 ⟨ha,K⟩
   have bd:=(bo.nil.new (H:=λ_=>c7.dead) (n:=Q) rfl 4 [[.emp 1,.emp 1,.emp 1,gi 0]]).Dc ha K
   have c0:=bd.head.cells
   have k0:=bd.head.gv
   simp(disch:=omega)only[↓wr,seval,wq,ag,encS,c0,k0]
   intro O ee
   have ef:=bd.new ee 4 [[B,.emp 1,.emp 1,gi 0]]
   try simp(disch:=omega)only[↓wr,seval,wq,ag,encS,c0,k0,set_set]
   intro d R
   have ck:=(cb R b6).1
   have R:=(cb (cb R b6).2 b6).2
   have f:=(((ef.fresh (n:=d) (o:=.map [] 0) (by simp only[View.set,Vs ck];exact R)).emp (k:=1) (sz:=1)).emp (k:=1) (sz:=1)).perm GS.symm
   try simp(disch:=omega)only[↓wr,seval,wq,ag,encS,c0,k0,set_set]
   refine aR.up g.rules.length (SE g p q Q O d B) ?_ ?_
   .refine⟨⟨.emp 1,.emp 1,rfl,by simp[cB],by simp[cB],by rw[set_set];exact f,[],0,by simp[View.set,cp],trivial⟩,rfl,rfl,rfl,rfl,rfl,rfl,rfl,rfl,rfl⟩
   clear bd ef f ee R ck
   rintro i k T H2 hk ⟨⟨G,u3,t7,bl,cS,A,mm,C,j,D⟩,t1,t2,t5,t6,t8,t9,t41,t42,t43⟩
   simp(disch:=omega)only[↓wr,seval,wq,tP,t1,t2,t5,t6,t7,t8,t9,t41,t42,t43,ag]
   apply aj.dec<;>intro hc
   .have E:g.rules[i]?=some (g.rules[i]'(by omega)):=Vq (by omega)
    have l:g.rules[i]'(by omega)∈g.rules:=Vw _
    have w:g.rules.take (i+1)=g.rules.take i ++ [g.rules[i]'(by omega)]:=by rw[VP,E];rfl
    generalize g.rules[i]'(by omega)=r at E l w
    obtain⟨hb,eg,ei,hd,bn⟩:=hf.qy hg l
    have cV:q[r.left.toNat]?=some (q[r.left.toNat]'(by omega)):=Vq (by omega)
    have br:q.getD r.left.toNat false=q[r.left.toNat]'(by omega):=by simp[Vp,cV]
    generalize q[r.left.toNat]'(by omega)=qs at cV br
    simp(disch:=omega)only[↓wr,seval,wq,t1,t2,t5,t6,t7,t8,t9,t41,t42,t43,aK,encI,Vt,E]
    intro bx S
    have F:=A.new S 3 [aK r]
    have cA:d≠bx:=by rintro rfl;rw[j] at S;simp at S
    try simp(disch:=omega)only[↓wr,seval,wq,t1,t2,t5,t6,t7,t8,t9,t41,t42,t43,aK,encI,b5,Vt,cV,set_set]
    have U:∀ (P:Env) (H':View),dd p q r=false->H'=H2.set bx (.arr 3 [aK r])->P 7=u3->P 1=.aJ (ag g) 0->P 2=.ptr Q 0 0->P 5=b5 p->P 6=b5 q->P 8=.ptr O 0 0->P 9=.mp d->P 41=.aW (g.rules.map aK)->P 42=gi g.rules.length->P 43=gi ((i:Int)+1) ->
      ∃ k',k' < k/\CO g.rules.length k' (SE g p q Q O d B) P H':=by
     intro P H' W ej a7 a1 a2 a5 a6 a8 a9 a41 hj hl
     have M:cB p q (g.rules.take (i+1))=cB p q (g.rules.take i):=by rw[w,tV,Vs (by simp[W])]
     have e2:c9 p q (g.rules.take (i+1)) 0=c9 p q (g.rules.take i) 0:=by rw[w,k5];simp[c9,W]
     refine aE hk (by omega) ⟨⟨G,u3,a7,by rw[M];exact bl,by rw[M];omega,by rw[M,e2,ej];exact F.tail,mm,C,by rw[ej];simp[View.set,cA,j],by rw[M];exact D⟩,a1,a2,a5,a6,a8,a9,a41,hj,by rw[hl];rfl⟩
    cases qs with
    | false =>
     simp(disch:=omega)only[↓wr,seval,wq,t1,t2,t5,t6,t7,t8,t9,t41,t42,t43]
     refine U _ _ (by rw[dd,br];rfl) ?_ ?_ ?_ ?_ ?_ ?_ ?_ ?_ ?_ ?_ ?_
     all_goals first | exact t7 | exact t1 | exact t2 | exact t5 | exact t6 | exact t8 | exact t9 | exact t41 | exact t42 | rfl | (rw[set_set];rfl)
    | true =>
     simp(disch:=omega)only[↓wr,seval,wq,t1,t2,t5,t6,t7,t8,t9,t41,t42,t43,aK,encI,b5]
     refine ax.pure (yX r p (hg.az r l).2.2.1 (λs ek=>⟨(bn s ek).1,λh=>by rw[ea];exact(bn s ek).2 h⟩)) ?_
     simp(disch:=omega)only[↓wr,seval,wq,t1,t2,t5,t6,t7,t8,t9,t41,t42,t43]
     apply aj.split<;>intro c3
     .simp(disch:=omega)only[↓wr,seval,wq,t1,t2,t5,t6,t7,t8,t9,t41,t42,t43]
      have W:dd p q r=true:=by rw[dd,br,c3];rfl
      intro m hm
      try simp(disch:=omega)only[↓wr,seval,wq,t1,t2,t5,t6,t7,t8,t9,t41,t42,t43,bP]
      have eH:=(cb hm b6).1
      have hm:=(cb (cb hm b6).2 b6).2
      have e:=(F.fresh (n:=m) (o:=.arr 1 [[gi i]]) (by simp only[View.set,Vs eH];exact hm)).at 2 (by simp)
      have c4:d≠m:=by rintro rfl;rw[j] at hm;simp at hm
      have e0:(c9 p q (g.rules.take i) 0).length<=40:=by
       rw[kR]
       have h1:=WY (dd p q) (g.rules.take i)
       have h2:(g.rules.take i).length<=i:=List.length_take_le _ _
       omega
      refine dp (by rw[set_set];exact e) (by simp[aH]) (by unfold aC;simp at e0 ⊢;omega) (by unfold aC;simp at e0 ⊢;omega) ?_
      intro da H3 f t
      have f11:=f.is 1 rfl (by simp)
      have f8:=f.is 2 rfl (by simp)
      have b0:Left ((H2.set bx (.arr 3 [aK r])).set m (.arr 1 [[gi i]])) H3 u3 da:=by rw[set_set] at t;exact t
      have f9:H3 d=.map (za mm) C:=b0.map (b:=d) e.head (by simp[View.set,cA,c4,j])
      have hn:ct G=some (kH ((cB p q (g.rules.take i)).map λx=>g.ak.getD x.toNat ⟨#[]⟩)).length:=(f.own 3 rfl).len
      simp only[aK,encI] at f11
      have e2:c9 p q (g.rules.take (i+1)) 0=c9 p q (g.rules.take i) 0 ++ [(i:Int)]:=by
       rw[w,k5];simp[c9,W,show i<=g.rules.length by omega]
      have M:cB p q (g.rules.take (i+1))=kX (cB p q (g.rules.take i)) r:=by rw[w,tV,Vu W]
      generalize cB p q (g.rules.take i)=o at *
      generalize c9 p q (g.rules.take i) 0=kl at *
      simp(disch:=omega)only[↓wr,seval,wq,t1,t2,t5,t6,t8,t9,t41,t42,t43,f11,f8]
      refine Rl (kt:=3) (et:=3) (z:=gi 0) (by kernel_rfl) (by kernel_rfl) (k9 .i64 Tryz.underlying3) (id:=d) (c:=C) (m:=mm) (k:=r.left) (by simp(disch:=omega)only[↓wr,seval,wq,t9]) (by simp(disch:=omega)only[↓wr,seval,wq]) f9 ?_
      rw[D.get,tD]
      have hq:o.length<=40:=by omega
      by_cases hx:r.left∈o
      .have u:kX o r=o:=by rw[kX,Vu hx]
       rw[Vu hx]
       simp(disch:=omega)only[↓wr,seval,wq,t1,t2,t5,t6,t8,t9,t41,t42,t43,Option.isSome_some]
       have ht:=(((f.at 1 (by simp)).tail).perm (.swap _ _ _))
       refine aE hk (by omega) ⟨⟨G,da,rfl,by rw[M,u];exact bl,by rw[M,u];omega,?_,mm,C,f9,by rw[M,u];exact D⟩,t1,t2,t5,t6,t8,t9,t41,t42,rfl⟩
       rw[M,u,e2]
       simp only[VW,VX,W6]
       exact ht
      .have u:kX o r=o ++ [r.left]:=by rw[kX,Vs hx]
       rw[Vs hx]
       have db:g.ak[r.left.toNat]?=some (g.ak[r.left.toNat]'(by omega)):=Vq (by omega)
       have cC:g.ak.getD r.left.toNat ⟨#[]⟩=g.ak[r.left.toNat]'(by omega):=by simp[Vp,db]
       generalize g.ak[r.left.toNat]'(by omega)=nm at db cC
       simp(disch:=omega)only[↓wr,seval,wq,t1,t2,t5,t6,t8,t9,t41,t42,t43,Option.isSome_none,f11,f8,hn,Vx]
       refine vi (kt:=3) (et:=3) (by kernel_rfl) (k9 .i64 Tryz.underlying3) (id:=d) (c:=C) (m:=mm) (k:=r.left) (v:=gi o.length) (by simp(disch:=omega)only[↓wr,seval,wq,t9]) (by simp(disch:=omega)only[↓wr,seval,wq]) (by simp(disch:=omega)only[↓wr,seval,wq]) f9 ?_
       intro c'
       have e4:O≠d:=Cp f 2 rfl f9
       have n119:bx≠d:=Cp f 1 rfl f9
       simp(disch:=omega)only[↓wr,seval,wq,t1,t2,t5,t6,t8,t9,t41,t42,t43,f11,f8,e4,n119,ag,encS,Vt,db]
       intro m2 N
       have cI:=(cb N (by simp)).1
       have N:=(cb N (by simp)).2
       have e5:=((f.A9 f9 (o:=.map (za (bL r.left (gi o.length) C mm)) c')).fresh (n:=m2) (o:=.arr 1 [[gs nm]]) (by simp only[View.set,Vs cI];exact N)).at 3 (by simp)
       try simp(disch:=omega)only[↓wr,seval,wq,t1,t2,t5,t6,t8,t9,t41,t42,t43,bP]
       refine dp e5 (by simp[aH]) (by unfold aC;simp;omega) (by unfold aC;simp;omega) ?_
       intro e6 H5 b1 b7
       have c1:=b1.head.cells
       have k1:=b1.head.gv
       have dj:=b1.is 3 rfl (by simp)
       have hz:=b7.map (b:=d) (es:=za (bL r.left (gi o.length) C mm)) (c:=c') e5.head (by simp[View.set,Ne.symm cI])
       have e7:d≠O:=e4.symm
       simp(disch:=omega)only[↓wr,seval,wq,t1,t2,t5,t6,t8,t9,t41,t42,t43,dj,c1,k1]
       have hA:=(b1.at 3 (by simp)).put (es':=[[B,e6,.emp 1,gi 0]]) rfl rfl
       have hB:=(((hA.at 3 (by simp)).tail).perm (.cons _ (.swap _ _ _)))
       refine aE hk (by omega) ⟨⟨e6,da,rfl,?_,?_,?_,_,c',(by simp only[View.set,Vs e7];exact hz),?_⟩,t1,t2,t5,t6,t8,t9,t41,t42,rfl⟩
       .rw[M,u];intro x hC;rcases VM.1 hC with h | h
        .exact bl x h
        .simp at h;subst h;exact⟨eg,ei⟩
       .rw[M,u];simp;omega
       .rw[M,u,e2]
        simp only[VW,VX,W6,cC]
        exact hB
       .rw[M,u,Bu,Int.zero_add,<-E2 hx]
        exact D.put r.left (o.length:Int) C
     .simp(disch:=omega)only[↓wr,seval,wq,t1,t2,t5,t6,t7,t8,t9,t41,t42,t43]
      refine U _ _ (by rw[dd,br,c3];rfl) ?_ ?_ ?_ ?_ ?_ ?_ ?_ ?_ ?_ ?_ ?_
      all_goals first | exact t7 | exact t1 | exact t2 | exact t5 | exact t6 | exact t8 | exact t9 | exact t41 | exact t42 | rfl | (rw[set_set];rfl)
   .rw[VG (by omega)] at A bl cS D
    have hE:(c9 p q g.rules 0).length<=40:=by
     rw[kR];have h1:=WY (dd p q) g.rules;omega
    have hF:=tq p q g.rules 0
    have h0:=kR p q g.rules 0
    have e8:vQ g (ec (cB p q g.rules)) p q=⟨g.au,(cB p q g.rules).map λx=>g.ak.getD x.toNat ⟨#[]⟩,(g.rules.filter (dd p q)).map (cq (ec (cB p q g.rules))),ec (cB p q g.rules) g.start⟩:=rfl
    rw[e8]
    clear e8
    generalize cB p q g.rules=o at *
    generalize c9 p q g.rules 0=kl at *
    have hq:o.length<=40:=by omega
    have hG:ct u3=some (bw kl).length:=(A.own 1 rfl).len
    simp(disch:=omega)only[↓wr,seval,wq,t1,t2,t5,t6,t7,t8,t9,hG,Vx]
    refine aR.up kl.length (Un g p q Q O d B G u3 o kl mm C) ?_ ?_
    .refine⟨⟨.emp 1,[],by simp,?_,j⟩,t1,t2,t7,t8,t9,t7,rfl,rfl⟩
     exact(A.emp (k:=1) (sz:=3)).perm (sf [(.sl O 0 1 4,4,[[B,G,.emp 1,gi 0]]),(u3,1,bw kl),(G,1,kH (o.map λx=>g.ak.getD x.toNat ⟨#[]⟩)),(B,3,g.au.map dq),(.emp 1,3,[]),(.sl Q 0 1 4,4,[[.emp 1,.emp 1,.emp 1,gi 0]])] 4 (by simp)).symm
    clear A j t1 t2 t5 t6 t7 t8 t9 t41 t42 t43
    rintro i k T H2 hk ⟨⟨u2,bs,cf,A,j⟩,t1,t2,t7,t8,t9,t91,t92,t93⟩
    simp(disch:=omega)only[↓wr,seval,wq,tT,t1,t2,t7,t8,t9,t91,t92,t93]
    apply aj.dec<;>intro hc
    .obtain⟨n3,e3,hI⟩:=(A.own 1 rfl).sl (by simp;omega)
     rw[Vx] at e3
     subst e3
     obtain⟨m,dm,N,X⟩:=hF i (by omega)
     have e9:=kO (show i < kl.length by omega)
     rw[Int.zero_add] at dm
     have hJ:kl[i]'(by omega)=(m:Int):=by
      rw[Vq (show i < kl.length by omega)] at dm;simpa using dm
     rw[hJ] at e9
     have E:g.rules[m]?=some (g.rules[m]'X):=Vq X
     have l:g.rules[m]'X∈g.rules:=Vw _
     have w:(g.rules.filter (dd p q)).take (i+1)=(g.rules.filter (dd p q)).take i ++ [g.rules[m]'X]:=by
      rw[VP,<-N,E];rfl
     generalize g.rules[m]'X=r at E l w
     obtain⟨hb,eg,ei,hd,bn⟩:=hf.qy hg l
     simp(disch:=omega)only[↓wr,seval,wq,t1,t2,t7,t8,t9,t91,t92,t93,hI,e9,Vx,ag,aK,encI,Vt,E]
     refine⟨by omega,by omega,?_⟩
     intro ds I
     have F:=A.new I 3 [aK r]
     have Y:d≠ds:=by rintro rfl;rw[j] at I;simp at I
     try simp(disch:=omega)only[↓wr,seval,wq,t1,t2,t7,t8,t9,t91,t92,t93,set_set]
     refine zu (kt:=3) (et:=3) (z:=gi 0) (by kernel_rfl) (by kernel_rfl) (k9 .i64 Tryz.underlying3) (id:=d) (c:=C) (m:=mm) (k:=r.left) (by simp(disch:=omega)only[↓wr,seval,wq,t9]) (by simp(disch:=omega)only[↓wr,seval,wq]) (by simp[View.set,Y,j]) ?_
     have ch:∀ x,(getM mm x).getD (gi 0)=gi (ec o x):=λx=>by
      rw[D.get,ec];cases eo (j4 o 0) x <;> rfl
     rw[ch]
     simp(disch:=omega)only[↓wr,seval,wq,t1,t2,t7,t8,t9,t91,t92,t93]
     refine ax.CW (Pc r.right (by omega) _) ?_
     intro v H3 hv K
     have e:=bo.Dc (H:=H2.set ds (.arr 3 [aK r])) F hv (by rw[set_set] at K;exact K)
     have dv:H3 d=.map (za mm) C:=by
      rw[(K d (by simp[View.set,Y,j])).1];simp[View.set,Y,j]
     have cv:=hv.cells
     have kv:=hv.gv
     have lv:=hv.len
     have f16:=e.is 1 rfl (by simp)
     simp only[aK,encI] at f16
     simp(disch:=omega)only[↓wr,seval,wq,t1,t2,t7,t8,t9,t91,t92,t93,f16,cv,kv]
     intro fb J
     have a:=e.new J 3 [[gi (ec o r.left),v,gi r.prec]]
     have ff:d≠fb:=by rintro rfl;rw[dv] at J;simp at J
     try simp(disch:=omega)only[↓wr,seval,wq,t1,t2,t7,t8,t9,t91,t92,t93,cv,kv,lv,set_set,Vx]
     generalize hL:((V.sl O 0 1 4,4,[[B,G,u2,gi 0]]) :: (V.sl n3 0 kl.length 1,1,bw kl) ::
       (G,1,kH (o.map λx=>g.ak.getD x.toNat ⟨#[]⟩)) :: (B,3,g.au.map dq) :: (u2,3,gU bs) :: (V.sl Q 0 1 4,4,[[V.emp 1,V.emp 1,V.emp 1,gi 0]]) :: mg bs:List dM)=L at a
     refine aR.up r.right.length (UL g Q O d ds fb (.sl n3 0 kl.length 1) v o kl mm C r L i) ?_ ?_
     .exact⟨by rw[set_set];exact a,by simp[View.set,ff,dv],t1,t2,t7,t8,t9,t91,t92,t93,rfl,rfl,rfl,rfl⟩
     clear F e a I J j dv f16 hv K t1 t2 t7 t8 t9 t91 t92 t93
     rintro k k2 T H3 fl ⟨a,j,t1,t2,t7,t8,t9,t91,t92,t93,t17,t113,t114,t115⟩
     have f17:=a.is 0 rfl (by simp)
     simp(disch:=omega)only[↓wr,seval,wq,tg,t1,t2,t7,t8,t9,t91,t92,t93,t17,t113,t114,t115]
     apply aj.dec<;>intro hK
     .have fm:r.right[k]?=some (r.right[k]'(by omega)):=Vq (by omega)
      have fs:r.right[k]'(by omega)∈r.right:=Vw _
      have hM:(cq (ec o) r).right.length=r.right.length:=by simp[cq]
      have Z:(cq (ec o) r).right.take (k+1)=(cq (ec o) r).right.take k ++ [if r.right[k]'(by omega) < 0 then -1 - ec o (-1 - r.right[k]'(by omega)) else r.right[k]'(by omega)]:=by
       rw[VP];simp[cq,fm]
      have ft:=dS (show k < r.right.length by omega)
      generalize r.right[k]'(by omega)=s at fm fs Z ft
      obtain⟨⟨s1,s2⟩,s3⟩:=bn s fs
      have h6:=RJ o (-1 - s)
      rw[ft] at a
      have hlen:(((cq (ec o) r).right.take k ++ s :: r.right.drop (k+1)).map λx=>[gi x]).length=r.right.length:=by simp;omega
      obtain⟨nv,ev,fx⟩:=(a.own 1 rfl).sl (by rw[hlen];omega)
      rw[hlen] at ev
      subst ev
      have cj:k < ((cq (ec o) r).right.take k ++ s :: r.right.drop (k+1)).length:=by simp;omega
      have ab:=kO cj
      have hP:((cq (ec o) r).right.take k ++ s :: r.right.drop (k+1))[k]'cj=s:=by
       rw[List.getElem_append_right (by simp;omega)]
       simp[show k - min k r.right.length=0 by omega,hM]
      rw[hP] at ab
      simp(disch:=omega)only[↓wr,seval,wq,t1,t2,t7,t8,t9,t91,t92,t93,t17,t113,t114,t115,fx,ab,Vx]
      refine⟨by omega,cj,?_⟩
      have fz:((cq (ec o) r).right.take k).length=k:=by rw[Wh];omega
      have hS:nv≠d:=Cp a 1 rfl j
      apply aj.dec<;>intro an
      .rw[Vu an] at Z
       simp(disch:=omega)only[↓wr,seval,wq,t1,t2,t7,t8,t9,t91,t92,t93,t17,t113,t114,t115,f17]
       refine zu (kt:=3) (et:=3) (z:=gi 0) (by kernel_rfl) (by kernel_rfl) (k9 .i64 Tryz.underlying3) (id:=d) (c:=C) (m:=mm) (k:=-1 - s) (by simp(disch:=omega)only[↓wr,seval,wq,t9]) (by simp(disch:=omega)only[↓wr,seval,wq]) j ?_
       rw[ch]
       simp(disch:=omega)only[↓wr,seval,wq,t1,t2,t7,t8,t9,t91,t92,t93,t17,t113,t114,t115,f17,fx,ab,Vx]
       refine⟨by omega,cj,?_⟩
       have aq:=((a.at 1 (by simp)).put (es':=((((cq (ec o) r).right.take k ++ s :: r.right.drop (k+1)).map λx=>[gi x]).set k [gi (-1 - ec o (-1 - s))])) (by simp) (by rw[hlen])).perm (.swap _ _ _)
       refine aE fl (by omega) ⟨?_,by simp only[View.set,Vs hS.symm];exact j,t1,t2,t7,t8,t9,t91,t92,t93,t17,t113,t114,rfl⟩
       rw[ints_set,DB fz] at aq
       rw[Z,We]
       rw[ints_set,DB fz]
       exact aq
      .rw[Vs an] at Z
       simp(disch:=omega)only[↓wr,seval,wq,t1,t2,t7,t8,t9,t91,t92,t93,t17,t113,t114,t115]
       refine aE fl (by omega) ⟨?_,j,t1,t2,t7,t8,t9,t91,t92,t93,t17,t113,t114,rfl⟩
       rw[Z,We]
       exact a
     .rw[VG (by simp[cq];omega),VN (by omega),WW] at a
      subst hL
      have f8:=a.is 3 rfl (by simp)
      have cv:=(a.own 1 rfl).cells
      have kv:=(a.own 1 rfl).gv
      have ga:(gU bs).length<=40:=by
       have h1:=W4 List.length cf
       simp only[Vx,Wh] at h1
       simp only[gU,Vx]
       omega
      simp(disch:=omega)only[↓wr,seval,wq,t1,t2,t7,t8,t9,t91,t92,t93,t17,t113,t114,t115,f8,f17,cv,kv]
      intro m hm
      have c4:d≠m:=by rintro rfl;rw[j] at hm;simp at hm
      try simp(disch:=omega)only[↓wr,seval,wq,t1,t2,t7,t8,t9,t91,t92,t93,t17,bP]
      have aq:=(a.fresh (o:=.arr 3 [[gi (ec o r.left),v,gi r.prec]]) hm).at 7 (by simp)
      refine dp aq (by simp[zo,kv]) (by unfold aC;simp at ga ⊢;omega) (by unfold aC;simp at ga ⊢;omega) ?_
      intro gd H4 ar t
      have cu:=ar.head.cells
      have ku:=ar.head.gv
      have dj:=ar.is 4 rfl (by simp)
      have gk:H4 d=.map (za mm) C:=t.map (b:=d) aq.head (by simp[View.set,c4,j])
      have hV:d≠O:=(Cp ar 4 rfl gk).symm
      simp(disch:=omega)only[↓wr,seval,wq,t1,t2,t7,t8,t9,t91,t92,t93,t17,dj,cu,ku]
      have hW:=(ar.at 4 (by simp)).put (es':=[[B,G,gd,gi 0]]) rfl rfl
      have hY:=((((hW.at 2 (by simp)).tail).at 3 (by simp)).tail)
      refine aE hk (by omega) ⟨⟨gd,bs ++ [(v,cq (ec o) r)],?_,?_,by simp only[View.set,Vs hV];exact gk⟩,t1,t2,t7,t8,t9,t91,t92,rfl⟩
      .rw[VW,cf,w,VW];rfl
      .refine hY.perm (.cons _ ?_)
       simp only[mg,gU,VW,VX,W6]
       refine .trans ?_ (sf _ 3 (by simp)).symm
       refine .cons _ ?_
       exact(List.perm_append_singleton (v,1,bw (cq (ec o) r).right) ((.sl n3 0 kl.length 1,1,bw kl) :: (G,1,kH (o.map λx=>g.ak.getD x.toNat ⟨#[]⟩)) :: (B,3,g.au.map dq) :: (.sl Q 0 1 4,4,[[.emp 1,.emp 1,.emp 1,gi 0]]) :: mg bs)).symm
    .rw[VG (by omega)] at cf
     have f8:=A.is 0 rfl (by simp)
     have f2:=A.is 5 rfl (by simp)
     have gl:O≠Q:=A.Km 0 5 rfl rfl (by omega)
     have c1:=(A.own 2 rfl).cells
     have k1:=(A.own 2 rfl).gv
     have c2:=(A.own 4 rfl).cells
     have k2:=(A.own 4 rfl).gv
     have ch:∀ x,(getM mm x).getD (gi 0)=gi (ec o x):=λx=>by
      rw[D.get,ec];cases eo (j4 o 0) x <;> rfl
     simp(disch:=omega)only[↓wr,seval,wq,t1,t2,t7,t8,t9,t91,t92,t93,ag]
     refine zu (kt:=3) (et:=3) (z:=gi 0) (by kernel_rfl) (by kernel_rfl) (k9 .i64 Tryz.underlying3) (id:=d) (c:=C) (m:=mm) (k:=g.start) (by simp(disch:=omega)only[↓wr,seval,wq,t9]) (by simp(disch:=omega)only[↓wr,seval,wq]) j ?_
     rw[ch]
     simp(disch:=omega)only[↓wr,seval,wq,t1,t2,t7,t8,t9,t91,t92,t93,f8,f2,gl,gl.symm,c0,k0,c1,k1,c2,k2]
     intro h' hh
     have F:=A.put (es':=[[B,G,u2,gi (ec o g.start)]]) rfl rfl
     have e:=(F.at 5 (by simp)).put (es':=[[B,G,u2,gi (ec o g.start)]]) rfl rfl
     have hv:h'.view=(H2.set O (.arr 4 [[B,G,u2,gi (ec o g.start)]])).set Q (.arr 4 [[B,G,u2,gi (ec o g.start)]]):=hh
     rw[<-hv] at e
     exact JL (x:=(⟨g.au,o.map λx=>g.ak.getD x.toNat ⟨#[]⟩,(g.rules.filter (dd p q)).map (cq (ec o)),ec o g.start⟩,kl,0)) (b:=bs) (e.own 4 rfl) (e.own 3 rfl) (e.own 5 rfl) (λy hy=>e.1 y (by
      refine VL _ (VL _ (VL _ (VL _ (VL _ (VL _ ?_)))))
      exact hy)) cf (e.own 2 rfl)
 .rename_i hr
  intro h' hh
  rw[Vs (by simp[hr])]
  exact vJ
theorem JG {l:List Int} {a b:List Bool} {t:Bool} (h:hZ a b) (k:gj l a t=true):gj l b t=true:=by
 simp only[gj,VU] at k ⊢
 intro s d
 have:=k s d
 by_cases c:0<=s
 .rw[Vu c] at this ⊢;exact this
 .rw[Vs c] at this ⊢;exact h.2 _ this
theorem hZ.Tv {a b:List Bool} (h:hZ a b) (k:hZ b a):a=b:=by
 have h1:=h.cM
 have c:=k.cM
 exact h1.2 (by omega)
def nS (g:ai) (t:Bool) (is:List Bool):Prop:=∀ i,is.getD i false=true->∃ r∈g.rules,r.left.toNat=i/\gj r.right is t=true
theorem nS.step {g:ai} {t:Bool} {is:List Bool} {r:ba} (h:nS g t is) (hr:r∈g.rules):nS g t (iG t is r):=by
 have hle:hZ is (iG t is r):=by
  unfold iG
  split
  .exact .set _ _
  .exact .refl _
 intro i hi
 by_cases e:is.getD i false=true
 .obtain⟨c,h1,d,f⟩:=h i e
  exact⟨c,h1,d,JG hle f⟩
 .unfold iG at hi
  by_cases a:gj r.right is t=true
  .rw[Vu a] at hi
   have:r.left.toNat=i:=by
    refine WL λb=>e ?_
    simp only[Vp,V9,Vs b] at hi ⊢
    exact hi
   exact⟨r,hr,this,JG hle a⟩
  .rw[Vs a] at hi;exact absurd hi e
theorem nS.fold {g:ai} {t:Bool} : ∀ (l:List ba) (is:List Bool),(∀ r∈l,r∈g.rules)->nS g t is->nS g t (l.foldl (iG t) is)
 | [],is,_,h=>h
 | r :: l,is,a,h=>nS.fold l _ (λx b=>a x (by simp[b])) (h.step (a r (by simp)))
theorem nS.iter {g:ai} {t:Bool} : ∀ (n:Nat) (is:List Bool),nS g t is->nS g t (iter (nE g t) n is)
 | 0,_,h=>h
 | n+1,is,h=>nS.iter n _ (nS.fold g.rules is (λ_ h=>h) h)
theorem Lu (g:ai) (t:Bool):nS g t (bF g t):=by
 unfold bF
 split
 .refine nS.iter _ _ ?_
  intro i hi
  simp only[cJ,Vp,Wj] at hi
  split at hi <;> simp at hi
 .intro i hi;simp at hi
theorem Ke (is:List Bool) (s:Int):hZ is (mark is s):=by
 unfold mark
 split
 .exact .set _ _
 .exact .refl _
theorem Aw:∀ (l:List Int) (is:List Bool),hZ is (l.foldl mark is)
 | [],is=>.refl _
 | s :: l,is=>(Ke is s).trans (Aw l _)
theorem GY (p is:List Bool) (r:ba):hZ is (hD p is r):=by
 unfold hD
 split
 .exact Aw _ _
 .exact .refl _
theorem HK (p:List Bool):∀ (l:List ba) (is:List Bool),hZ is (l.foldl (hD p) is)
 | [],is=>.refl _
 | r :: l,is=>(GY p is r).trans (HK p l _)
theorem EN {p:List Bool} : ∀ {l:List ba} {is:List Bool},l.foldl (hD p) is=is->∀ r∈l,hD p is r=is
 | [],_,_,_,h=>by simp at h
 | r :: l,is,h,x,a=>by
  rw[V7] at h
  have h1:=HK p l (hD p is r)
  rw[h] at h1
  have b:=(h1.Tv (GY p is r))
  rcases VJ.1 a with rfl | a
  .exact b
  .rw[b] at h;exact EN h x a
theorem Ez:∀ {l:List Int} {is:List Bool},l.foldl mark is=is->∀ s∈l,mark is s=is
 | [],_,_,_,h=>by simp at h
 | r :: l,is,h,x,a=>by
  rw[V7] at h
  have h1:=Aw l (mark is r)
  rw[h] at h1
  have b:=(h1.Tv (Ke is r))
  rcases VJ.1 a with rfl | a
  .exact b
  .rw[b] at h;exact Ez h x a
theorem DT {g:ai} (hr:bM g=true):rb g (bF g true) (cr g)=cr g/\hZ ((cJ g).set g.start.toNat true) (cr g):=by
 have a:=bX hr
 have h:=xM (sX (bF g true)) g.rules 16 ((cJ g).set g.start.toNat true) (by have:=a.ak;simp[cJ];omega)
 rw[JD,Mw hr] at h
 exact h
theorem IN {g:ai} (hr:bM g=true):(cr g).getD g.start.toNat false=true:=by
 have a:=bX hr
 refine(DT hr).2.2 _ ?_
 have b:=a.kT
 have c:=a.start
 simp only[Vp]
 rw[List.getElem?_set_self (by simp[cJ];omega)]
 rfl
theorem Ls {g:ai} (hr:bM g=true) {r:ba} (hm:r∈g.rules) (hk:dd (bF g true) (cr g) r=true) {s:Int} (b:s∈r.right) (c:s < 0):(cr g).getD (-1 - s).toNat false=true:=by
 have d:=bX hr
 have h1:=EN (DT hr).1 r hm
 unfold hD at h1
 rw[dd] at hk
 rw[Vu hk] at h1
 have a:=Ez h1 s b
 unfold mark at a
 rw[Vu c] at a
 rw[<-a]
 have e:=qf hr
 have:=d.neg hm b c
 simp only[Vp]
 rw[List.getElem?_set_self (by omega)]
 rfl
theorem OS {g:ai} (hr:bM g=true) {x:Int} (d:0<=x) (hp:(bF g true).getD x.toNat false=true) (a:(cr g).getD x.toNat false=true):x∈cB (bF g true) (cr g) g.rules:=by
 obtain⟨r,h1,e,b⟩:=Lu g true _ hp
 have c:=bX hr
 have f:=c.left r h1
 have:r.left=x:=by omega
 refine GU.2 ⟨r,h1,?_,this⟩
 rw[dd,this,a,b];rfl
theorem LJ (g:ai):(if bM g=true then
  if (bF g true).getD g.start.toNat false=true then (vQ g (ec (cB (bF g true) (cr g) g.rules)) (bF g true) (cr g),c9 (bF g true) (cr g) g.rules 0,0)
  else (rK,[],9)
 else (rK,[],1))=gS g:=by
 unfold gS
 by_cases hr:bM g=true
 .rw[Vu hr,Vu hr]
  by_cases hp:(bF g true).getD g.start.toNat false=true
  .rw[Vu hp,Vu hp]
   have c:=bX hr
   rw[Nt]
   .exact OS hr c.kT hp (IN hr)
   .intro r hm
    obtain⟨h1,a⟩:=Wx.1 hm
    refine⟨GU.2 ⟨r,h1,a,rfl⟩,λs b d=>?_⟩
    refine OS hr (by omega) ?_ (Ls hr h1 a b d)
    rw[dd,VD] at a
    have:=a.2
    simp only[gj,VU] at this
    have:=this s b
    rwa [Vs (by omega)] at this
  .rw[Vs hp,Vs hp]
 .rw[Vs hr,Vs hr]
theorem Ld (g:ai) (a:g.Ok) (b:g.Small):ca Tryz.prog 92 [.agg (ag g)] (vR (gS g)):=by
 rw[<-LJ];exact Iy g a b
def bY (g:ai) (k:Int):ba:=g.rules.getD k.toNat ⟨0,[],0⟩
theorem getD_some {α:Type} {l:List α} {j:Nat} {d:α} (h:j < l.length):l[j]?=some (l.getD j d):=by simp[Vp,h]
section
variable {g r:ai} {p q:List Bool} {o:List Int}
end
section
variable {g r:ai} {p q:List Bool} {o:List Int}
end
def isRed (g:ai):Bool:=(gS g).2.2 == 0 && decide (g=(gS g).1)
def Cm (p:List Int) (i:Nat) (s:Int):Prop:=∃ c,p[i]?=some c/\(c=s∨c = -1)
inductive Sp (g:ai) (p:List Int):List Int->Nat->Nat->Prop
 | nil (i:Nat):Sp g p [] i i
 | term (s:Int) (l:List Int) (i j:Nat):0<=s->Cm p i s->Sp g p l (i+1) j->Sp g p (s :: l) i j
 | ky (s:Int) (l:List Int) (R:ba) (i k j:Nat):s < 0->R∈g.rules->R.left = -1 - s->Sp g p R.right i k->Sp g p l k j->Sp g p (s :: l) i j
theorem Sp.len {g:ai} {p:List Int} {l:List Int} {i j:Nat} (h:Sp g p l i j):i<=p.length->j<=p.length:=by
 induction h with
 | nil=>exact id
 | term _ _ i _ _ d _ e =>
  intro _
  obtain⟨c,f,_⟩:=d
  have:=(VC.1 f).1
  exact e (by omega)
 | ky _ _ _ _ _ _ _ _ _ _ _ a b=>exact λh=>b (a h)
theorem Sp.app {g:ai} {p:List Int} {a:List Int} {i k:Nat} (h:Sp g p a i k):∀ {b:List Int} {j:Nat},Sp g p b k j->Sp g p (a ++ b) i j:=by
 induction h with
 | nil=>exact λh=>h
 | term s l i _ c f _ m=>exact λd=>.term s _ i _ c f (m d)
 | ky s l R i k _ c n o h1 _ _ e=>exact λd=>.ky s _ R i k _ c n o h1 (e d)
theorem Sp.split {g:ai} {p:List Int} : ∀ {a b:List Int} {i j:Nat},Sp g p (a ++ b) i j->∃ k,Sp g p a i k/\Sp g p b k j
 | [],b,i,j,h=>⟨i,.nil i,h⟩
 | s :: a,b,i,j,h=>by
  cases h with
  | term _ _ _ _ c e h =>
   obtain⟨k,h1,d⟩:=Sp.split h
   exact⟨k,.term s a i k c e h1,d⟩
  | ky _ _ R _ m _ c f l h1 h =>
   obtain⟨k,d,n⟩:=Sp.split h
   exact⟨k,.ky s a R i m k c f l h1 d,n⟩
structure Item where
 az:Nat
 dot:Nat
 NV:Nat
 deriving DecidableEq
structure Vm (g:ai) (p:List Int) (S:Nat->List Item):Prop where
 start:∀ (i:Nat) (R:ba),g.rules[i]?=some R->R.left=g.start->⟨i,0,0⟩∈S 0
 term:∀ a x R s,x∈S a->g.rules[x.az]?=some R->R.right[x.dot]?=some s->0<=s->Cm p a s->⟨x.az,x.dot+1,x.NV⟩∈S (a+1)
 pred:∀ a x R s i R',x∈S a->g.rules[x.az]?=some R->R.right[x.dot]?=some s->s < 0->g.rules[i]?=some R'->R'.left = -1 - s->a<=p.length->⟨i,0,a⟩∈S a
 null:∀ a x R s,x∈S a->g.rules[x.az]?=some R->R.right[x.dot]?=some s->s < 0->(bF g false).getD (-1 - s).toNat false=true->a<=p.length->⟨x.az,x.dot+1,x.NV⟩∈S a
 comp:∀ a y R' x R s,y∈S a->g.rules[y.az]?=some R'->y.dot=R'.right.length->y.NV < a->x∈S y.NV->g.rules[x.az]?=some R->R.right[x.dot]?=some s->s < 0->R'.left = -1 - s->a<=p.length->⟨x.az,x.dot+1,x.NV⟩∈S a
inductive In (p:List Int) (T:Nat->Nat->Nat->Prop):List Int->Nat->Nat->Prop
 | nil (i:Nat):In p T [] i i
 | term (s:Int) (l:List Int) (i j:Nat):0<=s->Cm p i s->In p T l (i+1) j->In p T (s :: l) i j
 | ky (s:Int) (l:List Int) (i k j:Nat):s < 0->T (-1 - s).toNat i k->In p T l k j->In p T (s :: l) i j
theorem Rk {g:ai} {p:List Int} {T:Nat->Nat->Nat->Prop} (c:∀ n i j,T n i j->Sp g p [-1 - (n:Int)] i j) {l:List Int} {i j:Nat} (h:In p T l i j):Sp g p l i j:=by
 induction h with
 | nil i=>exact .nil i
 | term s l i j b d _ a=>exact .term s l i j b d a
 | ky s l i k j b h1 _ a =>
  have:=c _ _ _ h1
  rw[show -1 - (((-1 - s).toNat:Nat):Int)=s by omega] at this
  exact Sp.app this a
theorem TP {g:ai} (u:∀ r∈g.rules,0<=r.left) {p:List Int} {T:Nat->Nat->Nat->Prop} (n:∀ R∈g.rules,∀ i j,i<=p.length->In p T R.right i j->T R.left.toNat i j) {l:List Int} {i j:Nat} (h:Sp g p l i j):i<=p.length->In p T l i j:=by
 induction h with
 | nil i=>intro _;exact .nil i
 | term s l i j a b _ o =>
  intro _
  obtain⟨c,m,d⟩:=b
  have:=(VC.1 m).1
  exact .term s l i j a ⟨c,m,d⟩ (o (by omega))
 | ky s l R i k j a q t h1 _ e f =>
  intro hp
  have:=n R q i k hp (e hp)
  rw[t] at this
  exact .ky s l i k j a this (f (h1.len hp))
theorem Ps {g:ai} (b:∀ r∈g.rules,0<=r.left) {p:List Int} {T:Nat->Nat->Nat->Prop} (c:∀ n i j,T n i j->Sp g p [-1 - (n:Int)] i j) (a:∀ R∈g.rules,∀ i j,i<=p.length->In p T R.right i j->T R.left.toNat i j) {n i j:Nat} (hi:i<=p.length) :
  T n i j↔Sp g p [-1 - (n:Int)] i j:=by
 refine⟨c n i j,λh=>?_⟩
 cases h with
 | term _ _ _ _ d _ _=>omega
 | ky _ _ R _ k _ d e l h1 f =>
  cases f
  have:=a R e i _ hi (TP b a h1 hi)
  rw[show R.left.toNat=n by omega] at this
  exact this
theorem In.app {p:List Int} {T:Nat->Nat->Nat->Prop} {a:List Int} {i k:Nat} (h:In p T a i k):∀ {b:List Int} {j:Nat},In p T b k j->In p T (a ++ b) i j:=by
 induction h with
 | nil=>exact λh=>h
 | term s l i _ c f _ d=>exact λe=>.term s _ i _ c f (d e)
 | ky s l i k _ c h1 _ d=>exact λe=>.ky s _ i k _ c h1 (d e)
theorem In.split {p:List Int} {T:Nat->Nat->Nat->Prop} : ∀ {a b:List Int} {i j:Nat},In p T (a ++ b) i j->∃ k,In p T a i k/\In p T b k j
 | [],b,i,j,h=>⟨i,.nil i,h⟩
 | s :: a,b,i,j,h=>by
  cases h with
  | term _ _ _ _ c e h =>
   obtain⟨k,h1,d⟩:=In.split h
   exact⟨k,.term s a i k c e h1,d⟩
  | ky _ _ _ m _ c h1 h =>
   obtain⟨k,d,f⟩:=In.split h
   exact⟨k,.ky s a i m k c h1 d,f⟩
theorem In.le {p:List Int} {T:Nat->Nat->Nat->Prop} (a:∀ n i j,T n i j->i<=j) {l:List Int} {i j:Nat} (h:In p T l i j):i<=j:=by
 induction h with
 | nil=>exact VA _
 | term _ _ _ _ _ _ _ b=>omega
 | ky _ _ _ _ _ _ h1 _ b=>have:=a _ _ _ h1;omega
def stepT (p:List Int) (T:Nat->Nat->Nat->Prop) (s:Int) (i j:Nat):Prop:=if 0<=s then Cm p i s/\j=i+1 else T (-1 - s).toNat i j
theorem In.one {p:List Int} {T:Nat->Nat->Nat->Prop} {s:Int} {i j:Nat} : In p T [s] i j↔stepT p T s i j:=by
 unfold stepT
 constructor
 .intro h
  cases h with
  | term _ _ _ _ a b h=>cases h;rw[Vu a];exact⟨b,rfl⟩
  | ky _ _ _ _ _ a h1 h=>cases h;rw[Vs (by omega)];exact h1
 .intro h
  by_cases a:0<=s
  .rw[Vu a] at h
   obtain⟨b,rfl⟩:=h
   exact .term s [] i _ a b (.nil _)
  .rw[Vs a] at h
   exact .ky s [] i j j (by omega) h (.nil _)
theorem In.snoc {p:List Int} {T:Nat->Nat->Nat->Prop} {a:List Int} {s:Int} {i j:Nat} : In p T (a ++ [s]) i j↔∃ k,In p T a i k/\stepT p T s k j :=
 ⟨λh=>by obtain⟨k,h1,b⟩:=h.split;exact⟨k,h1,In.one.1 b⟩,λ⟨k,h1,b⟩=>h1.app (In.one.2 b)⟩
abbrev Tb:=List (List (List Bool))
def gJ (T:Tb) (n i j:Nat):Bool:=((T.getD n []).getD i []).getD j false
def jH (T:Tb) (N M:Nat):Prop:=T.length=N/\∀ r∈T,r.length=M/\∀ c∈r,c.length=M
theorem jH.row {T:Tb} {N M n:Nat} (h:jH T N M) (a:n < N):∃ r,T[n]?=some r/\r.length=M/\T.getD n []=r:=by
 have:n < T.length:=by rw[h.1];exact a
 exact⟨T[n],Vq this,(h.2 _ (Vw _)).1,by simp[Vp,this]⟩
theorem jH.cell {T:Tb} {N M n i:Nat} (h:jH T N M) (a:n < N) (hi:i < M):∃ r c,T[n]?=some r/\r[i]?=some c/\c.length=M/\(T.getD n []).getD i []=c:=by
 obtain⟨r,hr,d,b⟩:=h.row a
 have h1:i < r.length:=by omega
 refine⟨r,r[i],hr,Vq h1,(h.2 r (VF hr)).2 _ (Vw _),?_⟩
 rw[b];simp[Vp,h1]
def og (T:Tb) (n i j:Nat):Tb:=T.set n ((T.getD n []).set i (((T.getD n []).getD i []).set j true))
def ye (N M:Nat):Tb:=List.replicate N (List.replicate M (List.replicate M false))
theorem JE (N M:Nat):jH (ye N M) N M:=by
 refine⟨by simp[ye],λr hr=>?_⟩
 simp only[ye,List.mem_replicate] at hr
 obtain⟨_,rfl⟩:=hr
 refine⟨by simp,λc a=>?_⟩
 simp only[List.mem_replicate] at a
 obtain⟨_,rfl⟩:=a
 simp
theorem Ss (N M n i j:Nat):gJ (ye N M) n i j=false:=by
 simp only[gJ,ye,Vp,Wj]
 split
 .simp only[VI,Wj]
  split
  .simp only[VI,Wj]
   split <;> rfl
  .rfl
 .rfl
theorem Qe {T:Tb} {N M n i j:Nat} (h:jH T N M) (k:n < N) (hi:i < M):jH (og T n i j) N M:=by
 obtain⟨r,c,hr,m,e,l⟩:=h.cell k hi
 obtain⟨o,a,f,b⟩:=h.row k
 rw[hr] at a;simp at a;subst a
 refine⟨by simp[og,h.1],λx d=>?_⟩
 rw[og,b,] at d
 rcases List.mem_or_eq_of_mem_set d with d | rfl
 .exact h.2 x d
 .refine⟨by simp[f],λy g=>?_⟩
  rcases List.mem_or_eq_of_mem_set g with g | rfl
  .exact(h.2 r (VF hr)).2 y g
  .rw[b] at l
   rw[l];simp[e]
theorem Qs {T:Tb} {N M n i j d f k:Nat} (h:jH T N M) (l:n < N) (hi:i < M) (y:j < M):gJ (og T n i j) d f k=if d=n/\f=i/\k=j then true else gJ T d f k:=by
 obtain⟨r,c,hr,z,u,t⟩:=h.cell l hi
 obtain⟨A,a,v,b⟩:=h.row l
 rw[hr] at a;simp at a;subst a
 have w:n < T.length:=by rw[h.1];exact l
 have m:i < r.length:=by omega
 have o:j < c.length:=by omega
 rw[b] at t
 have g:r.getD i []=c:=t
 simp only[gJ,og,b,g]
 by_cases p:d=n
 .subst p
  have x:(T.set d (r.set i (c.set j true))).getD d []=r.set i (c.set j true):=by simp[Vp,w]
  rw[x,b]
  by_cases q:f=i
  .subst q
   have a2:(r.set f (c.set j true)).getD f []=c.set j true:=by simp[Vp,m]
   rw[a2,g]
   by_cases s:k=j
   .subst s
    rw[Vu ⟨rfl,rfl,rfl⟩]
    simp[Vp,o]
   .rw[Vs (λe=>s e.2.2)]
    simp[Vp,V9,Ne.symm s]
  .rw[Vs (λe=>q e.2.1)]
   simp[Vp,V9,Ne.symm q]
 .rw[Vs (λe=>p e.1)]
  simp[Vp,V9,Ne.symm p]
def jr (p:List Int) (T:Tb) (s:Int) (a j:Nat):Bool :=
 if 0<=s then decide (a < p.length) && (p.getD a 0 == s || p.getD a 0 == -1) && decide (j=a+1) else decide (a<=j) && gJ T (-1 - s).toNat a j
def eF (p:List Int) (T:Tb) (s:Int) (now:List Bool) (f a0 j:Nat):Bool:=(List.range a0).any λa=>decide (f<=a) && now.getD a false && jr p T s a j
def fG (M:Nat) (F:Nat->Bool):List Bool:=(List.range M).map F
def mI (p:List Int) (T:Tb) (f:Nat) (now:List Bool) (s:Int):List Bool:=fG (p.length+1) (eF p T s now f (p.length+1))
def kF (p:List Int) (T:Tb) (l:List Int) (f:Nat):List Bool:=l.foldl (mI p T f) (fG (p.length+1) λj=>decide (j=f))
theorem ki (M:Nat) (F:Nat->Bool):(fG M F).length=M:=by simp[fG]
theorem HM {M j:Nat} {F:Nat->Bool} (h:j < M):(fG M F).getD j false=F j:=by simp[fG,Vp,h]
theorem JW {M i:Nat} {F:Nat->Bool} (v:Bool):(fG M F).set i v=fG M λj=>if j=i then v else F j:=by
 apply Wp (by simp[fG])
 intro j h1 a
 simp only[fG,Vx,List.length_range] at a
 simp only[fG,List.getElem_set,Xg,Xv]
 by_cases e:i=j
 .subst e;simp
 .rw[Vs e,Vs (Ne.symm e)]
theorem lh {M:Nat} {F G:Nat->Bool} (h:∀ j,j < M->F j=G j):fG M F=fG M G:=by
 unfold fG
 apply Wz
 intro j a
 exact h j (by simpa using a)
theorem yH (p:List Int) (T:Tb) (f:Nat):∀ (l:List Int) (now:List Bool),now.length=p.length+1->(l.foldl (mI p T f) now).length=p.length+1
 | [],_,h=>h
 | s :: l,now,_=>yH p T f l _ (by rw[mI,ki])
theorem Ey (p:List Int) (T:Tb) (l:List Int) (f:Nat):(kF p T l f).length=p.length+1:=yH p T f l _ (ki _ _)
theorem KR (p:List Int) (T:Tb) (s:Int) (now:List Bool) (f a j:Nat):eF p T s now f (a+1) j=(eF p T s now f a j || (decide (f<=a) && now.getD a false && jr p T s a j)):=by
 simp[eF,WX]
theorem IM (p:List Int) (T:Tb) (s:Int) (now:List Bool) (f j:Nat):eF p T s now f f j=false:=by
 simp only[eF,List.any_eq_false,Wy]
 intro a b
 rw[decide_eq_false (by omega)];simp
def my (T:Tb):V:=.aW (T.map λr=>[.aW (r.map λc=>[b5 c])])
theorem K5 (T:Tb):Tree (my T):=ep _ _ λr _ v a=>by
 simp at a;subst a
 exact ep _ _ λc _ v a=>by simp at a;subst a;exact iU c
def nX:SC :=
 af [af [ae [aa 75 13,aa 76 1,aN 77 76,aS 78 .leq 75 77],bO 78 (.exit 4)],.block 5 (.region false [⟨none,[aa 81 11,aa 82 13,aa 83 11,aa 84 13,aL 85 1 83 84,al 86 85,aa 87 86]⟩,⟨(some (87,false)),[aa 88 2,aa 89 0,aa 90 10,aL 91 1 89 90,al 92 91,((some 93),.op (.arith .sub (.val (.val (.int .i64 (-1)))) (.tmp 92))),aL 94 1 88 93,al 95 94,aa 96 12,aL 97 1 95 96,al 98 97,aa 99 13,aL 100 1 98 99,al 101 100]⟩,⟨none,[cx 102 87 101,aL 103 1 81 82,cy 1 103 102]⟩]),ae [aa 79 13,aF 80 .add 79 1,aa 13 80]]
def oo:SC :=
 af [af [ae [aa 32 12,aa 33 1,aN 34 33,aS 35 .leq 32 34],bO 35 (.exit 2)],.block 3 (af [af [ae [aa 38 9,aa 39 12,aL 40 1 38 39,al 41 40,c5 42 41],aZ 42 (.exit 3)],af [ae [aa 43 0,aa 44 10,aL 45 1 43 44,al 46 45,aF 47 .geq 46 0],aZ 47 (af [af [.region false [⟨none,[aa 48 12,aa 49 1,aN 50 49,aS 51 .lss 48 50,aa 52 51]⟩,⟨(some (52,true)),[aa 53 1,aa 54 12,aL 55 1 53 54,al 56 55,aa 57 0,aa 58 10,aL 59 1 57 58,al 60 59,aS 61 .eql 56 60,aa 62 61]⟩,⟨(some (62,false)),[aa 63 1,aa 64 12,aL 65 1 63 64,al 66 65,aF 67 .eql 66 (-1)]⟩,⟨(some (52,true)),[cx 68 62 67]⟩,⟨none,[eV 69 52 68]⟩],aZ 69 (ae [aa 70 11,aa 71 12,aF 72 .add 71 1,aL 73 1 70 72,(none,.op (.store 1 (.tmp 73) (.val (.val (.bool true)))))])],.exit 3])],ae [aa 74 12,aa 13 74],bR 4 nX]),ae [aa 36 12,aF 37 .add 36 1,aa 12 37]]
def oc:SC :=
 af [af [ae [aa 21 10,aa 22 0,aN 23 22,aS 24 .lss 21 23],bO 24 (.exit 0)],.block 1 (af [ae [aa 27 1,aN 28 27,aF 29 .add 28 1,((some 30),.op (.make 1 1 [(.val (.bool false))] (.tmp 29) (.tmp 29))),aa 11 30],af [ae [aa 31 3,aa 12 31],bR 2 oo],ae [aa 104 11,aa 9 104]]),ae [aa 25 10,aF 26 .add 25 1,aa 10 26]]
def qu:SF:=⟨af [ae [bT 8 1],ae [aa 14 1,aN 15 14,aF 16 .add 15 1,((some 17),.op (.make 1 1 [(.val (.bool false))] (.tmp 16) (.tmp 16))),aa 9 17],ae [aa 18 9,aa 19 3,aL 20 1 18 19,(none,.op (.store 1 (.tmp 20) (.val (.val (.bool true)))))],af [ae [aP 10 0],bR 0 oc],ae [aa 105 9,aa 8 105],.ret],
 [.tmp 8],106⟩
theorem uS:aM Tryz.prog 200 []=some qu:=by kernel_rfl
theorem r7 {l:List Bool} {i:Nat} (h:i < l.length):(bH l).getD i []=[gb (l.getD i false)]:=by simp[Vp,h]
theorem RZ (l p:List Int) (T:Tb) (f N:Nat) (hl:aI l) (hp:p.length<=1000) (hT:jH T N (p.length+1)) (hf:f<=p.length) (hn:∀ x∈l,bS x/\(x < 0->-1 - x < N)) :
  ca Tryz.prog 200 [encI l,encI p,my T,gi f] (b5 (kF p T l f)):=by
 unfold aI at hl
 have hM:((p.length:Int)+1).toNat=p.length+1:=by omega
 refine ca.of (by
  intro v Y;simp at Y
  rcases Y with rfl | rfl | rfl | rfl
  .exact bI l
  .exact bI p
  .exact K5 T
  .exact .val _) ?_
 refine aw.of mixed uS ?_
 simp(disch:=omega)only[↓wr,seval,wq,qu,encI]
 refine⟨⟨by omega,by unfold aC;omega,by unfold aC;omega⟩,λh=>by omega,?_⟩
 intro _ b
 try simp(disch:=omega)only[↓wr,seval,wq,encI]
 refine⟨by omega,by simp;omega,?_⟩
 have E:(List.replicate (p.length+1) [gb false]).set f [gb true]=bH (fG (p.length+1) λj=>decide (j=f)):=by
  rw[show List.replicate (p.length+1) [gb false]=bH (List.replicate (p.length+1) false) by simp,gL]
  congr 1
  apply Wp (by simp[fG])
  intro j h1 h2
  simp only[fG,List.getElem_set,List.getElem_replicate,Xg,Xv]
  by_cases e:f=j
  .subst e;simp
  .rw[Vs e];simp[Ne.symm e]
 refine aR.up l.length (λq a H'=>∃ (b:Nat),a 9=.sl b 0 (p.length+1) 1/\H' b=.arr 1 (bH ((l.take q).foldl (mI p T f) (fG (p.length+1) λj=>decide (j=f))))/\a 0=encI l/\a 1=encI p/\a 2=my T/\a 3=gi f/\a 10=gi q) ?_ ?_
 .refine⟨b,rfl,?_,rfl,rfl,rfl,rfl,rfl⟩
  simp only[View.set,if_true]
  rw[Vp,Wj,Vu (by omega)]
  rw[List.take_zero,Xk,<-E];rfl
 rintro q k a H hk ⟨b,t9,o,t0,t1,t2,t3,t10⟩
 have P:=yH p T f (l.take q) (fG (p.length+1) λj=>decide (j=f)) (ki _ _)
 have F:∀ x,l[q]?=some x->(l.take (q+1)).foldl (mI p T f) (fG (p.length+1) λj=>decide (j=f))=mI p T f ((l.take q).foldl (mI p T f) (fG (p.length+1) λj=>decide (j=f))) x:=λx hx=>by
  rw[VP,hx,WQ];rfl
 simp(disch:=omega)only[↓wr,seval,wq,oc,t0,t1,t2,t3,t9,t10,encI]
 apply aj.dec<;>intro hc
 .have O:l[q]?=some (l[q]'(by omega)):=Vq (by omega)
  have D:l[q]'(by omega)∈l:=Vw _
  have G:=F _ O
  generalize l[q]'(by omega)=s at O D G
  generalize (l.take q).foldl (mI p T f) (fG (p.length+1) λj=>decide (j=f))=now at o P G
  obtain⟨⟨bl,br⟩,Z⟩:=hn s D
  simp(disch:=omega)only[↓wr,seval,wq,t0,t1,t2,t3,t9,t10,encI]
  refine⟨⟨by omega,by unfold aC;omega,by unfold aC;omega⟩,λh=>by omega,?_⟩
  intro _ d w
  have A:b≠d:=by rintro rfl;rw[o] at w;simp at w
  try simp(disch:=omega)only[↓wr,seval,wq,t0,t1,t2,t3,t9,t10,encI]
  refine aR.up (p.length+1 - f) (λi a H'=>H' b=.arr 1 (bH now)/\H' d=.arr 1 (bH (fG (p.length+1) (eF p T s now f (f+i))))/\a 9=.sl b 0 (p.length+1) 1/\a 11=.sl d 0 (p.length+1) 1/\a 0=encI l/\a 1=encI p/\a 2=my T/\a 3=gi f/\a 10=gi q/\a 12=gi ((f+i:Nat):Int)) ?_ ?_
  .refine⟨by simp[View.set,A,o],?_,t9,rfl,t0,t1,t2,t3,t10,rfl⟩
   simp only[View.set,if_true]
   rw[hM,show List.replicate (p.length+1) [V.val (Value.bool false)]=bH (List.replicate (p.length+1) false) by simp]
   congr 2
   apply Wp (by simp[fG])
   intro j h1 h2
   simp only[fG,List.getElem_replicate,Xg,Xv]
   rw[WZ,IM]
  clear w o t0 t1 t2 t3 t9 t10
  rintro i m a H hm ⟨o,w,t9,t11,t0,t1,t2,t3,t10,t12⟩
  simp(disch:=omega)only[↓wr,seval,wq,oo,t0,t1,t2,t3,t9,t10,t11,t12,encI]
  apply aj.dec<;>intro an
  .have aq:=r7 (l:=now) (i:=f+i) (by omega)
   simp(disch:=omega)only[↓wr,seval,wq,t0,t1,t2,t3,t9,t10,t11,t12,o,aq]
   refine⟨by omega,by omega,?_⟩
   have t:=KR p T s now f (f+i)
   rw[Wb (show f<=f+i by omega),Wd] at t
   have bs:∀ j,(λj=>eF p T s now f (f+i) j) j=eF p T s now f (f+i) j:=λ_=>rfl
   generalize now.getD (f+i) false=bn at t
   apply aj.split<;>intro I
   .subst I
    simp only[Wd] at t
    simp(disch:=omega)only[↓wr,seval,wq,t0,t1,t2,t3,t9,t10,t11,t12,encI,Vt,O]
    apply aj.dec<;>intro J
    .have z:∀ j,jr p T s (f+i) j=(decide (f+i < p.length) && (p.getD (f+i) 0 == s || p.getD (f+i) 0 == -1) && decide (j=f+i+1)):=λj=>by rw[jr,Vu (show 0<=s from J)]
     simp(disch:=omega)only[↓wr,seval,wq,t0,t1,t2,t3,t9,t10,t11,t12,encI]
     apply aj.dec<;>intro ha
     .have K:p[f+i]?=some (p.getD (f+i) 0):=by simp[Vp,show f+i < p.length by omega]
      generalize p.getD (f+i) 0=c at K z
      have g:∀ v:Bool,(bH (fG (p.length+1) (eF p T s now f (f+i)))).set (f+i+1) [gb v]=bH (fG (p.length+1) λj=>if j=f+i+1 then v else eF p T s now f (f+i) j):=λv=>by rw[gL,JW]
      have y:=r7 (l:=fG (p.length+1) (eF p T s now f (f+i))) (i:=f+i+1) (by rw[ki];omega)
      have Q:(c=s∨c = -1)->bH (fG (p.length+1) (eF p T s now f (f+(i+1))))=bH (fG (p.length+1) λj=>if j=f+i+1 then true else eF p T s now f (f+i) j):=λB=>by
       congr 1
       refine lh λj _=>?_
       rw[<-Ws,t,z]
       by_cases e:j=f+i+1
       .rw[Vu e,Wb (show f+i < p.length by omega),Wb e]
        rcases B with h | h <;> simp[h]
       .rw[Vs e,decide_eq_false e];simp
      have ar:¬ (c=s∨c = -1)->bH (fG (p.length+1) (eF p T s now f (f+(i+1))))=bH (fG (p.length+1) (eF p T s now f (f+i))):=λB=>by
       congr 1
       refine lh λj _=>?_
       rw[<-Ws,t,z,show (c == s || c == -1)=false by simp;omega];simp
      have R:((f+i:Nat):Int)+1=((f+i+1:Nat):Int):=by omega
      have ga:∀ {C:Env} {H2:View},C 9=.sl b 0 (p.length+1) 1->C 11=.sl d 0 (p.length+1) 1->C 0=encI l->C 1=encI p->C 2=my T->C 3=gi f->C 10=gi q->C 12=gi (((f+i:Nat):Int)+1)->H2 b=.arr 1 (bH now)->H2 d=.arr 1 (bH (fG (p.length+1) (eF p T s now f (f+(i+1))))) ->
        ∃ k',k' < m/\CO (p.length+1 - f) k' (λi a H'=>H' b=.arr 1 (bH now)/\H' d=.arr 1 (bH (fG (p.length+1) (eF p T s now f (f+i))))/\a 9=.sl b 0 (p.length+1) 1/\a 11=.sl d 0 (p.length+1) 1/\a 0=encI l/\a 1=encI p/\a 2=my T/\a 3=gi f/\a 10=gi q/\a 12=gi ((f+i:Nat):Int)) C H2:=λa9 a6 a0 a1 a2 a3 a7 a12 ab ad=>aE hm (by omega) ⟨ab,ad,a9,a6,a0,a1,a2,a3,a7,by rw[a12];rfl⟩
      simp(disch:=omega)only[↓wr,seval,wq,t0,t1,t2,t3,t9,t10,t11,t12,encI,Vt,O,K]
      apply aj.eq<;>intro B
      .simp(disch:=omega)only[↓wr,seval,wq,t0,t1,t2,t3,t9,t10,t11,t12,R,w]
       refine⟨by omega,by rw[ki];omega,?_⟩
       refine ga t9 t11 t0 t1 t2 t3 t10 rfl (by simp[View.set,A,o]) ?_
       simp only[View.set,if_true]
       rw[y,Q (.inl B),<-g true];rfl
      .simp(disch:=omega)only[↓wr,seval,wq,t0,t1,t2,t3,t9,t10,t11,t12,encI,Vt,O,K]
       apply aj.eq<;>intro S
       .simp(disch:=omega)only[↓wr,seval,wq,t0,t1,t2,t3,t9,t10,t11,t12,R,w]
        refine⟨by omega,by rw[ki];omega,?_⟩
        refine ga t9 t11 t0 t1 t2 t3 t10 rfl (by simp[View.set,A,o]) ?_
        simp only[View.set,if_true]
        rw[y,Q (.inr S),<-g true];rfl
       .simp(disch:=omega)only[↓wr,seval,wq,t0,t1,t2,t3,t9,t10,t11,t12]
        exact ga t9 t11 t0 t1 t2 t3 t10 rfl o (by rw[ar (by omega)];exact w)
     .simp(disch:=omega)only[↓wr,seval,wq,t0,t1,t2,t3,t9,t10,t11,t12]
      refine aE hm (by omega) ⟨o,?_,t9,t11,t0,t1,t2,t3,t10,rfl⟩
      rw[w,<-Ws]
      refine W4 (λl=>c7.arr 1 (bH l)) (lh λj _=>?_)
      rw[t,z,decide_eq_false (show ¬ f+i < p.length by omega)];simp
    .have bx : -1 - s < N:=Z (by omega)
     obtain⟨row,cell,U,L,b0,a8⟩:=hT.cell (n:=(-1 - s).toNat) (i:=f+i) (by omega) (by omega)
     have z:∀ j,jr p T s (f+i) j=(decide (f+i<=j) && cell.getD j false):=λj=>by
      rw[jr,Vs (show ¬ 0<=s from J),gJ,a8]
     simp(disch:=omega)only[↓wr,seval,wq,t0,t1,t2,t3,t9,t10,t11,t12]
     refine aR.up (p.length+1 - (f+i)) (λr a H'=>H' b=.arr 1 (bH now)/\H' d=.arr 1 (bH (fG (p.length+1) λj=>eF p T s now f (f+i) j || (decide (j < f+i+r) && jr p T s (f+i) j)))/\a 9=.sl b 0 (p.length+1) 1/\a 11=.sl d 0 (p.length+1) 1/\a 0=encI l/\a 1=encI p/\a 2=my T/\a 3=gi f/\a 10=gi q/\a 12=gi ((f+i:Nat):Int)/\a 13=gi ((f+i+r:Nat):Int)) ?_ ?_
     .refine⟨o,?_,t9,t11,t0,t1,t2,t3,t10,t12,rfl⟩
      rw[w]
      refine W4 (λl=>c7.arr 1 (bH l)) (lh λj _=>?_)
      rw[z]
      by_cases e:j < f+i
      .rw[decide_eq_false (show ¬ f+i<=j by omega)];simp
      .rw[decide_eq_false (show ¬ j < f+i+0 by omega)];simp
     clear w o t0 t1 t2 t3 t9 t10 t11 t12
     rintro r u a H hu ⟨o,w,t9,t11,t0,t1,t2,t3,t10,t12,t13⟩
     simp(disch:=omega)only[↓wr,seval,wq,nX,t0,t1,t2,t3,t9,t10,t11,t12,t13,encI]
     apply aj.dec<;>intro bd
     .have hF:∀ j,(eF p T s now f (f+i) j || (decide (j < f+i+(r+1)) && jr p T s (f+i) j))=if j=f+i+r then (eF p T s now f (f+i) j || jr p T s (f+i) j) else (eF p T s now f (f+i) j || (decide (j < f+i+r) && jr p T s (f+i) j)):=λj=>by
       by_cases e:j=f+i+r
       .rw[Vu e,Wb (show j < f+i+(r+1) by omega),Wd]
       .rw[Vs e]
        congr 2
        simp only[decide_eq_decide];omega
      have y:=r7 (l:=fG (p.length+1) λj=>eF p T s now f (f+i) j || (decide (j < f+i+r) && jr p T s (f+i) j)) (i:=f+i+r) (by rw[ki];omega)
      rw[HM (by omega),decide_eq_false (show ¬ f+i+r < f+i+r by omega),WG,Bool.or_false] at y
      have W:=z (f+i+r)
      rw[Wb (show f+i<=f+i+r by omega),Wd] at W
      have X:cell[f+i+r]?=some (cell.getD (f+i+r) false):=by simp[Vp,show f+i+r < cell.length by omega]
      have g:∀ v,v=(eF p T s now f (f+i) (f+i+r) || jr p T s (f+i) (f+i+r))->(bH (fG (p.length+1) λj=>eF p T s now f (f+i) j || (decide (j < f+i+r) && jr p T s (f+i) j))).set (f+i+r) [gb v]=bH (fG (p.length+1) λj=>eF p T s now f (f+i) j || (decide (j < f+i+(r+1)) && jr p T s (f+i) j)):=λv Y=>by
       rw[gL,JW]
       refine W4 bH (lh λj _=>?_)
       rw[hF]
       by_cases e:j=f+i+r
       .subst e;rw[Vu rfl,Vu rfl,Y]
       .rw[Vs e,Vs e]
      rw[W] at g
      generalize cell.getD (f+i+r) false=cv at X g
      generalize eF p T s now f (f+i) (f+i+r)=pv at y g
      simp(disch:=omega)only[↓wr,seval,wq,t0,t1,t2,t3,t9,t10,t11,t12,t13,w,y]
      refine⟨by omega,by rw[ki];omega,?_⟩
      apply aj.split<;>intro M
      .simp(disch:=omega)only[↓wr,seval,wq,t0,t1,t2,t3,t9,t10,t11,t12,t13,w]
       refine⟨by omega,by rw[ki];omega,aE hu (by omega) ⟨by simp[View.set,A,o],?_,t9,t11,t0,t1,t2,t3,t10,t12,rfl⟩⟩
       simp only[View.set,if_true]
       rw[y,<-g true (by rw[M];rfl)];rfl
      .simp(disch:=omega)only[↓wr,seval,wq,t0,t1,t2,t3,t9,t10,t11,t12,t13,encI,my,b5,Vt,O,U,L,X,w]
       refine⟨by omega,by rw[ki];omega,aE hu (by omega) ⟨by simp[View.set,A,o],?_,t9,t11,t0,t1,t2,t3,t10,t12,rfl⟩⟩
       simp only[View.set,if_true]
       rw[y,<-g cv (by rw[M];rfl)];rfl
     .simp(disch:=omega)only[↓wr,seval,wq,t0,t1,t2,t3,t9,t10,t11,t12,t13]
      have hr:f+i+r=p.length+1:=by omega
      refine aE hm (by omega) ⟨o,?_,t9,t11,t0,t1,t2,t3,t10,rfl⟩
      rw[w,<-Ws]
      refine W4 (λl=>c7.arr 1 (bH l)) (lh λj hj=>?_)
      rw[t,hr,Wb hj,Wd]
   .subst I
    simp only[WG,Bool.or_false] at t
    simp(disch:=omega)only[↓wr,seval,wq,t0,t1,t2,t3,t9,t10,t11,t12]
    refine aE hm (by omega) ⟨o,?_,t9,t11,t0,t1,t2,t3,t10,by rfl⟩
    rw[w,<-Ws]
    exact W4 (λl=>c7.arr 1 (bH l)) (lh λj _=>(t j).symm)
  .have hi:f+i=p.length+1:=by omega
   rw[hi] at w
   simp(disch:=omega)only[↓wr,seval,wq,t0,t1,t2,t3,t9,t10,t11,t12]
   refine aE hk (by omega) ⟨d,rfl,?_,t0,t1,t2,t3,rfl⟩
   rw[G];exact w
 .have e:q=l.length:=by omega
  subst e
  rw[List.take_length] at o P
  simp(disch:=omega)only[↓wr,seval,wq,t0,t1,t2,t3,t9,t10]
  intro h' hh
  have:=rv (h:=h') (id:=b) (is:=kF p T l f) (by rw[hh];exact o)
  rwa [Ey] at this
def Cb (T:Tb) (n i j:Nat):Prop:=i<=j/\gJ T n i j=true
theorem EK {p:List Int} {T:Tb} {s:Int} {a j:Nat} : jr p T s a j=true↔stepT p (Cb T) s a j:=by
 unfold jr stepT
 split
 .simp only[VD,VH,Xb,Wn]
  constructor
  .rintro⟨⟨h1,b⟩,d⟩
   exact⟨⟨p.getD a 0,by simp[Vp,h1],b⟩,d⟩
  .rintro⟨⟨c,e,b⟩,d⟩
   have h1:=(VC.1 e).1
   have:p.getD a 0=c:=by simp[Vp,e]
   exact⟨⟨h1,by rw[this];exact b⟩,d⟩
 .simp only[VD,VH];rfl
theorem GJ {T:Tb} : ∀ n i j,Cb T n i j->i<=j:=λ_ _ _ h=>h.1
theorem FQ {p:List Int} {T:Tb} {f:Nat} (i:f<=p.length):∀ (l pre:List Int) (now:List Bool),(∀ j,j<=p.length->(now.getD j false=true↔In p (Cb T) pre f j)) ->
  ∀ j,j<=p.length->((l.foldl (mI p T f) now).getD j false=true↔In p (Cb T) (pre ++ l) f j)
 | [],pre,now,h,j,b=>by rw[WW];exact h j b
 | s :: l,pre,now,h,j,b=>by
  have k:∀ j,j<=p.length->((mI p T f now s).getD j false=true↔In p (Cb T) (pre ++ [s]) f j):=λj b=>by
   rw[mI,HM (by omega),In.snoc]
   simp only[eF,W5,Wy,VD,VH]
   constructor
   .rintro⟨a,g,⟨_,c⟩,d⟩
    exact⟨a,(h a (by omega)).1 c,EK.1 d⟩
   .rintro⟨a,c,d⟩
    have hle:=c.le GJ
    have g:a<=p.length:=by
     have e:=d
     unfold stepT at e
     split at e
     .omega
     .have:=e.1;omega
    exact⟨a,by omega,⟨hle,(h a g).2 c⟩,EK.2 d⟩
  have:=FQ i l (pre ++ [s]) (mI p T f now s) k j b
  rwa [We] at this
theorem G6 {p:List Int} {T:Tb} {l:List Int} {f:Nat} (b:f<=p.length) {j:Nat} (a:j<=p.length):(kF p T l f).getD j false=true↔In p (Cb T) l f j:=by
 have:=FQ (T:=T) b l [] (fG (p.length+1) λj=>decide (j=f)) (λj a=>by
  rw[HM (by omega),VH]
  constructor
  .rintro rfl;exact .nil _
  .intro h;cases h;rfl) j a
 exact this
open Classical in
noncomputable def zZ (g:ai) (p:List Int):Tb:=(List.range g.ak.length).map λ(n:Nat)=>(List.range (p.length+1)).map λ(i:Nat)=>(List.range (p.length+1)).map λ(j:Nat)=>decide (Sp g p [-1 - (n:Int)] i j)
theorem MX (g:ai) (p:List Int):jH (zZ g p) g.ak.length (p.length+1):=by
 refine⟨by simp[zZ],λr hr=>?_⟩
 simp only[zZ,VO] at hr
 obtain⟨n,_,rfl⟩:=hr
 refine⟨by simp,λc a=>?_⟩
 simp only[VO] at a
 obtain⟨i,_,rfl⟩:=a
 simp
theorem Oz {g:ai} {p:List Int} {n i j:Nat} (a:n < g.ak.length) (hi:i<=p.length) (b:j<=p.length):gJ (zZ g p) n i j=true↔Sp g p [-1 - (n:Int)] i j:=by
 simp[gJ,zZ,Vp,a,show i < p.length+1 by omega,show j < p.length+1 by omega]
theorem S7 {S T:Tb} {N M:Nat} (a:jH S N M) (b:jH T N M) (h:∀ n i j,n < N->i < M->j < M->gJ S n i j=gJ T n i j):S=T:=by
 apply Wp (by rw[a.1,b.1])
 intro n h1 c
 have f:n < N:=by rw[<-a.1];exact h1
 have g:=(a.2 _ (Vw h1)).1
 have a2:=(b.2 _ (Vw c)).1
 apply Wp (by rw[g,a2])
 intro i d e
 have hi:i < M:=by omega
 have k:=(a.2 _ (Vw h1)).2 _ (Vw d)
 have l:=(b.2 _ (Vw c)).2 _ (Vw e)
 apply Wp (by rw[k,l])
 intro j m o
 have:=h n i j f hi (by omega)
 simpa [gJ,Vp,h1,c,d,e,m,o] using this
theorem TE {g:ai} {p:List Int} {T:Tb} (c:∀ r∈g.rules,0<=r.left) (m:∀ r∈g.rules,r.left < g.ak.length) (d:jH T g.ak.length (p.length+1)) (b:∀ n i j,Cb T n i j->Sp g p [-1 - (n:Int)] i j)
  (e:∀ n i j,gJ T n i j=true->i<=j) (f:∀ R∈g.rules,∀ i j,i<=j->j<=p.length->(kF p T R.right i).getD j false=true->gJ T R.left.toNat i j=true):T=zZ g p:=by
 refine S7 d (MX g p) λn i j k hi o=>?_
 rw[Wv,Oz k (by omega) (by omega)]
 have a:∀ R∈g.rules,∀ i j,i<=p.length->In p (Cb T) R.right i j->Cb T R.left.toNat i j:=λR l i j hi h=>by
  have hle:=h.le GJ
  have hlen:=(Rk b h).len hi
  exact⟨hle,f R l i j hle hlen ((G6 hi hlen).2 h)⟩
 rw[<-Ps c b a (by omega)]
 exact⟨λh=>⟨e n i j h,h⟩,λh=>h.2⟩
structure oT (H:View) (I N M:Nat) (R:Nat->Nat) (C:Nat->Nat->Nat) (T:Tb):Prop where
 top:H I=.arr 1 ((List.range N).map λn=>[.sl (R n) 0 M 1])
 row:∀ n,n < N->H (R n)=.arr 1 ((List.range M).map λi=>[.sl (C n i) 0 M 1])
 cell:∀ n i,n < N->i < M->H (C n i)=.arr 1 (bH ((T.getD n []).getD i []))
 inj:∀ n i n' i',n < N->i < M->n' < N->i' < M->C n i=C n' i'->n=n'/\i=i'
theorem Gp {c:List Bool} {k:Nat} {F:Nat->List V} (a:0 < c.length) (h:bH c=(List.range k).map F) (b:∀ n x,F n≠[gb x]):False:=by
 cases c with
 | nil=>simp at a
 | cons x c =>
  cases k with
  | zero=>simp at h
  | succ k =>
   rw[List.range_succ_eq_map] at h
   simp only[VX,List.cons.injEq] at h
   exact b 0 x h.1.symm
theorem oT.keep {H H':View} {I N M:Nat} {R:Nat->Nat} {C:Nat->Nat->Nat} {T:Tb} (h:oT H I N M R C T) (hk:∀ id,H id≠.dead->H' id=H id):oT H' I N M R C T :=
 ⟨by rw[hk _ (by rw[h.top];simp)];exact h.top,λn a=>by rw[hk _ (by rw[h.row n a];simp)];exact h.row n a,λn i a hi=>by rw[hk _ (by rw[h.cell n i a hi];simp)];exact h.cell n i a hi,h.inj⟩
theorem oT.put {H:View} {I N M:Nat} {R:Nat->Nat} {C:Nat->Nat->Nat} {T:Tb} (h:oT H I N M R C T) (g:jH T N M) {n i j:Nat} (d:n < N) (hi:i < M) (v:j < M) :
  oT (H.set (C n i) (.arr 1 (bH (((T.getD n []).getD i []).set j true)))) I N M R C (og T n i j):=by
 obtain⟨r,c,hr,w,o,p⟩:=g.cell d hi
 have a:=h.cell n i d hi
 rw[p] at a
 have s:I≠C n i:=λe=>by
  have:=h.top
  rw[e,a] at this
  simp only[c7.arr.injEq,true_and] at this
  exact Gp (by omega) this λ_ _=>by simp
 have t:∀ m,m < N->R m≠C n i:=λm hm e=>by
  have:=h.row m hm
  rw[e,a] at this
  simp only[c7.arr.injEq,true_and] at this
  exact Gp (by omega) this λ_ _=>by simp
 refine⟨by simp only[View.set,Vs s];exact h.top,λm hm=>by simp only[View.set,Vs (t m hm)];exact h.row m hm,λm q hm k=>?_,h.inj⟩
 obtain⟨x,b,l,u⟩:=g.row d
 rw[hr] at b;simp at b;subst b
 have f:n < T.length:=by rw[g.1];exact d
 by_cases e:C m q=C n i
 .obtain⟨rfl,rfl⟩:=h.inj m q n i hm k d hi e
  simp only[View.set,if_true]
  congr 2
  rw[og]
  simp[Vp,f]
  rw[V9]
  have:q < T[m].length:=by
   have:=(VC.1 hr).2
   rw[this,l];exact k
  simp[this]
 .simp only[View.set,Vs e]
  rw[h.cell m q hm k]
  congr 2
  rw[og]
  by_cases em:n=m
  .subst em
   have eq:i≠q:=λe'=>e (by rw[e'])
   simp[Vp,f,V9,eq]
  .simp[Vp,V9,em]
theorem oT.Uj {h:aD} {I N M:Nat} {R:Nat->Nat} {C:Nat->Nat->Nat} {T:Tb} (f:oT h.view I N M R C T) (e:jH T N M):dB h (.sl I 0 N 1) (my T):=by
 refine .sl I 0 N 1 1 _ _ f.top (by simp) (by simp[e.1]) (λn b=>?_) (λn j b m=>?_)
 .obtain⟨r,hr,_⟩:=e.row b
  simp[Vp,hr,b]
 .obtain⟨r,hr,g,k⟩:=e.row b
  have p:((T.map λr=>[V.aW (r.map λc=>[b5 c])]).getD n [])=[V.aW (r.map λc=>[b5 c])]:=by simp[Vp,hr]
  have s:(((List.range N).map λn=>[V.sl (R n) 0 M 1]).getD (0+n) [])=[V.sl (R n) 0 M 1]:=by simp[Vp,b]
  rw[p] at m ⊢
  rw[s]
  have:j=0:=by simp at m;omega
  subst this
  simp only[Wm]
  refine .sl (R n) 0 M 1 1 _ _ (f.row n b) (by simp) (by simp[g]) (λi hi=>?_) (λi q hi o=>?_)
  .simp[Vp,hi,show i < r.length by omega]
  .have d:i < r.length:=by omega
   have f1:((r.map λc=>[b5 c]).getD i [])=[b5 r[i]]:=by simp[Vp,d]
   have f2:(((List.range M).map λi=>[V.sl (C n i) 0 M 1]).getD (0+i) [])=[V.sl (C n i) 0 M 1]:=by simp[Vp,hi]
   rw[f1] at o ⊢
   rw[f2]
   have:q=0:=by simp at o;omega
   subst this
   simp only[Wm]
   have a:=f.cell n i b hi
   have t:(T.getD n []).getD i []=r[i]:=by rw[k];simp[Vp,d]
   rw[t] at a
   have l:=(e.2 r (VF hr)).2 _ (Vw d)
   have:=rv (h:=h) (id:=C n i) (is:=r[i]) a
   rwa [l] at this
theorem dB.PJ {h:aD} {v t:V} (f:dB h v t):Fr h v t:=by
 induction f with
 | val v=>exact .tree _ (.val v)
 | emp k=>exact .emp k
 | sl id off len esz z es es' hH hle hlen b _ c=>exact .sl id off len esz z es es' hH hle hlen b c
 | agg cs a b _ c=>exact .agg cs a b c
 | aY cs a b _ c=>exact .aY cs a b c
theorem oT.lY {H:View} {I N M:Nat} {R:Nat->Nat} {C:Nat->Nat->Nat} {T:Tb} (a:oT H I N M R C T) (b:jH T N M):cn H (.sl I 0 N 1) (my T):=by
 rintro h rfl
 exact(a.Uj b).PJ
structure Rp (H:View) (I N M k:Nat) (R:Nat->Nat) (C:Nat->Nat->Nat):Prop where
 top:H I=.arr 1 ((List.range N).map λn=>[if n < k then .sl (R n) 0 M 1 else .emp 1])
 row:∀ n,n < k->H (R n)=.arr 1 ((List.range M).map λi=>[.sl (C n i) 0 M 1])
 cell:∀ n i,n < k->i < M->H (C n i)=.arr 1 (List.replicate M [gb false])
 inj:∀ n i n' i',n < k->i < M->n' < k->i' < M->C n i=C n' i'->n=n'/\i=i'
 ne:∀ n,n < k->I≠R n
structure Ds (H:View) (I N M k:Nat) (R:Nat->Nat) (C:Nat->Nat->Nat) (r i:Nat) (D:Nat->Nat):Prop where
 top:H I=.arr 1 ((List.range N).map λn=>[if n < k then .sl (R n) 0 M 1 else if n=k then .sl r 0 M 1 else .emp 1])
 row:∀ n,n < k->H (R n)=.arr 1 ((List.range M).map λi=>[.sl (C n i) 0 M 1])
 cell:∀ n i,n < k->i < M->H (C n i)=.arr 1 (List.replicate M [gb false])
 inj:∀ n i n' i',n < k->i < M->n' < k->i' < M->C n i=C n' i'->n=n'/\i=i'
 ne:∀ n,n < k->I≠R n
 P1:H r=.arr 1 ((List.range M).map λj=>[if j < i then .sl (D j) 0 M 1 else .emp 1])
 FH:∀ j,j < i->H (D j)=.arr 1 (List.replicate M [gb false])
 Th:∀ j j',j < i->j' < i->D j=D j'->j=j'
 EI:I≠r/\(∀ n,n < k->R n≠r)/\∀ n q j,n < k->q < M->j < i->C n q≠D j
theorem Kj {M i:Nat} {F:Nat->List V} {v:List V} : ((List.range M).map F).set i v=(List.range M).map λj=>if j=i then v else F j:=by
 apply Wp (by simp)
 intro j h1 a
 simp only[List.getElem_set,Xg,Xv]
 by_cases e:i=j
 .subst e;simp
 .rw[Vs e,Vs (Ne.symm e)]
theorem s9 {M i:Nat} {F:Nat->List V} (h:i < M):((List.range M).map F).getD i []=F i:=by simp[Vp,h]
theorem Rp.done {H:View} {I N M:Nat} {R:Nat->Nat} {C:Nat->Nat->Nat} (h:Rp H I N M N R C):oT H I N M R C (ye N M):=by
 refine⟨?_,h.row,λn i a hi=>?_,h.inj⟩
 .rw[h.top]
  congr 1
  apply Wz
  intro n a
  rw[Vu (by simpa using a)]
 .rw[h.cell n i a hi]
  simp[ye,Vp,a,hi]
theorem Ds.Q5 {H:View} {I N M k:Nat} {R:Nat->Nat} {C:Nat->Nat->Nat} {r:Nat} {D:Nat->Nat} (h:Ds H I N M k R C r M D):Rp H I N M (k+1) (λn=>if n=k then r else R n) (λn=>if n=k then D else C n):=by
 refine⟨?_,λn g=>?_,λn i g hi=>?_,λn i d f g hi j a e=>?_,λn g=>?_⟩
 .rw[h.top]
  congr 1
  apply Wz
  intro n _
  by_cases c:n < k
  .rw[Vu c,Vu (by omega),Vs (by omega)]
  .by_cases b:n=k
   .rw[Vs c,Vu b,Vu (by omega),Vu b]
   .rw[Vs c,Vs b,Vs (by omega)]
 .by_cases e:n=k
  .simp only[Vu e]
   rw[h.P1]
   congr 1
   apply Wz
   intro i hi
   rw[Vu (by simpa using hi)]
  .simp only[Vs e];exact h.row n (by omega)
 .by_cases e:n=k
  .simp only[Vu e];exact h.FH i hi
  .simp only[Vs e];exact h.cell n i (by omega) hi
 .by_cases c:n=k
  .by_cases b:d=k
   .simp only[Vu c,Vu b] at e
    exact⟨by omega,h.Th i f hi a e⟩
   .simp only[Vu c,Vs b] at e
    exact absurd e.symm (h.EI.2.2 d f i (by omega) a hi)
  .by_cases b:d=k
   .simp only[Vs c,Vu b] at e
    exact absurd e (h.EI.2.2 n i f (by omega) hi a)
   .simp only[Vs c,Vs b] at e
    exact h.inj n i d f (by omega) hi (by omega) a e
 .by_cases e:n=k
  .simp only[Vu e];exact h.EI.1
  .simp only[Vs e];exact h.ne n (by omega)
theorem Ds.next {H H':View} {I N M k:Nat} {R:Nat->Nat} {C:Nat->Nat->Nat} {r i d:Nat} {D:Nat->Nat} (h:Ds H I N M k R C r i D) (x:0 < N) (u:0 < M) (v:H d=.dead)
  (o:H' r=.arr 1 (((List.range M).map λj=>[if j < i then V.sl (D j) 0 M 1 else .emp 1]).set i [.sl d 0 M 1])) (p:H' d=.arr 1 (List.replicate M [gb false])) (g:∀ id,H id≠.dead->id≠r->H' id=H id) :
  Ds H' I N M k R C r (i+1) (λj=>if j=i then d else D j):=by
 have live:∀ id,H id≠.dead->id≠d:=λid a e=>by subst e;exact a v
 have b:∀ id,H id=.arr 1 (List.replicate M [gb false])->id≠r:=λid a e=>by
  rw[e,h.P1] at a
  simp only[c7.arr.injEq,true_and] at a
  have:=W4 (·[0]?) a
  simp[u] at this
  split at this <;> simp at this
 refine⟨?_,λn c=>?_,λn q c l=>?_,h.inj,h.ne,?_,λj t=>?_,λj m t w e=>?_,⟨h.EI.1,h.EI.2.1,λn q j c l t=>?_⟩⟩
 .rw[g I (by rw[h.top];simp) h.EI.1];exact h.top
 .rw[g _ (by rw[h.row n c];simp) (h.EI.2.1 n c)];exact h.row n c
 .have:=h.cell n q c l
  rw[g _ (by rw[this];simp) (b _ this)];exact this
 .rw[o,Kj]
  congr 1
  apply Wz
  intro j _
  by_cases e:j=i
  .rw[Vu e,Vu (by omega),Vu e]
  .rw[Vs e]
   by_cases f:j < i
   .rw[Vu f,Vu (by omega),Vs e]
   .rw[Vs f,Vs (by omega)]
 .by_cases e:j=i
  .simp only[Vu e];exact p
  .simp only[Vs e]
   have:=h.FH j (by omega)
   rw[g _ (by rw[this];simp) (b _ this)];exact this
 .by_cases s:j=i
  .by_cases f:m=i
   .omega
   .simp only[Vu s,Vs f] at e
    exact absurd e.symm (live _ (by rw[h.FH m (by omega)];simp))
  .by_cases f:m=i
   .simp only[Vs s,Vu f] at e
    exact absurd e (live _ (by rw[h.FH j (by omega)];simp))
   .simp only[Vs s,Vs f] at e
    exact h.Th j m (by omega) (by omega) e
 .by_cases e:j=i
  .simp only[Vu e];exact live _ (by rw[h.cell n q c l];simp)
  .simp only[Vs e];exact h.EI.2.2 n q j c l (by omega)
theorem CT:∀ (l:List Nat) (i v:Nat) (h:i < l.length),(l.set i v).sum+l[i]=l.sum+v
 | x :: l,0,v,_=>by simp;omega
 | x :: l,i+1,v,h=>by
  have:=CT l i v (by simpa using h)
  simp;omega
theorem GH:∀ (l:List Nat) (b:Nat),(∀ x∈l,x<=b)->l.sum<=l.length * b
 | [],_,_=>by simp
 | x :: l,b,h=>by
  have h1:=GH l b λy a=>h y (by simp[a])
  have c:=h x (by simp)
  simp only[List.sum_cons,Vz,V5];omega
theorem DX:∀ (c:List Bool) (j:Nat),j < c.length->c.getD j false=false->cM (c.set j true)=cM c+1
 | x :: c,0,_,h=>by
  have:x=false:=by simpa using h
  subst this
  simp[cM]
 | x :: c,j+1,a,h=>by
  have:=DX c j (by simpa using a) (by simpa using h)
  unfold cM at this ⊢
  simp only[List.set_cons_succ,List.countP_cons,this];omega
def AR (r:List (List Bool)):Nat:=(r.map cM).sum
def pU (T:Tb):Nat:=(T.map AR).sum
theorem FY {T:Tb} {N M:Nat} (h:jH T N M):pU T<=N * (M * M):=by
 have:=GH (T.map AR) (M * M) (λx a=>by
  obtain⟨r,hr,rfl⟩:=VO.1 a
  have:=GH (r.map cM) M (λy b=>by
   obtain⟨c,d,rfl⟩:=VO.1 b
   rw[<-(h.2 r hr).2 c d];exact sH c)
  rw[Vx,(h.2 r hr).1] at this
  exact this)
 rw[Vx,h.1] at this
 exact this
theorem SA {T:Tb} {N M n i j:Nat} (h:jH T N M) (d:n < N) (hi:i < M) (t:j < M) (o:gJ T n i j=false):pU (og T n i j)=pU T+1:=by
 obtain⟨r,c,hr,p,q,m⟩:=h.cell d hi
 obtain⟨u,a,s,b⟩:=h.row d
 rw[hr] at a;simp at a;subst a
 have e:r.getD i []=c:=by rw[<-b];exact m
 have f:n < T.length:=by rw[h.1];exact d
 have g:i < r.length:=by omega
 have k:T[n]=r:=(VC.1 hr).2
 have l:r[i]=c:=(VC.1 p).2
 have h1:cM (c.set j true)=cM c+1:=DX c j (by omega) (by rw[<-m];exact o)
 have v:AR (r.set i (c.set j true))=AR r+1:=by
  have:=CT (r.map cM) i (cM (c.set j true)) (by simpa using g)
  unfold AR
  rw[Xm]
  simp only[Xg,l] at this
  omega
 have:=CT (T.map AR) n (AR (r.set i (c.set j true))) (by simpa using f)
 unfold pU og
 rw[b,e,Xm]
 simp only[Xg,k] at this
 omega
def qE:SC :=
 af [af [ae [aa 31 7,aa 32 1,aN 33 32,aS 34 .leq 31 33],bO 34 (.exit 2)],.block 3 (ae [aa 37 5,aa 38 6,aL 39 1 37 38,al 40 39,aa 41 7,aa 42 1,aN 43 42,aF 44 .add 43 1,((some 45),.op (.make 1 1 [(.val (.bool false))] (.tmp 44) (.tmp 44))),aL 46 1 40 41,cy 1 46 45]),ae [aa 35 7,aF 36 .add 35 1,aa 7 36]]
def qY:SC :=
 af [af [ae [aa 18 6,aa 19 5,aN 20 19,aS 21 .lss 18 20],bO 21 (.exit 0)],.block 1 (af [ae [aa 24 5,aa 25 6,aa 26 1,aN 27 26,aF 28 .add 27 1,((some 29),.op (.make 1 24 [(.emp 1)] (.tmp 28) (.tmp 28))),aL 30 1 24 25,cy 1 30 29],ae [aP 7 0],bR 2 qE]),ae [aa 22 6,aF 23 .add 22 1,aa 6 23]]
def qJ:SC :=
 af [af [ae [aa 73 13,aa 74 1,aN 75 74,aS 76 .leq 73 75],bO 76 (.exit 10)],.block 11 (af [.region false [⟨none,[aa 79 12,aa 80 13,aL 81 1 79 80,al 82 81,aa 83 82]⟩,⟨(some (83,true)),[aa 84 5,av 85 0 10,al 86 85,aL 87 1 84 86,al 88 87,aa 89 11,aL 90 1 88 89,al 91 90,aa 92 13,aL 93 1 91 92,al 94 93,c5 95 94]⟩,⟨none,[eV 96 83 95]⟩],aZ 96 (af [ae [aa 97 5,av 98 0 10,al 99 98,aL 100 1 97 99,al 101 100,aa 102 11,aL 103 1 101 102,al 104 103,aa 105 13,aL 106 1 104 105,(none,.op (.store 1 (.tmp 106) (.val (.val (.bool true)))))],ae [bm 8 true]])]),ae [aa 77 13,aF 78 .add 77 1,aa 13 78]]
def qw:SC :=
 af [af [ae [aa 60 11,aa 61 1,aN 62 61,aS 63 .leq 60 62],bO 63 (.exit 8)],.block 9 (af [ae [av 66 1 10,al 67 66,aa 68 1,aa 69 5,aa 70 11,bf 71 200 [67,68,69,70],aa 12 71],ae [aa 72 11,aa 13 72],bR 10 qJ]),ae [aa 64 11,aF 65 .add 64 1,aa 11 65]]
def qW:SC :=
 af [af [ae [aa 48 9,av 49 2 2,al 50 49,aN 51 50,aS 52 .lss 48 51],bO 52 (.exit 6)],.block 7 (af [ae [av 55 2 2,al 56 55,aa 57 9,aL 58 3 56 57,bb 59 3 58,((some 10),.op (.alloc [(.val (.int .i64 0)),(.emp 1),(.val (.int .i64 0))])),cy 3 10 59],ae [aP 11 0],bR 8 qw]),ae [aa 53 9,aF 54 .add 53 1,aa 9 54]]
def kZ:SC :=
 af [af [ae [aa 47 8],bO 47 (.exit 4)],.block 5 (af [ae [bm 8 false],ae [aP 9 0],bR 6 qW])]
def sw:SF:=⟨af [ae [cE 2 0,bT 4 1],ae [av 14 1 2,al 15 14,aN 16 15,((some 17),.op (.make 1 24 [(.emp 1)] (.tmp 16) (.tmp 16))),aa 5 17],af [ae [aP 6 0],bR 0 qY],ae [bm 8 true],bR 4 kZ,ae [aa 107 5,aa 4 107],.ret],
 [.tmp 4],108⟩
theorem xK:aM Tryz.prog 139 [2]=some sw:=by kernel_rfl
def PE (g:ai) (p:List Int) (I:Nat) (R:Nat->Nat) (C:Nat->Nat->Nat) (T0:Tb) (D:Prop) (T:Env) (H:View):Prop :=
 ∃ T1,oT H I g.ak.length (p.length+1) R C T1/\jH T1 g.ak.length (p.length+1)/\(∀ n i j,gJ T1 n i j=true->i<=j/\Sp g p [-1 - (n:Int)] i j) /\
  ((T 8=gb false/\T1=T0/\D)∨(T 8=gb true/\pU T0 < pU T1))/\T 1=encI p/\T 2=.aJ (ag g) 0/\T 5=.sl I 0 g.ak.length 1
def kf (p:List Int) (T0:Tb) (r:ba) (f:Nat):Prop:=∀ j,f<=j->j<=p.length->(kF p T0 r.right f).getD j false=true->gJ T0 r.left.toNat f j=true
theorem Ug (g:ai) (hg:g.Ok) (hf:g.cU) (p:List Int) (hp:p.length<=1000):ca Tryz.prog 139 [.agg (ag g),encI p] (my (zZ g p)):=by
 have z1:=hf.kC
 have z2:=hf.ak
 have z3:=hf.rules
 refine ca.of (by
  intro v hv;simp at hv
  rcases hv with rfl | rfl
  .exact bW _ (cw g)
  .exact bI p) ?_
 refine aw.of mixed xK ?_
 have hM:((p.length:Int)+1).toNat=p.length+1:=by omega
 simp(disch:=omega)only[↓wr,seval,wq,sw,ag,encS]
 refine⟨⟨by omega,by unfold aC;omega,by unfold aC;omega⟩,λh=>by omega,?_⟩
 intro _ I
 try simp(disch:=omega)only[↓wr,seval,wq,ag,encS]
 refine aR.up g.ak.length (λk t H'=>(∃ R C,Rp H' I g.ak.length (p.length+1) k R C)/\t 1=encI p/\t 2=.aJ (ag g) 0/\t 5=.sl I 0 g.ak.length 1/\t 6=gi k) ?_ ?_
 .refine⟨⟨λ_=>0,λ_ _=>0,⟨?_,λn K=>by omega,λn i K=>by omega,λn i n' i' K=>by omega,λn K=>by omega⟩⟩,rfl,rfl,rfl,rfl⟩
  simp[View.set]
  apply Wp (by simp)
  intro n h1 h2
  simp
 rintro k m t H hk ⟨⟨R,C,G⟩,t1,t2,t5,t6⟩
 simp(disch:=omega)only[↓wr,seval,wq,qY,t1,t2,t5,t6]
 apply aj.dec<;>intro hc
 .have P:=G.top
  simp(disch:=omega)only[↓wr,seval,wq,t1,t2,t5,t6,encI,P]
  refine⟨⟨by omega,by unfold aC;omega,by unfold aC;omega⟩,λh=>by omega,?_⟩
  intro _ r hr
  have Z:I≠r:=by rintro rfl;rw[P] at hr;simp at hr
  try simp(disch:=omega)only[↓wr,seval,wq,t1,t2,t5,t6,encI,P,hM,Z]
  refine⟨by omega,by simp;omega,?_⟩
  try simp(disch:=omega)only[↓wr,seval,wq,t1,t2,t5,t6,encI,P,hM,Z]
  refine aR.up (p.length+1) (λi t H'=>(∃ D,Ds H' I g.ak.length (p.length+1) k R C r i D)/\t 1=encI p/\t 2=.aJ (ag g) 0/\t 5=.sl I 0 g.ak.length 1/\t 6=gi k/\t 7=gi i) ?_ ?_
  .refine⟨⟨λ_=>0,?_⟩,t1,t2,t5,t6,rfl⟩
   have old:∀ id,H id≠.dead->id≠I->∀ o1 o2,((H.set r o1).set I o2) id=H id:=λid T hI o1 o2=>by
    have:id≠r:=by rintro rfl;exact T hr
    simp[View.set,hI,this]
   have cj:∀ n,n < k->R n≠r:=λn K e=>by have:=G.row n K;rw[e,hr] at this;simp at this
   have cI:∀ n i,n < k->i < p.length+1->C n i≠I:=λn i K hi e=>by
    have h1:=G.cell n i K hi
    rw[e,P] at h1
    simp only[c7.arr.injEq,true_and] at h1
    have:=W4 (·[0]?) h1
    simp[show 0 < g.ak.length by omega] at this
    split at this <;> simp at this
   refine⟨?_,λn K=>?_,λn i K hi=>?_,G.inj,G.ne,?_,λj hj=>by omega,λj j' hj=>by omega,⟨Z,cj,λn q j _ _ hj=>by omega⟩⟩
   .simp only[View.set,if_true]
    rw[s9 (by omega)]
    simp only[Xs,List.drop_nil,Ww]
    rw[Kj]
    congr 1
    apply Wz
    intro n _
    by_cases e1:n=k
    .rw[Vu e1,Vs (by omega),Vu e1]
    .rw[Vs e1]
     by_cases e2:n < k
     .rw[Vu e2,Vu e2]
     .rw[Vs e2,Vs e2,Vs e1]
   .rw[old _ (by rw[G.row n K];simp) (G.ne n K).symm];exact G.row n K
   .rw[old _ (by rw[G.cell n i K hi];simp) (cI n i K hi)];exact G.cell n i K hi
   .simp only[View.set,Vs Z.symm,if_true]
    congr 1
    apply Wp (by simp)
    intro n h1 h2
    simp
  clear P hr G t1 t2 t5 t6
  rintro i q t H hq ⟨⟨D,G⟩,t1,t2,t5,t6,t7⟩
  simp(disch:=omega)only[↓wr,seval,wq,qE,t1,t2,t5,t6,t7,encI]
  apply aj.dec<;>intro bd
  .have P:=G.top
   have O:=s9 (F:=λn=>[if n < k then V.sl (R n) 0 (p.length+1) 1 else if n=k then .sl r 0 (p.length+1) 1 else .emp 1]) (show k < g.ak.length by omega)
   simp only[Vs (show ¬ k < k by omega),if_true] at O
   have b0:=G.P1
   simp(disch:=omega)only[↓wr,seval,wq,t1,t2,t5,t6,t7,encI,P,O]
   refine⟨by omega,by simp;omega,⟨by omega,by unfold aC;omega,by unfold aC;omega⟩,λh=>by omega,?_⟩
   intro _ d hd
   have b1:r≠d:=by rintro rfl;rw[b0] at hd;simp at hd
   try simp(disch:=omega)only[↓wr,seval,wq,t1,t2,t5,t6,t7,hM,b0,b1]
   refine⟨by omega,by simp;omega,aE hq (by omega) ⟨⟨_,G.next (d:=d) (by omega) (by omega) hd ?_ ?_ ?_⟩,t1,t2,t5,t6,rfl⟩⟩
   .simp only[View.set,if_true]
    rw[s9 (by omega)];rfl
   .simp only[View.set,Vs b1.symm,if_true];rfl
   .intro id T b2
    have:id≠d:=by rintro rfl;exact T hd
    simp[View.set,b2,this]
  .simp(disch:=omega)only[↓wr,seval,wq,t1,t2,t5,t6,t7]
   have ck:i=p.length+1:=by omega
   subst ck
   exact aE hk (by omega) ⟨⟨_,_,G.Q5⟩,t1,t2,t5,rfl⟩
 .simp(disch:=omega)only[↓wr,seval,wq,t1,t2,t5,t6]
  have cu:k=g.ak.length:=by omega
  subst cu
  have B:=G.done
  refine aR.intro (λk t H'=>∃ z,oT H' I g.ak.length (p.length+1) R C z/\jH z g.ak.length (p.length+1)/\(∀ n i j,gJ z n i j=true->i<=j/\Sp g p [-1 - (n:Int)] i j) /\
   ((t 8=gb true/\k+pU z=g.ak.length * ((p.length+1) * (p.length+1))+1)∨(t 8=gb false/\∀ r∈g.rules,∀ f,f<=p.length->kf p z r f))/\t 1=encI p/\t 2=.aJ (ag g) 0/\t 5=.sl I 0 g.ak.length 1) (g.ak.length * ((p.length+1) * (p.length+1))+1 - pU (ye g.ak.length (p.length+1))) ?_ ?_
  .have:=FY (JE g.ak.length (p.length+1))
   exact⟨_,B,JE _ _,λn i j h=>by rw[Ss] at h;simp at h,.inl ⟨rfl,by omega⟩,t1,t2,t5⟩
  clear G B t1 t2 t5 t6
  rintro k t H ⟨z,B,U,ab,Q,t1,t2,t5⟩
  rcases Q with ⟨t8,dm⟩ | ⟨t8,b7⟩
  .simp(disch:=omega)only[↓wr,seval,wq,kZ,t1,t2,t5,t8]
   refine aR.up g.rules.length (λi t H'=>PE g p I R C z (∀ q r,q < i->g.rules[q]?=some r->∀ f,f<=p.length->kf p z r f) t H'/\t 9=gi i) ⟨⟨z,B,U,ab,.inl ⟨rfl,rfl,λq r hq=>by omega⟩,t1,t2,t5⟩,rfl⟩ ?_
   clear B t1 t2 t5 t8
   rintro i m t H hm ⟨⟨A,B,o,y,Q,t1,t2,t5⟩,t9⟩
   simp(disch:=omega)only[↓wr,seval,wq,qW,t1,t2,t5,t9,ag]
   apply aj.dec<;>intro bd
   .have bl:g.rules[i]?=some (g.rules[i]'(by omega)):=Vq (by omega)
    have L:g.rules[i]'(by omega)∈g.rules:=Vw _
    generalize g.rules[i]'(by omega)=r at bl L
    simp(disch:=omega)only[↓wr,seval,wq,t1,t2,t5,t9,ag,aK,encI,Vt,bl]
    intro b M
    try simp(disch:=omega)only[↓wr,seval,wq,t1,t2,t5,t9]
    have hl:=hf.left r L
    have b8:=hg.az r L
    refine aR.up (p.length+1) (λf t H'=>PE g p I R C z ((∀ q r,q < i->g.rules[q]?=some r->∀ f,f<=p.length->kf p z r f)/\∀ J,J < f->kf p z r J) t H'/\t 9=gi i/\t 10=.ptr b 0 0/\H' b=.arr 3 [aK r]/\t 11=gi f) ?_ ?_
    .refine⟨⟨A,B.keep λid T=>?_,o,y,?_,t1,t2,t5⟩,t9,rfl,by simp[View.set,aK,encI],rfl⟩
     .have:id≠b:=by rintro rfl;exact T M
      simp[View.set,this]
     .rcases Q with ⟨a,b,c⟩ | h
      .exact .inl ⟨a,b,c,λJ W=>by omega⟩
      .exact .inr h
    clear B Q t1 t2 t5 t9 M o y
    rintro f u t H hu ⟨⟨A,B,o,y,Q,t1,t2,t5⟩,t9,t10,M,t11⟩
    simp(disch:=omega)only[↓wr,seval,wq,qw,t1,t2,t5,t9,t10,t11,encI]
    apply aj.dec<;>intro cv
    .simp(disch:=omega)only[↓wr,seval,wq,t1,t2,t5,t9,t10,t11,M,aK,encI]
     have cA:=RZ r.right p A f g.ak.length b8.2.2.1 hp o (by omega) (λx hx=>⟨b8.2.2.2 x hx,λK=>hf.neg L hx K⟩)
     refine ax.mK cA (by kernel_rfl) ⟨cn.tree (bI r.right),cn.tree (bI p),B.lY o,cn.tree (.val _),trivial⟩ ?_
     have cC:=Ey p A r.right f
     have b9:∀ j,j<=p.length->(kF p A r.right f).getD j false=true->f<=j/\Sp g p r.right f j:=λj hj he=>by
      have h1:=(G6 (show f<=p.length by omega) hj).1 he
      exact⟨h1.le GJ,Rk (λn i j h=>(y n i j h.2).2) h1⟩
     have cc:A=z->kF p A r.right f=kF p z r.right f:=λe=>by rw[e]
     have bn:(t 8=gb false/\A=z/\((∀ q r,q < i->g.rules[q]?=some r->∀ f,f<=p.length->kf p z r f)/\∀ J,J < f->kf p z r J)/\kF p A r.right f=kF p z r.right f)∨(t 8=gb true/\pU z < pU A):=by
      rcases Q with ⟨a,b,c⟩ | h
      .exact .inl ⟨a,b,c,cc b⟩
      .exact .inr h
     clear Q cc
     generalize kF p A r.right f=E at cC b9 bn
     simp(disch:=omega)only[↓wr,seval,wq,t1,t2,t5,t9,t10,t11]
     refine aR.up (p.length+1 - f) (λs t H'=>PE g p I R C z (((∀ q r,q < i->g.rules[q]?=some r->∀ f,f<=p.length->kf p z r f)/\∀ J,J < f->kf p z r J)/\E=kF p z r.right f/\∀ j,f<=j->j < f+s->E.getD j false=true->gJ z r.left.toNat f j=true) t H'/\t 9=gi i/\t 10=.ptr b 0 0/\H' b=.arr 3 [aK r]/\t 11=gi f/\t 12=b5 E/\t 13=gi ((f+s:Nat):Int)) ?_ ?_
     .refine⟨⟨A,B,o,y,?_,t1,t2,t5⟩,t9,t10,M,t11,rfl,rfl⟩
      rcases bn with ⟨a,b,c,d⟩ | h
      .exact .inl ⟨a,b,c,d,λj h1 h2=>by omega⟩
      .exact .inr h
     clear B bn t1 t2 t5 t9 t10 t11 M o y
     rintro s w t H hw ⟨⟨A,B,o,y,Q,t1,t2,t5⟩,t9,t10,M,t11,t12,t13⟩
     simp(disch:=omega)only[↓wr,seval,wq,qJ,t1,t2,t5,t9,t10,t11,t12,t13,encI]
     apply aj.dec<;>intro cN
     .have cS:E[f+s]?=some (E.getD (f+s) false):=by simp[Vp,show f+s < E.length by omega]
      have a6:=b9 (f+s) (by omega)
      simp(disch:=omega)only[↓wr,seval,wq,t1,t2,t5,t9,t10,t11,t12,t13,b5,Vt,cS]
      generalize a7:E.getD (f+s) false=lv at a6
      have N:r.left.toNat < g.ak.length:=by omega
      have P:=B.top
      have O:=s9 (F:=λn=>[V.sl (R n) 0 (p.length+1) 1]) N
      have an:=B.row r.left.toNat N
      have aq:=s9 (F:=λi=>[V.sl (C r.left.toNat i) 0 (p.length+1) 1]) (show f < p.length+1 by omega)
      have S:=B.cell r.left.toNat f N (by omega)
      obtain⟨row,cell,ds,cV,b7,br⟩:=o.cell N (show f < p.length+1 by omega)
      rw[br] at S
      have ar:=r7 (l:=cell) (i:=f+s) (by omega)
      have cf:gJ A r.left.toNat f (f+s)=cell.getD (f+s) false:=by rw[gJ,br]
      have X:∀ (bs:Bool),(bs=true->gJ A r.left.toNat f (f+s)=true)->E.getD (f+s) false=bs->((t 8=gb false/\A=z/\((∀ q r,q < i->g.rules[q]?=some r->∀ f,f<=p.length->kf p z r f)/\∀ J,J < f->kf p z r J)/\E=kF p z r.right f/\∀ j,f<=j->j < f+(s+1)->E.getD j false=true->gJ z r.left.toNat f j=true)∨(t 8=gb true/\pU z < pU A)):=λbs Y ch=>by
       rcases Q with ⟨a,b,c,d,e⟩ | h
       .refine .inl ⟨a,b,c,d,λj h1 h2 h3=>?_⟩
        by_cases ej:j=f+s
        .subst ej
         rw[ch] at h3
         rw[<-b];exact Y h3
        .exact e j h1 (by omega) h3
       .exact .inr h
      apply aj.split<;>intro Y
      .subst Y
       obtain⟨_,c3⟩:=a6 rfl
       simp(disch:=omega)only[↓wr,seval,wq,t1,t2,t5,t9,t10,t11,t12,t13,M,aK,P,O,an,aq,S,ar]
       refine⟨by omega,by simp;omega,?_⟩
       try simp(disch:=omega)only[↓wr,seval,wq,t1,t2,t5,t9,t10,t11,t12,t13,M,aK,P,O,an,aq,S,ar]
       refine⟨by omega,by simp;omega,by omega,by omega,?_⟩
       apply aj.split<;>intro bx
       .simp(disch:=omega)only[↓wr,seval,wq,t1,t2,t5,t9,t10,t11,t12,t13]
        exact aE hw (by omega) ⟨⟨A,B,o,y,X true (λ_=>by rw[cf];exact bx) a7,t1,t2,t5⟩,t9,t10,M,t11,t12,rfl⟩
       .simp(disch:=omega)only[↓wr,seval,wq,t1,t2,t5,t9,t10,t11,t12,t13,M,aK,P,O,an,aq,S,ar]
        refine⟨by omega,by simp;omega,?_⟩
        try simp(disch:=omega)only[↓wr,seval,wq,t1,t2,t5,t9,t10,t11,t12,t13,M,aK,P,O,an,aq,S,ar]
        refine⟨by omega,by simp;omega,by omega,by omega,?_⟩
        have a8:=B.put o N (show f < p.length+1 by omega) (show f+s < p.length+1 by omega)
        have c4:=SA o N (show f < p.length+1 by omega) (show f+s < p.length+1 by omega) (by rw[cf];exact bx)
        rw[br,<-gL] at a8
        have da:b≠C r.left.toNat f:=λe=>by rw[e,S] at M;simp at M
        refine aE hw (by omega) ⟨⟨og A r.left.toNat f (f+s),?_,Qe o N (by omega),λn i' j' h=>?_,.inr ⟨rfl,?_⟩,t1,t2,t5⟩,t9,t10,by simp[View.set,da,M,aK],t11,t12,rfl⟩
        .exact a8
        .rw[Qs o N (by omega) (by omega)] at h
         split at h
         .rename_i e
          obtain⟨rfl,rfl,rfl⟩:=e
          refine⟨by omega,?_⟩
          exact .ky _ _ r _ _ _ (by omega) L (by omega) c3 (.nil _)
         .exact y n i' j' h
        .rcases Q with ⟨_,e,_⟩ | ⟨_,e⟩
         .rw[c4,e];omega
         .omega
      .subst Y
       simp(disch:=omega)only[↓wr,seval,wq,t1,t2,t5,t9,t10,t11,t12,t13]
       exact aE hw (by omega) ⟨⟨A,B,o,y,X false (λh=>by simp at h) a7,t1,t2,t5⟩,t9,t10,M,t11,t12,rfl⟩
     .simp(disch:=omega)only[↓wr,seval,wq,t1,t2,t5,t9,t10,t11,t12,t13]
      refine aE hu (by omega) ⟨⟨A,B,o,y,?_,t1,t2,t5⟩,t9,t10,M,rfl⟩
      rcases Q with ⟨a,b,c,d,e⟩ | h
      .refine .inl ⟨a,b,c.1,λJ W=>?_⟩
       by_cases ef:J=f
       .subst ef
        exact λj h1 h2 h3=>e j h1 (by omega) (by rw[d];exact h3)
       .exact c.2 J (by omega)
      .exact .inr h
    .simp(disch:=omega)only[↓wr,seval,wq,t1,t2,t5,t9,t10,t11]
     refine aE hm (by omega) ⟨⟨A,B,o,y,?_,t1,t2,t5⟩,rfl⟩
     rcases Q with ⟨a,b,c,d⟩ | h
     .refine .inl ⟨a,b,λq r' hq a1 J W=>?_⟩
      by_cases eq:q=i
      .subst eq
       rw[bl] at a1;simp at a1;subst a1
       exact d J (by omega)
      .exact c q r' (by omega) a1 J W
     .exact .inr h
   .simp(disch:=omega)only[↓wr,seval,wq,t1,t2,t5,t9]
    rcases Q with ⟨a,b,c⟩ | ⟨a,b⟩
    .subst b
     refine⟨0,by have:=FY U;omega,A,B,U,ab,.inr ⟨a,λr hr f W=>?_⟩,rfl⟩
     obtain⟨q,hq,db⟩:=List.getElem_of_mem hr
     exact c q r (by omega) (by rw[Vq hq,db]) f W
    .have:=FY o
     exact⟨g.ak.length * ((p.length+1) * (p.length+1))+1 - pU A,by omega,A,B,o,y,.inl ⟨a,by omega⟩,rfl⟩
  .simp(disch:=omega)only[↓wr,seval,wq,kZ,t1,t2,t5,t8]
   intro h' hh
   have hT:z=zZ g p:=TE (λr hr=>(hf.left r hr).1) (λr hr=>(hf.left r hr).2) U (λn i j h=>(ab n i j h.2).2) (λn i j h=>(ab n i j h).1) λr hr f j dj hj he=>b7 r hr f (by omega) j dj hj he
   rw[<-hT]
   exact oT.Uj (by rw[hh];exact B) U
end Gv
