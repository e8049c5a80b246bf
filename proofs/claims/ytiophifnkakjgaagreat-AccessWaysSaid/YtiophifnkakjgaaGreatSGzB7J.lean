/-
  Part 10 of the proof: what the machine does and what the functions answer.
  Conditions: those that each lemma names.
-/
import Derived.Test.YtiophifnkakjgaaGreatSGzB7I
set_option linter.unusedSimpArgs false
set_option linter.unusedVariables false
set_option maxRecDepth 100000
set_option maxHeartbeats 20000000
namespace Gv
open Go Go.Proofs
def rW:SC :=
 ae [ab [aU 44 .lss 43 42],cb 44 (.exit 0),.block 1 (ae [ab [aa 45 43,aZ 46 3 41 43,ba 47 3 46,((some 11),.op (.alloc [(.val (.int .i64 0)),(.emp 1),(.val (.int .i64 0))])),aa 10 45,cL 3 11 47],ae [.region false [⟨none,[aa 48 6,al 49 0 11,ak 50 49,aZ 51 1 48 50,ak 52 51,dp 53 52,aa 54 53]⟩,⟨(some (54,false)),[ba 55 3 11,aa 56 5,bg 57 164 [55,56],dp 58 57]⟩,⟨none,[cR 59 54 58]⟩],bf 59 (.exit 1)],ab [aa 60 7,aa 61 10,((some 62),.op (.bN 1 1 [(.val (.int .i64 0))] [(0,(.tmp 61))])),gD 63 1 8 60 62,aa 7 63],ab [aa 65 9,al 66 0 11,ak 67 66,((some 68),.op (.old (.lookup 265 (.tmp 65) (.tmp 67) true) 66)),aa 64 68,dz 69 0 64,dz 70 1 64,aa 12 69,aa 13 70],ab [aa 71 13,dp 72 71],bf 72 (ae [ab [aa 73 9,al 74 0 11,ak 75 74,al 76 1 8,ak 77 76,aP 78 77,(none,.op (.old (.mapUpdate 265 (.tmp 73) (.tmp 75) (.tmp 78)) 0))],.region false [⟨none,[al 79 1 8,ak 80 79,al 81 1 1,ak 82 81,al 83 0 11,ak 84 83,aZ 85 1 82 84,ak 86 85,((some 87),.op (.bN 1 1 [(.val (.string ⟨#[]⟩))] [(0,(.tmp 86))])),gD 88 1 16 80 87,al 89 1 8,cL 1 89 88]⟩]])]),ab [aF 90 .add 43 1,aa 43 90]]
def rQ:SC :=
 ae [ab [aU 116 .lss 115 114],cb 116 (.exit 4),.block 5 (ae [ab [aa 117 115,aZ 118 1 113 115,ak 119 118,aa 18 117,aa 19 119],ab [aa 120 19,aF 121 .lss 120 0],bf 121 (ab [al 122 1 17,ak 123 122,aa 124 18,aa 125 9,aa 126 19,((some 127),.op (.arith .sub (.val (.val (.int .i64 (-1)))) (.tmp 126))),((some 128),.op (.old (.lookup 265 (.tmp 125) (.tmp 127) false) 3)),((some 129),.op (.arith .sub (.val (.val (.int .i64 (-1)))) (.tmp 128))),aZ 130 1 123 124,cL 1 130 129])]),ab [aF 131 .add 115 1,aa 115 131]]
def r6:SC :=
 ae [ab [aU 94 .lss 93 92],cb 94 (.exit 2),.block 3 (ae [ab [aZ 95 1 91 93,ak 96 95,aa 15 96],ab [al 97 2 1,ak 98 97,aa 99 15,aZ 100 3 98 99,ba 101 3 100,((some 16),.op (.alloc [(.val (.int .i64 0)),(.emp 1),(.val (.int .i64 0))])),cL 3 16 101],.region true [⟨none,[aa 102 9,al 103 0 16,ak 104 103,((some 105),.op (.old (.lookup 265 (.tmp 102) (.tmp 104) false) 3)),al 106 1 16,ak 107 106,bg 108 140 [107],al 109 2 16,ak 110 109,((some 111),.op (.build [(.val (.int .i64 0)),(.emp 1),(.val (.int .i64 0))] [(0,1,(.tmp 105)),(1,1,(.tmp 108)),(2,1,(.tmp 110))])),((some 17),.op (.alloc [(.val (.int .i64 0)),(.emp 1),(.val (.int .i64 0))])),cL 3 17 111]⟩],ae [ab [al 112 1 17,ak 113 112,aP 114 113,aR 115 0],cd 4 rQ],ab [al 132 2 8,ak 133 132,ba 134 3 17,((some 135),.op (.bN 1 3 [(.val (.int .i64 0)),(.emp 1),(.val (.int .i64 0))] [(0,(.tmp 134))])),gD 136 3 40 133 135,al 137 2 8,cL 1 137 136]]),ab [aF 138 .add 93 1,aa 93 138]]
def vq:SF:=⟨ae [ab [cG 1 0,((some 2),.op (.alloc [(.emp 1),(.emp 1),(.emp 1),(.val (.int .i64 0))])),bQ 3 1,aR 4 0],ae [ab [ba 20 4 1,bg 21 89 [20],dp 22 21],bf 22 (ae [ab [((some 23),.op (.build [(.emp 1),(.emp 1),(.emp 1),(.val (.int .i64 0))] [])),cL 4 2 23,bQ 3 1,aR 4 1],.ret])],.region true [⟨none,[ba 24 4 1,bg 25 161 [24],ba 26 4 1,bg 27 162 [26],aa 5 25,aa 6 27]⟩],ae [ab [aa 28 5,al 29 3 1,ak 30 29,aZ 31 1 28 30,ak 32 31,dp 33 32],bf 33 (ae [ab [((some 34),.op (.build [(.emp 1),(.emp 1),(.emp 1),(.val (.int .i64 0))] [])),cL 4 2 34,bQ 3 1,aR 4 9],.ret])],ab [bQ 7 1],ab [al 35 0 1,ak 36 35,bg 37 163 [36],((some 38),.op (.build [(.emp 1),(.emp 1),(.emp 1),(.val (.int .i64 0))] [(0,1,(.tmp 37))])),((some 8),.op (.alloc [(.emp 1),(.emp 1),(.emp 1),(.val (.int .i64 0))])),cL 4 8 38],ab [((some 39),.op (.o8)),aa 9 39],ae [ab [al 40 2 1,ak 41 40,aP 42 41,aR 43 0],cd 0 rW],ae [ab [aa 91 7,aP 92 91,aR 93 0],cd 2 r6],ab [aa 139 9,al 140 3 1,ak 141 140,((some 142),.op (.old (.lookup 265 (.tmp 139) (.tmp 141) false) 3)),al 143 3 8,cL 1 143 142],ab [ba 144 4 8,aa 145 7,cL 4 2 144,aa 3 145,aR 4 0],.ret],
 [.cell 2 (some 4),.tmp 3,.tmp 4],146⟩
theorem zj:aI Tryz.prog 92 [1]=some vq:=by kernel_rfl
abbrev v7 (m:cp Int):List (V × V × Nat):=b3 (Value.int .i64) m
def QM (g:af) (p q:List Bool) (b2 b8 b9:Nat) (u0:V) (i:Nat) (T:Env) (H:View):Prop :=
 (∃ u1 u3:V,T 7=u3/\(∀ x∈cm p q (g.rules.take i),0<=x/\x < g.aj.length)/\(cm p q (g.rules.take i)).length<=i /\
  bc H [(.sl b8 0 1 4,4,[[u0,u1,.emp 1,gi 0]]),(u3,1,bC (cY p q (g.rules.take i) 0)),
   (u1,1,jR ((cm p q (g.rules.take i)).map λx=>g.aj.getD x.toNat ⟨#[]⟩)),(u0,3,g.ao.map de),(.sl b2 0 1 4,4,[[.emp 1,.emp 1,.emp 1,gi 0]])] /\
  ∃ m c,H b9=.map (v7 m) c/\mY gi (jq (cm p q (g.rules.take i)) 0) m) /\
 T 1=.aG (ag g) 0/\T 2=.ptr b2 0 0/\T 5=cq p/\T 6=cq q/\T 8=.ptr b8 0 0/\T 9=.mp b9/\T 41=.aT (g.rules.map aQ)/\T 42=gi g.rules.length/\T 43=gi i
theorem B0 {α:Type} {x s:α} : ∀ {a d:List α} {k:Nat},a.length=k->(a ++ s :: d).set k x=a ++ x :: d
 | [],d,k,h=>by simp at h;subst h;rfl
 | y :: a,d,k,h=>by
  cases k with
  | zero=>simp at h
  | succ k=>simp only[Th,List.set_cons_succ];rw[B0 (by simpa using h)]
def R2 (g:af) (p q:List Bool) (b2 b8 b9:Nat) (u0 u1 u3:V) (o kl:List Int) (mm:cp Int) (cc:Nat) (i:Nat) (T:Env) (H:View):Prop :=
 (∃ (u2:V) (bs:yc),bs.map (·.2)=((g.rules.filter (c6 p q)).take i).map (b4 (dX o)) /\
  bc H ((.sl b8 0 1 4,4,[[u0,u1,u2,gi 0]]) :: (u3,1,bC kl) ::
   (u1,1,jR (o.map λx=>g.aj.getD x.toNat ⟨#[]⟩)) :: (u0,3,g.ao.map de) :: (u2,3,gE bs) :: (.sl b2 0 1 4,4,[[.emp 1,.emp 1,.emp 1,gi 0]]) :: ly bs) /\
  H b9=.map (v7 mm) cc) /\
 T 1=.aG (ag g) 0/\T 2=.ptr b2 0 0/\T 7=u3/\T 8=.ptr b8 0 0/\T 9=.mp b9/\T 91=u3/\T 92=gi kl.length/\T 93=gi i
def RA (g:af) (b2 b8 b9 b16 b17:Nat) (u3 v:V) (o kl:List Int) (mm:cp Int) (cc:Nat) (r:bk) (L:List dG) (i k:Nat) (T:Env) (H:View):Prop :=
 bc H ((.sl b17 0 1 3,3,[[gi (dX o r.left),v,gi r.prec]]) :: (v,1,bC ((b4 (dX o) r).right.take k ++ r.right.drop k)) :: (.sl b16 0 1 3,3,[aQ r]) :: L) /\
 H b9=.map (v7 mm) cc/\T 1=.aG (ag g) 0/\T 2=.ptr b2 0 0/\T 7=u3/\T 8=.ptr b8 0 0/\T 9=.mp b9/\T 91=u3/\T 92=gi kl.length/\T 93=gi i/\T 17=.ptr b17 0 0/\T 113=v/\T 114=gi r.right.length/\T 115=gi k
theorem Gh (g:af) (hg:g.Ok) (hs:g.Small):cT Tryz.prog 92 [.agg (ag g)] (u9 (if ca g=true then
  if (bz g true).getD g.start.toNat false=true then (vg g (dX (cm (bz g true) (b5 g) g.rules)) (bz g true) (b5 g),cY (bz g true) (b5 g) g.rules 0,0)
  else (qd,[],9)
 else (qd,[],1))):=by
 refine cT.of (fa g) ?_
 refine au.of mixed zj ?_
 simp(disch:=omega)only[↓wr,seval,wq,vq,ag,encS]
 intro Q
 try simp(disch:=omega)only[↓wr,seval,wq,ag,encS]
 refine av.pure (rR g hg hs.names) ?_
 repeat' (first | ((first|apply ai.dec|apply ai.eq|apply ai.ne|apply ai.split)<;>intro)|(simp(disch:=omega)only[↓wr,seval,wq,ag,encS,set_set]))
 .rename_i hr
  rw[St hr]
  refine av.pure (tQ g hg hs).pure ?_
  simp(disch:=omega)only[↓wr,seval,wq,ag,encS]
  refine av.pure (Dv g hg hs).pure ?_
  have hf:=cD hr
  have h3:=hf.nN
  have h4:=hf.start
  have ee:=lx hr true
  have hl:=oV hr
  generalize bz g true=p at ee ⊢
  generalize b5 g=q at hl ⊢
  have cV:p[g.start.toNat]?=some (p[g.start.toNat]'(by omega)):=Sn (by omega)
  have eg:p.getD g.start.toNat false=p[g.start.toNat]'(by omega):=by simp[Sm,cV]
  generalize p[g.start.toNat]'(by omega)=s at cV eg
  rw[eg]
  simp(disch:=omega)only[↓wr,seval,wq,ag,encS,cq,Ss,cV]
  cases s with
  | false =>
   simp(disch:=omega)only[↓wr,seval,wq,ag,encS,set_set]
   rintro h' hh
   exact ub
  | true =>
   simp(disch:=omega)only[↓wr,seval,wq,ag,encS,set_set]
   have hN:=hf.aj
   have iI:=hf.qn
   have hT:=hf.ao
   have hR:=hf.rules
   refine av.dW ((M5 g.ao (by omega) _).mono ?_)
   rintro B H1 ⟨hn,K⟩
   have bl:=(bc.nil.new (H:=λ_=>dF.dead) (n:=Q) rfl 4 [[.emp 1,.emp 1,.emp 1,gi 0]]).Bp hn K
   have c0:=bl.head.cells
   have k0:=bl.head.eL
   simp(disch:=omega)only[↓wr,seval,wq,ag,encS,c0,k0]
   intro O ei
   have ek:=bl.new ei 4 [[B,.emp 1,.emp 1,gi 0]]
   try simp(disch:=omega)only[↓wr,seval,wq,ag,encS,c0,k0,set_set]
   intro d R
   have cA:=(bR R bP).1
   have R:=(bR (bR R bP).2 bP).2
   have f:=(((ek.fresh (n:=d) (o:=.map [] 0) (by simp only[View.set,Sr cA];exact R)).emp (k:=1) (sz:=1)).emp (k:=1) (sz:=1)).perm Fx.symm
   try simp(disch:=omega)only[↓wr,seval,wq,ag,encS,c0,k0,set_set]
   refine aY.up g.rules.length (QM g p q Q O d B) ?_ ?_
   .refine⟨⟨.emp 1,.emp 1,rfl,by simp[cm],by simp[cm],by rw[set_set];exact f,[],0,by simp[View.set,b3],trivial⟩,rfl,rfl,rfl,rfl,rfl,rfl,rfl,rfl,rfl⟩
   clear bl ek f ei R cA
   rintro i k T H2 hk ⟨⟨G,u3,t7,bn,c3,A,mm,C,j,D⟩,t1,t2,t5,t6,t8,t9,t41,t42,t43⟩
   simp(disch:=omega)only[↓wr,seval,wq,rW,t1,t2,t5,t6,t7,t8,t9,t41,t42,t43,ag]
   apply ai.dec<;>intro hc
   .have E:g.rules[i]?=some (g.rules[i]'(by omega)):=Sn (by omega)
    have l:g.rules[i]'(by omega)∈g.rules:=Sx _
    have w:g.rules.take (i+1)=g.rules.take i ++ [g.rules[i]'(by omega)]:=by rw[S6,E];rfl
    generalize g.rules[i]'(by omega)=r at E l w
    obtain⟨hq,eH,e0,ht,br⟩:=hf.tq hg l
    have c4:q[r.left.toNat]?=some (q[r.left.toNat]'(by omega)):=Sn (by omega)
    have bx:q.getD r.left.toNat false=q[r.left.toNat]'(by omega):=by simp[Sm,c4]
    generalize q[r.left.toNat]'(by omega)=qs at c4 bx
    simp(disch:=omega)only[↓wr,seval,wq,t1,t2,t5,t6,t7,t8,t9,t41,t42,t43,aQ,encI,Ss,E]
    intro b0 S
    have F:=A.new S 3 [aQ r]
    have cC:d≠b0:=by rintro rfl;rw[j] at S;simp at S
    try simp(disch:=omega)only[↓wr,seval,wq,t1,t2,t5,t6,t7,t8,t9,t41,t42,t43,aQ,encI,cq,Ss,c4,set_set]
    have U:∀ (P:Env) (H':View),c6 p q r=false->H'=H2.set b0 (.arr 3 [aQ r])->P 7=u3->P 1=.aG (ag g) 0->P 2=.ptr Q 0 0->P 5=cq p->P 6=cq q->P 8=.ptr O 0 0->P 9=.mp d->P 41=.aT (g.rules.map aQ)->P 42=gi g.rules.length->P 43=gi ((i:Int)+1) ->
      ∃ k',k' < k/\Dm g.rules.length k' (QM g p q Q O d B) P H':=by
     intro P H' W e4 a7 a1 a2 a5 a6 a8 a9 a41 hz hA
     have M:cm p q (g.rules.take (i+1))=cm p q (g.rules.take i):=by rw[w,sf,Sr (by simp[W])]
     have e2:cY p q (g.rules.take (i+1)) 0=cY p q (g.rules.take i) 0:=by rw[w,ki];simp[cY,W]
     refine aH hk (by omega) ⟨⟨G,u3,a7,by rw[M];exact bn,by rw[M];omega,by rw[M,e2,e4];exact F.tail,mm,C,by rw[e4];simp[View.set,cC,j],by rw[M];exact D⟩,a1,a2,a5,a6,a8,a9,a41,hz,by rw[hA];rfl⟩
    cases qs with
    | false =>
     simp(disch:=omega)only[↓wr,seval,wq,t1,t2,t5,t6,t7,t8,t9,t41,t42,t43]
     refine U _ _ (by rw[c6,bx];rfl) ?_ ?_ ?_ ?_ ?_ ?_ ?_ ?_ ?_ ?_ ?_
     all_goals first | exact t7 | exact t1 | exact t2 | exact t5 | exact t6 | exact t8 | exact t9 | exact t41 | exact t42 | rfl | (rw[set_set];rfl)
    | true =>
     simp(disch:=omega)only[↓wr,seval,wq,t1,t2,t5,t6,t7,t8,t9,t41,t42,t43,aQ,encI,cq]
     refine av.pure (wW r p (hg.aw r l).2.2.1 (λs e5=>⟨(br s e5).1,λh=>by rw[ee];exact(br s e5).2 h⟩)) ?_
     simp(disch:=omega)only[↓wr,seval,wq,t1,t2,t5,t6,t7,t8,t9,t41,t42,t43]
     apply ai.split<;>intro da
     .simp(disch:=omega)only[↓wr,seval,wq,t1,t2,t5,t6,t7,t8,t9,t41,t42,t43]
      have W:c6 p q r=true:=by rw[c6,bx,da];rfl
      intro m hm
      try simp(disch:=omega)only[↓wr,seval,wq,t1,t2,t5,t6,t7,t8,t9,t41,t42,t43,bO]
      have e6:=(bR hm bP).1
      have hm:=(bR (bR hm bP).2 bP).2
      have e:=(F.fresh (n:=m) (o:=.arr 1 [[gi i]]) (by simp only[View.set,Sr e6];exact hm)).at 2 (by simp)
      have db:d≠m:=by rintro rfl;rw[j] at hm;simp at hm
      have e7:(cY p q (g.rules.take i) 0).length<=40:=by
       rw[km]
       have h1:=T6 (c6 p q) (g.rules.take i)
       have h2:(g.rules.take i).length<=i:=List.length_take_le _ _
       omega
      refine c8 (by rw[set_set];exact e) (by simp[aE]) (by unfold aC;simp at e7 ⊢;omega) (by unfold aC;simp at e7 ⊢;omega) ?_
      intro dj H3 f t
      have f11:=f.is 1 rfl (by simp)
      have f8:=f.is 2 rfl (by simp)
      have b1:Left ((H2.set b0 (.arr 3 [aQ r])).set m (.arr 1 [[gi i]])) H3 u3 dj:=by rw[set_set] at t;exact t
      have f9:H3 d=.map (v7 mm) C:=b1.map (b:=d) e.head (by simp[View.set,cC,db,j])
      have hB:bZ G=some (jR ((cm p q (g.rules.take i)).map λx=>g.aj.getD x.toNat ⟨#[]⟩)).length:=(f.own 3 rfl).len
      simp only[aQ,encI] at f11
      have e2:cY p q (g.rules.take (i+1)) 0=cY p q (g.rules.take i) 0 ++ [(i:Int)]:=by
       rw[w,ki];simp[cY,W,show i<=g.rules.length by omega]
      have M:cm p q (g.rules.take (i+1))=kp (cm p q (g.rules.take i)) r:=by rw[w,sf,St W]
      generalize cm p q (g.rules.take i)=o at *
      generalize cY p q (g.rules.take i) 0=kl at *
      simp(disch:=omega)only[↓wr,seval,wq,t1,t2,t5,t6,t8,t9,t41,t42,t43,f11,f8]
      refine OP (kt:=3) (et:=3) (z:=gi 0) (by kernel_rfl) (by kernel_rfl) (j8 .i64 Tryz.underlying3) (id:=d) (c:=C) (m:=mm) (k:=r.left) (by simp(disch:=omega)only[↓wr,seval,wq,t9]) (by simp(disch:=omega)only[↓wr,seval,wq]) f9 ?_
      rw[D.get,sw]
      have hC:o.length<=40:=by omega
      by_cases hx:r.left∈o
      .have u:kp o r=o:=by rw[kp,St hx]
       rw[St hx]
       simp(disch:=omega)only[↓wr,seval,wq,t1,t2,t5,t6,t8,t9,t41,t42,t43,Option.isSome_some]
       have hE:=(((f.at 1 (by simp)).tail).perm (.swap _ _ _))
       refine aH hk (by omega) ⟨⟨G,dj,rfl,by rw[M,u];exact bn,by rw[M,u];omega,?_,mm,C,f9,by rw[M,u];exact D⟩,t1,t2,t5,t6,t8,t9,t41,t42,rfl⟩
       rw[M,u,e2]
       simp only[S0,S7,T7]
       exact hE
      .have u:kp o r=o ++ [r.left]:=by rw[kp,Sr hx]
       rw[Sr hx]
       have dm:g.aj[r.left.toNat]?=some (g.aj[r.left.toNat]'(by omega)):=Sn (by omega)
       have cN:g.aj.getD r.left.toNat ⟨#[]⟩=g.aj[r.left.toNat]'(by omega):=by simp[Sm,dm]
       generalize g.aj[r.left.toNat]'(by omega)=nm at dm cN
       simp(disch:=omega)only[↓wr,seval,wq,t1,t2,t5,t6,t8,t9,t41,t42,t43,Option.isSome_none,f11,f8,hB,Sv]
       refine tH (kt:=3) (et:=3) (by kernel_rfl) (j8 .i64 Tryz.underlying3) (id:=d) (c:=C) (m:=mm) (k:=r.left) (v:=gi o.length) (by simp(disch:=omega)only[↓wr,seval,wq,t9]) (by simp(disch:=omega)only[↓wr,seval,wq]) (by simp(disch:=omega)only[↓wr,seval,wq]) f9 ?_
       intro c'
       have e8:O≠d:=Au f 2 rfl f9
       have n119:b0≠d:=Au f 1 rfl f9
       simp(disch:=omega)only[↓wr,seval,wq,t1,t2,t5,t6,t8,t9,t41,t42,t43,f11,f8,e8,n119,ag,encS,Ss,dm]
       intro m2 N
       have cS:=(bR N (by simp)).1
       have N:=(bR N (by simp)).2
       have e9:=((f.AI f9 (o:=.map (v7 (bF r.left (gi o.length) C mm)) c')).fresh (n:=m2) (o:=.arr 1 [[gs nm]]) (by simp only[View.set,Sr cS];exact N)).at 3 (by simp)
       try simp(disch:=omega)only[↓wr,seval,wq,t1,t2,t5,t6,t8,t9,t41,t42,t43,bO]
       refine c8 e9 (by simp[aE]) (by unfold aC;simp;omega) (by unfold aC;simp;omega) ?_
       intro fb H5 b7 cf
       have c1:=b7.head.cells
       have k1:=b7.head.eL
       have ds:=b7.is 3 rfl (by simp)
       have hF:=cf.map (b:=d) (es:=v7 (bF r.left (gi o.length) C mm)) (c:=c') e9.head (by simp[View.set,Ne.symm cS])
       have ff:d≠O:=e8.symm
       simp(disch:=omega)only[↓wr,seval,wq,t1,t2,t5,t6,t8,t9,t41,t42,t43,ds,c1,k1]
       have hG:=(b7.at 3 (by simp)).put (es':=[[B,fb,.emp 1,gi 0]]) rfl rfl
       have hI:=(((hG.at 3 (by simp)).tail).perm (.cons _ (.swap _ _ _)))
       refine aH hk (by omega) ⟨⟨fb,dj,rfl,?_,?_,?_,_,c',(by simp only[View.set,Sr ff];exact hF),?_⟩,t1,t2,t5,t6,t8,t9,t41,t42,rfl⟩
       .rw[M,u];intro x hJ;rcases SS.1 hJ with h | h
        .exact bn x h
        .simp at h;subst h;exact⟨eH,e0⟩
       .rw[M,u];simp;omega
       .rw[M,u,e2]
        simp only[S0,S7,T7,cN]
        exact hI
       .rw[M,u,AN,Int.zero_add,<-Df hx]
        exact D.put r.left (o.length:Int) C
     .simp(disch:=omega)only[↓wr,seval,wq,t1,t2,t5,t6,t7,t8,t9,t41,t42,t43]
      refine U _ _ (by rw[c6,bx,da];rfl) ?_ ?_ ?_ ?_ ?_ ?_ ?_ ?_ ?_ ?_ ?_
      all_goals first | exact t7 | exact t1 | exact t2 | exact t5 | exact t6 | exact t8 | exact t9 | exact t41 | exact t42 | rfl | (rw[set_set];rfl)
   .rw[SL (by omega)] at A bn c3 D
    have hK:(cY p q g.rules 0).length<=40:=by
     rw[km];have h1:=T6 (c6 p q) g.rules;omega
    have hM:=sq p q g.rules 0
    have ih:=km p q g.rules 0
    have fl:vg g (dX (cm p q g.rules)) p q=⟨g.ao,(cm p q g.rules).map λx=>g.aj.getD x.toNat ⟨#[]⟩,(g.rules.filter (c6 p q)).map (b4 (dX (cm p q g.rules))),dX (cm p q g.rules) g.start⟩:=rfl
    rw[fl]
    clear fl
    generalize cm p q g.rules=o at *
    generalize cY p q g.rules 0=kl at *
    have hC:o.length<=40:=by omega
    have hP:bZ u3=some (bC kl).length:=(A.own 1 rfl).len
    simp(disch:=omega)only[↓wr,seval,wq,t1,t2,t5,t6,t7,t8,t9,hP,Sv]
    refine aY.up kl.length (R2 g p q Q O d B G u3 o kl mm C) ?_ ?_
    .refine⟨⟨.emp 1,[],by simp,?_,j⟩,t1,t2,t7,t8,t9,t7,rfl,rfl⟩
     exact(A.emp (k:=1) (sz:=3)).perm (qM [(.sl O 0 1 4,4,[[B,G,.emp 1,gi 0]]),(u3,1,bC kl),(G,1,jR (o.map λx=>g.aj.getD x.toNat ⟨#[]⟩)),(B,3,g.ao.map de),(.emp 1,3,[]),(.sl Q 0 1 4,4,[[.emp 1,.emp 1,.emp 1,gi 0]])] 4 (by simp)).symm
    clear A j t1 t2 t5 t6 t7 t8 t9 t41 t42 t43
    rintro i k T H2 hk ⟨⟨u2,bs,ch,A,j⟩,t1,t2,t7,t8,t9,t91,t92,t93⟩
    simp(disch:=omega)only[↓wr,seval,wq,r6,t1,t2,t7,t8,t9,t91,t92,t93]
    apply ai.dec<;>intro hc
    .obtain⟨n3,e3,hS⟩:=(A.own 1 rfl).sl (by simp;omega)
     rw[Sv] at e3
     subst e3
     obtain⟨m,dv,N,X⟩:=hM i (by omega)
     have fm:=kn (show i < kl.length by omega)
     rw[Int.zero_add] at dv
     have hV:kl[i]'(by omega)=(m:Int):=by
      rw[Sn (show i < kl.length by omega)] at dv;simpa using dv
     rw[hV] at fm
     have E:g.rules[m]?=some (g.rules[m]'X):=Sn X
     have l:g.rules[m]'X∈g.rules:=Sx _
     have w:(g.rules.filter (c6 p q)).take (i+1)=(g.rules.filter (c6 p q)).take i ++ [g.rules[m]'X]:=by
      rw[S6,<-N,E];rfl
     generalize g.rules[m]'X=r at E l w
     obtain⟨hq,eH,e0,ht,br⟩:=hf.tq hg l
     simp(disch:=omega)only[↓wr,seval,wq,t1,t2,t7,t8,t9,t91,t92,t93,hS,fm,Sv,ag,aQ,encI,Ss,E]
     refine⟨by omega,by omega,?_⟩
     intro ea I
     have F:=A.new I 3 [aQ r]
     have Y:d≠ea:=by rintro rfl;rw[j] at I;simp at I
     try simp(disch:=omega)only[↓wr,seval,wq,t1,t2,t7,t8,t9,t91,t92,t93,set_set]
     refine xT (kt:=3) (et:=3) (z:=gi 0) (by kernel_rfl) (by kernel_rfl) (j8 .i64 Tryz.underlying3) (id:=d) (c:=C) (m:=mm) (k:=r.left) (by simp(disch:=omega)only[↓wr,seval,wq,t9]) (by simp(disch:=omega)only[↓wr,seval,wq]) (by simp[View.set,Y,j]) ?_
     have cj:∀ x,(getM mm x).getD (gi 0)=gi (dX o x):=λx=>by
      rw[D.get,dX];cases ed (jq o 0) x <;> rfl
     rw[cj]
     simp(disch:=omega)only[↓wr,seval,wq,t1,t2,t7,t8,t9,t91,t92,t93]
     refine av.BJ (LY r.right (by omega) _) ?_
     intro v H3 hv K
     have e:=bc.Bp (H:=H2.set ea (.arr 3 [aQ r])) F hv (by rw[set_set] at K;exact K)
     have eb:H3 d=.map (v7 mm) C:=by
      rw[(K d (by simp[View.set,Y,j])).1];simp[View.set,Y,j]
     have cv:=hv.cells
     have kv:=hv.eL
     have lv:=hv.len
     have f16:=e.is 1 rfl (by simp)
     simp only[aQ,encI] at f16
     simp(disch:=omega)only[↓wr,seval,wq,t1,t2,t7,t8,t9,t91,t92,t93,f16,cv,kv]
     intro fs J
     have a:=e.new J 3 [[gi (dX o r.left),v,gi r.prec]]
     have ft:d≠fs:=by rintro rfl;rw[eb] at J;simp at J
     try simp(disch:=omega)only[↓wr,seval,wq,t1,t2,t7,t8,t9,t91,t92,t93,cv,kv,lv,set_set,Sv]
     generalize hL:((V.sl O 0 1 4,4,[[B,G,u2,gi 0]]) :: (V.sl n3 0 kl.length 1,1,bC kl) ::
       (G,1,jR (o.map λx=>g.aj.getD x.toNat ⟨#[]⟩)) :: (B,3,g.ao.map de) :: (u2,3,gE bs) :: (V.sl Q 0 1 4,4,[[V.emp 1,V.emp 1,V.emp 1,gi 0]]) :: ly bs:List dG)=L at a
     refine aY.up r.right.length (RA g Q O d ea fs (.sl n3 0 kl.length 1) v o kl mm C r L i) ?_ ?_
     .exact⟨by rw[set_set];exact a,by simp[View.set,ft,eb],t1,t2,t7,t8,t9,t91,t92,t93,rfl,rfl,rfl,rfl⟩
     clear F e a I J j eb f16 hv K t1 t2 t7 t8 t9 t91 t92 t93
     rintro k k2 T H3 fx ⟨a,j,t1,t2,t7,t8,t9,t91,t92,t93,t17,t113,t114,t115⟩
     have f17:=a.is 0 rfl (by simp)
     simp(disch:=omega)only[↓wr,seval,wq,rQ,t1,t2,t7,t8,t9,t91,t92,t93,t17,t113,t114,t115]
     apply ai.dec<;>intro hW
     .have fz:r.right[k]?=some (r.right[k]'(by omega)):=Sn (by omega)
      have gd:r.right[k]'(by omega)∈r.right:=Sx _
      have hY:(b4 (dX o) r).right.length=r.right.length:=by simp[b4]
      have Z:(b4 (dX o) r).right.take (k+1)=(b4 (dX o) r).right.take k ++ [if r.right[k]'(by omega) < 0 then -1 - dX o (-1 - r.right[k]'(by omega)) else r.right[k]'(by omega)]:=by
       rw[S6];simp[b4,fz]
      have gk:=eC (show k < r.right.length by omega)
      generalize r.right[k]'(by omega)=s at fz gd Z gk
      obtain⟨⟨s1,s2⟩,s3⟩:=br s gd
      have jl:=Pw o (-1 - s)
      rw[gk] at a
      have hlen:(((b4 (dX o) r).right.take k ++ s :: r.right.drop (k+1)).map λx=>[gi x]).length=r.right.length:=by simp;omega
      obtain⟨nv,ev,gl⟩:=(a.own 1 rfl).sl (by rw[hlen];omega)
      rw[hlen] at ev
      subst ev
      have ck:k < ((b4 (dX o) r).right.take k ++ s :: r.right.drop (k+1)).length:=by simp;omega
      have an:=kn ck
      have h0:((b4 (dX o) r).right.take k ++ s :: r.right.drop (k+1))[k]'ck=s:=by
       rw[List.getElem_append_right (by simp;omega)]
       simp[show k - min k r.right.length=0 by omega,hY]
      rw[h0] at an
      simp(disch:=omega)only[↓wr,seval,wq,t1,t2,t7,t8,t9,t91,t92,t93,t17,t113,t114,t115,gl,an,Sv]
      refine⟨by omega,ck,?_⟩
      have gr:((b4 (dX o) r).right.take k).length=k:=by rw[Tv];omega
      have h5:nv≠d:=Au a 1 rfl j
      apply ai.dec<;>intro aq
      .rw[St aq] at Z
       simp(disch:=omega)only[↓wr,seval,wq,t1,t2,t7,t8,t9,t91,t92,t93,t17,t113,t114,t115,f17]
       refine xT (kt:=3) (et:=3) (z:=gi 0) (by kernel_rfl) (by kernel_rfl) (j8 .i64 Tryz.underlying3) (id:=d) (c:=C) (m:=mm) (k:=-1 - s) (by simp(disch:=omega)only[↓wr,seval,wq,t9]) (by simp(disch:=omega)only[↓wr,seval,wq]) j ?_
       rw[cj]
       simp(disch:=omega)only[↓wr,seval,wq,t1,t2,t7,t8,t9,t91,t92,t93,t17,t113,t114,t115,f17,gl,an,Sv]
       refine⟨by omega,ck,?_⟩
       have ar:=((a.at 1 (by simp)).put (es':=((((b4 (dX o) r).right.take k ++ s :: r.right.drop (k+1)).map λx=>[gi x]).set k [gi (-1 - dX o (-1 - s))])) (by simp) (by rw[hlen])).perm (.swap _ _ _)
       refine aH fx (by omega) ⟨?_,by simp only[View.set,Sr h5.symm];exact j,t1,t2,t7,t8,t9,t91,t92,t93,t17,t113,t114,rfl⟩
       rw[ints_set,B0 gr] at ar
       rw[Z,TB]
       rw[ints_set,B0 gr]
       exact ar
      .rw[Sr aq] at Z
       simp(disch:=omega)only[↓wr,seval,wq,t1,t2,t7,t8,t9,t91,t92,t93,t17,t113,t114,t115]
       refine aH fx (by omega) ⟨?_,j,t1,t2,t7,t8,t9,t91,t92,t93,t17,t113,t114,rfl⟩
       rw[Z,TB]
       exact a
     .rw[SL (by simp[b4];omega),S4 (by omega),Ue] at a
      subst hL
      have f8:=a.is 3 rfl (by simp)
      have cv:=(a.own 1 rfl).cells
      have kv:=(a.own 1 rfl).eL
      have ha:(gE bs).length<=40:=by
       have h1:=congrArg List.length ch
       simp only[Sv,Tv] at h1
       simp only[gE,Sv]
       omega
      simp(disch:=omega)only[↓wr,seval,wq,t1,t2,t7,t8,t9,t91,t92,t93,t17,t113,t114,t115,f8,f17,cv,kv]
      intro m hm
      have db:d≠m:=by rintro rfl;rw[j] at hm;simp at hm
      try simp(disch:=omega)only[↓wr,seval,wq,t1,t2,t7,t8,t9,t91,t92,t93,t17,bO]
      have ar:=(a.fresh (o:=.arr 3 [[gi (dX o r.left),v,gi r.prec]]) hm).at 7 (by simp)
      refine c8 ar (by simp[xS,kv]) (by unfold aC;simp at ha ⊢;omega) (by unfold aC;simp at ha ⊢;omega) ?_
      intro hb H4 bd t
      have cu:=bd.head.cells
      have ku:=bd.head.eL
      have ds:=bd.is 4 rfl (by simp)
      have hd:H4 d=.map (v7 mm) C:=t.map (b:=d) ar.head (by simp[View.set,db,j])
      have h6:d≠O:=(Au bd 4 rfl hd).symm
      simp(disch:=omega)only[↓wr,seval,wq,t1,t2,t7,t8,t9,t91,t92,t93,t17,ds,cu,ku]
      have h7:=(bd.at 4 (by simp)).put (es':=[[B,G,hb,gi 0]]) rfl rfl
      have h8:=((((h7.at 2 (by simp)).tail).at 3 (by simp)).tail)
      refine aH hk (by omega) ⟨⟨hb,bs ++ [(v,b4 (dX o) r)],?_,?_,by simp only[View.set,Sr h6];exact hd⟩,t1,t2,t7,t8,t9,t91,t92,rfl⟩
      .rw[S0,ch,w,S0];rfl
      .refine h8.perm (.cons _ ?_)
       simp only[ly,gE,S0,S7,T7]
       refine .trans ?_ (qM _ 3 (by simp)).symm
       refine .cons _ ?_
       exact(List.perm_append_singleton (v,1,bC (b4 (dX o) r).right) ((.sl n3 0 kl.length 1,1,bC kl) :: (G,1,jR (o.map λx=>g.aj.getD x.toNat ⟨#[]⟩)) :: (B,3,g.ao.map de) :: (.sl Q 0 1 4,4,[[.emp 1,.emp 1,.emp 1,gi 0]]) :: ly bs)).symm
    .rw[SL (by omega)] at ch
     have f8:=A.is 0 rfl (by simp)
     have f2:=A.is 5 rfl (by simp)
     have hj:O≠Q:=A.Hc 0 5 rfl rfl (by omega)
     have c1:=(A.own 2 rfl).cells
     have k1:=(A.own 2 rfl).eL
     have c2:=(A.own 4 rfl).cells
     have k2:=(A.own 4 rfl).eL
     have cj:∀ x,(getM mm x).getD (gi 0)=gi (dX o x):=λx=>by
      rw[D.get,dX];cases ed (jq o 0) x <;> rfl
     simp(disch:=omega)only[↓wr,seval,wq,t1,t2,t7,t8,t9,t91,t92,t93,ag]
     refine xT (kt:=3) (et:=3) (z:=gi 0) (by kernel_rfl) (by kernel_rfl) (j8 .i64 Tryz.underlying3) (id:=d) (c:=C) (m:=mm) (k:=g.start) (by simp(disch:=omega)only[↓wr,seval,wq,t9]) (by simp(disch:=omega)only[↓wr,seval,wq]) j ?_
     rw[cj]
     simp(disch:=omega)only[↓wr,seval,wq,t1,t2,t7,t8,t9,t91,t92,t93,f8,f2,hj,hj.symm,c0,k0,c1,k1,c2,k2]
     intro h' hh
     have F:=A.put (es':=[[B,G,u2,gi (dX o g.start)]]) rfl rfl
     have e:=(F.at 5 (by simp)).put (es':=[[B,G,u2,gi (dX o g.start)]]) rfl rfl
     have hv:h'.view=(H2.set O (.arr 4 [[B,G,u2,gi (dX o g.start)]])).set Q (.arr 4 [[B,G,u2,gi (dX o g.start)]]):=hh
     rw[<-hv] at e
     exact G2 (x:=(⟨g.ao,o.map λx=>g.aj.getD x.toNat ⟨#[]⟩,(g.rules.filter (c6 p q)).map (b4 (dX o)),dX o g.start⟩,kl,0)) (b:=bs) (e.own 4 rfl) (e.own 3 rfl) (e.own 5 rfl) (λy hy=>e.1 y (by
      refine SQ _ (SQ _ (SQ _ (SQ _ (SQ _ (SQ _ ?_)))))
      exact hy)) ch (e.own 2 rfl)
 .rename_i hr
  intro h' hh
  rw[Sr (by simp[hr])]
  exact ub
theorem HL {l:List Int} {a b:List Bool} {t:Bool} (h:gT a b) (k:fQ l a t=true):fQ l b t=true:=by
 simp only[fQ,Tc] at k ⊢
 intro s d
 have:=k s d
 by_cases c:0<=s
 .rw[St c] at this ⊢;exact this
 .rw[Sr c] at this ⊢;exact h.2 _ this
theorem gT.Qr {a b:List Bool} (h:gT a b) (k:gT b a):a=b:=by
 have h1:=h.dL
 have c:=k.dL
 exact h1.2 (by omega)
def mX (g:af) (t:Bool) (is:List Bool):Prop:=∀ i,is.getD i false=true->∃ r∈g.rules,r.left.toNat=i/\fQ r.right is t=true
theorem mX.step {g:af} {t:Bool} {is:List Bool} {r:bk} (h:mX g t is) (hr:r∈g.rules):mX g t (iF t is r):=by
 have hle:gT is (iF t is r):=by
  unfold iF
  split
  .exact .set _ _
  .exact .refl _
 intro i hi
 by_cases e:is.getD i false=true
 .obtain⟨c,h1,d,f⟩:=h i e
  exact⟨c,h1,d,HL hle f⟩
 .unfold iF at hi
  by_cases a:fQ r.right is t=true
  .rw[St a] at hi
   have:r.left.toNat=i:=by
    refine TQ λb=>e ?_
    simp only[Sm,T0,Sr b] at hi ⊢
    exact hi
   exact⟨r,hr,this,HL hle a⟩
  .rw[Sr a] at hi;exact absurd hi e
theorem mX.fold {g:af} {t:Bool} : ∀ (l:List bk) (is:List Bool),(∀ r∈l,r∈g.rules)->mX g t is->mX g t (l.foldl (iF t) is)
 | [],is,_,h=>h
 | r :: l,is,a,h=>mX.fold l _ (λx b=>a x (by simp[b])) (h.step (a r (by simp)))
theorem mX.iter {g:af} {t:Bool} : ∀ (n:Nat) (is:List Bool),mX g t is->mX g t (iter (mg g t) n is)
 | 0,_,h=>h
 | n+1,is,h=>mX.iter n _ (mX.fold g.rules is (λ_ h=>h) h)
theorem JL (g:af) (t:Bool):mX g t (bz g t):=by
 unfold bz
 split
 .refine mX.iter _ _ ?_
  intro i hi
  simp only[cy,Sm,Uc] at hi
  split at hi <;> simp at hi
 .intro i hi;simp at hi
theorem HC (is:List Bool) (s:Int):gT is (mark is s):=by
 unfold mark
 split
 .exact .set _ _
 .exact .refl _
theorem yV:∀ (l:List Int) (is:List Bool),gT is (l.foldl mark is)
 | [],is=>.refl _
 | s :: l,is=>(HC is s).trans (yV l _)
theorem E0 (p is:List Bool) (r:bk):gT is (gI p is r):=by
 unfold gI
 split
 .exact yV _ _
 .exact .refl _
theorem Ee (p:List Bool):∀ (l:List bk) (is:List Bool),gT is (l.foldl (gI p) is)
 | [],is=>.refl _
 | r :: l,is=>(E0 p is r).trans (Ee p l _)
theorem Da {p:List Bool} : ∀ {l:List bk} {is:List Bool},l.foldl (gI p) is=is->∀ r∈l,gI p is r=is
 | [],_,_,_,h=>by simp at h
 | r :: l,is,h,x,a=>by
  rw[Tp] at h
  have h1:=Ee p l (gI p is r)
  rw[h] at h1
  have b:=(h1.Qr (E0 p is r))
  rcases SM.1 a with rfl | a
  .exact b
  .rw[b] at h;exact Da h x a
theorem Db:∀ {l:List Int} {is:List Bool},l.foldl mark is=is->∀ s∈l,mark is s=is
 | [],_,_,_,h=>by simp at h
 | r :: l,is,h,x,a=>by
  rw[Tp] at h
  have h1:=yV l (mark is r)
  rw[h] at h1
  have b:=(h1.Qr (HC is r))
  rcases SM.1 a with rfl | a
  .exact b
  .rw[b] at h;exact Db h x a
theorem De {g:af} (hr:ca g=true):pM g (bz g true) (b5 g)=b5 g/\gT ((cy g).set g.start.toNat true) (b5 g):=by
 have a:=cD hr
 have h:=xm (rb (bz g true)) g.rules 16 ((cy g).set g.start.toNat true) (by have:=a.aj;simp[cy];omega)
 rw[HQ,MP hr] at h
 exact h
theorem Gw {g:af} (hr:ca g=true):(b5 g).getD g.start.toNat false=true:=by
 have a:=cD hr
 refine(De hr).2.2 _ ?_
 have b:=a.nN
 have c:=a.start
 simp only[Sm]
 rw[List.getElem?_set_self (by simp[cy];omega)]
 rfl
theorem I1 {g:af} (hr:ca g=true) {r:bk} (hm:r∈g.rules) (hk:c6 (bz g true) (b5 g) r=true) {s:Int} (b:s∈r.right) (c:s < 0):(b5 g).getD (-1 - s).toNat false=true:=by
 have d:=cD hr
 have h1:=Da (De hr).1 r hm
 unfold gI at h1
 rw[c6] at hk
 rw[St hk] at h1
 have a:=Db h1 s b
 unfold mark at a
 rw[St c] at a
 rw[<-a]
 have e:=oV hr
 have:=d.neg hm b c
 simp only[Sm]
 rw[List.getElem?_set_self (by omega)]
 rfl
theorem MM {g:af} (hr:ca g=true) {x:Int} (d:0<=x) (hp:(bz g true).getD x.toNat false=true) (a:(b5 g).getD x.toNat false=true):x∈cm (bz g true) (b5 g) g.rules:=by
 obtain⟨r,h1,e,b⟩:=JL g true _ hp
 have c:=cD hr
 have f:=c.left r h1
 have:r.left=x:=by omega
 refine EA.2 ⟨r,h1,?_,this⟩
 rw[c6,this,a,b];rfl
theorem Jx (g:af):(if ca g=true then
  if (bz g true).getD g.start.toNat false=true then (vg g (dX (cm (bz g true) (b5 g) g.rules)) (bz g true) (b5 g),cY (bz g true) (b5 g) g.rules 0,0)
  else (qd,[],9)
 else (qd,[],1))=gA g:=by
 unfold gA
 by_cases hr:ca g=true
 .rw[St hr,St hr]
  by_cases hp:(bz g true).getD g.start.toNat false=true
  .rw[St hp,St hp]
   have c:=cD hr
   rw[Nf]
   .exact MM hr c.nN hp (Gw hr)
   .intro r hm
    obtain⟨h1,a⟩:=TD.1 hm
    refine⟨EA.2 ⟨r,h1,a,rfl⟩,λs b d=>?_⟩
    refine MM hr (by omega) ?_ (I1 hr h1 a b d)
    rw[c6,SE] at a
    have:=a.2
    simp only[fQ,Tc] at this
    have:=this s b
    rwa [Sr (by omega)] at this
  .rw[Sr hp,Sr hp]
 .rw[Sr hr,Sr hr]
theorem Jn (g:af) (a:g.Ok) (b:g.Small):cT Tryz.prog 92 [.agg (ag g)] (u9 (gA g)):=by
 rw[<-Jx];exact Gh g a b
def bH (g:af) (k:Int):bk:=g.rules.getD k.toNat ⟨0,[],0⟩
theorem getD_some {α:Type} {l:List α} {j:Nat} {d:α} (h:j < l.length):l[j]?=some (l.getD j d):=by simp[Sm,h]
section
variable {g r:af} {p q:List Bool} {o:List Int}
end
section
variable {g r:af} {p q:List Bool} {o:List Int}
end
def isRed (g:af):Bool:=(gA g).2.2 == 0 && decide (g=(gA g).1)
def MZ (p:List Int) (i:Nat) (s:Int):Prop:=∃ c,p[i]?=some c/\(c=s∨c = -1)
inductive Sp (g:af) (p:List Int):List Int->Nat->Nat->Prop
 | nil (i:Nat):Sp g p [] i i
 | term (s:Int) (l:List Int) (i j:Nat):0<=s->MZ p i s->Sp g p l (i+1) j->Sp g p (s :: l) i j
 | Ku (s:Int) (l:List Int) (R:bk) (i k j:Nat):s < 0->R∈g.rules->R.left = -1 - s->Sp g p R.right i k->Sp g p l k j->Sp g p (s :: l) i j
theorem Sp.app {g:af} {p:List Int} {a:List Int} {i k:Nat} (h:Sp g p a i k):∀ {b:List Int} {j:Nat},Sp g p b k j->Sp g p (a ++ b) i j:=by
 induction h with
 | nil=>exact λh=>h
 | term s l i _ c f _ m=>exact λd=>.term s _ i _ c f (m d)
 | Ku s l R i k _ c n o h1 _ _ e=>exact λd=>.Ku s _ R i k _ c n o h1 (e d)
theorem Sp.split {g:af} {p:List Int} : ∀ {a b:List Int} {i j:Nat},Sp g p (a ++ b) i j->∃ k,Sp g p a i k/\Sp g p b k j
 | [],b,i,j,h=>⟨i,.nil i,h⟩
 | s :: a,b,i,j,h=>by
  cases h with
  | term _ _ _ _ c e h =>
   obtain⟨k,h1,d⟩:=Sp.split h
   exact⟨k,.term s a i k c e h1,d⟩
  | Ku _ _ R _ m _ c f l h1 h =>
   obtain⟨k,d,n⟩:=Sp.split h
   exact⟨k,.Ku s a R i m k c f l h1 d,n⟩
structure Item where
 aw:Nat
 dot:Nat
 L3:Nat
 deriving DecidableEq
structure R3 (g:af) (p:List Int) (S:Nat->List Item):Prop where
 start:∀ (i:Nat) (R:bk),g.rules[i]?=some R->R.left=g.start->⟨i,0,0⟩∈S 0
 term:∀ a x R s,x∈S a->g.rules[x.aw]?=some R->R.right[x.dot]?=some s->0<=s->MZ p a s->⟨x.aw,x.dot+1,x.L3⟩∈S (a+1)
 pred:∀ a x R s i R',x∈S a->g.rules[x.aw]?=some R->R.right[x.dot]?=some s->s < 0->g.rules[i]?=some R'->R'.left = -1 - s->a<=p.length->⟨i,0,a⟩∈S a
 null:∀ a x R s,x∈S a->g.rules[x.aw]?=some R->R.right[x.dot]?=some s->s < 0->(bz g false).getD (-1 - s).toNat false=true->a<=p.length->⟨x.aw,x.dot+1,x.L3⟩∈S a
 comp:∀ a y R' x R s,y∈S a->g.rules[y.aw]?=some R'->y.dot=R'.right.length->y.L3 < a->x∈S y.L3->g.rules[x.aw]?=some R->R.right[x.dot]?=some s->s < 0->R'.left = -1 - s->a<=p.length->⟨x.aw,x.dot+1,x.L3⟩∈S a
abbrev Tb:=List (List (List Bool))
theorem dH.QS {h:az} {v t:V} (f:dH h v t):Fr h v t:=by
 induction f with
 | val v=>exact .tree _ (.val v)
 | emp k=>exact .emp k
 | sl id off len esz z es es' hH hle hlen b _ c=>exact .sl id off len esz z es es' hH hle hlen b c
 | agg cs a b _ c=>exact .agg cs a b c
 | aS cs a b _ c=>exact .aS cs a b c
structure bu where
 aw:Int
 bS:Int
 rules:Int
 ao:Int
def ll:bu:=⟨(-1),0,0,0⟩
def bp:bu:=⟨0,0,0,0⟩
def bG (P:List bu) (m:Nat):bu:=P.getD m ll
abbrev cQ (x:Int):Nat:=(-1 - x).toNat
def bL (P:List bu):List Int->bu->bu × Bool
 | [],s=>(s,true)
 | x :: l,s=>if 0<=x then bL P l ⟨s.aw,s.bS,s.rules,min 1048576 (s.ao+1)⟩
  else if (bG P (cQ x)).aw < 0 then (s,false)
  else bL P l ⟨s.aw,max s.bS (bG P (cQ x)).bS,min 1048576 (s.rules+(bG P (cQ x)).rules),min 1048576 (s.ao+(bG P (cQ x)).ao)⟩
def bV (P:List bu) (m:Nat):Prop:=0<=(bG P m).aw
def kX (P:List bu) (l:List Int):Prop:=∀ x∈l,x < 0->bV P (cQ x)
theorem kP (P:List bu):∀ (l:List Int) (s:bu),(bL P l s).2=true↔kX P l
 | [],s=>by simp[bL,kX]
 | x :: l,s=>by
  simp only[bL,kX,SM]
  by_cases h:0<=x
  .rw[St h,kP P l]
   refine⟨λk y a b=>?_,λk y a=>k y (.inr a)⟩
   rcases a with rfl | a
   .omega
   .exact k y a b
  .rw[Sr h]
   by_cases c:(bG P (cQ x)).aw < 0
   .rw[St c]
    simp only[SU,false_iff]
    intro k
    have:=k x (.inl rfl) (by omega)
    unfold bV at this;omega
   .rw[Sr c,kP P l]
    refine⟨λk y a b=>?_,λk y a=>k y (.inr a)⟩
    rcases a with rfl | a
    .unfold bV;omega
    .exact k y a b
theorem iP (P:List bu) (k:Int):∀ (l:List Int) (s:bu),kX P l->((bL P l s).1.bS<=k↔s.bS<=k/\∀ x∈l,x < 0->(bG P (cQ x)).bS<=k)
 | [],s,_=>by simp[bL]
 | x :: l,s,h=>by
  have e:kX P l:=λy c=>h y (by simp[c])
  simp only[bL,SM]
  by_cases f:0<=x
  .rw[St f,iP P k l _ e]
   refine⟨λ⟨a,b⟩=>⟨a,λy c d=>?_⟩,λ⟨a,b⟩=>⟨a,λy c=>b y (.inr c)⟩⟩
   rcases c with rfl | c
   .omega
   .exact b y c d
  .have:=h x (by simp) (by omega)
   unfold bV at this
   rw[Sr f,Sr (by omega),iP P k l _ e]
   refine⟨λ⟨a,b⟩=>⟨by simp only at a;omega,λy c d=>?_⟩,λ⟨a,b⟩=>⟨by have:=b x (.inl rfl) (by omega);simp only;omega,λy c=>b y (.inr c)⟩⟩
   rcases c with rfl | c
   .simp only at a;omega
   .exact b y c d
theorem AU {P P':List bu} : ∀ (l:List Int) (s:bu),(∀ x∈l,x < 0->bG P (cQ x)=bG P' (cQ x))->bL P l s=bL P' l s
 | [],s,_=>rfl
 | x :: l,s,h=>by
  have b:=λs=>AU (P:=P) (P':=P') l s λy c=>h y (by simp[c])
  simp only[bL]
  by_cases a:0<=x
  .rw[St a,St a,b]
  .rw[Sr a,Sr a,h x (by simp) (by omega),b]
theorem sk (P:List bu):∀ (l:List Int) (s:bu),s.bS<=(bL P l s).1.bS
 | [],s=>Int.le_refl _
 | x :: l,s=>by
  simp only[bL]
  split
  .exact sk P l _
  .split
   .exact Int.le_refl _
   .have:=sk P l ⟨s.aw,max s.bS (bG P (cQ x)).bS,min 1048576 (s.rules+(bG P (cQ x)).rules),min 1048576 (s.ao+(bG P (cQ x)).ao)⟩
    simp only at this ⊢;omega
def gF (P:List bu) (i:Nat) (r:bk):bu:=⟨i,(bL P r.right bp).1.bS+1,min 1048576 ((bL P r.right bp).1.rules+1),(bL P r.right bp).1.ao⟩
def oY (P:List bu) (i:Nat) (N:List bu) (r:bk):List bu :=
 if 0<=(bG N r.left.toNat).aw then N else if (bL P r.right bp).2=true then N.set r.left.toNat (gF P i r) else N
def lF (P:List bu):Nat->List bu->List bk->List bu
 | _,N,[]=>N
 | i,N,r :: l=>lF P (i+1) (oY P i N r) l
def vZ (rules:List bk) (P:List bu):List bu:=lF P 0 P rules
def lU (P:List bu) (m:Nat):Nat->List bk->Option bu
 | _,[]=>none
 | i,r :: l=>if r.left.toNat=m/\(bL P r.right bp).2=true then some (gF P i r) else lU P m (i+1) l
theorem x6 {N:List bu} {i m:Nat} {p:bu} (hm:m < N.length):bG (N.set i p) m=if i=m then p else bG N m:=by
 simp only[bG,Sm,T0]
 split
 .rename_i e;subst e;simp[hm]
 .rfl
theorem CY (P:List bu) (i:Nat) (N:List bu) (r:bk):(oY P i N r).length=N.length:=by
 unfold oY;split; · rfl
 split <;> simp
theorem Dc (P:List bu):∀ (l:List bk) (i:Nat) (N:List bu),(lF P i N l).length=N.length
 | [],_,_=>rfl
 | r :: l,i,N=>by rw[lF,Dc P l,CY]
theorem D4 (P:List bu) (m:Nat):∀ (l:List bk) (i:Nat) (N:List bu),m < N.length->bG (lF P i N l) m=if 0<=(bG N m).aw then bG N m else (lU P m i l).getD (bG N m)
 | [],i,N,hm=>by simp[lF,lU]
 | r :: l,i,N,hm=>by
  rw[lF,D4 P m l (i+1) _ (by rw[CY];exact hm),lU]
  unfold oY
  by_cases h1:0<=(bG N r.left.toNat).aw
  .rw[St h1]
   by_cases a:r.left.toNat=m
   .subst a
    rw[St h1,St h1]
   .rw[Sr (c:=r.left.toNat=m/\_) (λe=>a e.1)]
  .rw[Sr h1]
   by_cases b:(bL P r.right bp).2=true
   .rw[St b]
    by_cases a:r.left.toNat=m
    .subst a
     rw[x6 hm,St rfl,Sr h1,St (show (0:Int)<=(gF P i r).aw by simp only[gF];omega),St (c:=r.left.toNat=r.left.toNat/\_) (And.intro rfl b)]
     rfl
    .rw[x6 hm,Sr a,Sr (c:=r.left.toNat=m/\_) (λe=>a e.1)]
   .rw[Sr b,Sr (c:=r.left.toNat=m/\_) (λe=>b e.2)]
theorem j0 {P:List bu} {m:Nat} : ∀ {l:List bk} {i:Nat} {p:bu},lU P m i l=some p->∃ (j:Nat) (r:bk),l[j]?=some r/\r.left.toNat=m/\kX P r.right/\p=gF P (i+j) r/\∀ (f:Nat) (g:bk),f < j->l[f]?=some g->g.left.toNat=m->¬ kX P g.right
 | [],i,p,h=>by simp[lU] at h
 | r :: l,i,p,h=>by
  rw[lU] at h
  by_cases k:r.left.toNat=m/\(bL P r.right bp).2=true
  .rw[St k] at h
   exact⟨0,r,rfl,k.1,(kP P _ _).1 k.2,by simpa using h.symm,λf g o=>by omega⟩
  .rw[Sr k] at h
   obtain⟨j,q,a,b,c,d,e⟩:=j0 h
   refine⟨j+1,q,by simpa using a,b,c,by rw[d];congr 1;omega,λf g o hr n hk=>?_⟩
   cases f with
   | zero =>
    simp at hr;subst hr
    exact k ⟨n,(kP P _ _).2 hk⟩
   | succ f=>exact e f g (by omega) (by simpa using hr) n hk
theorem Cp {P:List bu} {m:Nat} : ∀ {l:List bk} {i:Nat},lU P m i l=none->∀ r∈l,r.left.toNat=m->¬ kX P r.right
 | [],i,h,r,hr,_,_=>by simp at hr
 | r :: l,i,h,c,hr,b,hk=>by
  rw[lU] at h
  by_cases a:r.left.toNat=m/\(bL P r.right bp).2=true
  .rw[St a] at h;simp at h
  .rw[Sr a] at h
   rcases SM.1 hr with rfl | hr
   .exact a ⟨b,(kP P _ _).2 hk⟩
   .exact Cp h c hr b hk
def aB (g:af) (k:Nat):List bu:=iter (vZ g.rules) k (List.replicate g.aj.length ll)
theorem CH {α:Type} (f:α->α):∀ (k:Nat) (x:α),iter f (k+1) x=f (iter f k x)
 | 0,x=>rfl
 | k+1,x=>by rw[iter,CH f k,iter]
theorem mR (g:af) (k:Nat):aB g (k+1)=vZ g.rules (aB g k):=CH _ _ _
theorem ga (g:af):∀ k,(aB g k).length=g.aj.length
 | 0=>by simp[aB,iter]
 | k+1=>by rw[mR,vZ,Dc,ga g k]
theorem BI {P:List bu} {m:Nat} (h:P.length<=m):bG P m=ll:=by simp[bG,Sm,Te h]
theorem Gd {P:List bu} {m:Nat} (h:bV P m):m < P.length:=by
 rcases SY m P.length with h1 | h1
 .exact h1
 .unfold bV at h;rw[BI h1] at h;simp[ll] at h
theorem rF (g:af) (k m:Nat):bG (aB g (k+1)) m=if 0<=(bG (aB g k) m).aw then bG (aB g k) m else if m < g.aj.length then (lU (aB g k) m 0 g.rules).getD (bG (aB g k) m) else bG (aB g k) m:=by
 by_cases hm:m < g.aj.length
 .rw[mR,vZ,D4 _ _ _ _ _ (by rw[ga];exact hm),St hm]
 .rw[Sr hm,BI (by rw[ga];omega),BI (by rw[ga];omega)]
  simp
theorem A3 {g:af} {k m:Nat} (h:bV (aB g k) m):bG (aB g (k+1)) m=bG (aB g k) m:=by
 rw[rF];unfold bV at h;rw[St h]
theorem yI {g:af} {k m:Nat} (h:bV (aB g k) m):∀ d,bG (aB g (k+d)) m=bG (aB g k) m
 | 0=>rfl
 | d+1=>by
  have a:=yI h d
  have:bV (aB g (k+d)) m:=by unfold bV at h ⊢;rw[a];exact h
  rw[<-a,<-A3 this];rfl
theorem gK {g:af} {k m j:Nat} (h:bV (aB g k) m) (a:k<=j):bG (aB g j) m=bG (aB g k) m/\bV (aB g j) m:=by
 obtain⟨d,rfl⟩:∃ d,j=k+d:=⟨j - k,by omega⟩
 have:=yI h d
 exact⟨this,by unfold bV at h ⊢;rw[this];exact h⟩
theorem xu {g:af} {k m:Nat} (a:¬ bV (aB g k) m) (h:bV (aB g (k+1)) m):lU (aB g k) m 0 g.rules=some (bG (aB g (k+1)) m):=by
 unfold bV at h a
 rw[rF,Sr a] at h
 rw[rF,Sr a]
 split at h
 .rename_i hm
  rw[St hm]
  cases b:lU (aB g k) m 0 g.rules with
  | none=>rw[b] at h;exact absurd h a
  | some p=>rfl
 .exact absurd h a
theorem oK {g:af} {m:Nat} : ∀ {k:Nat},¬ bV (aB g k) m->bG (aB g k) m=ll
 | 0,_=>by
  simp only[aB,iter,bG,Sm,Uc]
  split <;> rfl
 | k+1,h=>by
  have a:¬ bV (aB g k) m:=λe=>h (gK e (by omega)).2
  unfold bV at h a
  rw[rF,Sr a] at h ⊢
  split
  .rename_i hm
   rw[St hm] at h
   cases b:lU (aB g k) m 0 g.rules with
   | none=>exact oK (k:=k) a
   | some p =>
    rw[b] at h
    obtain⟨j,r,_,_,_,rfl,_⟩:=j0 b
    simp only[SJ,gF] at h;omega
  .exact oK (k:=k) a
theorem gm (g:af):∀ k:Nat,∀ m,bV (aB g k) m->1<=(bG (aB g k) m).bS/\(bG (aB g k) m).bS<=k/\∀ j:Nat,j<=k->(bG (aB g k) m).bS<=j->bV (aB g j) m
 | 0,m,h=>by
  unfold bV at h
  have:bG (aB g 0) m=ll:=by
   simp only[aB,iter,bG,Sm,Uc]
   split <;> rfl
  rw[this] at h;simp[ll] at h
 | k+1,m,h=>by
  have q:=gm g k
  by_cases f:bV (aB g k) m
  .obtain⟨a,b,c⟩:=q m f
   rw[(gK f (Nat.le_succ k)).1]
   refine⟨a,by push_cast;omega,λj u t=>?_⟩
   rcases SY k j with e | e
   .exact(gK f (by omega)).2
   .exact c j e t
  .have v:=xu f h
   obtain⟨i,r,hr,w,hk,hp,_⟩:=j0 v
   have t:(bG (aB g (k+1)) m).bS=(bL (aB g k) r.right bp).1.bS+1:=by rw[hp];rfl
   have h1:=sk (aB g k) r.right bp
   have B:=(iP (aB g k) k r.right bp hk).2 ⟨by simp[bp],λx n o=>(q _ (hk x n o)).2.1⟩
   have C:¬ (bL (aB g k) r.right bp).1.bS<=(k:Int) - 1:=by
    intro hle
    have y:(0:Int)<=(bL (aB g k) r.right bp).1.bS:=h1
    obtain⟨d,rfl⟩:∃ d,k=d+1:=⟨k - 1,by omega⟩
    have z:=((iP (aB g (d+1)) _ r.right bp hk).1 hle).2
    have A:kX (aB g d) r.right:=λx n o=>(q _ (hk x n o)).2.2 d (by omega) (by have:=z x n o;push_cast at this;omega)
    apply f
    by_cases s:bV (aB g d) m
    .exact(gK s (by omega)).2
    .unfold bV at s ⊢
     have hm:=Gd h
     rw[ga] at hm
     rw[rF,Sr s,St hm]
     cases l:lU (aB g d) m 0 g.rules with
     | none=>exact absurd A (Cp l r (SK hr) w)
     | some p =>
      obtain⟨j,D,_,_,_,rfl,_⟩:=j0 l
      simp only[SJ,gF];omega
   have y:(0:Int)<=(bL (aB g k) r.right bp).1.bS:=h1
   refine⟨by omega,by push_cast;omega,λj u hle=>?_⟩
   have:j=k+1:=by omega
   subst this;exact h
theorem uj {g:af} {m:Nat} : ∀ {k:Nat},bV (aB g k) m->∃ j,j < k/\¬ bV (aB g j) m/\(bG (aB g k) m).bS=j+1/\lU (aB g j) m 0 g.rules=some (bG (aB g k) m)
 | 0,h=>by
  have:=(gm g 0 m h)
  simp at this;omega
 | k+1,h=>by
  by_cases f:bV (aB g k) m
  .obtain⟨j,a,b,c,d⟩:=uj f
   rw[(gK f (Nat.le_succ k)).1]
   exact⟨j,by omega,b,c,d⟩
  .refine⟨k,by omega,f,?_,xu f h⟩
   obtain⟨a,b,c⟩:=gm g (k+1) m h
   rcases Int.lt_or_le (k:Int) (bG (aB g (k+1)) m).bS with e | e
   .push_cast at b;omega
   .exact absurd (c k (by omega) e) f
def rD (P:List bu):List Bool:=P.map λp=>decide (0<=p.aw)
theorem Al (P:List bu) (m:Nat):(rD P).getD m false=true↔bV P m:=by
 simp only[rD,bV,bG,Sm,Ss]
 cases P[m]? with
 | none=>simp[ll]
 | some p=>simp
theorem QI (g:af) (k:Nat):gT (rD (aB g k)) (rD (aB g (k+1))) :=
 ⟨by simp[rD,ga],λi h=>(Al _ _).2 (gK ((Al _ _).1 h) (by omega)).2⟩
theorem Qs {g:af} {k:Nat} (h:rD (aB g k)=rD (aB g (k+1))):aB g (k+1)=aB g k:=by
 have hp:∀ m,bG (aB g (k+1)) m=bG (aB g k) m:=λm=>by
  by_cases a:bV (aB g k) m
  .exact A3 a
  .have h1:¬ bV (aB g (k+1)) m:=λe=>a ((Al _ _).1 (by rw[h];exact(Al _ _).2 e))
   rw[oK a,oK h1]
 apply List.ext_getElem (by rw[ga,ga])
 intro m h1 b
 have:=hp m
 simpa [bG,Sm,h1,b] using this
theorem JO {g:af} {k:Nat} (hk:k<=dL (rD (aB g k))):aB g (k+1)=aB g k∨k+1<=dL (rD (aB g (k+1))):=by
 have:=(QI g k).dL
 by_cases e:dL (rD (aB g k))=dL (rD (aB g (k+1)))
 .exact .inl (Qs (this.2 e))
 .exact .inr (by omega)
theorem Gs (g:af) (k:Nat):dL (rD (aB g k))<=g.aj.length:=by
 have:=uE (rD (aB g k))
 simpa [rD,ga] using this
theorem zM {g:af} {k:Nat} (h:aB g (k+1)=aB g k):∀ d,aB g (k+d)=aB g k
 | 0=>rfl
 | d+1=>by
  have a:=zM h d
  rw[<-TY,mR,a,<-mR,h]
def aA (g:af):List bu:=aB g g.aj.length
theorem wL (g:af):(aA g).length=g.aj.length:=ga _ _
theorem OO {g:af} {k:Nat} (hk:k<=g.aj.length) (h:aB g (k+1)=aB g k):aB g k=aA g:=by
 obtain⟨d,a⟩:∃ d,g.aj.length=k+d:=⟨g.aj.length - k,by omega⟩
 rw[aA,a,zM h d]
theorem sS {g:af} {m:Nat} (h:bV (aA g) m):1<=(bG (aA g) m).bS/\(bG (aA g) m).bS<=g.aj.length:=⟨(gm g _ m h).1,(gm g _ m h).2.1⟩
theorem GO {g:af} {m:Nat} (h:bV (aA g) m):∃ (i:Nat) (r:bk),g.rules[i]?=some r/\r.left.toNat=m/\kX (aA g) r.right/\bG (aA g) m=gF (aA g) i r /\
  ∀ (j:Nat) (a:bk),j < i->g.rules[j]?=some a->a.left.toNat=m->kX (aA g) a.right->(bL (aA g) a.right bp).1.bS+1≠(bG (aA g) m).bS:=by
 obtain⟨k,hk,b,p,q⟩:=uj h
 obtain⟨i,r,hr,s,o,hp,e⟩:=j0 q
 have c:∀ x∈r.right,x < 0->bG (aB g k) (cQ x)=bG (aA g) (cQ x):=λx d b=>((gK (o x d b) (by omega)).1).symm
 have t:bL (aB g k) r.right bp=bL (aA g) r.right bp:=AU _ _ c
 refine⟨i,r,hr,s,λx d b=>(gK (o x d b) (by omega)).2,?_,λj a u l n f he=>?_⟩
 .show bG (aB g g.aj.length) m=_
  rw[hp];unfold gF;rw[t,Tt]
 .have h1:(bG (aA g) m).bS=k+1:=p
  refine e j a u l n λx d b=>?_
  have v:=((iP (aA g) k a.right bp f).1 (by omega)).2 x d b
  exact(gm g _ _ (f x d b)).2.2 k (by omega) v
theorem Dh {P:List bu} {x:Int} {l:List Int} {s:bu} (h:0<=x):bL P (x :: l) s=bL P l ⟨s.aw,s.bS,s.rules,min 1048576 (s.ao+1)⟩:=by rw[bL,St h]
theorem DY {P:List bu} {x:Int} {l:List Int} {s:bu} (h:¬ 0<=x) (hk:¬ (bG P (cQ x)).aw < 0):bL P (x :: l) s=bL P l ⟨s.aw,max s.bS (bG P (cQ x)).bS,min 1048576 (s.rules+(bG P (cQ x)).rules),min 1048576 (s.ao+(bG P (cQ x)).ao)⟩:=by rw[bL,Sr h,Sr hk]
theorem Lv {P:List bu} {x:Int} {l:List Int} {s:bu} (h:¬ 0<=x) (hk:(bG P (cQ x)).aw < 0):bL P (x :: l) s=(s,false):=by rw[bL,Sr h,St hk]
def fP (p:bu):Prop:=(0<=p.rules/\p.rules<=1048576)/\(0<=p.ao/\p.ao<=1048576)
theorem qV {P:List bu} (a:∀ m,fP (bG P m)):∀ (l:List Int) (s:bu),fP s->fP (bL P l s).1
 | [],s,h=>h
 | x :: l,s,h=>by
  have b:=a (cQ x)
  unfold fP at h b
  simp only[bL]
  split
  .exact qV a l _ (by unfold fP;simp only;omega)
  .split
   .exact h
   .exact qV a l _ (by unfold fP;simp only;omega)
theorem ko:fP bp:=by unfold fP;simp[bp]
theorem K3:fP ll:=by unfold fP;simp[ll]
theorem pE (g:af):∀ k m,fP (bG (aB g k) m)
 | 0,m=>by
  have:bG (aB g 0) m=ll:=by
   simp only[aB,iter,bG,Sm,Uc]
   split <;> rfl
  rw[this];exact K3
 | k+1,m=>by
  by_cases h:bV (aB g (k+1)) m
  .by_cases a:bV (aB g k) m
   .rw[(gK a (Nat.le_succ k)).1];exact pE g k m
   .obtain⟨i,r,_,_,_,hp,_⟩:=j0 (xu a h)
    rw[hp]
    have:=qV (pE g k) r.right bp ko
    unfold fP at this ⊢
    simp only[gF];omega
  .rw[oK h];exact K3
def AF (g:af) (i:Int):List Int:=(g.rules.getD i.toNat ⟨0,[],0⟩).right
def dZ (g:af) (P:List bu):Nat->List Int->List Int
 | 0,l=>l.flatMap λx=>if 0<=x then [x] else []
 | f+1,l=>l.flatMap λx=>if 0<=x then [x] else dZ g P f (AF g (bG P (cQ x)).aw)
def er (g:af) (P:List bu):Nat->List Int->List Int
 | 0,_=>[]
 | f+1,l=>l.flatMap λx=>if 0<=x then [] else (bG P (cQ x)).aw :: er g P f (AF g (bG P (cQ x)).aw)
def C1 (P:List bu) (f:Nat) (l:List Int):Prop:=∀ x∈l,x < 0->bV P (cQ x)/\(bG P (cQ x)).bS<=f
theorem xh (g:af) (P:List bu) (f:Nat):dZ g P f []=[]:=by cases f <;> rfl
theorem Dn (g:af) (P:List bu) (f:Nat):er g P f []=[]:=by cases f <;> rfl
theorem jh (g:af) (P:List bu) (f:Nat) (a b:List Int):dZ g P f (a ++ b)=dZ g P f a ++ dZ g P f b:=by cases f <;> simp[dZ]
theorem kq (g:af) (P:List bu) (f:Nat) (a b:List Int):er g P f (a ++ b)=er g P f a ++ er g P f b:=by cases f <;> simp[er]
theorem qq {g:af} {P:List bu} {f:Nat} {x:Int} (h:0<=x):dZ g P f [x]=[x]:=by cases f <;> simp[dZ,h]
theorem uu {g:af} {P:List bu} {f:Nat} {x:Int} (h:0<=x):er g P f [x]=[]:=by cases f <;> simp[er,h]
theorem pn {g:af} {P:List bu} {f:Nat} {x:Int} (h:x < 0):dZ g P (f+1) [x]=dZ g P f (AF g (bG P (cQ x)).aw):=by
 simp[dZ,show ¬ 0<=x by omega]
theorem pC {g:af} {P:List bu} {f:Nat} {x:Int} (h:x < 0):er g P (f+1) [x]=(bG P (cQ x)).aw :: er g P f (AF g (bG P (cQ x)).aw):=by
 simp[er,show ¬ 0<=x by omega]
theorem Ie {g:af} {l:List Int} (h:C1 (aA g) 0 l):∀ x∈l,0<=x:=λx c=>by
 rcases Int.lt_or_le x 0 with h1 | h1
 .obtain⟨a,b⟩:=h x c h1
  have:=(sS a).1
  simp at b;omega
 .exact h1
theorem zn {g:af} {f:Nat} {m:Nat} (h:bV (aA g) m) (d:(bG (aA g) m).bS<=(f:Int)+1):∃ (i:Nat) (r:bk),(bG (aA g) m).aw=i/\g.rules[i]?=some r/\AF g (bG (aA g) m).aw=r.right/\C1 (aA g) f r.right/\bG (aA g) m=gF (aA g) i r:=by
 obtain⟨i,r,hr,e,a,hp,_⟩:=GO h
 have hi:(bG (aA g) m).aw=i:=by rw[hp];rfl
 have j:(bG (aA g) m).bS=(bL (aA g) r.right bp).1.bS+1:=by rw[hp];rfl
 have h1:=((iP (aA g) f r.right bp a).1 (by omega)).2
 refine⟨i,r,hi,hr,?_,λx b c=>⟨a x b c,h1 x b c⟩,hp⟩
 rw[hi];simp[AF,Sm,hr]
theorem kL {g:af} {f:Nat} (c:∀ x,x < 0->bV (aA g) (cQ x)->(bG (aA g) (cQ x)).bS<=f->(bG (aA g) (cQ x)).rules=min 1048576 ((er g (aA g) f [x]).length:Int)/\(bG (aA g) (cQ x)).ao=min 1048576 ((dZ g (aA g) f [x]).length:Int)) :
  ∀ (l:List Int) (s:bu),C1 (aA g) f l->fP s->(bL (aA g) l s).1.rules=min 1048576 (s.rules+(er g (aA g) f l).length)/\(bL (aA g) l s).1.ao=min 1048576 (s.ao+(dZ g (aA g) f l).length)
 | [],s,_,d=>by
  unfold fP at d
  rw[xh,Dn]
  simp only[bL,SZ];omega
 | x :: l,s,hu,d=>by
  have a:C1 (aA g) f l:=λy i=>hu y (by simp[i])
  have e:=jh g (aA g) f [x] l
  have h:=kq g (aA g) f [x] l
  rw[List.singleton_append] at e h
  rw[e,h,SV,SV]
  have j:fP (bG (aA g) (cQ x)):=pE g g.aj.length (cQ x)
  unfold fP at d j
  by_cases b:0<=x
  .obtain⟨i1,i2⟩:=kL c l ⟨s.aw,s.bS,s.rules,min 1048576 (s.ao+1)⟩ a (by unfold fP;simp only;omega)
   rw[Dh b,i1,i2,qq b,uu b]
   simp only[SA,SZ]
   omega
  .obtain⟨hk,k⟩:=hu x (by simp) (by omega)
   obtain⟨m,k2⟩:=c x (by omega) hk k
   obtain⟨i1,i2⟩:=kL c l ⟨s.aw,max s.bS (bG (aA g) (cQ x)).bS,min 1048576 (s.rules+(bG (aA g) (cQ x)).rules),min 1048576 (s.ao+(bG (aA g) (cQ x)).ao)⟩ a (by unfold fP;simp only;omega)
   unfold bV at hk
   rw[DY b (by omega),i1,i2,m,k2]
   push_cast
   omega
theorem pQ (g:af):∀ (f:Nat) (l:List Int) (s:bu),C1 (aA g) f l->fP s ->
  (bL (aA g) l s).1.rules=min 1048576 (s.rules+(er g (aA g) f l).length)/\(bL (aA g) l s).1.ao=min 1048576 (s.ao+(dZ g (aA g) f l).length)
 | 0,l,s,hu,b=>kL (λx c hk a=>by have:=(sS hk).1;simp only[Int.natCast_zero] at a;omega) l s hu b
 | f+1,l,s,hu,b=>kL (λx c hk a=>by
   obtain⟨i,r,hi,hr,d,e,hp⟩:=zn (f:=f) hk (by push_cast at a;exact a)
   obtain⟨h,j⟩:=pQ g f r.right bp e ko
   have k:(bG (aA g) (cQ x)).rules=min 1048576 ((bL (aA g) r.right bp).1.rules+1):=by rw[hp];rfl
   have k2:(bG (aA g) (cQ x)).ao=(bL (aA g) r.right bp).1.ao:=by rw[hp];rfl
   rw[pn c,pC c,d,k,k2,h,j]
   simp only[SA,bp]
   push_cast
   omega) l s hu b
theorem oR {g:af} {f:Nat} (a:∀ x,x < 0->(dZ g (aA g) f [x]).length<=6 * (er g (aA g) f [x]).length):∀ (l:List Int),(dZ g (aA g) f l).length<=l.length+6 * (er g (aA g) f l).length
 | []=>by rw[xh];simp
 | x :: l=>by
  have b:=jh g (aA g) f [x] l
  have c:=kq g (aA g) f [x] l
  rw[List.singleton_append] at b c
  rw[b,c,SV,SV]
  have e:=oR a l
  by_cases d:0<=x
  .rw[qq d,uu d]
   simp only[SA,SZ];omega
  .have:=a x (by omega)
   simp only[SA];omega
theorem Pq {g:af} (a:∀ r∈g.rules,r.right.length<=6) (i:Int):(AF g i).length<=6:=by
 simp only[AF,Sm]
 cases hr:g.rules[i.toNat]? with
 | none=>simp
 | some r=>simpa using a r (SK hr)
theorem C2 {g:af} (b:∀ r∈g.rules,r.right.length<=6):∀ (f:Nat) (l:List Int),(dZ g (aA g) f l).length<=l.length+6 * (er g (aA g) f l).length
 | 0,l=>oR (λx a=>by simp[dZ,show ¬ 0<=x by omega]) l
 | f+1,l=>oR (λx a=>by
  have i2:=C2 b f (AF g (bG (aA g) (cQ x)).aw)
  have:=Pq b (bG (aA g) (cQ x)).aw
  rw[pn a,pC a]
  simp only[SA];omega) l
def fG (g:af) (l:List Int):List Int × Int :=
 if (ca g && l.all (eo g))=true then
  (if (bL (aA g) l bp).2=false then ([],9) else if 300 < (bL (aA g) l bp).1.rules∨60 < (bL (aA g) l bp).1.ao then ([],13) else (dZ g (aA g) g.aj.length l,0))
 else ([],1)
theorem P9:qd.Ok:=by
 refine⟨by unfold aK;decide,by unfold aK;decide,by unfold aK;decide,by unfold bK;decide,?_,?_⟩
 .intro t a;simp[qd] at a
 .intro r hr;simp[qd] at hr
section
variable {g r:af} {p q:List Bool} {o:List Int}
end
theorem bytes_beq (a b:ByteArray):(a == b)=decide (a=b):=by
 cases a with | mk a=>cases b with | mk b =>
 rw[TE]
 show (ByteArray.beq ⟨a⟩ ⟨b⟩=true)↔_
 simp only[ByteArray.beq]
 simp
theorem Ci (a b:ByteArray):iz a b=decide (a=b):=by
 cases a with | mk a=>cases b with | mk b =>
 rw[TE]
 simp[iz]
theorem oQ {α:Type} {a b:List α} {i:Nat} {x y:α} (c:a[i]?=some x) (d:b[i]?=some y) (h:a.take i=b.take i) (e:x=y):a.take (i+1)=b.take (i+1):=by
 rw[S6,S6,h,c,d,e]
theorem rh {α:Type} {a b:List α} {i:Nat} (c:a.length<=i) (d:b.length<=i) (h:a.take i=b.take i):a=b:=by
 rwa [SL c,SL d] at h
theorem uk {α:Type} {a b:List α} {i:Nat} {x y:α} (d:a[i]?=some x) (c:b[i]?=some y) (e:x≠y):a≠b:=by
 rintro rfl;rw[d] at c;exact e (by simpa using c)
theorem rm {α:Type} {a b:List α} (h:¬ a.length=b.length):a≠b:=λe=>h (by rw[e])
theorem yL (x y:Term):gx Tryz.prog 9998 #[.string x.name,.int .i64 x.level,.int .i64 x.assoc] #[.string y.name,.int .i64 y.level,.int .i64 y.assoc]
  [{ name:= "Name",type:=9,offset:=0,embedded:=false,tag:= "",pkgPath:= "",byteOffset:=0 },{ name:= "Level",type:=3,offset:=1,embedded:=false,tag:= "",pkgPath:= "",byteOffset:=16 },
   { name:= "Assoc",type:=3,offset:=2,embedded:=false,tag:= "",pkgPath:= "",byteOffset:=24 }] (x.name == y.name && (x.level == y.level && (x.assoc == y.assoc && true))) :=
 .str _ _ _ _ _ (by decide) Tryz.underlying9 rfl rfl (.int _ _ _ _ _ _ (by decide) Tryz.underlying3 rfl rfl (.int _ _ _ _ _ _ (by decide) Tryz.underlying3 rfl rfl .nil))
theorem HG (x y:Term):(x.name == y.name && (x.level == y.level && (x.assoc == y.assoc && true)))=decide (x=y):=by
 rw[bytes_beq,TE]
 cases x;cases y
 simp
theorem Po (a b:Int):(a == b)=decide (a=b):=by rw[TE];simp
theorem N7 (x y:bk):decide (x=y)=(decide (x.left=y.left) && (decide (x.prec=y.prec) && decide (x.right=y.right))):=by
 cases x;cases y
 rw[TE]
 simp[and_comm]
theorem Ga (x y:af):decide (x=y)=(decide (x.ao=y.ao) && (decide (x.aj=y.aj) && (decide (x.rules=y.rules) && decide (x.start=y.start)))):=by
 cases x;cases y
 rw[TE]
 simp
theorem Ch (g k:af):∀ v∈[V.agg (ag g),V.agg (ag k)],Tree v:=by
 intro v a;simp at a
 rcases a with rfl | rfl <;> exact cn _ (cM _)
def mM:SC :=
 ae [ae [ab [aa 42 5,al 43 0 2,ak 44 43,aP 45 44,aU 46 .lss 42 45],cb 46 (.exit 0)],.block 1 (ae [ab [al 49 0 2,ak 50 49,aa 51 5,aZ 52 3 50 51,ba 53 3 52,al 54 0 3,ak 55 54,aa 56 5,aZ 57 3 55 56,ba 58 3 57,((some 59),.op (.old (.binOp .neq 130 (.tmp 53) (.tmp 58) 130) 4))],bf 59 (ae [ab [bm 4 false],.ret])]),ab [aa 47 5,aF 48 .add 47 1,aa 5 48]]
def mS:SC :=
 ae [ae [ab [aa 60 6,al 61 1 2,ak 62 61,aP 63 62,aU 64 .lss 60 63],cb 64 (.exit 2)],.block 3 (ae [ab [al 67 1 2,ak 68 67,aa 69 6,aZ 70 1 68 69,ak 71 70,al 72 1 3,ak 73 72,aa 74 6,aZ 75 1 73 74,ak 76 75,((some 77),.op (.vr .neq (.tmp 71) (.tmp 76)))],bf 77 (ae [ab [bm 4 false],.ret])]),ab [aa 65 6,aF 66 .add 65 1,aa 6 66]]
def nb:SC :=
 ae [ae [ab [aa 78 7,al 79 2 2,ak 80 79,aP 81 80,aU 82 .lss 78 81],cb 82 (.exit 4)],.block 5 (ae [ab [al 85 2 2,ak 86 85,aa 87 7,aZ 88 3 86 87,ba 89 3 88,al 90 2 3,ak 91 90,aa 92 7,aZ 93 3 91 92,ba 94 3 93,((some 8),.op (.alloc [(.val (.int .i64 0)),(.emp 1),(.val (.int .i64 0))])),((some 9),.op (.alloc [(.val (.int .i64 0)),(.emp 1),(.val (.int .i64 0))])),cL 3 8 89,cL 3 9 94],.region false [⟨none,[al 95 0 8,ak 96 95,al 97 0 9,ak 98 97,aU 99 .neq 96 98,aa 100 99]⟩,⟨(some (100,false)),[al 101 2 8,ak 102 101,al 103 2 9,ak 104 103,aU 105 .neq 102 104]⟩,⟨none,[cR 106 100 105,aa 107 106]⟩,⟨(some (107,false)),[al 108 1 8,ak 109 108,al 110 1 9,ak 111 110,bg 112 26 [109,111],dp 113 112]⟩,⟨none,[cR 114 107 113]⟩],bf 114 (ae [ab [bm 4 false],.ret])]),ab [aa 83 7,aF 84 .add 83 1,aa 7 84]]
def pW:SF:=⟨ae [ab [cG 2 0,cG 3 1,bm 4 false],ae [.region false [⟨none,[al 10 0 2,ak 11 10,aP 12 11,al 13 0 3,ak 14 13,aP 15 14,aU 16 .neq 12 15,aa 17 16]⟩,⟨(some (17,false)),[al 18 1 2,ak 19 18,aP 20 19,al 21 1 3,ak 22 21,aP 23 22,aU 24 .neq 20 23]⟩,⟨none,[cR 25 17 24,aa 26 25]⟩,⟨(some (26,false)),[al 27 2 2,ak 28 27,aP 29 28,al 30 2 3,ak 31 30,aP 32 31,aU 33 .neq 29 32]⟩,⟨none,[cR 34 26 33,aa 35 34]⟩,⟨(some (35,false)),[al 36 3 2,ak 37 36,al 38 3 3,ak 39 38,aU 40 .neq 37 39]⟩,⟨none,[cR 41 35 40]⟩],bf 41 (ae [ab [bm 4 false],.ret])],ae [ab [aR 5 0],cd 0 mM],ae [ab [aR 6 0],cd 2 mS],ae [ab [aR 7 0],cd 4 nb],ab [bm 4 true],.ret],
 [.tmp 4],115⟩
theorem tc:aI Tryz.prog 31 [2,3]=some pW:=by kernel_rfl
theorem LG (g k:af) (o:g.Ok):ay Tryz.prog 31 [.agg (ag g),.agg (ag k)] (gb (decide (g=k))):=by
 refine ay.val (Ch g k) λH=>?_
 rw[Ga]
 refine au.of mixed tc ?_
 have h1:=o.ao
 have v:=o.aj
 have w:=o.rules
 unfold aK at h1 v w
 simp(disch:=omega)only[↓wr,seval,wq,pW,ag,encS]
 repeat' (first | ((first|apply ai.dec|apply ai.eq|apply ai.ne|apply ai.split)<;>intro)|(simp(disch:=omega)only[↓wr,seval,wq,ag,encS]))
 .rename_i e;rw[decide_eq_false (rm (by omega))];rfl
 .rename_i e;rw[decide_eq_false (p:=g.aj=k.aj) (rm (by omega))];simp
 .rename_i e;rw[decide_eq_false (p:=g.rules=k.rules) (rm (by omega))];simp
 .rename_i e;rw[decide_eq_false e];simp
 rename_i A B C z
 refine aY.up g.ao.length (λi T _=>g.ao.take i=k.ao.take i/\T 2=.aG (ag g) 0/\T 3=.aG (ag k) 0/\T 5=gi i) ⟨by simp,rfl,rfl,rfl⟩ ?_
 rintro i m T H hm ⟨hi,t2,t3,t5⟩
 simp(disch:=omega)only[↓wr,seval,wq,mM,t2,t3,t5,ag,encS]
 apply ai.dec<;>intro d
 .have a:=Sn (l:=g.ao) (i:=i) (by omega)
  have b:=Sn (l:=k.ao) (i:=i) (by omega)
  generalize g.ao[i]'(by omega)=x at a
  generalize k.ao[i]'(by omega)=y at b
  simp(disch:=omega)only[↓wr,seval,wq,t2,t3,t5,Ss,a,b,de,ag,encS]
  refine iL (xs:=#[.string x.name,.int .i64 x.level,.int .i64 x.assoc]) (ys:=#[.string y.name,.int .i64 y.level,.int .i64 y.assoc]) Tryz.underlying130 (by kernel_rfl) (by kernel_rfl) ?_ ?_ (yL x y) (.inr ⟨rfl,rfl⟩) ?_
  .rfl
  .rfl
  rw[HG]
  simp(disch:=omega)only[↓wr,seval,wq,t2,t3,t5]
  apply ai.split<;>intro e
  .simp(disch:=omega)only[↓wr,seval,wq,t2,t3,t5]
   exact aH hm (by omega) ⟨oQ a b hi (by simpa using e),t2,t3,rfl⟩
  .simp(disch:=omega)only[↓wr,seval,wq,t2,t3,t5]
   rw[decide_eq_false (uk a b (by simpa using e))];rfl
 have s:g.ao=k.ao:=rh (by omega) (by omega) hi
 simp(disch:=omega)only[↓wr,seval,wq,t2,t3,t5]
 clear hi d hm
 refine aY.up g.aj.length (λi T _=>g.aj.take i=k.aj.take i/\T 2=.aG (ag g) 0/\T 3=.aG (ag k) 0/\T 6=gi i) ⟨by simp,t2,t3,rfl⟩ ?_
 clear t2 t3 t5 T H i m
 rintro i m T H hm ⟨hi,t2,t3,t5⟩
 simp(disch:=omega)only[↓wr,seval,wq,mS,t2,t3,t5,ag,encS]
 apply ai.dec<;>intro d
 .have a:=Sn (l:=g.aj) (i:=i) (by omega)
  have b:=Sn (l:=k.aj) (i:=i) (by omega)
  generalize g.aj[i]'(by omega)=x at a
  generalize k.aj[i]'(by omega)=y at b
  simp(disch:=omega)only[↓wr,seval,wq,t2,t3,t5,Ss,a,b,de,ag,encS,Ci]
  apply ai.split<;>intro e
  .simp(disch:=omega)only[↓wr,seval,wq,t2,t3,t5]
   exact aH hm (by omega) ⟨oQ a b hi (by simpa using e),t2,t3,rfl⟩
  .simp(disch:=omega)only[↓wr,seval,wq,t2,t3,t5]
   rw[decide_eq_false (p:=g.aj=k.aj) (uk a b (by simpa using e))];simp
 have t:g.aj=k.aj:=rh (by omega) (by omega) hi
 simp(disch:=omega)only[↓wr,seval,wq,t2,t3,t5]
 clear hi d hm
 refine aY.up g.rules.length (λi T _=>g.rules.take i=k.rules.take i/\T 2=.aG (ag g) 0/\T 3=.aG (ag k) 0/\T 7=gi i) ⟨by simp,t2,t3,rfl⟩ ?_
 clear t2 t3 t5 T H i m
 rintro i m T H hm ⟨hi,t2,t3,t5⟩
 simp(disch:=omega)only[↓wr,seval,wq,nb,t2,t3,t5,ag,encS]
 apply ai.dec<;>intro d
 .have a:=Sn (l:=g.rules) (i:=i) (by omega)
  have b:=Sn (l:=k.rules) (i:=i) (by omega)
  have j:g.rules[i]'(by omega)∈g.rules:=Sx _
  generalize g.rules[i]'(by omega)=x at a j
  generalize k.rules[i]'(by omega)=y at b
  have q:=(o.aw x j).2.2.1
  simp(disch:=omega)only[↓wr,seval,wq,t2,t3,t5,Ss,a,b,aQ,encI,ag,encS]
  intro n D
  try simp(disch:=omega)only[↓wr,seval,wq,t2,t3,t5,aQ,encI]
  intro E r
  have c:=(bR r bP).1
  try simp(disch:=omega)only[↓wr,seval,wq,t2,t3,t5,aQ,encI,c,c.symm]
  have f:x≠y->V.val (Value.bool false)=V.val (Value.bool (decide (g.ao=k.ao) && (decide (g.aj=k.aj) && (decide (g.rules=k.rules) && decide (g.start=k.start))))):=λe=>by
   rw[decide_eq_false (p:=g.rules=k.rules) (uk a b e)];simp
  repeat' (first | ((first|apply ai.dec|apply ai.eq|apply ai.ne|apply ai.split)<;>intro)|(refine av.pure (BQ x.right y.right q) ?_)|(simp(disch:=omega)only[↓wr,seval,wq,t2,t3,t5,aQ,encI,c,c.symm]))
  .rename_i e;exact f λh=>e (by rw[h])
  .rename_i e;exact f λh=>e (by rw[h])
  .rename_i u t s
   refine aH hm (by omega) ⟨oQ a b hi ?_,t2,t3,rfl⟩
   cases x;cases y
   simp_all
  .rename_i e;exact f λh=>by rw[h] at e;simp at e
 .have u:g.rules=k.rules:=rh (by omega) (by omega) hi
  simp(disch:=omega)only[↓wr,seval,wq,t2,t3,t5]
  simp[s,t,u,z]
def fU:SC :=
 ae [ab [aU 14 .lss 13 12],cb 14 (.exit 0),.block 1 (ae [ab [aa 15 13,aa 5 15],ab [aa 16 0,aa 17 5,aZ 18 3 16 17,ba 19 3 18,aa 20 1,aa 21 5,aZ 22 3 20 21,ba 23 3 22,((some 24),.op (.old (.binOp .neq 130 (.tmp 19) (.tmp 23) 130) 4))],bf 24 (ae [ab [bm 4 false],.ret])]),ab [aF 25 .add 13 1,aa 13 25]]
def gu:SF:=⟨ae [ab [bm 4 false],ae [ab [aa 6 0,aP 7 6,aa 8 1,aP 9 8,aU 10 .neq 7 9],bf 10 (ae [ab [bm 4 false],.ret])],ae [ab [aa 11 0,aP 12 11,aR 13 0],cd 0 fU],ab [bm 4 true],.ret],
 [.tmp 4],26⟩
theorem jJ:aI Tryz.prog 203 []=some gu:=by kernel_rfl
def gU:SC :=
 ae [ab [aU 14 .lss 13 12],cb 14 (.exit 0),.block 1 (ae [ab [aa 15 13,aa 5 15],ab [aa 16 0,aa 17 5,aZ 18 1 16 17,ak 19 18,aa 20 1,aa 21 5,aZ 22 1 20 21,ak 23 22,((some 24),.op (.vr .neq (.tmp 19) (.tmp 23)))],bf 24 (ae [ab [bm 4 false],.ret])]),ab [aF 25 .add 13 1,aa 13 25]]
def ia:SF:=⟨ae [ab [bm 4 false],ae [ab [aa 6 0,aP 7 6,aa 8 1,aP 9 8,aU 10 .neq 7 9],bf 10 (ae [ab [bm 4 false],.ret])],ae [ab [aa 11 0,aP 12 11,aR 13 0],cd 0 gU],ab [bm 4 true],.ret],
 [.tmp 4],26⟩
theorem k5:aI Tryz.prog 204 []=some ia:=by kernel_rfl
def jk:SC :=
 ae [ab [aU 14 .lss 13 12],cb 14 (.exit 0),.block 1 (ae [ab [aa 15 13,aa 5 15],ab [aa 16 0,aa 17 5,aZ 18 1 16 17,ak 19 18,aa 20 1,aa 21 5,aZ 22 1 20 21,ak 23 22,aU 24 .neq 19 23],bf 24 (ae [ab [bm 4 false],.ret])]),ab [aF 25 .add 13 1,aa 13 25]]
def jL:SF:=⟨ae [ab [bm 4 false],ae [ab [aa 6 0,aP 7 6,aa 8 1,aP 9 8,aU 10 .neq 7 9],bf 10 (ae [ab [bm 4 false],.ret])],ae [ab [aa 11 0,aP 12 11,aR 13 0],cd 0 jk],ab [bm 4 true],.ret],
 [.tmp 4],26⟩
theorem oB:aI Tryz.prog 254 []=some jL:=by kernel_rfl
def yk:SF:=⟨ae [ab [cG 2 0,cG 3 1,bm 4 false],.region false [⟨none,[al 5 0 2,ak 6 5,al 7 0 3,ak 8 7,aU 9 .eql 6 8,aa 10 9]⟩,⟨(some (10,true)),[al 11 2 2,ak 12 11,al 13 2 3,ak 14 13,aU 15 .eql 12 14]⟩,⟨none,[eA 16 10 15,aa 17 16]⟩,⟨(some (17,true)),[al 18 1 2,ak 19 18,al 20 1 3,ak 21 20,bg 22 254 [19,21]]⟩,⟨none,[eA 23 17 22,aa 4 23]⟩],.ret],
 [.tmp 4],24⟩
theorem Bq:aI Tryz.prog 206 [2,3]=some yk:=by kernel_rfl
def di:SC :=
 ae [ab [aU 18 .lss 17 16],cb 18 (.exit 0),.block 1 (ae [ab [aa 19 17,aZ 20 3 15 17,ba 21 3 20,((some 8),.op (.alloc [(.val (.int .i64 0)),(.emp 1),(.val (.int .i64 0))])),aa 7 19,cL 3 8 21],ab [aa 22 1,aa 23 7,aZ 24 3 22 23,ba 25 3 24,((some 9),.op (.alloc [(.val (.int .i64 0)),(.emp 1),(.val (.int .i64 0))])),cL 3 9 25],ab [aa 26 2,ba 27 3 8,ba 28 3 9,((some 29),.call (.tmp 26) [(.tmp 27),(.tmp 28)]),dp 30 29],bf 30 (ae [ab [bm 6 false],.ret])]),ab [aF 31 .add 17 1,aa 17 31]]
def du:SF:=⟨ae [ab [bm 6 false],ae [ab [aa 10 0,aP 11 10,aa 12 1,aP 13 12,aU 14 .neq 11 13],bf 14 (ae [ab [bm 6 false],.ret])],ae [ab [aa 15 0,aP 16 15,aR 17 0],cd 0 di],ab [bm 6 true],.ret],
 [.tmp 6],32⟩
theorem fi:aI Tryz.prog 205 []=some du:=by kernel_rfl
def zV:SF:=⟨ae [ab [cG 2 0,cG 3 1,bm 4 false],.region false [⟨none,[al 5 0 2,ak 6 5,al 7 0 3,ak 8 7,bg 9 203 [6,8],aa 10 9]⟩,⟨(some (10,true)),[al 11 1 2,ak 12 11,al 13 1 3,ak 14 13,bg 15 204 [12,14]]⟩,⟨none,[eA 16 10 15,aa 17 16]⟩,⟨(some (17,true)),[al 18 2 2,ak 19 18,al 20 2 3,ak 21 20,qe 22 205 [(.tmp 19),(.tmp 21),(.val (.fn 206 [] []))]]⟩,⟨none,[eA 23 17 22,aa 24 23]⟩,⟨(some (24,true)),[al 25 3 2,ak 26 25,al 27 3 3,ak 28 27,aU 29 .eql 26 28]⟩,⟨none,[eA 30 24 29,aa 4 30]⟩],.ret],
 [.tmp 4],31⟩
theorem Dy:aI Tryz.prog 143 [2,3]=some zV:=by kernel_rfl
theorem KG {α:Type} {f g:α->List V} {a b:List α} (d:∀ x,∀ v∈f x,Tree v) (e:∀ x,∀ v∈g x,Tree v):∀ v∈[V.aT (a.map f),V.aT (b.map g)],Tree v:=by
 intro v c;simp at c
 rcases c with rfl | rfl
 .exact eY _ _ λx _=>d x
 .exact eY _ _ λx _=>e x
theorem KU (a b:List Term) (l:aK a) (H:View):au Tryz.prog 203 [.aT (a.map de),.aT (b.map de)] H λr _=>r=gb (decide (a=b)):=by
 refine au.of mixed jJ ?_
 unfold aK at l
 simp(disch:=omega)only[↓wr,seval,wq,gu]
 apply ai.ne<;>intro h
 .simp(disch:=omega)only[↓wr,seval,wq]
  rw[decide_eq_false (rm (by omega))]
 .simp(disch:=omega)only[↓wr,seval,wq]
  refine aY.up a.length (λi T _=>a.take i=b.take i/\T 0=.aT (a.map de)/\T 1=.aT (b.map de)/\T 12=gi a.length/\T 13=gi i) ⟨by simp,rfl,rfl,rfl,rfl⟩ ?_
  rintro i k T H hk ⟨hi,c,h1,d,f⟩
  simp(disch:=omega)only[↓wr,seval,wq,fU,c,h1,d,f]
  apply ai.dec<;>intro m
  .have g:a[i]?=some (a[i]'(by omega)):=Sn (by omega)
   have j:b[i]?=some (b[i]'(by omega)):=Sn (by omega)
   generalize a[i]'(by omega)=x at g
   generalize b[i]'(by omega)=y at j
   simp(disch:=omega)only[↓wr,seval,wq,c,h1,d,f,Ss,g,j,de]
   refine iL (xs:=#[.string x.name,.int .i64 x.level,.int .i64 x.assoc]) (ys:=#[.string y.name,.int .i64 y.level,.int .i64 y.assoc]) Tryz.underlying130 (by kernel_rfl) (by kernel_rfl) ?_ ?_ (yL x y) (.inr ⟨rfl,rfl⟩) ?_
   .rfl
   .rfl
   rw[HG]
   simp(disch:=omega)only[↓wr,seval,wq,c,h1,d,f]
   apply ai.split<;>intro e
   .simp(disch:=omega)only[↓wr,seval,wq,c,h1,d,f]
    exact aH hk (by omega) ⟨oQ g j hi (by simpa using e),c,h1,d,rfl⟩
   .simp(disch:=omega)only[↓wr,seval,wq,c,h1,d,f]
    rw[decide_eq_false (uk g j (by simpa using e))]
  .simp(disch:=omega)only[↓wr,seval,wq,c,h1,d,f]
   rw[decide_eq_true (rh (by omega) (by omega) hi)]
theorem Md (a b:List ByteArray) (l:aK a) (H:View):au Tryz.prog 204 [encS a,encS b] H λr _=>r=gb (decide (a=b)):=by
 refine au.of mixed k5 ?_
 unfold aK at l
 simp(disch:=omega)only[↓wr,seval,wq,ia,encS]
 apply ai.ne<;>intro h
 .simp(disch:=omega)only[↓wr,seval,wq]
  rw[decide_eq_false (rm (by omega))]
 .simp(disch:=omega)only[↓wr,seval,wq]
  refine aY.up a.length (λi T _=>a.take i=b.take i/\T 0=encS a/\T 1=encS b/\T 12=gi a.length/\T 13=gi i) ⟨by simp,rfl,rfl,rfl,rfl⟩ ?_
  rintro i k T H hk ⟨hi,c,h1,d,f⟩
  simp(disch:=omega)only[↓wr,seval,wq,gU,c,h1,d,f,encS]
  apply ai.dec<;>intro m
  .have g:a[i]?=some (a[i]'(by omega)):=Sn (by omega)
   have j:b[i]?=some (b[i]'(by omega)):=Sn (by omega)
   generalize a[i]'(by omega)=x at g
   generalize b[i]'(by omega)=y at j
   simp(disch:=omega)only[↓wr,seval,wq,c,h1,d,f,encS,Ss,g,j,Ci]
   apply ai.split<;>intro e
   .simp(disch:=omega)only[↓wr,seval,wq,c,h1,d,f]
    exact aH hk (by omega) ⟨oQ g j hi (by simpa using e),c,h1,d,rfl⟩
   .simp(disch:=omega)only[↓wr,seval,wq,c,h1,d,f]
    rw[decide_eq_false (uk g j (by simpa using e))]
  .simp(disch:=omega)only[↓wr,seval,wq,c,h1,d,f]
   rw[decide_eq_true (rh (by omega) (by omega) hi)]
theorem MJ (a b:List Int) (l:aK a) (H:View):au Tryz.prog 254 [encI a,encI b] H λr _=>r=gb (decide (a=b)):=by
 refine au.of mixed oB ?_
 unfold aK at l
 simp(disch:=omega)only[↓wr,seval,wq,jL,encI]
 apply ai.ne<;>intro h
 .simp(disch:=omega)only[↓wr,seval,wq]
  rw[decide_eq_false (rm (by omega))]
 .simp(disch:=omega)only[↓wr,seval,wq]
  refine aY.up a.length (λi T _=>a.take i=b.take i/\T 0=encI a/\T 1=encI b/\T 12=gi a.length/\T 13=gi i) ⟨by simp,rfl,rfl,rfl,rfl⟩ ?_
  rintro i k T H hk ⟨hi,c,h1,d,f⟩
  simp(disch:=omega)only[↓wr,seval,wq,jk,c,h1,d,f,encI]
  apply ai.dec<;>intro m
  .have g:a[i]?=some (a[i]'(by omega)):=Sn (by omega)
   have j:b[i]?=some (b[i]'(by omega)):=Sn (by omega)
   generalize a[i]'(by omega)=x at g
   generalize b[i]'(by omega)=y at j
   simp(disch:=omega)only[↓wr,seval,wq,c,h1,d,f,encI,Ss,g,j]
   apply ai.ne<;>intro e
   .simp(disch:=omega)only[↓wr,seval,wq,c,h1,d,f]
    rw[decide_eq_false (uk g j e)]
   .simp(disch:=omega)only[↓wr,seval,wq,c,h1,d,f]
    exact aH hk (by omega) ⟨oQ g j hi e,c,h1,d,rfl⟩
  .simp(disch:=omega)only[↓wr,seval,wq,c,h1,d,f]
   rw[decide_eq_true (rh (by omega) (by omega) hi)]
theorem MW (a b:List Term) (c:aK a):ay Tryz.prog 203 [.aT (a.map de),.aT (b.map de)] (gb (decide (a=b))):=ay.val (KG rL rL) (KU a b c)
theorem LA (a b:List ByteArray) (d:aK a):ay Tryz.prog 204 [encS a,encS b] (gb (decide (a=b))):=ay.val (by
 intro v c;simp at c
 rcases c with rfl | rfl <;> exact wu _) (Md a b d)
theorem Ml (a b:List Int) (d:aK a):ay Tryz.prog 254 [encI a,encI b] (gb (decide (a=b))):=ay.val (by
 intro v c;simp at c
 rcases c with rfl | rfl <;> exact bU _) (MJ a b d)
theorem N4 (x y:bk) (b:aK x.right):ay Tryz.prog 206 [.agg (aQ x),.agg (aQ y)] (gb (decide (x=y))):=by
 refine ay.val (by
  intro v a;simp at a
  rcases a with rfl | rfl <;> exact cn _ (gV _)) λH=>?_
 rw[N7]
 refine au.of mixed Bq ?_
 simp(disch:=omega)only[↓wr,seval,wq,yk,aQ,encI]
 repeat' (first | ((first|apply ai.dec|apply ai.eq|apply ai.ne|apply ai.split)<;>intro)|(refine av.pure (Ml x.right y.right b) ?_)|(simp(disch:=omega)only[↓wr,seval,wq,aQ]))
 all_goals simp[*]
theorem EV (a b:List bk) (s:aK a) (hr:∀ r∈a,aK r.right) (H:View):au Tryz.prog 205 [.aT (a.map aQ),.aT (b.map aQ),.fn 206 [] []] H λr _=>r=gb (decide (a=b)):=by
 refine au.of mixed fi ?_
 unfold aK at s
 simp(disch:=omega)only[↓wr,seval,wq,du]
 apply ai.ne<;>intro h
 .simp(disch:=omega)only[↓wr,seval,wq]
  rw[decide_eq_false (rm (by omega))]
 .simp(disch:=omega)only[↓wr,seval,wq]
  refine aY.up a.length (λi T _=>a.take i=b.take i/\T 15=.aT (a.map aQ)/\T 1=.aT (b.map aQ)/\T 2=.fn 206 [] []/\T 16=gi a.length/\T 17=gi i) ⟨by simp,rfl,rfl,rfl,rfl,rfl⟩ ?_
  rintro i k T H hk ⟨hi,c,h1,d,f,g⟩
  simp(disch:=omega)only[↓wr,seval,wq,di,c,h1,d,f,g]
  apply ai.dec<;>intro t
  .have j:a[i]?=some (a[i]'(by omega)):=Sn (by omega)
   have l:b[i]?=some (b[i]'(by omega)):=Sn (by omega)
   have hm:a[i]'(by omega)∈a:=Sx _
   generalize a[i]'(by omega)=x at j hm
   generalize b[i]'(by omega)=y at l
   have p:=hr x hm
   simp(disch:=omega)only[↓wr,seval,wq,c,h1,d,f,g,Ss,j,l,aQ,encI]
   intro n u
   try simp(disch:=omega)only[↓wr,seval,wq,c,h1,d,f,g,Ss,j,l,aQ,encI]
   intro m q
   have o:=(bR q bP).1
   try simp(disch:=omega)only[↓wr,seval,wq,c,h1,d,f,g,Ss,j,l,aQ,encI,o,o.symm]
   refine av.pure (N4 x y p) ?_
   simp(disch:=omega)only[↓wr,seval,wq,c,h1,d,f,g]
   apply ai.split<;>intro e
   .simp(disch:=omega)only[↓wr,seval,wq,c,h1,d,f,g]
    exact aH hk (by omega) ⟨oQ j l hi (by simpa using e),c,h1,d,f,rfl⟩
   .simp(disch:=omega)only[↓wr,seval,wq,c,h1,d,f,g]
    rw[decide_eq_false (uk j l (by simpa using e))]
  .simp(disch:=omega)only[↓wr,seval,wq,c,h1,d,f,g]
   rw[decide_eq_true (rh (by omega) (by omega) hi)]
theorem Eh (a b:List bk) (d:aK a) (hr:∀ r∈a,aK r.right):ay Tryz.prog 205 [.aT (a.map aQ),.aT (b.map aQ),.fn 206 [] []] (gb (decide (a=b))):=ay.val (by
 intro v c;simp at c
 rcases c with rfl | rfl | rfl
 .exact eY _ _ λx _=>gV x
 .exact eY _ _ λx _=>gV x
 .exact BZ (by simp) (by simp)) (EV a b d hr)
theorem NP (g k:af) (a:g.Ok):ay Tryz.prog 143 [.agg (ag g),.agg (ag k)] (gb (decide (g=k))):=by
 refine ay.val (Ch g k) λH=>?_
 rw[Ga]
 refine au.of mixed Dy ?_
 simp(disch:=omega)only[↓wr,seval,wq,zV,ag,encS]
 repeat' (first | ((first|apply ai.dec|apply ai.eq|apply ai.ne|apply ai.split)<;>intro)|(refine av.pure (MW g.ao k.ao a.ao) ?_)|(refine av.pure (LA g.aj k.aj a.aj) ?_)|(refine av.pure (Eh g.rules k.rules a.rules (λr hr=>(a.aw r hr).2.2.1)) ?_)|(simp(disch:=omega)only[↓wr,seval,wq,ag,encS]))
 all_goals simp_all [Po]
def CD:SF:=⟨ae [ab [cG 1 0,bm 2 false],ab [ba 7 4 1,bg 8 92 [7],aa 6 8,dz 9 0 6,dz 10 1 6,dz 11 2 6,((some 3),.op (.alloc [(.emp 1),(.emp 1),(.emp 1),(.val (.int .i64 0))])),cL 4 3 9,aa 4 10,aa 5 11],.region false [⟨none,[aa 12 5,aF 13 .eql 12 0,aa 14 13]⟩,⟨(some (14,true)),[ba 15 4 1,ba 16 4 3,bg 17 143 [15,16]]⟩,⟨none,[eA 18 14 17,aa 2 18]⟩],.ret],
 [.tmp 2],19⟩
theorem FW:aI Tryz.prog 82 [1]=some CD:=by kernel_rfl
def rr:SF:=⟨ae [ab [cG 1 0,bm 2 false],ab [ba 7 4 1,bg 8 47 [7],aa 6 8,dz 9 0 6,dz 10 1 6,dz 11 2 6,((some 3),.op (.alloc [(.emp 1),(.emp 1),(.emp 1),(.val (.int .i64 0))])),cL 4 3 9,aa 4 10,aa 5 11],.region false [⟨none,[aa 12 5,aF 13 .eql 12 0,aa 14 13]⟩,⟨(some (14,true)),[ba 15 4 1,ba 16 4 3,bg 17 31 [15,16]]⟩,⟨none,[eA 18 14 17,aa 2 18]⟩],.ret],
 [.tmp 2],19⟩
theorem vP:aI Tryz.prog 15 [1]=some rr:=by kernel_rfl
theorem P7 (g:af) (a:g.Ok) (b:g.Small):ay Tryz.prog 82 [.agg (ag g)] (gb (isRed g)):=by
 refine ay.val (fa g) λH=>?_
 refine au.of mixed FW ?_
 simp(disch:=omega)only[↓wr,seval,wq,CD,ag,encS]
 refine av.pure (Jn g a b).pure ?_
 unfold isRed
 generalize gA g=x
 obtain⟨k,il,e⟩:=x
 simp(disch:=omega)only[↓wr,seval,wq,u9,ag,encS]
 intro n c
 apply ai.eq<;>intro h
 .simp(disch:=omega)only[↓wr,seval,wq,u9,ag,encS]
  refine av.pure (NP g k a) ?_
  simp(disch:=omega)only[↓wr,seval,wq]
  simp[h]
 .simp(disch:=omega)only[↓wr,seval,wq]
  simp[h]
theorem Qb (g:af) (a:g.Ok):ay Tryz.prog 15 [.agg (ag g)] (gb (isRed g)):=by
 refine ay.val (fa g) λH=>?_
 refine au.of mixed vP ?_
 simp(disch:=omega)only[↓wr,seval,wq,rr,ag,encS]
 refine av.pure (GL g a).pure ?_
 unfold isRed
 generalize gA g=x
 obtain⟨k,il,e⟩:=x
 simp(disch:=omega)only[↓wr,seval,wq,u9,ag,encS]
 intro n b
 apply ai.eq<;>intro h
 .simp(disch:=omega)only[↓wr,seval,wq,u9,ag,encS]
  refine av.pure (LG g k a) ?_
  simp(disch:=omega)only[↓wr,seval,wq]
  simp[h]
 .simp(disch:=omega)only[↓wr,seval,wq]
  simp[h]
def Q0:af:=⟨[⟨⟨#[39,97,39]⟩,0,0⟩,⟨⟨#[39,98,39]⟩,0,0⟩,⟨⟨#[39,99,39]⟩,0,0⟩,⟨⟨#[39,100,39]⟩,0,0⟩],[⟨#[115]⟩,⟨#[117]⟩,⟨#[118]⟩],[⟨0,[0,(-2)],0⟩,⟨0,[1],1⟩,⟨0,[],(-1)⟩,⟨1,[(-2),2],2⟩,⟨2,[3,(-1)],3⟩],0⟩
def Qg:af:=⟨Q0.ao,[⟨#[115]⟩],[⟨0,[1],1⟩,⟨0,[],(-1)⟩],0⟩
theorem nX:isRed Qg=true:=by kernel_rfl
theorem dH.fr {h:az} {v t:V} (f:dH h v t):Fr h v t:=by
 induction f with
 | val v=>exact .tree _ (.val _)
 | emp k=>exact .emp k
 | sl id off len esz z es es' h1 c d e _ b=>exact .sl id off len esz z es es' h1 c d e b
 | agg cs a h1 _ b=>exact .agg cs a h1 b
 | aS cs a h1 _ b=>exact .aS cs a h1 b
end Gv
