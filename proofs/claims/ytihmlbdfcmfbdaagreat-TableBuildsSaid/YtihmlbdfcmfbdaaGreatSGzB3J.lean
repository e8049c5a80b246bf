/-
  Part 10 of the proof: what the machine does and what the functions answer.
  Conditions: those that each lemma names.
-/
import Derived.Test.YtihmlbdfcmfbdaaGreatSGzB3I
set_option linter.unusedSimpArgs false
set_option linter.unusedVariables false
set_option maxRecDepth 100000
set_option maxHeartbeats 20000000
namespace Gv
open Go Go.Proofs
def vL:SC :=
 ae [ab [aS 44 .lss 43 42],bT 44 (.exit 0),.block 1 (ae [ab [aa 45 43,aH 46 3 41 43,aT 47 3 46,((some 11),.op (.alloc [(.val (.int .i64 0)),(.emp 1),(.val (.int .i64 0))])),aa 10 45,bK 3 11 47],ae [.region false [⟨none,[aa 48 6,ao 49 0 11,ai 50 49,aH 51 1 48 50,ai 52 51,c6 53 52,aa 54 53]⟩,⟨(some (54,false)),[aT 55 3 11,aa 56 5,bh 57 160 [55,56],c6 58 57]⟩,⟨none,[cD 59 54 58]⟩],bc 59 (.exit 1)],ab [aa 60 7,aa 61 10,((some 62),.op (.bO 1 1 [(.val (.int .i64 0))] [(0,(.tmp 61))])),eE 63 1 8 60 62,aa 7 63],ab [aa 65 9,ao 66 0 11,ai 67 66,((some 68),.op (.old (.lookup 204 (.tmp 65) (.tmp 67) true) 30)),aa 64 68,dW 69 0 64,dW 70 1 64,aa 12 69,aa 13 70],ab [aa 71 13,c6 72 71],bc 72 (ae [ab [aa 73 9,ao 74 0 11,ai 75 74,ao 76 1 8,ai 77 76,aP 78 77,(none,.op (.old (.mapUpdate 204 (.tmp 73) (.tmp 75) (.tmp 78)) 0))],.region false [⟨none,[ao 79 1 8,ai 80 79,ao 81 1 1,ai 82 81,ao 83 0 11,ai 84 83,aH 85 1 82 84,ai 86 85,((some 87),.op (.bO 1 1 [(.val (.string ⟨#[]⟩))] [(0,(.tmp 86))])),eE 88 1 16 80 87,ao 89 1 8,bK 1 89 88]⟩]])]),ab [aG 90 .add 43 1,aa 43 90]]
def wa:SC :=
 ae [ab [aS 116 .lss 115 114],bT 116 (.exit 4),.block 5 (ae [ab [aa 117 115,aH 118 1 113 115,ai 119 118,aa 18 117,aa 19 119],ab [aa 120 19,aG 121 .lss 120 0],bc 121 (ab [ao 122 1 17,ai 123 122,aa 124 18,aa 125 9,aa 126 19,((some 127),.op (.arith .sub (.val (.val (.int .i64 (-1)))) (.tmp 126))),((some 128),.op (.old (.lookup 204 (.tmp 125) (.tmp 127) false) 3)),((some 129),.op (.arith .sub (.val (.val (.int .i64 (-1)))) (.tmp 128))),aH 130 1 123 124,bK 1 130 129])]),ab [aG 131 .add 115 1,aa 115 131]]
def vT:SC :=
 ae [ab [aS 94 .lss 93 92],bT 94 (.exit 2),.block 3 (ae [ab [aH 95 1 91 93,ai 96 95,aa 15 96],ab [ao 97 2 1,ai 98 97,aa 99 15,aH 100 3 98 99,aT 101 3 100,((some 16),.op (.alloc [(.val (.int .i64 0)),(.emp 1),(.val (.int .i64 0))])),bK 3 16 101],.region true [⟨none,[aa 102 9,ao 103 0 16,ai 104 103,((some 105),.op (.old (.lookup 204 (.tmp 102) (.tmp 104) false) 3)),ao 106 1 16,ai 107 106,bh 108 161 [107],ao 109 2 16,ai 110 109,((some 111),.op (.build [(.val (.int .i64 0)),(.emp 1),(.val (.int .i64 0))] [(0,1,(.tmp 105)),(1,1,(.tmp 108)),(2,1,(.tmp 110))])),((some 17),.op (.alloc [(.val (.int .i64 0)),(.emp 1),(.val (.int .i64 0))])),bK 3 17 111]⟩],ae [ab [ao 112 1 17,ai 113 112,aP 114 113,aQ 115 0],bU 4 wa],ab [ao 132 2 8,ai 133 132,aT 134 3 17,((some 135),.op (.bO 1 3 [(.val (.int .i64 0)),(.emp 1),(.val (.int .i64 0))] [(0,(.tmp 134))])),eE 136 3 40 133 135,ao 137 2 8,bK 1 137 136]]),ab [aG 138 .add 93 1,aa 93 138]]
def zY:SF:=⟨ae [ab [cw 1 0,((some 2),.op (.alloc [(.emp 1),(.emp 1),(.emp 1),(.val (.int .i64 0))])),cq 3 1,aQ 4 0],ae [ab [aT 20 4 1,bh 21 52 [20],c6 22 21],bc 22 (ae [ab [((some 23),.op (.build [(.emp 1),(.emp 1),(.emp 1),(.val (.int .i64 0))] [])),bK 4 2 23,cq 3 1,aQ 4 1],.ret])],.region true [⟨none,[aT 24 4 1,bh 25 157 [24],aT 26 4 1,bh 27 158 [26],aa 5 25,aa 6 27]⟩],ae [ab [aa 28 5,ao 29 3 1,ai 30 29,aH 31 1 28 30,ai 32 31,c6 33 32],bc 33 (ae [ab [((some 34),.op (.build [(.emp 1),(.emp 1),(.emp 1),(.val (.int .i64 0))] [])),bK 4 2 34,cq 3 1,aQ 4 9],.ret])],ab [cq 7 1],ab [ao 35 0 1,ai 36 35,bh 37 159 [36],((some 38),.op (.build [(.emp 1),(.emp 1),(.emp 1),(.val (.int .i64 0))] [(0,1,(.tmp 37))])),((some 8),.op (.alloc [(.emp 1),(.emp 1),(.emp 1),(.val (.int .i64 0))])),bK 4 8 38],ab [((some 39),.op (.pA)),aa 9 39],ae [ab [ao 40 2 1,ai 41 40,aP 42 41,aQ 43 0],bU 0 vL],ae [ab [aa 91 7,aP 92 91,aQ 93 0],bU 2 vT],ab [aa 139 9,ao 140 3 1,ai 141 140,((some 142),.op (.old (.lookup 204 (.tmp 139) (.tmp 141) false) 3)),ao 143 3 8,bK 1 143 142],ab [aT 144 4 8,aa 145 7,bK 4 2 144,aa 3 145,aQ 4 0],.ret],
 [.cell 2 (some 4),.tmp 3,.tmp 4],146⟩
theorem Dz:aN Tryz.prog 109 [1]=some zY:=by kernel_rfl
abbrev BN (m:bW Int):List (V × V × Nat):=cH (Value.int .i64) m
def WR (g:aj) (p q:List Bool) (b2 b8 b9:Nat) (u0:V) (i:Nat) (T:Env) (H:View):Prop :=
 (∃ u1 u3:V,T 7=u3/\(∀ x∈cG p q (g.rules.take i),0<=x/\x < g.ak.length)/\(cG p q (g.rules.take i)).length<=i /\
  aX H [(.sl b8 0 1 4,4,[[u0,u1,.emp 1,gi 0]]),(u3,1,bF (di p q (g.rules.take i) 0)),
   (u1,1,jw ((cG p q (g.rules.take i)).map λx=>g.ak.getD x.toNat ⟨#[]⟩)),(u0,3,g.af.map bS),(.sl b2 0 1 4,4,[[.emp 1,.emp 1,.emp 1,gi 0]])] /\
  ∃ m c,H b9=.map (BN m) c/\pR gi (kE (cG p q (g.rules.take i)) 0) m) /\
 T 1=.aI (ag g) 0/\T 2=.ptr b2 0 0/\T 5=bP p/\T 6=bP q/\T 8=.ptr b8 0 0/\T 9=.mp b9/\T 41=.aD (g.rules.map aO)/\T 42=gi g.rules.length/\T 43=gi i
theorem Ga {α:Type} {x s:α} : ∀ {a d:List α} {k:Nat},a.length=k->(a ++ s :: d).set k x=a ++ x :: d
 | [],d,k,h=>by simp at h;subst h;rfl
 | y :: a,d,k,h=>by
  cases k with
  | zero=>simp at h
  | succ k=>simp only[Z4,List.set_cons_succ];rw[Ga (by simpa using h)]
def Yz (g:aj) (p q:List Bool) (b2 b8 b9:Nat) (u0 u1 u3:V) (o kl:List Int) (mm:bW Int) (cc:Nat) (i:Nat) (T:Env) (H:View):Prop :=
 (∃ (u2:V) (bs:wc),bs.map (·.2)=((g.rules.filter (cF p q)).take i).map (b6 (eN o)) /\
  aX H ((.sl b8 0 1 4,4,[[u0,u1,u2,gi 0]]) :: (u3,1,bF kl) ::
   (u1,1,jw (o.map λx=>g.ak.getD x.toNat ⟨#[]⟩)) :: (u0,3,g.af.map bS) :: (u2,3,fG bs) :: (.sl b2 0 1 4,4,[[.emp 1,.emp 1,.emp 1,gi 0]]) :: jn bs) /\
  H b9=.map (BN mm) cc) /\
 T 1=.aI (ag g) 0/\T 2=.ptr b2 0 0/\T 7=u3/\T 8=.ptr b8 0 0/\T 9=.mp b9/\T 91=u3/\T 92=gi kl.length/\T 93=gi i
def YO (g:aj) (b2 b8 b9 b16 b17:Nat) (u3 v:V) (o kl:List Int) (mm:bW Int) (cc:Nat) (r:bu) (L:List ct) (i k:Nat) (T:Env) (H:View):Prop :=
 aX H ((.sl b17 0 1 3,3,[[gi (eN o r.left),v,gi r.prec]]) :: (v,1,bF ((b6 (eN o) r).right.take k ++ r.right.drop k)) :: (.sl b16 0 1 3,3,[aO r]) :: L) /\
 H b9=.map (BN mm) cc/\T 1=.aI (ag g) 0/\T 2=.ptr b2 0 0/\T 7=u3/\T 8=.ptr b8 0 0/\T 9=.mp b9/\T 91=u3/\T 92=gi kl.length/\T 93=gi i/\T 17=.ptr b17 0 0/\T 113=v/\T 114=gi r.right.length/\T 115=gi k
theorem Lm (g:aj) (hg:g.Ok) (hs:g.Small):cE Tryz.prog 109 [.agg (ag g)] (yV (if bI g=true then
  if (av g true).getD g.start.toNat false=true then (th g (eN (cG (av g true) (cd g) g.rules)) (av g true) (cd g),di (av g true) (cd g) g.rules 0,0)
  else (xM,[],9)
 else (xM,[],1))):=by
 refine cE.of (dT g) ?_
 refine au.of mixed Dz ?_
 simp(disch:=omega)only[↓wr,seval,wq,zY,ag,encS]
 intro Q
 try simp(disch:=omega)only[↓wr,seval,wq,ag,encS]
 refine ax.pure (oZ g hg hs.names) ?_
 repeat' (first | ((first|apply ah.dec|apply ah.eq|apply ah.ne|apply ah.split)<;>intro)|(simp(disch:=omega)only[↓wr,seval,wq,ag,encS,set_set]))
 .rename_i hr
  rw[Zn hr]
  refine ax.pure (xC g hg hs).pure ?_
  simp(disch:=omega)only[↓wr,seval,wq,ag,encS]
  refine ax.pure (IA g hg hs).pure ?_
  have hf:=bD hr
  have h3:=hf.nM
  have h4:=hf.start
  have c5:=fV hr true
  have fx:=rX hr
  generalize av g true=p at c5 ⊢
  generalize cd g=q at fx ⊢
  have cg:p[g.start.toNat]?=some (p[g.start.toNat]'(by omega)):=Zj (by omega)
  have c9:p.getD g.start.toNat false=p[g.start.toNat]'(by omega):=by simp[Zi,cg]
  generalize p[g.start.toNat]'(by omega)=s at cg c9
  rw[c9]
  simp(disch:=omega)only[↓wr,seval,wq,ag,encS,bP,Zm,cg]
  cases s with
  | false =>
   simp(disch:=omega)only[↓wr,seval,wq,ag,encS,set_set]
   rintro h' hh
   exact yW
  | true =>
   simp(disch:=omega)only[↓wr,seval,wq,ag,encS,set_set]
   have hN:=hf.ak
   have hS:=hf.pM
   have hT:=hf.af
   have hR:=hf.rules
   refine ax.dJ ((RJ g.af (by omega) _).mono ?_)
   rintro B H1 ⟨fz,K⟩
   have bd:=(aX.nil.new (H:=λ_=>cU.dead) (n:=Q) rfl 4 [[.emp 1,.emp 1,.emp 1,gi 0]]).Gg fz K
   have c0:=bd.head.cells
   have k0:=bd.head.fj
   simp(disch:=omega)only[↓wr,seval,wq,ag,encS,c0,k0]
   intro O da
   have db:=bd.new da 4 [[B,.emp 1,.emp 1,gi 0]]
   try simp(disch:=omega)only[↓wr,seval,wq,ag,encS,c0,k0,set_set]
   intro d R
   have b5:=(cP R cI).1
   have R:=(cP (cP R cI).2 cI).2
   have f:=(((db.fresh (n:=d) (o:=.map [] 0) (by simp only[View.set,Zk b5];exact R)).emp (k:=1) (sz:=1)).emp (k:=1) (sz:=1)).perm AP.symm
   try simp(disch:=omega)only[↓wr,seval,wq,ag,encS,c0,k0,set_set]
   refine aR.up g.rules.length (WR g p q Q O d B) ?_ ?_
   .refine⟨⟨.emp 1,.emp 1,rfl,by simp[cG],by simp[cG],by rw[set_set];exact f,[],0,by simp[View.set,cH],trivial⟩,rfl,rfl,rfl,rfl,rfl,rfl,rfl,rfl,rfl⟩
   clear bd db f da R b5
   rintro i k T H2 hk ⟨⟨G,u3,t7,bl,ch,A,mm,C,j,D⟩,t1,t2,t5,t6,t8,t9,t41,t42,t43⟩
   simp(disch:=omega)only[↓wr,seval,wq,vL,t1,t2,t5,t6,t7,t8,t9,t41,t42,t43,ag]
   apply ah.dec<;>intro hc
   .have E:g.rules[i]?=some (g.rules[i]'(by omega)):=Zj (by omega)
    have l:g.rules[i]'(by omega)∈g.rules:=Zs _
    have w:g.rules.take (i+1)=g.rules.take i ++ [g.rules[i]'(by omega)]:=by rw[ZG,E];rfl
    generalize g.rules[i]'(by omega)=r at E l w
    obtain⟨fB,dj,dm,fS,bn⟩:=hf.uI hg l
    have cj:q[r.left.toNat]?=some (q[r.left.toNat]'(by omega)):=Zj (by omega)
    have lu:q.getD r.left.toNat false=q[r.left.toNat]'(by omega):=by simp[Zi,cj]
    generalize q[r.left.toNat]'(by omega)=qs at cj lu
    simp(disch:=omega)only[↓wr,seval,wq,t1,t2,t5,t6,t7,t8,t9,t41,t42,t43,aO,encI,Zm,E]
    intro bq S
    have F:=A.new S 3 [aO r]
    have b7:d≠bq:=by rintro rfl;rw[j] at S;simp at S
    try simp(disch:=omega)only[↓wr,seval,wq,t1,t2,t5,t6,t7,t8,t9,t41,t42,t43,aO,encI,bP,Zm,cj,set_set]
    have U:∀ (P:Env) (H':View),cF p q r=false->H'=H2.set bq (.arr 3 [aO r])->P 7=u3->P 1=.aI (ag g) 0->P 2=.ptr Q 0 0->P 5=bP p->P 6=bP q->P 8=.ptr O 0 0->P 9=.mp d->P 41=.aD (g.rules.map aO)->P 42=gi g.rules.length->P 43=gi ((i:Int)+1) ->
      ∃ k',k' < k/\FM g.rules.length k' (WR g p q Q O d B) P H':=by
     intro P H' W ds a7 a1 a2 a5 a6 a8 a9 a41 gd gk
     have M:cG p q (g.rules.take (i+1))=cG p q (g.rules.take i):=by rw[w,vG,Zk (by simp[W])]
     have e2:di p q (g.rules.take (i+1)) 0=di p q (g.rules.take i) 0:=by rw[w,lT];simp[di,W]
     refine aE hk (by omega) ⟨⟨G,u3,a7,by rw[M];exact bl,by rw[M];omega,by rw[M,e2,ds];exact F.tail,mm,C,by rw[ds];simp[View.set,b7,j],by rw[M];exact D⟩,a1,a2,a5,a6,a8,a9,a41,gd,by rw[gk];rfl⟩
    cases qs with
    | false =>
     simp(disch:=omega)only[↓wr,seval,wq,t1,t2,t5,t6,t7,t8,t9,t41,t42,t43]
     refine U _ _ (by rw[cF,lu];rfl) ?_ ?_ ?_ ?_ ?_ ?_ ?_ ?_ ?_ ?_ ?_
     all_goals first | exact t7 | exact t1 | exact t2 | exact t5 | exact t6 | exact t8 | exact t9 | exact t41 | exact t42 | rfl | (rw[set_set];rfl)
    | true =>
     simp(disch:=omega)only[↓wr,seval,wq,t1,t2,t5,t6,t7,t8,t9,t41,t42,t43,aO,encI,bP]
     refine ax.pure (wv r p (hg.aw r l).2.2.1 (λs dv=>⟨(bn s dv).1,λh=>by rw[c5];exact(bn s dv).2 h⟩)) ?_
     simp(disch:=omega)only[↓wr,seval,wq,t1,t2,t5,t6,t7,t8,t9,t41,t42,t43]
     apply ah.split<;>intro ck
     .simp(disch:=omega)only[↓wr,seval,wq,t1,t2,t5,t6,t7,t8,t9,t41,t42,t43]
      have W:cF p q r=true:=by rw[cF,lu,ck];rfl
      intro m hm
      try simp(disch:=omega)only[↓wr,seval,wq,t1,t2,t5,t6,t7,t8,t9,t41,t42,t43,bm]
      have ea:=(cP hm cI).1
      have hm:=(cP (cP hm cI).2 cI).2
      have e:=(F.fresh (n:=m) (o:=.arr 1 [[gi i]]) (by simp only[View.set,Zk ea];exact hm)).at 2 (by simp)
      have cr:d≠m:=by rintro rfl;rw[j] at hm;simp at hm
      have eb:(di p q (g.rules.take i) 0).length<=40:=by
       rw[mh]
       have h1:=aac (cF p q) (g.rules.take i)
       have h2:(g.rules.take i).length<=i:=List.length_take_le _ _
       omega
      refine bL (by rw[set_set];exact e) (by simp[aL]) (by unfold aA;simp at eb ⊢;omega) (by unfold aA;simp at eb ⊢;omega) ?_
      intro cA H3 f t
      have f11:=f.is 1 rfl (by simp)
      have f8:=f.is 2 rfl (by simp)
      have br:Left ((H2.set bq (.arr 3 [aO r])).set m (.arr 1 [[gi i]])) H3 u3 cA:=by rw[set_set] at t;exact t
      have f9:H3 d=.map (BN mm) C:=br.map (b:=d) e.head (by simp[View.set,b7,cr,j])
      have gl:cT G=some (jw ((cG p q (g.rules.take i)).map λx=>g.ak.getD x.toNat ⟨#[]⟩)).length:=(f.own 3 rfl).len
      simp only[aO,encI] at f11
      have e2:di p q (g.rules.take (i+1)) 0=di p q (g.rules.take i) 0 ++ [(i:Int)]:=by
       rw[w,lT];simp[di,W,show i<=g.rules.length by omega]
      have M:cG p q (g.rules.take (i+1))=gM (cG p q (g.rules.take i)) r:=by rw[w,vG,Zn W]
      generalize cG p q (g.rules.take i)=o at *
      generalize di p q (g.rules.take i) 0=kl at *
      simp(disch:=omega)only[↓wr,seval,wq,t1,t2,t5,t6,t8,t9,t41,t42,t43,f11,f8]
      refine Vq (kt:=3) (et:=3) (z:=gi 0) (by kernel_rfl) (by kernel_rfl) (mj .i64 Tryz.underlying3) (id:=d) (c:=C) (m:=mm) (k:=r.left) (by simp(disch:=omega)only[↓wr,seval,wq,t9]) (by simp(disch:=omega)only[↓wr,seval,wq]) f9 ?_
      rw[D.get,vR]
      have gr:o.length<=40:=by omega
      by_cases hx:r.left∈o
      .have u:gM o r=o:=by rw[gM,Zn hx]
       rw[Zn hx]
       simp(disch:=omega)only[↓wr,seval,wq,t1,t2,t5,t6,t8,t9,t41,t42,t43,Option.isSome_some]
       have ha:=(((f.at 1 (by simp)).tail).perm (.swap _ _ _))
       refine aE hk (by omega) ⟨⟨G,cA,rfl,by rw[M,u];exact bl,by rw[M,u];omega,?_,mm,C,f9,by rw[M,u];exact D⟩,t1,t2,t5,t6,t8,t9,t41,t42,rfl⟩
       rw[M,u,e2]
       simp only[ZD,ZJ,aaK]
       exact ha
      .have u:gM o r=o ++ [r.left]:=by rw[gM,Zk hx]
       rw[Zk hx]
       have cC:g.ak[r.left.toNat]?=some (g.ak[r.left.toNat]'(by omega)):=Zj (by omega)
       have ca:g.ak.getD r.left.toNat ⟨#[]⟩=g.ak[r.left.toNat]'(by omega):=by simp[Zi,cC]
       generalize g.ak[r.left.toNat]'(by omega)=nm at cC ca
       simp(disch:=omega)only[↓wr,seval,wq,t1,t2,t5,t6,t8,t9,t41,t42,t43,Option.isSome_none,f11,f8,gl,Zr]
       refine yq (kt:=3) (et:=3) (by kernel_rfl) (mj .i64 Tryz.underlying3) (id:=d) (c:=C) (m:=mm) (k:=r.left) (v:=gi o.length) (by simp(disch:=omega)only[↓wr,seval,wq,t9]) (by simp(disch:=omega)only[↓wr,seval,wq]) (by simp(disch:=omega)only[↓wr,seval,wq]) f9 ?_
       intro c'
       have ee:O≠d:=EG f 2 rfl f9
       have n119:bq≠d:=EG f 1 rfl f9
       simp(disch:=omega)only[↓wr,seval,wq,t1,t2,t5,t6,t8,t9,t41,t42,t43,f11,f8,ee,n119,ag,encS,Zm,cC]
       intro m2 N
       have cf:=(cP N (by simp)).1
       have N:=(cP N (by simp)).2
       have eg:=((f.xw f9 (o:=.map (BN (bN r.left (gi o.length) C mm)) c')).fresh (n:=m2) (o:=.arr 1 [[gs nm]]) (by simp only[View.set,Zk cf];exact N)).at 3 (by simp)
       try simp(disch:=omega)only[↓wr,seval,wq,t1,t2,t5,t6,t8,t9,t41,t42,t43,bm]
       refine bL eg (by simp[aL]) (by unfold aA;simp;omega) (by unfold aA;simp;omega) ?_
       intro ei H5 bx b0
       have c1:=bx.head.cells
       have k1:=bx.head.fj
       have cN:=bx.is 3 rfl (by simp)
       have hb:=b0.map (b:=d) (es:=BN (bN r.left (gi o.length) C mm)) (c:=c') eg.head (by simp[View.set,Ne.symm cf])
       have ek:d≠O:=ee.symm
       simp(disch:=omega)only[↓wr,seval,wq,t1,t2,t5,t6,t8,t9,t41,t42,t43,cN,c1,k1]
       have hj:=(bx.at 3 (by simp)).put (es':=[[B,ei,.emp 1,gi 0]]) rfl rfl
       have hn:=(((hj.at 3 (by simp)).tail).perm (.cons _ (.swap _ _ _)))
       refine aE hk (by omega) ⟨⟨ei,cA,rfl,?_,?_,?_,_,c',(by simp only[View.set,Zk ek];exact hb),?_⟩,t1,t2,t5,t6,t8,t9,t41,t42,rfl⟩
       .rw[M,u];intro x ht;rcases ZN.1 ht with h | h
        .exact bl x h
        .simp at h;subst h;exact⟨dj,dm⟩
       .rw[M,u];simp;omega
       .rw[M,u,e2]
        simp only[ZD,ZJ,aaK,ca]
        exact hn
       .rw[M,u,Ev,Int.zero_add,<-G7 hx]
        exact D.put r.left (o.length:Int) C
     .simp(disch:=omega)only[↓wr,seval,wq,t1,t2,t5,t6,t7,t8,t9,t41,t42,t43]
      refine U _ _ (by rw[cF,lu,ck];rfl) ?_ ?_ ?_ ?_ ?_ ?_ ?_ ?_ ?_ ?_ ?_
      all_goals first | exact t7 | exact t1 | exact t2 | exact t5 | exact t6 | exact t8 | exact t9 | exact t41 | exact t42 | rfl | (rw[set_set];rfl)
   .rw[Zx (by omega)] at A bl ch D
    have hz:(di p q g.rules 0).length<=40:=by
     rw[mh];have h1:=aac (cF p q) g.rules;omega
    have hA:=wi p q g.rules 0
    have hQ:=mh p q g.rules 0
    have en:th g (eN (cG p q g.rules)) p q=⟨g.af,(cG p q g.rules).map λx=>g.ak.getD x.toNat ⟨#[]⟩,(g.rules.filter (cF p q)).map (b6 (eN (cG p q g.rules))),eN (cG p q g.rules) g.start⟩:=rfl
    rw[en]
    clear en
    generalize cG p q g.rules=o at *
    generalize di p q g.rules 0=kl at *
    have gr:o.length<=40:=by omega
    have hB:cT u3=some (bF kl).length:=(A.own 1 rfl).len
    simp(disch:=omega)only[↓wr,seval,wq,t1,t2,t5,t6,t7,t8,t9,hB,Zr]
    refine aR.up kl.length (Yz g p q Q O d B G u3 o kl mm C) ?_ ?_
    .refine⟨⟨.emp 1,[],by simp,?_,j⟩,t1,t2,t7,t8,t9,t7,rfl,rfl⟩
     exact(A.emp (k:=1) (sz:=3)).perm (um [(.sl O 0 1 4,4,[[B,G,.emp 1,gi 0]]),(u3,1,bF kl),(G,1,jw (o.map λx=>g.ak.getD x.toNat ⟨#[]⟩)),(B,3,g.af.map bS),(.emp 1,3,[]),(.sl Q 0 1 4,4,[[.emp 1,.emp 1,.emp 1,gi 0]])] 4 (by simp)).symm
    clear A j t1 t2 t5 t6 t7 t8 t9 t41 t42 t43
    rintro i k T H2 hk ⟨⟨u2,bs,b1,A,j⟩,t1,t2,t7,t8,t9,t91,t92,t93⟩
    simp(disch:=omega)only[↓wr,seval,wq,vT,t1,t2,t7,t8,t9,t91,t92,t93]
    apply ah.dec<;>intro hc
    .obtain⟨n3,e3,hC⟩:=(A.own 1 rfl).sl (by simp;omega)
     rw[Zr] at e3
     subst e3
     obtain⟨m,cS,N,X⟩:=hA i (by omega)
     have eH:=lY (show i < kl.length by omega)
     rw[Int.zero_add] at cS
     have hD:kl[i]'(by omega)=(m:Int):=by
      rw[Zj (show i < kl.length by omega)] at cS;simpa using cS
     rw[hD] at eH
     have E:g.rules[m]?=some (g.rules[m]'X):=Zj X
     have l:g.rules[m]'X∈g.rules:=Zs _
     have w:(g.rules.filter (cF p q)).take (i+1)=(g.rules.filter (cF p q)).take i ++ [g.rules[m]'X]:=by
      rw[ZG,<-N,E];rfl
     generalize g.rules[m]'X=r at E l w
     obtain⟨fB,dj,dm,fS,bn⟩:=hf.uI hg l
     simp(disch:=omega)only[↓wr,seval,wq,t1,t2,t7,t8,t9,t91,t92,t93,hC,eH,Zr,ag,aO,encI,Zm,E]
     refine⟨by omega,by omega,?_⟩
     intro cV I
     have F:=A.new I 3 [aO r]
     have Y:d≠cV:=by rintro rfl;rw[j] at I;simp at I
     try simp(disch:=omega)only[↓wr,seval,wq,t1,t2,t7,t8,t9,t91,t92,t93,set_set]
     refine Cg (kt:=3) (et:=3) (z:=gi 0) (by kernel_rfl) (by kernel_rfl) (mj .i64 Tryz.underlying3) (id:=d) (c:=C) (m:=mm) (k:=r.left) (by simp(disch:=omega)only[↓wr,seval,wq,t9]) (by simp(disch:=omega)only[↓wr,seval,wq]) (by simp[View.set,Y,j]) ?_
     have b3:∀ x,(getM mm x).getD (gi 0)=gi (eN o x):=λx=>by
      rw[D.get,eN];cases eV (kE o 0) x <;> rfl
     rw[b3]
     simp(disch:=omega)only[↓wr,seval,wq,t1,t2,t7,t8,t9,t91,t92,t93]
     refine ax.Nf (Tc r.right (by omega) _) ?_
     intro v H3 hv K
     have e:=aX.Gg (H:=H2.set cV (.arr 3 [aO r])) F hv (by rw[set_set] at K;exact K)
     have c3:H3 d=.map (BN mm) C:=by
      rw[(K d (by simp[View.set,Y,j])).1];simp[View.set,Y,j]
     have cv:=hv.cells
     have kv:=hv.fj
     have lv:=hv.len
     have f16:=e.is 1 rfl (by simp)
     simp only[aO,encI] at f16
     simp(disch:=omega)only[↓wr,seval,wq,t1,t2,t7,t8,t9,t91,t92,t93,f16,cv,kv]
     intro e0 J
     have a:=e.new J 3 [[gi (eN o r.left),v,gi r.prec]]
     have e4:d≠e0:=by rintro rfl;rw[c3] at J;simp at J
     try simp(disch:=omega)only[↓wr,seval,wq,t1,t2,t7,t8,t9,t91,t92,t93,cv,kv,lv,set_set,Zr]
     generalize hL:((V.sl O 0 1 4,4,[[B,G,u2,gi 0]]) :: (V.sl n3 0 kl.length 1,1,bF kl) ::
       (G,1,jw (o.map λx=>g.ak.getD x.toNat ⟨#[]⟩)) :: (B,3,g.af.map bS) :: (u2,3,fG bs) :: (V.sl Q 0 1 4,4,[[V.emp 1,V.emp 1,V.emp 1,gi 0]]) :: jn bs:List ct)=L at a
     refine aR.up r.right.length (YO g Q O d cV e0 (.sl n3 0 kl.length 1) v o kl mm C r L i) ?_ ?_
     .exact⟨by rw[set_set];exact a,by simp[View.set,e4,c3],t1,t2,t7,t8,t9,t91,t92,t93,rfl,rfl,rfl,rfl⟩
     clear F e a I J j c3 f16 hv K t1 t2 t7 t8 t9 t91 t92 t93
     rintro k k2 T H3 e5 ⟨a,j,t1,t2,t7,t8,t9,t91,t92,t93,t17,t113,t114,t115⟩
     have f17:=a.is 0 rfl (by simp)
     simp(disch:=omega)only[↓wr,seval,wq,wa,t1,t2,t7,t8,t9,t91,t92,t93,t17,t113,t114,t115]
     apply ah.dec<;>intro hF
     .have e6:r.right[k]?=some (r.right[k]'(by omega)):=Zj (by omega)
      have e7:r.right[k]'(by omega)∈r.right:=Zs _
      have hG:(b6 (eN o) r).right.length=r.right.length:=by simp[b6]
      have Z:(b6 (eN o) r).right.take (k+1)=(b6 (eN o) r).right.take k ++ [if r.right[k]'(by omega) < 0 then -1 - eN o (-1 - r.right[k]'(by omega)) else r.right[k]'(by omega)]:=by
       rw[ZG];simp[b6,e6]
      have e8:=fw (show k < r.right.length by omega)
      generalize r.right[k]'(by omega)=s at e6 e7 Z e8
      obtain⟨⟨s1,s2⟩,s3⟩:=bn s e7
      have hV:=Wd o (-1 - s)
      rw[e8] at a
      have hlen:(((b6 (eN o) r).right.take k ++ s :: r.right.drop (k+1)).map λx=>[gi x]).length=r.right.length:=by simp;omega
      obtain⟨nv,ev,fb⟩:=(a.own 1 rfl).sl (by rw[hlen];omega)
      rw[hlen] at ev
      subst ev
      have b4:k < ((b6 (eN o) r).right.take k ++ s :: r.right.drop (k+1)).length:=by simp;omega
      have an:=lY b4
      have hI:((b6 (eN o) r).right.take k ++ s :: r.right.drop (k+1))[k]'b4=s:=by
       rw[List.getElem_append_right (by simp;omega)]
       simp[show k - min k r.right.length=0 by omega,hG]
      rw[hI] at an
      simp(disch:=omega)only[↓wr,seval,wq,t1,t2,t7,t8,t9,t91,t92,t93,t17,t113,t114,t115,fb,an,Zr]
      refine⟨by omega,b4,?_⟩
      have ff:((b6 (eN o) r).right.take k).length=k:=by rw[Z6];omega
      have hJ:nv≠d:=EG a 1 rfl j
      apply ah.dec<;>intro aq
      .rw[Zn aq] at Z
       simp(disch:=omega)only[↓wr,seval,wq,t1,t2,t7,t8,t9,t91,t92,t93,t17,t113,t114,t115,f17]
       refine Cg (kt:=3) (et:=3) (z:=gi 0) (by kernel_rfl) (by kernel_rfl) (mj .i64 Tryz.underlying3) (id:=d) (c:=C) (m:=mm) (k:=-1 - s) (by simp(disch:=omega)only[↓wr,seval,wq,t9]) (by simp(disch:=omega)only[↓wr,seval,wq]) j ?_
       rw[b3]
       simp(disch:=omega)only[↓wr,seval,wq,t1,t2,t7,t8,t9,t91,t92,t93,t17,t113,t114,t115,f17,fb,an,Zr]
       refine⟨by omega,b4,?_⟩
       have ar:=((a.at 1 (by simp)).put (es':=((((b6 (eN o) r).right.take k ++ s :: r.right.drop (k+1)).map λx=>[gi x]).set k [gi (-1 - eN o (-1 - s))])) (by simp) (by rw[hlen])).perm (.swap _ _ _)
       refine aE e5 (by omega) ⟨?_,by simp only[View.set,Zk hJ.symm];exact j,t1,t2,t7,t8,t9,t91,t92,t93,t17,t113,t114,rfl⟩
       rw[ints_set,Ga ff] at ar
       rw[Z,Z2]
       rw[ints_set,Ga ff]
       exact ar
      .rw[Zk aq] at Z
       simp(disch:=omega)only[↓wr,seval,wq,t1,t2,t7,t8,t9,t91,t92,t93,t17,t113,t114,t115]
       refine aE e5 (by omega) ⟨?_,j,t1,t2,t7,t8,t9,t91,t92,t93,t17,t113,t114,rfl⟩
       rw[Z,Z2]
       exact a
     .rw[Zx (by simp[b6];omega),ZQ (by omega),aav] at a
      subst hL
      have f8:=a.is 3 rfl (by simp)
      have cv:=(a.own 1 rfl).cells
      have kv:=(a.own 1 rfl).fj
      have fl:(fG bs).length<=40:=by
       have h1:=aau List.length b1
       simp only[Zr,Z6] at h1
       simp only[fG,Zr]
       omega
      simp(disch:=omega)only[↓wr,seval,wq,t1,t2,t7,t8,t9,t91,t92,t93,t17,t113,t114,t115,f8,f17,cv,kv]
      intro m hm
      have cr:d≠m:=by rintro rfl;rw[j] at hm;simp at hm
      try simp(disch:=omega)only[↓wr,seval,wq,t1,t2,t7,t8,t9,t91,t92,t93,t17,bm]
      have ar:=(a.fresh (o:=.arr 3 [[gi (eN o r.left),v,gi r.prec]]) hm).at 7 (by simp)
      refine bL ar (by simp[xQ,kv]) (by unfold aA;simp at fl ⊢;omega) (by unfold aA;simp at fl ⊢;omega) ?_
      intro fm H4 bb t
      have cu:=bb.head.cells
      have ku:=bb.head.fj
      have cN:=bb.is 4 rfl (by simp)
      have fs:H4 d=.map (BN mm) C:=t.map (b:=d) ar.head (by simp[View.set,cr,j])
      have hK:d≠O:=(EG bb 4 rfl fs).symm
      simp(disch:=omega)only[↓wr,seval,wq,t1,t2,t7,t8,t9,t91,t92,t93,t17,cN,cu,ku]
      have hM:=(bb.at 4 (by simp)).put (es':=[[B,G,fm,gi 0]]) rfl rfl
      have hP:=((((hM.at 2 (by simp)).tail).at 3 (by simp)).tail)
      refine aE hk (by omega) ⟨⟨fm,bs ++ [(v,b6 (eN o) r)],?_,?_,by simp only[View.set,Zk hK];exact fs⟩,t1,t2,t7,t8,t9,t91,t92,rfl⟩
      .rw[ZD,b1,w,ZD];rfl
      .refine hP.perm (.cons _ ?_)
       simp only[jn,fG,ZD,ZJ,aaK]
       refine .trans ?_ (um _ 3 (by simp)).symm
       refine .cons _ ?_
       exact(aaQ (v,1,bF (b6 (eN o) r).right) ((.sl n3 0 kl.length 1,1,bF kl) :: (G,1,jw (o.map λx=>g.ak.getD x.toNat ⟨#[]⟩)) :: (B,3,g.af.map bS) :: (.sl Q 0 1 4,4,[[.emp 1,.emp 1,.emp 1,gi 0]]) :: jn bs)).symm
    .rw[Zx (by omega)] at b1
     have f8:=A.is 0 rfl (by simp)
     have f2:=A.is 5 rfl (by simp)
     have ft:O≠Q:=A.HH 0 5 rfl rfl (by omega)
     have c1:=(A.own 2 rfl).cells
     have k1:=(A.own 2 rfl).fj
     have c2:=(A.own 4 rfl).cells
     have k2:=(A.own 4 rfl).fj
     have b3:∀ x,(getM mm x).getD (gi 0)=gi (eN o x):=λx=>by
      rw[D.get,eN];cases eV (kE o 0) x <;> rfl
     simp(disch:=omega)only[↓wr,seval,wq,t1,t2,t7,t8,t9,t91,t92,t93,ag]
     refine Cg (kt:=3) (et:=3) (z:=gi 0) (by kernel_rfl) (by kernel_rfl) (mj .i64 Tryz.underlying3) (id:=d) (c:=C) (m:=mm) (k:=g.start) (by simp(disch:=omega)only[↓wr,seval,wq,t9]) (by simp(disch:=omega)only[↓wr,seval,wq]) j ?_
     rw[b3]
     simp(disch:=omega)only[↓wr,seval,wq,t1,t2,t7,t8,t9,t91,t92,t93,f8,f2,ft,ft.symm,c0,k0,c1,k1,c2,k2]
     intro h' hh
     have F:=A.put (es':=[[B,G,u2,gi (eN o g.start)]]) rfl rfl
     have e:=(F.at 5 (by simp)).put (es':=[[B,G,u2,gi (eN o g.start)]]) rfl rfl
     have hv:h'.view=(H2.set O (.arr 4 [[B,G,u2,gi (eN o g.start)]])).set Q (.arr 4 [[B,G,u2,gi (eN o g.start)]]):=hh
     rw[<-hv] at e
     exact Ma (x:=(⟨g.af,o.map λx=>g.ak.getD x.toNat ⟨#[]⟩,(g.rules.filter (cF p q)).map (b6 (eN o)),eN o g.start⟩,kl,0)) (b:=bs) (e.own 4 rfl) (e.own 3 rfl) (e.own 5 rfl) (λy hy=>e.1 y (by
      refine ZE _ (ZE _ (ZE _ (ZE _ (ZE _ (ZE _ ?_)))))
      exact hy)) b1 (e.own 2 rfl)
 .rename_i hr
  intro h' hh
  rw[Zk (by simp[hr])]
  exact yW
theorem N1 {l:List Int} {a b:List Bool} {t:Bool} (h:ij a b) (k:c7 l a t=true):c7 l b t=true:=by
 simp only[c7,ZZ] at k ⊢
 intro s hs
 have:=k s hs
 by_cases c:0<=s
 .rw[Zn c] at this ⊢;exact this
 .rw[Zk c] at this ⊢;exact h.2 _ this
theorem ij.uU {a b:List Bool} (h:ij a b) (k:ij b a):a=b:=by
 have h1:=h.eQ
 have c:=k.eQ
 exact h1.2 (by omega)
def qi (g:aj) (t:Bool) (is:List Bool):Prop:=∀ i,is.getD i false=true->∃ r∈g.rules,r.left.toNat=i/\c7 r.right is t=true
theorem qi.step {g:aj} {t:Bool} {is:List Bool} {r:bu} (h:qi g t is) (hr:r∈g.rules):qi g t (eW t is r):=by
 have hle:ij is (eW t is r):=by
  unfold eW
  split
  .exact .set _ _
  .exact .refl _
 intro i hi
 by_cases e:is.getD i false=true
 .obtain⟨c,h1,d,f⟩:=h i e
  exact⟨c,h1,d,N1 hle f⟩
 .unfold eW at hi
  by_cases a:c7 r.right is t=true
  .rw[Zn a] at hi
   have:r.left.toNat=i:=by
    refine aaB λb=>e ?_
    simp only[Zi,aaV,Zk b] at hi ⊢
    exact hi
   exact⟨r,hr,this,N1 hle a⟩
  .rw[Zk a] at hi;exact absurd hi e
theorem qi.fold {g:aj} {t:Bool} : ∀ (l:List bu) (is:List Bool),(∀ r∈l,r∈g.rules)->qi g t is->qi g t (l.foldl (eW t) is)
 | [],is,_,h=>h
 | r :: l,is,hl,h=>qi.fold l _ (λx a=>hl x (by simp[a])) (h.step (hl r (by simp)))
theorem qi.iter {g:aj} {t:Bool} : ∀ (n:Nat) (is:List Bool),qi g t is->qi g t (iter (kY g t) n is)
 | 0,_,h=>h
 | n+1,is,h=>qi.iter n _ (qi.fold g.rules is (λ_ h=>h) h)
theorem OG (g:aj) (t:Bool):qi g t (av g t):=by
 unfold av
 split
 .refine qi.iter _ _ ?_
  intro i hi
  simp only[cy,Zi,aaO] at hi
  split at hi <;> simp at hi
 .intro i hi;simp at hi
theorem Ni (is:List Bool) (s:Int):ij is (mark is s):=by
 unfold mark
 split
 .exact .set _ _
 .exact .refl _
theorem DQ:∀ (l:List Int) (is:List Bool),ij is (l.foldl mark is)
 | [],is=>.refl _
 | s :: l,is=>(Ni is s).trans (DQ l _)
theorem J6 (p is:List Bool) (r:bu):ij is (jb p is r):=by
 unfold jb
 split
 .exact DQ _ _
 .exact .refl _
theorem J5 (p:List Bool):∀ (l:List bu) (is:List Bool),ij is (l.foldl (jb p) is)
 | [],is=>.refl _
 | r :: l,is=>(J6 p is r).trans (J5 p l _)
theorem HN {p:List Bool} : ∀ {l:List bu} {is:List Bool},l.foldl (jb p) is=is->∀ r∈l,jb p is r=is
 | [],_,_,_,h=>by simp at h
 | r :: l,is,h,x,a=>by
  rw[ZS] at h
  have h1:=J5 p l (jb p is r)
  rw[h] at h1
  have b:=(h1.uU (J6 p is r))
  rcases Zz.1 a with rfl | a
  .exact b
  .rw[b] at h;exact HN h x a
theorem HL:∀ {l:List Int} {is:List Bool},l.foldl mark is=is->∀ s∈l,mark is s=is
 | [],_,_,_,h=>by simp at h
 | r :: l,is,h,x,a=>by
  rw[ZS] at h
  have h1:=DQ l (mark is r)
  rw[h] at h1
  have b:=(h1.uU (Ni is r))
  rcases Zz.1 a with rfl | a
  .exact b
  .rw[b] at h;exact HL h x a
theorem GM {g:aj} (hr:bI g=true):sn g (av g true) (cd g)=cd g/\ij ((cy g).set g.start.toNat true) (cd g):=by
 have a:=bD hr
 have h:=v8 (uJ (av g true)) g.rules 16 ((cy g).set g.start.toNat true) (by have:=a.ak;simp[cy];omega)
 rw[Mi,RF hr] at h
 exact h
theorem CM {g:aj} (hr:bI g=true):(cd g).getD g.start.toNat false=true:=by
 have a:=bD hr
 refine(GM hr).2.2 _ ?_
 have b:=a.nM
 have c:=a.start
 simp only[Zi]
 rw[abb (by simp[cy];omega)]
 rfl
theorem E7 {g:aj} (hr:bI g=true) {r:bu} (hm:r∈g.rules) (hk:cF (av g true) (cd g) r=true) {s:Int} (hs:s∈r.right) (b:s < 0):(cd g).getD (-1 - s).toNat false=true:=by
 have c:=bD hr
 have h1:=HN (GM hr).1 r hm
 unfold jb at h1
 rw[cF] at hk
 rw[Zn hk] at h1
 have a:=HL h1 s hs
 unfold mark at a
 rw[Zn b] at a
 rw[<-a]
 have hl:=rX hr
 have:=c.neg hm hs b
 simp only[Zi]
 rw[abb (by omega)]
 rfl
theorem Fx {g:aj} (hr:bI g=true) {x:Int} (c:0<=x) (hp:(av g true).getD x.toNat false=true) (hq:(cd g).getD x.toNat false=true):x∈cG (av g true) (cd g) g.rules:=by
 obtain⟨r,h1,d,a⟩:=OG g true _ hp
 have b:=bD hr
 have e:=b.left r h1
 have:r.left=x:=by omega
 refine uz.2 ⟨r,h1,?_,this⟩
 rw[cF,this,hq,a];rfl
theorem OI (g:aj):(if bI g=true then
  if (av g true).getD g.start.toNat false=true then (th g (eN (cG (av g true) (cd g) g.rules)) (av g true) (cd g),di (av g true) (cd g) g.rules 0,0)
  else (xM,[],9)
 else (xM,[],1))=gZ g:=by
 unfold gZ
 by_cases hr:bI g=true
 .rw[Zn hr,Zn hr]
  by_cases hp:(av g true).getD g.start.toNat false=true
  .rw[Zn hp,Zn hp]
   have b:=bD hr
   rw[Sr]
   .exact Fx hr b.nM hp (CM hr)
   .intro r hm
    obtain⟨h1,a⟩:=aag.1 hm
    refine⟨uz.2 ⟨r,h1,a,rfl⟩,λs hs c=>?_⟩
    refine Fx hr (by omega) ?_ (E7 hr h1 a hs c)
    rw[cF,Zw] at a
    have:=a.2
    simp only[c7,ZZ] at this
    have:=this s hs
    rwa [Zk (by omega)] at this
  .rw[Zk hp,Zk hp]
 .rw[Zk hr,Zk hr]
theorem N8 (g:aj) (a:g.Ok) (hs:g.Small):cE Tryz.prog 109 [.agg (ag g)] (yV (gZ g)):=by
 rw[<-OI];exact Lm g a hs
structure Cell where
 kind:Int
 n:Int
 deriving DecidableEq
structure PV where
 fe:List (List Cell)
 gotos:List (List Int)
 deriving DecidableEq
def ay (g:aj) (k:Int):bu:=g.rules.getD k.toNat ⟨0,[],0⟩
theorem getD_some {α:Type} {l:List α} {j:Nat} {d:α} (h:j < l.length):l[j]?=some (l.getD j d):=by simp[Zi,h]
theorem Kk {x:Int} : ∀ (o:List Int) (i:Int),x∈o->∃ k:Nat,cR (λy=>y == x) o i=i+k/\o[k]?=some x
 | [],_,h=>by simp at h
 | y :: o,i,h=>by
  by_cases e:y=x
  .exact⟨0,by simp[cR,e],by simp[e]⟩
  .have a:x∈o:=by
    rcases Zz.1 h with rfl | h
    .exact absurd rfl e
    .exact h
   obtain⟨k,h1,b⟩:=Kk o (i+1) a
   exact⟨k+1,by simp only[cR];rw[Zk (by simp[e]),h1];push_cast;omega,by simpa using b⟩
theorem UD {o:List Int} {x:Int} (h:x∈o):o[(bX o x).toNat]?=some x:=by
 obtain⟨k,h1,a⟩:=Kk o 0 h
 have:bX o x=k:=by unfold bX;omega
 rw[this];simpa using a
theorem No {o:List Int} (b:o.Nodup) {k:Nat} {x:Int} (h:o[k]?=some x):bX o x=k:=by
 have a:=Zp h
 have h1:=UD a
 have f:=rF a
 obtain⟨hk,c⟩:=Zy.1 h
 obtain⟨d,e⟩:=Zy.1 h1
 have:=(List.getElem_inj b).1 (e.trans c.symm)
 omega
theorem uN:∀ (l:List bu) (acc:List Int),acc.Nodup->(l.foldl gM acc).Nodup
 | [],_,h=>h
 | r :: l,acc,h=>uN l _ (E6 h)
theorem OL (p q:List Bool) (l:List bu):(cG p q l).Nodup:=uN _ _ List.nodup_nil
theorem Um (acc:List Int) (r:bu):∃ m,gM acc r=acc ++ m:=by
 unfold gM
 split
 .exact⟨[],by simp⟩
 .exact⟨_,rfl⟩
theorem ym:∀ (l:List bu) (acc:List Int),∃ m,l.foldl gM acc=acc ++ m
 | [],acc=>⟨[],by simp⟩
 | r :: l,acc=>by
  obtain⟨m,hm⟩:=Um acc r
  obtain⟨k,hk⟩:=ym l (gM acc r)
  exact⟨m ++ k,by rw[ZS,hk,hm,Z2]⟩
theorem Uy {a b:List Int} {x:Int} (h:x∈a):bX (a ++ b) x=bX a x:=by
 unfold bX
 rw[w9 _ _ _ _ (by omega)]
 have:=rF h
 unfold bX at this
 rw[Zn this.1]
theorem zq {r:aj} {o:List Int} (c:o.Nodup) (hr:r.ak.length=o.length):∀ (l:List bu) (acc:List Int),o=l.foldl gM acc->(∀ x∈l,ju r (b6 (bX o) x)=true)->iS r (l.map (b6 (bX o))) ((acc.length:Int) - 1)=true
 | [],acc,h,_=>by
  simp only[aaC] at h
  simp[iS,hr,h]
 | x :: l,acc,h,a=>by
  simp only[ZJ,iS,Zw,ZA]
  rw[ZS] at h
  have h1:(b6 (bX o) x).left=bX o x.left:=rfl
  obtain⟨m,hm⟩:=ym l (gM acc x)
  rw[<-h] at hm
  by_cases b:x.left∈acc
  .have e:gM acc x=acc:=by unfold gM;rw[Zn b]
   rw[e] at hm h
   have g:=rF b
   have d:bX o x.left=bX acc x.left:=by rw[hm];exact Uy b
   rw[h1,d,Zk (by omega)]
   exact⟨⟨⟨g.1,by omega⟩,a x (by simp)⟩,zq c hr l acc h λy f=>a y (by simp[f])⟩
  .have e:gM acc x=acc ++ [x.left]:=by unfold gM;rw[Zk b]
   rw[e] at hm h
   have d:bX o x.left=acc.length:=No c (by rw[hm];simp)
   rw[h1,d,Zn (by omega)]
   refine⟨⟨⟨by omega,by omega⟩,a x (by simp)⟩,?_⟩
   have:=zq c hr l (acc ++ [x.left]) h λy f=>a y (by simp[f])
   rw[aab] at this
   simpa using this
theorem CX {g r:aj} (h:r.af=g.af):∀ (l:List Term) (i:Int),kQ r l i=kQ g l i
 | [],_=>rfl
 | t :: l,i=>by
  simp only[kQ,CX h l]
  congr 1
  simp only[lK,nW,tI,h]
theorem IC {o:List Int} {n:Nat} (h:o.Nodup) (a:∀ x∈o,0<=x/\x < n):o.length<=n:=by
 have:=pc o ((List.range n).map λ(k:Nat)=>(k:Int)) h λx b=>by
  have:=a x b
  exact ZF.2 ⟨x.toNat,aap.2 (by omega),by omega⟩
 simpa using this
structure nH (g:aj) (p q:List Bool) (o:List Int) (r:aj):Prop where
 right:bI g=true
 pe:p=av g true
 qe:q=cd g
 oe:o=cG p q g.rules
 re:r=th g (bX o) p q
 nodup:o.Nodup
 inside:∀ x∈o,0<=x/\x < g.ak.length
 kept:∀ R∈g.rules,cF p q R=true->R.left∈o/\∀ s∈R.right,s < 0->-1 - s∈o
 from_:∀ x∈o,∃ R∈g.rules,cF p q R=true/\R.left=x
 start:g.start∈o
theorem Xp {g:aj} (hr:bI g=true) (hp:(av g true).getD g.start.toNat false=true):nH g (av g true) (cd g) (cG (av g true) (cd g) g.rules) (th g (bX (cG (av g true) (cd g) g.rules)) (av g true) (cd g)):=by
 have b:=bD hr
 refine⟨hr,rfl,rfl,rfl,rfl,OL _ _ _,λx a=>?_,λR hm hk=>⟨uz.2 ⟨R,hm,hk,rfl⟩,λs hs c=>?_⟩,λx a=>uz.1 a,Fx hr b.nM hp (CM hr)⟩
 .obtain⟨R,h1,_,rfl⟩:=uz.1 a
  exact b.left R h1
 .refine Fx hr (by omega) ?_ (E7 hr hm hk hs c)
  rw[cF,Zw] at hk
  have:=hk.2
  simp only[c7,ZZ] at this
  have:=this s hs
  rwa [Zk (by omega)] at this
section
variable {g r:aj} {p q:List Bool} {o:List Int}
theorem nH.rules (h:nH g p q o r):r.rules=(g.rules.filter (cF p q)).map (b6 (bX o)):=by rw[h.re];rfl
theorem nH.ak (h:nH g p q o r):r.ak=o.map λx=>g.ak.getD x.toNat ⟨#[]⟩:=by rw[h.re,h.oe];rfl
theorem nH.af (h:nH g p q o r):r.af=g.af:=by rw[h.re];rfl
theorem nH.Qk (h:nH g p q o r):r.start=bX o g.start:=by rw[h.re];rfl
theorem nH.len (h:nH g p q o r):r.ak.length=o.length:=by rw[h.ak];simp
theorem nH.R7 (h:nH g p q o r):bI r=true:=by
 have P:=bD h.right
 have D:=h.right
 simp only[bI,lf,lU,Zw,ZA] at D ⊢
 obtain⟨⟨⟨⟨⟨⟨⟨H,a2⟩,⟨a3,a4⟩,a5⟩,Q⟩,R⟩,S⟩,a9⟩,n⟩:=D
 have I:=rF h.start
 have J:o.length<=g.ak.length:=IC h.nodup h.inside
 have c:g.ak.Nodup/\∀ s∈g.ak,iq (gx s)=true/\nW g s < 0:=by
  rw[vM] at a5
  refine⟨(vP g.ak).1 λk s hk=>?_,λs hs=>?_⟩
  .have:=a5 k s hk
   simp only[nt,Bd,Zw,aaz] at this
   have:=this.1.2
   omega
  .obtain⟨k,hk⟩:=List.getElem?_of_mem hs
   have:=a5 k s hk
   simp only[nt,Zw,ZA] at this
   exact⟨this.1.1,this.2⟩
 have a:∀ x∈o,∃ (b:x.toNat < g.ak.length),g.ak.getD x.toNat ⟨#[]⟩=g.ak[x.toNat]:=λx b=>by
  have:=h.inside x b
  exact⟨by omega,by simp[Zi,Zj (show x.toNat < g.ak.length by omega)]⟩
 have t:r.ak.Nodup:=by
  rw[h.ak,abe,abj]
  refine(List.Pairwise.and_mem.1 h.nodup).imp ?_
  rintro x y ⟨b,E,u⟩ e
  obtain⟨h1,v⟩:=a x b
  obtain⟨F,i⟩:=a y E
  rw[v,i] at e
  have T:=(List.getElem_inj c.1).1 e
  have U:=h.inside x b
  have V:=h.inside y E
  exact u (by omega)
 have j:(g.rules.filter (cF p q)).length<=g.rules.length:=aac _ _
 obtain⟨W,w,z,_⟩:=h.from_ _ h.start
 have G:0 < (g.rules.filter (cF p q)).length:=List.length_pos_of_mem (aag.2 ⟨w,z⟩)
 have K:r.rules.length=(g.rules.filter (cF p q)).length:=by rw[h.rules];simp
 refine⟨⟨⟨⟨⟨⟨⟨by rw[h.af];exact H,?_⟩,⟨by rw[h.len];omega,by rw[h.len];omega⟩,?_⟩,by omega⟩,by omega⟩,by rw[h.Qk];omega⟩,by rw[h.Qk,h.len];omega⟩,?_⟩
 .rw[h.af,CX h.af];exact a2
 .rw[vM]
  intro k s hk
  have hm:=Zp hk
  have d:=(vP r.ak).2 t k s hk
  rw[h.ak,ZF] at hm
  obtain⟨x,b,rfl⟩:=hm
  obtain⟨h1,v⟩:=a x b
  obtain⟨F,i⟩:=c.2 _ (v ▸ Zs h1:g.ak.getD x.toNat ⟨#[]⟩∈g.ak)
  simp only[nt,Bd,Zw,aaz,ZA]
  refine⟨⟨F,by rw[d];omega⟩,?_⟩
  simp only[nW,h.af] at i ⊢
  exact i
 .rw[h.rules]
  have:=zq (r:=r) h.nodup h.len (g.rules.filter (cF p q)) [] (by rw[h.oe];rfl) (λx b=>?_)
  .simpa using this
  obtain⟨hm,hk⟩:=aag.1 b
  obtain⟨_,A⟩:=h.kept x hm hk
  have l:=(B6 _ _ n).2 x hm
  have l:=l.2.2
  simp only[ju,Zw,ZA,ZZ] at l ⊢
  obtain⟨⟨⟨L,M⟩,N⟩,O⟩:=l
  refine⟨⟨⟨by simpa [b6] using L,M⟩,by rw[h.af];exact N⟩,λs hs=>?_⟩
  simp only[b6,ZF] at hs
  obtain⟨m,f,rfl⟩:=hs
  have B:=O m f
  by_cases C:m < 0
  .rw[Zn C]
   have hl:=rF (A m f C)
   simp only[oz,fT,Zw]
   rw[Zk (by omega),decide_eq_false (p:=0≤-1 - bX o (-1 - m)) (by omega)]
   simp only[h.len,ZA,aa0,Bool.not_false,and_true]
   omega
  .rw[Zk C]
   simp only[oz,fT,h.af] at B ⊢
   rw[Zn (by omega)] at B ⊢
   exact B
end
inductive vF (g:aj):Int->Prop
 | mk (R:bu):R∈g.rules->(∀ s∈R.right,s < 0->vF g (-1 - s))->vF g R.left
theorem DA {l:List Int} {p:List Bool} : c7 l p true=true↔∀ s∈l,s < 0->p.getD (-1 - s).toNat false=true:=by
 simp only[c7,ZZ]
 constructor
 .intro h s hs a
  have:=h s hs
  rwa [Zk (by omega)] at this
 .intro h s hs
  by_cases a:s < 0
  .rw[Zk (by omega)];exact h s hs a
  .rw[Zn (by omega)]
theorem UC {l:List Bool} {i j:Nat} (h:(l.set i true).getD j false=true):j=i∨l.getD j false=true:=by
 by_cases e:i=j
 .exact .inl e.symm
 .right
  simp only[Zi,aaV,Zk e] at h ⊢
  exact h
theorem Oh {g:aj} {i:Nat} : (cy g).getD i false=false:=by
 simp only[cy,Zi,aaO]
 split <;> rfl
theorem AH {g:aj} (hr:bI g=true):∀ i:Nat,(av g true).getD i false=true->vF g i:=by
 have j:=bD hr
 have b:∀ (is:List Bool) (R:bu),R∈g.rules->(∀ i:Nat,is.getD i false=true->vF g i)->∀ i:Nat,(eW true is R).getD i false=true->vF g i:=by
  intro is R f h i hi
  unfold eW at hi
  split at hi
  .rename_i k
   rcases UC hi with rfl | hi
   .have:=j.left R f
    have e:((R.left.toNat:Nat):Int)=R.left:=by omega
    rw[e]
    refine .mk R f λs hs m=>?_
    have:=h _ (DA.1 k s hs m)
    rwa [show (((-1 - s).toNat:Nat):Int) = -1 - s by omega] at this
   .exact h i hi
  .exact h i hi
 have a:∀ (l:List bu) (is:List Bool),(∀ R∈l,R∈g.rules)->(∀ i:Nat,is.getD i false=true->vF g i)->∀ i:Nat,(l.foldl (eW true) is).getD i false=true->vF g i:=by
  intro l
  induction l with
  | nil=>intro is _ h;exact h
  | cons R l c=>intro is hl h;exact c _ (λx o=>hl x (by simp[o])) (b is R (hl R (by simp)) h)
 have d:∀ (n:Nat) (is:List Bool),(∀ i:Nat,is.getD i false=true->vF g i)->∀ i:Nat,(iter (kY g true) n is).getD i false=true->vF g i:=by
  intro n
  induction n with
  | zero=>intro is h;exact h
  | succ n c=>intro is h;exact c _ (a g.rules is (λ_ h=>h) h)
 rw[av,Zn hr]
 exact d _ _ λi hi=>by rw[Oh] at hi;simp at hi
theorem Ht (t:Bool) (is:List Bool) (R:bu):ij is (eW t is R):=by
 unfold eW
 split
 .exact .set _ _
 .exact .refl _
theorem HP (t:Bool):∀ (l:List bu) (is:List Bool),ij is (l.foldl (eW t) is)
 | [],is=>.refl _
 | R :: l,is=>(Ht t is R).trans (HP t l _)
theorem Ft {t:Bool} : ∀ {l:List bu} {is:List Bool},l.foldl (eW t) is=is->∀ R∈l,eW t is R=is
 | [],_,_,_,h=>by simp at h
 | R :: l,is,h,x,a=>by
  rw[ZS] at h
  have h1:=HP t l (eW t is R)
  rw[h] at h1
  have b:=(h1.uU (Ht t is R))
  rcases Zz.1 a with rfl | a
  .exact b
  .rw[b] at h;exact Ft h x a
theorem PX {g:aj} (hr:bI g=true) (t:Bool):kY g t (av g t)=av g t:=by
 have a:=bD hr
 have h:=v8 (nz t) g.rules 16 (cy g) (by have:=a.ak;simp[cy];omega)
 rw[L3,I1 hr] at h
 exact h.1
theorem uH {g:aj} (hr:bI g=true) {t:Bool} {R:bu} (a:R∈g.rules) (b:c7 R.right (av g t) t=true):(av g t).getD R.left.toNat false=true:=by
 have h1:=Ft (PX hr t) R a
 have c:=bD hr
 have hl:=fV hr t
 have d:=c.left R a
 unfold eW at h1
 rw[Zn b] at h1
 rw[<-h1]
 simp only[Zi]
 rw[abb (by omega)]
 rfl
theorem Br {g:aj} (hr:bI g=true) {x:Int} (h:vF g x):(av g true).getD x.toNat false=true:=by
 induction h with
 | mk R a _ b=>exact uH hr a (DA.2 λs hs c=>b s hs c)
section
variable {g r:aj} {p q:List Bool} {o:List Int}
theorem nH.Zc (h:nH g p q o r) {x:Int} (hd:vF g x):x∈o->vF r (bX o x):=by
 induction hd with
 | mk R i b j =>
  intro k
  obtain⟨n,l,c,m⟩:=h.from_ _ k
  have hk:cF p q R=true:=by
   rw[cF,Zw] at c ⊢
   refine⟨by rw[<-m];exact c.1,?_⟩
   rw[h.pe]
   exact DA.2 λs hs a=>Br h.right (b s hs a)
  have e:=(h.kept R i hk).2
  have hm:b6 (bX o) R∈r.rules:=by rw[h.rules];exact ZF.2 ⟨R,aag.2 ⟨i,hk⟩,rfl⟩
  refine vF.mk (b6 (bX o) R) hm λt d f=>?_
  simp only[b6,ZF] at d
  obtain⟨s,hs,rfl⟩:=d
  by_cases a:s < 0
  .rw[Zn a]
   have:=j s hs a (e s hs a)
   rwa [show -1 - (-1 - bX o (-1 - s))=bX o (-1 - s) by omega]
  .rw[Zk a] at f;omega
theorem nH.XN (h:nH g p q o r) {x:Int} (a:x∈o):(av r true).getD (bX o x).toNat false=true:=by
 obtain⟨R,c,hk,rfl⟩:=h.from_ _ a
 rw[cF,Zw,h.pe] at hk
 have h1:=uH h.right c hk.2
 have b:=AH h.right _ h1
 have:=(h.inside _ a)
 rw[show ((R.left.toNat:Nat):Int)=R.left by omega] at b
 exact Br h.R7 (h.Zc b a)
theorem nH.at_ (h:nH g p q o r) {k:Nat} (hk:k < o.length):∃ x∈o,bX o x=k/\o[k]?=some x:=⟨o[k],Zs _,No h.nodup (Zj hk),Zj hk⟩
theorem nH.S4 (h:nH g p q o r) {k:Nat} (hk:k < o.length):(av r true).getD k false=true:=by
 obtain⟨x,a,h1,_⟩:=h.at_ hk
 have:=h.XN a
 rwa [h1,ZK] at this
end
def isRed (g:aj):Bool:=(gZ g).2.2 == 0 && decide (g=(gZ g).1)
def W6 (p:List Int) (i:Nat) (s:Int):Prop:=∃ c,p[i]?=some c/\(c=s∨c = -1)
structure Item where
 aw:Nat
 dot:Nat
 RE:Nat
 deriving DecidableEq
structure Y3 (g:aj) (p:List Int) (S:Nat->List Item):Prop where
 start:∀ (i:Nat) (R:bu),g.rules[i]?=some R->R.left=g.start->⟨i,0,0⟩∈S 0
 term:∀ a x R s,x∈S a->g.rules[x.aw]?=some R->R.right[x.dot]?=some s->0<=s->W6 p a s->⟨x.aw,x.dot+1,x.RE⟩∈S (a+1)
 pred:∀ a x R s i R',x∈S a->g.rules[x.aw]?=some R->R.right[x.dot]?=some s->s < 0->g.rules[i]?=some R'->R'.left = -1 - s->a<=p.length->⟨i,0,a⟩∈S a
 null:∀ a x R s,x∈S a->g.rules[x.aw]?=some R->R.right[x.dot]?=some s->s < 0->(av g false).getD (-1 - s).toNat false=true->a<=p.length->⟨x.aw,x.dot+1,x.RE⟩∈S a
 comp:∀ a y R' x R s,y∈S a->g.rules[y.aw]?=some R'->y.dot=R'.right.length->y.RE < a->x∈S y.RE->g.rules[x.aw]?=some R->R.right[x.dot]?=some s->s < 0->R'.left = -1 - s->a<=p.length->⟨x.aw,x.dot+1,x.RE⟩∈S a
abbrev Tb:=List (List (List Bool))
def dU (c:Cell):List V:=[gi c.kind,gi c.n]
abbrev kS (l:List Cell):V:=.aD (l.map dU)
def gV (t:PV):List V:=[.aD (t.fe.map λr=>[kS r]),.aD (t.gotos.map λr=>[encI r])]
theorem BO (c:Cell):∀ v∈dU c,Tree v:=by
 intro v a;simp[dU] at a;rcases a with rfl | rfl <;> exact .val _
theorem LH (l:List Cell):Tree (kS l):=dZ _ _ λc _ v a=>BO c v a
theorem Ls (t:PV):∀ v∈gV t,Tree v:=by
 intro v a
 simp only[gV,Zz,List.not_mem_nil,or_false] at a
 rcases a with rfl | rfl
 .exact dZ _ _ λr _ v a=>by simp at a;subst a;exact LH r
 .exact dZ _ _ λr _ v a=>by simp at a;subst a;exact ew r
theorem WT:xM.Ok:=by
 refine⟨by unfold aJ;decide,by unfold aJ;decide,by unfold aJ;decide,by unfold cp;decide,?_,?_⟩
 .intro t a;simp[xM] at a
 .intro r hr;simp[xM] at hr
section
variable {g r:aj} {p q:List Bool} {o:List Int}
end
theorem bytes_beq (a b:ByteArray):(a == b)=decide (a=b):=by
 cases a with | mk a=>cases b with | mk b =>
 rw[aan]
 show (ByteArray.beq ⟨a⟩ ⟨b⟩=true)↔_
 simp only[ByteArray.beq]
 simp
theorem It (a b:ByteArray):jR a b=decide (a=b):=by
 cases a with | mk a=>cases b with | mk b =>
 rw[aan]
 simp[jR]
theorem rG {α:Type} {a b:List α} {i:Nat} {x y:α} (c:a[i]?=some x) (d:b[i]?=some y) (h:a.take i=b.take i) (e:x=y):a.take (i+1)=b.take (i+1):=by
 rw[ZG,ZG,h,c,d,e]
theorem vo {α:Type} {a b:List α} {i:Nat} (c:a.length<=i) (d:b.length<=i) (h:a.take i=b.take i):a=b:=by
 rwa [Zx c,Zx d] at h
theorem zB {α:Type} {a b:List α} {i:Nat} {x y:α} (d:a[i]?=some x) (c:b[i]?=some y) (e:x≠y):a≠b:=by
 rintro rfl;rw[d] at c;exact e (by simpa using c)
theorem uF {α:Type} {a b:List α} (h:¬ a.length=b.length):a≠b:=λe=>h (by rw[e])
theorem CF (x y:Term):gg Tryz.prog 9998 #[.string x.name,.int .i64 x.level,.int .i64 x.assoc] #[.string y.name,.int .i64 y.level,.int .i64 y.assoc]
  [{ name:= "Name",type:=9,offset:=0,embedded:=false,tag:= "",pkgPath:= "",byteOffset:=0 },{ name:= "Level",type:=3,offset:=1,embedded:=false,tag:= "",pkgPath:= "",byteOffset:=16 },
   { name:= "Assoc",type:=3,offset:=2,embedded:=false,tag:= "",pkgPath:= "",byteOffset:=24 }] (x.name == y.name && (x.level == y.level && (x.assoc == y.assoc && true))) :=
 .str _ _ _ _ _ (by decide) Tryz.underlying9 rfl rfl (.int _ _ _ _ _ _ (by decide) Tryz.underlying3 rfl rfl (.int _ _ _ _ _ _ (by decide) Tryz.underlying3 rfl rfl .nil))
theorem Nn (x y:Term):(x.name == y.name && (x.level == y.level && (x.assoc == y.assoc && true)))=decide (x=y):=by
 rw[bytes_beq,aan]
 cases x;cases y
 simp
theorem VQ (a b:Int):(a == b)=decide (a=b):=by rw[aan];simp
theorem Va (x y:bu):decide (x=y)=(decide (x.left=y.left) && (decide (x.prec=y.prec) && decide (x.right=y.right))):=by
 cases x;cases y
 rw[aan]
 simp[and_comm]
theorem J1 (x y:aj):decide (x=y)=(decide (x.af=y.af) && (decide (x.ak=y.ak) && (decide (x.rules=y.rules) && decide (x.start=y.start)))):=by
 cases x;cases y
 rw[aan]
 simp
theorem Hi (g k:aj):∀ v∈[V.agg (ag g),V.agg (ag k)],Tree v:=by
 intro v a;simp at a
 rcases a with rfl | rfl <;> exact cb _ (cY _)
def qf:SC :=
 ae [ae [ab [aa 42 5,ao 43 0 2,ai 44 43,aP 45 44,aS 46 .lss 42 45],bT 46 (.exit 0)],.block 1 (ae [ab [ao 49 0 2,ai 50 49,aa 51 5,aH 52 3 50 51,aT 53 3 52,ao 54 0 3,ai 55 54,aa 56 5,aH 57 3 55 56,aT 58 3 57,((some 59),.op (.old (.binOp .neq 129 (.tmp 53) (.tmp 58) 129) 4))],bc 59 (ae [ab [bz 4 false],.ret])]),ab [aa 47 5,aG 48 .add 47 1,aa 5 48]]
def qt:SC :=
 ae [ae [ab [aa 60 6,ao 61 1 2,ai 62 61,aP 63 62,aS 64 .lss 60 63],bT 64 (.exit 2)],.block 3 (ae [ab [ao 67 1 2,ai 68 67,aa 69 6,aH 70 1 68 69,ai 71 70,ao 72 1 3,ai 73 72,aa 74 6,aH 75 1 73 74,ai 76 75,((some 77),.op (.zX .neq (.tmp 71) (.tmp 76)))],bc 77 (ae [ab [bz 4 false],.ret])]),ab [aa 65 6,aG 66 .add 65 1,aa 6 66]]
def pN:SC :=
 ae [ae [ab [aa 78 7,ao 79 2 2,ai 80 79,aP 81 80,aS 82 .lss 78 81],bT 82 (.exit 4)],.block 5 (ae [ab [ao 85 2 2,ai 86 85,aa 87 7,aH 88 3 86 87,aT 89 3 88,ao 90 2 3,ai 91 90,aa 92 7,aH 93 3 91 92,aT 94 3 93,((some 8),.op (.alloc [(.val (.int .i64 0)),(.emp 1),(.val (.int .i64 0))])),((some 9),.op (.alloc [(.val (.int .i64 0)),(.emp 1),(.val (.int .i64 0))])),bK 3 8 89,bK 3 9 94],.region false [⟨none,[ao 95 0 8,ai 96 95,ao 97 0 9,ai 98 97,aS 99 .neq 96 98,aa 100 99]⟩,⟨(some (100,false)),[ao 101 2 8,ai 102 101,ao 103 2 9,ai 104 103,aS 105 .neq 102 104]⟩,⟨none,[cD 106 100 105,aa 107 106]⟩,⟨(some (107,false)),[ao 108 1 8,ai 109 108,ao 110 1 9,ai 111 110,bh 112 37 [109,111],c6 113 112]⟩,⟨none,[cD 114 107 113]⟩],bc 114 (ae [ab [bz 4 false],.ret])]),ab [aa 83 7,aG 84 .add 83 1,aa 7 84]]
def sM:SF:=⟨ae [ab [cw 2 0,cw 3 1,bz 4 false],ae [.region false [⟨none,[ao 10 0 2,ai 11 10,aP 12 11,ao 13 0 3,ai 14 13,aP 15 14,aS 16 .neq 12 15,aa 17 16]⟩,⟨(some (17,false)),[ao 18 1 2,ai 19 18,aP 20 19,ao 21 1 3,ai 22 21,aP 23 22,aS 24 .neq 20 23]⟩,⟨none,[cD 25 17 24,aa 26 25]⟩,⟨(some (26,false)),[ao 27 2 2,ai 28 27,aP 29 28,ao 30 2 3,ai 31 30,aP 32 31,aS 33 .neq 29 32]⟩,⟨none,[cD 34 26 33,aa 35 34]⟩,⟨(some (35,false)),[ao 36 3 2,ai 37 36,ao 38 3 3,ai 39 38,aS 40 .neq 37 39]⟩,⟨none,[cD 41 35 40]⟩],bc 41 (ae [ab [bz 4 false],.ret])],ae [ab [aQ 5 0],bU 0 qf],ae [ab [aQ 6 0],bU 2 qt],ae [ab [aQ 7 0],bU 4 pN],ab [bz 4 true],.ret],
 [.tmp 4],115⟩
theorem x8:aN Tryz.prog 36 [2,3]=some sM:=by kernel_rfl
theorem Hh (g k:aj) (o:g.Ok):az Tryz.prog 36 [.agg (ag g),.agg (ag k)] (gb (decide (g=k))):=by
 refine az.val (Hi g k) λH=>?_
 rw[J1]
 refine au.of mixed x8 ?_
 have h1:=o.af
 have v:=o.ak
 have w:=o.rules
 unfold aJ at h1 v w
 simp(disch:=omega)only[↓wr,seval,wq,sM,ag,encS]
 repeat' (first | ((first|apply ah.dec|apply ah.eq|apply ah.ne|apply ah.split)<;>intro)|(simp(disch:=omega)only[↓wr,seval,wq,ag,encS]))
 .rename_i e;rw[decide_eq_false (uF (by omega))];rfl
 .rename_i e;rw[decide_eq_false (p:=g.ak=k.ak) (uF (by omega))];simp
 .rename_i e;rw[decide_eq_false (p:=g.rules=k.rules) (uF (by omega))];simp
 .rename_i e;rw[decide_eq_false e];simp
 rename_i A B C z
 refine aR.up g.af.length (λi T _=>g.af.take i=k.af.take i/\T 2=.aI (ag g) 0/\T 3=.aI (ag k) 0/\T 5=gi i) ⟨by simp,rfl,rfl,rfl⟩ ?_
 rintro i m T H hm ⟨hi,t2,t3,t5⟩
 simp(disch:=omega)only[↓wr,seval,wq,qf,t2,t3,t5,ag,encS]
 apply ah.dec<;>intro d
 .have a:=Zj (l:=g.af) (i:=i) (by omega)
  have b:=Zj (l:=k.af) (i:=i) (by omega)
  generalize g.af[i]'(by omega)=x at a
  generalize k.af[i]'(by omega)=y at b
  simp(disch:=omega)only[↓wr,seval,wq,t2,t3,t5,Zm,a,b,bS,ag,encS]
  refine fQ (xs:=#[.string x.name,.int .i64 x.level,.int .i64 x.assoc]) (ys:=#[.string y.name,.int .i64 y.level,.int .i64 y.assoc]) Tryz.underlying129 (by kernel_rfl) (by kernel_rfl) ?_ ?_ (CF x y) (.inr ⟨rfl,rfl⟩) ?_
  .rfl
  .rfl
  rw[Nn]
  simp(disch:=omega)only[↓wr,seval,wq,t2,t3,t5]
  apply ah.split<;>intro e
  .simp(disch:=omega)only[↓wr,seval,wq,t2,t3,t5]
   exact aE hm (by omega) ⟨rG a b hi (by simpa using e),t2,t3,rfl⟩
  .simp(disch:=omega)only[↓wr,seval,wq,t2,t3,t5]
   rw[decide_eq_false (zB a b (by simpa using e))];rfl
 have s:g.af=k.af:=vo (by omega) (by omega) hi
 simp(disch:=omega)only[↓wr,seval,wq,t2,t3,t5]
 clear hi d hm
 refine aR.up g.ak.length (λi T _=>g.ak.take i=k.ak.take i/\T 2=.aI (ag g) 0/\T 3=.aI (ag k) 0/\T 6=gi i) ⟨by simp,t2,t3,rfl⟩ ?_
 clear t2 t3 t5 T H i m
 rintro i m T H hm ⟨hi,t2,t3,t5⟩
 simp(disch:=omega)only[↓wr,seval,wq,qt,t2,t3,t5,ag,encS]
 apply ah.dec<;>intro d
 .have a:=Zj (l:=g.ak) (i:=i) (by omega)
  have b:=Zj (l:=k.ak) (i:=i) (by omega)
  generalize g.ak[i]'(by omega)=x at a
  generalize k.ak[i]'(by omega)=y at b
  simp(disch:=omega)only[↓wr,seval,wq,t2,t3,t5,Zm,a,b,bS,ag,encS,It]
  apply ah.split<;>intro e
  .simp(disch:=omega)only[↓wr,seval,wq,t2,t3,t5]
   exact aE hm (by omega) ⟨rG a b hi (by simpa using e),t2,t3,rfl⟩
  .simp(disch:=omega)only[↓wr,seval,wq,t2,t3,t5]
   rw[decide_eq_false (p:=g.ak=k.ak) (zB a b (by simpa using e))];simp
 have t:g.ak=k.ak:=vo (by omega) (by omega) hi
 simp(disch:=omega)only[↓wr,seval,wq,t2,t3,t5]
 clear hi d hm
 refine aR.up g.rules.length (λi T _=>g.rules.take i=k.rules.take i/\T 2=.aI (ag g) 0/\T 3=.aI (ag k) 0/\T 7=gi i) ⟨by simp,t2,t3,rfl⟩ ?_
 clear t2 t3 t5 T H i m
 rintro i m T H hm ⟨hi,t2,t3,t5⟩
 simp(disch:=omega)only[↓wr,seval,wq,pN,t2,t3,t5,ag,encS]
 apply ah.dec<;>intro d
 .have a:=Zj (l:=g.rules) (i:=i) (by omega)
  have b:=Zj (l:=k.rules) (i:=i) (by omega)
  have j:g.rules[i]'(by omega)∈g.rules:=Zs _
  generalize g.rules[i]'(by omega)=x at a j
  generalize k.rules[i]'(by omega)=y at b
  have q:=(o.aw x j).2.2.1
  simp(disch:=omega)only[↓wr,seval,wq,t2,t3,t5,Zm,a,b,aO,encI,ag,encS]
  intro n D
  try simp(disch:=omega)only[↓wr,seval,wq,t2,t3,t5,aO,encI]
  intro E r
  have c:=(cP r cI).1
  try simp(disch:=omega)only[↓wr,seval,wq,t2,t3,t5,aO,encI,c,c.symm]
  have f:x≠y->V.val (Value.bool false)=V.val (Value.bool (decide (g.af=k.af) && (decide (g.ak=k.ak) && (decide (g.rules=k.rules) && decide (g.start=k.start))))):=λe=>by
   rw[decide_eq_false (p:=g.rules=k.rules) (zB a b e)];simp
  repeat' (first | ((first|apply ah.dec|apply ah.eq|apply ah.ne|apply ah.split)<;>intro)|(refine ax.pure (NW x.right y.right q) ?_)|(simp(disch:=omega)only[↓wr,seval,wq,t2,t3,t5,aO,encI,c,c.symm]))
  .rename_i e;exact f λh=>e (by rw[h])
  .rename_i e;exact f λh=>e (by rw[h])
  .rename_i u t s
   refine aE hm (by omega) ⟨rG a b hi ?_,t2,t3,rfl⟩
   cases x;cases y
   simp_all
  .rename_i e;exact f λh=>by rw[h] at e;simp at e
 .have u:g.rules=k.rules:=vo (by omega) (by omega) hi
  simp(disch:=omega)only[↓wr,seval,wq,t2,t3,t5]
  simp[s,t,u,z]
def ic:SC :=
 ae [ab [aS 14 .lss 13 12],bT 14 (.exit 0),.block 1 (ae [ab [aa 15 13,aa 5 15],ab [aa 16 0,aa 17 5,aH 18 3 16 17,aT 19 3 18,aa 20 1,aa 21 5,aH 22 3 20 21,aT 23 3 22,((some 24),.op (.old (.binOp .neq 129 (.tmp 19) (.tmp 23) 129) 4))],bc 24 (ae [ab [bz 4 false],.ret])]),ab [aG 25 .add 13 1,aa 13 25]]
def iH:SF:=⟨ae [ab [bz 4 false],ae [ab [aa 6 0,aP 7 6,aa 8 1,aP 9 8,aS 10 .neq 7 9],bc 10 (ae [ab [bz 4 false],.ret])],ae [ab [aa 11 0,aP 12 11,aQ 13 0],bU 0 ic],ab [bz 4 true],.ret],
 [.tmp 4],26⟩
theorem ln:aN Tryz.prog 162 []=some iH:=by kernel_rfl
def je:SC :=
 ae [ab [aS 14 .lss 13 12],bT 14 (.exit 0),.block 1 (ae [ab [aa 15 13,aa 5 15],ab [aa 16 0,aa 17 5,aH 18 1 16 17,ai 19 18,aa 20 1,aa 21 5,aH 22 1 20 21,ai 23 22,((some 24),.op (.zX .neq (.tmp 19) (.tmp 23)))],bc 24 (ae [ab [bz 4 false],.ret])]),ab [aG 25 .add 13 1,aa 13 25]]
def jz:SF:=⟨ae [ab [bz 4 false],ae [ab [aa 6 0,aP 7 6,aa 8 1,aP 9 8,aS 10 .neq 7 9],bc 10 (ae [ab [bz 4 false],.ret])],ae [ab [aa 11 0,aP 12 11,aQ 13 0],bU 0 je],ab [bz 4 true],.ret],
 [.tmp 4],26⟩
theorem nq:aN Tryz.prog 163 []=some jz:=by kernel_rfl
def kq:SC :=
 ae [ab [aS 14 .lss 13 12],bT 14 (.exit 0),.block 1 (ae [ab [aa 15 13,aa 5 15],ab [aa 16 0,aa 17 5,aH 18 1 16 17,ai 19 18,aa 20 1,aa 21 5,aH 22 1 20 21,ai 23 22,aS 24 .neq 19 23],bc 24 (ae [ab [bz 4 false],.ret])]),ab [aG 25 .add 13 1,aa 13 25]]
def lH:SF:=⟨ae [ab [bz 4 false],ae [ab [aa 6 0,aP 7 6,aa 8 1,aP 9 8,aS 10 .neq 7 9],bc 10 (ae [ab [bz 4 false],.ret])],ae [ab [aa 11 0,aP 12 11,aQ 13 0],bU 0 kq],ab [bz 4 true],.ret],
 [.tmp 4],26⟩
theorem rm:aN Tryz.prog 198 []=some lH:=by kernel_rfl
def CT:SF:=⟨ae [ab [cw 2 0,cw 3 1,bz 4 false],.region false [⟨none,[ao 5 0 2,ai 6 5,ao 7 0 3,ai 8 7,aS 9 .eql 6 8,aa 10 9]⟩,⟨(some (10,true)),[ao 11 2 2,ai 12 11,ao 13 2 3,ai 14 13,aS 15 .eql 12 14]⟩,⟨none,[eF 16 10 15,aa 17 16]⟩,⟨(some (17,true)),[ao 18 1 2,ai 19 18,ao 20 1 3,ai 21 20,bh 22 198 [19,21]]⟩,⟨none,[eF 23 17 22,aa 4 23]⟩],.ret],
 [.tmp 4],24⟩
theorem Gb:aN Tryz.prog 165 [2,3]=some CT:=by kernel_rfl
def dL:SC :=
 ae [ab [aS 18 .lss 17 16],bT 18 (.exit 0),.block 1 (ae [ab [aa 19 17,aH 20 3 15 17,aT 21 3 20,((some 8),.op (.alloc [(.val (.int .i64 0)),(.emp 1),(.val (.int .i64 0))])),aa 7 19,bK 3 8 21],ab [aa 22 1,aa 23 7,aH 24 3 22 23,aT 25 3 24,((some 9),.op (.alloc [(.val (.int .i64 0)),(.emp 1),(.val (.int .i64 0))])),bK 3 9 25],ab [aa 26 2,aT 27 3 8,aT 28 3 9,((some 29),.call (.tmp 26) [(.tmp 27),(.tmp 28)]),c6 30 29],bc 30 (ae [ab [bz 6 false],.ret])]),ab [aG 31 .add 17 1,aa 17 31]]
def dO:SF:=⟨ae [ab [bz 6 false],ae [ab [aa 10 0,aP 11 10,aa 12 1,aP 13 12,aS 14 .neq 11 13],bc 14 (ae [ab [bz 6 false],.ret])],ae [ab [aa 15 0,aP 16 15,aQ 17 0],bU 0 dL],ab [bz 6 true],.ret],
 [.tmp 6],32⟩
theorem gu:aN Tryz.prog 164 []=some dO:=by kernel_rfl
def Fl:SF:=⟨ae [ab [cw 2 0,cw 3 1,bz 4 false],.region false [⟨none,[ao 5 0 2,ai 6 5,ao 7 0 3,ai 8 7,bh 9 162 [6,8],aa 10 9]⟩,⟨(some (10,true)),[ao 11 1 2,ai 12 11,ao 13 1 3,ai 14 13,bh 15 163 [12,14]]⟩,⟨none,[eF 16 10 15,aa 17 16]⟩,⟨(some (17,true)),[ao 18 2 2,ai 19 18,ao 20 2 3,ai 21 20,qb 22 164 [(.tmp 19),(.tmp 21),(.val (.fn 165 [] []))]]⟩,⟨none,[eF 23 17 22,aa 24 23]⟩,⟨(some (24,true)),[ao 25 3 2,ai 26 25,ao 27 3 3,ai 28 27,aS 29 .eql 26 28]⟩,⟨none,[eF 30 24 29,aa 4 30]⟩],.ret],
 [.tmp 4],31⟩
theorem ID:aN Tryz.prog 110 [2,3]=some Fl:=by kernel_rfl
theorem P8 {α:Type} {f g:α->List V} {a b:List α} (d:∀ x,∀ v∈f x,Tree v) (e:∀ x,∀ v∈g x,Tree v):∀ v∈[V.aD (a.map f),V.aD (b.map g)],Tree v:=by
 intro v c;simp at c
 rcases c with rfl | rfl
 .exact dZ _ _ λx _=>d x
 .exact dZ _ _ λx _=>e x
theorem QU (a b:List Term) (l:aJ a) (H:View):au Tryz.prog 162 [.aD (a.map bS),.aD (b.map bS)] H λr _=>r=gb (decide (a=b)):=by
 refine au.of mixed ln ?_
 unfold aJ at l
 simp(disch:=omega)only[↓wr,seval,wq,iH]
 apply ah.ne<;>intro h
 .simp(disch:=omega)only[↓wr,seval,wq]
  rw[decide_eq_false (uF (by omega))]
 .simp(disch:=omega)only[↓wr,seval,wq]
  refine aR.up a.length (λi T _=>a.take i=b.take i/\T 0=.aD (a.map bS)/\T 1=.aD (b.map bS)/\T 12=gi a.length/\T 13=gi i) ⟨by simp,rfl,rfl,rfl,rfl⟩ ?_
  rintro i k T H hk ⟨hi,c,h1,d,f⟩
  simp(disch:=omega)only[↓wr,seval,wq,ic,c,h1,d,f]
  apply ah.dec<;>intro m
  .have g:a[i]?=some (a[i]'(by omega)):=Zj (by omega)
   have j:b[i]?=some (b[i]'(by omega)):=Zj (by omega)
   generalize a[i]'(by omega)=x at g
   generalize b[i]'(by omega)=y at j
   simp(disch:=omega)only[↓wr,seval,wq,c,h1,d,f,Zm,g,j,bS]
   refine fQ (xs:=#[.string x.name,.int .i64 x.level,.int .i64 x.assoc]) (ys:=#[.string y.name,.int .i64 y.level,.int .i64 y.assoc]) Tryz.underlying129 (by kernel_rfl) (by kernel_rfl) ?_ ?_ (CF x y) (.inr ⟨rfl,rfl⟩) ?_
   .rfl
   .rfl
   rw[Nn]
   simp(disch:=omega)only[↓wr,seval,wq,c,h1,d,f]
   apply ah.split<;>intro e
   .simp(disch:=omega)only[↓wr,seval,wq,c,h1,d,f]
    exact aE hk (by omega) ⟨rG g j hi (by simpa using e),c,h1,d,rfl⟩
   .simp(disch:=omega)only[↓wr,seval,wq,c,h1,d,f]
    rw[decide_eq_false (zB g j (by simpa using e))]
  .simp(disch:=omega)only[↓wr,seval,wq,c,h1,d,f]
   rw[abn (vo (by omega) (by omega) hi)]
theorem Rf (a b:List ByteArray) (l:aJ a) (H:View):au Tryz.prog 163 [encS a,encS b] H λr _=>r=gb (decide (a=b)):=by
 refine au.of mixed nq ?_
 unfold aJ at l
 simp(disch:=omega)only[↓wr,seval,wq,jz,encS]
 apply ah.ne<;>intro h
 .simp(disch:=omega)only[↓wr,seval,wq]
  rw[decide_eq_false (uF (by omega))]
 .simp(disch:=omega)only[↓wr,seval,wq]
  refine aR.up a.length (λi T _=>a.take i=b.take i/\T 0=encS a/\T 1=encS b/\T 12=gi a.length/\T 13=gi i) ⟨by simp,rfl,rfl,rfl,rfl⟩ ?_
  rintro i k T H hk ⟨hi,c,h1,d,f⟩
  simp(disch:=omega)only[↓wr,seval,wq,je,c,h1,d,f,encS]
  apply ah.dec<;>intro m
  .have g:a[i]?=some (a[i]'(by omega)):=Zj (by omega)
   have j:b[i]?=some (b[i]'(by omega)):=Zj (by omega)
   generalize a[i]'(by omega)=x at g
   generalize b[i]'(by omega)=y at j
   simp(disch:=omega)only[↓wr,seval,wq,c,h1,d,f,encS,Zm,g,j,It]
   apply ah.split<;>intro e
   .simp(disch:=omega)only[↓wr,seval,wq,c,h1,d,f]
    exact aE hk (by omega) ⟨rG g j hi (by simpa using e),c,h1,d,rfl⟩
   .simp(disch:=omega)only[↓wr,seval,wq,c,h1,d,f]
    rw[decide_eq_false (zB g j (by simpa using e))]
  .simp(disch:=omega)only[↓wr,seval,wq,c,h1,d,f]
   rw[abn (vo (by omega) (by omega) hi)]
theorem PR (a b:List Int) (l:aJ a) (H:View):au Tryz.prog 198 [encI a,encI b] H λr _=>r=gb (decide (a=b)):=by
 refine au.of mixed rm ?_
 unfold aJ at l
 simp(disch:=omega)only[↓wr,seval,wq,lH,encI]
 apply ah.ne<;>intro h
 .simp(disch:=omega)only[↓wr,seval,wq]
  rw[decide_eq_false (uF (by omega))]
 .simp(disch:=omega)only[↓wr,seval,wq]
  refine aR.up a.length (λi T _=>a.take i=b.take i/\T 0=encI a/\T 1=encI b/\T 12=gi a.length/\T 13=gi i) ⟨by simp,rfl,rfl,rfl,rfl⟩ ?_
  rintro i k T H hk ⟨hi,c,h1,d,f⟩
  simp(disch:=omega)only[↓wr,seval,wq,kq,c,h1,d,f,encI]
  apply ah.dec<;>intro m
  .have g:a[i]?=some (a[i]'(by omega)):=Zj (by omega)
   have j:b[i]?=some (b[i]'(by omega)):=Zj (by omega)
   generalize a[i]'(by omega)=x at g
   generalize b[i]'(by omega)=y at j
   simp(disch:=omega)only[↓wr,seval,wq,c,h1,d,f,encI,Zm,g,j]
   apply ah.ne<;>intro e
   .simp(disch:=omega)only[↓wr,seval,wq,c,h1,d,f]
    rw[decide_eq_false (zB g j e)]
   .simp(disch:=omega)only[↓wr,seval,wq,c,h1,d,f]
    exact aE hk (by omega) ⟨rG g j hi e,c,h1,d,rfl⟩
  .simp(disch:=omega)only[↓wr,seval,wq,c,h1,d,f]
   rw[abn (vo (by omega) (by omega) hi)]
theorem Q1 (a b:List Term) (c:aJ a):az Tryz.prog 162 [.aD (a.map bS),.aD (b.map bS)] (gb (decide (a=b))):=az.val (P8 vV vV) (QU a b c)
theorem SK (a b:List ByteArray) (d:aJ a):az Tryz.prog 163 [encS a,encS b] (gb (decide (a=b))):=az.val (by
 intro v c;simp at c
 rcases c with rfl | rfl <;> exact BT _) (Rf a b d)
theorem SN (a b:List Int) (d:aJ a):az Tryz.prog 198 [encI a,encI b] (gb (decide (a=b))):=az.val (by
 intro v c;simp at c
 rcases c with rfl | rfl <;> exact ew _) (PR a b d)
theorem TQ (x y:bu) (b:aJ x.right):az Tryz.prog 165 [.agg (aO x),.agg (aO y)] (gb (decide (x=y))):=by
 refine az.val (by
  intro v a;simp at a
  rcases a with rfl | rfl <;> exact cb _ (iz _)) λH=>?_
 rw[Va]
 refine au.of mixed Gb ?_
 simp(disch:=omega)only[↓wr,seval,wq,CT,aO,encI]
 repeat' (first | ((first|apply ah.dec|apply ah.eq|apply ah.ne|apply ah.split)<;>intro)|(refine ax.pure (SN x.right y.right b) ?_)|(simp(disch:=omega)only[↓wr,seval,wq,aO]))
 all_goals simp[*]
theorem Ld (a b:List bu) (s:aJ a) (hr:∀ r∈a,aJ r.right) (H:View):au Tryz.prog 164 [.aD (a.map aO),.aD (b.map aO),.fn 165 [] []] H λr _=>r=gb (decide (a=b)):=by
 refine au.of mixed gu ?_
 unfold aJ at s
 simp(disch:=omega)only[↓wr,seval,wq,dO]
 apply ah.ne<;>intro h
 .simp(disch:=omega)only[↓wr,seval,wq]
  rw[decide_eq_false (uF (by omega))]
 .simp(disch:=omega)only[↓wr,seval,wq]
  refine aR.up a.length (λi T _=>a.take i=b.take i/\T 15=.aD (a.map aO)/\T 1=.aD (b.map aO)/\T 2=.fn 165 [] []/\T 16=gi a.length/\T 17=gi i) ⟨by simp,rfl,rfl,rfl,rfl,rfl⟩ ?_
  rintro i k T H hk ⟨hi,c,h1,d,f,g⟩
  simp(disch:=omega)only[↓wr,seval,wq,dL,c,h1,d,f,g]
  apply ah.dec<;>intro t
  .have j:a[i]?=some (a[i]'(by omega)):=Zj (by omega)
   have l:b[i]?=some (b[i]'(by omega)):=Zj (by omega)
   have hm:a[i]'(by omega)∈a:=Zs _
   generalize a[i]'(by omega)=x at j hm
   generalize b[i]'(by omega)=y at l
   have p:=hr x hm
   simp(disch:=omega)only[↓wr,seval,wq,c,h1,d,f,g,Zm,j,l,aO,encI]
   intro n u
   try simp(disch:=omega)only[↓wr,seval,wq,c,h1,d,f,g,Zm,j,l,aO,encI]
   intro m q
   have o:=(cP q cI).1
   try simp(disch:=omega)only[↓wr,seval,wq,c,h1,d,f,g,Zm,j,l,aO,encI,o,o.symm]
   refine ax.pure (TQ x y p) ?_
   simp(disch:=omega)only[↓wr,seval,wq,c,h1,d,f,g]
   apply ah.split<;>intro e
   .simp(disch:=omega)only[↓wr,seval,wq,c,h1,d,f,g]
    exact aE hk (by omega) ⟨rG j l hi (by simpa using e),c,h1,d,f,rfl⟩
   .simp(disch:=omega)only[↓wr,seval,wq,c,h1,d,f,g]
    rw[decide_eq_false (zB j l (by simpa using e))]
  .simp(disch:=omega)only[↓wr,seval,wq,c,h1,d,f,g]
   rw[abn (vo (by omega) (by omega) hi)]
theorem IZ (a b:List bu) (d:aJ a) (hr:∀ r∈a,aJ r.right):az Tryz.prog 164 [.aD (a.map aO),.aD (b.map aO),.fn 165 [] []] (gb (decide (a=b))):=az.val (by
 intro v c;simp at c
 rcases c with rfl | rfl | rfl
 .exact dZ _ _ λx _=>iz x
 .exact dZ _ _ λx _=>iz x
 .exact F2 (by simp) (by simp)) (Ld a b d hr)
theorem TK (g k:aj) (a:g.Ok):az Tryz.prog 110 [.agg (ag g),.agg (ag k)] (gb (decide (g=k))):=by
 refine az.val (Hi g k) λH=>?_
 rw[J1]
 refine au.of mixed ID ?_
 simp(disch:=omega)only[↓wr,seval,wq,Fl,ag,encS]
 repeat' (first | ((first|apply ah.dec|apply ah.eq|apply ah.ne|apply ah.split)<;>intro)|(refine ax.pure (Q1 g.af k.af a.af) ?_)|(refine ax.pure (SK g.ak k.ak a.ak) ?_)|(refine ax.pure (IZ g.rules k.rules a.rules (λr hr=>(a.aw r hr).2.2.1)) ?_)|(simp(disch:=omega)only[↓wr,seval,wq,ag,encS]))
 all_goals simp_all [VQ]
def GR:SF:=⟨ae [ab [cw 1 0,bz 2 false],ab [aT 7 4 1,bh 8 109 [7],aa 6 8,dW 9 0 6,dW 10 1 6,dW 11 2 6,((some 3),.op (.alloc [(.emp 1),(.emp 1),(.emp 1),(.val (.int .i64 0))])),bK 4 3 9,aa 4 10,aa 5 11],.region false [⟨none,[aa 12 5,aG 13 .eql 12 0,aa 14 13]⟩,⟨(some (14,true)),[aT 15 4 1,aT 16 4 3,bh 17 110 [15,16]]⟩,⟨none,[eF 18 14 17,aa 2 18]⟩],.ret],
 [.tmp 2],19⟩
theorem Lh:aN Tryz.prog 61 [1]=some GR:=by kernel_rfl
def vd:SF:=⟨ae [ab [cw 1 0,bz 2 false],ab [aT 7 4 1,bh 8 70 [7],aa 6 8,dW 9 0 6,dW 10 1 6,dW 11 2 6,((some 3),.op (.alloc [(.emp 1),(.emp 1),(.emp 1),(.val (.int .i64 0))])),bK 4 3 9,aa 4 10,aa 5 11],.region false [⟨none,[aa 12 5,aG 13 .eql 12 0,aa 14 13]⟩,⟨(some (14,true)),[aT 15 4 1,aT 16 4 3,bh 17 36 [15,16]]⟩,⟨none,[eF 18 14 17,aa 2 18]⟩],.ret],
 [.tmp 2],19⟩
theorem Aw:aN Tryz.prog 30 [1]=some vd:=by kernel_rfl
theorem Sv (g:aj) (a:g.Ok) (hs:g.Small):az Tryz.prog 61 [.agg (ag g)] (gb (isRed g)):=by
 refine az.val (dT g) λH=>?_
 refine au.of mixed Lh ?_
 simp(disch:=omega)only[↓wr,seval,wq,GR,ag,encS]
 refine ax.pure (N8 g a hs).pure ?_
 unfold isRed
 generalize gZ g=x
 obtain⟨k,il,e⟩:=x
 simp(disch:=omega)only[↓wr,seval,wq,yV,ag,encS]
 intro n b
 apply ah.eq<;>intro h
 .simp(disch:=omega)only[↓wr,seval,wq,yV,ag,encS]
  refine ax.pure (TK g k a) ?_
  simp(disch:=omega)only[↓wr,seval,wq]
  simp[h]
 .simp(disch:=omega)only[↓wr,seval,wq]
  simp[h]
theorem XA (g:aj) (a:g.Ok):az Tryz.prog 30 [.agg (ag g)] (gb (isRed g)):=by
 refine az.val (dT g) λH=>?_
 refine au.of mixed Aw ?_
 simp(disch:=omega)only[↓wr,seval,wq,vd,ag,encS]
 refine ax.pure (Lp g a).pure ?_
 unfold isRed
 generalize gZ g=x
 obtain⟨k,il,e⟩:=x
 simp(disch:=omega)only[↓wr,seval,wq,yV,ag,encS]
 intro n b
 apply ah.eq<;>intro h
 .simp(disch:=omega)only[↓wr,seval,wq,yV,ag,encS]
  refine ax.pure (Hh g k a) ?_
  simp(disch:=omega)only[↓wr,seval,wq]
  simp[h]
 .simp(disch:=omega)only[↓wr,seval,wq]
  simp[h]
def XH:aj:=⟨[⟨⟨#[39,97,39]⟩,0,0⟩,⟨⟨#[39,98,39]⟩,0,0⟩,⟨⟨#[39,99,39]⟩,0,0⟩,⟨⟨#[39,100,39]⟩,0,0⟩],[⟨#[115]⟩,⟨#[117]⟩,⟨#[118]⟩],[⟨0,[0,(-2)],0⟩,⟨0,[1],1⟩,⟨0,[],(-1)⟩,⟨1,[(-2),2],2⟩,⟨2,[3,(-1)],3⟩],0⟩
def XF:aj:=⟨XH.af,[⟨#[115]⟩],[⟨0,[1],1⟩,⟨0,[],(-1)⟩],0⟩
theorem qP:isRed XF=true:=by kernel_rfl
def sd:SF:=⟨ae [ab [cq 2 1],ab [cq 3 2,aa 4 0,eE 5 1 8 3 4,aa 2 5],.ret],
 [.tmp 2],6⟩
theorem x4:aN Tryz.prog 71 []=some sd:=by kernel_rfl
def qy:SC :=
 ae [ae [ab [aa 16 4,ao 17 2 1,ai 18 17,aP 19 18,aS 20 .lss 16 19],bT 20 (.exit 0)],.block 1 (ae [ab [ao 23 2 1,ai 24 23,aa 25 4,aH 26 3 24 25,aT 27 3 26,((some 5),.op (.alloc [(.val (.int .i64 0)),(.emp 1),(.val (.int .i64 0))])),bK 3 5 27],ab [ao 28 1 5,ai 29 28,bh 30 71 [29],ao 31 1 5,bK 1 31 30],ab [aa 32 3,aT 33 3 5,((some 34),.op (.bO 1 3 [(.val (.int .i64 0)),(.emp 1),(.val (.int .i64 0))] [(0,(.tmp 33))])),eE 35 3 40 32 34,aa 3 35]]),ab [aa 21 4,aG 22 .add 21 1,aa 4 22]]
def sR:SF:=⟨ae [ab [((some 1),.op (.box (.tmp 0))),((some 2),.op (.alloc [(.emp 1),(.emp 1),(.emp 1),(.val (.int .i64 0))]))],ab [cq 6 2,ao 7 0 1,ai 8 7,eE 9 3 32 6 8,ao 10 0 1,bK 1 10 9],ab [cq 11 2,ao 12 1 1,ai 13 12,eE 14 1 16 11 13,ao 15 1 1,bK 1 15 14],ab [cq 3 1],ae [ab [aQ 4 0],bU 0 qy],ab [aa 36 3,ao 37 2 1,bK 1 37 36],ab [aT 38 4 1,bK 4 2 38],.ret],
 [.cell 2 (some 4)],39⟩
theorem xI:aN Tryz.prog 32 []=some sR:=by kernel_rfl
theorem Sh (l:List Int) (hl:l.length<=100000) (H:View):au Tryz.prog 71 [encI l] H λr H'=>aV H' r 1 (bF l)/\dt H H' r:=by
 refine au.of mixed x4 ?_
 simp(disch:=omega)only[↓wr,seval,wq,sd,encI]
 refine gh (H:=H) .nil (by simp[aL]) (by unfold aA;simp;omega) (by unfold aA;simp;omega) ?_
 intro d H' c a
 simp(disch:=omega)only[↓wr,seval,wq]
 exact⟨c,λid b=>a id b (by simp[owner])⟩
structure aj.Xt (g:aj):Prop where
 af:g.af.length<=40
 ak:g.ak.length<=40
 rules:g.rules.length<=60
 right:∀ r∈g.rules,r.right.length<=20
theorem OV {g:aj} (e:mq g=false):g.Xt:=by
 simp only[mq,Bool.or_eq_false_iff,aaI,List.any_eq_false,ZA] at e
 exact⟨by omega,by omega,by omega,λr hr=>by have:=e.2 r hr;omega⟩
def YF (g:aj) (b1 b2:Nat) (u0 u1:V) (i:Nat) (T:Env) (H:View):Prop :=
 (∃ (u2:V) (bs:wc),T 3=u2/\bs.map (·.2)=g.rules.take i /\
  aX H ((u2,3,fG bs) :: (.sl b1 0 1 4,4,[[u0,u1,.aD (g.rules.map aO),gi g.start]]) :: (u0,3,g.af.map bS) :: (u1,1,jw g.ak) :: (.sl b2 0 1 4,4,[[.emp 1,.emp 1,.emp 1,gi 0]]) :: jn bs)) /\
 T 1=.ptr b1 0 0/\T 2=.ptr b2 0 0/\T 4=gi i
theorem Tq {h:aF} {c d e:V} {g:aj} {b:wc} (f:aV h.view c 3 (g.af.map bS)) (h1:aV h.view d 1 (jw g.ak)) (i:aV h.view e 3 (fG b)) (k:∀ y∈jn b,aV h.view y.1 y.2.1 y.2.2)
  (hr:b.map (·.2)=g.rules):dg h (.agg [c,d,e,gi g.start]) (.agg (ag g)):=by
 refine .agg _ _ rfl λj a=>?_
 match j,a with
 | 0,_=>exact GY f
 | 1,_=>exact Ke h1
 | 2,_=>have:=HU i k;rw[hr] at this;exact this
 | 3,_=>exact .val _
 | n+4,a=>exact absurd a (by simp only[ZB,ZW];omega)
theorem Rg (g:aj) (hs:g.Xt):cE Tryz.prog 32 [.agg (ag g)] (.agg (ag g)):=by
 refine cE.of (dT g) ?_
 refine au.of mixed xI ?_
 have Q:=hs.af
 have z2:=hs.ak
 have z3:=hs.rules
 simp(disch:=omega)only[↓wr,seval,wq,sR,ag,encS]
 intro u
 have j:=(aX.nil.new (H:=λ_=>cU.dead) (n:=u) rfl 4 [[.aD (g.af.map bS),.aD (g.ak.map λs=>[gs s]),.aD (g.rules.map aO),gi g.start]])
 try simp(disch:=omega)only[↓wr,seval,wq,ag,encS]
 intro C l
 have a:=(j.new l 4 [[.emp 1,.emp 1,.emp 1,gi 0]]).perm (.swap _ _ _)
 have d21:=(cP l cI).1
 try simp(disch:=omega)only[↓wr,seval,wq,ag,encS,d21,d21.symm]
 refine bL (a.emp (k:=2) (sz:=3)) (by simp[aL,bS]) (by unfold aA;simp;omega) (by unfold aA;simp;omega) ?_
 intro b H1 f _
 have c0:=f.head.cells
 have E:=f.head.fj
 have f1:=f.is 1 rfl (by simp)
 simp(disch:=omega)only[↓wr,seval,wq,ag,encS,c0,E,f1]
 have w:=(f.at 1 (by simp)).put (es':=[[b,.aD (g.ak.map λs=>[gs s]),.aD (g.rules.map aO),gi g.start]]) rfl rfl
 simp only[aar,ZU,ZV] at w
 refine bL (w.emp (k:=2) (sz:=1)) (by simp[aL]) (by unfold aA;simp;omega) (by unfold aA;simp;omega) ?_
 intro c R p _
 have c1:=p.head.cells
 have F:=p.head.fj
 have f2:=p.is 1 rfl (by simp)
 simp(disch:=omega)only[↓wr,seval,wq,ag,encS,c1,F,f2]
 have t:=(p.at 1 (by simp)).put (es':=[[b,c,.aD (g.rules.map aO),gi g.start]]) rfl rfl
 simp only[aar,ZU,ZV] at t
 have J:aX _ ((.emp 1,3,fG []) :: (.sl u 0 1 4,4,[[b,c,.aD (g.rules.map aO),gi g.start]]) :: (b,3,g.af.map bS) :: (c,1,jw g.ak) :: (.sl C 0 1 4,4,[[.emp 1,.emp 1,.emp 1,gi 0]]) :: jn []) :=
  (t.perm (.cons _ (.swap _ _ _))).emp (k:=1) (sz:=3)
 clear j a f w p t l f1 f2
 refine aR.up g.rules.length (YF g u C b c) ⟨⟨.emp 1,[],rfl,by simp,J⟩,rfl,rfl,rfl⟩ ?_
 clear J
 rintro i k T H hk ⟨⟨D,G,t3,e,d⟩,t1,t2,t4⟩
 have f1:=d.is 1 rfl (by simp)
 simp(disch:=omega)only[↓wr,seval,wq,qy,t1,t2,t3,t4,f1]
 apply ah.dec<;>intro L
 .have q:g.rules[i]?=some (g.rules[i]'(by omega)):=Zj (by omega)
  have h:g.rules[i]'(by omega)∈g.rules:=Zs _
  have x:g.rules.take (i+1)=g.rules.take i ++ [g.rules[i]'(by omega)]:=by rw[ZG,q];rfl
  generalize g.rules[i]'(by omega)=r at q h x
  have hr:=hs.right r h
  simp(disch:=omega)only[↓wr,seval,wq,t1,t2,t3,t4,f1,Zm,q,aO,encI]
  intro n M
  have j:=d.new M 3 [aO r]
  try simp(disch:=omega)only[↓wr,seval,wq,t1,t2,t3,t4,set_set]
  refine ax.dJ ((Sh r.right (by omega) _).mono ?_)
  rintro v H1 ⟨z,A⟩
  have a:=aX.Gg (H:=H.set n (.arr 3 [aO r])) j z (by rw[set_set] at A;exact A)
  have K:=z.cells
  have kv:=z.fj
  have f5:=a.is 1 rfl (by simp)
  simp only[aO,encI] at f5
  simp(disch:=omega)only[↓wr,seval,wq,t1,t2,t3,t4,f5,K,kv]
  have f:=(a.at 1 (by simp)).put (es':=[[gi r.left,v,gi r.prec]]) rfl rfl
  simp only[ZU,ZV] at f
  intro m hm
  try simp(disch:=omega)only[↓wr,seval,wq,t1,t2,t3,t4,K,kv,bm]
  have B:(fG G).length<=60:=by
   have h1:=aau List.length e
   simp only[Zr,Z6] at h1
   simp only[fG,Zr]
   omega
  have w:=(f.fresh (o:=.arr 3 [[gi r.left,v,gi r.prec]]) hm).at 2 (by simp)
  refine bL w (by simp[xQ,kv]) (by unfold aA;simp at B ⊢;omega) (by unfold aA;simp at B ⊢;omega) ?_
  intro I S p _
  simp(disch:=omega)only[↓wr,seval,wq,t1,t2,t3,t4]
  refine aE hk (by omega) ⟨⟨I,G ++ [(v,r)],rfl,?_,?_⟩,t1,t2,rfl⟩
  .rw[ZD,e,x];rfl
  .have t:=((p.at 1 (by simp)).tail).perm (.refl _)
   simp only[ZU,ZV] at t
   refine t.perm ?_
   simp only[fG,jn,ZD,ZJ,aaK]
   exact .cons _ (aaQ (v,1,bF r.right) ((.sl u 0 1 4,4,[[b,c,.aD (g.rules.map aO),gi g.start]]) :: (b,3,g.af.map bS) :: (c,1,jw g.ak) :: (.sl C 0 1 4,4,[[.emp 1,.emp 1,.emp 1,gi 0]]) :: jn G)).symm
 .rw[Zx (by omega)] at e
  have f2:=d.is 4 rfl (by simp)
  have c0:=(d.own 2 rfl).cells
  have E:=(d.own 2 rfl).fj
  have c1:=(d.own 3 rfl).cells
  have F:=(d.own 3 rfl).fj
  have c2:=(d.own 0 rfl).cells
  have k2:=(d.own 0 rfl).fj
  simp(disch:=omega)only[↓wr,seval,wq,t1,t2,t3,t4,f1,f2,c0,E,c1,F,c2,k2,d21,d21.symm]
  intro N O
  have j:=(d.at 1 (by simp)).put (es':=[[b,c,D,gi g.start]]) rfl rfl
  simp only[ZU,ZV] at j
  have a:=(j.at 4 (by simp)).put (es':=[[b,c,D,gi g.start]]) rfl rfl
  simp only[ZU,ZV] at a
  have z:N.view=(H.set u (.arr 4 [[b,c,D,gi g.start]])).set C (.arr 4 [[b,c,D,gi g.start]]):=O
  rw[<-z] at a
  exact Tq (a.own 3 rfl) (a.own 4 rfl) (a.own 2 rfl) (λy P=>a.1 y (by
   refine ZE _ (ZE _ (ZE _ (ZE _ (ZE _ ?_))))
   exact P)) e
theorem dg.fr {h:aF} {v t:V} (f:dg h v t):Fr h v t:=by
 induction f with
 | val v=>exact .tree _ (.val _)
 | emp k=>exact .emp k
 | sl id off len esz z es es' h1 c d e _ b=>exact .sl id off len esz z es es' h1 c d e b
 | agg cs a h1 _ b=>exact .agg cs a h1 b
 | bt cs a h1 _ b=>exact .bt cs a h1 b
end Gv
