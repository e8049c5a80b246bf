/-
  Part 18 of the proof: what the machine does and what the functions answer.
  Conditions: those that each lemma names.
-/
import Derived.Shelf.Spec.SlicesInsertGrow
import Derived.Test.YtiophifnkakjgaaGreatSGzC5Q
set_option linter.unusedSimpArgs false
set_option linter.unusedVariables false
set_option maxRecDepth 100000
set_option maxHeartbeats 20000000
namespace Gv
noncomputable section
open Go Go.Proofs
def pL:SC:=
 ai [ai [.region false [⟨none,[af 63 12,aw 64 2 2,au 65 64,aM 66 65,aS 67 .lss 63 66,af 68 67]⟩,⟨(some (68,true)),[af 69 8,aH 70 .lss 69 0]⟩,⟨none,[dQ 71 68 70]⟩],bQ 71 (.exit 2)],.block 3 (ai [ag [aw 74 2 2,au 75 74,af 76 12,aK 77 3 75 76,aw 78 0 77,au 79 78,af 80 8,((some 81),.op (.arith .sub (.val (.val (.int .i64 (-1)))) (.tmp 80))),aS 82 .eql 79 81],aX 82 (ag [af 83 5,aw 84 0 7,au 85 84,af 86 12,((some 87),.op (.build [(.val (.int .i64 0)),(.val (.int .i64 0))] [(0,1,(.tmp 86))])),aw 88 3 7,au 89 88,aU 90 4 2,aw 91 1 7,aw 92 0 91,au 93 92,((some 94),.qj (.val (.fn 66 [] [])) [(.tmp 90),(.tmp 93)]),aw 95 1 7,aw 96 1 95,au 97 96,aH 98 .add 97 1,((some 99),.op (.slice 1 (.tmp 94) (some (.tmp 98)) none)),aw 100 4 7,au 101 100,((some 102),.qj (.val (.fn 65 [] [])) [(.tmp 99),(.tmp 101)]),((some 103),.op (.build [(.val (.int .i64 0)),(.val (.int .i64 0)),(.val (.int .i64 0)),(.emp 1),(.emp 1)] [(0,1,(.tmp 85)),(1,2,(.tmp 87)),(3,1,(.tmp 89)),(4,1,(.tmp 102))])),aV 104 128 [83,103],af 5 104])]),ag [af 72 12,aH 73 .add 72 1,af 12 73]]
def px:SC:=
 ai [ai [ag [af 16 6,af 17 5,aM 18 17,aS 19 .lss 16 18],bQ 19 (.exit 0)],.block 1 (ai [ag [af 22 5,af 23 6,aK 24 5 22 23,aU 25 5 24,((some 7),.op (.alloc [(.val (.int .i64 0)),(.val (.int .i64 0)),(.val (.int .i64 0)),(.emp 1),(.emp 1)])),cz 5 7 25],ag [aU 27 4 2,aw 28 1 7,aU 29 2 28,aV 30 100 [27,29],af 26 30,du 31 0 26,du 32 1 26,af 8 31,af 9 32],ai [ag [af 33 9,cX 34 33],aX 34 (.exit 1)],ag [af 36 1,aw 37 0 7,au 38 37,af 39 8,((some 40),.op (.bO 1 1 [(.val (.int .i64 0))] [(0,(.tmp 39))])),aV 41 33 [36,38,40],af 35 41,du 42 0 35,du 43 1 35,af 10 42,af 11 43],ag [af 44 5,af 45 10,aw 46 1 7,aw 47 0 46,au 48 47,aw 49 1 7,aw 50 1 49,au 51 50,aH 52 .add 51 1,((some 53),.op (.build [(.val (.int .i64 0)),(.val (.int .i64 0))] [(0,1,(.tmp 48)),(1,1,(.tmp 52))])),aw 54 3 7,au 55 54,af 56 8,((some 57),.op (.bO 1 1 [(.val (.int .i64 0))] [(0,(.tmp 56))])),((some 58),.qj (.val (.fn 65 [] [])) [(.tmp 55),(.tmp 57)]),aw 59 4 7,au 60 59,((some 61),.op (.build [(.val (.int .i64 0)),(.val (.int .i64 0)),(.val (.int .i64 0)),(.emp 1),(.emp 1)] [(0,1,(.tmp 45)),(1,2,(.tmp 53)),(3,1,(.tmp 58)),(4,1,(.tmp 60))])),aV 62 128 [44,61],af 5 62],ag [aT 12 0],bS 2 pL]),ag [af 20 6,aH 21 .add 20 1,af 6 21]]
def rF:SF:=⟨ai [ag [cg 2 0,bU 4 1],ag [((some 13),.op (.build [(.val (.int .i64 0)),(.val (.int .i64 0))] [(0,1,(.val (.val (.int .i64 (-1)))))])),((some 14),.op (.build [(.val (.int .i64 0)),(.val (.int .i64 0)),(.val (.int .i64 0)),(.emp 1),(.emp 1)] [(1,2,(.tmp 13))])),((some 15),.op (.bO 1 5 [(.val (.int .i64 0)),(.val (.int .i64 0)),(.val (.int .i64 0)),(.emp 1),(.emp 1)] [(0,(.tmp 14))])),af 5 15],ai [ag [aT 6 0],bS 0 px],ag [af 105 5,af 4 105],.ret],
 [.tmp 4],106⟩
theorem xF:aJ aa 64 [2,200058,200094,200102]=some rF:=by kernel_rfl
theorem bw.one {H:View} {u:V} {sz:Nat} {es:List (List V)} (h:aQ H u sz es):bw H [(u,sz,es)]:=by
 refine⟨λx a=>by simp at a;subst a;exact h,?_⟩
 cases hu:owner u<;>simp[hu]
theorem LU {H:View} {n:Nat} {y:Int} (h:H n=.arr 1 [[gi y]]):cq H (.sl n 0 1 1) (encI [y]):=
 cq.own (sz:=1) (es:=aR [y]) (.inr ⟨n,rfl,h⟩) (by intro e he v a;simp at he;subst he;simp at a;subst a;exact .val _)
theorem P4 (g:aj) (hg:g.Ok) (hr:bt g=true) (a:List ba) (p:eD g a) (h3:a.length<=300) (H:View):
  az aa 64 [.agg (ak g),cm a] H λr H'=>∃S:List eE,aQ H' r 5 (S.map dI)/\S.map eE.n=cU g a/\∀y∈S,y.Ok:=by
 have K:=p.iX
 have hT:=K.ax;have hN:=K.av;have cC:=K.rules
 have cI:=j9 K
 have B:aI a:=by unfold aI;omega
 have cV:aL (cm a)=true/\V.cells (cm a)=[cm a]:=⟨rfl,rfl⟩
 have M:∀(x:Int) (t:Bool),zK (.bb [gi x,gb t]):=λx t=>.bb _ λi hi=>by
  match i,hi with
  | 0,_=>exact⟨_,rfl⟩
  | 1,_=>exact⟨_,rfl⟩
 refine az.of mixed xF ?_
 simp(disch:=omega)only[↓wr,seval,wq,rF,ak,encS]
 intro n0 b0
 refine aW.up 86101 (λi T H'=>∃(l:List bL) (S:List eE) (u:V),i<=l.length/\jZ g a l/\iT g a (90000-i) i l=cU g a/\S.map eE.n=l/\(∀y∈S,y.Ok)/\aQ H' u 5 (S.map dI)/\T 1=cm a/\T 2=.aP (ak g) 0/\T 5=u/\T 6=gi i)
  ⟨my,[⟨⟨0,⟨-1,0⟩,[],[]⟩,.emp 1,.emp 1⟩],.sl n0 0 1 5,by simp,za p,rfl,rfl,?_,.inr ⟨n0,rfl,by simp[View.set];rfl⟩,rfl,rfl,rfl,rfl⟩ ?_
 .intro y U
  simp at U
  subst U
  exact⟨.inr ⟨rfl,rfl⟩,.inr ⟨rfl,rfl⟩⟩
 clear b0
 rintro i kk T H1 N ⟨l,S,u,c3,v,O,Y,C,ho,t1,t2,t5,t6⟩
 have b1:S.length=l.length:=by rw[<-Y,aaM]
 have b2:cE u=some l.length:=by rw[ho.len,aaM,b1]
 have c4:=v.short p h3
 simp(disch:=omega)only[↓wr,seval,wq,px,t5,t6,b2]
 apply ao.dec<;>intro hc
 rotate_left
 .simp(disch:=omega)only[↓wr,seval,wq,t5]
  rw[C3 (by omega)] at O
  exact⟨S,ho,by rw[Y,O],C⟩
 have U:S[i]?=some (S[i]'(by omega)):=aaH (by omega)
 have Z:=aaP (show i<S.length by omega)
 generalize S[i]'(by omega)=s at U Z
 have W:=C s Z
 have hi:l[i]?=some s.n:=by rw[<-Y,aaJ,U];rfl
 obtain⟨l1,⟨tl,b3⟩,_⟩:=zH p v hi
 have w:iT g a (90000-(i+1)) (i+1) (gf g a l s.n)=cU g a:=by
  rw[<-O,show 90000-i=90000-(i+1)+1 by omega,iT,hi]
 have A:i+1<=(gf g a l s.n).length:=by rw[b3,aa5];omega
 obtain⟨n,ab,hH⟩:=ho.sl (by simp;omega)
 rw[aaM] at ab
 have ae:(S.map dI).getD i []=dI s:=by simp[U]
 have j:=v.nd s.n (aaV hi)
 have f:=p.has j.lt j.it
 obtain⟨⟨da,cN⟩,db,dc⟩:=And.intro f.1 f.2
 have dj:=v.len i s.n hi
 have dm:=j.small p
 obtain⟨⟨al,an,ds⟩,⟨aq,ar,dv⟩⟩:=And.intro W.a.dU W.b.dU
 have b4:Jz g s.n.it=bI g s.n.it:=aaL (Fv.2 ⟨hr,f⟩)
 have D:=Ty g hg s.n.it ⟨by unfold bp;omega,by unfold bp;omega⟩
 rw[b4] at D
 simp only[ak,encS,bK] at D
 simp only[dI] at ae
 simp(disch:=omega)only[↓wr,seval,wq,t2,t5,t6,ab,hH,ae,al,aq,ak,encS]
 refine⟨by omega,by first | omega | (simp;omega),λn7 b5=>?_⟩
 rw[set_set]
 have X:=(bw.one ho).new b5 5 [dI s]
 have c:=X.is 0 rfl (by simp)
 simp only[dI] at c X
 generalize View.set H1 n7 (.arr 5 [[gi s.n.st,gi s.n.it.aB,gi s.n.it.dot,s.a,s.b]])=H2 at X c ⊢
 refine ay.pure D ?_
 cases E:bI g s.n.it with
 | mk y t =>
 rw[E] at D
 cases t with
 | false =>
  have P:gf g a l s.n=l:=by unfold gf;rw[E];rfl
  simp(disch:=omega)only[↓wr,seval,wq,t5,t6]
  rw[P] at l1 w A
  exact aE N (by omega) ⟨l,S,u,A,l1,w,Y,C,X.own 1 rfl,t1,t2,t5,rfl⟩
 | true =>
  obtain⟨f1,f2⟩:=pa f E
  have P:gf g a l s.n=kg g s.n y g.rules.length (iW l ⟨ji a s.n.st y,⟨s.n.it.aB,s.n.it.dot+1⟩,s.n.ah++[y],s.n.be⟩):=by
   unfold gf
   rw[E,aaL rfl]
  rw[P] at l1 w A
  obtain⟨s1,s2,s3,s4⟩:=p.step j.lt j.it E
  obtain⟨_,_,_,_,_,b7⟩:=p.ji s1
  have Q:dN g y=true:=vl K f E
  have b8 : -100<=y/\y<=100:=by
   unfold dN at Q
   split at Q<;>simp at Q<;>omega
  have a1:(dH g s.n.it).length<=6:=by
   have:=dY K (r:=s.n.it.aB) ⟨by omega,by omega⟩
   unfold dH
   simp;omega
  have cS:(gY g s.n.it).length<=6:=by
   rw[f1] at a1
   simp only[aaS] at a1
   omega
  obtain⟨m1,m2,m3⟩:=EX p v (j.move p E) (by simp only[aa5,aaS,abe];omega) (by simp only;omega)
  have hle:l.length<=(iW l ⟨ji a s.n.st y,⟨s.n.it.aB,s.n.it.dot+1⟩,s.n.ah++[y],s.n.be⟩).length:=by obtain⟨t,ht⟩:=m2;rw[ht];simp
  have b9:=λk hk=>Gn p j E k _ hk m1 (by omega) (by omega)
  have a6:=S8 a B (p.Wy h3) s.n.st [y] (by unfold aI;simp)
  rw[b7] at a6
  have ca:=wX s.n.ah [y] (by simp;omega)
  have cb:=wX (gY g s.n.it) s.n.be (by omega)
  have a7:=FV g (by unfold bp;omega) s.n.it.aB ⟨by omega,by omega⟩
  have cc:c8 1 (encI (bV g s.n.it.aB)) (some (gi (s.n.it.dot+1))) none=some (encI (gY g s.n.it),.none,[]):=by
   obtain⟨d,hd,cf,ch⟩:=N7 f E
   rw[hd]
   have hlen:d+1<=(bV g s.n.it.aB).length:=by
    have:=abQ List.length cf
    simp at this;omega
   have:=uI (l:=bV g s.n.it.aB) (k:=d+1) hlen
   rw[ch] at this
   push_cast at this
   exact this
  have a8:∀k:Nat,k<g.rules.length->g.rules[k]?=some (b6 g k):=λk hk=>by unfold b6;exact getD_some (by simpa using hk)
  have bd:eE.Ok ⟨⟨ji a s.n.st y,⟨s.n.it.aB,s.n.it.dot+1⟩,s.n.ah++[y],s.n.be⟩,encI (s.n.ah++[y]),s.b⟩:=⟨.inl rfl,W.b⟩
  have bl:∀k:Nat,eE.Ok ⟨⟨s.n.st,⟨k,0⟩,s.n.ah,gY g s.n.it++s.n.be⟩,s.a,encI (gY g s.n.it++s.n.be)⟩:=λk=>⟨W.a,.inl rfl⟩
  simp only[ak,encS] at a7
  simp(disch:=omega)only[↓wr,seval,wq,t1,c]
  intro n8 F
  have bn:¬ n7=n8:=by rintro rfl;rw[c] at F;simp at F
  have o3:=X.fresh (o:=.arr 1 [[gi y]]) F
  refine ay.rY a6 (by kernel_rfl) (M _ _) ⟨.tree (ot a),.tree (.val _),LU (by simp only[View.set,if_true]),trivial⟩ ?_
  simp(disch:=omega)only[↓wr,seval,wq,t5,c,bn]
  intro n9 q
  obtain⟨cj,q⟩:=cn q cx
  have o4:=o3.fresh (n:=n9) (o:=.arr 1 [[gi y]]) (by simp only[View.set,aaI cj];exact q)
  try simp(disch:=omega)only[↓wr,seval,wq,t1,t2,t5,t6]
  refine ay.kq ca (by kernel_rfl) ⟨W.a.kH,LU (by simp only[View.set,if_true]),trivial⟩ ?_
  have ck:¬ n7=n9:=by rintro rfl;rw[c] at q;simp at q
  simp(disch:=omega)only[↓wr,seval,wq,c,bn,ck,aq,ar,encI]
  have hm:=Mc S _ bd (by omega) u _ (o4.own 1 rfl)
  simp only[dI,encI] at hm
  refine ay.cw (hm.mono ?_)
  clear hm
  rintro r H5 ⟨o5,l5⟩
  have G:=(o4.perm (.swap _ _ _)).left o5 l5
  simp(disch:=omega)only[↓wr,seval,wq]
  refine aW.up g.rules.length (λk T H'=>∃(I:List eE) (u':V),I.map eE.n=kg g s.n y k (iW l ⟨ji a s.n.st y,⟨s.n.it.aB,s.n.it.dot+1⟩,s.n.ah++[y],s.n.be⟩)/\(∀z∈I,z.Ok)/\bw H' [(u',5,I.map dI),(.sl n7 0 1 5,5,[dI s])] /\
   T 1=cm a/\T 2=.aP (ak g) 0/\T 5=u'/\T 6=gi i/\T 7=.ptr n7 0 0/\T 8=gi y/\T 12=gi k) ⟨_,r,by rw[TF,Y];rfl,Nl C bd,G,t1,t2,rfl,t6,rfl,rfl,rfl⟩ ?_
  clear X o3 o4 o5 G F q c t1 t2 t5 t6
  rintro k k2 T H6 br ⟨I,u',J,m,G,t1,t2,t5,t6,t7,t8,t12⟩
  have c:=G.is 1 rfl (by simp)
  simp only[dI] at c
  have L:(¬ k<g.rules.length∨0<=y)->I.map eE.n=kg g s.n y g.rules.length (iW l ⟨ji a s.n.st y,⟨s.n.it.aB,s.n.it.dot+1⟩,s.n.ah++[y],s.n.be⟩):=λh=>by
   rw[J]
   rcases h with h | h
   .rw[show k=g.rules.length by omega]
   .have bs:∀k:Nat,k<g.rules.length->(b6 g k).left≠-1-y:=λk hk e=>by
     have:=K.left _ (aaV (a8 k hk))
     omega
    rw[A0 bs k _ (by omega),A0 bs _ _ (aaQ _)]
  simp(disch:=omega)only[↓wr,seval,wq,pL,t2,t12,ak]
  apply ao.dec<;>intro hc
  rotate_left
  .simp(disch:=omega)only[↓wr,seval,wq,t5,t6]
   exact aE N (by omega) ⟨_,I,u',A,l1,w,L (.inl (by omega)),m,G.own 0 rfl,t1,t2,t5,rfl⟩
  simp(disch:=omega)only[↓wr,seval,wq,t8]
  apply ao.dec<;>intro cu
  rotate_left
  .simp(disch:=omega)only[↓wr,seval,wq,t5,t6]
   exact aE N (by omega) ⟨_,I,u',A,l1,w,L (.inr (by omega)),m,G.own 0 rfl,t1,t2,t5,rfl⟩
  have hR:=a8 k (by omega)
  have cv:=K.left _ (aaV hR)
  generalize bx:b6 g k=R at hR cv
  simp(disch:=omega)only[↓wr,seval,wq,t2,t8,t12,ak,aaJ,hR,aO]
  apply ao.eq<;>intro e
  .simp(disch:=omega)only[↓wr,seval,wq,t2,t5,t7,t12,ak,encS,c]
   refine ay.pure a7 ?_
   simp(disch:=omega)only[↓wr,seval,wq,t7,c,cc]
   refine ay.kq cb (by kernel_rfl) ⟨.tree (bC _),W.b.kH,trivial⟩ ?_
   simp(disch:=omega)only[↓wr,seval,wq,al,an,encI]
   obtain⟨r1,_,_⟩:=b9 k (by omega)
   have cA:=r1.short p h3
   rw[<-J,aaM] at cA
   have hm:=Mc I _ (bl k) (by omega) u' _ (G.own 0 rfl)
   simp only[dI,encI] at hm
   refine ay.cw (hm.mono ?_)
   clear hm
   rintro r7 H7 ⟨o7,l7⟩
   simp(disch:=omega)only[↓wr,seval,wq,t6,t12]
   refine aE br (by omega) ⟨_,r7,?_,Nl m (bl k),G.left o7 l7,t1,t2,rfl,t6,t7,t8,rfl⟩
   rw[TF,J,kg,aaL (by rw[bx];exact e)]
  .simp(disch:=omega)only[↓wr,seval,wq,t5,t6,t12]
   refine aE br (by omega) ⟨I,u',?_,m,G,t1,t2,t5,t6,t7,t8,rfl⟩
   rw[J,kg,aaI (by rw[bx];exact e)]
def pe:SC:=
 ai [ai [ag [af 6 5,af 7 0,aM 8 7,aS 9 .lss 6 8],bQ 9 (.exit 0)],.block 1 (ai [ag [af 12 0,af 13 5,aK 14 5 12 13,aw 15 0 14,au 16 15,af 17 1,aS 18 .eql 16 17],aX 18 (ai [ag [af 19 0,af 20 5,aK 21 5 19 20,aU 22 5 21,cz 5 4 22],.ret])]),ag [af 10 5,aH 11 .add 10 1,af 5 11]]
def rA:SF:=⟨ai [ag [((some 4),.op (.alloc [(.val (.int .i64 0)),(.val (.int .i64 0)),(.val (.int .i64 0)),(.emp 1),(.emp 1)]))],ai [ag [aT 5 0],bS 0 pe],ag [((some 23),.op (.build [(.val (.int .i64 0)),(.val (.int .i64 0)),(.val (.int .i64 0)),(.emp 1),(.emp 1)] [])),cz 5 4 23],.ret],
 [.cell 4 (some 5)],24⟩
theorem xM:aJ aa 63 []=some rA:=by kernel_rfl
def pn:SC:=
 ai [ai [ag [af 25 8,af 26 4,aM 27 26,aS 28 .lss 25 27],bQ 28 (.exit 0)],.block 1 (ai [ag [af 31 6,af 32 8,aV 33 63 [31,32],((some 9),.op (.alloc [(.val (.int .i64 0)),(.val (.int .i64 0)),(.val (.int .i64 0)),(.emp 1),(.emp 1)])),cz 5 9 33],.region true [⟨none,[aU 35 4 1,aw 36 3 9,au 37 36,aU 38 4 1,aw 39 1 9,aw 40 0 39,au 41 40,aV 42 66 [38,41],aw 43 1 9,aw 44 1 43,au 45 44,((some 46),.op (.slice 1 (.tmp 42) (some (.tmp 45)) none)),aw 47 4 9,au 48 47,aV 49 65 [46,48],aV 50 65 [37,49],aV 51 34 [35,50],af 34 51,du 52 0 34,du 53 1 34,af 10 52,af 11 53]⟩],ai [ag [af 54 11,aH 55 .neq 54 0],aX 55 (ai [ag [af 56 11,bU 2 1,af 3 56],.ret])],ag [aU 58 4 1,aw 59 3 9,au 60 59,aV 61 34 [58,60],af 57 61,du 62 0 57,du 63 1 57,af 12 62,af 13 63],ag [af 64 7,af 65 8,af 66 12,aM 67 66,af 68 10,((some 69),.op (.build [(.val (.int .i64 0)),(.val (.int .i64 0)),(.emp 1)] [(0,1,(.tmp 65)),(1,1,(.tmp 67)),(2,1,(.tmp 68))])),((some 70),.op (.bO 1 3 [(.val (.int .i64 0)),(.val (.int .i64 0)),(.emp 1)] [(0,(.tmp 69))])),fP 71 3 40 64 70,af 7 71]]),ag [af 29 8,aH 30 .add 29 1,af 8 30]]
def q9:SF:=⟨ai [ag [cg 1 0,bU 2 1,aT 3 0],ag [aU 15 4 1,aV 16 32 [15],af 14 16,du 17 0 14,du 18 1 14,af 4 17,af 5 18],ai [ag [af 19 5,aH 20 .neq 19 0],aX 20 (ai [ag [af 21 5,bU 2 1,af 3 21],.ret])],ag [aU 22 4 1,af 23 4,aV 24 64 [22,23],af 6 24],ag [bU 7 1],ai [ag [aT 8 0],bS 0 pn],ag [af 72 7,af 2 72,aT 3 0],.ret],
 [.tmp 2,.tmp 3],73⟩
theorem xQ:aJ aa 29 [1]=some q9:=by kernel_rfl
theorem My {l:List bL} {i k:Nat} {x:bL} (h:l[k]?=some x):dG (l.drop k) i=if x.st=i then x else dG (l.drop (k+1)) i:=by
 obtain⟨hk,he⟩:=aaO.1 h
 unfold dG
 rw[abt hk,he,acV]
 by_cases e:x.st=i
 .simp[e]
 .simp[e]
theorem O3 (S:List eE) (v:∀y∈S,y.Ok) (O:S.length<=90000) (i:Nat) (hi:∃y∈S.map eE.n,y.st=i) (u:V) (H:View) (w:aQ H u 5 (S.map dI)):
  az aa 63 [u,gi i] H λr H'=>(∃y∈S,r=.agg (dI y)/\y.n=dG (S.map eE.n) i)/\∀id,H id≠.dead->H' id=H id:=by
 have x:cE u=some S.length:=by rw[w.len,aaM]
 refine az.of mixed xM ?_
 simp(disch:=omega)only[↓wr,seval,wq,rA]
 intro j l
 have A:∀ {o:cr} (id:Nat),H id≠.dead->(H.set j o) id=H id:=λ{o} id c=>by
  have:¬ id=j:=by rintro rfl;exact c l
  simp only[View.set,aaI this]
 refine aW.up S.length (λk T H'=>dG ((S.map eE.n).drop k) i=dG (S.map eE.n) i/\(∃y∈(S.map eE.n).drop k,y.st=i)/\H' j=.arr 5 [[gi 0,gi 0,gi 0,.emp 1,.emp 1]]/\(∀id,H id≠.dead->H' id=H id)/\T 0=u/\T 1=gi i/\T 4=.ptr j 0 0/\T 5=gi k)
  ⟨rfl,hi,by simp[View.set],λid c=>A id c,rfl,rfl,rfl,rfl⟩ ?_
 rintro k P T H1 hk ⟨J,hex,K,d,t0,t1,t4,t5⟩
 have B:aQ H1 u 5 (S.map dI):=w.keep λid c=>d id (by rw[(w.live c).1];simp)
 simp(disch:=omega)only[↓wr,seval,wq,pe,t0,t5,x]
 apply ao.dec<;>intro L
 rotate_left
 .exfalso
  rw[aa7 (by simp;omega)] at hex
  obtain⟨y,m,_⟩:=hex
  simp at m
 have m:S[k]?=some (S[k]'(by omega)):=aaH (by omega)
 have f:=aaP (show k<S.length by omega)
 generalize S[k]'(by omega)=y at m f
 have p:(S.map eE.n)[k]?=some y.n:=by rw[aaJ,m];rfl
 have q:=My (i:=i) p
 obtain⟨n,g,hH⟩:=B.sl (by simp;omega)
 rw[aaM] at g
 have h:(S.map dI).getD k []=dI y:=by simp[m]
 simp only[dI] at h
 have s:=v y f
 obtain⟨⟨C,D,M⟩,⟨E,F,N⟩⟩:=And.intro s.a.dU s.b.dU
 simp(disch:=omega)only[↓wr,seval,wq,t0,t1,t5,g,hH,h]
 refine⟨by omega,by first | omega | (simp;omega),?_⟩
 apply ao.eq<;>intro e
 .simp(disch:=omega)only[↓wr,seval,wq,t0,t4,t5,g,hH,h,K,C,E]
  refine⟨by omega,by first | omega | (simp;omega),?_⟩
  refine⟨⟨y,f,rfl,?_⟩,λid c=>?_⟩
  .rw[<-J,q,aaL (by omega)]
  .have:¬ id=j:=by rintro rfl;exact c l
   simp only[aaI this]
   exact d id c
 .simp(disch:=omega)only[↓wr,seval,wq,t4,t5]
  refine aE hk (by omega) ⟨?_,?_,K,d,t0,t1,t4,rfl⟩
  .rw[<-J,q,aaI (by omega)]
  .obtain⟨z,t,G⟩:=hex
   obtain⟨I,he⟩:=aaO.1 p
   rw[abt I,he] at t
   rcases aa1.1 t with rfl | t
   .omega
   .exact⟨z,t,G⟩
theorem Qv (g:aj) (C:g.Ok):aC aa 29 [.agg (ak g)] (CS (cZ g)):=by
 refine aC.of (dR g) ?_
 have hB:=(Qi g C).pure
 have E:cE (cm (cD g).1)=some (cD g).1.length:=by simp[cm,cE]
 refine az.of mixed xQ ?_
 simp only[ak,encS] at hB
 simp(disch:=omega)only[↓wr,seval,wq,q9,ak,encS]
 refine ay.pure hB ?_
 simp(disch:=omega)only[↓wr,seval,wq]
 unfold cZ
 apply ao.ne<;>intro h
 .rw[aaL h]
  simp(disch:=omega)only[↓wr,seval,wq]
  intro F _
  exact(lL (.emp 1)).L5
 rw[aaI (by omega)]
 obtain⟨hr,r,c⟩:=G9 h
 have G:=C1 hr
 generalize (cD g).1=a at *
 have ae:=j9 r.iX
 obtain⟨n1,_,_⟩:=zX r c
 have al:=n1.short r c
 have s:=P4 g C G a r c (λ_=>.dead)
 simp only[ak,encS] at s
 simp(disch:=omega)only[↓wr,seval,wq]
 refine ay.cw (s.mono ?_)
 rintro u H1 ⟨S,ho,I,t⟩
 have an:S.length=(cU g a).length:=by rw[<-I,aaM]
 simp(disch:=omega)only[↓wr,seval,wq]
 refine aW.up a.length (λi T H'=>∃(v:V),(cP g a i).2=0/\bw H' [(v,3,(cP g a i).1.map jA),(u,5,S.map dI)]/\T 1=.aP (ak g) 0/\T 4=cm a/\T 6=u/\T 7=v/\T 8=gi i) ⟨.emp 1,rfl,(bw.one ho).emp,rfl,rfl,rfl,rfl,rfl⟩ ?_
 clear ho
 rintro i k T H hk ⟨v,he,o,t1,t4,t6,t7,t8⟩
 simp(disch:=omega)only[↓wr,seval,wq,pn,t4,t8,E]
 apply ao.dec<;>intro hc
 .have hi:i<a.length:=by omega
  obtain⟨f1,f2,f3⟩:=DW r c hi
  obtain⟨D,p2,p3,p4,p5,p6⟩:=AY r c hi
  have f:cP g a (i+1)=if (di g ((fj g a i).1++(fj g a i).2)).2≠0 then ([],(di g ((fj g a i).1++(fj g a i).2)).2) else ((cP g a i).1++[wY g a i],0):=by
   rw[cP,aaI (by rw[he];simp)]
  have p:wY g a i=⟨i,((di g (fj g a i).1).1.length:Int),(di g ((fj g a i).1++(fj g a i).2)).1⟩:=rfl
  simp(disch:=omega)only[↓wr,seval,wq,t6,t8]
  refine ay.cw ((O3 S t (by omega) i ⟨_,by rw[I];exact f1,f2⟩ u H (o.own 1 rfl)).mono ?_)
  rintro _ H2 ⟨⟨y,J,rfl,q⟩,K⟩
  rw[I] at q
  have o2:=o.stay K
  have m:=t y J
  obtain⟨⟨L,M,aq⟩,⟨N,O,ar⟩⟩:=And.intro m.a.dU m.b.dU
  have P:fj g a i=(y.n.ah,dH g y.n.it++y.n.be):=by rw[q];rfl
  rw[<-q] at D p2 p3 p4 p5 p6
  rw[P] at f p
  simp only at f p
  have Q:=wX (dH g y.n.it) y.n.be (by omega)
  have R:=wX y.n.ah (dH g y.n.it++y.n.be) (by simp;omega)
  have w:=FV g (by unfold bp;omega) y.n.it.aB D.1
  have U:c8 1 (encI (bV g y.n.it.aB)) (some (gi y.n.it.dot)) none=some (encI (dH g y.n.it),.none,[]):=by
   obtain⟨d,hd⟩:∃d:Nat,y.n.it.dot=d:=⟨y.n.it.dot.toNat,by have:=D.2;omega⟩
   have h2:=D.2
   unfold dH
   rw[hd] at h2 ⊢
   rw[abk]
   exact uI (by omega)
  have z:=(I9 g C (y.n.ah++(dH g y.n.it++y.n.be)) (by simp;omega) p6).pure
  have A:=I9 g C y.n.ah (by omega) p5
  have a1:=uz (g:=g) (a:=a) i
  have W:=λh=>(D2 (g:=g) (u:=y.n.ah) (v:=dH g y.n.it++y.n.be) h).1
  simp only[ak,encS,DK] at z A
  simp only[ak,encS] at w
  generalize di g (y.n.ah++(dH g y.n.it++y.n.be))=X at *
  generalize di g y.n.ah=wx at *
  simp(disch:=omega)only[↓wr,seval,wq,dI,L,N]
  intro n9 Y
  have o3:=o2.fresh (n:=n9) (o:=.arr 5 [dI y]) Y
  try rw[set_set]
  simp(disch:=omega)only[↓wr,seval,wq,t1,ak,encS]
  refine ay.pure w ?_
  simp(disch:=omega)only[↓wr,seval,wq,U]
  refine ay.kq Q (by kernel_rfl) ⟨.tree (bC _),m.b.kH,trivial⟩ ?_
  simp(disch:=omega)only[↓wr,seval,wq]
  refine ay.kq R (by kernel_rfl) ⟨m.a.kH,.tree (bC _),trivial⟩ ?_
  simp(disch:=omega)only[↓wr,seval,wq]
  refine ay.pure z ?_
  simp(disch:=omega)only[↓wr,seval,wq]
  apply ao.ne<;>intro h1
  .rw[aaL h1] at f
   simp(disch:=omega)only[↓wr,seval,wq]
   intro F _
   rw[ET (i:=i+1) (by rw[f];exact h1) (by omega),f]
   exact(lL (.emp 1)).L5
  rw[aaI (by omega)] at f
  have h2:wx.2=0:=W (by omega)
  simp(disch:=omega)only[↓wr,seval,wq,t1,ak,encS]
  refine ay.kq A (by kernel_rfl) ⟨.tree (bW _ (cB g)),m.a.kH,trivial⟩ ?_
  simp(disch:=omega)only[↓wr,seval,wq,t7,t8,encI]
  intro n10 l
  obtain⟨B,l⟩:=cn l cx
  have o4:=o3.fresh (n:=n10) (o:=.arr 3 [[gi i,gi wx.1.length,encI X.1]]) (by
   simp only[View.set,aaI B]
   first | exact l | exact(cn l cx).2)
  simp(disch:=omega)only[↓wr,seval,wq,bE]
  refine dC (es:=(cP g a i).1.map jA) o4 (by simp[aL]) (by unfold aF;simp;omega) (by unfold aF;simp;omega) ?_
  intro u5 H5 o5 l5
  simp(disch:=omega)only[↓wr,seval,wq,t8]
  refine aE hk hi ⟨u5,by rw[f],?_,t1,t4,t6,rfl,rfl⟩
  rw[f,p,aa8]
  exact o5
 .obtain rfl:i=a.length:=by omega
  simp(disch:=omega)only[↓wr,seval,wq,t7]
  intro F Z
  have ab:=cq.own (o.own 0 rfl) (λe he v Z=>by
   obtain⟨x,_,rfl⟩:=aa4.1 he
   exact Cp x v Z) F Z
  unfold CS
  rw[he]
  exact .bb _ _ rfl λj Q=>by
   match j,Q with
   | 0,_=>exact ab
   | 1,_=>exact .tree _ (.val _)
abbrev LB:Nat:=4294967296
def RI:Nat->Nat->List Nat
 | 0,_=>[]
 | f+1,n=>if n=0 then [] else n % LB::RI f (n / LB)
def aaE (n:Nat):List Nat:=RI 70 n
abbrev gl (n:Nat):V:=.val (.int .u64 (n:Int))
theorem EM {h:Heap} {u v:V} {e:Int} (hu:Fr h u v):Fr h (.bb [u,gi e]) (.bb [v,gi e]):=.bb _ _ rfl λi hi=>by
 match i,hi with
 | 0,_=>exact hu
 | 1,_=>exact .tree _ (.val _)
def r8 (c:Int × List Int):List V:=[gi 2,gi c.1,encI c.2]
def Cu (x:List (Int × List Int) × Int):V:=.bb [.aZ (x.1.map r8),gi x.2]
def gI (g:aj) (m:Int) (b:ij):List (Int × List Int):=(lB g b m).map λw=>(b.state,w)
def iJ (g:aj) (m:Int):List (Int × List Int) × Int:=
 if isRed g=true/\0<=m/\m<=60 then (if (cZ g).2≠0 then ([],(cZ g).2) else if 2000<((cZ g).1.flatMap (gI g m)).length then ([],13) else ((cZ g).1.flatMap (gI g m),0)) else ([],1)
theorem Sd (c:Int × List Int):∀v∈r8 c,Tree v:=by
 intro v a
 simp[r8] at a
 rcases a with rfl | rfl | rfl
 .exact .val _
 .exact .val _
 .exact bC _
theorem Lv (g:aj) (b:ij) (m:Int):∀n,(qB g b m n).length<=n
 | 0=>by simp[qB]
 | n+1=>by
  have:=Lv g b m n
  rw[BY,aa5]
  split<;>simp<;>omega
abbrev WJ (s:Int) (l:List (List Int)):List (Int × List Int):=l.map λw=>(s,w)
theorem Zz (C:List (Int × List Int)) (s:Int) (l:List (List Int)) (w:List Int):(C++WJ s (l++[w])).map r8=(C++WJ s l).map r8++[[gi 2,gi s,encI w]]:=by simp[r8]
def pH:SC:=
 ai [ai [ag [af 16 5,af 17 3,aM 18 17,aS 19 .lss 16 18],bQ 19 (.exit 0)],.block 1 (ai [ag [af 22 3,af 23 5,aK 24 3 22 23,aw 25 2 24,au 26 25,aM 27 26,aH 28 .gtr 27 9],aX 28 (ai [ag [bh 2 true],.ret])]),ag [af 20 5,aH 21 .add 20 1,af 5 21]]
def rB:SF:=⟨ai [ag [cg 1 0,bh 2 false],ai [ag [aU 6 4 1,aV 7 15 [6],cX 8 7],aX 8 (ai [ag [bh 2 false],.ret])],ag [aU 10 4 1,aV 11 29 [10],af 9 11,du 12 0 9,du 13 1 9,af 3 12,af 4 13],ai [ag [af 14 4,aH 15 .neq 14 0],aX 15 (ai [ag [bh 2 false],.ret])],ai [ag [aT 5 0],bS 0 pH],ag [af 29 3,aM 30 29,aw 31 0 1,au 32 31,aM 33 32,aS 34 .mul 30 33,aH 35 .gtr 34 150,af 2 35],.ret],
 [.tmp 2],36⟩
theorem xO:aJ aa 40 [1]=some rB:=by kernel_rfl
def JV (g:aj):Bool:=isRed g&&decide ((cZ g).2=0)&&((cZ g).1.any (λb=>decide (9<b.word.length))||decide (150<(cZ g).1.length*g.ax.length))
theorem QE (g:aj) (p:g.Ok) (q:(cZ g).1.length<=1000) (t:g.ax.length<=1000) (hw:∀b∈(cZ g).1,aI b.word):aC aa 40 [.agg (ak g)] (gb (JV g)):=by
 refine aC.val (dR g) λH=>?_
 have h1:=Sz g p
 have s:=Qv g p
 unfold JV
 generalize isRed g=r at *
 generalize cZ g=x at *
 obtain⟨l,e⟩:=x
 refine az.of mixed xO ?_
 simp only[ak,encS] at h1 s
 simp only at q hw
 simp(disch:=omega)only[↓wr,seval,wq,rB,ak,encS]
 refine ay.pure h1 ?_
 simp(disch:=omega)only[↓wr,seval,wq]
 apply ao.split<;>intro hi
 rotate_left
 .subst hi
  simp(disch:=omega)only[↓wr,seval,wq]
  rfl
 subst hi
 simp(disch:=omega)only[↓wr,seval,wq]
 refine ay.pure s ?_
 simp(disch:=omega)only[↓wr,seval,wq,CS]
 apply ao.ne<;>intro he
 .rw[decide_eq_false he]
  simp(disch:=omega)only[↓wr,seval,wq]
  rfl
 rw[abj he]
 simp(disch:=omega)only[↓wr,seval,wq]
 refine aW.up l.length (λi T H'=>(∀b∈l.take i,¬ 9<b.word.length)/\T 1=.aP (ak g) 0/\T 3=.aZ (l.map jA)/\T 5=gi i) ⟨by simp,rfl,rfl,rfl⟩ ?_
 rintro i k T H1 hk ⟨d,t1,t3,t5⟩
 simp(disch:=omega)only[↓wr,seval,wq,pH,t3,t5,ak,encS]
 apply ao.dec<;>intro a
 .have h:l[i]?=some (l[i]'(by omega)):=aaH (by omega)
  have f:=aaV h
  have j:l.take (i+1)=l.take i++[l[i]'(by omega)]:=by rw[aa2,h];rfl
  generalize l[i]'(by omega)=b at *
  have m:=hw b f
  unfold aI at m
  have o:cE (encI b.word)=some b.word.length:=by simp[cE,encI]
  simp(disch:=omega)only[↓wr,seval,wq,t3,t5,aaJ,h,jA,o]
  apply ao.dec<;>intro u
  .simp(disch:=omega)only[↓wr,seval,wq]
   have:(l.any λb=>decide (9<b.word.length))=true:=abU.2 ⟨b,f,by simp;omega⟩
   rw[this];rfl
  .simp(disch:=omega)only[↓wr,seval,wq,t1,t3,t5]
   refine aE hk (by omega) ⟨λc a=>?_,t1,t3,rfl⟩
   rw[j] at a
   rcases aa0.1 a with a | a
   .exact d c a
   .simp at a;subst a;omega
 .rw[aaY (by omega)] at d
  have v:(l.any λb=>decide (9<b.word.length))=false:=by
   rw[List.any_eq_false]
   intro b w
   simpa using d b w
  rw[v]
  simp(disch:=omega)only[↓wr,seval,wq,t1,t3,ak,encS]
  have hmul:l.length*g.ax.length<=1000*1000:=Nat.mul_le_mul q t
  rw[<-Int.natCast_mul]
  generalize l.length*g.ax.length=n at *
  rw[wrap64 (by omega) (by omega),acM,abu]
  congr 2
  rw[aby]
  simp only[aaX]
  omega
def VT (g:aj) (s:Int) (n:Nat) (o:List aN):List aN:=(List.range n).foldl (λo (k:Nat)=>if (b6 g k).left = -1-s then eZ o ⟨k,0⟩ else o) o
def KG (g:aj) (p:List aN) (x:aN):List aN:=if (bI g x).2=true/\(bI g x).1<0 then VT g (bI g x).1 g.rules.length p else p
def Gy (g:aj) (l:List aN):List aN:=iter (λo=>o.foldl (KG g) o) g.rules.length l
def Ys (g:aj) (l o:List aN):Bool:=l.all (λx=>decide (x∈o))&&o.all λx=>!(bI g x).2||decide (0<=(bI g x).1)||(List.range g.rules.length).all λ(k:Nat)=>!decide ((b6 g k).left = -1-(bI g x).1)||decide ((⟨k,0⟩:aN)∈o)
def K3 (g:aj) (l o:List aN):Prop:=cJ o/\∀x∈o,oN g l x
theorem ON {g:aj} {k:Nat} (h:k<g.rules.length):g.rules[k]?=some (b6 g k):=by unfold b6;rw[abk];exact getD_some h
theorem Oi {g:aj} {l:List aN} {x:aN} {s:Int} (c:oN g l x) (d:bI g x=(s,true)) (e:s<0):∀(n:Nat) (o:List aN),n<=g.rules.length->K3 g l o->K3 g l (VT g s n o)
 | 0,_,_,h=>h
 | n+1,o,f,h=>by
  have a:=Oi c d e n o (by omega) h
  unfold VT at a ⊢
  rw[ab9,ace]
  simp only[abr,acH]
  split
  .rename_i i
   refine⟨qG a.1,λy b=>?_⟩
   rcases jW.1 b with rfl | b
   .exact .step c d e (ON (by omega)) i
   .exact a.2 y b
  .exact a
theorem Dy {g:aj} {l:List aN}:∀(q o:List aN),(∀x∈q,oN g l x)->K3 g l o->K3 g l (q.foldl (KG g) o)
 | [],_,_,h=>h
 | x::q,o,a,h=>by
  rw[abr]
  refine Dy q _ (λy c=>a y (by simp[c])) ?_
  unfold KG
  split
  .rename_i b
   exact Oi (a x (by simp)) (Prod.ext rfl b.1) b.2 _ _ (aaQ _) h
  .exact h
theorem Ft {α:Type} {p:α->Prop} {f:α->α} (h:∀x,p x->p (f x)):∀(n:Nat) (x:α),p x->p (iter f n x)
 | 0,_,a=>a
 | n+1,x,a=>Ft h n (f x) (h x a)
theorem Vv {g:aj} (i:g.c5) {l:List aN} (j:cJ l) (m:∀x∈l,cT g x) (h:Ys g l (Gy g l)=true):dp g l=Gy g l:=by
 have d:K3 g l (Gy g l):=Ft (λo e=>Dy o o e.2 e) _ l ⟨j,λx b=>.base b⟩
 simp only[Ys,aaR,abc,aaX] at h
 refine DU i m d.1 d.2 h.1 λx b s k R n f hk p=>?_
 have h1:=h.2 x b
 obtain⟨a,q⟩:=aaO.1 hk
 rw[ON a] at hk
 simp only[aaK] at hk
 simp only[n,acN,acM,acv,aaX,abc,abH,acW,ab4] at h1
 rcases h1 with h1 | h1
 .omega
 .rcases h1 k a with c | c
  .exact absurd (by rw[hk];exact p) c
  .exact c
def JK (g:aj) (at_:Nat) (out:List ba):List ba:=(List.range (g.ax.length+g.av.length)).foldl (dw g (Gy g (out.getD at_ bY).bz) at_) out
def JC (g:aj):Nat->Nat->List ba->Option (List ba)
 | 0,_,_=>none
 | f+1,at_,out=>if at_<out.length then
   (if Ys g (out.getD at_ bY).bz (Gy g (out.getD at_ bY).bz)=true/\(JK g at_ out).length<=300 then JC g f (at_+1) (JK g at_ out) else none)
  else some out
theorem Kr {g:aj} (b:g.c5):∀(f at_:Nat) (out a:List ba),eo g at_ 0 out->JC g f at_ out=some a->∀k:Nat,f<=k->fR g k at_ out=(a,0)
 | 0,_,_,_,_,h,_,_=>by simp[JC] at h
 | f+1,at_,out,a,l,h,k,hk=>by
  obtain⟨j,rfl⟩:∃j,k=j+1:=⟨k-1,by omega⟩
  rw[JC] at h
  rw[fR]
  split at h
  .rename_i c
   rw[aaL c]
   split at h
   .rename_i m
    have hm:=aaV (getD_some (d:=bY) c)
    have i:=l.bz _ hm
    have e:xq g at_ out (g.ax.length+g.av.length)=JK g at_ out:=by
     unfold xq JK
     rw[Vv b i.1 i.2.2 m.1]
    have hr:=eo.row (l.nQ b c).1 (l.nQ b c).2 l (g.ax.length+g.av.length) (by have:=b.ax;have:=b.av;omega)
    rw[show (List.range (g.ax.length+g.av.length)).foldl (dw g (dp g (out.getD at_ bY).bz) at_) out=xq g at_ out (g.ax.length+g.av.length) from rfl] at hr
    rw[e] at hr ⊢
    rw[aaI (by omega)]
    exact Kr b f (at_+1) _ a hr.1.next h j (by omega)
   .simp at h
  .rename_i c
   rw[aaI c]
   simp only[aaK] at h
   rw[h]
theorem vQ (g:aj):(cZ g).1.length<=300/\∀x∈(cZ g).1,x.word.length<=60:=by
 have key:∀a i,∀x∈(cP g a i).1,x.word.length<=60:=by
  intro a i
  induction i with
  | zero=>simp[cP]
  | succ i c =>
   rw[cP]
   split
   .exact c
   .split
    .simp
    .intro x b
     rcases aa0.1 b with b | b
     .exact c x b
     .simp at b
      subst b
      exact(C2 (g:=g) _).2
 unfold cZ
 split
 .simp
 .rename_i h
  obtain⟨_,e,d⟩:=G9 (acs.1 h)
  have:=uz (g:=g) (a:=(cD g).1) (cD g).1.length
  exact⟨by omega,key _ _⟩
theorem Xe (g:aj) (k:IntKind) (y:Int):∀v∈[V.agg (ak g),.val (.int k y)],Tree v:=by
 intro v a;simp at a
 rcases a with rfl | rfl
 .exact bW _ (cB g)
 .exact .val _
theorem Ld {g:aj} {a:List ba}:∀n,(cP g a n).2=0->(cP g a n).1.length=n/\∀i:Nat,i<n->(cP g a n).1[i]?=some (wY g a i)/\(di g ((fj g a i).1++(fj g a i).2)).2=0
 | 0,_=>⟨rfl,λi h=>by omega⟩
 | n+1,h=>by
  rw[cP] at h ⊢
  split at h
  .rename_i h1;exact absurd h h1
  .rename_i h1
   have h1:(cP g a n).2=0:=acs.1 h1
   obtain⟨i1,i2⟩:=Ld n h1
   split at h
   .rename_i b;exact absurd h b
   .rename_i b
    rw[aaI (by simp[h1]),aaI b]
    refine⟨by simp[i1],λi hi=>?_⟩
    simp only
    by_cases e:i<n
    .rw[abf (by omega)]
     exact i2 i e
    .obtain rfl:i=n:=by omega
     rw[abN (by omega),i1,Nat.sub_self]
     exact⟨rfl,acs.1 b⟩
theorem F8 {g:aj} {a:List ba}:∀n,(cP g a n).2≠0->(cP g a n).1=[]
 | 0,h=>absurd rfl h
 | n+1,h=>by
  rw[cP] at h ⊢
  split
  .rename_i h1
   rw[aaL h1] at h
   exact F8 n h
  .rename_i h1
   rw[aaI h1] at h
   split
   .rfl
   .rename_i b;rw[aaI b] at h;exact absurd rfl h
structure TK (g:aj) (i:Nat) (b:ij):Prop where
 state:b.state=i
 len:0<=b.len/\b.len<=b.word.length
 short:b.word.length<=60
 ax:∀x∈b.word,0<=x/\x<g.ax.length
 right:bt g=true
theorem AX {g:aj} {i:Nat} {b:ij} (h:(cZ g).1[i]?=some b):TK g i b/\(cZ g).2=0:=by
 have d:(cD g).2=0:=by
  unfold cZ at h
  split at h
  .simp at h
  .rename_i e;exact acs.1 e
 have a:cZ g=cP g (cD g).1 (cD g).1.length:=by
  unfold cZ
  rw[aaI (by simp[d])]
 rw[a] at h ⊢
 have he:(cP g (cD g).1 (cD g).1.length).2=0:=by
  refine ack λc=>?_
  rw[F8 _ c] at h
  simp at h
 refine⟨?_,he⟩
 obtain⟨l,f⟩:=Ld _ he
 have hi:i<(cD g).1.length:=by
  have:=(aaO.1 h).1
  omega
 obtain⟨j,hw⟩:=f i hi
 rw[j] at h
 simp only[aaK] at h
 subst h
 obtain⟨k,_,z3⟩:=Vk hw
 have m:=(D2 hw).2
 exact⟨rfl,⟨by simp[wY],by simp only[wY];omega⟩,(C2 (g:=g) _).2,z3,k⟩
theorem Bw {g:aj} {b:ij} (h:b∈(cZ g).1):∃i,i<300/\TK g i b:=by
 obtain⟨i,hi⟩:=List.mem_iff_getElem?.1 h
 refine⟨i,?_,(AX hi).1⟩
 have:=(aaO.1 hi).1
 have:=(vQ g).1
 omega
theorem Ot {g:aj} (c:g.ax.length<=1000) {b:ij} (h:b∈(cZ g).1):b.word.length<=60/\(0<=b.len/\b.len<=b.word.length)/\(∀x∈b.word,bp x)/\bp b.state:=by
 obtain⟨i,hi,o⟩:=Bw h
 exact⟨o.short,o.len,λx a=>by have:=o.ax x a;unfold bp;omega,by rw[o.state];unfold bp;omega⟩
theorem Vq {g:aj} {m:Int} (hm:m<=60) {b:ij} (h:b∈(cZ g).1) {x:List Int} (a:∀y∈x,y∈b.word∨(0<=y/\y<g.ax.length)) (c:(x.length:Int)<=m):(k5 g x).2=0:=by
 obtain⟨i,hi,o⟩:=Bw h
 rw[CE o.right (λy d=>(a y d).elim (o.ax y) id) hm c]
def RD:List Int:=[37,37,32,115,32,58,32,39,40,39,32,115,32,39,41,39,32,124,32,59]
def dr:aj:=⟨[⟨⟨#[39,40,39]⟩,0,0⟩,⟨⟨#[39,41,39]⟩,0,0⟩],[⟨#[115]⟩],[⟨0,[0,-1,1],1⟩,⟨0,[],-1⟩],0⟩
theorem Yb:cd aa 44 [Eg RD] (uR dr):=NK (by kernel_rfl)
theorem BA:dr.Ok:=by
 refine⟨by unfold aI;decide,by unfold aI;decide,by unfold aI;decide,by unfold bp;decide,?_,?_⟩
 .intro t a;simp[dr] at a;rcases a with rfl | rfl<;>unfold bp<;>decide
 .intro r hr;simp[dr] at hr;rcases hr with rfl | rfl<;>unfold bp aI<;>decide
theorem vT:dr.Small:=⟨by decide⟩
theorem Ux:bt dr=true:=by kernel_rfl
def PF:List ba:=[⟨[⟨-1,0⟩],[⟨0,1⟩,⟨-1,2⟩]⟩,⟨[⟨0,1⟩],[⟨0,1⟩,⟨-1,3⟩]⟩,⟨[⟨-1,1⟩],[]⟩,⟨[⟨0,2⟩],[⟨1,4⟩]⟩,⟨[⟨0,3⟩],[]⟩]
theorem ZF:cD dr=(PF,0):=by
 have hr:isRed dr=true:=by kernel_rfl
 unfold cD
 rw[aaL hr]
 exact Kr (uy hr) 10 0 eu PF mF (by kernel_rfl) 302 (by omega)
def Gg:List ij:=[⟨0,0,[]⟩,⟨1,1,[0,1]⟩,⟨2,0,[]⟩,⟨3,1,[0,1]⟩,⟨4,2,[0,1]⟩]
theorem Xv:cZ dr=(Gg,0):=by
 unfold cZ
 rw[ZF]
 have h:cP dr PF 5=(Gg,0):=by kernel_rfl
 exact h
theorem Y4 {g:aj} {p:List Int} (wt:Int->Int) (hr:∀R∈g.rules,wt (-1-R.left)=(R.right.map wt).sum) (hp:∀x∈p,0<=x) {l:List Int} {i j:Nat} (h:Sp g p l i j):(((p.drop i).take (j-i)).map wt).sum=(l.map wt).sum:=by
 induction h with
 | nil i=>simp
 | term s l i j m n o q =>
  obtain⟨x,a,b⟩:=n
  have r:=hp x (aaV a)
  have c:=(aaO.1 a).1
  have hle:=o.le
  have e:p.drop i=x::p.drop (i+1):=by
   rw[abt c,(aaO.1 a).2]
  rw[e,show j-i=(j-(i+1))+1 by omega,acP,aba,aba,List.sum_cons,List.sum_cons,q]
  rcases b with rfl | rfl
  .rfl
  .omega
 | eJ s l R i k j m t u h1 v d f =>
  have w:=h1.le
  have y:=v.le
  have e:(p.drop i).take (j-i)=(p.drop i).take (k-i)++(p.drop k).take (j-k):=by
   rw[show j-i=(k-i)+(j-k) by omega,List.take_add,List.drop_drop,show i+(k-i)=k by omega]
  rw[e,aa8,List.sum_append,d,f,aba,List.sum_cons,<-hr R t,u]
  congr 2
  omega
def VC (s:Int):Int:=if s=0 then 1 else if s=1 then -1 else 0
theorem Wl {p:List Int} (hp:∀x∈p,0<=x) (h:(p.map VC).sum≠0):nN dr p=false:=by
 rw[Bool.eq_false_iff,Ne,Eh Ux]
 intro b
 have:=Y4 VC (λR a=>by
  simp[dr] at a
  rcases a with rfl | rfl<;>rfl) hp b
 rw[abI,Nat.sub_zero,aca] at this
 exact h this
theorem ZO:nN kD [0,0]=true:=by
 refine(Eh (show bt kD=true by kernel_rfl) _).2 ?_
 have e:∀i j,Sp kD [0,0] [-1] (i+1) j->[(0:Int),0][i]?=some 0->Sp kD [0,0] [-1] i j:=λi j h hi =>
  .eJ (-1) [] ⟨0,[0,-1],0⟩ i j j (by decide) (by simp[kD]) (by decide) (.term 0 [-1] i j (by decide) ⟨0,hi,.inl rfl⟩ h) (.nil _)
 exact e 0 2 (e 1 2 (.eJ (-1) [] ⟨0,[],-1⟩ 2 2 2 (by decide) (by simp[kD]) (by decide) (.nil _) (.nil _)) rfl) rfl
theorem YD:qK dr [0,1] 1 0 5=(([0,0],true),0):=by
 unfold qK
 rw[aaL ⟨by kernel_rfl,by decide,by decide,by decide⟩]
 have h:lk dr (fQ [0,1] 1 1 [0]) 5=true:=(Bj Ux (by decide) (by decide)).2 ⟨by decide,Wl (by decide) (by decide)⟩
 rw[show (1:Int).toNat=1 from rfl,jz,aaL ⟨by decide,by decide,h⟩]
 rfl
theorem XA:qK dr [0] 2 0 5=(([],false),1):=by
 unfold qK
 rw[aaI (by rintro⟨_,⟨_,h⟩,_⟩;exact absurd h (by decide))]
theorem Zb:qK kD [0] 0 0 5=(([],false),0):=by
 unfold qK
 rw[aaL ⟨by kernel_rfl,by decide,by decide,by decide⟩]
 have h:lk kD (fQ [0] 0 0 [0]) 5=false:=by
  rw[Bool.eq_false_iff,Ne,Bj (show bt kD=true by kernel_rfl) (by decide) (by decide)]
  rintro⟨_,h⟩
  have:nN kD [0,0]=false:=h
  rw[ZO] at this
  simp at this
 rw[show (0:Int).toNat=0 from rfl,jz,aaI (by rintro⟨_,h,_⟩;exact h rfl),aaI (by rw[h];simp)]
theorem E5 {p:List Int} (h1:∀x∈p,0<=x/\x<2) (b:p.length<=9) (h:(p.map VC).sum≠0):lk dr p 9=true:=
 (Bj Ux (λx a=>⟨(h1 x a).1,(h1 x a).2⟩) (by decide)).2 ⟨by omega,Wl (λx a=>(h1 x a).1) h⟩
theorem BL (i:Int):lB dr ⟨i,0,[]⟩ 9=[[0],[1]]/\lB dr ⟨i,1,[0,1]⟩ 9=[[0,0],[0,1,1],[0]]/\lB dr ⟨i,2,[0,1]⟩ 9=[[0,1,0],[0,1,1]]:=by
 have a:lk dr [0] 9=true:=E5 (by decide) (by decide) (by decide)
 have b:lk dr [1] 9=true:=E5 (by decide) (by decide) (by decide)
 have c:lk dr [0,0] 9=true:=E5 (by decide) (by decide) (by decide)
 have d:lk dr [0,1,1] 9=true:=E5 (by decide) (by decide) (by decide)
 have e:lk dr [0,1,0] 9=true:=E5 (by decide) (by decide) (by decide)
 unfold lB qB
 rw[show dr.ax.length=2 from rfl,show List.range 2=[0,1] from rfl]
 simp[jz,fQ,a,b,c,d,e]
def Fc:List (Int × List Int):=[(0,[0]),(0,[1]),(1,[0,0]),(1,[0,1,1]),(1,[0]),(2,[0]),(2,[1]),(3,[0,0]),(3,[0,1,1]),(3,[0]),(4,[0,1,0]),(4,[0,1,1])]
theorem Tm:iJ dr 9=(Fc,0):=by
 have h:Gg.flatMap (gI dr 9)=Fc:=by
  simp[Gg,gI,(BL 0).1,(BL 1).2.1,(BL 2).1,(BL 3).2.1,(BL 4).2.2,Fc]
 unfold iJ
 rw[aaL ⟨by kernel_rfl,by decide,by decide⟩,Xv,h]
 rfl
theorem Zk:iJ u7 9=([],1):=by
 unfold iJ
 rw[aaI (by rw[show isRed u7=false by kernel_rfl];simp)]
def tu:SF:=⟨ai [ag [cg 2 0,bh 4 false],ai [ag [af 7 1,aM 8 7,aw 9 4 2,au 10 9,aS 11 .gtr 8 10],aX 11 (ai [ag [bh 4 false],.ret])],ag [aw 13 0 2,aU 14 4 13,af 15 1,aV 16 19 [14,15],af 12 16,du 17 0 12,du 18 1 12,af 5 17,af 6 18],.region false [⟨none,[af 19 6,aH 20 .eql 19 0,af 21 20]⟩,⟨(some (21,true)),[af 22 5,cX 23 22]⟩,⟨none,[dQ 24 21 23,af 4 24]⟩],.ret],
 [.tmp 4],25⟩
theorem x7:aJ aa 141 [2]=some tu:=by kernel_rfl
def Bk:SF:=⟨ai [ag [bh 2 false],.region false [⟨none,[af 3 0,aH 4 .geq 3 0,af 5 4]⟩,⟨(some (5,true)),[af 6 0,aH 7 .leq 6 60]⟩,⟨none,[dQ 8 5 7,af 2 8]⟩],.ret],
 [.tmp 2],9⟩
theorem GC:aJ aa 79 []=some Bk:=by kernel_rfl
def jq (g:aj) (m:Int):List V:=[.aZ (g.ax.map dd),encS g.av,.aZ (g.rules.map aO),gi g.start,gi m]
theorem iA (g:aj) (m:Int):Tree (.agg (jq g m)):=.agg _ λi hi=>by
 have h:=cB g
 match i,hi with
 | 0,_=>exact h _ (by simp[ak,jq])
 | 1,_=>exact h _ (by simp[ak,jq])
 | 2,_=>exact h _ (by simp[ak,jq])
 | 3,_=>exact .val _
 | 4,_=>exact .val _
theorem NZ (g:aj) (b:g.Ok) (c:g.Small) (w:List Int) (hw:aI w) (d:∀x∈w,bp x) (m:Int) (e:(w.length:Int)<=m->(k5 g w).2=0):aC aa 141 [.agg (jq g m),encI w] (gb (lk g w m)):=by
 refine aC.val (by
  intro v a;simp at a
  rcases a with rfl | rfl
  .exact iA g m
  .exact bC _) λH=>?_
 have h1:=Xb g b c w hw d
 unfold lk
 generalize k5 g w=x at *
 refine az.of mixed x7 ?_
 unfold aI at hw
 simp only[ak,encS,encI] at h1
 simp(disch:=omega)only[↓wr,seval,wq,tu,encI,jq,encS]
 apply ao.dec<;>intro f
 .rw[decide_eq_false (show ¬ ((w.length:Int)<=m) by omega)]
  simp(disch:=omega)only[↓wr,seval,wq]
  rfl
 .rw[abj (show ((w.length:Int)<=m) by omega)]
  simp(disch:=omega)only[↓wr,seval,wq]
  refine ay.pure h1 ?_
  have i:=e (by omega)
  simp(disch:=omega)only[↓wr,seval,wq,B1]
  refine ao.eq (λ_=>?_) (λh=>absurd i h)
  simp(disch:=omega)only[↓wr,seval,wq]
  rw[abu]
theorem Nq (m:Int):aC aa 79 [gi m] (gb (decide (0<=m)&&decide (m<=60))):=by
 refine aC.val (by intro v a;simp at a;subst a;exact .val _) λH=>?_
 refine az.of mixed GC ?_
 simp(disch:=omega)only[↓wr,seval,wq,Bk]
 apply ao.dec<;>intro b
 .rw[abj (show 0<=m by omega)]
  simp(disch:=omega)only[↓wr,seval,wq]
  rw[abu]
 .rw[decide_eq_false (show ¬ 0<=m by omega)]
  simp(disch:=omega)only[↓wr,seval,wq]
  rfl
def ko:SC:=
 ai [ai [ag [af 7 2,af 8 3,aS 9 .lss 7 8],bQ 9 (.exit 0)],.block 1 (ag [af 14 0,af 15 2,af 16 0,af 17 3,af 18 0,af 19 3,aK 20 1 18 19,au 21 20,af 22 0,af 23 2,aK 24 1 22 23,au 25 24,aK 26 1 14 15,cz 1 26 21,aK 27 1 16 17,cz 1 27 25]),ag [af 10 2,aH 11 .add 10 1,af 12 3,aH 13 .sub 12 1,af 2 11,af 3 13]]
def kT:SF:=⟨ai [ag [af 4 0,aM 5 4,aH 6 .sub 5 1,aT 2 0,af 3 6],bS 0 ko],
 [],28⟩
theorem qI:aJ aa 285 []=some kT:=by kernel_rfl
def mh:SF:=⟨ai [ag [af 4 0,af 5 1,((some 6),.op (.slice 1 (.tmp 4) none (some (.tmp 5)))),aV 7 285 [6]],ag [af 8 0,af 9 1,((some 10),.op (.slice 1 (.tmp 8) (some (.tmp 9)) none)),aV 11 285 [10]],ag [af 12 0,aV 13 285 [12]]],
 [],14⟩
theorem tN:aJ aa 253 []=some mh:=by kernel_rfl
def lV:SF:=⟨ag [af 4 0,af 5 0,aM 6 5,af 7 1,aS 8 .sub 6 7,aV 9 253 [4,8]],
 [],10⟩
theorem rW:aJ aa 202 []=some lV:=by kernel_rfl
def Aa (l cur:List Int) (off len i:Nat):Prop:=cur.length=l.length/\∀k,k<l.length->cur.getD k 0=if off<=k/\k<off+len/\(k<off+i∨off+len<=k+i) then l.getD (off+(off+len-1)-k) 0 else l.getD k 0
def LH (l cur:List Int) (off len:Nat):Prop:=cur.length=l.length/\∀k,k<l.length->cur.getD k 0=if off<=k/\k<off+len then l.getD (off+(off+len-1)-k) 0 else l.getD k 0
theorem Aa.zero (l:List Int) (off len:Nat):Aa l l off len 0:=⟨rfl,λk hk=>by rw[aaI (by omega)]⟩
theorem Aa.done {l cur:List Int} {off len i:Nat} (h:Aa l cur off len i) (hi:len<=2*i+1):LH l cur off len:=⟨h.1,λk hk=>by
 rw[h.2 k hk]
 by_cases a:off<=k/\k<off+len
 .rw[aaL a]
  by_cases b:k<off+i∨off+len<=k+i
  .rw[aaL ⟨a.1,a.2,b⟩]
  .rw[aaI (λh=>b h.2.2),show off+(off+len-1)-k=k by omega]
 .rw[aaI a,aaI (λh=>a ⟨h.1,h.2.1⟩)]⟩
theorem HW (l:List Int) (i j:Nat) (x:Int) (hi:i<l.length):(l.set i x).getD j 0=if i=j then x else l.getD j 0:=by
 simp only[aaG]
 by_cases e:i=j
 .subst e;rw[aaL rfl,acA hi];rfl
 .rw[aaI e,List.getElem?_set_ne e]
theorem Aa.next {l cur:List Int} {off len i:Nat} (h:Aa l cur off len i) (g:off+len<=l.length) (hi:2*i+1<len):
  Aa l ((cur.set (off+i) (cur.getD (off+(len-1-i)) 0)).set (off+(len-1-i)) (cur.getD (off+i) 0)) off len (i+1):=by
 obtain⟨h1,a⟩:=h
 refine⟨by simp[h1],λk hk=>?_⟩
 have b:=a (off+i) (by omega)
 have c:=a (off+(len-1-i)) (by omega)
 rw[aaI (by omega)] at b c
 rw[HW _ _ _ _ (by rw[acm];omega),HW _ _ _ _ (by omega),b,c]
 by_cases d:off+(len-1-i)=k
 .rw[aaL d,aaL (by omega),show off+(off+len-1)-k=off+i by omega]
 .rw[aaI d]
  by_cases e:off+i=k
  .rw[aaL e,aaL (by omega),show off+(off+len-1)-k=off+(len-1-i) by omega]
  .rw[aaI e,a k hk]
   by_cases f:off<=k/\k<off+len/\(k<off+i∨off+len<=k+i)
   .rw[aaL f,aaL (by omega)]
   .rw[aaI f,aaI (by omega)]
theorem z7 {l:List Int} {i:Nat} (h:i<l.length):(aR l).getD i []=[gi (l.getD i 0)]:=by
 simp[aaH h]
theorem zE {H:View} {id:Nat} {l:List Int} {off len:Nat} (g:H id=.arr 1 (aR l)) (h:off+len<=l.length) (j:aI l):az aa 285 [.sl id off len 1] H λ_ H'=>∃cur,H' id=.arr 1 (aR cur)/\LH l cur off len/\∀k,k≠id->H' k=H k:=by
 unfold aI at j
 refine az.of mixed qI ?_
 simp(disch:=omega)only[↓wr,seval,wq,kT]
 refine aW.up len (λi T H'=>(∃cur,H' id=.arr 1 (aR cur)/\Aa l cur off len i)/\(∀k,k≠id->H' k=H k)/\T 0=.sl id off len 1/\T 2=gi i/\T 3=.val (.int .i64 ((len:Int)-1-i))) ⟨⟨l,g,Aa.zero _ _ _⟩,λ_ _=>rfl,rfl,rfl,by show V.val _=_;congr 2;omega⟩ ?_
 rintro i k T H1 hk ⟨⟨cur,e,c⟩,b,t0,t2,t3⟩
 simp(disch:=omega)only[↓wr,seval,wq,ko,t2,t3]
 apply ao.dec<;>intro m
 .have n:((len:Int)-1-i).toNat=len-1-i:=by omega
  have o:=c.1
  have p:(aR cur).getD (off+i) []=[gi (cur.getD (off+i) 0)]:=by
   simp[aaH (show off+i<cur.length by omega)]
  have d:(aR cur).getD (off+(len-1-i)) []=[gi (cur.getD (off+(len-1-i)) 0)]:=by
   simp[aaH (show off+(len-1-i)<cur.length by omega)]
  simp(disch:=omega)only[↓wr,seval,wq,t0,t2,t3,e,n,p,d]
  refine⟨by omega,by omega,by omega,by omega,by omega,by omega,by omega,by rw[acm,aaM];omega,aE hk (by omega) ⟨⟨_,?_,c.next h (by omega)⟩,λk hk=>?_,t0,rfl,?_⟩⟩
  .simp only[View.set,if_true]
   congr 1
   have f:∀(L:List Int) (a:Nat) (x:Int),(aR L).set a [gi x]=aR (L.set a x):=λL a x=>acp.symm
   rw[f,z7 (by rw[acm];omega)]
   exact f _ _ _
  .simp only[View.set,aaI hk]
   exact b k hk
  .show V.val _=V.val _
   congr 2
   omega
 .simp(disch:=omega)only[↓wr,seval,wq]
  exact⟨cur,e,c.done (by omega),b⟩
def G6 (l cur:List Int) (off len r:Nat):Prop:=cur.length=l.length/\∀k,k<l.length->cur.getD k 0=if off<=k/\k<off+len then (if k+r<off+len then l.getD (k+r) 0 else l.getD (k+r-len) 0) else l.getD k 0
theorem G6.of {l a b c:List Int} {off len r:Nat} (hr:r<=len) (j:off+len<=l.length) (h1:LH l a off r) (g:LH a b (off+r) (len-r)) (i:LH b c off len):G6 l c off len r:=by
 obtain⟨m,a2⟩:=h1
 obtain⟨n,f⟩:=g
 obtain⟨c1,c2⟩:=i
 refine⟨by omega,λk hk=>?_⟩
 rw[c2 k (by omega)]
 by_cases d:off<=k/\k<off+len
 .rw[aaL d,aaL d]
  have e:off+(off+len-1)-k<l.length:=by omega
  rw[f _ (by omega)]
  by_cases h:k+r<off+len
  .rw[aaL h,aaL (by omega),a2 _ (by omega),aaI (by omega)]
   congr 1;omega
  .rw[aaI h,aaI (by omega),a2 _ (by omega),aaL (by omega)]
   congr 1;omega
 .rw[aaI d,aaI d,f k (by omega),aaI (by omega),a2 k hk,aaI (by omega)]
theorem Jq {H:View} {id:Nat} {l:List Int} {off len r:Nat} (g:H id=.arr 1 (aR l)) (h:off+len<=l.length) (hr:r<=len) (e:aI l):az aa 253 [.sl id off len 1,gi r] H λ_ H'=>∃cur,H' id=.arr 1 (aR cur)/\G6 l cur off len r/\∀k,k≠id->H' k=H k:=by
 have d:=e
 unfold aI at d
 refine az.of mixed tN ?_
 have s1:=Ds (id:=id) (off:=off) (k:=len) (m:=r) hr
 have s2:=Dw (id:=id) (off:=off) (k:=len) (m:=r) hr
 simp(disch:=omega)only[↓wr,seval,wq,mh,s1]
 refine ay.cw ((zE g (off:=off) (len:=r) (by omega) e).mono ?_)
 rintro u H1 ⟨a,i,h1,j⟩
 simp(disch:=omega)only[↓wr,seval,wq,s2]
 refine ay.cw ((zE i (off:=off+r) (len:=len-r) (by rw[h1.1];omega) (by unfold aI;rw[h1.1];omega)).mono ?_)
 rintro v w ⟨b,n,f,k2⟩
 simp(disch:=omega)only[↓wr,seval,wq]
 have o:=f.1
 have p:=h1.1
 refine ay.cw ((zE n (off:=off) (len:=len) (by omega) (by unfold aI;omega)).mono ?_)
 rintro x y ⟨c,q,s,t⟩
 simp(disch:=omega)only[↓wr,seval,wq]
 exact⟨c,q,G6.of hr h h1 f s,λk hk=>by rw[t k hk,k2 k hk,j k hk]⟩
theorem Hn {H:View} {id:Nat} {l:List Int} {off len m:Nat} (c:H id=.arr 1 (aR l)) (d:off+len<=l.length) (hr:m<=len) (b:aI l):az aa 202 [.sl id off len 1,gi m] H λ_ H'=>∃cur,H' id=.arr 1 (aR cur)/\G6 l cur off len (len-m)/\∀k,k≠id->H' k=H k:=by
 have a:=b
 unfold aI at a
 refine az.of mixed rW ?_
 have h1:=Jq c d (r:=len-m) (by omega) b
 rw[show ((len-m:Nat):Int)=(len:Int)-m by omega] at h1
 simp(disch:=omega)only[↓wr,seval,wq,lV]
 refine ay.cw (h1.mono ?_)
 rintro e H1 h
 simp(disch:=omega)only[↓wr,seval,wq]
 exact h
def CQ:Prop:=∀(H:View) (u:V) (v:Nat) (l:List Int) (i:Nat) (t:Int),aQ H u 1 (aR l)->H v=.arr 1 [[gi t]]->owner u≠some v->i<=l.length->l.length<=1000 ->
 az aa 142 [u,gi i,.sl v 0 1 1] H λr H'=>aQ H' r 1 (aR (fQ l i 0 [t]))/\∀id,H id≠.dead->id≠v->owner u≠some id->H' id=H id/\owner r≠some id
def Pn:Prop:=∀(H:View) (u:V) (l:List Int) (p:Nat),aQ H u 1 (aR l)->p<l.length->l.length<=1000 ->
 az aa 144 [u,gi p,gi ((p:Int)+1)] H λr H'=>aQ H' r 1 (aR (fQ l p 1 []))/\Left H H' u r
def rf:SF:=⟨ai [ag [cg 4 0,bU 8 1,bh 9 false],ai [.region false [⟨none,[af 12 2,af 13 1,aM 14 13,aS 15 .lss 12 14,af 16 15]⟩,⟨(some (16,true)),[af 17 1,af 18 2,aK 19 1 17 18,au 20 19,af 21 3,aS 22 .neq 20 21]⟩,⟨none,[dQ 23 16 22]⟩],aX 23 (ai [ag [af 24 1,aV 25 140 [24],af 10 25],ag [af 26 10,af 27 2,af 28 3,aK 29 1 26 27,cz 1 29 28],ag [aU 30 5 4,af 31 10,aV 32 141 [30,31]],aX 32 (ai [ag [af 33 10,af 8 33,bh 9 true],.ret])])],ag [af 34 1,aV 35 140 [34],af 36 2,af 37 3,((some 38),.op (.bO 1 1 [(.val (.int .i64 0))] [(0,(.tmp 37))])),aV 39 142 [35,36,38],af 11 39],ai [ag [aU 40 5 4,af 41 11,aV 42 141 [40,41]],aX 42 (ai [ag [af 43 11,af 8 43,bh 9 true],.ret])],ag [bU 8 1,bh 9 false],.ret],
 [.tmp 8,.tmp 9],44⟩
theorem xo:aJ aa 80 [4]=some rf:=by kernel_rfl
def Ak:SF:=⟨ai [ag [cg 5 0,bU 10 1,bh 11 false,aT 12 0],ai [.region false [⟨none,[aU 15 4 5,af 16 1,aV 17 52 [15,16],cX 18 17,af 19 18]⟩,⟨(some (19,false)),[af 20 2,aH 21 .lss 20 0]⟩,⟨none,[cG 22 19 21,af 23 22]⟩,⟨(some (23,false)),[af 24 2,af 25 1,aM 26 25,aS 27 .gtr 24 26]⟩,⟨none,[cG 28 23 27,af 29 28]⟩,⟨(some (29,false)),[af 30 3,aH 31 .lss 30 0]⟩,⟨none,[cG 32 29 31,af 33 32]⟩,⟨(some (33,false)),[af 34 3,aw 35 0 5,au 36 35,aM 37 36,aS 38 .geq 34 37]⟩,⟨none,[cG 39 33 38,af 40 39]⟩,⟨(some (40,false)),[af 41 4,aV 42 79 [41],cX 43 42]⟩,⟨none,[cG 44 40 43]⟩],aX 44 (ai [ag [bU 10 1,bh 11 false,aT 12 1],.ret])],ag [aU 46 4 5,af 47 4,((some 48),.op (.build [(.emp 1),(.emp 1),(.emp 1),(.val (.int .i64 0)),(.val (.int .i64 0))] [(0,4,(.tmp 46)),(4,1,(.tmp 47))])),af 49 1,af 50 2,af 51 3,aV 52 80 [48,49,50,51],af 45 52,du 53 0 45,du 54 1 45,af 13 53,af 14 54],ag [af 55 13,af 56 14,af 10 55,af 11 56,aT 12 0],.ret],
 [.tmp 10,.tmp 11,.tmp 12],57⟩
theorem DS:aJ aa 38 [5]=some Ak:=by kernel_rfl
theorem Ny {w:List Int} {p:Nat} {t:Int} (h:p<w.length):fQ w p 1 [t]=w.set p t:=by
 unfold fQ
 rw[List.set_eq_take_append_cons_drop,aaL h]
 rfl
theorem JT (B:CQ) (g:aj) (F:g.Ok) (G:g.Small) (m:Int) (w:List Int) (hw:w.length<=100) (I:∀x∈w,bp x) (p:Nat) (hp:p<=w.length) (t:Int) (J:bp t)
  (K:∀x:List Int,(∀y∈x,y∈w∨y=t)->(x.length:Int)<=m->(k5 g x).2=0) (H:View):
  az aa 80 [.agg (jq g m),encI w,gi p,gi t] H λr H'=>∃u,r=.bb [u,gb (jz g w p t m).2]/\aQ H' u 1 (aR (jz g w p t m).1):=by
 have b:=λn=>NZ g F G (fQ w p n [t]) (TB (by omega)) (YT I J) m (K _ λy L=>(yo L).imp id λh=>by simpa using h)
 have z:p<w.length->w[p]?=some (w.getD p 0):=λh=>getD_some h
 have j:=λH=>tw w (by omega) (encI w) H (.inl rfl)
 unfold jz
 refine az.of mixed xo ?_
 simp only[jq,encS] at b
 simp(disch:=omega)only[↓wr,seval,wq,rf,encI,jq,encS]
 apply ao.dec<;>intro M
 .have d:p<w.length:=by omega
  have z:=z d
  generalize w.getD p 0=x at z
  simp(disch:=omega)only[↓wr,seval,wq,aaJ,z]
  apply ao.ne<;>intro k
  .simp(disch:=omega)only[↓wr,seval,wq]
   refine ay.cw ((j _).mono ?_)
   rintro Q N ⟨o0,-⟩
   obtain⟨q,rfl,O⟩:=o0.sl (by simp;omega)
   have C:(aR w).getD p []=[gi x]:=by simp[z]
   simp(disch:=omega)only[↓wr,seval,wq,O,C]
   have P:(aR w).set p [gi t]=aR (fQ w p 1 [t]):=by rw[Ny d];exact acp.symm
   have D:aQ (N.set q (.arr 1 (aR (fQ w p 1 [t])))) (.sl q 0 w.length 1) 1 (aR (fQ w p 1 [t])):=.inr ⟨q,by rw[aaM,Ny d,acm],by simp[View.set]⟩
   refine⟨d,d,?_⟩
   rw[show [V.val (Value.int IntKind.i64 t)]=[gi t] from rfl,P]
   refine ay.rY (b 1) (by kernel_rfl) (.val _) ⟨.tree (iA g m),.xE D,trivial⟩ ?_
   simp(disch:=omega)only[↓wr,seval,wq]
   apply ao.split<;>intro l
   .simp(disch:=omega)only[↓wr,seval,wq]
    rw[aaL ⟨d,k,l⟩]
    exact⟨_,rfl,D⟩
   .simp(disch:=omega)only[↓wr,seval,wq]
    refine ay.cw ((j _).mono ?_)
    rintro u H1 ⟨c,-⟩
    have e:=c.dU
    simp(disch:=omega)only[↓wr,seval,wq]
    intro v s
    have A:=c.ne s
    have c:=c.fresh (o:=.arr 1 [[gi t]]) s
    refine ay.cw ((B _ u v w p t c (by simp[View.set]) A hp (by omega)).mono ?_)
    rintro r E ⟨f,-⟩
    have a:=f.dU
    simp(disch:=omega)only[↓wr,seval,wq]
    refine ay.rY (b 0) (by kernel_rfl) (.val _) ⟨.tree (iA g m),.xE f,trivial⟩ ?_
    simp(disch:=omega)only[↓wr,seval,wq]
    apply ao.split<;>intro i
    .simp(disch:=omega)only[↓wr,seval,wq]
     rw[aaI (λh=>by rw[l] at h;simp at h),aaL i]
     exact⟨_,rfl,f⟩
    .simp(disch:=omega)only[↓wr,seval,wq]
     rw[aaI (λh=>by rw[l] at h;simp at h),aaI (by rw[i];simp)]
     exact⟨_,rfl,.nil⟩
  .simp(disch:=omega)only[↓wr,seval,wq]
   refine ay.cw ((j _).mono ?_)
   rintro u H1 ⟨c,-⟩
   have e:=c.dU
   simp(disch:=omega)only[↓wr,seval,wq]
   intro v s
   have A:=c.ne s
   have c:=c.fresh (o:=.arr 1 [[gi t]]) s
   refine ay.cw ((B _ u v w p t c (by simp[View.set]) A hp (by omega)).mono ?_)
   rintro r E ⟨f,-⟩
   have a:=f.dU
   simp(disch:=omega)only[↓wr,seval,wq]
   refine ay.rY (b 0) (by kernel_rfl) (.val _) ⟨.tree (iA g m),.xE f,trivial⟩ ?_
   simp(disch:=omega)only[↓wr,seval,wq]
   apply ao.split<;>intro i
   .simp(disch:=omega)only[↓wr,seval,wq]
    rw[aaI (λh=>h.2.1 k),aaL i]
    exact⟨_,rfl,f⟩
   .simp(disch:=omega)only[↓wr,seval,wq]
    rw[aaI (λh=>h.2.1 k),aaI (by rw[i];simp)]
    exact⟨_,rfl,.nil⟩
 .simp(disch:=omega)only[↓wr,seval,wq]
  refine ay.cw ((j _).mono ?_)
  rintro u H1 ⟨c,-⟩
  have e:=c.dU
  simp(disch:=omega)only[↓wr,seval,wq]
  intro v s
  have A:=c.ne s
  have c:=c.fresh (o:=.arr 1 [[gi t]]) s
  refine ay.cw ((B _ u v w p t c (by simp[View.set]) A hp (by omega)).mono ?_)
  rintro r E ⟨f,-⟩
  have a:=f.dU
  simp(disch:=omega)only[↓wr,seval,wq]
  refine ay.rY (b 0) (by kernel_rfl) (.val _) ⟨.tree (iA g m),.xE f,trivial⟩ ?_
  simp(disch:=omega)only[↓wr,seval,wq]
  apply ao.split<;>intro i
  .simp(disch:=omega)only[↓wr,seval,wq]
   rw[aaI (λh=>by omega),aaL i]
   exact⟨_,rfl,f⟩
  .simp(disch:=omega)only[↓wr,seval,wq]
   rw[aaI (λh=>by omega),aaI (by rw[i];simp)]
   exact⟨_,rfl,.nil⟩
theorem VP (b:CQ) (g:aj) (c:g.Ok) (d:g.Small) (m:Int) (w:List Int) (hw:w.length<=100) (f:∀x∈w,bp x) (p:Nat) (hp:p<=w.length) (t:Int) (h:bp t)
  (i:∀x:List Int,(∀y∈x,y∈w∨y=t)->(x.length:Int)<=m->(k5 g x).2=0):
  aC aa 80 [.agg (jq g m),encI w,gi p,gi t] (Yq (jz g w p t m)):=
 aC.of (by
  intro v a;simp at a
  rcases a with rfl | rfl | rfl | rfl
  .exact iA g m
  .exact bC _
  .exact .val _
  .exact .val _) ((JT b g c d m w hw f p hp t h i _).mono λr H' ⟨u,e,o⟩ j k=>e▸XQ (cq.xE o j k))
theorem KQ {h:Heap} {u v:V} {b:Bool} {e:Int} (hu:dF h u v):dF h (.bb [u,gb b,gi e]) (.bb [v,gb b,gi e]):=.bb _ _ rfl λi hi=>by
 match i,hi with
 | 0,_=>exact hu
 | 1,_=>exact .val _
 | 2,_=>exact .val _
theorem V5 (l:CQ) (g:aj) (c:g.Ok) (i:g.Small) (w:List Int) (hw:aI w) (j:∀x∈w,bp x) (p t m:Int) (n:bp t):
  cd aa 38 [.agg (ak g),encI w,gi p,gi t,gi m] (Hh (qK g w p t m)):=by
 refine cd.of (by
  intro v k;simp at k
  rcases k with rfl | rfl | rfl | rfl | rfl
  .exact dR g _ (by simp)
  .exact bC _
  .exact .val _
  .exact .val _
  .exact .val _) ?_
 have h1:=KV g c i w hw j
 have q:=Nq m
 have bad:¬ (jb g w=true/\(0<=p/\p<=w.length)/\(0<=t/\t<g.ax.length)/\(0<=m/\m<=60))->∀h:Heap,dF h (.bb [.emp 1,gb false,gi 1]) (Hh (qK g w p t m)):=λs h=>by
  unfold qK
  rw[aaI s]
  exact KQ (.emp 1)
 have G:=c.ax
 refine az.of mixed DS ?_
 simp only[ak,encS,encI] at h1
 unfold aI at hw
 simp(disch:=omega)only[↓wr,seval,wq,Ak,encI,ak,encS]
 refine ay.pure h1 ?_
 simp(disch:=omega)only[↓wr,seval,wq]
 apply ao.split<;>intro b
 rotate_left
 .simp(disch:=omega)only[↓wr,seval,wq]
  exact λa _=>bad (λh=>by rw[b] at h;simp at h) a
 simp(disch:=omega)only[↓wr,seval,wq]
 apply ao.dec<;>intro c1
 .simp(disch:=omega)only[↓wr,seval,wq]
  exact λa _=>bad (λh=>by omega) a
 simp(disch:=omega)only[↓wr,seval,wq]
 apply ao.dec<;>intro c2
 .simp(disch:=omega)only[↓wr,seval,wq]
  exact λa _=>bad (λh=>by omega) a
 simp(disch:=omega)only[↓wr,seval,wq]
 apply ao.dec<;>intro z
 .simp(disch:=omega)only[↓wr,seval,wq]
  exact λa _=>bad (λh=>by omega) a
 simp(disch:=omega)only[↓wr,seval,wq]
 apply ao.dec<;>intro A
 .simp(disch:=omega)only[↓wr,seval,wq]
  exact λa _=>bad (λh=>by omega) a
 simp(disch:=omega)only[↓wr,seval,wq]
 refine ay.pure q ?_
 simp(disch:=omega)only[↓wr,seval,wq]
 apply ao.split<;>intro hm
 rotate_left
 .simp(disch:=omega)only[↓wr,seval,wq]
  exact λa _=>bad (λh=>by
   rw[abj h.2.2.2.1,abj h.2.2.2.2] at hm
   simp at hm) a
 rw[aaR,aaX,aaX] at hm
 obtain⟨hr,B,d⟩:=HQ.1 b
 have e:=JT l g c i m w (by omega) j p.toNat (by omega) t n (λx C D=>by
  rw[CE hr (λy E=>?_) hm.2 D]
  rcases C y E with h | rfl
  .exact d y h
  .omega) (λ_=>.dead)
 rw[show ((p.toNat:Nat):Int)=p by omega] at e
 unfold qK
 rw[aaL ⟨b,by omega,by omega,hm⟩]
 generalize jz g w p.toNat t m=x at *
 simp only[jq,encS,encI] at e
 simp(disch:=omega)only[↓wr,seval,wq]
 refine ay.cw (e.mono ?_)
 rintro r H1 ⟨u,rfl,o⟩
 have ok:=o.dU
 simp(disch:=omega)only[↓wr,seval,wq]
 exact λa F=>KQ (dF.Ky (sz:=1) (f:=λx:Int=>.int .i64 x) (F▸o))
def lA (H H':View):Prop:=∀id,H id≠.dead->H' id=H id
theorem lA.refl (H:View):lA H H:=λ_ _=>rfl
theorem lA.set {H H':View} {n:Nat} {o:cr} (h:lA H H') (b:H n=.dead):lA H (H'.set n o):=λid a=>by
 have:id≠n:=by rintro rfl;exact a b
 simp[View.set,this,h id a]
def mB:SC:=
 ai [ag [aS 21 .lss 20 19],bQ 21 (.exit 0),.block 1 (ai [ag [af 22 20,af 7 22],ag [aU 24 5 2,af 25 5,af 26 6,af 27 7,aV 28 80 [24,25,26,27],af 23 28,du 29 0 23,du 30 1 23,af 8 29,af 9 30],ag [af 31 9],aX 31 (ag [af 32 4,af 33 8,((some 34),.op (.bO 1 1 [(.emp 1)] [(0,(.tmp 33))])),fP 35 1 24 32 34,af 4 35])]),ag [aH 36 .add 20 1,af 20 36]]
def nU:SF:=⟨ai [ag [cg 2 0,cg 3 1,bU 4 1],ag [aw 12 2 3,au 13 12,aw 14 1 3,au 15 14,af 5 13,af 6 15],ai [ag [aw 16 0 2,aw 17 0 16,au 18 17,aM 19 18,aT 20 0],bS 0 mB],ai [ag [af 37 6,af 38 5,aM 39 38,aS 40 .lss 37 39],aX 40 (ai [ag [af 41 5,aV 42 140 [41],af 43 6,af 44 6,aH 45 .add 44 1,aV 46 144 [42,43,45],af 10 46],ag [aU 47 5 2,af 48 10,aV 49 141 [47,48]],aX 49 (ag [af 50 4,af 51 10,((some 52),.op (.bO 1 1 [(.emp 1)] [(0,(.tmp 51))])),fP 53 1 24 50 52,af 4 53])])],ai [ag [af 54 5,af 55 6,((some 56),.op (.slice 1 (.tmp 54) none (some (.tmp 55)))),aV 57 140 [56],af 11 57],.region false [⟨none,[af 58 6,aH 59 .add 58 1,af 60 5,aM 61 60,aS 62 .lss 59 61,af 63 62]⟩,⟨(some (63,true)),[aU 64 5 2,af 65 11,aV 66 141 [64,65]]⟩,⟨none,[dQ 67 63 66]⟩],aX 67 (ag [af 68 4,af 69 11,((some 70),.op (.bO 1 1 [(.emp 1)] [(0,(.tmp 69))])),fP 71 1 24 68 70,af 4 71])],ag [af 72 4,af 4 72],.ret],
 [.tmp 4],73⟩
theorem uA:aJ aa 83 [2,3]=some nU:=by kernel_rfl
def xV (H:View) (v:V) (l:List Int):Prop:=v=encI l∨aQ H v 1 (aR l)
def gz (H:View) (u:V) (out:List (List Int)):Prop:=∃S:List (V × List Int),S.map (·.2)=out/\aQ H u 1 (S.map λx=>[x.1])/\∀x∈S,xV H x.1 x.2/\∀id,owner x.1=some id->owner u≠some id
theorem xV.keep {H H':View} {v:V} {l:List Int} (h:xV H v l) (hk:∀id,H id≠.dead->owner v=some id->H' id=H id):xV H' v l:=by
 rcases h with h | h
 .exact .inl h
 .exact .inr (h.keep λid a=>hk id (by rw[(h.live a).1];simp) a)
theorem xV.live {H:View} {v:V} {l:List Int} (h:xV H v l) {id:Nat} (a:owner v=some id):H id≠.dead:=by
 rcases h with rfl | h
 .simp[owner,encI] at a
 .rw[(h.live a).1];simp
theorem xV.ok {H:View} {v:V} {l:List Int} (h:xV H v l):aL v=true:=by
 rcases h with rfl | h
 .rfl
 .exact h.dU
theorem gz.nil {H:View} : gz H (.emp 1) []:=⟨[],rfl,.nil,by simp⟩
theorem gz.stay {H H':View} {u:V} {out:List (List Int)} (h:gz H u out) (b:lA H H'):gz H' u out:=by
 obtain⟨S,h1,c,d⟩:=h
 exact⟨S,h1,c.keep λid a=>b id (by rw[(c.live a).1];simp),λx e=>⟨(d x e).1.keep λid f _=>b id f,(d x e).2⟩⟩
theorem gz.app {H:View} {u v:V} {out:List (List Int)} {w:List Int} {K:V->View->Prop} {z:c9 (H,K)} (h:gz H u out) (e:xV H v w) (d:∀id,owner v=some id->owner u≠some id) (k:out.length<=100000)
  (hk:∀u' H',gz H' u' (out++[w])->K u' H'):mO 1 24 u [[v]] H K z:=by
 obtain⟨S,h1,g,i⟩:=h
 have l:S.length=out.length:=by rw[<-h1];simp
 refine kY g (by simp) (by simp[e.ok]) (by unfold aF;simp;omega) (by unfold aF;simp;omega) λu' H' j f=>hk u' H' ⟨S++[(v,w)],by simp[h1],by simpa using j,λx c=>?_⟩
 have a:xV H x.1 x.2/\∀id,owner x.1=some id->owner u≠some id:=by
  rcases aa0.1 c with c | c
  .exact i x c
  .simp at c;subst c;exact⟨e,d⟩
 exact⟨a.1.keep λid d b=>(f id d (a.2 id b)).1,λid b=>(f id (a.1.live b) (a.2 id b)).2⟩
theorem gz.fr {h:Heap} {u:V} {out:List (List Int)} (c:gz h.view u out):Fr h u (EV out):=by
 obtain⟨S,h1,d,f⟩:=c
 subst h1
 rcases d with ⟨e,k,rfl⟩ | ⟨n,rfl,g⟩
 .have:S=[]:=List.map_eq_nil_iff.1 e
  subst this
  exact .emp k
 .refine .sl n 0 _ 1 1 _ _ g (by simp) (by simp) (λi hi=>?_) (λi j hi b=>?_)
  .simp only[aaM] at hi
   simp[hi]
  .simp only[aaM] at hi
   have a:j=0:=by
    simp[hi] at b
    exact b
   subst a
   have l:=(f S[i] (aaP _)).1
   simp only[aaG,abx,aaJ,aaH hi,aaU,aaZ,abb]
   rcases l with e | e
   .rw[e];exact .tree _ (bC _)
   .exact cq.xE e h rfl
theorem lA.fresh {H H1:View} {u:V} (h:ct H H1 u):lA H H1:=λid a=>(h id a).1
theorem lA.left {H H1 d:View} {u r:V} (h1:ct H H1 u) (e:Left H1 d u r):lA H d:=λid c=>by
 obtain⟨a,b⟩:=h1 id c
 exact((e id (by rw[a];exact c) b).1).trans a
theorem gz.off {H H1:View} {u v:V} {out:List (List Int)} (h:gz H u out) (h1:ct H H1 v):∀id,owner v=some id->owner u≠some id:=λid a hu=>by
 obtain⟨S,_,b,_⟩:=h
 exact(h1 id (by rw[(b.live hu).1];simp)).2 a
theorem gz.aae {H H1 e:View} {u v r:V} {out:List (List Int)} (h:gz H u out) (h1:ct H H1 v) (f:Left H1 e v r):∀id,owner r=some id->owner u≠some id:=λid c hu=>by
 obtain⟨S,_,g,_⟩:=h
 have d:H id≠.dead:=by rw[(g.live hu).1];simp
 obtain⟨a,b⟩:=h1 id d
 exact(f id (by rw[a];exact d) b).2 c
theorem MJ (hI:CQ) (hD:Pn) (g:aj) (hg:g.Ok) (hs:g.Small) (hT:g.ax.length<=1000) (m:Int) (b:ij) (b1:b.word.length<=100) (b2:0<=b.len/\b.len<=b.word.length) (b3:∀x∈b.word,bp x) (ab:bp b.state)
  (h0:∀x:List Int,(∀y∈x,y∈b.word∨(0<=y/\y<g.ax.length))->(x.length:Int)<=m->(k5 g x).2=0):
  aC aa 83 [.agg (jq g m),.agg (jA b)] (EV (lB g b m)):=by
 refine aC.of (by
  intro v N;simp at N
  rcases N with rfl | rfl
  .exact iA g m
  .exact bW _ λv N=>by
    simp[jA] at N
    rcases N with rfl | rfl | rfl
    .exact .val _
    .exact .val _
    .exact bC _) ?_
 obtain⟨p,hp⟩:∃p:Nat,b.len=p:=⟨b.len.toNat,by omega⟩
 have w:=λ(t:Nat) (ht:t<g.ax.length)=>VP hI g hg hs m b.word b1 b3 p (by omega) t (by unfold bp;omega) (λx W hl=>h0 x (λy E=>(W y E).imp id λe=>by omega) hl)
 have z:=λ(x:List Int) (W:∀y∈x,y∈b.word) (hl:x.length<=100)=>NZ g hg hs x (by unfold aI;omega) (λy E=>b3 y (W y E)) m (h0 x λy E=>.inl (W y E))
 have O:=λt=>BY g b m t
 have P:=Lv g b m
 unfold lB
 rw[show b.len.toNat=p by omega] at *
 have a:cE (encI b.word)=some b.word.length:=by simp[cE,encI]
 have I:c8 1 (encI b.word) none (some (gi p))=some (encI (b.word.take p),.none,[]):=F1 (l:=b.word) (k:=p) (by omega)
 refine az.of mixed uA ?_
 have Q:aL (encI b.word)=true:=rfl
 simp(disch:=omega)only[↓wr,seval,wq,nU,jq,encS,jA,Q]
 refine aW.up g.ax.length (λt T H'=>∃u,gz H' u (qB g b m t)/\T 2=.aP (jq g m) 0/\T 4=u/\T 5=encI b.word/\T 6=gi p/\T 19=gi g.ax.length/\T 20=gi t) ⟨.emp 1,by simpa [qB] using gz.nil,rfl,rfl,rfl,by show gi b.len=_;rw[hp],rfl,rfl⟩ ?_
 rintro t kt T H1 R ⟨u,o,t2,t4,t5,t6,t19,t20⟩
 simp(disch:=omega)only[↓wr,seval,wq,mB,t19,t20,jq,encS]
 have X:=P t
 apply ao.dec<;>intro hc
 .have h3:=w t (by omega)
  have F:=O t
  generalize jz g b.word p t m=x at *
  simp only[jq,encS] at h3
  simp(disch:=omega)only[↓wr,seval,wq,t2,t5,t6,t20,jq,encS]
  refine ay.pure h3 ?_
  simp(disch:=omega)only[↓wr,seval,wq,Yq]
  apply ao.split<;>intro J
  .rw[aaL J] at F
   simp(disch:=omega)only[↓wr,seval,wq,t4]
   intro q s
   simp(disch:=omega)only[↓wr,seval,wq,bE]
   refine gz.app (o.stay ((lA.refl _).set s)) (.inl rfl) (λid Y=>by simp[owner,encI] at Y) (by omega) ?_
   intro u3 H3 S
   simp(disch:=omega)only[↓wr,seval,wq,t5,t20]
   exact aE R (by omega) ⟨u3,by rw[F];exact S,t2,rfl,t5,t6,t19,rfl⟩
  .rw[aaI (by rw[J];simp),abo] at F
   simp(disch:=omega)only[↓wr,seval,wq,t4,t5,t20]
   exact aE R (by omega) ⟨u,by rw[F];exact o,t2,t4,t5,t6,t19,rfl⟩
 obtain rfl:t=g.ax.length:=by omega
 have A:=z (fQ b.word p 1 []) (λy E=>(yo E).elim id (λh=>by simp at h)) (by unfold fQ;simp;omega)
 have f:=z (b.word.take p) (λy E=>aci E) (by simp;omega)
 clear z w O P
 generalize qB g b m g.ax.length=D at o X ⊢
 simp only[jq,encS] at A f
 simp(disch:=omega)only[↓wr,seval,wq,t4,t5,t6,a]
 apply ao.dec<;>intro d1
 .simp(disch:=omega)only[↓wr,seval,wq,t5,t6]
  refine ay.cw ((tw b.word (by omega) (encI b.word) _ (.inl rfl)).mono ?_)
  rintro v H2 ⟨ov,fv⟩
  have Z:=ov.dU
  simp(disch:=omega)only[↓wr,seval,wq,t5,t6]
  refine ay.cw ((hD _ v b.word p ov (by omega) (by omega)).mono ?_)
  rintro r H3 ⟨or,lr⟩
  have K:=or.dU
  have L:=or.cells
  have U:=o.aae fv lr
  have S:=o.stay (lA.left fv lr)
  simp(disch:=omega)only[↓wr,seval,wq,t2,t5,t6,jq,encS]
  refine ay.rY A (by kernel_rfl) (.val _) ⟨.tree (iA g m),.xE or,trivial⟩ ?_
  simp(disch:=omega)only[↓wr,seval,wq]
  apply ao.split<;>intro M
  .simp(disch:=omega)only[↓wr,seval,wq,t4,t5,t6,K,L]
   intro q s
   simp(disch:=omega)only[↓wr,seval,wq,bE]
   refine gz.app (S.stay ((lA.refl _).set s)) (.inr (or.fresh s)) U (by omega) ?_
   intro u4 H4 o4
   simp(disch:=omega)only[↓wr,seval,wq,t5,t6,I]
   refine ay.cw ((tw (b.word.take p) (by simp;omega) (encI (b.word.take p)) _ (.inl rfl)).mono ?_)
   rintro y H5 ⟨n,G⟩
   have c:=n.dU
   have d:=n.cells
   have i:=o4.off G
   have B:=o4.stay (lA.fresh G)
   simp(disch:=omega)only[↓wr,seval,wq,t5,t6,a]
   apply ao.dec<;>intro d2
   .simp(disch:=omega)only[↓wr,seval,wq,t2,t5,t6,jq,encS]
    refine ay.rY f (by kernel_rfl) (.val _) ⟨.tree (iA g m),.xE n,trivial⟩ ?_
    simp(disch:=omega)only[↓wr,seval,wq]
    apply ao.split<;>intro C
    .simp(disch:=omega)only[↓wr,seval,wq,t5,t6,c,d]
     intro q s
     simp(disch:=omega)only[↓wr,seval,wq,bE]
     refine gz.app (B.stay ((lA.refl _).set s)) (.inr (n.fresh s)) i (by first | omega | (simp;omega)) ?_
     intro u6 H6 V
     simp(disch:=omega)only[↓wr,seval,wq]
     intro H j
     rw[aaL (⟨by omega,M⟩:b.len<b.word.length/\_),aaL (⟨by omega,C⟩:b.len+1<b.word.length/\_)]
     exact gz.fr (j▸V)
    .simp(disch:=omega)only[↓wr,seval,wq]
     intro H j
     rw[aaL (⟨by omega,M⟩:b.len<b.word.length/\_),aaI (λh=>by rw[C] at h;simp at h),abo]
     exact gz.fr (j▸B)
   .simp(disch:=omega)only[↓wr,seval,wq]
    intro H j
    rw[aaL (⟨by omega,M⟩:b.len<b.word.length/\_),aaI (λh=>by omega),abo]
    exact gz.fr (j▸B)
  .simp(disch:=omega)only[↓wr,seval,wq,t5,t6,I]
   refine ay.cw ((tw (b.word.take p) (by simp;omega) (encI (b.word.take p)) _ (.inl rfl)).mono ?_)
   rintro y H5 ⟨n,G⟩
   have c:=n.dU
   have d:=n.cells
   have i:=S.off G
   have B:=S.stay (lA.fresh G)
   simp(disch:=omega)only[↓wr,seval,wq,t5,t6,a]
   apply ao.dec<;>intro d2
   .simp(disch:=omega)only[↓wr,seval,wq,t2,t5,t6,jq,encS]
    refine ay.rY f (by kernel_rfl) (.val _) ⟨.tree (iA g m),.xE n,trivial⟩ ?_
    simp(disch:=omega)only[↓wr,seval,wq]
    apply ao.split<;>intro C
    .simp(disch:=omega)only[↓wr,seval,wq,t4,t5,t6,c,d]
     intro q s
     simp(disch:=omega)only[↓wr,seval,wq,bE]
     refine gz.app (B.stay ((lA.refl _).set s)) (.inr (n.fresh s)) i (by first | omega | (simp;omega)) ?_
     intro u6 H6 V
     simp(disch:=omega)only[↓wr,seval,wq]
     intro H j
     rw[aaI (λh=>by rw[M] at h;simp at h),abo,aaL (⟨by omega,C⟩:b.len+1<b.word.length/\_)]
     exact gz.fr (j▸V)
    .simp(disch:=omega)only[↓wr,seval,wq,t4]
     intro H j
     rw[aaI (λh=>by rw[M] at h;simp at h),abo,aaI (λh=>by rw[C] at h;simp at h),abo]
     exact gz.fr (j▸B)
   .simp(disch:=omega)only[↓wr,seval,wq,t4]
    intro H j
    rw[aaI (λh=>by rw[M] at h;simp at h),abo,aaI (λh=>by omega),abo]
    exact gz.fr (j▸B)
 .simp(disch:=omega)only[↓wr,seval,wq,t5,t6,I]
  refine ay.cw ((tw (b.word.take p) (by simp;omega) (encI (b.word.take p)) _ (.inl rfl)).mono ?_)
  rintro y H5 ⟨n,G⟩
  have c:=n.dU
  have d:=n.cells
  have i:=o.off G
  have B:=o.stay (lA.fresh G)
  simp(disch:=omega)only[↓wr,seval,wq,t5,t6,a]
  apply ao.dec<;>intro d2
  .simp(disch:=omega)only[↓wr,seval,wq,t2,t5,t6,jq,encS]
   refine ay.rY f (by kernel_rfl) (.val _) ⟨.tree (iA g m),.xE n,trivial⟩ ?_
   simp(disch:=omega)only[↓wr,seval,wq]
   apply ao.split<;>intro C
   .simp(disch:=omega)only[↓wr,seval,wq,t4,t5,t6,c,d]
    intro q s
    simp(disch:=omega)only[↓wr,seval,wq,bE]
    refine gz.app (B.stay ((lA.refl _).set s)) (.inr (n.fresh s)) i (by first | omega | (simp;omega)) ?_
    intro u6 H6 V
    simp(disch:=omega)only[↓wr,seval,wq]
    intro H j
    rw[aaI (λh=>by omega),abo,aaL (⟨by omega,C⟩:b.len+1<b.word.length/\_)]
    exact gz.fr (j▸V)
   .simp(disch:=omega)only[↓wr,seval,wq,t4]
    intro H j
    rw[aaI (λh=>by omega),abo,aaI (λh=>by rw[C] at h;simp at h),abo]
    exact gz.fr (j▸B)
  .simp(disch:=omega)only[↓wr,seval,wq,t4]
   intro H j
   rw[aaI (λh=>by omega),abo,aaI (λh=>by omega),abo]
   exact gz.fr (j▸B)
def wJ:SC:=
 ai [ag [aS 42 .lss 41 40],bQ 42 (.exit 2),.block 3 (ai [ag [aK 43 1 39 41,au 44 43,af 12 44],ag [af 45 8,aw 46 0 10,au 47 46,af 48 12,((some 49),.op (.build [(.val (.int .i64 0)),(.val (.int .i64 0)),(.emp 1)] [(0,1,(.val (.val (.int .i64 2)))),(1,1,(.tmp 47)),(2,1,(.tmp 48))])),((some 50),.op (.bO 1 3 [(.val (.int .i64 0)),(.val (.int .i64 0)),(.emp 1)] [(0,(.tmp 49))])),fP 51 3 40 45 50,af 8 51]]),ag [aH 52 .add 41 1,af 41 52]]
def xi:SC:=
 ai [ag [aS 32 .lss 31 30],bQ 32 (.exit 0),.block 1 (ai [ag [aK 33 3 29 31,aU 34 3 33,((some 10),.op (.alloc [(.val (.int .i64 0)),(.val (.int .i64 0)),(.emp 1)])),cz 3 10 34],ai [ag [aU 35 4 2,af 36 1,((some 37),.op (.build [(.emp 1),(.emp 1),(.emp 1),(.val (.int .i64 0)),(.val (.int .i64 0))] [(0,4,(.tmp 35)),(4,1,(.tmp 36))])),aU 38 3 10,aV 39 83 [37,38],aM 40 39,aT 41 0],bS 2 wJ],ag [af 53 8,aM 54 53,aH 55 .gtr 54 2000],aX 55 (ai [ag [bU 4 1,aT 5 13],.ret])]),ag [aH 56 .add 31 1,af 31 56]]
def Ap:SF:=⟨ai [ag [cg 2 0,bU 4 1,aT 5 0],ai [.region false [⟨none,[aU 13 4 2,aV 14 82 [13],cX 15 14,af 16 15]⟩,⟨(some (16,false)),[af 17 1,aV 18 79 [17],cX 19 18]⟩,⟨none,[cG 20 16 19]⟩],aX 20 (ai [ag [bU 4 1,aT 5 1],.ret])],ag [aU 22 4 2,aV 23 28 [22],af 21 23,du 24 0 21,du 25 1 21,af 6 24,af 7 25],ai [ag [af 26 7,aH 27 .neq 26 0],aX 27 (ai [ag [af 28 7,bU 4 1,af 5 28],.ret])],ag [bU 8 1],ai [ag [af 29 6,aM 30 29,aT 31 0],bS 0 xi],ag [af 57 8,af 4 57,aT 5 0],.ret],
 [.tmp 4,.tmp 5],58⟩
theorem DH:aJ aa 41 [2]=some Ap:=by kernel_rfl
theorem VN (W:CQ) (X:Pn) (g:aj) (G:g.Ok) (H:g.Small) (m:Int) (S:∀b∈(cZ g).1,b.word.length<=100/\(0<=b.len/\b.len<=b.word.length)/\(∀x∈b.word,bp x)/\bp b.state) (Y:(cZ g).1.length<=1000) (Z:g.ax.length<=1000)
  (B:m<=60->∀b∈(cZ g).1,∀x:List Int,(∀y∈x,y∈b.word∨(0<=y/\y<g.ax.length))->(x.length:Int)<=m->(k5 g x).2=0):
  aC aa 41 [.agg (ak g),gi m] (Cu (iJ g m)):=by
 refine aC.of (by
  intro v D;simp at D
  rcases D with rfl | rfl
  .exact dR g _ (by simp)
  .exact .val _) ?_
 have h1:=Tp g G H
 have I:=Tz g G H
 have U:=Nq m
 have bad:¬ (isRed g=true/\0<=m/\m<=60)->∀h:Heap,Fr h (.bb [.emp 1,gi 1]) (Cu (iJ g m)):=λJ h=>by
  unfold iJ
  rw[aaI J]
  exact EM (.emp 1)
 refine az.of mixed DH ?_
 simp only[ak,encS] at h1 I
 simp(disch:=omega)only[↓wr,seval,wq,Ap,ak,encS]
 refine ay.pure h1 ?_
 simp(disch:=omega)only[↓wr,seval,wq]
 apply ao.split<;>intro hi
 rotate_left
 .simp(disch:=omega)only[↓wr,seval,wq]
  exact λn _=>bad (λh=>by rw[hi] at h;simp at h) n
 simp(disch:=omega)only[↓wr,seval,wq]
 refine ay.pure U ?_
 simp(disch:=omega)only[↓wr,seval,wq]
 apply ao.split<;>intro hm
 rotate_left
 .simp(disch:=omega)only[↓wr,seval,wq]
  exact λn _=>bad (λh=>by
   rw[abj h.2.1,abj h.2.2] at hm
   simp at hm) n
 rw[aaR,aaX,aaX] at hm
 simp(disch:=omega)only[↓wr,seval,wq]
 refine ay.pure I ?_
 have r:iJ g m=if (cZ g).2≠0 then ([],(cZ g).2) else if 2000<((cZ g).1.flatMap (gI g m)).length then ([],13) else ((cZ g).1.flatMap (gI g m),0):=by
  unfold iJ
  rw[aaL ⟨hi,hm⟩]
 rw[r]
 have B:=B hm.2
 clear bad r h1 I U
 generalize cZ g=x at *
 obtain⟨l,e⟩:=x
 simp only at S Y B
 simp(disch:=omega)only[↓wr,seval,wq,CS]
 apply ao.ne<;>intro he
 .rw[aaL he]
  simp(disch:=omega)only[↓wr,seval,wq]
  exact λn _=>EM (.emp 1)
 rw[aaI (λh=>h he)]
 simp(disch:=omega)only[↓wr,seval,wq]
 refine aW.up l.length (λi T H'=>∃u,aQ H' u 3 (((l.take i).flatMap (gI g m)).map r8)/\((l.take i).flatMap (gI g m)).length<=2000/\T 1=gi m/\T 2=.aP (ak g) 0/\T 8=u/\T 29=.aZ (l.map jA)/\T 30=gi l.length/\T 31=gi i) ⟨.emp 1,.nil,by simp,rfl,rfl,rfl,rfl,rfl,rfl⟩ ?_
 rintro i k T H1 hk ⟨u,a,K,t1,t2,t8,t29,t30,t31⟩
 simp(disch:=omega)only[↓wr,seval,wq,xi,t30,t31]
 apply ao.dec<;>intro J
 rotate_left
 .obtain rfl:i=l.length:=by omega
  rw[aca] at *
  rw[aaI (by omega)]
  simp(disch:=omega)only[↓wr,seval,wq,t8]
  exact λn hh=>EM (cq.own a (λe he v D=>by
   obtain⟨c,_,rfl⟩:=aa4.1 he
   exact Sd c v D) n hh)
 have E:l[i]?=some (l[i]'(by omega)):=aaH (by omega)
 have d:=aaV E
 have o:(l.take (i+1)).flatMap (gI g m)=(l.take i).flatMap (gI g m)++gI g m (l[i]'(by omega)):=by
  rw[aa2,E,List.flatMap_append];simp
 have V:((l.take (i+1)).flatMap (gI g m)).length<=(l.flatMap (gI g m)).length:=by
  have:=abQ List.length (abQ (List.flatMap (gI g m)) (acJ (i+1) l))
  rw[List.flatMap_append,aa5] at this
  omega
 generalize l[i]'(by omega)=b at E d o
 obtain⟨b1,b2,b3,b5⟩:=S b d
 have p:=MJ W X g G H Z m b b1 b2 b3 b5 (B b d)
 have s:gI g m b=WJ b.state (lB g b m):=rfl
 have L:=Vd g b m
 generalize lB g b m=M at p s L
 generalize (l.take i).flatMap (gI g m)=C at a K o
 have N:aL (encI b.word)=true:=rfl
 simp only[jq,encS,jA] at p
 simp(disch:=omega)only[↓wr,seval,wq,t1,t2,t29,t31,aaJ,E,jA,ak,encS,N]
 intro y O
 refine ay.pure p ?_
 have f:owner u≠some y:=a.ne O
 simp(disch:=omega)only[↓wr,seval,wq,EV]
 refine aW.up M.length (λj T H'=>∃u,aQ H' u 3 ((C++WJ b.state (M.take j)).map r8)/\H' y=.arr 3 [jA b]/\owner u≠some y/\T 1=gi m/\T 2=.aP (ak g) 0/\T 8=u/\T 10=.ptr y 0 0/\T 29=.aZ (l.map jA)/\T 30=gi l.length/\T 31=gi i/\T 39=EV M/\T 40=gi M.length/\T 41=gi j)
  ⟨u,by simpa using (a.fresh O).other f,(by simp[View.set];rfl),f,t1,t2,t8,rfl,t29,t30,t31,rfl,rfl,rfl⟩ ?_
 clear a f O t1 t2 t8 t29 t30 t31
 rintro j kj T H2 P ⟨u,a,F,f,t1,t2,t8,t10,t29,t30,t31,t39,t40,t41⟩
 simp(disch:=omega)only[↓wr,seval,wq,wJ,t40,t41]
 apply ao.dec<;>intro Q
 .have hw:M[j]?=some (M[j]'(by omega)):=aaH (by omega)
  have t:M.take (j+1)=M.take j++[M[j]'(by omega)]:=by rw[aa2,hw];rfl
  generalize M[j]'(by omega)=w at hw t
  simp(disch:=omega)only[↓wr,seval,wq,t8,t10,t39,t41,EV,aaJ,hw,F,jA,encI]
  intro q R
  have z:q≠y:=by rintro rfl;rw[F] at R;simp at R
  simp(disch:=omega)only[↓wr,seval,wq,bE]
  refine kY (a.fresh R) (by simp) (by simp[aL]) (by unfold aF;simp;omega) (by unfold aF;simp;omega) λu' H' h4 h5=>?_
  simp(disch:=omega)only[↓wr,seval,wq,t31,t41]
  have A:=h5 y (by simp[View.set,Ne.symm z,F]) f
  refine aE P (by omega) ⟨u',?_,(by rw[A.1];simp[View.set,Ne.symm z,F];rfl),A.2,t1,t2,rfl,t10,t29,t30,t31,t39,t40,rfl⟩
  rw[t,Zz]
  exact h4
 obtain rfl:j=M.length:=by omega
 rw[aca] at a
 rw[<-s,<-o] at a
 have hlen:=a.len
 rw[aaM] at hlen
 simp(disch:=omega)only[↓wr,seval,wq,t8,t31,hlen]
 apply ao.dec<;>intro hb
 .rw[aaL (by omega)]
  simp(disch:=omega)only[↓wr,seval,wq]
  exact λn _=>EM (.emp 1)
 .simp(disch:=omega)only[↓wr,seval,wq,t8,t31]
  exact aE hk (by omega) ⟨u,a,by omega,t1,t2,t8,t29,t30,rfl⟩
open Go Go.Lib
theorem DM {P:Program} (w:World) (z F e:TypeId) (A:P.underlying z=some (.slice e)) (size:Nat) (B:∀w,(Go.sizeOf e).run P w=.ok size w) (q:size≠0)
  (a b:Addr) (C G:Nat) (r:C≠0) (g:a.block≠b.block) (H I:TypeId) (m n:Nat)
  (h:w.shape? a.block=some (H,m)) (i:w.shape? b.block=some (I,n)) (D:m≠0) (s:n≠0)
  (j:w.frozen? a=false) (t:w.frozen? b=false):
  ∃o E,(E=w∨E=w.drew)/\∀p u,p≠0->(Extern.SlicesOverlaps.overlaps #[z,z] #[F] #[.slice (some a) C G,.slice (some b) p u]).run P w=.ok (.bool o) E:=by
 cases k:w.frozen? { block:=a.block,off:=m } with
 | false=>exact⟨false,w,.inl rfl,λp u _=>run_overlaps_apart w z F e A size B a b C G p u g H I m n h i s j k⟩
 | true =>
  have v:(a.block != b.block)=true:=by simpa using g
  have c:(a.block==b.block)=false:=by simpa using g
  have y:∀(x:TypeDesc) (f:TypeDesc->Sem Value),Sem.bind (pure x) f=f x:=λ_ _=>rfl
  cases n with
  | zero=>exact absurd rfl s
  | succ n =>
   cases m with
   | zero=>exact absurd rfl D
   | succ m =>
    cases d:w.frozen? { block:=b.block,off:=n+1 } with
    | false =>
     refine⟨false,w,.inl rfl,λp u l=>?_⟩
     conv=>lhs;arg 2;whnf
     simp[Sem.bind,y,A,B,r,l,q,v,c,frozen,noView,viewAt,mayBeOne,stringish,shape,Sem.run,h,i,j,t,k,d]
    | true =>
     exact⟨_,w.drew,.inr rfl,λp u l=>by
      conv=>lhs;arg 2;whnf
      simp[Sem.bind,y,A,B,r,l,q,v,c,frozen,noView,viewAt,mayBeOne,stringish,shape,choose,Sem.run,h,i,j,t,k,d]
      rfl⟩
end
end Gv
