/-
  Part 18 of the proof: what the machine does and what the functions answer.
  Conditions: those that each lemma names.
-/
import Derived.Shelf.Spec.SlicesInsertGrow
import Derived.Test.YtiophifnkakjgaaGreatSGzC4Q
set_option linter.unusedSimpArgs false
set_option linter.unusedVariables false
set_option maxRecDepth 100000
set_option maxHeartbeats 20000000
namespace Gv
noncomputable section
open Go Go.Proofs
def p9:SC:=
 ai [ai [ag [af 50 12,aw 51 0 2,au 52 51,aM 53 52,aS 54 .lss 50 53],bO 54 (.exit 2)],.block 3 (ai [ag [aV 58 4 2,af 59 10,af 60 11,af 61 12,af 62 1,aU 63 81 [58,59,60,61,62],af 57 63,c7 64 0 57,c7 65 1 57,af 13 64,af 14 65],ag [af 66 14],aX 66 (ag [af 67 8,af 68 9,af 69 13,((some 70),.op (.build [(.val (.int .i64 0)),(.val (.int .i64 0)),(.emp 1)] [(0,1,(.val (.val (.int .i64 2)))),(1,1,(.tmp 68)),(2,1,(.tmp 69))])),((some 71),.op (.bH 1 3 [(.val (.int .i64 0)),(.val (.int .i64 0)),(.emp 1)] [(0,(.tmp 70))])),eZ 72 3 40 67 71,af 8 72])]),ag [af 55 12,aI 56 .add 55 1,af 12 56]]
def qh:SC:=
 ai [ai [ag [af 34 9,af 35 6,aM 36 35,aS 37 .lss 34 36],bO 37 (.exit 0)],.block 1 (ai [ag [af 40 6,af 41 9,aL 42 3 40 41,aw 43 2 42,au 44 43,af 45 6,af 46 9,aL 47 3 45 46,aw 48 1 47,au 49 48,af 10 44,af 11 49],ai [ag [aT 12 0],bR 2 p9],ai [.region true [⟨none,[af 73 11,af 74 10,aM 75 74,aS 76 .lss 73 75,af 77 76]⟩,⟨(some (77,true)),[aV 78 4 2,af 79 10,af 80 11,lG 81 85 [(.tmp 79),(.tmp 80),(.val (.val (.int .i64 1))),(.val (.emp 1))],af 82 1,aU 83 84 [78,81,82]]⟩,⟨none,[dA 84 77 83]⟩],aX 84 (ag [af 85 8,af 86 9,af 87 10,af 88 11,lG 89 85 [(.tmp 87),(.tmp 88),(.val (.val (.int .i64 1))),(.val (.emp 1))],((some 90),.op (.build [(.val (.int .i64 0)),(.val (.int .i64 0)),(.emp 1)] [(0,1,(.val (.val (.int .i64 2)))),(1,1,(.tmp 86)),(2,1,(.tmp 89))])),((some 91),.op (.bH 1 3 [(.val (.int .i64 0)),(.val (.int .i64 0)),(.emp 1)] [(0,(.tmp 90))])),eZ 92 3 40 85 91,af 8 92])],.region false [⟨none,[af 93 11,aI 94 .add 93 1,af 95 10,aM 96 95,aS 97 .lss 94 96,af 98 97]⟩,⟨(some (98,true)),[aV 99 4 2,af 100 10,af 101 11,((some 102),.op (.slice 1 (.tmp 100) none (some (.tmp 101)))),af 103 1,aU 104 84 [99,102,103]]⟩,⟨none,[dA 105 98 104]⟩],aX 105 (ag [af 106 8,af 107 9,af 108 10,af 109 11,((some 110),.op (.slice 1 (.tmp 108) none (some (.tmp 109)))),aU 111 37 [110],((some 112),.op (.build [(.val (.int .i64 0)),(.val (.int .i64 0)),(.emp 1)] [(0,1,(.val (.val (.int .i64 2)))),(1,1,(.tmp 107)),(2,1,(.tmp 111))])),((some 113),.op (.bH 1 3 [(.val (.int .i64 0)),(.val (.int .i64 0)),(.emp 1)] [(0,(.tmp 112))])),eZ 114 3 40 106 113,af 8 114])]),ag [af 38 9,aI 39 .add 38 1,af 9 39]]
def th:SF:=⟨ai [ag [bZ 2 0,bL 4 1,aT 5 0],ai [.region false [⟨none,[aV 15 4 2,aU 16 15 [15],cO 17 16,af 18 17]⟩,⟨(some (18,false)),[af 19 1,aI 20 .lss 19 0]⟩,⟨none,[cJ 21 18 20,af 22 21]⟩,⟨(some (22,false)),[af 23 1,aI 24 .gtr 23 60]⟩,⟨none,[cJ 25 22 24]⟩],aX 25 (ai [ag [bL 4 1,aT 5 1],.ret])],ag [aV 27 4 2,aU 28 29 [27],af 26 28,c7 29 0 26,c7 30 1 26,af 6 29,af 7 30],ai [ag [af 31 7,aI 32 .neq 31 0],aX 32 (ai [ag [af 33 7,bL 4 1,af 5 33],.ret])],ag [bL 8 1],ai [ag [aT 9 0],bR 0 qh],ai [ag [af 115 8,aM 116 115,aI 117 .gtr 116 2000],aX 117 (ai [ag [bL 4 1,aT 5 13],.ret])],ag [af 118 8,af 4 118,aT 5 0],.ret],
 [.tmp 4,.tmp 5],119⟩
theorem zh:aJ aa 42 [2]=some th:=by kernel_rfl
def kh (c:Int × List Int):List V:=[gi 2,gi c.1,encI c.2]
def sJ (x:List (Int × List Int) × Int):V:=.bc [.aY (x.1.map kh),gi x.2]
def dt (g:ak) (m:Int) (b:ix):List (Int × List Int):=(ky g b m).map λw=>(b.state,w)
def fZ (g:ak) (m:Int):List (Int × List Int) × Int:=
 if isRed g=true/\0<=m/\m<=60 then (if (cB g).2≠0 then ([],(cB g).2) else if 2000<((cB g).1.flatMap (dt g m)).length then ([],13) else ((cB g).1.flatMap (dt g m),0)) else ([],1)
theorem s0 (c:Int × List Int):∀v∈kh c,Tree v:=by
 intro v a
 simp[kh] at a
 rcases a with rfl | rfl | rfl
 .exact .val _
 .exact .val _
 .exact bg _
theorem Ez (g:ak) (b:ix) (m:Int):∀n,(oS g b m n).length<=n
 | 0=>by simp[oS]
 | n+1=>by
  have:=Ez g b m n
  rw[xj,abv]
  split<;>simp<;>omega
abbrev Dq (s:Int) (l:List (List Int)):List (Int × List Int):=l.map λw=>(s,w)
theorem PK (C:List (Int × List Int)) (s:Int) (l:List (List Int)) (w:List Int):(C++Dq s (l++[w])).map kh=(C++Dq s l).map kh++[[gi 2,gi s,encI w]]:=by simp[kh]
theorem TE (l:List Int) (b:l.length<=100000):bX aa 37 [encI l] (encI l):=
 bX.of (by intro v a;simp at a;subst a;exact bg _) ((UB l b _).mono λr H' h d c=>dF.D3 (sz:=1) (f:=λx:Int=>.int .i64 x) (by rw[c];exact h.1))
theorem Sx (g:ak) (G:g.Ok) (m:Int) (Y:∀b∈(cB g).1,b.word.length<=1000/\(0<=b.len/\b.len<=b.word.length)/\∀x∈b.word,bm x) (Z:∀(i:Nat) b,(cB g).1[i]?=some b->b.state=i) (hL:(cB g).1.length<=1000) (hT:g.ax.length<=1000):
  aC aa 42 [.agg (aj g),gi m] (sJ (fZ g m)):=by
 refine aC.of (by
  intro v M;simp at M
  rcases M with rfl | rfl
  .exact dy g _ (by simp)
  .exact .val _) ?_
 have h1:=K8 g G
 have O:=FX g G
 have bad:¬ (isRed g=true/\0<=m/\m<=60)->∀h:Heap,Fr h (.bc [.emp 1,gi 1]) (sJ (fZ g m)):=λN h=>by
  unfold fZ
  rw[aa9 N]
  exact s7 (.emp 1)
 refine az.of mixed zh ?_
 simp only[aj,encS] at h1 O
 simp(disch:=omega)only[↓wr,seval,wq,th,aj,encS]
 refine ay.pure h1 ?_
 simp(disch:=omega)only[↓wr,seval,wq]
 apply ao.split<;>intro hi
 rotate_left
 .simp(disch:=omega)only[↓wr,seval,wq]
  exact λw _=>bad (λh=>by rw[hi] at h;simp at h) w
 simp(disch:=omega)only[↓wr,seval,wq]
 apply ao.dec<;>intro c1
 .simp(disch:=omega)only[↓wr,seval,wq]
  exact λw _=>bad (λh=>by omega) w
 simp(disch:=omega)only[↓wr,seval,wq]
 apply ao.dec<;>intro c2
 .simp(disch:=omega)only[↓wr,seval,wq]
  exact λw _=>bad (λh=>by omega) w
 simp(disch:=omega)only[↓wr,seval,wq]
 refine ay.pure O ?_
 have H:fZ g m=if (cB g).2≠0 then ([],(cB g).2) else if 2000<((cB g).1.flatMap (dt g m)).length then ([],13) else ((cB g).1.flatMap (dt g m),0):=by
  unfold fZ
  rw[abb ⟨hi,by omega,by omega⟩]
 rw[H]
 clear bad H h1 O
 generalize cB g=x at *
 obtain⟨l,e⟩:=x
 simp only at Y Z hL
 simp(disch:=omega)only[↓wr,seval,wq,zq]
 apply ao.ne<;>intro he
 .rw[abb he]
  simp(disch:=omega)only[↓wr,seval,wq]
  exact λw _=>s7 (.emp 1)
 rw[aa9 (λh=>h he)]
 simp(disch:=omega)only[↓wr,seval,wq]
 refine aW.up l.length (λi T H'=>∃u,aN H' u 3 (((l.take i).flatMap (dt g m)).map kh)/\T 1=gi m/\T 2=.aR (aj g) 0/\T 6=.aY (l.map iw)/\T 8=u/\T 9=gi i) ⟨.emp 1,.nil,rfl,rfl,rfl,rfl,rfl⟩ ?_
 rintro i k T H1 hk ⟨u,d,t1,t2,t6,t8,t9⟩
 have hlen:=d.len
 rw[abc] at hlen
 have hbound:∀n,((l.take n).flatMap (dt g m)).length<=n*1002:=λn=>by
  induction n with
  | zero=>simp
  | succ n ih =>
   rw[abr,List.flatMap_append,abv]
   cases hn:l[n]? with
   | none=>simp only[Option.toList_none,List.flatMap_nil,abG];omega
   | some b =>
    have:=D6 g b m
    have N:(dt g m b).length=(ky g b m).length:=by unfold dt;simp
    simp only[Option.toList_some,List.flatMap_cons,List.flatMap_nil,abV]
    omega
 have P:=hbound i
 simp(disch:=omega)only[↓wr,seval,wq,qh,t6,t9]
 apply ao.dec<;>intro N
 rotate_left
 .obtain rfl:i=l.length:=by omega
  rw[acu] at *
  simp(disch:=omega)only[↓wr,seval,wq,t8,hlen]
  apply ao.dec<;>intro hb
  .rw[abb (by omega)]
   simp(disch:=omega)only[↓wr,seval,wq]
   exact λw _=>s7 (.emp 1)
  .rw[aa9 (by omega)]
   simp(disch:=omega)only[↓wr,seval,wq,t8]
   exact λw hh=>s7 (cm.own d (λe he v M=>by
    obtain⟨c,_,rfl⟩:=abt.1 he
    exact s0 c v M) w hh)
 have y:l[i]?=some (l[i]'(by omega)):=aa8 (by omega)
 have z:=abi y
 have j:(l.take (i+1)).flatMap (dt g m)=(l.take i).flatMap (dt g m)++dt g m (l[i]'(by omega)):=by
  rw[abr,y,List.flatMap_append];simp
 generalize l[i]'(by omega)=b at y z j
 obtain⟨b1,b2,Q⟩:=Y b z
 have b4:=Z i b y
 generalize (l.take i).flatMap (dt g m)=C at d hlen P j
 have ab:=D6 g b m
 obtain⟨p,hp⟩:∃p:Nat,b.len=p:=⟨b.len.toNat,by omega⟩
 simp(disch:=omega)only[↓wr,seval,wq,t6,t9,aba,y,iw]
 refine aW.up g.ax.length (λt T H'=>∃u,aN H' u 3 ((C++Dq i (oS g b m t)).map kh)/\T 1=gi m/\T 2=.aR (aj g) 0/\T 6=.aY (l.map iw)/\T 8=u/\T 9=gi i/\T 10=encI b.word/\T 11=gi p/\T 12=gi t)
  ⟨u,by simpa [oS] using d,t1,t2,t6,t8,t9,rfl,by show gi b.len=_;rw[hp],rfl⟩ ?_
 clear d hlen t1 t2 t6 t8 t9
 rintro t kt T H2 I ⟨u,d,t1,t2,t6,t8,t9,t10,t11,t12⟩
 have R:=Ez g b m t
 simp(disch:=omega)only[↓wr,seval,wq,p9,t2,t12,aj,encS]
 apply ao.dec<;>intro S
 .have h3:=Nr g G b.word b1 Q p (by omega) t (by unfold bm;omega) m
  have o:=xj g b m t
  rw[show b.len.toNat=p by omega] at o
  generalize im g b.word p t m=x at *
  simp only[aj,encS] at h3
  simp(disch:=omega)only[↓wr,seval,wq,t1,t2,t10,t11,t12,aj,encS]
  refine ay.pure h3 ?_
  simp(disch:=omega)only[↓wr,seval,wq,L5]
  apply ao.split<;>intro B
  .rw[abb B] at o
   simp(disch:=omega)only[↓wr,seval,wq,t8,t9,encI]
   intro q J
   rw[bD]
   simp(disch:=omega)only[↓wr,seval,wq]
   refine dw (d.fresh J) (by simp[aK]) (by unfold aE;simp;omega) (by unfold aE;simp;omega) ?_
   rintro U H3 E -
   simp(disch:=omega)only[↓wr,seval,wq,t9,t10,t12]
   refine aF I (by omega) ⟨U,?_,t1,t2,t6,rfl,t9,t10,t11,rfl⟩
   rw[o,PK]
   exact E
  .rw[aa9 (by rw[B];simp),abV] at o
   simp(disch:=omega)only[↓wr,seval,wq,t8,t9,t10,t12]
   exact aF I (by omega) ⟨u,by rw[o];exact d,t1,t2,t6,t8,t9,t10,t11,rfl⟩
 obtain rfl:t=g.ax.length:=by omega
 have a:cE (encI b.word)=some b.word.length:=by simp[cE,encI]
 have K:c6 1 (encI b.word) none (some (gi p))=some (encI (b.word.take p),.none,[]):=uU (l:=b.word) (k:=p) (by omega)
 have A:=λ(h:p+1<=b.word.length)=>Lm b.word (by omega) p 1 h [] (by simp)
 have r:=Ea g G (dE b.word p 1 []) (by unfold aG dE;simp;omega) (λx y=>(vg y).elim (Q x) (λh=>by simp at h)) m
 have s:=Ea g G (b.word.take p) (by unfold aG;simp;omega) (λx y=>Q x (acA y)) m
 have F:=(TE (b.word.take p) (by simp;omega)).pure
 have f:C++dt g m b=C++Dq i (ky g b m):=by unfold dt;rw[b4]
 unfold ky at f
 rw[show b.len.toNat=p by omega] at f
 generalize oS g b m g.ax.length=D at d R f
 simp only[aj,encS] at r s
 simp(disch:=omega)only[↓wr,seval,wq,t8,t9,t10,t11,a]
 apply ao.dec<;>intro d1
 rotate_left
 have L:C++dt g m b=C++Dq i (D++if b.len+1<b.word.length/\fQ g (b.word.take p) m=true then [b.word.take p] else []):=by rw[f,aa9 (λh=>by omega),abV]
 rotate_left
 simp(disch:=omega)only[↓wr,seval,wq,t2,t10,t11,aj,encS]
 refine ay.gV (A (by omega)) (by kernel_rfl) ⟨.tree (bg _),.tree (.val _),.tree (.val _),λh _=>.emp 1,trivial⟩ ?_
 simp(disch:=omega)only[↓wr,seval,wq,t1,t10,t11]
 refine ay.pure r ?_
 simp(disch:=omega)only[↓wr,seval,wq]
 apply ao.split<;>intro V
 rotate_left
 have L:C++dt g m b=C++Dq i (D++if b.len+1<b.word.length/\fQ g (b.word.take p) m=true then [b.word.take p] else []):=by rw[f,aa9 (λh=>by rw[V] at h;simp at h),abV]
 rotate_left 2
 simp(disch:=omega)only[↓wr,seval,wq,t8,t9,t10,t11]
 refine ay.gV (A (by omega)) (by kernel_rfl) ⟨.tree (bg _),.tree (.val _),.tree (.val _),λh _=>.emp 1,trivial⟩ ?_
 simp(disch:=omega)only[↓wr,seval,wq,t10,t11,encI]
 intro q J
 rw[bD]
 simp(disch:=omega)only[↓wr,seval,wq]
 refine dw (d.fresh J) (by simp[aK]) (by unfold aE;simp;omega) (by unfold aE;simp;omega) ?_
 rintro U H3 E -
 replace d:aN H3 U 3 ((C++Dq i (D++[dE b.word p 1 []])).map kh):=by rw[PK];exact E
 have L:C++dt g m b=C++Dq i (D++[dE b.word p 1 []]++if b.len+1<b.word.length/\fQ g (b.word.take p) m=true then [b.word.take p] else []):=by rw[f,abb (⟨by omega,V⟩:b.len<b.word.length/\_)]
 all_goals (
  simp(disch:=omega)only[↓wr,seval,wq,t10,t11,a]
  apply ao.dec<;>intro d2
  .simp(disch:=omega)only[↓wr,seval,wq,t1,t2,t10,t11,K,aj,encS]
   refine ay.pure s ?_
   simp(disch:=omega)only[↓wr,seval,wq]
   apply ao.split<;>intro W
   .simp(disch:=omega)only[↓wr,seval,wq,t8,t9,t10,t11,K]
    refine ay.pure F ?_
    simp(disch:=omega)only[↓wr,seval,wq,t10,t11,encI]
    intro q J
    rw[bD]
    simp(disch:=omega)only[↓wr,seval,wq]
    refine dw (d.fresh J) (by simp[aK]) (by unfold aE;simp;omega) (by unfold aE;simp;omega) ?_
    rintro u5 H5 X -
    simp(disch:=omega)only[↓wr,seval,wq,t9,t10,t11]
    refine aF hk (by omega) ⟨u5,?_,t1,t2,t6,rfl,rfl⟩
    rw[j,L,abb (⟨by omega,W⟩:b.len+1<b.word.length/\_),PK]
    exact X
   .simp(disch:=omega)only[↓wr,seval,wq,t8,t9,t10,t11]
    refine aF hk (by omega) ⟨_,?_,t1,t2,t6,by first | exact t8 | rfl,rfl⟩
    rw[j,L,aa9 (λh=>by rw[W] at h;simp at h),abV]
    exact d
  .simp(disch:=omega)only[↓wr,seval,wq,t8,t9,t10,t11]
   refine aF hk (by omega) ⟨_,?_,t1,t2,t6,by first | exact t8 | rfl,rfl⟩
   rw[j,L,aa9 (λh=>by omega),abV]
   exact d)
def ux:SF:=⟨ai [ag [bZ 2 0,bZ 3 1,bb 4 false],.region false [⟨none,[aw 5 0 2,au 6 5,aw 7 0 3,au 8 7,aS 9 .eql 6 8,af 10 9]⟩,⟨(some (10,true)),[aw 11 1 2,au 12 11,aw 13 1 3,au 14 13,aS 15 .eql 12 14]⟩,⟨none,[dA 16 10 15,af 17 16]⟩,⟨(some (17,true)),[aw 18 2 2,au 19 18,aw 20 2 3,au 21 20,aU 22 26 [19,21]]⟩,⟨none,[dA 23 17 22,af 4 23]⟩],.ret],
 [.tmp 4],24⟩
theorem zO:aJ aa 86 [2,3]=some ux:=by kernel_rfl
def ql:SC:=
 ai [ai [ag [af 11 5,af 12 0,aM 13 12,aS 14 .lss 11 13],bO 14 (.exit 0)],.block 1 (ai [ag [af 17 0,af 18 5,aL 19 3 17 18,aV 20 3 19,af 21 1,af 22 5,aL 23 3 21 22,aV 24 3 23,aU 25 86 [20,24],cO 26 25],aX 26 (ai [ag [bb 4 false],.ret])]),ag [af 15 5,aI 16 .add 15 1,af 5 16]]
def sZ:SF:=⟨ai [ag [bb 4 false],ai [ag [af 6 0,aM 7 6,af 8 1,aM 9 8,aS 10 .neq 7 9],aX 10 (ai [ag [bb 4 false],.ret])],ai [ag [aT 5 0],bR 0 ql],ag [bb 4 true],.ret],
 [.tmp 4],27⟩
theorem ze:aJ aa 43 []=some sZ:=by kernel_rfl
def pB:SC:=
 ai [ai [ag [af 16 5,af 17 3,aM 18 17,aS 19 .lss 16 18],bO 19 (.exit 0)],.block 1 (ai [ag [af 22 3,af 23 5,aL 24 3 22 23,aw 25 2 24,au 26 25,aM 27 26,aI 28 .gtr 27 9],aX 28 (ai [ag [bb 2 true],.ret])]),ag [af 20 5,aI 21 .add 20 1,af 5 21]]
def rK:SF:=⟨ai [ag [bZ 1 0,bb 2 false],ai [ag [aV 6 4 1,aU 7 15 [6],cO 8 7],aX 8 (ai [ag [bb 2 false],.ret])],ag [aV 10 4 1,aU 11 29 [10],af 9 11,c7 12 0 9,c7 13 1 9,af 3 12,af 4 13],ai [ag [af 14 4,aI 15 .neq 14 0],aX 15 (ai [ag [bb 2 false],.ret])],ai [ag [aT 5 0],bR 0 pB],ag [af 29 3,aM 30 29,aw 31 0 1,au 32 31,aM 33 32,aS 34 .mul 30 33,aI 35 .gtr 34 150,af 2 35],.ret],
 [.tmp 2],36⟩
theorem yg:aJ aa 40 [1]=some rK:=by kernel_rfl
theorem Kj (c:Int × List Int):Tree (.agg (kh c)):=bW _ (s0 c)
theorem U7 (a b:Int × List Int) (d:aG a.2) (f:aG b.2):aC aa 86 [.agg (kh a),.agg (kh b)] (gb (decide (a=b))):=by
 refine aC.val (by
  intro v c;simp at c
  rcases c with rfl | rfl
  .exact Kj _
  .exact Kj _) λH=>?_
 have h1:=Pf a.2 b.2 d
 obtain⟨a,x⟩:=a
 obtain⟨b,y⟩:=b
 refine az.of mixed zO ?_
 simp only[encI] at h1
 simp(disch:=omega)only[↓wr,seval,wq,ux,kh,encI]
 apply ao.eq<;>intro e
 .subst e
  simp(disch:=omega)only[↓wr,seval,wq]
  refine ay.pure h1 ?_
  simp(disch:=omega)only[↓wr,seval,wq]
  congr 2
  rw[abW]
  simp
 .simp(disch:=omega)only[↓wr,seval,wq]
  rw[decide_eq_false (λh=>e (by injection h))]
theorem SQ (a b:List (Int × List Int)) (q:aG a) (r:aG b) (s:∀c∈a,aG c.2) (t:∀c∈b,aG c.2):aC aa 43 [.aY (a.map kh),.aY (b.map kh)] (gb (decide (a=b))):=by
 refine aC.val (by
  intro v d;simp at d
  rcases d with rfl | rfl
  .exact eA _ _ λc _ v d=>s0 c v d
  .exact eA _ _ λc _ v d=>s0 c v d) λH=>?_
 unfold aG at q r
 refine az.of mixed ze ?_
 simp(disch:=omega)only[↓wr,seval,wq,sZ]
 apply ao.ne<;>intro p
 .simp(disch:=omega)only[↓wr,seval,wq]
  rw[decide_eq_false (λh=>p (by rw[h]))]
 simp(disch:=omega)only[↓wr,seval,wq]
 refine aW.up a.length (λi T H'=>a.take i=b.take i/\T 0=.aY (a.map kh)/\T 1=.aY (b.map kh)/\T 5=gi i) ⟨rfl,rfl,rfl,rfl⟩ ?_
 rintro i k T H1 hk ⟨hp,t0,t1,t5⟩
 simp(disch:=omega)only[↓wr,seval,wq,ql,t0,t5]
 apply ao.dec<;>intro u
 rotate_left
 .simp(disch:=omega)only[↓wr,seval,wq]
  rw[abo (by omega),abo (by omega)] at hp
  rw[abJ hp]
 have f:a[i]?=some (a[i]'(by omega)):=aa8 (by omega)
 have g:b[i]?=some (b[i]'(by omega)):=aa8 (by omega)
 have j:=abi f
 have l:=abi g
 have m:a[i]'(by omega)≠b[i]'(by omega)->a≠b:=λh e=>by subst e;exact h rfl
 have n:a.take (i+1)=a.take i++[a[i]'(by omega)]:=by rw[abr,f];rfl
 have o:b.take (i+1)=b.take i++[b[i]'(by omega)]:=by rw[abr,g];rfl
 generalize a[i]'(by omega)=x at *
 generalize b[i]'(by omega)=y at *
 have h1:=U7 x y (s x j) (t y l)
 simp only[kh,encI] at h1
 simp(disch:=omega)only[↓wr,seval,wq,t0,t1,t5,aba,f,g,kh,encI]
 refine ay.pure h1 ?_
 simp(disch:=omega)only[↓wr,seval,wq]
 apply ao.dec<;>intro e
 .simp(disch:=omega)only[↓wr,seval,wq,t5]
  exact aF hk (by omega) ⟨by rw[n,o,hp,e],t0,t1,rfl⟩
 .simp(disch:=omega)only[↓wr,seval,wq]
  rw[decide_eq_false (m e)]
def KX (g:ak):Bool:=isRed g&&decide ((cB g).2=0)&&((cB g).1.any (λb=>decide (9<b.word.length))||decide (150<(cB g).1.length*g.ax.length))
theorem QC (g:ak) (p:g.Ok) (q:(cB g).1.length<=1000) (t:g.ax.length<=1000) (hw:∀b∈(cB g).1,aG b.word):aC aa 40 [.agg (aj g)] (gb (KX g)):=by
 refine aC.val (dy g) λH=>?_
 have h1:=K8 g p
 have s:=FX g p
 unfold KX
 generalize isRed g=r at *
 generalize cB g=x at *
 obtain⟨l,e⟩:=x
 refine az.of mixed yg ?_
 simp only[aj,encS] at h1 s
 simp only at q hw
 simp(disch:=omega)only[↓wr,seval,wq,rK,aj,encS]
 refine ay.pure h1 ?_
 simp(disch:=omega)only[↓wr,seval,wq]
 apply ao.split<;>intro hi
 rotate_left
 .subst hi
  simp(disch:=omega)only[↓wr,seval,wq]
  rfl
 subst hi
 simp(disch:=omega)only[↓wr,seval,wq]
 refine ay.pure s ?_
 simp(disch:=omega)only[↓wr,seval,wq,zq]
 apply ao.ne<;>intro he
 .rw[decide_eq_false he]
  simp(disch:=omega)only[↓wr,seval,wq]
  rfl
 rw[abJ he]
 simp(disch:=omega)only[↓wr,seval,wq]
 refine aW.up l.length (λi T H'=>(∀b∈l.take i,¬ 9<b.word.length)/\T 1=.aR (aj g) 0/\T 3=.aY (l.map iw)/\T 5=gi i) ⟨by simp,rfl,rfl,rfl⟩ ?_
 rintro i k T H1 hk ⟨d,t1,t3,t5⟩
 simp(disch:=omega)only[↓wr,seval,wq,pB,t3,t5,aj,encS]
 apply ao.dec<;>intro a
 .have h:l[i]?=some (l[i]'(by omega)):=aa8 (by omega)
  have f:=abi h
  have j:l.take (i+1)=l.take i++[l[i]'(by omega)]:=by rw[abr,h];rfl
  generalize l[i]'(by omega)=b at *
  have m:=hw b f
  unfold aG at m
  have o:cE (encI b.word)=some b.word.length:=by simp[cE,encI]
  simp(disch:=omega)only[↓wr,seval,wq,t3,t5,aba,h,iw,o]
  apply ao.dec<;>intro u
  .simp(disch:=omega)only[↓wr,seval,wq]
   have:(l.any λb=>decide (9<b.word.length))=true:=acE.2 ⟨b,f,by simp;omega⟩
   rw[this];rfl
  .simp(disch:=omega)only[↓wr,seval,wq,t1,t3,t5]
   refine aF hk (by omega) ⟨λc a=>?_,t1,t3,rfl⟩
   rw[j] at a
   rcases abq.1 a with a | a
   .exact d c a
   .simp at a;subst a;omega
 .rw[abo (by omega)] at d
  have v:(l.any λb=>decide (9<b.word.length))=false:=by
   rw[List.any_eq_false]
   intro b w
   simpa using d b w
  rw[v]
  simp(disch:=omega)only[↓wr,seval,wq,t1,t3,aj,encS]
  have hmul:l.length*g.ax.length<=1000*1000:=Nat.mul_le_mul q t
  rw[<-Int.natCast_mul]
  generalize l.length*g.ax.length=n at *
  rw[wrap64 (by omega) (by omega),adb,abQ]
  congr 2
  rw[abW]
  simp only[abn]
  omega
def We (g:ak) (s:Int) (n:Nat) (o:List aP):List aP:=(List.range n).foldl (λo (k:Nat)=>if (cd g k).left = -1-s then fh o ⟨k,0⟩ else o) o
def Ky (g:ak) (p:List aP) (x:aP):List aP:=if (bI g x).2=true/\(bI g x).1<0 then We g (bI g x).1 g.rules.length p else p
def FZ (g:ak) (l:List aP):List aP:=iter (λo=>o.foldl (Ky g) o) g.rules.length l
def YX (g:ak) (l o:List aP):Bool:=l.all (λx=>decide (x∈o))&&o.all λx=>!(bI g x).2||decide (0<=(bI g x).1)||(List.range g.rules.length).all λ(k:Nat)=>!decide ((cd g k).left = -1-(bI g x).1)||decide ((⟨k,0⟩:aP)∈o)
def KL (g:ak) (l o:List aP):Prop:=cM o/\∀x∈o,oX g l x
theorem Ow {g:ak} {k:Nat} (h:k<g.rules.length):g.rules[k]?=some (cd g k):=by unfold cd;rw[abM];exact getD_some h
theorem Px {g:ak} {l:List aP} {x:aP} {s:Int} (c:oX g l x) (d:bI g x=(s,true)) (e:s<0):∀(n:Nat) (o:List aP),n<=g.rules.length->KL g l o->KL g l (We g s n o)
 | 0,_,_,h=>h
 | n+1,o,f,h=>by
  have a:=Px c d e n o (by omega) h
  unfold We at a ⊢
  rw[acD,acM]
  simp only[abY,adi]
  split
  .rename_i i
   refine⟨qt a.1,λy b=>?_⟩
   rcases j4.1 b with rfl | b
   .exact .step c d e (Ow (by omega)) i
   .exact a.2 y b
  .exact a
theorem DS {g:ak} {l:List aP}:∀(q o:List aP),(∀x∈q,oX g l x)->KL g l o->KL g l (q.foldl (Ky g) o)
 | [],_,_,h=>h
 | x::q,o,a,h=>by
  refine DS q _ (λy c=>a y (by simp[c])) ?_
  unfold Ky
  split
  .rename_i b
   exact Px (a x (by simp)) (Prod.ext rfl b.1) b.2 _ _ (abg _) h
  .exact h
theorem GH {α:Type} {p:α->Prop} {f:α->α} (h:∀x,p x->p (f x)):∀(n:Nat) (x:α),p x->p (iter f n x)
 | 0,_,a=>a
 | n+1,x,a=>GH h n (f x) (h x a)
theorem WG {g:ak} (i:g.c5) {l:List aP} (j:cM l) (m:∀x∈l,cW g x) (h:YX g l (FZ g l)=true):dx g l=FZ g l:=by
 have d:KL g l (FZ g l):=GH (λo e=>DS o o e.2 e) _ l ⟨j,λx b=>.base b⟩
 simp only[YX,abh,abC,abn] at h
 refine EB i m d.1 d.2 h.1 λx b s k R n f hk p=>?_
 have h1:=h.2 x b
 obtain⟨a,q⟩:=abf.1 hk
 rw[Ow a] at hk
 simp only[abd] at hk
 simp only[n,ade,adb,acW,abn,abC,ab7,adp,acy] at h1
 rcases h1 with h1 | h1
 .omega
 .rcases h1 k a with c | c
  .exact absurd (by rw[hk];exact p) c
  .exact c
def JW (g:ak) (at_:Nat) (out:List ba):List ba:=(List.range (g.ax.length+g.av.length)).foldl (dG g (FZ g (out.getD at_ cg).bA) at_) out
def Ka (g:ak):Nat->Nat->List ba->Option (List ba)
 | 0,_,_=>none
 | f+1,at_,out=>if at_<out.length then
   (if YX g (out.getD at_ cg).bA (FZ g (out.getD at_ cg).bA)=true/\(JW g at_ out).length<=300 then Ka g f (at_+1) (JW g at_ out) else none)
  else some out
theorem KJ {g:ak} (b:g.c5):∀(f at_:Nat) (out a:List ba),er g at_ 0 out->Ka g f at_ out=some a->∀k:Nat,f<=k->fS g k at_ out=(a,0)
 | 0,_,_,_,_,h,_,_=>by simp[Ka] at h
 | f+1,at_,out,a,l,h,k,hk=>by
  obtain⟨j,rfl⟩:∃j,k=j+1:=⟨k-1,by omega⟩
  rw[Ka] at h
  rw[fS]
  split at h
  .rename_i c
   rw[abb c]
   split at h
   .rename_i m
    have hm:=abi (getD_some (d:=cg) c)
    have i:=l.bA _ hm
    have e:Cy g at_ out (g.ax.length+g.av.length)=JW g at_ out:=by
     unfold Cy JW
     rw[WG b i.1 i.2.2 m.1]
    have hr:=er.row (l.nM b c).1 (l.nM b c).2 l (g.ax.length+g.av.length) (by have:=b.ax;have:=b.av;omega)
    rw[show (List.range (g.ax.length+g.av.length)).foldl (dG g (dx g (out.getD at_ cg).bA) at_) out=Cy g at_ out (g.ax.length+g.av.length) from rfl] at hr
    rw[e] at hr ⊢
    rw[aa9 (by omega)]
    exact KJ b f (at_+1) _ a hr.1.next h j (by omega)
   .simp at h
  .rename_i c
   rw[aa9 c]
   simp only[abd] at h
   rw[h]
theorem qG (g:ak):(cB g).1.length<=300/\∀x∈(cB g).1,x.word.length<=60:=by
 have key:∀a i,∀x∈(cR g a i).1,x.word.length<=60:=by
  intro a i
  induction i with
  | zero=>simp[cR]
  | succ i c =>
   rw[cR]
   split
   .exact c
   .split
    .simp
    .intro x b
     rcases abq.1 b with b | b
     .exact c x b
     .simp at b
      subst b
      exact(DH (g:=g) _).2
 unfold cB
 split
 .simp
 .rename_i h
  obtain⟨_,e,d⟩:=H8 (acU.1 h)
  have:=uY (g:=g) (a:=(cD g).1) (cD g).1.length
  exact⟨by omega,key _ _⟩
theorem MD {g:ak} {a:List ba}:∀n,(cR g a n).2=0->(cR g a n).1.length=n/\∀i:Nat,i<n->(cR g a n).1[i]?=some (xC g a i)/\(dh g ((fq g a i).1++(fq g a i).2)).2=0
 | 0,_=>⟨rfl,λi h=>by omega⟩
 | n+1,h=>by
  rw[cR] at h ⊢
  split at h
  .rename_i h1;exact absurd h h1
  .rename_i h1
   have h1:(cR g a n).2=0:=acU.1 h1
   obtain⟨i1,i2⟩:=MD n h1
   split at h
   .rename_i b;exact absurd h b
   .rename_i b
    rw[aa9 (by simp[h1]),aa9 b]
    refine⟨by simp[i1],λi hi=>?_⟩
    simp only
    by_cases e:i<n
    .rw[abF (by omega)]
     exact i2 i e
    .obtain rfl:i=n:=by omega
     rw[acf (by omega),i1,Nat.sub_self]
     exact⟨rfl,acU.1 b⟩
theorem Fy {g:ak} {a:List ba}:∀n,(cR g a n).2≠0->(cR g a n).1=[]
 | 0,h=>absurd rfl h
 | n+1,h=>by
  rw[cR] at h ⊢
  split
  .rename_i h1
   rw[abb h1] at h
   exact Fy n h
  .rename_i h1
   rw[aa9 h1] at h
   split
   .rfl
   .rename_i b;rw[aa9 b] at h;exact absurd rfl h
structure UH (g:ak) (i:Nat) (b:ix):Prop where
 state:b.state=i
 len:0<=b.len/\b.len<=b.word.length
 short:b.word.length<=60
 ax:∀x∈b.word,0<=x/\x<g.ax.length
 right:bu g=true
theorem wQ {g:ak} {i:Nat} {b:ix} (h:(cB g).1[i]?=some b):UH g i b/\(cB g).2=0:=by
 have d:(cD g).2=0:=by
  unfold cB at h
  split at h
  .simp at h
  .rename_i e;exact acU.1 e
 have a:cB g=cR g (cD g).1 (cD g).1.length:=by
  unfold cB
  rw[aa9 (by simp[d])]
 rw[a] at h ⊢
 have he:(cR g (cD g).1 (cD g).1.length).2=0:=by
  refine acN λc=>?_
  rw[Fy _ c] at h
  simp at h
 refine⟨?_,he⟩
 obtain⟨l,f⟩:=MD _ he
 have hi:i<(cD g).1.length:=by
  have:=(abf.1 h).1
  omega
 obtain⟨j,hw⟩:=f i hi
 rw[j] at h
 simp only[abd] at h
 subst h
 obtain⟨k,_,z3⟩:=Wl hw
 have m:=(EJ hw).2
 exact⟨rfl,⟨by simp[xC],by simp only[xC];omega⟩,(DH (g:=g) _).2,z3,k⟩
theorem B4 {g:ak} {b:ix} (h:b∈(cB g).1):∃i,i<300/\UH g i b:=by
 obtain⟨i,hi⟩:=List.mem_iff_getElem?.1 h
 refine⟨i,?_,(wQ hi).1⟩
 have:=(abf.1 hi).1
 have:=(qG g).1
 omega
theorem Ho {g:ak} (c:g.ax.length<=1000) {b:ix} (h:b∈(cB g).1):b.word.length<=60/\(0<=b.len/\b.len<=b.word.length)/\(∀x∈b.word,bm x)/\bm b.state:=by
 obtain⟨i,hi,o⟩:=B4 h
 exact⟨o.short,o.len,λx a=>by have:=o.ax x a;unfold bm;omega,by rw[o.state];unfold bm;omega⟩
theorem Vt {g:ak} {m:Int} (hm:m<=60) {b:ix} (h:b∈(cB g).1) {x:List Int} (a:∀y∈x,y∈b.word∨(0<=y/\y<g.ax.length)) (c:(x.length:Int)<=m):(k6 g x).2=0:=by
 obtain⟨i,hi,o⟩:=B4 h
 rw[G8 o.right (λy d=>(a y d).elim (o.ax y) id) hm c]
def Sj:List Int:=[37,37,32,115,32,58,32,39,40,39,32,115,32,39,41,39,32,124,32,59]
def dr:ak:=⟨[⟨⟨#[39,40,39]⟩,0,0⟩,⟨⟨#[39,41,39]⟩,0,0⟩],[⟨#[115]⟩],[⟨0,[0,-1,1],1⟩,⟨0,[],-1⟩],0⟩
theorem YD:bX aa 44 [EN Sj] (vr dr):=Pb (by kernel_rfl)
theorem Bl:dr.Ok:=by
 refine⟨by unfold aG;decide,by unfold aG;decide,by unfold aG;decide,by unfold bm;decide,?_,?_⟩
 .intro t a;simp[dr] at a;rcases a with rfl | rfl<;>unfold bm<;>decide
 .intro r hr;simp[dr] at hr;rcases hr with rfl | rfl<;>unfold bm aG<;>decide
theorem vB:dr.Small:=⟨by decide⟩
theorem Vm:bu dr=true:=by kernel_rfl
def Qf:List ba:=[⟨[⟨-1,0⟩],[⟨0,1⟩,⟨-1,2⟩]⟩,⟨[⟨0,1⟩],[⟨0,1⟩,⟨-1,3⟩]⟩,⟨[⟨-1,1⟩],[]⟩,⟨[⟨0,2⟩],[⟨1,4⟩]⟩,⟨[⟨0,3⟩],[]⟩]
theorem Z4:cD dr=(Qf,0):=by
 have hr:isRed dr=true:=by kernel_rfl
 unfold cD
 rw[abb hr]
 exact KJ (uV hr) 10 0 eC Qf mF (by kernel_rfl) 302 (by omega)
def G0:List ix:=[⟨0,0,[]⟩,⟨1,1,[0,1]⟩,⟨2,0,[]⟩,⟨3,1,[0,1]⟩,⟨4,2,[0,1]⟩]
theorem X5:cB dr=(G0,0):=by
 unfold cB
 rw[Z4]
 have h:cR dr Qf 5=(G0,0):=by kernel_rfl
 exact h
theorem Zr {g:ak} {p:List Int} (wt:Int->Int) (hr:∀R∈g.rules,wt (-1-R.left)=(R.right.map wt).sum) (hp:∀x∈p,0<=x) {l:List Int} {i j:Nat} (h:Sp g p l i j):(((p.drop i).take (j-i)).map wt).sum=(l.map wt).sum:=by
 induction h with
 | nil i=>simp
 | term s l i j m n o q =>
  obtain⟨x,a,b⟩:=n
  have r:=hp x (abi a)
  have c:=(abf.1 a).1
  have hle:=o.le
  have e:p.drop i=x::p.drop (i+1):=by
   rw[abS c,(abf.1 a).2]
  rw[e,show j-i=(j-(i+1))+1 by omega,adg,abE,abE,List.sum_cons,List.sum_cons,q]
  rcases b with rfl | rfl
  .rfl
  .omega
 | eN s l R i k j m t u h1 v d f =>
  have w:=h1.le
  have y:=v.le
  have e:(p.drop i).take (j-i)=(p.drop i).take (k-i)++(p.drop k).take (j-k):=by
   rw[show j-i=(k-i)+(j-k) by omega,List.take_add,List.drop_drop,show i+(k-i)=k by omega]
  rw[e,abA,List.sum_append,d,f,abE,List.sum_cons,<-hr R t,u]
  congr 2
  omega
def WS (s:Int):Int:=if s=0 then 1 else if s=1 then -1 else 0
theorem Xq {p:List Int} (hp:∀x∈p,0<=x) (h:(p.map WS).sum≠0):nQ dr p=false:=by
 rw[Bool.eq_false_iff,Ne,D5 Vm]
 intro b
 have:=Zr WS (λR a=>by
  simp[dr] at a
  rcases a with rfl | rfl<;>rfl) hp b
 rw[ab8,Nat.sub_zero,acu] at this
 exact h this
theorem aaj:nQ kD [0,0]=true:=by
 refine(D5 (show bu kD=true by kernel_rfl) _).2 ?_
 have e:∀i j,Sp kD [0,0] [-1] (i+1) j->[(0:Int),0][i]?=some 0->Sp kD [0,0] [-1] i j:=λi j h hi =>
  .eN (-1) [] ⟨0,[0,-1],0⟩ i j j (by decide) (by simp[kD]) (by decide) (.term 0 [-1] i j (by decide) ⟨0,hi,.inl rfl⟩ h) (.nil _)
 exact e 0 2 (e 1 2 (.eN (-1) [] ⟨0,[],-1⟩ 2 2 2 (by decide) (by simp[kD]) (by decide) (.nil _) (.nil _)) rfl) rfl
theorem YP:qW dr [0,1] 1 0 5=(([0,0],true),0):=by
 unfold qW
 rw[abb ⟨by kernel_rfl,by decide,by decide,by decide⟩]
 have h:fQ dr (dE [0,1] 1 1 [0]) 5=true:=(Gn Vm (by decide) (by decide)).2 ⟨by decide,Xq (by decide) (by decide)⟩
 rw[show (1:Int).toNat=1 from rfl,im,abb ⟨by decide,by decide,h⟩]
 rfl
theorem Yr:qW dr [0] 2 0 5=(([],false),1):=by
 unfold qW
 rw[aa9 (by rintro⟨_,⟨_,h⟩,_⟩;exact absurd h (by decide))]
theorem ZL:qW kD [0] 0 0 5=(([],false),0):=by
 unfold qW
 rw[abb ⟨by kernel_rfl,by decide,by decide,by decide⟩]
 have h:fQ kD (dE [0] 0 0 [0]) 5=false:=by
  rw[Bool.eq_false_iff,Ne,Gn (show bu kD=true by kernel_rfl) (by decide) (by decide)]
  rintro⟨_,h⟩
  have:nQ kD [0,0]=false:=h
  rw[aaj] at this
  simp at this
 rw[show (0:Int).toNat=0 from rfl,im,aa9 (by rintro⟨_,h,_⟩;exact h rfl),aa9 (by rw[h];simp)]
theorem Fj {p:List Int} (h1:∀x∈p,0<=x/\x<2) (b:p.length<=9) (h:(p.map WS).sum≠0):fQ dr p 9=true:=
 (Gn Vm (λx a=>⟨(h1 x a).1,(h1 x a).2⟩) (by decide)).2 ⟨by omega,Xq (λx a=>(h1 x a).1) h⟩
theorem BA (i:Int):ky dr ⟨i,0,[]⟩ 9=[[0],[1]]/\ky dr ⟨i,1,[0,1]⟩ 9=[[0,0],[0,1,1],[0]]/\ky dr ⟨i,2,[0,1]⟩ 9=[[0,1,0],[0,1,1]]:=by
 have a:fQ dr [0] 9=true:=Fj (by decide) (by decide) (by decide)
 have b:fQ dr [1] 9=true:=Fj (by decide) (by decide) (by decide)
 have c:fQ dr [0,0] 9=true:=Fj (by decide) (by decide) (by decide)
 have d:fQ dr [0,1,1] 9=true:=Fj (by decide) (by decide) (by decide)
 have e:fQ dr [0,1,0] 9=true:=Fj (by decide) (by decide) (by decide)
 unfold ky oS
 rw[show dr.ax.length=2 from rfl,show List.range 2=[0,1] from rfl]
 simp[im,dE,a,b,c,d,e]
def GC:List (Int × List Int):=[(0,[0]),(0,[1]),(1,[0,0]),(1,[0,1,1]),(1,[0]),(2,[0]),(2,[1]),(3,[0,0]),(3,[0,1,1]),(3,[0]),(4,[0,1,0]),(4,[0,1,1])]
theorem TQ:fZ dr 9=(GC,0):=by
 have h:G0.flatMap (dt dr 9)=GC:=by
  simp[G0,dt,(BA 0).1,(BA 1).2.1,(BA 2).1,(BA 3).2.1,(BA 4).2.2,GC]
 unfold fZ
 rw[abb ⟨by kernel_rfl,by decide,by decide⟩,X5,h]
 rfl
theorem ZF:fZ vR 9=([],1):=by
 unfold fZ
 rw[aa9 (by rw[show isRed vR=false by kernel_rfl];simp)]
def tX:SF:=⟨ai [ag [bZ 2 0,bb 4 false],ai [ag [af 7 1,aM 8 7,aw 9 4 2,au 10 9,aS 11 .gtr 8 10],aX 11 (ai [ag [bb 4 false],.ret])],ag [aw 13 0 2,aV 14 4 13,af 15 1,aU 16 19 [14,15],af 12 16,c7 17 0 12,c7 18 1 12,af 5 17,af 6 18],.region false [⟨none,[af 19 6,aI 20 .eql 19 0,af 21 20]⟩,⟨(some (21,true)),[af 22 5,cO 23 22]⟩,⟨none,[dA 24 21 23,af 4 24]⟩],.ret],
 [.tmp 4],25⟩
theorem yy:aJ aa 141 [2]=some tX:=by kernel_rfl
def CD:SF:=⟨ai [ag [bb 2 false],.region false [⟨none,[af 3 0,aI 4 .geq 3 0,af 5 4]⟩,⟨(some (5,true)),[af 6 0,aI 7 .leq 6 60]⟩,⟨none,[dA 8 5 7,af 2 8]⟩],.ret],
 [.tmp 2],9⟩
theorem FG:aJ aa 79 []=some CD:=by kernel_rfl
def ke (g:ak) (m:Int):List V:=[.aY (g.ax.map df),encS g.av,.aY (g.rules.map aQ),gi g.start,gi m]
theorem mM (g:ak) (m:Int):Tree (.agg (ke g m)):=.agg _ λi hi=>by
 have h:=cy g
 match i,hi with
 | 0,_=>exact h _ (by simp[aj,ke])
 | 1,_=>exact h _ (by simp[aj,ke])
 | 2,_=>exact h _ (by simp[aj,ke])
 | 3,_=>exact .val _
 | 4,_=>exact .val _
theorem N1 (g:ak) (b:g.Ok) (c:g.Small) (w:List Int) (hw:aG w) (d:∀x∈w,bm x) (m:Int) (e:(w.length:Int)<=m->(k6 g w).2=0):aC aa 141 [.agg (ke g m),encI w] (gb (fQ g w m)):=by
 refine aC.val (by
  intro v a;simp at a
  rcases a with rfl | rfl
  .exact mM g m
  .exact bg _) λH=>?_
 have h1:=Ym g b c w hw d
 unfold fQ
 generalize k6 g w=x at *
 refine az.of mixed yy ?_
 unfold aG at hw
 simp only[aj,encS,encI] at h1
 simp(disch:=omega)only[↓wr,seval,wq,tX,encI,ke,encS]
 apply ao.dec<;>intro f
 .rw[decide_eq_false (show ¬ ((w.length:Int)<=m) by omega)]
  simp(disch:=omega)only[↓wr,seval,wq]
  rfl
 .rw[abJ (show ((w.length:Int)<=m) by omega)]
  simp(disch:=omega)only[↓wr,seval,wq]
  refine ay.pure h1 ?_
  have i:=e (by omega)
  simp(disch:=omega)only[↓wr,seval,wq,Br]
  refine ao.eq (λ_=>?_) (λh=>absurd i h)
  simp(disch:=omega)only[↓wr,seval,wq]
  rw[abQ]
theorem Oq (m:Int):aC aa 79 [gi m] (gb (decide (0<=m)&&decide (m<=60))):=by
 refine aC.val (by intro v a;simp at a;subst a;exact .val _) λH=>?_
 refine az.of mixed FG ?_
 simp(disch:=omega)only[↓wr,seval,wq,CD]
 apply ao.dec<;>intro b
 .rw[abJ (show 0<=m by omega)]
  simp(disch:=omega)only[↓wr,seval,wq]
  rw[abQ]
 .rw[decide_eq_false (show ¬ 0<=m by omega)]
  simp(disch:=omega)only[↓wr,seval,wq]
  rfl
def kq:SC:=
 ai [ai [ag [af 7 2,af 8 3,aS 9 .lss 7 8],bO 9 (.exit 0)],.block 1 (ag [af 14 0,af 15 2,af 16 0,af 17 3,af 18 0,af 19 3,aL 20 1 18 19,au 21 20,af 22 0,af 23 2,aL 24 1 22 23,au 25 24,aL 26 1 14 15,cz 1 26 21,aL 27 1 16 17,cz 1 27 25]),ag [af 10 2,aI 11 .add 10 1,af 12 3,aI 13 .sub 12 1,af 2 11,af 3 13]]
def kY:SF:=⟨ai [ag [af 4 0,aM 5 4,aI 6 .sub 5 1,aT 2 0,af 3 6],bR 0 kq],
 [],28⟩
theorem qf:aJ aa 285 []=some kY:=by kernel_rfl
def my:SF:=⟨ai [ag [af 4 0,af 5 1,((some 6),.op (.slice 1 (.tmp 4) none (some (.tmp 5)))),aU 7 285 [6]],ag [af 8 0,af 9 1,((some 10),.op (.slice 1 (.tmp 8) (some (.tmp 9)) none)),aU 11 285 [10]],ag [af 12 0,aU 13 285 [12]]],
 [],14⟩
theorem ta:aJ aa 253 []=some my:=by kernel_rfl
def mb:SF:=⟨ag [af 4 0,af 5 0,aM 6 5,af 7 1,aS 8 .sub 6 7,aU 9 253 [4,8]],
 [],10⟩
theorem sd:aJ aa 202 []=some mb:=by kernel_rfl
def zo (l cur:List Int) (off len i:Nat):Prop:=cur.length=l.length/\∀k,k<l.length->cur.getD k 0=if off<=k/\k<off+len/\(k<off+i∨off+len<=k+i) then l.getD (off+(off+len-1)-k) 0 else l.getD k 0
def MH (l cur:List Int) (off len:Nat):Prop:=cur.length=l.length/\∀k,k<l.length->cur.getD k 0=if off<=k/\k<off+len then l.getD (off+(off+len-1)-k) 0 else l.getD k 0
theorem zo.zero (l:List Int) (off len:Nat):zo l l off len 0:=⟨rfl,λk hk=>by rw[aa9 (by omega)]⟩
theorem zo.done {l cur:List Int} {off len i:Nat} (h:zo l cur off len i) (hi:len<=2*i+1):MH l cur off len:=⟨h.1,λk hk=>by
 rw[h.2 k hk]
 by_cases a:off<=k/\k<off+len
 .rw[abb a]
  by_cases b:k<off+i∨off+len<=k+i
  .rw[abb ⟨a.1,a.2,b⟩]
  .rw[aa9 (λh=>b h.2.2),show off+(off+len-1)-k=k by omega]
 .rw[aa9 a,aa9 (λh=>a ⟨h.1,h.2.1⟩)]⟩
theorem Ii (l:List Int) (i j:Nat) (x:Int) (hi:i<l.length):(l.set i x).getD j 0=if i=j then x else l.getD j 0:=by
 simp only[aa7]
 by_cases e:i=j
 .subst e;rw[abb rfl,ac1 hi];rfl
 .rw[aa9 e,List.getElem?_set_ne e]
theorem zo.next {l cur:List Int} {off len i:Nat} (h:zo l cur off len i) (g:off+len<=l.length) (hi:2*i+1<len):
  zo l ((cur.set (off+i) (cur.getD (off+(len-1-i)) 0)).set (off+(len-1-i)) (cur.getD (off+i) 0)) off len (i+1):=by
 obtain⟨h1,a⟩:=h
 refine⟨by simp[h1],λk hk=>?_⟩
 have b:=a (off+i) (by omega)
 have c:=a (off+(len-1-i)) (by omega)
 rw[aa9 (by omega)] at b c
 rw[Ii _ _ _ _ (by rw[acO];omega),Ii _ _ _ _ (by omega),b,c]
 by_cases d:off+(len-1-i)=k
 .rw[abb d,abb (by omega),show off+(off+len-1)-k=off+i by omega]
 .rw[aa9 d]
  by_cases e:off+i=k
  .rw[abb e,abb (by omega),show off+(off+len-1)-k=off+(len-1-i) by omega]
  .rw[aa9 e,a k hk]
   by_cases f:off<=k/\k<off+len/\(k<off+i∨off+len<=k+i)
   .rw[abb f,abb (by omega)]
   .rw[aa9 f,aa9 (by omega)]
theorem zY {l:List Int} {i:Nat} (h:i<l.length):(aO l).getD i []=[gi (l.getD i 0)]:=by
 simp[aa8 h]
theorem z6 {H:View} {id:Nat} {l:List Int} {off len:Nat} (g:H id=.arr 1 (aO l)) (h:off+len<=l.length) (j:aG l):az aa 285 [.sl id off len 1] H λ_ H'=>∃cur,H' id=.arr 1 (aO cur)/\MH l cur off len/\∀k,k≠id->H' k=H k:=by
 unfold aG at j
 refine az.of mixed qf ?_
 simp(disch:=omega)only[↓wr,seval,wq,kY]
 refine aW.up len (λi T H'=>(∃cur,H' id=.arr 1 (aO cur)/\zo l cur off len i)/\(∀k,k≠id->H' k=H k)/\T 0=.sl id off len 1/\T 2=gi i/\T 3=.val (.int .i64 ((len:Int)-1-i))) ⟨⟨l,g,zo.zero _ _ _⟩,λ_ _=>rfl,rfl,rfl,by show V.val _=_;congr 2;omega⟩ ?_
 rintro i k T H1 hk ⟨⟨cur,e,c⟩,b,t0,t2,t3⟩
 simp(disch:=omega)only[↓wr,seval,wq,kq,t2,t3]
 apply ao.dec<;>intro m
 .have n:((len:Int)-1-i).toNat=len-1-i:=by omega
  have o:=c.1
  have p:(aO cur).getD (off+i) []=[gi (cur.getD (off+i) 0)]:=by
   simp[aa8 (show off+i<cur.length by omega)]
  have d:(aO cur).getD (off+(len-1-i)) []=[gi (cur.getD (off+(len-1-i)) 0)]:=by
   simp[aa8 (show off+(len-1-i)<cur.length by omega)]
  simp(disch:=omega)only[↓wr,seval,wq,t0,t2,t3,e,n,p,d]
  refine⟨by omega,by omega,by omega,by omega,by omega,by omega,by omega,by rw[acO,abc];omega,aF hk (by omega) ⟨⟨_,?_,c.next h (by omega)⟩,λk hk=>?_,t0,rfl,?_⟩⟩
  .simp only[View.set,if_true]
   congr 1
   have f:∀(L:List Int) (a:Nat) (x:Int),(aO L).set a [gi x]=aO (L.set a x):=λL a x=>acR.symm
   rw[f,zY (by rw[acO];omega)]
   exact f _ _ _
  .simp only[View.set,aa9 hk]
   exact b k hk
  .show V.val _=V.val _
   congr 2
   omega
 .simp(disch:=omega)only[↓wr,seval,wq]
  exact⟨cur,e,c.done (by omega),b⟩
def HO (l cur:List Int) (off len r:Nat):Prop:=cur.length=l.length/\∀k,k<l.length->cur.getD k 0=if off<=k/\k<off+len then (if k+r<off+len then l.getD (k+r) 0 else l.getD (k+r-len) 0) else l.getD k 0
theorem HO.of {l a b c:List Int} {off len r:Nat} (hr:r<=len) (j:off+len<=l.length) (h1:MH l a off r) (g:MH a b (off+r) (len-r)) (i:MH b c off len):HO l c off len r:=by
 obtain⟨m,a2⟩:=h1
 obtain⟨n,f⟩:=g
 obtain⟨c1,c2⟩:=i
 refine⟨by omega,λk hk=>?_⟩
 rw[c2 k (by omega)]
 by_cases d:off<=k/\k<off+len
 .rw[abb d,abb d]
  have e:off+(off+len-1)-k<l.length:=by omega
  rw[f _ (by omega)]
  by_cases h:k+r<off+len
  .rw[abb h,abb (by omega),a2 _ (by omega),aa9 (by omega)]
   congr 1;omega
  .rw[aa9 h,aa9 (by omega),a2 _ (by omega),abb (by omega)]
   congr 1;omega
 .rw[aa9 d,aa9 d,f k (by omega),aa9 (by omega),a2 k hk,aa9 (by omega)]
theorem JO {H:View} {id:Nat} {l:List Int} {off len r:Nat} (g:H id=.arr 1 (aO l)) (h:off+len<=l.length) (hr:r<=len) (e:aG l):az aa 253 [.sl id off len 1,gi r] H λ_ H'=>∃cur,H' id=.arr 1 (aO cur)/\HO l cur off len r/\∀k,k≠id->H' k=H k:=by
 have d:=e
 unfold aG at d
 refine az.of mixed ta ?_
 have s1:=DO (id:=id) (off:=off) (k:=len) (m:=r) hr
 have s2:=Dp (id:=id) (off:=off) (k:=len) (m:=r) hr
 simp(disch:=omega)only[↓wr,seval,wq,my,s1]
 refine ay.cF ((z6 g (off:=off) (len:=r) (by omega) e).mono ?_)
 rintro u H1 ⟨a,i,h1,j⟩
 simp(disch:=omega)only[↓wr,seval,wq,s2]
 refine ay.cF ((z6 i (off:=off+r) (len:=len-r) (by rw[h1.1];omega) (by unfold aG;rw[h1.1];omega)).mono ?_)
 rintro v w ⟨b,n,f,k2⟩
 simp(disch:=omega)only[↓wr,seval,wq]
 have o:=f.1
 have p:=h1.1
 refine ay.cF ((z6 n (off:=off) (len:=len) (by omega) (by unfold aG;omega)).mono ?_)
 rintro x y ⟨c,q,s,t⟩
 simp(disch:=omega)only[↓wr,seval,wq]
 exact⟨c,q,HO.of hr h h1 f s,λk hk=>by rw[t k hk,k2 k hk,j k hk]⟩
theorem Ic {H:View} {id:Nat} {l:List Int} {off len m:Nat} (c:H id=.arr 1 (aO l)) (d:off+len<=l.length) (hr:m<=len) (b:aG l):az aa 202 [.sl id off len 1,gi m] H λ_ H'=>∃cur,H' id=.arr 1 (aO cur)/\HO l cur off len (len-m)/\∀k,k≠id->H' k=H k:=by
 have a:=b
 unfold aG at a
 refine az.of mixed sd ?_
 have h1:=JO c d (r:=len-m) (by omega) b
 rw[show ((len-m:Nat):Int)=(len:Int)-m by omega] at h1
 simp(disch:=omega)only[↓wr,seval,wq,mb]
 refine ay.cF (h1.mono ?_)
 rintro e H1 h
 simp(disch:=omega)only[↓wr,seval,wq]
 exact h
def CX:Prop:=∀(H:View) (u:V) (v:Nat) (l:List Int) (i:Nat) (t:Int),aN H u 1 (aO l)->H v=.arr 1 [[gi t]]->owner u≠some v->i<=l.length->l.length<=1000 ->
 az aa 142 [u,gi i,.sl v 0 1 1] H λr H'=>aN H' r 1 (aO (dE l i 0 [t]))/\∀id,H id≠.dead->id≠v->owner u≠some id->H' id=H id/\owner r≠some id
def Pz:Prop:=∀(H:View) (u:V) (l:List Int) (p:Nat),aN H u 1 (aO l)->p<l.length->l.length<=1000 ->
 az aa 144 [u,gi p,gi ((p:Int)+1)] H λr H'=>aN H' r 1 (aO (dE l p 1 []))/\Left H H' u r
def rP:SF:=⟨ai [ag [bZ 4 0,bL 8 1,bb 9 false],ai [.region false [⟨none,[af 12 2,af 13 1,aM 14 13,aS 15 .lss 12 14,af 16 15]⟩,⟨(some (16,true)),[af 17 1,af 18 2,aL 19 1 17 18,au 20 19,af 21 3,aS 22 .neq 20 21]⟩,⟨none,[dA 23 16 22]⟩],aX 23 (ai [ag [af 24 1,aU 25 140 [24],af 10 25],ag [af 26 10,af 27 2,af 28 3,aL 29 1 26 27,cz 1 29 28],ag [aV 30 5 4,af 31 10,aU 32 141 [30,31]],aX 32 (ai [ag [af 33 10,af 8 33,bb 9 true],.ret])])],ag [af 34 1,aU 35 140 [34],af 36 2,af 37 3,((some 38),.op (.bH 1 1 [(.val (.int .i64 0))] [(0,(.tmp 37))])),aU 39 142 [35,36,38],af 11 39],ai [ag [aV 40 5 4,af 41 11,aU 42 141 [40,41]],aX 42 (ai [ag [af 43 11,af 8 43,bb 9 true],.ret])],ag [bL 8 1,bb 9 false],.ret],
 [.tmp 8,.tmp 9],44⟩
theorem xY:aJ aa 80 [4]=some rP:=by kernel_rfl
def A0:SF:=⟨ai [ag [bZ 5 0,bL 10 1,bb 11 false,aT 12 0],ai [.region false [⟨none,[aV 15 4 5,af 16 1,aU 17 52 [15,16],cO 18 17,af 19 18]⟩,⟨(some (19,false)),[af 20 2,aI 21 .lss 20 0]⟩,⟨none,[cJ 22 19 21,af 23 22]⟩,⟨(some (23,false)),[af 24 2,af 25 1,aM 26 25,aS 27 .gtr 24 26]⟩,⟨none,[cJ 28 23 27,af 29 28]⟩,⟨(some (29,false)),[af 30 3,aI 31 .lss 30 0]⟩,⟨none,[cJ 32 29 31,af 33 32]⟩,⟨(some (33,false)),[af 34 3,aw 35 0 5,au 36 35,aM 37 36,aS 38 .geq 34 37]⟩,⟨none,[cJ 39 33 38,af 40 39]⟩,⟨(some (40,false)),[af 41 4,aU 42 79 [41],cO 43 42]⟩,⟨none,[cJ 44 40 43]⟩],aX 44 (ai [ag [bL 10 1,bb 11 false,aT 12 1],.ret])],ag [aV 46 4 5,af 47 4,((some 48),.op (.build [(.emp 1),(.emp 1),(.emp 1),(.val (.int .i64 0)),(.val (.int .i64 0))] [(0,4,(.tmp 46)),(4,1,(.tmp 47))])),af 49 1,af 50 2,af 51 3,aU 52 80 [48,49,50,51],af 45 52,c7 53 0 45,c7 54 1 45,af 13 53,af 14 54],ag [af 55 13,af 56 14,af 10 55,af 11 56,aT 12 0],.ret],
 [.tmp 10,.tmp 11,.tmp 12],57⟩
theorem EE:aJ aa 38 [5]=some A0:=by kernel_rfl
theorem OA {w:List Int} {p:Nat} {t:Int} (h:p<w.length):dE w p 1 [t]=w.set p t:=by
 unfold dE
 rw[List.set_eq_take_append_cons_drop,abb h]
 rfl
theorem K5 (D:CX) (g:ak) (E:g.Ok) (F:g.Small) (m:Int) (w:List Int) (hw:w.length<=100) (G:∀x∈w,bm x) (p:Nat) (hp:p<=w.length) (t:Int) (I:bm t)
  (J:∀x:List Int,(∀y∈x,y∈w∨y=t)->(x.length:Int)<=m->(k6 g x).2=0) (H:View):
  az aa 80 [.agg (ke g m),encI w,gi p,gi t] H λr H'=>∃u,r=.bc [u,gb (im g w p t m).2]/\aN H' u 1 (aO (im g w p t m).1):=by
 have b:=λn=>N1 g E F (dE w p n [t]) (JF (by omega)) (Sl G I) m (J _ λy K=>(vg K).imp id λh=>by simpa using h)
 have i:p<w.length->w[p]?=some (w.getD p 0):=λh=>getD_some h
 have j:=λH=>Bu w (by omega) (encI w) H (.inl rfl)
 unfold im
 refine az.of mixed xY ?_
 simp only[ke,encS] at b
 simp(disch:=omega)only[↓wr,seval,wq,rP,encI,ke,encS]
 apply ao.dec<;>intro L
 rotate_left
 have c:¬ (p<w.length/\w.getD p 0≠t/\fQ g (dE w p 1 [t]) m=true):=λh=>by omega
 rotate_left
 have a:p<w.length:=by omega
 replace i:=i a
 generalize w.getD p 0=x at i
 simp(disch:=omega)only[↓wr,seval,wq,aba,i]
 apply ao.ne<;>intro d
 rotate_left
 have c:¬ (p<w.length/\x≠t/\fQ g (dE w p 1 [t]) m=true):=λh=>h.2.1 d
 rotate_left 2
 simp(disch:=omega)only[↓wr,seval,wq]
 refine ay.cF ((j _).mono ?_)
 rintro Q M ⟨o0,-⟩
 obtain⟨q,rfl,N⟩:=o0.sl (by simp;omega)
 have l:(aO w).getD p []=[gi x]:=by simp[i]
 simp(disch:=omega)only[↓wr,seval,wq,N,l]
 have O:(aO w).set p [gi t]=aO (dE w p 1 [t]):=by rw[OA a];exact acR.symm
 have B:aN (M.set q (.arr 1 (aO (dE w p 1 [t])))) (.sl q 0 w.length 1) 1 (aO (dE w p 1 [t])):=.inr ⟨q,by rw[abc,OA a,acO],by simp[View.set]⟩
 refine⟨a,a,?_⟩
 rw[show [V.val (Value.int IntKind.i64 t)]=[gi t] from rfl,O]
 refine ay.Av (b 1) (by kernel_rfl) (.val _) ⟨.tree (mM g m),.xL B,trivial⟩ ?_
 simp(disch:=omega)only[↓wr,seval,wq]
 apply ao.split<;>intro e
 .simp(disch:=omega)only[↓wr,seval,wq]
  rw[abb ⟨a,d,e⟩]
  exact⟨_,rfl,B⟩
 have c:¬ (p<w.length/\x≠t/\fQ g (dE w p 1 [t]) m=true):=λh=>by rw[e] at h;simp at h
 all_goals (
  simp(disch:=omega)only[↓wr,seval,wq]
  refine ay.cF ((j _).mono ?_)
  rintro u H1 ⟨k,-⟩
  have s:=k.eL
  simp(disch:=omega)only[↓wr,seval,wq]
  intro v C
  have P:=k.ne C
  have k:=k.fresh (o:=.arr 1 [[gi t]]) C
  refine ay.cF ((D _ u v w p t k (by simp[View.set]) P hp (by omega)).mono ?_)
  rintro r R ⟨z,-⟩
  have f:=z.eL
  simp(disch:=omega)only[↓wr,seval,wq]
  refine ay.Av (b 0) (by kernel_rfl) (.val _) ⟨.tree (mM g m),.xL z,trivial⟩ ?_
  simp(disch:=omega)only[↓wr,seval,wq]
  apply ao.split<;>intro A
  .simp(disch:=omega)only[↓wr,seval,wq]
   rw[aa9 c,abb A]
   exact⟨_,rfl,z⟩
  .simp(disch:=omega)only[↓wr,seval,wq]
   rw[aa9 c,aa9 (by rw[A];simp)]
   exact⟨_,rfl,.nil⟩)
theorem WT (b:CX) (g:ak) (c:g.Ok) (d:g.Small) (m:Int) (w:List Int) (hw:w.length<=100) (f:∀x∈w,bm x) (p:Nat) (hp:p<=w.length) (t:Int) (h:bm t)
  (i:∀x:List Int,(∀y∈x,y∈w∨y=t)->(x.length:Int)<=m->(k6 g x).2=0):
  aC aa 80 [.agg (ke g m),encI w,gi p,gi t] (L5 (im g w p t m)):=
 aC.of (by
  intro v a;simp at a
  rcases a with rfl | rfl | rfl | rfl
  .exact mM g m
  .exact bg _
  .exact .val _
  .exact .val _) ((K5 b g c d m w hw f p hp t h i _).mono λr H' ⟨u,e,o⟩ j k=>e▸Pl (cm.xL o j k))
theorem KG {h:Heap} {u v:V} {b:Bool} {e:Int} (hu:dF h u v):dF h (.bc [u,gb b,gi e]) (.bc [v,gb b,gi e]):=.bc _ _ rfl λi hi=>by
 match i,hi with
 | 0,_=>exact hu
 | 1,_=>exact .val _
 | 2,_=>exact .val _
theorem WH (l:CX) (g:ak) (c:g.Ok) (i:g.Small) (w:List Int) (hw:aG w) (j:∀x∈w,bm x) (p t m:Int) (n:bm t):
  bX aa 38 [.agg (aj g),encI w,gi p,gi t,gi m] (Hl (qW g w p t m)):=by
 refine bX.of (by
  intro v k;simp at k
  rcases k with rfl | rfl | rfl | rfl | rfl
  .exact dy g _ (by simp)
  .exact bg _
  .exact .val _
  .exact .val _
  .exact .val _) ?_
 have h1:=K0 g c i w hw j
 have q:=Oq m
 have bad:¬ (iZ g w=true/\(0<=p/\p<=w.length)/\(0<=t/\t<g.ax.length)/\(0<=m/\m<=60))->∀h:Heap,dF h (.bc [.emp 1,gb false,gi 1]) (Hl (qW g w p t m)):=λs h=>by
  unfold qW
  rw[aa9 s]
  exact KG (.emp 1)
 have G:=c.ax
 refine az.of mixed EE ?_
 simp only[aj,encS,encI] at h1
 unfold aG at hw
 simp(disch:=omega)only[↓wr,seval,wq,A0,encI,aj,encS]
 refine ay.pure h1 ?_
 simp(disch:=omega)only[↓wr,seval,wq]
 apply ao.split<;>intro b
 rotate_left
 .simp(disch:=omega)only[↓wr,seval,wq]
  exact λa _=>bad (λh=>by rw[b] at h;simp at h) a
 simp(disch:=omega)only[↓wr,seval,wq]
 apply ao.dec<;>intro c1
 .simp(disch:=omega)only[↓wr,seval,wq]
  exact λa _=>bad (λh=>by omega) a
 simp(disch:=omega)only[↓wr,seval,wq]
 apply ao.dec<;>intro c2
 .simp(disch:=omega)only[↓wr,seval,wq]
  exact λa _=>bad (λh=>by omega) a
 simp(disch:=omega)only[↓wr,seval,wq]
 apply ao.dec<;>intro z
 .simp(disch:=omega)only[↓wr,seval,wq]
  exact λa _=>bad (λh=>by omega) a
 simp(disch:=omega)only[↓wr,seval,wq]
 apply ao.dec<;>intro A
 .simp(disch:=omega)only[↓wr,seval,wq]
  exact λa _=>bad (λh=>by omega) a
 simp(disch:=omega)only[↓wr,seval,wq]
 refine ay.pure q ?_
 simp(disch:=omega)only[↓wr,seval,wq]
 apply ao.split<;>intro hm
 rotate_left
 .simp(disch:=omega)only[↓wr,seval,wq]
  exact λa _=>bad (λh=>by
   rw[abJ h.2.2.2.1,abJ h.2.2.2.2] at hm
   simp at hm) a
 rw[abh,abn,abn] at hm
 obtain⟨hr,B,d⟩:=II.1 b
 have e:=K5 l g c i m w (by omega) j p.toNat (by omega) t n (λx C D=>by
  rw[G8 hr (λy E=>?_) hm.2 D]
  rcases C y E with h | rfl
  .exact d y h
  .omega) (λ_=>.dead)
 rw[show ((p.toNat:Nat):Int)=p by omega] at e
 unfold qW
 rw[abb ⟨b,by omega,by omega,hm⟩]
 generalize im g w p.toNat t m=x at *
 simp only[ke,encS,encI] at e
 simp(disch:=omega)only[↓wr,seval,wq]
 refine ay.cF (e.mono ?_)
 rintro r H1 ⟨u,rfl,o⟩
 have ok:=o.eL
 simp(disch:=omega)only[↓wr,seval,wq]
 exact λa F=>KG (dF.D3 (sz:=1) (f:=λx:Int=>.int .i64 x) (F▸o))
def oP (H H':View):Prop:=∀id,H id≠.dead->H' id=H id
theorem oP.refl (H:View):oP H H:=λ_ _=>rfl
theorem oP.set {H H':View} {n:Nat} {o:ct} (h:oP H H') (b:H n=.dead):oP H (H'.set n o):=λid a=>by
 have:id≠n:=by rintro rfl;exact a b
 simp[View.set,this,h id a]
def mA:SC:=
 ai [ag [aS 21 .lss 20 19],bO 21 (.exit 0),.block 1 (ai [ag [af 22 20,af 7 22],ag [aV 24 5 2,af 25 5,af 26 6,af 27 7,aU 28 80 [24,25,26,27],af 23 28,c7 29 0 23,c7 30 1 23,af 8 29,af 9 30],ag [af 31 9],aX 31 (ag [af 32 4,af 33 8,((some 34),.op (.bH 1 1 [(.emp 1)] [(0,(.tmp 33))])),eZ 35 1 24 32 34,af 4 35])]),ag [aI 36 .add 20 1,af 20 36]]
def nZ:SF:=⟨ai [ag [bZ 2 0,bZ 3 1,bL 4 1],ag [aw 12 2 3,au 13 12,aw 14 1 3,au 15 14,af 5 13,af 6 15],ai [ag [aw 16 0 2,aw 17 0 16,au 18 17,aM 19 18,aT 20 0],bR 0 mA],ai [ag [af 37 6,af 38 5,aM 39 38,aS 40 .lss 37 39],aX 40 (ai [ag [af 41 5,aU 42 140 [41],af 43 6,af 44 6,aI 45 .add 44 1,aU 46 144 [42,43,45],af 10 46],ag [aV 47 5 2,af 48 10,aU 49 141 [47,48]],aX 49 (ag [af 50 4,af 51 10,((some 52),.op (.bH 1 1 [(.emp 1)] [(0,(.tmp 51))])),eZ 53 1 24 50 52,af 4 53])])],ai [ag [af 54 5,af 55 6,((some 56),.op (.slice 1 (.tmp 54) none (some (.tmp 55)))),aU 57 140 [56],af 11 57],.region false [⟨none,[af 58 6,aI 59 .add 58 1,af 60 5,aM 61 60,aS 62 .lss 59 61,af 63 62]⟩,⟨(some (63,true)),[aV 64 5 2,af 65 11,aU 66 141 [64,65]]⟩,⟨none,[dA 67 63 66]⟩],aX 67 (ag [af 68 4,af 69 11,((some 70),.op (.bH 1 1 [(.emp 1)] [(0,(.tmp 69))])),eZ 71 1 24 68 70,af 4 71])],ag [af 72 4,af 4 72],.ret],
 [.tmp 4],73⟩
theorem uZ:aJ aa 83 [2,3]=some nZ:=by kernel_rfl
def xK (H:View) (v:V) (l:List Int):Prop:=v=encI l∨aN H v 1 (aO l)
def jG (H:View) (u:V) (out:List (List Int)):Prop:=∃S:List (V × List Int),S.map (·.2)=out/\aN H u 1 (S.map λx=>[x.1])/\∀x∈S,xK H x.1 x.2/\∀id,owner x.1=some id->owner u≠some id
theorem xK.keep {H H':View} {v:V} {l:List Int} (h:xK H v l) (hk:∀id,H id≠.dead->owner v=some id->H' id=H id):xK H' v l:=by
 rcases h with h | h
 .exact .inl h
 .exact .inr (h.keep λid a=>hk id (by rw[(h.live a).1];simp) a)
theorem xK.live {H:View} {v:V} {l:List Int} (h:xK H v l) {id:Nat} (a:owner v=some id):H id≠.dead:=by
 rcases h with rfl | h
 .simp[owner,encI] at a
 .rw[(h.live a).1];simp
theorem xK.ok {H:View} {v:V} {l:List Int} (h:xK H v l):aK v=true:=by
 rcases h with rfl | h
 .rfl
 .exact h.eL
theorem jG.nil {H:View} : jG H (.emp 1) []:=⟨[],rfl,.nil,by simp⟩
theorem jG.stay {H H':View} {u:V} {out:List (List Int)} (h:jG H u out) (b:oP H H'):jG H' u out:=by
 obtain⟨S,h1,c,d⟩:=h
 exact⟨S,h1,c.keep λid a=>b id (by rw[(c.live a).1];simp),λx e=>⟨(d x e).1.keep λid f _=>b id f,(d x e).2⟩⟩
theorem jG.app {H:View} {u v:V} {out:List (List Int)} {w:List Int} {K:V->View->Prop} {z:dd (H,K)} (h:jG H u out) (e:xK H v w) (d:∀id,owner v=some id->owner u≠some id) (k:out.length<=100000)
  (hk:∀u' H',jG H' u' (out++[w])->K u' H'):nA 1 24 u [[v]] H K z:=by
 obtain⟨S,h1,g,i⟩:=h
 have l:S.length=out.length:=by rw[<-h1];simp
 refine kX g (by simp) (by simp[e.ok]) (by unfold aE;simp;omega) (by unfold aE;simp;omega) λu' H' j f=>hk u' H' ⟨S++[(v,w)],by simp[h1],by simpa using j,λx c=>?_⟩
 have a:xK H x.1 x.2/\∀id,owner x.1=some id->owner u≠some id:=by
  rcases abq.1 c with c | c
  .exact i x c
  .simp at c;subst c;exact⟨e,d⟩
 exact⟨a.1.keep λid d b=>(f id d (a.2 id b)).1,λid b=>(f id (a.1.live b) (a.2 id b)).2⟩
theorem jG.fr {h:Heap} {u:V} {out:List (List Int)} (c:jG h.view u out):Fr h u (Fv out):=by
 obtain⟨S,h1,d,f⟩:=c
 subst h1
 rcases d with ⟨e,k,rfl⟩ | ⟨n,rfl,g⟩
 .have:S=[]:=List.map_eq_nil_iff.1 e
  subst this
  exact .emp k
 .refine .sl n 0 _ 1 1 _ _ g (by simp) (by simp) (λi hi=>?_) (λi j hi b=>?_)
  .simp only[abc] at hi
   simp[hi]
  .simp only[abc] at hi
   have a:j=0:=by
    simp[hi] at b
    exact b
   subst a
   have l:=(f S[i] (abe _)).1
   simp only[aa7,abX,aba,aa8 hi,abk,abp,abB]
   rcases l with e | e
   .rw[e];exact .tree _ (bg _)
   .exact cm.xL e h rfl
theorem oP.fresh {H H1:View} {u:V} (h:cn H H1 u):oP H H1:=λid a=>(h id a).1
theorem oP.left {H H1 d:View} {u r:V} (h1:cn H H1 u) (e:Left H1 d u r):oP H d:=λid c=>by
 obtain⟨a,b⟩:=h1 id c
 exact((e id (by rw[a];exact c) b).1).trans a
theorem jG.off {H H1:View} {u v:V} {out:List (List Int)} (h:jG H u out) (h1:cn H H1 v):∀id,owner v=some id->owner u≠some id:=λid a hu=>by
 obtain⟨S,_,b,_⟩:=h
 exact(h1 id (by rw[(b.live hu).1];simp)).2 a
theorem jG.aah {H H1 e:View} {u v r:V} {out:List (List Int)} (h:jG H u out) (h1:cn H H1 v) (f:Left H1 e v r):∀id,owner r=some id->owner u≠some id:=λid c hu=>by
 obtain⟨S,_,g,_⟩:=h
 have d:H id≠.dead:=by rw[(g.live hu).1];simp
 obtain⟨a,b⟩:=h1 id d
 exact(f id (by rw[a];exact d) b).2 c
theorem Nb (hI:CX) (R:Pz) (g:ak) (hg:g.Ok) (hs:g.Small) (hT:g.ax.length<=1000) (m:Int) (b:ix) (b1:b.word.length<=100) (b2:0<=b.len/\b.len<=b.word.length) (b3:∀x∈b.word,bm x) (ab:bm b.state)
  (h0:∀x:List Int,(∀y∈x,y∈b.word∨(0<=y/\y<g.ax.length))->(x.length:Int)<=m->(k6 g x).2=0):
  aC aa 83 [.agg (ke g m),.agg (iw b)] (Fv (ky g b m)):=by
 refine aC.of (by
  intro v E;simp at E
  rcases E with rfl | rfl
  .exact mM g m
  .exact bW _ λv E=>by
    simp[iw] at E
    rcases E with rfl | rfl | rfl
    .exact .val _
    .exact .val _
    .exact bg _) ?_
 obtain⟨p,hp⟩:∃p:Nat,b.len=p:=⟨b.len.toNat,by omega⟩
 have c:=λ(t:Nat) (ht:t<g.ax.length)=>WT hI g hg hs m b.word b1 b3 p (by omega) t (by unfold bm;omega) (λx N hl=>h0 x (λy j=>(N y j).imp id λe=>by omega) hl)
 have d:=λ(x:List Int) (N:∀y∈x,y∈b.word) (hl:x.length<=100)=>N1 g hg hs x (by unfold aG;omega) (λy j=>b3 y (N y j)) m (h0 x λy j=>.inl (N y j))
 have F:=λt=>xj g b m t
 have G:=Ez g b m
 unfold ky
 rw[show b.len.toNat=p by omega] at *
 have a:cE (encI b.word)=some b.word.length:=by simp[cE,encI]
 have S:c6 1 (encI b.word) none (some (gi p))=some (encI (b.word.take p),.none,[]):=uU (l:=b.word) (k:=p) (by omega)
 refine az.of mixed uZ ?_
 have H:aK (encI b.word)=true:=rfl
 simp(disch:=omega)only[↓wr,seval,wq,nZ,ke,encS,iw,H]
 refine aW.up g.ax.length (λt T H'=>∃u,jG H' u (oS g b m t)/\T 2=.aR (ke g m) 0/\T 4=u/\T 5=encI b.word/\T 6=gi p/\T 19=gi g.ax.length/\T 20=gi t) ⟨.emp 1,by simpa [oS] using jG.nil,rfl,rfl,rfl,by show gi b.len=_;rw[hp],rfl,rfl⟩ ?_
 rintro t kt T H1 I ⟨u,o,t2,t4,t5,t6,t19,t20⟩
 simp(disch:=omega)only[↓wr,seval,wq,mA,t19,t20,ke,encS]
 have U:=G t
 apply ao.dec<;>intro hc
 .have h3:=c t (by omega)
  have n:=F t
  generalize im g b.word p t m=x at *
  simp only[ke,encS] at h3
  simp(disch:=omega)only[↓wr,seval,wq,t2,t5,t6,t20,ke,encS]
  refine ay.pure h3 ?_
  simp(disch:=omega)only[↓wr,seval,wq,L5]
  apply ao.split<;>intro z
  .rw[abb z] at n
   simp(disch:=omega)only[↓wr,seval,wq,t4]
   intro q A
   simp(disch:=omega)only[↓wr,seval,wq,bD]
   refine jG.app (o.stay ((oP.refl _).set A)) (.inl rfl) (λid V=>by simp[owner,encI] at V) (by omega) ?_
   intro u3 H3 O
   simp(disch:=omega)only[↓wr,seval,wq,t5,t20]
   exact aF I (by omega) ⟨u3,by rw[n];exact O,t2,rfl,t5,t6,t19,rfl⟩
  .rw[aa9 (by rw[z];simp),abV] at n
   simp(disch:=omega)only[↓wr,seval,wq,t4,t5,t20]
   exact aF I (by omega) ⟨u,by rw[n];exact o,t2,t4,t5,t6,t19,rfl⟩
 obtain rfl:t=g.ax.length:=by omega
 have f:=d (dE b.word p 1 []) (λy j=>(vg j).elim id (λh=>by simp at h)) (by unfold dE;simp;omega)
 have i:=d (b.word.take p) (λy j=>acA j) (by simp;omega)
 clear d c F G
 generalize oS g b m g.ax.length=D at o U ⊢
 simp only[ke,encS] at f i
 simp(disch:=omega)only[↓wr,seval,wq,t4,t5,t6,a]
 apply ao.dec<;>intro d1
 rotate_left
 have P:=o
 have J:D++(if b.len<b.word.length/\fQ g (dE b.word p 1 []) m=true then [dE b.word p 1 []] else [])=D:=by rw[aa9 (λh=>by omega),abV]
 rotate_left
 simp(disch:=omega)only[↓wr,seval,wq,t5,t6]
 refine ay.cF ((Bu b.word (by omega) (encI b.word) _ (.inl rfl)).mono ?_)
 rintro v H2 ⟨ov,fv⟩
 have W:=ov.eL
 simp(disch:=omega)only[↓wr,seval,wq,t5,t6]
 refine ay.cF ((R _ v b.word p ov (by omega) (by omega)).mono ?_)
 rintro r H3 ⟨or,lr⟩
 have B:=or.eL
 have C:=or.cells
 have K:=o.aah fv lr
 have O:=o.stay (oP.left fv lr)
 simp(disch:=omega)only[↓wr,seval,wq,t2,t5,t6,ke,encS]
 refine ay.Av f (by kernel_rfl) (.val _) ⟨.tree (mM g m),.xL or,trivial⟩ ?_
 simp(disch:=omega)only[↓wr,seval,wq]
 apply ao.split<;>intro X
 rotate_left
 have P:=O
 have J:D++(if b.len<b.word.length/\fQ g (dE b.word p 1 []) m=true then [dE b.word p 1 []] else [])=D:=by rw[aa9 (λh=>by rw[X] at h;simp at h),abV]
 rotate_left 2
 simp(disch:=omega)only[↓wr,seval,wq,t4,t5,t6,B,C]
 intro q A
 simp(disch:=omega)only[↓wr,seval,wq,bD]
 refine jG.app (O.stay ((oP.refl _).set A)) (.inr (or.fresh A)) K (by omega) ?_
 intro u4 H4 P
 have J:D++(if b.len<b.word.length/\fQ g (dE b.word p 1 []) m=true then [dE b.word p 1 []] else [])=D++[dE b.word p 1 []]:=by rw[abb (⟨by omega,X⟩:b.len<b.word.length/\_)]
 all_goals (
  simp(disch:=omega)only[↓wr,seval,wq,t5,t6,S]
  refine ay.cF ((Bu (b.word.take p) (by simp;omega) (encI (b.word.take p)) _ (.inl rfl)).mono ?_)
  rintro y H5 ⟨Q,fy⟩
  have s:=Q.eL
  have w:=Q.cells
  have L:=P.off fy
  have Y:=P.stay (oP.fresh fy)
  simp(disch:=omega)only[↓wr,seval,wq,t5,t6,a]
  apply ao.dec<;>intro d2
  .simp(disch:=omega)only[↓wr,seval,wq,t2,t5,t6,ke,encS]
   refine ay.Av i (by kernel_rfl) (.val _) ⟨.tree (mM g m),.xL Q,trivial⟩ ?_
   simp(disch:=omega)only[↓wr,seval,wq]
   apply ao.split<;>intro Z
   .simp(disch:=omega)only[↓wr,seval,wq,t4,t5,t6,s,w]
    intro q A
    simp(disch:=omega)only[↓wr,seval,wq,bD]
    refine jG.app (Y.stay ((oP.refl _).set A)) (.inr (Q.fresh A)) L (by first | omega | (simp;omega)) ?_
    intro u6 H6 o6
    simp(disch:=omega)only[↓wr,seval,wq]
    intro h' M
    rw[J,abb (⟨by omega,Z⟩:b.len+1<b.word.length/\_)]
    exact jG.fr (M▸o6)
   .simp(disch:=omega)only[↓wr,seval,wq,t4]
    intro h' M
    rw[J,aa9 (λh=>by rw[Z] at h;simp at h),abV]
    exact jG.fr (M▸Y)
  .simp(disch:=omega)only[↓wr,seval,wq,t4]
   intro h' M
   rw[J,aa9 (λh=>by omega),abV]
   exact jG.fr (M▸Y))
def xh:SC:=
 ai [ag [aS 42 .lss 41 40],bO 42 (.exit 2),.block 3 (ai [ag [aL 43 1 39 41,au 44 43,af 12 44],ag [af 45 8,aw 46 0 10,au 47 46,af 48 12,((some 49),.op (.build [(.val (.int .i64 0)),(.val (.int .i64 0)),(.emp 1)] [(0,1,(.val (.val (.int .i64 2)))),(1,1,(.tmp 47)),(2,1,(.tmp 48))])),((some 50),.op (.bH 1 3 [(.val (.int .i64 0)),(.val (.int .i64 0)),(.emp 1)] [(0,(.tmp 49))])),eZ 51 3 40 45 50,af 8 51]]),ag [aI 52 .add 41 1,af 41 52]]
def xk:SC:=
 ai [ag [aS 32 .lss 31 30],bO 32 (.exit 0),.block 1 (ai [ag [aL 33 3 29 31,aV 34 3 33,((some 10),.op (.alloc [(.val (.int .i64 0)),(.val (.int .i64 0)),(.emp 1)])),cz 3 10 34],ai [ag [aV 35 4 2,af 36 1,((some 37),.op (.build [(.emp 1),(.emp 1),(.emp 1),(.val (.int .i64 0)),(.val (.int .i64 0))] [(0,4,(.tmp 35)),(4,1,(.tmp 36))])),aV 38 3 10,aU 39 83 [37,38],aM 40 39,aT 41 0],bR 2 xh],ag [af 53 8,aM 54 53,aI 55 .gtr 54 2000],aX 55 (ai [ag [bL 4 1,aT 5 13],.ret])]),ag [aI 56 .add 31 1,af 31 56]]
def AK:SF:=⟨ai [ag [bZ 2 0,bL 4 1,aT 5 0],ai [.region false [⟨none,[aV 13 4 2,aU 14 82 [13],cO 15 14,af 16 15]⟩,⟨(some (16,false)),[af 17 1,aU 18 79 [17],cO 19 18]⟩,⟨none,[cJ 20 16 19]⟩],aX 20 (ai [ag [bL 4 1,aT 5 1],.ret])],ag [aV 22 4 2,aU 23 28 [22],af 21 23,c7 24 0 21,c7 25 1 21,af 6 24,af 7 25],ai [ag [af 26 7,aI 27 .neq 26 0],aX 27 (ai [ag [af 28 7,bL 4 1,af 5 28],.ret])],ag [bL 8 1],ai [ag [af 29 6,aM 30 29,aT 31 0],bR 0 xk],ag [af 57 8,af 4 57,aT 5 0],.ret],
 [.tmp 4,.tmp 5],58⟩
theorem D4:aJ aa 41 [2]=some AK:=by kernel_rfl
theorem Wf (W:CX) (X:Pz) (g:ak) (G:g.Ok) (H:g.Small) (m:Int) (S:∀b∈(cB g).1,b.word.length<=100/\(0<=b.len/\b.len<=b.word.length)/\(∀x∈b.word,bm x)/\bm b.state) (Y:(cB g).1.length<=1000) (Z:g.ax.length<=1000)
  (B:m<=60->∀b∈(cB g).1,∀x:List Int,(∀y∈x,y∈b.word∨(0<=y/\y<g.ax.length))->(x.length:Int)<=m->(k6 g x).2=0):
  aC aa 41 [.agg (aj g),gi m] (sJ (fZ g m)):=by
 refine aC.of (by
  intro v D;simp at D
  rcases D with rfl | rfl
  .exact dy g _ (by simp)
  .exact .val _) ?_
 have h1:=Uk g G H
 have I:=Rt g G H
 have U:=Oq m
 have bad:¬ (isRed g=true/\0<=m/\m<=60)->∀h:Heap,Fr h (.bc [.emp 1,gi 1]) (sJ (fZ g m)):=λJ h=>by
  unfold fZ
  rw[aa9 J]
  exact s7 (.emp 1)
 refine az.of mixed D4 ?_
 simp only[aj,encS] at h1 I
 simp(disch:=omega)only[↓wr,seval,wq,AK,aj,encS]
 refine ay.pure h1 ?_
 simp(disch:=omega)only[↓wr,seval,wq]
 apply ao.split<;>intro hi
 rotate_left
 .simp(disch:=omega)only[↓wr,seval,wq]
  exact λn _=>bad (λh=>by rw[hi] at h;simp at h) n
 simp(disch:=omega)only[↓wr,seval,wq]
 refine ay.pure U ?_
 simp(disch:=omega)only[↓wr,seval,wq]
 apply ao.split<;>intro hm
 rotate_left
 .simp(disch:=omega)only[↓wr,seval,wq]
  exact λn _=>bad (λh=>by
   rw[abJ h.2.1,abJ h.2.2] at hm
   simp at hm) n
 rw[abh,abn,abn] at hm
 simp(disch:=omega)only[↓wr,seval,wq]
 refine ay.pure I ?_
 have r:fZ g m=if (cB g).2≠0 then ([],(cB g).2) else if 2000<((cB g).1.flatMap (dt g m)).length then ([],13) else ((cB g).1.flatMap (dt g m),0):=by
  unfold fZ
  rw[abb ⟨hi,hm⟩]
 rw[r]
 have B:=B hm.2
 clear bad r h1 I U
 generalize cB g=x at *
 obtain⟨l,e⟩:=x
 simp only at S Y B
 simp(disch:=omega)only[↓wr,seval,wq,zq]
 apply ao.ne<;>intro he
 .rw[abb he]
  simp(disch:=omega)only[↓wr,seval,wq]
  exact λn _=>s7 (.emp 1)
 rw[aa9 (λh=>h he)]
 simp(disch:=omega)only[↓wr,seval,wq]
 refine aW.up l.length (λi T H'=>∃u,aN H' u 3 (((l.take i).flatMap (dt g m)).map kh)/\((l.take i).flatMap (dt g m)).length<=2000/\T 1=gi m/\T 2=.aR (aj g) 0/\T 8=u/\T 29=.aY (l.map iw)/\T 30=gi l.length/\T 31=gi i) ⟨.emp 1,.nil,by simp,rfl,rfl,rfl,rfl,rfl,rfl⟩ ?_
 rintro i k T H1 hk ⟨u,a,K,t1,t2,t8,t29,t30,t31⟩
 simp(disch:=omega)only[↓wr,seval,wq,xk,t30,t31]
 apply ao.dec<;>intro J
 rotate_left
 .obtain rfl:i=l.length:=by omega
  rw[acu] at *
  rw[aa9 (by omega)]
  simp(disch:=omega)only[↓wr,seval,wq,t8]
  exact λn hh=>s7 (cm.own a (λe he v D=>by
   obtain⟨c,_,rfl⟩:=abt.1 he
   exact s0 c v D) n hh)
 have E:l[i]?=some (l[i]'(by omega)):=aa8 (by omega)
 have d:=abi E
 have o:(l.take (i+1)).flatMap (dt g m)=(l.take i).flatMap (dt g m)++dt g m (l[i]'(by omega)):=by
  rw[abr,E,List.flatMap_append];simp
 have V:((l.take (i+1)).flatMap (dt g m)).length<=(l.flatMap (dt g m)).length:=by
  have:=ach List.length (ach (List.flatMap (dt g m)) (ac8 (i+1) l))
  rw[List.flatMap_append,abv] at this
  omega
 generalize l[i]'(by omega)=b at E d o
 obtain⟨b1,b2,b3,b5⟩:=S b d
 have p:=Nb W X g G H Z m b b1 b2 b3 b5 (B b d)
 have s:dt g m b=Dq b.state (ky g b m):=rfl
 have L:=D6 g b m
 generalize ky g b m=M at p s L
 generalize (l.take i).flatMap (dt g m)=C at a K o
 have N:aK (encI b.word)=true:=rfl
 simp only[ke,encS,iw] at p
 simp(disch:=omega)only[↓wr,seval,wq,t1,t2,t29,t31,aba,E,iw,aj,encS,N]
 intro y O
 refine ay.pure p ?_
 have f:owner u≠some y:=a.ne O
 simp(disch:=omega)only[↓wr,seval,wq,Fv]
 refine aW.up M.length (λj T H'=>∃u,aN H' u 3 ((C++Dq b.state (M.take j)).map kh)/\H' y=.arr 3 [iw b]/\owner u≠some y/\T 1=gi m/\T 2=.aR (aj g) 0/\T 8=u/\T 10=.ptr y 0 0/\T 29=.aY (l.map iw)/\T 30=gi l.length/\T 31=gi i/\T 39=Fv M/\T 40=gi M.length/\T 41=gi j)
  ⟨u,by simpa using (a.fresh O).other f,(by simp[View.set];rfl),f,t1,t2,t8,rfl,t29,t30,t31,rfl,rfl,rfl⟩ ?_
 clear a f O t1 t2 t8 t29 t30 t31
 rintro j kj T H2 P ⟨u,a,F,f,t1,t2,t8,t10,t29,t30,t31,t39,t40,t41⟩
 simp(disch:=omega)only[↓wr,seval,wq,xh,t40,t41]
 apply ao.dec<;>intro Q
 .have hw:M[j]?=some (M[j]'(by omega)):=aa8 (by omega)
  have t:M.take (j+1)=M.take j++[M[j]'(by omega)]:=by rw[abr,hw];rfl
  generalize M[j]'(by omega)=w at hw t
  simp(disch:=omega)only[↓wr,seval,wq,t8,t10,t39,t41,Fv,aba,hw,F,iw,encI]
  intro q R
  have z:q≠y:=by rintro rfl;rw[F] at R;simp at R
  simp(disch:=omega)only[↓wr,seval,wq,bD]
  refine kX (a.fresh R) (by simp) (by simp[aK]) (by unfold aE;simp;omega) (by unfold aE;simp;omega) λu' H' h4 h5=>?_
  simp(disch:=omega)only[↓wr,seval,wq,t31,t41]
  have A:=h5 y (by simp[View.set,Ne.symm z,F]) f
  refine aF P (by omega) ⟨u',?_,(by rw[A.1];simp[View.set,Ne.symm z,F];rfl),A.2,t1,t2,rfl,t10,t29,t30,t31,t39,t40,rfl⟩
  rw[t,PK]
  exact h4
 obtain rfl:j=M.length:=by omega
 rw[acu] at a
 rw[<-s,<-o] at a
 have hlen:=a.len
 rw[abc] at hlen
 simp(disch:=omega)only[↓wr,seval,wq,t8,t31,hlen]
 apply ao.dec<;>intro hb
 .rw[abb (by omega)]
  simp(disch:=omega)only[↓wr,seval,wq]
  exact λn _=>s7 (.emp 1)
 .simp(disch:=omega)only[↓wr,seval,wq,t8,t31]
  exact aF hk (by omega) ⟨u,a,by omega,t1,t2,t8,t29,t30,rfl⟩
open Go Go.Lib
theorem Eb {P:Program} (w:World) (z F e:TypeId) (A:P.underlying z=some (.slice e)) (size:Nat) (B:∀w,(Go.sizeOf e).run P w=.ok size w) (q:size≠0)
  (a b:Addr) (C G:Nat) (r:C≠0) (g:a.block≠b.block) (H I:TypeId) (m n:Nat)
  (h:w.shape? a.block=some (H,m)) (i:w.shape? b.block=some (I,n)) (D:m≠0) (s:n≠0)
  (j:w.frozen? a=false) (t:w.frozen? b=false):
  ∃o E,(E=w∨E=w.drew)/\∀p u,p≠0->(Extern.SlicesOverlaps.overlaps #[z,z] #[F] #[.slice (some a) C G,.slice (some b) p u]).run P w=.ok (.bool o) E:=by
 cases k:w.frozen? { block:=a.block,off:=m } with
 | false=>exact⟨false,w,.inl rfl,λp u _=>run_overlaps_apart w z F e A size B a b C G p u g H I m n h i s j k⟩
 | true =>
  have v:(a.block != b.block)=true:=by simpa using g
  have c:(a.block==b.block)=false:=by simpa using g
  have y:∀(x:TypeDesc) (f:TypeDesc->Sem Value),Sem.bind (pure x) f=f x:=λ_ _=>rfl
  cases n with
  | zero=>exact absurd rfl s
  | succ n =>
   cases m with
   | zero=>exact absurd rfl D
   | succ m =>
    cases d:w.frozen? { block:=b.block,off:=n+1 } with
    | false =>
     refine⟨false,w,.inl rfl,λp u l=>?_⟩
     conv=>lhs;arg 2;whnf
     simp[Sem.bind,y,A,B,r,l,q,v,c,frozen,noView,viewAt,mayBeOne,stringish,shape,Sem.run,h,i,j,t,k,d]
    | true =>
     exact⟨_,w.drew,.inr rfl,λp u l=>by
      conv=>lhs;arg 2;whnf
      simp[Sem.bind,y,A,B,r,l,q,v,c,frozen,noView,viewAt,mayBeOne,stringish,shape,choose,Sem.run,h,i,j,t,k,d]
      rfl⟩
open Go Go.Lib Go.Proofs Go.Shelf Go.RowKit
theorem Nu {P:Program} {ρ:Ren} (L:Lays2.n21 P ρ) (b off n c i vb voff m vc:Nat) (vs:List Value) (w W0:World) (hi:i<n) (hm:0<m) (hroom:n+m<=c) (hc63:n+m<=9223372036854775807) (hvb:vb≠b)
  (hvl:vs.length=m) (hsp:∀j,j<n+m->(w.cell? ⟨b,off+j,none⟩).isSome=true) (hfz:∀j,j<n+m->w.frozen? ⟨b,off+j,none⟩=false)
  (hvs:∀j v,vs[j]?=some v->w.cell? ⟨vb,voff+j,none⟩=some v) (h1v:∀v∈vs,v.oneCell'=true)
  (hov:∀lb cb,lb≠0->(callFunc (ρ.f 27) #[.slice (some ⟨vb,voff,none⟩) m vc,.slice (some ⟨b,off+(i+m),none⟩) lb cb]).run P w=.ok (.value (.bool true)) W0)
  (hW:∀x,W0.cell? x=w.cell? x) (hF:∀x,W0.frozen? x=w.frozen? x) (Q:World->Prop)
  (hrot:Calls P (ρ.f 28) #[.slice (some ⟨b,off+i,none⟩) (n+m-i) (c-i),.int .i64 m] (W0.setCells b (off+n) vs) λe w'=>(∃x,e=.returned x)/\Q w')
  (hrot2:Calls P (ρ.f 28) #[.slice (some ⟨b,off+i,none⟩) (n+m-i) (c-i),.int .i64 m] (W0.drew.setCells b (off+n) vs) λe w'=>(∃x,e=.returned x)/\Q w'):
  Calls P (ρ.f 21) #[.slice (some ⟨b,off,none⟩) n c,.int .i64 i,.slice (some ⟨vb,voff,none⟩) m vc] w λe w' =>
   e=.returned (.slice (some ⟨b,off,none⟩) (n+m) c)/\Q w':=by
 have t0:=L.t0;have a0:=L.a0;have z0:=L.z0;have v0:=L.v0;have t3:=L.t3;have a3:=L.a3;have z3:=L.z3;have v3:=L.v3;have t4:=L.t4;have a4:=L.a4;have z4:=L.z4;have v4:=L.v4;have t22:=L.t22;have a22:=L.a22;have z22:=L.z22;have v22:=L.v22
 have u0:=run_underlying L.t0;have u3:=run_underlying L.t3;have u4:=run_underlying L.t4;have u22:=run_underlying L.t22
 have e28:∀args w,(callFunc (ρ.f 28) args).run P w=.ok (.enter (ρ.f 28) args) w:=enters_of L.f28 (by kernel_rfl) rfl
 have hz1:¬ ((m:Int)=0):=by omega
 have hz2:¬ ((i:Int)=(n:Int)):=by omega
 have hsz:(P.info? (ρ.t 3)).map (·.size)=some 1:=by
  obtain⟨i0,hi0,h0,h1,h2⟩:=info_parts L.i3
  rw[hi0];simp[h1]
 have mixed:=L.mixed
 have hw1:IntKind.i64.wrap ((i:Int)+(m:Int))=(i:Int)+(m:Int):=by rw[IntKind.wrap_i64];omega
 have hb1:(0:Int)<=(i:Int)+(m:Int):=by omega
 have hin:i<=n:=by omega
 have htn:((i:Int)+(m:Int)).toNat=i+m:=by omega
 have hb2:¬ (c=i+m):=by omega
 have hb3:(i:Int)<=(n:Int)+(m:Int):=by omega
 have hb4:¬ (c=i):=by omega
 have hb5:¬ (c=n):=by omega
 have hb6:(n:Int)<=(n:Int)+(m:Int):=by omega
 have hcp:∀(W:World),(∀x,W.cell? x=w.cell? x)->(∀x,W.frozen? x=w.frozen? x)->∀ty dc,(Builtin.copy_ #[(ρ.t 22),(ρ.t 22)] ty #[.slice (some ⟨b,off+n,none⟩) (n+m-n) dc,.slice (some ⟨vb,voff,none⟩) m vc]).run P W=.ok (goInt vs.length) (W.setCells b (off+n) vs):=λW hWc hWf ty dc =>
  run_copy_cells W _ _ ty (ρ.t 3) b (off+n) (n+m-n) dc ⟨vb,voff,none⟩ m vc vs L.t22 hsz (by rw[hvl];simp only[Nat.min_def];split<;>omega)
   (λj v hj=>by
    rw[Addr.add_lit,hWc]
    exact hvs j v hj)
   (λj hj=>by rw[hWc,abP];exact hsp _ (by omega)) (λj hj=>by rw[hWf,abP];exact hfz _ (by omega)) h1v
 have hcp0:∀ty dc,(Builtin.copy_ #[(ρ.t 22),(ρ.t 22)] ty #[.slice (some ⟨b,off+n,none⟩) m dc,.slice (some ⟨vb,voff,none⟩) m vc]).run P W0=.ok (goInt vs.length) (W0.setCells b (off+n) vs):=λty dc=>by
  have:=hcp W0 hW hF ty dc
  rwa [show n+m-n=m by omega] at this
 go_enter L.f21,Body2.n21_ntmps ρ
 go_wp2_with (first
  | (simp(disch:=omega)only[hov])
  | (at_builtin;refine wpList_copy_runI _ rfl _ _ (ρ.t 22) (ρ.t 22) rfl _ _ rfl rfl (hcp0 _ _) ?_)
  | (refine Calls.mono hrot ?_;rintro e w' ⟨⟨x,rfl⟩,hb⟩)
  | (refine Calls.mono hrot2 ?_;rintro e w' ⟨⟨x,rfl⟩,hb⟩))
 go_ret
 exact⟨rfl,hb⟩
theorem Lq {P:Program} {ρ:Ren} (L:Lays2.n21 P ρ) (b off n c i vb voff m vc:Nat) (cs vs:List Value) (w W0:World) (hi:i<n) (hm:0<m) (hroom:n+m<=c) (hc63:n+m<=9223372036854775807) (hvb:vb≠b)
  (hcl:cs.length=n) (hvl:vs.length=m) (hcs:∀j v,cs[j]?=some v->w.cell? ⟨b,off+j,none⟩=some v) (hsp:∀j,j<n+m->(w.cell? ⟨b,off+j,none⟩).isSome=true) (hfz:∀j,j<n+m->w.frozen? ⟨b,off+j,none⟩=false)
  (hvs:∀j v,vs[j]?=some v->w.cell? ⟨vb,voff+j,none⟩=some v) (h1c:∀v∈cs,v.oneCell'=true) (h1v:∀v∈vs,v.oneCell'=true)
  (hov:∀lb cb,lb≠0->(callFunc (ρ.f 27) #[.slice (some ⟨vb,voff,none⟩) m vc,.slice (some ⟨b,off+(i+m),none⟩) lb cb]).run P w=.ok (.value (.bool false)) W0)
  (hW:∀x,W0.cell? x=w.cell? x) (hF:∀x,W0.frozen? x=w.frozen? x):
  Calls P (ρ.f 21) #[.slice (some ⟨b,off,none⟩) n c,.int .i64 i,.slice (some ⟨vb,voff,none⟩) m vc] w λe w' =>
   e=.returned (.slice (some ⟨b,off,none⟩) (n+m) c)/\w'=(W0.drew.setCells b (off+(i+m)) (cs.drop i)).setCells b (off+i) vs:=by
 have t0:=L.t0;have a0:=L.a0;have z0:=L.z0;have v0:=L.v0;have t3:=L.t3;have a3:=L.a3;have z3:=L.z3;have v3:=L.v3;have t4:=L.t4;have a4:=L.a4;have z4:=L.z4;have v4:=L.v4;have t22:=L.t22;have a22:=L.a22;have z22:=L.z22;have v22:=L.v22
 have u0:=run_underlying L.t0;have u3:=run_underlying L.t3;have u4:=run_underlying L.t4;have u22:=run_underlying L.t22
 have hz1:¬ ((m:Int)=0):=by omega
 have hz2:¬ ((i:Int)=(n:Int)):=by omega
 have hsz:(P.info? (ρ.t 3)).map (·.size)=some 1:=by
  obtain⟨i0,hi0,h0,h1,h2⟩:=info_parts L.i3
  rw[hi0];simp[h1]
 have hdl:(cs.drop i).length=n-i:=by rw[List.length_drop,hcl]
 have mixed:=L.mixed
 have hw1:IntKind.i64.wrap ((i:Int)+(m:Int))=(i:Int)+(m:Int):=by rw[IntKind.wrap_i64];omega
 have hb1:(0:Int)<=(i:Int)+(m:Int):=by omega
 have hin:i<=n:=by omega
 have htn:((i:Int)+(m:Int)).toNat=i+m:=by omega
 have hb2:¬ (c=i+m):=by omega
 have hb3:(i:Int)<=(n:Int)+(m:Int):=by omega
 have hb4:¬ (c=i):=by omega
 have hcp1:∀ty dc sc,(Builtin.copy_ #[(ρ.t 22),(ρ.t 22)] ty #[.slice (some ⟨b,off+(i+m),none⟩) (n+m-(i+m)) dc,.slice (some ⟨b,off+i,none⟩) (n+m-i) sc]).run P W0.drew=.ok (goInt (cs.drop i).length) (W0.drew.setCells b (off+(i+m)) (cs.drop i)):=λty dc sc =>
  run_copy_cells W0.drew _ _ ty (ρ.t 3) b (off+(i+m)) (n+m-(i+m)) dc ⟨b,off+i,none⟩ (n+m-i) sc (cs.drop i) L.t22 hsz (by rw[hdl];simp only[Nat.min_def];split<;>omega)
   (λj v hj=>by rw[Addr.add_lit,abP];exact(hW _).trans (hcs (i+j) v (by rwa [acz] at hj)))
   (λj hj=>by rw[abP,show W0.drew.cell?=W0.cell? from rfl,hW];exact hsp _ (by omega)) (λj hj=>by rw[abP,show W0.drew.frozen?=W0.frozen? from rfl,hF];exact hfz _ (by omega)) (λv hv=>h1c v (List.mem_of_mem_drop hv))
 obtain⟨W1,hW1⟩:∃W1,W1=W0.drew.setCells b (off+(i+m)) (cs.drop i):=⟨_,rfl⟩
 have hsp1:∀k,k<n+m->(W1.cell? ⟨b,off+k,none⟩).isSome=true:=λk hk=>by
  rw[hW1]
  exact isSome_setCells b _ _ _ (λj hj=>by rw[abP,show W0.drew.cell?=W0.cell? from rfl,hW];exact hsp _ (by omega)) _ (by rw[show W0.drew.cell?=W0.cell? from rfl,hW];exact hsp k hk)
 have hcp2:∀(W:World),(∀x,W.cell? x=W1.cell? x)->(∀x,W.frozen? x=W1.frozen? x)->∀ty dc,(Builtin.copy_ #[(ρ.t 22),(ρ.t 22)] ty #[.slice (some ⟨b,off+i,none⟩) (n+m-i) dc,.slice (some ⟨vb,voff,none⟩) m vc]).run P W=.ok (goInt vs.length) (W.setCells b (off+i) vs):=λW hWc hWf ty dc =>
  run_copy_cells W _ _ ty (ρ.t 3) b (off+i) (n+m-i) dc ⟨vb,voff,none⟩ m vc vs L.t22 hsz (by rw[hvl];simp only[Nat.min_def];split<;>omega)
   (λj v hj=>by
    rw[Addr.add_lit,hWc,hW1,World.cell?_setCells_out b _ _ _ _ (λh _=>absurd h hvb)]
    exact(hW _).trans (hvs j v hj))
   (λj hj=>by rw[hWc,abP];exact hsp1 _ (by omega)) (λj hj=>by rw[hWf,hW1,World.frozen?_setCells,abP,show W0.drew.frozen?=W0.frozen? from rfl,hF];exact hfz _ (by omega)) h1v
 rw[<-hW1] at hcp1
 go_enter L.f21,Body2.n21_ntmps ρ
 go_wp2_with (simp(disch:=omega)only[hov])
 go_region_law_o (refine step_copy_runI rfl _ _ (ρ.t 22) (ρ.t 22) rfl _ _ (by simp[Act.eval,Act.put]) (by simp[Act.eval,Act.put]) (hcp1 _ _ _) ?_)
 go_wp2_with (at_builtin;refine wpList_copy_runI _ rfl _ _ (ρ.t 22) (ρ.t 22) rfl _ _ rfl rfl (hcp2 _ (λ_=>rfl) (λ_=>rfl) _ _) ?_)
 go_ret
 first | exact⟨rfl,rfl⟩ | exact⟨rfl,by rw[hW1]⟩
theorem MF {P:Program} {k:Ren} (L:Lays2.n21 P k) (b off n c i l a m u:Nat) (cs vs:List Value) (w:World) (hi:i<n) (hm:0<m) (g:n+m<=c) (p:n+m<=9223372036854775807) (r:l≠b)
  (F:cs.length=n) (y:vs.length=m) (G:∀j v,cs[j]?=some v->w.cell? ⟨b,off+j,none⟩=some v) (z:∀j,j<n+m->(w.cell? ⟨b,off+j,none⟩).isSome=true) (s:∀j,j<n+m->w.frozen? ⟨b,off+j,none⟩=false)
  (A:∀j v,vs[j]?=some v->w.cell? ⟨l,a+j,none⟩=some v) (H:∀v∈cs,v.oneCell'=true) (B:∀v∈vs,v.oneCell'=true)
  (U V:TypeId) (I J:Nat) (K:w.shape? l=some (U,I)) (M:w.shape? b=some (V,J)) (N:I≠0) (O:J≠0) (R:w.frozen? ⟨l,a,none⟩=false) (Q:World->Prop)
  (Y:∀d,(d=w∨d=w.drew)->Q ((d.drew.setCells b (off+(i+m)) (cs.drop i)).setCells b (off+i) vs))
  (q:∀d,(d=w∨d=w.drew∨d=w.drew.drew)->Calls P (k.f 28) #[.slice (some ⟨b,off+i,none⟩) (n+m-i) (c-i),.int .i64 m] (d.setCells b (off+n) vs) λe w'=>(∃x,e=.returned x)/\Q w'):
  Calls P (k.f 21) #[.slice (some ⟨b,off,none⟩) n c,.int .i64 i,.slice (some ⟨l,a,none⟩) m u] w λe w' =>
   e=.returned (.slice (some ⟨b,off,none⟩) (n+m) c)/\Q w':=by
 obtain⟨o,d,C,h⟩:=Eb w (k.t 22) (k.t 4) (k.t 3) L.t22 1 L.z3 (by decide) ⟨l,a,none⟩ ⟨b,off+(i+m),none⟩ m u (by omega) r U V I J K M N O R (s _ (by omega))
 have D:∀E S,E≠0->(callFunc (k.f 27) #[.slice (some ⟨l,a,none⟩) m u,.slice (some ⟨b,off+(i+m),none⟩) E S]).run P w=.ok (.value (.bool o)) d:=λE S T=>by
  rw[run_callFunc_extern L.f27 (by kernel_rfl) (by kernel_rfl) (by kernel_rfl) (e:=Extern.SlicesOverlaps.overlaps #[(k.t 22),(k.t 22)] #[(k.t 4)]) (by kernel_rfl),h E S T]
  rfl
 have W:∀x,d.cell? x=w.cell? x:=λx=>by rcases C with rfl | rfl<;>rfl
 have X:∀x,d.frozen? x=w.frozen? x:=λx=>by rcases C with rfl | rfl<;>rfl
 cases o with
 | false=>exact(Lq L b off n c i l a m u cs vs w d hi hm g p r F y G z s A H B D W X).mono λe w' ⟨h1,Z⟩=>⟨h1,by rw[Z];exact Y d C⟩
 | true=>exact Nu L b off n c i l a m u vs w d hi hm g p r y z s A B D W X Q (q d (C.imp id .inl)) (q d.drew (C.elim (λh=>.inr (.inl (by rw[h]))) (λh=>.inr (.inr (by rw[h])))))
theorem PC {P:Program} {ρ:Ren} (L:Lays2.n21 P ρ) (b off n c vb voff m vc:Nat) (vs:List Value) (w:World) (hm:0<m) (hroom:n+m<=c) (hc63:n+m<=9223372036854775807)
  (hvl:vs.length=m) (hsp:∀j,j<m->(w.cell? ⟨b,off+n+j,none⟩).isSome=true) (hfz:∀j,j<m->w.frozen? ⟨b,off+n+j,none⟩=false)
  (hvs:∀j v,vs[j]?=some v->w.cell? ⟨vb,voff+j,none⟩=some v) (h1v:∀v∈vs,v.oneCell'=true):
  Calls P (ρ.f 21) #[.slice (some ⟨b,off,none⟩) n c,.int .i64 n,.slice (some ⟨vb,voff,none⟩) m vc] w λe w' =>
   e=.returned (.slice (some ⟨b,off,none⟩) (n+m) c)/\w'=w.setCells b (off+n) vs:=by
 have t0:=L.t0;have a0:=L.a0;have z0:=L.z0;have v0:=L.v0;have t3:=L.t3;have a3:=L.a3;have z3:=L.z3;have v3:=L.v3;have t4:=L.t4;have a4:=L.a4;have z4:=L.z4;have v4:=L.v4;have t22:=L.t22;have a22:=L.a22;have z22:=L.z22;have v22:=L.v22
 have u0:=run_underlying L.t0;have u3:=run_underlying L.t3;have u4:=run_underlying L.t4;have u22:=run_underlying L.t22
 have mixed:=L.mixed
 have hz1:¬ ((m:Int)=0):=by omega
 have hsrc:Src P 1 (ρ.t 22) (.slice (some ⟨vb,voff,none⟩) m vc) m vs w:=Src.ofSlice w L.t22 ⟨vb,voff,none⟩ m vc vs (by omega) (λj u hj=>by rw[Addr.add_lit];exact hvs j u hj) h1v
 go_enter L.f21,Body2.n21_ntmps ρ
 go_wp2_with (at_builtin;refine wpList_append_room1 _ rfl _ _ (ρ.t 22) (ρ.t 22) rfl (ρ.t 3) _ _ L.t22 L.i3 b off n c rfl _ rfl m vs hsrc hroom (by rw[hvl];exact hsp) (by rw[hvl];exact hfz) ?_)
 go_ret
 exact⟨rfl,rfl⟩
end
end Gv
