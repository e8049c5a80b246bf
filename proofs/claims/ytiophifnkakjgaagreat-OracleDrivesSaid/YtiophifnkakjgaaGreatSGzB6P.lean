/-
  Part 16 of the proof: what the machine does and what the functions answer.
  Conditions: those that each lemma names.
-/
import Derived.Test.YtiophifnkakjgaaGreatSGzB6O
set_option linter.unusedSimpArgs false
set_option linter.unusedVariables false
set_option maxRecDepth 100000
set_option maxHeartbeats 20000000
namespace Gv
open Go Go.Proofs
def LF (c:pD):List V:=[gi c.state,gi c.term,gi c.kind,gi c.al,gi c.other]
def lN (l:List pD):List (List V):=l.map LF
theorem kR (l:List pD):(lN l).length=l.length:=by simp[lN]
theorem GN {h:aB} {u:V} {l:List pD} (b:aZ h.view u 5 (lN l)):cM h u (.aS (lN l)):=by
 refine cM.own b rfl (λi _=>rfl) (λi j hi a=>?_)
 rw[kR] at hi
 have e:(lN l).getD i []=LF l[i]:=by simp[lN,U5,hi]
 rw[e] at a ⊢
 match j,a with
 | 0,_=>exact .val _
 | 1,_=>exact .val _
 | 2,_=>exact .val _
 | 3,_=>exact .val _
 | 4,_=>exact .val _
theorem zP {h:aB} {u v:V} {c:Cell} (hu:cM h u v):cM h (.bm [.agg [gi c.kind,gi c.n],u]) (.bm [.agg (cK c),v]):=.bm _ _ rfl λi hi=>by
 match i,hi with
 | 0,_=>exact I1 (.val _) (.val _)
 | 1,_=>exact hu
def nJ:SC :=
 af [af [ab [aa 29 15,aa 30 13,aP 31 30,aV 32 .lss 29 31],bW 32 (.exit 0)],.block 1 (ab [aa 35 14,aa 36 3,aa 37 4,aa 38 13,aa 39 15,aM 40 1 38 39,aj 41 40,aa 42 13,((some 43),.op (.idx 1 (.tmp 42) (.val (.val (.int .i64 0))))),aj 44 43,((some 45),.op (.build [(.val (.int .i64 0)),(.val (.int .i64 0)),(.val (.int .i64 0)),(.val (.int .i64 0)),(.val (.int .i64 0))] [(0,1,(.tmp 36)),(1,1,(.tmp 37)),(2,1,(.val (.val (.int .i64 5)))),(3,1,(.tmp 41)),(4,1,(.tmp 44))])),((some 46),.op (.bG 1 5 [(.val (.int .i64 0)),(.val (.int .i64 0)),(.val (.int .i64 0)),(.val (.int .i64 0)),(.val (.int .i64 0))] [(0,(.tmp 45))])),fM 47 5 40 35 46,aa 14 47]),ab [aa 33 15,aE 34 .add 33 1,aa 15 34]]
def qm:SF:=⟨af [ab [cd 5 0,cd 6 1,((some 10),.op (.alloc [(.val (.int .i64 0)),(.val (.int .i64 0))])),ct 11 1],ab [aU 18 4 5,aU 19 2 6,aa 20 4,ba 21 101 [18,19,20],((some 12),.op (.alloc [(.val (.int .i64 0)),(.val (.int .i64 0))])),cG 2 12 21],ab [aa 22 2,aa 23 4,ba 24 102 [22,23],aa 13 24],af [ab [aa 25 13,aP 26 25,aE 27 .eql 26 0],bg 27 (af [ab [aU 28 2 12,cG 2 10 28,ct 11 1],.ret])],ab [ct 14 1],af [ab [aT 15 1],bX 0 nJ],ab [aa 48 13,((some 49),.op (.idx 1 (.tmp 48) (.val (.val (.int .i64 0))))),aj 50 49,((some 51),.op (.build [(.val (.int .i64 0)),(.val (.int .i64 0))] [(0,1,(.val (.val (.int .i64 2)))),(1,1,(.tmp 50))])),((some 16),.op (.alloc [(.val (.int .i64 0)),(.val (.int .i64 0))])),cG 2 16 51],af [ab [au 52 0 12,aj 53 52,aE 54 .eql 53 0],bg 54 (af [ab [aU 55 2 16,aa 56 14,cG 2 10 55,aa 11 56],.ret])],ab [aU 57 4 5,aa 58 13,((some 59),.op (.idx 1 (.tmp 58) (.val (.val (.int .i64 0))))),aj 60 59,aa 61 4,ba 62 103 [57,60,61],aa 17 62],ab [aa 63 14,aa 64 3,aa 65 4,aa 66 17,aa 67 13,((some 68),.op (.idx 1 (.tmp 67) (.val (.val (.int .i64 0))))),aj 69 68,((some 70),.op (.build [(.val (.int .i64 0)),(.val (.int .i64 0)),(.val (.int .i64 0)),(.val (.int .i64 0)),(.val (.int .i64 0))] [(0,1,(.tmp 64)),(1,1,(.tmp 65)),(2,1,(.tmp 66)),(3,1,(.tmp 69)),(4,1,(.val (.val (.int .i64 (-1)))))])),((some 71),.op (.bG 1 5 [(.val (.int .i64 0)),(.val (.int .i64 0)),(.val (.int .i64 0)),(.val (.int .i64 0)),(.val (.int .i64 0))] [(0,(.tmp 70))])),fM 72 5 40 63 71,aa 14 72],af [ab [aa 73 17],.block 2 (af [ab [aE 75 .eql 73 1,aa 74 75],.cond (.tmp 74) (af [ab [aU 76 2 16,aa 77 14,cG 2 10 76,aa 11 77],.ret]) (af [ab [aE 79 .eql 73 3,aa 78 79],bg 78 (af [ab [((some 80),.op (.build [(.val (.int .i64 0)),(.val (.int .i64 0))] [])),aa 81 14,cG 2 10 80,aa 11 81],.ret])])])],ab [aU 82 2 12,aa 83 14,cG 2 10 82,aa 11 83],.ret],
 [.cell 10 (some 2),.tmp 11],84⟩
theorem uC:aQ Tryz.prog 49 [5,6]=some qm:=by kernel_rfl
theorem Cg (l:List cH) (n:Int):(dA l n).length<=l.length:=by
 unfold dA;rw[Vl];exact VY _ _
theorem Ml (g:ae) (X:g.Ok) (s:aR) (hs:aH s.bI/\aH s.aX) (l:List cH) (hl:l.length<=10000) (st t:Int):cx Tryz.prog 49 [.agg (ag g),.agg (eU s),.aS (lj l),gi st,gi t] (.bm [.agg (cK (dd g s l st t).1),.aS (lN (dd g s l st t).2)]):=by
 refine cx.of (by
  intro v e;simp at e
  rcases e with rfl | rfl | rfl | rfl | rfl
  .exact bz _ (bE g)
  .exact bz _ (vV s)
  .exact Jy _
  .exact .val _
  .exact .val _) ?_
 have D:=Kv g X s hs t
 have M:=(Kq l hl t).pure
 have E:=Cg l t
 refine aw.of mixed uC ?_
 simp only[ag,encS,eU] at D
 simp(disch:=omega)only[↓wr,seval,wq,qm,ag,encS,eU]
 intro b
 refine av.pure D ?_
 unfold dd
 generalize eY g s t=x
 have Y:=bH.nil.new (n:=b) (H:=λ_=>bT.dead) rfl 2 [[gi 0,gi 0]]
 simp(disch:=omega)only[↓wr,seval,wq,cK]
 intro d F
 rw[set_set]
 have w:=Y.new (n:=d) (by simpa [View.set] using F) 2 [[gi x.kind,gi x.n]]
 clear Y
 generalize (View.set (λ_=>bT.dead) b (.arr 2 [[gi 0,gi 0]])).set d (.arr 2 [[gi x.kind,gi x.n]])=H1 at w ⊢
 refine av.pure M ?_
 cases hr:dA l t with
 | nil =>
  have m:=w.is 0 rfl (by simp)
  have a:=w.is 1 rfl (by simp)
  simp(disch:=omega)only[↓wr,↓reduceIte,wq,Nat.reduceEqDiff,Nat.reduceAdd,Nat.reduceLT,Nat.reduceLeDiff,Int.reduceNeg,Int.reduceToNat,reduceCtorEq,encI]
  refine ah.eq (λ_=>?_) (λh=>absurd rfl h)
  simp(disch:=omega)only[↓wr,seval,wq,m,a]
  intro f _
  exact zP (.emp _)
 | cons r rs =>
  rw[hr] at E
  simp only[Vm] at E
  simp(disch:=omega)only[↓wr,seval,wq,encI]
  refine ah.eq (λh=>absurd h (by simp;omega)) (λ_=>?_)
  simp(disch:=omega)only[↓wr,seval,wq,encI]
  refine bc.up rs.length (λj T H'=>∃ u:V,bH H' [(u,5,lN (jt st t r (rs.take j))),(.sl d 0 1 2,2,[[gi x.kind,gi x.n]]),(.sl b 0 1 2,2,[[gi 0,gi 0]])]/\T 3=gi st/\T 4=gi t/\T 5=.aF (ag g) 0/\T 10=.ptr b 0 0/\T 12=.ptr d 0 0/\T 13=encI (r :: rs)/\T 14=u/\T 15=gi ((j:Int)+1)) ⟨.emp 1,w.emp,rfl,rfl,rfl,rfl,rfl,rfl,rfl,rfl⟩ ?_
  clear w
  rintro j k T H hk ⟨u,G,t3,t4,t5,t10,t12,t13,t14,t15⟩
  simp(disch:=omega)only[↓wr,seval,wq,nJ,t3,t4,t5,t10,t12,t13,t14,t15,encI]
  apply ah.dec<;>intro hc
  .have N:rs[j]?=some (rs[j]'(by omega)):=U6 (by omega)
   generalize rs[j]'(by omega)=y at N
   have O:([gi r] :: rs.map λx=>[gi x])[((j:Int)+1).toNat]?=some [gi y]:=by rw[show ((j:Int)+1).toNat=j+1 by omega];simp[N]
   have P:jt st t r (rs.take (j+1))=jt st t r (rs.take j) ++ [⟨st,t,5,y,r⟩]:=by
    rw[Vs,N];simp[jt]
   simp(disch:=omega)only[↓wr,seval,wq,t3,t4,t5,t10,t12,t13,t14,t15,encI,O,Vu]
   intro q Q
   simp(disch:=omega)only[↓wr,seval,wq,bt]
   refine cn (G.fresh Q) (by simp[aJ]) (by unfold aD;rw[kR];simp[jt];omega) (by unfold aD;rw[kR];simp[jt];omega) ?_
   intro L H2 w _
   simp(disch:=omega)only[↓wr,seval,wq,t3,t4,t5,t10,t12,t13,t14,t15]
   exact aI hk (by omega) ⟨L,by rw[P,lN,Vz];exact w,t3,t4,t5,t10,t12,t13,rfl,rfl⟩
  .rw[Vn (by omega)] at G
   simp(disch:=omega)only[↓wr,seval,wq,t3,t4,t5,t10,t12,t13,t14,t15,encI,Vu]
   intro z i
   rw[set_set]
   have C:=G.new i 2 [[gi 2,gi r]]
   have p:=G.is 1 rfl (by simp)
   have n12:¬ d=z:=by rintro rfl;rw[p] at i;simp at i
   clear G
   simp(disch:=omega)only[↓wr,seval,wq,n12,p]
   generalize H.set z (.arr 2 [[gi 2,gi r]])=H2 at C ⊢
   have A:=C.is 0 rfl (by simp)
   have m:=C.is 2 rfl (by simp)
   have a:=C.is 3 rfl (by simp)
   apply ah.eq<;>intro R
   .simp(disch:=omega)only[↓wr,seval,wq,t10,t12,t14,A,a]
    rintro f e
    rw[Va R]
    have I:=(C.at 3 (by simp)).put (es':=[[gi 2,gi r]]) rfl rfl
    simp only[VN,VJ,V5,V6] at I
    rw[<-e] at I
    exact zP (c:=⟨2,r⟩) (GN (I.own 2 rfl))
   .have J:=Ia g X r t
    simp only[ag,encS] at J
    simp(disch:=omega)only[↓wr,seval,wq,t3,t4,t5,t10,t12,t13,t14,encI,Vu,ag,encS]
    refine av.pure J ?_
    rw[U8 R]
    generalize kL g r t=B
    simp(disch:=omega)only[↓wr,seval,wq,t3,t4,t5,t10,t12,t13,t14,encI,Vu]
    intro q Q
    simp(disch:=omega)only[↓wr,seval,wq,bt]
    have I:=(C.fresh (o:=.arr 5 [[gi st,gi t,gi B,gi r,gi (-1)]]) Q).at 1 (by simp)
    refine cn I (by simp[aJ]) (by unfold aD;simp only[VN,VJ,kR];simp[jt];omega) (by unfold aD;simp only[VN,VJ,kR];simp[jt];omega) ?_
    intro L Z K _
    simp only[VN,VJ,V5,V6] at K
    have A:=K.is 1 rfl (by simp)
    have m:=K.is 2 rfl (by simp)
    have a:=K.is 3 rfl (by simp)
    have o6:bH Z ((L,5,lN (jt st t r rs ++ [⟨st,t,B,r,-1⟩])) :: [(.sl z 0 1 2,2,[[gi 2,gi r]]),(.sl d 0 1 2,2,[[gi x.kind,gi x.n]]),(.sl b 0 1 2,2,[[gi 0,gi 0]])]):=by
     rw[lN,Vz];exact K
    have fin:∀ (c:Cell) (f:aB),f.view=Z.set b (.arr 2 [cK c])->cM f (.bm [.agg [gi c.kind,gi c.n],L]) (.bm [.agg (cK c),.aS (lN (jt st t r rs ++ [⟨st,t,B,r,-1⟩]))]):=λc f e=>by
     have S:=(o6.at 3 (by simp)).put (es':=[cK c]) rfl rfl
     simp only[VN,VJ,V5,V6] at S
     rw[<-e] at S
     exact zP (GN (S.own 1 rfl))
    simp(disch:=omega)only[↓wr,seval,wq,t10,t12]
    apply ah.eq<;>intro U
    .simp(disch:=omega)only[↓wr,seval,wq,t10,A,a]
     rw[Va U]
     exact λf e=>fin ⟨2,r⟩ f e
    .simp(disch:=omega)only[↓wr,seval,wq,t10]
     rw[U8 U]
     apply ah.eq<;>intro W
     .simp(disch:=omega)only[↓wr,seval,wq,t10,a]
      rw[Va W]
      exact λf e=>fin ⟨0,0⟩ f e
     .simp(disch:=omega)only[↓wr,seval,wq,t10,t12,m,a]
      rw[U8 W]
      exact λf e=>fin x f e
def mw:SC :=
 af [af [ab [aa 40 13,au 41 0 1,aj 42 41,aP 43 42,aV 44 .leq 40 43],bW 44 (.exit 2)],.block 3 (af [.pf [] [⟨none,[aU 48 4 1,aa 49 5,aa 50 11,aM 51 2 49 50,aU 52 2 51,aa 53 7,aa 54 11,aM 55 1 53 54,aj 56 55,aa 57 11,aa 58 13,ba 59 49 [48,52,56,57,58],aa 47 59,cZ 60 0 47,cZ 61 1 47,((some 14),.op (.alloc [(.val (.int .i64 0)),(.val (.int .i64 0))])),cG 2 14 60,aa 15 61]⟩],ab [aa 62 12,aU 63 2 14,((some 64),.op (.bG 1 2 [(.val (.int .i64 0)),(.val (.int .i64 0))] [(0,(.tmp 63))])),fM 65 2 16 62 64,aa 12 65],ab [aa 66 10,aa 67 15,fM 68 5 40 66 67,aa 10 68]]),ab [aa 45 13,aE 46 .add 45 1,aa 13 46]]
def mC:SC :=
 af [af [ab [aa 69 17,au 70 1 1,aj 71 70,aP 72 71,aV 73 .lss 69 72],bW 73 (.exit 4)],.block 5 (af [ab [aa 77 5,aa 78 11,aa 79 17,((some 80),.op (.arith .sub (.val (.val (.int .i64 (-1)))) (.tmp 79))),((some 81),.op (.bG 1 1 [(.val (.int .i64 0))] [(0,(.tmp 80))])),ba 82 33 [77,78,81],aa 76 82,cZ 83 0 76,cZ 84 1 76,aa 18 83,aa 19 84],af [ab [aa 85 19,cb 86 85],bg 86 (ab [aT 18 (-1)])],ab [aa 87 16,aa 88 18,((some 89),.op (.bG 1 1 [(.val (.int .i64 0))] [(0,(.tmp 88))])),fM 90 1 8 87 89,aa 16 90]]),ab [aa 74 17,aE 75 .add 74 1,aa 17 75]]
def mJ:SC :=
 af [af [ab [aa 34 11,aa 35 5,aP 36 35,aV 37 .lss 34 36],bW 37 (.exit 0)],.block 1 (af [ab [ct 12 1],af [ab [aT 13 0],bX 2 mw],ab [ct 16 1],af [ab [aT 17 0],bX 4 mC],.pf [(96,92)] [⟨none,[au 91 0 9,aj 92 91,aa 93 12,((some 94),.op (.bG 1 1 [(.emp 1)] [(0,(.tmp 93))])),fM 95 1 24 92 94,au 96 1 9,aj 97 96,aa 98 16,((some 99),.op (.bG 1 1 [(.emp 1)] [(0,(.tmp 98))])),fM 100 1 24 97 99,au 101 0 9,cG 1 101 95,au 102 1 9,cG 1 102 100]⟩]]),ab [aa 38 11,aE 39 .add 38 1,aa 11 39]]
def oz:SF:=⟨af [ab [cd 1 0,((some 2),.op (.alloc [(.emp 1),(.emp 1)])),ct 3 1,aT 4 0],ab [aU 21 4 1,ba 22 32 [21],aa 20 22,cZ 23 0 20,cZ 24 1 20,aa 5 23,aa 6 24],af [ab [aa 25 6,aE 26 .neq 25 0],bg 26 (af [ab [((some 27),.op (.build [(.emp 1),(.emp 1)] [])),aa 28 6,cG 2 2 27,ct 3 1,aa 4 28],.ret])],ab [aU 30 4 1,ba 31 48 [30],aa 29 31,cZ 32 0 29,cZ 33 1 29,aa 7 32,aa 8 33],ab [((some 9),.op (.alloc [(.emp 1),(.emp 1)]))],ab [ct 10 1],af [ab [aT 11 0],bX 0 mJ],ab [aU 103 2 9,aa 104 10,cG 2 2 103,aa 3 104,aT 4 0],.ret],
 [.cell 2 (some 2),.tmp 3,.tmp 4],105⟩
theorem tW:aQ Tryz.prog 16 [1,100000]=some oz:=by kernel_rfl
theorem Qj {g:ae} {a:List aR} {ls:List (List aC)} (b:aL g a=ls) (c:∀ l∈ls,l.length<=10000/\∀ x∈l,cD g x) (i:Nat):(ez g a i).length<=10000:=by
 unfold ez
 refine VU (List.length_filterMap_le _ _) ?_
 rw[b,U5]
 cases h:ls[i]? with
 | none=>simp
 | some l=>exact(c l (Vc h)).1
theorem B0 (g:ae) (s:aR) (l:List cH) (st t:Int):(dd g s l st t).2.length<=l.length:=by
 have:=Cg l t
 unfold dd
 cases h:dA l t with
 | nil=>simp
 | cons r rs =>
  rw[h] at this
  simp only[Vm] at this
  simp only
  split
  .simp[jt];omega
  .simp[jt];omega
theorem Ll (g:ae) (s:aR) (l:List cH) (st:Int) (n:Nat):gN g s l st (n+1)=gN g s l st n ++ [(dd g s l st n).1]:=by simp[gN,Wd]
theorem Ep (g:ae) (s:aR) (l:List cH) (st:Int) (n:Nat):tB g s l st (n+1)=tB g s l st n ++ (dd g s l st n).2:=by simp[tB,Wd]
theorem Ax {g:ae} {s:aR} {l:List cH} {st:Int} (a:l.length<=10000):∀ n:Nat,(tB g s l st n).length<=n * 10000
 | 0=>by simp[tB]
 | n+1=>by
  have h1:=Ax (g:=g) (s:=s) (st:=st) a n
  have b:=B0 g s l st n
  rw[Ep,Wf]
  omega
theorem DK (g:ae) (a:List aR) (l:List (List cH)) (n:Nat):jc g a l (n+1)=jc g a l n ++ tB g (a.getD n bf) (l.getD n []) n (g.ai.length+1):=by simp[jc,Wd]
theorem F3 {g:ae} {a:List aR} {l:List (List cH)} (b:∀ i,(l.getD i []).length<=10000) (c:g.ai.length<=24):∀ n:Nat,(jc g a l n).length<=n * 250000
 | 0=>by simp[jc]
 | n+1=>by
  have h1:=F3 (a:=a) b c n
  have d:=Ax (g:=g) (s:=a.getD n bf) (st:=n) (b n) (g.ai.length+1)
  rw[DK,Wf]
  omega
theorem St (l:List pD):((lN l).all λe=>e.length == 5 && e.all aJ)=true:=by simp[lN,List.all_map,LF,aJ]
theorem EI {h:aB} {u v s t w x:V} {e:Int} (h1:cM h u s) (a:cM h v t) (b:cM h w x):cM h (.bm [.agg [u,v],w,gi e]) (.bm [.agg [s,t],x,gi e]):=.bm _ _ rfl λi hi=>by
 match i,hi with
 | 0,_=>exact I1 h1 a
 | 1,_=>exact b
 | 2,_=>exact .val _
theorem S9 {α:Type} {X Y:α} {C I:List α} : (Y :: X :: (C ++ I)).Perm ((C ++ [X]) ++ (I ++ [Y])):=by
 rw[<-VR]
 refine .trans (.cons Y ?_) (WX Y _).symm
 rw[VR]
 exact WD.symm
theorem PL {α:Type} {b u a k r c d:α} {C I:List α} : (b :: u :: a :: k :: r :: c :: d :: (C ++ I)).Perm (a :: u :: c :: b :: d :: ((C ++ [r]) ++ (I ++ [k]))) :=
 (WD (a:=a) (l₁:=[b,u])).trans (.cons a ((WD (a:=u) (l₁:=[b])).trans (.cons u ((WD (a:=c) (l₁:=[b,k,r])).trans (.cons c (.cons b ((WD (a:=d) (l₁:=[k,r])).trans (.cons d (S9 (Y:=k) (X:=r) (C:=C) (I:=I))))))))))
theorem K3 (g:ae) (hg:g.Ok):cx Tryz.prog 16 [.agg (ag g)] (.bm [.agg (cB (iY g).1),.aS (lN (iY g).2.1),gi (iY g).2.2]):=by
 refine cx.of (eP g) ?_
 have hB:=(BX g hg).pure
 have hO:=(RL g hg).pure
 refine aw.of mixed tW ?_
 simp only[ag,encS] at hB hO
 simp(disch:=omega)only[↓wr,seval,wq,oz,ag,encS]
 intro u
 refine av.pure hB ?_
 unfold iY
 simp(disch:=omega)only[↓wr,seval,wq]
 apply ah.ne<;>intro h
 .simp(disch:=omega)only[↓wr,seval,wq]
  intro h' _
  rw[U8 h]
  exact EI (.emp _) (.emp _) (.emp _)
 rw[Va h]
 unfold vS at hO ⊢
 rw[Va h] at hO ⊢
 obtain⟨hW,hA⟩:=Bw hg h
 have hlen:=Qj rfl hW.item
 generalize (bF g).1=a at *
 clear hB h
 have hf:=aK hW.right
 have b8:=hW.short
 have hT:=hf.ai
 have hN:=hf.ao
 have N:∀ i:Nat,i < a.length->(dZ g a)[i]?=some (ez g a i):=λi hi=>by rw[dZ,U9,WS hi];rfl
 have ch:(dZ g a).length=a.length:=by simp[dZ]
 have ar:∀ i:Nat,((dZ g a).getD i []).length<=10000:=λi=>by
  rw[U5]
  rcases Vw i a.length with hi | hi
  .rw[N i hi];exact hlen i
  .rw[Vx (by omega)];simp
 generalize dZ g a=L at *
 simp(disch:=omega)only[↓wr,seval,wq,ag,encS]
 refine av.pure hO ?_
 simp(disch:=omega)only[↓wr,seval,wq]
 intro v C
 have o0:=(bH.nil.new (n:=u) (H:=λ_=>bT.dead) rfl 2 [[.emp 1,.emp 1]]).new (n:=v) (by simpa [View.set] using C) 2 [[.emp 1,.emp 1]]
 have cc:v≠u:=(bS C bQ).1
 have r:=(((o0.emp (k:=1) (sz:=5)).emp (k:=1) (sz:=1)).emp (k:=1) (sz:=1))
 clear o0
 generalize (View.set (λ_=>bT.dead) u (.arr 2 [[.emp 1,.emp 1]])).set v (.arr 2 [[.emp 1,.emp 1]])=H0 at r ⊢
 refine bc.up a.length (λi T H'=>∃ (w y e:V) (A:LY) (G:QK),A.map (·.2)=(fy g a L i).aY/\G.map (·.2)=(fy g a L i).gotos /\
  bH H' ((w,1,dx A) :: (y,1,dx G) :: (e,5,lN (jc g a L i)) :: (.sl v 0 1 2,2,[[w,y]]) :: (.sl u 0 1 2,2,[[.emp 1,.emp 1]]) :: (KQ A ++ KV G))/\T 1=.aF (ag g) 0/\T 2=.ptr u 0 0/\T 5=bU a/\T 7=uW L/\T 9=.ptr v 0 0/\T 10=e/\T 11=gi i)
  ⟨.emp 1,.emp 1,.emp 1,[],[],rfl,rfl,r,rfl,rfl,rfl,rfl,rfl,rfl,rfl⟩ ?_
 clear r C
 rintro i k T H hk ⟨w,y,e,A,G,D,E,b,t1,t2,t5,t7,t9,t10,t11⟩
 simp(disch:=omega)only[↓wr,seval,wq,mJ,t1,t2,t5,t7,t9,t10,t11,bU]
 apply ah.dec<;>intro hc
 .have hs:a[i]?=some (a.getD i bf):=getD_some (by omega)
  have hl:=N i (by omega)
  have O:=hlen i
  obtain⟨k1,k2,k3⟩:=hA.aX _ (Vc hs)
  have hE:=hA.bI _ (Vc hs)
  have cj:=gT hf k1 k3
  have P:L.getD i []=ez g a i:=by rw[U5,hl];rfl
  have z:=DK g a L i
  have cu:=F3 (g:=g) (a:=a) (l:=L) ar hT i
  have m:(fy g a L (i+1)).aY=(fy g a L i).aY ++ [gN g (a.getD i bf) (ez g a i) i (g.ai.length+1)]/\(fy g a L (i+1)).gotos=(fy g a L i).gotos ++ [xw g a i]:=by
   simp only[fy,Wd,Vz,VF,Wg,P,and_self]
  rw[P] at z
  generalize ez g a i=d at *
  generalize a.getD i bf=s at *
  simp(disch:=omega)only[↓wr,seval,wq,t1,t2,t5,t7,t9,t10,t11]
  generalize a1:((.sl v 0 1 2,2,[[w,y]]) :: (.sl u 0 1 2,2,[[.emp 1,.emp 1]]) :: (KQ A ++ KV G):List eC)=BB at b
  refine bc.up (g.ai.length+1) (λj T H'=>∃ (B e:V),bH H' ((B,2,(gN g s d i j).map cK) :: (e,5,lN (jc g a L i ++ tB g s d i j)) :: (w,1,dx A) :: (y,1,dx G) :: BB)/\T 1=.aF (ag g) 0/\T 2=.ptr u 0 0/\T 5=bU a/\T 7=uW L/\T 9=.ptr v 0 0/\T 10=e/\T 11=gi i/\T 12=B/\T 13=gi j)
   ⟨.emp 1,e,by rw[show tB g s d i 0=[] from rfl,WH];exact(b.perm CC.symm).emp,t1,t2,t5,t7,t9,t10,t11,rfl,rfl⟩ ?_
  clear b t1 t2 t5 t7 t9 t10 t11
  clear e
  rintro j k2 T2 H2 a6 ⟨B,e,b,t1,t2,t5,t7,t9,t10,t11,t12,t13⟩
  simp(disch:=omega)only[↓wr,seval,wq,mw,t1,t2,t5,t7,t9,t10,t11,t12,t13,ag]
  apply ah.dec<;>intro a7
  .have Q:=(Ml g hg s ⟨by unfold aH;omega,by unfold aH;omega⟩ d O i j).pure
   have a8:=B0 g s d i j
   have cv:=Ax (g:=g) (s:=s) (st:=i) O j
   have r1:=Ll g s d i j
   have r2:=Ep g s d i j
   have F:(gN g s d i j).length=j:=by simp[gN]
   generalize dd g s d i j=ce at *
   obtain⟨c,cf⟩:=ce
   simp only[ag,encS,eU,cK] at Q
   simp(disch:=omega)only[↓wr,seval,wq,t1,t2,t5,t7,t9,t10,t11,t12,t13,ag,encS,bU,uW,U9,hs,hl,Ve,eU]
   refine av.pure Q ?_
   simp(disch:=omega)only[↓wr,seval,wq,t1,t2,t5,t7,t9,t10,t11,t12,t13]
   intro cC R
   intro q S
   obtain⟨q1,q2⟩:=bS S bQ
   have q3:=(bS q2 bQ).2
   simp(disch:=omega)only[↓wr,seval,wq,bt,t1,t2,t5,t7,t9,t10,t11,t12,t13]
   have r:=(b.fresh R (o:=.arr 2 [[gi c.kind,gi c.n]])).fresh (n:=q) (o:=.arr 2 [[gi c.kind,gi c.n]]) (by simp[View.set,q1,q3])
   rw[set_set]
   refine cn r (by simp[aJ]) (by unfold aD;rw[Vl,F];simp only[Vm,Vy];omega) (by unfold aD;rw[Vl,F];simp only[Vm,Vy];omega) ?_
   intro bd H5 U _
   simp(disch:=omega)only[↓wr,seval,wq,t1,t2,t5,t7,t9,t10,t11,t12,t13]
   simp only at a8
   refine cn (U.perm (.swap _ _ _)) (St cf) (by unfold aD;rw[kR,kR,Wf];omega) (by unfold aD;rw[kR,kR,Wf];omega) ?_
   intro bl H6 I _
   simp(disch:=omega)only[↓wr,seval,wq,t1,t2,t5,t7,t9,t11,t13]
   refine aI a6 (by omega) ⟨bd,bl,?_,t1,t2,t5,t7,t9,rfl,t11,rfl,rfl⟩
   rw[r1,r2]
   have t:=I.perm (.swap _ _ _)
   rw[show (gN g s d i j ++ [c]).map cK=(gN g s d i j).map cK ++ [[gi c.kind,gi c.n]] by simp[cK],<-VR,lN,Vz]
   exact t
  .have bn:j=g.ai.length+1:=by omega
   subst bn
   have F:(gN g s d i (g.ai.length+1)).length=g.ai.length+1:=by simp[gN]
   rw[<-z] at b
   simp(disch:=omega)only[↓wr,seval,wq,t1,t2,t5,t7,t9,t10,t11,t12]
   refine bc.up g.ao.length (λj T H'=>∃ (M:V),bH H' ((M,1,bR ((List.range j).map λ(k:Nat)=>jR a i k)) :: (B,2,(gN g s d i (g.ai.length+1)).map cK) :: (e,5,lN (jc g a L (i+1))) :: (w,1,dx A) :: (y,1,dx G) :: BB)/\T 1=.aF (ag g) 0/\T 2=.ptr u 0 0/\T 5=bU a/\T 7=uW L/\T 9=.ptr v 0 0/\T 10=e/\T 11=gi i/\T 12=B/\T 16=M/\T 17=gi j)
    ⟨.emp 1,b.emp,t1,t2,t5,t7,t9,t10,t11,t12,rfl,rfl⟩ ?_
   clear b t1 t2 t5 t7 t9 t10 t11 t12 t13
   rintro j k3 T4 H4 W ⟨M,b,t1,t2,t5,t7,t9,t10,t11,t12,t16,t17⟩
   simp(disch:=omega)only[↓wr,seval,wq,mC,t1,t2,t5,t7,t9,t10,t11,t12,t16,t17,ag,encS]
   apply ah.dec<;>intro X
   .have br:=ED a (by unfold aH;omega) hW.bI i [-1 - (j:Int)] (by unfold aH;simp)
    have Y:(List.range (j+1)).map (λ(k:Nat)=>jR a i k)=(List.range j).map (λ(k:Nat)=>jR a i k) ++ [jR a i j]:=by rw[Wd,Vz];rfl
    have f:jR a i j=if (dt a i [-1 - (j:Int)]).2=true then (dt a i [-1 - (j:Int)]).1 else -1:=rfl
    simp(disch:=omega)only[↓wr,seval,wq,t1,t2,t5,t7,t9,t10,t11,t12,t16,t17]
    intro q S
    refine av.xY br (by kernel_rfl) (.bm _ λj hj=>by
     match j,hj with
     | 0,_=>exact⟨_,rfl⟩
     | 1,_=>exact⟨_,rfl⟩) ⟨.tree (pC a),.tree (.val _),fO (l:=[-1 - (j:Int)]) (by simp[View.set]) rfl,trivial⟩ ?_
    have r:=b.fresh (o:=.arr 1 [[gi (-1 - (j:Int))]]) S
    generalize H4.set q (.arr 1 [[gi (-1 - (j:Int))]])=H5 at r ⊢
    generalize dt a i [-1 - (j:Int)]=wk at f ⊢
    obtain⟨to,bs⟩:=wk
    simp only at f
    simp(disch:=omega)only[↓wr,seval,wq,t1,t2,t5,t7,t9,t10,t11,t12,t16,t17]
    cases bs with
    | true =>
     rw[Va rfl] at f
     simp(disch:=omega)only[↓wr,seval,wq,t1,t2,t5,t7,t9,t10,t11,t12,t16,t17]
     intro q2 p
     simp(disch:=omega)only[↓wr,seval,wq,bt,t1,t2,t5,t7,t9,t10,t11,t12,t16,t17]
     refine cn (r.fresh p) (by simp[aJ]) (by unfold aD;simp;omega) (by unfold aD;simp;omega) ?_
     intro J H6 I _
     simp(disch:=omega)only[↓wr,seval,wq,t1,t2,t5,t7,t9,t10,t11,t12,t17]
     refine aI W (by omega) ⟨J,?_,t1,t2,t5,t7,t9,t10,t11,t12,rfl,rfl⟩
     rw[Y,f,bR,Vz]
     exact I
    | false =>
     rw[U8 (by simp)] at f
     simp(disch:=omega)only[↓wr,seval,wq,t1,t2,t5,t7,t9,t10,t11,t12,t16,t17]
     intro q2 p
     simp(disch:=omega)only[↓wr,seval,wq,bt,t1,t2,t5,t7,t9,t10,t11,t12,t16,t17]
     refine cn (r.fresh p) (by simp[aJ]) (by unfold aD;simp;omega) (by unfold aD;simp;omega) ?_
     intro J H6 I _
     simp(disch:=omega)only[↓wr,seval,wq,t1,t2,t5,t7,t9,t10,t11,t12,t17]
     refine aI W (by omega) ⟨J,?_,t1,t2,t5,t7,t9,t10,t11,t12,rfl,rfl⟩
     rw[Y,f,bR,Vz]
     exact I
   .have Z:j=g.ao.length:=by omega
    subst Z
    have b:bH H4 ((M,1,bR (xw g a i)) :: (B,2,(gN g s d i (g.ai.length+1)).map cK) :: (e,5,lN (jc g a L (i+1))) :: (w,1,dx A) :: (y,1,dx G) :: BB):=b
    have lA:=VT List.length D
    have lG:=VT List.length E
    simp only[fy,Vl,List.length_range] at lA lG
    subst a1
    have h9:=b.is 5 rfl (by simp)
    have ca:=(b.own 3 rfl).cells
    have cr:=(b.own 1 rfl).cells
    have kr:=(b.own 1 rfl).iG
    have ck:=(b.own 0 rfl).cells
    have kk:=(b.own 0 rfl).iG
    simp(disch:=omega)only[↓wr,seval,wq,t1,t2,t5,t7,t9,t10,t11,t12,t16,h9,cr,kr,ck,kk]
    intro q S
    simp(disch:=omega)only[↓wr,seval,wq,bt,t1,t2,t5,t7,t9,t10,t11,t12,t16]
    have o4:=(b.fresh (o:=.arr 1 [[B]]) S).at 3 (by simp)
    refine cn o4 (by simp[kr]) (by unfold aD;simp[dx];omega) (by unfold aD;simp[dx];omega) ?_
    intro an H5 U _
    simp only[VN,VJ,V5,V6] at U
    have bx:=U.is 5 rfl (by simp)
    simp(disch:=omega)only[↓wr,seval,wq,t1,t2,t5,t7,t9,t10,t11,t12,t16,bx,cr,kr,ck,kk]
    intro q2 p
    simp(disch:=omega)only[↓wr,seval,wq,bt,t1,t2,t5,t7,t9,t10,t11,t12,t16]
    have I:=(U.fresh (o:=.arr 1 [[M]]) p).at 4 (by simp)
    refine cn I (by simp[kk]) (by unfold aD;simp[dx];omega) (by unfold aD;simp[dx];omega) ?_
    intro aq H6 t _
    simp only[VN,VJ,V5,V6] at t
    have b0:=t.is 5 rfl (by simp)
    have b1:=(t.own 1 rfl).cells
    have b3:=(t.own 1 rfl).iG
    have b4:=(t.own 0 rfl).cells
    have b5:=(t.own 0 rfl).iG
    simp(disch:=omega)only[↓wr,seval,wq,t1,t2,t5,t7,t9,t10,t11,b0,b1,b3,b4,b5]
    refine⟨RM (b.own 3 rfl) ((b.at 5 (by simp)).off rfl _ (Vc (i:=3) rfl)),?_⟩
    rw[set_set]
    refine aI hk (by omega) ⟨an,aq,e,A ++ [(B,gN g s d i (g.ai.length+1))],G ++ [(M,xw g a i)],?_,?_,?_,t1,t2,t5,t7,t9,t10,rfl⟩
    .rw[Vz,D,m.1];rfl
    .rw[Vz,E,m.2];rfl
    .have o8:=(t.at 5 (by simp)).put (es':=[[an,aq]]) rfl rfl
     simp only[VN,VJ,V5,V6] at o8
     simp only[dx,KQ,KV,Vz,VF,Wg]
     exact o8.perm PL
 .have b7:i=a.length:=by omega
  subst b7
  have h9:=b.is 3 rfl (by simp)
  have h2:=b.is 4 rfl (by simp)
  have ca:=(b.own 0 rfl).cells
  have ka:=(b.own 0 rfl).iG
  have cg:=(b.own 1 rfl).cells
  have kg:=(b.own 1 rfl).iG
  simp(disch:=omega)only[↓wr,seval,wq,t2,t9,t10,h9,h2,ca,ka,cg,kg]
  intro h' hv
  have K:=(b.at 4 (by simp)).put (es':=[[w,y]]) rfl rfl
  simp only[VN,VJ,V5,V6] at K
  rw[<-hv] at K
  unfold cB
  rw[<-D,<-E]
  refine EI (NZ (K.own 1 rfl) λx hx=>K.1 (x.1,2,x.2.map cK) ?_) (PU.U2 ⟨G,rfl,K.own 2 rfl,λx hx=>K.1 (x.1,1,bR x.2) ?_⟩) (GN (K.own 3 rfl))
  .simp only[Vq,VK]
   exact .inr (.inr (.inr (.inr (.inr (.inl (Vv.2 ⟨x,hx,rfl⟩))))))
  .simp only[Vq,VK]
   exact .inr (.inr (.inr (.inr (.inr (.inr (Vv.2 ⟨x,hx,rfl⟩))))))
theorem LS {g:ae} (h:(bF g).2=0):(iY g).1=j9 g (bF g).1/\(iY g).2.1=jc g (bF g).1 (dZ g (bF g).1) (bF g).1.length:=by
 unfold iY vS j9
 rw[Va h,Va h]
 exact⟨rfl,rfl⟩
theorem Kn {g:ae} (h:(iY g).2.2=0):(bF g).2=0:=by
 unfold iY at h
 split at h
 .assumption
 .exact h
def ju:SF:=⟨af [ab [cd 2 0,bu 4 false],af [ab [ba 13 13 [],cb 14 13],bg 14 (af [ab [bu 4 false],.ret])],af [.region false [⟨none,[aU 15 4 2,ba 16 14 [15],aa 17 16]⟩,⟨(some (17,false)),[aU 18 4 2,ba 19 15 [18],cb 20 19]⟩,⟨none,[bP 21 17 20,aa 22 21]⟩,⟨(some (22,false)),[aa 23 1,aP 24 23,aE 25 .gtr 24 10]⟩,⟨none,[bP 26 22 25]⟩],bg 26 (af [ab [bu 4 true],.ret])],ab [aU 28 4 2,ba 29 16 [28],aa 27 29,cZ 30 0 27,cZ 31 1 27,cZ 32 2 27,((some 5),.op (.alloc [(.emp 1),(.emp 1)])),cG 2 5 30,aa 6 31,aa 7 32],af [.region false [⟨none,[aa 33 7,aE 34 .neq 33 0,aa 35 34]⟩,⟨(some (35,false)),[aU 36 4 2,aa 37 1,ba 38 17 [36,37],cb 39 38]⟩,⟨none,[bP 40 35 39]⟩],bg 40 (af [ab [bu 4 true],.ret])],ab [aU 42 4 2,aU 43 2 5,aa 44 1,ba 45 18 [42,43,44],aa 41 45,cZ 46 0 41,cZ 47 1 41,cZ 48 2 41,aa 8 46,aa 9 47,aa 10 48],ab [aU 50 4 2,aa 51 1,ba 52 19 [50,51],aa 49 52,cZ 53 0 49,cZ 54 1 49,aa 11 53,aa 12 54],.region false [⟨none,[aa 55 12,aE 56 .eql 55 0,aa 57 56]⟩,⟨(some (57,true)),[aa 58 10,aE 59 .neq 58 0,aa 60 59]⟩,⟨(some (60,false)),[aa 61 11]⟩,⟨(some (57,true)),[bP 62 60 61]⟩,⟨none,[c8 63 57 62,aa 64 63]⟩,⟨(some (64,true)),[aa 65 6,aP 66 65,aE 67 .gtr 66 0,aa 68 67]⟩,⟨(some (68,false)),[aa 69 11,cb 70 69]⟩,⟨(some (64,true)),[bP 71 68 70,aa 72 71]⟩,⟨(some (72,false)),[aa 73 10,aE 74 .neq 73 3]⟩,⟨(some (64,true)),[bP 75 72 74]⟩,⟨none,[c8 76 64 75,aa 4 76]⟩],.ret],
 [.tmp 4],77⟩
theorem ou:aQ Tryz.prog 3 [2]=some ju:=by kernel_rfl
theorem AN (g:ae) (i:g.Ok) (w:List Int) (hw:aH w) (o:∀ x∈w,bD x):ay Tryz.prog 3 [.agg (ag g),encI w] (gb true):=by
 refine ay.val (pq g w) λH=>?_
 have p:=hw
 unfold aH at p
 have v:=(K3 g i).pure
 have z:=NI g i
 have j:=Eo g i w hw o
 refine aw.of mixed ou ?_
 simp only[ag,encS,cB] at v
 simp only[ag,encS] at z
 simp only[ag,encS,encI] at j
 simp(disch:=omega)only[↓wr,seval,wq,ju,ag,encS,encI]
 refine av.pure LL ?_
 simp(disch:=omega)only[↓wr,seval,wq,ag,encS]
 refine av.pure (PE g) ?_
 simp(disch:=omega)only[↓wr,seval,wq]
 apply ah.split<;>intro e
 .simp(disch:=omega)only[↓wr,seval,wq]
 have q:g.Small:=Ir e
 simp(disch:=omega)only[↓wr,seval,wq,ag,encS]
 refine av.pure z ?_
 simp(disch:=omega)only[↓wr,seval,wq]
 apply ah.split<;>intro hr
 rotate_left
 .simp(disch:=omega)only[↓wr,seval,wq]
 simp(disch:=omega)only[↓wr,seval,wq,encI]
 apply ah.dec<;>intro C
 .simp(disch:=omega)only[↓wr,seval,wq]
 simp(disch:=omega)only[↓wr,seval,wq,ag,encS]
 refine av.pure v ?_
 by_cases m:(iY g).2.2=0
 .have f:=Kn m
  obtain⟨A,D⟩:=LS f
  have k:=Rl f
  rw[<-A] at k
  have r:=(Lp g i _ k w hw o).pure
  have s:=uY g i q w hw o
  by_cases a:fQ g w=true
  .have d:=LN f (w:=w) (by
    unfold fQ vE at a
    simp only[Vd,Vr,Vj] at a
    exact a.2)
   rw[<-A,<-D] at d
   have u:ko g w=(me g w,0):=by rw[ko,Va a]
   rw[u] at s
   rw[a] at j
   generalize rS g (iY g).1 w=y at r d
   obtain⟨F,G,I⟩:=y
   simp only at d
   generalize (iY g).1=t at *
   generalize (iY g).2.1=c at *
   generalize me g w=b at *
   simp only[ag,encS,cB,encI,Ku,mn] at r s
   simp(disch:=omega)only[↓wr,seval,wq]
   intro B l
   refine ah.ne (λh=>absurd m h) (λ_=>?_)
   simp(disch:=omega)only[↓wr,seval,wq,ag,encS,encI]
   refine av.pure j ?_
   simp(disch:=omega)only[↓wr,seval,wq,encI]
   refine av.pure r ?_
   simp(disch:=omega)only[↓wr,seval,wq,encI,ag,encS]
   refine av.pure s ?_
   simp(disch:=omega)only[↓wr,seval,wq,lN]
   cases b with
   | true =>
    apply ah.ne<;>intro h1
    all_goals (
     simp(disch:=omega)only[↓wr,seval,wq]
     apply ah.dec<;>intro n
     .simp(disch:=omega)only[↓wr,seval,wq]
     .have E:=d.2 (by simpa using n) rfl
      simp(disch:=omega)only[↓wr,seval,wq]
      simp[E])
   | false =>
    refine ah.ne (λh1=>?_) (λh1=>absurd (d.1 h1) (by simp))
    simp(disch:=omega)only[↓wr,seval,wq]
    apply ah.dec<;>intro n
    .simp(disch:=omega)only[↓wr,seval,wq]
    .simp(disch:=omega)only[↓wr,seval,wq]
  .rw[Bool.not_eq_true] at a
   rw[a] at j
   simp(disch:=omega)only[↓wr,seval,wq]
   intro B l
   refine ah.ne (λh=>absurd m h) (λ_=>?_)
   simp(disch:=omega)only[↓wr,seval,wq,ag,encS,encI]
   refine av.pure j ?_
   simp(disch:=omega)only[↓wr,seval,wq]
 .simp(disch:=omega)only[↓wr,seval,wq]
  intro B l
  refine ah.ne (λh=>?_) (λh=>absurd h m)
  simp(disch:=omega)only[↓wr,seval,wq]
end Gv
