/-
  Part 14 of the proof: what the machine does and what the functions answer.
  Conditions: those that each lemma names.
-/
import Derived.Shelf.SlSortCmp.NoneTotal
import Derived.Shelf.SlicesG.Cmp
import Derived.StillTailTactics
import Derived.Test.YtihmlbdfcmfbdaaGreatSGzB3M
set_option linter.unusedSimpArgs false
set_option linter.unusedVariables false
set_option maxRecDepth 100000
set_option maxHeartbeats 20000000
namespace Gv
open Go Go.Proofs
def EN (c:iV):List V:=[gi c.state,gi c.term,gi c.kind,gi c.aw,gi c.other]
def fM (l:List iV):List (List V):=l.map EN
theorem Wu (l:List iV):Tree (.aD (fM l)):=dZ _ _ λx _ v a=>by simp[EN] at a;rcases a with rfl | rfl | rfl | rfl | rfl <;> exact .val _
theorem gY (l:List iV):(fM l).length=l.length:=by simp[fM]
theorem FF {h:aF} {u:V} {l:List iV} (b:aV h.view u 5 (fM l)):dg h u (.aD (fM l)):=by
 refine dg.own b rfl (λi _=>rfl) (λi j hi a=>?_)
 rw[gY] at hi
 have e:(fM l).getD i []=EN l[i]:=by simp[fM,Zi,hi]
 rw[e] at a ⊢
 match j,a with
 | 0,_=>exact .val _
 | 1,_=>exact .val _
 | 2,_=>exact .val _
 | 3,_=>exact .val _
 | 4,_=>exact .val _
theorem Dr {h:aF} {u v:V} {c:Cell} (hu:dg h u v):dg h (.bt [.agg [gi c.kind,gi c.n],u]) (.bt [.agg (dU c),v]):=.bt _ _ rfl λi hi=>by
 match i,hi with
 | 0,_=>exact Nv (.val _) (.val _)
 | 1,_=>exact hu
def pC:SC :=
 ae [ae [ab [aa 29 15,aa 30 13,aP 31 30,aS 32 .lss 29 31],bT 32 (.exit 0)],.block 1 (ab [aa 35 14,aa 36 3,aa 37 4,aa 38 13,aa 39 15,aH 40 1 38 39,ai 41 40,aa 42 13,((some 43),.op (.idx 1 (.tmp 42) (.val (.val (.int .i64 0))))),ai 44 43,((some 45),.op (.build [(.val (.int .i64 0)),(.val (.int .i64 0)),(.val (.int .i64 0)),(.val (.int .i64 0)),(.val (.int .i64 0))] [(0,1,(.tmp 36)),(1,1,(.tmp 37)),(2,1,(.val (.val (.int .i64 5)))),(3,1,(.tmp 41)),(4,1,(.tmp 44))])),((some 46),.op (.bO 1 5 [(.val (.int .i64 0)),(.val (.int .i64 0)),(.val (.int .i64 0)),(.val (.int .i64 0)),(.val (.int .i64 0))] [(0,(.tmp 45))])),eE 47 5 40 35 46,aa 14 47]),ab [aa 33 15,aG 34 .add 33 1,aa 15 34]]
def sm:SF:=⟨ae [ab [cw 5 0,cw 6 1,((some 10),.op (.alloc [(.val (.int .i64 0)),(.val (.int .i64 0))])),cq 11 1],ab [aT 18 4 5,aT 19 2 6,aa 20 4,bh 21 130 [18,19,20],((some 12),.op (.alloc [(.val (.int .i64 0)),(.val (.int .i64 0))])),bK 2 12 21],ab [aa 22 2,aa 23 4,bh 24 39 [22,23],aa 13 24],ae [ab [aa 25 13,aP 26 25,aG 27 .eql 26 0],bc 27 (ae [ab [aT 28 2 12,bK 2 10 28,cq 11 1],.ret])],ab [cq 14 1],ae [ab [aQ 15 1],bU 0 pC],ab [aa 48 13,((some 49),.op (.idx 1 (.tmp 48) (.val (.val (.int .i64 0))))),ai 50 49,((some 51),.op (.build [(.val (.int .i64 0)),(.val (.int .i64 0))] [(0,1,(.val (.val (.int .i64 2)))),(1,1,(.tmp 50))])),((some 16),.op (.alloc [(.val (.int .i64 0)),(.val (.int .i64 0))])),bK 2 16 51],ae [ab [ao 52 0 12,ai 53 52,aG 54 .eql 53 0],bc 54 (ae [ab [aT 55 2 16,aa 56 14,bK 2 10 55,aa 11 56],.ret])],ab [aT 57 4 5,aa 58 13,((some 59),.op (.idx 1 (.tmp 58) (.val (.val (.int .i64 0))))),ai 60 59,aa 61 4,bh 62 131 [57,60,61],aa 17 62],ab [aa 63 14,aa 64 3,aa 65 4,aa 66 17,aa 67 13,((some 68),.op (.idx 1 (.tmp 67) (.val (.val (.int .i64 0))))),ai 69 68,((some 70),.op (.build [(.val (.int .i64 0)),(.val (.int .i64 0)),(.val (.int .i64 0)),(.val (.int .i64 0)),(.val (.int .i64 0))] [(0,1,(.tmp 64)),(1,1,(.tmp 65)),(2,1,(.tmp 66)),(3,1,(.tmp 69)),(4,1,(.val (.val (.int .i64 (-1)))))])),((some 71),.op (.bO 1 5 [(.val (.int .i64 0)),(.val (.int .i64 0)),(.val (.int .i64 0)),(.val (.int .i64 0)),(.val (.int .i64 0))] [(0,(.tmp 70))])),eE 72 5 40 63 71,aa 14 72],ae [ab [aa 73 17],.block 2 (ae [ab [aG 75 .eql 73 1,aa 74 75],.cond (.tmp 74) (ae [ab [aT 76 2 16,aa 77 14,bK 2 10 76,aa 11 77],.ret]) (ae [ab [aG 79 .eql 73 3,aa 78 79],bc 78 (ae [ab [((some 80),.op (.build [(.val (.int .i64 0)),(.val (.int .i64 0))] [])),aa 81 14,bK 2 10 80,aa 11 81],.ret])])])],ab [aT 82 2 12,aa 83 14,bK 2 10 82,aa 11 83],.ret],
 [.cell 10 (some 2),.tmp 11],84⟩
theorem yw:aN Tryz.prog 86 [5,6]=some sm:=by kernel_rfl
theorem zP (l:List cz) (n:Int):(eZ l n).length<=l.length:=by
 unfold eZ;rw[Zr];exact aac _ _
theorem P2 (g:aj) (W:g.Ok) (s:aM) (hs:aJ s.aK/\aJ s.bf) (l:List cz) (hl:l.length<=10000) (st t:Int):cE Tryz.prog 86 [.agg (ag g),.agg (dy s),.aD (gJ l),gi st,gi t] (.bt [.agg (dU (kd g s l st t).1),.aD (fM (kd g s l st t).2)]):=by
 refine cE.of (by
  intro v e;simp at e
  rcases e with rfl | rfl | rfl | rfl | rfl
  .exact cb _ (cY g)
  .exact cb _ (zn s)
  .exact F1 _
  .exact .val _
  .exact .val _) ?_
 have D:=Pz g W s hs t
 have M:=(OZ l hl t).pure
 have E:=zP l t
 refine au.of mixed yw ?_
 simp only[ag,encS,dy] at D
 simp(disch:=omega)only[↓wr,seval,wq,sm,ag,encS,dy]
 intro b
 refine ax.pure D ?_
 unfold kd
 generalize gA g s t=x
 have X:=aX.nil.new (n:=b) (H:=λ_=>cU.dead) rfl 2 [[gi 0,gi 0]]
 simp(disch:=omega)only[↓wr,seval,wq,dU]
 intro d F
 rw[set_set]
 have w:=X.new (n:=d) (by simpa [View.set] using F) 2 [[gi x.kind,gi x.n]]
 clear X
 generalize (View.set (λ_=>cU.dead) b (.arr 2 [[gi 0,gi 0]])).set d (.arr 2 [[gi x.kind,gi x.n]])=H1 at w ⊢
 refine ax.pure M ?_
 cases hr:eZ l t with
 | nil =>
  have m:=w.is 0 rfl (by simp)
  have a:=w.is 1 rfl (by simp)
  simp(disch:=omega)only[↓wr,↓reduceIte,wq,Nat.reduceEqDiff,Nat.reduceAdd,Nat.reduceLT,Nat.reduceLeDiff,Int.reduceNeg,Int.reduceToNat,reduceCtorEq,encI]
  refine ah.eq (λ_=>?_) (λh=>absurd rfl h)
  simp(disch:=omega)only[↓wr,seval,wq,m,a]
  intro f _
  exact Dr (.emp _)
 | cons r rs =>
  rw[hr] at E
  simp only[ZB] at E
  simp(disch:=omega)only[↓wr,seval,wq,encI]
  refine ah.eq (λh=>absurd h (by simp;omega)) (λ_=>?_)
  simp(disch:=omega)only[↓wr,seval,wq,encI]
  refine aR.up rs.length (λj T H'=>∃ u:V,aX H' [(u,5,fM (fF st t r (rs.take j))),(.sl d 0 1 2,2,[[gi x.kind,gi x.n]]),(.sl b 0 1 2,2,[[gi 0,gi 0]])]/\T 3=gi st/\T 4=gi t/\T 5=.aI (ag g) 0/\T 10=.ptr b 0 0/\T 12=.ptr d 0 0/\T 13=encI (r :: rs)/\T 14=u/\T 15=gi ((j:Int)+1)) ⟨.emp 1,w.emp,rfl,rfl,rfl,rfl,rfl,rfl,rfl,rfl⟩ ?_
  clear w
  rintro j k T H hk ⟨u,G,t3,t4,t5,t10,t12,t13,t14,t15⟩
  simp(disch:=omega)only[↓wr,seval,wq,pC,t3,t4,t5,t10,t12,t13,t14,t15,encI]
  apply ah.dec<;>intro Z
  .have N:rs[j]?=some (rs[j]'(by omega)):=Zj (by omega)
   generalize rs[j]'(by omega)=y at N
   have O:([gi r] :: rs.map λx=>[gi x])[((j:Int)+1).toNat]?=some [gi y]:=by rw[show ((j:Int)+1).toNat=j+1 by omega];simp[N]
   have P:fF st t r (rs.take (j+1))=fF st t r (rs.take j) ++ [⟨st,t,5,y,r⟩]:=by
    rw[ZG,N];simp[fF]
   simp(disch:=omega)only[↓wr,seval,wq,t3,t4,t5,t10,t12,t13,t14,t15,encI,O,ZL]
   intro q hq
   simp(disch:=omega)only[↓wr,seval,wq,bm]
   refine bL (G.fresh hq) (by simp[aL]) (by unfold aA;rw[gY];simp[fF];omega) (by unfold aA;rw[gY];simp[fF];omega) ?_
   intro L H2 w _
   simp(disch:=omega)only[↓wr,seval,wq,t3,t4,t5,t10,t12,t13,t14,t15]
   exact aE hk (by omega) ⟨L,by rw[P,fM,ZD];exact w,t3,t4,t5,t10,t12,t13,rfl,rfl⟩
  .rw[Zx (by omega)] at G
   simp(disch:=omega)only[↓wr,seval,wq,t3,t4,t5,t10,t12,t13,t14,t15,encI,ZL]
   intro z i
   rw[set_set]
   have C:=G.new i 2 [[gi 2,gi r]]
   have p:=G.is 1 rfl (by simp)
   have n12:¬ d=z:=by rintro rfl;rw[p] at i;simp at i
   clear G
   simp(disch:=omega)only[↓wr,seval,wq,n12,p]
   generalize H.set z (.arr 2 [[gi 2,gi r]])=H2 at C ⊢
   have A:=C.is 0 rfl (by simp)
   have m:=C.is 2 rfl (by simp)
   have a:=C.is 3 rfl (by simp)
   apply ah.eq<;>intro Q
   .simp(disch:=omega)only[↓wr,seval,wq,t10,t12,t14,A,a]
    rintro f e
    rw[Zn Q]
    have I:=(C.at 3 (by simp)).put (es':=[[gi 2,gi r]]) rfl rfl
    simp only[ZR,ZO,ZU,ZV] at I
    rw[<-e] at I
    exact Dr (c:=⟨2,r⟩) (FF (I.own 2 rfl))
   .have J:=LD g W r t
    simp only[ag,encS] at J
    simp(disch:=omega)only[↓wr,seval,wq,t3,t4,t5,t10,t12,t13,t14,encI,ZL,ag,encS]
    refine ax.pure J ?_
    rw[Zk Q]
    generalize fg g r t=B
    simp(disch:=omega)only[↓wr,seval,wq,t3,t4,t5,t10,t12,t13,t14,encI,ZL]
    intro q hq
    simp(disch:=omega)only[↓wr,seval,wq,bm]
    have I:=(C.fresh (o:=.arr 5 [[gi st,gi t,gi B,gi r,gi (-1)]]) hq).at 1 (by simp)
    refine bL I (by simp[aL]) (by unfold aA;simp only[ZR,ZO,gY];simp[fF];omega) (by unfold aA;simp only[ZR,ZO,gY];simp[fF];omega) ?_
    intro L Y K _
    simp only[ZR,ZO,ZU,ZV] at K
    have A:=K.is 1 rfl (by simp)
    have m:=K.is 2 rfl (by simp)
    have a:=K.is 3 rfl (by simp)
    have o6:aX Y ((L,5,fM (fF st t r rs ++ [⟨st,t,B,r,-1⟩])) :: [(.sl z 0 1 2,2,[[gi 2,gi r]]),(.sl d 0 1 2,2,[[gi x.kind,gi x.n]]),(.sl b 0 1 2,2,[[gi 0,gi 0]])]):=by
     rw[fM,ZD];exact K
    have fin:∀ (c:Cell) (f:aF),f.view=Y.set b (.arr 2 [dU c])->dg f (.bt [.agg [gi c.kind,gi c.n],L]) (.bt [.agg (dU c),.aD (fM (fF st t r rs ++ [⟨st,t,B,r,-1⟩]))]):=λc f e=>by
     have R:=(o6.at 3 (by simp)).put (es':=[dU c]) rfl rfl
     simp only[ZR,ZO,ZU,ZV] at R
     rw[<-e] at R
     exact Dr (FF (R.own 1 rfl))
    simp(disch:=omega)only[↓wr,seval,wq,t10,t12]
    apply ah.eq<;>intro S
    .simp(disch:=omega)only[↓wr,seval,wq,t10,A,a]
     rw[Zn S]
     exact λf e=>fin ⟨2,r⟩ f e
    .simp(disch:=omega)only[↓wr,seval,wq,t10]
     rw[Zk S]
     apply ah.eq<;>intro U
     .simp(disch:=omega)only[↓wr,seval,wq,t10,a]
      rw[Zn U]
      exact λf e=>fin ⟨0,0⟩ f e
     .simp(disch:=omega)only[↓wr,seval,wq,t10,t12,m,a]
      rw[Zk U]
      exact λf e=>fin x f e
def px:SC :=
 ae [ae [ab [aa 40 13,ao 41 0 1,ai 42 41,aP 43 42,aS 44 .leq 40 43],bT 44 (.exit 2)],.block 3 (ae [.kU [] [⟨none,[aT 48 4 1,aa 49 5,aa 50 11,aH 51 2 49 50,aT 52 2 51,aa 53 7,aa 54 11,aH 55 1 53 54,ai 56 55,aa 57 11,aa 58 13,bh 59 86 [48,52,56,57,58],aa 47 59,dW 60 0 47,dW 61 1 47,((some 14),.op (.alloc [(.val (.int .i64 0)),(.val (.int .i64 0))])),bK 2 14 60,aa 15 61]⟩],ab [aa 62 12,aT 63 2 14,((some 64),.op (.bO 1 2 [(.val (.int .i64 0)),(.val (.int .i64 0))] [(0,(.tmp 63))])),eE 65 2 16 62 64,aa 12 65],ab [aa 66 10,aa 67 15,eE 68 5 40 66 67,aa 10 68]]),ab [aa 45 13,aG 46 .add 45 1,aa 13 46]]
def oM:SC :=
 ae [ae [ab [aa 69 17,ao 70 1 1,ai 71 70,aP 72 71,aS 73 .lss 69 72],bT 73 (.exit 4)],.block 5 (ae [ab [aa 77 5,aa 78 11,aa 79 17,((some 80),.op (.arith .sub (.val (.val (.int .i64 (-1)))) (.tmp 79))),((some 81),.op (.bO 1 1 [(.val (.int .i64 0))] [(0,(.tmp 80))])),bh 82 29 [77,78,81],aa 76 82,dW 83 0 76,dW 84 1 76,aa 18 83,aa 19 84],ae [ab [aa 85 19,c6 86 85],bc 86 (ab [aQ 18 (-1)])],ab [aa 87 16,aa 88 18,((some 89),.op (.bO 1 1 [(.val (.int .i64 0))] [(0,(.tmp 88))])),eE 90 1 8 87 89,aa 16 90]]),ab [aa 74 17,aG 75 .add 74 1,aa 17 75]]
def pk:SC :=
 ae [ae [ab [aa 34 11,aa 35 5,aP 36 35,aS 37 .lss 34 36],bT 37 (.exit 0)],.block 1 (ae [ab [cq 12 1],ae [ab [aQ 13 0],bU 2 px],ab [cq 16 1],ae [ab [aQ 17 0],bU 4 oM],.kU [(96,92)] [⟨none,[ao 91 0 9,ai 92 91,aa 93 12,((some 94),.op (.bO 1 1 [(.emp 1)] [(0,(.tmp 93))])),eE 95 1 24 92 94,ao 96 1 9,ai 97 96,aa 98 16,((some 99),.op (.bO 1 1 [(.emp 1)] [(0,(.tmp 98))])),eE 100 1 24 97 99,ao 101 0 9,bK 1 101 95,ao 102 1 9,bK 1 102 100]⟩]]),ab [aa 38 11,aG 39 .add 38 1,aa 11 39]]
def qK:SF:=⟨ae [ab [cw 1 0,((some 2),.op (.alloc [(.emp 1),(.emp 1)])),cq 3 1,aQ 4 0],ab [aT 21 4 1,bh 22 25 [21],aa 20 22,dW 23 0 20,dW 24 1 20,aa 5 23,aa 6 24],ae [ab [aa 25 6,aG 26 .neq 25 0],bc 26 (ae [ab [((some 27),.op (.build [(.emp 1),(.emp 1)] [])),aa 28 6,bK 2 2 27,cq 3 1,aa 4 28],.ret])],ab [aT 30 4 1,bh 31 34 [30],aa 29 31,dW 32 0 29,dW 33 1 29,aa 7 32,aa 8 33],ab [((some 9),.op (.alloc [(.emp 1),(.emp 1)]))],ab [cq 10 1],ae [ab [aQ 11 0],bU 0 pk],ab [aT 103 2 9,aa 104 10,bK 2 2 103,aa 3 104,aQ 4 0],.ret],
 [.cell 2 (some 2),.tmp 3,.tmp 4],105⟩
theorem xj:aN Tryz.prog 44 [1,100000]=some qK:=by kernel_rfl
theorem TV {g:aj} {a:List aM} {ls:List (List aB)} (b:aY g a=ls) (hW:∀ l∈ls,l.length<=10000/\∀ x∈l,cB g x) (i:Nat):(gP g a i).length<=10000:=by
 unfold gP
 refine aai (List.length_filterMap_le _ _) ?_
 rw[b,Zi]
 cases h:ls[i]? with
 | none=>simp
 | some l=>exact(hW l (Zp h)).1
theorem FE (g:aj) (s:aM) (l:List cz) (st t:Int):(kd g s l st t).2.length<=l.length:=by
 have:=zP l t
 unfold kd
 cases h:eZ l t with
 | nil=>simp
 | cons r rs =>
  rw[h] at this
  simp only[ZB] at this
  simp only
  split
  .simp[fF];omega
  .simp[fF];omega
theorem FB (g:aj) (s:aM) (l:List cz) (st:Int) (n:Nat):ed g s l st (n+1)=ed g s l st n ++ [(kd g s l st n).1]:=by simp[ed,Z8]
theorem BM (g:aj) (s:aM) (l:List cz) (st:Int) (n:Nat):tf g s l st (n+1)=tf g s l st n ++ (kd g s l st n).2:=by simp[tf,Z8]
theorem yQ {g:aj} {s:aM} {l:List cz} {st:Int} (hl:l.length<=10000):∀ n:Nat,(tf g s l st n).length<=n * 10000
 | 0=>by simp[tf]
 | n+1=>by
  have h1:=yQ (g:=g) (s:=s) (st:=st) hl n
  have a:=FE g s l st n
  rw[BM,aab]
  omega
theorem AN (g:aj) (a:List aM) (l:List (List cz)) (n:Nat):qB g a l (n+1)=qB g a l n ++ tf g (a.getD n bg) (l.getD n []) n (g.af.length+1):=by simp[qB,Z8]
theorem yK {g:aj} {a:List aM} {l:List (List cz)} (hl:∀ i,(l.getD i []).length<=10000) (b:g.af.length<=24):∀ n:Nat,(qB g a l n).length<=n * 250000
 | 0=>by simp[qB]
 | n+1=>by
  have h1:=yK (a:=a) hl b n
  have c:=yQ (g:=g) (s:=a.getD n bg) (st:=n) (hl n) (g.af.length+1)
  rw[AN,aab]
  omega
theorem Xd (l:List iV):((fM l).all λe=>e.length == 5 && e.all aL)=true:=by simp[fM,List.all_map,EN,aL]
theorem wx {h:aF} {u v s t w x:V} {e:Int} (h1:dg h u s) (a:dg h v t) (b:dg h w x):dg h (.bt [.agg [u,v],w,gi e]) (.bt [.agg [s,t],x,gi e]):=.bt _ _ rfl λi hi=>by
 match i,hi with
 | 0,_=>exact Nv h1 a
 | 1,_=>exact b
 | 2,_=>exact .val _
theorem Rm {α:Type} {X Y:α} {C I:List α} : (Y :: X :: (C ++ I)).Perm ((C ++ [X]) ++ (I ++ [Y])):=by
 rw[<-Z2]
 refine .trans (.cons Y ?_) (aaQ Y _).symm
 rw[Z2]
 exact ZY.symm
theorem T6 {α:Type} {b u a k r c d:α} {C I:List α} : (b :: u :: a :: k :: r :: c :: d :: (C ++ I)).Perm (a :: u :: c :: b :: d :: ((C ++ [r]) ++ (I ++ [k]))) :=
 (ZY (a:=a) (l₁:=[b,u])).trans (.cons a ((ZY (a:=u) (l₁:=[b])).trans (.cons u ((ZY (a:=c) (l₁:=[b,k,r])).trans (.cons c (.cons b ((ZY (a:=d) (l₁:=[k,r])).trans (.cons d (Rm (Y:=k) (X:=r) (C:=C) (I:=I))))))))))
theorem PH (g:aj) (hg:g.Ok):cE Tryz.prog 44 [.agg (ag g)] (.bt [.agg (gV (jr g).1),.aD (fM (jr g).2.1),gi (jr g).2.2]):=by
 refine cE.of (dT g) ?_
 have hB:=(E5 g hg).pure
 have hO:=(WD g hg).pure
 refine au.of mixed xj ?_
 simp only[ag,encS] at hB hO
 simp(disch:=omega)only[↓wr,seval,wq,qK,ag,encS]
 intro u
 refine ax.pure hB ?_
 unfold jr
 simp(disch:=omega)only[↓wr,seval,wq]
 apply ah.ne<;>intro h
 .simp(disch:=omega)only[↓wr,seval,wq]
  intro h' _
  rw[Zk h]
  exact wx (.emp _) (.emp _) (.emp _)
 rw[Zn h]
 unfold mJ at hO ⊢
 rw[Zn h] at hO ⊢
 obtain⟨hW,hA⟩:=Fb hg h
 have hlen:=TV rfl hW.item
 generalize (bY g).1=a at *
 clear hB h
 have hf:=bD hW.right
 have b4:=hW.short
 have hT:=hf.af
 have hN:=hf.ak
 have N:∀ i:Nat,i < a.length->(iu g a)[i]?=some (gP g a i):=λi hi=>by rw[iu,Zm,abl hi];rfl
 have b7:(iu g a).length=a.length:=by simp[iu]
 have aq:∀ i:Nat,((iu g a).getD i []).length<=10000:=λi=>by
  rw[Zi]
  rcases ZI i a.length with hi | hi
  .rw[N i hi];exact hlen i
  .rw[ZT (by omega)];simp
 generalize iu g a=L at *
 simp(disch:=omega)only[↓wr,seval,wq,ag,encS]
 refine ax.pure hO ?_
 simp(disch:=omega)only[↓wr,seval,wq]
 intro v C
 have o0:=(aX.nil.new (n:=u) (H:=λ_=>cU.dead) rfl 2 [[.emp 1,.emp 1]]).new (n:=v) (by simpa [View.set] using C) 2 [[.emp 1,.emp 1]]
 have b5:v≠u:=(cP C cI).1
 have r:=(((o0.emp (k:=1) (sz:=5)).emp (k:=1) (sz:=1)).emp (k:=1) (sz:=1))
 clear o0
 generalize (View.set (λ_=>cU.dead) u (.arr 2 [[.emp 1,.emp 1]])).set v (.arr 2 [[.emp 1,.emp 1]])=H0 at r ⊢
 refine aR.up a.length (λi T H'=>∃ (w y e:V) (A:ET) (G:IN),A.map (·.2)=(jZ g a L i).fe/\G.map (·.2)=(jZ g a L i).gotos /\
  aX H' ((w,1,aZ A) :: (y,1,aZ G) :: (e,5,fM (qB g a L i)) :: (.sl v 0 1 2,2,[[w,y]]) :: (.sl u 0 1 2,2,[[.emp 1,.emp 1]]) :: (rP A ++ rS G))/\T 1=.aI (ag g) 0/\T 2=.ptr u 0 0/\T 5=ba a/\T 7=qk L/\T 9=.ptr v 0 0/\T 10=e/\T 11=gi i)
  ⟨.emp 1,.emp 1,.emp 1,[],[],rfl,rfl,r,rfl,rfl,rfl,rfl,rfl,rfl,rfl⟩ ?_
 clear r C
 rintro i k T H hk ⟨w,y,e,A,G,D,E,b,t1,t2,t5,t7,t9,t10,t11⟩
 simp(disch:=omega)only[↓wr,seval,wq,pk,t1,t2,t5,t7,t9,t10,t11,ba]
 apply ah.dec<;>intro hc
 .have hs:a[i]?=some (a.getD i bg):=getD_some (by omega)
  have hl:=N i (by omega)
  have O:=hlen i
  obtain⟨k1,k2,k3⟩:=hA.bf _ (Zp hs)
  have hE:=hA.aK _ (Zp hs)
  have b8:=gC hf k1 k3
  have P:L.getD i []=gP g a i:=by rw[Zi,hl];rfl
  have z:=AN g a L i
  have cc:=yK (g:=g) (a:=a) (l:=L) aq hT i
  have m:(jZ g a L (i+1)).fe=(jZ g a L i).fe ++ [ed g (a.getD i bg) (gP g a i) i (g.af.length+1)]/\(jZ g a L (i+1)).gotos=(jZ g a L i).gotos ++ [qg g a i]:=by
   simp only[jZ,Z8,ZD,ZJ,aaK,P,and_self]
  rw[P] at z
  generalize gP g a i=d at *
  generalize a.getD i bg=s at *
  simp(disch:=omega)only[↓wr,seval,wq,t1,t2,t5,t7,t9,t10,t11]
  generalize ar:((.sl v 0 1 2,2,[[w,y]]) :: (.sl u 0 1 2,2,[[.emp 1,.emp 1]]) :: (rP A ++ rS G):List ct)=BB at b
  refine aR.up (g.af.length+1) (λj T H'=>∃ (B e:V),aX H' ((B,2,(ed g s d i j).map dU) :: (e,5,fM (qB g a L i ++ tf g s d i j)) :: (w,1,aZ A) :: (y,1,aZ G) :: BB)/\T 1=.aI (ag g) 0/\T 2=.ptr u 0 0/\T 5=ba a/\T 7=qk L/\T 9=.ptr v 0 0/\T 10=e/\T 11=gi i/\T 12=B/\T 13=gi j)
   ⟨.emp 1,e,by rw[show tf g s d i 0=[] from rfl,aav];exact(b.perm AP.symm).emp,t1,t2,t5,t7,t9,t10,t11,rfl,rfl⟩ ?_
  clear b t1 t2 t5 t7 t9 t10 t11
  clear e
  rintro j k2 T2 H2 a1 ⟨B,e,b,t1,t2,t5,t7,t9,t10,t11,t12,t13⟩
  simp(disch:=omega)only[↓wr,seval,wq,px,t1,t2,t5,t7,t9,t10,t11,t12,t13,ag]
  apply ah.dec<;>intro a6
  .have Q:=(P2 g hg s ⟨by unfold aJ;omega,by unfold aJ;omega⟩ d O i j).pure
   have a7:=FE g s d i j
   have ch:=yQ (g:=g) (s:=s) (st:=i) O j
   have r1:=FB g s d i j
   have r2:=BM g s d i j
   have F:(ed g s d i j).length=j:=by simp[ed]
   generalize kd g s d i j=ce at *
   obtain⟨c,cf⟩:=ce
   simp only[ag,encS,dy,dU] at Q
   simp(disch:=omega)only[↓wr,seval,wq,t1,t2,t5,t7,t9,t10,t11,t12,t13,ag,encS,ba,qk,Zm,hs,hl,Zq,dy]
   refine ax.pure Q ?_
   simp(disch:=omega)only[↓wr,seval,wq,t1,t2,t5,t7,t9,t10,t11,t12,t13]
   intro cj R
   intro q hq
   obtain⟨q1,q2⟩:=cP hq cI
   have q3:=(cP q2 cI).2
   simp(disch:=omega)only[↓wr,seval,wq,bm,t1,t2,t5,t7,t9,t10,t11,t12,t13]
   have r:=(b.fresh R (o:=.arr 2 [[gi c.kind,gi c.n]])).fresh (n:=q) (o:=.arr 2 [[gi c.kind,gi c.n]]) (by simp[View.set,q1,q3])
   rw[set_set]
   refine bL r (by simp[aL]) (by unfold aA;rw[Zr,F];simp only[ZB,ZW];omega) (by unfold aA;rw[Zr,F];simp only[ZB,ZW];omega) ?_
   intro a8 H5 S _
   simp(disch:=omega)only[↓wr,seval,wq,t1,t2,t5,t7,t9,t10,t11,t12,t13]
   simp only at a7
   refine bL (S.perm (.swap _ _ _)) (Xd cf) (by unfold aA;rw[gY,gY,aab];omega) (by unfold aA;rw[gY,gY,aab];omega) ?_
   intro bb H6 I _
   simp(disch:=omega)only[↓wr,seval,wq,t1,t2,t5,t7,t9,t11,t13]
   refine aE a1 (by omega) ⟨a8,bb,?_,t1,t2,t5,t7,t9,rfl,t11,rfl,rfl⟩
   rw[r1,r2]
   have t:=I.perm (.swap _ _ _)
   rw[show (ed g s d i j ++ [c]).map dU=(ed g s d i j).map dU ++ [[gi c.kind,gi c.n]] by simp[dU],<-Z2,fM,ZD]
   exact t
  .have bd:j=g.af.length+1:=by omega
   subst bd
   have F:(ed g s d i (g.af.length+1)).length=g.af.length+1:=by simp[ed]
   rw[<-z] at b
   simp(disch:=omega)only[↓wr,seval,wq,t1,t2,t5,t7,t9,t10,t11,t12]
   refine aR.up g.ak.length (λj T H'=>∃ (M:V),aX H' ((M,1,bF ((List.range j).map λ(k:Nat)=>we a i k)) :: (B,2,(ed g s d i (g.af.length+1)).map dU) :: (e,5,fM (qB g a L (i+1))) :: (w,1,aZ A) :: (y,1,aZ G) :: BB)/\T 1=.aI (ag g) 0/\T 2=.ptr u 0 0/\T 5=ba a/\T 7=qk L/\T 9=.ptr v 0 0/\T 10=e/\T 11=gi i/\T 12=B/\T 16=M/\T 17=gi j)
    ⟨.emp 1,b.emp,t1,t2,t5,t7,t9,t10,t11,t12,rfl,rfl⟩ ?_
   clear b t1 t2 t5 t7 t9 t10 t11 t12 t13
   rintro j k3 T4 H4 U ⟨M,b,t1,t2,t5,t7,t9,t10,t11,t12,t16,t17⟩
   simp(disch:=omega)only[↓wr,seval,wq,oM,t1,t2,t5,t7,t9,t10,t11,t12,t16,t17,ag,encS]
   apply ah.dec<;>intro W
   .have bl:=Ir a (by unfold aJ;omega) hW.aK i [-1 - (j:Int)] (by unfold aJ;simp)
    have X:(List.range (j+1)).map (λ(k:Nat)=>we a i k)=(List.range j).map (λ(k:Nat)=>we a i k) ++ [we a i j]:=by rw[Z8,ZD];rfl
    have f:we a i j=if (dY a i [-1 - (j:Int)]).2=true then (dY a i [-1 - (j:Int)]).1 else -1:=rfl
    simp(disch:=omega)only[↓wr,seval,wq,t1,t2,t5,t7,t9,t10,t11,t12,t16,t17]
    intro q hq
    refine ax.wE bl (by kernel_rfl) (.bt _ λj hj=>by
     match j,hj with
     | 0,_=>exact⟨_,rfl⟩
     | 1,_=>exact⟨_,rfl⟩) ⟨.tree (lg a),.tree (.val _),Fc (l:=[-1 - (j:Int)]) (by simp[View.set]) rfl,trivial⟩ ?_
    have r:=b.fresh (o:=.arr 1 [[gi (-1 - (j:Int))]]) hq
    generalize H4.set q (.arr 1 [[gi (-1 - (j:Int))]])=H5 at r ⊢
    generalize dY a i [-1 - (j:Int)]=wk at f ⊢
    obtain⟨to,bn⟩:=wk
    simp only at f
    simp(disch:=omega)only[↓wr,seval,wq,t1,t2,t5,t7,t9,t10,t11,t12,t16,t17]
    cases bn with
    | true =>
     rw[Zn rfl] at f
     simp(disch:=omega)only[↓wr,seval,wq,t1,t2,t5,t7,t9,t10,t11,t12,t16,t17]
     intro q2 p
     simp(disch:=omega)only[↓wr,seval,wq,bm,t1,t2,t5,t7,t9,t10,t11,t12,t16,t17]
     refine bL (r.fresh p) (by simp[aL]) (by unfold aA;simp;omega) (by unfold aA;simp;omega) ?_
     intro J H6 I _
     simp(disch:=omega)only[↓wr,seval,wq,t1,t2,t5,t7,t9,t10,t11,t12,t17]
     refine aE U (by omega) ⟨J,?_,t1,t2,t5,t7,t9,t10,t11,t12,rfl,rfl⟩
     rw[X,f,bF,ZD]
     exact I
    | false =>
     rw[Zk (by simp)] at f
     simp(disch:=omega)only[↓wr,seval,wq,t1,t2,t5,t7,t9,t10,t11,t12,t16,t17]
     intro q2 p
     simp(disch:=omega)only[↓wr,seval,wq,bm,t1,t2,t5,t7,t9,t10,t11,t12,t16,t17]
     refine bL (r.fresh p) (by simp[aL]) (by unfold aA;simp;omega) (by unfold aA;simp;omega) ?_
     intro J H6 I _
     simp(disch:=omega)only[↓wr,seval,wq,t1,t2,t5,t7,t9,t10,t11,t12,t17]
     refine aE U (by omega) ⟨J,?_,t1,t2,t5,t7,t9,t10,t11,t12,rfl,rfl⟩
     rw[X,f,bF,ZD]
     exact I
   .have Y:j=g.ak.length:=by omega
    subst Y
    have b:aX H4 ((M,1,bF (qg g a i)) :: (B,2,(ed g s d i (g.af.length+1)).map dU) :: (e,5,fM (qB g a L (i+1))) :: (w,1,aZ A) :: (y,1,aZ G) :: BB):=b
    have lA:=aau List.length D
    have lG:=aau List.length E
    simp only[jZ,Zr,abw] at lA lG
    subst ar
    have h9:=b.is 5 rfl (by simp)
    have ca:=(b.own 3 rfl).cells
    have cr:=(b.own 1 rfl).cells
    have kr:=(b.own 1 rfl).fj
    have ck:=(b.own 0 rfl).cells
    have kk:=(b.own 0 rfl).fj
    simp(disch:=omega)only[↓wr,seval,wq,t1,t2,t5,t7,t9,t10,t11,t12,t16,h9,cr,kr,ck,kk]
    intro q hq
    simp(disch:=omega)only[↓wr,seval,wq,bm,t1,t2,t5,t7,t9,t10,t11,t12,t16]
    have o4:=(b.fresh (o:=.arr 1 [[B]]) hq).at 3 (by simp)
    refine bL o4 (by simp[kr]) (by unfold aA;simp[aZ];omega) (by unfold aA;simp[aZ];omega) ?_
    intro Z H5 S _
    simp only[ZR,ZO,ZU,ZV] at S
    have bq:=S.is 5 rfl (by simp)
    simp(disch:=omega)only[↓wr,seval,wq,t1,t2,t5,t7,t9,t10,t11,t12,t16,bq,cr,kr,ck,kk]
    intro q2 p
    simp(disch:=omega)only[↓wr,seval,wq,bm,t1,t2,t5,t7,t9,t10,t11,t12,t16]
    have I:=(S.fresh (o:=.arr 1 [[M]]) p).at 4 (by simp)
    refine bL I (by simp[kk]) (by unfold aA;simp[aZ];omega) (by unfold aA;simp[aZ];omega) ?_
    intro an H6 t _
    simp only[ZR,ZO,ZU,ZV] at t
    have br:=t.is 5 rfl (by simp)
    have bs:=(t.own 1 rfl).cells
    have bx:=(t.own 1 rfl).fj
    have b0:=(t.own 0 rfl).cells
    have b1:=(t.own 0 rfl).fj
    simp(disch:=omega)only[↓wr,seval,wq,t1,t2,t5,t7,t9,t10,t11,br,bs,bx,b0,b1]
    refine⟨MV (b.own 3 rfl) ((b.at 5 (by simp)).off rfl _ (Zp (i:=3) rfl)),?_⟩
    rw[set_set]
    refine aE hk (by omega) ⟨Z,an,e,A ++ [(B,ed g s d i (g.af.length+1))],G ++ [(M,qg g a i)],?_,?_,?_,t1,t2,t5,t7,t9,t10,rfl⟩
    .rw[ZD,D,m.1];rfl
    .rw[ZD,E,m.2];rfl
    .have o8:=(t.at 5 (by simp)).put (es':=[[Z,an]]) rfl rfl
     simp only[ZR,ZO,ZU,ZV] at o8
     simp only[aZ,rP,rS,ZD,ZJ,aaK]
     exact o8.perm T6
 .have b3:i=a.length:=by omega
  subst b3
  have h9:=b.is 3 rfl (by simp)
  have h2:=b.is 4 rfl (by simp)
  have ca:=(b.own 0 rfl).cells
  have ka:=(b.own 0 rfl).fj
  have cg:=(b.own 1 rfl).cells
  have kg:=(b.own 1 rfl).fj
  simp(disch:=omega)only[↓wr,seval,wq,t2,t9,t10,h9,h2,ca,ka,cg,kg]
  intro h' hv
  have K:=(b.at 4 (by simp)).put (es':=[[w,y]]) rfl rfl
  simp only[ZR,ZO,ZU,ZV] at K
  rw[<-hv] at K
  unfold gV
  rw[<-D,<-E]
  refine wx (HS (K.own 1 rfl) λx hx=>K.1 (x.1,2,x.2.map dU) ?_) (Pt.Yf ⟨G,rfl,K.own 2 rfl,λx hx=>K.1 (x.1,1,bF x.2) ?_⟩) (FF (K.own 3 rfl))
  .simp only[Zz,ZN]
   exact .inr (.inr (.inr (.inr (.inr (.inl (ZF.2 ⟨x,hx,rfl⟩))))))
  .simp only[Zz,ZN]
   exact .inr (.inr (.inr (.inr (.inr (.inr (ZF.2 ⟨x,hx,rfl⟩))))))
def nB:SF:=⟨ae [ab [cw 9 4,((some 10),.op (.alloc [(.val (.int .i64 0)),(.val (.int .i64 0))]))],ab [aa 12 0,cQ 13 12,ao 14 0 13,aT 15 4 14,aa 16 3,aa 17 2,bh 18 84 [15,16,17],aa 11 18],ab [aa 19 0,aa 20 0,cQ 21 20,ao 22 6 21,ai 23 22,aa 24 1,aa 25 2,aa 26 11,aa 27 3,((some 28),.op (.build [(.val (.int .i64 0)),(.val (.int .i64 0)),(.val (.int .i64 0)),(.val (.int .i64 0)),(.val (.int .i64 0))] [(0,1,(.tmp 24)),(1,1,(.tmp 25)),(2,1,(.tmp 26)),(3,1,(.tmp 27)),(4,1,(.val (.val (.int .i64 (-1)))))])),((some 29),.op (.bO 1 5 [(.val (.int .i64 0)),(.val (.int .i64 0)),(.val (.int .i64 0)),(.val (.int .i64 0)),(.val (.int .i64 0))] [(0,(.tmp 28))])),eE 30 5 40 23 29,cQ 31 19,ao 32 6 31,bK 1 32 30],ae [ab [aa 33 11],.block 0 (ae [ab [aG 35 .eql 33 1,aa 34 35],.cond (.tmp 34) (ae [ab [aa 36 3,((some 37),.op (.build [(.val (.int .i64 0)),(.val (.int .i64 0))] [(0,1,(.val (.val (.int .i64 2)))),(1,1,(.tmp 36))])),bK 2 10 37],.ret]) (ae [ab [aG 39 .eql 33 3,aa 38 39],bc 38 (ae [ab [((some 40),.op (.build [(.val (.int .i64 0)),(.val (.int .i64 0))] [])),bK 2 10 40],.ret])])])],ab [aT 41 2 9,bK 2 10 41],.ret],
 [.cell 10 (some 2)],42⟩
theorem tU:aN Tryz.prog 176 [9]=some nB:=by kernel_rfl
def nF:SC :=
 ae [ab [aS 21 .lss 20 19],bT 21 (.exit 0),.block 1 (ae [ab [aH 22 1 18 20,ai 23 22,aa 12 23],ab [aa 24 0,aa 25 0,cQ 26 25,ao 27 6 26,ai 28 27,aa 29 1,aa 30 2,aa 31 12,aa 32 3,((some 33),.op (.idx 1 (.tmp 32) (.val (.val (.int .i64 0))))),ai 34 33,((some 35),.op (.build [(.val (.int .i64 0)),(.val (.int .i64 0)),(.val (.int .i64 0)),(.val (.int .i64 0)),(.val (.int .i64 0))] [(0,1,(.tmp 29)),(1,1,(.tmp 30)),(2,1,(.val (.val (.int .i64 5)))),(3,1,(.tmp 31)),(4,1,(.tmp 34))])),((some 36),.op (.bO 1 5 [(.val (.int .i64 0)),(.val (.int .i64 0)),(.val (.int .i64 0)),(.val (.int .i64 0)),(.val (.int .i64 0))] [(0,(.tmp 35))])),eE 37 5 40 28 36,cQ 38 24,ao 39 6 38,bK 1 39 37]]),ab [aG 40 .add 20 1,aa 20 40]]
def pY:SF:=⟨ae [ab [cw 9 4,((some 10),.op (.alloc [(.val (.int .i64 0)),(.val (.int .i64 0))]))],ae [ab [aa 13 3,aP 14 13,aG 15 .eql 14 0],bc 15 (ae [ab [aT 16 2 9,bK 2 10 16],.ret])],ae [ab [aa 17 3,((some 18),.op (.slice 1 (.tmp 17) (some (.val (.val (.int .i64 1)))) none)),aP 19 18,aQ 20 0],bU 0 nF],ae [ab [ao 41 0 9,ai 42 41,aG 43 .eql 42 0],bc 43 (ae [ab [aa 44 3,((some 45),.op (.idx 1 (.tmp 44) (.val (.val (.int .i64 0))))),ai 46 45,((some 47),.op (.build [(.val (.int .i64 0)),(.val (.int .i64 0))] [(0,1,(.val (.val (.int .i64 2)))),(1,1,(.tmp 46))])),bK 2 10 47],.ret])],ab [aa 48 0,aa 49 1,aa 50 2,aa 51 3,((some 52),.op (.idx 1 (.tmp 51) (.val (.val (.int .i64 0))))),ai 53 52,aT 54 2 9,bh 55 176 [48,49,50,53,54],bK 2 10 55],.ret],
 [.cell 10 (some 2)],56⟩
theorem vC:aN Tryz.prog 129 [9]=some pY:=by kernel_rfl
abbrev eD (g:aj) (ua ug uc:V):List V:=[.aD (g.af.map bS),.aD (g.ak.map λs=>[gs s]),.aD (g.rules.map aO),gi g.start,ua,ug,uc]
def setCell (g:aj) (r t:Int) (x:Cell):Cell:=if fg g r t=1 then ⟨2,r⟩ else if fg g r t=3 then ⟨0,0⟩ else x
def cellOf (g:aj) (st t:Int) (x:Cell):List Int->Cell × List iV
 | []=>(x,[])
 | r :: rs=>if x.kind=0 then (⟨2,r⟩,fF st t r rs) else (setCell g r t x,fF st t r rs ++ [⟨st,t,fg g r t,r,-1⟩])
theorem QS (g:aj) (s:aM) (l:List cz) (st t:Int):kd g s l st t=cellOf g st t (gA g s t) (eZ l t):=by
 unfold kd
 cases eZ l t with
 | nil=>rfl
 | cons r rs=>rfl
theorem PF (g:aj) (D:g.Ok) (o:g.Small) (l m w:V) (C:List iV) (b:Nat) (L:List ct) (H:View) (y:aX H ((w,5,fM C) :: (.sl b 0 1 7,7,[eD g l m w]) :: L)) (J:C.length<=100000000) (st t r:Int) (x:Cell) :
  au Tryz.prog 176 [.ptr b 0 0,gi st,gi t,gi r,.agg [gi x.kind,gi x.n]] H λv H'=>v=.agg [gi (setCell g r t x).kind,gi (setCell g r t x).n]/\∃ a,aX H' ((a,5,fM (C ++ [⟨st,t,fg g r t,r,-1⟩])) :: (.sl b 0 1 7,7,[eD g l m a]) :: L):=by
 have z:=Ou g D o r t
 simp only[ag,encS] at z
 refine au.of mixed tU ?_
 simp(disch:=omega)only[↓wr,seval,wq,nB]
 intro n p
 have s:=y.is 1 rfl (by simp)
 have i:¬ b=n:=by rintro rfl;rw[s] at p;simp at p
 have A:=y.new p 2 [[gi 0,gi 0]]
 have E:=A.is 2 rfl (by simp)
 simp(disch:=omega)only[↓wr,seval,wq,i,s,eD]
 refine ax.pure z ?_
 simp(disch:=omega)only[↓wr,seval,wq,i,s,eD]
 intro q hq
 simp(disch:=omega)only[↓wr,seval,wq,bm]
 refine bL ((A.fresh hq).at 1 (by simp)) (by simp[aL]) (by unfold aA;simp only[ZR,ZO,gY];simp;omega) (by unfold aA;simp only[ZR,ZO,gY];simp;omega) ?_
 intro j F k _
 simp only[ZR,ZO,ZU,ZV,ZB,ZW] at k
 have d:=k.is 2 rfl (by simp)
 have f:=k.is 1 rfl (by simp)
 have G:=k.head.cells
 have I:=k.head.fj
 have B:=(k.at 2 (by simp)).put (es':=[eD g l m j]) rfl rfl
 simp only[ZR,ZO,ZU,ZV] at B
 have c:∀ e:List V,∃ a,aX ((F.set b (.arr 7 [eD g l m j])).set n (.arr 2 [e])) ((a,5,fM (C ++ [⟨st,t,fg g r t,r,-1⟩])) :: (.sl b 0 1 7,7,[eD g l m a]) :: L):=λe=>⟨j,by
  have:=((B.at 2 (by simp)).put (es':=[e]) rfl rfl).tail
  simp only[ZR,ZO,ZU,ZV] at this
  rw[fM,ZD]
  exact this.perm (.swap _ _ _)⟩
 have h:¬ n=b:=λe=>i e.symm
 simp(disch:=omega)only[↓wr,seval,wq,d,f,h,G,I,eD]
 unfold setCell
 apply ah.eq<;>intro h1
 .rw[Zn h1]
  simp(disch:=omega)only[↓wr,seval,wq,d,f,h]
  exact c _
 .rw[Zk h1]
  simp(disch:=omega)only[↓wr,seval,wq]
  apply ah.eq<;>intro u
  .rw[Zn u]
   simp(disch:=omega)only[↓wr,seval,wq,d,f,h]
   exact c _
  .rw[Zk u]
   simp(disch:=omega)only[↓wr,seval,wq,d,f,h]
   exact c _
theorem O5 (st t a:Int) (l:List Int) (r:Int):fF st t a (l ++ [r])=fF st t a l ++ [⟨st,t,5,r,a⟩]:=by simp[fF]
theorem Uo (g:aj) (S:g.Ok) (F:g.Small) (p s d:V) (C:List iV) (b:Nat) (L:List ct) (H:View) (f:aX H ((d,5,fM C) :: (.sl b 0 1 7,7,[eD g p s d]) :: L)) (Y:C.length<=90000000) (st t:Int) (rs:List Int) (G:rs.length<=10000) (x:Cell) :
  au Tryz.prog 129 [.ptr b 0 0,gi st,gi t,encI rs,.agg [gi x.kind,gi x.n]] H λv H'=>v=.agg [gi (cellOf g st t x rs).1.kind,gi (cellOf g st t x rs).1.n]/\∃ c,aX H' ((c,5,fM (C ++ (cellOf g st t x rs).2)) :: (.sl b 0 1 7,7,[eD g p s c]) :: L):=by
 refine au.of mixed vC ?_
 simp(disch:=omega)only[↓wr,seval,wq,pY,encI]
 intro n I
 have E:=f.is 1 rfl (by simp)
 have w:¬ b=n:=by rintro rfl;rw[E] at I;simp at I
 have J:=f.new I 2 [[gi 0,gi 0]]
 cases rs with
 | nil =>
  simp(disch:=omega)only[↓wr,seval,wq]
  refine⟨rfl,d,?_⟩
  have:=(J.put (es':=[[gi x.kind,gi x.n]]) rfl rfl).tail
  simpa [cellOf] using this
 | cons r rs =>
  simp only[ZB] at G
  have u:=y9 (l:=r :: rs) (k:=1) (by simp)
  simp only[List.drop_succ_cons,aaE,ZJ] at u
  rw[show (((1:Nat)):Int)=1 from rfl] at u
  simp(disch:=omega)only[↓wr,seval,wq]
  refine ah.eq (λh=>absurd h (by omega)) (λ_=>?_)
  simp(disch:=omega)only[↓wr,seval,wq,u]
  have K:¬ n=b:=λe=>w e.symm
  refine aR.up rs.length (λi T H'=>∃ d,aX H' ((.sl n 0 1 2,2,[[gi 0,gi 0]]) :: (d,5,fM (C ++ fF st t r (rs.take i))) :: (.sl b 0 1 7,7,[eD g p s d]) :: L)/\T 0=.ptr b 0 0/\T 1=gi st/\T 2=gi t/\T 3=encI (r :: rs)/\T 9=.aI [gi x.kind,gi x.n] 0/\T 10=.ptr n 0 0/\T 18=encI rs/\T 19=gi rs.length/\T 20=gi i)
   ⟨d,by simpa [fF] using J,rfl,rfl,rfl,rfl,rfl,rfl,rfl,rfl,rfl⟩ ?_
  clear f J E d
  rintro i k T H1 hk ⟨d,f,t0,t1,t2,t3,t9,t10,t18,t19,t20⟩
  have E:=f.is 2 rfl (by simp)
  have z:=f.is 0 rfl (by simp)
  simp(disch:=omega)only[↓wr,seval,wq,nF,t0,t1,t2,t3,t9,t10,t18,t19,t20]
  apply ah.dec<;>intro U
  .have M:rs[i]?=some (rs[i]'(by omega)):=Zj (by omega)
   have A:rs.take (i+1)=rs.take i ++ [rs[i]'(by omega)]:=by rw[ZG,M];rfl
   generalize rs[i]'(by omega)=y at M A
   have N:(fF st t r (rs.take i)).length<=10000:=by simp[fF];omega
   simp(disch:=omega)only[↓wr,seval,wq,t0,t1,t2,t3,t9,t10,t18,t19,t20,encI,Zm,ZL,M,Zq,E,eD]
   intro q hq
   simp(disch:=omega)only[↓wr,seval,wq,bm]
   refine bL ((f.fresh hq).at 1 (by simp)) (by simp[aL]) (by unfold aA;simp only[ZR,ZO,gY];simp;omega) (by unfold aA;simp only[ZR,ZO,gY];simp;omega) ?_
   intro a B j _
   simp only[ZR,ZO,ZU,ZV] at j
   have O:=j.is 2 rfl (by simp)
   have W:=j.head.cells
   have X:=j.head.fj
   have R:=(j.at 2 (by simp)).put (es':=[eD g p s a]) rfl rfl
   simp only[ZR,ZO,ZU,ZV] at R
   simp(disch:=omega)only[↓wr,seval,wq,t0,t1,t2,t3,t9,t10,t18,t19,t20,O,W,X,eD]
   refine aE hk (by omega) ⟨a,?_,t0,t1,t2,t3,t9,t10,t18,t19,rfl⟩
   rw[A,O5,<-Z2,fM,ZD]
   exact R.perm ((List.Perm.swap _ _ _).trans (((List.Perm.swap _ _ _).cons _).trans (List.Perm.swap _ _ _)))
  .rw[Zx (by omega)] at f
   have w:¬ b=n:=λe=>K e.symm
   have m:∀ (B:View) (a:V) (D:List iV) (e e':List V),aX B ((a,5,fM D) :: (.sl b 0 1 7,7,[eD g p s a]) :: (.sl n 0 1 2,2,[e]) :: L)->∃ c,aX (B.set n (.arr 2 [e'])) ((c,5,fM D) :: (.sl b 0 1 7,7,[eD g p s c]) :: L):=λB a D e e' o=>⟨a,by
    have:=((o.at 2 (by simp)).put (es':=[e']) rfl rfl).tail
    simpa using this⟩
   simp(disch:=omega)only[↓wr,seval,wq,t0,t1,t2,t3,t9,t10,encI,ZL]
   apply ah.eq<;>intro P
   .rw[show cellOf g st t x (r :: rs)=(⟨2,r⟩,fF st t r rs) by rw[cellOf,Zn P]]
    simp(disch:=omega)only[↓wr,seval,wq,t0,t1,t2,t3,t9,t10,encI,ZL,z]
    exact m _ _ _ _ _ (f.perm AP)
   .rw[show cellOf g st t x (r :: rs)=(setCell g r t x,fF st t r rs ++ [⟨st,t,fg g r t,r,-1⟩]) by rw[cellOf,Zk P]]
    have N:(fF st t r rs).length<=10000:=by simp[fF];omega
    simp(disch:=omega)only[↓wr,seval,wq,t0,t1,t2,t3,t9,t10,encI,ZL,z]
    refine ax.dJ ((PF g S F p s d _ b ((.sl n 0 1 2,2,[[gi 0,gi 0]]) :: L) H1 (f.perm AP) (by rw[aab];omega) st t r x).mono ?_)
    rintro v B ⟨rfl,a,j⟩
    have Q:=j.is 2 rfl (by simp)
    simp(disch:=omega)only[↓wr,seval,wq,t10,Q]
    rw[Z2] at j
    exact m _ _ _ _ _ j
open Go Go.Proofs Go.Shelf Go.RowKit Go.Sort
theorem bZ.cut {P:Program} {f:FuncId} {vs:List V} {h g:aF} {r:V} (n:bZ P f vs h r g) {id sz:Nat} {es rest:List (List V)} (l:g.view id=.arr sz (es ++ rest)):bZ P f vs h r (g.set id (.arr sz es)):=by
 have m:id < g.length:=jj (by rw[l];simp)
 refine⟨by simpa using n.1,λZ μ F w xs hr z p=>(n.2 Z μ F w xs hr z (by simpa using p)).mono ?_⟩
 rintro e w' ⟨x,A,μ',rfl,B,a,hex,q⟩
 refine⟨x,A,μ',rfl,B,?_,hex,by simpa using q⟩
 have t:∀ k,cat (g.set id (.arr sz es)) F k=if k=id then .arr sz es else cat g F k:=λk=>by
  simp only[cat,aa1]
  by_cases hk:k < g.length
  .rw[Zn hk,Zn hk,kN m];rfl
  .rw[Zk hk,Zk hk,Zk (by omega)]
 have u:cat g F id=.arr sz (es ++ rest):=by simp only[cat];rw[Zn m,l]
 refine⟨λk=>?_,λi j b o s C D v h1 E=>?_,a.lt,a.c4,a.iJ⟩
 .rw[t]
  split
  .rename_i hk
   subst hk
   have d:=a.obj k
   rw[u] at d
   intro b o0 s hm
   obtain⟨G,⟨c,e,f,n,p,hs⟩,H,I⟩:=d b o0 s hm
   have y:∀ i,i < es.length->(es ++ rest).getD i []=es.getD i []:=λi hi=>by
    simp[Zi,ZP hi]
   refine⟨G,⟨c,e,f,n,p,?_⟩,λi hi=>?_,λi j hi J=>?_⟩
   .rw[aab,aaf] at hs;omega
   .rw[<-y i hi];exact H i (by rw[aab];omega)
   .rw[<-y i hi];exact I i j (by rw[aab];omega) J
  .exact a.obj k
 .have d:=a.inj i j b o s C D v h1 E
  rw[t,t]
  rcases d with d | d
  .left
   rw[Zk (λe=>by rw[e,u] at d;simp at d)];exact d
  .right
   rw[Zk (λe=>by rw[e,u] at d;simp at d)];exact d
theorem au.cut {P:Program} {f:FuncId} {vs:List V} {H:View} {K c:V->View->Prop} (h:au P f vs H K) (hk:∀ r H',K r H'->c r H'∨∃ id sz es rest,H' id=.arr sz (es ++ rest)/\c r (H'.set id (.arr sz es))):au P f vs H c:=by
 refine⟨h.1,λl m=>?_⟩
 obtain⟨r,d,j,hs,n⟩:=h.2 l m
 rcases hk r _ n with h1 | ⟨id,sz,es,rest,a,h1⟩
 .exact⟨r,d,j,hs,h1⟩
 .have b:id < d.length:=jj (by rw[a];simp)
  refine⟨r,d.set id (.arr sz es),j.cut a,λk g hd=>?_,by rw[kN b];exact h1⟩
  have i:=hs k g hd
  rw[kN b]
  simp only[View.set]
  rw[Zk (λe=>by rw[e,a] at i;simp at i)]
  exact i
instance:Inhabited aB:=⟨⟨0,0⟩⟩
def jH (x:aB):List Value:=[.int .i64 x.aw,.int .i64 x.dot]
def p9 (a b:aB):Int:=if Lib.compareInt a.aw b.aw≠0 then Lib.compareInt a.aw b.aw else Lib.compareInt a.dot b.dot
theorem Ua (a b:aB):(Lib.compareInt a.aw b.aw≠0->p9 a b=Lib.compareInt a.aw b.aw)/\(Lib.compareInt a.aw b.aw=0->p9 a b=Lib.compareInt a.dot b.dot):=by
 unfold p9
 exact⟨λh=>by rw[Zn h],λh=>by rw[Zk (by simp[h])]⟩
theorem vy (a b:aB):ltOf p9 a b=cW a b:=by
 have d:∀ x y:Int,(x < y/\Lib.compareInt x y = -1)∨(x=y/\Lib.compareInt x y=0)∨(y < x/\Lib.compareInt x y=1):=λx y=>by
  unfold Lib.compareInt; (repeat' split) <;> omega
 rw[aan,fY]
 simp only[ltOf,ZA,p9]
 rcases d a.aw b.aw with ⟨h,e⟩ | ⟨h,e⟩ | ⟨h,e⟩ <;> rcases d a.dot b.dot with ⟨k,c⟩ | ⟨k,c⟩ | ⟨k,c⟩ <;> simp[e,c] <;> omega
theorem OX:SWO (ltOf p9) where
 irrefl x:=by rw[vy];exact mM
 trans x y z h k:=by rw[vy] at *;exact pS h k
 ntrans x y z h k:=by
  rw[vy] at *
  cases e:cW x z with
  | false=>rfl
  | true =>
   have h1:¬ cW x y=true:=by simp[h]
   have a:¬ cW y z=true:=by simp[k]
   rw[fY] at h1 a e
   omega
def eY (l:List aB):List aB:=l.mergeSort λx y=>!cW y x
theorem Q8 (l:List aB):(l.toArray.toList.mergeSort λx y=>!(ltOf p9) y x)=eY l:=by
 have e:(λx y=>!(ltOf p9) y x)=λx y=>!cW y x:=by funext x y;rw[vy]
 rw[e];rfl
theorem CS (l:List aB):(eY l).Perm l:=List.mergeSort_perm _ _
theorem jK (l:List aB):(eY l).length=l.length:=(CS l).length_eq
theorem CI (l:List aB):(eY l).Pairwise λx y=>cW y x=false:=by
 have:=List.pairwise_mergeSort (le:=λx y:aB=>!cW y x) (λa b c h k=>by
  simp only[abv,Bool.not_eq_false'] at h k ⊢
  cases e:cW c a with
  | false=>simp
  | true =>
   have h1:¬ cW b a=true:=by simpa using h
   have d:¬ cW c b=true:=by simpa using k
   rw[fY] at h1 d e
   omega) (λa b=>by
  cases e:cW b a with
  | false=>simp
  | true=>simp[Lx e]) l
 exact this.imp λh=>by simpa using h
def Q6:Ren where
 f:=fun
  | 6=>112
  | 15=>167
  | 14=>166
  | 28=>207
  | 29=>208
  | 20=>199
  | 21=>200
  | 22=>201
  | 23=>202
  | 24=>203
  | 25=>204
  | 26=>205
  | 27=>206
  | 46=>227
  | 47=>228
  | 48=>229
  | 49=>230
  | 50=>231
  | 57=>244
  | n=>n
 t:=fun
  | 22=>27
  | 24=>33
  | 25=>164
  | 3=>3
  | 39=>212
  | 0=>0
  | 53=>67
  | 55=>249
  | 4=>4
  | 46=>242
  | 45=>241
  | 50=>30
  | 5=>5
  | 9=>9
  | 66=>269
  | 70=>273
  | 76=>282
  | 77=>283
  | n=>n
 g:=λn=>n
theorem Vk:Go.Proofs.SlLaysF0.n6 Tryz.prog Q6 where
 mixed:=by kernel_rfl
 f6:=⟨Tryz.f112.name,by kernel_rfl,by kernel_rfl⟩
 f14:=⟨Tryz.f166.name,by kernel_rfl,by kernel_rfl⟩
 f15:=by kernel_rfl
 f20:=⟨Tryz.f199.name,by kernel_rfl,by kernel_rfl⟩
 f21:=⟨Tryz.f200.name,by kernel_rfl,by kernel_rfl⟩
 f22:=⟨Tryz.f201.name,by kernel_rfl,by kernel_rfl⟩
 f23:=⟨Tryz.f202.name,by kernel_rfl,by kernel_rfl⟩
 f24:=⟨Tryz.f203.name,by kernel_rfl,by kernel_rfl⟩
 f25:=⟨Tryz.f204.name,by kernel_rfl,by kernel_rfl⟩
 f26:=⟨Tryz.f205.name,by kernel_rfl,by kernel_rfl⟩
 f27:=⟨Tryz.f206.name,by kernel_rfl,by kernel_rfl⟩
 f28:=by kernel_rfl
 f29:=by kernel_rfl
 f46:=⟨Tryz.f227.name,by kernel_rfl,by kernel_rfl⟩
 f47:=by kernel_rfl
 f48:=by kernel_rfl
 f49:=⟨Tryz.f230.name,by kernel_rfl,by kernel_rfl⟩
 f50:=⟨Tryz.f231.name,by kernel_rfl,by kernel_rfl⟩
 f57:=⟨Tryz.f244.name,by kernel_rfl,by kernel_rfl⟩
 t0:=Tryz.underlying0
 a0:=Tryz.isAgg0
 z0:=Tryz.sizeOf0
 v0:=Tryz.zeroValue0
 t3:=Tryz.underlying3
 a3:=Tryz.isAgg3
 z3:=Tryz.sizeOf3
 v3:=Tryz.zeroValue3
 t4:=Tryz.underlying4
 a4:=Tryz.isAgg4
 z4:=Tryz.sizeOf4
 v4:=Tryz.zeroValue4
 t5:=Tryz.underlying5
 a5:=Tryz.isAgg5
 z5:=Tryz.sizeOf5
 v5:=Tryz.zeroValue5
 t9:=Tryz.underlying9
 a9:=Tryz.isAgg9
 z9:=Tryz.sizeOf9
 v9:=Tryz.zeroValue9
 t22:=Tryz.underlying27
 a22:=Tryz.isAgg27
 z22:=Tryz.sizeOf27
 v22:=Tryz.zeroValue27
 t25:=Tryz.underlying164
 a25:=Tryz.isAgg164
 z25:=Tryz.sizeOf164
 v25:=Tryz.zeroValue164
 t39:=Tryz.underlying212
 a39:=Tryz.isAgg212
 z39:=Tryz.sizeOf212
 v39:=Tryz.zeroValue212
 t45:=Tryz.underlying241
 a45:=Tryz.isAgg241
 z45:=Tryz.sizeOf241
 v45:=Tryz.zeroValue241
 t46:=Tryz.underlying242
 a46:=Tryz.isAgg242
 z46:=Tryz.sizeOf242
 v46:=Tryz.zeroValue242
 t50:=Tryz.underlying30
 a50:=Tryz.isAgg30
 z50:=Tryz.sizeOf30
 v50:=Tryz.zeroValue30
 t53:=Tryz.underlying67
 a53:=Tryz.isAgg67
 z53:=Tryz.sizeOf67
 v53:=Tryz.zeroValue67
 t55:=Tryz.underlying249
 a55:=Tryz.isAgg249
 z55:=Tryz.sizeOf249
 v55:=Tryz.zeroValue249
 t66:=Tryz.underlying269
 a66:=Tryz.isAgg269
 z66:=Tryz.sizeOf269
 v66:=Tryz.zeroValue269
 t70:=Tryz.underlying273
 a70:=Tryz.isAgg273
 z70:=Tryz.sizeOf273
 v70:=Tryz.zeroValue273
 t76:=Tryz.underlying282
 a76:=Tryz.isAgg282
 z76:=Tryz.sizeOf282
 v76:=Tryz.zeroValue282
 t77:=Tryz.underlying283
 a77:=Tryz.isAgg283
 z77:=Tryz.sizeOf283
 v77:=Tryz.zeroValue283
def TE:Ren where
 f:=fun
  | 5=>126
  | 7=>173
  | n=>n
 t:=fun
  | 22=>3
  | 3=>3
  | 4=>4
  | n=>n
 g:=λn=>n
theorem Xn:Go.Proofs.SlLaysC2.n5 Tryz.prog TE where
 mixed:=by kernel_rfl
 f5:=⟨Tryz.f126.name,by kernel_rfl,by kernel_rfl⟩
 f7:=⟨Tryz.f173.name,by kernel_rfl,by kernel_rfl⟩
 t3:=Tryz.underlying3
 a3:=Tryz.isAgg3
 z3:=Tryz.sizeOf3
 v3:=Tryz.zeroValue3
 t4:=Tryz.underlying4
 a4:=Tryz.isAgg4
 z4:=Tryz.sizeOf4
 v4:=Tryz.zeroValue4
 t22:=Tryz.underlying3
 a22:=Tryz.isAgg3
 z22:=Tryz.sizeOf3
 v22:=Tryz.zeroValue3
section
attribute [local go_sem] Oper.semAt_some
theorem LI (x y:Int) (b cap:Nat) (W:World) (h0:W.cell? ⟨b,0,none⟩=some (.int .i64 x)) (h1:W.cell? ⟨b,1,none⟩=some (.int .i64 y)) (r:Int) (hr:(x≠0->r=x)/\(x=0->r=y)) :
  Calls Tryz.prog 168 #[.slice (some ⟨b,0,none⟩) 2 cap] W λe w'=>e=.returned (.int .i64 r)/\w'=W:=by
 go_enter Tryz.func168,Tryz.ntmps168
 go_wp2
 refine wp_loop_rounds 3 ?_
 rw[rounds_succ]
 go_wp2
 .rename_i h
  go_ret
  exact⟨by rw[hr.1 (by simpa using h)];rfl,rfl⟩
 .rename_i h
  have hx:x=0:=by simpa using h
  rw[rounds_succ]
  go_wp2
  .rename_i h
   go_ret
   exact⟨by rw[hr.2 hx];rfl,rfl⟩
  .rename_i h
   rw[rounds_succ]
   go_wp2
   go_ret
   exact⟨by rw[hr.2 hx,show y=0 by simpa using h];rfl,rfl⟩
structure XP (p:Prop):Prop where
 out:p
theorem Ly (x1 x2 y1 y2:Int) (W:World) (r:Int) (hr:(Lib.compareInt x1 y1≠0->r=Lib.compareInt x1 y1)/\(Lib.compareInt x1 y1=0->r=Lib.compareInt x2 y2)) :
  Calls Tryz.prog 113 #[.agg #[.int .i64 x1,.int .i64 x2],.agg #[.int .i64 y1,.int .i64 y2]] W λe w'=>e=.returned (.int .i64 r)/\∃ q os',w'=grow (W.drewN q) os':=by
 have hcon1:=λW'=>AnyG.cmp_Compare_int Xn x1 y1 W'
 change ∀ W',Calls Tryz.prog 126 _ _ _ at hcon1
 have hcon2:=λW'=>AnyG.cmp_Compare_int Xn x2 y2 W'
 change ∀ W',Calls Tryz.prog 126 _ _ _ at hcon2
 generalize Lib.compareInt x1 y1=c1 at *
 generalize Lib.compareInt x2 y2=c2 at *
 go_enter Tryz.func113,Tryz.ntmps113
 go_wp2_with (first | (go_at_call 126;refine(hcon1 _).mono ?_;rintro e w' ⟨rfl,rfl⟩)|(go_at_call 126;refine(hcon2 _).mono ?_;rintro e w' ⟨rfl,rfl⟩))
 obtain⟨b1,hb1⟩:∃ b1,b1=W.heap.size:=⟨_,rfl⟩
 obtain⟨b2,hb2⟩:∃ b2,b2=W.heap.size+1:=⟨_,rfl⟩
 rw[<-hb2,<-hb1]
 generalize hW1:(W.alloc (Obj.cells #[Value.int IntKind.i64 x1,Value.int IntKind.i64 x2] 33)).alloc (Obj.cells #[Value.int IntKind.i64 y1,Value.int IntKind.i64 y2] 33)=W1
 have hh1:W1.heap[b1]?=some (.cells #[Value.int IntKind.i64 x1,Value.int IntKind.i64 x2] 33 (0,0)):=by
  rw[<-hW1,hb1];exact(Below.heap_alloc _ _ _ (by simp)).trans (World.alloc_heap_new W _)
 have hh2:W1.heap[b2]?=some (.cells #[Value.int IntKind.i64 y1,Value.int IntKind.i64 y2] 33 (0,0)):=by
  rw[<-hW1,hb2]
  have:=World.alloc_heap_new (W.alloc (Obj.cells #[Value.int IntKind.i64 x1,Value.int IntKind.i64 x2] 33)) (Obj.cells #[Value.int IntKind.i64 y1,Value.int IntKind.i64 y2] 33)
  rwa [World.size_alloc] at this
 have k0:W1.cell? ⟨b1,0,none⟩=some (.int .i64 x1):=by unfold World.cell?;rw[hh1];rfl
 have k1:W1.cell? ⟨b1,1,none⟩=some (.int .i64 x2):=by unfold World.cell?;rw[hh1];rfl
 have k2:W1.cell? ⟨b2,0,none⟩=some (.int .i64 y1):=by unfold World.cell?;rw[hh2];rfl
 have k3:W1.cell? ⟨b2,1,none⟩=some (.int .i64 y2):=by unfold World.cell?;rw[hh2];rfl
 clear hh1 hh2
 refine wp_region_still_tail 10 (by kernel_rfl) (by kernel_rfl) ?_
 change wpStill _ _ W1.drew (λa'=>wpList _ _ _ _ a' W1.drew) _ _
 generalize hW2:W1.drew=W2
 replace k0:W2.cell? ⟨b1,0,none⟩=some (.int .i64 x1):=by rw[<-hW2];exact k0
 replace k1:W2.cell? ⟨b1,1,none⟩=some (.int .i64 x2):=by rw[<-hW2];exact k1
 replace k2:W2.cell? ⟨b2,0,none⟩=some (.int .i64 y1):=by rw[<-hW2];exact k2
 replace k3:W2.cell? ⟨b2,1,none⟩=some (.int .i64 y2):=by rw[<-hW2];exact k3
 have hgr:XP (W2=grow (W.drewN 1) #[Obj.cells #[Value.int IntKind.i64 x1,Value.int IntKind.i64 x2] 33,Obj.cells #[Value.int IntKind.i64 y1,Value.int IntKind.i64 y2] 33]):=by
  refine⟨?_⟩
  rw[<-hW2,<-hW1,alloc_eq_grow,alloc_eq_grow,grow_grow];rfl
 clear hW1 hW2 hb1 hb2
 simp only[aa7,List.take_zero,List.drop_succ_cons,aaE]
 iterate 4 still_step
 still_call (hcon1 _)
 iterate 4 still_step
 still_call (hcon2 _)
 refine wpStill_nil ?_
 go_wp2_with (go_at_call 168;refine(LI c1 c2 _ _ _ ?_ ?_ r hr).mono ?_)
 .unfold World.cell?;rw[World.alloc_heap_new];rfl
 .unfold World.cell?;rw[World.alloc_heap_new];rfl
 .rintro e w' ⟨rfl,rfl⟩
  go_wp2
  go_ret
  refine⟨rfl,1,#[Obj.cells #[Value.int IntKind.i64 x1,Value.int IntKind.i64 x2] 33,Obj.cells #[Value.int IntKind.i64 y1,Value.int IntKind.i64 y2] 33,Obj.cells #[Value.int IntKind.i64 c1,Value.int IntKind.i64 c2] 3],?_⟩
  rw[hgr.out,alloc_eq_grow,grow_grow];rfl
end
theorem Kg {Z:Nat->Prop} {μ:Mu} {hp:Array Obj} {id off len esz:Nat} {x:Value} (h:aC Z μ hp (.sl id off len esz) x) :
  (len=0/\∃ a,x=.slice a 0 0)∨∃ b o0 cap,∃ c:Array Value,∃ e f,x=.slice (some ⟨b,o0+off * esz,none⟩) len cap/\μ id=some (b,o0,esz)/\len<=cap/\hp[b]?=some (.cells c e f)/\o0+(off+cap) * esz<=c.size:=by
 cases h with
 | qX _ _ _ a=>exact .inl ⟨rfl,a,rfl⟩
 | sl _ _ _ _ b o0 cap c e f h1 d g i=>exact .inr ⟨b,o0,cap,c,e,f,rfl,h1,d,g,i⟩
theorem WM {Z:Nat->Prop} {μ:Mu} {hp:Array Obj} {f:FuncId} {x:Value} (h:aC Z μ hp (.fn f [] []) x):x=.func (.func f) #[] #[]:=by
 cases h with
 | fn _ _ _ a c h1 b _ _ =>
  rw[Array.eq_empty_of_size_eq_zero h1.symm,Array.eq_empty_of_size_eq_zero b.symm]
theorem Gq (w:World) (b o0 m:Nat) (d:Array aB) (os:Array Obj) {j:Nat} (a:j < w.heap.size):(sortWorldK jH 2 w b o0 m d os).heap[j]?=if b=j then (w.heap[j]?).map (onCells (putCells id o0 (flatK jH 2 d))) else w.heap[j]?:=by
 unfold sortWorldK grow putRowK putRow mapBlock
 simp only[Sort.ahead]
 rw[aaP (by simpa using a),Array.getElem?_modify]
theorem TL (l:List aB) (hl:l.length < 1152921504606846976) (u:V) (H:View) (ho:aV H u 2 (aU l)):au Tryz.prog 112 [u,.fn 113 [] []] H λr H'=>r=.bt []/\(∀ id,owner u≠some id->H' id=H id)/\aV H' u 2 (aU (eY l)):=by
 refine⟨by kernel_rfl,?_⟩
 rintro h rfl
 have eg:∀ args w,(callFunc 113 args).run Tryz.prog w=.ok (.enter 113 args) w:=enters_of Tryz.func113 (by kernel_rfl) rfl
 by_cases I:l=[]
 .subst I
  refine⟨.bt [],h,⟨Zt _,λZ μ F w xs s hr M=>?_⟩,.refl _,rfl,λ_ _=>rfl,by simpa [eY] using ho⟩
  obtain⟨hlen,N⟩:=s
  obtain⟨x,y,rfl⟩:∃ x y,xs=[x,y]:=by
   match xs,hlen with
   | [x,y],_=>exact⟨x,y,rfl⟩
  have h0:aC Z μ w.heap u x:=N 0 (by simp)
  obtain⟨p,cap,rfl⟩:∃ p cap,x=.slice p 0 cap:=by
   rcases ho with ⟨_,k,rfl⟩ | ⟨n,rfl,_⟩
   .cases h0 with | emp _ a _ _=>exact⟨a,0,rfl⟩
   .rcases Kg h0 with ⟨_,a,e⟩ | ⟨b,o0,cap,c,e,f,e2,_⟩
    .exact⟨a,0,e⟩
    .exact⟨_,cap,e2⟩
  refine(AnyF.slices_SortFunc_none Vk p cap y w).mono ?_
  rintro e w' ⟨rfl,rfl⟩
  exact⟨.tuple #[],Z,μ,rfl,.bt [] #[] rfl (λi hi=>by simp at hi),hr,Ext.refl _ _ _ _,λ_ _=>rfl⟩
 have S:0 < l.length:=abk.2 I
 obtain⟨n,rfl,hn⟩:=ho.sl (by rw[bJ];exact S)
 rw[bJ]
 have t:n < h.length:=jj (by rw[hn];simp)
 refine⟨.bt [],h.set n (.arr 2 (aU (eY l))),⟨by simp,λZ μ F w xs s hr M=>?_⟩,λk hk hd=>?_,rfl,λid ar=>?_,?_⟩
 rotate_left
 .rw[kN t]
  simp only[View.set]
  rw[Zk (λe=>by rw[e,hn] at hd;simp at hd)];exact hd
 .rw[kN t]
  simp only[View.set]
  rw[Zk (λe=>ar (by rw[e];rfl))]
 .refine .inr ⟨n,by rw[bJ,jK],?_⟩
  rw[kN t];simp[View.set]
 obtain⟨hlen,N⟩:=s
 obtain⟨x,y,rfl⟩:∃ x y,xs=[x,y]:=by
  match xs,hlen with
  | [x,y],_=>exact⟨x,y,rfl⟩
 have h0:aC Z μ w.heap (.sl n 0 l.length 2) x:=N 0 (by simp)
 have h1:aC Z μ w.heap (.fn 113 [] []) y:=N 1 (by simp)
 have hy:=WM h1
 subst hy
 rcases Kg h0 with ⟨e,_⟩ | ⟨b,o0,cap,c0,e0,f0,rfl,E,a7,_,_⟩
 .omega
 rw[Nat.zero_mul,aba]
 have J:cat h F n=.arr 2 (aU l):=by simp only[cat];rw[Zn t,hn]
 have T:=hr.obj n
 rw[J] at T
 obtain⟨_,⟨c,ty,fz,hc,U,W⟩,hq,z⟩:=T b o0 2 E
 rw[bJ] at W hq z
 have O:b < w.heap.size:=hr.lt _ _ _ _ E
 have P:∀ (m:List aB) (i:Nat) (hi:i < m.length),(aU m).getD i []=bE m[i]:=λm i hi=>by simp[aU,Zi,hi]
 have hH:HoldsK jH 2 w b o0 l.toArray:=by
  intro j D
  rw[size_flatK] at D
  have a8:j < l.length * 2:=by simpa using D
  have hi:j / 2 < l.length:=by omega
  obtain⟨x,hx,d⟩:=z (j / 2) (j % 2) hi (by omega)
  rw[show o0+j / 2 * 2+j % 2=o0+j by omega] at hx
  have a1:x=(flatK jH 2 l.toArray)[j]!:=by
   rw[get_flatK _ _ _ _ D]
   rw[P l _ hi] at d
   have e1:l.toArray[j / 2]! = l[j / 2]:=by simp[hi]
   rw[e1]
   rcases ZI (j % 2) 1 with X | X
   .rw[show j % 2=0 by omega] at d ⊢
    simp only[bE,aat] at d
    cases d;rfl
   .rw[show j % 2=1 by omega] at d ⊢
    simp only[bE,aa8,aat] at d
    cases d;rfl
  refine⟨by rw[oK,hx,a1];rfl,?_⟩
  simp only[World.frozen?,hc]
  rcases U with e | e
  .simp only[e,Bool.and_eq_false_iff,aaI];omega
  .simp only[Bool.and_eq_false_iff,aaI];omega
 have hT:∀ x y,(ltOf p9) x y=false->(ltOf p9) y x=false->x=y:=λx y h1 X=>by
  rw[vy] at h1 X
  exact aay λA=>by rw[yD h1 A] at X;simp at X
 have K:=AnyQ.slices_SortFunc_total Vk 2 Tryz.isAgg33 Tryz.sizeOf33 jH (λ_=>rfl) (λx v N=>by simp[jH] at N;rcases N with rfl | rfl <;> rfl) p9 OX 113 #[] b o0 cap l.toArray w eg (λ_ _ _ _ x y=>Ly x.aw x.dot y.aw y.dot _ _ (Ua x y)) hH O (by simp;omega) hT
 rw[Q8] at K
 refine Calls.mono (show Calls Tryz.prog 112 _ w _ from K) ?_
 rintro e w' ⟨rfl,m,os,rfl⟩
 have Y:=jK l
 have g:=λ{j:Nat} (D:j < w.heap.size)=>Gq w b o0 m (eY l).toArray os D
 have G:HoldsK jH 2 (sortWorldK jH 2 w b o0 m (eY l).toArray os) b o0 (eY l).toArray:=SWK.holds ⟨m,os,rfl⟩ O hH (by simp[Y])
 have B:w.heap.size<=(sortWorldK jH 2 w b o0 m (eY l).toArray os).heap.size:=SWK.le (dk:=(eY l).toArray) ⟨m,os,rfl⟩
 have Q:fk w (sortWorldK jH 2 w b o0 m (eY l).toArray os):=⟨rfl,rfl,rfl,B⟩
 generalize sortWorldK jH 2 w b o0 m (eY l).toArray os=w' at *
 have an:w'.heap[b]?=some (.cells (putCells id o0 (flatK jH 2 (eY l).toArray) c) ty fz):=by
  rw[g O,Zn rfl,hc];rfl
 have L:nU Z μ μ w.heap w'.heap h.length (.fK n (.arr 2 (aU (eY l)))):=by
  refine⟨b,o0,2,E,rfl,λj D A=>by rw[g D,Zk (λe=>A e.symm)],λj cc ee ff C=>?_,?_⟩
  .have a6:j < w.heap.size:=by
    rcases ZI j w.heap.size with q | q
    .exact q
    .simp[aaU q] at C
   by_cases e:b=j
   .subst e
    rw[hc] at C
    simp only[Zl,Obj.cells.injEq] at C
    obtain⟨rfl,rfl,rfl⟩:=C
    exact⟨_,_,an,by simp[putCells]⟩
   .exact⟨cc,ff,by rw[g a6,Zk e];exact C,rfl⟩
  .intro b1 o1 s1 h1
   rw[E] at h1
   simp only[Zl,Zo] at h1
   obtain⟨rfl,rfl,rfl⟩:=h1
   refine⟨rfl,⟨_,ty,fz,an,?_,?_⟩,λi hi=>?_,λi j hi D=>?_⟩
   .simpa [putCells] using U
   .rw[bJ,Y];simpa [putCells] using W
   .rw[bJ] at hi;rw[P _ i hi];rfl
   .rw[bJ] at hi
    have:=(G.cell (i:=i) (c:=j) (by simpa using hi) D).1
    rw[oK] at this
    refine⟨_,this,?_⟩
    rw[P _ i hi]
    have e1:(eY l).toArray[i]! = (eY l)[i]:=by simp[hi]
    rw[e1]
    match j,D with
    | 0,_=>exact .val _ rfl
    | 1,_=>exact .val _ rfl
 have A:cat h F n≠.dead:=by rw[J];simp
 have R:=hr.eff (n:=h.length) (eff:=.fK n (.arr 2 (aU (eY l)))) (by trivial) B L (λid o e=>by cases e;exact A) (λid o e=>by cases e)
 obtain⟨aq,bb⟩:=L.ext Q (by trivial) hr.c4 hr.iJ
 refine⟨.tuple #[],Z,μ,rfl,.bt [] #[] rfl (λi hi=>by simp at hi),?_,aq,λ_ _=>rfl⟩
 have ev:cat (h.set n (.arr 2 (aU (eY l)))) F=bH.view (cat h F) h.length (.fK n (.arr 2 (aU (eY l)))):=by
  funext k
  simp only[cat,bH.view,View.set,aa1]
  by_cases hk:k < h.length
  .rw[Zn hk,Zn hk,kN t];rfl
  .rw[Zk hk,Zk hk,Zk (by omega)]
 rw[ev]
 exact R
abbrev iN:aB:=⟨0,0⟩
def gp (l:List aB):Nat->List aB
 | 0=>[]
 | n+1=>if n=0∨l.getD n iN≠l.getD (n - 1) iN then gp l n ++ [l.getD n iN] else gp l n
theorem AT (l:List aB):∀ n,n<=l.length->(∀ j,0 < j->j < n->l.getD j iN≠l.getD (j - 1) iN)->gp l n=l.take n
 | 0,_,_=>by simp[gp]
 | n+1,c,h=>by
  have a:=AT l n (by omega) λj h1 d=>h j h1 (by omega)
  have b:l[n]?=some (l.getD n iN):=getD_some (by omega)
  rw[gp,Zn,a,ZG,b]
  .rfl
  .by_cases e:n=0
   .exact .inl e
   .exact .inr (h n (by omega) (by omega))
def B9 (l:List aB):List aB:=gp (eY l) l.length
theorem yT {l:List aB} (hp:l.Pairwise λx y=>cW y x=false):∀ n,n<=l.length->cJ (gp l n)/\(∀ x,x∈gp l n↔∃ i,i < n/\l.getD i iN=x)
 | 0,_=>by simp[gp,cJ]
 | n+1,r=>by
  obtain⟨h1,f⟩:=yT hp n (by omega)
  have d:∀ i j,i < j->j < l.length->cW (l.getD j iN) (l.getD i iN)=false:=λi j g k=>by
   have:=List.pairwise_iff_getElem.1 hp i j (by omega) k g
   simpa [Zi,Zj k,Zj (show i < l.length by omega)] using this
  rw[gp]
  split
  .rename_i c
   refine⟨?_,λx=>?_⟩
   .rw[cJ,List.pairwise_append]
    refine⟨h1,by simp,λa p b m=>?_⟩
    rw[aaj] at m;subst m
    obtain⟨i,hi,rfl⟩:=(f a).1 p
    have c:l.getD n iN≠l.getD (n - 1) iN:=c.resolve_left (by omega)
    have o:=yD (d (n - 1) n (by omega) (by omega)) c
    rcases ZI i (n - 1) with h | h
    .have k2:=d i (n - 1) h (by omega)
     have q:¬ cW (l.getD (n - 1) iN) (l.getD i iN)=true:=by rw[k2];simp
     rw[fY] at o q ⊢
     omega
    .have:i=n - 1:=by omega
     subst this;exact o
   .rw[ZN,f,aaj]
    constructor
    .rintro (⟨i,hi,e⟩ | e)
     .exact⟨i,by omega,e⟩
     .exact⟨n,by omega,e.symm⟩
    .rintro⟨i,hi,e⟩
     rcases ZI i n with h | h
     .exact .inl ⟨i,h,e⟩
     .have:i=n:=by omega
      subst this;exact .inr e.symm
  .rename_i c
   simp only[not_or,Decidable.not_not] at c
   refine⟨h1,λx=>?_⟩
   rw[f]
   constructor
   .rintro⟨i,hi,e⟩;exact⟨i,by omega,e⟩
   .rintro⟨i,hi,e⟩
    rcases ZI i n with h | h
    .exact⟨i,h,e⟩
    .have:i=n:=by omega
     subst this
     exact⟨i - 1,by omega,by rw[<-c.2];exact e⟩
theorem EK (l:List aB):cJ (B9 l):=(yT (CI l) _ (by rw[jK];exact Zt _)).1
theorem so {l:List aB} {x:aB} : x∈B9 l↔x∈l:=by
 rw[B9,(yT (CI l) _ (by rw[jK];exact Zt _)).2,<-(CS l).mem_iff,aaA]
 constructor
 .rintro⟨i,hi,e⟩
  have a:i < (eY l).length:=by rw[jK];exact hi
  exact⟨i,a,by rw[Zi,Zj a] at e;exact e⟩
 .rintro⟨i,hi,e⟩
  exact⟨i,by rw[jK] at hi;exact hi,by rw[Zi,Zj hi];exact e⟩
theorem Pj {l:List aB} (h:cJ l):B9 l=l:=Bw (EK l) h λ_=>so
def kF (g:aj) (s:Int):Int:=if s < 0 then (g.af.length:Int) - 1 - s else s
theorem ze (g:aj) (k:Nat):kF g (bj g k)=k:=by
 unfold kF bj;split <;> split <;> omega
theorem Kq {g:aj} {s:Int} (h1:s < g.af.length):0<=kF g s/\bj g (kF g s).toNat=s:=by
 unfold kF bj;split
 .rw[Zk (by omega)];omega
 .rw[Zn (by omega)];omega
theorem rl {g:aj} {s:Int} (h:fT g s=true):s < g.af.length/\kF g s < g.af.length+g.ak.length:=by
 unfold fT at h
 unfold kF
 by_cases a:0<=s
 .rw[Zn a] at h
  rw[Zk (by omega)]
  simp at h
  omega
 .rw[Zk a] at h
  rw[Zn (by omega)]
  simp at h
  omega
def gO (l:List aB):List UInt8:=l.flatMap λx=>[UInt8.ofNat (x.aw+1).toNat,UInt8.ofNat x.dot.toNat]
theorem Rw {a b:Nat} (c:a < 256) (d:b < 256) (h:UInt8.ofNat a=UInt8.ofNat b):a=b:=by
 have:=aau UInt8.toNat h
 simp at this
 omega
theorem Jb {g:aj} (c:g.dP):∀ {a b:List aB},(∀ x∈a,cB g x)->(∀ x∈b,cB g x)->gO a=gO b->a=b
 | [],[],_,_,_=>rfl
 | [],y :: b,_,_,h=>by simp[gO] at h
 | x :: a,[],_,_,h=>by simp[gO] at h
 | x :: a,y :: b,i,j,h=>by
  simp only[gO,List.flatMap_cons,Z4,aar,abr] at h
  obtain⟨h1,k,l⟩:=h
  have d:=i x (by simp)
  have e:=j y (by simp)
  have hr:=c.rules
  have q:=fp c d.1
  have r:=fp c e.1
  have:=d.1;have:=d.2;have:=e.1;have:=e.2
  have s:=Rw (by omega) (by omega) h1
  have k2:=Rw (by omega) (by omega) k
  have t:=Jb c (λz f=>i z (by simp[f])) (λz f=>j z (by simp[f])) l
  obtain⟨m,n⟩:=x
  obtain⟨o,p⟩:=y
  simp only at *
  have:m=o:=by omega
  have:n=p:=by omega
  subst_vars;rfl
structure kI (g:aj) (a:List aM):Prop where
 first:(a.getD 0 bg).bf=[⟨-1,0⟩]
 oC:∀ s∈a,∀ e∈s.aK,(a.getD e.to.toNat bg).bf=bw g (cK g s.bf) e.sym
theorem mO (l:List aM) (i:Nat) (c:cn) (j:Nat):((l.modify i λx=>(⟨x.bf,x.aK ++ [c]⟩:aM)).getD j bg).bf=(l.getD j bg).bf:=by
 simp only[Zi,List.getElem?_modify]
 cases l[j]? with
 | none=>rfl
 | some x =>
  by_cases e:i=j
  .subst e;simp
  .simp[e]
theorem kI.put {g:aj} {out:List aM} (h:kI g out) {at_:Nat} {s to:Int} (c:(out.getD to.toNat bg).bf=bw g (cK g (out.getD at_ bg).bf) s):kI g (out.modify at_ λx=>(⟨x.bf,x.aK ++ [⟨s,to⟩]⟩:aM)):=by
 refine⟨by rw[mO];exact h.first,λy a e he=>?_⟩
 rw[mO]
 rcases mem_modify a with a | ⟨x,b,rfl⟩
 .exact h.oC y a e he
 .rcases ZN.1 he with he | he
  .exact h.oC x (Zp b) e he
  .simp at he;subst he
   rw[c,Zi,b];rfl
theorem kI.add {g:aj} {out:List aM} (h:kI g out) (h1:1<=out.length) (c:∀ s∈out,∀ e∈s.aK,0<=e.to/\e.to < out.length) (k:List aB):kI g (out ++ [⟨k,[]⟩]):=by
 have b:∀ j:Nat,j < out.length->((out ++ [(⟨k,[]⟩:aM)]).getD j bg)=out.getD j bg:=λj d=>by
  simp[Zi,ZP d]
 refine⟨by rw[b 0 (by omega)];exact h.first,λy a e he=>?_⟩
 rcases ZN.1 a with a | a
 .have:=c y a e he
  rw[b _ (by omega)];exact h.oC y a e he
 .simp at a;subst a;simp at he
theorem Sa (g:aj) (l:List aB) (at_:Nat) (out:List aM) (i:Nat) {j:Nat} (a:j < out.length):((dr g l at_ out i).getD j bg).bf=(out.getD j bg).bf:=by
 unfold dr
 split
 .rfl
 .split
  .rw[mO]
   simp[Zi,ZP a]
  .rw[mO]
theorem kI.step {g:aj} {l:List aB} {at_ i:Nat} {out:List aM} (h:kI g out) (hi:eo g at_ i out) (b:at_ < out.length) (hl:cK g (out.getD at_ bg).bf=l):kI g (dr g l at_ out i):=by
 unfold dr
 split
 .exact h
 .split
  .refine(h.add (by omega) hi.to _).put ?_
   rw[ZK]
   have c:((out ++ [(⟨bw g l (bj g i),[]⟩:aM)]).getD out.length bg).bf=bw g l (bj g i):=by
    simp[Zi]
   have d:(out ++ [(⟨bw g l (bj g i),[]⟩:aM)]).getD at_ bg=out.getD at_ bg:=by
    simp[Zi,ZP b]
   rw[c,d,hl]
  .rename_i f
   refine h.put ?_
   obtain⟨n,a⟩:∃ n:Nat,findD out (bw g l (bj g i))=n:=⟨(findD out (bw g l (bj g i))).toNat,by omega⟩
   obtain⟨s,h1,e⟩:=KM _ _ _ a
   rw[a,ZK,Zi,h1,hl]
   exact e
theorem kI.row {g:aj} (a:g.dP) {at_:Nat} {out:List aM} (h:kI g out) (hi:eo g at_ 0 out) (b:at_ < out.length):∀ n:Nat,n<=40->kI g ((List.range n).foldl (dr g (cK g (out.getD at_ bg).bf) at_) out)/\(((List.range n).foldl (dr g (cK g (out.getD at_ bg).bf) at_) out).getD at_ bg).bf=(out.getD at_ bg).bf
 | 0,_=>⟨h,rfl⟩
 | n+1,d=>by
  obtain⟨h1,c⟩:=kI.row a h hi b n (by omega)
  obtain⟨i1,i2,i3⟩:=eo.row (hi.qj a b).1 (hi.qj a b).2 hi n (by omega)
  rw[Z8,Z7]
  simp only[ZS,aaC]
  refine⟨h1.step i1 (by omega) (by rw[c]),?_⟩
  rw[Sa _ _ _ _ _ (by omega),c]
theorem D6 {g:aj} (a:g.dP):∀ (f at_:Nat) (out:List aM),eo g at_ 0 out->kI g out->(gn g f at_ out).2=0->kI g (gn g f at_ out).1
 | 0,_,out,_,h,_=>h
 | f+1,at_,out,hi,h,b=>by
  rw[gn] at b ⊢
  split
  .rename_i c
   rw[Zn c] at b
   have hr:=eo.row (hi.qj a c).1 (hi.qj a c).2 hi (g.af.length+g.ak.length) (by have:=a.af;have:=a.ak;omega)
   have he:=h.row a hi c (g.af.length+g.ak.length) (by have:=a.af;have:=a.ak;omega)
   rw[show (List.range (g.af.length+g.ak.length)).foldl (dr g (cK g (out.getD at_ bg).bf) at_) out=C5 g at_ out (g.af.length+g.ak.length) from rfl] at hr he
   split
   .rename_i d;rw[Zn d] at b;simp at b
   .rename_i d
    rw[Zk d] at b
    exact D6 a f (at_+1) _ hr.1.next he.1 b
  .exact h
theorem E3 {g:aj} (a:g.dP) (h:(bY g).2=0):kI g (bY g).1:=by
 unfold bY at h ⊢
 split
 .rename_i hr
  rw[Zn hr] at h
  exact D6 a 302 0 ez po ⟨rfl,λs hs e he=>by simp[ez] at hs;subst hs;simp at he⟩ h
 .rename_i hr
  rw[Zk hr] at h
  simp at h
theorem Cj {a:List aM} {i:Nat} {e:cn} (h:e∈(a.getD i bg).aK):i < a.length/\a.getD i bg∈a:=by
 rcases ZI i a.length with hi | hi
 .exact⟨hi,Zp (getD_some hi)⟩
 .rw[Zi,ZT hi] at h;simp at h
theorem ou.bf {g:aj} {l:List aB} {x:aB} (h:ou g l x) (hd:x.dot≠0∨x.aw < 0):x∈l:=by
 cases h with
 | base h=>exact h
 | step=>simp at hd;omega
theorem TN {l:List cn} {s:Int} {c:Cell} (h:gR l s=some c):∃ e∈l,e.sym=s/\c=⟨1,e.to⟩:=by
 induction l with
 | nil=>simp[gR] at h
 | cons e l a =>
  rw[gR] at h
  split at h
  .rename_i hs
   simp at h
   exact⟨e,by simp,hs,h.symm⟩
  .obtain⟨b,h1,d⟩:=a h
   exact⟨b,by simp[h1],d⟩
theorem Ud {l:List cn} {s:Int} (h:0<=dI l s):∃ e∈l,e.sym=s/\dI l s=e.to:=by
 induction l with
 | nil=>simp[dI] at h
 | cons e l a =>
  rw[dI] at h ⊢
  split
  .rename_i hs;exact⟨e,by simp,hs,rfl⟩
  .rename_i hs
   rw[Zk hs] at h
   obtain⟨b,h1,c⟩:=a h
   exact⟨b,by simp[h1],c⟩
def lP (g:aj) (l:List aB) (n:Nat):List Int:=((List.range n).filter λi=>decide (bw g l (bj g i)≠[])).map λ(i:Nat)=>bj g i
theorem DV (g:aj) (l:List aB) (n:Nat):lP g l (n+1)=if bw g l (bj g n)=[] then lP g l n else lP g l n ++ [bj g n]:=by
 unfold lP
 rw[Z8,aaS,ZD]
 by_cases h:bw g l (bj g n)=[]
 .rw[Zn h];simp[h]
 .rw[Zk h];simp[h]
structure ox (g:aj) (at_ i:Nat) (out:List aM):Prop where
 one:(out.map aM.bf).Nodup
 back:∀ j:Nat,0 < j->j < out.length->∃ (i:Nat) (e:cn),i < j/\e∈(out.getD i bg).aK/\e.to=j
 done:∀ j:Nat,j < at_->j < out.length->(out.getD j bg).aK.map cn.sym=lP g (cK g (out.getD j bg).bf) (g.af.length+g.ak.length)
 here:at_ < out.length->(out.getD at_ bg).aK.map cn.sym=lP g (cK g (out.getD at_ bg).bf) i
theorem tW (l:List aM) (i:Nat) (c:cn) (j:Nat) (hi:i < l.length):((l.modify i λx=>(⟨x.bf,x.aK ++ [c]⟩:aM)).getD j bg).aK=if i=j then (l.getD j bg).aK ++ [c] else (l.getD j bg).aK:=by
 simp only[Zi,List.getElem?_modify]
 by_cases e:i=j
 .subst e;simp[hi]
 .cases l[j]? with
  | none=>simp[e]
  | some x=>simp[e]
theorem GF (l:List aM) (i:Nat) (c:cn):(l.modify i λx=>(⟨x.bf,x.aK ++ [c]⟩:aM)).map aM.bf=l.map aM.bf:=by
 apply List.ext_getElem?
 intro j
 simp only[Zm,List.getElem?_modify]
 cases l[j]? with
 | none=>rfl
 | some x=>by_cases e:i=j <;> simp[e]
theorem ox.put {g:aj} {at_ i:Nat} {out:List aM} {to:Int} (a:at_ < out.length) (h1:(out.map aM.bf).Nodup) (f:∀ j:Nat,0 < j->j < out.length->(∃ (i:Nat) (e:cn),i < j/\e∈(out.getD i bg).aK/\e.to=j)∨(at_ < j/\to=j))
  (h:∀ j:Nat,j < at_->j < out.length->(out.getD j bg).aK.map cn.sym=lP g (cK g (out.getD j bg).bf) (g.af.length+g.ak.length)) (l:(out.getD at_ bg).aK.map cn.sym=lP g (cK g (out.getD at_ bg).bf) i)
  (b:bw g (cK g (out.getD at_ bg).bf) (bj g i)≠[]):ox g at_ (i+1) (out.modify at_ λx=>(⟨x.bf,x.aK ++ [⟨bj g i,to⟩]⟩:aM)):=by
 refine⟨by rw[GF];exact h1,λj c hl=>?_,λj c hl=>?_,λ_=>?_⟩
 .rw[List.length_modify] at hl
  rcases f j c hl with ⟨k,e,d,a2,a3⟩ | ⟨d,a2⟩
  .refine⟨k,e,d,?_,a3⟩
   rw[tW _ _ _ _ a]
   split
   .exact aaT _ a2
   .exact a2
  .refine⟨at_,⟨bj g i,to⟩,d,?_,a2⟩
   rw[tW _ _ _ _ a,Zn rfl]
   simp
 .rw[List.length_modify] at hl
  rw[tW _ _ _ _ a,Zk (by omega),mO]
  exact h j c hl
 .rw[tW _ _ _ _ a,Zn rfl,mO,ZD,l,DV,Zk b];rfl
theorem ox.step {g:aj} {at_ i:Nat} {out:List aM} (h:ox g at_ i out) (d:at_ < out.length):ox g at_ (i+1) (dr g (cK g (out.getD at_ bg).bf) at_ out i):=by
 unfold dr
 split
 .rename_i hm
  exact⟨h.one,h.back,h.done,λ_=>by rw[DV,Zn hm];exact h.here d⟩
 .rename_i hm
  split
  .rename_i m
   have f:∀ j:Nat,j < out.length->((out ++ [(⟨bw g (cK g (out.getD at_ bg).bf) (bj g i),[]⟩:aM)]).getD j bg)=out.getD j bg:=λj c=>by
    simp[Zi,ZP c]
   refine ox.put (by simp;omega) ?_ (λj c hl=>?_) (λj c hl=>?_) ?_ ?_
   .rw[ZD,aak]
    refine⟨h.one,by simp,λa n b l=>?_⟩
    obtain⟨s,hs,rfl⟩:=ZF.1 n
    simp at l;subst l
    exact JS _ _ m s hs
   .rcases ZI j out.length with q | q
    .obtain⟨k,e,o,a2,a3⟩:=h.back j c q
     exact .inl ⟨k,e,o,by rw[f k (by omega)];exact a2,a3⟩
    .right
     simp at hl
     exact⟨by omega,by omega⟩
   .rw[f j (by omega)];exact h.done j c (by omega)
   .rw[f at_ d];exact h.here d
   .rw[f at_ d];exact hm
  .exact ox.put d h.one (λj c hl=>.inl (h.back j c hl)) h.done (h.here d) hm
theorem ox.row {g:aj} (a:g.dP) {at_:Nat} {out:List aM} (h:ox g at_ 0 out) (hi:eo g at_ 0 out) (he:kI g out) (b:at_ < out.length):∀ n:Nat,n<=40->ox g at_ n ((List.range n).foldl (dr g (cK g (out.getD at_ bg).bf) at_) out)
 | 0,_=>h
 | n+1,d=>by
  have h1:=ox.row a h hi he b n (by omega)
  obtain⟨i1,i2,i3⟩:=eo.row (hi.qj a b).1 (hi.qj a b).2 hi n (by omega)
  obtain⟨e,c⟩:=he.row a hi b n (by omega)
  rw[Z8,Z7]
  simp only[ZS,aaC]
  have:=h1.step (by omega)
  rw[c] at this
  exact this
theorem ox.next {g:aj} {at_:Nat} {out:List aM} (h:ox g at_ (g.af.length+g.ak.length) out) (hi:eo g at_ (g.af.length+g.ak.length) out):ox g (at_+1) 0 out:=by
 refine⟨h.one,h.back,λj a hl=>?_,λhl=>?_⟩
 .rcases ZI j at_ with q | q
  .exact h.done j q hl
  .have:j=at_:=by omega
   subst this
   exact h.here hl
 .have:=(hi.aK (at_+1) _ (getD_some (d:=bg) hl)).2.2 (by omega)
  rw[this];simp[lP]
structure U5 (g:aj) (a:List aM):Prop where
 one:(a.map aM.bf).Nodup
 back:∀ j:Nat,0 < j->j < a.length->∃ (i:Nat) (e:cn),i < j/\e∈(a.getD i bg).aK/\e.to=j
 all:∀ s∈a,s.aK.map cn.sym=lP g (cK g s.bf) (g.af.length+g.ak.length)
theorem EC {g:aj} (a:g.dP):∀ (f at_:Nat) (out:List aM),302<=f+at_->eo g at_ 0 out->kI g out->ox g at_ 0 out->out.length<=300->(gn g f at_ out).2=0->U5 g (gn g f at_ out).1
 | 0,at_,out,l,_,_,h,hl,_=>⟨h.one,h.back,λs hs=>by
   change s∈out at hs
   obtain⟨j,d,e⟩:=aaA.1 hs
   have:=h.done j (by omega) d
   rwa [show out.getD j bg=s by rw[Zi,Zj d];exact e] at this⟩
 | f+1,at_,out,l,hi,he,h,hl,b=>by
  have m:=a.af
  have n:=a.ak
  rw[gn] at b ⊢
  split
  .rename_i c
   rw[Zn c] at b
   have hr:=eo.row (hi.qj a c).1 (hi.qj a c).2 hi (g.af.length+g.ak.length) (by omega)
   have hE:=he.row a hi c (g.af.length+g.ak.length) (by omega)
   have k:=h.row a hi he c (g.af.length+g.ak.length) (by omega)
   rw[show (List.range (g.af.length+g.ak.length)).foldl (dr g (cK g (out.getD at_ bg).bf) at_) out=C5 g at_ out (g.af.length+g.ak.length) from rfl] at hr hE k
   split
   .rename_i i;rw[Zn i] at b;simp at b
   .rename_i i
    rw[Zk i] at b
    exact EC a f (at_+1) _ (by omega) hr.1.next hE.1 (k.next hr.1) (by omega) b
  .rename_i c
   exact⟨h.one,h.back,λs hs=>by
    change s∈out at hs
    obtain⟨j,d,e⟩:=aaA.1 hs
    have:=h.done j (by omega) d
    rwa [show out.getD j bg=s by rw[Zi,Zj d];exact e] at this⟩
theorem Eh {g:aj} (a:g.dP) (h:(bY g).2=0):U5 g (bY g).1:=by
 unfold bY at h ⊢
 split
 .rename_i hr
  rw[Zn hr] at h
  refine EC a 302 0 ez (by omega) po ⟨rfl,λs hs e he=>by simp[ez] at hs;subst hs;simp at he⟩ ⟨by simp[ez],λj h1 b=>by simp[ez] at b;omega,λj h1=>by omega,λ_=>?_⟩ (by simp[ez]) h
  simp[ez,lP]
 .rename_i hr
  rw[Zk hr] at h
  simp at h
theorem GO (g:aj):∀ (f at_:Nat) (out:List aM),(gn g f at_ out).2=0∨gn g f at_ out=([],5)
 | 0,_,_=>.inl rfl
 | f+1,at_,out=>by
  rw[gn]
  split
  .split
   .exact .inr rfl
   .exact GO g f _ _
  .exact .inl rfl
theorem Hm (g:aj):((bY g).2=0/\isRed g=true)∨(bY g=([],5)/\isRed g=true)∨(bY g=([],1)/\isRed g=false):=by
 unfold bY
 cases h:isRed g with
 | false=>exact .inr (.inr ⟨by simp,rfl⟩)
 | true =>
  rw[Zn rfl]
  rcases GO g 302 0 ez with h | h
  .exact .inl ⟨h,rfl⟩
  .exact .inr (.inl ⟨h,rfl⟩)
theorem om {g:aj} (a:g.dP) {x:aB} (c:cB g x) {s:Int} (h:bA g x=(s,true)):fT g s=true:=by
 obtain⟨h1,d⟩:=rW h
 have b:x.dot.toNat < (aW g x.aw).length:=by have:=c.2;omega
 have hm:s∈aW g x.aw:=by
  rw[<-d,Zi,Zj b];exact Zs _
 unfold aW at hm
 split at hm
 .simp at hm;subst hm
  have:=a.nM;have:=a.start
  unfold fT
  rw[Zk (by omega)]
  simp;omega
 .have e:g.rules[x.aw.toNat]?=some (ay g x.aw):=by unfold ay;exact getD_some (by have:=c.1;omega)
  exact a.sym _ (Zp e) s hm
def eK (a:List aM) (p:Nat) (s:Int):Nat:=(dY a p [s]).1.toNat
def fa (a:List aM) (p:Nat) (s:Int):Prop:=∃ e∈(a.getD p bg).aK,e.sym=s
noncomputable abbrev kp (g:aj) (a:List aM) (p:Nat):List aB:=cK g (a.getD p bg).bf
inductive jB (a:List aM):Nat->List Int->Nat->Prop
 | nil {p:Nat} : jB a p [] p
 | cons {p q:Nat} {s:Int} {X:List Int} : fa a p s->jB a (eK a p s) X q->jB a p (s :: X) q
theorem jB.snoc {a:List aM} {p q:Nat} {X:List Int} (h:jB a p X q) {s:Int} (he:fa a q s):jB a p (X ++ [s]) (eK a q s):=by
 induction h with
 | nil=>exact .cons he .nil
 | cons h1 _ b=>exact .cons h1 (b he)
theorem jB.one {a:List aM} {p q r:Nat} {X:List Int} (h:jB a p X q) (k:jB a p X r):q=r:=by
 induction h with
 | nil=>cases k;rfl
 | cons h1 _ b=>cases k with | cons _ k=>exact b k
theorem ib {a:List aM} {p:Nat} {s:Int} (h:fa a p s):p < a.length:=by
 obtain⟨e,he,_⟩:=h;exact(Cj he).1
theorem LL {l:List cn} {s:Int} (h:∃ e∈l,e.sym=s):∃ e∈l,e.sym=s/\dI l s=e.to:=by
 induction l with
 | nil=>obtain⟨e,he,_⟩:=h;simp at he
 | cons e l b =>
  rw[dI]
  by_cases hs:e.sym=s
  .rw[Zn hs];exact⟨e,by simp,hs,rfl⟩
  .rw[Zk hs]
   obtain⟨c,h1,a⟩:=h
   rcases Zz.1 h1 with rfl | h1
   .exact absurd a hs
   .obtain⟨d,f,k2⟩:=b ⟨c,h1,a⟩
    exact⟨d,by simp[f],k2⟩
theorem Tt {g:aj} {i j:Nat} (h:bj g i=bj g j):i=j:=by
 have h1:=ze g i
 rw[h,ze] at h1
 omega
theorem w7 (g:aj) (l:List aB) (n:Nat):(lP g l n).Nodup:=by
 unfold lP
 unfold List.Nodup
 rw[abj]
 exact((List.nodup_range (n:=n)).filter _).imp λa e=>a (Tt e)
theorem U4 {l:List cn} (h:(l.map cn.sym).Nodup) {e:cn} (he:e∈l):dI l e.sym=e.to:=by
 induction l with
 | nil=>simp at he
 | cons x l a =>
  simp only[ZJ,aah] at h
  rw[dI]
  rcases Zz.1 he with rfl | he
  .rw[Zn rfl]
  .rw[Zk (λb=>h.1 (by rw[b];exact List.mem_map_of_mem he))]
   exact a h.2 he
structure cL (g:aj) (a:List aM):Prop where
 dq:g.dP
 ok:wo g a
 e:kI g a
 x:U5 g a
 pos:1<=a.length
section
variable {g:aj} {a:List aM}
theorem cL.bf (h:cL g a) {p:Nat} (hp:p < a.length):∀ x∈(a.getD p bg).bf,cB g x:=(h.ok.bf _ (Zp (getD_some hp))).2.2
theorem cL.has (h:cL g a) {p:Nat} (hp:p < a.length) {x:aB} (b:x∈kp g a p):cB g x:=((df h.dq (h.bf hp)).1 b).has (h.bf hp)
theorem cL.oC (h:cL g a) {p:Nat} (hp:p < a.length) {s:Int} : fa a p s↔∃ x∈kp g a p,bA g x=(s,true):=by
 have hs:=h.x.all _ (Zp (getD_some (d:=bg) hp))
 have e:fa a p s↔s∈((a.getD p bg).aK.map cn.sym):=by
  simp only[fa,ZF]
 rw[e,hs]
 simp only[lP,ZF,aag,aap,ZA]
 constructor
 .rintro⟨i,⟨hi,f⟩,rfl⟩
  obtain⟨y,k⟩:=List.exists_mem_of_ne_nil _ f
  obtain⟨x,b,c,_⟩:=mf.1 k
  exact⟨x,b,c⟩
 .rintro⟨x,b,c⟩
  obtain⟨l,m⟩:=rl (om h.dq (h.has hp b) c)
  obtain⟨n,j⟩:=Kq l
  refine⟨(kF g s).toNat,⟨by omega,?_⟩,j⟩
  rw[j]
  exact List.ne_nil_of_mem (mf.2 ⟨x,b,c,rfl⟩)
theorem cL.eK (h:cL g a) {p:Nat} {s:Int} (he:fa a p s):∃ e∈(a.getD p bg).aK,e.sym=s/\e.to=eK a p s/\eK a p s < a.length/\dY a p [s]=((eK a p s:Int),true):=by
 have hp:=ib he
 have hm:=Zp (getD_some (d:=bg) hp)
 obtain⟨e,h1,c,f⟩:=LL he
 obtain⟨t1,t2⟩:=h.ok.to _ hm _ h1
 have hw:dY a p [s]=(e.to,true):=by
  unfold dY
  rw[Zk (by omega),fU,ZK,f,Zn ⟨t1,t2⟩,fU]
 have b:((Gv.eK a p s:Nat):Int)=e.to:=by unfold Gv.eK;rw[hw];simp;omega
 exact⟨e,h1,c,b.symm,by omega,by rw[hw,b]⟩
theorem cL.Uu (h:cL g a) {p:Nat} {s:Int} (he:fa a p s):(a.getD (Gv.eK a p s) bg).bf=bw g (kp g a p) s:=by
 have hm:=Zp (getD_some (d:=bg) (ib he))
 obtain⟨e,h1,b,c,_⟩:=h.eK he
 have:=h.e.oC _ hm e h1
 rw[c,ZK,b] at this
 exact this
theorem cL.step (h:cL g a) {p:Nat} (hp:p < a.length) {x:aB} (b:x∈kp g a p) {s:Int} (c:bA g x=(s,true)):fa a p s/\(⟨x.aw,x.dot+1⟩:aB)∈(a.getD (Gv.eK a p s) bg).bf/\(⟨x.aw,x.dot+1⟩:aB)∈kp g a (Gv.eK a p s)/\Gv.eK a p s < a.length:=by
 have he:=(h.oC hp).2 ⟨x,b,c⟩
 obtain⟨_,_,_,_,hl,_⟩:=h.eK he
 have hk:(⟨x.aw,x.dot+1⟩:aB)∈(a.getD (Gv.eK a p s) bg).bf:=by
  rw[h.Uu he];exact mf.2 ⟨x,b,c,rfl⟩
 exact⟨he,hk,(df h.dq (h.bf hl)).2 (.base hk),hl⟩
theorem cL.YW (h:cL g a) {p:Nat} {s:Int} (he:fa a p s):∀ y∈(a.getD (Gv.eK a p s) bg).bf,1<=y.dot:=by
 intro y b
 rw[h.Uu he] at b
 obtain⟨x,c,_,rfl⟩:=mf.1 b
 have:=(h.has (ib he) c).2
 simp only;omega
theorem cL.Y1 (h:cL g a) {p:Nat} {s:Int} (he:fa a p s):Gv.eK a p s≠0:=λe=>by
 have:=h.YW he ⟨-1,0⟩ (by rw[e,h.e.first];simp)
 simp at this
theorem cL.prev (h:cL g a) {i:Nat} (hi:i < a.length) {x:aB} (c:x∈(a.getD i bg).bf) (f:0 < i):∃ (p:Nat) (y:aB) (s:Int),p < i/\p < a.length/\y∈kp g a p/\bA g y=(s,true)/\x=⟨y.aw,y.dot+1⟩/\fa a p s/\Gv.eK a p s=i:=by
 obtain⟨p,e,hp,he,d⟩:=h.x.back i f hi
 obtain⟨b,hm⟩:=Cj he
 have hk:=h.e.oC _ hm e he
 rw[d,ZK] at hk
 rw[hk] at c
 obtain⟨y,j,k,rfl⟩:=mf.1 c
 have hE:fa a p e.sym:=⟨e,he,rfl⟩
 refine⟨p,y,e.sym,hp,b,j,k,rfl,hE,?_⟩
 have h1:=U4 (by rw[h.x.all _ hm];exact w7 _ _ _) he
 have hw:dY a p [e.sym]=(e.to,true):=by
  have:=h.ok.to _ hm _ he
  unfold dY
  rw[Zk (by omega),fU,ZK,h1,Zn this,fU]
 unfold Gv.eK
 rw[hw,d];rfl
theorem xN {x:aB} {s:Int} (b:cB g x) (h:bA g x=(s,true)):∃ d:Nat,x.dot=d/\d < (aW g x.aw).length/\(aW g x.aw).drop d=s :: (aW g x.aw).drop (d+1):=by
 obtain⟨h1,a⟩:=rW h
 have:=b.2
 refine⟨x.dot.toNat,by omega,by omega,?_⟩
 rw[aad (show x.dot.toNat < (aW g x.aw).length by omega)]
 rw[Zi,Zj (show x.dot.toNat < (aW g x.aw).length by omega)] at a
 simp at a
 rw[a]
theorem uu {r:Int} {d:Nat} {s:Int} {l:List Int} (h:(aW g r).drop d=s :: l):bA g ⟨r,d⟩=(s,true)/\(aW g r).drop (d+1)=l/\d < (aW g r).length:=by
 have a:d < (aW g r).length:=by
  rcases ZI d (aW g r).length with q | q
  .exact q
  .rw[ZQ q] at h;simp at h
 rw[aad a] at h
 simp only[abr] at h
 refine⟨?_,h.2,a⟩
 unfold bA
 rw[Zk (by simp only;omega)]
 simp only[ZK,Zi,Zj a,ZC,h.1]
theorem cL.fwd (h:cL g a) (r:Int):∀ (X:List Int) (d:Nat) (p:Nat),p < a.length->(⟨r,d⟩:aB)∈kp g a p->(∃ l,(aW g r).drop d=X ++ l)->∃ q,q < a.length/\jB a p X q/\(⟨r,((d+X.length:Nat):Int)⟩:aB)∈kp g a q
 | [],d,p,hp,b,_=>⟨p,hp,.nil,by simpa using b⟩
 | s :: X,d,p,hp,b,⟨l,hl⟩=>by
  obtain⟨c,e,n⟩:=uu hl
  obtain⟨s1,s2,f,i⟩:=h.step hp b c
  obtain⟨q,j,k,m⟩:=cL.fwd h r X (d+1) (Gv.eK a p s) i (by simpa using f) ⟨l,e⟩
  refine⟨q,j,.cons s1 k,?_⟩
  rw[show d+(s :: X).length=d+1+X.length by simp;omega]
  exact m
theorem cL.bwd (h:cL g a) (r:Int):∀ (d:Nat) (i:Nat),i < a.length->(⟨r,d⟩:aB)∈kp g a i->∃ p,p < a.length/\jB a p ((aW g r).take d) i/\(⟨r,0⟩:aB)∈kp g a p
 | 0,i,hi,c=>⟨i,hi,by simpa using jB.nil,c⟩
 | d+1,i,hi,c=>by
  have hk:=((df h.dq (h.bf hi)).1 c).bf (.inl (by simp only;omega))
  have n:0 < i:=Nat.pos_of_ne_zero λe=>by
   subst e
   rw[h.e.first] at hk
   simp at hk
   omega
  obtain⟨p,y,s,_,k,l,o,b,q,t⟩:=h.prev hi hk n
  simp only[aB.mk.injEq] at b
  obtain⟨C,u⟩:=y
  simp only at b
  obtain⟨rfl,b⟩:=b
  have f:u=(d:Int):=by omega
  subst f
  obtain⟨v,w,k2,x⟩:=cL.bwd h r d p k l
  obtain⟨j,z,A,m⟩:=xN (h.has k l) o
  simp only at z A m
  have:j=d:=by omega
  subst this
  refine⟨v,w,?_,x⟩
  have B:(aW g r).take (j+1)=(aW g r).take j ++ [s]:=by
   rw[ZG]
   congr 1
   have:=aau (·[0]?) m
   simp at this
   simp[this]
  rw[B,<-t]
  exact k2.snoc q
end
inductive qx (g:aj) (a:List aM):Nat->Int->Nat->Prop
 | fin:qx g a 0 g.start g.af.length
 | term {p:Nat} {B:Int} {t:Nat} : t < g.af.length->fa a (eK a p (-1 - B)) t->qx g a p B t
 | null {p:Nat} {B C:Int} {t:Nat} : 0<=C->fa a (eK a p (-1 - B)) (-1 - C)->(av g false).getD C.toNat false=true->qx g a (eK a p (-1 - B)) C t->qx g a p B t
inductive zE (g:aj) (a:List aM):Nat->Int->Nat->Prop
 | read {p:Nat} {B:Int} {t:Nat} : qx g a p B t->zE g a p B t
 | Ot {p p' k d:Nat} {B:Int} {t:Nat} : zE g a p' (ay g k).left t->k < g.rules.length->fa a p' (-1 - (ay g k).left)->0<=B->(ay g k).right[d]?=some (-1 - B)->jB a p' ((ay g k).right.take d) p->c7 ((ay g k).right.drop (d+1)) (av g false) false=true->zE g a p B t
theorem vW (null:List Bool) (first:List BV) (b:BV):∀ (l:List Int) (t:Nat),(eR null first b l).getLsbD t=true↔(eR null first 0 l).getLsbD t=true∨(c7 l null false=true/\b.getLsbD t=true)
 | [],t=>by simp[eR,c7]
 | s :: l,t=>by
  have c:=vW null first b l t
  rw[eR,eR]
  by_cases a:0<=s
  .rw[Zn a,Zn a];simp[c7,a]
  .rw[Zk a,Zk a]
   by_cases h1:null.getD (-1 - s).toNat false=true
   .rw[Zn h1,Zn h1,Z5,Z5,aam,aam,c]
    have:c7 (s :: l) null false=c7 l null false:=by
     rw[c7,aaG,Zk a,h1];rfl
    rw[this]
    constructor
    .rintro (h | h | h)
     .exact .inl (.inl h)
     .exact .inl (.inr h)
     .exact .inr h
    .rintro ((h | h) | h)
     .exact .inl h
     .exact .inr (.inl h)
     .exact .inr (.inr h)
   .rw[Zk h1,Zk h1]
    have:c7 (s :: l) null false=false:=by
     rw[c7,aaG,Zk a]
     simp only[Bool.not_eq_true] at h1
     rw[h1];rfl
    rw[this];simp
theorem HA {F:List Bool->List Bool} (a:∀ is,ij is (F is)):∀ (k:Nat) (is:List Bool),is.length<=eQ is+k->F (iter F k is)=iter F k is
 | 0,is,h=>by
  have h1:=a is
  have c:=vw (F is)
  have b:=h1.eQ
  rw[<-h1.1] at c
  have d:=vw is
  exact(b.2 (by omega)).symm
 | k+1,is,h=>by
  rw[iter]
  by_cases e:F is=is
  .rw[e]
   have:iter F k is=is:=yy e k
   rw[this,e]
  .refine HA a k (F is) ?_
   have h1:=a is
   have b:=h1.eQ
   have:eQ is≠eQ (F is):=λq=>e (b.2 q).symm
   rw[<-h1.1];omega
def pt (t:Nat) (fs:List BV):List Bool:=fs.map λb=>b.getLsbD t
def Te (null:List Bool) (t:Nat) (is:List Bool):List Int->Bool
 | []=>false
 | s :: l=>if 0<=s then (dQ s).getLsbD t else if null.getD (-1 - s).toNat false=true then is.getD (-1 - s).toNat false || Te null t is l else is.getD (-1 - s).toNat false
theorem FG (t:Nat) (a:List BV) (i:Nat):(pt t a).getD i false=(a.getD i 0).getLsbD t:=by
 simp only[pt,Zi,Zm]
 cases a[i]? with
 | none=>simp
 | some x=>rfl
theorem Jk (null:List Bool) (t:Nat) (a:List BV):∀ l:List Int,(eR null a 0 l).getLsbD t=Te null t (pt t a) l
 | []=>by simp[eR,Te]
 | s :: l=>by
  rw[eR,Te]
  split
  .rfl
  .split
   .rw[Z5,Jk null t a l,FG]
   .rw[FG]
def lJ (null:List Bool) (t:Nat) (is:List Bool) (r:bu):List Bool:=is.set r.left.toNat (is.getD r.left.toNat false || Te null t is r.right)
theorem Tw (null:List Bool) (t:Nat) (a:List BV) (r:bu):pt t (lF null a r)=lJ null t (pt t a) r:=by
 unfold lF lJ
 rw[FG,<-Jk,<-Z5]
 simp[pt,aaR]
theorem JR (null:List Bool) (t:Nat):∀ (l:List bu) (a:List BV),pt t (l.foldl (lF null) a)=l.foldl (lJ null t) (pt t a)
 | [],_=>rfl
 | r :: l,a=>by rw[ZS,JR null t l,Tw];rfl
theorem Jt (g:aj) (null:List Bool) (t:Nat):∀ (n:Nat) (a:List BV),pt t (iter (ve g null) n a)=iter (λis=>g.rules.foldl (lJ null t) is) n (pt t a)
 | 0,_=>rfl
 | n+1,a=>by rw[iter,iter,Jt g null t n];exact aau _ (JR null t g.rules a)
theorem Jw (null:List Bool) (t:Nat) (is:List Bool) (r:bu):ij is (lJ null t is r):=by
 refine⟨by simp[lJ],λi hi=>?_⟩
 unfold lJ
 simp only[Zi,aaV] at hi ⊢
 split
 .rename_i e
  subst e
  split
  .simp[hi]
  .rename_i h;rw[ZT (by omega)] at hi;simp at hi
 .exact hi
theorem DK (null:List Bool) (t:Nat):∀ (l:List bu) (is:List Bool),ij is (l.foldl (lJ null t) is)
 | [],is=>.refl _
 | r :: l,is=>(Jw null t is r).trans (DK null t l _)
theorem Hw {null:List Bool} {t:Nat} : ∀ {l:List bu} {is:List Bool},l.foldl (lJ null t) is=is->∀ R∈l,lJ null t is R=is
 | [],_,_,_,h=>by simp at h
 | R :: l,is,h,x,a=>by
  rw[ZS] at h
  have h1:=DK null t l (lJ null t is R)
  rw[h] at h1
  have b:=(h1.uU (Jw null t is R))
  rcases Zz.1 a with rfl | a
  .exact b
  .rw[b] at h;exact Hw h x a
theorem Bp {g:aj} (d:g.dP) (null:List Bool) {R:bu} (b:R∈g.rules):iT (eR null (eL g null) 0 R.right) ((eL g null).getD R.left.toNat 0):=by
 intro t c
 have e:=Jt g null t g.ak.length (List.replicate g.ak.length 0)
 have a:=HA (F:=λis=>g.rules.foldl (lJ null t) is) (λis=>DK null t g.rules is) g.ak.length (pt t (List.replicate g.ak.length 0)) (by simp[pt])
 rw[<-e] at a
 have h1:=Hw a R b
 rw[Jk] at c
 rw[<-FG]
 have f:=d.left R b
 have hl:R.left.toNat < (pt t (eL g null)).length:=by simp[pt,Fa];omega
 change lJ null t (pt t (eL g null)) R=pt t (eL g null) at h1
 rw[<-h1]
 unfold lJ
 rw[Zi,abb hl,c,Bool.or_true];rfl
theorem vu {t:Nat} (h:t<=31) (i:Nat):(dQ (t:Int)).getLsbD i=true↔i=t:=by
 unfold dQ
 rw[Zn ⟨by omega,by omega⟩,aaN,ZK]
 simp only[Zw,ZA]
 omega
theorem Su {g:aj} (h:isRed g=true):∀ i:Nat,i < g.ak.length->(av g true).getD i false=true:=by
 have hr:=jX h
 unfold isRed at h
 simp only[Zw,aaz,ZA] at h
 obtain⟨h1,b⟩:=h
 have hp:(av g true).getD g.start.toNat false=true:=by
  refine aay λc=>?_
  rw[uD hr,Zk c] at h1
  simp at h1
 have a:=Xp hr hp
 have e:(gZ g).1=th g (bX (cG (av g true) (cd g) g.rules)) (av g true) (cd g):=by rw[uD hr,Zn hp]
 rw[<-e,<-b] at a
 intro i hi
 rw[a.len] at hi
 exact a.S4 hi
theorem OQ {g:aj} (h:isRed g=true) {x:Int} (hd:vF g x):(av g false).getD x.toNat false=true∨∃ t,((eL g (av g false)).getD x.toNat 0).getLsbD t=true:=by
 have hr:=jX h
 have c:=bD hr
 induction hd with
 | mk R d _ e =>
  have key:∀ l:List Int,(∀ s∈l,s∈R.right)->c7 l (av g false) false=true∨∃ t,(eR (av g false) (eL g (av g false)) 0 l).getLsbD t=true:=by
   intro l
   induction l with
   | nil=>intro _;exact .inl rfl
   | cons s l il =>
    intro hs
    rw[eR]
    by_cases b:0<=s
    .rw[Zn b]
     have h1:=c.sym R d s (hs s (by simp))
     have:=c.af
     unfold fT at h1
     rw[Zn b] at h1
     simp at h1
     obtain⟨t,rfl⟩:∃ t:Nat,s=t:=⟨s.toNat,by omega⟩
     exact .inr ⟨t,(vu (by omega) t).2 rfl⟩
    .rw[Zk b]
     rcases e s (hs s (by simp)) (by omega) with h1 | ⟨t,a⟩
     .rw[Zn h1]
      rcases il λx f=>hs x (by simp[f]) with i | ⟨t,a⟩
      .left
       rw[c7,aaG,Zk b,h1];exact i
      .exact .inr ⟨t,by rw[Z5,a,Bool.or_true]⟩
     .right
      split
      .exact⟨t,by rw[Z5,a,Bool.true_or]⟩
      .exact⟨t,a⟩
  rcases key R.right (λ_ h=>h) with h1 | ⟨t,a⟩
  .exact .inl (uH hr d h1)
  .exact .inr ⟨t,Bp c _ d t a⟩
theorem E9 {g:aj} (h:isRed g=true) {t0:Nat} (d:t0 < 32):∀ l:List Int,(∀ s∈l,fT g s=true)->∃ t,(eR (av g false) (eL g (av g false)) (BitVec.twoPow 32 t0) l).getLsbD t=true
 | [],_=>⟨t0,by rw[eR,aaN];simp[d]⟩
 | s :: l,hs=>by
  have hr:=jX h
  have e:=bD hr
  have h1:=hs s (by simp)
  have:=e.af
  rw[eR]
  unfold fT at h1
  by_cases b:0<=s
  .rw[Zn b]
   rw[Zn b] at h1
   simp at h1
   obtain⟨t,rfl⟩:∃ t:Nat,s=t:=⟨s.toNat,by omega⟩
   exact⟨t,(vu (by omega) t).2 rfl⟩
  .rw[Zk b]
   rw[Zk b] at h1
   simp at h1
   have hd:=AH hr (-1 - s).toNat (Su h _ (by omega))
   obtain⟨t2,c⟩:=E9 h d l λx f=>hs x (by simp[f])
   split
   .exact⟨t2,by rw[Z5,c,Bool.or_true]⟩
   .rename_i i
    rcases OQ h hd with a | ⟨t,a⟩
    .rw[ZK] at a;exact absurd a i
    .rw[ZK] at a;exact⟨t,a⟩
end Gv
