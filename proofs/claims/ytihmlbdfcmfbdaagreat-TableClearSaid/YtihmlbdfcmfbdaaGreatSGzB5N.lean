/-
  Part 14 of the proof: what the machine does and what the functions answer.
  Conditions: those that each lemma names.
-/
import Derived.Shelf.SlSortCmp.NoneTotal
import Derived.Shelf.SlicesG.Cmp
import Derived.StillTailTactics
import Derived.Test.YtihmlbdfcmfbdaaGreatSGzB5M
set_option linter.unusedSimpArgs false
set_option linter.unusedVariables false
set_option maxRecDepth 100000
set_option maxHeartbeats 20000000
namespace Gv
open Go Go.Proofs
def oq:SF:=⟨ae [ab [cy 9 4,((some 10),.op (.alloc [(.val (.int .i64 0)),(.val (.int .i64 0))]))],ab [aa 12 0,cR 13 12,ao 14 0 13,aY 15 4 14,aa 16 3,aa 17 2,bm 18 84 [15,16,17],aa 11 18],ab [aa 19 0,aa 20 0,cR 21 20,ao 22 6 21,aj 23 22,aa 24 1,aa 25 2,aa 26 11,aa 27 3,((some 28),.op (.build [(.val (.int .i64 0)),(.val (.int .i64 0)),(.val (.int .i64 0)),(.val (.int .i64 0)),(.val (.int .i64 0))] [(0,1,(.tmp 24)),(1,1,(.tmp 25)),(2,1,(.tmp 26)),(3,1,(.tmp 27)),(4,1,(.val (.val (.int .i64 (-1)))))])),((some 29),.op (.bW 1 5 [(.val (.int .i64 0)),(.val (.int .i64 0)),(.val (.int .i64 0)),(.val (.int .i64 0)),(.val (.int .i64 0))] [(0,(.tmp 28))])),gx 30 5 40 23 29,cR 31 19,ao 32 6 31,bZ 1 32 30],ae [ab [aa 33 11],.block 0 (ae [ab [aF 35 .eql 33 1,aa 34 35],.cond (.tmp 34) (ae [ab [aa 36 3,((some 37),.op (.build [(.val (.int .i64 0)),(.val (.int .i64 0))] [(0,1,(.val (.val (.int .i64 2)))),(1,1,(.tmp 36))])),bZ 2 10 37],.ret]) (ae [ab [aF 39 .eql 33 3,aa 38 39],bf 38 (ae [ab [((some 40),.op (.build [(.val (.int .i64 0)),(.val (.int .i64 0))] [])),bZ 2 10 40],.ret])])])],ab [aY 41 2 9,bZ 2 10 41],.ret],
 [.cell 10 (some 2)],42⟩
theorem uu:aO Tryz.prog 176 [9]=some oq:=by kernel_rfl
def oo:SC :=
 ae [ab [aQ 21 .lss 20 19],bS 21 (.exit 0),.block 1 (ae [ab [aI 22 1 18 20,aj 23 22,aa 12 23],ab [aa 24 0,aa 25 0,cR 26 25,ao 27 6 26,aj 28 27,aa 29 1,aa 30 2,aa 31 12,aa 32 3,((some 33),.op (.idx 1 (.tmp 32) (.val (.val (.int .i64 0))))),aj 34 33,((some 35),.op (.build [(.val (.int .i64 0)),(.val (.int .i64 0)),(.val (.int .i64 0)),(.val (.int .i64 0)),(.val (.int .i64 0))] [(0,1,(.tmp 29)),(1,1,(.tmp 30)),(2,1,(.val (.val (.int .i64 5)))),(3,1,(.tmp 31)),(4,1,(.tmp 34))])),((some 36),.op (.bW 1 5 [(.val (.int .i64 0)),(.val (.int .i64 0)),(.val (.int .i64 0)),(.val (.int .i64 0)),(.val (.int .i64 0))] [(0,(.tmp 35))])),gx 37 5 40 28 36,cR 38 24,ao 39 6 38,bZ 1 39 37]]),ab [aF 40 .add 20 1,aa 20 40]]
def pY:SF:=⟨ae [ab [cy 9 4,((some 10),.op (.alloc [(.val (.int .i64 0)),(.val (.int .i64 0))]))],ae [ab [aa 13 3,aM 14 13,aF 15 .eql 14 0],bf 15 (ae [ab [aY 16 2 9,bZ 2 10 16],.ret])],ae [ab [aa 17 3,((some 18),.op (.slice 1 (.tmp 17) (some (.val (.val (.int .i64 1)))) none)),aM 19 18,aT 20 0],bX 0 oo],ae [ab [ao 41 0 9,aj 42 41,aF 43 .eql 42 0],bf 43 (ae [ab [aa 44 3,((some 45),.op (.idx 1 (.tmp 44) (.val (.val (.int .i64 0))))),aj 46 45,((some 47),.op (.build [(.val (.int .i64 0)),(.val (.int .i64 0))] [(0,1,(.val (.val (.int .i64 2)))),(1,1,(.tmp 46))])),bZ 2 10 47],.ret])],ab [aa 48 0,aa 49 1,aa 50 2,aa 51 3,((some 52),.op (.idx 1 (.tmp 51) (.val (.val (.int .i64 0))))),aj 53 52,aY 54 2 9,bm 55 176 [48,49,50,53,54],bZ 2 10 55],.ret],
 [.cell 10 (some 2)],56⟩
theorem vO:aO Tryz.prog 129 [9]=some pY:=by kernel_rfl
abbrev eN (g:ai) (ua ug uc:V):List V:=[.aE (g.af.map cm),.aE (g.ak.map λs=>[gs s]),.aE (g.rules.map aU),gi g.start,ua,ug,uc]
def setCell (g:ai) (r t:Int) (x:Cell):Cell:=if fL g r t=1 then ⟨2,r⟩ else if fL g r t=3 then ⟨0,0⟩ else x
def cellOf (g:ai) (st t:Int) (x:Cell):List Int->Cell × List jH
 | []=>(x,[])
 | r :: rs=>if x.kind=0 then (⟨2,r⟩,gf st t r rs) else (setCell g r t x,gf st t r rs ++ [⟨st,t,fL g r t,r,-1⟩])
theorem R4 (g:ai) (s:aL) (l:List cb) (st t:Int):eV g s l st t=cellOf g st t (eE g s t) (dt l t):=by
 unfold eV
 cases dt l t with
 | nil=>rfl
 | cons r rs=>rfl
theorem P0 (g:ai) (D:g.Ok) (o:g.Small) (l m w:V) (C:List jH) (b:Nat) (L:List cx) (H:View) (y:bk H ((w,5,jX C) :: (.sl b 0 1 7,7,[eN g l m w]) :: L)) (J:C.length<=100000000) (st t r:Int) (x:Cell) :
  av Tryz.prog 176 [.ptr b 0 0,gi st,gi t,gi r,.agg [gi x.kind,gi x.n]] H λv H'=>v=.agg [gi (setCell g r t x).kind,gi (setCell g r t x).n]/\∃ a,bk H' ((a,5,jX (C ++ [⟨st,t,fL g r t,r,-1⟩])) :: (.sl b 0 1 7,7,[eN g l m a]) :: L):=by
 have z:=PS g D o r t
 simp only[ag,encS] at z
 refine av.of mixed uu ?_
 simp(disch:=omega)only[↓wr,seval,wq,oq]
 intro n p
 have s:=y.is 1 rfl (by simp)
 have i:¬ b=n:=by rintro rfl;rw[s] at p;simp at p
 have A:=y.new p 2 [[gi 0,gi 0]]
 have E:=A.is 2 rfl (by simp)
 simp(disch:=omega)only[↓wr,seval,wq,i,s,eN]
 refine ay.pure z ?_
 simp(disch:=omega)only[↓wr,seval,wq,i,s,eN]
 intro q hq
 simp(disch:=omega)only[↓wr,seval,wq,bM]
 refine ct ((A.fresh hq).at 1 (by simp)) (by simp[aR]) (by unfold aD;simp only[aa8,aa4,rD];simp;omega) (by unfold aD;simp only[aa8,aa4,rD];simp;omega) ?_
 intro j F k _
 simp only[aa8,aa4,abz,abA,aaK,aa2] at k
 have d:=k.is 2 rfl (by simp)
 have f:=k.is 1 rfl (by simp)
 have G:=k.head.cells
 have I:=k.head.iO
 have B:=(k.at 2 (by simp)).put (es':=[eN g l m j]) rfl rfl
 simp only[aa8,aa4,abz,abA] at B
 have c:∀ e:List V,∃ a,bk ((F.set b (.arr 7 [eN g l m j])).set n (.arr 2 [e])) ((a,5,jX (C ++ [⟨st,t,fL g r t,r,-1⟩])) :: (.sl b 0 1 7,7,[eN g l m a]) :: L):=λe=>⟨j,by
  have:=((B.at 2 (by simp)).put (es':=[e]) rfl rfl).tail
  simp only[aa8,aa4,abz,abA] at this
  rw[jX,aaS]
  exact this.perm (.swap _ _ _)⟩
 have h:¬ n=b:=λe=>i e.symm
 simp(disch:=omega)only[↓wr,seval,wq,d,f,h,G,I,eN]
 unfold setCell
 apply ah.eq<;>intro h1
 .rw[aaw h1]
  simp(disch:=omega)only[↓wr,seval,wq,d,f,h]
  exact c _
 .rw[aat h1]
  simp(disch:=omega)only[↓wr,seval,wq]
  apply ah.eq<;>intro u
  .rw[aaw u]
   simp(disch:=omega)only[↓wr,seval,wq,d,f,h]
   exact c _
  .rw[aat u]
   simp(disch:=omega)only[↓wr,seval,wq,d,f,h]
   exact c _
theorem Pm (st t a:Int) (l:List Int) (r:Int):gf st t a (l ++ [r])=gf st t a l ++ [⟨st,t,5,r,a⟩]:=by simp[gf]
theorem UB (g:ai) (S:g.Ok) (F:g.Small) (p s d:V) (C:List jH) (b:Nat) (L:List cx) (H:View) (f:bk H ((d,5,jX C) :: (.sl b 0 1 7,7,[eN g p s d]) :: L)) (Y:C.length<=90000000) (st t:Int) (rs:List Int) (G:rs.length<=10000) (x:Cell) :
  av Tryz.prog 129 [.ptr b 0 0,gi st,gi t,encI rs,.agg [gi x.kind,gi x.n]] H λv H'=>v=.agg [gi (cellOf g st t x rs).1.kind,gi (cellOf g st t x rs).1.n]/\∃ c,bk H' ((c,5,jX (C ++ (cellOf g st t x rs).2)) :: (.sl b 0 1 7,7,[eN g p s c]) :: L):=by
 refine av.of mixed vO ?_
 simp(disch:=omega)only[↓wr,seval,wq,pY,encI]
 intro n I
 have E:=f.is 1 rfl (by simp)
 have w:¬ b=n:=by rintro rfl;rw[E] at I;simp at I
 have J:=f.new I 2 [[gi 0,gi 0]]
 cases rs with
 | nil =>
  simp(disch:=omega)only[↓wr,seval,wq]
  refine⟨rfl,d,?_⟩
  have:=(J.put (es':=[[gi x.kind,gi x.n]]) rfl rfl).tail
  simpa [cellOf] using this
 | cons r rs =>
  simp only[aaK] at G
  have u:=zu (l:=r :: rs) (k:=1) (by simp)
  simp only[List.drop_succ_cons,abO,aaW] at u
  rw[show (((1:Nat)):Int)=1 from rfl] at u
  simp(disch:=omega)only[↓wr,seval,wq]
  refine ah.eq (λh=>absurd h (by omega)) (λ_=>?_)
  simp(disch:=omega)only[↓wr,seval,wq,u]
  have K:¬ n=b:=λe=>w e.symm
  refine aS.up rs.length (λi T H'=>∃ d,bk H' ((.sl n 0 1 2,2,[[gi 0,gi 0]]) :: (d,5,jX (C ++ gf st t r (rs.take i))) :: (.sl b 0 1 7,7,[eN g p s d]) :: L)/\T 0=.ptr b 0 0/\T 1=gi st/\T 2=gi t/\T 3=encI (r :: rs)/\T 9=.aH [gi x.kind,gi x.n] 0/\T 10=.ptr n 0 0/\T 18=encI rs/\T 19=gi rs.length/\T 20=gi i)
   ⟨d,by simpa [gf] using J,rfl,rfl,rfl,rfl,rfl,rfl,rfl,rfl,rfl⟩ ?_
  clear f J E d
  rintro i k T H1 hk ⟨d,f,t0,t1,t2,t3,t9,t10,t18,t19,t20⟩
  have E:=f.is 2 rfl (by simp)
  have z:=f.is 0 rfl (by simp)
  simp(disch:=omega)only[↓wr,seval,wq,oo,t0,t1,t2,t3,t9,t10,t18,t19,t20]
  apply ah.dec<;>intro U
  .have M:rs[i]?=some (rs[i]'(by omega)):=aar (by omega)
   have A:rs.take (i+1)=rs.take i ++ [rs[i]'(by omega)]:=by rw[aaQ,M];rfl
   generalize rs[i]'(by omega)=y at M A
   have N:(gf st t r (rs.take i)).length<=10000:=by simp[gf];omega
   simp(disch:=omega)only[↓wr,seval,wq,t0,t1,t2,t3,t9,t10,t18,t19,t20,encI,aav,aa0,M,aaz,E,eN]
   intro q hq
   simp(disch:=omega)only[↓wr,seval,wq,bM]
   refine ct ((f.fresh hq).at 1 (by simp)) (by simp[aR]) (by unfold aD;simp only[aa8,aa4,rD];simp;omega) (by unfold aD;simp only[aa8,aa4,rD];simp;omega) ?_
   intro a B j _
   simp only[aa8,aa4,abz,abA] at j
   have O:=j.is 2 rfl (by simp)
   have W:=j.head.cells
   have X:=j.head.iO
   have R:=(j.at 2 (by simp)).put (es':=[eN g p s a]) rfl rfl
   simp only[aa8,aa4,abz,abA] at R
   simp(disch:=omega)only[↓wr,seval,wq,t0,t1,t2,t3,t9,t10,t18,t19,t20,O,W,X,eN]
   refine aC hk (by omega) ⟨a,?_,t0,t1,t2,t3,t9,t10,t18,t19,rfl⟩
   rw[A,Pm,<-aa6,jX,aaS]
   exact R.perm ((List.Perm.swap _ _ _).trans (((List.Perm.swap _ _ _).cons _).trans (List.Perm.swap _ _ _)))
  .rw[aaJ (by omega)] at f
   have w:¬ b=n:=λe=>K e.symm
   have m:∀ (B:View) (a:V) (D:List jH) (e e':List V),bk B ((a,5,jX D) :: (.sl b 0 1 7,7,[eN g p s a]) :: (.sl n 0 1 2,2,[e]) :: L)->∃ c,bk (B.set n (.arr 2 [e'])) ((c,5,jX D) :: (.sl b 0 1 7,7,[eN g p s c]) :: L):=λB a D e e' o=>⟨a,by
    have:=((o.at 2 (by simp)).put (es':=[e']) rfl rfl).tail
    simpa using this⟩
   simp(disch:=omega)only[↓wr,seval,wq,t0,t1,t2,t3,t9,t10,encI,aa0]
   apply ah.eq<;>intro P
   .rw[show cellOf g st t x (r :: rs)=(⟨2,r⟩,gf st t r rs) by rw[cellOf,aaw P]]
    simp(disch:=omega)only[↓wr,seval,wq,t0,t1,t2,t3,t9,t10,encI,aa0,z]
    exact m _ _ _ _ _ (f.perm Eg)
   .rw[show cellOf g st t x (r :: rs)=(setCell g r t x,gf st t r rs ++ [⟨st,t,fL g r t,r,-1⟩]) by rw[cellOf,aat P]]
    have N:(gf st t r rs).length<=10000:=by simp[gf];omega
    simp(disch:=omega)only[↓wr,seval,wq,t0,t1,t2,t3,t9,t10,encI,aa0,z]
    refine ay.dr ((P0 g S F p s d _ b ((.sl n 0 1 2,2,[[gi 0,gi 0]]) :: L) H1 (f.perm Eg) (by rw[abd];omega) st t r x).mono ?_)
    rintro v B ⟨rfl,a,j⟩
    have Q:=j.is 2 rfl (by simp)
    simp(disch:=omega)only[↓wr,seval,wq,t10,Q]
    rw[aa6] at j
    exact m _ _ _ _ _ j
open Go Go.Proofs Go.Shelf Go.RowKit Go.Sort
theorem cd.cut {P:Program} {f:FuncId} {vs:List V} {h g:aG} {r:V} (n:cd P f vs h r g) {id sz:Nat} {es rest:List (List V)} (l:g.view id=.arr sz (es ++ rest)):cd P f vs h r (g.set id (.arr sz es)):=by
 have m:id < g.length:=jw (by rw[l];simp)
 refine⟨by simpa using n.1,λZ μ F w xs hr z p=>(n.2 Z μ F w xs hr z (by simpa using p)).mono ?_⟩
 rintro e w' ⟨x,A,μ',rfl,B,a,hex,q⟩
 refine⟨x,A,μ',rfl,B,?_,hex,by simpa using q⟩
 have t:∀ k,cat (g.set id (.arr sz es)) F k=if k=id then .arr sz es else cat g F k:=λk=>by
  simp only[cat,aca]
  by_cases hk:k < g.length
  .rw[aaw hk,aaw hk,kY m];rfl
  .rw[aat hk,aat hk,aat (by omega)]
 have u:cat g F id=.arr sz (es ++ rest):=by simp only[cat];rw[aaw m,l]
 refine⟨λk=>?_,λi j b o s C D v h1 E=>?_,a.lt,a.dd,a.iR⟩
 .rw[t]
  split
  .rename_i hk
   subst hk
   have d:=a.obj k
   rw[u] at d
   intro b o0 s hm
   obtain⟨G,⟨c,e,f,n,p,hs⟩,H,I⟩:=d b o0 s hm
   have y:∀ i,i < es.length->(es ++ rest).getD i []=es.getD i []:=λi hi=>by
    simp[aaq,aaY hi]
   refine⟨G,⟨c,e,f,n,p,?_⟩,λi hi=>?_,λi j hi J=>?_⟩
   .rw[abd,abn] at hs;omega
   .rw[<-y i hi];exact H i (by rw[abd];omega)
   .rw[<-y i hi];exact I i j (by rw[abd];omega) J
  .exact a.obj k
 .have d:=a.inj i j b o s C D v h1 E
  rw[t,t]
  rcases d with d | d
  .left
   rw[aat (λe=>by rw[e,u] at d;simp at d)];exact d
  .right
   rw[aat (λe=>by rw[e,u] at d;simp at d)];exact d
theorem av.cut {P:Program} {f:FuncId} {vs:List V} {H:View} {K c:V->View->Prop} (h:av P f vs H K) (hk:∀ r H',K r H'->c r H'∨∃ id sz es rest,H' id=.arr sz (es ++ rest)/\c r (H'.set id (.arr sz es))):av P f vs H c:=by
 refine⟨h.1,λl m=>?_⟩
 obtain⟨r,d,j,hs,n⟩:=h.2 l m
 rcases hk r _ n with h1 | ⟨id,sz,es,rest,a,h1⟩
 .exact⟨r,d,j,hs,h1⟩
 .have b:id < d.length:=jw (by rw[a];simp)
  refine⟨r,d.set id (.arr sz es),j.cut a,λk g hd=>?_,by rw[kY b];exact h1⟩
  have i:=hs k g hd
  rw[kY b]
  simp only[View.set]
  rw[aat (λe=>by rw[e,a] at i;simp at i)]
  exact i
instance:Inhabited aA:=⟨⟨0,0⟩⟩
def jU (x:aA):List Value:=[.int .i64 x.ax,.int .i64 x.dot]
def qo (a b:aA):Int:=if Lib.compareInt a.ax b.ax≠0 then Lib.compareInt a.ax b.ax else Lib.compareInt a.dot b.dot
theorem Vw (a b:aA):(Lib.compareInt a.ax b.ax≠0->qo a b=Lib.compareInt a.ax b.ax)/\(Lib.compareInt a.ax b.ax=0->qo a b=Lib.compareInt a.dot b.dot):=by
 unfold qo
 exact⟨λh=>by rw[aaw h],λh=>by rw[aat (by simp[h])]⟩
theorem vg (a b:aA):ltOf qo a b=cY a b:=by
 have d:∀ x y:Int,(x < y/\Lib.compareInt x y = -1)∨(x=y/\Lib.compareInt x y=0)∨(y < x/\Lib.compareInt x y=1):=λx y=>by
  unfold Lib.compareInt; (repeat' split) <;> omega
 rw[abu,fo]
 simp only[ltOf,aaE,qo]
 rcases d a.ax b.ax with ⟨h,e⟩ | ⟨h,e⟩ | ⟨h,e⟩ <;> rcases d a.dot b.dot with ⟨k,c⟩ | ⟨k,c⟩ | ⟨k,c⟩ <;> simp[e,c] <;> omega
theorem Pb:SWO (ltOf qo) where
 irrefl x:=by rw[vg];exact mZ
 trans x y z h k:=by rw[vg] at *;exact qg h k
 ntrans x y z h k:=by
  rw[vg] at *
  cases e:cY x z with
  | false=>rfl
  | true =>
   have h1:¬ cY x y=true:=by simp[h]
   have a:¬ cY y z=true:=by simp[k]
   rw[fo] at h1 a e
   omega
def fh (l:List aA):List aA:=l.mergeSort λx y=>!cY y x
theorem SV (l:List aA):(l.toArray.toList.mergeSort λx y=>!(ltOf qo) y x)=fh l:=by
 have e:(λx y=>!(ltOf qo) y x)=λx y=>!cY y x:=by funext x y;rw[vg]
 rw[e];rfl
theorem Ds (l:List aA):(fh l).Perm l:=List.mergeSort_perm _ _
theorem j5 (l:List aA):(fh l).length=l.length:=(Ds l).length_eq
theorem Dp (l:List aA):(fh l).Pairwise λx y=>cY y x=false:=by
 have:=List.pairwise_mergeSort (le:=λx y:aA=>!cY y x) (λa b c h k=>by
  simp only[acF,Bool.not_eq_false'] at h k ⊢
  cases e:cY c a with
  | false=>simp
  | true =>
   have h1:¬ cY b a=true:=by simpa using h
   have d:¬ cY c b=true:=by simpa using k
   rw[fo] at h1 d e
   omega) (λa b=>by
  cases e:cY b a with
  | false=>simp
  | true=>simp[Ms e]) l
 exact this.imp λh=>by simpa using h
def RJ:Ren where
 f:=fun
  | 6=>112
  | 15=>167
  | 14=>166
  | 28=>207
  | 29=>208
  | 20=>199
  | 21=>200
  | 22=>201
  | 23=>202
  | 24=>203
  | 25=>204
  | 26=>205
  | 27=>206
  | 46=>227
  | 47=>228
  | 48=>229
  | 49=>230
  | 50=>231
  | 57=>244
  | n=>n
 t:=fun
  | 22=>27
  | 24=>33
  | 25=>164
  | 3=>3
  | 39=>212
  | 0=>0
  | 53=>67
  | 55=>249
  | 4=>4
  | 46=>242
  | 45=>241
  | 50=>30
  | 5=>5
  | 9=>9
  | 66=>269
  | 70=>273
  | 76=>282
  | 77=>283
  | n=>n
 g:=λn=>n
theorem Wp:Go.Proofs.SlLaysF0.n6 Tryz.prog RJ where
 mixed:=by kernel_rfl
 f6:=⟨Tryz.f112.name,by kernel_rfl,by kernel_rfl⟩
 f14:=⟨Tryz.f166.name,by kernel_rfl,by kernel_rfl⟩
 f15:=by kernel_rfl
 f20:=⟨Tryz.f199.name,by kernel_rfl,by kernel_rfl⟩
 f21:=⟨Tryz.f200.name,by kernel_rfl,by kernel_rfl⟩
 f22:=⟨Tryz.f201.name,by kernel_rfl,by kernel_rfl⟩
 f23:=⟨Tryz.f202.name,by kernel_rfl,by kernel_rfl⟩
 f24:=⟨Tryz.f203.name,by kernel_rfl,by kernel_rfl⟩
 f25:=⟨Tryz.f204.name,by kernel_rfl,by kernel_rfl⟩
 f26:=⟨Tryz.f205.name,by kernel_rfl,by kernel_rfl⟩
 f27:=⟨Tryz.f206.name,by kernel_rfl,by kernel_rfl⟩
 f28:=by kernel_rfl
 f29:=by kernel_rfl
 f46:=⟨Tryz.f227.name,by kernel_rfl,by kernel_rfl⟩
 f47:=by kernel_rfl
 f48:=by kernel_rfl
 f49:=⟨Tryz.f230.name,by kernel_rfl,by kernel_rfl⟩
 f50:=⟨Tryz.f231.name,by kernel_rfl,by kernel_rfl⟩
 f57:=⟨Tryz.f244.name,by kernel_rfl,by kernel_rfl⟩
 t0:=Tryz.underlying0
 a0:=Tryz.isAgg0
 z0:=Tryz.sizeOf0
 v0:=Tryz.zeroValue0
 t3:=Tryz.underlying3
 a3:=Tryz.isAgg3
 z3:=Tryz.sizeOf3
 v3:=Tryz.zeroValue3
 t4:=Tryz.underlying4
 a4:=Tryz.isAgg4
 z4:=Tryz.sizeOf4
 v4:=Tryz.zeroValue4
 t5:=Tryz.underlying5
 a5:=Tryz.isAgg5
 z5:=Tryz.sizeOf5
 v5:=Tryz.zeroValue5
 t9:=Tryz.underlying9
 a9:=Tryz.isAgg9
 z9:=Tryz.sizeOf9
 v9:=Tryz.zeroValue9
 t22:=Tryz.underlying27
 a22:=Tryz.isAgg27
 z22:=Tryz.sizeOf27
 v22:=Tryz.zeroValue27
 t25:=Tryz.underlying164
 a25:=Tryz.isAgg164
 z25:=Tryz.sizeOf164
 v25:=Tryz.zeroValue164
 t39:=Tryz.underlying212
 a39:=Tryz.isAgg212
 z39:=Tryz.sizeOf212
 v39:=Tryz.zeroValue212
 t45:=Tryz.underlying241
 a45:=Tryz.isAgg241
 z45:=Tryz.sizeOf241
 v45:=Tryz.zeroValue241
 t46:=Tryz.underlying242
 a46:=Tryz.isAgg242
 z46:=Tryz.sizeOf242
 v46:=Tryz.zeroValue242
 t50:=Tryz.underlying30
 a50:=Tryz.isAgg30
 z50:=Tryz.sizeOf30
 v50:=Tryz.zeroValue30
 t53:=Tryz.underlying67
 a53:=Tryz.isAgg67
 z53:=Tryz.sizeOf67
 v53:=Tryz.zeroValue67
 t55:=Tryz.underlying249
 a55:=Tryz.isAgg249
 z55:=Tryz.sizeOf249
 v55:=Tryz.zeroValue249
 t66:=Tryz.underlying269
 a66:=Tryz.isAgg269
 z66:=Tryz.sizeOf269
 v66:=Tryz.zeroValue269
 t70:=Tryz.underlying273
 a70:=Tryz.isAgg273
 z70:=Tryz.sizeOf273
 v70:=Tryz.zeroValue273
 t76:=Tryz.underlying282
 a76:=Tryz.isAgg282
 z76:=Tryz.sizeOf282
 v76:=Tryz.zeroValue282
 t77:=Tryz.underlying283
 a77:=Tryz.isAgg283
 z77:=Tryz.sizeOf283
 v77:=Tryz.zeroValue283
def V2:Ren where
 f:=fun
  | 5=>126
  | 7=>173
  | n=>n
 t:=fun
  | 22=>3
  | 3=>3
  | 4=>4
  | n=>n
 g:=λn=>n
theorem YC:Go.Proofs.SlLaysC2.n5 Tryz.prog V2 where
 mixed:=by kernel_rfl
 f5:=⟨Tryz.f126.name,by kernel_rfl,by kernel_rfl⟩
 f7:=⟨Tryz.f173.name,by kernel_rfl,by kernel_rfl⟩
 t3:=Tryz.underlying3
 a3:=Tryz.isAgg3
 z3:=Tryz.sizeOf3
 v3:=Tryz.zeroValue3
 t4:=Tryz.underlying4
 a4:=Tryz.isAgg4
 z4:=Tryz.sizeOf4
 v4:=Tryz.zeroValue4
 t22:=Tryz.underlying3
 a22:=Tryz.isAgg3
 z22:=Tryz.sizeOf3
 v22:=Tryz.zeroValue3
section
attribute [local go_sem] Oper.semAt_some
theorem Mi (x y:Int) (b cap:Nat) (W:World) (h0:W.cell? ⟨b,0,none⟩=some (.int .i64 x)) (h1:W.cell? ⟨b,1,none⟩=some (.int .i64 y)) (r:Int) (hr:(x≠0->r=x)/\(x=0->r=y)) :
  Calls Tryz.prog 168 #[.slice (some ⟨b,0,none⟩) 2 cap] W λe w'=>e=.returned (.int .i64 r)/\w'=W:=by
 go_enter Tryz.func168,Tryz.ntmps168
 go_wp2
 refine wp_loop_rounds 3 ?_
 rw[rounds_succ]
 go_wp2
 .rename_i h
  go_ret
  exact⟨by rw[hr.1 (by simpa using h)];rfl,rfl⟩
 .rename_i h
  have hx:x=0:=by simpa using h
  rw[rounds_succ]
  go_wp2
  .rename_i h
   go_ret
   exact⟨by rw[hr.2 hx];rfl,rfl⟩
  .rename_i h
   rw[rounds_succ]
   go_wp2
   go_ret
   exact⟨by rw[hr.2 hx,show y=0 by simpa using h];rfl,rfl⟩
structure Y1 (p:Prop):Prop where
 out:p
theorem Md (x1 x2 y1 y2:Int) (W:World) (r:Int) (hr:(Lib.compareInt x1 y1≠0->r=Lib.compareInt x1 y1)/\(Lib.compareInt x1 y1=0->r=Lib.compareInt x2 y2)) :
  Calls Tryz.prog 113 #[.agg #[.int .i64 x1,.int .i64 x2],.agg #[.int .i64 y1,.int .i64 y2]] W λe w'=>e=.returned (.int .i64 r)/\∃ q os',w'=grow (W.drewN q) os':=by
 have hcon1:=λW'=>AnyG.cmp_Compare_int YC x1 y1 W'
 change ∀ W',Calls Tryz.prog 126 _ _ _ at hcon1
 have hcon2:=λW'=>AnyG.cmp_Compare_int YC x2 y2 W'
 change ∀ W',Calls Tryz.prog 126 _ _ _ at hcon2
 generalize Lib.compareInt x1 y1=c1 at *
 generalize Lib.compareInt x2 y2=c2 at *
 go_enter Tryz.func113,Tryz.ntmps113
 go_wp2_with (first | (go_at_call 126;refine(hcon1 _).mono ?_;rintro e w' ⟨rfl,rfl⟩)|(go_at_call 126;refine(hcon2 _).mono ?_;rintro e w' ⟨rfl,rfl⟩))
 obtain⟨b1,hb1⟩:∃ b1,b1=W.heap.size:=⟨_,rfl⟩
 obtain⟨b2,hb2⟩:∃ b2,b2=W.heap.size+1:=⟨_,rfl⟩
 rw[<-hb2,<-hb1]
 generalize hW1:(W.alloc (Obj.cells #[Value.int IntKind.i64 x1,Value.int IntKind.i64 x2] 33)).alloc (Obj.cells #[Value.int IntKind.i64 y1,Value.int IntKind.i64 y2] 33)=W1
 have hh1:W1.heap[b1]?=some (.cells #[Value.int IntKind.i64 x1,Value.int IntKind.i64 x2] 33 (0,0)):=by
  rw[<-hW1,hb1];exact(Below.heap_alloc _ _ _ (by simp)).trans (World.alloc_heap_new W _)
 have hh2:W1.heap[b2]?=some (.cells #[Value.int IntKind.i64 y1,Value.int IntKind.i64 y2] 33 (0,0)):=by
  rw[<-hW1,hb2]
  have:=World.alloc_heap_new (W.alloc (Obj.cells #[Value.int IntKind.i64 x1,Value.int IntKind.i64 x2] 33)) (Obj.cells #[Value.int IntKind.i64 y1,Value.int IntKind.i64 y2] 33)
  rwa [World.size_alloc] at this
 have k0:W1.cell? ⟨b1,0,none⟩=some (.int .i64 x1):=by unfold World.cell?;rw[hh1];rfl
 have k1:W1.cell? ⟨b1,1,none⟩=some (.int .i64 x2):=by unfold World.cell?;rw[hh1];rfl
 have k2:W1.cell? ⟨b2,0,none⟩=some (.int .i64 y1):=by unfold World.cell?;rw[hh2];rfl
 have k3:W1.cell? ⟨b2,1,none⟩=some (.int .i64 y2):=by unfold World.cell?;rw[hh2];rfl
 clear hh1 hh2
 refine wp_region_still_tail 10 (by kernel_rfl) (by kernel_rfl) ?_
 change wpStill _ _ W1.drew (λa'=>wpList _ _ _ _ a' W1.drew) _ _
 generalize hW2:W1.drew=W2
 replace k0:W2.cell? ⟨b1,0,none⟩=some (.int .i64 x1):=by rw[<-hW2];exact k0
 replace k1:W2.cell? ⟨b1,1,none⟩=some (.int .i64 x2):=by rw[<-hW2];exact k1
 replace k2:W2.cell? ⟨b2,0,none⟩=some (.int .i64 y1):=by rw[<-hW2];exact k2
 replace k3:W2.cell? ⟨b2,1,none⟩=some (.int .i64 y2):=by rw[<-hW2];exact k3
 have hgr:Y1 (W2=grow (W.drewN 1) #[Obj.cells #[Value.int IntKind.i64 x1,Value.int IntKind.i64 x2] 33,Obj.cells #[Value.int IntKind.i64 y1,Value.int IntKind.i64 y2] 33]):=by
  refine⟨?_⟩
  rw[<-hW2,<-hW1,alloc_eq_grow,alloc_eq_grow,grow_grow];rfl
 clear hW1 hW2 hb1 hb2
 simp only[ach,List.take_zero,List.drop_succ_cons,abO]
 iterate 4 still_step
 still_call (hcon1 _)
 iterate 4 still_step
 still_call (hcon2 _)
 refine wpStill_nil ?_
 go_wp2_with (go_at_call 168;refine(Mi c1 c2 _ _ _ ?_ ?_ r hr).mono ?_)
 .unfold World.cell?;rw[World.alloc_heap_new];rfl
 .unfold World.cell?;rw[World.alloc_heap_new];rfl
 .rintro e w' ⟨rfl,rfl⟩
  go_wp2
  go_ret
  refine⟨rfl,1,#[Obj.cells #[Value.int IntKind.i64 x1,Value.int IntKind.i64 x2] 33,Obj.cells #[Value.int IntKind.i64 y1,Value.int IntKind.i64 y2] 33,Obj.cells #[Value.int IntKind.i64 c1,Value.int IntKind.i64 c2] 3],?_⟩
  rw[hgr.out,alloc_eq_grow,grow_grow];rfl
end
theorem Kp {Z:Nat->Prop} {μ:Mu} {hp:Array Obj} {id off len esz:Nat} {x:Value} (h:aB Z μ hp (.sl id off len esz) x) :
  (len=0/\∃ a,x=.slice a 0 0)∨∃ b o0 cap,∃ c:Array Value,∃ e f,x=.slice (some ⟨b,o0+off * esz,none⟩) len cap/\μ id=some (b,o0,esz)/\len<=cap/\hp[b]?=some (.cells c e f)/\o0+(off+cap) * esz<=c.size:=by
 cases h with
 | rr _ _ _ a=>exact .inl ⟨rfl,a,rfl⟩
 | sl _ _ _ _ b o0 cap c e f h1 d g i=>exact .inr ⟨b,o0,cap,c,e,f,rfl,h1,d,g,i⟩
theorem Yd {Z:Nat->Prop} {μ:Mu} {hp:Array Obj} {f:FuncId} {x:Value} (h:aB Z μ hp (.fn f [] []) x):x=.func (.func f) #[] #[]:=by
 cases h with
 | fn _ _ _ a c h1 b _ _ =>
  rw[Array.eq_empty_of_size_eq_zero h1.symm,Array.eq_empty_of_size_eq_zero b.symm]
theorem G7 (w:World) (b o0 m:Nat) (d:Array aA) (os:Array Obj) {j:Nat} (a:j < w.heap.size):(sortWorldK jU 2 w b o0 m d os).heap[j]?=if b=j then (w.heap[j]?).map (onCells (putCells id o0 (flatK jU 2 d))) else w.heap[j]?:=by
 unfold sortWorldK grow putRowK putRow mapBlock
 simp only[Sort.ahead]
 rw[abY (by simpa using a),Array.getElem?_modify]
theorem UG (l:List aA) (hl:l.length < 1152921504606846976) (u:V) (H:View) (ho:ba H u 2 (aV l)):av Tryz.prog 112 [u,.fn 113 [] []] H λr H'=>r=.bD []/\(∀ id,owner u≠some id->H' id=H id)/\ba H' u 2 (aV (fh l)):=by
 refine⟨by kernel_rfl,?_⟩
 rintro h rfl
 have eg:∀ args w,(callFunc 113 args).run Tryz.prog w=.ok (.enter 113 args) w:=enters_of Tryz.func113 (by kernel_rfl) rfl
 by_cases I:l=[]
 .subst I
  refine⟨.bD [],h,⟨aaD _,λZ μ F w xs s hr M=>?_⟩,.refl _,rfl,λ_ _=>rfl,by simpa [fh] using ho⟩
  obtain⟨hlen,N⟩:=s
  obtain⟨x,y,rfl⟩:∃ x y,xs=[x,y]:=by
   match xs,hlen with
   | [x,y],_=>exact⟨x,y,rfl⟩
  have h0:aB Z μ w.heap u x:=N 0 (by simp)
  obtain⟨p,cap,rfl⟩:∃ p cap,x=.slice p 0 cap:=by
   rcases ho with ⟨_,k,rfl⟩ | ⟨n,rfl,_⟩
   .cases h0 with | emp _ a _ _=>exact⟨a,0,rfl⟩
   .rcases Kp h0 with ⟨_,a,e⟩ | ⟨b,o0,cap,c,e,f,e2,_⟩
    .exact⟨a,0,e⟩
    .exact⟨_,cap,e2⟩
  refine(AnyF.slices_SortFunc_none Wp p cap y w).mono ?_
  rintro e w' ⟨rfl,rfl⟩
  exact⟨.tuple #[],Z,μ,rfl,.bD [] #[] rfl (λi hi=>by simp at hi),hr,Ext.refl _ _ _ _,λ_ _=>rfl⟩
 have S:0 < l.length:=acv.2 I
 obtain⟨n,rfl,hn⟩:=ho.sl (by rw[bI];exact S)
 rw[bI]
 have t:n < h.length:=jw (by rw[hn];simp)
 refine⟨.bD [],h.set n (.arr 2 (aV (fh l))),⟨by simp,λZ μ F w xs s hr M=>?_⟩,λk hk hd=>?_,rfl,λid ar=>?_,?_⟩
 rotate_left
 .rw[kY t]
  simp only[View.set]
  rw[aat (λe=>by rw[e,hn] at hd;simp at hd)];exact hd
 .rw[kY t]
  simp only[View.set]
  rw[aat (λe=>ar (by rw[e];rfl))]
 .refine .inr ⟨n,by rw[bI,j5],?_⟩
  rw[kY t];simp[View.set]
 obtain⟨hlen,N⟩:=s
 obtain⟨x,y,rfl⟩:∃ x y,xs=[x,y]:=by
  match xs,hlen with
  | [x,y],_=>exact⟨x,y,rfl⟩
 have h0:aB Z μ w.heap (.sl n 0 l.length 2) x:=N 0 (by simp)
 have h1:aB Z μ w.heap (.fn 113 [] []) y:=N 1 (by simp)
 have hy:=Yd h1
 subst hy
 rcases Kp h0 with ⟨e,_⟩ | ⟨b,o0,cap,c0,e0,f0,rfl,E,a7,_,_⟩
 .omega
 rw[Nat.zero_mul,ack]
 have J:cat h F n=.arr 2 (aV l):=by simp only[cat];rw[aaw t,hn]
 have T:=hr.obj n
 rw[J] at T
 obtain⟨_,⟨c,ty,fz,hc,U,W⟩,hq,z⟩:=T b o0 2 E
 rw[bI] at W hq z
 have O:b < w.heap.size:=hr.lt _ _ _ _ E
 have P:∀ (m:List aA) (i:Nat) (hi:i < m.length),(aV m).getD i []=bF m[i]:=λm i hi=>by simp[aV,aaq,hi]
 have hH:HoldsK jU 2 w b o0 l.toArray:=by
  intro j D
  rw[size_flatK] at D
  have a8:j < l.length * 2:=by simpa using D
  have hi:j / 2 < l.length:=by omega
  obtain⟨x,hx,d⟩:=z (j / 2) (j % 2) hi (by omega)
  rw[show o0+j / 2 * 2+j % 2=o0+j by omega] at hx
  have a1:x=(flatK jU 2 l.toArray)[j]!:=by
   rw[get_flatK _ _ _ _ D]
   rw[P l _ hi] at d
   have e1:l.toArray[j / 2]! = l[j / 2]:=by simp[hi]
   rw[e1]
   rcases aaT (j % 2) 1 with X | X
   .rw[show j % 2=0 by omega] at d ⊢
    simp only[bF,abD] at d
    cases d;rfl
   .rw[show j % 2=1 by omega] at d ⊢
    simp only[bF,aci,abD] at d
    cases d;rfl
  refine⟨by rw[py,hx,a1];rfl,?_⟩
  simp only[World.frozen?,hc]
  rcases U with e | e
  .simp only[e,Bool.and_eq_false_iff,abW];omega
  .simp only[Bool.and_eq_false_iff,abW];omega
 have hT:∀ x y,(ltOf qo) x y=false->(ltOf qo) y x=false->x=y:=λx y h1 X=>by
  rw[vg] at h1 X
  exact abB λA=>by rw[zy h1 A] at X;simp at X
 have K:=AnyQ.slices_SortFunc_total Wp 2 Tryz.isAgg33 Tryz.sizeOf33 jU (λ_=>rfl) (λx v N=>by simp[jU] at N;rcases N with rfl | rfl <;> rfl) qo Pb 113 #[] b o0 cap l.toArray w eg (λ_ _ _ _ x y=>Md x.ax x.dot y.ax y.dot _ _ (Vw x y)) hH O (by simp;omega) hT
 rw[SV] at K
 refine Calls.mono (show Calls Tryz.prog 112 _ w _ from K) ?_
 rintro e w' ⟨rfl,m,os,rfl⟩
 have Y:=j5 l
 have g:=λ{j:Nat} (D:j < w.heap.size)=>G7 w b o0 m (fh l).toArray os D
 have G:HoldsK jU 2 (sortWorldK jU 2 w b o0 m (fh l).toArray os) b o0 (fh l).toArray:=SWK.holds ⟨m,os,rfl⟩ O hH (by simp[Y])
 have B:w.heap.size<=(sortWorldK jU 2 w b o0 m (fh l).toArray os).heap.size:=SWK.le (dk:=(fh l).toArray) ⟨m,os,rfl⟩
 have Q:fv w (sortWorldK jU 2 w b o0 m (fh l).toArray os):=⟨rfl,rfl,rfl,B⟩
 generalize sortWorldK jU 2 w b o0 m (fh l).toArray os=w' at *
 have an:w'.heap[b]?=some (.cells (putCells id o0 (flatK jU 2 (fh l).toArray) c) ty fz):=by
  rw[g O,aaw rfl,hc];rfl
 have L:oG Z μ μ w.heap w'.heap h.length (.fQ n (.arr 2 (aV (fh l)))):=by
  refine⟨b,o0,2,E,rfl,λj D A=>by rw[g D,aat (λe=>A e.symm)],λj cc ee ff C=>?_,?_⟩
  .have a6:j < w.heap.size:=by
    rcases aaT j w.heap.size with q | q
    .exact q
    .simp[ab0 q] at C
   by_cases e:b=j
   .subst e
    rw[hc] at C
    simp only[aau,Obj.cells.injEq] at C
    obtain⟨rfl,rfl,rfl⟩:=C
    exact⟨_,_,an,by simp[putCells]⟩
   .exact⟨cc,ff,by rw[g a6,aat e];exact C,rfl⟩
  .intro b1 o1 s1 h1
   rw[E] at h1
   simp only[aau,aay] at h1
   obtain⟨rfl,rfl,rfl⟩:=h1
   refine⟨rfl,⟨_,ty,fz,an,?_,?_⟩,λi hi=>?_,λi j hi D=>?_⟩
   .simpa [putCells] using U
   .rw[bI,Y];simpa [putCells] using W
   .rw[bI] at hi;rw[P _ i hi];rfl
   .rw[bI] at hi
    have:=(G.cell (i:=i) (c:=j) (by simpa using hi) D).1
    rw[py] at this
    refine⟨_,this,?_⟩
    rw[P _ i hi]
    have e1:(fh l).toArray[i]! = (fh l)[i]:=by simp[hi]
    rw[e1]
    match j,D with
    | 0,_=>exact .val _ rfl
    | 1,_=>exact .val _ rfl
 have A:cat h F n≠.dead:=by rw[J];simp
 have R:=hr.eff (n:=h.length) (eff:=.fQ n (.arr 2 (aV (fh l)))) (by trivial) B L (λid o e=>by cases e;exact A) (λid o e=>by cases e)
 obtain⟨aq,bb⟩:=L.ext Q (by trivial) hr.dd hr.iR
 refine⟨.tuple #[],Z,μ,rfl,.bD [] #[] rfl (λi hi=>by simp at hi),?_,aq,λ_ _=>rfl⟩
 have ev:cat (h.set n (.arr 2 (aV (fh l)))) F=bH.view (cat h F) h.length (.fQ n (.arr 2 (aV (fh l)))):=by
  funext k
  simp only[cat,bH.view,View.set,aca]
  by_cases hk:k < h.length
  .rw[aaw hk,aaw hk,kY t];rfl
  .rw[aat hk,aat hk,aat (by omega)]
 rw[ev]
 exact R
abbrev ja:aA:=⟨0,0⟩
def gA (l:List aA):Nat->List aA
 | 0=>[]
 | n+1=>if n=0∨l.getD n ja≠l.getD (n - 1) ja then gA l n ++ [l.getD n ja] else gA l n
theorem Ce (l:List aA):∀ n,n<=l.length->(∀ j,0 < j->j < n->l.getD j ja≠l.getD (j - 1) ja)->gA l n=l.take n
 | 0,_,_=>by simp[gA]
 | n+1,c,h=>by
  have a:=Ce l n (by omega) λj h1 d=>h j h1 (by omega)
  have b:l[n]?=some (l.getD n ja):=getD_some (by omega)
  rw[gA,aaw,a,aaQ,b]
  .rfl
  .by_cases e:n=0
   .exact .inl e
   .exact .inr (h n (by omega) (by omega))
def CE (l:List aA):List aA:=gA (fh l) l.length
theorem zV {l:List aA} (hp:l.Pairwise λx y=>cY y x=false):∀ n,n<=l.length->cB (gA l n)/\(∀ x,x∈gA l n↔∃ i,i < n/\l.getD i ja=x)
 | 0,_=>by simp[gA,cB]
 | n+1,r=>by
  obtain⟨h1,f⟩:=zV hp n (by omega)
  have d:∀ i j,i < j->j < l.length->cY (l.getD j ja) (l.getD i ja)=false:=λi j g k=>by
   have:=List.pairwise_iff_getElem.1 hp i j (by omega) k g
   simpa [aaq,aar k,aar (show i < l.length by omega)] using this
  rw[gA]
  split
  .rename_i c
   refine⟨?_,λx=>?_⟩
   .rw[cB,List.pairwise_append]
    refine⟨h1,by simp,λa p b m=>?_⟩
    rw[abq] at m;subst m
    obtain⟨i,hi,rfl⟩:=(f a).1 p
    have c:l.getD n ja≠l.getD (n - 1) ja:=c.resolve_left (by omega)
    have o:=zy (d (n - 1) n (by omega) (by omega)) c
    rcases aaT i (n - 1) with h | h
    .have k2:=d i (n - 1) h (by omega)
     have q:¬ cY (l.getD (n - 1) ja) (l.getD i ja)=true:=by rw[k2];simp
     rw[fo] at o q ⊢
     omega
    .have:i=n - 1:=by omega
     subst this;exact o
   .rw[aaZ,f,abq]
    constructor
    .rintro (⟨i,hi,e⟩ | e)
     .exact⟨i,by omega,e⟩
     .exact⟨n,by omega,e.symm⟩
    .rintro⟨i,hi,e⟩
     rcases aaT i n with h | h
     .exact .inl ⟨i,h,e⟩
     .have:i=n:=by omega
      subst this;exact .inr e.symm
  .rename_i c
   simp only[not_or,Decidable.not_not] at c
   refine⟨h1,λx=>?_⟩
   rw[f]
   constructor
   .rintro⟨i,hi,e⟩;exact⟨i,by omega,e⟩
   .rintro⟨i,hi,e⟩
    rcases aaT i n with h | h
    .exact⟨i,h,e⟩
    .have:i=n:=by omega
     subst this
     exact⟨i - 1,by omega,by rw[<-c.2];exact e⟩
theorem Gd (l:List aA):cB (CE l):=(zV (Dp l) _ (by rw[j5];exact aaD _)).1
theorem tq {l:List aA} {x:aA} : x∈CE l↔x∈l:=by
 rw[CE,(zV (Dp l) _ (by rw[j5];exact aaD _)).2,<-(Ds l).mem_iff,abv]
 constructor
 .rintro⟨i,hi,e⟩
  have a:i < (fh l).length:=by rw[j5];exact hi
  exact⟨i,a,by rw[aaq,aar a] at e;exact e⟩
 .rintro⟨i,hi,e⟩
  exact⟨i,by rw[j5] at hi;exact hi,by rw[aaq,aar hi];exact e⟩
theorem Pw {l:List aA} (h:cB l):CE l=l:=Bx (Gd l) h λ_=>tq
def kW (g:ai) (s:Int):Int:=if s < 0 then (g.af.length:Int) - 1 - s else s
theorem zU (g:ai) (k:Nat):kW g (bh g k)=k:=by
 unfold kW bh;split <;> split <;> omega
theorem Kx {g:ai} {s:Int} (h1:s < g.af.length):0<=kW g s/\bh g (kW g s).toNat=s:=by
 unfold kW bh;split
 .rw[aat (by omega)];omega
 .rw[aaw (by omega)];omega
theorem rH {g:ai} {s:Int} (h:fP g s=true):s < g.af.length/\kW g s < g.af.length+g.ak.length:=by
 unfold fP at h
 unfold kW
 by_cases a:0<=s
 .rw[aaw a] at h
  rw[aat (by omega)]
  simp at h
  omega
 .rw[aat a] at h
  rw[aaw (by omega)]
  simp at h
  omega
def gV (l:List aA):List UInt8:=l.flatMap λx=>[UInt8.ofNat (x.ax+1).toNat,UInt8.ofNat x.dot.toNat]
theorem RC {a b:Nat} (c:a < 256) (d:b < 256) (h:UInt8.ofNat a=UInt8.ofNat b):a=b:=by
 have:=abk UInt8.toNat h
 simp at this
 omega
theorem Ks {g:ai} (c:g.dM):∀ {a b:List aA},(∀ x∈a,cG g x)->(∀ x∈b,cG g x)->gV a=gV b->a=b
 | [],[],_,_,_=>rfl
 | [],y :: b,_,_,h=>by simp[gV] at h
 | x :: a,[],_,_,h=>by simp[gV] at h
 | x :: a,y :: b,i,j,h=>by
  simp only[gV,List.flatMap_cons,aa9,abF,acr] at h
  obtain⟨h1,k,l⟩:=h
  have d:=i x (by simp)
  have e:=j y (by simp)
  have hr:=c.rules
  have q:=fy c d.1
  have r:=fy c e.1
  have:=d.1;have:=d.2;have:=e.1;have:=e.2
  have s:=RC (by omega) (by omega) h1
  have k2:=RC (by omega) (by omega) k
  have t:=Ks c (λz f=>i z (by simp[f])) (λz f=>j z (by simp[f])) l
  obtain⟨m,n⟩:=x
  obtain⟨o,p⟩:=y
  simp only at *
  have:m=o:=by omega
  have:n=p:=by omega
  subst_vars;rfl
structure kL (g:ai) (a:List aL):Prop where
 first:(a.getD 0 aN).bc=[⟨-1,0⟩]
 mh:∀ s∈a,∀ e∈s.aJ,(a.getD e.to.toNat aN).bc=bA g (cL g s.bc) e.sym
theorem mY (l:List aL) (i:Nat) (c:cr) (j:Nat):((l.modify i λx=>(⟨x.bc,x.aJ ++ [c]⟩:aL)).getD j aN).bc=(l.getD j aN).bc:=by
 simp only[aaq,List.getElem?_modify]
 cases l[j]? with
 | none=>rfl
 | some x =>
  by_cases e:i=j
  .subst e;simp
  .simp[e]
theorem kL.put {g:ai} {out:List aL} (h:kL g out) {at_:Nat} {s to:Int} (c:(out.getD to.toNat aN).bc=bA g (cL g (out.getD at_ aN).bc) s):kL g (out.modify at_ λx=>(⟨x.bc,x.aJ ++ [⟨s,to⟩]⟩:aL)):=by
 refine⟨by rw[mY];exact h.first,λy a e he=>?_⟩
 rw[mY]
 rcases mem_modify a with a | ⟨x,b,rfl⟩
 .exact h.mh y a e he
 .rcases aaZ.1 he with he | he
  .exact h.mh x (aax b) e he
  .simp at he;subst he
   rw[c,aaq,b];rfl
theorem kL.add {g:ai} {out:List aL} (h:kL g out) (h1:1<=out.length) (c:∀ s∈out,∀ e∈s.aJ,0<=e.to/\e.to < out.length) (k:List aA):kL g (out ++ [⟨k,[]⟩]):=by
 have b:∀ j:Nat,j < out.length->((out ++ [(⟨k,[]⟩:aL)]).getD j aN)=out.getD j aN:=λj d=>by
  simp[aaq,aaY d]
 refine⟨by rw[b 0 (by omega)];exact h.first,λy a e he=>?_⟩
 rcases aaZ.1 a with a | a
 .have:=c y a e he
  rw[b _ (by omega)];exact h.mh y a e he
 .simp at a;subst a;simp at he
theorem TZ (g:ai) (l:List aA) (at_:Nat) (out:List aL) (i:Nat) {j:Nat} (a:j < out.length):((dA g l at_ out i).getD j aN).bc=(out.getD j aN).bc:=by
 unfold dA
 split
 .rfl
 .split
  .rw[mY]
   simp[aaq,aaY a]
  .rw[mY]
theorem kL.step {g:ai} {l:List aA} {at_ i:Nat} {out:List aL} (h:kL g out) (hi:ey g at_ i out) (b:at_ < out.length) (hl:cL g (out.getD at_ aN).bc=l):kL g (dA g l at_ out i):=by
 unfold dA
 split
 .exact h
 .split
  .refine(h.add (by omega) hi.to _).put ?_
   rw[aaN]
   have c:((out ++ [(⟨bA g l (bh g i),[]⟩:aL)]).getD out.length aN).bc=bA g l (bh g i):=by
    simp[aaq]
   have d:(out ++ [(⟨bA g l (bh g i),[]⟩:aL)]).getD at_ aN=out.getD at_ aN:=by
    simp[aaq,aaY b]
   rw[c,d,hl]
  .rename_i f
   refine h.put ?_
   obtain⟨n,a⟩:∃ n:Nat,findD out (bA g l (bh g i))=n:=⟨(findD out (bA g l (bh g i))).toNat,by omega⟩
   obtain⟨s,h1,e⟩:=KL _ _ _ a
   rw[a,aaN,aaq,h1,hl]
   exact e
theorem kL.row {g:ai} (a:g.dM) {at_:Nat} {out:List aL} (h:kL g out) (hi:ey g at_ 0 out) (b:at_ < out.length):∀ n:Nat,n<=40->kL g ((List.range n).foldl (dA g (cL g (out.getD at_ aN).bc) at_) out)/\(((List.range n).foldl (dA g (cL g (out.getD at_ aN).bc) at_) out).getD at_ aN).bc=(out.getD at_ aN).bc
 | 0,_=>⟨h,rfl⟩
 | n+1,d=>by
  obtain⟨h1,c⟩:=kL.row a h hi b n (by omega)
  obtain⟨i1,i2,i3⟩:=ey.row (hi.qp a b).1 (hi.qp a b).2 hi n (by omega)
  rw[abi,abe]
  simp only[aaR,abL]
  refine⟨h1.step i1 (by omega) (by rw[c]),?_⟩
  rw[TZ _ _ _ _ _ (by omega),c]
theorem FA {g:ai} (a:g.dM):∀ (f at_:Nat) (out:List aL),ey g at_ 0 out->kL g out->(gz g f at_ out).2=0->kL g (gz g f at_ out).1
 | 0,_,out,_,h,_=>h
 | f+1,at_,out,hi,h,b=>by
  rw[gz] at b ⊢
  split
  .rename_i c
   rw[aaw c] at b
   have hr:=ey.row (hi.qp a c).1 (hi.qp a c).2 hi (g.af.length+g.ak.length) (by have:=a.af;have:=a.ak;omega)
   have he:=h.row a hi c (g.af.length+g.ak.length) (by have:=a.af;have:=a.ak;omega)
   rw[show (List.range (g.af.length+g.ak.length)).foldl (dA g (cL g (out.getD at_ aN).bc) at_) out=DY g at_ out (g.af.length+g.ak.length) from rfl] at hr he
   split
   .rename_i d;rw[aaw d] at b;simp at b
   .rename_i d
    rw[aat d] at b
    exact FA a f (at_+1) _ hr.1.next he.1 b
  .exact h
theorem Fk {g:ai} (a:g.dM) (h:(bJ g).2=0):kL g (bJ g).1:=by
 unfold bJ at h ⊢
 split
 .rename_i hr
  rw[aaw hr] at h
  exact FA a 302 0 eA pO ⟨rfl,λs hs e he=>by simp[eA] at hs;subst hs;simp at he⟩ h
 .rename_i hr
  rw[aat hr] at h
  simp at h
theorem CD {a:List aL} {i:Nat} {e:cr} (h:e∈(a.getD i aN).aJ):i < a.length/\a.getD i aN∈a:=by
 rcases aaT i a.length with hi | hi
 .exact⟨hi,aax (getD_some hi)⟩
 .rw[aaq,aa1 hi] at h;simp at h
theorem oW.bc {g:ai} {l:List aA} {x:aA} (h:oW g l x) (hd:x.dot≠0∨x.ax < 0):x∈l:=by
 cases h with
 | base h=>exact h
 | step=>simp at hd;omega
theorem vH {l:List cr} {s:Int} {c:Cell} (h:gg l s=some c):∃ e∈l,e.sym=s/\c=⟨1,e.to⟩:=by
 induction l with
 | nil=>simp[gg] at h
 | cons e l a =>
  rw[gg] at h
  split at h
  .rename_i hs
   simp at h
   exact⟨e,by simp,hs,h.symm⟩
  .obtain⟨b,h1,d⟩:=a h
   exact⟨b,by simp[h1],d⟩
theorem UP {l:List cr} {s:Int} (h:0<=dz l s):∃ e∈l,e.sym=s/\dz l s=e.to:=by
 induction l with
 | nil=>simp[dz] at h
 | cons e l a =>
  rw[dz] at h ⊢
  split
  .rename_i hs;exact⟨e,by simp,hs,rfl⟩
  .rename_i hs
   rw[aat hs] at h
   obtain⟨b,h1,c⟩:=a h
   exact⟨b,by simp[h1],c⟩
def lZ (g:ai) (l:List aA) (n:Nat):List Int:=((List.range n).filter λi=>decide (bA g l (bh g i)≠[])).map λ(i:Nat)=>bh g i
theorem E3 (g:ai) (l:List aA) (n:Nat):lZ g l (n+1)=if bA g l (bh g n)=[] then lZ g l n else lZ g l n ++ [bh g n]:=by
 unfold lZ
 rw[abi,abN,aaS]
 by_cases h:bA g l (bh g n)=[]
 .rw[aaw h];simp[h]
 .rw[aat h];simp[h]
structure oP (g:ai) (at_ i:Nat) (out:List aL):Prop where
 one:(out.map aL.bc).Nodup
 back:∀ j:Nat,0 < j->j < out.length->∃ (i:Nat) (e:cr),i < j/\e∈(out.getD i aN).aJ/\e.to=j
 done:∀ j:Nat,j < at_->j < out.length->(out.getD j aN).aJ.map cr.sym=lZ g (cL g (out.getD j aN).bc) (g.af.length+g.ak.length)
 here:at_ < out.length->(out.getD at_ aN).aJ.map cr.sym=lZ g (cL g (out.getD at_ aN).bc) i
theorem uf (l:List aL) (i:Nat) (c:cr) (j:Nat) (hi:i < l.length):((l.modify i λx=>(⟨x.bc,x.aJ ++ [c]⟩:aL)).getD j aN).aJ=if i=j then (l.getD j aN).aJ ++ [c] else (l.getD j aN).aJ:=by
 simp only[aaq,List.getElem?_modify]
 by_cases e:i=j
 .subst e;simp[hi]
 .cases l[j]? with
  | none=>simp[e]
  | some x=>simp[e]
theorem GZ (l:List aL) (i:Nat) (c:cr):(l.modify i λx=>(⟨x.bc,x.aJ ++ [c]⟩:aL)).map aL.bc=l.map aL.bc:=by
 apply List.ext_getElem?
 intro j
 simp only[aav,List.getElem?_modify]
 cases l[j]? with
 | none=>rfl
 | some x=>by_cases e:i=j <;> simp[e]
theorem oP.put {g:ai} {at_ i:Nat} {out:List aL} {to:Int} (a:at_ < out.length) (h1:(out.map aL.bc).Nodup) (f:∀ j:Nat,0 < j->j < out.length->(∃ (i:Nat) (e:cr),i < j/\e∈(out.getD i aN).aJ/\e.to=j)∨(at_ < j/\to=j))
  (h:∀ j:Nat,j < at_->j < out.length->(out.getD j aN).aJ.map cr.sym=lZ g (cL g (out.getD j aN).bc) (g.af.length+g.ak.length)) (l:(out.getD at_ aN).aJ.map cr.sym=lZ g (cL g (out.getD at_ aN).bc) i)
  (b:bA g (cL g (out.getD at_ aN).bc) (bh g i)≠[]):oP g at_ (i+1) (out.modify at_ λx=>(⟨x.bc,x.aJ ++ [⟨bh g i,to⟩]⟩:aL)):=by
 refine⟨by rw[GZ];exact h1,λj c hl=>?_,λj c hl=>?_,λ_=>?_⟩
 .rw[List.length_modify] at hl
  rcases f j c hl with ⟨k,e,d,a2,a3⟩ | ⟨d,a2⟩
  .refine⟨k,e,d,?_,a3⟩
   rw[uf _ _ _ _ a]
   split
   .exact abZ _ a2
   .exact a2
  .refine⟨at_,⟨bh g i,to⟩,d,?_,a2⟩
   rw[uf _ _ _ _ a,aaw rfl]
   simp
 .rw[List.length_modify] at hl
  rw[uf _ _ _ _ a,aat (by omega),mY]
  exact h j c hl
 .rw[uf _ _ _ _ a,aaw rfl,mY,aaS,l,E3,aat b];rfl
theorem oP.step {g:ai} {at_ i:Nat} {out:List aL} (h:oP g at_ i out) (d:at_ < out.length):oP g at_ (i+1) (dA g (cL g (out.getD at_ aN).bc) at_ out i):=by
 unfold dA
 split
 .rename_i hm
  exact⟨h.one,h.back,h.done,λ_=>by rw[E3,aaw hm];exact h.here d⟩
 .rename_i hm
  split
  .rename_i m
   have f:∀ j:Nat,j < out.length->((out ++ [(⟨bA g (cL g (out.getD at_ aN).bc) (bh g i),[]⟩:aL)]).getD j aN)=out.getD j aN:=λj c=>by
    simp[aaq,aaY c]
   refine oP.put (by simp;omega) ?_ (λj c hl=>?_) (λj c hl=>?_) ?_ ?_
   .rw[aaS,abr]
    refine⟨h.one,by simp,λa n b l=>?_⟩
    obtain⟨s,hs,rfl⟩:=aaM.1 n
    simp at l;subst l
    exact KC _ _ m s hs
   .rcases aaT j out.length with q | q
    .obtain⟨k,e,o,a2,a3⟩:=h.back j c q
     exact .inl ⟨k,e,o,by rw[f k (by omega)];exact a2,a3⟩
    .right
     simp at hl
     exact⟨by omega,by omega⟩
   .rw[f j (by omega)];exact h.done j c (by omega)
   .rw[f at_ d];exact h.here d
   .rw[f at_ d];exact hm
  .exact oP.put d h.one (λj c hl=>.inl (h.back j c hl)) h.done (h.here d) hm
theorem oP.row {g:ai} (a:g.dM) {at_:Nat} {out:List aL} (h:oP g at_ 0 out) (hi:ey g at_ 0 out) (he:kL g out) (b:at_ < out.length):∀ n:Nat,n<=40->oP g at_ n ((List.range n).foldl (dA g (cL g (out.getD at_ aN).bc) at_) out)
 | 0,_=>h
 | n+1,d=>by
  have h1:=oP.row a h hi he b n (by omega)
  obtain⟨i1,i2,i3⟩:=ey.row (hi.qp a b).1 (hi.qp a b).2 hi n (by omega)
  obtain⟨e,c⟩:=he.row a hi b n (by omega)
  rw[abi,abe]
  simp only[aaR,abL]
  have:=h1.step (by omega)
  rw[c] at this
  exact this
theorem oP.next {g:ai} {at_:Nat} {out:List aL} (h:oP g at_ (g.af.length+g.ak.length) out) (hi:ey g at_ (g.af.length+g.ak.length) out):oP g (at_+1) 0 out:=by
 refine⟨h.one,h.back,λj a hl=>?_,λhl=>?_⟩
 .rcases aaT j at_ with q | q
  .exact h.done j q hl
  .have:j=at_:=by omega
   subst this
   exact h.here hl
 .have:=(hi.aJ (at_+1) _ (getD_some (d:=aN) hl)).2.2 (by omega)
  rw[this];simp[lZ]
structure Vf (g:ai) (a:List aL):Prop where
 one:(a.map aL.bc).Nodup
 back:∀ j:Nat,0 < j->j < a.length->∃ (i:Nat) (e:cr),i < j/\e∈(a.getD i aN).aJ/\e.to=j
 all:∀ s∈a,s.aJ.map cr.sym=lZ g (cL g s.bc) (g.af.length+g.ak.length)
theorem EO {g:ai} (a:g.dM):∀ (f at_:Nat) (out:List aL),302<=f+at_->ey g at_ 0 out->kL g out->oP g at_ 0 out->out.length<=300->(gz g f at_ out).2=0->Vf g (gz g f at_ out).1
 | 0,at_,out,l,_,_,h,hl,_=>⟨h.one,h.back,λs hs=>by
   change s∈out at hs
   obtain⟨j,d,e⟩:=abv.1 hs
   have:=h.done j (by omega) d
   rwa [show out.getD j aN=s by rw[aaq,aar d];exact e] at this⟩
 | f+1,at_,out,l,hi,he,h,hl,b=>by
  have m:=a.af
  have n:=a.ak
  rw[gz] at b ⊢
  split
  .rename_i c
   rw[aaw c] at b
   have hr:=ey.row (hi.qp a c).1 (hi.qp a c).2 hi (g.af.length+g.ak.length) (by omega)
   have hE:=he.row a hi c (g.af.length+g.ak.length) (by omega)
   have k:=h.row a hi he c (g.af.length+g.ak.length) (by omega)
   rw[show (List.range (g.af.length+g.ak.length)).foldl (dA g (cL g (out.getD at_ aN).bc) at_) out=DY g at_ out (g.af.length+g.ak.length) from rfl] at hr hE k
   split
   .rename_i i;rw[aaw i] at b;simp at b
   .rename_i i
    rw[aat i] at b
    exact EO a f (at_+1) _ (by omega) hr.1.next hE.1 (k.next hr.1) (by omega) b
  .rename_i c
   exact⟨h.one,h.back,λs hs=>by
    change s∈out at hs
    obtain⟨j,d,e⟩:=abv.1 hs
    have:=h.done j (by omega) d
    rwa [show out.getD j aN=s by rw[aaq,aar d];exact e] at this⟩
theorem Fa {g:ai} (a:g.dM) (h:(bJ g).2=0):Vf g (bJ g).1:=by
 unfold bJ at h ⊢
 split
 .rename_i hr
  rw[aaw hr] at h
  refine EO a 302 0 eA (by omega) pO ⟨rfl,λs hs e he=>by simp[eA] at hs;subst hs;simp at he⟩ ⟨by simp[eA],λj h1 b=>by simp[eA] at b;omega,λj h1=>by omega,λ_=>?_⟩ (by simp[eA]) h
  simp[eA,lZ]
 .rename_i hr
  rw[aat hr] at h
  simp at h
theorem IB (g:ai):∀ (f at_:Nat) (out:List aL),(gz g f at_ out).2=0∨gz g f at_ out=([],5)
 | 0,_,_=>.inl rfl
 | f+1,at_,out=>by
  rw[gz]
  split
  .split
   .exact .inr rfl
   .exact IB g f _ _
  .exact .inl rfl
theorem Hp (g:ai):((bJ g).2=0/\isRed g=true)∨(bJ g=([],5)/\isRed g=true)∨(bJ g=([],1)/\isRed g=false):=by
 unfold bJ
 cases h:isRed g with
 | false=>exact .inr (.inr ⟨by simp,rfl⟩)
 | true =>
  rw[aaw rfl]
  rcases IB g 302 0 eA with h | h
  .exact .inl ⟨h,rfl⟩
  .exact .inr (.inl ⟨h,rfl⟩)
theorem oS {g:ai} (a:g.dM) {x:aA} (c:cG g x) {s:Int} (h:bp g x=(s,true)):fP g s=true:=by
 obtain⟨h1,d⟩:=si h
 have b:x.dot.toNat < (aP g x.ax).length:=by have:=c.2;omega
 have hm:s∈aP g x.ax:=by
  rw[<-d,aaq,aar b];exact aaC _
 unfold aP at hm
 split at hm
 .simp at hm;subst hm
  have:=a.lf;have:=a.start
  unfold fP
  rw[aat (by omega)]
  simp;omega
 .have e:g.rules[x.ax.toNat]?=some (aw g x.ax):=by unfold aw;exact getD_some (by have:=c.1;omega)
  exact a.sym _ (aax e) s hm
def eT (a:List aL) (p:Nat) (s:Int):Nat:=(ef a p [s]).1.toNat
def ez (a:List aL) (p:Nat) (s:Int):Prop:=∃ e∈(a.getD p aN).aJ,e.sym=s
noncomputable abbrev jq (g:ai) (a:List aL) (p:Nat):List aA:=cL g (a.getD p aN).bc
inductive jz (a:List aL):Nat->List Int->Nat->Prop
 | nil {p:Nat} : jz a p [] p
 | cons {p q:Nat} {s:Int} {X:List Int} : ez a p s->jz a (eT a p s) X q->jz a p (s :: X) q
theorem jz.snoc {a:List aL} {p q:Nat} {X:List Int} (h:jz a p X q) {s:Int} (he:ez a q s):jz a p (X ++ [s]) (eT a q s):=by
 induction h with
 | nil=>exact .cons he .nil
 | cons h1 _ b=>exact .cons h1 (b he)
theorem jz.one {a:List aL} {p q r:Nat} {X:List Int} (h:jz a p X q) (k:jz a p X r):q=r:=by
 induction h with
 | nil=>cases k;rfl
 | cons h1 _ b=>cases k with | cons _ k=>exact b k
theorem fK {a:List aL} {p:Nat} {s:Int} (h:ez a p s):p < a.length:=by
 obtain⟨e,he,_⟩:=h;exact(CD he).1
theorem MC {l:List cr} {s:Int} (h:∃ e∈l,e.sym=s):∃ e∈l,e.sym=s/\dz l s=e.to:=by
 induction l with
 | nil=>obtain⟨e,he,_⟩:=h;simp at he
 | cons e l b =>
  rw[dz]
  by_cases hs:e.sym=s
  .rw[aaw hs];exact⟨e,by simp,hs,rfl⟩
  .rw[aat hs]
   obtain⟨c,h1,a⟩:=h
   rcases aaI.1 h1 with rfl | h1
   .exact absurd a hs
   .obtain⟨d,f,k2⟩:=b ⟨c,h1,a⟩
    exact⟨d,by simp[f],k2⟩
theorem Vk {g:ai} {i j:Nat} (h:bh g i=bh g j):i=j:=by
 have h1:=zU g i
 rw[h,zU] at h1
 omega
theorem w6 (g:ai) (l:List aA) (n:Nat):(lZ g l n).Nodup:=by
 unfold lZ
 unfold List.Nodup
 rw[acu]
 exact((List.nodup_range (n:=n)).filter _).imp λa e=>a (Vk e)
theorem Wc {l:List cr} (h:(l.map cr.sym).Nodup) {e:cr} (he:e∈l):dz l e.sym=e.to:=by
 induction l with
 | nil=>simp at he
 | cons x l a =>
  simp only[aaW,abo] at h
  rw[dz]
  rcases aaI.1 he with rfl | he
  .rw[aaw rfl]
  .rw[aat (λb=>h.1 (by rw[b];exact List.mem_map_of_mem he))]
   exact a h.2 he
structure cq (g:ai) (a:List aL):Prop where
 cQ:g.dM
 ok:mX g a
 e:kL g a
 x:Vf g a
 pos:1<=a.length
section
variable {g:ai} {a:List aL}
theorem cq.bc (h:cq g a) {p:Nat} (hp:p < a.length):∀ x∈(a.getD p aN).bc,cG g x:=(h.ok.bc _ (aax (getD_some hp))).2.2
theorem cq.has (h:cq g a) {p:Nat} (hp:p < a.length) {x:aA} (b:x∈jq g a p):cG g x:=((c6 h.cQ (h.bc hp)).1 b).has (h.bc hp)
theorem cq.mh (h:cq g a) {p:Nat} (hp:p < a.length) {s:Int} : ez a p s↔∃ x∈jq g a p,bp g x=(s,true):=by
 have hs:=h.x.all _ (aax (getD_some (d:=aN) hp))
 have e:ez a p s↔s∈((a.getD p aN).aJ.map cr.sym):=by
  simp only[ez,aaM]
 rw[e,hs]
 simp only[lZ,aaM,abj,abl,aaE]
 constructor
 .rintro⟨i,⟨hi,f⟩,rfl⟩
  obtain⟨y,k⟩:=List.exists_mem_of_ne_nil _ f
  obtain⟨x,b,c,_⟩:=mS.1 k
  exact⟨x,b,c⟩
 .rintro⟨x,b,c⟩
  obtain⟨l,m⟩:=rH (oS h.cQ (h.has hp b) c)
  obtain⟨n,j⟩:=Kx l
  refine⟨(kW g s).toNat,⟨by omega,?_⟩,j⟩
  rw[j]
  exact List.ne_nil_of_mem (mS.2 ⟨x,b,c,rfl⟩)
theorem cq.eT (h:cq g a) {p:Nat} {s:Int} (he:ez a p s):∃ e∈(a.getD p aN).aJ,e.sym=s/\e.to=eT a p s/\eT a p s < a.length/\ef a p [s]=((eT a p s:Int),true):=by
 have hp:=fK he
 have hm:=aax (getD_some (d:=aN) hp)
 obtain⟨e,h1,c,f⟩:=MC he
 obtain⟨t1,t2⟩:=h.ok.to _ hm _ h1
 have hw:ef a p [s]=(e.to,true):=by
  unfold ef
  rw[aat (by omega),eS,aaN,f,aaw ⟨t1,t2⟩,eS]
 have b:((Gv.eT a p s:Nat):Int)=e.to:=by unfold Gv.eT;rw[hw];simp;omega
 exact⟨e,h1,c,b.symm,by omega,by rw[hw,b]⟩
theorem cq.Vd (h:cq g a) {p:Nat} {s:Int} (he:ez a p s):(a.getD (Gv.eT a p s) aN).bc=bA g (jq g a p) s:=by
 have hm:=aax (getD_some (d:=aN) (fK he))
 obtain⟨e,h1,b,c,_⟩:=h.eT he
 have:=h.e.mh _ hm e h1
 rw[c,aaN,b] at this
 exact this
theorem cq.step (h:cq g a) {p:Nat} (hp:p < a.length) {x:aA} (b:x∈jq g a p) {s:Int} (c:bp g x=(s,true)):ez a p s/\(⟨x.ax,x.dot+1⟩:aA)∈(a.getD (Gv.eT a p s) aN).bc/\(⟨x.ax,x.dot+1⟩:aA)∈jq g a (Gv.eT a p s)/\Gv.eT a p s < a.length:=by
 have he:=(h.mh hp).2 ⟨x,b,c⟩
 obtain⟨_,_,_,_,hl,_⟩:=h.eT he
 have hk:(⟨x.ax,x.dot+1⟩:aA)∈(a.getD (Gv.eT a p s) aN).bc:=by
  rw[h.Vd he];exact mS.2 ⟨x,b,c,rfl⟩
 exact⟨he,hk,(c6 h.cQ (h.bc hl)).2 (.base hk),hl⟩
theorem cq.ZC (h:cq g a) {p:Nat} {s:Int} (he:ez a p s):∀ y∈(a.getD (Gv.eT a p s) aN).bc,1<=y.dot:=by
 intro y b
 rw[h.Vd he] at b
 obtain⟨x,c,_,rfl⟩:=mS.1 b
 have:=(h.has (fK he) c).2
 simp only;omega
theorem cq.Z7 (h:cq g a) {p:Nat} {s:Int} (he:ez a p s):Gv.eT a p s≠0:=λe=>by
 have:=h.ZC he ⟨-1,0⟩ (by rw[e,h.e.first];simp)
 simp at this
theorem cq.prev (h:cq g a) {i:Nat} (hi:i < a.length) {x:aA} (c:x∈(a.getD i aN).bc) (f:0 < i):∃ (p:Nat) (y:aA) (s:Int),p < i/\p < a.length/\y∈jq g a p/\bp g y=(s,true)/\x=⟨y.ax,y.dot+1⟩/\ez a p s/\Gv.eT a p s=i:=by
 obtain⟨p,e,hp,he,d⟩:=h.x.back i f hi
 obtain⟨b,hm⟩:=CD he
 have hk:=h.e.mh _ hm e he
 rw[d,aaN] at hk
 rw[hk] at c
 obtain⟨y,j,k,rfl⟩:=mS.1 c
 have hE:ez a p e.sym:=⟨e,he,rfl⟩
 refine⟨p,y,e.sym,hp,b,j,k,rfl,hE,?_⟩
 have h1:=Wc (by rw[h.x.all _ hm];exact w6 _ _ _) he
 have hw:ef a p [e.sym]=(e.to,true):=by
  have:=h.ok.to _ hm _ he
  unfold ef
  rw[aat (by omega),eS,aaN,h1,aaw this,eS]
 unfold Gv.eT
 rw[hw,d];rfl
theorem yk {x:aA} {s:Int} (b:cG g x) (h:bp g x=(s,true)):∃ d:Nat,x.dot=d/\d < (aP g x.ax).length/\(aP g x.ax).drop d=s :: (aP g x.ax).drop (d+1):=by
 obtain⟨h1,a⟩:=si h
 have:=b.2
 refine⟨x.dot.toNat,by omega,by omega,?_⟩
 rw[abg (show x.dot.toNat < (aP g x.ax).length by omega)]
 rw[aaq,aar (show x.dot.toNat < (aP g x.ax).length by omega)] at a
 simp at a
 rw[a]
theorem rV {r:Int} {d:Nat} {s:Int} {l:List Int} (h:(aP g r).drop d=s :: l):bp g ⟨r,d⟩=(s,true)/\(aP g r).drop (d+1)=l/\d < (aP g r).length:=by
 have a:d < (aP g r).length:=by
  rcases aaT d (aP g r).length with q | q
  .exact q
  .rw[aaV q] at h;simp at h
 rw[abg a] at h
 simp only[acr] at h
 refine⟨?_,h.2,a⟩
 unfold bp
 rw[aat (by simp only;omega)]
 simp only[aaN,aaq,aar a,aaL,h.1]
theorem cq.fwd (h:cq g a) (r:Int):∀ (X:List Int) (d:Nat) (p:Nat),p < a.length->(⟨r,d⟩:aA)∈jq g a p->(∃ l,(aP g r).drop d=X ++ l)->∃ q,q < a.length/\jz a p X q/\(⟨r,((d+X.length:Nat):Int)⟩:aA)∈jq g a q
 | [],d,p,hp,b,_=>⟨p,hp,.nil,by simpa using b⟩
 | s :: X,d,p,hp,b,⟨l,hl⟩=>by
  obtain⟨n1,c,m⟩:=rV hl
  obtain⟨s1,s2,e,f⟩:=h.step hp b n1
  obtain⟨q,i,j,k⟩:=cq.fwd h r X (d+1) (Gv.eT a p s) f (by simpa using e) ⟨l,c⟩
  refine⟨q,i,.cons s1 j,?_⟩
  rw[show d+(s :: X).length=d+1+X.length by simp;omega]
  exact k
theorem cq.bwd (h:cq g a) (r:Int):∀ (d:Nat) (i:Nat),i < a.length->(⟨r,d⟩:aA)∈jq g a i->∃ p,p < a.length/\jz a p ((aP g r).take d) i/\(⟨r,0⟩:aA)∈jq g a p
 | 0,i,hi,c=>⟨i,hi,by simpa using jz.nil,c⟩
 | d+1,i,hi,c=>by
  have hk:=((c6 h.cQ (h.bc hi)).1 c).bc (.inl (by simp only;omega))
  have n:0 < i:=Nat.pos_of_ne_zero λe=>by
   subst e
   rw[h.e.first] at hk
   simp at hk
   omega
  obtain⟨p,y,s,_,k,l,o,b,q,t⟩:=h.prev hi hk n
  simp only[aA.mk.injEq] at b
  obtain⟨C,u⟩:=y
  simp only at b
  obtain⟨rfl,b⟩:=b
  have f:u=(d:Int):=by omega
  subst f
  obtain⟨v,w,k2,x⟩:=cq.bwd h r d p k l
  obtain⟨j,z,A,m⟩:=yk (h.has k l) o
  simp only at z A m
  have:j=d:=by omega
  subst this
  refine⟨v,w,?_,x⟩
  have B:(aP g r).take (j+1)=(aP g r).take j ++ [s]:=by
   rw[aaQ]
   congr 1
   have:=abk (·[0]?) m
   simp at this
   simp[this]
  rw[B,<-t]
  exact k2.snoc q
end
inductive qk (g:ai) (a:List aL):Nat->Int->Nat->Prop
 | fin:qk g a 0 g.start g.af.length
 | term {p:Nat} {B:Int} {t:Nat} : t < g.af.length->ez a (eT a p (-1 - B)) t->qk g a p B t
 | null {p:Nat} {B C:Int} {t:Nat} : 0<=C->ez a (eT a p (-1 - B)) (-1 - C)->(au g false).getD C.toNat false=true->qk g a (eT a p (-1 - B)) C t->qk g a p B t
inductive xj (g:ai) (a:List aL):Nat->Int->Nat->Prop
 | read {p:Nat} {B:Int} {t:Nat} : qk g a p B t->xj g a p B t
 | LI {p p' k d:Nat} {B:Int} {t:Nat} : xj g a p' (aw g k).left t->k < g.rules.length->ez a p' (-1 - (aw g k).left)->0<=B->(aw g k).right[d]?=some (-1 - B)->jz a p' ((aw g k).right.take d) p->cP ((aw g k).right.drop (d+1)) (au g false) false=true->xj g a p B t
theorem sO (null:List Bool) (first:List BV) (b:BV):∀ (l:List Int) (t:Nat),(ed null first b l).getLsbD t=true↔(ed null first 0 l).getLsbD t=true∨(cP l null false=true/\b.getLsbD t=true)
 | [],t=>by simp[ed,cP]
 | s :: l,t=>by
  have c:=sO null first b l t
  rw[ed,ed]
  by_cases a:0<=s
  .rw[aaw a,aaw a];simp[cP,a]
  .rw[aat a,aat a]
   by_cases h1:null.getD (-1 - s).toNat false=true
   .rw[aaw h1,aaw h1,aa5,aa5,abt,abt,c]
    have:cP (s :: l) null false=cP l null false:=by
     rw[cP,abP,aat a,h1];rfl
    rw[this]
    constructor
    .rintro (h | h | h)
     .exact .inl (.inl h)
     .exact .inl (.inr h)
     .exact .inr h
    .rintro ((h | h) | h)
     .exact .inl h
     .exact .inr (.inl h)
     .exact .inr (.inr h)
   .rw[aat h1,aat h1]
    have:cP (s :: l) null false=false:=by
     rw[cP,abP,aat a]
     simp only[Bool.not_eq_true] at h1
     rw[h1];rfl
    rw[this];simp
theorem BA {F:List Bool->List Bool} (a:∀ is,gG is (F is)):∀ (k:Nat) (is:List Bool),is.length<=eX is+k->F (iter F k is)=iter F k is
 | 0,is,h=>by
  have h1:=a is
  have c:=uU (F is)
  have b:=h1.eX
  rw[<-h1.1] at c
  have d:=uU is
  exact(b.2 (by omega)).symm
 | k+1,is,h=>by
  rw[iter]
  by_cases e:F is=is
  .rw[e]
   have:iter F k is=is:=zk e k
   rw[this,e]
  .refine BA a k (F is) ?_
   have h1:=a is
   have b:=h1.eX
   have:eX is≠eX (F is):=λq=>e (b.2 q).symm
   rw[<-h1.1];omega
def pt (t:Nat) (fs:List BV):List Bool:=fs.map λb=>b.getLsbD t
def SU (null:List Bool) (t:Nat) (is:List Bool):List Int->Bool
 | []=>false
 | s :: l=>if 0<=s then (dT s).getLsbD t else if null.getD (-1 - s).toNat false=true then is.getD (-1 - s).toNat false || SU null t is l else is.getD (-1 - s).toNat false
theorem th (t:Nat) (a:List BV) (i:Nat):(pt t a).getD i false=(a.getD i 0).getLsbD t:=by
 simp only[pt,aaq,aav]
 cases a[i]? with
 | none=>simp
 | some x=>rfl
theorem LG (null:List Bool) (t:Nat) (a:List BV):∀ l:List Int,(ed null a 0 l).getLsbD t=SU null t (pt t a) l
 | []=>by simp[ed,SU]
 | s :: l=>by
  rw[ed,SU]
  split
  .rfl
  .split
   .rw[aa5,LG null t a l,th]
   .rw[th]
def mg (null:List Bool) (t:Nat) (is:List Bool) (r:bg):List Bool:=is.set r.left.toNat (is.getD r.left.toNat false || SU null t is r.right)
theorem Vo (null:List Bool) (t:Nat) (a:List BV) (r:bg):pt t (lW null a r)=mg null t (pt t a) r:=by
 unfold lW mg
 rw[th,<-LG,<-aa5]
 simp[pt,abR]
theorem Km (null:List Bool) (t:Nat):∀ (l:List bg) (a:List BV),pt t (l.foldl (lW null) a)=l.foldl (mg null t) (pt t a)
 | [],_=>rfl
 | r :: l,a=>by rw[aaR,Km null t l,Vo];rfl
theorem J6 (g:ai) (null:List Bool) (t:Nat):∀ (n:Nat) (a:List BV),pt t (iter (vF g null) n a)=iter (λis=>g.rules.foldl (mg null t) is) n (pt t a)
 | 0,_=>rfl
 | n+1,a=>by rw[iter,iter,J6 g null t n];exact abk _ (Km null t g.rules a)
theorem LY (null:List Bool) (t:Nat) (is:List Bool) (r:bg):gG is (mg null t is r):=by
 refine⟨by simp[mg],λi hi=>?_⟩
 unfold mg
 simp only[aaq,abV] at hi ⊢
 split
 .rename_i e
  subst e
  split
  .simp[hi]
  .rename_i h;rw[aa1 (by omega)] at hi;simp at hi
 .exact hi
theorem DO (null:List Bool) (t:Nat):∀ (l:List bg) (is:List Bool),gG is (l.foldl (mg null t) is)
 | [],is=>.refl _
 | r :: l,is=>(LY null t is r).trans (DO null t l _)
theorem I0 {null:List Bool} {t:Nat} : ∀ {l:List bg} {is:List Bool},l.foldl (mg null t) is=is->∀ R∈l,mg null t is R=is
 | [],_,_,_,h=>by simp at h
 | R :: l,is,h,x,a=>by
  rw[aaR] at h
  have h1:=DO null t l (mg null t is R)
  rw[h] at h1
  have b:=(h1.tF (LY null t is R))
  rcases aaI.1 a with rfl | a
  .exact b
  .rw[b] at h;exact I0 h x a
theorem Bi {g:ai} (d:g.dM) (null:List Bool) {R:bg} (b:R∈g.rules):iL (ed null (cZ g null) 0 R.right) ((cZ g null).getD R.left.toNat 0):=by
 intro t c
 have e:=J6 g null t g.ak.length (List.replicate g.ak.length 0)
 have a:=BA (F:=λis=>g.rules.foldl (mg null t) is) (λis=>DO null t g.rules is) g.ak.length (pt t (List.replicate g.ak.length 0)) (by simp[pt])
 rw[<-e] at a
 have h1:=I0 a R b
 rw[LG] at c
 rw[<-th]
 have f:=d.left R b
 have hl:R.left.toNat < (pt t (cZ g null)).length:=by simp[pt,FR];omega
 change mg null t (pt t (cZ g null)) R=pt t (cZ g null) at h1
 rw[<-h1]
 unfold mg
 rw[aaq,ab9 hl,c,Bool.or_true];rfl
theorem sX {t:Nat} (h:t<=31) (i:Nat):(dT (t:Int)).getLsbD i=true↔i=t:=by
 unfold dT
 rw[aaw ⟨by omega,by omega⟩,abU,aaN]
 simp only[aaB,aaE]
 omega
theorem Rr {g:ai} (h:isRed g=true):∀ i:Nat,i < g.ak.length->(au g true).getD i false=true:=by
 have hr:=iC h
 unfold isRed at h
 simp only[aaB,abH,aaE] at h
 obtain⟨h1,b⟩:=h
 have hp:(au g true).getD g.start.toNat false=true:=by
  refine abB λc=>?_
  rw[mU hr,aat c] at h1
  simp at h1
 have a:=Sy hr hp
 have e:(gL g).1=rI g (bR (cH (au g true) (bT g) g.rules)) (au g true) (bT g):=by rw[mU hr,aaw hp]
 rw[<-e,<-b] at a
 intro i hi
 rw[a.len] at hi
 exact a.I3 hi
theorem Pn {g:ai} (h:isRed g=true) {x:Int} (hd:wb g x):(au g false).getD x.toNat false=true∨∃ t,((cZ g (au g false)).getD x.toNat 0).getLsbD t=true:=by
 have hr:=iC h
 have c:=bu hr
 induction hd with
 | mk R d _ e =>
  have key:∀ l:List Int,(∀ s∈l,s∈R.right)->cP l (au g false) false=true∨∃ t,(ed (au g false) (cZ g (au g false)) 0 l).getLsbD t=true:=by
   intro l
   induction l with
   | nil=>intro _;exact .inl rfl
   | cons s l il =>
    intro hs
    rw[ed]
    by_cases b:0<=s
    .rw[aaw b]
     have h1:=c.sym R d s (hs s (by simp))
     have:=c.af
     unfold fP at h1
     rw[aaw b] at h1
     simp at h1
     obtain⟨t,rfl⟩:∃ t:Nat,s=t:=⟨s.toNat,by omega⟩
     exact .inr ⟨t,(sX (by omega) t).2 rfl⟩
    .rw[aat b]
     rcases e s (hs s (by simp)) (by omega) with h1 | ⟨t,a⟩
     .rw[aaw h1]
      rcases il λx f=>hs x (by simp[f]) with i | ⟨t,a⟩
      .left
       rw[cP,abP,aat b,h1];exact i
      .exact .inr ⟨t,by rw[aa5,a,Bool.or_true]⟩
     .right
      split
      .exact⟨t,by rw[aa5,a,Bool.true_or]⟩
      .exact⟨t,a⟩
  rcases key R.right (λ_ h=>h) with h1 | ⟨t,a⟩
  .exact .inl (vm hr d h1)
  .exact .inr ⟨t,Bi c _ d t a⟩
theorem Gl {g:ai} (h:isRed g=true) {t0:Nat} (d:t0 < 32):∀ l:List Int,(∀ s∈l,fP g s=true)->∃ t,(ed (au g false) (cZ g (au g false)) (BitVec.twoPow 32 t0) l).getLsbD t=true
 | [],_=>⟨t0,by rw[ed,abU];simp[d]⟩
 | s :: l,hs=>by
  have hr:=iC h
  have e:=bu hr
  have h1:=hs s (by simp)
  have:=e.af
  rw[ed]
  unfold fP at h1
  by_cases b:0<=s
  .rw[aaw b]
   rw[aaw b] at h1
   simp at h1
   obtain⟨t,rfl⟩:∃ t:Nat,s=t:=⟨s.toNat,by omega⟩
   exact⟨t,(sX (by omega) t).2 rfl⟩
  .rw[aat b]
   rw[aat b] at h1
   simp at h1
   have hd:=Bw hr (-1 - s).toNat (Rr h _ (by omega))
   obtain⟨t2,c⟩:=Gl h d l λx f=>hs x (by simp[f])
   split
   .exact⟨t2,by rw[aa5,c,Bool.or_true]⟩
   .rename_i i
    rcases Pn h hd with a | ⟨t,a⟩
    .rw[aaN] at a;exact absurd a i
    .rw[aaN] at a;exact⟨t,a⟩
section
variable {g:ai} {a:List aL}
theorem iJ {i:Nat} {x:aA} : x∈(aX g a).getD i []↔i < a.length/\x∈jq g a i:=by
 unfold aX
 rw[aaq,aav]
 rcases aaT i a.length with h | h
 .rw[aar h]
  simp[h,jq,aaq,aar h]
 .rw[aa1 h]
  simp;omega
theorem rM {x:aA} {s:Int} (a:cG g x) (h:bp g x=(s,true)):∃ d:Nat,x.dot=d/\(aP g x.ax).drop d=s :: dC g x/\(aP g x.ax).drop (d+1)=dC g x:=by
 obtain⟨d,h1,b,f⟩:=yk a h
 have e:(aP g x.ax).drop (d+1)=dC g x:=by
  unfold dC
  by_cases c:0<=x.ax
  .rw[aaw c,h1,aP,aat (by omega)];rfl
  .rw[aat c]
   have hr:x.ax = -1:=by have:=a.1;omega
   rw[hr] at b ⊢
   simp only[aP,if_true] at b ⊢
   exact aaV (by simp)
 exact⟨d,h1,by rw[f,e],e⟩
theorem zE {null:List Bool} {a:List BV} {s:Int} {l:List Int} {u:Nat} : (ed null a 0 (s :: l)).getLsbD u=true↔(0<=s/\(dT s).getLsbD u=true)∨(s < 0/\((a.getD (-1 - s).toNat 0).getLsbD u=true∨(null.getD (-1 - s).toNat false=true/\(ed null a 0 l).getLsbD u=true))):=by
 rw[ed]
 by_cases b:0<=s
 .rw[aaw b]
  constructor
  .intro h;exact .inl ⟨b,h⟩
  .rintro (h | h)
   .exact h.2
   .omega
 .rw[aat b]
  split
  .rename_i c
   rw[aa5,abt]
   constructor
   .rintro (h | h)
    .exact .inr ⟨by omega,.inl h⟩
    .exact .inr ⟨by omega,.inr ⟨c,h⟩⟩
   .rintro (h | ⟨_,h | h⟩)
    .omega
    .exact .inl h
    .exact .inr h.2
  .rename_i c
   constructor
   .intro h;exact .inr ⟨by omega,.inl h⟩
   .rintro (h | ⟨_,h | h⟩)
    .omega
    .exact h
    .exact absurd h.1 c
def MW (g:ai) (a:List aL) (q u:Nat):Prop:=(u < g.af.length/\ez a q u)∨∃ C:Int,0<=C/\ez a q (-1 - C)/\(au g false).getD C.toNat false=true/\qk g a q C u
theorem MW.read {p u:Nat} {B:Int} (h:MW g a (eT a p (-1 - B)) u):qk g a p B u:=by
 rcases h with ⟨h1,b⟩ | ⟨C,h1,b,c,d⟩
 .exact .term h1 b
 .exact .null h1 b c d
def wk (g:ai) (a:List aL) (fs:List BV):Prop:=∀ (C:Int) (q u:Nat),0<=C->(fs.getD C.toNat 0).getLsbD u=true->ez a q (-1 - C)->MW g a q u
theorem Px (b:cq g a) {c:List BV} (f:wk g a c) {r:Int} {u:Nat} : ∀ (l:List Int) (d q:Nat),q < a.length->(⟨r,d⟩:aA)∈jq g a q->(aP g r).drop d=l->(ed (au g false) c 0 l).getLsbD u=true->MW g a q u
 | [],_,_,_,_,_,h=>by simp[ed] at h
 | s :: l,d,q,hq,i,hl,h=>by
  obtain⟨n1,k,p⟩:=rV hl
  obtain⟨s1,s2,m,n⟩:=b.step hq i n1
  rcases zE.1 h with ⟨o,h1⟩ | ⟨o,h1⟩
  .have j:=rH (oS b.cQ (b.has hq i) n1)
   have:=b.cQ.af
   obtain⟨t,rfl⟩:∃ t:Nat,s=t:=⟨s.toNat,by omega⟩
   have:=(sX (by omega) u).1 h1
   subst this
   exact .inl ⟨by omega,s1⟩
  .have e : -1 - (-1 - s)=s:=by omega
   rcases h1 with h1 | ⟨h1,j⟩
   .exact f (-1 - s) q u (by omega) h1 (by rw[e];exact s1)
   .refine .inr ⟨-1 - s,by omega,by rw[e];exact s1,h1,MW.read ?_⟩
    rw[e]
    exact Px b f l (d+1) _ n (by simpa using m) k j
theorem lK (b:cq g a) {q:Nat} (hq:q < a.length) {C:Int} {k:Nat} (f:0<=C) (hk:k < g.rules.length) (hl:(aw g k).left=C) (he:ez a q (-1 - C)):(⟨k,0⟩:aA)∈jq g a q:=by
 obtain⟨x,c,d⟩:=(b.mh hq).1 he
 have e:g.rules[k]?=some (aw g k):=by unfold aw;exact getD_some hk
 exact(c6 b.cQ (b.bc hq)).2 (.step ((c6 b.cQ (b.bc hq)).1 c) d (by omega) e (by omega))
theorem S6 (b:cq g a) {e:List BV} (c:wk g a e) {k:Nat} (hk:k < g.rules.length):wk g a (lW (au g false) e (aw g k)):=by
 intro C q u d hu he
 have f:g.rules[k]?=some (aw g k):=by unfold aw;exact getD_some hk
 have h:=(b.cQ.left _ (aax f)).1
 unfold lW at hu
 rw[dZ] at hu
 split at hu
 .rename_i i
  rw[aa5,abt] at hu
  have hl:(aw g k).left=C:=by omega
  rcases hu with hu | hu
  .exact c C q u d (by rw[<-hl];exact hu) he
  .have hq:=fK he
   have hm:=lK b hq d hk hl he
   refine Px b c _ 0 q hq hm ?_ hu
   rw[abO,aP,aat (by omega)]
 .exact c C q u d hu he
theorem Ho (c:cq g a):∀ (l:List bg) (b:List BV),(∀ R∈l,R∈g.rules)->wk g a b->wk g a (l.foldl (lW (au g false)) b)
 | [],_,_,h=>h
 | R :: l,b,hl,h=>by
  obtain⟨k,hk,e⟩:=abv.1 (hl R (by simp))
  have f:R=aw g k:=by
   have d:g.rules[k]?=some (aw g k):=by unfold aw;exact getD_some hk
   rw[aar hk,e] at d
   simpa using d
  rw[aaR]
  refine Ho c l _ (λx i=>hl x (by simp[i])) ?_
  rw[f]
  exact S6 c h hk
theorem I2 (c:cq g a):∀ (n:Nat) (b:List BV),wk g a b->wk g a (iter (vF g (au g false)) n b)
 | 0,_,h=>h
 | n+1,b,h=>by
  rw[iter]
  exact I2 c n _ (Ho c g.rules b (λ_ h=>h) h)
theorem Pf (b:cq g a):wk g a (cZ g (au g false)):=by
 refine I2 b _ _ λC q u c hu he=>?_
 simp only[aaq,abX] at hu
 split at hu <;> simp at hu
theorem Yt (b:cq g a) {i:Nat} {x:aA} {t:Nat} (h:ll g (au g false) a (aX g a) i x t) :
  (x.ax < 0->t=g.af.length)/\(0<=x.ax->∃ p,jz a p ((aP g x.ax).take x.dot.toNat) i/\ez a p (-1 - (aw g x.ax).left)/\xj g a p (aw g x.ax).left t):=by
 induction h with
 | start=>exact⟨λ_=>rfl,λh=>by simp at h⟩
 | @move i x t s hl c hm l =>
  obtain⟨hi,f⟩:=iJ.1 hl.mem
  have hH:=b.has hi f
  refine⟨l.1,λm=>?_⟩
  obtain⟨p,j,r,v⟩:=l.2 m
  obtain⟨d,d1,d2,d3⟩:=rM hH c
  refine⟨p,?_,r,v⟩
  have hE:=((b.mh hi).2 ⟨x,f,c⟩)
  have:=j.snoc hE
  rw[d1] at this ⊢
  rw[show ((d:Int)+1).toNat=d+1 by omega,aaQ]
  have N:(aP g x.ax)[d]?=some s:=by
   have:=abk (·[0]?) d2
   simpa using this
  rw[N]
  exact this
 | @begin i x t u s k hl c H hk I hm hu l =>
  obtain⟨hi,f⟩:=iJ.1 hl.mem
  have hH:=b.has hi f
  refine⟨λh=>by simp only at h;omega,λ_=>?_⟩
  obtain⟨d,d1,d2,d3⟩:=rM hH c
  obtain⟨s1,s2,J,O⟩:=b.step hi f c
  have e : -1 - (-1 - s)=s:=by omega
  refine⟨i,by simpa using jz.nil,by simp only;rw[I,e];exact s1,?_⟩
  simp only
  rw[I]
  rcases (sO _ _ _ _ _).1 hu with h1 | ⟨h1,K⟩
  .refine .read (MW.read ?_)
   rw[e]
   refine Px b (Pf b) (dC g x) (d+1) _ O (by rw[d1] at J;simpa using J) d3 h1
  .have w:u=t:=by
    rw[abU] at K
    simp at K;omega
   subst w
   by_cases m:0<=x.ax
   .obtain⟨p,j,r,v⟩:=l.2 m
    obtain⟨n,z⟩:∃ n:Nat,x.ax=n:=⟨x.ax.toNat,by omega⟩
    have A:n < g.rules.length:=by have:=hH.1;omega
    rw[z] at j r v d2 d3
    have B:aP g (n:Int)=(aw g n).right:=by rw[aP,aat (by omega)]
    rw[B] at j d2 d3
    rw[d1] at j
    refine .LI v A r (by omega) (d:=d) ?_ (by simpa using j) (by rw[d3];exact h1)
    have:=abk (·[0]?) d2
    rw[e]
    simpa using this
   .have P:=l.1 (by omega)
    have hr:x.ax = -1:=by have:=hH.1;omega
    have C:=((c6 b.cQ (b.bc hi)).1 f).bc (.inr (by omega))
    have D:i=0:=Nat.eq_zero_of_not_pos λm=>by
     obtain⟨p,y,V,_,Q,R,S,L,W,X⟩:=b.prev hi C m
     have o:=abk aA.ax L
     have E:=abk aA.dot L
     simp only at o E
     obtain⟨Y,Z,M,e3⟩:=yk (b.has Q R) S
     obtain⟨F,T,q,U⟩:=yk hH c
     rw[<-o,hr] at M
     rw[hr] at q
     simp only[aP,if_true,List.length_singleton] at M q
     omega
    have G:d=0:=by
     obtain⟨F,T,q,U⟩:=yk hH c
     rw[hr] at q
     simp only[aP,if_true,List.length_singleton] at q
     omega
    subst G
    rw[hr] at d2
    simp only[aP,if_true,abO,acr] at d2
    rw[D,P,show -1 - s=g.start by omega]
    exact .read .fin
theorem TO (f:cq g a) {q:Nat} (hq:q < a.length) {u:Nat} {z:aA} (m:z∈jq g a q):∀ d:Nat,z.dot=d->(ed (au g false) (cZ g (au g false)) 0 ((aP g z.ax).drop d)).getLsbD u=true ->
  ∃ (y:aA) (e:Nat),y∈(a.getD q aN).bc/\y.dot=e/\(ed (au g false) (cZ g (au g false)) 0 ((aP g y.ax).drop e)).getLsbD u=true:=by
 have i:=(c6 f.cQ (f.bc hq)).1 m
 clear m
 induction i with
 | base h=>exact λd h1 b=>⟨_,d,h,h1,b⟩
 | @step x s k R n o c j hl p =>
  intro d h1 b
  have hd:d=0:=by simp only at h1;omega
  subst hd
  obtain⟨r,t,v,w⟩:=rM (n.has (f.bc hq)) o
  refine p r t ?_
  rw[v]
  refine zE.2 (.inr ⟨c,.inl ?_⟩)
  have hk:k < g.rules.length:=(aaG.1 j).1
  have l:aw g k=R:=by unfold aw;rw[aaq,aaN,j];rfl
  rw[<-hl]
  refine Bi f.cQ _ (aax j) u ?_
  rw[abO,aP,aat (by simp only;omega)] at b
  simp only at b
  rw[l] at b
  exact b
theorem Iq (b:cq g a) {p:Nat} {s:Int} {u:Nat} (he:ez a p s) (h:∃ y∈jq g a (eT a p s),∃ d:Nat,y.dot=d/\(ed (au g false) (cZ g (au g false)) 0 ((aP g y.ax).drop d)).getLsbD u=true) :
  ∃ x∈jq g a p,bp g x=(s,true)/\(ed (au g false) (cZ g (au g false)) 0 (dC g x)).getLsbD u=true:=by
 obtain⟨y,j,d,h1,k⟩:=h
 obtain⟨_,_,_,_,hl,_⟩:=b.eT he
 obtain⟨z,e,c,z2,z3⟩:=TO b hl j d h1 k
 rw[b.Vd he] at c
 obtain⟨x,f,i,rfl⟩:=mS.1 c
 refine⟨x,f,i,?_⟩
 obtain⟨l,n,o,m⟩:=rM (b.has (fK he) f) i
 simp only at z2 z3
 rw[<-m,show l+1=e by omega]
 exact z3
theorem FX (b:cq g a) {p u:Nat} {B:Int} (h:qk g a p B u):ez a p (-1 - B)->(p=0/\B=g.start/\u=g.af.length)∨∃ x∈jq g a p,bp g x=(-1 - B,true)/\(ed (au g false) (cZ g (au g false)) 0 (dC g x)).getLsbD u=true:=by
 induction h with
 | fin=>exact λ_=>.inl ⟨rfl,rfl,rfl⟩
 | @term p B t q he =>
  intro c
  right
  refine Iq b c ?_
  have hq:=fK he
  obtain⟨y,j,e⟩:=(b.mh hq).1 he
  obtain⟨d,f,i,l⟩:=rM (b.has hq j) e
  refine⟨y,j,d,f,?_⟩
  have:=b.cQ.af
  rw[i]
  exact zE.2 (.inl ⟨by omega,(sX (by omega) _).2 rfl⟩)
 | @null p B C t r he e hr m =>
  intro c
  rcases m he with ⟨h1,_,_⟩ | ⟨y,k,n,o⟩
  .exact absurd h1 (b.Z7 c)
  .right
   refine Iq b c ?_
   obtain⟨d,f,i,l⟩:=rM (b.has (fK he) k) n
   refine⟨y,k,d,f,?_⟩
   rw[i]
   refine zE.2 (.inr ⟨by omega,.inr ⟨?_,o⟩⟩)
   rw[show -1 - (-1 - C)=C by omega];exact e
theorem O2 (b:cq g a) (hr:isRed g=true):∀ (n i:Nat),i < n->i < a.length->∀ x∈jq g a i,∃ t,t < 32/\ll g (au g false) a (aX g a) i x t
 | 0,_,h,_,_,_=>by omega
 | n+1,i,_,hi,x,d=>by
  have j:=(c6 b.cQ (b.bc hi)).1 d
  clear d
  induction j with
  | @base x h =>
   by_cases v:0 < i
   .obtain⟨p,y,s,I,w,z,A,C,J,D⟩:=b.prev hi h v
    obtain⟨t,l,m⟩:=O2 b hr n p (by omega) w y z
    refine⟨t,l,?_⟩
    obtain⟨s1,s2,E,F⟩:=b.step w z A
    have hm:(⟨y.ax,y.dot+1⟩:aA)∈(aX g a).getD (ef a p [s]).1.toNat []:=iJ.2 ⟨F,E⟩
    have:=ll.move m A hm
    rw[C,<-D]
    exact this
   .have o:i=0:=by omega
    subst o
    rw[b.e.first] at h
    simp at h;subst h
    have:=b.cQ.af
    exact⟨g.af.length,by omega,.start (iJ.2 ⟨hi,(c6 b.cQ (b.bc hi)).2 (.base (by rw[b.e.first];simp))⟩)⟩
  | @step x s k R d B c q hl G =>
   obtain⟨t,l,m⟩:=G
   have hH:=d.has (b.bc hi)
   have hk:k < g.rules.length:=(aaG.1 q).1
   have r:aw g k=R:=by unfold aw;rw[aaq,aaN,q];rfl
   obtain⟨u,hu⟩:=Gl hr l (dC g x) (λs hs=>by
    unfold dC at hs
    split at hs
    .rename_i v
     have H:g.rules[x.ax.toNat]?=some (aw g x.ax):=by
      have:=hH.1
      unfold aw;exact getD_some (by omega)
     exact b.cQ.sym _ (aax H) s (List.mem_of_mem_drop hs)
    .simp at hs)
   have f:u < 32:=Nat.lt_of_not_le λh=>by rw[BitVec.getLsbD_of_ge _ _ h] at hu;simp at hu
   exact⟨u,f,.begin m B c hk (by rw[r];omega) (iJ.2 ⟨hi,(c6 b.cQ (b.bc hi)).2 (.step d B c q hl)⟩) hu⟩
theorem JB (b:cq g a) {k:Nat} {t:Nat} : ∀ (X:List Int) (d p i:Nat),jz a p X i->ll g (au g false) a (aX g a) p ⟨k,d⟩ t->(∃ l,(aP g k).drop d=X ++ l)->ll g (au g false) a (aX g a) i ⟨k,((d+X.length:Nat):Int)⟩ t
 | [],d,p,i,hw,h,_=>by cases hw;simpa using h
 | s :: X,d,p,i,hw,h,⟨l,hl⟩=>by
  cases hw with
  | cons h1 c =>
   obtain⟨n1,e,q⟩:=rV hl
   obtain⟨hp,f⟩:=iJ.1 h.mem
   obtain⟨s1,s2,j,m⟩:=b.step hp f n1
   have hm:(⟨(⟨k,d⟩:aA).ax,(⟨k,d⟩:aA).dot+1⟩:aA)∈(aX g a).getD (ef a p [s]).1.toNat []:=iJ.2 ⟨m,j⟩
   have n:=ll.move h n1 hm
   have o:=JB b X (d+1) _ i c (by rw[show (((d+1:Nat):Int))=(d:Int)+1 by omega];exact n) ⟨l,e⟩
   rw[show d+(s :: X).length=d+1+X.length by simp;omega]
   exact o
theorem YB (b:cq g a) (hr:isRed g=true) {p t:Nat} {B:Int} (h:xj g a p B t):0<=B->ez a p (-1 - B)->∀ k:Nat,k < g.rules.length->(aw g k).left=B->ll g (au g false) a (aX g a) p ⟨k,0⟩ t:=by
 induction h with
 | @read p B t h =>
  intro q he k hk hl
  have hp:=fK he
  have hm:=iJ.2 ⟨hp,lK b hp q hk hl he⟩
  rcases FX b h he with ⟨rfl,rfl,rfl⟩ | ⟨x,y,z,A⟩
  .have C:(⟨-1,0⟩:aA)∈jq g a 0:=(c6 b.cQ (b.bc hp)).2 (.base (by rw[b.e.first];simp))
   refine .begin (.start (iJ.2 ⟨hp,C⟩)) (s:=-1 - g.start) ?_ (by omega) hk (by omega) hm ?_
   .unfold bp;rw[aat (by simp[aP])];simp[aP]
   .have:=b.cQ.af
    rw[dC,aat (by simp),ed,abU]
    simp;omega
  .obtain⟨t0,w,D⟩:=O2 b hr (p+1) p (by omega) hp x y
   refine .begin D z (by omega) hk (by omega) hm ((sO _ _ _ _ _).2 (.inl A))
 | @LI p E c d B t H j r F hd hw f u =>
  intro q he k hk hl
  have G:g.rules[c]?=some (aw g c):=by unfold aw;exact getD_some j
  have h1:=u (b.cQ.left _ (aax G)).1 r c j rfl
  have m:aP g (c:Int)=(aw g c).right:=by rw[aP,aat (by omega)]
  have n:=(aaG.1 hd).1
  have o:=JB b _ 0 E p hw (by simpa using h1) ⟨(aw g c).right.drop d,by rw[m,abO,List.take_append_drop]⟩
  rw[abc,aby,acB (by omega)] at o
  have hp:=fK he
  have v:bp g ⟨c,d⟩=(-1 - B,true):=(rV (l:=(aw g c).right.drop (d+1)) (by
   rw[m,abg n]
   congr 1
   rw[aar n] at hd
   simpa using hd)).1
  refine .begin o v (by omega) hk (by omega) (iJ.2 ⟨hp,lK b hp q hk hl he⟩) ((sO _ _ _ _ _).2 (.inr ⟨?_,?_⟩))
  .rw[dC,aaw (by simp only;omega)]
   simpa using f
  .obtain⟨i3,_⟩:=iJ.1 o.mem
   have w:t < 32:=by
    have key:∀ {i:Nat} {x:aA} {t:Nat},ll g (au g false) a (aX g a) i x t->t < 32:=by
     intro i x t h
     have:=b.cQ.af
     induction h with
     | start=>omega
     | move _ _ _ u=>exact u
     | begin _ _ _ _ _ _ hu _=>exact Nat.lt_of_not_le λh=>by rw[BitVec.getLsbD_of_ge _ _ h] at hu;simp at hu
    exact key o
   rw[abU]
   simp[w]
theorem T6 (d:cq g a) (hr:isRed g=true) {i k t:Nat} (hk:k < g.rules.length):ll g (au g false) a (aX g a) i ⟨k,((aw g k).right.length:Nat)⟩ t↔∃ p,jz a p (aw g k).right i/\ez a p (-1 - (aw g k).left)/\xj g a p (aw g k).left t:=by
 have l:g.rules[k]?=some (aw g k):=by unfold aw;exact getD_some hk
 have b:aP g (k:Int)=(aw g k).right:=by rw[aP,aat (by omega)]
 constructor
 .intro h
  obtain⟨p,c,e,f⟩:=(Yt d h).2 (by simp only;omega)
  simp only at c e f
  rw[b,aaN,List.take_length] at c
  exact⟨p,c,e,f⟩
 .rintro⟨p,c,e,f⟩
  have h1:=YB d hr f (d.cQ.left _ (aax l)).1 e k hk rfl
  have j:=JB d _ 0 p i c (by simpa using h1) ⟨[],by rw[b];simp⟩
  rw[aby] at j
  exact j
theorem Ym (b:cq g a) {i k:Nat} (hi:i < a.length) (hk:k < g.rules.length):(⟨k,((aw g k).right.length:Nat)⟩:aA)∈jq g a i↔∃ p,jz a p (aw g k).right i/\ez a p (-1 - (aw g k).left):=by
 have l:g.rules[k]?=some (aw g k):=by unfold aw;exact getD_some hk
 have f:aP g (k:Int)=(aw g k).right:=by rw[aP,aat (by omega)]
 constructor
 .intro h
  obtain⟨p,d,j,n⟩:=b.bwd k _ i hi h
  rw[f,List.take_length] at j
  refine⟨p,j,?_⟩
  cases (c6 b.cQ (b.bc d)).1 n with
  | base h =>
   exfalso
   by_cases o:0 < p
   .obtain⟨_,y,s,B,r,t,C,u,_,_⟩:=b.prev d h o
    have:=abk aA.dot u
    simp only at this
    have:=(b.has r t).2
    omega
   .have:p=0:=by omega
    subst this
    rw[b.e.first] at h
    simp at h
  | @step x s k2 R v w m c hl =>
   rw[l] at c
   simp only[aau] at c
   rw[c,hl,show -1 - (-1 - s)=s by omega]
   exact(b.mh d).2 ⟨x,(c6 b.cQ (b.bc d)).2 v,w⟩
 .rintro⟨p,d,j⟩
  have hp:=fK j
  have hm:=lK b hp (b.cQ.left _ (aax l)).1 hk rfl j
  obtain⟨q,D,z,A⟩:=b.fwd k (aw g k).right 0 p hp hm ⟨[],by rw[f];simp⟩
  rw[d.one z]
  simpa using A
end
def pR (null:List Bool) (first:List BV) (R:bg) (out:List BV) (k:Nat):List BV :=
 if R.right.getD k 0 < 0 then out.set (-1 - R.right.getD k 0).toNat (out.getD (-1 - R.right.getD k 0).toNat 0 ||| ed null first (out.getD R.left.toNat 0) (R.right.drop (k+1))) else out
def yo (null:List Bool) (first:List BV) (out:List BV) (R:bg):List BV:=(List.range R.right.length).foldl (pR null first R) out
def CP (g:ai) (null:List Bool) (first:List BV) (out:List BV):List BV:=g.rules.foldl (yo null first) out
def rY (g:ai):List BV:=(List.replicate g.ak.length 0).set g.start.toNat (dT g.af.length)
def lJ (g:ai) (null:List Bool):List BV:=iter (CP g null (cZ g null)) g.ak.length (rY g)
theorem OY (null:List Bool) (first:List BV) (R:bg) (out:List BV) (k:Nat):(pR null first R out k).length=out.length:=by
 unfold pR;split <;> simp
theorem EP (null:List Bool) (first:List BV) (R:bg):∀ (l:List Nat) (out:List BV),(l.foldl (pR null first R) out).length=out.length
 | [],_=>rfl
 | k :: l,out=>by rw[aaR,EP null first R l,OY]
theorem C7 (null:List Bool) (first:List BV):∀ (l:List bg) (out:List BV),(l.foldl (yo null first) out).length=out.length
 | [],_=>rfl
 | R :: l,out=>by rw[aaR,C7 null first l,yo,EP]
theorem L8 (g:ai) (null:List Bool):(lJ g null).length=g.ak.length:=by
 rw[lJ,Bu (f:=CP g null (cZ g null)) λl=>C7 _ _ g.rules l];simp[rY]
theorem vE {α:Type} {F:List Bool->α->List Bool} (a:∀ is x,gG is (F is x)):∀ (l:List α) (is:List Bool),gG is (l.foldl F is)
 | [],is=>.refl _
 | x :: l,is=>(a is x).trans (vE a l _)
theorem A3 {α:Type} {F:List Bool->α->List Bool} (a:∀ is x,gG is (F is x)):∀ {l:List α} {is:List Bool},l.foldl F is=is->∀ x∈l,F is x=is
 | [],_,_,_,h=>by simp at h
 | y :: l,is,h,x,b=>by
  rw[aaR] at h
  have h1:=vE a l (F is y)
  rw[h] at h1
  have c:=h1.tF (a is y)
  rcases aaI.1 b with rfl | b
  .exact c
  .rw[c] at h;exact A3 a h x b
def sV (null:List Bool) (first:List BV) (t:Nat) (R:bg) (is:List Bool) (k:Nat):List Bool :=
 if R.right.getD k 0 < 0 then is.set (-1 - R.right.getD k 0).toNat (is.getD (-1 - R.right.getD k 0).toNat false || ((ed null first 0 (R.right.drop (k+1))).getLsbD t || (cP (R.right.drop (k+1)) null false && is.getD R.left.toNat false))) else is
theorem Th (null:List Bool) (first:List BV) (t:Nat) (R:bg) (out:List BV) (k:Nat):pt t (pR null first R out k)=sV null first t R (pt t out) k:=by
 unfold pR sV
 have e:∀ b:BV,(ed null first b (R.right.drop (k+1))).getLsbD t=((ed null first 0 (R.right.drop (k+1))).getLsbD t || (cP (R.right.drop (k+1)) null false && b.getLsbD t)):=λb=>by
  rw[abu,sO];simp
 split
 .rw[th,th,<-e,<-aa5]
  simp[pt,abR]
 .rfl
theorem Iv (null:List Bool) (first:List BV) (t:Nat) (R:bg):∀ (l:List Nat) (out:List BV),pt t (l.foldl (pR null first R) out)=l.foldl (sV null first t R) (pt t out)
 | [],_=>rfl
 | k :: l,out=>by rw[aaR,Iv null first t R l,Th];rfl
def KT (null:List Bool) (first:List BV) (t:Nat) (is:List Bool) (R:bg):List Bool:=(List.range R.right.length).foldl (sV null first t R) is
theorem Fe (null:List Bool) (first:List BV) (t:Nat):∀ (l:List bg) (out:List BV),pt t (l.foldl (yo null first) out)=l.foldl (KT null first t) (pt t out)
 | [],_=>rfl
 | R :: l,out=>by rw[aaR,Fe null first t l,yo,Iv];rfl
theorem HO (g:ai) (null:List Bool) (first:List BV) (t:Nat):∀ (n:Nat) (out:List BV),pt t (iter (CP g null first) n out)=iter (λis=>g.rules.foldl (KT null first t) is) n (pt t out)
 | 0,_=>rfl
 | n+1,out=>by rw[iter,iter,HO g null first t n];exact abk _ (Fe null first t g.rules out)
theorem BU (null:List Bool) (first:List BV) (t:Nat) (R:bg) (is:List Bool) (k:Nat):gG is (sV null first t R is k):=by
 unfold sV
 split
 .refine⟨by simp,λi hi=>?_⟩
  simp only[aaq,abV] at hi ⊢
  split
  .rename_i e
   subst e
   split
   .simp[hi]
   .rename_i h;rw[aa1 (by omega)] at hi;simp at hi
  .exact hi
 .exact .refl _
theorem AF {g:ai} (f:g.dM) (null:List Bool) {R:bg} (c:R∈g.rules) {k:Nat} {s:Int} (hk:R.right[k]?=some s) (hs:s < 0) {t:Nat}
  (h:(ed null (cZ g null) 0 (R.right.drop (k+1))).getLsbD t=true∨(cP (R.right.drop (k+1)) null false=true/\((lJ g null).getD R.left.toNat 0).getLsbD t=true)):((lJ g null).getD (-1 - s).toNat 0).getLsbD t=true:=by
 have e:=HO g null (cZ g null) t g.ak.length (rY g)
 have a:=BA (F:=λis=>g.rules.foldl (KT null (cZ g null) t) is) (λis=>vE (λis R=>vE (λis k=>BU _ _ _ _ _ _) _ _) g.rules is) g.ak.length (pt t (rY g)) (by simp[pt,rY])
 rw[<-e] at a
 have h1:=A3 (λis R=>vE (λis k=>BU null (cZ g null) t R _ _) _ _) a R c
 have b:=(aaG.1 hk).1
 have d:=A3 (λis k=>BU null (cZ g null) t R _ _) h1 k (abl.2 b)
 have i:R.right.getD k 0=s:=by rw[aaq,hk];rfl
 change sV null (cZ g null) t R (pt t (lJ g null)) k=pt t (lJ g null) at d
 have j:=f.neg c (aax hk) hs
 rw[<-th,<-d]
 unfold sV
 rw[i,aaw hs,aaq,ab9 (by simp[pt,L8];omega)]
 simp only[aaL,abt,aaB]
 rw[th t _ R.left.toNat]
 exact .inr h
theorem Mb {out:List BV} {a i t:Nat} {x:BV} (h:(out.getD i 0).getLsbD t=true):((out.set a (out.getD a 0 ||| x)).getD i 0).getLsbD t=true:=by
 rw[dZ]
 split
 .rename_i e
  rw[aa5,e.1,h];rfl
 .exact h
theorem Kz {g:ai} (b:g.dM) (null:List Bool):((lJ g null).getD g.start.toNat 0).getLsbD g.af.length=true:=by
 have c:((rY g).getD g.start.toNat 0).getLsbD g.af.length=true:=by
  unfold rY
  have:=b.start;have:=b.lf
  rw[dZ,aaw ⟨rfl,by simp;omega⟩]
  have:=b.af
  exact(sX (by omega) _).2 rfl
 have d:∀ (R:bg) (l:List Nat) (out:List BV),(out.getD g.start.toNat 0).getLsbD g.af.length=true->((l.foldl (pR null (cZ g null) R) out).getD g.start.toNat 0).getLsbD g.af.length=true:=λR l=>by
  induction l with
  | nil=>exact λ_ h=>h
  | cons k l a =>
   intro out h
   rw[aaR]
   refine a _ ?_
   unfold pR
   split
   .exact Mb h
   .exact h
 have e:∀ (l:List bg) (out:List BV),(out.getD g.start.toNat 0).getLsbD g.af.length=true->((l.foldl (yo null (cZ g null)) out).getD g.start.toNat 0).getLsbD g.af.length=true:=λl=>by
  induction l with
  | nil=>exact λ_ h=>h
  | cons R l a=>exact λout h=>a _ (d R _ out h)
 have f:∀ (n:Nat) (out:List BV),(out.getD g.start.toNat 0).getLsbD g.af.length=true->((iter (CP g null (cZ g null)) n out).getD g.start.toNat 0).getLsbD g.af.length=true:=λn=>by
  induction n with
  | zero=>exact λ_ h=>h
  | succ n a=>exact λout h=>a _ (e g.rules out h)
 exact f _ _ c
theorem SN {g:ai} (h:isRed g=true):∀ i:Nat,i < g.ak.length->pS g (au g true) i:=by
 have hr:=iC h
 unfold isRed at h
 simp only[aaB,abH,aaE] at h
 obtain⟨h1,b⟩:=h
 have hp:(au g true).getD g.start.toNat false=true:=by
  refine abB λc=>?_
  rw[mU hr,aat c] at h1
  simp at h1
 have a:=Sy hr hp
 have e:(gL g).1=rI g (bR (cH (au g true) (bT g) g.rules)) (au g true) (bT g):=by rw[mU hr,aaw hp]
 rw[<-e,<-b] at a
 intro i hi
 rw[a.len] at hi
 exact Bv hr i (a.Q1 hi)
section
variable {g:ai} {a:List aL}
theorem UM (b:cq g a) (hr:isRed g=true) {x:Int} (h:pS g (au g true) x):∃ p,ez a p (-1 - x):=by
 have hp:=b.pos
 induction h with
 | start =>
  refine⟨0,(b.mh (by omega)).2 ⟨⟨-1,0⟩,(c6 b.cQ (b.bc (by omega))).2 (.base (by rw[b.e.first];simp)),?_⟩⟩
  unfold bp;rw[aat (by simp[aP])];simp[aP]
 | next R s m _ _ hs u n =>
  obtain⟨p,hE⟩:=n
  obtain⟨k,hk,e⟩:=abv.1 m
  have c:aw g k=R:=by unfold aw;rw[aaq,aaN,aar hk,e];rfl
  obtain⟨d,hd,o⟩:=abv.1 hs
  have f:=fK hE
  have i:aP g (k:Int)=R.right:=by rw[aP,aat (by omega),c]
  have hm:=lK b f (b.cQ.left _ m).1 hk (by rw[c]) hE
  obtain⟨q,r,v,t⟩:=b.fwd k (R.right.take d) 0 p f hm ⟨R.right.drop d,by rw[i];simp⟩
  have j:bp g ⟨k,((0+(R.right.take d).length:Nat):Int)⟩=(s,true):=(rV (l:=R.right.drop (d+1)) (by
   rw[i,aby,abc,acB (by omega),abg hd,o])).1
  refine⟨q,?_⟩
  rw[show -1 - (-1 - s)=s by omega]
  exact(b.mh r).2 ⟨_,t,j⟩
theorem Pa (c:cq g a) {p t:Nat} {B:Int} (h:xj g a p B t):0<=B->ez a p (-1 - B)->((lJ g (au g false)).getD B.toNat 0).getLsbD t=true:=by
 induction h with
 | @read p B t h =>
  intro j he
  rcases FX c h he with ⟨_,rfl,rfl⟩ | ⟨x,l,m,f⟩
  .exact Kz c.cQ _
  .by_cases n:0<=x.ax
   .have hH:=c.has (fK he) l
    obtain⟨d,d1,d2,d3⟩:=rM hH m
    rw[aP,aat (by omega)] at d2 d3
    have hk:x.ax.toNat < g.rules.length:=by have:=hH.1;omega
    have e:g.rules[x.ax.toNat]?=some (aw g x.ax):=by unfold aw;exact getD_some hk
    have hd:(aw g x.ax).right[d]?=some (-1 - B):=by
     have:=abk (·[0]?) d2
     simpa using this
    have:=AF c.cQ (au g false) (aax e) hd (by omega) (t:=t) (.inl (by rw[d3];exact f))
    rw[show -1 - (-1 - B)=B by omega] at this
    exact this
   .rw[dC,aat n] at f
    simp[ed] at f
 | @LI p r k d B t s hk i o hd hw b q =>
  intro j he
  have e:g.rules[k]?=some (aw g k):=by unfold aw;exact getD_some hk
  have h1:=q (c.cQ.left _ (aax e)).1 i
  have:=AF c.cQ (au g false) (aax e) hd (by omega) (t:=t) (.inr ⟨b,h1⟩)
  rw[show -1 - (-1 - B)=B by omega] at this
  exact this
end
def fO (z:List Cell) (e:cr):List Cell:=if e.sym < 0 then z else z.set e.sym.toNat ⟨1,e.to⟩
def jb (z:List Int) (e:cr):List Int:=if e.sym < 0 then z.set (-1 - e.sym).toNat e.to else z
theorem Gb (z:List Cell) (e:cr):(fO z e).length=z.length:=by unfold fO;split <;> simp
theorem Fg (z:List Int) (e:cr):(jb z e).length=z.length:=by unfold jb;split <;> simp
theorem qH:∀ (l:List cr) (z:List Cell),(l.foldl fO z).length=z.length
 | [],_=>rfl
 | e :: l,z=>by rw[aaR,qH l,Gb]
theorem y8:∀ (l:List cr) (z:List Int),(l.foldl jb z).length=z.length
 | [],_=>rfl
 | e :: l,z=>by rw[aaR,y8 l,Fg]
theorem Ab {l:List cr} {s:Int} (h:s ∉ l.map cr.sym):gg l s=none:=by
 cases a:gg l s with
 | none=>rfl
 | some c =>
  obtain⟨e,he,h1,_⟩:=vH a
  exact absurd (aaM.2 ⟨e,he,h1⟩) h
def De (c:Option Cell) (d:Cell):Cell:=match c with
 | some c=>c
 | none=>d
theorem F8:∀ (l:List cr) (z:List Cell) (k:Nat),(l.map cr.sym).Nodup->k < z.length->(l.foldl fO z).getD k ⟨0,0⟩=De (gg l k) (z.getD k ⟨0,0⟩)
 | [],z,k,_,_=>rfl
 | e :: l,z,k,a,hk=>by
  rw[aaW,abo] at a
  rw[aaR,F8 l _ k a.2 (by rw[Gb];exact hk),gg]
  by_cases h:e.sym=k
  .rw[aaw h,Ab (h ▸ a.1)]
   simp only[De,fO]
   rw[aat (by omega),dZ,aaw ⟨by omega,by omega⟩]
  .rw[aat h]
   congr 1
   unfold fO
   split
   .rfl
   .rw[dZ,aat (by omega)]
theorem E9:∀ (l:List cr) (z:List Int) (k:Nat),(l.map cr.sym).Nodup->k < z.length->(l.foldl jb z).getD k (-1)=(De (gg l (-1 - k)) ⟨1,z.getD k (-1)⟩).n
 | [],z,k,_,_=>rfl
 | e :: l,z,k,a,hk=>by
  rw[aaW,abo] at a
  rw[aaR,E9 l _ k a.2 (by rw[Fg];exact hk),gg]
  by_cases h:e.sym = -1 - k
  .rw[aaw h,Ab (h ▸ a.1)]
   simp only[De,jb]
   rw[aaw (by omega),dZ,aaw ⟨by omega,by omega⟩]
  .rw[aat h]
   congr 2
   unfold jb
   split
   .rw[dZ,aat (by omega)]
   .rfl
theorem BC (s:Int):∀ l:List cr,dz l s=(De (gg l s) ⟨1,-1⟩).n
 | []=>rfl
 | e :: l=>by
  rw[dz,gg]
  split
  .rfl
  .exact BC s l
section
variable {g:ai} {a:List aL}
theorem Xx (b:mX g a) {i:Nat} (hi:i < a.length) (k:Int):CN a i k=(De (gg (a.getD i aN).aJ (-1 - k)) ⟨1,-1⟩).n:=by
 have d:ef a i [-1 - k]=eS a i [-1 - k]:=by unfold ef;rw[aat (by omega)]
 have f:eS a i [-1 - k]=if 0<=dz (a.getD i aN).aJ (-1 - k)/\dz (a.getD i aN).aJ (-1 - k) < a.length then (dz (a.getD i aN).aJ (-1 - k),true) else (0,false):=by
  rw[eS,aaN];simp only[eS]
 rw[CN,d,f,<-BC]
 by_cases h:0<=dz (a.getD i aN).aJ (-1 - k)
 .obtain⟨e,he,_,o⟩:=UP h
  have:=b.to _ (aax (getD_some hi)) e he
  rw[aaw (c:=0<=dz (a.getD i aN).aJ (-1 - k)/\_) ⟨h,by omega⟩]
  simp
 .rw[aat (c:=0<=dz (a.getD i aN).aJ (-1 - k)/\_) (λq=>h q.1)]
  simp only[aaU,if_false]
  have:∀ l:List cr,(∀ e∈l,0<=e.to)->-1<=dz l (-1 - k):=λl=>by
   induction l with
   | nil=>intro _;simp[dz]
   | cons e l j =>
    intro hl
    rw[dz]
    split
    .have:=hl e (by simp);omega
    .exact j λx m=>hl x (by simp[m])
  have:=this (a.getD i aN).aJ λe he=>(b.to _ (aax (getD_some hi)) e he).1
  omega
theorem Zc (b:mX g a) {i:Nat} (hi:i < a.length) (c:((a.getD i aN).aJ.map cr.sym).Nodup):(a.getD i aN).aJ.foldl jb (List.replicate g.ak.length (-1))=rL g a i:=by
 refine List.ext_getElem (by rw[y8];simp[rL]) λk h1 d=>?_
 have hk:k < g.ak.length:=by simpa [rL] using d
 have e:=E9 (a.getD i aN).aJ (List.replicate g.ak.length (-1)) k c (by simpa using hk)
 rw[aaq,aar h1] at e
 simp only[aaL] at e
 rw[e]
 simp only[rL,List.getElem_map,List.getElem_range,Xx b hi]
 congr 3
 simp[aaq,abX,hk]
def CI (g:ai) (s:aL):List Cell:=if (⟨-1,1⟩:aA)∈s.bc then (s.aJ.foldl fO (List.replicate (g.af.length+1) ⟨0,0⟩)).set g.af.length ⟨3,0⟩ else s.aJ.foldl fO (List.replicate (g.af.length+1) ⟨0,0⟩)
theorem IU (g:ai) (s:aL):(CI g s).length=g.af.length+1:=by
 unfold CI
 split
 .rw[aca,qH];simp
 .rw[qH];simp
theorem Rg {g:ai} {s:aL} (b:(s.aJ.map cr.sym).Nodup) (f:∀ e∈s.aJ,e.sym < g.af.length) {k:Nat} (hk:k < g.af.length+1):(CI g s)[k]?=some (eE g s k):=by
 have e:=F8 s.aJ (List.replicate (g.af.length+1) ⟨0,0⟩) k b (by simpa using hk)
 have i:(List.replicate (g.af.length+1) (⟨0,0⟩:Cell)).getD k ⟨0,0⟩=⟨0,0⟩:=by simp[aaq,abX,hk]
 rw[i] at e
 rw[getD_some (d:=⟨0,0⟩) (by rw[IU];exact hk)]
 congr 1
 have j:gg s.aJ (g.af.length:Nat)=none:=Ab λh=>by
  obtain⟨x,l,h1⟩:=aaM.1 h
  have:=f x l;omega
 unfold CI eE
 split
 .rename_i hm
  rw[dZ,qH,abC]
  by_cases a:k=g.af.length
  .subst a
   rw[aaw ⟨rfl,by omega⟩,j]
   simp only
   rw[aaw ⟨trivial,hm⟩]
  .rw[aat (λh=>a h.1.symm),e]
   cases gg s.aJ k with
   | some c=>rfl
   | none=>simp only[De];rw[aat (λh=>a (by have:=h.1;omega))]
 .rename_i hm
  rw[e]
  cases gg s.aJ k with
  | some c=>rfl
  | none=>simp only[De];rw[aat (λh=>hm h.2)]
theorem Ut {g:ai} {s:aL} (a:(s.aJ.map cr.sym).Nodup) (b:∀ e∈s.aJ,e.sym < g.af.length):CI g s=(List.range (g.af.length+1)).map λ(k:Nat)=>eE g s k:=by
 refine List.ext_getElem? λk=>?_
 by_cases hk:k < g.af.length+1
 .rw[Rg a b hk,aav,abS hk];rfl
 .rw[aa1 (by rw[IU];omega),aa1 (by simp;omega)]
end
section
variable {P:Program} {T:Env} {H:View} {K:V->View->Prop} {w:cO (T,H,K)} {t t1 e ty:TypeId}
theorem OL {d x:Operand} {id off len sz bytes s:Nat} {z:List V} {es xs:List (List V)} {rd:List Nat} (he:sn P t=some (sz,bytes,z)) (hd:ev T d=.sl id off len sz) (g:bQ H (ev T x)=some (xs,rd)) (hH:H id=.arr s es) (hl:off+len<=es.length)
  (h:(xs.all λe=>e.length == sz && e.all aR)=true) (i:(xs.take len).isEmpty=false) (hk:K (iW (xs.take len).length) (H.set id (.arr sz (eL es off (xs.take len))))) :
  km P (.call { callee:=.builtin .copy,args:=#[d,x],argTypes:=#[t,t1] }) ty T H K w:=by
 obtain⟨e,ti,a,hi,b,k,j,f,c,rfl,rfl⟩:=mT he
 intro n _
 refine⟨iW (xs.take len).length,.fQ id (.arr ti.size (eL es off (xs.take len))),id :: rd,?_,hk⟩
 simp only[sI,cD,oper]
 simp[yZ,a,hd,g,cU,b,i,hH,hl,c,h]
theorem UJ {d x:Operand} {k:Nat} {sz bytes:Nat} {z:List V} {xs:List (List V)} {rd:List Nat} (he:sn P t=some (sz,bytes,z)) (hd:ev T d=.emp k) (f:bQ H (ev T x)=some (xs,rd)) (hk:K (iW 0) H) :
  km P (.call { callee:=.builtin .copy,args:=#[d,x],argTypes:=#[t,t1] }) ty T H K w:=by
 obtain⟨e,ti,a,hi,b,i,g,c,h,rfl,rfl⟩:=mT he
 intro n _
 refine⟨iW 0,.none,[],?_,hk⟩
 simp only[sI,cD,oper]
 simp[yZ,a,hd,f,cU,b]
end
theorem xe:∀ (xs A B:List (List V)),xs.length<=B.length->eL (A ++ B) A.length xs=A ++ xs ++ B.drop xs.length
 | [],A,B,_=>by simp[eL]
 | x :: r,A,[],h=>by simp at h
 | x :: r,A,b :: B,h=>by
  rw[eL,List.set_append_right _ _ (aaD _),Nat.sub_self,List.set_cons_zero]
  have:=xe r (A ++ [x]) B (by simpa using h)
  simpa using this
theorem MD {id off k m:Nat} (hm:m<=k):dO 1 (.sl id off k 1) (some (gi m)) none=some (.sl id (off+m) (k - m) 1,.none,[]):=by
 simp[dO,bound,asNat,hm]
def u64 (n:Int):V:=.val (.int .u64 n)
noncomputable def SZ:List (FuncId × DF):=CG Tryz.prog [(174,[]),(211,[])]
theorem RB:uq Tryz.prog SZ:=zR _ _
theorem W9 {n:Nat} (h:n<=16):az Tryz.prog 174 [u64 1,u64 n] (.bD [u64 0,u64 n]):=by
 have key:∀ {n:Nat},yw Tryz.prog SZ (O8 []) 174 [u64 1,u64 n]=some (.bD [u64 0,u64 n])->az Tryz.prog 174 [u64 1,u64 n] (.bD [u64 0,u64 n]):=λh =>
  (uA mixed RB (J7 (l:=[]) (by simp)) (by intro v a;simp at a;rcases a with rfl | rfl <;> exact .val _) h).pure
 have:n=0∨n=1∨n=2∨n=3∨n=4∨n=5∨n=6∨n=7∨n=8∨n=9∨n=10∨n=11∨n=12∨n=13∨n=14∨n=15∨n=16:=by omega
 rcases this with rfl | rfl | rfl | rfl | rfl | rfl | rfl | rfl | rfl | rfl | rfl | rfl | rfl | rfl | rfl | rfl | rfl <;> exact key (by kernel_rfl)
def im:SC :=
 ae [ae [ab [aa 34 8,aa 35 7,aM 36 35,aQ 37 .lss 34 36],bS 37 (.exit 0)],.block 1 (ab [aa 38 8,aa 39 7,aa 40 8,((some 41),.op (.slice 1 (.tmp 39) (some (.tmp 40)) none)),aa 42 7,aa 43 8,((some 44),.op (.slice 1 (.tmp 42) none (some (.tmp 43)))),((some 45),.op (.old (.call { callee:=.builtin .copy,args:=#[(.tmp 41),(.tmp 44)],argTypes:=#[43,43] }) 3)),aQ 46 .add 38 45,aa 8 46])]
def lu:SF:=⟨ae [ab [cT 4 1],ae [ab [aa 9 1,aF 10 .lss 9 0],bf 10 (.region false [⟨none,[((some 11),.op (.old (.makeInterface 9 (.const (.string ⟨#[99,97,110,110,111,116,32,98,101,32,110,101,103,97,116,105,118,101]⟩))) 20)),(none,.op (.old (.panic (.tmp 11)) 0))]⟩])],ab [aa 13 0,aM 14 13,((some 15),.op (.conv .u64 (.tmp 14))),aa 16 1,((some 17),.op (.conv .u64 (.tmp 16))),bm 18 174 [15,17],aa 12 18,eP 19 0 12,eP 20 1 12,aa 5 19,aa 6 20],ae [.region false [⟨none,[aa 21 5,((some 22),.op (.arith .gtr (.tmp 21) (.val (.val (.int .u64 0))))),aa 23 22]⟩,⟨(some (23,false)),[aa 24 6,((some 25),.op (.arith .gtr (.tmp 24) (.val (.val (.int .u64 9223372036854775807)))))]⟩,⟨none,[cF 26 23 25]⟩],bf 26 (.region false [⟨none,[((some 27),.op (.old (.makeInterface 9 (.const (.string ⟨#[116,104,101,32,114,101,115,117,108,116,32,111,102,32,40,108,101,110,40,120,41,32,42,32,99,111,117,110,116,41,32,111,118,101,114,102,108,111,119,115]⟩))) 20)),(none,.op (.old (.panic (.tmp 27)) 0))]⟩])],ab [aa 28 6,((some 29),.op (.conv .i64 (.tmp 28))),((some 30),.op (.make 1 8 [(.val (.int .i64 0))] (.tmp 29) (.tmp 29))),aa 7 30],ab [aa 31 7,aa 32 0,((some 33),.op (.old (.call { callee:=.builtin .copy,args:=#[(.tmp 31),(.tmp 32)],argTypes:=#[43,43] }) 3)),aa 8 33],bX 0 im,ab [aa 47 7,aa 4 47],.ret],
 [.tmp 4],48⟩
theorem qQ:aO Tryz.prog 127 []=some lu:=by kernel_rfl
theorem Pe (n:Nat) (t:n<=16) (m:Nat) (H:View) (hm:H m=.arr 1 [[gi (-1)]]):av Tryz.prog 127 [.sl m 0 1 1,gi n] H λr H'=>ba H' r 1 (bK (List.replicate n (-1)))/\dI H H' r:=by
 refine av.of mixed qQ ?_
 have hmul:=W9 t
 unfold u64 at hmul
 have i:IntKind.u64.wrap 1=1:=by decide
 have j:IntKind.u64.wrap (n:Int)=n:=by
  have:n=0∨n=1∨n=2∨n=3∨n=4∨n=5∨n=6∨n=7∨n=8∨n=9∨n=10∨n=11∨n=12∨n=13∨n=14∨n=15∨n=16:=by omega
  rcases this with rfl | rfl | rfl | rfl | rfl | rfl | rfl | rfl | rfl | rfl | rfl | rfl | rfl | rfl | rfl | rfl | rfl <;> decide
 have f:IntKind.i64.wrap (n:Int)=n:=by
  have:n=0∨n=1∨n=2∨n=3∨n=4∨n=5∨n=6∨n=7∨n=8∨n=9∨n=10∨n=11∨n=12∨n=13∨n=14∨n=15∨n=16:=by omega
  rcases this with rfl | rfl | rfl | rfl | rfl | rfl | rfl | rfl | rfl | rfl | rfl | rfl | rfl | rfl | rfl | rfl | rfl <;> decide
 simp(disch:=omega)only[↓wr,seval,wq,lu]
 refine ah.dec (λh=>absurd h (by omega)) (λ_=>?_)
 simp(disch:=omega)only[↓wr,seval,wq]
 rw[i,j]
 refine ay.pure hmul ?_
 simp(disch:=omega)only[↓wr,seval,wq,f]
 refine ah.dec (λh=>absurd h (by omega)) (λ_=>?_)
 simp(disch:=omega)only[↓wr,seval,wq,f]
 refine⟨⟨by omega,by unfold aD;omega,by unfold aD;omega⟩,λp=>?_,λp b g=>?_⟩
 .refine UJ (k:=2) (sz:=1) (bytes:=8) (z:=[gi 0]) (xs:=[[gi (-1)]]) (rd:=[m]) (by kernel_rfl) (by simp(disch:=omega)only[↓wr,seval,wq]) (by simp(disch:=omega)only[↓wr,seval,wq];simp[bQ,hm]) ?_
  simp(disch:=omega)only[↓wr,seval,wq]
  refine aS.intro (λk T H'=>H'=H/\T 7=.emp 2/\T 8=iW 0) 0 ⟨rfl,rfl,rfl⟩ ?_
  rintro k T _ ⟨rfl,t7,t8⟩
  simp(disch:=omega)only[↓wr,seval,wq,im,t7,t8]
  refine⟨?_,λid a=>⟨rfl,by simp[owner]⟩⟩
  rw[p];exact .nil
 have l:¬ m=b:=by rintro rfl;rw[hm] at g;simp at g
 refine OL (id:=b) (off:=0) (len:=n) (sz:=1) (bytes:=8) (z:=[gi 0]) (s:=1) (es:=List.replicate n [gi 0]) (xs:=[[gi (-1)]]) (rd:=[m]) (by kernel_rfl) (by simp(disch:=omega)only[↓wr,seval,wq]) (by simp(disch:=omega)only[↓wr,seval,wq];simp[bQ,View.set,l,hm]) (by simp[View.set]) (by simp) (by simp[aR]) (by obtain⟨q,rfl⟩:∃ q,n=q+1:=⟨n - 1,by omega⟩;rfl) ?_
 rw[show ([[gi (-1)]]:List (List V)).take n=List.replicate 1 [gi (-1)] by obtain⟨q,rfl⟩:∃ q,n=q+1:=⟨n - 1,by omega⟩;simp,
  show eL (List.replicate n [gi 0]) 0 (List.replicate 1 [gi (-1)])=List.replicate 1 [gi (-1)] ++ List.replicate (n - 1) [gi 0] by
   have:=xe (List.replicate 1 [gi (-1)]) [] (List.replicate n [gi 0]) (by simp;omega)
   simpa using this,abC]
 simp(disch:=omega)only[↓wr,seval,wq]
 rw[set_set]
 refine aS.intro (λk T H'=>∃ c:Nat,1<=c/\c+k=n/\H' b=.arr 1 (List.replicate c [gi (-1)] ++ List.replicate (n - c) [gi 0])/\(∀ id,H id≠.dead->H' id=H id)/\T 7=.sl b 0 n 1/\T 8=gi c) (n - 1) ⟨1,by omega,by omega,by simp[View.set],λid a=>?_,rfl,rfl⟩ ?_
 .have:¬ id=b:=by rintro rfl;exact a g
  simp[View.set,this]
 rintro k T H' ⟨c,c1,v,hH,e,t7,t8⟩
 simp(disch:=omega)only[↓wr,seval,wq,im,t7,t8]
 apply ah.dec<;>intro u
 .simp(disch:=omega)only[↓wr,seval,wq,t7,t8,MD (id:=b) (off:=0) (k:=n) (m:=c) (by omega),Mr (id:=b) (off:=0) (k:=n) (m:=c) (by omega)]
  have o:bQ H' (.sl b 0 c 1)=some (List.replicate c [gi (-1)],[b]):=by
   obtain⟨q,rfl⟩:∃ q,c=q+1:=⟨c - 1,by omega⟩
   simp only[bQ,hH]
   rw[aaw (by simp)]
   simp
  obtain⟨d,hd⟩:∃ d,d=min (n - c) c:=⟨_,rfl⟩
  refine OL (id:=b) (off:=c) (len:=n - c) (sz:=1) (bytes:=8) (z:=[gi 0]) (s:=1) (es:=List.replicate c [gi (-1)] ++ List.replicate (n - c) [gi 0]) (xs:=List.replicate c [gi (-1)]) (rd:=[b]) (by kernel_rfl) (by simp(disch:=omega)only[↓wr,seval,wq]) (by simp(disch:=omega)only[↓wr,seval,wq];exact o) hH (by simp) (by simp[aR]) ?_ ?_
  .rw[List.take_replicate,<-hd]
   obtain⟨q,hq⟩:∃ q,d=q+1:=⟨d - 1,by omega⟩
   rw[hq];rfl
  have hs:=xe (List.replicate d [gi (-1)]) (List.replicate c [gi (-1)]) (List.replicate (n - c) [gi 0]) (by simp;omega)
  rw[abC] at hs
  rw[List.take_replicate,<-hd,hs,abC]
  simp(disch:=omega)only[↓wr,seval,wq,t7,t8]
  refine⟨n - (c+d),by omega,c+d,by omega,by omega,?_,λid a=>?_,rfl⟩
  .simp[View.set,List.drop_replicate,<-List.replicate_append_replicate,show n - c - d=n - (c+d) by omega]
  .have:¬ id=b:=by rintro rfl;exact a g
   simp[View.set,this];exact e id a
 .simp(disch:=omega)only[↓wr,seval,wq,t7]
  obtain rfl:c=n:=by omega
  refine⟨.inr ⟨b,by simp,by rw[hH];simp[bK]⟩,λid a=>⟨e id a,?_⟩⟩
  simp only[owner,ne_eq,aau]
  rintro rfl;exact a g
end Gv
