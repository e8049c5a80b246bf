/-
  Part 15 of the proof: what the machine does and what the functions answer.
  Conditions: those that each lemma names.
-/
import Derived.Test.YtihmlbdfcmfbdaaGreatSGzB5N
set_option linter.unusedSimpArgs false
set_option linter.unusedVariables false
set_option maxRecDepth 100000
set_option maxHeartbeats 20000000
namespace Gv
open Go Go.Proofs
def HT:SF:=⟨ae [ab [((some 2),.op (.eF (.val (.val (.int .u32 0)))))],ae [.region false [⟨none,[aa 3 0,aF 4 .lss 3 0,aa 5 4]⟩,⟨(some (5,false)),[aa 6 0,aF 7 .geq 6 32]⟩,⟨none,[cF 8 5 7]⟩],bf 8 (ae [ab [((some 2),.op (.eF (.val (.val (.int .u32 0)))))],.ret])],ab [aa 9 0,((some 10),.op (.sh true (.val (.val (.int .u32 1))) (.tmp 9))),aa 2 10],.ret],
 [.tmp 2],11⟩
theorem KU:aO Tryz.prog 124 []=some HT:=by kernel_rfl
def I4:SF:=⟨ae [ab [bw 4 false],ab [aa 5 0,aa 6 1,bm 7 124 [6],aQ 8 .and 5 7,((some 9),.op (.arith .neq (.tmp 8) (.val (.val (.int .u32 0))))),aa 4 9],.ret],
 [.tmp 4],10⟩
theorem LQ:aO Tryz.prog 79 []=some I4:=by kernel_rfl
def yF:SC :=
 ae [ab [aQ 10 .lss 9 8],bS 10 (.exit 0),.block 1 (ae [ab [aI 11 2 7 9,aY 12 2 11,((some 6),.op (.alloc [(.val (.int .i64 0)),(.val (.int .u32 0))])),bZ 2 6 12],ab [ao 13 1 6,aj 14 13,aa 15 1,bm 16 79 [14,15]],bf 16 (ab [aa 17 4,ao 18 0 6,aj 19 18,((some 20),.op (.bW 1 1 [(.val (.int .i64 0))] [(0,(.tmp 19))])),gx 21 1 8 17 20,aa 4 21])]),ab [aF 22 .add 9 1,aa 9 22]]
def B9:SF:=⟨ae [ab [cT 4 1],ae [ab [aa 7 0,aM 8 7,aT 9 0],bX 0 yF],ab [aa 23 4,aa 4 23],.ret],
 [.tmp 4],24⟩
theorem EL:aO Tryz.prog 38 []=some B9:=by kernel_rfl
theorem Hk (n:Int):az Tryz.prog 124 [gi n] (gw (dT n)):=by
 refine az.val (by intro v b;simp at b;subst b;exact .val _) λH=>?_
 have bad:¬ (0<=n/\n<=31)->dT n=0:=λh=>by rw[dT,aat h]
 refine av.of mixed KU ?_
 simp(disch:=omega)only[↓wr,seval,wq,HT]
 apply ah.dec<;>intro h1
 .simp(disch:=omega)only[↓wr,seval,wq]
  rw[bad (by omega)];rfl
 simp(disch:=omega)only[↓wr,seval,wq]
 apply ah.dec<;>intro c
 .simp(disch:=omega)only[↓wr,seval,wq]
  rw[bad (by omega)];rfl
 simp(disch:=omega)only[↓wr,seval,wq]
 have a:(2:Nat) ^ n.toNat<=2 ^ 31:=Nat.pow_le_pow_right (by omega) (by omega)
 have e:G0 true .u32 1 n=(((dT n).toNat:Nat):Int):=by
  rw[Kg (by omega)]
  unfold G0
  rw[aaw rfl,show min n.toNat IntKind.u32.bits=n.toNat by rw[show IntKind.u32.bits=32 from rfl];omega]
  have d:((1:Int) * 2 ^ n.toNat)=((2 ^ n.toNat:Nat):Int):=by rw[Int.one_mul];push_cast;rfl
  rw[d]
  generalize (2:Nat) ^ n.toNat=z at a
  exact O0 (by omega) (by omega)
 rw[e]
 first | rfl | exact⟨by omega,rfl⟩
theorem RR (s:BV) (n:Int):az Tryz.prog 79 [gw s,gi n] (gb (hasB s n)):=by
 refine az.val (by
  intro v a;simp at a
  rcases a with rfl | rfl <;> exact .val _) λH=>?_
 refine av.of mixed LQ ?_
 simp(disch:=omega)only[↓wr,seval,wq,I4]
 refine ay.pure (Hk n) ?_
 simp(disch:=omega)only[↓wr,seval,wq,Wz]
 congr 2
 unfold hasB
 rw[abu]
 simp only[acy,ne_eq,aaE,toNat_zero]
theorem Ma {l:List cb} {i:Nat} {x:cb} (a:l[i]?=some x) (n:Int):dt (l.take (i+1)) n=if hasB x.set n=true then dt (l.take i) n ++ [x.ax] else dt (l.take i) n:=by
 unfold dt
 rw[wH a]
 split <;> simp
theorem SP (l:List cb) (i:Nat) (n:Int):(dt (l.take i) n).length<=i:=by
 unfold dt
 have:=abh (λx:cb=>hasB x.set n) (l.take i)
 simp only[aaA,abc] at this ⊢
 omega
theorem Qk (l:List cb) (hl:l.length<=10000) (n:Int):cW Tryz.prog 38 [.aE (hX l),gi n] (encI (dt l n)):=by
 refine cW.of (by
  intro v f;simp at f
  rcases f with rfl | rfl
  .exact N0 _
  .exact .val _) ?_
 refine av.of mixed EL ?_
 simp(disch:=omega)only[↓wr,seval,wq,B9,hX]
 refine aS.up l.length (λi T H'=>∃ u:V,ba H' u 1 (bK (dt (l.take i) n))/\T 1=gi n/\T 4=u/\T 7=.aE (hX l)/\T 8=gi l.length/\T 9=gi i) ⟨.emp 1,.nil,rfl,rfl,rfl,rfl,rfl⟩ ?_
 rintro i k T H hk ⟨u,b,t1,t4,t7,t8,t9⟩
 simp(disch:=omega)only[↓wr,seval,wq,yF,t1,t4,t7,t8,t9,hX]
 apply ah.dec<;>intro g
 .have d:l[i]?=some (l[i]'(by omega)):=aar (by omega)
  generalize l[i]'(by omega)=x at d
  have a:=Ma d n
  have h:=SP l i n
  simp(disch:=omega)only[↓wr,seval,wq,t1,t4,t7,t8,t9,hX,aav,d,aaz,zY]
  intro q hq
  rw[set_set]
  have c:(H.set q (.arr 2 [[gi x.ax,gw x.set]])) q=.arr 2 [[gi x.ax,gw x.set]]:=by simp[View.set]
  have b:=b.fresh (o:=.arr 2 [[gi x.ax,gw x.set]]) hq
  generalize H.set q (.arr 2 [[gi x.ax,gw x.set]])=p at c b
  refine ay.pure (RR x.set n) ?_
  simp(disch:=omega)only[↓wr,seval,wq,t1,t4,t7,t8,t9]
  apply ah.split<;>intro he
  .simp(disch:=omega)only[↓wr,seval,wq,t1,t4,c]
   intro r e
   simp(disch:=omega)only[↓wr,seval,wq,bM]
   refine gO (b.fresh e) (by simp[aR]) (by unfold aD;simp;omega) (by unfold aD;simp;omega) ?_
   intro j s m _
   simp(disch:=omega)only[↓wr,seval,wq,t1,t7,t8,t9]
   rw[aaw he] at a
   exact aC hk (by omega) ⟨j,by rw[a];simpa using m,t1,rfl,t7,t8,rfl⟩
  .simp(disch:=omega)only[↓wr,seval,wq,t1,t4,t7,t8,t9]
   rw[aat (by rw[he];simp)] at a
   exact aC hk (by omega) ⟨u,by rw[a];exact b,t1,t4,t7,t8,rfl⟩
 .rw[aaJ (by omega)] at b
  simp(disch:=omega)only[↓wr,seval,wq,t4]
  rintro t rfl
  exact kK b
def iu:SC :=
 ae [ab [aQ 9 .lss 8 7],bS 9 (.exit 0),.block 1 (ae [ab [aa 10 8,aa 5 10],ab [aY 11 2 3,aa 12 0,aa 13 5,aI 14 2 12 13,aY 15 2 14,((some 16),.op (.old (.binOp .eql 33 (.tmp 11) (.tmp 15) 33) 4))],bf 16 (ae [ab [aa 17 5,aa 4 17],.ret])]),ab [aF 18 .add 8 1,aa 8 18]]
def iT:SF:=⟨ae [ab [cy 3 1,aT 4 0],ae [ab [aa 6 0,aM 7 6,aT 8 0],bX 0 iu],ab [aT 4 (-1)],.ret],
 [.tmp 4],19⟩
theorem lQ:aO Tryz.prog 175 [3]=some iT:=by kernel_rfl
def ia:SF:=⟨ae [ab [cy 3 1,bw 4 false],ab [aa 5 0,aY 6 2 3,bm 7 175 [5,6],aF 8 .geq 7 0,aa 4 8],.ret],
 [.tmp 4],9⟩
theorem kH:aO Tryz.prog 128 [3]=some ia:=by kernel_rfl
def wj:List aA->aA->Int->Int
 | [],_,_=>-1
 | y :: l,x,i=>if x=y then i else wj l x (i+1)
theorem IE:∀ (l:List aA) (x:aA) (i:Int),0<=i->(0<=wj l x i↔x∈l)
 | [],x,i,_=>by simp[wj]
 | y :: l,x,i,h=>by
  rw[wj]
  split
  .rename_i e;subst e;simp[h]
  .rename_i e;rw[IE l x (i+1) (by omega)];simp[e]
theorem Pq (l:List aA) (hl:aK l) (x:aA):az Tryz.prog 175 [.aE (aV l),.agg [gi x.ax,gi x.dot]] (gi (wj l x 0)):=by
 unfold aK at hl
 refine az.val (by
  intro v a;simp at a
  rcases a with rfl | rfl
  .exact uG l
  .exact cn _ λv a=>by simp at a;rcases a with rfl | rfl <;> exact .val _) λH=>?_
 refine av.of mixed lQ ?_
 simp(disch:=omega)only[↓wr,seval,wq,iT,bI]
 refine aS.up l.length (λi T H'=>T 0=.aE (aV l)/\T 3=.aH [gi x.ax,gi x.dot] 0/\T 7=gi l.length/\T 8=gi i/\wj l x 0=wj (l.drop i) x i) ⟨rfl,rfl,rfl,rfl,by simp⟩ ?_
 rintro i k T H' hk ⟨t0,t3,t7,t8,hi⟩
 simp(disch:=omega)only[↓wr,seval,wq,iu,t0,t3,t7,t8]
 apply ah.dec<;>intro c
 .have b:l[i]?=some (l[i]'(by omega)):=aar (by omega)
  rw[abg (by omega:i < l.length),wj] at hi
  generalize l[i]'(by omega)=y at b hi
  simp(disch:=omega)only[↓wr,seval,wq,t0,t3,t7,t8,aV,aav,b,aaz,bF]
  refine iy (xs:=#[.int .i64 x.ax,.int .i64 x.dot]) (ys:=#[.int .i64 y.ax,.int .i64 y.dot]) Tryz.underlying33 (by kernel_rfl) (by kernel_rfl) ?_ ?_ (mO x y) (.inl ⟨rfl,rfl⟩) ?_
  .rfl
  .rfl
  rw[vf]
  simp(disch:=omega)only[↓wr,seval,wq]
  apply ah.dec<;>intro e
  .simp(disch:=omega)only[↓wr,seval,wq]
   rw[aaw e] at hi
   rw[hi]
  .simp(disch:=omega)only[↓wr,seval,wq,t0,t3,t7,t8]
   rw[aat e] at hi
   exact aC hk (by omega) ⟨t0,t3,t7,rfl,hi⟩
 .simp(disch:=omega)only[↓wr,seval,wq]
  rw[hi,aaV (by omega)]
  rfl
theorem Jd (l:List aA) (hl:aK l) (x:aA):az Tryz.prog 128 [.aE (aV l),.agg [gi x.ax,gi x.dot]] (gb (decide (x∈l))):=by
 refine az.val (by
  intro v a;simp at a
  rcases a with rfl | rfl
  .exact uG l
  .exact cn _ λv a=>by simp at a;rcases a with rfl | rfl <;> exact .val _) λH=>?_
 refine av.of mixed kH ?_
 simp(disch:=omega)only[↓wr,seval,wq,ia]
 refine ay.pure (Pq l hl x) ?_
 simp(disch:=omega)only[↓wr,seval,wq]
 congr 2
 rw[abu]
 simp only[aaE,ge_iff_le]
 exact IE l x 0 (Int.le_refl _)
def nF:SC :=
 ae [ab [aQ 35 .lss 34 33],bS 35 (.exit 0),.block 1 (ae [ab [aI 36 2 32 34,aY 37 2 36,((some 11),.op (.alloc [(.val (.int .i64 0)),(.val (.int .i64 0))])),bZ 2 11 37],ab [ao 38 0 11,aj 39 38,aF 40 .lss 39 0],.cond (.tmp 40) (ab [aa 41 9,ao 42 0 11,aj 43 42,((some 44),.op (.arith .sub (.val (.val (.int .i64 (-1)))) (.tmp 43))),ao 45 1 11,aj 46 45,aI 47 1 41 44,bZ 1 47 46]) (ab [aa 48 8,ao 49 0 11,aj 50 49,ao 51 1 11,aj 52 51,((some 53),.op (.build [(.val (.int .i64 0)),(.val (.int .i64 0))] [(0,1,(.val (.val (.int .i64 1)))),(1,1,(.tmp 52))])),aI 54 2 48 50,bZ 2 54 53])]),ab [aF 55 .add 34 1,aa 34 55]]
def nH:SC :=
 ae [ab [aQ 75 .lss 74 73],bS 75 (.exit 2),.block 3 (ae [ab [aa 76 74,aI 77 2 72 74,aY 78 2 77,((some 14),.op (.alloc [(.val (.int .i64 0)),(.val (.int .i64 0))])),aa 13 76,bZ 2 14 78],ab [aa 79 12,aa 80 13,aa 81 0,aa 82 1,aa 83 13,aa 84 3,aa 85 13,((some 86),.yR (.val (.fn 38 [] [])) [(.tmp 84),(.tmp 85)]),aY 87 2 14,bm 88 129 [81,82,83,86,87],aI 89 2 79 80,bZ 2 89 88]]),ab [aF 90 .add 74 1,aa 74 90]]
def pc:SF:=⟨ae [ab [cy 6 2],ab [aa 15 0,cR 16 15,ao 17 0 16,ao 18 0 17,aj 19 18,aM 20 19,aF 21 .add 20 1,((some 22),.op (.make 2 16 [(.val (.int .i64 0)),(.val (.int .i64 0))] (.tmp 21) (.tmp 21))),aa 8 22],ab [((some 23),.op (.bW 1 1 [(.val (.int .i64 0))] [(0,(.val (.val (.int .i64 (-1)))))])),aa 24 0,cR 25 24,ao 26 0 25,ao 27 1 26,aj 28 27,aM 29 28,bm 30 127 [23,29],aa 9 30],ae [ab [ao 31 1 6,aj 32 31,aM 33 32,aT 34 0],bX 0 nF],ae [ab [ao 56 0 6,aj 57 56,((some 58),.op (.build [(.val (.int .i64 0)),(.val (.int .i64 0))] [(0,1,(.val (.val (.int .i64 (-1))))),(1,1,(.val (.val (.int .i64 1))))])),bm 59 128 [57,58]],bf 59 (ab [aa 60 8,aa 61 0,cR 62 61,ao 63 0 62,ao 64 0 63,aj 65 64,aM 66 65,((some 67),.op (.build [(.val (.int .i64 0)),(.val (.int .i64 0))] [(0,1,(.val (.val (.int .i64 3))))])),aI 68 2 60 66,bZ 2 68 67])],ab [aa 69 8,aM 70 69,((some 71),.op (.make 2 16 [(.val (.int .i64 0)),(.val (.int .i64 0))] (.tmp 70) (.tmp 70))),aa 12 71],ae [ab [aa 72 8,aM 73 72,aT 74 0],bX 2 nH],.pv [(104,97)] [⟨none,[aa 91 0,aa 92 0,aa 93 0,cR 94 93,ao 95 4 94,ao 96 0 95,aj 97 96,aa 98 12,((some 99),.op (.bW 1 1 [(.emp 1)] [(0,(.tmp 98))])),gx 100 1 24 97 99,aa 101 0,cR 102 101,ao 103 4 102,ao 104 1 103,aj 105 104,aa 106 9,((some 107),.op (.bW 1 1 [(.emp 1)] [(0,(.tmp 106))])),gx 108 1 24 105 107,cR 109 91,ao 110 4 109,ao 111 0 110,bZ 1 111 100,cR 112 92,ao 113 4 112,ao 114 1 113,bZ 1 114 108]⟩]],
 [],115⟩
theorem uN:aO Tryz.prog 85 [6,100000,200086]=some pc:=by kernel_rfl
theorem XJ (l:List cr):(fN l).length=l.length:=by simp[fN]
abbrev fM (l:List Cell):List (List V):=l.map λc=>[gi c.kind,gi c.n]
def Zh (g:ai) (a:List aL) (b i:Nat) (s:aL) (l:List cb) (C:List jH) (ua ug:V) (nk m n:Nat) (BB:List cx) (j:Nat) (T:Env) (H:View):Prop:=∃ uc,bk H ((.sl n 0 (g.af.length+1) 2,2,fM (fX g s l i j ++ List.replicate (g.af.length+1 - j) ⟨0,0⟩)) :: (.sl m 0 (g.af.length+1) 2,2,fM ((List.range (g.af.length+1)).map λ(k:Nat)=>eE g s k)) :: (uc,5,jX (C ++ tA g s l i j)) ::
 (.sl b 0 1 7,7,[eN g ua ug uc]) :: (.sl nk 0 g.ak.length 1,1,bK (rL g a i)) :: BB)/\T 0=.ptr b 0 0/\T 1=gi i/\T 3=.aE (hX l)/\T 9=.sl nk 0 g.ak.length 1/\T 12=.sl n 0 (g.af.length+1) 2/\T 72=.sl m 0 (g.af.length+1) 2/\T 73=gi ((g.af.length+1:Nat))/\T 74=gi j
theorem QB {α:Type} {n m u b:α} {L:List α} : (n :: m :: u :: b :: L).Perm (u :: b :: n :: m :: L):=(List.perm_append_comm (l₁:=[n,m]) (l₂:=[u,b])).append_right L
theorem WU {α:Type} {b g a n u k:α} {C I:List α} : (b :: g :: a :: n :: u :: k :: (C ++ I)).Perm (u :: b :: a :: g :: ((C ++ [n]) ++ (I ++ [k]))) :=
 (aba (a:=u) (l₁:=[b,g,a,n])).trans (.cons u (.cons b ((List.Perm.swap _ _ _).trans (.cons a (.cons g ((List.Perm.swap _ _ _).trans YI))))))
theorem Wx {α:Type} {k u b:α} {L:List α} : (k :: u :: b :: L).Perm (u :: b :: k :: L):=(aba (l₁:=[u,b])).symm
theorem zi (l:List Cell) (k:Nat) (c:Cell):fM (l.set k c)=(fM l).set k [gi c.kind,gi c.n]:=abR
theorem Sn (g:ai) (hg:g.Ok) (b2:g.Small) (hr:bC g=true) (a:List aL) (hO:mX g a) (i:Nat) (hi:i < a.length) (S:((a.getD i aN).aJ.map cr.sym).Nodup) (a1:∀ e∈(a.getD i aN).aJ,fP g e.sym=true) (b3:aK (a.getD i aN).bc) (l:List cb) (hl:l.length<=10000)
  (X Y B:V) (A:Jl) (G:Pd) (C:List jH) (c9:A.length<=300) (da:G.length<=300) (hC:C.length<=75000000) (b:Nat) (L:List cx) (H:View)
  (p:bk H ((B,5,jX C) :: (.sl b 0 1 7,7,[eN g X Y B]) :: (X,1,bt A) :: (Y,1,bt G) :: (zf A ++ zP G ++ L))) :
  av Tryz.prog 85 [.ptr b 0 0,gi i,.agg (eu (a.getD i aN)),.aE (hX l)] H λ_ H'=>∃ a6 a7 a8 ur uk,
   bk H' ((a8,5,jX (C ++ tA g (a.getD i aN) l i (g.af.length+1))) :: (.sl b 0 1 7,7,[eN g a6 a7 a8]) :: (a6,1,bt (A ++ [(ur,fX g (a.getD i aN) l i (g.af.length+1))])) :: (a7,1,bt (G ++ [(uk,rL g a i)])) ::
    (zf (A ++ [(ur,fX g (a.getD i aN) l i (g.af.length+1))]) ++ zP (G ++ [(uk,rL g a i)]) ++ L)):=by
 have hf:=bu hr
 have hT:=hf.af;have hN:=hf.ak;have db:=hf.p7
 have Z:a[i]?=some (a.getD i aN):=getD_some hi
 have dc:=hO.aJ _ (aax Z)
 have b4:=hO.to _ (aax Z)
 clear Z
 have D:=Zc (g:=g) hO hi S
 have bb:∀ e∈(a.getD i aN).aJ,e.sym < g.af.length:=λe he=>by
  have:=a1 e he
  unfold fP at this
  split at this
  .simpa using this
  .omega
 have h:=Ut S bb
 have O:=p.is 1 rfl (by simp)
 refine av.of mixed uN ?_
 generalize (a.getD i aN)=s at *
 generalize b5:((X,1,bt A) :: (Y,1,bt G) :: (zf A ++ zP G ++ L):List cx)=BB at p
 simp(disch:=omega)only[↓wr,seval,wq,pc,eu,O,eN]
 refine⟨⟨by omega,by unfold aD;omega,by unfold aD;omega⟩,λhz=>absurd hz (by omega),λ_ m hm=>?_⟩
 rw[show ((g.af.length:Int)+1).toNat=g.af.length+1 by omega]
 have b7:¬ b=m:=by rintro rfl;rw[O] at hm;simp at hm
 intro q hq
 obtain⟨P,hq⟩:=df hq c7
 have b8:¬ b=q:=by rintro rfl;rw[O] at hq;simp at hq
 have f:=(p.new hm 2 (fM (List.replicate (g.af.length+1) ⟨0,0⟩))).fresh (n:=q) (o:=.arr 1 [[gi (-1)]]) (by simp[View.set,P,hq])
 rw[show fM (List.replicate (g.af.length+1) ⟨0,0⟩)=List.replicate (g.af.length+1) [gi 0,gi 0] by simp[fM]] at f
 simp(disch:=omega)only[↓wr,seval,wq,b8,b7]
 have E:((H.set m (.arr 2 (List.replicate (g.af.length+1) [gi 0,gi 0]))).set q (.arr 1 [[gi (-1)]])) q=.arr 1 [[gi (-1)]]:=by simp[View.set]
 generalize ((H.set m (.arr 2 (List.replicate (g.af.length+1) [gi 0,gi 0]))).set q (.arr 1 [[gi (-1)]]))=H2 at f E ⊢
 refine ay.dr ((Pe g.ak.length (by omega) q H2 E).mono ?_)
 rintro uk H3 ⟨bd,bl⟩
 have N:=f.Ka bd bl
 rw[show List.replicate (g.af.length+1) [gi 0,gi 0]=fM (s.aJ.take 0 |>.foldl fO (List.replicate (g.af.length+1) ⟨0,0⟩)) by simp[fM],show List.replicate g.ak.length (-1)=(s.aJ.take 0).foldl jb (List.replicate g.ak.length (-1)) from rfl] at N
 clear O p f bd bl hm hq E
 generalize bn:List.replicate (g.af.length+1) (⟨0,0⟩:Cell)=z at N
 have bq:z.length=g.af.length+1:=by rw[<-bn];simp
 generalize b9:List.replicate g.ak.length (-1:Int)=zg at N D
 have F:zg.length=g.ak.length:=by rw[<-b9];simp
 obtain⟨nk,br,_⟩:=(N.own 0 rfl).sl (by simp[bK,F];omega)
 rw[show (bK ((s.aJ.take 0).foldl jb zg)).length=g.ak.length by simp[bK,F]] at br
 rw[show (fM ((s.aJ.take 0).foldl fO z)).length=g.af.length+1 by simp[bq]] at N
 subst br
 simp(disch:=omega)only[↓wr,seval,wq,XJ]
 refine aS.up s.aJ.length (λj T H'=>bk H' ((.sl nk 0 g.ak.length 1,1,bK ((s.aJ.take j).foldl jb zg)) :: (.sl m 0 (g.af.length+1) 2,2,fM ((s.aJ.take j).foldl fO z)) :: (B,5,jX C) :: (.sl b 0 1 7,7,[eN g X Y B]) :: BB) /\
  T 0=.ptr b 0 0/\T 1=gi i/\T 3=.aE (hX l)/\T 6=.aH (eu s) 0/\T 8=.sl m 0 (g.af.length+1) 2/\T 9=.sl nk 0 g.ak.length 1/\T 32=.aE (fN s.aJ)/\T 33=gi s.aJ.length/\T 34=gi j) ⟨N,rfl,rfl,rfl,rfl,rfl,rfl,rfl,rfl,rfl⟩ ?_
 clear N
 rintro j k T H4 hk ⟨p,t0,t1,t3,t6,t8,t9,t32,t33,t34⟩
 simp(disch:=omega)only[↓wr,seval,wq,nF,t0,t1,t3,t6,t8,t9,t32,t33,t34]
 have I:∀ j:Nat,((s.aJ.take j).foldl jb zg).length=g.ak.length:=λj=>by rw[y8];exact F
 have t:∀ j:Nat,((s.aJ.take j).foldl fO z).length=g.af.length+1:=λj=>by rw[qH];exact bq
 have hK:=p.is 0 rfl (by simp[bK,I];omega)
 have U:=p.is 1 rfl (by simp[t])
 apply ah.dec<;>intro hc
 .have hy:s.aJ[j]?=some (s.aJ[j]'(by omega)):=aar (by omega)
  have Q:=aaC (show j < s.aJ.length by omega)
  have an:s.aJ.take (j+1)=s.aJ.take j ++ [s.aJ[j]'(by omega)]:=by rw[aaQ,hy];rfl
  generalize s.aJ[j]'(by omega)=y at hy Q an
  have u:=a1 y Q;have dj:=b4 y Q
  have J:(s.aJ.take (j+1)).foldl jb zg=jb ((s.aJ.take j).foldl jb zg) y:=by rw[an,abe];rfl
  have K:(s.aJ.take (j+1)).foldl fO z=fO ((s.aJ.take j).foldl fO z) y:=by rw[an,abe];rfl
  have l1:=I j;have l2:=t j
  generalize (s.aJ.take j).foldl jb zg=w at *
  generalize (s.aJ.take j).foldl fO z=r at *
  rw[jb] at J
  rw[fO] at K
  have ca : -1000<=y.sym/\y.sym<=1000:=by
   unfold fP at u
   split at u <;> simp at u <;> omega
  simp(disch:=omega)only[↓wr,seval,wq,t0,t1,t3,t6,t8,t9,t32,t33,t34,fN,aav,hy,aaz,kc]
  intro q hq
  have bs:¬ nk=q:=by rintro rfl;rw[hK] at hq;simp at hq
  have P:¬ m=q:=by rintro rfl;rw[U] at hq;simp at hq
  have W:=p.fresh hq (o:=.arr 2 [[gi y.sym,gi y.to]])
  apply ah.dec<;>intro M
  .rw[aaw M] at J K
   have cc:(-1 - y.sym).toNat < g.ak.length:=by
    unfold fP at u
    rw[aat (by omega)] at u
    simp at u;omega
   have x:(bK w).getD (-1 - y.sym).toNat []=[gi (w.getD (-1 - y.sym).toNat 0)]:=by rw[bK,aaq,aav,getD_some (d:=0) (show (-1 - y.sym).toNat < w.length by omega)];rfl
   simp(disch:=omega)only[↓wr,seval,wq,t0,t1,t3,t6,t8,t9,t32,t33,t34,bs,P,hK,U,x]
   refine⟨by omega,by omega,aC hk (by omega) ⟨?_,t0,t1,t3,t6,t8,t9,t32,t33,rfl⟩⟩
   have f:=W.put (es':=bK (w.set (-1 - y.sym).toNat y.to)) (by simp[bK]) (by simp[bK,l1])
   rw[set_set,J,K]
   rw[show bK (w.set (-1 - y.sym).toNat y.to)=(bK w).set (-1 - y.sym).toNat [gi y.to] from abR] at f ⊢
   exact f
  .rw[aat M] at J K
   have cc:=bb y Q
   have x:(fM r).getD y.sym.toNat []=[gi (r.getD y.sym.toNat ⟨0,0⟩).kind,gi (r.getD y.sym.toNat ⟨0,0⟩).n]:=by rw[aaq,aav,getD_some (d:=⟨0,0⟩) (show y.sym.toNat < r.length by omega)];rfl
   simp(disch:=omega)only[↓wr,seval,wq,t0,t1,t3,t6,t8,t9,t32,t33,t34,bs,P,hK,U,x]
   refine⟨by omega,by omega,aC hk (by omega) ⟨?_,t0,t1,t3,t6,t8,t9,t32,t33,rfl⟩⟩
   have f:=((W.perm (.swap _ _ _)).put (es':=fM (r.set y.sym.toNat ⟨1,y.to⟩)) (by simp) (by simp[l2])).perm (.swap _ _ _)
   rw[set_set,J,K]
   rw[show fM (r.set y.sym.toNat ⟨1,y.to⟩)=(fM r).set y.sym.toNat [gi 1,gi y.to] from abR] at f ⊢
   exact f
 .rw[aaJ (by omega),D] at p
  have l2:=t s.aJ.length
  rw[List.take_length] at l2
  rw[aaJ (by omega)] at U
  simp(disch:=omega)only[↓wr,seval,wq,t0,t1,t3,t6,t8,t9,eu]
  refine ay.pure (Jd s.bc b3 ⟨-1,1⟩) ?_
  have O:=p.is 3 rfl (by simp)
  simp(disch:=omega)only[↓wr,seval,wq]
  have e0:fM (fX g s l i 0 ++ List.replicate (g.af.length+1 - 0) ⟨0,0⟩)=List.replicate (g.af.length+1) [gi 0,gi 0]:=by simp[fX,fM]
  have e1:tA g s l i 0=[]:=rfl
  unfold CI at h
  rw[bn] at h
  have x:(fM (s.aJ.foldl fO z)).getD g.af.length []=[gi ((s.aJ.foldl fO z).getD g.af.length ⟨0,0⟩).kind,gi ((s.aJ.foldl fO z).getD g.af.length ⟨0,0⟩).n]:=by rw[aaq,aav,getD_some (d:=⟨0,0⟩) (show g.af.length < (s.aJ.foldl fO z).length by omega)];rfl
  apply ah.dec<;>intro hm
  focus
   rw[aaw hm] at h
   simp(disch:=omega)only[↓wr,seval,wq,t0,t8,O,eN,U,x]
   refine⟨by omega,by omega,?_⟩
   have W:=((p.perm (.swap _ _ _)).put (es':=fM ((s.aJ.foldl fO z).set g.af.length ⟨3,0⟩)) (by simp) (by simp[l2]))
   rw[zi] at W
   refine⟨⟨by omega,by unfold aD;omega,by unfold aD;omega⟩,λn S=>?_⟩
   have f:=W.new (n:=n) (by simpa [View.set] using S) 2 (List.replicate (g.af.length+1) [gi 0,gi 0])
   rw[abC] at f
   refine aS.up (g.af.length+1) (Zh g a b i s l C X Y nk m n BB) ⟨B,?_,t0,t1,t3,t9,rfl,rfl,rfl,rfl⟩ ?_
   .rw[e0,e1,abI,<-h,zi]
    exact f.perm (.cons _ (.cons _ Wx))
   clear W f S
  rotate_left
  focus
   rw[aat hm] at h
   simp(disch:=omega)only[↓wr,seval,wq,t0,t8]
   refine⟨⟨by omega,by unfold aD;omega,by unfold aD;omega⟩,λn S=>?_⟩
   have f:=(p.perm (.swap _ _ _)).new S 2 (List.replicate (g.af.length+1) [gi 0,gi 0])
   rw[abC] at f
   refine aS.up (g.af.length+1) (Zh g a b i s l C X Y nk m n BB) ⟨B,?_,t0,t1,t3,t9,rfl,rfl,rfl,rfl⟩ ?_
   .rw[e0,e1,abI,<-h]
    exact f.perm (.cons _ (.cons _ Wx))
   clear f S
  all_goals (
   clear p t0 t1 t3 t6 t8 t9 t32 t33 t34 O U I t hK x l2 h D e0 e1 B
   rintro j k T H5 hk ⟨B,p,t0,t1,t3,t9,t12,t72,t73,t74⟩
   simp(disch:=omega)only[↓wr,seval,wq,nH,t0,t1,t3,t9,t12,t72,t73,t74]
   apply ah.dec<;>intro hc
   .have U:=p.is 1 rfl (by simp)
    have cg:(fM ((List.range (g.af.length+1)).map λ(k:Nat)=>eE g s k)).getD j []=[gi (eE g s j).kind,gi (eE g s j).n]:=by
     rw[aaq,aav,aav,abS (by omega)];rfl
    have ch:=R4 g s l i j
    have aq:=Qo g s l i j
    have ar:=BN g s l i j
    have dm:=DV (g:=g) (s:=s) (st:=i) hl j
    have R:(fX g s l i j).length=j:=by simp[fX]
    simp(disch:=omega)only[↓wr,seval,wq,t0,t1,t3,t9,t12,t72,t73,t74,U,cg]
    have ds:=tY l (j:Int)
    refine⟨by omega,by simp;omega,λq hq=>?_⟩
    refine ay.pure (Qk l hl j).pure ?_
    rw[set_set]
    have W:=(p.fresh hq (o:=.arr 2 [[gi (eE g s j).kind,gi (eE g s j).n]])).perm QB
    simp(disch:=omega)only[↓wr,seval,wq]
    refine ay.dr ((UB g hg b2 X Y B _ b _ _ W (by rw[abd];omega) i j (dt l j) (by omega) (eE g s j)).mono ?_)
    rintro v H7 ⟨rfl,cj,f⟩
    rw[<-ch] at f ⊢
    generalize eV g s l i j=ce at f aq ar ⊢
    obtain⟨c,cf⟩:=ce
    simp only at f aq ar ⊢
    have ck:=f.is 2 rfl (by simp;omega)
    have bx:List.replicate (g.af.length+1 - j) (⟨0,0⟩:Cell)=⟨0,0⟩ :: List.replicate (g.af.length+1 - (j+1)) ⟨0,0⟩:=by rw[<-List.replicate_succ];congr 1;omega
    have cu:(fX g s l i j ++ List.replicate (g.af.length+1 - j) (⟨0,0⟩:Cell)).set j c=fX g s l i (j+1) ++ List.replicate (g.af.length+1 - (j+1)) ⟨0,0⟩:=by
     rw[aq,bx,List.set_append_right _ _ (by omega),R,Nat.sub_self,List.set_cons_zero,aa6];rfl
    have cv:(fM (fX g s l i j ++ List.replicate (g.af.length+1 - j) ⟨0,0⟩)).getD j []=[gi 0,gi 0]:=by
     rw[bx,aaq,aav,aa7 (by omega),R,Nat.sub_self];rfl
    have cA:(fX g s l i j ++ List.replicate (g.af.length+1 - j) (⟨0,0⟩:Cell)).length=g.af.length+1:=by simp[R];omega
    simp(disch:=omega)only[↓wr,seval,wq,t0,t1,t3,t9,t12,t72,t73,t74,ck,cv]
    refine⟨by omega,by omega,aC hk (by omega) ⟨cj,?_,t0,t1,t3,t9,t12,t72,t73,rfl⟩⟩
    have N:=((f.perm QB).put (es':=fM ((fX g s l i j ++ List.replicate (g.af.length+1 - j) (⟨0,0⟩:Cell)).set j c)) (by simp) (by rw[aaA];exact cA.symm))
    rw[ar,<-cu,<-aa6]
    rw[zi] at N ⊢
    exact N
   .obtain rfl:j=g.af.length+1:=by omega
    rw[Nat.sub_self,List.replicate_zero,abI] at p
    have R:(fX g s l i (g.af.length+1)).length=g.af.length+1:=by simp[fX]
    subst b5
    have O:=p.is 3 rfl (by simp)
    simp(disch:=omega)only[↓wr,seval,wq,t0,t1,t3,t9,t12,O,eN]
    intro q hq
    simp(disch:=omega)only[↓wr,seval,wq,bM,t0,t1,t3,t9,t12]
    have o4:=(p.fresh (o:=.arr 1 [[.sl n 0 (g.af.length+1) 2]]) hq).at 5 (by simp)
    refine ct o4 (by simp[aR]) (by unfold aD;simp[bt];omega) (by unfold aD;simp[bt];omega) ?_
    intro b0 H6 o5 _
    simp only[aa8,aa4,abz,abA] at o5
    have cC:=o5.is 4 rfl (by simp)
    simp(disch:=omega)only[↓wr,seval,wq,t0,t1,t3,t9,t12,cC,eN]
    intro q2 E
    simp(disch:=omega)only[↓wr,seval,wq,bM,t0,t1,t3,t9,t12]
    have o6:=(o5.fresh (o:=.arr 1 [[.sl nk 0 g.ak.length 1]]) E).at 6 (by simp)
    refine ct o6 (by simp[aR]) (by unfold aD;simp[bt];omega) (by unfold aD;simp[bt];omega) ?_
    intro b1 H7 o7 _
    simp only[aa8,aa4,abz,abA] at o7
    have cN:=o7.is 5 rfl (by simp)
    have cS:=(o7.own 1 rfl).cells
    have cV:=(o7.own 1 rfl).iO
    have c3:=(o7.own 0 rfl).cells
    have c5:=(o7.own 0 rfl).iO
    simp(disch:=omega)only[↓wr,seval,wq,t0,t1,t3,t9,t12,cN,cS,cV,c3,c5,eN]
    refine⟨XC (p.own 5 rfl) ((p.at 3 (by simp)).off rfl _ (aax (i:=4) rfl)),?_⟩
    rw[set_set]
    refine⟨b0,b1,B,.sl n 0 (g.af.length+1) 2,.sl nk 0 g.ak.length 1,?_⟩
    have o8:=(((o7.at 5 (by simp)).put (es':=[eN g b0 b1 B]) rfl rfl).at 4 (by simp)).tail
    simp only[aa8,aa4,abz,abA] at o8
    simp only[bt,zf,zP,aaS,aaW,ab3]
    exact o8.perm (WU.append_right L))
abbrev fI:Int:=1073741824
inductive kb (E:Nat->List Nat):Nat->Nat->Prop
 | refl {x:Nat} : kb E x x
 | step {x y z:Nat} : y∈E x->kb E y z->kb E x z
theorem kb.trans {E:Nat->List Nat} {x y z:Nat} (h:kb E x y) (k:kb E y z):kb E x z:=by
 induction h with
 | refl=>exact k
 | step h1 _ a=>exact .step h1 (a k)
def nt (E:Nat->List Nat) (S0:Nat->BV) (z t:Nat):Prop:=∃ w,kb E z w/\(S0 w).getLsbD t=true
theorem nt.up {E:Nat->List Nat} {S0:Nat->BV} {x y t:Nat} (h:nt E S0 y t) (k:kb E x y):nt E S0 x t:=by
 obtain⟨w,h1,a⟩:=h
 exact⟨w,k.trans h1,a⟩
def kx {α:Type} (f:Nat->α) (x:Nat) (v:α):Nat->α:=λz=>if z=x then v else f z
theorem fw {α:Type} {f:Nat->α} {x:Nat} {v:α} : kx f x v x=v:=by simp[kx]
theorem ow {α:Type} {f:Nat->α} {x z:Nat} {v:α} (h:z≠x):kx f x v z=f z:=by simp[kx,h]
structure qh (n:Nat) (E:Nat->List Nat) (S0:Nat->BV) (D:Nat->Int) (St:List Nat) (S:Nat->BV):Prop where
 nd:St.Nodup
 lt:∀ z∈St,z < n
 zero:∀ z,z < n->D z=0->S z=S0 z/\z ∉ St
 IJ:∀ z,z < n->D z=fI->z ∉ St/\(∀ t,nt E S0 z t->(S z).getLsbD t=true)/\∀ y∈E z,D y=fI
 on:∀ z,z < n->D z≠0->D z≠fI->∃ p:Nat,St[p]?=some z/\1<=D z/\D z<=(p:Int)+1/\∃ w,St[(D z - 1).toNat]?=some w/\kb E z w
 sound:∀ z t,z < n->(S z).getLsbD t=true->nt E S0 z t
 base:∀ z,z < n->iL (S0 z) (S z)
def NH (D:Nat->Int) (St:List Nat) (S:Nat->BV) (z y:Nat):Prop:=(D y=fI/\iL (S y) (S z))∨∃ q:Nat,St[q]?=some y/\D z<=(q:Int)+1
def Pk (E:Nat->List Nat) (D:Nat->Int) (St:List Nat) (S:Nat->BV) (z:Nat):Prop:=(∃ p:Nat,St[p]?=some z/\D z < (p:Int)+1)/\∀ y∈E z,NH D St S z y
def AY (n:Nat) (E:Nat->List Nat) (S0:Nat->BV) (D:Nat->Int) (St:List Nat) (S:Nat->BV) (x:Nat) (D':Nat->Int) (St':List Nat) (S':Nat->BV):Prop :=
 qh n E S0 D' St' S'/\(∀ z,D z≠0->D' z=D z/\S' z=S z)/\((St'=St/\D' x=fI)∨∃ T,St'=St ++ x :: T/\D' x<=St.length/\∀ z∈x :: T,Pk E D' St' S' z/\D' x<=D' z/\iL (S' z) (S' x))
structure iz (n:Nat) (E:Nat->List Nat) (S0:Nat->BV) (D0:Nat->Int) (St:List Nat) (S1:Nat->BV) (x:Nat) (done:List Nat) (D:Nat->Int) (T:List Nat) (S:Nat->BV):Prop where
 g:qh n E S0 D (St ++ x :: T) S
 old:∀ z,D0 z≠0->D z=D0 z/\S z=S1 z
 own:1<=D x/\D x<=(St.length:Int)+1
 fin:∀ z∈T,Pk E D (St ++ x :: T) S z/\D x<=D z/\iL (S z) (S x)
 Ug:∀ y∈done,NH D (St ++ x :: T) S x y
section
variable {n:Nat} {E:Nat->List Nat} {S0:Nat->BV} {D0 D:Nat->Int} {St T:List Nat} {S1 S:Nat->BV} {x:Nat} {done:List Nat}
theorem FT (h:St.Nodup) (k:∀ z∈St,z < n):St.length<=n:=by
 have:∀ (l r:List Nat),l.Nodup->(∀ z∈l,z∈r)->l.length<=r.length:=by
  intro l
  induction l with
  | nil=>intro r _ _;simp
  | cons a l d =>
   intro r c hs
   rw[abo] at c
   obtain⟨e,f,rfl⟩:=List.append_of_mem (hs a (by simp))
   have:=d (e ++ f) c.2 λz b=>by
    have h1:=hs z (by simp[b])
    rw[aaZ,aaI] at h1
    rw[aaZ]
    rcases h1 with h1 | h1 | h1
    .exact .inl h1
    .exact absurd (h1 ▸ b) c.1
    .exact .inr h1
   simp only[abd,aaK] at this ⊢
   omega
 have h1:=this St (List.range n) h λz b=>abl.2 (k z b)
 simpa using h1
theorem qh.ne (_:(n:Int) < fI) (h:qh n E S0 D St S) {z:Nat} (a:z∈St):D z≠0/\D z≠fI:=by
 have hl:=h.lt z a
 refine⟨λe=>(h.zero z hl e).2 a,λe=>(h.IJ z hl e).1 a⟩
theorem iz.start (_:(n:Int) < fI) (h:qh n E S0 D St S) (g:x < n) (i:D x=0):iz n E S0 D St S x [] (kx D x ((St.length:Int)+1)) [] S:=by
 have f:=(h.zero x g i).2
 have hl:=FT (St:=x :: St) (n:=n) (abo.2 ⟨f,h.nd⟩) λz c=>by
  rcases aaI.1 c with rfl | c
  .exact g
  .exact h.lt z c
 simp only[aaK] at hl
 refine⟨⟨?_,λz c=>?_,λz c h1=>?_,λz c h1=>?_,λz c h1 k=>?_,h.sound,h.base⟩,λz c=>⟨ow λe=>c (by rw[e,i]),rfl⟩,by rw[fw];omega,by simp,by simp⟩
 .rw[abr]
  refine⟨h.nd,by simp,λa o b l e=>?_⟩
  simp at l
  exact f (by rw[<-l,<-e];exact o)
 .rcases aaZ.1 c with c | c
  .exact h.lt z c
  .simp at c;subst c;exact g
 .by_cases e:z=x
  .rw[e,fw] at h1;omega
  .rw[ow e] at h1
   obtain⟨d,k2⟩:=h.zero z c h1
   exact⟨d,by simp[k2,e]⟩
 .by_cases e:z=x
  .rw[e,fw] at h1;unfold fI at *;omega
  .rw[ow e] at h1
   obtain⟨d,k2,j⟩:=h.IJ z c h1
   refine⟨by simp[d,e],k2,λy q=>?_⟩
   have:=j y q
   rw[ow λr=>by rw[r,i] at this;unfold fI at this;omega];exact this
 .by_cases e:z=x
  .subst e
   rw[fw]
   refine⟨St.length,by simp,by omega,Int.le_refl _,z,?_,.refl⟩
   rw[show ((St.length:Int)+1 - 1).toNat=St.length by omega];simp
  .rw[ow e] at h1 k ⊢
   obtain⟨p,d,k2,j,w,m,s⟩:=h.on z c h1 k
   exact⟨p,by rw[aaY (aaG.1 d).1];exact d,k2,j,w,by rw[aaY (aaG.1 m).1];exact m,s⟩
theorem iz.put (hE:∀ x,x < n->∀ y∈E x,y < n) (L:(n:Int) < fI) (M:x < n) {y:Nat} (H:y∈E x) (d:qh n E S0 D (St ++ x :: T) S) (hold:∀ z,D0 z≠0->D z=D0 z/\S z=S1 z) (Q:D0 x=0) (N:1<=D x/\D x<=(St.length:Int)+1) (I:D y≠0)
  (v:∀ z∈T,Pk E D (St ++ x :: T) S z/\(D x<=D z/\iL (S z) (S x)∨D y<=D z/\iL (S z) (S y))) (A:∀ z∈done,NH D (St ++ x :: T) S x z) :
  iz n E S0 D0 St S1 x (done ++ [y]) (kx D x (min (D x) (D y))) T (kx S x (S x ||| S y)):=by
 have B:=hE x M y H
 have C:x∈St ++ x :: T:=by simp
 have g:=d.ne L C
 have i:∀ z,z≠x->kx D x (min (D x) (D y)) z=D z:=λz e=>ow e
 have l:∀ z,z≠x->kx S x (S x ||| S y) z=S z:=λz e=>ow e
 have hle:kx D x (min (D x) (D y)) x<=D x:=by rw[fw];omega
 have j:iL (S x) (kx S x (S x ||| S y) x):=λt m=>by rw[fw,aa5,m];rfl
 have k:iL (S y) (kx S x (S x ||| S y) x):=λt m=>by rw[fw,aa5,m,Bool.or_true]
 have F:∀ z,iL (S z) (kx S x (S x ||| S y) z):=λz=>by
  by_cases e:z=x
  .rw[e];exact j
  .rw[l z e];exact λ_ h=>h
 have a:∀ z,D z=fI->z≠x:=λz h e=>g.2 (by rw[<-e];exact h)
 have s:1<=D y/\((D y=fI)∨∃ p:Nat,(St ++ x :: T)[p]?=some y/\D y<=(p:Int)+1/\∃ w,(St ++ x :: T)[(D y - 1).toNat]?=some w/\kb E y w):=by
  by_cases o:D y=fI
  .exact⟨by rw[o];decide,.inl o⟩
  .obtain⟨p,r,k2,f,J⟩:=d.on y B I o
   exact⟨k2,.inr ⟨p,r,f,J⟩⟩
 obtain⟨O,K,R,U,V⟩:=d.on x M g.1 g.2
 have W:D x < fI:=by
  have:=FT d.nd d.lt
  have:=(aaG.1 K).1
  omega
 refine⟨⟨d.nd,d.lt,λz b h1=>?_,λz b h1=>?_,λz b h1 P=>?_,λz t b h1=>?_,λz b t h1=>F z t (d.base z b t h1)⟩,λz b=>?_,?_,λz b=>?_,λz b=>?_⟩
 .by_cases e:z=x
  .rw[e,fw] at h1;omega
  .rw[i z e] at h1
   rw[l z e];exact d.zero z b h1
 .by_cases e:z=x
  .rw[e,fw] at h1
   have:=d.ne L C
   omega
  .rw[i z e] at h1
   obtain⟨r,k2,f⟩:=d.IJ z b h1
   rw[l z e]
   exact⟨r,k2,λu hu=>by rw[i u (a u (f u hu))];exact f u hu⟩
 .by_cases e:z=x
  .subst e
   rw[fw]
   rcases Int.le_total (D z) (D y) with G | G
   .rw[Int.min_eq_left G]
    exact⟨O,K,R,U,V⟩
   .rw[Int.min_eq_right G]
    rcases s.2 with o | ⟨p,r,f,w,J,X⟩
    .rw[o] at G;omega
    .exact⟨O,K,s.1,by omega,w,J,.step H X⟩
  .rw[i z e] at h1 P ⊢
   exact d.on z b h1 P
 .by_cases e:z=x
  .subst e
   rw[fw,aa5,abt] at h1
   rcases h1 with h1 | h1
   .exact d.sound z t b h1
   .exact(d.sound y t B h1).up (.step H .refl)
  .rw[l z e] at h1;exact d.sound z t b h1
 .have e:z≠x:=λe=>b (by rw[e];exact Q)
  rw[i z e,l z e];exact hold z b
 .rw[fw];omega
 .have c:z≠x:=λe=>by
   have h1:=d.nd
   rw[abr] at h1
   exact(abo.1 h1.2.1).1 (e ▸ b)
  obtain⟨⟨r,k2⟩,f⟩:=v z b
  rw[i z c,l z c]
  refine⟨⟨by rw[i z c];exact r,λu hu=>?_⟩,?_,?_⟩
  .rcases k2 u hu with ⟨m1,m2⟩ | ⟨q,m1,m2⟩
   .left
    rw[i u (a u m1),l u (a u m1),l z c];exact⟨m1,m2⟩
   .right
    rw[i z c];exact⟨q,m1,m2⟩
  .rw[fw]
   rcases f with f | f <;> omega
  .rcases f with f | f
   .exact λt m=>j t (f.2 t m)
   .exact λt m=>k t (f.2 t m)
 .rcases aaZ.1 b with b | b
  .rcases A z b with ⟨m1,m2⟩ | ⟨q,m1,m2⟩
   .left
    rw[i z (a z m1),l z (a z m1)]
    exact⟨m1,λt m=>j t (m2 t m)⟩
   .right
    exact⟨q,m1,by omega⟩
  .rw[abq] at b
   subst b
   rcases s.2 with o | ⟨p,r,f,_⟩
   .left
    rw[i z (a z o),l z (a z o)]
    exact⟨o,k⟩
   .right
    exact⟨p,r,by rw[fw];omega⟩
theorem iz.Vl (hE:∀ x,x < n->∀ y∈E x,y < n) (c:(n:Int) < fI) (d:x < n) (e:D0 x=0) (h:iz n E S0 D0 St S1 x done D T S) {y:Nat} (f:y∈E x) (a:D y≠0) :
  iz n E S0 D0 St S1 x (done ++ [y]) (kx D x (min (D x) (D y))) T (kx S x (S x ||| S y)) :=
 iz.put hE c d f h.g h.old e h.own a (λz b=>⟨(h.fin z b).1,.inl (h.fin z b).2⟩) h.Ug
theorem Np {l r:List Nat} {p z:Nat} (h:l[p]?=some z):(l ++ r)[p]?=some z:=by
 rw[aaY (aaG.1 h).1];exact h
theorem iz.El (hE:∀ x,x < n->∀ y∈E x,y < n) (i:(n:Int) < fI) (B:x < n) (C:D0 x=0) (h:iz n E S0 D0 St S1 x done D T S) {y:Nat} (F:y∈E x) (_:D y=0) {D':Nat->Int} {j:List Nat} {S':Nat->BV} (J:AY n E S0 D (St ++ x :: T) S y D' j S') :
  ∃ G,j=St ++ x :: G/\iz n E S0 D0 St S1 x (done ++ [y]) (kx D' x (min (D' x) (D' y))) G (kx S' x (S' x ||| S' y)):=by
 obtain⟨o,hold,K⟩:=J
 have t:x∈St ++ x :: T:=by simp
 have b:=h.g.ne i t
 obtain⟨v,L⟩:=hold x b.1
 have k:∀ z,D0 z≠0->D' z=D0 z/\S' z=S1 z:=λz a=>by
  obtain⟨H,k2⟩:=h.old z a
  obtain⟨w,A⟩:=hold z (by rw[H];exact a)
  exact⟨w.trans H,A.trans k2⟩
 have f:∀ (r:List Nat) (z u:Nat),D z≠0->NH D (St ++ x :: T) S z u->NH D' (St ++ x :: T ++ r) S' z u:=λr z u a hu=>by
  obtain⟨s,z2⟩:=hold z a
  rcases hu with ⟨m1,m2⟩ | ⟨q,m1,m2⟩
  .left
   obtain⟨M,N⟩:=hold u (by rw[m1];decide)
   rw[M,N,z2];exact⟨m1,m2⟩
  .right
   exact⟨q,Np m1,by rw[s];exact m2⟩
 have I:∀ z∈T,D z≠0:=λz a=>(h.g.ne i (by simp[a])).1
 have d:∀ (r:List Nat),∀ z∈T,Pk E D' (St ++ x :: T ++ r) S' z/\(D' x<=D' z/\iL (S' z) (S' x)):=λr z a=>by
  obtain⟨⟨⟨p,O,P⟩,k2⟩,w,A⟩:=h.fin z a
  obtain⟨s,z2⟩:=hold z (I z a)
  exact⟨⟨⟨p,Np O,by rw[s];exact P⟩,λu hu=>f r z u (I z a) (k2 u hu)⟩,by rw[v,s];exact w,by rw[L,z2];exact A⟩
 rcases K with ⟨rfl,Q⟩ | ⟨l,rfl,hle,c⟩
 .refine⟨T,rfl,iz.put hE i B F o k C (by rw[v];exact h.own) (by rw[Q];decide) (λz a=>?_) (λz a=>?_)⟩
  .have:=d [] z a
   rw[abI] at this
   exact⟨this.1,.inl this.2⟩
  .have:=f [] x z b.1 (h.Ug z a)
   rwa [abI] at this
 .have e:St ++ x :: T ++ y :: l=St ++ x :: (T ++ y :: l):=by simp
  refine⟨T ++ y :: l,e,?_⟩
  rw[e] at o c
  have m:=o.ne i (z:=y) (by simp)
  refine iz.put hE i B F o k C (by rw[v];exact h.own) m.1 (λz a=>?_) (λz a=>?_)
  .rcases aaZ.1 a with a | a
   .have:=d (y :: l) z a
    rw[e] at this
    exact⟨this.1,.inl this.2⟩
   .exact⟨(c z a).1,.inr (c z a).2⟩
  .have:=f (y :: l) x z b.1 (h.Ug z a)
   rwa [e] at this
theorem iz.keep (h:iz n E S0 D0 St S1 x (E x) D T S) (b:D x≠(St.length:Int)+1):AY n E S0 D0 St S1 x D (St ++ x :: T) S:=by
 have:=h.own
 refine⟨h.g,h.old,.inr ⟨T,rfl,by omega,λz a=>?_⟩⟩
 rcases aaI.1 a with rfl | a
 .exact⟨⟨⟨St.length,by simp,by omega⟩,h.Ug⟩,Int.le_refl _,λ_ h=>h⟩
 .exact h.fin z a
theorem iz.pop (hE:∀ x,x < n->∀ y∈E x,y < n) (K:(n:Int) < fI) (M:x < n) (N:∀ z∈x :: T,D0 z=0) (h:iz n E S0 D0 St S1 x (E x) D T S) (he:D x=(St.length:Int)+1) :
  AY n E S0 D0 St S1 x (λz=>if z∈x :: T then fI else D z) St (λz=>if z∈x :: T then S x else S z):=by
 have c:=h.g
 have b:∀ z∈x :: T,z∈St ++ x :: T:=λz a=>ab4 _ a
 have o:=c.nd
 rw[abr] at o
 have f:∀ (q u:Nat),(St ++ x :: T)[q]?=some u->St.length<=q->u∈x :: T:=λq u hq hl=>by
  rw[aa7 hl] at hq
  exact aax hq
 have r:∀ z∈x :: T,iL (S z) (S x)/\D x<=D z/\∀ y∈E z,NH D (St ++ x :: T) S z y:=λz a=>by
  rcases aaI.1 a with rfl | a
  .exact⟨λ_ h=>h,Int.le_refl _,h.Ug⟩
  .obtain⟨d,k2,j⟩:=h.fin z a
   exact⟨j,k2,d.2⟩
 have i:∀ z∈x :: T,∀ y∈E z,y∈x :: T∨(D y=fI/\iL (S y) (S x)):=λz a y l=>by
  obtain⟨d,k2,j⟩:=r z a
  rcases j y l with ⟨m1,m2⟩ | ⟨q,m1,m2⟩
  .exact .inr ⟨m1,λt B=>d t (m2 t B)⟩
  .exact .inl (f q y m1 (by omega))
 have s:∀ z w:Nat,kb E z w->z∈x :: T->∀ t,(S0 w).getLsbD t=true->(S x).getLsbD t=true:=by
  intro z w hr
  induction hr with
  | @refl z =>
   intro a t B
   exact(r z a).1 t (c.base z (c.lt z (b z a)) t B)
  | @step z y w l hr F =>
   intro a t B
   rcases i z a y l with k | ⟨d,k2⟩
   .exact F k t B
   .have v:=hE z (c.lt z (b z a)) y l
    exact k2 t ((c.IJ y v d).2.1 t ⟨w,hr,B⟩)
 have A:∀ (m p z:Nat),p < m->(St ++ x :: T)[p]?=some z->z∈x :: T->kb E z x:=by
  intro m
  induction m with
  | zero=>intro p z h;omega
  | succ m F =>
   intro p z hp G a
   by_cases e:z=x
   .rw[e];exact .refl
   .have H:z∈T:=(aaI.1 a).resolve_left e
    obtain⟨⟨⟨O,d,k2⟩,_⟩,j,_⟩:=h.fin z H
    have I:=c.lt z (b z a)
    obtain⟨z0,P⟩:=c.ne K (b z a)
    obtain⟨U,m1,m2,m3,w,m4,m5⟩:=c.on z I z0 P
    have Q:O=p:=(List.getElem?_inj (aaG.1 d).1 c.nd).1 (d.trans G.symm)
    have hw:=f _ w m4 (by omega)
    exact m5.trans (F (D z - 1).toNat w (by omega) m4 hw)
 have J:∀ z,D z=fI->z ∉ x :: T:=λz a hm=>(c.ne K (b z hm)).2 a
 refine⟨⟨o.1,λz a=>c.lt z (abZ _ a),λz a h1=>?_,λz a h1=>?_,λz a h1 C=>?_,λz t a h1=>?_,λz a t h1=>?_⟩,λz a=>?_,.inl ⟨rfl,by simp⟩⟩
 .split at h1
  .simp[fI] at h1
  .rename_i hm
   rw[aat hm]
   obtain⟨d,k2⟩:=c.zero z a h1
   exact⟨d,λhs=>k2 (abZ _ hs)⟩
 .by_cases hm:z∈x :: T
  .rw[aaw hm]
   refine⟨λhs=>o.2.2 z hs z hm rfl,λt ⟨w,d,k2⟩=>s z w d hm t k2,λy l=>?_⟩
   split
   .rfl
   .rename_i v
    exact((i z hm y l).resolve_left v).1
  .rw[aat hm] at h1 ⊢
   obtain⟨d,k2,j⟩:=c.IJ z a h1
   refine⟨λhs=>d (abZ _ hs),k2,λy l=>?_⟩
   split
   .rfl
   .exact j y l
 .by_cases hm:z∈x :: T
  .rw[aaw hm] at C;exact absurd rfl C
  .rw[aat hm] at h1 C ⊢
   obtain⟨p,d,k2,j,w,L,R⟩:=c.on z a h1 C
   have hp:p < St.length:=Nat.lt_of_not_le λhp=>hm (f p z d hp)
   rw[aaY hp] at d
   rw[aaY (by omega)] at L
   exact⟨p,d,k2,j,w,L,R⟩
 .by_cases hm:z∈x :: T
  .rw[aaw hm] at h1
   obtain⟨p,hp,e⟩:=abv.1 (b z hm)
   exact(c.sound x t M h1).up (A (p+1) p z (by omega) (by rw[aar hp,e]) hm)
  .rw[aat hm] at h1
   exact c.sound z t a h1
 .by_cases hm:z∈x :: T
  .rw[aaw hm]
   exact(r z hm).1 t (c.base z a t h1)
  .rw[aat hm];exact c.base z a t h1
 .have hm:z ∉ x :: T:=λhm=>a (N z hm)
  simp only[aat hm];exact h.old z a
theorem iz.fresh (f:(n:Int) < fI) (i:qh n E S0 D0 St S1) (h:iz n E S0 D0 St S1 x done D T S):∀ z∈x :: T,D0 z=0:=λz d=>by
 refine abB λa=>?_
 have hm:z∈St ++ x :: T:=ab4 _ d
 have c:=h.g.lt z hm
 have b:=h.g.nd
 rw[abr] at b
 by_cases e:D0 z=fI
 .exact(h.g.ne f hm).2 ((h.old z a).1.trans e)
 .obtain⟨p,j,_⟩:=i.on z c a e
  exact b.2.2 z (aax j) z d rfl
theorem qh.all (h:qh n E S0 D St S) (hd:∀ z,z < n->D z=fI) {z t:Nat} (a:z < n):(S z).getLsbD t=true↔nt E S0 z t:=⟨h.sound z t a,(h.IJ z a (hd z a)).2.1 t⟩
theorem AY.top {D':Nat->Int} {a:List Nat} {S':Nat->BV} (h:AY n E S0 D [] S x D' a S') (b:x < n):a=[]/\D' x=fI:=by
 obtain⟨g,_,⟨h1,c⟩ | ⟨T,h1,c,f⟩⟩:=h
 .exact⟨h1,c⟩
 .exfalso
  simp only[aa2] at c
  obtain⟨⟨⟨p,i,k2⟩,_⟩,_⟩:=f x (by simp)
  have hm:x∈a:=aax i
  by_cases d:D' x=0
  .exact(g.zero x b d).2 hm
  .by_cases e:D' x=fI
   .exact(g.IJ x b e).1 hm
   .obtain⟨_,_,j,_⟩:=g.on x b d e
    omega
end
section
variable {P:Program} {T:Env} {H:View} {K:V->View->Prop} {w:cO (T,H,K)} {t ty:TypeId}
theorem Ur {d:Operand} {id off len sz bytes s:Nat} {z:List V} {es:List (List V)} (he:sn P t=some (sz,bytes,z)) (hd:ev T d=.sl id off len sz) (hH:H id=.arr s es) (hl:off+len<=es.length) (h:len≠0)
  (hk:K (.bD []) (H.set id (.arr sz (eL es off (List.replicate len z))))):km P (.call { callee:=.builtin .clear,args:=#[d],argTypes:=#[t] }) ty T H K w:=by
 obtain⟨e,ti,b,hi,c,i,f,a,g,rfl,rfl⟩:=mT he
 intro n _
 refine⟨.bD [],.fQ id (.arr ti.size (eL es off (List.replicate len z))),[id],?_,hk⟩
 simp only[sI,cD,oper]
 simp only[aaX] at a
 simp[xT,b,hd,cU,c,h,hH,hl,g,i,f,a]
 exact a
end
theorem AZ:∀ (xs A B:List (List V)),xs.length<=B.length->eL (A ++ B) A.length xs=A ++ xs ++ B.drop xs.length
 | [],A,B,_=>by simp[eL]
 | x :: r,A,[],h=>by simp at h
 | x :: r,A,b :: B,h=>by
  rw[eL,List.set_append_right _ _ (aaD _),Nat.sub_self,List.set_cons_zero]
  have:=AZ r (A ++ [x]) B (by simpa using h)
  simpa using this
theorem BZ {id off k m:Nat} (hm:m<=k):dO 2 (.sl id off k 2) (some (gi m)) none=some (.sl id (off+m) (k - m) 2,.none,[]):=by
 simp[dO,bound,asNat,hm]
theorem Lb {id off k m:Nat} (hm:m<=k):dO 2 (.sl id off k 2) none (some (gi m))=some (.sl id off m 2,.none,[]):=by
 simp[dO,bound,asNat,hm]
def gQ:SC :=
 ae [ae [ab [aa 29 5,aa 30 4,aM 31 30,aQ 32 .lss 29 31],bS 32 (.exit 2)],.block 3 (ae [ab [aa 35 4,aa 36 5,aI 37 2 35 36,aY 38 2 37,aa 39 4,aa 40 5,aF 41 .sub 40 1,aI 42 2 39 41,aY 43 2 42,((some 44),.op (.old (.binOp .neq 33 (.tmp 38) (.tmp 43) 33) 4))],bf 44 (ae [ab [aa 45 0,aa 46 3,aa 47 4,aa 48 5,aI 49 2 47 48,aY 50 2 49,aI 51 2 45 46,bZ 2 51 50],ab [aa 52 3,aF 53 .add 52 1,aa 3 53]])]),ab [aa 33 5,aF 34 .add 33 1,aa 5 34]]
def gT:SC :=
 ae [ae [ab [aa 10 3,aa 11 0,aM 12 11,aQ 13 .lss 10 12],bS 13 (.exit 0)],.block 1 (ae [ab [aa 16 0,aa 17 3,aI 18 2 16 17,aY 19 2 18,aa 20 0,aa 21 3,aF 22 .sub 21 1,aI 23 2 20 22,aY 24 2 23,((some 25),.op (.old (.binOp .eql 33 (.tmp 19) (.tmp 24) 33) 4))],bf 25 (ae [ab [aa 26 0,aa 27 3,((some 28),.op (.slice 2 (.tmp 26) (some (.tmp 27)) none)),aa 4 28],ae [ab [aT 5 1],bX 2 gQ],ab [aa 54 0,aa 55 3,((some 56),.op (.slice 2 (.tmp 54) (some (.tmp 55)) none)),(none,.op (.old (.call { callee:=.builtin .clear,args:=#[(.tmp 56)],argTypes:=#[27] }) 0))],ab [aa 57 0,aa 58 3,((some 59),.op (.slice 2 (.tmp 57) none (some (.tmp 58)))),aa 2 59],.ret])]),ab [aa 14 3,aF 15 .add 14 1,aa 3 15]]
def ir:SF:=⟨ae [ab [cT 2 1],ae [ab [aa 6 0,aM 7 6,aF 8 .lss 7 2],bf 8 (ae [ab [aa 9 0,aa 2 9],.ret])],ae [ab [aT 3 1],bX 0 gT],ab [aa 60 0,aa 2 60],.ret],
 [.tmp 2],61⟩
theorem kQ:aO Tryz.prog 114 []=some ir:=by kernel_rfl
def Du:SF:=⟨ae [ab [cT 2 1],ab [aa 3 0,qx 4 112 [(.tmp 3),(.val (.fn 113 [] []))]],ab [aa 5 0,bm 6 114 [5],aa 2 6],.ret],
 [.tmp 2],7⟩
theorem Ha:aO Tryz.prog 64 []=some Du:=by kernel_rfl
theorem uL {l:List aA} {i:Nat} (h:i < l.length):(aV l).getD i []=[gi (l.getD i ja).ax,gi (l.getD i ja).dot]:=ta (getD_some h)
theorem PA (l:List aA) (i j:Nat) (x d:aA) (hi:i < l.length):(l.set i x).getD j d=if i=j then x else l.getD j d:=by
 rw[dZ]
 by_cases e:i=j
 .rw[aaw ⟨e,hi⟩,aaw e]
 .rw[aat (λh=>e h.1),aat e]
theorem PM (l:List aA) (U:l.length<=100000) (u:V) (H:View) (C:ba H u 2 (aV l)):av Tryz.prog 114 [u] H λr H'=>(∀ id,owner u≠some id->H' id=H id)/\ba H' r 2 (aV (gA l l.length))/\owner r=owner u:=by
 refine av.cut (K:=λr H'=>(H'=H/\r=u/\gA l l.length=l)∨∃ id rest,u=.sl id 0 l.length 2/\r=.sl id 0 (gA l l.length).length 2/\H'=H.set id (.arr 2 (aV (gA l l.length) ++ rest))) ?_ ?_
 rotate_left
 .rintro r H' (⟨rfl,rfl,e⟩ | ⟨id,rest,rfl,rfl,rfl⟩)
  .exact .inl ⟨λ_ _=>rfl,by rw[e];exact C,rfl⟩
  .refine .inr ⟨id,2,aV (gA l l.length),rest,by simp[View.set],λj L=>?_,?_,rfl⟩
   .rw[set_set]
    simp only[View.set]
    rw[aat (λe=>L (by rw[e];rfl))]
   .rw[set_set]
    exact .inr ⟨id,by rw[bI],by simp[View.set]⟩
 refine av.of mixed kQ ?_
 have hlen:cU u=some l.length:=by rw[C.len,bI]
 simp(disch:=omega)only[↓wr,seval,wq,ir,hlen]
 apply ah.dec<;>intro n
 .simp(disch:=omega)only[↓wr,seval,wq]
  left
  try refine⟨rfl,rfl,?_⟩
  match l,n with
  | [],_=>rfl
  | [x],_=>rfl
  | _ :: _ :: _,n=>simp at n;omega
 obtain⟨id,hu,t⟩:=C.sl (by rw[bI];omega)
 rw[bI] at hu
 subst hu
 simp(disch:=omega)only[↓wr,seval,wq]
 refine aS.up (l.length - 1) (λi T H'=>H=H'/\(∀ j,0 < j->j < i+1->l.getD j ja≠l.getD (j - 1) ja)/\T 0=.sl id 0 l.length 2/\T 3=gi ((i+1:Nat):Int)) ⟨rfl,λj h1 n=>by omega,rfl,rfl⟩ ?_
 rintro i k T _ hk ⟨rfl,o,t0,t3⟩
 simp(disch:=omega)only[↓wr,seval,wq,gT,t0,t3]
 apply ah.dec<;>intro O
 rotate_left
 .simp(disch:=omega)only[↓wr,seval,wq,t0]
  left
  try refine⟨rfl,rfl,?_⟩
  rw[Ce l _ (aaD _) (λj h1 n=>o j h1 (by omega)),List.take_length]
 have D:i+1 < l.length:=by omega
 have P:(((i+1:Nat):Int) - 1)=(i:Int):=by omega
 simp(disch:=omega)only[↓wr,seval,wq,t0,t3,t,uL D,uL (show i < l.length by omega),P]
 refine⟨by omega,by rw[bI];omega,?_⟩
 refine⟨by omega,by rw[bI];omega,?_⟩
 generalize M:l.getD (i+1) ja=x
 generalize N:l.getD i ja=y
 refine iy (xs:=#[.int .i64 x.ax,.int .i64 x.dot]) (ys:=#[.int .i64 y.ax,.int .i64 y.dot]) Tryz.underlying33 (by kernel_rfl) (by kernel_rfl) ?_ ?_ (mO x y) (.inl ⟨rfl,rfl⟩) ?_
 .rfl
 .rfl
 rw[vf]
 simp(disch:=omega)only[↓wr,seval,wq,t0,t3]
 apply ah.dec<;>intro heq
 rotate_left
 .simp(disch:=omega)only[↓wr,seval,wq,t0,t3]
  refine aC hk (by omega) ⟨rfl,λj h1 n=>?_,t0,by push_cast;rfl⟩
  rcases aaT j (i+1) with q | q
  .exact o j h1 q
  .have:j=i+1:=by omega
   subst this
   rw[Nat.add_sub_cancel,M,N];exact heq
 have g:gA l (i+1+1)=l.take (i+1):=by
  rw[gA,aat,Ce l (i+1) (by omega) o]
  rw[Nat.add_sub_cancel,M,N]
  simp[heq]
 simp(disch:=omega)only[↓wr,seval,wq,t0,t3,BZ (id:=id) (off:=0) (k:=l.length) (m:=i+1) (by omega)]
 refine aS.up (l.length - (i+1) - 1) (λi2 T H'=>∃ (a:Nat) (cur:List aA),H'=H.set id (.arr 2 (aV cur))/\cur.length=l.length/\i+1<=a/\a<=i+1+i2/\cur.take a=gA l (i+1+(i2+1))/\(∀ j,a<=j->cur.getD j ja=l.getD j ja) /\
  T 0=.sl id 0 l.length 2/\T 3=gi a/\T 4=.sl id (i+1) (l.length - (i+1)) 2/\T 5=gi ((i2+1:Nat):Int)) ⟨i+1,l,?_,rfl,aaD _,by omega,by rw[g],λ_ _=>rfl,t0,t3,?_,rfl⟩ ?_
 .funext j;simp only[View.set];split
  .rename_i e;rw[e,t]
  .rfl
 .rfl
 clear t0 t3 hk
 rintro i2 k2 W _ v ⟨a,cur,rfl,w,Q,X,c,d,t0,t3,t4,t5⟩
 have b:(H.set id (.arr 2 (aV cur))) id=.arr 2 (aV cur):=by simp[View.set]
 simp(disch:=omega)only[↓wr,seval,wq,gQ,t0,t3,t4,t5]
 apply ah.dec<;>intro E
 .have hp:i+1+(i2+1) < l.length:=by omega
  have R:(((i2+1:Nat):Int) - 1)=(i2:Int):=by omega
  simp(disch:=omega)only[↓wr,seval,wq,t0,t3,t4,t5,b,R,uL (l:=cur) (show i+1+(i2+1) < cur.length by omega),uL (l:=cur) (show i+1+i2 < cur.length by omega)]
  refine⟨by omega,by rw[bI];omega,?_⟩
  refine⟨by omega,by rw[bI];omega,?_⟩
  rw[d _ (show a<=i+1+(i2+1) by omega),d _ (show a<=i+1+i2 by omega)]
  generalize A:l.getD (i+1+(i2+1)) ja=f
  generalize F:l.getD (i+1+i2) ja=B
  refine iy (xs:=#[.int .i64 f.ax,.int .i64 f.dot]) (ys:=#[.int .i64 B.ax,.int .i64 B.dot]) Tryz.underlying33 (by kernel_rfl) (by kernel_rfl) ?_ ?_ (mO f B) (.inr ⟨rfl,rfl⟩) ?_
  .rfl
  .rfl
  rw[vf]
  simp(disch:=omega)only[↓wr,seval,wq,t0,t3,t4,t5]
  have h:gA l (i+1+(i2+1+1))=if f=B then gA l (i+1+(i2+1)) else gA l (i+1+(i2+1)) ++ [f]:=by
   rw[show i+1+(i2+1+1)=(i+1+(i2+1))+1 by omega,gA,A,show i+1+(i2+1) - 1=i+1+i2 by omega,F]
   by_cases e:f=B
   .rw[aaw e,aat (by simp[e])]
   .rw[aat e,aaw (.inr e)]
  apply ah.dec<;>intro he
  .simp(disch:=omega)only[↓wr,seval,wq,t0,t3,t4,t5]
   rw[aaw he] at h
   exact aC v (by omega) ⟨a,cur,rfl,w,Q,by omega,by rw[h];exact c,d,t0,t3,t4,by push_cast;rfl⟩
  .simp(disch:=omega)only[↓wr,seval,wq,t0,t3,t4,t5,b,uL (l:=cur) (show i+1+(i2+1) < cur.length by omega)]
   rw[d _ (show a<=i+1+(i2+1) by omega),A]
   have p:(aV cur).getD a []=[gi (cur.getD a ja).ax,gi (cur.getD a ja).dot]:=uL (by omega)
   have G:(aV cur).set a [gi f.ax,gi f.dot]=aV (cur.set a f):=by simp[aV,abR,bF]
   simp(disch:=omega)only[↓wr,seval,wq,t0,t3,t4,t5,b,p,G]
   rw[set_set]
   rw[aat he] at h
   refine⟨by omega,by rw[bI];omega,?_⟩
   refine⟨by omega,by rw[bI];omega,?_⟩
   refine aC v (by omega) ⟨a+1,cur.set a f,rfl,by simp[w],by omega,by omega,?_,λj L=>?_,t0,by push_cast;rfl,t4,by push_cast;rfl⟩
   .rw[h,<-c,aaQ,List.take_set_of_le (aaD _),ab9 (by omega)];rfl
   .rw[PA _ _ _ _ _ (by omega),aat (by omega)]
    exact d j (by omega)
 .have I:i+1+(i2+1)=l.length:=by omega
  rw[I] at c
  have S:l.length - a≠0:=by omega
  have p:a=(gA l l.length).length:=by rw[<-c,abc];omega
  simp(disch:=omega)only[↓wr,seval,wq,t0,t3,BZ (id:=id) (off:=0) (k:=l.length) (m:=a) (by omega)]
  refine Ur (id:=id) (off:=a) (len:=l.length - a) (sz:=2) (bytes:=16) (s:=2) (z:=[gi 0,gi 0]) (es:=aV cur) (by kernel_rfl) (by simp(disch:=omega)only[↓wr,seval,wq];try rw[aby]) b (by rw[bI];omega) S ?_
  rw[set_set]
  have J:eL (aV cur) a (List.replicate (l.length - a) [gi 0,gi 0])=aV (gA l l.length) ++ List.replicate (l.length - a) [gi 0,gi 0]:=by
   have h1:=AZ (List.replicate (l.length - a) [gi 0,gi 0]) (aV (cur.take a)) (aV (cur.drop a)) (by simp[aV];omega)
   rw[show aV (cur.take a) ++ aV (cur.drop a)=aV cur by rw[aV,aV,<-aaS,List.take_append_drop];rfl] at h1
   rw[show (aV (cur.take a)).length=a by rw[bI,abc];omega] at h1
   rw[h1,c,aaV (by simp[aV];omega),abI]
  rw[J]
  simp(disch:=omega)only[↓wr,seval,wq,t0,t3,Lb (id:=id) (off:=0) (k:=l.length) (m:=a) (by omega)]
  right
  exact⟨id,List.replicate (l.length - a) [gi 0,gi 0],rfl,by rw[p],rfl⟩
theorem Ng (l:List aA) (h:l.length<=100000) (u:V) (H:View) (c:ba H u 2 (aV l)):av Tryz.prog 64 [u] H λr H'=>(∀ id,owner u≠some id->H' id=H id)/\ba H' r 2 (aV (CE l))/\owner r=owner u:=by
 refine av.of mixed Ha ?_
 simp(disch:=omega)only[↓wr,seval,wq,Du]
 refine ay.dr ((UG l (by omega) u H c).mono ?_)
 rintro r d ⟨rfl,k2,e⟩
 simp(disch:=omega)only[↓wr,seval,wq]
 refine ay.dr ((PM (fh l) (by rw[j5];omega) u d e).mono ?_)
 rintro r i ⟨f,b,g⟩
 simp(disch:=omega)only[↓wr,seval,wq]
 rw[j5] at b
 exact⟨λid a=>by rw[f id a,k2 id a],b,g⟩
def pP:SC :=
 ae [ab [aQ 30 .lss 29 28],bS 30 (.exit 0),.block 1 (ae [ab [aI 31 1 27 29,aj 32 31,aa 8 32],ae [ab [aj 33 2,aa 34 8,aI 35 1 33 34,aj 36 35,aF 37 .eql 36 0],bf 37 (ab [aj 38 4,aa 39 8,((some 40),.call (.tmp 38) [(.tmp 39)])])],ab [aj 41 2,aa 42 0,aj 43 2,aa 44 0,aI 45 1 43 44,aj 46 45,aj 47 2,aa 48 8,aI 49 1 47 48,aj 50 49,((some 51),.op (.mm false (.tmp 46) (.tmp 50))),aI 52 1 41 42,bZ 1 52 51],ab [aj 53 3,cR 54 53,ao 55 8 54,aj 56 55,aa 57 0,aI 58 1 56 57,aj 59 58,aj 60 3,cR 61 60,ao 62 8 61,aj 63 62,aa 64 8,aI 65 1 63 64,aj 66 65,aQ 67 .or 59 66,aI 68 1 56 57,bZ 1 68 67]]),ab [aF 69 .add 29 1,aa 29 69]]
def pz:SC :=
 ae [ab [aQ 82 .lss 81 80],bS 82 (.exit 2),.block 3 (ae [ab [aI 83 1 79 81,aj 84 83,aa 10 84],ab [aj 85 2,aa 86 10,aI 87 1 85 86,(none,.op (.store 1 (.tmp 87) (.val (.val (.int .i64 1073741824)))))],ab [aj 88 3,cR 89 88,ao 90 8 89,aj 91 90,aa 92 10,aj 93 3,cR 94 93,ao 95 8 94,aj 96 95,aa 97 0,aI 98 1 96 97,aj 99 98,aI 100 1 91 92,bZ 1 100 99]]),ab [aF 101 .add 81 1,aa 81 101]]
def rj:SF:=⟨ae [ab [aj 11 1,aa 12 0,((some 13),.op (.bW 1 1 [(.val (.int .i64 0))] [(0,(.tmp 12))])),gx 14 1 8 11 13,bZ 1 1 14],ab [aj 15 1,aM 16 15,aa 6 16],ab [aj 17 2,aa 18 0,aa 19 6,aI 20 1 17 18,bZ 1 20 19],ae [ab [aj 21 3,cR 22 21,ao 23 9 22,aj 24 23,aa 25 0,aI 26 1 24 25,aj 27 26,aM 28 27,aT 29 0],bX 0 pP],ae [ab [aj 70 2,aa 71 0,aI 72 1 70 71,aj 73 72,aa 74 6,aQ 75 .neq 73 74],bf 75 (.ret)],ae [ab [aj 76 1,aa 77 6,aF 78 .sub 77 1,((some 79),.op (.slice 1 (.tmp 76) (some (.tmp 78)) none)),aM 80 79,aT 81 0],bX 2 pz],ab [aj 102 1,aa 103 6,aF 104 .sub 103 1,((some 105),.op (.slice 1 (.tmp 102) none (some (.tmp 104)))),bZ 1 1 105]],
 [],106⟩
theorem xl:aO Tryz.prog 122 []=some rj:=by kernel_rfl
def rm:SC :=
 ae [ab [aQ 19 .lss 18 17],bS 19 (.exit 0),.block 1 (ae [ab [aa 20 18,aa 5 20],ab [aj 21 2,aa 22 5,aI 23 1 21 22,aj 24 23,aF 25 .eql 24 0],bf 25 (ab [aj 26 4,aa 27 5,((some 28),.call (.tmp 26) [(.tmp 27)])])]),ab [aF 29 .add 18 1,aa 18 29]]
def tN:SF:=⟨ae [ab [cy 1 0],ab [aj 6 1,cR 7 6,ao 8 7 7,aj 9 8,aM 10 9,((some 11),.op (.make 1 8 [(.val (.int .i64 0))] (.tmp 10) (.tmp 10))),((some 2),.op (.alloc [(.emp 1)])),bZ 1 2 11],ab [((some 3),.op (.alloc [(.emp 1)]))],ab [((some 4),.op (.alloc [(.val .nilFunc)]))],ab [((some 12),.op (.rQ 122 [] [(.tmp 3),(.tmp 2),(.tmp 1),(.tmp 4)])),bZ 1 4 12],ab [aj 13 1,cR 14 13,ao 15 7 14,aj 16 15,aM 17 16,aT 18 0],bX 0 rm],
 [],30⟩
theorem yL:aO Tryz.prog 75 [1]=some tN:=by kernel_rfl
abbrev gp (l:List Nat):List (List V):=l.map λ(z:Nat)=>[gi (z:Int)]
structure F6 where
 (qs qd qv W d s e:Nat)
 (f0 f1 f2 f3 f4 f5 f6 f7:V)
 us:List V
 H0:View
def F6.fn (c:F6):V:=.fn 122 [] [.ptr c.qs 0 0,.ptr c.qd 0 0,.aH [.ptr c.W 0 0] 0,.ptr c.qv 0 0]
structure Gj (c:F6) (n:Nat) (E:Nat->List Nat):Prop where
 mf:c.H0 c.qd=.arr 1 [[.sl c.d 0 n 1]]
 AA:c.H0 c.qv=.arr 1 [[c.fn]]
 hW:c.H0 c.W=.arr 10 [[c.f0,c.f1,c.f2,c.f3,c.f4,c.f5,c.f6,c.f7,.sl c.s 0 n 1,.sl c.e 0 n 1]]
 he:c.H0 c.e=.arr 1 (c.us.map λu=>[u])
 hl:c.us.length=n
 hu:∀ x,x < n->ba c.H0 (c.us.getD x .any) 1 (gp (E x))
 hE:∀ x,x < n->(E x).length<=1000000000/\∀ y∈E x,y < n
 live:c.H0 c.qs≠.dead/\c.H0 c.d≠.dead/\c.H0 c.s≠.dead
 ne:c.qs≠c.d/\c.qs≠c.s/\c.d≠c.s
 zQ:∀ id,(id=c.qd∨id=c.qv∨id=c.W∨id=c.e∨∃ x,x < n/\owner (c.us.getD x .any)=some id)->id≠c.qs/\id≠c.d/\id≠c.s
structure nE (c:F6) (n:Nat) (H:View) (Dl:List Int) (St:List Nat) (Sl:List BV) (u:V):Prop where
 dl:Dl.length=n
 sl:Sl.length=n
 hd:H c.d=.arr 1 (bK Dl)
 hs:H c.s=.arr 1 (bV Sl)
 hq:H c.qs=.arr 1 [[u]]
 own:ba H u 1 (gp St)
 new:∀ id,owner u=some id->c.H0 id=.dead
 keep:∀ id,c.H0 id≠.dead->id≠c.qs->id≠c.d->id≠c.s->H id=c.H0 id
def dF (l:List Int):Nat->Int:=λz=>l.getD z 0
def sF (l:List BV):Nat->BV:=λz=>l.getD z 0
theorem Ey {l:List Int} {x:Nat} {v:Int} (h:x < l.length):dF (l.set x v)=kx (dF l) x v:=by
 funext z
 simp only[dF,kx,dZ]
 by_cases e:x=z
 .subst e;simp[h]
 .rw[aat (λh=>e h.1),aat (λh=>e h.symm)]
theorem JF {l:List BV} {x:Nat} {v:BV} (h:x < l.length):sF (l.set x v)=kx (sF l) x v:=by
 funext z
 simp only[sF,kx,dZ]
 by_cases e:x=z
 .subst e;simp[h]
 .rw[aat (λh=>e h.1),aat (λh=>e h.symm)]
section
variable {c:F6} {n:Nat} {E:Nat->List Nat} {H:View} {Dl:List Int} {St:List Nat} {Sl:List BV} {u:V}
theorem nE.OO (h:nE c n H Dl St Sl u) (a:Gj c n E) {Dl':List Int} (hl:Dl'.length=n):nE c n (H.set c.d (.arr 1 (bK Dl'))) Dl' St Sl u:=by
 obtain⟨n1,l,g⟩:=a.ne
 refine⟨hl,h.sl,by simp[View.set],?_,?_,?_,h.new,λid h1 i b j=>?_⟩
 .simp only[View.set];rw[aat (Ne.symm g)];exact h.hs
 .simp only[View.set];rw[aat n1];exact h.hq
 .rcases h.own with k | ⟨m,f,k2⟩
  .exact .inl k
  .refine .inr ⟨m,f,?_⟩
   simp only[View.set]
   rw[aat (λe=>a.live.2.1 (by rw[<-e];exact h.new m (by rw[f];rfl)))];exact k2
 .simp only[View.set];rw[aat b];exact h.keep id h1 i b j
theorem nE.AS (h:nE c n H Dl St Sl u) (a:Gj c n E) {Sl':List BV} (hl:Sl'.length=n):nE c n (H.set c.s (.arr 1 (bV Sl'))) Dl St Sl' u:=by
 obtain⟨n1,f,g⟩:=a.ne
 refine⟨h.dl,hl,?_,by simp[View.set],?_,?_,h.new,λid h1 i j b=>?_⟩
 .simp only[View.set];rw[aat g];exact h.hd
 .simp only[View.set];rw[aat f];exact h.hq
 .rcases h.own with k | ⟨m,d,k2⟩
  .exact .inl k
  .refine .inr ⟨m,d,?_⟩
   simp only[View.set]
   rw[aat (λe=>a.live.2.2 (by rw[<-e];exact h.new m (by rw[d];rfl)))];exact k2
 .simp only[View.set];rw[aat b];exact h.keep id h1 i j b
theorem nE.live (h:nE c n H Dl St Sl u) {id:Nat} (a:c.H0 id≠.dead):H id≠.dead:=by
 by_cases b:id=c.qs
 .rw[b,h.hq];simp
 .by_cases e:id=c.d
  .rw[e,h.hd];simp
  .by_cases f:id=c.s
   .rw[f,h.hs];simp
   .rw[h.keep id a b e f];exact a
theorem nE.push (h:nE c n H Dl St Sl u) (d:Gj c n E) {q x:Nat} (hq:H q=.dead) {o:di} {b:V} {f:View} (p:ba f b 1 (gp St ++ [[gi (x:Int)]])) (r:Left (H.set q o) f u b):nE c n (f.set c.qs (.arr 1 [[b]])) Dl (St ++ [x]) Sl b:=by
 obtain⟨n1,s,w⟩:=d.ne
 have a:∀ id,c.H0 id≠.dead->f id=H id/\owner b≠some id:=λid j=>by
  have h1:=h.live j
  have i:id≠q:=λe=>h1 (by rw[e];exact hq)
  have hs:(H.set q o) id=H id:=by simp only[View.set];rw[aat i]
  have:=r id (by rw[hs];exact h1) (λe=>j (h.new id e))
  rw[hs] at this;exact this
 refine⟨h.dl,h.sl,?_,?_,by simp[View.set],?_,λid h1=>?_,λid h1 g t v=>?_⟩
 .simp only[View.set];rw[aat (Ne.symm n1),(a _ d.live.2.1).1];exact h.hd
 .simp only[View.set];rw[aat (Ne.symm s),(a _ d.live.2.2).1];exact h.hs
 .have e:gp (St ++ [x])=gp St ++ [[gi (x:Int)]]:=by simp
  rw[e]
  rcases p with k | ⟨m,l,k2⟩
  .exact .inl k
  .refine .inr ⟨m,l,?_⟩
   simp only[View.set]
   rw[aat (λe=>(a _ d.live.1).2 (by rw[l,<-e];rfl))];exact k2
 .exact abK λg=>(a id g).2 h1
 .simp only[View.set];rw[aat g,(a id h1).1];exact h.keep id h1 g t v
theorem nE.at (h:nE c n H Dl St Sl u) (a:Gj c n E):H c.qd=.arr 1 [[.sl c.d 0 n 1]]/\H c.qv=.arr 1 [[c.fn]]/\H c.W=.arr 10 [[c.f0,c.f1,c.f2,c.f3,c.f4,c.f5,c.f6,c.f7,.sl c.s 0 n 1,.sl c.e 0 n 1]]/\H c.e=.arr 1 (c.us.map λu=>[u]):=by
 have k:∀ id,(id=c.qd∨id=c.qv∨id=c.W∨id=c.e∨∃ x,x < n/\owner (c.us.getD x .any)=some id)->c.H0 id≠.dead->H id=c.H0 id:=λid h1 b=>h.keep id b (a.zQ id h1).1 (a.zQ id h1).2.1 (a.zQ id h1).2.2
 refine⟨?_,?_,?_,?_⟩
 .rw[k c.qd (by simp) (by rw[a.mf];simp),a.mf]
 .rw[k c.qv (by simp) (by rw[a.AA];simp),a.AA]
 .rw[k c.W (by simp) (by rw[a.hW];simp),a.hW]
 .rw[k c.e (by simp) (by rw[a.he];simp),a.he]
theorem Gj.nes (a:Gj c n E):(c.qd≠c.qs/\c.qd≠c.d/\c.qd≠c.s)/\(c.qv≠c.qs/\c.qv≠c.d/\c.qv≠c.s)/\(c.W≠c.qs/\c.W≠c.d/\c.W≠c.s)/\(c.e≠c.qs/\c.e≠c.d/\c.e≠c.s)/\(c.d≠c.qs/\c.s≠c.qs/\c.d≠c.s/\c.s≠c.d) :=
 ⟨a.zQ _ (by simp),a.zQ _ (by simp),a.zQ _ (by simp),a.zQ _ (by simp),Ne.symm a.ne.1,Ne.symm a.ne.2.1,a.ne.2.2,Ne.symm a.ne.2.2⟩
theorem nE.row (h:nE c n H Dl St Sl u) (b:Gj c n E) {x:Nat} (d:x < n):ba H (c.us.getD x .any) 1 (gp (E x)):=by
 rcases b.hu x d with k | ⟨m,e,k2⟩
 .exact .inl k
 .refine .inr ⟨m,e,?_⟩
  have a:=b.zQ m (.inr (.inr (.inr (.inr ⟨x,d,by rw[e];rfl⟩))))
  rw[h.keep m (by rw[k2];simp) a.1 a.2.1 a.2.2];exact k2
end
theorem Er {l:List Nat} {i y:Nat} (h:l[i]?=some y):(gp l).getD i []=[gi (y:Int)]:=by
 simp[aaq,h]
theorem Sh (a b:Int):(if b < a then b else a)=min a b:=by split <;> omega
theorem pU {l:List Int} {i:Nat} (h:i < l.length):(bK l).getD i []=[gi (dF l i)]:=by
 simp[dF,aaq,h]
theorem qG {l:List BV} {i:Nat} (h:i < l.length):(bV l).getD i []=[gw (sF l i)]:=by
 simp[sF,aaq,h]
theorem YJ {l:List V} {i:Nat} (h:i < l.length):(l.map λu=>[u]).getD i []=[l.getD i .any]:=by
 simp[aaq,h]
theorem Lf {id off k m:Nat} (hm:m<=k):dO 1 (.sl id off k 1) (some (gi m)) none=some (.sl id (off+m) (k - m) 1,.none,[]):=by
 simp[dO,bound,asNat,hm]
theorem LC {id off k m:Nat} (hm:m<=k):dO 1 (.sl id off k 1) none (some (gi m))=some (.sl id off m 1,.none,[]):=by
 simp[dO,bound,asNat,hm]
def Jw (n:Nat) (D:Nat->Int):Nat:=((List.range n).filter λz=>decide (D z=0)).length
theorem filter_le {α:Type} {p q:α->Bool} : ∀ {l:List α},(∀ x∈l,p x=true->q x=true)->(l.filter p).length<=(l.filter q).length
 | [],_=>aaD _
 | a :: l,h=>by
  have b:=filter_le (p:=p) (q:=q) (l:=l) λx c=>h x (by simp[c])
  have d:=h a (by simp)
  rw[acp,acp]
  cases hp:p a with
  | true=>rw[d hp];simp;exact b
  | false =>
   cases hq:q a with
   | true=>simp;omega
   | false=>simpa using b
theorem filter_lt {α:Type} {p q:α->Bool} : ∀ {l:List α},(∀ x∈l,p x=true->q x=true)->(∃ x∈l,p x=false/\q x=true)->(l.filter p).length < (l.filter q).length
 | [],_,⟨x,h,_⟩=>by simp at h
 | a :: l,h,⟨x,b,d,k2⟩=>by
  have f:=h a (by simp)
  rw[acp,acp]
  rcases aaI.1 b with rfl | b
  .have:=filter_le (p:=p) (q:=q) (l:=l) λy c=>h y (by simp[c])
   rw[d,k2];simp;omega
  .have e:=filter_lt (p:=p) (q:=q) (l:=l) (λy c=>h y (by simp[c])) ⟨x,b,d,k2⟩
   cases hp:p a with
   | true=>rw[f hp];simp;exact e
   | false =>
    cases hq:q a with
    | true=>simp;omega
    | false=>simpa using e
theorem J9 {n:Nat} {D D':Nat->Int} (h:∀ z,D z≠0->D' z≠0) {x:Nat} (b:x < n) (c:D x=0) (h1:D' x≠0):Jw n D' < Jw n D :=
 filter_lt (λz _ a=>by
  simp only[aaE] at a ⊢
  exact abB λk=>h z k a) ⟨x,abl.2 b,by simp[h1],by simp[c]⟩
theorem VN {c:F6} {n:Nat} {E:Nat->List Nat} (f:Gj c n E) (hn:n<=100000) (S0:Nat->BV):∀ (m:Nat) (H:View) (Dl:List Int) (St:List Nat) (Sl:List BV) (x:Nat),Jw n (dF Dl)<=m->(∃ u,nE c n H Dl St Sl u)->qh n E S0 (dF Dl) St (sF Sl)->x < n->dF Dl x=0 ->
  av Tryz.prog 122 [gi x,.ptr c.qs 0 0,.ptr c.qd 0 0,.aH [.ptr c.W 0 0] 0,.ptr c.qv 0 0] H λ_ H'=>∃ (Dl':List Int) (L:List Nat) (Sl':List BV),(∃ u,nE c n H' Dl' L Sl' u)/\AY n E S0 (dF Dl) St (sF Sl) x (dF Dl') L (sF Sl'):=by
 intro m
 induction m with
 | zero =>
  intro H Dl St Sl x hm _ _ o h0
  have:=J9 (n:=n) (D:=dF Dl) (D':=λ_=>1) (λ_ _=>by simp) o h0 (by simp)
  omega
 | succ m ih =>
 rintro H Dl St Sl x hm ⟨u,hJ⟩ hG o h0
 have Q:∀ x,x < n->∀ y∈E x,y < n:=λx o=>(f.hE x o).2
 have M:(n:Int) < fI:=by unfold fI;omega
 have a6:=iz.start M hG o h0
 have bd:=FT a6.g.nd a6.g.lt
 simp only[abd,aaK,aa2] at bd
 refine av.cut (K:=λ_ H'=>(∃ (Dl':List Int) (L:List Nat) (Sl':List BV),(∃ u,nE c n H' Dl' L Sl' u)/\AY n E S0 (dF Dl) St (sF Sl) x (dF Dl') L (sF Sl'))∨∃ (Dl':List Int) (Sl':List BV) (st:Nat) (rest:List (List V)),Dl'.length=n/\Sl'.length=n/\H' c.d=.arr 1 (bK Dl')/\H' c.s=.arr 1 (bV Sl') /\
  H' c.qs=.arr 1 [[.sl st 0 St.length 1]]/\H' st=.arr 1 (gp St ++ rest)/\c.H0 st=.dead/\(∀ id,c.H0 id≠.dead->id≠c.qs->id≠c.d->id≠c.s->H' id=c.H0 id)/\AY n E S0 (dF Dl) St (sF Sl) x (dF Dl') St (sF Sl')) ?_ ?_
 rotate_left
 .rintro r H' (h | ⟨Dl',Sl',st,rest,R,k2,k3,k4,k5,k6,k7,k8,k9⟩)
  .exact .inl h
  .have B:∀ id,c.H0 id≠.dead->id≠st:=λid h e=>h (by rw[e];exact k7)
   refine .inr ⟨st,1,gp St,rest,k6,Dl',St,Sl',⟨.sl st 0 St.length 1,R,k2,?_,?_,?_,.inr ⟨st,by simp,by simp[View.set]⟩,λid h=>?_,λid h1 h2 h3 h4=>?_⟩,k9⟩
   .simp only[View.set];rw[aat (B _ f.live.2.1)];exact k3
   .simp only[View.set];rw[aat (B _ f.live.2.2)];exact k4
   .simp only[View.set];rw[aat (B _ f.live.1)];exact k5
   .simp only[owner,aau] at h;rw[<-h];exact k7
   .simp only[View.set];rw[aat (B _ h1)];exact k8 id h1 h2 h3 h4
 refine av.of mixed xl ?_
 obtain⟨N,a2,a3,a4⟩:=hJ.at f
 have hq:=hJ.hq
 have ca:cU u=some St.length:=by rw[hJ.own.len,aaA]
 simp(disch:=omega)only[↓wr,seval,wq,rj,hq]
 intro q mf
 simp(disch:=omega)only[↓wr,seval,wq,bM]
 refine gO (hJ.own.fresh mf) (by simp[aR]) (by unfold aD;simp;omega) (by unfold aD;simp;omega) ?_
 intro u2 H2 o2 l2
 have hlen:(gp St ++ [[gi (x:Int)]]).length=St.length+1:=by simp
 obtain⟨st,bl,_⟩:=o2.sl (by rw[hlen];omega)
 rw[hlen] at bl
 subst bl
 have O:=hJ.push f mf o2 l2
 have bn:H2 c.qs=.arr 1 [[u]]:=by
  have B:c.qs≠q:=λe=>hJ.live f.live.1 (by rw[e];exact mf)
  have hs:(H.set q (.arr 1 [[gi (x:Int)]])) c.qs=H c.qs:=by simp only[View.set];rw[aat B]
  have:=(l2 c.qs (by rw[hs,hq];simp) (λe=>f.live.1 (hJ.new _ e))).1
  rw[this,hs,hq]
 obtain⟨⟨m1,m2,m3⟩,⟨m4,m5,m6⟩,⟨m7,m8,m9⟩,⟨m10,m11,m12⟩,m13,m14,m15,m16⟩:=f.nes
 obtain⟨b1,b2,b3,b4⟩:=O.at f
 have b5:=O.hd
 simp only[View.set,aat m1] at b1
 simp only[View.set,aat m7] at b3
 simp only[View.set,aat m10] at b4
 simp only[View.set,aat m13] at b5
 have cc:=O.dl
 have bq:(bK Dl).set x [gi ((St.length:Int)+1)]=bK (Dl.set x ((St.length:Int)+1)):=ints_set _ _ _
 have a7:(bK Dl).set x [gi ((St.length+1:Nat):Int)]=bK (Dl.set x ((St.length:Int)+1)):=ints_set _ _ _
 have hex:=YJ (l:=c.us) (i:=x) (by rw[f.hl];exact o)
 have cf:cU (c.us.getD x .any)=some (E x).length:=by rw[(f.hu x o).len,aaA]
 have cV:=f.hl
 simp(disch:=omega)only[↓wr,seval,wq,bn,b1,b3,b4,b5,m1,m2,m7,m8,m10,m11,m13,bq,a7,pU (l:=Dl) (i:=x) (by omega),hex,cf]
 refine⟨o,by omega,o,by omega,?_⟩
 refine aS.up (E x).length (λi T H'=>∃ (Dl':List Int) (b:List Nat) (Sl':List BV) (st:Nat),nE c n H' Dl' (St ++ x :: b) Sl' (.sl st 0 (St ++ x :: b).length 1)/\iz n E S0 (dF Dl) St (sF Sl) x ((E x).take i) (dF Dl') b (sF Sl')/\T 0=gi x/\T 1=.ptr c.qs 0 0/\T 2=.ptr c.qd 0 0/\T 3=.aH [.ptr c.W 0 0] 0/\T 4=.ptr c.qv 0 0/\T 6=gi ((St.length+1:Nat):Int)/\T 27=c.us.getD x .any/\T 28=gi (E x).length/\T 29=gi i)
  ⟨Dl.set x ((St.length:Int)+1),[],Sl,st,by simpa using O.OO f (Dl':=Dl.set x ((St.length:Int)+1)) (by simp[cc]),by rw[Ey (by omega)];exact a6,rfl,rfl,rfl,rfl,rfl,rfl,rfl,rfl,rfl⟩ ?_
 clear b1 b2 b3 b4 b5 O bn mf l2 o2 ca hq N a2 a3 a4
 rintro i k T H' hk ⟨Dl',b,Sl',st,a,J,t0,t1,t2,t3,t4,t6,t27,t28,t29⟩
 have da:=(f.hE x o).1
 have c3:=a.dl
 have c5:=a.sl
 obtain⟨N,a2,a3,a4⟩:=a.at f
 simp(disch:=omega)only[↓wr,seval,wq,pP,t0,t1,t2,t3,t4,t6,t27,t28,t29]
 apply ah.dec<;>intro hc
 .have hy:(E x)[i]?=some ((E x)[i]'(by omega)):=aar (by omega)
  have S:=aaC (show i < (E x).length by omega)
  have G:(E x).take (i+1)=(E x).take i ++ [(E x)[i]'(by omega)]:=by rw[aaQ,hy];rfl
  generalize (E x)[i]'(by omega)=y at hy S G
  have cg:=Er hy
  have A:=Q x o y S
  obtain⟨id,hu,ch⟩:=(a.row f o).sl (by simp;omega)
  rw[aaA] at hu
  simp(disch:=omega)only[↓wr,seval,wq,t0,t1,t2,t3,t4,t6,t27,t28,t29,hu,ch,cg,N,a.hd,pU (l:=Dl') (i:=y) (by omega)]
  refine⟨by omega,by first | omega | (simp;omega),A,by omega,?_⟩
  apply ah.eq<;>intro hz
  .have db:=J9 (n:=n) (D:=dF Dl) (D':=dF Dl') (λz hz=>by rw[(J.old z hz).1];exact hz) o h0 (by have:=J.own.1;omega)
   simp(disch:=omega)only[↓wr,seval,wq,t4,t6,a2,F6.fn]
   refine ay.dr ((ih H' Dl' (St ++ x :: b) Sl' y (by omega) ⟨_,a⟩ J.g A hz).mono ?_)
   rintro r H5 ⟨p,dc,t,⟨u5,C⟩,hV⟩
   obtain⟨T5,rfl,a8⟩:=J.El Q M o h0 S hz hV
   obtain⟨cj,br,_⟩:=C.own.sl (by simp;omega)
   rw[aaA] at br
   subst br
   obtain⟨N,a2,a3,a4⟩:=C.at f
   have bs:=C.dl
   have bx:=C.sl
   have e1:(bK p).set x [gi (min (dF p x) (dF p y))]=bK (p.set x (min (dF p x) (dF p y))):=ints_set _ _ _
   have e2:(bV t).set x [gw (sF t x ||| sF t y)]=bV (t.set x (sF t x ||| sF t y)):=by simp[abR]
   simp(disch:=omega)only[↓wr,seval,wq,t0,t1,t2,t3,t4,t6,t27,t28,t29,N,a3,C.hd,C.hs,pU (l:=p) (i:=x) (by omega),pU (l:=p) (i:=y) (by omega),qG (l:=t) (i:=x) (by omega),qG (l:=t) (i:=y) (by omega),Sh,e1,e2,m1,m2,m3,m7,m8,m9,m13,m14,m15,m16,uR]
   refine⟨o,by omega,A,by omega,o,by omega,o,by omega,A,by omega,o,by omega,?_⟩
   exact aC hk (by omega) ⟨p.set x (min (dF p x) (dF p y)),T5,t.set x (sF t x ||| sF t y),cj,(C.OO f (by simp[bs])).AS f (by simp[bx]),by rw[G,Ey (by omega),JF (by omega)];exact a8,t0,t1,t2,t3,t4,t6,by first | exact t27 | (rw[hu];exact t27),t28,rfl⟩
  .have a8:=J.Vl Q M o h0 S hz
   obtain⟨N,a2,a3,a4⟩:=a.at f
   have b0:=a.dl
   have b7:=a.sl
   have e1:(bK Dl').set x [gi (min (dF Dl' x) (dF Dl' y))]=bK (Dl'.set x (min (dF Dl' x) (dF Dl' y))):=ints_set _ _ _
   have e2:(bV Sl').set x [gw (sF Sl' x ||| sF Sl' y)]=bV (Sl'.set x (sF Sl' x ||| sF Sl' y)):=by simp[abR]
   simp(disch:=omega)only[↓wr,seval,wq,t0,t1,t2,t3,t4,t6,t27,t28,t29,N,a3,a.hd,a.hs,pU (l:=Dl') (i:=x) (by omega),pU (l:=Dl') (i:=y) (by omega),qG (l:=Sl') (i:=x) (by omega),qG (l:=Sl') (i:=y) (by omega),Sh,e1,e2,m1,m2,m3,m7,m8,m9,m13,m14,m15,m16,uR]
   refine⟨o,by omega,A,by omega,o,by omega,o,by omega,A,by omega,o,by omega,?_⟩
   exact aC hk (by omega) ⟨Dl'.set x (min (dF Dl' x) (dF Dl' y)),b,Sl'.set x (sF Sl' x ||| sF Sl' y),st,(a.OO f (by simp[b0])).AS f (by simp[b7]),by rw[G,Ey (by omega),JF (by omega)];exact a8,t0,t1,t2,t3,t4,t6,by first | exact t27 | (rw[hu];exact t27),t28,rfl⟩
 .rw[aaJ (by omega)] at J
  simp(disch:=omega)only[↓wr,seval,wq,t0,t1,t2,t6,N,a.hd,pU (l:=Dl') (i:=x) (by omega)]
  refine⟨o,by omega,?_⟩
  refine ah.ne (λB=>?_) (λheq=>?_)
  .simp(disch:=omega)only[↓wr,seval,wq]
   exact .inl ⟨Dl',St ++ x :: b,Sl',⟨_,a⟩,J.keep (by omega)⟩
  .have hq:=a.hq
   have e3:((St.length+1:Nat):Int) - 1=(St.length:Int):=by omega
   have ck:(St ++ x :: b).length=St.length+(x :: b).length:=abd
   have U:H' st=.arr 1 (gp (St ++ x :: b)):=by
    rcases a.own with ⟨R,k2,k3⟩ | ⟨w,R,k2⟩
    .simp at k3
    .simp only[V.sl.injEq] at R
     rw[R.1];exact k2
   have F:=a.new st rfl
   have b8:dO 1 (.sl st 0 (St ++ x :: b).length 1) (some (gi (St.length:Int))) none=some (.sl st St.length (x :: b).length 1,.none,[]):=by
    rw[Lf (by omega),ck]
    congr 3 <;> omega
   have cu:dO 1 (.sl st 0 (St ++ x :: b).length 1) none (some (gi (St.length:Int)))=some (.sl st 0 St.length 1,.none,[]):=LC (by omega)
   have c9:=FT J.g.nd J.g.lt
   have cv:=J.fresh M hG
   have b9:=J.pop Q M o cv (by omega)
   simp(disch:=omega)only[↓wr,seval,wq,t0,t1,t2,t3,t6,hq,e3,b8]
   refine aS.up (b.length+1) (λj T H'=>∃ (Dj:List Int) (I:List BV),nE c n H' Dj (St ++ x :: b) I (.sl st 0 (St ++ x :: b).length 1)/\dF Dj=(λz=>if z∈(x :: b).take j then fI else dF Dl' z)/\sF I=(λz=>if z∈(x :: b).take j then sF Sl' x else sF Sl' z) /\
    T 0=gi x/\T 1=.ptr c.qs 0 0/\T 2=.ptr c.qd 0 0/\T 3=.aH [.ptr c.W 0 0] 0/\T 6=gi ((St.length+1:Nat):Int)/\T 79=.sl st St.length (b.length+1) 1/\T 80=gi ((b.length+1:Nat):Int)/\T 81=gi j) ⟨Dl',Sl',a,by simp,by simp,t0,t1,t2,t3,t6,rfl,rfl,rfl⟩ ?_
   clear t0 t1 t2 t3 t4 t6 t27 t28 t29 N a2 a3 a4 hq U a b8
   rintro j k2 T H6 cA ⟨Dj,I,v,bb,X,t0,t1,t2,t3,t6,t79,t80,t81⟩
   obtain⟨N,a2,a3,a4⟩:=v.at f
   have U:H6 st=.arr 1 (gp (St ++ x :: b)):=by
    rcases v.own with ⟨R,k2,k3⟩ | ⟨w,R,k2⟩
    .simp at k3
    .simp only[V.sl.injEq] at R
     rw[R.1];exact k2
   have an:=v.dl
   have aq:=v.sl
   simp(disch:=omega)only[↓wr,seval,wq,pz,t0,t1,t2,t3,t6,t79,t80,t81]
   apply ah.dec<;>intro cC
   .have Y:j < (x :: b).length:=by simp;omega
    have hy:(x :: b)[j]?=some ((x :: b)[j]'Y):=aar Y
    have G:(x :: b).take (j+1)=(x :: b).take j ++ [(x :: b)[j]'Y]:=by rw[aaQ,hy];rfl
    generalize (x :: b)[j]'Y=y at hy G
    have A:=J.g.lt y (ab4 _ (aax hy))
    have cN:(gp (St ++ x :: b)).getD (St.length+j) []=[gi (y:Int)]:=Er (by rw[aa7 (by omega),Nat.add_sub_cancel_left];exact hy)
    have cS:sF I x=sF Sl' x:=by rw[X];simp only;split <;> rfl
    have e1:(bK Dj).set y [gi 1073741824]=bK (Dj.set y fI):=ints_set _ _ _
    have e2:(bV I).set y [gw (sF I x)]=bV (I.set y (sF I x)):=by simp[abR]
    simp(disch:=omega)only[↓wr,seval,wq,t0,t1,t2,t3,t6,t79,t80,t81,U,cN,N,a3,v.hd,v.hs,pU (l:=Dj) (i:=y) (by omega),qG (l:=I) (i:=x) (by omega),qG (l:=I) (i:=y) (by omega),e1,e2,m1,m2,m3,m7,m8,m9,m13,m14,m15,m16]
    refine⟨by omega,by omega,A,by omega,o,by omega,A,by omega,?_⟩
    have ar:∀ z,z∈(x :: b).take (j+1)↔z=y∨z∈(x :: b).take j:=λz=>by rw[G,aaZ,abq];exact Or.comm
    refine aC cA (by omega) ⟨Dj.set y fI,I.set y (sF I x),(v.OO f (by simp[an])).AS f (by simp[aq]),?_,?_,t0,t1,t2,t3,t6,t79,t80,rfl⟩
    .rw[Ey (by omega),bb]
     funext z
     simp only[kx,ar]
     by_cases P:z=y
     .rw[aaw P,aaw (.inl P)]
     .by_cases Z:z∈(x :: b).take j
      .rw[aat P,aaw Z,aaw (.inr Z)]
      .rw[aat P,aat Z,aat (λh=>h.elim P Z)]
    .rw[JF (by omega),cS,X]
     funext z
     simp only[kx,ar]
     by_cases P:z=y
     .rw[aaw P,aaw (.inl P)]
     .by_cases Z:z∈(x :: b).take j
      .rw[aat P,aaw Z,aaw (.inr Z)]
      .rw[aat P,aat Z,aat (λh=>h.elim P Z)]
   .have hj:j=b.length+1:=by omega
    rw[aaJ (by simp;omega)] at bb X
    simp(disch:=omega)only[↓wr,seval,wq,t1,t6,v.hq,e3,cu]
    refine .inr ⟨Dj,I,st,gp (x :: b),an,aq,?_,?_,?_,?_,F,λid h1 h2 h3 h4=>?_,by rw[bb,X];exact b9⟩
    .show (H6.set c.qs _) c.d=_
     simp only[View.set];rw[aat m13];exact v.hd
    .show (H6.set c.qs _) c.s=_
     simp only[View.set];rw[aat m14];exact v.hs
    .simp[View.set]
    .show (H6.set c.qs _) st=_
     simp only[View.set];rw[aat (λe=>f.live.1 (by rw[<-e];exact F)),U];exact abk (di.arr 1) aaS
    .show (H6.set c.qs _) id=_
     simp only[View.set];rw[aat h2];exact v.keep id h1 h2 h3 h4
def gE:SC :=
 ae [ab [aQ 9 .lss 8 7],bS 9 (.exit 0),.block 1 (ae [ab [aa 10 8,aa 5 10],ab [aa 11 1,aa 12 0,aa 13 5,aI 14 2 12 13,aY 15 2 14,((some 16),.call (.tmp 11) [(.tmp 15)])],bf 16 (ae [ab [aa 17 5,aa 4 17],.ret])]),ab [aF 18 .add 8 1,aa 8 18]]
def gS:SF:=⟨ae [ab [aT 4 0],ae [ab [aa 6 0,aM 7 6,aT 8 0],bX 0 gE],ab [aT 4 (-1)],.ret],
 [.tmp 4],19⟩
theorem kF:aO Tryz.prog 68 []=some gS:=by kernel_rfl
def As:SF:=⟨ae [ab [cy 2 0,bw 3 false],ab [ao 4 0 2,aj 5 4,aj 6 1,aQ 7 .eql 5 6,aa 3 7],.ret],
 [.tmp 3],8⟩
theorem Ep:aO Tryz.prog 69 [2]=some As:=by kernel_rfl
def Ar:SC :=
 ae [ab [aQ 24 .lss 23 22],bS 24 (.exit 0),.block 1 (ae [ab [aI 25 1 21 23,aj 26 25,((some 10),.op (.alloc [(.val (.int .i64 0))])),bZ 1 10 26],ab [aa 27 0,aa 28 8,aI 29 2 27 28,ao 30 1 29,aj 31 30,((some 32),.op (.rQ 69 [] [(.tmp 10)])),bm 33 68 [31,32],aa 11 33],ae [ab [aa 34 11,aF 35 .lss 34 0],bf 35 (ae [ab [aT 6 0,bw 7 false],.ret])],ab [aa 36 0,aa 37 8,aI 38 2 36 37,ao 39 1 38,aj 40 39,aa 41 11,aI 42 2 40 41,ao 43 1 42,aj 44 43,aa 8 44],.region false [⟨none,[aa 45 8,aF 46 .lss 45 0,aa 47 46]⟩,⟨(some (47,false)),[aa 48 8,aa 49 0,aM 50 49,aQ 51 .geq 48 50]⟩,⟨none,[cF 52 47 51]⟩],bf 52 (ae [ab [aT 6 0,bw 7 false],.ret])]),ab [aF 53 .add 23 1,aa 23 53]]
def Dx:SF:=⟨ae [ab [aT 6 0,bw 7 false],ab [aa 12 1,aa 8 12],ae [.region false [⟨none,[aa 13 8,aF 14 .lss 13 0,aa 15 14]⟩,⟨(some (15,false)),[aa 16 8,aa 17 0,aM 18 17,aQ 19 .geq 16 18]⟩,⟨none,[cF 20 15 19]⟩],bf 20 (ae [ab [aT 6 0,bw 7 false],.ret])],ae [ab [aa 21 2,aM 22 21,aT 23 0],bX 0 Ar],ab [aa 54 8,aa 6 54,bw 7 true],.ret],
 [.tmp 6,.tmp 7],55⟩
theorem GV:aO Tryz.prog 28 []=some Dx:=by kernel_rfl
theorem Qr (l:List cr) (hl:aK l) (f:FuncId) (cap:List V) (p:cr->Bool) (H:View) (g:∀ x∈l,av Tryz.prog f (.agg (kc x) :: cap) H λr H'=>r=gb (p x)/\H'=H) :
  av Tryz.prog 68 [.aE (fN l),.fn f [] cap] H λr H'=>r=gi (cz p l 0)/\H'=H:=by
 refine av.of mixed kF ?_
 unfold aK at hl
 simp(disch:=omega)only[↓wr,seval,wq,gS,fN]
 refine aS.up l.length (λi T H'=>H=H'/\cz p (l.drop i) i=cz p l 0/\T 0=.aE (l.map kc)/\T 1=.fn f [] cap/\T 7=gi l.length/\T 8=gi i) ⟨rfl,rfl,rfl,rfl,rfl,rfl⟩ ?_
 rintro i k T _ hk ⟨rfl,hi,b,h1,c,d⟩
 simp(disch:=omega)only[↓wr,seval,wq,gE,b,h1,c,d]
 apply ah.dec<;>intro h
 .have e:l[i]?=some (l[i]'(by omega)):=aar (by omega)
  have hm:l[i]'(by omega)∈l:=aaC _
  rw[eZ (show i < l.length by omega)] at hi
  generalize l[i]'(by omega)=x at e hm hi
  simp(disch:=omega)only[↓wr,seval,wq,b,h1,c,d,aav,e,aaz,kc]
  have a:=g x hm
  simp only[kc] at a
  refine ay.dr (a.mono ?_)
  rintro r j ⟨rfl,rfl⟩
  simp only[cz] at hi
  simp(disch:=omega)only[↓wr,seval,wq]
  apply ah.split<;>intro hp
  .simp(disch:=omega)only[↓wr,seval,wq,b,h1,c,d]
   rw[<-hi,aaw hp]
  .simp(disch:=omega)only[↓wr,seval,wq,b,h1,c,d]
   refine aC hk (by omega) ⟨rfl,?_,b,h1,c,rfl⟩
   rw[aat (by simp[hp])] at hi
   push_cast;exact hi
 .rw[aaV (by omega)] at hi
  simp(disch:=omega)only[↓wr,seval,wq,b,h1,c,d]
  rw[<-hi];rfl
theorem UA (x:cr) (s:Int) (q:Nat) (H:View) (hq:H q=.arr 1 [[gi s]]):av Tryz.prog 69 [.agg (kc x),.ptr q 0 0] H λr H'=>r=gb (decide (x.sym=s))/\H'=H:=by
 refine av.of mixed Ep ?_
 simp(disch:=omega)only[↓wr,seval,wq,As,kc,hq]
 congr 2
theorem K4 (s:Int):∀ (l:List cr) (i:Int),0<=i->(cz (λe=>decide (e.sym=s)) l i < 0->dz l s = -1)/\(0<=cz (λe=>decide (e.sym=s)) l i->∃ (k:Nat) (e:cr),cz (λe=>decide (e.sym=s)) l i=i+k/\l[k]?=some e/\dz l s=e.to)
 | [],i,_=>⟨λ_=>rfl,λh=>by simp[cz] at h⟩
 | x :: l,i,d=>by
  simp only[cz,dz,aaE]
  by_cases h:x.sym=s
  .rw[aaw h,aaw h]
   exact⟨λh=>by omega,λ_=>⟨0,x,by simp,rfl,rfl⟩⟩
  .rw[aat h,aat h]
   obtain⟨h1,a⟩:=K4 s l (i+1) (by omega)
   refine⟨h1,λh=>?_⟩
   obtain⟨k,e,b,k2,c⟩:=a h
   exact⟨k+1,e,by rw[b];push_cast;omega,by simpa using k2,c⟩
theorem QJ {l:List cr} (h:∀ e∈l,b6 e.to) (s:Int):b6 (dz l s):=by
 induction l with
 | nil=>unfold b6;simp[dz]
 | cons e l a =>
  rw[dz];split
  .exact h e (by simp)
  .exact a λx b=>h x (by simp[b])
theorem VL (a:List aL) (_:aK a) (he:∀ s∈a,aK s.aJ/\∀ e∈s.aJ,b6 e.sym/\b6 e.to) (fr:Int) (syms:List Int) (hs:aK syms):az Tryz.prog 28 [aW a,gi fr,encI syms] (.bD [gi (ef a fr syms).1,gb (ef a fr syms).2]):=by
 unfold aK at hs
 refine az.tree (by
  intro v l;simp at l
  rcases l with rfl | rfl | rfl
  .exact lH _
  .exact .val _
  .exact fa _) (Ch (.val _) (.val _)) λH=>?_
 refine av.of mixed GV ?_
 unfold ef
 simp(disch:=omega)only[↓wr,seval,wq,Dx,aW,encI]
 apply ah.dec<;>intro h1
 .simp(disch:=omega)only[↓wr,seval,wq]
  rw[aaw (by omega)]
 simp(disch:=omega)only[↓wr,seval,wq,aW]
 apply ah.dec<;>intro t
 .simp(disch:=omega)only[↓wr,seval,wq]
  rw[aaw (by omega)]
 rw[aat (by omega)]
 simp(disch:=omega)only[↓wr,seval,wq]
 refine aS.up syms.length (λi T H'=>∃ at_:Int,0<=at_/\at_ < a.length/\eS a at_ (syms.drop i)=eS a fr syms/\T 0=aW a/\T 8=gi at_/\T 21=encI syms/\T 22=gi syms.length/\T 23=gi i) ⟨fr,by omega,by omega,rfl,rfl,rfl,rfl,rfl,rfl⟩ ?_
 rintro i k T H' hk ⟨at_,C,D,hw,t0,t8,t21,t22,t23⟩
 simp(disch:=omega)only[↓wr,seval,wq,Ar,t0,t8,t21,t22,t23,encI]
 apply ah.dec<;>intro u
 .have m:syms[i]?=some (syms[i]'(by omega)):=aar (by omega)
  rw[abg (show i < syms.length by omega)] at hw
  generalize syms[i]'(by omega)=x at m hw
  have f:a[at_.toNat]?=some (a.getD at_.toNat aN):=getD_some (by omega)
  obtain⟨b,c⟩:=he _ (aax f)
  rw[eS] at hw
  have g:=QJ (λe h=>(c e h).2) x
  generalize a.getD at_.toNat aN=S at f b c hw g
  simp(disch:=omega)only[↓wr,seval,wq,t0,t8,t21,t22,t23,encI,aav,m,aaz]
  intro q hq
  rw[set_set]
  have d:(H'.set q (.arr 1 [[gi x]])) q=.arr 1 [[gi x]]:=by simp[View.set]
  generalize H'.set q (.arr 1 [[gi x]])=n at d
  simp(disch:=omega)only[↓wr,seval,wq,t0,t8,aW,aav,f,aaz,eu]
  refine ay.dr ((Qr S.aJ b 69 [.ptr q 0 0] (λe=>decide (e.sym=x)) n (λe _=>UA e x q n d)).mono ?_)
  rintro r E ⟨rfl,rfl⟩
  obtain⟨i1,i2⟩:=K4 x S.aJ 0 (by omega)
  unfold aK at b
  simp(disch:=omega)only[↓wr,seval,wq]
  apply ah.dec<;>intro o
  .simp(disch:=omega)only[↓wr,seval,wq]
   rw[<-hw,i1 o,aat (by omega)]
  .obtain⟨j,e,w,p,y⟩:=i2 (by omega)
   have F:=(aaG.1 p).1
   rw[w]
   have z:((0:Int)+(j:Int))=(j:Int):=by omega
   rw[z]
   rw[y] at hw g
   unfold b6 at g
   simp(disch:=omega)only[↓wr,seval,wq,t0,t8,aW,aav,f,aaz,eu,fN,p,kc]
   apply ah.dec<;>intro A
   .simp(disch:=omega)only[↓wr,seval,wq]
    rw[<-hw,aat (by omega)]
   .simp(disch:=omega)only[↓wr,seval,wq,t0,aW]
    apply ah.dec<;>intro B
    .simp(disch:=omega)only[↓wr,seval,wq]
     rw[<-hw,aat (by omega)]
    .simp(disch:=omega)only[↓wr,seval,wq,t0,t21,t22,t23]
     rw[aaw ⟨by omega,by omega⟩] at hw
     exact aC hk (by omega) ⟨e.to,by omega,by omega,hw,t0,rfl,t21,t22,rfl⟩
 .simp(disch:=omega)only[↓wr,seval,wq,t8]
  rw[aaV (by omega),eS] at hw
  rw[<-hw]
theorem qh.start {n:Nat} {E:Nat->List Nat} {S0:Nat->BV} : qh n E S0 (λ_=>0) [] S0 where
 nd:=.nil
 lt:=λ_ h=>by simp at h
 zero:=λ_ _ _=>⟨rfl,by simp⟩
 IJ:=λ_ _ h=>by simp[fI] at h
 on:=λ_ _ h=>absurd rfl h
 sound:=λz t _ h=>⟨z,.refl,h⟩
 base:=λ_ _ _ h=>h
theorem XY (n:Nat):dF (List.replicate n 0)=λ_=>0:=by
 funext z
 simp only[dF,aaq,abX]
 split <;> rfl
theorem jD {p:Prop} [Decidable p] {k:Nat} {es:List (List V)} {o:di} (h:(if p then di.arr k es else o)=.dead):¬ p/\o=.dead:=by
 split at h
 .simp at h
 .rename_i hp;exact⟨hp,h⟩
structure YN (n:Nat) (E:Nat->List Nat) (H:View) (W s e:Nat) (us:List V) (fs:V × V × V × V × V × V × V × V):Prop where
 hW:H W=.arr 10 [[fs.1,fs.2.1,fs.2.2.1,fs.2.2.2.1,fs.2.2.2.2.1,fs.2.2.2.2.2.1,fs.2.2.2.2.2.2.1,fs.2.2.2.2.2.2.2,.sl s 0 n 1,.sl e 0 n 1]]
 he:H e=.arr 1 (us.map λu=>[u])
 hl:us.length=n
 hu:∀ x,x < n->ba H (us.getD x .any) 1 (gp (E x))
 hE:∀ x,x < n->(E x).length<=1000000000/\∀ y∈E x,y < n
 hw:cU fs.2.2.2.2.2.2.2=some n
 ns:W≠s/\e≠s/\∀ x,x < n->owner (us.getD x .any)≠some s
theorem Hu {n:Nat} {E:Nat->List Nat} {H:View} {W s e:Nat} {us:List V} {fs:V × V × V × V × V × V × V × V} (g:YN n E H W s e us fs) (h1:1<=n) (hn:n<=100000) (Sl:List BV) (hs:H s=.arr 1 (bV Sl)) (U:Sl.length=n) :
  av Tryz.prog 75 [.ptr W 0 0] H λ_ H'=>∃ Sl':List BV,Sl'.length=n/\H' s=.arr 1 (bV Sl')/\(∀ z t,z < n->((sF Sl' z).getLsbD t=true↔nt E (sF Sl) z t))/\∀ id,H id≠.dead->id≠s->H' id=H id:=by
 obtain⟨f0,f1,f2,f3,f4,f5,f6,f7⟩:=fs
 refine av.of mixed yL ?_
 have hW:=g.hW
 have hw:=g.hw
 simp only at hW hw
 simp(disch:=omega)only[↓wr,seval,wq,tN,hW,hw]
 refine⟨⟨by omega,by unfold aD;omega,by unfold aD;omega⟩,λh0=>by omega,λ_ d X=>?_⟩
 intro o mf A a j AA
 obtain⟨Y,mf⟩:=jD mf
 obtain⟨a2,a⟩:=jD a
 rw[aat a2] at a
 obtain⟨a3,a⟩:=jD a
 obtain⟨a4,AA⟩:=jD AA
 obtain⟨a5,AA⟩:=jD AA
 rw[aat a5] at AA
 obtain⟨Z,AA⟩:=jD AA
 have lw:∀ {id k es},H id=.arr k es->id≠d/\id≠o/\id≠A/\id≠j:=λ{id k es} h=>by
  refine⟨λe=>?_,λe=>?_,λe=>?_,λe=>?_⟩ <;> rw[e] at h <;> simp_all
 obtain⟨w1,w2,w3,w4⟩:=lw hW
 obtain⟨s1,s2,s3,s4⟩:=lw hs
 obtain⟨e1,e2,e3,e4⟩:=lw g.he
 simp(disch:=omega)only[↓wr,seval,wq,w1,w2,w3,w4,hw]
 generalize b:View.set (View.set _ _ _) j (di.arr 1 [[V.fn _ _ _]])=H0
 have hk:∀ id,id≠d->id≠o->id≠A->id≠j->H0 id=H id:=λid B k2 k3 k4=>by
  rw[<-b];simp only[View.set];rw[aat k4,aat k4,aat k3,aat k2,aat k2,aat B]
 have J:H0 j=.arr 1 [[.fn 122 [] [.ptr A 0 0,.ptr o 0 0,.aH [.ptr W 0 0] 0,.ptr j 0 0]]]:=by rw[<-b];simp[View.set]
 have v:H0 A=.arr 1 [[.emp 1]]:=by rw[<-b];simp only[View.set];rw[aat (Ne.symm a4),aat (Ne.symm a4)];simp
 have K:H0 o=.arr 1 [[.sl d 0 n 1]]:=by rw[<-b];simp only[View.set];rw[aat (Ne.symm a5),aat (Ne.symm a5),aat (Ne.symm a2)];simp
 have L:H0 d=.arr 1 (bK (List.replicate n 0)):=by rw[<-b];simp only[View.set];rw[aat (Ne.symm Z),aat (Ne.symm Z),aat (Ne.symm a3),aat (Ne.symm Y),aat (Ne.symm Y)];simp
 clear b
 let c:F6:=⟨A,o,j,W,d,s,e,f0,f1,f2,f3,f4,f5,f6,f7,us,H0⟩
 have an:∀ x,x < n->∀ id,owner (us.getD x .any)=some id->id≠d/\id≠o/\id≠A/\id≠j:=λx D id w=>by
  rcases g.hu x D with ⟨_,k,k2⟩ | ⟨m,B,k2⟩
  .rw[k2] at w;simp[owner] at w
  .rw[B] at w;simp only[owner,aau] at w
   rw[<-w];exact lw k2
 have M:Gj c n E:={
  mf:=K
  AA:=J
  hW:=by rw[<-hW];exact hk W w1 w2 w3 w4
  he:=by rw[<-g.he];exact hk e e1 e2 e3 e4
  hl:=g.hl
  hu:=λx D=>by
   rcases g.hu x D with h | ⟨m,B,k2⟩
   .exact .inl h
   .refine .inr ⟨m,B,?_⟩
    obtain⟨F,Q,G,R⟩:=lw k2
    rw[<-k2];exact hk m F Q G R
  hE:=g.hE
  live:=⟨by simp only[c];rw[v];simp,by simp only[c];rw[L];simp,by simp only[c];rw[hk s s1 s2 s3 s4,hs];simp⟩
  ne:=⟨a3,Ne.symm s3,Ne.symm s1⟩
  zQ:=λid h=>by
   obtain⟨n1,n2,n3⟩:=g.ns
   rcases h with rfl | rfl | rfl | rfl | ⟨x,D,w⟩
   .exact⟨Ne.symm a2,Y,Ne.symm s2⟩
   .exact⟨a4,Z,Ne.symm s4⟩
   .exact⟨w3,w1,n1⟩
   .exact⟨e3,e1,n2⟩
   .obtain⟨F,Q,G,R⟩:=an x D id w
    exact⟨G,F,λe=>n3 x D (by have e2:id=s:=e;rw[<-e2];exact w)⟩ }
 have aq:nE c n H0 (List.replicate n 0) [] Sl (.emp 1):=⟨by simp,U,L,by simp only[c];rw[hk s s1 s2 s3 s4,hs],v,.nil,λid h=>by simp[owner] at h,λid _ _ _ _=>rfl⟩
 refine aS.up n (λi T H'=>∃ (Dl:List Int) (I:List BV) (u:V),nE c n H' Dl [] I u/\qh n E (sF Sl) (dF Dl) [] (sF I)/\(∀ z,z < i->dF Dl z=fI)/\T 2=.ptr o 0 0/\T 4=.ptr j 0 0/\T 17=gi n/\T 18=gi i) ⟨List.replicate n 0,Sl,.emp 1,aq,by rw[XY];exact qh.start,λz C=>by omega,rfl,rfl,rfl,rfl⟩ ?_
 rintro i k T H' N ⟨Dl,I,u,y,S,f,t2,t4,t17,t18⟩
 obtain⟨b1,b2,b3,b4⟩:=y.at M
 have bd:=y.dl
 have hd:=y.hd
 simp only[c,F6.fn] at b1 b2 hd
 simp(disch:=omega)only[↓wr,seval,wq,rm,t2,t4,t17,t18]
 apply ah.dec<;>intro hc
 .have hi:i < n:=by omega
  simp(disch:=omega)only[↓wr,seval,wq,t2,t4,t17,t18,b1,hd,pU (l:=Dl) (i:=i) (by omega)]
  refine⟨hi,by omega,?_⟩
  apply ah.eq<;>intro C
  .simp(disch:=omega)only[↓wr,seval,wq,t4,b2]
   refine ay.dr ((VN M hn (sF Sl) (Jw n (dF Dl)) H' Dl [] I i (aaD _) ⟨u,y⟩ S hi C).mono ?_)
   rintro r H5 ⟨ar,bl,a7,⟨u5,a8⟩,hV⟩
   obtain⟨rfl,O⟩:=hV.top hi
   simp(disch:=omega)only[↓wr,seval,wq,t2,t4,t17,t18]
   refine aC N (by omega) ⟨ar,a7,u5,a8,hV.1,λz bb=>?_,t2,t4,t17,rfl⟩
   by_cases e:z=i
   .rw[e];exact O
   .have:=f z (by omega)
    rw[(hV.2.1 z (by rw[this];decide)).1];exact this
  .simp(disch:=omega)only[↓wr,seval,wq,t2,t4,t17,t18]
   refine aC N (by omega) ⟨Dl,I,u,y,S,λz bb=>?_,t2,t4,t17,rfl⟩
   by_cases e:z=i
   .rw[e]
    refine abB λhf=>?_
    obtain⟨p,B,_⟩:=S.on i hi C hf
    simp at B
   .exact f z (by omega)
 .simp(disch:=omega)only[↓wr,seval,wq]
  refine⟨I,y.sl,y.hs,λz t C=>S.all (λz C=>f z (by omega)) C,λid h1 h2=>?_⟩
  have q:id≠d/\id≠o/\id≠A/\id≠j:=⟨λe=>h1 (by rw[e];exact X),λe=>h1 (by rw[e];exact mf),λe=>h1 (by rw[e];exact a),λe=>h1 (by rw[e];exact AA)⟩
  obtain⟨F,Q,G,R⟩:=q
  have P:=hk id F Q G R
  rw[<-P]
  exact y.keep id (by simp only[c];rw[P];exact h1) G F h2
end Gv
