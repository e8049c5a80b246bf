/-
  Part 13 of the proof: what the machine does and what the functions answer.
  Conditions: those that each lemma names.
-/
import Derived.Test.YtiophifnkakjgaaGreatSGzC2L
set_option linter.unusedSimpArgs false
set_option linter.unusedVariables false
set_option maxRecDepth 100000
set_option maxHeartbeats 20000000
namespace Gv
open Go Go.Proofs
def nY:SF:=⟨ae [ab [((some 0),.op (.alloc [(.emp 1),(.val (.bool false))]))],ab [((some 1),.op (.bM 1 1 [(.val (.int .u32 0))] [(0,(.val (.val (.int .u32 1))))])),((some 2),.op (.build [(.emp 1),(.val (.bool false))] [(0,1,(.tmp 1))])),cb 2 0 2],.ret],
 [.cell 0 (some 2)],3⟩
theorem sx:aE Tryz.prog 182 []=some nY:=by kernel_rfl
def nB:SF:=⟨ae [ab [cE 2 0,cE 3 1,((some 4),.op (.alloc [(.emp 1),(.val (.bool false))]))],ab [av 8 0 2,ak 9 8,av 10 0 3,ak 11 10,aJ 12 240 [9,11],aa 7 12,cP 13 0 7,cP 14 1 7,aa 5 13,aa 6 14],ae [.region false [⟨none,[av 15 1 2,ak 16 15,aa 17 16]⟩,⟨(some (17,false)),[av 18 1 3,ak 19 18]⟩,⟨none,[bq 20 17 19,aa 21 20]⟩,⟨(some (21,false)),[aa 22 6,ax 23 .neq 22 0]⟩,⟨none,[bq 24 21 23]⟩],bc 24 (ae [ab [((some 25),.op (.build [(.emp 1),(.val (.bool false))] [(1,1,(.val (.val (.bool true))))])),cb 2 4 25],.ret])],ab [aa 26 5,((some 27),.op (.build [(.emp 1),(.val (.bool false))] [(0,1,(.tmp 26))])),cb 2 4 27],.ret],
 [.cell 4 (some 2)],28⟩
theorem rb:aE Tryz.prog 184 [2,3]=some nB:=by kernel_rfl
def dY:SF:=⟨ae [ab [cE 2 0,cE 3 1,((some 4),.op (.alloc [(.emp 1),(.val (.bool false))]))],ae [.region false [⟨none,[av 7 1 2,ak 8 7,bS 9 8,aa 10 9]⟩,⟨(some (10,true)),[av 11 0 2,ak 12 11,aR 13 12,ax 14 .eql 13 0]⟩,⟨none,[bV 15 10 14,aa 16 15]⟩,⟨(some (16,false)),[av 17 1 3,ak 18 17,bS 19 18,aa 20 19]⟩,⟨(some (20,true)),[av 21 0 3,ak 22 21,aR 23 22,ax 24 .eql 23 0]⟩,⟨(some (16,false)),[bV 25 20 24]⟩,⟨none,[bq 26 16 25]⟩],bc 26 (ae [ab [((some 27),.op (.build [(.emp 1),(.val (.bool false))] [])),cb 2 4 27],.ret])],ab [av 29 0 2,ak 30 29,av 31 0 3,ak 32 31,aJ 33 241 [30,32],aa 28 33,cP 34 0 28,cP 35 1 28,aa 5 34,aa 6 35],ae [.region false [⟨none,[av 36 1 2,ak 37 36,aa 38 37]⟩,⟨(some (38,false)),[av 39 1 3,ak 40 39]⟩,⟨none,[bq 41 38 40,aa 42 41]⟩,⟨(some (42,false)),[aa 43 6,ax 44 .neq 43 0]⟩,⟨none,[bq 45 42 44]⟩],bc 45 (ae [ab [((some 46),.op (.build [(.emp 1),(.val (.bool false))] [(1,1,(.val (.val (.bool true))))])),cb 2 4 46],.ret])],ab [aa 47 5,((some 48),.op (.build [(.emp 1),(.val (.bool false))] [(0,1,(.tmp 47))])),cb 2 4 48],.ret],
 [.cell 4 (some 2)],49⟩
theorem qL:aE Tryz.prog 185 [2,3]=some dY:=by kernel_rfl
def iu:SF:=⟨ae [ab [cE 1 0,cp 2 1,aN 3 0],ae [ab [av 4 1 1,ak 5 4],bc 5 (ae [ab [cp 2 1,aN 3 2],.ret])],ab [av 6 0 1,ak 7 6,aa 2 7,aN 3 0],.ret],
 [.tmp 2,.tmp 3],8⟩
theorem rF:aE Tryz.prog 118 [1]=some iu:=by kernel_rfl
def jR (c:bF):List Nat:=cB (c.getD 0)
def dz (c:bF) (r:List V):Prop:=∃ u,r=[u,gb c.isNone]/\(u=dW (jR c)∨jR c=[]/\u=.emp 1)
abbrev ig (c:bF):List V:=[dW (jR c),gb c.isNone]
theorem dz.self (c:bF):dz c (ig c):=⟨_,rfl,.inl rfl⟩
theorem dz.zero:dz (some 0) [.emp 1,gb false]:=⟨_,rfl,.inr ⟨rfl,rfl⟩⟩
def fZ (c:bF):Prop:=c.getD 0 < dO
theorem dB:0 < dO:=by unfold dO;exact Nat.pow_pos (by decide)
theorem Bt (a b:bF):eW a b=if a.isNone || b.isNone || !decide (a.getD 0+b.getD 0 < dO) then none else some (a.getD 0+b.getD 0):=by
 cases a with
 | none=>rfl
 | some a =>
  cases b with
  | none=>rfl
  | some b =>
   simp only[eW,Option.isNone_some,Qn,OS]
   by_cases h:a+b < dO
   .rw[OM h,OK (by simp[h])]
   .rw[OK h,OM (by simp[h])]
theorem Cz (a b:bF):fZ (eW a b):=by
 rw[Bt]
 unfold fZ
 split
 .exact dB
 .rename_i h
  simp at h
  exact h.2
theorem pX (a b:bF):fZ (eS a b):=by
 unfold eS fZ
 split
 .exact dB
 .cases a <;> cases b <;> try exact dB
  simp only
  split
  .assumption
  .exact dB
theorem j5 {c:bF} {r:List V} (h:dz c r):Tree (.agg r):=by
 obtain⟨u,rfl,h⟩:=h
 refine .agg _ λi hi=>?_
 match i,hi with
 | 0,_ =>
  rcases h with rfl | ⟨_,rfl⟩
  .exact fG _
  .exact .emp 1
 | 1,_=>exact .val _
theorem CB {f:FuncId} {u v t:V} {a b:List Nat} (hu:u=dW a∨a=[]/\u=.emp 1) (c:v=dW b∨b=[]/\v=.emp 1) (h:ar Tryz.prog f [dW a,dW b] t):ar Tryz.prog f [u,v] t:=by
 have key:∀ {u:V} {a:List Nat},(u=dW a∨a=[]/\u=.emp 1)->Tree u/\Fr [] u (dW a):=λhu=>by
  rcases hu with rfl | ⟨rfl,rfl⟩
  .exact⟨fG _,.tree _ (fG _)⟩
  .exact⟨.emp 1,.emp 1⟩
 refine h.seen (λi hi=>?_) rfl (λi hi=>?_)
 .match i,hi with
  | 0,_=>exact(key hu).1
  | 1,_=>exact(key c).1
 .match i,hi with
  | 0,_=>exact(key hu).2
  | 1,_=>exact(key c).2
theorem mQ {h:aw} {u v:V} {b:Bool} (hu:Fr h u v):Fr h (.agg [u,gb b]) (.agg [v,gb b]):=.agg _ _ rfl λi hi=>by
 match i,hi with
 | 0,_=>exact hu
 | 1,_=>exact .tree _ (.val _)
theorem pj {h:aw} {u v:V} {e:Int} (hu:Fr h u v):Fr h (.aU [u,gi e]) (.aU [v,gi e]):=.aU _ _ rfl λi hi=>by
 match i,hi with
 | 0,_=>exact hu
 | 1,_=>exact .tree _ (.val _)
theorem vg {h:aw} {r:bF} (e:r=some 0):Fr h (.agg [.emp 1,gb false]) (.agg (ig r)):=by subst e;exact mQ (.emp 1)
theorem l5 {h:aw} {r:bF} (e:r=none):Fr h (.agg [.emp 1,gb true]) (.agg (ig r)):=by subst e;exact mQ (.emp 1)
theorem LF {h:aw} {r:bF} {s:Nat} (e:r=some s):Fr h (.agg [dW (cB s),gb false]) (.agg (ig r)):=by subst e;exact .tree _ (j5 (dz.self (some s)))
theorem Jw:cB 1=[1]:=by decide
theorem wo:ar Tryz.prog 182 [] (.agg (ig (some 1))):=by
 refine ar.of (by simp) (an.of mixed sx ?_)
 simp(disch:=omega)only[↓wr,seval,wq,nY]
 intro n m hm
 have a:m≠n:=by rintro rfl;simp at hm
 simp(disch:=omega)only[↓wr,seval,wq,a,Ne.symm a]
 intro c b
 have h1:jR (some 1)=[1]:=Jw
 rw[show ig (some 1)=[dW [1],gb false] by unfold ig;rw[h1];rfl]
 refine mQ (de.yV (sz:=1) (l:=[1]) (f:=λx:Nat=>.int .u32 (x:Int)) (.inr ⟨m,rfl,?_⟩)).fr
 rw[b]
 simp[View.set,a]
theorem mY {a b:bF} {x y:List V} (i:dz a x) (j:dz b y) (k:fZ a) (l:fZ b):ar Tryz.prog 184 [.agg x,.agg y] (.agg (ig (eW a b))):=by
 have m:∀ v∈[V.agg x,V.agg y],Tree v:=by
  intro v c;simp at c
  rcases c with rfl | rfl
  .exact j5 i
  .exact j5 j
 obtain⟨u,rfl,hu⟩:=i
 obtain⟨v,rfl,c⟩:=j
 have d:=CB hu c (JO k l).pure
 refine ar.of m (an.of mixed rb ?_)
 rw[Bt]
 generalize a.isNone=p at *
 generalize b.isNone=q at *
 generalize a.getD 0+b.getD 0=s at *
 have g:aD u=true:=by rcases hu with rfl | ⟨_,rfl⟩ <;> rfl
 have h:aD v=true:=by rcases c with rfl | ⟨_,rfl⟩ <;> rfl
 simp(disch:=omega)only[↓wr,seval,wq,nB,g,h]
 intro n
 refine aj.pure d ?_
 unfold s6
 by_cases f:s < dO
 .rw[OM f,PO f]
  simp(disch:=omega)only[↓wr,seval,wq]
  apply ag.split<;>intro hp
  .subst hp
   simp(disch:=omega)only[↓wr,seval,wq]
   exact λe _=>mQ (.emp 1)
  subst hp
  simp(disch:=omega)only[↓wr,seval,wq]
  apply ag.split<;>intro hp
  .subst hp
   simp(disch:=omega)only[↓wr,seval,wq]
   exact λe _=>mQ (.emp 1)
  subst hp
  simp(disch:=omega)only[↓wr,seval,wq]
  exact λe _=>.tree _ (j5 (dz.self (some s)))
 .rw[OK f,decide_eq_false f]
  simp(disch:=omega)only[↓wr,seval,wq]
  apply ag.split<;>intro hp
  .subst hp
   simp(disch:=omega)only[↓wr,seval,wq]
   exact λe _=>mQ (.emp 1)
  subst hp
  simp(disch:=omega)only[↓wr,seval,wq]
  apply ag.split<;>intro hp
  .subst hp
   simp(disch:=omega)only[↓wr,seval,wq]
   exact λe _=>mQ (.emp 1)
  subst hp
  simp(disch:=omega)only[↓wr,seval,wq]
  exact λe _=>mQ (.emp 1)
theorem HE (a b:bF):eS a b=if (!a.isNone && a.getD 0 == 0) || (!b.isNone && b.getD 0 == 0) then some 0 else if a.isNone || b.isNone || !decide (a.getD 0 * b.getD 0 < dO) then none else some (a.getD 0 * b.getD 0):=by
 unfold eS
 have h1:∀ a:bF,(!a.isNone && a.getD 0 == 0)=decide (a=some 0):=λa=>by cases a <;> simp;exact PI.2 (by simp)
 rw[h1,h1]
 by_cases h:a=some 0∨b=some 0
 .rw[OM h,OM (by simpa using h)]
 .rw[OK h,OK (by simpa using h)]
  cases a with
  | none=>rfl
  | some a =>
   cases b with
   | none=>rfl
   | some b =>
    simp only[Option.isNone_some,Qn,OS]
    by_cases h:a * b < dO
    .rw[OM h,OK (by simp[h])]
    .rw[OK h,OM (by simp[h])]
theorem Kk {u:V} {l:List Nat} (h:u=dW l∨l=[]/\u=.emp 1):dh u=some l.length:=by
 rcases h with rfl | ⟨rfl,rfl⟩
 .simp[dh]
 .rfl
theorem mX {n:Nat} (h:n < dO):(cB n).length=0↔n=0:=by
 rw[rl] at h
 have:=ka (O0 h (PF (by decide) (by decide):LB ^ 32<=LB ^ 70)) 0
 rw[Nat.pow_zero] at this
 omega
theorem oJ {a b:bF} {x y:List V} (s:dz a x) (t:dz b y) (w:fZ a) (z:fZ b):ar Tryz.prog 185 [.agg x,.agg y] (.agg (ig (eS a b))):=by
 have A:∀ v∈[V.agg x,V.agg y],Tree v:=by
  intro v m;simp at m
  rcases m with rfl | rfl
  .exact j5 s
  .exact j5 t
 obtain⟨u,rfl,hu⟩:=s
 obtain⟨v,rfl,m⟩:=t
 have i:=CB hu m (JG w z).pure
 have d:=Kk hu
 have e:=Kk m
 have k:((jR a).length:Int)=0↔a.getD 0=0:=by rw[<-mX w];exact Int.natCast_eq_zero
 have l:((jR b).length:Int)=0↔b.getD 0=0:=by rw[<-mX z];exact Int.natCast_eq_zero
 refine ar.of A (an.of mixed qL ?_)
 rw[HE]
 have f:aD u=true:=by rcases hu with rfl | ⟨_,rfl⟩ <;> rfl
 have g:aD v=true:=by rcases m with rfl | ⟨_,rfl⟩ <;> rfl
 generalize a.isNone=p at *
 generalize b.isNone=q at *
 generalize (jR a).length=B at *
 generalize (jR b).length=C at *
 generalize a.getD 0=o at *
 generalize b.getD 0=r at *
 cases p <;> cases q
 .simp(disch:=omega)only[↓wr,seval,wq,dY,f,g,d,e]
  intro n
  apply ag.eq<;>intro h1
  .simp(disch:=omega)only[↓wr,seval,wq]
   exact λj _=>vg (by simp[k.1 h1])
  simp(disch:=omega)only[↓wr,seval,wq,f,g,d,e]
  apply ag.eq<;>intro c
  .simp(disch:=omega)only[↓wr,seval,wq]
   exact λj _=>vg (by simp[l.1 c])
  simp(disch:=omega)only[↓wr,seval,wq,f,g,d,e]
  rw[k] at h1
  rw[l] at c
  refine aj.pure i ?_
  unfold s6
  by_cases h:o * r < dO
  .rw[OM h]
   simp(disch:=omega)only[↓wr,seval,wq]
   exact λj _=>LF (by simp[h1,c,h])
  .rw[OK h]
   simp(disch:=omega)only[↓wr,seval,wq]
   exact λj _=>l5 (by simp[h1,c,h])
 .simp(disch:=omega)only[↓wr,seval,wq,dY,f,g,d,e]
  intro n
  apply ag.eq<;>intro h1
  .simp(disch:=omega)only[↓wr,seval,wq]
   exact λj _=>vg (by simp[k.1 h1])
  simp(disch:=omega)only[↓wr,seval,wq,f,g,d,e]
  rw[k] at h1
  have c:=h1
  refine aj.pure i ?_
  unfold s6
  by_cases h:o * r < dO
  .rw[OM h]
   simp(disch:=omega)only[↓wr,seval,wq]
   exact λj _=>l5 (by simp[h1,c])
  .rw[OK h]
   simp(disch:=omega)only[↓wr,seval,wq]
   exact λj _=>l5 (by simp[h1,c,h])
 .simp(disch:=omega)only[↓wr,seval,wq,dY,f,g,d,e]
  intro n
  apply ag.eq<;>intro c
  .simp(disch:=omega)only[↓wr,seval,wq]
   exact λj _=>vg (by simp[l.1 c])
  simp(disch:=omega)only[↓wr,seval,wq,f,g,d,e]
  rw[l] at c
  have h1:=c
  refine aj.pure i ?_
  unfold s6
  by_cases h:o * r < dO
  .rw[OM h]
   simp(disch:=omega)only[↓wr,seval,wq]
   exact λj _=>l5 (by simp[h1,c])
  .rw[OK h]
   simp(disch:=omega)only[↓wr,seval,wq]
   exact λj _=>l5 (by simp[h1,c,h])
 .simp(disch:=omega)only[↓wr,seval,wq,dY,f,g,d,e]
  intro n
  have h1:=trivial
  have c:=trivial
  refine aj.pure i ?_
  unfold s6
  by_cases h:o * r < dO
  .rw[OM h]
   simp(disch:=omega)only[↓wr,seval,wq]
   exact λj _=>l5 (by simp[h1,c])
  .rw[OK h]
   simp(disch:=omega)only[↓wr,seval,wq]
   exact λj _=>l5 (by simp[h1,c,h])
theorem IK {c:bF} {x:List V} (b:dz c x):ar Tryz.prog 118 [.agg x] (.aU [dW (jR c),gi (if c.isNone then 2 else 0)]):=by
 have f:∀ v∈[V.agg x],Tree v:=by
  intro v d;simp at d
  subst d
  exact j5 b
 obtain⟨u,rfl,hu⟩:=b
 have a:aD u=true:=by rcases hu with rfl | ⟨_,rfl⟩ <;> rfl
 refine ar.of f (an.of mixed rF ?_)
 cases c with
 | none =>
  simp(disch:=omega)only[↓wr,seval,wq,iu,a,Option.isNone_none]
  exact λg _=>pj (.emp 1)
 | some c =>
  simp(disch:=omega)only[↓wr,seval,wq,iu,a,Option.isNone_some]
  intro g _
  rcases hu with rfl | ⟨e,rfl⟩
  .exact pj (.tree _ (fG _))
  .rw[e];exact pj (.emp 1)
def nD:SF:=⟨ae [ab [((some 6),.op (.alloc [(.emp 1),(.val (.bool false))]))],ae [ab [aa 7 1,ax 8 .lss 7 0],bc 8 (ae [ab [aa 9 0,aa 10 2,aW 11 1 9 10,ak 12 11,aa 13 1,((some 14),.op (.arith .sub (.val (.val (.int .i64 (-1)))) (.tmp 13))),aW 15 2 12 14,ba 16 2 15,cb 2 6 16],.ret])],ae [ab [aa 17 2,ax 18 .eql 17 1],bc 18 (ae [ab [aJ 19 182 [],cb 2 6 19],.ret])],ab [((some 20),.op (.build [(.emp 1),(.val (.bool false))] [])),cb 2 6 20],.ret],
 [.cell 6 (some 2)],21⟩
theorem rh:aE Tryz.prog 183 []=some nD:=by kernel_rfl
def fR:SC :=
 ae [ae [.region false [⟨none,[aa 42 12,aa 43 2,aV 44 .leq 42 43,aa 45 44]⟩,⟨(some (45,true)),[av 46 1 11,ak 47 46,aa 48 47]⟩,⟨(some (48,false)),[av 49 0 11,ak 50 49,aR 51 50,ax 52 .gtr 51 0]⟩,⟨(some (45,true)),[bq 53 48 52]⟩,⟨none,[bV 54 45 53]⟩],bH 54 (.exit 4)],.block 5 (.region true [⟨none,[aa 57 9,aa 58 12,aa 59 9,aa 60 12,aW 61 2 59 60,ba 62 2 61,ba 63 2 11,aa 64 7,aa 65 12,aa 66 10,aV 67 .sub 65 66,aW 68 2 64 67,ba 69 2 68,aJ 70 185 [63,69],aJ 71 184 [62,70],aW 72 2 57 58,cb 2 72 71]⟩]),ab [aa 55 12,ax 56 .add 55 1,aa 12 56]]
def fQ:SC :=
 ae [ae [ab [aa 29 10,aa 30 2,aV 31 .leq 29 30],bH 31 (.exit 2)],.block 3 (ae [ab [aa 34 0,aa 35 1,aa 36 8,aW 37 1 35 36,ak 38 37,aa 39 10,aJ 40 183 [34,38,39],((some 11),.op (.alloc [(.emp 1),(.val (.bool false))])),cb 2 11 40],ab [aa 41 10,aa 12 41],bJ 4 fR]),ab [aa 32 10,ax 33 .add 32 1,aa 10 33]]
def fO:SC :=
 ae [ae [ab [aa 22 8,ax 23 .geq 22 0],bH 23 (.exit 0)],.block 1 (ae [ab [aa 26 2,ax 27 .add 26 1,((some 28),.op (.make 2 32 [(.emp 1),(.val (.bool false))] (.tmp 27) (.tmp 27))),aa 9 28],ae [ab [aN 10 0],bJ 2 fQ],ab [aa 73 9,aa 7 73]]),ab [aa 24 8,ax 25 .sub 24 1,aa 8 25]]
def gG:SF:=⟨ae [ab [((some 6),.op (.alloc [(.emp 1),(.val (.bool false))]))],ab [aa 13 2,ax 14 .add 13 1,((some 15),.op (.make 2 32 [(.emp 1),(.val (.bool false))] (.tmp 14) (.tmp 14))),aa 7 15],ab [aa 16 7,aJ 17 182 [],((some 18),.op (.idx 2 (.tmp 16) (.val (.val (.int .i64 0))))),cb 2 18 17],ae [ab [aa 19 1,aR 20 19,ax 21 .sub 20 1,aa 8 21],bJ 0 fO],ab [aa 74 7,aa 75 2,aW 76 2 74 75,ba 77 2 76,cb 2 6 77],.ret],
 [.cell 6 (some 2)],78⟩
theorem iW:aE Tryz.prog 119 []=some gG:=by kernel_rfl
def ij (es:List (List V)) (f:Nat->bF) (n:Nat):Prop:=es.length=n/\∀ j,j < n->dz (f j) (es.getD j [])
def GB (H:View) (v:V) (row:List bF):Prop:=∃ r es,v=.sl r 0 row.length 2/\H r=.arr 2 es/\ij es (λj=>row.getD j (some 0)) row.length
def uO (H:View) (v:V) (c:cQ):Prop:=∃ t rows,v=.sl t 0 c.length 1/\H t=.arr 1 rows/\rows.length=c.length/\∀ i,i < c.length->∃ u,rows.getD i []=[u]/\GB H u (c.getD i [])
def dK (H H':View):Prop:=∀ id,H id≠.dead->H' id=H id
theorem dK.refl (H:View):dK H H:=λ_ _=>rfl
theorem dK.set {H H':View} {n:Nat} {o:bp} (h:dK H H') (b:H n=.dead):dK H (H'.set n o):=λid a=>by
 have:id≠n:=by rintro rfl;exact a b
 simp[View.set,this,h id a]
theorem dK.dead {H H':View} {n:Nat} (h:dK H H') (a:H' n=.dead):H n=.dead:=Pd λe=>e (by rw[<-h n e];exact a)
theorem dK.trans {H H1 b:View} (h:dK H H1) (k:dK H1 b):dK H b:=λid a=>by
 have:=h id a
 rw[k id (by rw[this];exact a),this]
theorem GB.stay {H H':View} {v:V} {row:List bF} (h:GB H v row) (b:dK H H'):GB H' v row:=by
 obtain⟨r,es,h1,a,c⟩:=h
 exact⟨r,es,h1,by rw[b r (by rw[a];simp)];exact a,c⟩
theorem uO.stay {H H':View} {v:V} {c:cQ} (h:uO H v c) (a:dK H H'):uO H' v c:=by
 obtain⟨t,rows,h1,b,d,f⟩:=h
 refine⟨t,rows,h1,by rw[a t (by rw[b];simp)];exact b,d,λi hi=>?_⟩
 obtain⟨u,e,hr⟩:=f i hi
 exact⟨u,e,hr.stay a⟩
theorem gp {c:bF} {x:List V} (h:dz c x):∃ u,x=[u,gb c.isNone]/\aD u=true/\dh u=some (jR c).length:=by
 obtain⟨u,rfl,hu⟩:=h
 exact⟨u,rfl,by rcases hu with rfl | ⟨_,rfl⟩ <;> rfl,Kk hu⟩
theorem zT {H:View} {v:V} {c:cQ} {s:Int} {k:Nat} (p:uO H v c) (hk:k < c.length) (q:k<=10) (h:bm s) (i:s < 0->(-1 - s).toNat < (c.getD k []).length):an Tryz.prog 183 [v,gi s,gi k] H λr H'=>dK H H'/\∃ x,r=.agg x/\dz (iO c s k) x:=by
 unfold bm at h
 unfold iO gK
 refine an.of mixed rh ?_
 simp(disch:=omega)only[↓wr,seval,wq,nD]
 intro n a
 apply ag.dec<;>intro e
 .rw[OM e]
  obtain⟨t,rows,rfl,j,w,hr⟩:=p
  obtain⟨u,hu,r,es,rfl,b,y,l⟩:=hr k hk
  have d:=l _ (i e)
  obtain⟨x,o,m,_⟩:=gp d
  have f:t≠n:=by rintro rfl;rw[a] at j;simp at j
  have g:r≠n:=by rintro rfl;rw[a] at b;simp at b
  rw[o] at d
  simp(disch:=omega)only[↓wr,seval,wq,f,Ne.symm f,j,hu,b,g,Ne.symm g,o,m]
  exact⟨hk,by omega,i e,by have:=i e;omega,((dK.refl H).set a).set a,_,rfl,d⟩
 .rw[OK e]
  simp(disch:=omega)only[↓wr,seval,wq]
  apply ag.eq<;>intro h1
  .rw[OM (by omega)]
   simp(disch:=omega)only[↓wr,seval,wq]
   refine aj.pure wo ?_
   simp(disch:=omega)only[↓wr,seval,wq]
   exact⟨((dK.refl H).set a).set a,_,rfl,.self _⟩
  .rw[OK (by omega)]
   simp(disch:=omega)only[↓wr,seval,wq]
   exact⟨((dK.refl H).set a).set a,_,rfl,.zero⟩
theorem pC (n:Nat):ij (List.replicate n [.emp 1,gb false]) (λ_=>some 0) n:=⟨by simp,λj a=>by
 simp only[OH,Pw,OM a,OS]
 exact .zero⟩
theorem ij.set {es:List (List V)} {f g:Nat->bF} {n j:Nat} {x:List V} (h:ij es f n) (a:dz (g j) x) (b:∀ i,i≠j->i < n->g i=f i):ij (es.set j x) g n:=by
 refine⟨by rw[Qx];exact h.1,λi hi=>?_⟩
 rw[OH]
 by_cases e:i=j
 .subst e
  rw[Pl (by rw[h.1];exact hi)]
  exact a
 .rw[PE (Ne.symm e),<-OH,b i e hi]
  exact h.2 i hi
theorem ij.as {es:List (List V)} {f g:Nat->bF} {n:Nat} (h:ij es f n) (a:∀ i,i < n->g i=f i):ij es g n:=⟨h.1,λi hi=>by rw[a i hi];exact h.2 i hi⟩
theorem l7 {c:cQ} {s:Int} {now:Nat->bF} {m:Nat} : ∀ k,fZ (br c s now m k)
 | 0=>dB
 | k+1=>by
  rw[br]
  split
  .exact l7 k
  .exact Cz _ _
theorem Hh:fZ (some 1):=by unfold fZ dO;exact O0 (by decide:1 < 4294967296 ^ 1) (PF (by decide) (by decide))
theorem oB {c:cQ} : ∀ (l:List Int) (m:Nat),fZ (bj c l m)
 | [],m=>by
  rw[bj]
  split
  .exact Hh
  .exact dB
 | s :: l,m=>l7 _
theorem CX {c:cQ} (a:∀ n A:Nat,fZ (gK c n A)) (s:Int) (k:Nat):fZ (iO c s k):=by
 unfold iO
 split
 .exact a _ _
 .split
  .exact Hh
  .exact dB
theorem Dj {H:View} {v:V} {c:cQ} {l:List Int} {n:Nat} (hT:uO H v c) (hc:∀ n A:Nat,fZ (gK c n A)) (hn:n < c.length) (c4:n<=10) (hl:aG l) (ck:∀ s∈l,bm s) (hs:∀ s∈l,s < 0->∀ k,k < c.length->(-1 - s).toNat < (c.getD k []).length) :
  an Tryz.prog 119 [v,encI l,gi n] H λr H'=>dK H H'/\∃ x,r=.agg x/\dz (bj c l n) x:=by
 unfold aG at hl
 refine an.of mixed iW ?_
 have hq:((n:Int)+1).toNat=n+1:=by omega
 simp(disch:=omega)only[↓wr,seval,wq,gG,encI,hq]
 intro o ho
 refine⟨⟨by omega,by unfold aB;omega,by unfold aB;omega⟩,λm hm=>?_⟩
 have B:m≠o:=by rintro rfl;simp[View.set] at hm
 have bn:H m=.dead:=by simpa [View.set,B] using hm
 refine aj.pure wo ?_
 simp(disch:=omega)only[↓wr,seval,wq,B,Ne.symm B,hq]
 refine⟨by omega,by omega,?_⟩
 refine aP.up l.length (λi T H'=>∃ q m es,q+i=l.length/\dK H H'/\m≠o/\H' m=.arr 2 es/\ij es (bj c (l.drop q)) (n+1)/\H' o=.arr 2 [[.emp 1,gb false]]/\T 0=v/\T 1=encI l/\T 2=gi n/\T 6=.ptr o 0 0/\T 7=.sl m 0 (n+1) 2/\T 8=.val (.int .i64 ((q:Int) - 1)))
  ⟨l.length,m,ig (some 1) :: List.replicate n [.emp 1,gb false],rfl,(((dK.refl H).set ho).set bn).set bn,B,by simp[View.set],?_,by simp[View.set,Ne.symm B],rfl,rfl,rfl,rfl,rfl,rfl⟩ ?_
 .have:=(pC (n+1)).set (g:=bj c []) (j:=0) (x:=ig (some 1)) (by rw[bj,OM rfl];exact .self _) (λi hi _=>by rw[bj,OK hi])
  rw[List.drop_length]
  exact this
 clear hm bn B
 rintro i kk T H1 cu ⟨q,m,es,da,e,B,C,G,hO,t0,t1,t2,t6,t7,t8⟩
 simp(disch:=omega)only[↓wr,seval,wq,fO,t0,t1,t2,t6,t7,t8]
 apply ag.dec<;>intro cv
 rotate_left
 .obtain rfl:q=0:=by omega
  rw[List.drop_zero] at G
  have bs:=G.2 n (by omega)
  obtain⟨x,hx,z,_⟩:=gp bs
  rw[hx] at bs
  simp(disch:=omega)only[↓wr,seval,wq,t0,t1,t2,t6,t7,C,hx,z,hO,B,Ne.symm B]
  exact⟨by omega,by have:=G.1;omega,e.set ho,_,rfl,bs⟩
 obtain⟨p,rfl⟩:∃ p,q=p+1:=⟨q - 1,by omega⟩
 rw[show (((p+1:Nat):Int) - 1)=(p:Int) by omega] at t8
 have bx:=getD_some (d:=0) (show p < l.length by omega)
 have O:=O2 bx
 have b5:l.drop p=l.getD p 0 :: l.drop (p+1):=by
  rw[Qa (by omega:p < l.length)]
  congr 1
  rw[OH,OI (by omega:p < l.length)];rfl
 have a6:=ck _ O
 have b7:=hs _ O
 generalize l.getD p 0=s at bx b5 a6 b7
 clear O
 generalize a7:bj c (l.drop (p+1))=now at G
 have a8:∀ j,fZ (now j):=λj=>by rw[<-a7];exact oB _ _
 have cC:∀ j,bj c (l.drop p) j=br c s now j (j+1):=λj=>by rw[b5,bj,a7]
 simp(disch:=omega)only[↓wr,seval,wq,t0,t1,t2,t6,t7,t8,hq]
 refine⟨⟨by omega,by unfold aB;omega,by unfold aB;omega⟩,λm2 J=>?_⟩
 have P:=e.dead J
 have b0:m2≠m:=by rintro rfl;rw[C] at J;simp at J
 have X:m2≠o:=by rintro rfl;rw[hO] at J;simp at J
 refine aP.up (n+1) (λk T H'=>∃ Y,dK H H'/\H' m=.arr 2 es/\H' m2=.arr 2 Y/\ij Y (λj=>br c s now j (min k (j+1))) (n+1)/\H' o=.arr 2 [[.emp 1,gb false]]/\T 0=v/\T 1=encI l/\T 2=gi n/\T 6=.ptr o 0 0/\T 7=.sl m 0 (n+1) 2/\T 8=gi p/\T 9=.sl m2 0 (n+1) 2/\T 10=gi k)
  ⟨_,e.set P,by simp[View.set,Ne.symm b0,C],by simp[View.set],(pC (n+1)).as λj _=>by rw[Nat.zero_min];rfl,by simp[View.set,Ne.symm X,hO],t0,t1,t2,t6,t7,t8,rfl,rfl⟩ ?_
 clear e C hO t0 t1 t2 t6 t7 t8 J H1
 rintro k k1 T H1 b8 ⟨Y,e,C,f,Q,hO,t0,t1,t2,t6,t7,t8,t9,t10⟩
 simp(disch:=omega)only[↓wr,seval,wq,fQ,t0,t1,t2,t6,t7,t8,t9,t10]
 apply ag.dec<;>intro cN
 rotate_left
 .obtain rfl:k=n+1:=by omega
  simp(disch:=omega)only[↓wr,seval,wq,t0,t1,t2,t6,t7,t8,t9,t10]
  refine ay cu (by omega) ⟨p,m2,Y,by omega,e,X,f,Q.as λj hj=>?_,hO,t0,t1,t2,t6,rfl,rfl⟩
  rw[cC,Nat.min_eq_right (by omega)]
 simp(disch:=omega)only[↓wr,seval,wq,t0,t1,t2,t6,t7,t8,t9,t10,encI,ON,bx,OU]
 refine aj.dd ((zT (hT.stay e) (k:=k) (by omega) (by omega) a6 (λh=>b7 h k (by omega))).mono ?_)
 rintro r H2 ⟨E,x,rfl,hx⟩
 have I:=CX hc s k
 generalize ht:iO c s k=K at hx I
 have b1:=(E m (by rw[C];simp)).trans C
 have R:=(E m2 (by rw[f];simp)).trans f
 have b2:=(E o (by rw[hO];simp)).trans hO
 have S:=e.trans E
 clear C f hO e E
 obtain⟨u,rfl,z,cS⟩:=gp hx
 have bl:K.isNone=false->(((jR K).length:Int) > 0↔K≠some 0):=λh=>by
  have h1:=mX I
  cases K with
  | none=>simp at h
  | some d =>
   unfold jR
   simp only[OS,ne_eq,OJ] at h1 ⊢
   omega
 simp(disch:=omega)only[↓wr,seval,wq,t0,t1,t2,t6,t7,t8,t9,t10,z]
 intro y hy
 have cc:=S.dead hy
 have cV:y≠m:=by rintro rfl;rw[b1] at hy;simp at hy
 have U:y≠m2:=by rintro rfl;rw[R] at hy;simp at hy
 have c0:y≠o:=by rintro rfl;rw[b2] at hy;simp at hy
 refine aP.up (n+1 - k) (λr T H'=>∃ D,dK H H'/\H' m=.arr 2 es/\H' m2=.arr 2 D/\H' y=.arr 2 [[u,gb K.isNone]]/\ij D (λj=>br c s now j (min (if j < k+r then k+1 else k) (j+1))) (n+1)/\H' o=.arr 2 [[.emp 1,gb false]]/\T 0=v/\T 1=encI l/\T 2=gi n/\T 6=.ptr o 0 0/\T 7=.sl m 0 (n+1) 2/\T 8=gi p/\T 9=.sl m2 0 (n+1) 2/\T 10=gi k/\T 11=.ptr y 0 0/\T 12=gi ((k+r:Nat):Int))
  ⟨_,(S.set cc).set cc,by simp[View.set,Ne.symm cV,b1],by simp[View.set,Ne.symm U];exact R,by simp[View.set],Q.as λj _=>?_,by simp[View.set,Ne.symm c0,b2],t0,t1,t2,t6,t7,t8,t9,t10,rfl,rfl⟩ ?_
 .by_cases h:j < k
  .rw[OM (by omega),Nat.min_eq_right (by omega),Nat.min_eq_right (by omega)]
  .rw[OK (by omega)]
 clear S b1 R b2 t0 t1 t2 t6 t7 t8 t9 t10 hy H2 Q H1
 rintro r kr T H1 cf ⟨D,e,C,f,W,t,hO,t0,t1,t2,t6,t7,t8,t9,t10,t11,t12⟩
 have done:(k+r=n+1∨K=some 0)->ij D (λj=>br c s now j (min (k+1) (j+1))) (n+1):=λh=>t.as λj hj=>by
  by_cases ch:j < k+r
  .rw[OM ch]
  .rcases h with h | h
   .omega
   .rw[OK ch,Pv (by omega),Pv (by omega),br,ht,OM h]
 generalize hw:k+r=w at *
 simp(disch:=omega)only[↓wr,seval,wq,fR,t0,t1,t2,t6,t7,t8,t9,t10,t11,t12]
 apply ag.dec<;>intro c3
 rotate_left
 .simp(disch:=omega)only[↓wr,seval,wq,t0,t1,t2,t6,t7,t8,t9,t10,t11,t12]
  exact ay b8 (by omega) ⟨D,e,C,f,done (.inl (by omega)),hO,t0,t1,t2,t6,t7,t8,t9,rfl⟩
 have F:dz (br c s now w (min (if w < w then k+1 else k) (w+1))) (D.getD w []):=t.2 w (by omega)
 have Z:=G.2 (w - k) (by omega)
 rw[OK (Nat.lt_irrefl _),Pv (by omega)] at F
 obtain⟨a,ha,L,_⟩:=gp F
 obtain⟨b,hb,M,_⟩:=gp Z
 rw[ha] at F
 rw[hb] at Z
 have N:((w:Int) - k).toNat=w - k:=by omega
 have cj:K≠some 0->br c s now w (k+1)=eW (br c s now w k) (eS K (now (w - k))):=λh=>by rw[br,ht,OK h]
 simp(disch:=omega)only[↓wr,seval,wq,t0,t1,t2,t6,t7,t8,t9,t10,t11,t12,W,z]
 apply ag.split<;>intro a1
 .simp(disch:=omega)only[↓wr,seval,wq,t0,t1,t2,t6,t7,t8,t9,t10,t11,t12]
  have b3:K≠some 0:=by rintro rfl;simp at a1
  .skip
   simp(disch:=omega)only[↓wr,seval,wq,t0,t1,t2,t6,t7,t8,t9,t10,t11,t12,W,z,C,f,ha,hb,N,L,M]
   refine⟨by omega,by have:=t.1;omega,by omega,by have:=G.1;omega,?_⟩
   refine aj.pure (oJ hx Z I (a8 _)) ?_
   simp(disch:=omega)only[↓wr,seval,wq,t0,t1,t2,t6,t7,t8,t9,t10,t11,t12,W,z,C,f,ha,hb,N,L,M]
   refine aj.pure (mY F (dz.self _) (l7 _) (pX _ _)) ?_
   simp(disch:=omega)only[↓wr,seval,wq,t0,t1,t2,t6,t7,t8,t9,t10,t11,t12,W,z,C,f,ha,hb,N,L,M]
   refine⟨by omega,by have:=t.1;omega,ay cf (by omega) ⟨D.set w (ig (eW (br c s now w k) (eS K (now (w - k))))),e.set P,by simp[View.set,Ne.symm b0,C],by simp[View.set],by simp[View.set,U,W],?_,by simp[View.set,Ne.symm X,hO],t0,t1,t2,t6,t7,t8,t9,t10,t11,?_⟩⟩
   .refine t.set ?_ (λj hj _=>?_)
    .show dz (br c s now w (min (if w < k+(r+1) then k+1 else k) (w+1))) _
     rw[OM (by omega),Pv (by omega),cj b3]
     exact .self _
    .show br c s now j _=br c s now j _
     by_cases h:j < w
     .rw[OM h,OM (by omega)]
     .rw[OK h,OK (by omega)]
   .rw[show k+(r+1)=w+1 by omega];rfl
 .simp(disch:=omega)only[↓wr,seval,wq,t0,t1,t2,t6,t7,t8,t9,t10,t11,t12,W,z,cS]
  apply ag.dec<;>intro b4
  .have b3:K≠some 0:=(bl a1).1 b4
   simp(disch:=omega)only[↓wr,seval,wq,t0,t1,t2,t6,t7,t8,t9,t10,t11,t12,W,z,C,f,ha,hb,N,L,M]
   refine⟨by omega,by have:=t.1;omega,by omega,by have:=G.1;omega,?_⟩
   refine aj.pure (oJ hx Z I (a8 _)) ?_
   simp(disch:=omega)only[↓wr,seval,wq,t0,t1,t2,t6,t7,t8,t9,t10,t11,t12,W,z,C,f,ha,hb,N,L,M]
   refine aj.pure (mY F (dz.self _) (l7 _) (pX _ _)) ?_
   simp(disch:=omega)only[↓wr,seval,wq,t0,t1,t2,t6,t7,t8,t9,t10,t11,t12,W,z,C,f,ha,hb,N,L,M]
   refine⟨by omega,by have:=t.1;omega,ay cf (by omega) ⟨D.set w (ig (eW (br c s now w k) (eS K (now (w - k))))),e.set P,by simp[View.set,Ne.symm b0,C],by simp[View.set],by simp[View.set,U,W],?_,by simp[View.set,Ne.symm X,hO],t0,t1,t2,t6,t7,t8,t9,t10,t11,?_⟩⟩
   .refine t.set ?_ (λj hj _=>?_)
    .show dz (br c s now w (min (if w < k+(r+1) then k+1 else k) (w+1))) _
     rw[OM (by omega),Pv (by omega),cj b3]
     exact .self _
    .show br c s now j _=br c s now j _
     by_cases h:j < w
     .rw[OM h,OM (by omega)]
     .rw[OK h,OK (by omega)]
   .rw[show k+(r+1)=w+1 by omega];rfl
  .simp(disch:=omega)only[↓wr,seval,wq,t0,t1,t2,t6,t7,t8,t9,t10,t11,t12]
   have hz:K=some 0:=Pd λh=>b4 ((bl a1).2 h)
   exact ay b8 (by omega) ⟨D,e,C,f,done (.inr hz),hO,t0,t1,t2,t6,t7,t8,t9,rfl⟩
theorem CJ {H:View} {v:V} {c:cQ} {l:List Int} {n:Nat} (hT:uO H v c) (hc:∀ n A:Nat,fZ (gK c n A)) (hn:n < c.length) (db:n<=10) (hl:aG l) {ql:Nat} (hQ:H ql=.arr 1 (bd l)) (cu:∀ s∈l,bm s) (hs:∀ s∈l,s < 0->∀ k,k < c.length->(-1 - s).toNat < (c.getD k []).length) :
  an Tryz.prog 119 [v,.sl ql 0 l.length 1,gi n] H λr H'=>dK H H'/\∃ x,r=.agg x/\dz (bj c l n) x:=by
 unfold aG at hl
 refine an.of mixed iW ?_
 have hq:((n:Int)+1).toNat=n+1:=by omega
 simp(disch:=omega)only[↓wr,seval,wq,gG,encI,hq]
 intro o ho
 refine⟨⟨by omega,by unfold aB;omega,by unfold aB;omega⟩,λm hm=>?_⟩
 have B:m≠o:=by rintro rfl;simp[View.set] at hm
 have bn:H m=.dead:=by simpa [View.set,B] using hm
 refine aj.pure wo ?_
 simp(disch:=omega)only[↓wr,seval,wq,B,Ne.symm B,hq]
 refine⟨by omega,by omega,?_⟩
 refine aP.up l.length (λi T H'=>∃ q m es,q+i=l.length/\dK H H'/\m≠o/\H' m=.arr 2 es/\ij es (bj c (l.drop q)) (n+1)/\H' o=.arr 2 [[.emp 1,gb false]]/\T 0=v/\T 1=.sl ql 0 l.length 1/\T 2=gi n/\T 6=.ptr o 0 0/\T 7=.sl m 0 (n+1) 2/\T 8=.val (.int .i64 ((q:Int) - 1)))
  ⟨l.length,m,ig (some 1) :: List.replicate n [.emp 1,gb false],rfl,(((dK.refl H).set ho).set bn).set bn,B,by simp[View.set],?_,by simp[View.set,Ne.symm B],rfl,rfl,rfl,rfl,rfl,rfl⟩ ?_
 .have:=(pC (n+1)).set (g:=bj c []) (j:=0) (x:=ig (some 1)) (by rw[bj,OM rfl];exact .self _) (λi hi _=>by rw[bj,OK hi])
  rw[List.drop_length]
  exact this
 clear hm bn B
 rintro i kk T H1 cv ⟨q,m,es,dj,e,B,C,G,hO,t0,t1,t2,t6,t7,t8⟩
 simp(disch:=omega)only[↓wr,seval,wq,fO,t0,t1,t2,t6,t7,t8]
 apply ag.dec<;>intro cC
 rotate_left
 .obtain rfl:q=0:=by omega
  rw[List.drop_zero] at G
  have bs:=G.2 n (by omega)
  obtain⟨x,hx,z,_⟩:=gp bs
  rw[hx] at bs
  simp(disch:=omega)only[↓wr,seval,wq,t0,t1,t2,t6,t7,C,hx,z,hO,B,Ne.symm B]
  exact⟨by omega,by have:=G.1;omega,e.set ho,_,rfl,bs⟩
 obtain⟨p,rfl⟩:∃ p,q=p+1:=⟨q - 1,by omega⟩
 rw[show (((p+1:Nat):Int) - 1)=(p:Int) by omega] at t8
 have bx:=getD_some (d:=0) (show p < l.length by omega)
 have O:=O2 bx
 have b5:l.drop p=l.getD p 0 :: l.drop (p+1):=by
  rw[Qa (by omega:p < l.length)]
  congr 1
  rw[OH,OI (by omega:p < l.length)];rfl
 have a6:=cu _ O
 have b7:=hs _ O
 generalize l.getD p 0=s at bx b5 a6 b7
 clear O
 generalize a7:bj c (l.drop (p+1))=now at G
 have a8:∀ j,fZ (now j):=λj=>by rw[<-a7];exact oB _ _
 have cN:∀ j,bj c (l.drop p) j=br c s now j (j+1):=λj=>by rw[b5,bj,a7]
 simp(disch:=omega)only[↓wr,seval,wq,t0,t1,t2,t6,t7,t8,hq]
 refine⟨⟨by omega,by unfold aB;omega,by unfold aB;omega⟩,λm2 J=>?_⟩
 have P:=e.dead J
 have b0:m2≠m:=by rintro rfl;rw[C] at J;simp at J
 have X:m2≠o:=by rintro rfl;rw[hO] at J;simp at J
 refine aP.up (n+1) (λk T H'=>∃ Y,dK H H'/\H' m=.arr 2 es/\H' m2=.arr 2 Y/\ij Y (λj=>br c s now j (min k (j+1))) (n+1)/\H' o=.arr 2 [[.emp 1,gb false]]/\T 0=v/\T 1=.sl ql 0 l.length 1/\T 2=gi n/\T 6=.ptr o 0 0/\T 7=.sl m 0 (n+1) 2/\T 8=gi p/\T 9=.sl m2 0 (n+1) 2/\T 10=gi k)
  ⟨_,e.set P,by simp[View.set,Ne.symm b0,C],by simp[View.set],(pC (n+1)).as λj _=>by rw[Nat.zero_min];rfl,by simp[View.set,Ne.symm X,hO],t0,t1,t2,t6,t7,t8,rfl,rfl⟩ ?_
 clear e C hO t0 t1 t2 t6 t7 t8 J H1
 rintro k k1 T H1 b8 ⟨Y,e,C,f,Q,hO,t0,t1,t2,t6,t7,t8,t9,t10⟩
 simp(disch:=omega)only[↓wr,seval,wq,fQ,t0,t1,t2,t6,t7,t8,t9,t10]
 apply ag.dec<;>intro cS
 rotate_left
 .obtain rfl:k=n+1:=by omega
  simp(disch:=omega)only[↓wr,seval,wq,t0,t1,t2,t6,t7,t8,t9,t10]
  refine ay cv (by omega) ⟨p,m2,Y,by omega,e,X,f,Q.as λj hj=>?_,hO,t0,t1,t2,t6,rfl,rfl⟩
  rw[cN,Nat.min_eq_right (by omega)]
 have cc:=(e ql (by rw[hQ];simp)).trans hQ
 have cV:(bd l).getD p []=[gi s]:=by simp[OH,bx]
 simp(disch:=omega)only[↓wr,seval,wq,t0,t1,t2,t6,t7,t8,t9,t10,cc,cV]
 refine⟨by omega,by omega,?_⟩
 clear cc
 refine aj.dd ((zT (hT.stay e) (k:=k) (by omega) (by omega) a6 (λh=>b7 h k (by omega))).mono ?_)
 rintro r H2 ⟨E,x,rfl,hx⟩
 have I:=CX hc s k
 generalize ht:iO c s k=K at hx I
 have b1:=(E m (by rw[C];simp)).trans C
 have R:=(E m2 (by rw[f];simp)).trans f
 have b2:=(E o (by rw[hO];simp)).trans hO
 have S:=e.trans E
 clear C f hO e E
 obtain⟨u,rfl,z,c0⟩:=gp hx
 have bl:K.isNone=false->(((jR K).length:Int) > 0↔K≠some 0):=λh=>by
  have h1:=mX I
  cases K with
  | none=>simp at h
  | some d =>
   unfold jR
   simp only[OS,ne_eq,OJ] at h1 ⊢
   omega
 simp(disch:=omega)only[↓wr,seval,wq,t0,t1,t2,t6,t7,t8,t9,t10,z]
 intro y hy
 have cf:=S.dead hy
 have c3:y≠m:=by rintro rfl;rw[b1] at hy;simp at hy
 have U:y≠m2:=by rintro rfl;rw[R] at hy;simp at hy
 have c4:y≠o:=by rintro rfl;rw[b2] at hy;simp at hy
 refine aP.up (n+1 - k) (λr T H'=>∃ D,dK H H'/\H' m=.arr 2 es/\H' m2=.arr 2 D/\H' y=.arr 2 [[u,gb K.isNone]]/\ij D (λj=>br c s now j (min (if j < k+r then k+1 else k) (j+1))) (n+1)/\H' o=.arr 2 [[.emp 1,gb false]]/\T 0=v/\T 1=.sl ql 0 l.length 1/\T 2=gi n/\T 6=.ptr o 0 0/\T 7=.sl m 0 (n+1) 2/\T 8=gi p/\T 9=.sl m2 0 (n+1) 2/\T 10=gi k/\T 11=.ptr y 0 0/\T 12=gi ((k+r:Nat):Int))
  ⟨_,(S.set cf).set cf,by simp[View.set,Ne.symm c3,b1],by simp[View.set,Ne.symm U];exact R,by simp[View.set],Q.as λj _=>?_,by simp[View.set,Ne.symm c4,b2],t0,t1,t2,t6,t7,t8,t9,t10,rfl,rfl⟩ ?_
 .by_cases h:j < k
  .rw[OM (by omega),Nat.min_eq_right (by omega),Nat.min_eq_right (by omega)]
  .rw[OK (by omega)]
 clear S b1 R b2 t0 t1 t2 t6 t7 t8 t9 t10 hy H2 Q H1
 rintro r kr T H1 ch ⟨D,e,C,f,W,t,hO,t0,t1,t2,t6,t7,t8,t9,t10,t11,t12⟩
 have done:(k+r=n+1∨K=some 0)->ij D (λj=>br c s now j (min (k+1) (j+1))) (n+1):=λh=>t.as λj hj=>by
  by_cases cj:j < k+r
  .rw[OM cj]
  .rcases h with h | h
   .omega
   .rw[OK cj,Pv (by omega),Pv (by omega),br,ht,OM h]
 generalize hw:k+r=w at *
 simp(disch:=omega)only[↓wr,seval,wq,fR,t0,t1,t2,t6,t7,t8,t9,t10,t11,t12]
 apply ag.dec<;>intro da
 rotate_left
 .simp(disch:=omega)only[↓wr,seval,wq,t0,t1,t2,t6,t7,t8,t9,t10,t11,t12]
  exact ay b8 (by omega) ⟨D,e,C,f,done (.inl (by omega)),hO,t0,t1,t2,t6,t7,t8,t9,rfl⟩
 have F:dz (br c s now w (min (if w < w then k+1 else k) (w+1))) (D.getD w []):=t.2 w (by omega)
 have Z:=G.2 (w - k) (by omega)
 rw[OK (Nat.lt_irrefl _),Pv (by omega)] at F
 obtain⟨a,ha,L,_⟩:=gp F
 obtain⟨b,hb,M,_⟩:=gp Z
 rw[ha] at F
 rw[hb] at Z
 have N:((w:Int) - k).toNat=w - k:=by omega
 have ck:K≠some 0->br c s now w (k+1)=eW (br c s now w k) (eS K (now (w - k))):=λh=>by rw[br,ht,OK h]
 simp(disch:=omega)only[↓wr,seval,wq,t0,t1,t2,t6,t7,t8,t9,t10,t11,t12,W,z]
 apply ag.split<;>intro a1
 .simp(disch:=omega)only[↓wr,seval,wq,t0,t1,t2,t6,t7,t8,t9,t10,t11,t12]
  have b3:K≠some 0:=by rintro rfl;simp at a1
  .skip
   simp(disch:=omega)only[↓wr,seval,wq,t0,t1,t2,t6,t7,t8,t9,t10,t11,t12,W,z,C,f,ha,hb,N,L,M]
   refine⟨by omega,by have:=t.1;omega,by omega,by have:=G.1;omega,?_⟩
   refine aj.pure (oJ hx Z I (a8 _)) ?_
   simp(disch:=omega)only[↓wr,seval,wq,t0,t1,t2,t6,t7,t8,t9,t10,t11,t12,W,z,C,f,ha,hb,N,L,M]
   refine aj.pure (mY F (dz.self _) (l7 _) (pX _ _)) ?_
   simp(disch:=omega)only[↓wr,seval,wq,t0,t1,t2,t6,t7,t8,t9,t10,t11,t12,W,z,C,f,ha,hb,N,L,M]
   refine⟨by omega,by have:=t.1;omega,ay ch (by omega) ⟨D.set w (ig (eW (br c s now w k) (eS K (now (w - k))))),e.set P,by simp[View.set,Ne.symm b0,C],by simp[View.set],by simp[View.set,U,W],?_,by simp[View.set,Ne.symm X,hO],t0,t1,t2,t6,t7,t8,t9,t10,t11,?_⟩⟩
   .refine t.set ?_ (λj hj _=>?_)
    .show dz (br c s now w (min (if w < k+(r+1) then k+1 else k) (w+1))) _
     rw[OM (by omega),Pv (by omega),ck b3]
     exact .self _
    .show br c s now j _=br c s now j _
     by_cases h:j < w
     .rw[OM h,OM (by omega)]
     .rw[OK h,OK (by omega)]
   .rw[show k+(r+1)=w+1 by omega];rfl
 .simp(disch:=omega)only[↓wr,seval,wq,t0,t1,t2,t6,t7,t8,t9,t10,t11,t12,W,z,c0]
  apply ag.dec<;>intro b4
  .have b3:K≠some 0:=(bl a1).1 b4
   simp(disch:=omega)only[↓wr,seval,wq,t0,t1,t2,t6,t7,t8,t9,t10,t11,t12,W,z,C,f,ha,hb,N,L,M]
   refine⟨by omega,by have:=t.1;omega,by omega,by have:=G.1;omega,?_⟩
   refine aj.pure (oJ hx Z I (a8 _)) ?_
   simp(disch:=omega)only[↓wr,seval,wq,t0,t1,t2,t6,t7,t8,t9,t10,t11,t12,W,z,C,f,ha,hb,N,L,M]
   refine aj.pure (mY F (dz.self _) (l7 _) (pX _ _)) ?_
   simp(disch:=omega)only[↓wr,seval,wq,t0,t1,t2,t6,t7,t8,t9,t10,t11,t12,W,z,C,f,ha,hb,N,L,M]
   refine⟨by omega,by have:=t.1;omega,ay ch (by omega) ⟨D.set w (ig (eW (br c s now w k) (eS K (now (w - k))))),e.set P,by simp[View.set,Ne.symm b0,C],by simp[View.set],by simp[View.set,U,W],?_,by simp[View.set,Ne.symm X,hO],t0,t1,t2,t6,t7,t8,t9,t10,t11,?_⟩⟩
   .refine t.set ?_ (λj hj _=>?_)
    .show dz (br c s now w (min (if w < k+(r+1) then k+1 else k) (w+1))) _
     rw[OM (by omega),Pv (by omega),ck b3]
     exact .self _
    .show br c s now j _=br c s now j _
     by_cases h:j < w
     .rw[OM h,OM (by omega)]
     .rw[OK h,OK (by omega)]
   .rw[show k+(r+1)=w+1 by omega];rfl
  .simp(disch:=omega)only[↓wr,seval,wq,t0,t1,t2,t6,t7,t8,t9,t10,t11,t12]
   have hz:K=some 0:=Pd λh=>b4 ((bl a1).2 h)
   exact ay b8 (by omega) ⟨D,e,C,f,done (.inr hz),hO,t0,t1,t2,t6,t7,t8,t9,rfl⟩
section
variable {P:Program} {T:Env} {H:View} {K:V->View->Prop} {w:bL (T,H,K)} {t ty:TypeId}
end
theorem aj.still {P:Program} {f:FuncId} {vs:List V} {H:View} {K:V->View->Prop} {w:bL (H,K)} {a:V->View->Prop} (b:an P f vs H a) (c:∀ r H',a r H'->∀ id,H id≠.dead->H' id=H id) (hk:∀ r H',a r H'->K r H'):aj P true f vs H K w:=by
 unfold aj
 simp only[if_true]
 exact(b.mono λr H' h=>⟨c r H' h,hk r H' h⟩).Gj
theorem bf.sub {H:View} {L M:List dS} (h:bf H L) (a:M.Sublist L):bf H M :=
 ⟨λx b=>h.1 x (a.subset b),h.2.sublist (a.filterMap _)⟩
def kY:SC :=
 ae [ae [ab [aa 36 11,av 37 2 2,ak 38 37,aR 39 38,aV 40 .lss 36 39],bH 40 (.exit 4)],.block 5 (ae [ab [av 43 2 2,ak 44 43,aa 45 11,aW 46 3 44 45,av 47 0 46,ak 48 47,aa 49 6,aa 50 9,aW 51 1 49 50,ak 52 51,aV 53 .eql 48 52],bc 53 (.region true [⟨none,[ba 54 2 10,aa 55 5,av 56 2 2,ak 57 56,aa 58 11,aW 59 3 57 58,av 60 1 59,ak 61 60,aa 62 8,aJ 63 119 [55,61,62],aJ 64 184 [54,63],cb 2 10 64]⟩])]),ab [aa 41 11,ax 42 .add 41 1,aa 11 42]]
def k6:SC :=
 ae [ae [ab [aa 29 9,aa 30 6,aR 31 30,aV 32 .lss 29 31],bH 32 (.exit 2)],.block 3 (ae [ab [((some 35),.op (.build [(.emp 1),(.val (.bool false))] [])),((some 10),.op (.alloc [(.emp 1),(.val (.bool false))])),cb 2 10 35],ae [ab [aN 11 0],bJ 4 kY],ab [aa 65 5,aa 66 8,aW 67 1 65 66,ak 68 67,aa 69 6,aa 70 9,aW 71 1 69 70,ak 72 71,ba 73 2 10,aW 74 2 68 72,cb 2 74 73]]),ab [aa 33 9,ax 34 .add 33 1,aa 9 34]]
def lp:SC :=
 ae [ae [ab [aa 17 8,aa 18 1,aV 19 .leq 17 18],bH 19 (.exit 0)],.block 1 (ae [ab [aa 22 5,av 23 1 2,ak 24 23,aR 25 24,((some 26),.op (.make 2 32 [(.emp 1),(.val (.bool false))] (.tmp 25) (.tmp 25))),((some 27),.op (.bM 1 1 [(.emp 1)] [(0,(.tmp 26))])),pk 28 1 24 22 27,aa 5 28],ab [aN 9 0],bJ 2 k6]),ab [aa 20 8,ax 21 .add 20 1,aa 8 21]]
def mZ:SF:=⟨ae [ab [cE 2 0,cp 4 1],ab [cp 5 1],ab [ba 13 4 2,aJ 14 186 [13],aa 12 14,cP 15 0 12,cP 16 1 12,aa 6 15,aa 7 16],ae [ab [aN 8 0],bJ 0 lp],ab [aa 75 5,aa 4 75],.ret],
 [.tmp 4],76⟩
theorem q9:aE Tryz.prog 120 [2]=some mZ:=by kernel_rfl
abbrev jr (R:List (V × List (List V))):List dS:=R.map λx=>(x.1,2,x.2)
abbrev fJ (R:List (V × List (List V))):List (List V):=R.map λx=>[x.1]
def Lg (N:Nat) (x:V × List (List V)) (row:List bF):Prop:=row.length=N/\ij x.2 (λj=>row.getD j (some 0)) N
def iz (L:List dS) (N:Nat) (H:View) (u:V) (c:cQ):Prop:=∃ R:List (V × List (List V)),bf H ((u,1,fJ R) :: (jr R ++ L))/\R.length=c.length/\∀ i,i < c.length->Lg N (R.getD i (.any,[])) (c.getD i [])
theorem iz.stay {L:List dS} {N:Nat} {H H':View} {u:V} {c:cQ} (h:iz L N H u c) (a:dK H H'):iz L N H' u c:=by
 obtain⟨R,h1,b⟩:=h
 exact⟨R,h1.stay a,b⟩
theorem iz.Nx {L:List dS} {N:Nat} (j:0 < N) {H:View} {u:V} {c:cQ} (p:0 < c.length) (h:iz L N H u c):uO H u c:=by
 obtain⟨R,h1,e,k⟩:=h
 have l:aO H u 1 (fJ R):=h1.head
 obtain⟨t,rfl,m⟩:=l.sl (by simp;omega)
 refine⟨t,fJ R,by rw[OX,e],m,by rw[OX,e],λi hi=>?_⟩
 obtain⟨x,b⟩:∃ x,R[i]?=some x:=⟨_,OI (by omega)⟩
 have f:=k i hi
 rw[OH,b,OS] at f
 obtain⟨g,d⟩:=f
 have a:(jr R ++ L)[i]?=some (x.1,2,x.2):=by rw[O6 (by simp;omega)];simp[b]
 have n:aO H x.1 2 x.2:=h1.own (i+1) a
 obtain⟨r,hr,o⟩:=n.sl (by rw[d.1];exact j)
 refine⟨x.1,by simp[OH,b],r,x.2,by rw[hr,d.1,g],o,by rw[g];exact d⟩
theorem iz.rest {L:List dS} {N:Nat} {H:View} {u:V} {c:cQ} (h:iz L N H u c):bf H L:=by
 obtain⟨R,h1,_⟩:=h
 exact h1.sub ((List.sublist_append_right _ _).trans (List.sublist_cons_self _ _))
theorem iz.put {L:List dS} {N:Nat} (B:0 < N) {H:View} {u:V} {c:cQ} (h:iz L N H u c) {i:Nat} (hi:i < c.length):∃ t rows r es,u=.sl t 0 c.length 1/\H t=.arr 1 rows/\rows.length=c.length/\rows.getD i []=[.sl r 0 N 2]/\H r=.arr 2 es/\es.length=N/\(∀ j,j < N->(es.getD j []).length=2) /\
  ∀ j v x,j < N->dz v x->iz L N (H.set r (.arr 2 (es.set j x))) u (c.set i ((c.getD i []).set j v)):=by
 obtain⟨R,h1,m,n⟩:=h
 have C:aO H u 1 (fJ R):=h1.head
 obtain⟨t,rfl,D⟩:=C.sl (by simp;omega)
 obtain⟨x,d⟩:∃ x,R[i]?=some x:=⟨_,OI (by omega)⟩
 have o:=n i hi
 rw[OH,d,OS] at o
 obtain⟨E,f⟩:=o
 have b:(jr R ++ L)[i]?=some (x.1,2,x.2):=by rw[O6 (by simp;omega)];simp[d]
 have F:aO H x.1 2 x.2:=h1.own (i+1) b
 obtain⟨r,hr,G⟩:=F.sl (by rw[f.1];exact B)
 refine⟨t,fJ R,r,x.2,by rw[OX,m],D,by rw[OX,m],by simp[OH,d,hr,f.1],G,f.1,λj p=>?_,λj v y p I=>?_⟩
 .obtain⟨a,J,_⟩:=f.2 j p
  rw[J];rfl
 refine⟨R.set i (x.1,x.2.set j y),?_,by simp[m],λk hk=>?_⟩
 .have K:fJ (R.set i (x.1,x.2.set j y))=fJ R:=by
   apply List.ext_getElem?
   intro k
   simp only[ON]
   by_cases e:i=k
   .subst e;rw[Pl (OV.1 d).1,d];rfl
   .rw[PE e]
  have O:jr (R.set i (x.1,x.2.set j y)) ++ L=(jr R ++ L).set i (x.1,2,x.2.set j y):=by
   rw[List.set_append_left _ _ (by simp;omega)]
   congr 1
   exact List.map_set
  rw[K,O]
  generalize q:((V.sl t 0 (fJ R).length 1,1,fJ R):dS) :: (jr R ++ L)=M at h1
  have g:M[i+1]?=some (x.1,2,x.2):=by rw[<-q];exact b
  have l:i+1 < M.length:=(OV.1 g).1
  have s:=oV M (i+1) l
  rw[(OV.1 g).2] at s
  have w:=h1.perm s
  rw[hr] at w
  have z:=w.put (es':=x.2.set j y) (by simp) rfl
  rw[<-hr] at z
  have P:((V.sl t 0 (fJ R).length 1,1,fJ R):dS) :: (jr R ++ L).set i (x.1,2,x.2.set j y)=M.set (i+1) (x.1,2,x.2.set j y):=by rw[<-q];rfl
  have A:=oV (M.set (i+1) (x.1,2,x.2.set j y)) (i+1) (by simpa using l)
  rw[List.getElem_set_self,List.eraseIdx_set_eq] at A
  rw[P]
  exact z.perm A.symm
 .rw[Qx] at hk
  rw[OH,OH]
  by_cases e:i=k
  .subst e
   rw[Pl (by omega),Pl (by omega),OS,OS]
   refine⟨by rw[Qx];exact E,f.set ?_ λk hk _=>?_⟩
   .simp only[OH,Pl (show j < (c[i]?.getD []).length by rw[<-OH];omega),OS]
    exact I
   .simp only[OH]
    rw[PE (Ne.symm hk)]
  .rw[PE e,PE e,<-OH,<-OH]
   exact n k hk
def nJ (c:cQ) (A:Int) (m:Nat) (s:bF) (R:aF):bF:=if R.left=A then eW s (bj c R.right m) else s
theorem EN {c:cQ} {A:Int} {m:Nat} {s:bF} {R:aF} (h:fZ s):fZ (nJ c A m s R):=by
 unfold nJ
 split
 .exact Cz _ _
 .exact h
theorem JL {g:ai} {c:cQ} {A:Int} {m:Nat} : fZ (oz g c A m):=by
 have key:∀ (l:List aF) (s:bF),fZ s->fZ (l.foldl (nJ c A m) s):=λl=>by
  induction l with
  | nil=>exact λs h=>h
  | cons R l a=>exact λs h=>a _ (EN h)
 exact key g.rules (some 0) dB
def lG (c:cQ):Prop:=∀ n A:Nat,fZ (gK c n A)
theorem lG.put {g:ai} {c:cQ} (h:lG c) (m:Nat) (A:Int):lG (fj g m c A):=by
 intro n B
 unfold fj gK
 simp only[OH]
 by_cases e:m=n
 .subst e
  by_cases hm:m < c.length
  .rw[Pl hm,OS]
   by_cases a:A.toNat=B
   .subst a
    by_cases b:A.toNat < (c[m]?.getD []).length
    .rw[Pl b];exact JL
    .rw[O5 (l:=(c[m]?.getD []).set A.toNat (oz g c A m)) (i:=A.toNat) (by rw[Qx];omega)];exact dB
   .rw[PE a]
    have:=h m B
    unfold gK at this
    simpa only [OH] using this
  .have d:(c.set m ((c[m]?.getD []).set A.toNat (oz g c A m)))[m]?=none:=O5 (by rw[Qx];omega)
   rw[d]
   exact dB
 .rw[PE e]
  have:=h n B
  unfold gK at this
  simpa only [OH] using this
theorem lG.app {c:cQ} (h:lG c) (N:Nat):lG (c ++ [List.replicate N (some 0)]):=by
 intro n B
 unfold gK
 simp only[OH]
 by_cases e:n < c.length
 .rw[O6 e]
  have:=h n B
  unfold gK at this
  simpa only [OH] using this
 .rw[Ph (by omega)]
  by_cases b:n - c.length=0
  .rw[b]
   simp only[O4,OS]
   by_cases a:B < N
   .rw[Pw,OM a];exact dB
   .rw[Pw,OK a];exact dB
  .obtain⟨d,f⟩:∃ d,n - c.length=d+1:=⟨n - c.length - 1,by omega⟩
   rw[f];exact dB
theorem lG.fold {g:ai} {m:Nat} : ∀ (l:List Int) {c:cQ},lG c->lG (l.foldl (fj g m) c)
 | [],_,h=>h
 | A :: l,_,h=>lG.fold l (h.put m A)
theorem lG.make {g:ai} {ord:List Int} : ∀ m,lG (cd g ord m)
 | 0=>λ_ _=>dB
 | m+1=>lG.fold ord ((lG.make m).app _)
theorem wm {g:ai} {m:Nat} : ∀ (l:List Int) (c:cQ),(l.foldl (fj g m) c).length=c.length
 | [],_=>rfl
 | A :: l,c=>by rw[O3,wm l];simp[fj]
theorem mN {g:ai} {ord:List Int} : ∀ m,(cd g ord m).length=m
 | 0=>rfl
 | m+1=>by rw[cd,wm];simp[mN m]
theorem iz.row {L:List dS} {N:Nat} {H:View} {u:V} {c:cQ} (h:iz L N H u c) {i:Nat} (hi:i < c.length):(c.getD i []).length=N:=by
 obtain⟨R,_,_,a⟩:=h
 exact(a i hi).1
theorem iz.more {L:List dS} {N:Nat} {H:View} {a r:V} {R:List (V × List (List V))} {c:cQ} (b:R.length=c.length) (d:∀ i,i < c.length->Lg N (R.getD i (.any,[])) (c.getD i [])) (h:bf H ((a,1,fJ R ++ [[r]]) :: (r,2,List.replicate N [.emp 1,gb false]) :: (jr R ++ L))):iz L N H a (c ++ [List.replicate N (some 0)]):=by
 refine⟨R ++ [(r,List.replicate N [.emp 1,gb false])],?_,by simp[b],λi hi=>?_⟩
 .have f:fJ (R ++ [(r,List.replicate N [.emp 1,gb false])])=fJ R ++ [[r]]:=by simp
  have g:jr (R ++ [(r,List.replicate N [.emp 1,gb false])])=jr R ++ [(r,2,List.replicate N [.emp 1,gb false])]:=by simp
  rw[f,g]
  rw[PR]
  exact h.perm (List.Perm.cons _ List.perm_middle.symm)
 .rw[PG,List.length_singleton] at hi
  simp only[OH]
  by_cases e:i < c.length
  .rw[O6 (by omega),O6 e,<-OH,<-OH]
   exact d i e
  .rw[Ph (by omega),Ph (by omega),show i - R.length=0 by omega,show i - c.length=0 by omega]
   simp only[O4,OS]
   refine⟨by simp,(pC N).as λj k=>?_⟩
   rw[OH,Pw,OM k];rfl
theorem Jj {H:View} {L:List dS} (hL:bf H L) (g:ai) (hg:g.Ok) (hr:aA g=true) (a7:gM g=0) (N:∀ A∈dZ g,0<=A/\A < g.af.length) (ch:(dZ g).length<=16) {n:Nat} (hn:n<=10) :
  an Tryz.prog 120 [.agg (ah g),gi n] H λr H'=>uO H' r (cd g (dZ g) (n+1))/\bf H' L:=by
 have I:=az hr
 have hN:=I.af;have cj:=I.ox;have cf:=I.rules;have hT:=I.ao
 have h1:=(FY g hg hr a7).pure
 generalize dZ g=ord at *
 refine an.of mixed q9 ?_
 simp only[ah,encS] at h1
 simp(disch:=omega)only[↓wr,seval,wq,mZ,ah,encS]
 refine aj.pure h1 ?_
 simp(disch:=omega)only[↓wr,seval,wq,ah,encS]
 refine aP.up (n+1) (λm T H'=>∃ u,iz L g.af.length H' u (cd g ord m)/\T 1=gi n/\T 2=.aC (ah g) 0/\T 5=u/\T 6=encI ord/\T 8=gi m) ⟨.emp 1,⟨[],hL.emp,rfl,λi hi=>absurd hi (by simp[cd])⟩,rfl,rfl,rfl,rfl,rfl⟩ ?_
 rintro m km T H1 a8 ⟨u,e,t1,t2,t5,t6,t8⟩
 simp(disch:=omega)only[↓wr,seval,wq,lp,t1,t2,t5,t6,t8,ah,encS]
 apply ag.dec<;>intro bl
 rotate_left
 .simp(disch:=omega)only[↓wr,seval,wq,t5]
  obtain rfl:m=n+1:=by omega
  exact⟨e.Nx (by omega) (by rw[mN];omega),e.rest⟩
 simp(disch:=omega)only[↓wr,seval,wq,t1,t2,t5,t6,t8,ah,encS]
 refine⟨⟨by omega,by unfold aB;omega,by unfold aB;omega⟩,λh=>absurd h (by omega),λ_ r O q hq=>?_⟩
 obtain⟨R,o1,o2,o3⟩:=e
 have o4:=((o1.new O 2 (List.replicate g.af.length [.emp 1,gb false])).perm (.swap _ _ _)).fresh (o:=.arr 1 [[.sl r 0 g.af.length 2]]) hq
 rw[List.length_replicate] at o4
 have P:R.length=m:=by rw[o2,mN]
 simp(disch:=omega)only[↓wr,seval,wq,t1,t2,t5,t6,t8,cL]
 refine eZ o4 (by simp[aD]) (by unfold aB;simp;omega) (by unfold aB;simp;omega) ?_
 intro u2 H2 o5 bn
 clear bn
 have e:=iz.more o2 o3 o5
 clear o1 o2 o3 o4 o5 P
 simp(disch:=omega)only[↓wr,seval,wq,t1,t2,t5,t6,t8]
 have bs:∀ i,((ord.take i).foldl (fj g m) (cd g ord m ++ [List.replicate g.af.length (some 0)])).length=m+1:=λi=>by rw[wm];simp[mN]
 have bx:∀ i,lG ((ord.take i).foldl (fj g m) (cd g ord m ++ [List.replicate g.af.length (some 0)])):=λi=>lG.fold _ ((lG.make m).app _)
 refine aP.up ord.length (λi T H'=>iz L g.af.length H' u2 ((ord.take i).foldl (fj g m) (cd g ord m ++ [List.replicate g.af.length (some 0)]))/\T 1=gi n/\T 2=.aC (ah g) 0/\T 5=u2/\T 6=encI ord/\T 8=gi m/\T 9=gi i) ⟨e,t1,t2,rfl,t6,t8,rfl⟩ ?_
 clear e t1 t2 t5 t6 t8 O hq H1 H2
 rintro i ki T H1 b0 ⟨e,t1,t2,t5,t6,t8,t9⟩
 simp(disch:=omega)only[↓wr,seval,wq,k6,t1,t2,t5,t6,t8,t9,encI]
 apply ag.dec<;>intro b1
 rotate_left
 .obtain rfl:i=ord.length:=by omega
  rw[Qw] at e
  simp(disch:=omega)only[↓wr,seval,wq,t1,t2,t5,t6,t8,t9]
  exact ay a8 (by omega) ⟨u2,e,t1,t2,t5,t6,rfl⟩
 have f:=getD_some (d:=0) (show i < ord.length by omega)
 have hA:=N _ (O2 f)
 have J:(ord.take (i+1)).foldl (fj g m) (cd g ord m ++ [List.replicate g.af.length (some 0)])=fj g m ((ord.take i).foldl (fj g m) (cd g ord m ++ [List.replicate g.af.length (some 0)])) (ord.getD i 0):=by
  rw[Pe,f,PN];rfl
 generalize ord.getD i 0=A at f hA J
 have Q:=bs i
 have E:=bx i
 generalize (ord.take i).foldl (fj g m) (cd g ord m ++ [List.replicate g.af.length (some 0)])=c at e J Q E
 simp(disch:=omega)only[↓wr,seval,wq,t1,t2,t5,t6,t8,t9]
 intro y hy
 refine aP.up g.rules.length (λk T H'=>dK H1 H'/\(∃ x,H' y=.arr 2 [x]/\dz ((g.rules.take k).foldl (nJ c A m) (some 0)) x)/\T 1=gi n/\T 2=.aC (ah g) 0/\T 5=u2/\T 6=encI ord/\T 8=gi m/\T 9=gi i/\T 10=.ptr y 0 0/\T 11=gi k)
  ⟨((dK.refl H1).set hy).set hy,⟨_,by simp only[View.set,if_true],.zero⟩,t1,t2,t5,t6,t8,t9,rfl,rfl⟩ ?_
 clear t1 t2 t5 t6 t8 t9
 rintro k kk T H2 S ⟨C,⟨x,U,p⟩,t1,t2,t5,t6,t8,t9,t10,t11⟩
 simp(disch:=omega)only[↓wr,seval,wq,kY,t1,t2,t5,t6,t8,t9,t10,t11,ah]
 apply ag.dec<;>intro b2
 rotate_left
 .obtain rfl:k=g.rules.length:=by omega
  rw[Qw] at p
  have p:dz (oz g c A m) x:=p
  obtain⟨t,rows,r,es,rfl,hM,ck,b3,b4,cu,K,V⟩:=(e.stay C).put (by omega) (i:=m) (by omega)
  have W:=V A.toNat (oz g c A m) x (by omega) p
  obtain⟨a,rfl,v,_⟩:=gp p
  have b5:=K A.toNat (by omega)
  have b7:List.drop 2 (es.getD A.toNat [])=[]:=Po (by omega)
  simp(disch:=omega)only[↓wr,seval,wq,t1,t2,t5,t6,t8,t9,t10,t11,hM,b3,b4,U,v,encI,ON,f,OU,b5,b7]
  exact⟨by omega,by omega,by omega,by omega,ay b0 (by omega) ⟨by rw[J];exact W,t1,t2,t5,t6,t8,rfl⟩⟩
 have w:g.rules[k]?=some (g.rules[k]'(by omega)):=OI (by omega)
 have D:=O2 w
 have B:(g.rules.take (k+1)).foldl (nJ c A m) (some 0)=nJ c A m ((g.rules.take k).foldl (nJ c A m) (some 0)) (g.rules[k]'(by omega)):=by
  rw[Pe,w,PN];rfl
 have X:fZ ((g.rules.take k).foldl (nJ c A m) (some 0)):=by
  have key:∀ (l:List aF) (s:bF),fZ s->fZ (l.foldl (nJ c A m) s):=λl=>by
   induction l with
   | nil=>exact λs h=>h
   | cons R l ih=>exact λs h=>ih _ (EN h)
  exact key _ _ dB
 generalize g.rules[k]'(by omega)=R at w D B
 generalize (g.rules.take k).foldl (nJ c A m) (some 0)=s at p B X
 have P:=I.left R D
 have cv:=I.right R D
 have Y:=I.sym R D
 have b8:∀ x∈R.right,x < 0->∀ j,j < c.length->(-1 - x).toNat < (c.getD j []).length:=λx p h0 j hj=>by
  have h:=Y x p
  rw[e.row hj]
  unfold eO at h
  rw[OK (by omega)] at h
  simp only[OT] at h
  omega
 have Z:∀ x∈R.right,bm x:=λx p=>by
  have h:=Y x p
  unfold eO at h
  unfold bm
  split at h <;> simp only[OT] at h <;> omega
 simp(disch:=omega)only[↓wr,seval,wq,t1,t2,t5,t6,t8,t9,t10,t11,ah,aS,encI,ON,w,OU,f]
 apply ag.eq<;>intro M
 rotate_left
 .simp(disch:=omega)only[↓wr,seval,wq,t1,t2,t5,t6,t8,t9,t10,t11]
  exact ay S (by omega) ⟨C,⟨x,U,by rw[B,nJ,OK M];exact p⟩,t1,t2,t5,t6,t8,t9,t10,rfl⟩
 rw[nJ,OM M] at B
 obtain⟨a,rfl,v,_⟩:=gp p
 have a1:=Dj ((e.Nx (by omega) (by omega)).stay C) E (l:=R.right) (n:=m) (by omega) (by omega) (by unfold aG;omega) Z b8
 simp(disch:=omega)only[↓wr,seval,wq,t1,t2,t5,t6,t8,t9,t10,t11,ah,aS,encI,ON,w,OU,f,U,v]
 refine aj.still a1 (λr H' h=>h.1) ?_
 rintro r H3 ⟨F,z,rfl,hz⟩
 have a6:=(F y (by rw[U];simp)).trans U
 have cc:=mY p hz X (oB _ _)
 obtain⟨b,rfl,G,_⟩:=gp hz
 simp(disch:=omega)only[↓wr,seval,wq,t1,t2,t5,t6,t8,t9,t10,t11,v,G,a6]
 refine aj.pure cc ?_
 simp(disch:=omega)only[↓wr,seval,wq,t1,t2,t5,t6,t8,t9,t10,t11,v,G,a6]
 exact ay S (by omega) ⟨(C.trans F).set hy,⟨_,by simp only[View.set,if_true];rfl,by rw[B];exact .self _⟩,t1,t2,t5,t6,t8,t9,t10,rfl⟩
def pz (g:ai) (n b:Int):Bool:=aA g && decide (0<=n) && decide (n<=10) && decide (0<=b) && decide (b<=500)
noncomputable def cr (g:ai) (n b:Int):List (List Int) × Int:=if pz g n b=true then (let l:=bZ (dC g) g.ao.length b.toNat n.toNat [] [];if b.toNat < l.length then ([],13) else (l,0)) else ([],1)
noncomputable def oO (g:ai) (b:Nat):Nat->List (List Int)
 | 0=>[]
 | n+1=>bZ (dC g) g.ao.length b n [] (oO g b n)
noncomputable def qk (g:ai) (n b:Int):List (List Int) × Int:=if pz g n b=true then (let l:=oO g b.toNat (n.toNat+1);if b.toNat < l.length then ([],13) else (l,0)) else ([],1)
def iQ (x:List (List Int) × Int):V:=.aU [fu x.1,gi x.2]
theorem yc (x:List (List Int) × Int):Tree (iQ x):=Ay (oS _) (.val _)
theorem uZ (g:ai) (n b:Int):∀ v∈[V.agg (ah g),gi n,gi b],Tree v:=by
 intro v a;simp at a
 rcases a with rfl | rfl | rfl
 .exact cW _ (cy g)
 .exact .val _
 .exact .val _
theorem pY {h:aw} {u:V} {out:List (List Int)} {e:Int} (b:eh h.view u out):de h (.aU [u,gi e]) (iQ (out,e)):=by
 refine .aU _ _ rfl λj a=>?_
 match j,a with
 | 0,_=>exact b.Nw
 | 1,_=>exact .val _
 | n+2,a=>exact absurd a (by simp only[OY,Pc];omega)
noncomputable def EG:List (FuncId × DF):=yf Tryz.prog [(115,[]),(180,[]),(236,[]),(237,[])]
theorem FK:pS Tryz.prog EG:=xe _ _
theorem L4 {n:Nat} (h:q0 Tryz.prog EG (λ_ _ _=>none) 115 [encI [-1],gi n]=some (encI (List.replicate n (-1)))):cJ Tryz.prog 115 [encI [-1],gi n] (encI (List.replicate n (-1))) :=
 rZ mixed FK (Gq _) (by
  intro v a;simp at a
  rcases a with rfl | rfl
  .exact dU [-1]
  .exact .val _) h
theorem GF {n:Nat} (a:n<=10):cJ Tryz.prog 115 [encI [-1],gi n] (encI (List.replicate n (-1))):=by
 have:n=0∨n=1∨n=2∨n=3∨n=4∨n=5∨n=6∨n=7∨n=8∨n=9∨n=10:=by omega
 rcases this with rfl | rfl | rfl | rfl | rfl | rfl | rfl | rfl | rfl | rfl | rfl <;> exact L4 (by kernel_rfl)
def vP:SF:=⟨ae [ab [cE 3 0,bb 6 false],.region false [⟨none,[ba 7 4 3,aJ 8 89 [7],aa 9 8]⟩,⟨(some (9,true)),[aa 10 1,ax 11 .geq 10 0]⟩,⟨none,[bV 12 9 11,aa 13 12]⟩,⟨(some (13,true)),[aa 14 1,ax 15 .leq 14 10]⟩,⟨none,[bV 16 13 15,aa 17 16]⟩,⟨(some (17,true)),[aa 18 2,ax 19 .geq 18 0]⟩,⟨none,[bV 20 17 19,aa 21 20]⟩,⟨(some (21,true)),[aa 22 2,ax 23 .leq 22 500]⟩,⟨none,[bV 24 21 23,aa 6 24]⟩],.ret],
 [.tmp 6],25⟩
theorem zl:aE Tryz.prog 57 [3]=some vP:=by kernel_rfl
def ly:SC :=
 ae [ab [aV 18 .lss 17 16],bH 18 (.exit 0),.block 1 (ae [ab [aW 19 1 15 17,ak 20 19,aa 10 20],ab [aa 21 8,((some 22),.op (.bM 1 1 [(.val (.int .i64 0))] [(0,(.val (.val (.int .i64 (-1)))))])),aa 23 10,aJ 24 115 [22,23],jG 25 114 [(.tmp 21),(.tmp 24),(.val (.val (.int .i64 0)))]]]),ab [ax 26 .add 17 1,aa 17 26]]
def og:SF:=⟨ae [ab [cE 3 0,cp 6 1,aN 7 0],ab [ba 11 4 3,aa 12 2,((some 13),.op (.build [(.emp 1),(.emp 1),(.emp 1),(.val (.int .i64 0)),(.val (.int .i64 0)),(.emp 1)] [(0,4,(.tmp 11)),(4,1,(.tmp 12))])),((some 14),.op (.box (.tmp 13))),aa 8 14],ae [ab [aa 15 1,aR 16 15,aN 17 0],bJ 0 ly],ae [ab [aa 27 8,aJ 28 116 [27]],bc 28 (ae [ab [cp 6 1,aN 7 13],.ret])],ab [aa 29 8,fT 30 29,av 31 5 30,ak 32 31,aa 6 32,aN 7 0],.ret],
 [.tmp 6,.tmp 7],33⟩
theorem s8:aE Tryz.prog 58 [3]=some og:=by kernel_rfl
def tR:SF:=⟨ae [ab [cE 3 0,cp 6 1,aN 7 0],ae [ab [ba 8 4 3,aa 9 1,aa 10 2,aJ 11 57 [8,9,10],bS 12 11],bc 12 (ae [ab [cp 6 1,aN 7 1],.ret])],ab [ba 13 4 3,aa 14 1,((some 15),.op (.bM 1 1 [(.val (.int .i64 0))] [(0,(.tmp 14))])),aa 16 2,aJ 17 58 [13,15,16],cP 18 0 17,cP 19 1 17,aa 6 18,aa 7 19],.ret],
 [.tmp 6,.tmp 7],20⟩
theorem xt:aE Tryz.prog 21 [3]=some tR:=by kernel_rfl
def rv:SC :=
 ae [ab [aV 18 .lss 17 16],bH 18 (.exit 0),.block 1 (ae [ab [aa 19 17,aa 9 19],ab [aa 20 8,aa 21 9,((some 22),.op (.bM 1 1 [(.val (.int .i64 0))] [(0,(.tmp 21))])),pk 23 1 8 20 22,aa 8 23]]),ab [ax 24 .add 17 1,aa 17 24]]
def uV:SF:=⟨ae [ab [cE 3 0,cp 6 1,aN 7 0],ae [ab [ba 10 4 3,aa 11 1,aa 12 2,aJ 13 57 [10,11,12],bS 14 13],bc 14 (ae [ab [cp 6 1,aN 7 1],.ret])],ab [cp 8 1],ae [ab [aa 15 1,ax 16 .add 15 1,aN 17 0],bJ 0 rv],ab [ba 25 4 3,aa 26 8,aa 27 2,aJ 28 58 [25,26,27],cP 29 0 28,cP 30 1 28,aa 6 29,aa 7 30],.ret],
 [.tmp 6,.tmp 7],31⟩
theorem x9:aE Tryz.prog 55 [3]=some uV:=by kernel_rfl
theorem Fi (g:ai) (c:g.Ok) (d:g.Small) (n b:Int):ar Tryz.prog 57 [.agg (ah g),gi n,gi b] (gb (pz g n b)):=by
 refine ar.val (uZ g n b) λH=>?_
 refine an.of mixed zl ?_
 simp(disch:=omega)only[↓wr,seval,wq,vP,ah,encS]
 have a:=tS g c d.names
 simp only[ah,encS] at a
 refine aj.pure a ?_
 unfold pz
 repeat' (first | ((first|apply ag.dec|apply ag.eq|apply ag.ne|apply ag.split)<;>intro)|(simp(disch:=omega)only[↓wr,seval,wq]))
 all_goals (simp_all <;> (intros;omega))
noncomputable def mE (g:ai) (b:Nat):List Nat->List (List Int)->List (List Int)
 | [],out=>out
 | n :: l,out=>mE g b l (bZ (dC g) g.ao.length b n [] out)
noncomputable def xF (g:ai) (b:Nat) (l:List Nat):List (List Int) × Int:=if b < (mE g b l []).length then ([],13) else (mE g b l [],0)
theorem sr (g:ai) (b n:Nat):∀ (l:List Nat) (out:List (List Int)),mE g b (l ++ [n]) out=bZ (dC g) g.ao.length b n [] (mE g b l out)
 | [],_=>rfl
 | m :: l,out=>by rw[PD,mE,mE,sr g b n l]
theorem Aq (g:ai) (b:Nat):∀ (l:List Nat) (out:List (List Int)),out.length<=b+1->(mE g b l out).length<=b+1
 | [],_,h=>h
 | n :: l,_,h=>Aq g b l _ (zw h)
theorem tW (g:ai) (z:g.Ok) (A:g.Small) (hr:aA g=true) (b:Nat) (B:b<=500) (l:List Nat) (H:l.length<=100) (C:∀ n∈l,n<=10) :
  cJ Tryz.prog 58 [.agg (ah g),encI (l.map λ(n:Nat)=>(n:Int)),gi b] (iQ (xF g b l)):=by
 refine cJ.of (by
  intro v y;simp at y
  rcases y with rfl | rfl | rfl
  .exact cW _ (cy g)
  .exact dU _
  .exact .val _) ?_
 refine an.of mixed s8 ?_
 simp(disch:=omega)only[↓wr,seval,wq,og,ah,encS,encI]
 intro f
 refine aP.up l.length (λi T H'=>∃ u,H' f=.arr 6 [ja g b u]/\eh H' u (mE g b (l.take i) [])/\T 8=.ptr f 0 0/\T 15=encI (l.map λ(n:Nat)=>(n:Int))/\T 16=gi l.length/\T 17=gi i) ⟨.emp 1,by simp[View.set,ja],.nil,rfl,rfl,rfl,rfl⟩ ?_
 rintro i j T H1 hk ⟨u,e,k,t8,t15,t16,t17⟩
 simp(disch:=omega)only[↓wr,seval,wq,ly,t8,t15,t16,t17,encI]
 apply ag.dec<;>intro hi
 .have o:l[i]?=some (l[i]'(by omega)):=OI (by omega)
  have hm:=O2 o
  have h:l.take (i+1)=l.take i ++ [l[i]'(by omega)]:=by rw[Pe,o];rfl
  generalize l[i]'(by omega)=n at o hm h
  have p:=C n hm
  have q:=Aq g b (l.take i) [] (by simp)
  simp(disch:=omega)only[↓wr,seval,wq,t8,t15,t16,t17,encI,ON,o,OU]
  intro m d
  have D:f≠m:=by rintro rfl;rw[e] at d;simp at d
  refine aj.vt (GF p) (by kernel_rfl) ⟨so (l:=[-1]) (by simp[View.set]) rfl,.tree (.val _),trivial⟩ ?_
  simp(disch:=omega)only[↓wr,seval,wq,t8,t15,t16,t17]
  have a:∀ id,H1 id≠.dead->(H1.set m (.arr 1 [[gi (-1)]])) id=H1 id:=λid s=>by
   have:id≠m:=by rintro rfl;exact s d
   simp[View.set,this]
  have c:=Mh g z A hr b B f n [] (by simp) (by simp;omega) (encI (pad [] n)) u _ (H1.set m (.arr 1 [[gi (-1)]])) (by rw[a f (by rw[e];simp)];exact e) (k.keep a) q (.inl rfl)
  simp only[pad,PK,Pc] at c
  refine aj.dd (c.mono ?_)
  rintro r E ⟨F,t,w,_⟩
  simp(disch:=omega)only[↓wr,seval,wq,t8,t15,t16,t17]
  refine ay hk (by omega) ⟨F,t,?_,t8,t15,t16,rfl⟩
  rw[h,sr];exact w
 .rw[O8 (by omega)] at k
  simp(disch:=omega)only[↓wr,seval,wq,t8,t15,t16,t17]
  refine aj.dd ((wL g b f u _ H1 e k).mono ?_)
  rintro r E ⟨rfl,rfl⟩
  simp(disch:=omega)only[↓wr,seval,wq]
  unfold xF
  apply ag.dec<;>intro x
  .simp(disch:=omega)only[↓wr,seval,wq]
   intro G _
   rw[OM x]
   exact pY .nil
  .simp(disch:=omega)only[↓wr,seval,wq,t8,e,ja]
   rintro G rfl
   rw[OK x]
   exact pY k
theorem pH (g:ai) (d:g.Ok) (e:g.Small) (n b:Int):ar Tryz.prog 21 [.agg (ah g),gi n,gi b] (iQ (cr g n b)):=by
 refine ar.of (uZ g n b) ?_
 refine an.of mixed xt ?_
 have f:=Fi g d e n b
 simp only[ah,encS] at f
 simp(disch:=omega)only[↓wr,seval,wq,tR,ah,encS]
 refine aj.pure f ?_
 simp(disch:=omega)only[↓wr,seval,wq]
 apply ag.split<;>intro hm
 .have c:=hm
  simp only[pz,OO,OT] at c
  obtain⟨n,rfl⟩:∃ k:Nat,n=k:=⟨n.toNat,by omega⟩
  obtain⟨b,rfl⟩:∃ k:Nat,b=k:=⟨b.toNat,by omega⟩
  have a:=tW g d e c.1.1.1.1 b (by omega) [n] (by simp) (by simp;omega)
  have he:xF g b [n]=cr g n b:=by rw[cr,OM hm];rfl
  rw[he] at a
  generalize cr g n b=x at a
  simp only[ah,encS,Pa,PQ] at a
  simp(disch:=omega)only[↓wr,seval,wq]
  intro m
  refine aj.vt a (by kernel_rfl) ⟨.tree (cW _ (cy g)),so (l:=[(n:Int)]) (by simp[View.set]) rfl,.tree (.val _),trivial⟩ ?_
  simp(disch:=omega)only[↓wr,seval,wq,iQ]
  exact λh _=>.tree _ (yc _)
 .simp(disch:=omega)only[↓wr,seval,wq]
  rw[cr,OK (by rw[hm];simp)]
  exact λh _=>(pY .nil).J8
theorem vR (g:ai) (b:Nat):∀ n,mE g b (List.range n) []=oO g b n
 | 0=>rfl
 | n+1=>by rw[Qj,sr,vR g b n,oO]
theorem JJ (g:ai) (f:g.Ok) (h:g.Small) (n b:Int):ar Tryz.prog 55 [.agg (ah g),gi n,gi b] (iQ (qk g n b)):=by
 refine ar.of (uZ g n b) ?_
 refine an.of mixed x9 ?_
 have l:=Fi g f h n b
 simp only[ah,encS] at l
 simp(disch:=omega)only[↓wr,seval,wq,uV,ah,encS]
 refine aj.pure l ?_
 simp(disch:=omega)only[↓wr,seval,wq]
 apply ag.split<;>intro hm
 .have c:=hm
  simp only[pz,OO,OT] at c
  obtain⟨n,rfl⟩:∃ k:Nat,n=k:=⟨n.toNat,by omega⟩
  obtain⟨b,rfl⟩:∃ k:Nat,b=k:=⟨b.toNat,by omega⟩
  simp(disch:=omega)only[↓wr,seval,wq]
  refine aP.up (n+1) (λi T H'=>∃ u,T 8=u/\aO H' u 1 (bd ((List.range i).map λ(k:Nat)=>(k:Int)))/\T 2=gi b/\T 3=.aC (ah g) 0/\T 16=gi (n+1)/\T 17=gi i) ⟨.emp 1,rfl,.nil,rfl,rfl,rfl,rfl⟩ ?_
  rintro i j T H1 hk ⟨u,t8,o,t2,t3,t16,t17⟩
  simp(disch:=omega)only[↓wr,seval,wq,rv,t8,t2,t3,t16,t17]
  apply ag.dec<;>intro hi
  .simp(disch:=omega)only[↓wr,seval,wq,t8,t2,t3,t16,t17]
   intro m d
   rw[cL]
   simp(disch:=omega)only[↓wr,seval,wq,t8,t2,t3,t16,t17]
   refine uE (o.fresh d) (by simp[aD]) (by unfold aB;simp;omega) (by unfold aB;simp;omega) ?_
   intro p s q _
   simp(disch:=omega)only[↓wr,seval,wq,t8,t2,t3,t16,t17]
   exact ay hk (by omega) ⟨p,rfl,by rw[Qj];simpa using q,t2,t3,t16,rfl⟩
  .have e:i=n+1:=by omega
   subst e
   have a:=tW g f h c.1.1.1.1 b (by omega) (List.range (n+1)) (by simp;omega) (by intro k hk;rw[Pm] at hk;omega)
   have he:xF g b (List.range (n+1))=qk g n b:=by rw[qk,OM hm,xF,vR];rfl
   rw[he] at a
   generalize qk g n b=x at a
   simp only[ah,encS] at a
   simp(disch:=omega)only[↓wr,seval,wq,t8,t2,t3,t16,t17,ah,encS]
   refine aj.vt a (by kernel_rfl) ⟨.tree (cW _ (cy g)),.NM o,.tree (.val _),trivial⟩ ?_
   simp(disch:=omega)only[↓wr,seval,wq,iQ]
   exact λr _=>.tree _ (yc _)
 .simp(disch:=omega)only[↓wr,seval,wq]
  rw[qk,OK (by rw[hm];simp)]
  exact λr _=>(pY .nil).J8
def yp:List Int:=[37,37,32,115,32,58,32,115,32,115,32,124,32,39,97,39,32,124,32,39,98,39,32,124,32,59]
def yj:List Int:=[37,37,32,115,32,58,32,115,32,39,97,39,32,59]
def dM:ai:=⟨[⟨⟨#[39,97,39]⟩,0,0⟩,⟨⟨#[39,98,39]⟩,0,0⟩],[⟨#[115]⟩],[⟨0,[-1,-1],-1⟩,⟨0,[0],0⟩,⟨0,[1],1⟩,⟨0,[],-1⟩],0⟩
def kM:ai:=⟨[⟨⟨#[39,97,39]⟩,0,0⟩],[⟨#[115]⟩],[⟨0,[-1,0],0⟩],0⟩
theorem Nq:cJ Tryz.prog 44 [uC yp] (kH dM):=Ec (by kernel_rfl)
theorem No:cJ Tryz.prog 44 [uC yj] (kH kM):=Ec (by kernel_rfl)
theorem JW:dM.Ok:=by
 refine⟨by unfold aG;decide,by unfold aG;decide,by unfold aG;decide,by unfold bm;decide,?_,?_⟩
 .intro t a;simp[dM] at a;rcases a with rfl | rfl <;> unfold bm <;> decide
 .intro r hr;simp[dM] at hr;rcases hr with rfl | rfl | rfl | rfl <;> unfold bm aG <;> decide
theorem JK:kM.Ok:=by
 refine⟨by unfold aG;decide,by unfold aG;decide,by unfold aG;decide,by unfold bm;decide,?_,?_⟩
 .intro t a;simp[kM] at a;rcases a with rfl;unfold bm;decide
 .intro r hr;simp[kM] at hr;rcases hr with rfl;unfold bm aG;decide
theorem De:dM.Small:=⟨by decide⟩
theorem Dz:kM.Small:=⟨by decide⟩
theorem On:aA dM=true:=by kernel_rfl
theorem Nz:aA kM=true:=by kernel_rfl
theorem vX {fit a:List Int->Bool} {T b:Nat} (f:∀ (k:Nat) (h:List Int),(∀ x∈h,0<=x/\x < (T:Int))->fit (pad h k)=a (pad h k)):∀ (k:Nat) (h:List Int) (out:List (List Int)),(∀ x∈h,0<=x/\x < (T:Int))->bZ fit T b k h out=bZ a T b k h out
 | 0,h,out,d=>by rw[bZ,bZ,f 0 h d]
 | k+1,h,out,d=>by
  rw[bZ,bZ,f (k+1) h d]
  split
  .rfl
  .have key:∀ (l:List Nat) (o:List (List Int)),(∀ t∈l,t < T)->l.foldl (λo (t:Nat)=>bZ fit T b k (h ++ [(t:Int)]) o) o=l.foldl (λo (t:Nat)=>bZ a T b k (h ++ [(t:Int)]) o) o:=by
    intro l
    induction l with
    | nil=>intro o _;rfl
    | cons t l i =>
     intro o e
     rw[O3,O3,vX f k _ _ (λx c=>by
      rcases Pg.1 c with c | c
      .exact d x c
      .have:=e t (by simp);simp at c;omega),i _ λt g=>e t (by simp[g])]
   exact key _ _ λt e=>by simpa using e
theorem NC {p:List Int} (hp:∀ x∈p,x = -1∨x=0∨x=1):∀ (n i:Nat),i+n=p.length->Sp dM p [-1] i p.length
 | 0,i,h=>by
  have:i=p.length:=by omega
  subst this
  exact .cq (-1) [] ⟨0,[],-1⟩ _ _ _ (by decide) (by simp[dM]) (by decide) (.nil _) (.nil _)
 | n+1,i,h=>by
  have a:=NC hp n (i+1) (by omega)
  have hi:p[i]?=some (p[i]'(by omega)):=OI (by omega)
  have hm:=hp _ (O2 hi)
  have h1:Sp dM p [-1] i (i+1):=by
   by_cases e:p[i]'(by omega)=1
   .exact .cq (-1) [] ⟨0,[1],1⟩ i (i+1) (i+1) (by decide) (by simp[dM]) (by decide) (.term 1 [] i (i+1) (by decide) ⟨_,hi,.inl e⟩ (.nil _)) (.nil _)
   .exact .cq (-1) [] ⟨0,[0],0⟩ i (i+1) (i+1) (by decide) (by simp[dM]) (by decide) (.term 0 [] i (i+1) (by decide) ⟨_,hi,by omega⟩ (.nil _)) (.nil _)
  exact .cq (-1) [] ⟨0,[-1,-1],-1⟩ i p.length p.length (by decide) (by simp[dM]) (by decide) (h1.app a) (.nil _)
theorem Og (k:Nat) (h:List Int) (b:∀ x∈h,0<=x/\x < ((2:Nat):Int)):dC dM (pad h k)=true:=by
 refine(mq On _).2 (NC (λx a=>?_) _ 0 (PA _))
 unfold pad at a
 rcases Pg.1 a with a | a
 .have:=b x a;omega
 .exact .inl (List.mem_replicate.1 a).2
theorem A1 (b k:Nat) (out:List (List Int)):bZ (dC dM) dM.ao.length b k [] out=bZ (λ_=>true) 2 b k [] out:=vX (T:=2) Og k [] out (by simp)
theorem Oi:cr dM 2 4=([[0,0],[0,1],[1,0],[1,1]],0):=by
 rw[cr,OM (by kernel_rfl)]
 simp only[A1]
 kernel_rfl
theorem OC:cr dM 2 3=([],13):=by
 rw[cr,OM (by kernel_rfl)]
 simp only[A1]
 kernel_rfl
theorem OA:qk dM 1 3=([[],[0],[1]],0):=by
 rw[qk,OM (by kernel_rfl)]
 have e:oO dM 3 2=[[],[0],[1]]:=by
  rw[oO,oO,oO,A1,A1];kernel_rfl
 show (let l:=oO dM 3 2;if 3 < l.length then (([],13):List (List Int) × Int) else (l,0))=_
 rw[e];rfl
theorem Ow:cr dM 11 3=([],1):=by
 rw[cr,OK (by rw[show pz dM 11 3=false by kernel_rfl];simp)]
theorem l8:cr kM 3 0=([],0):=by
 have a:dC kM (pad [] 3)=false:=by
  rw[Bool.eq_false_iff,Ne,mq Nz]
  intro b
  have:=yR Nz b
  rw[show bw [-1 - kM.start] (al kM true) true=false by kernel_rfl] at this
  simp at this
 rw[cr,OM (by kernel_rfl)]
 simp only[show (3:Int).toNat=3 from rfl,bZ,a]
 simp
theorem eh.Fs {H:View} {u:V} {out:List (List Int)} (a:eh H u out):ey H u (fu out):=by
 rintro h rfl
 exact a.Nw.J8
def lV:SF:=⟨ae [ab [bb 0 false],ab [((some 18),.op (.bM 26 1 [(.val (.int .u8 0))] [(0,(.val (.val (.int .u8 37)))),(1,(.val (.val (.int .u8 37)))),(2,(.val (.val (.int .u8 32)))),(3,(.val (.val (.int .u8 115)))),(4,(.val (.val (.int .u8 32)))),(5,(.val (.val (.int .u8 58)))),(6,(.val (.val (.int .u8 32)))),(7,(.val (.val (.int .u8 115)))),(8,(.val (.val (.int .u8 32)))),(9,(.val (.val (.int .u8 115)))),(10,(.val (.val (.int .u8 32)))),(11,(.val (.val (.int .u8 124)))),(12,(.val (.val (.int .u8 32)))),(13,(.val (.val (.int .u8 39)))),(14,(.val (.val (.int .u8 97)))),(15,(.val (.val (.int .u8 39)))),(16,(.val (.val (.int .u8 32)))),(17,(.val (.val (.int .u8 124)))),(18,(.val (.val (.int .u8 32)))),(19,(.val (.val (.int .u8 39)))),(20,(.val (.val (.int .u8 98)))),(21,(.val (.val (.int .u8 39)))),(22,(.val (.val (.int .u8 32)))),(23,(.val (.val (.int .u8 124)))),(24,(.val (.val (.int .u8 32)))),(25,(.val (.val (.int .u8 59))))])),((some 19),.op (.old (.convert 90 90 (.tmp 18)) 90)),aJ 20 44 [19],aa 17 20,cP 21 0 17,cP 22 1 17,cP 23 2 17,((some 1),.op (.alloc [(.emp 1),(.emp 1),(.emp 1),(.val (.int .i64 0))])),cb 4 1 21,aa 2 22,aa 3 23],ab [ba 25 4 1,jG 26 21 [(.tmp 25),(.val (.val (.int .i64 2))),(.val (.val (.int .i64 4)))],aa 24 26,cP 27 0 24,cP 28 1 24,aa 4 27,aa 5 28],ab [ba 30 4 1,jG 31 21 [(.tmp 30),(.val (.val (.int .i64 2))),(.val (.val (.int .i64 3)))],aa 29 31,cP 32 0 29,cP 33 1 29,aa 6 32,aa 7 33],ab [ba 35 4 1,jG 36 55 [(.tmp 35),(.val (.val (.int .i64 1))),(.val (.val (.int .i64 3)))],aa 34 36,cP 37 0 34,cP 38 1 34,aa 8 37,aa 9 38],ab [((some 40),.op (.bM 14 1 [(.val (.int .u8 0))] [(0,(.val (.val (.int .u8 37)))),(1,(.val (.val (.int .u8 37)))),(2,(.val (.val (.int .u8 32)))),(3,(.val (.val (.int .u8 115)))),(4,(.val (.val (.int .u8 32)))),(5,(.val (.val (.int .u8 58)))),(6,(.val (.val (.int .u8 32)))),(7,(.val (.val (.int .u8 115)))),(8,(.val (.val (.int .u8 32)))),(9,(.val (.val (.int .u8 39)))),(10,(.val (.val (.int .u8 97)))),(11,(.val (.val (.int .u8 39)))),(12,(.val (.val (.int .u8 32)))),(13,(.val (.val (.int .u8 59))))])),((some 41),.op (.old (.convert 90 90 (.tmp 40)) 90)),aJ 42 44 [41],aa 39 42,cP 43 0 39,cP 44 1 39,cP 45 2 39,((some 10),.op (.alloc [(.emp 1),(.emp 1),(.emp 1),(.val (.int .i64 0))])),cb 4 10 43,aa 11 44,aa 12 45],ab [ba 47 4 10,jG 48 21 [(.tmp 47),(.val (.val (.int .i64 3))),(.val (.val (.int .i64 0)))],aa 46 48,cP 49 0 46,cP 50 1 46,aa 13 49,aa 14 50],ab [ba 52 4 1,jG 53 21 [(.tmp 52),(.val (.val (.int .i64 11))),(.val (.val (.int .i64 3)))],aa 51 53,cP 54 0 51,cP 55 1 51,aa 15 54,aa 16 55],.region false [⟨none,[aa 56 5,ax 57 .eql 56 0,aa 58 57]⟩,⟨(some (58,true)),[aa 59 7,ax 60 .eql 59 13]⟩,⟨none,[bV 61 58 60,aa 62 61]⟩,⟨(some (62,true)),[aa 63 9,ax 64 .eql 63 0]⟩,⟨none,[bV 65 62 64,aa 66 65]⟩,⟨(some (66,true)),[aa 67 14,ax 68 .eql 67 0]⟩,⟨none,[bV 69 66 68,aa 70 69]⟩,⟨(some (70,true)),[aa 71 16,ax 72 .eql 71 1]⟩,⟨none,[bV 73 70 72,aa 74 73]⟩,⟨(some (74,true)),[aa 75 4,((some 76),.op (.bM 2 1 [(.val (.int .i64 0))] [(0,(.val (.val (.int .i64 0)))),(1,(.val (.val (.int .i64 0))))])),((some 77),.op (.bM 2 1 [(.val (.int .i64 0))] [(0,(.val (.val (.int .i64 0)))),(1,(.val (.val (.int .i64 1))))])),((some 78),.op (.bM 2 1 [(.val (.int .i64 0))] [(0,(.val (.val (.int .i64 1)))),(1,(.val (.val (.int .i64 0))))])),((some 79),.op (.bM 2 1 [(.val (.int .i64 0))] [(0,(.val (.val (.int .i64 1)))),(1,(.val (.val (.int .i64 1))))])),((some 80),.op (.bM 4 1 [(.emp 1)] [(0,(.tmp 76)),(1,(.tmp 77)),(2,(.tmp 78)),(3,(.tmp 79))])),aJ 81 56 [75,80]]⟩,⟨none,[bV 82 74 81,aa 83 82]⟩,⟨(some (83,true)),[aa 84 8,cp 85 2,((some 86),.op (.bM 1 1 [(.val (.int .i64 0))] [(0,(.val (.val (.int .i64 0))))])),((some 87),.op (.bM 1 1 [(.val (.int .i64 0))] [(0,(.val (.val (.int .i64 1))))])),((some 88),.op (.bM 3 1 [(.emp 1)] [(0,(.tmp 85)),(1,(.tmp 86)),(2,(.tmp 87))])),aJ 89 56 [84,88]]⟩,⟨none,[bV 90 83 89,aa 91 90]⟩,⟨(some (91,true)),[aa 92 13,aR 93 92,ax 94 .eql 93 0]⟩,⟨none,[bV 95 91 94,aa 0 95]⟩],.ret],
 [.tmp 0],96⟩
theorem qS:aE Tryz.prog 20 []=some lV:=by kernel_rfl
theorem AR (g1 g2:ai) (o:g1.Ok) (k2:g2.Ok) (s1:g1.Small) (s2:g2.Small) (h1:cJ Tryz.prog 44 [uC yp] (kH g1)) (O:cJ Tryz.prog 44 [uC yj] (kH g2))
  (P:cr g1 2 4=([[0,0],[0,1],[1,0],[1,1]],0)) (Q:cr g1 2 3=([],13)) (R:qk g1 1 3=([[],[0],[1]],0)) (S:cr g2 3 0=([],0)) (T:cr g1 11 3=([],1)):ar Tryz.prog 20 [] (gb true):=by
 refine ar.val (by simp) λH=>?_
 refine an.of mixed qS ?_
 simp(disch:=omega)only[↓wr,seval,wq,lV]
 intro E r
 try simp(disch:=omega)only[↓wr,seval,wq]
 generalize t1:yp.map (λx=>[gy x])=s
 have g:=t1
 simp only[yp,Pa,PQ] at g
 rw[g]
 refine vJ (id:=E) (len:=26) Tryz.underlying90 Tryz.underlying5 rfl (by omega) (by simp only[View.set,if_true];rfl) ?_
 simp(disch:=omega)only[↓wr,seval,wq]
 refine aj.vt h1 (by kernel_rfl) ⟨yJ yp (by simp only[View.set,if_true,t1]),trivial⟩ ?_
 clear t1 g r
 generalize H.set E (bp.arr 1 s)=H1
 clear H
 simp(disch:=omega)only[↓wr,seval,wq,kH,ah,encS]
 intro p t
 try simp(disch:=omega)only[↓wr,seval,wq]
 have u:=pH g1 o s1 2 4
 have v:=pH g1 o s1 2 3
 have y:=JJ g1 o s1 1 3
 have z:=pH g2 k2 s2 3 0
 have A:=pH g1 o s1 11 3
 rw[P] at u
 rw[Q] at v
 rw[R] at y
 rw[S] at z
 rw[T] at A
 simp only[ah,encS] at u v y z A
 refine aj.Hz (λH=>H p=.arr 4 [ah g1]) u (by kernel_rfl) (by simp[View.set,ah,encS]) ?_
 clear t
 intro k f2
 simp only[ah,encS] at f2
 simp(disch:=omega)only[↓wr,seval,wq,f2,iQ]
 refine aj.pure v ?_
 simp(disch:=omega)only[↓wr,seval,wq,f2,iQ]
 refine aj.pure y ?_
 simp(disch:=omega)only[↓wr,seval,wq,f2,iQ]
 intro F l
 have d32:F≠p:=by rintro rfl;rw[f2] at l;simp at l
 try simp(disch:=omega)only[↓wr,seval,wq]
 generalize t1:yj.map (λx=>[gy x])=U
 have g:=t1
 simp only[yj,Pa,PQ] at g
 rw[g]
 refine vJ (id:=F) (len:=14) Tryz.underlying90 Tryz.underlying5 rfl (by omega) (by simp only[View.set,if_true];rfl) ?_
 simp(disch:=omega)only[↓wr,seval,wq]
 refine aj.vt O (by kernel_rfl) ⟨yJ yj (by simp only[View.set,if_true,t1]),trivial⟩ ?_
 clear t1 g
 simp(disch:=omega)only[↓wr,seval,wq,kH,ah,encS]
 intro G m
 have d43:=(c9 m cT).1
 have d42:G≠p:=by
  rintro rfl
  have:=(c9 m cT).2
  rw[f2] at this;simp at this
 try simp(disch:=omega)only[↓wr,seval,wq,d32,d43,d42,d32.symm,d43.symm,d42.symm]
 refine aj.Hz (λH=>H p=.arr 4 [ah g1]/\H G=.arr 4 [ah g2]) z (by kernel_rfl) (by simp[View.set,ah,encS,d32.symm,d42.symm,f2]) ?_
 clear m l f2 k d32 d43 d42
 rintro k ⟨f2,f4⟩
 simp only[ah,encS] at f2 f4
 simp(disch:=omega)only[↓wr,seval,wq,f2,f4,iQ]
 refine aj.pure A ?_
 simp(disch:=omega)only[↓wr,seval,wq,f2,f4,iQ]
 repeat' (first | (refine ag.eq (λ_=>?_) (λn=>absurd rfl n)) | simp(disch:=omega)only[↓wr,seval,wq])
 have B:=BW [[0,0],[0,1],[1,0],[1,1]] [[0,0],[0,1],[1,0],[1,1]] (by unfold aG;decide) (by intro w hw;simp at hw;rcases hw with rfl | rfl | rfl | rfl <;> (unfold aG;decide))
 have I:=BW [[],[0],[1]] [[],[0],[1]] (by unfold aG;decide) (by intro w hw;simp at hw;rcases hw with rfl | rfl | rfl <;> (unfold aG;decide))
 rw[beq_self_eq_true] at B I
 intro a V b J c C d q e he
 have K:aO (k.set a (.arr 1 [[gi 0],[gi 0]])) (.sl a 0 2 1) 1 (bd [0,0]):=.inr ⟨a,rfl,by simp[View.set]⟩
 have L:aO ((k.set a (.arr 1 [[gi 0],[gi 0]])).set b (.arr 1 [[gi 0],[gi 1]])) (.sl b 0 2 1) 1 (bd [0,1]):=.inr ⟨b,rfl,by simp[View.set]⟩
 have M:aO (((k.set a (.arr 1 [[gi 0],[gi 0]])).set b (.arr 1 [[gi 0],[gi 1]])).set c (.arr 1 [[gi 1],[gi 0]])) (.sl c 0 2 1) 1 (bd [1,0]):=.inr ⟨c,rfl,by simp[View.set]⟩
 have N:aO ((((k.set a (.arr 1 [[gi 0],[gi 0]])).set b (.arr 1 [[gi 0],[gi 1]])).set c (.arr 1 [[gi 1],[gi 0]])).set d (.arr 1 [[gi 1],[gi 1]])) (.sl d 0 2 1) 1 (bd [1,1]):=.inr ⟨d,rfl,by simp[View.set]⟩
 have j:eh (((((k.set a (.arr 1 [[gi 0],[gi 0]])).set b (.arr 1 [[gi 0],[gi 1]])).set c (.arr 1 [[gi 1],[gi 0]])).set d (.arr 1 [[gi 1],[gi 1]])).set e (.arr 1 [[.sl a 0 2 1],[.sl b 0 2 1],[.sl c 0 2 1],[.sl d 0 2 1]])) (.sl e 0 4 1) [[0,0],[0,1],[1,0],[1,1]]:=by
  refine⟨[(.sl a 0 2 1,[0,0]),(.sl b 0 2 1,[0,1]),(.sl c 0 2 1,[1,0]),(.sl d 0 2 1,[1,1])],rfl,.inr ⟨e,rfl,by simp[View.set,gB]⟩,?_⟩
  intro x n
  simp only[O1,Qv,or_false] at n
  rcases n with rfl | rfl | rfl | rfl
  .exact(((K.fresh J).fresh C).fresh q).fresh he
  .exact((L.fresh C).fresh q).fresh he
  .exact(M.fresh q).fresh he
  .exact N.fresh he
 refine aj.FL B (by kernel_rfl) (.val _) ⟨.tree (oS _),j.Fs,trivial⟩ ?_
 clear j K L M N V J C q he f2 f4 B
 generalize (((((k.set a (.arr 1 [[gi 0],[gi 0]])).set b (.arr 1 [[gi 0],[gi 1]])).set c (.arr 1 [[gi 1],[gi 0]])).set d (.arr 1 [[gi 1],[gi 1]])).set e (.arr 1 [[.sl a 0 2 1],[.sl b 0 2 1],[.sl c 0 2 1],[.sl d 0 2 1]]))=D
 simp(disch:=omega)only[↓wr,seval,wq]
 intro f Y h W i hi
 have of:aO (D.set f (.arr 1 [[gi 0]])) (.sl f 0 1 1) 1 (bd [0]):=.inr ⟨f,rfl,by simp[View.set]⟩
 have X:aO ((D.set f (.arr 1 [[gi 0]])).set h (.arr 1 [[gi 1]])) (.sl h 0 1 1) 1 (bd [1]):=.inr ⟨h,rfl,by simp[View.set]⟩
 have j:eh (((D.set f (.arr 1 [[gi 0]])).set h (.arr 1 [[gi 1]])).set i (.arr 1 [[.emp 2],[.sl f 0 1 1],[.sl h 0 1 1]])) (.sl i 0 3 1) [[],[0],[1]]:=by
  refine⟨[(.emp 2,[]),(.sl f 0 1 1,[0]),(.sl h 0 1 1,[1])],rfl,.inr ⟨i,rfl,by simp[View.set,gB]⟩,?_⟩
  intro x n
  simp only[O1,Qv,or_false] at n
  rcases n with rfl | rfl | rfl
  .exact .nil
  .exact(of.fresh W).fresh hi
  .exact X.fresh hi
 refine aj.FL I (by kernel_rfl) (.val _) ⟨.tree (oS _),j.Fs,trivial⟩ ?_
 simp(disch:=omega)only[↓wr,↓reduceIte,wq,Nat.reduceEqDiff,Nat.reduceAdd,Nat.reduceLT,Nat.reduceLeDiff,Int.reduceNeg,Int.reduceToNat,reduceCtorEq,fu]
 simp
theorem Ft:ar Tryz.prog 20 [] (gb true):=AR dM kM JW JK De Dz Nq No Oi OC OA l8 Ow
theorem C1 {g:ai} {n b:Int} (h:(cr g n b).2=0):pz g n b=true/\(cr g n b).1=eN (dC g) g.ao.length n.toNat []/\((cr g n b).1.length:Int)<=b:=by
 unfold cr at h ⊢
 split at h
 .rename_i hm
  rw[OM hm]
  obtain⟨l,h1,c,_⟩:=sq (fit:=dC g) (T:=g.ao.length) (b:=b.toNat) n.toNat [] []
  rw[PK] at h1
  simp only at h ⊢
  split at h
  .simp at h
  .rename_i d
   rw[OK d]
   have a:(bZ (dC g) g.ao.length b.toNat n.toNat [] []).length<=b.toNat:=by omega
   refine⟨hm,h1.trans (c a),?_⟩
   simp only[pz,OO,OT] at hm
   simp only
   omega
 .simp at h
theorem Bc {g:ai} {n b:Int} (h:(cr g n b).2≠0):(cr g n b).1=[]:=by
 unfold cr at h ⊢
 split at h
 .rename_i hm
  rw[OM hm]
  simp only at h ⊢
  split at h
  .rename_i a
   rw[OM a]
  .simp at h
 .rename_i hm
  rw[OK hm]
theorem Dt (g:ai) (n b:Int):aG (cr g n b).1/\∀ w∈(cr g n b).1,aG w:=by
 by_cases h:(cr g n b).2=0
 .obtain⟨h1,a,c⟩:=C1 h
  simp only[pz,OO,OT] at h1
  refine⟨by unfold aG;omega,λw hw=>?_⟩
  rw[a] at hw
  obtain⟨_,s,rfl,d,_⟩:=jY _ _ _ hw
  unfold aG
  try simp
  omega
 .rw[Bc h]
  exact⟨by unfold aG;simp,by simp⟩
theorem LY {g:ai} (hr:aA g=true) (h s:List Int) (a:dC g (h ++ s)=true):dC g (pad h s.length)=true:=by
 have b:(pad h s.length).length=(h ++ s).length:=by simp[pad]
 rw[mq hr] at a ⊢
 rw[b]
 exact a.wide KY
theorem aQ {g:ai} (d:g.Ok) {n:Nat} {w:List Int} (hr:aA g=true) (h:n<=10) (hw:w∈eN (dC g) g.ao.length n []):MY g w=(true,0)/\w.length=n/\aG w/\∀ x∈w,bm x:=by
 obtain⟨h1,s,e,f,c⟩:=jY _ _ _ hw
 rw[PK] at e
 subst e
 refine⟨?_,f,by unfold aG;omega,λx a=>?_⟩
 .rw[MY,OM,h1]
  simp only[vx,OO,OT]
  refine⟨⟨hr,by omega⟩,?_⟩
  unfold KJ
  rw[O7]
  intro x a
  have:=c x a
  simpa using this
 .have:=c x a
  have b:=d.ao
  unfold aG at b
  unfold bm
  omega
theorem Gd {g:ai} {w:List Int} (h:vx g w=true):dC g w=true↔w∈eN (dC g) g.ao.length w.length []:=by
 have b:=h
 simp only[vx,OO,OT] at b
 refine⟨λc=>?_,λhm=>(jY _ _ _ hm).1⟩
 have:=Ce (T:=g.ao.length) (λa s d=>LY b.1.1 a s d) w.length [] w rfl (λx e=>by
  have:=O7.1 b.2 x e
  simpa using this) (by simpa using c)
 simpa using this
theorem ue (g:ai):(∃ e:Int,e≠0/\cX g=(IW,[],e))∨∃ p q o r,cx g p q o r/\cX g=(r,cK p q g.rules 0,0):=by
 by_cases hr:aA g=true
 .rw[eD hr]
  by_cases hp:(al g true).getD g.start.toNat false=true
  .right
   rw[OM hp]
   exact⟨_,_,_,_,CA hr hp,rfl⟩
  .left
   rw[OK hp]
   exact⟨9,by decide,rfl⟩
 .left
  exact⟨1,by decide,by rw[cX,OK hr]⟩
section
variable {g r:ai} {p q:List Bool} {o:List Int}
theorem cx.isRed (h:cx g p q o r):isRed r=true:=by
 rw[Gv.isRed,h.once];simp
end
end Gv
