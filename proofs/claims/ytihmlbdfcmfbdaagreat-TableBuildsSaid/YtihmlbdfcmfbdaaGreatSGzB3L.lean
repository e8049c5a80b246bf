/-
  Part 12 of the proof: what the machine does and what the functions answer.
  Conditions: those that each lemma names.
-/
import Derived.Test.YtihmlbdfcmfbdaaGreatSGzB3K
set_option linter.unusedSimpArgs false
set_option linter.unusedVariables false
set_option maxRecDepth 100000
set_option maxHeartbeats 20000000
namespace Gv
open Go Go.Proofs
theorem tD {g:aj} (a:g.dP) : -100<=g.start/\g.start<=100:=by
 have:=a.nM;have:=a.start;have:=a.ak;omega
theorem Ds (g:aj) (b:g.dP) (x:aB) (a:cB g x):az Tryz.prog 51 [.agg (ag g),.agg (bE x)] (.bt [gi (bA g x).1,gb (bA g x).2]) :=
 QI g (tD b) x a.1 a.2 (by have:=fp b a.1;omega)
theorem r7 {l:List aB} {i:Nat} {y:aB} (h:l[i]?=some y):(aU l).getD i []=[gi y.aw,gi y.dot]:=by simp[aU,Zi,h,bE]
theorem bJ (l:List aB):(aU l).length=l.length:=by simp[aU]
theorem tE {g:aj} {x:aB} {s:Int} {b:Bool} (c:g.dP) (e:cB g x) (h:bA g x=(s,b)) : -1000<=s/\s<=1000:=by
 have a:∀ s∈aW g x.aw,-1000<=s/\s<=1000:=by
  intro s hs
  unfold aW at hs
  split at hs
  .simp at hs;subst hs;have:=tD c;omega
  .have f:g.rules[x.aw.toNat]?=some (ay g x.aw):=by unfold ay;exact getD_some (by have:=e.1;omega)
   have h1:=c.sym _ (Zp f) s hs
   have:=c.af;have:=c.ak
   unfold fT at h1
   split at h1 <;> simp at h1 <;> omega
 unfold bA at h
 split at h
 .simp at h;omega
 .rename_i hd
  simp only[Zo] at h
  have d:x.dot.toNat < (aW g x.aw).length:=by have:=e.2;omega
  rw[<-h.1]
  exact a _ (Zp (getD_some d))
def mV:SC :=
 ae [ae [ab [aa 12 6,aa 13 1,aP 14 13,aS 15 .lss 12 14],bT 15 (.exit 0)],.block 1 (ab [aa 18 5,aa 19 1,aa 20 6,aH 21 2 19 20,aT 22 2 21,bh 23 108 [18,22],aa 5 23]),ab [aa 16 6,aG 17 .add 16 1,aa 6 17]]
def jD:SC :=
 ae [ae [.region false [⟨none,[aa 41 9,aa 42 41]⟩,⟨(some (42,true)),[aa 43 8,aG 44 .lss 43 0]⟩,⟨none,[eF 45 42 44,aa 46 45]⟩,⟨(some (46,true)),[aa 47 11,ao 48 2 2,ai 49 48,aP 50 49,aS 51 .lss 47 50]⟩,⟨none,[eF 52 46 51]⟩],bT 52 (.exit 4)],.block 5 (ae [ab [ao 55 2 2,ai 56 55,aa 57 11,aH 58 3 56 57,ao 59 0 58,ai 60 59,aa 61 8,((some 62),.op (.arith .sub (.val (.val (.int .i64 (-1)))) (.tmp 61))),aS 63 .eql 60 62],bc 63 (ab [aa 64 5,aa 65 11,((some 66),.op (.build [(.val (.int .i64 0)),(.val (.int .i64 0))] [(0,1,(.tmp 65))])),bh 67 108 [64,66],aa 5 67])]),ab [aa 53 11,aG 54 .add 53 1,aa 11 54]]
def mW:SC :=
 ae [ae [ab [aa 24 7,aa 25 5,aP 26 25,aS 27 .lss 24 26],bT 27 (.exit 2)],.block 3 (ae [ab [aT 31 4 2,aa 32 5,aa 33 7,aH 34 2 32 33,aT 35 2 34,bh 36 51 [31,35],aa 30 36,dW 37 0 30,dW 38 1 30,aa 8 37,aa 9 38],ab [aa 39 5,aP 40 39,aa 10 40],ae [ab [aQ 11 0],bU 4 jD],ab [aa 68 5,aP 69 68,aa 70 10,aS 71 .gtr 69 70],bc 71 (ab [aQ 7 (-1)])]),ab [aa 28 7,aG 29 .add 28 1,aa 7 29]]
def pj:SF:=⟨ae [ab [cw 2 0,cq 4 1],ab [cq 5 1],ae [ab [aQ 6 0],bU 0 mV],ae [ab [aQ 7 0],bU 2 mW],ab [aa 72 5,aa 4 72],.ret],
 [.tmp 4],73⟩
theorem vm:aN Tryz.prog 60 [2]=some pj:=by kernel_rfl
def pw:SC :=
 ae [ae [ab [aa 11 8,aa 12 1,aP 13 12,aS 14 .lss 11 13],bT 14 (.exit 0)],.block 1 (ae [ab [aT 18 4 3,aa 19 1,aa 20 8,aH 21 2 19 20,aT 22 2 21,bh 23 51 [18,22],aa 17 23,dW 24 0 17,dW 25 1 17,aa 9 24,aa 10 25],.region false [⟨none,[aa 26 10,aa 27 26]⟩,⟨(some (27,true)),[aa 28 9,aa 29 2,aS 30 .eql 28 29]⟩,⟨none,[eF 31 27 30]⟩],bc 31 (ab [aa 32 7,aa 33 1,aa 34 8,aH 35 2 33 34,ao 36 0 35,ai 37 36,aa 38 1,aa 39 8,aH 40 2 38 39,ao 41 1 40,ai 42 41,aG 43 .add 42 1,((some 44),.op (.build [(.val (.int .i64 0)),(.val (.int .i64 0))] [(0,1,(.tmp 37)),(1,1,(.tmp 43))])),bh 45 108 [32,44],aa 7 45])]),ab [aa 15 8,aG 16 .add 15 1,aa 8 16]]
def rb:SF:=⟨ae [ab [cw 3 0,cq 6 1],ab [cq 7 1],ae [ab [aQ 8 0],bU 0 pw],ab [aa 46 7,aa 6 46],.ret],
 [.tmp 6],47⟩
theorem xc:aN Tryz.prog 66 [3]=some rb:=by kernel_rfl
def oI:SC :=
 ae [ae [ab [aa 11 5,aa 12 0,aP 13 12,aS 14 .lss 11 13],bT 14 (.exit 0)],.block 1 (ae [ab [aa 17 0,aa 18 5,aH 19 2 17 18,aT 20 2 19,aa 21 1,aa 22 5,aH 23 2 21 22,aT 24 2 23,((some 25),.op (.old (.binOp .neq 33 (.tmp 20) (.tmp 24) 33) 4))],bc 25 (ae [ab [bz 4 false],.ret])]),ab [aa 15 5,aG 16 .add 15 1,aa 5 16]]
def qR:SF:=⟨ae [ab [bz 4 false],ae [ab [aa 6 0,aP 7 6,aa 8 1,aP 9 8,aS 10 .neq 7 9],bc 10 (ae [ab [bz 4 false],.ret])],ae [ab [aQ 5 0],bU 0 oI],ab [bz 4 true],.ret],
 [.tmp 4],26⟩
theorem wW:aN Tryz.prog 21 []=some qR:=by kernel_rfl
def pB:SF:=⟨ae [ab [cw 2 0,aQ 4 0],ae [ab [aa 5 1,ao 6 0 2,ai 7 6,aP 8 7,aS 9 .lss 5 8],bc 9 (ae [ab [aa 10 1,aa 4 10],.ret])],ab [aa 11 1,ao 12 0 2,ai 13 12,aP 14 13,aS 15 .sub 11 14,((some 16),.op (.arith .sub (.val (.val (.int .i64 (-1)))) (.tmp 15))),aa 4 16],.ret],
 [.tmp 4],17⟩
theorem vB:aN Tryz.prog 65 [2]=some pB:=by kernel_rfl
def XJ (g:aj) (out:List aB) (x:aB):Prop:=∀ (s:Int) (k:Nat) (R:bu),bA g x=(s,true)->s < 0->g.rules[k]?=some R->R.left = -1 - s->(⟨k,0⟩:aB)∈out
def UR (g:aj) (l:List aB) (H:View) (m:Nat) (T:Env) (H':View):Prop:=∃ (i:Nat) (r:V) (out:List aB),m=(300 - out.length) * 1000+(300 - i)/\i<=out.length/\aV H' r 2 (aU out)/\dt H H' r/\cJ out/\(∀ x∈out,ou g l x)/\(∀ x∈l,x∈out)/\(∀ j x,j < i->out[j]?=some x->XJ g out x) /\
 T 2=.aI (ag g) 0/\T 5=r/\T 7=gi i
theorem Bu (g:aj) (J:g.dP) (l:List aB) (hl:∀ x∈l,cB g x) (hn:l.length<=10000) (u:V) (H:View) (ho:aV H u 2 (aU l)):au Tryz.prog 60 [.agg (ag g),u] H λr H'=>aV H' r 2 (aU (cK g l))/\dt H H' r:=by
 refine au.of mixed vm ?_
 have hlen:cT u=some l.length:=by rw[ho.len];simp[aU]
 have bn:=J.rules
 simp(disch:=omega)only[↓wr,seval,wq,pj,ag,encS]
 refine aR.up l.length (λi T H'=>∃ (r:V) (out:List aB),aV H' r 2 (aU out)/\dt H H' r/\cJ out/\(∀ x,x∈out↔x∈l.take i)/\out.length<=287/\T 1=u/\T 2=.aI (ag g) 0/\T 5=r/\T 6=gi i)
  ⟨.emp 1,[],.nil,.emp,.nil,by simp,by simp,rfl,rfl,rfl,rfl⟩ ?_
 rintro i k T H' hk ⟨r,out,D,fr,n,hm,hle,t1,t2,t5,t6⟩
 simp(disch:=omega)only[↓wr,seval,wq,mV,t1,t2,t5,t6,hlen]
 apply ah.dec<;>intro hc
 .have N:l[i]?=some (l[i]'(by omega)):=Zj (by omega)
  have W:l.take (i+1)=l.take i ++ [l[i]'(by omega)]:=by rw[ZG,N];rfl
  generalize l[i]'(by omega)=y at N W
  obtain⟨id,hu,t⟩:=ho.sl (by simp[aU];omega)
  have X:H' id=.arr 2 (aU l):=by rw[(fr id (by rw[t];simp)).1,t]
  simp(disch:=omega)only[↓wr,seval,wq,t1,t2,t5,t6,hu,X,r7 N]
  refine⟨by first | omega | (simp[aU];omega),by first | omega | (simp[aU];omega),?_⟩
  refine ax.dJ ((DG r out (by omega) y H' D).mono ?_)
  rintro p H2 ⟨O,l2⟩
  simp(disch:=omega)only[↓wr,seval,wq,t1,t2,t5,t6]
  have Y:∀ x,x∈e9 out y↔x∈l.take (i+1):=λx=>by
   rw[kx,W,ZN,hm,aaj,or_comm]
  have Z:=tF (x:=y) n
  exact aE hk (by omega) ⟨p,e9 out y,O,fr.step l2,Z,Y,gC J Z (λx b=>hl x (List.mem_of_mem_take ((Y x).1 b))),t1,t2,rfl,rfl⟩
 rw[Zx (by omega)] at hm
 simp(disch:=omega)only[↓wr,seval,wq,t1,t2,t5,t6]
 refine aR.intro (UR g l H) ((300 - out.length) * 1000+300)
  ⟨0,r,out,by omega,aaY _,D,fr,n,λx b=>.base ((hm x).1 b),λx b=>(hm x).2 b,λj x hj=>by omega,t2,t5,rfl⟩ ?_
 clear D fr n hm hle t1 t2 t5 t6 hc hk
 rintro m T1 H1 ⟨i,r,out,rfl,hi,D,fr,n,E,P,an,t2,t5,t7⟩
 have K:∀ x∈out,cB g x:=λx b=>(E x b).has hl
 have hle:=gC J n K
 have a7:cT r=some out.length:=by rw[D.len,bJ]
 simp(disch:=omega)only[↓wr,seval,wq,mW,t2,t5,t7,a7]
 apply ah.dec<;>intro hc
 .have N:out[i]?=some (out[i]'(by omega)):=Zj (by omega)
  have Q:=K _ (Zs (show i < out.length by omega))
  have aq:=E _ (Zs (show i < out.length by omega))
  generalize out[i]'(by omega)=y at N Q aq
  have h1:=Ds g J y Q
  cases F:bA g y with
  | mk s G =>
  have bq:=tE J Q F
  rw[F] at h1
  obtain⟨id,hu,t⟩:=D.sl (by simp[aU];omega)
  rw[bJ] at hu
  simp only[ag,encS,bE] at h1
  simp(disch:=omega)only[↓wr,seval,wq,t2,t5,t7,hu,t,r7 N,ag,encS]
  refine⟨by first | omega | (simp[aU];omega),by first | omega | (simp[aU];omega),?_⟩
  refine ax.pure h1 ?_
  simp(disch:=omega)only[↓wr,seval,wq,t2,t5,t7,hu]
  refine aR.up g.rules.length (λk T H'=>∃ (p:V) (a:List aB),aV H' p 2 (aU a)/\dt H H' p/\cJ a/\(∀ x∈a,ou g l x)/\(∀ x∈out,x∈a)/\out.length<=a.length/\(a.length=out.length->a=out) /\
   (∀ (q:Nat) (R:bu),q < k->G=true->s < 0->g.rules[q]?=some R->R.left = -1 - s->(⟨q,0⟩:aB)∈a)/\T 2=.aI (ag g) 0/\T 5=p/\T 7=gi i/\T 8=gi s/\T 9=gb G/\T 10=gi out.length/\T 11=gi k)
   ⟨r,out,D,fr,n,E,λx b=>b,Zt _,λ_=>rfl,λq R hq=>by omega,t2,by rw[<-hu];exact t5,t7,rfl,rfl,rfl,rfl⟩ ?_
  clear D fr t2 t5 t7 t hu
  rintro k j T2 H2 hk ⟨p,a,O,I,c,d,v,S,o,w,t2,t5,t7,t8,t9,t10,t11⟩
  have U:∀ x∈a,cB g x:=λx b=>(d x b).has hl
  have bl:=gC J c U
  have f:cT p=some a.length:=by rw[O.len,bJ]
  have more:out.length < a.length->∀ z:Env,z 2=.aI (ag g) 0->z 5=p->z 7=gi 0->∃ k',k' < (300 - out.length) * 1000+(300 - i)/\UR g l H k' z H2:=λh z e2 e5 e7 =>
   ⟨(300 - a.length) * 1000+300,by omega,0,p,a,by omega,aaY _,O,I,c,d,λx b=>v x (P x b),λj x hj=>by omega,e2,e5,e7⟩
  have stay:(G=true->s < 0->g.rules.length<=k)->¬ out.length < a.length->∀ z:Env,z 2=.aI (ag g) 0->z 5=p->z 7=gi ((i:Int)+1)->∃ k',k' < (300 - out.length) * 1000+(300 - i)/\UR g l H k' z H2:=λar h z e2 e5 e7=>by
   have e:=o (by omega)
   subst e
   refine⟨(300 - a.length) * 1000+(300 - (i+1)),by omega,i+1,p,a,rfl,by omega,O,I,c,d,P,λj x hj b=>?_,e2,e5,e7⟩
   rcases ZI j i with a1 | a1
   .exact an j x a1 b
   .have:j=i:=by omega
    subst this
    rw[N] at b
    simp only[Zl] at b
    subst b
    intro s' q R h1 L A M
    rw[F] at h1
    simp only[Zo] at h1
    obtain⟨rfl,rfl⟩:=h1
    have:=(Zy.1 A).1
    exact w q R (by have:=ar rfl L;omega) rfl L A M
  cases G with
  | false =>
   simp(disch:=omega)only[↓wr,seval,wq,jD,t2,t5,t7,t8,t9,t10,t11,f]
   apply ah.dec<;>intro hg
   .simp(disch:=omega)only[↓wr,seval,wq,t2,t5,t7]
    exact more (by omega) _ t2 t5 rfl
   .simp(disch:=omega)only[↓wr,seval,wq,t2,t5,t7]
    exact stay (λh=>by simp at h) (by omega) _ t2 t5 rfl
  | true =>
   simp(disch:=omega)only[↓wr,seval,wq,jD,t2,t5,t7,t8,t9,t10,t11,f,ag]
   apply ah.dec<;>intro B
   .simp(disch:=omega)only[↓wr,seval,wq,t2,t5,t7,t8,t9,t10,t11,f,ag]
    apply ah.dec<;>intro a8
    .have hR:g.rules[k]?=some (g.rules[k]'(by omega)):=Zj (by omega)
     have hL:=J.left _ (Zs (show k < g.rules.length by omega))
     generalize g.rules[k]'(by omega)=R at hR hL
     simp(disch:=omega)only[↓wr,seval,wq,t2,t5,t7,t8,t9,t10,t11,ag,aO,Zm,hR,Zq]
     apply ah.eq<;>intro he
     .simp(disch:=omega)only[↓wr,seval,wq,t2,t5,t7,t8,t9,t10,t11]
      refine ax.dJ ((DG p a (by omega) ⟨k,0⟩ H2 O).mono ?_)
      rintro r3 H3 ⟨o3,l3⟩
      simp(disch:=omega)only[↓wr,seval,wq,t2,t5,t7,t8,t9,t10,t11]
      have a6:ou g l ⟨k,0⟩:=.step aq F B hR he
      refine aE hk (by omega) ⟨r3,e9 a ⟨k,0⟩,o3,I.step l3,tF c,λx b=>?_,λx b=>kx.2 (.inr (v x b)),by have:=Hz a ⟨k,0⟩;omega,λh=>?_,λq R' hq L A M=>?_,t2,rfl,t7,t8,t9,t10,rfl⟩
      .rcases kx.1 b with rfl | b
       .exact a6
       .exact d x b
      .have bb:(⟨k,0⟩:aB)∈a:=aaB λbd=>by
        have:=Eg bd;omega
       rw[EY c bb] at h ⊢
       exact o h
      .rcases ZI q k with C | C
       .exact kx.2 (.inr (w q R' C rfl L A M))
       .have:q=k:=by omega
        subst this
        exact kx.2 (.inl rfl)
     .simp(disch:=omega)only[↓wr,seval,wq,t2,t5,t7,t8,t9,t10,t11]
      refine aE hk (by omega) ⟨p,a,O,I,c,d,v,S,o,λq R' hq L A M=>?_,t2,t5,t7,t8,t9,t10,rfl⟩
      rcases ZI q k with C | C
      .exact w q R' C rfl L A M
      .have:q=k:=by omega
       subst this
       rw[hR] at A
       simp only[Zl] at A
       subst A
       exact absurd M he
    .simp(disch:=omega)only[↓wr,seval,wq,t2,t5,t7,t8,t9,t10,t11,f]
     apply ah.dec<;>intro hg
     .simp(disch:=omega)only[↓wr,seval,wq,t2,t5,t7]
      exact more (by omega) _ t2 t5 rfl
     .simp(disch:=omega)only[↓wr,seval,wq,t2,t5,t7]
      exact stay (λ_ _=>by omega) (by omega) _ t2 t5 rfl
   .simp(disch:=omega)only[↓wr,seval,wq,t2,t5,t7,t8,t9,t10,t11,f]
    apply ah.dec<;>intro hg
    .simp(disch:=omega)only[↓wr,seval,wq,t2,t5,t7]
     exact more (by omega) _ t2 t5 rfl
    .simp(disch:=omega)only[↓wr,seval,wq,t2,t5,t7]
     exact stay (λ_ h=>absurd h B) (by omega) _ t2 t5 rfl
 .simp(disch:=omega)only[↓wr,seval,wq,t2,t5,t7]
  have br:i=out.length:=by omega
  rw[IY J hl n E P (λx b s k R h1 L A M=>by
   obtain⟨j,hj,e⟩:=aaA.1 b
   exact an j x (by omega) (by rw[Zj hj,e]) s k R h1 L A M)]
  exact⟨D,fr⟩
theorem O0 (g:aj) (m:g.dP) (l:List aB) (hs:cJ l) (hl:∀ x∈l,cB g x) (s:Int) (u:V) (H:View) (t:aV H u 2 (aU l)):au Tryz.prog 66 [.agg (ag g),u,gi s] H λr H'=>aV H' r 2 (aU (bw g l s))/\dt H H' r:=by
 refine au.of mixed xc ?_
 have hlen:cT u=some l.length:=by rw[t.len];simp[aU]
 have hle:=gC m hs hl
 simp(disch:=omega)only[↓wr,seval,wq,rb,ag,encS]
 refine aR.up l.length (λi T H'=>∃ (r:V),aV H' r 2 (aU (bw g (l.take i) s))/\dt H H' r/\T 1=u/\T 2=gi s/\T 3=.aI (ag g) 0/\T 7=r/\T 8=gi i)
  ⟨.emp 1,.nil,.emp,rfl,rfl,rfl,rfl,rfl⟩ ?_
 rintro i k T H' hk ⟨r,h,fr,t1,t2,t3,t7,t8⟩
 simp(disch:=omega)only[↓wr,seval,wq,pw,t1,t2,t3,t7,t8,hlen]
 apply ah.dec<;>intro z
 .have j:l[i]?=some (l[i]'(by omega)):=Zj (by omega)
  have b:=hl _ (Zs (show i < l.length by omega))
  have a:=Ss (g:=g) hs (show l[i]?=some (l[i]'(by omega)) from j) s
  generalize l[i]'(by omega)=y at j b a
  have h1:=Ds g m y b
  cases c:bA g y with
  | mk q n =>
  rw[c] at h1
  obtain⟨id,hu,f⟩:=t.sl (by simp[aU];omega)
  have d:H' id=.arr 2 (aU l):=by rw[(fr id (by rw[f];simp)).1,f]
  rw[bJ] at hu
  have v:=b.2
  have J:=fp m b.1
  have o:=vh (g:=g) (l:=l.take i) (s:=s)
  simp only[Z6] at o
  simp only[ag,encS,bE] at h1
  simp(disch:=omega)only[↓wr,seval,wq,t1,t2,t3,t7,t8,hu,d,r7 j,ag,encS]
  refine⟨by first | omega | (simp[aU];omega),by first | omega | (simp[aU];omega),?_⟩
  refine ax.pure h1 ?_
  have skip:¬ bA g y=(s,true)->∀ e:Env,e 1=u->e 2=gi s->e 3=.aI (ag g) 0->e 7=r->e 8=gi ((i:Int)+1)->∃ w,w < k/\FM l.length w (λi T H'=>∃ (r:V),aV H' r 2 (aU (bw g (l.take i) s))/\dt H H' r/\T 1=u/\T 2=gi s/\T 3=.aI (ag g) 0/\T 7=r/\T 8=gi i) e H':=λp e A B C D E=>by
   rw[Zk p] at a
   exact aE hk (by omega) ⟨r,by rw[a];exact h,fr,A,B,C,D,E⟩
  cases n with
  | false =>
   simp(disch:=omega)only[↓wr,seval,wq,t1,t2,t3,t7,t8]
   exact skip (by rw[c];simp) _ t1 t2 t3 t7 rfl
  | true =>
   simp(disch:=omega)only[↓wr,seval,wq,t1,t2,t3,t7,t8]
   apply ah.eq<;>intro he
   .simp(disch:=omega)only[↓wr,seval,wq,t1,t2,t3,t7,t8,hu,d,r7 j]
    refine⟨by first | omega | (simp[aU];omega),by first | omega | (simp[aU];omega),?_⟩
    refine⟨by first | omega | (simp[aU];omega),by first | omega | (simp[aU];omega),?_⟩
    refine ax.dJ ((DG r (bw g (l.take i) s) (by omega) ⟨y.aw,y.dot+1⟩ H' h).mono ?_)
    rintro F K ⟨G,I⟩
    simp(disch:=omega)only[↓wr,seval,wq,t1,t2,t3,t7,t8]
    rw[Zn (by rw[c,he])] at a
    exact aE hk (by omega) ⟨F,by rw[a];exact G,fr.step I,t1,t2,t3,rfl,rfl⟩
   .simp(disch:=omega)only[↓wr,seval,wq,t1,t2,t3,t7,t8]
    exact skip (by rw[c];simp[he]) _ t1 t2 t3 t7 rfl
 .simp(disch:=omega)only[↓wr,seval,wq,t1,t2,t3,t7,t8]
  rw[Zx (by omega)] at h
  exact⟨h,fr⟩
theorem EI {g:aj} (a:g.dP) {i:Nat} (hi:i < g.af.length+g.ak.length) : -100<=bj g i/\bj g i<=100:=by
 have:=a.af;have:=a.ak
 unfold bj;split <;> omega
theorem LN (g:aj) (a:g.dP) (i:Nat) (hi:i < g.af.length+g.ak.length):az Tryz.prog 65 [.agg (ag g),gi i] (gi (bj g i)):=by
 refine az.val (by
  intro v b;simp at b
  rcases b with rfl | rfl
  .exact cb _ (cY g)
  .exact .val _) λH=>?_
 have:=a.af;have:=a.ak
 refine au.of mixed vB ?_
 unfold bj
 simp(disch:=omega)only[↓wr,seval,wq,pB,ag,encS]
 apply ah.dec<;>intro h
 .simp(disch:=omega)only[↓wr,seval,wq]
  rw[Zn (by omega)]
 .simp(disch:=omega)only[↓wr,seval,wq,ag]
  rw[Zk (by omega)]
theorem uq (l:List aB):Tree (.aD (aU l)):=dZ _ _ λx _ v a=>by simp[bE] at a;rcases a with rfl | rfl <;> exact .val _
theorem O1 (a b:List aB) (g:aJ a) (j:aJ b):az Tryz.prog 21 [.aD (aU a),.aD (aU b)] (gb (a == b)):=by
 unfold aJ at g j
 refine az.val (by
  intro v f;simp at f
  rcases f with rfl | rfl <;> exact uq _) λH=>?_
 refine au.of mixed wW ?_
 simp(disch:=omega)only[↓wr,seval,wq,qR,aU]
 apply ah.ne<;>intro h
 .simp(disch:=omega)only[↓wr,seval,wq]
  have:(a == b)=false:=by simp;rintro rfl;exact h rfl
  rw[this]
 .simp(disch:=omega)only[↓wr,seval,wq]
  refine aR.up a.length (λi T H'=>a.take i=b.take i/\T 0=.aD (aU a)/\T 1=.aD (aU b)/\T 5=gi i) ⟨rfl,rfl,rfl,rfl⟩ ?_
  rintro i k T H' hk ⟨he,t0,t1,t5⟩
  simp(disch:=omega)only[↓wr,seval,wq,oI,t0,t1,t5,aU]
  apply ah.dec<;>intro l
  .have d:a[i]?=some (a[i]'(by omega)):=Zj (by omega)
   have c:b[i]?=some (b[i]'(by omega)):=Zj (by omega)
   generalize a[i]'(by omega)=x at d
   generalize b[i]'(by omega)=y at c
   simp(disch:=omega)only[↓wr,seval,wq,t0,t1,t5,aU,Zm,d,c,Zq,bE]
   refine fQ (xs:=#[.int .i64 x.aw,.int .i64 x.dot]) (ys:=#[.int .i64 y.aw,.int .i64 y.dot]) Tryz.underlying33 (by kernel_rfl) (by kernel_rfl) ?_ ?_ (mr x y) (.inr ⟨rfl,rfl⟩) ?_
   .rfl
   .rfl
   rw[uV]
   simp(disch:=omega)only[↓wr,seval,wq,t0,t1,t5]
   apply ah.dec<;>intro e
   .simp(disch:=omega)only[↓wr,seval,wq,t0,t1,t5]
    exact aE hk (by omega) ⟨by rw[ZG,ZG,he,d,c,e],t0,t1,rfl⟩
   .simp(disch:=omega)only[↓wr,seval,wq]
    have:(a == b)=false:=by
     simp;rintro rfl
     rw[d] at c;simp at c;exact e c
    rw[this]
  .simp(disch:=omega)only[↓wr,seval,wq,t0,t1,t5]
   rw[Zx (by omega),Zx (by omega)] at he
   rw[he,aaF]
def Gk (p:Nat->Bool):Nat->BV
 | 0=>0
 | n+1=>if p n=true then Gk p n ||| BitVec.twoPow 32 n else Gk p n
theorem DM (p:Nat->Bool):∀ (n i:Nat),n<=32->((Gk p n).getLsbD i=true↔i < n/\p i=true)
 | 0,i,_=>by simp[Gk]
 | n+1,i,h=>by
  have c:=DM p n i (by omega)
  rw[Gk]
  split
  .rename_i hp
   rw[Z5,aam,c,aaN]
   simp only[Zw,ZA]
   constructor
   .rintro (⟨h1,a⟩ | ⟨h1,rfl⟩)
    .exact⟨by omega,a⟩
    .exact⟨by omega,hp⟩
   .rintro⟨h1,a⟩
    rcases ZI i n with b | b
    .exact .inl ⟨b,a⟩
    .exact .inr ⟨by omega,by omega⟩
  .rename_i hp
   rw[c]
   constructor
   .rintro⟨h1,a⟩;exact⟨by omega,a⟩
   .rintro⟨h1,a⟩
    refine⟨?_,a⟩
    rcases ZI i n with b | b
    .exact b
    .have:i=n:=by omega
     subst this;exact absurd a hp
structure cz where
 aw:Int
 set:BV
 deriving DecidableEq
structure iV where
 state:Int
 term:Int
 kind:Int
 aw:Int
 other:Int
 deriving DecidableEq
noncomputable def bY (g:aj):List aM × Int:=if isRed g=true then gn g 302 0 ez else ([],1)
noncomputable def aY (g:aj) (a:List aM):List (List aB):=a.map λs=>cK g s.bf
open Classical in
noncomputable def tb (g:aj) (a:List aM) (i:Nat) (x:aB):BV:=Gk (λt=>decide (lB g (av g false) a (aY g a) i x t)) 32
noncomputable def gP (g:aj) (a:List aM) (i:Nat):List cz:=((aY g a).getD i []).filterMap λx=>if (bA g x).2=false/\0<=x.aw then some ⟨x.aw,tb g a i x⟩ else none
noncomputable def iu (g:aj) (a:List aM):List (List cz):=(List.range a.length).map (gP g a)
noncomputable def mJ (g:aj):List (List cz) × Int:=if (bY g).2=0 then (iu g (bY g).1,0) else ([],(bY g).2)
def hasB (s:BV) (n:Int):Bool:=decide (s &&& dQ n≠0)
def eZ (l:List cz) (n:Int):List Int:=(l.filter λx=>hasB x.set n).map cz.aw
def ey (g:aj) (t:Int):Int:=match g.af[t.toNat]? with
 | some x=>x.level
 | none=>0
def sC (g:aj) (t:Int):Int:=match g.af[t.toNat]? with
 | some x=>x.assoc
 | none=>0
def fg (g:aj) (aw term:Int):Int :=
 if bI g=false∨aw < 0∨(g.rules.length:Int)<=aw∨term < 0∨(g.af.length:Int) < term then 0
 else if term=g.af.length∨(ay g aw).prec < 0∨ey g (ay g aw).prec=0∨ey g term=0 then 4
 else if ey g term < ey g (ay g aw).prec∨ey g (ay g aw).prec=ey g term/\sC g term=1 then 1
 else if ey g (ay g aw).prec < ey g term∨sC g term=2 then 2
 else 3
def gR:List cn->Int->Option Cell
 | [],_=>none
 | e :: l,s=>if e.sym=s then some ⟨1,e.to⟩ else gR l s
def gA (g:aj) (s:aM) (term:Int):Cell:=match gR s.aK term with
 | some c=>c
 | none=>if term=g.af.length/\(⟨-1,1⟩:aB)∈s.bf then ⟨3,0⟩ else ⟨0,0⟩
def fF (state term r0:Int) (l:List Int):List iV:=l.map λr=>⟨state,term,5,r,r0⟩
def kd (g:aj) (s:aM) (l:List cz) (state term:Int):Cell × List iV:=match eZ l term with
 | []=>(gA g s term,[])
 | r :: rs =>
  if (gA g s term).kind=0 then (⟨2,r⟩,fF state term r rs)
  else (if fg g r term=1 then ⟨2,r⟩ else if fg g r term=3 then ⟨0,0⟩ else gA g s term,fF state term r rs ++ [⟨state,term,fg g r term,r,-1⟩])
def ed (g:aj) (s:aM) (l:List cz) (state:Int) (n:Nat):List Cell:=(List.range n).map λ(k:Nat)=>(kd g s l state k).1
def tf (g:aj) (s:aM) (l:List cz) (state:Int) (n:Nat):List iV:=(List.range n).flatMap λ(k:Nat)=>(kd g s l state k).2
def we (a:List aM) (i:Int) (k:Int):Int:=if (dY a i [-1 - k]).2=true then (dY a i [-1 - k]).1 else -1
def qg (g:aj) (a:List aM) (i:Int):List Int:=(List.range g.ak.length).map λ(k:Nat)=>we a i k
def jZ (g:aj) (a:List aM) (l:List (List cz)) (n:Nat):PV:=⟨(List.range n).map λ(i:Nat)=>ed g (a.getD i bg) (l.getD i []) i (g.af.length+1),(List.range n).map λ(i:Nat)=>qg g a i⟩
def qB (g:aj) (a:List aM) (l:List (List cz)) (n:Nat):List iV:=(List.range n).flatMap λ(i:Nat)=>tf g (a.getD i bg) (l.getD i []) i (g.af.length+1)
noncomputable def jr (g:aj):PV × List iV × Int:=if (bY g).2=0 then (jZ g (bY g).1 (mJ g).1 (bY g).1.length,qB g (bY g).1 (mJ g).1 (bY g).1.length,0) else (⟨[],[]⟩,[],(bY g).2)
structure eo (g:aj) (at_ i:Nat) (out:List aM):Prop where
 bf:∀ s∈out,cJ s.bf/\s.bf≠[]/\∀ x∈s.bf,cB g x
 aK:∀ j s,out[j]?=some s->s.aK.length<=40/\(j=at_->s.aK.length<=i)/\(at_ < j->s.aK=[])
 to:∀ s∈out,∀ e∈s.aK,0<=e.to/\e.to < out.length
 sym:∀ s∈out,∀ e∈s.aK,-1000<=e.sym/\e.sym<=1000
theorem mem_modify {α:Type} {l:List α} {i:Nat} {f:α->α} {y:α} (h:y∈l.modify i f):y∈l∨∃ x,l[i]?=some x/\y=f x:=by
 obtain⟨j,a,e⟩:=aaA.1 h
 simp only[List.length_modify] at a
 rw[List.getElem_modify] at e
 split at e
 .rename_i b
  subst b
  exact .inr ⟨l[i],Zj a,e.symm⟩
 .exact .inl (e ▸ Zs a)
theorem QQ (g:aj) (l:List aB) (at_:Nat) (out:List aM) (i:Nat):out.length<=(dr g l at_ out i).length/\(dr g l at_ out i).length<=out.length+1:=by
 unfold dr
 split
 .omega
 .split
  .simp
  .simp
theorem eo.put {g:aj} {at_ i:Nat} {out:List aM} (h:eo g at_ i out) (hi:i < 40) {s:Int} (hs : -1000<=s/\s<=1000) {to:Int} (c:0<=to/\to < out.length):eo g at_ (i+1) (out.modify at_ λx=>(⟨x.bf,x.aK ++ [⟨s,to⟩]⟩:aM)):=by
 refine⟨λy a=>?_,λj y a=>?_,λy a e he=>?_,λy a e he=>?_⟩
 rotate_right
 .rcases mem_modify a with a | ⟨x,b,rfl⟩
  .exact h.sym y a e he
  .rcases ZN.1 he with he | he
   .exact h.sym x (Zp b) e he
   .simp at he;subst he;exact hs
 .rcases mem_modify a with a | ⟨x,b,rfl⟩
  .exact h.bf y a
  .exact h.bf x (Zp b)
 .rw[List.getElem?_modify] at a
  cases b:out[j]? with
  | none=>rw[b] at a;simp at a
  | some x =>
   rw[b] at a
   have h1:=h.aK j x b
   by_cases e:at_=j
   .subst e
    simp at a
    subst a
    have:=h1.2.1 rfl
    refine⟨by simp;omega,λ_=>by simp;omega,λh=>by omega⟩
   .simp[e] at a
    subst a
    exact⟨h1.1,λh=>absurd h.symm e,h1.2.2⟩
 .rw[List.length_modify]
  rcases mem_modify a with a | ⟨x,b,rfl⟩
  .exact h.to y a e he
  .rcases ZN.1 he with he | he
   .exact h.to x (Zp b) e he
   .simp at he;subst he;exact c
theorem eo.up {g:aj} {at_ i:Nat} {out:List aM} (h:eo g at_ i out):eo g at_ (i+1) out :=
 ⟨h.bf,λj s hs=>by have:=h.aK j s hs;exact⟨this.1,λe=>by have:=this.2.1 e;omega,this.2.2⟩,h.to,h.sym⟩
theorem eo.add {g:aj} {at_ i:Nat} {out:List aM} (h:eo g at_ i out) {k:List aB} (hk:cJ k/\k≠[]/\∀ x∈k,cB g x):eo g at_ i (out ++ [⟨k,[]⟩]):=by
 refine⟨λy a=>?_,λj y a=>?_,λy a e he=>?_,λy a e he=>?_⟩
 rotate_right
 .rcases ZN.1 a with a | a
  .exact h.sym y a e he
  .simp at a;subst a;simp at he
 .rcases ZN.1 a with a | a
  .exact h.bf y a
  .simp at a;subst a;exact hk
 .rcases ZI j out.length with b | b
  .rw[ZP b] at a;exact h.aK j y a
  .rw[Z3 b] at a
   cases hq:j - out.length with
   | zero=>rw[hq] at a;simp at a;subst a;exact⟨by simp,λ_=>by simp,λ_=>rfl⟩
   | succ q=>rw[hq] at a;simp at a
 .rcases ZN.1 a with a | a
  .have:=h.to y a e he;simp;omega
  .simp at a;subst a;simp at he
theorem eo.step {g:aj} {l:List aB} (hs:cJ l) (hl:∀ x∈l,cB g x) {at_ i:Nat} {out:List aM} (h:eo g at_ i out) (hi:i < 40):eo g at_ (i+1) (dr g l at_ out i):=by
 unfold dr
 split
 .exact h.up
 .rename_i a
  have b : -1000<=bj g i/\bj g i<=1000:=by unfold bj;split <;> omega
  split
  .exact(h.add ⟨HW _ hs,a,I8 hl⟩).put hi b (by simp;omega)
  .have:=zM out (bw g l (bj g i))
   exact h.put hi b ⟨by omega,this⟩
theorem eo.next {g:aj} {at_ i:Nat} {out:List aM} (h:eo g at_ i out):eo g (at_+1) 0 out :=
 ⟨h.bf,λj s hs=>by
  have:=h.aK j s hs
  exact⟨this.1,λe=>by have:=this.2.2 (by omega);simp[this],λe=>this.2.2 (by omega)⟩,h.to,h.sym⟩
theorem eo.row {g:aj} {l:List aB} (hs:cJ l) (hl:∀ x∈l,cB g x) {at_:Nat} {out:List aM} (h:eo g at_ 0 out):∀ n:Nat,n<=40->eo g at_ n ((List.range n).foldl (dr g l at_) out)/\out.length<=((List.range n).foldl (dr g l at_) out).length/\((List.range n).foldl (dr g l at_) out).length<=out.length+n
 | 0,_=>⟨h,Zt _,Zt _⟩
 | n+1,a=>by
  obtain⟨h1,b,c⟩:=eo.row hs hl h n (by omega)
  rw[Z8,Z7]
  simp only[ZS,aaC]
  have:=QQ g l at_ ((List.range n).foldl (dr g l at_) out) n
  exact⟨h1.step hs hl (by omega),by omega,by omega⟩
theorem po {g:aj} : eo g 0 0 ez:=by
 refine⟨λs hs=>?_,λj s hs=>?_,λs hs e he=>?_,λs hs e he=>?_⟩
 rotate_right
 .simp[ez] at hs;subst hs;simp at he
 .simp[ez] at hs;subst hs
  refine⟨by simp[cJ],by simp,λx a=>?_⟩
  simp at a;subst a
  exact⟨⟨by simp,by simp only;omega⟩,by simp,by simp[aW]⟩
 .have:=Zp hs
  simp[ez] at this;subst this;simp
 .simp[ez] at hs;subst hs;simp at he
theorem eo.qj {g:aj} (a:g.dP) {at_ i:Nat} {out:List aM} (h:eo g at_ i out) {j:Nat} (b:j < out.length):cJ (cK g (out.getD j bg).bf)/\∀ x∈cK g (out.getD j bg).bf,cB g x:=by
 have hm:=Zp (getD_some (d:=bg) b)
 exact⟨kz _ _,λx c=>((df a (h.bf _ hm).2.2).1 c).has (h.bf _ hm).2.2⟩
structure wo (g:aj) (a:List aM):Prop where
 bf:∀ s∈a,cJ s.bf/\s.bf≠[]/\∀ x∈s.bf,cB g x
 aK:∀ s∈a,s.aK.length<=40
 to:∀ s∈a,∀ e∈s.aK,0<=e.to/\e.to < a.length
 sym:∀ s∈a,∀ e∈s.aK,-1000<=e.sym/\e.sym<=1000
theorem eo.ok {g:aj} {at_ i:Nat} {out:List aM} (h:eo g at_ i out):wo g out :=
 ⟨h.bf,λs hs=>by obtain⟨j,a,e⟩:=aaA.1 hs;exact(h.aK j s (by rw[Zj a,e])).1,h.to,h.sym⟩
theorem Kp {g:aj} (b:g.dP):∀ (f at_:Nat) (out:List aM),eo g at_ 0 out->1<=out.length->out.length<=300->(gn g f at_ out).2=0->wo g (gn g f at_ out).1/\1<=(gn g f at_ out).1.length/\(gn g f at_ out).1.length<=300
 | 0,_,out,h,h1,c,_=>⟨h.ok,h1,c⟩
 | f+1,at_,out,h,h1,c,a=>by
  rw[gn] at a ⊢
  split
  .rename_i d
   rw[Zn d] at a
   have hr:=eo.row (h.qj b d).1 (h.qj b d).2 h (g.af.length+g.ak.length) (by have:=b.af;have:=b.ak;omega)
   rw[show (List.range (g.af.length+g.ak.length)).foldl (dr g (cK g (out.getD at_ bg).bf) at_) out=C5 g at_ out (g.af.length+g.ak.length) from rfl] at hr
   split
   .rename_i e;rw[Zn e] at a;simp at a
   .rename_i e
    rw[Zk e] at a
    exact Kp b f (at_+1) _ hr.1.next (by omega) (by omega) a
  .exact⟨h.ok,h1,c⟩
theorem Dc {g:aj} (a:g.dP) (h:(bY g).2=0):wo g (bY g).1/\1<=(bY g).1.length/\(bY g).1.length<=300:=by
 unfold bY at h ⊢
 split
 .rename_i hr
  rw[Zn hr] at h
  exact Kp a 302 0 ez po (by simp[ez]) (by simp[ez]) h
 .rename_i hr
  rw[Zk hr] at h
  simp at h
def fc (l:List cn):List (List V):=l.map iX
def dy (s:aM):List V:=[.aD (aU s.bf),.aD (fc s.aK)]
def ba (a:List aM):V:=.aD (a.map dy)
theorem Ws (l:List cn):Tree (.aD (fc l)):=dZ _ _ λx _ v a=>by simp[iX] at a;rcases a with rfl | rfl <;> exact .val _
theorem zn (s:aM):∀ v∈dy s,Tree v:=by
 intro v a;simp[dy] at a
 rcases a with rfl | rfl
 .exact uq _
 .exact Ws _
theorem lg (a:List aM):Tree (ba a):=dZ _ _ λx _=>zn x
abbrev qU:=V × V × aM
def fv (A:List qU):List (List V):=A.map λx=>[x.1,x.2.1]
def mZ (A:List qU):List ct:=A.flatMap λx=>[(x.1,2,aU x.2.2.bf),(x.2.1,2,fc x.2.2.aK)]
theorem dh (A:List qU):(fv A).length=A.length:=by simp[fv]
theorem oR {A:List qU} {x:qU} (a:x∈A):(x.1,2,aU x.2.2.bf)∈mZ A/\(x.2.1,2,fc x.2.2.aK)∈mZ A:=by
 constructor <;> exact List.mem_flatMap.2 ⟨x,a,by simp⟩
theorem Gn {h:aF} {u:V} {A:List qU} (f:aV h.view u 2 (fv A)) (g:∀ x∈A,aV h.view x.1 2 (aU x.2.2.bf)/\aV h.view x.2.1 2 (fc x.2.2.aK)):dg h u (ba (A.map λx=>x.2.2)):=by
 have c:∀ i (hi:i < A.length),(fv A).getD i []=[(A[i]).1,(A[i]).2.1]/\(((A.map λx=>x.2.2).map dy).getD i [])=dy (A[i]).2.2:=λi hi=>by
  simp[fv,Zi,hi]
 refine dg.own f (by simp[fv]) (λi hi=>?_) (λi j hi b=>?_)
 .have a:i < A.length:=by simpa [fv] using hi
  rw[(c i a).1,(c i a).2];rfl
 .have a:i < A.length:=by simpa [fv] using hi
  rw[(c i a).2] at b ⊢
  rw[(c i a).1]
  have d:=g _ (Zs a)
  generalize A[i]'a=y at d b
  obtain⟨h1,k⟩:=d
  match j,b with
  | 0,_ =>
   refine dg.own h1 rfl (λi _=>rfl) (λi j hi b=>?_)
   rw[bJ] at hi
   have e:(aU y.2.2.bf).getD i []=bE y.2.2.bf[i]:=by simp[aU,Zi,hi]
   rw[e] at b ⊢
   match j,b with
   | 0,_=>exact .val _
   | 1,_=>exact .val _
  | 1,_ =>
   refine dg.own k rfl (λi _=>rfl) (λi j hi b=>?_)
   simp only[fc,Zr] at hi
   have e:(fc y.2.2.aK).getD i []=iX y.2.2.aK[i]:=by simp[fc,Zi,hi]
   rw[e] at b ⊢
   match j,b with
   | 0,_=>exact .val _
   | 1,_=>exact .val _
  | n+2,b=>exact absurd b (by simp[dy])
def pZ:SC :=
 ae [ae [ab [aa 6 5,aa 7 0,aP 8 7,aS 9 .lss 6 8],bT 9 (.exit 0)],.block 1 (ae [ab [aa 12 0,aa 13 5,aH 14 2 12 13,ao 15 0 14,ai 16 15,aa 17 1,bh 18 21 [16,17]],bc 18 (ae [ab [aa 19 5,aa 4 19],.ret])]),ab [aa 10 5,aG 11 .add 10 1,aa 5 11]]
def sX:SF:=⟨ae [ab [aQ 4 0],ae [ab [aQ 5 0],bU 0 pZ],ab [aQ 4 (-1)],.ret],
 [.tmp 4],20⟩
theorem xp:aN Tryz.prog 67 []=some sX:=by kernel_rfl
def oN:SC :=
 ae [ae [ab [aa 31 7,ao 32 0 1,ai 33 32,aP 34 33,ao 35 1 1,ai 36 35,aP 37 36,aS 38 .add 34 37,aS 39 .lss 31 38],bT 39 (.exit 2)],.block 3 (ae [ab [aT 42 4 1,aa 43 7,bh 44 65 [42,43],aa 8 44],ab [aT 45 4 1,aa 46 6,aa 47 8,bh 48 66 [45,46,47],aa 9 48],ae [ab [aa 49 9,aP 50 49,aG 51 .eql 50 0],bc 51 (.exit 3)],ab [aa 52 4,aa 53 9,bh 54 67 [52,53],aa 10 54],ae [ab [aa 55 10,aG 56 .lss 55 0],bc 56 (ae [ab [aa 57 4,aP 58 57,aa 10 58],ab [aa 59 4,aa 60 9,((some 61),.op (.build [(.emp 1),(.emp 1)] [(0,1,(.tmp 60))])),((some 62),.op (.bO 1 2 [(.emp 1),(.emp 1)] [(0,(.tmp 61))])),eE 63 2 48 59 62,aa 4 63]])],ab [aa 64 4,aa 65 5,aa 66 4,aa 67 5,aH 68 2 66 67,ao 69 1 68,ai 70 69,aa 71 8,aa 72 10,((some 73),.op (.build [(.val (.int .i64 0)),(.val (.int .i64 0))] [(0,1,(.tmp 71)),(1,1,(.tmp 72))])),((some 74),.op (.bO 1 2 [(.val (.int .i64 0)),(.val (.int .i64 0))] [(0,(.tmp 73))])),eE 75 2 16 70 74,aH 76 2 64 65,ao 77 1 76,bK 1 77 75]]),ab [aa 40 7,aG 41 .add 40 1,aa 7 41]]
def oG:SC :=
 ae [ae [ab [aa 18 5,aa 19 4,aP 20 19,aS 21 .lss 18 20],bT 21 (.exit 0)],.block 1 (ae [ab [aT 24 4 1,aa 25 4,aa 26 5,aH 27 2 25 26,ao 28 0 27,ai 29 28,bh 30 60 [24,29],aa 6 30],ae [ab [aQ 7 0],bU 2 oN],ab [aa 78 4,aP 79 78,aG 80 .gtr 79 300],bc 80 (ae [ab [cq 2 1,aQ 3 5],.ret])]),ab [aa 22 5,aG 23 .add 22 1,aa 5 23]]
def qO:SF:=⟨ae [ab [cw 1 0,cq 2 1,aQ 3 0],ae [ab [aT 11 4 1,bh 12 30 [11],c6 13 12],bc 13 (ae [ab [cq 2 1,aQ 3 1],.ret])],ab [((some 14),.op (.build [(.val (.int .i64 0)),(.val (.int .i64 0))] [(0,1,(.val (.val (.int .i64 (-1)))))])),((some 15),.op (.bO 1 2 [(.val (.int .i64 0)),(.val (.int .i64 0))] [(0,(.tmp 14))])),((some 16),.op (.build [(.emp 1),(.emp 1)] [(0,1,(.tmp 15))])),((some 17),.op (.bO 1 2 [(.emp 1),(.emp 1)] [(0,(.tmp 16))])),aa 4 17],ae [ab [aQ 5 0],bU 0 oG],ab [aa 81 4,aa 2 81,aQ 3 0],.ret],
 [.tmp 2,.tmp 3],82⟩
theorem xn:aN Tryz.prog 25 [1]=some qO:=by kernel_rfl
theorem Oz:∀ (a:List aM) (k:List aB) (i:Nat),(∀ j s,j < i->a[j]?=some s->s.bf≠k)->(∀ s,a[i]?=some s->s.bf=k->findD a k=i)/\(i=a.length->findD a k = -1):=by
 intro a k i h
 refine⟨λs h1 c=>JW a k i s h1 c h,λe=>?_⟩
 subst e
 refine Eo a k λs hs=>?_
 obtain⟨j,b,e⟩:=aaA.1 hs
 exact h j s b (by rw[Zj b,e])
theorem Ra (a:List aM) (g:aJ a) (hs:∀ s∈a,aJ s.bf) (k:List aB) (hk:aJ k):az Tryz.prog 67 [ba a,.aD (aU k)] (gi (findD a k)):=by
 unfold aJ at g
 refine az.val (by
  intro v f;simp at f
  rcases f with rfl | rfl
  .exact lg _
  .exact uq _) λH=>?_
 refine au.of mixed xp ?_
 simp(disch:=omega)only[↓wr,seval,wq,sX,ba]
 refine aR.up a.length (λi T H'=>(∀ j s,j < i->a[j]?=some s->s.bf≠k)/\T 0=ba a/\T 1=.aD (aU k)/\T 5=gi i) ⟨λj s h=>by omega,rfl,rfl,rfl⟩ ?_
 rintro i n T H' l ⟨c,t0,t1,t5⟩
 obtain⟨f1,f2⟩:=Oz a k i c
 simp(disch:=omega)only[↓wr,seval,wq,pZ,t0,t1,t5,ba]
 apply ah.dec<;>intro m
 .have d:a[i]?=some (a[i]'(by omega)):=Zj (by omega)
  have hm:=hs _ (Zs (show i < a.length by omega))
  generalize a[i]'(by omega)=x at d hm
  simp(disch:=omega)only[↓wr,seval,wq,t0,t1,t5,ba,Zm,d,Zq,dy]
  refine ax.pure (O1 x.bf k hm hk) ?_
  simp(disch:=omega)only[↓wr,seval,wq,t0,t1,t5]
  apply ah.split<;>intro e
  .simp(disch:=omega)only[↓wr,seval,wq,t0,t1,t5]
   rw[f1 x d (by simpa using e)]
  .simp(disch:=omega)only[↓wr,seval,wq,t0,t1,t5]
   refine aE l (by omega) ⟨λj s o b=>?_,t0,t1,rfl⟩
   rcases ZI j i with h | h
   .exact c j s h b
   .have:j=i:=by omega
    subst this
    rw[d] at b;simp at b;subst b
    simpa using e
 .simp(disch:=omega)only[↓wr,seval,wq,t0,t1,t5]
  rw[f2 (by omega)]
theorem Ob {g:aj} (a:g.dP) {s:aM} (h:cJ s.bf/\s.bf≠[]/\∀ x∈s.bf,cB g x):aJ s.bf:=by
 have:=gC a h.1 h.2.2;unfold aJ;omega
theorem ep.YY {H:View} {u:V} {A:List qU} {L:List ct} (h:aX H ((u,2,fv A) :: L)) (a:∀ x∈mZ A,x∈L):ep H u (ba (A.map λx=>x.2.2)):=by
 rintro c rfl
 exact(Gn h.head λx b=>⟨h.1 _ (ZE _ (a _ (oR b).1)),h.1 _ (ZE _ (a _ (oR b).2))⟩).fr
theorem ep.lr {H:View} {u:V} {l:List aB} (h:aV H u 2 (aU l)):ep H u (.aD (aU l)) :=
 ep.own h λe he v a=>by
  obtain⟨x,_,rfl⟩:=ZF.1 he
  simp[bE] at a;rcases a with rfl | rfl <;> exact .val _
theorem kX {h:aF} {u v:V} {e:Int} (h1:dg h u v):dg h (.bt [u,gi e]) (.bt [v,gi e]):=.bt _ _ rfl λi hi=>by
 match i,hi with
 | 0,_=>exact h1
 | 1,_=>exact .val _
theorem oA {α:Type} {l:List α} {i:Nat} (h:i < l.length):∃ a x b,l=a ++ x :: b/\a.length=i/\l[i]?=some x :=
 ⟨l.take i,l[i],l.drop (i+1),by rw[<-aad h,List.take_append_drop],by simp;omega,Zj h⟩
theorem Ec {α:Type} (a:List α) (x:α) (b:List α) (f:α->α):(a ++ x :: b).modify a.length f=a ++ f x :: b:=by
 induction a with
 | nil=>rfl
 | cons y a c=>simp only[Z4,ZB,List.modify_succ_cons,c]
theorem jX {g:aj} (h:isRed g=true):bI g=true:=by
 unfold isRed at h
 simp only[Zw,aaz,ZA] at h
 refine aay λa=>?_
 have h1:=h.1
 unfold gZ at h1
 simp[a] at h1
theorem mL {g:aj} (h:isRed g=true):g.dP:=bD (jX h)
theorem YL {α:Type} {a b c:α} {l:List α} : (a :: b :: c :: l).Perm (c :: b :: a :: l):=(List.Perm.swap _ _ _).trans (((List.Perm.swap _ _ _).cons _).trans (List.Perm.swap _ _ _))
theorem Xu {α:Type} {e u p r:α} {S:List α} : (e :: u :: p :: r :: S).Perm (u :: r :: (S ++ [p,e])) :=
 (List.Perm.swap _ _ _).trans (.cons _ (YL.trans (.cons _ (List.perm_append_comm (l₁:=[p,e]) (l₂:=S)))))
theorem S3 {α:Type} {u r k e:α} {S1 b:List α} : (u :: r :: (S1 ++ k :: e :: b)).Perm (e :: u :: r :: (S1 ++ k :: b)):=by
 have h:(S1 ++ k :: e :: b).Perm (e :: (S1 ++ k :: b)):=by
  have:=ZY (a:=e) (l₁:=S1 ++ [k]) (l₂:=b)
  simpa using this
 exact(((h.cons r).cons u).trans ((List.Perm.swap _ _ _).cons u)).trans (List.Perm.swap _ _ _)
theorem B7 (A:List qU) (x:qU) (B:List qU):mZ (A ++ x :: B)=mZ A ++ (x.1,2,aU x.2.2.bf) :: (x.2.1,2,fc x.2.2.aK) :: mZ B:=by simp[mZ]
def YV (g:aj) (m:Nat) (T:Env) (H:View):Prop:=∃ (at_:Nat) (u:V) (A:List qU) (out:List aM),m+at_=302/\out=A.map (λx=>x.2.2)/\aX H ((u,2,fv A) :: mZ A)/\eo g at_ 0 out/\1<=out.length/\out.length<=300/\gn g m at_ out=bY g/\at_<=out.length /\
 T 1=.aI (ag g) 0/\T 4=u/\T 5=gi at_
theorem E5 (g:aj) (hg:g.Ok):cE Tryz.prog 25 [.agg (ag g)] (.bt [ba (bY g).1,gi (bY g).2]):=by
 refine cE.of (dT g) ?_
 have X:=XA g hg
 refine au.of mixed xn ?_
 simp only[ag,encS] at X
 simp(disch:=omega)only[↓wr,seval,wq,qO,ag,encS]
 refine ax.pure X ?_
 simp(disch:=omega)only[↓wr,seval,wq]
 apply ah.split<;>intro hr
 rotate_left
 .simp(disch:=omega)only[↓wr,seval,wq]
  intro h' _
  have e:bY g=([],1):=by unfold bY;rw[Zk (by rw[hr];simp)]
  rw[e]
  exact kX (.emp _)
 have v:g.dP:=mL hr
 have e0:gn g 302 0 ez=bY g:=by unfold bY;rw[Zn hr]
 have hT:=v.af;have hN:=v.ak
 simp(disch:=omega)only[↓wr,seval,wq]
 intro O q2 K
 have o0:aX (((View.set (λ_=>cU.dead) O (.arr 2 [[gi (-1),gi 0]])).set q2 (.arr 2 [[.sl O 0 1 2,.emp 1]]))) ((.sl q2 0 1 2,2,fv [(.sl O 0 1 2,.emp 1,⟨[⟨-1,0⟩],[]⟩)]) :: mZ [(.sl O 0 1 2,.emp 1,⟨[⟨-1,0⟩],[]⟩)]) :=
  (((aX.nil.emp (k:=1) (sz:=2)).new (n:=O) rfl 2 [[gi (-1),gi 0]]).new (by simpa [View.set] using K) 2 [[.sl O 0 1 2,.emp 1]])
 generalize (View.set (λ_=>cU.dead) O (.arr 2 [[gi (-1),gi 0]])).set q2 (.arr 2 [[.sl O 0 1 2,.emp 1]])=H0 at o0 ⊢
 refine aR.intro (YV g) 302 ⟨0,_,_,ez,rfl,rfl,o0,po,Zt _,by simp[ez],e0,by omega,rfl,rfl,rfl⟩ ?_
 clear o0 K
 rintro m T H ⟨at_,u,A,out,hm,rfl,j,hI,h1,P,hl,hle,t1,t4,t5⟩
 have w:cT u=some A.length:=by rw[j.head.len,dh]
 simp only[Zr] at h1 P hle
 simp(disch:=omega)only[↓wr,seval,wq,oG,t1,t4,t5,w]
 apply ah.dec<;>intro hc
 rotate_left
 .simp(disch:=omega)only[↓wr,seval,wq,t1,t4,t5]
  have e1:bY g=(A.map (λx=>x.2.2),0):=by
   rw[<-hl]
   cases m with
   | zero=>rfl
   | succ m=>rw[gn,Zk (by simp;omega)]
  rw[e1]
  rintro h' rfl
  exact kX (Gn j.head λx L=>⟨j.1 _ (ZE _ (oR L).1),j.1 _ (ZE _ (oR L).2)⟩)
 obtain⟨m,rfl⟩:∃ q,m=q+1:=⟨m - 1,by omega⟩
 have z:at_ < A.length:=by omega
 obtain⟨a,x,d,rfl,p,L⟩:=oA z
 have S:x∈a ++ x :: d:=by simp
 obtain⟨Y,b1,C⟩:=hI.bf x.2.2 (List.mem_map_of_mem S)
 have b2:=gC v Y C
 have hh:aV H u 2 (fv (a ++ x :: d)):=j.head
 obtain⟨id,hu,M⟩:=hh.sl (by rw[dh];omega)
 have D:(fv (a ++ x :: d)).getD at_ []=[x.1,x.2.1]:=by simp[fv,Zi,<-p]
 have Z:cK g ((List.map (λx=>x.2.2) (a ++ x :: d)).getD at_ bg).bf=cK g x.2.2.bf:=by
  rw[Zi,Zm,L];rfl
 have Q:=λn hn=>eo.row (hI.qj v (show at_ < ((a ++ x :: d).map λx=>x.2.2).length by simpa using z)).1 (hI.qj v (show at_ < ((a ++ x :: d).map λx=>x.2.2).length by simpa using z)).2 hI n hn
 rw[gn,Zn (by simpa using z),C5] at hl
 rw[Z] at hl Q
 have an:=kz g x.2.2.bf
 have aq:∀ y∈cK g x.2.2.bf,cB g y:=λy hy=>((df v C).1 hy).has C
 rw[dh] at hu
 simp(disch:=omega)only[↓wr,seval,wq,t1,t4,t5,hu,M,D,ag,encS]
 refine⟨by omega,by rw[dh];omega,?_⟩
 refine ax.dJ ((Bu g v x.2.2.bf C (by omega) x.1 H (j.1 _ (ZE _ (oR S).1))).mono ?_)
 rintro r H2 ⟨or,fr⟩
 have o2:=j.Gg or fr
 clear or fr M D Z L
 generalize cK g x.2.2.bf=cl at *
 generalize h:(a ++ x :: d).map (λx=>x.2.2)=E at *
 have ar:E.length=(a ++ x :: d).length:=by rw[<-h];simp
 simp(disch:=omega)only[↓wr,seval,wq,t1,t4,t5]
 refine aR.up (g.af.length+g.ak.length) (λi T H'=>∃ (u:V) (A:List qU),A.map (λx=>x.2.2)=(List.range i).foldl (dr g cl at_) E/\aX H' ((r,2,aU cl) :: (u,2,fv A) :: mZ A)/\T 1=.aI (ag g) 0/\T 4=u/\T 5=gi at_/\T 6=r/\T 7=gi i)
  ⟨u,_,h,o2,t1,by rw[<-hu];exact t4,t5,rfl,rfl⟩ ?_
 rw[<-ar] at h1 P hle z
 clear o2 j hh hu t1 t4 t5 w h S ar hc Y b1 C b2 p
 clear u H2 H T id a x d
 rintro i k T H' hk ⟨u,A,hA,j,t1,t4,t5,t6,t7⟩
 obtain⟨iI,a1,a6⟩:=Q i (by omega)
 rw[<-hA] at iI a1 a6
 rw[Zr] at a1 a6
 have w:cT u=some A.length:=by rw[j.tail.head.len,dh]
 have cc:=gC v an aq
 simp(disch:=omega)only[↓wr,seval,wq,oN,t1,t4,t5,t6,t7,ag,encS]
 apply ah.dec<;>intro hc
 rotate_left
 .have hi:i=g.af.length+g.ak.length:=by omega
  subst hi
  rw[<-hA] at hl
  simp(disch:=omega)only[↓wr,seval,wq,t1,t4,t5,t6,w]
  apply ah.dec<;>intro h3
  .simp(disch:=omega)only[↓wr,seval,wq]
   intro h' _
   rw[Zn (by rw[Zr];omega)] at hl
   rw[<-hl]
   exact kX (.emp _)
  .simp(disch:=omega)only[↓wr,seval,wq,t1,t4,t5]
   rw[Zk (by rw[Zr];omega)] at hl
   exact⟨m,by omega,at_+1,u,A,_,by omega,rfl,j.tail,iI.next,by rw[Zr];omega,by rw[Zr];omega,hl,by rw[Zr];omega,t1,t4,rfl⟩
 have a7:i < g.af.length+g.ak.length:=by omega
 have R:=LN g v i a7
 have cf:=EI v a7
 simp only[ag,encS] at R
 simp(disch:=omega)only[↓wr,seval,wq,t1,t4,t5,t6,t7,ag,encS]
 refine ax.pure R ?_
 simp(disch:=omega)only[↓wr,seval,wq,t1,t4,t5,t6,t7,ag,encS]
 refine ax.dJ ((O0 g v cl an aq (bj g i) r H' j.head).mono ?_)
 rintro J H9 ⟨or,fr⟩
 have o9:=j.Gg or fr
 have cg:=vh (g:=g) (l:=cl) (s:=bj g i)
 have b3:cT J=some (bw g cl (bj g i)).length:=by rw[or.len,bJ]
 have F:(List.range (i+1)).foldl (dr g cl at_) E=dr g cl at_ (A.map λx=>x.2.2) i:=by rw[Z8,Z7,<-hA];rfl
 simp(disch:=omega)only[↓wr,seval,wq,t1,t4,t5,t6,t7,b3]
 apply ah.eq<;>intro he
 .have a8:bw g cl (bj g i)=[]:=aaJ.1 (by omega)
  simp(disch:=omega)only[↓wr,seval,wq,t1,t4,t5,t6,t7]
  exact aE hk (by omega) ⟨u,A,by rw[F,dr,Zn a8],o9.tail,t1,t4,t5,t6,rfl⟩
 have bb:bw g cl (bj g i)≠[]:=λe=>he (by rw[e];rfl)
 simp(disch:=omega)only[↓wr,seval,wq,t1,t4,t5,t6,t7]
 have U:=Ra (A.map λx=>x.2.2) (by unfold aJ;rw[Zr];omega) (λs hs=>Ob v (iI.bf s hs)) (bw g cl (bj g i)) (by unfold aJ;omega)
 refine ax.wE U (by kernel_rfl) (.val _) ⟨ep.YY o9.tail.tail (λx L=>L),ep.lr or,trivial⟩ ?_
 have b4:=zM (A.map λx=>x.2.2) (bw g cl (bj g i))
 have ch:=vp (A.map λx=>x.2.2) (bw g cl (bj g i))
 rw[Zr] at b4
 have bd:at_ < A.length:=by omega
 simp(disch:=omega)only[↓wr,seval,wq,t1,t4,t5,t6,t7]
 obtain⟨a,x,d,G,p,L⟩:=oA bd
 have cj:x.2.2.aK.length<=40:=(iI.aK at_ x.2.2 (by rw[Zm,L];rfl)).1
 have D:∀ B,(fv (a ++ x :: B)).getD at_ []=[x.1,x.2.1]:=λB=>by simp[fv,Zi,<-p]
 have bl:∀ (B:List qU) (c:cn),((a ++ x :: B).map λx=>x.2.2).modify at_ (λs=>(⟨s.bf,s.aK ++ [c]⟩:aM))=(a ++ (x.1,x.2.1,(⟨x.2.2.bf,x.2.2.aK ++ [c]⟩:aM)) :: B).map λx=>x.2.2:=λB c=>by
  rw[ZD,ZJ,<-p,<-Zr (f:=λx:qU=>x.2.2),Ec,ZD,ZJ]
 apply ah.dec<;>intro I
 simp(disch:=omega)only[↓wr,seval,wq,t1,t4,t5,t6,t7,w,or.cells,or.fj]
 intro q hq
 simp(disch:=omega)only[↓wr,seval,wq,bm]
 have b5:=(o9.fresh (o:=.arr 2 [[J,.emp 1]]) hq).at 2 (by simp)
 refine bL b5 (by simp[or.fj,Ch]) (by unfold aA;rw[dh];simp;omega) (by unfold aA;rw[dh];simp;omega) ?_
 intro u2 W bn _
 simp only[ZR,ZO,ZU,ZV] at bn
 have b7:=(bn.emp (k:=1) (sz:=2)).perm Xu
 have t:dr g cl at_ (A.map λx=>x.2.2) i=((a ++ x :: (d ++ [(J,.emp 1,(⟨bw g cl (bj g i),[]⟩:aM))])).map λx=>x.2.2).modify at_ (λs=>(⟨s.bf,s.aK ++ [⟨bj g i,(A.length:Int)⟩]⟩:aM)):=by
  rw[dr,Zk bb,Zn I,Zr]
  congr 1
  rw[G];simp
 have b:aX W ((u2,2,fv (a ++ x :: (d ++ [(J,.emp 1,(⟨bw g cl (bj g i),[]⟩:aM))]))) :: (r,2,aU cl) :: mZ (a ++ x :: (d ++ [(J,.emp 1,(⟨bw g cl (bj g i),[]⟩:aM))]))):=by
  have e1:fv (a ++ x :: (d ++ [(J,.emp 1,(⟨bw g cl (bj g i),[]⟩:aM))]))=fv A ++ [[J,.emp 1]]:=by rw[G];simp[fv]
  have e2:mZ (a ++ x :: (d ++ [(J,.emp 1,(⟨bw g cl (bj g i),[]⟩:aM))]))=mZ A ++ [(J,2,aU (bw g cl (bj g i))),(.emp 1,2,[])]:=by rw[G];simp[mZ];rfl
  rw[e1,e2]
  exact b7
 generalize (d ++ [(J,V.emp 1,(⟨bw g cl (bj g i),[]⟩:aM))])=B at t b
 generalize (A.length:Int)=to at t ⊢
 rotate_left
 have t:dr g cl at_ (A.map λx=>x.2.2) i=((a ++ x :: d).map λx=>x.2.2).modify at_ (λs=>(⟨s.bf,s.aK ++ [⟨bj g i,findD (A.map λx=>x.2.2) (bw g cl (bj g i))⟩]⟩:aM)):=by
  rw[dr,Zk bb,Zk I,<-G]
 have b:=o9.tail.perm (.swap _ _ _)
 clear or fr
 generalize H9=W at o9 b ⊢
 obtain⟨u2,b8⟩:∃ y,y=u:=⟨_,rfl⟩
 rw[<-b8] at b t4
 rw[G] at b
 generalize findD (A.map λx=>x.2.2) (bw g cl (bj g i))=to at t ⊢
 generalize d=B at t b
 all_goals (
  obtain⟨id,hu,M⟩:=(show aV W u2 2 (fv (a ++ x :: B)) from b.head).sl (by rw[dh];simp;omega)
  rw[dh] at hu
  rw[B7] at b
  simp(disch:=omega)only[↓wr,seval,wq,t1,t4,t5,t6,t7,hu,M,D B]
  refine⟨by simp;omega,by rw[dh];simp;omega,?_⟩
  intro q2 K
  simp(disch:=omega)only[↓wr,seval,wq,bm]
  refine bL ((b.perm S3).fresh K) (by simp[aL]) (by unfold aA;simp[fc];omega) (by unfold aA;simp[fc];omega) ?_
  intro e2 b9 N _
  have bq:b9 id=.arr 2 (fv (a ++ x :: B)):=((N.own 1 rfl).live (by rw[hu];rfl)).1
  simp(disch:=omega)only[↓wr,seval,wq,t1,t4,t5,t6,t7,hu,bq,D B,N.head.cells,N.head.fj]
  have br:(fv (a ++ x :: B)).set at_ [x.1,e2]=fv (a ++ (x.1,e2,(⟨x.2.2.bf,x.2.2.aK ++ [⟨bj g i,to⟩]⟩:aM)) :: B):=by
   rw[<-p];simp[fv]
  have ca:fc (x.2.2.aK ++ [⟨bj g i,to⟩])=fc x.2.2.aK ++ [[gi (bj g i),gi to]]:=by simp[fc,iX]
  have bs:=N.perm (.swap _ _ _)
  rw[hu] at bs
  have bx:=((bs.put (es':=fv (a ++ (x.1,e2,(⟨x.2.2.bf,x.2.2.aK ++ [⟨bj g i,to⟩]⟩:aM)) :: B)) (by rw[dh,dh];simp) (by rw[dh])).perm (.swap _ _ _)).perm S3.symm
  rw[<-ca] at bx
  have b0:=bx.perm (.swap _ _ _)
  rw[<-hu] at b0
  rw[br]
  refine⟨by simp;omega,by rw[dh];simp;omega,aE hk (by omega) ⟨u2,_,?_,by rw[B7];exact b0,t1,by first | rfl | exact t4 | exact hu.symm,t5,t6,rfl⟩⟩
  rw[F,t,bl];simp)
abbrev gw (s:BV):V:=.val (.int .u32 s.toNat)
abbrev bV (l:List BV):List (List V):=l.map λx=>[gw x]
abbrev Dy (l:List BV):V:=.aD (bV l)
theorem Qz (l:List BV):Tree (Dy l):=dZ _ _ λx _ v a=>by simp at a;subst a;exact .val _
theorem O4 {x:Int} (h1:0<=x) (c:x < 4294967296):IntKind.wrap .u32 x=x:=by
 unfold IntKind.wrap
 have a:(2:Int) ^ IntKind.u32.bits=4294967296:=by rfl
 have b:IntKind.u32.signed=false:=by rfl
 simp only[a,b,aa0,ZA]
 simp
 omega
theorem Pu (s:BV):IntKind.wrap .u32 (s.toNat:Int)=s.toNat:=O4 (by omega) (by have:=s.isLt;omega)
theorem xW (s:BV):BitVec.ofInt IntKind.u32.bits (s.toNat:Int)=s:=by
 show BitVec.ofInt 32 (s.toNat:Int)=s
 rw[BitVec.ofInt_natCast,BitVec.ofNat_toNat,BitVec.setWidth_eq]
theorem vi (s t:BV):IntKind.wrap .u32 ((BitVec.ofInt IntKind.u32.bits (s.toNat:Int) ||| BitVec.ofInt IntKind.u32.bits (t.toNat:Int)).toNat:Int)=((s ||| t).toNat:Int):=by
 rw[xW,xW];exact Pu (s ||| t)
theorem Vw (s t:BV):IntKind.wrap .u32 ((BitVec.ofInt IntKind.u32.bits (s.toNat:Int) &&& BitVec.ofInt IntKind.u32.bits (t.toNat:Int)).toNat:Int)=((s &&& t).toNat:Int):=by
 rw[xW,xW];exact Pu (s &&& t)
theorem Uf (s t:BV):IntKind.wrap .u32 ((BitVec.ofInt IntKind.u32.bits (s.toNat:Int) &&& ~~~(BitVec.ofInt IntKind.u32.bits (t.toNat:Int))).toNat:Int)=((s &&& ~~~t).toNat:Int):=by
 rw[xW,xW];exact Pu (s &&& ~~~t)
theorem toNat_zero {s:BV} : ((s.toNat:Nat):Int)=0↔s=0:=by
 constructor
 .intro h;exact BitVec.eq_of_toNat_eq (by simpa using h)
 .rintro rfl;rfl
def qM:SC :=
 ae [ae [ab [aa 11 4,aa 12 0,aS 13 .lss 11 12],bT 13 (.exit 0)],.block 1 (ab [aa 16 3,((some 17),.op (.arith .mul (.tmp 16) (.val (.val (.int .u32 2))))),aa 3 17]),ab [aa 14 4,aG 15 .add 14 1,aa 4 15]]
def tv:SF:=⟨ae [ab [((some 2),.op (.er (.val (.val (.int .u32 0)))))],ae [.region false [⟨none,[aa 5 0,aG 6 .lss 5 0,aa 7 6]⟩,⟨(some (7,false)),[aa 8 0,aG 9 .gtr 8 31]⟩,⟨none,[cD 10 7 9]⟩],bc 10 (ae [ab [((some 2),.op (.er (.val (.val (.int .u32 0)))))],.ret])],ab [((some 3),.op (.er (.val (.val (.int .u32 1)))))],ae [ab [aQ 4 0],bU 0 qM],ab [aa 18 3,aa 2 18],.ret],
 [.tmp 2],19⟩
theorem y8:aN Tryz.prog 77 []=some tv:=by kernel_rfl
def tB:SF:=⟨ae [ab [bz 4 false],ab [aa 5 0,aa 6 1,bh 7 77 [6],aS 8 .and 5 7,((some 9),.op (.arith .neq (.tmp 8) (.val (.val (.int .u32 0))))),aa 4 9],.ret],
 [.tmp 4],10⟩
theorem zp:aN Tryz.prog 80 []=some tB:=by kernel_rfl
def sN:SC :=
 ae [ae [ab [aa 11 10,aa 12 0,aP 13 12,aS 14 .lss 11 13],bT 14 (.exit 0)],.block 1 (ae [ae [ab [aa 17 0,aa 18 10,aH 19 1 17 18,ai 20 19,aG 21 .geq 20 0],bc 21 (ae [ab [aa 22 9,aa 23 0,aa 24 10,aH 25 1 23 24,ai 26 25,bh 27 77 [26],aS 28 .or 22 27,aa 8 28],.ret])],ab [aa 29 9,aa 30 2,aa 31 0,aa 32 10,aH 33 1 31 32,ai 34 33,((some 35),.op (.arith .sub (.val (.val (.int .i64 (-1)))) (.tmp 34))),aH 36 1 30 35,ai 37 36,aS 38 .or 29 37,aa 9 38],ab [aa 39 1,aa 40 0,aa 41 10,aH 42 1 40 41,ai 43 42,((some 44),.op (.arith .sub (.val (.val (.int .i64 (-1)))) (.tmp 43))),aH 45 1 39 44,ai 46 45,c6 47 46],bc 47 (ae [ab [aa 48 9,aa 8 48],.ret])]),ab [aa 15 10,aG 16 .add 15 1,aa 10 16]]
def uX:SF:=⟨ae [ab [((some 8),.op (.er (.val (.val (.int .u32 0)))))],ab [((some 9),.op (.er (.val (.val (.int .u32 0)))))],ae [ab [aQ 10 0],bU 0 sN],ab [aa 49 9,aa 50 3,aS 51 .or 49 50,aa 8 51],.ret],
 [.tmp 8],52⟩
theorem Av:aN Tryz.prog 83 []=some uX:=by kernel_rfl
def oT:SC :=
 ae [ae [ab [aa 24 6,ao 25 2 1,ai 26 25,aP 27 26,aS 28 .lss 24 27],bT 28 (.exit 2)],.block 3 (ae [ab [ao 31 2 1,ai 32 31,aa 33 6,aH 34 3 32 33,aT 35 3 34,((some 7),.op (.alloc [(.val (.int .i64 0)),(.emp 1),(.val (.int .i64 0))])),bK 3 7 35],.region true [⟨none,[aa 36 4,ao 37 0 7,ai 38 37,aa 39 4,ao 40 0 7,ai 41 40,aH 42 1 39 41,ai 43 42,ao 44 1 7,ai 45 44,aa 46 3,aa 47 4,qb 48 83 [(.tmp 45),(.tmp 46),(.tmp 47),(.val (.val (.int .u32 0)))],aS 49 .or 43 48,aH 50 1 36 38,bK 1 50 49]⟩]]),ab [aa 29 6,aG 30 .add 29 1,aa 6 30]]
def oS:SC :=
 ae [ae [ab [aa 17 5,ao 18 1 1,ai 19 18,aP 20 19,aS 21 .lss 17 20],bT 21 (.exit 0)],.block 1 (ae [ab [aQ 6 0],bU 2 oT]),ab [aa 22 5,aG 23 .add 22 1,aa 5 23]]
def qF:SF:=⟨ae [ab [cw 1 0,cq 2 1],ae [ab [aT 8 4 1,bh 9 54 [8],c6 10 9],bc 10 (ae [ab [cq 2 1],.ret])],ab [aT 11 4 1,bh 12 81 [11],aa 3 12],ab [ao 13 1 1,ai 14 13,aP 15 14,((some 16),.op (.make 1 4 [(.val (.int .u32 0))] (.tmp 15) (.tmp 15))),aa 4 16],ae [ab [aQ 5 0],bU 0 oS],ab [aa 51 4,aa 2 51],.ret],
 [.tmp 2],52⟩
theorem wK:aN Tryz.prog 82 [1]=some qF:=by kernel_rfl
theorem Js {n:Int} (h:0<=n/\n<=31):(dQ n).toNat=2 ^ n.toNat:=by
 rw[dQ,Zn h,BitVec.toNat_twoPow]
 exact Nat.mod_eq_of_lt (Nat.pow_lt_pow_right (by omega) (by omega))
theorem Df (n:Int):az Tryz.prog 77 [gi n] (gw (dQ n)):=by
 refine az.val (by intro v a;simp at a;subst a;exact .val _) λH=>?_
 refine au.of mixed y8 ?_
 simp(disch:=omega)only[↓wr,seval,wq,tv]
 have bad:¬ (0<=n/\n<=31)->dQ n=0:=λh=>by rw[dQ,Zk h]
 apply ah.dec<;>intro h1
 .simp(disch:=omega)only[↓wr,seval,wq]
  rw[bad (by omega)];rfl
 simp(disch:=omega)only[↓wr,seval,wq]
 apply ah.dec<;>intro b
 .simp(disch:=omega)only[↓wr,seval,wq]
  rw[bad (by omega)];rfl
 simp(disch:=omega)only[↓wr,seval,wq]
 refine aR.up n.toNat (λi T H'=>T 0=gi n/\T 3=.val (.int .u32 ((2 ^ i:Nat):Int))/\T 4=gi i) ⟨rfl,rfl,rfl⟩ ?_
 rintro i k T H' hk ⟨t0,t3,t4⟩
 simp(disch:=omega)only[↓wr,seval,wq,qM,t0,t3,t4]
 apply ah.dec<;>intro c
 .have d:2 ^ (i+1)<=2 ^ 31:=Nat.pow_le_pow_right (by omega) (by omega)
  have e:2 ^ (i+1)=2 ^ i * 2:=Nat.pow_succ _ _
  have hw:IntKind.wrap .u32 (((2 ^ i:Nat):Int) * 2)=((2 ^ (i+1):Nat):Int):=by
   rw[e,Int.natCast_mul]
   exact O4 (by omega) (by omega)
  simp(disch:=omega)only[↓wr,seval,wq,t0,t3,t4,hw]
  exact aE hk (by omega) ⟨t0,rfl,rfl⟩
 .simp(disch:=omega)only[↓wr,seval,wq,t0,t3,t4]
  rw[Js (by omega),show i=n.toNat by omega]
theorem T9 (s:BV) (n:Int):az Tryz.prog 80 [gw s,gi n] (gb (hasB s n)):=by
 refine az.val (by
  intro v a;simp at a
  rcases a with rfl | rfl <;> exact .val _) λH=>?_
 refine au.of mixed zp ?_
 simp(disch:=omega)only[↓wr,seval,wq,tB]
 refine ax.pure (Df n) ?_
 simp(disch:=omega)only[↓wr,seval,wq,Vw]
 congr 2
 unfold hasB
 rw[aan]
 simp only[abo,ne_eq,ZA,toNat_zero]
theorem xH {l:List BV} {i:Nat} {x:BV} (h:l[i]?=some x):(bV l).getD i []=[gw x]:=by simp[Zi,h]
theorem Nw (syms:List Int) (null:List Bool) (first:List BV) (rest:BV) (hs:aJ syms) (h:∀ s∈syms,cp s/\(s < 0->(-1 - s).toNat < null.length/\(-1 - s).toNat < first.length)) :
  az Tryz.prog 83 [encI syms,bP null,Dy first,gw rest] (gw (eR null first rest syms)):=by
 unfold aJ at hs
 refine az.val (by
  intro v g;simp at g
  rcases g with rfl | rfl | rfl | rfl
  .exact ew _
  .exact iA _
  .exact Qz _
  .exact .val _) λH=>?_
 refine au.of mixed Av ?_
 simp(disch:=omega)only[↓wr,seval,wq,uX,encI,bP]
 refine aR.up syms.length (λi T H'=>∃ s:BV,s ||| eR null first rest (syms.drop i)=eR null first rest syms/\T 0=encI syms/\T 1=bP null/\T 2=Dy first/\T 3=gw rest/\T 9=gw s/\T 10=gi i) ⟨0,by simp,rfl,rfl,rfl,rfl,rfl,rfl⟩ ?_
 rintro i k T H' hk ⟨s,he,t0,t1,t2,t3,t9,t10⟩
 simp(disch:=omega)only[↓wr,seval,wq,sN,t0,t1,t2,t3,t9,t10,encI]
 apply ah.dec<;>intro j
 .have c:syms[i]?=some (syms[i]'(by omega)):=Zj (by omega)
  have b:syms.drop i=syms[i]'(by omega) :: syms.drop (i+1):=aad (by omega)
  have hm:=h _ (Zs (show i < syms.length by omega))
  generalize syms[i]'(by omega)=x at c b hm
  obtain⟨d,e⟩:=hm
  unfold cp at d
  rw[b,eR] at he
  simp(disch:=omega)only[↓wr,seval,wq,t0,t1,t2,t3,t9,t10,encI,Zm,c,Zq]
  apply ah.dec<;>intro f
  .rw[Zn f] at he
   simp(disch:=omega)only[↓wr,seval,wq,t0,t1,t2,t3,t9,t10,encI,Zm,c,Zq]
   refine ax.pure (Df x) ?_
   simp(disch:=omega)only[↓wr,seval,wq,vi]
   rw[he]
  .rw[Zk f] at he
   obtain⟨l,m⟩:=e (by omega)
   have n:null[(-1 - x).toNat]?=some (null.getD (-1 - x).toNat false):=getD_some l
   have o:first[(-1 - x).toNat]?=some (first.getD (-1 - x).toNat 0):=getD_some m
   simp(disch:=omega)only[↓wr,seval,wq,t0,t1,t2,t3,t9,t10,encI,bP,Dy,Zm,c,n,o,Zq,vi]
   apply ah.split<;>intro a
   .simp(disch:=omega)only[↓wr,seval,wq,t0,t1,t2,t3,t9,t10]
    rw[Zn a,<-BitVec.or_assoc] at he
    exact aE hk (by omega) ⟨_,he,t0,t1,t2,t3,rfl,rfl⟩
   .simp(disch:=omega)only[↓wr,seval,wq]
    rw[Zk (by rw[a];simp)] at he
    exact aau (λz:BV=>gw z) he
 .rw[ZQ (by omega),eR] at he
  simp(disch:=omega)only[↓wr,seval,wq,t3,t9,vi]
  rw[he]
theorem Qh {h:aF} {u:V} {l:List BV} (a:aV h.view u 1 (bV l)):dg h u (Dy l):=dg.Od (f:=λx:BV=>.int .u32 x.toNat) a
theorem OW {H:View} {u:V} {l:List BV} (h:aV H u 1 (bV l)):ep H u (Dy l) :=
 ep.own h λe he v a=>by
  obtain⟨x,_,rfl⟩:=ZF.1 he
  simp at a;subst a;exact .val _
def Km (g:aj):List BV:=if bI g=true then eL g (av g false) else []
theorem Pc (g:aj) (x:g.Ok):cE Tryz.prog 82 [.agg (ag g)] (Dy (Km g)):=by
 refine cE.of (dT g) ?_
 have n:=kH g x
 have o:=z8 g x
 refine au.of mixed wK ?_
 simp only[ag,encS] at n o
 simp(disch:=omega)only[↓wr,seval,wq,qF,ag,encS]
 refine ax.pure n ?_
 unfold Km
 simp(disch:=omega)only[↓wr,seval,wq]
 apply ah.split<;>intro hr
 rotate_left
 .simp(disch:=omega)only[↓wr,seval,wq]
  rintro D _
  rw[Zk (by rw[hr];simp)]
  exact .emp _
 have p:=bD hr
 have L:=p.ak;have E:=p.pM
 rw[Zn hr]
 have d:=fV hr false
 simp(disch:=omega)only[↓wr,seval,wq,ag,encS]
 refine ax.pure o ?_
 generalize av g false=null at d ⊢
 simp(disch:=omega)only[↓wr,seval,wq,ag,encS]
 refine⟨⟨by omega,by unfold aA;omega,by unfold aA;omega⟩,λF=>absurd F (by omega),λ_ m=>?_⟩
 have r:List.replicate g.ak.length [V.val (Value.int IntKind.u32 0)]=bV (List.replicate g.ak.length (0:BV)):=by simp
 rw[r]
 have t:(List.replicate g.ak.length (0:BV)).length=g.ak.length:=by simp
 unfold eL
 generalize List.replicate g.ak.length (0:BV)=u at t ⊢
 refine aR.intro (λk T H'=>∃ (i:Nat) (h:List BV),i+k=g.ak.length/\h.length=g.ak.length/\iter (ve g null) k h=iter (ve g null) g.ak.length u/\T 1=.aI (ag g) 0/\T 3=bP null/\T 4=.sl m 0 g.ak.length 1/\H' m=.arr 1 (bV h)/\T 5=gi i) g.ak.length
  ⟨0,u,by omega,t,rfl,rfl,rfl,rfl,by simp[View.set],rfl⟩ ?_
 rintro k T H' ⟨i,h,hk,hlen,hi,t1,t3,t4,tm,t5⟩
 simp(disch:=omega)only[↓wr,seval,wq,oS,t1,t3,t4,t5,ag,encS]
 apply ah.dec<;>intro G
 .simp(disch:=omega)only[↓wr,seval,wq,t1,t3,t4,t5]
  refine aR.up g.rules.length (λj T H'=>∃ a:List BV,a.length=g.ak.length/\(g.rules.drop j).foldl (lF null) a=ve g null h/\T 1=.aI (ag g) 0/\T 3=bP null/\T 4=.sl m 0 g.ak.length 1/\H' m=.arr 1 (bV a)/\T 5=gi i/\T 6=gi j)
   ⟨h,hlen,rfl,t1,t3,t4,tm,t5,rfl⟩ ?_
  clear t1 t3 t4 tm t5
  rintro j k2 M N y ⟨a,e,l,t1,t3,t4,tm,t5,t6⟩
  simp(disch:=omega)only[↓wr,seval,wq,oT,t1,t3,t4,t5,t6,ag]
  apply ah.dec<;>intro hd
  .have H:=p.rules
   have v:g.rules[j]?=some (g.rules[j]'(by omega)):=Zj (by omega)
   rw[fw (show j < g.rules.length by omega)] at l
   have c:g.rules[j]'(by omega)∈g.rules:=Zs _
   generalize g.rules[j]'(by omega)=R at v l c
   simp only[ZS] at l
   obtain⟨I,J⟩:=p.left R c
   obtain⟨_,_,z,A⟩:=x.aw R c
   have B:=Nw R.right null a 0 z λs hs=>⟨A s hs,λK=>by have:=p.neg c hs K;omega⟩
   have w:a[R.left.toNat]?=some (a.getD R.left.toNat 0):=getD_some (by omega)
   simp(disch:=omega)only[↓wr,seval,wq,t1,t3,t4,t5,t6,ag,encS,aO,Zm,v,Zq]
   intro b C
   have f:¬ m=b:=by rintro rfl;rw[tm] at C;simp at C
   rw[set_set]
   simp(disch:=omega)only[↓wr,seval,wq,t1,t3,t4,t5,t6,tm,f,xH w]
   refine⟨rfl,by omega,by omega,?_⟩
   refine ax.wE B (by kernel_rfl) (.val _) ⟨.tree (ew _),.tree (iA _),OW (.inr ⟨m,by simp[e],by simp[View.set,f,tm]⟩),.tree (.val _),trivial⟩ ?_
   simp(disch:=omega)only[↓wr,seval,wq,t1,t3,t4,t5,t6,tm,f,xH w,vi]
   refine⟨by omega,by first | omega | (simp;omega),aE y (by omega) ⟨lF null a R,by rw[G1];exact e,l,t1,t3,t4,?_,t5,rfl⟩⟩
   rw[show bV (lF null a R)=(bV a).set R.left.toNat [gw (a.getD R.left.toNat 0 ||| eR null a 0 R.right)] from by rw[lF,bV,aaR]]
   simp only[View.set,if_true]
   rfl
  .rw[ZQ (by omega),aaC] at l
   simp(disch:=omega)only[↓wr,seval,wq,t1,t3,t4,t5]
   obtain⟨q,rfl⟩:∃ q,k=q+1:=⟨k - 1,by omega⟩
   exact⟨q,by omega,i+1,a,by omega,e,by rw[l];exact hi,rfl,tm,rfl⟩
 .simp(disch:=omega)only[↓wr,seval,wq,t4]
  have:k=0:=by omega
  subst this
  rintro D rfl
  rw[<-hi,<-hlen]
  exact Qh (.inr ⟨m,by simp[iter],tm⟩)
def sU:SC :=
 ae [ae [ab [aa 11 7,aa 12 1,aP 13 12,aS 14 .lss 11 13],bT 14 (.exit 0)],.block 1 (ae [ab [aT 17 4 3,aa 18 1,aa 19 7,aH 20 1 18 19,ai 21 20,bh 22 155 [17,21],c6 23 22],bc 23 (ae [ab [((some 6),.op (.er (.val (.val (.int .u32 0)))))],.ret])]),ab [aa 15 7,aG 16 .add 15 1,aa 7 16]]
def uP:SF:=⟨ae [ab [cw 3 0,((some 6),.op (.er (.val (.val (.int .u32 0)))))],ae [ab [aT 8 4 3,bh 9 54 [8],c6 10 9],bc 10 (ae [ab [((some 6),.op (.er (.val (.val (.int .u32 0)))))],.ret])],ae [ab [aQ 7 0],bU 0 sU],.region true [⟨none,[aa 24 1,aT 25 4 3,bh 26 81 [25],aT 27 4 3,bh 28 82 [27],aa 29 2,bh 30 83 [24,26,28,29],aa 6 30]⟩],.ret],
 [.tmp 6],31⟩
theorem Ay:aN Tryz.prog 123 [3]=some uP:=by kernel_rfl
def tw:SF:=⟨ae [ab [cw 2 0,cw 3 1,bz 4 false],.region true [⟨none,[aT 5 4 2,bh 6 54 [5],aa 7 6]⟩,⟨(some (7,true)),[ao 8 0 3,ai 9 8,aG 10 .geq 9 (-1)]⟩,⟨none,[eF 11 7 10,aa 12 11]⟩,⟨(some (12,true)),[ao 13 0 3,ai 14 13,ao 15 2 2,ai 16 15,aP 17 16,aS 18 .lss 14 17]⟩,⟨none,[eF 19 12 18,aa 20 19]⟩,⟨(some (20,true)),[ao 21 1 3,ai 22 21,aG 23 .geq 22 0]⟩,⟨none,[eF 24 20 23,aa 25 24]⟩,⟨(some (25,true)),[ao 26 1 3,ai 27 26,aT 28 4 2,ao 29 0 3,ai 30 29,bh 31 55 [28,30],aP 32 31,aS 33 .leq 27 32]⟩,⟨none,[eF 34 25 33,aa 4 34]⟩],.ret],
 [.tmp 4],35⟩
theorem za:aN Tryz.prog 20 [2,3]=some tw:=by kernel_rfl
def sQ:SF:=⟨ae [ab [cw 2 0,cw 3 1,aQ 4 0,bz 5 false],ae [ab [aT 6 4 2,aT 7 2 3,bh 8 20 [6,7],c6 9 8],bc 9 (ae [ab [aQ 4 0,bz 5 false],.ret])],ab [aT 10 4 2,aT 11 2 3,bh 12 51 [10,11],dW 13 0 12,dW 14 1 12,aa 4 13,aa 5 14],.ret],
 [.tmp 4,.tmp 5],15⟩
theorem yc:aN Tryz.prog 18 [2,3]=some sQ:=by kernel_rfl
def ng:SC :=
 ae [ae [ab [aa 7 6,aa 8 1,aP 9 8,aS 10 .lss 7 9],bT 10 (.exit 0)],.block 1 (ae [ab [aT 13 4 2,aa 14 1,aa 15 6,aH 16 2 14 15,aT 17 2 16,bh 18 20 [13,17]],bc 18 (ab [aa 19 5,aa 20 1,aa 21 6,aH 22 2 20 21,aT 23 2 22,((some 24),.op (.bO 1 2 [(.val (.int .i64 0)),(.val (.int .i64 0))] [(0,(.tmp 23))])),eE 25 2 16 19 24,aa 5 25])]),ab [aa 11 6,aG 12 .add 11 1,aa 6 12]]
def pb:SF:=⟨ae [ab [cw 2 0,cq 4 1],ab [cq 5 1],ae [ab [aQ 6 0],bU 0 ng],ae [ab [aa 26 5,aP 27 26,aG 28 .eql 27 0],bc 28 (ae [ab [cq 4 1],.ret])],ab [aT 29 4 2,aa 30 5,bh 31 60 [29,30],aa 4 31],.ret],
 [.tmp 4],32⟩
theorem vf:aN Tryz.prog 23 [2]=some pb:=by kernel_rfl
def kA:SC :=
 ae [ae [.region false [⟨none,[aa 26 11,aa 27 0,aa 28 1,aH 29 2 27 28,ao 30 1 29,ai 31 30,aP 32 31,aS 33 .lss 26 32,aa 34 33]⟩,⟨(some (34,true)),[aa 35 10,c6 36 35]⟩,⟨none,[eF 37 34 36]⟩],bT 37 (.exit 2)],.block 3 (ae [ab [aa 40 0,aa 41 1,aH 42 2 40 41,ao 43 1 42,ai 44 43,aa 45 11,aH 46 2 44 45,ao 47 0 46,ai 48 47,aa 49 2,aa 50 8,aH 51 1 49 50,ai 52 51,aS 53 .eql 48 52],bc 53 (ab [aa 54 0,aa 55 1,aH 56 2 54 55,ao 57 1 56,ai 58 57,aa 59 11,aH 60 2 58 59,ao 61 1 60,ai 62 61,aa 9 62,bz 10 true])]),ab [aa 38 11,aG 39 .add 38 1,aa 11 39]]
def pK:SC :=
 ae [ae [ab [aa 20 8,aa 21 2,aP 22 21,aS 23 .lss 20 22],bT 23 (.exit 0)],.block 1 (ae [ab [aQ 9 (-1),bz 10 false],ae [ab [aQ 11 0],bU 2 kA],ae [.region false [⟨none,[aa 63 9,aG 64 .lss 63 0,aa 65 64]⟩,⟨(some (65,false)),[aa 66 9,aa 67 0,aP 68 67,aS 69 .geq 66 68]⟩,⟨none,[cD 70 65 69]⟩],bc 70 (ae [ab [aQ 6 0,bz 7 false],.ret])],ab [aa 71 9,aa 1 71]]),ab [aa 24 8,aG 25 .add 24 1,aa 8 25]]
def sW:SF:=⟨ae [ab [aQ 6 0,bz 7 false],ae [.region false [⟨none,[aa 12 1,aG 13 .lss 12 0,aa 14 13]⟩,⟨(some (14,false)),[aa 15 1,aa 16 0,aP 17 16,aS 18 .geq 15 17]⟩,⟨none,[cD 19 14 18]⟩],bc 19 (ae [ab [aQ 6 0,bz 7 false],.ret])],ae [ab [aQ 8 0],bU 0 pK],ab [aa 72 1,aa 6 72,bz 7 true],.ret],
 [.tmp 6,.tmp 7],73⟩
theorem xq:aN Tryz.prog 29 []=some sW:=by kernel_rfl
def MW (g:aj) (syms:List Int) (rest:BV):BV:=if bI g=true/\∀ s∈syms,fT g s=true then eR (av g false) (eL g (av g false)) rest syms else 0
theorem VU (g:aj) (f:g.Ok) (syms:List Int) (rest:BV) (hs:aJ syms) (p:∀ s∈syms,cp s):az Tryz.prog 123 [.agg (ag g),encI syms,gw rest] (gw (MW g syms rest)):=by
 have j:=hs
 unfold aJ at j
 refine az.val (by
  intro v q;simp at q
  rcases q with rfl | rfl | rfl
  .exact cb _ (cY g)
  .exact ew _
  .exact .val _) λH=>?_
 have c:=kH g f
 have d:=z8 g f
 have b:=(Pc g f).pure
 have hH:=λs h=>Qt g s (p s h)
 refine au.of mixed Ay ?_
 simp only[ag,encS] at c d b hH
 simp(disch:=omega)only[↓wr,seval,wq,uP,ag,encS,encI]
 refine ax.pure c ?_
 simp(disch:=omega)only[↓wr,seval,wq]
 apply ah.split<;>intro hr
 rotate_left
 .simp(disch:=omega)only[↓wr,seval,wq]
  rw[MW,Zk (by rw[hr];simp)];rfl
 have u:=bD hr
 have l:=fV hr false
 have m:=Fa g (av g false)
 rw[Km,Zn hr] at b
 simp(disch:=omega)only[↓wr,seval,wq,ag,encS,encI]
 refine aR.up syms.length (λi T H'=>(∀ s∈syms.take i,fT g s=true)/\T 1=encI syms/\T 2=gw rest/\T 3=.aI (ag g) 0/\T 7=gi i) ⟨by simp,rfl,rfl,rfl,rfl⟩ ?_
 rintro i k T H' hk ⟨a,t1,t2,t3,t7⟩
 simp(disch:=omega)only[↓wr,seval,wq,sU,t1,t2,t3,t7,encI]
 apply ah.dec<;>intro t
 .have n:syms[i]?=some (syms[i]'(by omega)):=Zj (by omega)
  have hm:=Zs (show i < syms.length by omega)
  have e:syms.take (i+1)=syms.take i ++ [syms[i]'(by omega)]:=by rw[ZG,n];rfl
  generalize syms[i]'(by omega)=x at n hm e
  simp(disch:=omega)only[↓wr,seval,wq,t1,t2,t3,t7,ag,encS,encI,Zm,n,Zq]
  refine ax.pure (hH x hm) ?_
  simp(disch:=omega)only[↓wr,seval,wq]
  apply ah.split<;>intro he
  .simp(disch:=omega)only[↓wr,seval,wq,t1,t2,t3,t7]
   refine aE hk (by omega) ⟨λs hs=>?_,t1,t2,t3,rfl⟩
   rw[e] at hs
   rcases ZN.1 hs with hs | hs
   .exact a s hs
   .simp at hs;subst hs;exact he
  .simp(disch:=omega)only[↓wr,seval,wq]
   rw[MW,Zk (λh=>by have:=h.2 x hm;rw[he] at this;simp at this)];rfl
 .rw[Zx (by omega)] at a
  have o:=Nw syms (av g false) (eL g (av g false)) rest hs λs h=>⟨p s h,λr=>by
   have:=a s h
   unfold fT at this
   rw[Zk (by omega)] at this
   simp at this
   omega⟩
  simp(disch:=omega)only[↓wr,seval,wq,t1,t2,t3,ag,encS]
  refine ax.pure d ?_
  simp(disch:=omega)only[↓wr,seval,wq,t1,t2,t3,ag,encS]
  refine ax.pure b ?_
  simp(disch:=omega)only[↓wr,seval,wq,t1,t2,t3,ag,encS]
  refine ax.pure o ?_
  simp(disch:=omega)only[↓wr,seval,wq]
  rw[MW,Zn ⟨hr,a⟩]
instance (g:aj) (x:aB):Decidable (cB g x):=by unfold cB;infer_instance
def iR (g:aj) (x:aB):Bool:=bI g && decide (cB g x)
theorem Ms (g:aj) (x:aB):∀ v∈[V.agg (ag g),.agg (bE x)],Tree v:=by
 intro v a;simp at a
 rcases a with rfl | rfl
 .exact cb _ (cY g)
 .exact cb _ λv a=>by simp[bE] at a;rcases a with rfl | rfl <;> exact .val _
theorem I2 (g:aj) (f:g.Ok) (x:aB) (i:cp x.aw/\cp x.dot):az Tryz.prog 20 [.agg (ag g),.agg (bE x)] (gb (iR g x)):=by
 refine az.val (Ms g x) λH=>?_
 have a:=kH g f
 obtain⟨c,d⟩:=i
 unfold cp at c d
 refine au.of mixed za ?_
 simp only[ag,encS] at a
 simp(disch:=omega)only[↓wr,seval,wq,tw,ag,encS,bE]
 refine ax.pure a ?_
 have bad:¬ cB g x->gb false=gb (iR g x):=λh=>by unfold iR;rw[decide_eq_false h,Bool.and_false]
 simp(disch:=omega)only[↓wr,seval,wq]
 apply ah.split<;>intro hr
 rotate_left
 .simp(disch:=omega)only[↓wr,seval,wq]
  unfold iR;rw[hr];rfl
 have e:=bD hr
 simp(disch:=omega)only[↓wr,seval,wq,bE]
 apply ah.dec<;>intro h1
 rotate_left
 .simp(disch:=omega)only[↓wr,seval,wq]
  exact bad λh=>by have:=h.1;omega
 simp(disch:=omega)only[↓wr,seval,wq,bE,ag]
 apply ah.dec<;>intro j
 rotate_left
 .simp(disch:=omega)only[↓wr,seval,wq]
  exact bad λh=>by have:=h.1;omega
 simp(disch:=omega)only[↓wr,seval,wq,bE]
 apply ah.dec<;>intro k
 rotate_left
 .simp(disch:=omega)only[↓wr,seval,wq]
  exact bad λh=>by have:=h.2;omega
 have b:=DW g (tD e) x.aw ⟨by omega,by omega⟩
 have l:=fp e (r:=x.aw) ⟨by omega,by omega⟩
 simp only[ag,encS,encI] at b
 simp(disch:=omega)only[↓wr,seval,wq,bE,ag,encS]
 refine ax.pure b ?_
 simp(disch:=omega)only[↓wr,seval,wq,bE]
 congr 2
 unfold iR
 rw[hr,aaH]
 congr 1
 unfold cB
 simp only[eq_iff_iff]
 omega
def Fi (g:aj) (x:aB):Int × Bool:=if iR g x=true then bA g x else (0,false)
theorem pI {g:aj} {x:aB} : iR g x=true↔bI g=true/\cB g x:=by simp[iR]
theorem Ia (g:aj) (c:g.Ok) (x:aB) (d:cp x.aw/\cp x.dot):az Tryz.prog 18 [.agg (ag g),.agg (bE x)] (.bt [gi (Fi g x).1,gb (Fi g x).2]):=by
 have a:=I2 g c x d
 refine az.tree (Ms g x) (AV (.val _) (.val _)) λH=>?_
 refine au.of mixed yc ?_
 simp only[ag,encS,bE] at a
 simp(disch:=omega)only[↓wr,seval,wq,sQ,ag,encS,bE]
 refine ax.pure a ?_
 unfold Fi
 simp(disch:=omega)only[↓wr,seval,wq]
 apply ah.split<;>intro h
 .obtain⟨h1,e⟩:=pI.1 h
  have b:=Ds g (bD h1) x e
  simp only[ag,encS,bE] at b
  simp(disch:=omega)only[↓wr,seval,wq,ag,encS,bE]
  refine ax.pure b ?_
  simp(disch:=omega)only[↓wr,seval,wq]
  rw[Zn h]
 .simp(disch:=omega)only[↓wr,seval,wq]
  rw[h];simp
theorem S8 (g:aj):cK g []=[]:=by
 have:∀ x,¬ ou g [] x:=λx h=>by
  induction h with
  | base h=>simp at h
  | step _ _ _ _ _ a=>exact a
 unfold cK
 rw[List.filter_eq_nil_iff.2 λx _=>by simp[this x]]
 rfl
theorem WL {h:aF} {u:V} {l:List aB} (b:aV h.view u 2 (aU l)):dg h u (.aD (aU l)):=by
 refine dg.own b rfl (λi _=>rfl) (λi j hi a=>?_)
 rw[bJ] at hi
 have e:(aU l).getD i []=bE l[i]:=by simp[aU,Zi,hi]
 rw[e] at a ⊢
 match j,a with
 | 0,_=>exact .val _
 | 1,_=>exact .val _
theorem wA {α:Type} {l:List α} {p:α->Bool} {i:Nat} {x:α} (h:l[i]?=some x):(l.take (i+1)).filter p=if p x=true then (l.take i).filter p ++ [x] else (l.take i).filter p:=by
 rw[ZG,h,aaS]
 split
 .rename_i hp;simp[hp]
 .rename_i hp;simp[hp]
theorem JB (g:aj) (o:g.Ok) (l:List aB) (hl:l.length<=10000) (s:∀ x∈l,cp x.aw/\cp x.dot):cE Tryz.prog 23 [.agg (ag g),.aD (aU l)] (.aD (aU (cK g (l.filter (iR g))))):=by
 refine cE.of (by
  intro v j;simp at j
  rcases j with rfl | rfl
  .exact cb _ (cY g)
  .exact uq _) ?_
 refine au.of mixed vf ?_
 simp(disch:=omega)only[↓wr,seval,wq,pb,ag,encS,aU]
 refine aR.up l.length (λi T H'=>∃ r:V,aV H' r 2 (aU ((l.take i).filter (iR g)))/\T 1=.aD (aU l)/\T 2=.aI (ag g) 0/\T 5=r/\T 6=gi i) ⟨.emp 1,.nil,rfl,rfl,rfl,rfl⟩ ?_
 rintro i k T H' hk ⟨r,d,t1,t2,t5,t6⟩
 simp(disch:=omega)only[↓wr,seval,wq,ng,t1,t2,t5,t6,aU]
 apply ah.dec<;>intro t
 .have b:l[i]?=some (l[i]'(by omega)):=Zj (by omega)
  have hm:=s _ (Zs (show i < l.length by omega))
  generalize l[i]'(by omega)=x at b hm
  have m:=I2 g o x hm
  have a:=wA (p:=iR g) b
  have e:=aac (iR g) (l.take i)
  rw[Z6] at e
  simp only[ag,encS,bE] at m
  simp(disch:=omega)only[↓wr,seval,wq,t1,t2,t5,t6,ag,encS,aU,Zm,b,Zq,bE]
  refine ax.pure m ?_
  simp(disch:=omega)only[↓wr,seval,wq,t1,t2,t5,t6]
  apply ah.split<;>intro he
  .simp(disch:=omega)only[↓wr,seval,wq,t1,t2,t5,t6,aU,Zm,b,Zq,bE]
   intro q hq
   simp(disch:=omega)only[↓wr,seval,wq,bm]
   refine gh (d.fresh hq) (by simp[aL]) (by unfold aA;rw[bJ];simp;omega) (by unfold aA;rw[bJ];simp;omega) ?_
   intro n u f _
   simp(disch:=omega)only[↓wr,seval,wq,t1,t2,t5,t6]
   rw[Zn he] at a
   exact aE hk (by omega) ⟨n,by rw[a];simpa [aU,bE] using f,t1,t2,rfl,rfl⟩
  .simp(disch:=omega)only[↓wr,seval,wq,t1,t2,t5,t6]
   rw[Zk (by rw[he];simp)] at a
   exact aE hk (by omega) ⟨r,by rw[a];exact d,t1,t2,t5,rfl⟩
 .rw[Zx (by omega)] at d
  have e:=aac (iR g) l
  have h:cT r=some (l.filter (iR g)).length:=by rw[d.len,bJ]
  have c:∀ x∈l.filter (iR g),bI g=true/\cB g x:=λx b=>pI.1 (aag.1 b).2
  generalize l.filter (iR g)=l' at *
  simp(disch:=omega)only[↓wr,seval,wq,t1,t2,t5,t6,h]
  apply ah.eq<;>intro he
  .have:l'=[]:=aaJ.1 (by omega)
   subst this
   simp(disch:=omega)only[↓wr,seval,wq]
   intro w _
   rw[S8]
   exact .emp _
  .cases l' with
   | nil=>exact absurd rfl he
   | cons y l' =>
   have z:=bD (c y (by simp)).1
   simp(disch:=omega)only[↓wr,seval,wq,t1,t2,t5,ag,encS]
   refine ax.dJ ((Bu g z (y :: l') (λx b=>(c x b).2) (by omega) r H' d).mono ?_)
   rintro n u ⟨f,_⟩
   simp(disch:=omega)only[↓wr,seval,wq]
   rintro w rfl
   exact WL f
theorem OY:∀ (l:List cn) (s:Int) (k:Nat) (e:cn),l[k]?=some e->dI (l.drop k) s=if e.sym=s then e.to else dI (l.drop (k+1)) s:=by
 intro l s k e h
 obtain⟨hk,he⟩:=Zy.1 h
 rw[aad hk,he,dI]
theorem Ir (a:List aM) (t:aJ a) (he:∀ s∈a,aJ s.aK/\∀ e∈s.aK,cp e.sym/\cp e.to) (fr:Int) (syms:List Int) (hs:aJ syms):az Tryz.prog 29 [ba a,gi fr,encI syms] (.bt [gi (dY a fr syms).1,gb (dY a fr syms).2]):=by
 unfold aJ at t hs
 refine az.tree (by
  intro v p;simp at p
  rcases p with rfl | rfl | rfl
  .exact lg _
  .exact .val _
  .exact ew _) (AV (.val _) (.val _)) λH=>?_
 refine au.of mixed xq ?_
 unfold dY
 simp(disch:=omega)only[↓wr,seval,wq,sW,ba,encI]
 apply ah.dec<;>intro h1
 .simp(disch:=omega)only[↓wr,seval,wq]
  rw[Zn (by omega)]
 simp(disch:=omega)only[↓wr,seval,wq,ba]
 apply ah.dec<;>intro u
 .simp(disch:=omega)only[↓wr,seval,wq]
  rw[Zn (by omega)]
 rw[Zk (by omega)]
 simp(disch:=omega)only[↓wr,seval,wq]
 refine aR.up syms.length (λi T H'=>∃ at_:Int,0<=at_/\at_ < a.length/\fU a at_ (syms.drop i)=fU a fr syms/\T 0=ba a/\T 1=gi at_/\T 2=encI syms/\T 8=gi i) ⟨fr,by omega,by omega,rfl,rfl,rfl,rfl,rfl⟩ ?_
 rintro i k T H' hk ⟨at_,A,B,hw,t0,t1,t2,t8⟩
 simp(disch:=omega)only[↓wr,seval,wq,pK,t0,t1,t2,t8,encI]
 apply ah.dec<;>intro w
 .have q:syms[i]?=some (syms[i]'(by omega)):=Zj (by omega)
  rw[aad (show i < syms.length by omega)] at hw
  generalize syms[i]'(by omega)=x at q hw
  have d:a[at_.toNat]?=some (a.getD at_.toNat bg):=getD_some (by omega)
  obtain⟨f,h⟩:=he _ (Zp d)
  rw[fU] at hw
  generalize a.getD at_.toNat bg=S at d f h hw
  unfold aJ at f
  simp(disch:=omega)only[↓wr,seval,wq,t0,t1,t2,t8]
  refine aR.up S.aK.length (λj T H'=>∃ (to:Int) (ok:Bool),(ok=true->to=dI S.aK x)/\(ok=false->to = -1/\dI (S.aK.drop j) x=dI S.aK x)/\T 0=ba a/\T 1=gi at_/\T 2=encI syms/\T 8=gi i/\T 9=gi to/\T 10=gb ok/\T 11=gi j)
   ⟨-1,false,by simp,λ_=>⟨rfl,rfl⟩,t0,t1,t2,t8,rfl,rfl,rfl⟩ ?_
  clear t0 t1 t2 t8
  rintro j k2 C D g ⟨to,ok,y,z,t0,t1,t2,t8,t9,t10,t11⟩
  cases ok with
  | true =>
   have b:=y rfl
   simp(disch:=omega)only[↓wr,seval,wq,kA,t0,t1,t2,t8,t9,t10,t11,ba,Zm,d,Zq,dy,fc]
   apply ah.dec<;>intro _
   all_goals (
    simp(disch:=omega)only[↓wr,seval,wq,t0,t1,t2,t8,t9,t10,t11,ba,b]
    apply ah.dec<;>intro l
    .simp(disch:=omega)only[↓wr,seval,wq]
     rw[<-hw,Zk (by omega)]
    .simp(disch:=omega)only[↓wr,seval,wq,t0,t1,t2,t8,t9,ba,b]
     apply ah.dec<;>intro m
     .simp(disch:=omega)only[↓wr,seval,wq]
      rw[<-hw,Zk (by omega)]
     .simp(disch:=omega)only[↓wr,seval,wq,t0,t1,t2,t8,t9,b]
      rw[Zn ⟨by omega,by omega⟩] at hw
      exact aE hk (by omega) ⟨_,by omega,by omega,hw,t0,rfl,t2,rfl⟩)
  | false =>
   obtain⟨r,c⟩:=z rfl
   simp(disch:=omega)only[↓wr,seval,wq,kA,t0,t1,t2,t8,t9,t10,t11,ba,Zm,d,Zq,dy,fc]
   apply ah.dec<;>intro n
   .have hE:S.aK[j]?=some (S.aK[j]'(by omega)):=Zj (by omega)
    generalize S.aK[j]'(by omega)=E at hE
    rw[OY _ _ _ _ hE] at c
    simp(disch:=omega)only[↓wr,seval,wq,t0,t1,t2,t8,t9,t10,t11,ba,encI,Zm,d,q,Zq,dy,fc,hE,iX]
    apply ah.eq<;>intro o
    .rw[Zn o] at c
     simp(disch:=omega)only[↓wr,seval,wq,t0,t1,t2,t8,t9,t10,t11,ba,Zm,d,Zq,dy,fc,hE,iX]
     exact aE g (by omega) ⟨E.to,true,λ_=>c,by simp,t0,t1,t2,t8,rfl,rfl,rfl⟩
    .rw[Zk o] at c
     simp(disch:=omega)only[↓wr,seval,wq,t0,t1,t2,t8,t9,t10,t11]
     exact aE g (by omega) ⟨to,false,by simp,λ_=>⟨r,c⟩,t0,t1,t2,t8,t9,t10,rfl⟩
   .rw[ZQ (by omega),dI,<-r] at c
    have b:=c
    simp(disch:=omega)only[↓wr,seval,wq,t0,t1,t2,t8,t9,t10,t11,ba,b]
    apply ah.dec<;>intro l
    .simp(disch:=omega)only[↓wr,seval,wq]
     rw[<-hw,Zk (by omega)]
    .simp(disch:=omega)only[↓wr,seval,wq,t0,t1,t2,t8,t9,ba,b]
     apply ah.dec<;>intro m
     .simp(disch:=omega)only[↓wr,seval,wq]
      rw[<-hw,Zk (by omega)]
     .simp(disch:=omega)only[↓wr,seval,wq,t0,t1,t2,t8,t9,b]
      rw[Zn ⟨by omega,by omega⟩] at hw
      exact aE hk (by omega) ⟨_,by omega,by omega,hw,t0,rfl,t2,rfl⟩
 .simp(disch:=omega)only[↓wr,seval,wq,t1]
  rw[ZQ (by omega),fU] at hw
  rw[<-hw]
end Gv
