/-
  Part 13 of the proof: what the machine does and what the functions answer.
  Conditions: those that each lemma names.
-/
import Derived.Shelf.SlSortCmp.NoneTotal
import Derived.Shelf.SlicesG.Cmp
import Derived.StillTailTactics
import Derived.Test.YtiophifnkakjgaaGreatSGzB8L
set_option linter.unusedSimpArgs false
set_option linter.unusedVariables false
set_option maxRecDepth 100000
set_option maxHeartbeats 20000000
namespace Gv
open Go Go.Proofs
theorem iY {g:ag} (a:g.cX) : -100<=g.start/\g.start<=100:=by
 have:=a.oh;have:=a.start;have:=a.aj;omega
theorem Aa (g:ag) (b:g.cX) (x:aE) (a:cq g x):az Tryz.prog 134 [.agg (af g),.agg (bA x)] (.aY [gi (bw g x).1,gb (bw g x).2]) :=
 L7 g (iY b) x a.1 a.2 (by have:=dD b a.1;omega)
theorem qP {l:List aE} {i:Nat} {y:aE} (h:l[i]?=some y):(aT l).getD i []=[gi y.ax,gi y.dot]:=by simp[aT,Uu,h,bA]
theorem bE (l:List aE):(aT l).length=l.length:=by simp[aT]
theorem vE {g:ag} {x:aE} {s:Int} {b:Bool} (d:g.cX) (f:cq g x) (h:bw g x=(s,b)) : -1000<=s/\s<=1000:=by
 have a:∀ s∈bG g x.ax,-1000<=s/\s<=1000:=by
  intro s c
  unfold bG at c
  split at c
  .simp at c;subst c;have:=iY d;omega
  .have i:g.rules[x.ax.toNat]?=some (bN g x.ax):=by unfold bN;exact getD_some (by have:=f.1;omega)
   have h1:=d.sym _ (UL i) s c
   have:=d.au;have:=d.aj
   unfold dI at h1
   split at h1 <;> simp at h1 <;> omega
 unfold bw at h
 split at h
 .simp at h;omega
 .rename_i j
  simp only[UA] at h
  have e:x.dot.toNat < (bG g x.ax).length:=by have:=f.2;omega
  rw[<-h.1]
  exact a _ (UL (getD_some e))
def lM:SC :=
 ae [ae [ab [aa 12 6,aa 13 1,aM 14 13,aR 15 .lss 12 14],bX 15 (.exit 0)],.block 1 (ab [aa 18 5,aa 19 1,aa 20 6,aO 21 2 19 20,aS 22 2 21,aX 23 133 [18,22],aa 5 23]),ab [aa 16 6,aG 17 .add 16 1,aa 6 17]]
def iz:SC :=
 ae [ae [.region false [⟨none,[aa 41 9,aa 42 41]⟩,⟨(some (42,true)),[aa 43 8,aG 44 .lss 43 0]⟩,⟨none,[eu 45 42 44,aa 46 45]⟩,⟨(some (46,true)),[aa 47 11,al 48 2 2,ak 49 48,aM 50 49,aR 51 .lss 47 50]⟩,⟨none,[eu 52 46 51]⟩],bX 52 (.exit 4)],.block 5 (ae [ab [al 55 2 2,ak 56 55,aa 57 11,aO 58 3 56 57,al 59 0 58,ak 60 59,aa 61 8,((some 62),.op (.arith .sub (.val (.val (.int .i64 (-1)))) (.tmp 61))),aR 63 .eql 60 62],ba 63 (ab [aa 64 5,aa 65 11,((some 66),.op (.build [(.val (.int .i64 0)),(.val (.int .i64 0))] [(0,1,(.tmp 65))])),aX 67 133 [64,66],aa 5 67])]),ab [aa 53 11,aG 54 .add 53 1,aa 11 54]]
def lI:SC :=
 ae [ae [ab [aa 24 7,aa 25 5,aM 26 25,aR 27 .lss 24 26],bX 27 (.exit 2)],.block 3 (ae [ab [aS 31 4 2,aa 32 5,aa 33 7,aO 34 2 32 33,aS 35 2 34,aX 36 134 [31,35],aa 30 36,du 37 0 30,du 38 1 30,aa 8 37,aa 9 38],ab [aa 39 5,aM 40 39,aa 10 40],ae [ab [aN 11 0],bY 4 iz],ab [aa 68 5,aM 69 68,aa 70 10,aR 71 .gtr 69 70],ba 71 (ab [aN 7 (-1)])]),ab [aa 28 7,aG 29 .add 28 1,aa 7 29]]
def mV:SF:=⟨ae [ab [cw 2 0,bI 4 1],ab [bI 5 1],ae [ab [aN 6 0],bY 0 lM],ae [ab [aN 7 0],bY 2 lI],ab [aa 72 5,aa 4 72],.ret],
 [.tmp 4],73⟩
theorem sJ:aH Tryz.prog 69 [2]=some mV:=by kernel_rfl
def nG:SC :=
 ae [ae [ab [aa 11 8,aa 12 1,aM 13 12,aR 14 .lss 11 13],bX 14 (.exit 0)],.block 1 (ae [ab [aS 18 4 3,aa 19 1,aa 20 8,aO 21 2 19 20,aS 22 2 21,aX 23 134 [18,22],aa 17 23,du 24 0 17,du 25 1 17,aa 9 24,aa 10 25],.region false [⟨none,[aa 26 10,aa 27 26]⟩,⟨(some (27,true)),[aa 28 9,aa 29 2,aR 30 .eql 28 29]⟩,⟨none,[eu 31 27 30]⟩],ba 31 (ab [aa 32 7,aa 33 1,aa 34 8,aO 35 2 33 34,al 36 0 35,ak 37 36,aa 38 1,aa 39 8,aO 40 2 38 39,al 41 1 40,ak 42 41,aG 43 .add 42 1,((some 44),.op (.build [(.val (.int .i64 0)),(.val (.int .i64 0))] [(0,1,(.tmp 37)),(1,1,(.tmp 43))])),aX 45 133 [32,44],aa 7 45])]),ab [aa 15 8,aG 16 .add 15 1,aa 8 16]]
def oT:SF:=⟨ae [ab [cw 3 0,bI 6 1],ab [bI 7 1],ae [ab [aN 8 0],bY 0 nG],ab [aa 46 7,aa 6 46],.ret],
 [.tmp 6],47⟩
theorem um:aH Tryz.prog 71 [3]=some oT:=by kernel_rfl
def nh:SC :=
 ae [ae [ab [aa 11 5,aa 12 0,aM 13 12,aR 14 .lss 11 13],bX 14 (.exit 0)],.block 1 (ae [ab [aa 17 0,aa 18 5,aO 19 2 17 18,aS 20 2 19,aa 21 1,aa 22 5,aO 23 2 21 22,aS 24 2 23,((some 25),.op (.old (.binOp .neq 120 (.tmp 20) (.tmp 24) 120) 4))],ba 25 (ae [ab [bq 4 false],.ret])]),ab [aa 15 5,aG 16 .add 15 1,aa 5 16]]
def pk:SF:=⟨ae [ab [bq 4 false],ae [ab [aa 6 0,aM 7 6,aa 8 1,aM 9 8,aR 10 .neq 7 9],ba 10 (ae [ab [bq 4 false],.ret])],ae [ab [aN 5 0],bY 0 nh],ab [bq 4 true],.ret],
 [.tmp 4],26⟩
theorem tW:aH Tryz.prog 135 []=some pk:=by kernel_rfl
def nR:SF:=⟨ae [ab [cw 2 0,aN 4 0],ae [ab [aa 5 1,al 6 0 2,ak 7 6,aM 8 7,aR 9 .lss 5 8],ba 9 (ae [ab [aa 10 1,aa 4 10],.ret])],ab [aa 11 1,al 12 0 2,ak 13 12,aM 14 13,aR 15 .sub 11 14,((some 16),.op (.arith .sub (.val (.val (.int .i64 (-1)))) (.tmp 15))),aa 4 16],.ret],
 [.tmp 4],17⟩
theorem sS:aH Tryz.prog 70 [2]=some nR:=by kernel_rfl
def S4 (g:ag) (out:List aE) (x:aE):Prop:=∀ (s:Int) (k:Nat) (R:bb),bw g x=(s,true)->s < 0->g.rules[k]?=some R->R.left = -1 - s->(⟨k,0⟩:aE)∈out
def Qh (g:ag) (l:List aE) (H:View) (m:Nat) (T:Env) (H':View):Prop:=∃ (i:Nat) (r:V) (out:List aE),m=(300 - out.length) * 1000+(300 - i)/\i<=out.length/\aK H' r 2 (aT out)/\b3 H H' r/\cb out/\(∀ x∈out,mF g l x)/\(∀ x∈l,x∈out)/\(∀ j x,j < i->out[j]?=some x->S4 g out x) /\
 T 2=.aJ (af g) 0/\T 5=r/\T 7=gi i
theorem G6 (g:ag) (J:g.cX) (l:List aE) (hl:∀ x∈l,cq g x) (hn:l.length<=10000) (u:V) (H:View) (ho:aK H u 2 (aT l)):av Tryz.prog 69 [.agg (af g),u] H λr H'=>aK H' r 2 (aT (cK g l))/\b3 H H' r:=by
 refine av.of mixed sJ ?_
 have hlen:cd u=some l.length:=by rw[ho.len];simp[aT]
 have br:=J.rules
 simp(disch:=omega)only[↓wr,seval,wq,mV,af,encS]
 refine aV.up l.length (λi T H'=>∃ (r:V) (out:List aE),aK H' r 2 (aT out)/\b3 H H' r/\cb out/\(∀ x,x∈out↔x∈l.take i)/\out.length<=287/\T 1=u/\T 2=.aJ (af g) 0/\T 5=r/\T 6=gi i)
  ⟨.emp 1,[],.nil,.emp,.nil,by simp,by simp,rfl,rfl,rfl,rfl⟩ ?_
 rintro i k T H' hk ⟨r,out,D,fr,n,hm,hle,t1,t2,t5,t6⟩
 simp(disch:=omega)only[↓wr,seval,wq,lM,t1,t2,t5,t6,hlen]
 apply ai.dec<;>intro hc
 .have N:l[i]?=some (l[i]'(by omega)):=Uv (by omega)
  have W:l.take (i+1)=l.take i ++ [l[i]'(by omega)]:=by rw[UW,N];rfl
  generalize l[i]'(by omega)=y at N W
  obtain⟨id,hu,t⟩:=ho.sl (by simp[aT];omega)
  have X:H' id=.arr 2 (aT l):=by rw[(fr id (by rw[t];simp)).1,t]
  simp(disch:=omega)only[↓wr,seval,wq,t1,t2,t5,t6,hu,X,qP N]
  refine⟨by first | omega | (simp[aT];omega),by first | omega | (simp[aT];omega),?_⟩
  refine aw.dL ((AM r out (by omega) y H' D).mono ?_)
  rintro p H2 ⟨O,l2⟩
  simp(disch:=omega)only[↓wr,seval,wq,t1,t2,t5,t6]
  have Y:∀ x,x∈en out y↔x∈l.take (i+1):=λx=>by
   rw[iR,W,UR,hm,Vq,or_comm]
  have Z:=od (x:=y) n
  exact aD hk (by omega) ⟨p,en out y,O,fr.step l2,Z,Y,jT J Z (λx b=>hl x (List.mem_of_mem_take ((Y x).1 b))),t1,t2,rfl,rfl⟩
 rw[UK (by omega)] at hm
 simp(disch:=omega)only[↓wr,seval,wq,t1,t2,t5,t6]
 refine aV.intro (Qh g l H) ((300 - out.length) * 1000+300)
  ⟨0,r,out,by omega,VG _,D,fr,n,λx b=>.base ((hm x).1 b),λx b=>(hm x).2 b,λj x hj=>by omega,t2,t5,rfl⟩ ?_
 clear D fr n hm hle t1 t2 t5 t6 hc hk
 rintro m T1 H1 ⟨i,r,out,rfl,hi,D,fr,n,E,P,an,t2,t5,t7⟩
 have K:∀ x∈out,cq g x:=λx b=>(E x b).has hl
 have hle:=jT J n K
 have a7:cd r=some out.length:=by rw[D.len,bE]
 simp(disch:=omega)only[↓wr,seval,wq,lI,t2,t5,t7,a7]
 apply ai.dec<;>intro hc
 .have N:out[i]?=some (out[i]'(by omega)):=Uv (by omega)
  have Q:=K _ (UC (show i < out.length by omega))
  have aq:=E _ (UC (show i < out.length by omega))
  generalize out[i]'(by omega)=y at N Q aq
  have h1:=Aa g J y Q
  cases F:bw g y with
  | mk s G =>
  have bs:=vE J Q F
  rw[F] at h1
  obtain⟨id,hu,t⟩:=D.sl (by simp[aT];omega)
  rw[bE] at hu
  simp only[af,encS,bA] at h1
  simp(disch:=omega)only[↓wr,seval,wq,t2,t5,t7,hu,t,qP N,af,encS]
  refine⟨by first | omega | (simp[aT];omega),by first | omega | (simp[aT];omega),?_⟩
  refine aw.pure h1 ?_
  simp(disch:=omega)only[↓wr,seval,wq,t2,t5,t7,hu]
  refine aV.up g.rules.length (λk T H'=>∃ (p:V) (a:List aE),aK H' p 2 (aT a)/\b3 H H' p/\cb a/\(∀ x∈a,mF g l x)/\(∀ x∈out,x∈a)/\out.length<=a.length/\(a.length=out.length->a=out) /\
   (∀ (q:Nat) (R:bb),q < k->G=true->s < 0->g.rules[q]?=some R->R.left = -1 - s->(⟨q,0⟩:aE)∈a)/\T 2=.aJ (af g) 0/\T 5=p/\T 7=gi i/\T 8=gi s/\T 9=gb G/\T 10=gi out.length/\T 11=gi k)
   ⟨r,out,D,fr,n,E,λx b=>b,UF _,λ_=>rfl,λq R hq=>by omega,t2,by rw[<-hu];exact t5,t7,rfl,rfl,rfl,rfl⟩ ?_
  clear D fr t2 t5 t7 t hu
  rintro k j T2 H2 hk ⟨p,a,O,I,c,d,v,S,o,w,t2,t5,t7,t8,t9,t10,t11⟩
  have U:∀ x∈a,cq g x:=λx b=>(d x b).has hl
  have bn:=jT J c U
  have f:cd p=some a.length:=by rw[O.len,bE]
  have more:out.length < a.length->∀ z:Env,z 2=.aJ (af g) 0->z 5=p->z 7=gi 0->∃ k',k' < (300 - out.length) * 1000+(300 - i)/\Qh g l H k' z H2:=λh z e2 e5 e7 =>
   ⟨(300 - a.length) * 1000+300,by omega,0,p,a,by omega,VG _,O,I,c,d,λx b=>v x (P x b),λj x hj=>by omega,e2,e5,e7⟩
  have stay:(G=true->s < 0->g.rules.length<=k)->¬ out.length < a.length->∀ z:Env,z 2=.aJ (af g) 0->z 5=p->z 7=gi ((i:Int)+1)->∃ k',k' < (300 - out.length) * 1000+(300 - i)/\Qh g l H k' z H2:=λar h z e2 e5 e7=>by
   have e:=o (by omega)
   subst e
   refine⟨(300 - a.length) * 1000+(300 - (i+1)),by omega,i+1,p,a,rfl,by omega,O,I,c,d,P,λj x hj b=>?_,e2,e5,e7⟩
   rcases UZ j i with a1 | a1
   .exact an j x a1 b
   .have:j=i:=by omega
    subst this
    rw[N] at b
    simp only[Uw] at b
    subst b
    intro s' q R h1 L A M
    rw[F] at h1
    simp only[UA] at h1
    obtain⟨rfl,rfl⟩:=h1
    have:=(UI.1 A).1
    exact w q R (by have:=ar rfl L;omega) rfl L A M
  cases G with
  | false =>
   simp(disch:=omega)only[↓wr,seval,wq,iz,t2,t5,t7,t8,t9,t10,t11,f]
   apply ai.dec<;>intro hg
   .simp(disch:=omega)only[↓wr,seval,wq,t2,t5,t7]
    exact more (by omega) _ t2 t5 rfl
   .simp(disch:=omega)only[↓wr,seval,wq,t2,t5,t7]
    exact stay (λh=>by simp at h) (by omega) _ t2 t5 rfl
  | true =>
   simp(disch:=omega)only[↓wr,seval,wq,iz,t2,t5,t7,t8,t9,t10,t11,f,af]
   apply ai.dec<;>intro B
   .simp(disch:=omega)only[↓wr,seval,wq,t2,t5,t7,t8,t9,t10,t11,f,af]
    apply ai.dec<;>intro a8
    .have hR:g.rules[k]?=some (g.rules[k]'(by omega)):=Uv (by omega)
     have hL:=J.left _ (UC (show k < g.rules.length by omega))
     generalize g.rules[k]'(by omega)=R at hR hL
     simp(disch:=omega)only[↓wr,seval,wq,t2,t5,t7,t8,t9,t10,t11,af,aI,Uy,hR,UH]
     apply ai.eq<;>intro he
     .simp(disch:=omega)only[↓wr,seval,wq,t2,t5,t7,t8,t9,t10,t11]
      refine aw.dL ((AM p a (by omega) ⟨k,0⟩ H2 O).mono ?_)
      rintro r3 H3 ⟨o3,l3⟩
      simp(disch:=omega)only[↓wr,seval,wq,t2,t5,t7,t8,t9,t10,t11]
      have a6:mF g l ⟨k,0⟩:=.step aq F B hR he
      refine aD hk (by omega) ⟨r3,en a ⟨k,0⟩,o3,I.step l3,od c,λx b=>?_,λx b=>iR.2 (.inr (v x b)),by have:=D6 a ⟨k,0⟩;omega,λh=>?_,λq R' hq L A M=>?_,t2,rfl,t7,t8,t9,t10,rfl⟩
      .rcases iR.1 b with rfl | b
       .exact a6
       .exact d x b
      .have bd:(⟨k,0⟩:aE)∈a:=VH λbl=>by
        have:=A4 bl;omega
       rw[Bu c bd] at h ⊢
       exact o h
      .rcases UZ q k with C | C
       .exact iR.2 (.inr (w q R' C rfl L A M))
       .have:q=k:=by omega
        subst this
        exact iR.2 (.inl rfl)
     .simp(disch:=omega)only[↓wr,seval,wq,t2,t5,t7,t8,t9,t10,t11]
      refine aD hk (by omega) ⟨p,a,O,I,c,d,v,S,o,λq R' hq L A M=>?_,t2,t5,t7,t8,t9,t10,rfl⟩
      rcases UZ q k with C | C
      .exact w q R' C rfl L A M
      .have:q=k:=by omega
       subst this
       rw[hR] at A
       simp only[Uw] at A
       subst A
       exact absurd M he
    .simp(disch:=omega)only[↓wr,seval,wq,t2,t5,t7,t8,t9,t10,t11,f]
     apply ai.dec<;>intro hg
     .simp(disch:=omega)only[↓wr,seval,wq,t2,t5,t7]
      exact more (by omega) _ t2 t5 rfl
     .simp(disch:=omega)only[↓wr,seval,wq,t2,t5,t7]
      exact stay (λ_ _=>by omega) (by omega) _ t2 t5 rfl
   .simp(disch:=omega)only[↓wr,seval,wq,t2,t5,t7,t8,t9,t10,t11,f]
    apply ai.dec<;>intro hg
    .simp(disch:=omega)only[↓wr,seval,wq,t2,t5,t7]
     exact more (by omega) _ t2 t5 rfl
    .simp(disch:=omega)only[↓wr,seval,wq,t2,t5,t7]
     exact stay (λ_ h=>absurd h B) (by omega) _ t2 t5 rfl
 .simp(disch:=omega)only[↓wr,seval,wq,t2,t5,t7]
  have bx:i=out.length:=by omega
  rw[Al J hl n E P (λx b s k R h1 L A M=>by
   obtain⟨j,hj,e⟩:=VQ.1 b
   exact an j x (by omega) (by rw[Uv hj,e]) s k R h1 L A M)]
  exact⟨D,fr⟩
theorem KG (g:ag) (m:g.cX) (l:List aE) (t:cb l) (v:∀ x∈l,cq g x) (s:Int) (u:V) (H:View) (w:aK H u 2 (aT l)):av Tryz.prog 71 [.agg (af g),u,gi s] H λr H'=>aK H' r 2 (aT (bh g l s))/\b3 H H' r:=by
 refine av.of mixed um ?_
 have hlen:cd u=some l.length:=by rw[w.len];simp[aT]
 have hle:=jT m t v
 simp(disch:=omega)only[↓wr,seval,wq,oT,af,encS]
 refine aV.up l.length (λi T H'=>∃ (r:V),aK H' r 2 (aT (bh g (l.take i) s))/\b3 H H' r/\T 1=u/\T 2=gi s/\T 3=.aJ (af g) 0/\T 7=r/\T 8=gi i)
  ⟨.emp 1,.nil,.emp,rfl,rfl,rfl,rfl,rfl⟩ ?_
 rintro i k T H' hk ⟨r,h,fr,t1,t2,t3,t7,t8⟩
 simp(disch:=omega)only[↓wr,seval,wq,nG,t1,t2,t3,t7,t8,hlen]
 apply ai.dec<;>intro B
 .have j:l[i]?=some (l[i]'(by omega)):=Uv (by omega)
  have b:=v _ (UC (show i < l.length by omega))
  have a:=On (g:=g) t (show l[i]?=some (l[i]'(by omega)) from j) s
  generalize l[i]'(by omega)=y at j b a
  have h1:=Aa g m y b
  cases c:bw g y with
  | mk q n =>
  rw[c] at h1
  obtain⟨id,hu,f⟩:=w.sl (by simp[aT];omega)
  have d:H' id=.arr 2 (aT l):=by rw[(fr id (by rw[f];simp)).1,f]
  rw[bE] at hu
  have z:=b.2
  have L:=dD m b.1
  have o:=se (g:=g) (l:=l.take i) (s:=s)
  simp only[Vj] at o
  simp only[af,encS,bA] at h1
  simp(disch:=omega)only[↓wr,seval,wq,t1,t2,t3,t7,t8,hu,d,qP j,af,encS]
  refine⟨by first | omega | (simp[aT];omega),by first | omega | (simp[aT];omega),?_⟩
  refine aw.pure h1 ?_
  have skip:¬ bw g y=(s,true)->∀ e:Env,e 1=u->e 2=gi s->e 3=.aJ (af g) 0->e 7=r->e 8=gi ((i:Int)+1)->∃ A,A < k/\D3 l.length A (λi T H'=>∃ (r:V),aK H' r 2 (aT (bh g (l.take i) s))/\b3 H H' r/\T 1=u/\T 2=gi s/\T 3=.aJ (af g) 0/\T 7=r/\T 8=gi i) e H':=λp e C D E F G=>by
   rw[Ux p] at a
   exact aD hk (by omega) ⟨r,by rw[a];exact h,fr,C,D,E,F,G⟩
  cases n with
  | false =>
   simp(disch:=omega)only[↓wr,seval,wq,t1,t2,t3,t7,t8]
   exact skip (by rw[c];simp) _ t1 t2 t3 t7 rfl
  | true =>
   simp(disch:=omega)only[↓wr,seval,wq,t1,t2,t3,t7,t8]
   apply ai.eq<;>intro he
   .simp(disch:=omega)only[↓wr,seval,wq,t1,t2,t3,t7,t8,hu,d,qP j]
    refine⟨by first | omega | (simp[aT];omega),by first | omega | (simp[aT];omega),?_⟩
    refine⟨by first | omega | (simp[aT];omega),by first | omega | (simp[aT];omega),?_⟩
    refine aw.dL ((AM r (bh g (l.take i) s) (by omega) ⟨y.ax,y.dot+1⟩ H' h).mono ?_)
    rintro I M ⟨J,K⟩
    simp(disch:=omega)only[↓wr,seval,wq,t1,t2,t3,t7,t8]
    rw[Uz (by rw[c,he])] at a
    exact aD hk (by omega) ⟨I,by rw[a];exact J,fr.step K,t1,t2,t3,rfl,rfl⟩
   .simp(disch:=omega)only[↓wr,seval,wq,t1,t2,t3,t7,t8]
    exact skip (by rw[c];simp[he]) _ t1 t2 t3 t7 rfl
 .simp(disch:=omega)only[↓wr,seval,wq,t1,t2,t3,t7,t8]
  rw[UK (by omega)] at h
  exact⟨h,fr⟩
theorem Ch {g:ag} (a:g.cX) {i:Nat} (hi:i < g.au.length+g.aj.length) : -100<=aU g i/\aU g i<=100:=by
 have:=a.au;have:=a.aj
 unfold aU;split <;> omega
theorem HU (g:ag) (a:g.cX) (i:Nat) (hi:i < g.au.length+g.aj.length):az Tryz.prog 70 [.agg (af g),gi i] (gi (aU g i)):=by
 refine az.val (by
  intro v b;simp at b
  rcases b with rfl | rfl
  .exact bZ _ (cz g)
  .exact .val _) λH=>?_
 have:=a.au;have:=a.aj
 refine av.of mixed sS ?_
 unfold aU
 simp(disch:=omega)only[↓wr,seval,wq,nR,af,encS]
 apply ai.dec<;>intro h
 .simp(disch:=omega)only[↓wr,seval,wq]
  rw[Uz (by omega)]
 .simp(disch:=omega)only[↓wr,seval,wq,af]
  rw[Ux (by omega)]
theorem C0 (l:List aE):Tree (.aQ (aT l)):=eM _ _ λx _ v a=>by simp[bA] at a;rcases a with rfl | rfl <;> exact .val _
theorem Kk (a b:List aE) (g:aL a) (j:aL b):az Tryz.prog 135 [.aQ (aT a),.aQ (aT b)] (gb (a == b)):=by
 unfold aL at g j
 refine az.val (by
  intro v f;simp at f
  rcases f with rfl | rfl <;> exact C0 _) λH=>?_
 refine av.of mixed tW ?_
 simp(disch:=omega)only[↓wr,seval,wq,pk,aT]
 apply ai.ne<;>intro h
 .simp(disch:=omega)only[↓wr,seval,wq]
  have:(a == b)=false:=by simp;rintro rfl;exact h rfl
  rw[this]
 .simp(disch:=omega)only[↓wr,seval,wq]
  refine aV.up a.length (λi T H'=>a.take i=b.take i/\T 0=.aQ (aT a)/\T 1=.aQ (aT b)/\T 5=gi i) ⟨rfl,rfl,rfl,rfl⟩ ?_
  rintro i k T H' hk ⟨he,t0,t1,t5⟩
  simp(disch:=omega)only[↓wr,seval,wq,nh,t0,t1,t5,aT]
  apply ai.dec<;>intro l
  .have d:a[i]?=some (a[i]'(by omega)):=Uv (by omega)
   have c:b[i]?=some (b[i]'(by omega)):=Uv (by omega)
   generalize a[i]'(by omega)=x at d
   generalize b[i]'(by omega)=y at c
   simp(disch:=omega)only[↓wr,seval,wq,t0,t1,t5,aT,Uy,d,c,UH,bA]
   refine jc (xs:=#[.int .i64 x.ax,.int .i64 x.dot]) (ys:=#[.int .i64 y.ax,.int .i64 y.dot]) Tryz.underlying120 (by kernel_rfl) (by kernel_rfl) ?_ ?_ (qm x y) (.inr ⟨rfl,rfl⟩) ?_
   .rfl
   .rfl
   rw[yp]
   simp(disch:=omega)only[↓wr,seval,wq,t0,t1,t5]
   apply ai.dec<;>intro e
   .simp(disch:=omega)only[↓wr,seval,wq,t0,t1,t5]
    exact aD hk (by omega) ⟨by rw[UW,UW,he,d,c,e],t0,t1,rfl⟩
   .simp(disch:=omega)only[↓wr,seval,wq]
    have:(a == b)=false:=by
     simp;rintro rfl
     rw[d] at c;simp at c;exact e c
    rw[this]
  .simp(disch:=omega)only[↓wr,seval,wq,t0,t1,t5]
   rw[UK (by omega),UK (by omega)] at he
   rw[he,Wh]
structure S0 where
 ax:Int
 set:BV
 deriving DecidableEq
noncomputable def bS (g:ag):List aP × Int:=if isRed g=true then eZ g 302 0 dM else ([],1)
structure dH (g:ag) (at_ i:Nat) (out:List aP):Prop where
 bj:∀ s∈out,cb s.bj/\s.bj≠[]/\∀ x∈s.bj,cq g x
 b5:∀ j s,out[j]?=some s->s.b5.length<=40/\(j=at_->s.b5.length<=i)/\(at_ < j->s.b5=[])
 to:∀ s∈out,∀ e∈s.b5,0<=e.to/\e.to < out.length
 sym:∀ s∈out,∀ e∈s.b5,-1000<=e.sym/\e.sym<=1000
theorem mem_modify {α:Type} {l:List α} {i:Nat} {f:α->α} {y:α} (h:y∈l.modify i f):y∈l∨∃ x,l[i]?=some x/\y=f x:=by
 obtain⟨j,a,e⟩:=VQ.1 h
 simp only[List.length_modify] at a
 rw[List.getElem_modify] at e
 split at e
 .rename_i b
  subst b
  exact .inr ⟨l[i],Uv a,e.symm⟩
 .exact .inl (e ▸ UC a)
theorem Mj (g:ag) (l:List aE) (at_:Nat) (out:List aP) (i:Nat):out.length<=(cU g l at_ out i).length/\(cU g l at_ out i).length<=out.length+1:=by
 unfold cU
 split
 .omega
 .split
  .simp
  .simp
theorem dH.put {g:ag} {at_ i:Nat} {out:List aP} (h:dH g at_ i out) (hi:i < 40) {s:Int} (c : -1000<=s/\s<=1000) {to:Int} (d:0<=to/\to < out.length):dH g at_ (i+1) (out.modify at_ λx=>(⟨x.bj,x.b5 ++ [⟨s,to⟩]⟩:aP)):=by
 refine⟨λy a=>?_,λj y a=>?_,λy a e he=>?_,λy a e he=>?_⟩
 rotate_right
 .rcases mem_modify a with a | ⟨x,b,rfl⟩
  .exact h.sym y a e he
  .rcases UR.1 he with he | he
   .exact h.sym x (UL b) e he
   .simp at he;subst he;exact c
 .rcases mem_modify a with a | ⟨x,b,rfl⟩
  .exact h.bj y a
  .exact h.bj x (UL b)
 .rw[List.getElem?_modify] at a
  cases b:out[j]? with
  | none=>rw[b] at a;simp at a
  | some x =>
   rw[b] at a
   have h1:=h.b5 j x b
   by_cases e:at_=j
   .subst e
    simp at a
    subst a
    have:=h1.2.1 rfl
    refine⟨by simp;omega,λ_=>by simp;omega,λh=>by omega⟩
   .simp[e] at a
    subst a
    exact⟨h1.1,λh=>absurd h.symm e,h1.2.2⟩
 .rw[List.length_modify]
  rcases mem_modify a with a | ⟨x,b,rfl⟩
  .exact h.to y a e he
  .rcases UR.1 he with he | he
   .exact h.to x (UL b) e he
   .simp at he;subst he;exact d
theorem dH.up {g:ag} {at_ i:Nat} {out:List aP} (h:dH g at_ i out):dH g at_ (i+1) out :=
 ⟨h.bj,λj s a=>by have:=h.b5 j s a;exact⟨this.1,λe=>by have:=this.2.1 e;omega,this.2.2⟩,h.to,h.sym⟩
theorem dH.add {g:ag} {at_ i:Nat} {out:List aP} (h:dH g at_ i out) {k:List aE} (hk:cb k/\k≠[]/\∀ x∈k,cq g x):dH g at_ i (out ++ [⟨k,[]⟩]):=by
 refine⟨λy a=>?_,λj y a=>?_,λy a e he=>?_,λy a e he=>?_⟩
 rotate_right
 .rcases UR.1 a with a | a
  .exact h.sym y a e he
  .simp at a;subst a;simp at he
 .rcases UR.1 a with a | a
  .exact h.bj y a
  .simp at a;subst a;exact hk
 .rcases UZ j out.length with b | b
  .rw[U5 b] at a;exact h.b5 j y a
  .rw[Vn b] at a
   cases c:j - out.length with
   | zero=>rw[c] at a;simp at a;subst a;exact⟨by simp,λ_=>by simp,λ_=>rfl⟩
   | succ q=>rw[c] at a;simp at a
 .rcases UR.1 a with a | a
  .have:=h.to y a e he;simp;omega
  .simp at a;subst a;simp at he
theorem dH.step {g:ag} {l:List aE} (c:cb l) (d:∀ x∈l,cq g x) {at_ i:Nat} {out:List aP} (h:dH g at_ i out) (hi:i < 40):dH g at_ (i+1) (cU g l at_ out i):=by
 unfold cU
 split
 .exact h.up
 .rename_i a
  have b : -1000<=aU g i/\aU g i<=1000:=by unfold aU;split <;> omega
  split
  .exact(h.add ⟨DM _ c,a,Gl d⟩).put hi b (by simp;omega)
  .have:=wU out (bh g l (aU g i))
   exact h.put hi b ⟨by omega,this⟩
theorem dH.next {g:ag} {at_ i:Nat} {out:List aP} (h:dH g at_ i out):dH g (at_+1) 0 out :=
 ⟨h.bj,λj s a=>by
  have:=h.b5 j s a
  exact⟨this.1,λe=>by have:=this.2.2 (by omega);simp[this],λe=>this.2.2 (by omega)⟩,h.to,h.sym⟩
theorem dH.row {g:ag} {l:List aE} (a:cb l) (b:∀ x∈l,cq g x) {at_:Nat} {out:List aP} (h:dH g at_ 0 out):∀ n:Nat,n<=40->dH g at_ n ((List.range n).foldl (cU g l at_) out)/\out.length<=((List.range n).foldl (cU g l at_) out).length/\((List.range n).foldl (cU g l at_) out).length<=out.length+n
 | 0,_=>⟨h,UF _,UF _⟩
 | n+1,c=>by
  obtain⟨h1,d,e⟩:=dH.row a b h n (by omega)
  rw[V1,VT]
  simp only[Vf,Wi]
  have:=Mj g l at_ ((List.range n).foldl (cU g l at_) out) n
  exact⟨h1.step a b (by omega),by omega,by omega⟩
theorem kW {g:ag} : dH g 0 0 dM:=by
 refine⟨λs a=>?_,λj s a=>?_,λs a e he=>?_,λs a e he=>?_⟩
 rotate_right
 .simp[dM] at a;subst a;simp at he
 .simp[dM] at a;subst a
  refine⟨by simp[cb],by simp,λx b=>?_⟩
  simp at b;subst b
  exact⟨⟨by simp,by simp only;omega⟩,by simp,by simp[bG]⟩
 .have:=UL a
  simp[dM] at this;subst this;simp
 .simp[dM] at a;subst a;simp at he
theorem dH.lO {g:ag} (a:g.cX) {at_ i:Nat} {out:List aP} (h:dH g at_ i out) {j:Nat} (b:j < out.length):cb (cK g (out.getD j bJ).bj)/\∀ x∈cK g (out.getD j bJ).bj,cq g x:=by
 have hm:=UL (getD_some (d:=bJ) b)
 exact⟨rI _ _,λx c=>((fM a (h.bj _ hm).2.2).1 c).has (h.bj _ hm).2.2⟩
structure E7 (g:ag) (a:List aP):Prop where
 bj:∀ s∈a,cb s.bj/\s.bj≠[]/\∀ x∈s.bj,cq g x
 b5:∀ s∈a,s.b5.length<=40
 to:∀ s∈a,∀ e∈s.b5,0<=e.to/\e.to < a.length
 sym:∀ s∈a,∀ e∈s.b5,-1000<=e.sym/\e.sym<=1000
theorem dH.ok {g:ag} {at_ i:Nat} {out:List aP} (h:dH g at_ i out):E7 g out :=
 ⟨h.bj,λs a=>by obtain⟨j,b,e⟩:=VQ.1 a;exact(h.b5 j s (by rw[Uv b,e])).1,h.to,h.sym⟩
theorem Gk {g:ag} (b:g.cX):∀ (f at_:Nat) (out:List aP),dH g at_ 0 out->1<=out.length->out.length<=300->(eZ g f at_ out).2=0->E7 g (eZ g f at_ out).1/\1<=(eZ g f at_ out).1.length/\(eZ g f at_ out).1.length<=300
 | 0,_,out,h,h1,c,_=>⟨h.ok,h1,c⟩
 | f+1,at_,out,h,h1,c,a=>by
  rw[eZ] at a ⊢
  split
  .rename_i d
   rw[Uz d] at a
   have hr:=dH.row (h.lO b d).1 (h.lO b d).2 h (g.au.length+g.aj.length) (by have:=b.au;have:=b.aj;omega)
   rw[show (List.range (g.au.length+g.aj.length)).foldl (cU g (cK g (out.getD at_ bJ).bj) at_) out=tS g at_ out (g.au.length+g.aj.length) from rfl] at hr
   split
   .rename_i e;rw[Uz e] at a;simp at a
   .rename_i e
    rw[Ux e] at a
    exact Gk b f (at_+1) _ hr.1.next (by omega) (by omega) a
  .exact⟨h.ok,h1,c⟩
theorem OY {g:ag} (a:g.cX) (h:(bS g).2=0):E7 g (bS g).1/\1<=(bS g).1.length/\(bS g).1.length<=300:=by
 unfold bS at h ⊢
 split
 .rename_i hr
  rw[Uz hr] at h
  exact Gk a 302 0 dM kW (by simp[dM]) (by simp[dM]) h
 .rename_i hr
  rw[Ux hr] at h
  simp at h
def jG (l:List fe):List (List V):=l.map ki
def lu (s:aP):List V:=[.aQ (aT s.bj),.aQ (jG s.b5)]
def bM (a:List aP):V:=.aQ (a.map lu)
theorem Q0 (l:List fe):Tree (.aQ (jG l)):=eM _ _ λx _ v a=>by simp[ki] at a;rcases a with rfl | rfl <;> exact .val _
theorem Kl (s:aP):∀ v∈lu s,Tree v:=by
 intro v a;simp[lu] at a
 rcases a with rfl | rfl
 .exact C0 _
 .exact Q0 _
theorem lX (a:List aP):Tree (bM a):=eM _ _ λx _=>Kl x
abbrev pn:=V × V × aP
def eQ (A:List pn):List (List V):=A.map λx=>[x.1,x.2.1]
def lH (A:List pn):List dN:=A.flatMap λx=>[(x.1,2,aT x.2.2.bj),(x.2.1,2,jG x.2.2.b5)]
theorem cY (A:List pn):(eQ A).length=A.length:=by simp[eQ]
theorem np {A:List pn} {x:pn} (a:x∈A):(x.1,2,aT x.2.2.bj)∈lH A/\(x.2.1,2,jG x.2.2.b5)∈lH A:=by
 constructor <;> exact List.mem_flatMap.2 ⟨x,a,by simp⟩
theorem C3 {h:aC} {u:V} {A:List pn} (f:aK h.view u 2 (eQ A)) (g:∀ x∈A,aK h.view x.1 2 (aT x.2.2.bj)/\aK h.view x.2.1 2 (jG x.2.2.b5)):dz h u (bM (A.map λx=>x.2.2)):=by
 have c:∀ i (hi:i < A.length),(eQ A).getD i []=[(A[i]).1,(A[i]).2.1]/\(((A.map λx=>x.2.2).map lu).getD i [])=lu (A[i]).2.2:=λi hi=>by
  simp[eQ,Uu,hi]
 refine dz.own f (by simp[eQ]) (λi hi=>?_) (λi j hi b=>?_)
 .have a:i < A.length:=by simpa [eQ] using hi
  rw[(c i a).1,(c i a).2];rfl
 .have a:i < A.length:=by simpa [eQ] using hi
  rw[(c i a).2] at b ⊢
  rw[(c i a).1]
  have d:=g _ (UC a)
  generalize A[i]'a=y at d b
  obtain⟨h1,k⟩:=d
  match j,b with
  | 0,_ =>
   refine dz.own h1 rfl (λi _=>rfl) (λi j hi b=>?_)
   rw[bE] at hi
   have e:(aT y.2.2.bj).getD i []=bA y.2.2.bj[i]:=by simp[aT,Uu,hi]
   rw[e] at b ⊢
   match j,b with
   | 0,_=>exact .val _
   | 1,_=>exact .val _
  | 1,_ =>
   refine dz.own k rfl (λi _=>rfl) (λi j hi b=>?_)
   simp only[jG,UB] at hi
   have e:(jG y.2.2.b5).getD i []=ki y.2.2.b5[i]:=by simp[jG,Uu,hi]
   rw[e] at b ⊢
   match j,b with
   | 0,_=>exact .val _
   | 1,_=>exact .val _
  | n+2,b=>exact absurd b (by simp[lu])
def oq:SC :=
 ae [ae [ab [aa 6 5,aa 7 0,aM 8 7,aR 9 .lss 6 8],bX 9 (.exit 0)],.block 1 (ae [ab [aa 12 0,aa 13 5,aO 14 2 12 13,al 15 0 14,ak 16 15,aa 17 1,aX 18 135 [16,17]],ba 18 (ae [ab [aa 19 5,aa 4 19],.ret])]),ab [aa 10 5,aG 11 .add 10 1,aa 5 11]]
def qD:SF:=⟨ae [ab [aN 4 0],ae [ab [aN 5 0],bY 0 oq],ab [aN 4 (-1)],.ret],
 [.tmp 4],20⟩
theorem ve:aH Tryz.prog 72 []=some qD:=by kernel_rfl
def nE:SC :=
 ae [ae [ab [aa 31 7,al 32 0 1,ak 33 32,aM 34 33,al 35 1 1,ak 36 35,aM 37 36,aR 38 .add 34 37,aR 39 .lss 31 38],bX 39 (.exit 2)],.block 3 (ae [ab [aS 42 4 1,aa 43 7,aX 44 70 [42,43],aa 8 44],ab [aS 45 4 1,aa 46 6,aa 47 8,aX 48 71 [45,46,47],aa 9 48],ae [ab [aa 49 9,aM 50 49,aG 51 .eql 50 0],ba 51 (.exit 3)],ab [aa 52 4,aa 53 9,aX 54 72 [52,53],aa 10 54],ae [ab [aa 55 10,aG 56 .lss 55 0],ba 56 (ae [ab [aa 57 4,aM 58 57,aa 10 58],ab [aa 59 4,aa 60 9,((some 61),.op (.build [(.emp 1),(.emp 1)] [(0,1,(.tmp 60))])),((some 62),.op (.bP 1 2 [(.emp 1),(.emp 1)] [(0,(.tmp 61))])),fk 63 2 48 59 62,aa 4 63]])],ab [aa 64 4,aa 65 5,aa 66 4,aa 67 5,aO 68 2 66 67,al 69 1 68,ak 70 69,aa 71 8,aa 72 10,((some 73),.op (.build [(.val (.int .i64 0)),(.val (.int .i64 0))] [(0,1,(.tmp 71)),(1,1,(.tmp 72))])),((some 74),.op (.bP 1 2 [(.val (.int .i64 0)),(.val (.int .i64 0))] [(0,(.tmp 73))])),fk 75 2 16 70 74,aO 76 2 64 65,al 77 1 76,cg 1 77 75]]),ab [aa 40 7,aG 41 .add 40 1,aa 7 41]]
def nb:SC :=
 ae [ae [ab [aa 18 5,aa 19 4,aM 20 19,aR 21 .lss 18 20],bX 21 (.exit 0)],.block 1 (ae [ab [aS 24 4 1,aa 25 4,aa 26 5,aO 27 2 25 26,al 28 0 27,ak 29 28,aX 30 69 [24,29],aa 6 30],ae [ab [aN 7 0],bY 2 nE],ab [aa 78 4,aM 79 78,aG 80 .gtr 79 300],ba 80 (ae [ab [bI 2 1,aN 3 5],.ret])]),ab [aa 22 5,aG 23 .add 22 1,aa 5 23]]
def pa:SF:=⟨ae [ab [cw 1 0,bI 2 1,aN 3 0],ae [ab [aS 11 4 1,aX 12 15 [11],c7 13 12],ba 13 (ae [ab [bI 2 1,aN 3 1],.ret])],ab [((some 14),.op (.build [(.val (.int .i64 0)),(.val (.int .i64 0))] [(0,1,(.val (.val (.int .i64 (-1)))))])),((some 15),.op (.bP 1 2 [(.val (.int .i64 0)),(.val (.int .i64 0))] [(0,(.tmp 14))])),((some 16),.op (.build [(.emp 1),(.emp 1)] [(0,1,(.tmp 15))])),((some 17),.op (.bP 1 2 [(.emp 1),(.emp 1)] [(0,(.tmp 16))])),aa 4 17],ae [ab [aN 5 0],bY 0 nb],ab [aa 81 4,aa 2 81,aN 3 0],.ret],
 [.tmp 2,.tmp 3],82⟩
theorem uh:aH Tryz.prog 32 [1]=some pa:=by kernel_rfl
theorem K3:∀ (a:List aP) (k:List aE) (i:Nat),(∀ j s,j < i->a[j]?=some s->s.bj≠k)->(∀ s,a[i]?=some s->s.bj=k->findD a k=i)/\(i=a.length->findD a k = -1):=by
 intro a k i h
 refine⟨λs h1 c=>Gu a k i s h1 c h,λe=>?_⟩
 subst e
 refine Cb a k λs d=>?_
 obtain⟨j,b,e⟩:=VQ.1 d
 exact h j s b (by rw[Uv b,e])
theorem Oj (a:List aP) (g:aL a) (l:∀ s∈a,aL s.bj) (k:List aE) (hk:aL k):az Tryz.prog 72 [bM a,.aQ (aT k)] (gi (findD a k)):=by
 unfold aL at g
 refine az.val (by
  intro v f;simp at f
  rcases f with rfl | rfl
  .exact lX _
  .exact C0 _) λH=>?_
 refine av.of mixed ve ?_
 simp(disch:=omega)only[↓wr,seval,wq,qD,bM]
 refine aV.up a.length (λi T H'=>(∀ j s,j < i->a[j]?=some s->s.bj≠k)/\T 0=bM a/\T 1=.aQ (aT k)/\T 5=gi i) ⟨λj s h=>by omega,rfl,rfl,rfl⟩ ?_
 rintro i n T H' m ⟨c,t0,t1,t5⟩
 obtain⟨f1,f2⟩:=K3 a k i c
 simp(disch:=omega)only[↓wr,seval,wq,oq,t0,t1,t5,bM]
 apply ai.dec<;>intro o
 .have d:a[i]?=some (a[i]'(by omega)):=Uv (by omega)
  have hm:=l _ (UC (show i < a.length by omega))
  generalize a[i]'(by omega)=x at d hm
  simp(disch:=omega)only[↓wr,seval,wq,t0,t1,t5,bM,Uy,d,UH,lu]
  refine aw.pure (Kk x.bj k hm hk) ?_
  simp(disch:=omega)only[↓wr,seval,wq,t0,t1,t5]
  apply ai.split<;>intro e
  .simp(disch:=omega)only[↓wr,seval,wq,t0,t1,t5]
   rw[f1 x d (by simpa using e)]
  .simp(disch:=omega)only[↓wr,seval,wq,t0,t1,t5]
   refine aD m (by omega) ⟨λj s p b=>?_,t0,t1,rfl⟩
   rcases UZ j i with h | h
   .exact c j s h b
   .have:j=i:=by omega
    subst this
    rw[d] at b;simp at b;subst b
    simpa using e
 .simp(disch:=omega)only[↓wr,seval,wq,t0,t1,t5]
  rw[f2 (by omega)]
theorem Ld {g:ag} (a:g.cX) {s:aP} (h:cb s.bj/\s.bj≠[]/\∀ x∈s.bj,cq g x):aL s.bj:=by
 have:=jT a h.1 h.2.2;unfold aL;omega
theorem cm.Uo {H:View} {u:V} {A:List pn} {L:List dN} (h:bc H ((u,2,eQ A) :: L)) (a:∀ x∈lH A,x∈L):cm H u (bM (A.map λx=>x.2.2)):=by
 rintro c rfl
 exact(C3 h.head λx b=>⟨h.1 _ (UP _ (a _ (np b).1)),h.1 _ (UP _ (a _ (np b).2))⟩).fr
theorem cm.lr {H:View} {u:V} {l:List aE} (h:aK H u 2 (aT l)):cm H u (.aQ (aT l)) :=
 cm.own h λe he v a=>by
  obtain⟨x,_,rfl⟩:=U0.1 he
  simp[bA] at a;rcases a with rfl | rfl <;> exact .val _
theorem kb {h:aC} {u v:V} {e:Int} (h1:dz h u v):dz h (.aY [u,gi e]) (.aY [v,gi e]):=.aY _ _ rfl λi hi=>by
 match i,hi with
 | 0,_=>exact h1
 | 1,_=>exact .val _
theorem vO {α:Type} {l:List α} {i:Nat} (h:i < l.length):∃ a x b,l=a ++ x :: b/\a.length=i/\l[i]?=some x :=
 ⟨l.take i,l[i],l.drop (i+1),by rw[<-Vg h,List.take_append_drop],by simp;omega,Uv h⟩
theorem Bx {α:Type} (a:List α) (x:α) (b:List α) (f:α->α):(a ++ x :: b).modify a.length f=a ++ f x :: b:=by
 induction a with
 | nil=>rfl
 | cons y a c=>simp only[Va,UE,List.modify_succ_cons,c]
theorem zB {g:ag} (h:isRed g=true):bV g=true:=by
 unfold isRed at h
 simp only[UJ,Vr,UN] at h
 refine Decidable.byContradiction λa=>?_
 have h1:=h.1
 unfold gP at h1
 simp[a] at h1
theorem rM {g:ag} (h:isRed g=true):g.cX:=b4 (zB h)
theorem Tw {α:Type} {a b c:α} {l:List α} : (a :: b :: c :: l).Perm (c :: b :: a :: l):=(List.Perm.swap _ _ _).trans (((List.Perm.swap _ _ _).cons _).trans (List.Perm.swap _ _ _))
theorem Si {α:Type} {e u p r:α} {S:List α} : (e :: u :: p :: r :: S).Perm (u :: r :: (S ++ [p,e])) :=
 (List.Perm.swap _ _ _).trans (.cons _ (Tw.trans (.cons _ (List.perm_append_comm (l₁:=[p,e]) (l₂:=S)))))
theorem L6 {α:Type} {u r k e:α} {b c:List α} : (u :: r :: (b ++ k :: e :: c)).Perm (e :: u :: r :: (b ++ k :: c)):=by
 have h:(b ++ k :: e :: c).Perm (e :: (b ++ k :: c)):=by
  have:=Wj (a:=e) (l₁:=b ++ [k]) (l₂:=c)
  simpa using this
 exact(((h.cons r).cons u).trans ((List.Perm.swap _ _ _).cons u)).trans (List.Perm.swap _ _ _)
theorem zq (A:List pn) (x:pn) (B:List pn):lH (A ++ x :: B)=lH A ++ (x.1,2,aT x.2.2.bj) :: (x.2.1,2,jG x.2.2.b5) :: lH B:=by simp[lH]
def TI (g:ag) (m:Nat) (T:Env) (H:View):Prop:=∃ (at_:Nat) (u:V) (A:List pn) (out:List aP),m+at_=302/\out=A.map (λx=>x.2.2)/\bc H ((u,2,eQ A) :: lH A)/\dH g at_ 0 out/\1<=out.length/\out.length<=300/\eZ g m at_ out=bS g/\at_<=out.length /\
 T 1=.aJ (af g) 0/\T 4=u/\T 5=gi at_
theorem Kq (g:ag) (hg:g.Ok):b6 Tryz.prog 32 [.agg (af g)] (.aY [bM (bS g).1,gi (bS g).2]):=by
 refine b6.of (dO g) ?_
 have Y:=Sl g hg
 refine av.of mixed uh ?_
 simp only[af,encS] at Y
 simp(disch:=omega)only[↓wr,seval,wq,pa,af,encS]
 refine aw.pure Y ?_
 simp(disch:=omega)only[↓wr,seval,wq]
 apply ai.split<;>intro hr
 rotate_left
 .simp(disch:=omega)only[↓wr,seval,wq]
  intro h' _
  have e:bS g=([],1):=by unfold bS;rw[Ux (by rw[hr];simp)]
  rw[e]
  exact kb (.emp _)
 have v:g.cX:=rM hr
 have e0:eZ g 302 0 dM=bS g:=by unfold bS;rw[Uz hr]
 have hT:=v.au;have hN:=v.aj
 simp(disch:=omega)only[↓wr,seval,wq]
 intro O q2 K
 have o0:bc (((View.set (λ_=>dB.dead) O (.arr 2 [[gi (-1),gi 0]])).set q2 (.arr 2 [[.sl O 0 1 2,.emp 1]]))) ((.sl q2 0 1 2,2,eQ [(.sl O 0 1 2,.emp 1,⟨[⟨-1,0⟩],[]⟩)]) :: lH [(.sl O 0 1 2,.emp 1,⟨[⟨-1,0⟩],[]⟩)]) :=
  (((bc.nil.emp (k:=1) (sz:=2)).new (n:=O) rfl 2 [[gi (-1),gi 0]]).new (by simpa [View.set] using K) 2 [[.sl O 0 1 2,.emp 1]])
 generalize (View.set (λ_=>dB.dead) O (.arr 2 [[gi (-1),gi 0]])).set q2 (.arr 2 [[.sl O 0 1 2,.emp 1]])=H0 at o0 ⊢
 refine aV.intro (TI g) 302 ⟨0,_,_,dM,rfl,rfl,o0,kW,UF _,by simp[dM],e0,by omega,rfl,rfl,rfl⟩ ?_
 clear o0 K
 rintro m T H ⟨at_,u,A,out,hm,rfl,j,hI,h1,P,Q,hle,t1,t4,t5⟩
 have w:cd u=some A.length:=by rw[j.head.len,cY]
 simp only[UB] at h1 P hle
 simp(disch:=omega)only[↓wr,seval,wq,nb,t1,t4,t5,w]
 apply ai.dec<;>intro hc
 rotate_left
 .simp(disch:=omega)only[↓wr,seval,wq,t1,t4,t5]
  have e1:bS g=(A.map (λx=>x.2.2),0):=by
   rw[<-Q]
   cases m with
   | zero=>rfl
   | succ m=>rw[eZ,Ux (by simp;omega)]
  rw[e1]
  rintro h' rfl
  exact kb (C3 j.head λx L=>⟨j.1 _ (UP _ (np L).1),j.1 _ (UP _ (np L).2)⟩)
 obtain⟨m,rfl⟩:∃ q,m=q+1:=⟨m - 1,by omega⟩
 have z:at_ < A.length:=by omega
 obtain⟨a,x,d,rfl,p,L⟩:=vO z
 have U:x∈a ++ x :: d:=by simp
 obtain⟨Z,b8,C⟩:=hI.bj x.2.2 (List.mem_map_of_mem U)
 have b9:=jT v Z C
 have hh:aK H u 2 (eQ (a ++ x :: d)):=j.head
 obtain⟨id,hu,M⟩:=hh.sl (by rw[cY];omega)
 have D:(eQ (a ++ x :: d)).getD at_ []=[x.1,x.2.1]:=by simp[eQ,Uu,<-p]
 have an:cK g ((List.map (λx=>x.2.2) (a ++ x :: d)).getD at_ bJ).bj=cK g x.2.2.bj:=by
  rw[Uu,Uy,L];rfl
 have R:=λn hn=>dH.row (hI.lO v (show at_ < ((a ++ x :: d).map λx=>x.2.2).length by simpa using z)).1 (hI.lO v (show at_ < ((a ++ x :: d).map λx=>x.2.2).length by simpa using z)).2 hI n hn
 rw[eZ,Uz (by simpa using z),tS] at Q
 rw[an] at Q R
 have aq:=rI g x.2.2.bj
 have ar:∀ y∈cK g x.2.2.bj,cq g y:=λy hy=>((fM v C).1 hy).has C
 rw[cY] at hu
 simp(disch:=omega)only[↓wr,seval,wq,t1,t4,t5,hu,M,D,af,encS]
 refine⟨by omega,by rw[cY];omega,?_⟩
 refine aw.dL ((G6 g v x.2.2.bj C (by omega) x.1 H (j.1 _ (UP _ (np U).1))).mono ?_)
 rintro r H2 ⟨or,fr⟩
 have o2:=j.Af or fr
 clear or fr M D an L
 generalize cK g x.2.2.bj=cl at *
 generalize h:(a ++ x :: d).map (λx=>x.2.2)=E at *
 have a1:E.length=(a ++ x :: d).length:=by rw[<-h];simp
 simp(disch:=omega)only[↓wr,seval,wq,t1,t4,t5]
 refine aV.up (g.au.length+g.aj.length) (λi T H'=>∃ (u:V) (A:List pn),A.map (λx=>x.2.2)=(List.range i).foldl (cU g cl at_) E/\bc H' ((r,2,aT cl) :: (u,2,eQ A) :: lH A)/\T 1=.aJ (af g) 0/\T 4=u/\T 5=gi at_/\T 6=r/\T 7=gi i)
  ⟨u,_,h,o2,t1,by rw[<-hu];exact t4,t5,rfl,rfl⟩ ?_
 rw[<-a1] at h1 P hle z
 clear o2 j hh hu t1 t4 t5 w h U a1 hc Z b8 C b9 p
 clear u H2 H T id a x d
 rintro i k T H' hk ⟨u,A,hA,j,t1,t4,t5,t6,t7⟩
 obtain⟨iI,a6,a7⟩:=R i (by omega)
 rw[<-hA] at iI a6 a7
 rw[UB] at a6 a7
 have w:cd u=some A.length:=by rw[j.tail.head.len,cY]
 have cA:=jT v aq ar
 simp(disch:=omega)only[↓wr,seval,wq,nE,t1,t4,t5,t6,t7,af,encS]
 apply ai.dec<;>intro hc
 rotate_left
 .have hi:i=g.au.length+g.aj.length:=by omega
  subst hi
  rw[<-hA] at Q
  simp(disch:=omega)only[↓wr,seval,wq,t1,t4,t5,t6,w]
  apply ai.dec<;>intro h3
  .simp(disch:=omega)only[↓wr,seval,wq]
   intro h' _
   rw[Uz (by rw[UB];omega)] at Q
   rw[<-Q]
   exact kb (.emp _)
  .simp(disch:=omega)only[↓wr,seval,wq,t1,t4,t5]
   rw[Ux (by rw[UB];omega)] at Q
   exact⟨m,by omega,at_+1,u,A,_,by omega,rfl,j.tail,iI.next,by rw[UB];omega,by rw[UB];omega,Q,by rw[UB];omega,t1,t4,rfl⟩
 have a8:i < g.au.length+g.aj.length:=by omega
 have S:=HU g v i a8
 have cC:=Ch v a8
 simp only[af,encS] at S
 simp(disch:=omega)only[↓wr,seval,wq,t1,t4,t5,t6,t7,af,encS]
 refine aw.pure S ?_
 simp(disch:=omega)only[↓wr,seval,wq,t1,t4,t5,t6,t7,af,encS]
 refine aw.dL ((KG g v cl aq ar (aU g i) r H' j.head).mono ?_)
 rintro J H9 ⟨or,fr⟩
 have o9:=j.Af or fr
 have cN:=se (g:=g) (l:=cl) (s:=aU g i)
 have cc:cd J=some (bh g cl (aU g i)).length:=by rw[or.len,bE]
 have F:(List.range (i+1)).foldl (cU g cl at_) E=cU g cl at_ (A.map λx=>x.2.2) i:=by rw[V1,VT,<-hA];rfl
 simp(disch:=omega)only[↓wr,seval,wq,t1,t4,t5,t6,t7,cc]
 apply ai.eq<;>intro he
 .have bd:bh g cl (aU g i)=[]:=VY.1 (by omega)
  simp(disch:=omega)only[↓wr,seval,wq,t1,t4,t5,t6,t7]
  exact aD hk (by omega) ⟨u,A,by rw[F,cU,Uz bd],o9.tail,t1,t4,t5,t6,rfl⟩
 have bl:bh g cl (aU g i)≠[]:=λe=>he (by rw[e];rfl)
 simp(disch:=omega)only[↓wr,seval,wq,t1,t4,t5,t6,t7]
 have W:=Oj (A.map λx=>x.2.2) (by unfold aL;rw[UB];omega) (λs hs=>Ld v (iI.bj s hs)) (bh g cl (aU g i)) (by unfold aL;omega)
 refine aw.G7 W (by kernel_rfl) (.val _) ⟨cm.Uo o9.tail.tail (λx L=>L),cm.lr or,trivial⟩ ?_
 have cf:=wU (A.map λx=>x.2.2) (bh g cl (aU g i))
 have cS:=sH (A.map λx=>x.2.2) (bh g cl (aU g i))
 rw[UB] at cf
 have bn:at_ < A.length:=by omega
 simp(disch:=omega)only[↓wr,seval,wq,t1,t4,t5,t6,t7]
 obtain⟨a,x,d,G,p,L⟩:=vO bn
 have cV:x.2.2.b5.length<=40:=(iI.b5 at_ x.2.2 (by rw[Uy,L];rfl)).1
 have D:∀ B,(eQ (a ++ x :: B)).getD at_ []=[x.1,x.2.1]:=λB=>by simp[eQ,Uu,<-p]
 have br:∀ (B:List pn) (c:fe),((a ++ x :: B).map λx=>x.2.2).modify at_ (λs=>(⟨s.bj,s.b5 ++ [c]⟩:aP))=(a ++ (x.1,x.2.1,(⟨x.2.2.bj,x.2.2.b5 ++ [c]⟩:aP)) :: B).map λx=>x.2.2:=λB c=>by
  rw[UT,U2,<-p,<-UB (f:=λx:pn=>x.2.2),Bx,UT,U2]
 apply ai.dec<;>intro I
 simp(disch:=omega)only[↓wr,seval,wq,t1,t4,t5,t6,t7,w,or.cells,or.er]
 intro q hq
 simp(disch:=omega)only[↓wr,seval,wq,bH]
 have ch:=(o9.fresh (o:=.arr 2 [[J,.emp 1]]) hq).at 2 (by simp)
 refine cx ch (by simp[or.er,zp]) (by unfold aB;rw[cY];simp;omega) (by unfold aB;rw[cY];simp;omega) ?_
 intro u2 X bs _
 simp only[List.getElem_cons_succ,List.getElem_cons_zero,Vb,Vc] at bs
 have cj:=(bs.emp (k:=1) (sz:=2)).perm Si
 have t:cU g cl at_ (A.map λx=>x.2.2) i=((a ++ x :: (d ++ [(J,.emp 1,(⟨bh g cl (aU g i),[]⟩:aP))])).map λx=>x.2.2).modify at_ (λs=>(⟨s.bj,s.b5 ++ [⟨aU g i,(A.length:Int)⟩]⟩:aP)):=by
  rw[cU,Ux bl,Uz I,UB]
  congr 1
  rw[G];simp
 have b:bc X ((u2,2,eQ (a ++ x :: (d ++ [(J,.emp 1,(⟨bh g cl (aU g i),[]⟩:aP))]))) :: (r,2,aT cl) :: lH (a ++ x :: (d ++ [(J,.emp 1,(⟨bh g cl (aU g i),[]⟩:aP))]))):=by
  have e1:eQ (a ++ x :: (d ++ [(J,.emp 1,(⟨bh g cl (aU g i),[]⟩:aP))]))=eQ A ++ [[J,.emp 1]]:=by rw[G];simp[eQ]
  have e2:lH (a ++ x :: (d ++ [(J,.emp 1,(⟨bh g cl (aU g i),[]⟩:aP))]))=lH A ++ [(J,2,aT (bh g cl (aU g i))),(.emp 1,2,[])]:=by rw[G];simp[lH];rfl
  rw[e1,e2]
  exact cj
 generalize (d ++ [(J,V.emp 1,(⟨bh g cl (aU g i),[]⟩:aP))])=B at t b
 generalize (A.length:Int)=to at t ⊢
 rotate_left
 have t:cU g cl at_ (A.map λx=>x.2.2) i=((a ++ x :: d).map λx=>x.2.2).modify at_ (λs=>(⟨s.bj,s.b5 ++ [⟨aU g i,findD (A.map λx=>x.2.2) (bh g cl (aU g i))⟩]⟩:aP)):=by
  rw[cU,Ux bl,Ux I,<-G]
 have b:=o9.tail.perm (.swap _ _ _)
 clear or fr
 generalize H9=X at o9 b ⊢
 obtain⟨u2,ck⟩:∃ y,y=u:=⟨_,rfl⟩
 rw[<-ck] at b t4
 rw[G] at b
 generalize findD (A.map λx=>x.2.2) (bh g cl (aU g i))=to at t ⊢
 generalize d=B at t b
 all_goals (
  obtain⟨id,hu,M⟩:=(show aK X u2 2 (eQ (a ++ x :: B)) from b.head).sl (by rw[cY];simp;omega)
  rw[cY] at hu
  rw[zq] at b
  simp(disch:=omega)only[↓wr,seval,wq,t1,t4,t5,t6,t7,hu,M,D B]
  refine⟨by simp;omega,by rw[cY];simp;omega,?_⟩
  intro q2 K
  simp(disch:=omega)only[↓wr,seval,wq,bH]
  refine cx ((b.perm L6).fresh K) (by simp[aF]) (by unfold aB;simp[jG];omega) (by unfold aB;simp[jG];omega) ?_
  intro e2 cu N _
  have bx:cu id=.arr 2 (eQ (a ++ x :: B)):=((N.own 1 rfl).live (by rw[hu];rfl)).1
  simp(disch:=omega)only[↓wr,seval,wq,t1,t4,t5,t6,t7,hu,bx,D B,N.head.cells,N.head.er]
  have b0:(eQ (a ++ x :: B)).set at_ [x.1,e2]=eQ (a ++ (x.1,e2,(⟨x.2.2.bj,x.2.2.b5 ++ [⟨aU g i,to⟩]⟩:aP)) :: B):=by
   rw[<-p];simp[eQ]
  have cv:jG (x.2.2.b5 ++ [⟨aU g i,to⟩])=jG x.2.2.b5 ++ [[gi (aU g i),gi to]]:=by simp[jG,ki]
  have b1:=N.perm (.swap _ _ _)
  rw[hu] at b1
  have b2:=((b1.put (es':=eQ (a ++ (x.1,e2,(⟨x.2.2.bj,x.2.2.b5 ++ [⟨aU g i,to⟩]⟩:aP)) :: B)) (by rw[cY,cY];simp) (by rw[cY])).perm (.swap _ _ _)).perm L6.symm
  rw[<-cv] at b2
  have b7:=b2.perm (.swap _ _ _)
  rw[<-hu] at b7
  rw[b0]
  refine⟨by simp;omega,by rw[cY];simp;omega,aD hk (by omega) ⟨u2,_,?_,by rw[zq];exact b7,t1,by first | rfl | exact t4 | exact hu.symm,t5,t6,rfl⟩⟩
  rw[F,t,br];simp)
def rn:SF:=⟨ae [ab [cw 2 0,cw 3 1,bq 4 false],.region true [⟨none,[aS 5 4 2,aX 6 50 [5],aa 7 6]⟩,⟨(some (7,true)),[al 8 0 3,ak 9 8,aG 10 .geq 9 (-1)]⟩,⟨none,[eu 11 7 10,aa 12 11]⟩,⟨(some (12,true)),[al 13 0 3,ak 14 13,al 15 2 2,ak 16 15,aM 17 16,aR 18 .lss 14 17]⟩,⟨none,[eu 19 12 18,aa 20 19]⟩,⟨(some (20,true)),[al 21 1 3,ak 22 21,aG 23 .geq 22 0]⟩,⟨none,[eu 24 20 23,aa 25 24]⟩,⟨(some (25,true)),[al 26 1 3,ak 27 26,aS 28 4 2,al 29 0 3,ak 30 29,aX 31 199 [28,30],aM 32 31,aR 33 .leq 27 32]⟩,⟨none,[eu 34 25 33,aa 4 34]⟩],.ret],
 [.tmp 4],35⟩
theorem vN:aH Tryz.prog 166 [2,3]=some rn:=by kernel_rfl
def ql:SF:=⟨ae [ab [cw 2 0,cw 3 1,aN 4 0,bq 5 false],ae [ab [aS 6 4 2,aS 7 2 3,aX 8 166 [6,7],c7 9 8],ba 9 (ae [ab [aN 4 0,bq 5 false],.ret])],ab [aS 10 4 2,aS 11 2 3,aX 12 134 [10,11],du 13 0 12,du 14 1 12,aa 4 13,aa 5 14],.ret],
 [.tmp 4,.tmp 5],15⟩
theorem uW:aH Tryz.prog 100 [2,3]=some ql:=by kernel_rfl
def j4:SC :=
 ae [ae [.region false [⟨none,[aa 26 11,aa 27 0,aa 28 1,aO 29 2 27 28,al 30 1 29,ak 31 30,aM 32 31,aR 33 .lss 26 32,aa 34 33]⟩,⟨(some (34,true)),[aa 35 10,c7 36 35]⟩,⟨none,[eu 37 34 36]⟩],bX 37 (.exit 2)],.block 3 (ae [ab [aa 40 0,aa 41 1,aO 42 2 40 41,al 43 1 42,ak 44 43,aa 45 11,aO 46 2 44 45,al 47 0 46,ak 48 47,aa 49 2,aa 50 8,aO 51 1 49 50,ak 52 51,aR 53 .eql 48 52],ba 53 (ab [aa 54 0,aa 55 1,aO 56 2 54 55,al 57 1 56,ak 58 57,aa 59 11,aO 60 2 58 59,al 61 1 60,ak 62 61,aa 9 62,bq 10 true])]),ab [aa 38 11,aG 39 .add 38 1,aa 11 39]]
def oz:SC :=
 ae [ae [ab [aa 20 8,aa 21 2,aM 22 21,aR 23 .lss 20 22],bX 23 (.exit 0)],.block 1 (ae [ab [aN 9 (-1),bq 10 false],ae [ab [aN 11 0],bY 2 j4],ae [.region false [⟨none,[aa 63 9,aG 64 .lss 63 0,aa 65 64]⟩,⟨(some (65,false)),[aa 66 9,aa 67 0,aM 68 67,aR 69 .geq 66 68]⟩,⟨none,[cM 70 65 69]⟩],ba 70 (ae [ab [aN 6 0,bq 7 false],.ret])],ab [aa 71 9,aa 1 71]]),ab [aa 24 8,aG 25 .add 24 1,aa 8 25]]
def qA:SF:=⟨ae [ab [aN 6 0,bq 7 false],ae [.region false [⟨none,[aa 12 1,aG 13 .lss 12 0,aa 14 13]⟩,⟨(some (14,false)),[aa 15 1,aa 16 0,aM 17 16,aR 18 .geq 15 17]⟩,⟨none,[cM 19 14 18]⟩],ba 19 (ae [ab [aN 6 0,bq 7 false],.ret])],ae [ab [aN 8 0],bY 0 oz],ab [aa 72 1,aa 6 72,bq 7 true],.ret],
 [.tmp 6,.tmp 7],73⟩
theorem uy:aH Tryz.prog 33 []=some qA:=by kernel_rfl
instance (g:ag) (x:aE):Decidable (cq g x):=by unfold cq;infer_instance
def qq (g:ag) (x:aE):Bool:=bV g && decide (cq g x)
theorem Jo (g:ag) (x:aE):∀ v∈[V.agg (af g),.agg (bA x)],Tree v:=by
 intro v a;simp at a
 rcases a with rfl | rfl
 .exact bZ _ (cz g)
 .exact bZ _ λv a=>by simp[bA] at a;rcases a with rfl | rfl <;> exact .val _
theorem P4 (g:ag) (f:g.Ok) (x:aE) (i:bO x.ax/\bO x.dot):az Tryz.prog 166 [.agg (af g),.agg (bA x)] (gb (qq g x)):=by
 refine az.val (Jo g x) λH=>?_
 have a:=lB g f
 obtain⟨c,d⟩:=i
 unfold bO at c d
 refine av.of mixed vN ?_
 simp only[af,encS] at a
 simp(disch:=omega)only[↓wr,seval,wq,rn,af,encS,bA]
 refine aw.pure a ?_
 have bad:¬ cq g x->gb false=gb (qq g x):=λh=>by unfold qq;rw[decide_eq_false h,Bool.and_false]
 simp(disch:=omega)only[↓wr,seval,wq]
 apply ai.split<;>intro hr
 rotate_left
 .simp(disch:=omega)only[↓wr,seval,wq]
  unfold qq;rw[hr];rfl
 have e:=b4 hr
 simp(disch:=omega)only[↓wr,seval,wq,bA]
 apply ai.dec<;>intro h1
 rotate_left
 .simp(disch:=omega)only[↓wr,seval,wq]
  exact bad λh=>by have:=h.1;omega
 simp(disch:=omega)only[↓wr,seval,wq,bA,af]
 apply ai.dec<;>intro j
 rotate_left
 .simp(disch:=omega)only[↓wr,seval,wq]
  exact bad λh=>by have:=h.1;omega
 simp(disch:=omega)only[↓wr,seval,wq,bA]
 apply ai.dec<;>intro k
 rotate_left
 .simp(disch:=omega)only[↓wr,seval,wq]
  exact bad λh=>by have:=h.2;omega
 have b:=BF g (iY e) x.ax ⟨by omega,by omega⟩
 have l:=dD e (r:=x.ax) ⟨by omega,by omega⟩
 simp only[af,encS,encI] at b
 simp(disch:=omega)only[↓wr,seval,wq,bA,af,encS]
 refine aw.pure b ?_
 simp(disch:=omega)only[↓wr,seval,wq,bA]
 congr 2
 unfold qq
 rw[hr,Vt]
 congr 1
 unfold cq
 simp only[eq_iff_iff]
 omega
def Fh (g:ag) (x:aE):Int × Bool:=if qq g x=true then bw g x else (0,false)
theorem AR {g:ag} {x:aE} : qq g x=true↔bV g=true/\cq g x:=by simp[qq]
theorem MH (g:ag) (c:g.Ok) (x:aE) (d:bO x.ax/\bO x.dot):az Tryz.prog 100 [.agg (af g),.agg (bA x)] (.aY [gi (Fh g x).1,gb (Fh g x).2]):=by
 have a:=P4 g c x d
 refine az.tree (Jo g x) (xH (.val _) (.val _)) λH=>?_
 refine av.of mixed uW ?_
 simp only[af,encS,bA] at a
 simp(disch:=omega)only[↓wr,seval,wq,ql,af,encS,bA]
 refine aw.pure a ?_
 unfold Fh
 simp(disch:=omega)only[↓wr,seval,wq]
 apply ai.split<;>intro h
 .obtain⟨h1,e⟩:=AR.1 h
  have b:=Aa g (b4 h1) x e
  simp only[af,encS,bA] at b
  simp(disch:=omega)only[↓wr,seval,wq,af,encS,bA]
  refine aw.pure b ?_
  simp(disch:=omega)only[↓wr,seval,wq]
  rw[Uz h]
 .simp(disch:=omega)only[↓wr,seval,wq]
  rw[h];simp
theorem KV:∀ (l:List fe) (s:Int) (k:Nat) (e:fe),l[k]?=some e->gv (l.drop k) s=if e.sym=s then e.to else gv (l.drop (k+1)) s:=by
 intro l s k e h
 obtain⟨hk,he⟩:=UI.1 h
 rw[Vg hk,he,gv]
theorem Nq (a:List aP) (u:aL a) (he:∀ s∈a,aL s.b5/\∀ e∈s.b5,bO e.sym/\bO e.to) (fr:Int) (syms:List Int) (w:aL syms):az Tryz.prog 33 [bM a,gi fr,encI syms] (.aY [gi (mh a fr syms).1,gb (mh a fr syms).2]):=by
 unfold aL at u w
 refine az.tree (by
  intro v q;simp at q
  rcases q with rfl | rfl | rfl
  .exact lX _
  .exact .val _
  .exact bQ _) (xH (.val _) (.val _)) λH=>?_
 refine av.of mixed uy ?_
 unfold mh
 simp(disch:=omega)only[↓wr,seval,wq,qA,bM,encI]
 apply ai.dec<;>intro h1
 .simp(disch:=omega)only[↓wr,seval,wq]
  rw[Uz (by omega)]
 simp(disch:=omega)only[↓wr,seval,wq,bM]
 apply ai.dec<;>intro y
 .simp(disch:=omega)only[↓wr,seval,wq]
  rw[Uz (by omega)]
 rw[Ux (by omega)]
 simp(disch:=omega)only[↓wr,seval,wq]
 refine aV.up syms.length (λi T H'=>∃ at_:Int,0<=at_/\at_ < a.length/\iT a at_ (syms.drop i)=iT a fr syms/\T 0=bM a/\T 1=gi at_/\T 2=encI syms/\T 8=gi i) ⟨fr,by omega,by omega,rfl,rfl,rfl,rfl,rfl⟩ ?_
 rintro i k T H' hk ⟨at_,C,D,hw,t0,t1,t2,t8⟩
 simp(disch:=omega)only[↓wr,seval,wq,oz,t0,t1,t2,t8,encI]
 apply ai.dec<;>intro z
 .have r:syms[i]?=some (syms[i]'(by omega)):=Uv (by omega)
  rw[Vg (show i < syms.length by omega)] at hw
  generalize syms[i]'(by omega)=x at r hw
  have d:a[at_.toNat]?=some (a.getD at_.toNat bJ):=getD_some (by omega)
  obtain⟨f,l⟩:=he _ (UL d)
  rw[iT] at hw
  generalize a.getD at_.toNat bJ=S at d f l hw
  unfold aL at f
  simp(disch:=omega)only[↓wr,seval,wq,t0,t1,t2,t8]
  refine aV.up S.b5.length (λj T H'=>∃ (to:Int) (ok:Bool),(ok=true->to=gv S.b5 x)/\(ok=false->to = -1/\gv (S.b5.drop j) x=gv S.b5 x)/\T 0=bM a/\T 1=gi at_/\T 2=encI syms/\T 8=gi i/\T 9=gi to/\T 10=gb ok/\T 11=gi j)
   ⟨-1,false,by simp,λ_=>⟨rfl,rfl⟩,t0,t1,t2,t8,rfl,rfl,rfl⟩ ?_
  clear t0 t1 t2 t8
  rintro j k2 F G g ⟨to,ok,A,B,t0,t1,t2,t8,t9,t10,t11⟩
  cases ok with
  | true =>
   have b:=A rfl
   simp(disch:=omega)only[↓wr,seval,wq,j4,t0,t1,t2,t8,t9,t10,t11,bM,Uy,d,UH,lu,jG]
   apply ai.dec<;>intro _
   all_goals (
    simp(disch:=omega)only[↓wr,seval,wq,t0,t1,t2,t8,t9,t10,t11,bM,b]
    apply ai.dec<;>intro m
    .simp(disch:=omega)only[↓wr,seval,wq]
     rw[<-hw,Ux (by omega)]
    .simp(disch:=omega)only[↓wr,seval,wq,t0,t1,t2,t8,t9,bM,b]
     apply ai.dec<;>intro n
     .simp(disch:=omega)only[↓wr,seval,wq]
      rw[<-hw,Ux (by omega)]
     .simp(disch:=omega)only[↓wr,seval,wq,t0,t1,t2,t8,t9,b]
      rw[Uz ⟨by omega,by omega⟩] at hw
      exact aD hk (by omega) ⟨_,by omega,by omega,hw,t0,rfl,t2,rfl⟩)
  | false =>
   obtain⟨t,c⟩:=B rfl
   simp(disch:=omega)only[↓wr,seval,wq,j4,t0,t1,t2,t8,t9,t10,t11,bM,Uy,d,UH,lu,jG]
   apply ai.dec<;>intro o
   .have h:S.b5[j]?=some (S.b5[j]'(by omega)):=Uv (by omega)
    generalize S.b5[j]'(by omega)=E at h
    rw[KV _ _ _ _ h] at c
    simp(disch:=omega)only[↓wr,seval,wq,t0,t1,t2,t8,t9,t10,t11,bM,encI,Uy,d,r,UH,lu,jG,h,ki]
    apply ai.eq<;>intro p
    .rw[Uz p] at c
     simp(disch:=omega)only[↓wr,seval,wq,t0,t1,t2,t8,t9,t10,t11,bM,Uy,d,UH,lu,jG,h,ki]
     exact aD g (by omega) ⟨E.to,true,λ_=>c,by simp,t0,t1,t2,t8,rfl,rfl,rfl⟩
    .rw[Ux p] at c
     simp(disch:=omega)only[↓wr,seval,wq,t0,t1,t2,t8,t9,t10,t11]
     exact aD g (by omega) ⟨to,false,by simp,λ_=>⟨t,c⟩,t0,t1,t2,t8,t9,t10,rfl⟩
   .rw[US (by omega),gv,<-t] at c
    have b:=c
    simp(disch:=omega)only[↓wr,seval,wq,t0,t1,t2,t8,t9,t10,t11,bM,b]
    apply ai.dec<;>intro m
    .simp(disch:=omega)only[↓wr,seval,wq]
     rw[<-hw,Ux (by omega)]
    .simp(disch:=omega)only[↓wr,seval,wq,t0,t1,t2,t8,t9,bM,b]
     apply ai.dec<;>intro n
     .simp(disch:=omega)only[↓wr,seval,wq]
      rw[<-hw,Ux (by omega)]
     .simp(disch:=omega)only[↓wr,seval,wq,t0,t1,t2,t8,t9,b]
      rw[Uz ⟨by omega,by omega⟩] at hw
      exact aD hk (by omega) ⟨_,by omega,by omega,hw,t0,rfl,t2,rfl⟩
 .simp(disch:=omega)only[↓wr,seval,wq,t1]
  rw[US (by omega),iT] at hw
  rw[<-hw]
open Go Go.Proofs Go.Shelf Go.RowKit Go.Sort
theorem bK.cut {P:Program} {f:FuncId} {vs:List V} {h g:aC} {r:V} (n:bK P f vs h r g) {id sz:Nat} {es rest:List (List V)} (l:g.view id=.arr sz (es ++ rest)):bK P f vs h r (g.set id (.arr sz es)):=by
 have m:id < g.length:=ie (by rw[l];simp)
 refine⟨by simpa using n.1,λZ μ F w xs hr z p=>(n.2 Z μ F w xs hr z (by simpa using p)).mono ?_⟩
 rintro e w' ⟨x,A,μ',rfl,B,a,hex,q⟩
 refine⟨x,A,μ',rfl,B,?_,hex,by simpa using q⟩
 have t:∀ k,cat (g.set id (.arr sz es)) F k=if k=id then .arr sz es else cat g F k:=λk=>by
  simp only[cat,List.length_set]
  by_cases hk:k < g.length
  .rw[Uz hk,Uz hk,jK m];rfl
  .rw[Ux hk,Ux hk,Ux (by omega)]
 have u:cat g F id=.arr sz (es ++ rest):=by simp only[cat];rw[Uz m,l]
 refine⟨λk=>?_,λi j b o s C D v h1 E=>?_,a.lt,a.cO,a.gH⟩
 .rw[t]
  split
  .rename_i hk
   subst hk
   have d:=a.obj k
   rw[u] at d
   intro b o0 s hm
   obtain⟨G,⟨c,e,f,n,p,H⟩,I,J⟩:=d b o0 s hm
   have y:∀ i,i < es.length->(es ++ rest).getD i []=es.getD i []:=λi hi=>by
    simp[Uu,U5 hi]
   refine⟨G,⟨c,e,f,n,p,?_⟩,λi hi=>?_,λi j hi K=>?_⟩
   .rw[UY,Vd] at H;omega
   .rw[<-y i hi];exact I i (by rw[UY];omega)
   .rw[<-y i hi];exact J i j (by rw[UY];omega) K
  .exact a.obj k
 .have d:=a.inj i j b o s C D v h1 E
  rw[t,t]
  rcases d with d | d
  .left
   rw[Ux (λe=>by rw[e,u] at d;simp at d)];exact d
  .right
   rw[Ux (λe=>by rw[e,u] at d;simp at d)];exact d
theorem av.cut {P:Program} {f:FuncId} {vs:List V} {H:View} {K c:V->View->Prop} (h:av P f vs H K) (hk:∀ r H',K r H'->c r H'∨∃ id sz es rest,H' id=.arr sz (es ++ rest)/\c r (H'.set id (.arr sz es))):av P f vs H c:=by
 refine⟨h.1,λm n=>?_⟩
 obtain⟨r,d,j,l,o⟩:=h.2 m n
 rcases hk r _ o with h1 | ⟨id,sz,es,rest,a,h1⟩
 .exact⟨r,d,j,l,h1⟩
 .have b:id < d.length:=ie (by rw[a];simp)
  refine⟨r,d.set id (.arr sz es),j.cut a,λk g p=>?_,by rw[jK b];exact h1⟩
  have i:=l k g p
  rw[jK b]
  simp only[View.set]
  rw[Ux (λe=>by rw[e,a] at i;simp at i)]
  exact i
instance:Inhabited aE:=⟨⟨0,0⟩⟩
def iD (x:aE):List Value:=[.int .i64 x.ax,.int .i64 x.dot]
def oO (a b:aE):Int:=if Lib.compareInt a.ax b.ax≠0 then Lib.compareInt a.ax b.ax else Lib.compareInt a.dot b.dot
theorem Ql (a b:aE):(Lib.compareInt a.ax b.ax≠0->oO a b=Lib.compareInt a.ax b.ax)/\(Lib.compareInt a.ax b.ax=0->oO a b=Lib.compareInt a.dot b.dot):=by
 unfold oO
 exact⟨λh=>by rw[Uz h],λh=>by rw[Ux (by simp[h])]⟩
theorem sy (a b:aE):ltOf oO a b=cF a b:=by
 have d:∀ x y:Int,(x < y/\Lib.compareInt x y = -1)∨(x=y/\Lib.compareInt x y=0)∨(y < x/\Lib.compareInt x y=1):=λx y=>by
  unfold Lib.compareInt; (repeat' split) <;> omega
 rw[Vw,fH]
 simp only[ltOf,UN,oO]
 rcases d a.ax b.ax with ⟨h,e⟩ | ⟨h,e⟩ | ⟨h,e⟩ <;> rcases d a.dot b.dot with ⟨k,c⟩ | ⟨k,c⟩ | ⟨k,c⟩ <;> simp[e,c] <;> omega
theorem Lx:SWO (ltOf oO) where
 irrefl x:=by rw[sy];exact lg
 trans x y z h k:=by rw[sy] at *;exact oI h k
 ntrans x y z h k:=by
  rw[sy] at *
  cases e:cF x z with
  | false=>rfl
  | true =>
   have h1:¬ cF x y=true:=by simp[h]
   have a:¬ cF y z=true:=by simp[k]
   rw[fH] at h1 a e
   omega
def eD (l:List aE):List aE:=l.mergeSort λx y=>!cF y x
theorem Oo (l:List aE):(l.toArray.toList.mergeSort λx y=>!(ltOf oO) y x)=eD l:=by
 have e:(λx y=>!(ltOf oO) y x)=λx y=>!cF y x:=by funext x y;rw[sy]
 rw[e];rfl
theorem z6 (l:List aE):(eD l).Perm l:=List.mergeSort_perm _ _
theorem iZ (l:List aE):(eD l).length=l.length:=(z6 l).length_eq
theorem z7 (l:List aE):(eD l).Pairwise λx y=>cF y x=false:=by
 have:=List.pairwise_mergeSort (le:=λx y:aE=>!cF y x) (λa b c h k=>by
  simp only[Wd,Bool.not_eq_false'] at h k ⊢
  cases e:cF c a with
  | false=>simp
  | true =>
   have h1:¬ cF b a=true:=by simpa using h
   have d:¬ cF c b=true:=by simpa using k
   rw[fH] at h1 d e
   omega) (λa b=>by
  cases e:cF b a with
  | false=>simp
  | true=>simp[HN e]) l
 exact this.imp λh=>by simpa using h
def OW:Ren where
 f:=fun
  | 6=>190
  | 15=>246
  | 14=>245
  | 28=>282
  | 29=>283
  | 20=>274
  | 21=>275
  | 22=>276
  | 23=>277
  | 24=>278
  | 25=>279
  | 26=>280
  | 27=>281
  | 46=>291
  | 47=>292
  | 48=>293
  | 49=>294
  | 50=>295
  | 57=>307
  | n=>n
 t:=fun
  | 22=>103
  | 24=>120
  | 25=>286
  | 3=>3
  | 39=>276
  | 0=>0
  | 53=>50
  | 55=>49
  | 4=>4
  | 46=>356
  | 45=>355
  | 50=>66
  | 5=>5
  | 9=>9
  | 66=>369
  | 70=>373
  | 76=>381
  | 77=>382
  | n=>n
 g:=λn=>n
theorem Qu:Go.Proofs.SlLaysF0.n6 Tryz.prog OW where
 mixed:=by kernel_rfl
 f6:=⟨Tryz.f190.name,by kernel_rfl,by kernel_rfl⟩
 f14:=⟨Tryz.f245.name,by kernel_rfl,by kernel_rfl⟩
 f15:=by kernel_rfl
 f20:=⟨Tryz.f274.name,by kernel_rfl,by kernel_rfl⟩
 f21:=⟨Tryz.f275.name,by kernel_rfl,by kernel_rfl⟩
 f22:=⟨Tryz.f276.name,by kernel_rfl,by kernel_rfl⟩
 f23:=⟨Tryz.f277.name,by kernel_rfl,by kernel_rfl⟩
 f24:=⟨Tryz.f278.name,by kernel_rfl,by kernel_rfl⟩
 f25:=⟨Tryz.f279.name,by kernel_rfl,by kernel_rfl⟩
 f26:=⟨Tryz.f280.name,by kernel_rfl,by kernel_rfl⟩
 f27:=⟨Tryz.f281.name,by kernel_rfl,by kernel_rfl⟩
 f28:=by kernel_rfl
 f29:=by kernel_rfl
 f46:=⟨Tryz.f291.name,by kernel_rfl,by kernel_rfl⟩
 f47:=by kernel_rfl
 f48:=by kernel_rfl
 f49:=⟨Tryz.f294.name,by kernel_rfl,by kernel_rfl⟩
 f50:=⟨Tryz.f295.name,by kernel_rfl,by kernel_rfl⟩
 f57:=⟨Tryz.f307.name,by kernel_rfl,by kernel_rfl⟩
 t0:=Tryz.underlying0
 a0:=Tryz.isAgg0
 z0:=Tryz.sizeOf0
 v0:=Tryz.zeroValue0
 t3:=Tryz.underlying3
 a3:=Tryz.isAgg3
 z3:=Tryz.sizeOf3
 v3:=Tryz.zeroValue3
 t4:=Tryz.underlying4
 a4:=Tryz.isAgg4
 z4:=Tryz.sizeOf4
 v4:=Tryz.zeroValue4
 t5:=Tryz.underlying5
 a5:=Tryz.isAgg5
 z5:=Tryz.sizeOf5
 v5:=Tryz.zeroValue5
 t9:=Tryz.underlying9
 a9:=Tryz.isAgg9
 z9:=Tryz.sizeOf9
 v9:=Tryz.zeroValue9
 t22:=Tryz.underlying103
 a22:=Tryz.isAgg103
 z22:=Tryz.sizeOf103
 v22:=Tryz.zeroValue103
 t25:=Tryz.underlying286
 a25:=Tryz.isAgg286
 z25:=Tryz.sizeOf286
 v25:=Tryz.zeroValue286
 t39:=Tryz.underlying276
 a39:=Tryz.isAgg276
 z39:=Tryz.sizeOf276
 v39:=Tryz.zeroValue276
 t45:=Tryz.underlying355
 a45:=Tryz.isAgg355
 z45:=Tryz.sizeOf355
 v45:=Tryz.zeroValue355
 t46:=Tryz.underlying356
 a46:=Tryz.isAgg356
 z46:=Tryz.sizeOf356
 v46:=Tryz.zeroValue356
 t50:=Tryz.underlying66
 a50:=Tryz.isAgg66
 z50:=Tryz.sizeOf66
 v50:=Tryz.zeroValue66
 t53:=Tryz.underlying50
 a53:=Tryz.isAgg50
 z53:=Tryz.sizeOf50
 v53:=Tryz.zeroValue50
 t55:=Tryz.underlying49
 a55:=Tryz.isAgg49
 z55:=Tryz.sizeOf49
 v55:=Tryz.zeroValue49
 t66:=Tryz.underlying369
 a66:=Tryz.isAgg369
 z66:=Tryz.sizeOf369
 v66:=Tryz.zeroValue369
 t70:=Tryz.underlying373
 a70:=Tryz.isAgg373
 z70:=Tryz.sizeOf373
 v70:=Tryz.zeroValue373
 t76:=Tryz.underlying381
 a76:=Tryz.isAgg381
 z76:=Tryz.sizeOf381
 v76:=Tryz.zeroValue381
 t77:=Tryz.underlying382
 a77:=Tryz.isAgg382
 z77:=Tryz.sizeOf382
 v77:=Tryz.zeroValue382
def Qe:Ren where
 f:=fun
  | 5=>248
  | 7=>284
  | n=>n
 t:=fun
  | 22=>3
  | 3=>3
  | 4=>4
  | n=>n
 g:=λn=>n
theorem RS:Go.Proofs.SlLaysC2.n5 Tryz.prog Qe where
 mixed:=by kernel_rfl
 f5:=⟨Tryz.f248.name,by kernel_rfl,by kernel_rfl⟩
 f7:=⟨Tryz.f284.name,by kernel_rfl,by kernel_rfl⟩
 t3:=Tryz.underlying3
 a3:=Tryz.isAgg3
 z3:=Tryz.sizeOf3
 v3:=Tryz.zeroValue3
 t4:=Tryz.underlying4
 a4:=Tryz.isAgg4
 z4:=Tryz.sizeOf4
 v4:=Tryz.zeroValue4
 t22:=Tryz.underlying3
 a22:=Tryz.isAgg3
 z22:=Tryz.sizeOf3
 v22:=Tryz.zeroValue3
section
attribute [local go_sem] Oper.semAt_some
theorem HP (x y:Int) (b cap:Nat) (W:World) (h0:W.cell? ⟨b,0,none⟩=some (.int .i64 x)) (h1:W.cell? ⟨b,1,none⟩=some (.int .i64 y)) (r:Int) (hr:(x≠0->r=x)/\(x=0->r=y)) :
  Calls Tryz.prog 247 #[.slice (some ⟨b,0,none⟩) 2 cap] W λe w'=>e=.returned (.int .i64 r)/\w'=W:=by
 go_enter Tryz.func247,Tryz.ntmps247
 go_wp2
 refine wp_loop_rounds 3 ?_
 rw[rounds_succ]
 go_wp2
 .rename_i h
  go_ret
  exact⟨by rw[hr.1 (by simpa using h)];rfl,rfl⟩
 .rename_i h
  have hx:x=0:=by simpa using h
  rw[rounds_succ]
  go_wp2
  .rename_i h
   go_ret
   exact⟨by rw[hr.2 hx];rfl,rfl⟩
  .rename_i h
   rw[rounds_succ]
   go_wp2
   go_ret
   exact⟨by rw[hr.2 hx,show y=0 by simpa using h];rfl,rfl⟩
structure Tc (p:Prop):Prop where
 out:p
theorem Ic (x1 x2 y1 y2:Int) (W:World) (r:Int) (hr:(Lib.compareInt x1 y1≠0->r=Lib.compareInt x1 y1)/\(Lib.compareInt x1 y1=0->r=Lib.compareInt x2 y2)) :
  Calls Tryz.prog 191 #[.agg #[.int .i64 x1,.int .i64 x2],.agg #[.int .i64 y1,.int .i64 y2]] W λe w'=>e=.returned (.int .i64 r)/\∃ q os',w'=grow (W.drewN q) os':=by
 have hcon1:=λW'=>AnyG.cmp_Compare_int RS x1 y1 W'
 change ∀ W',Calls Tryz.prog 248 _ _ _ at hcon1
 have hcon2:=λW'=>AnyG.cmp_Compare_int RS x2 y2 W'
 change ∀ W',Calls Tryz.prog 248 _ _ _ at hcon2
 generalize Lib.compareInt x1 y1=c1 at *
 generalize Lib.compareInt x2 y2=c2 at *
 go_enter Tryz.func191,Tryz.ntmps191
 go_wp2_with (first | (go_at_call 248;refine(hcon1 _).mono ?_;rintro e w' ⟨rfl,rfl⟩)|(go_at_call 248;refine(hcon2 _).mono ?_;rintro e w' ⟨rfl,rfl⟩))
 obtain⟨b1,hb1⟩:∃ b1,b1=W.heap.size:=⟨_,rfl⟩
 obtain⟨b2,hb2⟩:∃ b2,b2=W.heap.size+1:=⟨_,rfl⟩
 rw[<-hb2,<-hb1]
 generalize hW1:(W.alloc (Obj.cells #[Value.int IntKind.i64 x1,Value.int IntKind.i64 x2] 120)).alloc (Obj.cells #[Value.int IntKind.i64 y1,Value.int IntKind.i64 y2] 120)=W1
 have hh1:W1.heap[b1]?=some (.cells #[Value.int IntKind.i64 x1,Value.int IntKind.i64 x2] 120 (0,0)):=by
  rw[<-hW1,hb1];exact(Below.heap_alloc _ _ _ (by simp)).trans (World.alloc_heap_new W _)
 have hh2:W1.heap[b2]?=some (.cells #[Value.int IntKind.i64 y1,Value.int IntKind.i64 y2] 120 (0,0)):=by
  rw[<-hW1,hb2]
  have:=World.alloc_heap_new (W.alloc (Obj.cells #[Value.int IntKind.i64 x1,Value.int IntKind.i64 x2] 120)) (Obj.cells #[Value.int IntKind.i64 y1,Value.int IntKind.i64 y2] 120)
  rwa [World.size_alloc] at this
 have k0:W1.cell? ⟨b1,0,none⟩=some (.int .i64 x1):=by unfold World.cell?;rw[hh1];rfl
 have k1:W1.cell? ⟨b1,1,none⟩=some (.int .i64 x2):=by unfold World.cell?;rw[hh1];rfl
 have k2:W1.cell? ⟨b2,0,none⟩=some (.int .i64 y1):=by unfold World.cell?;rw[hh2];rfl
 have k3:W1.cell? ⟨b2,1,none⟩=some (.int .i64 y2):=by unfold World.cell?;rw[hh2];rfl
 clear hh1 hh2
 refine wp_region_still_tail 10 (by kernel_rfl) (by kernel_rfl) ?_
 change wpStill _ _ W1.drew (λa'=>wpList _ _ _ _ a' W1.drew) _ _
 generalize hW2:W1.drew=W2
 replace k0:W2.cell? ⟨b1,0,none⟩=some (.int .i64 x1):=by rw[<-hW2];exact k0
 replace k1:W2.cell? ⟨b1,1,none⟩=some (.int .i64 x2):=by rw[<-hW2];exact k1
 replace k2:W2.cell? ⟨b2,0,none⟩=some (.int .i64 y1):=by rw[<-hW2];exact k2
 replace k3:W2.cell? ⟨b2,1,none⟩=some (.int .i64 y2):=by rw[<-hW2];exact k3
 have hgr:Tc (W2=grow (W.drewN 1) #[Obj.cells #[Value.int IntKind.i64 x1,Value.int IntKind.i64 x2] 120,Obj.cells #[Value.int IntKind.i64 y1,Value.int IntKind.i64 y2] 120]):=by
  refine⟨?_⟩
  rw[<-hW2,<-hW1,alloc_eq_grow,alloc_eq_grow,grow_grow];rfl
 clear hW1 hW2 hb1 hb2
 simp only[List.take_succ_cons,List.take_zero,List.drop_succ_cons,Vv]
 iterate 4 still_step
 still_call (hcon1 _)
 iterate 4 still_step
 still_call (hcon2 _)
 refine wpStill_nil ?_
 go_wp2_with (go_at_call 247;refine(HP c1 c2 _ _ _ ?_ ?_ r hr).mono ?_)
 .unfold World.cell?;rw[World.alloc_heap_new];rfl
 .unfold World.cell?;rw[World.alloc_heap_new];rfl
 .rintro e w' ⟨rfl,rfl⟩
  go_wp2
  go_ret
  refine⟨rfl,1,#[Obj.cells #[Value.int IntKind.i64 x1,Value.int IntKind.i64 x2] 120,Obj.cells #[Value.int IntKind.i64 y1,Value.int IntKind.i64 y2] 120,Obj.cells #[Value.int IntKind.i64 c1,Value.int IntKind.i64 c2] 3],?_⟩
  rw[hgr.out,alloc_eq_grow,grow_grow];rfl
end
theorem Hj {Z:Nat->Prop} {μ:Mu} {hp:Array Obj} {id off len esz:Nat} {x:Value} (h:ay Z μ hp (.sl id off len esz) x) :
  (len=0/\∃ a,x=.slice a 0 0)∨∃ b o0 cap,∃ c:Array Value,∃ e f,x=.slice (some ⟨b,o0+off * esz,none⟩) len cap/\μ id=some (b,o0,esz)/\len<=cap/\hp[b]?=some (.cells c e f)/\o0+(off+cap) * esz<=c.size:=by
 cases h with
 | oX _ _ _ a=>exact .inl ⟨rfl,a,rfl⟩
 | sl _ _ _ _ b o0 cap c e f h1 d g i=>exact .inr ⟨b,o0,cap,c,e,f,rfl,h1,d,g,i⟩
theorem St {Z:Nat->Prop} {μ:Mu} {hp:Array Obj} {f:FuncId} {x:Value} (h:ay Z μ hp (.fn f [] []) x):x=.func (.func f) #[] #[]:=by
 cases h with
 | fn _ _ _ a c h1 b _ _ =>
  rw[Array.eq_empty_of_size_eq_zero h1.symm,Array.eq_empty_of_size_eq_zero b.symm]
theorem Ds (w:World) (b o0 m:Nat) (d:Array aE) (os:Array Obj) {j:Nat} (a:j < w.heap.size):(sortWorldK iD 2 w b o0 m d os).heap[j]?=if b=j then (w.heap[j]?).map (onCells (putCells id o0 (flatK iD 2 d))) else w.heap[j]?:=by
 unfold sortWorldK grow putRowK putRow mapBlock
 simp only[Sort.ahead]
 rw[VB (by simpa using a),Array.getElem?_modify]
theorem Px (l:List aE) (hl:l.length < 1152921504606846976) (u:V) (H:View) (ho:aK H u 2 (aT l)):av Tryz.prog 190 [u,.fn 191 [] []] H λr H'=>r=.aY []/\(∀ id,owner u≠some id->H' id=H id)/\aK H' u 2 (aT (eD l)):=by
 refine⟨by kernel_rfl,?_⟩
 rintro h rfl
 have eg:∀ args w,(callFunc 191 args).run Tryz.prog w=.ok (.enter 191 args) w:=enters_of Tryz.func191 (by kernel_rfl) rfl
 by_cases I:l=[]
 .subst I
  refine⟨.aY [],h,⟨UF _,λZ μ F w xs s hr M=>?_⟩,.refl _,rfl,λ_ _=>rfl,by simpa [eD] using ho⟩
  obtain⟨hlen,N⟩:=s
  obtain⟨x,y,rfl⟩:∃ x y,xs=[x,y]:=by
   match xs,hlen with
   | [x,y],_=>exact⟨x,y,rfl⟩
  have h0:ay Z μ w.heap u x:=N 0 (by simp)
  obtain⟨p,cap,rfl⟩:∃ p cap,x=.slice p 0 cap:=by
   rcases ho with ⟨_,k,rfl⟩ | ⟨n,rfl,_⟩
   .cases h0 with | emp _ a _ _=>exact⟨a,0,rfl⟩
   .rcases Hj h0 with ⟨_,a,e⟩ | ⟨b,o0,cap,c,e,f,e2,_⟩
    .exact⟨a,0,e⟩
    .exact⟨_,cap,e2⟩
  refine(AnyF.slices_SortFunc_none Qu p cap y w).mono ?_
  rintro e w' ⟨rfl,rfl⟩
  exact⟨.tuple #[],Z,μ,rfl,.aY [] #[] rfl (λi hi=>by simp at hi),hr,Ext.refl _ _ _ _,λ_ _=>rfl⟩
 have S:0 < l.length:=Wg.2 I
 obtain⟨n,rfl,hn⟩:=ho.sl (by rw[bE];exact S)
 rw[bE]
 have t:n < h.length:=ie (by rw[hn];simp)
 refine⟨.aY [],h.set n (.arr 2 (aT (eD l))),⟨by simp,λZ μ F w xs s hr M=>?_⟩,λk hk hd=>?_,rfl,λid ar=>?_,?_⟩
 rotate_left
 .rw[jK t]
  simp only[View.set]
  rw[Ux (λe=>by rw[e,hn] at hd;simp at hd)];exact hd
 .rw[jK t]
  simp only[View.set]
  rw[Ux (λe=>ar (by rw[e];rfl))]
 .refine .inr ⟨n,by rw[bE,iZ],?_⟩
  rw[jK t];simp[View.set]
 obtain⟨hlen,N⟩:=s
 obtain⟨x,y,rfl⟩:∃ x y,xs=[x,y]:=by
  match xs,hlen with
  | [x,y],_=>exact⟨x,y,rfl⟩
 have h0:ay Z μ w.heap (.sl n 0 l.length 2) x:=N 0 (by simp)
 have h1:ay Z μ w.heap (.fn 191 [] []) y:=N 1 (by simp)
 have hy:=St h1
 subst hy
 rcases Hj h0 with ⟨e,_⟩ | ⟨b,o0,cap,c0,e0,f0,rfl,E,a7,_,_⟩
 .omega
 rw[Nat.zero_mul,V5]
 have J:cat h F n=.arr 2 (aT l):=by simp only[cat];rw[Uz t,hn]
 have T:=hr.obj n
 rw[J] at T
 obtain⟨_,⟨c,ty,fz,hc,U,W⟩,hq,z⟩:=T b o0 2 E
 rw[bE] at W hq z
 have O:b < w.heap.size:=hr.lt _ _ _ _ E
 have P:∀ (m:List aE) (i:Nat) (hi:i < m.length),(aT m).getD i []=bA m[i]:=λm i hi=>by simp[aT,Uu,hi]
 have hH:HoldsK iD 2 w b o0 l.toArray:=by
  intro j D
  rw[size_flatK] at D
  have a8:j < l.length * 2:=by simpa using D
  have hi:j / 2 < l.length:=by omega
  obtain⟨x,hx,d⟩:=z (j / 2) (j % 2) hi (by omega)
  rw[show o0+j / 2 * 2+j % 2=o0+j by omega] at hx
  have a1:x=(flatK iD 2 l.toArray)[j]!:=by
   rw[get_flatK _ _ _ _ D]
   rw[P l _ hi] at d
   have e1:l.toArray[j / 2]! = l[j / 2]:=by simp[hi]
   rw[e1]
   rcases UZ (j % 2) 1 with X | X
   .rw[show j % 2=0 by omega] at d ⊢
    simp only[bA,Vx] at d
    cases d;rfl
   .rw[show j % 2=1 by omega] at d ⊢
    simp only[bA,V3,Vx] at d
    cases d;rfl
  refine⟨by rw[mR,hx,a1];rfl,?_⟩
  simp only[World.frozen?,hc]
  rcases U with e | e
  .simp only[e,Bool.and_eq_false_iff,Vz];omega
  .simp only[Bool.and_eq_false_iff,Vz];omega
 have hT:∀ x y,(ltOf oO) x y=false->(ltOf oO) y x=false->x=y:=λx y h1 X=>by
  rw[sy] at h1 X
  exact Decidable.byContradiction λA=>by rw[vQ h1 A] at X;simp at X
 have K:=AnyQ.slices_SortFunc_total Qu 2 Tryz.isAgg120 Tryz.sizeOf120 iD (λ_=>rfl) (λx v N=>by simp[iD] at N;rcases N with rfl | rfl <;> rfl) oO Lx 191 #[] b o0 cap l.toArray w eg (λ_ _ _ _ x y=>Ic x.ax x.dot y.ax y.dot _ _ (Ql x y)) hH O (by simp;omega) hT
 rw[Oo] at K
 refine Calls.mono (show Calls Tryz.prog 190 _ w _ from K) ?_
 rintro e w' ⟨rfl,m,os,rfl⟩
 have Y:=iZ l
 have g:=λ{j:Nat} (D:j < w.heap.size)=>Ds w b o0 m (eD l).toArray os D
 have G:HoldsK iD 2 (sortWorldK iD 2 w b o0 m (eD l).toArray os) b o0 (eD l).toArray:=SWK.holds ⟨m,os,rfl⟩ O hH (by simp[Y])
 have B:w.heap.size<=(sortWorldK iD 2 w b o0 m (eD l).toArray os).heap.size:=SWK.le (dk:=(eD l).toArray) ⟨m,os,rfl⟩
 have Q:eO w (sortWorldK iD 2 w b o0 m (eD l).toArray os):=⟨rfl,rfl,rfl,B⟩
 generalize sortWorldK iD 2 w b o0 m (eD l).toArray os=w' at *
 have an:w'.heap[b]?=some (.cells (putCells id o0 (flatK iD 2 (eD l).toArray) c) ty fz):=by
  rw[g O,Uz rfl,hc];rfl
 have L:mn Z μ μ w.heap w'.heap h.length (.fi n (.arr 2 (aT (eD l)))):=by
  refine⟨b,o0,2,E,rfl,λj D A=>by rw[g D,Ux (λe=>A e.symm)],λj cc ee ff C=>?_,?_⟩
  .have a6:j < w.heap.size:=by
    rcases UZ j w.heap.size with q | q
    .exact q
    .simp[VF q] at C
   by_cases e:b=j
   .subst e
    rw[hc] at C
    simp only[Uw,Obj.cells.injEq] at C
    obtain⟨rfl,rfl,rfl⟩:=C
    exact⟨_,_,an,by simp[putCells]⟩
   .exact⟨cc,ff,by rw[g a6,Ux e];exact C,rfl⟩
  .intro b1 o1 s1 h1
   rw[E] at h1
   simp only[Uw,UA] at h1
   obtain⟨rfl,rfl,rfl⟩:=h1
   refine⟨rfl,⟨_,ty,fz,an,?_,?_⟩,λi hi=>?_,λi j hi D=>?_⟩
   .simpa [putCells] using U
   .rw[bE,Y];simpa [putCells] using W
   .rw[bE] at hi;rw[P _ i hi];rfl
   .rw[bE] at hi
    have:=(G.cell (i:=i) (c:=j) (by simpa using hi) D).1
    rw[mR] at this
    refine⟨_,this,?_⟩
    rw[P _ i hi]
    have e1:(eD l).toArray[i]! = (eD l)[i]:=by simp[hi]
    rw[e1]
    match j,D with
    | 0,_=>exact .val _ rfl
    | 1,_=>exact .val _ rfl
 have A:cat h F n≠.dead:=by rw[J];simp
 have R:=hr.eff (n:=h.length) (eff:=.fi n (.arr 2 (aT (eD l)))) (by trivial) B L (λid o e=>by cases e;exact A) (λid o e=>by cases e)
 obtain⟨aq,bd⟩:=L.ext Q (by trivial) hr.cO hr.gH
 refine⟨.tuple #[],Z,μ,rfl,.aY [] #[] rfl (λi hi=>by simp at hi),?_,aq,λ_ _=>rfl⟩
 have ev:cat (h.set n (.arr 2 (aT (eD l)))) F=bp.view (cat h F) h.length (.fi n (.arr 2 (aT (eD l)))):=by
  funext k
  simp only[cat,bp.view,View.set,List.length_set]
  by_cases hk:k < h.length
  .rw[Uz hk,Uz hk,jK t];rfl
  .rw[Ux hk,Ux hk,Ux (by omega)]
 rw[ev]
 exact R
abbrev gO:aE:=⟨0,0⟩
def fw (l:List aE):Nat->List aE
 | 0=>[]
 | n+1=>if n=0∨l.getD n gO≠l.getD (n - 1) gO then fw l n ++ [l.getD n gO] else fw l n
theorem x8 (l:List aE):∀ n,n<=l.length->(∀ j,0 < j->j < n->l.getD j gO≠l.getD (j - 1) gO)->fw l n=l.take n
 | 0,_,_=>by simp[fw]
 | n+1,c,h=>by
  have a:=x8 l n (by omega) λj h1 d=>h j h1 (by omega)
  have b:l[n]?=some (l.getD n gO):=getD_some (by omega)
  rw[fw,Uz,a,UW,b]
  .rfl
  .by_cases e:n=0
   .exact .inl e
   .exact .inr (h n (by omega) (by omega))
def zm (l:List aE):List aE:=fw (eD l) l.length
theorem wP {l:List aE} (hp:l.Pairwise λx y=>cF y x=false):∀ n,n<=l.length->cb (fw l n)/\(∀ x,x∈fw l n↔∃ i,i < n/\l.getD i gO=x)
 | 0,_=>by simp[fw,cb]
 | n+1,r=>by
  obtain⟨h1,f⟩:=wP hp n (by omega)
  have d:∀ i j,i < j->j < l.length->cF (l.getD j gO) (l.getD i gO)=false:=λi j g k=>by
   have:=List.pairwise_iff_getElem.1 hp i j (by omega) k g
   simpa [Uu,Uv k,Uv (show i < l.length by omega)] using this
  rw[fw]
  split
  .rename_i c
   refine⟨?_,λx=>?_⟩
   .rw[cb,List.pairwise_append]
    refine⟨h1,by simp,λa p b m=>?_⟩
    rw[Vq] at m;subst m
    obtain⟨i,hi,rfl⟩:=(f a).1 p
    have c:l.getD n gO≠l.getD (n - 1) gO:=c.resolve_left (by omega)
    have o:=vQ (d (n - 1) n (by omega) (by omega)) c
    rcases UZ i (n - 1) with h | h
    .have k2:=d i (n - 1) h (by omega)
     have q:¬ cF (l.getD (n - 1) gO) (l.getD i gO)=true:=by rw[k2];simp
     rw[fH] at o q ⊢
     omega
    .have:i=n - 1:=by omega
     subst this;exact o
   .rw[UR,f,Vq]
    constructor
    .rintro (⟨i,hi,e⟩ | e)
     .exact⟨i,by omega,e⟩
     .exact⟨n,by omega,e.symm⟩
    .rintro⟨i,hi,e⟩
     rcases UZ i n with h | h
     .exact .inl ⟨i,h,e⟩
     .have:i=n:=by omega
      subst this;exact .inr e.symm
  .rename_i c
   simp only[not_or,Decidable.not_not] at c
   refine⟨h1,λx=>?_⟩
   rw[f]
   constructor
   .rintro⟨i,hi,e⟩;exact⟨i,by omega,e⟩
   .rintro⟨i,hi,e⟩
    rcases UZ i n with h | h
    .exact⟨i,h,e⟩
    .have:i=n:=by omega
     subst this
     exact⟨i - 1,by omega,by rw[<-c.2];exact e⟩
theorem Bt (l:List aE):cb (zm l):=(wP (z7 l) _ (by rw[iZ];exact UF _)).1
theorem qG {l:List aE} {x:aE} : x∈zm l↔x∈l:=by
 rw[zm,(wP (z7 l) _ (by rw[iZ];exact UF _)).2,<-(z6 l).mem_iff,VQ]
 constructor
 .rintro⟨i,hi,e⟩
  have a:i < (eD l).length:=by rw[iZ];exact hi
  exact⟨i,a,by rw[Uu,Uv a] at e;exact e⟩
 .rintro⟨i,hi,e⟩
  exact⟨i,by rw[iZ] at hi;exact hi,by rw[Uu,Uv hi];exact e⟩
theorem Kn {l:List aE} (h:cb l):zm l=l:=yf (Bt l) h λ_=>qG
def my (g:ag) (s:Int):Int:=if s < 0 then (g.au.length:Int) - 1 - s else s
theorem vI (g:ag) (k:Nat):my g (aU g k)=k:=by
 unfold my aU;split <;> split <;> omega
theorem He {g:ag} {s:Int} (h1:s < g.au.length):0<=my g s/\aU g (my g s).toNat=s:=by
 unfold my aU;split
 .rw[Ux (by omega)];omega
 .rw[Uz (by omega)];omega
theorem IT {g:ag} {s:Int} (h:dI g s=true):s < g.au.length/\my g s < g.au.length+g.aj.length:=by
 unfold dI at h
 unfold my
 by_cases a:0<=s
 .rw[Uz a] at h
  rw[Ux (by omega)]
  simp at h
  omega
 .rw[Ux a] at h
  rw[Uz (by omega)]
  simp at h
  omega
def fS (l:List aE):List UInt8:=l.flatMap λx=>[UInt8.ofNat (x.ax+1).toNat,UInt8.ofNat x.dot.toNat]
theorem Mt {a b:Nat} (c:a < 256) (d:b < 256) (h:UInt8.ofNat a=UInt8.ofNat b):a=b:=by
 have:=congrArg UInt8.toNat h
 simp at this
 omega
theorem Hf {g:ag} (c:g.cX):∀ {a b:List aE},(∀ x∈a,cq g x)->(∀ x∈b,cq g x)->fS a=fS b->a=b
 | [],[],_,_,_=>rfl
 | [],y :: b,_,_,h=>by simp[fS] at h
 | x :: a,[],_,_,h=>by simp[fS] at h
 | x :: a,y :: b,i,j,h=>by
  simp only[fS,List.flatMap_cons,Va,Vk,List.cons.injEq] at h
  obtain⟨h1,k,l⟩:=h
  have d:=i x (by simp)
  have e:=j y (by simp)
  have hr:=c.rules
  have q:=dD c d.1
  have r:=dD c e.1
  have:=d.1;have:=d.2;have:=e.1;have:=e.2
  have s:=Mt (by omega) (by omega) h1
  have k2:=Mt (by omega) (by omega) k
  have t:=Hf c (λz f=>i z (by simp[f])) (λz f=>j z (by simp[f])) l
  obtain⟨m,n⟩:=x
  obtain⟨o,p⟩:=y
  simp only at *
  have:m=o:=by omega
  have:n=p:=by omega
  subst_vars;rfl
structure jW (g:ag) (a:List aP):Prop where
 first:(a.getD 0 bJ).bj=[⟨-1,0⟩]
 xO:∀ s∈a,∀ e∈s.b5,(a.getD e.to.toNat bJ).bj=bh g (cK g s.bj) e.sym
theorem k7 (l:List aP) (i:Nat) (c:fe) (j:Nat):((l.modify i λx=>(⟨x.bj,x.b5 ++ [c]⟩:aP)).getD j bJ).bj=(l.getD j bJ).bj:=by
 simp only[Uu,List.getElem?_modify]
 cases l[j]? with
 | none=>rfl
 | some x =>
  by_cases e:i=j
  .subst e;simp
  .simp[e]
theorem jW.put {g:ag} {out:List aP} (h:jW g out) {at_:Nat} {s to:Int} (c:(out.getD to.toNat bJ).bj=bh g (cK g (out.getD at_ bJ).bj) s):jW g (out.modify at_ λx=>(⟨x.bj,x.b5 ++ [⟨s,to⟩]⟩:aP)):=by
 refine⟨by rw[k7];exact h.first,λy a e he=>?_⟩
 rw[k7]
 rcases mem_modify a with a | ⟨x,b,rfl⟩
 .exact h.xO y a e he
 .rcases UR.1 he with he | he
  .exact h.xO x (UL b) e he
  .simp at he;subst he
   rw[c,Uu,b];rfl
theorem jW.add {g:ag} {out:List aP} (h:jW g out) (h1:1<=out.length) (c:∀ s∈out,∀ e∈s.b5,0<=e.to/\e.to < out.length) (k:List aE):jW g (out ++ [⟨k,[]⟩]):=by
 have b:∀ j:Nat,j < out.length->((out ++ [(⟨k,[]⟩:aP)]).getD j bJ)=out.getD j bJ:=λj d=>by
  simp[Uu,U5 d]
 refine⟨by rw[b 0 (by omega)];exact h.first,λy a e he=>?_⟩
 rcases UR.1 a with a | a
 .have:=c y a e he
  rw[b _ (by omega)];exact h.xO y a e he
 .simp at a;subst a;simp at he
theorem Og (g:ag) (l:List aE) (at_:Nat) (out:List aP) (i:Nat) {j:Nat} (a:j < out.length):((cU g l at_ out i).getD j bJ).bj=(out.getD j bJ).bj:=by
 unfold cU
 split
 .rfl
 .split
  .rw[k7]
   simp[Uu,U5 a]
  .rw[k7]
theorem jW.step {g:ag} {l:List aE} {at_ i:Nat} {out:List aP} (h:jW g out) (hi:dH g at_ i out) (c:at_ < out.length) (a:cK g (out.getD at_ bJ).bj=l):jW g (cU g l at_ out i):=by
 unfold cU
 split
 .exact h
 .split
  .refine(h.add (by omega) hi.to _).put ?_
   rw[U8]
   have d:((out ++ [(⟨bh g l (aU g i),[]⟩:aP)]).getD out.length bJ).bj=bh g l (aU g i):=by
    simp[Uu]
   have e:(out ++ [(⟨bh g l (aU g i),[]⟩:aP)]).getD at_ bJ=out.getD at_ bJ:=by
    simp[Uu,U5 c]
   rw[d,e,a]
  .rename_i j
   refine h.put ?_
   obtain⟨n,b⟩:∃ n:Nat,findD out (bh g l (aU g i))=n:=⟨(findD out (bh g l (aU g i))).toNat,by omega⟩
   obtain⟨s,h1,f⟩:=FB _ _ _ b
   rw[b,U8,Uu,h1,a]
   exact f
theorem jW.row {g:ag} (a:g.cX) {at_:Nat} {out:List aP} (h:jW g out) (hi:dH g at_ 0 out) (b:at_ < out.length):∀ n:Nat,n<=40->jW g ((List.range n).foldl (cU g (cK g (out.getD at_ bJ).bj) at_) out)/\(((List.range n).foldl (cU g (cK g (out.getD at_ bJ).bj) at_) out).getD at_ bJ).bj=(out.getD at_ bJ).bj
 | 0,_=>⟨h,rfl⟩
 | n+1,d=>by
  obtain⟨h1,c⟩:=jW.row a h hi b n (by omega)
  obtain⟨i1,i2,i3⟩:=dH.row (hi.lO a b).1 (hi.lO a b).2 hi n (by omega)
  rw[V1,VT]
  simp only[Vf,Wi]
  refine⟨h1.step i1 (by omega) (by rw[c]),?_⟩
  rw[Og _ _ _ _ _ (by omega),c]
theorem AU {g:ag} (a:g.cX):∀ (f at_:Nat) (out:List aP),dH g at_ 0 out->jW g out->(eZ g f at_ out).2=0->jW g (eZ g f at_ out).1
 | 0,_,out,_,h,_=>h
 | f+1,at_,out,hi,h,b=>by
  rw[eZ] at b ⊢
  split
  .rename_i c
   rw[Uz c] at b
   have hr:=dH.row (hi.lO a c).1 (hi.lO a c).2 hi (g.au.length+g.aj.length) (by have:=a.au;have:=a.aj;omega)
   have he:=h.row a hi c (g.au.length+g.aj.length) (by have:=a.au;have:=a.aj;omega)
   rw[show (List.range (g.au.length+g.aj.length)).foldl (cU g (cK g (out.getD at_ bJ).bj) at_) out=tS g at_ out (g.au.length+g.aj.length) from rfl] at hr he
   split
   .rename_i d;rw[Uz d] at b;simp at b
   .rename_i d
    rw[Ux d] at b
    exact AU a f (at_+1) _ hr.1.next he.1 b
  .exact h
theorem KO {g:ag} (b:g.cX) (h:(bS g).2=0):jW g (bS g).1:=by
 unfold bS at h ⊢
 split
 .rename_i hr
  rw[Uz hr] at h
  exact AU b 302 0 dM kW ⟨rfl,λs a e he=>by simp[dM] at a;subst a;simp at he⟩ h
 .rename_i hr
  rw[Ux hr] at h
  simp at h
theorem Kd {a:List aP} {i:Nat} {e:fe} (h:e∈(a.getD i bJ).b5):i < a.length/\a.getD i bJ∈a:=by
 rcases UZ i a.length with hi | hi
 .exact⟨hi,UL (getD_some hi)⟩
 .rw[Uu,U6 hi] at h;simp at h
def kx (g:ag) (l:List aE) (n:Nat):List Int:=((List.range n).filter λi=>decide (bh g l (aU g i)≠[])).map λ(i:Nat)=>aU g i
theorem BR (g:ag) (l:List aE) (n:Nat):kx g l (n+1)=if bh g l (aU g n)=[] then kx g l n else kx g l n ++ [aU g n]:=by
 unfold kx
 rw[V1,Wa,UT]
 by_cases h:bh g l (aU g n)=[]
 .rw[Uz h];simp[h]
 .rw[Ux h];simp[h]
structure mE (g:ag) (at_ i:Nat) (out:List aP):Prop where
 one:(out.map aP.bj).Nodup
 back:∀ j:Nat,0 < j->j < out.length->∃ (i:Nat) (e:fe),i < j/\e∈(out.getD i bJ).b5/\e.to=j
 done:∀ j:Nat,j < at_->j < out.length->(out.getD j bJ).b5.map fe.sym=kx g (cK g (out.getD j bJ).bj) (g.au.length+g.aj.length)
 here:at_ < out.length->(out.getD at_ bJ).b5.map fe.sym=kx g (cK g (out.getD at_ bJ).bj) i
theorem rr (l:List aP) (i:Nat) (c:fe) (j:Nat) (hi:i < l.length):((l.modify i λx=>(⟨x.bj,x.b5 ++ [c]⟩:aP)).getD j bJ).b5=if i=j then (l.getD j bJ).b5 ++ [c] else (l.getD j bJ).b5:=by
 simp only[Uu,List.getElem?_modify]
 by_cases e:i=j
 .subst e;simp[hi]
 .cases l[j]? with
  | none=>simp[e]
  | some x=>simp[e]
theorem C8 (l:List aP) (i:Nat) (c:fe):(l.modify i λx=>(⟨x.bj,x.b5 ++ [c]⟩:aP)).map aP.bj=l.map aP.bj:=by
 apply List.ext_getElem?
 intro j
 simp only[Uy,List.getElem?_modify]
 cases l[j]? with
 | none=>rfl
 | some x=>by_cases e:i=j <;> simp[e]
theorem mE.put {g:ag} {at_ i:Nat} {out:List aP} {to:Int} (b:at_ < out.length) (h1:(out.map aP.bj).Nodup) (h:∀ j:Nat,0 < j->j < out.length->(∃ (i:Nat) (e:fe),i < j/\e∈(out.getD i bJ).b5/\e.to=j)∨(at_ < j/\to=j))
  (l:∀ j:Nat,j < at_->j < out.length->(out.getD j bJ).b5.map fe.sym=kx g (cK g (out.getD j bJ).bj) (g.au.length+g.aj.length)) (m:(out.getD at_ bJ).b5.map fe.sym=kx g (cK g (out.getD at_ bJ).bj) i)
  (c:bh g (cK g (out.getD at_ bJ).bj) (aU g i)≠[]):mE g at_ (i+1) (out.modify at_ λx=>(⟨x.bj,x.b5 ++ [⟨aU g i,to⟩]⟩:aP)):=by
 refine⟨by rw[C8];exact h1,λj d a=>?_,λj d a=>?_,λ_=>?_⟩
 .rw[List.length_modify] at a
  rcases h j d a with ⟨k,e,f,a2,a3⟩ | ⟨f,a2⟩
  .refine⟨k,e,f,?_,a3⟩
   rw[rr _ _ _ _ b]
   split
   .exact List.mem_append_left _ a2
   .exact a2
  .refine⟨at_,⟨aU g i,to⟩,f,?_,a2⟩
   rw[rr _ _ _ _ b,Uz rfl]
   simp
 .rw[List.length_modify] at a
  rw[rr _ _ _ _ b,Ux (by omega),k7]
  exact l j d a
 .rw[rr _ _ _ _ b,Uz rfl,k7,UT,m,BR,Ux c];rfl
theorem mE.step {g:ag} {at_ i:Nat} {out:List aP} (h:mE g at_ i out) (d:at_ < out.length):mE g at_ (i+1) (cU g (cK g (out.getD at_ bJ).bj) at_ out i):=by
 unfold cU
 split
 .rename_i hm
  exact⟨h.one,h.back,h.done,λ_=>by rw[BR,Uz hm];exact h.here d⟩
 .rename_i hm
  split
  .rename_i n
   have f:∀ j:Nat,j < out.length->((out ++ [(⟨bh g (cK g (out.getD at_ bJ).bj) (aU g i),[]⟩:aP)]).getD j bJ)=out.getD j bJ:=λj c=>by
    simp[Uu,U5 c]
   refine mE.put (by simp;omega) ?_ (λj c l=>?_) (λj c l=>?_) ?_ ?_
   .rw[UT,VK]
    refine⟨h.one,by simp,λa o b m=>?_⟩
    obtain⟨s,p,rfl⟩:=U0.1 o
    simp at m;subst m
    exact GO _ _ n s p
   .rcases UZ j out.length with q | q
    .obtain⟨k,e,r,a2,a3⟩:=h.back j c q
     exact .inl ⟨k,e,r,by rw[f k (by omega)];exact a2,a3⟩
    .right
     simp at l
     exact⟨by omega,by omega⟩
   .rw[f j (by omega)];exact h.done j c (by omega)
   .rw[f at_ d];exact h.here d
   .rw[f at_ d];exact hm
  .exact mE.put d h.one (λj c l=>.inl (h.back j c l)) h.done (h.here d) hm
theorem mE.row {g:ag} (a:g.cX) {at_:Nat} {out:List aP} (h:mE g at_ 0 out) (hi:dH g at_ 0 out) (he:jW g out) (b:at_ < out.length):∀ n:Nat,n<=40->mE g at_ n ((List.range n).foldl (cU g (cK g (out.getD at_ bJ).bj) at_) out)
 | 0,_=>h
 | n+1,d=>by
  have h1:=mE.row a h hi he b n (by omega)
  obtain⟨i1,i2,i3⟩:=dH.row (hi.lO a b).1 (hi.lO a b).2 hi n (by omega)
  obtain⟨e,c⟩:=he.row a hi b n (by omega)
  rw[V1,VT]
  simp only[Vf,Wi]
  have:=h1.step (by omega)
  rw[c] at this
  exact this
theorem mE.next {g:ag} {at_:Nat} {out:List aP} (h:mE g at_ (g.au.length+g.aj.length) out) (hi:dH g at_ (g.au.length+g.aj.length) out):mE g (at_+1) 0 out:=by
 refine⟨h.one,h.back,λj b a=>?_,λa=>?_⟩
 .rcases UZ j at_ with q | q
  .exact h.done j q a
  .have:j=at_:=by omega
   subst this
   exact h.here a
 .have:=(hi.b5 (at_+1) _ (getD_some (d:=bJ) a)).2.2 (by omega)
  rw[this];simp[kx]
structure PI (g:ag) (a:List aP):Prop where
 one:(a.map aP.bj).Nodup
 back:∀ j:Nat,0 < j->j < a.length->∃ (i:Nat) (e:fe),i < j/\e∈(a.getD i bJ).b5/\e.to=j
 all:∀ s∈a,s.b5.map fe.sym=kx g (cK g s.bj) (g.au.length+g.aj.length)
theorem B8 {g:ag} (a:g.cX):∀ (f at_:Nat) (out:List aP),302<=f+at_->dH g at_ 0 out->jW g out->mE g at_ 0 out->out.length<=300->(eZ g f at_ out).2=0->PI g (eZ g f at_ out).1
 | 0,at_,out,n,_,_,h,o,_=>⟨h.one,h.back,λs d=>by
   change s∈out at d
   obtain⟨j,i,e⟩:=VQ.1 d
   have:=h.done j (by omega) i
   rwa [show out.getD j bJ=s by rw[Uu,Uv i];exact e] at this⟩
 | f+1,at_,out,n,hi,he,h,o,b=>by
  have p:=a.au
  have q:=a.aj
  rw[eZ] at b ⊢
  split
  .rename_i c
   rw[Uz c] at b
   have hr:=dH.row (hi.lO a c).1 (hi.lO a c).2 hi (g.au.length+g.aj.length) (by omega)
   have l:=he.row a hi c (g.au.length+g.aj.length) (by omega)
   have m:=h.row a hi he c (g.au.length+g.aj.length) (by omega)
   rw[show (List.range (g.au.length+g.aj.length)).foldl (cU g (cK g (out.getD at_ bJ).bj) at_) out=tS g at_ out (g.au.length+g.aj.length) from rfl] at hr l m
   split
   .rename_i k;rw[Uz k] at b;simp at b
   .rename_i k
    rw[Ux k] at b
    exact B8 a f (at_+1) _ (by omega) hr.1.next l.1 (m.next hr.1) (by omega) b
  .rename_i c
   exact⟨h.one,h.back,λs d=>by
    change s∈out at d
    obtain⟨j,i,e⟩:=VQ.1 d
    have:=h.done j (by omega) i
    rwa [show out.getD j bJ=s by rw[Uu,Uv i];exact e] at this⟩
theorem Lg {g:ag} (b:g.cX) (h:(bS g).2=0):PI g (bS g).1:=by
 unfold bS at h ⊢
 split
 .rename_i hr
  rw[Uz hr] at h
  refine B8 b 302 0 dM (by omega) kW ⟨rfl,λs a e he=>by simp[dM] at a;subst a;simp at he⟩ ⟨by simp[dM],λj h1 c=>by simp[dM] at c;omega,λj h1=>by omega,λ_=>?_⟩ (by simp[dM]) h
  simp[dM,kx]
 .rename_i hr
  rw[Ux hr] at h
  simp at h
theorem EO (g:ag):∀ (f at_:Nat) (out:List aP),(eZ g f at_ out).2=0∨eZ g f at_ out=([],5)
 | 0,_,_=>.inl rfl
 | f+1,at_,out=>by
  rw[eZ]
  split
  .split
   .exact .inr rfl
   .exact EO g f _ _
  .exact .inl rfl
theorem Mk (g:ag):((bS g).2=0/\isRed g=true)∨(bS g=([],5)/\isRed g=true)∨(bS g=([],1)/\isRed g=false):=by
 unfold bS
 cases h:isRed g with
 | false=>exact .inr (.inr ⟨by simp,rfl⟩)
 | true =>
  rw[Uz rfl]
  rcases EO g 302 0 dM with h | h
  .exact .inl ⟨h,rfl⟩
  .exact .inr (.inl ⟨h,rfl⟩)
theorem sg {g:ag} (a:g.cX) {x:aE} (c:cq g x) {s:Int} (h:bw g x=(s,true)):dI g s=true:=by
 obtain⟨h1,d⟩:=ui h
 have b:x.dot.toNat < (bG g x.ax).length:=by have:=c.2;omega
 have hm:s∈bG g x.ax:=by
  rw[<-d,Uu,Uv b];exact UC _
 unfold bG at hm
 split at hm
 .simp at hm;subst hm
  have:=a.oh;have:=a.start
  unfold dI
  rw[Ux (by omega)]
  simp;omega
 .have e:g.rules[x.ax.toNat]?=some (bN g x.ax):=by unfold bN;exact getD_some (by have:=c.1;omega)
  exact a.sym _ (UL e) s hm
end Gv
