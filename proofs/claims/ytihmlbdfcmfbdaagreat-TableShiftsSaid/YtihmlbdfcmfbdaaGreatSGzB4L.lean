/-
  Part 12 of the proof: what the machine does and what the functions answer.
  Conditions: those that each lemma names.
-/
import Derived.Test.YtihmlbdfcmfbdaaGreatSGzB4K
set_option linter.unusedSimpArgs false
set_option linter.unusedVariables false
set_option maxRecDepth 100000
set_option maxHeartbeats 20000000
namespace Gv
open Go Go.Proofs
theorem xx {g:ag} (a:g.dD) : -100≤g.start∧g.start≤100:=by
 have:=a.kA; have:=a.start; have:=a.ak; omega
theorem HE (g:ag) (b:g.dD) (x:aD) (a:cU g x):aA Tryz.prog 51 [.agg (ai g),.agg (cr x)] (.bp [gi (bK g x).1,gb (bK g x).2]) :=
 Ov g (xx b) x a.1 a.2 (by have:=gP b a.1; omega)
theorem rR {l:List aD} {i:Nat} {y:aD} (h:l[i]?=some y):(aT l).getD i []=[gi y.ax,gi y.dot]:=by simp[aT,Xb,h,cr]
theorem bM (l:List aD):(aT l).length=l.length:=by simp[aT]
theorem xj {g:ag} {x:aD} {s:Int} {b:Bool} (c:g.dD) (e:cU g x) (h:bK g x=(s,b)) : -1000≤s∧s≤1000:=by
 have a:∀ s∈aK g x.ax,-1000≤s∧s≤1000:=by
  intro s hs
  unfold aK at hs
  split at hs
  ·simp at hs; subst hs; have:=xx c; omega
  ·have f:g.rules[x.ax.toNat]?=some (av g x.ax):=by unfold av; exact getD_some (by have:=e.1; omega)
   have h1:=c.sym _ (Xi f) s hs
   have:=c.af; have:=c.ak
   unfold gu at h1
   split at h1 <;> simp at h1 <;> omega
 unfold bK at h
 split at h
 ·simp at h; omega
 ·rename_i hd
  simp only[Xh] at h
  have d:x.dot.toNat < (aK g x.ax).length:=by have:=e.2; omega
  rw[← h.1]
  exact a _ (Xi (getD_some d))
def mo:SC :=
 ae [ae [ab [aa 12 6,aa 13 1,aN 14 13,aV 15 .lss 12 14],bY 15 (.exit 0)],.block 1 (ab [aa 18 5,aa 19 1,aa 20 6,aQ 21 2 19 20,bg 22 2 21,bz 23 108 [18,22],aa 5 23]),ab [aa 16 6,aH 17 .add 16 1,aa 6 17]]
def jg:SC :=
 ae [ae [.region false [⟨none,[aa 41 9,aa 42 41]⟩,⟨(some (42,true)),[aa 43 8,aH 44 .lss 43 0]⟩,⟨none,[eJ 45 42 44,aa 46 45]⟩,⟨(some (46,true)),[aa 47 11,ao 48 2 2,aj 49 48,aN 50 49,aV 51 .lss 47 50]⟩,⟨none,[eJ 52 46 51]⟩],bY 52 (.exit 4)],.block 5 (ae [ab [ao 55 2 2,aj 56 55,aa 57 11,aQ 58 3 56 57,ao 59 0 58,aj 60 59,aa 61 8,((some 62),.op (.arith .sub (.val (.val (.int .i64 (-1)))) (.tmp 61))),aV 63 .eql 60 62],bf 63 (ab [aa 64 5,aa 65 11,((some 66),.op (.build [(.val (.int .i64 0)),(.val (.int .i64 0))] [(0,1,(.tmp 65))])),bz 67 108 [64,66],aa 5 67])]),ab [aa 53 11,aH 54 .add 53 1,aa 11 54]]
def mr:SC :=
 ae [ae [ab [aa 24 7,aa 25 5,aN 26 25,aV 27 .lss 24 26],bY 27 (.exit 2)],.block 3 (ae [ab [bg 31 4 2,aa 32 5,aa 33 7,aQ 34 2 32 33,bg 35 2 34,bz 36 51 [31,35],aa 30 36,fI 37 0 30,fI 38 1 30,aa 8 37,aa 9 38],ab [aa 39 5,aN 40 39,aa 10 40],ae [ab [aS 11 0],b6 4 jg],ab [aa 68 5,aN 69 68,aa 70 10,aV 71 .gtr 69 70],bf 71 (ab [aS 7 (-1)])]),ab [aa 28 7,aH 29 .add 28 1,aa 7 29]]
def nW:SF:=⟨ae [ab [cI 2 0,df 4 1],ab [df 5 1],ae [ab [aS 6 0],b6 0 mo],ae [ab [aS 7 0],b6 2 mr],ab [aa 72 5,aa 4 72],.ret],
 [.tmp 4],73⟩
theorem tH:aR Tryz.prog 60 [2]=some nW:=by kernel_rfl
def ov:SC :=
 ae [ae [ab [aa 11 8,aa 12 1,aN 13 12,aV 14 .lss 11 13],bY 14 (.exit 0)],.block 1 (ae [ab [bg 18 4 3,aa 19 1,aa 20 8,aQ 21 2 19 20,bg 22 2 21,bz 23 51 [18,22],aa 17 23,fI 24 0 17,fI 25 1 17,aa 9 24,aa 10 25],.region false [⟨none,[aa 26 10,aa 27 26]⟩,⟨(some (27,true)),[aa 28 9,aa 29 2,aV 30 .eql 28 29]⟩,⟨none,[eJ 31 27 30]⟩],bf 31 (ab [aa 32 7,aa 33 1,aa 34 8,aQ 35 2 33 34,ao 36 0 35,aj 37 36,aa 38 1,aa 39 8,aQ 40 2 38 39,ao 41 1 40,aj 42 41,aH 43 .add 42 1,((some 44),.op (.build [(.val (.int .i64 0)),(.val (.int .i64 0))] [(0,1,(.tmp 37)),(1,1,(.tmp 43))])),bz 45 108 [32,44],aa 7 45])]),ab [aa 15 8,aH 16 .add 15 1,aa 8 16]]
def pQ:SF:=⟨ae [ab [cI 3 0,df 6 1],ab [df 7 1],ae [ab [aS 8 0],b6 0 ov],ab [aa 46 7,aa 6 46],.ret],
 [.tmp 6],47⟩
theorem uM:aR Tryz.prog 66 [3]=some pQ:=by kernel_rfl
def oc:SC :=
 ae [ae [ab [aa 11 5,aa 12 0,aN 13 12,aV 14 .lss 11 13],bY 14 (.exit 0)],.block 1 (ae [ab [aa 17 0,aa 18 5,aQ 19 2 17 18,bg 20 2 19,aa 21 1,aa 22 5,aQ 23 2 21 22,bg 24 2 23,((some 25),.op (.old (.binOp .neq 33 (.tmp 20) (.tmp 24) 33) 4))],bf 25 (ae [ab [bu 4 false],.ret])]),ab [aa 15 5,aH 16 .add 15 1,aa 5 16]]
def qc:SF:=⟨ae [ab [bu 4 false],ae [ab [aa 6 0,aN 7 6,aa 8 1,aN 9 8,aV 10 .neq 7 9],bf 10 (ae [ab [bu 4 false],.ret])],ae [ab [aS 5 0],b6 0 oc],ab [bu 4 true],.ret],
 [.tmp 4],26⟩
theorem vg:aR Tryz.prog 21 []=some qc:=by kernel_rfl
def pc:SF:=⟨ae [ab [cI 2 0,aS 4 0],ae [ab [aa 5 1,ao 6 0 2,aj 7 6,aN 8 7,aV 9 .lss 5 8],bf 9 (ae [ab [aa 10 1,aa 4 10],.ret])],ab [aa 11 1,ao 12 0 2,aj 13 12,aN 14 13,aV 15 .sub 11 14,((some 16),.op (.arith .sub (.val (.val (.int .i64 (-1)))) (.tmp 15))),aa 4 16],.ret],
 [.tmp 4],17⟩
theorem tO:aR Tryz.prog 65 [2]=some pc:=by kernel_rfl
def VF (g:ag) (out:List aD) (x:aD):Prop:=∀ (s:Int) (k:Nat) (R:aW),bK g x=(s,true)→s < 0→g.rules[k]?=some R→R.left = -1 - s→(⟨k,0⟩:aD)∈out
def Sm (g:ag) (l:List aD) (H:View) (m:Nat) (T:Env) (H':View):Prop:=∃ (i:Nat) (r:V) (out:List aD),m=(300 - out.length) * 1000+(300 - i)∧i≤out.length∧aX H' r 2 (aT out)∧dr H H' r∧cm out∧(∀ x∈out,pk g l x)∧(∀ x∈l,x∈out)∧(∀ j x,j < i→out[j]?=some x→VF g out x) ∧
 T 2=.aJ (ai g) 0∧T 5=r∧T 7=gi i
theorem Hh (g:ag) (J:g.dD) (l:List aD) (hl:∀ x∈l,cU g x) (hn:l.length≤10000) (u:V) (H:View) (ho:aX H u 2 (aT l)):aw Tryz.prog 60 [.agg (ai g),u] H fun r H'=>aX H' r 2 (aT (cR g l))∧dr H H' r:=by
 refine aw.of mixed tH ?_
 have hlen:cH u=some l.length:=by rw[ho.len]; simp[aT]
 have bn:=J.rules
 simp (disch:=omega)only[↓wr,seval,wq,nW,ai,encS]
 refine aU.up l.length (fun i T H'=>∃ (r:V) (out:List aD),aX H' r 2 (aT out)∧dr H H' r∧cm out∧(∀ x,x∈out↔x∈l.take i)∧out.length≤287∧T 1=u∧T 2=.aJ (ai g) 0∧T 5=r∧T 6=gi i)
  ⟨.emp 1,[],.nil,.emp,.nil,by simp,by simp,rfl,rfl,rfl,rfl⟩ ?_
 rintro i k T H' hk ⟨r,out,D,fr,n,hm,hle,t1,t2,t5,t6⟩
 simp (disch:=omega)only[↓wr,seval,wq,mo,t1,t2,t5,t6,hlen]
 apply ah.dec<;>intro hc
 ·have N:l[i]?=some (l[i]'(by omega)):=Xc (by omega)
  have W:l.take (i+1)=l.take i ++ [l[i]'(by omega)]:=by rw[XH,N]; rfl
  generalize l[i]'(by omega)=y at N W
  obtain ⟨id,hu,t⟩:=ho.sl (by simp[aT]; omega)
  have X:H' id=.arr 2 (aT l):=by rw[(fr id (by rw[t]; simp)).1,t]
  simp (disch:=omega)only[↓wr,seval,wq,t1,t2,t5,t6,hu,X,rR N]
  refine ⟨by first | omega | (simp[aT]; omega),by first | omega | (simp[aT]; omega),?_⟩
  refine ay.dZ ((BA r out (by omega) y H' D).mono ?_)
  rintro p H2 ⟨O,l2⟩
  simp (disch:=omega)only[↓wr,seval,wq,t1,t2,t5,t6]
  have Y:∀ x,x∈eE out y↔x∈l.take (i+1):=fun x=>by
   rw[j5,W,XE,hm,X8,or_comm]
  have Z:=sr (x:=y) n
  exact aF hk (by omega) ⟨p,eE out y,O,fr.step l2,Z,Y,iu J Z (fun x b=>hl x (List.mem_of_mem_take ((Y x).1 b))),t1,t2,rfl,rfl⟩
 rw[Xv (by omega)] at hm
 simp (disch:=omega)only[↓wr,seval,wq,t1,t2,t5,t6]
 refine aU.intro (Sm g l H) ((300 - out.length) * 1000+300)
  ⟨0,r,out,by omega,YM _,D,fr,n,fun x b=>.base ((hm x).1 b),fun x b=>(hm x).2 b,fun j x hj=>by omega,t2,t5,rfl⟩ ?_
 clear D fr n hm hle t1 t2 t5 t6 hc hk
 rintro m T1 H1 ⟨i,r,out,rfl,hi,D,fr,n,E,P,an,t2,t5,t7⟩
 have K:∀ x∈out,cU g x:=fun x b=>(E x b).has hl
 have hle:=iu J n K
 have a7:cH r=some out.length:=by rw[D.len,bM]
 simp (disch:=omega)only[↓wr,seval,wq,mr,t2,t5,t7,a7]
 apply ah.dec<;>intro hc
 ·have N:out[i]?=some (out[i]'(by omega)):=Xc (by omega)
  have Q:=K _ (Xm (show i < out.length by omega))
  have aq:=E _ (Xm (show i < out.length by omega))
  generalize out[i]'(by omega)=y at N Q aq
  have h1:=HE g J y Q
  cases F:bK g y with
  | mk s G =>
  have bq:=xj J Q F
  rw[F] at h1
  obtain ⟨id,hu,t⟩:=D.sl (by simp[aT]; omega)
  rw[bM] at hu
  simp only[ai,encS,cr] at h1
  simp (disch:=omega)only[↓wr,seval,wq,t2,t5,t7,hu,t,rR N,ai,encS]
  refine ⟨by first | omega | (simp[aT]; omega),by first | omega | (simp[aT]; omega),?_⟩
  refine ay.pure h1 ?_
  simp (disch:=omega)only[↓wr,seval,wq,t2,t5,t7,hu]
  refine aU.up g.rules.length (fun k T H'=>∃ (p:V) (a:List aD),aX H' p 2 (aT a)∧dr H H' p∧cm a∧(∀ x∈a,pk g l x)∧(∀ x∈out,x∈a)∧out.length≤a.length∧(a.length=out.length→a=out) ∧
   (∀ (q:Nat) (R:aW),q < k→G=true→s < 0→g.rules[q]?=some R→R.left = -1 - s→(⟨q,0⟩:aD)∈a)∧T 2=.aJ (ai g) 0∧T 5=p∧T 7=gi i∧T 8=gi s∧T 9=gb G∧T 10=gi out.length∧T 11=gi k)
   ⟨r,out,D,fr,n,E,fun x b=>b,Xo _,fun _=>rfl,fun q R hq=>by omega,t2,by rw[← hu]; exact t5,t7,rfl,rfl,rfl,rfl⟩ ?_
  clear D fr t2 t5 t7 t hu
  rintro k j T2 H2 hk ⟨p,a,O,I,c,d,v,S,o,w,t2,t5,t7,t8,t9,t10,t11⟩
  have U:∀ x∈a,cU g x:=fun x b=>(d x b).has hl
  have bl:=iu J c U
  have f:cH p=some a.length:=by rw[O.len,bM]
  have more:out.length < a.length→∀ z:Env,z 2=.aJ (ai g) 0→z 5=p→z 7=gi 0→∃ k',k' < (300 - out.length) * 1000+(300 - i)∧Sm g l H k' z H2:=fun h z e2 e5 e7 =>
   ⟨(300 - a.length) * 1000+300,by omega,0,p,a,by omega,YM _,O,I,c,d,fun x b=>v x (P x b),fun j x hj=>by omega,e2,e5,e7⟩
  have stay:(G=true→s < 0→g.rules.length≤k)→¬ out.length < a.length→∀ z:Env,z 2=.aJ (ai g) 0→z 5=p→z 7=gi ((i:Int)+1)→∃ k',k' < (300 - out.length) * 1000+(300 - i)∧Sm g l H k' z H2:=fun ar h z e2 e5 e7=>by
   have e:=o (by omega)
   subst e
   refine ⟨(300 - a.length) * 1000+(300 - (i+1)),by omega,i+1,p,a,rfl,by omega,O,I,c,d,P,fun j x hj b=>?_,e2,e5,e7⟩
   rcases XB j i with a1 | a1
   ·exact an j x a1 b
   ·have:j=i:=by omega
    subst this
    rw[N] at b
    simp only[Xe] at b
    subst b
    intro s' q R h1 L A M
    rw[F] at h1
    simp only[Xh] at h1
    obtain ⟨rfl,rfl⟩:=h1
    have:=(Xq.1 A).1
    exact w q R (by have:=ar rfl L; omega) rfl L A M
  cases G with
  | false =>
   simp (disch:=omega)only[↓wr,seval,wq,jg,t2,t5,t7,t8,t9,t10,t11,f]
   apply ah.dec<;>intro hg
   ·simp (disch:=omega)only[↓wr,seval,wq,t2,t5,t7]
    exact more (by omega) _ t2 t5 rfl
   ·simp (disch:=omega)only[↓wr,seval,wq,t2,t5,t7]
    exact stay (fun h=>by simp at h) (by omega) _ t2 t5 rfl
  | true =>
   simp (disch:=omega)only[↓wr,seval,wq,jg,t2,t5,t7,t8,t9,t10,t11,f,ai]
   apply ah.dec<;>intro B
   ·simp (disch:=omega)only[↓wr,seval,wq,t2,t5,t7,t8,t9,t10,t11,f,ai]
    apply ah.dec<;>intro a8
    ·have hR:g.rules[k]?=some (g.rules[k]'(by omega)):=Xc (by omega)
     have hL:=J.left _ (Xm (show k < g.rules.length by omega))
     generalize g.rules[k]'(by omega)=R at hR hL
     simp (disch:=omega)only[↓wr,seval,wq,t2,t5,t7,t8,t9,t10,t11,ai,aP,Xf,hR,Xk]
     apply ah.eq<;>intro he
     ·simp (disch:=omega)only[↓wr,seval,wq,t2,t5,t7,t8,t9,t10,t11]
      refine ay.dZ ((BA p a (by omega) ⟨k,0⟩ H2 O).mono ?_)
      rintro r3 H3 ⟨o3,l3⟩
      simp (disch:=omega)only[↓wr,seval,wq,t2,t5,t7,t8,t9,t10,t11]
      have a6:pk g l ⟨k,0⟩:=.step aq F B hR he
      refine aF hk (by omega) ⟨r3,eE a ⟨k,0⟩,o3,I.step l3,sr c,fun x b=>?_,fun x b=>j5.2 (.inr (v x b)),by have:=Fc a ⟨k,0⟩; omega,fun h=>?_,fun q R' hq L A M=>?_,t2,rfl,t7,t8,t9,t10,rfl⟩
      ·rcases j5.1 b with rfl | b
       ·exact a6
       ·exact d x b
      ·have bb:(⟨k,0⟩:aD)∈a:=YI fun bd=>by
        have:=Df bd; omega
       rw[CL c bb] at h ⊢
       exact o h
      ·rcases XB q k with C | C
       ·exact j5.2 (.inr (w q R' C rfl L A M))
       ·have:q=k:=by omega
        subst this
        exact j5.2 (.inl rfl)
     ·simp (disch:=omega)only[↓wr,seval,wq,t2,t5,t7,t8,t9,t10,t11]
      refine aF hk (by omega) ⟨p,a,O,I,c,d,v,S,o,fun q R' hq L A M=>?_,t2,t5,t7,t8,t9,t10,rfl⟩
      rcases XB q k with C | C
      ·exact w q R' C rfl L A M
      ·have:q=k:=by omega
       subst this
       rw[hR] at A
       simp only[Xe] at A
       subst A
       exact absurd M he
    ·simp (disch:=omega)only[↓wr,seval,wq,t2,t5,t7,t8,t9,t10,t11,f]
     apply ah.dec<;>intro hg
     ·simp (disch:=omega)only[↓wr,seval,wq,t2,t5,t7]
      exact more (by omega) _ t2 t5 rfl
     ·simp (disch:=omega)only[↓wr,seval,wq,t2,t5,t7]
      exact stay (fun _ _=>by omega) (by omega) _ t2 t5 rfl
   ·simp (disch:=omega)only[↓wr,seval,wq,t2,t5,t7,t8,t9,t10,t11,f]
    apply ah.dec<;>intro hg
    ·simp (disch:=omega)only[↓wr,seval,wq,t2,t5,t7]
     exact more (by omega) _ t2 t5 rfl
    ·simp (disch:=omega)only[↓wr,seval,wq,t2,t5,t7]
     exact stay (fun _ h=>absurd h B) (by omega) _ t2 t5 rfl
 ·simp (disch:=omega)only[↓wr,seval,wq,t2,t5,t7]
  have br:i=out.length:=by omega
  rw[Ip J hl n E P (fun x b s k R h1 L A M=>by
   obtain ⟨j,hj,e⟩:=Yh.1 b
   exact an j x (by omega) (by rw[Xc hj,e]) s k R h1 L A M)]
  exact ⟨D,fr⟩
theorem Mc (g:ag) (m:g.dD) (l:List aD) (hs:cm l) (hl:∀ x∈l,cU g x) (s:Int) (u:V) (H:View) (t:aX H u 2 (aT l)):aw Tryz.prog 66 [.agg (ai g),u,gi s] H fun r H'=>aX H' r 2 (aT (bk g l s))∧dr H H' r:=by
 refine aw.of mixed uM ?_
 have hlen:cH u=some l.length:=by rw[t.len]; simp[aT]
 have hle:=iu m hs hl
 simp (disch:=omega)only[↓wr,seval,wq,pQ,ai,encS]
 refine aU.up l.length (fun i T H'=>∃ (r:V),aX H' r 2 (aT (bk g (l.take i) s))∧dr H H' r∧T 1=u∧T 2=gi s∧T 3=.aJ (ai g) 0∧T 7=r∧T 8=gi i)
  ⟨.emp 1,.nil,.emp,rfl,rfl,rfl,rfl,rfl⟩ ?_
 rintro i k T H' hk ⟨r,h,fr,t1,t2,t3,t7,t8⟩
 simp (disch:=omega)only[↓wr,seval,wq,ov,t1,t2,t3,t7,t8,hlen]
 apply ah.dec<;>intro z
 ·have j:l[i]?=some (l[i]'(by omega)):=Xc (by omega)
  have b:=hl _ (Xm (show i < l.length by omega))
  have a:=Pz (g:=g) hs (show l[i]?=some (l[i]'(by omega)) from j) s
  generalize l[i]'(by omega)=y at j b a
  have h1:=HE g m y b
  cases c:bK g y with
  | mk q n =>
  rw[c] at h1
  obtain ⟨id,hu,f⟩:=t.sl (by simp[aT]; omega)
  have d:H' id=.arr 2 (aT l):=by rw[(fr id (by rw[f]; simp)).1,f]
  rw[bM] at hu
  have v:=b.2
  have J:=gP m b.1
  have o:=te (g:=g) (l:=l.take i) (s:=s)
  simp only[X0] at o
  simp only[ai,encS,cr] at h1
  simp (disch:=omega)only[↓wr,seval,wq,t1,t2,t3,t7,t8,hu,d,rR j,ai,encS]
  refine ⟨by first | omega | (simp[aT]; omega),by first | omega | (simp[aT]; omega),?_⟩
  refine ay.pure h1 ?_
  have skip:¬ bK g y=(s,true)→∀ e:Env,e 1=u→e 2=gi s→e 3=.aJ (ai g) 0→e 7=r→e 8=gi ((i:Int)+1)→∃ w,w < k∧Ft l.length w (fun i T H'=>∃ (r:V),aX H' r 2 (aT (bk g (l.take i) s))∧dr H H' r∧T 1=u∧T 2=gi s∧T 3=.aJ (ai g) 0∧T 7=r∧T 8=gi i) e H':=fun p e A B C D E=>by
   rw[Xd p] at a
   exact aF hk (by omega) ⟨r,by rw[a]; exact h,fr,A,B,C,D,E⟩
  cases n with
  | false =>
   simp (disch:=omega)only[↓wr,seval,wq,t1,t2,t3,t7,t8]
   exact skip (by rw[c]; simp) _ t1 t2 t3 t7 rfl
  | true =>
   simp (disch:=omega)only[↓wr,seval,wq,t1,t2,t3,t7,t8]
   apply ah.eq<;>intro he
   ·simp (disch:=omega)only[↓wr,seval,wq,t1,t2,t3,t7,t8,hu,d,rR j]
    refine ⟨by first | omega | (simp[aT]; omega),by first | omega | (simp[aT]; omega),?_⟩
    refine ⟨by first | omega | (simp[aT]; omega),by first | omega | (simp[aT]; omega),?_⟩
    refine ay.dZ ((BA r (bk g (l.take i) s) (by omega) ⟨y.ax,y.dot+1⟩ H' h).mono ?_)
    rintro F K ⟨G,I⟩
    simp (disch:=omega)only[↓wr,seval,wq,t1,t2,t3,t7,t8]
    rw[Xg (by rw[c,he])] at a
    exact aF hk (by omega) ⟨F,by rw[a]; exact G,fr.step I,t1,t2,t3,rfl,rfl⟩
   ·simp (disch:=omega)only[↓wr,seval,wq,t1,t2,t3,t7,t8]
    exact skip (by rw[c]; simp[he]) _ t1 t2 t3 t7 rfl
 ·simp (disch:=omega)only[↓wr,seval,wq,t1,t2,t3,t7,t8]
  rw[Xv (by omega)] at h
  exact ⟨h,fr⟩
theorem Cw {g:ag} (a:g.dD) {i:Nat} (hi:i < g.af.length+g.ak.length) : -100≤aY g i∧aY g i≤100:=by
 have:=a.af; have:=a.ak
 unfold aY; split <;> omega
theorem JM (g:ag) (a:g.dD) (i:Nat) (hi:i < g.af.length+g.ak.length):aA Tryz.prog 65 [.agg (ai g),gi i] (gi (aY g i)):=by
 refine aA.val (by
  intro v b; simp at b
  rcases b with rfl | rfl
  ·exact cq _ (dE g)
  ·exact .val _) fun H=>?_
 have:=a.af; have:=a.ak
 refine aw.of mixed tO ?_
 unfold aY
 simp (disch:=omega)only[↓wr,seval,wq,pc,ai,encS]
 apply ah.dec<;>intro h
 ·simp (disch:=omega)only[↓wr,seval,wq]
  rw[Xg (by omega)]
 ·simp (disch:=omega)only[↓wr,seval,wq,ai]
  rw[Xd (by omega)]
theorem vF (l:List aD):Tree (.aE (aT l)):=eN _ _ fun x _ v a=>by simp[cr] at a; rcases a with rfl | rfl <;> exact .val _
theorem L7 (a b:List aD) (g:aL a) (j:aL b):aA Tryz.prog 21 [.aE (aT a),.aE (aT b)] (gb (a == b)):=by
 unfold aL at g j
 refine aA.val (by
  intro v f; simp at f
  rcases f with rfl | rfl <;> exact vF _) fun H=>?_
 refine aw.of mixed vg ?_
 simp (disch:=omega)only[↓wr,seval,wq,qc,aT]
 apply ah.ne<;>intro h
 ·simp (disch:=omega)only[↓wr,seval,wq]
  have:(a == b)=false:=by simp; rintro rfl; exact h rfl
  rw[this]
 ·simp (disch:=omega)only[↓wr,seval,wq]
  refine aU.up a.length (fun i T H'=>a.take i=b.take i∧T 0=.aE (aT a)∧T 1=.aE (aT b)∧T 5=gi i) ⟨rfl,rfl,rfl,rfl⟩ ?_
  rintro i k T H' hk ⟨he,t0,t1,t5⟩
  simp (disch:=omega)only[↓wr,seval,wq,oc,t0,t1,t5,aT]
  apply ah.dec<;>intro l
  ·have d:a[i]?=some (a[i]'(by omega)):=Xc (by omega)
   have c:b[i]?=some (b[i]'(by omega)):=Xc (by omega)
   generalize a[i]'(by omega)=x at d
   generalize b[i]'(by omega)=y at c
   simp (disch:=omega)only[↓wr,seval,wq,t0,t1,t5,aT,Xf,d,c,Xk,cr]
   refine jB (xs:=#[.int .i64 x.ax,.int .i64 x.dot]) (ys:=#[.int .i64 y.ax,.int .i64 y.dot]) Tryz.underlying33 (by kernel_rfl) (by kernel_rfl) ?_ ?_ (rz x y) (.inr ⟨rfl,rfl⟩) ?_
   ·rfl
   ·rfl
   rw[Ai]
   simp (disch:=omega)only[↓wr,seval,wq,t0,t1,t5]
   apply ah.dec<;>intro e
   ·simp (disch:=omega)only[↓wr,seval,wq,t0,t1,t5]
    exact aF hk (by omega) ⟨by rw[XH,XH,he,d,c,e],t0,t1,rfl⟩
   ·simp (disch:=omega)only[↓wr,seval,wq]
    have:(a == b)=false:=by
     simp; rintro rfl
     rw[d] at c; simp at c; exact e c
    rw[this]
  ·simp (disch:=omega)only[↓wr,seval,wq,t0,t1,t5]
   rw[Xv (by omega),Xv (by omega)] at he
   rw[he,YQ]
def Ef (p:Nat→Bool):Nat→BV
 | 0=>0
 | n+1=>if p n=true then Ef p n ||| BitVec.twoPow 32 n else Ef p n
theorem BY (p:Nat→Bool):∀ (n i:Nat),n≤32→((Ef p n).getLsbD i=true↔i < n∧p i=true)
 | 0,i,_=>by simp[Ef]
 | n+1,i,h=>by
  have c:=BY p n i (by omega)
  rw[Ef]
  split
  ·rename_i hp
   rw[Ye,Yp,c,Y9]
   simp only[Xl,Xr]
   constructor
   ·rintro (⟨h1,a⟩ | ⟨h1,rfl⟩)
    ·exact ⟨by omega,a⟩
    ·exact ⟨by omega,hp⟩
   ·rintro ⟨h1,a⟩
    rcases XB i n with b | b
    ·exact .inl ⟨b,a⟩
    ·exact .inr ⟨by omega,by omega⟩
  ·rename_i hp
   rw[c]
   constructor
   ·rintro ⟨h1,a⟩; exact ⟨by omega,a⟩
   ·rintro ⟨h1,a⟩
    refine ⟨?_,a⟩
    rcases XB i n with b | b
    ·exact b
    ·have:i=n:=by omega
     subst this; exact absurd a hp
structure cd where
 ax:Int
 set:BV
 deriving DecidableEq
structure kd where
 state:Int
 term:Int
 kind:Int
 ax:Int
 other:Int
 deriving DecidableEq
noncomputable def bR (g:ag):List aI × Int:=if isRed g=true then fM g 302 0 dV else ([],1)
noncomputable def fY (g:ag) (a:List aI):List (List aD):=a.map fun s=>cR g s.bc
open Classical in
noncomputable def EJ (g:ag) (a:List aI) (i:Nat) (x:aD):BV:=Ef (fun t=>decide (pM g (au g false) a (fY g a) i x t)) 32
noncomputable def iF (g:ag) (a:List aI) (i:Nat):List cd:=((fY g a).getD i []).filterMap fun x=>if (bK g x).2=false∧0≤x.ax then some ⟨x.ax,EJ g a i x⟩ else none
noncomputable def jn (g:ag) (a:List aI):List (List cd):=(List.range a.length).map (iF g a)
noncomputable def uB (g:ag):List (List cd) × Int:=if (bR g).2=0 then (jn g (bR g).1,0) else ([],(bR g).2)
def hasB (s:BV) (n:Int):Bool:=decide (s &&& fG n≠0)
def fv (l:List cd) (n:Int):List Int:=(l.filter fun x=>hasB x.set n).map cd.ax
def gC (g:ag) (t:Int):Int:=match g.af[t.toNat]? with
 | some x=>x.level
 | none=>0
def wv (g:ag) (t:Int):Int:=match g.af[t.toNat]? with
 | some x=>x.assoc
 | none=>0
def im (g:ag) (ax term:Int):Int :=
 if bG g=false∨ax < 0∨(g.rules.length:Int)≤ax∨term < 0∨(g.af.length:Int) < term then 0
 else if term=g.af.length∨(av g ax).prec < 0∨gC g (av g ax).prec=0∨gC g term=0 then 4
 else if gC g term < gC g (av g ax).prec∨gC g (av g ax).prec=gC g term∧wv g term=1 then 1
 else if gC g (av g ax).prec < gC g term∨wv g term=2 then 2
 else 3
def fC:List bX→Int→Option Cell
 | [],_=>none
 | e :: l,s=>if e.sym=s then some ⟨1,e.to⟩ else fC l s
def eL (g:ag) (s:aI) (term:Int):Cell:=match fC s.aG term with
 | some c=>c
 | none=>if term=g.af.length∧(⟨-1,1⟩:aD)∈s.bc then ⟨3,0⟩ else ⟨0,0⟩
def jr (state term r0:Int) (l:List Int):List kd:=l.map fun r=>⟨state,term,5,r,r0⟩
def fH (g:ag) (s:aI) (l:List cd) (state term:Int):Cell × List kd:=match fv l term with
 | []=>(eL g s term,[])
 | r :: rs =>
  if (eL g s term).kind=0 then (⟨2,r⟩,jr state term r rs)
  else (if im g r term=1 then ⟨2,r⟩ else if im g r term=3 then ⟨0,0⟩ else eL g s term,jr state term r rs ++ [⟨state,term,im g r term,r,-1⟩])
def fo (g:ag) (s:aI) (l:List cd) (state:Int) (n:Nat):List Cell:=(List.range n).map fun (k:Nat)=>(fH g s l state k).1
def tc (g:ag) (s:aI) (l:List cd) (state:Int) (n:Nat):List kd:=(List.range n).flatMap fun (k:Nat)=>(fH g s l state k).2
def uE (a:List aI) (i:Int) (k:Int):Int:=if (eT a i [-1 - k]).2=true then (eT a i [-1 - k]).1 else -1
def mF (g:ag) (a:List aI) (i:Int):List Int:=(List.range g.ak.length).map fun (k:Nat)=>uE a i k
def iv (g:ag) (a:List aI) (l:List (List cd)) (n:Nat):sS:=⟨(List.range n).map fun (i:Nat)=>fo g (a.getD i aM) (l.getD i []) i (g.af.length+1),(List.range n).map fun (i:Nat)=>mF g a i⟩
def oW (g:ag) (a:List aI) (l:List (List cd)) (n:Nat):List kd:=(List.range n).flatMap fun (i:Nat)=>tc g (a.getD i aM) (l.getD i []) i (g.af.length+1)
noncomputable def zE (g:ag):sS × List kd × Int:=if (bR g).2=0 then (iv g (bR g).1 (uB g).1 (bR g).1.length,oW g (bR g).1 (uB g).1 (bR g).1.length,0) else (⟨[],[]⟩,[],(bR g).2)
structure dU (g:ag) (at_ i:Nat) (out:List aI):Prop where
 bc:∀ s∈out,cm s.bc∧s.bc≠[]∧∀ x∈s.bc,cU g x
 aG:∀ j s,out[j]?=some s→s.aG.length≤40∧(j=at_→s.aG.length≤i)∧(at_ < j→s.aG=[])
 to:∀ s∈out,∀ e∈s.aG,0≤e.to∧e.to < out.length
 sym:∀ s∈out,∀ e∈s.aG,-1000≤e.sym∧e.sym≤1000
theorem mem_modify {α:Type} {l:List α} {i:Nat} {f:α→α} {y:α} (h:y∈l.modify i f):y∈l∨∃ x,l[i]?=some x∧y=f x:=by
 obtain ⟨j,a,e⟩:=Yh.1 h
 simp only[List.length_modify] at a
 rw[List.getElem_modify] at e
 split at e
 ·rename_i b
  subst b
  exact .inr ⟨l[i],Xc a,e.symm⟩
 ·exact .inl (e ▸ Xm a)
theorem QF (g:ag) (l:List aD) (at_:Nat) (out:List aI) (i:Nat):out.length≤(dd g l at_ out i).length∧(dd g l at_ out i).length≤out.length+1:=by
 unfold dd
 split
 ·omega
 ·split
  ·simp
  ·simp
theorem dU.put {g:ag} {at_ i:Nat} {out:List aI} (h:dU g at_ i out) (hi:i < 40) {s:Int} (hs : -1000≤s∧s≤1000) {to:Int} (c:0≤to∧to < out.length):dU g at_ (i+1) (out.modify at_ fun x=>(⟨x.bc,x.aG ++ [⟨s,to⟩]⟩:aI)):=by
 refine ⟨fun y a=>?_,fun j y a=>?_,fun y a e he=>?_,fun y a e he=>?_⟩
 rotate_right
 ·rcases mem_modify a with a | ⟨x,b,rfl⟩
  ·exact h.sym y a e he
  ·rcases XE.1 he with he | he
   ·exact h.sym x (Xi b) e he
   ·simp at he; subst he; exact hs
 ·rcases mem_modify a with a | ⟨x,b,rfl⟩
  ·exact h.bc y a
  ·exact h.bc x (Xi b)
 ·rw[List.getElem?_modify] at a
  cases b:out[j]? with
  | none=>rw[b] at a; simp at a
  | some x =>
   rw[b] at a
   have h1:=h.aG j x b
   by_cases e:at_=j
   ·subst e
    simp at a
    subst a
    have:=h1.2.1 rfl
    refine ⟨by simp; omega,fun _=>by simp; omega,fun h=>by omega⟩
   ·simp[e] at a
    subst a
    exact ⟨h1.1,fun h=>absurd h.symm e,h1.2.2⟩
 ·rw[List.length_modify]
  rcases mem_modify a with a | ⟨x,b,rfl⟩
  ·exact h.to y a e he
  ·rcases XE.1 he with he | he
   ·exact h.to x (Xi b) e he
   ·simp at he; subst he; exact c
theorem dU.up {g:ag} {at_ i:Nat} {out:List aI} (h:dU g at_ i out):dU g at_ (i+1) out :=
 ⟨h.bc,fun j s hs=>by have:=h.aG j s hs; exact ⟨this.1,fun e=>by have:=this.2.1 e; omega,this.2.2⟩,h.to,h.sym⟩
theorem dU.add {g:ag} {at_ i:Nat} {out:List aI} (h:dU g at_ i out) {k:List aD} (hk:cm k∧k≠[]∧∀ x∈k,cU g x):dU g at_ i (out ++ [⟨k,[]⟩]):=by
 refine ⟨fun y a=>?_,fun j y a=>?_,fun y a e he=>?_,fun y a e he=>?_⟩
 rotate_right
 ·rcases XE.1 a with a | a
  ·exact h.sym y a e he
  ·simp at a; subst a; simp at he
 ·rcases XE.1 a with a | a
  ·exact h.bc y a
  ·simp at a; subst a; exact hk
 ·rcases XB j out.length with b | b
  ·rw[XA b] at a; exact h.aG j y a
  ·rw[XP b] at a
   cases hq:j - out.length with
   | zero=>rw[hq] at a; simp at a; subst a; exact ⟨by simp,fun _=>by simp,fun _=>rfl⟩
   | succ q=>rw[hq] at a; simp at a
 ·rcases XE.1 a with a | a
  ·have:=h.to y a e he; simp; omega
  ·simp at a; subst a; simp at he
theorem dU.step {g:ag} {l:List aD} (hs:cm l) (hl:∀ x∈l,cU g x) {at_ i:Nat} {out:List aI} (h:dU g at_ i out) (hi:i < 40):dU g at_ (i+1) (dd g l at_ out i):=by
 unfold dd
 split
 ·exact h.up
 ·rename_i a
  have b : -1000≤aY g i∧aY g i≤1000:=by unfold aY; split <;> omega
  split
  ·exact (h.add ⟨FT _ hs,a,HA hl⟩).put hi b (by simp; omega)
  ·have:=xD out (bk g l (aY g i))
   exact h.put hi b ⟨by omega,this⟩
theorem dU.next {g:ag} {at_ i:Nat} {out:List aI} (h:dU g at_ i out):dU g (at_+1) 0 out :=
 ⟨h.bc,fun j s hs=>by
  have:=h.aG j s hs
  exact ⟨this.1,fun e=>by have:=this.2.2 (by omega); simp[this],fun e=>this.2.2 (by omega)⟩,h.to,h.sym⟩
theorem dU.row {g:ag} {l:List aD} (hs:cm l) (hl:∀ x∈l,cU g x) {at_:Nat} {out:List aI} (h:dU g at_ 0 out):∀ n:Nat,n≤40→dU g at_ n ((List.range n).foldl (dd g l at_) out)∧out.length≤((List.range n).foldl (dd g l at_) out).length∧((List.range n).foldl (dd g l at_) out).length≤out.length+n
 | 0,_=>⟨h,Xo _,Xo _⟩
 | n+1,a=>by
  obtain ⟨h1,b,c⟩:=dU.row hs hl h n (by omega)
  rw[Ya,XZ]
  simp only[XC,YF]
  have:=QF g l at_ ((List.range n).foldl (dd g l at_) out) n
  exact ⟨h1.step hs hl (by omega),by omega,by omega⟩
theorem oh {g:ag} : dU g 0 0 dV:=by
 refine ⟨fun s hs=>?_,fun j s hs=>?_,fun s hs e he=>?_,fun s hs e he=>?_⟩
 rotate_right
 ·simp[dV] at hs; subst hs; simp at he
 ·simp[dV] at hs; subst hs
  refine ⟨by simp[cm],by simp,fun x a=>?_⟩
  simp at a; subst a
  exact ⟨⟨by simp,by simp only; omega⟩,by simp,by simp[aK]⟩
 ·have:=Xi hs
  simp[dV] at this; subst this; simp
 ·simp[dV] at hs; subst hs; simp at he
theorem dU.pb {g:ag} (a:g.dD) {at_ i:Nat} {out:List aI} (h:dU g at_ i out) {j:Nat} (b:j < out.length):cm (cR g (out.getD j aM).bc)∧∀ x∈cR g (out.getD j aM).bc,cU g x:=by
 have hm:=Xi (getD_some (d:=aM) b)
 exact ⟨jt _ _,fun x c=>((dt a (h.bc _ hm).2.2).1 c).has (h.bc _ hm).2.2⟩
structure ni (g:ag) (a:List aI):Prop where
 bc:∀ s∈a,cm s.bc∧s.bc≠[]∧∀ x∈s.bc,cU g x
 aG:∀ s∈a,s.aG.length≤40
 to:∀ s∈a,∀ e∈s.aG,0≤e.to∧e.to < a.length
 sym:∀ s∈a,∀ e∈s.aG,-1000≤e.sym∧e.sym≤1000
theorem dU.ok {g:ag} {at_ i:Nat} {out:List aI} (h:dU g at_ i out):ni g out :=
 ⟨h.bc,fun s hs=>by obtain ⟨j,a,e⟩:=Yh.1 hs; exact (h.aG j s (by rw[Xc a,e])).1,h.to,h.sym⟩
theorem Jj {g:ag} (b:g.dD):∀ (f at_:Nat) (out:List aI),dU g at_ 0 out→1≤out.length→out.length≤300→(fM g f at_ out).2=0→ni g (fM g f at_ out).1∧1≤(fM g f at_ out).1.length∧(fM g f at_ out).1.length≤300
 | 0,_,out,h,h1,c,_=>⟨h.ok,h1,c⟩
 | f+1,at_,out,h,h1,c,a=>by
  rw[fM] at a ⊢
  split
  ·rename_i d
   rw[Xg d] at a
   have hr:=dU.row (h.pb b d).1 (h.pb b d).2 h (g.af.length+g.ak.length) (by have:=b.af; have:=b.ak; omega)
   rw[show (List.range (g.af.length+g.ak.length)).foldl (dd g (cR g (out.getD at_ aM).bc) at_) out=BO g at_ out (g.af.length+g.ak.length) from rfl] at hr
   split
   ·rename_i e; rw[Xg e] at a; simp at a
   ·rename_i e
    rw[Xd e] at a
    exact Jj b f (at_+1) _ hr.1.next (by omega) (by omega) a
  ·exact ⟨h.ok,h1,c⟩
theorem Jv {g:ag} (a:g.dD) (h:(bR g).2=0):ni g (bR g).1∧1≤(bR g).1.length∧(bR g).1.length≤300:=by
 unfold bR at h ⊢
 split
 ·rename_i hr
  rw[Xg hr] at h
  exact Jj a 302 0 dV oh (by simp[dV]) (by simp[dV]) h
 ·rename_i hr
  rw[Xd hr] at h
  simp at h
def fc (l:List bX):List (List V):=l.map jq
def fZ (s:aI):List V:=[.aE (aT s.bc),.aE (fc s.aG)]
def bj (a:List aI):V:=.aE (a.map fZ)
theorem TD (l:List bX):Tree (.aE (fc l)):=eN _ _ fun x _ v a=>by simp[jq] at a; rcases a with rfl | rfl <;> exact .val _
theorem NC (s:aI):∀ v∈fZ s,Tree v:=by
 intro v a; simp[fZ] at a
 rcases a with rfl | rfl
 ·exact vF _
 ·exact TD _
theorem kD (a:List aI):Tree (bj a):=eN _ _ fun x _=>NC x
abbrev pJ:=V × V × aI
def eS (A:List pJ):List (List V):=A.map fun x=>[x.1,x.2.1]
def mq (A:List pJ):List cw:=A.flatMap fun x=>[(x.1,2,aT x.2.2.bc),(x.2.1,2,fc x.2.2.aG)]
theorem cZ (A:List pJ):(eS A).length=A.length:=by simp[eS]
theorem nV {A:List pJ} {x:pJ} (a:x∈A):(x.1,2,aT x.2.2.bc)∈mq A∧(x.2.1,2,fc x.2.2.aG)∈mq A:=by
 constructor <;> exact List.mem_flatMap.2 ⟨x,a,by simp⟩
theorem Ee {h:aC} {u:V} {A:List pJ} (f:aX h.view u 2 (eS A)) (g:∀ x∈A,aX h.view x.1 2 (aT x.2.2.bc)∧aX h.view x.2.1 2 (fc x.2.2.aG)):dB h u (bj (A.map fun x=>x.2.2)):=by
 have c:∀ i (hi:i < A.length),(eS A).getD i []=[(A[i]).1,(A[i]).2.1]∧(((A.map fun x=>x.2.2).map fZ).getD i [])=fZ (A[i]).2.2:=fun i hi=>by
  simp[eS,Xb,hi]
 refine dB.own f (by simp[eS]) (fun i hi=>?_) (fun i j hi b=>?_)
 ·have a:i < A.length:=by simpa [eS] using hi
  rw[(c i a).1,(c i a).2]; rfl
 ·have a:i < A.length:=by simpa [eS] using hi
  rw[(c i a).2] at b ⊢
  rw[(c i a).1]
  have d:=g _ (Xm a)
  generalize A[i]'a=y at d b
  obtain ⟨h1,k⟩:=d
  match j,b with
  | 0,_ =>
   refine dB.own h1 rfl (fun i _=>rfl) (fun i j hi b=>?_)
   rw[bM] at hi
   have e:(aT y.2.2.bc).getD i []=cr y.2.2.bc[i]:=by simp[aT,Xb,hi]
   rw[e] at b ⊢
   match j,b with
   | 0,_=>exact .val _
   | 1,_=>exact .val _
  | 1,_ =>
   refine dB.own k rfl (fun i _=>rfl) (fun i j hi b=>?_)
   simp only[fc,Xj] at hi
   have e:(fc y.2.2.aG).getD i []=jq y.2.2.aG[i]:=by simp[fc,Xb,hi]
   rw[e] at b ⊢
   match j,b with
   | 0,_=>exact .val _
   | 1,_=>exact .val _
  | n+2,b=>exact absurd b (by simp[fZ])
def pv:SC :=
 ae [ae [ab [aa 6 5,aa 7 0,aN 8 7,aV 9 .lss 6 8],bY 9 (.exit 0)],.block 1 (ae [ab [aa 12 0,aa 13 5,aQ 14 2 12 13,ao 15 0 14,aj 16 15,aa 17 1,bz 18 21 [16,17]],bf 18 (ae [ab [aa 19 5,aa 4 19],.ret])]),ab [aa 10 5,aH 11 .add 10 1,aa 5 11]]
def rm:SF:=⟨ae [ab [aS 4 0],ae [ab [aS 5 0],b6 0 pv],ab [aS 4 (-1)],.ret],
 [.tmp 4],20⟩
theorem vH:aR Tryz.prog 67 []=some rm:=by kernel_rfl
def ow:SC :=
 ae [ae [ab [aa 31 7,ao 32 0 1,aj 33 32,aN 34 33,ao 35 1 1,aj 36 35,aN 37 36,aV 38 .add 34 37,aV 39 .lss 31 38],bY 39 (.exit 2)],.block 3 (ae [ab [bg 42 4 1,aa 43 7,bz 44 65 [42,43],aa 8 44],ab [bg 45 4 1,aa 46 6,aa 47 8,bz 48 66 [45,46,47],aa 9 48],ae [ab [aa 49 9,aN 50 49,aH 51 .eql 50 0],bf 51 (.exit 3)],ab [aa 52 4,aa 53 9,bz 54 67 [52,53],aa 10 54],ae [ab [aa 55 10,aH 56 .lss 55 0],bf 56 (ae [ab [aa 57 4,aN 58 57,aa 10 58],ab [aa 59 4,aa 60 9,((some 61),.op (.build [(.emp 1),(.emp 1)] [(0,1,(.tmp 60))])),((some 62),.op (.bV 1 2 [(.emp 1),(.emp 1)] [(0,(.tmp 61))])),gY 63 2 48 59 62,aa 4 63]])],ab [aa 64 4,aa 65 5,aa 66 4,aa 67 5,aQ 68 2 66 67,ao 69 1 68,aj 70 69,aa 71 8,aa 72 10,((some 73),.op (.build [(.val (.int .i64 0)),(.val (.int .i64 0))] [(0,1,(.tmp 71)),(1,1,(.tmp 72))])),((some 74),.op (.bV 1 2 [(.val (.int .i64 0)),(.val (.int .i64 0))] [(0,(.tmp 73))])),gY 75 2 16 70 74,aQ 76 2 64 65,ao 77 1 76,bU 1 77 75]]),ab [aa 40 7,aH 41 .add 40 1,aa 7 41]]
def nN:SC :=
 ae [ae [ab [aa 18 5,aa 19 4,aN 20 19,aV 21 .lss 18 20],bY 21 (.exit 0)],.block 1 (ae [ab [bg 24 4 1,aa 25 4,aa 26 5,aQ 27 2 25 26,ao 28 0 27,aj 29 28,bz 30 60 [24,29],aa 6 30],ae [ab [aS 7 0],b6 2 ow],ab [aa 78 4,aN 79 78,aH 80 .gtr 79 300],bf 80 (ae [ab [df 2 1,aS 3 5],.ret])]),ab [aa 22 5,aH 23 .add 22 1,aa 5 23]]
def pY:SF:=⟨ae [ab [cI 1 0,df 2 1,aS 3 0],ae [ab [bg 11 4 1,bz 12 30 [11],de 13 12],bf 13 (ae [ab [df 2 1,aS 3 1],.ret])],ab [((some 14),.op (.build [(.val (.int .i64 0)),(.val (.int .i64 0))] [(0,1,(.val (.val (.int .i64 (-1)))))])),((some 15),.op (.bV 1 2 [(.val (.int .i64 0)),(.val (.int .i64 0))] [(0,(.tmp 14))])),((some 16),.op (.build [(.emp 1),(.emp 1)] [(0,1,(.tmp 15))])),((some 17),.op (.bV 1 2 [(.emp 1),(.emp 1)] [(0,(.tmp 16))])),aa 4 17],ae [ab [aS 5 0],b6 0 nN],ab [aa 81 4,aa 2 81,aS 3 0],.ret],
 [.tmp 2,.tmp 3],82⟩
theorem uW:aR Tryz.prog 25 [1]=some pY:=by kernel_rfl
theorem MP:∀ (a:List aI) (k:List aD) (i:Nat),(∀ j s,j < i→a[j]?=some s→s.bc≠k)→(∀ s,a[i]?=some s→s.bc=k→findD a k=i)∧(i=a.length→findD a k = -1):=by
 intro a k i h
 refine ⟨fun s h1 c=>HH a k i s h1 c h,fun e=>?_⟩
 subst e
 refine Ck a k fun s hs=>?_
 obtain ⟨j,b,e⟩:=Yh.1 hs
 exact h j s b (by rw[Xc b,e])
theorem OK (a:List aI) (g:aL a) (hs:∀ s∈a,aL s.bc) (k:List aD) (hk:aL k):aA Tryz.prog 67 [bj a,.aE (aT k)] (gi (findD a k)):=by
 unfold aL at g
 refine aA.val (by
  intro v f; simp at f
  rcases f with rfl | rfl
  ·exact kD _
  ·exact vF _) fun H=>?_
 refine aw.of mixed vH ?_
 simp (disch:=omega)only[↓wr,seval,wq,rm,bj]
 refine aU.up a.length (fun i T H'=>(∀ j s,j < i→a[j]?=some s→s.bc≠k)∧T 0=bj a∧T 1=.aE (aT k)∧T 5=gi i) ⟨fun j s h=>by omega,rfl,rfl,rfl⟩ ?_
 rintro i n T H' l ⟨c,t0,t1,t5⟩
 obtain ⟨f1,f2⟩:=MP a k i c
 simp (disch:=omega)only[↓wr,seval,wq,pv,t0,t1,t5,bj]
 apply ah.dec<;>intro m
 ·have d:a[i]?=some (a[i]'(by omega)):=Xc (by omega)
  have hm:=hs _ (Xm (show i < a.length by omega))
  generalize a[i]'(by omega)=x at d hm
  simp (disch:=omega)only[↓wr,seval,wq,t0,t1,t5,bj,Xf,d,Xk,fZ]
  refine ay.pure (L7 x.bc k hm hk) ?_
  simp (disch:=omega)only[↓wr,seval,wq,t0,t1,t5]
  apply ah.split<;>intro e
  ·simp (disch:=omega)only[↓wr,seval,wq,t0,t1,t5]
   rw[f1 x d (by simpa using e)]
  ·simp (disch:=omega)only[↓wr,seval,wq,t0,t1,t5]
   refine aF l (by omega) ⟨fun j s o b=>?_,t0,t1,rfl⟩
   rcases XB j i with h | h
   ·exact c j s h b
   ·have:j=i:=by omega
    subst this
    rw[d] at b; simp at b; subst b
    simpa using e
 ·simp (disch:=omega)only[↓wr,seval,wq,t0,t1,t5]
  rw[f2 (by omega)]
theorem MI {g:ag} (a:g.dD) {s:aI} (h:cm s.bc∧s.bc≠[]∧∀ x∈s.bc,cU g x):aL s.bc:=by
 have:=iu a h.1 h.2.2; unfold aL; omega
theorem eO.WK {H:View} {u:V} {A:List pJ} {L:List cw} (h:ba H ((u,2,eS A) :: L)) (a:∀ x∈mq A,x∈L):eO H u (bj (A.map fun x=>x.2.2)):=by
 rintro c rfl
 exact (Ee h.head fun x b=>⟨h.1 _ (XJ _ (a _ (nV b).1)),h.1 _ (XJ _ (a _ (nV b).2))⟩).fr
theorem eO.lr {H:View} {u:V} {l:List aD} (h:aX H u 2 (aT l)):eO H u (.aE (aT l)) :=
 eO.own h fun e he v a=>by
  obtain ⟨x,_,rfl⟩:=Xw.1 he
  simp[cr] at a; rcases a with rfl | rfl <;> exact .val _
theorem nR {h:aC} {u v:V} {e:Int} (h1:dB h u v):dB h (.bp [u,gi e]) (.bp [v,gi e]):=.bp _ _ rfl fun i hi=>by
 match i,hi with
 | 0,_=>exact h1
 | 1,_=>exact .val _
theorem nB {α:Type} {l:List α} {i:Nat} (h:i < l.length):∃ a x b,l=a ++ x :: b∧a.length=i∧l[i]?=some x :=
 ⟨l.take i,l[i],l.drop (i+1),by rw[← XW h,List.take_append_drop],by simp; omega,Xc h⟩
theorem Cn {α:Type} (a:List α) (x:α) (b:List α) (f:α→α):(a ++ x :: b).modify a.length f=a ++ f x :: b:=by
 induction a with
 | nil=>rfl
 | cons y a c=>simp only[XQ,Xt,List.modify_succ_cons,c]
theorem iJ {g:ag} (h:isRed g=true):bG g=true:=by
 unfold isRed at h
 simp only[Xl,Yo,Xr] at h
 refine Yj fun a=>?_
 have h1:=h.1
 unfold fX at h1
 simp[a] at h1
theorem pF {g:ag} (h:isRed g=true):g.dD:=bJ (iJ h)
theorem Wi {α:Type} {a b c:α} {l:List α} : (a :: b :: c :: l).Perm (c :: b :: a :: l):=(List.Perm.swap _ _ _).trans (((List.Perm.swap _ _ _).cons _).trans (List.Perm.swap _ _ _))
theorem Vb {α:Type} {e u p r:α} {S:List α} : (e :: u :: p :: r :: S).Perm (u :: r :: (S ++ [p,e])) :=
 (List.Perm.swap _ _ _).trans (.cons _ (Wi.trans (.cons _ (List.perm_append_comm (l₁:=[p,e]) (l₂:=S)))))
theorem P6 {α:Type} {u r k e:α} {S1 b:List α} : (u :: r :: (S1 ++ k :: e :: b)).Perm (e :: u :: r :: (S1 ++ k :: b)):=by
 have h:(S1 ++ k :: e :: b).Perm (e :: (S1 ++ k :: b)):=by
  have:=XT (a:=e) (l₁:=S1 ++ [k]) (l₂:=b)
  simpa using this
 exact (((h.cons r).cons u).trans ((List.Perm.swap _ _ _).cons u)).trans (List.Perm.swap _ _ _)
theorem Ao (A:List pJ) (x:pJ) (B:List pJ):mq (A ++ x :: B)=mq A ++ (x.1,2,aT x.2.2.bc) :: (x.2.1,2,fc x.2.2.aG) :: mq B:=by simp[mq]
def Wd (g:ag) (m:Nat) (T:Env) (H:View):Prop:=∃ (at_:Nat) (u:V) (A:List pJ) (out:List aI),m+at_=302∧out=A.map (fun x=>x.2.2)∧ba H ((u,2,eS A) :: mq A)∧dU g at_ 0 out∧1≤out.length∧out.length≤300∧fM g m at_ out=bR g∧at_≤out.length ∧
 T 1=.aJ (ai g) 0∧T 4=u∧T 5=gi at_
theorem L1 (g:ag) (hg:g.Ok):dc Tryz.prog 25 [.agg (ai g)] (.bp [bj (bR g).1,gi (bR g).2]):=by
 refine dc.of (fu g) ?_
 have X:=U4 g hg
 refine aw.of mixed uW ?_
 simp only[ai,encS] at X
 simp (disch:=omega)only[↓wr,seval,wq,pY,ai,encS]
 refine ay.pure X ?_
 simp (disch:=omega)only[↓wr,seval,wq]
 apply ah.split<;>intro hr
 rotate_left
 ·simp (disch:=omega)only[↓wr,seval,wq]
  intro h' _
  have e:bR g=([],1):=by unfold bR; rw[Xd (by rw[hr]; simp)]
  rw[e]
  exact nR (.emp _)
 have v:g.dD:=pF hr
 have e0:fM g 302 0 dV=bR g:=by unfold bR; rw[Xg hr]
 have hT:=v.af; have hN:=v.ak
 simp (disch:=omega)only[↓wr,seval,wq]
 intro O q2 K
 have o0:ba (((View.set (fun _=>c6.dead) O (.arr 2 [[gi (-1),gi 0]])).set q2 (.arr 2 [[.sl O 0 1 2,.emp 1]]))) ((.sl q2 0 1 2,2,eS [(.sl O 0 1 2,.emp 1,⟨[⟨-1,0⟩],[]⟩)]) :: mq [(.sl O 0 1 2,.emp 1,⟨[⟨-1,0⟩],[]⟩)]) :=
  (((ba.nil.emp (k:=1) (sz:=2)).new (n:=O) rfl 2 [[gi (-1),gi 0]]).new (by simpa [View.set] using K) 2 [[.sl O 0 1 2,.emp 1]])
 generalize (View.set (fun _=>c6.dead) O (.arr 2 [[gi (-1),gi 0]])).set q2 (.arr 2 [[.sl O 0 1 2,.emp 1]])=H0 at o0 ⊢
 refine aU.intro (Wd g) 302 ⟨0,_,_,dV,rfl,rfl,o0,oh,Xo _,by simp[dV],e0,by omega,rfl,rfl,rfl⟩ ?_
 clear o0 K
 rintro m T H ⟨at_,u,A,out,hm,rfl,j,hI,h1,P,hl,hle,t1,t4,t5⟩
 have w:cH u=some A.length:=by rw[j.head.len,cZ]
 simp only[Xj] at h1 P hle
 simp (disch:=omega)only[↓wr,seval,wq,nN,t1,t4,t5,w]
 apply ah.dec<;>intro hc
 rotate_left
 ·simp (disch:=omega)only[↓wr,seval,wq,t1,t4,t5]
  have e1:bR g=(A.map (fun x=>x.2.2),0):=by
   rw[← hl]
   cases m with
   | zero=>rfl
   | succ m=>rw[fM,Xd (by simp; omega)]
  rw[e1]
  rintro h' rfl
  exact nR (Ee j.head fun x L=>⟨j.1 _ (XJ _ (nV L).1),j.1 _ (XJ _ (nV L).2)⟩)
 obtain ⟨m,rfl⟩:∃ q,m=q+1:=⟨m - 1,by omega⟩
 have z:at_ < A.length:=by omega
 obtain ⟨a,x,d,rfl,p,L⟩:=nB z
 have S:x∈a ++ x :: d:=by simp
 obtain ⟨Y,b1,C⟩:=hI.bc x.2.2 (List.mem_map_of_mem S)
 have b2:=iu v Y C
 have hh:aX H u 2 (eS (a ++ x :: d)):=j.head
 obtain ⟨id,hu,M⟩:=hh.sl (by rw[cZ]; omega)
 have D:(eS (a ++ x :: d)).getD at_ []=[x.1,x.2.1]:=by simp[eS,Xb,← p]
 have Z:cR g ((List.map (fun x=>x.2.2) (a ++ x :: d)).getD at_ aM).bc=cR g x.2.2.bc:=by
  rw[Xb,Xf,L]; rfl
 have Q:=fun n hn=>dU.row (hI.pb v (show at_ < ((a ++ x :: d).map fun x=>x.2.2).length by simpa using z)).1 (hI.pb v (show at_ < ((a ++ x :: d).map fun x=>x.2.2).length by simpa using z)).2 hI n hn
 rw[fM,Xg (by simpa using z),BO] at hl
 rw[Z] at hl Q
 have an:=jt g x.2.2.bc
 have aq:∀ y∈cR g x.2.2.bc,cU g y:=fun y hy=>((dt v C).1 hy).has C
 rw[cZ] at hu
 simp (disch:=omega)only[↓wr,seval,wq,t1,t4,t5,hu,M,D,ai,encS]
 refine ⟨by omega,by rw[cZ]; omega,?_⟩
 refine ay.dZ ((Hh g v x.2.2.bc C (by omega) x.1 H (j.1 _ (XJ _ (nV S).1))).mono ?_)
 rintro r H2 ⟨or,fr⟩
 have o2:=j.HW or fr
 clear or fr M D Z L
 generalize cR g x.2.2.bc=cl at *
 generalize h:(a ++ x :: d).map (fun x=>x.2.2)=E at *
 have ar:E.length=(a ++ x :: d).length:=by rw[← h]; simp
 simp (disch:=omega)only[↓wr,seval,wq,t1,t4,t5]
 refine aU.up (g.af.length+g.ak.length) (fun i T H'=>∃ (u:V) (A:List pJ),A.map (fun x=>x.2.2)=(List.range i).foldl (dd g cl at_) E∧ba H' ((r,2,aT cl) :: (u,2,eS A) :: mq A)∧T 1=.aJ (ai g) 0∧T 4=u∧T 5=gi at_∧T 6=r∧T 7=gi i)
  ⟨u,_,h,o2,t1,by rw[← hu]; exact t4,t5,rfl,rfl⟩ ?_
 rw[← ar] at h1 P hle z
 clear o2 j hh hu t1 t4 t5 w h S ar hc Y b1 C b2 p
 clear u H2 H T id a x d
 rintro i k T H' hk ⟨u,A,hA,j,t1,t4,t5,t6,t7⟩
 obtain ⟨iI,a1,a6⟩:=Q i (by omega)
 rw[← hA] at iI a1 a6
 rw[Xj] at a1 a6
 have w:cH u=some A.length:=by rw[j.tail.head.len,cZ]
 have cc:=iu v an aq
 simp (disch:=omega)only[↓wr,seval,wq,ow,t1,t4,t5,t6,t7,ai,encS]
 apply ah.dec<;>intro hc
 rotate_left
 ·have hi:i=g.af.length+g.ak.length:=by omega
  subst hi
  rw[← hA] at hl
  simp (disch:=omega)only[↓wr,seval,wq,t1,t4,t5,t6,w]
  apply ah.dec<;>intro h3
  ·simp (disch:=omega)only[↓wr,seval,wq]
   intro h' _
   rw[Xg (by rw[Xj]; omega)] at hl
   rw[← hl]
   exact nR (.emp _)
  ·simp (disch:=omega)only[↓wr,seval,wq,t1,t4,t5]
   rw[Xd (by rw[Xj]; omega)] at hl
   exact ⟨m,by omega,at_+1,u,A,_,by omega,rfl,j.tail,iI.next,by rw[Xj]; omega,by rw[Xj]; omega,hl,by rw[Xj]; omega,t1,t4,rfl⟩
 have a7:i < g.af.length+g.ak.length:=by omega
 have R:=JM g v i a7
 have cf:=Cw v a7
 simp only[ai,encS] at R
 simp (disch:=omega)only[↓wr,seval,wq,t1,t4,t5,t6,t7,ai,encS]
 refine ay.pure R ?_
 simp (disch:=omega)only[↓wr,seval,wq,t1,t4,t5,t6,t7,ai,encS]
 refine ay.dZ ((Mc g v cl an aq (aY g i) r H' j.head).mono ?_)
 rintro J H9 ⟨or,fr⟩
 have o9:=j.HW or fr
 have cg:=te (g:=g) (l:=cl) (s:=aY g i)
 have b3:cH J=some (bk g cl (aY g i)).length:=by rw[or.len,bM]
 have F:(List.range (i+1)).foldl (dd g cl at_) E=dd g cl at_ (A.map fun x=>x.2.2) i:=by rw[Ya,XZ,← hA]; rfl
 simp (disch:=omega)only[↓wr,seval,wq,t1,t4,t5,t6,t7,b3]
 apply ah.eq<;>intro he
 ·have a8:bk g cl (aY g i)=[]:=YD.1 (by omega)
  simp (disch:=omega)only[↓wr,seval,wq,t1,t4,t5,t6,t7]
  exact aF hk (by omega) ⟨u,A,by rw[F,dd,Xg a8],o9.tail,t1,t4,t5,t6,rfl⟩
 have bb:bk g cl (aY g i)≠[]:=fun e=>he (by rw[e]; rfl)
 simp (disch:=omega)only[↓wr,seval,wq,t1,t4,t5,t6,t7]
 have U:=OK (A.map fun x=>x.2.2) (by unfold aL; rw[Xj]; omega) (fun s hs=>MI v (iI.bc s hs)) (bk g cl (aY g i)) (by unfold aL; omega)
 refine ay.Bx U (by kernel_rfl) (.val _) ⟨eO.WK o9.tail.tail (fun x L=>L),eO.lr or,trivial⟩ ?_
 have b4:=xD (A.map fun x=>x.2.2) (bk g cl (aY g i))
 have ch:=tJ (A.map fun x=>x.2.2) (bk g cl (aY g i))
 rw[Xj] at b4
 have bd:at_ < A.length:=by omega
 simp (disch:=omega)only[↓wr,seval,wq,t1,t4,t5,t6,t7]
 obtain ⟨a,x,d,G,p,L⟩:=nB bd
 have cj:x.2.2.aG.length≤40:=(iI.aG at_ x.2.2 (by rw[Xf,L]; rfl)).1
 have D:∀ B,(eS (a ++ x :: B)).getD at_ []=[x.1,x.2.1]:=fun B=>by simp[eS,Xb,← p]
 have bl:∀ (B:List pJ) (c:bX),((a ++ x :: B).map fun x=>x.2.2).modify at_ (fun s=>(⟨s.bc,s.aG ++ [c]⟩:aI))=(a ++ (x.1,x.2.1,(⟨x.2.2.bc,x.2.2.aG ++ [c]⟩:aI)) :: B).map fun x=>x.2.2:=fun B c=>by
  rw[XD,XF,← p,← Xj (f:=fun x:pJ=>x.2.2),Cn,XD,XF]
 apply ah.dec<;>intro I
 simp (disch:=omega)only[↓wr,seval,wq,t1,t4,t5,t6,t7,w,or.cells,or.iO]
 intro q hq
 simp (disch:=omega)only[↓wr,seval,wq,bT]
 have b5:=(o9.fresh (o:=.arr 2 [[J,.emp 1]]) hq).at 2 (by simp)
 refine cB b5 (by simp[or.iO,Av]) (by unfold aB; rw[cZ]; simp; omega) (by unfold aB; rw[cZ]; simp; omega) ?_
 intro u2 W bn _
 simp only[Yf,Yb,Yw,Yx] at bn
 have b7:=(bn.emp (k:=1) (sz:=2)).perm Vb
 have t:dd g cl at_ (A.map fun x=>x.2.2) i=((a ++ x :: (d ++ [(J,.emp 1,(⟨bk g cl (aY g i),[]⟩:aI))])).map fun x=>x.2.2).modify at_ (fun s=>(⟨s.bc,s.aG ++ [⟨aY g i,(A.length:Int)⟩]⟩:aI)):=by
  rw[dd,Xd bb,Xg I,Xj]
  congr 1
  rw[G]; simp
 have b:ba W ((u2,2,eS (a ++ x :: (d ++ [(J,.emp 1,(⟨bk g cl (aY g i),[]⟩:aI))]))) :: (r,2,aT cl) :: mq (a ++ x :: (d ++ [(J,.emp 1,(⟨bk g cl (aY g i),[]⟩:aI))]))):=by
  have e1:eS (a ++ x :: (d ++ [(J,.emp 1,(⟨bk g cl (aY g i),[]⟩:aI))]))=eS A ++ [[J,.emp 1]]:=by rw[G]; simp[eS]
  have e2:mq (a ++ x :: (d ++ [(J,.emp 1,(⟨bk g cl (aY g i),[]⟩:aI))]))=mq A ++ [(J,2,aT (bk g cl (aY g i))),(.emp 1,2,[])]:=by rw[G]; simp[mq]; rfl
  rw[e1,e2]
  exact b7
 generalize (d ++ [(J,V.emp 1,(⟨bk g cl (aY g i),[]⟩:aI))])=B at t b
 generalize (A.length:Int)=to at t ⊢
 rotate_left
 have t:dd g cl at_ (A.map fun x=>x.2.2) i=((a ++ x :: d).map fun x=>x.2.2).modify at_ (fun s=>(⟨s.bc,s.aG ++ [⟨aY g i,findD (A.map fun x=>x.2.2) (bk g cl (aY g i))⟩]⟩:aI)):=by
  rw[dd,Xd bb,Xd I,← G]
 have b:=o9.tail.perm (.swap _ _ _)
 clear or fr
 generalize H9=W at o9 b ⊢
 obtain ⟨u2,b8⟩:∃ y,y=u:=⟨_,rfl⟩
 rw[← b8] at b t4
 rw[G] at b
 generalize findD (A.map fun x=>x.2.2) (bk g cl (aY g i))=to at t ⊢
 generalize d=B at t b
 all_goals (
  obtain ⟨id,hu,M⟩:=(show aX W u2 2 (eS (a ++ x :: B)) from b.head).sl (by rw[cZ]; simp; omega)
  rw[cZ] at hu
  rw[Ao] at b
  simp (disch:=omega)only[↓wr,seval,wq,t1,t4,t5,t6,t7,hu,M,D B]
  refine ⟨by simp; omega,by rw[cZ]; simp; omega,?_⟩
  intro q2 K
  simp (disch:=omega)only[↓wr,seval,wq,bT]
  refine cB ((b.perm P6).fresh K) (by simp[aO]) (by unfold aB; simp[fc]; omega) (by unfold aB; simp[fc]; omega) ?_
  intro e2 b9 N _
  have bq:b9 id=.arr 2 (eS (a ++ x :: B)):=((N.own 1 rfl).live (by rw[hu]; rfl)).1
  simp (disch:=omega)only[↓wr,seval,wq,t1,t4,t5,t6,t7,hu,bq,D B,N.head.cells,N.head.iO]
  have br:(eS (a ++ x :: B)).set at_ [x.1,e2]=eS (a ++ (x.1,e2,(⟨x.2.2.bc,x.2.2.aG ++ [⟨aY g i,to⟩]⟩:aI)) :: B):=by
   rw[← p]; simp[eS]
  have ca:fc (x.2.2.aG ++ [⟨aY g i,to⟩])=fc x.2.2.aG ++ [[gi (aY g i),gi to]]:=by simp[fc,jq]
  have bs:=N.perm (.swap _ _ _)
  rw[hu] at bs
  have bx:=((bs.put (es':=eS (a ++ (x.1,e2,(⟨x.2.2.bc,x.2.2.aG ++ [⟨aY g i,to⟩]⟩:aI)) :: B)) (by rw[cZ,cZ]; simp) (by rw[cZ])).perm (.swap _ _ _)).perm P6.symm
  rw[← ca] at bx
  have b0:=bx.perm (.swap _ _ _)
  rw[← hu] at b0
  rw[br]
  refine ⟨by simp; omega,by rw[cZ]; simp; omega,aF hk (by omega) ⟨u2,_,?_,by rw[Ao]; exact b0,t1,by first | rfl | exact t4 | exact hu.symm,t5,t6,rfl⟩⟩
  rw[F,t,bl]; simp)
abbrev gw (s:BV):V:=.val (.int .u32 s.toNat)
abbrev dL (l:List BV):List (List V):=l.map fun x=>[gw x]
theorem Tm {x:Int} (h1:0≤x) (c:x < 4294967296):IntKind.wrap .u32 x=x:=by
 unfold IntKind.wrap
 have a:(2:Int) ^ IntKind.u32.bits=4294967296:=by rfl
 have b:IntKind.u32.signed=false:=by rfl
 simp only[a,b,YS,Xr]
 simp
 omega
theorem Tg (s:BV):IntKind.wrap .u32 (s.toNat:Int)=s.toNat:=Tm (by omega) (by have:=s.isLt; omega)
theorem C7 (s:BV):BitVec.ofInt IntKind.u32.bits (s.toNat:Int)=s:=by
 show BitVec.ofInt 32 (s.toNat:Int)=s
 rw[BitVec.ofInt_natCast,BitVec.ofNat_toNat,BitVec.setWidth_eq]
theorem Ec (s t:BV):IntKind.wrap .u32 ((BitVec.ofInt IntKind.u32.bits (s.toNat:Int) ||| BitVec.ofInt IntKind.u32.bits (t.toNat:Int)).toNat:Int)=((s ||| t).toNat:Int):=by
 rw[C7,C7]; exact Tg (s ||| t)
theorem VH (s t:BV):IntKind.wrap .u32 ((BitVec.ofInt IntKind.u32.bits (s.toNat:Int) &&& BitVec.ofInt IntKind.u32.bits (t.toNat:Int)).toNat:Int)=((s &&& t).toNat:Int):=by
 rw[C7,C7]; exact Tg (s &&& t)
theorem toNat_zero {s:BV} : ((s.toNat:Nat):Int)=0↔s=0:=by
 constructor
 ·intro h; exact BitVec.eq_of_toNat_eq (by simpa using h)
 ·rintro rfl; rfl
theorem R5 {n:Int} (h:0≤n∧n≤31):(fG n).toNat=2 ^ n.toNat:=by
 rw[fG,Xg h,BitVec.toNat_twoPow]
 exact Nat.mod_eq_of_lt (Nat.pow_lt_pow_right (by omega) (by omega))
def kh:SC :=
 ae [ae [.region false [⟨none,[aa 26 11,aa 27 0,aa 28 1,aQ 29 2 27 28,ao 30 1 29,aj 31 30,aN 32 31,aV 33 .lss 26 32,aa 34 33]⟩,⟨(some (34,true)),[aa 35 10,de 36 35]⟩,⟨none,[eJ 37 34 36]⟩],bY 37 (.exit 2)],.block 3 (ae [ab [aa 40 0,aa 41 1,aQ 42 2 40 41,ao 43 1 42,aj 44 43,aa 45 11,aQ 46 2 44 45,ao 47 0 46,aj 48 47,aa 49 2,aa 50 8,aQ 51 1 49 50,aj 52 51,aV 53 .eql 48 52],bf 53 (ab [aa 54 0,aa 55 1,aQ 56 2 54 55,ao 57 1 56,aj 58 57,aa 59 11,aQ 60 2 58 59,ao 61 1 60,aj 62 61,aa 9 62,bu 10 true])]),ab [aa 38 11,aH 39 .add 38 1,aa 11 39]]
def pa:SC :=
 ae [ae [ab [aa 20 8,aa 21 2,aN 22 21,aV 23 .lss 20 22],bY 23 (.exit 0)],.block 1 (ae [ab [aS 9 (-1),bu 10 false],ae [ab [aS 11 0],b6 2 kh],ae [.region false [⟨none,[aa 63 9,aH 64 .lss 63 0,aa 65 64]⟩,⟨(some (65,false)),[aa 66 9,aa 67 0,aN 68 67,aV 69 .geq 66 68]⟩,⟨none,[cz 70 65 69]⟩],bf 70 (ae [ab [aS 6 0,bu 7 false],.ret])],ab [aa 71 9,aa 1 71]]),ab [aa 24 8,aH 25 .add 24 1,aa 8 25]]
def rn:SF:=⟨ae [ab [aS 6 0,bu 7 false],ae [.region false [⟨none,[aa 12 1,aH 13 .lss 12 0,aa 14 13]⟩,⟨(some (14,false)),[aa 15 1,aa 16 0,aN 17 16,aV 18 .geq 15 17]⟩,⟨none,[cz 19 14 18]⟩],bf 19 (ae [ab [aS 6 0,bu 7 false],.ret])],ae [ab [aS 8 0],b6 0 pa],ab [aa 72 1,aa 6 72,bu 7 true],.ret],
 [.tmp 6,.tmp 7],73⟩
theorem vB:aR Tryz.prog 29 []=some rn:=by kernel_rfl
instance (g:ag) (x:aD):Decidable (cU g x):=by unfold cU; infer_instance
theorem FG {α:Type} {l:List α} {p:α→Bool} {i:Nat} {x:α} (h:l[i]?=some x):(l.take (i+1)).filter p=if p x=true then (l.take i).filter p ++ [x] else (l.take i).filter p:=by
 rw[XH,h,YG]
 split
 ·rename_i hp; simp[hp]
 ·rename_i hp; simp[hp]
theorem M4:∀ (l:List bX) (s:Int) (k:Nat) (e:bX),l[k]?=some e→c7 (l.drop k) s=if e.sym=s then e.to else c7 (l.drop (k+1)) s:=by
 intro l s k e h
 obtain ⟨hk,he⟩:=Xq.1 h
 rw[XW hk,he,c7]
theorem FH (a:List aI) (t:aL a) (he:∀ s∈a,aL s.aG∧∀ e∈s.aG,cy e.sym∧cy e.to) (fr:Int) (syms:List Int) (hs:aL syms):aA Tryz.prog 29 [bj a,gi fr,encI syms] (.bp [gi (eT a fr syms).1,gb (eT a fr syms).2]):=by
 unfold aL at t hs
 refine aA.tree (by
  intro v p; simp at p
  rcases p with rfl | rfl | rfl
  ·exact kD _
  ·exact .val _
  ·exact gp _) (Gu (.val _) (.val _)) fun H=>?_
 refine aw.of mixed vB ?_
 unfold eT
 simp (disch:=omega)only[↓wr,seval,wq,rn,bj,encI]
 apply ah.dec<;>intro h1
 ·simp (disch:=omega)only[↓wr,seval,wq]
  rw[Xg (by omega)]
 simp (disch:=omega)only[↓wr,seval,wq,bj]
 apply ah.dec<;>intro u
 ·simp (disch:=omega)only[↓wr,seval,wq]
  rw[Xg (by omega)]
 rw[Xd (by omega)]
 simp (disch:=omega)only[↓wr,seval,wq]
 refine aU.up syms.length (fun i T H'=>∃ at_:Int,0≤at_∧at_ < a.length∧eZ a at_ (syms.drop i)=eZ a fr syms∧T 0=bj a∧T 1=gi at_∧T 2=encI syms∧T 8=gi i) ⟨fr,by omega,by omega,rfl,rfl,rfl,rfl,rfl⟩ ?_
 rintro i k T H' hk ⟨at_,A,B,hw,t0,t1,t2,t8⟩
 simp (disch:=omega)only[↓wr,seval,wq,pa,t0,t1,t2,t8,encI]
 apply ah.dec<;>intro w
 ·have q:syms[i]?=some (syms[i]'(by omega)):=Xc (by omega)
  rw[XW (show i < syms.length by omega)] at hw
  generalize syms[i]'(by omega)=x at q hw
  have d:a[at_.toNat]?=some (a.getD at_.toNat aM):=getD_some (by omega)
  obtain ⟨f,h⟩:=he _ (Xi d)
  rw[eZ] at hw
  generalize a.getD at_.toNat aM=S at d f h hw
  unfold aL at f
  simp (disch:=omega)only[↓wr,seval,wq,t0,t1,t2,t8]
  refine aU.up S.aG.length (fun j T H'=>∃ (to:Int) (ok:Bool),(ok=true→to=c7 S.aG x)∧(ok=false→to = -1∧c7 (S.aG.drop j) x=c7 S.aG x)∧T 0=bj a∧T 1=gi at_∧T 2=encI syms∧T 8=gi i∧T 9=gi to∧T 10=gb ok∧T 11=gi j)
   ⟨-1,false,by simp,fun _=>⟨rfl,rfl⟩,t0,t1,t2,t8,rfl,rfl,rfl⟩ ?_
  clear t0 t1 t2 t8
  rintro j k2 C D g ⟨to,ok,y,z,t0,t1,t2,t8,t9,t10,t11⟩
  cases ok with
  | true =>
   have b:=y rfl
   simp (disch:=omega)only[↓wr,seval,wq,kh,t0,t1,t2,t8,t9,t10,t11,bj,Xf,d,Xk,fZ,fc]
   apply ah.dec<;>intro _
   all_goals (
    simp (disch:=omega)only[↓wr,seval,wq,t0,t1,t2,t8,t9,t10,t11,bj,b]
    apply ah.dec<;>intro l
    ·simp (disch:=omega)only[↓wr,seval,wq]
     rw[← hw,Xd (by omega)]
    ·simp (disch:=omega)only[↓wr,seval,wq,t0,t1,t2,t8,t9,bj,b]
     apply ah.dec<;>intro m
     ·simp (disch:=omega)only[↓wr,seval,wq]
      rw[← hw,Xd (by omega)]
     ·simp (disch:=omega)only[↓wr,seval,wq,t0,t1,t2,t8,t9,b]
      rw[Xg ⟨by omega,by omega⟩] at hw
      exact aF hk (by omega) ⟨_,by omega,by omega,hw,t0,rfl,t2,rfl⟩)
  | false =>
   obtain ⟨r,c⟩:=z rfl
   simp (disch:=omega)only[↓wr,seval,wq,kh,t0,t1,t2,t8,t9,t10,t11,bj,Xf,d,Xk,fZ,fc]
   apply ah.dec<;>intro n
   ·have hE:S.aG[j]?=some (S.aG[j]'(by omega)):=Xc (by omega)
    generalize S.aG[j]'(by omega)=E at hE
    rw[M4 _ _ _ _ hE] at c
    simp (disch:=omega)only[↓wr,seval,wq,t0,t1,t2,t8,t9,t10,t11,bj,encI,Xf,d,q,Xk,fZ,fc,hE,jq]
    apply ah.eq<;>intro o
    ·rw[Xg o] at c
     simp (disch:=omega)only[↓wr,seval,wq,t0,t1,t2,t8,t9,t10,t11,bj,Xf,d,Xk,fZ,fc,hE,jq]
     exact aF g (by omega) ⟨E.to,true,fun _=>c,by simp,t0,t1,t2,t8,rfl,rfl,rfl⟩
    ·rw[Xd o] at c
     simp (disch:=omega)only[↓wr,seval,wq,t0,t1,t2,t8,t9,t10,t11]
     exact aF g (by omega) ⟨to,false,by simp,fun _=>⟨r,c⟩,t0,t1,t2,t8,t9,t10,rfl⟩
   ·rw[XK (by omega),c7,← r] at c
    have b:=c
    simp (disch:=omega)only[↓wr,seval,wq,t0,t1,t2,t8,t9,t10,t11,bj,b]
    apply ah.dec<;>intro l
    ·simp (disch:=omega)only[↓wr,seval,wq]
     rw[← hw,Xd (by omega)]
    ·simp (disch:=omega)only[↓wr,seval,wq,t0,t1,t2,t8,t9,bj,b]
     apply ah.dec<;>intro m
     ·simp (disch:=omega)only[↓wr,seval,wq]
      rw[← hw,Xd (by omega)]
     ·simp (disch:=omega)only[↓wr,seval,wq,t0,t1,t2,t8,t9,b]
      rw[Xg ⟨by omega,by omega⟩] at hw
      exact aF hk (by omega) ⟨_,by omega,by omega,hw,t0,rfl,t2,rfl⟩
 ·simp (disch:=omega)only[↓wr,seval,wq,t1]
  rw[XK (by omega),eZ] at hw
  rw[← hw]
section
variable {H:View} {b:Nat} {g:ag} {a:List aI} {ul us:V} {vs:List V} {ls:List (List aD)} {ss:Sets} {more:Bool} {L:List cw}
end
section
variable {H:View} {b:Nat} {g:ag} {a:List aI} {ul us:V} {vs:List V} {ls:List (List aD)} {ss:Sets} {more:Bool} {L:List cw}
end
section
variable {H:View} {b:Nat} {g:ag} {a:List aI} {ul us:V} {vs:List V} {ls:List (List aD)} {ss:Sets} {more:Bool} {L:List cw}
end
def C2 (p:cd):List V:=[gi p.ax,gw p.set]
def kB (l:List cd):List (List V):=l.map C2
def DA (l:List (List cd)):V:=.aE (l.map fun r=>[.aE (kB r)])
theorem TX (l:List cd):Tree (.aE (kB l)):=eN _ _ fun x _ v a=>by simp[C2] at a; rcases a with rfl | rfl <;> exact .val _
abbrev LX:=List (V × List cd)
def pU (B:LX):List cw:=B.map fun x=>(x.1,2,kB x.2)
theorem Ux {h:aC} {u:V} {B:LX} (f:aX h.view u 1 (bm B)) (g:∀ x∈B,aX h.view x.1 2 (kB x.2)):dB h u (DA (B.map (·.2))):=by
 have c:∀ i (hi:i < B.length),(bm B).getD i []=[(B[i]).1]∧(((B.map (·.2)).map fun r=>[V.aE (kB r)]).getD i [])=[.aE (kB (B[i]).2)]:=fun i hi=>by
  simp[bm,Xb,hi]
 refine dB.own f (by simp[bm]) (fun i hi=>?_) (fun i j hi b=>?_)
 ·have a:i < B.length:=by simpa [bm] using hi
  rw[(c i a).1,(c i a).2]; rfl
 ·have a:i < B.length:=by simpa [bm] using hi
  rw[(c i a).2] at b ⊢
  rw[(c i a).1]
  have:j=0:=by simp at b; omega
  subst this
  simp only[Yk]
  have d:=g _ (Xm a)
  generalize (B[i]'a).2=l at d
  refine dB.own d rfl (fun i _=>rfl) (fun i j hi b=>?_)
  simp only[kB,Xj] at hi
  have e:(kB l).getD i []=C2 l[i]:=by simp[kB,Xb,hi]
  rw[e] at b ⊢
  match j,b with
  | 0,_=>exact .val _
  | 1,_=>exact .val _
theorem F8 {g:ag} {t:Int} {x:Term} (h:g.af[t.toNat]?=some x):gC g t=x.level∧wv g t=x.assoc:=by
 simp[gC,wv,h]
def ta:SF:=⟨ae [ab [bu 2 false],ab [aa 3 0,aa 4 0,aV 5 .neq 3 4,aa 2 5],.ret],
 [.tmp 2],6⟩
theorem yB:aR Tryz.prog 173 []=some ta:=by kernel_rfl
def rM:SF:=⟨ae [ab [aS 4 0],ab [aa 7 0,bz 8 173 [7],aa 5 8],ab [aa 9 1,bz 10 173 [9],aa 6 10],ae [ab [aa 11 5],bf 11 (ae [ae [ab [aa 12 6],bf 12 (ae [ab [aS 4 0],.ret])],ab [aS 4 (-1)],.ret])],ae [ab [aa 13 6],bf 13 (ae [ab [aS 4 1],.ret])],ae [ab [aa 14 0,aa 15 1,aV 16 .lss 14 15],bf 16 (ae [ab [aS 4 (-1)],.ret])],ae [ab [aa 17 0,aa 18 1,aV 19 .gtr 17 18],bf 19 (ae [ab [aS 4 1],.ret])],ab [aS 4 0],.ret],
 [.tmp 4],20⟩
theorem v8:aR Tryz.prog 126 []=some rM:=by kernel_rfl
def vP:SF:=⟨ae [ab [cI 3 0,aS 6 0],.block 0 (ae [.region false [⟨none,[bg 11 4 3,bz 12 52 [11],de 13 12,aa 14 13]⟩,⟨(some (14,false)),[aa 15 1,aH 16 .lss 15 0]⟩,⟨none,[cz 17 14 16,aa 18 17]⟩,⟨(some (18,false)),[aa 19 1,ao 20 2 3,aj 21 20,aN 22 21,aV 23 .geq 19 22]⟩,⟨none,[cz 24 18 23,aa 25 24]⟩,⟨(some (25,false)),[aa 26 2,aH 27 .lss 26 0]⟩,⟨none,[cz 28 25 27,aa 29 28]⟩,⟨(some (29,false)),[aa 30 2,ao 31 0 3,aj 32 31,aN 33 32,aV 34 .gtr 30 33]⟩,⟨none,[cz 35 29 34,aa 10 35]⟩],.cond (.tmp 10) (ae [ab [aS 6 0],.ret]) (ae [.region false [⟨none,[aa 37 2,ao 38 0 3,aj 39 38,aN 40 39,aV 41 .eql 37 40,aa 42 41]⟩,⟨(some (42,false)),[ao 43 2 3,aj 44 43,aa 45 1,aQ 46 3 44 45,ao 47 2 46,aj 48 47,aH 49 .lss 48 0]⟩,⟨none,[cz 50 42 49,aa 36 50]⟩],bf 36 (ae [ab [aS 6 4],.ret])])]),.region false [⟨none,[ao 51 0 3,aj 52 51,ao 53 2 3,aj 54 53,aa 55 1,aQ 56 3 54 55,ao 57 2 56,aj 58 57,aQ 59 3 52 58,bg 60 3 59,ao 61 0 3,aj 62 61,aa 63 2,aQ 64 3 62 63,bg 65 3 64,((some 7),.op (.alloc [(.val (.string ⟨#[]⟩)),(.val (.int .i64 0)),(.val (.int .i64 0))])),((some 8),.op (.alloc [(.val (.string ⟨#[]⟩)),(.val (.int .i64 0)),(.val (.int .i64 0))])),bU 3 7 60,bU 3 8 65]⟩],ae [.region false [⟨none,[ao 66 1 7,aj 67 66,aH 68 .eql 67 0,aa 69 68]⟩,⟨(some (69,false)),[ao 70 1 8,aj 71 70,aH 72 .eql 71 0]⟩,⟨none,[cz 73 69 72]⟩],bf 73 (ae [ab [aS 6 4],.ret])],ae [ab [ao 74 1 7,aj 75 74,ao 76 1 8,aj 77 76,bz 78 126 [75,77],aa 9 78],.block 1 (ae [ab [aa 80 9,aH 81 .gtr 80 0,aa 79 81],.cond (.tmp 79) (ae [ab [aS 6 1],.ret]) (ae [ab [aa 83 9,aH 84 .lss 83 0,aa 82 84],bf 82 (ae [ab [aS 6 2],.ret])])])],ae [ab [ao 85 2 8,aj 86 85],.block 2 (ae [ab [aH 88 .eql 86 1,aa 87 88],.cond (.tmp 87) (ae [ab [aS 6 1],.ret]) (ae [ab [aH 90 .eql 86 2,aa 89 90],bf 89 (ae [ab [aS 6 2],.ret])])])],ab [aS 6 3],.ret],
 [.tmp 6],91⟩
theorem AQ:aR Tryz.prog 84 [3]=some vP:=by kernel_rfl
def Ju (x y:Int):Int:=if x < y then -1 else if y < x then 1 else 0
theorem Jh (x:Int):aA Tryz.prog 173 [gi x] (gb false):=by
 refine aA.val (by intro v a; simp at a; subst a; exact .val _) fun H=>?_
 refine aw.of mixed yB ?_
 simp (disch:=omega)only[↓wr,seval,wq,ta]
 try simp
theorem MU (x y:Int):aA Tryz.prog 126 [gi x,gi y] (gi (Ju x y)):=by
 refine aA.val (by intro v b; simp at b; rcases b with rfl | rfl <;> exact .val _) fun H=>?_
 refine aw.of mixed v8 ?_
 simp (disch:=omega)only[↓wr,seval,wq,rM]
 refine ay.pure (Jh x) ?_
 simp (disch:=omega)only[↓wr,seval,wq]
 refine ay.pure (Jh y) ?_
 simp (disch:=omega)only[↓wr,seval,wq]
 apply ah.dec<;>intro h1
 ·simp (disch:=omega)only[↓wr,seval,wq]
  rw[Ju,Xg h1]
 simp (disch:=omega)only[↓wr,seval,wq]
 apply ah.dec<;>intro a
 ·simp (disch:=omega)only[↓wr,seval,wq]
  rw[Ju,Xd h1,Xg a]
 simp (disch:=omega)only[↓wr,seval,wq]
 rw[Ju,Xd h1,Xd a]
theorem MC (g:ag) (w:g.Ok) (i:g.Small) (ax term:Int):aA Tryz.prog 84 [.agg (ai g),gi ax,gi term] (gi (im g ax term)):=by
 refine aA.val (by
  intro v l; simp at l
  rcases l with rfl | rfl | rfl
  ·exact cq _ (dE g)
  ·exact .val _
  ·exact .val _) fun H=>?_
 have c:=nQ g w i.names
 refine aw.of mixed AQ ?_
 simp only[ai,encS] at c
 simp (disch:=omega)only[↓wr,seval,wq,vP,ai,encS]
 refine ay.pure c ?_
 have bad:bG g=false∨ax < 0∨(g.rules.length:Int)≤ax∨term < 0∨(g.af.length:Int) < term→im g ax term=0:=fun h=>by rw[im,Xg h]
 cases hr:bG g with
 | false =>
  simp (disch:=omega)only[↓wr,seval,wq]
  rw[bad (.inl hr)]
 | true =>
  have x:=bJ hr
  simp (disch:=omega)only[↓wr,seval,wq]
  apply ah.dec<;>intro h1
  ·simp (disch:=omega)only[↓wr,seval,wq]
   rw[bad (.inr (by omega))]
  simp (disch:=omega)only[↓wr,seval,wq,ai]
  apply ah.dec<;>intro y
  ·simp (disch:=omega)only[↓wr,seval,wq]
   rw[bad (.inr (by omega))]
  simp (disch:=omega)only[↓wr,seval,wq]
  apply ah.dec<;>intro z
  ·simp (disch:=omega)only[↓wr,seval,wq]
   rw[bad (.inr (by omega))]
  simp (disch:=omega)only[↓wr,seval,wq,ai]
  apply ah.dec<;>intro A
  ·simp (disch:=omega)only[↓wr,seval,wq]
   rw[bad (.inr (by omega))]
  have f:g.rules[ax.toNat]?=some (av g ax):=by unfold av; exact getD_some (by omega)
  have B:=x.prec _ (Xi f)
  have m:im g ax term=if term=g.af.length∨(av g ax).prec < 0∨gC g (av g ax).prec=0∨gC g term=0 then 4
    else if gC g term < gC g (av g ax).prec∨gC g (av g ax).prec=gC g term∧wv g term=1 then 1
    else if gC g (av g ax).prec < gC g term∨wv g term=2 then 2 else 3:=by
   rw[im,Xd (by rw[hr]; simp; omega)]
  rw[m]
  clear m bad
  generalize av g ax=R at f B
  simp (disch:=omega)only[↓wr,seval,wq,ai]
  apply ah.eq<;>intro n
  ·simp (disch:=omega)only[↓wr,seval,wq]
   rw[Xg (.inl n)]
  simp (disch:=omega)only[↓wr,seval,wq,ai,Xf,f,Xk,aP]
  apply ah.dec<;>intro o
  ·simp (disch:=omega)only[↓wr,seval,wq]
   rw[Xg (.inr (.inl o))]
  have hp:g.af[R.prec.toNat]?=some (g.af[R.prec.toNat]'(by omega)):=Xc (by omega)
  have hq:g.af[term.toNat]?=some (g.af[term.toNat]'(by omega)):=Xc (by omega)
  generalize g.af[R.prec.toNat]'(by omega)=p at hp
  generalize g.af[term.toNat]'(by omega)=q at hq
  obtain ⟨C,_⟩:=F8 hp
  obtain ⟨D,E⟩:=F8 hq
  rw[C,D,E]
  have d:=MU p.level q.level
  simp (disch:=omega)only[↓wr,seval,wq,ai,Xf,f,hp,hq,Xk,aP,bW]
  intro r F s j
  have a:¬ r=s:=fun e=>(cO j cJ).1 e.symm
  have b:¬ s=r:=fun e=>a e.symm
  simp (disch:=omega)only[↓wr,seval,wq,a,b,set_set,bW]
  apply ah.eq<;>intro t
  ·simp (disch:=omega)only[↓wr,seval,wq]
   rw[Xg (.inr (.inr (.inl t)))]
  simp (disch:=omega)only[↓wr,seval,wq,a,b,bW]
  apply ah.eq<;>intro u
  ·simp (disch:=omega)only[↓wr,seval,wq]
   rw[Xg (.inr (.inr (.inr u)))]
  rw[Xd (by omega)]
  simp (disch:=omega)only[↓wr,seval,wq,a,b,bW]
  refine ay.pure d ?_
  unfold Ju
  simp (disch:=omega)only[↓wr,seval,wq]
  by_cases c1:p.level < q.level
  ·rw[Xg c1,Xd (by omega),Xg (by omega)]
   refine ah.dec (fun h=>absurd h (by omega)) (fun _=>?_)
   simp (disch:=omega)only[↓wr,↓reduceIte,wq,Nat.reduceEqDiff,Nat.reduceAdd,Nat.reduceLT,Nat.reduceLeDiff,Int.reduceNeg,Int.reduceToNat,reduceCtorEq]
   refine ah.dec (fun _=>?_) (fun h=>absurd (by omega) h)
   simp (disch:=omega)only[↓wr,seval,wq]
  rw[Xd c1]
  by_cases c2:q.level < p.level
  ·rw[Xg c2,Xg (by omega)]
   refine ah.dec (fun _=>?_) (fun h=>absurd (by omega) h)
   simp (disch:=omega)only[↓wr,seval,wq]
  rw[Xd c2]
  refine ah.dec (fun h=>absurd h (by omega)) (fun _=>?_)
  simp (disch:=omega)only[↓wr,↓reduceIte,wq,Nat.reduceEqDiff,Nat.reduceAdd,Nat.reduceLT,Nat.reduceLeDiff,Int.reduceNeg,Int.reduceToNat,reduceCtorEq]
  refine ah.dec (fun h=>absurd h (by omega)) (fun _=>?_)
  simp (disch:=omega)only[↓wr,seval,wq,a,b,bW]
  apply ah.eq<;>intro G
  ·simp (disch:=omega)only[↓wr,seval,wq]
   rw[Xg (by omega)]
  simp (disch:=omega)only[↓wr,seval,wq]
  apply ah.eq<;>intro k
  ·simp (disch:=omega)only[↓wr,seval,wq]
   rw[Xd (by omega),Xg (by omega)]
  simp (disch:=omega)only[↓wr,seval,wq]
  rw[Xd (by omega),Xd (by omega)]
def S5 (c:kd):List V:=[gi c.state,gi c.term,gi c.kind,gi c.ax,gi c.other]
def kz (l:List kd):List (List V):=l.map S5
theorem ql (l:List kd):(kz l).length=l.length:=by simp[kz]
theorem US {h:aC} {u:V} {l:List kd} (b:aX h.view u 5 (kz l)):dB h u (.aE (kz l)):=by
 refine dB.own b rfl (fun i _=>rfl) (fun i j hi a=>?_)
 rw[ql] at hi
 have e:(kz l).getD i []=S5 l[i]:=by simp[kz,Xb,hi]
 rw[e] at a ⊢
 match j,a with
 | 0,_=>exact .val _
 | 1,_=>exact .val _
 | 2,_=>exact .val _
 | 3,_=>exact .val _
 | 4,_=>exact .val _
theorem Cx (l:List cd) (n:Int):(fv l n).length≤l.length:=by
 unfold fv; rw[Xj]; exact X9 _ _
theorem MO (g:ag) (s:aI) (l:List cd) (st t:Int):(fH g s l st t).2.length≤l.length:=by
 have:=Cx l t
 unfold fH
 cases h:fv l t with
 | nil=>simp
 | cons r rs =>
  rw[h] at this
  simp only[Xt] at this
  simp only
  split
  ·simp[jr]; omega
  ·simp[jr]; omega
theorem Me (g:ag) (s:aI) (l:List cd) (st:Int) (n:Nat):fo g s l st (n+1)=fo g s l st n ++ [(fH g s l st n).1]:=by simp[fo,Ya]
theorem FB (g:ag) (s:aI) (l:List cd) (st:Int) (n:Nat):tc g s l st (n+1)=tc g s l st n ++ (fH g s l st n).2:=by simp[tc,Ya]
theorem Bz {g:ag} {s:aI} {l:List cd} {st:Int} (hl:l.length≤10000):∀ n:Nat,(tc g s l st n).length≤n * 10000
 | 0=>by simp[tc]
 | n+1=>by
  have h1:=Bz (g:=g) (s:=s) (st:=st) hl n
  have a:=MO g s l st n
  rw[FB,XV]
  omega
theorem E3 (g:ag) (a:List aI) (l:List (List cd)) (n:Nat):oW g a l (n+1)=oW g a l n ++ tc g (a.getD n aM) (l.getD n []) n (g.af.length+1):=by simp[oW,Ya]
theorem I2 {g:ag} {a:List aI} {l:List (List cd)} (hl:∀ i,(l.getD i []).length≤10000) (b:g.af.length≤24):∀ n:Nat,(oW g a l n).length≤n * 250000
 | 0=>by simp[oW]
 | n+1=>by
  have h1:=I2 (a:=a) hl b n
  have c:=Bz (g:=g) (s:=a.getD n aM) (st:=n) (hl n) (g.af.length+1)
  rw[E3,XV]
  omega
theorem Fb {h:aC} {u v s t w x:V} {e:Int} (h1:dB h u s) (a:dB h v t) (b:dB h w x):dB h (.bp [.agg [u,v],w,gi e]) (.bp [.agg [s,t],x,gi e]):=.bp _ _ rfl fun i hi=>by
 match i,hi with
 | 0,_=>exact TH h1 a
 | 1,_=>exact b
 | 2,_=>exact .val _
theorem Vp {α:Type} {X Y:α} {C I:List α} : (Y :: X :: (C ++ I)).Perm ((C ++ [X]) ++ (I ++ [Y])):=by
 rw[← XO]
 refine .trans (.cons Y ?_) (List.perm_append_singleton Y _).symm
 rw[XO]
 exact XT.symm
def mP:SF:=⟨ae [ab [cI 9 4,((some 10),.op (.alloc [(.val (.int .i64 0)),(.val (.int .i64 0))]))],ab [aa 12 0,ep 13 12,ao 14 0 13,bg 15 4 14,aa 16 3,aa 17 2,bz 18 84 [15,16,17],aa 11 18],ab [aa 19 0,aa 20 0,ep 21 20,ao 22 6 21,aj 23 22,aa 24 1,aa 25 2,aa 26 11,aa 27 3,((some 28),.op (.build [(.val (.int .i64 0)),(.val (.int .i64 0)),(.val (.int .i64 0)),(.val (.int .i64 0)),(.val (.int .i64 0))] [(0,1,(.tmp 24)),(1,1,(.tmp 25)),(2,1,(.tmp 26)),(3,1,(.tmp 27)),(4,1,(.val (.val (.int .i64 (-1)))))])),((some 29),.op (.bV 1 5 [(.val (.int .i64 0)),(.val (.int .i64 0)),(.val (.int .i64 0)),(.val (.int .i64 0)),(.val (.int .i64 0))] [(0,(.tmp 28))])),gY 30 5 40 23 29,ep 31 19,ao 32 6 31,bU 1 32 30],ae [ab [aa 33 11],.block 0 (ae [ab [aH 35 .eql 33 1,aa 34 35],.cond (.tmp 34) (ae [ab [aa 36 3,((some 37),.op (.build [(.val (.int .i64 0)),(.val (.int .i64 0))] [(0,1,(.val (.val (.int .i64 2)))),(1,1,(.tmp 36))])),bU 2 10 37],.ret]) (ae [ab [aH 39 .eql 33 3,aa 38 39],bf 38 (ae [ab [((some 40),.op (.build [(.val (.int .i64 0)),(.val (.int .i64 0))] [])),bU 2 10 40],.ret])])])],ab [bg 41 2 9,bU 2 10 41],.ret],
 [.cell 10 (some 2)],42⟩
theorem sk:aR Tryz.prog 176 [9]=some mP:=by kernel_rfl
def mX:SC :=
 ae [ab [aV 21 .lss 20 19],bY 21 (.exit 0),.block 1 (ae [ab [aQ 22 1 18 20,aj 23 22,aa 12 23],ab [aa 24 0,aa 25 0,ep 26 25,ao 27 6 26,aj 28 27,aa 29 1,aa 30 2,aa 31 12,aa 32 3,((some 33),.op (.idx 1 (.tmp 32) (.val (.val (.int .i64 0))))),aj 34 33,((some 35),.op (.build [(.val (.int .i64 0)),(.val (.int .i64 0)),(.val (.int .i64 0)),(.val (.int .i64 0)),(.val (.int .i64 0))] [(0,1,(.tmp 29)),(1,1,(.tmp 30)),(2,1,(.val (.val (.int .i64 5)))),(3,1,(.tmp 31)),(4,1,(.tmp 34))])),((some 36),.op (.bV 1 5 [(.val (.int .i64 0)),(.val (.int .i64 0)),(.val (.int .i64 0)),(.val (.int .i64 0)),(.val (.int .i64 0))] [(0,(.tmp 35))])),gY 37 5 40 28 36,ep 38 24,ao 39 6 38,bU 1 39 37]]),ab [aH 40 .add 20 1,aa 20 40]]
def oZ:SF:=⟨ae [ab [cI 9 4,((some 10),.op (.alloc [(.val (.int .i64 0)),(.val (.int .i64 0))]))],ae [ab [aa 13 3,aN 14 13,aH 15 .eql 14 0],bf 15 (ae [ab [bg 16 2 9,bU 2 10 16],.ret])],ae [ab [aa 17 3,((some 18),.op (.slice 1 (.tmp 17) (some (.val (.val (.int .i64 1)))) none)),aN 19 18,aS 20 0],b6 0 mX],ae [ab [ao 41 0 9,aj 42 41,aH 43 .eql 42 0],bf 43 (ae [ab [aa 44 3,((some 45),.op (.idx 1 (.tmp 44) (.val (.val (.int .i64 0))))),aj 46 45,((some 47),.op (.build [(.val (.int .i64 0)),(.val (.int .i64 0))] [(0,1,(.val (.val (.int .i64 2)))),(1,1,(.tmp 46))])),bU 2 10 47],.ret])],ab [aa 48 0,aa 49 1,aa 50 2,aa 51 3,((some 52),.op (.idx 1 (.tmp 51) (.val (.val (.int .i64 0))))),aj 53 52,bg 54 2 9,bz 55 176 [48,49,50,53,54],bU 2 10 55],.ret],
 [.cell 10 (some 2)],56⟩
theorem tP:aR Tryz.prog 129 [9]=some oZ:=by kernel_rfl
abbrev ed (g:ag) (ua ug uc:V):List V:=[.aE (g.af.map bW),.aE (g.ak.map fun s=>[gs s]),.aE (g.rules.map aP),gi g.start,ua,ug,uc]
def setCell (g:ag) (r t:Int) (x:Cell):Cell:=if im g r t=1 then ⟨2,r⟩ else if im g r t=3 then ⟨0,0⟩ else x
def cellOf (g:ag) (st t:Int) (x:Cell):List Int→Cell × List kd
 | []=>(x,[])
 | r :: rs=>if x.kind=0 then (⟨2,r⟩,jr st t r rs) else (setCell g r t x,jr st t r rs ++ [⟨st,t,im g r t,r,-1⟩])
theorem PW (g:ag) (s:aI) (l:List cd) (st t:Int):fH g s l st t=cellOf g st t (eL g s t) (fv l t):=by
 unfold fH
 cases fv l t with
 | nil=>rfl
 | cons r rs=>rfl
theorem M7 (g:ag) (D:g.Ok) (o:g.Small) (l m w:V) (C:List kd) (b:Nat) (L:List cw) (H:View) (y:ba H ((w,5,kz C) :: (.sl b 0 1 7,7,[ed g l m w]) :: L)) (J:C.length≤100000000) (st t r:Int) (x:Cell) :
  aw Tryz.prog 176 [.ptr b 0 0,gi st,gi t,gi r,.agg [gi x.kind,gi x.n]] H fun v H'=>v=.agg [gi (setCell g r t x).kind,gi (setCell g r t x).n]∧∃ a,ba H' ((a,5,kz (C ++ [⟨st,t,im g r t,r,-1⟩])) :: (.sl b 0 1 7,7,[ed g l m a]) :: L):=by
 have z:=MC g D o r t
 simp only[ai,encS] at z
 refine aw.of mixed sk ?_
 simp (disch:=omega)only[↓wr,seval,wq,mP]
 intro n p
 have s:=y.is 1 rfl (by simp)
 have i:¬ b=n:=by rintro rfl; rw[s] at p; simp at p
 have A:=y.new p 2 [[gi 0,gi 0]]
 have E:=A.is 2 rfl (by simp)
 simp (disch:=omega)only[↓wr,seval,wq,i,s,ed]
 refine ay.pure z ?_
 simp (disch:=omega)only[↓wr,seval,wq,i,s,ed]
 intro q hq
 simp (disch:=omega)only[↓wr,seval,wq,bT]
 refine cB ((A.fresh hq).at 1 (by simp)) (by simp[aO]) (by unfold aB; simp only[Yf,Yb,ql]; simp; omega) (by unfold aB; simp only[Yf,Yb,ql]; simp; omega) ?_
 intro j F k _
 simp only[Yf,Yb,Yw,Yx,Xt,XN] at k
 have d:=k.is 2 rfl (by simp)
 have f:=k.is 1 rfl (by simp)
 have G:=k.head.cells
 have I:=k.head.iO
 have B:=(k.at 2 (by simp)).put (es':=[ed g l m j]) rfl rfl
 simp only[Yf,Yb,Yw,Yx] at B
 have c:∀ e:List V,∃ a,ba ((F.set b (.arr 7 [ed g l m j])).set n (.arr 2 [e])) ((a,5,kz (C ++ [⟨st,t,im g r t,r,-1⟩])) :: (.sl b 0 1 7,7,[ed g l m a]) :: L):=fun e=>⟨j,by
  have:=((B.at 2 (by simp)).put (es':=[e]) rfl rfl).tail
  simp only[Yf,Yb,Yw,Yx] at this
  rw[kz,XD]
  exact this.perm (.swap _ _ _)⟩
 have h:¬ n=b:=fun e=>i e.symm
 simp (disch:=omega)only[↓wr,seval,wq,d,f,h,G,I,ed]
 unfold setCell
 apply ah.eq<;>intro h1
 ·rw[Xg h1]
  simp (disch:=omega)only[↓wr,seval,wq,d,f,h]
  exact c _
 ·rw[Xd h1]
  simp (disch:=omega)only[↓wr,seval,wq]
  apply ah.eq<;>intro u
  ·rw[Xg u]
   simp (disch:=omega)only[↓wr,seval,wq,d,f,h]
   exact c _
  ·rw[Xd u]
   simp (disch:=omega)only[↓wr,seval,wq,d,f,h]
   exact c _
theorem MR (st t a:Int) (l:List Int) (r:Int):jr st t a (l ++ [r])=jr st t a l ++ [⟨st,t,5,r,a⟩]:=by simp[jr]
theorem Si (g:ag) (S:g.Ok) (F:g.Small) (p s d:V) (C:List kd) (b:Nat) (L:List cw) (H:View) (f:ba H ((d,5,kz C) :: (.sl b 0 1 7,7,[ed g p s d]) :: L)) (Y:C.length≤90000000) (st t:Int) (rs:List Int) (G:rs.length≤10000) (x:Cell) :
  aw Tryz.prog 129 [.ptr b 0 0,gi st,gi t,encI rs,.agg [gi x.kind,gi x.n]] H fun v H'=>v=.agg [gi (cellOf g st t x rs).1.kind,gi (cellOf g st t x rs).1.n]∧∃ c,ba H' ((c,5,kz (C ++ (cellOf g st t x rs).2)) :: (.sl b 0 1 7,7,[ed g p s c]) :: L):=by
 refine aw.of mixed tP ?_
 simp (disch:=omega)only[↓wr,seval,wq,oZ,encI]
 intro n I
 have E:=f.is 1 rfl (by simp)
 have w:¬ b=n:=by rintro rfl; rw[E] at I; simp at I
 have J:=f.new I 2 [[gi 0,gi 0]]
 cases rs with
 | nil =>
  simp (disch:=omega)only[↓wr,seval,wq]
  refine ⟨rfl,d,?_⟩
  have:=(J.put (es':=[[gi x.kind,gi x.n]]) rfl rfl).tail
  simpa [cellOf] using this
 | cons r rs =>
  simp only[Xt] at G
  have u:=Ds (l:=r :: rs) (k:=1) (by simp)
  simp only[List.drop_succ_cons,Yt,XF] at u
  rw[show (((1:Nat)):Int)=1 from rfl] at u
  simp (disch:=omega)only[↓wr,seval,wq]
  refine ah.eq (fun h=>absurd h (by omega)) (fun _=>?_)
  simp (disch:=omega)only[↓wr,seval,wq,u]
  have K:¬ n=b:=fun e=>w e.symm
  refine aU.up rs.length (fun i T H'=>∃ d,ba H' ((.sl n 0 1 2,2,[[gi 0,gi 0]]) :: (d,5,kz (C ++ jr st t r (rs.take i))) :: (.sl b 0 1 7,7,[ed g p s d]) :: L)∧T 0=.ptr b 0 0∧T 1=gi st∧T 2=gi t∧T 3=encI (r :: rs)∧T 9=.aJ [gi x.kind,gi x.n] 0∧T 10=.ptr n 0 0∧T 18=encI rs∧T 19=gi rs.length∧T 20=gi i)
   ⟨d,by simpa [jr] using J,rfl,rfl,rfl,rfl,rfl,rfl,rfl,rfl,rfl⟩ ?_
  clear f J E d
  rintro i k T H1 hk ⟨d,f,t0,t1,t2,t3,t9,t10,t18,t19,t20⟩
  have E:=f.is 2 rfl (by simp)
  have z:=f.is 0 rfl (by simp)
  simp (disch:=omega)only[↓wr,seval,wq,mX,t0,t1,t2,t3,t9,t10,t18,t19,t20]
  apply ah.dec<;>intro U
  ·have M:rs[i]?=some (rs[i]'(by omega)):=Xc (by omega)
   have A:rs.take (i+1)=rs.take i ++ [rs[i]'(by omega)]:=by rw[XH,M]; rfl
   generalize rs[i]'(by omega)=y at M A
   have N:(jr st t r (rs.take i)).length≤10000:=by simp[jr]; omega
   simp (disch:=omega)only[↓wr,seval,wq,t0,t1,t2,t3,t9,t10,t18,t19,t20,encI,Xf,XG,M,Xk,E,ed]
   intro q hq
   simp (disch:=omega)only[↓wr,seval,wq,bT]
   refine cB ((f.fresh hq).at 1 (by simp)) (by simp[aO]) (by unfold aB; simp only[Yf,Yb,ql]; simp; omega) (by unfold aB; simp only[Yf,Yb,ql]; simp; omega) ?_
   intro a B j _
   simp only[Yf,Yb,Yw,Yx] at j
   have O:=j.is 2 rfl (by simp)
   have W:=j.head.cells
   have X:=j.head.iO
   have R:=(j.at 2 (by simp)).put (es':=[ed g p s a]) rfl rfl
   simp only[Yf,Yb,Yw,Yx] at R
   simp (disch:=omega)only[↓wr,seval,wq,t0,t1,t2,t3,t9,t10,t18,t19,t20,O,W,X,ed]
   refine aF hk (by omega) ⟨a,?_,t0,t1,t2,t3,t9,t10,t18,t19,rfl⟩
   rw[A,MR,← XO,kz,XD]
   exact R.perm ((List.Perm.swap _ _ _).trans (((List.Perm.swap _ _ _).cons _).trans (List.Perm.swap _ _ _)))
  ·rw[Xv (by omega)] at f
   have w:¬ b=n:=fun e=>K e.symm
   have m:∀ (B:View) (a:V) (D:List kd) (e e':List V),ba B ((a,5,kz D) :: (.sl b 0 1 7,7,[ed g p s a]) :: (.sl n 0 1 2,2,[e]) :: L)→∃ c,ba (B.set n (.arr 2 [e'])) ((c,5,kz D) :: (.sl b 0 1 7,7,[ed g p s c]) :: L):=fun B a D e e' o=>⟨a,by
    have:=((o.at 2 (by simp)).put (es':=[e']) rfl rfl).tail
    simpa using this⟩
   simp (disch:=omega)only[↓wr,seval,wq,t0,t1,t2,t3,t9,t10,encI,XG]
   apply ah.eq<;>intro P
   ·rw[show cellOf g st t x (r :: rs)=(⟨2,r⟩,jr st t r rs) by rw[cellOf,Xg P]]
    simp (disch:=omega)only[↓wr,seval,wq,t0,t1,t2,t3,t9,t10,encI,XG,z]
    exact m _ _ _ _ _ (f.perm EU)
   ·rw[show cellOf g st t x (r :: rs)=(setCell g r t x,jr st t r rs ++ [⟨st,t,im g r t,r,-1⟩]) by rw[cellOf,Xd P]]
    have N:(jr st t r rs).length≤10000:=by simp[jr]; omega
    simp (disch:=omega)only[↓wr,seval,wq,t0,t1,t2,t3,t9,t10,encI,XG,z]
    refine ay.dZ ((M7 g S F p s d _ b ((.sl n 0 1 2,2,[[gi 0,gi 0]]) :: L) H1 (f.perm EU) (by rw[XV]; omega) st t r x).mono ?_)
    rintro v B ⟨rfl,a,j⟩
    have Q:=j.is 2 rfl (by simp)
    simp (disch:=omega)only[↓wr,seval,wq,t10,Q]
    rw[XO] at j
    exact m _ _ _ _ _ j
end Gv
