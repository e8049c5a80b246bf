/-
  Part 9 of the proof: what the machine does and what the functions answer.
  Conditions: those that each lemma names.
-/
import Derived.ProofKit
import Derived.SizedLaws
import Derived.Test.YtiophifnkakjgaaGreatSGzB9H
set_option linter.unusedSimpArgs false
set_option linter.unusedVariables false
set_option maxRecDepth 100000
set_option maxHeartbeats 20000000
namespace Gv
open Go Go.Proofs
def rT (is:List Bool) (l:List Int):List Bool:=l.foldl (λis n=>is.set n.toNat true) is
def stepG (comes:ba->List Bool->List Int) (is:List Bool) (r:ba):List Bool:=rT is (comes r is)
def dY (comes:ba->List Bool->List Int) (rules:List ba) (is:List Bool):List Bool:=rules.foldl (stepG comes) is
def hZ (a b:List Bool):Prop:=a.length=b.length/\∀ i,a.getD i false=true->b.getD i false=true
theorem hZ.refl (a:List Bool):hZ a a:=⟨rfl,λ_ h=>h⟩
theorem hZ.trans {a b c:List Bool} (h:hZ a b) (k:hZ b c):hZ a c:=⟨h.1.trans k.1,λi hi=>k.2 i (h.2 i hi)⟩
theorem hZ.set (a:List Bool) (i:Nat):hZ a (a.set i true):=by
 refine⟨by simp,λj h=>?_⟩
 simp only[Vp,V9] at h ⊢
 split
 .split
  .rfl
  .rename_i e b;rw[<-e,V0 (by omega)] at h;simp at h
 .exact h
theorem FZ:∀ (l:List Int) (is:List Bool),hZ is (rT is l)
 | [],is=>.refl _
 | n :: l,is=>(hZ.set is n.toNat).trans (FZ l _)
theorem tt (comes:ba->List Bool->List Int):∀ (rules:List ba) (is:List Bool),hZ is (dY comes rules is)
 | [],is=>.refl _
 | r :: rs,is=>(FZ _ _).trans (tt comes rs _)
def cM (a:List Bool):Nat:=a.countP λx=>x
theorem sH (a:List Bool):cM a<=a.length:=List.countP_le_length
theorem hZ.cM:∀ {a b:List Bool},hZ a b->cM a<=cM b/\(cM a=cM b->a=b)
 | [],[],_=>⟨VA _,λ_=>rfl⟩
 | [],_ :: _,h=>by simp[hZ] at h
 | _ :: _,[],h=>by simp[hZ] at h
 | x :: a,y :: b,h=>by
  have c:x=true->y=true:=λe=>by have:=h.2 0 (by simpa using e);simpa using this
  obtain⟨h1,d⟩:=hZ.cM (a:=a) (b:=b) ⟨by simpa using h.1,λi hi=>by have:=h.2 (i+1) (by simpa using hi);simpa using this⟩
  unfold Gv.cM at h1 d ⊢
  simp only[List.countP_cons]
  cases x with
  | true =>
   have:=c rfl;subst this
   simp only[if_true]
   exact⟨by omega,λe=>by rw[d (by omega)]⟩
  | false =>
   cases y with
   | false=>simp only[VR,if_false];exact⟨by omega,λe=>by rw[d (by omega)]⟩
   | true=>simp only[VR,if_false,if_true];exact⟨by omega,λe=>by omega⟩
def hQ (comes:ba->List Bool->List Int) (rules:List ba):Nat->List Bool->List Bool
 | 0,is=>is
 | k+1,is=>if dY comes rules is=is then is else hQ comes rules k (dY comes rules is)
theorem xM (comes:ba->List Bool->List Int) (rules:List ba):∀ (k:Nat) (is:List Bool),is.length<=cM is+k->dY comes rules (hQ comes rules k is)=hQ comes rules k is/\hZ is (hQ comes rules k is)
 | 0,is,h=>by
  have h1:=tt comes rules is
  have b:=sH (dY comes rules is)
  have a:=h1.cM
  rw[<-h1.1] at b
  have c:=sH is
  exact⟨(a.2 (by omega)).symm,.refl _⟩
 | k+1,is,h=>by
  simp only[hQ]
  by_cases e:dY comes rules is=is
  .rw[Vu e];exact⟨e,.refl _⟩
  .rw[Vs e]
   have h1:=tt comes rules is
   have a:=h1.cM
   have:cM is < cM (dY comes rules is):=by
    rcases VT (cM is) (cM (dY comes rules is)) with h | h
    .exact h
    .exact absurd (a.2 (by omega)).symm e
   obtain⟨g1,g2⟩:=xM comes rules k (dY comes rules is) (by rw[<-h1.1];omega)
   exact⟨g1,h1.trans g2⟩
def xw:SC :=
 af [ae [aS 26 .lss 25 24],bO 26 (.exit 4),.block 5 (af [ae [aL 27 1 23 25,al 28 27,aa 11 28],.region false [⟨none,[aa 29 7,aa 30 29]⟩,⟨(some (30,false)),[aa 31 1,aa 32 11,aL 33 1 31 32,al 34 33,c5 35 34]⟩,⟨none,[cx 36 30 35,aa 7 36]⟩],ae [aa 37 1,aa 38 11,aL 39 1 37 38,(none,.op (.store 1 (.tmp 39) (.val (.val (.bool true)))))]]),ae [aF 40 .add 25 1,aa 25 40]]
def xu:SC :=
 af [ae [aS 17 .lss 16 15],bO 17 (.exit 2),.block 3 (af [ae [aL 18 3 14 16,bb 19 3 18,((some 9),.op (.alloc [(.val (.int .i64 0)),(.emp 1),(.val (.int .i64 0))])),cy 3 9 19],ae [aa 20 2,bb 21 3 9,aa 22 1,((some 23),.call (.tmp 20) [(.tmp 21),(.tmp 22)]),aN 24 23,aP 25 0],bR 4 xw]),ae [aF 41 .add 16 1,aa 16 41]]
def rF:SC :=
 af [af [ae [aa 12 7],bO 12 (.exit 0)],.block 1 (af [ae [bm 7 false],ae [av 13 2 3,al 14 13,aN 15 14,aP 16 0],bR 2 xu])]
def zP:SF:=⟨af [ae [cE 3 0,bT 6 1],af [ae [bm 7 true],bR 0 rF],ae [aa 42 1,aa 6 42],.ret],
 [.tmp 6],43⟩
theorem Dx:aM Tryz.prog 173 [3]=some zP:=by kernel_rfl
theorem Qo {is:List Bool} {i:Nat} (h:is.getD i false=true):is.set i true=is:=by
 apply List.ext_getElem?
 intro j
 simp only[Vp] at h
 rw[V9]
 split
 .rename_i e;subst e
  split
  .rename_i a;rw[Vq a] at h ⊢;simp at h;simp[h]
  .rename_i a;rw[V0 (by omega)] at h;simp at h
 .rfl
theorem LS {comes:ba->List Bool->List Int} {rules:List ba} {k:Nat} {is:List Bool} (h:dY comes rules is=is):hQ comes rules k is=is:=by
 cases k with
 | zero=>rfl
 | succ k=>simp only[hQ,h,if_true]
theorem K4 {comes:ba->List Bool->List Int} {rules:List ba} {k:Nat} {is:List Bool} (h:¬ dY comes rules is=is) (hk:is.length<=cM is+k):∃ j,k=j+1/\hQ comes rules k is=hQ comes rules j (dY comes rules is)/\(dY comes rules is).length<=cM (dY comes rules is)+j:=by
 have h1:=tt comes rules is
 have a:=h1.cM
 have b:=sH (dY comes rules is)
 have:cM is < cM (dY comes rules is):=by
  rcases VT (cM is) (cM (dY comes rules is)) with h | h
  .exact h
  .exact absurd (a.2 (by omega)).symm (by assumption)
 have c:=h1.1
 obtain⟨j,rfl⟩:∃ j,k=j+1:=⟨k - 1,by omega⟩
 exact⟨j,rfl,by simp only[hQ];rw[Vs h],by omega⟩
theorem QD {a is:List Bool} {i:Nat} {b:Bool} (hle:hZ a is) (hi:i < is.length) (d:b = !decide (is=a)):(b || !is.getD i false) = !decide (is.set i true=a):=by
 cases c:is.getD i false with
 | true=>rw[Qo c,d];simp
 | false =>
  have:¬ is.set i true=a:=λe=>by
   have h1:(is.set i true).getD i false=true:=by simp[Vp,hi]
   rw[e] at h1
   have:=hle.2 i h1
   rw[c] at this;simp at this
  simp[this]
theorem JK (g:ai) (hr:g.rules.length<=40) (comes:ba->List Bool->List Int) (f:FuncId) (t D:List V) (aq:dD Tryz.prog f=true) (N:Nat) (hN:N<=16)
  (hc:∀ r∈g.rules,∀ is:List Bool,is.length=N->ca Tryz.prog f (.agg (aK r) :: b5 is :: D) (encI (comes r is))/\(comes r is).length<=100/\∀ n∈comes r is,bS n/\0<=n/\n < N)
  (id:Nat) (A:List Bool) (ar:A.length=N) (H:View) (hH:H id=.arr 1 (bH A)) (O:∀ H':View,(∀ k,H k≠.dead->k≠id->H' k=H k)->qg H' t D) :
  aw Tryz.prog 173 [.agg (ag g),.sl id 0 N 1,.fn f [] t] H λr H'=>r=.sl id 0 N 1/\H' id=.arr 1 (bH (hQ comes g.rules 16 A))/\∀ k,H k≠.dead->k≠id->H' k=H k:=by
 refine aw.of mixed Dx ?_
 simp(disch:=omega)only[↓wr,seval,wq,zP,ag,encS]
 refine aR.intro (λk T H'=>∃ is:List Bool,is.length=N/\H' id=.arr 1 (bH is)/\(∀ k,H k≠.dead->k≠id->H' k=H k)/\T 1=.sl id 0 N 1/\T 2=.fn f [] t/\T 3=.aJ (ag g) 0 /\
  ((T 7=gb true/\∃ j,k=j+1/\hQ comes g.rules j is=hQ comes g.rules 16 A/\N<=cM is+j)∨(T 7=gb false/\is=hQ comes g.rules 16 A))) 17 ?_ ?_
 .exact⟨A,ar,hH,λ_ _ _=>rfl,rfl,rfl,rfl,.inl ⟨rfl,16,rfl,rfl,by omega⟩⟩
 rintro k T H1 ⟨is,hlen,o,p,t1,t2,t3,u⟩
 rcases u with ⟨u,j,rfl,J,hj⟩ | ⟨u,J⟩
 .simp(disch:=omega)only[↓wr,seval,wq,rF,t1,t2,t3,u,ag,encS]
  refine aR.up g.rules.length (λi T H'=>∃ po:List Bool,po.length=N/\hZ is po/\po=(g.rules.take i).foldl (stepG comes) is/\H' id=.arr 1 (bH po)/\(∀ k,H k≠.dead->k≠id->H' k=H k)/\T 1=.sl id 0 N 1/\T 2=.fn f [] t/\T 3=.aJ (ag g) 0 /\
   T 7=gb (!decide (po=is))/\T 14=.aW (g.rules.map aK)/\T 15=gi g.rules.length/\T 16=gi i) ?_ ?_
  .exact⟨is,hlen,.refl _,rfl,o,p,t1,t2,t3,by simp;rfl,rfl,rfl,rfl⟩
  clear t1 t2 t3 u o p
  rintro i k T H1 hk ⟨po,s,W,P,o,p,t1,t2,t3,u,c,d,m⟩
  simp(disch:=omega)only[↓wr,seval,wq,xu,t1,t2,t3,u,c,d,m,ag,encS]
  apply aj.dec<;>intro a6
  .have Q:g.rules[i]?=some (g.rules[i]'(by omega)):=Vq (by omega)
   have M:g.rules[i]'(by omega)∈g.rules:=Vw _
   have X:(g.rules.take (i+1)).foldl (stepG comes) is=stepG comes ((g.rules.take i).foldl (stepG comes) is) (g.rules[i]'(by omega)):=by
    rw[VP,Q,WQ];rfl
   generalize g.rules[i]'(by omega)=r at Q M X
   obtain⟨a8,bd,Y⟩:=hc r M po s
   simp(disch:=omega)only[↓wr,seval,wq,t1,t2,t3,u,c,d,m,aK,encI,Vt,Q]
   intro b R
   have E:b≠id:=by rintro rfl;rw[o] at R;simp at R
   try simp(disch:=omega)only[↓wr,seval,wq,t1,t2,t3,u,c,d,m]
   refine ax.mK a8 aq ⟨cn.tree (bW _ (fS r)),BB (by simp[View.set,E.symm,o]) s.symm,O _ (λk hk v=>?_)⟩ ?_
   .have S:k≠b:=by
     rintro rfl
     rw[p k hk v] at R
     exact hk R
    simp[View.set,S,p k hk v]
   generalize hl:comes r po=l at bd Y
   simp(disch:=omega)only[↓wr,seval,wq,t1,t2,t3,u,c,d,m,encI]
   refine aR.up l.length (λq T H'=>∃ a:List Bool,a.length=N/\hZ is a/\a=rT po (l.take q)/\H' id=.arr 1 (bH a)/\(∀ k,H k≠.dead->k≠id->H' k=H k)/\T 1=.sl id 0 N 1/\T 2=.fn f [] t/\T 3=.aJ (ag g) 0 /\
    T 7=gb (!decide (a=is))/\T 14=.aW (g.rules.map aK)/\T 15=gi g.rules.length/\T 16=gi i/\T 23=encI l/\T 24=gi l.length/\T 25=gi q) ?_ ?_
   .refine⟨po,s,W,rfl,by simp[View.set,E.symm,o],λk hk v=>?_,t1,t2,t3,u,c,d,m,rfl,rfl,rfl⟩
    have S:k≠b:=by
     rintro rfl
     rw[p k hk v] at R
     exact hk R
    simp[View.set,S,p k hk v]
   clear t1 t2 t3 u c d m o p R E
   rintro q k2 T H1 bl ⟨a,F,G,I,o,p,t1,t2,t3,u,c,d,m,w,y,B⟩
   simp(disch:=omega)only[↓wr,seval,wq,xw,t1,t2,t3,u,c,d,m,w,y,B,encI]
   apply aj.dec<;>intro bn
   .have U:l[q]?=some (l[q]'(by omega)):=Vq (by omega)
    have Z:l[q]'(by omega)∈l:=Vw _
    have ab:rT po (l.take (q+1))=(rT po (l.take q)).set (l[q]'(by omega)).toNat true:=by
     unfold rT;rw[VP,U,WQ];rfl
    generalize l[q]'(by omega)=n at U Z ab
    obtain⟨⟨n1,n2⟩,n3,n4⟩:=Y n Z
    have an:a.getD n.toNat false=a[n.toNat]'(by omega):=by simp[Vp,show n.toNat < a.length by omega]
    have z:=QD G (show n.toNat < a.length by omega) (b:=!decide (a=is)) rfl
    rw[an] at z
    have K:=lg (show n.toNat < a.length by omega)
    generalize a[n.toNat]'(by omega)=x at z K an
    have fin:∀ (C:Env),C 7=gb (!decide (a.set n.toNat true=is))->C 1=.sl id 0 N 1->C 2=.fn f [] t->C 3=.aJ (ag g) 0->C 14=.aW (g.rules.map aK)->C 15=gi g.rules.length->C 16=gi i->C 23=encI l->C 24=gi l.length->C 25=gi ((q:Int)+1) ->
      ∃ k',k' < k2/\CO l.length k' (λq T H'=>∃ a:List Bool,a.length=N/\hZ is a/\a=rT po (l.take q)/\H' id=.arr 1 (bH a)/\(∀ k,H k≠.dead->k≠id->H' k=H k)/\T 1=.sl id 0 N 1/\T 2=.fn f [] t/\T 3=.aJ (ag g) 0 /\
       T 7=gb (!decide (a=is))/\T 14=.aW (g.rules.map aK)/\T 15=gi g.rules.length/\T 16=gi i/\T 23=encI l/\T 24=gi l.length/\T 25=gi q) C (H1.set id (.arr 1 (bH (a.set n.toNat true)))):=by
     intro C a7 a1 a2 a3 br bs bx a23 a24 a25
     refine aE bl (by omega) ⟨a.set n.toNat true,by simp[F],G.trans (.set _ _),by rw[ab,<-I],by simp[View.set],λk hk v=>by simp[View.set,v,p k hk v],a1,a2,a3,a7,br,bs,bx,a23,a24,by rw[a25];rfl⟩
    simp(disch:=omega)only[↓wr,seval,wq,t1,t2,t3,u,c,d,m,w,y,B,encI,Vt,U]
    apply aj.dec<;>intro e
    .simp(disch:=omega)only[↓wr,seval,wq,t1,t2,t3,u,c,d,m,w,y,B,encI,o,K,Vx]
     refine⟨by omega,by omega,?_⟩
     try simp(disch:=omega)only[↓wr,seval,wq,t1,t2,t3,u,c,d,m,w,y,B,encI,o,K,Vx]
     refine⟨by omega,by omega,?_⟩
     rw[gL]
     exact fin _ (by rw[<-z];simp[e];rfl) t1 t2 t3 c d m w y rfl
    .simp(disch:=omega)only[↓wr,seval,wq,t1,t2,t3,u,c,d,m,w,y,B,encI,o,K,Vx]
     refine⟨by omega,by omega,?_⟩
     rw[gL]
     exact fin _ (by rw[<-z];simp[e];rfl) t1 t2 t3 c d m w y rfl
   .rw[VG (by omega)] at I
    simp(disch:=omega)only[↓wr,seval,wq,t1,t2,t3,u,c,d,m,w,y,B]
    refine aE hk (by omega) ⟨a,F,G,?_,o,p,t1,t2,t3,u,c,d,rfl⟩
    rw[X,<-P,stepG,hl,<-I]
  .rw[VG (by omega)] at P
   simp(disch:=omega)only[↓wr,seval,wq,t1,t2,t3,u,c,d,m]
   have L:po=dY comes g.rules is:=P
   by_cases e:po=is
   .refine⟨0,by omega,po,s,o,p,rfl,.inr ⟨by simp[e],?_⟩⟩
    rw[<-J,e]
    exact(LS (by rw[<-L];exact e)).symm
   .obtain⟨j2,rfl,e2,e3⟩:=K4 (k:=j) (λh=>e (L.trans h)) (by rw[hlen];exact hj)
    refine⟨j2+1,by omega,po,s,o,p,rfl,.inl ⟨by simp[e],j2,rfl,?_,?_⟩⟩
    .rw[<-J,e2,L]
    .rw[<-L,s] at e3;exact e3
 .simp(disch:=omega)only[↓wr,seval,wq,rF,t1,t2,t3,u,ag,encS]
  exact⟨J ▸ o,p⟩
theorem AS {α:Type} {f:α->α} {x:α} (h:f x=x):∀ n,iter f n x=x
 | 0=>rfl
 | n+1=>by rw[iter,h,AS h n]
theorem Hu {α:Type} (f:α->α):∀ (a b:Nat) (x:α),iter f (a+b) x=iter f b (iter f a x)
 | 0,b,x=>by rw[Wc];rfl
 | a+1,b,x=>by rw[Nat.add_right_comm,iter,iter,Hu f a b]
theorem Ck (comes:ba->List Bool->List Int) (rules:List ba):∀ (k:Nat) (is:List Bool),hQ comes rules k is=iter (dY comes rules) k is
 | 0,is=>rfl
 | k+1,is=>by
  simp only[hQ,iter]
  by_cases e:dY comes rules is=is
  .rw[Vu e,e,AS e]
  .rw[Vs e,Ck comes rules k]
theorem yZ (comes:ba->List Bool->List Int) (rules:List ba) (is:List Bool) (h:is.length<=16):hQ comes rules 16 is=iter (dY comes rules) is.length is:=by
 have h1:=(xM comes rules is.length is (by omega)).1
 rw[Ck] at h1 ⊢
 obtain⟨m,hm⟩:∃ m,16=is.length+m:=⟨16 - is.length,by omega⟩
 rw[hm,Hu,AS h1]
def uK (t:Bool) (r:ba) (is:List Bool):List Int:=if gj r.right is t=true then [r.left] else []
def sX (p:List Bool) (r:ba) (is:List Bool):List Int:=if (is.getD r.left.toNat false && gj r.right p true)=true then gH r.right else []
theorem R5 (g:ai) (t:Bool):dY (uK t) g.rules=nE g t:=by
 funext is
 unfold dY nE
 congr 1
 funext is r
 unfold stepG uK iG
 split <;> rfl
theorem Bz:∀ (l:List Int) (is:List Bool),rT is (gH l)=l.foldl mark is
 | [],is=>rfl
 | s :: l,is=>by
  have a:=Bz l
  unfold rT gH at a ⊢
  rw[V7,<-a]
  unfold mark
  by_cases h:s < 0
  .rw[Vu h,List.filter_cons_of_pos (by simpa using h)];rfl
  .rw[Vs h,List.filter_cons_of_neg (by simpa using h)]
theorem JD (g:ai) (p:List Bool):dY (sX p) g.rules=rb g p:=by
 funext is
 unfold dY rb
 congr 1
 funext is r
 unfold stepG sX hD
 split
 .exact Bz _ _
 .rfl
theorem TH {g:ai} (h:bM g=true) (t:Bool):hQ (uK t) g.rules 16 (cJ g)=bF g t:=by
 have a:=bX h
 have b:(cJ g).length=g.ak.length:=by simp[cJ]
 have:=a.ak
 rw[yZ _ _ _ (by rw[b];exact a.ak),R5,b,bF,Vu h]
theorem Mw {g:ai} (h:bM g=true):hQ (sX (bF g true)) g.rules 16 ((cJ g).set g.start.toNat true)=cr g:=by
 have b:=bX h
 have a:((cJ g).set g.start.toNat true).length=g.ak.length:=by simp[cJ]
 rw[yZ _ _ _ (by rw[a];exact b.ak),JD,a,cr,Vu h]
def rJ:SF:=⟨af [ae [cE 1 0,bT 2 1],af [ae [bb 3 4 1,bf 4 89 [3],c5 5 4],aZ 5 (af [ae [bT 2 1],.ret])],ae [bb 6 4 1,av 7 1 1,al 8 7,aN 9 8,((some 10),.op (.make 1 1 [(.val (.bool false))] (.tmp 9) (.tmp 9))),qN 11 173 [(.tmp 6),(.tmp 10),(.val (.fn 226 [] []))],aa 2 11],.ret],
 [.tmp 2],12⟩
theorem vL:aM Tryz.prog 161 [1]=some rJ:=by kernel_rfl
def s0:SF:=⟨af [ae [cE 1 0,bT 2 1],af [ae [bb 5 4 1,bf 6 89 [5],c5 7 6],aZ 7 (af [ae [bT 2 1],.ret])],ae [bb 8 4 1,bf 9 161 [8],((some 3),.op (.alloc [(.emp 1)])),cy 1 3 9],ae [av 10 1 1,al 11 10,aN 12 11,((some 13),.op (.make 1 1 [(.val (.bool false))] (.tmp 12) (.tmp 12))),aa 4 13],ae [aa 14 4,av 15 3 1,al 16 15,aL 17 1 14 16,(none,.op (.store 1 (.tmp 17) (.val (.val (.bool true)))))],ae [bb 18 4 1,aa 19 4,((some 20),.op (.uq 227 [] [(.tmp 3)])),bf 21 173 [18,19,20],aa 2 21],.ret],
 [.tmp 2],22⟩
theorem xJ:aM Tryz.prog 162 [1]=some s0:=by kernel_rfl
structure ai.Small (g:ai):Prop where
 names:g.ak.length+g.au.length<=1000
theorem EW {a:aD} {id n:Nat} {is:List Bool} (b:a.view id=.arr 1 (bH is)) (c:n=is.length):dB a (.sl id 0 n 1) (b5 is):=by
 subst c;exact rv b
theorem vl (g:ai) (d:g.Ok) (i:g.Small):ca Tryz.prog 161 [.agg (ag g)] (b5 (bF g true)):=by
 refine ca.of (eD g) ?_
 refine aw.of mixed vL ?_
 have j:=d.ak
 unfold aI at j
 simp(disch:=omega)only[↓wr,seval,wq,rJ,ag,encS]
 refine ax.pure (tQ g d i.names) ?_
 repeat' (first | ((first|apply aj.dec|apply aj.eq|apply aj.ne|apply aj.split)<;>intro)|(simp(disch:=omega)only[↓wr,seval,wq,ag,encS]))
 .rename_i hr
  have b:=bX hr
  have h1:=b.kC
  have k:=b.ak
  try simp(disch:=omega)only[↓wr,seval,wq,ag,encS]
  refine⟨⟨by omega,by unfold aC;omega,by unfold aC;omega⟩,λh=>by omega,?_⟩
  intro _ n
  try simp(disch:=omega)only[↓wr,seval,wq,ag,encS]
  refine ax.eA ((JK g b.rules (uK true) 226 [] [] (by kernel_rfl) g.ak.length k (λr a is e=>⟨DR r is (by rw[e];exact b.qy d a),?_,?_⟩) n (cJ g) (by simp[cJ]) _ (by simp[View.set,cJ]) (λH' _=>trivial)).mono ?_)
  .unfold uK;split <;> simp
  .intro m hm
   unfold uK at hm
   split at hm
   .simp only[Wu] at hm;subst hm
    exact⟨(d.az r a).1,b.left r a⟩
   .simp at hm
  .rintro r H' ⟨rfl,c,_⟩
   simp(disch:=omega)only[↓wr,seval,wq]
   intro l f
   rw[TH hr] at c
   exact EW (by rw[f];exact c) (mq hr _).symm
 .rename_i hr
  intro l f
  simp only[bF,hr]
  exact .emp _
theorem qf {g:ai} (hr:bM g=true):(cr g).length=g.ak.length:=by
 rw[cr,Vu hr,A0 (f:=rb g (bF g true)) (λis=>Ap (λis x=>Pj _ is x) g.rules is)]
 simp[cJ]
theorem Fk (g:ai) (f:g.Ok) (w:g.Small):ca Tryz.prog 162 [.agg (ag g)] (b5 (cr g)):=by
 refine ca.of (eD g) ?_
 refine aw.of mixed xJ ?_
 have A:=f.ak
 unfold aI at A
 simp(disch:=omega)only[↓wr,seval,wq,s0,ag,encS]
 refine ax.pure (tQ g f w.names) ?_
 repeat' (first | ((first|apply aj.dec|apply aj.eq|apply aj.ne|apply aj.split)<;>intro)|(simp(disch:=omega)only[↓wr,seval,wq,ag,encS]))
 .rename_i hr
  have d:=bX hr
  have h1:=d.kC
  have B:=d.ak
  have D:=d.kT
  have E:=d.start
  have p:=mq hr true
  try simp(disch:=omega)only[↓wr,seval,wq,ag,encS]
  refine ax.pure (vl g f w).pure ?_
  simp(disch:=omega)only[↓wr,seval,wq,ag,encS,b5]
  intro q
  try simp(disch:=omega)only[↓wr,seval,wq,ag,encS,set_set]
  refine⟨⟨by omega,by unfold aC;omega,by unfold aC;omega⟩,λh=>by omega,?_⟩
  intro _ n t
  have e:=(cb t b6).1
  try simp(disch:=omega)only[↓wr,seval,wq,ag,encS,set_set]
  have i:=lg (is:=cJ g) (show g.start.toNat < (cJ g).length by simp[cJ];omega)
  refine⟨by omega,by simp;omega,?_⟩
  refine ax.eA ((JK g d.rules (sX (bF g true)) 227 [.ptr q 0 0] [.aJ [b5 (bF g true)] 0] (by kernel_rfl) g.ak.length B (λr c is j=>⟨Fs r is (bF g true) (by rw[j];exact d.qy f c) (by rw[j,p]),?_,?_⟩) n ((cJ g).set g.start.toNat true) (by simp[cJ]) _ ?_ (λH' u=>⟨cn.box (z:=1) ?_ ?_,trivial⟩)).mono ?_)
  .have F:=d.right r c
   unfold sX
   split
   .have:(gH r.right).length<=r.right.length:=by simp only[gH,Vx];exact WY _ _
    omega
   .simp
  .intro m hm
   unfold sX at hm
   split at hm
   .simp only[gH,VO,Wx,VH] at hm
    obtain⟨s,⟨k,l⟩,rfl⟩:=hm
    have a:=d.neg c k l
    have b:=((f.az r c).2.2.2 s k).1
    exact⟨⟨by omega,by omega⟩,by omega,a⟩
   .simp at hm
  .simp only[View.set,if_true]
   congr 1
   rw[<-gL]
   unfold cJ at i ⊢
   rw[xO,i]
   rfl
  .rw[u q (by simp[View.set,Ne.symm e]) (Ne.symm e)]
   simp[View.set,Ne.symm e]
   rfl
  .intro v x;simp at x;subst x;exact iU _
  .rintro r H' ⟨rfl,o,_⟩
   simp(disch:=omega)only[↓wr,seval,wq]
   intro C y
   rw[Mw hr] at o
   exact EW (by rw[y];exact o) (by rw[qf hr])
 .rename_i hr
  intro C y
  simp only[cr,hr]
  exact .emp _
def dd (p q:List Bool) (r:ba):Bool:=q.getD r.left.toNat false && gj r.right p true
def c9 (p q:List Bool):List ba->Int->List Int
 | [],_=>[]
 | r :: l,i=>if dd p q r=true then i :: c9 p q l (i+1) else c9 p q l (i+1)
def kX (acc:List Int) (r:ba):List Int:=if r.left∈acc then acc else acc ++ [r.left]
def cB (p q:List Bool) (l:List ba):List Int:=(l.filter (dd p q)).foldl kX []
def cZ (o:List Int) (x:Int):Int:=du (λy=>y == x) o 0
def cq (f:Int->Int) (r:ba):ba:=⟨f r.left,r.right.map λs=>if s < 0 then -1 - f (-1 - s) else s,r.prec⟩
def vQ (g:ai) (f:Int->Int) (p q:List Bool):ai :=
 ⟨g.au,(cB p q g.rules).map λx=>g.ak.getD x.toNat ⟨#[]⟩,(g.rules.filter (dd p q)).map (cq f),f g.start⟩
def rK:ai:=⟨[],[],[],0⟩
instance:DecidableEq Term:=λa b=>decidable_of_iff (a.name=b.name/\a.level=b.level/\a.assoc=b.assoc) (by cases a;cases b;simp)
instance:DecidableEq ba:=λa b=>decidable_of_iff (a.left=b.left/\a.prec=b.prec/\a.right=b.right) (by cases a;cases b;simp[and_comm])
instance:DecidableEq ai:=λa b=>decidable_of_iff (a.au=b.au/\a.ak=b.ak/\a.rules=b.rules/\a.start=b.start) (by cases a;cases b;simp)
def gS (g:ai):ai × List Int × Int :=
 if bM g=true then
  if (bF g true).getD g.start.toNat false=true then (vQ g (cZ (cB (bF g true) (cr g) g.rules)) (bF g true) (cr g),c9 (bF g true) (cr g) g.rules 0,0)
  else (rK,[],9)
 else (rK,[],1)
theorem GI {g:ai} (hr:bM g=true):gS g=if (bF g true).getD g.start.toNat false=true then (vQ g (cZ (cB (bF g true) (cr g) g.rules)) (bF g true) (cr g),c9 (bF g true) (cr g) g.rules 0,0) else (rK,[],9):=by
 rw[gS,Vu hr]
theorem k5 (p q:List Bool):∀ (a b:List ba) (i:Int),c9 p q (a ++ b) i=c9 p q a i ++ c9 p q b (i+a.length)
 | [],b,i=>by simp[c9]
 | r :: a,b,i=>by
  simp only[V4,c9,k5 p q a b (i+1),Vz]
  have:i+1+(a.length:Int)=i+((a.length+1:Nat):Int):=by push_cast;omega
  rw[this]
  split <;> simp
theorem kR (p q:List Bool):∀ (a:List ba) (i:Int),(c9 p q a i).length=(a.filter (dd p q)).length
 | [],i=>rfl
 | r :: a,i=>by
  simp only[c9,List.filter_cons]
  split <;> simp[kR p q a]
theorem tq (p q:List Bool):∀ (a:List ba) (i:Int) (k:Nat),k < (c9 p q a i).length->∃ m:Nat,(c9 p q a i)[k]?=some (i+m)/\a[m]?=(a.filter (dd p q))[k]?/\m < a.length
 | [],i,k,h=>by simp[c9] at h
 | r :: a,i,k,h=>by
  simp only[c9,List.filter_cons] at h ⊢
  by_cases hr:dd p q r=true
  .rw[Vu hr] at h ⊢
   rw[Vu hr]
   cases k with
   | zero=>exact⟨0,by simp,by simp,by simp⟩
   | succ k =>
    obtain⟨m,h1,b,c⟩:=tq p q a (i+1) k (by simpa using h)
    exact⟨m+1,by rw[V6,h1];congr 1;push_cast;omega,by simpa using b,by simpa using c⟩
  .rw[Vs hr] at h ⊢
   rw[Vs hr]
   obtain⟨m,h1,b,c⟩:=tq p q a (i+1) k h
   exact⟨m+1,by rw[h1];congr 1;push_cast;omega,by simpa using b,by simpa using c⟩
theorem tV (p q:List Bool) (l:List ba) (r:ba):cB p q (l ++ [r])=if dd p q r=true then kX (cB p q l) r else cB p q l:=by
 unfold cB
 rw[Xl]
 by_cases h:dd p q r=true
 .rw[Vu h,List.filter_cons_of_pos h,WQ];rfl
 .rw[Vs h,List.filter_cons_of_neg h];simp
theorem LX {acc:List Int} {r:ba} (h:acc.Nodup):(kX acc r).Nodup:=by
 unfold kX
 split
 .exact h
 .rename_i d
  rw[WO]
  exact⟨h,by simp,λa f b c e=>d (by simp at c;rw[<-c,<-e];exact f)⟩
theorem sS {o:List Int} {x:Int} : cZ o x < 0↔x ∉ o:=by
 have:=wc (λy=>y == x) o 0 (by omega)
 unfold cZ
 rw[<-Int.not_le]
 constructor
 .intro h a
  have e:(o.any λy=>y == x)=true:=W5.2 ⟨x,a,by simp⟩
  rw[e] at this;exact h (by simpa using this)
 .intro h a
  have e:(o.any λy=>y == x)=true:=by rw[<-this];simpa using a
  obtain⟨y,b,e⟩:=W5.1 e
  simp at e;subst e;exact h b
theorem Ae {α:Type} (p:α->Bool):∀ (a b:List α) (i:Int),0<=i->du p (a ++ b) i=if 0<=du p a i then du p a i else du p b (i+a.length)
 | [],b,i,_=>by simp[du]
 | x :: a,b,i,h=>by
  by_cases hp:p x=true
  .simp[du,hp,h]
  .simp only[V4,du,Vs hp]
   rw[Ae p a b (i+1) (by omega)]
   have:i+1+(a.length:Int)=i+(((x :: a).length:Nat):Int):=by simp;omega
   rw[this]
theorem N3 {o:List Int} {x y:Int} (c:x ∉ o):cZ (o ++ [x]) y=if y=x then (o.length:Int) else cZ o y:=by
 unfold cZ
 rw[Ae _ _ _ _ (by omega)]
 by_cases e:y=x
 .subst e
  rw[Vs (by have:=sS.2 c;unfold cZ at this;omega),Vu rfl]
  simp[du]
 .rw[Vs e]
  split
  .rfl
  .rename_i h
   have:cZ o y < 0:=by unfold cZ;omega
   have b:du (λz=>z == y) [x] (0+(o.length:Int)) = -1:=by simp[du,Ne.symm e]
   rw[b]
   have:∀ (l:List Int) (i:Int),¬ 0<=du (λz=>z == y) l i->0<=i->du (λz=>z == y) l i = -1:=by
    intro l
    induction l with
    | nil=>intro i _ _;rfl
    | cons z l d =>
     intro i h1 b
     simp only[du] at h1 ⊢
     split
     .rename_i a;rw[Vu a] at h1;omega
     .rename_i a;rw[Vs a] at h1;exact d _ h1 (by omega)
   exact(this o 0 h (by omega)).symm
theorem JB {o:List Int} {x:Int} (h:x∈o):0<=cZ o x/\cZ o x < o.length:=by
 have a:¬ cZ o x < 0:=λe=>sS.1 e h
 refine⟨by omega,?_⟩
 unfold cZ
 have:∀ (l:List Int) (i:Int),du (λz=>z == x) l i < i+l.length∨du (λz=>z == x) l i = -1:=by
  intro l
  induction l with
  | nil=>intro i;right;rfl
  | cons z l b =>
   intro i
   simp only[du]
   split
   .left;simp;omega
   .rcases b (i+1) with h | h
    .left;simp at h ⊢;omega
    .right;exact h
 rcases this o 0 with h1 | h1
 .simpa using h1
 .unfold cZ at a;omega
theorem RL (o:List Int) (x:Int) : -1<=cZ o x/\cZ o x<=o.length:=by
 by_cases h:x∈o
 .have:=JB h;omega
 .have h1:=sS.2 h
  have a:∀ (l:List Int) (i:Int),0<=i->-1<=du (λz=>z == x) l i:=by
   intro l
   induction l with
   | nil=>intro i _;simp[du]
   | cons z l b =>
    intro i hi
    simp only[du]
    split
    .omega
    .exact b _ (by omega)
  have:=a o 0 (by omega)
  unfold cZ at h1 ⊢
  omega
def j4:List Int->Int->List (Int × Int)
 | [],_=>[]
 | x :: l,i=>(x,i) :: j4 l (i+1)
theorem tD (x:Int):∀ (o:List Int) (i:Int),eo (j4 o i) x=if x∈o then some (du (λy=>y == x) o i) else none
 | [],i=>by simp[j4,eo]
 | y :: o,i=>by
  have a:=tD x o (i+1)
  unfold eo at a ⊢
  simp only[j4,List.find?_cons,du]
  by_cases e:x=y
  .subst e;simp
  .have b:¬ ((y == x)=true):=by simp[Ne.symm e]
   rw[show (x == y)=false by simp[e],Vs b]
   simp only
   rw[a]
   simp[e]
theorem E2 {x v:Int} : ∀ {o:List Int} {i:Int},x ∉ o->kn x v (j4 o i)=j4 o i ++ [(x,v)]
 | [],i,_=>rfl
 | y :: o,i,h=>by
  simp only[VJ,not_or] at h
  simp only[j4,kn,show (x == y)=false by simp[h.1],VR,if_false,E2 h.2,V4]
theorem Bu {x:Int} : ∀ {o:List Int} {i:Int},j4 (o ++ [x]) i=j4 o i ++ [(x,i+o.length)]
 | [],i=>by simp[j4]
 | y :: o,i=>by
  simp only[V4,j4,Bu (o:=o),Vz]
  congr 4
  push_cast;omega
def ec (o:List Int) (x:Int):Int:=(eo (j4 o 0) x).getD 0
theorem zy {o:List Int} {x:Int} (h:x∈o):ec o x=cZ o x:=by
 simp[ec,tD,h,cZ]
theorem RJ (o:List Int) (x:Int):0<=ec o x/\ec o x<=o.length:=by
 by_cases h:x∈o
 .rw[zy h];have:=JB h;omega
 .simp[ec,tD,h]
theorem Nt {g:ai} {p q:List Bool} (a:g.start∈cB p q g.rules) (b:∀ r∈g.rules.filter (dd p q),r.left∈cB p q g.rules/\∀ s∈r.right,s < 0->-1 - s∈cB p q g.rules) :
  vQ g (ec (cB p q g.rules)) p q=vQ g (cZ (cB p q g.rules)) p q:=by
 unfold vQ
 congr 1
 .apply Wz
  intro r hr
  obtain⟨h1,c⟩:=b r hr
  unfold cq
  congr 1
  .exact zy h1
  .apply Wz
   intro s d
   split
   .rename_i h;rw[zy (c s d h)]
   .rfl
 .exact zy a
theorem u7:∀ (l:List ba) (acc:List Int) (x:Int),x∈l.foldl kX acc↔x∈acc∨∃ r∈l,r.left=x
 | [],acc,x=>by simp
 | r :: l,acc,x=>by
  rw[V7,u7 l]
  have:x∈kX acc r↔x∈acc∨r.left=x:=by
   unfold kX
   split
   .rename_i h
    constructor
    .exact .inl
    .rintro (a | rfl)
     .exact a
     .exact h
   .simp[eq_comm]
  rw[this]
  simp only[VJ,exists_eq_or_imp]
  constructor
  .rintro ((h | h) | h)
   .exact .inl h
   .exact .inr (.inl h)
   .exact .inr (.inr h)
  .rintro (h | h | h)
   .exact .inl (.inl h)
   .exact .inl (.inr h)
   .exact .inr h
theorem GU {p q:List Bool} {l:List ba} {x:Int} : x∈cB p q l↔∃ r∈l,dd p q r=true/\r.left=x:=by
 unfold cB
 rw[u7]
 simp[Wx,and_assoc]
def ma:SC :=
 af [af [ae [aa 42 9,aa 43 8,aN 44 43,aS 45 .lss 42 44],bO 45 (.exit 0)],.block 1 (ae [aa 48 8,aa 49 9,aL 50 1 48 49,(none,.op (.store 1 (.tmp 50) (.val (.val (.int .i64 (-1))))))]),ae [aa 46 9,aF 47 .add 46 1,aa 9 47]]
def mj:SC :=
 af [af [ae [aa 51 11,av 52 2 1,al 53 52,aN 54 53,aS 55 .lss 51 54],bO 55 (.exit 2)],.block 3 (af [ae [av 58 2 1,al 59 58,aa 60 11,aL 61 3 59 60,bb 62 3 61,((some 12),.op (.alloc [(.val (.int .i64 0)),(.emp 1),(.val (.int .i64 0))])),cy 3 12 62],af [.region false [⟨none,[aa 63 6,av 64 0 12,al 65 64,aL 66 1 63 65,al 67 66,c5 68 67,aa 69 68]⟩,⟨(some (69,false)),[av 70 1 12,al 71 70,aa 72 5,qN 73 95 [(.tmp 71),(.tmp 72),(.val (.val (.bool true)))],c5 74 73]⟩,⟨none,[cx 75 69 74]⟩],aZ 75 (.exit 3)],ae [aa 76 10,aa 77 11,((some 78),.op (.cg 1 1 [(.val (.int .i64 0))] [(0,(.tmp 77))])),gp 79 1 8 76 78,aa 10 79],ae [aa 80 8,av 81 0 12,al 82 81,aL 83 1 80 82,al 84 83,aF 85 .lss 84 0],aZ 85 (af [ae [aa 86 8,av 87 0 12,al 88 87,av 89 1 7,al 90 89,aN 91 90,aL 92 1 86 88,cy 1 92 91],.region false [⟨none,[av 93 1 7,al 94 93,av 95 1 1,al 96 95,av 97 0 12,al 98 97,aL 99 1 96 98,al 100 99,((some 101),.op (.cg 1 1 [(.val (.string ⟨#[]⟩))] [(0,(.tmp 100))])),gp 102 1 16 94 101,av 103 1 7,cy 1 103 102]⟩]])]),ae [aa 56 11,aF 57 .add 56 1,aa 11 57]]
def mb:SC :=
 af [af [ae [aa 126 16,av 127 1 14,al 128 127,aN 129 128,aS 130 .lss 126 129],bO 130 (.exit 6)],.block 7 (af [ae [av 133 1 14,al 134 133,aa 135 16,aL 136 1 134 135,al 137 136,aa 17 137],af [ae [aa 138 17,aF 139 .lss 138 0],aZ 139 (ae [aa 140 8,aa 141 17,((some 142),.op (.arith .sub (.val (.val (.int .i64 (-1)))) (.tmp 141))),aL 143 1 140 142,al 144 143,((some 145),.op (.arith .sub (.val (.val (.int .i64 (-1)))) (.tmp 144))),aa 17 145])],ae [av 146 1 15,al 147 146,aa 148 17,((some 149),.op (.cg 1 1 [(.val (.int .i64 0))] [(0,(.tmp 148))])),gp 150 1 8 147 149,av 151 1 15,cy 1 151 150]]),ae [aa 131 16,aF 132 .add 131 1,aa 16 132]]
def ml:SC :=
 af [af [ae [aa 104 13,aa 105 10,aN 106 105,aS 107 .lss 104 106],bO 107 (.exit 4)],.block 5 (af [ae [av 110 2 1,al 111 110,aa 112 10,aa 113 13,aL 114 1 112 113,al 115 114,aL 116 3 111 115,bb 117 3 116,((some 14),.op (.alloc [(.val (.int .i64 0)),(.emp 1),(.val (.int .i64 0))])),cy 3 14 117],ae [aa 118 8,av 119 0 14,al 120 119,aL 121 1 118 120,al 122 121,av 123 2 14,al 124 123,((some 125),.op (.build [(.val (.int .i64 0)),(.emp 1),(.val (.int .i64 0))] [(0,1,(.tmp 122)),(2,1,(.tmp 124))])),((some 15),.op (.alloc [(.val (.int .i64 0)),(.emp 1),(.val (.int .i64 0))])),cy 3 15 125],af [ae [aP 16 0],bR 6 mb],ae [av 152 2 7,al 153 152,bb 154 3 15,((some 155),.op (.cg 1 3 [(.val (.int .i64 0)),(.emp 1),(.val (.int .i64 0))] [(0,(.tmp 154))])),gp 156 3 40 153 155,av 157 2 7,cy 1 157 156]]),ae [aa 108 13,aF 109 .add 108 1,aa 13 109]]
def pc:SF:=⟨af [ae [cE 1 0,((some 2),.op (.alloc [(.emp 1),(.emp 1),(.emp 1),(.val (.int .i64 0))])),bT 3 1,aP 4 0],af [ae [bb 18 4 1,bf 19 50 [18],c5 20 19],aZ 20 (af [ae [((some 21),.op (.build [(.emp 1),(.emp 1),(.emp 1),(.val (.int .i64 0))] [])),cy 4 2 21,bT 3 1,aP 4 1],.ret])],.region true [⟨none,[bb 22 4 1,bf 23 93 [22],bb 24 4 1,bf 25 94 [24],aa 5 23,aa 6 25]⟩],af [ae [aa 26 5,av 27 3 1,al 28 27,aL 29 1 26 28,al 30 29,c5 31 30],aZ 31 (af [ae [((some 32),.op (.build [(.emp 1),(.emp 1),(.emp 1),(.val (.int .i64 0))] [])),cy 4 2 32,bT 3 1,aP 4 9],.ret])],ae [bT 33 2,av 34 0 1,al 35 34,gp 36 3 32 33 35,((some 37),.op (.build [(.emp 1),(.emp 1),(.emp 1),(.val (.int .i64 0))] [(0,1,(.tmp 36))])),((some 7),.op (.alloc [(.emp 1),(.emp 1),(.emp 1),(.val (.int .i64 0))])),cy 4 7 37],ae [av 38 1 1,al 39 38,aN 40 39,((some 41),.op (.make 1 8 [(.val (.int .i64 0))] (.tmp 40) (.tmp 40))),aa 8 41],af [ae [aP 9 0],bR 0 ma],ae [bT 10 1],af [ae [aP 11 0],bR 2 mj],af [ae [aP 13 0],bR 4 ml],ae [aa 158 8,av 159 3 1,al 160 159,aL 161 1 158 160,al 162 161,av 163 3 7,cy 1 163 162],ae [bb 164 4 7,aa 165 10,cy 4 2 164,aa 3 165,aP 4 0],.ret],
 [.cell 2 (some 4),.tmp 3,.tmp 4],166⟩
theorem ta:aM Tryz.prog 47 [1]=some pc:=by kernel_rfl
abbrev bw (l:List Int):List (List V):=l.map λx=>[gi x]
abbrev kH (l:List ByteArray):List (List V):=l.map λs=>[gs s]
theorem kO {l:List Int} {i:Nat} (h:i < l.length):(bw l).getD i []=[gi l[i]]:=by simp[Vp,h]
theorem ints_set (l:List Int) (i:Nat) (x:Int):(bw l).set i [gi x]=bw (l.set i x):=by simp[Xm]
theorem Sw {l:List Int} (h:0 < l.length):bw l≠[]:=by intro e;rw[List.map_eq_nil_iff] at e;rw[e] at h;simp at h
theorem xH {α:Type} {x:α} : ∀ {l:List α} {i:Nat},i < l.length->(l.set i x).take (i+1)=l.take i ++ [x]
 | y :: l,0,_=>by simp
 | y :: l,i+1,h=>by
  have:=xH (x:=x) (l:=l) (i:=i) (by simpa using h)
  simp only[List.set_cons_succ,List.take_succ_cons,this,V4]
def fu (n:Nat) (o:List Int):List Int:=(List.range n).map λ(x:Nat)=>cZ o (x:Int)
theorem RT (n:Nat):fu n []=List.replicate n (-1):=by
 apply Wp
 .simp[fu]
 .intro i h1 a
  simp[fu,cZ,du]
theorem zp {n:Nat} {o:List Int} {x:Int} (a:0<=x) (h1:x < n):(fu n o)[x.toNat]'(by simp[fu];omega)=cZ o x:=by
 simp[fu,show ((x.toNat:Nat):Int)=x by omega]
theorem Sb {n:Nat} {o:List Int} {x:Int} (b:0<=x) (h1:x < n) (a:x ∉ o):(fu n o).set x.toNat o.length=fu n (o ++ [x]):=by
 apply Wp
 .simp[fu]
 .intro i c d
  rw[List.getElem_set]
  simp only[fu,Xg,Xv]
  rw[N3 a]
  by_cases e:x.toNat=i
  .rw[Vu e,Vu (by omega)]
  .rw[Vs e,Vs (by omega)]
abbrev zk:=List (V × ba)
def gU (b:zk):List (List V):=b.map λx=>[gi x.2.left,x.1,gi x.2.prec]
def mg (b:zk):List dM:=b.map λx=>(x.1,1,bw x.2.right)
theorem N7 {h:aD} {u:V} {b:zk} (c:aO h.view u 3 (gU b)) (f:∀ x∈mg b,aO h.view x.1 x.2.1 x.2.2):dB h u (.aW ((b.map (·.2)).map aK)):=by
 refine dB.own c (by simp[gU]) (λi hi=>?_) (λi j hi a=>?_)
 all_goals
  simp only[gU,Vx] at hi
  have e:(gU b).getD i []=[gi b[i].2.left,b[i].1,gi b[i].2.prec]:=by simp[gU,Vp,hi]
  have d:((b.map (·.2)).map aK).getD i []=aK b[i].2:=by simp[Vp,hi]
 .rw[e,d];rfl
 .rw[e,d]
  rw[d] at a
  have hm:b[i]∈b:=Vw _
  have c:=f (b[i].1,1,bw b[i].2.right) (VO.2 ⟨_,hm,rfl⟩)
  match j,a with
  | 0,_=>exact .val _
  | 1,_=>exact jd c
  | 2,_=>exact .val _
  | n+3,a=>exact absurd a (by simp only[aK,Vz,VS];omega)
theorem P7 {h:aD} {u:V} {l:List ByteArray} (a:aO h.view u 1 (kH l)):dB h u (encS l):=dB.Q7 (f:=Value.string) a
theorem MC {h:aD} {u:V} {l:List Term} (b:aO h.view u 3 (l.map dq)):dB h u (eE l):=by
 refine dB.own b rfl (λ_ _=>rfl) (λi j hi a=>?_)
 simp only[Vx] at hi
 have c:(l.map dq).getD i []=dq l[i]:=by simp[Vp,hi]
 rw[c] at a ⊢
 match j,a with
 | 0,_=>exact .val _
 | 1,_=>exact .val _
 | 2,_=>exact .val _
 | n+3,a=>exact absurd a (by simp only[dq,Vz,VS];omega)
def vR (x:ai × List Int × Int):V:=.aY [.agg (ag x.1),encI x.2.1,gi x.2.2]
theorem vJ {h:aD} {e:Int} {b k2 c d:Nat} : dB h (.aY [.agg [.emp b,.emp k2,.emp c,gi 0],.emp d,gi e]) (vR (rK,[],e)):=by
 refine .aY _ _ rfl λi hi=>?_
 match i,hi with
 | 0,_ =>
  refine .agg _ _ rfl λj a=>?_
  match j,a with
  | 0,_=>exact .emp _
  | 1,_=>exact .emp _
  | 2,_=>exact .emp _
  | 3,_=>exact .val _
  | n+4,a=>exact absurd a (by simp only[Vz,VS];omega)
 | 1,_=>exact .emp _
 | 2,_=>exact .val _
 | n+3,hi=>exact absurd hi (by simp only[Vz,VS];omega)
def Tn (g:ai) (p q:List Bool) (b2 b7 b8:Nat) (u0:V) (i:Nat) (T:Env) (H:View):Prop :=
 (∃ u1 u3:V,T 10=u3/\(∀ x∈cB p q (g.rules.take i),0<=x/\x < g.ak.length)/\(cB p q (g.rules.take i)).Nodup/\(cB p q (g.rules.take i)).length<=i /\
  bo H [(.sl b7 0 1 4,4,[[u0,u1,.emp 1,gi 0]]),(.sl b8 0 g.ak.length 1,1,bw (fu g.ak.length (cB p q (g.rules.take i)))),(u3,1,bw (c9 p q (g.rules.take i) 0)),
   (u1,1,kH ((cB p q (g.rules.take i)).map λx=>g.ak.getD x.toNat ⟨#[]⟩)),(u0,3,g.au.map dq),(.sl b2 0 1 4,4,[[.emp 1,.emp 1,.emp 1,gi 0]])]) /\
 T 1=.aJ (ag g) 0/\T 2=.ptr b2 0 0/\T 5=b5 p/\T 6=b5 q/\T 7=.ptr b7 0 0/\T 8=.sl b8 0 g.ak.length 1/\T 11=gi i
def UO (g:ai) (p q:List Bool) (b2 b7 b8:Nat) (u0 u1 u3:V) (o kl:List Int) (i:Nat) (T:Env) (H:View):Prop :=
 (∃ (u2:V) (bs:zk),bs.map (·.2)=((g.rules.filter (dd p q)).take i).map (cq (cZ o)) /\
  bo H ((.sl b7 0 1 4,4,[[u0,u1,u2,gi 0]]) :: (.sl b8 0 g.ak.length 1,1,bw (fu g.ak.length o)) :: (u3,1,bw kl) ::
   (u1,1,kH (o.map λx=>g.ak.getD x.toNat ⟨#[]⟩)) :: (u0,3,g.au.map dq) :: (u2,3,gU bs) :: (.sl b2 0 1 4,4,[[.emp 1,.emp 1,.emp 1,gi 0]]) :: mg bs)) /\
 T 1=.aJ (ag g) 0/\T 2=.ptr b2 0 0/\T 7=.ptr b7 0 0/\T 8=.sl b8 0 g.ak.length 1/\T 10=u3/\T 13=gi i
def UC (g:ai) (b2 b7 b8 b14 b15:Nat) (u3:V) (o:List Int) (r:ba) (L:List dM) (i k:Nat) (T:Env) (H:View):Prop :=
 (∃ v:V,bo H ((.sl b15 0 1 3,3,[[gi (cZ o r.left),v,gi r.prec]]) :: (v,1,bw ((cq (cZ o) r).right.take k)) :: (.sl b14 0 1 3,3,[aK r]) :: L)) /\
 T 1=.aJ (ag g) 0/\T 2=.ptr b2 0 0/\T 7=.ptr b7 0 0/\T 8=.sl b8 0 g.ak.length 1/\T 10=u3/\T 13=gi i/\T 14=.ptr b14 0 0/\T 15=.ptr b15 0 0/\T 16=gi k
theorem JL {h:aD} {c d e f:V} {x:ai × List Int × Int} {b:zk} (g:aO h.view c 3 (x.1.au.map dq)) (h1:aO h.view d 1 (kH x.1.ak)) (k:aO h.view e 3 (gU b)) (l:∀ y∈mg b,aO h.view y.1 y.2.1 y.2.2)
  (hr:b.map (·.2)=x.1.rules) (m:aO h.view f 1 (bw x.2.1)):dB h (.aY [.agg [c,d,e,gi x.1.start],f,gi x.2.2]) (vR x):=by
 refine .aY _ _ rfl λi hi=>?_
 match i,hi with
 | 0,_ =>
  refine .agg _ _ rfl λj a=>?_
  match j,a with
  | 0,_=>exact MC g
  | 1,_=>exact P7 h1
  | 2,_=>have:=N7 k l;rw[hr] at this;exact this
  | 3,_=>exact .val _
  | n+4,a=>exact absurd a (by simp only[Vz,VS];omega)
 | 1,_=>exact jd m
 | 2,_=>exact .val _
 | n+3,hi=>exact absurd hi (by simp only[Vz,VS];omega)
theorem Ir (g:ai) (hg:g.Ok):ca Tryz.prog 47 [.agg (ag g)] (vR (gS g)):=by
 refine ca.of (eD g) ?_
 refine aw.of mixed ta ?_
 simp(disch:=omega)only[↓wr,seval,wq,pc,ag,encS]
 intro M
 try simp(disch:=omega)only[↓wr,seval,wq,ag,encS]
 refine ax.pure (j9 g hg) ?_
 repeat' (first | ((first|apply aj.dec|apply aj.eq|apply aj.ne|apply aj.split)<;>intro)|(simp(disch:=omega)only[↓wr,seval,wq,ag,encS,set_set]))
 .rename_i hr
  refine ax.pure (tI g hg) ?_
  simp(disch:=omega)only[↓wr,seval,wq,ag,encS]
  refine ax.pure (DG g hg).pure ?_
  have hf:=bX hr
  have h3:=hf.kT
  have h4:=hf.start
  have dj:=mq hr true
  have fs:=qf hr
  have c:=GI hr
  generalize bF g true=p at dj c
  generalize cr g=q at fs c
  have ch:p[g.start.toNat]?=some (p[g.start.toNat]'(by omega)):=Vq (by omega)
  have dm:p.getD g.start.toNat false=p[g.start.toNat]'(by omega):=by simp[Vp,ch]
  generalize p[g.start.toNat]'(by omega)=s at ch dm
  rw[dm] at c
  simp(disch:=omega)only[↓wr,seval,wq,ag,encS,b5,Vt,ch]
  cases s with
  | false =>
   rw[Vs (by simp)] at c
   simp(disch:=omega)only[↓wr,seval,wq,ag,encS,set_set]
   rintro h' hh
   rw[c]
   exact vJ
  | true =>
   rw[Vu rfl] at c
   simp(disch:=omega)only[↓wr,seval,wq,ag,encS,set_set]
   have hN:=hf.ak
   have hI:=hf.kC
   have hT:=hf.au
   have hR:=hf.rules
   refine dp (L:=[(.sl M 0 1 4,4,[[.emp 1,.emp 1,.emp 1,gi 0]])]) (bo.emp (bo.nil.new rfl 4 _)) (by simp[dq,aH]) (by unfold aC;simp;omega) (by unfold aC;simp;omega) ?_
   intro C H1 cj _
   have c0:=cj.head.cells
   have k0:=cj.head.gv
   simp(disch:=omega)only[↓wr,seval,wq,ag,encS,c0,k0]
   intro P ft
   have fx:=cj.new ft 4 [[C,.emp 1,.emp 1,gi 0]]
   try simp(disch:=omega)only[↓wr,seval,wq,ag,encS,c0,k0,set_set]
   refine⟨⟨by omega,by unfold aC;omega,by unfold aC;omega⟩,λh=>by omega,?_⟩
   intro _ B ds
   have dv:=(cb ds b6).1
   have j:=fx.new (n:=B) (by simp only[View.set,Vs dv];exact(cb (cb ds b6).2 b6).2) 1 (bw (List.replicate g.ak.length 0))
   try simp(disch:=omega)only[↓wr,seval,wq,ag,encS,c0,k0,set_set]
   refine aR.up g.ak.length (λi T H=>(∃ l:List Int,l.length=g.ak.length/\l.take i=List.replicate i (-1) /\
    bo H [(.sl B 0 g.ak.length 1,1,bw l),(.sl P 0 1 4,4,[[C,.emp 1,.emp 1,gi 0]]),(C,3,g.au.map dq),(.sl M 0 1 4,4,[[.emp 1,.emp 1,.emp 1,gi 0]])]) /\
    T 1=.aJ (ag g) 0/\T 2=.ptr M 0 0/\T 5=b5 p/\T 6=b5 q/\T 7=.ptr P 0 0/\T 8=.sl B 0 g.ak.length 1/\T 9=gi i) ?_ ?_
   .exact⟨⟨List.replicate g.ak.length 0,by simp,by simp,by simpa [set_set] using j⟩,rfl,rfl,rfl,rfl,rfl,rfl,rfl⟩
   rintro i k T H2 hk ⟨⟨l,G,t,f⟩,t1,t2,t5,t6,t7,t8,t9⟩
   simp(disch:=omega)only[↓wr,seval,wq,ma,t1,t2,t5,t6,t7,t8,t9]
   apply aj.dec<;>intro hc
   .have fz:bw l≠[]:=by intro e;rw[List.map_eq_nil_iff] at e;rw[e] at G;simp at G;omega
    have hb:=(f.obj fz).1
    have u:=kO (show i < l.length by omega)
    simp(disch:=omega)only[↓wr,seval,wq,t1,t2,t5,t6,t7,t8,t9,hb,u,Vx]
    refine⟨by omega,by omega,?_⟩
    refine aE hk (by omega) ⟨⟨l.set i (-1),by simp[G],?_,?_⟩,t1,t2,t5,t6,t7,t8,rfl⟩
    .rw[xH (by omega),t,List.replicate_succ']
    .rw[ints_set]
     exact f.put (by simp) (by simp[G])
   .rw[VG (by omega)] at t
    rw[t] at f
    have ei:i=g.ak.length:=by omega
    subst ei
    simp(disch:=omega)only[↓wr,seval,wq,t1,t2,t5,t6,t7,t8,t9]
    have name_in:∀ o:List Int,(o.map λx=>g.ak.getD x.toNat ⟨#[]⟩).length=o.length:=λo=>by simp
    refine aR.up g.rules.length (Tn g p q M P B C) ?_ ?_
    .refine⟨⟨.emp 1,.emp 1,rfl,by simp[cB],by simp[cB],by simp[cB],?_⟩,t1,t2,t5,t6,t7,t8,rfl⟩
     have h4:=((((f.emp (k:=1) (sz:=1)).emp (k:=1) (sz:=1)).at 3 (by simp)).perm (GS.symm.cons _))
     have e0:cB p q (g.rules.take 0)=[]:=rfl
     rw[e0,RT]
     exact h4
    clear f t1 t2 t5 t6 t7 t8 t9 G t
    rintro i k T H2 hk ⟨⟨J,u3,t10,aq,ar,ck,f⟩,t1,t2,t5,t6,t7,t8,t11⟩
    simp(disch:=omega)only[↓wr,seval,wq,mj,t1,t2,t5,t6,t7,t8,t10,t11,ag]
    apply aj.dec<;>intro hc
    .have I:g.rules[i]?=some (g.rules[i]'(by omega)):=Vq (by omega)
     have z:g.rules[i]'(by omega)∈g.rules:=Vw _
     have D:g.rules.take (i+1)=g.rules.take i ++ [g.rules[i]'(by omega)]:=by rw[VP,I];rfl
     generalize g.rules[i]'(by omega)=r at I z D
     obtain⟨G,t,Q,ga,bd⟩:=hf.qy hg z
     have cA:q[r.left.toNat]?=some (q[r.left.toNat]'(by omega)):=Vq (by omega)
     have bl:q.getD r.left.toNat false=q[r.left.toNat]'(by omega):=by simp[Vp,cA]
     generalize q[r.left.toNat]'(by omega)=qs at cA bl
     simp(disch:=omega)only[↓wr,seval,wq,t1,t2,t5,t6,t7,t8,t10,t11,ag,aK,Vt,I]
     intro ea eb
     have A:=f.new eb 3 [aK r]
     try simp(disch:=omega)only[↓wr,seval,wq,t1,t2,t5,t6,t7,t8,t10,t11,aK,encI,b5,Vt,cA,set_set]
     have R:∀ (T2:Env) (H':View),dd p q r=false->H'=H2.set ea (.arr 3 [aK r])->T2 10=u3->T2 1=.aJ (ag g) 0->T2 2=.ptr M 0 0->T2 5=b5 p->T2 6=b5 q->T2 7=.ptr P 0 0->T2 8=.sl B 0 g.ak.length 1->T2 11=gi ((i:Int)+1) ->
       ∃ k',k' < k/\CO g.rules.length k' (Tn g p q M P B C) T2 H':=by
      intro T2 H' S gd gk a1 a2 a5 a6 a7 a8 gl
      have N:cB p q (g.rules.take (i+1))=cB p q (g.rules.take i):=by rw[D,tV,Vs (by simp[S])]
      have e2:c9 p q (g.rules.take (i+1)) 0=c9 p q (g.rules.take i) 0:=by rw[D,k5];simp[c9,S]
      refine aE hk (by omega) ⟨⟨J,u3,gk,by rw[N];exact aq,by rw[N];exact ar,by rw[N];omega,by rw[N,e2,gd];exact A.tail⟩,a1,a2,a5,a6,a7,a8,by rw[gl];rfl⟩
     cases qs with
     | false =>
      simp(disch:=omega)only[↓wr,seval,wq,t1,t2,t5,t6,t7,t8,t10,t11]
      refine R _ _ (by rw[dd,bl];rfl) ?_ ?_ ?_ ?_ ?_ ?_ ?_ ?_ ?_
      all_goals first | exact t10 | exact t1 | exact t2 | exact t5 | exact t6 | exact t7 | exact t8 | rfl | (rw[set_set];rfl)
     | true =>
      simp(disch:=omega)only[↓wr,seval,wq,t1,t2,t5,t6,t7,t8,t10,t11,aK,encI,b5]
      refine ax.pure (Hh r.right p true (hg.az r z).2.2.1 (λs hs=>⟨(bd s hs).1,λh=>by rw[dj];exact(bd s hs).2 h⟩)) ?_
      simp(disch:=omega)only[↓wr,seval,wq,t1,t2,t5,t6,t7,t8,t10,t11]
      apply aj.split<;>intro cC
      .simp(disch:=omega)only[↓wr,seval,wq,t1,t2,t5,t6,t7,t8,t10,t11]
       have S:dd p q r=true:=by rw[dd,bl,cC];rfl
       intro m hm
       try simp(disch:=omega)only[↓wr,seval,wq,t1,t2,t5,t6,t7,t8,t10,t11,bP]
       have ee:=(cb hm b6).1
       have hm:=(cb (cb hm b6).2 b6).2
       have d:=(A.fresh (n:=m) (o:=.arr 1 [[gi i]]) (by simp only[View.set,Vs ee];exact hm)).at 3 (by simp)
       have ef:(c9 p q (g.rules.take i) 0).length<=40:=by
        rw[kR]
        have h1:=WY (dd p q) (g.rules.take i)
        have h2:(g.rules.take i).length<=i:=List.length_take_le _ _
        have:=hf.rules
        omega
       refine dp (by rw[set_set];exact d) (by simp[aH]) (by unfold aC;simp at ef ⊢;omega) (by unfold aC;simp at ef ⊢;omega) ?_
       intro eg H3 j _
       have f12:=((j.at 1 (by simp)).obj (by simp)).1
       have f7:=((j.at 2 (by simp)).obj (by simp)).1
       have f8:=((j.at 3 (by simp)).obj (Sw (by simp[fu];omega))).1
       have cI:ct J=some (kH ((cB p q (g.rules.take i)).map λx=>g.ak.getD x.toNat ⟨#[]⟩)).length:=(j.at 4 (by simp)).head.len
       have u:=kO (l:=fu g.ak.length (cB p q (g.rules.take i))) (i:=r.left.toNat) (by simp[fu];omega)
       rw[zp t Q] at u
       simp only[aK,encI] at f12
       simp(disch:=omega)only[↓wr,seval,wq,t1,t2,t5,t6,t7,t8,t11,f12,f7,f8,u]
       refine⟨by omega,by simp[fu];omega,?_⟩
       have e2:c9 p q (g.rules.take (i+1)) 0=c9 p q (g.rules.take i) 0 ++ [(i:Int)]:=by
        rw[D,k5];simp[c9,S,show i<=g.rules.length by omega]
       have N:cB p q (g.rules.take (i+1))=kX (cB p q (g.rules.take i)) r:=by rw[D,tV,Vu S]
       generalize cB p q (g.rules.take i)=o at *
       generalize c9 p q (g.rules.take i) 0=kl at *
       apply aj.dec<;>intro ej
       .have hx:r.left ∉ o:=sS.1 ej
        have E:kX o r=o ++ [r.left]:=by rw[kX,Vs hx]
        have U:P≠B:=j.Km 2 3 rfl rfl (by omega)
        have W:ea≠B:=j.Km 1 3 rfl rfl (by omega)
        have cN:g.ak[r.left.toNat]?=some (g.ak[r.left.toNat]'(by omega)):=Vq (by omega)
        have b0:g.ak.getD r.left.toNat ⟨#[]⟩=g.ak[r.left.toNat]'(by omega):=by simp[Vp,cN]
        generalize g.ak[r.left.toNat]'(by omega)=nm at cN b0
        simp(disch:=omega)only[↓wr,seval,wq,t1,t2,t5,t6,t7,t8,t11,f12,f7,f8,u,cI,Vx]
        try refine⟨by omega,by simp[fu];omega,?_⟩
        try simp(disch:=omega)only[↓wr,seval,wq,t1,t2,t5,t6,t7,t8,t11,f12,f7,f8,u,cI,Vx,U,W,ag,encS,Vt,cN]
        intro m2 O
        have ek:=(cb O b6).1
        have O:=(cb O b6).2
        have gr:(bw (fu g.ak.length o)).set r.left.toNat [gi o.length]=bw (fu g.ak.length (o ++ [r.left])):=by rw[ints_set,Sb t Q hx]
        have cS:=(j.at 3 (by simp)).put (es':=(bw (fu g.ak.length o)).set r.left.toNat [gi o.length]) (by simp) (by simp[fu])
        have ha:=(cS.fresh (n:=m2) (o:=.arr 1 [[gs nm]]) (by simp only[View.set,Vs ek];exact O)).at 4 (by simp)
        have hF:o.length<=40:=by omega
        try simp(disch:=omega)only[↓wr,seval,wq,t1,t2,t5,t6,t7,t8,t11,f12,f7,f8,u,cI,Vx,U,W,bP]
        refine dp ha (by simp[aH]) (by unfold aC;simp;omega) (by unfold aC;simp;omega) ?_
        intro eH H5 bn _
        have c1:=bn.head.cells
        have k1:=bn.head.gv
        have cV:=((bn.at 4 (by simp)).obj (by simp)).1
        simp(disch:=omega)only[↓wr,seval,wq,t1,t2,t5,t6,t7,t8,t11,cV,c1,k1]
        have hd:=(bn.at 4 (by simp)).put (es':=[[C,eH,.emp 1,gi 0]]) rfl rfl
        have hj:=(((hd.at 4 (by simp)).tail).perm (GS.cons _))
        refine aE hk (by omega) ⟨⟨eH,eg,rfl,?_,?_,?_,?_⟩,t1,t2,t5,t6,t7,t8,rfl⟩
        .rw[N,E];intro x hl;rcases VM.1 hl with h | h
         .exact aq x h
         .simp at h;subst h;exact⟨t,Q⟩
        .rw[N];exact LX ar
        .rw[N,E];simp;omega
        .rw[N,E,e2]
         have:=hj
         rw[gr] at this
         simp only[VW,VX,W6,b0]
         exact this
       .have hx:r.left∈o:=by
         refine WL λh=>?_
         have:=sS.2 h
         omega
        have E:kX o r=o:=by rw[kX,Vu hx]
        simp(disch:=omega)only[↓wr,seval,wq,t1,t2,t5,t6,t7,t8,t11]
        have cS:=(((j.at 1 (by simp)).tail).perm GS)
        refine aE hk (by omega) ⟨⟨J,eg,rfl,?_,?_,?_,?_⟩,t1,t2,t5,t6,t7,t8,rfl⟩
        .rw[N,E];exact aq
        .rw[N,E];exact ar
        .rw[N,E];omega
        .rw[N,E,e2]
         simp only[VW,VX,W6]
         exact cS
      .simp(disch:=omega)only[↓wr,seval,wq,t1,t2,t5,t6,t7,t8,t10,t11]
       refine R _ _ (by rw[dd,bl,cC];rfl) ?_ ?_ ?_ ?_ ?_ ?_ ?_ ?_ ?_
       all_goals first | exact t10 | exact t1 | exact t2 | exact t5 | exact t6 | exact t7 | exact t8 | rfl | (rw[set_set];rfl)
    .rw[VG (by omega)] at f aq ar ck
     have hn:(c9 p q g.rules 0).length<=40:=by
      rw[kR];have h1:=WY (dd p q) g.rules;omega
     have hq:=tq p q g.rules 0
     have hG:=kR p q g.rules 0
     have c3:g.start.toNat < (fu g.ak.length (cB p q g.rules)).length:=by simp[fu];omega
     have b1:=kO c3
     rw[zp h3 h4] at b1
     have e4:vQ g (cZ (cB p q g.rules)) p q=⟨g.au,(cB p q g.rules).map λx=>g.ak.getD x.toNat ⟨#[]⟩,(g.rules.filter (dd p q)).map (cq (cZ (cB p q g.rules))),cZ (cB p q g.rules) g.start⟩:=rfl
     rw[e4] at c
     clear e4
     generalize cB p q g.rules=o at *
     generalize c9 p q g.rules 0=kl at *
     simp(disch:=omega)only[↓wr,seval,wq,t1,t2,t5,t6,t7,t8,t10,t11]
     refine aR.up kl.length (UO g p q M P B C J u3 o kl) ?_ ?_
     .refine⟨⟨.emp 1,[],by simp,?_⟩,t1,t2,t7,t8,t10,rfl⟩
      exact(f.emp (k:=1) (sz:=3)).perm (sf [(.sl P 0 1 4,4,[[C,J,.emp 1,gi 0]]),(.sl B 0 g.ak.length 1,1,bw (fu g.ak.length o)),(u3,1,bw kl),(J,1,kH (o.map λx=>g.ak.getD x.toNat ⟨#[]⟩)),(C,3,g.au.map dq),(.emp 1,3,[]),(.sl M 0 1 4,4,[[.emp 1,.emp 1,.emp 1,gi 0]])] 5 (by simp)).symm
     clear f t1 t2 t5 t6 t7 t8 t10 t11
     rintro i k T H2 hk ⟨⟨u2,bs,br,f⟩,t1,t2,t7,t8,t10,t13⟩
     have ht:ct u3=some (bw kl).length:=(f.own 2 rfl).len
     simp(disch:=omega)only[↓wr,seval,wq,ml,t1,t2,t7,t8,t10,t13,ht,Vx]
     apply aj.dec<;>intro hc
     .obtain⟨n3,e3,hz⟩:=(f.own 2 rfl).sl (by simp;omega)
      rw[Vx] at e3
      subst e3
      obtain⟨m,c4,O,X⟩:=hq i (by omega)
      have u:=kO (show i < kl.length by omega)
      rw[Int.zero_add] at c4
      have hA:kl[i]'(by omega)=(m:Int):=by
       rw[Vq (show i < kl.length by omega)] at c4;simpa using c4
      rw[hA] at u
      have I:g.rules[m]?=some (g.rules[m]'X):=Vq X
      have z:g.rules[m]'X∈g.rules:=Vw _
      have D:(g.rules.filter (dd p q)).take (i+1)=(g.rules.filter (dd p q)).take i ++ [g.rules[m]'X]:=by
       rw[VP,<-O,I];rfl
      generalize g.rules[m]'X=r at I z D
      obtain⟨G,t,Q,ga,bd⟩:=hf.qy hg z
      simp(disch:=omega)only[↓wr,seval,wq,t1,t2,t7,t8,t10,t13,hz,u,Vx,ag,aK,Vt,I]
      refine⟨by omega,by omega,?_⟩
      intro e5 b9
      have A:=f.new b9 3 [aK r]
      have f8:=A.is 2 rfl (by simp[fu];omega)
      have cc:=kO (l:=fu g.ak.length o) (i:=r.left.toNat) (by simp[fu];omega)
      rw[zp t Q] at cc
      have da:B≠e5:=A.Km 2 0 rfl rfl (by omega)
      have g8:H2 B=.arr 1 (bw (fu g.ak.length o)):=f.is 1 rfl (by simp[fu];omega)
      try simp(disch:=omega)only[↓wr,seval,wq,t1,t2,t7,t8,t10,t13,g8,da,cc,Vx,set_set,encI]
      refine⟨by omega,by simp[fu];omega,?_⟩
      intro e6 F
      have e7:=(cb F b6).1
      have F:=(cb (cb F b6).2 b6).2
      have d:=(((A.new (n:=e6) (by simp only[View.set,Vs e7];exact F) 3 [[gi (cZ o r.left),.emp 1,gi r.prec]]).emp (k:=1) (sz:=1)).perm (.swap _ _ _))
      generalize hL:((V.sl P 0 1 4,4,[[C,J,u2,gi 0]]) :: (V.sl B 0 g.ak.length 1,1,bw (fu g.ak.length o)) :: (V.sl n3 0 kl.length 1,1,bw kl) ::
       (J,1,kH (o.map λx=>g.ak.getD x.toNat ⟨#[]⟩)) :: (C,3,g.au.map dq) :: (u2,3,gU bs) :: (V.sl M 0 1 4,4,[[V.emp 1,V.emp 1,V.emp 1,gi 0]]) :: mg bs:List dM)=L at d
      have hB:L[1]?=some (.sl B 0 g.ak.length 1,1,bw (fu g.ak.length o)):=by rw[<-hL];rfl
      try simp(disch:=omega)only[↓wr,seval,wq,t1,t2,t7,t8,t10,t13,set_set]
      refine aR.up r.right.length (UC g M P B e5 e6 (.sl n3 0 kl.length 1) o r L i) ?_ ?_
      .exact⟨⟨.emp 1,by rw[set_set,set_set];exact d⟩,t1,t2,t7,t8,t10,t13,rfl,rfl,rfl⟩
      clear A d f8 g8 b9 F t1 t2 t7 t8 t10 t13
      rintro k k2 T H3 e8 ⟨⟨v,w⟩,t1,t2,t7,t8,t10,t13,t14,t15,t16⟩
      have f14:=w.is 2 rfl (by simp)
      have f15:=w.is 0 rfl (by simp)
      have f8:H3 B=.arr 1 (bw (fu g.ak.length o)):=w.is 4 (by simpa using hB) (by simp[fu];omega)
      simp only[aK] at f14
      simp(disch:=omega)only[↓wr,seval,wq,mb,t1,t2,t7,t8,t10,t13,t14,t15,t16,f14,encI]
      apply aj.dec<;>intro hC
      .have db:r.right[k]?=some (r.right[k]'(by omega)):=Vq (by omega)
       have e9:r.right[k]'(by omega)∈r.right:=Vw _
       have Y:(cq (cZ o) r).right.take (k+1)=(cq (cZ o) r).right.take k ++ [if r.right[k]'(by omega) < 0 then -1 - cZ o (-1 - r.right[k]'(by omega)) else r.right[k]'(by omega)]:=by
        rw[VP];simp[cq,db]
       have bx:((cq (cZ o) r).right.take k).length<=6:=by
        have h1:(cq (cZ o) r).right.length=r.right.length:=by simp[cq]
        have h2:((cq (cZ o) r).right.take k).length<=(cq (cZ o) r).right.length:=by rw[Wh];omega
        omega
       generalize r.right[k]'(by omega)=s at db e9 Y
       obtain⟨⟨s1,s2⟩,s3⟩:=bd s e9
       simp(disch:=omega)only[↓wr,seval,wq,t1,t2,t7,t8,t10,t13,t14,t15,t16,f14,encI,Vt,db]
       have hJ:=RL o (-1 - s)
       have hK:o.length<=40:=by omega
       apply aj.dec<;>intro K
       .rw[Vu K] at Y
        have fb:=s3 K
        have cf:=kO (l:=fu g.ak.length o) (i:=(-1 - s).toNat) (by simp[fu];omega)
        rw[zp (by omega) fb] at cf
        simp(disch:=omega)only[↓wr,seval,wq,t1,t2,t7,t8,t10,t13,t14,t15,t16,f14,f15,f8,cf,Vx]
        refine⟨by omega,by simp[fu];omega,?_⟩
        intro m hm
        try simp(disch:=omega)only[↓wr,seval,wq,t1,t2,t7,t8,t10,t13,t14,t15,t16,bP]
        have Z:=(w.fresh (o:=.arr 1 [[gi (-1 - cZ o (-1 - s))]]) hm).at 1 (by simp)
        refine dp Z (by simp[aH]) (by unfold aC;simp at bx ⊢;omega) (by unfold aC;simp at bx ⊢;omega) ?_
        intro v' H4 a _
        have cv:=a.head.cells
        have kv:=a.head.gv
        have ab:=a.is 1 rfl (by simp)
        simp(disch:=omega)only[↓wr,seval,wq,t1,t2,t7,t8,t10,t13,t14,t15,t16,ab,cv,kv]
        have an:=(a.at 1 (by simp)).put (es':=[[gi (cZ o r.left),v',gi r.prec]]) rfl rfl
        refine aE e8 (by omega) ⟨⟨v',?_⟩,t1,t2,t7,t8,t10,t13,t14,t15,rfl⟩
        rw[Y]
        simp only[VW,VX,W6]
        exact an
       .rw[Vs K] at Y
        simp(disch:=omega)only[↓wr,seval,wq,t1,t2,t7,t8,t10,t13,t14,t15,t16,f14,f15,f8]
        intro m hm
        try simp(disch:=omega)only[↓wr,seval,wq,t1,t2,t7,t8,t10,t13,t14,t15,t16,bP]
        have Z:=(w.fresh (o:=.arr 1 [[gi s]]) hm).at 1 (by simp)
        refine dp Z (by simp[aH]) (by unfold aC;simp at bx ⊢;omega) (by unfold aC;simp at bx ⊢;omega) ?_
        intro v' H4 a _
        have cv:=a.head.cells
        have kv:=a.head.gv
        have ab:=a.is 1 rfl (by simp)
        simp(disch:=omega)only[↓wr,seval,wq,t1,t2,t7,t8,t10,t13,t14,t15,t16,ab,cv,kv]
        have an:=(a.at 1 (by simp)).put (es':=[[gi (cZ o r.left),v',gi r.prec]]) rfl rfl
        refine aE e8 (by omega) ⟨⟨v',?_⟩,t1,t2,t7,t8,t10,t13,t14,t15,rfl⟩
        rw[Y]
        simp only[VW,VX,W6]
        exact an
      .rw[VG (by simp[cq];omega)] at w
       subst hL
       have f7:=w.is 3 rfl (by simp)
       have cv:=(w.own 1 rfl).cells
       have kv:=(w.own 1 rfl).gv
       have ff:(gU bs).length<=40:=by
        have h1:=W4 List.length br
        simp only[Vx,Wh] at h1
        simp only[gU,Vx]
        omega
       simp(disch:=omega)only[↓wr,seval,wq,t1,t2,t7,t8,t10,t13,t14,t15,t16,f7,f15,cv,kv]
       intro m hm
       try simp(disch:=omega)only[↓wr,seval,wq,t1,t2,t7,t8,t10,t13,t14,t15,t16,bP]
       have Z:=(w.fresh (o:=.arr 3 [[gi (cZ o r.left),v,gi r.prec]]) hm).at 8 (by simp)
       refine dp Z (by simp[zo,kv]) (by unfold aC;simp at ff ⊢;omega) (by unfold aC;simp at ff ⊢;omega) ?_
       intro fl H4 a _
       have cu:=a.head.cells
       have ku:=a.head.gv
       have cV:=a.is 4 rfl (by simp)
       simp(disch:=omega)only[↓wr,seval,wq,t1,t2,t7,t8,t10,t13,t14,t15,t16,cV,cu,ku]
       have an:=(a.at 4 (by simp)).put (es':=[[C,J,fl,gi 0]]) rfl rfl
       have hE:=((((an.at 2 (by simp)).tail).at 3 (by simp)).tail)
       refine aE hk (by omega) ⟨⟨fl,bs ++ [(v,cq (cZ o) r)],?_,?_⟩,t1,t2,t7,t8,t10,rfl⟩
       .rw[VW,br,D,VW];rfl
       .refine hE.perm (.cons _ ?_)
        simp only[mg,gU,VW,VX,W6]
        refine .trans ?_ (sf _ 4 (by simp)).symm
        refine .cons _ ?_
        exact(List.perm_append_singleton (v,1,bw (cq (cZ o) r).right) ((.sl B 0 g.ak.length 1,1,bw (fu g.ak.length o)) :: (.sl n3 0 kl.length 1,1,bw kl) :: (J,1,kH (o.map λx=>g.ak.getD x.toNat ⟨#[]⟩)) :: (C,3,g.au.map dq) :: (.sl M 0 1 4,4,[[.emp 1,.emp 1,.emp 1,gi 0]]) :: mg bs)).symm
     .rw[VG (by omega)] at br
      have f7:=f.is 0 rfl (by simp)
      have f8:H2 B=.arr 1 (bw (fu g.ak.length o)):=f.is 1 rfl (by simp[fu];omega)
      have f2:=f.is 6 rfl (by simp)
      have fm:P≠M:=f.Km 0 6 rfl rfl (by omega)
      have c1:=(f.own 3 rfl).cells
      have k1:=(f.own 3 rfl).gv
      have c2:=(f.own 5 rfl).cells
      have k2:=(f.own 5 rfl).gv
      simp(disch:=omega)only[↓wr,seval,wq,t1,t2,t7,t8,t10,t13,f7,f8,f2,fm,fm.symm,b1,c0,k0,c1,k1,c2,k2,ag,Vx]
      refine⟨by omega,by simp[fu];omega,λh' hh=>?_⟩
      have A:=f.put (es':=[[C,J,u2,gi (cZ o g.start)]]) rfl rfl
      have d:=(A.at 6 (by simp)).put (es':=[[C,J,u2,gi (cZ o g.start)]]) rfl rfl
      have hv:h'.view=(H2.set P (.arr 4 [[C,J,u2,gi (cZ o g.start)]])).set M (.arr 4 [[C,J,u2,gi (cZ o g.start)]]):=hh
      rw[<-hv] at d
      rw[c]
      exact JL (x:=(⟨g.au,o.map λx=>g.ak.getD x.toNat ⟨#[]⟩,(g.rules.filter (dd p q)).map (cq (cZ o)),cZ o g.start⟩,kl,0)) (b:=bs) (d.own 5 rfl) (d.own 4 rfl) (d.own 6 rfl) (λy hy=>d.1 y (by
       refine VL _ (VL _ (VL _ (VL _ (VL _ (VL _ (VL _ ?_))))))
       exact hy)) br (d.own 3 rfl)
 .rename_i hr
  intro h' hh
  rw[gS,Vs (by simp[hr])]
  exact vJ
theorem IV {g:ai} (e:oE g=false):g.Small:=by
 simp only[oE,Bool.or_eq_false_iff,WD] at e
 exact⟨by omega⟩
theorem P8 (g:ai):aB Tryz.prog 14 [.agg (ag g)] (gb (oE g)):=aB.val (eD g) λH=>(PW g H).mono λ_ _ h=>h.1
theorem y7 {a b:V} (c:Tree a) (d:Tree b):Tree (.aY [a,b]):=.aY _ λi hi=>by
 match i,hi with
 | 0,_=>exact c
 | 1,_=>exact d
 | n+2,h=>exact absurd h (by simp)
theorem HU {h:aD} {a b c d:V} (e:dB h a c) (f:dB h b d):dB h (.aY [a,b]) (.aY [c,d]):=.aY _ _ rfl λi hi=>by
 match i,hi with
 | 0,_=>exact e
 | 1,_=>exact f
 | n+2,h=>exact absurd h (by simp)
theorem BU {H:View} {id n:Nat} {l:List Int} (a:H id=.arr 1 (bw l)) (b:n=l.length):cn H (.sl id 0 n 1) (encI l):=by
 subst b
 exact cn.own (sz:=1) (.inr ⟨id,by simp,a⟩) λe he v a=>by
  obtain⟨x,_,rfl⟩:=VO.1 he
  simp at a;subst a;exact .val _
theorem Ml (l:List Int) (i:Nat) (x:Int):(bw l).set i [gi x]=bw (l.set i x):=by simp[Xm]
theorem aO.elems {H:View} {u:V} {sz:Nat} {es:List (List V)} (h:aO H u sz es):∃ rd,bC H u=some (es,rd):=by
 rcases h with ⟨rfl,k,rfl⟩ | ⟨n,rfl,a⟩
 .exact⟨[],rfl⟩
 .cases es with
  | nil=>exact⟨[],rfl⟩
  | cons e r =>
   refine⟨[n],?_⟩
   rw[Vz,jZ _ n 0 r.length sz sz _ a (by simp),Ww,VG (by simp)]
theorem bZ.step {H H' H1:View} {u b:V} (h:bZ H H' u) (l:Left H' H1 u b):bZ H H1 b:=λid a=>by
 have h1:=h id a
 have c:=l id (by rw[h1.1];exact a) h1.2
 exact⟨c.1.trans h1.1,c.2⟩
theorem bZ.put {H H':View} {u:V} {n:Nat} {o:c7} (h:bZ H H' u) (b:H' n=.dead):bZ H (H'.set n o) u:=λid a=>by
 have h1:=h id a
 have e:id≠n:=by rintro rfl;rw[h1.1] at b;exact a b
 exact⟨by simp[View.set,e,h1.1],h1.2⟩
theorem bZ.call {H H' b:View} {u r:V} (h:bZ H H' u) (k:bZ H' b r):bZ H b u:=λid a=>by
 have h1:=h id a
 have c:=k id (by rw[h1.1];exact a)
 exact⟨c.1.trans h1.1,h1.2⟩
theorem LG {l:List Int} {k:Nat} (h:k<=l.length):cY 1 (.aW (l.map λx=>[gi x])) none (some (gi k))=some (.aW ((l.take k).map λx=>[gi x]),.none,[]):=by
 simp[cY,bound,asNat,h,WS,List.map_take]
theorem Cj {l:List Int} {k:Nat} (h:k<=l.length):cY 1 (.aW (l.map λx=>[gi x])) (some (gi k)) none=some (.aW ((l.drop k).map λx=>[gi x]),.none,[]):=by
 simp[cY,bound,asNat,h,WS,List.map_drop]
 rw[VG (by simp)]
theorem fj {P:Program} {t:TypeId} {d:TypeDesc} (hu:P.underlying t=some d) (a:d=.string∨∃ k,d=.int k) (cs:Array Value) (off:Nat) {v:Value} (b:cs[off]?=some v):bg P (part t cs off)=some v:=by
 have c:bg P (isAgg t)=some false:=by
  rcases a with rfl | ⟨k,rfl⟩
  all_goals simp only[isAgg,aV,dL hu,V1];rfl
 simp only[part,aV,c,V1,VR,if_false,b]
 rfl
inductive gR (P:Program) (d:Nat) (xs ys:Array Value):List Field->Bool->Prop
 | nil:gR P d xs ys [] true
 | str (f:Field) (l:List Field) (c:Bool) (a b:ByteArray):(f.name≠ "_")->P.underlying f.type=some .string->xs[f.offset]?=some (.string a)->ys[f.offset]?=some (.string b)->gR P d xs ys l c->gR P d xs ys (f :: l) (a == b && c)
 | int (f:Field) (l:List Field) (c:Bool) (k:IntKind) (a b:Int):(f.name≠ "_")->P.underlying f.type=some (.int k)->xs[f.offset]?=some (.int k a)->ys[f.offset]?=some (.int k b)->gR P d xs ys l c->gR P d xs ys (f :: l) (a == b && c)
theorem gR.forIn {P:Program} {d e:Nat} {xs ys:Array Value} {l:List Field} {c:Bool} (h:gR P d xs ys l c) (n:e=d+1) :
  bg P (forIn l ((none:Option Bool),()) λf _ =>
    if f.name≠ "_" then do
     let a <-part f.type xs f.offset
     let b <-part f.type ys f.offset
     let e <-Op.equalIn e f.type a b
     if (!e)=true then pure (ForInStep.done (some false,())) else pure (ForInStep.yield (none,()))
    else pure (ForInStep.yield (none,())))=some (if c=true then (none,()) else (some false,())):=by
 subst n
 induction h with
 | nil=>rfl
 | str f l c a b g hu i j _ m =>
  have he:bg P (Op.equalIn (d+1) f.type (.string a) (.string b))=some (a == b):=by
   simp only[Op.equalIn,aV,dL hu,V1];rfl
  rw[List.forIn_cons,aV,Vu g,aV,fj hu (.inl rfl) xs _ i,V1,aV,fj hu (.inl rfl) ys _ j,V1,aV,he,V1]
  cases a == b with
  | false=>rfl
  | true=>exact m
 | int f l c k a b g hu i j _ m =>
  have he:bg P (Op.equalIn (d+1) f.type (.int k a) (.int k b))=some (a == b):=by
   simp only[Op.equalIn,aV,dL hu,V1];rfl
  rw[List.forIn_cons,aV,Vu g,aV,fj hu (.inr ⟨k,rfl⟩) xs _ i,V1,aV,fj hu (.inr ⟨k,rfl⟩) ys _ j,V1,aV,he,V1]
  cases a == b with
  | false=>rfl
  | true=>exact m
theorem AM {P:Program} {t:TypeId} {b:Array Field} {xs ys:Array Value} {c:Bool} (hu:P.underlying t=some (.struct b)) (d:P.stoodInHeld t=false) (h:gR P 9998 xs ys b.toList c) :
  bg P (Op.equal t (.agg xs) (.agg ys))=some c:=by
 rw[jW]
 rw[Op.equalIn,aV,dL hu,V1]
 have a:(bg P program)=some P:=rfl
 rw[aV,a,V1,d]
 simp only[<-Array.forIn_toList,VR,if_false]
 rw[aV,h.forIn (e:=9999) rfl,V1]
 cases c <;> rfl
theorem DI {P:Program} {o:Oper} {T:Env} {op:BinOp} {t u:TypeId} {x y:Operand} {f:Array Field} {xs ys:Array Value} {c r:Bool} (b:o.op=.binOp op t x y u) (hu:P.underlying t=some (.struct f)) (i:P.stoodInHeld t=false) (g:P.eqGuardType P.depth t=false)
  (d:de (ev T x)=some (.agg xs)) (e:de (ev T y)=some (.agg ys)) (h:gR P 9998 xs ys f.toList c) (hr:(op=.eql/\r=c)∨(op=.neq/\r = !c)) :
  dP P o T=some (.val (.bool r),.none,[]):=by
 have he:=AM hu i h
 have a:(bg P program)=some P:=rfl
 unfold dP
 simp only[b,Op.operands,d,e]
 rcases hr with ⟨rfl,rfl⟩ | ⟨rfl,rfl⟩
 .simp[execOp,b,d,e,eqGuard,binOp,jg,aV,a,g,he,plain]
  try simp[bg,pure,plain]
 .simp[execOp,b,d,e,eqGuard,binOp,jg,aV,a,g,he,plain]
  try simp[bg,pure,plain,bne]
theorem kg {P:Program} {T:Env} {H:View} {K:V->View->Prop} {w:cL (T,H,K)} {op:BinOp} {t u ty:TypeId} {x y:Operand} {a:Array Field} {xs ys:Array Value} {c r:Bool} (hu:P.underlying t=some (.struct a)) (b:P.stoodInHeld t=false) (d:P.eqGuardType P.depth t=false)
  (e:de (ev T x)=some (.agg xs)) (f:de (ev T y)=some (.agg ys)) (h:gR P 9998 xs ys a.toList c) (hr:(op=.eql/\r=c)∨(op=.neq/\r = !c)) (hk:K (.val (.bool r)) H):iO P (.binOp op t x y u) ty T H K w:=by
 intro n _
 refine⟨.val (.bool r),.none,[],?_,hk⟩
 have g:jA P t=none:=by simp[jA,hu]
 simp only[sI,cd,oper,g]
 simp only[Option.isSome_none,VR,if_false]
 exact DI rfl hu b d e f h hr
def yf (hp:Array Obj) (cs:List Value) (vs:List V):Prop :=
 vs.length=cs.length/\∀ μ i,i < vs.length->ay (λb=>b < hp.size) μ hp (vs.getD i .any) (cs.getD i undef)
def Wt {H:Type} (P:Program) (t:TypeId) (d:DataW H):Prop:=∀ n∈d.weights P t,n<=reachBytes
def yW (P:Program) (t:TypeId) {α:Type} (f:α->List V) (ok:α->Prop):Prop :=
 ∀ {H:Type} (enc:TypeId × Value->H) (w:World) (base:Nat) (sp:Nat->Bool) (held:Bool) (fuel:Nat) (cs:List Value) (x:DataW H × List MemPlace),
  DataW.trod enc P w base sp held fuel t cs=some x->Wt P t x.1->∃ a,ok a/\yf w.heap cs (f a)
theorem vY {hp:Array Obj} {c:Value} {v:V} (h:∀ μ,ay (λb=>b < hp.size) μ hp v c):yf hp [c] [v]:=by
 refine⟨rfl,λμ i hi=>?_⟩
 match i,hi with
 | 0,_=>exact h μ
theorem S0 {P:Program} {t:TypeId} {k:IntKind} (a:P.underlying t=some (.int k)):yW P t (λn=>[.val (.int k n)]) (λn=>(Lit.int k n).wf=true):=by
 intro H enc w base sp held fuel cs x h _
 obtain⟨n,rfl,_,hw⟩:=DataW.trod_int a h
 exact⟨n,hw,vY λμ=>.val _ rfl⟩
theorem E9 {P:Program} {t:TypeId} (a:P.underlying t=some .string):yW P t (λs=>[.val (.string s)]) (λ_=>True):=by
 intro H enc w base sp held fuel cs x h _
 obtain⟨s,rfl,_,_⟩:=DataW.trod_string a h
 exact⟨s,trivial,vY λμ=>.val _ rfl⟩
theorem F7 {w:World} {base:Nat} {a:Addr} {n:Nat} {cs:List Value} (h:w.cells? base a n=some cs):cs.length=n/\∀ i,i < n->w.cell? (a.add i)=some (cs.getD i undef):=by
 obtain⟨_,b,c⟩:=World.cells?_some h
 refine⟨b,λi hi=>?_⟩
 rw[c i hi,Vp,Vq (by omega)]
 rfl
theorem O5 {w:World} {a:Addr} {v:Value} (h:w.cell? a=some v):a.spot=none/\a.block < w.heap.size:=by
 unfold World.cell? at h
 split at h
 .rename_i c _ _ b
  split at h
  .simp at h
  .rename_i d
   exact⟨by simpa using d,(Array.getElem?_eq_some_iff.1 b).1⟩
 .simp at h
theorem OE {H:Type} {P:Program} {e:TypeId} : ∀ {l:List (DataW H)},(∀ n∈DataW.weightsAll P e l,n<=reachBytes)->∀ d∈l,Wt P e d
 | [],_,d,a=>by simp at a
 | x :: l,h,d,a=>by
  simp only[DataW.weightsAll,VM] at h
  rcases VJ.1 a with rfl | a
  .exact λn b=>h n (.inl b)
  .exact OE (λn b=>h n (.inr b)) d a
theorem PZ {H:Type} {P:Program} {t e:TypeId} {elems spare:List (DataW H)} (a:P.underlying t=some (.slice e)) (h:Wt P t (.slice elems spare)) :
  (elems.length+spare.length) * P.bytesOf e<=reachBytes/\∀ d∈elems,Wt P e d:=by
 unfold Wt at h
 unfold DataW.weights at h
 rw[a] at h
 simp only[VJ,VM] at h
 exact⟨h _ (.inl rfl),OE λn b=>h n (.inr (.inl b))⟩
theorem M6 {H:Type} {P:Program} {t:TypeId} {a:Array Field} {parts:List (DataW H)} (b:P.underlying t=some (.struct a)) (h:Wt P t (.agg parts)) {j:Nat} {f:Field} {d:DataW H} (c:a[j]?=some f) (e:parts[j]?=some d):Wt P f.type d:=by
 intro n g
 refine h n ?_
 unfold DataW.weights
 rw[b]
 exact DataW.weights_mem_each (j:=j) (t:=f.type) (by simp[c]) e n g
theorem JM {α:Type} {c:Nat->α->Prop} : ∀ (n:Nat),(∀ i,i < n->∃ a,c i a)->∃ l:List α,l.length=n/\∀ i (hi:i < l.length),c i l[i]
 | 0,_=>⟨[],rfl,λi hi=>by simp at hi⟩
 | n+1,h=>by
  obtain⟨l,d,b⟩:=JM n λi hi=>h i (by omega)
  obtain⟨a,f⟩:=h n (by omega)
  refine⟨l ++ [a],by simp[d],λi hi=>?_⟩
  by_cases e:i < l.length
  .rw[List.getElem_append_left e];exact b i e
  .have:i=n:=by simp at hi;omega
   subst this
   rw[List.getElem_append_right (by omega)]
   simp only[d,Nat.sub_self,List.getElem_cons_zero];exact f
theorem wU {P:Program} {t e:TypeId} {α:Type} {f:α->List V} {ok:α->Prop} (J:P.underlying t=some (.slice e)) (M:0 < P.cellsOf e) (N:0 < P.bytesOf e) (he:yW P e f ok) :
  yW P t (λl:List α=>[.aW (l.map f)]) (λl=>l.length < 4611686018427387904/\∀ a∈l,ok a):=by
 intro H enc w base sp held fuel cs x h hw
 rcases DataW.trod_slice J h with ⟨rfl,rfl⟩ | ⟨a,len,cap,elems,rest,n,_,rfl,rfl,O,Q,hm,hlen,A,_,_⟩
 .exact⟨[],⟨by simp,by simp⟩,vY λμ=>.im none 0 (by simp)⟩
 obtain⟨r,B⟩:=PZ J hw
 simp only[Vx] at r
 have C:len < 4611686018427387904:=by
  have h1:len * 1<=(elems.length+rest.length) * P.bytesOf e:=Nat.mul_le_mul (by omega) N
  unfold reachBytes at r
  omega
 have each:∀ i,i < len->∃ y,ok y/\∃ ci,w.cells? base (a.add (i * P.cellsOf e)) (P.cellsOf e)=some ci/\yf w.heap ci (f y):=by
  intro i hi
  have h1:=A i hi
  have k:elems[i]?=some (elems[i]'(by omega)):=Vq (by omega)
  have s:elems[i]'(by omega)∈elems:=Vw _
  rw[k,Option.bind_eq_some_iff] at h1
  obtain⟨ci,D,E⟩:=h1
  obtain⟨y,z,m⟩:=he enc w base sp held n ci _ E (B _ (VO.2 ⟨_,s,rfl⟩))
  exact⟨y,z,ci,D,m⟩
 obtain⟨l,F,p⟩:=JM len each
 subst F
 refine⟨l,⟨C,λy R=>?_⟩,vY λμ=>?_⟩
 .obtain⟨i,hi,rfl⟩:=List.getElem_of_mem R
  exact(p i hi).1
 by_cases K:l=[]
 .subst K
  exact .im (some a) cap (by simp)
 have o:0 < l.length:=Xr.2 K
 have d:∀ i j,i < l.length->j < P.cellsOf e->∃ c,cellAt w.heap a.block (a.off+i * P.cellsOf e+j)=some c/\a.block < w.heap.size/\(i=0->j=0->a.spot=none)/\∀ (hi:i < l.length),ay (λb=>b < w.heap.size) μ w.heap ((f l[i]).getD j .any) c:=by
  intro i j hi q
  obtain⟨_,ci,h1,k⟩:=p i hi
  obtain⟨D,E⟩:=F7 h1
  have z:=E j q
  have m:=O5 z
  have u:((a.add (i * P.cellsOf e)).add j).block=a.block:=by simp only[Addr.add];split <;> split <;> rfl
  have G:((a.add (i * P.cellsOf e)).add j).off=a.off+i * P.cellsOf e+j:=by
   simp only[Addr.add];split <;> split <;> simp_all
  refine⟨ci.getD j undef,?_,by rw[<-u];exact m.2,?_,λ_=>?_⟩
  .rw[<-G,<-u,<-ni]
   rw[<-z]
   congr 1
   generalize (a.add (i * P.cellsOf e)).add j=b at m
   cases b
   simp at m ⊢
   exact m.1.symm
  .rintro rfl rfl
   simp[Addr.add] at m
   exact m.1
  .exact k.2 μ j (by rw[k.1,D];exact q)
 obtain⟨_,_,S,L,_⟩:=d 0 0 o M
 have T:a=⟨a.block,a.off,none⟩:=by
  cases a;simp at L ⊢;exact L
 have I:∀ i,i < l.length->(f (l[i]?.getD (l[0]'o))).length=P.cellsOf e:=λi hi=>by
  obtain⟨_,ci,h1,k⟩:=p i hi
  rw[Vq hi,VI,k.1,(F7 h1).1]
 have v:∀ i (hi:i < l.length),(l.map f).getD i []=f l[i]:=λi hi=>by simp[Vp,hi]
 have g:(l.map f).length=l.length:=by simp
 have:=ay.aW (Z:=λb=>b < w.heap.size) (μ:=μ) (hp:=w.heap) (l.map f) a.block a.off (P.cellsOf e) cap (λi j=>(cellAt w.heap a.block (a.off+i * P.cellsOf e+j)).getD undef) S (by rw[g];exact Q)
  (λi hi=>by
   rw[g] at hi
   have:=I i hi
   rw[Vq hi,VI] at this
   rw[v i hi];exact this)
  (λi j hi q=>by
   rw[g] at hi
   obtain⟨c,h1,_⟩:=d i j hi q
   rw[h1];rfl)
  (λi j hi q=>by
   rw[g] at hi
   obtain⟨c,h1,_,_,k⟩:=d i j hi q
   rw[h1,v i hi];exact k hi)
 rw[g,<-T] at this
 exact this
theorem yD {P:Program} {t:TypeId} {b:Array Field} (d:P.underlying t=some (.struct b)) (j:∀ (i:Nat) (f:Field),b[i]?=some f->f.offset=i/\P.cellsOf f.type=1) (k:P.cellsOf t=b.size)
  {H:Type} {enc:TypeId × Value->H} {w:World} {base:Nat} {sp:Nat->Bool} {held:Bool} {fuel:Nat} {cs:List Value} {x:DataW H × List MemPlace} (h:DataW.trod enc P w base sp held fuel t cs=some x) (hw:Wt P t x.1) :
  cs.length=b.size/\∀ (i:Nat) (f:Field),b[i]?=some f->∀ {α:Type} {g:α->List V} {ok:α->Prop},yW P f.type g ok->∃ a,ok a/\yf w.heap [cs.getD i undef] (g a):=by
 obtain⟨xs,n,rfl,rfl,l,hlen,m⟩:=DataW.trod_struct d h
 refine⟨by rw[l,k],λi f hi α g ok hr=>?_⟩
 obtain⟨h1,o⟩:=j i f hi
 have p:i < b.size:=(Array.getElem?_eq_some_iff.1 hi).1
 have c:=m i f hi
 have e:xs[i]?=some (xs[i]'(by omega)):=Vq (by omega)
 rw[e,h1,o] at c
 have q:(cs.drop i).take 1=[cs.getD i undef]:=by
  rw[Vp,Vq (by omega),Wl (by omega)]
  rfl
 rw[q] at c
 exact hr enc w base sp held n _ _ c (M6 d hw hi (by simp[e]))
theorem ie {hp:Array Obj} {c:Value} {cs:List Value} {v:V} {vs:List V} (h:yf hp [c] [v]) (k:yf hp cs vs):yf hp (c :: cs) (v :: vs):=by
 refine⟨by simp[k.1],λμ i hi=>?_⟩
 cases i with
 | zero=>exact h.2 μ 0 (by simp)
 | succ i=>exact k.2 μ i (by simpa using hi)
theorem AA {hp:Array Obj} : yf hp [] []:=⟨rfl,λμ i hi=>by simp at hi⟩
theorem RV {n:Int} (h:(Lit.int .i64 n).wf=true):bS n:=by
 simp only[Lit.wf,VD,VH] at h
 exact h
theorem p8:yW Tryz.prog 3 (λn=>[gi n]) bS:=λenc w base sp held fuel cs x h hw=>by
 obtain⟨n,h1,a⟩:=S0 Tryz.underlying3 enc w base sp held fuel cs x h hw
 exact⟨n,RV h1,a⟩
theorem Su:yW Tryz.prog 27 (λl:List Int=>[encI l]) (λl=>aI l/\∀ x∈l,bS x) :=
 wU Tryz.underlying27 (Xa (by kernel_rfl)) (Xa (by kernel_rfl)) p8
theorem L3:yW Tryz.prog 23 (λl:List ByteArray=>[encS l]) (λl=>aI l/\∀ x∈l,True) :=
 wU Tryz.underlying23 (Xa (by kernel_rfl)) (Xa (by kernel_rfl)) (E9 Tryz.underlying9)
theorem Ui {cs:List Value} (h:cs.length=3):cs=[cs.getD 0 undef,cs.getD 1 undef,cs.getD 2 undef]:=by
 match cs,h with
 | [a,b,c],_=>rfl
theorem Vb {cs:List Value} (h:cs.length=4):cs=[cs.getD 0 undef,cs.getD 1 undef,cs.getD 2 undef,cs.getD 3 undef]:=by
 match cs,h with
 | [a,b,c,d],_=>rfl
theorem Sj:yW Tryz.prog 130 dq (λt=>bS t.level/\bS t.assoc):=λenc w base sp held fuel cs x h hw=>by
 obtain⟨e,d⟩:=yD Tryz.underlying130 (by
  intro i f hi
  match i,hi with
  | 0,hi=>simp at hi;subst hi;exact⟨rfl,by kernel_rfl⟩
  | 1,hi=>simp at hi;subst hi;exact⟨rfl,by kernel_rfl⟩
  | 2,hi=>simp at hi;subst hi;exact⟨rfl,by kernel_rfl⟩
  | n+3,hi=>simp at hi) (by kernel_rfl) h hw
 obtain⟨a,_,h1⟩:=d 0 _ rfl (E9 Tryz.underlying9)
 obtain⟨b,g,j⟩:=d 1 _ rfl p8
 obtain⟨c,k,l⟩:=d 2 _ rfl p8
 refine⟨⟨a,b,c⟩,⟨g,k⟩,?_⟩
 rw[Ui e]
 exact ie h1 (ie j (ie l AA))
theorem Sh:yW Tryz.prog 92 aK (λr=>bS r.left/\bS r.prec/\aI r.right/\∀ x∈r.right,bS x):=λenc w base sp held fuel cs x h hw=>by
 obtain⟨g,d⟩:=yD Tryz.underlying92 (by
  intro i f hi
  match i,hi with
  | 0,hi=>simp at hi;subst hi;exact⟨rfl,by kernel_rfl⟩
  | 1,hi=>simp at hi;subst hi;exact⟨rfl,by kernel_rfl⟩
  | 2,hi=>simp at hi;subst hi;exact⟨rfl,by kernel_rfl⟩
  | n+3,hi=>simp at hi) (by kernel_rfl) h hw
 obtain⟨a,j,h1⟩:=d 0 _ rfl p8
 obtain⟨b,e,k⟩:=d 1 _ rfl Su
 obtain⟨c,l,m⟩:=d 2 _ rfl p8
 refine⟨⟨a,b,c⟩,⟨j,l,e.1,e.2⟩,?_⟩
 rw[Ui g]
 exact ie h1 (ie k (ie m AA))
theorem RK:yW Tryz.prog 26 ag ai.Ok:=λenc w base sp held fuel cs x h hw=>by
 obtain⟨k,e⟩:=yD Tryz.underlying26 (by
  intro i f hi
  match i,hi with
  | 0,hi=>simp at hi;subst hi;exact⟨rfl,by kernel_rfl⟩
  | 1,hi=>simp at hi;subst hi;exact⟨rfl,by kernel_rfl⟩
  | 2,hi=>simp at hi;subst hi;exact⟨rfl,by kernel_rfl⟩
  | 3,hi=>simp at hi;subst hi;exact⟨rfl,by kernel_rfl⟩
  | n+4,hi=>simp at hi) (by kernel_rfl) h hw
 obtain⟨a,g,h1⟩:=e 0 _ rfl (wU Tryz.underlying22 (Xa (by kernel_rfl)) (Xa (by kernel_rfl)) Sj)
 obtain⟨b,l,m⟩:=e 1 _ rfl L3
 obtain⟨c,j,o⟩:=e 2 _ rfl (wU Tryz.underlying24 (Xa (by kernel_rfl)) (Xa (by kernel_rfl)) Sh)
 obtain⟨d,p,q⟩:=e 3 _ rfl p8
 refine⟨⟨a,b,c,d⟩,⟨g.1,l.1,j.1,p,g.2,j.2⟩,?_⟩
 rw[Vb k]
 exact ie h1 (ie m (ie o (ie q AA)))
end Gv
