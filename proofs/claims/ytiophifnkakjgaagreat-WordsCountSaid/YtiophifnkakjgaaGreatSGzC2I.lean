/-
  Part 9 of the proof: what the machine does and what the functions answer.
  Conditions: those that each lemma names.
-/
import Derived.ProofKit
import Derived.SizedLaws
import Derived.Test.YtiophifnkakjgaaGreatSGzC2H
set_option linter.unusedSimpArgs false
set_option linter.unusedVariables false
set_option maxRecDepth 100000
set_option maxHeartbeats 20000000
namespace Gv
open Go Go.Proofs
def oF (is:List Bool) (l:List Int):List Bool:=l.foldl (λis n=>is.set n.toNat true) is
def stepG (comes:aF->List Bool->List Int) (is:List Bool) (r:aF):List Bool:=oF is (comes r is)
def cG (comes:aF->List Bool->List Int) (rules:List aF) (is:List Bool):List Bool:=rules.foldl (stepG comes) is
def eT (a b:List Bool):Prop:=a.length=b.length/\∀ i,a.getD i false=true->b.getD i false=true
theorem eT.refl (a:List Bool):eT a a:=⟨rfl,λ_ h=>h⟩
theorem eT.trans {a b c:List Bool} (h:eT a b) (k:eT b c):eT a c:=⟨h.1.trans k.1,λi hi=>k.2 i (h.2 i hi)⟩
theorem eT.set (a:List Bool) (i:Nat):eT a (a.set i true):=by
 refine⟨by simp,λj h=>?_⟩
 simp only[OH,Qh] at h ⊢
 split
 .split
  .rfl
  .rename_i e b;rw[<-e,O5 (by omega)] at h;simp at h
 .exact h
theorem A5:∀ (l:List Int) (is:List Bool),eT is (oF is l)
 | [],is=>.refl _
 | n :: l,is=>(eT.set is n.toNat).trans (A5 l _)
theorem qc (comes:aF->List Bool->List Int):∀ (rules:List aF) (is:List Bool),eT is (cG comes rules is)
 | [],is=>.refl _
 | r :: rs,is=>(A5 _ _).trans (qc comes rs _)
def dw (a:List Bool):Nat:=a.countP λx=>x
theorem wb (a:List Bool):dw a<=a.length:=List.countP_le_length
theorem eT.dw:∀ {a b:List Bool},eT a b->dw a<=dw b/\(dw a=dw b->a=b)
 | [],[],_=>⟨OR _,λ_=>rfl⟩
 | [],_ :: _,h=>by simp[eT] at h
 | _ :: _,[],h=>by simp[eT] at h
 | x :: a,y :: b,h=>by
  have c:x=true->y=true:=λe=>by have:=h.2 0 (by simpa using e);simpa using this
  obtain⟨h1,d⟩:=eT.dw (a:=a) (b:=b) ⟨by simpa using h.1,λi hi=>by have:=h.2 (i+1) (by simpa using hi);simpa using this⟩
  unfold Gv.dw at h1 d ⊢
  simp only[List.countP_cons]
  cases x with
  | true =>
   have:=c rfl;subst this
   simp only[if_true]
   exact⟨by omega,λe=>by rw[d (by omega)]⟩
  | false =>
   cases y with
   | false=>simp only[Pb,if_false];exact⟨by omega,λe=>by rw[d (by omega)]⟩
   | true=>simp only[Pb,if_false,if_true];exact⟨by omega,λe=>by omega⟩
def eY (comes:aF->List Bool->List Int) (rules:List aF):Nat->List Bool->List Bool
 | 0,is=>is
 | k+1,is=>if cG comes rules is=is then is else eY comes rules k (cG comes rules is)
theorem qf (comes:aF->List Bool->List Int) (rules:List aF):∀ (k:Nat) (is:List Bool),is.length<=dw is+k->cG comes rules (eY comes rules k is)=eY comes rules k is/\eT is (eY comes rules k is)
 | 0,is,h=>by
  have h1:=qc comes rules is
  have b:=wb (cG comes rules is)
  have a:=h1.dw
  rw[<-h1.1] at b
  have c:=wb is
  exact⟨(a.2 (by omega)).symm,.refl _⟩
 | k+1,is,h=>by
  simp only[eY]
  by_cases e:cG comes rules is=is
  .rw[OM e];exact⟨e,.refl _⟩
  .rw[OK e]
   have h1:=qc comes rules is
   have a:=h1.dw
   have:dw is < dw (cG comes rules is):=by
    rcases Pn (dw is) (dw (cG comes rules is)) with h | h
    .exact h
    .exact absurd (a.2 (by omega)).symm e
   obtain⟨g1,g2⟩:=qf comes rules k (cG comes rules is) (by rw[<-h1.1];omega)
   exact⟨g1,h1.trans g2⟩
def tg:SC :=
 ae [ab [aV 26 .lss 25 24],bH 26 (.exit 4),.block 5 (ae [ab [aW 27 1 23 25,ak 28 27,aa 11 28],.region false [⟨none,[aa 29 7,aa 30 29]⟩,⟨(some (30,false)),[aa 31 1,aa 32 11,aW 33 1 31 32,ak 34 33,bS 35 34]⟩,⟨none,[bq 36 30 35,aa 7 36]⟩],ab [aa 37 1,aa 38 11,aW 39 1 37 38,(none,.op (.store 1 (.tmp 39) (.val (.val (.bool true)))))]]),ab [ax 40 .add 25 1,aa 25 40]]
def tc:SC :=
 ae [ab [aV 17 .lss 16 15],bH 17 (.exit 2),.block 3 (ae [ab [aW 18 3 14 16,ba 19 3 18,((some 9),.op (.alloc [(.val (.int .i64 0)),(.emp 1),(.val (.int .i64 0))])),cb 3 9 19],ab [aa 20 2,ba 21 3 9,aa 22 1,((some 23),.call (.tmp 20) [(.tmp 21),(.tmp 22)]),aR 24 23,aN 25 0],bJ 4 tg]),ab [ax 41 .add 16 1,aa 16 41]]
def nO:SC :=
 ae [ae [ab [aa 12 7],bH 12 (.exit 0)],.block 1 (ae [ab [bb 7 false],ab [av 13 2 3,ak 14 13,aR 15 14,aN 16 0],bJ 2 tc])]
def v7:SF:=⟨ae [ab [cE 3 0,cp 6 1],ae [ab [bb 7 true],bJ 0 nO],ab [aa 42 1,aa 6 42],.ret],
 [.tmp 6],43⟩
theorem za:aE Tryz.prog 173 [3]=some v7:=by kernel_rfl
theorem Ky {is:List Bool} {i:Nat} (h:is.getD i false=true):is.set i true=is:=by
 apply List.ext_getElem?
 intro j
 simp only[OH] at h
 rw[Qh]
 split
 .rename_i e;subst e
  split
  .rename_i a;rw[OI a] at h ⊢;simp at h;simp[h]
  .rename_i a;rw[O5 (by omega)] at h;simp at h
 .rfl
theorem Gu {comes:aF->List Bool->List Int} {rules:List aF} {k:Nat} {is:List Bool} (h:cG comes rules is=is):eY comes rules k is=is:=by
 cases k with
 | zero=>rfl
 | succ k=>simp only[eY,h,if_true]
theorem Gw {comes:aF->List Bool->List Int} {rules:List aF} {k:Nat} {is:List Bool} (h:¬ cG comes rules is=is) (hk:is.length<=dw is+k):∃ j,k=j+1/\eY comes rules k is=eY comes rules j (cG comes rules is)/\(cG comes rules is).length<=dw (cG comes rules is)+j:=by
 have h1:=qc comes rules is
 have a:=h1.dw
 have b:=wb (cG comes rules is)
 have:dw is < dw (cG comes rules is):=by
  rcases Pn (dw is) (dw (cG comes rules is)) with h | h
  .exact h
  .exact absurd (a.2 (by omega)).symm (by assumption)
 have c:=h1.1
 obtain⟨j,rfl⟩:∃ j,k=j+1:=⟨k - 1,by omega⟩
 exact⟨j,rfl,by simp only[eY];rw[OK h],by omega⟩
theorem Kr {a is:List Bool} {i:Nat} {b:Bool} (hle:eT a is) (hi:i < is.length) (d:b = !decide (is=a)):(b || !is.getD i false) = !decide (is.set i true=a):=by
 cases c:is.getD i false with
 | true=>rw[Ky c,d];simp
 | false =>
  have:¬ is.set i true=a:=λe=>by
   have h1:(is.set i true).getD i false=true:=by simp[OH,hi]
   rw[e] at h1
   have:=hle.2 i h1
   rw[c] at this;simp at this
  simp[this]
theorem Mn (g:ai) (hr:g.rules.length<=40) (comes:aF->List Bool->List Int) (f:FuncId) (t D:List V) (bl:bX Tryz.prog f=true) (N:Nat) (hN:N<=16)
  (hc:∀ r∈g.rules,∀ is:List Bool,is.length=N->cJ Tryz.prog f (.agg (aS r) :: bh is :: D) (encI (comes r is))/\(comes r is).length<=100/\∀ n∈comes r is,bm n/\0<=n/\n < N)
  (id:Nat) (A:List Bool) (bn:A.length=N) (H:View) (hH:H id=.arr 1 (dI A)) (O:∀ H':View,(∀ k,H k≠.dead->k≠id->H' k=H k)->mI H' t D) :
  an Tryz.prog 173 [.agg (ah g),.sl id 0 N 1,.fn f [] t] H λr H'=>r=.sl id 0 N 1/\H' id=.arr 1 (dI (eY comes g.rules 16 A))/\∀ k,H k≠.dead->k≠id->H' k=H k:=by
 refine an.of mixed za ?_
 simp(disch:=omega)only[↓wr,seval,wq,v7,ah,encS]
 refine aP.intro (λk T H'=>∃ is:List Bool,is.length=N/\H' id=.arr 1 (dI is)/\(∀ k,H k≠.dead->k≠id->H' k=H k)/\T 1=.sl id 0 N 1/\T 2=.fn f [] t/\T 3=.aC (ah g) 0 /\
  ((T 7=gb true/\∃ j,k=j+1/\eY comes g.rules j is=eY comes g.rules 16 A/\N<=dw is+j)∨(T 7=gb false/\is=eY comes g.rules 16 A))) 17 ?_ ?_
 .exact⟨A,bn,hH,λ_ _ _=>rfl,rfl,rfl,rfl,.inl ⟨rfl,16,rfl,rfl,by omega⟩⟩
 rintro k T H1 ⟨is,hlen,o,p,t1,t2,t3,u⟩
 rcases u with ⟨u,j,rfl,J,hj⟩ | ⟨u,J⟩
 .simp(disch:=omega)only[↓wr,seval,wq,nO,t1,t2,t3,u,ah,encS]
  refine aP.up g.rules.length (λi T H'=>∃ lU:List Bool,lU.length=N/\eT is lU/\lU=(g.rules.take i).foldl (stepG comes) is/\H' id=.arr 1 (dI lU)/\(∀ k,H k≠.dead->k≠id->H' k=H k)/\T 1=.sl id 0 N 1/\T 2=.fn f [] t/\T 3=.aC (ah g) 0 /\
   T 7=gb (!decide (lU=is))/\T 14=.aX (g.rules.map aS)/\T 15=gi g.rules.length/\T 16=gi i) ?_ ?_
  .exact⟨is,hlen,.refl _,rfl,o,p,t1,t2,t3,by simp;rfl,rfl,rfl,rfl⟩
  clear t1 t2 t3 u o p
  rintro i k T H1 hk ⟨lU,s,W,P,o,p,t1,t2,t3,u,c,d,m⟩
  simp(disch:=omega)only[↓wr,seval,wq,tc,t1,t2,t3,u,c,d,m,ah,encS]
  apply ag.dec<;>intro bs
  .have Q:g.rules[i]?=some (g.rules[i]'(by omega)):=OI (by omega)
   have M:g.rules[i]'(by omega)∈g.rules:=OW _
   have X:(g.rules.take (i+1)).foldl (stepG comes) is=stepG comes ((g.rules.take i).foldl (stepG comes) is) (g.rules[i]'(by omega)):=by
    rw[Pe,Q,PN];rfl
   generalize g.rules[i]'(by omega)=r at Q M X
   obtain⟨bx,b0,Y⟩:=hc r M lU s
   simp(disch:=omega)only[↓wr,seval,wq,t1,t2,t3,u,c,d,m,aS,encI,ON,Q]
   intro b R
   have E:b≠id:=by rintro rfl;rw[o] at R;simp at R
   try simp(disch:=omega)only[↓wr,seval,wq,t1,t2,t3,u,c,d,m]
   refine aj.vt bx bl ⟨ey.tree (cW _ (ic r)),yq (by simp[View.set,E.symm,o]) s.symm,O _ (λk hk v=>?_)⟩ ?_
   .have S:k≠b:=by
     rintro rfl
     rw[p k hk v] at R
     exact hk R
    simp[View.set,S,p k hk v]
   generalize hl:comes r lU=l at b0 Y
   simp(disch:=omega)only[↓wr,seval,wq,t1,t2,t3,u,c,d,m,encI]
   refine aP.up l.length (λq T H'=>∃ a:List Bool,a.length=N/\eT is a/\a=oF lU (l.take q)/\H' id=.arr 1 (dI a)/\(∀ k,H k≠.dead->k≠id->H' k=H k)/\T 1=.sl id 0 N 1/\T 2=.fn f [] t/\T 3=.aC (ah g) 0 /\
    T 7=gb (!decide (a=is))/\T 14=.aX (g.rules.map aS)/\T 15=gi g.rules.length/\T 16=gi i/\T 23=encI l/\T 24=gi l.length/\T 25=gi q) ?_ ?_
   .refine⟨lU,s,W,rfl,by simp[View.set,E.symm,o],λk hk v=>?_,t1,t2,t3,u,c,d,m,rfl,rfl,rfl⟩
    have S:k≠b:=by
     rintro rfl
     rw[p k hk v] at R
     exact hk R
    simp[View.set,S,p k hk v]
   clear t1 t2 t3 u c d m o p R E
   rintro q k2 T H1 b1 ⟨a,F,G,I,o,p,t1,t2,t3,u,c,d,m,w,y,B⟩
   simp(disch:=omega)only[↓wr,seval,wq,tg,t1,t2,t3,u,c,d,m,w,y,B,encI]
   apply ag.dec<;>intro b2
   .have U:l[q]?=some (l[q]'(by omega)):=OI (by omega)
    have Z:l[q]'(by omega)∈l:=OW _
    have a6:oF lU (l.take (q+1))=(oF lU (l.take q)).set (l[q]'(by omega)).toNat true:=by
     unfold oF;rw[Pe,U,PN];rfl
    generalize l[q]'(by omega)=n at U Z a6
    obtain⟨⟨n1,n2⟩,n3,n4⟩:=Y n Z
    have a8:a.getD n.toNat false=a[n.toNat]'(by omega):=by simp[OH,show n.toNat < a.length by omega]
    have z:=Kr G (show n.toNat < a.length by omega) (b:=!decide (a=is)) rfl
    rw[a8] at z
    have K:=kj (show n.toNat < a.length by omega)
    generalize a[n.toNat]'(by omega)=x at z K a8
    have fin:∀ (C:Env),C 7=gb (!decide (a.set n.toNat true=is))->C 1=.sl id 0 N 1->C 2=.fn f [] t->C 3=.aC (ah g) 0->C 14=.aX (g.rules.map aS)->C 15=gi g.rules.length->C 16=gi i->C 23=encI l->C 24=gi l.length->C 25=gi ((q:Int)+1) ->
      ∃ k',k' < k2/\Ei l.length k' (λq T H'=>∃ a:List Bool,a.length=N/\eT is a/\a=oF lU (l.take q)/\H' id=.arr 1 (dI a)/\(∀ k,H k≠.dead->k≠id->H' k=H k)/\T 1=.sl id 0 N 1/\T 2=.fn f [] t/\T 3=.aC (ah g) 0 /\
       T 7=gb (!decide (a=is))/\T 14=.aX (g.rules.map aS)/\T 15=gi g.rules.length/\T 16=gi i/\T 23=encI l/\T 24=gi l.length/\T 25=gi q) C (H1.set id (.arr 1 (dI (a.set n.toNat true)))):=by
     intro C a7 a1 a2 a3 b3 b4 b5 a23 a24 a25
     refine ay b1 (by omega) ⟨a.set n.toNat true,by simp[F],G.trans (.set _ _),by rw[a6,<-I],by simp[View.set],λk hk v=>by simp[View.set,v,p k hk v],a1,a2,a3,a7,b3,b4,b5,a23,a24,by rw[a25];rfl⟩
    simp(disch:=omega)only[↓wr,seval,wq,t1,t2,t3,u,c,d,m,w,y,B,encI,ON,U]
    apply ag.dec<;>intro e
    .simp(disch:=omega)only[↓wr,seval,wq,t1,t2,t3,u,c,d,m,w,y,B,encI,o,K,OX]
     refine⟨by omega,by omega,?_⟩
     try simp(disch:=omega)only[↓wr,seval,wq,t1,t2,t3,u,c,d,m,w,y,B,encI,o,K,OX]
     refine⟨by omega,by omega,?_⟩
     rw[kC]
     exact fin _ (by rw[<-z];simp[e];rfl) t1 t2 t3 c d m w y rfl
    .simp(disch:=omega)only[↓wr,seval,wq,t1,t2,t3,u,c,d,m,w,y,B,encI,o,K,OX]
     refine⟨by omega,by omega,?_⟩
     rw[kC]
     exact fin _ (by rw[<-z];simp[e];rfl) t1 t2 t3 c d m w y rfl
   .rw[O8 (by omega)] at I
    simp(disch:=omega)only[↓wr,seval,wq,t1,t2,t3,u,c,d,m,w,y,B]
    refine ay hk (by omega) ⟨a,F,G,?_,o,p,t1,t2,t3,u,c,d,rfl⟩
    rw[X,<-P,stepG,hl,<-I]
  .rw[O8 (by omega)] at P
   simp(disch:=omega)only[↓wr,seval,wq,t1,t2,t3,u,c,d,m]
   have L:lU=cG comes g.rules is:=P
   by_cases e:lU=is
   .refine⟨0,by omega,lU,s,o,p,rfl,.inr ⟨by simp[e],?_⟩⟩
    rw[<-J,e]
    exact(Gu (by rw[<-L];exact e)).symm
   .obtain⟨j2,rfl,e2,e3⟩:=Gw (k:=j) (λh=>e (L.trans h)) (by rw[hlen];exact hj)
    refine⟨j2+1,by omega,lU,s,o,p,rfl,.inl ⟨by simp[e],j2,rfl,?_,?_⟩⟩
    .rw[<-J,e2,L]
    .rw[<-L,s] at e3;exact e3
 .simp(disch:=omega)only[↓wr,seval,wq,nO,t1,t2,t3,u,ah,encS]
  exact⟨J ▸ o,p⟩
theorem wX {α:Type} {f:α->α} {x:α} (h:f x=x):∀ n,iter f n x=x
 | 0=>rfl
 | n+1=>by rw[iter,h,wX h n]
theorem Cu {α:Type} (f:α->α):∀ (a b:Nat) (x:α),iter f (a+b) x=iter f b (iter f a x)
 | 0,b,x=>by rw[PA];rfl
 | a+1,b,x=>by rw[Nat.add_right_comm,iter,iter,Cu f a b]
theorem x4 (comes:aF->List Bool->List Int) (rules:List aF):∀ (k:Nat) (is:List Bool),eY comes rules k is=iter (cG comes rules) k is
 | 0,is=>rfl
 | k+1,is=>by
  simp only[eY,iter]
  by_cases e:cG comes rules is=is
  .rw[OM e,e,wX e]
  .rw[OK e,x4 comes rules k]
theorem uN (comes:aF->List Bool->List Int) (rules:List aF) (is:List Bool) (h:is.length<=16):eY comes rules 16 is=iter (cG comes rules) is.length is:=by
 have h1:=(qf comes rules is.length is (by omega)).1
 rw[x4] at h1 ⊢
 obtain⟨m,hm⟩:∃ m,16=is.length+m:=⟨16 - is.length,by omega⟩
 rw[hm,Cu,wX h1]
def ph (t:Bool) (r:aF) (is:List Bool):List Int:=if bw r.right is t=true then [r.left] else []
def xp (p:List Bool) (r:aF) (is:List Bool):List Int:=if (is.getD r.left.toNat false && bw r.right p true)=true then Cq r.right else []
theorem EP (g:ai) (t:Bool):cG (ph t) g.rules=ga g t:=by
 funext is
 unfold cG ga
 congr 1
 funext is r
 unfold stepG ph cm
 split <;> rfl
theorem xE:∀ (l:List Int) (is:List Bool),oF is (Cq l)=l.foldl mark is
 | [],is=>rfl
 | s :: l,is=>by
  have a:=xE l
  unfold oF Cq at a ⊢
  rw[O3,<-a]
  unfold mark
  by_cases h:s < 0
  .rw[OM h,List.filter_cons_of_pos (by simpa using h)];rfl
  .rw[OK h,List.filter_cons_of_neg (by simpa using h)]
theorem Ex (g:ai) (p:List Bool):cG (xp p) g.rules=kZ g p:=by
 funext is
 unfold cG kZ
 congr 1
 funext is r
 unfold stepG xp dX
 split
 .exact xE _ _
 .rfl
theorem HX {g:ai} (h:aA g=true) (t:Bool):eY (ph t) g.rules 16 (bI g)=al g t:=by
 have a:=az h
 have b:(bI g).length=g.af.length:=by simp[bI]
 have:=a.af
 rw[uN _ _ _ (by rw[b];exact a.af),EP,b,al,OM h]
theorem M0 {g:ai} (h:aA g=true):eY (xp (al g true)) g.rules 16 ((bI g).set g.start.toNat true)=aY g:=by
 have b:=az h
 have a:((bI g).set g.start.toNat true).length=g.af.length:=by simp[bI]
 rw[uN _ _ _ (by rw[a];exact b.af),Ex,a,aY,OM h]
def qq:SF:=⟨ae [ab [cE 1 0,cp 2 1],ae [ab [ba 3 4 1,aJ 4 89 [3],bS 5 4],bc 5 (ae [ab [cp 2 1],.ret])],ab [ba 6 4 1,av 7 1 1,ak 8 7,aR 9 8,((some 10),.op (.make 1 1 [(.val (.bool false))] (.tmp 9) (.tmp 9))),jG 11 173 [(.tmp 6),(.tmp 10),(.val (.fn 174 [] []))],aa 2 11],.ret],
 [.tmp 2],12⟩
theorem tL:aE Tryz.prog 109 [1]=some qq:=by kernel_rfl
structure ai.Small (g:ai):Prop where
 names:g.af.length+g.ao.length<=1000
theorem I6 {a:aw} {id n:Nat} {is:List Bool} (b:a.view id=.arr 1 (dI is)) (c:n=is.length):de a (.sl id 0 n 1) (bh is):=by
 subst c;exact tY b
theorem BM (g:ai) (d:g.Ok) (i:g.Small):cJ Tryz.prog 109 [.agg (ah g)] (bh (al g false)):=by
 refine cJ.of (dD g) ?_
 refine an.of mixed tL ?_
 have j:=d.af
 unfold aG at j
 simp(disch:=omega)only[↓wr,seval,wq,qq,ah,encS]
 refine aj.pure (tS g d i.names) ?_
 repeat' (first | ((first|apply ag.dec|apply ag.eq|apply ag.ne|apply ag.split)<;>intro)|(simp(disch:=omega)only[↓wr,seval,wq,ah,encS]))
 .rename_i hr
  have b:=az hr
  have h1:=b.ox
  have k:=b.af
  try simp(disch:=omega)only[↓wr,seval,wq,ah,encS]
  refine⟨⟨by omega,by unfold aB;omega,by unfold aB;omega⟩,λh=>by omega,?_⟩
  intro _ n
  try simp(disch:=omega)only[↓wr,seval,wq,ah,encS]
  refine aj.dd ((Mn g b.rules (ph false) 174 [] [] (by kernel_rfl) g.af.length k (λr a is e=>⟨Bv r is (by rw[e];exact b.BG d a),?_,?_⟩) n (bI g) (by simp[bI]) _ (by simp[View.set,bI]) (λH' _=>trivial)).mono ?_)
  .unfold ph;split <;> simp
  .intro m hm
   unfold ph at hm
   split at hm
   .simp only[PU] at hm;subst hm
    exact⟨(d.aZ r a).1,b.left r a⟩
   .simp at hm
  .rintro r H' ⟨rfl,c,_⟩
   simp(disch:=omega)only[↓wr,seval,wq]
   intro l f
   rw[HX hr] at c
   exact I6 (by rw[f];exact c) (fb hr _).symm
 .rename_i hr
  intro l f
  simp only[al,hr]
  exact .emp _
theorem qR {g:ai} (hr:aA g=true):(aY g).length=g.af.length:=by
 rw[aY,OM hr,wA (f:=kZ g (al g true)) (λis=>wi (λis x=>G0 _ is x) g.rules is)]
 simp[bI]
def bk (p q:List Bool) (r:aF):Bool:=q.getD r.left.toNat false && bw r.right p true
def cK (p q:List Bool):List aF->Int->List Int
 | [],_=>[]
 | r :: l,i=>if bk p q r=true then i :: cK p q l (i+1) else cK p q l (i+1)
def dc (acc:List Int) (r:aF):List Int:=if r.left∈acc then acc else acc ++ [r.left]
def bN (p q:List Bool) (l:List aF):List Int:=(l.filter (bk p q)).foldl dc []
def aL (o:List Int) (x:Int):Int:=cR (λy=>y == x) o 0
def bg (f:Int->Int) (r:aF):aF:=⟨f r.left,r.right.map λs=>if s < 0 then -1 - f (-1 - s) else s,r.prec⟩
def mz (g:ai) (f:Int->Int) (p q:List Bool):ai :=
 ⟨g.ao,(bN p q g.rules).map λx=>g.af.getD x.toNat ⟨#[]⟩,(g.rules.filter (bk p q)).map (bg f),f g.start⟩
def IW:ai:=⟨[],[],[],0⟩
instance:DecidableEq Term:=λa b=>decidable_of_iff (a.name=b.name/\a.level=b.level/\a.assoc=b.assoc) (by cases a;cases b;simp)
instance:DecidableEq aF:=λa b=>decidable_of_iff (a.left=b.left/\a.prec=b.prec/\a.right=b.right) (by cases a;cases b;simp[and_comm])
instance:DecidableEq ai:=λa b=>decidable_of_iff (a.ao=b.ao/\a.af=b.af/\a.rules=b.rules/\a.start=b.start) (by cases a;cases b;simp)
def cX (g:ai):ai × List Int × Int :=
 if aA g=true then
  if (al g true).getD g.start.toNat false=true then (mz g (aL (bN (al g true) (aY g) g.rules)) (al g true) (aY g),cK (al g true) (aY g) g.rules 0,0)
  else (IW,[],9)
 else (IW,[],1)
theorem eD {g:ai} (hr:aA g=true):cX g=if (al g true).getD g.start.toNat false=true then (mz g (aL (bN (al g true) (aY g) g.rules)) (al g true) (aY g),cK (al g true) (aY g) g.rules 0,0) else (IW,[],9):=by
 rw[cX,OM hr]
theorem pn (p q:List Bool):∀ (a b:List aF) (i:Int),cK p q (a ++ b) i=cK p q a i ++ cK p q b (i+a.length)
 | [],b,i=>by simp[cK]
 | r :: a,b,i=>by
  simp only[PD,cK,pn p q a b (i+1),OY]
  have:i+1+(a.length:Int)=i+((a.length+1:Nat):Int):=by push_cast;omega
  rw[this]
  split <;> simp
theorem pR (p q:List Bool):∀ (a:List aF) (i:Int),(cK p q a i).length=(a.filter (bk p q)).length
 | [],i=>rfl
 | r :: a,i=>by
  simp only[cK,List.filter_cons]
  split <;> simp[pR p q a]
theorem tT (p q:List Bool):∀ (a:List aF) (i:Int) (k:Nat),k < (cK p q a i).length->∃ m:Nat,(cK p q a i)[k]?=some (i+m)/\a[m]?=(a.filter (bk p q))[k]?/\m < a.length
 | [],i,k,h=>by simp[cK] at h
 | r :: a,i,k,h=>by
  simp only[cK,List.filter_cons] at h ⊢
  by_cases hr:bk p q r=true
  .rw[OM hr] at h ⊢
   rw[OM hr]
   cases k with
   | zero=>exact⟨0,by simp,by simp,by simp⟩
   | succ k =>
    obtain⟨m,h1,b,c⟩:=tT p q a (i+1) k (by simpa using h)
    exact⟨m+1,by rw[Pq,h1];congr 1;push_cast;omega,by simpa using b,by simpa using c⟩
  .rw[OK hr] at h ⊢
   rw[OK hr]
   obtain⟨m,h1,b,c⟩:=tT p q a (i+1) k h
   exact⟨m+1,by rw[h1];congr 1;push_cast;omega,by simpa using b,by simpa using c⟩
theorem Ad (p q:List Bool) (l:List aF) (r:aF):bN p q (l ++ [r])=if bk p q r=true then dc (bN p q l) r else bN p q l:=by
 unfold bN
 rw[List.filter_append]
 by_cases h:bk p q r=true
 .rw[OM h,List.filter_cons_of_pos h,PN];rfl
 .rw[OK h,List.filter_cons_of_neg h];simp
theorem yb {acc:List Int} {r:aF} (h:acc.Nodup):(dc acc r).Nodup:=by
 unfold dc
 split
 .exact h
 .rename_i d
  rw[List.nodup_append]
  exact⟨h,by simp,λa f b c e=>d (by simp at c;rw[<-c,<-e];exact f)⟩
theorem pg {o:List Int} {x:Int} : aL o x < 0↔x ∉ o:=by
 have:=s9 (λy=>y == x) o 0 (by omega)
 unfold aL
 rw[<-Int.not_le]
 constructor
 .intro h a
  have e:(o.any λy=>y == x)=true:=List.any_eq_true.2 ⟨x,a,by simp⟩
  rw[e] at this;exact h (by simpa using this)
 .intro h a
  have e:(o.any λy=>y == x)=true:=by rw[<-this];simpa using a
  obtain⟨y,b,e⟩:=List.any_eq_true.1 e
  simp at e;subst e;exact h b
theorem qV {α:Type} (p:α->Bool):∀ (a b:List α) (i:Int),0<=i->cR p (a ++ b) i=if 0<=cR p a i then cR p a i else cR p b (i+a.length)
 | [],b,i,_=>by simp[cR]
 | x :: a,b,i,h=>by
  by_cases hp:p x=true
  .simp[cR,hp,h]
  .simp only[PD,cR,OK hp]
   rw[qV p a b (i+1) (by omega)]
   have:i+1+(a.length:Int)=i+(((x :: a).length:Nat):Int):=by simp;omega
   rw[this]
theorem Hs {o:List Int} {x y:Int} (c:x ∉ o):aL (o ++ [x]) y=if y=x then (o.length:Int) else aL o y:=by
 unfold aL
 rw[qV _ _ _ _ (by omega)]
 by_cases e:y=x
 .subst e
  rw[OK (by have:=pg.2 c;unfold aL at this;omega),OM rfl]
  simp[cR]
 .rw[OK e]
  split
  .rfl
  .rename_i h
   have:aL o y < 0:=by unfold aL;omega
   have b:cR (λz=>z == y) [x] (0+(o.length:Int)) = -1:=by simp[cR,Ne.symm e]
   rw[b]
   have:∀ (l:List Int) (i:Int),¬ 0<=cR (λz=>z == y) l i->0<=i->cR (λz=>z == y) l i = -1:=by
    intro l
    induction l with
    | nil=>intro i _ _;rfl
    | cons z l d =>
     intro i h1 b
     simp only[cR] at h1 ⊢
     split
     .rename_i a;rw[OM a] at h1;omega
     .rename_i a;rw[OK a] at h1;exact d _ h1 (by omega)
   exact(this o 0 h (by omega)).symm
theorem iN {o:List Int} {x:Int} (h:x∈o):0<=aL o x/\aL o x < o.length:=by
 have a:¬ aL o x < 0:=λe=>pg.1 e h
 refine⟨by omega,?_⟩
 unfold aL
 have:∀ (l:List Int) (i:Int),cR (λz=>z == x) l i < i+l.length∨cR (λz=>z == x) l i = -1:=by
  intro l
  induction l with
  | nil=>intro i;right;rfl
  | cons z l b =>
   intro i
   simp only[cR]
   split
   .left;simp;omega
   .rcases b (i+1) with h | h
    .left;simp at h ⊢;omega
    .right;exact h
 rcases this o 0 with h1 | h1
 .simpa using h1
 .unfold aL at a;omega
theorem zk (o:List Int) (x:Int) : -1<=aL o x/\aL o x<=o.length:=by
 by_cases h:x∈o
 .have:=iN h;omega
 .have h1:=pg.2 h
  have a:∀ (l:List Int) (i:Int),0<=i->-1<=cR (λz=>z == x) l i:=by
   intro l
   induction l with
   | nil=>intro i _;simp[cR]
   | cons z l b =>
    intro i hi
    simp only[cR]
    split
    .omega
    .exact b _ (by omega)
  have:=a o 0 (by omega)
  unfold aL at h1 ⊢
  omega
theorem q4:∀ (l:List aF) (acc:List Int) (x:Int),x∈l.foldl dc acc↔x∈acc∨∃ r∈l,r.left=x
 | [],acc,x=>by simp
 | r :: l,acc,x=>by
  rw[O3,q4 l]
  have:x∈dc acc r↔x∈acc∨r.left=x:=by
   unfold dc
   split
   .rename_i h
    constructor
    .exact .inl
    .rintro (a | rfl)
     .exact a
     .exact h
   .simp[eq_comm]
  rw[this]
  simp only[O1,exists_eq_or_imp]
  constructor
  .rintro ((h | h) | h)
   .exact .inl h
   .exact .inr (.inl h)
   .exact .inr (.inr h)
  .rintro (h | h | h)
   .exact .inl (.inl h)
   .exact .inl (.inr h)
   .exact .inr h
theorem sg {p q:List Bool} {l:List aF} {x:Int} : x∈bN p q l↔∃ r∈l,bk p q r=true/\r.left=x:=by
 unfold bN
 rw[q4]
 simp[PC,and_assoc]
def jj:SC :=
 ae [ae [ab [aa 42 9,aa 43 8,aR 44 43,aV 45 .lss 42 44],bH 45 (.exit 0)],.block 1 (ab [aa 48 8,aa 49 9,aW 50 1 48 49,(none,.op (.store 1 (.tmp 50) (.val (.val (.int .i64 (-1))))))]),ab [aa 46 9,ax 47 .add 46 1,aa 9 47]]
def jx:SC :=
 ae [ae [ab [aa 51 11,av 52 2 1,ak 53 52,aR 54 53,aV 55 .lss 51 54],bH 55 (.exit 2)],.block 3 (ae [ab [av 58 2 1,ak 59 58,aa 60 11,aW 61 3 59 60,ba 62 3 61,((some 12),.op (.alloc [(.val (.int .i64 0)),(.emp 1),(.val (.int .i64 0))])),cb 3 12 62],ae [.region false [⟨none,[aa 63 6,av 64 0 12,ak 65 64,aW 66 1 63 65,ak 67 66,bS 68 67,aa 69 68]⟩,⟨(some (69,false)),[av 70 1 12,ak 71 70,aa 72 5,jG 73 95 [(.tmp 71),(.tmp 72),(.val (.val (.bool true)))],bS 74 73]⟩,⟨none,[bq 75 69 74]⟩],bc 75 (.exit 3)],ab [aa 76 10,aa 77 11,((some 78),.op (.bM 1 1 [(.val (.int .i64 0))] [(0,(.tmp 77))])),pk 79 1 8 76 78,aa 10 79],ab [aa 80 8,av 81 0 12,ak 82 81,aW 83 1 80 82,ak 84 83,ax 85 .lss 84 0],bc 85 (ae [ab [aa 86 8,av 87 0 12,ak 88 87,av 89 1 7,ak 90 89,aR 91 90,aW 92 1 86 88,cb 1 92 91],.region false [⟨none,[av 93 1 7,ak 94 93,av 95 1 1,ak 96 95,av 97 0 12,ak 98 97,aW 99 1 96 98,ak 100 99,((some 101),.op (.bM 1 1 [(.val (.string ⟨#[]⟩))] [(0,(.tmp 100))])),pk 102 1 16 94 101,av 103 1 7,cb 1 103 102]⟩]])]),ab [aa 56 11,ax 57 .add 56 1,aa 11 57]]
def jt:SC :=
 ae [ae [ab [aa 126 16,av 127 1 14,ak 128 127,aR 129 128,aV 130 .lss 126 129],bH 130 (.exit 6)],.block 7 (ae [ab [av 133 1 14,ak 134 133,aa 135 16,aW 136 1 134 135,ak 137 136,aa 17 137],ae [ab [aa 138 17,ax 139 .lss 138 0],bc 139 (ab [aa 140 8,aa 141 17,((some 142),.op (.arith .sub (.val (.val (.int .i64 (-1)))) (.tmp 141))),aW 143 1 140 142,ak 144 143,((some 145),.op (.arith .sub (.val (.val (.int .i64 (-1)))) (.tmp 144))),aa 17 145])],ab [av 146 1 15,ak 147 146,aa 148 17,((some 149),.op (.bM 1 1 [(.val (.int .i64 0))] [(0,(.tmp 148))])),pk 150 1 8 147 149,av 151 1 15,cb 1 151 150]]),ab [aa 131 16,ax 132 .add 131 1,aa 16 132]]
def js:SC :=
 ae [ae [ab [aa 104 13,aa 105 10,aR 106 105,aV 107 .lss 104 106],bH 107 (.exit 4)],.block 5 (ae [ab [av 110 2 1,ak 111 110,aa 112 10,aa 113 13,aW 114 1 112 113,ak 115 114,aW 116 3 111 115,ba 117 3 116,((some 14),.op (.alloc [(.val (.int .i64 0)),(.emp 1),(.val (.int .i64 0))])),cb 3 14 117],ab [aa 118 8,av 119 0 14,ak 120 119,aW 121 1 118 120,ak 122 121,av 123 2 14,ak 124 123,((some 125),.op (.build [(.val (.int .i64 0)),(.emp 1),(.val (.int .i64 0))] [(0,1,(.tmp 122)),(2,1,(.tmp 124))])),((some 15),.op (.alloc [(.val (.int .i64 0)),(.emp 1),(.val (.int .i64 0))])),cb 3 15 125],ae [ab [aN 16 0],bJ 6 jt],ab [av 152 2 7,ak 153 152,ba 154 3 15,((some 155),.op (.bM 1 3 [(.val (.int .i64 0)),(.emp 1),(.val (.int .i64 0))] [(0,(.tmp 154))])),pk 156 3 40 153 155,av 157 2 7,cb 1 157 156]]),ab [aa 108 13,ax 109 .add 108 1,aa 13 109]]
def lh:SF:=⟨ae [ab [cE 1 0,((some 2),.op (.alloc [(.emp 1),(.emp 1),(.emp 1),(.val (.int .i64 0))])),cp 3 1,aN 4 0],ae [ab [ba 18 4 1,aJ 19 50 [18],bS 20 19],bc 20 (ae [ab [((some 21),.op (.build [(.emp 1),(.emp 1),(.emp 1),(.val (.int .i64 0))] [])),cb 4 2 21,cp 3 1,aN 4 1],.ret])],.region true [⟨none,[ba 22 4 1,aJ 23 93 [22],ba 24 4 1,aJ 25 94 [24],aa 5 23,aa 6 25]⟩],ae [ab [aa 26 5,av 27 3 1,ak 28 27,aW 29 1 26 28,ak 30 29,bS 31 30],bc 31 (ae [ab [((some 32),.op (.build [(.emp 1),(.emp 1),(.emp 1),(.val (.int .i64 0))] [])),cb 4 2 32,cp 3 1,aN 4 9],.ret])],ab [cp 33 2,av 34 0 1,ak 35 34,pk 36 3 32 33 35,((some 37),.op (.build [(.emp 1),(.emp 1),(.emp 1),(.val (.int .i64 0))] [(0,1,(.tmp 36))])),((some 7),.op (.alloc [(.emp 1),(.emp 1),(.emp 1),(.val (.int .i64 0))])),cb 4 7 37],ab [av 38 1 1,ak 39 38,aR 40 39,((some 41),.op (.make 1 8 [(.val (.int .i64 0))] (.tmp 40) (.tmp 40))),aa 8 41],ae [ab [aN 9 0],bJ 0 jj],ab [cp 10 1],ae [ab [aN 11 0],bJ 2 jx],ae [ab [aN 13 0],bJ 4 js],ab [aa 158 8,av 159 3 1,ak 160 159,aW 161 1 158 160,ak 162 161,av 163 3 7,cb 1 163 162],ab [ba 164 4 7,aa 165 10,cb 4 2 164,aa 3 165,aN 4 0],.ret],
 [.cell 2 (some 4),.tmp 3,.tmp 4],166⟩
theorem pN:aE Tryz.prog 47 [1]=some lh:=by kernel_rfl
abbrev bd (l:List Int):List (List V):=l.map λx=>[gi x]
abbrev p8 (l:List ByteArray):List (List V):=l.map λs=>[gs s]
theorem mh {l:List Int} {i:Nat} (h:i < l.length):(bd l).getD i []=[gi l[i]]:=by simp[OH,h]
theorem ints_set (l:List Int) (i:Nat) (x:Int):(bd l).set i [gi x]=bd (l.set i x):=by simp[List.map_set]
theorem LW {l:List Int} (h:0 < l.length):bd l≠[]:=by intro e;rw[List.map_eq_nil_iff] at e;rw[e] at h;simp at h
theorem tA {α:Type} {x:α} : ∀ {l:List α} {i:Nat},i < l.length->(l.set i x).take (i+1)=l.take i ++ [x]
 | y :: l,0,_=>by simp
 | y :: l,i+1,h=>by
  have:=tA (x:=x) (l:=l) (i:=i) (by simpa using h)
  simp only[List.set_cons_succ,List.take_succ_cons,this,PD]
def dF (n:Nat) (o:List Int):List Int:=(List.range n).map λ(x:Nat)=>aL o (x:Int)
theorem Mb (n:Nat):dF n []=List.replicate n (-1):=by
 apply List.ext_getElem
 .simp[dF]
 .intro i h1 a
  simp[dF,aL,cR]
theorem vp {n:Nat} {o:List Int} {x:Int} (a:0<=x) (h1:x < n):(dF n o)[x.toNat]'(by simp[dF];omega)=aL o x:=by
 simp[dF,show ((x.toNat:Nat):Int)=x by omega]
theorem LA {n:Nat} {o:List Int} {x:Int} (b:0<=x) (h1:x < n) (a:x ∉ o):(dF n o).set x.toNat o.length=dF n (o ++ [x]):=by
 apply List.ext_getElem
 .simp[dF]
 .intro i c d
  rw[List.getElem_set]
  simp only[dF,List.getElem_map,List.getElem_range]
  rw[Hs a]
  by_cases e:x.toNat=i
  .rw[OM e,OM (by omega)]
  .rw[OK e,OK (by omega)]
abbrev x6:=List (V × aF)
def iC (b:x6):List (List V):=b.map λx=>[gi x.2.left,x.1,gi x.2.prec]
def q7 (b:x6):List dS:=b.map λx=>(x.1,1,bd x.2.right)
theorem Jg {h:aw} {u:V} {b:x6} (c:aO h.view u 3 (iC b)) (f:∀ x∈q7 b,aO h.view x.1 x.2.1 x.2.2):de h u (.aX ((b.map (·.2)).map aS)):=by
 refine de.own c (by simp[iC]) (λi hi=>?_) (λi j hi a=>?_)
 all_goals
  simp only[iC,OX] at hi
  have e:(iC b).getD i []=[gi b[i].2.left,b[i].1,gi b[i].2.prec]:=by simp[iC,OH,hi]
  have d:((b.map (·.2)).map aS).getD i []=aS b[i].2:=by simp[OH,hi]
 .rw[e,d];rfl
 .rw[e,d]
  rw[d] at a
  have hm:b[i]∈b:=OW _
  have c:=f (b[i].1,1,bd b[i].2.right) (O9.2 ⟨_,hm,rfl⟩)
  match j,a with
  | 0,_=>exact .val _
  | 1,_=>exact wK c
  | 2,_=>exact .val _
  | n+3,a=>exact absurd a (by simp only[aS,OY,Pc];omega)
theorem JQ {h:aw} {u:V} {l:List ByteArray} (a:aO h.view u 1 (p8 l)):de h u (encS l):=de.yV (f:=Value.string) a
theorem Im {h:aw} {u:V} {l:List Term} (b:aO h.view u 3 (l.map c7)):de h u (dH l):=by
 refine de.own b rfl (λ_ _=>rfl) (λi j hi a=>?_)
 simp only[OX] at hi
 have c:(l.map c7).getD i []=c7 l[i]:=by simp[OH,hi]
 rw[c] at a ⊢
 match j,a with
 | 0,_=>exact .val _
 | 1,_=>exact .val _
 | 2,_=>exact .val _
 | n+3,a=>exact absurd a (by simp only[c7,OY,Pc];omega)
def wu (x:ai × List Int × Int):V:=.aU [.agg (ah x.1),encI x.2.1,gi x.2.2]
theorem Cd {h:aw} {e:Int} {b k2 c d:Nat} : de h (.aU [.agg [.emp b,.emp k2,.emp c,gi 0],.emp d,gi e]) (wu (IW,[],e)):=by
 refine .aU _ _ rfl λi hi=>?_
 match i,hi with
 | 0,_ =>
  refine .agg _ _ rfl λj a=>?_
  match j,a with
  | 0,_=>exact .emp _
  | 1,_=>exact .emp _
  | 2,_=>exact .emp _
  | 3,_=>exact .val _
  | n+4,a=>exact absurd a (by simp only[OY,Pc];omega)
 | 1,_=>exact .emp _
 | 2,_=>exact .val _
 | n+3,hi=>exact absurd hi (by simp only[OY,Pc];omega)
def MP (g:ai) (p q:List Bool) (b2 b7 b8:Nat) (u0:V) (i:Nat) (T:Env) (H:View):Prop :=
 (∃ u1 u3:V,T 10=u3/\(∀ x∈bN p q (g.rules.take i),0<=x/\x < g.af.length)/\(bN p q (g.rules.take i)).Nodup/\(bN p q (g.rules.take i)).length<=i /\
  bf H [(.sl b7 0 1 4,4,[[u0,u1,.emp 1,gi 0]]),(.sl b8 0 g.af.length 1,1,bd (dF g.af.length (bN p q (g.rules.take i)))),(u3,1,bd (cK p q (g.rules.take i) 0)),
   (u1,1,p8 ((bN p q (g.rules.take i)).map λx=>g.af.getD x.toNat ⟨#[]⟩)),(u0,3,g.ao.map c7),(.sl b2 0 1 4,4,[[.emp 1,.emp 1,.emp 1,gi 0]])]) /\
 T 1=.aC (ah g) 0/\T 2=.ptr b2 0 0/\T 5=bh p/\T 6=bh q/\T 7=.ptr b7 0 0/\T 8=.sl b8 0 g.af.length 1/\T 11=gi i
def NZ (g:ai) (p q:List Bool) (b2 b7 b8:Nat) (u0 u1 u3:V) (o kl:List Int) (i:Nat) (T:Env) (H:View):Prop :=
 (∃ (u2:V) (bs:x6),bs.map (·.2)=((g.rules.filter (bk p q)).take i).map (bg (aL o)) /\
  bf H ((.sl b7 0 1 4,4,[[u0,u1,u2,gi 0]]) :: (.sl b8 0 g.af.length 1,1,bd (dF g.af.length o)) :: (u3,1,bd kl) ::
   (u1,1,p8 (o.map λx=>g.af.getD x.toNat ⟨#[]⟩)) :: (u0,3,g.ao.map c7) :: (u2,3,iC bs) :: (.sl b2 0 1 4,4,[[.emp 1,.emp 1,.emp 1,gi 0]]) :: q7 bs)) /\
 T 1=.aC (ah g) 0/\T 2=.ptr b2 0 0/\T 7=.ptr b7 0 0/\T 8=.sl b8 0 g.af.length 1/\T 10=u3/\T 13=gi i
def N7 (g:ai) (b2 b7 b8 b14 b15:Nat) (u3:V) (o:List Int) (r:aF) (L:List dS) (i k:Nat) (T:Env) (H:View):Prop :=
 (∃ v:V,bf H ((.sl b15 0 1 3,3,[[gi (aL o r.left),v,gi r.prec]]) :: (v,1,bd ((bg (aL o) r).right.take k)) :: (.sl b14 0 1 3,3,[aS r]) :: L)) /\
 T 1=.aC (ah g) 0/\T 2=.ptr b2 0 0/\T 7=.ptr b7 0 0/\T 8=.sl b8 0 g.af.length 1/\T 10=u3/\T 13=gi i/\T 14=.ptr b14 0 0/\T 15=.ptr b15 0 0/\T 16=gi k
theorem Mc {h:aw} {c d e f:V} {x:ai × List Int × Int} {b:x6} (g:aO h.view c 3 (x.1.ao.map c7)) (h1:aO h.view d 1 (p8 x.1.af)) (k:aO h.view e 3 (iC b)) (l:∀ y∈q7 b,aO h.view y.1 y.2.1 y.2.2)
  (hr:b.map (·.2)=x.1.rules) (m:aO h.view f 1 (bd x.2.1)):de h (.aU [.agg [c,d,e,gi x.1.start],f,gi x.2.2]) (wu x):=by
 refine .aU _ _ rfl λi hi=>?_
 match i,hi with
 | 0,_ =>
  refine .agg _ _ rfl λj a=>?_
  match j,a with
  | 0,_=>exact Im g
  | 1,_=>exact JQ h1
  | 2,_=>have:=Jg k l;rw[hr] at this;exact this
  | 3,_=>exact .val _
  | n+4,a=>exact absurd a (by simp only[OY,Pc];omega)
 | 1,_=>exact wK m
 | 2,_=>exact .val _
 | n+3,hi=>exact absurd hi (by simp only[OY,Pc];omega)
theorem vH (g:ai) (hg:g.Ok):cJ Tryz.prog 47 [.agg (ah g)] (wu (cX g)):=by
 refine cJ.of (dD g) ?_
 refine an.of mixed pN ?_
 simp(disch:=omega)only[↓wr,seval,wq,lh,ah,encS]
 intro N
 try simp(disch:=omega)only[↓wr,seval,wq,ah,encS]
 refine aj.pure (iJ g hg) ?_
 repeat' (first | ((first|apply ag.dec|apply ag.eq|apply ag.ne|apply ag.split)<;>intro)|(simp(disch:=omega)only[↓wr,seval,wq,ah,encS,set_set]))
 .rename_i hr
  refine aj.pure (gY g hg) ?_
  simp(disch:=omega)only[↓wr,seval,wq,ah,encS]
  refine aj.pure (rr g hg).pure ?_
  have hf:=az hr
  have h3:=hf.fF
  have h4:=hf.start
  have ek:=fb hr true
  have ht:=qR hr
  have c:=eD hr
  generalize al g true=p at ek c
  generalize aY g=q at ht c
  have cS:p[g.start.toNat]?=some (p[g.start.toNat]'(by omega)):=OI (by omega)
  have ez:p.getD g.start.toNat false=p[g.start.toNat]'(by omega):=by simp[OH,cS]
  generalize p[g.start.toNat]'(by omega)=s at cS ez
  rw[ez] at c
  simp(disch:=omega)only[↓wr,seval,wq,ah,encS,bh,ON,cS]
  cases s with
  | false =>
   rw[OK (by simp)] at c
   simp(disch:=omega)only[↓wr,seval,wq,ah,encS,set_set]
   rintro h' hh
   rw[c]
   exact Cd
  | true =>
   rw[OM rfl] at c
   simp(disch:=omega)only[↓wr,seval,wq,ah,encS,set_set]
   have hN:=hf.af
   have h9:=hf.ox
   have hT:=hf.ao
   have hR:=hf.rules
   refine eZ (L:=[(.sl N 0 1 4,4,[[.emp 1,.emp 1,.emp 1,gi 0]])]) (bf.emp (bf.nil.new rfl 4 _)) (by simp[c7,aD]) (by unfold aB;simp;omega) (by unfold aB;simp;omega) ?_
   intro C H1 cV _
   have c0:=cV.head.cells
   have k0:=cV.head.tz
   simp(disch:=omega)only[↓wr,seval,wq,ah,encS,c0,k0]
   intro Q hz
   have hA:=cV.new hz 4 [[C,.emp 1,.emp 1,gi 0]]
   try simp(disch:=omega)only[↓wr,seval,wq,ah,encS,c0,k0,set_set]
   refine⟨⟨by omega,by unfold aB;omega,by unfold aB;omega⟩,λh=>by omega,?_⟩
   intro _ B e4
   have e5:=(c9 e4 cT).1
   have j:=hA.new (n:=B) (by simp only[View.set,OK e5];exact(c9 (c9 e4 cT).2 cT).2) 1 (bd (List.replicate g.af.length 0))
   try simp(disch:=omega)only[↓wr,seval,wq,ah,encS,c0,k0,set_set]
   refine aP.up g.af.length (λi T H=>(∃ l:List Int,l.length=g.af.length/\l.take i=List.replicate i (-1) /\
    bf H [(.sl B 0 g.af.length 1,1,bd l),(.sl Q 0 1 4,4,[[C,.emp 1,.emp 1,gi 0]]),(C,3,g.ao.map c7),(.sl N 0 1 4,4,[[.emp 1,.emp 1,.emp 1,gi 0]])]) /\
    T 1=.aC (ah g) 0/\T 2=.ptr N 0 0/\T 5=bh p/\T 6=bh q/\T 7=.ptr Q 0 0/\T 8=.sl B 0 g.af.length 1/\T 9=gi i) ?_ ?_
   .exact⟨⟨List.replicate g.af.length 0,by simp,by simp,by simpa [set_set] using j⟩,rfl,rfl,rfl,rfl,rfl,rfl,rfl⟩
   rintro i k T H2 hk ⟨⟨l,G,t,f⟩,t1,t2,t5,t6,t7,t8,t9⟩
   simp(disch:=omega)only[↓wr,seval,wq,jj,t1,t2,t5,t6,t7,t8,t9]
   apply ag.dec<;>intro hc
   .have hB:bd l≠[]:=by intro e;rw[List.map_eq_nil_iff] at e;rw[e] at G;simp at G;omega
    have hb:=(f.obj hB).1
    have u:=mh (show i < l.length by omega)
    simp(disch:=omega)only[↓wr,seval,wq,t1,t2,t5,t6,t7,t8,t9,hb,u,OX]
    refine⟨by omega,by omega,?_⟩
    refine ay hk (by omega) ⟨⟨l.set i (-1),by simp[G],?_,?_⟩,t1,t2,t5,t6,t7,t8,rfl⟩
    .rw[tA (by omega),t,List.replicate_succ']
    .rw[ints_set]
     exact f.put (by simp) (by simp[G])
   .rw[O8 (by omega)] at t
    rw[t] at f
    have ei:i=g.af.length:=by omega
    subst ei
    simp(disch:=omega)only[↓wr,seval,wq,t1,t2,t5,t6,t7,t8,t9]
    have name_in:∀ o:List Int,(o.map λx=>g.af.getD x.toNat ⟨#[]⟩).length=o.length:=λo=>by simp
    refine aP.up g.rules.length (MP g p q N Q B C) ?_ ?_
    .refine⟨⟨.emp 1,.emp 1,rfl,by simp[bN],by simp[bN],by simp[bN],?_⟩,t1,t2,t5,t6,t7,t8,rfl⟩
     have h4:=((((f.emp (k:=1) (sz:=1)).emp (k:=1) (sz:=1)).at 3 (by simp)).perm (Km.symm.cons _))
     have e0:bN p q (g.rules.take 0)=[]:=rfl
     rw[e0,Mb]
     exact h4
    clear f t1 t2 t5 t6 t7 t8 t9 G t
    rintro i k T H2 hk ⟨⟨J,u3,t10,b0,b1,c3,f⟩,t1,t2,t5,t6,t7,t8,t11⟩
    simp(disch:=omega)only[↓wr,seval,wq,jx,t1,t2,t5,t6,t7,t8,t10,t11,ah]
    apply ag.dec<;>intro hc
    .have I:g.rules[i]?=some (g.rules[i]'(by omega)):=OI (by omega)
     have z:g.rules[i]'(by omega)∈g.rules:=OW _
     have D:g.rules.take (i+1)=g.rules.take i ++ [g.rules[i]'(by omega)]:=by rw[Pe,I];rfl
     generalize g.rules[i]'(by omega)=r at I z D
     obtain⟨G,t,R,hC,b3⟩:=hf.BG hg z
     have c4:q[r.left.toNat]?=some (q[r.left.toNat]'(by omega)):=OI (by omega)
     have b4:q.getD r.left.toNat false=q[r.left.toNat]'(by omega):=by simp[OH,c4]
     generalize q[r.left.toNat]'(by omega)=qs at c4 b4
     simp(disch:=omega)only[↓wr,seval,wq,t1,t2,t5,t6,t7,t8,t10,t11,ah,aS,ON,I]
     intro e6 e7
     have A:=f.new e7 3 [aS r]
     try simp(disch:=omega)only[↓wr,seval,wq,t1,t2,t5,t6,t7,t8,t10,t11,aS,encI,bh,ON,c4,set_set]
     have S:∀ (T2:Env) (H':View),bk p q r=false->H'=H2.set e6 (.arr 3 [aS r])->T2 10=u3->T2 1=.aC (ah g) 0->T2 2=.ptr N 0 0->T2 5=bh p->T2 6=bh q->T2 7=.ptr Q 0 0->T2 8=.sl B 0 g.af.length 1->T2 11=gi ((i:Int)+1) ->
       ∃ k',k' < k/\Ei g.rules.length k' (MP g p q N Q B C) T2 H':=by
      intro T2 H' U hF hG a1 a2 a5 a6 a7 a8 hI
      have O:bN p q (g.rules.take (i+1))=bN p q (g.rules.take i):=by rw[D,Ad,OK (by simp[U])]
      have e2:cK p q (g.rules.take (i+1)) 0=cK p q (g.rules.take i) 0:=by rw[D,pn];simp[cK,U]
      refine ay hk (by omega) ⟨⟨J,u3,hG,by rw[O];exact b0,by rw[O];exact b1,by rw[O];omega,by rw[O,e2,hF];exact A.tail⟩,a1,a2,a5,a6,a7,a8,by rw[hI];rfl⟩
     cases qs with
     | false =>
      simp(disch:=omega)only[↓wr,seval,wq,t1,t2,t5,t6,t7,t8,t10,t11]
      refine S _ _ (by rw[bk,b4];rfl) ?_ ?_ ?_ ?_ ?_ ?_ ?_ ?_ ?_
      all_goals first | exact t10 | exact t1 | exact t2 | exact t5 | exact t6 | exact t7 | exact t8 | rfl | (rw[set_set];rfl)
     | true =>
      simp(disch:=omega)only[↓wr,seval,wq,t1,t2,t5,t6,t7,t8,t10,t11,aS,encI,bh]
      refine aj.pure (CR r.right p true (hg.aZ r z).2.2.1 (λs hs=>⟨(b3 s hs).1,λh=>by rw[ek];exact(b3 s hs).2 h⟩)) ?_
      simp(disch:=omega)only[↓wr,seval,wq,t1,t2,t5,t6,t7,t8,t10,t11]
      apply ag.split<;>intro da
      .simp(disch:=omega)only[↓wr,seval,wq,t1,t2,t5,t6,t7,t8,t10,t11]
       have U:bk p q r=true:=by rw[bk,b4,da];rfl
       intro m hm
       try simp(disch:=omega)only[↓wr,seval,wq,t1,t2,t5,t6,t7,t8,t10,t11,cL]
       have e8:=(c9 hm cT).1
       have hm:=(c9 (c9 hm cT).2 cT).2
       have d:=(A.fresh (n:=m) (o:=.arr 1 [[gi i]]) (by simp only[View.set,OK e8];exact hm)).at 3 (by simp)
       have fl:(cK p q (g.rules.take i) 0).length<=40:=by
        rw[pR]
        have h1:=List.length_filter_le (bk p q) (g.rules.take i)
        have h2:(g.rules.take i).length<=i:=List.length_take_le _ _
        have:=hf.rules
        omega
       refine eZ (by rw[set_set];exact d) (by simp[aD]) (by unfold aB;simp at fl ⊢;omega) (by unfold aB;simp at fl ⊢;omega) ?_
       intro fm H3 j _
       have f12:=((j.at 1 (by simp)).obj (by simp)).1
       have f7:=((j.at 2 (by simp)).obj (by simp)).1
       have f8:=((j.at 3 (by simp)).obj (LW (by simp[dF];omega))).1
       have db:dh J=some (p8 ((bN p q (g.rules.take i)).map λx=>g.af.getD x.toNat ⟨#[]⟩)).length:=(j.at 4 (by simp)).head.len
       have u:=mh (l:=dF g.af.length (bN p q (g.rules.take i))) (i:=r.left.toNat) (by simp[dF];omega)
       rw[vp t R] at u
       simp only[aS,encI] at f12
       simp(disch:=omega)only[↓wr,seval,wq,t1,t2,t5,t6,t7,t8,t11,f12,f7,f8,u]
       refine⟨by omega,by simp[dF];omega,?_⟩
       have e2:cK p q (g.rules.take (i+1)) 0=cK p q (g.rules.take i) 0 ++ [(i:Int)]:=by
        rw[D,pn];simp[cK,U,show i<=g.rules.length by omega]
       have O:bN p q (g.rules.take (i+1))=dc (bN p q (g.rules.take i)) r:=by rw[D,Ad,OM U]
       generalize bN p q (g.rules.take i)=o at *
       generalize cK p q (g.rules.take i) 0=K at *
       apply ag.dec<;>intro fs
       .have hx:r.left ∉ o:=pg.1 fs
        have E:dc o r=o ++ [r.left]:=by rw[dc,OK hx]
        have W:Q≠B:=j.Lp 2 3 rfl rfl (by omega)
        have X:e6≠B:=j.Lp 1 3 rfl rfl (by omega)
        have dj:g.af[r.left.toNat]?=some (g.af[r.left.toNat]'(by omega)):=OI (by omega)
        have ch:g.af.getD r.left.toNat ⟨#[]⟩=g.af[r.left.toNat]'(by omega):=by simp[OH,dj]
        generalize g.af[r.left.toNat]'(by omega)=nm at dj ch
        simp(disch:=omega)only[↓wr,seval,wq,t1,t2,t5,t6,t7,t8,t11,f12,f7,f8,u,db,OX]
        try refine⟨by omega,by simp[dF];omega,?_⟩
        try simp(disch:=omega)only[↓wr,seval,wq,t1,t2,t5,t6,t7,t8,t11,f12,f7,f8,u,db,OX,W,X,ah,encS,ON,dj]
        intro m2 P
        have ft:=(c9 P cT).1
        have P:=(c9 P cT).2
        have hJ:(bd (dF g.af.length o)).set r.left.toNat [gi o.length]=bd (dF g.af.length (o ++ [r.left])):=by rw[ints_set,LA t R hx]
        have dm:=(j.at 3 (by simp)).put (es':=(bd (dF g.af.length o)).set r.left.toNat [gi o.length]) (by simp) (by simp[dF])
        have hK:=(dm.fresh (n:=m2) (o:=.arr 1 [[gs nm]]) (by simp only[View.set,OK ft];exact P)).at 4 (by simp)
        have h7:o.length<=40:=by omega
        try simp(disch:=omega)only[↓wr,seval,wq,t1,t2,t5,t6,t7,t8,t11,f12,f7,f8,u,db,OX,W,X,cL]
        refine eZ hK (by simp[aD]) (by unfold aB;simp;omega) (by unfold aB;simp;omega) ?_
        intro fx H5 b5 _
        have c1:=b5.head.cells
        have k1:=b5.head.tz
        have ds:=((b5.at 4 (by simp)).obj (by simp)).1
        simp(disch:=omega)only[↓wr,seval,wq,t1,t2,t5,t6,t7,t8,t11,ds,c1,k1]
        have hM:=(b5.at 4 (by simp)).put (es':=[[C,fx,.emp 1,gi 0]]) rfl rfl
        have hP:=(((hM.at 4 (by simp)).tail).perm (Km.cons _))
        refine ay hk (by omega) ⟨⟨fx,fm,rfl,?_,?_,?_,?_⟩,t1,t2,t5,t6,t7,t8,rfl⟩
        .rw[O,E];intro x hQ;rcases Pg.1 hQ with h | h
         .exact b0 x h
         .simp at h;subst h;exact⟨t,R⟩
        .rw[O];exact yb b1
        .rw[O,E];simp;omega
        .rw[O,E,e2]
         have:=hP
         rw[hJ] at this
         simp only[PW,Pa,PQ,ch]
         exact this
       .have hx:r.left∈o:=by
         refine Pd λh=>?_
         have:=pg.2 h
         omega
        have E:dc o r=o:=by rw[dc,OM hx]
        simp(disch:=omega)only[↓wr,seval,wq,t1,t2,t5,t6,t7,t8,t11]
        have dm:=(((j.at 1 (by simp)).tail).perm Km)
        refine ay hk (by omega) ⟨⟨J,fm,rfl,?_,?_,?_,?_⟩,t1,t2,t5,t6,t7,t8,rfl⟩
        .rw[O,E];exact b0
        .rw[O,E];exact b1
        .rw[O,E];omega
        .rw[O,E,e2]
         simp only[PW,Pa,PQ]
         exact dm
      .simp(disch:=omega)only[↓wr,seval,wq,t1,t2,t5,t6,t7,t8,t10,t11]
       refine S _ _ (by rw[bk,b4,da];rfl) ?_ ?_ ?_ ?_ ?_ ?_ ?_ ?_ ?_
       all_goals first | exact t10 | exact t1 | exact t2 | exact t5 | exact t6 | exact t7 | exact t8 | rfl | (rw[set_set];rfl)
    .rw[O8 (by omega)] at f b0 b1 c3
     have hS:(cK p q g.rules 0).length<=40:=by
      rw[pR];have h1:=List.length_filter_le (bk p q) g.rules;omega
     have hV:=tT p q g.rules 0
     have h8:=pR p q g.rules 0
     have dv:g.start.toNat < (dF g.af.length (bN p q g.rules)).length:=by simp[dF];omega
     have cj:=mh dv
     rw[vp h3 h4] at cj
     have fz:mz g (aL (bN p q g.rules)) p q=⟨g.ao,(bN p q g.rules).map λx=>g.af.getD x.toNat ⟨#[]⟩,(g.rules.filter (bk p q)).map (bg (aL (bN p q g.rules))),aL (bN p q g.rules) g.start⟩:=rfl
     rw[fz] at c
     clear fz
     generalize bN p q g.rules=o at *
     generalize cK p q g.rules 0=K at *
     simp(disch:=omega)only[↓wr,seval,wq,t1,t2,t5,t6,t7,t8,t10,t11]
     refine aP.up K.length (NZ g p q N Q B C J u3 o K) ?_ ?_
     .refine⟨⟨.emp 1,[],by simp,?_⟩,t1,t2,t7,t8,t10,rfl⟩
      exact(f.emp (k:=1) (sz:=3)).perm (oV [(.sl Q 0 1 4,4,[[C,J,.emp 1,gi 0]]),(.sl B 0 g.af.length 1,1,bd (dF g.af.length o)),(u3,1,bd K),(J,1,p8 (o.map λx=>g.af.getD x.toNat ⟨#[]⟩)),(C,3,g.ao.map c7),(.emp 1,3,[]),(.sl N 0 1 4,4,[[.emp 1,.emp 1,.emp 1,gi 0]])] 5 (by simp)).symm
     clear f t1 t2 t5 t6 t7 t8 t10 t11
     rintro i k T H2 hk ⟨⟨u2,bs,cc,f⟩,t1,t2,t7,t8,t10,t13⟩
     have hW:dh u3=some (bd K).length:=(f.own 2 rfl).len
     simp(disch:=omega)only[↓wr,seval,wq,js,t1,t2,t7,t8,t10,t13,hW,OX]
     apply ag.dec<;>intro hc
     .obtain⟨n3,e3,hX⟩:=(f.own 2 rfl).sl (by simp;omega)
      rw[OX] at e3
      subst e3
      obtain⟨m,ea,P,Y⟩:=hV i (by omega)
      have u:=mh (show i < K.length by omega)
      rw[Int.zero_add] at ea
      have hY:K[i]'(by omega)=(m:Int):=by
       rw[OI (show i < K.length by omega)] at ea;simpa using ea
      rw[hY] at u
      have I:g.rules[m]?=some (g.rules[m]'Y):=OI Y
      have z:g.rules[m]'Y∈g.rules:=OW _
      have D:(g.rules.filter (bk p q)).take (i+1)=(g.rules.filter (bk p q)).take i ++ [g.rules[m]'Y]:=by
       rw[Pe,<-P,I];rfl
      generalize g.rules[m]'Y=r at I z D
      obtain⟨G,t,R,hC,b3⟩:=hf.BG hg z
      simp(disch:=omega)only[↓wr,seval,wq,t1,t2,t7,t8,t10,t13,hX,u,OX,ah,aS,ON,I]
      refine⟨by omega,by omega,?_⟩
      intro gd ck
      have A:=f.new ck 3 [aS r]
      have f8:=A.is 2 rfl (by simp[dF];omega)
      have cC:=mh (l:=dF g.af.length o) (i:=r.left.toNat) (by simp[dF];omega)
      rw[vp t R] at cC
      have eb:B≠gd:=A.Lp 2 0 rfl rfl (by omega)
      have g8:H2 B=.arr 1 (bd (dF g.af.length o)):=f.is 1 rfl (by simp[dF];omega)
      try simp(disch:=omega)only[↓wr,seval,wq,t1,t2,t7,t8,t10,t13,g8,eb,cC,OX,set_set,encI]
      refine⟨by omega,by simp[dF];omega,?_⟩
      intro gk F
      have gr:=(c9 F cT).1
      have F:=(c9 (c9 F cT).2 cT).2
      have d:=(((A.new (n:=gk) (by simp only[View.set,OK gr];exact F) 3 [[gi (aL o r.left),.emp 1,gi r.prec]]).emp (k:=1) (sz:=1)).perm (.swap _ _ _))
      generalize hL:((V.sl Q 0 1 4,4,[[C,J,u2,gi 0]]) :: (V.sl B 0 g.af.length 1,1,bd (dF g.af.length o)) :: (V.sl n3 0 K.length 1,1,bd K) ::
       (J,1,p8 (o.map λx=>g.af.getD x.toNat ⟨#[]⟩)) :: (C,3,g.ao.map c7) :: (u2,3,iC bs) :: (V.sl N 0 1 4,4,[[V.emp 1,V.emp 1,V.emp 1,gi 0]]) :: q7 bs:List dS)=L at d
      have h0:L[1]?=some (.sl B 0 g.af.length 1,1,bd (dF g.af.length o)):=by rw[<-hL];rfl
      try simp(disch:=omega)only[↓wr,seval,wq,t1,t2,t7,t8,t10,t13,set_set]
      refine aP.up r.right.length (N7 g N Q B gd gk (.sl n3 0 K.length 1) o r L i) ?_ ?_
      .exact⟨⟨.emp 1,by rw[set_set,set_set];exact d⟩,t1,t2,t7,t8,t10,t13,rfl,rfl,rfl⟩
      clear A d f8 g8 ck F t1 t2 t7 t8 t10 t13
      rintro k k2 T H3 ha ⟨⟨v,w⟩,t1,t2,t7,t8,t10,t13,t14,t15,t16⟩
      have f14:=w.is 2 rfl (by simp)
      have f15:=w.is 0 rfl (by simp)
      have f8:H3 B=.arr 1 (bd (dF g.af.length o)):=w.is 4 (by simpa using h0) (by simp[dF];omega)
      simp only[aS] at f14
      simp(disch:=omega)only[↓wr,seval,wq,jt,t1,t2,t7,t8,t10,t13,t14,t15,t16,f14,encI]
      apply ag.dec<;>intro h5
      .have eg:r.right[k]?=some (r.right[k]'(by omega)):=OI (by omega)
       have hd:r.right[k]'(by omega)∈r.right:=OW _
       have Z:(bg (aL o) r).right.take (k+1)=(bg (aL o) r).right.take k ++ [if r.right[k]'(by omega) < 0 then -1 - aL o (-1 - r.right[k]'(by omega)) else r.right[k]'(by omega)]:=by
        rw[Pe];simp[bg,eg]
       have cf:((bg (aL o) r).right.take k).length<=6:=by
        have h1:(bg (aL o) r).right.length=r.right.length:=by simp[bg]
        have h2:((bg (aL o) r).right.take k).length<=(bg (aL o) r).right.length:=by rw[PM];omega
        omega
       generalize r.right[k]'(by omega)=s at eg hd Z
       obtain⟨⟨s1,s2⟩,s3⟩:=b3 s hd
       simp(disch:=omega)only[↓wr,seval,wq,t1,t2,t7,t8,t10,t13,t14,t15,t16,f14,encI,ON,eg]
       have ih:=zk o (-1 - s)
       have il:o.length<=40:=by omega
       apply ag.dec<;>intro M
       .rw[OM M] at Z
        have hj:=s3 M
        have cN:=mh (l:=dF g.af.length o) (i:=(-1 - s).toNat) (by simp[dF];omega)
        rw[vp (by omega) hj] at cN
        simp(disch:=omega)only[↓wr,seval,wq,t1,t2,t7,t8,t10,t13,t14,t15,t16,f14,f15,f8,cN,OX]
        refine⟨by omega,by simp[dF];omega,?_⟩
        intro m hm
        try simp(disch:=omega)only[↓wr,seval,wq,t1,t2,t7,t8,t10,t13,t14,t15,t16,cL]
        have bl:=(w.fresh (o:=.arr 1 [[gi (-1 - aL o (-1 - s))]]) hm).at 1 (by simp)
        refine eZ bl (by simp[aD]) (by unfold aB;simp at cf ⊢;omega) (by unfold aB;simp at cf ⊢;omega) ?_
        intro v' H4 a _
        have cv:=a.head.cells
        have kv:=a.head.tz
        have bn:=a.is 1 rfl (by simp)
        simp(disch:=omega)only[↓wr,seval,wq,t1,t2,t7,t8,t10,t13,t14,t15,t16,bn,cv,kv]
        have bx:=(a.at 1 (by simp)).put (es':=[[gi (aL o r.left),v',gi r.prec]]) rfl rfl
        refine ay ha (by omega) ⟨⟨v',?_⟩,t1,t2,t7,t8,t10,t13,t14,t15,rfl⟩
        rw[Z]
        simp only[PW,Pa,PQ]
        exact bx
       .rw[OK M] at Z
        simp(disch:=omega)only[↓wr,seval,wq,t1,t2,t7,t8,t10,t13,t14,t15,t16,f14,f15,f8]
        intro m hm
        try simp(disch:=omega)only[↓wr,seval,wq,t1,t2,t7,t8,t10,t13,t14,t15,t16,cL]
        have bl:=(w.fresh (o:=.arr 1 [[gi s]]) hm).at 1 (by simp)
        refine eZ bl (by simp[aD]) (by unfold aB;simp at cf ⊢;omega) (by unfold aB;simp at cf ⊢;omega) ?_
        intro v' H4 a _
        have cv:=a.head.cells
        have kv:=a.head.tz
        have bn:=a.is 1 rfl (by simp)
        simp(disch:=omega)only[↓wr,seval,wq,t1,t2,t7,t8,t10,t13,t14,t15,t16,bn,cv,kv]
        have bx:=(a.at 1 (by simp)).put (es':=[[gi (aL o r.left),v',gi r.prec]]) rfl rfl
        refine ay ha (by omega) ⟨⟨v',?_⟩,t1,t2,t7,t8,t10,t13,t14,t15,rfl⟩
        rw[Z]
        simp only[PW,Pa,PQ]
        exact bx
      .rw[O8 (by simp[bg];omega)] at w
       subst hL
       have f7:=w.is 3 rfl (by simp)
       have cv:=(w.own 1 rfl).cells
       have kv:=(w.own 1 rfl).tz
       have hl:(iC bs).length<=40:=by
        have h1:=Qo List.length cc
        simp only[OX,PM] at h1
        simp only[iC,OX]
        omega
       simp(disch:=omega)only[↓wr,seval,wq,t1,t2,t7,t8,t10,t13,t14,t15,t16,f7,f15,cv,kv]
       intro m hm
       try simp(disch:=omega)only[↓wr,seval,wq,t1,t2,t7,t8,t10,t13,t14,t15,t16,cL]
       have bl:=(w.fresh (o:=.arr 3 [[gi (aL o r.left),v,gi r.prec]]) hm).at 8 (by simp)
       refine eZ bl (by simp[zg,kv]) (by unfold aB;simp at hl ⊢;omega) (by unfold aB;simp at hl ⊢;omega) ?_
       intro hn H4 a _
       have cu:=a.head.cells
       have ku:=a.head.tz
       have ds:=a.is 4 rfl (by simp)
       simp(disch:=omega)only[↓wr,seval,wq,t1,t2,t7,t8,t10,t13,t14,t15,t16,ds,cu,ku]
       have bx:=(a.at 4 (by simp)).put (es':=[[C,J,hn,gi 0]]) rfl rfl
       have h6:=((((bx.at 2 (by simp)).tail).at 3 (by simp)).tail)
       refine ay hk (by omega) ⟨⟨hn,bs ++ [(v,bg (aL o) r)],?_,?_⟩,t1,t2,t7,t8,t10,rfl⟩
       .rw[PW,cc,D,PW];rfl
       .refine h6.perm (.cons _ ?_)
        simp only[q7,iC,PW,Pa,PQ]
        refine .trans ?_ (oV _ 4 (by simp)).symm
        refine .cons _ ?_
        exact(List.perm_append_singleton (v,1,bd (bg (aL o) r).right) ((.sl B 0 g.af.length 1,1,bd (dF g.af.length o)) :: (.sl n3 0 K.length 1,1,bd K) :: (J,1,p8 (o.map λx=>g.af.getD x.toNat ⟨#[]⟩)) :: (C,3,g.ao.map c7) :: (.sl N 0 1 4,4,[[.emp 1,.emp 1,.emp 1,gi 0]]) :: q7 bs)).symm
     .rw[O8 (by omega)] at cc
      have f7:=f.is 0 rfl (by simp)
      have f8:H2 B=.arr 1 (bd (dF g.af.length o)):=f.is 1 rfl (by simp[dF];omega)
      have f2:=f.is 6 rfl (by simp)
      have hq:Q≠N:=f.Lp 0 6 rfl rfl (by omega)
      have c1:=(f.own 3 rfl).cells
      have k1:=(f.own 3 rfl).tz
      have c2:=(f.own 5 rfl).cells
      have k2:=(f.own 5 rfl).tz
      simp(disch:=omega)only[↓wr,seval,wq,t1,t2,t7,t8,t10,t13,f7,f8,f2,hq,hq.symm,cj,c0,k0,c1,k1,c2,k2,ah,OX]
      refine⟨by omega,by simp[dF];omega,λh' hh=>?_⟩
      have A:=f.put (es':=[[C,J,u2,gi (aL o g.start)]]) rfl rfl
      have d:=(A.at 6 (by simp)).put (es':=[[C,J,u2,gi (aL o g.start)]]) rfl rfl
      have hv:h'.view=(H2.set Q (.arr 4 [[C,J,u2,gi (aL o g.start)]])).set N (.arr 4 [[C,J,u2,gi (aL o g.start)]]):=hh
      rw[<-hv] at d
      rw[c]
      exact Mc (x:=(⟨g.ao,o.map λx=>g.af.getD x.toNat ⟨#[]⟩,(g.rules.filter (bk p q)).map (bg (aL o)),aL o g.start⟩,K,0)) (b:=bs) (d.own 5 rfl) (d.own 4 rfl) (d.own 6 rfl) (λy hy=>d.1 y (by
       refine Pu _ (Pu _ (Pu _ (Pu _ (Pu _ (Pu _ (Pu _ ?_))))))
       exact hy)) cc (d.own 3 rfl)
 .rename_i hr
  intro h' hh
  rw[cX,OK (by simp[hr])]
  exact Cd
theorem View.MO {H:View} {id:Nat} {o:bp} (h:H id=o):H.set id o=H:=by
 funext m
 simp only[View.set]
 split
 .rename_i e;subst e;exact h.symm
 .rfl
theorem vJ {P:Program} {T:Env} {H:View} {K:V->View->Prop} {w:bL (T,H,K)} {t e ty:TypeId} {x:Operand} {id off len esz z:Nat} {es:List (List V)} (hu:P.underlying t=some (.slice e)) (he:P.underlying e=some (.int .u8))
  (a:ev T x=.sl id off len esz) (b:len≠0) (hH:H id=.arr z es) (hk:K (.sl id off len esz) H):oD P (.convert t t x) ty T H K w:=by
 intro n _
 have c:ik P t t=true:=by simp[ik,hu]
 refine⟨.sl id off len esz,.dP id (.arr z es),[id],?_,?_⟩
 .simp only[sI,bo,oper]
  rw[OM c,a]
  simp[jT,hu,he,hH,b]
 .show K _ (H.set id (.arr z es))
  rw[View.MO hH];exact hk
theorem yJ {H:View} {n:Nat} (l:List Int) (h:H n=.arr 1 (l.map λx=>[gy x])):ey H (.sl n 0 l.length 1) (uC l) :=
 ey.own (.inr ⟨n,by simp,h⟩) λe he v a=>by
  obtain⟨x,_,rfl⟩:=O9.1 he
  simp at a;subst a;exact .val _
theorem Dp {g:ai} (e:lr g=false):g.Small:=by
 simp only[lr,Bool.or_eq_false_iff,Qt] at e
 exact⟨by omega⟩
theorem KW (g:ai):ar Tryz.prog 14 [.agg (ah g)] (gb (lr g)):=ar.val (dD g) λH=>(KQ g H).mono λ_ _ h=>h.1
theorem Ay {a b:V} (c:Tree a) (d:Tree b):Tree (.aU [a,b]):=.aU _ λi hi=>by
 match i,hi with
 | 0,_=>exact c
 | 1,_=>exact d
 | n+2,h=>exact absurd h (by simp)
theorem so {H:View} {id n:Nat} {l:List Int} (a:H id=.arr 1 (bd l)) (b:n=l.length):ey H (.sl id 0 n 1) (encI l):=by
 subst b
 exact ey.own (sz:=1) (.inr ⟨id,by simp,a⟩) λe he v a=>by
  obtain⟨x,_,rfl⟩:=O9.1 he
  simp at a;subst a;exact .val _
theorem aj.Hz {P:Program} {q:Bool} {f:FuncId} {H:View} {vs:List V} {K:V->View->Prop} {v:bL (H,K)} {t:V} (c:View->Prop) (d:ar P f vs t) (a:bX P f=true) (b:c H) (hk:∀ H,c H->K t H):aj P q f vs H K v :=
 aj.pure d (hk H b) a
theorem fk {P:Program} {t:TypeId} {d:TypeDesc} (hu:P.underlying t=some d) (a:d=.string∨∃ k,d=.int k) (cs:Array Value) (off:Nat) {v:Value} (b:cs[off]?=some v):aT P (part t cs off)=some v:=by
 have c:aT P (isAgg t)=some false:=by
  rcases a with rfl | ⟨k,rfl⟩
  all_goals simp only[isAgg,aI,cI hu,Pj];rfl
 simp only[part,aI,c,Pj,Pb,if_false,b]
 rfl
inductive eK (P:Program) (d:Nat) (xs ys:Array Value):List Field->Bool->Prop
 | nil:eK P d xs ys [] true
 | str (f:Field) (l:List Field) (c:Bool) (a b:ByteArray):(f.name≠ "_")->P.underlying f.type=some .string->xs[f.offset]?=some (.string a)->ys[f.offset]?=some (.string b)->eK P d xs ys l c->eK P d xs ys (f :: l) (a == b && c)
 | int (f:Field) (l:List Field) (c:Bool) (k:IntKind) (a b:Int):(f.name≠ "_")->P.underlying f.type=some (.int k)->xs[f.offset]?=some (.int k a)->ys[f.offset]?=some (.int k b)->eK P d xs ys l c->eK P d xs ys (f :: l) (a == b && c)
theorem eK.forIn {P:Program} {d e:Nat} {xs ys:Array Value} {l:List Field} {c:Bool} (h:eK P d xs ys l c) (n:e=d+1) :
  aT P (forIn l ((none:Option Bool),()) λf _ =>
    if f.name≠ "_" then do
     let a <-part f.type xs f.offset
     let b <-part f.type ys f.offset
     let e <-Op.equalIn e f.type a b
     if (!e)=true then pure (ForInStep.done (some false,())) else pure (ForInStep.yield (none,()))
    else pure (ForInStep.yield (none,())))=some (if c=true then (none,()) else (some false,())):=by
 subst n
 induction h with
 | nil=>rfl
 | str f l c a b g hu i j _ m =>
  have he:aT P (Op.equalIn (d+1) f.type (.string a) (.string b))=some (a == b):=by
   simp only[Op.equalIn,aI,cI hu,Pj];rfl
  rw[List.forIn_cons,aI,OM g,aI,fk hu (.inl rfl) xs _ i,Pj,aI,fk hu (.inl rfl) ys _ j,Pj,aI,he,Pj]
  cases a == b with
  | false=>rfl
  | true=>exact m
 | int f l c k a b g hu i j _ m =>
  have he:aT P (Op.equalIn (d+1) f.type (.int k a) (.int k b))=some (a == b):=by
   simp only[Op.equalIn,aI,cI hu,Pj];rfl
  rw[List.forIn_cons,aI,OM g,aI,fk hu (.inr ⟨k,rfl⟩) xs _ i,Pj,aI,fk hu (.inr ⟨k,rfl⟩) ys _ j,Pj,aI,he,Pj]
  cases a == b with
  | false=>rfl
  | true=>exact m
theorem o8 {P:Program} {t:TypeId} {b:Array Field} {xs ys:Array Value} {c:Bool} (hu:P.underlying t=some (.struct b)) (d:P.stoodInHeld t=false) (h:eK P 9998 xs ys b.toList c) :
  aT P (Op.equal t (.agg xs) (.agg ys))=some c:=by
 rw[iL]
 rw[Op.equalIn,aI,cI hu,Pj]
 have a:(aT P program)=some P:=rfl
 rw[aI,a,Pj,d]
 simp only[<-Array.forIn_toList,Pb,if_false]
 rw[aI,h.forIn (e:=9999) rfl,Pj]
 cases c <;> rfl
theorem zb {P:Program} {o:Oper} {T:Env} {op:BinOp} {t u:TypeId} {x y:Operand} {f:Array Field} {xs ys:Array Value} {c r:Bool} (b:o.op=.binOp op t x y u) (hu:P.underlying t=some (.struct f)) (i:P.stoodInHeld t=false) (g:P.eqGuardType P.depth t=false)
  (d:bO (ev T x)=some (.agg xs)) (e:bO (ev T y)=some (.agg ys)) (h:eK P 9998 xs ys f.toList c) (hr:(op=.eql/\r=c)∨(op=.neq/\r = !c)) :
  cw P o T=some (.val (.bool r),.none,[]):=by
 have he:=o8 hu i h
 have a:(aT P program)=some P:=rfl
 unfold cw
 simp only[b,Op.operands,d,e]
 rcases hr with ⟨rfl,rfl⟩ | ⟨rfl,rfl⟩
 .simp[execOp,b,d,e,eqGuard,binOp,fP,aI,a,g,he,plain]
  try simp[aT,pure,plain]
 .simp[execOp,b,d,e,eqGuard,binOp,fP,aI,a,g,he,plain]
  try simp[aT,pure,plain,bne]
theorem Dc {P:Program} {T:Env} {H:View} {K:V->View->Prop} {w:bL (T,H,K)} {op:BinOp} {t u ty:TypeId} {x y:Operand} {a:Array Field} {xs ys:Array Value} {c r:Bool} (hu:P.underlying t=some (.struct a)) (b:P.stoodInHeld t=false) (d:P.eqGuardType P.depth t=false)
  (e:bO (ev T x)=some (.agg xs)) (f:bO (ev T y)=some (.agg ys)) (h:eK P 9998 xs ys a.toList c) (hr:(op=.eql/\r=c)∨(op=.neq/\r = !c)) (hk:K (.val (.bool r)) H):oD P (.binOp op t x y u) ty T H K w:=by
 intro n _
 refine⟨.val (.bool r),.none,[],?_,hk⟩
 have g:gn P t=none:=by simp[gn,hu]
 simp only[sI,bo,oper,g]
 simp only[Option.isSome_none,Pb,if_false]
 exact zb rfl hu b d e f h hr
def uY (hp:Array Obj) (cs:List Value) (vs:List V):Prop :=
 vs.length=cs.length/\∀ μ i,i < vs.length->aq (λb=>b < hp.size) μ hp (vs.getD i .any) (cs.getD i undef)
def Wt {H:Type} (P:Program) (t:TypeId) (d:DataW H):Prop:=∀ n∈d.weights P t,n<=reachBytes
def uS (P:Program) (t:TypeId) {α:Type} (f:α->List V) (ok:α->Prop):Prop :=
 ∀ {H:Type} (enc:TypeId × Value->H) (w:World) (base:Nat) (sp:Nat->Bool) (held:Bool) (fuel:Nat) (cs:List Value) (x:DataW H × List MemPlace),
  DataW.trod enc P w base sp held fuel t cs=some x->Wt P t x.1->∃ a,ok a/\uY w.heap cs (f a)
theorem sL {hp:Array Obj} {c:Value} {v:V} (h:∀ μ,aq (λb=>b < hp.size) μ hp v c):uY hp [c] [v]:=by
 refine⟨rfl,λμ i hi=>?_⟩
 match i,hi with
 | 0,_=>exact h μ
theorem MI {P:Program} {t:TypeId} {k:IntKind} (a:P.underlying t=some (.int k)):uS P t (λn=>[.val (.int k n)]) (λn=>(Lit.int k n).wf=true):=by
 intro H enc w base sp held fuel cs x h _
 obtain⟨n,rfl,_,hw⟩:=DataW.trod_int a h
 exact⟨n,hw,sL λμ=>.val _ rfl⟩
theorem Ak {P:Program} {t:TypeId} (a:P.underlying t=some .string):uS P t (λs=>[.val (.string s)]) (λ_=>True):=by
 intro H enc w base sp held fuel cs x h _
 obtain⟨s,rfl,_,_⟩:=DataW.trod_string a h
 exact⟨s,trivial,sL λμ=>.val _ rfl⟩
theorem Be {w:World} {base:Nat} {a:Addr} {n:Nat} {cs:List Value} (h:w.cells? base a n=some cs):cs.length=n/\∀ i,i < n->w.cell? (a.add i)=some (cs.getD i undef):=by
 obtain⟨_,b,c⟩:=World.cells?_some h
 refine⟨b,λi hi=>?_⟩
 rw[c i hi,OH,OI (by omega)]
 rfl
theorem G3 {w:World} {a:Addr} {v:Value} (h:w.cell? a=some v):a.spot=none/\a.block < w.heap.size:=by
 unfold World.cell? at h
 split at h
 .rename_i c _ _ b
  split at h
  .simp at h
  .rename_i d
   exact⟨by simpa using d,(Array.getElem?_eq_some_iff.1 b).1⟩
 .simp at h
theorem Hw {H:Type} {P:Program} {e:TypeId} : ∀ {l:List (DataW H)},(∀ n∈DataW.weightsAll P e l,n<=reachBytes)->∀ d∈l,Wt P e d
 | [],_,d,a=>by simp at a
 | x :: l,h,d,a=>by
  simp only[DataW.weightsAll,Pg] at h
  rcases O1.1 a with rfl | a
  .exact λn b=>h n (.inl b)
  .exact Hw (λn b=>h n (.inr b)) d a
theorem Jx {H:Type} {P:Program} {t e:TypeId} {elems spare:List (DataW H)} (a:P.underlying t=some (.slice e)) (h:Wt P t (.slice elems spare)) :
  (elems.length+spare.length) * P.bytesOf e<=reachBytes/\∀ d∈elems,Wt P e d:=by
 unfold Wt at h
 unfold DataW.weights at h
 rw[a] at h
 simp only[O1,Pg] at h
 exact⟨h _ (.inl rfl),Hw λn b=>h n (.inr (.inl b))⟩
theorem IE {H:Type} {P:Program} {t:TypeId} {a:Array Field} {parts:List (DataW H)} (b:P.underlying t=some (.struct a)) (h:Wt P t (.agg parts)) {j:Nat} {f:Field} {d:DataW H} (c:a[j]?=some f) (e:parts[j]?=some d):Wt P f.type d:=by
 intro n g
 refine h n ?_
 unfold DataW.weights
 rw[b]
 exact DataW.weights_mem_each (j:=j) (t:=f.type) (by simp[c]) e n g
theorem D0 {α:Type} {c:Nat->α->Prop} : ∀ (n:Nat),(∀ i,i < n->∃ a,c i a)->∃ l:List α,l.length=n/\∀ i (hi:i < l.length),c i l[i]
 | 0,_=>⟨[],rfl,λi hi=>by simp at hi⟩
 | n+1,h=>by
  obtain⟨l,d,b⟩:=D0 n λi hi=>h i (by omega)
  obtain⟨a,f⟩:=h n (by omega)
  refine⟨l ++ [a],by simp[d],λi hi=>?_⟩
  by_cases e:i < l.length
  .rw[List.getElem_append_left e];exact b i e
  .have:i=n:=by simp at hi;omega
   subst this
   rw[List.getElem_append_right (by omega)]
   simp only[d,Nat.sub_self,List.getElem_cons_zero];exact f
theorem sE {P:Program} {t e:TypeId} {α:Type} {f:α->List V} {ok:α->Prop} (J:P.underlying t=some (.slice e)) (M:0 < P.cellsOf e) (N:0 < P.bytesOf e) (he:uS P e f ok) :
  uS P t (λl:List α=>[.aX (l.map f)]) (λl=>l.length < 4611686018427387904/\∀ a∈l,ok a):=by
 intro H enc w base sp held fuel cs x h hw
 rcases DataW.trod_slice J h with ⟨rfl,rfl⟩ | ⟨a,len,cap,elems,rest,n,_,rfl,rfl,O,Q,hm,hlen,A,_,_⟩
 .exact⟨[],⟨by simp,by simp⟩,sL λμ=>.fy none 0 (by simp)⟩
 obtain⟨r,B⟩:=Jx J hw
 simp only[OX] at r
 have C:len < 4611686018427387904:=by
  have h1:len * 1<=(elems.length+rest.length) * P.bytesOf e:=Nat.mul_le_mul (by omega) N
  unfold reachBytes at r
  omega
 have each:∀ i,i < len->∃ y,ok y/\∃ ci,w.cells? base (a.add (i * P.cellsOf e)) (P.cellsOf e)=some ci/\uY w.heap ci (f y):=by
  intro i hi
  have h1:=A i hi
  have k:elems[i]?=some (elems[i]'(by omega)):=OI (by omega)
  have s:elems[i]'(by omega)∈elems:=OW _
  rw[k,Option.bind_eq_some_iff] at h1
  obtain⟨ci,D,E⟩:=h1
  obtain⟨y,z,m⟩:=he enc w base sp held n ci _ E (B _ (O9.2 ⟨_,s,rfl⟩))
  exact⟨y,z,ci,D,m⟩
 obtain⟨l,F,p⟩:=D0 len each
 subst F
 refine⟨l,⟨C,λy R=>?_⟩,sL λμ=>?_⟩
 .obtain⟨i,hi,rfl⟩:=Ql R
  exact(p i hi).1
 by_cases K:l=[]
 .subst K
  exact .fy (some a) cap (by simp)
 have o:0 < l.length:=List.length_pos_iff.2 K
 have d:∀ i j,i < l.length->j < P.cellsOf e->∃ c,cellAt w.heap a.block (a.off+i * P.cellsOf e+j)=some c/\a.block < w.heap.size/\(i=0->j=0->a.spot=none)/\∀ (hi:i < l.length),aq (λb=>b < w.heap.size) μ w.heap ((f l[i]).getD j .any) c:=by
  intro i j hi q
  obtain⟨_,ci,h1,k⟩:=p i hi
  obtain⟨D,E⟩:=Be h1
  have z:=E j q
  have m:=G3 z
  have u:((a.add (i * P.cellsOf e)).add j).block=a.block:=by simp only[Addr.add];split <;> split <;> rfl
  have G:((a.add (i * P.cellsOf e)).add j).off=a.off+i * P.cellsOf e+j:=by
   simp only[Addr.add];split <;> split <;> simp_all
  refine⟨ci.getD j undef,?_,by rw[<-u];exact m.2,?_,λ_=>?_⟩
  .rw[<-G,<-u,<-oZ]
   rw[<-z]
   congr 1
   generalize (a.add (i * P.cellsOf e)).add j=b at m
   cases b
   simp at m ⊢
   exact m.1.symm
  .rintro rfl rfl
   simp[Addr.add] at m
   exact m.1
  .exact k.2 μ j (by rw[k.1,D];exact q)
 obtain⟨_,_,S,L,_⟩:=d 0 0 o M
 have T:a=⟨a.block,a.off,none⟩:=by
  cases a;simp at L ⊢;exact L
 have I:∀ i,i < l.length->(f (l[i]?.getD (l[0]'o))).length=P.cellsOf e:=λi hi=>by
  obtain⟨_,ci,h1,k⟩:=p i hi
  rw[OI hi,OS,k.1,(Be h1).1]
 have v:∀ i (hi:i < l.length),(l.map f).getD i []=f l[i]:=λi hi=>by simp[OH,hi]
 have g:(l.map f).length=l.length:=by simp
 have:=aq.aX (Z:=λb=>b < w.heap.size) (μ:=μ) (hp:=w.heap) (l.map f) a.block a.off (P.cellsOf e) cap (λi j=>(cellAt w.heap a.block (a.off+i * P.cellsOf e+j)).getD undef) S (by rw[g];exact Q)
  (λi hi=>by
   rw[g] at hi
   have:=I i hi
   rw[OI hi,OS] at this
   rw[v i hi];exact this)
  (λi j hi q=>by
   rw[g] at hi
   obtain⟨c,h1,_⟩:=d i j hi q
   rw[h1];rfl)
  (λi j hi q=>by
   rw[g] at hi
   obtain⟨c,h1,_,_,k⟩:=d i j hi q
   rw[h1,v i hi];exact k hi)
 rw[g,<-T] at this
 exact this
theorem ud {P:Program} {t:TypeId} {b:Array Field} (d:P.underlying t=some (.struct b)) (j:∀ (i:Nat) (f:Field),b[i]?=some f->f.offset=i/\P.cellsOf f.type=1) (k:P.cellsOf t=b.size)
  {H:Type} {enc:TypeId × Value->H} {w:World} {base:Nat} {sp:Nat->Bool} {held:Bool} {fuel:Nat} {cs:List Value} {x:DataW H × List MemPlace} (h:DataW.trod enc P w base sp held fuel t cs=some x) (hw:Wt P t x.1) :
  cs.length=b.size/\∀ (i:Nat) (f:Field),b[i]?=some f->∀ {α:Type} {g:α->List V} {ok:α->Prop},uS P f.type g ok->∃ a,ok a/\uY w.heap [cs.getD i undef] (g a):=by
 obtain⟨xs,n,rfl,rfl,l,hlen,m⟩:=DataW.trod_struct d h
 refine⟨by rw[l,k],λi f hi α g ok hr=>?_⟩
 obtain⟨h1,o⟩:=j i f hi
 have p:i < b.size:=(Array.getElem?_eq_some_iff.1 hi).1
 have c:=m i f hi
 have e:xs[i]?=some (xs[i]'(by omega)):=OI (by omega)
 rw[e,h1,o] at c
 have q:(cs.drop i).take 1=[cs.getD i undef]:=by
  rw[OH,OI (by omega),Qa (by omega)]
  rfl
 rw[q] at c
 exact hr enc w base sp held n _ _ c (IE d hw hi (by simp[e]))
theorem fa {hp:Array Obj} {c:Value} {cs:List Value} {v:V} {vs:List V} (h:uY hp [c] [v]) (k:uY hp cs vs):uY hp (c :: cs) (v :: vs):=by
 refine⟨by simp[k.1],λμ i hi=>?_⟩
 cases i with
 | zero=>exact h.2 μ 0 (by simp)
 | succ i=>exact k.2 μ i (by simpa using hi)
theorem wY {hp:Array Obj} : uY hp [] []:=⟨rfl,λμ i hi=>by simp at hi⟩
theorem L7 {n:Int} (h:(Lit.int .i64 n).wf=true):bm n:=by
 simp only[Lit.wf,OO,OT] at h
 exact h
theorem ml:uS Tryz.prog 3 (λn=>[gi n]) bm:=λenc w base sp held fuel cs x h hw=>by
 obtain⟨n,h1,a⟩:=MI Tryz.underlying3 enc w base sp held fuel cs x h hw
 exact⟨n,L7 h1,a⟩
theorem Me:uS Tryz.prog 27 (λl:List Int=>[encI l]) (λl=>aG l/\∀ x∈l,bm x) :=
 sE Tryz.underlying27 (P7 (by kernel_rfl)) (P7 (by kernel_rfl)) ml
theorem Gk:uS Tryz.prog 23 (λl:List ByteArray=>[encS l]) (λl=>aG l/\∀ x∈l,True) :=
 sE Tryz.underlying23 (P7 (by kernel_rfl)) (P7 (by kernel_rfl)) (Ak Tryz.underlying9)
theorem ND {cs:List Value} (h:cs.length=3):cs=[cs.getD 0 undef,cs.getD 1 undef,cs.getD 2 undef]:=by
 match cs,h with
 | [a,b,c],_=>rfl
theorem Oo {cs:List Value} (h:cs.length=4):cs=[cs.getD 0 undef,cs.getD 1 undef,cs.getD 2 undef,cs.getD 3 undef]:=by
 match cs,h with
 | [a,b,c,d],_=>rfl
theorem Lt:uS Tryz.prog 130 c7 (λt=>bm t.level/\bm t.assoc):=λenc w base sp held fuel cs x h hw=>by
 obtain⟨e,d⟩:=ud Tryz.underlying130 (by
  intro i f hi
  match i,hi with
  | 0,hi=>simp at hi;subst hi;exact⟨rfl,by kernel_rfl⟩
  | 1,hi=>simp at hi;subst hi;exact⟨rfl,by kernel_rfl⟩
  | 2,hi=>simp at hi;subst hi;exact⟨rfl,by kernel_rfl⟩
  | n+3,hi=>simp at hi) (by kernel_rfl) h hw
 obtain⟨a,_,h1⟩:=d 0 _ rfl (Ak Tryz.underlying9)
 obtain⟨b,g,j⟩:=d 1 _ rfl ml
 obtain⟨c,k,l⟩:=d 2 _ rfl ml
 refine⟨⟨a,b,c⟩,⟨g,k⟩,?_⟩
 rw[ND e]
 exact fa h1 (fa j (fa l wY))
theorem Lx:uS Tryz.prog 92 aS (λr=>bm r.left/\bm r.prec/\aG r.right/\∀ x∈r.right,bm x):=λenc w base sp held fuel cs x h hw=>by
 obtain⟨g,d⟩:=ud Tryz.underlying92 (by
  intro i f hi
  match i,hi with
  | 0,hi=>simp at hi;subst hi;exact⟨rfl,by kernel_rfl⟩
  | 1,hi=>simp at hi;subst hi;exact⟨rfl,by kernel_rfl⟩
  | 2,hi=>simp at hi;subst hi;exact⟨rfl,by kernel_rfl⟩
  | n+3,hi=>simp at hi) (by kernel_rfl) h hw
 obtain⟨a,j,h1⟩:=d 0 _ rfl ml
 obtain⟨b,e,k⟩:=d 1 _ rfl Me
 obtain⟨c,l,m⟩:=d 2 _ rfl ml
 refine⟨⟨a,b,c⟩,⟨j,l,e.1,e.2⟩,?_⟩
 rw[ND g]
 exact fa h1 (fa k (fa m wY))
theorem L2:uS Tryz.prog 26 ah ai.Ok:=λenc w base sp held fuel cs x h hw=>by
 obtain⟨k,e⟩:=ud Tryz.underlying26 (by
  intro i f hi
  match i,hi with
  | 0,hi=>simp at hi;subst hi;exact⟨rfl,by kernel_rfl⟩
  | 1,hi=>simp at hi;subst hi;exact⟨rfl,by kernel_rfl⟩
  | 2,hi=>simp at hi;subst hi;exact⟨rfl,by kernel_rfl⟩
  | 3,hi=>simp at hi;subst hi;exact⟨rfl,by kernel_rfl⟩
  | n+4,hi=>simp at hi) (by kernel_rfl) h hw
 obtain⟨a,g,h1⟩:=e 0 _ rfl (sE Tryz.underlying22 (P7 (by kernel_rfl)) (P7 (by kernel_rfl)) Lt)
 obtain⟨b,l,m⟩:=e 1 _ rfl Gk
 obtain⟨c,j,o⟩:=e 2 _ rfl (sE Tryz.underlying24 (P7 (by kernel_rfl)) (P7 (by kernel_rfl)) Lx)
 obtain⟨d,p,q⟩:=e 3 _ rfl ml
 refine⟨⟨a,b,c,d⟩,⟨g.1,l.1,j.1,p,g.2,j.2⟩,?_⟩
 rw[Oo k]
 exact fa h1 (fa m (fa o (fa q wY)))
theorem Fo {l:List Int} {a b:List Bool} {t:Bool} (h:eT a b) (k:bw l a t=true):bw l b t=true:=by
 simp only[bw,O7] at k ⊢
 intro s d
 have:=k s d
 by_cases c:0<=s
 .rw[OM c] at this ⊢;exact this
 .rw[OK c] at this ⊢;exact h.2 _ this
theorem eT.KH {a b:List Bool} (h:eT a b) (k:eT b a):a=b:=by
 have h1:=h.dw
 have c:=k.dw
 exact h1.2 (by omega)
def lv (g:ai) (t:Bool) (is:List Bool):Prop:=∀ i,is.getD i false=true->∃ r∈g.rules,r.left.toNat=i/\bw r.right is t=true
theorem lv.step {g:ai} {t:Bool} {is:List Bool} {r:aF} (h:lv g t is) (hr:r∈g.rules):lv g t (cm t is r):=by
 have hle:eT is (cm t is r):=by
  unfold cm
  split
  .exact .set _ _
  .exact .refl _
 intro i hi
 by_cases e:is.getD i false=true
 .obtain⟨c,h1,d,f⟩:=h i e
  exact⟨c,h1,d,Fo hle f⟩
 .unfold cm at hi
  by_cases a:bw r.right is t=true
  .rw[OM a] at hi
   have:r.left.toNat=i:=by
    refine Pd λb=>e ?_
    simp only[OH,Qh,OK b] at hi ⊢
    exact hi
   exact⟨r,hr,this,Fo hle a⟩
  .rw[OK a] at hi;exact absurd hi e
theorem lv.fold {g:ai} {t:Bool} : ∀ (l:List aF) (is:List Bool),(∀ r∈l,r∈g.rules)->lv g t is->lv g t (l.foldl (cm t) is)
 | [],is,_,h=>h
 | r :: l,is,a,h=>lv.fold l _ (λx b=>a x (by simp[b])) (h.step (a r (by simp)))
theorem lv.iter {g:ai} {t:Bool} : ∀ (n:Nat) (is:List Bool),lv g t is->lv g t (iter (ga g t) n is)
 | 0,_,h=>h
 | n+1,is,h=>lv.iter n _ (lv.fold g.rules is (λ_ h=>h) h)
theorem FJ (g:ai) (t:Bool):lv g t (al g t):=by
 unfold al
 split
 .refine lv.iter _ _ ?_
  intro i hi
  simp only[bI,OH,Pw] at hi
  split at hi <;> simp at hi
 .intro i hi;simp at hi
theorem DG (is:List Bool) (s:Int):eT is (mark is s):=by
 unfold mark
 split
 .exact .set _ _
 .exact .refl _
theorem wP:∀ (l:List Int) (is:List Bool),eT is (l.foldl mark is)
 | [],is=>.refl _
 | s :: l,is=>(DG is s).trans (wP l _)
theorem CC (p is:List Bool) (r:aF):eT is (dX p is r):=by
 unfold dX
 split
 .exact wP _ _
 .exact .refl _
theorem Bl (p:List Bool):∀ (l:List aF) (is:List Bool),eT is (l.foldl (dX p) is)
 | [],is=>.refl _
 | r :: l,is=>(CC p is r).trans (Bl p l _)
theorem zX {p:List Bool} : ∀ {l:List aF} {is:List Bool},l.foldl (dX p) is=is->∀ r∈l,dX p is r=is
 | [],_,_,_,h=>by simp at h
 | r :: l,is,h,x,a=>by
  rw[O3] at h
  have h1:=Bl p l (dX p is r)
  rw[h] at h1
  have b:=(h1.KH (CC p is r))
  rcases O1.1 a with rfl | a
  .exact b
  .rw[b] at h;exact zX h x a
theorem Ao:∀ {l:List Int} {is:List Bool},l.foldl mark is=is->∀ s∈l,mark is s=is
 | [],_,_,_,h=>by simp at h
 | r :: l,is,h,x,a=>by
  rw[O3] at h
  have h1:=wP l (mark is r)
  rw[h] at h1
  have b:=(h1.KH (DG is r))
  rcases O1.1 a with rfl | a
  .exact b
  .rw[b] at h;exact Ao h x a
theorem zu {g:ai} (hr:aA g=true):kZ g (al g true) (aY g)=aY g/\eT ((bI g).set g.start.toNat true) (aY g):=by
 have a:=az hr
 have h:=qf (xp (al g true)) g.rules 16 ((bI g).set g.start.toNat true) (by have:=a.af;simp[bI];omega)
 rw[Ex,M0 hr] at h
 exact h
theorem vU {g:ai} (hr:aA g=true):(aY g).getD g.start.toNat false=true:=by
 have a:=az hr
 refine(zu hr).2.2 _ ?_
 have b:=a.fF
 have c:=a.start
 simp only[OH]
 rw[Pl (by simp[bI];omega)]
 rfl
theorem xP {g:ai} (hr:aA g=true) {r:aF} (hm:r∈g.rules) (hk:bk (al g true) (aY g) r=true) {s:Int} (b:s∈r.right) (c:s < 0):(aY g).getD (-1 - s).toNat false=true:=by
 have d:=az hr
 have h1:=zX (zu hr).1 r hm
 unfold dX at h1
 rw[bk] at hk
 rw[OM hk] at h1
 have a:=Ao h1 s b
 unfold mark at a
 rw[OM c] at a
 rw[<-a]
 have e:=qR hr
 have:=d.neg hm b c
 simp only[OH]
 rw[Pl (by omega)]
 rfl
theorem IZ {g:ai} (hr:aA g=true) {x:Int} (d:0<=x) (hp:(al g true).getD x.toNat false=true) (a:(aY g).getD x.toNat false=true):x∈bN (al g true) (aY g) g.rules:=by
 obtain⟨r,h1,e,b⟩:=FJ g true _ hp
 have c:=az hr
 have f:=c.left r h1
 have:r.left=x:=by omega
 refine sg.2 ⟨r,h1,?_,this⟩
 rw[bk,this,a,b];rfl
theorem BL {x:Int} : ∀ (o:List Int) (i:Int),x∈o->∃ k:Nat,cR (λy=>y == x) o i=i+k/\o[k]?=some x
 | [],_,h=>by simp at h
 | y :: o,i,h=>by
  by_cases e:y=x
  .exact⟨0,by simp[cR,e],by simp[e]⟩
  .have a:x∈o:=by
    rcases O1.1 h with rfl | h
    .exact absurd rfl e
    .exact h
   obtain⟨k,h1,b⟩:=BL o (i+1) a
   exact⟨k+1,by simp only[cR];rw[OK (by simp[e]),h1];push_cast;omega,by simpa using b⟩
theorem xf {o:List Int} {x:Int} (h:x∈o):o[(aL o x).toNat]?=some x:=by
 obtain⟨k,h1,a⟩:=BL o 0 h
 have:aL o x=k:=by unfold aL;omega
 rw[this];simpa using a
theorem u7 {o:List Int} (b:o.Nodup) {k:Nat} {x:Int} (h:o[k]?=some x):aL o x=k:=by
 have a:=O2 h
 have h1:=xf a
 have f:=iN a
 obtain⟨hk,c⟩:=OV.1 h
 obtain⟨d,e⟩:=OV.1 h1
 have:=(List.getElem_inj b).1 (e.trans c.symm)
 omega
theorem pG:∀ (l:List aF) (acc:List Int),acc.Nodup->(l.foldl dc acc).Nodup
 | [],_,h=>h
 | r :: l,acc,h=>pG l _ (yb h)
theorem Ga (p q:List Bool) (l:List aF):(bN p q l).Nodup:=pG _ _ List.nodup_nil
theorem K0 (acc:List Int) (r:aF):∃ m,dc acc r=acc ++ m:=by
 unfold dc
 split
 .exact⟨[],by simp⟩
 .exact⟨_,rfl⟩
theorem rz:∀ (l:List aF) (acc:List Int),∃ m,l.foldl dc acc=acc ++ m
 | [],acc=>⟨[],by simp⟩
 | r :: l,acc=>by
  obtain⟨m,hm⟩:=K0 acc r
  obtain⟨k,hk⟩:=rz l (dc acc r)
  exact⟨m ++ k,by rw[O3,hk,hm,PR]⟩
theorem KA {a b:List Int} {x:Int} (h:x∈a):aL (a ++ b) x=aL a x:=by
 unfold aL
 rw[qV _ _ _ _ (by omega)]
 have:=iN h
 unfold aL at this
 rw[OM this.1]
theorem ta {r:ai} {o:List Int} (c:o.Nodup) (hr:r.af.length=o.length):∀ (l:List aF) (acc:List Int),o=l.foldl dc acc->(∀ x∈l,fq r (bg (aL o) x)=true)->eQ r (l.map (bg (aL o))) ((acc.length:Int) - 1)=true
 | [],acc,h,_=>by
  simp only[List.foldl_nil] at h
  simp[eQ,hr,h]
 | x :: l,acc,h,a=>by
  simp only[Pa,eQ,OO,OT]
  rw[O3] at h
  have h1:(bg (aL o) x).left=aL o x.left:=rfl
  obtain⟨m,hm⟩:=rz l (dc acc x)
  rw[<-h] at hm
  by_cases b:x.left∈acc
  .have e:dc acc x=acc:=by unfold dc;rw[OM b]
   rw[e] at hm h
   have g:=iN b
   have d:aL o x.left=aL acc x.left:=by rw[hm];exact KA b
   rw[h1,d,OK (by omega)]
   exact⟨⟨⟨g.1,by omega⟩,a x (by simp)⟩,ta c hr l acc h λy f=>a y (by simp[f])⟩
  .have e:dc acc x=acc ++ [x.left]:=by unfold dc;rw[OK b]
   rw[e] at hm h
   have d:aL o x.left=acc.length:=u7 c (by rw[hm];simp)
   rw[h1,d,OM (by omega)]
   refine⟨⟨⟨by omega,by omega⟩,a x (by simp)⟩,?_⟩
   have:=ta c hr l (acc ++ [x.left]) h λy f=>a y (by simp[f])
   rw[PG] at this
   simpa using this
theorem vF {g r:ai} (h:r.ao=g.ao):∀ (l:List Term) (i:Int),gJ r l i=gJ g l i
 | [],_=>rfl
 | t :: l,i=>by
  simp only[gJ,vF h l]
  congr 1
  simp only[gX,jL,oE,h]
theorem tn {o:List Int} {n:Nat} (h:o.Nodup) (a:∀ x∈o,0<=x/\x < n):o.length<=n:=by
 have:=mS o ((List.range n).map λ(k:Nat)=>(k:Int)) h λx b=>by
  have:=a x b
  exact O9.2 ⟨x.toNat,Pm.2 (by omega),by omega⟩
 simpa using this
structure cx (g:ai) (p q:List Bool) (o:List Int) (r:ai):Prop where
 right:aA g=true
 pe:p=al g true
 qe:q=aY g
 oe:o=bN p q g.rules
 re:r=mz g (aL o) p q
 nodup:o.Nodup
 inside:∀ x∈o,0<=x/\x < g.af.length
 kept:∀ R∈g.rules,bk p q R=true->R.left∈o/\∀ s∈R.right,s < 0->-1 - s∈o
 from_:∀ x∈o,∃ R∈g.rules,bk p q R=true/\R.left=x
 start:g.start∈o
theorem CA {g:ai} (hr:aA g=true) (hp:(al g true).getD g.start.toNat false=true):cx g (al g true) (aY g) (bN (al g true) (aY g) g.rules) (mz g (aL (bN (al g true) (aY g) g.rules)) (al g true) (aY g)):=by
 have b:=az hr
 refine⟨hr,rfl,rfl,rfl,rfl,Ga _ _ _,λx a=>?_,λR hm hk=>⟨sg.2 ⟨R,hm,hk,rfl⟩,λs c d=>?_⟩,λx a=>sg.1 a,IZ hr b.fF hp (vU hr)⟩
 .obtain⟨R,h1,_,rfl⟩:=sg.1 a
  exact b.left R h1
 .refine IZ hr (by omega) ?_ (xP hr hm hk c d)
  rw[bk,OO] at hk
  have:=hk.2
  simp only[bw,O7] at this
  have:=this s c
  rwa [OK (by omega)] at this
section
variable {g r:ai} {p q:List Bool} {o:List Int}
theorem cx.rules (h:cx g p q o r):r.rules=(g.rules.filter (bk p q)).map (bg (aL o)):=by rw[h.re];rfl
theorem cx.af (h:cx g p q o r):r.af=o.map λx=>g.af.getD x.toNat ⟨#[]⟩:=by rw[h.re,h.oe];rfl
theorem cx.ao (h:cx g p q o r):r.ao=g.ao:=by rw[h.re];rfl
theorem cx.um (h:cx g p q o r):r.start=aL o g.start:=by rw[h.re];rfl
theorem cx.len (h:cx g p q o r):r.af.length=o.length:=by rw[h.af];simp
theorem cx.iv (h:cx g p q o r):aA r=true:=by
 have Q:=az h.right
 have E:=h.right
 simp only[aA,gN,im,OO,OT] at E ⊢
 obtain⟨⟨⟨⟨⟨⟨⟨I,a2⟩,⟨a3,a4⟩,a5⟩,R⟩,S⟩,T⟩,a9⟩,t⟩:=E
 have J:=iN h.start
 have K:o.length<=g.af.length:=tn h.nodup h.inside
 have c:g.af.Nodup/\∀ s∈g.af,ew (dL s)=true/\jL g s < 0:=by
  rw[qo] at a5
  refine⟨(qa g.af).1 λk s hk=>?_,λs i=>?_⟩
  .have:=a5 k s hk
   simp only[jd,tM,OO,PB] at this
   have:=this.1.2
   omega
  .obtain⟨k,hk⟩:=List.getElem?_of_mem i
   have:=a5 k s hk
   simp only[jd,OO,OT] at this
   exact⟨this.1.1,this.2⟩
 have a:∀ x∈o,∃ (b:x.toNat < g.af.length),g.af.getD x.toNat ⟨#[]⟩=g.af[x.toNat]:=λx b=>by
  have:=h.inside x b
  exact⟨by omega,by simp[OH,OI (show x.toNat < g.af.length by omega)]⟩
 have u:r.af.Nodup:=by
  rw[h.af,P5,QB]
  refine(List.Pairwise.and_mem.1 h.nodup).imp ?_
  rintro x y ⟨b,F,v⟩ e
  obtain⟨h1,w⟩:=a x b
  obtain⟨G,j⟩:=a y F
  rw[w,j] at e
  have U:=(List.getElem_inj c.1).1 e
  have V:=h.inside x b
  have W:=h.inside y F
  exact v (by omega)
 have l:(g.rules.filter (bk p q)).length<=g.rules.length:=List.length_filter_le _ _
 obtain⟨X,z,A,_⟩:=h.from_ _ h.start
 have H:0 < (g.rules.filter (bk p q)).length:=List.length_pos_of_mem (PC.2 ⟨z,A⟩)
 have L:r.rules.length=(g.rules.filter (bk p q)).length:=by rw[h.rules];simp
 refine⟨⟨⟨⟨⟨⟨⟨by rw[h.ao];exact I,?_⟩,⟨by rw[h.len];omega,by rw[h.len];omega⟩,?_⟩,by omega⟩,by omega⟩,by rw[h.um];omega⟩,by rw[h.um,h.len];omega⟩,?_⟩
 .rw[h.ao,vF h.ao];exact a2
 .rw[qo]
  intro k s hk
  have hm:=O2 hk
  have d:=(qa r.af).2 u k s hk
  rw[h.af,O9] at hm
  obtain⟨x,b,rfl⟩:=hm
  obtain⟨h1,w⟩:=a x b
  obtain⟨G,j⟩:=c.2 _ (w ▸ OW h1:g.af.getD x.toNat ⟨#[]⟩∈g.af)
  simp only[jd,tM,OO,PB,OT]
  refine⟨⟨G,by rw[d];omega⟩,?_⟩
  simp only[jL,h.ao] at j ⊢
  exact j
 .rw[h.rules]
  have:=ta (r:=r) h.nodup h.len (g.rules.filter (bk p q)) [] (by rw[h.oe];rfl) (λx b=>?_)
  .simpa using this
  obtain⟨hm,hk⟩:=PC.1 b
  obtain⟨_,B⟩:=h.kept x hm hk
  have m:=(uL _ _ t).2 x hm
  have m:=m.2.2
  simp only[fq,OO,OT,O7] at m ⊢
  obtain⟨⟨⟨M,N⟩,O⟩,P⟩:=m
  refine⟨⟨⟨by simpa [bg] using M,N⟩,by rw[h.ao];exact O⟩,λs i=>?_⟩
  simp only[bg,O9] at i
  obtain⟨n,f,rfl⟩:=i
  have C:=P n f
  by_cases D:n < 0
  .rw[OM D]
   have Y:=iN (B n f D)
   simp only[jZ,eO,OO]
   rw[OK (by omega),decide_eq_false (p:=0≤-1 - aL o (-1 - n)) (by omega)]
   simp only[h.len,OT,P2,Bool.not_false,and_true]
   omega
  .rw[OK D]
   simp only[jZ,eO,h.ao] at C ⊢
   rw[OM (by omega)] at C ⊢
   exact C
end
inductive rM (g:ai):Int->Prop
 | mk (R:aF):R∈g.rules->(∀ s∈R.right,s < 0->rM g (-1 - s))->rM g R.left
inductive lL (g:ai) (p:List Bool):Int->Prop
 | start:lL g p g.start
 | next (R:aF) (s:Int):R∈g.rules->lL g p R.left->bw R.right p true=true->s∈R.right->s < 0->lL g p (-1 - s)
theorem mr {l:List Int} {p:List Bool} : bw l p true=true↔∀ s∈l,s < 0->p.getD (-1 - s).toNat false=true:=by
 simp only[bw,O7]
 constructor
 .intro h s a b
  have:=h s a
  rwa [OK (by omega)] at this
 .intro h s a
  by_cases b:s < 0
  .rw[OK (by omega)];exact h s a b
  .rw[OM (by omega)]
theorem sS {l:List Bool} {i j:Nat} (h:(l.set i true).getD j false=true):j=i∨l.getD j false=true:=by
 by_cases e:i=j
 .exact .inl e.symm
 .right
  simp only[OH,Qh,OK e] at h ⊢
  exact h
theorem sN {g:ai} {i:Nat} : (bI g).getD i false=false:=by
 simp only[bI,OH,Pw]
 split <;> rfl
theorem Cg {g:ai} (hr:aA g=true):∀ i:Nat,(al g true).getD i false=true->rM g i:=by
 have k:=az hr
 have b:∀ (is:List Bool) (R:aF),R∈g.rules->(∀ i:Nat,is.getD i false=true->rM g i)->∀ i:Nat,(cm true is R).getD i false=true->rM g i:=by
  intro is R f h i hi
  unfold cm at hi
  split at hi
  .rename_i m
   rcases sS hi with rfl | hi
   .have:=k.left R f
    have e:((R.left.toNat:Nat):Int)=R.left:=by omega
    rw[e]
    refine .mk R f λs o p=>?_
    have:=h _ (mr.1 m s o p)
    rwa [show (((-1 - s).toNat:Nat):Int) = -1 - s by omega] at this
   .exact h i hi
  .exact h i hi
 have a:∀ (l:List aF) (is:List Bool),(∀ R∈l,R∈g.rules)->(∀ i:Nat,is.getD i false=true->rM g i)->∀ i:Nat,(l.foldl (cm true) is).getD i false=true->rM g i:=by
  intro l
  induction l with
  | nil=>intro is _ h;exact h
  | cons R l c=>intro is j h;exact c _ (λx q=>j x (by simp[q])) (b is R (j R (by simp)) h)
 have d:∀ (n:Nat) (is:List Bool),(∀ i:Nat,is.getD i false=true->rM g i)->∀ i:Nat,(iter (ga g true) n is).getD i false=true->rM g i:=by
  intro n
  induction n with
  | zero=>intro is h;exact h
  | succ n c=>intro is h;exact c _ (a g.rules is (λ_ h=>h) h)
 rw[al,OM hr]
 exact d _ _ λi hi=>by rw[sN] at hi;simp at hi
theorem Av (t:Bool) (is:List Bool) (R:aF):eT is (cm t is R):=by
 unfold cm
 split
 .exact .set _ _
 .exact .refl _
theorem z1 (t:Bool):∀ (l:List aF) (is:List Bool),eT is (l.foldl (cm t) is)
 | [],is=>.refl _
 | R :: l,is=>(Av t is R).trans (z1 t l _)
theorem xV {t:Bool} : ∀ {l:List aF} {is:List Bool},l.foldl (cm t) is=is->∀ R∈l,cm t is R=is
 | [],_,_,_,h=>by simp at h
 | R :: l,is,h,x,a=>by
  rw[O3] at h
  have h1:=z1 t l (cm t is R)
  rw[h] at h1
  have b:=(h1.KH (Av t is R))
  rcases O1.1 a with rfl | a
  .exact b
  .rw[b] at h;exact xV h x a
theorem G2 {g:ai} (hr:aA g=true) (t:Bool):ga g t (al g t)=al g t:=by
 have a:=az hr
 have h:=qf (ph t) g.rules 16 (bI g) (by have:=a.af;simp[bI];omega)
 rw[EP,HX hr] at h
 exact h.1
theorem ix {g:ai} (hr:aA g=true) {t:Bool} {R:aF} (a:R∈g.rules) (b:bw R.right (al g t) t=true):(al g t).getD R.left.toNat false=true:=by
 have h1:=xV (G2 hr t) R a
 have c:=az hr
 have d:=fb hr t
 have e:=c.left R a
 unfold cm at h1
 rw[OM b] at h1
 rw[<-h1]
 simp only[OH]
 rw[Pl (by omega)]
 rfl
theorem uq {g:ai} (hr:aA g=true) {x:Int} (h:rM g x):(al g true).getD x.toNat false=true:=by
 induction h with
 | mk R a _ b=>exact ix hr a (mr.2 λs c d=>b s c d)
theorem uF {g:ai} (hr:aA g=true):∀ i:Nat,(aY g).getD i false=true->lL g (al g true) i:=by
 have o:=az hr
 have f:∀ (R:aF),R∈g.rules->lL g (al g true) R.left->bw R.right (al g true) true=true->∀ (l:List Int) (is:List Bool),(∀ s∈l,s∈R.right)->(∀ i:Nat,is.getD i false=true->lL g (al g true) i)->∀ i:Nat,(l.foldl mark is).getD i false=true->lL g (al g true) i:=by
  intro R d e b l
  induction l with
  | nil=>intro is _ h;exact h
  | cons s l c =>
   intro is p h
   refine c _ (λx j=>p x (by simp[j])) λi hi=>?_
   unfold mark at hi
   split at hi
   .rename_i q
    rcases sS hi with rfl | hi
    .rw[show (((-1 - s).toNat:Nat):Int) = -1 - s by omega]
     exact .next R s d e b (p s (by simp)) q
    .exact h i hi
   .exact h i hi
 have k:∀ (is:List Bool) (R:aF),R∈g.rules->(∀ i:Nat,is.getD i false=true->lL g (al g true) i)->∀ i:Nat,(dX (al g true) is R).getD i false=true->lL g (al g true) i:=by
  intro is R d h
  unfold dX
  split
  .rename_i b
   rw[OO] at b
   have h1:=h _ b.1
   have:=o.left R d
   rw[show ((R.left.toNat:Nat):Int)=R.left by omega] at h1
   exact f R d h1 b.2 R.right is (λ_ h=>h) h
  .exact h
 have a:∀ (l:List aF) (is:List Bool),(∀ R∈l,R∈g.rules)->(∀ i:Nat,is.getD i false=true->lL g (al g true) i)->∀ i:Nat,(l.foldl (dX (al g true)) is).getD i false=true->lL g (al g true) i:=by
  intro l
  induction l with
  | nil=>intro is _ h;exact h
  | cons R l c=>intro is e h;exact c _ (λx j=>e x (by simp[j])) (k is R (e R (by simp)) h)
 have m:∀ (n:Nat) (is:List Bool),(∀ i:Nat,is.getD i false=true->lL g (al g true) i)->∀ i:Nat,(iter (kZ g (al g true)) n is).getD i false=true->lL g (al g true) i:=by
  intro n
  induction n with
  | zero=>intro is h;exact h
  | succ n c=>intro is h;exact c _ (a g.rules is (λ_ h=>h) h)
 rw[aY,OM hr]
 refine m _ _ λi hi=>?_
 rcases sS hi with rfl | hi
 .have:=o.fF
  rw[show ((g.start.toNat:Nat):Int)=g.start by omega]
  exact .start
 .rw[sN] at hi;simp at hi
theorem pJ {g:ai} (hr:aA g=true) {x:Int} (h:lL g (al g true) x):(aY g).getD x.toNat false=true:=by
 induction h with
 | start=>exact vU hr
 | next R s a _ b c d e=>exact xP hr a (by rw[bk,e,b];rfl) c d
section
variable {g r:ai} {p q:List Bool} {o:List Int}
theorem cx.OB (h:cx g p q o r) {x:Int} (k:rM g x):x∈o->rM r (aL o x):=by
 induction k with
 | mk R j b l =>
  intro m
  obtain⟨u,n,c,t⟩:=h.from_ _ m
  have hk:bk p q R=true:=by
   rw[bk,OO] at c ⊢
   refine⟨by rw[<-t];exact c.1,?_⟩
   rw[h.pe]
   exact mr.2 λs e a=>uq h.right (b s e a)
  have f:=(h.kept R j hk).2
  have hm:bg (aL o) R∈r.rules:=by rw[h.rules];exact O9.2 ⟨R,PC.2 ⟨j,hk⟩,rfl⟩
  refine rM.mk (bg (aL o) R) hm λv d i=>?_
  simp only[bg,O9] at d
  obtain⟨s,e,rfl⟩:=d
  by_cases a:s < 0
  .rw[OM a]
   have:=l s e a (f s e a)
   rwa [show -1 - (-1 - aL o (-1 - s))=aL o (-1 - s) by omega]
  .rw[OK a] at i;omega
theorem cx.Np (h:cx g p q o r) {x:Int} (a:x∈o):(al r true).getD (aL o x).toNat false=true:=by
 obtain⟨R,c,hk,rfl⟩:=h.from_ _ a
 rw[bk,OO,h.pe] at hk
 have h1:=ix h.right c hk.2
 have b:=Cg h.right _ h1
 have:=(h.inside _ a)
 rw[show ((R.left.toNat:Nat):Int)=R.left by omega] at b
 exact uq h.iv (h.OB b a)
theorem cx.at_ (h:cx g p q o r) {k:Nat} (hk:k < o.length):∃ x∈o,aL o x=k/\o[k]?=some x:=⟨o[k],OW _,u7 h.nodup (OI hk),OI hk⟩
theorem cx.uR (h:cx g p q o r) {k:Nat} (hk:k < o.length):(al r true).getD k false=true:=by
 obtain⟨x,a,h1,_⟩:=h.at_ hk
 have:=h.Np a
 rwa [h1,PJ] at this
theorem cx.Hx (h:cx g p q o r) {R:aF} (a:R∈r.rules):bw R.right (al r true) true=true:=by
 have b:=az h.iv
 refine mr.2 λs c d=>h.uR ?_
 have:=b.neg a c d
 rw[h.len] at this
 omega
theorem cx.Om (h:cx g p q o r) {x:Int} (e:lL g (al g true) x):lL r (al r true) (aL o x):=by
 induction e with
 | start=>rw[<-h.um];exact .start
 | next R s b h1 f c d i =>
  have hk:bk p q R=true:=by
   rw[bk,h.pe,h.qe,f,pJ h.right h1];rfl
  have hm:bg (aL o) R∈r.rules:=by rw[h.rules];exact O9.2 ⟨R,PC.2 ⟨b,hk⟩,rfl⟩
  have a:=(h.kept R b hk).2 s c d
  have j:=iN a
  have:=lL.next (g:=r) (p:=al r true) (bg (aL o) R) (-1 - aL o (-1 - s)) hm i (h.Hx hm) (by
   simp only[bg,O9]
   exact⟨s,c,by rw[OM d]⟩) (by omega)
  rwa [show -1 - (-1 - aL o (-1 - s))=aL o (-1 - s) by omega] at this
theorem cx.Ag (h:cx g p q o r) {k:Nat} (hk:k < o.length):(aY r).getD k false=true:=by
 obtain⟨x,b,h1,_⟩:=h.at_ hk
 obtain⟨R,d,a,rfl⟩:=h.from_ _ b
 rw[bk,OO,h.qe] at a
 have c:=uF h.right _ a.1
 have:=(h.inside _ b)
 rw[show ((R.left.toNat:Nat):Int)=R.left by omega] at c
 have:=pJ h.iv (h.Om c)
 rwa [h1,PJ] at this
def jb (n:Nat):List Int:=(List.range n).map λ(k:Nat)=>(k:Int)
theorem BC (n:Nat):(jb n).length=n:=by simp[jb]
theorem wD {n k:Nat} (h:k < n):(jb n)[k]?=some (k:Int):=by simp[jb,h]
theorem Gi (n:Nat):(jb n).Nodup:=by
 rw[jb,P5,QB]
 exact(List.nodup_range (n:=n)).imp λh e=>h (by omega)
theorem wZ {n:Nat} {x:Int} (a:0<=x) (h1:x < n):aL (jb n) x=x:=by
 have:=u7 (Gi n) (wD (n:=n) (k:=x.toNat) (by omega))
 rw[show ((x.toNat:Nat):Int)=x by omega] at this
 exact this
theorem zM {p q:List Bool} : ∀ (l:List aF) (i:Int),(∀ R∈l,bk p q R=true)->cK p q l i=(List.range l.length).map λ(k:Nat)=>i+(k:Int)
 | [],_,_=>rfl
 | R :: l,i,h=>by
  rw[cK,OM (h R (by simp)),zM l (i+1) (λx a=>h x (by simp[a])),OY,List.range_succ_eq_map,Pa,List.map_map]
  congr 1
  .omega
  .apply Qu
   intro k _
   simp only[Function.comp]
   push_cast;omega
theorem rm {f:Int->Int} {o:List Int} (d:∀ x∈o,∀ y∈o,f x=f y->x=y):∀ (l:List aF) (acc:List Int),(∀ x∈acc,x∈o)->(∀ R∈l,R.left∈o)->(l.map (bg f)).foldl dc (acc.map f)=(l.foldl dc acc).map f
 | [],_,_,_=>rfl
 | R :: l,acc,b,c=>by
  have e:dc (acc.map f) (bg f R)=(dc acc R).map f:=by
   have h1:(bg f R).left=f R.left:=rfl
   unfold dc
   rw[h1]
   by_cases h:R.left∈acc
   .rw[OM h,OM (O9.2 ⟨_,h,rfl⟩)]
   .rw[OK h,OK (λhm=>by
     obtain⟨y,g,e⟩:=O9.1 hm
     exact h (d y (b y g) _ (c R (by simp)) e ▸ g))]
    simp
  rw[Pa,O3,O3,e]
  refine rm d l (dc acc R) (λx a=>?_) (λx a=>c x (by simp[a]))
  unfold dc at a
  split at a
  .exact b x a
  .rcases Pg.1 a with a | a
   .exact b x a
   .simp at a;subst a;exact c R (by simp)
theorem cx.inj (h:cx g p q o r):∀ x∈o,∀ y∈o,aL o x=aL o y->x=y:=by
 intro x a y b e
 have h1:=xf a
 have c:=xf b
 rw[e,c] at h1
 exact(Qr h1).symm
theorem cx.Ly (h:cx g p q o r):o.map (aL o)=jb o.length:=by
 apply List.ext_getElem?
 intro k
 rw[ON]
 by_cases hk:k < o.length
 .rw[wD hk,OI hk,OU,u7 h.nodup (OI hk)]
 .rw[O5 (by omega),O5 (by rw[BC];omega)];rfl
theorem cx.w6 (h:cx g p q o r):∀ R∈r.rules,bk (al r true) (aY r) R=true:=λR a=>by
 have b:=az h.iv
 have:=b.left R a
 rw[h.len] at this
 rw[bk,h.Ag (by omega),h.Hx a];rfl
theorem cx.ord (h:cx g p q o r):bN (al r true) (aY r) r.rules=jb o.length:=by
 unfold bN
 rw[List.filter_eq_self.2 h.w6,h.rules]
 have:=rm h.inj (g.rules.filter (bk p q)) [] (by simp) (λR a=>by
  obtain⟨h1,b⟩:=PC.1 a
  exact(h.kept R h1 b).1)
 rw[PQ] at this
 rw[this,<-h.Ly]
 congr 1
 rw[h.oe];rfl
theorem cx.once (h:cx g p q o r):cX r=(r,jb r.rules.length,0):=by
 have c:=az h.iv
 have a:=c.start
 have b:=c.fF
 rw[h.len] at a
 rw[eD h.iv,OM (h.uR (by omega)),h.ord]
 have hk:cK (al r true) (aY r) r.rules 0=jb r.rules.length:=by
  rw[zM _ _ h.w6]
  unfold jb
  apply Qu
  intro k _;omega
 have hr:mz r (aL (jb o.length)) (al r true) (aY r)=r:=by
  unfold mz
  rw[h.ord,List.filter_eq_self.2 h.w6]
  have j:((jb o.length).map λx=>r.af.getD x.toNat ⟨#[]⟩)=r.af:=by
   apply List.ext_getElem?
   intro k
   rw[ON]
   by_cases d:k < o.length
   .rw[wD d,OU]
    simp[OH,OI (show k < r.af.length by rw[h.len];omega)]
   .rw[O5 (by rw[BC];omega),O5 (by rw[h.len];omega)];rfl
  have l:r.rules.map (bg (aL (jb o.length)))=r.rules:=by
   conv=>rhs;rw[<-List.map_id r.rules]
   apply Qu
   intro R i
   have e:=c.left R i
   rw[h.len] at e
   unfold bg
   rw[wZ e.1 e.2]
   have m:(R.right.map λs=>if s < 0 then -1 - aL (jb o.length) (-1 - s) else s)=R.right:=by
    conv=>rhs;rw[<-List.map_id R.right]
    apply Qu
    intro s n
    by_cases f:s < 0
    .have:=c.neg i n f
     rw[h.len] at this
     rw[OM f,wZ (by omega) this]
     simp only[id];omega
    .rw[OK f];rfl
   rw[m];rfl
  rw[j,l,wZ b a]
 rw[hr,hk]
end
def isRed (g:ai):Bool:=(cX g).2.2 == 0 && decide (g=(cX g).1)
end Gv
