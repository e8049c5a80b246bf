/-
  Part 8 of the proof: what the machine does and what the functions answer.
  Conditions: those that each lemma names.
-/
import Derived.ProofKit
import Derived.SizedLaws
import Derived.Test.YtoamakccoedejaaGreatDoorSGjSG
set_option linter.unusedSimpArgs false
set_option linter.unusedVariables false
set_option maxRecDepth 100000
set_option maxHeartbeats 20000000
namespace Gv
open Go Go.Proofs
def jJ (is:List Bool) (l:List Int):List Bool:=l.foldl (λis n=>is.set n.toNat true) is
def stepG (comes:aI->List Bool->List Int) (is:List Bool) (r:aI):List Bool:=jJ is (comes r is)
def bP (comes:aI->List Bool->List Int) (rules:List aI) (is:List Bool):List Bool:=rules.foldl (stepG comes) is
def dT (a b:List Bool):Prop:=a.length=b.length/\∀i,a.getD i false=true->b.getD i false=true
theorem dT.refl (a:List Bool):dT a a:=⟨rfl,λ_ h=>h⟩
theorem dT.trans {a b c:List Bool} (h:dT a b) (k:dT b c):dT a c:=⟨h.1.trans k.1,λi hi=>k.2 i (h.2 i hi)⟩
theorem dT.set (a:List Bool) (i:Nat):dT a (a.set i true):=by
 refine⟨by simp,λj h=>?_⟩
 simp only[GQ,Ir] at h ⊢
 split
 .split
  .rfl
  .rename_i e b;rw[<-e,Hs (by omega)] at h;simp at h
 .exact h
theorem uT:∀(l:List Int) (is:List Bool),dT is (jJ is l)
 | [],is=>.refl _
 | n::l,is=>(dT.set is n.toNat).trans (uT l _)
theorem kz (comes:aI->List Bool->List Int):∀(rules:List aI) (is:List Bool),dT is (bP comes rules is)
 | [],is=>.refl _
 | r::rs,is=>(uT _ _).trans (kz comes rs _)
def cA (a:List Bool):Nat:=a.countP λx=>x
theorem pB (a:List Bool):cA a<=a.length:=List.countP_le_length
theorem dT.cA:∀ {a b:List Bool},dT a b->cA a<=cA b/\(cA a=cA b->a=b)
 | [],[],_=>⟨GX _,λ_=>rfl⟩
 | [],_::_,h=>by simp[dT] at h
 | _::_,[],h=>by simp[dT] at h
 | x::a,y::b,h=>by
  have c:x=true->y=true:=λe=>by have:=h.2 0 (by simpa using e);simpa using this
  obtain⟨f,d⟩:=dT.cA (a:=a) (b:=b) ⟨by simpa using h.1,λi hi=>by have:=h.2 (i+1) (by simpa using hi);simpa using this⟩
  unfold Gv.cA at f d ⊢
  simp only[List.countP_cons]
  cases x with
  | true =>
   have:=c rfl;subst this
   simp only[if_true]
   exact⟨by omega,λe=>by rw[d (by omega)]⟩
  | false =>
   cases y with
   | false=>simp only[Hc,if_false];exact⟨by omega,λe=>by rw[d (by omega)]⟩
   | true=>simp only[Hc,if_false,if_true];exact⟨by omega,λe=>by omega⟩
def dH (comes:aI->List Bool->List Int) (rules:List aI):Nat->List Bool->List Bool
 | 0,is=>is
 | k+1,is=>if bP comes rules is=is then is else dH comes rules k (bP comes rules is)
theorem m4 (comes:aI->List Bool->List Int) (rules:List aI):∀(k:Nat) (is:List Bool),is.length<=cA is+k->bP comes rules (dH comes rules k is)=dH comes rules k is/\dT is (dH comes rules k is)
 | 0,is,h=>by
  have a:=kz comes rules is
  have c:=pB (bP comes rules is)
  have b:=a.cA
  rw[<-a.1] at c
  have d:=pB is
  exact⟨(b.2 (by omega)).symm,.refl _⟩
 | k+1,is,h=>by
  simp only[dH]
  by_cases e:bP comes rules is=is
  .rw[GZ e];exact⟨e,.refl _⟩
  .rw[GV e]
   have a:=kz comes rules is
   have b:=a.cA
   have:cA is<cA (bP comes rules is):=by
    rcases Ho (cA is) (cA (bP comes rules is)) with h | h
    .exact h
    .exact absurd (b.2 (by omega)).symm e
   obtain⟨g1,g2⟩:=m4 comes rules k (bP comes rules is) (by rw[<-a.1];omega)
   exact⟨g1,a.trans g2⟩
def mN:SC:=
 ai [af [cm 26 .lss 25 24],eY 26 (.exit 4),.block 5 (ai [af [b4 27 1 23 25,aG 28 27,ab 11 28],.region false [⟨none,[ab 29 7,ab 30 29]⟩,⟨(some (30,false)),[ab 31 1,ab 32 11,b4 33 1 31 32,aG 34 33,db 35 34]⟩,⟨none,[fY 36 30 35,ab 7 36]⟩],af [ab 37 1,ab 38 11,b4 39 1 37 38,(none,.op (.store 1 (.tmp 39) (.val (.val (.bool true)))))]]),af [aZ 40 .add 25 1,ab 25 40]]
def mT:SC:=
 ai [af [cm 17 .lss 16 15],eY 17 (.exit 2),.block 3 (ai [af [b4 18 3 14 16,c6 19 3 18,((some 9),.op (.alloc [(.val (.int .i64 0)),(.emp 1),(.val (.int .i64 0))])),gp 3 9 19],af [ab 20 2,c6 21 3 9,ab 22 1,((some 23),.call (.tmp 20) [(.tmp 21),(.tmp 22)]),bg 24 23,bR 25 0],fk 4 mN]),af [aZ 41 .add 16 1,ab 16 41]]
def jt:SC:=
 ai [ai [af [ab 12 7],eY 12 (.exit 0)],.block 1 (ai [af [bq 7 false],af [aO 13 2 3,aG 14 13,bg 15 14,bR 16 0],fk 2 mT])]
def pa:SF:=⟨ai [af [gU 3 0,dU 6 1],ai [af [bq 7 true],fk 0 jt],af [ab 42 1,ab 6 42],.ret],
 [.tmp 6],43⟩
theorem rr:aM aa 153 [3]=some pa:=by kernel_rfl
theorem CZ {is:List Bool} {i:Nat} (h:is.getD i false=true):is.set i true=is:=by
 apply List.ext_getElem?
 intro j
 simp only[GQ] at h
 rw[Ir]
 split
 .rename_i e;subst e
  split
  .rename_i a;rw[GR a] at h ⊢;simp at h;simp[h]
  .rename_i a;rw[Hs (by omega)] at h;simp at h
 .rfl
theorem zA {comes:aI->List Bool->List Int} {rules:List aI} {k:Nat} {is:List Bool} (h:bP comes rules is=is):dH comes rules k is=is:=by
 cases k with
 | zero=>rfl
 | succ k=>simp only[dH,h,if_true]
theorem zD {comes:aI->List Bool->List Int} {rules:List aI} {k:Nat} {is:List Bool} (h:¬ bP comes rules is=is) (c:is.length<=cA is+k):∃j,k=j+1/\dH comes rules k is=dH comes rules j (bP comes rules is)/\(bP comes rules is).length<=cA (bP comes rules is)+j:=by
 have a:=kz comes rules is
 have b:=a.cA
 have d:=pB (bP comes rules is)
 have:cA is<cA (bP comes rules is):=by
  rcases Ho (cA is) (cA (bP comes rules is)) with h | h
  .exact h
  .exact absurd (b.2 (by omega)).symm (by assumption)
 have e:=a.1
 obtain⟨j,rfl⟩:∃j,k=j+1:=⟨k-1,by omega⟩
 exact⟨j,rfl,by simp only[dH];rw[GV h],by omega⟩
theorem Cu {a is:List Bool} {i:Nat} {b:Bool} (hle:dT a is) (hi:i<is.length) (f:b = !decide (is=a)):(b || !is.getD i false) = !decide (is.set i true=a):=by
 cases c:is.getD i false with
 | true=>rw[CZ c,f];simp
 | false =>
  have:¬ is.set i true=a:=λe=>by
   have d:(is.set i true).getD i false=true:=by simp[GQ,hi]
   rw[e] at d
   have:=hle.2 i d
   rw[c] at this;simp at this
  simp[this]
theorem r6 (g:ay) (hr:g.rules.length<=40) (comes:aI->List Bool->List Int) (f:FuncId) (u E:List V) (bl:ba aa f=true) (N:Nat) (hN:N<=16)
  (hc:∀r∈g.rules,∀is:List Bool,is.length=N->aT aa f (.agg (aK r)::cp is::E) (encI (comes r is))/\(comes r is).length<=100/\∀n∈comes r is,eW n/\0<=n/\n<N)
  (id:Nat) (B:List Bool) (bn:B.length=N) (H:View) (hH:H id=.arr 1 (ep B)) (Q:∀H':View,(∀k,H k≠.dead->k≠id->H' k=H k)->iO H' u E):
  ar aa 153 [.agg (ax g),.sl id 0 N 1,.fn f [] u] H λr H'=>r=.sl id 0 N 1/\H' id=.arr 1 (ep (dH comes g.rules 16 B))/\∀k,H k≠.dead->k≠id->H' k=H k:=by
 refine ar.of mixed rr ?_
 simp(disch:=omega)only[↓wr,seval,wq,pa,ax,encS]
 refine bH.intro (λk T H'=>∃is:List Bool,is.length=N/\H' id=.arr 1 (ep is)/\(∀k,H k≠.dead->k≠id->H' k=H k)/\T 1=.sl id 0 N 1/\T 2=.fn f [] u/\T 3=.aC (ax g) 0 /\
  ((T 7=gb true/\∃j,k=j+1/\dH comes g.rules j is=dH comes g.rules 16 B/\N<=cA is+j)∨(T 7=gb false/\is=dH comes g.rules 16 B))) 17 ?_ ?_
 .exact⟨B,bn,hH,λ_ _ _=>rfl,rfl,rfl,rfl,.inl ⟨rfl,16,rfl,rfl,by omega⟩⟩
 rintro k T H1 ⟨is,hlen,p,s,t1,t2,t3,v⟩
 rcases v with ⟨v,j,rfl,L,hj⟩ | ⟨v,L⟩
 .simp(disch:=omega)only[↓wr,seval,wq,jt,t1,t2,t3,v,ax,encS]
  refine bH.up g.rules.length (λi T H'=>∃c:List Bool,c.length=N/\dT is c/\c=(g.rules.take i).foldl (stepG comes) is/\H' id=.arr 1 (ep c)/\(∀k,H k≠.dead->k≠id->H' k=H k)/\T 1=.sl id 0 N 1/\T 2=.fn f [] u/\T 3=.aC (ax g) 0 /\
   T 7=gb (!decide (c=is))/\T 14=.al (g.rules.map aK)/\T 15=gi g.rules.length/\T 16=gi i) ?_ ?_
  .exact⟨is,hlen,.refl _,rfl,p,s,t1,t2,t3,by simp;rfl,rfl,rfl,rfl⟩
  clear t1 t2 t3 v p s
  rintro i k T H1 F ⟨c,t,Y,R,p,s,t1,t2,t3,v,d,m,o⟩
  simp(disch:=omega)only[↓wr,seval,wq,mT,t1,t2,t3,v,d,m,o,ax,encS]
  apply aj.dec<;>intro bs
  .have S:g.rules[i]?=some (g.rules[i]'(by omega)):=GR (by omega)
   have P:g.rules[i]'(by omega)∈g.rules:=G4 _
   have Z:(g.rules.take (i+1)).foldl (stepG comes) is=stepG comes ((g.rules.take i).foldl (stepG comes) is) (g.rules[i]'(by omega)):=by
    rw[Hn,S,List.foldl_append];rfl
   generalize g.rules[i]'(by omega)=r at S P Z
   obtain⟨bx,b0,ao⟩:=hc r P c t
   simp(disch:=omega)only[↓wr,seval,wq,t1,t2,t3,v,d,m,o,aK,encI,GY,S]
   intro b U
   have G:b≠id:=by rintro rfl;rw[p] at U;simp at U
   try simp(disch:=omega)only[↓wr,seval,wq,t1,t2,t3,v,d,m,o]
   refine av.Fk bx bl ⟨dY.tree (dD _ (cG r)),yS (by simp[View.set,G.symm,p]) t.symm,Q _ (λk F w=>?_)⟩ ?_
   .have W:k≠b:=by
     rintro rfl
     rw[s k F w] at U
     exact F U
    simp[View.set,W,s k F w]
   generalize hl:comes r c=l at b0 ao
   simp(disch:=omega)only[↓wr,seval,wq,t1,t2,t3,v,d,m,o,encI]
   refine bH.up l.length (λq T H'=>∃a:List Bool,a.length=N/\dT is a/\a=jJ c (l.take q)/\H' id=.arr 1 (ep a)/\(∀k,H k≠.dead->k≠id->H' k=H k)/\T 1=.sl id 0 N 1/\T 2=.fn f [] u/\T 3=.aC (ax g) 0 /\
    T 7=gb (!decide (a=is))/\T 14=.al (g.rules.map aK)/\T 15=gi g.rules.length/\T 16=gi i/\T 23=encI l/\T 24=gi l.length/\T 25=gi q) ?_ ?_
   .refine⟨c,t,Y,rfl,by simp[View.set,G.symm,p],λk F w=>?_,t1,t2,t3,v,d,m,o,rfl,rfl,rfl⟩
    have W:k≠b:=by
     rintro rfl
     rw[s k F w] at U
     exact F U
    simp[View.set,W,s k F w]
   clear t1 t2 t3 v d m o p s U G
   rintro q k2 T H1 b1 ⟨a,I,J,K,p,s,t1,t2,t3,v,d,m,o,y,z,C⟩
   simp(disch:=omega)only[↓wr,seval,wq,mN,t1,t2,t3,v,d,m,o,y,z,C,encI]
   apply aj.dec<;>intro b2
   .have X:l[q]?=some (l[q]'(by omega)):=GR (by omega)
    have a6:l[q]'(by omega)∈l:=G4 _
    have a8:jJ c (l.take (q+1))=(jJ c (l.take q)).set (l[q]'(by omega)).toNat true:=by
     unfold jJ;rw[Hn,X,List.foldl_append];rfl
    generalize l[q]'(by omega)=n at X a6 a8
    obtain⟨⟨n1,n2⟩,n3,n4⟩:=ao n a6
    have bk:a.getD n.toNat false=a[n.toNat]'(by omega):=by simp[GQ,show n.toNat<a.length by omega]
    have A:=Cu J (show n.toNat<a.length by omega) (b:=!decide (a=is)) rfl
    rw[bk] at A
    have M:=sX (show n.toNat<a.length by omega)
    generalize a[n.toNat]'(by omega)=x at A M bk
    have fin:∀(D:Env),D 7=gb (!decide (a.set n.toNat true=is))->D 1=.sl id 0 N 1->D 2=.fn f [] u->D 3=.aC (ax g) 0->D 14=.al (g.rules.map aK)->D 15=gi g.rules.length->D 16=gi i->D 23=encI l->D 24=gi l.length->D 25=gi ((q:Int)+1) ->
      ∃k',k'<k2/\xS l.length k' (λq T H'=>∃a:List Bool,a.length=N/\dT is a/\a=jJ c (l.take q)/\H' id=.arr 1 (ep a)/\(∀k,H k≠.dead->k≠id->H' k=H k)/\T 1=.sl id 0 N 1/\T 2=.fn f [] u/\T 3=.aC (ax g) 0 /\
       T 7=gb (!decide (a=is))/\T 14=.al (g.rules.map aK)/\T 15=gi g.rules.length/\T 16=gi i/\T 23=encI l/\T 24=gi l.length/\T 25=gi q) D (H1.set id (.arr 1 (ep (a.set n.toNat true)))):=by
     intro D a7 a1 a2 a3 b8 b9 ca a23 a24 a25
     refine bC b1 (by omega) ⟨a.set n.toNat true,by simp[I],J.trans (.set _ _),by rw[a8,<-K],by simp[View.set],λk F w=>by simp[View.set,w,s k F w],a1,a2,a3,a7,b8,b9,ca,a23,a24,by rw[a25];rfl⟩
    simp(disch:=omega)only[↓wr,seval,wq,t1,t2,t3,v,d,m,o,y,z,C,encI,GY,X]
    apply aj.dec<;>intro e
    .simp(disch:=omega)only[↓wr,seval,wq,t1,t2,t3,v,d,m,o,y,z,C,encI,p,M,G8]
     refine⟨by omega,by omega,?_⟩
     try simp(disch:=omega)only[↓wr,seval,wq,t1,t2,t3,v,d,m,o,y,z,C,encI,p,M,G8]
     refine⟨by omega,by omega,?_⟩
     rw[nk]
     exact fin _ (by rw[<-A];simp[e];rfl) t1 t2 t3 d m o y z rfl
    .simp(disch:=omega)only[↓wr,seval,wq,t1,t2,t3,v,d,m,o,y,z,C,encI,p,M,G8]
     refine⟨by omega,by omega,?_⟩
     rw[nk]
     exact fin _ (by rw[<-A];simp[e];rfl) t1 t2 t3 d m o y z rfl
   .rw[G9 (by omega)] at K
    simp(disch:=omega)only[↓wr,seval,wq,t1,t2,t3,v,d,m,o,y,z,C]
    refine bC F (by omega) ⟨a,I,J,?_,p,s,t1,t2,t3,v,d,m,rfl⟩
    rw[Z,<-R,stepG,hl,<-K]
  .rw[G9 (by omega)] at R
   simp(disch:=omega)only[↓wr,seval,wq,t1,t2,t3,v,d,m,o]
   have O:c=bP comes g.rules is:=R
   by_cases e:c=is
   .refine⟨0,by omega,c,t,p,s,rfl,.inr ⟨by simp[e],?_⟩⟩
    rw[<-L,e]
    exact(zA (by rw[<-O];exact e)).symm
   .obtain⟨j2,rfl,e2,e3⟩:=zD (k:=j) (λh=>e (O.trans h)) (by rw[hlen];exact hj)
    refine⟨j2+1,by omega,c,t,p,s,rfl,.inl ⟨by simp[e],j2,rfl,?_,?_⟩⟩
    .rw[<-L,e2,O]
    .rw[<-O,t] at e3;exact e3
 .simp(disch:=omega)only[↓wr,seval,wq,jt,t1,t2,t3,v,ax,encS]
  exact⟨L▸p,s⟩
theorem pf {α:Type} {f:α->α} {x:α} (h:f x=x):∀n,iter f n x=x
 | 0=>rfl
 | n+1=>by rw[iter,h,pf h n]
theorem vf {α:Type} (f:α->α):∀(a b:Nat) (x:α),iter f (a+b) x=iter f b (iter f a x)
 | 0,b,x=>by rw[Hy];rfl
 | a+1,b,x=>by rw[Nat.add_right_comm,iter,iter,vf f a b]
theorem qN (comes:aI->List Bool->List Int) (rules:List aI):∀(k:Nat) (is:List Bool),dH comes rules k is=iter (bP comes rules) k is
 | 0,is=>rfl
 | k+1,is=>by
  simp only[dH,iter]
  by_cases e:bP comes rules is=is
  .rw[GZ e,e,pf e]
  .rw[GV e,qN comes rules k]
theorem mZ (comes:aI->List Bool->List Int) (rules:List aI) (is:List Bool) (h:is.length<=16):dH comes rules 16 is=iter (bP comes rules) is.length is:=by
 have a:=(m4 comes rules is.length is (by omega)).1
 rw[qN] at a ⊢
 obtain⟨m,hm⟩:∃m,16=is.length+m:=⟨16-is.length,by omega⟩
 rw[hm,vf,pf a]
def iw (t:Bool) (r:aI) (is:List Bool):List Int:=if eM r.right is t=true then [r.left] else []
def ke (p:List Bool) (r:aI) (is:List Bool):List Int:=if (is.getD r.left.toNat false&&eM r.right p true)=true then du r.right else []
theorem Ea (g:ay) (t:Bool):bP (iw t) g.rules=ln g t:=by
 funext is
 unfold bP ln
 congr 1
 funext is r
 unfold stepG iw ic
 split<;>rfl
theorem qO:∀(l:List Int) (is:List Bool),jJ is (du l)=l.foldl mark is
 | [],is=>rfl
 | s::l,is=>by
  have a:=qO l
  unfold jJ du at a ⊢
  rw[H0,<-a]
  unfold mark
  by_cases h:s<0
  .rw[GZ h,List.filter_cons_of_pos (by simpa using h)];rfl
  .rw[GV h,List.filter_cons_of_neg (by simpa using h)]
theorem yq (g:ay) (p:List Bool):bP (ke p) g.rules=m9 g p:=by
 funext is
 unfold bP m9
 congr 1
 funext is r
 unfold stepG ke ib
 split
 .exact qO _ _
 .rfl
theorem AU {g:ay} (h:bQ g=true) (t:Bool):dH (iw t) g.rules 16 (bI g)=aL g t:=by
 have a:=b3 h
 have b:(bI g).length=g.aB.length:=by simp[bI]
 have:=a.aB
 rw[mZ _ _ _ (by rw[b];exact a.aB),Ea,b,aL,GZ h]
theorem BR {g:ay} (h:bQ g=true):dH (ke (aL g true)) g.rules 16 ((bI g).set g.start.toNat true)=bE g:=by
 have b:=b3 h
 have a:((bI g).set g.start.toNat true).length=g.aB.length:=by simp[bI]
 rw[mZ _ _ _ (by rw[a];exact b.aB),yq,a,bE,GZ h]
def ko:SF:=⟨ai [af [gU 1 0,dU 2 1],ai [af [c6 3 4 1,bX 4 17 [3],db 5 4],bV 5 (ai [af [dU 2 1],.ret])],af [c6 6 4 1,aO 7 1 1,aG 8 7,bg 9 8,((some 10),.op (.make 1 1 [(.val (.bool false))] (.tmp 9) (.tmp 9))),mM 11 153 [(.tmp 6),(.tmp 10),(.val (.fn 231 [] []))],ab 2 11],.ret],
 [.tmp 2],12⟩
theorem n0:aM aa 191 [1]=some ko:=by kernel_rfl
def jA:SF:=⟨ai [af [gU 1 0,dU 2 1],ai [af [c6 3 4 1,bX 4 17 [3],db 5 4],bV 5 (ai [af [dU 2 1],.ret])],af [c6 6 4 1,aO 7 1 1,aG 8 7,bg 9 8,((some 10),.op (.make 1 1 [(.val (.bool false))] (.tmp 9) (.tmp 9))),mM 11 153 [(.tmp 6),(.tmp 10),(.val (.fn 154 [] []))],ab 2 11],.ret],
 [.tmp 2],12⟩
theorem mn:aM aa 91 [1]=some jA:=by kernel_rfl
def kc:SF:=⟨ai [af [gU 1 0,dU 2 1],ai [af [c6 5 4 1,bX 6 17 [5],db 7 6],bV 7 (ai [af [dU 2 1],.ret])],af [c6 8 4 1,bX 9 91 [8],((some 3),.op (.alloc [(.emp 1)])),gp 1 3 9],af [aO 10 1 1,aG 11 10,bg 12 11,((some 13),.op (.make 1 1 [(.val (.bool false))] (.tmp 12) (.tmp 12))),ab 4 13],af [ab 14 4,aO 15 3 1,aG 16 15,b4 17 1 14 16,(none,.op (.store 1 (.tmp 17) (.val (.val (.bool true)))))],af [c6 18 4 1,ab 19 4,((some 20),.op (.nu 155 [] [(.tmp 3)])),bX 21 153 [18,19,20],ab 2 21],.ret],
 [.tmp 2],22⟩
theorem mV:aM aa 92 [1]=some kc:=by kernel_rfl
structure ay.Small (g:ay):Prop where
 names:g.aB.length+g.an.length<=1000
theorem nY {a:ah} {id n:Nat} {is:List Bool} (b:a.view id=.arr 1 (ep is)) (c:n=is.length):dz a (.sl id 0 n 1) (cp is):=by
 subst c;exact BA b
theorem vY (g:ay) (d:g.Ok) (i:g.Small):aT aa 191 [.agg (ax g)] (cp (aL g false)):=by
 refine aT.of (dM g) ?_
 refine ar.of mixed n0 ?_
 have j:=d.aB
 unfold aF at j
 simp(disch:=omega)only[↓wr,seval,wq,ko,ax,encS]
 refine av.pure (gS g d i.names) ?_
 repeat' (first | ((first|apply aj.dec|apply aj.eq|apply aj.ne|apply aj.split)<;>intro)|(simp(disch:=omega)only[↓wr,seval,wq,ax,encS]))
 .rename_i hr
  have b:=b3 hr
  have o:=b.tM
  have k:=b.aB
  try simp(disch:=omega)only[↓wr,seval,wq,ax,encS]
  refine⟨⟨by omega,by unfold aD;omega,by unfold aD;omega⟩,λh=>by omega,?_⟩
  intro _ n
  try simp(disch:=omega)only[↓wr,seval,wq,ax,encS]
  refine av.tZ ((r6 g b.rules (iw false) 231 [] [] (by kernel_rfl) g.aB.length k (λr a is e=>⟨uW r is (by rw[e];exact b.nH d a),?_,?_⟩) n (bI g) (by simp[bI]) _ (by simp[View.set,bI]) (λH' _=>trivial)).mono ?_)
  .unfold iw;split<;>simp
  .intro m hm
   unfold iw at hm
   split at hm
   .simp only[HH] at hm;subst hm
    exact⟨(d.nC r a).1,b.left r a⟩
   .simp at hm
  .rintro r H' ⟨rfl,c,_⟩
   simp(disch:=omega)only[↓wr,seval,wq]
   intro l f
   rw[AU hr] at c
   exact nY (by rw[f];exact c) (iN hr _).symm
 .rename_i hr
  intro l f
  simp only[aL,hr]
  exact .emp _
theorem lC (g:ay) (d:g.Ok) (i:g.Small):aT aa 91 [.agg (ax g)] (cp (aL g true)):=by
 refine aT.of (dM g) ?_
 refine ar.of mixed mn ?_
 have j:=d.aB
 unfold aF at j
 simp(disch:=omega)only[↓wr,seval,wq,jA,ax,encS]
 refine av.pure (gS g d i.names) ?_
 repeat' (first | ((first|apply aj.dec|apply aj.eq|apply aj.ne|apply aj.split)<;>intro)|(simp(disch:=omega)only[↓wr,seval,wq,ax,encS]))
 .rename_i hr
  have b:=b3 hr
  have o:=b.tM
  have k:=b.aB
  try simp(disch:=omega)only[↓wr,seval,wq,ax,encS]
  refine⟨⟨by omega,by unfold aD;omega,by unfold aD;omega⟩,λh=>by omega,?_⟩
  intro _ n
  try simp(disch:=omega)only[↓wr,seval,wq,ax,encS]
  refine av.tZ ((r6 g b.rules (iw true) 154 [] [] (by kernel_rfl) g.aB.length k (λr a is e=>⟨rE r is (by rw[e];exact b.nH d a),?_,?_⟩) n (bI g) (by simp[bI]) _ (by simp[View.set,bI]) (λH' _=>trivial)).mono ?_)
  .unfold iw;split<;>simp
  .intro m hm
   unfold iw at hm
   split at hm
   .simp only[HH] at hm;subst hm
    exact⟨(d.nC r a).1,b.left r a⟩
   .simp at hm
  .rintro r H' ⟨rfl,c,_⟩
   simp(disch:=omega)only[↓wr,seval,wq]
   intro l f
   rw[AU hr] at c
   exact nY (by rw[f];exact c) (iN hr _).symm
 .rename_i hr
  intro l f
  simp only[aL,hr]
  exact .emp _
theorem kW {g:ay} (hr:bQ g=true):(bE g).length=g.aB.length:=by
 rw[bE,GZ hr,pw (f:=m9 g (aL g true)) (λis=>pz (λis x=>AD _ is x) g.rules is)]
 simp[bI]
theorem tt (g:ay) (f:g.Ok) (w:g.Small):aT aa 92 [.agg (ax g)] (cp (bE g)):=by
 refine aT.of (dM g) ?_
 refine ar.of mixed mV ?_
 have A:=f.aB
 unfold aF at A
 simp(disch:=omega)only[↓wr,seval,wq,kc,ax,encS]
 refine av.pure (gS g f w.names) ?_
 repeat' (first | ((first|apply aj.dec|apply aj.eq|apply aj.ne|apply aj.split)<;>intro)|(simp(disch:=omega)only[↓wr,seval,wq,ax,encS]))
 .rename_i hr
  have d:=b3 hr
  have D:=d.tM
  have B:=d.aB
  have E:=d.pW
  have F:=d.start
  have p:=iN hr true
  try simp(disch:=omega)only[↓wr,seval,wq,ax,encS]
  refine av.pure (lC g f w).pure ?_
  simp(disch:=omega)only[↓wr,seval,wq,ax,encS,cp]
  intro q
  try simp(disch:=omega)only[↓wr,seval,wq,ax,encS,set_set]
  refine⟨⟨by omega,by unfold aD;omega,by unfold aD;omega⟩,λh=>by omega,?_⟩
  intro _ n t
  have e:=(dK t dS).1
  try simp(disch:=omega)only[↓wr,seval,wq,ax,encS,set_set]
  have i:=sX (is:=bI g) (show g.start.toNat<(bI g).length by simp[bI];omega)
  refine⟨by omega,by simp;omega,?_⟩
  refine av.tZ ((r6 g d.rules (ke (aL g true)) 155 [.ptr q 0 0] [.aC [cp (aL g true)] 0] (by kernel_rfl) g.aB.length B (λr c is j=>⟨tv r is (aL g true) (by rw[j];exact d.nH f c) (by rw[j,p]),?_,?_⟩) n ((bI g).set g.start.toNat true) (by simp[bI]) _ ?_ (λH' u=>⟨dY.box (z:=1) ?_ ?_,trivial⟩)).mono ?_)
  .have G:=d.right r c
   unfold ke
   split
   .have:(du r.right).length<=r.right.length:=by simp only[du,G8];exact List.length_filter_le _ _
    omega
   .simp
  .intro m hm
   unfold ke at hm
   split at hm
   .simp only[du,HL,Ig,G7] at hm
    obtain⟨s,⟨k,l⟩,rfl⟩:=hm
    have a:=d.neg c k l
    have b:=((f.nC r c).2.2.2 s k).1
    exact⟨⟨by omega,by omega⟩,by omega,a⟩
   .simp at hm
  .simp only[View.set,if_true]
   congr 1
   rw[<-nk]
   unfold bI at i ⊢
   rw[Ao,i]
   rfl
  .rw[u q (by simp[View.set,Ne.symm e]) (Ne.symm e)]
   simp[View.set,Ne.symm e]
   rfl
  .intro v x;simp at x;subst x;exact gP _
  .rintro r H' ⟨rfl,o,_⟩
   simp(disch:=omega)only[↓wr,seval,wq]
   intro C y
   rw[BR hr] at o
   exact nY (by rw[y];exact o) (by rw[kW hr])
 .rename_i hr
  intro C y
  simp only[bE,hr]
  exact .emp _
def cE (p q:List Bool) (r:aI):Bool:=q.getD r.left.toNat false&&eM r.right p true
def b7 (p q:List Bool):List aI->Int->List Int
 | [],_=>[]
 | r::l,i=>if cE p q r=true then i::b7 p q l (i+1) else b7 p q l (i+1)
def kZ (acc:List Int) (r:aI):List Int:=if r.left∈acc then acc else acc++[r.left]
def cn (p q:List Bool) (l:List aI):List Int:=(l.filter (cE p q)).foldl kZ []
def kY (o:List Int) (x:Int):Int:=fg (λy=>y==x) o 0
def cb (f:Int->Int) (r:aI):aI:=⟨f r.left,r.right.map λs=>if s<0 then -1-f (-1-s) else s,r.prec⟩
def pI (g:ay) (f:Int->Int) (p q:List Bool):ay:=
 ⟨g.an,(cn p q g.rules).map λx=>g.aB.getD x.toNat ⟨#[]⟩,(g.rules.filter (cE p q)).map (cb f),f g.start⟩
def kr:ay:=⟨[],[],[],0⟩
instance:DecidableEq Term:=λa b=>decidable_of_iff (a.name=b.name/\a.level=b.level/\a.assoc=b.assoc) (by cases a;cases b;simp)
instance:DecidableEq aI:=λa b=>decidable_of_iff (a.left=b.left/\a.prec=b.prec/\a.right=b.right) (by cases a;cases b;simp[and_comm])
instance:DecidableEq ay:=λa b=>decidable_of_iff (a.an=b.an/\a.aB=b.aB/\a.rules=b.rules/\a.start=b.start) (by cases a;cases b;simp)
def gI (g:ay):ay × List Int × Int:=
 if bQ g=true then
  if (aL g true).getD g.start.toNat false=true then (pI g (kY (cn (aL g true) (bE g) g.rules)) (aL g true) (bE g),b7 (aL g true) (bE g) g.rules 0,0)
  else (kr,[],9)
 else (kr,[],1)
theorem j6 (p q:List Bool):∀(a b:List aI) (i:Int),b7 p q (a++b) i=b7 p q a i++b7 p q b (i+a.length)
 | [],b,i=>by simp[b7]
 | r::a,b,i=>by
  simp only[HF,b7,j6 p q a b (i+1),G5]
  grind
theorem kn (p q:List Bool):∀(a:List aI) (i:Int),(b7 p q a i).length=(a.filter (cE p q)).length
 | [],i=>rfl
 | r::a,i=>by
  simp only[b7,List.filter_cons]
  split<;>simp[kn p q a]
theorem m3 (p q:List Bool):∀(a:List aI) (i:Int) (k:Nat),k<(b7 p q a i).length->∃m:Nat,(b7 p q a i)[k]?=some (i+m)/\a[m]?=(a.filter (cE p q))[k]?/\m<a.length
 | [],i,k,h=>by simp[b7] at h
 | r::a,i,k,h=>by
  simp only[b7,List.filter_cons] at h ⊢
  by_cases hr:cE p q r=true
  .rw[GZ hr] at h ⊢
   rw[GZ hr]
   cases k with
   | zero=>grind
   | succ k =>
    obtain⟨m,b,c,d⟩:=m3 p q a (i+1) k (by simpa using h)
    exact⟨m+1,by rw[Hx,b];congr 1;push_cast;omega,by simpa using c,by simpa using d⟩
  .rw[GV hr] at h ⊢
   rw[GV hr]
   obtain⟨m,b,c,d⟩:=m3 p q a (i+1) k h
   exact⟨m+1,by rw[b];congr 1;push_cast;omega,by simpa using c,by simpa using d⟩
theorem te (p q:List Bool) (l:List aI) (r:aI):cn p q (l++[r])=if cE p q r=true then kZ (cn p q l) r else cn p q l:=by
 unfold cn
 grind
theorem Ct {o:List Int} {x:Int} : kY o x<0↔x ∉ o:=by
 have:=mc (λy=>y==x) o 0 (by omega)
 unfold kY
 grind
theorem DQ {o:List Int} {x:Int} (h:x∈o):0<=kY o x/\kY o x<o.length:=by
 have a:¬ kY o x<0:=λe=>Ct.1 e h
 refine⟨by omega,?_⟩
 unfold kY
 have:∀(l:List Int) (i:Int),fg (λz=>z==x) l i<i+l.length∨fg (λz=>z==x) l i = -1:=by
  intro l
  induction l with
  | nil=>intro i;right;rfl
  | cons z l b =>
   intro i
   simp only[fg]
   grind
 grind
def eU:List Int->Int->List (Int × Int)
 | [],_=>[]
 | x::l,i=>(x,i)::eU l (i+1)
theorem kH (x:Int):∀(o:List Int) (i:Int),bU (eU o i) x=if x∈o then some (fg (λy=>y==x) o i) else none
 | [],i=>by simp[eU,bU]
 | y::o,i=>by
  have a:=kH x o (i+1)
  unfold bU at a ⊢
  simp only[eU,List.find?_cons,fg]
  grind
theorem sy {x v:Int}:∀ {o:List Int} {i:Int},x ∉ o->fG x v (eU o i)=eU o i++[(x,v)]
 | [],i,_=>rfl
 | y::o,i,h=>by
  simp only[Hi,not_or] at h
  simp only[eU,fG,show (x==y)=false by simp[h.1],Hc,if_false,sy h.2,HF]
theorem q5 {x:Int}:∀ {o:List Int} {i:Int},eU (o++[x]) i=eU o i++[(x,i+o.length)]
 | [],i=>by simp[eU]
 | y::o,i=>by
  simp only[HF,eU,q5 (o:=o),G5]
  grind
def bO (o:List Int) (x:Int):Int:=(bU (eU o 0) x).getD 0
theorem oB {o:List Int} {x:Int} (h:x∈o):bO o x=kY o x:=by
 simp[bO,kH,h,kY]
theorem Eu (o:List Int) (x:Int):0<=bO o x/\bO o x<=o.length:=by
 by_cases h:x∈o
 .rw[oB h];have:=DQ h;omega
 .simp[bO,kH,h]
theorem zZ {g:ay} {p q:List Bool} (a:g.start∈cn p q g.rules) (b:∀r∈g.rules.filter (cE p q),r.left∈cn p q g.rules/\∀s∈r.right,s<0->-1-s∈cn p q g.rules):
  pI g (bO (cn p q g.rules)) p q=pI g (kY (cn p q g.rules)) p q:=by
 unfold pI
 congr 1
 .apply List.map_congr_left
  intro r hr
  obtain⟨c,d⟩:=b r hr
  unfold cb
  congr 1
  .exact oB c
  .apply List.map_congr_left
   intro s e
   split
   .rename_i h;rw[oB (d s e h)]
   .rfl
 .exact oB a
theorem lG:∀(l:List aI) (acc:List Int) (x:Int),x∈l.foldl kZ acc↔x∈acc∨∃r∈l,r.left=x
 | [],acc,x=>by simp
 | r::l,acc,x=>by
  rw[H0,lG l]
  have:x∈kZ acc r↔x∈acc∨r.left=x:=by
   unfold kZ
   grind
  grind
theorem vT {p q:List Bool} {l:List aI} {x:Int} : x∈cn p q l↔∃r∈l,cE p q r=true/\r.left=x:=by
 unfold cn
 rw[lG]
 grind
abbrev cq (l:List Int):List (List V):=l.map λx=>[gi x]
abbrev kN (l:List ByteArray):List (List V):=l.map λs=>[gs s]
theorem pr {l:List Int} {i:Nat} (h:i<l.length):(cq l).getD i []=[gi l[i]]:=by simp[GQ,h]
theorem ints_set (l:List Int) (i:Nat) (x:Int):(cq l).set i [gi x]=cq (l.set i x):=by simp[List.map_set]
abbrev p8:=List (V × aI)
def fv (b:p8):List (List V):=b.map λx=>[gi x.2.left,x.1,gi x.2.prec]
def lK (b:p8):List eK:=b.map λx=>(x.1,1,cq x.2.right)
theorem z7 {h:ah} {u:V} {b:p8} (c:aJ h.view u 3 (fv b)) (f:∀x∈lK b,aJ h.view x.1 x.2.1 x.2.2):dz h u (.al ((b.map (·.2)).map aK)):=by
 refine dz.own c (by simp[fv]) (λi hi=>?_) (λi j hi a=>?_)
 all_goals
  simp only[fv,G8] at hi
  have e:(fv b).getD i []=[gi b[i].2.left,b[i].1,gi b[i].2.prec]:=by simp[fv,GQ,hi]
  have d:((b.map (·.2)).map aK).getD i []=aK b[i].2:=by simp[GQ,hi]
 .rw[e,d];rfl
 .rw[e,d]
  rw[d] at a
  have hm:b[i]∈b:=G4 _
  have c:=f (b[i].1,1,cq b[i].2.right) (HL.2 ⟨_,hm,rfl⟩)
  match j,a with
  | 0,_=>exact .val _
  | 1,_=>exact kf c
  | 2,_=>exact .val _
  | n+3,a=>exact absurd a (by simp only[aK,G5,Hh];omega)
theorem Cf {h:ah} {u:V} {l:List ByteArray} (a:aJ h.view u 1 (kN l)):dz h u (encS l):=dz.ud (f:=Value.string) a
theorem z1 {h:ah} {u:V} {l:List Term} (b:aJ h.view u 3 (l.map cd)):dz h u (bY l):=by
 refine dz.own b rfl (λ_ _=>rfl) (λi j hi a=>?_)
 simp only[G8] at hi
 have c:(l.map cd).getD i []=cd l[i]:=by simp[GQ,hi]
 rw[c] at a ⊢
 match j,a with
 | 0,_=>exact .val _
 | 1,_=>exact .val _
 | 2,_=>exact .val _
 | n+3,a=>exact absurd a (by simp only[cd,G5,Hh];omega)
def nf (x:ay × List Int × Int):V:=.aA [.agg (ax x.1),encI x.2.1,gi x.2.2]
theorem u7 {h:ah} {e:Int} {b k2 c d:Nat} : dz h (.aA [.agg [.emp b,.emp k2,.emp c,gi 0],.emp d,gi e]) (nf (kr,[],e)):=by
 refine .aA _ _ rfl λi hi=>?_
 match i,hi with
 | 0,_ =>
  refine .agg _ _ rfl λj a=>?_
  match j,a with
  | 0,_=>exact .emp _
  | 1,_=>exact .emp _
  | 2,_=>exact .emp _
  | 3,_=>exact .val _
  | n+4,a=>exact absurd a (by simp only[G5,Hh];omega)
 | 1,_=>exact .emp _
 | 2,_=>exact .val _
 | n+3,hi=>exact absurd hi (by simp only[G5,Hh];omega)
theorem D9 {h:ah} {c d e f:V} {x:ay × List Int × Int} {b:p8} (g:aJ h.view c 3 (x.1.an.map cd)) (k:aJ h.view d 1 (kN x.1.aB)) (l:aJ h.view e 3 (fv b)) (m:∀y∈lK b,aJ h.view y.1 y.2.1 y.2.2)
  (hr:b.map (·.2)=x.1.rules) (o:aJ h.view f 1 (cq x.2.1)):dz h (.aA [.agg [c,d,e,gi x.1.start],f,gi x.2.2]) (nf x):=by
 refine .aA _ _ rfl λi hi=>?_
 match i,hi with
 | 0,_ =>
  refine .agg _ _ rfl λj a=>?_
  match j,a with
  | 0,_=>exact z1 g
  | 1,_=>exact Cf k
  | 2,_=>have:=z7 l m;rw[hr] at this;exact this
  | 3,_=>exact .val _
  | n+4,a=>exact absurd a (by simp only[G5,Hh];omega)
 | 1,_=>exact kf o
 | 2,_=>exact .val _
 | n+3,hi=>exact absurd hi (by simp only[G5,Hh];omega)
theorem ir {P:Program} {t:TypeId} {d:TypeDesc} (hu:P.underlying t=some d) (a:d=.string∨∃k,d=.int k) (cs:Array Value) (off:Nat) {v:Value} (b:cs[off]?=some v):aH P (part t cs off)=some v:=by
 have c:aH P (isAgg t)=some false:=by
  rcases a with rfl | ⟨k,rfl⟩
  all_goals simp only[isAgg,aE,cD hu,Hj];rfl
 simp only[part,aE,c,Hj,Hc,if_false,b]
 rfl
inductive dV (P:Program) (d:Nat) (xs ys:Array Value):List Field->Bool->Prop
 | nil:dV P d xs ys [] true
 | str (f:Field) (l:List Field) (c:Bool) (a b:ByteArray):(f.name≠ "_")->P.underlying f.type=some .string->xs[f.offset]?=some (.string a)->ys[f.offset]?=some (.string b)->dV P d xs ys l c->dV P d xs ys (f::l) (a==b&&c)
 | int (f:Field) (l:List Field) (c:Bool) (k:IntKind) (a b:Int):(f.name≠ "_")->P.underlying f.type=some (.int k)->xs[f.offset]?=some (.int k a)->ys[f.offset]?=some (.int k b)->dV P d xs ys l c->dV P d xs ys (f::l) (a==b&&c)
theorem dV.forIn {P:Program} {d e:Nat} {xs ys:Array Value} {l:List Field} {c:Bool} (h:dV P d xs ys l c) (n:e=d+1):
  aH P (forIn l ((none:Option Bool),()) λf _ =>
    if f.name≠ "_" then do
     let a <-part f.type xs f.offset
     let b <-part f.type ys f.offset
     let e <-Op.equalIn e f.type a b
     if (!e)=true then pure (ForInStep.done (some false,())) else pure (ForInStep.yield (none,()))
    else pure (ForInStep.yield (none,())))=some (if c=true then (none,()) else (some false,())):=by
 subst n
 induction h with
 | nil=>rfl
 | str f l c a b g hu i j _ m =>
  have he:aH P (Op.equalIn (d+1) f.type (.string a) (.string b))=some (a==b):=by
   simp only[Op.equalIn,aE,cD hu,Hj];rfl
  rw[List.forIn_cons,aE,GZ g,aE,ir hu (.inl rfl) xs _ i,Hj,aE,ir hu (.inl rfl) ys _ j,Hj,aE,he,Hj]
  cases a==b with
  | false=>rfl
  | true=>exact m
 | int f l c k a b g hu i j _ m =>
  have he:aH P (Op.equalIn (d+1) f.type (.int k a) (.int k b))=some (a==b):=by
   simp only[Op.equalIn,aE,cD hu,Hj];rfl
  rw[List.forIn_cons,aE,GZ g,aE,ir hu (.inr ⟨k,rfl⟩) xs _ i,Hj,aE,ir hu (.inr ⟨k,rfl⟩) ys _ j,Hj,aE,he,Hj]
  cases a==b with
  | false=>rfl
  | true=>exact m
theorem pO {P:Program} {t:TypeId} {b:Array Field} {xs ys:Array Value} {c:Bool} (hu:P.underlying t=some (.struct b)) (d:P.stoodInHeld t=false) (h:dV P 9998 xs ys b.toList c):
  aH P (Op.equal t (.agg xs) (.agg ys))=some c:=by
 rw[fV]
 rw[Op.equalIn,aE,cD hu,Hj]
 have a:(aH P program)=some P:=rfl
 rw[aE,a,Hj,d]
 simp only[<-Array.forIn_toList,Hc,if_false]
 rw[aE,h.forIn (e:=9999) rfl,Hj]
 cases c<;>rfl
theorem rC {P:Program} {o:Oper} {T:Env} {op:BinOp} {t u:TypeId} {x y:Operand} {f:Array Field} {xs ys:Array Value} {c r:Bool} (b:o.op=.binOp op t x y u) (hu:P.underlying t=some (.struct f)) (i:P.stoodInHeld t=false) (g:P.eqGuardType P.depth t=false)
  (d:bz (ev T x)=some (.agg xs)) (e:bz (ev T y)=some (.agg ys)) (h:dV P 9998 xs ys f.toList c) (hr:(op=.eql/\r=c)∨(op=.neq/\r = !c)):
  bJ P o T=some (.val (.bool r),.none,[]):=by
 have he:=pO hu i h
 have a:(aH P program)=some P:=rfl
 unfold bJ
 simp only[b,Op.operands,d,e]
 rcases hr with ⟨rfl,rfl⟩ | ⟨rfl,rfl⟩
 .simp[execOp,b,d,e,eqGuard,binOp,eA,aE,a,g,he,plain]
  try simp[aH,pure,plain]
 .simp[execOp,b,d,e,eqGuard,binOp,eA,aE,a,g,he,plain]
  try simp[aH,pure,plain,bne]
theorem wx {P:Program} {T:Env} {H:View} {K:V->View->Prop} {w:bB (T,H,K)} {op:BinOp} {t u ty:TypeId} {x y:Operand} {a:Array Field} {xs ys:Array Value} {c r:Bool} (hu:P.underlying t=some (.struct a)) (b:P.stoodInHeld t=false) (d:P.eqGuardType P.depth t=false)
  (e:bz (ev T x)=some (.agg xs)) (f:bz (ev T y)=some (.agg ys)) (h:dV P 9998 xs ys a.toList c) (hr:(op=.eql/\r=c)∨(op=.neq/\r = !c)) (g:K (.val (.bool r)) H):oJ P (.binOp op t x y u) ty T H K w:=by
 intro n _
 refine⟨.val (.bool r),.none,[],?_,g⟩
 have i:eL P t=none:=by simp[eL,hu]
 simp only[sI,aP,oper,i]
 simp only[Option.isSome_none,Hc,if_false]
 exact rC rfl hu b d e f h hr
def Cy (hp:Array Obj) (cs:List Value) (vs:List V):Prop:=
 vs.length=cs.length/\∀μ i,i<vs.length->ae (λb=>b<hp.size) μ hp (vs.getD i .any) (cs.getD i undef)
def Wt {H:Type} (P:Program) (t:TypeId) (d:DataW H):Prop:=∀n∈d.weights P t,n<=reachBytes
def B4 (P:Program) (t:TypeId) {α:Type} (f:α->List V) (ok:α->Prop):Prop:=
 ∀ {H:Type} (enc:TypeId × Value->H) (w:World) (base:Nat) (sp:Nat->Bool) (held:Bool) (fuel:Nat) (cs:List Value) (x:DataW H × List MemPlace),
  DataW.trod enc P w base sp held fuel t cs=some x->Wt P t x.1->∃a,ok a/\Cy w.heap cs (f a)
theorem pS {hp:Array Obj} {c:Value} {v:V} (h:∀μ,ae (λb=>b<hp.size) μ hp v c):Cy hp [c] [v]:=by
 refine⟨rfl,λμ i hi=>?_⟩
 match i,hi with
 | 0,_=>exact h μ
theorem ET {P:Program} {t:TypeId} {k:IntKind} (a:P.underlying t=some (.int k)):B4 P t (λn=>[.val (.int k n)]) (λn=>(Lit.int k n).wf=true):=by
 intro H enc w base sp held fuel cs x h _
 obtain⟨n,rfl,_,hw⟩:=DataW.trod_int a h
 exact⟨n,hw,pS λμ=>.val _ rfl⟩
theorem vh {w:World} {base:Nat} {a:Addr} {n:Nat} {cs:List Value} (h:w.cells? base a n=some cs):cs.length=n/\∀i,i<n->w.cell? (a.add i)=some (cs.getD i undef):=by
 obtain⟨_,b,c⟩:=World.cells?_some h
 refine⟨b,λi hi=>?_⟩
 rw[c i hi,GQ,GR (by omega)]
 rfl
theorem BF {w:World} {a:Addr} {v:Value} (h:w.cell? a=some v):a.spot=none/\a.block<w.heap.size:=by
 unfold World.cell? at h
 split at h
 .rename_i c _ _ b
  split at h
  .simp at h
  .rename_i d
   exact⟨by simpa using d,(Array.getElem?_eq_some_iff.1 b).1⟩
 .simp at h
theorem zR {H:Type} {P:Program} {e:TypeId}:∀ {l:List (DataW H)},(∀n∈DataW.weightsAll P e l,n<=reachBytes)->∀d∈l,Wt P e d
 | [],_,d,a=>by simp at a
 | x::l,h,d,a=>by
  simp only[DataW.weightsAll,Io] at h
  rcases Hi.1 a with rfl | a
  .exact λn b=>h n (.inl b)
  .exact zR (λn b=>h n (.inr b)) d a
theorem Cz {H:Type} {P:Program} {t e:TypeId} {elems spare:List (DataW H)} (a:P.underlying t=some (.slice e)) (h:Wt P t (.slice elems spare)):
  (elems.length+spare.length)*P.bytesOf e<=reachBytes/\∀d∈elems,Wt P e d:=by
 unfold Wt at h
 unfold DataW.weights at h
 rw[a] at h
 simp only[Hi,Io] at h
 exact⟨h _ (.inl rfl),zR λn b=>h n (.inr (.inl b))⟩
theorem x7 {α:Type} {c:Nat->α->Prop}:∀(n:Nat),(∀i,i<n->∃a,c i a)->∃l:List α,l.length=n/\∀i (hi:i<l.length),c i l[i]
 | 0,_=>⟨[],rfl,λi hi=>by simp at hi⟩
 | n+1,h=>by
  obtain⟨l,d,b⟩:=x7 n λi hi=>h i (by omega)
  obtain⟨a,f⟩:=h n (by omega)
  refine⟨l++[a],by simp[d],λi hi=>?_⟩
  by_cases e:i<l.length
  .rw[List.getElem_append_left e];exact b i e
  .have:i=n:=by simp at hi;omega
   subst this
   rw[List.getElem_append_right (by omega)]
   simp only[d,Nat.sub_self,List.getElem_cons_zero];exact f
theorem CK {P:Program} {t e:TypeId} {α:Type} {f:α->List V} {ok:α->Prop} (K:P.underlying t=some (.slice e)) (N:0<P.cellsOf e) (O:0<P.bytesOf e) (he:B4 P e f ok):
  B4 P t (λl:List α=>[.al (l.map f)]) (λl=>l.length<4611686018427387904/\∀a∈l,ok a):=by
 intro H enc w base sp held fuel cs x h hw
 rcases DataW.trod_slice K h with ⟨rfl,rfl⟩ | ⟨a,len,cap,elems,rest,n,_,rfl,rfl,Q,R,hm,hlen,B,_,_⟩
 .exact⟨[],⟨by simp,by simp⟩,pS λμ=>.dA none 0 (by simp)⟩
 obtain⟨s,C⟩:=Cz K hw
 simp only[G8] at s
 have D:len<4611686018427387904:=by
  have g:len*1<=(elems.length+rest.length)*P.bytesOf e:=Nat.mul_le_mul (by omega) O
  unfold reachBytes at s
  omega
 have each:∀i,i<len->∃y,ok y/\∃ci,w.cells? base (a.add (i*P.cellsOf e)) (P.cellsOf e)=some ci/\Cy w.heap ci (f y):=by
  intro i hi
  have g:=B i hi
  have m:elems[i]?=some (elems[i]'(by omega)):=GR (by omega)
  have u:elems[i]'(by omega)∈elems:=G4 _
  rw[m,Option.bind_eq_some_iff] at g
  obtain⟨ci,E,F⟩:=g
  obtain⟨y,A,o⟩:=he enc w base sp held n ci _ F (C _ (HL.2 ⟨_,u,rfl⟩))
  exact⟨y,A,ci,E,o⟩
 obtain⟨l,G,q⟩:=x7 len each
 subst G
 refine⟨l,⟨D,λy S=>?_⟩,pS λμ=>?_⟩
 .obtain⟨i,hi,rfl⟩:=List.getElem_of_mem S
  exact(q i hi).1
 by_cases L:l=[]
 .subst L
  exact .dA (some a) cap (by simp)
 have p:0<l.length:=List.length_pos_iff.2 L
 have d:∀i j,i<l.length->j<P.cellsOf e->∃c,cellAt w.heap a.block (a.off+i*P.cellsOf e+j)=some c/\a.block<w.heap.size/\(i=0->j=0->a.spot=none)/\∀(hi:i<l.length),ae (λb=>b<w.heap.size) μ w.heap ((f l[i]).getD j .any) c:=by
  intro i j hi r
  obtain⟨_,ci,g,m⟩:=q i hi
  obtain⟨E,F⟩:=vh g
  have A:=F j r
  have o:=BF A
  have v:((a.add (i*P.cellsOf e)).add j).block=a.block:=by simp only[Addr.add];split<;>split<;>rfl
  have I:((a.add (i*P.cellsOf e)).add j).off=a.off+i*P.cellsOf e+j:=by
   simp only[Addr.add];split<;>split<;>simp_all
  refine⟨ci.getD j undef,?_,by rw[<-v];exact o.2,?_,λ_=>?_⟩
  .rw[<-I,<-v,<-dw]
   rw[<-A]
   congr 1
   generalize (a.add (i*P.cellsOf e)).add j=b at o
   cases b
   simp at o ⊢
   exact o.1.symm
  .rintro rfl rfl
   simp[Addr.add] at o
   exact o.1
  .exact m.2 μ j (by rw[m.1,E];exact r)
 obtain⟨_,_,T,M,_⟩:=d 0 0 p N
 have U:a=⟨a.block,a.off,none⟩:=by
  cases a;simp at M ⊢;exact M
 have J:∀i,i<l.length->(f (l[i]?.getD (l[0]'p))).length=P.cellsOf e:=λi hi=>by
  obtain⟨_,ci,g,m⟩:=q i hi
  rw[GR hi,G1,m.1,(vh g).1]
 have z:∀i (hi:i<l.length),(l.map f).getD i []=f l[i]:=λi hi=>by simp[GQ,hi]
 have k:(l.map f).length=l.length:=by simp
 have:=ae.al (Z:=λb=>b<w.heap.size) (μ:=μ) (hp:=w.heap) (l.map f) a.block a.off (P.cellsOf e) cap (λi j=>(cellAt w.heap a.block (a.off+i*P.cellsOf e+j)).getD undef) T (by rw[k];exact R)
  (λi hi=>by
   rw[k] at hi
   have:=J i hi
   rw[GR hi,G1] at this
   rw[z i hi];exact this)
  (λi j hi r=>by
   rw[k] at hi
   obtain⟨c,g,_⟩:=d i j hi r
   rw[g];rfl)
  (λi j hi r=>by
   rw[k] at hi
   obtain⟨c,g,_,_,m⟩:=d i j hi r
   rw[g,z i hi];exact m hi)
 rw[k,<-U] at this
 exact this
theorem mb {m:Nat} (h:m<4294967296):IntKind.u32.wrap (m:Int)=m:=by
 have a:IntKind.u32.signed=false:=rfl
 simp[IntKind.wrap,IntKind.bits,a]
 omega
theorem A6 {n:Nat} (h:n<4294967296):(BitVec.ofInt 32 (n:Int)).toNat=n:=by
 simp[BitVec.toNat_ofInt]
 omega
theorem Eg {n:Nat} (h:n<4294967296):IntKind.u32.wrap ((BitVec.ofInt 32 (n:Int) &&& BitVec.ofInt 32 65535).toNat:Int)=((n % 65536:Nat):Int):=by
 rw[BitVec.toNat_and,A6 h,show (BitVec.ofInt 32 65535).toNat=2 ^ 16-1 by decide,Nat.and_two_pow_sub_one_eq_mod,mb (by omega)]
theorem Es {a b:Nat} (d:a<65536) (e:b<65536):IntKind.u32.wrap ((BitVec.ofInt 32 (a:Int) ||| BitVec.ofInt 32 (((b*65536:Nat)):Int)).toNat:Int)=((a+b*65536:Nat):Int):=by
 have c:b*65536=b <<< 16:=by rw[Nat.shiftLeft_eq]
 rw[BitVec.toNat_or,A6 (by omega),A6 (by omega),Nat.or_comm,c,<-Nat.shiftLeft_add_eq_or_of_lt (by omega),mb (by rw[<-c];omega),<-c]
 omega
def eX (x:List Nat):Bool:=decide (x.length<=32)&&(decide (x.length=0)||decide (x.getD (x.length-1) 0≠0))
def bf (x:List Nat):List Nat:=x.flatMap λv=>[v % 65536,v / 65536]
def l9 (l:List Nat):List Nat:=if l.getD (l.length-1) 1=0 then l.take (l.length-1) else l
def kq (x:List Nat):List Nat:=if eX x=true then l9 (bf x) else []
theorem y6 (x:List Nat) (v:Nat):bf (x++[v])=bf x++[v % 65536,v / 65536]:=by simp[bf]
theorem fu (x:List Nat):(bf x).length=2*x.length:=by
 induction x with
 | nil=>rfl
 | cons v x a=>simp[bf] at a ⊢;omega
theorem j9:∀(x:List Nat) (k:Nat),k<x.length->(bf x).getD (2*k) 0=x.getD k 0 % 65536/\(bf x).getD (2*k+1) 0=x.getD k 0 / 65536
 | v::x,0,_=>by simp[bf]
 | v::x,k+1,h=>by
  have:=j9 x k (by simpa using h)
  rw[show 2*(k+1)=2*k+2 by omega]
  simpa [bf] using this
def cl (x:List Nat) (i:Nat):List Nat:=(List.range x.length).map λk=>if 2*k+1<i then x.getD k 0 else if 2*k<i then x.getD k 0 % 65536 else 0
theorem B3 (x:List Nat) (i:Nat):(cl x i).length=x.length:=by simp[cl]
theorem zy (x:List Nat):cl x 0=List.replicate x.length 0:=by
 apply List.ext_getElem<;>simp[cl]
theorem tT {x:List Nat} {i k:Nat} (h:k<x.length):(cl x i).getD k 0=if 2*k+1<i then x.getD k 0 else if 2*k<i then x.getD k 0 % 65536 else 0:=by
 simp[cl,GQ,h]
theorem yY {x:List Nat} {k:Nat} (h:k<x.length):(cl x (2*k)).getD k 0=0/\(cl x (2*k)).set k (x.getD k 0 % 65536)=cl x (2*k+1):=by
 refine⟨by rw[tT h,GV (by omega),GV (by omega)],?_⟩
 apply List.ext_getElem
 .simp[cl]
 .intro j a b
  rw[List.getElem_set]
  simp only[cl,List.getElem_map,List.getElem_range]
  split
  .subst_vars;simp
  .rename_i c
   repeat' split
   all_goals first | rfl | omega
theorem AL {x:List Nat} {k:Nat} (h:k<x.length):(cl x (2*k+1)).getD k 0=x.getD k 0 % 65536/\(cl x (2*k+1)).set k (x.getD k 0)=cl x (2*k+1+1):=by
 refine⟨by rw[tT h];simp,?_⟩
 apply List.ext_getElem
 .simp[cl]
 .intro j a b
  rw[List.getElem_set]
  simp only[cl,List.getElem_map,List.getElem_range]
  split
  .subst_vars;simp
  .rename_i c
   repeat' split
   all_goals first | rfl | omega
theorem zh {x:List Nat} : cl x (l9 (bf x)).length=x:=by
 have f:=fu x
 apply List.ext_getElem (by simp[cl])
 intro k g a
 simp only[cl,List.getElem_map,List.getElem_range,l9]
 have e:x.getD k 0=x[k]:=by simp[GQ,a]
 split
 .rename_i c
  rw[HW,e]
  split
  .rfl
  .have h:k=x.length-1:=by omega
   have b:=(j9 x k a).2
   rw[show 2*k+1=(bf x).length-1 by omega] at b
   have d:(bf x).getD ((bf x).length-1) 1=(bf x).getD ((bf x).length-1) 0:=by simp[GQ,show (bf x).length-1<(bf x).length by omega]
   rw[d,b,e] at c
   rw[GZ (by omega)]
   omega
 .rw[GZ (by omega),e]
def kS:SC:=
 ai [af [cm 44 .lss 43 42],eY 44 (.exit 0),.block 1 (ai [af [ab 45 43,b4 46 3 41 43,c6 47 3 46,((some 11),.op (.alloc [(.val (.int .i64 0)),(.emp 1),(.val (.int .i64 0))])),ab 10 45,gp 3 11 47],ai [.region false [⟨none,[ab 48 6,aO 49 0 11,aG 50 49,b4 51 1 48 50,aG 52 51,db 53 52,ab 54 53]⟩,⟨(some (54,false)),[c6 55 3 11,ab 56 5,bX 57 94 [55,56],db 58 57]⟩,⟨none,[fY 59 54 58]⟩],bV 59 (.exit 1)],af [ab 60 7,ab 61 10,((some 62),.op (.en 1 1 [(.val (.int .i64 0))] [(0,(.tmp 61))])),o9 63 1 8 60 62,ab 7 63],af [ab 65 9,aO 66 0 11,aG 67 66,((some 68),.op (.old (.lookup 198 (.tmp 65) (.tmp 67) true) 170)),ab 64 68,vi 69 0 64,vi 70 1 64,ab 12 69,ab 13 70],af [ab 71 13,db 72 71],bV 72 (ai [af [ab 73 9,aO 74 0 11,aG 75 74,aO 76 1 8,aG 77 76,bg 78 77,(none,.op (.old (.mapUpdate 198 (.tmp 73) (.tmp 75) (.tmp 78)) 0))],.region false [⟨none,[aO 79 1 8,aG 80 79,aO 81 1 1,aG 82 81,aO 83 0 11,aG 84 83,b4 85 1 82 84,aG 86 85,((some 87),.op (.en 1 1 [(.val (.string ⟨#[]⟩))] [(0,(.tmp 86))])),o9 88 1 16 80 87,aO 89 1 8,gp 1 89 88]⟩]])]),af [aZ 90 .add 43 1,ab 43 90]]
def kB:SC:=
 ai [af [cm 116 .lss 115 114],eY 116 (.exit 4),.block 5 (ai [af [ab 117 115,b4 118 1 113 115,aG 119 118,ab 18 117,ab 19 119],af [ab 120 19,aZ 121 .lss 120 0],bV 121 (af [aO 122 1 17,aG 123 122,ab 124 18,ab 125 9,ab 126 19,((some 127),.op (.arith .sub (.val (.val (.int .i64 (-1)))) (.tmp 126))),((some 128),.op (.old (.lookup 198 (.tmp 125) (.tmp 127) false) 3)),((some 129),.op (.arith .sub (.val (.val (.int .i64 (-1)))) (.tmp 128))),b4 130 1 123 124,gp 1 130 129])]),af [aZ 131 .add 115 1,ab 115 131]]
def kV:SC:=
 ai [af [cm 94 .lss 93 92],eY 94 (.exit 2),.block 3 (ai [af [b4 95 1 91 93,aG 96 95,ab 15 96],af [aO 97 2 1,aG 98 97,ab 99 15,b4 100 3 98 99,c6 101 3 100,((some 16),.op (.alloc [(.val (.int .i64 0)),(.emp 1),(.val (.int .i64 0))])),gp 3 16 101],.region true [⟨none,[ab 102 9,aO 103 0 16,aG 104 103,((some 105),.op (.old (.lookup 198 (.tmp 102) (.tmp 104) false) 3)),aO 106 1 16,aG 107 106,bX 108 95 [107],aO 109 2 16,aG 110 109,((some 111),.op (.build [(.val (.int .i64 0)),(.emp 1),(.val (.int .i64 0))] [(0,1,(.tmp 105)),(1,1,(.tmp 108)),(2,1,(.tmp 110))])),((some 17),.op (.alloc [(.val (.int .i64 0)),(.emp 1),(.val (.int .i64 0))])),gp 3 17 111]⟩],ai [af [aO 112 1 17,aG 113 112,bg 114 113,bR 115 0],fk 4 kB],af [aO 132 2 8,aG 133 132,c6 134 3 17,((some 135),.op (.en 1 3 [(.val (.int .i64 0)),(.emp 1),(.val (.int .i64 0))] [(0,(.tmp 134))])),o9 136 3 40 133 135,aO 137 2 8,gp 1 137 136]]),af [aZ 138 .add 93 1,ab 93 138]]
def mE:SF:=⟨ai [af [gU 1 0,((some 2),.op (.alloc [(.emp 1),(.emp 1),(.emp 1),(.val (.int .i64 0))])),dU 3 1,bR 4 0],ai [af [c6 20 4 1,bX 21 17 [20],db 22 21],bV 22 (ai [af [((some 23),.op (.build [(.emp 1),(.emp 1),(.emp 1),(.val (.int .i64 0))] [])),gp 4 2 23,dU 3 1,bR 4 1],.ret])],.region true [⟨none,[c6 24 4 1,bX 25 91 [24],c6 26 4 1,bX 27 92 [26],ab 5 25,ab 6 27]⟩],ai [af [ab 28 5,aO 29 3 1,aG 30 29,b4 31 1 28 30,aG 32 31,db 33 32],bV 33 (ai [af [((some 34),.op (.build [(.emp 1),(.emp 1),(.emp 1),(.val (.int .i64 0))] [])),gp 4 2 34,dU 3 1,bR 4 9],.ret])],af [dU 7 1],af [aO 35 0 1,aG 36 35,bX 37 93 [36],((some 38),.op (.build [(.emp 1),(.emp 1),(.emp 1),(.val (.int .i64 0))] [(0,1,(.tmp 37))])),((some 8),.op (.alloc [(.emp 1),(.emp 1),(.emp 1),(.val (.int .i64 0))])),gp 4 8 38],af [((some 39),.op (.mz)),ab 9 39],ai [af [aO 40 2 1,aG 41 40,bg 42 41,bR 43 0],fk 0 kS],ai [af [ab 91 7,bg 92 91,bR 93 0],fk 2 kV],af [ab 139 9,aO 140 3 1,aG 141 140,((some 142),.op (.old (.lookup 198 (.tmp 139) (.tmp 141) false) 3)),aO 143 3 8,gp 1 143 142],af [c6 144 4 8,ab 145 7,gp 4 2 144,ab 3 145,bR 4 0],.ret],
 [.cell 2 (some 4),.tmp 3,.tmp 4],146⟩
theorem pD:aM aa 42 [1]=some mE:=by kernel_rfl
abbrev nS (m:eJ Int):List (V × V × Nat):=cO (Value.int .i64) m
def E4 (g:ay) (p q:List Bool) (b2 b8 b9:Nat) (u0:V) (i:Nat) (T:Env) (H:View):Prop:=
 (∃u1 u3:V,T 7=u3/\(∀x∈cn p q (g.rules.take i),0<=x/\x<g.aB.length)/\(cn p q (g.rules.take i)).length<=i /\
  aR H [(.sl b8 0 1 4,4,[[u0,u1,.emp 1,gi 0]]),(u3,1,cq (b7 p q (g.rules.take i) 0)),
   (u1,1,kN ((cn p q (g.rules.take i)).map λx=>g.aB.getD x.toNat ⟨#[]⟩)),(u0,3,g.an.map cd),(.sl b2 0 1 4,4,[[.emp 1,.emp 1,.emp 1,gi 0]])] /\
  ∃m c,H b9=.map (nS m) c/\iu gi (eU (cn p q (g.rules.take i)) 0) m) /\
 T 1=.aC (ax g) 0/\T 2=.ptr b2 0 0/\T 5=cp p/\T 6=cp q/\T 8=.ptr b8 0 0/\T 9=.mp b9/\T 41=.al (g.rules.map aK)/\T 42=gi g.rules.length/\T 43=gi i
theorem r5 {α:Type} {x s:α}:∀ {a d:List α} {k:Nat},a.length=k->(a++s::d).set k x=a++x::d
 | [],d,k,h=>by simp at h;subst h;rfl
 | y::a,d,k,h=>by
  cases k with
  | zero=>simp at h
  | succ k=>simp only[HF,List.set_cons_succ];rw[r5 (by simpa using h)]
def F9 (g:ay) (p q:List Bool) (b2 b8 b9:Nat) (u0 u1 u3:V) (o kl:List Int) (mm:eJ Int) (cc:Nat) (i:Nat) (T:Env) (H:View):Prop:=
 (∃(u2:V) (bs:p8),bs.map (·.2)=((g.rules.filter (cE p q)).take i).map (cb (bO o)) /\
  aR H ((.sl b8 0 1 4,4,[[u0,u1,u2,gi 0]])::(u3,1,cq kl) ::
   (u1,1,kN (o.map λx=>g.aB.getD x.toNat ⟨#[]⟩))::(u0,3,g.an.map cd)::(u2,3,fv bs)::(.sl b2 0 1 4,4,[[.emp 1,.emp 1,.emp 1,gi 0]])::lK bs) /\
  H b9=.map (nS mm) cc) /\
 T 1=.aC (ax g) 0/\T 2=.ptr b2 0 0/\T 7=u3/\T 8=.ptr b8 0 0/\T 9=.mp b9/\T 91=u3/\T 92=gi kl.length/\T 93=gi i
def FQ (g:ay) (b2 b8 b9 b16 b17:Nat) (u3 v:V) (o kl:List Int) (mm:eJ Int) (cc:Nat) (r:aI) (L:List eK) (i k:Nat) (T:Env) (H:View):Prop:=
 aR H ((.sl b17 0 1 3,3,[[gi (bO o r.left),v,gi r.prec]])::(v,1,cq ((cb (bO o) r).right.take k++r.right.drop k))::(.sl b16 0 1 3,3,[aK r])::L) /\
 H b9=.map (nS mm) cc/\T 1=.aC (ax g) 0/\T 2=.ptr b2 0 0/\T 7=u3/\T 8=.ptr b8 0 0/\T 9=.mp b9/\T 91=u3/\T 92=gi kl.length/\T 93=gi i/\T 17=.ptr b17 0 0/\T 113=v/\T 114=gi r.right.length/\T 115=gi k
theorem wg (g:ay) (hg:g.Ok) (hs:g.Small):aT aa 42 [.agg (ax g)] (nf (if bQ g=true then
  if (aL g true).getD g.start.toNat false=true then (pI g (bO (cn (aL g true) (bE g) g.rules)) (aL g true) (bE g),b7 (aL g true) (bE g) g.rules 0,0)
  else (kr,[],9)
 else (kr,[],1))):=by
 refine aT.of (dM g) ?_
 refine ar.of mixed pD ?_
 simp(disch:=omega)only[↓wr,seval,wq,mE,ax,encS]
 intro R
 try simp(disch:=omega)only[↓wr,seval,wq,ax,encS]
 refine av.pure (gS g hg hs.names) ?_
 repeat' (first | ((first|apply aj.dec|apply aj.eq|apply aj.ne|apply aj.split)<;>intro)|(simp(disch:=omega)only[↓wr,seval,wq,ax,encS,set_set]))
 .rename_i hr
  rw[GZ hr]
  refine av.pure (lC g hg hs).pure ?_
  simp(disch:=omega)only[↓wr,seval,wq,ax,encS]
  refine av.pure (tt g hg hs).pure ?_
  have hf:=b3 hr
  have h3:=hf.pW
  have h4:=hf.start
  have e7:=iN hr true
  have hM:=kW hr
  generalize aL g true=p at e7 ⊢
  generalize bE g=q at hM ⊢
  have dn:p[g.start.toNat]?=some (p[g.start.toNat]'(by omega)):=GR (by omega)
  have e8:p.getD g.start.toNat false=p[g.start.toNat]'(by omega):=by simp[GQ,dn]
  generalize p[g.start.toNat]'(by omega)=s at dn e8
  rw[e8]
  simp(disch:=omega)only[↓wr,seval,wq,ax,encS,cp,GY,dn]
  cases s with
  | false =>
   simp(disch:=omega)only[↓wr,seval,wq,ax,encS,set_set]
   rintro h' hh
   exact u7
  | true =>
   simp(disch:=omega)only[↓wr,seval,wq,ax,encS,set_set]
   have hN:=hf.aB
   have mi:=hf.tM
   have hT:=hf.an
   have hR:=hf.rules
   refine av.tZ ((AG g.an (by omega) _).mono ?_)
   rintro B H1 ⟨hP,M⟩
   have b0:=(aR.nil.new (H:=λ_=>cQ.dead) (n:=R) rfl 4 [[.emp 1,.emp 1,.emp 1,gi 0]]).EZ hP M
   have c0:=b0.head.cells
   have k0:=b0.head.uq
   simp(disch:=omega)only[↓wr,seval,wq,ax,encS,c0,k0]
   intro P fl
   have fs:=b0.new fl 4 [[B,.emp 1,.emp 1,gi 0]]
   try simp(disch:=omega)only[↓wr,seval,wq,ax,encS,c0,k0,set_set]
   intro d S
   have cV:=(dK S dS).1
   have S:=(dK (dK S dS).2 dS).2
   have f:=(((fs.fresh (n:=d) (o:=.map [] 0) (by simp only[View.set,GV cV];exact S)).emp (k:=1) (sz:=1)).emp (k:=1) (sz:=1)).perm Gg.symm
   try simp(disch:=omega)only[↓wr,seval,wq,ax,encS,c0,k0,set_set]
   refine bH.up g.rules.length (E4 g p q R P d B) ?_ ?_
   .refine⟨⟨.emp 1,.emp 1,rfl,by simp[cn],by simp[cn],by rw[set_set];exact f,[],0,by simp[View.set,cO],trivial⟩,rfl,rfl,rfl,rfl,rfl,rfl,rfl,rfl,rfl⟩
   clear b0 fs f fl S cV
   rintro i k T H2 hk ⟨⟨I,u3,t7,b1,ds,A,mm,C,j,D⟩,t1,t2,t5,t6,t8,t9,t41,t42,t43⟩
   simp(disch:=omega)only[↓wr,seval,wq,kS,t1,t2,t5,t6,t7,t8,t9,t41,t42,t43,ax]
   apply aj.dec<;>intro hc
   .have E:g.rules[i]?=some (g.rules[i]'(by omega)):=GR (by omega)
    have l:g.rules[i]'(by omega)∈g.rules:=G4 _
    have w:g.rules.take (i+1)=g.rules.take i++[g.rules[i]'(by omega)]:=by rw[Hn,E];rfl
    generalize g.rules[i]'(by omega)=r at E l w
    obtain⟨hQ,ft,fx,hS,ca⟩:=hf.nH hg l
    have dv:q[r.left.toNat]?=some (q[r.left.toNat]'(by omega)):=GR (by omega)
    have cf:q.getD r.left.toNat false=q[r.left.toNat]'(by omega):=by simp[GQ,dv]
    generalize q[r.left.toNat]'(by omega)=qs at dv cf
    simp(disch:=omega)only[↓wr,seval,wq,t1,t2,t5,t6,t7,t8,t9,t41,t42,t43,aK,encI,GY,E]
    intro ch U
    have F:=A.new U 3 [aK r]
    have c3:d≠ch:=by rintro rfl;rw[j] at U;simp at U
    try simp(disch:=omega)only[↓wr,seval,wq,t1,t2,t5,t6,t7,t8,t9,t41,t42,t43,aK,encI,cp,GY,dv,set_set]
    have W:∀(Q:Env) (H':View),cE p q r=false->H'=H2.set ch (.arr 3 [aK r])->Q 7=u3->Q 1=.aC (ax g) 0->Q 2=.ptr R 0 0->Q 5=cp p->Q 6=cp q->Q 8=.ptr P 0 0->Q 9=.mp d->Q 41=.al (g.rules.map aK)->Q 42=gi g.rules.length->Q 43=gi ((i:Int)+1) ->
      ∃k',k'<k/\xS g.rules.length k' (E4 g p q R P d B) Q H':=by
     intro Q H' X fz a7 a1 a2 a5 a6 a8 a9 a41 hV hW
     have N:cn p q (g.rules.take (i+1))=cn p q (g.rules.take i):=by rw[w,te,GV (by simp[X])]
     have e2:b7 p q (g.rules.take (i+1)) 0=b7 p q (g.rules.take i) 0:=by rw[w,j6];simp[b7,X]
     refine bC hk (by omega) ⟨⟨I,u3,a7,by rw[N];exact b1,by rw[N];omega,by rw[N,e2,fz];exact F.tail,mm,C,by rw[fz];simp[View.set,c3,j],by rw[N];exact D⟩,a1,a2,a5,a6,a8,a9,a41,hV,by rw[hW];rfl⟩
    cases qs with
    | false =>
     simp(disch:=omega)only[↓wr,seval,wq,t1,t2,t5,t6,t7,t8,t9,t41,t42,t43]
     refine W _ _ (by rw[cE,cf];rfl) ?_ ?_ ?_ ?_ ?_ ?_ ?_ ?_ ?_ ?_ ?_
     all_goals first | exact t7 | exact t1 | exact t2 | exact t5 | exact t6 | exact t8 | exact t9 | exact t41 | exact t42 | rfl | (rw[set_set];rfl)
    | true =>
     simp(disch:=omega)only[↓wr,seval,wq,t1,t2,t5,t6,t7,t8,t9,t41,t42,t43,aK,encI,cp]
     refine av.pure (kJ r p (hg.nC r l).2.2.1 (λs gd=>⟨(ca s gd).1,λh=>by rw[e7];exact(ca s gd).2 h⟩)) ?_
     simp(disch:=omega)only[↓wr,seval,wq,t1,t2,t5,t6,t7,t8,t9,t41,t42,t43]
     apply aj.split<;>intro ea
     .simp(disch:=omega)only[↓wr,seval,wq,t1,t2,t5,t6,t7,t8,t9,t41,t42,t43]
      have X:cE p q r=true:=by rw[cE,cf,ea];rfl
      intro m hm
      try simp(disch:=omega)only[↓wr,seval,wq,t1,t2,t5,t6,t7,t8,t9,t41,t42,t43,gv]
      have gk:=(dK hm dS).1
      have hm:=(dK (dK hm dS).2 dS).2
      have e:=(F.fresh (n:=m) (o:=.arr 1 [[gi i]]) (by simp only[View.set,GV gk];exact hm)).at 2 (by simp)
      have eb:d≠m:=by rintro rfl;rw[j] at hm;simp at hm
      have gr:(b7 p q (g.rules.take i) 0).length<=40:=by
       rw[kn]
       have h1:=List.length_filter_le (cE p q) (g.rules.take i)
       have h2:(g.rules.take i).length<=i:=List.length_take_le _ _
       omega
      refine mf (by rw[set_set];exact e) (by simp[au]) (by unfold aD;simp at gr ⊢;omega) (by unfold aD;simp at gr ⊢;omega) ?_
      intro eg H3 f t
      have f11:=f.is 1 rfl (by simp)
      have f8:=f.is 2 rfl (by simp)
      have cj:Left ((H2.set ch (.arr 3 [aK r])).set m (.arr 1 [[gi i]])) H3 u3 eg:=by rw[set_set] at t;exact t
      have f9:H3 d=.map (nS mm) C:=cj.map (b:=d) e.head (by simp[View.set,c3,eb,j])
      have hY:dd I=some (kN ((cn p q (g.rules.take i)).map λx=>g.aB.getD x.toNat ⟨#[]⟩)).length:=(f.own 3 rfl).len
      simp only[aK,encI] at f11
      have e2:b7 p q (g.rules.take (i+1)) 0=b7 p q (g.rules.take i) 0++[(i:Int)]:=by
       rw[w,j6];simp[b7,X,show i<=g.rules.length by omega]
      have N:cn p q (g.rules.take (i+1))=kZ (cn p q (g.rules.take i)) r:=by rw[w,te,GZ X]
      generalize cn p q (g.rules.take i)=o at *
      generalize b7 p q (g.rules.take i) 0=G at *
      simp(disch:=omega)only[↓wr,seval,wq,t1,t2,t5,t6,t8,t9,t41,t42,t43,f11,f8]
      refine Fi (kt:=3) (et:=3) (z:=gi 0) (by kernel_rfl) (by kernel_rfl) (js .i64 Tryz.underlying3) (id:=d) (c:=C) (m:=mm) (k:=r.left) (by simp(disch:=omega)only[↓wr,seval,wq,t9]) (by simp(disch:=omega)only[↓wr,seval,wq]) f9 ?_
      rw[D.get,kH]
      have h0:o.length<=40:=by omega
      by_cases hx:r.left∈o
      .have u:kZ o r=o:=by rw[kZ,GZ hx]
       rw[GZ hx]
       simp(disch:=omega)only[↓wr,seval,wq,t1,t2,t5,t6,t8,t9,t41,t42,t43,Option.isSome_some]
       have h5:=(((f.at 1 (by simp)).tail).perm (.swap _ _ _))
       refine bC hk (by omega) ⟨⟨I,eg,rfl,by rw[N,u];exact b1,by rw[N,u];omega,?_,mm,C,f9,by rw[N,u];exact D⟩,t1,t2,t5,t6,t8,t9,t41,t42,rfl⟩
       rw[N,u,e2]
       simp only[Ip,H9,List.map_nil]
       exact h5
      .have u:kZ o r=o++[r.left]:=by rw[kZ,GV hx]
       rw[GV hx]
       have ek:g.aB[r.left.toNat]?=some (g.aB[r.left.toNat]'(by omega)):=GR (by omega)
       have da:g.aB.getD r.left.toNat ⟨#[]⟩=g.aB[r.left.toNat]'(by omega):=by simp[GQ,ek]
       generalize g.aB[r.left.toNat]'(by omega)=nm at ek da
       simp(disch:=omega)only[↓wr,seval,wq,t1,t2,t5,t6,t8,t9,t41,t42,t43,Option.isSome_none,f11,f8,hY,G8]
       refine uj (kt:=3) (et:=3) (by kernel_rfl) (js .i64 Tryz.underlying3) (id:=d) (c:=C) (m:=mm) (k:=r.left) (v:=gi o.length) (by simp(disch:=omega)only[↓wr,seval,wq,t9]) (by simp(disch:=omega)only[↓wr,seval,wq]) (by simp(disch:=omega)only[↓wr,seval,wq]) f9 ?_
       intro c'
       have ha:P≠d:=qR f 2 rfl f9
       have n119:ch≠d:=qR f 1 rfl f9
       simp(disch:=omega)only[↓wr,seval,wq,t1,t2,t5,t6,t8,t9,t41,t42,t43,f11,f8,ha,n119,ax,encS,GY,ek]
       intro m2 O
       have dj:=(dK O (by simp)).1
       have O:=(dK O (by simp)).2
       have hb:=((f.Fa f9 (o:=.map (nS (ga r.left (gi o.length) C mm)) c')).fresh (n:=m2) (o:=.arr 1 [[gs nm]]) (by simp only[View.set,GV dj];exact O)).at 3 (by simp)
       try simp(disch:=omega)only[↓wr,seval,wq,t1,t2,t5,t6,t8,t9,t41,t42,t43,gv]
       refine mf hb (by simp[au]) (by unfold aD;simp;omega) (by unfold aD;simp;omega) ?_
       intro hd H5 ck cy
       have c1:=ck.head.cells
       have k1:=ck.head.uq
       have e0:=ck.is 3 rfl (by simp)
       have h6:=cy.map (b:=d) (es:=nS (ga r.left (gi o.length) C mm)) (c:=c') hb.head (by simp[View.set,Ne.symm dj])
       have hj:d≠P:=ha.symm
       simp(disch:=omega)only[↓wr,seval,wq,t1,t2,t5,t6,t8,t9,t41,t42,t43,e0,c1,k1]
       have h7:=(ck.at 3 (by simp)).put (es':=[[B,hd,.emp 1,gi 0]]) rfl rfl
       have h8:=(((h7.at 3 (by simp)).tail).perm (.cons _ (.swap _ _ _)))
       refine bC hk (by omega) ⟨⟨hd,eg,rfl,?_,?_,?_,_,c',(by simp only[View.set,GV hj];exact h6),?_⟩,t1,t2,t5,t6,t8,t9,t41,t42,rfl⟩
       .rw[N,u];intro x ih;rcases Io.1 ih with h | h
        .exact b1 x h
        .simp at h;subst h;exact⟨ft,fx⟩
       .rw[N,u];simp;omega
       .rw[N,u,e2]
        simp only[Ip,H9,List.map_nil,da]
        exact h8
       .rw[N,u,q5,Int.zero_add,<-sy hx]
        exact D.put r.left (o.length:Int) C
     .simp(disch:=omega)only[↓wr,seval,wq,t1,t2,t5,t6,t7,t8,t9,t41,t42,t43]
      refine W _ _ (by rw[cE,cf,ea];rfl) ?_ ?_ ?_ ?_ ?_ ?_ ?_ ?_ ?_ ?_ ?_
      all_goals first | exact t7 | exact t1 | exact t2 | exact t5 | exact t6 | exact t8 | exact t9 | exact t41 | exact t42 | rfl | (rw[set_set];rfl)
   .rw[G9 (by omega)] at A b1 ds D
    have il:(b7 p q g.rules 0).length<=40:=by
     rw[kn];have h1:=List.length_filter_le (cE p q) g.rules;omega
    have j2:=m3 p q g.rules 0
    have l4:=kn p q g.rules 0
    have hl:pI g (bO (cn p q g.rules)) p q=⟨g.an,(cn p q g.rules).map λx=>g.aB.getD x.toNat ⟨#[]⟩,(g.rules.filter (cE p q)).map (cb (bO (cn p q g.rules))),bO (cn p q g.rules) g.start⟩:=rfl
    rw[hl]
    clear hl
    generalize cn p q g.rules=o at *
    generalize b7 p q g.rules 0=G at *
    have h0:o.length<=40:=by omega
    have k3:dd u3=some (cq G).length:=(A.own 1 rfl).len
    simp(disch:=omega)only[↓wr,seval,wq,t1,t2,t5,t6,t7,t8,t9,k3,G8]
    refine bH.up G.length (F9 g p q R P d B I u3 o G mm C) ?_ ?_
    .refine⟨⟨.emp 1,[],by simp,?_,j⟩,t1,t2,t7,t8,t9,t7,rfl,rfl⟩
     exact(A.emp (k:=1) (sz:=3)).perm (oL [(.sl P 0 1 4,4,[[B,I,.emp 1,gi 0]]),(u3,1,cq G),(I,1,kN (o.map λx=>g.aB.getD x.toNat ⟨#[]⟩)),(B,3,g.an.map cd),(.emp 1,3,[]),(.sl R 0 1 4,4,[[.emp 1,.emp 1,.emp 1,gi 0]])] 4 (by simp)).symm
    clear A j t1 t2 t5 t6 t7 t8 t9 t41 t42 t43
    rintro i k T H2 hk ⟨⟨u2,bs,cC,A,j⟩,t1,t2,t7,t8,t9,t91,t92,t93⟩
    simp(disch:=omega)only[↓wr,seval,wq,kV,t1,t2,t7,t8,t9,t91,t92,t93]
    apply aj.dec<;>intro hc
    .obtain⟨n3,e3,k4⟩:=(A.own 1 rfl).sl (by simp;omega)
     rw[G8] at e3
     subst e3
     obtain⟨m,e4,O,Y⟩:=j2 i (by omega)
     have hn:=pr (show i<G.length by omega)
     rw[Int.zero_add] at e4
     have k5:G[i]'(by omega)=(m:Int):=by
      rw[GR (show i<G.length by omega)] at e4;simpa using e4
     rw[k5] at hn
     have E:g.rules[m]?=some (g.rules[m]'Y):=GR Y
     have l:g.rules[m]'Y∈g.rules:=G4 _
     have w:(g.rules.filter (cE p q)).take (i+1)=(g.rules.filter (cE p q)).take i++[g.rules[m]'Y]:=by
      rw[Hn,<-O,E];rfl
     generalize g.rules[m]'Y=r at E l w
     obtain⟨hQ,ft,fx,hS,ca⟩:=hf.nH hg l
     simp(disch:=omega)only[↓wr,seval,wq,t1,t2,t7,t8,t9,t91,t92,t93,k4,hn,G8,ax,aK,encI,GY,E]
     refine⟨by omega,by omega,?_⟩
     intro e5 J
     have F:=A.new J 3 [aK r]
     have Z:d≠e5:=by rintro rfl;rw[j] at J;simp at J
     try simp(disch:=omega)only[↓wr,seval,wq,t1,t2,t7,t8,t9,t91,t92,t93,set_set]
     refine tP (kt:=3) (et:=3) (z:=gi 0) (by kernel_rfl) (by kernel_rfl) (js .i64 Tryz.underlying3) (id:=d) (c:=C) (m:=mm) (k:=r.left) (by simp(disch:=omega)only[↓wr,seval,wq,t9]) (by simp(disch:=omega)only[↓wr,seval,wq]) (by simp[View.set,Z,j]) ?_
     have cN:∀x,(getM mm x).getD (gi 0)=gi (bO o x):=λx=>by
      rw[D.get,bO];cases bU (eU o 0) x<;>rfl
     rw[cN]
     simp(disch:=omega)only[↓wr,seval,wq,t1,t2,t7,t8,t9,t91,t92,t93]
     refine av.DL (sN r.right (by omega) _) ?_
     intro v H3 hv M
     have e:=aR.EZ (H:=H2.set e5 (.arr 3 [aK r])) F hv (by rw[set_set] at M;exact M)
     have e6:H3 d=.map (nS mm) C:=by
      rw[(M d (by simp[View.set,Z,j])).1];simp[View.set,Z,j]
     have cv:=hv.cells
     have kv:=hv.uq
     have lv:=hv.len
     have f16:=e.is 1 rfl (by simp)
     simp only[aK,encI] at f16
     simp(disch:=omega)only[↓wr,seval,wq,t1,t2,t7,t8,t9,t91,t92,t93,f16,cv,kv]
     intro hq K
     have a:=e.new K 3 [[gi (bO o r.left),v,gi r.prec]]
     have ht:d≠hq:=by rintro rfl;rw[e6] at K;simp at K
     try simp(disch:=omega)only[↓wr,seval,wq,t1,t2,t7,t8,t9,t91,t92,t93,cv,kv,lv,set_set,G8]
     generalize hL:((V.sl P 0 1 4,4,[[B,I,u2,gi 0]])::(V.sl n3 0 G.length 1,1,cq G) ::
       (I,1,kN (o.map λx=>g.aB.getD x.toNat ⟨#[]⟩))::(B,3,g.an.map cd)::(u2,3,fv bs)::(V.sl R 0 1 4,4,[[V.emp 1,V.emp 1,V.emp 1,gi 0]])::lK bs:List eK)=L at a
     refine bH.up r.right.length (FQ g R P d e5 hq (.sl n3 0 G.length 1) v o G mm C r L i) ?_ ?_
     .exact⟨by rw[set_set];exact a,by simp[View.set,ht,e6],t1,t2,t7,t8,t9,t91,t92,t93,rfl,rfl,rfl,rfl⟩
     clear F e a J K j e6 f16 hv M t1 t2 t7 t8 t9 t91 t92 t93
     rintro k k2 T H3 hz ⟨a,j,t1,t2,t7,t8,t9,t91,t92,t93,t17,t113,t114,t115⟩
     have f17:=a.is 0 rfl (by simp)
     simp(disch:=omega)only[↓wr,seval,wq,kB,t1,t2,t7,t8,t9,t91,t92,t93,t17,t113,t114,t115]
     apply aj.dec<;>intro k6
     .have hA:r.right[k]?=some (r.right[k]'(by omega)):=GR (by omega)
      have hB:r.right[k]'(by omega)∈r.right:=G4 _
      have la:(cb (bO o) r).right.length=r.right.length:=by simp[cb]
      have ao:(cb (bO o) r).right.take (k+1)=(cb (bO o) r).right.take k++[if r.right[k]'(by omega)<0 then -1-bO o (-1-r.right[k]'(by omega)) else r.right[k]'(by omega)]:=by
       rw[Hn];simp[cb,hA]
      have hD:=jW (show k<r.right.length by omega)
      generalize r.right[k]'(by omega)=s at hA hB ao hD
      obtain⟨⟨s1,s2⟩,s3⟩:=ca s hB
      have mv:=Eu o (-1-s)
      rw[hD] at a
      have hlen:(((cb (bO o) r).right.take k++s::r.right.drop (k+1)).map λx=>[gi x]).length=r.right.length:=by simp;omega
      obtain⟨nv,ev,hF⟩:=(a.own 1 rfl).sl (by rw[hlen];omega)
      rw[hlen] at ev
      subst ev
      have cS:k<((cb (bO o) r).right.take k++s::r.right.drop (k+1)).length:=by simp;omega
      have bk:=pr cS
      have lb:((cb (bO o) r).right.take k++s::r.right.drop (k+1))[k]'cS=s:=by
       rw[List.getElem_append_right (by simp;omega)]
       simp[show k-min k r.right.length=0 by omega,la]
      rw[lb] at bk
      simp(disch:=omega)only[↓wr,seval,wq,t1,t2,t7,t8,t9,t91,t92,t93,t17,t113,t114,t115,hF,bk,G8]
      refine⟨by omega,cS,?_⟩
      have hG:((cb (bO o) r).right.take k).length=k:=by rw[HW];omega
      have l0:nv≠d:=qR a 1 rfl j
      apply aj.dec<;>intro bl
      .rw[GZ bl] at ao
       simp(disch:=omega)only[↓wr,seval,wq,t1,t2,t7,t8,t9,t91,t92,t93,t17,t113,t114,t115,f17]
       refine tP (kt:=3) (et:=3) (z:=gi 0) (by kernel_rfl) (by kernel_rfl) (js .i64 Tryz.underlying3) (id:=d) (c:=C) (m:=mm) (k:=-1-s) (by simp(disch:=omega)only[↓wr,seval,wq,t9]) (by simp(disch:=omega)only[↓wr,seval,wq]) j ?_
       rw[cN]
       simp(disch:=omega)only[↓wr,seval,wq,t1,t2,t7,t8,t9,t91,t92,t93,t17,t113,t114,t115,f17,hF,bk,G8]
       refine⟨by omega,cS,?_⟩
       have bn:=((a.at 1 (by simp)).put (es':=((((cb (bO o) r).right.take k++s::r.right.drop (k+1)).map λx=>[gi x]).set k [gi (-1-bO o (-1-s))])) (by simp) (by rw[hlen])).perm (.swap _ _ _)
       refine bC hz (by omega) ⟨?_,by simp only[View.set,GV l0.symm];exact j,t1,t2,t7,t8,t9,t91,t92,t93,t17,t113,t114,rfl⟩
       rw[ints_set,r5 hG] at bn
       rw[ao,Ii]
       rw[ints_set,r5 hG]
       exact bn
      .rw[GV bl] at ao
       simp(disch:=omega)only[↓wr,seval,wq,t1,t2,t7,t8,t9,t91,t92,t93,t17,t113,t114,t115]
       refine bC hz (by omega) ⟨?_,j,t1,t2,t7,t8,t9,t91,t92,t93,t17,t113,t114,rfl⟩
       rw[ao,Ii]
       exact a
     .rw[G9 (by simp[cb];omega),H8 (by omega),List.append_nil] at a
      subst hL
      have f8:=a.is 3 rfl (by simp)
      have cv:=(a.own 1 rfl).cells
      have kv:=(a.own 1 rfl).uq
      have hH:(fv bs).length<=40:=by
       have h1:=congrArg List.length cC
       simp only[G8,HW] at h1
       simp only[fv,G8]
       omega
      simp(disch:=omega)only[↓wr,seval,wq,t1,t2,t7,t8,t9,t91,t92,t93,t17,t113,t114,t115,f8,f17,cv,kv]
      intro m hm
      have eb:d≠m:=by rintro rfl;rw[j] at hm;simp at hm
      try simp(disch:=omega)only[↓wr,seval,wq,t1,t2,t7,t8,t9,t91,t92,t93,t17,gv]
      have bn:=(a.fresh (o:=.arr 3 [[gi (bO o r.left),v,gi r.prec]]) hm).at 7 (by simp)
      refine mf bn (by simp[rM,kv]) (by unfold aD;simp at hH ⊢;omega) (by unfold aD;simp at hH ⊢;omega) ?_
      intro hI H4 bx t
      have cu:=bx.head.cells
      have ku:=bx.head.uq
      have e0:=bx.is 4 rfl (by simp)
      have hJ:H4 d=.map (nS mm) C:=t.map (b:=d) bn.head (by simp[View.set,eb,j])
      have l1:d≠P:=(qR bx 4 rfl hJ).symm
      simp(disch:=omega)only[↓wr,seval,wq,t1,t2,t7,t8,t9,t91,t92,t93,t17,e0,cu,ku]
      have l2:=(bx.at 4 (by simp)).put (es':=[[B,I,hI,gi 0]]) rfl rfl
      have l3:=((((l2.at 2 (by simp)).tail).at 3 (by simp)).tail)
      refine bC hk (by omega) ⟨⟨hI,bs++[(v,cb (bO o) r)],?_,?_,by simp only[View.set,GV l1];exact hJ⟩,t1,t2,t7,t8,t9,t91,t92,rfl⟩
      .rw[Ip,cC,w,Ip];rfl
      .refine l3.perm (.cons _ ?_)
       simp only[lK,fv,Ip,H9,List.map_nil]
       refine .trans ?_ (oL _ 3 (by simp)).symm
       refine .cons _ ?_
       exact(List.perm_append_singleton (v,1,cq (cb (bO o) r).right) ((.sl n3 0 G.length 1,1,cq G)::(I,1,kN (o.map λx=>g.aB.getD x.toNat ⟨#[]⟩))::(B,3,g.an.map cd)::(.sl R 0 1 4,4,[[.emp 1,.emp 1,.emp 1,gi 0]])::lK bs)).symm
    .rw[G9 (by omega)] at cC
     have f8:=A.is 0 rfl (by simp)
     have f2:=A.is 5 rfl (by simp)
     have hK:P≠R:=A.GN 0 5 rfl rfl (by omega)
     have c1:=(A.own 2 rfl).cells
     have k1:=(A.own 2 rfl).uq
     have c2:=(A.own 4 rfl).cells
     have k2:=(A.own 4 rfl).uq
     have cN:∀x,(getM mm x).getD (gi 0)=gi (bO o x):=λx=>by
      rw[D.get,bO];cases bU (eU o 0) x<;>rfl
     simp(disch:=omega)only[↓wr,seval,wq,t1,t2,t7,t8,t9,t91,t92,t93,ax]
     refine tP (kt:=3) (et:=3) (z:=gi 0) (by kernel_rfl) (by kernel_rfl) (js .i64 Tryz.underlying3) (id:=d) (c:=C) (m:=mm) (k:=g.start) (by simp(disch:=omega)only[↓wr,seval,wq,t9]) (by simp(disch:=omega)only[↓wr,seval,wq]) j ?_
     rw[cN]
     simp(disch:=omega)only[↓wr,seval,wq,t1,t2,t7,t8,t9,t91,t92,t93,f8,f2,hK,hK.symm,c0,k0,c1,k1,c2,k2]
     intro h' hh
     have F:=A.put (es':=[[B,I,u2,gi (bO o g.start)]]) rfl rfl
     have e:=(F.at 5 (by simp)).put (es':=[[B,I,u2,gi (bO o g.start)]]) rfl rfl
     have hv:h'.view=(H2.set P (.arr 4 [[B,I,u2,gi (bO o g.start)]])).set R (.arr 4 [[B,I,u2,gi (bO o g.start)]]):=hh
     rw[<-hv] at e
     exact D9 (x:=(⟨g.an,o.map λx=>g.aB.getD x.toNat ⟨#[]⟩,(g.rules.filter (cE p q)).map (cb (bO o)),bO o g.start⟩,G,0)) (b:=bs) (e.own 4 rfl) (e.own 3 rfl) (e.own 5 rfl) (λy hy=>e.1 y (by
      refine Hw _ (Hw _ (Hw _ (Hw _ (Hw _ (Hw _ ?_)))))
      exact hy)) cC (e.own 2 rfl)
 .rename_i hr
  intro h' hh
  rw[GV (by simp[hr])]
  exact u7
theorem yF {l:List Int} {a b:List Bool} {t:Bool} (h:dT a b) (k:eM l a t=true):eM l b t=true:=by
 simp only[eM,Hg] at k ⊢
 intro s d
 have:=k s d
 by_cases c:0<=s
 .rw[GZ c] at this ⊢;exact this
 .rw[GV c] at this ⊢;exact h.2 _ this
theorem dT.EG {a b:List Bool} (h:dT a b) (k:dT b a):a=b:=by
 have c:=h.cA
 have d:=k.cA
 exact c.2 (by omega)
def im (g:ay) (t:Bool) (is:List Bool):Prop:=∀i,is.getD i false=true->∃r∈g.rules,r.left.toNat=i/\eM r.right is t=true
theorem im.step {g:ay} {t:Bool} {is:List Bool} {r:aI} (h:im g t is) (hr:r∈g.rules):im g t (ic t is r):=by
 have hle:dT is (ic t is r):=by
  unfold ic
  split
  .exact .set _ _
  .exact .refl _
 intro i hi
 by_cases e:is.getD i false=true
 .obtain⟨c,d,f,j⟩:=h i e
  exact⟨c,d,f,yF hle j⟩
 .unfold ic at hi
  by_cases a:eM r.right is t=true
  .rw[GZ a] at hi
   have:r.left.toNat=i:=by
    refine Classical.byContradiction λb=>e ?_
    simp only[GQ,Ir,GV b] at hi ⊢
    exact hi
   exact⟨r,hr,this,yF hle a⟩
  .rw[GV a] at hi;exact absurd hi e
theorem im.fold {g:ay} {t:Bool}:∀(l:List aI) (is:List Bool),(∀r∈l,r∈g.rules)->im g t is->im g t (l.foldl (ic t) is)
 | [],is,_,h=>h
 | r::l,is,a,h=>im.fold l _ (λx b=>a x (by simp[b])) (h.step (a r (by simp)))
theorem im.iter {g:ay} {t:Bool}:∀(n:Nat) (is:List Bool),im g t is->im g t (iter (ln g t) n is)
 | 0,_,h=>h
 | n+1,is,h=>im.iter n _ (im.fold g.rules is (λ_ h=>h) h)
theorem y9 (g:ay) (t:Bool):im g t (aL g t):=by
 unfold aL
 split
 .refine im.iter _ _ ?_
  intro i hi
  simp only[bI,GQ,List.getElem?_replicate] at hi
  split at hi<;>simp at hi
 .intro i hi;simp at hi
theorem yJ (is:List Bool) (s:Int):dT is (mark is s):=by
 unfold mark
 split
 .exact .set _ _
 .exact .refl _
theorem pR:∀(l:List Int) (is:List Bool),dT is (l.foldl mark is)
 | [],is=>.refl _
 | s::l,is=>(yJ is s).trans (pR l _)
theorem vM (p is:List Bool) (r:aI):dT is (ib p is r):=by
 unfold ib
 split
 .exact pR _ _
 .exact .refl _
theorem vl (p:List Bool):∀(l:List aI) (is:List Bool),dT is (l.foldl (ib p) is)
 | [],is=>.refl _
 | r::l,is=>(vM p is r).trans (vl p l _)
theorem sW {p:List Bool}:∀ {l:List aI} {is:List Bool},l.foldl (ib p) is=is->∀r∈l,ib p is r=is
 | [],_,_,_,h=>by simp at h
 | r::l,is,h,x,a=>by
  rw[H0] at h
  have b:=vl p l (ib p is r)
  rw[h] at b
  have c:=(b.EG (vM p is r))
  rcases Hi.1 a with rfl | a
  .exact c
  .rw[c] at h;exact sW h x a
theorem sU:∀ {l:List Int} {is:List Bool},l.foldl mark is=is->∀s∈l,mark is s=is
 | [],_,_,_,h=>by simp at h
 | r::l,is,h,x,a=>by
  rw[H0] at h
  have b:=pR l (mark is r)
  rw[h] at b
  have c:=(b.EG (yJ is r))
  rcases Hi.1 a with rfl | a
  .exact c
  .rw[c] at h;exact sU h x a
theorem s6 {g:ay} (hr:bQ g=true):m9 g (aL g true) (bE g)=bE g/\dT ((bI g).set g.start.toNat true) (bE g):=by
 have a:=b3 hr
 have h:=m4 (ke (aL g true)) g.rules 16 ((bI g).set g.start.toNat true) (by have:=a.aB;simp[bI];omega)
 rw[yq,BR hr] at h
 exact h
theorem wi {g:ay} (hr:bQ g=true):(bE g).getD g.start.toNat false=true:=by
 have a:=b3 hr
 refine(s6 hr).2.2 _ ?_
 have b:=a.pW
 have c:=a.start
 simp only[GQ]
 rw[List.getElem?_set_self (by simp[bI];omega)]
 rfl
theorem zu {g:ay} (hr:bQ g=true) {r:aI} (hm:r∈g.rules) (c:cE (aL g true) (bE g) r=true) {s:Int} (d:s∈r.right) (e:s<0):(bE g).getD (-1-s).toNat false=true:=by
 have f:=b3 hr
 have a:=sW (s6 hr).1 r hm
 unfold ib at a
 rw[cE] at c
 rw[GZ c] at a
 have b:=sU a s d
 unfold mark at b
 rw[GZ e] at b
 rw[<-b]
 have h:=kW hr
 have:=f.neg hm d e
 simp only[GQ]
 rw[List.getElem?_set_self (by omega)]
 rfl
theorem A5 {g:ay} (hr:bQ g=true) {x:Int} (e:0<=x) (hp:(aL g true).getD x.toNat false=true) (b:(bE g).getD x.toNat false=true):x∈cn (aL g true) (bE g) g.rules:=by
 obtain⟨r,a,f,c⟩:=y9 g true _ hp
 have d:=b3 hr
 have h:=d.left r a
 have:r.left=x:=by omega
 refine vT.2 ⟨r,a,?_,this⟩
 rw[cE,this,b,c];rfl
theorem zJ (g:ay):(if bQ g=true then
  if (aL g true).getD g.start.toNat false=true then (pI g (bO (cn (aL g true) (bE g) g.rules)) (aL g true) (bE g),b7 (aL g true) (bE g) g.rules 0,0)
  else (kr,[],9)
 else (kr,[],1))=gI g:=by
 unfold gI
 by_cases hr:bQ g=true
 .rw[GZ hr,GZ hr]
  by_cases hp:(aL g true).getD g.start.toNat false=true
  .rw[GZ hp,GZ hp]
   have d:=b3 hr
   rw[zZ]
   .exact A5 hr d.pW hp (wi hr)
   .intro r hm
    obtain⟨b,a⟩:=Ig.1 hm
    refine⟨vT.2 ⟨r,b,a,rfl⟩,λs c e=>?_⟩
    refine A5 hr (by omega) ?_ (zu hr b a c e)
    rw[cE,G0] at a
    have:=a.2
    simp only[eM,Hg] at this
    have:=this s c
    rwa [GV (by omega)] at this
  .rw[GV hp,GV hp]
 .rw[GV hr,GV hr]
theorem qS (g:ay) (a:g.Ok) (b:g.Small):aT aa 42 [.agg (ax g)] (nf (gI g)):=by
 rw[<-zJ];exact wg g a b
theorem bytes_beq (a b:ByteArray):(a==b)=decide (a=b):=by
 cases a with | mk a=>cases b with | mk b =>
 rw[HT]
 show (ByteArray.beq ⟨a⟩ ⟨b⟩=true)↔_
 simp only[ByteArray.beq]
 simp
theorem Av (a b:ByteArray):ej a b=decide (a=b):=by
 cases a with | mk a=>cases b with | mk b =>
 rw[HT]
 simp[ej]
theorem ox {α:Type} {a b:List α} {i:Nat} {x y:α} (c:a[i]?=some x) (d:b[i]?=some y) (h:a.take i=b.take i) (e:x=y):a.take (i+1)=b.take (i+1):=by
 rw[Hn,Hn,h,c,d,e]
theorem qH {α:Type} {a b:List α} {i:Nat} (c:a.length<=i) (d:b.length<=i) (h:a.take i=b.take i):a=b:=by
 rwa [G9 c,G9 d] at h
theorem tE {α:Type} {a b:List α} {i:Nat} {x y:α} (d:a[i]?=some x) (c:b[i]?=some y) (e:x≠y):a≠b:=by
 rintro rfl;rw[d] at c;exact e (by simpa using c)
theorem qD {α:Type} {a b:List α} (h:¬ a.length=b.length):a≠b:=λe=>h (by rw[e])
theorem wv (x y:Term):dV aa 9998 #[.string x.name,.int .i64 x.level,.int .i64 x.assoc] #[.string y.name,.int .i64 y.level,.int .i64 y.assoc]
  [{ name:= "Name",type:=9,offset:=0,embedded:=false,tag:= "",pkgPath:= "",byteOffset:=0 },{ name:= "Level",type:=3,offset:=1,embedded:=false,tag:= "",pkgPath:= "",byteOffset:=16 },
   { name:= "Assoc",type:=3,offset:=2,embedded:=false,tag:= "",pkgPath:= "",byteOffset:=24 }] (x.name==y.name&&(x.level==y.level&&(x.assoc==y.assoc&&true))):=
 .str _ _ _ _ _ (by decide) Tryz.underlying9 rfl rfl (.int _ _ _ _ _ _ (by decide) Tryz.underlying3 rfl rfl (.int _ _ _ _ _ _ (by decide) Tryz.underlying3 rfl rfl .nil))
theorem Ep (x y:Term):(x.name==y.name&&(x.level==y.level&&(x.assoc==y.assoc&&true)))=decide (x=y):=by
 rw[bytes_beq,HT]
 cases x;cases y
 simp
theorem DV (a b:Int):(a==b)=decide (a=b):=by rw[HT];simp
theorem C1 (x y:aI):decide (x=y)=(decide (x.left=y.left)&&(decide (x.prec=y.prec)&&decide (x.right=y.right))):=by
 cases x;cases y
 rw[HT]
 simp[and_comm]
theorem C4 (x y:ay):decide (x=y)=(decide (x.an=y.an)&&(decide (x.aB=y.aB)&&(decide (x.rules=y.rules)&&decide (x.start=y.start)))):=by
 cases x;cases y
 rw[HT]
 simp
theorem zW (g k:ay):∀v∈[V.agg (ax g),V.agg (ax k)],Tree v:=by
 intro v a;simp at a
 rcases a with rfl | rfl<;>exact dD _ (eP _)
end Gv
