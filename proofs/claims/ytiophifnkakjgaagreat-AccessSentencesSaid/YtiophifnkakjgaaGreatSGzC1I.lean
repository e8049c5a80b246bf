/-
  Part 9 of the proof: what the machine does and what the functions answer.
  Conditions: those that each lemma names.
-/
import Derived.ProofKit
import Derived.SizedLaws
import Derived.Test.YtiophifnkakjgaaGreatSGzC1H
set_option linter.unusedSimpArgs false
set_option linter.unusedVariables false
set_option maxRecDepth 100000
set_option maxHeartbeats 20000000
namespace Gv
open Go Go.Proofs
def ui (is:List Bool) (l:List Int):List Bool:=l.foldl (λis n=>is.set n.toNat true) is
def stepG (comes:aX->List Bool->List Int) (is:List Bool) (r:aX):List Bool:=ui is (comes r is)
def eU (comes:aX->List Bool->List Int) (rules:List aX) (is:List Bool):List Bool:=rules.foldl (stepG comes) is
def gf (a b:List Bool):Prop:=a.length=b.length/\∀ i,a.getD i false=true->b.getD i false=true
theorem gf.refl (a:List Bool):gf a a:=⟨rfl,λ_ h=>h⟩
theorem gf.trans {a b c:List Bool} (h:gf a b) (k:gf b c):gf a c:=⟨h.1.trans k.1,λi hi=>k.2 i (h.2 i hi)⟩
theorem gf.set (a:List Bool) (i:Nat):gf a (a.set i true):=by
 refine⟨by simp,λj h=>?_⟩
 simp only[aaA,abW] at h ⊢
 split
 .split
  .rfl
  .rename_i e b;rw[<-e,aa6 (by omega)] at h;simp at h
 .exact h
theorem Kg:∀ (l:List Int) (is:List Bool),gf is (ui is l)
 | [],is=>.refl _
 | n :: l,is=>(gf.set is n.toNat).trans (Kg l _)
theorem wb (comes:aX->List Bool->List Int):∀ (rules:List aX) (is:List Bool),gf is (eU comes rules is)
 | [],is=>.refl _
 | r :: rs,is=>(Kg _ _).trans (wb comes rs _)
def dQ (a:List Bool):Nat:=a.countP λx=>x
theorem rR (a:List Bool):dQ a<=a.length:=List.countP_le_length
theorem gf.dQ:∀ {a b:List Bool},gf a b->dQ a<=dQ b/\(dQ a=dQ b->a=b)
 | [],[],_=>⟨aaM _,λ_=>rfl⟩
 | [],_ :: _,h=>by simp[gf] at h
 | _ :: _,[],h=>by simp[gf] at h
 | x :: a,y :: b,h=>by
  have c:x=true->y=true:=λe=>by have:=h.2 0 (by simpa using e);simpa using this
  obtain⟨h1,d⟩:=gf.dQ (a:=a) (b:=b) ⟨by simpa using h.1,λi hi=>by have:=h.2 (i+1) (by simpa using hi);simpa using this⟩
  unfold Gv.dQ at h1 d ⊢
  simp only[List.countP_cons]
  cases x with
  | true =>
   have:=c rfl;subst this
   simp only[if_true]
   exact⟨by omega,λe=>by rw[d (by omega)]⟩
  | false =>
   cases y with
   | false=>simp only[aba,if_false];exact⟨by omega,λe=>by rw[d (by omega)]⟩
   | true=>simp only[aba,if_false,if_true];exact⟨by omega,λe=>by omega⟩
def iQ (comes:aX->List Bool->List Int) (rules:List aX):Nat->List Bool->List Bool
 | 0,is=>is
 | k+1,is=>if eU comes rules is=is then is else iQ comes rules k (eU comes rules is)
theorem wv (comes:aX->List Bool->List Int) (rules:List aX):∀ (k:Nat) (is:List Bool),is.length<=dQ is+k->eU comes rules (iQ comes rules k is)=iQ comes rules k is/\gf is (iQ comes rules k is)
 | 0,is,h=>by
  have h1:=wb comes rules is
  have b:=rR (eU comes rules is)
  have a:=h1.dQ
  rw[<-h1.1] at b
  have c:=rR is
  exact⟨(a.2 (by omega)).symm,.refl _⟩
 | k+1,is,h=>by
  simp only[iQ]
  by_cases e:eU comes rules is=is
  .rw[aaF e];exact⟨e,.refl _⟩
  .rw[aaD e]
   have h1:=wb comes rules is
   have a:=h1.dQ
   have:dQ is < dQ (eU comes rules is):=by
    rcases aa2 (dQ is) (dQ (eU comes rules is)) with h | h
    .exact h
    .exact absurd (a.2 (by omega)).symm e
   obtain⟨g1,g2⟩:=wv comes rules k (eU comes rules is) (by rw[<-h1.1];omega)
   exact⟨g1,h1.trans g2⟩
def Ab:SC :=
 ae [ab [aQ 26 .lss 25 24],bX 26 (.exit 4),.block 5 (ae [ab [aO 27 1 23 25,ak 28 27,aa 11 28],.region false [⟨none,[aa 29 7,aa 30 29]⟩,⟨(some (30,false)),[aa 31 1,aa 32 11,aO 33 1 31 32,ak 34 33,c9 35 34]⟩,⟨none,[cy 36 30 35,aa 7 36]⟩],ab [aa 37 1,aa 38 11,aO 39 1 37 38,(none,.op (.store 1 (.tmp 39) (.val (.val (.bool true)))))]]),ab [aF 40 .add 25 1,aa 25 40]]
def Aj:SC :=
 ae [ab [aQ 17 .lss 16 15],bX 17 (.exit 2),.block 3 (ae [ab [aO 18 3 14 16,aZ 19 3 18,((some 9),.op (.alloc [(.val (.int .i64 0)),(.emp 1),(.val (.int .i64 0))])),cD 3 9 19],ab [aa 20 2,aZ 21 3 9,aa 22 1,((some 23),.call (.tmp 20) [(.tmp 21),(.tmp 22)]),aN 24 23,aR 25 0],bZ 4 Ab]),ab [aF 41 .add 16 1,aa 16 41]]
def tv:SC :=
 ae [ae [ab [aa 12 7],bX 12 (.exit 0)],.block 1 (ae [ab [bB 7 false],ab [ao 13 2 3,ak 14 13,aN 15 14,aR 16 0],bZ 2 Aj])]
def CZ:SF:=⟨ae [ab [cF 3 0,bT 6 1],ae [ab [bB 7 true],bZ 0 tv],ab [aa 42 1,aa 6 42],.ret],
 [.tmp 6],43⟩
theorem Gc:aP Tryz.prog 173 [3]=some CZ:=by kernel_rfl
theorem UI {is:List Bool} {i:Nat} (h:is.getD i false=true):is.set i true=is:=by
 apply List.ext_getElem?
 intro j
 simp only[aaA] at h
 rw[abW]
 split
 .rename_i e;subst e
  split
  .rename_i a;rw[aaB a] at h ⊢;simp at h;simp[h]
  .rename_i a;rw[aa6 (by omega)] at h;simp at h
 .rfl
theorem P2 {comes:aX->List Bool->List Int} {rules:List aX} {k:Nat} {is:List Bool} (h:eU comes rules is=is):iQ comes rules k is=is:=by
 cases k with
 | zero=>rfl
 | succ k=>simp only[iQ,h,if_true]
theorem PD {comes:aX->List Bool->List Int} {rules:List aX} {k:Nat} {is:List Bool} (h:¬ eU comes rules is=is) (hk:is.length<=dQ is+k):∃ j,k=j+1/\iQ comes rules k is=iQ comes rules j (eU comes rules is)/\(eU comes rules is).length<=dQ (eU comes rules is)+j:=by
 have h1:=wb comes rules is
 have a:=h1.dQ
 have b:=rR (eU comes rules is)
 have:dQ is < dQ (eU comes rules is):=by
  rcases aa2 (dQ is) (dQ (eU comes rules is)) with h | h
  .exact h
  .exact absurd (a.2 (by omega)).symm (by assumption)
 have c:=h1.1
 obtain⟨j,rfl⟩:∃ j,k=j+1:=⟨k - 1,by omega⟩
 exact⟨j,rfl,by simp only[iQ];rw[aaD h],by omega⟩
theorem U5 {a is:List Bool} {i:Nat} {b:Bool} (hle:gf a is) (hi:i < is.length) (d:b = !decide (is=a)):(b || !is.getD i false) = !decide (is.set i true=a):=by
 cases c:is.getD i false with
 | true=>rw[UI c,d];simp
 | false =>
  have:¬ is.set i true=a:=λe=>by
   have h1:(is.set i true).getD i false=true:=by simp[aaA,hi]
   rw[e] at h1
   have:=hle.2 i h1
   rw[c] at this;simp at this
  simp[this]
theorem NP (g:af) (hr:g.rules.length<=40) (comes:aX->List Bool->List Int) (f:FuncId) (t D:List V) (ar:ed Tryz.prog f=true) (N:Nat) (hN:N<=16)
  (hc:∀ r∈g.rules,∀ is:List Bool,is.length=N->cK Tryz.prog f (.agg (bg r) :: cI is :: D) (encI (comes r is))/\(comes r is).length<=100/\∀ n∈comes r is,bM n/\0<=n/\n < N)
  (id:Nat) (A:List Bool) (a6:A.length=N) (H:View) (hH:H id=.arr 1 (dU A)) (O:∀ H':View,(∀ k,H k≠.dead->k≠id->H' k=H k)->qm H' t D) :
  aw Tryz.prog 173 [.agg (ag g),.sl id 0 N 1,.fn f [] t] H λr H'=>r=.sl id 0 N 1/\H' id=.arr 1 (dU (iQ comes g.rules 16 A))/\∀ k,H k≠.dead->k≠id->H' k=H k:=by
 refine aw.of mixed Gc ?_
 simp(disch:=omega)only[↓wr,seval,wq,CZ,ag,encS]
 refine ba.intro (λk T H'=>∃ is:List Bool,is.length=N/\H' id=.arr 1 (dU is)/\(∀ k,H k≠.dead->k≠id->H' k=H k)/\T 1=.sl id 0 N 1/\T 2=.fn f [] t/\T 3=.aL (ag g) 0 /\
  ((T 7=gb true/\∃ j,k=j+1/\iQ comes g.rules j is=iQ comes g.rules 16 A/\N<=dQ is+j)∨(T 7=gb false/\is=iQ comes g.rules 16 A))) 17 ?_ ?_
 .exact⟨A,a6,hH,λ_ _ _=>rfl,rfl,rfl,rfl,.inl ⟨rfl,16,rfl,rfl,by omega⟩⟩
 rintro k T H1 ⟨is,hlen,o,p,t1,t2,t3,u⟩
 rcases u with ⟨u,j,rfl,J,hj⟩ | ⟨u,J⟩
 .simp(disch:=omega)only[↓wr,seval,wq,tv,t1,t2,t3,u,ag,encS]
  refine ba.up g.rules.length (λi T H'=>∃ rp:List Bool,rp.length=N/\gf is rp/\rp=(g.rules.take i).foldl (stepG comes) is/\H' id=.arr 1 (dU rp)/\(∀ k,H k≠.dead->k≠id->H' k=H k)/\T 1=.sl id 0 N 1/\T 2=.fn f [] t/\T 3=.aL (ag g) 0 /\
   T 7=gb (!decide (rp=is))/\T 14=.aU (g.rules.map bg)/\T 15=gi g.rules.length/\T 16=gi i) ?_ ?_
  .exact⟨is,hlen,.refl _,rfl,o,p,t1,t2,t3,by simp;rfl,rfl,rfl,rfl⟩
  clear t1 t2 t3 u o p
  rintro i k T H1 hk ⟨rp,s,W,P,o,p,t1,t2,t3,u,c,d,m⟩
  simp(disch:=omega)only[↓wr,seval,wq,Aj,t1,t2,t3,u,c,d,m,ag,encS]
  apply aj.dec<;>intro a8
  .have Q:g.rules[i]?=some (g.rules[i]'(by omega)):=aaB (by omega)
   have M:g.rules[i]'(by omega)∈g.rules:=aaL _
   have X:(g.rules.take (i+1)).foldl (stepG comes) is=stepG comes ((g.rules.take i).foldl (stepG comes) is) (g.rules[i]'(by omega)):=by
    rw[aa3,Q,abR];rfl
   generalize g.rules[i]'(by omega)=r at Q M X
   obtain⟨bd,bl,Y⟩:=hc r M rp s
   simp(disch:=omega)only[↓wr,seval,wq,t1,t2,t3,u,c,d,m,bg,encI,aaE,Q]
   intro b R
   have E:b≠id:=by rintro rfl;rw[o] at R;simp at R
   try simp(disch:=omega)only[↓wr,seval,wq,t1,t2,t3,u,c,d,m]
   refine ax.ub bd ar ⟨cR.tree (bL _ (ja r)),Fq (by simp[View.set,E.symm,o]) s.symm,O _ (λk hk v=>?_)⟩ ?_
   .have S:k≠b:=by
     rintro rfl
     rw[p k hk v] at R
     exact hk R
    simp[View.set,S,p k hk v]
   generalize hl:comes r rp=l at bl Y
   simp(disch:=omega)only[↓wr,seval,wq,t1,t2,t3,u,c,d,m,encI]
   refine ba.up l.length (λq T H'=>∃ a:List Bool,a.length=N/\gf is a/\a=ui rp (l.take q)/\H' id=.arr 1 (dU a)/\(∀ k,H k≠.dead->k≠id->H' k=H k)/\T 1=.sl id 0 N 1/\T 2=.fn f [] t/\T 3=.aL (ag g) 0 /\
    T 7=gb (!decide (a=is))/\T 14=.aU (g.rules.map bg)/\T 15=gi g.rules.length/\T 16=gi i/\T 23=encI l/\T 24=gi l.length/\T 25=gi q) ?_ ?_
   .refine⟨rp,s,W,rfl,by simp[View.set,E.symm,o],λk hk v=>?_,t1,t2,t3,u,c,d,m,rfl,rfl,rfl⟩
    have S:k≠b:=by
     rintro rfl
     rw[p k hk v] at R
     exact hk R
    simp[View.set,S,p k hk v]
   clear t1 t2 t3 u c d m o p R E
   rintro q k2 T H1 bn ⟨a,F,G,I,o,p,t1,t2,t3,u,c,d,m,w,y,B⟩
   simp(disch:=omega)only[↓wr,seval,wq,Ab,t1,t2,t3,u,c,d,m,w,y,B,encI]
   apply aj.dec<;>intro br
   .have U:l[q]?=some (l[q]'(by omega)):=aaB (by omega)
    have Z:l[q]'(by omega)∈l:=aaL _
    have an:ui rp (l.take (q+1))=(ui rp (l.take q)).set (l[q]'(by omega)).toNat true:=by
     unfold ui;rw[aa3,U,abR];rfl
    generalize l[q]'(by omega)=n at U Z an
    obtain⟨⟨n1,n2⟩,n3,n4⟩:=Y n Z
    have aq:a.getD n.toNat false=a[n.toNat]'(by omega):=by simp[aaA,show n.toNat < a.length by omega]
    have z:=U5 G (show n.toNat < a.length by omega) (b:=!decide (a=is)) rfl
    rw[aq] at z
    have K:=mb (show n.toNat < a.length by omega)
    generalize a[n.toNat]'(by omega)=x at z K aq
    have fin:∀ (C:Env),C 7=gb (!decide (a.set n.toNat true=is))->C 1=.sl id 0 N 1->C 2=.fn f [] t->C 3=.aL (ag g) 0->C 14=.aU (g.rules.map bg)->C 15=gi g.rules.length->C 16=gi i->C 23=encI l->C 24=gi l.length->C 25=gi ((q:Int)+1) ->
      ∃ k',k' < k2/\EY l.length k' (λq T H'=>∃ a:List Bool,a.length=N/\gf is a/\a=ui rp (l.take q)/\H' id=.arr 1 (dU a)/\(∀ k,H k≠.dead->k≠id->H' k=H k)/\T 1=.sl id 0 N 1/\T 2=.fn f [] t/\T 3=.aL (ag g) 0 /\
       T 7=gb (!decide (a=is))/\T 14=.aU (g.rules.map bg)/\T 15=gi g.rules.length/\T 16=gi i/\T 23=encI l/\T 24=gi l.length/\T 25=gi q) C (H1.set id (.arr 1 (dU (a.set n.toNat true)))):=by
     intro C a7 a1 a2 a3 bs bx b0 a23 a24 a25
     refine aG bn (by omega) ⟨a.set n.toNat true,by simp[F],G.trans (.set _ _),by rw[an,<-I],by simp[View.set],λk hk v=>by simp[View.set,v,p k hk v],a1,a2,a3,a7,bs,bx,b0,a23,a24,by rw[a25];rfl⟩
    simp(disch:=omega)only[↓wr,seval,wq,t1,t2,t3,u,c,d,m,w,y,B,encI,aaE,U]
    apply aj.dec<;>intro e
    .simp(disch:=omega)only[↓wr,seval,wq,t1,t2,t3,u,c,d,m,w,y,B,encI,o,K,aaJ]
     refine⟨by omega,by omega,?_⟩
     try simp(disch:=omega)only[↓wr,seval,wq,t1,t2,t3,u,c,d,m,w,y,B,encI,o,K,aaJ]
     refine⟨by omega,by omega,?_⟩
     rw[lU]
     exact fin _ (by rw[<-z];simp[e];rfl) t1 t2 t3 c d m w y rfl
    .simp(disch:=omega)only[↓wr,seval,wq,t1,t2,t3,u,c,d,m,w,y,B,encI,o,K,aaJ]
     refine⟨by omega,by omega,?_⟩
     rw[lU]
     exact fin _ (by rw[<-z];simp[e];rfl) t1 t2 t3 c d m w y rfl
   .rw[aaS (by omega)] at I
    simp(disch:=omega)only[↓wr,seval,wq,t1,t2,t3,u,c,d,m,w,y,B]
    refine aG hk (by omega) ⟨a,F,G,?_,o,p,t1,t2,t3,u,c,d,rfl⟩
    rw[X,<-P,stepG,hl,<-I]
  .rw[aaS (by omega)] at P
   simp(disch:=omega)only[↓wr,seval,wq,t1,t2,t3,u,c,d,m]
   have L:rp=eU comes g.rules is:=P
   by_cases e:rp=is
   .refine⟨0,by omega,rp,s,o,p,rfl,.inr ⟨by simp[e],?_⟩⟩
    rw[<-J,e]
    exact(P2 (by rw[<-L];exact e)).symm
   .obtain⟨j2,rfl,e2,e3⟩:=PD (k:=j) (λh=>e (L.trans h)) (by rw[hlen];exact hj)
    refine⟨j2+1,by omega,rp,s,o,p,rfl,.inl ⟨by simp[e],j2,rfl,?_,?_⟩⟩
    .rw[<-J,e2,L]
    .rw[<-L,s] at e3;exact e3
 .simp(disch:=omega)only[↓wr,seval,wq,tv,t1,t2,t3,u,ag,encS]
  exact⟨J ▸ o,p⟩
theorem zP {α:Type} {f:α->α} {x:α} (h:f x=x):∀ n,iter f n x=x
 | 0=>rfl
 | n+1=>by rw[iter,h,zP h n]
theorem Lo {α:Type} (f:α->α):∀ (a b:Nat) (x:α),iter f (a+b) x=iter f b (iter f a x)
 | 0,b,x=>by rw[abq];rfl
 | a+1,b,x=>by rw[Nat.add_right_comm,iter,iter,Lo f a b]
theorem Ec (comes:aX->List Bool->List Int) (rules:List aX):∀ (k:Nat) (is:List Bool),iQ comes rules k is=iter (eU comes rules) k is
 | 0,is=>rfl
 | k+1,is=>by
  simp only[iQ,iter]
  by_cases e:eU comes rules is=is
  .rw[aaF e,e,zP e]
  .rw[aaD e,Ec comes rules k]
theorem AP (comes:aX->List Bool->List Int) (rules:List aX) (is:List Bool) (h:is.length<=16):iQ comes rules 16 is=iter (eU comes rules) is.length is:=by
 have h1:=(wv comes rules is.length is (by omega)).1
 rw[Ec] at h1 ⊢
 obtain⟨m,hm⟩:∃ m,16=is.length+m:=⟨16 - is.length,by omega⟩
 rw[hm,Lo,zP h1]
def uC (t:Bool) (r:aX) (is:List Bool):List Int:=if dB r.right is t=true then [r.left] else []
def uU (p:List Bool) (r:aX) (is:List Bool):List Int:=if (is.getD r.left.toNat false && dB r.right p true)=true then iq r.right else []
theorem NW (g:af) (t:Bool):eU (uC t) g.rules=lg g t:=by
 funext is
 unfold eU lg
 congr 1
 funext is r
 unfold stepG uC fi
 split <;> rfl
theorem E9:∀ (l:List Int) (is:List Bool),ui is (iq l)=l.foldl mark is
 | [],is=>rfl
 | s :: l,is=>by
  have a:=E9 l
  unfold ui iq at a ⊢
  rw[abc,<-a]
  unfold mark
  by_cases h:s < 0
  .rw[aaF h,List.filter_cons_of_pos (by simpa using h)];rfl
  .rw[aaD h,List.filter_cons_of_neg (by simpa using h)]
theorem Of (g:af) (p:List Bool):eU (uU p) g.rules=ql g p:=by
 funext is
 unfold eU ql
 congr 1
 funext is r
 unfold stepG uU gJ
 split
 .exact E9 _ _
 .rfl
theorem Q4 {g:af} (h:bp g=true) (t:Bool):iQ (uC t) g.rules 16 (cQ g)=av g t:=by
 have a:=bj h
 have b:(cQ g).length=g.al.length:=by simp[cQ]
 have:=a.al
 rw[AP _ _ _ (by rw[b];exact a.al),NW,b,av,aaF h]
theorem Tn {g:af} (h:bp g=true):iQ (uU (av g true)) g.rules 16 ((cQ g).set g.start.toNat true)=bP g:=by
 have b:=bj h
 have a:((cQ g).set g.start.toNat true).length=g.al.length:=by simp[cQ]
 rw[AP _ _ _ (by rw[a];exact b.al),Of,a,bP,aaF h]
def tD:SF:=⟨ae [ab [cF 1 0,bT 2 1],ae [ab [aZ 3 4 1,bk 4 89 [3],c9 5 4],bb 5 (ae [ab [bT 2 1],.ret])],ab [aZ 6 4 1,ao 7 1 1,ak 8 7,aN 9 8,((some 10),.op (.make 1 1 [(.val (.bool false))] (.tmp 9) (.tmp 9))),qw 11 173 [(.tmp 6),(.tmp 10),(.val (.fn 226 [] []))],aa 2 11],.ret],
 [.tmp 2],12⟩
theorem zW:aP Tryz.prog 161 [1]=some tD:=by kernel_rfl
def uD:SF:=⟨ae [ab [cF 1 0,bT 2 1],ae [ab [aZ 5 4 1,bk 6 89 [5],c9 7 6],bb 7 (ae [ab [bT 2 1],.ret])],ab [aZ 8 4 1,bk 9 161 [8],((some 3),.op (.alloc [(.emp 1)])),cD 1 3 9],ab [ao 10 1 1,ak 11 10,aN 12 11,((some 13),.op (.make 1 1 [(.val (.bool false))] (.tmp 12) (.tmp 12))),aa 4 13],ab [aa 14 4,ao 15 3 1,ak 16 15,aO 17 1 14 16,(none,.op (.store 1 (.tmp 17) (.val (.val (.bool true)))))],ab [aZ 18 4 1,aa 19 4,((some 20),.op (.xl 227 [] [(.tmp 3)])),bk 21 173 [18,19,20],aa 2 21],.ret],
 [.tmp 2],22⟩
theorem AB:aP Tryz.prog 162 [1]=some uD:=by kernel_rfl
structure af.Small (g:af):Prop where
 names:g.al.length+g.ai.length<=1000
theorem HW {a:aE} {id n:Nat} {is:List Bool} (b:a.view id=.arr 1 (dU is)) (c:n=is.length):cM a (.sl id 0 n 1) (cI is):=by
 subst c;exact BP b
theorem yf (g:af) (d:g.Ok) (i:g.Small):cK Tryz.prog 161 [.agg (ag g)] (cI (av g true)):=by
 refine cK.of (eK g) ?_
 refine aw.of mixed zW ?_
 have j:=d.al
 unfold aK at j
 simp(disch:=omega)only[↓wr,seval,wq,tD,ag,encS]
 refine ax.pure (vN g d i.names) ?_
 repeat' (first | ((first|apply aj.dec|apply aj.eq|apply aj.ne|apply aj.split)<;>intro)|(simp(disch:=omega)only[↓wr,seval,wq,ag,encS]))
 .rename_i hr
  have b:=bj hr
  have h1:=b.sm
  have k:=b.al
  try simp(disch:=omega)only[↓wr,seval,wq,ag,encS]
  refine⟨⟨by omega,by unfold aC;omega,by unfold aC;omega⟩,λh=>by omega,?_⟩
  intro _ n
  try simp(disch:=omega)only[↓wr,seval,wq,ag,encS]
  refine ax.eM ((NP g b.rules (uC true) 226 [] [] (by kernel_rfl) g.al.length k (λr a is e=>⟨GU r is (by rw[e];exact b.yn d a),?_,?_⟩) n (cQ g) (by simp[cQ]) _ (by simp[View.set,cQ]) (λH' _=>trivial)).mono ?_)
  .unfold uC;split <;> simp
  .intro m hm
   unfold uC at hm
   split at hm
   .simp only[abL] at hm;subst hm
    exact⟨(d.au r a).1,b.left r a⟩
   .simp at hm
  .rintro r H' ⟨rfl,c,_⟩
   simp(disch:=omega)only[↓wr,seval,wq]
   intro l f
   rw[Q4 hr] at c
   exact HW (by rw[f];exact c) (jf hr _).symm
 .rename_i hr
  intro l f
  simp only[av,hr]
  exact .emp _
theorem sd {g:af} (hr:bp g=true):(bP g).length=g.al.length:=by
 rw[bP,aaF hr,DO (f:=ql g (av g true)) (λis=>DH (λis x=>RM _ is x) g.rules is)]
 simp[cQ]
theorem IX (g:af) (f:g.Ok) (w:g.Small):cK Tryz.prog 162 [.agg (ag g)] (cI (bP g)):=by
 refine cK.of (eK g) ?_
 refine aw.of mixed AB ?_
 have A:=f.al
 unfold aK at A
 simp(disch:=omega)only[↓wr,seval,wq,uD,ag,encS]
 refine ax.pure (vN g f w.names) ?_
 repeat' (first | ((first|apply aj.dec|apply aj.eq|apply aj.ne|apply aj.split)<;>intro)|(simp(disch:=omega)only[↓wr,seval,wq,ag,encS]))
 .rename_i hr
  have d:=bj hr
  have h1:=d.sm
  have B:=d.al
  have D:=d.kj
  have E:=d.start
  have p:=jf hr true
  try simp(disch:=omega)only[↓wr,seval,wq,ag,encS]
  refine ax.pure (yf g f w).pure ?_
  simp(disch:=omega)only[↓wr,seval,wq,ag,encS,cI]
  intro q
  try simp(disch:=omega)only[↓wr,seval,wq,ag,encS,set_set]
  refine⟨⟨by omega,by unfold aC;omega,by unfold aC;omega⟩,λh=>by omega,?_⟩
  intro _ n t
  have e:=(cq t cm).1
  try simp(disch:=omega)only[↓wr,seval,wq,ag,encS,set_set]
  have i:=mb (is:=cQ g) (show g.start.toNat < (cQ g).length by simp[cQ];omega)
  refine⟨by omega,by simp;omega,?_⟩
  refine ax.eM ((NP g d.rules (uU (av g true)) 227 [.ptr q 0 0] [.aL [cI (av g true)] 0] (by kernel_rfl) g.al.length B (λr c is j=>⟨I2 r is (av g true) (by rw[j];exact d.yn f c) (by rw[j,p]),?_,?_⟩) n ((cQ g).set g.start.toNat true) (by simp[cQ]) _ ?_ (λH' u=>⟨cR.box (z:=1) ?_ ?_,trivial⟩)).mono ?_)
  .have F:=d.right r c
   unfold uU
   split
   .have:(iq r.right).length<=r.right.length:=by simp only[iq,aaJ];exact abJ _ _
    omega
   .simp
  .intro m hm
   unfold uU at hm
   split at hm
   .simp only[iq,aaX,abt,aaP] at hm
    obtain⟨s,⟨k,l⟩,rfl⟩:=hm
    have a:=d.neg c k l
    have b:=((f.au r c).2.2.2 s k).1
    exact⟨⟨by omega,by omega⟩,by omega,a⟩
   .simp at hm
  .simp only[View.set,if_true]
   congr 1
   rw[<-lU]
   unfold cQ at i ⊢
   rw[BU,i]
   rfl
  .rw[u q (by simp[View.set,Ne.symm e]) (Ne.symm e)]
   simp[View.set,Ne.symm e]
   rfl
  .intro v x;simp at x;subst x;exact im _
  .rintro r H' ⟨rfl,o,_⟩
   simp(disch:=omega)only[↓wr,seval,wq]
   intro C y
   rw[Tn hr] at o
   exact HW (by rw[y];exact o) (by rw[sd hr])
 .rename_i hr
  intro C y
  simp only[bP,hr]
  exact .emp _
def cB (p q:List Bool) (r:aX):Bool:=q.getD r.left.toNat false && dB r.right p true
def dD (p q:List Bool):List aX->Int->List Int
 | [],_=>[]
 | r :: l,i=>if cB p q r=true then i :: dD p q l (i+1) else dD p q l (i+1)
def gI (acc:List Int) (r:aX):List Int:=if r.left∈acc then acc else acc ++ [r.left]
def cL (p q:List Bool) (l:List aX):List Int:=(l.filter (cB p q)).foldl gI []
def bN (o:List Int) (x:Int):Int:=dM (λy=>y == x) o 0
def bS (f:Int->Int) (r:aX):aX:=⟨f r.left,r.right.map λs=>if s < 0 then -1 - f (-1 - s) else s,r.prec⟩
def rq (g:af) (f:Int->Int) (p q:List Bool):af :=
 ⟨g.ai,(cL p q g.rules).map λx=>g.al.getD x.toNat ⟨#[]⟩,(g.rules.filter (cB p q)).map (bS f),f g.start⟩
def tC:af:=⟨[],[],[],0⟩
instance:DecidableEq Term:=λa b=>decidable_of_iff (a.name=b.name/\a.level=b.level/\a.assoc=b.assoc) (by cases a;cases b;simp)
instance:DecidableEq aX:=λa b=>decidable_of_iff (a.left=b.left/\a.prec=b.prec/\a.right=b.right) (by cases a;cases b;simp[and_comm])
instance:DecidableEq af:=λa b=>decidable_of_iff (a.ai=b.ai/\a.al=b.al/\a.rules=b.rules/\a.start=b.start) (by cases a;cases b;simp)
def gv (g:af):af × List Int × Int :=
 if bp g=true then
  if (av g true).getD g.start.toNat false=true then (rq g (bN (cL (av g true) (bP g) g.rules)) (av g true) (bP g),dD (av g true) (bP g) g.rules 0,0)
  else (tC,[],9)
 else (tC,[],1)
theorem mB {g:af} (hr:bp g=true):gv g=if (av g true).getD g.start.toNat false=true then (rq g (bN (cL (av g true) (bP g) g.rules)) (av g true) (bP g),dD (av g true) (bP g) g.rules 0,0) else (tC,[],9):=by
 rw[gv,aaF hr]
theorem mr (p q:List Bool):∀ (a b:List aX) (i:Int),dD p q (a ++ b) i=dD p q a i ++ dD p q b (i+a.length)
 | [],b,i=>by simp[dD]
 | r :: a,b,i=>by
  simp only[abk,dD,mr p q a b (i+1),aaN]
  have:i+1+(a.length:Int)=i+((a.length+1:Nat):Int):=by push_cast;omega
  rw[this]
  split <;> simp
theorem mw (p q:List Bool):∀ (a:List aX) (i:Int),(dD p q a i).length=(a.filter (cB p q)).length
 | [],i=>rfl
 | r :: a,i=>by
  simp only[dD,List.filter_cons]
  split <;> simp[mw p q a]
theorem wA (p q:List Bool):∀ (a:List aX) (i:Int) (k:Nat),k < (dD p q a i).length->∃ m:Nat,(dD p q a i)[k]?=some (i+m)/\a[m]?=(a.filter (cB p q))[k]?/\m < a.length
 | [],i,k,h=>by simp[dD] at h
 | r :: a,i,k,h=>by
  simp only[dD,List.filter_cons] at h ⊢
  by_cases hr:cB p q r=true
  .rw[aaF hr] at h ⊢
   rw[aaF hr]
   cases k with
   | zero=>exact⟨0,by simp,by simp,by simp⟩
   | succ k =>
    obtain⟨m,h1,b,c⟩:=wA p q a (i+1) k (by simpa using h)
    exact⟨m+1,by rw[abr,h1];congr 1;push_cast;omega,by simpa using b,by simpa using c⟩
  .rw[aaD hr] at h ⊢
   rw[aaD hr]
   obtain⟨m,h1,b,c⟩:=wA p q a (i+1) k h
   exact⟨m+1,by rw[h1];congr 1;push_cast;omega,by simpa using b,by simpa using c⟩
theorem wD (p q:List Bool) (l:List aX) (r:aX):cL p q (l ++ [r])=if cB p q r=true then gI (cL p q l) r else cL p q l:=by
 unfold cL
 rw[ach]
 by_cases h:cB p q r=true
 .rw[aaF h,List.filter_cons_of_pos h,abR];rfl
 .rw[aaD h,List.filter_cons_of_neg h];simp
theorem FI {acc:List Int} {r:aX} (h:acc.Nodup):(gI acc r).Nodup:=by
 unfold gI
 split
 .exact h
 .rename_i d
  rw[ab9]
  exact⟨h,by simp,λa f b c e=>d (by simp at c;rw[<-c,<-e];exact f)⟩
theorem uY {o:List Int} {x:Int} : bN o x < 0↔x ∉ o:=by
 have:=zG (λy=>y == x) o 0 (by omega)
 unfold bN
 rw[<-Int.not_le]
 constructor
 .intro h a
  have e:(o.any λy=>y == x)=true:=acG.2 ⟨x,a,by simp⟩
  rw[e] at this;exact h (by simpa using this)
 .intro h a
  have e:(o.any λy=>y == x)=true:=by rw[<-this];simpa using a
  obtain⟨y,b,e⟩:=acG.1 e
  simp at e;subst e;exact h b
theorem xn {α:Type} (p:α->Bool):∀ (a b:List α) (i:Int),0<=i->dM p (a ++ b) i=if 0<=dM p a i then dM p a i else dM p b (i+a.length)
 | [],b,i,_=>by simp[dM]
 | x :: a,b,i,h=>by
  by_cases hp:p x=true
  .simp[dM,hp,h]
  .simp only[abk,dM,aaD hp]
   rw[xn p a b (i+1) (by omega)]
   have:i+1+(a.length:Int)=i+(((x :: a).length:Nat):Int):=by simp;omega
   rw[this]
theorem SE {o:List Int} {x y:Int} (c:x ∉ o):bN (o ++ [x]) y=if y=x then (o.length:Int) else bN o y:=by
 unfold bN
 rw[xn _ _ _ _ (by omega)]
 by_cases e:y=x
 .subst e
  rw[aaD (by have:=uY.2 c;unfold bN at this;omega),aaF rfl]
  simp[dM]
 .rw[aaD e]
  split
  .rfl
  .rename_i h
   have:bN o y < 0:=by unfold bN;omega
   have b:dM (λz=>z == y) [x] (0+(o.length:Int)) = -1:=by simp[dM,Ne.symm e]
   rw[b]
   have:∀ (l:List Int) (i:Int),¬ 0<=dM (λz=>z == y) l i->0<=i->dM (λz=>z == y) l i = -1:=by
    intro l
    induction l with
    | nil=>intro i _ _;rfl
    | cons z l d =>
     intro i h1 b
     simp only[dM] at h1 ⊢
     split
     .rename_i a;rw[aaF a] at h1;omega
     .rename_i a;rw[aaD a] at h1;exact d _ h1 (by omega)
   exact(this o 0 h (by omega)).symm
theorem pB {o:List Int} {x:Int} (h:x∈o):0<=bN o x/\bN o x < o.length:=by
 have a:¬ bN o x < 0:=λe=>uY.1 e h
 refine⟨by omega,?_⟩
 unfold bN
 have:∀ (l:List Int) (i:Int),dM (λz=>z == x) l i < i+l.length∨dM (λz=>z == x) l i = -1:=by
  intro l
  induction l with
  | nil=>intro i;right;rfl
  | cons z l b =>
   intro i
   simp only[dM]
   split
   .left;simp;omega
   .rcases b (i+1) with h | h
    .left;simp at h ⊢;omega
    .right;exact h
 rcases this o 0 with h1 | h1
 .simpa using h1
 .unfold bN at a;omega
theorem Xm (o:List Int) (x:Int) : -1<=bN o x/\bN o x<=o.length:=by
 by_cases h:x∈o
 .have:=pB h;omega
 .have h1:=uY.2 h
  have a:∀ (l:List Int) (i:Int),0<=i->-1<=dM (λz=>z == x) l i:=by
   intro l
   induction l with
   | nil=>intro i _;simp[dM]
   | cons z l b =>
    intro i hi
    simp only[dM]
    split
    .omega
    .exact b _ (by omega)
  have:=a o 0 (by omega)
  unfold bN at h1 ⊢
  omega
def kV:List Int->Int->List (Int × Int)
 | [],_=>[]
 | x :: l,i=>(x,i) :: kV l (i+1)
theorem wm (x:Int):∀ (o:List Int) (i:Int),fe (kV o i) x=if x∈o then some (dM (λy=>y == x) o i) else none
 | [],i=>by simp[kV,fe]
 | y :: o,i=>by
  have a:=wm x o (i+1)
  unfold fe at a ⊢
  simp only[kV,List.find?_cons,dM]
  by_cases e:x=y
  .subst e;simp
  .have b:¬ ((y == x)=true):=by simp[Ne.symm e]
   rw[show (x == y)=false by simp[e],aaD b]
   simp only
   rw[a]
   simp[e]
theorem IK {x v:Int} : ∀ {o:List Int} {i:Int},x ∉ o->lB x v (kV o i)=kV o i ++ [(x,v)]
 | [],i,_=>rfl
 | y :: o,i,h=>by
  simp only[aaT,not_or] at h
  simp only[kV,lB,show (x == y)=false by simp[h.1],aba,if_false,IK h.2,abk]
theorem EJ {x:Int} : ∀ {o:List Int} {i:Int},kV (o ++ [x]) i=kV o i ++ [(x,i+o.length)]
 | [],i=>by simp[kV]
 | y :: o,i=>by
  simp only[abk,kV,EJ (o:=o),aaN]
  congr 4
  push_cast;omega
def eV (o:List Int) (x:Int):Int:=(fe (kV o 0) x).getD 0
theorem Ci {o:List Int} {x:Int} (h:x∈o):eV o x=bN o x:=by
 simp[eV,wm,h,bN]
theorem XM (o:List Int) (x:Int):0<=eV o x/\eV o x<=o.length:=by
 by_cases h:x∈o
 .rw[Ci h];have:=pB h;omega
 .simp[eV,wm,h]
theorem TM {g:af} {p q:List Bool} (a:g.start∈cL p q g.rules) (b:∀ r∈g.rules.filter (cB p q),r.left∈cL p q g.rules/\∀ s∈r.right,s < 0->-1 - s∈cL p q g.rules) :
  rq g (eV (cL p q g.rules)) p q=rq g (bN (cL p q g.rules)) p q:=by
 unfold rq
 congr 1
 .apply List.map_congr_left
  intro r hr
  obtain⟨h1,c⟩:=b r hr
  unfold bS
  congr 1
  .exact Ci h1
  .apply List.map_congr_left
   intro s d
   split
   .rename_i h;rw[Ci (c s d h)]
   .rfl
 .exact Ci a
theorem yG:∀ (l:List aX) (acc:List Int) (x:Int),x∈l.foldl gI acc↔x∈acc∨∃ r∈l,r.left=x
 | [],acc,x=>by simp
 | r :: l,acc,x=>by
  rw[abc,yG l]
  have:x∈gI acc r↔x∈acc∨r.left=x:=by
   unfold gI
   split
   .rename_i h
    constructor
    .exact .inl
    .rintro (a | rfl)
     .exact a
     .exact h
   .simp[eq_comm]
  rw[this]
  simp only[aaT,exists_eq_or_imp]
  constructor
  .rintro ((h | h) | h)
   .exact .inl h
   .exact .inr (.inl h)
   .exact .inr (.inr h)
  .rintro (h | h | h)
   .exact .inl (.inl h)
   .exact .inl (.inr h)
   .exact .inr h
theorem uH {p q:List Bool} {l:List aX} {x:Int} : x∈cL p q l↔∃ r∈l,cB p q r=true/\r.left=x:=by
 unfold cL
 rw[yG]
 simp[abt,and_assoc]
def nN:SC :=
 ae [ae [ab [aa 42 9,aa 43 8,aN 44 43,aQ 45 .lss 42 44],bX 45 (.exit 0)],.block 1 (ab [aa 48 8,aa 49 9,aO 50 1 48 49,(none,.op (.store 1 (.tmp 50) (.val (.val (.int .i64 (-1))))))]),ab [aa 46 9,aF 47 .add 46 1,aa 9 47]]
def nM:SC :=
 ae [ae [ab [aa 51 11,ao 52 2 1,ak 53 52,aN 54 53,aQ 55 .lss 51 54],bX 55 (.exit 2)],.block 3 (ae [ab [ao 58 2 1,ak 59 58,aa 60 11,aO 61 3 59 60,aZ 62 3 61,((some 12),.op (.alloc [(.val (.int .i64 0)),(.emp 1),(.val (.int .i64 0))])),cD 3 12 62],ae [.region false [⟨none,[aa 63 6,ao 64 0 12,ak 65 64,aO 66 1 63 65,ak 67 66,c9 68 67,aa 69 68]⟩,⟨(some (69,false)),[ao 70 1 12,ak 71 70,aa 72 5,qw 73 95 [(.tmp 71),(.tmp 72),(.val (.val (.bool true)))],c9 74 73]⟩,⟨none,[cy 75 69 74]⟩],bb 75 (.exit 3)],ab [aa 76 10,aa 77 11,((some 78),.op (.bJ 1 1 [(.val (.int .i64 0))] [(0,(.tmp 77))])),fD 79 1 8 76 78,aa 10 79],ab [aa 80 8,ao 81 0 12,ak 82 81,aO 83 1 80 82,ak 84 83,aF 85 .lss 84 0],bb 85 (ae [ab [aa 86 8,ao 87 0 12,ak 88 87,ao 89 1 7,ak 90 89,aN 91 90,aO 92 1 86 88,cD 1 92 91],.region false [⟨none,[ao 93 1 7,ak 94 93,ao 95 1 1,ak 96 95,ao 97 0 12,ak 98 97,aO 99 1 96 98,ak 100 99,((some 101),.op (.bJ 1 1 [(.val (.string ⟨#[]⟩))] [(0,(.tmp 100))])),fD 102 1 16 94 101,ao 103 1 7,cD 1 103 102]⟩]])]),ab [aa 56 11,aF 57 .add 56 1,aa 11 57]]
def nH:SC :=
 ae [ae [ab [aa 126 16,ao 127 1 14,ak 128 127,aN 129 128,aQ 130 .lss 126 129],bX 130 (.exit 6)],.block 7 (ae [ab [ao 133 1 14,ak 134 133,aa 135 16,aO 136 1 134 135,ak 137 136,aa 17 137],ae [ab [aa 138 17,aF 139 .lss 138 0],bb 139 (ab [aa 140 8,aa 141 17,((some 142),.op (.arith .sub (.val (.val (.int .i64 (-1)))) (.tmp 141))),aO 143 1 140 142,ak 144 143,((some 145),.op (.arith .sub (.val (.val (.int .i64 (-1)))) (.tmp 144))),aa 17 145])],ab [ao 146 1 15,ak 147 146,aa 148 17,((some 149),.op (.bJ 1 1 [(.val (.int .i64 0))] [(0,(.tmp 148))])),fD 150 1 8 147 149,ao 151 1 15,cD 1 151 150]]),ab [aa 131 16,aF 132 .add 131 1,aa 16 132]]
def nE:SC :=
 ae [ae [ab [aa 104 13,aa 105 10,aN 106 105,aQ 107 .lss 104 106],bX 107 (.exit 4)],.block 5 (ae [ab [ao 110 2 1,ak 111 110,aa 112 10,aa 113 13,aO 114 1 112 113,ak 115 114,aO 116 3 111 115,aZ 117 3 116,((some 14),.op (.alloc [(.val (.int .i64 0)),(.emp 1),(.val (.int .i64 0))])),cD 3 14 117],ab [aa 118 8,ao 119 0 14,ak 120 119,aO 121 1 118 120,ak 122 121,ao 123 2 14,ak 124 123,((some 125),.op (.build [(.val (.int .i64 0)),(.emp 1),(.val (.int .i64 0))] [(0,1,(.tmp 122)),(2,1,(.tmp 124))])),((some 15),.op (.alloc [(.val (.int .i64 0)),(.emp 1),(.val (.int .i64 0))])),cD 3 15 125],ae [ab [aR 16 0],bZ 6 nH],ab [ao 152 2 7,ak 153 152,aZ 154 3 15,((some 155),.op (.bJ 1 3 [(.val (.int .i64 0)),(.emp 1),(.val (.int .i64 0))] [(0,(.tmp 154))])),fD 156 3 40 153 155,ao 157 2 7,cD 1 157 156]]),ab [aa 108 13,aF 109 .add 108 1,aa 13 109]]
def qb:SF:=⟨ae [ab [cF 1 0,((some 2),.op (.alloc [(.emp 1),(.emp 1),(.emp 1),(.val (.int .i64 0))])),bT 3 1,aR 4 0],ae [ab [aZ 18 4 1,bk 19 50 [18],c9 20 19],bb 20 (ae [ab [((some 21),.op (.build [(.emp 1),(.emp 1),(.emp 1),(.val (.int .i64 0))] [])),cD 4 2 21,bT 3 1,aR 4 1],.ret])],.region true [⟨none,[aZ 22 4 1,bk 23 93 [22],aZ 24 4 1,bk 25 94 [24],aa 5 23,aa 6 25]⟩],ae [ab [aa 26 5,ao 27 3 1,ak 28 27,aO 29 1 26 28,ak 30 29,c9 31 30],bb 31 (ae [ab [((some 32),.op (.build [(.emp 1),(.emp 1),(.emp 1),(.val (.int .i64 0))] [])),cD 4 2 32,bT 3 1,aR 4 9],.ret])],ab [bT 33 2,ao 34 0 1,ak 35 34,fD 36 3 32 33 35,((some 37),.op (.build [(.emp 1),(.emp 1),(.emp 1),(.val (.int .i64 0))] [(0,1,(.tmp 36))])),((some 7),.op (.alloc [(.emp 1),(.emp 1),(.emp 1),(.val (.int .i64 0))])),cD 4 7 37],ab [ao 38 1 1,ak 39 38,aN 40 39,((some 41),.op (.make 1 8 [(.val (.int .i64 0))] (.tmp 40) (.tmp 40))),aa 8 41],ae [ab [aR 9 0],bZ 0 nN],ab [bT 10 1],ae [ab [aR 11 0],bZ 2 nM],ae [ab [aR 13 0],bZ 4 nE],ab [aa 158 8,ao 159 3 1,ak 160 159,aO 161 1 158 160,ak 162 161,ao 163 3 7,cD 1 163 162],ab [aZ 164 4 7,aa 165 10,cD 4 2 164,aa 3 165,aR 4 0],.ret],
 [.cell 2 (some 4),.tmp 3,.tmp 4],166⟩
theorem vF:aP Tryz.prog 47 [1]=some qb:=by kernel_rfl
abbrev bH (l:List Int):List (List V):=l.map λx=>[gi x]
abbrev lD (l:List ByteArray):List (List V):=l.map λs=>[gs s]
theorem mg {l:List Int} {i:Nat} (h:i < l.length):(bH l).getD i []=[gi l[i]]:=by simp[aaA,h]
theorem ints_set (l:List Int) (i:Nat) (x:Int):(bH l).set i [gi x]=bH (l.set i x):=by simp[acC]
theorem XA {l:List Int} (h:0 < l.length):bH l≠[]:=by intro e;rw[List.map_eq_nil_iff] at e;rw[e] at h;simp at h
theorem Am {α:Type} {x:α} : ∀ {l:List α} {i:Nat},i < l.length->(l.set i x).take (i+1)=l.take i ++ [x]
 | y :: l,0,_=>by simp
 | y :: l,i+1,h=>by
  have:=Am (x:=x) (l:=l) (i:=i) (by simpa using h)
  simp only[List.set_cons_succ,List.take_succ_cons,this,abk]
def gh (n:Nat) (o:List Int):List Int:=(List.range n).map λ(x:Nat)=>bN o (x:Int)
theorem WI (n:Nat):gh n []=List.replicate n (-1):=by
 apply List.ext_getElem
 .simp[gh]
 .intro i h1 a
  simp[gh,bN,dM]
theorem Cb {n:Nat} {o:List Int} {x:Int} (a:0<=x) (h1:x < n):(gh n o)[x.toNat]'(by simp[gh];omega)=bN o x:=by
 simp[gh,show ((x.toNat:Nat):Int)=x by omega]
theorem XK {n:Nat} {o:List Int} {x:Int} (b:0<=x) (h1:x < n) (a:x ∉ o):(gh n o).set x.toNat o.length=gh n (o ++ [x]):=by
 apply List.ext_getElem
 .simp[gh]
 .intro i c d
  rw[List.getElem_set]
  simp only[gh,List.getElem_map,List.getElem_range]
  rw[SE a]
  by_cases e:x.toNat=i
  .rw[aaF e,aaF (by omega)]
  .rw[aaD e,aaD (by omega)]
abbrev Ce:=List (V × aX)
def iD (b:Ce):List (List V):=b.map λx=>[gi x.2.left,x.1,gi x.2.prec]
def nF (b:Ce):List dH:=b.map λx=>(x.1,1,bH x.2.right)
theorem SQ {h:aE} {u:V} {b:Ce} (c:aT h.view u 3 (iD b)) (f:∀ x∈nF b,aT h.view x.1 x.2.1 x.2.2):cM h u (.aU ((b.map (·.2)).map bg)):=by
 refine cM.own c (by simp[iD]) (λi hi=>?_) (λi j hi a=>?_)
 all_goals
  simp only[iD,aaJ] at hi
  have e:(iD b).getD i []=[gi b[i].2.left,b[i].1,gi b[i].2.prec]:=by simp[iD,aaA,hi]
  have d:((b.map (·.2)).map bg).getD i []=bg b[i].2:=by simp[aaA,hi]
 .rw[e,d];rfl
 .rw[e,d]
  rw[d] at a
  have hm:b[i]∈b:=aaL _
  have c:=f (b[i].1,1,bH b[i].2.right) (aaX.2 ⟨_,hm,rfl⟩)
  match j,a with
  | 0,_=>exact .val _
  | 1,_=>exact kK c
  | 2,_=>exact .val _
  | n+3,a=>exact absurd a (by simp only[bg,aaN,aa8];omega)
theorem VJ {h:aE} {u:V} {l:List ByteArray} (a:aT h.view u 1 (lD l)):cM h u (encS l):=cM.Jh (f:=Value.string) a
theorem QC {h:aE} {u:V} {l:List Term} (b:aT h.view u 3 (l.map dg)):cM h u (fv l):=by
 refine cM.own b rfl (λ_ _=>rfl) (λi j hi a=>?_)
 simp only[aaJ] at hi
 have c:(l.map dg).getD i []=dg l[i]:=by simp[aaA,hi]
 rw[c] at a ⊢
 match j,a with
 | 0,_=>exact .val _
 | 1,_=>exact .val _
 | 2,_=>exact .val _
 | n+3,a=>exact absurd a (by simp only[dg,aaN,aa8];omega)
def zL (x:af × List Int × Int):V:=.bf [.agg (ag x.1),encI x.2.1,gi x.2.2]
theorem zJ {h:aE} {e:Int} {b k2 c d:Nat} : cM h (.bf [.agg [.emp b,.emp k2,.emp c,gi 0],.emp d,gi e]) (zL (tC,[],e)):=by
 refine .bf _ _ rfl λi hi=>?_
 match i,hi with
 | 0,_ =>
  refine .agg _ _ rfl λj a=>?_
  match j,a with
  | 0,_=>exact .emp _
  | 1,_=>exact .emp _
  | 2,_=>exact .emp _
  | 3,_=>exact .val _
  | n+4,a=>exact absurd a (by simp only[aaN,aa8];omega)
 | 1,_=>exact .emp _
 | 2,_=>exact .val _
 | n+3,hi=>exact absurd hi (by simp only[aaN,aa8];omega)
def Yx (g:af) (p q:List Bool) (b2 b7 b8:Nat) (u0:V) (i:Nat) (T:Env) (H:View):Prop :=
 (∃ u1 u3:V,T 10=u3/\(∀ x∈cL p q (g.rules.take i),0<=x/\x < g.al.length)/\(cL p q (g.rules.take i)).Nodup/\(cL p q (g.rules.take i)).length<=i /\
  bq H [(.sl b7 0 1 4,4,[[u0,u1,.emp 1,gi 0]]),(.sl b8 0 g.al.length 1,1,bH (gh g.al.length (cL p q (g.rules.take i)))),(u3,1,bH (dD p q (g.rules.take i) 0)),
   (u1,1,lD ((cL p q (g.rules.take i)).map λx=>g.al.getD x.toNat ⟨#[]⟩)),(u0,3,g.ai.map dg),(.sl b2 0 1 4,4,[[.emp 1,.emp 1,.emp 1,gi 0]])]) /\
 T 1=.aL (ag g) 0/\T 2=.ptr b2 0 0/\T 5=cI p/\T 6=cI q/\T 7=.ptr b7 0 0/\T 8=.sl b8 0 g.al.length 1/\T 11=gi i
def ZT (g:af) (p q:List Bool) (b2 b7 b8:Nat) (u0 u1 u3:V) (o kl:List Int) (i:Nat) (T:Env) (H:View):Prop :=
 (∃ (u2:V) (bs:Ce),bs.map (·.2)=((g.rules.filter (cB p q)).take i).map (bS (bN o)) /\
  bq H ((.sl b7 0 1 4,4,[[u0,u1,u2,gi 0]]) :: (.sl b8 0 g.al.length 1,1,bH (gh g.al.length o)) :: (u3,1,bH kl) ::
   (u1,1,lD (o.map λx=>g.al.getD x.toNat ⟨#[]⟩)) :: (u0,3,g.ai.map dg) :: (u2,3,iD bs) :: (.sl b2 0 1 4,4,[[.emp 1,.emp 1,.emp 1,gi 0]]) :: nF bs)) /\
 T 1=.aL (ag g) 0/\T 2=.ptr b2 0 0/\T 7=.ptr b7 0 0/\T 8=.sl b8 0 g.al.length 1/\T 10=u3/\T 13=gi i
def ZE (g:af) (b2 b7 b8 b14 b15:Nat) (u3:V) (o:List Int) (r:aX) (L:List dH) (i k:Nat) (T:Env) (H:View):Prop :=
 (∃ v:V,bq H ((.sl b15 0 1 3,3,[[gi (bN o r.left),v,gi r.prec]]) :: (v,1,bH ((bS (bN o) r).right.take k)) :: (.sl b14 0 1 3,3,[bg r]) :: L)) /\
 T 1=.aL (ag g) 0/\T 2=.ptr b2 0 0/\T 7=.ptr b7 0 0/\T 8=.sl b8 0 g.al.length 1/\T 10=u3/\T 13=gi i/\T 14=.ptr b14 0 0/\T 15=.ptr b15 0 0/\T 16=gi k
theorem Oy {h:aE} {c d e f:V} {x:af × List Int × Int} {b:Ce} (g:aT h.view c 3 (x.1.ai.map dg)) (h1:aT h.view d 1 (lD x.1.al)) (k:aT h.view e 3 (iD b)) (l:∀ y∈nF b,aT h.view y.1 y.2.1 y.2.2)
  (hr:b.map (·.2)=x.1.rules) (m:aT h.view f 1 (bH x.2.1)):cM h (.bf [.agg [c,d,e,gi x.1.start],f,gi x.2.2]) (zL x):=by
 refine .bf _ _ rfl λi hi=>?_
 match i,hi with
 | 0,_ =>
  refine .agg _ _ rfl λj a=>?_
  match j,a with
  | 0,_=>exact QC g
  | 1,_=>exact VJ h1
  | 2,_=>have:=SQ k l;rw[hr] at this;exact this
  | 3,_=>exact .val _
  | n+4,a=>exact absurd a (by simp only[aaN,aa8];omega)
 | 1,_=>exact kK m
 | 2,_=>exact .val _
 | n+3,hi=>exact absurd hi (by simp only[aaN,aa8];omega)
theorem Ma (g:af) (hg:g.Ok):cK Tryz.prog 47 [.agg (ag g)] (zL (gv g)):=by
 refine cK.of (eK g) ?_
 refine aw.of mixed vF ?_
 simp(disch:=omega)only[↓wr,seval,wq,qb,ag,encS]
 intro M
 try simp(disch:=omega)only[↓wr,seval,wq,ag,encS]
 refine ax.pure (iO g hg) ?_
 repeat' (first | ((first|apply aj.dec|apply aj.eq|apply aj.ne|apply aj.split)<;>intro)|(simp(disch:=omega)only[↓wr,seval,wq,ag,encS,set_set]))
 .rename_i hr
  refine ax.pure (vT g hg) ?_
  simp(disch:=omega)only[↓wr,seval,wq,ag,encS]
  refine ax.pure (F9 g hg).pure ?_
  have hf:=bj hr
  have h3:=hf.kj
  have h4:=hf.start
  have c3:=jf hr true
  have fb:=sd hr
  have c:=mB hr
  generalize av g true=p at c3 c
  generalize bP g=q at fb c
  have ca:p[g.start.toNat]?=some (p[g.start.toNat]'(by omega)):=aaB (by omega)
  have c4:p.getD g.start.toNat false=p[g.start.toNat]'(by omega):=by simp[aaA,ca]
  generalize p[g.start.toNat]'(by omega)=s at ca c4
  rw[c4] at c
  simp(disch:=omega)only[↓wr,seval,wq,ag,encS,cI,aaE,ca]
  cases s with
  | false =>
   rw[aaD (by simp)] at c
   simp(disch:=omega)only[↓wr,seval,wq,ag,encS,set_set]
   rintro h' hh
   rw[c]
   exact zJ
  | true =>
   rw[aaF rfl] at c
   simp(disch:=omega)only[↓wr,seval,wq,ag,encS,set_set]
   have hN:=hf.al
   have hE:=hf.sm
   have hT:=hf.ai
   have hR:=hf.rules
   refine b6 (L:=[(.sl M 0 1 4,4,[[.emp 1,.emp 1,.emp 1,gi 0]])]) (bq.emp (bq.nil.new rfl 4 _)) (by simp[dg,aI]) (by unfold aC;simp;omega) (by unfold aC;simp;omega) ?_
   intro C H1 cc _
   have c0:=cc.head.cells
   have k0:=cc.head.fL
   simp(disch:=omega)only[↓wr,seval,wq,ag,encS,c0,k0]
   intro P ff
   have fl:=cc.new ff 4 [[C,.emp 1,.emp 1,gi 0]]
   try simp(disch:=omega)only[↓wr,seval,wq,ag,encS,c0,k0,set_set]
   refine⟨⟨by omega,by unfold aC;omega,by unfold aC;omega⟩,λh=>by omega,?_⟩
   intro _ B da
   have db:=(cq da cm).1
   have j:=fl.new (n:=B) (by simp only[View.set,aaD db];exact(cq (cq da cm).2 cm).2) 1 (bH (List.replicate g.al.length 0))
   try simp(disch:=omega)only[↓wr,seval,wq,ag,encS,c0,k0,set_set]
   refine ba.up g.al.length (λi T H=>(∃ l:List Int,l.length=g.al.length/\l.take i=List.replicate i (-1) /\
    bq H [(.sl B 0 g.al.length 1,1,bH l),(.sl P 0 1 4,4,[[C,.emp 1,.emp 1,gi 0]]),(C,3,g.ai.map dg),(.sl M 0 1 4,4,[[.emp 1,.emp 1,.emp 1,gi 0]])]) /\
    T 1=.aL (ag g) 0/\T 2=.ptr M 0 0/\T 5=cI p/\T 6=cI q/\T 7=.ptr P 0 0/\T 8=.sl B 0 g.al.length 1/\T 9=gi i) ?_ ?_
   .exact⟨⟨List.replicate g.al.length 0,by simp,by simp,by simpa [set_set] using j⟩,rfl,rfl,rfl,rfl,rfl,rfl,rfl⟩
   rintro i k T H2 hk ⟨⟨l,G,t,f⟩,t1,t2,t5,t6,t7,t8,t9⟩
   simp(disch:=omega)only[↓wr,seval,wq,nN,t1,t2,t5,t6,t7,t8,t9]
   apply aj.dec<;>intro hc
   .have fm:bH l≠[]:=by intro e;rw[List.map_eq_nil_iff] at e;rw[e] at G;simp at G;omega
    have hb:=(f.obj fm).1
    have u:=mg (show i < l.length by omega)
    simp(disch:=omega)only[↓wr,seval,wq,t1,t2,t5,t6,t7,t8,t9,hb,u,aaJ]
    refine⟨by omega,by omega,?_⟩
    refine aG hk (by omega) ⟨⟨l.set i (-1),by simp[G],?_,?_⟩,t1,t2,t5,t6,t7,t8,rfl⟩
    .rw[Am (by omega),t,List.replicate_succ']
    .rw[ints_set]
     exact f.put (by simp) (by simp[G])
   .rw[aaS (by omega)] at t
    rw[t] at f
    have ei:i=g.al.length:=by omega
    subst ei
    simp(disch:=omega)only[↓wr,seval,wq,t1,t2,t5,t6,t7,t8,t9]
    have name_in:∀ o:List Int,(o.map λx=>g.al.getD x.toNat ⟨#[]⟩).length=o.length:=λo=>by simp
    refine ba.up g.rules.length (Yx g p q M P B C) ?_ ?_
    .refine⟨⟨.emp 1,.emp 1,rfl,by simp[cL],by simp[cL],by simp[cL],?_⟩,t1,t2,t5,t6,t7,t8,rfl⟩
     have h4:=((((f.emp (k:=1) (sz:=1)).emp (k:=1) (sz:=1)).at 3 (by simp)).perm (DQ.symm.cons _))
     have e0:cL p q (g.rules.take 0)=[]:=rfl
     rw[e0,WI]
     exact h4
    clear f t1 t2 t5 t6 t7 t8 t9 G t
    rintro i k T H2 hk ⟨⟨J,u3,t10,ar,bd,cf,f⟩,t1,t2,t5,t6,t7,t8,t11⟩
    simp(disch:=omega)only[↓wr,seval,wq,nM,t1,t2,t5,t6,t7,t8,t10,t11,ag]
    apply aj.dec<;>intro hc
    .have I:g.rules[i]?=some (g.rules[i]'(by omega)):=aaB (by omega)
     have z:g.rules[i]'(by omega)∈g.rules:=aaL _
     have D:g.rules.take (i+1)=g.rules.take i ++ [g.rules[i]'(by omega)]:=by rw[aa3,I];rfl
     generalize g.rules[i]'(by omega)=r at I z D
     obtain⟨G,t,Q,fs,bl⟩:=hf.yn hg z
     have cg:q[r.left.toNat]?=some (q[r.left.toNat]'(by omega)):=aaB (by omega)
     have bn:q.getD r.left.toNat false=q[r.left.toNat]'(by omega):=by simp[aaA,cg]
     generalize q[r.left.toNat]'(by omega)=qs at cg bn
     simp(disch:=omega)only[↓wr,seval,wq,t1,t2,t5,t6,t7,t8,t10,t11,ag,bg,aaE,I]
     intro dj dm
     have A:=f.new dm 3 [bg r]
     try simp(disch:=omega)only[↓wr,seval,wq,t1,t2,t5,t6,t7,t8,t10,t11,bg,encI,cI,aaE,cg,set_set]
     have R:∀ (T2:Env) (H':View),cB p q r=false->H'=H2.set dj (.arr 3 [bg r])->T2 10=u3->T2 1=.aL (ag g) 0->T2 2=.ptr M 0 0->T2 5=cI p->T2 6=cI q->T2 7=.ptr P 0 0->T2 8=.sl B 0 g.al.length 1->T2 11=gi ((i:Int)+1) ->
       ∃ k',k' < k/\EY g.rules.length k' (Yx g p q M P B C) T2 H':=by
      intro T2 H' S ft fx a1 a2 a5 a6 a7 a8 fz
      have N:cL p q (g.rules.take (i+1))=cL p q (g.rules.take i):=by rw[D,wD,aaD (by simp[S])]
      have e2:dD p q (g.rules.take (i+1)) 0=dD p q (g.rules.take i) 0:=by rw[D,mr];simp[dD,S]
      refine aG hk (by omega) ⟨⟨J,u3,fx,by rw[N];exact ar,by rw[N];exact bd,by rw[N];omega,by rw[N,e2,ft];exact A.tail⟩,a1,a2,a5,a6,a7,a8,by rw[fz];rfl⟩
     cases qs with
     | false =>
      simp(disch:=omega)only[↓wr,seval,wq,t1,t2,t5,t6,t7,t8,t10,t11]
      refine R _ _ (by rw[cB,bn];rfl) ?_ ?_ ?_ ?_ ?_ ?_ ?_ ?_ ?_
      all_goals first | exact t10 | exact t1 | exact t2 | exact t5 | exact t6 | exact t7 | exact t8 | rfl | (rw[set_set];rfl)
     | true =>
      simp(disch:=omega)only[↓wr,seval,wq,t1,t2,t5,t6,t7,t8,t10,t11,bg,encI,cI]
      refine ax.pure (K2 r.right p true (hg.au r z).2.2.1 (λs hs=>⟨(bl s hs).1,λh=>by rw[c3];exact(bl s hs).2 h⟩)) ?_
      simp(disch:=omega)only[↓wr,seval,wq,t1,t2,t5,t6,t7,t8,t10,t11]
      apply aj.split<;>intro ch
      .simp(disch:=omega)only[↓wr,seval,wq,t1,t2,t5,t6,t7,t8,t10,t11]
       have S:cB p q r=true:=by rw[cB,bn,ch];rfl
       intro m hm
       try simp(disch:=omega)only[↓wr,seval,wq,t1,t2,t5,t6,t7,t8,t10,t11,bz]
       have ds:=(cq hm cm).1
       have hm:=(cq (cq hm cm).2 cm).2
       have d:=(A.fresh (n:=m) (o:=.arr 1 [[gi i]]) (by simp only[View.set,aaD ds];exact hm)).at 3 (by simp)
       have dv:(dD p q (g.rules.take i) 0).length<=40:=by
        rw[mw]
        have h1:=abJ (cB p q) (g.rules.take i)
        have h2:(g.rules.take i).length<=i:=List.length_take_le _ _
        have:=hf.rules
        omega
       refine b6 (by rw[set_set];exact d) (by simp[aI]) (by unfold aC;simp at dv ⊢;omega) (by unfold aC;simp at dv ⊢;omega) ?_
       intro ea H3 j _
       have f12:=((j.at 1 (by simp)).obj (by simp)).1
       have f7:=((j.at 2 (by simp)).obj (by simp)).1
       have f8:=((j.at 3 (by simp)).obj (XA (by simp[gh];omega))).1
       have cj:cT J=some (lD ((cL p q (g.rules.take i)).map λx=>g.al.getD x.toNat ⟨#[]⟩)).length:=(j.at 4 (by simp)).head.len
       have u:=mg (l:=gh g.al.length (cL p q (g.rules.take i))) (i:=r.left.toNat) (by simp[gh];omega)
       rw[Cb t Q] at u
       simp only[bg,encI] at f12
       simp(disch:=omega)only[↓wr,seval,wq,t1,t2,t5,t6,t7,t8,t11,f12,f7,f8,u]
       refine⟨by omega,by simp[gh];omega,?_⟩
       have e2:dD p q (g.rules.take (i+1)) 0=dD p q (g.rules.take i) 0 ++ [(i:Int)]:=by
        rw[D,mr];simp[dD,S,show i<=g.rules.length by omega]
       have N:cL p q (g.rules.take (i+1))=gI (cL p q (g.rules.take i)) r:=by rw[D,wD,aaF S]
       generalize cL p q (g.rules.take i)=o at *
       generalize dD p q (g.rules.take i) 0=kl at *
       apply aj.dec<;>intro eb
       .have hx:r.left ∉ o:=uY.1 eb
        have E:gI o r=o ++ [r.left]:=by rw[gI,aaD hx]
        have U:P≠B:=j.Ni 2 3 rfl rfl (by omega)
        have W:dj≠B:=j.Ni 1 3 rfl rfl (by omega)
        have ck:g.al[r.left.toNat]?=some (g.al[r.left.toNat]'(by omega)):=aaB (by omega)
        have b1:g.al.getD r.left.toNat ⟨#[]⟩=g.al[r.left.toNat]'(by omega):=by simp[aaA,ck]
        generalize g.al[r.left.toNat]'(by omega)=nm at ck b1
        simp(disch:=omega)only[↓wr,seval,wq,t1,t2,t5,t6,t7,t8,t11,f12,f7,f8,u,cj,aaJ]
        try refine⟨by omega,by simp[gh];omega,?_⟩
        try simp(disch:=omega)only[↓wr,seval,wq,t1,t2,t5,t6,t7,t8,t11,f12,f7,f8,u,cj,aaJ,U,W,ag,encS,aaE,ck]
        intro m2 O
        have ec:=(cq O cm).1
        have O:=(cq O cm).2
        have gd:(bH (gh g.al.length o)).set r.left.toNat [gi o.length]=bH (gh g.al.length (o ++ [r.left])):=by rw[ints_set,XK t Q hx]
        have cr:=(j.at 3 (by simp)).put (es':=(bH (gh g.al.length o)).set r.left.toNat [gi o.length]) (by simp) (by simp[gh])
        have gk:=(cr.fresh (n:=m2) (o:=.arr 1 [[gs nm]]) (by simp only[View.set,aaD ec];exact O)).at 4 (by simp)
        have hB:o.length<=40:=by omega
        try simp(disch:=omega)only[↓wr,seval,wq,t1,t2,t5,t6,t7,t8,t11,f12,f7,f8,u,cj,aaJ,U,W,bz]
        refine b6 gk (by simp[aI]) (by unfold aC;simp;omega) (by unfold aC;simp;omega) ?_
        intro ee H5 br _
        have c1:=br.head.cells
        have k1:=br.head.fL
        have cA:=((br.at 4 (by simp)).obj (by simp)).1
        simp(disch:=omega)only[↓wr,seval,wq,t1,t2,t5,t6,t7,t8,t11,cA,c1,k1]
        have gl:=(br.at 4 (by simp)).put (es':=[[C,ee,.emp 1,gi 0]]) rfl rfl
        have gr:=(((gl.at 4 (by simp)).tail).perm (DQ.cons _))
        refine aG hk (by omega) ⟨⟨ee,ea,rfl,?_,?_,?_,?_⟩,t1,t2,t5,t6,t7,t8,rfl⟩
        .rw[N,E];intro x ha;rcases aa1.1 ha with h | h
         .exact ar x h
         .simp at h;subst h;exact⟨t,Q⟩
        .rw[N];exact FI bd
        .rw[N,E];simp;omega
        .rw[N,E,e2]
         have:=gr
         rw[gd] at this
         simp only[aaW,aa9,acb,b1]
         exact this
       .have hx:r.left∈o:=by
         refine abO λh=>?_
         have:=uY.2 h
         omega
        have E:gI o r=o:=by rw[gI,aaF hx]
        simp(disch:=omega)only[↓wr,seval,wq,t1,t2,t5,t6,t7,t8,t11]
        have cr:=(((j.at 1 (by simp)).tail).perm DQ)
        refine aG hk (by omega) ⟨⟨J,ea,rfl,?_,?_,?_,?_⟩,t1,t2,t5,t6,t7,t8,rfl⟩
        .rw[N,E];exact ar
        .rw[N,E];exact bd
        .rw[N,E];omega
        .rw[N,E,e2]
         simp only[aaW,aa9,acb]
         exact cr
      .simp(disch:=omega)only[↓wr,seval,wq,t1,t2,t5,t6,t7,t8,t10,t11]
       refine R _ _ (by rw[cB,bn,ch];rfl) ?_ ?_ ?_ ?_ ?_ ?_ ?_ ?_ ?_
       all_goals first | exact t10 | exact t1 | exact t2 | exact t5 | exact t6 | exact t7 | exact t8 | rfl | (rw[set_set];rfl)
    .rw[aaS (by omega)] at f ar bd cf
     have hd:(dD p q g.rules 0).length<=40:=by
      rw[mw];have h1:=abJ (cB p q) g.rules;omega
     have hj:=wA p q g.rules 0
     have hC:=mw p q g.rules 0
     have cC:g.start.toNat < (gh g.al.length (cL p q g.rules)).length:=by simp[gh];omega
     have b3:=mg cC
     rw[Cb h3 h4] at b3
     have eg:rq g (bN (cL p q g.rules)) p q=⟨g.ai,(cL p q g.rules).map λx=>g.al.getD x.toNat ⟨#[]⟩,(g.rules.filter (cB p q)).map (bS (bN (cL p q g.rules))),bN (cL p q g.rules) g.start⟩:=rfl
     rw[eg] at c
     clear eg
     generalize cL p q g.rules=o at *
     generalize dD p q g.rules 0=kl at *
     simp(disch:=omega)only[↓wr,seval,wq,t1,t2,t5,t6,t7,t8,t10,t11]
     refine ba.up kl.length (ZT g p q M P B C J u3 o kl) ?_ ?_
     .refine⟨⟨.emp 1,[],by simp,?_⟩,t1,t2,t7,t8,t10,rfl⟩
      exact(f.emp (k:=1) (sz:=3)).perm (uz [(.sl P 0 1 4,4,[[C,J,.emp 1,gi 0]]),(.sl B 0 g.al.length 1,1,bH (gh g.al.length o)),(u3,1,bH kl),(J,1,lD (o.map λx=>g.al.getD x.toNat ⟨#[]⟩)),(C,3,g.ai.map dg),(.emp 1,3,[]),(.sl M 0 1 4,4,[[.emp 1,.emp 1,.emp 1,gi 0]])] 5 (by simp)).symm
     clear f t1 t2 t5 t6 t7 t8 t10 t11
     rintro i k T H2 hk ⟨⟨u2,bs,bx,f⟩,t1,t2,t7,t8,t10,t13⟩
     have hl:cT u3=some (bH kl).length:=(f.own 2 rfl).len
     simp(disch:=omega)only[↓wr,seval,wq,nE,t1,t2,t7,t8,t10,t13,hl,aaJ]
     apply aj.dec<;>intro hc
     .obtain⟨n3,e3,hn⟩:=(f.own 2 rfl).sl (by simp;omega)
      rw[aaJ] at e3
      subst e3
      obtain⟨m,cN,O,X⟩:=hj i (by omega)
      have u:=mg (show i < kl.length by omega)
      rw[Int.zero_add] at cN
      have hq:kl[i]'(by omega)=(m:Int):=by
       rw[aaB (show i < kl.length by omega)] at cN;simpa using cN
      rw[hq] at u
      have I:g.rules[m]?=some (g.rules[m]'X):=aaB X
      have z:g.rules[m]'X∈g.rules:=aaL _
      have D:(g.rules.filter (cB p q)).take (i+1)=(g.rules.filter (cB p q)).take i ++ [g.rules[m]'X]:=by
       rw[aa3,<-O,I];rfl
      generalize g.rules[m]'X=r at I z D
      obtain⟨G,t,Q,fs,bl⟩:=hf.yn hg z
      simp(disch:=omega)only[↓wr,seval,wq,t1,t2,t7,t8,t10,t13,hn,u,aaJ,ag,bg,aaE,I]
      refine⟨by omega,by omega,?_⟩
      intro ek b4
      have A:=f.new b4 3 [bg r]
      have f8:=A.is 2 rfl (by simp[gh];omega)
      have b5:=mg (l:=gh g.al.length o) (i:=r.left.toNat) (by simp[gh];omega)
      rw[Cb t Q] at b5
      have cS:B≠ek:=A.Ni 2 0 rfl rfl (by omega)
      have g8:H2 B=.arr 1 (bH (gh g.al.length o)):=f.is 1 rfl (by simp[gh];omega)
      try simp(disch:=omega)only[↓wr,seval,wq,t1,t2,t7,t8,t10,t13,g8,cS,b5,aaJ,set_set,encI]
      refine⟨by omega,by simp[gh];omega,?_⟩
      intro eH F
      have eX:=(cq F cm).1
      have F:=(cq (cq F cm).2 cm).2
      have d:=(((A.new (n:=eH) (by simp only[View.set,aaD eX];exact F) 3 [[gi (bN o r.left),.emp 1,gi r.prec]]).emp (k:=1) (sz:=1)).perm (.swap _ _ _))
      generalize hL:((V.sl P 0 1 4,4,[[C,J,u2,gi 0]]) :: (V.sl B 0 g.al.length 1,1,bH (gh g.al.length o)) :: (V.sl n3 0 kl.length 1,1,bH kl) ::
       (J,1,lD (o.map λx=>g.al.getD x.toNat ⟨#[]⟩)) :: (C,3,g.ai.map dg) :: (u2,3,iD bs) :: (V.sl M 0 1 4,4,[[V.emp 1,V.emp 1,V.emp 1,gi 0]]) :: nF bs:List dH)=L at d
      have ht:L[1]?=some (.sl B 0 g.al.length 1,1,bH (gh g.al.length o)):=by rw[<-hL];rfl
      try simp(disch:=omega)only[↓wr,seval,wq,t1,t2,t7,t8,t10,t13,set_set]
      refine ba.up r.right.length (ZE g M P B ek eH (.sl n3 0 kl.length 1) o r L i) ?_ ?_
      .exact⟨⟨.emp 1,by rw[set_set,set_set];exact d⟩,t1,t2,t7,t8,t10,t13,rfl,rfl,rfl⟩
      clear A d f8 g8 b4 F t1 t2 t7 t8 t10 t13
      rintro k k2 T H3 e4 ⟨⟨v,w⟩,t1,t2,t7,t8,t10,t13,t14,t15,t16⟩
      have f14:=w.is 2 rfl (by simp)
      have f15:=w.is 0 rfl (by simp)
      have f8:H3 B=.arr 1 (bH (gh g.al.length o)):=w.is 4 (by simpa using ht) (by simp[gh];omega)
      simp only[bg] at f14
      simp(disch:=omega)only[↓wr,seval,wq,nH,t1,t2,t7,t8,t10,t13,t14,t15,t16,f14,encI]
      apply aj.dec<;>intro hz
      .have cV:r.right[k]?=some (r.right[k]'(by omega)):=aaB (by omega)
       have e5:r.right[k]'(by omega)∈r.right:=aaL _
       have Y:(bS (bN o) r).right.take (k+1)=(bS (bN o) r).right.take k ++ [if r.right[k]'(by omega) < 0 then -1 - bN o (-1 - r.right[k]'(by omega)) else r.right[k]'(by omega)]:=by
        rw[aa3];simp[bS,cV]
       have b0:((bS (bN o) r).right.take k).length<=6:=by
        have h1:(bS (bN o) r).right.length=r.right.length:=by simp[bS]
        have h2:((bS (bN o) r).right.take k).length<=(bS (bN o) r).right.length:=by rw[abn];omega
        omega
       generalize r.right[k]'(by omega)=s at cV e5 Y
       obtain⟨⟨s1,s2⟩,s3⟩:=bl s e5
       simp(disch:=omega)only[↓wr,seval,wq,t1,t2,t7,t8,t10,t13,t14,t15,t16,f14,encI,aaE,cV]
       have hF:=Xm o (-1 - s)
       have hG:o.length<=40:=by omega
       apply aj.dec<;>intro K
       .rw[aaF K] at Y
        have e6:=s3 K
        have b9:=mg (l:=gh g.al.length o) (i:=(-1 - s).toNat) (by simp[gh];omega)
        rw[Cb (by omega) e6] at b9
        simp(disch:=omega)only[↓wr,seval,wq,t1,t2,t7,t8,t10,t13,t14,t15,t16,f14,f15,f8,b9,aaJ]
        refine⟨by omega,by simp[gh];omega,?_⟩
        intro m hm
        try simp(disch:=omega)only[↓wr,seval,wq,t1,t2,t7,t8,t10,t13,t14,t15,t16,bz]
        have Z:=(w.fresh (o:=.arr 1 [[gi (-1 - bN o (-1 - s))]]) hm).at 1 (by simp)
        refine b6 Z (by simp[aI]) (by unfold aC;simp at b0 ⊢;omega) (by unfold aC;simp at b0 ⊢;omega) ?_
        intro v' H4 a _
        have cv:=a.head.cells
        have kv:=a.head.fL
        have an:=a.is 1 rfl (by simp)
        simp(disch:=omega)only[↓wr,seval,wq,t1,t2,t7,t8,t10,t13,t14,t15,t16,an,cv,kv]
        have aq:=(a.at 1 (by simp)).put (es':=[[gi (bN o r.left),v',gi r.prec]]) rfl rfl
        refine aG e4 (by omega) ⟨⟨v',?_⟩,t1,t2,t7,t8,t10,t13,t14,t15,rfl⟩
        rw[Y]
        simp only[aaW,aa9,acb]
        exact aq
       .rw[aaD K] at Y
        simp(disch:=omega)only[↓wr,seval,wq,t1,t2,t7,t8,t10,t13,t14,t15,t16,f14,f15,f8]
        intro m hm
        try simp(disch:=omega)only[↓wr,seval,wq,t1,t2,t7,t8,t10,t13,t14,t15,t16,bz]
        have Z:=(w.fresh (o:=.arr 1 [[gi s]]) hm).at 1 (by simp)
        refine b6 Z (by simp[aI]) (by unfold aC;simp at b0 ⊢;omega) (by unfold aC;simp at b0 ⊢;omega) ?_
        intro v' H4 a _
        have cv:=a.head.cells
        have kv:=a.head.fL
        have an:=a.is 1 rfl (by simp)
        simp(disch:=omega)only[↓wr,seval,wq,t1,t2,t7,t8,t10,t13,t14,t15,t16,an,cv,kv]
        have aq:=(a.at 1 (by simp)).put (es':=[[gi (bN o r.left),v',gi r.prec]]) rfl rfl
        refine aG e4 (by omega) ⟨⟨v',?_⟩,t1,t2,t7,t8,t10,t13,t14,t15,rfl⟩
        rw[Y]
        simp only[aaW,aa9,acb]
        exact aq
      .rw[aaS (by simp[bS];omega)] at w
       subst hL
       have f7:=w.is 3 rfl (by simp)
       have cv:=(w.own 1 rfl).cells
       have kv:=(w.own 1 rfl).fL
       have e7:(iD bs).length<=40:=by
        have h1:=abN List.length bx
        simp only[aaJ,abn] at h1
        simp only[iD,aaJ]
        omega
       simp(disch:=omega)only[↓wr,seval,wq,t1,t2,t7,t8,t10,t13,t14,t15,t16,f7,f15,cv,kv]
       intro m hm
       try simp(disch:=omega)only[↓wr,seval,wq,t1,t2,t7,t8,t10,t13,t14,t15,t16,bz]
       have Z:=(w.fresh (o:=.arr 3 [[gi (bN o r.left),v,gi r.prec]]) hm).at 8 (by simp)
       refine b6 Z (by simp[Cg,kv]) (by unfold aC;simp at e7 ⊢;omega) (by unfold aC;simp at e7 ⊢;omega) ?_
       intro e8 H4 a _
       have cu:=a.head.cells
       have ku:=a.head.fL
       have cA:=a.is 4 rfl (by simp)
       simp(disch:=omega)only[↓wr,seval,wq,t1,t2,t7,t8,t10,t13,t14,t15,t16,cA,cu,ku]
       have aq:=(a.at 4 (by simp)).put (es':=[[C,J,e8,gi 0]]) rfl rfl
       have hA:=((((aq.at 2 (by simp)).tail).at 3 (by simp)).tail)
       refine aG hk (by omega) ⟨⟨e8,bs ++ [(v,bS (bN o) r)],?_,?_⟩,t1,t2,t7,t8,t10,rfl⟩
       .rw[aaW,bx,D,aaW];rfl
       .refine hA.perm (.cons _ ?_)
        simp only[nF,iD,aaW,aa9,acb]
        refine .trans ?_ (uz _ 4 (by simp)).symm
        refine .cons _ ?_
        exact(acu (v,1,bH (bS (bN o) r).right) ((.sl B 0 g.al.length 1,1,bH (gh g.al.length o)) :: (.sl n3 0 kl.length 1,1,bH kl) :: (J,1,lD (o.map λx=>g.al.getD x.toNat ⟨#[]⟩)) :: (C,3,g.ai.map dg) :: (.sl M 0 1 4,4,[[.emp 1,.emp 1,.emp 1,gi 0]]) :: nF bs)).symm
     .rw[aaS (by omega)] at bx
      have f7:=f.is 0 rfl (by simp)
      have f8:H2 B=.arr 1 (bH (gh g.al.length o)):=f.is 1 rfl (by simp[gh];omega)
      have f2:=f.is 6 rfl (by simp)
      have e9:P≠M:=f.Ni 0 6 rfl rfl (by omega)
      have c1:=(f.own 3 rfl).cells
      have k1:=(f.own 3 rfl).fL
      have c2:=(f.own 5 rfl).cells
      have k2:=(f.own 5 rfl).fL
      simp(disch:=omega)only[↓wr,seval,wq,t1,t2,t7,t8,t10,t13,f7,f8,f2,e9,e9.symm,b3,c0,k0,c1,k1,c2,k2,ag,aaJ]
      refine⟨by omega,by simp[gh];omega,λh' hh=>?_⟩
      have A:=f.put (es':=[[C,J,u2,gi (bN o g.start)]]) rfl rfl
      have d:=(A.at 6 (by simp)).put (es':=[[C,J,u2,gi (bN o g.start)]]) rfl rfl
      have hv:h'.view=(H2.set P (.arr 4 [[C,J,u2,gi (bN o g.start)]])).set M (.arr 4 [[C,J,u2,gi (bN o g.start)]]):=hh
      rw[<-hv] at d
      rw[c]
      exact Oy (x:=(⟨g.ai,o.map λx=>g.al.getD x.toNat ⟨#[]⟩,(g.rules.filter (cB p q)).map (bS (bN o)),bN o g.start⟩,kl,0)) (b:=bs) (d.own 5 rfl) (d.own 4 rfl) (d.own 6 rfl) (λy hy=>d.1 y (by
       refine aaV _ (aaV _ (aaV _ (aaV _ (aaV _ (aaV _ (aaV _ ?_))))))
       exact hy)) bx (d.own 3 rfl)
 .rename_i hr
  intro h' hh
  rw[gv,aaD (by simp[hr])]
  exact zJ
theorem L6 {g:af} (e:qC g=false):g.Small:=by
 simp only[qC,Bool.or_eq_false_iff,abT] at e
 exact⟨by omega⟩
theorem US (g:af):az Tryz.prog 14 [.agg (ag g)] (gb (qC g)):=az.val (eK g) λH=>(UB g H).mono λ_ _ h=>h.1
theorem B1 {a b:V} (c:Tree a) (d:Tree b):Tree (.bf [a,b]):=.bf _ λi hi=>by
 match i,hi with
 | 0,_=>exact c
 | 1,_=>exact d
 | n+2,h=>exact absurd h (by simp)
theorem Lb {h:aE} {a b c d:V} (e:cM h a c) (f:cM h b d):cM h (.bf [a,b]) (.bf [c,d]):=.bf _ _ rfl λi hi=>by
 match i,hi with
 | 0,_=>exact e
 | 1,_=>exact f
 | n+2,h=>exact absurd h (by simp)
theorem yR {H:View} {id n:Nat} {l:List Int} (a:H id=.arr 1 (bH l)) (b:n=l.length):cR H (.sl id 0 n 1) (encI l):=by
 subst b
 exact cR.own (sz:=1) (.inr ⟨id,by simp,a⟩) λe he v a=>by
  obtain⟨x,_,rfl⟩:=aaX.1 he
  simp at a;subst a;exact .val _
theorem c8.step {H H' H1:View} {u b:V} (h:c8 H H' u) (l:Left H' H1 u b):c8 H H1 b:=λid a=>by
 have h1:=h id a
 have c:=l id (by rw[h1.1];exact a) h1.2
 exact⟨c.1.trans h1.1,c.2⟩
theorem P8 {l:List Int} {k:Nat} (h:k<=l.length):dA 1 (.aU (l.map λx=>[gi x])) none (some (gi k))=some (.aU ((l.take k).map λx=>[gi x]),.none,[]):=by
 simp[dA,bound,asNat,h,acg,List.map_take]
theorem yP {l:List Int} {k:Nat} (h:k<=l.length):dA 1 (.aU (l.map λx=>[gi x])) (some (gi k)) none=some (.aU ((l.drop k).map λx=>[gi x]),.none,[]):=by
 simp[dA,bound,asNat,h,acg,List.map_drop]
 rw[aaS (by simp)]
theorem fX {P:Program} {t:TypeId} {d:TypeDesc} (hu:P.underlying t=some d) (a:d=.string∨∃ k,d=.int k) (cs:Array Value) (off:Nat) {v:Value} (b:cs[off]?=some v):bw P (part t cs off)=some v:=by
 have c:bw P (isAgg t)=some false:=by
  rcases a with rfl | ⟨k,rfl⟩
  all_goals simp only[isAgg,bm,ep hu,abe];rfl
 simp only[part,bm,c,abe,aba,if_false,b]
 rfl
inductive iA (P:Program) (d:Nat) (xs ys:Array Value):List Field->Bool->Prop
 | nil:iA P d xs ys [] true
 | str (f:Field) (l:List Field) (c:Bool) (a b:ByteArray):(f.name≠ "_")->P.underlying f.type=some .string->xs[f.offset]?=some (.string a)->ys[f.offset]?=some (.string b)->iA P d xs ys l c->iA P d xs ys (f :: l) (a == b && c)
 | int (f:Field) (l:List Field) (c:Bool) (k:IntKind) (a b:Int):(f.name≠ "_")->P.underlying f.type=some (.int k)->xs[f.offset]?=some (.int k a)->ys[f.offset]?=some (.int k b)->iA P d xs ys l c->iA P d xs ys (f :: l) (a == b && c)
theorem iA.forIn {P:Program} {d e:Nat} {xs ys:Array Value} {l:List Field} {c:Bool} (h:iA P d xs ys l c) (n:e=d+1) :
  bw P (forIn l ((none:Option Bool),()) λf _ =>
    if f.name≠ "_" then do
     let a <-part f.type xs f.offset
     let b <-part f.type ys f.offset
     let e <-Op.equalIn e f.type a b
     if (!e)=true then pure (ForInStep.done (some false,())) else pure (ForInStep.yield (none,()))
    else pure (ForInStep.yield (none,())))=some (if c=true then (none,()) else (some false,())):=by
 subst n
 induction h with
 | nil=>rfl
 | str f l c a b g hu i j _ m =>
  have he:bw P (Op.equalIn (d+1) f.type (.string a) (.string b))=some (a == b):=by
   simp only[Op.equalIn,bm,ep hu,abe];rfl
  rw[List.forIn_cons,bm,aaF g,bm,fX hu (.inl rfl) xs _ i,abe,bm,fX hu (.inl rfl) ys _ j,abe,bm,he,abe]
  cases a == b with
  | false=>rfl
  | true=>exact m
 | int f l c k a b g hu i j _ m =>
  have he:bw P (Op.equalIn (d+1) f.type (.int k a) (.int k b))=some (a == b):=by
   simp only[Op.equalIn,bm,ep hu,abe];rfl
  rw[List.forIn_cons,bm,aaF g,bm,fX hu (.inr ⟨k,rfl⟩) xs _ i,abe,bm,fX hu (.inr ⟨k,rfl⟩) ys _ j,abe,bm,he,abe]
  cases a == b with
  | false=>rfl
  | true=>exact m
theorem DG {P:Program} {t:TypeId} {b:Array Field} {xs ys:Array Value} {c:Bool} (hu:P.underlying t=some (.struct b)) (d:P.stoodInHeld t=false) (h:iA P 9998 xs ys b.toList c) :
  bw P (Op.equal t (.agg xs) (.agg ys))=some c:=by
 rw[kP]
 rw[Op.equalIn,bm,ep hu,abe]
 have a:(bw P program)=some P:=rfl
 rw[bm,a,abe,d]
 simp only[<-Array.forIn_toList,aba,if_false]
 rw[bm,h.forIn (e:=9999) rfl,abe]
 cases c <;> rfl
theorem Gd {P:Program} {o:Oper} {T:Env} {op:BinOp} {t u:TypeId} {x y:Operand} {f:Array Field} {xs ys:Array Value} {c r:Bool} (b:o.op=.binOp op t x y u) (hu:P.underlying t=some (.struct f)) (i:P.stoodInHeld t=false) (g:P.eqGuardType P.depth t=false)
  (d:dJ (ev T x)=some (.agg xs)) (e:dJ (ev T y)=some (.agg ys)) (h:iA P 9998 xs ys f.toList c) (hr:(op=.eql/\r=c)∨(op=.neq/\r = !c)) :
  eE P o T=some (.val (.bool r),.none,[]):=by
 have he:=DG hu i h
 have a:(bw P program)=some P:=rfl
 unfold eE
 simp only[b,Op.operands,d,e]
 rcases hr with ⟨rfl,rfl⟩ | ⟨rfl,rfl⟩
 .simp[execOp,b,d,e,eqGuard,binOp,j6,bm,a,g,he,plain]
  try simp[bw,pure,plain]
 .simp[execOp,b,d,e,eqGuard,binOp,j6,bm,a,g,he,plain]
  try simp[bw,pure,plain,bne]
theorem jd {P:Program} {T:Env} {H:View} {K:V->View->Prop} {w:cX (T,H,K)} {op:BinOp} {t u ty:TypeId} {x y:Operand} {a:Array Field} {xs ys:Array Value} {c r:Bool} (hu:P.underlying t=some (.struct a)) (b:P.stoodInHeld t=false) (d:P.eqGuardType P.depth t=false)
  (e:dJ (ev T x)=some (.agg xs)) (f:dJ (ev T y)=some (.agg ys)) (h:iA P 9998 xs ys a.toList c) (hr:(op=.eql/\r=c)∨(op=.neq/\r = !c)) (hk:K (.val (.bool r)) H):jI P (.binOp op t x y u) ty T H K w:=by
 intro n _
 refine⟨.val (.bool r),.none,[],?_,hk⟩
 have g:ky P t=none:=by simp[ky,hu]
 simp only[sI,cH,oper,g]
 simp only[Option.isSome_none,aba,if_false]
 exact Gd rfl hu b d e f h hr
def Bz (hp:Array Obj) (cs:List Value) (vs:List V):Prop :=
 vs.length=cs.length/\∀ μ i,i < vs.length->aB (λb=>b < hp.size) μ hp (vs.getD i .any) (cs.getD i undef)
def Wt {H:Type} (P:Program) (t:TypeId) (d:DataW H):Prop:=∀ n∈d.weights P t,n<=reachBytes
def Bk (P:Program) (t:TypeId) {α:Type} (f:α->List V) (ok:α->Prop):Prop :=
 ∀ {H:Type} (enc:TypeId × Value->H) (w:World) (base:Nat) (sp:Nat->Bool) (held:Bool) (fuel:Nat) (cs:List Value) (x:DataW H × List MemPlace),
  DataW.trod enc P w base sp held fuel t cs=some x->Wt P t x.1->∃ a,ok a/\Bz w.heap cs (f a)
theorem zm {hp:Array Obj} {c:Value} {v:V} (h:∀ μ,aB (λb=>b < hp.size) μ hp v c):Bz hp [c] [v]:=by
 refine⟨rfl,λμ i hi=>?_⟩
 match i,hi with
 | 0,_=>exact h μ
theorem X2 {P:Program} {t:TypeId} {k:IntKind} (a:P.underlying t=some (.int k)):Bk P t (λn=>[.val (.int k n)]) (λn=>(Lit.int k n).wf=true):=by
 intro H enc w base sp held fuel cs x h _
 obtain⟨n,rfl,_,hw⟩:=DataW.trod_int a h
 exact⟨n,hw,zm λμ=>.val _ rfl⟩
theorem Hq {P:Program} {t:TypeId} (a:P.underlying t=some .string):Bk P t (λs=>[.val (.string s)]) (λ_=>True):=by
 intro H enc w base sp held fuel cs x h _
 obtain⟨s,rfl,_,_⟩:=DataW.trod_string a h
 exact⟨s,trivial,zm λμ=>.val _ rfl⟩
theorem Jl {w:World} {base:Nat} {a:Addr} {n:Nat} {cs:List Value} (h:w.cells? base a n=some cs):cs.length=n/\∀ i,i < n->w.cell? (a.add i)=some (cs.getD i undef):=by
 obtain⟨_,b,c⟩:=World.cells?_some h
 refine⟨b,λi hi=>?_⟩
 rw[c i hi,aaA,aaB (by omega)]
 rfl
theorem SA {w:World} {a:Addr} {v:Value} (h:w.cell? a=some v):a.spot=none/\a.block < w.heap.size:=by
 unfold World.cell? at h
 split at h
 .rename_i c _ _ b
  split at h
  .simp at h
  .rename_i d
   exact⟨by simpa using d,(Array.getElem?_eq_some_iff.1 b).1⟩
 .simp at h
theorem Se {H:Type} {P:Program} {e:TypeId} : ∀ {l:List (DataW H)},(∀ n∈DataW.weightsAll P e l,n<=reachBytes)->∀ d∈l,Wt P e d
 | [],_,d,a=>by simp at a
 | x :: l,h,d,a=>by
  simp only[DataW.weightsAll,aa1] at h
  rcases aaT.1 a with rfl | a
  .exact λn b=>h n (.inl b)
  .exact Se (λn b=>h n (.inr b)) d a
theorem Vn {H:Type} {P:Program} {t e:TypeId} {elems spare:List (DataW H)} (a:P.underlying t=some (.slice e)) (h:Wt P t (.slice elems spare)) :
  (elems.length+spare.length) * P.bytesOf e<=reachBytes/\∀ d∈elems,Wt P e d:=by
 unfold Wt at h
 unfold DataW.weights at h
 rw[a] at h
 simp only[aaT,aa1] at h
 exact⟨h _ (.inl rfl),Se λn b=>h n (.inr (.inl b))⟩
theorem QN {H:Type} {P:Program} {t:TypeId} {a:Array Field} {parts:List (DataW H)} (b:P.underlying t=some (.struct a)) (h:Wt P t (.agg parts)) {j:Nat} {f:Field} {d:DataW H} (c:a[j]?=some f) (e:parts[j]?=some d):Wt P f.type d:=by
 intro n g
 refine h n ?_
 unfold DataW.weights
 rw[b]
 exact DataW.weights_mem_each (j:=j) (t:=f.type) (by simp[c]) e n g
theorem ND {α:Type} {c:Nat->α->Prop} : ∀ (n:Nat),(∀ i,i < n->∃ a,c i a)->∃ l:List α,l.length=n/\∀ i (hi:i < l.length),c i l[i]
 | 0,_=>⟨[],rfl,λi hi=>by simp at hi⟩
 | n+1,h=>by
  obtain⟨l,d,b⟩:=ND n λi hi=>h i (by omega)
  obtain⟨a,f⟩:=h n (by omega)
  refine⟨l ++ [a],by simp[d],λi hi=>?_⟩
  by_cases e:i < l.length
  .rw[List.getElem_append_left e];exact b i e
  .have:i=n:=by simp at hi;omega
   subst this
   rw[List.getElem_append_right (by omega)]
   simp only[d,Nat.sub_self,abf];exact f
theorem yW {P:Program} {t e:TypeId} {α:Type} {f:α->List V} {ok:α->Prop} (J:P.underlying t=some (.slice e)) (M:0 < P.cellsOf e) (N:0 < P.bytesOf e) (he:Bk P e f ok) :
  Bk P t (λl:List α=>[.aU (l.map f)]) (λl=>l.length < 4611686018427387904/\∀ a∈l,ok a):=by
 intro H enc w base sp held fuel cs x h hw
 rcases DataW.trod_slice J h with ⟨rfl,rfl⟩ | ⟨a,len,cap,elems,rest,n,_,rfl,rfl,O,Q,hm,hlen,A,_,_⟩
 .exact⟨[],⟨by simp,by simp⟩,zm λμ=>.ji none 0 (by simp)⟩
 obtain⟨r,B⟩:=Vn J hw
 simp only[aaJ] at r
 have C:len < 4611686018427387904:=by
  have h1:len * 1<=(elems.length+rest.length) * P.bytesOf e:=Nat.mul_le_mul (by omega) N
  unfold reachBytes at r
  omega
 have each:∀ i,i < len->∃ y,ok y/\∃ ci,w.cells? base (a.add (i * P.cellsOf e)) (P.cellsOf e)=some ci/\Bz w.heap ci (f y):=by
  intro i hi
  have h1:=A i hi
  have k:elems[i]?=some (elems[i]'(by omega)):=aaB (by omega)
  have s:elems[i]'(by omega)∈elems:=aaL _
  rw[k,Option.bind_eq_some_iff] at h1
  obtain⟨ci,D,E⟩:=h1
  obtain⟨y,z,m⟩:=he enc w base sp held n ci _ E (B _ (aaX.2 ⟨_,s,rfl⟩))
  exact⟨y,z,ci,D,m⟩
 obtain⟨l,F,p⟩:=ND len each
 subst F
 refine⟨l,⟨C,λy R=>?_⟩,zm λμ=>?_⟩
 .obtain⟨i,hi,rfl⟩:=List.getElem_of_mem R
  exact(p i hi).1
 by_cases K:l=[]
 .subst K
  exact .ji (some a) cap (by simp)
 have o:0 < l.length:=ab7.2 K
 have d:∀ i j,i < l.length->j < P.cellsOf e->∃ c,cellAt w.heap a.block (a.off+i * P.cellsOf e+j)=some c/\a.block < w.heap.size/\(i=0->j=0->a.spot=none)/\∀ (hi:i < l.length),aB (λb=>b < w.heap.size) μ w.heap ((f l[i]).getD j .any) c:=by
  intro i j hi q
  obtain⟨_,ci,h1,k⟩:=p i hi
  obtain⟨D,E⟩:=Jl h1
  have z:=E j q
  have m:=SA z
  have u:((a.add (i * P.cellsOf e)).add j).block=a.block:=by simp only[Addr.add];split <;> split <;> rfl
  have G:((a.add (i * P.cellsOf e)).add j).off=a.off+i * P.cellsOf e+j:=by
   simp only[Addr.add];split <;> split <;> simp_all
  refine⟨ci.getD j undef,?_,by rw[<-u];exact m.2,?_,λ_=>?_⟩
  .rw[<-G,<-u,<-oM]
   rw[<-z]
   congr 1
   generalize (a.add (i * P.cellsOf e)).add j=b at m
   cases b
   simp at m ⊢
   exact m.1.symm
  .rintro rfl rfl
   simp[Addr.add] at m
   exact m.1
  .exact k.2 μ j (by rw[k.1,D];exact q)
 obtain⟨_,_,S,L,_⟩:=d 0 0 o M
 have T:a=⟨a.block,a.off,none⟩:=by
  cases a;simp at L ⊢;exact L
 have I:∀ i,i < l.length->(f (l[i]?.getD (l[0]'o))).length=P.cellsOf e:=λi hi=>by
  obtain⟨_,ci,h1,k⟩:=p i hi
  rw[aaB hi,aaU,k.1,(Jl h1).1]
 have v:∀ i (hi:i < l.length),(l.map f).getD i []=f l[i]:=λi hi=>by simp[aaA,hi]
 have g:(l.map f).length=l.length:=by simp
 have:=aB.aU (Z:=λb=>b < w.heap.size) (μ:=μ) (hp:=w.heap) (l.map f) a.block a.off (P.cellsOf e) cap (λi j=>(cellAt w.heap a.block (a.off+i * P.cellsOf e+j)).getD undef) S (by rw[g];exact Q)
  (λi hi=>by
   rw[g] at hi
   have:=I i hi
   rw[aaB hi,aaU] at this
   rw[v i hi];exact this)
  (λi j hi q=>by
   rw[g] at hi
   obtain⟨c,h1,_⟩:=d i j hi q
   rw[h1];rfl)
  (λi j hi q=>by
   rw[g] at hi
   obtain⟨c,h1,_,_,k⟩:=d i j hi q
   rw[h1,v i hi];exact k hi)
 rw[g,<-T] at this
 exact this
theorem Bj {P:Program} {t:TypeId} {b:Array Field} (d:P.underlying t=some (.struct b)) (j:∀ (i:Nat) (f:Field),b[i]?=some f->f.offset=i/\P.cellsOf f.type=1) (k:P.cellsOf t=b.size)
  {H:Type} {enc:TypeId × Value->H} {w:World} {base:Nat} {sp:Nat->Bool} {held:Bool} {fuel:Nat} {cs:List Value} {x:DataW H × List MemPlace} (h:DataW.trod enc P w base sp held fuel t cs=some x) (hw:Wt P t x.1) :
  cs.length=b.size/\∀ (i:Nat) (f:Field),b[i]?=some f->∀ {α:Type} {g:α->List V} {ok:α->Prop},Bk P f.type g ok->∃ a,ok a/\Bz w.heap [cs.getD i undef] (g a):=by
 obtain⟨xs,n,rfl,rfl,l,hlen,m⟩:=DataW.trod_struct d h
 refine⟨by rw[l,k],λi f hi α g ok hr=>?_⟩
 obtain⟨h1,o⟩:=j i f hi
 have p:i < b.size:=(Array.getElem?_eq_some_iff.1 hi).1
 have c:=m i f hi
 have e:xs[i]?=some (xs[i]'(by omega)):=aaB (by omega)
 rw[e,h1,o] at c
 have q:(cs.drop i).take 1=[cs.getD i undef]:=by
  rw[aaA,aaB (by omega),abo (by omega)]
  rfl
 rw[q] at c
 exact hr enc w base sp held n _ _ c (QN d hw hi (by simp[e]))
theorem iV {hp:Array Obj} {c:Value} {cs:List Value} {v:V} {vs:List V} (h:Bz hp [c] [v]) (k:Bz hp cs vs):Bz hp (c :: cs) (v :: vs):=by
 refine⟨by simp[k.1],λμ i hi=>?_⟩
 cases i with
 | zero=>exact h.2 μ 0 (by simp)
 | succ i=>exact k.2 μ i (by simpa using hi)
theorem DS {hp:Array Obj} : Bz hp [] []:=⟨rfl,λμ i hi=>by simp at hi⟩
theorem XF {n:Int} (h:(Lit.int .i64 n).wf=true):bM n:=by
 simp only[Lit.wf,aaK,aaP] at h
 exact h
theorem rJ:Bk Tryz.prog 3 (λn=>[gi n]) bM:=λenc w base sp held fuel cs x h hw=>by
 obtain⟨n,h1,a⟩:=X2 Tryz.underlying3 enc w base sp held fuel cs x h hw
 exact⟨n,XF h1,a⟩
theorem XG:Bk Tryz.prog 27 (λl:List Int=>[encI l]) (λl=>aK l/\∀ x∈l,bM x) :=
 yW Tryz.underlying27 (acm (by kernel_rfl)) (acm (by kernel_rfl)) rJ
theorem OK:Bk Tryz.prog 23 (λl:List ByteArray=>[encS l]) (λl=>aK l/\∀ x∈l,True) :=
 yW Tryz.underlying23 (acm (by kernel_rfl)) (acm (by kernel_rfl)) (Hq Tryz.underlying9)
theorem Zo {cs:List Value} (h:cs.length=3):cs=[cs.getD 0 undef,cs.getD 1 undef,cs.getD 2 undef]:=by
 match cs,h with
 | [a,b,c],_=>rfl
theorem cs4 {cs:List Value} (h:cs.length=4):cs=[cs.getD 0 undef,cs.getD 1 undef,cs.getD 2 undef,cs.getD 3 undef]:=by
 match cs,h with
 | [a,b,c,d],_=>rfl
theorem Xl:Bk Tryz.prog 130 dg (λt=>bM t.level/\bM t.assoc):=λenc w base sp held fuel cs x h hw=>by
 obtain⟨e,d⟩:=Bj Tryz.underlying130 (by
  intro i f hi
  match i,hi with
  | 0,hi=>simp at hi;subst hi;exact⟨rfl,by kernel_rfl⟩
  | 1,hi=>simp at hi;subst hi;exact⟨rfl,by kernel_rfl⟩
  | 2,hi=>simp at hi;subst hi;exact⟨rfl,by kernel_rfl⟩
  | n+3,hi=>simp at hi) (by kernel_rfl) h hw
 obtain⟨a,_,h1⟩:=d 0 _ rfl (Hq Tryz.underlying9)
 obtain⟨b,g,j⟩:=d 1 _ rfl rJ
 obtain⟨c,k,l⟩:=d 2 _ rfl rJ
 refine⟨⟨a,b,c⟩,⟨g,k⟩,?_⟩
 rw[Zo e]
 exact iV h1 (iV j (iV l DS))
theorem Xh:Bk Tryz.prog 92 bg (λr=>bM r.left/\bM r.prec/\aK r.right/\∀ x∈r.right,bM x):=λenc w base sp held fuel cs x h hw=>by
 obtain⟨g,d⟩:=Bj Tryz.underlying92 (by
  intro i f hi
  match i,hi with
  | 0,hi=>simp at hi;subst hi;exact⟨rfl,by kernel_rfl⟩
  | 1,hi=>simp at hi;subst hi;exact⟨rfl,by kernel_rfl⟩
  | 2,hi=>simp at hi;subst hi;exact⟨rfl,by kernel_rfl⟩
  | n+3,hi=>simp at hi) (by kernel_rfl) h hw
 obtain⟨a,j,h1⟩:=d 0 _ rfl rJ
 obtain⟨b,e,k⟩:=d 1 _ rfl XG
 obtain⟨c,l,m⟩:=d 2 _ rfl rJ
 refine⟨⟨a,b,c⟩,⟨j,l,e.1,e.2⟩,?_⟩
 rw[Zo g]
 exact iV h1 (iV k (iV m DS))
theorem Xu:Bk Tryz.prog 26 ag af.Ok:=λenc w base sp held fuel cs x h hw=>by
 obtain⟨k,e⟩:=Bj Tryz.underlying26 (by
  intro i f hi
  match i,hi with
  | 0,hi=>simp at hi;subst hi;exact⟨rfl,by kernel_rfl⟩
  | 1,hi=>simp at hi;subst hi;exact⟨rfl,by kernel_rfl⟩
  | 2,hi=>simp at hi;subst hi;exact⟨rfl,by kernel_rfl⟩
  | 3,hi=>simp at hi;subst hi;exact⟨rfl,by kernel_rfl⟩
  | n+4,hi=>simp at hi) (by kernel_rfl) h hw
 obtain⟨a,g,h1⟩:=e 0 _ rfl (yW Tryz.underlying22 (acm (by kernel_rfl)) (acm (by kernel_rfl)) Xl)
 obtain⟨b,l,m⟩:=e 1 _ rfl OK
 obtain⟨c,j,o⟩:=e 2 _ rfl (yW Tryz.underlying24 (acm (by kernel_rfl)) (acm (by kernel_rfl)) Xh)
 obtain⟨d,p,q⟩:=e 3 _ rfl rJ
 refine⟨⟨a,b,c,d⟩,⟨g.1,l.1,j.1,p,g.2,j.2⟩,?_⟩
 rw[cs4 k]
 exact iV h1 (iV m (iV o (iV q DS)))
end Gv
