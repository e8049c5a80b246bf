/-
  Part 9 of the proof: what the machine does and what the functions answer.
  Conditions: those that each lemma names.
-/
import Derived.ProofKit
import Derived.SizedLaws
import Derived.Test.YtiophifnkakjgaaGreatSGzB7H
set_option linter.unusedSimpArgs false
set_option linter.unusedVariables false
set_option maxRecDepth 100000
set_option maxHeartbeats 20000000
namespace Gv
open Go Go.Proofs
def qE (is:List Bool) (l:List Int):List Bool:=l.foldl (λis n=>is.set n.toNat true) is
def stepG (comes:bk->List Bool->List Int) (is:List Bool) (r:bk):List Bool:=qE is (comes r is)
def dT (comes:bk->List Bool->List Int) (rules:List bk) (is:List Bool):List Bool:=rules.foldl (stepG comes) is
def gT (a b:List Bool):Prop:=a.length=b.length/\∀ i,a.getD i false=true->b.getD i false=true
theorem gT.refl (a:List Bool):gT a a:=⟨rfl,λ_ h=>h⟩
theorem gT.trans {a b c:List Bool} (h:gT a b) (k:gT b c):gT a c:=⟨h.1.trans k.1,λi hi=>k.2 i (h.2 i hi)⟩
theorem gT.set (a:List Bool) (i:Nat):gT a (a.set i true):=by
 refine⟨by simp,λj h=>?_⟩
 simp only[Sm,T0] at h ⊢
 split
 .split
  .rfl
  .rename_i e b;rw[<-e,Te (by omega)] at h;simp at h
 .exact h
theorem ED:∀ (l:List Int) (is:List Bool),gT is (qE is l)
 | [],is=>.refl _
 | n :: l,is=>(gT.set is n.toNat).trans (ED l _)
theorem r8 (comes:bk->List Bool->List Int):∀ (rules:List bk) (is:List Bool),gT is (dT comes rules is)
 | [],is=>.refl _
 | r :: rs,is=>(ED _ _).trans (r8 comes rs _)
def dL (a:List Bool):Nat:=a.countP λx=>x
theorem uE (a:List Bool):dL a<=a.length:=List.countP_le_length
theorem gT.dL:∀ {a b:List Bool},gT a b->dL a<=dL b/\(dL a=dL b->a=b)
 | [],[],_=>⟨Sy _,λ_=>rfl⟩
 | [],_ :: _,h=>by simp[gT] at h
 | _ :: _,[],h=>by simp[gT] at h
 | x :: a,y :: b,h=>by
  have c:x=true->y=true:=λe=>by have:=h.2 0 (by simpa using e);simpa using this
  obtain⟨h1,d⟩:=gT.dL (a:=a) (b:=b) ⟨by simpa using h.1,λi hi=>by have:=h.2 (i+1) (by simpa using hi);simpa using this⟩
  unfold Gv.dL at h1 d ⊢
  simp only[List.countP_cons]
  cases x with
  | true =>
   have:=c rfl;subst this
   simp only[if_true]
   exact⟨by omega,λe=>by rw[d (by omega)]⟩
  | false =>
   cases y with
   | false=>simp only[SU,if_false];exact⟨by omega,λe=>by rw[d (by omega)]⟩
   | true=>simp only[SU,if_false,if_true];exact⟨by omega,λe=>by omega⟩
def gL (comes:bk->List Bool->List Int) (rules:List bk):Nat->List Bool->List Bool
 | 0,is=>is
 | k+1,is=>if dT comes rules is=is then is else gL comes rules k (dT comes rules is)
theorem xm (comes:bk->List Bool->List Int) (rules:List bk):∀ (k:Nat) (is:List Bool),is.length<=dL is+k->dT comes rules (gL comes rules k is)=gL comes rules k is/\gT is (gL comes rules k is)
 | 0,is,h=>by
  have h1:=r8 comes rules is
  have b:=uE (dT comes rules is)
  have a:=h1.dL
  rw[<-h1.1] at b
  have c:=uE is
  exact⟨(a.2 (by omega)).symm,.refl _⟩
 | k+1,is,h=>by
  simp only[gL]
  by_cases e:dT comes rules is=is
  .rw[St e];exact⟨e,.refl _⟩
  .rw[Sr e]
   have h1:=r8 comes rules is
   have a:=h1.dL
   have:dL is < dL (dT comes rules is):=by
    rcases SY (dL is) (dL (dT comes rules is)) with h | h
    .exact h
    .exact absurd (a.2 (by omega)).symm e
   obtain⟨g1,g2⟩:=xm comes rules k (dT comes rules is) (by rw[<-h1.1];omega)
   exact⟨g1,h1.trans g2⟩
def vE:SC :=
 ae [ab [aU 26 .lss 25 24],cb 26 (.exit 4),.block 5 (ae [ab [aZ 27 1 23 25,ak 28 27,aa 11 28],.region false [⟨none,[aa 29 7,aa 30 29]⟩,⟨(some (30,false)),[aa 31 1,aa 32 11,aZ 33 1 31 32,ak 34 33,dp 35 34]⟩,⟨none,[cR 36 30 35,aa 7 36]⟩],ab [aa 37 1,aa 38 11,aZ 39 1 37 38,(none,.op (.store 1 (.tmp 39) (.val (.val (.bool true)))))]]),ab [aF 40 .add 25 1,aa 25 40]]
def vz:SC :=
 ae [ab [aU 17 .lss 16 15],cb 17 (.exit 2),.block 3 (ae [ab [aZ 18 3 14 16,ba 19 3 18,((some 9),.op (.alloc [(.val (.int .i64 0)),(.emp 1),(.val (.int .i64 0))])),cL 3 9 19],ab [aa 20 2,ba 21 3 9,aa 22 1,((some 23),.call (.tmp 20) [(.tmp 21),(.tmp 22)]),aP 24 23,aR 25 0],cd 4 vE]),ab [aF 41 .add 16 1,aa 16 41]]
def p9:SC :=
 ae [ae [ab [aa 12 7],cb 12 (.exit 0)],.block 1 (ae [ab [bm 7 false],ab [al 13 2 3,ak 14 13,aP 15 14,aR 16 0],cd 2 vz])]
def yn:SF:=⟨ae [ab [cG 3 0,bQ 6 1],ae [ab [bm 7 true],cd 0 p9],ab [aa 42 1,aa 6 42],.ret],
 [.tmp 6],43⟩
theorem Bv:aI Tryz.prog 173 [3]=some yn:=by kernel_rfl
theorem NZ {is:List Bool} {i:Nat} (h:is.getD i false=true):is.set i true=is:=by
 apply List.ext_getElem?
 intro j
 simp only[Sm] at h
 rw[T0]
 split
 .rename_i e;subst e
  split
  .rename_i a;rw[Sn a] at h ⊢;simp at h;simp[h]
  .rename_i a;rw[Te (by omega)] at h;simp at h
 .rfl
theorem JH {comes:bk->List Bool->List Int} {rules:List bk} {k:Nat} {is:List Bool} (h:dT comes rules is=is):gL comes rules k is=is:=by
 cases k with
 | zero=>rfl
 | succ k=>simp only[gL,h,if_true]
theorem J0 {comes:bk->List Bool->List Int} {rules:List bk} {k:Nat} {is:List Bool} (h:¬ dT comes rules is=is) (hk:is.length<=dL is+k):∃ j,k=j+1/\gL comes rules k is=gL comes rules j (dT comes rules is)/\(dT comes rules is).length<=dL (dT comes rules is)+j:=by
 have h1:=r8 comes rules is
 have a:=h1.dL
 have b:=uE (dT comes rules is)
 have:dL is < dL (dT comes rules is):=by
  rcases SY (dL is) (dL (dT comes rules is)) with h | h
  .exact h
  .exact absurd (a.2 (by omega)).symm (by assumption)
 have c:=h1.1
 obtain⟨j,rfl⟩:∃ j,k=j+1:=⟨k - 1,by omega⟩
 exact⟨j,rfl,by simp only[gL];rw[Sr h],by omega⟩
theorem OF {a is:List Bool} {i:Nat} {b:Bool} (hle:gT a is) (hi:i < is.length) (d:b = !decide (is=a)):(b || !is.getD i false) = !decide (is.set i true=a):=by
 cases c:is.getD i false with
 | true=>rw[NZ c,d];simp
 | false =>
  have:¬ is.set i true=a:=λe=>by
   have h1:(is.set i true).getD i false=true:=by simp[Sm,hi]
   rw[e] at h1
   have:=hle.2 i h1
   rw[c] at this;simp at this
  simp[this]
theorem GZ (g:af) (hr:g.rules.length<=40) (comes:bk->List Bool->List Int) (f:FuncId) (t D:List V) (ar:dw Tryz.prog f=true) (N:Nat) (hN:N<=16)
  (hc:∀ r∈g.rules,∀ is:List Bool,is.length=N->cT Tryz.prog f (.agg (aQ r) :: cq is :: D) (encI (comes r is))/\(comes r is).length<=100/\∀ n∈comes r is,bK n/\0<=n/\n < N)
  (id:Nat) (A:List Bool) (a6:A.length=N) (H:View) (hH:H id=.arr 1 (dh A)) (O:∀ H':View,(∀ k,H k≠.dead->k≠id->H' k=H k)->pc H' t D) :
  au Tryz.prog 173 [.agg (ag g),.sl id 0 N 1,.fn f [] t] H λr H'=>r=.sl id 0 N 1/\H' id=.arr 1 (dh (gL comes g.rules 16 A))/\∀ k,H k≠.dead->k≠id->H' k=H k:=by
 refine au.of mixed Bv ?_
 simp(disch:=omega)only[↓wr,seval,wq,yn,ag,encS]
 refine aY.intro (λk T H'=>∃ is:List Bool,is.length=N/\H' id=.arr 1 (dh is)/\(∀ k,H k≠.dead->k≠id->H' k=H k)/\T 1=.sl id 0 N 1/\T 2=.fn f [] t/\T 3=.aG (ag g) 0 /\
  ((T 7=gb true/\∃ j,k=j+1/\gL comes g.rules j is=gL comes g.rules 16 A/\N<=dL is+j)∨(T 7=gb false/\is=gL comes g.rules 16 A))) 17 ?_ ?_
 .exact⟨A,a6,hH,λ_ _ _=>rfl,rfl,rfl,rfl,.inl ⟨rfl,16,rfl,rfl,by omega⟩⟩
 rintro k T H1 ⟨is,hlen,o,p,t1,t2,t3,u⟩
 rcases u with ⟨u,j,rfl,J,hj⟩ | ⟨u,J⟩
 .simp(disch:=omega)only[↓wr,seval,wq,p9,t1,t2,t3,u,ag,encS]
  refine aY.up g.rules.length (λi T H'=>∃ nX:List Bool,nX.length=N/\gT is nX/\nX=(g.rules.take i).foldl (stepG comes) is/\H' id=.arr 1 (dh nX)/\(∀ k,H k≠.dead->k≠id->H' k=H k)/\T 1=.sl id 0 N 1/\T 2=.fn f [] t/\T 3=.aG (ag g) 0 /\
   T 7=gb (!decide (nX=is))/\T 14=.aT (g.rules.map aQ)/\T 15=gi g.rules.length/\T 16=gi i) ?_ ?_
  .exact⟨is,hlen,.refl _,rfl,o,p,t1,t2,t3,by simp;rfl,rfl,rfl,rfl⟩
  clear t1 t2 t3 u o p
  rintro i k T H1 hk ⟨nX,s,W,P,o,p,t1,t2,t3,u,c,d,m⟩
  simp(disch:=omega)only[↓wr,seval,wq,vz,t1,t2,t3,u,c,d,m,ag,encS]
  apply ai.dec<;>intro a8
  .have Q:g.rules[i]?=some (g.rules[i]'(by omega)):=Sn (by omega)
   have M:g.rules[i]'(by omega)∈g.rules:=Sx _
   have X:(g.rules.take (i+1)).foldl (stepG comes) is=stepG comes ((g.rules.take i).foldl (stepG comes) is) (g.rules[i]'(by omega)):=by
    rw[S6,Q,T4];rfl
   generalize g.rules[i]'(by omega)=r at Q M X
   obtain⟨bd,bl,Y⟩:=hc r M nX s
   simp(disch:=omega)only[↓wr,seval,wq,t1,t2,t3,u,c,d,m,aQ,encI,Ss,Q]
   intro b R
   have E:b≠id:=by rintro rfl;rw[o] at R;simp at R
   try simp(disch:=omega)only[↓wr,seval,wq,t1,t2,t3,u,c,d,m]
   refine av.lD bd ar ⟨cg.tree (cn _ (gV r)),zy (by simp[View.set,E.symm,o]) s.symm,O _ (λk hk v=>?_)⟩ ?_
   .have S:k≠b:=by
     rintro rfl
     rw[p k hk v] at R
     exact hk R
    simp[View.set,S,p k hk v]
   generalize hl:comes r nX=l at bl Y
   simp(disch:=omega)only[↓wr,seval,wq,t1,t2,t3,u,c,d,m,encI]
   refine aY.up l.length (λq T H'=>∃ a:List Bool,a.length=N/\gT is a/\a=qE nX (l.take q)/\H' id=.arr 1 (dh a)/\(∀ k,H k≠.dead->k≠id->H' k=H k)/\T 1=.sl id 0 N 1/\T 2=.fn f [] t/\T 3=.aG (ag g) 0 /\
    T 7=gb (!decide (a=is))/\T 14=.aT (g.rules.map aQ)/\T 15=gi g.rules.length/\T 16=gi i/\T 23=encI l/\T 24=gi l.length/\T 25=gi q) ?_ ?_
   .refine⟨nX,s,W,rfl,by simp[View.set,E.symm,o],λk hk v=>?_,t1,t2,t3,u,c,d,m,rfl,rfl,rfl⟩
    have S:k≠b:=by
     rintro rfl
     rw[p k hk v] at R
     exact hk R
    simp[View.set,S,p k hk v]
   clear t1 t2 t3 u c d m o p R E
   rintro q k2 T H1 bn ⟨a,F,G,I,o,p,t1,t2,t3,u,c,d,m,w,y,B⟩
   simp(disch:=omega)only[↓wr,seval,wq,vE,t1,t2,t3,u,c,d,m,w,y,B,encI]
   apply ai.dec<;>intro br
   .have U:l[q]?=some (l[q]'(by omega)):=Sn (by omega)
    have Z:l[q]'(by omega)∈l:=Sx _
    have an:qE nX (l.take (q+1))=(qE nX (l.take q)).set (l[q]'(by omega)).toNat true:=by
     unfold qE;rw[S6,U,T4];rfl
    generalize l[q]'(by omega)=n at U Z an
    obtain⟨⟨n1,n2⟩,n3,n4⟩:=Y n Z
    have aq:a.getD n.toNat false=a[n.toNat]'(by omega):=by simp[Sm,show n.toNat < a.length by omega]
    have z:=OF G (show n.toNat < a.length by omega) (b:=!decide (a=is)) rfl
    rw[aq] at z
    have K:=j6 (show n.toNat < a.length by omega)
    generalize a[n.toNat]'(by omega)=x at z K aq
    have fin:∀ (C:Env),C 7=gb (!decide (a.set n.toNat true=is))->C 1=.sl id 0 N 1->C 2=.fn f [] t->C 3=.aG (ag g) 0->C 14=.aT (g.rules.map aQ)->C 15=gi g.rules.length->C 16=gi i->C 23=encI l->C 24=gi l.length->C 25=gi ((q:Int)+1) ->
      ∃ k',k' < k2/\Dm l.length k' (λq T H'=>∃ a:List Bool,a.length=N/\gT is a/\a=qE nX (l.take q)/\H' id=.arr 1 (dh a)/\(∀ k,H k≠.dead->k≠id->H' k=H k)/\T 1=.sl id 0 N 1/\T 2=.fn f [] t/\T 3=.aG (ag g) 0 /\
       T 7=gb (!decide (a=is))/\T 14=.aT (g.rules.map aQ)/\T 15=gi g.rules.length/\T 16=gi i/\T 23=encI l/\T 24=gi l.length/\T 25=gi q) C (H1.set id (.arr 1 (dh (a.set n.toNat true)))):=by
     intro C a7 a1 a2 a3 bs bx b0 a23 a24 a25
     refine aH bn (by omega) ⟨a.set n.toNat true,by simp[F],G.trans (.set _ _),by rw[an,<-I],by simp[View.set],λk hk v=>by simp[View.set,v,p k hk v],a1,a2,a3,a7,bs,bx,b0,a23,a24,by rw[a25];rfl⟩
    simp(disch:=omega)only[↓wr,seval,wq,t1,t2,t3,u,c,d,m,w,y,B,encI,Ss,U]
    apply ai.dec<;>intro e
    .simp(disch:=omega)only[↓wr,seval,wq,t1,t2,t3,u,c,d,m,w,y,B,encI,o,K,Sv]
     refine⟨by omega,by omega,?_⟩
     try simp(disch:=omega)only[↓wr,seval,wq,t1,t2,t3,u,c,d,m,w,y,B,encI,o,K,Sv]
     refine⟨by omega,by omega,?_⟩
     rw[kb]
     exact fin _ (by rw[<-z];simp[e];rfl) t1 t2 t3 c d m w y rfl
    .simp(disch:=omega)only[↓wr,seval,wq,t1,t2,t3,u,c,d,m,w,y,B,encI,o,K,Sv]
     refine⟨by omega,by omega,?_⟩
     rw[kb]
     exact fin _ (by rw[<-z];simp[e];rfl) t1 t2 t3 c d m w y rfl
   .rw[SL (by omega)] at I
    simp(disch:=omega)only[↓wr,seval,wq,t1,t2,t3,u,c,d,m,w,y,B]
    refine aH hk (by omega) ⟨a,F,G,?_,o,p,t1,t2,t3,u,c,d,rfl⟩
    rw[X,<-P,stepG,hl,<-I]
  .rw[SL (by omega)] at P
   simp(disch:=omega)only[↓wr,seval,wq,t1,t2,t3,u,c,d,m]
   have L:nX=dT comes g.rules is:=P
   by_cases e:nX=is
   .refine⟨0,by omega,nX,s,o,p,rfl,.inr ⟨by simp[e],?_⟩⟩
    rw[<-J,e]
    exact(JH (by rw[<-L];exact e)).symm
   .obtain⟨j2,rfl,e2,e3⟩:=J0 (k:=j) (λh=>e (L.trans h)) (by rw[hlen];exact hj)
    refine⟨j2+1,by omega,nX,s,o,p,rfl,.inl ⟨by simp[e],j2,rfl,?_,?_⟩⟩
    .rw[<-J,e2,L]
    .rw[<-L,s] at e3;exact e3
 .simp(disch:=omega)only[↓wr,seval,wq,p9,t1,t2,t3,u,ag,encS]
  exact⟨J ▸ o,p⟩
theorem zo {α:Type} {f:α->α} {x:α} (h:f x=x):∀ n,iter f n x=x
 | 0=>rfl
 | n+1=>by rw[iter,h,zo h n]
theorem Ey {α:Type} (f:α->α):∀ (a b:Nat) (x:α),iter f (a+b) x=iter f b (iter f a x)
 | 0,b,x=>by rw[Tt];rfl
 | a+1,b,x=>by rw[Nat.add_right_comm,iter,iter,Ey f a b]
theorem zC (comes:bk->List Bool->List Int) (rules:List bk):∀ (k:Nat) (is:List Bool),gL comes rules k is=iter (dT comes rules) k is
 | 0,is=>rfl
 | k+1,is=>by
  simp only[gL,iter]
  by_cases e:dT comes rules is=is
  .rw[St e,e,zo e]
  .rw[Sr e,zC comes rules k]
theorem v8 (comes:bk->List Bool->List Int) (rules:List bk) (is:List Bool) (h:is.length<=16):gL comes rules 16 is=iter (dT comes rules) is.length is:=by
 have h1:=(xm comes rules is.length is (by omega)).1
 rw[zC] at h1 ⊢
 obtain⟨m,hm⟩:∃ m,16=is.length+m:=⟨16 - is.length,by omega⟩
 rw[hm,Ey,zo h1]
def tX (t:Bool) (r:bk) (is:List Bool):List Int:=if fQ r.right is t=true then [r.left] else []
def rb (p:List Bool) (r:bk) (is:List Bool):List Int:=if (is.getD r.left.toNat false && fQ r.right p true)=true then gj r.right else []
theorem PQ (g:af) (t:Bool):dT (tX t) g.rules=mg g t:=by
 funext is
 unfold dT mg
 congr 1
 funext is r
 unfold stepG tX iF
 split <;> rfl
theorem zO:∀ (l:List Int) (is:List Bool),qE is (gj l)=l.foldl mark is
 | [],is=>rfl
 | s :: l,is=>by
  have a:=zO l
  unfold qE gj at a ⊢
  rw[Tp,<-a]
  unfold mark
  by_cases h:s < 0
  .rw[St h,List.filter_cons_of_pos (by simpa using h)];rfl
  .rw[Sr h,List.filter_cons_of_neg (by simpa using h)]
theorem HQ (g:af) (p:List Bool):dT (rb p) g.rules=pM g p:=by
 funext is
 unfold dT pM
 congr 1
 funext is r
 unfold stepG rb gI
 split
 .exact zO _ _
 .rfl
theorem Qx {g:af} (h:ca g=true) (t:Bool):gL (tX t) g.rules 16 (cy g)=bz g t:=by
 have a:=cD h
 have b:(cy g).length=g.aj.length:=by simp[cy]
 have:=a.aj
 rw[v8 _ _ _ (by rw[b];exact a.aj),PQ,b,bz,St h]
theorem MP {g:af} (h:ca g=true):gL (rb (bz g true)) g.rules 16 ((cy g).set g.start.toNat true)=b5 g:=by
 have b:=cD h
 have a:((cy g).set g.start.toNat true).length=g.aj.length:=by simp[cy]
 rw[v8 _ _ _ (by rw[a];exact b.aj),HQ,a,b5,St h]
def qg:SF:=⟨ae [ab [cG 1 0,bQ 2 1],ae [ab [ba 3 4 1,bg 4 89 [3],dp 5 4],bf 5 (ae [ab [bQ 2 1],.ret])],ab [ba 6 4 1,al 7 1 1,ak 8 7,aP 9 8,((some 10),.op (.make 1 1 [(.val (.bool false))] (.tmp 9) (.tmp 9))),qe 11 173 [(.tmp 6),(.tmp 10),(.val (.fn 226 [] []))],aa 2 11],.ret],
 [.tmp 2],12⟩
theorem u4:aI Tryz.prog 161 [1]=some qg:=by kernel_rfl
def rC:SF:=⟨ae [ab [cG 1 0,bQ 2 1],ae [ab [ba 5 4 1,bg 6 89 [5],dp 7 6],bf 7 (ae [ab [bQ 2 1],.ret])],ab [ba 8 4 1,bg 9 161 [8],((some 3),.op (.alloc [(.emp 1)])),cL 1 3 9],ab [al 10 1 1,ak 11 10,aP 12 11,((some 13),.op (.make 1 1 [(.val (.bool false))] (.tmp 12) (.tmp 12))),aa 4 13],ab [aa 14 4,al 15 3 1,ak 16 15,aZ 17 1 14 16,(none,.op (.store 1 (.tmp 17) (.val (.val (.bool true)))))],ab [ba 18 4 1,aa 19 4,((some 20),.op (.sF 227 [] [(.tmp 3)])),bg 21 173 [18,19,20],aa 2 21],.ret],
 [.tmp 2],22⟩
theorem vQ:aI Tryz.prog 162 [1]=some rC:=by kernel_rfl
structure af.Small (g:af):Prop where
 names:g.aj.length+g.ao.length<=1000
theorem CQ {a:az} {id n:Nat} {is:List Bool} (b:a.view id=.arr 1 (dh is)) (c:n=is.length):dH a (.sl id 0 n 1) (cq is):=by
 subst c;exact vR b
theorem tQ (g:af) (d:g.Ok) (i:g.Small):cT Tryz.prog 161 [.agg (ag g)] (cq (bz g true)):=by
 refine cT.of (fa g) ?_
 refine au.of mixed u4 ?_
 have j:=d.aj
 unfold aK at j
 simp(disch:=omega)only[↓wr,seval,wq,qg,ag,encS]
 refine av.pure (rR g d i.names) ?_
 repeat' (first | ((first|apply ai.dec|apply ai.eq|apply ai.ne|apply ai.split)<;>intro)|(simp(disch:=omega)only[↓wr,seval,wq,ag,encS]))
 .rename_i hr
  have b:=cD hr
  have h1:=b.qn
  have k:=b.aj
  try simp(disch:=omega)only[↓wr,seval,wq,ag,encS]
  refine⟨⟨by omega,by unfold aC;omega,by unfold aC;omega⟩,λh=>by omega,?_⟩
  intro _ n
  try simp(disch:=omega)only[↓wr,seval,wq,ag,encS]
  refine av.dW ((GZ g b.rules (tX true) 226 [] [] (by kernel_rfl) g.aj.length k (λr a is e=>⟨BD r is (by rw[e];exact b.tq d a),?_,?_⟩) n (cy g) (by simp[cy]) _ (by simp[View.set,cy]) (λH' _=>trivial)).mono ?_)
  .unfold tX;split <;> simp
  .intro m hm
   unfold tX at hm
   split at hm
   .simp only[Tz] at hm;subst hm
    exact⟨(d.aw r a).1,b.left r a⟩
   .simp at hm
  .rintro r H' ⟨rfl,c,_⟩
   simp(disch:=omega)only[↓wr,seval,wq]
   intro l f
   rw[Qx hr] at c
   exact CQ (by rw[f];exact c) (lx hr _).symm
 .rename_i hr
  intro l f
  simp only[bz,hr]
  exact .emp _
theorem oV {g:af} (hr:ca g=true):(b5 g).length=g.aj.length:=by
 rw[b5,St hr,zi (f:=pM g (bz g true)) (λis=>zf (λis x=>MI _ is x) g.rules is)]
 simp[cy]
theorem Dv (g:af) (f:g.Ok) (w:g.Small):cT Tryz.prog 162 [.agg (ag g)] (cq (b5 g)):=by
 refine cT.of (fa g) ?_
 refine au.of mixed vQ ?_
 have A:=f.aj
 unfold aK at A
 simp(disch:=omega)only[↓wr,seval,wq,rC,ag,encS]
 refine av.pure (rR g f w.names) ?_
 repeat' (first | ((first|apply ai.dec|apply ai.eq|apply ai.ne|apply ai.split)<;>intro)|(simp(disch:=omega)only[↓wr,seval,wq,ag,encS]))
 .rename_i hr
  have d:=cD hr
  have h1:=d.qn
  have B:=d.aj
  have D:=d.nN
  have E:=d.start
  have p:=lx hr true
  try simp(disch:=omega)only[↓wr,seval,wq,ag,encS]
  refine av.pure (tQ g f w).pure ?_
  simp(disch:=omega)only[↓wr,seval,wq,ag,encS,cq]
  intro q
  try simp(disch:=omega)only[↓wr,seval,wq,ag,encS,set_set]
  refine⟨⟨by omega,by unfold aC;omega,by unfold aC;omega⟩,λh=>by omega,?_⟩
  intro _ n t
  have e:=(bR t bP).1
  try simp(disch:=omega)only[↓wr,seval,wq,ag,encS,set_set]
  have i:=j6 (is:=cy g) (show g.start.toNat < (cy g).length by simp[cy];omega)
  refine⟨by omega,by simp;omega,?_⟩
  refine av.dW ((GZ g d.rules (rb (bz g true)) 227 [.ptr q 0 0] [.aG [cq (bz g true)] 0] (by kernel_rfl) g.aj.length B (λr c is j=>⟨DD r is (bz g true) (by rw[j];exact d.tq f c) (by rw[j,p]),?_,?_⟩) n ((cy g).set g.start.toNat true) (by simp[cy]) _ ?_ (λH' u=>⟨cg.box (z:=1) ?_ ?_,trivial⟩)).mono ?_)
  .have F:=d.right r c
   unfold rb
   split
   .have:(gj r.right).length<=r.right.length:=by simp only[gj,Sv];exact T6 _ _
    omega
   .simp
  .intro m hm
   unfold rb at hm
   split at hm
   .simp only[gj,S5,TD,SN] at hm
    obtain⟨s,⟨k,l⟩,rfl⟩:=hm
    have a:=d.neg c k l
    have b:=((f.aw r c).2.2.2 s k).1
    exact⟨⟨by omega,by omega⟩,by omega,a⟩
   .simp at hm
  .simp only[View.set,if_true]
   congr 1
   rw[<-kb]
   unfold cy at i ⊢
   rw[wO,i]
   rfl
  .rw[u q (by simp[View.set,Ne.symm e]) (Ne.symm e)]
   simp[View.set,Ne.symm e]
   rfl
  .intro v x;simp at x;subst x;exact jg _
  .rintro r H' ⟨rfl,o,_⟩
   simp(disch:=omega)only[↓wr,seval,wq]
   intro C y
   rw[MP hr] at o
   exact CQ (by rw[y];exact o) (by rw[oV hr])
 .rename_i hr
  intro C y
  simp only[b5,hr]
  exact .emp _
def c6 (p q:List Bool) (r:bk):Bool:=q.getD r.left.toNat false && fQ r.right p true
def cY (p q:List Bool):List bk->Int->List Int
 | [],_=>[]
 | r :: l,i=>if c6 p q r=true then i :: cY p q l (i+1) else cY p q l (i+1)
def kp (acc:List Int) (r:bk):List Int:=if r.left∈acc then acc else acc ++ [r.left]
def cm (p q:List Bool) (l:List bk):List Int:=(l.filter (c6 p q)).foldl kp []
def cU (o:List Int) (x:Int):Int:=dq (λy=>y == x) o 0
def b4 (f:Int->Int) (r:bk):bk:=⟨f r.left,r.right.map λs=>if s < 0 then -1 - f (-1 - s) else s,r.prec⟩
def vg (g:af) (f:Int->Int) (p q:List Bool):af :=
 ⟨g.ao,(cm p q g.rules).map λx=>g.aj.getD x.toNat ⟨#[]⟩,(g.rules.filter (c6 p q)).map (b4 f),f g.start⟩
def qd:af:=⟨[],[],[],0⟩
instance:DecidableEq Term:=λa b=>decidable_of_iff (a.name=b.name/\a.level=b.level/\a.assoc=b.assoc) (by cases a;cases b;simp)
instance:DecidableEq bk:=λa b=>decidable_of_iff (a.left=b.left/\a.prec=b.prec/\a.right=b.right) (by cases a;cases b;simp[and_comm])
instance:DecidableEq af:=λa b=>decidable_of_iff (a.ao=b.ao/\a.aj=b.aj/\a.rules=b.rules/\a.start=b.start) (by cases a;cases b;simp)
def gA (g:af):af × List Int × Int :=
 if ca g=true then
  if (bz g true).getD g.start.toNat false=true then (vg g (cU (cm (bz g true) (b5 g) g.rules)) (bz g true) (b5 g),cY (bz g true) (b5 g) g.rules 0,0)
  else (qd,[],9)
 else (qd,[],1)
theorem Fw {g:af} (hr:ca g=true):gA g=if (bz g true).getD g.start.toNat false=true then (vg g (cU (cm (bz g true) (b5 g) g.rules)) (bz g true) (b5 g),cY (bz g true) (b5 g) g.rules 0,0) else (qd,[],9):=by
 rw[gA,St hr]
theorem ki (p q:List Bool):∀ (a b:List bk) (i:Int),cY p q (a ++ b) i=cY p q a i ++ cY p q b (i+a.length)
 | [],b,i=>by simp[cY]
 | r :: a,b,i=>by
  simp only[Th,cY,ki p q a b (i+1),SA]
  have:i+1+(a.length:Int)=i+((a.length+1:Nat):Int):=by push_cast;omega
  rw[this]
  split <;> simp
theorem km (p q:List Bool):∀ (a:List bk) (i:Int),(cY p q a i).length=(a.filter (c6 p q)).length
 | [],i=>rfl
 | r :: a,i=>by
  simp only[cY,List.filter_cons]
  split <;> simp[km p q a]
theorem sq (p q:List Bool):∀ (a:List bk) (i:Int) (k:Nat),k < (cY p q a i).length->∃ m:Nat,(cY p q a i)[k]?=some (i+m)/\a[m]?=(a.filter (c6 p q))[k]?/\m < a.length
 | [],i,k,h=>by simp[cY] at h
 | r :: a,i,k,h=>by
  simp only[cY,List.filter_cons] at h ⊢
  by_cases hr:c6 p q r=true
  .rw[St hr] at h ⊢
   rw[St hr]
   cases k with
   | zero=>exact⟨0,by simp,by simp,by simp⟩
   | succ k =>
    obtain⟨m,h1,b,c⟩:=sq p q a (i+1) k (by simpa using h)
    exact⟨m+1,by rw[Tl,h1];congr 1;push_cast;omega,by simpa using b,by simpa using c⟩
  .rw[Sr hr] at h ⊢
   rw[Sr hr]
   obtain⟨m,h1,b,c⟩:=sq p q a (i+1) k h
   exact⟨m+1,by rw[h1];congr 1;push_cast;omega,by simpa using b,by simpa using c⟩
theorem sf (p q:List Bool) (l:List bk) (r:bk):cm p q (l ++ [r])=if c6 p q r=true then kp (cm p q l) r else cm p q l:=by
 unfold cm
 rw[Uo]
 by_cases h:c6 p q r=true
 .rw[St h,List.filter_cons_of_pos h,T4];rfl
 .rw[Sr h,List.filter_cons_of_neg h];simp
theorem I7 {acc:List Int} {r:bk} (h:acc.Nodup):(kp acc r).Nodup:=by
 unfold kp
 split
 .exact h
 .rename_i d
  rw[TT]
  exact⟨h,by simp,λa f b c e=>d (by simp at c;rw[<-c,<-e];exact f)⟩
theorem rv {o:List Int} {x:Int} : cU o x < 0↔x ∉ o:=by
 have:=u7 (λy=>y == x) o 0 (by omega)
 unfold cU
 rw[<-Int.not_le]
 constructor
 .intro h a
  have e:(o.any λy=>y == x)=true:=Uj.2 ⟨x,a,by simp⟩
  rw[e] at this;exact h (by simpa using this)
 .intro h a
  have e:(o.any λy=>y == x)=true:=by rw[<-this];simpa using a
  obtain⟨y,b,e⟩:=Uj.1 e
  simp at e;subst e;exact h b
theorem yG {α:Type} (p:α->Bool):∀ (a b:List α) (i:Int),0<=i->dq p (a ++ b) i=if 0<=dq p a i then dq p a i else dq p b (i+a.length)
 | [],b,i,_=>by simp[dq]
 | x :: a,b,i,h=>by
  by_cases hp:p x=true
  .simp[dq,hp,h]
  .simp only[Th,dq,Sr hp]
   rw[yG p a b (i+1) (by omega)]
   have:i+1+(a.length:Int)=i+(((x :: a).length:Nat):Int):=by simp;omega
   rw[this]
theorem KM {o:List Int} {x y:Int} (c:x ∉ o):cU (o ++ [x]) y=if y=x then (o.length:Int) else cU o y:=by
 unfold cU
 rw[yG _ _ _ _ (by omega)]
 by_cases e:y=x
 .subst e
  rw[Sr (by have:=rv.2 c;unfold cU at this;omega),St rfl]
  simp[dq]
 .rw[Sr e]
  split
  .rfl
  .rename_i h
   have:cU o y < 0:=by unfold cU;omega
   have b:dq (λz=>z == y) [x] (0+(o.length:Int)) = -1:=by simp[dq,Ne.symm e]
   rw[b]
   have:∀ (l:List Int) (i:Int),¬ 0<=dq (λz=>z == y) l i->0<=i->dq (λz=>z == y) l i = -1:=by
    intro l
    induction l with
    | nil=>intro i _ _;rfl
    | cons z l d =>
     intro i h1 b
     simp only[dq] at h1 ⊢
     split
     .rename_i a;rw[St a] at h1;omega
     .rename_i a;rw[Sr a] at h1;exact d _ h1 (by omega)
   exact(this o 0 h (by omega)).symm
theorem IB {o:List Int} {x:Int} (h:x∈o):0<=cU o x/\cU o x < o.length:=by
 have a:¬ cU o x < 0:=λe=>rv.1 e h
 refine⟨by omega,?_⟩
 unfold cU
 have:∀ (l:List Int) (i:Int),dq (λz=>z == x) l i < i+l.length∨dq (λz=>z == x) l i = -1:=by
  intro l
  induction l with
  | nil=>intro i;right;rfl
  | cons z l b =>
   intro i
   simp only[dq]
   split
   .left;simp;omega
   .rcases b (i+1) with h | h
    .left;simp at h ⊢;omega
    .right;exact h
 rcases this o 0 with h1 | h1
 .simpa using h1
 .unfold cU at a;omega
theorem PT (o:List Int) (x:Int) : -1<=cU o x/\cU o x<=o.length:=by
 by_cases h:x∈o
 .have:=IB h;omega
 .have h1:=rv.2 h
  have a:∀ (l:List Int) (i:Int),0<=i->-1<=dq (λz=>z == x) l i:=by
   intro l
   induction l with
   | nil=>intro i _;simp[dq]
   | cons z l b =>
    intro i hi
    simp only[dq]
    split
    .omega
    .exact b _ (by omega)
  have:=a o 0 (by omega)
  unfold cU at h1 ⊢
  omega
def jq:List Int->Int->List (Int × Int)
 | [],_=>[]
 | x :: l,i=>(x,i) :: jq l (i+1)
theorem sw (x:Int):∀ (o:List Int) (i:Int),ed (jq o i) x=if x∈o then some (dq (λy=>y == x) o i) else none
 | [],i=>by simp[jq,ed]
 | y :: o,i=>by
  have a:=sw x o (i+1)
  unfold ed at a ⊢
  simp only[jq,Uz,dq]
  by_cases e:x=y
  .subst e;simp
  .have b:¬ ((y == x)=true):=by simp[Ne.symm e]
   rw[show (x == y)=false by simp[e],Sr b]
   simp only
   rw[a]
   simp[e]
theorem Df {x v:Int} : ∀ {o:List Int} {i:Int},x ∉ o->jH x v (jq o i)=jq o i ++ [(x,v)]
 | [],i,_=>rfl
 | y :: o,i,h=>by
  simp only[SM,not_or] at h
  simp only[jq,jH,show (x == y)=false by simp[h.1],SU,if_false,Df h.2,Th]
theorem AN {x:Int} : ∀ {o:List Int} {i:Int},jq (o ++ [x]) i=jq o i ++ [(x,i+o.length)]
 | [],i=>by simp[jq]
 | y :: o,i=>by
  simp only[Th,jq,AN (o:=o),SA]
  congr 4
  push_cast;omega
def dX (o:List Int) (x:Int):Int:=(ed (jq o 0) x).getD 0
theorem xZ {o:List Int} {x:Int} (h:x∈o):dX o x=cU o x:=by
 simp[dX,sw,h,cU]
theorem Pw (o:List Int) (x:Int):0<=dX o x/\dX o x<=o.length:=by
 by_cases h:x∈o
 .rw[xZ h];have:=IB h;omega
 .simp[dX,sw,h]
theorem Nf {g:af} {p q:List Bool} (a:g.start∈cm p q g.rules) (b:∀ r∈g.rules.filter (c6 p q),r.left∈cm p q g.rules/\∀ s∈r.right,s < 0->-1 - s∈cm p q g.rules) :
  vg g (dX (cm p q g.rules)) p q=vg g (cU (cm p q g.rules)) p q:=by
 unfold vg
 congr 1
 .apply List.map_congr_left
  intro r hr
  obtain⟨h1,c⟩:=b r hr
  unfold b4
  congr 1
  .exact xZ h1
  .apply List.map_congr_left
   intro s d
   split
   .rename_i h;rw[xZ (c s d h)]
   .rfl
 .exact xZ a
theorem tR:∀ (l:List bk) (acc:List Int) (x:Int),x∈l.foldl kp acc↔x∈acc∨∃ r∈l,r.left=x
 | [],acc,x=>by simp
 | r :: l,acc,x=>by
  rw[Tp,tR l]
  have:x∈kp acc r↔x∈acc∨r.left=x:=by
   unfold kp
   split
   .rename_i h
    constructor
    .exact .inl
    .rintro (a | rfl)
     .exact a
     .exact h
   .simp[eq_comm]
  rw[this]
  simp only[SM,exists_eq_or_imp]
  constructor
  .rintro ((h | h) | h)
   .exact .inl h
   .exact .inr (.inl h)
   .exact .inr (.inr h)
  .rintro (h | h | h)
   .exact .inl (.inl h)
   .exact .inl (.inr h)
   .exact .inr h
theorem EA {p q:List Bool} {l:List bk} {x:Int} : x∈cm p q l↔∃ r∈l,c6 p q r=true/\r.left=x:=by
 unfold cm
 rw[tR]
 simp[TD,and_assoc]
def lA:SC :=
 ae [ae [ab [aa 42 9,aa 43 8,aP 44 43,aU 45 .lss 42 44],cb 45 (.exit 0)],.block 1 (ab [aa 48 8,aa 49 9,aZ 50 1 48 49,(none,.op (.store 1 (.tmp 50) (.val (.val (.int .i64 (-1))))))]),ab [aa 46 9,aF 47 .add 46 1,aa 9 47]]
def lf:SC :=
 ae [ae [ab [aa 51 11,al 52 2 1,ak 53 52,aP 54 53,aU 55 .lss 51 54],cb 55 (.exit 2)],.block 3 (ae [ab [al 58 2 1,ak 59 58,aa 60 11,aZ 61 3 59 60,ba 62 3 61,((some 12),.op (.alloc [(.val (.int .i64 0)),(.emp 1),(.val (.int .i64 0))])),cL 3 12 62],ae [.region false [⟨none,[aa 63 6,al 64 0 12,ak 65 64,aZ 66 1 63 65,ak 67 66,dp 68 67,aa 69 68]⟩,⟨(some (69,false)),[al 70 1 12,ak 71 70,aa 72 5,qe 73 95 [(.tmp 71),(.tmp 72),(.val (.val (.bool true)))],dp 74 73]⟩,⟨none,[cR 75 69 74]⟩],bf 75 (.exit 3)],ab [aa 76 10,aa 77 11,((some 78),.op (.bN 1 1 [(.val (.int .i64 0))] [(0,(.tmp 77))])),gD 79 1 8 76 78,aa 10 79],ab [aa 80 8,al 81 0 12,ak 82 81,aZ 83 1 80 82,ak 84 83,aF 85 .lss 84 0],bf 85 (ae [ab [aa 86 8,al 87 0 12,ak 88 87,al 89 1 7,ak 90 89,aP 91 90,aZ 92 1 86 88,cL 1 92 91],.region false [⟨none,[al 93 1 7,ak 94 93,al 95 1 1,ak 96 95,al 97 0 12,ak 98 97,aZ 99 1 96 98,ak 100 99,((some 101),.op (.bN 1 1 [(.val (.string ⟨#[]⟩))] [(0,(.tmp 100))])),gD 102 1 16 94 101,al 103 1 7,cL 1 103 102]⟩]])]),ab [aa 56 11,aF 57 .add 56 1,aa 11 57]]
def lz:SC :=
 ae [ae [ab [aa 126 16,al 127 1 14,ak 128 127,aP 129 128,aU 130 .lss 126 129],cb 130 (.exit 6)],.block 7 (ae [ab [al 133 1 14,ak 134 133,aa 135 16,aZ 136 1 134 135,ak 137 136,aa 17 137],ae [ab [aa 138 17,aF 139 .lss 138 0],bf 139 (ab [aa 140 8,aa 141 17,((some 142),.op (.arith .sub (.val (.val (.int .i64 (-1)))) (.tmp 141))),aZ 143 1 140 142,ak 144 143,((some 145),.op (.arith .sub (.val (.val (.int .i64 (-1)))) (.tmp 144))),aa 17 145])],ab [al 146 1 15,ak 147 146,aa 148 17,((some 149),.op (.bN 1 1 [(.val (.int .i64 0))] [(0,(.tmp 148))])),gD 150 1 8 147 149,al 151 1 15,cL 1 151 150]]),ab [aa 131 16,aF 132 .add 131 1,aa 16 132]]
def lq:SC :=
 ae [ae [ab [aa 104 13,aa 105 10,aP 106 105,aU 107 .lss 104 106],cb 107 (.exit 4)],.block 5 (ae [ab [al 110 2 1,ak 111 110,aa 112 10,aa 113 13,aZ 114 1 112 113,ak 115 114,aZ 116 3 111 115,ba 117 3 116,((some 14),.op (.alloc [(.val (.int .i64 0)),(.emp 1),(.val (.int .i64 0))])),cL 3 14 117],ab [aa 118 8,al 119 0 14,ak 120 119,aZ 121 1 118 120,ak 122 121,al 123 2 14,ak 124 123,((some 125),.op (.build [(.val (.int .i64 0)),(.emp 1),(.val (.int .i64 0))] [(0,1,(.tmp 122)),(2,1,(.tmp 124))])),((some 15),.op (.alloc [(.val (.int .i64 0)),(.emp 1),(.val (.int .i64 0))])),cL 3 15 125],ae [ab [aR 16 0],cd 6 lz],ab [al 152 2 7,ak 153 152,ba 154 3 15,((some 155),.op (.bN 1 3 [(.val (.int .i64 0)),(.emp 1),(.val (.int .i64 0))] [(0,(.tmp 154))])),gD 156 3 40 153 155,al 157 2 7,cL 1 157 156]]),ab [aa 108 13,aF 109 .add 108 1,aa 13 109]]
def nD:SF:=⟨ae [ab [cG 1 0,((some 2),.op (.alloc [(.emp 1),(.emp 1),(.emp 1),(.val (.int .i64 0))])),bQ 3 1,aR 4 0],ae [ab [ba 18 4 1,bg 19 50 [18],dp 20 19],bf 20 (ae [ab [((some 21),.op (.build [(.emp 1),(.emp 1),(.emp 1),(.val (.int .i64 0))] [])),cL 4 2 21,bQ 3 1,aR 4 1],.ret])],.region true [⟨none,[ba 22 4 1,bg 23 93 [22],ba 24 4 1,bg 25 94 [24],aa 5 23,aa 6 25]⟩],ae [ab [aa 26 5,al 27 3 1,ak 28 27,aZ 29 1 26 28,ak 30 29,dp 31 30],bf 31 (ae [ab [((some 32),.op (.build [(.emp 1),(.emp 1),(.emp 1),(.val (.int .i64 0))] [])),cL 4 2 32,bQ 3 1,aR 4 9],.ret])],ab [bQ 33 2,al 34 0 1,ak 35 34,gD 36 3 32 33 35,((some 37),.op (.build [(.emp 1),(.emp 1),(.emp 1),(.val (.int .i64 0))] [(0,1,(.tmp 36))])),((some 7),.op (.alloc [(.emp 1),(.emp 1),(.emp 1),(.val (.int .i64 0))])),cL 4 7 37],ab [al 38 1 1,ak 39 38,aP 40 39,((some 41),.op (.make 1 8 [(.val (.int .i64 0))] (.tmp 40) (.tmp 40))),aa 8 41],ae [ab [aR 9 0],cd 0 lA],ab [bQ 10 1],ae [ab [aR 11 0],cd 2 lf],ae [ab [aR 13 0],cd 4 lq],ab [aa 158 8,al 159 3 1,ak 160 159,aZ 161 1 158 160,ak 162 161,al 163 3 7,cL 1 163 162],ab [ba 164 4 7,aa 165 10,cL 4 2 164,aa 3 165,aR 4 0],.ret],
 [.cell 2 (some 4),.tmp 3,.tmp 4],166⟩
theorem rK:aI Tryz.prog 47 [1]=some nD:=by kernel_rfl
abbrev bC (l:List Int):List (List V):=l.map λx=>[gi x]
abbrev jR (l:List ByteArray):List (List V):=l.map λs=>[gs s]
theorem kn {l:List Int} {i:Nat} (h:i < l.length):(bC l).getD i []=[gi l[i]]:=by simp[Sm,h]
theorem ints_set (l:List Int) (i:Nat) (x:Int):(bC l).set i [gi x]=bC (l.set i x):=by simp[List.map_set]
theorem Px {l:List Int} (h:0 < l.length):bC l≠[]:=by intro e;rw[List.map_eq_nil_iff] at e;rw[e] at h;simp at h
theorem vO {α:Type} {x:α} : ∀ {l:List α} {i:Nat},i < l.length->(l.set i x).take (i+1)=l.take i ++ [x]
 | y :: l,0,_=>by simp
 | y :: l,i+1,h=>by
  have:=vO (x:=x) (l:=l) (i:=i) (by simpa using h)
  simp only[List.set_cons_succ,List.take_succ_cons,this,Th]
def eZ (n:Nat) (o:List Int):List Int:=(List.range n).map λ(x:Nat)=>cU o (x:Int)
theorem PD (n:Nat):eZ n []=List.replicate n (-1):=by
 apply List.ext_getElem
 .simp[eZ]
 .intro i h1 a
  simp[eZ,cU,dq]
theorem x9 {n:Nat} {o:List Int} {x:Int} (a:0<=x) (h1:x < n):(eZ n o)[x.toNat]'(by simp[eZ];omega)=cU o x:=by
 simp[eZ,show ((x.toNat:Nat):Int)=x by omega]
theorem PR {n:Nat} {o:List Int} {x:Int} (b:0<=x) (h1:x < n) (a:x ∉ o):(eZ n o).set x.toNat o.length=eZ n (o ++ [x]):=by
 apply List.ext_getElem
 .simp[eZ]
 .intro i c d
  rw[List.getElem_set]
  simp only[eZ,List.getElem_map,List.getElem_range]
  rw[KM a]
  by_cases e:x.toNat=i
  .rw[St e,St (by omega)]
  .rw[Sr e,Sr (by omega)]
abbrev yc:=List (V × bk)
def gE (b:yc):List (List V):=b.map λx=>[gi x.2.left,x.1,gi x.2.prec]
def ly (b:yc):List dG:=b.map λx=>(x.1,1,bC x.2.right)
theorem Lq {h:az} {u:V} {b:yc} (c:aJ h.view u 3 (gE b)) (f:∀ x∈ly b,aJ h.view x.1 x.2.1 x.2.2):dH h u (.aT ((b.map (·.2)).map aQ)):=by
 refine dH.own c (by simp[gE]) (λi hi=>?_) (λi j hi a=>?_)
 all_goals
  simp only[gE,Sv] at hi
  have e:(gE b).getD i []=[gi b[i].2.left,b[i].1,gi b[i].2.prec]:=by simp[gE,Sm,hi]
  have d:((b.map (·.2)).map aQ).getD i []=aQ b[i].2:=by simp[Sm,hi]
 .rw[e,d];rfl
 .rw[e,d]
  rw[d] at a
  have hm:b[i]∈b:=Sx _
  have c:=f (b[i].1,1,bC b[i].2.right) (S5.2 ⟨_,hm,rfl⟩)
  match j,a with
  | 0,_=>exact .val _
  | 1,_=>exact lY c
  | 2,_=>exact .val _
  | n+3,a=>exact absurd a (by simp only[aQ,SA,SZ];omega)
theorem OH {h:az} {u:V} {l:List ByteArray} (a:aJ h.view u 1 (jR l)):dH h u (encS l):=dH.Je (f:=Value.string) a
theorem Ls {h:az} {u:V} {l:List Term} (b:aJ h.view u 3 (l.map de)):dH h u (eu l):=by
 refine dH.own b rfl (λ_ _=>rfl) (λi j hi a=>?_)
 simp only[Sv] at hi
 have c:(l.map de).getD i []=de l[i]:=by simp[Sm,hi]
 rw[c] at a ⊢
 match j,a with
 | 0,_=>exact .val _
 | 1,_=>exact .val _
 | 2,_=>exact .val _
 | n+3,a=>exact absurd a (by simp only[de,SA,SZ];omega)
def u9 (x:af × List Int × Int):V:=.aS [.agg (ag x.1),encI x.2.1,gi x.2.2]
theorem ub {h:az} {e:Int} {b k2 c d:Nat} : dH h (.aS [.agg [.emp b,.emp k2,.emp c,gi 0],.emp d,gi e]) (u9 (qd,[],e)):=by
 refine .aS _ _ rfl λi hi=>?_
 match i,hi with
 | 0,_ =>
  refine .agg _ _ rfl λj a=>?_
  match j,a with
  | 0,_=>exact .emp _
  | 1,_=>exact .emp _
  | 2,_=>exact .emp _
  | 3,_=>exact .val _
  | n+4,a=>exact absurd a (by simp only[SA,SZ];omega)
 | 1,_=>exact .emp _
 | 2,_=>exact .val _
 | n+3,hi=>exact absurd hi (by simp only[SA,SZ];omega)
def Qp (g:af) (p q:List Bool) (b2 b7 b8:Nat) (u0:V) (i:Nat) (T:Env) (H:View):Prop :=
 (∃ u1 u3:V,T 10=u3/\(∀ x∈cm p q (g.rules.take i),0<=x/\x < g.aj.length)/\(cm p q (g.rules.take i)).Nodup/\(cm p q (g.rules.take i)).length<=i /\
  bc H [(.sl b7 0 1 4,4,[[u0,u1,.emp 1,gi 0]]),(.sl b8 0 g.aj.length 1,1,bC (eZ g.aj.length (cm p q (g.rules.take i)))),(u3,1,bC (cY p q (g.rules.take i) 0)),
   (u1,1,jR ((cm p q (g.rules.take i)).map λx=>g.aj.getD x.toNat ⟨#[]⟩)),(u0,3,g.ao.map de),(.sl b2 0 1 4,4,[[.emp 1,.emp 1,.emp 1,gi 0]])]) /\
 T 1=.aG (ag g) 0/\T 2=.ptr b2 0 0/\T 5=cq p/\T 6=cq q/\T 7=.ptr b7 0 0/\T 8=.sl b8 0 g.aj.length 1/\T 11=gi i
def RP (g:af) (p q:List Bool) (b2 b7 b8:Nat) (u0 u1 u3:V) (o kl:List Int) (i:Nat) (T:Env) (H:View):Prop :=
 (∃ (u2:V) (bs:yc),bs.map (·.2)=((g.rules.filter (c6 p q)).take i).map (b4 (cU o)) /\
  bc H ((.sl b7 0 1 4,4,[[u0,u1,u2,gi 0]]) :: (.sl b8 0 g.aj.length 1,1,bC (eZ g.aj.length o)) :: (u3,1,bC kl) ::
   (u1,1,jR (o.map λx=>g.aj.getD x.toNat ⟨#[]⟩)) :: (u0,3,g.ao.map de) :: (u2,3,gE bs) :: (.sl b2 0 1 4,4,[[.emp 1,.emp 1,.emp 1,gi 0]]) :: ly bs)) /\
 T 1=.aG (ag g) 0/\T 2=.ptr b2 0 0/\T 7=.ptr b7 0 0/\T 8=.sl b8 0 g.aj.length 1/\T 10=u3/\T 13=gi i
def Rn (g:af) (b2 b7 b8 b14 b15:Nat) (u3:V) (o:List Int) (r:bk) (L:List dG) (i k:Nat) (T:Env) (H:View):Prop :=
 (∃ v:V,bc H ((.sl b15 0 1 3,3,[[gi (cU o r.left),v,gi r.prec]]) :: (v,1,bC ((b4 (cU o) r).right.take k)) :: (.sl b14 0 1 3,3,[aQ r]) :: L)) /\
 T 1=.aG (ag g) 0/\T 2=.ptr b2 0 0/\T 7=.ptr b7 0 0/\T 8=.sl b8 0 g.aj.length 1/\T 10=u3/\T 13=gi i/\T 14=.ptr b14 0 0/\T 15=.ptr b15 0 0/\T 16=gi k
theorem G2 {h:az} {c d e f:V} {x:af × List Int × Int} {b:yc} (g:aJ h.view c 3 (x.1.ao.map de)) (h1:aJ h.view d 1 (jR x.1.aj)) (k:aJ h.view e 3 (gE b)) (l:∀ y∈ly b,aJ h.view y.1 y.2.1 y.2.2)
  (hr:b.map (·.2)=x.1.rules) (m:aJ h.view f 1 (bC x.2.1)):dH h (.aS [.agg [c,d,e,gi x.1.start],f,gi x.2.2]) (u9 x):=by
 refine .aS _ _ rfl λi hi=>?_
 match i,hi with
 | 0,_ =>
  refine .agg _ _ rfl λj a=>?_
  match j,a with
  | 0,_=>exact Ls g
  | 1,_=>exact OH h1
  | 2,_=>have:=Lq k l;rw[hr] at this;exact this
  | 3,_=>exact .val _
  | n+4,a=>exact absurd a (by simp only[SA,SZ];omega)
 | 1,_=>exact lY m
 | 2,_=>exact .val _
 | n+3,hi=>exact absurd hi (by simp only[SA,SZ];omega)
theorem GL (g:af) (hg:g.Ok):cT Tryz.prog 47 [.agg (ag g)] (u9 (gA g)):=by
 refine cT.of (fa g) ?_
 refine au.of mixed rK ?_
 simp(disch:=omega)only[↓wr,seval,wq,nD,ag,encS]
 intro M
 try simp(disch:=omega)only[↓wr,seval,wq,ag,encS]
 refine av.pure (qw g hg) ?_
 repeat' (first | ((first|apply ai.dec|apply ai.eq|apply ai.ne|apply ai.split)<;>intro)|(simp(disch:=omega)only[↓wr,seval,wq,ag,encS,set_set]))
 .rename_i hr
  refine av.pure (rU g hg) ?_
  simp(disch:=omega)only[↓wr,seval,wq,ag,encS]
  refine av.pure (BX g hg).pure ?_
  have hf:=cD hr
  have h3:=hf.nN
  have h4:=hf.start
  have ds:=lx hr true
  have gd:=oV hr
  have c:=Fw hr
  generalize bz g true=p at ds c
  generalize b5 g=q at gd c
  have cj:p[g.start.toNat]?=some (p[g.start.toNat]'(by omega)):=Sn (by omega)
  have dv:p.getD g.start.toNat false=p[g.start.toNat]'(by omega):=by simp[Sm,cj]
  generalize p[g.start.toNat]'(by omega)=s at cj dv
  rw[dv] at c
  simp(disch:=omega)only[↓wr,seval,wq,ag,encS,cq,Ss,cj]
  cases s with
  | false =>
   rw[Sr (by simp)] at c
   simp(disch:=omega)only[↓wr,seval,wq,ag,encS,set_set]
   rintro h' hh
   rw[c]
   exact ub
  | true =>
   rw[St rfl] at c
   simp(disch:=omega)only[↓wr,seval,wq,ag,encS,set_set]
   have hN:=hf.aj
   have hS:=hf.qn
   have hT:=hf.ao
   have hR:=hf.rules
   refine c8 (L:=[(.sl M 0 1 4,4,[[.emp 1,.emp 1,.emp 1,gi 0]])]) (bc.emp (bc.nil.new rfl 4 _)) (by simp[de,aE]) (by unfold aC;simp;omega) (by unfold aC;simp;omega) ?_
   intro C H1 ck _
   have c0:=ck.head.cells
   have k0:=ck.head.eL
   simp(disch:=omega)only[↓wr,seval,wq,ag,encS,c0,k0]
   intro P gk
   have gl:=ck.new gk 4 [[C,.emp 1,.emp 1,gi 0]]
   try simp(disch:=omega)only[↓wr,seval,wq,ag,encS,c0,k0,set_set]
   refine⟨⟨by omega,by unfold aC;omega,by unfold aC;omega⟩,λh=>by omega,?_⟩
   intro _ B ea
   have eb:=(bR ea bP).1
   have j:=gl.new (n:=B) (by simp only[View.set,Sr eb];exact(bR (bR ea bP).2 bP).2) 1 (bC (List.replicate g.aj.length 0))
   try simp(disch:=omega)only[↓wr,seval,wq,ag,encS,c0,k0,set_set]
   refine aY.up g.aj.length (λi T H=>(∃ l:List Int,l.length=g.aj.length/\l.take i=List.replicate i (-1) /\
    bc H [(.sl B 0 g.aj.length 1,1,bC l),(.sl P 0 1 4,4,[[C,.emp 1,.emp 1,gi 0]]),(C,3,g.ao.map de),(.sl M 0 1 4,4,[[.emp 1,.emp 1,.emp 1,gi 0]])]) /\
    T 1=.aG (ag g) 0/\T 2=.ptr M 0 0/\T 5=cq p/\T 6=cq q/\T 7=.ptr P 0 0/\T 8=.sl B 0 g.aj.length 1/\T 9=gi i) ?_ ?_
   .exact⟨⟨List.replicate g.aj.length 0,by simp,by simp,by simpa [set_set] using j⟩,rfl,rfl,rfl,rfl,rfl,rfl,rfl⟩
   rintro i k T H2 hk ⟨⟨l,G,t,f⟩,t1,t2,t5,t6,t7,t8,t9⟩
   simp(disch:=omega)only[↓wr,seval,wq,lA,t1,t2,t5,t6,t7,t8,t9]
   apply ai.dec<;>intro hc
   .have gr:bC l≠[]:=by intro e;rw[List.map_eq_nil_iff] at e;rw[e] at G;simp at G;omega
    have hb:=(f.obj gr).1
    have u:=kn (show i < l.length by omega)
    simp(disch:=omega)only[↓wr,seval,wq,t1,t2,t5,t6,t7,t8,t9,hb,u,Sv]
    refine⟨by omega,by omega,?_⟩
    refine aH hk (by omega) ⟨⟨l.set i (-1),by simp[G],?_,?_⟩,t1,t2,t5,t6,t7,t8,rfl⟩
    .rw[vO (by omega),t,List.replicate_succ']
    .rw[ints_set]
     exact f.put (by simp) (by simp[G])
   .rw[SL (by omega)] at t
    rw[t] at f
    have ei:i=g.aj.length:=by omega
    subst ei
    simp(disch:=omega)only[↓wr,seval,wq,t1,t2,t5,t6,t7,t8,t9]
    have name_in:∀ o:List Int,(o.map λx=>g.aj.getD x.toNat ⟨#[]⟩).length=o.length:=λo=>by simp
    refine aY.up g.rules.length (Qp g p q M P B C) ?_ ?_
    .refine⟨⟨.emp 1,.emp 1,rfl,by simp[cm],by simp[cm],by simp[cm],?_⟩,t1,t2,t5,t6,t7,t8,rfl⟩
     have h4:=((((f.emp (k:=1) (sz:=1)).emp (k:=1) (sz:=1)).at 3 (by simp)).perm (Fx.symm.cons _))
     have e0:cm p q (g.rules.take 0)=[]:=rfl
     rw[e0,PD]
     exact h4
    clear f t1 t2 t5 t6 t7 t8 t9 G t
    rintro i k T H2 hk ⟨⟨J,u3,t10,ar,bd,cA,f⟩,t1,t2,t5,t6,t7,t8,t11⟩
    simp(disch:=omega)only[↓wr,seval,wq,lf,t1,t2,t5,t6,t7,t8,t10,t11,ag]
    apply ai.dec<;>intro hc
    .have I:g.rules[i]?=some (g.rules[i]'(by omega)):=Sn (by omega)
     have z:g.rules[i]'(by omega)∈g.rules:=Sx _
     have D:g.rules.take (i+1)=g.rules.take i ++ [g.rules[i]'(by omega)]:=by rw[S6,I];rfl
     generalize g.rules[i]'(by omega)=r at I z D
     obtain⟨G,t,Q,ha,bl⟩:=hf.tq hg z
     have cC:q[r.left.toNat]?=some (q[r.left.toNat]'(by omega)):=Sn (by omega)
     have bn:q.getD r.left.toNat false=q[r.left.toNat]'(by omega):=by simp[Sm,cC]
     generalize q[r.left.toNat]'(by omega)=qs at cC bn
     simp(disch:=omega)only[↓wr,seval,wq,t1,t2,t5,t6,t7,t8,t10,t11,ag,aQ,Ss,I]
     intro ee eg
     have A:=f.new eg 3 [aQ r]
     try simp(disch:=omega)only[↓wr,seval,wq,t1,t2,t5,t6,t7,t8,t10,t11,aQ,encI,cq,Ss,cC,set_set]
     have R:∀ (T2:Env) (H':View),c6 p q r=false->H'=H2.set ee (.arr 3 [aQ r])->T2 10=u3->T2 1=.aG (ag g) 0->T2 2=.ptr M 0 0->T2 5=cq p->T2 6=cq q->T2 7=.ptr P 0 0->T2 8=.sl B 0 g.aj.length 1->T2 11=gi ((i:Int)+1) ->
       ∃ k',k' < k/\Dm g.rules.length k' (Qp g p q M P B C) T2 H':=by
      intro T2 H' S hd hj a1 a2 a5 a6 a7 a8 hl
      have N:cm p q (g.rules.take (i+1))=cm p q (g.rules.take i):=by rw[D,sf,Sr (by simp[S])]
      have e2:cY p q (g.rules.take (i+1)) 0=cY p q (g.rules.take i) 0:=by rw[D,ki];simp[cY,S]
      refine aH hk (by omega) ⟨⟨J,u3,hj,by rw[N];exact ar,by rw[N];exact bd,by rw[N];omega,by rw[N,e2,hd];exact A.tail⟩,a1,a2,a5,a6,a7,a8,by rw[hl];rfl⟩
     cases qs with
     | false =>
      simp(disch:=omega)only[↓wr,seval,wq,t1,t2,t5,t6,t7,t8,t10,t11]
      refine R _ _ (by rw[c6,bn];rfl) ?_ ?_ ?_ ?_ ?_ ?_ ?_ ?_ ?_
      all_goals first | exact t10 | exact t1 | exact t2 | exact t5 | exact t6 | exact t7 | exact t8 | rfl | (rw[set_set];rfl)
     | true =>
      simp(disch:=omega)only[↓wr,seval,wq,t1,t2,t5,t6,t7,t8,t10,t11,aQ,encI,cq]
      refine av.pure (Ed r.right p true (hg.aw r z).2.2.1 (λs hs=>⟨(bl s hs).1,λh=>by rw[ds];exact(bl s hs).2 h⟩)) ?_
      simp(disch:=omega)only[↓wr,seval,wq,t1,t2,t5,t6,t7,t8,t10,t11]
      apply ai.split<;>intro cN
      .simp(disch:=omega)only[↓wr,seval,wq,t1,t2,t5,t6,t7,t8,t10,t11]
       have S:c6 p q r=true:=by rw[c6,bn,cN];rfl
       intro m hm
       try simp(disch:=omega)only[↓wr,seval,wq,t1,t2,t5,t6,t7,t8,t10,t11,bO]
       have ek:=(bR hm bP).1
       have hm:=(bR (bR hm bP).2 bP).2
       have d:=(A.fresh (n:=m) (o:=.arr 1 [[gi i]]) (by simp only[View.set,Sr ek];exact hm)).at 3 (by simp)
       have eH:(cY p q (g.rules.take i) 0).length<=40:=by
        rw[km]
        have h1:=T6 (c6 p q) (g.rules.take i)
        have h2:(g.rules.take i).length<=i:=List.length_take_le _ _
        have:=hf.rules
        omega
       refine c8 (by rw[set_set];exact d) (by simp[aE]) (by unfold aC;simp at eH ⊢;omega) (by unfold aC;simp at eH ⊢;omega) ?_
       intro e4 H3 j _
       have f12:=((j.at 1 (by simp)).obj (by simp)).1
       have f7:=((j.at 2 (by simp)).obj (by simp)).1
       have f8:=((j.at 3 (by simp)).obj (Px (by simp[eZ];omega))).1
       have cS:bZ J=some (jR ((cm p q (g.rules.take i)).map λx=>g.aj.getD x.toNat ⟨#[]⟩)).length:=(j.at 4 (by simp)).head.len
       have u:=kn (l:=eZ g.aj.length (cm p q (g.rules.take i))) (i:=r.left.toNat) (by simp[eZ];omega)
       rw[x9 t Q] at u
       simp only[aQ,encI] at f12
       simp(disch:=omega)only[↓wr,seval,wq,t1,t2,t5,t6,t7,t8,t11,f12,f7,f8,u]
       refine⟨by omega,by simp[eZ];omega,?_⟩
       have e2:cY p q (g.rules.take (i+1)) 0=cY p q (g.rules.take i) 0 ++ [(i:Int)]:=by
        rw[D,ki];simp[cY,S,show i<=g.rules.length by omega]
       have N:cm p q (g.rules.take (i+1))=kp (cm p q (g.rules.take i)) r:=by rw[D,sf,St S]
       generalize cm p q (g.rules.take i)=o at *
       generalize cY p q (g.rules.take i) 0=kl at *
       apply ai.dec<;>intro e5
       .have hx:r.left ∉ o:=rv.1 e5
        have E:kp o r=o ++ [r.left]:=by rw[kp,Sr hx]
        have U:P≠B:=j.Hc 2 3 rfl rfl (by omega)
        have W:ee≠B:=j.Hc 1 3 rfl rfl (by omega)
        have cV:g.aj[r.left.toNat]?=some (g.aj[r.left.toNat]'(by omega)):=Sn (by omega)
        have b1:g.aj.getD r.left.toNat ⟨#[]⟩=g.aj[r.left.toNat]'(by omega):=by simp[Sm,cV]
        generalize g.aj[r.left.toNat]'(by omega)=nm at cV b1
        simp(disch:=omega)only[↓wr,seval,wq,t1,t2,t5,t6,t7,t8,t11,f12,f7,f8,u,cS,Sv]
        try refine⟨by omega,by simp[eZ];omega,?_⟩
        try simp(disch:=omega)only[↓wr,seval,wq,t1,t2,t5,t6,t7,t8,t11,f12,f7,f8,u,cS,Sv,U,W,ag,encS,Ss,cV]
        intro m2 O
        have e6:=(bR O bP).1
        have O:=(bR O bP).2
        have hn:(bC (eZ g.aj.length o)).set r.left.toNat [gi o.length]=bC (eZ g.aj.length (o ++ [r.left])):=by rw[ints_set,PR t Q hx]
        have c3:=(j.at 3 (by simp)).put (es':=(bC (eZ g.aj.length o)).set r.left.toNat [gi o.length]) (by simp) (by simp[eZ])
        have hq:=(c3.fresh (n:=m2) (o:=.arr 1 [[gs nm]]) (by simp only[View.set,Sr e6];exact O)).at 4 (by simp)
        have hM:o.length<=40:=by omega
        try simp(disch:=omega)only[↓wr,seval,wq,t1,t2,t5,t6,t7,t8,t11,f12,f7,f8,u,cS,Sv,U,W,bO]
        refine c8 hq (by simp[aE]) (by unfold aC;simp;omega) (by unfold aC;simp;omega) ?_
        intro e7 H5 br _
        have c1:=br.head.cells
        have k1:=br.head.eL
        have c4:=((br.at 4 (by simp)).obj (by simp)).1
        simp(disch:=omega)only[↓wr,seval,wq,t1,t2,t5,t6,t7,t8,t11,c4,c1,k1]
        have ht:=(br.at 4 (by simp)).put (es':=[[C,e7,.emp 1,gi 0]]) rfl rfl
        have hz:=(((ht.at 4 (by simp)).tail).perm (Fx.cons _))
        refine aH hk (by omega) ⟨⟨e7,e4,rfl,?_,?_,?_,?_⟩,t1,t2,t5,t6,t7,t8,rfl⟩
        .rw[N,E];intro x hA;rcases SS.1 hA with h | h
         .exact ar x h
         .simp at h;subst h;exact⟨t,Q⟩
        .rw[N];exact I7 bd
        .rw[N,E];simp;omega
        .rw[N,E,e2]
         have:=hz
         rw[hn] at this
         simp only[S0,S7,T7,b1]
         exact this
       .have hx:r.left∈o:=by
         refine TQ λh=>?_
         have:=rv.2 h
         omega
        have E:kp o r=o:=by rw[kp,St hx]
        simp(disch:=omega)only[↓wr,seval,wq,t1,t2,t5,t6,t7,t8,t11]
        have c3:=(((j.at 1 (by simp)).tail).perm Fx)
        refine aH hk (by omega) ⟨⟨J,e4,rfl,?_,?_,?_,?_⟩,t1,t2,t5,t6,t7,t8,rfl⟩
        .rw[N,E];exact ar
        .rw[N,E];exact bd
        .rw[N,E];omega
        .rw[N,E,e2]
         simp only[S0,S7,T7]
         exact c3
      .simp(disch:=omega)only[↓wr,seval,wq,t1,t2,t5,t6,t7,t8,t10,t11]
       refine R _ _ (by rw[c6,bn,cN];rfl) ?_ ?_ ?_ ?_ ?_ ?_ ?_ ?_ ?_
       all_goals first | exact t10 | exact t1 | exact t2 | exact t5 | exact t6 | exact t7 | exact t8 | rfl | (rw[set_set];rfl)
    .rw[SL (by omega)] at f ar bd cA
     have hB:(cY p q g.rules 0).length<=40:=by
      rw[km];have h1:=T6 (c6 p q) g.rules;omega
     have hC:=sq p q g.rules 0
     have hP:=km p q g.rules 0
     have da:g.start.toNat < (eZ g.aj.length (cm p q g.rules)).length:=by simp[eZ];omega
     have b9:=kn da
     rw[x9 h3 h4] at b9
     have e8:vg g (cU (cm p q g.rules)) p q=⟨g.ao,(cm p q g.rules).map λx=>g.aj.getD x.toNat ⟨#[]⟩,(g.rules.filter (c6 p q)).map (b4 (cU (cm p q g.rules))),cU (cm p q g.rules) g.start⟩:=rfl
     rw[e8] at c
     clear e8
     generalize cm p q g.rules=o at *
     generalize cY p q g.rules 0=kl at *
     simp(disch:=omega)only[↓wr,seval,wq,t1,t2,t5,t6,t7,t8,t10,t11]
     refine aY.up kl.length (RP g p q M P B C J u3 o kl) ?_ ?_
     .refine⟨⟨.emp 1,[],by simp,?_⟩,t1,t2,t7,t8,t10,rfl⟩
      exact(f.emp (k:=1) (sz:=3)).perm (qM [(.sl P 0 1 4,4,[[C,J,.emp 1,gi 0]]),(.sl B 0 g.aj.length 1,1,bC (eZ g.aj.length o)),(u3,1,bC kl),(J,1,jR (o.map λx=>g.aj.getD x.toNat ⟨#[]⟩)),(C,3,g.ao.map de),(.emp 1,3,[]),(.sl M 0 1 4,4,[[.emp 1,.emp 1,.emp 1,gi 0]])] 5 (by simp)).symm
     clear f t1 t2 t5 t6 t7 t8 t10 t11
     rintro i k T H2 hk ⟨⟨u2,bs,bx,f⟩,t1,t2,t7,t8,t10,t13⟩
     have hE:bZ u3=some (bC kl).length:=(f.own 2 rfl).len
     simp(disch:=omega)only[↓wr,seval,wq,lq,t1,t2,t7,t8,t10,t13,hE,Sv]
     apply ai.dec<;>intro hc
     .obtain⟨n3,e3,hF⟩:=(f.own 2 rfl).sl (by simp;omega)
      rw[Sv] at e3
      subst e3
      obtain⟨m,db,O,X⟩:=hC i (by omega)
      have u:=kn (show i < kl.length by omega)
      rw[Int.zero_add] at db
      have hG:kl[i]'(by omega)=(m:Int):=by
       rw[Sn (show i < kl.length by omega)] at db;simpa using db
      rw[hG] at u
      have I:g.rules[m]?=some (g.rules[m]'X):=Sn X
      have z:g.rules[m]'X∈g.rules:=Sx _
      have D:(g.rules.filter (c6 p q)).take (i+1)=(g.rules.filter (c6 p q)).take i ++ [g.rules[m]'X]:=by
       rw[S6,<-O,I];rfl
      generalize g.rules[m]'X=r at I z D
      obtain⟨G,t,Q,ha,bl⟩:=hf.tq hg z
      simp(disch:=omega)only[↓wr,seval,wq,t1,t2,t7,t8,t10,t13,hF,u,Sv,ag,aQ,Ss,I]
      refine⟨by omega,by omega,?_⟩
      intro e9 cc
      have A:=f.new cc 3 [aQ r]
      have f8:=A.is 2 rfl (by simp[eZ];omega)
      have cf:=kn (l:=eZ g.aj.length o) (i:=r.left.toNat) (by simp[eZ];omega)
      rw[x9 t Q] at cf
      have dj:B≠e9:=A.Hc 2 0 rfl rfl (by omega)
      have g8:H2 B=.arr 1 (bC (eZ g.aj.length o)):=f.is 1 rfl (by simp[eZ];omega)
      try simp(disch:=omega)only[↓wr,seval,wq,t1,t2,t7,t8,t10,t13,g8,dj,cf,Sv,set_set,encI]
      refine⟨by omega,by simp[eZ];omega,?_⟩
      intro fb F
      have ff:=(bR F bP).1
      have F:=(bR (bR F bP).2 bP).2
      have d:=(((A.new (n:=fb) (by simp only[View.set,Sr ff];exact F) 3 [[gi (cU o r.left),.emp 1,gi r.prec]]).emp (k:=1) (sz:=1)).perm (.swap _ _ _))
      generalize hL:((V.sl P 0 1 4,4,[[C,J,u2,gi 0]]) :: (V.sl B 0 g.aj.length 1,1,bC (eZ g.aj.length o)) :: (V.sl n3 0 kl.length 1,1,bC kl) ::
       (J,1,jR (o.map λx=>g.aj.getD x.toNat ⟨#[]⟩)) :: (C,3,g.ao.map de) :: (u2,3,gE bs) :: (V.sl M 0 1 4,4,[[V.emp 1,V.emp 1,V.emp 1,gi 0]]) :: ly bs:List dG)=L at d
      have hI:L[1]?=some (.sl B 0 g.aj.length 1,1,bC (eZ g.aj.length o)):=by rw[<-hL];rfl
      try simp(disch:=omega)only[↓wr,seval,wq,t1,t2,t7,t8,t10,t13,set_set]
      refine aY.up r.right.length (Rn g M P B e9 fb (.sl n3 0 kl.length 1) o r L i) ?_ ?_
      .exact⟨⟨.emp 1,by rw[set_set,set_set];exact d⟩,t1,t2,t7,t8,t10,t13,rfl,rfl,rfl⟩
      clear A d f8 g8 cc F t1 t2 t7 t8 t10 t13
      rintro k k2 T H3 fl ⟨⟨v,w⟩,t1,t2,t7,t8,t10,t13,t14,t15,t16⟩
      have f14:=w.is 2 rfl (by simp)
      have f15:=w.is 0 rfl (by simp)
      have f8:H3 B=.arr 1 (bC (eZ g.aj.length o)):=w.is 4 (by simpa using hI) (by simp[eZ];omega)
      simp only[aQ] at f14
      simp(disch:=omega)only[↓wr,seval,wq,lz,t1,t2,t7,t8,t10,t13,t14,t15,t16,f14,encI]
      apply ai.dec<;>intro hJ
      .have dm:r.right[k]?=some (r.right[k]'(by omega)):=Sn (by omega)
       have fm:r.right[k]'(by omega)∈r.right:=Sx _
       have Y:(b4 (cU o) r).right.take (k+1)=(b4 (cU o) r).right.take k ++ [if r.right[k]'(by omega) < 0 then -1 - cU o (-1 - r.right[k]'(by omega)) else r.right[k]'(by omega)]:=by
        rw[S6];simp[b4,dm]
       have b0:((b4 (cU o) r).right.take k).length<=6:=by
        have h1:(b4 (cU o) r).right.length=r.right.length:=by simp[b4]
        have h2:((b4 (cU o) r).right.take k).length<=(b4 (cU o) r).right.length:=by rw[Tv];omega
        omega
       generalize r.right[k]'(by omega)=s at dm fm Y
       obtain⟨⟨s1,s2⟩,s3⟩:=bl s fm
       simp(disch:=omega)only[↓wr,seval,wq,t1,t2,t7,t8,t10,t13,t14,t15,t16,f14,encI,Ss,dm]
       have hV:=PT o (-1 - s)
       have hW:o.length<=40:=by omega
       apply ai.dec<;>intro K
       .rw[St K] at Y
        have fs:=s3 K
        have ch:=kn (l:=eZ g.aj.length o) (i:=(-1 - s).toNat) (by simp[eZ];omega)
        rw[x9 (by omega) fs] at ch
        simp(disch:=omega)only[↓wr,seval,wq,t1,t2,t7,t8,t10,t13,t14,t15,t16,f14,f15,f8,ch,Sv]
        refine⟨by omega,by simp[eZ];omega,?_⟩
        intro m hm
        try simp(disch:=omega)only[↓wr,seval,wq,t1,t2,t7,t8,t10,t13,t14,t15,t16,bO]
        have Z:=(w.fresh (o:=.arr 1 [[gi (-1 - cU o (-1 - s))]]) hm).at 1 (by simp)
        refine c8 Z (by simp[aE]) (by unfold aC;simp at b0 ⊢;omega) (by unfold aC;simp at b0 ⊢;omega) ?_
        intro v' H4 a _
        have cv:=a.head.cells
        have kv:=a.head.eL
        have an:=a.is 1 rfl (by simp)
        simp(disch:=omega)only[↓wr,seval,wq,t1,t2,t7,t8,t10,t13,t14,t15,t16,an,cv,kv]
        have aq:=(a.at 1 (by simp)).put (es':=[[gi (cU o r.left),v',gi r.prec]]) rfl rfl
        refine aH fl (by omega) ⟨⟨v',?_⟩,t1,t2,t7,t8,t10,t13,t14,t15,rfl⟩
        rw[Y]
        simp only[S0,S7,T7]
        exact aq
       .rw[Sr K] at Y
        simp(disch:=omega)only[↓wr,seval,wq,t1,t2,t7,t8,t10,t13,t14,t15,t16,f14,f15,f8]
        intro m hm
        try simp(disch:=omega)only[↓wr,seval,wq,t1,t2,t7,t8,t10,t13,t14,t15,t16,bO]
        have Z:=(w.fresh (o:=.arr 1 [[gi s]]) hm).at 1 (by simp)
        refine c8 Z (by simp[aE]) (by unfold aC;simp at b0 ⊢;omega) (by unfold aC;simp at b0 ⊢;omega) ?_
        intro v' H4 a _
        have cv:=a.head.cells
        have kv:=a.head.eL
        have an:=a.is 1 rfl (by simp)
        simp(disch:=omega)only[↓wr,seval,wq,t1,t2,t7,t8,t10,t13,t14,t15,t16,an,cv,kv]
        have aq:=(a.at 1 (by simp)).put (es':=[[gi (cU o r.left),v',gi r.prec]]) rfl rfl
        refine aH fl (by omega) ⟨⟨v',?_⟩,t1,t2,t7,t8,t10,t13,t14,t15,rfl⟩
        rw[Y]
        simp only[S0,S7,T7]
        exact aq
      .rw[SL (by simp[b4];omega)] at w
       subst hL
       have f7:=w.is 3 rfl (by simp)
       have cv:=(w.own 1 rfl).cells
       have kv:=(w.own 1 rfl).eL
       have ft:(gE bs).length<=40:=by
        have h1:=congrArg List.length bx
        simp only[Sv,Tv] at h1
        simp only[gE,Sv]
        omega
       simp(disch:=omega)only[↓wr,seval,wq,t1,t2,t7,t8,t10,t13,t14,t15,t16,f7,f15,cv,kv]
       intro m hm
       try simp(disch:=omega)only[↓wr,seval,wq,t1,t2,t7,t8,t10,t13,t14,t15,t16,bO]
       have Z:=(w.fresh (o:=.arr 3 [[gi (cU o r.left),v,gi r.prec]]) hm).at 8 (by simp)
       refine c8 Z (by simp[xS,kv]) (by unfold aC;simp at ft ⊢;omega) (by unfold aC;simp at ft ⊢;omega) ?_
       intro fx H4 a _
       have cu:=a.head.cells
       have ku:=a.head.eL
       have c4:=a.is 4 rfl (by simp)
       simp(disch:=omega)only[↓wr,seval,wq,t1,t2,t7,t8,t10,t13,t14,t15,t16,c4,cu,ku]
       have aq:=(a.at 4 (by simp)).put (es':=[[C,J,fx,gi 0]]) rfl rfl
       have hK:=((((aq.at 2 (by simp)).tail).at 3 (by simp)).tail)
       refine aH hk (by omega) ⟨⟨fx,bs ++ [(v,b4 (cU o) r)],?_,?_⟩,t1,t2,t7,t8,t10,rfl⟩
       .rw[S0,bx,D,S0];rfl
       .refine hK.perm (.cons _ ?_)
        simp only[ly,gE,S0,S7,T7]
        refine .trans ?_ (qM _ 4 (by simp)).symm
        refine .cons _ ?_
        exact(List.perm_append_singleton (v,1,bC (b4 (cU o) r).right) ((.sl B 0 g.aj.length 1,1,bC (eZ g.aj.length o)) :: (.sl n3 0 kl.length 1,1,bC kl) :: (J,1,jR (o.map λx=>g.aj.getD x.toNat ⟨#[]⟩)) :: (C,3,g.ao.map de) :: (.sl M 0 1 4,4,[[.emp 1,.emp 1,.emp 1,gi 0]]) :: ly bs)).symm
     .rw[SL (by omega)] at bx
      have f7:=f.is 0 rfl (by simp)
      have f8:H2 B=.arr 1 (bC (eZ g.aj.length o)):=f.is 1 rfl (by simp[eZ];omega)
      have f2:=f.is 6 rfl (by simp)
      have fz:P≠M:=f.Hc 0 6 rfl rfl (by omega)
      have c1:=(f.own 3 rfl).cells
      have k1:=(f.own 3 rfl).eL
      have c2:=(f.own 5 rfl).cells
      have k2:=(f.own 5 rfl).eL
      simp(disch:=omega)only[↓wr,seval,wq,t1,t2,t7,t8,t10,t13,f7,f8,f2,fz,fz.symm,b9,c0,k0,c1,k1,c2,k2,ag,Sv]
      refine⟨by omega,by simp[eZ];omega,λh' hh=>?_⟩
      have A:=f.put (es':=[[C,J,u2,gi (cU o g.start)]]) rfl rfl
      have d:=(A.at 6 (by simp)).put (es':=[[C,J,u2,gi (cU o g.start)]]) rfl rfl
      have hv:h'.view=(H2.set P (.arr 4 [[C,J,u2,gi (cU o g.start)]])).set M (.arr 4 [[C,J,u2,gi (cU o g.start)]]):=hh
      rw[<-hv] at d
      rw[c]
      exact G2 (x:=(⟨g.ao,o.map λx=>g.aj.getD x.toNat ⟨#[]⟩,(g.rules.filter (c6 p q)).map (b4 (cU o)),cU o g.start⟩,kl,0)) (b:=bs) (d.own 5 rfl) (d.own 4 rfl) (d.own 6 rfl) (λy hy=>d.1 y (by
       refine SQ _ (SQ _ (SQ _ (SQ _ (SQ _ (SQ _ (SQ _ ?_))))))
       exact hy)) bx (d.own 3 rfl)
 .rename_i hr
  intro h' hh
  rw[gA,Sr (by simp[hr])]
  exact ub
theorem GA {g:af} (e:nI g=false):g.Small:=by
 simp only[nI,Bool.or_eq_false_iff,TJ] at e
 exact⟨by omega⟩
theorem Oy (g:af):ay Tryz.prog 14 [.agg (ag g)] (gb (nI g)):=ay.val (fa g) λH=>(Oj g H).mono λ_ _ h=>h.1
theorem wD {a b:V} (c:Tree a) (d:Tree b):Tree (.aS [a,b]):=.aS _ λi hi=>by
 match i,hi with
 | 0,_=>exact c
 | 1,_=>exact d
 | n+2,h=>exact absurd h (by simp)
theorem Fh {h:az} {a b c d:V} (e:dH h a c) (f:dH h b d):dH h (.aS [a,b]) (.aS [c,d]):=.aS _ _ rfl λi hi=>by
 match i,hi with
 | 0,_=>exact e
 | 1,_=>exact f
 | n+2,h=>exact absurd h (by simp)
theorem Kb {H:View} {id n:Nat} {l:List Int} (a:H id=.arr 1 (bC l)) (b:n=l.length):cg H (.sl id 0 n 1) (encI l):=by
 subst b
 exact cg.own (sz:=1) (.inr ⟨id,by simp,a⟩) λe he v a=>by
  obtain⟨x,_,rfl⟩:=S5.1 he
  simp at a;subst a;exact .val _
theorem cw.step {H H' H1:View} {u b:V} (h:cw H H' u) (l:Left H' H1 u b):cw H H1 b:=λid a=>by
 have h1:=h id a
 have c:=l id (by rw[h1.1];exact a) h1.2
 exact⟨c.1.trans h1.1,c.2⟩
theorem JB {l:List Int} {k:Nat} (h:k<=l.length):cz 1 (.aT (l.map λx=>[gi x])) none (some (gi k))=some (.aT ((l.take k).map λx=>[gi x]),.none,[]):=by
 simp[cz,bound,asNat,h,T8,List.map_take]
theorem qB {l:List Int} {k:Nat} (h:k<=l.length):cz 1 (.aT (l.map λx=>[gi x])) (some (gi k)) none=some (.aT ((l.drop k).map λx=>[gi x]),.none,[]):=by
 simp[cz,bound,asNat,h,T8,List.map_drop]
 rw[SL (by simp)]
theorem eT {P:Program} {t:TypeId} {d:TypeDesc} (hu:P.underlying t=some d) (a:d=.string∨∃ k,d=.int k) (cs:Array Value) (off:Nat) {v:Value} (b:cs[off]?=some v):aW P (part t cs off)=some v:=by
 have c:aW P (isAgg t)=some false:=by
  rcases a with rfl | ⟨k,rfl⟩
  all_goals simp only[isAgg,aO,dE hu,Td];rfl
 simp only[part,aO,c,Td,SU,if_false,b]
 rfl
inductive gx (P:Program) (d:Nat) (xs ys:Array Value):List Field->Bool->Prop
 | nil:gx P d xs ys [] true
 | str (f:Field) (l:List Field) (c:Bool) (a b:ByteArray):(f.name≠ "_")->P.underlying f.type=some .string->xs[f.offset]?=some (.string a)->ys[f.offset]?=some (.string b)->gx P d xs ys l c->gx P d xs ys (f :: l) (a == b && c)
 | int (f:Field) (l:List Field) (c:Bool) (k:IntKind) (a b:Int):(f.name≠ "_")->P.underlying f.type=some (.int k)->xs[f.offset]?=some (.int k a)->ys[f.offset]?=some (.int k b)->gx P d xs ys l c->gx P d xs ys (f :: l) (a == b && c)
theorem gx.forIn {P:Program} {d e:Nat} {xs ys:Array Value} {l:List Field} {c:Bool} (h:gx P d xs ys l c) (n:e=d+1) :
  aW P (forIn l ((none:Option Bool),()) λf _ =>
    if f.name≠ "_" then do
     let a <-part f.type xs f.offset
     let b <-part f.type ys f.offset
     let e <-Op.equalIn e f.type a b
     if (!e)=true then pure (ForInStep.done (some false,())) else pure (ForInStep.yield (none,()))
    else pure (ForInStep.yield (none,())))=some (if c=true then (none,()) else (some false,())):=by
 subst n
 induction h with
 | nil=>rfl
 | str f l c a b g hu i j _ m =>
  have he:aW P (Op.equalIn (d+1) f.type (.string a) (.string b))=some (a == b):=by
   simp only[Op.equalIn,aO,dE hu,Td];rfl
  rw[List.forIn_cons,aO,St g,aO,eT hu (.inl rfl) xs _ i,Td,aO,eT hu (.inl rfl) ys _ j,Td,aO,he,Td]
  cases a == b with
  | false=>rfl
  | true=>exact m
 | int f l c k a b g hu i j _ m =>
  have he:aW P (Op.equalIn (d+1) f.type (.int k a) (.int k b))=some (a == b):=by
   simp only[Op.equalIn,aO,dE hu,Td];rfl
  rw[List.forIn_cons,aO,St g,aO,eT hu (.inr ⟨k,rfl⟩) xs _ i,Td,aO,eT hu (.inr ⟨k,rfl⟩) ys _ j,Td,aO,he,Td]
  cases a == b with
  | false=>rfl
  | true=>exact m
theorem yZ {P:Program} {t:TypeId} {b:Array Field} {xs ys:Array Value} {c:Bool} (hu:P.underlying t=some (.struct b)) (d:P.stoodInHeld t=false) (h:gx P 9998 xs ys b.toList c) :
  aW P (Op.equal t (.agg xs) (.agg ys))=some c:=by
 rw[jw]
 rw[Op.equalIn,aO,dE hu,Td]
 have a:(aW P program)=some P:=rfl
 rw[aO,a,Td,d]
 simp only[<-Array.forIn_toList,SU,if_false]
 rw[aO,h.forIn (e:=9999) rfl,Td]
 cases c <;> rfl
theorem BY {P:Program} {o:Oper} {T:Env} {op:BinOp} {t u:TypeId} {x y:Operand} {f:Array Field} {xs ys:Array Value} {c r:Bool} (b:o.op=.binOp op t x y u) (hu:P.underlying t=some (.struct f)) (i:P.stoodInHeld t=false) (g:P.eqGuardType P.depth t=false)
  (d:c5 (ev T x)=some (.agg xs)) (e:c5 (ev T y)=some (.agg ys)) (h:gx P 9998 xs ys f.toList c) (hr:(op=.eql/\r=c)∨(op=.neq/\r = !c)) :
  dM P o T=some (.val (.bool r),.none,[]):=by
 have he:=yZ hu i h
 have a:(aW P program)=some P:=rfl
 unfold dM
 simp only[b,Op.operands,d,e]
 rcases hr with ⟨rfl,rfl⟩ | ⟨rfl,rfl⟩
 .simp[execOp,b,d,e,eqGuard,binOp,iM,aO,a,g,he,plain]
  try simp[aW,pure,plain]
 .simp[execOp,b,d,e,eqGuard,binOp,iM,aO,a,g,he,plain]
  try simp[aW,pure,plain,bne]
theorem iL {P:Program} {T:Env} {H:View} {K:V->View->Prop} {w:cx (T,H,K)} {op:BinOp} {t u ty:TypeId} {x y:Operand} {a:Array Field} {xs ys:Array Value} {c r:Bool} (hu:P.underlying t=some (.struct a)) (b:P.stoodInHeld t=false) (d:P.eqGuardType P.depth t=false)
  (e:c5 (ev T x)=some (.agg xs)) (f:c5 (ev T y)=some (.agg ys)) (h:gx P 9998 xs ys a.toList c) (hr:(op=.eql/\r=c)∨(op=.neq/\r = !c)) (hk:K (.val (.bool r)) H):iE P (.binOp op t x y u) ty T H K w:=by
 intro n _
 refine⟨.val (.bool r),.none,[],?_,hk⟩
 have g:je P t=none:=by simp[je,hu]
 simp only[sI,bY,oper,g]
 simp only[Option.isSome_none,SU,if_false]
 exact BY rfl hu b d e f h hr
def wJ (hp:Array Obj) (cs:List Value) (vs:List V):Prop :=
 vs.length=cs.length/\∀ μ i,i < vs.length->ax (λb=>b < hp.size) μ hp (vs.getD i .any) (cs.getD i undef)
def Wt {H:Type} (P:Program) (t:TypeId) (d:DataW H):Prop:=∀ n∈d.weights P t,n<=reachBytes
def xc (P:Program) (t:TypeId) {α:Type} (f:α->List V) (ok:α->Prop):Prop :=
 ∀ {H:Type} (enc:TypeId × Value->H) (w:World) (base:Nat) (sp:Nat->Bool) (held:Bool) (fuel:Nat) (cs:List Value) (x:DataW H × List MemPlace),
  DataW.trod enc P w base sp held fuel t cs=some x->Wt P t x.1->∃ a,ok a/\wJ w.heap cs (f a)
theorem uY {hp:Array Obj} {c:Value} {v:V} (h:∀ μ,ax (λb=>b < hp.size) μ hp v c):wJ hp [c] [v]:=by
 refine⟨rfl,λμ i hi=>?_⟩
 match i,hi with
 | 0,_=>exact h μ
theorem QG {P:Program} {t:TypeId} {k:IntKind} (a:P.underlying t=some (.int k)):xc P t (λn=>[.val (.int k n)]) (λn=>(Lit.int k n).wf=true):=by
 intro H enc w base sp held fuel cs x h _
 obtain⟨n,rfl,_,hw⟩:=DataW.trod_int a h
 exact⟨n,hw,uY λμ=>.val _ rfl⟩
theorem Cs {P:Program} {t:TypeId} (a:P.underlying t=some .string):xc P t (λs=>[.val (.string s)]) (λ_=>True):=by
 intro H enc w base sp held fuel cs x h _
 obtain⟨s,rfl,_,_⟩:=DataW.trod_string a h
 exact⟨s,trivial,uY λμ=>.val _ rfl⟩
theorem FL {w:World} {base:Nat} {a:Addr} {n:Nat} {cs:List Value} (h:w.cells? base a n=some cs):cs.length=n/\∀ i,i < n->w.cell? (a.add i)=some (cs.getD i undef):=by
 obtain⟨_,b,c⟩:=World.cells?_some h
 refine⟨b,λi hi=>?_⟩
 rw[c i hi,Sm,Sn (by omega)]
 rfl
theorem Mv {w:World} {a:Addr} {v:Value} (h:w.cell? a=some v):a.spot=none/\a.block < w.heap.size:=by
 unfold World.cell? at h
 split at h
 .rename_i c _ _ b
  split at h
  .simp at h
  .rename_i d
   exact⟨by simpa using d,(Array.getElem?_eq_some_iff.1 b).1⟩
 .simp at h
theorem Le {H:Type} {P:Program} {e:TypeId} : ∀ {l:List (DataW H)},(∀ n∈DataW.weightsAll P e l,n<=reachBytes)->∀ d∈l,Wt P e d
 | [],_,d,a=>by simp at a
 | x :: l,h,d,a=>by
  simp only[DataW.weightsAll,SS] at h
  rcases SM.1 a with rfl | a
  .exact λn b=>h n (.inl b)
  .exact Le (λn b=>h n (.inr b)) d a
theorem OB {H:Type} {P:Program} {t e:TypeId} {elems spare:List (DataW H)} (a:P.underlying t=some (.slice e)) (h:Wt P t (.slice elems spare)) :
  (elems.length+spare.length) * P.bytesOf e<=reachBytes/\∀ d∈elems,Wt P e d:=by
 unfold Wt at h
 unfold DataW.weights at h
 rw[a] at h
 simp only[SM,SS] at h
 exact⟨h _ (.inl rfl),Le λn b=>h n (.inr (.inl b))⟩
theorem Mz {H:Type} {P:Program} {t:TypeId} {a:Array Field} {parts:List (DataW H)} (b:P.underlying t=some (.struct a)) (h:Wt P t (.agg parts)) {j:Nat} {f:Field} {d:DataW H} (c:a[j]?=some f) (e:parts[j]?=some d):Wt P f.type d:=by
 intro n g
 refine h n ?_
 unfold DataW.weights
 rw[b]
 exact DataW.weights_mem_each (j:=j) (t:=f.type) (by simp[c]) e n g
theorem Iy {α:Type} {c:Nat->α->Prop} : ∀ (n:Nat),(∀ i,i < n->∃ a,c i a)->∃ l:List α,l.length=n/\∀ i (hi:i < l.length),c i l[i]
 | 0,_=>⟨[],rfl,λi hi=>by simp at hi⟩
 | n+1,h=>by
  obtain⟨l,d,b⟩:=Iy n λi hi=>h i (by omega)
  obtain⟨a,f⟩:=h n (by omega)
  refine⟨l ++ [a],by simp[d],λi hi=>?_⟩
  by_cases e:i < l.length
  .rw[List.getElem_append_left e];exact b i e
  .have:i=n:=by simp at hi;omega
   subst this
   rw[List.getElem_append_right (by omega)]
   simp only[d,Nat.sub_self,List.getElem_cons_zero];exact f
theorem ux {P:Program} {t e:TypeId} {α:Type} {f:α->List V} {ok:α->Prop} (J:P.underlying t=some (.slice e)) (M:0 < P.cellsOf e) (N:0 < P.bytesOf e) (he:xc P e f ok) :
  xc P t (λl:List α=>[.aT (l.map f)]) (λl=>l.length < 4611686018427387904/\∀ a∈l,ok a):=by
 intro H enc w base sp held fuel cs x h hw
 rcases DataW.trod_slice J h with ⟨rfl,rfl⟩ | ⟨a,len,cap,elems,rest,n,_,rfl,rfl,O,Q,hm,hlen,A,_,_⟩
 .exact⟨[],⟨by simp,by simp⟩,uY λμ=>.gY none 0 (by simp)⟩
 obtain⟨r,B⟩:=OB J hw
 simp only[Sv] at r
 have C:len < 4611686018427387904:=by
  have h1:len * 1<=(elems.length+rest.length) * P.bytesOf e:=Nat.mul_le_mul (by omega) N
  unfold reachBytes at r
  omega
 have each:∀ i,i < len->∃ y,ok y/\∃ ci,w.cells? base (a.add (i * P.cellsOf e)) (P.cellsOf e)=some ci/\wJ w.heap ci (f y):=by
  intro i hi
  have h1:=A i hi
  have k:elems[i]?=some (elems[i]'(by omega)):=Sn (by omega)
  have s:elems[i]'(by omega)∈elems:=Sx _
  rw[k,Option.bind_eq_some_iff] at h1
  obtain⟨ci,D,E⟩:=h1
  obtain⟨y,z,m⟩:=he enc w base sp held n ci _ E (B _ (S5.2 ⟨_,s,rfl⟩))
  exact⟨y,z,ci,D,m⟩
 obtain⟨l,F,p⟩:=Iy len each
 subst F
 refine⟨l,⟨C,λy R=>?_⟩,uY λμ=>?_⟩
 .obtain⟨i,hi,rfl⟩:=List.getElem_of_mem R
  exact(p i hi).1
 by_cases K:l=[]
 .subst K
  exact .gY (some a) cap (by simp)
 have o:0 < l.length:=Uu.2 K
 have d:∀ i j,i < l.length->j < P.cellsOf e->∃ c,cellAt w.heap a.block (a.off+i * P.cellsOf e+j)=some c/\a.block < w.heap.size/\(i=0->j=0->a.spot=none)/\∀ (hi:i < l.length),ax (λb=>b < w.heap.size) μ w.heap ((f l[i]).getD j .any) c:=by
  intro i j hi q
  obtain⟨_,ci,h1,k⟩:=p i hi
  obtain⟨D,E⟩:=FL h1
  have z:=E j q
  have m:=Mv z
  have u:((a.add (i * P.cellsOf e)).add j).block=a.block:=by simp only[Addr.add];split <;> split <;> rfl
  have G:((a.add (i * P.cellsOf e)).add j).off=a.off+i * P.cellsOf e+j:=by
   simp only[Addr.add];split <;> split <;> simp_all
  refine⟨ci.getD j undef,?_,by rw[<-u];exact m.2,?_,λ_=>?_⟩
  .rw[<-G,<-u,<-mn]
   rw[<-z]
   congr 1
   generalize (a.add (i * P.cellsOf e)).add j=b at m
   cases b
   simp at m ⊢
   exact m.1.symm
  .rintro rfl rfl
   simp[Addr.add] at m
   exact m.1
  .exact k.2 μ j (by rw[k.1,D];exact q)
 obtain⟨_,_,S,L,_⟩:=d 0 0 o M
 have T:a=⟨a.block,a.off,none⟩:=by
  cases a;simp at L ⊢;exact L
 have I:∀ i,i < l.length->(f (l[i]?.getD (l[0]'o))).length=P.cellsOf e:=λi hi=>by
  obtain⟨_,ci,h1,k⟩:=p i hi
  rw[Sn hi,SJ,k.1,(FL h1).1]
 have v:∀ i (hi:i < l.length),(l.map f).getD i []=f l[i]:=λi hi=>by simp[Sm,hi]
 have g:(l.map f).length=l.length:=by simp
 have:=ax.aT (Z:=λb=>b < w.heap.size) (μ:=μ) (hp:=w.heap) (l.map f) a.block a.off (P.cellsOf e) cap (λi j=>(cellAt w.heap a.block (a.off+i * P.cellsOf e+j)).getD undef) S (by rw[g];exact Q)
  (λi hi=>by
   rw[g] at hi
   have:=I i hi
   rw[Sn hi,SJ] at this
   rw[v i hi];exact this)
  (λi j hi q=>by
   rw[g] at hi
   obtain⟨c,h1,_⟩:=d i j hi q
   rw[h1];rfl)
  (λi j hi q=>by
   rw[g] at hi
   obtain⟨c,h1,_,_,k⟩:=d i j hi q
   rw[h1,v i hi];exact k hi)
 rw[g,<-T] at this
 exact this
theorem wC {P:Program} {t:TypeId} {b:Array Field} (d:P.underlying t=some (.struct b)) (j:∀ (i:Nat) (f:Field),b[i]?=some f->f.offset=i/\P.cellsOf f.type=1) (k:P.cellsOf t=b.size)
  {H:Type} {enc:TypeId × Value->H} {w:World} {base:Nat} {sp:Nat->Bool} {held:Bool} {fuel:Nat} {cs:List Value} {x:DataW H × List MemPlace} (h:DataW.trod enc P w base sp held fuel t cs=some x) (hw:Wt P t x.1) :
  cs.length=b.size/\∀ (i:Nat) (f:Field),b[i]?=some f->∀ {α:Type} {g:α->List V} {ok:α->Prop},xc P f.type g ok->∃ a,ok a/\wJ w.heap [cs.getD i undef] (g a):=by
 obtain⟨xs,n,rfl,rfl,l,hlen,m⟩:=DataW.trod_struct d h
 refine⟨by rw[l,k],λi f hi α g ok hr=>?_⟩
 obtain⟨h1,o⟩:=j i f hi
 have p:i < b.size:=(Array.getElem?_eq_some_iff.1 hi).1
 have c:=m i f hi
 have e:xs[i]?=some (xs[i]'(by omega)):=Sn (by omega)
 rw[e,h1,o] at c
 have q:(cs.drop i).take 1=[cs.getD i undef]:=by
  rw[Sm,Sn (by omega),To (by omega)]
  rfl
 rw[q] at c
 exact hr enc w base sp held n _ _ c (Mz d hw hi (by simp[e]))
theorem gR {hp:Array Obj} {c:Value} {cs:List Value} {v:V} {vs:List V} (h:wJ hp [c] [v]) (k:wJ hp cs vs):wJ hp (c :: cs) (v :: vs):=by
 refine⟨by simp[k.1],λμ i hi=>?_⟩
 cases i with
 | zero=>exact h.2 μ 0 (by simp)
 | succ i=>exact k.2 μ i (by simpa using hi)
theorem zb {hp:Array Obj} : wJ hp [] []:=⟨rfl,λμ i hi=>by simp at hi⟩
theorem Pr {n:Int} (h:(Lit.int .i64 n).wf=true):bK n:=by
 simp only[Lit.wf,SE,SN] at h
 exact h
theorem oH:xc Tryz.prog 3 (λn=>[gi n]) bK:=λenc w base sp held fuel cs x h hw=>by
 obtain⟨n,h1,a⟩:=QG Tryz.underlying3 enc w base sp held fuel cs x h hw
 exact⟨n,Pr h1,a⟩
theorem PB:xc Tryz.prog 27 (λl:List Int=>[encI l]) (λl=>aK l/\∀ x∈l,bK x) :=
 ux Tryz.underlying27 (Ud (by kernel_rfl)) (Ud (by kernel_rfl)) oH
theorem I5:xc Tryz.prog 23 (λl:List ByteArray=>[encS l]) (λl=>aK l/\∀ x∈l,True) :=
 ux Tryz.underlying23 (Ud (by kernel_rfl)) (Ud (by kernel_rfl)) (Cs Tryz.underlying9)
theorem Rm {cs:List Value} (h:cs.length=3):cs=[cs.getD 0 undef,cs.getD 1 undef,cs.getD 2 undef]:=by
 match cs,h with
 | [a,b,c],_=>rfl
theorem Sa {cs:List Value} (h:cs.length=4):cs=[cs.getD 0 undef,cs.getD 1 undef,cs.getD 2 undef,cs.getD 3 undef]:=by
 match cs,h with
 | [a,b,c,d],_=>rfl
theorem Pt:xc Tryz.prog 130 de (λt=>bK t.level/\bK t.assoc):=λenc w base sp held fuel cs x h hw=>by
 obtain⟨e,d⟩:=wC Tryz.underlying130 (by
  intro i f hi
  match i,hi with
  | 0,hi=>simp at hi;subst hi;exact⟨rfl,by kernel_rfl⟩
  | 1,hi=>simp at hi;subst hi;exact⟨rfl,by kernel_rfl⟩
  | 2,hi=>simp at hi;subst hi;exact⟨rfl,by kernel_rfl⟩
  | n+3,hi=>simp at hi) (by kernel_rfl) h hw
 obtain⟨a,_,h1⟩:=d 0 _ rfl (Cs Tryz.underlying9)
 obtain⟨b,g,j⟩:=d 1 _ rfl oH
 obtain⟨c,k,l⟩:=d 2 _ rfl oH
 refine⟨⟨a,b,c⟩,⟨g,k⟩,?_⟩
 rw[Rm e]
 exact gR h1 (gR j (gR l zb))
theorem PN:xc Tryz.prog 92 aQ (λr=>bK r.left/\bK r.prec/\aK r.right/\∀ x∈r.right,bK x):=λenc w base sp held fuel cs x h hw=>by
 obtain⟨g,d⟩:=wC Tryz.underlying92 (by
  intro i f hi
  match i,hi with
  | 0,hi=>simp at hi;subst hi;exact⟨rfl,by kernel_rfl⟩
  | 1,hi=>simp at hi;subst hi;exact⟨rfl,by kernel_rfl⟩
  | 2,hi=>simp at hi;subst hi;exact⟨rfl,by kernel_rfl⟩
  | n+3,hi=>simp at hi) (by kernel_rfl) h hw
 obtain⟨a,j,h1⟩:=d 0 _ rfl oH
 obtain⟨b,e,k⟩:=d 1 _ rfl PB
 obtain⟨c,l,m⟩:=d 2 _ rfl oH
 refine⟨⟨a,b,c⟩,⟨j,l,e.1,e.2⟩,?_⟩
 rw[Rm g]
 exact gR h1 (gR k (gR m zb))
theorem PM:xc Tryz.prog 26 ag af.Ok:=λenc w base sp held fuel cs x h hw=>by
 obtain⟨k,e⟩:=wC Tryz.underlying26 (by
  intro i f hi
  match i,hi with
  | 0,hi=>simp at hi;subst hi;exact⟨rfl,by kernel_rfl⟩
  | 1,hi=>simp at hi;subst hi;exact⟨rfl,by kernel_rfl⟩
  | 2,hi=>simp at hi;subst hi;exact⟨rfl,by kernel_rfl⟩
  | 3,hi=>simp at hi;subst hi;exact⟨rfl,by kernel_rfl⟩
  | n+4,hi=>simp at hi) (by kernel_rfl) h hw
 obtain⟨a,g,h1⟩:=e 0 _ rfl (ux Tryz.underlying22 (Ud (by kernel_rfl)) (Ud (by kernel_rfl)) Pt)
 obtain⟨b,l,m⟩:=e 1 _ rfl I5
 obtain⟨c,j,o⟩:=e 2 _ rfl (ux Tryz.underlying24 (Ud (by kernel_rfl)) (Ud (by kernel_rfl)) PN)
 obtain⟨d,p,q⟩:=e 3 _ rfl oH
 refine⟨⟨a,b,c,d⟩,⟨g.1,l.1,j.1,p,g.2,j.2⟩,?_⟩
 rw[Sa k]
 exact gR h1 (gR m (gR o (gR q zb)))
end Gv
