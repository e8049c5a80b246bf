/-
  Part 9 of the proof: what the machine does and what the functions answer.
  Conditions: those that each lemma names.
-/
import Derived.ProofKit
import Derived.SizedLaws
import Derived.Test.YtiophifnkakjgaaGreatSGzB8H
set_option linter.unusedSimpArgs false
set_option linter.unusedVariables false
set_option maxRecDepth 100000
set_option maxHeartbeats 20000000
namespace Gv
open Go Go.Proofs
def rD (is:List Bool) (l:List Int):List Bool:=l.foldl (λis n=>is.set n.toNat true) is
def stepG (comes:bb->List Bool->List Int) (is:List Bool) (r:bb):List Bool:=rD is (comes r is)
def ef (comes:bb->List Bool->List Int) (rules:List bb) (is:List Bool):List Bool:=rules.foldl (stepG comes) is
def hQ (a b:List Bool):Prop:=a.length=b.length/\∀ i,a.getD i false=true->b.getD i false=true
theorem hQ.refl (a:List Bool):hQ a a:=⟨rfl,λ_ h=>h⟩
theorem hQ.trans {a b c:List Bool} (h:hQ a b) (k:hQ b c):hQ a c:=⟨h.1.trans k.1,λi hi=>k.2 i (h.2 i hi)⟩
theorem hQ.set (a:List Bool) (i:Nat):hQ a (a.set i true):=by
 refine⟨by simp,λj h=>?_⟩
 simp only[Uu,VA] at h ⊢
 split
 .split
  .rfl
  .rename_i e b;rw[<-e,U6 (by omega)] at h;simp at h
 .exact h
theorem Ga:∀ (l:List Int) (is:List Bool),hQ is (rD is l)
 | [],is=>.refl _
 | n :: l,is=>(hQ.set is n.toNat).trans (Ga l _)
theorem s0 (comes:bb->List Bool->List Int):∀ (rules:List bb) (is:List Bool),hQ is (ef comes rules is)
 | [],is=>.refl _
 | r :: rs,is=>(Ga _ _).trans (s0 comes rs _)
def dQ (a:List Bool):Nat:=a.countP λx=>x
theorem wM (a:List Bool):dQ a<=a.length:=List.countP_le_length
theorem hQ.dQ:∀ {a b:List Bool},hQ a b->dQ a<=dQ b/\(dQ a=dQ b->a=b)
 | [],[],_=>⟨UF _,λ_=>rfl⟩
 | [],_ :: _,h=>by simp[hQ] at h
 | _ :: _,[],h=>by simp[hQ] at h
 | x :: a,y :: b,h=>by
  have c:x=true->y=true:=λe=>by have:=h.2 0 (by simpa using e);simpa using this
  obtain⟨h1,d⟩:=hQ.dQ (a:=a) (b:=b) ⟨by simpa using h.1,λi hi=>by have:=h.2 (i+1) (by simpa using hi);simpa using this⟩
  unfold Gv.dQ at h1 d ⊢
  simp only[List.countP_cons]
  cases x with
  | true =>
   have:=c rfl;subst this
   simp only[if_true]
   exact⟨by omega,λe=>by rw[d (by omega)]⟩
  | false =>
   cases y with
   | false=>simp only[UX,if_false];exact⟨by omega,λe=>by rw[d (by omega)]⟩
   | true=>simp only[UX,if_false,if_true];exact⟨by omega,λe=>by omega⟩
def gT (comes:bb->List Bool->List Int) (rules:List bb):Nat->List Bool->List Bool
 | 0,is=>is
 | k+1,is=>if ef comes rules is=is then is else gT comes rules k (ef comes rules is)
theorem xU (comes:bb->List Bool->List Int) (rules:List bb):∀ (k:Nat) (is:List Bool),is.length<=dQ is+k->ef comes rules (gT comes rules k is)=gT comes rules k is/\hQ is (gT comes rules k is)
 | 0,is,h=>by
  have h1:=s0 comes rules is
  have b:=wM (ef comes rules is)
  have a:=h1.dQ
  rw[<-h1.1] at b
  have c:=wM is
  exact⟨(a.2 (by omega)).symm,.refl _⟩
 | k+1,is,h=>by
  simp only[gT]
  by_cases e:ef comes rules is=is
  .rw[Uz e];exact⟨e,.refl _⟩
  .rw[Ux e]
   have h1:=s0 comes rules is
   have a:=h1.dQ
   have:dQ is < dQ (ef comes rules is):=by
    rcases UZ (dQ is) (dQ (ef comes rules is)) with h | h
    .exact h
    .exact absurd (a.2 (by omega)).symm e
   obtain⟨g1,g2⟩:=xU comes rules k (ef comes rules is) (by rw[<-h1.1];omega)
   exact⟨g1,h1.trans g2⟩
def xm:SC :=
 ae [ab [aR 26 .lss 25 24],bX 26 (.exit 4),.block 5 (ae [ab [aO 27 1 23 25,ak 28 27,aa 11 28],.region false [⟨none,[aa 29 7,aa 30 29]⟩,⟨(some (30,false)),[aa 31 1,aa 32 11,aO 33 1 31 32,ak 34 33,c7 35 34]⟩,⟨none,[cM 36 30 35,aa 7 36]⟩],ab [aa 37 1,aa 38 11,aO 39 1 37 38,(none,.op (.store 1 (.tmp 39) (.val (.val (.bool true)))))]]),ab [aG 40 .add 25 1,aa 25 40]]
def xi:SC :=
 ae [ab [aR 17 .lss 16 15],bX 17 (.exit 2),.block 3 (ae [ab [aO 18 3 14 16,aS 19 3 18,((some 9),.op (.alloc [(.val (.int .i64 0)),(.emp 1),(.val (.int .i64 0))])),cg 3 9 19],ab [aa 20 2,aS 21 3 9,aa 22 1,((some 23),.call (.tmp 20) [(.tmp 21),(.tmp 22)]),aM 24 23,aN 25 0],bY 4 xm]),ab [aG 41 .add 16 1,aa 16 41]]
def qZ:SC :=
 ae [ae [ab [aa 12 7],bX 12 (.exit 0)],.block 1 (ae [ab [bq 7 false],ab [al 13 2 3,ak 14 13,aM 15 14,aN 16 0],bY 2 xi])]
def zC:SF:=⟨ae [ab [cw 3 0,bI 6 1],ae [ab [bq 7 true],bY 0 qZ],ab [aa 42 1,aa 6 42],.ret],
 [.tmp 6],43⟩
theorem Di:aH Tryz.prog 173 [3]=some zC:=by kernel_rfl
theorem P8 {is:List Bool} {i:Nat} (h:is.getD i false=true):is.set i true=is:=by
 apply List.ext_getElem?
 intro j
 simp only[Uu] at h
 rw[VA]
 split
 .rename_i e;subst e
  split
  .rename_i a;rw[Uv a] at h ⊢;simp at h;simp[h]
  .rename_i a;rw[U6 (by omega)] at h;simp at h
 .rfl
theorem KT {comes:bb->List Bool->List Int} {rules:List bb} {k:Nat} {is:List Bool} (h:ef comes rules is=is):gT comes rules k is=is:=by
 cases k with
 | zero=>rfl
 | succ k=>simp only[gT,h,if_true]
theorem LJ {comes:bb->List Bool->List Int} {rules:List bb} {k:Nat} {is:List Bool} (h:¬ ef comes rules is=is) (hk:is.length<=dQ is+k):∃ j,k=j+1/\gT comes rules k is=gT comes rules j (ef comes rules is)/\(ef comes rules is).length<=dQ (ef comes rules is)+j:=by
 have h1:=s0 comes rules is
 have a:=h1.dQ
 have b:=wM (ef comes rules is)
 have:dQ is < dQ (ef comes rules is):=by
  rcases UZ (dQ is) (dQ (ef comes rules is)) with h | h
  .exact h
  .exact absurd (a.2 (by omega)).symm (by assumption)
 have c:=h1.1
 obtain⟨j,rfl⟩:∃ j,k=j+1:=⟨k - 1,by omega⟩
 exact⟨j,rfl,by simp only[gT];rw[Ux h],by omega⟩
theorem PB {a is:List Bool} {i:Nat} {b:Bool} (hle:hQ a is) (hi:i < is.length) (d:b = !decide (is=a)):(b || !is.getD i false) = !decide (is.set i true=a):=by
 cases c:is.getD i false with
 | true=>rw[P8 c,d];simp
 | false =>
  have:¬ is.set i true=a:=λe=>by
   have h1:(is.set i true).getD i false=true:=by simp[Uu,hi]
   rw[e] at h1
   have:=hle.2 i h1
   rw[c] at this;simp at this
  simp[this]
theorem IU (g:ag) (hr:g.rules.length<=40) (comes:bb->List Bool->List Int) (f:FuncId) (t D:List V) (ar:dE Tryz.prog f=true) (N:Nat) (hN:N<=16)
  (hc:∀ r∈g.rules,∀ is:List Bool,is.length=N->b6 Tryz.prog f (.agg (aI r) :: cD is :: D) (encI (comes r is))/\(comes r is).length<=100/\∀ n∈comes r is,bO n/\0<=n/\n < N)
  (id:Nat) (A:List Bool) (a6:A.length=N) (H:View) (hH:H id=.arr 1 (dq A)) (O:∀ H':View,(∀ k,H k≠.dead->k≠id->H' k=H k)->pV H' t D) :
  av Tryz.prog 173 [.agg (af g),.sl id 0 N 1,.fn f [] t] H λr H'=>r=.sl id 0 N 1/\H' id=.arr 1 (dq (gT comes g.rules 16 A))/\∀ k,H k≠.dead->k≠id->H' k=H k:=by
 refine av.of mixed Di ?_
 simp(disch:=omega)only[↓wr,seval,wq,zC,af,encS]
 refine aV.intro (λk T H'=>∃ is:List Bool,is.length=N/\H' id=.arr 1 (dq is)/\(∀ k,H k≠.dead->k≠id->H' k=H k)/\T 1=.sl id 0 N 1/\T 2=.fn f [] t/\T 3=.aJ (af g) 0 /\
  ((T 7=gb true/\∃ j,k=j+1/\gT comes g.rules j is=gT comes g.rules 16 A/\N<=dQ is+j)∨(T 7=gb false/\is=gT comes g.rules 16 A))) 17 ?_ ?_
 .exact⟨A,a6,hH,λ_ _ _=>rfl,rfl,rfl,rfl,.inl ⟨rfl,16,rfl,rfl,by omega⟩⟩
 rintro k T H1 ⟨is,hlen,o,p,t1,t2,t3,u⟩
 rcases u with ⟨u,j,rfl,J,hj⟩ | ⟨u,J⟩
 .simp(disch:=omega)only[↓wr,seval,wq,qZ,t1,t2,t3,u,af,encS]
  refine aV.up g.rules.length (λi T H'=>∃ pg:List Bool,pg.length=N/\hQ is pg/\pg=(g.rules.take i).foldl (stepG comes) is/\H' id=.arr 1 (dq pg)/\(∀ k,H k≠.dead->k≠id->H' k=H k)/\T 1=.sl id 0 N 1/\T 2=.fn f [] t/\T 3=.aJ (af g) 0 /\
   T 7=gb (!decide (pg=is))/\T 14=.aQ (g.rules.map aI)/\T 15=gi g.rules.length/\T 16=gi i) ?_ ?_
  .exact⟨is,hlen,.refl _,rfl,o,p,t1,t2,t3,by simp;rfl,rfl,rfl,rfl⟩
  clear t1 t2 t3 u o p
  rintro i k T H1 hk ⟨pg,s,W,P,o,p,t1,t2,t3,u,c,d,m⟩
  simp(disch:=omega)only[↓wr,seval,wq,xi,t1,t2,t3,u,c,d,m,af,encS]
  apply ai.dec<;>intro a8
  .have Q:g.rules[i]?=some (g.rules[i]'(by omega)):=Uv (by omega)
   have M:g.rules[i]'(by omega)∈g.rules:=UC _
   have X:(g.rules.take (i+1)).foldl (stepG comes) is=stepG comes ((g.rules.take i).foldl (stepG comes) is) (g.rules[i]'(by omega)):=by
    rw[UW,Q,VT];rfl
   generalize g.rules[i]'(by omega)=r at Q M X
   obtain⟨bd,bl,Y⟩:=hc r M pg s
   simp(disch:=omega)only[↓wr,seval,wq,t1,t2,t3,u,c,d,m,aI,encI,Uy,Q]
   intro b R
   have E:b≠id:=by rintro rfl;rw[o] at R;simp at R
   try simp(disch:=omega)only[↓wr,seval,wq,t1,t2,t3,u,c,d,m]
   refine aw.j0 bd ar ⟨cm.tree (bZ _ (fJ r)),Bm (by simp[View.set,E.symm,o]) s.symm,O _ (λk hk v=>?_)⟩ ?_
   .have S:k≠b:=by
     rintro rfl
     rw[p k hk v] at R
     exact hk R
    simp[View.set,S,p k hk v]
   generalize hl:comes r pg=l at bl Y
   simp(disch:=omega)only[↓wr,seval,wq,t1,t2,t3,u,c,d,m,encI]
   refine aV.up l.length (λq T H'=>∃ a:List Bool,a.length=N/\hQ is a/\a=rD pg (l.take q)/\H' id=.arr 1 (dq a)/\(∀ k,H k≠.dead->k≠id->H' k=H k)/\T 1=.sl id 0 N 1/\T 2=.fn f [] t/\T 3=.aJ (af g) 0 /\
    T 7=gb (!decide (a=is))/\T 14=.aQ (g.rules.map aI)/\T 15=gi g.rules.length/\T 16=gi i/\T 23=encI l/\T 24=gi l.length/\T 25=gi q) ?_ ?_
   .refine⟨pg,s,W,rfl,by simp[View.set,E.symm,o],λk hk v=>?_,t1,t2,t3,u,c,d,m,rfl,rfl,rfl⟩
    have S:k≠b:=by
     rintro rfl
     rw[p k hk v] at R
     exact hk R
    simp[View.set,S,p k hk v]
   clear t1 t2 t3 u c d m o p R E
   rintro q k2 T H1 bn ⟨a,F,G,I,o,p,t1,t2,t3,u,c,d,m,w,y,B⟩
   simp(disch:=omega)only[↓wr,seval,wq,xm,t1,t2,t3,u,c,d,m,w,y,B,encI]
   apply ai.dec<;>intro br
   .have U:l[q]?=some (l[q]'(by omega)):=Uv (by omega)
    have Z:l[q]'(by omega)∈l:=UC _
    have an:rD pg (l.take (q+1))=(rD pg (l.take q)).set (l[q]'(by omega)).toNat true:=by
     unfold rD;rw[UW,U,VT];rfl
    generalize l[q]'(by omega)=n at U Z an
    obtain⟨⟨n1,n2⟩,n3,n4⟩:=Y n Z
    have aq:a.getD n.toNat false=a[n.toNat]'(by omega):=by simp[Uu,show n.toNat < a.length by omega]
    have z:=PB G (show n.toNat < a.length by omega) (b:=!decide (a=is)) rfl
    rw[aq] at z
    have K:=kT (show n.toNat < a.length by omega)
    generalize a[n.toNat]'(by omega)=x at z K aq
    have fin:∀ (C:Env),C 7=gb (!decide (a.set n.toNat true=is))->C 1=.sl id 0 N 1->C 2=.fn f [] t->C 3=.aJ (af g) 0->C 14=.aQ (g.rules.map aI)->C 15=gi g.rules.length->C 16=gi i->C 23=encI l->C 24=gi l.length->C 25=gi ((q:Int)+1) ->
      ∃ k',k' < k2/\D3 l.length k' (λq T H'=>∃ a:List Bool,a.length=N/\hQ is a/\a=rD pg (l.take q)/\H' id=.arr 1 (dq a)/\(∀ k,H k≠.dead->k≠id->H' k=H k)/\T 1=.sl id 0 N 1/\T 2=.fn f [] t/\T 3=.aJ (af g) 0 /\
       T 7=gb (!decide (a=is))/\T 14=.aQ (g.rules.map aI)/\T 15=gi g.rules.length/\T 16=gi i/\T 23=encI l/\T 24=gi l.length/\T 25=gi q) C (H1.set id (.arr 1 (dq (a.set n.toNat true)))):=by
     intro C a7 a1 a2 a3 bs bx b0 a23 a24 a25
     refine aD bn (by omega) ⟨a.set n.toNat true,by simp[F],G.trans (.set _ _),by rw[an,<-I],by simp[View.set],λk hk v=>by simp[View.set,v,p k hk v],a1,a2,a3,a7,bs,bx,b0,a23,a24,by rw[a25];rfl⟩
    simp(disch:=omega)only[↓wr,seval,wq,t1,t2,t3,u,c,d,m,w,y,B,encI,Uy,U]
    apply ai.dec<;>intro e
    .simp(disch:=omega)only[↓wr,seval,wq,t1,t2,t3,u,c,d,m,w,y,B,encI,o,K,UB]
     refine⟨by omega,by omega,?_⟩
     try simp(disch:=omega)only[↓wr,seval,wq,t1,t2,t3,u,c,d,m,w,y,B,encI,o,K,UB]
     refine⟨by omega,by omega,?_⟩
     rw[kY]
     exact fin _ (by rw[<-z];simp[e];rfl) t1 t2 t3 c d m w y rfl
    .simp(disch:=omega)only[↓wr,seval,wq,t1,t2,t3,u,c,d,m,w,y,B,encI,o,K,UB]
     refine⟨by omega,by omega,?_⟩
     rw[kY]
     exact fin _ (by rw[<-z];simp[e];rfl) t1 t2 t3 c d m w y rfl
   .rw[UK (by omega)] at I
    simp(disch:=omega)only[↓wr,seval,wq,t1,t2,t3,u,c,d,m,w,y,B]
    refine aD hk (by omega) ⟨a,F,G,?_,o,p,t1,t2,t3,u,c,d,rfl⟩
    rw[X,<-P,stepG,hl,<-I]
  .rw[UK (by omega)] at P
   simp(disch:=omega)only[↓wr,seval,wq,t1,t2,t3,u,c,d,m]
   have L:pg=ef comes g.rules is:=P
   by_cases e:pg=is
   .refine⟨0,by omega,pg,s,o,p,rfl,.inr ⟨by simp[e],?_⟩⟩
    rw[<-J,e]
    exact(KT (by rw[<-L];exact e)).symm
   .obtain⟨j2,rfl,e2,e3⟩:=LJ (k:=j) (λh=>e (L.trans h)) (by rw[hlen];exact hj)
    refine⟨j2+1,by omega,pg,s,o,p,rfl,.inl ⟨by simp[e],j2,rfl,?_,?_⟩⟩
    .rw[<-J,e2,L]
    .rw[<-L,s] at e3;exact e3
 .simp(disch:=omega)only[↓wr,seval,wq,qZ,t1,t2,t3,u,af,encS]
  exact⟨J ▸ o,p⟩
theorem AK {α:Type} {f:α->α} {x:α} (h:f x=x):∀ n,iter f n x=x
 | 0=>rfl
 | n+1=>by rw[iter,h,AK h n]
theorem Hv {α:Type} (f:α->α):∀ (a b:Nat) (x:α),iter f (a+b) x=iter f b (iter f a x)
 | 0,b,x=>by rw[Vm];rfl
 | a+1,b,x=>by rw[Nat.add_right_comm,iter,iter,Hv f a b]
theorem A8 (comes:bb->List Bool->List Int) (rules:List bb):∀ (k:Nat) (is:List Bool),gT comes rules k is=iter (ef comes rules) k is
 | 0,is=>rfl
 | k+1,is=>by
  simp only[gT,iter]
  by_cases e:ef comes rules is=is
  .rw[Uz e,e,AK e]
  .rw[Ux e,A8 comes rules k]
theorem xF (comes:bb->List Bool->List Int) (rules:List bb) (is:List Bool) (h:is.length<=16):gT comes rules 16 is=iter (ef comes rules) is.length is:=by
 have h1:=(xU comes rules is.length is (by omega)).1
 rw[A8] at h1 ⊢
 obtain⟨m,hm⟩:∃ m,16=is.length+m:=⟨16 - is.length,by omega⟩
 rw[hm,Hv,AK h1]
def vm (t:Bool) (r:bb) (is:List Bool):List Int:=if ga r.right is t=true then [r.left] else []
def sr (p:List Bool) (r:bb) (is:List Bool):List Int:=if (is.getD r.left.toNat false && ga r.right p true)=true then gB r.right else []
theorem Rb (g:ag) (t:Bool):ef (vm t) g.rules=nu g t:=by
 funext is
 unfold ef nu
 congr 1
 funext is r
 unfold stepG vm iF
 split <;> rfl
theorem Bw:∀ (l:List Int) (is:List Bool),rD is (gB l)=l.foldl mark is
 | [],is=>rfl
 | s :: l,is=>by
  have a:=Bw l
  unfold rD gB at a ⊢
  rw[Vf,<-a]
  unfold mark
  by_cases h:s < 0
  .rw[Uz h,List.filter_cons_of_pos (by simpa using h)];rfl
  .rw[Ux h,List.filter_cons_of_neg (by simpa using h)]
theorem I5 (g:ag) (p:List Bool):ef (sr p) g.rules=qn g p:=by
 funext is
 unfold ef qn
 congr 1
 funext is r
 unfold stepG sr gW
 split
 .exact Bw _ _
 .rfl
theorem Ss {g:ag} (h:bV g=true) (t:Bool):gT (vm t) g.rules 16 (cI g)=bD g t:=by
 have a:=b4 h
 have b:(cI g).length=g.aj.length:=by simp[cI]
 have:=a.aj
 rw[xF _ _ _ (by rw[b];exact a.aj),Rb,b,bD,Uz h]
theorem MW {g:ag} (h:bV g=true):gT (sr (bD g true)) g.rules 16 ((cI g).set g.start.toNat true)=cr g:=by
 have b:=b4 h
 have a:((cI g).set g.start.toNat true).length=g.aj.length:=by simp[cI]
 rw[xF _ _ _ (by rw[a];exact b.aj),I5,a,cr,Uz h]
def rp:SF:=⟨ae [ab [cw 1 0,bI 2 1],ae [ab [aS 3 4 1,aX 4 89 [3],c7 5 4],ba 5 (ae [ab [bI 2 1],.ret])],ab [aS 6 4 1,al 7 1 1,ak 8 7,aM 9 8,((some 10),.op (.make 1 1 [(.val (.bool false))] (.tmp 9) (.tmp 9))),rf 11 173 [(.tmp 6),(.tmp 10),(.val (.fn 226 [] []))],aa 2 11],.ret],
 [.tmp 2],12⟩
theorem wH:aH Tryz.prog 161 [1]=some rp:=by kernel_rfl
def sG:SF:=⟨ae [ab [cw 1 0,bI 2 1],ae [ab [aS 5 4 1,aX 6 89 [5],c7 7 6],ba 7 (ae [ab [bI 2 1],.ret])],ab [aS 8 4 1,aX 9 161 [8],((some 3),.op (.alloc [(.emp 1)])),cg 1 3 9],ab [al 10 1 1,ak 11 10,aM 12 11,((some 13),.op (.make 1 1 [(.val (.bool false))] (.tmp 12) (.tmp 12))),aa 4 13],ab [aa 14 4,al 15 3 1,ak 16 15,aO 17 1 14 16,(none,.op (.store 1 (.tmp 17) (.val (.val (.bool true)))))],ab [aS 18 4 1,aa 19 4,((some 20),.op (.uo 227 [] [(.tmp 3)])),aX 21 173 [18,19,20],aa 2 21],.ret],
 [.tmp 2],22⟩
theorem xB:aH Tryz.prog 162 [1]=some sG:=by kernel_rfl
structure ag.Small (g:ag):Prop where
 names:g.aj.length+g.au.length<=1000
theorem Ec {a:aC} {id n:Nat} {is:List Bool} (b:a.view id=.arr 1 (dq is)) (c:n=is.length):dz a (.sl id 0 n 1) (cD is):=by
 subst c;exact yX b
theorem uA (g:ag) (d:g.Ok) (i:g.Small):b6 Tryz.prog 161 [.agg (af g)] (cD (bD g true)):=by
 refine b6.of (dO g) ?_
 refine av.of mixed wH ?_
 have j:=d.aj
 unfold aL at j
 simp(disch:=omega)only[↓wr,seval,wq,rp,af,encS]
 refine aw.pure (sT g d i.names) ?_
 repeat' (first | ((first|apply ai.dec|apply ai.eq|apply ai.ne|apply ai.split)<;>intro)|(simp(disch:=omega)only[↓wr,seval,wq,af,encS]))
 .rename_i hr
  have b:=b4 hr
  have h1:=b.lp
  have k:=b.aj
  try simp(disch:=omega)only[↓wr,seval,wq,af,encS]
  refine⟨⟨by omega,by unfold aB;omega,by unfold aB;omega⟩,λh=>by omega,?_⟩
  intro _ n
  try simp(disch:=omega)only[↓wr,seval,wq,af,encS]
  refine aw.dL ((IU g b.rules (vm true) 226 [] [] (by kernel_rfl) g.aj.length k (λr a is e=>⟨Db r is (by rw[e];exact b.qT d a),?_,?_⟩) n (cI g) (by simp[cI]) _ (by simp[View.set,cI]) (λH' _=>trivial)).mono ?_)
  .unfold vm;split <;> simp
  .intro m hm
   unfold vm at hm
   split at hm
   .simp only[Vq] at hm;subst hm
    exact⟨(d.ax r a).1,b.left r a⟩
   .simp at hm
  .rintro r H' ⟨rfl,c,_⟩
   simp(disch:=omega)only[↓wr,seval,wq]
   intro l f
   rw[Ss hr] at c
   exact Ec (by rw[f];exact c) (mc hr _).symm
 .rename_i hr
  intro l f
  simp only[bD,hr]
  exact .emp _
theorem pU {g:ag} (hr:bV g=true):(cr g).length=g.aj.length:=by
 rw[cr,Uz hr,Aw (f:=qn g (bD g true)) (λis=>Ab (λis x=>Md _ is x) g.rules is)]
 simp[cI]
theorem EZ (g:ag) (f:g.Ok) (w:g.Small):b6 Tryz.prog 162 [.agg (af g)] (cD (cr g)):=by
 refine b6.of (dO g) ?_
 refine av.of mixed xB ?_
 have A:=f.aj
 unfold aL at A
 simp(disch:=omega)only[↓wr,seval,wq,sG,af,encS]
 refine aw.pure (sT g f w.names) ?_
 repeat' (first | ((first|apply ai.dec|apply ai.eq|apply ai.ne|apply ai.split)<;>intro)|(simp(disch:=omega)only[↓wr,seval,wq,af,encS]))
 .rename_i hr
  have d:=b4 hr
  have h1:=d.lp
  have B:=d.aj
  have D:=d.oh
  have E:=d.start
  have p:=mc hr true
  try simp(disch:=omega)only[↓wr,seval,wq,af,encS]
  refine aw.pure (uA g f w).pure ?_
  simp(disch:=omega)only[↓wr,seval,wq,af,encS,cD]
  intro q
  try simp(disch:=omega)only[↓wr,seval,wq,af,encS,set_set]
  refine⟨⟨by omega,by unfold aB;omega,by unfold aB;omega⟩,λh=>by omega,?_⟩
  intro _ n t
  have e:=(bU t bR).1
  try simp(disch:=omega)only[↓wr,seval,wq,af,encS,set_set]
  have i:=kT (is:=cI g) (show g.start.toNat < (cI g).length by simp[cI];omega)
  refine⟨by omega,by simp;omega,?_⟩
  refine aw.dL ((IU g d.rules (sr (bD g true)) 227 [.ptr q 0 0] [.aJ [cD (bD g true)] 0] (by kernel_rfl) g.aj.length B (λr c is j=>⟨EW r is (bD g true) (by rw[j];exact d.qT f c) (by rw[j,p]),?_,?_⟩) n ((cI g).set g.start.toNat true) (by simp[cI]) _ ?_ (λH' u=>⟨cm.box (z:=1) ?_ ?_,trivial⟩)).mono ?_)
  .have F:=d.right r c
   unfold sr
   split
   .have:(gB r.right).length<=r.right.length:=by simp only[gB,UB];exact VU _ _
    omega
   .simp
  .intro m hm
   unfold sr at hm
   split at hm
   .simp only[gB,U0,Vu,UN] at hm
    obtain⟨s,⟨k,l⟩,rfl⟩:=hm
    have a:=d.neg c k l
    have b:=((f.ax r c).2.2.2 s k).1
    exact⟨⟨by omega,by omega⟩,by omega,a⟩
   .simp at hm
  .simp only[View.set,if_true]
   congr 1
   rw[<-kY]
   unfold cI at i ⊢
   rw[yN,i]
   rfl
  .rw[u q (by simp[View.set,Ne.symm e]) (Ne.symm e)]
   simp[View.set,Ne.symm e]
   rfl
  .intro v x;simp at x;subst x;exact jH _
  .rintro r H' ⟨rfl,o,_⟩
   simp(disch:=omega)only[↓wr,seval,wq]
   intro C y
   rw[MW hr] at o
   exact Ec (by rw[y];exact o) (by rw[pU hr])
 .rename_i hr
  intro C y
  simp only[cr,hr]
  exact .emp _
def c6 (p q:List Bool) (r:bb):Bool:=q.getD r.left.toNat false && ga r.right p true
def c5 (p q:List Bool):List bb->Int->List Int
 | [],_=>[]
 | r :: l,i=>if c6 p q r=true then i :: c5 p q l (i+1) else c5 p q l (i+1)
def kS (acc:List Int) (r:bb):List Int:=if r.left∈acc then acc else acc ++ [r.left]
def cy (p q:List Bool) (l:List bb):List Int:=(l.filter (c6 p q)).foldl kS []
def cW (o:List Int) (x:Int):Int:=dy (λy=>y == x) o 0
def cp (f:Int->Int) (r:bb):bb:=⟨f r.left,r.right.map λs=>if s < 0 then -1 - f (-1 - s) else s,r.prec⟩
def vR (g:ag) (f:Int->Int) (p q:List Bool):ag :=
 ⟨g.au,(cy p q g.rules).map λx=>g.aj.getD x.toNat ⟨#[]⟩,(g.rules.filter (c6 p q)).map (cp f),f g.start⟩
def rl:ag:=⟨[],[],[],0⟩
instance:DecidableEq Term:=λa b=>decidable_of_iff (a.name=b.name/\a.level=b.level/\a.assoc=b.assoc) (by cases a;cases b;simp)
instance:DecidableEq bb:=λa b=>decidable_of_iff (a.left=b.left/\a.prec=b.prec/\a.right=b.right) (by cases a;cases b;simp[and_comm])
instance:DecidableEq ag:=λa b=>decidable_of_iff (a.au=b.au/\a.aj=b.aj/\a.rules=b.rules/\a.start=b.start) (by cases a;cases b;simp)
def gP (g:ag):ag × List Int × Int :=
 if bV g=true then
  if (bD g true).getD g.start.toNat false=true then (vR g (cW (cy (bD g true) (cr g) g.rules)) (bD g true) (cr g),c5 (bD g true) (cr g) g.rules 0,0)
  else (rl,[],9)
 else (rl,[],1)
theorem Fx {g:ag} (hr:bV g=true):gP g=if (bD g true).getD g.start.toNat false=true then (vR g (cW (cy (bD g true) (cr g) g.rules)) (bD g true) (cr g),c5 (bD g true) (cr g) g.rules 0,0) else (rl,[],9):=by
 rw[gP,Uz hr]
theorem kA (p q:List Bool):∀ (a b:List bb) (i:Int),c5 p q (a ++ b) i=c5 p q a i ++ c5 p q b (i+a.length)
 | [],b,i=>by simp[c5]
 | r :: a,b,i=>by
  simp only[Va,c5,kA p q a b (i+1),UE]
  have:i+1+(a.length:Int)=i+((a.length+1:Nat):Int):=by push_cast;omega
  rw[this]
  split <;> simp
theorem kM (p q:List Bool):∀ (a:List bb) (i:Int),(c5 p q a i).length=(a.filter (c6 p q)).length
 | [],i=>rfl
 | r :: a,i=>by
  simp only[c5,List.filter_cons]
  split <;> simp[kM p q a]
theorem tD (p q:List Bool):∀ (a:List bb) (i:Int) (k:Nat),k < (c5 p q a i).length->∃ m:Nat,(c5 p q a i)[k]?=some (i+m)/\a[m]?=(a.filter (c6 p q))[k]?/\m < a.length
 | [],i,k,h=>by simp[c5] at h
 | r :: a,i,k,h=>by
  simp only[c5,List.filter_cons] at h ⊢
  by_cases hr:c6 p q r=true
  .rw[Uz hr] at h ⊢
   rw[Uz hr]
   cases k with
   | zero=>exact⟨0,by simp,by simp,by simp⟩
   | succ k =>
    obtain⟨m,h1,b,c⟩:=tD p q a (i+1) k (by simpa using h)
    exact⟨m+1,by rw[Ve,h1];congr 1;push_cast;omega,by simpa using b,by simpa using c⟩
  .rw[Ux hr] at h ⊢
   rw[Ux hr]
   obtain⟨m,h1,b,c⟩:=tD p q a (i+1) k h
   exact⟨m+1,by rw[h1];congr 1;push_cast;omega,by simpa using b,by simpa using c⟩
theorem tz (p q:List Bool) (l:List bb) (r:bb):cy p q (l ++ [r])=if c6 p q r=true then kS (cy p q l) r else cy p q l:=by
 unfold cy
 rw[Wa]
 by_cases h:c6 p q r=true
 .rw[Uz h,List.filter_cons_of_pos h,VT];rfl
 .rw[Ux h,List.filter_cons_of_neg h];simp
theorem KC {acc:List Int} {r:bb} (h:acc.Nodup):(kS acc r).Nodup:=by
 unfold kS
 split
 .exact h
 .rename_i d
  rw[VK]
  exact⟨h,by simp,λa f b c e=>d (by simp at c;rw[<-c,<-e];exact f)⟩
theorem sC {o:List Int} {x:Int} : cW o x < 0↔x ∉ o:=by
 have:=wz (λy=>y == x) o 0 (by omega)
 unfold cW
 rw[<-Int.not_le]
 constructor
 .intro h a
  have e:(o.any λy=>y == x)=true:=VV.2 ⟨x,a,by simp⟩
  rw[e] at this;exact h (by simpa using this)
 .intro h a
  have e:(o.any λy=>y == x)=true:=by rw[<-this];simpa using a
  obtain⟨y,b,e⟩:=VV.1 e
  simp at e;subst e;exact h b
theorem zS {α:Type} (p:α->Bool):∀ (a b:List α) (i:Int),0<=i->dy p (a ++ b) i=if 0<=dy p a i then dy p a i else dy p b (i+a.length)
 | [],b,i,_=>by simp[dy]
 | x :: a,b,i,h=>by
  by_cases hp:p x=true
  .simp[dy,hp,h]
  .simp only[Va,dy,Ux hp]
   rw[zS p a b (i+1) (by omega)]
   have:i+1+(a.length:Int)=i+(((x :: a).length:Nat):Int):=by simp;omega
   rw[this]
theorem OF {o:List Int} {x y:Int} (c:x ∉ o):cW (o ++ [x]) y=if y=x then (o.length:Int) else cW o y:=by
 unfold cW
 rw[zS _ _ _ _ (by omega)]
 by_cases e:y=x
 .subst e
  rw[Ux (by have:=sC.2 c;unfold cW at this;omega),Uz rfl]
  simp[dy]
 .rw[Ux e]
  split
  .rfl
  .rename_i h
   have:cW o y < 0:=by unfold cW;omega
   have b:dy (λz=>z == y) [x] (0+(o.length:Int)) = -1:=by simp[dy,Ne.symm e]
   rw[b]
   have:∀ (l:List Int) (i:Int),¬ 0<=dy (λz=>z == y) l i->0<=i->dy (λz=>z == y) l i = -1:=by
    intro l
    induction l with
    | nil=>intro i _ _;rfl
    | cons z l d =>
     intro i h1 b
     simp only[dy] at h1 ⊢
     split
     .rename_i a;rw[Uz a] at h1;omega
     .rename_i a;rw[Ux a] at h1;exact d _ h1 (by omega)
   exact(this o 0 h (by omega)).symm
theorem JB {o:List Int} {x:Int} (h:x∈o):0<=cW o x/\cW o x < o.length:=by
 have a:¬ cW o x < 0:=λe=>sC.1 e h
 refine⟨by omega,?_⟩
 unfold cW
 have:∀ (l:List Int) (i:Int),dy (λz=>z == x) l i < i+l.length∨dy (λz=>z == x) l i = -1:=by
  intro l
  induction l with
  | nil=>intro i;right;rfl
  | cons z l b =>
   intro i
   simp only[dy]
   split
   .left;simp;omega
   .rcases b (i+1) with h | h
    .left;simp at h ⊢;omega
    .right;exact h
 rcases this o 0 with h1 | h1
 .simpa using h1
 .unfold cW at a;omega
theorem Rz (o:List Int) (x:Int) : -1<=cW o x/\cW o x<=o.length:=by
 by_cases h:x∈o
 .have:=JB h;omega
 .have h1:=sC.2 h
  have a:∀ (l:List Int) (i:Int),0<=i->-1<=dy (λz=>z == x) l i:=by
   intro l
   induction l with
   | nil=>intro i _;simp[dy]
   | cons z l b =>
    intro i hi
    simp only[dy]
    split
    .omega
    .exact b _ (by omega)
  have:=a o 0 (by omega)
  unfold cW at h1 ⊢
  omega
def jJ:List Int->Int->List (Int × Int)
 | [],_=>[]
 | x :: l,i=>(x,i) :: jJ l (i+1)
theorem tf (x:Int):∀ (o:List Int) (i:Int),eA (jJ o i) x=if x∈o then some (dy (λy=>y == x) o i) else none
 | [],i=>by simp[jJ,eA]
 | y :: o,i=>by
  have a:=tf x o (i+1)
  unfold eA at a ⊢
  simp only[jJ,Wm,dy]
  by_cases e:x=y
  .subst e;simp
  .have b:¬ ((y == x)=true):=by simp[Ne.symm e]
   rw[show (x == y)=false by simp[e],Ux b]
   simp only
   rw[a]
   simp[e]
theorem Eb {x v:Int} : ∀ {o:List Int} {i:Int},x ∉ o->kf x v (jJ o i)=jJ o i ++ [(x,v)]
 | [],i,_=>rfl
 | y :: o,i,h=>by
  simp only[UO,not_or] at h
  simp only[jJ,kf,show (x == y)=false by simp[h.1],UX,if_false,Eb h.2,Va]
theorem AZ {x:Int} : ∀ {o:List Int} {i:Int},jJ (o ++ [x]) i=jJ o i ++ [(x,i+o.length)]
 | [],i=>by simp[jJ]
 | y :: o,i=>by
  simp only[Va,jJ,AZ (o:=o),UE]
  congr 4
  push_cast;omega
def ej (o:List Int) (x:Int):Int:=(eA (jJ o 0) x).getD 0
theorem y8 {o:List Int} {x:Int} (h:x∈o):ej o x=cW o x:=by
 simp[ej,tf,h,cW]
theorem Ru (o:List Int) (x:Int):0<=ej o x/\ej o x<=o.length:=by
 by_cases h:x∈o
 .rw[y8 h];have:=JB h;omega
 .simp[ej,tf,h]
theorem Ni {g:ag} {p q:List Bool} (a:g.start∈cy p q g.rules) (b:∀ r∈g.rules.filter (c6 p q),r.left∈cy p q g.rules/\∀ s∈r.right,s < 0->-1 - s∈cy p q g.rules) :
  vR g (ej (cy p q g.rules)) p q=vR g (cW (cy p q g.rules)) p q:=by
 unfold vR
 congr 1
 .apply List.map_congr_left
  intro r hr
  obtain⟨h1,c⟩:=b r hr
  unfold cp
  congr 1
  .exact y8 h1
  .apply List.map_congr_left
   intro s d
   split
   .rename_i h;rw[y8 (c s d h)]
   .rfl
 .exact y8 a
theorem vr:∀ (l:List bb) (acc:List Int) (x:Int),x∈l.foldl kS acc↔x∈acc∨∃ r∈l,r.left=x
 | [],acc,x=>by simp
 | r :: l,acc,x=>by
  rw[Vf,vr l]
  have:x∈kS acc r↔x∈acc∨r.left=x:=by
   unfold kS
   split
   .rename_i h
    constructor
    .exact .inl
    .rintro (a | rfl)
     .exact a
     .exact h
   .simp[eq_comm]
  rw[this]
  simp only[UO,exists_eq_or_imp]
  constructor
  .rintro ((h | h) | h)
   .exact .inl h
   .exact .inr (.inl h)
   .exact .inr (.inr h)
  .rintro (h | h | h)
   .exact .inl (.inl h)
   .exact .inl (.inr h)
   .exact .inr h
theorem Hr {p q:List Bool} {l:List bb} {x:Int} : x∈cy p q l↔∃ r∈l,c6 p q r=true/\r.left=x:=by
 unfold cy
 rw[vr]
 simp[Vu,and_assoc]
def l0:SC :=
 ae [ae [ab [aa 42 9,aa 43 8,aM 44 43,aR 45 .lss 42 44],bX 45 (.exit 0)],.block 1 (ab [aa 48 8,aa 49 9,aO 50 1 48 49,(none,.op (.store 1 (.tmp 50) (.val (.val (.int .i64 (-1))))))]),ab [aa 46 9,aG 47 .add 46 1,aa 9 47]]
def mf:SC :=
 ae [ae [ab [aa 51 11,al 52 2 1,ak 53 52,aM 54 53,aR 55 .lss 51 54],bX 55 (.exit 2)],.block 3 (ae [ab [al 58 2 1,ak 59 58,aa 60 11,aO 61 3 59 60,aS 62 3 61,((some 12),.op (.alloc [(.val (.int .i64 0)),(.emp 1),(.val (.int .i64 0))])),cg 3 12 62],ae [.region false [⟨none,[aa 63 6,al 64 0 12,ak 65 64,aO 66 1 63 65,ak 67 66,c7 68 67,aa 69 68]⟩,⟨(some (69,false)),[al 70 1 12,ak 71 70,aa 72 5,rf 73 95 [(.tmp 71),(.tmp 72),(.val (.val (.bool true)))],c7 74 73]⟩,⟨none,[cM 75 69 74]⟩],ba 75 (.exit 3)],ab [aa 76 10,aa 77 11,((some 78),.op (.bP 1 1 [(.val (.int .i64 0))] [(0,(.tmp 77))])),fk 79 1 8 76 78,aa 10 79],ab [aa 80 8,al 81 0 12,ak 82 81,aO 83 1 80 82,ak 84 83,aG 85 .lss 84 0],ba 85 (ae [ab [aa 86 8,al 87 0 12,ak 88 87,al 89 1 7,ak 90 89,aM 91 90,aO 92 1 86 88,cg 1 92 91],.region false [⟨none,[al 93 1 7,ak 94 93,al 95 1 1,ak 96 95,al 97 0 12,ak 98 97,aO 99 1 96 98,ak 100 99,((some 101),.op (.bP 1 1 [(.val (.string ⟨#[]⟩))] [(0,(.tmp 100))])),fk 102 1 16 94 101,al 103 1 7,cg 1 103 102]⟩]])]),ab [aa 56 11,aG 57 .add 56 1,aa 11 57]]
def lS:SC :=
 ae [ae [ab [aa 126 16,al 127 1 14,ak 128 127,aM 129 128,aR 130 .lss 126 129],bX 130 (.exit 6)],.block 7 (ae [ab [al 133 1 14,ak 134 133,aa 135 16,aO 136 1 134 135,ak 137 136,aa 17 137],ae [ab [aa 138 17,aG 139 .lss 138 0],ba 139 (ab [aa 140 8,aa 141 17,((some 142),.op (.arith .sub (.val (.val (.int .i64 (-1)))) (.tmp 141))),aO 143 1 140 142,ak 144 143,((some 145),.op (.arith .sub (.val (.val (.int .i64 (-1)))) (.tmp 144))),aa 17 145])],ab [al 146 1 15,ak 147 146,aa 148 17,((some 149),.op (.bP 1 1 [(.val (.int .i64 0))] [(0,(.tmp 148))])),fk 150 1 8 147 149,al 151 1 15,cg 1 151 150]]),ab [aa 131 16,aG 132 .add 131 1,aa 16 132]]
def ma:SC :=
 ae [ae [ab [aa 104 13,aa 105 10,aM 106 105,aR 107 .lss 104 106],bX 107 (.exit 4)],.block 5 (ae [ab [al 110 2 1,ak 111 110,aa 112 10,aa 113 13,aO 114 1 112 113,ak 115 114,aO 116 3 111 115,aS 117 3 116,((some 14),.op (.alloc [(.val (.int .i64 0)),(.emp 1),(.val (.int .i64 0))])),cg 3 14 117],ab [aa 118 8,al 119 0 14,ak 120 119,aO 121 1 118 120,ak 122 121,al 123 2 14,ak 124 123,((some 125),.op (.build [(.val (.int .i64 0)),(.emp 1),(.val (.int .i64 0))] [(0,1,(.tmp 122)),(2,1,(.tmp 124))])),((some 15),.op (.alloc [(.val (.int .i64 0)),(.emp 1),(.val (.int .i64 0))])),cg 3 15 125],ae [ab [aN 16 0],bY 6 lS],ab [al 152 2 7,ak 153 152,aS 154 3 15,((some 155),.op (.bP 1 3 [(.val (.int .i64 0)),(.emp 1),(.val (.int .i64 0))] [(0,(.tmp 154))])),fk 156 3 40 153 155,al 157 2 7,cg 1 157 156]]),ab [aa 108 13,aG 109 .add 108 1,aa 13 109]]
def nX:SF:=⟨ae [ab [cw 1 0,((some 2),.op (.alloc [(.emp 1),(.emp 1),(.emp 1),(.val (.int .i64 0))])),bI 3 1,aN 4 0],ae [ab [aS 18 4 1,aX 19 50 [18],c7 20 19],ba 20 (ae [ab [((some 21),.op (.build [(.emp 1),(.emp 1),(.emp 1),(.val (.int .i64 0))] [])),cg 4 2 21,bI 3 1,aN 4 1],.ret])],.region true [⟨none,[aS 22 4 1,aX 23 93 [22],aS 24 4 1,aX 25 94 [24],aa 5 23,aa 6 25]⟩],ae [ab [aa 26 5,al 27 3 1,ak 28 27,aO 29 1 26 28,ak 30 29,c7 31 30],ba 31 (ae [ab [((some 32),.op (.build [(.emp 1),(.emp 1),(.emp 1),(.val (.int .i64 0))] [])),cg 4 2 32,bI 3 1,aN 4 9],.ret])],ab [bI 33 2,al 34 0 1,ak 35 34,fk 36 3 32 33 35,((some 37),.op (.build [(.emp 1),(.emp 1),(.emp 1),(.val (.int .i64 0))] [(0,1,(.tmp 36))])),((some 7),.op (.alloc [(.emp 1),(.emp 1),(.emp 1),(.val (.int .i64 0))])),cg 4 7 37],ab [al 38 1 1,ak 39 38,aM 40 39,((some 41),.op (.make 1 8 [(.val (.int .i64 0))] (.tmp 40) (.tmp 40))),aa 8 41],ae [ab [aN 9 0],bY 0 l0],ab [bI 10 1],ae [ab [aN 11 0],bY 2 mf],ae [ab [aN 13 0],bY 4 ma],ab [aa 158 8,al 159 3 1,ak 160 159,aO 161 1 158 160,ak 162 161,al 163 3 7,cg 1 163 162],ab [aS 164 4 7,aa 165 10,cg 4 2 164,aa 3 165,aN 4 0],.ret],
 [.cell 2 (some 4),.tmp 3,.tmp 4],166⟩
theorem sQ:aH Tryz.prog 47 [1]=some nX:=by kernel_rfl
abbrev bt (l:List Int):List (List V):=l.map λx=>[gi x]
abbrev iw (l:List ByteArray):List (List V):=l.map λs=>[gs s]
theorem kG {l:List Int} {i:Nat} (h:i < l.length):(bt l).getD i []=[gi l[i]]:=by simp[Uu,h]
theorem ints_set (l:List Int) (i:Nat) (x:Int):(bt l).set i [gi x]=bt (l.set i x):=by simp[List.map_set]
theorem Ri {l:List Int} (h:0 < l.length):bt l≠[]:=by intro e;rw[List.map_eq_nil_iff] at e;rw[e] at h;simp at h
theorem xy {α:Type} {x:α} : ∀ {l:List α} {i:Nat},i < l.length->(l.set i x).take (i+1)=l.take i ++ [x]
 | y :: l,0,_=>by simp
 | y :: l,i+1,h=>by
  have:=xy (x:=x) (l:=l) (i:=i) (by simpa using h)
  simp only[List.set_cons_succ,List.take_succ_cons,this,Va]
def fp (n:Nat) (o:List Int):List Int:=(List.range n).map λ(x:Nat)=>cW o (x:Int)
theorem RC (n:Nat):fp n []=List.replicate n (-1):=by
 apply List.ext_getElem
 .simp[fp]
 .intro i h1 a
  simp[fp,cW,dy]
theorem zn {n:Nat} {o:List Int} {x:Int} (a:0<=x) (h1:x < n):(fp n o)[x.toNat]'(by simp[fp];omega)=cW o x:=by
 simp[fp,show ((x.toNat:Nat):Int)=x by omega]
theorem QY {n:Nat} {o:List Int} {x:Int} (b:0<=x) (h1:x < n) (a:x ∉ o):(fp n o).set x.toNat o.length=fp n (o ++ [x]):=by
 apply List.ext_getElem
 .simp[fp]
 .intro i c d
  rw[List.getElem_set]
  simp only[fp,List.getElem_map,List.getElem_range]
  rw[OF a]
  by_cases e:x.toNat=i
  .rw[Uz e,Uz (by omega)]
  .rw[Ux e,Ux (by omega)]
abbrev sV:=List (V × bb)
def eV (b:sV):List (List V):=b.map λx=>[gi x.2.left,x.1,gi x.2.prec]
def ig (b:sV):List dN:=b.map λx=>(x.1,1,bt x.2.right)
theorem DK {h:aC} {u:V} {b:sV} (c:aK h.view u 3 (eV b)) (f:∀ x∈ig b,aK h.view x.1 x.2.1 x.2.2):dz h u (.aQ ((b.map (·.2)).map aI)):=by
 refine dz.own c (by simp[eV]) (λi hi=>?_) (λi j hi a=>?_)
 all_goals
  simp only[eV,UB] at hi
  have e:(eV b).getD i []=[gi b[i].2.left,b[i].1,gi b[i].2.prec]:=by simp[eV,Uu,hi]
  have d:((b.map (·.2)).map aI).getD i []=aI b[i].2:=by simp[Uu,hi]
 .rw[e,d];rfl
 .rw[e,d]
  rw[d] at a
  have hm:b[i]∈b:=UC _
  have c:=f (b[i].1,1,bt b[i].2.right) (U0.2 ⟨_,hm,rfl⟩)
  match j,a with
  | 0,_=>exact .val _
  | 1,_=>exact jf c
  | 2,_=>exact .val _
  | n+3,a=>exact absurd a (by simp only[aI,UE,UU];omega)
theorem GU {h:aC} {u:V} {l:List ByteArray} (a:aK h.view u 1 (iw l)):dz h u (encS l):=dz.KS (f:=Value.string) a
theorem Ex {h:aC} {u:V} {l:List Term} (b:aK h.view u 3 (l.map cP)):dz h u (eJ l):=by
 refine dz.own b rfl (λ_ _=>rfl) (λi j hi a=>?_)
 simp only[UB] at hi
 have c:(l.map cP).getD i []=cP l[i]:=by simp[Uu,hi]
 rw[c] at a ⊢
 match j,a with
 | 0,_=>exact .val _
 | 1,_=>exact .val _
 | 2,_=>exact .val _
 | n+3,a=>exact absurd a (by simp only[cP,UE,UU];omega)
def vY (x:ag × List Int × Int):V:=.aY [.agg (af x.1),encI x.2.1,gi x.2.2]
theorem wc {h:aC} {e:Int} {b k2 c d:Nat} : dz h (.aY [.agg [.emp b,.emp k2,.emp c,gi 0],.emp d,gi e]) (vY (rl,[],e)):=by
 refine .aY _ _ rfl λi hi=>?_
 match i,hi with
 | 0,_ =>
  refine .agg _ _ rfl λj a=>?_
  match j,a with
  | 0,_=>exact .emp _
  | 1,_=>exact .emp _
  | 2,_=>exact .emp _
  | 3,_=>exact .val _
  | n+4,a=>exact absurd a (by simp only[UE,UU];omega)
 | 1,_=>exact .emp _
 | 2,_=>exact .val _
 | n+3,hi=>exact absurd hi (by simp only[UE,UU];omega)
def RN (g:ag) (p q:List Bool) (b2 b7 b8:Nat) (u0:V) (i:Nat) (T:Env) (H:View):Prop :=
 (∃ u1 u3:V,T 10=u3/\(∀ x∈cy p q (g.rules.take i),0<=x/\x < g.aj.length)/\(cy p q (g.rules.take i)).Nodup/\(cy p q (g.rules.take i)).length<=i /\
  bc H [(.sl b7 0 1 4,4,[[u0,u1,.emp 1,gi 0]]),(.sl b8 0 g.aj.length 1,1,bt (fp g.aj.length (cy p q (g.rules.take i)))),(u3,1,bt (c5 p q (g.rules.take i) 0)),
   (u1,1,iw ((cy p q (g.rules.take i)).map λx=>g.aj.getD x.toNat ⟨#[]⟩)),(u0,3,g.au.map cP),(.sl b2 0 1 4,4,[[.emp 1,.emp 1,.emp 1,gi 0]])]) /\
 T 1=.aJ (af g) 0/\T 2=.ptr b2 0 0/\T 5=cD p/\T 6=cD q/\T 7=.ptr b7 0 0/\T 8=.sl b8 0 g.aj.length 1/\T 11=gi i
def TZ (g:ag) (p q:List Bool) (b2 b7 b8:Nat) (u0 u1 u3:V) (o kl:List Int) (i:Nat) (T:Env) (H:View):Prop :=
 (∃ (u2:V) (bs:sV),bs.map (·.2)=((g.rules.filter (c6 p q)).take i).map (cp (cW o)) /\
  bc H ((.sl b7 0 1 4,4,[[u0,u1,u2,gi 0]]) :: (.sl b8 0 g.aj.length 1,1,bt (fp g.aj.length o)) :: (u3,1,bt kl) ::
   (u1,1,iw (o.map λx=>g.aj.getD x.toNat ⟨#[]⟩)) :: (u0,3,g.au.map cP) :: (u2,3,eV bs) :: (.sl b2 0 1 4,4,[[.emp 1,.emp 1,.emp 1,gi 0]]) :: ig bs)) /\
 T 1=.aJ (af g) 0/\T 2=.ptr b2 0 0/\T 7=.ptr b7 0 0/\T 8=.sl b8 0 g.aj.length 1/\T 10=u3/\T 13=gi i
def TP (g:ag) (b2 b7 b8 b14 b15:Nat) (u3:V) (o:List Int) (r:bb) (L:List dN) (i k:Nat) (T:Env) (H:View):Prop :=
 (∃ v:V,bc H ((.sl b15 0 1 3,3,[[gi (cW o r.left),v,gi r.prec]]) :: (v,1,bt ((cp (cW o) r).right.take k)) :: (.sl b14 0 1 3,3,[aI r]) :: L)) /\
 T 1=.aJ (af g) 0/\T 2=.ptr b2 0 0/\T 7=.ptr b7 0 0/\T 8=.sl b8 0 g.aj.length 1/\T 10=u3/\T 13=gi i/\T 14=.ptr b14 0 0/\T 15=.ptr b15 0 0/\T 16=gi k
theorem IM {h:aC} {c d e f:V} {x:ag × List Int × Int} {b:sV} (g:aK h.view c 3 (x.1.au.map cP)) (h1:aK h.view d 1 (iw x.1.aj)) (k:aK h.view e 3 (eV b)) (l:∀ y∈ig b,aK h.view y.1 y.2.1 y.2.2)
  (hr:b.map (·.2)=x.1.rules) (m:aK h.view f 1 (bt x.2.1)):dz h (.aY [.agg [c,d,e,gi x.1.start],f,gi x.2.2]) (vY x):=by
 refine .aY _ _ rfl λi hi=>?_
 match i,hi with
 | 0,_ =>
  refine .agg _ _ rfl λj a=>?_
  match j,a with
  | 0,_=>exact Ex g
  | 1,_=>exact GU h1
  | 2,_=>have:=DK k l;rw[hr] at this;exact this
  | 3,_=>exact .val _
  | n+4,a=>exact absurd a (by simp only[UE,UU];omega)
 | 1,_=>exact jf m
 | 2,_=>exact .val _
 | n+3,hi=>exact absurd hi (by simp only[UE,UU];omega)
theorem Il (g:ag) (hg:g.Ok):b6 Tryz.prog 47 [.agg (af g)] (vY (gP g)):=by
 refine b6.of (dO g) ?_
 refine av.of mixed sQ ?_
 simp(disch:=omega)only[↓wr,seval,wq,nX,af,encS]
 intro M
 try simp(disch:=omega)only[↓wr,seval,wq,af,encS]
 refine aw.pure (lB g hg) ?_
 repeat' (first | ((first|apply ai.dec|apply ai.eq|apply ai.ne|apply ai.split)<;>intro)|(simp(disch:=omega)only[↓wr,seval,wq,af,encS,set_set]))
 .rename_i hr
  refine aw.pure (te g hg) ?_
  simp(disch:=omega)only[↓wr,seval,wq,af,encS]
  refine aw.pure (CF g hg).pure ?_
  have hf:=b4 hr
  have h3:=hf.oh
  have h4:=hf.start
  have ds:=mc hr true
  have gd:=pU hr
  have c:=Fx hr
  generalize bD g true=p at ds c
  generalize cr g=q at gd c
  have cj:p[g.start.toNat]?=some (p[g.start.toNat]'(by omega)):=Uv (by omega)
  have dv:p.getD g.start.toNat false=p[g.start.toNat]'(by omega):=by simp[Uu,cj]
  generalize p[g.start.toNat]'(by omega)=s at cj dv
  rw[dv] at c
  simp(disch:=omega)only[↓wr,seval,wq,af,encS,cD,Uy,cj]
  cases s with
  | false =>
   rw[Ux (by simp)] at c
   simp(disch:=omega)only[↓wr,seval,wq,af,encS,set_set]
   rintro h' hh
   rw[c]
   exact wc
  | true =>
   rw[Uz rfl] at c
   simp(disch:=omega)only[↓wr,seval,wq,af,encS,set_set]
   have hN:=hf.aj
   have hS:=hf.lp
   have hT:=hf.au
   have hR:=hf.rules
   refine cx (L:=[(.sl M 0 1 4,4,[[.emp 1,.emp 1,.emp 1,gi 0]])]) (bc.emp (bc.nil.new rfl 4 _)) (by simp[cP,aF]) (by unfold aB;simp;omega) (by unfold aB;simp;omega) ?_
   intro C H1 ck _
   have c0:=ck.head.cells
   have k0:=ck.head.er
   simp(disch:=omega)only[↓wr,seval,wq,af,encS,c0,k0]
   intro P gk
   have gl:=ck.new gk 4 [[C,.emp 1,.emp 1,gi 0]]
   try simp(disch:=omega)only[↓wr,seval,wq,af,encS,c0,k0,set_set]
   refine⟨⟨by omega,by unfold aB;omega,by unfold aB;omega⟩,λh=>by omega,?_⟩
   intro _ B ea
   have eb:=(bU ea bR).1
   have j:=gl.new (n:=B) (by simp only[View.set,Ux eb];exact(bU (bU ea bR).2 bR).2) 1 (bt (List.replicate g.aj.length 0))
   try simp(disch:=omega)only[↓wr,seval,wq,af,encS,c0,k0,set_set]
   refine aV.up g.aj.length (λi T H=>(∃ l:List Int,l.length=g.aj.length/\l.take i=List.replicate i (-1) /\
    bc H [(.sl B 0 g.aj.length 1,1,bt l),(.sl P 0 1 4,4,[[C,.emp 1,.emp 1,gi 0]]),(C,3,g.au.map cP),(.sl M 0 1 4,4,[[.emp 1,.emp 1,.emp 1,gi 0]])]) /\
    T 1=.aJ (af g) 0/\T 2=.ptr M 0 0/\T 5=cD p/\T 6=cD q/\T 7=.ptr P 0 0/\T 8=.sl B 0 g.aj.length 1/\T 9=gi i) ?_ ?_
   .exact⟨⟨List.replicate g.aj.length 0,by simp,by simp,by simpa [set_set] using j⟩,rfl,rfl,rfl,rfl,rfl,rfl,rfl⟩
   rintro i k T H2 hk ⟨⟨l,G,t,f⟩,t1,t2,t5,t6,t7,t8,t9⟩
   simp(disch:=omega)only[↓wr,seval,wq,l0,t1,t2,t5,t6,t7,t8,t9]
   apply ai.dec<;>intro hc
   .have gr:bt l≠[]:=by intro e;rw[List.map_eq_nil_iff] at e;rw[e] at G;simp at G;omega
    have hb:=(f.obj gr).1
    have u:=kG (show i < l.length by omega)
    simp(disch:=omega)only[↓wr,seval,wq,t1,t2,t5,t6,t7,t8,t9,hb,u,UB]
    refine⟨by omega,by omega,?_⟩
    refine aD hk (by omega) ⟨⟨l.set i (-1),by simp[G],?_,?_⟩,t1,t2,t5,t6,t7,t8,rfl⟩
    .rw[xy (by omega),t,List.replicate_succ']
    .rw[ints_set]
     exact f.put (by simp) (by simp[G])
   .rw[UK (by omega)] at t
    rw[t] at f
    have ei:i=g.aj.length:=by omega
    subst ei
    simp(disch:=omega)only[↓wr,seval,wq,t1,t2,t5,t6,t7,t8,t9]
    have name_in:∀ o:List Int,(o.map λx=>g.aj.getD x.toNat ⟨#[]⟩).length=o.length:=λo=>by simp
    refine aV.up g.rules.length (RN g p q M P B C) ?_ ?_
    .refine⟨⟨.emp 1,.emp 1,rfl,by simp[cy],by simp[cy],by simp[cy],?_⟩,t1,t2,t5,t6,t7,t8,rfl⟩
     have h4:=((((f.emp (k:=1) (sz:=1)).emp (k:=1) (sz:=1)).at 3 (by simp)).perm (FZ.symm.cons _))
     have e0:cy p q (g.rules.take 0)=[]:=rfl
     rw[e0,RC]
     exact h4
    clear f t1 t2 t5 t6 t7 t8 t9 G t
    rintro i k T H2 hk ⟨⟨J,u3,t10,ar,bd,cA,f⟩,t1,t2,t5,t6,t7,t8,t11⟩
    simp(disch:=omega)only[↓wr,seval,wq,mf,t1,t2,t5,t6,t7,t8,t10,t11,af]
    apply ai.dec<;>intro hc
    .have I:g.rules[i]?=some (g.rules[i]'(by omega)):=Uv (by omega)
     have z:g.rules[i]'(by omega)∈g.rules:=UC _
     have D:g.rules.take (i+1)=g.rules.take i ++ [g.rules[i]'(by omega)]:=by rw[UW,I];rfl
     generalize g.rules[i]'(by omega)=r at I z D
     obtain⟨G,t,Q,ha,bl⟩:=hf.qT hg z
     have cC:q[r.left.toNat]?=some (q[r.left.toNat]'(by omega)):=Uv (by omega)
     have bn:q.getD r.left.toNat false=q[r.left.toNat]'(by omega):=by simp[Uu,cC]
     generalize q[r.left.toNat]'(by omega)=qs at cC bn
     simp(disch:=omega)only[↓wr,seval,wq,t1,t2,t5,t6,t7,t8,t10,t11,af,aI,Uy,I]
     intro ee eg
     have A:=f.new eg 3 [aI r]
     try simp(disch:=omega)only[↓wr,seval,wq,t1,t2,t5,t6,t7,t8,t10,t11,aI,encI,cD,Uy,cC,set_set]
     have R:∀ (T2:Env) (H':View),c6 p q r=false->H'=H2.set ee (.arr 3 [aI r])->T2 10=u3->T2 1=.aJ (af g) 0->T2 2=.ptr M 0 0->T2 5=cD p->T2 6=cD q->T2 7=.ptr P 0 0->T2 8=.sl B 0 g.aj.length 1->T2 11=gi ((i:Int)+1) ->
       ∃ k',k' < k/\D3 g.rules.length k' (RN g p q M P B C) T2 H':=by
      intro T2 H' S hd hj a1 a2 a5 a6 a7 a8 hl
      have N:cy p q (g.rules.take (i+1))=cy p q (g.rules.take i):=by rw[D,tz,Ux (by simp[S])]
      have e2:c5 p q (g.rules.take (i+1)) 0=c5 p q (g.rules.take i) 0:=by rw[D,kA];simp[c5,S]
      refine aD hk (by omega) ⟨⟨J,u3,hj,by rw[N];exact ar,by rw[N];exact bd,by rw[N];omega,by rw[N,e2,hd];exact A.tail⟩,a1,a2,a5,a6,a7,a8,by rw[hl];rfl⟩
     cases qs with
     | false =>
      simp(disch:=omega)only[↓wr,seval,wq,t1,t2,t5,t6,t7,t8,t10,t11]
      refine R _ _ (by rw[c6,bn];rfl) ?_ ?_ ?_ ?_ ?_ ?_ ?_ ?_ ?_
      all_goals first | exact t10 | exact t1 | exact t2 | exact t5 | exact t6 | exact t7 | exact t8 | rfl | (rw[set_set];rfl)
     | true =>
      simp(disch:=omega)only[↓wr,seval,wq,t1,t2,t5,t6,t7,t8,t10,t11,aI,encI,cD]
      refine aw.pure (FL r.right p true (hg.ax r z).2.2.1 (λs hs=>⟨(bl s hs).1,λh=>by rw[ds];exact(bl s hs).2 h⟩)) ?_
      simp(disch:=omega)only[↓wr,seval,wq,t1,t2,t5,t6,t7,t8,t10,t11]
      apply ai.split<;>intro cN
      .simp(disch:=omega)only[↓wr,seval,wq,t1,t2,t5,t6,t7,t8,t10,t11]
       have S:c6 p q r=true:=by rw[c6,bn,cN];rfl
       intro m hm
       try simp(disch:=omega)only[↓wr,seval,wq,t1,t2,t5,t6,t7,t8,t10,t11,bH]
       have ek:=(bU hm bR).1
       have hm:=(bU (bU hm bR).2 bR).2
       have d:=(A.fresh (n:=m) (o:=.arr 1 [[gi i]]) (by simp only[View.set,Ux ek];exact hm)).at 3 (by simp)
       have eH:(c5 p q (g.rules.take i) 0).length<=40:=by
        rw[kM]
        have h1:=VU (c6 p q) (g.rules.take i)
        have h2:(g.rules.take i).length<=i:=List.length_take_le _ _
        have:=hf.rules
        omega
       refine cx (by rw[set_set];exact d) (by simp[aF]) (by unfold aB;simp at eH ⊢;omega) (by unfold aB;simp at eH ⊢;omega) ?_
       intro e4 H3 j _
       have f12:=((j.at 1 (by simp)).obj (by simp)).1
       have f7:=((j.at 2 (by simp)).obj (by simp)).1
       have f8:=((j.at 3 (by simp)).obj (Ri (by simp[fp];omega))).1
       have cS:cd J=some (iw ((cy p q (g.rules.take i)).map λx=>g.aj.getD x.toNat ⟨#[]⟩)).length:=(j.at 4 (by simp)).head.len
       have u:=kG (l:=fp g.aj.length (cy p q (g.rules.take i))) (i:=r.left.toNat) (by simp[fp];omega)
       rw[zn t Q] at u
       simp only[aI,encI] at f12
       simp(disch:=omega)only[↓wr,seval,wq,t1,t2,t5,t6,t7,t8,t11,f12,f7,f8,u]
       refine⟨by omega,by simp[fp];omega,?_⟩
       have e2:c5 p q (g.rules.take (i+1)) 0=c5 p q (g.rules.take i) 0 ++ [(i:Int)]:=by
        rw[D,kA];simp[c5,S,show i<=g.rules.length by omega]
       have N:cy p q (g.rules.take (i+1))=kS (cy p q (g.rules.take i)) r:=by rw[D,tz,Uz S]
       generalize cy p q (g.rules.take i)=o at *
       generalize c5 p q (g.rules.take i) 0=kl at *
       apply ai.dec<;>intro e5
       .have hx:r.left ∉ o:=sC.1 e5
        have E:kS o r=o ++ [r.left]:=by rw[kS,Ux hx]
        have U:P≠B:=j.J3 2 3 rfl rfl (by omega)
        have W:ee≠B:=j.J3 1 3 rfl rfl (by omega)
        have cV:g.aj[r.left.toNat]?=some (g.aj[r.left.toNat]'(by omega)):=Uv (by omega)
        have b1:g.aj.getD r.left.toNat ⟨#[]⟩=g.aj[r.left.toNat]'(by omega):=by simp[Uu,cV]
        generalize g.aj[r.left.toNat]'(by omega)=nm at cV b1
        simp(disch:=omega)only[↓wr,seval,wq,t1,t2,t5,t6,t7,t8,t11,f12,f7,f8,u,cS,UB]
        try refine⟨by omega,by simp[fp];omega,?_⟩
        try simp(disch:=omega)only[↓wr,seval,wq,t1,t2,t5,t6,t7,t8,t11,f12,f7,f8,u,cS,UB,U,W,af,encS,Uy,cV]
        intro m2 O
        have e6:=(bU O bR).1
        have O:=(bU O bR).2
        have hn:(bt (fp g.aj.length o)).set r.left.toNat [gi o.length]=bt (fp g.aj.length (o ++ [r.left])):=by rw[ints_set,QY t Q hx]
        have c3:=(j.at 3 (by simp)).put (es':=(bt (fp g.aj.length o)).set r.left.toNat [gi o.length]) (by simp) (by simp[fp])
        have hq:=(c3.fresh (n:=m2) (o:=.arr 1 [[gs nm]]) (by simp only[View.set,Ux e6];exact O)).at 4 (by simp)
        have hM:o.length<=40:=by omega
        try simp(disch:=omega)only[↓wr,seval,wq,t1,t2,t5,t6,t7,t8,t11,f12,f7,f8,u,cS,UB,U,W,bH]
        refine cx hq (by simp[aF]) (by unfold aB;simp;omega) (by unfold aB;simp;omega) ?_
        intro e7 H5 br _
        have c1:=br.head.cells
        have k1:=br.head.er
        have c4:=((br.at 4 (by simp)).obj (by simp)).1
        simp(disch:=omega)only[↓wr,seval,wq,t1,t2,t5,t6,t7,t8,t11,c4,c1,k1]
        have ht:=(br.at 4 (by simp)).put (es':=[[C,e7,.emp 1,gi 0]]) rfl rfl
        have hz:=(((ht.at 4 (by simp)).tail).perm (FZ.cons _))
        refine aD hk (by omega) ⟨⟨e7,e4,rfl,?_,?_,?_,?_⟩,t1,t2,t5,t6,t7,t8,rfl⟩
        .rw[N,E];intro x hA;rcases UR.1 hA with h | h
         .exact ar x h
         .simp at h;subst h;exact⟨t,Q⟩
        .rw[N];exact KC bd
        .rw[N,E];simp;omega
        .rw[N,E,e2]
         have:=hz
         rw[hn] at this
         simp only[UT,U2,VS,b1]
         exact this
       .have hx:r.left∈o:=by
         refine VH λh=>?_
         have:=sC.2 h
         omega
        have E:kS o r=o:=by rw[kS,Uz hx]
        simp(disch:=omega)only[↓wr,seval,wq,t1,t2,t5,t6,t7,t8,t11]
        have c3:=(((j.at 1 (by simp)).tail).perm FZ)
        refine aD hk (by omega) ⟨⟨J,e4,rfl,?_,?_,?_,?_⟩,t1,t2,t5,t6,t7,t8,rfl⟩
        .rw[N,E];exact ar
        .rw[N,E];exact bd
        .rw[N,E];omega
        .rw[N,E,e2]
         simp only[UT,U2,VS]
         exact c3
      .simp(disch:=omega)only[↓wr,seval,wq,t1,t2,t5,t6,t7,t8,t10,t11]
       refine R _ _ (by rw[c6,bn,cN];rfl) ?_ ?_ ?_ ?_ ?_ ?_ ?_ ?_ ?_
       all_goals first | exact t10 | exact t1 | exact t2 | exact t5 | exact t6 | exact t7 | exact t8 | rfl | (rw[set_set];rfl)
    .rw[UK (by omega)] at f ar bd cA
     have hB:(c5 p q g.rules 0).length<=40:=by
      rw[kM];have h1:=VU (c6 p q) g.rules;omega
     have hC:=tD p q g.rules 0
     have hP:=kM p q g.rules 0
     have da:g.start.toNat < (fp g.aj.length (cy p q g.rules)).length:=by simp[fp];omega
     have b9:=kG da
     rw[zn h3 h4] at b9
     have e8:vR g (cW (cy p q g.rules)) p q=⟨g.au,(cy p q g.rules).map λx=>g.aj.getD x.toNat ⟨#[]⟩,(g.rules.filter (c6 p q)).map (cp (cW (cy p q g.rules))),cW (cy p q g.rules) g.start⟩:=rfl
     rw[e8] at c
     clear e8
     generalize cy p q g.rules=o at *
     generalize c5 p q g.rules 0=kl at *
     simp(disch:=omega)only[↓wr,seval,wq,t1,t2,t5,t6,t7,t8,t10,t11]
     refine aV.up kl.length (TZ g p q M P B C J u3 o kl) ?_ ?_
     .refine⟨⟨.emp 1,[],by simp,?_⟩,t1,t2,t7,t8,t10,rfl⟩
      exact(f.emp (k:=1) (sz:=3)).perm (rU [(.sl P 0 1 4,4,[[C,J,.emp 1,gi 0]]),(.sl B 0 g.aj.length 1,1,bt (fp g.aj.length o)),(u3,1,bt kl),(J,1,iw (o.map λx=>g.aj.getD x.toNat ⟨#[]⟩)),(C,3,g.au.map cP),(.emp 1,3,[]),(.sl M 0 1 4,4,[[.emp 1,.emp 1,.emp 1,gi 0]])] 5 (by simp)).symm
     clear f t1 t2 t5 t6 t7 t8 t10 t11
     rintro i k T H2 hk ⟨⟨u2,bs,bx,f⟩,t1,t2,t7,t8,t10,t13⟩
     have hE:cd u3=some (bt kl).length:=(f.own 2 rfl).len
     simp(disch:=omega)only[↓wr,seval,wq,ma,t1,t2,t7,t8,t10,t13,hE,UB]
     apply ai.dec<;>intro hc
     .obtain⟨n3,e3,hF⟩:=(f.own 2 rfl).sl (by simp;omega)
      rw[UB] at e3
      subst e3
      obtain⟨m,db,O,X⟩:=hC i (by omega)
      have u:=kG (show i < kl.length by omega)
      rw[Int.zero_add] at db
      have hG:kl[i]'(by omega)=(m:Int):=by
       rw[Uv (show i < kl.length by omega)] at db;simpa using db
      rw[hG] at u
      have I:g.rules[m]?=some (g.rules[m]'X):=Uv X
      have z:g.rules[m]'X∈g.rules:=UC _
      have D:(g.rules.filter (c6 p q)).take (i+1)=(g.rules.filter (c6 p q)).take i ++ [g.rules[m]'X]:=by
       rw[UW,<-O,I];rfl
      generalize g.rules[m]'X=r at I z D
      obtain⟨G,t,Q,ha,bl⟩:=hf.qT hg z
      simp(disch:=omega)only[↓wr,seval,wq,t1,t2,t7,t8,t10,t13,hF,u,UB,af,aI,Uy,I]
      refine⟨by omega,by omega,?_⟩
      intro e9 cc
      have A:=f.new cc 3 [aI r]
      have f8:=A.is 2 rfl (by simp[fp];omega)
      have cf:=kG (l:=fp g.aj.length o) (i:=r.left.toNat) (by simp[fp];omega)
      rw[zn t Q] at cf
      have dj:B≠e9:=A.J3 2 0 rfl rfl (by omega)
      have g8:H2 B=.arr 1 (bt (fp g.aj.length o)):=f.is 1 rfl (by simp[fp];omega)
      try simp(disch:=omega)only[↓wr,seval,wq,t1,t2,t7,t8,t10,t13,g8,dj,cf,UB,set_set,encI]
      refine⟨by omega,by simp[fp];omega,?_⟩
      intro fb F
      have ff:=(bU F bR).1
      have F:=(bU (bU F bR).2 bR).2
      have d:=(((A.new (n:=fb) (by simp only[View.set,Ux ff];exact F) 3 [[gi (cW o r.left),.emp 1,gi r.prec]]).emp (k:=1) (sz:=1)).perm (.swap _ _ _))
      generalize hL:((V.sl P 0 1 4,4,[[C,J,u2,gi 0]]) :: (V.sl B 0 g.aj.length 1,1,bt (fp g.aj.length o)) :: (V.sl n3 0 kl.length 1,1,bt kl) ::
       (J,1,iw (o.map λx=>g.aj.getD x.toNat ⟨#[]⟩)) :: (C,3,g.au.map cP) :: (u2,3,eV bs) :: (V.sl M 0 1 4,4,[[V.emp 1,V.emp 1,V.emp 1,gi 0]]) :: ig bs:List dN)=L at d
      have hI:L[1]?=some (.sl B 0 g.aj.length 1,1,bt (fp g.aj.length o)):=by rw[<-hL];rfl
      try simp(disch:=omega)only[↓wr,seval,wq,t1,t2,t7,t8,t10,t13,set_set]
      refine aV.up r.right.length (TP g M P B e9 fb (.sl n3 0 kl.length 1) o r L i) ?_ ?_
      .exact⟨⟨.emp 1,by rw[set_set,set_set];exact d⟩,t1,t2,t7,t8,t10,t13,rfl,rfl,rfl⟩
      clear A d f8 g8 cc F t1 t2 t7 t8 t10 t13
      rintro k k2 T H3 fl ⟨⟨v,w⟩,t1,t2,t7,t8,t10,t13,t14,t15,t16⟩
      have f14:=w.is 2 rfl (by simp)
      have f15:=w.is 0 rfl (by simp)
      have f8:H3 B=.arr 1 (bt (fp g.aj.length o)):=w.is 4 (by simpa using hI) (by simp[fp];omega)
      simp only[aI] at f14
      simp(disch:=omega)only[↓wr,seval,wq,lS,t1,t2,t7,t8,t10,t13,t14,t15,t16,f14,encI]
      apply ai.dec<;>intro hJ
      .have dm:r.right[k]?=some (r.right[k]'(by omega)):=Uv (by omega)
       have fm:r.right[k]'(by omega)∈r.right:=UC _
       have Y:(cp (cW o) r).right.take (k+1)=(cp (cW o) r).right.take k ++ [if r.right[k]'(by omega) < 0 then -1 - cW o (-1 - r.right[k]'(by omega)) else r.right[k]'(by omega)]:=by
        rw[UW];simp[cp,dm]
       have b0:((cp (cW o) r).right.take k).length<=6:=by
        have h1:(cp (cW o) r).right.length=r.right.length:=by simp[cp]
        have h2:((cp (cW o) r).right.take k).length<=(cp (cW o) r).right.length:=by rw[Vj];omega
        omega
       generalize r.right[k]'(by omega)=s at dm fm Y
       obtain⟨⟨s1,s2⟩,s3⟩:=bl s fm
       simp(disch:=omega)only[↓wr,seval,wq,t1,t2,t7,t8,t10,t13,t14,t15,t16,f14,encI,Uy,dm]
       have hV:=Rz o (-1 - s)
       have hW:o.length<=40:=by omega
       apply ai.dec<;>intro K
       .rw[Uz K] at Y
        have fs:=s3 K
        have ch:=kG (l:=fp g.aj.length o) (i:=(-1 - s).toNat) (by simp[fp];omega)
        rw[zn (by omega) fs] at ch
        simp(disch:=omega)only[↓wr,seval,wq,t1,t2,t7,t8,t10,t13,t14,t15,t16,f14,f15,f8,ch,UB]
        refine⟨by omega,by simp[fp];omega,?_⟩
        intro m hm
        try simp(disch:=omega)only[↓wr,seval,wq,t1,t2,t7,t8,t10,t13,t14,t15,t16,bH]
        have Z:=(w.fresh (o:=.arr 1 [[gi (-1 - cW o (-1 - s))]]) hm).at 1 (by simp)
        refine cx Z (by simp[aF]) (by unfold aB;simp at b0 ⊢;omega) (by unfold aB;simp at b0 ⊢;omega) ?_
        intro v' H4 a _
        have cv:=a.head.cells
        have kv:=a.head.er
        have an:=a.is 1 rfl (by simp)
        simp(disch:=omega)only[↓wr,seval,wq,t1,t2,t7,t8,t10,t13,t14,t15,t16,an,cv,kv]
        have aq:=(a.at 1 (by simp)).put (es':=[[gi (cW o r.left),v',gi r.prec]]) rfl rfl
        refine aD fl (by omega) ⟨⟨v',?_⟩,t1,t2,t7,t8,t10,t13,t14,t15,rfl⟩
        rw[Y]
        simp only[UT,U2,VS]
        exact aq
       .rw[Ux K] at Y
        simp(disch:=omega)only[↓wr,seval,wq,t1,t2,t7,t8,t10,t13,t14,t15,t16,f14,f15,f8]
        intro m hm
        try simp(disch:=omega)only[↓wr,seval,wq,t1,t2,t7,t8,t10,t13,t14,t15,t16,bH]
        have Z:=(w.fresh (o:=.arr 1 [[gi s]]) hm).at 1 (by simp)
        refine cx Z (by simp[aF]) (by unfold aB;simp at b0 ⊢;omega) (by unfold aB;simp at b0 ⊢;omega) ?_
        intro v' H4 a _
        have cv:=a.head.cells
        have kv:=a.head.er
        have an:=a.is 1 rfl (by simp)
        simp(disch:=omega)only[↓wr,seval,wq,t1,t2,t7,t8,t10,t13,t14,t15,t16,an,cv,kv]
        have aq:=(a.at 1 (by simp)).put (es':=[[gi (cW o r.left),v',gi r.prec]]) rfl rfl
        refine aD fl (by omega) ⟨⟨v',?_⟩,t1,t2,t7,t8,t10,t13,t14,t15,rfl⟩
        rw[Y]
        simp only[UT,U2,VS]
        exact aq
      .rw[UK (by simp[cp];omega)] at w
       subst hL
       have f7:=w.is 3 rfl (by simp)
       have cv:=(w.own 1 rfl).cells
       have kv:=(w.own 1 rfl).er
       have ft:(eV bs).length<=40:=by
        have h1:=congrArg List.length bx
        simp only[UB,Vj] at h1
        simp only[eV,UB]
        omega
       simp(disch:=omega)only[↓wr,seval,wq,t1,t2,t7,t8,t10,t13,t14,t15,t16,f7,f15,cv,kv]
       intro m hm
       try simp(disch:=omega)only[↓wr,seval,wq,t1,t2,t7,t8,t10,t13,t14,t15,t16,bH]
       have Z:=(w.fresh (o:=.arr 3 [[gi (cW o r.left),v,gi r.prec]]) hm).at 8 (by simp)
       refine cx Z (by simp[vg,kv]) (by unfold aB;simp at ft ⊢;omega) (by unfold aB;simp at ft ⊢;omega) ?_
       intro fx H4 a _
       have cu:=a.head.cells
       have ku:=a.head.er
       have c4:=a.is 4 rfl (by simp)
       simp(disch:=omega)only[↓wr,seval,wq,t1,t2,t7,t8,t10,t13,t14,t15,t16,c4,cu,ku]
       have aq:=(a.at 4 (by simp)).put (es':=[[C,J,fx,gi 0]]) rfl rfl
       have hK:=((((aq.at 2 (by simp)).tail).at 3 (by simp)).tail)
       refine aD hk (by omega) ⟨⟨fx,bs ++ [(v,cp (cW o) r)],?_,?_⟩,t1,t2,t7,t8,t10,rfl⟩
       .rw[UT,bx,D,UT];rfl
       .refine hK.perm (.cons _ ?_)
        simp only[ig,eV,UT,U2,VS]
        refine .trans ?_ (rU _ 4 (by simp)).symm
        refine .cons _ ?_
        exact(List.perm_append_singleton (v,1,bt (cp (cW o) r).right) ((.sl B 0 g.aj.length 1,1,bt (fp g.aj.length o)) :: (.sl n3 0 kl.length 1,1,bt kl) :: (J,1,iw (o.map λx=>g.aj.getD x.toNat ⟨#[]⟩)) :: (C,3,g.au.map cP) :: (.sl M 0 1 4,4,[[.emp 1,.emp 1,.emp 1,gi 0]]) :: ig bs)).symm
     .rw[UK (by omega)] at bx
      have f7:=f.is 0 rfl (by simp)
      have f8:H2 B=.arr 1 (bt (fp g.aj.length o)):=f.is 1 rfl (by simp[fp];omega)
      have f2:=f.is 6 rfl (by simp)
      have fz:P≠M:=f.J3 0 6 rfl rfl (by omega)
      have c1:=(f.own 3 rfl).cells
      have k1:=(f.own 3 rfl).er
      have c2:=(f.own 5 rfl).cells
      have k2:=(f.own 5 rfl).er
      simp(disch:=omega)only[↓wr,seval,wq,t1,t2,t7,t8,t10,t13,f7,f8,f2,fz,fz.symm,b9,c0,k0,c1,k1,c2,k2,af,UB]
      refine⟨by omega,by simp[fp];omega,λh' hh=>?_⟩
      have A:=f.put (es':=[[C,J,u2,gi (cW o g.start)]]) rfl rfl
      have d:=(A.at 6 (by simp)).put (es':=[[C,J,u2,gi (cW o g.start)]]) rfl rfl
      have hv:h'.view=(H2.set P (.arr 4 [[C,J,u2,gi (cW o g.start)]])).set M (.arr 4 [[C,J,u2,gi (cW o g.start)]]):=hh
      rw[<-hv] at d
      rw[c]
      exact IM (x:=(⟨g.au,o.map λx=>g.aj.getD x.toNat ⟨#[]⟩,(g.rules.filter (c6 p q)).map (cp (cW o)),cW o g.start⟩,kl,0)) (b:=bs) (d.own 5 rfl) (d.own 4 rfl) (d.own 6 rfl) (λy hy=>d.1 y (by
       refine UP _ (UP _ (UP _ (UP _ (UP _ (UP _ (UP _ ?_))))))
       exact hy)) bx (d.own 3 rfl)
 .rename_i hr
  intro h' hh
  rw[gP,Ux (by simp[hr])]
  exact wc
theorem Ip {g:ag} (e:kF g=false):g.Small:=by
 simp only[kF,Bool.or_eq_false_iff,Vz] at e
 exact⟨by omega⟩
theorem O9 (g:ag):az Tryz.prog 14 [.agg (af g)] (gb (kF g)):=az.val (dO g) λH=>(PO g H).mono λ_ _ h=>h.1
theorem xH {a b:V} (c:Tree a) (d:Tree b):Tree (.aY [a,b]):=.aY _ λi hi=>by
 match i,hi with
 | 0,_=>exact c
 | 1,_=>exact d
 | n+2,h=>exact absurd h (by simp)
theorem FA {h:aC} {a b c d:V} (e:dz h a c) (f:dz h b d):dz h (.aY [a,b]) (.aY [c,d]):=.aY _ _ rfl λi hi=>by
 match i,hi with
 | 0,_=>exact e
 | 1,_=>exact f
 | n+2,h=>exact absurd h (by simp)
theorem AS {H:View} {id n:Nat} {l:List Int} (a:H id=.arr 1 (bt l)) (b:n=l.length):cm H (.sl id 0 n 1) (encI l):=by
 subst b
 exact cm.own (sz:=1) (.inr ⟨id,by simp,a⟩) λe he v a=>by
  obtain⟨x,_,rfl⟩:=U0.1 he
  simp at a;subst a;exact .val _
theorem NW (l:List Int) (i:Nat) (x:Int):(bt l).set i [gi x]=bt (l.set i x):=by simp[List.map_set]
theorem aK.elems {H:View} {u:V} {sz:Nat} {es:List (List V)} (h:aK H u sz es):∃ rd,bC H u=some (es,rd):=by
 rcases h with ⟨rfl,k,rfl⟩ | ⟨n,rfl,a⟩
 .exact⟨[],rfl⟩
 .cases es with
  | nil=>exact⟨[],rfl⟩
  | cons e r =>
   refine⟨[n],?_⟩
   rw[UE,jO _ n 0 r.length sz sz _ a (by simp),Vv,UK (by simp)]
theorem b3.step {H H' H1:View} {u b:V} (h:b3 H H' u) (l:Left H' H1 u b):b3 H H1 b:=λid a=>by
 have h1:=h id a
 have c:=l id (by rw[h1.1];exact a) h1.2
 exact⟨c.1.trans h1.1,c.2⟩
theorem b3.put {H H':View} {u:V} {n:Nat} {o:dB} (h:b3 H H' u) (b:H' n=.dead):b3 H (H'.set n o) u:=λid a=>by
 have h1:=h id a
 have e:id≠n:=by rintro rfl;rw[h1.1] at b;exact a b
 exact⟨by simp[View.set,e,h1.1],h1.2⟩
theorem b3.call {H H' b:View} {u r:V} (h:b3 H H' u) (k:b3 H' b r):b3 H b u:=λid a=>by
 have h1:=h id a
 have c:=k id (by rw[h1.1];exact a)
 exact⟨c.1.trans h1.1,h1.2⟩
theorem KA {l:List Int} {k:Nat} (h:k<=l.length):cJ 1 (.aQ (l.map λx=>[gi x])) none (some (gi k))=some (.aQ ((l.take k).map λx=>[gi x]),.none,[]):=by
 simp[cJ,bound,asNat,h,VN,List.map_take]
theorem rG {l:List Int} {k:Nat} (h:k<=l.length):cJ 1 (.aQ (l.map λx=>[gi x])) (some (gi k)) none=some (.aQ ((l.drop k).map λx=>[gi x]),.none,[]):=by
 simp[cJ,bound,asNat,h,VN,List.map_drop]
 rw[UK (by simp)]
theorem fg {P:Program} {t:TypeId} {d:TypeDesc} (hu:P.underlying t=some d) (a:d=.string∨∃ k,d=.int k) (cs:Array Value) (off:Nat) {v:Value} (b:cs[off]?=some v):bg P (part t cs off)=some v:=by
 have c:bg P (isAgg t)=some false:=by
  rcases a with rfl | ⟨k,rfl⟩
  all_goals simp only[isAgg,aW,dK hu,U7];rfl
 simp only[part,aW,c,U7,UX,if_false,b]
 rfl
inductive gM (P:Program) (d:Nat) (xs ys:Array Value):List Field->Bool->Prop
 | nil:gM P d xs ys [] true
 | str (f:Field) (l:List Field) (c:Bool) (a b:ByteArray):(f.name≠ "_")->P.underlying f.type=some .string->xs[f.offset]?=some (.string a)->ys[f.offset]?=some (.string b)->gM P d xs ys l c->gM P d xs ys (f :: l) (a == b && c)
 | int (f:Field) (l:List Field) (c:Bool) (k:IntKind) (a b:Int):(f.name≠ "_")->P.underlying f.type=some (.int k)->xs[f.offset]?=some (.int k a)->ys[f.offset]?=some (.int k b)->gM P d xs ys l c->gM P d xs ys (f :: l) (a == b && c)
theorem gM.forIn {P:Program} {d e:Nat} {xs ys:Array Value} {l:List Field} {c:Bool} (h:gM P d xs ys l c) (n:e=d+1) :
  bg P (forIn l ((none:Option Bool),()) λf _ =>
    if f.name≠ "_" then do
     let a <-part f.type xs f.offset
     let b <-part f.type ys f.offset
     let e <-Op.equalIn e f.type a b
     if (!e)=true then pure (ForInStep.done (some false,())) else pure (ForInStep.yield (none,()))
    else pure (ForInStep.yield (none,())))=some (if c=true then (none,()) else (some false,())):=by
 subst n
 induction h with
 | nil=>rfl
 | str f l c a b g hu i j _ m =>
  have he:bg P (Op.equalIn (d+1) f.type (.string a) (.string b))=some (a == b):=by
   simp only[Op.equalIn,aW,dK hu,U7];rfl
  rw[List.forIn_cons,aW,Uz g,aW,fg hu (.inl rfl) xs _ i,U7,aW,fg hu (.inl rfl) ys _ j,U7,aW,he,U7]
  cases a == b with
  | false=>rfl
  | true=>exact m
 | int f l c k a b g hu i j _ m =>
  have he:bg P (Op.equalIn (d+1) f.type (.int k a) (.int k b))=some (a == b):=by
   simp only[Op.equalIn,aW,dK hu,U7];rfl
  rw[List.forIn_cons,aW,Uz g,aW,fg hu (.inr ⟨k,rfl⟩) xs _ i,U7,aW,fg hu (.inr ⟨k,rfl⟩) ys _ j,U7,aW,he,U7]
  cases a == b with
  | false=>rfl
  | true=>exact m
theorem AA {P:Program} {t:TypeId} {b:Array Field} {xs ys:Array Value} {c:Bool} (hu:P.underlying t=some (.struct b)) (d:P.stoodInHeld t=false) (h:gM P 9998 xs ys b.toList c) :
  bg P (Op.equal t (.agg xs) (.agg ys))=some c:=by
 rw[jI]
 rw[Op.equalIn,aW,dK hu,U7]
 have a:(bg P program)=some P:=rfl
 rw[aW,a,U7,d]
 simp only[<-Array.forIn_toList,UX,if_false]
 rw[aW,h.forIn (e:=9999) rfl,U7]
 cases c <;> rfl
theorem C6 {P:Program} {o:Oper} {T:Env} {op:BinOp} {t u:TypeId} {x y:Operand} {f:Array Field} {xs ys:Array Value} {c r:Bool} (b:o.op=.binOp op t x y u) (hu:P.underlying t=some (.struct f)) (i:P.stoodInHeld t=false) (g:P.eqGuardType P.depth t=false)
  (d:c8 (ev T x)=some (.agg xs)) (e:c8 (ev T y)=some (.agg ys)) (h:gM P 9998 xs ys f.toList c) (hr:(op=.eql/\r=c)∨(op=.neq/\r = !c)) :
  dR P o T=some (.val (.bool r),.none,[]):=by
 have he:=AA hu i h
 have a:(bg P program)=some P:=rfl
 unfold dR
 simp only[b,Op.operands,d,e]
 rcases hr with ⟨rfl,rfl⟩ | ⟨rfl,rfl⟩
 .simp[execOp,b,d,e,eqGuard,binOp,jb,aW,a,g,he,plain]
  try simp[bg,pure,plain]
 .simp[execOp,b,d,e,eqGuard,binOp,jb,aW,a,g,he,plain]
  try simp[bg,pure,plain,bne]
theorem jc {P:Program} {T:Env} {H:View} {K:V->View->Prop} {w:cG (T,H,K)} {op:BinOp} {t u ty:TypeId} {x y:Operand} {a:Array Field} {xs ys:Array Value} {c r:Bool} (hu:P.underlying t=some (.struct a)) (b:P.stoodInHeld t=false) (d:P.eqGuardType P.depth t=false)
  (e:c8 (ev T x)=some (.agg xs)) (f:c8 (ev T y)=some (.agg ys)) (h:gM P 9998 xs ys a.toList c) (hr:(op=.eql/\r=c)∨(op=.neq/\r = !c)) (hk:K (.val (.bool r)) H):iW P (.binOp op t x y u) ty T H K w:=by
 intro n _
 refine⟨.val (.bool r),.none,[],?_,hk⟩
 have g:jx P t=none:=by simp[jx,hu]
 simp only[sI,ca,oper,g]
 simp only[Option.isSome_none,UX,if_false]
 exact C6 rfl hu b d e f h hr
def yc (hp:Array Obj) (cs:List Value) (vs:List V):Prop :=
 vs.length=cs.length/\∀ μ i,i < vs.length->ay (λb=>b < hp.size) μ hp (vs.getD i .any) (cs.getD i undef)
def Wt {H:Type} (P:Program) (t:TypeId) (d:DataW H):Prop:=∀ n∈d.weights P t,n<=reachBytes
def yj (P:Program) (t:TypeId) {α:Type} (f:α->List V) (ok:α->Prop):Prop :=
 ∀ {H:Type} (enc:TypeId × Value->H) (w:World) (base:Nat) (sp:Nat->Bool) (held:Bool) (fuel:Nat) (cs:List Value) (x:DataW H × List MemPlace),
  DataW.trod enc P w base sp held fuel t cs=some x->Wt P t x.1->∃ a,ok a/\yc w.heap cs (f a)
theorem wh {hp:Array Obj} {c:Value} {v:V} (h:∀ μ,ay (λb=>b < hp.size) μ hp v c):yc hp [c] [v]:=by
 refine⟨rfl,λμ i hi=>?_⟩
 match i,hi with
 | 0,_=>exact h μ
theorem R9 {P:Program} {t:TypeId} {k:IntKind} (a:P.underlying t=some (.int k)):yj P t (λn=>[.val (.int k n)]) (λn=>(Lit.int k n).wf=true):=by
 intro H enc w base sp held fuel cs x h _
 obtain⟨n,rfl,_,hw⟩:=DataW.trod_int a h
 exact⟨n,hw,wh λμ=>.val _ rfl⟩
theorem DO {P:Program} {t:TypeId} (a:P.underlying t=some .string):yj P t (λs=>[.val (.string s)]) (λ_=>True):=by
 intro H enc w base sp held fuel cs x h _
 obtain⟨s,rfl,_,_⟩:=DataW.trod_string a h
 exact⟨s,trivial,wh λμ=>.val _ rfl⟩
theorem F2 {w:World} {base:Nat} {a:Addr} {n:Nat} {cs:List Value} (h:w.cells? base a n=some cs):cs.length=n/\∀ i,i < n->w.cell? (a.add i)=some (cs.getD i undef):=by
 obtain⟨_,b,c⟩:=World.cells?_some h
 refine⟨b,λi hi=>?_⟩
 rw[c i hi,Uu,Uv (by omega)]
 rfl
theorem OV {w:World} {a:Addr} {v:Value} (h:w.cell? a=some v):a.spot=none/\a.block < w.heap.size:=by
 unfold World.cell? at h
 split at h
 .rename_i c _ _ b
  split at h
  .simp at h
  .rename_i d
   exact⟨by simpa using d,(Array.getElem?_eq_some_iff.1 b).1⟩
 .simp at h
theorem ON {H:Type} {P:Program} {e:TypeId} : ∀ {l:List (DataW H)},(∀ n∈DataW.weightsAll P e l,n<=reachBytes)->∀ d∈l,Wt P e d
 | [],_,d,a=>by simp at a
 | x :: l,h,d,a=>by
  simp only[DataW.weightsAll,UR] at h
  rcases UO.1 a with rfl | a
  .exact λn b=>h n (.inl b)
  .exact ON (λn b=>h n (.inr b)) d a
theorem Pp {H:Type} {P:Program} {t e:TypeId} {elems spare:List (DataW H)} (a:P.underlying t=some (.slice e)) (h:Wt P t (.slice elems spare)) :
  (elems.length+spare.length) * P.bytesOf e<=reachBytes/\∀ d∈elems,Wt P e d:=by
 unfold Wt at h
 unfold DataW.weights at h
 rw[a] at h
 simp only[UO,UR] at h
 exact⟨h _ (.inl rfl),ON λn b=>h n (.inr (.inl b))⟩
theorem NM {H:Type} {P:Program} {t:TypeId} {a:Array Field} {parts:List (DataW H)} (b:P.underlying t=some (.struct a)) (h:Wt P t (.agg parts)) {j:Nat} {f:Field} {d:DataW H} (c:a[j]?=some f) (e:parts[j]?=some d):Wt P f.type d:=by
 intro n g
 refine h n ?_
 unfold DataW.weights
 rw[b]
 exact DataW.weights_mem_each (j:=j) (t:=f.type) (by simp[c]) e n g
theorem Kh {α:Type} {c:Nat->α->Prop} : ∀ (n:Nat),(∀ i,i < n->∃ a,c i a)->∃ l:List α,l.length=n/\∀ i (hi:i < l.length),c i l[i]
 | 0,_=>⟨[],rfl,λi hi=>by simp at hi⟩
 | n+1,h=>by
  obtain⟨l,d,b⟩:=Kh n λi hi=>h i (by omega)
  obtain⟨a,f⟩:=h n (by omega)
  refine⟨l ++ [a],by simp[d],λi hi=>?_⟩
  by_cases e:i < l.length
  .rw[List.getElem_append_left e];exact b i e
  .have:i=n:=by simp at hi;omega
   subst this
   rw[List.getElem_append_right (by omega)]
   simp only[d,Nat.sub_self,List.getElem_cons_zero];exact f
theorem vD {P:Program} {t e:TypeId} {α:Type} {f:α->List V} {ok:α->Prop} (J:P.underlying t=some (.slice e)) (M:0 < P.cellsOf e) (N:0 < P.bytesOf e) (he:yj P e f ok) :
  yj P t (λl:List α=>[.aQ (l.map f)]) (λl=>l.length < 4611686018427387904/\∀ a∈l,ok a):=by
 intro H enc w base sp held fuel cs x h hw
 rcases DataW.trod_slice J h with ⟨rfl,rfl⟩ | ⟨a,len,cap,elems,rest,n,_,rfl,rfl,O,Q,hm,hlen,A,_,_⟩
 .exact⟨[],⟨by simp,by simp⟩,wh λμ=>.iu none 0 (by simp)⟩
 obtain⟨r,B⟩:=Pp J hw
 simp only[UB] at r
 have C:len < 4611686018427387904:=by
  have h1:len * 1<=(elems.length+rest.length) * P.bytesOf e:=Nat.mul_le_mul (by omega) N
  unfold reachBytes at r
  omega
 have each:∀ i,i < len->∃ y,ok y/\∃ ci,w.cells? base (a.add (i * P.cellsOf e)) (P.cellsOf e)=some ci/\yc w.heap ci (f y):=by
  intro i hi
  have h1:=A i hi
  have k:elems[i]?=some (elems[i]'(by omega)):=Uv (by omega)
  have s:elems[i]'(by omega)∈elems:=UC _
  rw[k,Option.bind_eq_some_iff] at h1
  obtain⟨ci,D,E⟩:=h1
  obtain⟨y,z,m⟩:=he enc w base sp held n ci _ E (B _ (U0.2 ⟨_,s,rfl⟩))
  exact⟨y,z,ci,D,m⟩
 obtain⟨l,F,p⟩:=Kh len each
 subst F
 refine⟨l,⟨C,λy R=>?_⟩,wh λμ=>?_⟩
 .obtain⟨i,hi,rfl⟩:=List.getElem_of_mem R
  exact(p i hi).1
 by_cases K:l=[]
 .subst K
  exact .iu (some a) cap (by simp)
 have o:0 < l.length:=Wg.2 K
 have d:∀ i j,i < l.length->j < P.cellsOf e->∃ c,cellAt w.heap a.block (a.off+i * P.cellsOf e+j)=some c/\a.block < w.heap.size/\(i=0->j=0->a.spot=none)/\∀ (hi:i < l.length),ay (λb=>b < w.heap.size) μ w.heap ((f l[i]).getD j .any) c:=by
  intro i j hi q
  obtain⟨_,ci,h1,k⟩:=p i hi
  obtain⟨D,E⟩:=F2 h1
  have z:=E j q
  have m:=OV z
  have u:((a.add (i * P.cellsOf e)).add j).block=a.block:=by simp only[Addr.add];split <;> split <;> rfl
  have G:((a.add (i * P.cellsOf e)).add j).off=a.off+i * P.cellsOf e+j:=by
   simp only[Addr.add];split <;> split <;> simp_all
  refine⟨ci.getD j undef,?_,by rw[<-u];exact m.2,?_,λ_=>?_⟩
  .rw[<-G,<-u,<-mR]
   rw[<-z]
   congr 1
   generalize (a.add (i * P.cellsOf e)).add j=b at m
   cases b
   simp at m ⊢
   exact m.1.symm
  .rintro rfl rfl
   simp[Addr.add] at m
   exact m.1
  .exact k.2 μ j (by rw[k.1,D];exact q)
 obtain⟨_,_,S,L,_⟩:=d 0 0 o M
 have T:a=⟨a.block,a.off,none⟩:=by
  cases a;simp at L ⊢;exact L
 have I:∀ i,i < l.length->(f (l[i]?.getD (l[0]'o))).length=P.cellsOf e:=λi hi=>by
  obtain⟨_,ci,h1,k⟩:=p i hi
  rw[Uv hi,UM,k.1,(F2 h1).1]
 have v:∀ i (hi:i < l.length),(l.map f).getD i []=f l[i]:=λi hi=>by simp[Uu,hi]
 have g:(l.map f).length=l.length:=by simp
 have:=ay.aQ (Z:=λb=>b < w.heap.size) (μ:=μ) (hp:=w.heap) (l.map f) a.block a.off (P.cellsOf e) cap (λi j=>(cellAt w.heap a.block (a.off+i * P.cellsOf e+j)).getD undef) S (by rw[g];exact Q)
  (λi hi=>by
   rw[g] at hi
   have:=I i hi
   rw[Uv hi,UM] at this
   rw[v i hi];exact this)
  (λi j hi q=>by
   rw[g] at hi
   obtain⟨c,h1,_⟩:=d i j hi q
   rw[h1];rfl)
  (λi j hi q=>by
   rw[g] at hi
   obtain⟨c,h1,_,_,k⟩:=d i j hi q
   rw[h1,v i hi];exact k hi)
 rw[g,<-T] at this
 exact this
theorem xL {P:Program} {t:TypeId} {b:Array Field} (d:P.underlying t=some (.struct b)) (j:∀ (i:Nat) (f:Field),b[i]?=some f->f.offset=i/\P.cellsOf f.type=1) (k:P.cellsOf t=b.size)
  {H:Type} {enc:TypeId × Value->H} {w:World} {base:Nat} {sp:Nat->Bool} {held:Bool} {fuel:Nat} {cs:List Value} {x:DataW H × List MemPlace} (h:DataW.trod enc P w base sp held fuel t cs=some x) (hw:Wt P t x.1) :
  cs.length=b.size/\∀ (i:Nat) (f:Field),b[i]?=some f->∀ {α:Type} {g:α->List V} {ok:α->Prop},yj P f.type g ok->∃ a,ok a/\yc w.heap [cs.getD i undef] (g a):=by
 obtain⟨xs,n,rfl,rfl,l,hlen,m⟩:=DataW.trod_struct d h
 refine⟨by rw[l,k],λi f hi α g ok hr=>?_⟩
 obtain⟨h1,o⟩:=j i f hi
 have p:i < b.size:=(Array.getElem?_eq_some_iff.1 hi).1
 have c:=m i f hi
 have e:xs[i]?=some (xs[i]'(by omega)):=Uv (by omega)
 rw[e,h1,o] at c
 have q:(cs.drop i).take 1=[cs.getD i undef]:=by
  rw[Uu,Uv (by omega),Vg (by omega)]
  rfl
 rw[q] at c
 exact hr enc w base sp held n _ _ c (NM d hw hi (by simp[e]))
theorem ib {hp:Array Obj} {c:Value} {cs:List Value} {v:V} {vs:List V} (h:yc hp [c] [v]) (k:yc hp cs vs):yc hp (c :: cs) (v :: vs):=by
 refine⟨by simp[k.1],λμ i hi=>?_⟩
 cases i with
 | zero=>exact h.2 μ 0 (by simp)
 | succ i=>exact k.2 μ i (by simpa using hi)
theorem Ar {hp:Array Obj} : yc hp [] []:=⟨rfl,λμ i hi=>by simp at hi⟩
theorem Q3 {n:Int} (h:(Lit.int .i64 n).wf=true):bO n:=by
 simp only[Lit.wf,UJ,UN] at h
 exact h
theorem pA:yj Tryz.prog 3 (λn=>[gi n]) bO:=λenc w base sp held fuel cs x h hw=>by
 obtain⟨n,h1,a⟩:=R9 Tryz.underlying3 enc w base sp held fuel cs x h hw
 exact⟨n,Q3 h1,a⟩
theorem Q5:yj Tryz.prog 27 (λl:List Int=>[encI l]) (λl=>aL l/\∀ x∈l,bO x) :=
 vD Tryz.underlying27 (VZ (by kernel_rfl)) (VZ (by kernel_rfl)) pA
theorem Km:yj Tryz.prog 23 (λl:List ByteArray=>[encS l]) (λl=>aL l/\∀ x∈l,True) :=
 vD Tryz.underlying23 (VZ (by kernel_rfl)) (VZ (by kernel_rfl)) (DO Tryz.underlying9)
theorem Tf {cs:List Value} (h:cs.length=3):cs=[cs.getD 0 undef,cs.getD 1 undef,cs.getD 2 undef]:=by
 match cs,h with
 | [a,b,c],_=>rfl
theorem Us {cs:List Value} (h:cs.length=4):cs=[cs.getD 0 undef,cs.getD 1 undef,cs.getD 2 undef,cs.getD 3 undef]:=by
 match cs,h with
 | [a,b,c,d],_=>rfl
theorem QU:yj Tryz.prog 130 cP (λt=>bO t.level/\bO t.assoc):=λenc w base sp held fuel cs x h hw=>by
 obtain⟨e,d⟩:=xL Tryz.underlying130 (by
  intro i f hi
  match i,hi with
  | 0,hi=>simp at hi;subst hi;exact⟨rfl,by kernel_rfl⟩
  | 1,hi=>simp at hi;subst hi;exact⟨rfl,by kernel_rfl⟩
  | 2,hi=>simp at hi;subst hi;exact⟨rfl,by kernel_rfl⟩
  | n+3,hi=>simp at hi) (by kernel_rfl) h hw
 obtain⟨a,_,h1⟩:=d 0 _ rfl (DO Tryz.underlying9)
 obtain⟨b,g,j⟩:=d 1 _ rfl pA
 obtain⟨c,k,l⟩:=d 2 _ rfl pA
 refine⟨⟨a,b,c⟩,⟨g,k⟩,?_⟩
 rw[Tf e]
 exact ib h1 (ib j (ib l Ar))
theorem Rm:yj Tryz.prog 92 aI (λr=>bO r.left/\bO r.prec/\aL r.right/\∀ x∈r.right,bO x):=λenc w base sp held fuel cs x h hw=>by
 obtain⟨g,d⟩:=xL Tryz.underlying92 (by
  intro i f hi
  match i,hi with
  | 0,hi=>simp at hi;subst hi;exact⟨rfl,by kernel_rfl⟩
  | 1,hi=>simp at hi;subst hi;exact⟨rfl,by kernel_rfl⟩
  | 2,hi=>simp at hi;subst hi;exact⟨rfl,by kernel_rfl⟩
  | n+3,hi=>simp at hi) (by kernel_rfl) h hw
 obtain⟨a,j,h1⟩:=d 0 _ rfl pA
 obtain⟨b,e,k⟩:=d 1 _ rfl Q5
 obtain⟨c,l,m⟩:=d 2 _ rfl pA
 refine⟨⟨a,b,c⟩,⟨j,l,e.1,e.2⟩,?_⟩
 rw[Tf g]
 exact ib h1 (ib k (ib m Ar))
theorem Rv:yj Tryz.prog 26 af ag.Ok:=λenc w base sp held fuel cs x h hw=>by
 obtain⟨k,e⟩:=xL Tryz.underlying26 (by
  intro i f hi
  match i,hi with
  | 0,hi=>simp at hi;subst hi;exact⟨rfl,by kernel_rfl⟩
  | 1,hi=>simp at hi;subst hi;exact⟨rfl,by kernel_rfl⟩
  | 2,hi=>simp at hi;subst hi;exact⟨rfl,by kernel_rfl⟩
  | 3,hi=>simp at hi;subst hi;exact⟨rfl,by kernel_rfl⟩
  | n+4,hi=>simp at hi) (by kernel_rfl) h hw
 obtain⟨a,g,h1⟩:=e 0 _ rfl (vD Tryz.underlying22 (VZ (by kernel_rfl)) (VZ (by kernel_rfl)) QU)
 obtain⟨b,l,m⟩:=e 1 _ rfl Km
 obtain⟨c,j,o⟩:=e 2 _ rfl (vD Tryz.underlying24 (VZ (by kernel_rfl)) (VZ (by kernel_rfl)) Rm)
 obtain⟨d,p,q⟩:=e 3 _ rfl pA
 refine⟨⟨a,b,c,d⟩,⟨g.1,l.1,j.1,p,g.2,j.2⟩,?_⟩
 rw[Us k]
 exact ib h1 (ib m (ib o (ib q Ar)))
end Gv
