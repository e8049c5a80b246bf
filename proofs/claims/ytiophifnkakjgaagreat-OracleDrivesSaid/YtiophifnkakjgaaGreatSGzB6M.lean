/-
  Part 13 of the proof: what the machine does and what the functions answer.
  Conditions: those that each lemma names.
-/
import Derived.Test.YtiophifnkakjgaaGreatSGzB6L
set_option linter.unusedSimpArgs false
set_option linter.unusedVariables false
set_option maxRecDepth 100000
set_option maxHeartbeats 20000000
namespace Gv
open Go Go.Proofs
theorem iE {a b:aC} : fH a b=true↔a.al < b.al∨a.al=b.al/\a.dot < b.dot:=by
 simp[fH]
theorem xG {a b c:aC} (h:fH a b=true) (k:fH b c=true):fH a c=true:=by
 rw[iE] at h k ⊢;omega
theorem rj {a:aC} : fH a a=false:=by
 cases h:fH a a with
 | false=>rfl
 | true=>rw[iE] at h;omega
theorem Kj {a b:aC} (h:fH a b=false) (c:¬ a=b):fH b a=true:=by
 rw[iE]
 have h1:¬ fH a b=true:=by simp[h]
 rw[iE] at h1
 obtain⟨d,ad⟩:=a
 obtain⟨e,f⟩:=b
 simp only[aC.mk.injEq] at c
 simp only at h1 ⊢
 omega
abbrev cA (l:List aC):Prop:=l.Pairwise λa b=>fH a b=true
theorem jf:∀ {l:List aC} {x y:aC},y∈dX l x↔y=x∨y∈l
 | [],x,y=>by simp[dX]
 | z :: l,x,y=>by
  rw[dX]
  split
  .simp only[Vq,jf (l:=l)]
   constructor
   .rintro (h | h | h) <;> simp[h]
   .rintro (h | h | h) <;> simp[h]
  .split
   .rename_i h;subst h;simp
   .simp
theorem q0:∀ {l:List aC} {x:aC},cA l->cA (dX l x)
 | [],x,_=>by simp[dX,cA]
 | z :: l,x,h=>by
  rw[cA,Ws] at h
  rw[dX]
  split
  .rename_i c
   rw[cA,Ws]
   refine⟨λy a=>?_,q0 h.2⟩
   rcases jf.1 a with rfl | a
   .exact c
   .exact h.1 y a
  .rename_i c
   split
   .exact Ws.2 h
   .rename_i d
    have b:=Kj (by simpa using c) d
    rw[cA,Ws]
    refine⟨λy a=>?_,Ws.2 h⟩
    rcases Vq.1 a with rfl | a
    .exact b
    .exact xG b (h.1 y a)
theorem DM:∀ (l:List aC) (x:aC),(dX l x).length=l.length∨(dX l x).length=l.length+1
 | [],x=>.inr rfl
 | z :: l,x=>by
  rw[dX]
  split
  .rcases DM l x with h | h <;> simp[h]
  .split <;> simp
theorem BS:∀ {l:List aC} {x:aC},cA l->x∈l->dX l x=l
 | [],x,_,h=>by simp at h
 | z :: l,x,a,h=>by
  rw[cA,Ws] at a
  rw[dX]
  rcases Vq.1 h with rfl | h
  .rw[U8 (by simp[rj]),Va rfl]
  .rw[Va (a.1 x h),BS a.2 h]
theorem B5:∀ {l:List aC} {x:aC},x ∉ l->(dX l x).length=l.length+1
 | [],x,_=>rfl
 | z :: l,x,h=>by
  simp only[Vq,not_or] at h
  rw[dX]
  split
  .simp[B5 h.2]
  .rw[U8 (λe=>h.1 e.symm)];rfl
theorem Ds:∀ {l:List aC} {x:aC},(∀ y∈l,fH y x=true)->dX l x=l ++ [x]
 | [],x,_=>rfl
 | z :: l,x,h=>by
  rw[dX,Va (h z (by simp)),Ds λy a=>h y (by simp[a])];rfl
theorem DA:∀ {a b:List aC},cA a->cA b->(∀ x,x∈a↔x∈b)->a=b
 | [],[],_,_,_=>rfl
 | [],y :: b,_,_,h=>by have:=(h y).2 (by simp);simp at this
 | x :: a,[],_,_,h=>by have:=(h x).1 (by simp);simp at this
 | x :: a,y :: b,d,e,h=>by
  rw[cA,Ws] at d e
  have f:x=y:=by
   have h1:=(h x).1 (by simp)
   have c:=(h y).2 (by simp)
   rcases Vq.1 h1 with h1 | h1
   .exact h1
   .rcases Vq.1 c with c | c
    .exact c.symm
    .have:=xG (d.1 y c) (e.1 x h1)
     rw[rj] at this;exact absurd this (by simp)
  subst f
  congr 1
  refine DA d.2 e.2 λz=>?_
  have g:=h z
  simp only[Vq] at g
  constructor
  .intro hm
   rcases g.1 (.inr hm) with rfl | h
   .have:=d.1 z hm;rw[rj] at this;exact absurd this (by simp)
   .exact h
  .intro hm
   rcases g.2 (.inr hm) with rfl | h
   .have:=e.1 z hm;rw[rj] at this;exact absurd this (by simp)
   .exact h
theorem FU:∀ (l:List Int) (a n:Int),l.Pairwise (· < ·)->(∀ x∈l,a<=x/\x < a+n)->0<=n->(l.length:Int)<=n
 | [],a,n,_,_,b=>by simpa using b
 | x :: l,a,n,hp,hm,b=>by
  rw[Ws] at hp
  have h1:=hm x (by simp)
  have:=FU l (x+1) (a+n - (x+1)) hp.2 (λy c=>by have:=hp.1 y c;have:=hm y (by simp[c]);omega) (by omega)
  simp only[Vm];omega
def cD (g:ae) (x:aC):Prop:=(-1<=x.al/\x.al < (g.rules.length:Int))/\0<=x.dot/\x.dot<=(aG g x.al).length
theorem iJ {g:ae} (a:g.de) {r:Int} (h : -1<=r/\r < (g.rules.length:Int)):(aG g r).length<=6:=by
 unfold aG
 split
 .simp
 .have b:g.rules[r.toNat]?=some (az g r):=by unfold az;exact getD_some (by omega)
  exact a.right _ (Vc b)
theorem gT {g:ae} (f:g.de) {l:List aC} (i:cA l) (h:∀ x∈l,cD g x):l.length<=287:=by
 have d:∀ x∈l,0<=x.dot/\x.dot<=6:=λx c=>by
  have h1:=h x c
  have:=iJ f h1.1
  exact⟨h1.2.1,by have:=h1.2.2;omega⟩
 have h1:(l.map λx=>(x.al+1) * 7+x.dot).Pairwise (· < ·):=by
  rw[Xd]
  refine List.Pairwise.imp_of_mem ?_ i
  intro a b j k e
  rw[iE] at e
  have:=d a j;have:=d b k
  omega
 have:=FU _ 0 287 h1 (λy m=>by
  obtain⟨x,c,rfl⟩:=Vv.1 m
  have n:=(h x c).1
  have:=d x c;have:=f.rules
  omega) (by omega)
 simp at this
 omega
inductive nP (g:ae) (l:List aC):aC->Prop
 | base {x:aC} : x∈l->nP g l x
 | step {x:aC} {s:Int} {k:Nat} {R:aN} : nP g l x->bo g x=(s,true)->s < 0->g.rules[k]?=some R->R.left = -1 - s->nP g l ⟨k,0⟩
theorem nP.has {g:ae} {l:List aC} (a:∀ x∈l,cD g x) {x:aC} (h:nP g l x):cD g x:=by
 induction h with
 | base h=>exact a _ h
 | step _ _ _ hk _ _ =>
  have:=(Vf.1 hk).1
  exact⟨⟨by simp only;omega,by simp only;omega⟩,by simp only;omega,by simp only;omega⟩
def Fp (g:ae):List aC:=(List.range (g.rules.length+1)).flatMap λ(r:Nat)=>(List.range 7).map λ(d:Nat)=>(⟨(r:Int) - 1,(d:Int)⟩:aC)
theorem Lf {g:ae} (a:g.de) {x:aC} (h:cD g x):x∈Fp g:=by
 have:=iJ a h.1
 obtain⟨⟨h1,b⟩,c,e⟩:=h
 simp only[Fp,List.mem_flatMap,Vv,Wa]
 refine⟨(x.al+1).toNat,by omega,x.dot.toNat,by omega,?_⟩
 obtain⟨r,d⟩:=x
 simp only at h1 b c e this
 simp only[aC.mk.injEq];omega
theorem rV:∀ (l a:List aC),cA a->cA (l.foldl dX a)/\∀ x,x∈l.foldl dX a↔x∈a∨x∈l
 | [],a,h=>⟨h,λx=>by simp⟩
 | y :: l,a,h=>by
  obtain⟨h1,b⟩:=rV l (dX a y) (q0 h)
  refine⟨h1,λx=>?_⟩
  rw[VC,b,jf,Vq]
  constructor
  .rintro ((h | h) | h) <;> simp[h]
  .rintro (h | h | h) <;> simp[h]
open Classical in
noncomputable def cE (g:ae) (l:List aC):List aC:=((Fp g).filter λx=>decide (nP g l x)).foldl dX []
theorem kT (g:ae) (l:List aC):cA (cE g l):=(rV _ [] .nil).1
theorem bY {g:ae} (a:g.de) {l:List aC} (b:∀ x∈l,cD g x) {x:aC} : x∈cE g l↔nP g l x:=by
 classical
 rw[cE,(rV _ [] .nil).2]
 simp only[List.not_mem_nil,false_or,VV,Vj]
 exact⟨λh=>h.2,λh=>⟨Lf a (h.has b),h⟩⟩
theorem PY {g:ae} (b:g.de) {l o:List aC} (c:∀ x∈l,cD g x) (a:cA o) (h1:∀ x∈o,nP g l x) (d:∀ x∈l,x∈o)
  (e:∀ x∈o,∀ (s:Int) (k:Nat) (R:aN),bo g x=(s,true)->s < 0->g.rules[k]?=some R->R.left = -1 - s->(⟨k,0⟩:aC)∈o):cE g l=o:=by
 refine DA (kT g l) a λx=>?_
 rw[bY b c]
 refine⟨λh=>?_,h1 x⟩
 induction h with
 | base h=>exact d _ h
 | step _ f a hk i j=>exact e _ j _ _ _ f a hk i
theorem Eg {g:ae} (a:g.de) {l:List aC} (b:∀ x∈l,cD g x):(cE g l).length<=287 :=
 gT a (kT g l) λ_ c=>((bY a b).1 c).has b
def cW (g:ae) (l:List aC) (s:Int):List aC:=(l.filter λx=>decide (bo g x=(s,true))).map λx=>⟨x.al,x.dot+1⟩
theorem iK {g:ae} {l:List aC} {s:Int} {y:aC} : y∈cW g l s↔∃ x∈l,bo g x=(s,true)/\y=⟨x.al,x.dot+1⟩:=by
 simp only[cW,Vv,VV,Vj]
 constructor
 .rintro⟨x,⟨h1,a⟩,rfl⟩;exact⟨x,h1,a,rfl⟩
 .rintro⟨x,h1,a,rfl⟩;exact⟨x,⟨h1,a⟩,rfl⟩
theorem MX {g:ae} {l:List aC} (s:Int) (h:cA l):cA (cW g l s):=by
 rw[cA,cW,Xd]
 refine(h.filter _).imp ?_
 intro a b c
 rw[iE] at c ⊢
 simp only;omega
theorem lK {g:ae} {x:aC} {s:Int} (h:bo g x=(s,true)):x.dot≠(aG g x.al).length/\(aG g x.al).getD x.dot.toNat 0=s:=by
 unfold bo at h
 split at h
 .simp at h
 .rename_i a;exact⟨a,by simpa using h⟩
theorem Qd {g:ae} {l:List aC} {s:Int} (a:∀ x∈l,cD g x):∀ y∈cW g l s,cD g y:=by
 intro y b
 obtain⟨x,c,d,rfl⟩:=iK.1 b
 have h1:=a x c
 have e:=(lK d).1
 exact⟨h1.1,by simp only;have:=h1.2;omega,by simp only;have:=h1.2;omega⟩
theorem N1 {g:ae} {l:List aC} (b:cA l) {i:Nat} {x:aC} (c:l[i]?=some x) (s:Int) :
  cW g (l.take (i+1)) s=if bo g x=(s,true) then dX (cW g (l.take i) s) ⟨x.al,x.dot+1⟩ else cW g (l.take i) s:=by
 have e:l.take (i+1)=l.take i ++ [x]:=by rw[Vs,c];rfl
 rw[e]
 split
 .rename_i h
  rw[Ds]
  .simp[cW,h]
  .intro y d
   obtain⟨z,f,_,rfl⟩:=iK.1 d
   have a:cA (l.take (i+1)):=b.sublist (List.take_sublist _ _)
   rw[e,cA,List.pairwise_append] at a
   have:=a.2.2 z f x (by simp)
   rw[iE] at this ⊢
   simp only;omega
 .rename_i h
  simp[cW,h]
theorem Ft {g:ae} {l:List aC} {s:Int} : (cW g l s).length<=l.length:=by
 rw[cW,Vl];exact VY _ _
structure aR where
 aX:List aC
 bI:List eV
 deriving DecidableEq
abbrev bf:aR:=⟨[],[]⟩
def b6 (g:ae) (i:Nat):Int:=if i < g.ai.length then i else -1 - ((i:Int) - g.ai.length)
def findD:List aR->List aC->Int
 | [],_=>-1
 | s :: l,k=>if s.aX=k then 0 else if findD l k < 0 then -1 else findD l k+1
theorem GP:∀ (l:List aR) (k:List aC),-1<=findD l k
 | [],_=>by simp[findD]
 | s :: l,k=>by
  have:=GP l k
  rw[findD];split
  .omega
  .split <;> omega
theorem z8:∀ (l:List aR) (k:List aC),findD l k < l.length
 | [],_=>by simp[findD]
 | s :: l,k=>by
  have:=z8 l k
  rw[findD];simp only[Vm];split
  .omega
  .split <;> omega
theorem Hc:∀ (l:List aR) (k:List aC) (i:Nat),findD l k=i->∃ s,l[i]?=some s/\s.aX=k
 | [],_,i,h=>by simp[findD] at h
 | s :: l,k,i,h=>by
  rw[findD] at h
  split at h
  .rename_i e
   have:i=0:=by omega
   subst this
   exact⟨s,rfl,e⟩
  .split at h
   .omega
   .obtain⟨j,rfl⟩:∃ j,i=j+1:=⟨i - 1,by omega⟩
    obtain⟨t,h1,a⟩:=Hc l k j (by omega)
    exact⟨t,by simpa using h1,a⟩
theorem Gc:∀ (l:List aR) (k:List aC),findD l k < 0->∀ s∈l,s.aX≠k
 | [],_,_,s,a=>by simp at a
 | t :: l,k,h,s,a=>by
  rw[findD] at h
  split at h
  .omega
  .rename_i b
   have c:findD l k < 0:=by
    split at h
    .assumption
    .omega
   rcases Vq.1 a with rfl | a
   .exact b
   .exact Gc l k c s a
theorem G1:∀ (l:List aR) (k:List aC) (i:Nat) (s:aR),l[i]?=some s->s.aX=k->(∀ j t,j < i->l[j]?=some t->t.aX≠k)->findD l k=i
 | [],_,_,_,h,_,_=>by simp at h
 | t :: l,k,0,s,h,hk,_=>by simp at h;subst h;simp[findD,hk]
 | t :: l,k,i+1,s,h,hk,a=>by
  have b:=a 0 t (by omega) rfl
  have:=G1 l k i s (by simpa using h) hk λj u c hu=>a (j+1) u (by omega) (by simpa using hu)
  rw[findD,U8 b,this,U8 (by omega)];omega
theorem Cc:∀ (l:List aR) (k:List aC),(∀ s∈l,s.aX≠k)->findD l k = -1
 | [],_,_=>rfl
 | t :: l,k,h=>by
  have:=Cc l k λs a=>h s (by simp[a])
  rw[findD,U8 (h t (by simp)),this];rfl
def dO (g:ae) (l:List aC) (at_:Nat) (out:List aR) (i:Nat):List aR :=
 if cW g l (b6 g i)=[] then out else
 if findD out (cW g l (b6 g i)) < 0 then (out ++ [(⟨cW g l (b6 g i),[]⟩:aR)]).modify at_ λs=>(⟨s.aX,s.bI ++ [⟨b6 g i,out.length⟩]⟩:aR)
 else out.modify at_ λs=>(⟨s.aX,s.bI ++ [⟨b6 g i,findD out (cW g l (b6 g i))⟩]⟩:aR)
noncomputable def C6 (g:ae) (at_:Nat) (out:List aR) (n:Nat):List aR:=(List.range n).foldl (dO g (cE g (out.getD at_ bf).aX) at_) out
noncomputable def gv (g:ae):Nat->Nat->List aR->List aR × Int
 | 0,_,out=>(out,0)
 | f+1,at_,out=>if at_ < out.length then
   (if 300 < (C6 g at_ out (g.ai.length+g.ao.length)).length then ([],5) else gv g f (at_+1) (C6 g at_ out (g.ai.length+g.ao.length)))
  else (out,0)
def eQ:List aR:=[⟨[⟨-1,0⟩],[]⟩]
abbrev BV:=BitVec 32
def gX (n:Int):BV:=if 0<=n/\n<=31 then BitVec.twoPow 32 n.toNat else 0
theorem x9 {a b:BV} (h:∀ i,i < 32->a.getLsbD i=b.getLsbD i):a=b:=BitVec.eq_of_getLsbD_eq λi hi=>h i hi
def nW (a b:BV):Prop:=∀ i,a.getLsbD i=true->b.getLsbD i=true
theorem Dd {a b:BV} : (a ||| b)=b↔nW a b:=by
 constructor
 .intro h i hi
  rw[<-h,VM,hi];rfl
 .intro h
  refine x9 λi _=>?_
  rw[VM]
  cases c:a.getLsbD i with
  | false=>rfl
  | true=>rw[h i c];rfl
theorem zA {a b:BV} : (a &&& ~~~b)=0↔nW a b:=by
 constructor
 .intro h i hi
  have c:i < 32:=BitVec.lt_of_getLsbD hi
  have:=VT (λx:BV=>x.getLsbD i) h
  simp only[BitVec.getLsbD_and,BitVec.getLsbD_not,hi] at this
  simpa [c] using this
 .intro h
  refine x9 λi c=>?_
  simp only[BitVec.getLsbD_and,BitVec.getLsbD_not]
  cases d:a.getLsbD i with
  | false=>simp
  | true=>rw[h i d];simp
theorem L6 {a:BV} : a=0↔∀ i,a.getLsbD i=false:=by
 constructor
 .rintro rfl i;simp
 .intro h;exact x9 λi _=>by rw[h];simp
theorem Ty (a b:BV):b.toNat<=(a ||| b).toNat:=by
 rw[BitVec.toNat_or];exact Nat.right_le_or
def dp (null:List Bool) (first:List BV) (rest:BV):List Int->BV
 | []=>rest
 | s :: l=>if 0<=s then gX s else if null.getD (-1 - s).toNat false=true then first.getD (-1 - s).toNat 0 ||| dp null first rest l else first.getD (-1 - s).toNat 0
theorem Fc {null:List Bool} {first:List BV} {a b:BV} (h:nW a b):∀ l:List Int,nW (dp null first a l) (dp null first b l)
 | []=>h
 | s :: l=>by
  intro i hi
  rw[dp] at hi ⊢
  split
  .rename_i c;rw[Va c] at hi;exact hi
  .rename_i c
   rw[U8 c] at hi
   split
   .rename_i h1
    rw[Va h1] at hi
    rw[VM,VP] at hi ⊢
    exact hi.imp id (Fc h l i)
   .rename_i h1;rw[U8 h1] at hi;exact hi
theorem RB {null:List Bool} {first:List BV} {a:BV} : ∀ (l:List Int) (i:Nat),(dp null first a l).getLsbD i=true->a≠0->∃ t,a.getLsbD t=true/\(dp null first (BitVec.twoPow 32 t) l).getLsbD i=true:=by
 intro l i
 have b:a≠0->∃ t,a.getLsbD t=true:=λh=>Wu λf=>h (L6.2 λj=>by
  cases g:a.getLsbD j with
  | false=>rfl
  | true=>exact absurd ⟨j,g⟩ f)
 induction l with
 | nil =>
  intro h _
  refine⟨i,h,?_⟩
  rw[dp,Wj]
  have:=BitVec.lt_of_getLsbD h
  simp[this]
 | cons s l k =>
  intro h e
  rw[dp] at h
  split at h
  .rename_i c
   obtain⟨t,d⟩:=b e
   exact⟨t,d,by rw[dp,Va c];exact h⟩
  .rename_i c
   split at h
   .rename_i h1
    rw[VM,VP] at h
    rcases h with h | h
    .obtain⟨t,d⟩:=b e
     exact⟨t,d,by rw[dp,U8 c,Va h1,VM,h];rfl⟩
    .obtain⟨t,m,n⟩:=k h e
     exact⟨t,m,by rw[dp,U8 c,Va h1,VM,n,Bool.or_true]⟩
   .rename_i h1
    obtain⟨t,d⟩:=b e
    exact⟨t,d,by rw[dp,U8 c,U8 h1];exact h⟩
theorem Lh {a:BV} {t:Nat} (h:a.getLsbD t=true):nW (BitVec.twoPow 32 t) a:=by
 intro i hi
 rw[Wj] at hi
 simp only[Vd,Vj] at hi
 rw[<-hi.2];exact h
def j0 (null:List Bool) (fs:List BV) (r:aN):List BV:=fs.set r.left.toNat (fs.getD r.left.toNat 0 ||| dp null fs 0 r.right)
theorem Ek (null:List Bool) (a:List BV) (r:aN):(j0 null a r).length=a.length:=by simp[j0]
def rX (g:ae) (null:List Bool) (fs:List BV):List BV:=g.rules.foldl (j0 null) fs
theorem Em (null:List Bool):∀ (l:List aN) (a:List BV),(l.foldl (j0 null) a).length=a.length
 | [],_=>rfl
 | r :: l,a=>by rw[VC,Em null l,Ek]
theorem KA (g:ae) (null:List Bool) (a:List BV):(rX g null a).length=a.length:=Em _ _ _
def cq (g:ae) (null:List Bool):List BV:=iter (rX g null) g.ao.length (List.replicate g.ao.length 0)
theorem xx {f:List BV->List BV} (a:∀ l,(f l).length=l.length):∀ (n:Nat) (l:List BV),(iter f n l).length=l.length
 | 0,_=>rfl
 | n+1,l=>by rw[iter,xx a n,a]
theorem Bz (g:ae) (null:List Bool):(cq g null).length=g.ao.length:=by
 rw[cq,xx (KA g null)];simp
def fc:List eV->Int->Int
 | [],_=>-1
 | e :: l,s=>if e.sym=s then e.to else fc l s
def fp (a:List aR):Int->List Int->Int × Bool
 | at_,[]=>(at_,true)
 | at_,s :: l=>if 0<=fc (a.getD at_.toNat bf).bI s/\fc (a.getD at_.toNat bf).bI s < a.length then fp a (fc (a.getD at_.toNat bf).bI s) l else (0,false)
def dt (a:List aR) (at_:Int) (l:List Int):Int × Bool:=if at_ < 0∨(a.length:Int)<=at_ then (0,false) else fp a at_ l
theorem yK {a:List aR} : ∀ (l:List Int) (at_:Int),0<=at_->at_ < a.length->0<=(fp a at_ l).1/\(fp a at_ l).1 < a.length
 | [],at_,h1,b=>⟨h1,b⟩
 | s :: l,at_,h1,b=>by
  rw[fp]
  split
  .rename_i h;exact yK l _ h.1 h.2
  .exact⟨by simp,by simp only;omega⟩
abbrev Sets:=List (List BV)
def du (ss:Sets) (i k:Nat):BV:=(ss.getD i []).getD k 0
def iz (l:List aC) (row:List BV) (x:aC) (s:BV):List BV:=List.zipWith (λy v=>if y=x then v ||| s else v) l row
def eJ (ls:List (List aC)) (ss:Sets) (st:Nat) (x:aC) (s:BV):Sets:=ss.set st (iz (ls.getD st []) (ss.getD st []) x s)
def jy (ls:List (List aC)) (ss:Sets):Prop:=ss.length=ls.length/\∀ i:Nat,(ss.getD i []).length=(ls.getD i []).length
def jv (a b:Sets):Prop:=a.length=b.length/\(∀ i:Nat,(a.getD i []).length=(b.getD i []).length)/\∀ i k,nW (du a i k) (du b i k)
theorem jv.refl {a:Sets} : jv a a:=⟨rfl,λ_=>rfl,λ_ _ _ h=>h⟩
theorem jv.trans {a b c:Sets} (h:jv a b) (k:jv b c):jv a c:=⟨h.1.trans k.1,λi=>(h.2.1 i).trans (k.2.1 i),λi j t d=>k.2.2 i j t (h.2.2 i j t d)⟩
theorem jv.qN {a b:Sets} (h:jv a b) (k:jv b a):a=b:=by
 refine List.ext_getElem h.1 λi h1 f=>?_
 have d:a.getD i []=a[i]:=by simp[U5,h1]
 have e:b.getD i []=b[i]:=by simp[U5,f]
 refine List.ext_getElem (by rw[<-d,<-e];exact h.2.1 i) λj g l=>?_
 have g1:du a i j=a[i][j]:=by rw[du,d];simp[U5,g]
 have g2:du b i j=b[i][j]:=by rw[du,e];simp[U5,l]
 rw[<-g1,<-g2]
 refine x9 λt _=>?_
 have p:=h.2.2 i j t
 have q:=k.2.2 i j t
 cases c:(du a i j).getLsbD t with
 | true=>rw[p c]
 | false =>
  cases m:(du b i j).getLsbD t with
  | false=>rfl
  | true=>rw[q m] at c;exact absurd c (by simp)
theorem jE {l:List aC} {row:List BV} {x:aC} {s:BV} (h:row.length=l.length):(iz l row x s).length=row.length:=by
 simp[iz,h]
theorem HZ {l:List aC} {row:List BV} {x:aC} {s:BV} (h:row.length=l.length) (k:Nat):(iz l row x s).getD k 0=if l[k]?=some x then row.getD k 0 ||| s else row.getD k 0:=by
 rw[iz,U5,List.getElem?_zipWith,U5]
 by_cases hk:k < l.length
 .have h1:l[k]?=some l[k]:=U6 hk
  have a:row[k]?=some (row[k]'(by omega)):=U6 (by omega)
  rw[h1,a]
  simp
 .rw[Vx (by omega),Vx (by omega)]
  simp
theorem kc {α:Type} (l:List α) (i j:Nat) (x d:α):(l.set i x).getD j d=if i=j/\i < l.length then x else l.getD j d:=by
 simp only[U5,Wk]
 by_cases e:i=j
 .subst e
  by_cases h:i < l.length
  .simp[h]
  .simp[h]
 .simp[e]
theorem ta {ls:List (List aC)} {ss:Sets} (a:jy ls ss) {st:Nat} (b:st < ls.length) (x:aC) (s:BV) (i k:Nat) :
  du (eJ ls ss st x s) i k=if i=st/\(ls.getD st [])[k]?=some x then du ss i k ||| s else du ss i k:=by
 have c:=a.1
 unfold du eJ
 rw[kc]
 by_cases e:st=i
 .subst e
  rw[Va ⟨rfl,by omega⟩,HZ (a.2 st)]
  simp
 .rw[U8 (λh=>e h.1),U8 (λh=>e h.1.symm)]
theorem gP {ls:List (List aC)} {ss:Sets} (a:jy ls ss) {st:Nat} (_:st < ls.length) (x:aC) (s:BV):jy ls (eJ ls ss st x s):=by
 refine⟨by rw[eJ,List.length_set];exact a.1,λi=>?_⟩
 have b:=a.1
 unfold eJ
 rw[kc]
 split
 .rename_i h
  obtain⟨rfl,_⟩:=h
  rw[jE (a.2 st)];exact a.2 st
 .exact a.2 i
theorem jy.eq {ls:List (List aC)} {a b:Sets} (h:jy ls a) (k:jy ls b):a.length=b.length/\∀ i:Nat,(a.getD i []).length=(b.getD i []).length:=⟨h.1.trans k.1.symm,λi=>(h.2 i).trans (k.2 i).symm⟩
theorem kd {ls:List (List aC)} {ss:Sets} (b:jy ls ss) {st:Nat} (a:st < ls.length) (x:aC) (s:BV):jv ss (eJ ls ss st x s):=by
 refine⟨(b.eq (gP b a x s)).1,(b.eq (gP b a x s)).2,λi k t c=>?_⟩
 rw[ta b a]
 split
 .rw[VM,c];rfl
 .exact c
theorem EL {ls:List (List aC)} {ss:Sets} (b:jy ls ss) {st:Nat} (a:st < ls.length) {x:aC} {s:BV} (h:eJ ls ss st x s=ss) {k:Nat} (hk:(ls.getD st [])[k]?=some x):nW s (du ss st k):=by
 have:=ta b a x s st k
 rw[h,Va ⟨rfl,hk⟩] at this
 intro t c
 rw[this,VM,c,Bool.or_true]
def cY (g:ae) (x:aC):List Int:=if 0<=x.al then (az g x.al).right.drop (x.dot+1).toNat else []
def eA (g:ae) (ls:List (List aC)) (st:Nat) (s:Int) (b:BV) (ss:Sets) (n:Nat):Sets:=(List.range n).foldl (λss (k:Nat)=>if (az g k).left = -1 - s then eJ ls ss st ⟨k,0⟩ b else ss) ss
def ij (g:ae) (null:List Bool) (a:List aR) (ls:List (List aC)) (i k:Nat) (ss:Sets):Sets :=
 if (bo g ((ls.getD i []).getD k ⟨0,0⟩)).2=false∨du ss i k=0 then ss
 else if 0<=(bo g ((ls.getD i []).getD k ⟨0,0⟩)).1 then eJ ls ss (dt a i [(bo g ((ls.getD i []).getD k ⟨0,0⟩)).1]).1.toNat ⟨((ls.getD i []).getD k ⟨0,0⟩).al,((ls.getD i []).getD k ⟨0,0⟩).dot+1⟩ (du ss i k)
 else eA g ls i (bo g ((ls.getD i []).getD k ⟨0,0⟩)).1 (dp null (cq g null) (du ss i k) (cY g ((ls.getD i []).getD k ⟨0,0⟩)))
  (eJ ls ss (dt a i [(bo g ((ls.getD i []).getD k ⟨0,0⟩)).1]).1.toNat ⟨((ls.getD i []).getD k ⟨0,0⟩).al,((ls.getD i []).getD k ⟨0,0⟩).dot+1⟩ (du ss i k)) g.rules.length
inductive jg (g:ae) (null:List Bool) (a:List aR) (ls:List (List aC)):Nat->aC->Nat->Prop
 | start:(⟨-1,0⟩:aC)∈ls.getD 0 []->jg g null a ls 0 ⟨-1,0⟩ g.ai.length
 | move {i:Nat} {x:aC} {t:Nat} {s:Int} : jg g null a ls i x t->bo g x=(s,true)->(⟨x.al,x.dot+1⟩:aC)∈ls.getD (dt a i [s]).1.toNat []->jg g null a ls (dt a i [s]).1.toNat ⟨x.al,x.dot+1⟩ t
 | begin {i:Nat} {x:aC} {t u:Nat} {s:Int} {k:Nat} : jg g null a ls i x t->bo g x=(s,true)->s < 0->k < g.rules.length->(az g k).left = -1 - s->(⟨k,0⟩:aC)∈ls.getD i [] ->
  (dp null (cq g null) (BitVec.twoPow 32 t) (cY g x)).getLsbD u=true->jg g null a ls i ⟨k,0⟩ u
theorem jg.mem {g:ae} {null:List Bool} {a:List aR} {ls:List (List aC)} {i:Nat} {x:aC} {t:Nat} (h:jg g null a ls i x t):x∈ls.getD i []:=by
 cases h <;> assumption
def kq (g:ae) (null:List Bool) (a:List aR) (ls:List (List aC)) (ss:Sets):Prop:=∀ i k x t,(ls.getD i [])[k]?=some x->(du ss i k).getLsbD t=true->jg g null a ls i x t
section
variable {g:ae} {null:List Bool} {a:List aR} {ls:List (List aC)}
theorem sn (b:ls.length=a.length) (h1:1<=a.length) (i:Nat) (l:List Int):(dt a i l).1.toNat < ls.length:=by
 unfold dt
 split
 .simp;omega
 .rename_i h
  have:=yK (a:=a) l (i:Int) (by omega) (by omega)
  omega
theorem tT {ss:Sets} (f:jy ls ss) (e:kq g null a ls ss) {st:Nat} (d:st < ls.length) {x:aC} {s:BV} (h:∀ t,s.getLsbD t=true->x∈ls.getD st []->jg g null a ls st x t):kq g null a ls (eJ ls ss st x s):=by
 intro i k y t c b
 rw[ta f d] at b
 split at b
 .rename_i j
  obtain⟨rfl,hk⟩:=j
  rw[hk] at c
  simp only[U7] at c
  subst c
  rw[VM,VP] at b
  rcases b with b | b
  .exact e i k x t hk b
  .exact h t b (Vc hk)
 .exact e i k y t c b
theorem js {st:Nat} (a:st < ls.length) (s:Int) (b:BV):∀ (n:Nat) (ss:Sets),jy ls ss->jy ls (eA g ls st s b ss n)/\jv ss (eA g ls st s b ss n)
 | 0,ss,c=>⟨c,.refl⟩
 | n+1,ss,c=>by
  obtain⟨h1,d⟩:=js a s b n ss c
  unfold eA at h1 d ⊢
  rw[Wd,Wl]
  simp only[VC,WL]
  split
  .exact⟨gP h1 a _ _,d.trans (kd h1 a _ _)⟩
  .exact⟨h1,d⟩
theorem wM {st:Nat} (c:st < ls.length) (s:Int) (b:BV) (f:∀ (k:Nat) t,(az g k).left = -1 - s->k < g.rules.length->b.getLsbD t=true->(⟨k,0⟩:aC)∈ls.getD st []->jg g null a ls st ⟨k,0⟩ t):∀ (n:Nat) (ss:Sets),n<=g.rules.length->jy ls ss->kq g null a ls ss->kq g null a ls (eA g ls st s b ss n)
 | 0,ss,_,_,d=>d
 | n+1,ss,l,h,d=>by
  have h1:=(js (g:=g) c s b n ss h).1
  have e:=wM c s b f n ss (by omega) h d
  unfold eA at h1 e ⊢
  rw[Wd,Wl]
  simp only[VC,WL]
  split
  .rename_i i
   exact tT h1 e c λt j hm=>f n t i (by omega) j hm
  .exact e
theorem zx {st:Nat} (c:st < ls.length) (s:Int) (b:BV):∀ (n:Nat) (ss:Sets),jy ls ss->eA g ls st s b ss n=ss->∀ k:Nat,k < n->(az g k).left = -1 - s->eJ ls ss st ⟨k,0⟩ b=ss
 | 0,ss,_,_,k,hk,_=>by omega
 | n+1,ss,f,he,k,hk,h=>by
  obtain⟨h1,i⟩:=js (g:=g) c s b n ss f
  have e:eA g ls st s b ss (n+1)=if (az g n).left = -1 - s then eJ ls (eA g ls st s b ss n) st ⟨n,0⟩ b else eA g ls st s b ss n:=by
   unfold eA
   rw[Wd,Wl]
   rfl
  have a:eA g ls st s b ss n=ss:=by
   refine jv.qN ?_ i
   rw[e] at he
   split at he
   .exact Eq.mp (VT (jv _) he) (kd h1 c _ _)
   .rw[he];exact .refl
  by_cases d:k=n
  .subst d
   rw[e,Va h,a] at he
   exact he
  .exact zx c s b n ss f a k (by omega) h
theorem Gr (c:ls.length=a.length) (h1:1<=a.length) {i:Nat} (hi:i < ls.length) (k:Nat) {ss:Sets} (b:jy ls ss):jy ls (ij g null a ls i k ss)/\jv ss (ij g null a ls i k ss):=by
 unfold ij
 split
 .exact⟨b,.refl⟩
 .have hw:=sn c h1 i [(bo g ((ls.getD i []).getD k ⟨0,0⟩)).1]
  split
  .exact⟨gP b hw _ _,kd b hw _ _⟩
  .have:=js (g:=g) hi (bo g ((ls.getD i []).getD k ⟨0,0⟩)).1 (dp null (cq g null) (du ss i k) (cY g ((ls.getD i []).getD k ⟨0,0⟩))) g.rules.length _ (gP b hw ⟨((ls.getD i []).getD k ⟨0,0⟩).al,((ls.getD i []).getD k ⟨0,0⟩).dot+1⟩ (du ss i k))
   exact⟨this.1,(kd b hw _ _).trans this.2⟩
theorem HM (c:ls.length=a.length) (h1:1<=a.length) {i k:Nat} (hi:i < ls.length) (hk:k < (ls.getD i []).length) {ss:Sets} (e:jy ls ss) (b:kq g null a ls ss):kq g null a ls (ij g null a ls i k ss):=by
 have d:(ls.getD i [])[k]?=some ((ls.getD i []).getD k ⟨0,0⟩):=getD_some hk
 unfold ij
 generalize (ls.getD i []).getD k ⟨0,0⟩=x at d ⊢
 split
 .exact b
 .rename_i f
  have j:bo g x=((bo g x).1,true):=by
   cases h:(bo g x).2 with
   | false=>exact absurd (.inl h) f
   | true=>rw[<-h]
  have m:du ss i k≠0:=λh=>f (.inr h)
  have hw:=sn c h1 i [(bo g x).1]
  have d1:=tT e b hw (x:=⟨x.al,x.dot+1⟩) (s:=du ss i k) λt n hm=>jg.move (b i k x t d n) j hm
  split
  .exact d1
  .rename_i l
   refine wM hi _ _ (λq u o p hu hm=>?_) _ _ (Vh _) (gP e hw _ _) d1
   obtain⟨t,r,v⟩:=RB _ _ hu m
   exact jg.begin (b i k x t d r) j (by omega) p o hm v
theorem L4 (l:ls.length=a.length) (h1:1<=a.length) {ss:Sets} (b:jy ls ss) (z:∀ k,(ls.getD 0 [])[k]?=some ⟨-1,0⟩->(du ss 0 k).getLsbD g.ai.length=true)
  (w:∀ i k,i < ls.length->k < (ls.getD i []).length->ij g null a ls i k ss=ss) {i:Nat} {x:aC} {t:Nat} (h:jg g null a ls i x t):∀ k,(ls.getD i [])[k]?=some x->(du ss i k).getLsbD t=true:=by
 have key:∀ {i:Nat} {x:aC} {t:Nat},jg g null a ls i x t->(∀ k,(ls.getD i [])[k]?=some x->(du ss i k).getLsbD t=true)->∃ k,(ls.getD i [])[k]?=some x/\i < ls.length/\k < (ls.getD i []).length/\(du ss i k).getLsbD t=true:=by
  intro i x t h m
  obtain⟨k,hk,e⟩:=V4.1 h.mem
  have f:(ls.getD i [])[k]?=some x:=by rw[U6 hk,e]
  refine⟨k,f,?_,hk,m k f⟩
  rcases Vw i ls.length with h | h
  .exact h
  .rw[U5,Vx h] at hk;simp at hk
 induction h with
 | start=>exact z
 | @move i x t s n o hm m =>
  intro j p
  obtain⟨k,f,hi,hk,c⟩:=key n m
  have hp:=w i k hi hk
  have d:(ls.getD i []).getD k ⟨0,0⟩=x:=by rw[U5,f];rfl
  have r:¬ du ss i k=0:=λe=>by rw[e] at c;simp at c
  unfold ij at hp
  rw[d,o,U8 (λh=>h.elim (by simp) r)] at hp
  simp only at hp
  have hw:=sn l h1 i [s]
  have v:eJ ls ss (dt a i [s]).1.toNat ⟨x.al,x.dot+1⟩ (du ss i k)=ss:=by
   split at hp
   .exact hp
   .exact jv.qN (Eq.mp (VT (jv _) hp) (js hi _ _ _ _ (gP b hw _ _)).2) (kd b hw _ _)
  exact EL b hw v p t c
 | @begin i x t u s q n o y A B hm hu m =>
  intro j p
  obtain⟨k,f,hi,hk,c⟩:=key n m
  have hp:=w i k hi hk
  have d:(ls.getD i []).getD k ⟨0,0⟩=x:=by rw[U5,f];rfl
  have r:¬ du ss i k=0:=λe=>by rw[e] at c;simp at c
  unfold ij at hp
  rw[d,o,U8 (λh=>h.elim (by simp) r)] at hp
  simp only at hp
  have hw:=sn l h1 i [s]
  rw[U8 (by omega)] at hp
  have v:eJ ls ss (dt a i [s]).1.toNat ⟨x.al,x.dot+1⟩ (du ss i k)=ss:=by
   exact jv.qN (Eq.mp (VT (jv _) hp) (js hi _ _ _ _ (gP b hw _ _)).2) (kd b hw _ _)
  rw[v] at hp
  have:=zx hi _ _ _ _ b hp q A B
  exact EL b hi this p u (Fc (Lh c) _ _ hu)
def vU (l:List BV):Nat:=(l.map BitVec.toNat).sum
def yI (ss:Sets):Nat:=(ss.map vU).sum
theorem IB:∀ {a b:List BV},a.length=b.length->(∀ k:Nat,nW (a.getD k 0) (b.getD k 0))->vU a<=vU b/\(a≠b->vU a < vU b)
 | [],[],_,_=>⟨Vh _,λh=>absurd rfl h⟩
 | [],_ :: _,h,_=>by simp at h
 | _ :: _,[],h,_=>by simp at h
 | x :: a,y :: b,h,f=>by
  obtain⟨h1,g⟩:=IB (a:=a) (b:=b) (by simpa using h) λk=>by simpa using f (k+1)
  have i:nW x y:=by simpa using f 0
  have e:=Dd.2 i
  have j:x.toNat<=y.toNat:=by have:=Ty y x;rw[BitVec.or_comm] at e;rw[e] at this;exact this
  simp only[vU,VF,List.sum_cons] at h1 g ⊢
  refine⟨by omega,λd=>?_⟩
  by_cases c:x=y
  .subst c
   have:=g λe=>d (by rw[e])
   omega
  .have:x.toNat≠y.toNat:=λe=>c (BitVec.eq_of_toNat_eq e)
   omega
theorem Jv:∀ {a b:Sets},jv a b->yI a<=yI b/\(a≠b->yI a < yI b)
 | [],[],_=>⟨Vh _,λh=>absurd rfl h⟩
 | [],_ :: _,h=>by have:=h.1;simp at this
 | _ :: _,[],h=>by have:=h.1;simp at this
 | x :: a,y :: b,h=>by
  obtain⟨h1,f⟩:=Jv (a:=a) (b:=b) ⟨by simpa using h.1,λi=>by simpa using h.2.1 (i+1),λi k=>by simpa [du] using h.2.2 (i+1) k⟩
  obtain⟨j,g⟩:=IB (a:=x) (b:=y) (by simpa using h.2.1 0) λk=>by simpa [du] using h.2.2 0 k
  simp only[yI,VF,List.sum_cons] at h1 f ⊢
  refine⟨by omega,λd=>?_⟩
  by_cases c:x=y
  .subst c
   have:=f λe=>d (by rw[e])
   omega
  .have:=g c
   omega
theorem Gd:∀ l:List BV,vU l<=l.length * 4294967296
 | []=>by simp[vU]
 | x :: l=>by
  have:=Gd l
  have a:=x.isLt
  simp only[vU,VF,List.sum_cons,Vm] at this ⊢
  omega
def PN (ls:List (List aC)):Nat:=(ls.map λl=>l.length * 4294967296).sum
theorem Fv:∀ {ls:List (List aC)} {ss:Sets},jy ls ss->yI ss<=PN ls
 | [],[],_=>Vh _
 | [],_ :: _,h=>by have:=h.1;simp at this
 | _ :: _,[],h=>by have:=h.1;simp at this
 | l :: ls,x :: ss,h=>by
  have h1:=Fv (ls:=ls) (ss:=ss) ⟨by simpa using h.1,λi=>by simpa using h.2 (i+1)⟩
  have a:=Gd x
  have b:x.length=l.length:=by simpa using h.2 0
  simp only[yI,PN,VF,List.sum_cons] at h1 ⊢
  rw[b] at a
  omega
end
theorem wg {g:ae} (a:g.de) : -100<=g.start/\g.start<=100:=by
 have:=a.ic;have:=a.start;have:=a.ao;omega
theorem Au (g:ae) (b:g.de) (x:aC) (a:cD g x):ay Tryz.prog 134 [.agg (ag g),.agg (bC x)] (.bm [gi (bo g x).1,gb (bo g x).2]) :=
 MV g (wg b) x a.1 a.2 (by have:=iJ b a.1;omega)
theorem AJ {l:List aC} {i:Nat} {y:aC} (h:l[i]?=some y):(bA l).getD i []=[gi y.al,gi y.dot]:=by simp[bA,U5,h,bC]
theorem gj (l:List aC):(bA l).length=l.length:=by simp[bA]
theorem Cv {g:ae} {x:aC} {s:Int} {b:Bool} (d:g.de) (f:cD g x) (h:bo g x=(s,b)) : -1000<=s/\s<=1000:=by
 have a:∀ s∈aG g x.al,-1000<=s/\s<=1000:=by
  intro s c
  unfold aG at c
  split at c
  .simp at c;subst c;have:=wg d;omega
  .have i:g.rules[x.al.toNat]?=some (az g x.al):=by unfold az;exact getD_some (by have:=f.1;omega)
   have h1:=d.sym _ (Vc i) s c
   have:=d.ai;have:=d.ao
   unfold gB at h1
   split at h1 <;> simp at h1 <;> omega
 unfold bo at h
 split at h
 .simp at h;omega
 .rename_i j
  simp only[Vb] at h
  have e:x.dot.toNat < (aG g x.al).length:=by have:=f.2;omega
  rw[<-h.1]
  exact a _ (Vc (getD_some e))
def lg:SC :=
 af [af [ab [aa 12 6,aa 13 1,aP 14 13,aV 15 .lss 12 14],bW 15 (.exit 0)],.block 1 (ab [aa 18 5,aa 19 1,aa 20 6,aM 21 2 19 20,aU 22 2 21,ba 23 133 [18,22],aa 5 23]),ab [aa 16 6,aE 17 .add 16 1,aa 6 17]]
def iq:SC :=
 af [af [.region false [⟨none,[aa 41 9,aa 42 41]⟩,⟨(some (42,true)),[aa 43 8,aE 44 .lss 43 0]⟩,⟨none,[c8 45 42 44,aa 46 45]⟩,⟨(some (46,true)),[aa 47 11,au 48 2 2,aj 49 48,aP 50 49,aV 51 .lss 47 50]⟩,⟨none,[c8 52 46 51]⟩],bW 52 (.exit 4)],.block 5 (af [ab [au 55 2 2,aj 56 55,aa 57 11,aM 58 3 56 57,au 59 0 58,aj 60 59,aa 61 8,((some 62),.op (.arith .sub (.val (.val (.int .i64 (-1)))) (.tmp 61))),aV 63 .eql 60 62],bg 63 (ab [aa 64 5,aa 65 11,((some 66),.op (.build [(.val (.int .i64 0)),(.val (.int .i64 0))] [(0,1,(.tmp 65))])),ba 67 133 [64,66],aa 5 67])]),ab [aa 53 11,aE 54 .add 53 1,aa 11 54]]
def lh:SC :=
 af [af [ab [aa 24 7,aa 25 5,aP 26 25,aV 27 .lss 24 26],bW 27 (.exit 2)],.block 3 (af [ab [aU 31 4 2,aa 32 5,aa 33 7,aM 34 2 32 33,aU 35 2 34,ba 36 134 [31,35],aa 30 36,cZ 37 0 30,cZ 38 1 30,aa 8 37,aa 9 38],ab [aa 39 5,aP 40 39,aa 10 40],af [ab [aT 11 0],bX 4 iq],ab [aa 68 5,aP 69 68,aa 70 10,aV 71 .gtr 69 70],bg 71 (ab [aT 7 (-1)])]),ab [aa 28 7,aE 29 .add 28 1,aa 7 29]]
def mQ:SF:=⟨af [ab [cd 2 0,ct 4 1],ab [ct 5 1],af [ab [aT 6 0],bX 0 lg],af [ab [aT 7 0],bX 2 lh],ab [aa 72 5,aa 4 72],.ret],
 [.tmp 4],73⟩
theorem rJ:aQ Tryz.prog 69 [2]=some mQ:=by kernel_rfl
def nf:SC :=
 af [af [ab [aa 11 8,aa 12 1,aP 13 12,aV 14 .lss 11 13],bW 14 (.exit 0)],.block 1 (af [ab [aU 18 4 3,aa 19 1,aa 20 8,aM 21 2 19 20,aU 22 2 21,ba 23 134 [18,22],aa 17 23,cZ 24 0 17,cZ 25 1 17,aa 9 24,aa 10 25],.region false [⟨none,[aa 26 10,aa 27 26]⟩,⟨(some (27,true)),[aa 28 9,aa 29 2,aV 30 .eql 28 29]⟩,⟨none,[c8 31 27 30]⟩],bg 31 (ab [aa 32 7,aa 33 1,aa 34 8,aM 35 2 33 34,au 36 0 35,aj 37 36,aa 38 1,aa 39 8,aM 40 2 38 39,au 41 1 40,aj 42 41,aE 43 .add 42 1,((some 44),.op (.build [(.val (.int .i64 0)),(.val (.int .i64 0))] [(0,1,(.tmp 37)),(1,1,(.tmp 43))])),ba 45 133 [32,44],aa 7 45])]),ab [aa 15 8,aE 16 .add 15 1,aa 8 16]]
def oI:SF:=⟨af [ab [cd 3 0,ct 6 1],ab [ct 7 1],af [ab [aT 8 0],bX 0 nf],ab [aa 46 7,aa 6 46],.ret],
 [.tmp 6],47⟩
theorem tG:aQ Tryz.prog 71 [3]=some oI:=by kernel_rfl
def mF:SC :=
 af [af [ab [aa 11 5,aa 12 0,aP 13 12,aV 14 .lss 11 13],bW 14 (.exit 0)],.block 1 (af [ab [aa 17 0,aa 18 5,aM 19 2 17 18,aU 20 2 19,aa 21 1,aa 22 5,aM 23 2 21 22,aU 24 2 23,((some 25),.op (.old (.binOp .neq 120 (.tmp 20) (.tmp 24) 120) 4))],bg 25 (af [ab [bu 4 false],.ret])]),ab [aa 15 5,aE 16 .add 15 1,aa 5 16]]
def oT:SF:=⟨af [ab [bu 4 false],af [ab [aa 6 0,aP 7 6,aa 8 1,aP 9 8,aV 10 .neq 7 9],bg 10 (af [ab [bu 4 false],.ret])],af [ab [aT 5 0],bX 0 mF],ab [bu 4 true],.ret],
 [.tmp 4],26⟩
theorem uv:aQ Tryz.prog 135 []=some oT:=by kernel_rfl
def nt:SF:=⟨af [ab [cd 2 0,aT 4 0],af [ab [aa 5 1,au 6 0 2,aj 7 6,aP 8 7,aV 9 .lss 5 8],bg 9 (af [ab [aa 10 1,aa 4 10],.ret])],ab [aa 11 1,au 12 0 2,aj 13 12,aP 14 13,aV 15 .sub 11 14,((some 16),.op (.arith .sub (.val (.val (.int .i64 (-1)))) (.tmp 15))),aa 4 16],.ret],
 [.tmp 4],17⟩
theorem sB:aQ Tryz.prog 70 [2]=some nt:=by kernel_rfl
def TH (g:ae) (out:List aC) (x:aC):Prop:=∀ (s:Int) (k:Nat) (R:aN),bo g x=(s,true)->s < 0->g.rules[k]?=some R->R.left = -1 - s->(⟨k,0⟩:aC)∈out
def PS (g:ae) (l:List aC) (H:View) (m:Nat) (T:Env) (H':View):Prop:=∃ (i:Nat) (r:V) (out:List aC),m=(300 - out.length) * 1000+(300 - i)/\i<=out.length/\aZ H' r 2 (bA out)/\fC H H' r/\cA out/\(∀ x∈out,nP g l x)/\(∀ x∈l,x∈out)/\(∀ j x,j < i->out[j]?=some x->TH g out x) /\
 T 2=.aF (ag g) 0/\T 5=r/\T 7=gi i
theorem yl (g:ae) (J:g.de) (l:List aC) (hl:∀ x∈l,cD g x) (hn:l.length<=10000) (u:V) (H:View) (ho:aZ H u 2 (bA l)):aw Tryz.prog 69 [.agg (ag g),u] H λr H'=>aZ H' r 2 (bA (cE g l))/\fC H H' r:=by
 refine aw.of mixed rJ ?_
 have hlen:dH u=some l.length:=by rw[ho.len];simp[bA]
 have br:=J.rules
 simp(disch:=omega)only[↓wr,seval,wq,mQ,ag,encS]
 refine bc.up l.length (λi T H'=>∃ (r:V) (out:List aC),aZ H' r 2 (bA out)/\fC H H' r/\cA out/\(∀ x,x∈out↔x∈l.take i)/\out.length<=287/\T 1=u/\T 2=.aF (ag g) 0/\T 5=r/\T 6=gi i)
  ⟨.emp 1,[],.nil,.emp,.nil,by simp,by simp,rfl,rfl,rfl,rfl⟩ ?_
 rintro i k T H' hk ⟨r,out,D,fr,n,hm,hle,t1,t2,t5,t6⟩
 simp(disch:=omega)only[↓wr,seval,wq,lg,t1,t2,t5,t6,hlen]
 apply ah.dec<;>intro hc
 .have N:l[i]?=some (l[i]'(by omega)):=U6 (by omega)
  have W:l.take (i+1)=l.take i ++ [l[i]'(by omega)]:=by rw[Vs,N];rfl
  generalize l[i]'(by omega)=y at N W
  obtain⟨id,hu,t⟩:=ho.sl (by simp[bA];omega)
  have X:H' id=.arr 2 (bA l):=by rw[(fr id (by rw[t];simp)).1,t]
  simp(disch:=omega)only[↓wr,seval,wq,t1,t2,t5,t6,hu,X,AJ N]
  refine⟨by first | omega | (simp[bA];omega),by first | omega | (simp[bA];omega),?_⟩
  refine av.eD ((Ay r out (by omega) y H' D).mono ?_)
  rintro p H2 ⟨O,l2⟩
  simp(disch:=omega)only[↓wr,seval,wq,t1,t2,t5,t6]
  have Y:∀ x,x∈dX out y↔x∈l.take (i+1):=λx=>by
   rw[jf,W,VK,hm,Wh,or_comm]
  have Z:=q0 (x:=y) n
  exact aI hk (by omega) ⟨p,dX out y,O,fr.step l2,Z,Y,gT J Z (λx b=>hl x (W4 ((Y x).1 b))),t1,t2,rfl,rfl⟩
 rw[Vn (by omega)] at hm
 simp(disch:=omega)only[↓wr,seval,wq,t1,t2,t5,t6]
 refine bc.intro (PS g l H) ((300 - out.length) * 1000+300)
  ⟨0,r,out,by omega,We _,D,fr,n,λx b=>.base ((hm x).1 b),λx b=>(hm x).2 b,λj x hj=>by omega,t2,t5,rfl⟩ ?_
 clear D fr n hm hle t1 t2 t5 t6 hc hk
 rintro m T1 H1 ⟨i,r,out,rfl,hi,D,fr,n,E,P,an,t2,t5,t7⟩
 have K:∀ x∈out,cD g x:=λx b=>(E x b).has hl
 have hle:=gT J n K
 have a7:dH r=some out.length:=by rw[D.len,gj]
 simp(disch:=omega)only[↓wr,seval,wq,lh,t2,t5,t7,a7]
 apply ah.dec<;>intro hc
 .have N:out[i]?=some (out[i]'(by omega)):=U6 (by omega)
  have Q:=K _ (Vg (show i < out.length by omega))
  have aq:=E _ (Vg (show i < out.length by omega))
  generalize out[i]'(by omega)=y at N Q aq
  have h1:=Au g J y Q
  cases F:bo g y with
  | mk s G =>
  have bs:=Cv J Q F
  rw[F] at h1
  obtain⟨id,hu,t⟩:=D.sl (by simp[bA];omega)
  rw[gj] at hu
  simp only[ag,encS,bC] at h1
  simp(disch:=omega)only[↓wr,seval,wq,t2,t5,t7,hu,t,AJ N,ag,encS]
  refine⟨by first | omega | (simp[bA];omega),by first | omega | (simp[bA];omega),?_⟩
  refine av.pure h1 ?_
  simp(disch:=omega)only[↓wr,seval,wq,t2,t5,t7,hu]
  refine bc.up g.rules.length (λk T H'=>∃ (p:V) (a:List aC),aZ H' p 2 (bA a)/\fC H H' p/\cA a/\(∀ x∈a,nP g l x)/\(∀ x∈out,x∈a)/\out.length<=a.length/\(a.length=out.length->a=out) /\
   (∀ (q:Nat) (R:aN),q < k->G=true->s < 0->g.rules[q]?=some R->R.left = -1 - s->(⟨q,0⟩:aC)∈a)/\T 2=.aF (ag g) 0/\T 5=p/\T 7=gi i/\T 8=gi s/\T 9=gb G/\T 10=gi out.length/\T 11=gi k)
   ⟨r,out,D,fr,n,E,λx b=>b,Vh _,λ_=>rfl,λq R hq=>by omega,t2,by rw[<-hu];exact t5,t7,rfl,rfl,rfl,rfl⟩ ?_
  clear D fr t2 t5 t7 t hu
  rintro k j T2 H2 hk ⟨p,a,O,I,c,d,v,S,o,w,t2,t5,t7,t8,t9,t10,t11⟩
  have U:∀ x∈a,cD g x:=λx b=>(d x b).has hl
  have bn:=gT J c U
  have f:dH p=some a.length:=by rw[O.len,gj]
  have more:out.length < a.length->∀ z:Env,z 2=.aF (ag g) 0->z 5=p->z 7=gi 0->∃ k',k' < (300 - out.length) * 1000+(300 - i)/\PS g l H k' z H2:=λh z e2 e5 e7 =>
   ⟨(300 - a.length) * 1000+300,by omega,0,p,a,by omega,We _,O,I,c,d,λx b=>v x (P x b),λj x hj=>by omega,e2,e5,e7⟩
  have stay:(G=true->s < 0->g.rules.length<=k)->¬ out.length < a.length->∀ z:Env,z 2=.aF (ag g) 0->z 5=p->z 7=gi ((i:Int)+1)->∃ k',k' < (300 - out.length) * 1000+(300 - i)/\PS g l H k' z H2:=λar h z e2 e5 e7=>by
   have e:=o (by omega)
   subst e
   refine⟨(300 - a.length) * 1000+(300 - (i+1)),by omega,i+1,p,a,rfl,by omega,O,I,c,d,P,λj x hj b=>?_,e2,e5,e7⟩
   rcases Vw j i with a1 | a1
   .exact an j x a1 b
   .have:j=i:=by omega
    subst this
    rw[N] at b
    simp only[U7] at b
    subst b
    intro s' q R h1 L A M
    rw[F] at h1
    simp only[Vb] at h1
    obtain⟨rfl,rfl⟩:=h1
    have:=(Vf.1 A).1
    exact w q R (by have:=ar rfl L;omega) rfl L A M
  cases G with
  | false =>
   simp(disch:=omega)only[↓wr,seval,wq,iq,t2,t5,t7,t8,t9,t10,t11,f]
   apply ah.dec<;>intro hg
   .simp(disch:=omega)only[↓wr,seval,wq,t2,t5,t7]
    exact more (by omega) _ t2 t5 rfl
   .simp(disch:=omega)only[↓wr,seval,wq,t2,t5,t7]
    exact stay (λh=>by simp at h) (by omega) _ t2 t5 rfl
  | true =>
   simp(disch:=omega)only[↓wr,seval,wq,iq,t2,t5,t7,t8,t9,t10,t11,f,ag]
   apply ah.dec<;>intro B
   .simp(disch:=omega)only[↓wr,seval,wq,t2,t5,t7,t8,t9,t10,t11,f,ag]
    apply ah.dec<;>intro a8
    .have hR:g.rules[k]?=some (g.rules[k]'(by omega)):=U6 (by omega)
     have hL:=J.left _ (Vg (show k < g.rules.length by omega))
     generalize g.rules[k]'(by omega)=R at hR hL
     simp(disch:=omega)only[↓wr,seval,wq,t2,t5,t7,t8,t9,t10,t11,ag,aW,U9,hR,Ve]
     apply ah.eq<;>intro he
     .simp(disch:=omega)only[↓wr,seval,wq,t2,t5,t7,t8,t9,t10,t11]
      refine av.eD ((Ay p a (by omega) ⟨k,0⟩ H2 O).mono ?_)
      rintro r3 H3 ⟨o3,l3⟩
      simp(disch:=omega)only[↓wr,seval,wq,t2,t5,t7,t8,t9,t10,t11]
      have a6:nP g l ⟨k,0⟩:=.step aq F B hR he
      refine aI hk (by omega) ⟨r3,dX a ⟨k,0⟩,o3,I.step l3,q0 c,λx b=>?_,λx b=>jf.2 (.inr (v x b)),by have:=DM a ⟨k,0⟩;omega,λh=>?_,λq R' hq L A M=>?_,t2,rfl,t7,t8,t9,t10,rfl⟩
      .rcases jf.1 b with rfl | b
       .exact a6
       .exact d x b
      .have bd:(⟨k,0⟩:aC)∈a:=Wu λbl=>by
        have:=B5 bl;omega
       rw[BS c bd] at h ⊢
       exact o h
      .rcases Vw q k with C | C
       .exact jf.2 (.inr (w q R' C rfl L A M))
       .have:q=k:=by omega
        subst this
        exact jf.2 (.inl rfl)
     .simp(disch:=omega)only[↓wr,seval,wq,t2,t5,t7,t8,t9,t10,t11]
      refine aI hk (by omega) ⟨p,a,O,I,c,d,v,S,o,λq R' hq L A M=>?_,t2,t5,t7,t8,t9,t10,rfl⟩
      rcases Vw q k with C | C
      .exact w q R' C rfl L A M
      .have:q=k:=by omega
       subst this
       rw[hR] at A
       simp only[U7] at A
       subst A
       exact absurd M he
    .simp(disch:=omega)only[↓wr,seval,wq,t2,t5,t7,t8,t9,t10,t11,f]
     apply ah.dec<;>intro hg
     .simp(disch:=omega)only[↓wr,seval,wq,t2,t5,t7]
      exact more (by omega) _ t2 t5 rfl
     .simp(disch:=omega)only[↓wr,seval,wq,t2,t5,t7]
      exact stay (λ_ _=>by omega) (by omega) _ t2 t5 rfl
   .simp(disch:=omega)only[↓wr,seval,wq,t2,t5,t7,t8,t9,t10,t11,f]
    apply ah.dec<;>intro hg
    .simp(disch:=omega)only[↓wr,seval,wq,t2,t5,t7]
     exact more (by omega) _ t2 t5 rfl
    .simp(disch:=omega)only[↓wr,seval,wq,t2,t5,t7]
     exact stay (λ_ h=>absurd h B) (by omega) _ t2 t5 rfl
 .simp(disch:=omega)only[↓wr,seval,wq,t2,t5,t7]
  have bx:i=out.length:=by omega
  rw[PY J hl n E P (λx b s k R h1 L A M=>by
   obtain⟨j,hj,e⟩:=V4.1 b
   exact an j x (by omega) (by rw[U6 hj,e]) s k R h1 L A M)]
  exact⟨D,fr⟩
theorem Lo (g:ae) (m:g.de) (l:List aC) (t:cA l) (v:∀ x∈l,cD g x) (s:Int) (u:V) (H:View) (w:aZ H u 2 (bA l)):aw Tryz.prog 71 [.agg (ag g),u,gi s] H λr H'=>aZ H' r 2 (bA (cW g l s))/\fC H H' r:=by
 refine aw.of mixed tG ?_
 have hlen:dH u=some l.length:=by rw[w.len];simp[bA]
 have hle:=gT m t v
 simp(disch:=omega)only[↓wr,seval,wq,oI,ag,encS]
 refine bc.up l.length (λi T H'=>∃ (r:V),aZ H' r 2 (bA (cW g (l.take i) s))/\fC H H' r/\T 1=u/\T 2=gi s/\T 3=.aF (ag g) 0/\T 7=r/\T 8=gi i)
  ⟨.emp 1,.nil,.emp,rfl,rfl,rfl,rfl,rfl⟩ ?_
 rintro i k T H' hk ⟨r,h,fr,t1,t2,t3,t7,t8⟩
 simp(disch:=omega)only[↓wr,seval,wq,nf,t1,t2,t3,t7,t8,hlen]
 apply ah.dec<;>intro B
 .have j:l[i]?=some (l[i]'(by omega)):=U6 (by omega)
  have b:=v _ (Vg (show i < l.length by omega))
  have a:=N1 (g:=g) t (show l[i]?=some (l[i]'(by omega)) from j) s
  generalize l[i]'(by omega)=y at j b a
  have h1:=Au g m y b
  cases c:bo g y with
  | mk q n =>
  rw[c] at h1
  obtain⟨id,hu,f⟩:=w.sl (by simp[bA];omega)
  have d:H' id=.arr 2 (bA l):=by rw[(fr id (by rw[f];simp)).1,f]
  rw[gj] at hu
  have z:=b.2
  have L:=iJ m b.1
  have o:=Ft (g:=g) (l:=l.take i) (s:=s)
  simp only[VS] at o
  simp only[ag,encS,bC] at h1
  simp(disch:=omega)only[↓wr,seval,wq,t1,t2,t3,t7,t8,hu,d,AJ j,ag,encS]
  refine⟨by first | omega | (simp[bA];omega),by first | omega | (simp[bA];omega),?_⟩
  refine av.pure h1 ?_
  have skip:¬ bo g y=(s,true)->∀ e:Env,e 1=u->e 2=gi s->e 3=.aF (ag g) 0->e 7=r->e 8=gi ((i:Int)+1)->∃ A,A < k/\BJ l.length A (λi T H'=>∃ (r:V),aZ H' r 2 (bA (cW g (l.take i) s))/\fC H H' r/\T 1=u/\T 2=gi s/\T 3=.aF (ag g) 0/\T 7=r/\T 8=gi i) e H':=λp e C D E F G=>by
   rw[U8 p] at a
   exact aI hk (by omega) ⟨r,by rw[a];exact h,fr,C,D,E,F,G⟩
  cases n with
  | false =>
   simp(disch:=omega)only[↓wr,seval,wq,t1,t2,t3,t7,t8]
   exact skip (by rw[c];simp) _ t1 t2 t3 t7 rfl
  | true =>
   simp(disch:=omega)only[↓wr,seval,wq,t1,t2,t3,t7,t8]
   apply ah.eq<;>intro he
   .simp(disch:=omega)only[↓wr,seval,wq,t1,t2,t3,t7,t8,hu,d,AJ j]
    refine⟨by first | omega | (simp[bA];omega),by first | omega | (simp[bA];omega),?_⟩
    refine⟨by first | omega | (simp[bA];omega),by first | omega | (simp[bA];omega),?_⟩
    refine av.eD ((Ay r (cW g (l.take i) s) (by omega) ⟨y.al,y.dot+1⟩ H' h).mono ?_)
    rintro I M ⟨J,K⟩
    simp(disch:=omega)only[↓wr,seval,wq,t1,t2,t3,t7,t8]
    rw[Va (by rw[c,he])] at a
    exact aI hk (by omega) ⟨I,by rw[a];exact J,fr.step K,t1,t2,t3,rfl,rfl⟩
   .simp(disch:=omega)only[↓wr,seval,wq,t1,t2,t3,t7,t8]
    exact skip (by rw[c];simp[he]) _ t1 t2 t3 t7 rfl
 .simp(disch:=omega)only[↓wr,seval,wq,t1,t2,t3,t7,t8]
  rw[Vn (by omega)] at h
  exact⟨h,fr⟩
theorem LJ {g:ae} (a:g.de) {i:Nat} (hi:i < g.ai.length+g.ao.length) : -100<=b6 g i/\b6 g i<=100:=by
 have:=a.ai;have:=a.ao
 unfold b6;split <;> omega
theorem Ii (g:ae) (a:g.de) (i:Nat) (hi:i < g.ai.length+g.ao.length):ay Tryz.prog 70 [.agg (ag g),gi i] (gi (b6 g i)):=by
 refine ay.val (by
  intro v b;simp at b
  rcases b with rfl | rfl
  .exact bz _ (bE g)
  .exact .val _) λH=>?_
 have:=a.ai;have:=a.ao
 refine aw.of mixed sB ?_
 unfold b6
 simp(disch:=omega)only[↓wr,seval,wq,nt,ag,encS]
 apply ah.dec<;>intro h
 .simp(disch:=omega)only[↓wr,seval,wq]
  rw[Va (by omega)]
 .simp(disch:=omega)only[↓wr,seval,wq,ag]
  rw[U8 (by omega)]
theorem zh (l:List aC):Tree (.aS (bA l)):=fq _ _ λx _ v a=>by simp[bC] at a;rcases a with rfl | rfl <;> exact .val _
theorem Ks (a b:List aC) (g:aH a) (j:aH b):ay Tryz.prog 135 [.aS (bA a),.aS (bA b)] (gb (a == b)):=by
 unfold aH at g j
 refine ay.val (by
  intro v f;simp at f
  rcases f with rfl | rfl <;> exact zh _) λH=>?_
 refine aw.of mixed uv ?_
 simp(disch:=omega)only[↓wr,seval,wq,oT,bA]
 apply ah.ne<;>intro h
 .simp(disch:=omega)only[↓wr,seval,wq]
  have:(a == b)=false:=by simp;rintro rfl;exact h rfl
  rw[this]
 .simp(disch:=omega)only[↓wr,seval,wq]
  refine bc.up a.length (λi T H'=>a.take i=b.take i/\T 0=.aS (bA a)/\T 1=.aS (bA b)/\T 5=gi i) ⟨rfl,rfl,rfl,rfl⟩ ?_
  rintro i k T H' hk ⟨he,t0,t1,t5⟩
  simp(disch:=omega)only[↓wr,seval,wq,mF,t0,t1,t5,bA]
  apply ah.dec<;>intro l
  .have d:a[i]?=some (a[i]'(by omega)):=U6 (by omega)
   have c:b[i]?=some (b[i]'(by omega)):=U6 (by omega)
   generalize a[i]'(by omega)=x at d
   generalize b[i]'(by omega)=y at c
   simp(disch:=omega)only[↓wr,seval,wq,t0,t1,t5,bA,U9,d,c,Ve,bC]
   refine lM (xs:=#[.int .i64 x.al,.int .i64 x.dot]) (ys:=#[.int .i64 y.al,.int .i64 y.dot]) Tryz.underlying120 (by kernel_rfl) (by kernel_rfl) ?_ ?_ (tn x y) (.inr ⟨rfl,rfl⟩) ?_
   .rfl
   .rfl
   rw[Bi]
   simp(disch:=omega)only[↓wr,seval,wq,t0,t1,t5]
   apply ah.dec<;>intro e
   .simp(disch:=omega)only[↓wr,seval,wq,t0,t1,t5]
    exact aI hk (by omega) ⟨by rw[Vs,Vs,he,d,c,e],t0,t1,rfl⟩
   .simp(disch:=omega)only[↓wr,seval,wq]
    have:(a == b)=false:=by
     simp;rintro rfl
     rw[d] at c;simp at c;exact e c
    rw[this]
  .simp(disch:=omega)only[↓wr,seval,wq,t0,t1,t5]
   rw[Vn (by omega),Vn (by omega)] at he
   rw[he,beq_self_eq_true]
def Cy (p:Nat->Bool):Nat->BV
 | 0=>0
 | n+1=>if p n=true then Cy p n ||| BitVec.twoPow 32 n else Cy p n
theorem Az (p:Nat->Bool):∀ (n i:Nat),n<=32->((Cy p n).getLsbD i=true↔i < n/\p i=true)
 | 0,i,_=>by simp[Cy]
 | n+1,i,h=>by
  have c:=Az p n i (by omega)
  rw[Cy]
  split
  .rename_i hp
   rw[VM,VP,c,Wj]
   simp only[Vd,Vj]
   constructor
   .rintro (⟨h1,a⟩ | ⟨h1,rfl⟩)
    .exact⟨by omega,a⟩
    .exact⟨by omega,hp⟩
   .rintro⟨h1,a⟩
    rcases Vw i n with b | b
    .exact .inl ⟨b,a⟩
    .exact .inr ⟨by omega,by omega⟩
  .rename_i hp
   rw[c]
   constructor
   .rintro⟨h1,a⟩;exact⟨by omega,a⟩
   .rintro⟨h1,a⟩
    refine⟨?_,a⟩
    rcases Vw i n with b | b
    .exact b
    .have:i=n:=by omega
     subst this;exact absurd a hp
structure cH where
 al:Int
 set:BV
 deriving DecidableEq
structure pD where
 state:Int
 term:Int
 kind:Int
 al:Int
 other:Int
 deriving DecidableEq
noncomputable def bF (g:ae):List aR × Int:=if isRed g=true then gv g 302 0 eQ else ([],1)
noncomputable def aL (g:ae) (a:List aR):List (List aC):=a.map λs=>cE g s.aX
open Classical in
noncomputable def pn (g:ae) (a:List aR) (i:Nat) (x:aC):BV:=Cy (λt=>decide (jg g (ak g false) a (aL g a) i x t)) 32
noncomputable def ez (g:ae) (a:List aR) (i:Nat):List cH:=((aL g a).getD i []).filterMap λx=>if (bo g x).2=false/\0<=x.al then some ⟨x.al,pn g a i x⟩ else none
noncomputable def dZ (g:ae) (a:List aR):List (List cH):=(List.range a.length).map (ez g a)
noncomputable def vS (g:ae):List (List cH) × Int:=if (bF g).2=0 then (dZ g (bF g).1,0) else ([],(bF g).2)
def hasB (s:BV) (n:Int):Bool:=decide (s &&& gX n≠0)
def dA (l:List cH) (n:Int):List Int:=(l.filter λx=>hasB x.set n).map cH.al
def fF (g:ae) (t:Int):Int:=match g.ai[t.toNat]? with
 | some x=>x.level
 | none=>0
def uQ (g:ae) (t:Int):Int:=match g.ai[t.toNat]? with
 | some x=>x.assoc
 | none=>0
def kL (g:ae) (al term:Int):Int :=
 if aO g=false∨al < 0∨(g.rules.length:Int)<=al∨term < 0∨(g.ai.length:Int) < term then 0
 else if term=g.ai.length∨(az g al).prec < 0∨fF g (az g al).prec=0∨fF g term=0 then 4
 else if fF g term < fF g (az g al).prec∨fF g (az g al).prec=fF g term/\uQ g term=1 then 1
 else if fF g (az g al).prec < fF g term∨uQ g term=2 then 2
 else 3
def gq:List eV->Int->Option Cell
 | [],_=>none
 | e :: l,s=>if e.sym=s then some ⟨1,e.to⟩ else gq l s
def eY (g:ae) (s:aR) (term:Int):Cell:=match gq s.bI term with
 | some c=>c
 | none=>if term=g.ai.length/\(⟨-1,1⟩:aC)∈s.aX then ⟨3,0⟩ else ⟨0,0⟩
def jt (state term r0:Int) (l:List Int):List pD:=l.map λr=>⟨state,term,5,r,r0⟩
def dd (g:ae) (s:aR) (l:List cH) (state term:Int):Cell × List pD:=match dA l term with
 | []=>(eY g s term,[])
 | r :: rs =>
  if (eY g s term).kind=0 then (⟨2,r⟩,jt state term r rs)
  else (if kL g r term=1 then ⟨2,r⟩ else if kL g r term=3 then ⟨0,0⟩ else eY g s term,jt state term r rs ++ [⟨state,term,kL g r term,r,-1⟩])
def gN (g:ae) (s:aR) (l:List cH) (state:Int) (n:Nat):List Cell:=(List.range n).map λ(k:Nat)=>(dd g s l state k).1
def tB (g:ae) (s:aR) (l:List cH) (state:Int) (n:Nat):List pD:=(List.range n).flatMap λ(k:Nat)=>(dd g s l state k).2
def jR (a:List aR) (i:Int) (k:Int):Int:=if (dt a i [-1 - k]).2=true then (dt a i [-1 - k]).1 else -1
def xw (g:ae) (a:List aR) (i:Int):List Int:=(List.range g.ao.length).map λ(k:Nat)=>jR a i k
def fy (g:ae) (a:List aR) (l:List (List cH)) (n:Nat):gn:=⟨(List.range n).map λ(i:Nat)=>gN g (a.getD i bf) (l.getD i []) i (g.ai.length+1),(List.range n).map λ(i:Nat)=>xw g a i⟩
def jc (g:ae) (a:List aR) (l:List (List cH)) (n:Nat):List pD:=(List.range n).flatMap λ(i:Nat)=>tB g (a.getD i bf) (l.getD i []) i (g.ai.length+1)
noncomputable def iY (g:ae):gn × List pD × Int:=if (bF g).2=0 then (fy g (bF g).1 (vS g).1 (bF g).1.length,jc g (bF g).1 (vS g).1 (bF g).1.length,0) else (⟨[],[]⟩,[],(bF g).2)
structure dF (g:ae) (at_ i:Nat) (out:List aR):Prop where
 aX:∀ s∈out,cA s.aX/\s.aX≠[]/\∀ x∈s.aX,cD g x
 bI:∀ j s,out[j]?=some s->s.bI.length<=40/\(j=at_->s.bI.length<=i)/\(at_ < j->s.bI=[])
 to:∀ s∈out,∀ e∈s.bI,0<=e.to/\e.to < out.length
 sym:∀ s∈out,∀ e∈s.bI,-1000<=e.sym/\e.sym<=1000
theorem mem_modify {α:Type} {l:List α} {i:Nat} {f:α->α} {y:α} (h:y∈l.modify i f):y∈l∨∃ x,l[i]?=some x/\y=f x:=by
 obtain⟨j,a,e⟩:=V4.1 h
 simp only[List.length_modify] at a
 rw[List.getElem_modify] at e
 split at e
 .rename_i b
  subst b
  exact .inr ⟨l[i],U6 a,e.symm⟩
 .exact .inl (e ▸ Vg a)
theorem OW (g:ae) (l:List aC) (at_:Nat) (out:List aR) (i:Nat):out.length<=(dO g l at_ out i).length/\(dO g l at_ out i).length<=out.length+1:=by
 unfold dO
 split
 .omega
 .split
  .simp
  .simp
theorem dF.put {g:ae} {at_ i:Nat} {out:List aR} (h:dF g at_ i out) (hi:i < 40) {s:Int} (c : -1000<=s/\s<=1000) {to:Int} (d:0<=to/\to < out.length):dF g at_ (i+1) (out.modify at_ λx=>(⟨x.aX,x.bI ++ [⟨s,to⟩]⟩:aR)):=by
 refine⟨λy a=>?_,λj y a=>?_,λy a e he=>?_,λy a e he=>?_⟩
 rotate_right
 .rcases mem_modify a with a | ⟨x,b,rfl⟩
  .exact h.sym y a e he
  .rcases VK.1 he with he | he
   .exact h.sym x (Vc b) e he
   .simp at he;subst he;exact c
 .rcases mem_modify a with a | ⟨x,b,rfl⟩
  .exact h.aX y a
  .exact h.aX x (Vc b)
 .rw[List.getElem?_modify] at a
  cases b:out[j]? with
  | none=>rw[b] at a;simp at a
  | some x =>
   rw[b] at a
   have h1:=h.bI j x b
   by_cases e:at_=j
   .subst e
    simp at a
    subst a
    have:=h1.2.1 rfl
    refine⟨by simp;omega,λ_=>by simp;omega,λh=>by omega⟩
   .simp[e] at a
    subst a
    exact⟨h1.1,λh=>absurd h.symm e,h1.2.2⟩
 .rw[List.length_modify]
  rcases mem_modify a with a | ⟨x,b,rfl⟩
  .exact h.to y a e he
  .rcases VK.1 he with he | he
   .exact h.to x (Vc b) e he
   .simp at he;subst he;exact d
theorem dF.up {g:ae} {at_ i:Nat} {out:List aR} (h:dF g at_ i out):dF g at_ (i+1) out :=
 ⟨h.aX,λj s a=>by have:=h.bI j s a;exact⟨this.1,λe=>by have:=this.2.1 e;omega,this.2.2⟩,h.to,h.sym⟩
theorem dF.add {g:ae} {at_ i:Nat} {out:List aR} (h:dF g at_ i out) {k:List aC} (hk:cA k/\k≠[]/\∀ x∈k,cD g x):dF g at_ i (out ++ [⟨k,[]⟩]):=by
 refine⟨λy a=>?_,λj y a=>?_,λy a e he=>?_,λy a e he=>?_⟩
 rotate_right
 .rcases VK.1 a with a | a
  .exact h.sym y a e he
  .simp at a;subst a;simp at he
 .rcases VK.1 a with a | a
  .exact h.aX y a
  .simp at a;subst a;exact hk
 .rcases Vw j out.length with b | b
  .rw[VG b] at a;exact h.bI j y a
  .rw[VQ b] at a
   cases c:j - out.length with
   | zero=>rw[c] at a;simp at a;subst a;exact⟨by simp,λ_=>by simp,λ_=>rfl⟩
   | succ q=>rw[c] at a;simp at a
 .rcases VK.1 a with a | a
  .have:=h.to y a e he;simp;omega
  .simp at a;subst a;simp at he
theorem dF.step {g:ae} {l:List aC} (c:cA l) (d:∀ x∈l,cD g x) {at_ i:Nat} {out:List aR} (h:dF g at_ i out) (hi:i < 40):dF g at_ (i+1) (dO g l at_ out i):=by
 unfold dO
 split
 .exact h.up
 .rename_i a
  have b : -1000<=b6 g i/\b6 g i<=1000:=by unfold b6;split <;> omega
  split
  .exact(h.add ⟨MX _ c,a,Qd d⟩).put hi b (by simp;omega)
  .have:=z8 out (cW g l (b6 g i))
   exact h.put hi b ⟨by omega,this⟩
theorem dF.next {g:ae} {at_ i:Nat} {out:List aR} (h:dF g at_ i out):dF g (at_+1) 0 out :=
 ⟨h.aX,λj s a=>by
  have:=h.bI j s a
  exact⟨this.1,λe=>by have:=this.2.2 (by omega);simp[this],λe=>this.2.2 (by omega)⟩,h.to,h.sym⟩
theorem dF.row {g:ae} {l:List aC} (a:cA l) (b:∀ x∈l,cD g x) {at_:Nat} {out:List aR} (h:dF g at_ 0 out):∀ n:Nat,n<=40->dF g at_ n ((List.range n).foldl (dO g l at_) out)/\out.length<=((List.range n).foldl (dO g l at_) out).length/\((List.range n).foldl (dO g l at_) out).length<=out.length+n
 | 0,_=>⟨h,Vh _,Vh _⟩
 | n+1,c=>by
  obtain⟨h1,d,e⟩:=dF.row a b h n (by omega)
  rw[Wd,Wl]
  simp only[VC,WL]
  have:=OW g l at_ ((List.range n).foldl (dO g l at_) out) n
  exact⟨h1.step a b (by omega),by omega,by omega⟩
theorem sW {g:ae} : dF g 0 0 eQ:=by
 refine⟨λs a=>?_,λj s a=>?_,λs a e he=>?_,λs a e he=>?_⟩
 rotate_right
 .simp[eQ] at a;subst a;simp at he
 .simp[eQ] at a;subst a
  refine⟨by simp[cA],by simp,λx b=>?_⟩
  simp at b;subst b
  exact⟨⟨by simp,by simp only;omega⟩,by simp,by simp[aG]⟩
 .have:=Vc a
  simp[eQ] at this;subst this;simp
 .simp[eQ] at a;subst a;simp at he
theorem dF.qL {g:ae} (a:g.de) {at_ i:Nat} {out:List aR} (h:dF g at_ i out) {j:Nat} (b:j < out.length):cA (cE g (out.getD j bf).aX)/\∀ x∈cE g (out.getD j bf).aX,cD g x:=by
 have hm:=Vc (getD_some (d:=bf) b)
 exact⟨kT _ _,λx c=>((bY a (h.aX _ hm).2.2).1 c).has (h.aX _ hm).2.2⟩
structure kY (g:ae) (a:List aR):Prop where
 aX:∀ s∈a,cA s.aX/\s.aX≠[]/\∀ x∈s.aX,cD g x
 bI:∀ s∈a,s.bI.length<=40
 to:∀ s∈a,∀ e∈s.bI,0<=e.to/\e.to < a.length
 sym:∀ s∈a,∀ e∈s.bI,-1000<=e.sym/\e.sym<=1000
theorem dF.ok {g:ae} {at_ i:Nat} {out:List aR} (h:dF g at_ i out):kY g out :=
 ⟨h.aX,λs a=>by obtain⟨j,b,e⟩:=V4.1 a;exact(h.bI j s (by rw[U6 b,e])).1,h.to,h.sym⟩
theorem Fl {g:ae} (b:g.de):∀ (f at_:Nat) (out:List aR),dF g at_ 0 out->1<=out.length->out.length<=300->(gv g f at_ out).2=0->kY g (gv g f at_ out).1/\1<=(gv g f at_ out).1.length/\(gv g f at_ out).1.length<=300
 | 0,_,out,h,h1,c,_=>⟨h.ok,h1,c⟩
 | f+1,at_,out,h,h1,c,a=>by
  rw[gv] at a ⊢
  split
  .rename_i d
   rw[Va d] at a
   have hr:=dF.row (h.qL b d).1 (h.qL b d).2 h (g.ai.length+g.ao.length) (by have:=b.ai;have:=b.ao;omega)
   rw[show (List.range (g.ai.length+g.ao.length)).foldl (dO g (cE g (out.getD at_ bf).aX) at_) out=C6 g at_ out (g.ai.length+g.ao.length) from rfl] at hr
   split
   .rename_i e;rw[Va e] at a;simp at a
   .rename_i e
    rw[U8 e] at a
    exact Fl b f (at_+1) _ hr.1.next (by omega) (by omega) a
  .exact⟨h.ok,h1,c⟩
theorem Gg {g:ae} (a:g.de) (h:(bF g).2=0):kY g (bF g).1/\1<=(bF g).1.length/\(bF g).1.length<=300:=by
 unfold bF at h ⊢
 split
 .rename_i hr
  rw[Va hr] at h
  exact Fl a 302 0 eQ sW (by simp[eQ]) (by simp[eQ]) h
 .rename_i hr
  rw[U8 hr] at h
  simp at h
def ly (l:List eV):List (List V):=l.map sY
def eU (s:aR):List V:=[.aS (bA s.aX),.aS (ly s.bI)]
def bU (a:List aR):V:=.aS (a.map eU)
theorem RJ (l:List eV):Tree (.aS (ly l)):=fq _ _ λx _ v a=>by simp[sY] at a;rcases a with rfl | rfl <;> exact .val _
theorem vV (s:aR):∀ v∈eU s,Tree v:=by
 intro v a;simp[eU] at a
 rcases a with rfl | rfl
 .exact zh _
 .exact RJ _
theorem pC (a:List aR):Tree (bU a):=fq _ _ λx _=>vV x
abbrev tw:=V × V × aR
def iX (A:List tw):List (List V):=A.map λx=>[x.1,x.2.1]
def te (A:List tw):List eC:=A.flatMap λx=>[(x.1,2,bA x.2.2.aX),(x.2.1,2,ly x.2.2.bI)]
theorem gx (A:List tw):(iX A).length=A.length:=by simp[iX]
theorem vn {A:List tw} {x:tw} (a:x∈A):(x.1,2,bA x.2.2.aX)∈te A/\(x.2.1,2,ly x.2.2.bI)∈te A:=by
 constructor <;> exact List.mem_flatMap.2 ⟨x,a,by simp⟩
theorem Ja {h:aB} {u:V} {A:List tw} (f:aZ h.view u 2 (iX A)) (g:∀ x∈A,aZ h.view x.1 2 (bA x.2.2.aX)/\aZ h.view x.2.1 2 (ly x.2.2.bI)):cM h u (bU (A.map λx=>x.2.2)):=by
 have c:∀ i (hi:i < A.length),(iX A).getD i []=[(A[i]).1,(A[i]).2.1]/\(((A.map λx=>x.2.2).map eU).getD i [])=eU (A[i]).2.2:=λi hi=>by
  simp[iX,U5,hi]
 refine cM.own f (by simp[iX]) (λi hi=>?_) (λi j hi b=>?_)
 .have a:i < A.length:=by simpa [iX] using hi
  rw[(c i a).1,(c i a).2];rfl
 .have a:i < A.length:=by simpa [iX] using hi
  rw[(c i a).2] at b ⊢
  rw[(c i a).1]
  have d:=g _ (Vg a)
  generalize A[i]'a=y at d b
  obtain⟨h1,k⟩:=d
  match j,b with
  | 0,_ =>
   refine cM.own h1 rfl (λi _=>rfl) (λi j hi b=>?_)
   rw[gj] at hi
   have e:(bA y.2.2.aX).getD i []=bC y.2.2.aX[i]:=by simp[bA,U5,hi]
   rw[e] at b ⊢
   match j,b with
   | 0,_=>exact .val _
   | 1,_=>exact .val _
  | 1,_ =>
   refine cM.own k rfl (λi _=>rfl) (λi j hi b=>?_)
   simp only[ly,Vl] at hi
   have e:(ly y.2.2.bI).getD i []=sY y.2.2.bI[i]:=by simp[ly,U5,hi]
   rw[e] at b ⊢
   match j,b with
   | 0,_=>exact .val _
   | 1,_=>exact .val _
  | n+2,b=>exact absurd b (by simp[eU])
def oh:SC :=
 af [af [ab [aa 6 5,aa 7 0,aP 8 7,aV 9 .lss 6 8],bW 9 (.exit 0)],.block 1 (af [ab [aa 12 0,aa 13 5,aM 14 2 12 13,au 15 0 14,aj 16 15,aa 17 1,ba 18 135 [16,17]],bg 18 (af [ab [aa 19 5,aa 4 19],.ret])]),ab [aa 10 5,aE 11 .add 10 1,aa 5 11]]
def pS:SF:=⟨af [ab [aT 4 0],af [ab [aT 5 0],bX 0 oh],ab [aT 4 (-1)],.ret],
 [.tmp 4],20⟩
theorem uz:aQ Tryz.prog 72 []=some pS:=by kernel_rfl
def na:SC :=
 af [af [ab [aa 31 7,au 32 0 1,aj 33 32,aP 34 33,au 35 1 1,aj 36 35,aP 37 36,aV 38 .add 34 37,aV 39 .lss 31 38],bW 39 (.exit 2)],.block 3 (af [ab [aU 42 4 1,aa 43 7,ba 44 70 [42,43],aa 8 44],ab [aU 45 4 1,aa 46 6,aa 47 8,ba 48 71 [45,46,47],aa 9 48],af [ab [aa 49 9,aP 50 49,aE 51 .eql 50 0],bg 51 (.exit 3)],ab [aa 52 4,aa 53 9,ba 54 72 [52,53],aa 10 54],af [ab [aa 55 10,aE 56 .lss 55 0],bg 56 (af [ab [aa 57 4,aP 58 57,aa 10 58],ab [aa 59 4,aa 60 9,((some 61),.op (.build [(.emp 1),(.emp 1)] [(0,1,(.tmp 60))])),((some 62),.op (.bG 1 2 [(.emp 1),(.emp 1)] [(0,(.tmp 61))])),fM 63 2 48 59 62,aa 4 63]])],ab [aa 64 4,aa 65 5,aa 66 4,aa 67 5,aM 68 2 66 67,au 69 1 68,aj 70 69,aa 71 8,aa 72 10,((some 73),.op (.build [(.val (.int .i64 0)),(.val (.int .i64 0))] [(0,1,(.tmp 71)),(1,1,(.tmp 72))])),((some 74),.op (.bG 1 2 [(.val (.int .i64 0)),(.val (.int .i64 0))] [(0,(.tmp 73))])),fM 75 2 16 70 74,aM 76 2 64 65,au 77 1 76,cG 1 77 75]]),ab [aa 40 7,aE 41 .add 40 1,aa 7 41]]
def mD:SC :=
 af [af [ab [aa 18 5,aa 19 4,aP 20 19,aV 21 .lss 18 20],bW 21 (.exit 0)],.block 1 (af [ab [aU 24 4 1,aa 25 4,aa 26 5,aM 27 2 25 26,au 28 0 27,aj 29 28,ba 30 69 [24,29],aa 6 30],af [ab [aT 7 0],bX 2 na],ab [aa 78 4,aP 79 78,aE 80 .gtr 79 300],bg 80 (af [ab [ct 2 1,aT 3 5],.ret])]),ab [aa 22 5,aE 23 .add 22 1,aa 5 23]]
def oU:SF:=⟨af [ab [cd 1 0,ct 2 1,aT 3 0],af [ab [aU 11 4 1,ba 12 15 [11],cb 13 12],bg 13 (af [ab [ct 2 1,aT 3 1],.ret])],ab [((some 14),.op (.build [(.val (.int .i64 0)),(.val (.int .i64 0))] [(0,1,(.val (.val (.int .i64 (-1)))))])),((some 15),.op (.bG 1 2 [(.val (.int .i64 0)),(.val (.int .i64 0))] [(0,(.tmp 14))])),((some 16),.op (.build [(.emp 1),(.emp 1)] [(0,1,(.tmp 15))])),((some 17),.op (.bG 1 2 [(.emp 1),(.emp 1)] [(0,(.tmp 16))])),aa 4 17],af [ab [aT 5 0],bX 0 mD],ab [aa 81 4,aa 2 81,aT 3 0],.ret],
 [.tmp 2,.tmp 3],82⟩
theorem ui:aQ Tryz.prog 32 [1]=some oU:=by kernel_rfl
theorem LR:∀ (a:List aR) (k:List aC) (i:Nat),(∀ j s,j < i->a[j]?=some s->s.aX≠k)->(∀ s,a[i]?=some s->s.aX=k->findD a k=i)/\(i=a.length->findD a k = -1):=by
 intro a k i h
 refine⟨λs h1 c=>G1 a k i s h1 c h,λe=>?_⟩
 subst e
 refine Cc a k λs d=>?_
 obtain⟨j,b,e⟩:=V4.1 d
 exact h j s b (by rw[U6 b,e])
theorem Ms (a:List aR) (g:aH a) (l:∀ s∈a,aH s.aX) (k:List aC) (hk:aH k):ay Tryz.prog 72 [bU a,.aS (bA k)] (gi (findD a k)):=by
 unfold aH at g
 refine ay.val (by
  intro v f;simp at f
  rcases f with rfl | rfl
  .exact pC _
  .exact zh _) λH=>?_
 refine aw.of mixed uz ?_
 simp(disch:=omega)only[↓wr,seval,wq,pS,bU]
 refine bc.up a.length (λi T H'=>(∀ j s,j < i->a[j]?=some s->s.aX≠k)/\T 0=bU a/\T 1=.aS (bA k)/\T 5=gi i) ⟨λj s h=>by omega,rfl,rfl,rfl⟩ ?_
 rintro i n T H' m ⟨c,t0,t1,t5⟩
 obtain⟨f1,f2⟩:=LR a k i c
 simp(disch:=omega)only[↓wr,seval,wq,oh,t0,t1,t5,bU]
 apply ah.dec<;>intro o
 .have d:a[i]?=some (a[i]'(by omega)):=U6 (by omega)
  have hm:=l _ (Vg (show i < a.length by omega))
  generalize a[i]'(by omega)=x at d hm
  simp(disch:=omega)only[↓wr,seval,wq,t0,t1,t5,bU,U9,d,Ve,eU]
  refine av.pure (Ks x.aX k hm hk) ?_
  simp(disch:=omega)only[↓wr,seval,wq,t0,t1,t5]
  apply ah.split<;>intro e
  .simp(disch:=omega)only[↓wr,seval,wq,t0,t1,t5]
   rw[f1 x d (by simpa using e)]
  .simp(disch:=omega)only[↓wr,seval,wq,t0,t1,t5]
   refine aI m (by omega) ⟨λj s p b=>?_,t0,t1,rfl⟩
   rcases Vw j i with h | h
   .exact c j s h b
   .have:j=i:=by omega
    subst this
    rw[d] at b;simp at b;subst b
    simpa using e
 .simp(disch:=omega)only[↓wr,seval,wq,t0,t1,t5]
  rw[f2 (by omega)]
theorem La {g:ae} (a:g.de) {s:aR} (h:cA s.aX/\s.aX≠[]/\∀ x∈s.aX,cD g x):aH s.aX:=by
 have:=gT a h.1 h.2.2;unfold aH;omega
theorem dh.U3 {H:View} {u:V} {A:List tw} {L:List eC} (h:bH H ((u,2,iX A) :: L)) (a:∀ x∈te A,x∈L):dh H u (bU (A.map λx=>x.2.2)):=by
 rintro c rfl
 exact(Ja h.head λx b=>⟨h.1 _ (Vt _ (a _ (vn b).1)),h.1 _ (Vt _ (a _ (vn b).2))⟩).fr
theorem dh.lr {H:View} {u:V} {l:List aC} (h:aZ H u 2 (bA l)):dh H u (.aS (bA l)) :=
 dh.own h λe he v a=>by
  obtain⟨x,_,rfl⟩:=Vv.1 he
  simp[bC] at a;rcases a with rfl | rfl <;> exact .val _
theorem uX {h:aB} {u v:V} {e:Int} (h1:cM h u v):cM h (.bm [u,gi e]) (.bm [v,gi e]):=.bm _ _ rfl λi hi=>by
 match i,hi with
 | 0,_=>exact h1
 | 1,_=>exact .val _
theorem Fq {α:Type} {l:List α} {i:Nat} (h:i < l.length):∃ a x b,l=a ++ x :: b/\a.length=i/\l[i]?=some x :=
 ⟨l.take i,l[i],l.drop (i+1),by rw[<-VL h,List.take_append_drop],by simp;omega,U6 h⟩
theorem KN {α:Type} (a:List α) (x:α) (b:List α) (f:α->α):(a ++ x :: b).modify a.length f=a ++ f x :: b:=by
 induction a with
 | nil=>rfl
 | cons y a c=>simp only[VZ,Vm,List.modify_succ_cons,c]
theorem gQ {g:ae} (h:isRed g=true):aO g=true:=by
 unfold isRed at h
 simp only[Vd,V8,Vj] at h
 refine Wv λa=>?_
 have h1:=h.1
 unfold dV at h1
 simp[a] at h1
theorem vJ {g:ae} (h:isRed g=true):g.de:=aK (gQ h)
theorem Ub {α:Type} {a b c:α} {l:List α} : (a :: b :: c :: l).Perm (c :: b :: a :: l):=(List.Perm.swap _ _ _).trans (((List.Perm.swap _ _ _).cons _).trans (List.Perm.swap _ _ _))
theorem S4 {α:Type} {e u p r:α} {S:List α} : (e :: u :: p :: r :: S).Perm (u :: r :: (S ++ [p,e])) :=
 (List.Perm.swap _ _ _).trans (.cons _ (Ub.trans (.cons _ (List.perm_append_comm (l₁:=[p,e]) (l₂:=S)))))
theorem MZ {α:Type} {u r k e:α} {b c:List α} : (u :: r :: (b ++ k :: e :: c)).Perm (e :: u :: r :: (b ++ k :: c)):=by
 have h:(b ++ k :: e :: c).Perm (e :: (b ++ k :: c)):=by
  have:=WD (a:=e) (l₁:=b ++ [k]) (l₂:=c)
  simpa using this
 exact(((h.cons r).cons u).trans ((List.Perm.swap _ _ _).cons u)).trans (List.Perm.swap _ _ _)
theorem JW (A:List tw) (x:tw) (B:List tw):te (A ++ x :: B)=te A ++ (x.1,2,bA x.2.2.aX) :: (x.2.1,2,ly x.2.2.bI) :: te B:=by simp[te]
def T7 (g:ae) (m:Nat) (T:Env) (H:View):Prop:=∃ (at_:Nat) (u:V) (A:List tw) (out:List aR),m+at_=302/\out=A.map (λx=>x.2.2)/\bH H ((u,2,iX A) :: te A)/\dF g at_ 0 out/\1<=out.length/\out.length<=300/\gv g m at_ out=bF g/\at_<=out.length /\
 T 1=.aF (ag g) 0/\T 4=u/\T 5=gi at_
theorem BX (g:ae) (hg:g.Ok):cx Tryz.prog 32 [.agg (ag g)] (.bm [bU (bF g).1,gi (bF g).2]):=by
 refine cx.of (eP g) ?_
 have Y:=NI g hg
 refine aw.of mixed ui ?_
 simp only[ag,encS] at Y
 simp(disch:=omega)only[↓wr,seval,wq,oU,ag,encS]
 refine av.pure Y ?_
 simp(disch:=omega)only[↓wr,seval,wq]
 apply ah.split<;>intro hr
 rotate_left
 .simp(disch:=omega)only[↓wr,seval,wq]
  intro h' _
  have e:bF g=([],1):=by unfold bF;rw[U8 (by rw[hr];simp)]
  rw[e]
  exact uX (.emp _)
 have v:g.de:=vJ hr
 have e0:gv g 302 0 eQ=bF g:=by unfold bF;rw[Va hr]
 have hT:=v.ai;have hN:=v.ao
 simp(disch:=omega)only[↓wr,seval,wq]
 intro O q2 K
 have o0:bH (((View.set (λ_=>bT.dead) O (.arr 2 [[gi (-1),gi 0]])).set q2 (.arr 2 [[.sl O 0 1 2,.emp 1]]))) ((.sl q2 0 1 2,2,iX [(.sl O 0 1 2,.emp 1,⟨[⟨-1,0⟩],[]⟩)]) :: te [(.sl O 0 1 2,.emp 1,⟨[⟨-1,0⟩],[]⟩)]) :=
  (((bH.nil.emp (k:=1) (sz:=2)).new (n:=O) rfl 2 [[gi (-1),gi 0]]).new (by simpa [View.set] using K) 2 [[.sl O 0 1 2,.emp 1]])
 generalize (View.set (λ_=>bT.dead) O (.arr 2 [[gi (-1),gi 0]])).set q2 (.arr 2 [[.sl O 0 1 2,.emp 1]])=H0 at o0 ⊢
 refine bc.intro (T7 g) 302 ⟨0,_,_,eQ,rfl,rfl,o0,sW,Vh _,by simp[eQ],e0,by omega,rfl,rfl,rfl⟩ ?_
 clear o0 K
 rintro m T H ⟨at_,u,A,out,hm,rfl,j,hI,h1,P,Q,hle,t1,t4,t5⟩
 have w:dH u=some A.length:=by rw[j.head.len,gx]
 simp only[Vl] at h1 P hle
 simp(disch:=omega)only[↓wr,seval,wq,mD,t1,t4,t5,w]
 apply ah.dec<;>intro hc
 rotate_left
 .simp(disch:=omega)only[↓wr,seval,wq,t1,t4,t5]
  have e1:bF g=(A.map (λx=>x.2.2),0):=by
   rw[<-Q]
   cases m with
   | zero=>rfl
   | succ m=>rw[gv,U8 (by simp;omega)]
  rw[e1]
  rintro h' rfl
  exact uX (Ja j.head λx L=>⟨j.1 _ (Vt _ (vn L).1),j.1 _ (Vt _ (vn L).2)⟩)
 obtain⟨m,rfl⟩:∃ q,m=q+1:=⟨m - 1,by omega⟩
 have z:at_ < A.length:=by omega
 obtain⟨a,x,d,rfl,p,L⟩:=Fq z
 have U:x∈a ++ x :: d:=by simp
 obtain⟨Z,b4,C⟩:=hI.aX x.2.2 (List.mem_map_of_mem U)
 have b5:=gT v Z C
 have hh:aZ H u 2 (iX (a ++ x :: d)):=j.head
 obtain⟨id,hu,M⟩:=hh.sl (by rw[gx];omega)
 have D:(iX (a ++ x :: d)).getD at_ []=[x.1,x.2.1]:=by simp[iX,U5,<-p]
 have an:cE g ((List.map (λx=>x.2.2) (a ++ x :: d)).getD at_ bf).aX=cE g x.2.2.aX:=by
  rw[U5,U9,L];rfl
 have R:=λn hn=>dF.row (hI.qL v (show at_ < ((a ++ x :: d).map λx=>x.2.2).length by simpa using z)).1 (hI.qL v (show at_ < ((a ++ x :: d).map λx=>x.2.2).length by simpa using z)).2 hI n hn
 rw[gv,Va (by simpa using z),C6] at Q
 rw[an] at Q R
 have aq:=kT g x.2.2.aX
 have ar:∀ y∈cE g x.2.2.aX,cD g y:=λy hy=>((bY v C).1 hy).has C
 rw[gx] at hu
 simp(disch:=omega)only[↓wr,seval,wq,t1,t4,t5,hu,M,D,ag,encS]
 refine⟨by omega,by rw[gx];omega,?_⟩
 refine av.eD ((yl g v x.2.2.aX C (by omega) x.1 H (j.1 _ (Vt _ (vn U).1))).mono ?_)
 rintro r H2 ⟨or,fr⟩
 have o2:=j.LU or fr
 clear or fr M D an L
 generalize cE g x.2.2.aX=cl at *
 generalize h:(a ++ x :: d).map (λx=>x.2.2)=E at *
 have a1:E.length=(a ++ x :: d).length:=by rw[<-h];simp
 simp(disch:=omega)only[↓wr,seval,wq,t1,t4,t5]
 refine bc.up (g.ai.length+g.ao.length) (λi T H'=>∃ (u:V) (A:List tw),A.map (λx=>x.2.2)=(List.range i).foldl (dO g cl at_) E/\bH H' ((r,2,bA cl) :: (u,2,iX A) :: te A)/\T 1=.aF (ag g) 0/\T 4=u/\T 5=gi at_/\T 6=r/\T 7=gi i)
  ⟨u,_,h,o2,t1,by rw[<-hu];exact t4,t5,rfl,rfl⟩ ?_
 rw[<-a1] at h1 P hle z
 clear o2 j hh hu t1 t4 t5 w h U a1 hc Z b4 C b5 p
 clear u H2 H T id a x d
 rintro i k T H' hk ⟨u,A,hA,j,t1,t4,t5,t6,t7⟩
 obtain⟨iI,a6,a7⟩:=R i (by omega)
 rw[<-hA] at iI a6 a7
 rw[Vl] at a6 a7
 have w:dH u=some A.length:=by rw[j.tail.head.len,gx]
 have ch:=gT v aq ar
 simp(disch:=omega)only[↓wr,seval,wq,na,t1,t4,t5,t6,t7,ag,encS]
 apply ah.dec<;>intro hc
 rotate_left
 .have hi:i=g.ai.length+g.ao.length:=by omega
  subst hi
  rw[<-hA] at Q
  simp(disch:=omega)only[↓wr,seval,wq,t1,t4,t5,t6,w]
  apply ah.dec<;>intro h3
  .simp(disch:=omega)only[↓wr,seval,wq]
   intro h' _
   rw[Va (by rw[Vl];omega)] at Q
   rw[<-Q]
   exact uX (.emp _)
  .simp(disch:=omega)only[↓wr,seval,wq,t1,t4,t5]
   rw[U8 (by rw[Vl];omega)] at Q
   exact⟨m,by omega,at_+1,u,A,_,by omega,rfl,j.tail,iI.next,by rw[Vl];omega,by rw[Vl];omega,Q,by rw[Vl];omega,t1,t4,rfl⟩
 have a8:i < g.ai.length+g.ao.length:=by omega
 have S:=Ii g v i a8
 have cj:=LJ v a8
 simp only[ag,encS] at S
 simp(disch:=omega)only[↓wr,seval,wq,t1,t4,t5,t6,t7,ag,encS]
 refine av.pure S ?_
 simp(disch:=omega)only[↓wr,seval,wq,t1,t4,t5,t6,t7,ag,encS]
 refine av.eD ((Lo g v cl aq ar (b6 g i) r H' j.head).mono ?_)
 rintro J H9 ⟨or,fr⟩
 have o9:=j.LU or fr
 have ck:=Ft (g:=g) (l:=cl) (s:=b6 g i)
 have b7:dH J=some (cW g cl (b6 g i)).length:=by rw[or.len,gj]
 have F:(List.range (i+1)).foldl (dO g cl at_) E=dO g cl at_ (A.map λx=>x.2.2) i:=by rw[Wd,Wl,<-hA];rfl
 simp(disch:=omega)only[↓wr,seval,wq,t1,t4,t5,t6,t7,b7]
 apply ah.eq<;>intro he
 .have bd:cW g cl (b6 g i)=[]:=WB.1 (by omega)
  simp(disch:=omega)only[↓wr,seval,wq,t1,t4,t5,t6,t7]
  exact aI hk (by omega) ⟨u,A,by rw[F,dO,Va bd],o9.tail,t1,t4,t5,t6,rfl⟩
 have bl:cW g cl (b6 g i)≠[]:=λe=>he (by rw[e];rfl)
 simp(disch:=omega)only[↓wr,seval,wq,t1,t4,t5,t6,t7]
 have W:=Ms (A.map λx=>x.2.2) (by unfold aH;rw[Vl];omega) (λs hs=>La v (iI.aX s hs)) (cW g cl (b6 g i)) (by unfold aH;omega)
 refine av.xY W (by kernel_rfl) (.val _) ⟨dh.U3 o9.tail.tail (λx L=>L),dh.lr or,trivial⟩ ?_
 have b8:=z8 (A.map λx=>x.2.2) (cW g cl (b6 g i))
 have cr:=GP (A.map λx=>x.2.2) (cW g cl (b6 g i))
 rw[Vl] at b8
 have bn:at_ < A.length:=by omega
 simp(disch:=omega)only[↓wr,seval,wq,t1,t4,t5,t6,t7]
 obtain⟨a,x,d,G,p,L⟩:=Fq bn
 have cu:x.2.2.bI.length<=40:=(iI.bI at_ x.2.2 (by rw[U9,L];rfl)).1
 have D:∀ B,(iX (a ++ x :: B)).getD at_ []=[x.1,x.2.1]:=λB=>by simp[iX,U5,<-p]
 have br:∀ (B:List tw) (c:eV),((a ++ x :: B).map λx=>x.2.2).modify at_ (λs=>(⟨s.aX,s.bI ++ [c]⟩:aR))=(a ++ (x.1,x.2.1,(⟨x.2.2.aX,x.2.2.bI ++ [c]⟩:aR)) :: B).map λx=>x.2.2:=λB c=>by
  rw[Vz,VF,<-p,<-Vl (f:=λx:tw=>x.2.2),KN,Vz,VF]
 apply ah.dec<;>intro I
 simp(disch:=omega)only[↓wr,seval,wq,t1,t4,t5,t6,t7,w,or.cells,or.iG]
 intro q hq
 simp(disch:=omega)only[↓wr,seval,wq,bt]
 have b9:=(o9.fresh (o:=.arr 2 [[J,.emp 1]]) hq).at 2 (by simp)
 refine cn b9 (by simp[or.iG,CI]) (by unfold aD;rw[gx];simp;omega) (by unfold aD;rw[gx];simp;omega) ?_
 intro u2 X bs _
 simp only[VN,VJ,V5,V6] at bs
 have ca:=(bs.emp (k:=1) (sz:=2)).perm S4
 have t:dO g cl at_ (A.map λx=>x.2.2) i=((a ++ x :: (d ++ [(J,.emp 1,(⟨cW g cl (b6 g i),[]⟩:aR))])).map λx=>x.2.2).modify at_ (λs=>(⟨s.aX,s.bI ++ [⟨b6 g i,(A.length:Int)⟩]⟩:aR)):=by
  rw[dO,U8 bl,Va I,Vl]
  congr 1
  rw[G];simp
 have b:bH X ((u2,2,iX (a ++ x :: (d ++ [(J,.emp 1,(⟨cW g cl (b6 g i),[]⟩:aR))]))) :: (r,2,bA cl) :: te (a ++ x :: (d ++ [(J,.emp 1,(⟨cW g cl (b6 g i),[]⟩:aR))]))):=by
  have e1:iX (a ++ x :: (d ++ [(J,.emp 1,(⟨cW g cl (b6 g i),[]⟩:aR))]))=iX A ++ [[J,.emp 1]]:=by rw[G];simp[iX]
  have e2:te (a ++ x :: (d ++ [(J,.emp 1,(⟨cW g cl (b6 g i),[]⟩:aR))]))=te A ++ [(J,2,bA (cW g cl (b6 g i))),(.emp 1,2,[])]:=by rw[G];simp[te];rfl
  rw[e1,e2]
  exact ca
 generalize (d ++ [(J,V.emp 1,(⟨cW g cl (b6 g i),[]⟩:aR))])=B at t b
 generalize (A.length:Int)=to at t ⊢
 rotate_left
 have t:dO g cl at_ (A.map λx=>x.2.2) i=((a ++ x :: d).map λx=>x.2.2).modify at_ (λs=>(⟨s.aX,s.bI ++ [⟨b6 g i,findD (A.map λx=>x.2.2) (cW g cl (b6 g i))⟩]⟩:aR)):=by
  rw[dO,U8 bl,U8 I,<-G]
 have b:=o9.tail.perm (.swap _ _ _)
 clear or fr
 generalize H9=X at o9 b ⊢
 obtain⟨u2,cc⟩:∃ y,y=u:=⟨_,rfl⟩
 rw[<-cc] at b t4
 rw[G] at b
 generalize findD (A.map λx=>x.2.2) (cW g cl (b6 g i))=to at t ⊢
 generalize d=B at t b
 all_goals (
  obtain⟨id,hu,M⟩:=(show aZ X u2 2 (iX (a ++ x :: B)) from b.head).sl (by rw[gx];simp;omega)
  rw[gx] at hu
  rw[JW] at b
  simp(disch:=omega)only[↓wr,seval,wq,t1,t4,t5,t6,t7,hu,M,D B]
  refine⟨by simp;omega,by rw[gx];simp;omega,?_⟩
  intro q2 K
  simp(disch:=omega)only[↓wr,seval,wq,bt]
  refine cn ((b.perm MZ).fresh K) (by simp[aJ]) (by unfold aD;simp[ly];omega) (by unfold aD;simp[ly];omega) ?_
  intro e2 cf N _
  have bx:cf id=.arr 2 (iX (a ++ x :: B)):=((N.own 1 rfl).live (by rw[hu];rfl)).1
  simp(disch:=omega)only[↓wr,seval,wq,t1,t4,t5,t6,t7,hu,bx,D B,N.head.cells,N.head.iG]
  have b0:(iX (a ++ x :: B)).set at_ [x.1,e2]=iX (a ++ (x.1,e2,(⟨x.2.2.aX,x.2.2.bI ++ [⟨b6 g i,to⟩]⟩:aR)) :: B):=by
   rw[<-p];simp[iX]
  have cg:ly (x.2.2.bI ++ [⟨b6 g i,to⟩])=ly x.2.2.bI ++ [[gi (b6 g i),gi to]]:=by simp[ly,sY]
  have b1:=N.perm (.swap _ _ _)
  rw[hu] at b1
  have b2:=((b1.put (es':=iX (a ++ (x.1,e2,(⟨x.2.2.aX,x.2.2.bI ++ [⟨b6 g i,to⟩]⟩:aR)) :: B)) (by rw[gx,gx];simp) (by rw[gx])).perm (.swap _ _ _)).perm MZ.symm
  rw[<-cg] at b2
  have b3:=b2.perm (.swap _ _ _)
  rw[<-hu] at b3
  rw[b0]
  refine⟨by simp;omega,by rw[gx];simp;omega,aI hk (by omega) ⟨u2,_,?_,by rw[JW];exact b3,t1,by first | rfl | exact t4 | exact hu.symm,t5,t6,rfl⟩⟩
  rw[F,t,br];simp)
abbrev gw (s:BV):V:=.val (.int .u32 s.toNat)
abbrev dJ (l:List BV):List (List V):=l.map λx=>[gw x]
abbrev zS (l:List BV):V:=.aS (dJ l)
theorem Of (l:List BV):Tree (zS l):=fq _ _ λx _ v a=>by simp at a;subst a;exact .val _
theorem Q1 {x:Int} (h1:0<=x) (c:x < 4294967296):IntKind.wrap .u32 x=x:=by
 unfold IntKind.wrap
 have a:(2:Int) ^ IntKind.u32.bits=4294967296:=by rfl
 have b:IntKind.u32.signed=false:=by rfl
 simp only[a,b,WK,Vj]
 simp
 omega
theorem LI (s:BV):IntKind.wrap .u32 (s.toNat:Int)=s.toNat:=Q1 (by omega) (by have:=s.isLt;omega)
theorem uR (s:BV):BitVec.ofInt IntKind.u32.bits (s.toNat:Int)=s:=by
 show BitVec.ofInt 32 (s.toNat:Int)=s
 rw[BitVec.ofInt_natCast,BitVec.ofNat_toNat,BitVec.setWidth_eq]
theorem HA (s t:BV):IntKind.wrap .u32 ((BitVec.ofInt IntKind.u32.bits (s.toNat:Int) ||| BitVec.ofInt IntKind.u32.bits (t.toNat:Int)).toNat:Int)=((s ||| t).toNat:Int):=by
 rw[uR,uR];exact LI (s ||| t)
theorem Tm (s t:BV):IntKind.wrap .u32 ((BitVec.ofInt IntKind.u32.bits (s.toNat:Int) &&& BitVec.ofInt IntKind.u32.bits (t.toNat:Int)).toNat:Int)=((s &&& t).toNat:Int):=by
 rw[uR,uR];exact LI (s &&& t)
theorem PC (s t:BV):IntKind.wrap .u32 ((BitVec.ofInt IntKind.u32.bits (s.toNat:Int) &&& ~~~(BitVec.ofInt IntKind.u32.bits (t.toNat:Int))).toNat:Int)=((s &&& ~~~t).toNat:Int):=by
 rw[uR,uR];exact LI (s &&& ~~~t)
theorem toNat_zero {s:BV} : ((s.toNat:Nat):Int)=0↔s=0:=by
 constructor
 .intro h;exact BitVec.eq_of_toNat_eq (by simpa using h)
 .rintro rfl;rfl
def oy:SC :=
 af [af [ab [aa 11 4,aa 12 0,aV 13 .lss 11 12],bW 13 (.exit 0)],.block 1 (ab [aa 16 3,((some 17),.op (.arith .mul (.tmp 16) (.val (.val (.int .u32 2))))),aa 3 17]),ab [aa 14 4,aE 15 .add 14 1,aa 4 15]]
def qY:SF:=⟨af [ab [((some 2),.op (.ee (.val (.val (.int .u32 0)))))],af [.region false [⟨none,[aa 5 0,aE 6 .lss 5 0,aa 7 6]⟩,⟨(some (7,false)),[aa 8 0,aE 9 .gtr 8 31]⟩,⟨none,[bP 10 7 9]⟩],bg 10 (af [ab [((some 2),.op (.ee (.val (.val (.int .u32 0)))))],.ret])],ab [((some 3),.op (.ee (.val (.val (.int .u32 1)))))],af [ab [aT 4 0],bX 0 oy],ab [aa 18 3,aa 2 18],.ret],
 [.tmp 2],19⟩
theorem wE:aQ Tryz.prog 98 []=some qY:=by kernel_rfl
def qX:SF:=⟨af [ab [bu 4 false],ab [aa 5 0,aa 6 1,ba 7 98 [6],aV 8 .and 5 7,((some 9),.op (.arith .neq (.tmp 8) (.val (.val (.int .u32 0))))),aa 4 9],.ret],
 [.tmp 4],10⟩
theorem vH:aQ Tryz.prog 168 []=some qX:=by kernel_rfl
def qC:SC :=
 af [af [ab [aa 11 10,aa 12 0,aP 13 12,aV 14 .lss 11 13],bW 14 (.exit 0)],.block 1 (af [af [ab [aa 17 0,aa 18 10,aM 19 1 17 18,aj 20 19,aE 21 .geq 20 0],bg 21 (af [ab [aa 22 9,aa 23 0,aa 24 10,aM 25 1 23 24,aj 26 25,ba 27 98 [26],aV 28 .or 22 27,aa 8 28],.ret])],ab [aa 29 9,aa 30 2,aa 31 0,aa 32 10,aM 33 1 31 32,aj 34 33,((some 35),.op (.arith .sub (.val (.val (.int .i64 (-1)))) (.tmp 34))),aM 36 1 30 35,aj 37 36,aV 38 .or 29 37,aa 9 38],ab [aa 39 1,aa 40 0,aa 41 10,aM 42 1 40 41,aj 43 42,((some 44),.op (.arith .sub (.val (.val (.int .i64 (-1)))) (.tmp 43))),aM 45 1 39 44,aj 46 45,cb 47 46],bg 47 (af [ab [aa 48 9,aa 8 48],.ret])]),ab [aa 15 10,aE 16 .add 15 1,aa 10 16]]
def r8:SF:=⟨af [ab [((some 8),.op (.ee (.val (.val (.int .u32 0)))))],ab [((some 9),.op (.ee (.val (.val (.int .u32 0)))))],af [ab [aT 10 0],bX 0 qC],ab [aa 49 9,aa 50 3,aV 51 .or 49 50,aa 8 51],.ret],
 [.tmp 8],52⟩
theorem xl:aQ Tryz.prog 229 []=some r8:=by kernel_rfl
def mS:SC :=
 af [af [ab [aa 24 6,au 25 2 1,aj 26 25,aP 27 26,aV 28 .lss 24 27],bW 28 (.exit 2)],.block 3 (af [ab [au 31 2 1,aj 32 31,aa 33 6,aM 34 3 32 33,aU 35 3 34,((some 7),.op (.alloc [(.val (.int .i64 0)),(.emp 1),(.val (.int .i64 0))])),cG 3 7 35],.region true [⟨none,[aa 36 4,au 37 0 7,aj 38 37,aa 39 4,au 40 0 7,aj 41 40,aM 42 1 39 41,aj 43 42,au 44 1 7,aj 45 44,aa 46 3,aa 47 4,oE 48 229 [(.tmp 45),(.tmp 46),(.tmp 47),(.val (.val (.int .u32 0)))],aV 49 .or 43 48,aM 50 1 36 38,cG 1 50 49]⟩]]),ab [aa 29 6,aE 30 .add 29 1,aa 6 30]]
def nh:SC :=
 af [af [ab [aa 17 5,au 18 1 1,aj 19 18,aP 20 19,aV 21 .lss 17 20],bW 21 (.exit 0)],.block 1 (af [ab [aT 6 0],bX 2 mS]),ab [aa 22 5,aE 23 .add 22 1,aa 5 23]]
def oD:SF:=⟨af [ab [cd 1 0,ct 2 1],af [ab [aU 8 4 1,ba 9 50 [8],cb 10 9],bg 10 (af [ab [ct 2 1],.ret])],ab [aU 11 4 1,ba 12 230 [11],aa 3 12],ab [au 13 1 1,aj 14 13,aP 15 14,((some 16),.op (.make 1 4 [(.val (.int .u32 0))] (.tmp 15) (.tmp 15))),aa 4 16],af [ab [aT 5 0],bX 0 nh],ab [aa 51 4,aa 2 51],.ret],
 [.tmp 2],52⟩
theorem tF:aQ Tryz.prog 231 [1]=some oD:=by kernel_rfl
theorem Qz {n:Int} (h:0<=n/\n<=31):(gX n).toNat=2 ^ n.toNat:=by
 rw[gX,Va h,BitVec.toNat_twoPow]
 exact Nat.mod_eq_of_lt (Nat.pow_lt_pow_right (by omega) (by omega))
theorem An (n:Int):ay Tryz.prog 98 [gi n] (gw (gX n)):=by
 refine ay.val (by intro v a;simp at a;subst a;exact .val _) λH=>?_
 refine aw.of mixed wE ?_
 simp(disch:=omega)only[↓wr,seval,wq,qY]
 have bad:¬ (0<=n/\n<=31)->gX n=0:=λh=>by rw[gX,U8 h]
 apply ah.dec<;>intro h1
 .simp(disch:=omega)only[↓wr,seval,wq]
  rw[bad (by omega)];rfl
 simp(disch:=omega)only[↓wr,seval,wq]
 apply ah.dec<;>intro b
 .simp(disch:=omega)only[↓wr,seval,wq]
  rw[bad (by omega)];rfl
 simp(disch:=omega)only[↓wr,seval,wq]
 refine bc.up n.toNat (λi T H'=>T 0=gi n/\T 3=.val (.int .u32 ((2 ^ i:Nat):Int))/\T 4=gi i) ⟨rfl,rfl,rfl⟩ ?_
 rintro i k T H' hk ⟨t0,t3,t4⟩
 simp(disch:=omega)only[↓wr,seval,wq,oy,t0,t3,t4]
 apply ah.dec<;>intro c
 .have d:2 ^ (i+1)<=2 ^ 31:=Nat.pow_le_pow_right (by omega) (by omega)
  have e:2 ^ (i+1)=2 ^ i * 2:=Nat.pow_succ _ _
  have hw:IntKind.wrap .u32 (((2 ^ i:Nat):Int) * 2)=((2 ^ (i+1):Nat):Int):=by
   rw[e,Int.natCast_mul]
   exact Q1 (by omega) (by omega)
  simp(disch:=omega)only[↓wr,seval,wq,t0,t3,t4,hw]
  exact aI hk (by omega) ⟨t0,rfl,rfl⟩
 .simp(disch:=omega)only[↓wr,seval,wq,t0,t3,t4]
  rw[Qz (by omega),show i=n.toNat by omega]
theorem Ql (s:BV) (n:Int):ay Tryz.prog 168 [gw s,gi n] (gb (hasB s n)):=by
 refine ay.val (by
  intro v a;simp at a
  rcases a with rfl | rfl <;> exact .val _) λH=>?_
 refine aw.of mixed vH ?_
 simp(disch:=omega)only[↓wr,seval,wq,qX]
 refine av.pure (An n) ?_
 simp(disch:=omega)only[↓wr,seval,wq,Tm]
 congr 2
 unfold hasB
 rw[V1]
 simp only[Xe,ne_eq,Vj,toNat_zero]
theorem vg {l:List BV} {i:Nat} {x:BV} (h:l[i]?=some x):(dJ l).getD i []=[gw x]:=by simp[U5,h]
theorem JQ (syms:List Int) (null:List Bool) (first:List BV) (rest:BV) (h:aH syms) (j:∀ s∈syms,bD s/\(s < 0->(-1 - s).toNat < null.length/\(-1 - s).toNat < first.length)) :
  ay Tryz.prog 229 [encI syms,bK null,zS first,gw rest] (gw (dp null first rest syms)):=by
 unfold aH at h
 refine ay.val (by
  intro v g;simp at g
  rcases g with rfl | rfl | rfl | rfl
  .exact eM _
  .exact fY _
  .exact Of _
  .exact .val _) λH=>?_
 refine aw.of mixed xl ?_
 simp(disch:=omega)only[↓wr,seval,wq,r8,encI,bK]
 refine bc.up syms.length (λi T H'=>∃ s:BV,s ||| dp null first rest (syms.drop i)=dp null first rest syms/\T 0=encI syms/\T 1=bK null/\T 2=zS first/\T 3=gw rest/\T 9=gw s/\T 10=gi i) ⟨0,by simp,rfl,rfl,rfl,rfl,rfl,rfl⟩ ?_
 rintro i k T H' hk ⟨s,he,t0,t1,t2,t3,t9,t10⟩
 simp(disch:=omega)only[↓wr,seval,wq,qC,t0,t1,t2,t3,t9,t10,encI]
 apply ah.dec<;>intro l
 .have c:syms[i]?=some (syms[i]'(by omega)):=U6 (by omega)
  have b:syms.drop i=syms[i]'(by omega) :: syms.drop (i+1):=VL (by omega)
  have hm:=j _ (Vg (show i < syms.length by omega))
  generalize syms[i]'(by omega)=x at c b hm
  obtain⟨d,e⟩:=hm
  unfold bD at d
  rw[b,dp] at he
  simp(disch:=omega)only[↓wr,seval,wq,t0,t1,t2,t3,t9,t10,encI,U9,c,Ve]
  apply ah.dec<;>intro f
  .rw[Va f] at he
   simp(disch:=omega)only[↓wr,seval,wq,t0,t1,t2,t3,t9,t10,encI,U9,c,Ve]
   refine av.pure (An x) ?_
   simp(disch:=omega)only[↓wr,seval,wq,HA]
   rw[he]
  .rw[U8 f] at he
   obtain⟨m,n⟩:=e (by omega)
   have o:null[(-1 - x).toNat]?=some (null.getD (-1 - x).toNat false):=getD_some m
   have p:first[(-1 - x).toNat]?=some (first.getD (-1 - x).toNat 0):=getD_some n
   simp(disch:=omega)only[↓wr,seval,wq,t0,t1,t2,t3,t9,t10,encI,bK,zS,U9,c,o,p,Ve,HA]
   apply ah.split<;>intro a
   .simp(disch:=omega)only[↓wr,seval,wq,t0,t1,t2,t3,t9,t10]
    rw[Va a,<-BitVec.or_assoc] at he
    exact aI hk (by omega) ⟨_,he,t0,t1,t2,t3,rfl,rfl⟩
   .simp(disch:=omega)only[↓wr,seval,wq]
    rw[U8 (by rw[a];simp)] at he
    exact VT (λz:BV=>gw z) he
 .rw[VA (by omega),dp] at he
  simp(disch:=omega)only[↓wr,seval,wq,t3,t9,HA]
  rw[he]
theorem OS {h:aB} {u:V} {l:List BV} (a:aZ h.view u 1 (dJ l)):cM h u (zS l):=cM.Lk (f:=λx:BV=>.int .u32 x.toNat) a
theorem K4 {H:View} {u:V} {l:List BV} (h:aZ H u 1 (dJ l)):dh H u (zS l) :=
 dh.own h λe he v a=>by
  obtain⟨x,_,rfl⟩:=Vv.1 he
  simp at a;subst a;exact .val _
def GR (g:ae):List BV:=if aO g=true then cq g (ak g false) else []
theorem KH (g:ae) (x:g.Ok):cx Tryz.prog 231 [.agg (ag g)] (zS (GR g)):=by
 refine cx.of (eP g) ?_
 have n:=gK g x
 have o:=w8 g x
 refine aw.of mixed tF ?_
 simp only[ag,encS] at n o
 simp(disch:=omega)only[↓wr,seval,wq,oD,ag,encS]
 refine av.pure n ?_
 unfold GR
 simp(disch:=omega)only[↓wr,seval,wq]
 apply ah.split<;>intro hr
 rotate_left
 .simp(disch:=omega)only[↓wr,seval,wq]
  rintro E _
  rw[U8 (by rw[hr];simp)]
  exact .emp _
 have p:=aK hr
 have N:=p.ao;have F:=p.sX
 rw[Va hr]
 have d:=fi hr false
 simp(disch:=omega)only[↓wr,seval,wq,ag,encS]
 refine av.pure o ?_
 generalize ak g false=null at d ⊢
 simp(disch:=omega)only[↓wr,seval,wq,ag,encS]
 refine⟨⟨by omega,by unfold aD;omega,by unfold aD;omega⟩,λG=>absurd G (by omega),λ_ m=>?_⟩
 have r:List.replicate g.ao.length [V.val (Value.int IntKind.u32 0)]=dJ (List.replicate g.ao.length (0:BV)):=by simp
 rw[r]
 have t:(List.replicate g.ao.length (0:BV)).length=g.ao.length:=by simp
 unfold cq
 generalize List.replicate g.ao.length (0:BV)=u at t ⊢
 refine bc.intro (λk T H'=>∃ (i:Nat) (h:List BV),i+k=g.ao.length/\h.length=g.ao.length/\iter (rX g null) k h=iter (rX g null) g.ao.length u/\T 1=.aF (ag g) 0/\T 3=bK null/\T 4=.sl m 0 g.ao.length 1/\H' m=.arr 1 (dJ h)/\T 5=gi i) g.ao.length
  ⟨0,u,by omega,t,rfl,rfl,rfl,rfl,by simp[View.set],rfl⟩ ?_
 rintro k T H' ⟨i,h,hk,hlen,hi,t1,t3,t4,tm,t5⟩
 simp(disch:=omega)only[↓wr,seval,wq,nh,t1,t3,t4,t5,ag,encS]
 apply ah.dec<;>intro H
 .simp(disch:=omega)only[↓wr,seval,wq,t1,t3,t4,t5]
  refine bc.up g.rules.length (λj T H'=>∃ a:List BV,a.length=g.ao.length/\(g.rules.drop j).foldl (j0 null) a=rX g null h/\T 1=.aF (ag g) 0/\T 3=bK null/\T 4=.sl m 0 g.ao.length 1/\H' m=.arr 1 (dJ a)/\T 5=gi i/\T 6=gi j)
   ⟨h,hlen,rfl,t1,t3,t4,tm,t5,rfl⟩ ?_
  clear t1 t3 t4 tm t5
  rintro j k2 O P y ⟨a,e,l,t1,t3,t4,tm,t5,t6⟩
  simp(disch:=omega)only[↓wr,seval,wq,mS,t1,t3,t4,t5,t6,ag]
  apply ah.dec<;>intro I
  .have J:=p.rules
   have v:g.rules[j]?=some (g.rules[j]'(by omega)):=U6 (by omega)
   rw[e9 (show j < g.rules.length by omega)] at l
   have c:g.rules[j]'(by omega)∈g.rules:=Vg _
   generalize g.rules[j]'(by omega)=R at v l c
   simp only[VC] at l
   obtain⟨K,L⟩:=p.left R c
   obtain⟨_,_,z,A⟩:=x.al R c
   have B:=JQ R.right null a 0 z λs C=>⟨A s C,λM=>by have:=p.neg c C M;omega⟩
   have w:a[R.left.toNat]?=some (a.getD R.left.toNat 0):=getD_some (by omega)
   simp(disch:=omega)only[↓wr,seval,wq,t1,t3,t4,t5,t6,ag,encS,aW,U9,v,Ve]
   intro b D
   have f:¬ m=b:=by rintro rfl;rw[tm] at D;simp at D
   rw[set_set]
   simp(disch:=omega)only[↓wr,seval,wq,t1,t3,t4,t5,t6,tm,f,vg w]
   refine⟨rfl,by omega,by omega,?_⟩
   refine av.xY B (by kernel_rfl) (.val _) ⟨.tree (eM _),.tree (fY _),K4 (.inr ⟨m,by simp[e],by simp[View.set,f,tm]⟩),.tree (.val _),trivial⟩ ?_
   simp(disch:=omega)only[↓wr,seval,wq,t1,t3,t4,t5,t6,tm,f,vg w,HA]
   refine⟨by omega,by first | omega | (simp;omega),aI y (by omega) ⟨j0 null a R,by rw[Ek];exact e,l,t1,t3,t4,?_,t5,rfl⟩⟩
   rw[show dJ (j0 null a R)=(dJ a).set R.left.toNat [gw (a.getD R.left.toNat 0 ||| dp null a 0 R.right)] from by rw[j0,dJ,List.map_set]]
   simp only[View.set,if_true]
   rfl
  .rw[VA (by omega),WL] at l
   simp(disch:=omega)only[↓wr,seval,wq,t1,t3,t4,t5]
   obtain⟨q,rfl⟩:∃ q,k=q+1:=⟨k - 1,by omega⟩
   exact⟨q,by omega,i+1,a,by omega,e,by rw[l];exact hi,rfl,tm,rfl⟩
 .simp(disch:=omega)only[↓wr,seval,wq,t4]
  have:k=0:=by omega
  subst this
  rintro E rfl
  rw[<-hi,<-hlen]
  exact OS (.inr ⟨m,by simp[iter],tm⟩)
end Gv
