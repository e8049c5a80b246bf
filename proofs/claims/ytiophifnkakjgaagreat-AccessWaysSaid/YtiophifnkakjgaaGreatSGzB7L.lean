/-
  Part 12 of the proof: what the machine does and what the functions answer.
  Conditions: those that each lemma names.
-/
import Derived.Shelf.SlSortCmp.NoneTotal
import Derived.Shelf.SlicesG.Cmp
import Derived.StillTailTactics
import Derived.Test.YtiophifnkakjgaaGreatSGzB7K
set_option linter.unusedSimpArgs false
set_option linter.unusedVariables false
set_option maxRecDepth 100000
set_option maxHeartbeats 20000000
namespace Gv
open Go Go.Proofs
theorem fk {a b:aD} : ct a b=true↔a.aw < b.aw∨a.aw=b.aw/\a.dot < b.dot:=by
 simp[ct]
theorem nj {a b c:aD} (h:ct a b=true) (k:ct b c=true):ct a c=true:=by
 rw[fk] at h k ⊢;omega
theorem kI {a:aD} : ct a a=false:=by
 cases h:ct a a with
 | false=>rfl
 | true=>rw[fk] at h;omega
theorem GC {a b:aD} (h:ct a b=true):ct b a=false:=by
 cases k:ct b a with
 | false=>rfl
 | true=>have:=nj h k;rw[kI] at this;exact absurd this (by simp)
theorem uB {a b:aD} (h:ct a b=false) (c:¬ a=b):ct b a=true:=by
 rw[fk]
 have h1:¬ ct a b=true:=by simp[h]
 rw[fk] at h1
 obtain⟨d,ad⟩:=a
 obtain⟨e,f⟩:=b
 simp only[aD.mk.injEq] at c
 simp only at h1 ⊢
 omega
abbrev bX (l:List aD):Prop:=l.Pairwise λa b=>ct a b=true
theorem iu:∀ {l:List aD} {x y:aD},y∈dY l x↔y=x∨y∈l
 | [],x,y=>by simp[dY]
 | z :: l,x,y=>by
  rw[dY]
  split
  .simp only[SM,iu (l:=l)]
   constructor
   .rintro (h | h | h) <;> simp[h]
   .rintro (h | h | h) <;> simp[h]
  .split
   .rename_i h;subst h;simp
   .simp
theorem mU:∀ {l:List aD} {x:aD},bX l->bX (dY l x)
 | [],x,_=>by simp[dY,bX]
 | z :: l,x,h=>by
  rw[bX,TN] at h
  rw[dY]
  split
  .rename_i c
   rw[bX,TN]
   refine⟨λy a=>?_,mU h.2⟩
   rcases iu.1 a with rfl | a
   .exact c
   .exact h.1 y a
  .rename_i c
   split
   .exact TN.2 h
   .rename_i d
    have b:=uB (by simpa using c) d
    rw[bX,TN]
    refine⟨λy a=>?_,TN.2 h⟩
    rcases SM.1 a with rfl | a
    .exact b
    .exact nj b (h.1 y a)
theorem CJ:∀ (l:List aD) (x:aD),(dY l x).length=l.length∨(dY l x).length=l.length+1
 | [],x=>.inr rfl
 | z :: l,x=>by
  rw[dY]
  split
  .rcases CJ l x with h | h <;> simp[h]
  .split <;> simp
theorem AX:∀ {l:List aD} {x:aD},bX l->x∈l->dY l x=l
 | [],x,_,h=>by simp at h
 | z :: l,x,a,h=>by
  rw[bX,TN] at a
  rw[dY]
  rcases SM.1 h with rfl | h
  .rw[Sr (by simp[kI]),St rfl]
  .rw[St (a.1 x h),AX a.2 h]
theorem A4:∀ {l:List aD} {x:aD},x ∉ l->(dY l x).length=l.length+1
 | [],x,_=>rfl
 | z :: l,x,h=>by
  simp only[SM,not_or] at h
  rw[dY]
  split
  .simp[A4 h.2]
  .rw[Sr (λe=>h.1 e.symm)];rfl
theorem Cy:∀ {l:List aD} {x:aD},(∀ y∈l,ct y x=true)->dY l x=l ++ [x]
 | [],x,_=>rfl
 | z :: l,x,h=>by
  rw[dY,St (h z (by simp)),Cy λy a=>h y (by simp[a])];rfl
theorem wa:∀ {a b:List aD},bX a->bX b->(∀ x,x∈a↔x∈b)->a=b
 | [],[],_,_,_=>rfl
 | [],y :: b,_,_,h=>by have:=(h y).2 (by simp);simp at this
 | x :: a,[],_,_,h=>by have:=(h x).1 (by simp);simp at this
 | x :: a,y :: b,d,e,h=>by
  rw[bX,TN] at d e
  have f:x=y:=by
   have h1:=(h x).1 (by simp)
   have c:=(h y).2 (by simp)
   rcases SM.1 h1 with h1 | h1
   .exact h1
   .rcases SM.1 c with c | c
    .exact c.symm
    .have:=nj (d.1 y c) (e.1 x h1)
     rw[kI] at this;exact absurd this (by simp)
  subst f
  congr 1
  refine wa d.2 e.2 λz=>?_
  have g:=h z
  simp only[SM] at g
  constructor
  .intro hm
   rcases g.1 (.inr hm) with rfl | h
   .have:=d.1 z hm;rw[kI] at this;exact absurd this (by simp)
   .exact h
  .intro hm
   rcases g.2 (.inr hm) with rfl | h
   .have:=e.1 z hm;rw[kI] at this;exact absurd this (by simp)
   .exact h
theorem Et:∀ (l:List Int) (a n:Int),l.Pairwise (· < ·)->(∀ x∈l,a<=x/\x < a+n)->0<=n->(l.length:Int)<=n
 | [],a,n,_,_,b=>by simpa using b
 | x :: l,a,n,hp,hm,b=>by
  rw[TN] at hp
  have h1:=hm x (by simp)
  have:=Et l (x+1) (a+n - (x+1)) hp.2 (λy c=>by have:=hp.1 y c;have:=hm y (by simp[c]);omega) (by omega)
  simp only[SA];omega
def b6 (g:af) (x:aD):Prop:=(-1<=x.aw/\x.aw < (g.rules.length:Int))/\0<=x.dot/\x.dot<=(bB g x.aw).length
theorem dy {g:af} (a:g.cZ) {r:Int} (h : -1<=r/\r < (g.rules.length:Int)):(bB g r).length<=6:=by
 unfold bB
 split
 .simp
 .have b:g.rules[r.toNat]?=some (bH g r):=by unfold bH;exact getD_some (by omega)
  exact a.right _ (SK b)
theorem jm {g:af} (f:g.cZ) {l:List aD} (i:bX l) (h:∀ x∈l,b6 g x):l.length<=287:=by
 have d:∀ x∈l,0<=x.dot/\x.dot<=6:=λx c=>by
  have h1:=h x c
  have:=dy f h1.1
  exact⟨h1.2.1,by have:=h1.2.2;omega⟩
 have h1:(l.map λx=>(x.aw+1) * 7+x.dot).Pairwise (· < ·):=by
  rw[List.pairwise_map]
  refine List.Pairwise.imp_of_mem ?_ i
  intro a b j k e
  rw[fk] at e
  have:=d a j;have:=d b k
  omega
 have:=Et _ 0 287 h1 (λy m=>by
  obtain⟨x,c,rfl⟩:=S5.1 m
  have n:=(h x c).1
  have:=d x c;have:=f.rules
  omega) (by omega)
 simp at this
 omega
inductive lP (g:af) (l:List aD):aD->Prop
 | base {x:aD} : x∈l->lP g l x
 | step {x:aD} {s:Int} {k:Nat} {R:bk} : lP g l x->bo g x=(s,true)->s < 0->g.rules[k]?=some R->R.left = -1 - s->lP g l ⟨k,0⟩
theorem lP.has {g:af} {l:List aD} (a:∀ x∈l,b6 g x) {x:aD} (h:lP g l x):b6 g x:=by
 induction h with
 | base h=>exact a _ h
 | step _ _ _ hk _ _ =>
  have:=(SH.1 hk).1
  exact⟨⟨by simp only;omega,by simp only;omega⟩,by simp only;omega,by simp only;omega⟩
def FN (g:af):List aD:=(List.range (g.rules.length+1)).flatMap λ(r:Nat)=>(List.range 7).map λ(d:Nat)=>(⟨(r:Int) - 1,(d:Int)⟩:aD)
theorem JS {g:af} (a:g.cZ) {x:aD} (h:b6 g x):x∈FN g:=by
 have:=dy a h.1
 obtain⟨⟨h1,b⟩,c,e⟩:=h
 simp only[FN,List.mem_flatMap,S5,TL]
 refine⟨(x.aw+1).toNat,by omega,x.dot.toNat,by omega,?_⟩
 obtain⟨r,d⟩:=x
 simp only at h1 b c e this
 simp only[aD.mk.injEq];omega
theorem rE:∀ (l a:List aD),bX a->bX (l.foldl dY a)/\∀ x,x∈l.foldl dY a↔x∈a∨x∈l
 | [],a,h=>⟨h,λx=>by simp⟩
 | y :: l,a,h=>by
  obtain⟨h1,b⟩:=rE l (dY a y) (mU h)
  refine⟨h1,λx=>?_⟩
  rw[Tp,b,iu,SM]
  constructor
  .rintro ((h | h) | h) <;> simp[h]
  .rintro (h | h | h) <;> simp[h]
open Classical in
noncomputable def cE (g:af) (l:List aD):List aD:=((FN g).filter λx=>decide (lP g l x)).foldl dY []
theorem qy (g:af) (l:List aD):bX (cE g l):=(rE _ [] .nil).1
theorem fD {g:af} (a:g.cZ) {l:List aD} (b:∀ x∈l,b6 g x) {x:aD} : x∈cE g l↔lP g l x:=by
 classical
 rw[cE,(rE _ [] .nil).2]
 simp only[List.not_mem_nil,false_or,TD,SN]
 exact⟨λh=>h.2,λh=>⟨JS a (h.has b),h⟩⟩
theorem zd {g:af} (b:g.cZ) {l o:List aD} (c:∀ x∈l,b6 g x) (a:bX o) (h1:∀ x∈o,lP g l x) (d:∀ x∈l,x∈o)
  (e:∀ x∈o,∀ (s:Int) (k:Nat) (R:bk),bo g x=(s,true)->s < 0->g.rules[k]?=some R->R.left = -1 - s->(⟨k,0⟩:aD)∈o):cE g l=o:=by
 refine wa (qy g l) a λx=>?_
 rw[fD b c]
 refine⟨λh=>?_,h1 x⟩
 induction h with
 | base h=>exact d _ h
 | step _ f a hk i j=>exact e _ j _ _ _ f a hk i
def aX (g:af) (l:List aD) (s:Int):List aD:=(l.filter λx=>decide (bo g x=(s,true))).map λx=>⟨x.aw,x.dot+1⟩
theorem oP {g:af} {l:List aD} {s:Int} {y:aD} : y∈aX g l s↔∃ x∈l,bo g x=(s,true)/\y=⟨x.aw,x.dot+1⟩:=by
 simp only[aX,S5,TD,SN]
 constructor
 .rintro⟨x,⟨h1,a⟩,rfl⟩;exact⟨x,h1,a,rfl⟩
 .rintro⟨x,h1,a,rfl⟩;exact⟨x,⟨h1,a⟩,rfl⟩
theorem Co {g:af} {l:List aD} (s:Int) (h:bX l):bX (aX g l s):=by
 rw[bX,aX,List.pairwise_map]
 refine(h.filter _).imp ?_
 intro a b c
 rw[fk] at c ⊢
 simp only;omega
theorem sP {g:af} {x:aD} {s:Int} (h:bo g x=(s,true)):x.dot≠(bB g x.aw).length/\(bB g x.aw).getD x.dot.toNat 0=s:=by
 unfold bo at h
 split at h
 .simp at h
 .rename_i a;exact⟨a,by simpa using h⟩
theorem DZ {g:af} {l:List aD} {s:Int} (a:∀ x∈l,b6 g x):∀ y∈aX g l s,b6 g y:=by
 intro y b
 obtain⟨x,c,d,rfl⟩:=oP.1 b
 have h1:=a x c
 have e:=(sP d).1
 exact⟨h1.1,by simp only;have:=h1.2;omega,by simp only;have:=h1.2;omega⟩
theorem L5 {g:af} {l:List aD} (b:bX l) {i:Nat} {x:aD} (c:l[i]?=some x) (s:Int) :
  aX g (l.take (i+1)) s=if bo g x=(s,true) then dY (aX g (l.take i) s) ⟨x.aw,x.dot+1⟩ else aX g (l.take i) s:=by
 have e:l.take (i+1)=l.take i ++ [x]:=by rw[S6,c];rfl
 rw[e]
 split
 .rename_i h
  rw[Cy]
  .simp[aX,h]
  .intro y d
   obtain⟨z,f,_,rfl⟩:=oP.1 d
   have a:bX (l.take (i+1)):=b.sublist (List.take_sublist _ _)
   rw[e,bX,List.pairwise_append] at a
   have:=a.2.2 z f x (by simp)
   rw[fk] at this ⊢
   simp only;omega
 .rename_i h
  simp[aX,h]
theorem ry {g:af} {l:List aD} {s:Int} : (aX g l s).length<=l.length:=by
 rw[aX,Sv];exact T6 _ _
structure aL where
 bb:List aD
 bT:List eU
 deriving DecidableEq
abbrev bD:aL:=⟨[],[]⟩
def aN (g:af) (i:Nat):Int:=if i < g.ao.length then i else -1 - ((i:Int) - g.ao.length)
def findD:List aL->List aD->Int
 | [],_=>-1
 | s :: l,k=>if s.bb=k then 0 else if findD l k < 0 then -1 else findD l k+1
theorem qR:∀ (l:List aL) (k:List aD),-1<=findD l k
 | [],_=>by simp[findD]
 | s :: l,k=>by
  have:=qR l k
  rw[findD];split
  .omega
  .split <;> omega
theorem vd:∀ (l:List aL) (k:List aD),findD l k < l.length
 | [],_=>by simp[findD]
 | s :: l,k=>by
  have:=vd l k
  rw[findD];simp only[SA];split
  .omega
  .split <;> omega
theorem EM:∀ (l:List aL) (k:List aD) (i:Nat),findD l k=i->∃ s,l[i]?=some s/\s.bb=k
 | [],_,i,h=>by simp[findD] at h
 | s :: l,k,i,h=>by
  rw[findD] at h
  split at h
  .rename_i e
   have:i=0:=by omega
   subst this
   exact⟨s,rfl,e⟩
  .split at h
   .omega
   .obtain⟨j,rfl⟩:∃ j,i=j+1:=⟨i - 1,by omega⟩
    obtain⟨t,h1,a⟩:=EM l k j (by omega)
    exact⟨t,by simpa using h1,a⟩
theorem Eu:∀ (l:List aL) (k:List aD),findD l k < 0->∀ s∈l,s.bb≠k
 | [],_,_,s,a=>by simp at a
 | t :: l,k,h,s,a=>by
  rw[findD] at h
  split at h
  .omega
  .rename_i b
   have c:findD l k < 0:=by
    split at h
    .assumption
    .omega
   rcases SM.1 a with rfl | a
   .exact b
   .exact Eu l k c s a
theorem EB:∀ (l:List aL) (k:List aD) (i:Nat) (s:aL),l[i]?=some s->s.bb=k->(∀ j t,j < i->l[j]?=some t->t.bb≠k)->findD l k=i
 | [],_,_,_,h,_,_=>by simp at h
 | t :: l,k,0,s,h,hk,_=>by simp at h;subst h;simp[findD,hk]
 | t :: l,k,i+1,s,h,hk,a=>by
  have b:=a 0 t (by omega) rfl
  have:=EB l k i s (by simpa using h) hk λj u c hu=>a (j+1) u (by omega) (by simpa using hu)
  rw[findD,Sr b,this,Sr (by omega)];omega
theorem zE:∀ (l:List aL) (k:List aD),(∀ s∈l,s.bb≠k)->findD l k = -1
 | [],_,_=>rfl
 | t :: l,k,h=>by
  have:=zE l k λs a=>h s (by simp[a])
  rw[findD,Sr (h t (by simp)),this];rfl
def cO (g:af) (l:List aD) (at_:Nat) (out:List aL) (i:Nat):List aL :=
 if aX g l (aN g i)=[] then out else
 if findD out (aX g l (aN g i)) < 0 then (out ++ [(⟨aX g l (aN g i),[]⟩:aL)]).modify at_ λs=>(⟨s.bb,s.bT ++ [⟨aN g i,out.length⟩]⟩:aL)
 else out.modify at_ λs=>(⟨s.bb,s.bT ++ [⟨aN g i,findD out (aX g l (aN g i))⟩]⟩:aL)
noncomputable def s0 (g:af) (at_:Nat) (out:List aL) (n:Nat):List aL:=(List.range n).foldl (cO g (cE g (out.getD at_ bD).bb) at_) out
noncomputable def eM (g:af):Nat->Nat->List aL->List aL × Int
 | 0,_,out=>(out,0)
 | f+1,at_,out=>if at_ < out.length then
   (if 300 < (s0 g at_ out (g.ao.length+g.aj.length)).length then ([],5) else eM g f (at_+1) (s0 g at_ out (g.ao.length+g.aj.length)))
  else (out,0)
def dI:List aL:=[⟨[⟨-1,0⟩],[]⟩]
abbrev BV:=BitVec 32
def fX:List eU->Int->Int
 | [],_=>-1
 | e :: l,s=>if e.sym=s then e.to else fX l s
def iw (a:List aL):Int->List Int->Int × Bool
 | at_,[]=>(at_,true)
 | at_,s :: l=>if 0<=fX (a.getD at_.toNat bD).bT s/\fX (a.getD at_.toNat bD).bT s < a.length then iw a (fX (a.getD at_.toNat bD).bT s) l else (0,false)
def lG (a:List aL) (at_:Int) (l:List Int):Int × Bool:=if at_ < 0∨(a.length:Int)<=at_ then (0,false) else iw a at_ l
abbrev Sets:=List (List BV)
theorem CU {α:Type} (l:List α) (i j:Nat) (x d:α):(l.set i x).getD j d=if i=j/\i < l.length then x else l.getD j d:=by
 simp only[Sm,T0]
 by_cases e:i=j
 .subst e
  by_cases h:i < l.length
  .simp[h]
  .simp[h]
 .simp[e]
def fI (g:af) (x:aD):List Int:=if 0<=x.aw then (bH g x.aw).right.drop (x.dot+1).toNat else []
section
variable {g:af} {null:List Bool} {a:List aL} {ls:List (List aD)}
end
theorem iA {g:af} (a:g.cZ) : -100<=g.start/\g.start<=100:=by
 have:=a.nN;have:=a.start;have:=a.aj;omega
theorem ze (g:af) (b:g.cZ) (x:aD) (a:b6 g x):ay Tryz.prog 134 [.agg (ag g),.agg (bq x)] (.aS [gi (bo g x).1,gb (bo g x).2]) :=
 K2 g (iA b) x a.1 a.2 (by have:=dy b a.1;omega)
theorem pr {l:List aD} {i:Nat} {y:aD} (h:l[i]?=some y):(aM l).getD i []=[gi y.aw,gi y.dot]:=by simp[aM,Sm,h,bq]
theorem bw (l:List aD):(aM l).length=l.length:=by simp[aM]
theorem uT {g:af} {x:aD} {s:Int} {b:Bool} (d:g.cZ) (f:b6 g x) (h:bo g x=(s,b)) : -1000<=s/\s<=1000:=by
 have a:∀ s∈bB g x.aw,-1000<=s/\s<=1000:=by
  intro s c
  unfold bB at c
  split at c
  .simp at c;subst c;have:=iA d;omega
  .have i:g.rules[x.aw.toNat]?=some (bH g x.aw):=by unfold bH;exact getD_some (by have:=f.1;omega)
   have h1:=d.sym _ (SK i) s c
   have:=d.ao;have:=d.aj
   unfold eo at h1
   split at h1 <;> simp at h1 <;> omega
 unfold bo at h
 split at h
 .simp at h;omega
 .rename_i j
  simp only[Su] at h
  have e:x.dot.toNat < (bB g x.aw).length:=by have:=f.2;omega
  rw[<-h.1]
  exact a _ (SK (getD_some e))
def kU:SC :=
 ae [ae [ab [aa 12 6,aa 13 1,aP 14 13,aU 15 .lss 12 14],cb 15 (.exit 0)],.block 1 (ab [aa 18 5,aa 19 1,aa 20 6,aZ 21 2 19 20,ba 22 2 21,bg 23 133 [18,22],aa 5 23]),ab [aa 16 6,aF 17 .add 16 1,aa 6 17]]
def ic:SC :=
 ae [ae [.region false [⟨none,[aa 41 9,aa 42 41]⟩,⟨(some (42,true)),[aa 43 8,aF 44 .lss 43 0]⟩,⟨none,[eA 45 42 44,aa 46 45]⟩,⟨(some (46,true)),[aa 47 11,al 48 2 2,ak 49 48,aP 50 49,aU 51 .lss 47 50]⟩,⟨none,[eA 52 46 51]⟩],cb 52 (.exit 4)],.block 5 (ae [ab [al 55 2 2,ak 56 55,aa 57 11,aZ 58 3 56 57,al 59 0 58,ak 60 59,aa 61 8,((some 62),.op (.arith .sub (.val (.val (.int .i64 (-1)))) (.tmp 61))),aU 63 .eql 60 62],bf 63 (ab [aa 64 5,aa 65 11,((some 66),.op (.build [(.val (.int .i64 0)),(.val (.int .i64 0))] [(0,1,(.tmp 65))])),bg 67 133 [64,66],aa 5 67])]),ab [aa 53 11,aF 54 .add 53 1,aa 11 54]]
def kS:SC :=
 ae [ae [ab [aa 24 7,aa 25 5,aP 26 25,aU 27 .lss 24 26],cb 27 (.exit 2)],.block 3 (ae [ab [ba 31 4 2,aa 32 5,aa 33 7,aZ 34 2 32 33,ba 35 2 34,bg 36 134 [31,35],aa 30 36,dz 37 0 30,dz 38 1 30,aa 8 37,aa 9 38],ab [aa 39 5,aP 40 39,aa 10 40],ae [ab [aR 11 0],cd 4 ic],ab [aa 68 5,aP 69 68,aa 70 10,aU 71 .gtr 69 70],bf 71 (ab [aR 7 (-1)])]),ab [aa 28 7,aF 29 .add 28 1,aa 7 29]]
def l9:SF:=⟨ae [ab [cG 2 0,bQ 4 1],ab [bQ 5 1],ae [ab [aR 6 0],cd 0 kU],ae [ab [aR 7 0],cd 2 kS],ab [aa 72 5,aa 4 72],.ret],
 [.tmp 4],73⟩
theorem rB:aI Tryz.prog 69 [2]=some l9:=by kernel_rfl
def mG:SC :=
 ae [ae [ab [aa 11 8,aa 12 1,aP 13 12,aU 14 .lss 11 13],cb 14 (.exit 0)],.block 1 (ae [ab [ba 18 4 3,aa 19 1,aa 20 8,aZ 21 2 19 20,ba 22 2 21,bg 23 134 [18,22],aa 17 23,dz 24 0 17,dz 25 1 17,aa 9 24,aa 10 25],.region false [⟨none,[aa 26 10,aa 27 26]⟩,⟨(some (27,true)),[aa 28 9,aa 29 2,aU 30 .eql 28 29]⟩,⟨none,[eA 31 27 30]⟩],bf 31 (ab [aa 32 7,aa 33 1,aa 34 8,aZ 35 2 33 34,al 36 0 35,ak 37 36,aa 38 1,aa 39 8,aZ 40 2 38 39,al 41 1 40,ak 42 41,aF 43 .add 42 1,((some 44),.op (.build [(.val (.int .i64 0)),(.val (.int .i64 0))] [(0,1,(.tmp 37)),(1,1,(.tmp 43))])),bg 45 133 [32,44],aa 7 45])]),ab [aa 15 8,aF 16 .add 15 1,aa 8 16]]
def oq:SF:=⟨ae [ab [cG 3 0,bQ 6 1],ab [bQ 7 1],ae [ab [aR 8 0],cd 0 mG],ab [aa 46 7,aa 6 46],.ret],
 [.tmp 6],47⟩
theorem sy:aI Tryz.prog 71 [3]=some oq:=by kernel_rfl
def mB:SC :=
 ae [ae [ab [aa 11 5,aa 12 0,aP 13 12,aU 14 .lss 11 13],cb 14 (.exit 0)],.block 1 (ae [ab [aa 17 0,aa 18 5,aZ 19 2 17 18,ba 20 2 19,aa 21 1,aa 22 5,aZ 23 2 21 22,ba 24 2 23,((some 25),.op (.old (.binOp .neq 120 (.tmp 20) (.tmp 24) 120) 4))],bf 25 (ae [ab [bm 4 false],.ret])]),ab [aa 15 5,aF 16 .add 15 1,aa 5 16]]
def oh:SF:=⟨ae [ab [bm 4 false],ae [ab [aa 6 0,aP 7 6,aa 8 1,aP 9 8,aU 10 .neq 7 9],bf 10 (ae [ab [bm 4 false],.ret])],ae [ab [aR 5 0],cd 0 mB],ab [bm 4 true],.ret],
 [.tmp 4],26⟩
theorem sZ:aI Tryz.prog 135 []=some oh:=by kernel_rfl
def nz:SF:=⟨ae [ab [cG 2 0,aR 4 0],ae [ab [aa 5 1,al 6 0 2,ak 7 6,aP 8 7,aU 9 .lss 5 8],bf 9 (ae [ab [aa 10 1,aa 4 10],.ret])],ab [aa 11 1,al 12 0 2,ak 13 12,aP 14 13,aU 15 .sub 11 14,((some 16),.op (.arith .sub (.val (.val (.int .i64 (-1)))) (.tmp 15))),aa 4 16],.ret],
 [.tmp 4],17⟩
theorem rH:aI Tryz.prog 70 [2]=some nz:=by kernel_rfl
def QZ (g:af) (out:List aD) (x:aD):Prop:=∀ (s:Int) (k:Nat) (R:bk),bo g x=(s,true)->s < 0->g.rules[k]?=some R->R.left = -1 - s->(⟨k,0⟩:aD)∈out
def Nz (g:af) (l:List aD) (H:View) (m:Nat) (T:Env) (H':View):Prop:=∃ (i:Nat) (r:V) (out:List aD),m=(300 - out.length) * 1000+(300 - i)/\i<=out.length/\aJ H' r 2 (aM out)/\cw H H' r/\bX out/\(∀ x∈out,lP g l x)/\(∀ x∈l,x∈out)/\(∀ j x,j < i->out[j]?=some x->QZ g out x) /\
 T 2=.aG (ag g) 0/\T 5=r/\T 7=gi i
theorem EN (g:af) (J:g.cZ) (l:List aD) (hl:∀ x∈l,b6 g x) (hn:l.length<=10000) (u:V) (H:View) (ho:aJ H u 2 (aM l)):au Tryz.prog 69 [.agg (ag g),u] H λr H'=>aJ H' r 2 (aM (cE g l))/\cw H H' r:=by
 refine au.of mixed rB ?_
 have hlen:bZ u=some l.length:=by rw[ho.len];simp[aM]
 have br:=J.rules
 simp(disch:=omega)only[↓wr,seval,wq,l9,ag,encS]
 refine aY.up l.length (λi T H'=>∃ (r:V) (out:List aD),aJ H' r 2 (aM out)/\cw H H' r/\bX out/\(∀ x,x∈out↔x∈l.take i)/\out.length<=287/\T 1=u/\T 2=.aG (ag g) 0/\T 5=r/\T 6=gi i)
  ⟨.emp 1,[],.nil,.emp,.nil,by simp,by simp,rfl,rfl,rfl,rfl⟩ ?_
 rintro i k T H' hk ⟨r,out,D,fr,n,hm,hle,t1,t2,t5,t6⟩
 simp(disch:=omega)only[↓wr,seval,wq,kU,t1,t2,t5,t6,hlen]
 apply ai.dec<;>intro hc
 .have N:l[i]?=some (l[i]'(by omega)):=Sn (by omega)
  have W:l.take (i+1)=l.take i ++ [l[i]'(by omega)]:=by rw[S6,N];rfl
  generalize l[i]'(by omega)=y at N W
  obtain⟨id,hu,t⟩:=ho.sl (by simp[aM];omega)
  have X:H' id=.arr 2 (aM l):=by rw[(fr id (by rw[t];simp)).1,t]
  simp(disch:=omega)only[↓wr,seval,wq,t1,t2,t5,t6,hu,X,pr N]
  refine⟨by first | omega | (simp[aM];omega),by first | omega | (simp[aM];omega),?_⟩
  refine av.dW ((yW r out (by omega) y H' D).mono ?_)
  rintro p H2 ⟨O,l2⟩
  simp(disch:=omega)only[↓wr,seval,wq,t1,t2,t5,t6]
  have Y:∀ x,x∈dY out y↔x∈l.take (i+1):=λx=>by
   rw[iu,W,SS,hm,Tz,or_comm]
  have Z:=mU (x:=y) n
  exact aH hk (by omega) ⟨p,dY out y,O,fr.step l2,Z,Y,jm J Z (λx b=>hl x (List.mem_of_mem_take ((Y x).1 b))),t1,t2,rfl,rfl⟩
 rw[SL (by omega)] at hm
 simp(disch:=omega)only[↓wr,seval,wq,t1,t2,t5,t6]
 refine aY.intro (Nz g l H) ((300 - out.length) * 1000+300)
  ⟨0,r,out,by omega,TP _,D,fr,n,λx b=>.base ((hm x).1 b),λx b=>(hm x).2 b,λj x hj=>by omega,t2,t5,rfl⟩ ?_
 clear D fr n hm hle t1 t2 t5 t6 hc hk
 rintro m T1 H1 ⟨i,r,out,rfl,hi,D,fr,n,E,P,an,t2,t5,t7⟩
 have K:∀ x∈out,b6 g x:=λx b=>(E x b).has hl
 have hle:=jm J n K
 have a7:bZ r=some out.length:=by rw[D.len,bw]
 simp(disch:=omega)only[↓wr,seval,wq,kS,t2,t5,t7,a7]
 apply ai.dec<;>intro hc
 .have N:out[i]?=some (out[i]'(by omega)):=Sn (by omega)
  have Q:=K _ (Sx (show i < out.length by omega))
  have aq:=E _ (Sx (show i < out.length by omega))
  generalize out[i]'(by omega)=y at N Q aq
  have h1:=ze g J y Q
  cases F:bo g y with
  | mk s G =>
  have bs:=uT J Q F
  rw[F] at h1
  obtain⟨id,hu,t⟩:=D.sl (by simp[aM];omega)
  rw[bw] at hu
  simp only[ag,encS,bq] at h1
  simp(disch:=omega)only[↓wr,seval,wq,t2,t5,t7,hu,t,pr N,ag,encS]
  refine⟨by first | omega | (simp[aM];omega),by first | omega | (simp[aM];omega),?_⟩
  refine av.pure h1 ?_
  simp(disch:=omega)only[↓wr,seval,wq,t2,t5,t7,hu]
  refine aY.up g.rules.length (λk T H'=>∃ (p:V) (a:List aD),aJ H' p 2 (aM a)/\cw H H' p/\bX a/\(∀ x∈a,lP g l x)/\(∀ x∈out,x∈a)/\out.length<=a.length/\(a.length=out.length->a=out) /\
   (∀ (q:Nat) (R:bk),q < k->G=true->s < 0->g.rules[q]?=some R->R.left = -1 - s->(⟨q,0⟩:aD)∈a)/\T 2=.aG (ag g) 0/\T 5=p/\T 7=gi i/\T 8=gi s/\T 9=gb G/\T 10=gi out.length/\T 11=gi k)
   ⟨r,out,D,fr,n,E,λx b=>b,Sy _,λ_=>rfl,λq R hq=>by omega,t2,by rw[<-hu];exact t5,t7,rfl,rfl,rfl,rfl⟩ ?_
  clear D fr t2 t5 t7 t hu
  rintro k j T2 H2 hk ⟨p,a,O,I,c,d,v,S,o,w,t2,t5,t7,t8,t9,t10,t11⟩
  have U:∀ x∈a,b6 g x:=λx b=>(d x b).has hl
  have bn:=jm J c U
  have f:bZ p=some a.length:=by rw[O.len,bw]
  have more:out.length < a.length->∀ z:Env,z 2=.aG (ag g) 0->z 5=p->z 7=gi 0->∃ k',k' < (300 - out.length) * 1000+(300 - i)/\Nz g l H k' z H2:=λh z e2 e5 e7 =>
   ⟨(300 - a.length) * 1000+300,by omega,0,p,a,by omega,TP _,O,I,c,d,λx b=>v x (P x b),λj x hj=>by omega,e2,e5,e7⟩
  have stay:(G=true->s < 0->g.rules.length<=k)->¬ out.length < a.length->∀ z:Env,z 2=.aG (ag g) 0->z 5=p->z 7=gi ((i:Int)+1)->∃ k',k' < (300 - out.length) * 1000+(300 - i)/\Nz g l H k' z H2:=λar h z e2 e5 e7=>by
   have e:=o (by omega)
   subst e
   refine⟨(300 - a.length) * 1000+(300 - (i+1)),by omega,i+1,p,a,rfl,by omega,O,I,c,d,P,λj x hj b=>?_,e2,e5,e7⟩
   rcases SY j i with a1 | a1
   .exact an j x a1 b
   .have:j=i:=by omega
    subst this
    rw[N] at b
    simp only[Sq] at b
    subst b
    intro s' q R h1 L A M
    rw[F] at h1
    simp only[Su] at h1
    obtain⟨rfl,rfl⟩:=h1
    have:=(SH.1 A).1
    exact w q R (by have:=ar rfl L;omega) rfl L A M
  cases G with
  | false =>
   simp(disch:=omega)only[↓wr,seval,wq,ic,t2,t5,t7,t8,t9,t10,t11,f]
   apply ai.dec<;>intro hg
   .simp(disch:=omega)only[↓wr,seval,wq,t2,t5,t7]
    exact more (by omega) _ t2 t5 rfl
   .simp(disch:=omega)only[↓wr,seval,wq,t2,t5,t7]
    exact stay (λh=>by simp at h) (by omega) _ t2 t5 rfl
  | true =>
   simp(disch:=omega)only[↓wr,seval,wq,ic,t2,t5,t7,t8,t9,t10,t11,f,ag]
   apply ai.dec<;>intro B
   .simp(disch:=omega)only[↓wr,seval,wq,t2,t5,t7,t8,t9,t10,t11,f,ag]
    apply ai.dec<;>intro a8
    .have hR:g.rules[k]?=some (g.rules[k]'(by omega)):=Sn (by omega)
     have hL:=J.left _ (Sx (show k < g.rules.length by omega))
     generalize g.rules[k]'(by omega)=R at hR hL
     simp(disch:=omega)only[↓wr,seval,wq,t2,t5,t7,t8,t9,t10,t11,ag,aQ,Ss,hR,SD]
     apply ai.eq<;>intro he
     .simp(disch:=omega)only[↓wr,seval,wq,t2,t5,t7,t8,t9,t10,t11]
      refine av.dW ((yW p a (by omega) ⟨k,0⟩ H2 O).mono ?_)
      rintro r3 H3 ⟨o3,l3⟩
      simp(disch:=omega)only[↓wr,seval,wq,t2,t5,t7,t8,t9,t10,t11]
      have a6:lP g l ⟨k,0⟩:=.step aq F B hR he
      refine aH hk (by omega) ⟨r3,dY a ⟨k,0⟩,o3,I.step l3,mU c,λx b=>?_,λx b=>iu.2 (.inr (v x b)),by have:=CJ a ⟨k,0⟩;omega,λh=>?_,λq R' hq L A M=>?_,t2,rfl,t7,t8,t9,t10,rfl⟩
      .rcases iu.1 b with rfl | b
       .exact a6
       .exact d x b
      .have bd:(⟨k,0⟩:aD)∈a:=TQ λbl=>by
        have:=A4 bl;omega
       rw[AX c bd] at h ⊢
       exact o h
      .rcases SY q k with C | C
       .exact iu.2 (.inr (w q R' C rfl L A M))
       .have:q=k:=by omega
        subst this
        exact iu.2 (.inl rfl)
     .simp(disch:=omega)only[↓wr,seval,wq,t2,t5,t7,t8,t9,t10,t11]
      refine aH hk (by omega) ⟨p,a,O,I,c,d,v,S,o,λq R' hq L A M=>?_,t2,t5,t7,t8,t9,t10,rfl⟩
      rcases SY q k with C | C
      .exact w q R' C rfl L A M
      .have:q=k:=by omega
       subst this
       rw[hR] at A
       simp only[Sq] at A
       subst A
       exact absurd M he
    .simp(disch:=omega)only[↓wr,seval,wq,t2,t5,t7,t8,t9,t10,t11,f]
     apply ai.dec<;>intro hg
     .simp(disch:=omega)only[↓wr,seval,wq,t2,t5,t7]
      exact more (by omega) _ t2 t5 rfl
     .simp(disch:=omega)only[↓wr,seval,wq,t2,t5,t7]
      exact stay (λ_ _=>by omega) (by omega) _ t2 t5 rfl
   .simp(disch:=omega)only[↓wr,seval,wq,t2,t5,t7,t8,t9,t10,t11,f]
    apply ai.dec<;>intro hg
    .simp(disch:=omega)only[↓wr,seval,wq,t2,t5,t7]
     exact more (by omega) _ t2 t5 rfl
    .simp(disch:=omega)only[↓wr,seval,wq,t2,t5,t7]
     exact stay (λ_ h=>absurd h B) (by omega) _ t2 t5 rfl
 .simp(disch:=omega)only[↓wr,seval,wq,t2,t5,t7]
  have bx:i=out.length:=by omega
  rw[zd J hl n E P (λx b s k R h1 L A M=>by
   obtain⟨j,hj,e⟩:=TX.1 b
   exact an j x (by omega) (by rw[Sn hj,e]) s k R h1 L A M)]
  exact⟨D,fr⟩
theorem Ji (g:af) (m:g.cZ) (l:List aD) (t:bX l) (v:∀ x∈l,b6 g x) (s:Int) (u:V) (H:View) (w:aJ H u 2 (aM l)):au Tryz.prog 71 [.agg (ag g),u,gi s] H λr H'=>aJ H' r 2 (aM (aX g l s))/\cw H H' r:=by
 refine au.of mixed sy ?_
 have hlen:bZ u=some l.length:=by rw[w.len];simp[aM]
 have hle:=jm m t v
 simp(disch:=omega)only[↓wr,seval,wq,oq,ag,encS]
 refine aY.up l.length (λi T H'=>∃ (r:V),aJ H' r 2 (aM (aX g (l.take i) s))/\cw H H' r/\T 1=u/\T 2=gi s/\T 3=.aG (ag g) 0/\T 7=r/\T 8=gi i)
  ⟨.emp 1,.nil,.emp,rfl,rfl,rfl,rfl,rfl⟩ ?_
 rintro i k T H' hk ⟨r,h,fr,t1,t2,t3,t7,t8⟩
 simp(disch:=omega)only[↓wr,seval,wq,mG,t1,t2,t3,t7,t8,hlen]
 apply ai.dec<;>intro B
 .have j:l[i]?=some (l[i]'(by omega)):=Sn (by omega)
  have b:=v _ (Sx (show i < l.length by omega))
  have a:=L5 (g:=g) t (show l[i]?=some (l[i]'(by omega)) from j) s
  generalize l[i]'(by omega)=y at j b a
  have h1:=ze g m y b
  cases c:bo g y with
  | mk q n =>
  rw[c] at h1
  obtain⟨id,hu,f⟩:=w.sl (by simp[aM];omega)
  have d:H' id=.arr 2 (aM l):=by rw[(fr id (by rw[f];simp)).1,f]
  rw[bw] at hu
  have z:=b.2
  have L:=dy m b.1
  have o:=ry (g:=g) (l:=l.take i) (s:=s)
  simp only[Tv] at o
  simp only[ag,encS,bq] at h1
  simp(disch:=omega)only[↓wr,seval,wq,t1,t2,t3,t7,t8,hu,d,pr j,ag,encS]
  refine⟨by first | omega | (simp[aM];omega),by first | omega | (simp[aM];omega),?_⟩
  refine av.pure h1 ?_
  have skip:¬ bo g y=(s,true)->∀ e:Env,e 1=u->e 2=gi s->e 3=.aG (ag g) 0->e 7=r->e 8=gi ((i:Int)+1)->∃ A,A < k/\Dm l.length A (λi T H'=>∃ (r:V),aJ H' r 2 (aM (aX g (l.take i) s))/\cw H H' r/\T 1=u/\T 2=gi s/\T 3=.aG (ag g) 0/\T 7=r/\T 8=gi i) e H':=λp e C D E F G=>by
   rw[Sr p] at a
   exact aH hk (by omega) ⟨r,by rw[a];exact h,fr,C,D,E,F,G⟩
  cases n with
  | false =>
   simp(disch:=omega)only[↓wr,seval,wq,t1,t2,t3,t7,t8]
   exact skip (by rw[c];simp) _ t1 t2 t3 t7 rfl
  | true =>
   simp(disch:=omega)only[↓wr,seval,wq,t1,t2,t3,t7,t8]
   apply ai.eq<;>intro he
   .simp(disch:=omega)only[↓wr,seval,wq,t1,t2,t3,t7,t8,hu,d,pr j]
    refine⟨by first | omega | (simp[aM];omega),by first | omega | (simp[aM];omega),?_⟩
    refine⟨by first | omega | (simp[aM];omega),by first | omega | (simp[aM];omega),?_⟩
    refine av.dW ((yW r (aX g (l.take i) s) (by omega) ⟨y.aw,y.dot+1⟩ H' h).mono ?_)
    rintro I M ⟨J,K⟩
    simp(disch:=omega)only[↓wr,seval,wq,t1,t2,t3,t7,t8]
    rw[St (by rw[c,he])] at a
    exact aH hk (by omega) ⟨I,by rw[a];exact J,fr.step K,t1,t2,t3,rfl,rfl⟩
   .simp(disch:=omega)only[↓wr,seval,wq,t1,t2,t3,t7,t8]
    exact skip (by rw[c];simp[he]) _ t1 t2 t3 t7 rfl
 .simp(disch:=omega)only[↓wr,seval,wq,t1,t2,t3,t7,t8]
  rw[SL (by omega)] at h
  exact⟨h,fr⟩
theorem Be {g:af} (a:g.cZ) {i:Nat} (hi:i < g.ao.length+g.aj.length) : -100<=aN g i/\aN g i<=100:=by
 have:=a.ao;have:=a.aj
 unfold aN;split <;> omega
theorem Gi (g:af) (a:g.cZ) (i:Nat) (hi:i < g.ao.length+g.aj.length):ay Tryz.prog 70 [.agg (ag g),gi i] (gi (aN g i)):=by
 refine ay.val (by
  intro v b;simp at b
  rcases b with rfl | rfl
  .exact cn _ (cM g)
  .exact .val _) λH=>?_
 have:=a.ao;have:=a.aj
 refine au.of mixed rH ?_
 unfold aN
 simp(disch:=omega)only[↓wr,seval,wq,nz,ag,encS]
 apply ai.dec<;>intro h
 .simp(disch:=omega)only[↓wr,seval,wq]
  rw[St (by omega)]
 .simp(disch:=omega)only[↓wr,seval,wq,ag]
  rw[Sr (by omega)]
theorem BK (l:List aD):Tree (.aT (aM l)):=eY _ _ λx _ v a=>by simp[bq] at a;rcases a with rfl | rfl <;> exact .val _
theorem I9 (a b:List aD) (g:aK a) (j:aK b):ay Tryz.prog 135 [.aT (aM a),.aT (aM b)] (gb (a == b)):=by
 unfold aK at g j
 refine ay.val (by
  intro v f;simp at f
  rcases f with rfl | rfl <;> exact BK _) λH=>?_
 refine au.of mixed sZ ?_
 simp(disch:=omega)only[↓wr,seval,wq,oh,aM]
 apply ai.ne<;>intro h
 .simp(disch:=omega)only[↓wr,seval,wq]
  have:(a == b)=false:=by simp;rintro rfl;exact h rfl
  rw[this]
 .simp(disch:=omega)only[↓wr,seval,wq]
  refine aY.up a.length (λi T H'=>a.take i=b.take i/\T 0=.aT (aM a)/\T 1=.aT (aM b)/\T 5=gi i) ⟨rfl,rfl,rfl,rfl⟩ ?_
  rintro i k T H' hk ⟨he,t0,t1,t5⟩
  simp(disch:=omega)only[↓wr,seval,wq,mB,t0,t1,t5,aM]
  apply ai.dec<;>intro l
  .have d:a[i]?=some (a[i]'(by omega)):=Sn (by omega)
   have c:b[i]?=some (b[i]'(by omega)):=Sn (by omega)
   generalize a[i]'(by omega)=x at d
   generalize b[i]'(by omega)=y at c
   simp(disch:=omega)only[↓wr,seval,wq,t0,t1,t5,aM,Ss,d,c,SD,bq]
   refine iL (xs:=#[.int .i64 x.aw,.int .i64 x.dot]) (ys:=#[.int .i64 y.aw,.int .i64 y.dot]) Tryz.underlying120 (by kernel_rfl) (by kernel_rfl) ?_ ?_ (pj x y) (.inr ⟨rfl,rfl⟩) ?_
   .rfl
   .rfl
   rw[xx]
   simp(disch:=omega)only[↓wr,seval,wq,t0,t1,t5]
   apply ai.dec<;>intro e
   .simp(disch:=omega)only[↓wr,seval,wq,t0,t1,t5]
    exact aH hk (by omega) ⟨by rw[S6,S6,he,d,c,e],t0,t1,rfl⟩
   .simp(disch:=omega)only[↓wr,seval,wq]
    have:(a == b)=false:=by
     simp;rintro rfl
     rw[d] at c;simp at c;exact e c
    rw[this]
  .simp(disch:=omega)only[↓wr,seval,wq,t0,t1,t5]
   rw[SL (by omega),SL (by omega)] at he
   rw[he,Uv]
structure Q8 where
 aw:Int
 set:BV
 deriving DecidableEq
noncomputable def bI (g:af):List aL × Int:=if isRed g=true then eM g 302 0 dI else ([],1)
structure dC (g:af) (at_ i:Nat) (out:List aL):Prop where
 bb:∀ s∈out,bX s.bb/\s.bb≠[]/\∀ x∈s.bb,b6 g x
 bT:∀ j s,out[j]?=some s->s.bT.length<=40/\(j=at_->s.bT.length<=i)/\(at_ < j->s.bT=[])
 to:∀ s∈out,∀ e∈s.bT,0<=e.to/\e.to < out.length
 sym:∀ s∈out,∀ e∈s.bT,-1000<=e.sym/\e.sym<=1000
theorem mem_modify {α:Type} {l:List α} {i:Nat} {f:α->α} {y:α} (h:y∈l.modify i f):y∈l∨∃ x,l[i]?=some x/\y=f x:=by
 obtain⟨j,a,e⟩:=TX.1 h
 simp only[List.length_modify] at a
 rw[List.getElem_modify] at e
 split at e
 .rename_i b
  subst b
  exact .inr ⟨l[i],Sn a,e.symm⟩
 .exact .inl (e ▸ Sx a)
theorem LC (g:af) (l:List aD) (at_:Nat) (out:List aL) (i:Nat):out.length<=(cO g l at_ out i).length/\(cO g l at_ out i).length<=out.length+1:=by
 unfold cO
 split
 .omega
 .split
  .simp
  .simp
theorem dC.put {g:af} {at_ i:Nat} {out:List aL} (h:dC g at_ i out) (hi:i < 40) {s:Int} (c : -1000<=s/\s<=1000) {to:Int} (d:0<=to/\to < out.length):dC g at_ (i+1) (out.modify at_ λx=>(⟨x.bb,x.bT ++ [⟨s,to⟩]⟩:aL)):=by
 refine⟨λy a=>?_,λj y a=>?_,λy a e he=>?_,λy a e he=>?_⟩
 rotate_right
 .rcases mem_modify a with a | ⟨x,b,rfl⟩
  .exact h.sym y a e he
  .rcases SS.1 he with he | he
   .exact h.sym x (SK b) e he
   .simp at he;subst he;exact c
 .rcases mem_modify a with a | ⟨x,b,rfl⟩
  .exact h.bb y a
  .exact h.bb x (SK b)
 .rw[List.getElem?_modify] at a
  cases b:out[j]? with
  | none=>rw[b] at a;simp at a
  | some x =>
   rw[b] at a
   have h1:=h.bT j x b
   by_cases e:at_=j
   .subst e
    simp at a
    subst a
    have:=h1.2.1 rfl
    refine⟨by simp;omega,λ_=>by simp;omega,λh=>by omega⟩
   .simp[e] at a
    subst a
    exact⟨h1.1,λh=>absurd h.symm e,h1.2.2⟩
 .rw[List.length_modify]
  rcases mem_modify a with a | ⟨x,b,rfl⟩
  .exact h.to y a e he
  .rcases SS.1 he with he | he
   .exact h.to x (SK b) e he
   .simp at he;subst he;exact d
theorem dC.up {g:af} {at_ i:Nat} {out:List aL} (h:dC g at_ i out):dC g at_ (i+1) out :=
 ⟨h.bb,λj s a=>by have:=h.bT j s a;exact⟨this.1,λe=>by have:=this.2.1 e;omega,this.2.2⟩,h.to,h.sym⟩
theorem dC.add {g:af} {at_ i:Nat} {out:List aL} (h:dC g at_ i out) {k:List aD} (hk:bX k/\k≠[]/\∀ x∈k,b6 g x):dC g at_ i (out ++ [⟨k,[]⟩]):=by
 refine⟨λy a=>?_,λj y a=>?_,λy a e he=>?_,λy a e he=>?_⟩
 rotate_right
 .rcases SS.1 a with a | a
  .exact h.sym y a e he
  .simp at a;subst a;simp at he
 .rcases SS.1 a with a | a
  .exact h.bb y a
  .simp at a;subst a;exact hk
 .rcases SY j out.length with b | b
  .rw[S9 b] at a;exact h.bT j y a
  .rw[Tu b] at a
   cases c:j - out.length with
   | zero=>rw[c] at a;simp at a;subst a;exact⟨by simp,λ_=>by simp,λ_=>rfl⟩
   | succ q=>rw[c] at a;simp at a
 .rcases SS.1 a with a | a
  .have:=h.to y a e he;simp;omega
  .simp at a;subst a;simp at he
theorem dC.step {g:af} {l:List aD} (c:bX l) (d:∀ x∈l,b6 g x) {at_ i:Nat} {out:List aL} (h:dC g at_ i out) (hi:i < 40):dC g at_ (i+1) (cO g l at_ out i):=by
 unfold cO
 split
 .exact h.up
 .rename_i a
  have b : -1000<=aN g i/\aN g i<=1000:=by unfold aN;split <;> omega
  split
  .exact(h.add ⟨Co _ c,a,DZ d⟩).put hi b (by simp;omega)
  .have:=vd out (aX g l (aN g i))
   exact h.put hi b ⟨by omega,this⟩
theorem dC.next {g:af} {at_ i:Nat} {out:List aL} (h:dC g at_ i out):dC g (at_+1) 0 out :=
 ⟨h.bb,λj s a=>by
  have:=h.bT j s a
  exact⟨this.1,λe=>by have:=this.2.2 (by omega);simp[this],λe=>this.2.2 (by omega)⟩,h.to,h.sym⟩
theorem dC.row {g:af} {l:List aD} (a:bX l) (b:∀ x∈l,b6 g x) {at_:Nat} {out:List aL} (h:dC g at_ 0 out):∀ n:Nat,n<=40->dC g at_ n ((List.range n).foldl (cO g l at_) out)/\out.length<=((List.range n).foldl (cO g l at_) out).length/\((List.range n).foldl (cO g l at_) out).length<=out.length+n
 | 0,_=>⟨h,Sy _,Sy _⟩
 | n+1,c=>by
  obtain⟨h1,d,e⟩:=dC.row a b h n (by omega)
  rw[Uq,T4]
  simp only[Tp,List.foldl_nil]
  have:=LC g l at_ ((List.range n).foldl (cO g l at_) out) n
  exact⟨h1.step a b (by omega),by omega,by omega⟩
theorem kh {g:af} : dC g 0 0 dI:=by
 refine⟨λs a=>?_,λj s a=>?_,λs a e he=>?_,λs a e he=>?_⟩
 rotate_right
 .simp[dI] at a;subst a;simp at he
 .simp[dI] at a;subst a
  refine⟨by simp[bX],by simp,λx b=>?_⟩
  simp at b;subst b
  exact⟨⟨by simp,by simp only;omega⟩,by simp,by simp[bB]⟩
 .have:=SK a
  simp[dI] at this;subst this;simp
 .simp[dI] at a;subst a;simp at he
theorem dC.k6 {g:af} (a:g.cZ) {at_ i:Nat} {out:List aL} (h:dC g at_ i out) {j:Nat} (b:j < out.length):bX (cE g (out.getD j bD).bb)/\∀ x∈cE g (out.getD j bD).bb,b6 g x:=by
 have hm:=SK (getD_some (d:=bD) b)
 exact⟨qy _ _,λx c=>((fD a (h.bb _ hm).2.2).1 c).has (h.bb _ hm).2.2⟩
structure DQ (g:af) (a:List aL):Prop where
 bb:∀ s∈a,bX s.bb/\s.bb≠[]/\∀ x∈s.bb,b6 g x
 bT:∀ s∈a,s.bT.length<=40
 to:∀ s∈a,∀ e∈s.bT,0<=e.to/\e.to < a.length
 sym:∀ s∈a,∀ e∈s.bT,-1000<=e.sym/\e.sym<=1000
theorem dC.ok {g:af} {at_ i:Nat} {out:List aL} (h:dC g at_ i out):DQ g out :=
 ⟨h.bb,λs a=>by obtain⟨j,b,e⟩:=TX.1 a;exact(h.bT j s (by rw[Sn b,e])).1,h.to,h.sym⟩
theorem ET {g:af} (b:g.cZ):∀ (f at_:Nat) (out:List aL),dC g at_ 0 out->1<=out.length->out.length<=300->(eM g f at_ out).2=0->DQ g (eM g f at_ out).1/\1<=(eM g f at_ out).1.length/\(eM g f at_ out).1.length<=300
 | 0,_,out,h,h1,c,_=>⟨h.ok,h1,c⟩
 | f+1,at_,out,h,h1,c,a=>by
  rw[eM] at a ⊢
  split
  .rename_i d
   rw[St d] at a
   have hr:=dC.row (h.k6 b d).1 (h.k6 b d).2 h (g.ao.length+g.aj.length) (by have:=b.ao;have:=b.aj;omega)
   rw[show (List.range (g.ao.length+g.aj.length)).foldl (cO g (cE g (out.getD at_ bD).bb) at_) out=s0 g at_ out (g.ao.length+g.aj.length) from rfl] at hr
   split
   .rename_i e;rw[St e] at a;simp at a
   .rename_i e
    rw[Sr e] at a
    exact ET b f (at_+1) _ hr.1.next (by omega) (by omega) a
  .exact⟨h.ok,h1,c⟩
theorem NS {g:af} (a:g.cZ) (h:(bI g).2=0):DQ g (bI g).1/\1<=(bI g).1.length/\(bI g).1.length<=300:=by
 unfold bI at h ⊢
 split
 .rename_i hr
  rw[St hr] at h
  exact ET a 302 0 dI kh (by simp[dI]) (by simp[dI]) h
 .rename_i hr
  rw[Sr hr] at h
  simp at h
def ji (l:List eU):List (List V):=l.map jQ
def kA (s:aL):List V:=[.aT (aM s.bb),.aT (ji s.bT)]
def bJ (a:List aL):V:=.aT (a.map kA)
theorem Pg (l:List eU):Tree (.aT (ji l)):=eY _ _ λx _ v a=>by simp[jQ] at a;rcases a with rfl | rfl <;> exact .val _
theorem Jp (s:aL):∀ v∈kA s,Tree v:=by
 intro v a;simp[kA] at a
 rcases a with rfl | rfl
 .exact BK _
 .exact Pg _
theorem lp (a:List aL):Tree (bJ a):=eY _ _ λx _=>Jp x
abbrev nR:=V × V × aL
def ez (A:List nR):List (List V):=A.map λx=>[x.1,x.2.1]
def kT (A:List nR):List dG:=A.flatMap λx=>[(x.1,2,aM x.2.2.bb),(x.2.1,2,ji x.2.2.bT)]
theorem cW (A:List nR):(ez A).length=A.length:=by simp[ez]
theorem ml {A:List nR} {x:nR} (a:x∈A):(x.1,2,aM x.2.2.bb)∈kT A/\(x.2.1,2,ji x.2.2.bT)∈kT A:=by
 constructor <;> exact List.mem_flatMap.2 ⟨x,a,by simp⟩
theorem B5 {h:az} {u:V} {A:List nR} (f:aJ h.view u 2 (ez A)) (g:∀ x∈A,aJ h.view x.1 2 (aM x.2.2.bb)/\aJ h.view x.2.1 2 (ji x.2.2.bT)):dH h u (bJ (A.map λx=>x.2.2)):=by
 have c:∀ i (hi:i < A.length),(ez A).getD i []=[(A[i]).1,(A[i]).2.1]/\(((A.map λx=>x.2.2).map kA).getD i [])=kA (A[i]).2.2:=λi hi=>by
  simp[ez,Sm,hi]
 refine dH.own f (by simp[ez]) (λi hi=>?_) (λi j hi b=>?_)
 .have a:i < A.length:=by simpa [ez] using hi
  rw[(c i a).1,(c i a).2];rfl
 .have a:i < A.length:=by simpa [ez] using hi
  rw[(c i a).2] at b ⊢
  rw[(c i a).1]
  have d:=g _ (Sx a)
  generalize A[i]'a=y at d b
  obtain⟨h1,k⟩:=d
  match j,b with
  | 0,_ =>
   refine dH.own h1 rfl (λi _=>rfl) (λi j hi b=>?_)
   rw[bw] at hi
   have e:(aM y.2.2.bb).getD i []=bq y.2.2.bb[i]:=by simp[aM,Sm,hi]
   rw[e] at b ⊢
   match j,b with
   | 0,_=>exact .val _
   | 1,_=>exact .val _
  | 1,_ =>
   refine dH.own k rfl (λi _=>rfl) (λi j hi b=>?_)
   simp only[ji,Sv] at hi
   have e:(ji y.2.2.bT).getD i []=jQ y.2.2.bT[i]:=by simp[ji,Sm,hi]
   rw[e] at b ⊢
   match j,b with
   | 0,_=>exact .val _
   | 1,_=>exact .val _
  | n+2,b=>exact absurd b (by simp[kA])
def mQ:SC :=
 ae [ae [ab [aa 6 5,aa 7 0,aP 8 7,aU 9 .lss 6 8],cb 9 (.exit 0)],.block 1 (ae [ab [aa 12 0,aa 13 5,aZ 14 2 12 13,al 15 0 14,ak 16 15,aa 17 1,bg 18 135 [16,17]],bf 18 (ae [ab [aa 19 5,aa 4 19],.ret])]),ab [aa 10 5,aF 11 .add 10 1,aa 5 11]]
def pU:SF:=⟨ae [ab [aR 4 0],ae [ab [aR 5 0],cd 0 mQ],ab [aR 4 (-1)],.ret],
 [.tmp 4],20⟩
theorem tA:aI Tryz.prog 72 []=some pU:=by kernel_rfl
def mz:SC :=
 ae [ae [ab [aa 31 7,al 32 0 1,ak 33 32,aP 34 33,al 35 1 1,ak 36 35,aP 37 36,aU 38 .add 34 37,aU 39 .lss 31 38],cb 39 (.exit 2)],.block 3 (ae [ab [ba 42 4 1,aa 43 7,bg 44 70 [42,43],aa 8 44],ab [ba 45 4 1,aa 46 6,aa 47 8,bg 48 71 [45,46,47],aa 9 48],ae [ab [aa 49 9,aP 50 49,aF 51 .eql 50 0],bf 51 (.exit 3)],ab [aa 52 4,aa 53 9,bg 54 72 [52,53],aa 10 54],ae [ab [aa 55 10,aF 56 .lss 55 0],bf 56 (ae [ab [aa 57 4,aP 58 57,aa 10 58],ab [aa 59 4,aa 60 9,((some 61),.op (.build [(.emp 1),(.emp 1)] [(0,1,(.tmp 60))])),((some 62),.op (.bN 1 2 [(.emp 1),(.emp 1)] [(0,(.tmp 61))])),gD 63 2 48 59 62,aa 4 63]])],ab [aa 64 4,aa 65 5,aa 66 4,aa 67 5,aZ 68 2 66 67,al 69 1 68,ak 70 69,aa 71 8,aa 72 10,((some 73),.op (.build [(.val (.int .i64 0)),(.val (.int .i64 0))] [(0,1,(.tmp 71)),(1,1,(.tmp 72))])),((some 74),.op (.bN 1 2 [(.val (.int .i64 0)),(.val (.int .i64 0))] [(0,(.tmp 73))])),gD 75 2 16 70 74,aZ 76 2 64 65,al 77 1 76,cL 1 77 75]]),ab [aa 40 7,aF 41 .add 40 1,aa 7 41]]
def mF:SC :=
 ae [ae [ab [aa 18 5,aa 19 4,aP 20 19,aU 21 .lss 18 20],cb 21 (.exit 0)],.block 1 (ae [ab [ba 24 4 1,aa 25 4,aa 26 5,aZ 27 2 25 26,al 28 0 27,ak 29 28,bg 30 69 [24,29],aa 6 30],ae [ab [aR 7 0],cd 2 mz],ab [aa 78 4,aP 79 78,aF 80 .gtr 79 300],bf 80 (ae [ab [bQ 2 1,aR 3 5],.ret])]),ab [aa 22 5,aF 23 .add 22 1,aa 5 23]]
def oc:SF:=⟨ae [ab [cG 1 0,bQ 2 1,aR 3 0],ae [ab [ba 11 4 1,bg 12 15 [11],dp 13 12],bf 13 (ae [ab [bQ 2 1,aR 3 1],.ret])],ab [((some 14),.op (.build [(.val (.int .i64 0)),(.val (.int .i64 0))] [(0,1,(.val (.val (.int .i64 (-1)))))])),((some 15),.op (.bN 1 2 [(.val (.int .i64 0)),(.val (.int .i64 0))] [(0,(.tmp 14))])),((some 16),.op (.build [(.emp 1),(.emp 1)] [(0,1,(.tmp 15))])),((some 17),.op (.bN 1 2 [(.emp 1),(.emp 1)] [(0,(.tmp 16))])),aa 4 17],ae [ab [aR 5 0],cd 0 mF],ab [aa 81 4,aa 2 81,aR 3 0],.ret],
 [.tmp 2,.tmp 3],82⟩
theorem sx:aI Tryz.prog 32 [1]=some oc:=by kernel_rfl
theorem JR:∀ (a:List aL) (k:List aD) (i:Nat),(∀ j s,j < i->a[j]?=some s->s.bb≠k)->(∀ s,a[i]?=some s->s.bb=k->findD a k=i)/\(i=a.length->findD a k = -1):=by
 intro a k i h
 refine⟨λs h1 c=>EB a k i s h1 c h,λe=>?_⟩
 subst e
 refine zE a k λs d=>?_
 obtain⟨j,b,e⟩:=TX.1 d
 exact h j s b (by rw[Sn b,e])
theorem L8 (a:List aL) (g:aK a) (l:∀ s∈a,aK s.bb) (k:List aD) (hk:aK k):ay Tryz.prog 72 [bJ a,.aT (aM k)] (gi (findD a k)):=by
 unfold aK at g
 refine ay.val (by
  intro v f;simp at f
  rcases f with rfl | rfl
  .exact lp _
  .exact BK _) λH=>?_
 refine au.of mixed tA ?_
 simp(disch:=omega)only[↓wr,seval,wq,pU,bJ]
 refine aY.up a.length (λi T H'=>(∀ j s,j < i->a[j]?=some s->s.bb≠k)/\T 0=bJ a/\T 1=.aT (aM k)/\T 5=gi i) ⟨λj s h=>by omega,rfl,rfl,rfl⟩ ?_
 rintro i n T H' m ⟨c,t0,t1,t5⟩
 obtain⟨f1,f2⟩:=JR a k i c
 simp(disch:=omega)only[↓wr,seval,wq,mQ,t0,t1,t5,bJ]
 apply ai.dec<;>intro o
 .have d:a[i]?=some (a[i]'(by omega)):=Sn (by omega)
  have hm:=l _ (Sx (show i < a.length by omega))
  generalize a[i]'(by omega)=x at d hm
  simp(disch:=omega)only[↓wr,seval,wq,t0,t1,t5,bJ,Ss,d,SD,kA]
  refine av.pure (I9 x.bb k hm hk) ?_
  simp(disch:=omega)only[↓wr,seval,wq,t0,t1,t5]
  apply ai.split<;>intro e
  .simp(disch:=omega)only[↓wr,seval,wq,t0,t1,t5]
   rw[f1 x d (by simpa using e)]
  .simp(disch:=omega)only[↓wr,seval,wq,t0,t1,t5]
   refine aH m (by omega) ⟨λj s p b=>?_,t0,t1,rfl⟩
   rcases SY j i with h | h
   .exact c j s h b
   .have:j=i:=by omega
    subst this
    rw[d] at b;simp at b;subst b
    simpa using e
 .simp(disch:=omega)only[↓wr,seval,wq,t0,t1,t5]
  rw[f2 (by omega)]
theorem IQ {g:af} (a:g.cZ) {s:aL} (h:bX s.bb/\s.bb≠[]/\∀ x∈s.bb,b6 g x):aK s.bb:=by
 have:=jm a h.1 h.2.2;unfold aK;omega
theorem cg.R5 {H:View} {u:V} {A:List nR} {L:List dG} (h:bc H ((u,2,ez A) :: L)) (a:∀ x∈kT A,x∈L):cg H u (bJ (A.map λx=>x.2.2)):=by
 rintro c rfl
 exact(B5 h.head λx b=>⟨h.1 _ (SQ _ (a _ (ml b).1)),h.1 _ (SQ _ (a _ (ml b).2))⟩).fr
theorem cg.lr {H:View} {u:V} {l:List aD} (h:aJ H u 2 (aM l)):cg H u (.aT (aM l)) :=
 cg.own h λe he v a=>by
  obtain⟨x,_,rfl⟩:=S5.1 he
  simp[bq] at a;rcases a with rfl | rfl <;> exact .val _
theorem mh {h:az} {u v:V} {e:Int} (h1:dH h u v):dH h (.aS [u,gi e]) (.aS [v,gi e]):=.aS _ _ rfl λi hi=>by
 match i,hi with
 | 0,_=>exact h1
 | 1,_=>exact .val _
theorem uD {α:Type} {l:List α} {i:Nat} (h:i < l.length):∃ a x b,l=a ++ x :: b/\a.length=i/\l[i]?=some x :=
 ⟨l.take i,l[i],l.drop (i+1),by rw[<-To h,List.take_append_drop],by simp;omega,Sn h⟩
theorem AS {α:Type} (a:List α) (x:α) (b:List α) (f:α->α):(a ++ x :: b).modify a.length f=a ++ f x :: b:=by
 induction a with
 | nil=>rfl
 | cons y a c=>simp only[Th,SA,List.modify_succ_cons,c]
theorem yM {g:af} (h:isRed g=true):ca g=true:=by
 unfold isRed at h
 simp only[SE,TA,SN] at h
 refine Decidable.byContradiction λa=>?_
 have h1:=h.1
 unfold gA at h1
 simp[a] at h1
theorem qo {g:af} (h:isRed g=true):g.cZ:=cD (yM h)
theorem Rs {α:Type} {a b c:α} {l:List α} : (a :: b :: c :: l).Perm (c :: b :: a :: l):=(List.Perm.swap _ _ _).trans (((List.Perm.swap _ _ _).cons _).trans (List.Perm.swap _ _ _))
theorem Qz {α:Type} {e u p r:α} {S:List α} : (e :: u :: p :: r :: S).Perm (u :: r :: (S ++ [p,e])) :=
 (List.Perm.swap _ _ _).trans (.cons _ (Rs.trans (.cons _ (List.perm_append_comm (l₁:=[p,e]) (l₂:=S)))))
theorem Li {α:Type} {u r k e:α} {b c:List α} : (u :: r :: (b ++ k :: e :: c)).Perm (e :: u :: r :: (b ++ k :: c)):=by
 have h:(b ++ k :: e :: c).Perm (e :: (b ++ k :: c)):=by
  have:=Uw (a:=e) (l₁:=b ++ [k]) (l₂:=c)
  simpa using this
 exact(((h.cons r).cons u).trans ((List.Perm.swap _ _ _).cons u)).trans (List.Perm.swap _ _ _)
theorem xU (A:List nR) (x:nR) (B:List nR):kT (A ++ x :: B)=kT A ++ (x.1,2,aM x.2.2.bb) :: (x.2.1,2,ji x.2.2.bT) :: kT B:=by simp[kT]
def Ru (g:af) (m:Nat) (T:Env) (H:View):Prop:=∃ (at_:Nat) (u:V) (A:List nR) (out:List aL),m+at_=302/\out=A.map (λx=>x.2.2)/\bc H ((u,2,ez A) :: kT A)/\dC g at_ 0 out/\1<=out.length/\out.length<=300/\eM g m at_ out=bI g/\at_<=out.length /\
 T 1=.aG (ag g) 0/\T 4=u/\T 5=gi at_
theorem IU (g:af) (hg:g.Ok):cT Tryz.prog 32 [.agg (ag g)] (.aS [bJ (bI g).1,gi (bI g).2]):=by
 refine cT.of (fa g) ?_
 have Y:=Qb g hg
 refine au.of mixed sx ?_
 simp only[ag,encS] at Y
 simp(disch:=omega)only[↓wr,seval,wq,oc,ag,encS]
 refine av.pure Y ?_
 simp(disch:=omega)only[↓wr,seval,wq]
 apply ai.split<;>intro hr
 rotate_left
 .simp(disch:=omega)only[↓wr,seval,wq]
  intro h' _
  have e:bI g=([],1):=by unfold bI;rw[Sr (by rw[hr];simp)]
  rw[e]
  exact mh (.emp _)
 have v:g.cZ:=qo hr
 have e0:eM g 302 0 dI=bI g:=by unfold bI;rw[St hr]
 have hT:=v.ao;have hN:=v.aj
 simp(disch:=omega)only[↓wr,seval,wq]
 intro O q2 K
 have o0:bc (((View.set (λ_=>dF.dead) O (.arr 2 [[gi (-1),gi 0]])).set q2 (.arr 2 [[.sl O 0 1 2,.emp 1]]))) ((.sl q2 0 1 2,2,ez [(.sl O 0 1 2,.emp 1,⟨[⟨-1,0⟩],[]⟩)]) :: kT [(.sl O 0 1 2,.emp 1,⟨[⟨-1,0⟩],[]⟩)]) :=
  (((bc.nil.emp (k:=1) (sz:=2)).new (n:=O) rfl 2 [[gi (-1),gi 0]]).new (by simpa [View.set] using K) 2 [[.sl O 0 1 2,.emp 1]])
 generalize (View.set (λ_=>dF.dead) O (.arr 2 [[gi (-1),gi 0]])).set q2 (.arr 2 [[.sl O 0 1 2,.emp 1]])=H0 at o0 ⊢
 refine aY.intro (Ru g) 302 ⟨0,_,_,dI,rfl,rfl,o0,kh,Sy _,by simp[dI],e0,by omega,rfl,rfl,rfl⟩ ?_
 clear o0 K
 rintro m T H ⟨at_,u,A,out,hm,rfl,j,hI,h1,P,Q,hle,t1,t4,t5⟩
 have w:bZ u=some A.length:=by rw[j.head.len,cW]
 simp only[Sv] at h1 P hle
 simp(disch:=omega)only[↓wr,seval,wq,mF,t1,t4,t5,w]
 apply ai.dec<;>intro hc
 rotate_left
 .simp(disch:=omega)only[↓wr,seval,wq,t1,t4,t5]
  have e1:bI g=(A.map (λx=>x.2.2),0):=by
   rw[<-Q]
   cases m with
   | zero=>rfl
   | succ m=>rw[eM,Sr (by simp;omega)]
  rw[e1]
  rintro h' rfl
  exact mh (B5 j.head λx L=>⟨j.1 _ (SQ _ (ml L).1),j.1 _ (SQ _ (ml L).2)⟩)
 obtain⟨m,rfl⟩:∃ q,m=q+1:=⟨m - 1,by omega⟩
 have z:at_ < A.length:=by omega
 obtain⟨a,x,d,rfl,p,L⟩:=uD z
 have U:x∈a ++ x :: d:=by simp
 obtain⟨Z,b8,C⟩:=hI.bb x.2.2 (List.mem_map_of_mem U)
 have b9:=jm v Z C
 have hh:aJ H u 2 (ez (a ++ x :: d)):=j.head
 obtain⟨id,hu,M⟩:=hh.sl (by rw[cW];omega)
 have D:(ez (a ++ x :: d)).getD at_ []=[x.1,x.2.1]:=by simp[ez,Sm,<-p]
 have an:cE g ((List.map (λx=>x.2.2) (a ++ x :: d)).getD at_ bD).bb=cE g x.2.2.bb:=by
  rw[Sm,Ss,L];rfl
 have R:=λn hn=>dC.row (hI.k6 v (show at_ < ((a ++ x :: d).map λx=>x.2.2).length by simpa using z)).1 (hI.k6 v (show at_ < ((a ++ x :: d).map λx=>x.2.2).length by simpa using z)).2 hI n hn
 rw[eM,St (by simpa using z),s0] at Q
 rw[an] at Q R
 have aq:=qy g x.2.2.bb
 have ar:∀ y∈cE g x.2.2.bb,b6 g y:=λy hy=>((fD v C).1 hy).has C
 rw[cW] at hu
 simp(disch:=omega)only[↓wr,seval,wq,t1,t4,t5,hu,M,D,ag,encS]
 refine⟨by omega,by rw[cW];omega,?_⟩
 refine av.dW ((EN g v x.2.2.bb C (by omega) x.1 H (j.1 _ (SQ _ (ml U).1))).mono ?_)
 rintro r H2 ⟨or,fr⟩
 have o2:=j.Bp or fr
 clear or fr M D an L
 generalize cE g x.2.2.bb=cl at *
 generalize h:(a ++ x :: d).map (λx=>x.2.2)=E at *
 have a1:E.length=(a ++ x :: d).length:=by rw[<-h];simp
 simp(disch:=omega)only[↓wr,seval,wq,t1,t4,t5]
 refine aY.up (g.ao.length+g.aj.length) (λi T H'=>∃ (u:V) (A:List nR),A.map (λx=>x.2.2)=(List.range i).foldl (cO g cl at_) E/\bc H' ((r,2,aM cl) :: (u,2,ez A) :: kT A)/\T 1=.aG (ag g) 0/\T 4=u/\T 5=gi at_/\T 6=r/\T 7=gi i)
  ⟨u,_,h,o2,t1,by rw[<-hu];exact t4,t5,rfl,rfl⟩ ?_
 rw[<-a1] at h1 P hle z
 clear o2 j hh hu t1 t4 t5 w h U a1 hc Z b8 C b9 p
 clear u H2 H T id a x d
 rintro i k T H' hk ⟨u,A,hA,j,t1,t4,t5,t6,t7⟩
 obtain⟨iI,a6,a7⟩:=R i (by omega)
 rw[<-hA] at iI a6 a7
 rw[Sv] at a6 a7
 have w:bZ u=some A.length:=by rw[j.tail.head.len,cW]
 have cA:=jm v aq ar
 simp(disch:=omega)only[↓wr,seval,wq,mz,t1,t4,t5,t6,t7,ag,encS]
 apply ai.dec<;>intro hc
 rotate_left
 .have hi:i=g.ao.length+g.aj.length:=by omega
  subst hi
  rw[<-hA] at Q
  simp(disch:=omega)only[↓wr,seval,wq,t1,t4,t5,t6,w]
  apply ai.dec<;>intro h3
  .simp(disch:=omega)only[↓wr,seval,wq]
   intro h' _
   rw[St (by rw[Sv];omega)] at Q
   rw[<-Q]
   exact mh (.emp _)
  .simp(disch:=omega)only[↓wr,seval,wq,t1,t4,t5]
   rw[Sr (by rw[Sv];omega)] at Q
   exact⟨m,by omega,at_+1,u,A,_,by omega,rfl,j.tail,iI.next,by rw[Sv];omega,by rw[Sv];omega,Q,by rw[Sv];omega,t1,t4,rfl⟩
 have a8:i < g.ao.length+g.aj.length:=by omega
 have S:=Gi g v i a8
 have cC:=Be v a8
 simp only[ag,encS] at S
 simp(disch:=omega)only[↓wr,seval,wq,t1,t4,t5,t6,t7,ag,encS]
 refine av.pure S ?_
 simp(disch:=omega)only[↓wr,seval,wq,t1,t4,t5,t6,t7,ag,encS]
 refine av.dW ((Ji g v cl aq ar (aN g i) r H' j.head).mono ?_)
 rintro J H9 ⟨or,fr⟩
 have o9:=j.Bp or fr
 have cN:=ry (g:=g) (l:=cl) (s:=aN g i)
 have cc:bZ J=some (aX g cl (aN g i)).length:=by rw[or.len,bw]
 have F:(List.range (i+1)).foldl (cO g cl at_) E=cO g cl at_ (A.map λx=>x.2.2) i:=by rw[Uq,T4,<-hA];rfl
 simp(disch:=omega)only[↓wr,seval,wq,t1,t4,t5,t6,t7,cc]
 apply ai.eq<;>intro he
 .have bd:aX g cl (aN g i)=[]:=Ub.1 (by omega)
  simp(disch:=omega)only[↓wr,seval,wq,t1,t4,t5,t6,t7]
  exact aH hk (by omega) ⟨u,A,by rw[F,cO,St bd],o9.tail,t1,t4,t5,t6,rfl⟩
 have bl:aX g cl (aN g i)≠[]:=λe=>he (by rw[e];rfl)
 simp(disch:=omega)only[↓wr,seval,wq,t1,t4,t5,t6,t7]
 have W:=L8 (A.map λx=>x.2.2) (by unfold aK;rw[Sv];omega) (λs hs=>IQ v (iI.bb s hs)) (aX g cl (aN g i)) (by unfold aK;omega)
 refine av.JU W (by kernel_rfl) (.val _) ⟨cg.R5 o9.tail.tail (λx L=>L),cg.lr or,trivial⟩ ?_
 have cf:=vd (A.map λx=>x.2.2) (aX g cl (aN g i))
 have cS:=qR (A.map λx=>x.2.2) (aX g cl (aN g i))
 rw[Sv] at cf
 have bn:at_ < A.length:=by omega
 simp(disch:=omega)only[↓wr,seval,wq,t1,t4,t5,t6,t7]
 obtain⟨a,x,d,G,p,L⟩:=uD bn
 have cV:x.2.2.bT.length<=40:=(iI.bT at_ x.2.2 (by rw[Ss,L];rfl)).1
 have D:∀ B,(ez (a ++ x :: B)).getD at_ []=[x.1,x.2.1]:=λB=>by simp[ez,Sm,<-p]
 have br:∀ (B:List nR) (c:eU),((a ++ x :: B).map λx=>x.2.2).modify at_ (λs=>(⟨s.bb,s.bT ++ [c]⟩:aL))=(a ++ (x.1,x.2.1,(⟨x.2.2.bb,x.2.2.bT ++ [c]⟩:aL)) :: B).map λx=>x.2.2:=λB c=>by
  rw[S0,S7,<-p,<-Sv (f:=λx:nR=>x.2.2),AS,S0,S7]
 apply ai.dec<;>intro I
 simp(disch:=omega)only[↓wr,seval,wq,t1,t4,t5,t6,t7,w,or.cells,or.eL]
 intro q hq
 simp(disch:=omega)only[↓wr,seval,wq,bO]
 have ch:=(o9.fresh (o:=.arr 2 [[J,.emp 1]]) hq).at 2 (by simp)
 refine c8 ch (by simp[or.eL,xR]) (by unfold aC;rw[cW];simp;omega) (by unfold aC;rw[cW];simp;omega) ?_
 intro u2 X bs _
 simp only[List.getElem_cons_succ,List.getElem_cons_zero,TH,TI] at bs
 have cj:=(bs.emp (k:=1) (sz:=2)).perm Qz
 have t:cO g cl at_ (A.map λx=>x.2.2) i=((a ++ x :: (d ++ [(J,.emp 1,(⟨aX g cl (aN g i),[]⟩:aL))])).map λx=>x.2.2).modify at_ (λs=>(⟨s.bb,s.bT ++ [⟨aN g i,(A.length:Int)⟩]⟩:aL)):=by
  rw[cO,Sr bl,St I,Sv]
  congr 1
  rw[G];simp
 have b:bc X ((u2,2,ez (a ++ x :: (d ++ [(J,.emp 1,(⟨aX g cl (aN g i),[]⟩:aL))]))) :: (r,2,aM cl) :: kT (a ++ x :: (d ++ [(J,.emp 1,(⟨aX g cl (aN g i),[]⟩:aL))]))):=by
  have e1:ez (a ++ x :: (d ++ [(J,.emp 1,(⟨aX g cl (aN g i),[]⟩:aL))]))=ez A ++ [[J,.emp 1]]:=by rw[G];simp[ez]
  have e2:kT (a ++ x :: (d ++ [(J,.emp 1,(⟨aX g cl (aN g i),[]⟩:aL))]))=kT A ++ [(J,2,aM (aX g cl (aN g i))),(.emp 1,2,[])]:=by rw[G];simp[kT];rfl
  rw[e1,e2]
  exact cj
 generalize (d ++ [(J,V.emp 1,(⟨aX g cl (aN g i),[]⟩:aL))])=B at t b
 generalize (A.length:Int)=to at t ⊢
 rotate_left
 have t:cO g cl at_ (A.map λx=>x.2.2) i=((a ++ x :: d).map λx=>x.2.2).modify at_ (λs=>(⟨s.bb,s.bT ++ [⟨aN g i,findD (A.map λx=>x.2.2) (aX g cl (aN g i))⟩]⟩:aL)):=by
  rw[cO,Sr bl,Sr I,<-G]
 have b:=o9.tail.perm (.swap _ _ _)
 clear or fr
 generalize H9=X at o9 b ⊢
 obtain⟨u2,ck⟩:∃ y,y=u:=⟨_,rfl⟩
 rw[<-ck] at b t4
 rw[G] at b
 generalize findD (A.map λx=>x.2.2) (aX g cl (aN g i))=to at t ⊢
 generalize d=B at t b
 all_goals (
  obtain⟨id,hu,M⟩:=(show aJ X u2 2 (ez (a ++ x :: B)) from b.head).sl (by rw[cW];simp;omega)
  rw[cW] at hu
  rw[xU] at b
  simp(disch:=omega)only[↓wr,seval,wq,t1,t4,t5,t6,t7,hu,M,D B]
  refine⟨by simp;omega,by rw[cW];simp;omega,?_⟩
  intro q2 K
  simp(disch:=omega)only[↓wr,seval,wq,bO]
  refine c8 ((b.perm Li).fresh K) (by simp[aE]) (by unfold aC;simp[ji];omega) (by unfold aC;simp[ji];omega) ?_
  intro e2 cu N _
  have bx:cu id=.arr 2 (ez (a ++ x :: B)):=((N.own 1 rfl).live (by rw[hu];rfl)).1
  simp(disch:=omega)only[↓wr,seval,wq,t1,t4,t5,t6,t7,hu,bx,D B,N.head.cells,N.head.eL]
  have b0:(ez (a ++ x :: B)).set at_ [x.1,e2]=ez (a ++ (x.1,e2,(⟨x.2.2.bb,x.2.2.bT ++ [⟨aN g i,to⟩]⟩:aL)) :: B):=by
   rw[<-p];simp[ez]
  have cv:ji (x.2.2.bT ++ [⟨aN g i,to⟩])=ji x.2.2.bT ++ [[gi (aN g i),gi to]]:=by simp[ji,jQ]
  have b1:=N.perm (.swap _ _ _)
  rw[hu] at b1
  have b2:=((b1.put (es':=ez (a ++ (x.1,e2,(⟨x.2.2.bb,x.2.2.bT ++ [⟨aN g i,to⟩]⟩:aL)) :: B)) (by rw[cW,cW];simp) (by rw[cW])).perm (.swap _ _ _)).perm Li.symm
  rw[<-cv] at b2
  have b7:=b2.perm (.swap _ _ _)
  rw[<-hu] at b7
  rw[b0]
  refine⟨by simp;omega,by rw[cW];simp;omega,aH hk (by omega) ⟨u2,_,?_,by rw[xU];exact b7,t1,by first | rfl | exact t4 | exact hu.symm,t5,t6,rfl⟩⟩
  rw[F,t,br];simp)
def ql:SF:=⟨ae [ab [cG 2 0,cG 3 1,bm 4 false],.region true [⟨none,[ba 5 4 2,bg 6 50 [5],aa 7 6]⟩,⟨(some (7,true)),[al 8 0 3,ak 9 8,aF 10 .geq 9 (-1)]⟩,⟨none,[eA 11 7 10,aa 12 11]⟩,⟨(some (12,true)),[al 13 0 3,ak 14 13,al 15 2 2,ak 16 15,aP 17 16,aU 18 .lss 14 17]⟩,⟨none,[eA 19 12 18,aa 20 19]⟩,⟨(some (20,true)),[al 21 1 3,ak 22 21,aF 23 .geq 22 0]⟩,⟨none,[eA 24 20 23,aa 25 24]⟩,⟨(some (25,true)),[al 26 1 3,ak 27 26,ba 28 4 2,al 29 0 3,ak 30 29,bg 31 199 [28,30],aP 32 31,aU 33 .leq 27 32]⟩,⟨none,[eA 34 25 33,aa 4 34]⟩],.ret],
 [.tmp 4],35⟩
theorem uV:aI Tryz.prog 166 [2,3]=some ql:=by kernel_rfl
def pO:SF:=⟨ae [ab [cG 2 0,cG 3 1,aR 4 0,bm 5 false],ae [ab [ba 6 4 2,ba 7 2 3,bg 8 166 [6,7],dp 9 8],bf 9 (ae [ab [aR 4 0,bm 5 false],.ret])],ab [ba 10 4 2,ba 11 2 3,bg 12 134 [10,11],dz 13 0 12,dz 14 1 12,aa 4 13,aa 5 14],.ret],
 [.tmp 4,.tmp 5],15⟩
theorem tE:aI Tryz.prog 100 [2,3]=some pO:=by kernel_rfl
def jx:SC :=
 ae [ae [.region false [⟨none,[aa 26 11,aa 27 0,aa 28 1,aZ 29 2 27 28,al 30 1 29,ak 31 30,aP 32 31,aU 33 .lss 26 32,aa 34 33]⟩,⟨(some (34,true)),[aa 35 10,dp 36 35]⟩,⟨none,[eA 37 34 36]⟩],cb 37 (.exit 2)],.block 3 (ae [ab [aa 40 0,aa 41 1,aZ 42 2 40 41,al 43 1 42,ak 44 43,aa 45 11,aZ 46 2 44 45,al 47 0 46,ak 48 47,aa 49 2,aa 50 8,aZ 51 1 49 50,ak 52 51,aU 53 .eql 48 52],bf 53 (ab [aa 54 0,aa 55 1,aZ 56 2 54 55,al 57 1 56,ak 58 57,aa 59 11,aZ 60 2 58 59,al 61 1 60,ak 62 61,aa 9 62,bm 10 true])]),ab [aa 38 11,aF 39 .add 38 1,aa 11 39]]
def nG:SC :=
 ae [ae [ab [aa 20 8,aa 21 2,aP 22 21,aU 23 .lss 20 22],cb 23 (.exit 0)],.block 1 (ae [ab [aR 9 (-1),bm 10 false],ae [ab [aR 11 0],cd 2 jx],ae [.region false [⟨none,[aa 63 9,aF 64 .lss 63 0,aa 65 64]⟩,⟨(some (65,false)),[aa 66 9,aa 67 0,aP 68 67,aU 69 .geq 66 68]⟩,⟨none,[cR 70 65 69]⟩],bf 70 (ae [ab [aR 6 0,bm 7 false],.ret])],ab [aa 71 9,aa 1 71]]),ab [aa 24 8,aF 25 .add 24 1,aa 8 25]]
def py:SF:=⟨ae [ab [aR 6 0,bm 7 false],ae [.region false [⟨none,[aa 12 1,aF 13 .lss 12 0,aa 14 13]⟩,⟨(some (14,false)),[aa 15 1,aa 16 0,aP 17 16,aU 18 .geq 15 17]⟩,⟨none,[cR 19 14 18]⟩],bf 19 (ae [ab [aR 6 0,bm 7 false],.ret])],ae [ab [aR 8 0],cd 0 nG],ab [aa 72 1,aa 6 72,bm 7 true],.ret],
 [.tmp 6,.tmp 7],73⟩
theorem tN:aI Tryz.prog 33 []=some py:=by kernel_rfl
instance (g:af) (x:aD):Decidable (b6 g x):=by unfold b6;infer_instance
def pD (g:af) (x:aD):Bool:=ca g && decide (b6 g x)
theorem HF (g:af) (x:aD):∀ v∈[V.agg (ag g),.agg (bq x)],Tree v:=by
 intro v a;simp at a
 rcases a with rfl | rfl
 .exact cn _ (cM g)
 .exact cn _ λv a=>by simp[bq] at a;rcases a with rfl | rfl <;> exact .val _
theorem Nw (g:af) (f:g.Ok) (x:aD) (i:bK x.aw/\bK x.dot):ay Tryz.prog 166 [.agg (ag g),.agg (bq x)] (gb (pD g x)):=by
 refine ay.val (HF g x) λH=>?_
 have a:=qw g f
 obtain⟨c,d⟩:=i
 unfold bK at c d
 refine au.of mixed uV ?_
 simp only[ag,encS] at a
 simp(disch:=omega)only[↓wr,seval,wq,ql,ag,encS,bq]
 refine av.pure a ?_
 have bad:¬ b6 g x->gb false=gb (pD g x):=λh=>by unfold pD;rw[decide_eq_false h,Bool.and_false]
 simp(disch:=omega)only[↓wr,seval,wq]
 apply ai.split<;>intro hr
 rotate_left
 .simp(disch:=omega)only[↓wr,seval,wq]
  unfold pD;rw[hr];rfl
 have e:=cD hr
 simp(disch:=omega)only[↓wr,seval,wq,bq]
 apply ai.dec<;>intro h1
 rotate_left
 .simp(disch:=omega)only[↓wr,seval,wq]
  exact bad λh=>by have:=h.1;omega
 simp(disch:=omega)only[↓wr,seval,wq,bq,ag]
 apply ai.dec<;>intro j
 rotate_left
 .simp(disch:=omega)only[↓wr,seval,wq]
  exact bad λh=>by have:=h.1;omega
 simp(disch:=omega)only[↓wr,seval,wq,bq]
 apply ai.dec<;>intro k
 rotate_left
 .simp(disch:=omega)only[↓wr,seval,wq]
  exact bad λh=>by have:=h.2;omega
 have b:=zY g (iA e) x.aw ⟨by omega,by omega⟩
 have l:=dy e (r:=x.aw) ⟨by omega,by omega⟩
 simp only[ag,encS,encI] at b
 simp(disch:=omega)only[↓wr,seval,wq,bq,ag,encS]
 refine av.pure b ?_
 simp(disch:=omega)only[↓wr,seval,wq,bq]
 congr 2
 unfold pD
 rw[hr,TC]
 congr 1
 unfold b6
 simp only[eq_iff_iff]
 omega
def DR (g:af) (x:aD):Int × Bool:=if pD g x=true then bo g x else (0,false)
theorem Ap {g:af} {x:aD} : pD g x=true↔ca g=true/\b6 g x:=by simp[pD]
theorem KA (g:af) (c:g.Ok) (x:aD) (d:bK x.aw/\bK x.dot):ay Tryz.prog 100 [.agg (ag g),.agg (bq x)] (.aS [gi (DR g x).1,gb (DR g x).2]):=by
 have a:=Nw g c x d
 refine ay.tree (HF g x) (wD (.val _) (.val _)) λH=>?_
 refine au.of mixed tE ?_
 simp only[ag,encS,bq] at a
 simp(disch:=omega)only[↓wr,seval,wq,pO,ag,encS,bq]
 refine av.pure a ?_
 unfold DR
 simp(disch:=omega)only[↓wr,seval,wq]
 apply ai.split<;>intro h
 .obtain⟨h1,e⟩:=Ap.1 h
  have b:=ze g (cD h1) x e
  simp only[ag,encS,bq] at b
  simp(disch:=omega)only[↓wr,seval,wq,ag,encS,bq]
  refine av.pure b ?_
  simp(disch:=omega)only[↓wr,seval,wq]
  rw[St h]
 .simp(disch:=omega)only[↓wr,seval,wq]
  rw[h];simp
theorem Jz:∀ (l:List eU) (s:Int) (k:Nat) (e:eU),l[k]?=some e->fX (l.drop k) s=if e.sym=s then e.to else fX (l.drop (k+1)) s:=by
 intro l s k e h
 obtain⟨hk,he⟩:=SH.1 h
 rw[To hk,he,fX]
theorem LO (a:List aL) (u:aK a) (he:∀ s∈a,aK s.bT/\∀ e∈s.bT,bK e.sym/\bK e.to) (fr:Int) (syms:List Int) (w:aK syms):ay Tryz.prog 33 [bJ a,gi fr,encI syms] (.aS [gi (lG a fr syms).1,gb (lG a fr syms).2]):=by
 unfold aK at u w
 refine ay.tree (by
  intro v q;simp at q
  rcases q with rfl | rfl | rfl
  .exact lp _
  .exact .val _
  .exact bU _) (wD (.val _) (.val _)) λH=>?_
 refine au.of mixed tN ?_
 unfold lG
 simp(disch:=omega)only[↓wr,seval,wq,py,bJ,encI]
 apply ai.dec<;>intro h1
 .simp(disch:=omega)only[↓wr,seval,wq]
  rw[St (by omega)]
 simp(disch:=omega)only[↓wr,seval,wq,bJ]
 apply ai.dec<;>intro y
 .simp(disch:=omega)only[↓wr,seval,wq]
  rw[St (by omega)]
 rw[Sr (by omega)]
 simp(disch:=omega)only[↓wr,seval,wq]
 refine aY.up syms.length (λi T H'=>∃ at_:Int,0<=at_/\at_ < a.length/\iw a at_ (syms.drop i)=iw a fr syms/\T 0=bJ a/\T 1=gi at_/\T 2=encI syms/\T 8=gi i) ⟨fr,by omega,by omega,rfl,rfl,rfl,rfl,rfl⟩ ?_
 rintro i k T H' hk ⟨at_,C,D,hw,t0,t1,t2,t8⟩
 simp(disch:=omega)only[↓wr,seval,wq,nG,t0,t1,t2,t8,encI]
 apply ai.dec<;>intro z
 .have r:syms[i]?=some (syms[i]'(by omega)):=Sn (by omega)
  rw[To (show i < syms.length by omega)] at hw
  generalize syms[i]'(by omega)=x at r hw
  have d:a[at_.toNat]?=some (a.getD at_.toNat bD):=getD_some (by omega)
  obtain⟨f,l⟩:=he _ (SK d)
  rw[iw] at hw
  generalize a.getD at_.toNat bD=S at d f l hw
  unfold aK at f
  simp(disch:=omega)only[↓wr,seval,wq,t0,t1,t2,t8]
  refine aY.up S.bT.length (λj T H'=>∃ (to:Int) (ok:Bool),(ok=true->to=fX S.bT x)/\(ok=false->to = -1/\fX (S.bT.drop j) x=fX S.bT x)/\T 0=bJ a/\T 1=gi at_/\T 2=encI syms/\T 8=gi i/\T 9=gi to/\T 10=gb ok/\T 11=gi j)
   ⟨-1,false,by simp,λ_=>⟨rfl,rfl⟩,t0,t1,t2,t8,rfl,rfl,rfl⟩ ?_
  clear t0 t1 t2 t8
  rintro j k2 F G g ⟨to,ok,A,B,t0,t1,t2,t8,t9,t10,t11⟩
  cases ok with
  | true =>
   have b:=A rfl
   simp(disch:=omega)only[↓wr,seval,wq,jx,t0,t1,t2,t8,t9,t10,t11,bJ,Ss,d,SD,kA,ji]
   apply ai.dec<;>intro _
   all_goals (
    simp(disch:=omega)only[↓wr,seval,wq,t0,t1,t2,t8,t9,t10,t11,bJ,b]
    apply ai.dec<;>intro m
    .simp(disch:=omega)only[↓wr,seval,wq]
     rw[<-hw,Sr (by omega)]
    .simp(disch:=omega)only[↓wr,seval,wq,t0,t1,t2,t8,t9,bJ,b]
     apply ai.dec<;>intro n
     .simp(disch:=omega)only[↓wr,seval,wq]
      rw[<-hw,Sr (by omega)]
     .simp(disch:=omega)only[↓wr,seval,wq,t0,t1,t2,t8,t9,b]
      rw[St ⟨by omega,by omega⟩] at hw
      exact aH hk (by omega) ⟨_,by omega,by omega,hw,t0,rfl,t2,rfl⟩)
  | false =>
   obtain⟨t,c⟩:=B rfl
   simp(disch:=omega)only[↓wr,seval,wq,jx,t0,t1,t2,t8,t9,t10,t11,bJ,Ss,d,SD,kA,ji]
   apply ai.dec<;>intro o
   .have h:S.bT[j]?=some (S.bT[j]'(by omega)):=Sn (by omega)
    generalize S.bT[j]'(by omega)=E at h
    rw[Jz _ _ _ _ h] at c
    simp(disch:=omega)only[↓wr,seval,wq,t0,t1,t2,t8,t9,t10,t11,bJ,encI,Ss,d,r,SD,kA,ji,h,jQ]
    apply ai.eq<;>intro p
    .rw[St p] at c
     simp(disch:=omega)only[↓wr,seval,wq,t0,t1,t2,t8,t9,t10,t11,bJ,Ss,d,SD,kA,ji,h,jQ]
     exact aH g (by omega) ⟨E.to,true,λ_=>c,by simp,t0,t1,t2,t8,rfl,rfl,rfl⟩
    .rw[Sr p] at c
     simp(disch:=omega)only[↓wr,seval,wq,t0,t1,t2,t8,t9,t10,t11]
     exact aH g (by omega) ⟨to,false,by simp,λ_=>⟨t,c⟩,t0,t1,t2,t8,t9,t10,rfl⟩
   .rw[S4 (by omega),fX,<-t] at c
    have b:=c
    simp(disch:=omega)only[↓wr,seval,wq,t0,t1,t2,t8,t9,t10,t11,bJ,b]
    apply ai.dec<;>intro m
    .simp(disch:=omega)only[↓wr,seval,wq]
     rw[<-hw,Sr (by omega)]
    .simp(disch:=omega)only[↓wr,seval,wq,t0,t1,t2,t8,t9,bJ,b]
     apply ai.dec<;>intro n
     .simp(disch:=omega)only[↓wr,seval,wq]
      rw[<-hw,Sr (by omega)]
     .simp(disch:=omega)only[↓wr,seval,wq,t0,t1,t2,t8,t9,b]
      rw[St ⟨by omega,by omega⟩] at hw
      exact aH hk (by omega) ⟨_,by omega,by omega,hw,t0,rfl,t2,rfl⟩
 .simp(disch:=omega)only[↓wr,seval,wq,t1]
  rw[S4 (by omega),iw] at hw
  rw[<-hw]
open Go Go.Proofs Go.Shelf Go.RowKit Go.Sort
theorem bE.cut {P:Program} {f:FuncId} {vs:List V} {h g:az} {r:V} (n:bE P f vs h r g) {id sz:Nat} {es rest:List (List V)} (l:g.view id=.arr sz (es ++ rest)):bE P f vs h r (g.set id (.arr sz es)):=by
 have m:id < g.length:=gX (by rw[l];simp)
 refine⟨by simpa using n.1,λZ μ F w xs hr z p=>(n.2 Z μ F w xs hr z (by simpa using p)).mono ?_⟩
 rintro e w' ⟨x,A,μ',rfl,B,a,hex,q⟩
 refine⟨x,A,μ',rfl,B,?_,hex,by simpa using q⟩
 have t:∀ k,cat (g.set id (.arr sz es)) F k=if k=id then .arr sz es else cat g F k:=λk=>by
  simp only[cat,List.length_set]
  by_cases hk:k < g.length
  .rw[St hk,St hk,jr m];rfl
  .rw[Sr hk,Sr hk,Sr (by omega)]
 have u:cat g F id=.arr sz (es ++ rest):=by simp only[cat];rw[St m,l]
 refine⟨λk=>?_,λi j b o s C D v h1 E=>?_,a.lt,a.cH,a.gw⟩
 .rw[t]
  split
  .rename_i hk
   subst hk
   have d:=a.obj k
   rw[u] at d
   intro b o0 s hm
   obtain⟨G,⟨c,e,f,n,p,H⟩,I,J⟩:=d b o0 s hm
   have y:∀ i,i < es.length->(es ++ rest).getD i []=es.getD i []:=λi hi=>by
    simp[Sm,S9 hi]
   refine⟨G,⟨c,e,f,n,p,?_⟩,λi hi=>?_,λi j hi K=>?_⟩
   .rw[SV,Ti] at H;omega
   .rw[<-y i hi];exact I i (by rw[SV];omega)
   .rw[<-y i hi];exact J i j (by rw[SV];omega) K
  .exact a.obj k
 .have d:=a.inj i j b o s C D v h1 E
  rw[t,t]
  rcases d with d | d
  .left
   rw[Sr (λe=>by rw[e,u] at d;simp at d)];exact d
  .right
   rw[Sr (λe=>by rw[e,u] at d;simp at d)];exact d
theorem au.cut {P:Program} {f:FuncId} {vs:List V} {H:View} {K c:V->View->Prop} (h:au P f vs H K) (hk:∀ r H',K r H'->c r H'∨∃ id sz es rest,H' id=.arr sz (es ++ rest)/\c r (H'.set id (.arr sz es))):au P f vs H c:=by
 refine⟨h.1,λm n=>?_⟩
 obtain⟨r,d,j,l,o⟩:=h.2 m n
 rcases hk r _ o with h1 | ⟨id,sz,es,rest,a,h1⟩
 .exact⟨r,d,j,l,h1⟩
 .have b:id < d.length:=gX (by rw[a];simp)
  refine⟨r,d.set id (.arr sz es),j.cut a,λk g p=>?_,by rw[jr b];exact h1⟩
  have i:=l k g p
  rw[jr b]
  simp only[View.set]
  rw[Sr (λe=>by rw[e,a] at i;simp at i)]
  exact i
instance:Inhabited aD:=⟨⟨0,0⟩⟩
def ik (x:aD):List Value:=[.int .i64 x.aw,.int .i64 x.dot]
def np (a b:aD):Int:=if Lib.compareInt a.aw b.aw≠0 then Lib.compareInt a.aw b.aw else Lib.compareInt a.dot b.dot
theorem Np (a b:aD):(Lib.compareInt a.aw b.aw≠0->np a b=Lib.compareInt a.aw b.aw)/\(Lib.compareInt a.aw b.aw=0->np a b=Lib.compareInt a.dot b.dot):=by
 unfold np
 exact⟨λh=>by rw[St h],λh=>by rw[Sr (by simp[h])]⟩
theorem re (a b:aD):ltOf np a b=ct a b:=by
 have d:∀ x y:Int,(x < y/\Lib.compareInt x y = -1)∨(x=y/\Lib.compareInt x y=0)∨(y < x/\Lib.compareInt x y=1):=λx y=>by
  unfold Lib.compareInt; (repeat' split) <;> omega
 rw[TE,fk]
 simp only[ltOf,SN,np]
 rcases d a.aw b.aw with ⟨h,e⟩ | ⟨h,e⟩ | ⟨h,e⟩ <;> rcases d a.dot b.dot with ⟨k,c⟩ | ⟨k,c⟩ | ⟨k,c⟩ <;> simp[e,c] <;> omega
theorem Kd:SWO (ltOf np) where
 irrefl x:=by rw[re];exact kI
 trans x y z h k:=by rw[re] at *;exact nj h k
 ntrans x y z h k:=by
  rw[re] at *
  cases e:ct x z with
  | false=>rfl
  | true =>
   have h1:¬ ct x y=true:=by simp[h]
   have a:¬ ct y z=true:=by simp[k]
   rw[fk] at h1 a e
   omega
def ej (l:List aD):List aD:=l.mergeSort λx y=>!ct y x
theorem K6 (l:List aD):(l.toArray.toList.mergeSort λx y=>!(ltOf np) y x)=ej l:=by
 have e:(λx y=>!(ltOf np) y x)=λx y=>!ct y x:=by funext x y;rw[re]
 rw[e];rfl
theorem yN (l:List aD):(ej l).Perm l:=List.mergeSort_perm _ _
theorem im (l:List aD):(ej l).length=l.length:=(yN l).length_eq
theorem yQ (l:List aD):(ej l).Pairwise λx y=>ct y x=false:=by
 have:=List.pairwise_mergeSort (le:=λx y:aD=>!ct y x) (λa b c h k=>by
  simp only[Ur,Bool.not_eq_false'] at h k ⊢
  cases e:ct c a with
  | false=>simp
  | true =>
   have h1:¬ ct b a=true:=by simpa using h
   have d:¬ ct c b=true:=by simpa using k
   rw[fk] at h1 d e
   omega) (λa b=>by
  cases e:ct b a with
  | false=>simp
  | true=>simp[GC e]) l
 exact this.imp λh=>by simpa using h
def MN:Ren where
 f:=fun
  | 6=>190
  | 15=>246
  | 14=>245
  | 28=>282
  | 29=>283
  | 20=>274
  | 21=>275
  | 22=>276
  | 23=>277
  | 24=>278
  | 25=>279
  | 26=>280
  | 27=>281
  | 46=>291
  | 47=>292
  | 48=>293
  | 49=>294
  | 50=>295
  | 57=>307
  | n=>n
 t:=fun
  | 22=>103
  | 24=>120
  | 25=>286
  | 3=>3
  | 39=>276
  | 0=>0
  | 53=>50
  | 55=>49
  | 4=>4
  | 46=>356
  | 45=>355
  | 50=>66
  | 5=>5
  | 9=>9
  | 66=>369
  | 70=>373
  | 76=>381
  | 77=>382
  | n=>n
 g:=λn=>n
theorem O2:Go.Proofs.SlLaysF0.n6 Tryz.prog MN where
 mixed:=by kernel_rfl
 f6:=⟨Tryz.f190.name,by kernel_rfl,by kernel_rfl⟩
 f14:=⟨Tryz.f245.name,by kernel_rfl,by kernel_rfl⟩
 f15:=by kernel_rfl
 f20:=⟨Tryz.f274.name,by kernel_rfl,by kernel_rfl⟩
 f21:=⟨Tryz.f275.name,by kernel_rfl,by kernel_rfl⟩
 f22:=⟨Tryz.f276.name,by kernel_rfl,by kernel_rfl⟩
 f23:=⟨Tryz.f277.name,by kernel_rfl,by kernel_rfl⟩
 f24:=⟨Tryz.f278.name,by kernel_rfl,by kernel_rfl⟩
 f25:=⟨Tryz.f279.name,by kernel_rfl,by kernel_rfl⟩
 f26:=⟨Tryz.f280.name,by kernel_rfl,by kernel_rfl⟩
 f27:=⟨Tryz.f281.name,by kernel_rfl,by kernel_rfl⟩
 f28:=by kernel_rfl
 f29:=by kernel_rfl
 f46:=⟨Tryz.f291.name,by kernel_rfl,by kernel_rfl⟩
 f47:=by kernel_rfl
 f48:=by kernel_rfl
 f49:=⟨Tryz.f294.name,by kernel_rfl,by kernel_rfl⟩
 f50:=⟨Tryz.f295.name,by kernel_rfl,by kernel_rfl⟩
 f57:=⟨Tryz.f307.name,by kernel_rfl,by kernel_rfl⟩
 t0:=Tryz.underlying0
 a0:=Tryz.isAgg0
 z0:=Tryz.sizeOf0
 v0:=Tryz.zeroValue0
 t3:=Tryz.underlying3
 a3:=Tryz.isAgg3
 z3:=Tryz.sizeOf3
 v3:=Tryz.zeroValue3
 t4:=Tryz.underlying4
 a4:=Tryz.isAgg4
 z4:=Tryz.sizeOf4
 v4:=Tryz.zeroValue4
 t5:=Tryz.underlying5
 a5:=Tryz.isAgg5
 z5:=Tryz.sizeOf5
 v5:=Tryz.zeroValue5
 t9:=Tryz.underlying9
 a9:=Tryz.isAgg9
 z9:=Tryz.sizeOf9
 v9:=Tryz.zeroValue9
 t22:=Tryz.underlying103
 a22:=Tryz.isAgg103
 z22:=Tryz.sizeOf103
 v22:=Tryz.zeroValue103
 t25:=Tryz.underlying286
 a25:=Tryz.isAgg286
 z25:=Tryz.sizeOf286
 v25:=Tryz.zeroValue286
 t39:=Tryz.underlying276
 a39:=Tryz.isAgg276
 z39:=Tryz.sizeOf276
 v39:=Tryz.zeroValue276
 t45:=Tryz.underlying355
 a45:=Tryz.isAgg355
 z45:=Tryz.sizeOf355
 v45:=Tryz.zeroValue355
 t46:=Tryz.underlying356
 a46:=Tryz.isAgg356
 z46:=Tryz.sizeOf356
 v46:=Tryz.zeroValue356
 t50:=Tryz.underlying66
 a50:=Tryz.isAgg66
 z50:=Tryz.sizeOf66
 v50:=Tryz.zeroValue66
 t53:=Tryz.underlying50
 a53:=Tryz.isAgg50
 z53:=Tryz.sizeOf50
 v53:=Tryz.zeroValue50
 t55:=Tryz.underlying49
 a55:=Tryz.isAgg49
 z55:=Tryz.sizeOf49
 v55:=Tryz.zeroValue49
 t66:=Tryz.underlying369
 a66:=Tryz.isAgg369
 z66:=Tryz.sizeOf369
 v66:=Tryz.zeroValue369
 t70:=Tryz.underlying373
 a70:=Tryz.isAgg373
 z70:=Tryz.sizeOf373
 v70:=Tryz.zeroValue373
 t76:=Tryz.underlying381
 a76:=Tryz.isAgg381
 z76:=Tryz.sizeOf381
 v76:=Tryz.zeroValue381
 t77:=Tryz.underlying382
 a77:=Tryz.isAgg382
 z77:=Tryz.sizeOf382
 v77:=Tryz.zeroValue382
def NX:Ren where
 f:=fun
  | 5=>248
  | 7=>284
  | n=>n
 t:=fun
  | 22=>3
  | 3=>3
  | 4=>4
  | n=>n
 g:=λn=>n
theorem QO:Go.Proofs.SlLaysC2.n5 Tryz.prog NX where
 mixed:=by kernel_rfl
 f5:=⟨Tryz.f248.name,by kernel_rfl,by kernel_rfl⟩
 f7:=⟨Tryz.f284.name,by kernel_rfl,by kernel_rfl⟩
 t3:=Tryz.underlying3
 a3:=Tryz.isAgg3
 z3:=Tryz.sizeOf3
 v3:=Tryz.zeroValue3
 t4:=Tryz.underlying4
 a4:=Tryz.isAgg4
 z4:=Tryz.sizeOf4
 v4:=Tryz.zeroValue4
 t22:=Tryz.underlying3
 a22:=Tryz.isAgg3
 z22:=Tryz.sizeOf3
 v22:=Tryz.zeroValue3
section
attribute [local go_sem] Oper.semAt_some
theorem GJ (x y:Int) (b cap:Nat) (W:World) (h0:W.cell? ⟨b,0,none⟩=some (.int .i64 x)) (h1:W.cell? ⟨b,1,none⟩=some (.int .i64 y)) (r:Int) (hr:(x≠0->r=x)/\(x=0->r=y)) :
  Calls Tryz.prog 247 #[.slice (some ⟨b,0,none⟩) 2 cap] W λe w'=>e=.returned (.int .i64 r)/\w'=W:=by
 go_enter Tryz.func247,Tryz.ntmps247
 go_wp2
 refine wp_loop_rounds 3 ?_
 rw[rounds_succ]
 go_wp2
 .rename_i h
  go_ret
  exact⟨by rw[hr.1 (by simpa using h)];rfl,rfl⟩
 .rename_i h
  have hx:x=0:=by simpa using h
  rw[rounds_succ]
  go_wp2
  .rename_i h
   go_ret
   exact⟨by rw[hr.2 hx];rfl,rfl⟩
  .rename_i h
   rw[rounds_succ]
   go_wp2
   go_ret
   exact⟨by rw[hr.2 hx,show y=0 by simpa using h];rfl,rfl⟩
structure Re (p:Prop):Prop where
 out:p
theorem Gm (x1 x2 y1 y2:Int) (W:World) (r:Int) (hr:(Lib.compareInt x1 y1≠0->r=Lib.compareInt x1 y1)/\(Lib.compareInt x1 y1=0->r=Lib.compareInt x2 y2)) :
  Calls Tryz.prog 191 #[.agg #[.int .i64 x1,.int .i64 x2],.agg #[.int .i64 y1,.int .i64 y2]] W λe w'=>e=.returned (.int .i64 r)/\∃ q os',w'=grow (W.drewN q) os':=by
 have hcon1:=λW'=>AnyG.cmp_Compare_int QO x1 y1 W'
 change ∀ W',Calls Tryz.prog 248 _ _ _ at hcon1
 have hcon2:=λW'=>AnyG.cmp_Compare_int QO x2 y2 W'
 change ∀ W',Calls Tryz.prog 248 _ _ _ at hcon2
 generalize Lib.compareInt x1 y1=c1 at *
 generalize Lib.compareInt x2 y2=c2 at *
 go_enter Tryz.func191,Tryz.ntmps191
 go_wp2_with (first | (go_at_call 248;refine(hcon1 _).mono ?_;rintro e w' ⟨rfl,rfl⟩)|(go_at_call 248;refine(hcon2 _).mono ?_;rintro e w' ⟨rfl,rfl⟩))
 obtain⟨b1,hb1⟩:∃ b1,b1=W.heap.size:=⟨_,rfl⟩
 obtain⟨b2,hb2⟩:∃ b2,b2=W.heap.size+1:=⟨_,rfl⟩
 rw[<-hb2,<-hb1]
 generalize hW1:(W.alloc (Obj.cells #[Value.int IntKind.i64 x1,Value.int IntKind.i64 x2] 120)).alloc (Obj.cells #[Value.int IntKind.i64 y1,Value.int IntKind.i64 y2] 120)=W1
 have hh1:W1.heap[b1]?=some (.cells #[Value.int IntKind.i64 x1,Value.int IntKind.i64 x2] 120 (0,0)):=by
  rw[<-hW1,hb1];exact(Below.heap_alloc _ _ _ (by simp)).trans (World.alloc_heap_new W _)
 have hh2:W1.heap[b2]?=some (.cells #[Value.int IntKind.i64 y1,Value.int IntKind.i64 y2] 120 (0,0)):=by
  rw[<-hW1,hb2]
  have:=World.alloc_heap_new (W.alloc (Obj.cells #[Value.int IntKind.i64 x1,Value.int IntKind.i64 x2] 120)) (Obj.cells #[Value.int IntKind.i64 y1,Value.int IntKind.i64 y2] 120)
  rwa [World.size_alloc] at this
 have k0:W1.cell? ⟨b1,0,none⟩=some (.int .i64 x1):=by unfold World.cell?;rw[hh1];rfl
 have k1:W1.cell? ⟨b1,1,none⟩=some (.int .i64 x2):=by unfold World.cell?;rw[hh1];rfl
 have k2:W1.cell? ⟨b2,0,none⟩=some (.int .i64 y1):=by unfold World.cell?;rw[hh2];rfl
 have k3:W1.cell? ⟨b2,1,none⟩=some (.int .i64 y2):=by unfold World.cell?;rw[hh2];rfl
 clear hh1 hh2
 refine wp_region_still_tail 10 (by kernel_rfl) (by kernel_rfl) ?_
 change wpStill _ _ W1.drew (λa'=>wpList _ _ _ _ a' W1.drew) _ _
 generalize hW2:W1.drew=W2
 replace k0:W2.cell? ⟨b1,0,none⟩=some (.int .i64 x1):=by rw[<-hW2];exact k0
 replace k1:W2.cell? ⟨b1,1,none⟩=some (.int .i64 x2):=by rw[<-hW2];exact k1
 replace k2:W2.cell? ⟨b2,0,none⟩=some (.int .i64 y1):=by rw[<-hW2];exact k2
 replace k3:W2.cell? ⟨b2,1,none⟩=some (.int .i64 y2):=by rw[<-hW2];exact k3
 have hgr:Re (W2=grow (W.drewN 1) #[Obj.cells #[Value.int IntKind.i64 x1,Value.int IntKind.i64 x2] 120,Obj.cells #[Value.int IntKind.i64 y1,Value.int IntKind.i64 y2] 120]):=by
  refine⟨?_⟩
  rw[<-hW2,<-hW1,alloc_eq_grow,alloc_eq_grow,grow_grow];rfl
 clear hW1 hW2 hb1 hb2
 simp only[List.take_succ_cons,List.take_zero,List.drop_succ_cons,TZ]
 iterate 4 still_step
 still_call (hcon1 _)
 iterate 4 still_step
 still_call (hcon2 _)
 refine wpStill_nil ?_
 go_wp2_with (go_at_call 247;refine(GJ c1 c2 _ _ _ ?_ ?_ r hr).mono ?_)
 .unfold World.cell?;rw[World.alloc_heap_new];rfl
 .unfold World.cell?;rw[World.alloc_heap_new];rfl
 .rintro e w' ⟨rfl,rfl⟩
  go_wp2
  go_ret
  refine⟨rfl,1,#[Obj.cells #[Value.int IntKind.i64 x1,Value.int IntKind.i64 x2] 120,Obj.cells #[Value.int IntKind.i64 y1,Value.int IntKind.i64 y2] 120,Obj.cells #[Value.int IntKind.i64 c1,Value.int IntKind.i64 c2] 3],?_⟩
  rw[hgr.out,alloc_eq_grow,grow_grow];rfl
end
theorem Ft {Z:Nat->Prop} {μ:Mu} {hp:Array Obj} {id off len esz:Nat} {x:Value} (h:ax Z μ hp (.sl id off len esz) x) :
  (len=0/\∃ a,x=.slice a 0 0)∨∃ b o0 cap,∃ c:Array Value,∃ e f,x=.slice (some ⟨b,o0+off * esz,none⟩) len cap/\μ id=some (b,o0,esz)/\len<=cap/\hp[b]?=some (.cells c e f)/\o0+(off+cap) * esz<=c.size:=by
 cases h with
 | nT _ _ _ a=>exact .inl ⟨rfl,a,rfl⟩
 | sl _ _ _ _ b o0 cap c e f h1 d g i=>exact .inr ⟨b,o0,cap,c,e,f,rfl,h1,d,g,i⟩
theorem Qa {Z:Nat->Prop} {μ:Mu} {hp:Array Obj} {f:FuncId} {x:Value} (h:ax Z μ hp (.fn f [] []) x):x=.func (.func f) #[] #[]:=by
 cases h with
 | fn _ _ _ a c h1 b _ _ =>
  rw[Array.eq_empty_of_size_eq_zero h1.symm,Array.eq_empty_of_size_eq_zero b.symm]
theorem Bw (w:World) (b o0 m:Nat) (d:Array aD) (os:Array Obj) {j:Nat} (a:j < w.heap.size):(sortWorldK ik 2 w b o0 m d os).heap[j]?=if b=j then (w.heap[j]?).map (onCells (putCells id o0 (flatK ik 2 d))) else w.heap[j]?:=by
 unfold sortWorldK grow putRowK putRow mapBlock
 simp only[Sort.ahead]
 rw[TK (by simpa using a),Array.getElem?_modify]
theorem N6 (l:List aD) (hl:l.length < 1152921504606846976) (u:V) (H:View) (ho:aJ H u 2 (aM l)):au Tryz.prog 190 [u,.fn 191 [] []] H λr H'=>r=.aS []/\(∀ id,owner u≠some id->H' id=H id)/\aJ H' u 2 (aM (ej l)):=by
 refine⟨by kernel_rfl,?_⟩
 rintro h rfl
 have eg:∀ args w,(callFunc 191 args).run Tryz.prog w=.ok (.enter 191 args) w:=enters_of Tryz.func191 (by kernel_rfl) rfl
 by_cases I:l=[]
 .subst I
  refine⟨.aS [],h,⟨Sy _,λZ μ F w xs s hr M=>?_⟩,.refl _,rfl,λ_ _=>rfl,by simpa [ej] using ho⟩
  obtain⟨hlen,N⟩:=s
  obtain⟨x,y,rfl⟩:∃ x y,xs=[x,y]:=by
   match xs,hlen with
   | [x,y],_=>exact⟨x,y,rfl⟩
  have h0:ax Z μ w.heap u x:=N 0 (by simp)
  obtain⟨p,cap,rfl⟩:∃ p cap,x=.slice p 0 cap:=by
   rcases ho with ⟨_,k,rfl⟩ | ⟨n,rfl,_⟩
   .cases h0 with | emp _ a _ _=>exact⟨a,0,rfl⟩
   .rcases Ft h0 with ⟨_,a,e⟩ | ⟨b,o0,cap,c,e,f,e2,_⟩
    .exact⟨a,0,e⟩
    .exact⟨_,cap,e2⟩
  refine(AnyF.slices_SortFunc_none O2 p cap y w).mono ?_
  rintro e w' ⟨rfl,rfl⟩
  exact⟨.tuple #[],Z,μ,rfl,.aS [] #[] rfl (λi hi=>by simp at hi),hr,Ext.refl _ _ _ _,λ_ _=>rfl⟩
 have S:0 < l.length:=Uu.2 I
 obtain⟨n,rfl,hn⟩:=ho.sl (by rw[bw];exact S)
 rw[bw]
 have t:n < h.length:=gX (by rw[hn];simp)
 refine⟨.aS [],h.set n (.arr 2 (aM (ej l))),⟨by simp,λZ μ F w xs s hr M=>?_⟩,λk hk hd=>?_,rfl,λid ar=>?_,?_⟩
 rotate_left
 .rw[jr t]
  simp only[View.set]
  rw[Sr (λe=>by rw[e,hn] at hd;simp at hd)];exact hd
 .rw[jr t]
  simp only[View.set]
  rw[Sr (λe=>ar (by rw[e];rfl))]
 .refine .inr ⟨n,by rw[bw,im],?_⟩
  rw[jr t];simp[View.set]
 obtain⟨hlen,N⟩:=s
 obtain⟨x,y,rfl⟩:∃ x y,xs=[x,y]:=by
  match xs,hlen with
  | [x,y],_=>exact⟨x,y,rfl⟩
 have h0:ax Z μ w.heap (.sl n 0 l.length 2) x:=N 0 (by simp)
 have h1:ax Z μ w.heap (.fn 191 [] []) y:=N 1 (by simp)
 have hy:=Qa h1
 subst hy
 rcases Ft h0 with ⟨e,_⟩ | ⟨b,o0,cap,c0,e0,f0,rfl,E,a7,_,_⟩
 .omega
 rw[Nat.zero_mul,Ui]
 have J:cat h F n=.arr 2 (aM l):=by simp only[cat];rw[St t,hn]
 have T:=hr.obj n
 rw[J] at T
 obtain⟨_,⟨c,ty,fz,hc,U,W⟩,hq,z⟩:=T b o0 2 E
 rw[bw] at W hq z
 have O:b < w.heap.size:=hr.lt _ _ _ _ E
 have P:∀ (m:List aD) (i:Nat) (hi:i < m.length),(aM m).getD i []=bq m[i]:=λm i hi=>by simp[aM,Sm,hi]
 have hH:HoldsK ik 2 w b o0 l.toArray:=by
  intro j D
  rw[size_flatK] at D
  have a8:j < l.length * 2:=by simpa using D
  have hi:j / 2 < l.length:=by omega
  obtain⟨x,hx,d⟩:=z (j / 2) (j % 2) hi (by omega)
  rw[show o0+j / 2 * 2+j % 2=o0+j by omega] at hx
  have a1:x=(flatK ik 2 l.toArray)[j]!:=by
   rw[get_flatK _ _ _ _ D]
   rw[P l _ hi] at d
   have e1:l.toArray[j / 2]! = l[j / 2]:=by simp[hi]
   rw[e1]
   rcases SY (j % 2) 1 with X | X
   .rw[show j % 2=0 by omega] at d ⊢
    simp only[bq,TF] at d
    cases d;rfl
   .rw[show j % 2=1 by omega] at d ⊢
    simp only[bq,Ug,TF] at d
    cases d;rfl
  refine⟨by rw[mn,hx,a1];rfl,?_⟩
  simp only[World.frozen?,hc]
  rcases U with e | e
  .simp only[e,Bool.and_eq_false_iff,TJ];omega
  .simp only[Bool.and_eq_false_iff,TJ];omega
 have hT:∀ x y,(ltOf np) x y=false->(ltOf np) y x=false->x=y:=λx y h1 X=>by
  rw[re] at h1 X
  exact Decidable.byContradiction λA=>by rw[uB h1 A] at X;simp at X
 have K:=AnyQ.slices_SortFunc_total O2 2 Tryz.isAgg120 Tryz.sizeOf120 ik (λ_=>rfl) (λx v N=>by simp[ik] at N;rcases N with rfl | rfl <;> rfl) np Kd 191 #[] b o0 cap l.toArray w eg (λ_ _ _ _ x y=>Gm x.aw x.dot y.aw y.dot _ _ (Np x y)) hH O (by simp;omega) hT
 rw[K6] at K
 refine Calls.mono (show Calls Tryz.prog 190 _ w _ from K) ?_
 rintro e w' ⟨rfl,m,os,rfl⟩
 have Y:=im l
 have g:=λ{j:Nat} (D:j < w.heap.size)=>Bw w b o0 m (ej l).toArray os D
 have G:HoldsK ik 2 (sortWorldK ik 2 w b o0 m (ej l).toArray os) b o0 (ej l).toArray:=SWK.holds ⟨m,os,rfl⟩ O hH (by simp[Y])
 have B:w.heap.size<=(sortWorldK ik 2 w b o0 m (ej l).toArray os).heap.size:=SWK.le (dk:=(ej l).toArray) ⟨m,os,rfl⟩
 have Q:ew w (sortWorldK ik 2 w b o0 m (ej l).toArray os):=⟨rfl,rfl,rfl,B⟩
 generalize sortWorldK ik 2 w b o0 m (ej l).toArray os=w' at *
 have an:w'.heap[b]?=some (.cells (putCells id o0 (flatK ik 2 (ej l).toArray) c) ty fz):=by
  rw[g O,St rfl,hc];rfl
 have L:lB Z μ μ w.heap w'.heap h.length (.eS n (.arr 2 (aM (ej l)))):=by
  refine⟨b,o0,2,E,rfl,λj D A=>by rw[g D,Sr (λe=>A e.symm)],λj cc ee ff C=>?_,?_⟩
  .have a6:j < w.heap.size:=by
    rcases SY j w.heap.size with q | q
    .exact q
    .simp[TO q] at C
   by_cases e:b=j
   .subst e
    rw[hc] at C
    simp only[Sq,Obj.cells.injEq] at C
    obtain⟨rfl,rfl,rfl⟩:=C
    exact⟨_,_,an,by simp[putCells]⟩
   .exact⟨cc,ff,by rw[g a6,Sr e];exact C,rfl⟩
  .intro b1 o1 s1 h1
   rw[E] at h1
   simp only[Sq,Su] at h1
   obtain⟨rfl,rfl,rfl⟩:=h1
   refine⟨rfl,⟨_,ty,fz,an,?_,?_⟩,λi hi=>?_,λi j hi D=>?_⟩
   .simpa [putCells] using U
   .rw[bw,Y];simpa [putCells] using W
   .rw[bw] at hi;rw[P _ i hi];rfl
   .rw[bw] at hi
    have:=(G.cell (i:=i) (c:=j) (by simpa using hi) D).1
    rw[mn] at this
    refine⟨_,this,?_⟩
    rw[P _ i hi]
    have e1:(ej l).toArray[i]! = (ej l)[i]:=by simp[hi]
    rw[e1]
    match j,D with
    | 0,_=>exact .val _ rfl
    | 1,_=>exact .val _ rfl
 have A:cat h F n≠.dead:=by rw[J];simp
 have R:=hr.eff (n:=h.length) (eff:=.eS n (.arr 2 (aM (ej l)))) (by trivial) B L (λid o e=>by cases e;exact A) (λid o e=>by cases e)
 obtain⟨aq,bd⟩:=L.ext Q (by trivial) hr.cH hr.gw
 refine⟨.tuple #[],Z,μ,rfl,.aS [] #[] rfl (λi hi=>by simp at hi),?_,aq,λ_ _=>rfl⟩
 have ev:cat (h.set n (.arr 2 (aM (ej l)))) F=bh.view (cat h F) h.length (.eS n (.arr 2 (aM (ej l)))):=by
  funext k
  simp only[cat,bh.view,View.set,List.length_set]
  by_cases hk:k < h.length
  .rw[St hk,St hk,jr t];rfl
  .rw[Sr hk,Sr hk,Sr (by omega)]
 rw[ev]
 exact R
abbrev gB:aD:=⟨0,0⟩
def fh (l:List aD):Nat->List aD
 | 0=>[]
 | n+1=>if n=0∨l.getD n gB≠l.getD (n - 1) gB then fh l n ++ [l.getD n gB] else fh l n
theorem wP (l:List aD):∀ n,n<=l.length->(∀ j,0 < j->j < n->l.getD j gB≠l.getD (j - 1) gB)->fh l n=l.take n
 | 0,_,_=>by simp[fh]
 | n+1,c,h=>by
  have a:=wP l n (by omega) λj h1 d=>h j h1 (by omega)
  have b:l[n]?=some (l.getD n gB):=getD_some (by omega)
  rw[fh,St,a,S6,b]
  .rfl
  .by_cases e:n=0
   .exact .inl e
   .exact .inr (h n (by omega) (by omega))
def xV (l:List aD):List aD:=fh (ej l) l.length
theorem vi {l:List aD} (hp:l.Pairwise λx y=>ct y x=false):∀ n,n<=l.length->bX (fh l n)/\(∀ x,x∈fh l n↔∃ i,i < n/\l.getD i gB=x)
 | 0,_=>by simp[fh,bX]
 | n+1,r=>by
  obtain⟨h1,f⟩:=vi hp n (by omega)
  have d:∀ i j,i < j->j < l.length->ct (l.getD j gB) (l.getD i gB)=false:=λi j g k=>by
   have:=List.pairwise_iff_getElem.1 hp i j (by omega) k g
   simpa [Sm,Sn k,Sn (show i < l.length by omega)] using this
  rw[fh]
  split
  .rename_i c
   refine⟨?_,λx=>?_⟩
   .rw[bX,List.pairwise_append]
    refine⟨h1,by simp,λa p b m=>?_⟩
    rw[Tz] at m;subst m
    obtain⟨i,hi,rfl⟩:=(f a).1 p
    have c:l.getD n gB≠l.getD (n - 1) gB:=c.resolve_left (by omega)
    have o:=uB (d (n - 1) n (by omega) (by omega)) c
    rcases SY i (n - 1) with h | h
    .have k2:=d i (n - 1) h (by omega)
     have q:¬ ct (l.getD (n - 1) gB) (l.getD i gB)=true:=by rw[k2];simp
     rw[fk] at o q ⊢
     omega
    .have:i=n - 1:=by omega
     subst this;exact o
   .rw[SS,f,Tz]
    constructor
    .rintro (⟨i,hi,e⟩ | e)
     .exact⟨i,by omega,e⟩
     .exact⟨n,by omega,e.symm⟩
    .rintro⟨i,hi,e⟩
     rcases SY i n with h | h
     .exact .inl ⟨i,h,e⟩
     .have:i=n:=by omega
      subst this;exact .inr e.symm
  .rename_i c
   simp only[not_or,Decidable.not_not] at c
   refine⟨h1,λx=>?_⟩
   rw[f]
   constructor
   .rintro⟨i,hi,e⟩;exact⟨i,by omega,e⟩
   .rintro⟨i,hi,e⟩
    rcases SY i n with h | h
    .exact⟨i,h,e⟩
    .have:i=n:=by omega
     subst this
     exact⟨i - 1,by omega,by rw[<-c.2];exact e⟩
theorem Ar (l:List aD):bX (xV l):=(vi (yQ l) _ (by rw[im];exact Sy _)).1
theorem pA {l:List aD} {x:aD} : x∈xV l↔x∈l:=by
 rw[xV,(vi (yQ l) _ (by rw[im];exact Sy _)).2,<-(yN l).mem_iff,TX]
 constructor
 .rintro⟨i,hi,e⟩
  have a:i < (ej l).length:=by rw[im];exact hi
  exact⟨i,a,by rw[Sm,Sn a] at e;exact e⟩
 .rintro⟨i,hi,e⟩
  exact⟨i,by rw[im] at hi;exact hi,by rw[Sm,Sn hi];exact e⟩
theorem Jt {l:List aD} (h:bX l):xV l=l:=wa (Ar l) h λ_=>pA
def lI (g:af) (s:Int):Int:=if s < 0 then (g.ao.length:Int) - 1 - s else s
theorem vf (g:af) (k:Nat):lI g (aN g k)=k:=by
 unfold lI aN;split <;> split <;> omega
theorem EF {g:af} {s:Int} (h1:s < g.ao.length):0<=lI g s/\aN g (lI g s).toNat=s:=by
 unfold lI aN;split
 .rw[Sr (by omega)];omega
 .rw[St (by omega)];omega
theorem HD {g:af} {s:Int} (h:eo g s=true):s < g.ao.length/\lI g s < g.ao.length+g.aj.length:=by
 unfold eo at h
 unfold lI
 by_cases a:0<=s
 .rw[St a] at h
  rw[Sr (by omega)]
  simp at h
  omega
 .rw[Sr a] at h
  rw[St (by omega)]
  simp at h
  omega
def fF (l:List aD):List UInt8:=l.flatMap λx=>[UInt8.ofNat (x.aw+1).toNat,UInt8.ofNat x.dot.toNat]
theorem MH {a b:Nat} (c:a < 256) (d:b < 256) (h:UInt8.ofNat a=UInt8.ofNat b):a=b:=by
 have:=congrArg UInt8.toNat h
 simp at this
 omega
theorem EH {g:af} (c:g.cZ):∀ {a b:List aD},(∀ x∈a,b6 g x)->(∀ x∈b,b6 g x)->fF a=fF b->a=b
 | [],[],_,_,_=>rfl
 | [],y :: b,_,_,h=>by simp[fF] at h
 | x :: a,[],_,_,h=>by simp[fF] at h
 | x :: a,y :: b,i,j,h=>by
  simp only[fF,List.flatMap_cons,Th,Ty,List.cons.injEq] at h
  obtain⟨h1,k,l⟩:=h
  have d:=i x (by simp)
  have e:=j y (by simp)
  have hr:=c.rules
  have q:=dy c d.1
  have r:=dy c e.1
  have:=d.1;have:=d.2;have:=e.1;have:=e.2
  have s:=MH (by omega) (by omega) h1
  have k2:=MH (by omega) (by omega) k
  have t:=EH c (λz f=>i z (by simp[f])) (λz f=>j z (by simp[f])) l
  obtain⟨m,n⟩:=x
  obtain⟨o,p⟩:=y
  simp only at *
  have:m=o:=by omega
  have:n=p:=by omega
  subst_vars;rfl
end Gv
