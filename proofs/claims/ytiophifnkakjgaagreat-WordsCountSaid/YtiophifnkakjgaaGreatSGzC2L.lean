/-
  Part 12 of the proof: what the machine does and what the functions answer.
  Conditions: those that each lemma names.
-/
import Derived.Test.YtiophifnkakjgaaGreatSGzC2K
set_option linter.unusedSimpArgs false
set_option linter.unusedVariables false
set_option maxRecDepth 100000
set_option maxHeartbeats 20000000
namespace Gv
open Go Go.Proofs
theorem HN {g:ai} (h:isRed g=true):∀ i:Nat,i < g.af.length->lL g (al g true) i:=by
 have hr:=gO h
 unfold isRed at h
 simp only[OO,PB,OT] at h
 obtain⟨h1,b⟩:=h
 have hp:(al g true).getD g.start.toNat false=true:=by
  refine Decidable.byContradiction λc=>?_
  rw[eD hr,OK c] at h1
  simp at h1
 have a:=CA hr hp
 have e:(cX g).1=mz g (aL (bN (al g true) (aY g) g.rules)) (al g true) (aY g):=by rw[eD hr,OM hp]
 rw[<-e,<-b] at a
 intro i hi
 rw[a.len] at hi
 exact uF hr i (a.Ag hi)
section
variable {g:ai} {a:List K9}
end
def je (null:List Bool) (l:List Int) (k:Nat):Bool:=(List.range l.length).all λi=>decide (i=k) || (decide (l.getD i 0 < 0) && null.getD (-1 - l.getD i 0).toNat false)
def gF (null is:List Bool) (R:aF) (out:List BV) (k:Nat):List BV :=
 if R.right.getD k 0 < 0/\je null R.right k=true/\bw R.right is true=true then out.set R.left.toNat (out.getD R.left.toNat 0 ||| gj (-1 - R.right.getD k 0)) else out
def nQ (null is:List Bool) (out:List BV) (R:aF):List BV:=(List.range R.right.length).foldl (gF null is R) out
def b9 (g:ai):List BV:=if aA g=true then g.rules.foldl (nQ (al g false) (al g true)) (List.replicate g.af.length 0) else []
def gf (i:Nat) (x:List BV) (k:Nat):List BV:=if hasB (x.getD i 0) k=true then x.set i (x.getD i 0 ||| x.getD k 0) else x
def mA (n:Nat) (x:List BV) (i:Nat):List BV:=(List.range n).foldl (gf i) x
def ma (n:Nat) (x:List BV):List BV:=(List.range n).foldl (mA n) x
def yI (g:ai):List BV:=iter (ma (b9 g).length) g.af.length (b9 g)
def oo (x:List BV) (n:Nat):BV:=(List.range n).foldl (λs (i:Nat)=>if hasB (x.getD i 0) i=true then s ||| gj i else s) 0
def gM (g:ai):BV:=oo (yI g) (b9 g).length
def rY (p q:List Bool) (n:Nat):BV:=(List.range n).foldl (λs (i:Nat)=>if p.getD i false=true/\q.getD i false=true then s ||| gj i else s) 0
theorem FT (p q:List Bool) (n:Nat):rY p q (n+1)=if p.getD n false=true/\q.getD n false=true then rY p q n ||| gj n else rY p q n:=by
 unfold rY
 rw[Qj,PN];rfl
def fB (g:ai):BV:=rY (al g true) (aY g) (al g true).length
def rX (use:BV) (steps:List BV) (there:BV) (i:Nat):Bool:=hasB use i && !hasB there i && decide (steps.getD i 0 &&& ~~~there=0)
def mj (n:Nat) (use:BV) (steps:List BV) (x:List Int × BV):List Int × BV:=match (List.range n).find? (rX use steps x.2) with
 | some i=>(x.1 ++ [(i:Int)],x.2 ||| gj i)
 | none=>x
def pq (m:Nat) (use:BV) (st:List BV) (r:Nat):List Int × BV:=iter (mj m use st) r ([],0)
theorem uc (m:Nat) (use:BV) (st:List BV) (r:Nat):pq m use st (r+1)=mj m use st (pq m use st r):=j8 _ _ _
def dZ (g:ai):List Int:=(pq g.af.length (fB g) (b9 g) g.af.length).1
theorem vi {s:BV} {i:Nat} (h:i < 32):hasB s i=s.getLsbD i:=by
 unfold hasB
 rw[PI,OT]
 have c:gj (i:Int)=BitVec.twoPow 32 i:=by unfold gj;rw[OM (by omega),PJ]
 rw[c]
 constructor
 .intro d
  cases a:s.getLsbD i with
  | true=>rfl
  | false =>
   refine absurd ?_ d
   refine IA λj f=>?_
   rw[BitVec.getLsbD_and,BitVec.getLsbD_twoPow]
   by_cases e:i=j
   .subst e;simp[a]
   .simp[e]
 .intro a he
  have b:(s &&& BitVec.twoPow 32 i).getLsbD i=true:=by
   rw[BitVec.getLsbD_and,BitVec.getLsbD_twoPow,a];simp[h]
  rw[he] at b
  simp at b
theorem rL {i j:Nat} (h:i < 32):(gj (i:Int)).getLsbD j=decide (j=i):=by
 unfold gj
 rw[OM (by omega),PJ,BitVec.getLsbD_twoPow]
 by_cases e:i=j
 .subst e;simp[h]
 .simp[e,Ne.symm e]
section
variable {g:ai}
theorem Et {null is:List Bool} {R:aF} {out:List BV} {k:Nat} (A:Nat):mc (out.getD A 0) ((gF null is R out k).getD A 0):=by
 unfold gF
 split
 .intro i hi
  rw[OH]
  by_cases e:R.left.toNat=A
  .subst e
   by_cases a:R.left.toNat < out.length
   .rw[Pl a,OS,P0,hi];rfl
   .rw[OH,O5 (by omega)] at hi;simp at hi
  .rw[PE e,<-OH];exact hi
 .exact λ_ h=>h
theorem gx {α:Type} {f:List BV->α->List BV} (b:∀ x a (A:Nat),mc (x.getD A 0) ((f x a).getD A 0)):∀ (l:List α) (x:List BV) (A:Nat),mc (x.getD A 0) ((l.foldl f x).getD A 0)
 | [],_,_=>λ_ h=>h
 | a :: l,x,A=>λi hi=>gx b l (f x a) A i (b x a A i hi)
theorem Mi {null is:List Bool} {R:aF} (out:List BV) (A:Nat):mc (out.getD A 0) ((nQ null is out R).getD A 0):=gx (λ_ _ A=>Et A) _ _ _
theorem w5 {null is:List Bool} {R:aF} {out:List BV} {k:Nat} : (gF null is R out k).length=out.length:=by
 unfold gF;split <;> simp
theorem fM {α:Type} {f:List BV->α->List BV} (b:∀ x a,(f x a).length=x.length):∀ (l:List α) (x:List BV),(l.foldl f x).length=x.length
 | [],_=>rfl
 | a :: l,x=>by rw[O3,fM b l,b]
theorem wz {null is:List Bool} {R:aF} (out:List BV):(nQ null is out R).length=out.length:=fM (λ_ _=>w5) _ _
theorem pZ (hr:aA g=true):(b9 g).length=g.af.length:=by
 unfold b9
 rw[OM hr,fM (λx R=>wz x)];simp
theorem Jt (hr:aA g=true) {R:aF} (c:R∈g.rules) {k:Nat} (hk:k < R.right.length) (m:R.right.getD k 0 < 0) (n:je (al g false) R.right k=true) (hm:bw R.right (al g true) true=true):((b9 g).getD R.left.toNat 0).getLsbD (-1 - R.right.getD k 0).toNat=true:=by
 have d:=az hr
 have q:=d.left R c
 have r:=d.af
 have s:(-1 - R.right.getD k 0).toNat < g.af.length:=by
  have e:=d.sym R c (R.right.getD k 0) (O2 (getD_some hk))
  unfold eO at e
  rw[OK (by omega)] at e
  simp only[OT] at e
  omega
 have h1:∀ out:List BV,out.length=g.af.length->((gF (al g false) (al g true) R out k).getD R.left.toNat 0).getLsbD (-1 - R.right.getD k 0).toNat=true:=λout b=>by
  unfold gF
  rw[OM ⟨m,n,hm⟩,OH,Pl (by omega),OS,P0]
  have:=rL (i:=(-1 - R.right.getD k 0).toNat) (j:=(-1 - R.right.getD k 0).toNat) (by omega)
  rw[show (((-1 - R.right.getD k 0).toNat:Nat):Int) = -1 - R.right.getD k 0 by omega] at this
  rw[this];simp
 have o:∀ (l:List Nat) (out:List BV),out.length=g.af.length->k∈l->((l.foldl (gF (al g false) (al g true) R) out).getD R.left.toNat 0).getLsbD (-1 - R.right.getD k 0).toNat=true:=by
  intro l
  induction l with
  | nil=>intro _ _ h;simp at h
  | cons a l f =>
   intro out b hm
   rw[O3]
   rcases O1.1 hm with rfl | hm
   .exact gx (λ_ _ A=>Et A) _ _ _ _ (h1 out b)
   .exact f _ (by rw[w5];exact b) hm
 have p:∀ (l:List aF) (out:List BV),out.length=g.af.length->R∈l->((l.foldl (nQ (al g false) (al g true)) out).getD R.left.toNat 0).getLsbD (-1 - R.right.getD k 0).toNat=true:=by
  intro l
  induction l with
  | nil=>intro _ _ h;simp at h
  | cons a l f =>
   intro out b hm
   rw[O3]
   rcases O1.1 hm with rfl | hm
   .exact gx (λx R A=>Mi x A) _ _ _ _ (o _ out b (Pm.2 hk))
   .exact f _ (by rw[wz];exact b) hm
 unfold b9
 rw[OM hr]
 exact p _ _ (by simp) c
theorem JR (hr:aA g=true) {A i:Nat} (h:((b9 g).getD A 0).getLsbD i=true):i < g.af.length:=by
 have n:=az hr
 have q:=n.af
 have h1:∀ R∈g.rules,∀ (out:List BV) (k:Nat),k < R.right.length->(∀ A i:Nat,(out.getD A 0).getLsbD i=true->i < g.af.length)->∀ A i:Nat,((gF (al g false) (al g true) R out k).getD A 0).getLsbD i=true->i < g.af.length:=by
  intro R d out k hk b A i hi
  unfold gF at hi
  split at hi
  .rename_i r
   rw[OH] at hi
   by_cases e:R.left.toNat=A
   .subst e
    by_cases c:R.left.toNat < out.length
    .rw[Pl c,OS,P0,Qi] at hi
     rcases hi with hi | hi
     .exact b _ _ hi
     .have f:=n.sym R d (R.right.getD k 0) (O2 (getD_some hk))
      unfold eO at f
      rw[OK (by omega)] at f
      simp only[OT] at f
      have:=rL (i:=(-1 - R.right.getD k 0).toNat) (j:=i) (by omega)
      rw[show (((-1 - R.right.getD k 0).toNat:Nat):Int) = -1 - R.right.getD k 0 by omega,hi] at this
      have:=P7 this.symm
      omega
    .rw[O5 (by simp;omega)] at hi;simp at hi
   .rw[PE e,<-OH] at hi;exact b _ _ hi
  .exact b _ _ hi
 have o:∀ R∈g.rules,∀ (l:List Nat) (out:List BV),(∀ k∈l,k < R.right.length)->(∀ A i:Nat,(out.getD A 0).getLsbD i=true->i < g.af.length)->∀ A i:Nat,((l.foldl (gF (al g false) (al g true) R) out).getD A 0).getLsbD i=true->i < g.af.length:=by
  intro R d l
  induction l with
  | nil=>intro out _ b;exact b
  | cons a l m =>
   intro out c b
   rw[O3]
   exact m _ (λk hk=>c k (by simp[hk])) (h1 R d out a (c a (by simp)) b)
 have p:∀ (l:List aF) (out:List BV),(∀ R∈l,R∈g.rules)->(∀ A i:Nat,(out.getD A 0).getLsbD i=true->i < g.af.length)->∀ A i:Nat,((l.foldl (nQ (al g false) (al g true)) out).getD A 0).getLsbD i=true->i < g.af.length:=by
  intro l
  induction l with
  | nil=>intro out _ b;exact b
  | cons a l m =>
   intro out c b
   rw[O3]
   exact m _ (λk hk=>c k (by simp[hk])) (o a (c a (by simp)) _ out (λk hk=>Pm.1 hk) b)
 unfold b9 at h
 rw[OM hr] at h
 refine p _ _ (λ_ h=>h) (λA i hi=>?_) A i h
 rw[OH,Pw] at hi
 split at hi <;> simp at hi
theorem yT {i k:Nat} (x:List BV) (A:Nat):mc (x.getD A 0) ((gf i x k).getD A 0):=by
 unfold gf
 split
 .intro j a
  rw[OH]
  by_cases e:i=A
  .subst e
   by_cases b:i < x.length
   .rw[Pl b,OS,P0,a];rfl
   .rw[OH,O5 (by omega)] at a;simp at a
  .rw[PE e,<-OH];exact a
 .exact λ_ h=>h
theorem w9 {i k:Nat} (x:List BV):(gf i x k).length=x.length:=by unfold gf;split <;> simp
theorem zf {n i:Nat} (x:List BV) (A:Nat):mc (x.getD A 0) ((mA n x i).getD A 0):=gx (λx _ A=>yT x A) _ _ _
theorem wk {n i:Nat} (x:List BV):(mA n x i).length=x.length:=fM (λx _=>w9 x) _ _
theorem L5 {n:Nat} (x:List BV) (A:Nat):mc (x.getD A 0) ((ma n x).getD A 0):=gx (λx _ A=>zf x A) _ _ _
theorem J1 {n:Nat} (x:List BV):(ma n x).length=x.length:=fM (λx _=>wk x) _ _
theorem xc {n:Nat} : ∀ (r:Nat) (x:List BV),(iter (ma n) r x).length=x.length
 | 0,_=>rfl
 | r+1,x=>by rw[j8,J1,xc r x]
theorem I3 {n:Nat} (m:n<=32) {x:List BV} (f:x.length=n) {i k:Nat} (hi:i < n) (hk:k < n) (h:(x.getD i 0).getLsbD k=true):mc (x.getD k 0) (((ma n x).getD i 0)):=by
 have h1:∀ (l:List Nat) (y:List BV),y.length=n->k∈l->(∀ A,mc (x.getD A 0) (y.getD A 0))->mc (x.getD k 0) ((l.foldl (gf i) y).getD i 0):=by
  intro l
  induction l with
  | nil=>intro _ _ h;simp at h
  | cons a l e =>
   intro y d hm c
   rw[O3]
   rcases O1.1 hm with rfl | hm
   .intro j b
    refine gx (λx _ A=>yT x A) _ _ _ j ?_
    unfold gf
    rw[OM (by rw[vi (by omega)];exact c i _ h),OH,Pl (by omega),OS,P0,c k j b]
    simp
   .exact e _ (by rw[w9];exact d) hm λA j b=>yT y A j (c A j b)
 have g:∀ (l:List Nat) (y:List BV),y.length=n->i∈l->(∀ A,mc (x.getD A 0) (y.getD A 0))->mc (x.getD k 0) ((l.foldl (mA n) y).getD i 0):=by
  intro l
  induction l with
  | nil=>intro _ _ h;simp at h
  | cons a l e =>
   intro y d hm c
   rw[O3]
   rcases O1.1 hm with rfl | hm
   .intro j b
    exact gx (λx _ A=>zf x A) _ _ _ j (h1 _ y d (Pm.2 hk) c j b)
   .exact e _ (by rw[wk];exact d) hm λA j b=>zf y A j (c A j b)
 exact g _ x f (Pm.2 hi) λ_ _ h=>h
theorem ou {n:Nat} (c:n<=32) {x:List BV} (g:x.length=n) {f:Nat->Nat} (b:∀ m,f m < n) (h:∀ m,(x.getD (f m) 0).getLsbD (f (m+1))=true):∀ (r a d:Nat),1<=d->d<=r+1->((iter (ma n) r x).getD (f a) 0).getLsbD (f (a+d))=true
 | 0,a,d,h1,i=>by
  obtain rfl:d=1:=by omega
  exact h a
 | r+1,a,d,h1,i=>by
  rw[j8]
  have j:(iter (ma n) r x).length=n:=by rw[xc,g]
  by_cases e:d=1
  .subst e
   exact L5 _ _ _ (ou c g b h r a 1 (by omega) (by omega))
  .have s1:=ou c g b h r a 1 (by omega) (by omega)
   have s2:=ou c g b h r (a+1) (d - 1) (by omega) (by omega)
   rw[show a+1+(d - 1)=a+d by omega] at s2
   exact I3 c j (b a) (b (a+1)) s1 _ s2
theorem KG {n:Nat} {f:Nat->Nat} (c:∀ m,f m < n):∃ a b,a < b/\b<=n/\f a=f b:=by
 classical
 refine Pd λd=>?_
 have g:((List.range (n+1)).map f).Nodup:=by
  rw[List.Nodup,QB]
  refine List.Pairwise.imp_of_mem ?_ List.pairwise_lt_range
  intro a b k i h e
  exact d ⟨a,b,h,by have:=Pm.1 i;omega,e⟩
 have:=mL n _ g λx j=>by
  obtain⟨m,_,rfl⟩:=O9.1 j
  exact c m
 rw[OX,List.length_range] at this
 omega
theorem KV {x:List BV} {n:Nat} (f:n<=32) {i:Nat} (hi:i < n) (h:(x.getD i 0).getLsbD i=true):oo x n≠0:=by
 have key:∀ (l:List Nat) (s:BV),(∀ j∈l,j < 32)->(s.getLsbD i=true∨i∈l)->(l.foldl (λs (i:Nat)=>if hasB (x.getD i 0) i=true then s ||| gj i else s) s).getLsbD i=true:=by
  intro l
  induction l with
  | nil=>intro s _ h;simpa using h
  | cons a l c =>
   intro s d h1
   rw[O3]
   refine c _ (λj b=>d j (by simp[b])) ?_
   rcases h1 with h1 | h1
   .left
    split
    .rw[P0,h1];rfl
    .exact h1
   .rcases O1.1 h1 with rfl | h1
    .left
     rw[OM (by rw[vi (by omega)];exact h),P0,rL (by omega)];simp
    .exact .inr h1
 intro e
 have:=key (List.range n) 0 (λj b=>by have:=Pm.1 b;omega) (.inr (Pm.2 hi))
 unfold oo at e
 rw[e] at this
 simp at this
theorem Ht (hr:aA g=true) (s:gM g=0) (S:Nat->Prop) (l:∀ i,S i->i < g.af.length) (o:∃ i,S i):∃ i,S i/\∀ j,S j->((b9 g).getD i 0).getLsbD j=false:=by
 classical
 refine Pd λp=>?_
 have B:=(az hr).af
 have q:=pZ hr
 have d:∀ i,∃ j,S i->S j/\((b9 g).getD i 0).getLsbD j=true:=λi=>by
  by_cases h:S i
  .refine Pd λr=>p ⟨i,h,λj t=>?_⟩
   cases u:((b9 g).getD i 0).getLsbD j with
   | false=>rfl
   | true=>exact absurd ⟨j,λ_=>⟨t,u⟩⟩ r
  .exact⟨0,λe=>absurd e h⟩
 obtain⟨v,k⟩:=Classical.axiomOfChoice d
 obtain⟨i0,w⟩:=o
 let f:Nat->Nat:=λm=>Nat.rec i0 (λ_ x=>v x) m
 have c:∀ m,S (f m):=λm=>by
  induction m with
  | zero=>exact w
  | succ m y=>exact(k _ y).1
 have z:∀ m,((b9 g).getD (f m) 0).getLsbD (f (m+1))=true:=λm=>(k _ (c m)).2
 obtain⟨a,b,h1,r,A⟩:=KG λm=>l _ (c m)
 have hp:=ou (n:=g.af.length) (by omega) q (λm=>l _ (c m)) z g.af.length a (b - a) (by omega) (by omega)
 rw[show a+(b - a)=b by omega,<-A] at hp
 refine KV (x:=yI g) (n:=(b9 g).length) (by omega) (i:=f a) (by rw[q];exact l _ (c a)) ?_ s
 unfold yI
 rw[q]
 exact hp
theorem AF:∀ (l m:List Int),l.Nodup->(∀ a∈l,a∈m)->l.length<=m.length
 | [],_,_,_=>PL _
 | a :: l,m,h,c=>by
  obtain⟨h1,f⟩:=Ps.1 h
  have g:=AF l (m.erase a) f λb d=>(List.mem_erase_of_ne (λe=>h1 (by rw[<-e];exact d))).2 (c b (by simp[d]))
  have hm:=c a (by simp)
  have i:=List.length_erase_of_mem hm
  have j:=List.length_pos_of_mem hm
  rw[OY]
  omega
theorem FB (h:isRed g=true) {i:Nat} (hi:i < g.af.length):(fB g).getLsbD i=true:=by
 have hr:=gO h
 have e:=(az hr).af
 have hp:=Ah h i hi
 have b:=pJ hr (HN h i hi)
 rw[PJ] at b
 have c:i < (al g true).length:=by
  rcases Pn i (al g true).length with h | h
  .exact h
  .rw[OH,O5 h] at hp;simp at hp
 have key:∀ (l:List Nat) (s:BV),(s.getLsbD i=true∨i∈l)->(l.foldl (λs (i:Nat)=>if (al g true).getD i false=true/\(aY g).getD i false=true then s ||| gj i else s) s).getLsbD i=true:=by
  intro l
  induction l with
  | nil=>intro s h;simpa using h
  | cons a l d =>
   intro s h1
   rw[O3]
   refine d _ ?_
   rcases h1 with h1 | h1
   .left
    split
    .rw[P0,h1];rfl
    .exact h1
   .rcases O1.1 h1 with rfl | h1
    .left
     rw[OM ⟨hp,b⟩,P0,rL (by omega)];simp
    .exact .inr h1
 exact key _ _ (.inr (Pm.2 c))
structure Ko (g:ai) (x:List Int × BV):Prop where
 NA:x.1.Nodup
 ins:∀ A∈x.1,0<=A/\A < g.af.length
 bits:∀ i,x.2.getLsbD i=true↔(i:Int)∈x.1
 Le:∀ pre A post,x.1=pre ++ A :: post->∀ i,((b9 g).getD A.toNat 0).getLsbD i=true->(i:Int)∈pre
theorem Ma (h:isRed g=true) (z:gM g=0) {x:List Int × BV} (d:Ko g x):Ko g (mj g.af.length (fB g) (b9 g) x)/\(x.1.length < g.af.length->(mj g.af.length (fB g) (b9 g) x).1.length=x.1.length+1):=by
 have hr:=gO h
 have F:=(az hr).af
 have v:∀ i:Nat,i < g.af.length->(rX (fB g) (b9 g) x.2 i=true↔(i:Int) ∉ x.1/\∀ j,((b9 g).getD i 0).getLsbD j=true->(j:Int)∈x.1):=λi hi=>by
  unfold rX
  rw[vi (by omega),vi (by omega),FB h hi,Pz,OO,OT,Dk,Qz,<-Bool.not_eq_true,d.bits]
  exact and_congr Iff.rfl ⟨λo j c=>(d.bits j).1 (o j c),λo j c=>(d.bits j).2 (o j c)⟩
 unfold mj
 cases k:(List.range g.af.length).find? (rX (fB g) (b9 g) x.2) with
 | some i =>
  have h1:=List.find?_some k
  have hi:=Pm.1 (List.mem_of_find?_eq_some k)
  obtain⟨B,w⟩:=(v i hi).1 h1
  refine⟨⟨?_,λA l=>?_,λj=>?_,λpre A post e j c=>?_⟩,λ_=>by simp⟩
  .rw[List.nodup_append]
   exact⟨d.NA,by simp,λa p b y e=>by simp at y;subst y;subst e;exact B p⟩
  .rcases Pg.1 l with l | l
   .exact d.ins A l
   .simp at l;omega
  .rw[P0,Qi,d.bits,rL (by omega),OT,Pg,PU]
   exact or_congr Iff.rfl (by omega)
  .rcases List.append_eq_append_iff.1 e with ⟨t,m,f⟩ | ⟨t,m,f⟩
   .cases t with
    | nil =>
     simp at f
     rw[<-f.1,PJ] at c
     rw[m,List.append_nil]
     exact w j c
    | cons b t =>
     have:=Qo List.length f
     simp at this
   .cases t with
    | nil =>
     simp at f
     rw[f.1,PJ] at c
     rw[<-List.append_nil pre,<-m]
     exact w j c
    | cons b t =>
     simp only[PD,List.cons.injEq] at f
     rw[<-f.1] at m
     exact d.Le pre A t m j c
 | none =>
  refine⟨d,λG=>?_⟩
  have q:=List.find?_eq_none.1 k
  have hex:∃ i,i < g.af.length/\(i:Int) ∉ x.1:=by
   refine Pd λC=>?_
   have n:∀ i:Nat,i < g.af.length->(i:Int)∈x.1:=λi hi=>Pd λr=>C ⟨i,hi,r⟩
   have D:((List.range g.af.length).map λ(i:Nat)=>(i:Int)).Nodup:=by
    rw[List.Nodup,QB]
    exact List.Pairwise.imp (λh e=>by omega) List.pairwise_lt_range
   have E:((List.range g.af.length).map λ(i:Nat)=>(i:Int)).length<=x.1.length:=by
    refine AF _ _ D ?_
    intro a p
    obtain⟨i,hi,rfl⟩:=O9.1 p
    exact n i (Pm.1 hi)
   simp at E;omega
  obtain⟨i,⟨hi,s⟩,u⟩:=Ht hr z (λi=>i < g.af.length/\(i:Int) ∉ x.1) (λ_ h=>h.1) hex
  refine absurd ((v i hi).2 ⟨s,λj c=>?_⟩) (q i (Pm.2 hi))
  refine Pd λr=>?_
  rw[u j ⟨JR hr c,r⟩] at c
  simp at c
theorem B2 (h:isRed g=true) (D:gM g=0):Lm g (dZ g):=by
 have hr:=gO h
 have t:=az hr
 have key:∀ r,r<=g.af.length->Ko g (iter (mj g.af.length (fB g) (b9 g)) r ([],0))/\(iter (mj g.af.length (fB g) (b9 g)) r ([],0)).1.length=r:=by
  intro r
  induction r with
  | zero=>intro _;exact⟨⟨by simp[iter],by simp[iter],by simp[iter],by simp[iter]⟩,rfl⟩
  | succ r E =>
   intro hr
   obtain⟨i1,i2⟩:=E (by omega)
   rw[j8]
   obtain⟨s1,s2⟩:=Ma h D i1
   exact⟨s1,by rw[s2 (by omega),i2]⟩
 obtain⟨j,k2⟩:=key g.af.length (OR _)
 refine⟨j.ins,λA M=>?_,λR k=>t.left R k,λpre A post e R k m=>?_⟩
 .refine Pd λF=>?_
  have h1:((A:Int) :: dZ g).Nodup:=Ps.2 ⟨F,j.NA⟩
  have w:=tn (n:=g.af.length) h1 λx a=>by
   rcases O1.1 a with rfl | a
   .omega
   .exact j.ins x a
  rw[OY] at w
  unfold dZ pq at w
  omega
 .rintro b s o p G ⟨u,hu⟩ ⟨v,H⟩
  have I:=zo hr hu.2.2 rfl
  have J:=zo hr H.2.2 rfl
  have hk:b.length < R.right.length:=by rw[p];simp
  have y:R.right.getD b.length 0=s:=by rw[p];simp[OH]
  have hm:∀ x∈b ++ o,x < 0/\(al g false).getD (-1 - x).toNat false=true:=λx a=>by
   have z:∀ l:List Int,bw l (al g false) false=true->x∈l->x < 0/\(al g false).getD (-1 - x).toNat false=true:=λl m a=>by
    have:=O7.1 m x a
    simpa using this
   exact(Pg.1 a).elim (z b I) (z o J)
  have c:=Jt hr k hk (by rw[y];exact G) (by
   unfold je
   rw[O7]
   intro i hi
   have f:=Pm.1 hi
   by_cases B:i=b.length
   .simp[B]
   .have a:R.right.getD i 0∈b ++ o:=by
     rw[p] at f ⊢
     rw[OH]
     by_cases C:i < b.length
     .rw[O6 C,OI C]
      exact Pg.2 (.inl (OW _))
     .rw[Ph (by omega)]
      obtain⟨d,K⟩:∃ d,i - b.length=d+1:=⟨i - b.length - 1,by omega⟩
      simp at f
      rw[K,Pq,OI (by omega)]
      exact Pg.2 (.inr (OW _))
    have:=hm _ a
    rw[decide_eq_false B,PO this.1,this.2];rfl) (by
   rw[mr]
   intro x a L
   have q:=t.sym R k x a
   unfold eO at q
   rw[OK (by omega)] at q
   simp at q
   exact Ah h _ (by omega))
  rw[y,m] at c
  have:=j.Le pre A post e _ c
  exact this
end
def kF:SC :=
 ae [ae [ab [aa 8 7,aa 9 0,aR 10 9,aV 11 .lss 8 10],bH 11 (.exit 0)],.block 1 (ae [.region false [⟨none,[aa 14 7,aa 15 1,aV 16 .neq 14 15,aa 17 16]⟩,⟨(some (17,true)),[aa 18 0,aa 19 7,aW 20 1 18 19,ak 21 20,ax 22 .geq 21 0,aa 23 22]⟩,⟨(some (23,false)),[aa 24 2,aa 25 0,aa 26 7,aW 27 1 25 26,ak 28 27,((some 29),.op (.arith .sub (.val (.val (.int .i64 (-1)))) (.tmp 28))),aW 30 1 24 29,ak 31 30,bS 32 31]⟩,⟨(some (17,true)),[bq 33 23 32]⟩,⟨none,[bV 34 17 33]⟩],bc 34 (ae [ab [bb 6 false],.ret])]),ab [aa 12 7,ax 13 .add 12 1,aa 7 13]]
def lZ:SF:=⟨ae [ab [bb 6 false],ae [ab [aN 7 0],bJ 0 kF],ab [bb 6 true],.ret],
 [.tmp 6],35⟩
theorem qG:aE Tryz.prog 238 []=some lZ:=by kernel_rfl
def kP:SC :=
 ae [ae [ab [aa 6 5,aa 7 0,aR 8 7,aV 9 .lss 6 8],bH 9 (.exit 0)],.block 1 (ae [.region false [⟨none,[aa 12 0,aa 13 5,aW 14 1 12 13,ak 15 14,ax 16 .lss 15 0,aa 17 16]⟩,⟨(some (17,true)),[aa 18 1,aa 19 0,aa 20 5,aW 21 1 19 20,ak 22 21,((some 23),.op (.arith .sub (.val (.val (.int .i64 (-1)))) (.tmp 22))),aW 24 1 18 23,ak 25 24,bS 26 25]⟩,⟨none,[bV 27 17 26]⟩],bc 27 (ae [ab [bb 4 false],.ret])]),ab [aa 10 5,ax 11 .add 10 1,aa 5 11]]
def mR:SF:=⟨ae [ab [bb 4 false],ae [ab [aN 5 0],bJ 0 kP],ab [bb 4 true],.ret],
 [.tmp 4],28⟩
theorem rC:aE Tryz.prog 239 []=some mR:=by kernel_rfl
def j9:SC :=
 ae [ae [ab [aa 32 8,av 33 1 7,ak 34 33,aR 35 34,aV 36 .lss 32 35],bH 36 (.exit 2)],.block 3 (ae [.region false [⟨none,[av 39 1 7,ak 40 39,aa 41 8,aW 42 1 40 41,ak 43 42,ax 44 .lss 43 0,aa 45 44]⟩,⟨(some (45,true)),[av 46 1 7,ak 47 46,aa 48 8,aa 49 3,aJ 50 238 [47,48,49]]⟩,⟨none,[bV 51 45 50,aa 52 51]⟩,⟨(some (52,true)),[av 53 1 7,ak 54 53,aa 55 4,aJ 56 239 [54,55]]⟩,⟨none,[bV 57 52 56]⟩],bc 57 (.region true [⟨none,[aa 58 5,av 59 0 7,ak 60 59,aa 61 5,av 62 0 7,ak 63 62,aW 64 1 61 63,ak 65 64,av 66 1 7,ak 67 66,aa 68 8,aW 69 1 67 68,ak 70 69,((some 71),.op (.arith .sub (.val (.val (.int .i64 (-1)))) (.tmp 70))),aJ 72 98 [71],aV 73 .or 65 72,aW 74 1 58 60,cb 1 74 73]⟩])]),ab [aa 37 8,ax 38 .add 37 1,aa 8 38]]
def ks:SC :=
 ae [ae [ab [aa 20 6,av 21 2 1,ak 22 21,aR 23 22,aV 24 .lss 20 23],bH 24 (.exit 0)],.block 1 (ae [ab [av 27 2 1,ak 28 27,aa 29 6,aW 30 3 28 29,ba 31 3 30,((some 7),.op (.alloc [(.val (.int .i64 0)),(.emp 1),(.val (.int .i64 0))])),cb 3 7 31],ab [aN 8 0],bJ 2 j9]),ab [aa 25 6,ax 26 .add 25 1,aa 6 26]]
def lx:SF:=⟨ae [ab [cE 1 0,cp 2 1],ae [ab [ba 9 4 1,aJ 10 50 [9],bS 11 10],bc 11 (ae [ab [cp 2 1],.ret])],.region true [⟨none,[ba 12 4 1,aJ 13 230 [12],ba 14 4 1,aJ 15 93 [14],aa 3 13,aa 4 15]⟩],ab [av 16 1 1,ak 17 16,aR 18 17,((some 19),.op (.make 1 4 [(.val (.int .u32 0))] (.tmp 18) (.tmp 18))),aa 5 19],ae [ab [aN 6 0],bJ 0 ks],ab [aa 75 5,aa 2 75],.ret],
 [.tmp 2],76⟩
theorem qW:aE Tryz.prog 181 [1]=some lx:=by kernel_rfl
def jA:SC :=
 ae [ae [ab [aa 29 6,aa 30 3,aR 31 30,aV 32 .lss 29 31],bH 32 (.exit 4)],.block 5 (ae [ab [aa 35 3,aa 36 5,aW 37 1 35 36,ak 38 37,aa 39 6,aJ 40 168 [38,39]],bc 40 (ab [aa 41 3,aa 42 5,aa 43 3,aa 44 5,aW 45 1 43 44,ak 46 45,aa 47 3,aa 48 6,aW 49 1 47 48,ak 50 49,aV 51 .or 46 50,aW 52 1 41 42,cb 1 52 51])]),ab [aa 33 6,ax 34 .add 33 1,aa 6 34]]
def jB:SC :=
 ae [ae [ab [aa 23 5,aa 24 3,aR 25 24,aV 26 .lss 23 25],bH 26 (.exit 2)],.block 3 (ae [ab [aN 6 0],bJ 4 jA]),ab [aa 27 5,ax 28 .add 27 1,aa 5 28]]
def jf:SC :=
 ae [ae [.region false [⟨none,[aa 11 4,av 12 1 1,ak 13 12,aR 14 13,aV 15 .lss 11 14,aa 16 15]⟩,⟨(some (16,true)),[aa 17 3,aR 18 17,ax 19 .gtr 18 0]⟩,⟨none,[bV 20 16 19]⟩],bH 20 (.exit 0)],.block 1 (ae [ab [aN 5 0],bJ 2 jB]),ab [aa 21 4,ax 22 .add 21 1,aa 4 22]]
def jw:SC :=
 ae [ae [ab [aa 53 8,aa 54 3,aR 55 54,aV 56 .lss 53 55],bH 56 (.exit 6)],.block 7 (ae [ab [aa 59 3,aa 60 8,aW 61 1 59 60,ak 62 61,aa 63 8,aJ 64 168 [62,63]],bc 64 (ab [aa 65 7,aa 66 8,aJ 67 98 [66],aV 68 .or 65 67,aa 7 68])]),ab [aa 57 8,ax 58 .add 57 1,aa 8 58]]
def kU:SF:=⟨ae [ab [cE 1 0,((some 2),.op (.cF (.val (.val (.int .u32 0)))))],ab [ba 9 4 1,aJ 10 181 [9],aa 3 10],ae [ab [aN 4 0],bJ 0 jf],ab [((some 7),.op (.cF (.val (.val (.int .u32 0)))))],ae [ab [aN 8 0],bJ 6 jw],ab [aa 69 7,aa 2 69],.ret],
 [.tmp 2],70⟩
theorem pL:aE Tryz.prog 117 [1]=some kU:=by kernel_rfl
theorem Ds {null:List Bool} {l:List Int} {k i:Nat} (hi:i < l.length) (h:(decide (i=k) || (decide (l.getD i 0 < 0) && null.getD (-1 - l.getD i 0).toNat false))=false):je null l k=false:=by
 unfold je
 rw[QA]
 exact⟨i,Pm.2 hi,by rw[h];simp⟩
theorem G6 (l:List Int) (p:aG l) (q:∀ x∈l,bm x) (k:Nat) (null:List Bool) (r:∀ x∈l,x < 0->(-1 - x).toNat < null.length):ar Tryz.prog 238 [encI l,gi k,bh null] (gb (je null l k)):=by
 unfold aG at p
 refine ar.val (by
  intro v m;simp at m
  rcases m with rfl | rfl | rfl
  .exact dU _
  .exact .val _
  .exact gv _) λH=>?_
 refine an.of mixed qG ?_
 simp(disch:=omega)only[↓wr,seval,wq,lZ,encI,bh]
 refine aP.up l.length (λi T H'=>(∀ j:Nat,j < i->(decide (j=k) || (decide (l.getD j 0 < 0) && null.getD (-1 - l.getD j 0).toNat false))=true)/\T 0=encI l/\T 1=gi k/\T 2=bh null/\T 7=gi i) ⟨λj h=>by omega,rfl,rfl,rfl,rfl⟩ ?_
 rintro i u T H' hk ⟨c,t0,t1,t2,t7⟩
 simp(disch:=omega)only[↓wr,seval,wq,kF,t0,t1,t2,t7,encI]
 apply ag.dec<;>intro s
 .have d:l[i]?=some (l.getD i 0):=getD_some (by omega)
  have hm:=O2 d
  have h1:=q _ hm
  have n:=r _ hm
  have a:=Ds (null:=null) (l:=l) (k:=k) (i:=i) (by omega)
  have b:(decide (i=k) || (decide (l.getD i 0 < 0) && null.getD (-1 - l.getD i 0).toNat false))=true->∀ j:Nat,j < i+1->(decide (j=k) || (decide (l.getD j 0 < 0) && null.getD (-1 - l.getD j 0).toNat false))=true:=λh j o=>by
   by_cases e:j=i
   .subst e;exact h
   .exact c j (by omega)
  generalize l.getD i 0=x at d h1 n a b
  unfold bm at h1
  simp(disch:=omega)only[↓wr,seval,wq,t0,t1,t2,t7]
  apply ag.ne<;>intro e
  .rw[decide_eq_false (show ¬ i=k by omega),Qn] at a b
   simp(disch:=omega)only[↓wr,seval,wq,t0,t1,t2,t7,encI,ON,d,OU]
   apply ag.dec<;>intro t
   .rw[decide_eq_false (show ¬ x < 0 by omega),P2] at a
    simp(disch:=omega)only[↓wr,seval,wq]
    rw[a rfl]
   .rw[PO (show x < 0 by omega),Pz] at a b
    have f:null[(-1 - x).toNat]?=some (null.getD (-1 - x).toNat false):=getD_some (n (by omega))
    simp(disch:=omega)only[↓wr,seval,wq,t0,t1,t2,t7,encI,bh,ON,d,f,OU]
    apply ag.split<;>intro g
    .simp(disch:=omega)only[↓wr,seval,wq,t0,t1,t2,t7]
     exact ay hk (by omega) ⟨b g,t0,t1,t2,rfl⟩
    .simp(disch:=omega)only[↓wr,seval,wq]
     rw[a g]
  .rw[PO (show i=k by omega),Bool.true_or] at b
   simp(disch:=omega)only[↓wr,seval,wq,t0,t1,t2,t7]
   exact ay hk (by omega) ⟨b rfl,t0,t1,t2,rfl⟩
 .simp(disch:=omega)only[↓wr,seval,wq]
  have:je null l k=true:=by
   unfold je
   rw[O7]
   intro j o
   exact c j (by have:=Pm.1 o;omega)
  rw[this]
theorem Kj (l:List Int) (m:aG l) (n:∀ x∈l,bm x) (is:List Bool) (o:∀ x∈l,x < 0->(-1 - x).toNat < is.length):ar Tryz.prog 239 [encI l,bh is] (gb (bw l is true)):=by
 unfold aG at m
 refine ar.val (by
  intro v j;simp at j
  rcases j with rfl | rfl
  .exact dU _
  .exact gv _) λH=>?_
 refine an.of mixed rC ?_
 simp(disch:=omega)only[↓wr,seval,wq,mR,encI,bh]
 refine aP.up l.length (λi T H'=>bw (l.take i) is true=true/\T 0=encI l/\T 1=bh is/\T 5=gi i) ⟨rfl,rfl,rfl,rfl⟩ ?_
 rintro i r T H' hk ⟨a,t0,t1,t5⟩
 simp(disch:=omega)only[↓wr,seval,wq,kP,t0,t1,t5,encI]
 apply ag.dec<;>intro p
 .have c:l[i]?=some (l.getD i 0):=getD_some (by omega)
  have hm:=O2 c
  have h1:=n _ hm
  have k:=o _ hm
  have d:l.take (i+1)=l.take i ++ [l.getD i 0]:=by rw[Pe,c];rfl
  generalize l.getD i 0=x at c h1 k d hm
  unfold bm at h1
  have b:(if 0<=x then true else is.getD (-1 - x).toNat false)=true->bw (l.take (i+1)) is true=true:=λh=>by
   rw[d]
   unfold bw at a ⊢
   rw[List.all_append,a]
   simp only[PH,List.all_nil,h,Bool.and_self]
  have e:(if 0<=x then true else is.getD (-1 - x).toNat false)=false->bw l is true=false:=λh=>by
   unfold bw
   rw[QA]
   exact⟨x,hm,by rw[h];simp⟩
  simp(disch:=omega)only[↓wr,seval,wq,t0,t1,t5,encI,ON,c,OU]
  apply ag.dec<;>intro q
  .rw[OK (by omega)] at e b
   have f:is[(-1 - x).toNat]?=some (is.getD (-1 - x).toNat false):=getD_some (k (by omega))
   simp(disch:=omega)only[↓wr,seval,wq,t0,t1,t5,encI,bh,ON,c,f,OU]
   apply ag.split<;>intro g
   .simp(disch:=omega)only[↓wr,seval,wq,t0,t1,t5]
    exact ay hk (by omega) ⟨b g,t0,t1,rfl⟩
   .simp(disch:=omega)only[↓wr,seval,wq]
    rw[e g]
  .rw[OM (by omega)] at b
   simp(disch:=omega)only[↓wr,seval,wq,t0,t1,t5]
   exact ay hk (by omega) ⟨b rfl,t0,t1,rfl⟩
 .simp(disch:=omega)only[↓wr,seval,wq]
  rw[O8 (by omega)] at a
  rw[a]
theorem xm (g:ai) (M:g.Ok) (hr:aA g=true) (H:View):an Tryz.prog 181 [.agg (ah g)] H λr H'=>aO H' r 1 (df (b9 g))/\jK H H' r:=by
 have u:=az hr
 have hN:=u.af;have a6:=u.ox;have a1:=u.rules;have hT:=u.ao
 have h1:=iJ g M
 have h2:=AM g M
 have h3:=gY g M
 rw[hr] at h1
 have N:b9 g=g.rules.foldl (nQ (al g false) (al g true)) (List.replicate g.af.length 0):=OM hr
 have B:=pZ hr
 rw[N] at B ⊢
 have O:=fb hr false
 have P:=fb hr true
 generalize al g false=null at *
 generalize al g true=is at *
 have Q:df (List.replicate g.af.length (0:BV))=List.replicate g.af.length [.val (.int .u32 0)]:=by simp[df]
 have S:(List.replicate g.af.length (0:BV)).length=g.af.length:=by simp
 generalize List.replicate g.af.length (0:BV)=C at *
 refine an.of mixed qW ?_
 simp only[ah,encS] at h1 h2 h3
 simp(disch:=omega)only[↓wr,seval,wq,lx,ah,encS]
 refine aj.pure h1 ?_
 simp(disch:=omega)only[↓wr,seval,wq,ah,encS]
 refine aj.pure h2 ?_
 simp(disch:=omega)only[↓wr,seval,wq,ah,encS]
 refine aj.pure h3 ?_
 simp(disch:=omega)only[↓wr,seval,wq,ah,encS]
 refine⟨⟨by omega,by unfold aB;omega,by unfold aB;omega⟩,λhz=>absurd hz (by omega),λ_ m hm=>?_⟩
 have U:∀ {o:bp} (id:Nat),H id≠.dead->(H.set m o) id=H id:=λ{o} id b=>by
  have:¬ id=m:=by rintro rfl;exact b hm
  simp only[View.set,OK this]
 have V:∀ id,H id≠.dead->owner (.sl m 0 g.af.length 1)≠some id:=λid b e=>by
  simp[owner] at e
  exact b (e ▸ hm)
 have hl:∀ i,((g.rules.take i).foldl (nQ null is) C).length=g.af.length:=λi=>by
  rw[fM (λx R=>wz x)];exact S
 refine aP.up g.rules.length (λi T H'=>H' m=.arr 1 (df ((g.rules.take i).foldl (nQ null is) C))/\(∀ id,H id≠.dead->H' id=H id)/\T 1=.aC (ah g) 0/\T 3=bh null/\T 4=bh is/\T 5=.sl m 0 g.af.length 1/\T 6=gi i)
  ⟨by simp only[View.set,if_true,List.take_zero,List.foldl_nil,Q],λid b=>U id b,rfl,rfl,rfl,rfl,rfl⟩ ?_
 rintro i kk T H1 W ⟨c,a,t1,t3,t4,t5,t6⟩
 simp(disch:=omega)only[↓wr,seval,wq,ks,t1,t3,t4,t5,t6,ah]
 apply ag.dec<;>intro hc
 rotate_left
 .simp(disch:=omega)only[↓wr,seval,wq,t5]
  rw[O8 (by omega)] at c
  exact⟨.inr ⟨m,by rw[OX,B],c⟩,λid b=>⟨a id b,V id b⟩⟩
 have f:g.rules[i]?=some (g.rules[i]'(by omega)):=OI (by omega)
 have q:=O2 f
 have v:(g.rules.take (i+1)).foldl (nQ null is) C=nQ null is ((g.rules.take i).foldl (nQ null is) C) (g.rules[i]'(by omega)):=by
  rw[Pe,f,PN];rfl
 generalize g.rules[i]'(by omega)=R at f q v
 have D:=hl i
 generalize (g.rules.take i).foldl (nQ null is) C=out at c v D
 have a7:=u.left R q
 have a8:=u.right R q
 have E:=u.sym R q
 have w:∀ x∈R.right,x < 0->(-1 - x).toNat < g.af.length:=λx f t=>by
  have h:=E x f
  unfold eO at h
  rw[OK (by omega)] at h
  simp only[OT] at h
  omega
 have l:∀ x∈R.right,bm x:=λx f=>by
  have h:=E x f
  unfold eO at h
  unfold bm
  split at h <;> simp only[OT] at h <;> omega
 have F:=Kj R.right (by unfold aG;omega) l is (λx f t=>by rw[P];exact w x f t)
 simp only[encI] at F
 simp(disch:=omega)only[↓wr,seval,wq,t1,t3,t4,t5,t6,ah,aS,encI,ON,f,OU]
 intro n7 n
 have z:¬ m=n7:=by rintro rfl;rw[c] at n;simp at n
 try rw[set_set]
 refine aP.up R.right.length (λk T H'=>H' m=.arr 1 (df ((List.range k).foldl (gF null is R) out))/\H' n7=.arr 3 [aS R]/\(∀ id,H id≠.dead->H' id=H id)/\T 1=.aC (ah g) 0/\T 3=bh null/\T 4=bh is/\T 5=.sl m 0 g.af.length 1/\T 6=gi i/\T 7=.ptr n7 0 0/\T 8=gi k)
  ⟨by simp only[View.set,OK z];exact c,by simp only[View.set,if_true];rfl,λid b=>by
   have:¬ id=n7:=by rintro rfl;rw[a id b] at n;exact b n
   simp only[View.set,OK this];exact a id b,t1,t3,t4,t5,t6,rfl,rfl⟩ ?_
 clear c a t1 t3 t4 t5 t6 n
 rintro k k2 T H2 s ⟨c,j,a,t1,t3,t4,t5,t6,t7,t8⟩
 simp only[aS] at j
 simp(disch:=omega)only[↓wr,seval,wq,j9,t1,t3,t4,t5,t6,t7,t8,j,encI]
 apply ag.dec<;>intro X
 rotate_left
 .simp(disch:=omega)only[↓wr,seval,wq,t1,t3,t4,t5,t6]
  refine ay W (by omega) ⟨?_,a,t1,t3,t4,t5,rfl⟩
  rw[v,c,show k=R.right.length by omega];rfl
 have L:R.right[k]?=some (R.right.getD k 0):=getD_some (by omega)
 have A:=O2 L
 have G:=G6 R.right (by unfold aG;omega) l k null (λx f t=>by rw[O];exact w x f t)
 simp only[encI] at G
 have p:(List.range (k+1)).foldl (gF null is R) out=if R.right.getD k 0 < 0/\je null R.right k=true/\bw R.right is true=true then ((List.range k).foldl (gF null is R) out).set R.left.toNat (((List.range k).foldl (gF null is R) out).getD R.left.toNat 0 ||| gj (-1 - R.right.getD k 0)) else (List.range k).foldl (gF null is R) out:=by
  rw[Qj,PN];rfl
 have I:((List.range k).foldl (gF null is R) out).length=g.af.length:=by rw[fM (λx k=>w5)];exact D
 generalize (List.range k).foldl (gF null is R) out=Y at c p I
 have Z:=w _ A
 have J:=l _ A
 generalize R.right.getD k 0=y at L A p Z J
 unfold bm at J
 have stay:¬ (y < 0/\je null R.right k=true/\bw R.right is true=true)->H2 m=.arr 1 (df ((List.range (k+1)).foldl (gF null is R) out)):=λh=>by rw[p,OK h];exact c
 simp(disch:=omega)only[↓wr,seval,wq,t1,t3,t4,t5,t6,t7,t8,j,encI,ON,L,OU]
 apply ag.dec<;>intro t
 rotate_left
 .simp(disch:=omega)only[↓wr,seval,wq,t1,t3,t4,t5,t6,t7,t8]
  exact ay s (by omega) ⟨stay λh=>t h.1,by simpa only [aS] using j,a,t1,t3,t4,t5,t6,t7,rfl⟩
 simp(disch:=omega)only[↓wr,seval,wq,t1,t3,t4,t5,t6,t7,t8,j,encI]
 refine aj.pure G ?_
 simp(disch:=omega)only[↓wr,seval,wq,t1,t3,t4,t5,t6,t7,t8]
 apply ag.split<;>intro ha
 rotate_left
 .simp(disch:=omega)only[↓wr,seval,wq,t1,t3,t4,t5,t6,t7,t8]
  exact ay s (by omega) ⟨stay λh=>by rw[ha] at h;simp at h,by simpa only [aS] using j,a,t1,t3,t4,t5,t6,t7,rfl⟩
 simp(disch:=omega)only[↓wr,seval,wq,t1,t3,t4,t5,t6,t7,t8,j,encI]
 refine aj.pure F ?_
 simp(disch:=omega)only[↓wr,seval,wq,t1,t3,t4,t5,t6,t7,t8]
 apply ag.split<;>intro hb
 rotate_left
 .simp(disch:=omega)only[↓wr,seval,wq,t1,t3,t4,t5,t6,t7,t8]
  exact ay s (by omega) ⟨stay λh=>by rw[hb] at h;simp at h,by simpa only [aS] using j,a,t1,t3,t4,t5,t6,t7,rfl⟩
 rw[OM ⟨t,ha,hb⟩] at p
 have K:(df Y).getD R.left.toNat []=[gw (Y.getD R.left.toNat 0)]:=by
  rw[df,OH,ON,getD_some (d:=0) (show R.left.toNat < Y.length by omega)];rfl
 simp(disch:=omega)only[↓wr,seval,wq,t1,t3,t4,t5,t6,t7,t8,j,c,K,encI,ON,L,OU]
 refine⟨by omega,by omega,?_⟩
 refine aj.pure (pt _) ?_
 simp(disch:=omega)only[↓wr,seval,wq,t1,t3,t4,t5,t6,t7,t8,c,K,Ca]
 refine⟨by omega,by omega,?_⟩
 have z:¬ n7=m:=by rintro rfl;rw[c] at j;simp at j
 refine ay s (by omega) ⟨?_,by simp only[View.set,OK z];simpa only [aS] using j,λid b=>?_,t1,t3,t4,t5,t6,t7,rfl⟩
 .rw[p]
  simp only[View.set,if_true]
  congr 1
  exact List.map_set.symm
 .have:¬ id=m:=by rintro rfl;exact b hm
  simp only[View.set,OK this]
  exact a id b
theorem HD (i k:Nat) (x:List BV):(List.range (k+1)).foldl (gf i) x=gf i ((List.range k).foldl (gf i) x) k:=by
 rw[Qj,PN];rfl
theorem Ir (n k:Nat) (x:List BV):(List.range (k+1)).foldl (mA n) x=mA n ((List.range k).foldl (mA n) x) k:=by
 rw[Qj,PN];rfl
theorem vK (g:ai) (M:g.Ok) (hr:aA g=true):ar Tryz.prog 117 [.agg (ah g)] (gw (gM g)):=by
 refine ar.val (dD g) λH=>?_
 have J:=az hr
 have R:=J.af;have N:=J.ox
 have f:=pZ hr
 have K:=xm g M hr H
 unfold gM yI
 rw[f]
 generalize b9 g=q at *
 have t:∀ n,(iter (ma g.af.length) n q).length=g.af.length:=λn=>by rw[xc,f]
 simp only[ah,encS] at K
 refine an.of mixed pL ?_
 simp(disch:=omega)only[↓wr,seval,wq,kU,ah,encS]
 refine aj.dd (K.mono ?_)
 rintro r H1 ⟨L,_⟩
 obtain⟨m,u,a⟩:=L.sl (by rw[OX,f];omega)
 rw[OX,f] at u
 subst u
 simp(disch:=omega)only[↓wr,seval,wq]
 refine aP.up g.af.length (λn T H'=>H' m=.arr 1 (df (iter (ma g.af.length) n q))/\T 1=.aC (ah g) 0/\T 3=.sl m 0 g.af.length 1/\T 4=gi n) ⟨a,rfl,rfl,rfl⟩ ?_
 clear a L
 rintro n S T U F ⟨a,t1,t3,t4⟩
 simp(disch:=omega)only[↓wr,seval,wq,jf,t1,t3,t4,ah,encS]
 apply ag.dec<;>intro O
 .simp(disch:=omega)only[↓wr,seval,wq,t1,t3,t4]
  refine ag.dec (λv=>?_) (λv=>absurd v (by omega))
  simp(disch:=omega)only[↓wr,seval,wq,t1,t3,t4]
  have h:=t n
  have w:iter (ma g.af.length) (n+1) q=(List.range g.af.length).foldl (mA g.af.length) (iter (ma g.af.length) n q):=by rw[j8];rfl
  generalize iter (ma g.af.length) n q=x at a h w
  refine aP.up g.af.length (λi T H'=>H' m=.arr 1 (df ((List.range i).foldl (mA g.af.length) x))/\T 1=.aC (ah g) 0/\T 3=.sl m 0 g.af.length 1/\T 4=gi n/\T 5=gi i) ⟨a,t1,t3,t4,rfl⟩ ?_
  clear a t1 t3 t4
  rintro i P T Q j ⟨a,t1,t3,t4,t5⟩
  simp(disch:=omega)only[↓wr,seval,wq,jB,t1,t3,t4,t5]
  apply ag.dec<;>intro l
  .have A:((List.range i).foldl (mA g.af.length) x).length=g.af.length:=by rw[fM (λx _=>wk x),h]
   have B:(List.range (i+1)).foldl (mA g.af.length) x=(List.range g.af.length).foldl (gf i) ((List.range i).foldl (mA g.af.length) x):=Ir g.af.length i x
   generalize (List.range i).foldl (mA g.af.length) x=y at a A B
   simp(disch:=omega)only[↓wr,seval,wq,t1,t3,t4,t5]
   refine aP.up g.af.length (λk T H'=>H' m=.arr 1 (df ((List.range k).foldl (gf i) y))/\T 1=.aC (ah g) 0/\T 3=.sl m 0 g.af.length 1/\T 4=gi n/\T 5=gi i/\T 6=gi k) ⟨a,t1,t3,t4,t5,rfl⟩ ?_
   clear a t1 t3 t4 t5
   rintro k V T W C ⟨a,t1,t3,t4,t5,t6⟩
   simp(disch:=omega)only[↓wr,seval,wq,jA,t1,t3,t4,t5,t6]
   apply ag.dec<;>intro G
   .have I:((List.range k).foldl (gf i) y).length=g.af.length:=by rw[fM (λx _=>w9 x),A]
    have b:(List.range (k+1)).foldl (gf i) y=if hasB (((List.range k).foldl (gf i) y).getD i 0) k=true then ((List.range k).foldl (gf i) y).set i (((List.range k).foldl (gf i) y).getD i 0 ||| ((List.range k).foldl (gf i) y).getD k 0) else (List.range k).foldl (gf i) y:=HD i k y
    generalize (List.range k).foldl (gf i) y=z at a I b
    have c:(df z).getD i []=[gw (z.getD i 0)]:=by
     rw[df,OH,ON,getD_some (d:=0) (show i < z.length by omega)];rfl
    have D:(df z).getD k []=[gw (z.getD k 0)]:=by
     rw[df,OH,ON,getD_some (d:=0) (show k < z.length by omega)];rfl
    generalize z.getD i 0=p at b c
    generalize z.getD k 0=r at b D
    simp(disch:=omega)only[↓wr,seval,wq,t1,t3,t4,t5,t6,a,c]
    refine⟨by omega,by first | omega | (rw[OX];omega),?_⟩
    refine aj.pure (sY _ _) ?_
    simp(disch:=omega)only[↓wr,seval,wq,t1,t3,t4,t5,t6]
    apply ag.split<;>intro o
    .rw[OM o] at b
     simp(disch:=omega)only[↓wr,seval,wq,t1,t3,t4,t5,t6,a,c,D,Ca]
     refine⟨by omega,by omega,by omega,by omega,by omega,by omega,ay C (by omega) ⟨?_,t1,t3,t4,t5,rfl⟩⟩
     rw[b]
     simp only[View.set,if_true]
     congr 1
     exact List.map_set.symm
    .rw[OK (by rw[o];simp)] at b
     simp(disch:=omega)only[↓wr,seval,wq,t1,t3,t4,t5,t6]
     exact ay C (by omega) ⟨by rw[b];exact a,t1,t3,t4,t5,rfl⟩
   .simp(disch:=omega)only[↓wr,seval,wq,t1,t3,t4,t5]
    refine ay j (by omega) ⟨?_,t1,t3,t4,rfl⟩
    rw[B,a,show k=g.af.length by omega]
  .simp(disch:=omega)only[↓wr,seval,wq,t1,t3,t4]
   refine ay F (by omega) ⟨?_,t1,t3,rfl⟩
   rw[w,a,show i=g.af.length by omega]
 .obtain rfl:n=g.af.length:=by omega
  have h:=t g.af.length
  generalize iter (ma g.af.length) g.af.length q=x at a h
  have c:∀ i,i < g.af.length->(df x).getD i []=[gw (x.getD i 0)]:=λi hi=>by
   rw[df,OH,ON,getD_some (d:=0) (show i < x.length by omega)];rfl
  simp(disch:=omega)only[↓wr,seval,wq,t1,t3,t4]
  refine aP.up g.af.length (λi T H'=>H' m=.arr 1 (df x)/\T 3=.sl m 0 g.af.length 1/\T 7=gw (oo x i)/\T 8=gi i) ⟨a,t3,rfl,rfl⟩ ?_
  clear a t1 t3 t4
  rintro i P T Q j ⟨a,t3,t7,t8⟩
  simp(disch:=omega)only[↓wr,seval,wq,jw,t3,t7,t8]
  have e:oo x (i+1)=if hasB (x.getD i 0) i=true then oo x i ||| gj i else oo x i:=by
   unfold oo
   rw[Qj,PN];rfl
  apply ag.dec<;>intro l
  .have E:=c i (by omega)
   generalize x.getD i 0=p at e E
   generalize oo x i=s at *
   simp(disch:=omega)only[↓wr,seval,wq,t3,t7,t8,a,E]
   refine⟨by omega,by first | omega | (rw[OX];omega),?_⟩
   refine aj.pure (sY _ _) ?_
   simp(disch:=omega)only[↓wr,seval,wq,t3,t7,t8]
   apply ag.split<;>intro o
   .rw[OM o] at e
    simp(disch:=omega)only[↓wr,seval,wq,t3,t7,t8]
    refine aj.pure (pt _) ?_
    simp(disch:=omega)only[↓wr,seval,wq,t3,t7,t8,Ca]
    exact ay j (by omega) ⟨a,t3,by rw[e];rfl,rfl⟩
   .rw[OK (by rw[o];simp)] at e
    simp(disch:=omega)only[↓wr,seval,wq,t3,t7,t8]
    exact ay j (by omega) ⟨a,t3,by rw[e];exact t7,rfl⟩
  .obtain rfl:i=g.af.length:=by omega
   simp(disch:=omega)only[↓wr,seval,wq,t7]
def ju:SC :=
 ae [ae [ab [aa 11 6,aa 12 3,aR 13 12,aV 14 .lss 11 13],bH 14 (.exit 0)],.block 1 (ae [.region false [⟨none,[aa 17 3,aa 18 6,aW 19 1 17 18,ak 20 19,aa 21 20]⟩,⟨(some (21,true)),[aa 22 4,aa 23 6,aW 24 1 22 23,ak 25 24]⟩,⟨none,[bV 26 21 25]⟩],bc 26 (ab [aa 27 5,aa 28 6,aJ 29 98 [28],aV 30 .or 27 29,aa 5 30])]),ab [aa 15 6,ax 16 .add 15 1,aa 6 16]]
def k8:SF:=⟨ae [ab [cE 1 0,((some 2),.op (.cF (.val (.val (.int .u32 0)))))],.region true [⟨none,[ba 7 4 1,aJ 8 93 [7],ba 9 4 1,aJ 10 94 [9],aa 3 8,aa 4 10]⟩],ab [((some 5),.op (.cF (.val (.val (.int .u32 0)))))],ae [ab [aN 6 0],bJ 0 ju],ab [aa 31 5,aa 2 31],.ret],
 [.tmp 2],32⟩
theorem pO:aE Tryz.prog 243 [1]=some k8:=by kernel_rfl
def kh:SF:=⟨ae [ab [cE 1 0,bb 2 false],.region true [⟨none,[ba 3 4 1,aJ 4 117 [3],ba 5 4 1,aJ 6 243 [5],aV 7 .and 4 6,((some 8),.op (.arith .neq (.tmp 7) (.val (.val (.int .u32 0))))),aa 2 8]⟩],.ret],
 [.tmp 2],9⟩
theorem py:aE Tryz.prog 242 [1]=some kh:=by kernel_rfl
def kb:SC :=
 ae [ae [ab [aa 26 9,av 27 1 1,ak 28 27,aR 29 28,aV 30 .lss 26 29],bH 30 (.exit 2)],.block 3 (ae [.region false [⟨none,[aa 33 5,aa 34 9,aJ 35 168 [33,34],aa 36 35]⟩,⟨(some (36,true)),[aa 37 7,aa 38 9,aJ 39 168 [37,38],bS 40 39]⟩,⟨none,[bV 41 36 40,aa 42 41]⟩,⟨(some (42,true)),[aa 43 4,aa 44 9,aW 45 1 43 44,ak 46 45,aa 47 7,aV 48 .andNot 46 47,((some 49),.op (.arith .eql (.tmp 48) (.val (.val (.int .u32 0)))))]⟩,⟨none,[bV 50 42 49]⟩],bc 50 (ae [ab [aa 51 6,aa 52 9,((some 53),.op (.bM 1 1 [(.val (.int .i64 0))] [(0,(.tmp 52))])),pk 54 1 8 51 53,aa 6 54],ab [aa 55 7,aa 56 9,aJ 57 98 [56],aV 58 .or 55 57,aa 7 58],.exit 2])]),ab [aa 31 9,ax 32 .add 31 1,aa 9 32]]
def kc:SC :=
 ae [ae [ab [aa 19 8,av 20 1 1,ak 21 20,aR 22 21,aV 23 .lss 19 22],bH 23 (.exit 0)],.block 1 (ae [ab [aN 9 0],bJ 2 kb]),ab [aa 24 8,ax 25 .add 24 1,aa 8 25]]
def lY:SF:=⟨ae [ab [cE 1 0,cp 2 1,aN 3 0],ae [ab [ba 10 4 1,aJ 11 50 [10],bS 12 11],bc 12 (ae [ab [cp 2 1,aN 3 1],.ret])],ae [ab [ba 13 4 1,aJ 14 242 [13]],bc 14 (ae [ab [cp 2 1,aN 3 10],.ret])],.region true [⟨none,[ba 15 4 1,aJ 16 181 [15],ba 17 4 1,aJ 18 243 [17],aa 4 16,aa 5 18]⟩],ab [cp 6 1],ab [((some 7),.op (.cF (.val (.val (.int .u32 0)))))],ae [ab [aN 8 0],bJ 0 kc],ab [aa 59 6,aa 2 59,aN 3 0],.ret],
 [.tmp 2,.tmp 3],60⟩
theorem qI:aE Tryz.prog 186 [1]=some lY:=by kernel_rfl
theorem vD (g:ai) (j:g.Ok) (hr:aA g=true):ar Tryz.prog 243 [.agg (ah g)] (gw (fB g)):=by
 refine ar.val (dD g) λH=>?_
 have n:=az hr
 have u:=n.af
 have l:=gY g j
 have m:=(rr g j).pure
 have o:=fb hr true
 have r:(aY g).length=g.af.length:=qR hr
 unfold fB
 generalize al g true=p at *
 generalize aY g=q at *
 refine an.of mixed pO ?_
 simp only[ah,encS] at l m
 simp(disch:=omega)only[↓wr,seval,wq,k8,ah,encS]
 refine aj.pure l ?_
 simp(disch:=omega)only[↓wr,seval,wq,ah,encS]
 refine aj.pure m ?_
 simp(disch:=omega)only[↓wr,seval,wq]
 refine aP.up p.length (λi T H'=>T 3=bh p/\T 4=bh q/\T 5=gw (rY p q i)/\T 6=gi i) ⟨rfl,rfl,rfl,rfl⟩ ?_
 rintro i k T H' hk ⟨t3,t4,t5,t6⟩
 simp(disch:=omega)only[↓wr,seval,wq,ju,t3,t4,t5,t6,bh]
 have c:=FT p q i
 apply ag.dec<;>intro t
 .have d:p[i]?=some (p.getD i false):=getD_some (by omega)
  have e:q[i]?=some (q.getD i false):=getD_some (by omega)
  generalize rY p q i=s at c t5
  generalize p.getD i false=a at d c
  generalize q.getD i false=b at e c
  simp(disch:=omega)only[↓wr,seval,wq,t3,t4,t5,t6,bh,ON,d,e,OU]
  apply ag.split<;>intro f
  .simp(disch:=omega)only[↓wr,seval,wq,t3,t4,t5,t6,bh,ON,d,e,OU]
   apply ag.split<;>intro h
   .rw[OM ⟨f,h⟩] at c
    simp(disch:=omega)only[↓wr,seval,wq,t3,t4,t5,t6]
    refine aj.pure (pt _) ?_
    simp(disch:=omega)only[↓wr,seval,wq,t3,t4,t5,t6,Ca]
    exact ay hk (by omega) ⟨t3,t4,by rw[c];rfl,rfl⟩
   .rw[OK (by rw[h];simp)] at c
    simp(disch:=omega)only[↓wr,seval,wq,t3,t4,t5,t6]
    exact ay hk (by omega) ⟨t3,t4,by rw[c];exact t5,rfl⟩
  .rw[OK (by rw[f];simp)] at c
   simp(disch:=omega)only[↓wr,seval,wq,t3,t4,t5,t6]
   exact ay hk (by omega) ⟨t3,t4,by rw[c];exact t5,rfl⟩
 .obtain rfl:i=p.length:=by omega
  simp(disch:=omega)only[↓wr,seval,wq,t5]
theorem Cf (g:ai) (a:g.Ok) (hr:aA g=true) (c:gM g=0):ar Tryz.prog 242 [.agg (ah g)] (gb false):=by
 refine ar.val (dD g) λH=>?_
 have h1:=vK g a hr
 have b:=vD g a hr
 refine an.of mixed py ?_
 simp only[ah,encS] at h1 b
 simp(disch:=omega)only[↓wr,seval,wq,kh,ah,encS]
 refine aj.pure h1 ?_
 simp(disch:=omega)only[↓wr,seval,wq,ah,encS]
 refine aj.pure b ?_
 simp(disch:=omega)only[↓wr,seval,wq,Lc]
 rw[c]
 simp
theorem bf.lone {H:View} {u:V} {sz:Nat} {es:List (List V)} (h:aO H u sz es):bf H [(u,sz,es)]:=by
 refine⟨λx a=>by simp at a;subst a;exact h,?_⟩
 cases hu:owner u <;> simp[P9,hu]
theorem JF {p:Nat->Bool} {n i:Nat} (hi:i < n) (h1:p i=true) (a:∀ j,j < i->p j=false):(List.range n).find? p=some i:=by
 rw[List.find?_range_eq_some]
 exact⟨h1,Pm.2 hi,λj b=>by rw[a j b];rfl⟩
theorem LD {p:Nat->Bool} {n:Nat} (a:∀ j,j < n->p j=false):(List.range n).find? p=none:=by
 rw[List.find?_range_eq_none]
 exact λj b=>by rw[a j b];rfl
theorem FY (g:ai) (C:g.Ok) (hr:aA g=true) (R:gM g=0):cJ Tryz.prog 186 [.agg (ah g)] (.aU [encI (dZ g),gi 0]):=by
 refine cJ.of (dD g) ?_
 have N:=az hr
 have hN:=N.af;have S:=N.ox
 have E:=iJ g C
 rw[hr] at E
 have h1:=Cf g C hr R
 have O:=vD g C hr
 have P:=xm g C hr (λ_=>.dead)
 have k:=pZ hr
 unfold dZ
 generalize fB g=use at *
 generalize b9 g=st at *
 refine an.of mixed qI ?_
 simp only[ah,encS] at E h1 O P
 simp(disch:=omega)only[↓wr,seval,wq,lY,ah,encS]
 refine aj.pure E ?_
 simp(disch:=omega)only[↓wr,seval,wq,ah,encS]
 refine aj.pure h1 ?_
 simp(disch:=omega)only[↓wr,seval,wq,ah,encS]
 refine aj.E1 P ?_
 intro r H1 F _
 simp(disch:=omega)only[↓wr,seval,wq,ah,encS]
 refine aj.pure O ?_
 simp(disch:=omega)only[↓wr,seval,wq]
 have G:∀ i,i < g.af.length->(df st).getD i []=[gw (st.getD i 0)]:=λi hi=>by
  rw[df,OH,ON,getD_some (d:=0) (show i < st.length by omega)];rfl
 obtain⟨m,w,H⟩:=F.sl (by rw[OX,k];omega)
 rw[OX,k] at w
 subst w
 have I:∀ n,(pq g.af.length use st n).1.length<=n:=λn=>by
  induction n with
  | zero=>simp[pq,iter]
  | succ n Q =>
   rw[uc]
   unfold mj
   split
   .simp;exact Q
   .exact Nat.le_succ_of_le Q
 refine aP.up g.af.length (λn T H'=>∃ u,bf H' [(u,1,bd (pq g.af.length use st n).1),(.sl m 0 g.af.length 1,1,df st)]/\T 1=.aC (ah g) 0/\T 4=.sl m 0 g.af.length 1/\T 5=gw use/\T 6=u/\T 7=gw (pq g.af.length use st n).2/\T 8=gi n)
  ⟨.emp 1,(bf.lone F).emp,rfl,rfl,rfl,rfl,rfl,rfl⟩ ?_
 clear F H
 rintro n kn T H2 y ⟨u,o,t1,t4,t5,t6,t7,t8⟩
 simp(disch:=omega)only[↓wr,seval,wq,kc,t1,t4,t5,t6,t7,t8,ah,encS]
 apply ag.dec<;>intro J
 rotate_left
 .obtain rfl:n=g.af.length:=by omega
  simp(disch:=omega)only[↓wr,seval,wq,t6]
  intro h' U
  refine y4 (de.yV (sz:=1) (f:=λn=>.int .i64 n) ?_)
  rw[U]
  exact o.own 0 rfl
 have z:=I n
 have b:=uc g.af.length use st n
 generalize pq g.af.length use st n=x at o t7 z b
 obtain⟨l,a⟩:=x
 simp only at o t7 z
 simp(disch:=omega)only[↓wr,seval,wq,t1,t4,t5,t6,t7,t8]
 refine aP.up g.af.length (λi T H'=>(∀ j,j < i->rX use st a j=false)/\bf H' [(u,1,bd l),(.sl m 0 g.af.length 1,1,df st)]/\T 1=.aC (ah g) 0/\T 4=.sl m 0 g.af.length 1/\T 5=gw use/\T 6=u/\T 7=gw a/\T 8=gi n/\T 9=gi i) ⟨λj h=>by omega,o,t1,t4,t5,t6,t7,t8,rfl⟩ ?_
 clear o t1 t4 t5 t6 t7 t8
 rintro i ki T H3 s ⟨t,o,t1,t4,t5,t6,t7,t8,t9⟩
 simp(disch:=omega)only[↓wr,seval,wq,kb,t1,t4,t5,t6,t7,t8,t9,ah,encS]
 apply ag.dec<;>intro K
 rotate_left
 .have v:mj g.af.length use st (l,a)=(l,a):=by
   unfold mj
   rw[LD (λj V=>t j (by omega))]
  simp(disch:=omega)only[↓wr,seval,wq,t1,t4,t5,t6,t7,t8]
  refine ay y (by omega) ⟨u,by rw[b,v];exact o,t1,t4,t5,t6,by rw[b,v];exact t7,rfl⟩
 have A:=G i (by omega)
 have H:=o.is 1 rfl (by rw[OX,k];omega)
 have c:rX use st a i=false->∀ j,j < i+1->rX use st a j=false:=λh j V=>by
  by_cases e:j=i
  .subst e;exact h
  .exact t j (by omega)
 have v:rX use st a i=true->mj g.af.length use st (l,a)=(l ++ [(i:Int)],a ||| gj i):=λh=>by
  unfold mj
  rw[JF (by omega) h t]
 have W:rX use st a i=(hasB use i && !hasB a i && decide (st.getD i 0 &&& ~~~a=0)):=rfl
 rw[W] at c v
 generalize st.getD i 0=p at A c v
 simp(disch:=omega)only[↓wr,seval,wq,t1,t4,t5,t6,t7,t8,t9]
 refine aj.pure (sY _ _) ?_
 simp(disch:=omega)only[↓wr,seval,wq,t1,t4,t5,t6,t7,t8,t9]
 apply ag.split<;>intro D
 rotate_left
 .simp(disch:=omega)only[↓wr,seval,wq,t1,t4,t5,t6,t7,t8,t9]
  exact ay s (by omega) ⟨c (by rw[D];rfl),o,t1,t4,t5,t6,t7,t8,rfl⟩
 simp(disch:=omega)only[↓wr,seval,wq,t1,t4,t5,t6,t7,t8,t9]
 refine aj.pure (sY _ _) ?_
 simp(disch:=omega)only[↓wr,seval,wq,t1,t4,t5,t6,t7,t8,t9]
 apply ag.split<;>intro L
 .simp(disch:=omega)only[↓wr,seval,wq,t1,t4,t5,t6,t7,t8,t9]
  exact ay s (by omega) ⟨c (by rw[D,L];rfl),o,t1,t4,t5,t6,t7,t8,rfl⟩
 simp(disch:=omega)only[↓wr,seval,wq,t1,t4,t5,t6,t7,t8,t9,H,A,JU]
 refine⟨by omega,by omega,?_⟩
 apply ag.eq<;>intro M
 rotate_left
 .simp(disch:=omega)only[↓wr,seval,wq,t1,t4,t5,t6,t7,t8,t9]
  have X:decide (p &&& ~~~a=0)=false:=decide_eq_false λe=>M (toNat_zero.2 e)
  exact ay s (by omega) ⟨c (by rw[X,Bool.and_false]),o,t1,t4,t5,t6,t7,t8,rfl⟩
 have B:=v (by rw[D,L,PO (toNat_zero.1 M)];rfl)
 simp(disch:=omega)only[↓wr,seval,wq,t1,t4,t5,t6,t7,t8,t9]
 intro q Y
 have Z:=o.fresh (o:=.arr 1 [[gi i]]) Y
 simp(disch:=omega)only[↓wr,seval,wq,t1,t4,t5,t6,t7,t8,t9,cL]
 refine eZ Z (by simp[aD]) (by unfold aB;simp;omega) (by unfold aB;simp;omega) ?_
 intro u2 H4 o4 _
 simp(disch:=omega)only[↓wr,seval,wq,t1,t4,t5,t6,t7,t8,t9]
 refine aj.pure (pt _) ?_
 simp(disch:=omega)only[↓wr,seval,wq,t1,t4,t5,t6,t7,t8,t9,Ca]
 refine ay y (by omega) ⟨u2,?_,t1,t4,t5,rfl,by rw[b,B];rfl,rfl⟩
 rw[b,B]
 simpa [bd] using o4
def lN:SF:=⟨ae [ab [bb 2 false],.region false [⟨none,[aa 3 0,aR 4 3,ax 5 .leq 4 32,aa 6 5]⟩,⟨(some (6,true)),[aa 7 0,aR 8 7,ax 9 .eql 8 0,aa 10 9]⟩,⟨(some (10,false)),[aa 11 0,aa 12 0,aR 13 12,ax 14 .sub 13 1,aW 15 1 11 14,ak 16 15,((some 17),.op (.arith .neq (.tmp 16) (.val (.val (.int .u32 0)))))]⟩,⟨(some (6,true)),[bq 18 10 17]⟩,⟨none,[bV 19 6 18,aa 2 19]⟩],.ret],
 [.tmp 2],20⟩
theorem qK:aE Tryz.prog 271 []=some lN:=by kernel_rfl
def kJ:SC :=
 ae [ae [.region false [⟨none,[aa 3 0,aR 4 3,ax 5 .gtr 4 0,aa 6 5]⟩,⟨(some (6,true)),[aa 7 0,aa 8 0,aR 9 8,ax 10 .sub 9 1,aW 11 1 7 10,ak 12 11,((some 13),.op (.arith .eql (.tmp 12) (.val (.val (.int .u32 0)))))]⟩,⟨none,[bV 14 6 13]⟩],bH 14 (.exit 0)],.block 1 (ab [aa 15 0,aa 16 0,aR 17 16,ax 18 .sub 17 1,((some 19),.op (.slice 1 (.tmp 15) none (some (.tmp 18)))),aa 0 19])]
def nH:SF:=⟨ae [ab [cp 2 1],bJ 0 kJ,ab [aa 20 0,aa 2 20],.ret],
 [.tmp 2],21⟩
theorem rK:aE Tryz.prog 290 []=some nH:=by kernel_rfl
def lP:SF:=⟨ae [ab [cp 2 1,aN 3 0],ab [aa 4 0,aJ 5 290 [4],aa 0 5],ae [ab [aa 6 0,aR 7 6,ax 8 .gtr 7 32],bc 8 (ae [ab [cp 2 1,aN 3 2],.ret])],ab [aa 9 0,aa 2 9,aN 3 0],.ret],
 [.tmp 2,.tmp 3],10⟩
theorem qw:aE Tryz.prog 273 []=some lP:=by kernel_rfl
def nh:SF:=⟨ae [ab [((some 4),.op (.cF (.val (.val (.int .u64 0)))))],ae [ab [aa 5 1,aa 6 0,aR 7 6,aV 8 .geq 5 7],bc 8 (ae [ab [((some 4),.op (.cF (.val (.val (.int .u64 0)))))],.ret])],ab [aa 9 0,aa 10 1,aW 11 1 9 10,ak 12 11,((some 13),.op (.conv .u64 (.tmp 12))),aa 4 13],.ret],
 [.tmp 4],14⟩
theorem q5:aE Tryz.prog 272 []=some nh:=by kernel_rfl
def lA:SC :=
 ae [ae [ab [aa 18 8,ax 19 .lss 18 33],bH 19 (.exit 0)],.block 1 (ae [ab [aa 22 0,aa 23 8,aJ 24 272 [22,23],aa 25 1,aa 26 8,aJ 27 272 [25,26],aV 28 .add 24 27,aa 29 7,aV 30 .add 28 29,aa 9 30],ab [aa 31 6,aa 32 9,((some 33),.op (.arith .rem (.tmp 32) (.val (.val (.int .u64 4294967296))))),((some 34),.op (.conv .u32 (.tmp 33))),((some 35),.op (.bM 1 1 [(.val (.int .u32 0))] [(0,(.tmp 34))])),pk 36 1 4 31 35,aa 6 36],ab [aa 37 9,((some 38),.op (.arith .quo (.tmp 37) (.val (.val (.int .u64 4294967296))))),aa 7 38]]),ab [aa 20 8,ax 21 .add 20 1,aa 8 21]]
def nZ:SF:=⟨ae [ab [cp 4 1,aN 5 0],ae [.region false [⟨none,[aa 10 0,aJ 11 271 [10],bS 12 11,aa 13 12]⟩,⟨(some (13,false)),[aa 14 1,aJ 15 271 [14],bS 16 15]⟩,⟨none,[bq 17 13 16]⟩],bc 17 (ae [ab [cp 4 1,aN 5 1],.ret])],ab [cp 6 1],ab [((some 7),.op (.cF (.val (.val (.int .u64 0)))))],ae [ab [aN 8 0],bJ 0 lA],ab [aa 39 6,aJ 40 273 [39],cP 41 0 40,cP 42 1 40,aa 4 41,aa 5 42],.ret],
 [.tmp 4,.tmp 5],43⟩
theorem si:aE Tryz.prog 240 []=some nZ:=by kernel_rfl
def lJ:SC :=
 ae [ae [ab [aa 26 7,aa 27 9,aV 28 .add 26 27,ax 29 .lss 28 64],bH 29 (.exit 2)],.block 3 (ae [.region true [⟨none,[aa 32 6,aa 33 7,aa 34 9,aV 35 .add 33 34,aW 36 1 32 35,ak 37 36,((some 38),.op (.conv .u64 (.tmp 37))),aa 39 0,aa 40 7,aW 41 1 39 40,ak 42 41,((some 43),.op (.conv .u64 (.tmp 42))),aa 44 1,aa 45 9,aJ 46 272 [44,45],aV 47 .mul 43 46,aV 48 .add 38 47,aa 49 8,aV 50 .add 48 49,aa 10 50]⟩],ab [aa 51 6,aa 52 7,aa 53 9,aV 54 .add 52 53,aa 55 10,((some 56),.op (.arith .rem (.tmp 55) (.val (.val (.int .u64 4294967296))))),((some 57),.op (.conv .u32 (.tmp 56))),aW 58 1 51 54,cb 1 58 57],ab [aa 59 10,((some 60),.op (.arith .quo (.tmp 59) (.val (.val (.int .u64 4294967296))))),aa 8 60]]),ab [aa 30 9,ax 31 .add 30 1,aa 9 31]]
def lR:SC :=
 ae [ae [ab [aa 20 7,aa 21 0,aR 22 21,aV 23 .lss 20 22],bH 23 (.exit 0)],.block 1 (ae [ab [((some 8),.op (.cF (.val (.val (.int .u64 0)))))],ab [aN 9 0],bJ 2 lJ]),ab [aa 24 7,ax 25 .add 24 1,aa 7 25]]
def nS:SF:=⟨ae [ab [cp 4 1,aN 5 0],ae [.region false [⟨none,[aa 11 0,aJ 12 271 [11],bS 13 12,aa 14 13]⟩,⟨(some (14,false)),[aa 15 1,aJ 16 271 [15],bS 17 16]⟩,⟨none,[bq 18 14 17]⟩],bc 18 (ae [ab [cp 4 1,aN 5 1],.ret])],ab [((some 19),.op (.make 1 4 [(.val (.int .u32 0))] (.val (.val (.int .i64 64))) (.val (.val (.int .i64 64))))),aa 6 19],ae [ab [aN 7 0],bJ 0 lR],ab [aa 61 6,aJ 62 273 [61],cP 63 0 62,cP 64 1 62,aa 4 63,aa 5 64],.ret],
 [.tmp 4,.tmp 5],65⟩
theorem sR:aE Tryz.prog 241 []=some nS:=by kernel_rfl
abbrev my (l:List Nat):List (List V):=l.map λ(x:Nat)=>[V.val (.int .u32 (x:Int))]
abbrev dW (l:List Nat):V:=.aX (my l)
abbrev gl (n:Nat):V:=.val (.int .u64 (n:Int))
theorem fG (l:List Nat):Tree (dW l):=iB _ _ λx _ v a=>by simp at a;subst a;exact .val _
theorem kQ {x:Int} (h1:0<=x) (c:x < 18446744073709551616):IntKind.wrap .u64 x=x:=by
 unfold IntKind.wrap
 have a:(2:Int) ^ IntKind.u64.bits=18446744073709551616:=by rfl
 have b:IntKind.u64.signed=false:=by rfl
 simp only[a,b,P2,OT]
 simp
 omega
theorem El {l:List Nat} {i:Nat} (h:i < l.length):(my l).getD i []=[V.val (.int .u32 (l.getD i 0:Nat))]:=by
 simp[OH,h]
theorem oy {n:Nat} (e:n < LB ^ 32):ar Tryz.prog 271 [dW (cB n)] (gb true):=by
 refine ar.val (by intro v f;simp at f;subst f;exact fG _) λH=>?_
 have a:n < LB ^ 70:=O0 e (PF (by decide) (by decide))
 have hlen:=(ka a 32).2 e
 have b:=yo 70 n a
 rw[show dt 70 n=cB n from rfl] at b
 generalize cB n=l at hlen b
 refine an.of mixed qK ?_
 simp(disch:=omega)only[↓wr,seval,wq,lN]
 rw[PO (show (l.length:Int)<=32 by omega)]
 simp(disch:=omega)only[↓wr,seval,wq]
 apply ag.eq<;>intro h
 .simp(disch:=omega)only[↓wr,seval,wq]
 .have g:=getD_some (d:=0) (show l.length - 1 < l.length by omega)
  have i:((l.length:Int) - 1).toNat=l.length - 1:=by omega
  have c:=b _ (by rw[List.getLast?_eq_getElem?];exact g)
  generalize l.getD (l.length - 1) 0=x at *
  simp(disch:=omega)only[↓wr,seval,wq,ON,g,OU,i]
  simpa using c
theorem uo (l:List Nat) (c:aG l) (e:∀ x∈l,x < LB) (i:Nat):ar Tryz.prog 272 [dW l,gi i] (gl (l.getD i 0)):=by
 refine ar.val (by
  intro v a;simp at a
  rcases a with rfl | rfl
  .exact fG _
  .exact .val _) λH=>?_
 unfold aG at c
 refine an.of mixed q5 ?_
 simp(disch:=omega)only[↓wr,seval,wq,nh]
 apply ag.dec<;>intro f
 .simp(disch:=omega)only[↓wr,seval,wq]
  rw[OH,O5 (by omega)];rfl
 .have b:=getD_some (d:=0) (show i < l.length by omega)
  have hm:l.getD i 0 < 4294967296:=e _ (O2 b)
  generalize l.getD i 0=x at *
  have hw:IntKind.wrap .u64 (x:Int)=x:=kQ (by omega) (by omega)
  simp(disch:=omega)only[↓wr,seval,wq,ON,b,OU,hw]
theorem HQ (l:List Nat) (n:aG l) {H:View} {m:Nat} (o:H m=.arr 1 (my l)):an Tryz.prog 290 [.sl m 0 l.length 1] H λr H'=>H'=H/\∃ k,k<=l.length/\r=.sl m 0 k 1/\(∀ j,k<=j->j < l.length->l.getD j 0=0)/\(k=0∨l.getD (k - 1) 0≠0):=by
 unfold aG at n
 refine an.of mixed rK ?_
 simp(disch:=omega)only[↓wr,seval,wq,nH]
 refine aP.up l.length (λi T H'=>∃ q,q+i=l.length/\H'=H/\T 0=.sl m 0 q 1/\∀ j,q<=j->j < l.length->l.getD j 0=0) ⟨l.length,rfl,rfl,rfl,λj h1 f=>by omega⟩ ?_
 rintro i k T u hk ⟨q,hi,rfl,t0,d⟩
 simp(disch:=omega)only[↓wr,seval,wq,kJ,t0]
 apply ag.dec<;>intro p
 .have a:=El (l:=l) (i:=q - 1) (by omega)
  have s:((q:Int) - 1).toNat=q - 1:=by omega
  have g:l.getD (q - 1) 0=0->∀ j,q - 1<=j->j < l.length->l.getD j 0=0:=λh j h1 f=>by
   by_cases e:j=q - 1
   .subst e;exact h
   .exact d j (by omega) f
  obtain⟨x,b⟩:∃ x,l.getD (q - 1) 0=x:=⟨_,rfl⟩
  rw[b] at a g
  simp(disch:=omega)only[↓wr,seval,wq,t0,o,s,a]
  refine⟨by omega,by omega,?_⟩
  apply ag.eq<;>intro t
  .have c:=Dv (id:=m) (off:=0) (k:=q) (m:=q - 1) (by omega)
   rw[show ((q - 1:Nat):Int)=(q:Int) - 1 by omega] at c
   simp(disch:=omega)only[↓wr,seval,wq,t0,c]
   exact ay hk (by omega) ⟨q - 1,by omega,rfl,rfl,g (by omega)⟩
  .simp(disch:=omega)only[↓wr,seval,wq,t0]
   exact⟨q,by omega,rfl,d,.inr (by rw[b];omega)⟩
 .simp(disch:=omega)only[↓wr,seval,wq,t0]
  exact⟨q,by omega,rfl,d,.inl (by omega)⟩
def s6 (v:Nat):V:=if v < dO then .aU [dW (cB v),gi 0] else .aU [dW [],gi 2]
def Ms (H:View) (l:List Nat) (v:Nat) (m:Nat) (r:V):Prop:=(v < dO->∃ k,k<=l.length/\r=.aU [.sl m 0 k 1,gi 0]/\l.take k=cB v)/\(¬ v < dO->r=.aU [.emp 1,gi 2])
theorem x5 (l:List Nat) (i:l.length < 70) (b:∀ x∈l,x < LB) {H:View} {m:Nat} (d:H m=.arr 1 (my l)):an Tryz.prog 273 [.sl m 0 l.length 1] H λr H'=>H'=H/\Ms H l (bC l) m r:=by
 refine an.of mixed qw ?_
 simp(disch:=omega)only[↓wr,seval,wq,lP]
 refine aj.dd ((HQ l (by unfold aG;omega) d).mono ?_)
 rintro r H1 ⟨rfl,k,hk,rfl,e,f⟩
 have c:=LV b hk (by omega) e f
 have a:bC l < LB ^ 70:=O0 (D2 l b) (PF (by decide) (by omega))
 have hlen:=ka a 32
 rw[<-c,<-rl,PM,Pv hk] at hlen
 simp(disch:=omega)only[↓wr,seval,wq]
 apply ag.dec<;>intro g
 .simp(disch:=omega)only[↓wr,seval,wq]
  exact⟨λh=>absurd (hlen.2 h) (by omega),λ_=>rfl⟩
 .simp(disch:=omega)only[↓wr,seval,wq]
  exact⟨λh=>⟨k,hk,rfl,c⟩,λh=>absurd (hlen.1 (by omega)) h⟩
theorem Ia {f:FuncId} {vs:List V} {v:Nat} (b:∀ x∈vs,Tree x) (h:an Tryz.prog f vs (λ_=>.dead) λr H'=>∃ m l,H' m=.arr 1 (my l)/\Ms H' l v m r):cJ Tryz.prog f vs (s6 v):=by
 refine cJ.of b (h.cut ?_)
 rintro r H' ⟨m,l,c,h1,d⟩
 unfold s6
 by_cases a:v < dO
 .obtain⟨k,hk,rfl,e⟩:=h1 a
  refine .inr ⟨m,1,my (l.take k),my (l.drop k),?_,?_⟩
  .rw[c,<-PW,List.take_append_drop]
  .intro g i
   rw[OM a,<-e]
   refine y4 (de.yV (f:=λx:Nat=>.int .u32 (x:Int)) (.inr ⟨m,by rw[OX,PM,Pv hk],by rw[i];simp[View.set]⟩))
 .rw[d a]
  refine .inl λg _=>?_
  rw[OK a]
  exact y4 (.emp _)
theorem A0 (s:Nat):Int.tmod (s:Int) 4294967296=((s % LB:Nat):Int):=rfl
theorem A2 (s:Nat):Int.tdiv (s:Int) 4294967296=((s / LB:Nat):Int):=rfl
theorem A4 (s:Nat):IntKind.wrap .u32 ((s % LB:Nat):Int)=((s % LB:Nat):Int):=F4 (by omega) (by have:s % LB < 4294967296:=QC _ (by decide);omega)
theorem K2 {s:Nat} (h:s < 18446744073709551616):IntKind.wrap .u64 ((s / LB:Nat):Int)=((s / LB:Nat):Int):=by
 have:=Nat.div_le_self s LB
 generalize s / LB=q at *
 exact kQ (by omega) (by omega)
theorem mK {n:Nat} (h:n < LB ^ 32):(cB n).length<=32:=(ka (O0 h (PF (by decide) (by decide))) 32).2 h
theorem JO {a b:Nat} (j:a < dO) (l:b < dO):cJ Tryz.prog 240 [dW (cB a),dW (cB b)] (s6 (a+b)):=by
 rw[rl] at j l
 refine Ia (by
  intro v n;simp at n
  rcases n with rfl | rfl <;> exact fG _) ?_
 have B:a < LB ^ 70:=O0 j (PF (by decide) (by decide))
 have C:b < LB ^ 70:=O0 l (PF (by decide) (by decide))
 have D:=oy j
 have E:=oy l
 have p:=λi=>uo (cB a) (by unfold aG;have:=mK j;omega) (sQ a) i
 have t:=λi=>uo (cB b) (by unfold aG;have:=mK l;omega) (sQ b) i
 simp only[pr B] at p
 simp only[pr C] at t
 generalize dW (cB a)=J at *
 generalize dW (cB b)=K at *
 refine an.of mixed si ?_
 simp(disch:=omega)only[↓wr,seval,wq,nZ]
 refine aj.pure D ?_
 simp(disch:=omega)only[↓wr,seval,wq]
 refine aj.pure E ?_
 simp(disch:=omega)only[↓wr,seval,wq]
 refine aP.up 33 (λi T H'=>∃ out u c,bf H' [(u,1,my out)]/\out.length=i/\(∀ x∈out,x < LB)/\c<=1/\bC out+LB ^ i * c=a % LB ^ i+b % LB ^ i/\T 0=J/\T 1=K/\T 6=u/\T 7=gl c/\T 8=gi i) ⟨[],.emp 1,0,bf.nil.emp,rfl,by simp,by omega,by simp[bC,Nat.mod_one],rfl,rfl,rfl,rfl,rfl⟩ ?_
 rintro i k T H1 hk ⟨out,u,c,o,d,w,U,n,t0,t1,t6,t7,t8⟩
 simp(disch:=omega)only[↓wr,seval,wq,lA,t0,t1,t6,t7,t8]
 apply ag.dec<;>intro F
 .have G:=J5 d n
  have W:a / LB ^ i % LB < 4294967296:=QC _ (by decide)
  have X:b / LB ^ i % LB < 4294967296:=QC _ (by decide)
  have h1:=p i
  have H:=t i
  generalize a / LB ^ i % LB=x at *
  generalize b / LB ^ i % LB=y at *
  simp(disch:=omega)only[↓wr,seval,wq,t0,t1,t6,t7,t8]
  refine aj.pure h1 ?_
  simp(disch:=omega)only[↓wr,seval,wq,t0,t1,t6,t7,t8]
  refine aj.pure H ?_
  have L:IntKind.wrap .u64 ((x:Int)+y)=((x+y:Nat):Int):=by rw[kQ (by omega) (by omega)];omega
  have M:IntKind.wrap .u64 (((x+y:Nat):Int)+c)=((x+y+c:Nat):Int):=by rw[kQ (by omega) (by omega)];omega
  simp(disch:=omega)only[↓wr,seval,wq,t0,t1,t6,t7,t8,L,M,A0,A2,A4]
  intro q N
  have O:=o.fresh (o:=.arr 1 [[V.val (.int .u32 (((x+y+c) % LB:Nat):Int))]]) N
  simp(disch:=omega)only[↓wr,seval,wq,t0,t1,t6,t7,t8,cL,A0,A2,A4]
  refine eZ O (by simp[aD]) (by unfold aB;simp;omega) (by unfold aB;simp;omega) ?_
  intro P Y Q _
  have R:=K2 (s:=x+y+c) (by omega)
  simp(disch:=omega)only[↓wr,seval,wq,t0,t1,t6,t7,t8,A0,A2,A4,R]
  refine ay hk (by omega) ⟨out ++ [(x+y+c) % LB],P,(x+y+c) / LB,?_,by simp[d],?_,?_,G,t0,t1,rfl,rfl,rfl⟩
  .rw[show my (out ++ [(x+y+c) % LB])=my out ++ [[V.val (.int .u32 (((x+y+c) % LB:Nat):Int))]] from PW];exact Q
  .intro z g
   rcases Pg.1 g with g | g
   .exact w z g
   .simp at g;subst g;exact QC _ (by decide)
  .have:x+y+c < 2 * LB:=by
    have:LB=4294967296:=rfl
    omega
   exact Nat.lt_succ_iff.1 (Nat.div_lt_of_lt_mul (by rw[Px];exact this))
 .obtain rfl:i=33:=by omega
  have S:aO H1 u 1 (my out):=o.head
  obtain⟨m,rfl,I⟩:=S.sl (by simp;omega)
  rw[OX,d] at t6
  have he:=Lq j l n
  have A:=x5 out (by omega) w I
  rw[d,he] at A
  simp(disch:=omega)only[↓wr,seval,wq,t6]
  refine aj.dd (A.mono ?_)
  rintro r Z ⟨rfl,h1,H⟩
  by_cases f:a+b < dO
  .obtain⟨k,hk,rfl,e⟩:=h1 f
   simp(disch:=omega)only[↓wr,seval,wq]
   exact⟨m,out,I,λ_=>⟨k,hk,rfl,e⟩,λh=>absurd f h⟩
  .obtain rfl:=H f
   simp(disch:=omega)only[↓wr,seval,wq]
   exact⟨m,out,I,λh=>absurd h f,λ_=>rfl⟩
theorem JG {a b:Nat} (s:a < dO) (t:b < dO):cJ Tryz.prog 241 [dW (cB a),dW (cB b)] (s6 (a * b)):=by
 rw[rl] at s t
 refine Ia (by
  intro v o;simp at o
  rcases o with rfl | rfl <;> exact fG _) ?_
 have u:a < LB ^ 70:=O0 s (PF (by decide) (by decide))
 have G:b < LB ^ 70:=O0 t (PF (by decide) (by decide))
 have H:=oy s
 have I:=oy t
 have A:=λi=>uo (cB b) (by unfold aG;have:=mK t;omega) (sQ b) i
 simp only[pr G] at A
 have J:=pr u
 have Y:=mK s
 have K:=ka u
 generalize Z:cB a=p at *
 generalize dW (cB b)=U at *
 refine an.of mixed sR ?_
 simp(disch:=omega)only[↓wr,seval,wq,nS]
 refine aj.pure H ?_
 simp(disch:=omega)only[↓wr,seval,wq]
 refine aj.pure I ?_
 simp(disch:=omega)only[↓wr,seval,wq]
 refine⟨by unfold aB;omega,λm=>?_⟩
 refine aP.up p.length (λi T H'=>∃ out,H' m=.arr 1 (my out)/\out.length=64/\(∀ x∈out,x < LB)/\bC out=a % LB ^ i * b/\T 0=dW p/\T 1=U/\T 6=.sl m 0 64 1/\T 7=gi i) ⟨List.replicate 64 0,by simp[View.set],by simp,by simp,by rw[sJ];simp[Nat.mod_one],rfl,rfl,rfl,rfl⟩ ?_
 rintro i k T H1 hk ⟨out,f,B,C,o,t0,t1,t6,t7⟩
 simp(disch:=omega)only[↓wr,seval,wq,lR,t0,t1,t6,t7]
 apply ag.dec<;>intro hc
 .simp(disch:=omega)only[↓wr,seval,wq,t0,t1,t6,t7]
  have V:=getD_some (d:=0) (show i < p.length by omega)
  rw[J] at V
  have a1:a / LB ^ i % LB < 4294967296:=QC _ (by decide)
  refine aP.up (64 - i) (λq T H'=>∃ cur c,H' m=.arr 1 (my cur)/\cur.length=64/\(∀ x∈cur,x < LB)/\c < LB/\bC cur+LB ^ (i+q) * c=bC out+a / LB ^ i % LB * (b % LB ^ q) * LB ^ i/\T 0=dW p/\T 1=U/\T 6=.sl m 0 64 1/\T 7=gi i/\T 8=gl c/\T 9=gi q) ⟨out,0,f,B,C,by decide,by simp[Nat.mod_one],t0,t1,t6,t7,rfl,rfl⟩ ?_
  clear f t0 t1 t6 t7
  rintro q kk T H2 L ⟨cur,c,f,D,j,M,n,t0,t1,t6,t7,t8,t9⟩
  simp(disch:=omega)only[↓wr,seval,wq,lJ,t0,t1,t6,t7,t8,t9]
  apply ag.dec<;>intro N
  .have O:=λ(h:i+q < cur.length)=>Kq h n
   have hy:b / LB ^ q % LB < 4294967296:=QC _ (by decide)
   have hz:cur.getD (i+q) 0 < 4294967296:=j _ (O2 (getD_some (by omega)))
   have P:=A q
   have W:=El (l:=cur) (i:=i+q) (by omega)
   generalize a / LB ^ i % LB=x at *
   generalize b / LB ^ q % LB=y at *
   generalize cur.getD (i+q) 0=z at *
   have E:((i:Int)+q).toNat=i+q:=by omega
   have ez:IntKind.wrap .u64 (z:Int)=z:=kQ (by omega) (by omega)
   have ex:IntKind.wrap .u64 (x:Int)=x:=kQ (by omega) (by omega)
   have a6:c < 4294967296:=M
   have a7:x * y<=4294967295 * 4294967295:=Nat.mul_le_mul (by omega) (by omega)
   have Q:IntKind.wrap .u64 ((x:Int) * y)=((x * y:Nat):Int):=by
    rw[<-Int.natCast_mul]
    generalize x * y=X at *
    exact kQ (by omega) (by omega)
   have es:IntKind.wrap .u64 ((z:Int)+((x * y:Nat):Int))=((z+x * y:Nat):Int):=by
    generalize x * y=X at *
    rw[kQ (by omega) (by omega)];omega
   have R:IntKind.wrap .u64 (((z+x * y:Nat):Int)+c)=((z+x * y+c:Nat):Int):=by
    generalize x * y=X at *
    rw[kQ (by omega) (by omega)];omega
   have e4:IntKind.wrap .u64 (((z+x * y+c) / LB:Nat):Int)=(((z+x * y+c) / LB:Nat):Int):=K2 (by omega)
   simp(disch:=omega)only[↓wr,seval,wq,t0,t1,t6,t7,t8,t9,f,E,W,ON,V,OU,ez,ex]
   refine⟨by omega,by omega,?_⟩
   refine aj.pure P ?_
   simp(disch:=omega)only[↓wr,seval,wq,t0,t1,t6,t7,t8,t9,f,E,Q,es,R,A0,A2,A4,e4]
   refine⟨by omega,by omega,ay L (by omega) ⟨cur.set (i+q) ((z+x * y+c) % LB),(z+x * y+c) / LB,?_,by simp[D],?_,?_,O (by omega),t0,t1,t6,t7,rfl,rfl⟩⟩
   .simp only[View.set,if_true]
    congr 1
    rw[W]
    exact List.map_set.symm
   .intro w hw
    rcases List.mem_or_eq_of_mem_set hw with hw | rfl
    .exact j w hw
    .exact QC _ (by decide)
   .refine Nat.div_lt_of_lt_mul ?_
    have:LB * LB=18446744073709551616:=rfl
    omega
  .simp(disch:=omega)only[↓wr,seval,wq,t0,t1,t6,t7]
   obtain rfl:q=64 - i:=by omega
   rw[show i+(64 - i)=64 by omega] at n
   have he:=LR (i:=i) (by omega) s t o n
   exact ay hk (by omega) ⟨cur,f,D,j,he,t0,t1,t6,rfl⟩
 .obtain rfl:i=p.length:=by omega
  have S:a % LB ^ p.length=a:=PX ((K _).1 (OR _))
  rw[S] at o
  have F:=x5 out (by omega) C f
  rw[B,o] at F
  simp(disch:=omega)only[↓wr,seval,wq,t6]
  refine aj.dd (F.mono ?_)
  rintro r H2 ⟨rfl,h1,h2⟩
  by_cases g:a * b < dO
  .obtain⟨k,hk,rfl,e⟩:=h1 g
   simp(disch:=omega)only[↓wr,seval,wq]
   exact⟨m,out,f,λ_=>⟨k,hk,rfl,e⟩,λh=>absurd g h⟩
  .obtain rfl:=h2 g
   simp(disch:=omega)only[↓wr,seval,wq]
   exact⟨m,out,f,λh=>absurd h g,λ_=>rfl⟩
end Gv
