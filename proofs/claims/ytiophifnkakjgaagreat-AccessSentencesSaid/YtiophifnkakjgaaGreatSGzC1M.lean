/-
  Part 13 of the proof: what the machine does and what the functions answer.
  Conditions: those that each lemma names.
-/
import Derived.Test.YtiophifnkakjgaaGreatSGzC1L
set_option linter.unusedSimpArgs false
set_option linter.unusedVariables false
set_option maxRecDepth 100000
set_option maxHeartbeats 20000000
namespace Gv
open Go Go.Proofs
def fP:List fp->Int->Int
 | [],_=>-1
 | e :: l,s=>if e.sym=s then e.to else fP l s
def fV (a:List aJ):Int->List Int->Int × Bool
 | at_,[]=>(at_,true)
 | at_,s :: l=>if 0<=fP (a.getD at_.toNat bC).bO s/\fP (a.getD at_.toNat bC).bO s < a.length then fV a (fP (a.getD at_.toNat bC).bO s) l else (0,false)
def ef (a:List aJ) (at_:Int) (l:List Int):Int × Bool:=if at_ < 0∨(a.length:Int)<=at_ then (0,false) else fV a at_ l
theorem AD {a:List aJ} : ∀ (l:List Int) (at_:Int),0<=at_->at_ < a.length->0<=(fV a at_ l).1/\(fV a at_ l).1 < a.length
 | [],at_,h1,b=>⟨h1,b⟩
 | s :: l,at_,h1,b=>by
  rw[fV]
  split
  .rename_i h;exact AD l _ h.1 h.2
  .exact⟨by simp,by simp only;omega⟩
abbrev Sets:=List (List BV)
def ey (ss:Sets) (i k:Nat):BV:=(ss.getD i []).getD k 0
def jx (l:List ay) (row:List BV) (x:ay) (s:BV):List BV:=List.zipWith (λy v=>if y=x then v ||| s else v) l row
def fR (ls:List (List ay)) (ss:Sets) (st:Nat) (x:ay) (s:BV):Sets:=ss.set st (jx (ls.getD st []) (ss.getD st []) x s)
def k6 (ls:List (List ay)) (ss:Sets):Prop:=ss.length=ls.length/\∀ i:Nat,(ss.getD i []).length=(ls.getD i []).length
def k9 (a b:Sets):Prop:=a.length=b.length/\(∀ i:Nat,(a.getD i []).length=(b.getD i []).length)/\∀ i k,qt (ey a i k) (ey b i k)
theorem k9.refl {a:Sets} : k9 a a:=⟨rfl,λ_=>rfl,λ_ _ _ h=>h⟩
theorem k9.trans {a b c:Sets} (h:k9 a b) (k:k9 b c):k9 a c:=⟨h.1.trans k.1,λi=>(h.2.1 i).trans (k.2.1 i),λi j t d=>k.2.2 i j t (h.2.2 i j t d)⟩
theorem k9.tz {a b:Sets} (h:k9 a b) (k:k9 b a):a=b:=by
 refine List.ext_getElem h.1 λi h1 f=>?_
 have d:a.getD i []=a[i]:=by simp[aaA,h1]
 have e:b.getD i []=b[i]:=by simp[aaA,f]
 refine List.ext_getElem (by rw[<-d,<-e];exact h.2.1 i) λj g l=>?_
 have g1:ey a i j=a[i][j]:=by rw[ey,d];simp[aaA,g]
 have g2:ey b i j=b[i][j]:=by rw[ey,e];simp[aaA,l]
 rw[<-g1,<-g2]
 refine AU λt _=>?_
 have p:=h.2.2 i j t
 have q:=k.2.2 i j t
 cases c:(ey a i j).getLsbD t with
 | true=>rw[p c]
 | false =>
  cases m:(ey b i j).getLsbD t with
  | false=>rfl
  | true=>rw[q m] at c;exact absurd c (by simp)
theorem lf {l:List ay} {row:List BV} {x:ay} {s:BV} (h:row.length=l.length):(jx l row x s).length=row.length:=by
 simp[jx,h]
theorem Mg {l:List ay} {row:List BV} {x:ay} {s:BV} (h:row.length=l.length) (k:Nat):(jx l row x s).getD k 0=if l[k]?=some x then row.getD k 0 ||| s else row.getD k 0:=by
 rw[jx,aaA,List.getElem?_zipWith,aaA]
 by_cases hk:k < l.length
 .have h1:l[k]?=some l[k]:=aaB hk
  have a:row[k]?=some (row[k]'(by omega)):=aaB (by omega)
  rw[h1,a]
  simp
 .rw[aa6 (by omega),aa6 (by omega)]
  simp
theorem jQ {α:Type} (l:List α) (i j:Nat) (x d:α):(l.set i x).getD j d=if i=j/\i < l.length then x else l.getD j d:=by
 simp only[aaA,abW]
 by_cases e:i=j
 .subst e
  by_cases h:i < l.length
  .simp[h]
  .simp[h]
 .simp[e]
theorem wa {ls:List (List ay)} {ss:Sets} (a:k6 ls ss) {st:Nat} (b:st < ls.length) (x:ay) (s:BV) (i k:Nat) :
  ey (fR ls ss st x s) i k=if i=st/\(ls.getD st [])[k]?=some x then ey ss i k ||| s else ey ss i k:=by
 have c:=a.1
 unfold ey fR
 rw[jQ]
 by_cases e:st=i
 .subst e
  rw[aaF ⟨rfl,by omega⟩,Mg (a.2 st)]
  simp
 .rw[aaD (λh=>e h.1),aaD (λh=>e h.1.symm)]
theorem je {ls:List (List ay)} {ss:Sets} (a:k6 ls ss) {st:Nat} (_:st < ls.length) (x:ay) (s:BV):k6 ls (fR ls ss st x s):=by
 refine⟨by rw[fR,acn];exact a.1,λi=>?_⟩
 have b:=a.1
 unfold fR
 rw[jQ]
 split
 .rename_i h
  obtain⟨rfl,_⟩:=h
  rw[lf (a.2 st)];exact a.2 st
 .exact a.2 i
theorem k6.eq {ls:List (List ay)} {a b:Sets} (h:k6 ls a) (k:k6 ls b):a.length=b.length/\∀ i:Nat,(a.getD i []).length=(b.getD i []).length:=⟨h.1.trans k.1.symm,λi=>(h.2 i).trans (k.2 i).symm⟩
theorem mA {ls:List (List ay)} {ss:Sets} (b:k6 ls ss) {st:Nat} (a:st < ls.length) (x:ay) (s:BV):k9 ss (fR ls ss st x s):=by
 refine⟨(b.eq (je b a x s)).1,(b.eq (je b a x s)).2,λi k t c=>?_⟩
 rw[wa b a]
 split
 .rw[abm,c];rfl
 .exact c
theorem HJ {ls:List (List ay)} {ss:Sets} (b:k6 ls ss) {st:Nat} (a:st < ls.length) {x:ay} {s:BV} (h:fR ls ss st x s=ss) {k:Nat} (hk:(ls.getD st [])[k]?=some x):qt s (ey ss st k):=by
 have:=wa b a x s st k
 rw[h,aaF ⟨rfl,hk⟩] at this
 intro t c
 rw[this,abm,c,Bool.or_true]
def cP (g:af) (x:ay):List Int:=if 0<=x.au then (aA g x.au).right.drop (x.dot+1).toNat else []
def fH (g:af) (ls:List (List ay)) (st:Nat) (s:Int) (b:BV) (ss:Sets) (n:Nat):Sets:=(List.range n).foldl (λss (k:Nat)=>if (aA g k).left = -1 - s then fR ls ss st ⟨k,0⟩ b else ss) ss
def jr (g:af) (null:List Bool) (a:List aJ) (ls:List (List ay)) (i k:Nat) (ss:Sets):Sets :=
 if (aW g ((ls.getD i []).getD k ⟨0,0⟩)).2=false∨ey ss i k=0 then ss
 else if 0<=(aW g ((ls.getD i []).getD k ⟨0,0⟩)).1 then fR ls ss (ef a i [(aW g ((ls.getD i []).getD k ⟨0,0⟩)).1]).1.toNat ⟨((ls.getD i []).getD k ⟨0,0⟩).au,((ls.getD i []).getD k ⟨0,0⟩).dot+1⟩ (ey ss i k)
 else fH g ls i (aW g ((ls.getD i []).getD k ⟨0,0⟩)).1 (ej null (cU g null) (ey ss i k) (cP g ((ls.getD i []).getD k ⟨0,0⟩)))
  (fR ls ss (ef a i [(aW g ((ls.getD i []).getD k ⟨0,0⟩)).1]).1.toNat ⟨((ls.getD i []).getD k ⟨0,0⟩).au,((ls.getD i []).getD k ⟨0,0⟩).dot+1⟩ (ey ss i k)) g.rules.length
inductive kG (g:af) (null:List Bool) (a:List aJ) (ls:List (List ay)):Nat->ay->Nat->Prop
 | start:(⟨-1,0⟩:ay)∈ls.getD 0 []->kG g null a ls 0 ⟨-1,0⟩ g.ai.length
 | move {i:Nat} {x:ay} {t:Nat} {s:Int} : kG g null a ls i x t->aW g x=(s,true)->(⟨x.au,x.dot+1⟩:ay)∈ls.getD (ef a i [s]).1.toNat []->kG g null a ls (ef a i [s]).1.toNat ⟨x.au,x.dot+1⟩ t
 | begin {i:Nat} {x:ay} {t u:Nat} {s:Int} {k:Nat} : kG g null a ls i x t->aW g x=(s,true)->s < 0->k < g.rules.length->(aA g k).left = -1 - s->(⟨k,0⟩:ay)∈ls.getD i [] ->
  (ej null (cU g null) (BitVec.twoPow 32 t) (cP g x)).getLsbD u=true->kG g null a ls i ⟨k,0⟩ u
theorem kG.mem {g:af} {null:List Bool} {a:List aJ} {ls:List (List ay)} {i:Nat} {x:ay} {t:Nat} (h:kG g null a ls i x t):x∈ls.getD i []:=by
 cases h <;> assumption
def mh (g:af) (null:List Bool) (a:List aJ) (ls:List (List ay)) (ss:Sets):Prop:=∀ i k x t,(ls.getD i [])[k]?=some x->(ey ss i k).getLsbD t=true->kG g null a ls i x t
section
variable {g:af} {null:List Bool} {a:List aJ} {ls:List (List ay)}
theorem vf (b:ls.length=a.length) (h1:1<=a.length) (i:Nat) (l:List Int):(ef a i l).1.toNat < ls.length:=by
 unfold ef
 split
 .simp;omega
 .rename_i h
  have:=AD (a:=a) l (i:Int) (by omega) (by omega)
  omega
theorem xq {ss:Sets} (f:k6 ls ss) (e:mh g null a ls ss) {st:Nat} (d:st < ls.length) {x:ay} {s:BV} (h:∀ t,s.getLsbD t=true->x∈ls.getD st []->kG g null a ls st x t):mh g null a ls (fR ls ss st x s):=by
 intro i k y t c b
 rw[wa f d] at b
 split at b
 .rename_i j
  obtain⟨rfl,hk⟩:=j
  rw[hk] at c
  simp only[aaC] at c
  subst c
  rw[abm,abC] at b
  rcases b with b | b
  .exact e i k x t hk b
  .exact h t b (aaI hk)
 .exact e i k y t c b
theorem kZ {st:Nat} (a:st < ls.length) (s:Int) (b:BV):∀ (n:Nat) (ss:Sets),k6 ls ss->k6 ls (fH g ls st s b ss n)/\k9 ss (fH g ls st s b ss n)
 | 0,ss,c=>⟨c,.refl⟩
 | n+1,ss,c=>by
  obtain⟨h1,d⟩:=kZ a s b n ss c
  unfold fH at h1 d ⊢
  rw[abH,abR]
  simp only[abc,acd]
  split
  .exact⟨je h1 a _ _,d.trans (mA h1 a _ _)⟩
  .exact⟨h1,d⟩
theorem Aw {st:Nat} (c:st < ls.length) (s:Int) (b:BV) (f:∀ (k:Nat) t,(aA g k).left = -1 - s->k < g.rules.length->b.getLsbD t=true->(⟨k,0⟩:ay)∈ls.getD st []->kG g null a ls st ⟨k,0⟩ t):∀ (n:Nat) (ss:Sets),n<=g.rules.length->k6 ls ss->mh g null a ls ss->mh g null a ls (fH g ls st s b ss n)
 | 0,ss,_,_,d=>d
 | n+1,ss,l,h,d=>by
  have h1:=(kZ (g:=g) c s b n ss h).1
  have e:=Aw c s b f n ss (by omega) h d
  unfold fH at h1 e ⊢
  rw[abH,abR]
  simp only[abc,acd]
  split
  .rename_i i
   exact xq h1 e c λt j hm=>f n t i (by omega) j hm
  .exact e
theorem C9 {st:Nat} (c:st < ls.length) (s:Int) (b:BV):∀ (n:Nat) (ss:Sets),k6 ls ss->fH g ls st s b ss n=ss->∀ k:Nat,k < n->(aA g k).left = -1 - s->fR ls ss st ⟨k,0⟩ b=ss
 | 0,ss,_,_,k,hk,_=>by omega
 | n+1,ss,f,he,k,hk,h=>by
  obtain⟨h1,i⟩:=kZ (g:=g) c s b n ss f
  have e:fH g ls st s b ss (n+1)=if (aA g n).left = -1 - s then fR ls (fH g ls st s b ss n) st ⟨n,0⟩ b else fH g ls st s b ss n:=by
   unfold fH
   rw[abH,abR]
   rfl
  have a:fH g ls st s b ss n=ss:=by
   refine k9.tz ?_ i
   rw[e] at he
   split at he
   .exact Eq.mp (abN (k9 _) he) (mA h1 c _ _)
   .rw[he];exact .refl
  by_cases d:k=n
  .subst d
   rw[e,aaF h,a] at he
   exact he
  .exact C9 c s b n ss f a k (by omega) h
theorem JA (c:ls.length=a.length) (h1:1<=a.length) {i:Nat} (hi:i < ls.length) (k:Nat) {ss:Sets} (b:k6 ls ss):k6 ls (jr g null a ls i k ss)/\k9 ss (jr g null a ls i k ss):=by
 unfold jr
 split
 .exact⟨b,.refl⟩
 .have hw:=vf c h1 i [(aW g ((ls.getD i []).getD k ⟨0,0⟩)).1]
  split
  .exact⟨je b hw _ _,mA b hw _ _⟩
  .have:=kZ (g:=g) hi (aW g ((ls.getD i []).getD k ⟨0,0⟩)).1 (ej null (cU g null) (ey ss i k) (cP g ((ls.getD i []).getD k ⟨0,0⟩))) g.rules.length _ (je b hw ⟨((ls.getD i []).getD k ⟨0,0⟩).au,((ls.getD i []).getD k ⟨0,0⟩).dot+1⟩ (ey ss i k))
   exact⟨this.1,(mA b hw _ _).trans this.2⟩
theorem Md (c:ls.length=a.length) (h1:1<=a.length) {i k:Nat} (hi:i < ls.length) (hk:k < (ls.getD i []).length) {ss:Sets} (e:k6 ls ss) (b:mh g null a ls ss):mh g null a ls (jr g null a ls i k ss):=by
 have d:(ls.getD i [])[k]?=some ((ls.getD i []).getD k ⟨0,0⟩):=getD_some hk
 unfold jr
 generalize (ls.getD i []).getD k ⟨0,0⟩=x at d ⊢
 split
 .exact b
 .rename_i f
  have j:aW g x=((aW g x).1,true):=by
   cases h:(aW g x).2 with
   | false=>exact absurd (.inl h) f
   | true=>rw[<-h]
  have m:ey ss i k≠0:=λh=>f (.inr h)
  have hw:=vf c h1 i [(aW g x).1]
  have d1:=xq e b hw (x:=⟨x.au,x.dot+1⟩) (s:=ey ss i k) λt n hm=>kG.move (b i k x t d n) j hm
  split
  .exact d1
  .rename_i l
   refine Aw hi _ _ (λq u o p hu hm=>?_) _ _ (aaM _) (je e hw _ _) d1
   obtain⟨t,r,v⟩:=XI _ _ hu m
   exact kG.begin (b i k x t d r) j (by omega) p o hm v
theorem R9 (l:ls.length=a.length) (h1:1<=a.length) {ss:Sets} (b:k6 ls ss) (z:∀ k,(ls.getD 0 [])[k]?=some ⟨-1,0⟩->(ey ss 0 k).getLsbD g.ai.length=true)
  (w:∀ i k,i < ls.length->k < (ls.getD i []).length->jr g null a ls i k ss=ss) {i:Nat} {x:ay} {t:Nat} (h:kG g null a ls i x t):∀ k,(ls.getD i [])[k]?=some x->(ey ss i k).getLsbD t=true:=by
 have key:∀ {i:Nat} {x:ay} {t:Nat},kG g null a ls i x t->(∀ k,(ls.getD i [])[k]?=some x->(ey ss i k).getLsbD t=true)->∃ k,(ls.getD i [])[k]?=some x/\i < ls.length/\k < (ls.getD i []).length/\(ey ss i k).getLsbD t=true:=by
  intro i x t h m
  obtain⟨k,hk,e⟩:=abv.1 h.mem
  have f:(ls.getD i [])[k]?=some x:=by rw[aaB hk,e]
  refine⟨k,f,?_,hk,m k f⟩
  rcases aa2 i ls.length with h | h
  .exact h
  .rw[aaA,aa6 h] at hk;simp at hk
 induction h with
 | start=>exact z
 | @move i x t s n o hm m =>
  intro j p
  obtain⟨k,f,hi,hk,c⟩:=key n m
  have hp:=w i k hi hk
  have d:(ls.getD i []).getD k ⟨0,0⟩=x:=by rw[aaA,f];rfl
  have r:¬ ey ss i k=0:=λe=>by rw[e] at c;simp at c
  unfold jr at hp
  rw[d,o,aaD (λh=>h.elim (by simp) r)] at hp
  simp only at hp
  have hw:=vf l h1 i [s]
  have v:fR ls ss (ef a i [s]).1.toNat ⟨x.au,x.dot+1⟩ (ey ss i k)=ss:=by
   split at hp
   .exact hp
   .exact k9.tz (Eq.mp (abN (k9 _) hp) (kZ hi _ _ _ _ (je b hw _ _)).2) (mA b hw _ _)
  exact HJ b hw v p t c
 | @begin i x t u s q n o y A B hm hu m =>
  intro j p
  obtain⟨k,f,hi,hk,c⟩:=key n m
  have hp:=w i k hi hk
  have d:(ls.getD i []).getD k ⟨0,0⟩=x:=by rw[aaA,f];rfl
  have r:¬ ey ss i k=0:=λe=>by rw[e] at c;simp at c
  unfold jr at hp
  rw[d,o,aaD (λh=>h.elim (by simp) r)] at hp
  simp only at hp
  have hw:=vf l h1 i [s]
  rw[aaD (by omega)] at hp
  have v:fR ls ss (ef a i [s]).1.toNat ⟨x.au,x.dot+1⟩ (ey ss i k)=ss:=by
   exact k9.tz (Eq.mp (abN (k9 _) hp) (kZ hi _ _ _ _ (je b hw _ _)).2) (mA b hw _ _)
  rw[v] at hp
  have:=C9 hi _ _ _ _ b hp q A B
  exact HJ b hi this p u (LL (OG c) _ _ hu)
def zI (l:List BV):Nat:=(l.map BitVec.toNat).sum
def BQ (ss:Sets):Nat:=(ss.map zI).sum
theorem Ob:∀ {a b:List BV},a.length=b.length->(∀ k:Nat,qt (a.getD k 0) (b.getD k 0))->zI a<=zI b/\(a≠b->zI a < zI b)
 | [],[],_,_=>⟨aaM _,λh=>absurd rfl h⟩
 | [],_ :: _,h,_=>by simp at h
 | _ :: _,[],h,_=>by simp at h
 | x :: a,y :: b,h,f=>by
  obtain⟨h1,g⟩:=Ob (a:=a) (b:=b) (by simpa using h) λk=>by simpa using f (k+1)
  have i:qt x y:=by simpa using f 0
  have e:=F6.2 i
  have j:x.toNat<=y.toNat:=by have:=Zd y x;rw[BitVec.or_comm] at e;rw[e] at this;exact this
  simp only[zI,aa9,List.sum_cons] at h1 g ⊢
  refine⟨by omega,λd=>?_⟩
  by_cases c:x=y
  .subst c
   have:=g λe=>d (by rw[e])
   omega
  .have:x.toNat≠y.toNat:=λe=>c (BitVec.eq_of_toNat_eq e)
   omega
theorem Nh:∀ {a b:Sets},k9 a b->BQ a<=BQ b/\(a≠b->BQ a < BQ b)
 | [],[],_=>⟨aaM _,λh=>absurd rfl h⟩
 | [],_ :: _,h=>by have:=h.1;simp at this
 | _ :: _,[],h=>by have:=h.1;simp at this
 | x :: a,y :: b,h=>by
  obtain⟨h1,f⟩:=Nh (a:=a) (b:=b) ⟨by simpa using h.1,λi=>by simpa using h.2.1 (i+1),λi k=>by simpa [ey] using h.2.2 (i+1) k⟩
  obtain⟨j,g⟩:=Ob (a:=x) (b:=y) (by simpa using h.2.1 0) λk=>by simpa [ey] using h.2.2 0 k
  simp only[BQ,aa9,List.sum_cons] at h1 f ⊢
  refine⟨by omega,λd=>?_⟩
  by_cases c:x=y
  .subst c
   have:=f λe=>d (by rw[e])
   omega
  .have:=g c
   omega
theorem J0:∀ l:List BV,zI l<=l.length * 4294967296
 | []=>by simp[zI]
 | x :: l=>by
  have:=J0 l
  have a:=x.isLt
  simp only[zI,aa9,List.sum_cons,aaN] at this ⊢
  omega
def Vz (ls:List (List ay)):Nat:=(ls.map λl=>l.length * 4294967296).sum
theorem KL:∀ {ls:List (List ay)} {ss:Sets},k6 ls ss->BQ ss<=Vz ls
 | [],[],_=>aaM _
 | [],_ :: _,h=>by have:=h.1;simp at this
 | _ :: _,[],h=>by have:=h.1;simp at this
 | l :: ls,x :: ss,h=>by
  have h1:=KL (ls:=ls) (ss:=ss) ⟨by simpa using h.1,λi=>by simpa using h.2 (i+1)⟩
  have a:=J0 x
  have b:x.length=l.length:=by simpa using h.2 0
  simp only[BQ,Vz,aa9,List.sum_cons] at h1 ⊢
  rw[b] at a
  omega
end
theorem mN {g:af} (a:g.cY) : -100<=g.start/\g.start<=100:=by
 have:=a.kj;have:=a.start;have:=a.al;omega
theorem Dc (g:af) (b:g.cY) (x:ay) (a:cw g x):az Tryz.prog 134 [.agg (ag g),.agg (bu x)] (.bf [gi (aW g x).1,gb (aW g x).2]) :=
 QY g (mN b) x a.1 a.2 (by have:=dS b a.1;omega)
theorem ta {l:List ay} {i:Nat} {y:ay} (h:l[i]?=some y):(aV l).getD i []=[gi y.au,gi y.dot]:=by simp[aV,aaA,h,bu]
theorem bG (l:List ay):(aV l).length=l.length:=by simp[aV]
theorem ud {g:af} {x:ay} {s:Int} {b:Bool} (d:g.cY) (f:cw g x) (h:aW g x=(s,b)) : -1000<=s/\s<=1000:=by
 have a:∀ s∈aM g x.au,-1000<=s/\s<=1000:=by
  intro s c
  unfold aM at c
  split at c
  .simp at c;subst c;have:=mN d;omega
  .have i:g.rules[x.au.toNat]?=some (aA g x.au):=by unfold aA;exact getD_some (by have:=f.1;omega)
   have h1:=d.sym _ (aaI i) s c
   have:=d.ai;have:=d.al
   unfold dL at h1
   split at h1 <;> simp at h1 <;> omega
 unfold aW at h
 split at h
 .simp at h;omega
 .rename_i j
  simp only[aaG] at h
  have e:x.dot.toNat < (aM g x.au).length:=by have:=f.2;omega
  rw[<-h.1]
  exact a _ (aaI (getD_some e))
def na:SC :=
 ae [ae [ab [aa 12 6,aa 13 1,aN 14 13,aQ 15 .lss 12 14],bX 15 (.exit 0)],.block 1 (ab [aa 18 5,aa 19 1,aa 20 6,aO 21 2 19 20,aZ 22 2 21,bk 23 133 [18,22],aa 5 23]),ab [aa 16 6,aF 17 .add 16 1,aa 6 17]]
def jw:SC :=
 ae [ae [.region false [⟨none,[aa 41 9,aa 42 41]⟩,⟨(some (42,true)),[aa 43 8,aF 44 .lss 43 0]⟩,⟨none,[eO 45 42 44,aa 46 45]⟩,⟨(some (46,true)),[aa 47 11,ao 48 2 2,ak 49 48,aN 50 49,aQ 51 .lss 47 50]⟩,⟨none,[eO 52 46 51]⟩],bX 52 (.exit 4)],.block 5 (ae [ab [ao 55 2 2,ak 56 55,aa 57 11,aO 58 3 56 57,ao 59 0 58,ak 60 59,aa 61 8,((some 62),.op (.arith .sub (.val (.val (.int .i64 (-1)))) (.tmp 61))),aQ 63 .eql 60 62],bb 63 (ab [aa 64 5,aa 65 11,((some 66),.op (.build [(.val (.int .i64 0)),(.val (.int .i64 0))] [(0,1,(.tmp 65))])),bk 67 133 [64,66],aa 5 67])]),ab [aa 53 11,aF 54 .add 53 1,aa 11 54]]
def np:SC :=
 ae [ae [ab [aa 24 7,aa 25 5,aN 26 25,aQ 27 .lss 24 26],bX 27 (.exit 2)],.block 3 (ae [ab [aZ 31 4 2,aa 32 5,aa 33 7,aO 34 2 32 33,aZ 35 2 34,bk 36 134 [31,35],aa 30 36,dr 37 0 30,dr 38 1 30,aa 8 37,aa 9 38],ab [aa 39 5,aN 40 39,aa 10 40],ae [ab [aR 11 0],bZ 4 jw],ab [aa 68 5,aN 69 68,aa 70 10,aQ 71 .gtr 69 70],bb 71 (ab [aR 7 (-1)])]),ab [aa 28 7,aF 29 .add 28 1,aa 7 29]]
def oD:SF:=⟨ae [ab [cF 2 0,bT 4 1],ab [bT 5 1],ae [ab [aR 6 0],bZ 0 na],ae [ab [aR 7 0],bZ 2 np],ab [aa 72 5,aa 4 72],.ret],
 [.tmp 4],73⟩
theorem uV:aP Tryz.prog 69 [2]=some oD:=by kernel_rfl
def oE:SC :=
 ae [ae [ab [aa 11 8,aa 12 1,aN 13 12,aQ 14 .lss 11 13],bX 14 (.exit 0)],.block 1 (ae [ab [aZ 18 4 3,aa 19 1,aa 20 8,aO 21 2 19 20,aZ 22 2 21,bk 23 134 [18,22],aa 17 23,dr 24 0 17,dr 25 1 17,aa 9 24,aa 10 25],.region false [⟨none,[aa 26 10,aa 27 26]⟩,⟨(some (27,true)),[aa 28 9,aa 29 2,aQ 30 .eql 28 29]⟩,⟨none,[eO 31 27 30]⟩],bb 31 (ab [aa 32 7,aa 33 1,aa 34 8,aO 35 2 33 34,ao 36 0 35,ak 37 36,aa 38 1,aa 39 8,aO 40 2 38 39,ao 41 1 40,ak 42 41,aF 43 .add 42 1,((some 44),.op (.build [(.val (.int .i64 0)),(.val (.int .i64 0))] [(0,1,(.tmp 37)),(1,1,(.tmp 43))])),bk 45 133 [32,44],aa 7 45])]),ab [aa 15 8,aF 16 .add 15 1,aa 8 16]]
def qK:SF:=⟨ae [ab [cF 3 0,bT 6 1],ab [bT 7 1],ae [ab [aR 8 0],bZ 0 oE],ab [aa 46 7,aa 6 46],.ret],
 [.tmp 6],47⟩
theorem wX:aP Tryz.prog 71 [3]=some qK:=by kernel_rfl
def oC:SC :=
 ae [ae [ab [aa 11 5,aa 12 0,aN 13 12,aQ 14 .lss 11 13],bX 14 (.exit 0)],.block 1 (ae [ab [aa 17 0,aa 18 5,aO 19 2 17 18,aZ 20 2 19,aa 21 1,aa 22 5,aO 23 2 21 22,aZ 24 2 23,((some 25),.op (.old (.binOp .neq 120 (.tmp 20) (.tmp 24) 120) 4))],bb 25 (ae [ab [bB 4 false],.ret])]),ab [aa 15 5,aF 16 .add 15 1,aa 5 16]]
def qR:SF:=⟨ae [ab [bB 4 false],ae [ab [aa 6 0,aN 7 6,aa 8 1,aN 9 8,aQ 10 .neq 7 9],bb 10 (ae [ab [bB 4 false],.ret])],ae [ab [aR 5 0],bZ 0 oC],ab [bB 4 true],.ret],
 [.tmp 4],26⟩
theorem xt:aP Tryz.prog 135 []=some qR:=by kernel_rfl
def pY:SF:=⟨ae [ab [cF 2 0,aR 4 0],ae [ab [aa 5 1,ao 6 0 2,ak 7 6,aN 8 7,aQ 9 .lss 5 8],bb 9 (ae [ab [aa 10 1,aa 4 10],.ret])],ab [aa 11 1,ao 12 0 2,ak 13 12,aN 14 13,aQ 15 .sub 11 14,((some 16),.op (.arith .sub (.val (.val (.int .i64 (-1)))) (.tmp 15))),aa 4 16],.ret],
 [.tmp 4],17⟩
theorem vE:aP Tryz.prog 70 [2]=some pY:=by kernel_rfl
def Y5 (g:af) (out:List ay) (x:ay):Prop:=∀ (s:Int) (k:Nat) (R:aX),aW g x=(s,true)->s < 0->g.rules[k]?=some R->R.left = -1 - s->(⟨k,0⟩:ay)∈out
def U2 (g:af) (l:List ay) (H:View) (m:Nat) (T:Env) (H':View):Prop:=∃ (i:Nat) (r:V) (out:List ay),m=(300 - out.length) * 1000+(300 - i)/\i<=out.length/\aT H' r 2 (aV out)/\c8 H H' r/\cz out/\(∀ x∈out,lx g l x)/\(∀ x∈l,x∈out)/\(∀ j x,j < i->out[j]?=some x->Y5 g out x) /\
 T 2=.aL (ag g) 0/\T 5=r/\T 7=gi i
theorem BM (g:af) (J:g.cY) (l:List ay) (hl:∀ x∈l,cw g x) (hn:l.length<=10000) (u:V) (H:View) (ho:aT H u 2 (aV l)):aw Tryz.prog 69 [.agg (ag g),u] H λr H'=>aT H' r 2 (aV (cJ g l))/\c8 H H' r:=by
 refine aw.of mixed uV ?_
 have hlen:cT u=some l.length:=by rw[ho.len];simp[aV]
 have br:=J.rules
 simp(disch:=omega)only[↓wr,seval,wq,oD,ag,encS]
 refine ba.up l.length (λi T H'=>∃ (r:V) (out:List ay),aT H' r 2 (aV out)/\c8 H H' r/\cz out/\(∀ x,x∈out↔x∈l.take i)/\out.length<=287/\T 1=u/\T 2=.aL (ag g) 0/\T 5=r/\T 6=gi i)
  ⟨.emp 1,[],.nil,.emp,.nil,by simp,by simp,rfl,rfl,rfl,rfl⟩ ?_
 rintro i k T H' hk ⟨r,out,D,fr,n,hm,hle,t1,t2,t5,t6⟩
 simp(disch:=omega)only[↓wr,seval,wq,na,t1,t2,t5,t6,hlen]
 apply aj.dec<;>intro hc
 .have N:l[i]?=some (l[i]'(by omega)):=aaB (by omega)
  have W:l.take (i+1)=l.take i ++ [l[i]'(by omega)]:=by rw[aa3,N];rfl
  generalize l[i]'(by omega)=y at N W
  obtain⟨id,hu,t⟩:=ho.sl (by simp[aV];omega)
  have X:H' id=.arr 2 (aV l):=by rw[(fr id (by rw[t];simp)).1,t]
  simp(disch:=omega)only[↓wr,seval,wq,t1,t2,t5,t6,hu,X,ta N]
  refine⟨by first | omega | (simp[aV];omega),by first | omega | (simp[aV];omega),?_⟩
  refine ax.eM ((DJ r out (by omega) y H' D).mono ?_)
  rintro p H2 ⟨O,l2⟩
  simp(disch:=omega)only[↓wr,seval,wq,t1,t2,t5,t6]
  have Y:∀ x,x∈eW out y↔x∈l.take (i+1):=λx=>by
   rw[jG,W,aa1,hm,abL,or_comm]
  have Z:=pN (x:=y) n
  exact aG hk (by omega) ⟨p,eW out y,O,fr.step l2,Z,Y,gR J Z (λx b=>hl x (acB ((Y x).1 b))),t1,t2,rfl,rfl⟩
 rw[aaS (by omega)] at hm
 simp(disch:=omega)only[↓wr,seval,wq,t1,t2,t5,t6]
 refine ba.intro (U2 g l H) ((300 - out.length) * 1000+300)
  ⟨0,r,out,by omega,ab5 _,D,fr,n,λx b=>.base ((hm x).1 b),λx b=>(hm x).2 b,λj x hj=>by omega,t2,t5,rfl⟩ ?_
 clear D fr n hm hle t1 t2 t5 t6 hc hk
 rintro m T1 H1 ⟨i,r,out,rfl,hi,D,fr,n,E,P,an,t2,t5,t7⟩
 have K:∀ x∈out,cw g x:=λx b=>(E x b).has hl
 have hle:=gR J n K
 have a7:cT r=some out.length:=by rw[D.len,bG]
 simp(disch:=omega)only[↓wr,seval,wq,np,t2,t5,t7,a7]
 apply aj.dec<;>intro hc
 .have N:out[i]?=some (out[i]'(by omega)):=aaB (by omega)
  have Q:=K _ (aaL (show i < out.length by omega))
  have aq:=E _ (aaL (show i < out.length by omega))
  generalize out[i]'(by omega)=y at N Q aq
  have h1:=Dc g J y Q
  cases F:aW g y with
  | mk s G =>
  have bs:=ud J Q F
  rw[F] at h1
  obtain⟨id,hu,t⟩:=D.sl (by simp[aV];omega)
  rw[bG] at hu
  simp only[ag,encS,bu] at h1
  simp(disch:=omega)only[↓wr,seval,wq,t2,t5,t7,hu,t,ta N,ag,encS]
  refine⟨by first | omega | (simp[aV];omega),by first | omega | (simp[aV];omega),?_⟩
  refine ax.pure h1 ?_
  simp(disch:=omega)only[↓wr,seval,wq,t2,t5,t7,hu]
  refine ba.up g.rules.length (λk T H'=>∃ (p:V) (a:List ay),aT H' p 2 (aV a)/\c8 H H' p/\cz a/\(∀ x∈a,lx g l x)/\(∀ x∈out,x∈a)/\out.length<=a.length/\(a.length=out.length->a=out) /\
   (∀ (q:Nat) (R:aX),q < k->G=true->s < 0->g.rules[q]?=some R->R.left = -1 - s->(⟨q,0⟩:ay)∈a)/\T 2=.aL (ag g) 0/\T 5=p/\T 7=gi i/\T 8=gi s/\T 9=gb G/\T 10=gi out.length/\T 11=gi k)
   ⟨r,out,D,fr,n,E,λx b=>b,aaM _,λ_=>rfl,λq R hq=>by omega,t2,by rw[<-hu];exact t5,t7,rfl,rfl,rfl,rfl⟩ ?_
  clear D fr t2 t5 t7 t hu
  rintro k j T2 H2 hk ⟨p,a,O,I,c,d,v,S,o,w,t2,t5,t7,t8,t9,t10,t11⟩
  have U:∀ x∈a,cw g x:=λx b=>(d x b).has hl
  have bn:=gR J c U
  have f:cT p=some a.length:=by rw[O.len,bG]
  have more:out.length < a.length->∀ z:Env,z 2=.aL (ag g) 0->z 5=p->z 7=gi 0->∃ k',k' < (300 - out.length) * 1000+(300 - i)/\U2 g l H k' z H2:=λh z e2 e5 e7 =>
   ⟨(300 - a.length) * 1000+300,by omega,0,p,a,by omega,ab5 _,O,I,c,d,λx b=>v x (P x b),λj x hj=>by omega,e2,e5,e7⟩
  have stay:(G=true->s < 0->g.rules.length<=k)->¬ out.length < a.length->∀ z:Env,z 2=.aL (ag g) 0->z 5=p->z 7=gi ((i:Int)+1)->∃ k',k' < (300 - out.length) * 1000+(300 - i)/\U2 g l H k' z H2:=λar h z e2 e5 e7=>by
   have e:=o (by omega)
   subst e
   refine⟨(300 - a.length) * 1000+(300 - (i+1)),by omega,i+1,p,a,rfl,by omega,O,I,c,d,P,λj x hj b=>?_,e2,e5,e7⟩
   rcases aa2 j i with a1 | a1
   .exact an j x a1 b
   .have:j=i:=by omega
    subst this
    rw[N] at b
    simp only[aaC] at b
    subst b
    intro s' q R h1 L A M
    rw[F] at h1
    simp only[aaG] at h1
    obtain⟨rfl,rfl⟩:=h1
    have:=(aaR.1 A).1
    exact w q R (by have:=ar rfl L;omega) rfl L A M
  cases G with
  | false =>
   simp(disch:=omega)only[↓wr,seval,wq,jw,t2,t5,t7,t8,t9,t10,t11,f]
   apply aj.dec<;>intro hg
   .simp(disch:=omega)only[↓wr,seval,wq,t2,t5,t7]
    exact more (by omega) _ t2 t5 rfl
   .simp(disch:=omega)only[↓wr,seval,wq,t2,t5,t7]
    exact stay (λh=>by simp at h) (by omega) _ t2 t5 rfl
  | true =>
   simp(disch:=omega)only[↓wr,seval,wq,jw,t2,t5,t7,t8,t9,t10,t11,f,ag]
   apply aj.dec<;>intro B
   .simp(disch:=omega)only[↓wr,seval,wq,t2,t5,t7,t8,t9,t10,t11,f,ag]
    apply aj.dec<;>intro a8
    .have hR:g.rules[k]?=some (g.rules[k]'(by omega)):=aaB (by omega)
     have hL:=J.left _ (aaL (show k < g.rules.length by omega))
     generalize g.rules[k]'(by omega)=R at hR hL
     simp(disch:=omega)only[↓wr,seval,wq,t2,t5,t7,t8,t9,t10,t11,ag,bg,aaE,hR,aaH]
     apply aj.eq<;>intro he
     .simp(disch:=omega)only[↓wr,seval,wq,t2,t5,t7,t8,t9,t10,t11]
      refine ax.eM ((DJ p a (by omega) ⟨k,0⟩ H2 O).mono ?_)
      rintro r3 H3 ⟨o3,l3⟩
      simp(disch:=omega)only[↓wr,seval,wq,t2,t5,t7,t8,t9,t10,t11]
      have a6:lx g l ⟨k,0⟩:=.step aq F B hR he
      refine aG hk (by omega) ⟨r3,eW a ⟨k,0⟩,o3,I.step l3,pN c,λx b=>?_,λx b=>jG.2 (.inr (v x b)),by have:=Ic a ⟨k,0⟩;omega,λh=>?_,λq R' hq L A M=>?_,t2,rfl,t7,t8,t9,t10,rfl⟩
      .rcases jG.1 b with rfl | b
       .exact a6
       .exact d x b
      .have bd:(⟨k,0⟩:ay)∈a:=abO λbl=>by
        have:=Ev bl;omega
       rw[Fb c bd] at h ⊢
       exact o h
      .rcases aa2 q k with C | C
       .exact jG.2 (.inr (w q R' C rfl L A M))
       .have:q=k:=by omega
        subst this
        exact jG.2 (.inl rfl)
     .simp(disch:=omega)only[↓wr,seval,wq,t2,t5,t7,t8,t9,t10,t11]
      refine aG hk (by omega) ⟨p,a,O,I,c,d,v,S,o,λq R' hq L A M=>?_,t2,t5,t7,t8,t9,t10,rfl⟩
      rcases aa2 q k with C | C
      .exact w q R' C rfl L A M
      .have:q=k:=by omega
       subst this
       rw[hR] at A
       simp only[aaC] at A
       subst A
       exact absurd M he
    .simp(disch:=omega)only[↓wr,seval,wq,t2,t5,t7,t8,t9,t10,t11,f]
     apply aj.dec<;>intro hg
     .simp(disch:=omega)only[↓wr,seval,wq,t2,t5,t7]
      exact more (by omega) _ t2 t5 rfl
     .simp(disch:=omega)only[↓wr,seval,wq,t2,t5,t7]
      exact stay (λ_ _=>by omega) (by omega) _ t2 t5 rfl
   .simp(disch:=omega)only[↓wr,seval,wq,t2,t5,t7,t8,t9,t10,t11,f]
    apply aj.dec<;>intro hg
    .simp(disch:=omega)only[↓wr,seval,wq,t2,t5,t7]
     exact more (by omega) _ t2 t5 rfl
    .simp(disch:=omega)only[↓wr,seval,wq,t2,t5,t7]
     exact stay (λ_ h=>absurd h B) (by omega) _ t2 t5 rfl
 .simp(disch:=omega)only[↓wr,seval,wq,t2,t5,t7]
  have bx:i=out.length:=by omega
  rw[Df J hl n E P (λx b s k R h1 L A M=>by
   obtain⟨j,hj,e⟩:=abv.1 b
   exact an j x (by omega) (by rw[aaB hj,e]) s k R h1 L A M)]
  exact⟨D,fr⟩
theorem OI (g:af) (m:g.cY) (l:List ay) (t:cz l) (v:∀ x∈l,cw g x) (s:Int) (u:V) (H:View) (w:aT H u 2 (aV l)):aw Tryz.prog 71 [.agg (ag g),u,gi s] H λr H'=>aT H' r 2 (aV (bA g l s))/\c8 H H' r:=by
 refine aw.of mixed wX ?_
 have hlen:cT u=some l.length:=by rw[w.len];simp[aV]
 have hle:=gR m t v
 simp(disch:=omega)only[↓wr,seval,wq,qK,ag,encS]
 refine ba.up l.length (λi T H'=>∃ (r:V),aT H' r 2 (aV (bA g (l.take i) s))/\c8 H H' r/\T 1=u/\T 2=gi s/\T 3=.aL (ag g) 0/\T 7=r/\T 8=gi i)
  ⟨.emp 1,.nil,.emp,rfl,rfl,rfl,rfl,rfl⟩ ?_
 rintro i k T H' hk ⟨r,h,fr,t1,t2,t3,t7,t8⟩
 simp(disch:=omega)only[↓wr,seval,wq,oE,t1,t2,t3,t7,t8,hlen]
 apply aj.dec<;>intro B
 .have j:l[i]?=some (l[i]'(by omega)):=aaB (by omega)
  have b:=v _ (aaL (show i < l.length by omega))
  have a:=QB (g:=g) t (show l[i]?=some (l[i]'(by omega)) from j) s
  generalize l[i]'(by omega)=y at j b a
  have h1:=Dc g m y b
  cases c:aW g y with
  | mk q n =>
  rw[c] at h1
  obtain⟨id,hu,f⟩:=w.sl (by simp[aV];omega)
  have d:H' id=.arr 2 (aV l):=by rw[(fr id (by rw[f];simp)).1,f]
  rw[bG] at hu
  have z:=b.2
  have L:=dS m b.1
  have o:=uL (g:=g) (l:=l.take i) (s:=s)
  simp only[abn] at o
  simp only[ag,encS,bu] at h1
  simp(disch:=omega)only[↓wr,seval,wq,t1,t2,t3,t7,t8,hu,d,ta j,ag,encS]
  refine⟨by first | omega | (simp[aV];omega),by first | omega | (simp[aV];omega),?_⟩
  refine ax.pure h1 ?_
  have skip:¬ aW g y=(s,true)->∀ e:Env,e 1=u->e 2=gi s->e 3=.aL (ag g) 0->e 7=r->e 8=gi ((i:Int)+1)->∃ A,A < k/\EY l.length A (λi T H'=>∃ (r:V),aT H' r 2 (aV (bA g (l.take i) s))/\c8 H H' r/\T 1=u/\T 2=gi s/\T 3=.aL (ag g) 0/\T 7=r/\T 8=gi i) e H':=λp e C D E F G=>by
   rw[aaD p] at a
   exact aG hk (by omega) ⟨r,by rw[a];exact h,fr,C,D,E,F,G⟩
  cases n with
  | false =>
   simp(disch:=omega)only[↓wr,seval,wq,t1,t2,t3,t7,t8]
   exact skip (by rw[c];simp) _ t1 t2 t3 t7 rfl
  | true =>
   simp(disch:=omega)only[↓wr,seval,wq,t1,t2,t3,t7,t8]
   apply aj.eq<;>intro he
   .simp(disch:=omega)only[↓wr,seval,wq,t1,t2,t3,t7,t8,hu,d,ta j]
    refine⟨by first | omega | (simp[aV];omega),by first | omega | (simp[aV];omega),?_⟩
    refine⟨by first | omega | (simp[aV];omega),by first | omega | (simp[aV];omega),?_⟩
    refine ax.eM ((DJ r (bA g (l.take i) s) (by omega) ⟨y.au,y.dot+1⟩ H' h).mono ?_)
    rintro I M ⟨J,K⟩
    simp(disch:=omega)only[↓wr,seval,wq,t1,t2,t3,t7,t8]
    rw[aaF (by rw[c,he])] at a
    exact aG hk (by omega) ⟨I,by rw[a];exact J,fr.step K,t1,t2,t3,rfl,rfl⟩
   .simp(disch:=omega)only[↓wr,seval,wq,t1,t2,t3,t7,t8]
    exact skip (by rw[c];simp[he]) _ t1 t2 t3 t7 rfl
 .simp(disch:=omega)only[↓wr,seval,wq,t1,t2,t3,t7,t8]
  rw[aaS (by omega)] at h
  exact⟨h,fr⟩
theorem Fi {g:af} (a:g.cY) {i:Nat} (hi:i < g.ai.length+g.al.length) : -100<=bh g i/\bh g i<=100:=by
 have:=a.ai;have:=a.al
 unfold bh;split <;> omega
theorem Mv (g:af) (a:g.cY) (i:Nat) (hi:i < g.ai.length+g.al.length):az Tryz.prog 70 [.agg (ag g),gi i] (gi (bh g i)):=by
 refine az.val (by
  intro v b;simp at b
  rcases b with rfl | rfl
  .exact bL _ (cd g)
  .exact .val _) λH=>?_
 have:=a.ai;have:=a.al
 refine aw.of mixed vE ?_
 unfold bh
 simp(disch:=omega)only[↓wr,seval,wq,pY,ag,encS]
 apply aj.dec<;>intro h
 .simp(disch:=omega)only[↓wr,seval,wq]
  rw[aaF (by omega)]
 .simp(disch:=omega)only[↓wr,seval,wq,ag]
  rw[aaD (by omega)]
theorem Co (l:List ay):Tree (.aU (aV l)):=ew _ _ λx _ v a=>by simp[bu] at a;rcases a with rfl | rfl <;> exact .val _
theorem PS (a b:List ay) (g:aK a) (j:aK b):az Tryz.prog 135 [.aU (aV a),.aU (aV b)] (gb (a == b)):=by
 unfold aK at g j
 refine az.val (by
  intro v f;simp at f
  rcases f with rfl | rfl <;> exact Co _) λH=>?_
 refine aw.of mixed xt ?_
 simp(disch:=omega)only[↓wr,seval,wq,qR,aV]
 apply aj.ne<;>intro h
 .simp(disch:=omega)only[↓wr,seval,wq]
  have:(a == b)=false:=by simp;rintro rfl;exact h rfl
  rw[this]
 .simp(disch:=omega)only[↓wr,seval,wq]
  refine ba.up a.length (λi T H'=>a.take i=b.take i/\T 0=.aU (aV a)/\T 1=.aU (aV b)/\T 5=gi i) ⟨rfl,rfl,rfl,rfl⟩ ?_
  rintro i k T H' hk ⟨he,t0,t1,t5⟩
  simp(disch:=omega)only[↓wr,seval,wq,oC,t0,t1,t5,aV]
  apply aj.dec<;>intro l
  .have d:a[i]?=some (a[i]'(by omega)):=aaB (by omega)
   have c:b[i]?=some (b[i]'(by omega)):=aaB (by omega)
   generalize a[i]'(by omega)=x at d
   generalize b[i]'(by omega)=y at c
   simp(disch:=omega)only[↓wr,seval,wq,t0,t1,t5,aV,aaE,d,c,aaH,bu]
   refine jd (xs:=#[.int .i64 x.au,.int .i64 x.dot]) (ys:=#[.int .i64 y.au,.int .i64 y.dot]) Tryz.underlying120 (by kernel_rfl) (by kernel_rfl) ?_ ?_ (oZ x y) (.inr ⟨rfl,rfl⟩) ?_
   .rfl
   .rfl
   rw[xP]
   simp(disch:=omega)only[↓wr,seval,wq,t0,t1,t5]
   apply aj.dec<;>intro e
   .simp(disch:=omega)only[↓wr,seval,wq,t0,t1,t5]
    exact aG hk (by omega) ⟨by rw[aa3,aa3,he,d,c,e],t0,t1,rfl⟩
   .simp(disch:=omega)only[↓wr,seval,wq]
    have:(a == b)=false:=by
     simp;rintro rfl
     rw[d] at c;simp at c;exact e c
    rw[this]
  .simp(disch:=omega)only[↓wr,seval,wq,t0,t1,t5]
   rw[aaS (by omega),aaS (by omega)] at he
   rw[he,beq_self_eq_true]
def Gp (p:Nat->Bool):Nat->BV
 | 0=>0
 | n+1=>if p n=true then Gp p n ||| BitVec.twoPow 32 n else Gp p n
theorem Dj (p:Nat->Bool):∀ (n i:Nat),n<=32->((Gp p n).getLsbD i=true↔i < n/\p i=true)
 | 0,i,_=>by simp[Gp]
 | n+1,i,h=>by
  have c:=Dj p n i (by omega)
  rw[Gp]
  split
  .rename_i hp
   rw[abm,abC,c,ab0]
   simp only[aaK,aaP]
   constructor
   .rintro (⟨h1,a⟩ | ⟨h1,rfl⟩)
    .exact⟨by omega,a⟩
    .exact⟨by omega,hp⟩
   .rintro⟨h1,a⟩
    rcases aa2 i n with b | b
    .exact .inl ⟨b,a⟩
    .exact .inr ⟨by omega,by omega⟩
  .rename_i hp
   rw[c]
   constructor
   .rintro⟨h1,a⟩;exact⟨by omega,a⟩
   .rintro⟨h1,a⟩
    refine⟨?_,a⟩
    rcases aa2 i n with b | b
    .exact b
    .have:i=n:=by omega
     subst this;exact absurd a hp
structure dz where
 au:Int
 set:BV
 deriving DecidableEq
structure sk where
 state:Int
 term:Int
 kind:Int
 au:Int
 other:Int
 deriving DecidableEq
noncomputable def aS (g:af):List aJ × Int:=if isRed g=true then fN g 302 0 eu else ([],1)
noncomputable def aY (g:af) (a:List aJ):List (List ay):=a.map λs=>cJ g s.bc
open Classical in
noncomputable def rG (g:af) (a:List aJ) (i:Nat) (x:ay):BV:=Gp (λt=>decide (kG g (av g false) a (aY g a) i x t)) 32
noncomputable def fG (g:af) (a:List aJ) (i:Nat):List dz:=((aY g a).getD i []).filterMap λx=>if (aW g x).2=false/\0<=x.au then some ⟨x.au,rG g a i x⟩ else none
noncomputable def fy (g:af) (a:List aJ):List (List dz):=(List.range a.length).map (fG g a)
noncomputable def yJ (g:af):List (List dz) × Int:=if (aS g).2=0 then (fy g (aS g).1,0) else ([],(aS g).2)
def hasB (s:BV) (n:Int):Bool:=decide (s &&& jq n≠0)
def fA (l:List dz) (n:Int):List Int:=(l.filter λx=>hasB x.set n).map dz.au
def gO (g:af) (t:Int):Int:=match g.ai[t.toNat]? with
 | some x=>x.level
 | none=>0
def yA (g:af) (t:Int):Int:=match g.ai[t.toNat]? with
 | some x=>x.assoc
 | none=>0
def mK (g:af) (au term:Int):Int :=
 if bp g=false∨au < 0∨(g.rules.length:Int)<=au∨term < 0∨(g.ai.length:Int) < term then 0
 else if term=g.ai.length∨(aA g au).prec < 0∨gO g (aA g au).prec=0∨gO g term=0 then 4
 else if gO g term < gO g (aA g au).prec∨gO g (aA g au).prec=gO g term/\yA g term=1 then 1
 else if gO g (aA g au).prec < gO g term∨yA g term=2 then 2
 else 3
def iS:List fp->Int->Option Cell
 | [],_=>none
 | e :: l,s=>if e.sym=s then some ⟨1,e.to⟩ else iS l s
def iG (g:af) (s:aJ) (term:Int):Cell:=match iS s.bO term with
 | some c=>c
 | none=>if term=g.ai.length/\(⟨-1,1⟩:ay)∈s.bc then ⟨3,0⟩ else ⟨0,0⟩
def kR (state term r0:Int) (l:List Int):List sk:=l.map λr=>⟨state,term,5,r,r0⟩
def fo (g:af) (s:aJ) (l:List dz) (state term:Int):Cell × List sk:=match fA l term with
 | []=>(iG g s term,[])
 | r :: rs =>
  if (iG g s term).kind=0 then (⟨2,r⟩,kR state term r rs)
  else (if mK g r term=1 then ⟨2,r⟩ else if mK g r term=3 then ⟨0,0⟩ else iG g s term,kR state term r rs ++ [⟨state,term,mK g r term,r,-1⟩])
def iU (g:af) (s:aJ) (l:List dz) (state:Int) (n:Nat):List Cell:=(List.range n).map λ(k:Nat)=>(fo g s l state k).1
def wT (g:af) (s:aJ) (l:List dz) (state:Int) (n:Nat):List sk:=(List.range n).flatMap λ(k:Nat)=>(fo g s l state k).2
def pI (a:List aJ) (i:Int) (k:Int):Int:=if (ef a i [-1 - k]).2=true then (ef a i [-1 - k]).1 else -1
def Ca (g:af) (a:List aJ) (i:Int):List Int:=(List.range g.al.length).map λ(k:Nat)=>pI a i k
def iM (g:af) (a:List aJ) (l:List (List dz)) (n:Nat):iz:=⟨(List.range n).map λ(i:Nat)=>iU g (a.getD i bC) (l.getD i []) i (g.ai.length+1),(List.range n).map λ(i:Nat)=>Ca g a i⟩
def j0 (g:af) (a:List aJ) (l:List (List dz)) (n:Nat):List sk:=(List.range n).flatMap λ(i:Nat)=>wT g (a.getD i bC) (l.getD i []) i (g.ai.length+1)
noncomputable def yx (g:af):iz × List sk × Int:=if (aS g).2=0 then (iM g (aS g).1 (yJ g).1 (aS g).1.length,j0 g (aS g).1 (yJ g).1 (aS g).1.length,0) else (⟨[],[]⟩,[],(aS g).2)
structure en (g:af) (at_ i:Nat) (out:List aJ):Prop where
 bc:∀ s∈out,cz s.bc/\s.bc≠[]/\∀ x∈s.bc,cw g x
 bO:∀ j s,out[j]?=some s->s.bO.length<=40/\(j=at_->s.bO.length<=i)/\(at_ < j->s.bO=[])
 to:∀ s∈out,∀ e∈s.bO,0<=e.to/\e.to < out.length
 sym:∀ s∈out,∀ e∈s.bO,-1000<=e.sym/\e.sym<=1000
theorem mem_modify {α:Type} {l:List α} {i:Nat} {f:α->α} {y:α} (h:y∈l.modify i f):y∈l∨∃ x,l[i]?=some x/\y=f x:=by
 obtain⟨j,a,e⟩:=abv.1 h
 simp only[List.length_modify] at a
 rw[List.getElem_modify] at e
 split at e
 .rename_i b
  subst b
  exact .inr ⟨l[i],aaB a,e.symm⟩
 .exact .inl (e ▸ aaL a)
theorem QJ (g:af) (l:List ay) (at_:Nat) (out:List aJ) (i:Nat):out.length<=(dw g l at_ out i).length/\(dw g l at_ out i).length<=out.length+1:=by
 unfold dw
 split
 .omega
 .split
  .simp
  .simp
theorem en.put {g:af} {at_ i:Nat} {out:List aJ} (h:en g at_ i out) (hi:i < 40) {s:Int} (c : -1000<=s/\s<=1000) {to:Int} (d:0<=to/\to < out.length):en g at_ (i+1) (out.modify at_ λx=>(⟨x.bc,x.bO ++ [⟨s,to⟩]⟩:aJ)):=by
 refine⟨λy a=>?_,λj y a=>?_,λy a e he=>?_,λy a e he=>?_⟩
 rotate_right
 .rcases mem_modify a with a | ⟨x,b,rfl⟩
  .exact h.sym y a e he
  .rcases aa1.1 he with he | he
   .exact h.sym x (aaI b) e he
   .simp at he;subst he;exact c
 .rcases mem_modify a with a | ⟨x,b,rfl⟩
  .exact h.bc y a
  .exact h.bc x (aaI b)
 .rw[List.getElem?_modify] at a
  cases b:out[j]? with
  | none=>rw[b] at a;simp at a
  | some x =>
   rw[b] at a
   have h1:=h.bO j x b
   by_cases e:at_=j
   .subst e
    simp at a
    subst a
    have:=h1.2.1 rfl
    refine⟨by simp;omega,λ_=>by simp;omega,λh=>by omega⟩
   .simp[e] at a
    subst a
    exact⟨h1.1,λh=>absurd h.symm e,h1.2.2⟩
 .rw[List.length_modify]
  rcases mem_modify a with a | ⟨x,b,rfl⟩
  .exact h.to y a e he
  .rcases aa1.1 he with he | he
   .exact h.to x (aaI b) e he
   .simp at he;subst he;exact d
theorem en.up {g:af} {at_ i:Nat} {out:List aJ} (h:en g at_ i out):en g at_ (i+1) out :=
 ⟨h.bc,λj s a=>by have:=h.bO j s a;exact⟨this.1,λe=>by have:=this.2.1 e;omega,this.2.2⟩,h.to,h.sym⟩
theorem en.add {g:af} {at_ i:Nat} {out:List aJ} (h:en g at_ i out) {k:List ay} (hk:cz k/\k≠[]/\∀ x∈k,cw g x):en g at_ i (out ++ [⟨k,[]⟩]):=by
 refine⟨λy a=>?_,λj y a=>?_,λy a e he=>?_,λy a e he=>?_⟩
 rotate_right
 .rcases aa1.1 a with a | a
  .exact h.sym y a e he
  .simp at a;subst a;simp at he
 .rcases aa1.1 a with a | a
  .exact h.bc y a
  .simp at a;subst a;exact hk
 .rcases aa2 j out.length with b | b
  .rw[abb b] at a;exact h.bO j y a
  .rw[abu b] at a
   cases c:j - out.length with
   | zero=>rw[c] at a;simp at a;subst a;exact⟨by simp,λ_=>by simp,λ_=>rfl⟩
   | succ q=>rw[c] at a;simp at a
 .rcases aa1.1 a with a | a
  .have:=h.to y a e he;simp;omega
  .simp at a;subst a;simp at he
theorem en.step {g:af} {l:List ay} (c:cz l) (d:∀ x∈l,cw g x) {at_ i:Nat} {out:List aJ} (h:en g at_ i out) (hi:i < 40):en g at_ (i+1) (dw g l at_ out i):=by
 unfold dw
 split
 .exact h.up
 .rename_i a
  have b : -1000<=bh g i/\bh g i<=1000:=by unfold bh;split <;> omega
  split
  .exact(h.add ⟨Ip _ c,a,Jv d⟩).put hi b (by simp;omega)
  .have:=zg out (bA g l (bh g i))
   exact h.put hi b ⟨by omega,this⟩
theorem en.next {g:af} {at_ i:Nat} {out:List aJ} (h:en g at_ i out):en g (at_+1) 0 out :=
 ⟨h.bc,λj s a=>by
  have:=h.bO j s a
  exact⟨this.1,λe=>by have:=this.2.2 (by omega);simp[this],λe=>this.2.2 (by omega)⟩,h.to,h.sym⟩
theorem en.row {g:af} {l:List ay} (a:cz l) (b:∀ x∈l,cw g x) {at_:Nat} {out:List aJ} (h:en g at_ 0 out):∀ n:Nat,n<=40->en g at_ n ((List.range n).foldl (dw g l at_) out)/\out.length<=((List.range n).foldl (dw g l at_) out).length/\((List.range n).foldl (dw g l at_) out).length<=out.length+n
 | 0,_=>⟨h,aaM _,aaM _⟩
 | n+1,c=>by
  obtain⟨h1,d,e⟩:=en.row a b h n (by omega)
  rw[abH,abR]
  simp only[abc,acd]
  have:=QJ g l at_ ((List.range n).foldl (dw g l at_) out) n
  exact⟨h1.step a b (by omega),by omega,by omega⟩
theorem ma {g:af} : en g 0 0 eu:=by
 refine⟨λs a=>?_,λj s a=>?_,λs a e he=>?_,λs a e he=>?_⟩
 rotate_right
 .simp[eu] at a;subst a;simp at he
 .simp[eu] at a;subst a
  refine⟨by simp[cz],by simp,λx b=>?_⟩
  simp at b;subst b
  exact⟨⟨by simp,by simp only;omega⟩,by simp,by simp[aM]⟩
 .have:=aaI a
  simp[eu] at this;subst this;simp
 .simp[eu] at a;subst a;simp at he
theorem en.nB {g:af} (a:g.cY) {at_ i:Nat} {out:List aJ} (h:en g at_ i out) {j:Nat} (b:j < out.length):cz (cJ g (out.getD j bC).bc)/\∀ x∈cJ g (out.getD j bC).bc,cw g x:=by
 have hm:=aaI (getD_some (d:=bC) b)
 exact⟨kQ _ _,λx c=>((dc a (h.bc _ hm).2.2).1 c).has (h.bc _ hm).2.2⟩
structure tQ (g:af) (a:List aJ):Prop where
 bc:∀ s∈a,cz s.bc/\s.bc≠[]/\∀ x∈s.bc,cw g x
 bO:∀ s∈a,s.bO.length<=40
 to:∀ s∈a,∀ e∈s.bO,0<=e.to/\e.to < a.length
 sym:∀ s∈a,∀ e∈s.bO,-1000<=e.sym/\e.sym<=1000
theorem en.ok {g:af} {at_ i:Nat} {out:List aJ} (h:en g at_ i out):tQ g out :=
 ⟨h.bc,λs a=>by obtain⟨j,b,e⟩:=abv.1 a;exact(h.bO j s (by rw[aaB b,e])).1,h.to,h.sym⟩
theorem KJ {g:af} (b:g.cY):∀ (f at_:Nat) (out:List aJ),en g at_ 0 out->1<=out.length->out.length<=300->(fN g f at_ out).2=0->tQ g (fN g f at_ out).1/\1<=(fN g f at_ out).1.length/\(fN g f at_ out).1.length<=300
 | 0,_,out,h,h1,c,_=>⟨h.ok,h1,c⟩
 | f+1,at_,out,h,h1,c,a=>by
  rw[fN] at a ⊢
  split
  .rename_i d
   rw[aaF d] at a
   have hr:=en.row (h.nB b d).1 (h.nB b d).2 h (g.ai.length+g.al.length) (by have:=b.ai;have:=b.al;omega)
   rw[show (List.range (g.ai.length+g.al.length)).foldl (dw g (cJ g (out.getD at_ bC).bc) at_) out=xg g at_ out (g.ai.length+g.al.length) from rfl] at hr
   split
   .rename_i e;rw[aaF e] at a;simp at a
   .rename_i e
    rw[aaD e] at a
    exact KJ b f (at_+1) _ hr.1.next (by omega) (by omega) a
  .exact⟨h.ok,h1,c⟩
theorem Kq {g:af} (a:g.cY) (h:(aS g).2=0):tQ g (aS g).1/\1<=(aS g).1.length/\(aS g).1.length<=300:=by
 unfold aS at h ⊢
 split
 .rename_i hr
  rw[aaF hr] at h
  exact KJ a 302 0 eu ma (by simp[eu]) (by simp[eu]) h
 .rename_i hr
  rw[aaD hr] at h
  simp at h
def jL (l:List fp):List (List V):=l.map kc
def fI (s:aJ):List V:=[.aU (aV s.bc),.aU (jL s.bO)]
def bI (a:List aJ):V:=.aU (a.map fI)
theorem Xq (l:List fp):Tree (.aU (jL l)):=ew _ _ λx _ v a=>by simp[kc] at a;rcases a with rfl | rfl <;> exact .val _
theorem zN (s:aJ):∀ v∈fI s,Tree v:=by
 intro v a;simp[fI] at a
 rcases a with rfl | rfl
 .exact Co _
 .exact Xq _
theorem lj (a:List aJ):Tree (bI a):=ew _ _ λx _=>zN x
abbrev qU:=V × V × aJ
def fE (A:List qU):List (List V):=A.map λx=>[x.1,x.2.1]
def nq (A:List qU):List dH:=A.flatMap λx=>[(x.1,2,aV x.2.2.bc),(x.2.1,2,jL x.2.2.bO)]
theorem dC (A:List qU):(fE A).length=A.length:=by simp[fE]
theorem pq {A:List qU} {x:qU} (a:x∈A):(x.1,2,aV x.2.2.bc)∈nq A/\(x.2.1,2,jL x.2.2.bO)∈nq A:=by
 constructor <;> exact List.mem_flatMap.2 ⟨x,a,by simp⟩
theorem F2 {h:aE} {u:V} {A:List qU} (f:aT h.view u 2 (fE A)) (g:∀ x∈A,aT h.view x.1 2 (aV x.2.2.bc)/\aT h.view x.2.1 2 (jL x.2.2.bO)):cM h u (bI (A.map λx=>x.2.2)):=by
 have c:∀ i (hi:i < A.length),(fE A).getD i []=[(A[i]).1,(A[i]).2.1]/\(((A.map λx=>x.2.2).map fI).getD i [])=fI (A[i]).2.2:=λi hi=>by
  simp[fE,aaA,hi]
 refine cM.own f (by simp[fE]) (λi hi=>?_) (λi j hi b=>?_)
 .have a:i < A.length:=by simpa [fE] using hi
  rw[(c i a).1,(c i a).2];rfl
 .have a:i < A.length:=by simpa [fE] using hi
  rw[(c i a).2] at b ⊢
  rw[(c i a).1]
  have d:=g _ (aaL a)
  generalize A[i]'a=y at d b
  obtain⟨h1,k⟩:=d
  match j,b with
  | 0,_ =>
   refine cM.own h1 rfl (λi _=>rfl) (λi j hi b=>?_)
   rw[bG] at hi
   have e:(aV y.2.2.bc).getD i []=bu y.2.2.bc[i]:=by simp[aV,aaA,hi]
   rw[e] at b ⊢
   match j,b with
   | 0,_=>exact .val _
   | 1,_=>exact .val _
  | 1,_ =>
   refine cM.own k rfl (λi _=>rfl) (λi j hi b=>?_)
   simp only[jL,aaJ] at hi
   have e:(jL y.2.2.bO).getD i []=kc y.2.2.bO[i]:=by simp[jL,aaA,hi]
   rw[e] at b ⊢
   match j,b with
   | 0,_=>exact .val _
   | 1,_=>exact .val _
  | n+2,b=>exact absurd b (by simp[fI])
def pH:SC :=
 ae [ae [ab [aa 6 5,aa 7 0,aN 8 7,aQ 9 .lss 6 8],bX 9 (.exit 0)],.block 1 (ae [ab [aa 12 0,aa 13 5,aO 14 2 12 13,ao 15 0 14,ak 16 15,aa 17 1,bk 18 135 [16,17]],bb 18 (ae [ab [aa 19 5,aa 4 19],.ret])]),ab [aa 10 5,aF 11 .add 10 1,aa 5 11]]
def th:SF:=⟨ae [ab [aR 4 0],ae [ab [aR 5 0],bZ 0 pH],ab [aR 4 (-1)],.ret],
 [.tmp 4],20⟩
theorem yy:aP Tryz.prog 72 []=some th:=by kernel_rfl
def pk:SC :=
 ae [ae [ab [aa 31 7,ao 32 0 1,ak 33 32,aN 34 33,ao 35 1 1,ak 36 35,aN 37 36,aQ 38 .add 34 37,aQ 39 .lss 31 38],bX 39 (.exit 2)],.block 3 (ae [ab [aZ 42 4 1,aa 43 7,bk 44 70 [42,43],aa 8 44],ab [aZ 45 4 1,aa 46 6,aa 47 8,bk 48 71 [45,46,47],aa 9 48],ae [ab [aa 49 9,aN 50 49,aF 51 .eql 50 0],bb 51 (.exit 3)],ab [aa 52 4,aa 53 9,bk 54 72 [52,53],aa 10 54],ae [ab [aa 55 10,aF 56 .lss 55 0],bb 56 (ae [ab [aa 57 4,aN 58 57,aa 10 58],ab [aa 59 4,aa 60 9,((some 61),.op (.build [(.emp 1),(.emp 1)] [(0,1,(.tmp 60))])),((some 62),.op (.bJ 1 2 [(.emp 1),(.emp 1)] [(0,(.tmp 61))])),fD 63 2 48 59 62,aa 4 63]])],ab [aa 64 4,aa 65 5,aa 66 4,aa 67 5,aO 68 2 66 67,ao 69 1 68,ak 70 69,aa 71 8,aa 72 10,((some 73),.op (.build [(.val (.int .i64 0)),(.val (.int .i64 0))] [(0,1,(.tmp 71)),(1,1,(.tmp 72))])),((some 74),.op (.bJ 1 2 [(.val (.int .i64 0)),(.val (.int .i64 0))] [(0,(.tmp 73))])),fD 75 2 16 70 74,aO 76 2 64 65,ao 77 1 76,cD 1 77 75]]),ab [aa 40 7,aF 41 .add 40 1,aa 7 41]]
def oX:SC :=
 ae [ae [ab [aa 18 5,aa 19 4,aN 20 19,aQ 21 .lss 18 20],bX 21 (.exit 0)],.block 1 (ae [ab [aZ 24 4 1,aa 25 4,aa 26 5,aO 27 2 25 26,ao 28 0 27,ak 29 28,bk 30 69 [24,29],aa 6 30],ae [ab [aR 7 0],bZ 2 pk],ab [aa 78 4,aN 79 78,aF 80 .gtr 79 300],bb 80 (ae [ab [bT 2 1,aR 3 5],.ret])]),ab [aa 22 5,aF 23 .add 22 1,aa 5 23]]
def rj:SF:=⟨ae [ab [cF 1 0,bT 2 1,aR 3 0],ae [ab [aZ 11 4 1,bk 12 15 [11],c9 13 12],bb 13 (ae [ab [bT 2 1,aR 3 1],.ret])],ab [((some 14),.op (.build [(.val (.int .i64 0)),(.val (.int .i64 0))] [(0,1,(.val (.val (.int .i64 (-1)))))])),((some 15),.op (.bJ 1 2 [(.val (.int .i64 0)),(.val (.int .i64 0))] [(0,(.tmp 14))])),((some 16),.op (.build [(.emp 1),(.emp 1)] [(0,1,(.tmp 15))])),((some 17),.op (.bJ 1 2 [(.emp 1),(.emp 1)] [(0,(.tmp 16))])),aa 4 17],ae [ab [aR 5 0],bZ 0 oX],ab [aa 81 4,aa 2 81,aR 3 0],.ret],
 [.tmp 2,.tmp 3],82⟩
theorem xc:aP Tryz.prog 32 [1]=some rj:=by kernel_rfl
theorem Qo:∀ (a:List aJ) (k:List ay) (i:Nat),(∀ j s,j < i->a[j]?=some s->s.bc≠k)->(∀ s,a[i]?=some s->s.bc=k->findD a k=i)/\(i=a.length->findD a k = -1):=by
 intro a k i h
 refine⟨λs h1 c=>Jq a k i s h1 c h,λe=>?_⟩
 subst e
 refine EV a k λs d=>?_
 obtain⟨j,b,e⟩:=abv.1 d
 exact h j s b (by rw[aaB b,e])
theorem Ui (a:List aJ) (g:aK a) (l:∀ s∈a,aK s.bc) (k:List ay) (hk:aK k):az Tryz.prog 72 [bI a,.aU (aV k)] (gi (findD a k)):=by
 unfold aK at g
 refine az.val (by
  intro v f;simp at f
  rcases f with rfl | rfl
  .exact lj _
  .exact Co _) λH=>?_
 refine aw.of mixed yy ?_
 simp(disch:=omega)only[↓wr,seval,wq,th,bI]
 refine ba.up a.length (λi T H'=>(∀ j s,j < i->a[j]?=some s->s.bc≠k)/\T 0=bI a/\T 1=.aU (aV k)/\T 5=gi i) ⟨λj s h=>by omega,rfl,rfl,rfl⟩ ?_
 rintro i n T H' m ⟨c,t0,t1,t5⟩
 obtain⟨f1,f2⟩:=Qo a k i c
 simp(disch:=omega)only[↓wr,seval,wq,pH,t0,t1,t5,bI]
 apply aj.dec<;>intro o
 .have d:a[i]?=some (a[i]'(by omega)):=aaB (by omega)
  have hm:=l _ (aaL (show i < a.length by omega))
  generalize a[i]'(by omega)=x at d hm
  simp(disch:=omega)only[↓wr,seval,wq,t0,t1,t5,bI,aaE,d,aaH,fI]
  refine ax.pure (PS x.bc k hm hk) ?_
  simp(disch:=omega)only[↓wr,seval,wq,t0,t1,t5]
  apply aj.split<;>intro e
  .simp(disch:=omega)only[↓wr,seval,wq,t0,t1,t5]
   rw[f1 x d (by simpa using e)]
  .simp(disch:=omega)only[↓wr,seval,wq,t0,t1,t5]
   refine aG m (by omega) ⟨λj s p b=>?_,t0,t1,rfl⟩
   rcases aa2 j i with h | h
   .exact c j s h b
   .have:j=i:=by omega
    subst this
    rw[d] at b;simp at b;subst b
    simpa using e
 .simp(disch:=omega)only[↓wr,seval,wq,t0,t1,t5]
  rw[f2 (by omega)]
theorem Pz {g:af} (a:g.cY) {s:aJ} (h:cz s.bc/\s.bc≠[]/\∀ x∈s.bc,cw g x):aK s.bc:=by
 have:=gR a h.1 h.2.2;unfold aK;omega
theorem cR.sts {H:View} {u:V} {A:List qU} {L:List dH} (h:bq H ((u,2,fE A) :: L)) (a:∀ x∈nq A,x∈L):cR H u (bI (A.map λx=>x.2.2)):=by
 rintro c rfl
 exact(F2 h.head λx b=>⟨h.1 _ (aaV _ (a _ (pq b).1)),h.1 _ (aaV _ (a _ (pq b).2))⟩).fr
theorem cR.lr {H:View} {u:V} {l:List ay} (h:aT H u 2 (aV l)):cR H u (.aU (aV l)) :=
 cR.own h λe he v a=>by
  obtain⟨x,_,rfl⟩:=aaX.1 he
  simp[bu] at a;rcases a with rfl | rfl <;> exact .val _
theorem lu {h:aE} {u v:V} {e:Int} (h1:cM h u v):cM h (.bf [u,gi e]) (.bf [v,gi e]):=.bf _ _ rfl λi hi=>by
 match i,hi with
 | 0,_=>exact h1
 | 1,_=>exact .val _
theorem zR {α:Type} {l:List α} {i:Nat} (h:i < l.length):∃ a x b,l=a ++ x :: b/\a.length=i/\l[i]?=some x :=
 ⟨l.take i,l[i],l.drop (i+1),by rw[<-abo h,acA],by simp;omega,aaB h⟩
theorem Fp {α:Type} (a:List α) (x:α) (b:List α) (f:α->α):(a ++ x :: b).modify a.length f=a ++ f x :: b:=by
 induction a with
 | nil=>rfl
 | cons y a c=>simp only[abk,aaN,List.modify_succ_cons,c]
theorem iX {g:af} (h:isRed g=true):bp g=true:=by
 unfold isRed at h
 simp only[aaK,abB,aaP] at h
 refine ace λa=>?_
 have h1:=h.1
 unfold gv at h1
 simp[a] at h1
theorem mX {g:af} (h:isRed g=true):g.cY:=bj (iX h)
theorem Zs {α:Type} {a b c:α} {l:List α} : (a :: b :: c :: l).Perm (c :: b :: a :: l):=(List.Perm.swap _ _ _).trans (((List.Perm.swap _ _ _).cons _).trans (List.Perm.swap _ _ _))
theorem Yo {α:Type} {e u p r:α} {S:List α} : (e :: u :: p :: r :: S).Perm (u :: r :: (S ++ [p,e])) :=
 (List.Perm.swap _ _ _).trans (.cons _ (Zs.trans (.cons _ (List.perm_append_comm (l₁:=[p,e]) (l₂:=S)))))
theorem TE {α:Type} {u r k e:α} {b c:List α} : (u :: r :: (b ++ k :: e :: c)).Perm (e :: u :: r :: (b ++ k :: c)):=by
 have h:(b ++ k :: e :: c).Perm (e :: (b ++ k :: c)):=by
  have:=abF (a:=e) (l₁:=b ++ [k]) (l₂:=c)
  simpa using this
 exact(((h.cons r).cons u).trans ((List.Perm.swap _ _ _).cons u)).trans (List.Perm.swap _ _ _)
theorem Cx (A:List qU) (x:qU) (B:List qU):nq (A ++ x :: B)=nq A ++ (x.1,2,aV x.2.2.bc) :: (x.2.1,2,jL x.2.2.bO) :: nq B:=by simp[nq]
def ZI (g:af) (m:Nat) (T:Env) (H:View):Prop:=∃ (at_:Nat) (u:V) (A:List qU) (out:List aJ),m+at_=302/\out=A.map (λx=>x.2.2)/\bq H ((u,2,fE A) :: nq A)/\en g at_ 0 out/\1<=out.length/\out.length<=300/\fN g m at_ out=aS g/\at_<=out.length /\
 T 1=.aL (ag g) 0/\T 4=u/\T 5=gi at_
theorem Fe (g:af) (hg:g.Ok):cK Tryz.prog 32 [.agg (ag g)] (.bf [bI (aS g).1,gi (aS g).2]):=by
 refine cK.of (eK g) ?_
 have Y:=Yr g hg
 refine aw.of mixed xc ?_
 simp only[ag,encS] at Y
 simp(disch:=omega)only[↓wr,seval,wq,rj,ag,encS]
 refine ax.pure Y ?_
 simp(disch:=omega)only[↓wr,seval,wq]
 apply aj.split<;>intro hr
 rotate_left
 .simp(disch:=omega)only[↓wr,seval,wq]
  intro h' _
  have e:aS g=([],1):=by unfold aS;rw[aaD (by rw[hr];simp)]
  rw[e]
  exact lu (.emp _)
 have v:g.cY:=mX hr
 have e0:fN g 302 0 eu=aS g:=by unfold aS;rw[aaF hr]
 have hT:=v.ai;have hN:=v.al
 simp(disch:=omega)only[↓wr,seval,wq]
 intro O q2 K
 have o0:bq (((View.set (λ_=>dG.dead) O (.arr 2 [[gi (-1),gi 0]])).set q2 (.arr 2 [[.sl O 0 1 2,.emp 1]]))) ((.sl q2 0 1 2,2,fE [(.sl O 0 1 2,.emp 1,⟨[⟨-1,0⟩],[]⟩)]) :: nq [(.sl O 0 1 2,.emp 1,⟨[⟨-1,0⟩],[]⟩)]) :=
  (((bq.nil.emp (k:=1) (sz:=2)).new (n:=O) rfl 2 [[gi (-1),gi 0]]).new (by simpa [View.set] using K) 2 [[.sl O 0 1 2,.emp 1]])
 generalize (View.set (λ_=>dG.dead) O (.arr 2 [[gi (-1),gi 0]])).set q2 (.arr 2 [[.sl O 0 1 2,.emp 1]])=H0 at o0 ⊢
 refine ba.intro (ZI g) 302 ⟨0,_,_,eu,rfl,rfl,o0,ma,aaM _,by simp[eu],e0,by omega,rfl,rfl,rfl⟩ ?_
 clear o0 K
 rintro m T H ⟨at_,u,A,out,hm,rfl,j,hI,h1,P,Q,hle,t1,t4,t5⟩
 have w:cT u=some A.length:=by rw[j.head.len,dC]
 simp only[aaJ] at h1 P hle
 simp(disch:=omega)only[↓wr,seval,wq,oX,t1,t4,t5,w]
 apply aj.dec<;>intro hc
 rotate_left
 .simp(disch:=omega)only[↓wr,seval,wq,t1,t4,t5]
  have e1:aS g=(A.map (λx=>x.2.2),0):=by
   rw[<-Q]
   cases m with
   | zero=>rfl
   | succ m=>rw[fN,aaD (by simp;omega)]
  rw[e1]
  rintro h' rfl
  exact lu (F2 j.head λx L=>⟨j.1 _ (aaV _ (pq L).1),j.1 _ (aaV _ (pq L).2)⟩)
 obtain⟨m,rfl⟩:∃ q,m=q+1:=⟨m - 1,by omega⟩
 have z:at_ < A.length:=by omega
 obtain⟨a,x,d,rfl,p,L⟩:=zR z
 have U:x∈a ++ x :: d:=by simp
 obtain⟨Z,b4,C⟩:=hI.bc x.2.2 (List.mem_map_of_mem U)
 have b5:=gR v Z C
 have hh:aT H u 2 (fE (a ++ x :: d)):=j.head
 obtain⟨id,hu,M⟩:=hh.sl (by rw[dC];omega)
 have D:(fE (a ++ x :: d)).getD at_ []=[x.1,x.2.1]:=by simp[fE,aaA,<-p]
 have an:cJ g ((List.map (λx=>x.2.2) (a ++ x :: d)).getD at_ bC).bc=cJ g x.2.2.bc:=by
  rw[aaA,aaE,L];rfl
 have R:=λn hn=>en.row (hI.nB v (show at_ < ((a ++ x :: d).map λx=>x.2.2).length by simpa using z)).1 (hI.nB v (show at_ < ((a ++ x :: d).map λx=>x.2.2).length by simpa using z)).2 hI n hn
 rw[fN,aaF (by simpa using z),xg] at Q
 rw[an] at Q R
 have aq:=kQ g x.2.2.bc
 have ar:∀ y∈cJ g x.2.2.bc,cw g y:=λy hy=>((dc v C).1 hy).has C
 rw[dC] at hu
 simp(disch:=omega)only[↓wr,seval,wq,t1,t4,t5,hu,M,D,ag,encS]
 refine⟨by omega,by rw[dC];omega,?_⟩
 refine ax.eM ((BM g v x.2.2.bc C (by omega) x.1 H (j.1 _ (aaV _ (pq U).1))).mono ?_)
 rintro r H2 ⟨or,fr⟩
 have o2:=j.Gr or fr
 clear or fr M D an L
 generalize cJ g x.2.2.bc=cl at *
 generalize h:(a ++ x :: d).map (λx=>x.2.2)=E at *
 have a1:E.length=(a ++ x :: d).length:=by rw[<-h];simp
 simp(disch:=omega)only[↓wr,seval,wq,t1,t4,t5]
 refine ba.up (g.ai.length+g.al.length) (λi T H'=>∃ (u:V) (A:List qU),A.map (λx=>x.2.2)=(List.range i).foldl (dw g cl at_) E/\bq H' ((r,2,aV cl) :: (u,2,fE A) :: nq A)/\T 1=.aL (ag g) 0/\T 4=u/\T 5=gi at_/\T 6=r/\T 7=gi i)
  ⟨u,_,h,o2,t1,by rw[<-hu];exact t4,t5,rfl,rfl⟩ ?_
 rw[<-a1] at h1 P hle z
 clear o2 j hh hu t1 t4 t5 w h U a1 hc Z b4 C b5 p
 clear u H2 H T id a x d
 rintro i k T H' hk ⟨u,A,hA,j,t1,t4,t5,t6,t7⟩
 obtain⟨iI,a6,a7⟩:=R i (by omega)
 rw[<-hA] at iI a6 a7
 rw[aaJ] at a6 a7
 have w:cT u=some A.length:=by rw[j.tail.head.len,dC]
 have ch:=gR v aq ar
 simp(disch:=omega)only[↓wr,seval,wq,pk,t1,t4,t5,t6,t7,ag,encS]
 apply aj.dec<;>intro hc
 rotate_left
 .have hi:i=g.ai.length+g.al.length:=by omega
  subst hi
  rw[<-hA] at Q
  simp(disch:=omega)only[↓wr,seval,wq,t1,t4,t5,t6,w]
  apply aj.dec<;>intro h3
  .simp(disch:=omega)only[↓wr,seval,wq]
   intro h' _
   rw[aaF (by rw[aaJ];omega)] at Q
   rw[<-Q]
   exact lu (.emp _)
  .simp(disch:=omega)only[↓wr,seval,wq,t1,t4,t5]
   rw[aaD (by rw[aaJ];omega)] at Q
   exact⟨m,by omega,at_+1,u,A,_,by omega,rfl,j.tail,iI.next,by rw[aaJ];omega,by rw[aaJ];omega,Q,by rw[aaJ];omega,t1,t4,rfl⟩
 have a8:i < g.ai.length+g.al.length:=by omega
 have S:=Mv g v i a8
 have cj:=Fi v a8
 simp only[ag,encS] at S
 simp(disch:=omega)only[↓wr,seval,wq,t1,t4,t5,t6,t7,ag,encS]
 refine ax.pure S ?_
 simp(disch:=omega)only[↓wr,seval,wq,t1,t4,t5,t6,t7,ag,encS]
 refine ax.eM ((OI g v cl aq ar (bh g i) r H' j.head).mono ?_)
 rintro J H9 ⟨or,fr⟩
 have o9:=j.Gr or fr
 have ck:=uL (g:=g) (l:=cl) (s:=bh g i)
 have b7:cT J=some (bA g cl (bh g i)).length:=by rw[or.len,bG]
 have F:(List.range (i+1)).foldl (dw g cl at_) E=dw g cl at_ (A.map λx=>x.2.2) i:=by rw[abH,abR,<-hA];rfl
 simp(disch:=omega)only[↓wr,seval,wq,t1,t4,t5,t6,t7,b7]
 apply aj.eq<;>intro he
 .have bd:bA g cl (bh g i)=[]:=abU.1 (by omega)
  simp(disch:=omega)only[↓wr,seval,wq,t1,t4,t5,t6,t7]
  exact aG hk (by omega) ⟨u,A,by rw[F,dw,aaF bd],o9.tail,t1,t4,t5,t6,rfl⟩
 have bl:bA g cl (bh g i)≠[]:=λe=>he (by rw[e];rfl)
 simp(disch:=omega)only[↓wr,seval,wq,t1,t4,t5,t6,t7]
 have W:=Ui (A.map λx=>x.2.2) (by unfold aK;rw[aaJ];omega) (λs hs=>Pz v (iI.bc s hs)) (bA g cl (bh g i)) (by unfold aK;omega)
 refine ax.B5 W (by kernel_rfl) (.val _) ⟨cR.sts o9.tail.tail (λx L=>L),cR.lr or,trivial⟩ ?_
 have b8:=zg (A.map λx=>x.2.2) (bA g cl (bh g i))
 have cr:=uO (A.map λx=>x.2.2) (bA g cl (bh g i))
 rw[aaJ] at b8
 have bn:at_ < A.length:=by omega
 simp(disch:=omega)only[↓wr,seval,wq,t1,t4,t5,t6,t7]
 obtain⟨a,x,d,G,p,L⟩:=zR bn
 have cu:x.2.2.bO.length<=40:=(iI.bO at_ x.2.2 (by rw[aaE,L];rfl)).1
 have D:∀ B,(fE (a ++ x :: B)).getD at_ []=[x.1,x.2.1]:=λB=>by simp[fE,aaA,<-p]
 have br:∀ (B:List qU) (c:fp),((a ++ x :: B).map λx=>x.2.2).modify at_ (λs=>(⟨s.bc,s.bO ++ [c]⟩:aJ))=(a ++ (x.1,x.2.1,(⟨x.2.2.bc,x.2.2.bO ++ [c]⟩:aJ)) :: B).map λx=>x.2.2:=λB c=>by
  rw[aaW,aa9,<-p,<-aaJ (f:=λx:qU=>x.2.2),Fp,aaW,aa9]
 apply aj.dec<;>intro I
 simp(disch:=omega)only[↓wr,seval,wq,t1,t4,t5,t6,t7,w,or.cells,or.fL]
 intro q hq
 simp(disch:=omega)only[↓wr,seval,wq,bz]
 have b9:=(o9.fresh (o:=.arr 2 [[J,.emp 1]]) hq).at 2 (by simp)
 refine b6 b9 (by simp[or.fL,Cm]) (by unfold aC;rw[dC];simp;omega) (by unfold aC;rw[dC];simp;omega) ?_
 intro u2 X bs _
 simp only[abi,abf,abg,abh] at bs
 have ca:=(bs.emp (k:=1) (sz:=2)).perm Yo
 have t:dw g cl at_ (A.map λx=>x.2.2) i=((a ++ x :: (d ++ [(J,.emp 1,(⟨bA g cl (bh g i),[]⟩:aJ))])).map λx=>x.2.2).modify at_ (λs=>(⟨s.bc,s.bO ++ [⟨bh g i,(A.length:Int)⟩]⟩:aJ)):=by
  rw[dw,aaD bl,aaF I,aaJ]
  congr 1
  rw[G];simp
 have b:bq X ((u2,2,fE (a ++ x :: (d ++ [(J,.emp 1,(⟨bA g cl (bh g i),[]⟩:aJ))]))) :: (r,2,aV cl) :: nq (a ++ x :: (d ++ [(J,.emp 1,(⟨bA g cl (bh g i),[]⟩:aJ))]))):=by
  have e1:fE (a ++ x :: (d ++ [(J,.emp 1,(⟨bA g cl (bh g i),[]⟩:aJ))]))=fE A ++ [[J,.emp 1]]:=by rw[G];simp[fE]
  have e2:nq (a ++ x :: (d ++ [(J,.emp 1,(⟨bA g cl (bh g i),[]⟩:aJ))]))=nq A ++ [(J,2,aV (bA g cl (bh g i))),(.emp 1,2,[])]:=by rw[G];simp[nq];rfl
  rw[e1,e2]
  exact ca
 generalize (d ++ [(J,V.emp 1,(⟨bA g cl (bh g i),[]⟩:aJ))])=B at t b
 generalize (A.length:Int)=to at t ⊢
 rotate_left
 have t:dw g cl at_ (A.map λx=>x.2.2) i=((a ++ x :: d).map λx=>x.2.2).modify at_ (λs=>(⟨s.bc,s.bO ++ [⟨bh g i,findD (A.map λx=>x.2.2) (bA g cl (bh g i))⟩]⟩:aJ)):=by
  rw[dw,aaD bl,aaD I,<-G]
 have b:=o9.tail.perm (.swap _ _ _)
 clear or fr
 generalize H9=X at o9 b ⊢
 obtain⟨u2,cc⟩:∃ y,y=u:=⟨_,rfl⟩
 rw[<-cc] at b t4
 rw[G] at b
 generalize findD (A.map λx=>x.2.2) (bA g cl (bh g i))=to at t ⊢
 generalize d=B at t b
 all_goals (
  obtain⟨id,hu,M⟩:=(show aT X u2 2 (fE (a ++ x :: B)) from b.head).sl (by rw[dC];simp;omega)
  rw[dC] at hu
  rw[Cx] at b
  simp(disch:=omega)only[↓wr,seval,wq,t1,t4,t5,t6,t7,hu,M,D B]
  refine⟨by simp;omega,by rw[dC];simp;omega,?_⟩
  intro q2 K
  simp(disch:=omega)only[↓wr,seval,wq,bz]
  refine b6 ((b.perm TE).fresh K) (by simp[aI]) (by unfold aC;simp[jL];omega) (by unfold aC;simp[jL];omega) ?_
  intro e2 cf N _
  have bx:cf id=.arr 2 (fE (a ++ x :: B)):=((N.own 1 rfl).live (by rw[hu];rfl)).1
  simp(disch:=omega)only[↓wr,seval,wq,t1,t4,t5,t6,t7,hu,bx,D B,N.head.cells,N.head.fL]
  have b0:(fE (a ++ x :: B)).set at_ [x.1,e2]=fE (a ++ (x.1,e2,(⟨x.2.2.bc,x.2.2.bO ++ [⟨bh g i,to⟩]⟩:aJ)) :: B):=by
   rw[<-p];simp[fE]
  have cg:jL (x.2.2.bO ++ [⟨bh g i,to⟩])=jL x.2.2.bO ++ [[gi (bh g i),gi to]]:=by simp[jL,kc]
  have b1:=N.perm (.swap _ _ _)
  rw[hu] at b1
  have b2:=((b1.put (es':=fE (a ++ (x.1,e2,(⟨x.2.2.bc,x.2.2.bO ++ [⟨bh g i,to⟩]⟩:aJ)) :: B)) (by rw[dC,dC];simp) (by rw[dC])).perm (.swap _ _ _)).perm TE.symm
  rw[<-cg] at b2
  have b3:=b2.perm (.swap _ _ _)
  rw[<-hu] at b3
  rw[b0]
  refine⟨by simp;omega,by rw[dC];simp;omega,aG hk (by omega) ⟨u2,_,?_,by rw[Cx];exact b3,t1,by first | rfl | exact t4 | exact hu.symm,t5,t6,rfl⟩⟩
  rw[F,t,br];simp)
abbrev gw (s:BV):V:=.val (.int .u32 s.toNat)
abbrev eS (l:List BV):List (List V):=l.map λx=>[gw x]
abbrev DI (l:List BV):V:=.aU (eS l)
theorem Q0 (l:List BV):Tree (DI l):=ew _ _ λx _ v a=>by simp at a;subst a;exact .val _
theorem Wi {x:Int} (h1:0<=x) (c:x < 4294967296):IntKind.wrap .u32 x=x:=by
 unfold IntKind.wrap
 have a:(2:Int) ^ IntKind.u32.bits=4294967296:=by rfl
 have b:IntKind.u32.signed=false:=by rfl
 simp only[a,b,ab2,aaP]
 simp
 omega
theorem Pb (s:BV):IntKind.wrap .u32 (s.toNat:Int)=s.toNat:=Wi (by omega) (by have:=s.isLt;omega)
theorem x6 (s:BV):BitVec.ofInt IntKind.u32.bits (s.toNat:Int)=s:=by
 show BitVec.ofInt 32 (s.toNat:Int)=s
 rw[BitVec.ofInt_natCast,BitVec.ofNat_toNat,BitVec.setWidth_eq]
theorem Kd (s t:BV):IntKind.wrap .u32 ((BitVec.ofInt IntKind.u32.bits (s.toNat:Int) ||| BitVec.ofInt IntKind.u32.bits (t.toNat:Int)).toNat:Int)=((s ||| t).toNat:Int):=by
 rw[x6,x6];exact Pb (s ||| t)
theorem Zg (s t:BV):IntKind.wrap .u32 ((BitVec.ofInt IntKind.u32.bits (s.toNat:Int) &&& BitVec.ofInt IntKind.u32.bits (t.toNat:Int)).toNat:Int)=((s &&& t).toNat:Int):=by
 rw[x6,x6];exact Pb (s &&& t)
theorem VA (s t:BV):IntKind.wrap .u32 ((BitVec.ofInt IntKind.u32.bits (s.toNat:Int) &&& ~~~(BitVec.ofInt IntKind.u32.bits (t.toNat:Int))).toNat:Int)=((s &&& ~~~t).toNat:Int):=by
 rw[x6,x6];exact Pb (s &&& ~~~t)
theorem toNat_zero {s:BV} : ((s.toNat:Nat):Int)=0↔s=0:=by
 constructor
 .intro h;exact BitVec.eq_of_toNat_eq (by simpa using h)
 .rintro rfl;rfl
def q9:SC :=
 ae [ae [ab [aa 11 4,aa 12 0,aQ 13 .lss 11 12],bX 13 (.exit 0)],.block 1 (ab [aa 16 3,((some 17),.op (.arith .mul (.tmp 16) (.val (.val (.int .u32 2))))),aa 3 17]),ab [aa 14 4,aF 15 .add 14 1,aa 4 15]]
def tE:SF:=⟨ae [ab [((some 2),.op (.eJ (.val (.val (.int .u32 0)))))],ae [.region false [⟨none,[aa 5 0,aF 6 .lss 5 0,aa 7 6]⟩,⟨(some (7,false)),[aa 8 0,aF 9 .gtr 8 31]⟩,⟨none,[cy 10 7 9]⟩],bb 10 (ae [ab [((some 2),.op (.eJ (.val (.val (.int .u32 0)))))],.ret])],ab [((some 3),.op (.eJ (.val (.val (.int .u32 1)))))],ae [ab [aR 4 0],bZ 0 q9],ab [aa 18 3,aa 2 18],.ret],
 [.tmp 2],19⟩
theorem zF:aP Tryz.prog 98 []=some tE:=by kernel_rfl
def tF:SF:=⟨ae [ab [bB 4 false],ab [aa 5 0,aa 6 1,bk 7 98 [6],aQ 8 .and 5 7,((some 9),.op (.arith .neq (.tmp 8) (.val (.val (.int .u32 0))))),aa 4 9],.ret],
 [.tmp 4],10⟩
theorem zn:aP Tryz.prog 168 []=some tF:=by kernel_rfl
def sJ:SC :=
 ae [ae [ab [aa 11 10,aa 12 0,aN 13 12,aQ 14 .lss 11 13],bX 14 (.exit 0)],.block 1 (ae [ae [ab [aa 17 0,aa 18 10,aO 19 1 17 18,ak 20 19,aF 21 .geq 20 0],bb 21 (ae [ab [aa 22 9,aa 23 0,aa 24 10,aO 25 1 23 24,ak 26 25,bk 27 98 [26],aQ 28 .or 22 27,aa 8 28],.ret])],ab [aa 29 9,aa 30 2,aa 31 0,aa 32 10,aO 33 1 31 32,ak 34 33,((some 35),.op (.arith .sub (.val (.val (.int .i64 (-1)))) (.tmp 34))),aO 36 1 30 35,ak 37 36,aQ 38 .or 29 37,aa 9 38],ab [aa 39 1,aa 40 0,aa 41 10,aO 42 1 40 41,ak 43 42,((some 44),.op (.arith .sub (.val (.val (.int .i64 (-1)))) (.tmp 43))),aO 45 1 39 44,ak 46 45,c9 47 46],bb 47 (ae [ab [aa 48 9,aa 8 48],.ret])]),ab [aa 15 10,aF 16 .add 15 1,aa 10 16]]
def uK:SF:=⟨ae [ab [((some 8),.op (.eJ (.val (.val (.int .u32 0)))))],ab [((some 9),.op (.eJ (.val (.val (.int .u32 0)))))],ae [ab [aR 10 0],bZ 0 sJ],ab [aa 49 9,aa 50 3,aQ 51 .or 49 50,aa 8 51],.ret],
 [.tmp 8],52⟩
theorem Az:aP Tryz.prog 229 []=some uK:=by kernel_rfl
def pw:SC :=
 ae [ae [ab [aa 24 6,ao 25 2 1,ak 26 25,aN 27 26,aQ 28 .lss 24 27],bX 28 (.exit 2)],.block 3 (ae [ab [ao 31 2 1,ak 32 31,aa 33 6,aO 34 3 32 33,aZ 35 3 34,((some 7),.op (.alloc [(.val (.int .i64 0)),(.emp 1),(.val (.int .i64 0))])),cD 3 7 35],.region true [⟨none,[aa 36 4,ao 37 0 7,ak 38 37,aa 39 4,ao 40 0 7,ak 41 40,aO 42 1 39 41,ak 43 42,ao 44 1 7,ak 45 44,aa 46 3,aa 47 4,qw 48 229 [(.tmp 45),(.tmp 46),(.tmp 47),(.val (.val (.int .u32 0)))],aQ 49 .or 43 48,aO 50 1 36 38,cD 1 50 49]⟩]]),ab [aa 29 6,aF 30 .add 29 1,aa 6 30]]
def pb:SC :=
 ae [ae [ab [aa 17 5,ao 18 1 1,ak 19 18,aN 20 19,aQ 21 .lss 17 20],bX 21 (.exit 0)],.block 1 (ae [ab [aR 6 0],bZ 2 pw]),ab [aa 22 5,aF 23 .add 22 1,aa 5 23]]
def rb:SF:=⟨ae [ab [cF 1 0,bT 2 1],ae [ab [aZ 8 4 1,bk 9 50 [8],c9 10 9],bb 10 (ae [ab [bT 2 1],.ret])],ab [aZ 11 4 1,bk 12 230 [11],aa 3 12],ab [ao 13 1 1,ak 14 13,aN 15 14,((some 16),.op (.make 1 4 [(.val (.int .u32 0))] (.tmp 15) (.tmp 15))),aa 4 16],ae [ab [aR 5 0],bZ 0 pb],ab [aa 51 4,aa 2 51],.ret],
 [.tmp 2],52⟩
theorem xf:aP Tryz.prog 231 [1]=some rb:=by kernel_rfl
theorem Vi {n:Int} (h:0<=n/\n<=31):(jq n).toNat=2 ^ n.toNat:=by
 rw[jq,aaF h,BitVec.toNat_twoPow]
 exact Nat.mod_eq_of_lt (Nat.pow_lt_pow_right (by omega) (by omega))
theorem Di (n:Int):az Tryz.prog 98 [gi n] (gw (jq n)):=by
 refine az.val (by intro v a;simp at a;subst a;exact .val _) λH=>?_
 refine aw.of mixed zF ?_
 simp(disch:=omega)only[↓wr,seval,wq,tE]
 have bad:¬ (0<=n/\n<=31)->jq n=0:=λh=>by rw[jq,aaD h]
 apply aj.dec<;>intro h1
 .simp(disch:=omega)only[↓wr,seval,wq]
  rw[bad (by omega)];rfl
 simp(disch:=omega)only[↓wr,seval,wq]
 apply aj.dec<;>intro b
 .simp(disch:=omega)only[↓wr,seval,wq]
  rw[bad (by omega)];rfl
 simp(disch:=omega)only[↓wr,seval,wq]
 refine ba.up n.toNat (λi T H'=>T 0=gi n/\T 3=.val (.int .u32 ((2 ^ i:Nat):Int))/\T 4=gi i) ⟨rfl,rfl,rfl⟩ ?_
 rintro i k T H' hk ⟨t0,t3,t4⟩
 simp(disch:=omega)only[↓wr,seval,wq,q9,t0,t3,t4]
 apply aj.dec<;>intro c
 .have d:2 ^ (i+1)<=2 ^ 31:=Nat.pow_le_pow_right (by omega) (by omega)
  have e:2 ^ (i+1)=2 ^ i * 2:=Nat.pow_succ _ _
  have hw:IntKind.wrap .u32 (((2 ^ i:Nat):Int) * 2)=((2 ^ (i+1):Nat):Int):=by
   rw[e,Int.natCast_mul]
   exact Wi (by omega) (by omega)
  simp(disch:=omega)only[↓wr,seval,wq,t0,t3,t4,hw]
  exact aG hk (by omega) ⟨t0,rfl,rfl⟩
 .simp(disch:=omega)only[↓wr,seval,wq,t0,t3,t4]
  rw[Vi (by omega),show i=n.toNat by omega]
theorem Uw (s:BV) (n:Int):az Tryz.prog 168 [gw s,gi n] (gb (hasB s n)):=by
 refine az.val (by
  intro v a;simp at a
  rcases a with rfl | rfl <;> exact .val _) λH=>?_
 refine aw.of mixed zn ?_
 simp(disch:=omega)only[↓wr,seval,wq,tF]
 refine ax.pure (Di n) ?_
 simp(disch:=omega)only[↓wr,seval,wq,Zg]
 congr 2
 unfold hasB
 rw[abD]
 simp only[acM,ne_eq,aaP,toNat_zero]
theorem xK {l:List BV} {i:Nat} {x:BV} (h:l[i]?=some x):(eS l).getD i []=[gw x]:=by simp[aaA,h]
theorem Nz (syms:List Int) (null:List Bool) (first:List BV) (rest:BV) (h:aK syms) (j:∀ s∈syms,bM s/\(s < 0->(-1 - s).toNat < null.length/\(-1 - s).toNat < first.length)) :
  az Tryz.prog 229 [encI syms,cI null,DI first,gw rest] (gw (ej null first rest syms)):=by
 unfold aK at h
 refine az.val (by
  intro v g;simp at g
  rcases g with rfl | rfl | rfl | rfl
  .exact cx _
  .exact im _
  .exact Q0 _
  .exact .val _) λH=>?_
 refine aw.of mixed Az ?_
 simp(disch:=omega)only[↓wr,seval,wq,uK,encI,cI]
 refine ba.up syms.length (λi T H'=>∃ s:BV,s ||| ej null first rest (syms.drop i)=ej null first rest syms/\T 0=encI syms/\T 1=cI null/\T 2=DI first/\T 3=gw rest/\T 9=gw s/\T 10=gi i) ⟨0,by simp,rfl,rfl,rfl,rfl,rfl,rfl⟩ ?_
 rintro i k T H' hk ⟨s,he,t0,t1,t2,t3,t9,t10⟩
 simp(disch:=omega)only[↓wr,seval,wq,sJ,t0,t1,t2,t3,t9,t10,encI]
 apply aj.dec<;>intro l
 .have c:syms[i]?=some (syms[i]'(by omega)):=aaB (by omega)
  have b:syms.drop i=syms[i]'(by omega) :: syms.drop (i+1):=abo (by omega)
  have hm:=j _ (aaL (show i < syms.length by omega))
  generalize syms[i]'(by omega)=x at c b hm
  obtain⟨d,e⟩:=hm
  unfold bM at d
  rw[b,ej] at he
  simp(disch:=omega)only[↓wr,seval,wq,t0,t1,t2,t3,t9,t10,encI,aaE,c,aaH]
  apply aj.dec<;>intro f
  .rw[aaF f] at he
   simp(disch:=omega)only[↓wr,seval,wq,t0,t1,t2,t3,t9,t10,encI,aaE,c,aaH]
   refine ax.pure (Di x) ?_
   simp(disch:=omega)only[↓wr,seval,wq,Kd]
   rw[he]
  .rw[aaD f] at he
   obtain⟨m,n⟩:=e (by omega)
   have o:null[(-1 - x).toNat]?=some (null.getD (-1 - x).toNat false):=getD_some m
   have p:first[(-1 - x).toNat]?=some (first.getD (-1 - x).toNat 0):=getD_some n
   simp(disch:=omega)only[↓wr,seval,wq,t0,t1,t2,t3,t9,t10,encI,cI,DI,aaE,c,o,p,aaH,Kd]
   apply aj.split<;>intro a
   .simp(disch:=omega)only[↓wr,seval,wq,t0,t1,t2,t3,t9,t10]
    rw[aaF a,<-BitVec.or_assoc] at he
    exact aG hk (by omega) ⟨_,he,t0,t1,t2,t3,rfl,rfl⟩
   .simp(disch:=omega)only[↓wr,seval,wq]
    rw[aaD (by rw[a];simp)] at he
    exact abN (λz:BV=>gw z) he
 .rw[aa7 (by omega),ej] at he
  simp(disch:=omega)only[↓wr,seval,wq,t3,t9,Kd]
  rw[he]
theorem Ub {h:aE} {u:V} {l:List BV} (a:aT h.view u 1 (eS l)):cM h u (DI l):=cM.Jh (f:=λx:BV=>.int .u32 x.toNat) a
theorem OO {H:View} {u:V} {l:List BV} (h:aT H u 1 (eS l)):cR H u (DI l) :=
 cR.own h λe he v a=>by
  obtain⟨x,_,rfl⟩:=aaX.1 he
  simp at a;subst a;exact .val _
def Lm (g:af):List BV:=if bp g=true then cU g (av g false) else []
theorem Pn (g:af) (x:g.Ok):cK Tryz.prog 231 [.agg (ag g)] (DI (Lm g)):=by
 refine cK.of (eK g) ?_
 have n:=iO g x
 have o:=zY g x
 refine aw.of mixed xf ?_
 simp only[ag,encS] at n o
 simp(disch:=omega)only[↓wr,seval,wq,rb,ag,encS]
 refine ax.pure n ?_
 unfold Lm
 simp(disch:=omega)only[↓wr,seval,wq]
 apply aj.split<;>intro hr
 rotate_left
 .simp(disch:=omega)only[↓wr,seval,wq]
  rintro E _
  rw[aaD (by rw[hr];simp)]
  exact .emp _
 have p:=bj hr
 have N:=p.al;have F:=p.sm
 rw[aaF hr]
 have d:=jf hr false
 simp(disch:=omega)only[↓wr,seval,wq,ag,encS]
 refine ax.pure o ?_
 generalize av g false=null at d ⊢
 simp(disch:=omega)only[↓wr,seval,wq,ag,encS]
 refine⟨⟨by omega,by unfold aC;omega,by unfold aC;omega⟩,λG=>absurd G (by omega),λ_ m=>?_⟩
 have r:List.replicate g.al.length [V.val (Value.int IntKind.u32 0)]=eS (List.replicate g.al.length (0:BV)):=by simp
 rw[r]
 have t:(List.replicate g.al.length (0:BV)).length=g.al.length:=by simp
 unfold cU
 generalize List.replicate g.al.length (0:BV)=u at t ⊢
 refine ba.intro (λk T H'=>∃ (i:Nat) (h:List BV),i+k=g.al.length/\h.length=g.al.length/\iter (uM g null) k h=iter (uM g null) g.al.length u/\T 1=.aL (ag g) 0/\T 3=cI null/\T 4=.sl m 0 g.al.length 1/\H' m=.arr 1 (eS h)/\T 5=gi i) g.al.length
  ⟨0,u,by omega,t,rfl,rfl,rfl,rfl,by simp[View.set],rfl⟩ ?_
 rintro k T H' ⟨i,h,hk,hlen,hi,t1,t3,t4,tm,t5⟩
 simp(disch:=omega)only[↓wr,seval,wq,pb,t1,t3,t4,t5,ag,encS]
 apply aj.dec<;>intro H
 .simp(disch:=omega)only[↓wr,seval,wq,t1,t3,t4,t5]
  refine ba.up g.rules.length (λj T H'=>∃ a:List BV,a.length=g.al.length/\(g.rules.drop j).foldl (lN null) a=uM g null h/\T 1=.aL (ag g) 0/\T 3=cI null/\T 4=.sl m 0 g.al.length 1/\H' m=.arr 1 (eS a)/\T 5=gi i/\T 6=gi j)
   ⟨h,hlen,rfl,t1,t3,t4,tm,t5,rfl⟩ ?_
  clear t1 t3 t4 tm t5
  rintro j k2 O P y ⟨a,e,l,t1,t3,t4,tm,t5,t6⟩
  simp(disch:=omega)only[↓wr,seval,wq,pw,t1,t3,t4,t5,t6,ag]
  apply aj.dec<;>intro I
  .have J:=p.rules
   have v:g.rules[j]?=some (g.rules[j]'(by omega)):=aaB (by omega)
   rw[fq (show j < g.rules.length by omega)] at l
   have c:g.rules[j]'(by omega)∈g.rules:=aaL _
   generalize g.rules[j]'(by omega)=R at v l c
   simp only[abc] at l
   obtain⟨K,L⟩:=p.left R c
   obtain⟨_,_,z,A⟩:=x.au R c
   have B:=Nz R.right null a 0 z λs C=>⟨A s C,λM=>by have:=p.neg c C M;omega⟩
   have w:a[R.left.toNat]?=some (a.getD R.left.toNat 0):=getD_some (by omega)
   simp(disch:=omega)only[↓wr,seval,wq,t1,t3,t4,t5,t6,ag,encS,bg,aaE,v,aaH]
   intro b D
   have f:¬ m=b:=by rintro rfl;rw[tm] at D;simp at D
   rw[set_set]
   simp(disch:=omega)only[↓wr,seval,wq,t1,t3,t4,t5,t6,tm,f,xK w]
   refine⟨rfl,by omega,by omega,?_⟩
   refine ax.B5 B (by kernel_rfl) (.val _) ⟨.tree (cx _),.tree (im _),OO (.inr ⟨m,by simp[e],by simp[View.set,f,tm]⟩),.tree (.val _),trivial⟩ ?_
   simp(disch:=omega)only[↓wr,seval,wq,t1,t3,t4,t5,t6,tm,f,xK w,Kd]
   refine⟨by omega,by first | omega | (simp;omega),aG y (by omega) ⟨lN null a R,by rw[IG];exact e,l,t1,t3,t4,?_,t5,rfl⟩⟩
   rw[show eS (lN null a R)=(eS a).set R.left.toNat [gw (a.getD R.left.toNat 0 ||| ej null a 0 R.right)] from by rw[lN,eS,acC]]
   simp only[View.set,if_true]
   rfl
  .rw[aa7 (by omega),acd] at l
   simp(disch:=omega)only[↓wr,seval,wq,t1,t3,t4,t5]
   obtain⟨q,rfl⟩:∃ q,k=q+1:=⟨k - 1,by omega⟩
   exact⟨q,by omega,i+1,a,by omega,e,by rw[l];exact hi,rfl,tm,rfl⟩
 .simp(disch:=omega)only[↓wr,seval,wq,t4]
  have:k=0:=by omega
  subst this
  rintro E rfl
  rw[<-hi,<-hlen]
  exact Ub (.inr ⟨m,by simp[iter],tm⟩)
end Gv
