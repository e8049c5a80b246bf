/-
  Part 12 of the proof: what the machine does and what the functions answer.
  Conditions: those that each lemma names.
-/
import Derived.Test.YtihmlbdfcmfbdaaGreatSGzB5K
set_option linter.unusedSimpArgs false
set_option linter.unusedVariables false
set_option maxRecDepth 100000
set_option maxHeartbeats 20000000
namespace Gv
open Go Go.Proofs
def dz:List cr->Int->Int
 | [],_=>-1
 | e :: l,s=>if e.sym=s then e.to else dz l s
def eS (a:List aL):Int->List Int->Int × Bool
 | at_,[]=>(at_,true)
 | at_,s :: l=>if 0<=dz (a.getD at_.toNat aN).aJ s/\dz (a.getD at_.toNat aN).aJ s < a.length then eS a (dz (a.getD at_.toNat aN).aJ s) l else (0,false)
def ef (a:List aL) (at_:Int) (l:List Int):Int × Bool:=if at_ < 0∨(a.length:Int)<=at_ then (0,false) else eS a at_ l
theorem BJ {a:List aL} : ∀ (l:List Int) (at_:Int),0<=at_->at_ < a.length->0<=(eS a at_ l).1/\(eS a at_ l).1 < a.length
 | [],at_,h1,b=>⟨h1,b⟩
 | s :: l,at_,h1,b=>by
  rw[eS]
  split
  .rename_i h;exact BJ l _ h.1 h.2
  .exact⟨by simp,by simp only;omega⟩
abbrev Sets:=List (List BV)
def ej (ss:Sets) (i k:Nat):BV:=(ss.getD i []).getD k 0
def jV (l:List aA) (row:List BV) (x:aA) (s:BV):List BV:=List.zipWith (λy v=>if y=x then v ||| s else v) l row
def fW (ls:List (List aA)) (ss:Sets) (st:Nat) (x:aA) (s:BV):Sets:=ss.set st (jV (ls.getD st []) (ss.getD st []) x s)
def lp (ls:List (List aA)) (ss:Sets):Prop:=ss.length=ls.length/\∀ i:Nat,(ss.getD i []).length=(ls.getD i []).length
def lh (a b:Sets):Prop:=a.length=b.length/\(∀ i:Nat,(a.getD i []).length=(b.getD i []).length)/\∀ i k,iL (ej a i k) (ej b i k)
theorem lh.refl {a:Sets} : lh a a:=⟨rfl,λ_=>rfl,λ_ _ _ h=>h⟩
theorem lh.trans {a b c:Sets} (h:lh a b) (k:lh b c):lh a c:=⟨h.1.trans k.1,λi=>(h.2.1 i).trans (k.2.1 i),λi j t d=>k.2.2 i j t (h.2.2 i j t d)⟩
theorem lh.tF {a b:Sets} (h:lh a b) (k:lh b a):a=b:=by
 refine List.ext_getElem h.1 λi h1 f=>?_
 have d:a.getD i []=a[i]:=by simp[aaq,h1]
 have e:b.getD i []=b[i]:=by simp[aaq,f]
 refine List.ext_getElem (by rw[<-d,<-e];exact h.2.1 i) λj g l=>?_
 have g1:ej a i j=a[i][j]:=by rw[ej,d];simp[aaq,g]
 have g2:ej b i j=b[i][j]:=by rw[ej,e];simp[aaq,l]
 rw[<-g1,<-g2]
 refine yB λt _=>?_
 have p:=h.2.2 i j t
 have q:=k.2.2 i j t
 cases c:(ej a i j).getLsbD t with
 | true=>rw[p c]
 | false =>
  cases m:(ej b i j).getLsbD t with
  | false=>rfl
  | true=>rw[q m] at c;exact absurd c (by simp)
theorem lL {l:List aA} {row:List BV} {x:aA} {s:BV} (h:row.length=l.length):(jV l row x s).length=row.length:=by
 simp[jV,h]
theorem Mj {l:List aA} {row:List BV} {x:aA} {s:BV} (h:row.length=l.length) (k:Nat):(jV l row x s).getD k 0=if l[k]?=some x then row.getD k 0 ||| s else row.getD k 0:=by
 rw[jV,aaq,List.getElem?_zipWith,aaq]
 by_cases hk:k < l.length
 .have h1:l[k]?=some l[k]:=aar hk
  have a:row[k]?=some (row[k]'(by omega)):=aar (by omega)
  rw[h1,a]
  simp
 .rw[aa1 (by omega),aa1 (by omega)]
  simp
theorem dZ {α:Type} (l:List α) (i j:Nat) (x d:α):(l.set i x).getD j d=if i=j/\i < l.length then x else l.getD j d:=by
 simp only[aaq,abV]
 by_cases e:i=j
 .subst e
  by_cases h:i < l.length
  .simp[h]
  .simp[h]
 .simp[e]
theorem wQ {ls:List (List aA)} {ss:Sets} (hs:lp ls ss) {st:Nat} (a:st < ls.length) (x:aA) (s:BV) (i k:Nat) :
  ej (fW ls ss st x s) i k=if i=st/\(ls.getD st [])[k]?=some x then ej ss i k ||| s else ej ss i k:=by
 have hl:=hs.1
 unfold ej fW
 rw[dZ]
 by_cases e:st=i
 .subst e
  rw[aaw ⟨rfl,by omega⟩,Mj (hs.2 st)]
  simp
 .rw[aat (λh=>e h.1),aat (λh=>e h.1.symm)]
theorem js {ls:List (List aA)} {ss:Sets} (hs:lp ls ss) {st:Nat} (_:st < ls.length) (x:aA) (s:BV):lp ls (fW ls ss st x s):=by
 refine⟨by rw[fW,aca];exact hs.1,λi=>?_⟩
 have hl:=hs.1
 unfold fW
 rw[dZ]
 split
 .rename_i h
  obtain⟨rfl,_⟩:=h
  rw[lL (hs.2 st)];exact hs.2 st
 .exact hs.2 i
theorem lp.eq {ls:List (List aA)} {a b:Sets} (h:lp ls a) (k:lp ls b):a.length=b.length/\∀ i:Nat,(a.getD i []).length=(b.getD i []).length:=⟨h.1.trans k.1.symm,λi=>(h.2 i).trans (k.2 i).symm⟩
theorem mK {ls:List (List aA)} {ss:Sets} (hs:lp ls ss) {st:Nat} (a:st < ls.length) (x:aA) (s:BV):lh ss (fW ls ss st x s):=by
 refine⟨(hs.eq (js hs a x s)).1,(hs.eq (js hs a x s)).2,λi k t b=>?_⟩
 rw[wQ hs a]
 split
 .rw[aa5,b];rfl
 .exact b
theorem HJ {ls:List (List aA)} {ss:Sets} (hs:lp ls ss) {st:Nat} (a:st < ls.length) {x:aA} {s:BV} (h:fW ls ss st x s=ss) {k:Nat} (hk:(ls.getD st [])[k]?=some x):iL s (ej ss st k):=by
 have:=wQ hs a x s st k
 rw[h,aaw ⟨rfl,hk⟩] at this
 intro t b
 rw[this,aa5,b,Bool.or_true]
def dC (g:ai) (x:aA):List Int:=if 0<=x.ax then (aw g x.ax).right.drop (x.dot+1).toNat else []
def fG (g:ai) (ls:List (List aA)) (st:Nat) (s:Int) (b:BV) (ss:Sets) (n:Nat):Sets:=(List.range n).foldl (λss (k:Nat)=>if (aw g k).left = -1 - s then fW ls ss st ⟨k,0⟩ b else ss) ss
def jL (g:ai) (null:List Bool) (a:List aL) (ls:List (List aA)) (i k:Nat) (ss:Sets):Sets :=
 if (bp g ((ls.getD i []).getD k ⟨0,0⟩)).2=false∨ej ss i k=0 then ss
 else if 0<=(bp g ((ls.getD i []).getD k ⟨0,0⟩)).1 then fW ls ss (ef a i [(bp g ((ls.getD i []).getD k ⟨0,0⟩)).1]).1.toNat ⟨((ls.getD i []).getD k ⟨0,0⟩).ax,((ls.getD i []).getD k ⟨0,0⟩).dot+1⟩ (ej ss i k)
 else fG g ls i (bp g ((ls.getD i []).getD k ⟨0,0⟩)).1 (ed null (cZ g null) (ej ss i k) (dC g ((ls.getD i []).getD k ⟨0,0⟩)))
  (fW ls ss (ef a i [(bp g ((ls.getD i []).getD k ⟨0,0⟩)).1]).1.toNat ⟨((ls.getD i []).getD k ⟨0,0⟩).ax,((ls.getD i []).getD k ⟨0,0⟩).dot+1⟩ (ej ss i k)) g.rules.length
inductive ll (g:ai) (null:List Bool) (a:List aL) (ls:List (List aA)):Nat->aA->Nat->Prop
 | start:(⟨-1,0⟩:aA)∈ls.getD 0 []->ll g null a ls 0 ⟨-1,0⟩ g.af.length
 | move {i:Nat} {x:aA} {t:Nat} {s:Int} : ll g null a ls i x t->bp g x=(s,true)->(⟨x.ax,x.dot+1⟩:aA)∈ls.getD (ef a i [s]).1.toNat []->ll g null a ls (ef a i [s]).1.toNat ⟨x.ax,x.dot+1⟩ t
 | begin {i:Nat} {x:aA} {t u:Nat} {s:Int} {k:Nat} : ll g null a ls i x t->bp g x=(s,true)->s < 0->k < g.rules.length->(aw g k).left = -1 - s->(⟨k,0⟩:aA)∈ls.getD i [] ->
  (ed null (cZ g null) (BitVec.twoPow 32 t) (dC g x)).getLsbD u=true->ll g null a ls i ⟨k,0⟩ u
theorem ll.mem {g:ai} {null:List Bool} {a:List aL} {ls:List (List aA)} {i:Nat} {x:aA} {t:Nat} (h:ll g null a ls i x t):x∈ls.getD i []:=by
 cases h <;> assumption
def mI (g:ai) (null:List Bool) (a:List aL) (ls:List (List aA)) (ss:Sets):Prop:=∀ i k x t,(ls.getD i [])[k]?=some x->(ej ss i k).getLsbD t=true->ll g null a ls i x t
section
variable {g:ai} {null:List Bool} {a:List aL} {ls:List (List aA)}
theorem uP (b:ls.length=a.length) (h1:1<=a.length) (i:Nat) (l:List Int):(ef a i l).1.toNat < ls.length:=by
 unfold ef
 split
 .simp;omega
 .rename_i h
  have:=BJ (a:=a) l (i:Int) (by omega) (by omega)
  omega
theorem xy {ss:Sets} (hs:lp ls ss) (hd:mI g null a ls ss) {st:Nat} (d:st < ls.length) {x:aA} {s:BV} (h:∀ t,s.getLsbD t=true->x∈ls.getD st []->ll g null a ls st x t):mI g null a ls (fW ls ss st x s):=by
 intro i k y t c b
 rw[wQ hs d] at b
 split at b
 .rename_i e
  obtain⟨rfl,hk⟩:=e
  rw[hk] at c
  simp only[aau] at c
  subst c
  rw[aa5,abt] at b
  rcases b with b | b
  .exact hd i k x t hk b
  .exact h t b (aax hk)
 .exact hd i k y t c b
theorem kX {st:Nat} (a:st < ls.length) (s:Int) (b:BV):∀ (n:Nat) (ss:Sets),lp ls ss->lp ls (fG g ls st s b ss n)/\lh ss (fG g ls st s b ss n)
 | 0,ss,hs=>⟨hs,.refl⟩
 | n+1,ss,hs=>by
  obtain⟨h1,c⟩:=kX a s b n ss hs
  unfold fG at h1 c ⊢
  rw[abi,abe]
  simp only[aaR,abL]
  split
  .exact⟨js h1 a _ _,c.trans (mK h1 a _ _)⟩
  .exact⟨h1,c⟩
theorem Au {st:Nat} (c:st < ls.length) (s:Int) (b:BV) (e:∀ (k:Nat) t,(aw g k).left = -1 - s->k < g.rules.length->b.getLsbD t=true->(⟨k,0⟩:aA)∈ls.getD st []->ll g null a ls st ⟨k,0⟩ t):∀ (n:Nat) (ss:Sets),n<=g.rules.length->lp ls ss->mI g null a ls ss->mI g null a ls (fG g ls st s b ss n)
 | 0,ss,_,_,hd=>hd
 | n+1,ss,h,hs,hd=>by
  have h1:=(kX (g:=g) c s b n ss hs).1
  have d:=Au c s b e n ss (by omega) hs hd
  unfold fG at h1 d ⊢
  rw[abi,abe]
  simp only[aaR,abL]
  split
  .rename_i hl
   exact xy h1 d c λt f hm=>e n t hl (by omega) f hm
  .exact d
theorem C3 {st:Nat} (c:st < ls.length) (s:Int) (b:BV):∀ (n:Nat) (ss:Sets),lp ls ss->fG g ls st s b ss n=ss->∀ k:Nat,k < n->(aw g k).left = -1 - s->fW ls ss st ⟨k,0⟩ b=ss
 | 0,ss,_,_,k,hk,_=>by omega
 | n+1,ss,hs,he,k,hk,hl=>by
  obtain⟨h1,f⟩:=kX (g:=g) c s b n ss hs
  have e:fG g ls st s b ss (n+1)=if (aw g n).left = -1 - s then fW ls (fG g ls st s b ss n) st ⟨n,0⟩ b else fG g ls st s b ss n:=by
   unfold fG
   rw[abi,abe]
   rfl
  have a:fG g ls st s b ss n=ss:=by
   refine lh.tF ?_ f
   rw[e] at he
   split at he
   .exact Eq.mp (abk (lh _) he) (mK h1 c _ _)
   .rw[he];exact .refl
  by_cases d:k=n
  .subst d
   rw[e,aaw hl,a] at he
   exact he
  .exact C3 c s b n ss hs a k (by omega) hl
theorem Lw (b:ls.length=a.length) (h1:1<=a.length) {i:Nat} (hi:i < ls.length) (k:Nat) {ss:Sets} (hs:lp ls ss):lp ls (jL g null a ls i k ss)/\lh ss (jL g null a ls i k ss):=by
 unfold jL
 split
 .exact⟨hs,.refl⟩
 .have hw:=uP b h1 i [(bp g ((ls.getD i []).getD k ⟨0,0⟩)).1]
  split
  .exact⟨js hs hw _ _,mK hs hw _ _⟩
  .have:=kX (g:=g) hi (bp g ((ls.getD i []).getD k ⟨0,0⟩)).1 (ed null (cZ g null) (ej ss i k) (dC g ((ls.getD i []).getD k ⟨0,0⟩))) g.rules.length _ (js hs hw ⟨((ls.getD i []).getD k ⟨0,0⟩).ax,((ls.getD i []).getD k ⟨0,0⟩).dot+1⟩ (ej ss i k))
   exact⟨this.1,(mK hs hw _ _).trans this.2⟩
theorem Mx (b:ls.length=a.length) (h1:1<=a.length) {i k:Nat} (hi:i < ls.length) (hk:k < (ls.getD i []).length) {ss:Sets} (hs:lp ls ss) (hd:mI g null a ls ss):mI g null a ls (jL g null a ls i k ss):=by
 have c:(ls.getD i [])[k]?=some ((ls.getD i []).getD k ⟨0,0⟩):=getD_some hk
 unfold jL
 generalize (ls.getD i []).getD k ⟨0,0⟩=x at c ⊢
 split
 .exact hd
 .rename_i d
  have e:bp g x=((bp g x).1,true):=by
   cases h:(bp g x).2 with
   | false=>exact absurd (.inl h) d
   | true=>rw[<-h]
  have j:ej ss i k≠0:=λh=>d (.inr h)
  have hw:=uP b h1 i [(bp g x).1]
  have d1:=xy hs hd hw (x:=⟨x.ax,x.dot+1⟩) (s:=ej ss i k) λt l hm=>ll.move (hd i k x t c l) e hm
  split
  .exact d1
  .rename_i f
   refine Au hi _ _ (λq u hl hq hu hm=>?_) _ _ (aaD _) (js hs hw _ _) d1
   obtain⟨t,m,n⟩:=Xu _ _ hu j
   exact ll.begin (hd i k x t c m) e (by omega) hq hl hm n
theorem Tq (f:ls.length=a.length) (h1:1<=a.length) {ss:Sets} (hs:lp ls ss) (w:∀ k,(ls.getD 0 [])[k]?=some ⟨-1,0⟩->(ej ss 0 k).getLsbD g.af.length=true)
  (r:∀ i k,i < ls.length->k < (ls.getD i []).length->jL g null a ls i k ss=ss) {i:Nat} {x:aA} {t:Nat} (h:ll g null a ls i x t):∀ k,(ls.getD i [])[k]?=some x->(ej ss i k).getLsbD t=true:=by
 have key:∀ {i:Nat} {x:aA} {t:Nat},ll g null a ls i x t->(∀ k,(ls.getD i [])[k]?=some x->(ej ss i k).getLsbD t=true)->∃ k,(ls.getD i [])[k]?=some x/\i < ls.length/\k < (ls.getD i []).length/\(ej ss i k).getLsbD t=true:=by
  intro i x t h l
  obtain⟨k,hk,e⟩:=abv.1 h.mem
  have d:(ls.getD i [])[k]?=some x:=by rw[aar hk,e]
  refine⟨k,d,?_,hk,l k d⟩
  rcases aaT i ls.length with h | h
  .exact h
  .rw[aaq,aa1 h] at hk;simp at hk
 induction h with
 | start=>exact w
 | @move i x t s hl m hm l =>
  intro j n
  obtain⟨k,d,hi,hk,b⟩:=key hl l
  have hp:=r i k hi hk
  have c:(ls.getD i []).getD k ⟨0,0⟩=x:=by rw[aaq,d];rfl
  have o:¬ ej ss i k=0:=λe=>by rw[e] at b;simp at b
  unfold jL at hp
  rw[c,m,aat (λh=>h.elim (by simp) o)] at hp
  simp only at hp
  have hw:=uP f h1 i [s]
  have p:fW ls ss (ef a i [s]).1.toNat ⟨x.ax,x.dot+1⟩ (ej ss i k)=ss:=by
   split at hp
   .exact hp
   .exact lh.tF (Eq.mp (abk (lh _) hp) (kX hi _ _ _ _ (js hs hw _ _)).2) (mK hs hw _ _)
  exact HJ hs hw p n t b
 | @begin i x t u s q hl m v hq y hm hu l =>
  intro j n
  obtain⟨k,d,hi,hk,b⟩:=key hl l
  have hp:=r i k hi hk
  have c:(ls.getD i []).getD k ⟨0,0⟩=x:=by rw[aaq,d];rfl
  have o:¬ ej ss i k=0:=λe=>by rw[e] at b;simp at b
  unfold jL at hp
  rw[c,m,aat (λh=>h.elim (by simp) o)] at hp
  simp only at hp
  have hw:=uP f h1 i [s]
  rw[aat (by omega)] at hp
  have p:fW ls ss (ef a i [s]).1.toNat ⟨x.ax,x.dot+1⟩ (ej ss i k)=ss:=by
   exact lh.tF (Eq.mp (abk (lh _) hp) (kX hi _ _ _ _ (js hs hw _ _)).2) (mK hs hw _ _)
  rw[p] at hp
  have:=C3 hi _ _ _ _ hs hp q hq y
  exact HJ hs hi this n u (LO (OR b) _ _ hu)
def yS (l:List BV):Nat:=(l.map BitVec.toNat).sum
def Bd (ss:Sets):Nat:=(ss.map yS).sum
theorem Nf:∀ {a b:List BV},a.length=b.length->(∀ k:Nat,iL (a.getD k 0) (b.getD k 0))->yS a<=yS b/\(a≠b->yS a < yS b)
 | [],[],_,_=>⟨aaD _,λh=>absurd rfl h⟩
 | [],_ :: _,h,_=>by simp at h
 | _ :: _,[],h,_=>by simp at h
 | x :: a,y :: b,h,hs=>by
  obtain⟨h1,f⟩:=Nf (a:=a) (b:=b) (by simpa using h) λk=>by simpa using hs (k+1)
  have g:iL x y:=by simpa using hs 0
  have e:=GF.2 g
  have i:x.toNat<=y.toNat:=by have:=YX y x;rw[BitVec.or_comm] at e;rw[e] at this;exact this
  simp only[yS,aaW,List.sum_cons] at h1 f ⊢
  refine⟨by omega,λd=>?_⟩
  by_cases c:x=y
  .subst c
   have:=f λe=>d (by rw[e])
   omega
  .have:x.toNat≠y.toNat:=λe=>c (BitVec.eq_of_toNat_eq e)
   omega
theorem MM:∀ {a b:Sets},lh a b->Bd a<=Bd b/\(a≠b->Bd a < Bd b)
 | [],[],_=>⟨aaD _,λh=>absurd rfl h⟩
 | [],_ :: _,h=>by have:=h.1;simp at this
 | _ :: _,[],h=>by have:=h.1;simp at this
 | x :: a,y :: b,h=>by
  obtain⟨h1,f⟩:=MM (a:=a) (b:=b) ⟨by simpa using h.1,λi=>by simpa using h.2.1 (i+1),λi k=>by simpa [ej] using h.2.2 (i+1) k⟩
  obtain⟨j,g⟩:=Nf (a:=x) (b:=y) (by simpa using h.2.1 0) λk=>by simpa [ej] using h.2.2 0 k
  simp only[Bd,aaW,List.sum_cons] at h1 f ⊢
  refine⟨by omega,λd=>?_⟩
  by_cases c:x=y
  .subst c
   have:=f λe=>d (by rw[e])
   omega
  .have:=g c
   omega
theorem Lv:∀ l:List BV,yS l<=l.length * 4294967296
 | []=>by simp[yS]
 | x :: l=>by
  have:=Lv l
  have a:=x.isLt
  simp only[yS,aaW,List.sum_cons,aaK] at this ⊢
  omega
def VM (ls:List (List aA)):Nat:=(ls.map λl=>l.length * 4294967296).sum
theorem JK:∀ {ls:List (List aA)} {ss:Sets},lp ls ss->Bd ss<=VM ls
 | [],[],_=>aaD _
 | [],_ :: _,h=>by have:=h.1;simp at this
 | _ :: _,[],h=>by have:=h.1;simp at this
 | l :: ls,x :: ss,h=>by
  have h1:=JK (ls:=ls) (ss:=ss) ⟨by simpa using h.1,λi=>by simpa using h.2 (i+1)⟩
  have a:=Lv x
  have b:x.length=l.length:=by simpa using h.2 0
  simp only[Bd,VM,aaW,List.sum_cons] at h1 ⊢
  rw[b] at a
  omega
end
theorem uj {g:ai} (a:g.dM) : -100<=g.start/\g.start<=100:=by
 have:=a.lf;have:=a.start;have:=a.ak;omega
theorem DB (g:ai) (b:g.dM) (x:aA) (a:cG g x):az Tryz.prog 51 [.agg (ag g),.agg (bF x)] (.bD [gi (bp g x).1,gb (bp g x).2]) :=
 Rz g (uj b) x a.1 a.2 (by have:=fy b a.1;omega)
theorem ta {l:List aA} {i:Nat} {y:aA} (h:l[i]?=some y):(aV l).getD i []=[gi y.ax,gi y.dot]:=by simp[aV,aaq,h,bF]
theorem bI (l:List aA):(aV l).length=l.length:=by simp[aV]
theorem ue {g:ai} {x:aA} {s:Int} {b:Bool} (c:g.dM) (e:cG g x) (h:bp g x=(s,b)) : -1000<=s/\s<=1000:=by
 have a:∀ s∈aP g x.ax,-1000<=s/\s<=1000:=by
  intro s hs
  unfold aP at hs
  split at hs
  .simp at hs;subst hs;have:=uj c;omega
  .have f:g.rules[x.ax.toNat]?=some (aw g x.ax):=by unfold aw;exact getD_some (by have:=e.1;omega)
   have h1:=c.sym _ (aax f) s hs
   have:=c.af;have:=c.ak
   unfold fP at h1
   split at h1 <;> simp at h1 <;> omega
 unfold bp at h
 split at h
 .simp at h;omega
 .rename_i hd
  simp only[aay] at h
  have d:x.dot.toNat < (aP g x.ax).length:=by have:=e.2;omega
  rw[<-h.1]
  exact a _ (aax (getD_some d))
def nJ:SC :=
 ae [ae [ab [aa 12 6,aa 13 1,aM 14 13,aQ 15 .lss 12 14],bS 15 (.exit 0)],.block 1 (ab [aa 18 5,aa 19 1,aa 20 6,aI 21 2 19 20,aY 22 2 21,bm 23 108 [18,22],aa 5 23]),ab [aa 16 6,aF 17 .add 16 1,aa 6 17]]
def jQ:SC :=
 ae [ae [.region false [⟨none,[aa 41 9,aa 42 41]⟩,⟨(some (42,true)),[aa 43 8,aF 44 .lss 43 0]⟩,⟨none,[eC 45 42 44,aa 46 45]⟩,⟨(some (46,true)),[aa 47 11,ao 48 2 2,aj 49 48,aM 50 49,aQ 51 .lss 47 50]⟩,⟨none,[eC 52 46 51]⟩],bS 52 (.exit 4)],.block 5 (ae [ab [ao 55 2 2,aj 56 55,aa 57 11,aI 58 3 56 57,ao 59 0 58,aj 60 59,aa 61 8,((some 62),.op (.arith .sub (.val (.val (.int .i64 (-1)))) (.tmp 61))),aQ 63 .eql 60 62],bf 63 (ab [aa 64 5,aa 65 11,((some 66),.op (.build [(.val (.int .i64 0)),(.val (.int .i64 0))] [(0,1,(.tmp 65))])),bm 67 108 [64,66],aa 5 67])]),ab [aa 53 11,aF 54 .add 53 1,aa 11 54]]
def nM:SC :=
 ae [ae [ab [aa 24 7,aa 25 5,aM 26 25,aQ 27 .lss 24 26],bS 27 (.exit 2)],.block 3 (ae [ab [aY 31 4 2,aa 32 5,aa 33 7,aI 34 2 32 33,aY 35 2 34,bm 36 51 [31,35],aa 30 36,eP 37 0 30,eP 38 1 30,aa 8 37,aa 9 38],ab [aa 39 5,aM 40 39,aa 10 40],ae [ab [aT 11 0],bX 4 jQ],ab [aa 68 5,aM 69 68,aa 70 10,aQ 71 .gtr 69 70],bf 71 (ab [aT 7 (-1)])]),ab [aa 28 7,aF 29 .add 28 1,aa 7 29]]
def pq:SF:=⟨ae [ab [cy 2 0,cT 4 1],ab [cT 5 1],ae [ab [aT 6 0],bX 0 nJ],ae [ab [aT 7 0],bX 2 nM],ab [aa 72 5,aa 4 72],.ret],
 [.tmp 4],73⟩
theorem uO:aO Tryz.prog 60 [2]=some pq:=by kernel_rfl
def pG:SC :=
 ae [ae [ab [aa 11 8,aa 12 1,aM 13 12,aQ 14 .lss 11 13],bS 14 (.exit 0)],.block 1 (ae [ab [aY 18 4 3,aa 19 1,aa 20 8,aI 21 2 19 20,aY 22 2 21,bm 23 51 [18,22],aa 17 23,eP 24 0 17,eP 25 1 17,aa 9 24,aa 10 25],.region false [⟨none,[aa 26 10,aa 27 26]⟩,⟨(some (27,true)),[aa 28 9,aa 29 2,aQ 30 .eql 28 29]⟩,⟨none,[eC 31 27 30]⟩],bf 31 (ab [aa 32 7,aa 33 1,aa 34 8,aI 35 2 33 34,ao 36 0 35,aj 37 36,aa 38 1,aa 39 8,aI 40 2 38 39,ao 41 1 40,aj 42 41,aF 43 .add 42 1,((some 44),.op (.build [(.val (.int .i64 0)),(.val (.int .i64 0))] [(0,1,(.tmp 37)),(1,1,(.tmp 43))])),bm 45 108 [32,44],aa 7 45])]),ab [aa 15 8,aF 16 .add 15 1,aa 8 16]]
def rp:SF:=⟨ae [ab [cy 3 0,cT 6 1],ab [cT 7 1],ae [ab [aT 8 0],bX 0 pG],ab [aa 46 7,aa 6 46],.ret],
 [.tmp 6],47⟩
theorem wX:aO Tryz.prog 66 [3]=some rp:=by kernel_rfl
def pr:SC :=
 ae [ae [ab [aa 11 5,aa 12 0,aM 13 12,aQ 14 .lss 11 13],bS 14 (.exit 0)],.block 1 (ae [ab [aa 17 0,aa 18 5,aI 19 2 17 18,aY 20 2 19,aa 21 1,aa 22 5,aI 23 2 21 22,aY 24 2 23,((some 25),.op (.old (.binOp .neq 33 (.tmp 20) (.tmp 24) 33) 4))],bf 25 (ae [ab [bw 4 false],.ret])]),ab [aa 15 5,aF 16 .add 15 1,aa 5 16]]
def qX:SF:=⟨ae [ab [bw 4 false],ae [ab [aa 6 0,aM 7 6,aa 8 1,aM 9 8,aQ 10 .neq 7 9],bf 10 (ae [ab [bw 4 false],.ret])],ae [ab [aT 5 0],bX 0 pr],ab [bw 4 true],.ret],
 [.tmp 4],26⟩
theorem w5:aO Tryz.prog 21 []=some qX:=by kernel_rfl
def qE:SF:=⟨ae [ab [cy 2 0,aT 4 0],ae [ab [aa 5 1,ao 6 0 2,aj 7 6,aM 8 7,aQ 9 .lss 5 8],bf 9 (ae [ab [aa 10 1,aa 4 10],.ret])],ab [aa 11 1,ao 12 0 2,aj 13 12,aM 14 13,aQ 15 .sub 11 14,((some 16),.op (.arith .sub (.val (.val (.int .i64 (-1)))) (.tmp 15))),aa 4 16],.ret],
 [.tmp 4],17⟩
theorem vQ:aO Tryz.prog 65 [2]=some qE:=by kernel_rfl
def YQ (g:ai) (out:List aA) (x:aA):Prop:=∀ (s:Int) (k:Nat) (R:bg),bp g x=(s,true)->s < 0->g.rules[k]?=some R->R.left = -1 - s->(⟨k,0⟩:aA)∈out
def VF (g:ai) (l:List aA) (H:View) (m:Nat) (T:Env) (H':View):Prop:=∃ (i:Nat) (r:V) (out:List aA),m=(300 - out.length) * 1000+(300 - i)/\i<=out.length/\ba H' r 2 (aV out)/\dI H H' r/\cB out/\(∀ x∈out,oW g l x)/\(∀ x∈l,x∈out)/\(∀ j x,j < i->out[j]?=some x->YQ g out x) /\
 T 2=.aH (ag g) 0/\T 5=r/\T 7=gi i
theorem Cp (g:ai) (J:g.dM) (l:List aA) (hl:∀ x∈l,cG g x) (hn:l.length<=10000) (u:V) (H:View) (ho:ba H u 2 (aV l)):av Tryz.prog 60 [.agg (ag g),u] H λr H'=>ba H' r 2 (aV (cL g l))/\dI H H' r:=by
 refine av.of mixed uO ?_
 have hlen:cU u=some l.length:=by rw[ho.len];simp[aV]
 have bn:=J.rules
 simp(disch:=omega)only[↓wr,seval,wq,pq,ag,encS]
 refine aS.up l.length (λi T H'=>∃ (r:V) (out:List aA),ba H' r 2 (aV out)/\dI H H' r/\cB out/\(∀ x,x∈out↔x∈l.take i)/\out.length<=287/\T 1=u/\T 2=.aH (ag g) 0/\T 5=r/\T 6=gi i)
  ⟨.emp 1,[],.nil,.emp,.nil,by simp,by simp,rfl,rfl,rfl,rfl⟩ ?_
 rintro i k T H' hk ⟨r,out,D,fr,n,hm,hle,t1,t2,t5,t6⟩
 simp(disch:=omega)only[↓wr,seval,wq,nJ,t1,t2,t5,t6,hlen]
 apply ah.dec<;>intro hc
 .have N:l[i]?=some (l[i]'(by omega)):=aar (by omega)
  have W:l.take (i+1)=l.take i ++ [l[i]'(by omega)]:=by rw[aaQ,N];rfl
  generalize l[i]'(by omega)=y at N W
  obtain⟨id,hu,t⟩:=ho.sl (by simp[aV];omega)
  have X:H' id=.arr 2 (aV l):=by rw[(fr id (by rw[t];simp)).1,t]
  simp(disch:=omega)only[↓wr,seval,wq,t1,t2,t5,t6,hu,X,ta N]
  refine⟨by first | omega | (simp[aV];omega),by first | omega | (simp[aV];omega),?_⟩
  refine ay.dr ((Ek r out (by omega) y H' D).mono ?_)
  rintro p H2 ⟨O,l2⟩
  simp(disch:=omega)only[↓wr,seval,wq,t1,t2,t5,t6]
  have Y:∀ x,x∈fj out y↔x∈l.take (i+1):=λx=>by
   rw[kI,W,aaZ,hm,abq,or_comm]
  have Z:=uC (x:=y) n
  exact aC hk (by omega) ⟨p,fj out y,O,fr.step l2,Z,Y,gK J Z (λx b=>hl x (List.mem_of_mem_take ((Y x).1 b))),t1,t2,rfl,rfl⟩
 rw[aaJ (by omega)] at hm
 simp(disch:=omega)only[↓wr,seval,wq,t1,t2,t5,t6]
 refine aS.intro (VF g l H) ((300 - out.length) * 1000+300)
  ⟨0,r,out,by omega,ab5 _,D,fr,n,λx b=>.base ((hm x).1 b),λx b=>(hm x).2 b,λj x hj=>by omega,t2,t5,rfl⟩ ?_
 clear D fr n hm hle t1 t2 t5 t6 hc hk
 rintro m T1 H1 ⟨i,r,out,rfl,hi,D,fr,n,E,P,an,t2,t5,t7⟩
 have K:∀ x∈out,cG g x:=λx b=>(E x b).has hl
 have hle:=gK J n K
 have a7:cU r=some out.length:=by rw[D.len,bI]
 simp(disch:=omega)only[↓wr,seval,wq,nM,t2,t5,t7,a7]
 apply ah.dec<;>intro hc
 .have N:out[i]?=some (out[i]'(by omega)):=aar (by omega)
  have Q:=K _ (aaC (show i < out.length by omega))
  have aq:=E _ (aaC (show i < out.length by omega))
  generalize out[i]'(by omega)=y at N Q aq
  have h1:=DB g J y Q
  cases F:bp g y with
  | mk s G =>
  have bq:=ue J Q F
  rw[F] at h1
  obtain⟨id,hu,t⟩:=D.sl (by simp[aV];omega)
  rw[bI] at hu
  simp only[ag,encS,bF] at h1
  simp(disch:=omega)only[↓wr,seval,wq,t2,t5,t7,hu,t,ta N,ag,encS]
  refine⟨by first | omega | (simp[aV];omega),by first | omega | (simp[aV];omega),?_⟩
  refine ay.pure h1 ?_
  simp(disch:=omega)only[↓wr,seval,wq,t2,t5,t7,hu]
  refine aS.up g.rules.length (λk T H'=>∃ (p:V) (a:List aA),ba H' p 2 (aV a)/\dI H H' p/\cB a/\(∀ x∈a,oW g l x)/\(∀ x∈out,x∈a)/\out.length<=a.length/\(a.length=out.length->a=out) /\
   (∀ (q:Nat) (R:bg),q < k->G=true->s < 0->g.rules[q]?=some R->R.left = -1 - s->(⟨q,0⟩:aA)∈a)/\T 2=.aH (ag g) 0/\T 5=p/\T 7=gi i/\T 8=gi s/\T 9=gb G/\T 10=gi out.length/\T 11=gi k)
   ⟨r,out,D,fr,n,E,λx b=>b,aaD _,λ_=>rfl,λq R hq=>by omega,t2,by rw[<-hu];exact t5,t7,rfl,rfl,rfl,rfl⟩ ?_
  clear D fr t2 t5 t7 t hu
  rintro k j T2 H2 hk ⟨p,a,O,I,c,d,v,S,o,w,t2,t5,t7,t8,t9,t10,t11⟩
  have U:∀ x∈a,cG g x:=λx b=>(d x b).has hl
  have bl:=gK J c U
  have f:cU p=some a.length:=by rw[O.len,bI]
  have more:out.length < a.length->∀ z:Env,z 2=.aH (ag g) 0->z 5=p->z 7=gi 0->∃ k',k' < (300 - out.length) * 1000+(300 - i)/\VF g l H k' z H2:=λh z e2 e5 e7 =>
   ⟨(300 - a.length) * 1000+300,by omega,0,p,a,by omega,ab5 _,O,I,c,d,λx b=>v x (P x b),λj x hj=>by omega,e2,e5,e7⟩
  have stay:(G=true->s < 0->g.rules.length<=k)->¬ out.length < a.length->∀ z:Env,z 2=.aH (ag g) 0->z 5=p->z 7=gi ((i:Int)+1)->∃ k',k' < (300 - out.length) * 1000+(300 - i)/\VF g l H k' z H2:=λar h z e2 e5 e7=>by
   have e:=o (by omega)
   subst e
   refine⟨(300 - a.length) * 1000+(300 - (i+1)),by omega,i+1,p,a,rfl,by omega,O,I,c,d,P,λj x hj b=>?_,e2,e5,e7⟩
   rcases aaT j i with a1 | a1
   .exact an j x a1 b
   .have:j=i:=by omega
    subst this
    rw[N] at b
    simp only[aau] at b
    subst b
    intro s' q R h1 L A M
    rw[F] at h1
    simp only[aay] at h1
    obtain⟨rfl,rfl⟩:=h1
    have:=(aaG.1 A).1
    exact w q R (by have:=ar rfl L;omega) rfl L A M
  cases G with
  | false =>
   simp(disch:=omega)only[↓wr,seval,wq,jQ,t2,t5,t7,t8,t9,t10,t11,f]
   apply ah.dec<;>intro hg
   .simp(disch:=omega)only[↓wr,seval,wq,t2,t5,t7]
    exact more (by omega) _ t2 t5 rfl
   .simp(disch:=omega)only[↓wr,seval,wq,t2,t5,t7]
    exact stay (λh=>by simp at h) (by omega) _ t2 t5 rfl
  | true =>
   simp(disch:=omega)only[↓wr,seval,wq,jQ,t2,t5,t7,t8,t9,t10,t11,f,ag]
   apply ah.dec<;>intro B
   .simp(disch:=omega)only[↓wr,seval,wq,t2,t5,t7,t8,t9,t10,t11,f,ag]
    apply ah.dec<;>intro a8
    .have hR:g.rules[k]?=some (g.rules[k]'(by omega)):=aar (by omega)
     have hL:=J.left _ (aaC (show k < g.rules.length by omega))
     generalize g.rules[k]'(by omega)=R at hR hL
     simp(disch:=omega)only[↓wr,seval,wq,t2,t5,t7,t8,t9,t10,t11,ag,aU,aav,hR,aaz]
     apply ah.eq<;>intro he
     .simp(disch:=omega)only[↓wr,seval,wq,t2,t5,t7,t8,t9,t10,t11]
      refine ay.dr ((Ek p a (by omega) ⟨k,0⟩ H2 O).mono ?_)
      rintro r3 H3 ⟨o3,l3⟩
      simp(disch:=omega)only[↓wr,seval,wq,t2,t5,t7,t8,t9,t10,t11]
      have a6:oW g l ⟨k,0⟩:=.step aq F B hR he
      refine aC hk (by omega) ⟨r3,fj a ⟨k,0⟩,o3,I.step l3,uC c,λx b=>?_,λx b=>kI.2 (.inr (v x b)),by have:=IY a ⟨k,0⟩;omega,λh=>?_,λq R' hq L A M=>?_,t2,rfl,t7,t8,t9,t10,rfl⟩
      .rcases kI.1 b with rfl | b
       .exact a6
       .exact d x b
      .have bb:(⟨k,0⟩:aA)∈a:=abK λbd=>by
        have:=Fv bd;omega
       rw[FG c bb] at h ⊢
       exact o h
      .rcases aaT q k with C | C
       .exact kI.2 (.inr (w q R' C rfl L A M))
       .have:q=k:=by omega
        subst this
        exact kI.2 (.inl rfl)
     .simp(disch:=omega)only[↓wr,seval,wq,t2,t5,t7,t8,t9,t10,t11]
      refine aC hk (by omega) ⟨p,a,O,I,c,d,v,S,o,λq R' hq L A M=>?_,t2,t5,t7,t8,t9,t10,rfl⟩
      rcases aaT q k with C | C
      .exact w q R' C rfl L A M
      .have:q=k:=by omega
       subst this
       rw[hR] at A
       simp only[aau] at A
       subst A
       exact absurd M he
    .simp(disch:=omega)only[↓wr,seval,wq,t2,t5,t7,t8,t9,t10,t11,f]
     apply ah.dec<;>intro hg
     .simp(disch:=omega)only[↓wr,seval,wq,t2,t5,t7]
      exact more (by omega) _ t2 t5 rfl
     .simp(disch:=omega)only[↓wr,seval,wq,t2,t5,t7]
      exact stay (λ_ _=>by omega) (by omega) _ t2 t5 rfl
   .simp(disch:=omega)only[↓wr,seval,wq,t2,t5,t7,t8,t9,t10,t11,f]
    apply ah.dec<;>intro hg
    .simp(disch:=omega)only[↓wr,seval,wq,t2,t5,t7]
     exact more (by omega) _ t2 t5 rfl
    .simp(disch:=omega)only[↓wr,seval,wq,t2,t5,t7]
     exact stay (λ_ h=>absurd h B) (by omega) _ t2 t5 rfl
 .simp(disch:=omega)only[↓wr,seval,wq,t2,t5,t7]
  have br:i=out.length:=by omega
  rw[JD J hl n E P (λx b s k R h1 L A M=>by
   obtain⟨j,hj,e⟩:=abv.1 b
   exact an j x (by omega) (by rw[aar hj,e]) s k R h1 L A M)]
  exact⟨D,fr⟩
theorem Ph (g:ai) (m:g.dM) (l:List aA) (hs:cB l) (hl:∀ x∈l,cG g x) (s:Int) (u:V) (H:View) (t:ba H u 2 (aV l)):av Tryz.prog 66 [.agg (ag g),u,gi s] H λr H'=>ba H' r 2 (aV (bA g l s))/\dI H H' r:=by
 refine av.of mixed wX ?_
 have hlen:cU u=some l.length:=by rw[t.len];simp[aV]
 have hle:=gK m hs hl
 simp(disch:=omega)only[↓wr,seval,wq,rp,ag,encS]
 refine aS.up l.length (λi T H'=>∃ (r:V),ba H' r 2 (aV (bA g (l.take i) s))/\dI H H' r/\T 1=u/\T 2=gi s/\T 3=.aH (ag g) 0/\T 7=r/\T 8=gi i)
  ⟨.emp 1,.nil,.emp,rfl,rfl,rfl,rfl,rfl⟩ ?_
 rintro i k T H' hk ⟨r,h,fr,t1,t2,t3,t7,t8⟩
 simp(disch:=omega)only[↓wr,seval,wq,pG,t1,t2,t3,t7,t8,hlen]
 apply ah.dec<;>intro z
 .have j:l[i]?=some (l[i]'(by omega)):=aar (by omega)
  have b:=hl _ (aaC (show i < l.length by omega))
  have a:=Tu (g:=g) hs (show l[i]?=some (l[i]'(by omega)) from j) s
  generalize l[i]'(by omega)=y at j b a
  have h1:=DB g m y b
  cases c:bp g y with
  | mk q n =>
  rw[c] at h1
  obtain⟨id,hu,f⟩:=t.sl (by simp[aV];omega)
  have d:H' id=.arr 2 (aV l):=by rw[(fr id (by rw[f];simp)).1,f]
  rw[bI] at hu
  have v:=b.2
  have J:=fy m b.1
  have o:=vL (g:=g) (l:=l.take i) (s:=s)
  simp only[abc] at o
  simp only[ag,encS,bF] at h1
  simp(disch:=omega)only[↓wr,seval,wq,t1,t2,t3,t7,t8,hu,d,ta j,ag,encS]
  refine⟨by first | omega | (simp[aV];omega),by first | omega | (simp[aV];omega),?_⟩
  refine ay.pure h1 ?_
  have skip:¬ bp g y=(s,true)->∀ e:Env,e 1=u->e 2=gi s->e 3=.aH (ag g) 0->e 7=r->e 8=gi ((i:Int)+1)->∃ w,w < k/\Fl l.length w (λi T H'=>∃ (r:V),ba H' r 2 (aV (bA g (l.take i) s))/\dI H H' r/\T 1=u/\T 2=gi s/\T 3=.aH (ag g) 0/\T 7=r/\T 8=gi i) e H':=λp e A B C D E=>by
   rw[aat p] at a
   exact aC hk (by omega) ⟨r,by rw[a];exact h,fr,A,B,C,D,E⟩
  cases n with
  | false =>
   simp(disch:=omega)only[↓wr,seval,wq,t1,t2,t3,t7,t8]
   exact skip (by rw[c];simp) _ t1 t2 t3 t7 rfl
  | true =>
   simp(disch:=omega)only[↓wr,seval,wq,t1,t2,t3,t7,t8]
   apply ah.eq<;>intro he
   .simp(disch:=omega)only[↓wr,seval,wq,t1,t2,t3,t7,t8,hu,d,ta j]
    refine⟨by first | omega | (simp[aV];omega),by first | omega | (simp[aV];omega),?_⟩
    refine⟨by first | omega | (simp[aV];omega),by first | omega | (simp[aV];omega),?_⟩
    refine ay.dr ((Ek r (bA g (l.take i) s) (by omega) ⟨y.ax,y.dot+1⟩ H' h).mono ?_)
    rintro F K ⟨G,I⟩
    simp(disch:=omega)only[↓wr,seval,wq,t1,t2,t3,t7,t8]
    rw[aaw (by rw[c,he])] at a
    exact aC hk (by omega) ⟨F,by rw[a];exact G,fr.step I,t1,t2,t3,rfl,rfl⟩
   .simp(disch:=omega)only[↓wr,seval,wq,t1,t2,t3,t7,t8]
    exact skip (by rw[c];simp[he]) _ t1 t2 t3 t7 rfl
 .simp(disch:=omega)only[↓wr,seval,wq,t1,t2,t3,t7,t8]
  rw[aaJ (by omega)] at h
  exact⟨h,fr⟩
theorem Gf {g:ai} (a:g.dM) {i:Nat} (hi:i < g.af.length+g.ak.length) : -100<=bh g i/\bh g i<=100:=by
 have:=a.af;have:=a.ak
 unfold bh;split <;> omega
theorem Mh (g:ai) (a:g.dM) (i:Nat) (hi:i < g.af.length+g.ak.length):az Tryz.prog 65 [.agg (ag g),gi i] (gi (bh g i)):=by
 refine az.val (by
  intro v b;simp at b
  rcases b with rfl | rfl
  .exact cn _ (dq g)
  .exact .val _) λH=>?_
 have:=a.af;have:=a.ak
 refine av.of mixed vQ ?_
 unfold bh
 simp(disch:=omega)only[↓wr,seval,wq,qE,ag,encS]
 apply ah.dec<;>intro h
 .simp(disch:=omega)only[↓wr,seval,wq]
  rw[aaw (by omega)]
 .simp(disch:=omega)only[↓wr,seval,wq,ag]
  rw[aat (by omega)]
theorem uG (l:List aA):Tree (.aE (aV l)):=fe _ _ λx _ v a=>by simp[bF] at a;rcases a with rfl | rfl <;> exact .val _
theorem P1 (a b:List aA) (g:aK a) (j:aK b):az Tryz.prog 21 [.aE (aV a),.aE (aV b)] (gb (a == b)):=by
 unfold aK at g j
 refine az.val (by
  intro v f;simp at f
  rcases f with rfl | rfl <;> exact uG _) λH=>?_
 refine av.of mixed w5 ?_
 simp(disch:=omega)only[↓wr,seval,wq,qX,aV]
 apply ah.ne<;>intro h
 .simp(disch:=omega)only[↓wr,seval,wq]
  have:(a == b)=false:=by simp;rintro rfl;exact h rfl
  rw[this]
 .simp(disch:=omega)only[↓wr,seval,wq]
  refine aS.up a.length (λi T H'=>a.take i=b.take i/\T 0=.aE (aV a)/\T 1=.aE (aV b)/\T 5=gi i) ⟨rfl,rfl,rfl,rfl⟩ ?_
  rintro i k T H' hk ⟨he,t0,t1,t5⟩
  simp(disch:=omega)only[↓wr,seval,wq,pr,t0,t1,t5,aV]
  apply ah.dec<;>intro l
  .have d:a[i]?=some (a[i]'(by omega)):=aar (by omega)
   have c:b[i]?=some (b[i]'(by omega)):=aar (by omega)
   generalize a[i]'(by omega)=x at d
   generalize b[i]'(by omega)=y at c
   simp(disch:=omega)only[↓wr,seval,wq,t0,t1,t5,aV,aav,d,c,aaz,bF]
   refine iy (xs:=#[.int .i64 x.ax,.int .i64 x.dot]) (ys:=#[.int .i64 y.ax,.int .i64 y.dot]) Tryz.underlying33 (by kernel_rfl) (by kernel_rfl) ?_ ?_ (mO x y) (.inr ⟨rfl,rfl⟩) ?_
   .rfl
   .rfl
   rw[vf]
   simp(disch:=omega)only[↓wr,seval,wq,t0,t1,t5]
   apply ah.dec<;>intro e
   .simp(disch:=omega)only[↓wr,seval,wq,t0,t1,t5]
    exact aC hk (by omega) ⟨by rw[aaQ,aaQ,he,d,c,e],t0,t1,rfl⟩
   .simp(disch:=omega)only[↓wr,seval,wq]
    have:(a == b)=false:=by
     simp;rintro rfl
     rw[d] at c;simp at c;exact e c
    rw[this]
  .simp(disch:=omega)only[↓wr,seval,wq,t0,t1,t5]
   rw[aaJ (by omega),aaJ (by omega)] at he
   rw[he,ab1]
def Gy (p:Nat->Bool):Nat->BV
 | 0=>0
 | n+1=>if p n=true then Gy p n ||| BitVec.twoPow 32 n else Gy p n
theorem yI (p:Nat->Bool):∀ (n i:Nat),n<=32->((Gy p n).getLsbD i=true↔i < n/\p i=true)
 | 0,i,_=>by simp[Gy]
 | n+1,i,h=>by
  have c:=yI p n i (by omega)
  rw[Gy]
  split
  .rename_i hp
   rw[aa5,abt,c,abU]
   simp only[aaB,aaE]
   constructor
   .rintro (⟨h1,a⟩ | ⟨h1,rfl⟩)
    .exact⟨by omega,a⟩
    .exact⟨by omega,hp⟩
   .rintro⟨h1,a⟩
    rcases aaT i n with b | b
    .exact .inl ⟨b,a⟩
    .exact .inr ⟨by omega,by omega⟩
  .rename_i hp
   rw[c]
   constructor
   .rintro⟨h1,a⟩;exact⟨by omega,a⟩
   .rintro⟨h1,a⟩
    refine⟨?_,a⟩
    rcases aaT i n with b | b
    .exact b
    .have:i=n:=by omega
     subst this;exact absurd a hp
structure cb where
 ax:Int
 set:BV
 deriving DecidableEq
structure jH where
 state:Int
 term:Int
 kind:Int
 ax:Int
 other:Int
 deriving DecidableEq
noncomputable def bJ (g:ai):List aL × Int:=if isRed g=true then gz g 302 0 eA else ([],1)
noncomputable def aX (g:ai) (a:List aL):List (List aA):=a.map λs=>cL g s.bc
open Classical in
noncomputable def oX (g:ai) (a:List aL) (i:Nat) (x:aA):BV:=Gy (λt=>decide (ll g (au g false) a (aX g a) i x t)) 32
noncomputable def gB (g:ai) (a:List aL) (i:Nat):List cb:=((aX g a).getD i []).filterMap λx=>if (bp g x).2=false/\0<=x.ax then some ⟨x.ax,oX g a i x⟩ else none
noncomputable def gh (g:ai) (a:List aL):List (List cb):=(List.range a.length).map (gB g a)
noncomputable def oE (g:ai):List (List cb) × Int:=if (bJ g).2=0 then (gh g (bJ g).1,0) else ([],(bJ g).2)
def hasB (s:BV) (n:Int):Bool:=decide (s &&& dT n≠0)
def dt (l:List cb) (n:Int):List Int:=(l.filter λx=>hasB x.set n).map cb.ax
def ib (g:ai) (t:Int):Int:=match g.af[t.toNat]? with
 | some x=>x.level
 | none=>0
def yA (g:ai) (t:Int):Int:=match g.af[t.toNat]? with
 | some x=>x.assoc
 | none=>0
def fL (g:ai) (ax term:Int):Int :=
 if bC g=false∨ax < 0∨(g.rules.length:Int)<=ax∨term < 0∨(g.af.length:Int) < term then 0
 else if term=g.af.length∨(aw g ax).prec < 0∨ib g (aw g ax).prec=0∨ib g term=0 then 4
 else if ib g term < ib g (aw g ax).prec∨ib g (aw g ax).prec=ib g term/\yA g term=1 then 1
 else if ib g (aw g ax).prec < ib g term∨yA g term=2 then 2
 else 3
def gg:List cr->Int->Option Cell
 | [],_=>none
 | e :: l,s=>if e.sym=s then some ⟨1,e.to⟩ else gg l s
def eE (g:ai) (s:aL) (term:Int):Cell:=match gg s.aJ term with
 | some c=>c
 | none=>if term=g.af.length/\(⟨-1,1⟩:aA)∈s.bc then ⟨3,0⟩ else ⟨0,0⟩
def gf (state term r0:Int) (l:List Int):List jH:=l.map λr=>⟨state,term,5,r,r0⟩
def eV (g:ai) (s:aL) (l:List cb) (state term:Int):Cell × List jH:=match dt l term with
 | []=>(eE g s term,[])
 | r :: rs =>
  if (eE g s term).kind=0 then (⟨2,r⟩,gf state term r rs)
  else (if fL g r term=1 then ⟨2,r⟩ else if fL g r term=3 then ⟨0,0⟩ else eE g s term,gf state term r rs ++ [⟨state,term,fL g r term,r,-1⟩])
def fX (g:ai) (s:aL) (l:List cb) (state:Int) (n:Nat):List Cell:=(List.range n).map λ(k:Nat)=>(eV g s l state k).1
def tA (g:ai) (s:aL) (l:List cb) (state:Int) (n:Nat):List jH:=(List.range n).flatMap λ(k:Nat)=>(eV g s l state k).2
def CN (a:List aL) (i:Int) (k:Int):Int:=if (ef a i [-1 - k]).2=true then (ef a i [-1 - k]).1 else -1
def rL (g:ai) (a:List aL) (i:Int):List Int:=(List.range g.ak.length).map λ(k:Nat)=>CN a i k
def jG (g:ai) (a:List aL) (l:List (List cb)) (n:Nat):tU:=⟨(List.range n).map λ(i:Nat)=>fX g (a.getD i aN) (l.getD i []) i (g.af.length+1),(List.range n).map λ(i:Nat)=>rL g a i⟩
def rN (g:ai) (a:List aL) (l:List (List cb)) (n:Nat):List jH:=(List.range n).flatMap λ(i:Nat)=>tA g (a.getD i aN) (l.getD i []) i (g.af.length+1)
noncomputable def Cq (g:ai):tU × List jH × Int:=if (bJ g).2=0 then (jG g (bJ g).1 (oE g).1 (bJ g).1.length,rN g (bJ g).1 (oE g).1 (bJ g).1.length,0) else (⟨[],[]⟩,[],(bJ g).2)
structure ey (g:ai) (at_ i:Nat) (out:List aL):Prop where
 bc:∀ s∈out,cB s.bc/\s.bc≠[]/\∀ x∈s.bc,cG g x
 aJ:∀ j s,out[j]?=some s->s.aJ.length<=40/\(j=at_->s.aJ.length<=i)/\(at_ < j->s.aJ=[])
 to:∀ s∈out,∀ e∈s.aJ,0<=e.to/\e.to < out.length
 sym:∀ s∈out,∀ e∈s.aJ,-1000<=e.sym/\e.sym<=1000
theorem mem_modify {α:Type} {l:List α} {i:Nat} {f:α->α} {y:α} (h:y∈l.modify i f):y∈l∨∃ x,l[i]?=some x/\y=f x:=by
 obtain⟨j,a,e⟩:=abv.1 h
 simp only[List.length_modify] at a
 rw[List.getElem_modify] at e
 split at e
 .rename_i b
  subst b
  exact .inr ⟨l[i],aar a,e.symm⟩
 .exact .inl (e ▸ aaC a)
theorem QM (g:ai) (l:List aA) (at_:Nat) (out:List aL) (i:Nat):out.length<=(dA g l at_ out i).length/\(dA g l at_ out i).length<=out.length+1:=by
 unfold dA
 split
 .omega
 .split
  .simp
  .simp
theorem ey.put {g:ai} {at_ i:Nat} {out:List aL} (h:ey g at_ i out) (hi:i < 40) {s:Int} (hs : -1000<=s/\s<=1000) {to:Int} (c:0<=to/\to < out.length):ey g at_ (i+1) (out.modify at_ λx=>(⟨x.bc,x.aJ ++ [⟨s,to⟩]⟩:aL)):=by
 refine⟨λy a=>?_,λj y a=>?_,λy a e he=>?_,λy a e he=>?_⟩
 rotate_right
 .rcases mem_modify a with a | ⟨x,b,rfl⟩
  .exact h.sym y a e he
  .rcases aaZ.1 he with he | he
   .exact h.sym x (aax b) e he
   .simp at he;subst he;exact hs
 .rcases mem_modify a with a | ⟨x,b,rfl⟩
  .exact h.bc y a
  .exact h.bc x (aax b)
 .rw[List.getElem?_modify] at a
  cases b:out[j]? with
  | none=>rw[b] at a;simp at a
  | some x =>
   rw[b] at a
   have h1:=h.aJ j x b
   by_cases e:at_=j
   .subst e
    simp at a
    subst a
    have:=h1.2.1 rfl
    refine⟨by simp;omega,λ_=>by simp;omega,λh=>by omega⟩
   .simp[e] at a
    subst a
    exact⟨h1.1,λh=>absurd h.symm e,h1.2.2⟩
 .rw[List.length_modify]
  rcases mem_modify a with a | ⟨x,b,rfl⟩
  .exact h.to y a e he
  .rcases aaZ.1 he with he | he
   .exact h.to x (aax b) e he
   .simp at he;subst he;exact c
theorem ey.up {g:ai} {at_ i:Nat} {out:List aL} (h:ey g at_ i out):ey g at_ (i+1) out :=
 ⟨h.bc,λj s hs=>by have:=h.aJ j s hs;exact⟨this.1,λe=>by have:=this.2.1 e;omega,this.2.2⟩,h.to,h.sym⟩
theorem ey.add {g:ai} {at_ i:Nat} {out:List aL} (h:ey g at_ i out) {k:List aA} (hk:cB k/\k≠[]/\∀ x∈k,cG g x):ey g at_ i (out ++ [⟨k,[]⟩]):=by
 refine⟨λy a=>?_,λj y a=>?_,λy a e he=>?_,λy a e he=>?_⟩
 rotate_right
 .rcases aaZ.1 a with a | a
  .exact h.sym y a e he
  .simp at a;subst a;simp at he
 .rcases aaZ.1 a with a | a
  .exact h.bc y a
  .simp at a;subst a;exact hk
 .rcases aaT j out.length with b | b
  .rw[aaY b] at a;exact h.aJ j y a
  .rw[aa7 b] at a
   cases hq:j - out.length with
   | zero=>rw[hq] at a;simp at a;subst a;exact⟨by simp,λ_=>by simp,λ_=>rfl⟩
   | succ q=>rw[hq] at a;simp at a
 .rcases aaZ.1 a with a | a
  .have:=h.to y a e he;simp;omega
  .simp at a;subst a;simp at he
theorem ey.step {g:ai} {l:List aA} (hs:cB l) (hl:∀ x∈l,cG g x) {at_ i:Nat} {out:List aL} (h:ey g at_ i out) (hi:i < 40):ey g at_ (i+1) (dA g l at_ out i):=by
 unfold dA
 split
 .exact h.up
 .rename_i a
  have b : -1000<=bh g i/\bh g i<=1000:=by unfold bh;split <;> omega
  split
  .exact(h.add ⟨Ht _ hs,a,J4 hl⟩).put hi b (by simp;omega)
  .have:=zp out (bA g l (bh g i))
   exact h.put hi b ⟨by omega,this⟩
theorem ey.next {g:ai} {at_ i:Nat} {out:List aL} (h:ey g at_ i out):ey g (at_+1) 0 out :=
 ⟨h.bc,λj s hs=>by
  have:=h.aJ j s hs
  exact⟨this.1,λe=>by have:=this.2.2 (by omega);simp[this],λe=>this.2.2 (by omega)⟩,h.to,h.sym⟩
theorem ey.row {g:ai} {l:List aA} (hs:cB l) (hl:∀ x∈l,cG g x) {at_:Nat} {out:List aL} (h:ey g at_ 0 out):∀ n:Nat,n<=40->ey g at_ n ((List.range n).foldl (dA g l at_) out)/\out.length<=((List.range n).foldl (dA g l at_) out).length/\((List.range n).foldl (dA g l at_) out).length<=out.length+n
 | 0,_=>⟨h,aaD _,aaD _⟩
 | n+1,a=>by
  obtain⟨h1,b,c⟩:=ey.row hs hl h n (by omega)
  rw[abi,abe]
  simp only[aaR,abL]
  have:=QM g l at_ ((List.range n).foldl (dA g l at_) out) n
  exact⟨h1.step hs hl (by omega),by omega,by omega⟩
theorem pO {g:ai} : ey g 0 0 eA:=by
 refine⟨λs hs=>?_,λj s hs=>?_,λs hs e he=>?_,λs hs e he=>?_⟩
 rotate_right
 .simp[eA] at hs;subst hs;simp at he
 .simp[eA] at hs;subst hs
  refine⟨by simp[cB],by simp,λx a=>?_⟩
  simp at a;subst a
  exact⟨⟨by simp,by simp only;omega⟩,by simp,by simp[aP]⟩
 .have:=aax hs
  simp[eA] at this;subst this;simp
 .simp[eA] at hs;subst hs;simp at he
theorem ey.qp {g:ai} (a:g.dM) {at_ i:Nat} {out:List aL} (h:ey g at_ i out) {j:Nat} (b:j < out.length):cB (cL g (out.getD j aN).bc)/\∀ x∈cL g (out.getD j aN).bc,cG g x:=by
 have hm:=aax (getD_some (d:=aN) b)
 exact⟨jk _ _,λx c=>((c6 a (h.bc _ hm).2.2).1 c).has (h.bc _ hm).2.2⟩
structure mX (g:ai) (a:List aL):Prop where
 bc:∀ s∈a,cB s.bc/\s.bc≠[]/\∀ x∈s.bc,cG g x
 aJ:∀ s∈a,s.aJ.length<=40
 to:∀ s∈a,∀ e∈s.aJ,0<=e.to/\e.to < a.length
 sym:∀ s∈a,∀ e∈s.aJ,-1000<=e.sym/\e.sym<=1000
theorem ey.ok {g:ai} {at_ i:Nat} {out:List aL} (h:ey g at_ i out):mX g out :=
 ⟨h.bc,λs hs=>by obtain⟨j,a,e⟩:=abv.1 hs;exact(h.aJ j s (by rw[aar a,e])).1,h.to,h.sym⟩
theorem JG {g:ai} (b:g.dM):∀ (f at_:Nat) (out:List aL),ey g at_ 0 out->1<=out.length->out.length<=300->(gz g f at_ out).2=0->mX g (gz g f at_ out).1/\1<=(gz g f at_ out).1.length/\(gz g f at_ out).1.length<=300
 | 0,_,out,h,h1,c,_=>⟨h.ok,h1,c⟩
 | f+1,at_,out,h,h1,c,a=>by
  rw[gz] at a ⊢
  split
  .rename_i d
   rw[aaw d] at a
   have hr:=ey.row (h.qp b d).1 (h.qp b d).2 h (g.af.length+g.ak.length) (by have:=b.af;have:=b.ak;omega)
   rw[show (List.range (g.af.length+g.ak.length)).foldl (dA g (cL g (out.getD at_ aN).bc) at_) out=DY g at_ out (g.af.length+g.ak.length) from rfl] at hr
   split
   .rename_i e;rw[aaw e] at a;simp at a
   .rename_i e
    rw[aat e] at a
    exact JG b f (at_+1) _ hr.1.next (by omega) (by omega) a
  .exact⟨h.ok,h1,c⟩
theorem D3 {g:ai} (a:g.dM) (h:(bJ g).2=0):mX g (bJ g).1/\1<=(bJ g).1.length/\(bJ g).1.length<=300:=by
 unfold bJ at h ⊢
 split
 .rename_i hr
  rw[aaw hr] at h
  exact JG a 302 0 eA pO (by simp[eA]) (by simp[eA]) h
 .rename_i hr
  rw[aat hr] at h
  simp at h
def fN (l:List cr):List (List V):=l.map kc
def eu (s:aL):List V:=[.aE (aV s.bc),.aE (fN s.aJ)]
def aW (a:List aL):V:=.aE (a.map eu)
theorem Xd (l:List cr):Tree (.aE (fN l)):=fe _ _ λx _ v a=>by simp[kc] at a;rcases a with rfl | rfl <;> exact .val _
theorem OX (s:aL):∀ v∈eu s,Tree v:=by
 intro v a;simp[eu] at a
 rcases a with rfl | rfl
 .exact uG _
 .exact Xd _
theorem lH (a:List aL):Tree (aW a):=fe _ _ λx _=>OX x
abbrev ry:=V × V × aL
def fD (A:List ry):List (List V):=A.map λx=>[x.1,x.2.1]
def nN (A:List ry):List cx:=A.flatMap λx=>[(x.1,2,aV x.2.2.bc),(x.2.1,2,fN x.2.2.aJ)]
theorem du (A:List ry):(fD A).length=A.length:=by simp[fD]
theorem pk {A:List ry} {x:ry} (a:x∈A):(x.1,2,aV x.2.2.bc)∈nN A/\(x.2.1,2,fN x.2.2.aJ)∈nN A:=by
 constructor <;> exact List.mem_flatMap.2 ⟨x,a,by simp⟩
theorem Gu {h:aG} {u:V} {A:List ry} (f:ba h.view u 2 (fD A)) (g:∀ x∈A,ba h.view x.1 2 (aV x.2.2.bc)/\ba h.view x.2.1 2 (fN x.2.2.aJ)):dB h u (aW (A.map λx=>x.2.2)):=by
 have c:∀ i (hi:i < A.length),(fD A).getD i []=[(A[i]).1,(A[i]).2.1]/\(((A.map λx=>x.2.2).map eu).getD i [])=eu (A[i]).2.2:=λi hi=>by
  simp[fD,aaq,hi]
 refine dB.own f (by simp[fD]) (λi hi=>?_) (λi j hi b=>?_)
 .have a:i < A.length:=by simpa [fD] using hi
  rw[(c i a).1,(c i a).2];rfl
 .have a:i < A.length:=by simpa [fD] using hi
  rw[(c i a).2] at b ⊢
  rw[(c i a).1]
  have d:=g _ (aaC a)
  generalize A[i]'a=y at d b
  obtain⟨h1,k⟩:=d
  match j,b with
  | 0,_ =>
   refine dB.own h1 rfl (λi _=>rfl) (λi j hi b=>?_)
   rw[bI] at hi
   have e:(aV y.2.2.bc).getD i []=bF y.2.2.bc[i]:=by simp[aV,aaq,hi]
   rw[e] at b ⊢
   match j,b with
   | 0,_=>exact .val _
   | 1,_=>exact .val _
  | 1,_ =>
   refine dB.own k rfl (λi _=>rfl) (λi j hi b=>?_)
   simp only[fN,aaA] at hi
   have e:(fN y.2.2.aJ).getD i []=kc y.2.2.aJ[i]:=by simp[fN,aaq,hi]
   rw[e] at b ⊢
   match j,b with
   | 0,_=>exact .val _
   | 1,_=>exact .val _
  | n+2,b=>exact absurd b (by simp[eu])
def qt:SC :=
 ae [ae [ab [aa 6 5,aa 7 0,aM 8 7,aQ 9 .lss 6 8],bS 9 (.exit 0)],.block 1 (ae [ab [aa 12 0,aa 13 5,aI 14 2 12 13,ao 15 0 14,aj 16 15,aa 17 1,bm 18 21 [16,17]],bf 18 (ae [ab [aa 19 5,aa 4 19],.ret])]),ab [aa 10 5,aF 11 .add 10 1,aa 5 11]]
def tx:SF:=⟨ae [ab [aT 4 0],ae [ab [aT 5 0],bX 0 qt],ab [aT 4 (-1)],.ret],
 [.tmp 4],20⟩
theorem xJ:aO Tryz.prog 67 []=some tx:=by kernel_rfl
def pn:SC :=
 ae [ae [ab [aa 31 7,ao 32 0 1,aj 33 32,aM 34 33,ao 35 1 1,aj 36 35,aM 37 36,aQ 38 .add 34 37,aQ 39 .lss 31 38],bS 39 (.exit 2)],.block 3 (ae [ab [aY 42 4 1,aa 43 7,bm 44 65 [42,43],aa 8 44],ab [aY 45 4 1,aa 46 6,aa 47 8,bm 48 66 [45,46,47],aa 9 48],ae [ab [aa 49 9,aM 50 49,aF 51 .eql 50 0],bf 51 (.exit 3)],ab [aa 52 4,aa 53 9,bm 54 67 [52,53],aa 10 54],ae [ab [aa 55 10,aF 56 .lss 55 0],bf 56 (ae [ab [aa 57 4,aM 58 57,aa 10 58],ab [aa 59 4,aa 60 9,((some 61),.op (.build [(.emp 1),(.emp 1)] [(0,1,(.tmp 60))])),((some 62),.op (.bW 1 2 [(.emp 1),(.emp 1)] [(0,(.tmp 61))])),gx 63 2 48 59 62,aa 4 63]])],ab [aa 64 4,aa 65 5,aa 66 4,aa 67 5,aI 68 2 66 67,ao 69 1 68,aj 70 69,aa 71 8,aa 72 10,((some 73),.op (.build [(.val (.int .i64 0)),(.val (.int .i64 0))] [(0,1,(.tmp 71)),(1,1,(.tmp 72))])),((some 74),.op (.bW 1 2 [(.val (.int .i64 0)),(.val (.int .i64 0))] [(0,(.tmp 73))])),gx 75 2 16 70 74,aI 76 2 64 65,ao 77 1 76,bZ 1 77 75]]),ab [aa 40 7,aF 41 .add 40 1,aa 7 41]]
def pQ:SC :=
 ae [ae [ab [aa 18 5,aa 19 4,aM 20 19,aQ 21 .lss 18 20],bS 21 (.exit 0)],.block 1 (ae [ab [aY 24 4 1,aa 25 4,aa 26 5,aI 27 2 25 26,ao 28 0 27,aj 29 28,bm 30 60 [24,29],aa 6 30],ae [ab [aT 7 0],bX 2 pn],ab [aa 78 4,aM 79 78,aF 80 .gtr 79 300],bf 80 (ae [ab [cT 2 1,aT 3 5],.ret])]),ab [aa 22 5,aF 23 .add 22 1,aa 5 23]]
def rf:SF:=⟨ae [ab [cy 1 0,cT 2 1,aT 3 0],ae [ab [aY 11 4 1,bm 12 30 [11],c4 13 12],bf 13 (ae [ab [cT 2 1,aT 3 1],.ret])],ab [((some 14),.op (.build [(.val (.int .i64 0)),(.val (.int .i64 0))] [(0,1,(.val (.val (.int .i64 (-1)))))])),((some 15),.op (.bW 1 2 [(.val (.int .i64 0)),(.val (.int .i64 0))] [(0,(.tmp 14))])),((some 16),.op (.build [(.emp 1),(.emp 1)] [(0,1,(.tmp 15))])),((some 17),.op (.bW 1 2 [(.emp 1),(.emp 1)] [(0,(.tmp 16))])),aa 4 17],ae [ab [aT 5 0],bX 0 pQ],ab [aa 81 4,aa 2 81,aT 3 0],.ret],
 [.tmp 2,.tmp 3],82⟩
theorem wY:aO Tryz.prog 25 [1]=some rf:=by kernel_rfl
theorem PI:∀ (a:List aL) (k:List aA) (i:Nat),(∀ j s,j < i->a[j]?=some s->s.bc≠k)->(∀ s,a[i]?=some s->s.bc=k->findD a k=i)/\(i=a.length->findD a k = -1):=by
 intro a k i h
 refine⟨λs h1 c=>Lr a k i s h1 c h,λe=>?_⟩
 subst e
 refine E7 a k λs hs=>?_
 obtain⟨j,b,e⟩:=abv.1 hs
 exact h j s b (by rw[aar b,e])
theorem Q7 (a:List aL) (g:aK a) (hs:∀ s∈a,aK s.bc) (k:List aA) (hk:aK k):az Tryz.prog 67 [aW a,.aE (aV k)] (gi (findD a k)):=by
 unfold aK at g
 refine az.val (by
  intro v f;simp at f
  rcases f with rfl | rfl
  .exact lH _
  .exact uG _) λH=>?_
 refine av.of mixed xJ ?_
 simp(disch:=omega)only[↓wr,seval,wq,tx,aW]
 refine aS.up a.length (λi T H'=>(∀ j s,j < i->a[j]?=some s->s.bc≠k)/\T 0=aW a/\T 1=.aE (aV k)/\T 5=gi i) ⟨λj s h=>by omega,rfl,rfl,rfl⟩ ?_
 rintro i n T H' l ⟨c,t0,t1,t5⟩
 obtain⟨f1,f2⟩:=PI a k i c
 simp(disch:=omega)only[↓wr,seval,wq,qt,t0,t1,t5,aW]
 apply ah.dec<;>intro m
 .have d:a[i]?=some (a[i]'(by omega)):=aar (by omega)
  have hm:=hs _ (aaC (show i < a.length by omega))
  generalize a[i]'(by omega)=x at d hm
  simp(disch:=omega)only[↓wr,seval,wq,t0,t1,t5,aW,aav,d,aaz,eu]
  refine ay.pure (P1 x.bc k hm hk) ?_
  simp(disch:=omega)only[↓wr,seval,wq,t0,t1,t5]
  apply ah.split<;>intro e
  .simp(disch:=omega)only[↓wr,seval,wq,t0,t1,t5]
   rw[f1 x d (by simpa using e)]
  .simp(disch:=omega)only[↓wr,seval,wq,t0,t1,t5]
   refine aC l (by omega) ⟨λj s o b=>?_,t0,t1,rfl⟩
   rcases aaT j i with h | h
   .exact c j s h b
   .have:j=i:=by omega
    subst this
    rw[d] at b;simp at b;subst b
    simpa using e
 .simp(disch:=omega)only[↓wr,seval,wq,t0,t1,t5]
  rw[f2 (by omega)]
theorem Qf {g:ai} (a:g.dM) {s:aL} (h:cB s.bc/\s.bc≠[]/\∀ x∈s.bc,cG g x):aK s.bc:=by
 have:=gK a h.1 h.2.2;unfold aK;omega
theorem ew.sts {H:View} {u:V} {A:List ry} {L:List cx} (h:bk H ((u,2,fD A) :: L)) (a:∀ x∈nN A,x∈L):ew H u (aW (A.map λx=>x.2.2)):=by
 rintro c rfl
 exact(Gu h.head λx b=>⟨h.1 _ (aaO _ (a _ (pk b).1)),h.1 _ (aaO _ (a _ (pk b).2))⟩).fr
theorem ew.lr {H:View} {u:V} {l:List aA} (h:ba H u 2 (aV l)):ew H u (.aE (aV l)) :=
 ew.own h λe he v a=>by
  obtain⟨x,_,rfl⟩:=aaM.1 he
  simp[bF] at a;rcases a with rfl | rfl <;> exact .val _
theorem lB {h:aG} {u v:V} {e:Int} (h1:dB h u v):dB h (.bD [u,gi e]) (.bD [v,gi e]):=.bD _ _ rfl λi hi=>by
 match i,hi with
 | 0,_=>exact h1
 | 1,_=>exact .val _
theorem oT {α:Type} {l:List α} {i:Nat} (h:i < l.length):∃ a x b,l=a ++ x :: b/\a.length=i/\l[i]?=some x :=
 ⟨l.take i,l[i],l.drop (i+1),by rw[<-abg h,List.take_append_drop],by simp;omega,aar h⟩
theorem F4 {α:Type} (a:List α) (x:α) (b:List α) (f:α->α):(a ++ x :: b).modify a.length f=a ++ f x :: b:=by
 induction a with
 | nil=>rfl
 | cons y a c=>simp only[aa9,aaK,List.modify_succ_cons,c]
theorem iC {g:ai} (h:isRed g=true):bC g=true:=by
 unfold isRed at h
 simp only[aaB,abH,aaE] at h
 refine abB λa=>?_
 have h1:=h.1
 unfold gL at h1
 simp[a] at h1
theorem nr {g:ai} (h:isRed g=true):g.dM:=bu (iC h)
theorem ZR {α:Type} {a b c:α} {l:List α} : (a :: b :: c :: l).Perm (c :: b :: a :: l):=(List.Perm.swap _ _ _).trans (((List.Perm.swap _ _ _).cons _).trans (List.Perm.swap _ _ _))
theorem XV {α:Type} {e u p r:α} {S:List α} : (e :: u :: p :: r :: S).Perm (u :: r :: (S ++ [p,e])) :=
 (List.Perm.swap _ _ _).trans (.cons _ (ZR.trans (.cons _ (List.perm_append_comm (l₁:=[p,e]) (l₂:=S)))))
theorem S7 {α:Type} {u r k e:α} {S1 b:List α} : (u :: r :: (S1 ++ k :: e :: b)).Perm (e :: u :: r :: (S1 ++ k :: b)):=by
 have h:(S1 ++ k :: e :: b).Perm (e :: (S1 ++ k :: b)):=by
  have:=aba (a:=e) (l₁:=S1 ++ [k]) (l₂:=b)
  simpa using this
 exact(((h.cons r).cons u).trans ((List.Perm.swap _ _ _).cons u)).trans (List.Perm.swap _ _ _)
theorem CO (A:List ry) (x:ry) (B:List ry):nN (A ++ x :: B)=nN A ++ (x.1,2,aV x.2.2.bc) :: (x.2.1,2,fN x.2.2.aJ) :: nN B:=by simp[nN]
def Zs (g:ai) (m:Nat) (T:Env) (H:View):Prop:=∃ (at_:Nat) (u:V) (A:List ry) (out:List aL),m+at_=302/\out=A.map (λx=>x.2.2)/\bk H ((u,2,fD A) :: nN A)/\ey g at_ 0 out/\1<=out.length/\out.length<=300/\gz g m at_ out=bJ g/\at_<=out.length /\
 T 1=.aH (ag g) 0/\T 4=u/\T 5=gi at_
theorem EB (g:ai) (hg:g.Ok):cW Tryz.prog 25 [.agg (ag g)] (.bD [aW (bJ g).1,gi (bJ g).2]):=by
 refine cW.of (eK g) ?_
 have X:=XT g hg
 refine av.of mixed wY ?_
 simp only[ag,encS] at X
 simp(disch:=omega)only[↓wr,seval,wq,rf,ag,encS]
 refine ay.pure X ?_
 simp(disch:=omega)only[↓wr,seval,wq]
 apply ah.split<;>intro hr
 rotate_left
 .simp(disch:=omega)only[↓wr,seval,wq]
  intro h' _
  have e:bJ g=([],1):=by unfold bJ;rw[aat (by rw[hr];simp)]
  rw[e]
  exact lB (.emp _)
 have v:g.dM:=nr hr
 have e0:gz g 302 0 eA=bJ g:=by unfold bJ;rw[aaw hr]
 have hT:=v.af;have hN:=v.ak
 simp(disch:=omega)only[↓wr,seval,wq]
 intro O q2 K
 have o0:bk (((View.set (λ_=>di.dead) O (.arr 2 [[gi (-1),gi 0]])).set q2 (.arr 2 [[.sl O 0 1 2,.emp 1]]))) ((.sl q2 0 1 2,2,fD [(.sl O 0 1 2,.emp 1,⟨[⟨-1,0⟩],[]⟩)]) :: nN [(.sl O 0 1 2,.emp 1,⟨[⟨-1,0⟩],[]⟩)]) :=
  (((bk.nil.emp (k:=1) (sz:=2)).new (n:=O) rfl 2 [[gi (-1),gi 0]]).new (by simpa [View.set] using K) 2 [[.sl O 0 1 2,.emp 1]])
 generalize (View.set (λ_=>di.dead) O (.arr 2 [[gi (-1),gi 0]])).set q2 (.arr 2 [[.sl O 0 1 2,.emp 1]])=H0 at o0 ⊢
 refine aS.intro (Zs g) 302 ⟨0,_,_,eA,rfl,rfl,o0,pO,aaD _,by simp[eA],e0,by omega,rfl,rfl,rfl⟩ ?_
 clear o0 K
 rintro m T H ⟨at_,u,A,out,hm,rfl,j,hI,h1,P,hl,hle,t1,t4,t5⟩
 have w:cU u=some A.length:=by rw[j.head.len,du]
 simp only[aaA] at h1 P hle
 simp(disch:=omega)only[↓wr,seval,wq,pQ,t1,t4,t5,w]
 apply ah.dec<;>intro hc
 rotate_left
 .simp(disch:=omega)only[↓wr,seval,wq,t1,t4,t5]
  have e1:bJ g=(A.map (λx=>x.2.2),0):=by
   rw[<-hl]
   cases m with
   | zero=>rfl
   | succ m=>rw[gz,aat (by simp;omega)]
  rw[e1]
  rintro h' rfl
  exact lB (Gu j.head λx L=>⟨j.1 _ (aaO _ (pk L).1),j.1 _ (aaO _ (pk L).2)⟩)
 obtain⟨m,rfl⟩:∃ q,m=q+1:=⟨m - 1,by omega⟩
 have z:at_ < A.length:=by omega
 obtain⟨a,x,d,rfl,p,L⟩:=oT z
 have S:x∈a ++ x :: d:=by simp
 obtain⟨Y,b1,C⟩:=hI.bc x.2.2 (List.mem_map_of_mem S)
 have b2:=gK v Y C
 have hh:ba H u 2 (fD (a ++ x :: d)):=j.head
 obtain⟨id,hu,M⟩:=hh.sl (by rw[du];omega)
 have D:(fD (a ++ x :: d)).getD at_ []=[x.1,x.2.1]:=by simp[fD,aaq,<-p]
 have Z:cL g ((List.map (λx=>x.2.2) (a ++ x :: d)).getD at_ aN).bc=cL g x.2.2.bc:=by
  rw[aaq,aav,L];rfl
 have Q:=λn hn=>ey.row (hI.qp v (show at_ < ((a ++ x :: d).map λx=>x.2.2).length by simpa using z)).1 (hI.qp v (show at_ < ((a ++ x :: d).map λx=>x.2.2).length by simpa using z)).2 hI n hn
 rw[gz,aaw (by simpa using z),DY] at hl
 rw[Z] at hl Q
 have an:=jk g x.2.2.bc
 have aq:∀ y∈cL g x.2.2.bc,cG g y:=λy hy=>((c6 v C).1 hy).has C
 rw[du] at hu
 simp(disch:=omega)only[↓wr,seval,wq,t1,t4,t5,hu,M,D,ag,encS]
 refine⟨by omega,by rw[du];omega,?_⟩
 refine ay.dr ((Cp g v x.2.2.bc C (by omega) x.1 H (j.1 _ (aaO _ (pk S).1))).mono ?_)
 rintro r H2 ⟨or,fr⟩
 have o2:=j.Ka or fr
 clear or fr M D Z L
 generalize cL g x.2.2.bc=cl at *
 generalize h:(a ++ x :: d).map (λx=>x.2.2)=E at *
 have ar:E.length=(a ++ x :: d).length:=by rw[<-h];simp
 simp(disch:=omega)only[↓wr,seval,wq,t1,t4,t5]
 refine aS.up (g.af.length+g.ak.length) (λi T H'=>∃ (u:V) (A:List ry),A.map (λx=>x.2.2)=(List.range i).foldl (dA g cl at_) E/\bk H' ((r,2,aV cl) :: (u,2,fD A) :: nN A)/\T 1=.aH (ag g) 0/\T 4=u/\T 5=gi at_/\T 6=r/\T 7=gi i)
  ⟨u,_,h,o2,t1,by rw[<-hu];exact t4,t5,rfl,rfl⟩ ?_
 rw[<-ar] at h1 P hle z
 clear o2 j hh hu t1 t4 t5 w h S ar hc Y b1 C b2 p
 clear u H2 H T id a x d
 rintro i k T H' hk ⟨u,A,hA,j,t1,t4,t5,t6,t7⟩
 obtain⟨iI,a1,a6⟩:=Q i (by omega)
 rw[<-hA] at iI a1 a6
 rw[aaA] at a1 a6
 have w:cU u=some A.length:=by rw[j.tail.head.len,du]
 have cc:=gK v an aq
 simp(disch:=omega)only[↓wr,seval,wq,pn,t1,t4,t5,t6,t7,ag,encS]
 apply ah.dec<;>intro hc
 rotate_left
 .have hi:i=g.af.length+g.ak.length:=by omega
  subst hi
  rw[<-hA] at hl
  simp(disch:=omega)only[↓wr,seval,wq,t1,t4,t5,t6,w]
  apply ah.dec<;>intro h3
  .simp(disch:=omega)only[↓wr,seval,wq]
   intro h' _
   rw[aaw (by rw[aaA];omega)] at hl
   rw[<-hl]
   exact lB (.emp _)
  .simp(disch:=omega)only[↓wr,seval,wq,t1,t4,t5]
   rw[aat (by rw[aaA];omega)] at hl
   exact⟨m,by omega,at_+1,u,A,_,by omega,rfl,j.tail,iI.next,by rw[aaA];omega,by rw[aaA];omega,hl,by rw[aaA];omega,t1,t4,rfl⟩
 have a7:i < g.af.length+g.ak.length:=by omega
 have R:=Mh g v i a7
 have cf:=Gf v a7
 simp only[ag,encS] at R
 simp(disch:=omega)only[↓wr,seval,wq,t1,t4,t5,t6,t7,ag,encS]
 refine ay.pure R ?_
 simp(disch:=omega)only[↓wr,seval,wq,t1,t4,t5,t6,t7,ag,encS]
 refine ay.dr ((Ph g v cl an aq (bh g i) r H' j.head).mono ?_)
 rintro J H9 ⟨or,fr⟩
 have o9:=j.Ka or fr
 have cg:=vL (g:=g) (l:=cl) (s:=bh g i)
 have b3:cU J=some (bA g cl (bh g i)).length:=by rw[or.len,bI]
 have F:(List.range (i+1)).foldl (dA g cl at_) E=dA g cl at_ (A.map λx=>x.2.2) i:=by rw[abi,abe,<-hA];rfl
 simp(disch:=omega)only[↓wr,seval,wq,t1,t4,t5,t6,t7,b3]
 apply ah.eq<;>intro he
 .have a8:bA g cl (bh g i)=[]:=abQ.1 (by omega)
  simp(disch:=omega)only[↓wr,seval,wq,t1,t4,t5,t6,t7]
  exact aC hk (by omega) ⟨u,A,by rw[F,dA,aaw a8],o9.tail,t1,t4,t5,t6,rfl⟩
 have bb:bA g cl (bh g i)≠[]:=λe=>he (by rw[e];rfl)
 simp(disch:=omega)only[↓wr,seval,wq,t1,t4,t5,t6,t7]
 have U:=Q7 (A.map λx=>x.2.2) (by unfold aK;rw[aaA];omega) (λs hs=>Qf v (iI.bc s hs)) (bA g cl (bh g i)) (by unfold aK;omega)
 refine ay.xB U (by kernel_rfl) (.val _) ⟨ew.sts o9.tail.tail (λx L=>L),ew.lr or,trivial⟩ ?_
 have b4:=zp (A.map λx=>x.2.2) (bA g cl (bh g i))
 have ch:=vn (A.map λx=>x.2.2) (bA g cl (bh g i))
 rw[aaA] at b4
 have bd:at_ < A.length:=by omega
 simp(disch:=omega)only[↓wr,seval,wq,t1,t4,t5,t6,t7]
 obtain⟨a,x,d,G,p,L⟩:=oT bd
 have cj:x.2.2.aJ.length<=40:=(iI.aJ at_ x.2.2 (by rw[aav,L];rfl)).1
 have D:∀ B,(fD (a ++ x :: B)).getD at_ []=[x.1,x.2.1]:=λB=>by simp[fD,aaq,<-p]
 have bl:∀ (B:List ry) (c:cr),((a ++ x :: B).map λx=>x.2.2).modify at_ (λs=>(⟨s.bc,s.aJ ++ [c]⟩:aL))=(a ++ (x.1,x.2.1,(⟨x.2.2.bc,x.2.2.aJ ++ [c]⟩:aL)) :: B).map λx=>x.2.2:=λB c=>by
  rw[aaS,aaW,<-p,<-aaA (f:=λx:ry=>x.2.2),F4,aaS,aaW]
 apply ah.dec<;>intro I
 simp(disch:=omega)only[↓wr,seval,wq,t1,t4,t5,t6,t7,w,or.cells,or.iO]
 intro q hq
 simp(disch:=omega)only[↓wr,seval,wq,bM]
 have b5:=(o9.fresh (o:=.arr 2 [[J,.emp 1]]) hq).at 2 (by simp)
 refine ct b5 (by simp[or.iO,Cw]) (by unfold aD;rw[du];simp;omega) (by unfold aD;rw[du];simp;omega) ?_
 intro u2 W bn _
 simp only[aa8,aa4,abz,abA] at bn
 have b7:=(bn.emp (k:=1) (sz:=2)).perm XV
 have t:dA g cl at_ (A.map λx=>x.2.2) i=((a ++ x :: (d ++ [(J,.emp 1,(⟨bA g cl (bh g i),[]⟩:aL))])).map λx=>x.2.2).modify at_ (λs=>(⟨s.bc,s.aJ ++ [⟨bh g i,(A.length:Int)⟩]⟩:aL)):=by
  rw[dA,aat bb,aaw I,aaA]
  congr 1
  rw[G];simp
 have b:bk W ((u2,2,fD (a ++ x :: (d ++ [(J,.emp 1,(⟨bA g cl (bh g i),[]⟩:aL))]))) :: (r,2,aV cl) :: nN (a ++ x :: (d ++ [(J,.emp 1,(⟨bA g cl (bh g i),[]⟩:aL))]))):=by
  have e1:fD (a ++ x :: (d ++ [(J,.emp 1,(⟨bA g cl (bh g i),[]⟩:aL))]))=fD A ++ [[J,.emp 1]]:=by rw[G];simp[fD]
  have e2:nN (a ++ x :: (d ++ [(J,.emp 1,(⟨bA g cl (bh g i),[]⟩:aL))]))=nN A ++ [(J,2,aV (bA g cl (bh g i))),(.emp 1,2,[])]:=by rw[G];simp[nN];rfl
  rw[e1,e2]
  exact b7
 generalize (d ++ [(J,V.emp 1,(⟨bA g cl (bh g i),[]⟩:aL))])=B at t b
 generalize (A.length:Int)=to at t ⊢
 rotate_left
 have t:dA g cl at_ (A.map λx=>x.2.2) i=((a ++ x :: d).map λx=>x.2.2).modify at_ (λs=>(⟨s.bc,s.aJ ++ [⟨bh g i,findD (A.map λx=>x.2.2) (bA g cl (bh g i))⟩]⟩:aL)):=by
  rw[dA,aat bb,aat I,<-G]
 have b:=o9.tail.perm (.swap _ _ _)
 clear or fr
 generalize H9=W at o9 b ⊢
 obtain⟨u2,b8⟩:∃ y,y=u:=⟨_,rfl⟩
 rw[<-b8] at b t4
 rw[G] at b
 generalize findD (A.map λx=>x.2.2) (bA g cl (bh g i))=to at t ⊢
 generalize d=B at t b
 all_goals (
  obtain⟨id,hu,M⟩:=(show ba W u2 2 (fD (a ++ x :: B)) from b.head).sl (by rw[du];simp;omega)
  rw[du] at hu
  rw[CO] at b
  simp(disch:=omega)only[↓wr,seval,wq,t1,t4,t5,t6,t7,hu,M,D B]
  refine⟨by simp;omega,by rw[du];simp;omega,?_⟩
  intro q2 K
  simp(disch:=omega)only[↓wr,seval,wq,bM]
  refine ct ((b.perm S7).fresh K) (by simp[aR]) (by unfold aD;simp[fN];omega) (by unfold aD;simp[fN];omega) ?_
  intro e2 b9 N _
  have bq:b9 id=.arr 2 (fD (a ++ x :: B)):=((N.own 1 rfl).live (by rw[hu];rfl)).1
  simp(disch:=omega)only[↓wr,seval,wq,t1,t4,t5,t6,t7,hu,bq,D B,N.head.cells,N.head.iO]
  have br:(fD (a ++ x :: B)).set at_ [x.1,e2]=fD (a ++ (x.1,e2,(⟨x.2.2.bc,x.2.2.aJ ++ [⟨bh g i,to⟩]⟩:aL)) :: B):=by
   rw[<-p];simp[fD]
  have ca:fN (x.2.2.aJ ++ [⟨bh g i,to⟩])=fN x.2.2.aJ ++ [[gi (bh g i),gi to]]:=by simp[fN,kc]
  have bs:=N.perm (.swap _ _ _)
  rw[hu] at bs
  have bx:=((bs.put (es':=fD (a ++ (x.1,e2,(⟨x.2.2.bc,x.2.2.aJ ++ [⟨bh g i,to⟩]⟩:aL)) :: B)) (by rw[du,du];simp) (by rw[du])).perm (.swap _ _ _)).perm S7.symm
  rw[<-ca] at bx
  have b0:=bx.perm (.swap _ _ _)
  rw[<-hu] at b0
  rw[br]
  refine⟨by simp;omega,by rw[du];simp;omega,aC hk (by omega) ⟨u2,_,?_,by rw[CO];exact b0,t1,by first | rfl | exact t4 | exact hu.symm,t5,t6,rfl⟩⟩
  rw[F,t,bl];simp)
abbrev gw (s:BV):V:=.val (.int .u32 s.toNat)
abbrev bV (l:List BV):List (List V):=l.map λx=>[gw x]
abbrev Eo (l:List BV):V:=.aE (bV l)
theorem RS (l:List BV):Tree (Eo l):=fe _ _ λx _ v a=>by simp at a;subst a;exact .val _
theorem O0 {x:Int} (h1:0<=x) (c:x < 4294967296):IntKind.wrap .u32 x=x:=by
 unfold IntKind.wrap
 have a:(2:Int) ^ IntKind.u32.bits=4294967296:=by rfl
 have b:IntKind.u32.signed=false:=by rfl
 simp only[a,b,ab8,aaE]
 simp
 omega
theorem PT (s:BV):IntKind.wrap .u32 (s.toNat:Int)=s.toNat:=O0 (by omega) (by have:=s.isLt;omega)
theorem yp (s:BV):BitVec.ofInt IntKind.u32.bits (s.toNat:Int)=s:=by
 show BitVec.ofInt 32 (s.toNat:Int)=s
 rw[BitVec.ofInt_natCast,BitVec.ofNat_toNat,BitVec.setWidth_eq]
theorem uR (s t:BV):IntKind.wrap .u32 ((BitVec.ofInt IntKind.u32.bits (s.toNat:Int) ||| BitVec.ofInt IntKind.u32.bits (t.toNat:Int)).toNat:Int)=((s ||| t).toNat:Int):=by
 rw[yp,yp];exact PT (s ||| t)
theorem Wz (s t:BV):IntKind.wrap .u32 ((BitVec.ofInt IntKind.u32.bits (s.toNat:Int) &&& BitVec.ofInt IntKind.u32.bits (t.toNat:Int)).toNat:Int)=((s &&& t).toNat:Int):=by
 rw[yp,yp];exact PT (s &&& t)
theorem U8 (s t:BV):IntKind.wrap .u32 ((BitVec.ofInt IntKind.u32.bits (s.toNat:Int) &&& ~~~(BitVec.ofInt IntKind.u32.bits (t.toNat:Int))).toNat:Int)=((s &&& ~~~t).toNat:Int):=by
 rw[yp,yp];exact PT (s &&& ~~~t)
theorem toNat_zero {s:BV} : ((s.toNat:Nat):Int)=0↔s=0:=by
 constructor
 .intro h;exact BitVec.eq_of_toNat_eq (by simpa using h)
 .rintro rfl;rfl
def rB:SC :=
 ae [ae [ab [aa 11 4,aa 12 0,aQ 13 .lss 11 12],bS 13 (.exit 0)],.block 1 (ab [aa 16 3,((some 17),.op (.arith .mul (.tmp 16) (.val (.val (.int .u32 2))))),aa 3 17]),ab [aa 14 4,aF 15 .add 14 1,aa 4 15]]
def tV:SF:=⟨ae [ab [((some 2),.op (.eF (.val (.val (.int .u32 0)))))],ae [.region false [⟨none,[aa 5 0,aF 6 .lss 5 0,aa 7 6]⟩,⟨(some (7,false)),[aa 8 0,aF 9 .gtr 8 31]⟩,⟨none,[cF 10 7 9]⟩],bf 10 (ae [ab [((some 2),.op (.eF (.val (.val (.int .u32 0)))))],.ret])],ab [((some 3),.op (.eF (.val (.val (.int .u32 1)))))],ae [ab [aT 4 0],bX 0 rB],ab [aa 18 3,aa 2 18],.ret],
 [.tmp 2],19⟩
theorem zl:aO Tryz.prog 77 []=some tV:=by kernel_rfl
def tQ:SF:=⟨ae [ab [bw 4 false],ab [aa 5 0,aa 6 1,bm 7 77 [6],aQ 8 .and 5 7,((some 9),.op (.arith .neq (.tmp 8) (.val (.val (.int .u32 0))))),aa 4 9],.ret],
 [.tmp 4],10⟩
theorem zJ:aO Tryz.prog 80 []=some tQ:=by kernel_rfl
def sT:SC :=
 ae [ae [ab [aa 11 10,aa 12 0,aM 13 12,aQ 14 .lss 11 13],bS 14 (.exit 0)],.block 1 (ae [ae [ab [aa 17 0,aa 18 10,aI 19 1 17 18,aj 20 19,aF 21 .geq 20 0],bf 21 (ae [ab [aa 22 9,aa 23 0,aa 24 10,aI 25 1 23 24,aj 26 25,bm 27 77 [26],aQ 28 .or 22 27,aa 8 28],.ret])],ab [aa 29 9,aa 30 2,aa 31 0,aa 32 10,aI 33 1 31 32,aj 34 33,((some 35),.op (.arith .sub (.val (.val (.int .i64 (-1)))) (.tmp 34))),aI 36 1 30 35,aj 37 36,aQ 38 .or 29 37,aa 9 38],ab [aa 39 1,aa 40 0,aa 41 10,aI 42 1 40 41,aj 43 42,((some 44),.op (.arith .sub (.val (.val (.int .i64 (-1)))) (.tmp 43))),aI 45 1 39 44,aj 46 45,c4 47 46],bf 47 (ae [ab [aa 48 9,aa 8 48],.ret])]),ab [aa 15 10,aF 16 .add 15 1,aa 10 16]]
def vl:SF:=⟨ae [ab [((some 8),.op (.eF (.val (.val (.int .u32 0)))))],ab [((some 9),.op (.eF (.val (.val (.int .u32 0)))))],ae [ab [aT 10 0],bX 0 sT],ab [aa 49 9,aa 50 3,aQ 51 .or 49 50,aa 8 51],.ret],
 [.tmp 8],52⟩
theorem AM:aO Tryz.prog 83 []=some vl:=by kernel_rfl
def pC:SC :=
 ae [ae [ab [aa 24 6,ao 25 2 1,aj 26 25,aM 27 26,aQ 28 .lss 24 27],bS 28 (.exit 2)],.block 3 (ae [ab [ao 31 2 1,aj 32 31,aa 33 6,aI 34 3 32 33,aY 35 3 34,((some 7),.op (.alloc [(.val (.int .i64 0)),(.emp 1),(.val (.int .i64 0))])),bZ 3 7 35],.region true [⟨none,[aa 36 4,ao 37 0 7,aj 38 37,aa 39 4,ao 40 0 7,aj 41 40,aI 42 1 39 41,aj 43 42,ao 44 1 7,aj 45 44,aa 46 3,aa 47 4,qx 48 83 [(.tmp 45),(.tmp 46),(.tmp 47),(.val (.val (.int .u32 0)))],aQ 49 .or 43 48,aI 50 1 36 38,bZ 1 50 49]⟩]]),ab [aa 29 6,aF 30 .add 29 1,aa 6 30]]
def pM:SC :=
 ae [ae [ab [aa 17 5,ao 18 1 1,aj 19 18,aM 20 19,aQ 21 .lss 17 20],bS 21 (.exit 0)],.block 1 (ae [ab [aT 6 0],bX 2 pC]),ab [aa 22 5,aF 23 .add 22 1,aa 5 23]]
def rq:SF:=⟨ae [ab [cy 1 0,cT 2 1],ae [ab [aY 8 4 1,bm 9 54 [8],c4 10 9],bf 10 (ae [ab [cT 2 1],.ret])],ab [aY 11 4 1,bm 12 81 [11],aa 3 12],ab [ao 13 1 1,aj 14 13,aM 15 14,((some 16),.op (.make 1 4 [(.val (.int .u32 0))] (.tmp 15) (.tmp 15))),aa 4 16],ae [ab [aT 5 0],bX 0 pM],ab [aa 51 4,aa 2 51],.ret],
 [.tmp 2],52⟩
theorem xf:aO Tryz.prog 82 [1]=some rq:=by kernel_rfl
theorem Kg {n:Int} (h:0<=n/\n<=31):(dT n).toNat=2 ^ n.toNat:=by
 rw[dT,aaw h,BitVec.toNat_twoPow]
 exact Nat.mod_eq_of_lt (Nat.pow_lt_pow_right (by omega) (by omega))
theorem DU (n:Int):az Tryz.prog 77 [gi n] (gw (dT n)):=by
 refine az.val (by intro v a;simp at a;subst a;exact .val _) λH=>?_
 refine av.of mixed zl ?_
 simp(disch:=omega)only[↓wr,seval,wq,tV]
 have bad:¬ (0<=n/\n<=31)->dT n=0:=λh=>by rw[dT,aat h]
 apply ah.dec<;>intro h1
 .simp(disch:=omega)only[↓wr,seval,wq]
  rw[bad (by omega)];rfl
 simp(disch:=omega)only[↓wr,seval,wq]
 apply ah.dec<;>intro b
 .simp(disch:=omega)only[↓wr,seval,wq]
  rw[bad (by omega)];rfl
 simp(disch:=omega)only[↓wr,seval,wq]
 refine aS.up n.toNat (λi T H'=>T 0=gi n/\T 3=.val (.int .u32 ((2 ^ i:Nat):Int))/\T 4=gi i) ⟨rfl,rfl,rfl⟩ ?_
 rintro i k T H' hk ⟨t0,t3,t4⟩
 simp(disch:=omega)only[↓wr,seval,wq,rB,t0,t3,t4]
 apply ah.dec<;>intro c
 .have d:2 ^ (i+1)<=2 ^ 31:=Nat.pow_le_pow_right (by omega) (by omega)
  have e:2 ^ (i+1)=2 ^ i * 2:=Nat.pow_succ _ _
  have hw:IntKind.wrap .u32 (((2 ^ i:Nat):Int) * 2)=((2 ^ (i+1):Nat):Int):=by
   rw[e,Int.natCast_mul]
   exact O0 (by omega) (by omega)
  simp(disch:=omega)only[↓wr,seval,wq,t0,t3,t4,hw]
  exact aC hk (by omega) ⟨t0,rfl,rfl⟩
 .simp(disch:=omega)only[↓wr,seval,wq,t0,t3,t4]
  rw[Kg (by omega),show i=n.toNat by omega]
theorem Uv (s:BV) (n:Int):az Tryz.prog 80 [gw s,gi n] (gb (hasB s n)):=by
 refine az.val (by
  intro v a;simp at a
  rcases a with rfl | rfl <;> exact .val _) λH=>?_
 refine av.of mixed zJ ?_
 simp(disch:=omega)only[↓wr,seval,wq,tQ]
 refine ay.pure (DU n) ?_
 simp(disch:=omega)only[↓wr,seval,wq,Wz]
 congr 2
 unfold hasB
 rw[abu]
 simp only[acy,ne_eq,aaE,toNat_zero]
theorem yy {l:List BV} {i:Nat} {x:BV} (h:l[i]?=some x):(bV l).getD i []=[gw x]:=by simp[aaq,h]
theorem MZ (syms:List Int) (null:List Bool) (first:List BV) (rest:BV) (hs:aK syms) (h:∀ s∈syms,b6 s/\(s < 0->(-1 - s).toNat < null.length/\(-1 - s).toNat < first.length)) :
  az Tryz.prog 83 [encI syms,bO null,Eo first,gw rest] (gw (ed null first rest syms)):=by
 unfold aK at hs
 refine az.val (by
  intro v g;simp at g
  rcases g with rfl | rfl | rfl | rfl
  .exact fa _
  .exact iP _
  .exact RS _
  .exact .val _) λH=>?_
 refine av.of mixed AM ?_
 simp(disch:=omega)only[↓wr,seval,wq,vl,encI,bO]
 refine aS.up syms.length (λi T H'=>∃ s:BV,s ||| ed null first rest (syms.drop i)=ed null first rest syms/\T 0=encI syms/\T 1=bO null/\T 2=Eo first/\T 3=gw rest/\T 9=gw s/\T 10=gi i) ⟨0,by simp,rfl,rfl,rfl,rfl,rfl,rfl⟩ ?_
 rintro i k T H' hk ⟨s,he,t0,t1,t2,t3,t9,t10⟩
 simp(disch:=omega)only[↓wr,seval,wq,sT,t0,t1,t2,t3,t9,t10,encI]
 apply ah.dec<;>intro j
 .have c:syms[i]?=some (syms[i]'(by omega)):=aar (by omega)
  have b:syms.drop i=syms[i]'(by omega) :: syms.drop (i+1):=abg (by omega)
  have hm:=h _ (aaC (show i < syms.length by omega))
  generalize syms[i]'(by omega)=x at c b hm
  obtain⟨d,e⟩:=hm
  unfold b6 at d
  rw[b,ed] at he
  simp(disch:=omega)only[↓wr,seval,wq,t0,t1,t2,t3,t9,t10,encI,aav,c,aaz]
  apply ah.dec<;>intro f
  .rw[aaw f] at he
   simp(disch:=omega)only[↓wr,seval,wq,t0,t1,t2,t3,t9,t10,encI,aav,c,aaz]
   refine ay.pure (DU x) ?_
   simp(disch:=omega)only[↓wr,seval,wq,uR]
   rw[he]
  .rw[aat f] at he
   obtain⟨l,m⟩:=e (by omega)
   have n:null[(-1 - x).toNat]?=some (null.getD (-1 - x).toNat false):=getD_some l
   have o:first[(-1 - x).toNat]?=some (first.getD (-1 - x).toNat 0):=getD_some m
   simp(disch:=omega)only[↓wr,seval,wq,t0,t1,t2,t3,t9,t10,encI,bO,Eo,aav,c,n,o,aaz,uR]
   apply ah.split<;>intro a
   .simp(disch:=omega)only[↓wr,seval,wq,t0,t1,t2,t3,t9,t10]
    rw[aaw a,<-BitVec.or_assoc] at he
    exact aC hk (by omega) ⟨_,he,t0,t1,t2,t3,rfl,rfl⟩
   .simp(disch:=omega)only[↓wr,seval,wq]
    rw[aat (by rw[a];simp)] at he
    exact abk (λz:BV=>gw z) he
 .rw[aaV (by omega),ed] at he
  simp(disch:=omega)only[↓wr,seval,wq,t3,t9,uR]
  rw[he]
theorem S4 {h:aG} {u:V} {l:List BV} (a:ba h.view u 1 (bV l)):dB h u (Eo l):=dB.PK (f:=λx:BV=>.int .u32 x.toNat) a
theorem Py {H:View} {u:V} {l:List BV} (h:ba H u 1 (bV l)):ew H u (Eo l) :=
 ew.own h λe he v a=>by
  obtain⟨x,_,rfl⟩:=aaM.1 he
  simp at a;subst a;exact .val _
def KX (g:ai):List BV:=if bC g=true then cZ g (au g false) else []
theorem PC (g:ai) (x:g.Ok):cW Tryz.prog 82 [.agg (ag g)] (Eo (KX g)):=by
 refine cW.of (eK g) ?_
 have n:=kT g x
 have o:=Ag g x
 refine av.of mixed xf ?_
 simp only[ag,encS] at n o
 simp(disch:=omega)only[↓wr,seval,wq,rq,ag,encS]
 refine ay.pure n ?_
 unfold KX
 simp(disch:=omega)only[↓wr,seval,wq]
 apply ah.split<;>intro hr
 rotate_left
 .simp(disch:=omega)only[↓wr,seval,wq]
  rintro D _
  rw[aat (by rw[hr];simp)]
  exact .emp _
 have p:=bu hr
 have L:=p.ak;have E:=p.p7
 rw[aaw hr]
 have d:=fZ hr false
 simp(disch:=omega)only[↓wr,seval,wq,ag,encS]
 refine ay.pure o ?_
 generalize au g false=null at d ⊢
 simp(disch:=omega)only[↓wr,seval,wq,ag,encS]
 refine⟨⟨by omega,by unfold aD;omega,by unfold aD;omega⟩,λF=>absurd F (by omega),λ_ m=>?_⟩
 have r:List.replicate g.ak.length [V.val (Value.int IntKind.u32 0)]=bV (List.replicate g.ak.length (0:BV)):=by simp
 rw[r]
 have t:(List.replicate g.ak.length (0:BV)).length=g.ak.length:=by simp
 unfold cZ
 generalize List.replicate g.ak.length (0:BV)=u at t ⊢
 refine aS.intro (λk T H'=>∃ (i:Nat) (h:List BV),i+k=g.ak.length/\h.length=g.ak.length/\iter (vF g null) k h=iter (vF g null) g.ak.length u/\T 1=.aH (ag g) 0/\T 3=bO null/\T 4=.sl m 0 g.ak.length 1/\H' m=.arr 1 (bV h)/\T 5=gi i) g.ak.length
  ⟨0,u,by omega,t,rfl,rfl,rfl,rfl,by simp[View.set],rfl⟩ ?_
 rintro k T H' ⟨i,h,hk,hlen,hi,t1,t3,t4,tm,t5⟩
 simp(disch:=omega)only[↓wr,seval,wq,pM,t1,t3,t4,t5,ag,encS]
 apply ah.dec<;>intro G
 .simp(disch:=omega)only[↓wr,seval,wq,t1,t3,t4,t5]
  refine aS.up g.rules.length (λj T H'=>∃ a:List BV,a.length=g.ak.length/\(g.rules.drop j).foldl (lW null) a=vF g null h/\T 1=.aH (ag g) 0/\T 3=bO null/\T 4=.sl m 0 g.ak.length 1/\H' m=.arr 1 (bV a)/\T 5=gi i/\T 6=gi j)
   ⟨h,hlen,rfl,t1,t3,t4,tm,t5,rfl⟩ ?_
  clear t1 t3 t4 tm t5
  rintro j k2 M N y ⟨a,e,l,t1,t3,t4,tm,t5,t6⟩
  simp(disch:=omega)only[↓wr,seval,wq,pC,t1,t3,t4,t5,t6,ag]
  apply ah.dec<;>intro hd
  .have H:=p.rules
   have v:g.rules[j]?=some (g.rules[j]'(by omega)):=aar (by omega)
   rw[eZ (show j < g.rules.length by omega)] at l
   have c:g.rules[j]'(by omega)∈g.rules:=aaC _
   generalize g.rules[j]'(by omega)=R at v l c
   simp only[aaR] at l
   obtain⟨I,J⟩:=p.left R c
   obtain⟨_,_,z,A⟩:=x.ax R c
   have B:=MZ R.right null a 0 z λs hs=>⟨A s hs,λK=>by have:=p.neg c hs K;omega⟩
   have w:a[R.left.toNat]?=some (a.getD R.left.toNat 0):=getD_some (by omega)
   simp(disch:=omega)only[↓wr,seval,wq,t1,t3,t4,t5,t6,ag,encS,aU,aav,v,aaz]
   intro b C
   have f:¬ m=b:=by rintro rfl;rw[tm] at C;simp at C
   rw[set_set]
   simp(disch:=omega)only[↓wr,seval,wq,t1,t3,t4,t5,t6,tm,f,yy w]
   refine⟨rfl,by omega,by omega,?_⟩
   refine ay.xB B (by kernel_rfl) (.val _) ⟨.tree (fa _),.tree (iP _),Py (.inr ⟨m,by simp[e],by simp[View.set,f,tm]⟩),.tree (.val _),trivial⟩ ?_
   simp(disch:=omega)only[↓wr,seval,wq,t1,t3,t4,t5,t6,tm,f,yy w,uR]
   refine⟨by omega,by first | omega | (simp;omega),aC y (by omega) ⟨lW null a R,by rw[Hy];exact e,l,t1,t3,t4,?_,t5,rfl⟩⟩
   rw[show bV (lW null a R)=(bV a).set R.left.toNat [gw (a.getD R.left.toNat 0 ||| ed null a 0 R.right)] from by rw[lW,bV,abR]]
   simp only[View.set,if_true]
   rfl
  .rw[aaV (by omega),abL] at l
   simp(disch:=omega)only[↓wr,seval,wq,t1,t3,t4,t5]
   obtain⟨q,rfl⟩:∃ q,k=q+1:=⟨k - 1,by omega⟩
   exact⟨q,by omega,i+1,a,by omega,e,by rw[l];exact hi,rfl,tm,rfl⟩
 .simp(disch:=omega)only[↓wr,seval,wq,t4]
  have:k=0:=by omega
  subst this
  rintro D rfl
  rw[<-hi,<-hlen]
  exact S4 (.inr ⟨m,by simp[iter],tm⟩)
end Gv
