/-
  Part 13 of the proof: what the machine does and what the functions answer.
  Conditions: those that each lemma names.
-/
import Derived.Test.YtkkdjpnkhhlnpaaGreatSGzYL
set_option linter.unusedSimpArgs false
set_option linter.unusedVariables false
set_option maxRecDepth 100000
namespace Gv
open Go Go.Proofs
def ni:List de→Int→Int
  | [],_=>-1
  | e :: l,s=>if e.sym=s then e.to else ni l s
def nq (a:List bt):Int→List Int→Int × Bool
  | at_,[]=>(at_,true)
  | at_,s :: l=>if 0≤ni (a.getD at_.toNat cK).cp s∧ni (a.getD at_.toNat cK).cp s < a.length then nq a (ni (a.getD at_.toNat cK).cp s) l else (0,false)
def ga (a:List bt) (at_:Int) (l:List Int):Int × Bool:=if at_ < 0∨(a.length:Int)≤at_ then (0,false) else nq a at_ l
theorem tL {a:List bt} : ∀ (l:List Int) (at_:Int),0≤at_→at_ < a.length→0≤(nq a at_ l).1∧(nq a at_ l).1 < a.length
  | [],at_,h1,h2=>⟨h1,h2⟩
  | s :: l,at_,h1,h2=>by
    rw[nq]
    split
    · rename_i h; exact tL l _ h.1 h.2
    · exact ⟨by simp,by simp only; omega⟩
abbrev Sets:=List (List BV)
def cY (ss:Sets) (i k:Nat):BV:=(ss.getD i []).getD k 0
def gQ (l:List aN) (row:List BV) (x:aN) (s:BV):List BV:=List.zipWith (fun y v=>if y=x then v ||| s else v) l row
def dT (ls:List (List aN)) (ss:Sets) (st:Nat) (x:aN) (s:BV):Sets:=ss.set st (gQ (ls.getD st []) (ss.getD st []) x s)
def iR (ls:List (List aN)) (ss:Sets):Prop:=ss.length=ls.length∧∀ i:Nat,(ss.getD i []).length=(ls.getD i []).length
def ji (a b:Sets):Prop:=a.length=b.length∧(∀ i:Nat,(a.getD i []).length=(b.getD i []).length)∧∀ i k,sg (cY a i k) (cY b i k)
theorem ji.refl {a:Sets} : ji a a:=⟨rfl,fun _=>rfl,fun _ _ _ h=>h⟩
theorem ji.trans {a b c:Sets} (h:ji a b) (k:ji b c):ji a c:=⟨h.1.trans k.1,fun i=>(h.2.1 i).trans (k.2.1 i),fun i j t ht=>k.2.2 i j t (h.2.2 i j t ht)⟩
theorem ji.C5 {a b:Sets} (h:ji a b) (k:ji b a):a=b:=by
  refine List.ext_getElem h.1 fun i h1 h2=>?_
  have e1:a.getD i []=a[i]:=by simp[List.getD_eq_getElem?_getD,h1]
  have e2:b.getD i []=b[i]:=by simp[List.getD_eq_getElem?_getD,h2]
  refine List.ext_getElem (by rw[← e1,← e2]; exact h.2.1 i) fun j h3 h4=>?_
  have g1:cY a i j=a[i][j]:=by rw[cY,e1]; simp[List.getD_eq_getElem?_getD,h3]
  have g2:cY b i j=b[i][j]:=by rw[cY,e2]; simp[List.getD_eq_getElem?_getD,h4]
  rw[← g1,← g2]
  refine zk fun t _=>?_
  have p:=h.2.2 i j t
  have q:=k.2.2 i j t
  cases hx:(cY a i j).getLsbD t with
  | true=>rw[p hx]
  | false =>
    cases hy:(cY b i j).getLsbD t with
    | false=>rfl
    | true=>rw[q hy] at hx; exact absurd hx (by simp)
theorem jr {l:List aN} {row:List BV} {x:aN} {s:BV} (h:row.length=l.length):(gQ l row x s).length=row.length:=by
  simp[gQ,h]
theorem HP {l:List aN} {row:List BV} {x:aN} {s:BV} (h:row.length=l.length) (k:Nat):(gQ l row x s).getD k 0=if l[k]?=some x then row.getD k 0 ||| s else row.getD k 0:=by
  rw[gQ,List.getD_eq_getElem?_getD,List.getElem?_zipWith,List.getD_eq_getElem?_getD]
  by_cases hk:k < l.length
  · have h1:l[k]?=some l[k]:=List.getElem?_eq_getElem hk
    have h2:row[k]?=some (row[k]'(by omega)):=List.getElem?_eq_getElem (by omega)
    rw[h1,h2]
    simp
  · rw[List.getElem?_eq_none (by omega),List.getElem?_eq_none (by omega)]
    simp
theorem tS {α:Type} (l:List α) (i j:Nat) (x d:α):(l.set i x).getD j d=if i=j∧i < l.length then x else l.getD j d:=by
  simp only[List.getD_eq_getElem?_getD,List.getElem?_set]
  by_cases e:i=j
  · subst e
    by_cases h:i < l.length
    · simp[h]
    · simp[h]
  · simp[e]
theorem qB {ls:List (List aN)} {ss:Sets} (hs:iR ls ss) {st:Nat} (hst:st < ls.length) (x:aN) (s:BV) (i k:Nat) :
    cY (dT ls ss st x s) i k=if i=st∧(ls.getD st [])[k]?=some x then cY ss i k ||| s else cY ss i k:=by
  have hl:=hs.1
  unfold cY dT
  rw[tS]
  by_cases e:st=i
  · subst e
    rw[if_pos ⟨rfl,by omega⟩,HP (hs.2 st)]
    simp
  · rw[if_neg (fun h=>e h.1),if_neg (fun h=>e h.1.symm)]
theorem fM {ls:List (List aN)} {ss:Sets} (hs:iR ls ss) {st:Nat} (_:st < ls.length) (x:aN) (s:BV):iR ls (dT ls ss st x s):=by
  refine ⟨by rw[dT,List.length_set]; exact hs.1,fun i=>?_⟩
  have hl:=hs.1
  unfold dT
  rw[tS]
  split
  · rename_i h
    obtain ⟨rfl,_⟩:=h
    rw[jr (hs.2 st)]; exact hs.2 st
  · exact hs.2 i
theorem iR.eq {ls:List (List aN)} {a b:Sets} (h:iR ls a) (k:iR ls b):a.length=b.length∧∀ i:Nat,(a.getD i []).length=(b.getD i []).length:=⟨h.1.trans k.1.symm,fun i=>(h.2 i).trans (k.2 i).symm⟩
theorem jT {ls:List (List aN)} {ss:Sets} (hs:iR ls ss) {st:Nat} (hst:st < ls.length) (x:aN) (s:BV):ji ss (dT ls ss st x s):=by
  refine ⟨(hs.eq (fM hs hst x s)).1,(hs.eq (fM hs hst x s)).2,fun i k t ht=>?_⟩
  rw[qB hs hst]
  split
  · rw[BitVec.getLsbD_or,ht]; rfl
  · exact ht
theorem DE {ls:List (List aN)} {ss:Sets} (hs:iR ls ss) {st:Nat} (hst:st < ls.length) {x:aN} {s:BV} (h:dT ls ss st x s=ss) {k:Nat} (hk:(ls.getD st [])[k]?=some x):sg s (cY ss st k):=by
  have:=qB hs hst x s st k
  rw[h,if_pos ⟨rfl,hk⟩] at this
  intro t ht
  rw[this,BitVec.getLsbD_or,ht,Bool.or_true]
def eV (g:ay) (x:aN):List Int:=if 0≤x.aP then (bk g x.aP).right.drop (x.dot+1).toNat else []
def dS (g:ay) (ls:List (List aN)) (st:Nat) (s:Int) (b:BV) (ss:Sets) (n:Nat):Sets:=(List.range n).foldl (fun ss (k:Nat)=>if (bk g k).left = -1 - s then dT ls ss st ⟨k,0⟩ b else ss) ss
def fJ (g:ay) (null:List Bool) (a:List bt) (ls:List (List aN)) (i k:Nat) (ss:Sets):Sets :=
  if (bI g ((ls.getD i []).getD k ⟨0,0⟩)).2=false∨cY ss i k=0 then ss
  else if 0≤(bI g ((ls.getD i []).getD k ⟨0,0⟩)).1 then dT ls ss (ga a i [(bI g ((ls.getD i []).getD k ⟨0,0⟩)).1]).1.toNat ⟨((ls.getD i []).getD k ⟨0,0⟩).aP,((ls.getD i []).getD k ⟨0,0⟩).dot+1⟩ (cY ss i k)
  else dS g ls i (bI g ((ls.getD i []).getD k ⟨0,0⟩)).1 (jk null (j7 g null) (cY ss i k) (eV g ((ls.getD i []).getD k ⟨0,0⟩)))
    (dT ls ss (ga a i [(bI g ((ls.getD i []).getD k ⟨0,0⟩)).1]).1.toNat ⟨((ls.getD i []).getD k ⟨0,0⟩).aP,((ls.getD i []).getD k ⟨0,0⟩).dot+1⟩ (cY ss i k)) g.rules.length
inductive sk (g:ay) (null:List Bool) (a:List bt) (ls:List (List aN)):Nat→aN→Nat→Prop
  | start:(⟨-1,0⟩:aN)∈ls.getD 0 []→sk g null a ls 0 ⟨-1,0⟩ g.ax.length
  | move {i:Nat} {x:aN} {t:Nat} {s:Int} : sk g null a ls i x t→bI g x=(s,true)→(⟨x.aP,x.dot+1⟩:aN)∈ls.getD (ga a i [s]).1.toNat []→sk g null a ls (ga a i [s]).1.toNat ⟨x.aP,x.dot+1⟩ t
  | begin {i:Nat} {x:aN} {t u:Nat} {s:Int} {k:Nat} : sk g null a ls i x t→bI g x=(s,true)→s < 0→k < g.rules.length→(bk g k).left = -1 - s→(⟨k,0⟩:aN)∈ls.getD i [] →
      (jk null (j7 g null) (BitVec.twoPow 32 t) (eV g x)).getLsbD u=true→sk g null a ls i ⟨k,0⟩ u
theorem sk.mem {g:ay} {null:List Bool} {a:List bt} {ls:List (List aN)} {i:Nat} {x:aN} {t:Nat} (h:sk g null a ls i x t):x∈ls.getD i []:=by
  cases h <;> assumption
def jf (g:ay) (null:List Bool) (a:List bt) (ls:List (List aN)) (ss:Sets):Prop:=∀ i k x t,(ls.getD i [])[k]?=some x→(cY ss i k).getLsbD t=true→sk g null a ls i x t
section
variable {g:ay} {null:List Bool} {a:List bt} {ls:List (List aN)}
theorem sN (hla:ls.length=a.length) (h1:1≤a.length) (i:Nat) (l:List Int):(ga a i l).1.toNat < ls.length:=by
  unfold ga
  split
  · simp; omega
  · rename_i h
    have:=tL (a:=a) l (i:Int) (by omega) (by omega)
    omega
theorem pC {ss:Sets} (hs:iR ls ss) (hd:jf g null a ls ss) {st:Nat} (hst:st < ls.length) {x:aN} {s:BV} (h:∀ t,s.getLsbD t=true→x∈ls.getD st []→sk g null a ls st x t):jf g null a ls (dT ls ss st x s):=by
  intro i k y t hy ht
  rw[qB hs hst] at ht
  split at ht
  · rename_i hc
    obtain ⟨rfl,hk⟩:=hc
    rw[hk] at hy
    simp only[Option.some.injEq] at hy
    subst hy
    rw[BitVec.getLsbD_or,Bool.or_eq_true] at ht
    rcases ht with ht | ht
    · exact hd i k x t hk ht
    · exact h t ht (List.mem_of_getElem? hk)
  · exact hd i k y t hy ht
theorem iY {st:Nat} (hst:st < ls.length) (s:Int) (b:BV):∀ (n:Nat) (ss:Sets),iR ls ss→iR ls (dS g ls st s b ss n)∧ji ss (dS g ls st s b ss n)
  | 0,ss,hs=>⟨hs,.refl⟩
  | n+1,ss,hs=>by
    obtain ⟨h1,h2⟩:=iY hst s b n ss hs
    unfold dS at h1 h2 ⊢
    rw[List.range_succ,List.foldl_append]
    simp only[List.foldl_cons,List.foldl_nil]
    split
    · exact ⟨fM h1 hst _ _,h2.trans (jT h1 hst _ _)⟩
    · exact ⟨h1,h2⟩
theorem xI {st:Nat} (hst:st < ls.length) (s:Int) (b:BV) (hb:∀ (k:Nat) t,(bk g k).left = -1 - s→k < g.rules.length→b.getLsbD t=true→(⟨k,0⟩:aN)∈ls.getD st []→sk g null a ls st ⟨k,0⟩ t):∀ (n:Nat) (ss:Sets),n≤g.rules.length→iR ls ss→jf g null a ls ss→jf g null a ls (dS g ls st s b ss n)
  | 0,ss,_,_,hd=>hd
  | n+1,ss,hn,hs,hd=>by
    have h1:=(iY (g:=g) hst s b n ss hs).1
    have h2:=xI hst s b hb n ss (by omega) hs hd
    unfold dS at h1 h2 ⊢
    rw[List.range_succ,List.foldl_append]
    simp only[List.foldl_cons,List.foldl_nil]
    split
    · rename_i hl
      exact pC h1 h2 hst fun t ht hm=>hb n t hl (by omega) ht hm
    · exact h2
theorem zV {st:Nat} (hst:st < ls.length) (s:Int) (b:BV):∀ (n:Nat) (ss:Sets),iR ls ss→dS g ls st s b ss n=ss→∀ k:Nat,k < n→(bk g k).left = -1 - s→dT ls ss st ⟨k,0⟩ b=ss
  | 0,ss,_,_,k,hk,_=>by omega
  | n+1,ss,hs,he,k,hk,hl=>by
    obtain ⟨h1,h2⟩:=iY (g:=g) hst s b n ss hs
    have e:dS g ls st s b ss (n+1)=if (bk g n).left = -1 - s then dT ls (dS g ls st s b ss n) st ⟨n,0⟩ b else dS g ls st s b ss n:=by
      unfold dS
      rw[List.range_succ,List.foldl_append]
      rfl
    have hsame:dS g ls st s b ss n=ss:=by
      refine ji.C5 ?_ h2
      rw[e] at he
      split at he
      · exact Eq.mp (congrArg (ji _) he) (jT h1 hst _ _)
      · rw[he]; exact .refl
    by_cases hkn:k=n
    · subst hkn
      rw[e,if_pos hl,hsame] at he
      exact he
    · exact zV hst s b n ss hs hsame k (by omega) hl
theorem Au (hla:ls.length=a.length) (h1:1≤a.length) {i:Nat} (hi:i < ls.length) (k:Nat) {ss:Sets} (hs:iR ls ss):iR ls (fJ g null a ls i k ss)∧ji ss (fJ g null a ls i k ss):=by
  unfold fJ
  split
  · exact ⟨hs,.refl⟩
  · have hw:=sN hla h1 i [(bI g ((ls.getD i []).getD k ⟨0,0⟩)).1]
    split
    · exact ⟨fM hs hw _ _,jT hs hw _ _⟩
    · have:=iY (g:=g) hi (bI g ((ls.getD i []).getD k ⟨0,0⟩)).1 (jk null (j7 g null) (cY ss i k) (eV g ((ls.getD i []).getD k ⟨0,0⟩))) g.rules.length _ (fM hs hw ⟨((ls.getD i []).getD k ⟨0,0⟩).aP,((ls.getD i []).getD k ⟨0,0⟩).dot+1⟩ (cY ss i k))
      exact ⟨this.1,(jT hs hw _ _).trans this.2⟩
theorem z7 (hla:ls.length=a.length) (h1:1≤a.length) {i k:Nat} (hi:i < ls.length) (hk:k < (ls.getD i []).length) {ss:Sets} (hs:iR ls ss) (hd:jf g null a ls ss):jf g null a ls (fJ g null a ls i k ss):=by
  have hx:(ls.getD i [])[k]?=some ((ls.getD i []).getD k ⟨0,0⟩):=getD_some hk
  unfold fJ
  generalize (ls.getD i []).getD k ⟨0,0⟩=x at hx ⊢
  split
  · exact hd
  · rename_i hc
    have hn:bI g x=((bI g x).1,true):=by
      cases h:(bI g x).2 with
      | false=>exact absurd (.inl h) hc
      | true=>rw[← h]
    have hz:cY ss i k≠0:=fun h=>hc (.inr h)
    have hw:=sN hla h1 i [(bI g x).1]
    have d1:=pC hs hd hw (x:=⟨x.aP,x.dot+1⟩) (s:=cY ss i k) fun t ht hm=>sk.move (hd i k x t hx ht) hn hm
    split
    · exact d1
    · rename_i hneg
      refine xI hi _ _ (fun q u hl hq hu hm=>?_) _ _ (Nat.le_refl _) (fM hs hw _ _) d1
      obtain ⟨t,h2,h3⟩:=P0 _ _ hu hz
      exact sk.begin (hd i k x t hx h2) hn (by omega) hq hl hm h3
theorem Nl (hla:ls.length=a.length) (h1:1≤a.length) {ss:Sets} (hs:iR ls ss) (h0:∀ k,(ls.getD 0 [])[k]?=some ⟨-1,0⟩→(cY ss 0 k).getLsbD g.ax.length=true)
    (hf:∀ i k,i < ls.length→k < (ls.getD i []).length→fJ g null a ls i k ss=ss) {i:Nat} {x:aN} {t:Nat} (h:sk g null a ls i x t):∀ k,(ls.getD i [])[k]?=some x→(cY ss i k).getLsbD t=true:=by
  have key:∀ {i:Nat} {x:aN} {t:Nat},sk g null a ls i x t→(∀ k,(ls.getD i [])[k]?=some x→(cY ss i k).getLsbD t=true)→∃ k,(ls.getD i [])[k]?=some x∧i < ls.length∧k < (ls.getD i []).length∧(cY ss i k).getLsbD t=true:=by
    intro i x t h ih
    obtain ⟨k,hk,e⟩:=List.mem_iff_getElem.1 h.mem
    have hx:(ls.getD i [])[k]?=some x:=by rw[List.getElem?_eq_getElem hk,e]
    refine ⟨k,hx,?_,hk,ih k hx⟩
    rcases Nat.lt_or_ge i ls.length with h | h
    · exact h
    · rw[List.getD_eq_getElem?_getD,List.getElem?_eq_none h] at hk; simp at hk
  induction h with
  | start=>exact h0
  | @move i x t s hl hn hm ih =>
    intro j hj
    obtain ⟨k,hx,hi,hk,hb⟩:=key hl ih
    have hp:=hf i k hi hk
    have hxe:(ls.getD i []).getD k ⟨0,0⟩=x:=by rw[List.getD_eq_getElem?_getD,hx]; rfl
    have hz:¬ cY ss i k=0:=fun e=>by rw[e] at hb; simp at hb
    unfold fJ at hp
    rw[hxe,hn,if_neg (fun h=>h.elim (by simp) hz)] at hp
    simp only at hp
    have hw:=sN hla h1 i [s]
    have hg:dT ls ss (ga a i [s]).1.toNat ⟨x.aP,x.dot+1⟩ (cY ss i k)=ss:=by
      split at hp
      · exact hp
      · exact ji.C5 (Eq.mp (congrArg (ji _) hp) (iY hi _ _ _ _ (fM hs hw _ _)).2) (jT hs hw _ _)
    exact DE hs hw hg hj t hb
  | @begin i x t u s q hl hn hneg hq hL hm hu ih =>
    intro j hj
    obtain ⟨k,hx,hi,hk,hb⟩:=key hl ih
    have hp:=hf i k hi hk
    have hxe:(ls.getD i []).getD k ⟨0,0⟩=x:=by rw[List.getD_eq_getElem?_getD,hx]; rfl
    have hz:¬ cY ss i k=0:=fun e=>by rw[e] at hb; simp at hb
    unfold fJ at hp
    rw[hxe,hn,if_neg (fun h=>h.elim (by simp) hz)] at hp
    simp only at hp
    have hw:=sN hla h1 i [s]
    rw[if_neg (by omega)] at hp
    have hg:dT ls ss (ga a i [s]).1.toNat ⟨x.aP,x.dot+1⟩ (cY ss i k)=ss:=by
      exact ji.C5 (Eq.mp (congrArg (ji _) hp) (iY hi _ _ _ _ (fM hs hw _ _)).2) (jT hs hw _ _)
    rw[hg] at hp
    have:=zV hi _ _ _ _ hs hp q hq hL
    exact DE hs hi this hj u (FK (Ku hb) _ _ hu)
def wP (l:List BV):Nat:=(l.map BitVec.toNat).sum
def yX (ss:Sets):Nat:=(ss.map wP).sum
theorem JD:∀ {a b:List BV},a.length=b.length→(∀ k:Nat,sg (a.getD k 0) (b.getD k 0))→wP a≤wP b∧(a≠b→wP a < wP b)
  | [],[],_,_=>⟨Nat.le_refl _,fun h=>absurd rfl h⟩
  | [],_ :: _,h,_=>by simp at h
  | _ :: _,[],h,_=>by simp at h
  | x :: a,y :: b,h,hs=>by
    obtain ⟨h1,h2⟩:=JD (a:=a) (b:=b) (by simpa using h) fun k=>by simpa using hs (k+1)
    have h3:sg x y:=by simpa using hs 0
    have e:=C0.2 h3
    have h4:x.toNat≤y.toNat:=by have:=R4 y x; rw[BitVec.or_comm] at e; rw[e] at this; exact this
    simp only[wP,List.map_cons,List.sum_cons] at h1 h2 ⊢
    refine ⟨by omega,fun hne=>?_⟩
    by_cases hxy:x=y
    · subst hxy
      have:=h2 fun e=>hne (by rw[e])
      omega
    · have:x.toNat≠y.toNat:=fun e=>hxy (BitVec.eq_of_toNat_eq e)
      omega
theorem JK:∀ {a b:Sets},ji a b→yX a≤yX b∧(a≠b→yX a < yX b)
  | [],[],_=>⟨Nat.le_refl _,fun h=>absurd rfl h⟩
  | [],_ :: _,h=>by have:=h.1; simp at this
  | _ :: _,[],h=>by have:=h.1; simp at this
  | x :: a,y :: b,h=>by
    obtain ⟨h1,h2⟩:=JK (a:=a) (b:=b) ⟨by simpa using h.1,fun i=>by simpa using h.2.1 (i+1),fun i k=>by simpa [cY] using h.2.2 (i+1) k⟩
    obtain ⟨h3,h4⟩:=JD (a:=x) (b:=y) (by simpa using h.2.1 0) fun k=>by simpa [cY] using h.2.2 0 k
    simp only[yX,List.map_cons,List.sum_cons] at h1 h2 ⊢
    refine ⟨by omega,fun hne=>?_⟩
    by_cases hxy:x=y
    · subst hxy
      have:=h2 fun e=>hne (by rw[e])
      omega
    · have:=h4 hxy
      omega
theorem Hh:∀ l:List BV,wP l≤l.length * 4294967296
  | []=>by simp[wP]
  | x :: l=>by
    have:=Hh l
    have hx:=x.isLt
    simp only[wP,List.map_cons,List.sum_cons,List.length_cons] at this ⊢
    omega
def O9 (ls:List (List aN)):Nat:=(ls.map fun l=>l.length * 4294967296).sum
theorem FW:∀ {ls:List (List aN)} {ss:Sets},iR ls ss→yX ss≤O9 ls
  | [],[],_=>Nat.le_refl _
  | [],_ :: _,h=>by have:=h.1; simp at this
  | _ :: _,[],h=>by have:=h.1; simp at this
  | l :: ls,x :: ss,h=>by
    have h1:=FW (ls:=ls) (ss:=ss) ⟨by simpa using h.1,fun i=>by simpa using h.2 (i+1)⟩
    have h2:=Hh x
    have h3:x.length=l.length:=by simpa using h.2 0
    simp only[yX,O9,List.map_cons,List.sum_cons] at h1 ⊢
    rw[h3] at h2
    omega
end
def C4 (p:Nat→Bool):Nat→BV
  | 0=>0
  | n+1=>if p n=true then C4 p n ||| BitVec.twoPow 32 n else C4 p n
theorem Hg (p:Nat→Bool):∀ (n i:Nat),n≤32→((C4 p n).getLsbD i=true↔i < n∧p i=true)
  | 0,i,_=>by simp[C4]
  | n+1,i,h=>by
    have ih:=Hg p n i (by omega)
    rw[C4]
    split
    · rename_i hp
      rw[BitVec.getLsbD_or,Bool.or_eq_true,ih,BitVec.getLsbD_twoPow]
      simp only[Bool.and_eq_true,decide_eq_true_eq]
      constructor
      · rintro (⟨h1,h2⟩ | ⟨h1,rfl⟩)
        · exact ⟨by omega,h2⟩
        · exact ⟨by omega,hp⟩
      · rintro ⟨h1,h2⟩
        rcases Nat.lt_or_ge i n with h3 | h3
        · exact .inl ⟨h3,h2⟩
        · exact .inr ⟨by omega,by omega⟩
    · rename_i hp
      rw[ih]
      constructor
      · rintro ⟨h1,h2⟩; exact ⟨by omega,h2⟩
      · rintro ⟨h1,h2⟩
        refine ⟨?_,h2⟩
        rcases Nat.lt_or_ge i n with h3 | h3
        · exact h3
        · have:i=n:=by omega
          subst this; exact absurd h2 hp
structure dk where
  aP:Int
  set:BV
  deriving DecidableEq
structure lL where
  state:Int
  term:Int
  kind:Int
  aP:Int
  other:Int
  deriving DecidableEq
noncomputable def bV (g:ay):List bt × Int:=if isRed g=true then iD g 302 0 gq else ([],1)
noncomputable def aW (g:ay) (a:List bt):List (List aN):=a.map fun s=>dA g s.bG
open Classical in
noncomputable def sY (g:ay) (a:List bt) (i:Nat) (x:aN):BV:=C4 (fun t=>decide (sk g (bm g false) a (aW g a) i x t)) 32
noncomputable def iC (g:ay) (a:List bt) (i:Nat):List dk:=((aW g a).getD i []).filterMap fun x=>if (bI g x).2=false∧0≤x.aP then some ⟨x.aP,sY g a i x⟩ else none
noncomputable def fi (g:ay) (a:List bt):List (List dk):=(List.range a.length).map (iC g a)
noncomputable def rK (g:ay):List (List dk) × Int:=if (bV g).2=0 then (fi g (bV g).1,0) else ([],(bV g).2)
def hasB (s:BV) (n:Int):Bool:=decide (s &&& ib n≠0)
def gp (l:List dk) (n:Int):List Int:=(l.filter fun x=>hasB x.set n).map dk.aP
def fj (g:ay) (t:Int):Int:=match g.ax[t.toNat]? with
  | some x=>x.level
  | none=>0
def wc (g:ay) (t:Int):Int:=match g.ax[t.toNat]? with
  | some x=>x.assoc
  | none=>0
def kL (g:ay) (aP term:Int):Int :=
  if bS g=false∨aP < 0∨(g.rules.length:Int)≤aP∨term < 0∨(g.ax.length:Int) < term then 0
  else if term=g.ax.length∨(bk g aP).prec < 0∨fj g (bk g aP).prec=0∨fj g term=0 then 4
  else if fj g term < fj g (bk g aP).prec∨fj g (bk g aP).prec=fj g term∧wc g term=1 then 1
  else if fj g (bk g aP).prec < fj g term∨wc g term=2 then 2
  else 3
def nS:List de→Int→Option Cell
  | [],_=>none
  | e :: l,s=>if e.sym=s then some ⟨1,e.to⟩ else nS l s
def jg (g:ay) (s:bt) (term:Int):Cell:=match nS s.cp term with
  | some c=>c
  | none=>if term=g.ax.length∧(⟨-1,1⟩:aN)∈s.bG then ⟨3,0⟩ else ⟨0,0⟩
def jQ (state term r0:Int) (l:List Int):List lL:=l.map fun r=>⟨state,term,5,r,r0⟩
def gI (g:ay) (s:bt) (l:List dk) (state term:Int):Cell × List lL:=match gp l term with
  | []=>(jg g s term,[])
  | r :: rs =>
    if (jg g s term).kind=0 then (⟨2,r⟩,jQ state term r rs)
    else (if kL g r term=1 then ⟨2,r⟩ else if kL g r term=3 then ⟨0,0⟩ else jg g s term,jQ state term r rs ++ [⟨state,term,kL g r term,r,-1⟩])
def gM (g:ay) (s:bt) (l:List dk) (state:Int) (n:Nat):List Cell:=(List.range n).map fun (k:Nat)=>(gI g s l state k).1
def xc (g:ay) (s:bt) (l:List dk) (state:Int) (n:Nat):List lL:=(List.range n).flatMap fun (k:Nat)=>(gI g s l state k).2
def rM (a:List bt) (i:Int) (k:Int):Int:=if (ga a i [-1 - k]).2=true then (ga a i [-1 - k]).1 else -1
def AB (g:ay) (a:List bt) (i:Int):List Int:=(List.range g.aA.length).map fun (k:Nat)=>rM a i k
def im (g:ay) (a:List bt) (l:List (List dk)) (n:Nat):dx:=⟨(List.range n).map fun (i:Nat)=>gM g (a.getD i cK) (l.getD i []) i (g.ax.length+1),(List.range n).map fun (i:Nat)=>AB g a i⟩
def pk (g:ay) (a:List bt) (l:List (List dk)) (n:Nat):List lL:=(List.range n).flatMap fun (i:Nat)=>xc g (a.getD i cK) (l.getD i []) i (g.ax.length+1)
noncomputable def dw (g:ay):dx × List lL × Int:=if (bV g).2=0 then (im g (bV g).1 (rK g).1 (bV g).1.length,pk g (bV g).1 (rK g).1 (bV g).1.length,0) else (⟨[],[]⟩,[],(bV g).2)
structure dM (g:ay) (at_ i:Nat) (out:List bt):Prop where
  bG:∀ s∈out,b6 s.bG∧s.bG≠[]∧∀ x∈s.bG,cW g x
  cp:∀ j s,out[j]?=some s→s.cp.length≤40∧(j=at_→s.cp.length≤i)∧(at_ < j→s.cp=[])
  to:∀ s∈out,∀ e∈s.cp,0≤e.to∧e.to < out.length
  sym:∀ s∈out,∀ e∈s.cp,-1000≤e.sym∧e.sym≤1000
theorem mem_modify {α:Type} {l:List α} {i:Nat} {f:α→α} {y:α} (h:y∈l.modify i f):y∈l∨∃ x,l[i]?=some x∧y=f x:=by
  obtain ⟨j,hj,e⟩:=List.mem_iff_getElem.1 h
  simp only[List.length_modify] at hj
  rw[List.getElem_modify] at e
  split at e
  · rename_i hij
    subst hij
    exact .inr ⟨l[i],List.getElem?_eq_getElem hj,e.symm⟩
  · exact .inl (e ▸ List.getElem_mem hj)
theorem MJ (g:ay) (l:List aN) (at_:Nat) (out:List bt) (i:Nat):out.length≤(dK g l at_ out i).length∧(dK g l at_ out i).length≤out.length+1:=by
  unfold dK
  split
  · omega
  · split
    · simp
    · simp
theorem dM.put {g:ay} {at_ i:Nat} {out:List bt} (h:dM g at_ i out) (hi:i < 40) {s:Int} (hs : -1000≤s∧s≤1000) {to:Int} (ht:0≤to∧to < out.length):dM g at_ (i+1) (out.modify at_ fun x=>(⟨x.bG,x.cp ++ [⟨s,to⟩]⟩:bt)):=by
  refine ⟨fun y hy=>?_,fun j y hy=>?_,fun y hy e he=>?_,fun y hy e he=>?_⟩
  rotate_right
  · rcases mem_modify hy with hy | ⟨x,hx,rfl⟩
    · exact h.sym y hy e he
    · rcases List.mem_append.1 he with he | he
      · exact h.sym x (List.mem_of_getElem? hx) e he
      · simp at he; subst he; exact hs
  · rcases mem_modify hy with hy | ⟨x,hx,rfl⟩
    · exact h.bG y hy
    · exact h.bG x (List.mem_of_getElem? hx)
  · rw[List.getElem?_modify] at hy
    cases hx:out[j]? with
    | none=>rw[hx] at hy; simp at hy
    | some x =>
      rw[hx] at hy
      have h1:=h.cp j x hx
      by_cases e:at_=j
      · subst e
        simp at hy
        subst hy
        have:=h1.2.1 rfl
        refine ⟨by simp; omega,fun _=>by simp; omega,fun h=>by omega⟩
      · simp[e] at hy
        subst hy
        exact ⟨h1.1,fun h=>absurd h.symm e,h1.2.2⟩
  · rw[List.length_modify]
    rcases mem_modify hy with hy | ⟨x,hx,rfl⟩
    · exact h.to y hy e he
    · rcases List.mem_append.1 he with he | he
      · exact h.to x (List.mem_of_getElem? hx) e he
      · simp at he; subst he; exact ht
theorem dM.up {g:ay} {at_ i:Nat} {out:List bt} (h:dM g at_ i out):dM g at_ (i+1) out :=
  ⟨h.bG,fun j s hs=>by have:=h.cp j s hs; exact ⟨this.1,fun e=>by have:=this.2.1 e; omega,this.2.2⟩,h.to,h.sym⟩
theorem dM.add {g:ay} {at_ i:Nat} {out:List bt} (h:dM g at_ i out) {k:List aN} (hk:b6 k∧k≠[]∧∀ x∈k,cW g x):dM g at_ i (out ++ [⟨k,[]⟩]):=by
  refine ⟨fun y hy=>?_,fun j y hy=>?_,fun y hy e he=>?_,fun y hy e he=>?_⟩
  rotate_right
  · rcases List.mem_append.1 hy with hy | hy
    · exact h.sym y hy e he
    · simp at hy; subst hy; simp at he
  · rcases List.mem_append.1 hy with hy | hy
    · exact h.bG y hy
    · simp at hy; subst hy; exact hk
  · rcases Nat.lt_or_ge j out.length with hj | hj
    · rw[List.getElem?_append_left hj] at hy; exact h.cp j y hy
    · rw[List.getElem?_append_right hj] at hy
      cases hq:j - out.length with
      | zero=>rw[hq] at hy; simp at hy; subst hy; exact ⟨by simp,fun _=>by simp,fun _=>rfl⟩
      | succ q=>rw[hq] at hy; simp at hy
  · rcases List.mem_append.1 hy with hy | hy
    · have:=h.to y hy e he; simp; omega
    · simp at hy; subst hy; simp at he
theorem dM.step {g:ay} {l:List aN} (hs:b6 l) (hl:∀ x∈l,cW g x) {at_ i:Nat} {out:List bt} (h:dM g at_ i out) (hi:i < 40):dM g at_ (i+1) (dK g l at_ out i):=by
  unfold dK
  split
  · exact h.up
  · rename_i hne
    have hb : -1000≤c6 g i∧c6 g i≤1000:=by unfold c6; split <;> omega
    split
    · exact (h.add ⟨LL _ hs,hne,N8 hl⟩).put hi hb (by simp; omega)
    · have:=Az out (dc g l (c6 g i))
      exact h.put hi hb ⟨by omega,this⟩
theorem dM.next {g:ay} {at_ i:Nat} {out:List bt} (h:dM g at_ i out):dM g (at_+1) 0 out :=
  ⟨h.bG,fun j s hs=>by
    have:=h.cp j s hs
    exact ⟨this.1,fun e=>by have:=this.2.2 (by omega); simp[this],fun e=>this.2.2 (by omega)⟩,h.to,h.sym⟩
theorem dM.row {g:ay} {l:List aN} (hs:b6 l) (hl:∀ x∈l,cW g x) {at_:Nat} {out:List bt} (h:dM g at_ 0 out):∀ n:Nat,n≤40→dM g at_ n ((List.range n).foldl (dK g l at_) out)∧out.length≤((List.range n).foldl (dK g l at_) out).length∧((List.range n).foldl (dK g l at_) out).length≤out.length+n
  | 0,_=>⟨h,Nat.le_refl _,Nat.le_refl _⟩
  | n+1,hn=>by
    obtain ⟨h1,h2,h3⟩:=dM.row hs hl h n (by omega)
    rw[List.range_succ,List.foldl_append]
    simp only[List.foldl_cons,List.foldl_nil]
    have:=MJ g l at_ ((List.range n).foldl (dK g l at_) out) n
    exact ⟨h1.step hs hl (by omega),by omega,by omega⟩
theorem tT {g:ay} : dM g 0 0 gq:=by
  refine ⟨fun s hs=>?_,fun j s hs=>?_,fun s hs e he=>?_,fun s hs e he=>?_⟩
  rotate_right
  · simp[gq] at hs; subst hs; simp at he
  · simp[gq] at hs; subst hs
    refine ⟨by simp[b6],by simp,fun x hx=>?_⟩
    simp at hx; subst hx
    exact ⟨⟨by simp,by simp only; omega⟩,by simp,by simp[dR]⟩
  · have:=List.mem_of_getElem? hs
    simp[gq] at this; subst this; simp
  · simp[gq] at hs; subst hs; simp at he
theorem dM.uT {g:ay} (hf:g.dU) {at_ i:Nat} {out:List bt} (h:dM g at_ i out) {j:Nat} (hj:j < out.length):b6 (dA g (out.getD j cK).bG)∧∀ x∈dA g (out.getD j cK).bG,cW g x:=by
  have hm:=List.mem_of_getElem? (getD_some (d:=cK) hj)
  exact ⟨rQ _ _,fun x hx=>((jU hf (h.bG _ hm).2.2).1 hx).has (h.bG _ hm).2.2⟩
structure B1 (g:ay) (a:List bt):Prop where
  bG:∀ s∈a,b6 s.bG∧s.bG≠[]∧∀ x∈s.bG,cW g x
  cp:∀ s∈a,s.cp.length≤40
  to:∀ s∈a,∀ e∈s.cp,0≤e.to∧e.to < a.length
  sym:∀ s∈a,∀ e∈s.cp,-1000≤e.sym∧e.sym≤1000
theorem dM.ok {g:ay} {at_ i:Nat} {out:List bt} (h:dM g at_ i out):B1 g out :=
  ⟨h.bG,fun s hs=>by obtain ⟨j,hj,e⟩:=List.mem_iff_getElem.1 hs; exact (h.cp j s (by rw[List.getElem?_eq_getElem hj,e])).1,h.to,h.sym⟩
theorem Ht {g:ay} (hf:g.dU):∀ (f at_:Nat) (out:List bt),dM g at_ 0 out→1≤out.length→out.length≤300→(iD g f at_ out).2=0→B1 g (iD g f at_ out).1∧1≤(iD g f at_ out).1.length∧(iD g f at_ out).1.length≤300
  | 0,_,out,h,h1,h2,_=>⟨h.ok,h1,h2⟩
  | f+1,at_,out,h,h1,h2,h3=>by
    rw[iD] at h3 ⊢
    split
    · rename_i ha
      rw[if_pos ha] at h3
      have hr:=dM.row (h.uT hf ha).1 (h.uT hf ha).2 h (g.ax.length+g.aA.length) (by have:=hf.ax; have:=hf.aA; omega)
      rw[show (List.range (g.ax.length+g.aA.length)).foldl (dK g (dA g (out.getD at_ cK).bG) at_) out=yT g at_ out (g.ax.length+g.aA.length) from rfl] at hr
      split
      · rename_i hc; rw[if_pos hc] at h3; simp at h3
      · rename_i hc
        rw[if_neg hc] at h3
        exact Ht hf f (at_+1) _ hr.1.next (by omega) (by omega) h3
    · exact ⟨h.ok,h1,h2⟩
theorem F4 {g:ay} (hf:g.dU) (h:(bV g).2=0):B1 g (bV g).1∧1≤(bV g).1.length∧(bV g).1.length≤300:=by
  unfold bV at h ⊢
  split
  · rename_i hr
    rw[if_pos hr] at h
    exact Ht hf 302 0 gq tT (by simp[gq]) (by simp[gq]) h
  · rename_i hr
    rw[if_neg hr] at h
    simp at h
structure j2 (g:ay) (a:List bt):Prop where
  first:(a.getD 0 cK).bG=[⟨-1,0⟩]
  Kn:∀ s∈a,∀ e∈s.cp,(a.getD e.to.toNat cK).bG=dc g (dA g s.bG) e.sym
theorem rJ (l:List bt) (i:Nat) (c:de) (j:Nat):((l.modify i fun x=>(⟨x.bG,x.cp ++ [c]⟩:bt)).getD j cK).bG=(l.getD j cK).bG:=by
  simp only[List.getD_eq_getElem?_getD,List.getElem?_modify]
  cases l[j]? with
  | none=>rfl
  | some x =>
    by_cases e:i=j
    · subst e; simp
    · simp[e]
theorem j2.put {g:ay} {out:List bt} (h:j2 g out) {at_:Nat} {s to:Int} (ht:(out.getD to.toNat cK).bG=dc g (dA g (out.getD at_ cK).bG) s):j2 g (out.modify at_ fun x=>(⟨x.bG,x.cp ++ [⟨s,to⟩]⟩:bt)):=by
  refine ⟨by rw[rJ]; exact h.first,fun y hy e he=>?_⟩
  rw[rJ]
  rcases mem_modify hy with hy | ⟨x,hx,rfl⟩
  · exact h.Kn y hy e he
  · rcases List.mem_append.1 he with he | he
    · exact h.Kn x (List.mem_of_getElem? hx) e he
    · simp at he; subst he
      rw[ht,List.getD_eq_getElem?_getD,hx]; rfl
theorem j2.add {g:ay} {out:List bt} (h:j2 g out) (h1:1≤out.length) (ht:∀ s∈out,∀ e∈s.cp,0≤e.to∧e.to < out.length) (k:List aN):j2 g (out ++ [⟨k,[]⟩]):=by
  have hg:∀ j:Nat,j < out.length→((out ++ [(⟨k,[]⟩:bt)]).getD j cK)=out.getD j cK:=fun j hj=>by
    simp[List.getD_eq_getElem?_getD,List.getElem?_append_left hj]
  refine ⟨by rw[hg 0 (by omega)]; exact h.first,fun y hy e he=>?_⟩
  rcases List.mem_append.1 hy with hy | hy
  · have:=ht y hy e he
    rw[hg _ (by omega)]; exact h.Kn y hy e he
  · simp at hy; subst hy; simp at he
theorem L6 (g:ay) (l:List aN) (at_:Nat) (out:List bt) (i:Nat) {j:Nat} (hj:j < out.length):((dK g l at_ out i).getD j cK).bG=(out.getD j cK).bG:=by
  unfold dK
  split
  · rfl
  · split
    · rw[rJ]
      simp[List.getD_eq_getElem?_getD,List.getElem?_append_left hj]
    · rw[rJ]
theorem j2.step {g:ay} {l:List aN} {at_ i:Nat} {out:List bt} (h:j2 g out) (hi:dM g at_ i out) (ha:at_ < out.length) (hl:dA g (out.getD at_ cK).bG=l):j2 g (dK g l at_ out i):=by
  unfold dK
  split
  · exact h
  · split
    · refine (h.add (by omega) hi.to _).put ?_
      rw[Int.toNat_natCast]
      have e1:((out ++ [(⟨dc g l (c6 g i),[]⟩:bt)]).getD out.length cK).bG=dc g l (c6 g i):=by
        simp[List.getD_eq_getElem?_getD]
      have e2:(out ++ [(⟨dc g l (c6 g i),[]⟩:bt)]).getD at_ cK=out.getD at_ cK:=by
        simp[List.getD_eq_getElem?_getD,List.getElem?_append_left ha]
      rw[e1,e2,hl]
    · rename_i hf
      refine h.put ?_
      obtain ⟨n,hn⟩:∃ n:Nat,findD out (dc g l (c6 g i))=n:=⟨(findD out (dc g l (c6 g i))).toNat,by omega⟩
      obtain ⟨s,h1,h2⟩:=Hs _ _ _ hn
      rw[hn,Int.toNat_natCast,List.getD_eq_getElem?_getD,h1,hl]
      exact h2
theorem j2.row {g:ay} (hf:g.dU) {at_:Nat} {out:List bt} (h:j2 g out) (hi:dM g at_ 0 out) (ha:at_ < out.length):∀ n:Nat,n≤40→j2 g ((List.range n).foldl (dK g (dA g (out.getD at_ cK).bG) at_) out)∧(((List.range n).foldl (dK g (dA g (out.getD at_ cK).bG) at_) out).getD at_ cK).bG=(out.getD at_ cK).bG
  | 0,_=>⟨h,rfl⟩
  | n+1,hn=>by
    obtain ⟨h1,h2⟩:=j2.row hf h hi ha n (by omega)
    obtain ⟨i1,i2,i3⟩:=dM.row (hi.uT hf ha).1 (hi.uT hf ha).2 hi n (by omega)
    rw[List.range_succ,List.foldl_append]
    simp only[List.foldl_cons,List.foldl_nil]
    refine ⟨h1.step i1 (by omega) (by rw[h2]),?_⟩
    rw[L6 _ _ _ _ _ (by omega),h2]
theorem Ch {g:ay} (hf:g.dU):∀ (f at_:Nat) (out:List bt),dM g at_ 0 out→j2 g out→(iD g f at_ out).2=0→j2 g (iD g f at_ out).1
  | 0,_,out,_,h,_=>h
  | f+1,at_,out,hi,h,h3=>by
    rw[iD] at h3 ⊢
    split
    · rename_i ha
      rw[if_pos ha] at h3
      have hr:=dM.row (hi.uT hf ha).1 (hi.uT hf ha).2 hi (g.ax.length+g.aA.length) (by have:=hf.ax; have:=hf.aA; omega)
      have he:=h.row hf hi ha (g.ax.length+g.aA.length) (by have:=hf.ax; have:=hf.aA; omega)
      rw[show (List.range (g.ax.length+g.aA.length)).foldl (dK g (dA g (out.getD at_ cK).bG) at_) out=yT g at_ out (g.ax.length+g.aA.length) from rfl] at hr he
      split
      · rename_i hc; rw[if_pos hc] at h3; simp at h3
      · rename_i hc
        rw[if_neg hc] at h3
        exact Ch hf f (at_+1) _ hr.1.next he.1 h3
    · exact h
theorem Kx {g:ay} (hf:g.dU) (h:(bV g).2=0):j2 g (bV g).1:=by
  unfold bV at h ⊢
  split
  · rename_i hr
    rw[if_pos hr] at h
    exact Ch hf 302 0 gq tT ⟨rfl,fun s hs e he=>by simp[gq] at hs; subst hs; simp at he⟩ h
  · rename_i hr
    rw[if_neg hr] at h
    simp at h
theorem OO {l:List de} {s:Int} {c:Cell} (h:nS l s=some c):∃ e∈l,e.sym=s∧c=⟨1,e.to⟩:=by
  induction l with
  | nil=>simp[nS] at h
  | cons e l ih =>
    rw[nS] at h
    split at h
    · rename_i hs
      simp at h
      exact ⟨e,by simp,hs,h.symm⟩
    · obtain ⟨e2,h1,h2⟩:=ih h
      exact ⟨e2,by simp[h1],h2⟩
theorem NI (g:ay) (s:bt) (t:Int):(∃ e∈s.cp,e.sym=t∧jg g s t=⟨1,e.to⟩)∨(t=g.ax.length∧(⟨-1,1⟩:aN)∈s.bG∧jg g s t=⟨3,0⟩)∨jg g s t=⟨0,0⟩:=by
  unfold jg
  cases h:nS s.cp t with
  | some c =>
    obtain ⟨e,h1,h2,h3⟩:=OO h
    exact .inl ⟨e,h1,h2,h3⟩
  | none =>
    simp only
    split
    · rename_i hc; exact .inr (.inl ⟨hc.1,hc.2,rfl⟩)
    · exact .inr (.inr rfl)
theorem Lj (g:ay) (s:bt) (l:List dk) (i t:Int):(∃ e∈s.cp,e.sym=t∧(gI g s l i t).1=⟨1,e.to⟩)∨(∃ p∈l,(gI g s l i t).1=⟨2,p.aP⟩)∨(t=g.ax.length∧(⟨-1,1⟩:aN)∈s.bG∧(gI g s l i t).1=⟨3,0⟩)∨(gI g s l i t).1=⟨0,0⟩:=by
  have hs:=NI g s t
  unfold gI
  cases h:gp l t with
  | nil =>
    simp only
    rcases hs with h | h | h
    · exact .inl h
    · exact .inr (.inr (.inl h))
    · exact .inr (.inr (.inr h))
  | cons r rs =>
    have hr:r∈gp l t:=by rw[h]; simp
    simp only[gp,List.mem_map,List.mem_filter] at hr
    obtain ⟨p,⟨hp,_⟩,rfl⟩:=hr
    simp only
    split
    · exact .inr (.inl ⟨p,hp,rfl⟩)
    · simp only
      split
      · exact .inr (.inl ⟨p,hp,rfl⟩)
      · split
        · exact .inr (.inr (.inr rfl))
        · rcases hs with h | h | h
          · exact .inl h
          · exact .inr (.inr (.inl h))
          · exact .inr (.inr (.inr h))
theorem xq {g:ay} (hf:g.dU) : -100≤g.start∧g.start≤100:=by
  have:=hf.F9; have:=hf.start; have:=hf.aA; omega
theorem AZ (g:ay) (hf:g.dU) (x:aN) (hx:cW g x):aD Tryz.prog 63 [.agg (aw g),.agg (bE x)] (.bf [gi (bI g x).1,gb (bI g x).2]) :=
  Nv g (xq hf) x hx.1 hx.2 (by have:=ig hf hx.1; omega)
theorem BL {l:List aN} {i:Nat} {y:aN} (h:l[i]?=some y):(bD l).getD i []=[gi y.aP,gi y.dot]:=by simp[bD,List.getD_eq_getElem?_getD,h,bE]
theorem fR (l:List aN):(bD l).length=l.length:=by simp[bD]
theorem Bc {g:ay} {x:aN} {s:Int} {b:Bool} (hf:g.dU) (hx:cW g x) (h:bI g x=(s,b)) : -1000≤s∧s≤1000:=by
  have hsym:∀ s∈dR g x.aP,-1000≤s∧s≤1000:=by
    intro s hs
    unfold dR at hs
    split at hs
    · simp at hs; subst hs; have:=xq hf; omega
    · have hR:g.rules[x.aP.toNat]?=some (bk g x.aP):=by unfold bk; exact getD_some (by have:=hx.1; omega)
      have h1:=hf.sym _ (List.mem_of_getElem? hR) s hs
      have:=hf.ax; have:=hf.aA
      unfold lh at h1
      split at h1 <;> simp at h1 <;> omega
  unfold bI at h
  split at h
  · simp at h; omega
  · rename_i hd
    simp only[Prod.mk.injEq] at h
    have hlt:x.dot.toNat < (dR g x.aP).length:=by have:=hx.2; omega
    rw[← h.1]
    exact hsym _ (List.mem_of_getElem? (getD_some hlt))
def k6:SC :=
  .seq (.seq (ak [aa 12 6,aa 13 1,aM 14 13,aR 15 .lss 12 14]) <|
  .cond (.tmp 15) (.skip) (.exit 0)) <|
  .seq (.block 1 (ak [aa 18 5,aa 19 1,aa 20 6,aS 21 2 19 20,aO 22 2 21,aQ 23 119 [18,22],aa 5 23])) <|
  ak [aa 16 6,az 17 .add 16 1,aa 6 17]
def gP:SC :=
  .seq (.seq (.region false [⟨none,[aa 41 9,aa 42 41]⟩,⟨(some (42,true)),[aa 43 8,az 44 .lss 43 0]⟩,⟨none,[bF 45 42 44,aa 46 45]⟩,⟨(some (46,true)),[aa 47 11,au 48 2 2,ao 49 48,aM 50 49,aR 51 .lss 47 50]⟩,⟨none,[bF 52 46 51]⟩]) <|
  .cond (.tmp 52) (.skip) (.exit 4)) <|
  .seq (.block 5 (.seq (ak [au 55 2 2,ao 56 55,aa 57 11,aS 58 3 56 57,au 59 0 58,ao 60 59,aa 61 8,((some 62),.op (.arith .sub (.val (.val (.int .i64 (-1)))) (.tmp 61))),aR 63 .eql 60 62]) <|
  .cond (.tmp 63) (ak [aa 64 5,aa 65 11,((some 66),.op (.build [(.val (.int .i64 0)),(.val (.int .i64 0))] [(0,1,(.tmp 65))])),aQ 67 119 [64,66],aa 5 67]) (.skip))) <|
  ak [aa 53 11,az 54 .add 53 1,aa 11 54]
def kZ:SC :=
  .seq (.seq (ak [aa 24 7,aa 25 5,aM 26 25,aR 27 .lss 24 26]) <|
  .cond (.tmp 27) (.skip) (.exit 2)) <|
  .seq (.block 3 (.seq (ak [aO 31 4 2,aa 32 5,aa 33 7,aS 34 2 32 33,aO 35 2 34,aQ 36 63 [31,35],aa 30 36,bH 37 0 30,bH 38 1 30,aa 8 37,aa 9 38]) <|
  .seq (ak [aa 39 5,aM 40 39,aa 10 40]) <|
  .seq (.seq (ak [aI 11 0]) <|
  .block 4 (.loop gP)) <|
  .seq (ak [aa 68 5,aM 69 68,aa 70 10,aR 71 .gtr 69 70]) <|
  .cond (.tmp 71) (ak [aI 7 (-1)]) (.skip))) <|
  ak [aa 28 7,az 29 .add 28 1,aa 7 29]
def mg:SF:=⟨.seq (ak [bW 2 0,((some 4),.op (.bo (.val (.emp 1))))]) <|
  .seq (ak [((some 5),.op (.bo (.val (.emp 1))))]) <|
  .seq (.seq (ak [aI 6 0]) <|
  .block 0 (.loop k6)) <|
  .seq (.seq (ak [aI 7 0]) <|
  .block 2 (.loop kZ)) <|
  .seq (ak [aa 72 5,aa 4 72]) <|
  .ret,
  [.tmp 4],73⟩
theorem sD:aY Tryz.prog 72 [2]=some mg:=by kernel_rfl
def mG:SC :=
  .seq (.seq (ak [aa 11 8,aa 12 1,aM 13 12,aR 14 .lss 11 13]) <|
  .cond (.tmp 14) (.skip) (.exit 0)) <|
  .seq (.block 1 (.seq (ak [aO 18 4 3,aa 19 1,aa 20 8,aS 21 2 19 20,aO 22 2 21,aQ 23 63 [18,22],aa 17 23,bH 24 0 17,bH 25 1 17,aa 9 24,aa 10 25]) <|
  .seq (.region false [⟨none,[aa 26 10,aa 27 26]⟩,⟨(some (27,true)),[aa 28 9,aa 29 2,aR 30 .eql 28 29]⟩,⟨none,[bF 31 27 30]⟩]) <|
  .cond (.tmp 31) (ak [aa 32 7,aa 33 1,aa 34 8,aS 35 2 33 34,au 36 0 35,ao 37 36,aa 38 1,aa 39 8,aS 40 2 38 39,au 41 1 40,ao 42 41,az 43 .add 42 1,((some 44),.op (.build [(.val (.int .i64 0)),(.val (.int .i64 0))] [(0,1,(.tmp 37)),(1,1,(.tmp 43))])),aQ 45 119 [32,44],aa 7 45]) (.skip))) <|
  ak [aa 15 8,az 16 .add 15 1,aa 8 16]
def ox:SF:=⟨.seq (ak [bW 3 0,((some 6),.op (.bo (.val (.emp 1))))]) <|
  .seq (ak [((some 7),.op (.bo (.val (.emp 1))))]) <|
  .seq (.seq (ak [aI 8 0]) <|
  .block 0 (.loop mG)) <|
  .seq (ak [aa 46 7,aa 6 46]) <|
  .ret,
  [.tmp 6],47⟩
theorem uz:aY Tryz.prog 78 [3]=some ox:=by kernel_rfl
def mN:SC :=
  .seq (.seq (ak [aa 11 5,aa 12 0,aM 13 12,aR 14 .lss 11 13]) <|
  .cond (.tmp 14) (.skip) (.exit 0)) <|
  .seq (.block 1 (.seq (ak [aa 17 0,aa 18 5,aS 19 2 17 18,aO 20 2 19,aa 21 1,aa 22 5,aS 23 2 21 22,aO 24 2 23,((some 25),.op (.old (.binOp .neq 55 (.tmp 20) (.tmp 24) 55) 4))]) <|
  .cond (.tmp 25) (.seq (ak [aZ 4 false]) <|
  .ret) (.skip))) <|
  ak [aa 15 5,az 16 .add 15 1,aa 5 16]
def oM:SF:=⟨.seq (ak [aZ 4 false]) <|
  .seq (.seq (ak [aa 6 0,aM 7 6,aa 8 1,aM 9 8,aR 10 .neq 7 9]) <|
  .cond (.tmp 10) (.seq (ak [aZ 4 false]) <|
  .ret) (.skip)) <|
  .seq (.seq (ak [aI 5 0]) <|
  .block 0 (.loop mN)) <|
  .seq (ak [aZ 4 true]) <|
  .ret,
  [.tmp 4],26⟩
theorem uh:aY Tryz.prog 29 []=some oM:=by kernel_rfl
def mU:SF:=⟨.seq (ak [bW 2 0,aI 4 0]) <|
  .seq (.seq (ak [aa 5 1,au 6 0 2,ao 7 6,aM 8 7,aR 9 .lss 5 8]) <|
  .cond (.tmp 9) (.seq (ak [aa 10 1,aa 4 10]) <|
  .ret) (.skip)) <|
  .seq (ak [aa 11 1,au 12 0 2,ao 13 12,aM 14 13,aR 15 .sub 11 14,((some 16),.op (.arith .sub (.val (.val (.int .i64 (-1)))) (.tmp 15))),aa 4 16]) <|
  .ret,
  [.tmp 4],17⟩
theorem s9:aY Tryz.prog 77 [2]=some mU:=by kernel_rfl
def RI (g:ay) (out:List aN) (x:aN):Prop:=∀ (s:Int) (k:Nat) (R:cR),bI g x=(s,true)→s < 0→g.rules[k]?=some R→R.left = -1 - s→(⟨k,0⟩:aN)∈out
def Oj (g:ay) (l:List aN) (H:View) (m:Nat) (T:Env) (H':View):Prop:=∃ (i:Nat) (r:V) (out:List aN),m=(300 - out.length) * 1000+(300 - i)∧i≤out.length∧bc H' r 2 (bD out)∧fg H H' r∧b6 out∧(∀ x∈out,lU g l x)∧(∀ x∈l,x∈out)∧(∀ j x,j < i→out[j]?=some x→RI g out x) ∧
  T 2=.aT (aw g) 0∧T 5=r∧T 7=gi i
set_option maxHeartbeats 8000000 in
theorem zl (g:ay) (hf:g.dU) (l:List aN) (hl:∀ x∈l,cW g x) (hn:l.length≤10000) (u:V) (H:View) (ho:bc H u 2 (bD l)):aC Tryz.prog 72 [.agg (aw g),u] H fun r H'=>bc H' r 2 (bD (dA g l))∧fg H H' r:=by
  refine aC.of mixed sD ?_
  have hlen:dq u=some l.length:=by rw[ho.len]; simp[bD]
  have hru:=hf.rules
  simp (disch:=omega) only [↓wr,wq,ah,Nat.reduceAdd,Nat.reduceLeDiff,mg,aw,encS]
  refine ba.up l.length (fun i T H'=>∃ (r:V) (out:List aN),bc H' r 2 (bD out)∧fg H H' r∧b6 out∧(∀ x,x∈out↔x∈l.take i)∧out.length≤287∧T 1=u∧T 2=.aT (aw g) 0∧T 5=r∧T 6=gi i)
    ⟨.emp 1,[],.nil,.emp,.nil,by simp,by simp,rfl,rfl,rfl,rfl⟩ ?_
  rintro i k T H' hk ⟨r,out,o1,fr,hso,hm,hle,t1,t2,t5,t6⟩
  simp (disch:=omega) only [↓wr,↓reduceIte,wq,ag,aj,Nat.reduceEqDiff,k6,t1,t6,hlen]
  refine av.dec (fun hc=>?_) (fun hc=>?_)
  · have hy:l[i]?=some (l[i]'(by omega)):=List.getElem?_eq_getElem (by omega)
    have htk:l.take (i+1)=l.take i ++ [l[i]'(by omega)]:=by rw[List.take_add_one,hy]; rfl
    generalize l[i]'(by omega)=y at hy htk
    obtain ⟨id,hu,hid⟩:=ho.sl (by simp[bD]; omega)
    have hid':H' id=.arr 2 (bD l):=by rw[(fr id (by rw[hid]; simp)).1,hid]
    simp (disch:=omega) only [↓wr,↓reduceIte,wq,Nat.reduceEqDiff,Nat.reduceAdd,Nat.reduceLeDiff,t1,t5,t6,hu,hid',BL hy]
    refine ⟨by first | omega | (simp[bD]; omega),by first | omega | (simp[bD]; omega),?_⟩
    refine aE.ff ((AD r out (by omega) y H' o1).mono ?_)
    rintro r2 H2 ⟨o2,l2⟩
    simp (disch:=omega) only [↓wr,↓reduceIte,wq,ag,Nat.reduceEqDiff,reduceCtorEq,t6]
    have hmm:∀ x,x∈dF out y↔x∈l.take (i+1):=fun x=>by
      rw[gX,htk,List.mem_append,hm,List.mem_singleton,or_comm]
    have hs2:=nk (x:=y) hso
    exact aV hk (by omega) ⟨r2,dF out y,o2,fr.step l2,hs2,hmm,ia hf hs2 (fun x hx=>hl x (List.mem_of_mem_take ((hmm x).1 hx))),t1,t2,rfl,rfl⟩
  rw[List.take_of_length_le (by omega)] at hm
  simp (disch:=omega) only [↓wr,↓reduceIte,wq,Nat.reduceEqDiff,reduceCtorEq]
  refine ba.intro (Oj g l H) ((300 - out.length) * 1000+300)
    ⟨0,r,out,by omega,Nat.zero_le _,o1,fr,hso,fun x hx=>.base ((hm x).1 hx),fun x hx=>(hm x).2 hx,fun j x hj=>by omega,t2,t5,rfl⟩ ?_
  clear o1 fr hso hm hle t1 t2 t5 t6 hc hk
  rintro m T1 H1 ⟨i,r,out,rfl,hi,o1,fr,hso,hcl,hba,hdn,t2,t5,t7⟩
  have hhas:∀ x∈out,cW g x:=fun x hx=>(hcl x hx).has hl
  have hle:=ia hf hso hhas
  have hlr:dq r=some out.length:=by rw[o1.len,fR]
  simp (disch:=omega) only [↓wr,↓reduceIte,wq,ag,aj,Nat.reduceEqDiff,Int.reduceNeg,reduceCtorEq,kZ,t5,t7,hlr]
  refine av.dec (fun hc=>?_) (fun hc=>?_)
  · have hy:out[i]?=some (out[i]'(by omega)):=List.getElem?_eq_getElem (by omega)
    have hyH:=hhas _ (List.getElem_mem (show i < out.length by omega))
    have hyC:=hcl _ (List.getElem_mem (show i < out.length by omega))
    generalize out[i]'(by omega)=y at hy hyH hyC
    have h1:=AZ g hf y hyH
    cases hny:bI g y with
    | mk s okb =>
    have hsb:=Bc hf hyH hny
    rw[hny] at h1
    obtain ⟨id,hu,hid⟩:=o1.sl (by simp[bD]; omega)
    rw[fR] at hu
    simp only[aw,encS,bE] at h1
    simp (disch:=omega) only [↓wr,↓reduceIte,wq,Nat.reduceEqDiff,Nat.reduceAdd,Nat.reduceLeDiff,Int.reduceNeg,t2,t5,t7,hu,hid,BL hy,aw,encS]
    refine ⟨by first | omega | (simp[bD]; omega),by first | omega | (simp[bD]; omega),?_⟩
    refine aE.pure h1 (by kernel_rfl) ?_
    simp (disch:=omega) only [↓wr,↓reduceIte,wq,aj,Nat.reduceEqDiff,Nat.reduceAdd,Nat.reduceLT,Int.reduceNeg,t5,hu]
    refine ba.up g.rules.length (fun k T H'=>∃ (r2:V) (out2:List aN),bc H' r2 2 (bD out2)∧fg H H' r2∧b6 out2∧(∀ x∈out2,lU g l x)∧(∀ x∈out,x∈out2)∧out.length≤out2.length∧(out2.length=out.length→out2=out) ∧
      (∀ (q:Nat) (R:cR),q < k→okb=true→s < 0→g.rules[q]?=some R→R.left = -1 - s→(⟨q,0⟩:aN)∈out2)∧T 2=.aT (aw g) 0∧T 5=r2∧T 7=gi i∧T 8=gi s∧T 9=gb okb∧T 10=gi out.length∧T 11=gi k)
      ⟨r,out,o1,fr,hso,hcl,fun x hx=>hx,Nat.le_refl _,fun _=>rfl,fun q R hq=>by omega,t2,by rw[← hu]; exact t5,t7,rfl,rfl,rfl,rfl⟩ ?_
    clear o1 fr t2 t5 t7 hid hu
    rintro k j T2 H2 hk ⟨r2,out2,o2,fr2,hso2,hcl2,hsub,hlen2,hsame,hall,t2,t5,t7,t8,t9,t10,t11⟩
    have hhas2:∀ x∈out2,cW g x:=fun x hx=>(hcl2 x hx).has hl
    have hle2:=ia hf hso2 hhas2
    have hlr2:dq r2=some out2.length:=by rw[o2.len,fR]
    have more:out.length < out2.length→∀ T':Env,T' 2=.aT (aw g) 0→T' 5=r2→T' 7=gi 0→∃ k',k' < (300 - out.length) * 1000+(300 - i)∧Oj g l H k' T' H2:=fun h T' e2 e5 e7 =>
      ⟨(300 - out2.length) * 1000+300,by omega,0,r2,out2,by omega,Nat.zero_le _,o2,fr2,hso2,hcl2,fun x hx=>hsub x (hba x hx),fun j x hj=>by omega,e2,e5,e7⟩
    have stay:(okb=true→s < 0→g.rules.length≤k)→¬ out.length < out2.length→∀ T':Env,T' 2=.aT (aw g) 0→T' 5=r2→T' 7=gi ((i:Int)+1)→∃ k',k' < (300 - out.length) * 1000+(300 - i)∧Oj g l H k' T' H2:=fun hend h T' e2 e5 e7=>by
      have e:=hsame (by omega)
      subst e
      refine ⟨(300 - out2.length) * 1000+(300 - (i+1)),by omega,i+1,r2,out2,rfl,by omega,o2,fr2,hso2,hcl2,hba,fun j x hj hx=>?_,e2,e5,e7⟩
      rcases Nat.lt_or_ge j i with hji | hji
      · exact hdn j x hji hx
      · have:j=i:=by omega
        subst this
        rw[hy] at hx
        simp only[Option.some.injEq] at hx
        subst hx
        intro s' q R h1 h2 h3 h4
        rw[hny] at h1
        simp only[Prod.mk.injEq] at h1
        obtain ⟨rfl,rfl⟩:=h1
        have:=(List.getElem?_eq_some_iff.1 h3).1
        exact hall q R (by have:=hend rfl h2; omega) rfl h2 h3 h4
    cases okb with
    | false =>
      simp (disch:=omega) only [↓wr,↓reduceIte,wq,ag,aj,Nat.reduceEqDiff,Int.reduceNeg,reduceCtorEq,gP,t5,t7,t9,t10,hlr2]
      refine av.dec (fun hg=>?_) (fun hg=>?_)
      · simp (disch:=omega) only [↓wr,↓reduceIte,wq,ag,Nat.reduceEqDiff,Int.reduceNeg,reduceCtorEq,t5]
        exact more (by omega) _ t2 t5 rfl
      · simp (disch:=omega) only [↓wr,↓reduceIte,wq,ag,Nat.reduceEqDiff,reduceCtorEq,t5,t7]
        exact stay (fun h=>by simp at h) (by omega) _ t2 t5 rfl
    | true =>
      simp (disch:=omega) only [↓wr,↓reduceIte,wq,ag,aj,Nat.reduceEqDiff,Int.reduceNeg,gP,t8,t9,aw]
      refine av.dec (fun hneg=>?_) (fun hneg=>?_)
      · simp (disch:=omega) only [↓wr,↓reduceIte,wq,ag,aj,Nat.reduceEqDiff,Nat.reduceAdd,Nat.reduceLT,Int.reduceNeg,t2,t11,aw]
        refine av.dec (fun hkl=>?_) (fun hkl=>?_)
        · have hR:g.rules[k]?=some (g.rules[k]'(by omega)):=List.getElem?_eq_getElem (by omega)
          have hL:=hf.left _ (List.getElem_mem (show k < g.rules.length by omega))
          generalize g.rules[k]'(by omega)=R at hR hL
          simp (disch:=omega) only [↓wr,↓reduceIte,wq,ag,Nat.reduceEqDiff,Nat.reduceAdd,Nat.reduceLT,Int.reduceNeg,t2,t8,t11,aw,bP,List.getElem?_map,hR]
          refine av.eq (fun he=>?_) (fun he=>?_)
          · simp (disch:=omega) only [↓wr,↓reduceIte,wq,ab,ae,Nat.reduceEqDiff,Nat.reduceAdd,Nat.reduceLeDiff,Int.reduceNeg,t5,t11]
            refine aE.ff ((AD r2 out2 (by omega) ⟨k,0⟩ H2 o2).mono ?_)
            rintro r3 H3 ⟨o3,l3⟩
            simp (disch:=omega) only [↓wr,↓reduceIte,wq,ag,Nat.reduceEqDiff,Int.reduceNeg,reduceCtorEq,t7,t11]
            have hnew:lU g l ⟨k,0⟩:=.step hyC hny hneg hR he
            refine aV hk (by omega) ⟨r3,dF out2 ⟨k,0⟩,o3,fr2.step l3,nk hso2,fun x hx=>?_,fun x hx=>gX.2 (.inr (hsub x hx)),by have:=Eh out2 ⟨k,0⟩; omega,fun h=>?_,fun q R' hq h2 h3 h4=>?_,t2,rfl,t7,t8,t9,t10,rfl⟩
            · rcases gX.1 hx with rfl | hx
              · exact hnew
              · exact hcl2 x hx
            · have hin:(⟨k,0⟩:aN)∈out2:=Classical.byContradiction fun hno=>by
                have:=BK hno; omega
              rw[B2 hso2 hin] at h ⊢
              exact hsame h
            · rcases Nat.lt_or_ge q k with hqk | hqk
              · exact gX.2 (.inr (hall q R' hqk rfl h2 h3 h4))
              · have:q=k:=by omega
                subst this
                exact gX.2 (.inl rfl)
          · simp (disch:=omega) only [↓wr,↓reduceIte,wq,ag,Nat.reduceEqDiff,Int.reduceNeg,reduceCtorEq,t5,t7,t11]
            refine aV hk (by omega) ⟨r2,out2,o2,fr2,hso2,hcl2,hsub,hlen2,hsame,fun q R' hq h2 h3 h4=>?_,t2,t5,t7,t8,t9,t10,rfl⟩
            rcases Nat.lt_or_ge q k with hqk | hqk
            · exact hall q R' hqk rfl h2 h3 h4
            · have:q=k:=by omega
              subst this
              rw[hR] at h3
              simp only[Option.some.injEq] at h3
              subst h3
              exact absurd h4 he
        · simp (disch:=omega) only [↓wr,↓reduceIte,wq,ag,Nat.reduceEqDiff,Int.reduceNeg,reduceCtorEq,t5,t7,t10,hlr2]
          refine av.dec (fun hg=>?_) (fun hg=>?_)
          · simp (disch:=omega) only [↓wr,↓reduceIte,wq,ag,Nat.reduceEqDiff,Int.reduceNeg,reduceCtorEq,t5]
            exact more (by omega) _ t2 t5 rfl
          · simp (disch:=omega) only [↓wr,↓reduceIte,wq,ag,Nat.reduceEqDiff,reduceCtorEq,t5,t7]
            exact stay (fun _ _=>by omega) (by omega) _ t2 t5 rfl
      · simp (disch:=omega) only [↓wr,↓reduceIte,wq,ag,Nat.reduceEqDiff,Int.reduceNeg,reduceCtorEq,t5,t7,t10,hlr2]
        refine av.dec (fun hg=>?_) (fun hg=>?_)
        · simp (disch:=omega) only [↓wr,↓reduceIte,wq,ag,Nat.reduceEqDiff,Int.reduceNeg,reduceCtorEq,t5]
          exact more (by omega) _ t2 t5 rfl
        · simp (disch:=omega) only [↓wr,↓reduceIte,wq,ag,Nat.reduceEqDiff,reduceCtorEq,t5,t7]
          exact stay (fun _ h=>absurd h hneg) (by omega) _ t2 t5 rfl
  · simp (disch:=omega) only [↓wr,↓reduceIte,wq,Nat.reduceEqDiff,reduceCtorEq,t5]
    have hi2:i=out.length:=by omega
    rw[Gq hf hl hso hcl hba (fun x hx s k R h1 h2 h3 h4=>by
      obtain ⟨j,hj,e⟩:=List.mem_iff_getElem.1 hx
      exact hdn j x (by omega) (by rw[List.getElem?_eq_getElem hj,e]) s k R h1 h2 h3 h4)]
    exact ⟨o1,fr⟩
set_option maxHeartbeats 8000000 in
theorem J4 (g:ay) (hf:g.dU) (l:List aN) (hs:b6 l) (hl:∀ x∈l,cW g x) (s:Int) (u:V) (H:View) (ho:bc H u 2 (bD l)):aC Tryz.prog 78 [.agg (aw g),u,gi s] H fun r H'=>bc H' r 2 (bD (dc g l s))∧fg H H' r:=by
  refine aC.of mixed uz ?_
  have hlen:dq u=some l.length:=by rw[ho.len]; simp[bD]
  have hle:=ia hf hs hl
  simp (disch:=omega) only [↓wr,wq,ah,Nat.reduceAdd,Nat.reduceLeDiff,ox,aw,encS]
  refine ba.up l.length (fun i T H'=>∃ (r:V),bc H' r 2 (bD (dc g (l.take i) s))∧fg H H' r∧T 1=u∧T 2=gi s∧T 3=.aT (aw g) 0∧T 7=r∧T 8=gi i)
    ⟨.emp 1,.nil,.emp,rfl,rfl,rfl,rfl,rfl⟩ ?_
  rintro i k T H' hk ⟨r,o1,fr,t1,t2,t3,t7,t8⟩
  simp (disch:=omega) only [↓wr,↓reduceIte,wq,ag,aj,Nat.reduceEqDiff,reduceCtorEq,mG,t1,t8,hlen]
  refine av.dec (fun hc=>?_) (fun hc=>?_)
  · have hy:l[i]?=some (l[i]'(by omega)):=List.getElem?_eq_getElem (by omega)
    have hyH:=hl _ (List.getElem_mem (show i < l.length by omega))
    have htk:=Ln (g:=g) hs (show l[i]?=some (l[i]'(by omega)) from hy) s
    generalize l[i]'(by omega)=y at hy hyH htk
    have h1:=AZ g hf y hyH
    cases hny:bI g y with
    | mk q okb =>
    rw[hny] at h1
    obtain ⟨id,hu,hid⟩:=ho.sl (by simp[bD]; omega)
    have hid':H' id=.arr 2 (bD l):=by rw[(fr id (by rw[hid]; simp)).1,hid]
    rw[fR] at hu
    have hdot:=hyH.2
    have h6:=ig hf hyH.1
    have hml:=Fp (g:=g) (l:=l.take i) (s:=s)
    simp only[List.length_take] at hml
    simp only[aw,encS,bE] at h1
    simp (disch:=omega) only [↓wr,↓reduceIte,wq,Nat.reduceEqDiff,Nat.reduceAdd,Nat.reduceLeDiff,t1,t3,t8,hu,hid',BL hy,aw,encS]
    refine ⟨by first | omega | (simp[bD]; omega),by first | omega | (simp[bD]; omega),?_⟩
    refine aE.pure h1 (by kernel_rfl) ?_
    have skip:¬ bI g y=(s,true)→∀ T':Env,T' 1=u→T' 2=gi s→T' 3=.aT (aw g) 0→T' 7=r→T' 8=gi ((i:Int)+1)→∃ k',k' < k∧Ez l.length k' (fun i T H'=>∃ (r:V),bc H' r 2 (bD (dc g (l.take i) s))∧fg H H' r∧T 1=u∧T 2=gi s∧T 3=.aT (aw g) 0∧T 7=r∧T 8=gi i) T' H':=fun hne T' e1 e2 e3 e7 e8=>by
      rw[if_neg hne] at htk
      exact aV hk (by omega) ⟨r,by rw[htk]; exact o1,fr,e1,e2,e3,e7,e8⟩
    cases okb with
    | false =>
      simp (disch:=omega) only [↓wr,↓reduceIte,wq,ag,Nat.reduceEqDiff,Nat.reduceAdd,Nat.reduceLT,reduceCtorEq,t7,t8]
      exact skip (by rw[hny]; simp) _ t1 t2 t3 t7 rfl
    | true =>
      simp (disch:=omega) only [↓wr,↓reduceIte,wq,ag,Nat.reduceEqDiff,Nat.reduceAdd,Nat.reduceLT,t2]
      refine av.eq (fun he=>?_) (fun he=>?_)
      · simp (disch:=omega) only [↓wr,↓reduceIte,wq,ag,ab,ae,Nat.reduceEqDiff,Nat.reduceAdd,Nat.reduceLT,Nat.reduceLeDiff,t1,t7,t8,hu,hid',BL hy]
        refine ⟨by first | omega | (simp[bD]; omega),by first | omega | (simp[bD]; omega),?_⟩
        refine ⟨by first | omega | (simp[bD]; omega),by first | omega | (simp[bD]; omega),?_⟩
        refine aE.ff ((AD r (dc g (l.take i) s) (by omega) ⟨y.aP,y.dot+1⟩ H' o1).mono ?_)
        rintro r2 H2 ⟨o2,l2⟩
        simp (disch:=omega) only [↓wr,↓reduceIte,wq,ag,Nat.reduceEqDiff,reduceCtorEq,t8]
        rw[if_pos (by rw[hny,he])] at htk
        exact aV hk (by omega) ⟨r2,by rw[htk]; exact o2,fr.step l2,t1,t2,t3,rfl,rfl⟩
      · simp (disch:=omega) only [↓wr,↓reduceIte,wq,ag,Nat.reduceEqDiff,reduceCtorEq,t7,t8]
        exact skip (by rw[hny]; simp[he]) _ t1 t2 t3 t7 rfl
  · simp (disch:=omega) only [↓wr,↓reduceIte,wq,Nat.reduceEqDiff,reduceCtorEq,t7]
    rw[List.take_of_length_le (by omega)] at o1
    exact ⟨o1,fr⟩
theorem KG {g:ay} (hf:g.dU) {i:Nat} (hi:i < g.ax.length+g.aA.length) : -100≤c6 g i∧c6 g i≤100:=by
  have:=hf.ax; have:=hf.aA
  unfold c6; split <;> omega
theorem HQ (g:ay) (hf:g.dU) (i:Nat) (hi:i < g.ax.length+g.aA.length):aD Tryz.prog 77 [.agg (aw g),gi i] (gi (c6 g i)):=by
  refine aD.val (by
    intro v hv; simp at hv
    rcases hv with rfl | rfl
    · exact bL _ (bU g)
    · exact .val _) fun H=>?_
  have:=hf.ax; have:=hf.aA
  refine aC.of mixed s9 ?_
  unfold c6
  simp (disch:=omega) only [↓wr,↓reduceIte,wq,ah,ag,aj,Nat.reduceEqDiff,Nat.reduceAdd,Nat.reduceLT,Nat.reduceLeDiff,Int.reduceNeg,mU,aw,encS]
  refine av.dec (fun h=>?_) (fun h=>?_)
  · simp (disch:=omega) only [↓wr,↓reduceIte,wq,Nat.reduceEqDiff,Int.reduceNeg,reduceCtorEq]
    rw[if_pos (by omega)]
  · simp (disch:=omega) only [↓wr,↓reduceIte,wq,ag,aj,Nat.reduceEqDiff,Nat.reduceAdd,Nat.reduceLT,Int.reduceNeg,reduceCtorEq]
    rw[if_neg (by omega)]
theorem zx (l:List aN):Tree (.aX (bD l)):=cL _ _ fun x _ v hv=>by simp[bE] at hv; rcases hv with rfl | rfl <;> exact .val _
theorem Kg (a b:List aN) (ha:aL a) (hb:aL b):aD Tryz.prog 29 [.aX (bD a),.aX (bD b)] (gb (a == b)):=by
  unfold aL at ha hb
  refine aD.val (by
    intro v hv; simp at hv
    rcases hv with rfl | rfl <;> exact zx _) fun H=>?_
  refine aC.of mixed uh ?_
  simp (disch:=omega) only [↓wr,↓reduceIte,wq,ah,ag,aj,Nat.reduceEqDiff,Nat.reduceAdd,Nat.reduceLeDiff,reduceCtorEq,oM,bD]
  refine av.ne (fun h=>?_) (fun h=>?_)
  · simp (disch:=omega) only [↓wr,↓reduceIte,wq,reduceCtorEq]
    have:(a == b)=false:=by simp; rintro rfl; exact h rfl
    rw[this]
  · simp (disch:=omega) only [↓wr,wq]
    refine ba.up a.length (fun i T H'=>a.take i=b.take i∧T 0=.aX (bD a)∧T 1=.aX (bD b)∧T 5=gi i) ⟨rfl,rfl,rfl,rfl⟩ ?_
    rintro i k T H' hk ⟨he,t0,t1,t5⟩
    simp (disch:=omega) only [↓wr,↓reduceIte,wq,ag,aj,Nat.reduceEqDiff,reduceCtorEq,mN,t0,t5,bD]
    refine av.dec (fun hc=>?_) (fun hc=>?_)
    · have hx:a[i]?=some (a[i]'(by omega)):=List.getElem?_eq_getElem (by omega)
      have hy:b[i]?=some (b[i]'(by omega)):=List.getElem?_eq_getElem (by omega)
      generalize a[i]'(by omega)=x at hx
      generalize b[i]'(by omega)=y at hy
      simp (disch:=omega) only [↓wr,↓reduceIte,wq,Nat.reduceEqDiff,Nat.reduceAdd,Nat.reduceLeDiff,reduceCtorEq,t0,t1,t5,bD,List.getElem?_map,hx,hy,bE]
      refine gB (xs:=#[.int .i64 x.aP,.int .i64 x.dot]) (ys:=#[.int .i64 y.aP,.int .i64 y.dot]) Tryz.underlying55 (by kernel_rfl) (by kernel_rfl) ?_ ?_ (tQ x y) (.inr ⟨rfl,rfl⟩) ?_
      · rfl
      · rfl
      rw[Bv]
      simp (disch:=omega) only [↓wr,↓reduceIte,wq]
      refine av.dec (fun e2=>?_) (fun e2=>?_)
      · simp (disch:=omega) only [↓wr,↓reduceIte,wq,ag,Nat.reduceEqDiff,reduceCtorEq,t5]
        exact aV hk (by omega) ⟨by rw[List.take_add_one,List.take_add_one,he,hx,hy,e2],t0,t1,rfl⟩
      · simp (disch:=omega) only [↓wr,↓reduceIte,wq,ag,Nat.reduceEqDiff,reduceCtorEq]
        have:(a == b)=false:=by
          simp; rintro rfl
          rw[hx] at hy; simp at hy; exact e2 hy
        rw[this]
    · simp (disch:=omega) only [↓wr,↓reduceIte,wq,Nat.reduceEqDiff,reduceCtorEq]
      rw[List.take_of_length_le (by omega),List.take_of_length_le (by omega)] at he
      rw[he,beq_self_eq_true]
def lB (l:List de):List (List V):=l.map dn
def eo (s:bt):List V:=[.aX (bD s.bG),.aX (lB s.cp)]
def bR (a:List bt):V:=.aX (a.map eo)
theorem Qk (l:List de):Tree (.aX (lB l)):=cL _ _ fun x _ v hv=>by simp[dn] at hv; rcases hv with rfl | rfl <;> exact .val _
theorem xg (s:bt):∀ v∈eo s,Tree v:=by
  intro v hv; simp[eo] at hv
  rcases hv with rfl | rfl
  · exact zx _
  · exact Qk _
theorem pD (a:List bt):Tree (bR a):=cL _ _ fun x _=>xg x
abbrev tj:=V × V × bt
def iH (A:List tj):List (List V):=A.map fun x=>[x.1,x.2.1]
def tt (A:List tj):List ep:=A.flatMap fun x=>[(x.1,2,bD x.2.2.bG),(x.2.1,2,lB x.2.2.cp)]
theorem fX (A:List tj):(iH A).length=A.length:=by simp[iH]
theorem vc {A:List tj} {x:tj} (hx:x∈A):(x.1,2,bD x.2.2.bG)∈tt A∧(x.2.1,2,lB x.2.2.cp)∈tt A:=by
  constructor <;> exact List.mem_flatMap.2 ⟨x,hx,by simp⟩
theorem It {h:aH} {u:V} {A:List tj} (ho:bc h.view u 2 (iH A)) (hb:∀ x∈A,bc h.view x.1 2 (bD x.2.2.bG)∧bc h.view x.2.1 2 (lB x.2.2.cp)):bZ h u (bR (A.map fun x=>x.2.2)):=by
  have hg:∀ i (hi:i < A.length),(iH A).getD i []=[(A[i]).1,(A[i]).2.1]∧(((A.map fun x=>x.2.2).map eo).getD i [])=eo (A[i]).2.2:=fun i hi=>by
    simp[iH,List.getD_eq_getElem?_getD,hi]
  refine bZ.own ho (by simp[iH]) (fun i hi=>?_) (fun i j hi hj=>?_)
  · have hi':i < A.length:=by simpa [iH] using hi
    rw[(hg i hi').1,(hg i hi').2]; rfl
  · have hi':i < A.length:=by simpa [iH] using hi
    rw[(hg i hi').2] at hj ⊢
    rw[(hg i hi').1]
    have hx:=hb _ (List.getElem_mem hi')
    generalize A[i]'hi'=y at hx hj
    obtain ⟨h1,h2⟩:=hx
    match j,hj with
    | 0,_ =>
      refine bZ.own h1 rfl (fun i _=>rfl) (fun i j hi hj=>?_)
      rw[fR] at hi
      have e:(bD y.2.2.bG).getD i []=bE y.2.2.bG[i]:=by simp[bD,List.getD_eq_getElem?_getD,hi]
      rw[e] at hj ⊢
      match j,hj with
      | 0,_=>exact .val _
      | 1,_=>exact .val _
    | 1,_ =>
      refine bZ.own h2 rfl (fun i _=>rfl) (fun i j hi hj=>?_)
      simp only[lB,List.length_map] at hi
      have e:(lB y.2.2.cp).getD i []=dn y.2.2.cp[i]:=by simp[lB,List.getD_eq_getElem?_getD,hi]
      rw[e] at hj ⊢
      match j,hj with
      | 0,_=>exact .val _
      | 1,_=>exact .val _
    | n+2,hj=>exact absurd hj (by simp[eo])
def mW:SC :=
  .seq (.seq (ak [aa 6 5,aa 7 0,aM 8 7,aR 9 .lss 6 8]) <|
  .cond (.tmp 9) (.skip) (.exit 0)) <|
  .seq (.block 1 (.seq (ak [aa 12 0,aa 13 5,aS 14 2 12 13,au 15 0 14,ao 16 15,aa 17 1,aQ 18 29 [16,17]]) <|
  .cond (.tmp 18) (.seq (ak [aa 19 5,aa 4 19]) <|
  .ret) (.skip))) <|
  ak [aa 10 5,az 11 .add 10 1,aa 5 11]
def qu:SF:=⟨.seq (ak [aI 4 0]) <|
  .seq (.seq (ak [aI 5 0]) <|
  .block 0 (.loop mW)) <|
  .seq (ak [aI 4 (-1)]) <|
  .ret,
  [.tmp 4],20⟩
theorem vB:aY Tryz.prog 79 []=some qu:=by kernel_rfl
def mq:SC :=
  .seq (.seq (ak [aa 31 7,au 32 0 1,ao 33 32,aM 34 33,au 35 1 1,ao 36 35,aM 37 36,aR 38 .add 34 37,aR 39 .lss 31 38]) <|
  .cond (.tmp 39) (.skip) (.exit 2)) <|
  .seq (.block 3 (.seq (ak [aO 42 4 1,aa 43 7,aQ 44 77 [42,43],aa 8 44]) <|
  .seq (ak [aO 45 4 1,aa 46 6,aa 47 8,aQ 48 78 [45,46,47],aa 9 48]) <|
  .seq (.seq (ak [aa 49 9,aM 50 49,az 51 .eql 50 0]) <|
  .cond (.tmp 51) (.exit 3) (.skip)) <|
  .seq (ak [aa 52 4,aa 53 9,aQ 54 79 [52,53],aa 10 54]) <|
  .seq (.seq (ak [aa 55 10,az 56 .lss 55 0]) <|
  .cond (.tmp 56) (.seq (ak [aa 57 4,aM 58 57,aa 10 58]) <|
  ak [aa 59 4,aa 60 9,((some 61),.op (.build [(.emp 1),(.emp 1)] [(0,1,(.tmp 60))])),((some 62),.op (.bh 1 2 [(.emp 1),(.emp 1)] [(0,(.tmp 61))])),((some 63),.op (.app 2 48 (.tmp 59) (.tmp 62))),aa 4 63]) (.skip)) <|
  ak [aa 64 4,aa 65 5,aa 66 4,aa 67 5,aS 68 2 66 67,au 69 1 68,ao 70 69,aa 71 8,aa 72 10,((some 73),.op (.build [(.val (.int .i64 0)),(.val (.int .i64 0))] [(0,1,(.tmp 71)),(1,1,(.tmp 72))])),((some 74),.op (.bh 1 2 [(.val (.int .i64 0)),(.val (.int .i64 0))] [(0,(.tmp 73))])),((some 75),.op (.app 2 16 (.tmp 70) (.tmp 74))),aS 76 2 64 65,au 77 1 76,(none,.op (.store 1 (.tmp 77) (.tmp 75)))])) <|
  ak [aa 40 7,az 41 .add 40 1,aa 7 41]
def mM:SC :=
  .seq (.seq (ak [aa 18 5,aa 19 4,aM 20 19,aR 21 .lss 18 20]) <|
  .cond (.tmp 21) (.skip) (.exit 0)) <|
  .seq (.block 1 (.seq (ak [aO 24 4 1,aa 25 4,aa 26 5,aS 27 2 25 26,au 28 0 27,ao 29 28,aQ 30 72 [24,29],aa 6 30]) <|
  .seq (.seq (ak [aI 7 0]) <|
  .block 2 (.loop mq)) <|
  .seq (ak [aa 78 4,aM 79 78,az 80 .gtr 79 300]) <|
  .cond (.tmp 80) (.seq (ak [((some 2),.op (.bo (.val (.emp 1)))),aI 3 5]) <|
  .ret) (.skip))) <|
  ak [aa 22 5,az 23 .add 22 1,aa 5 23]
def oe:SF:=⟨.seq (ak [bW 1 0,((some 2),.op (.bo (.val (.emp 1)))),aI 3 0]) <|
  .seq (.seq (ak [aO 11 4 1,aQ 12 38 [11],bX 13 12]) <|
  .cond (.tmp 13) (.seq (ak [((some 2),.op (.bo (.val (.emp 1)))),aI 3 1]) <|
  .ret) (.skip)) <|
  .seq (ak [((some 14),.op (.build [(.val (.int .i64 0)),(.val (.int .i64 0))] [(0,1,(.val (.val (.int .i64 (-1)))))])),((some 15),.op (.bh 1 2 [(.val (.int .i64 0)),(.val (.int .i64 0))] [(0,(.tmp 14))])),((some 16),.op (.build [(.emp 1),(.emp 1)] [(0,1,(.tmp 15))])),((some 17),.op (.bh 1 2 [(.emp 1),(.emp 1)] [(0,(.tmp 16))])),aa 4 17]) <|
  .seq (.seq (ak [aI 5 0]) <|
  .block 0 (.loop mM)) <|
  .seq (ak [aa 81 4,aa 2 81,aI 3 0]) <|
  .ret,
  [.tmp 2,.tmp 3],82⟩
theorem uu:aY Tryz.prog 33 [1]=some oe:=by kernel_rfl
theorem La:∀ (a:List bt) (k:List aN) (i:Nat),(∀ j s,j < i→a[j]?=some s→s.bG≠k)→(∀ s,a[i]?=some s→s.bG=k→findD a k=i)∧(i=a.length→findD a k = -1):=by
  intro a k i h
  refine ⟨fun s h1 h2=>G2 a k i s h1 h2 h,fun e=>?_⟩
  subst e
  refine Bw a k fun s hs=>?_
  obtain ⟨j,hj,e⟩:=List.mem_iff_getElem.1 hs
  exact h j s hj (by rw[List.getElem?_eq_getElem hj,e])
theorem LB (a:List bt) (ha:aL a) (hs:∀ s∈a,aL s.bG) (k:List aN) (hk:aL k):aD Tryz.prog 79 [bR a,.aX (bD k)] (gi (findD a k)):=by
  unfold aL at ha
  refine aD.val (by
    intro v hv; simp at hv
    rcases hv with rfl | rfl
    · exact pD _
    · exact zx _) fun H=>?_
  refine aC.of mixed vB ?_
  simp (disch:=omega) only [↓wr,wq,ah,Nat.reduceAdd,Nat.reduceLeDiff,Int.reduceNeg,qu,bR]
  refine ba.up a.length (fun i T H'=>(∀ j s,j < i→a[j]?=some s→s.bG≠k)∧T 0=bR a∧T 1=.aX (bD k)∧T 5=gi i) ⟨fun j s h=>by omega,rfl,rfl,rfl⟩ ?_
  rintro i n T H' hn ⟨hall,t0,t1,t5⟩
  obtain ⟨f1,f2⟩:=La a k i hall
  simp (disch:=omega) only [↓wr,↓reduceIte,wq,ag,aj,Nat.reduceEqDiff,Int.reduceNeg,reduceCtorEq,mW,t0,t5,bR]
  refine av.dec (fun hc=>?_) (fun hc=>?_)
  · have hx:a[i]?=some (a[i]'(by omega)):=List.getElem?_eq_getElem (by omega)
    have hm:=hs _ (List.getElem_mem (show i < a.length by omega))
    generalize a[i]'(by omega)=x at hx hm
    simp (disch:=omega) only [↓wr,↓reduceIte,wq,Nat.reduceEqDiff,Nat.reduceAdd,Nat.reduceLT,Int.reduceNeg,reduceCtorEq,t0,t1,t5,bR,List.getElem?_map,hx,eo]
    refine aE.pure (Kg x.bG k hm hk) (by kernel_rfl) ?_
    simp (disch:=omega) only [↓wr,↓reduceIte,wq,Int.reduceNeg]
    refine av.split (fun e=>?_) (fun e=>?_)
    · simp (disch:=omega) only [↓wr,↓reduceIte,wq,ag,Nat.reduceEqDiff,Int.reduceNeg,reduceCtorEq,t5]
      rw[f1 x hx (by simpa using e)]
    · simp (disch:=omega) only [↓wr,↓reduceIte,wq,ag,Nat.reduceEqDiff,Int.reduceNeg,reduceCtorEq,t5]
      refine aV hn (by omega) ⟨fun j s hj hjs=>?_,t0,t1,rfl⟩
      rcases Nat.lt_or_ge j i with h | h
      · exact hall j s h hjs
      · have:j=i:=by omega
        subst this
        rw[hx] at hjs; simp at hjs; subst hjs
        simpa using e
  · simp (disch:=omega) only [↓wr,↓reduceIte,wq,Nat.reduceEqDiff,Int.reduceNeg,reduceCtorEq]
    rw[f2 (by omega)]
theorem JW {g:ay} (hf:g.dU) {s:bt} (h:b6 s.bG∧s.bG≠[]∧∀ x∈s.bG,cW g x):aL s.bG:=by
  have:=ia hf h.1 h.2.2; unfold aL; omega
theorem eL.Tf {H:View} {u:V} {A:List tj} {L:List ep} (h:bK H ((u,2,iH A) :: L)) (hL:∀ x∈tt A,x∈L):eL H u (bR (A.map fun x=>x.2.2)):=by
  rintro h' rfl
  exact (It h.head fun x hx=>⟨h.1 _ (List.mem_cons_of_mem _ (hL _ (vc hx).1)),h.1 _ (List.mem_cons_of_mem _ (hL _ (vc hx).2))⟩).fr
theorem eL.lr {H:View} {u:V} {l:List aN} (h:bc H u 2 (bD l)):eL H u (.aX (bD l)) :=
  eL.own h fun e he v hv=>by
    obtain ⟨x,_,rfl⟩:=List.mem_map.1 he
    simp[bE] at hv; rcases hv with rfl | rfl <;> exact .val _
theorem vQ {h:aH} {u v:V} {e:Int} (h1:bZ h u v):bZ h (.bf [u,gi e]) (.bf [v,gi e]):=.bf _ _ rfl fun i hi=>by
  match i,hi with
  | 0,_=>exact h1
  | 1,_=>exact .val _
theorem Gu {α:Type} {l:List α} {i:Nat} (h:i < l.length):∃ a x b,l=a ++ x :: b∧a.length=i∧l[i]?=some x :=
  ⟨l.take i,l[i],l.drop (i+1),by rw[← List.drop_eq_getElem_cons h,List.take_append_drop],by simp; omega,List.getElem?_eq_getElem h⟩
theorem Km {α:Type} (a:List α) (x:α) (b:List α) (f:α→α):(a ++ x :: b).modify a.length f=a ++ f x :: b:=by
  induction a with
  | nil=>rfl
  | cons y a ih=>simp only[List.cons_append,List.length_cons,List.modify_succ_cons,ih]
theorem Ah {g:ay} (h:isRed g=true):bS g=true:=by
  unfold isRed at h
  simp only[Bool.and_eq_true,beq_iff_eq,decide_eq_true_eq] at h
  refine Decidable.byContradiction fun hn=>?_
  have h1:=h.1
  unfold ko at h1
  simp[hn] at h1
theorem xn {g:ay} (h:isRed g=true):g.dU:=cn (Ah h)
theorem SH {α:Type} {a b c:α} {l:List α} : (a :: b :: c :: l).Perm (c :: b :: a :: l):=(List.Perm.swap _ _ _).trans (((List.Perm.swap _ _ _).cons _).trans (List.Perm.swap _ _ _))
theorem Rr {α:Type} {e u p r:α} {S:List α} : (e :: u :: p :: r :: S).Perm (u :: r :: (S ++ [p,e])) :=
  (List.Perm.swap _ _ _).trans (.cons _ (SH.trans (.cons _ (List.perm_append_comm (l₁:=[p,e]) (l₂:=S)))))
theorem Nn {α:Type} {u r k e:α} {S1 S2:List α} : (u :: r :: (S1 ++ k :: e :: S2)).Perm (e :: u :: r :: (S1 ++ k :: S2)):=by
  have h:(S1 ++ k :: e :: S2).Perm (e :: (S1 ++ k :: S2)):=by
    have:=List.perm_middle (a:=e) (l₁:=S1 ++ [k]) (l₂:=S2)
    simpa using this
  exact (((h.cons r).cons u).trans ((List.Perm.swap _ _ _).cons u)).trans (List.Perm.swap _ _ _)
theorem Iv (A:List tj) (x:tj) (B:List tj):tt (A ++ x :: B)=tt A ++ (x.1,2,bD x.2.2.bG) :: (x.2.1,2,lB x.2.2.cp) :: tt B:=by simp[tt]
def Sx (g:ay) (m:Nat) (T:Env) (H:View):Prop:=∃ (at_:Nat) (u:V) (A:List tj) (out:List bt),m+at_=302∧out=A.map (fun x=>x.2.2)∧bK H ((u,2,iH A) :: tt A)∧dM g at_ 0 out∧1≤out.length∧out.length≤300∧iD g m at_ out=bV g∧at_≤out.length ∧
  T 1=.aT (aw g) 0∧T 4=u∧T 5=gi at_
set_option maxHeartbeats 16000000 in
theorem Cz (g:ay) (hg:g.Ok):cH Tryz.prog 33 [.agg (aw g)] (.bf [bR (bV g).1,gi (bV g).2]):=by
  refine cH.of (fY g) ?_
  have hIs:=Rp g hg
  refine aC.of mixed uu ?_
  simp only[aw,encS] at hIs
  simp (disch:=omega) only [↓wr,↓reduceIte,wq,ah,Nat.reduceEqDiff,Nat.reduceAdd,Nat.reduceLeDiff,Int.reduceNeg,oe,aw,encS]
  refine aE.pure hIs (by kernel_rfl) ?_
  simp (disch:=omega) only [↓wr,↓reduceIte,wq,Int.reduceNeg]
  refine av.split (fun hr=>?_) (fun hr=>?_)
  rotate_left
  · simp (disch:=omega) only [↓wr,↓reduceIte,wq,Nat.reduceEqDiff,Int.reduceNeg,reduceCtorEq]
    intro h' _
    have e:bV g=([],1):=by unfold bV; rw[if_neg (by rw[hr]; simp)]
    rw[e]
    exact vQ (.emp _)
  have hf:g.dU:=xn hr
  have e0:iD g 302 0 gq=bV g:=by unfold bV; rw[if_pos hr]
  have hT:=hf.ax; have hN:=hf.aA
  simp (disch:=omega) only [↓wr,↓reduceIte,wq,ab,ae,af,Nat.reduceAdd,Nat.reduceLT,Nat.reduceLeDiff,Int.reduceNeg]
  intro q1 q2 hq2
  have o0:bK (((View.set (fun _=>cU.dead) q1 (.arr 2 [[gi (-1),gi 0]])).set q2 (.arr 2 [[.sl q1 0 1 2,.emp 1]]))) ((.sl q2 0 1 2,2,iH [(.sl q1 0 1 2,.emp 1,⟨[⟨-1,0⟩],[]⟩)]) :: tt [(.sl q1 0 1 2,.emp 1,⟨[⟨-1,0⟩],[]⟩)]) :=
    (((bK.nil.emp (k:=1) (sz:=2)).new (n:=q1) rfl 2 [[gi (-1),gi 0]]).new (by simpa [View.set] using hq2) 2 [[.sl q1 0 1 2,.emp 1]])
  generalize (View.set (fun _=>cU.dead) q1 (.arr 2 [[gi (-1),gi 0]])).set q2 (.arr 2 [[.sl q1 0 1 2,.emp 1]])=H0 at o0 ⊢
  refine ba.intro (Sx g) 302 ⟨0,_,_,gq,rfl,rfl,o0,tT,Nat.le_refl _,by simp[gq],e0,by omega,rfl,rfl,rfl⟩ ?_
  clear o0 hq2
  rintro m T H ⟨at_,u,A,out,hm,rfl,ho,hI,h1,h300,hl,hle,t1,t4,t5⟩
  have hlu:dq u=some A.length:=by rw[ho.head.len,fX]
  simp only[List.length_map] at h1 h300 hle
  simp (disch:=omega) only [↓wr,↓reduceIte,wq,ag,aj,Nat.reduceEqDiff,reduceCtorEq,mM,t4,t5,hlu]
  refine av.dec (fun hc=>?_) (fun hc=>?_)
  rotate_left
  · simp (disch:=omega) only [↓wr,↓reduceIte,wq,Nat.reduceEqDiff,reduceCtorEq,t4]
    have e1:bV g=(A.map (fun x=>x.2.2),0):=by
      rw[← hl]
      cases m with
      | zero=>rfl
      | succ m=>rw[iD,if_neg (by simp; omega)]
    rw[e1]
    rintro h' rfl
    exact vQ (It ho.head fun x hx=>⟨ho.1 _ (List.mem_cons_of_mem _ (vc hx).1),ho.1 _ (List.mem_cons_of_mem _ (vc hx).2)⟩)
  obtain ⟨m,rfl⟩:∃ q,m=q+1:=⟨m - 1,by omega⟩
  have hat:at_ < A.length:=by omega
  obtain ⟨A1,x,A2,rfl,hA1,hx⟩:=Gu hat
  have hxm:x∈A1 ++ x :: A2:=by simp
  obtain ⟨hk1,hk2,hk3⟩:=hI.bG x.2.2 (List.mem_map_of_mem hxm)
  have hkl:=ia hf hk1 hk3
  have hh:bc H u 2 (iH (A1 ++ x :: A2)):=ho.head
  obtain ⟨id,hu,hid⟩:=hh.sl (by rw[fX]; omega)
  have hgx:(iH (A1 ++ x :: A2)).getD at_ []=[x.1,x.2.1]:=by simp[iH,List.getD_eq_getElem?_getD,← hA1]
  have hcl:dA g ((List.map (fun x=>x.2.2) (A1 ++ x :: A2)).getD at_ cK).bG=dA g x.2.2.bG:=by
    rw[List.getD_eq_getElem?_getD,List.getElem?_map,hx]; rfl
  have hrow:=fun n hn=>dM.row (hI.uT hf (show at_ < ((A1 ++ x :: A2).map fun x=>x.2.2).length by simpa using hat)).1 (hI.uT hf (show at_ < ((A1 ++ x :: A2).map fun x=>x.2.2).length by simpa using hat)).2 hI n hn
  rw[iD,if_pos (by simpa using hat),yT] at hl
  rw[hcl] at hl hrow
  have hcs:=rQ g x.2.2.bG
  have hch:∀ y∈dA g x.2.2.bG,cW g y:=fun y hy=>((jU hf hk3).1 hy).has hk3
  rw[fX] at hu
  simp (disch:=omega) only [↓wr,↓reduceIte,wq,Nat.reduceEqDiff,Nat.reduceAdd,Nat.reduceLT,Nat.reduceLeDiff,t1,t4,t5,hu,hid,hgx,aw,encS]
  refine ⟨by omega,by rw[fX]; omega,?_⟩
  refine aE.ff ((zl g hf x.2.2.bG hk3 (by omega) x.1 H (ho.1 _ (List.mem_cons_of_mem _ (vc hxm).1))).mono ?_)
  rintro r H2 ⟨or,fr⟩
  have o2:=ho.Pc or fr
  clear or fr hid hgx hcl hx
  generalize dA g x.2.2.bG=cl at *
  generalize hout0:(A1 ++ x :: A2).map (fun x=>x.2.2)=out0 at *
  have hol:out0.length=(A1 ++ x :: A2).length:=by rw[← hout0]; simp
  simp (disch:=omega) only [↓wr,↓reduceIte,wq]
  refine ba.up (g.ax.length+g.aA.length) (fun i T H'=>∃ (u:V) (A:List tj),A.map (fun x=>x.2.2)=(List.range i).foldl (dK g cl at_) out0∧bK H' ((r,2,bD cl) :: (u,2,iH A) :: tt A)∧T 1=.aT (aw g) 0∧T 4=u∧T 5=gi at_∧T 6=r∧T 7=gi i)
    ⟨u,_,hout0,o2,t1,by rw[← hu]; exact t4,t5,rfl,rfl⟩ ?_
  rw[← hol] at h1 h300 hle hat
  clear o2 ho hh hu t1 t4 t5 hlu hout0 hxm hol hc hk1 hk2 hk3 hkl hA1
  clear u H2 H T id A1 x A2
  rintro i k T H' hk ⟨u,A,hA,ho,t1,t4,t5,t6,t7⟩
  obtain ⟨iI,il1,il2⟩:=hrow i (by omega)
  rw[← hA] at iI il1 il2
  rw[List.length_map] at il1 il2
  have hlu:dq u=some A.length:=by rw[ho.tail.head.len,fX]
  have hcl':=ia hf hcs hch
  simp (disch:=omega) only [↓wr,↓reduceIte,wq,ag,aj,Nat.reduceEqDiff,Nat.reduceAdd,Nat.reduceLT,mq,t1,t7,aw,encS]
  refine av.dec (fun hc=>?_) (fun hc=>?_)
  rotate_left
  · have hi:i=g.ax.length+g.aA.length:=by omega
    subst hi
    rw[← hA] at hl
    simp (disch:=omega) only [↓wr,↓reduceIte,wq,ag,Nat.reduceEqDiff,reduceCtorEq,t4,t5,hlu]
    refine av.dec (fun h3=>?_) (fun h3=>?_)
    · simp (disch:=omega) only [↓wr,↓reduceIte,wq,ag,Nat.reduceEqDiff,reduceCtorEq]
      intro h' _
      rw[if_pos (by rw[List.length_map]; omega)] at hl
      rw[← hl]
      exact vQ (.emp _)
    · simp (disch:=omega) only [↓wr,↓reduceIte,wq,ag,Nat.reduceEqDiff,reduceCtorEq,t4,t5]
      rw[if_neg (by rw[List.length_map]; omega)] at hl
      exact ⟨m,by omega,at_+1,u,A,_,by omega,rfl,ho.tail,iI.next,by rw[List.length_map]; omega,by rw[List.length_map]; omega,hl,by rw[List.length_map]; omega,t1,t4,rfl⟩
  have hcN:i < g.ax.length+g.aA.length:=by omega
  have hs15:=HQ g hf i hcN
  have hsb:=KG hf hcN
  simp only[aw,encS] at hs15
  simp (disch:=omega) only [↓wr,↓reduceIte,wq,Nat.reduceEqDiff,Nat.reduceAdd,Nat.reduceLeDiff,t1,t7,aw,encS]
  refine aE.pure hs15 (by kernel_rfl) ?_
  simp (disch:=omega) only [↓wr,↓reduceIte,wq,Nat.reduceEqDiff,Nat.reduceAdd,Nat.reduceLeDiff,t1,t6,aw,encS]
  refine aE.ff ((J4 g hf cl hcs hch (c6 g i) r H' ho.head).mono ?_)
  rintro r9 H9 ⟨or,fr⟩
  have o9:=ho.Pc or fr
  have hml:=Fp (g:=g) (l:=cl) (s:=c6 g i)
  have hl9:dq r9=some (dc g cl (c6 g i)).length:=by rw[or.len,fR]
  have hstep:(List.range (i+1)).foldl (dK g cl at_) out0=dK g cl at_ (A.map fun x=>x.2.2) i:=by rw[List.range_succ,List.foldl_append,← hA]; rfl
  simp (disch:=omega) only [↓wr,↓reduceIte,wq,ag,aj,hl9]
  refine av.eq (fun he=>?_) (fun he=>?_)
  · have hnil:dc g cl (c6 g i)=[]:=List.length_eq_zero_iff.1 (by omega)
    simp (disch:=omega) only [↓wr,↓reduceIte,wq,ag,Nat.reduceEqDiff,reduceCtorEq,t4,t5,t7]
    exact aV hk (by omega) ⟨u,A,by rw[hstep,dK,if_pos hnil],o9.tail,t1,t4,t5,t6,rfl⟩
  have hne:dc g cl (c6 g i)≠[]:=fun e=>he (by rw[e]; rfl)
  simp (disch:=omega) only [↓wr,↓reduceIte,wq,Nat.reduceEqDiff,t4]
  have hfind:=LB (A.map fun x=>x.2.2) (by unfold aL; rw[List.length_map]; omega) (fun s hs=>JW hf (iI.bG s hs)) (dc g cl (c6 g i)) (by unfold aL; omega)
  refine aE.A9 hfind (by kernel_rfl) (.val _) ⟨eL.Tf o9.tail.tail (fun x hx=>hx),eL.lr or,trivial⟩ ?_
  have hfl:=Az (A.map fun x=>x.2.2) (dc g cl (c6 g i))
  have hfg:=FH (A.map fun x=>x.2.2) (dc g cl (c6 g i))
  rw[List.length_map] at hfl
  have hat2:at_ < A.length:=by omega
  simp (disch:=omega) only [↓wr,↓reduceIte,wq,ag]
  obtain ⟨A1,x,A2,hAs,hA1,hx⟩:=Gu hat2
  have hxe:x.2.2.cp.length≤40:=(iI.cp at_ x.2.2 (by rw[List.getElem?_map,hx]; rfl)).1
  have hgx:∀ B,(iH (A1 ++ x :: B)).getD at_ []=[x.1,x.2.1]:=fun B=>by simp[iH,List.getD_eq_getElem?_getD,← hA1]
  have hput:∀ (B:List tj) (c:de),((A1 ++ x :: B).map fun x=>x.2.2).modify at_ (fun s=>(⟨s.bG,s.cp ++ [c]⟩:bt))=(A1 ++ (x.1,x.2.1,(⟨x.2.2.bG,x.2.2.cp ++ [c]⟩:bt)) :: B).map fun x=>x.2.2:=fun B c=>by
    rw[List.map_append,List.map_cons,← hA1,← List.length_map (f:=fun x:tj=>x.2.2),Km,List.map_append,List.map_cons]
  refine av.dec (fun hneg=>?_) (fun hneg=>?_)
  simp (disch:=omega) only [↓wr,↓reduceIte,wq,aj,ab,ae,af,Nat.reduceEqDiff,Nat.reduceAdd,Nat.reduceLT,Nat.reduceLeDiff,t4,hlu,or.cells,or.fA]
  intro q hq
  simp (disch:=omega) only [↓wr,↓reduceIte,wq,Nat.reduceEqDiff,bp]
  have o10:=(o9.fresh (o:=.arr 2 [[r9,.emp 1]]) hq).at 2 (by simp)
  refine bQ o10 (by simp[or.fA,Dw]) (by unfold aJ; rw[fX]; simp; omega) (by unfold aJ; rw[fX]; simp; omega) ?_
  intro u2 H10 o11 _
  simp only[List.eraseIdx_cons_succ,List.eraseIdx_cons_zero] at o11
  have o12:=(o11.emp (k:=1) (sz:=2)).perm Rr
  have hst:dK g cl at_ (A.map fun x=>x.2.2) i=((A1 ++ x :: (A2 ++ [(r9,.emp 1,(⟨dc g cl (c6 g i),[]⟩:bt))])).map fun x=>x.2.2).modify at_ (fun s=>(⟨s.bG,s.cp ++ [⟨c6 g i,(A.length:Int)⟩]⟩:bt)):=by
    rw[dK,if_neg hne,if_pos hneg,List.length_map]
    congr 1
    rw[hAs]; simp
  have o13:bK H10 ((u2,2,iH (A1 ++ x :: (A2 ++ [(r9,.emp 1,(⟨dc g cl (c6 g i),[]⟩:bt))]))) :: (r,2,bD cl) :: tt (A1 ++ x :: (A2 ++ [(r9,.emp 1,(⟨dc g cl (c6 g i),[]⟩:bt))]))):=by
    have e1:iH (A1 ++ x :: (A2 ++ [(r9,.emp 1,(⟨dc g cl (c6 g i),[]⟩:bt))]))=iH A ++ [[r9,.emp 1]]:=by rw[hAs]; simp[iH]
    have e2:tt (A1 ++ x :: (A2 ++ [(r9,.emp 1,(⟨dc g cl (c6 g i),[]⟩:bt))]))=tt A ++ [(r9,2,bD (dc g cl (c6 g i))),(.emp 1,2,[])]:=by rw[hAs]; simp[tt]; rfl
    rw[e1,e2]
    exact o12
  generalize (A2 ++ [(r9,V.emp 1,(⟨dc g cl (c6 g i),[]⟩:bt))])=B at hst o13
  generalize (A.length:Int)=to at hst ⊢
  rotate_left
  have hst:dK g cl at_ (A.map fun x=>x.2.2) i=((A1 ++ x :: A2).map fun x=>x.2.2).modify at_ (fun s=>(⟨s.bG,s.cp ++ [⟨c6 g i,findD (A.map fun x=>x.2.2) (dc g cl (c6 g i))⟩]⟩:bt)):=by
    rw[dK,if_neg hne,if_neg hneg,← hAs]
  have o13:=o9.tail.perm (.swap _ _ _)
  clear or fr
  generalize H9=H10 at o9 o13 ⊢
  obtain ⟨u2,hu2⟩:∃ y,y=u:=⟨_,rfl⟩
  rw[← hu2] at o13 t4
  rw[hAs] at o13
  generalize findD (A.map fun x=>x.2.2) (dc g cl (c6 g i))=to at hst ⊢
  generalize A2=B at hst o13
  all_goals (
    obtain ⟨id,hu,hid⟩:=(show bc H10 u2 2 (iH (A1 ++ x :: B)) from o13.head).sl (by rw[fX]; simp; omega)
    rw[fX] at hu
    rw[Iv] at o13
    simp (disch:=omega) only [↓wr,↓reduceIte,wq,ab,ae,af,Nat.reduceEqDiff,Nat.reduceAdd,Nat.reduceLT,Nat.reduceLeDiff,t4,t5,hu,hid,hgx B]
    refine ⟨by simp; omega,by rw[fX]; simp; omega,?_⟩
    intro q2 hq2
    simp (disch:=omega) only [↓wr,↓reduceIte,wq,Nat.reduceEqDiff,bp]
    refine bQ ((o13.perm Nn).fresh hq2) (by simp[aU]) (by unfold aJ; simp[lB]; omega) (by unfold aJ; simp[lB]; omega) ?_
    intro e2 H11 o14 _
    have hid2:H11 id=.arr 2 (iH (A1 ++ x :: B)):=((o14.own 1 rfl).live (by rw[hu]; rfl)).1
    simp (disch:=omega) only [↓wr,↓reduceIte,wq,ag,ab,Nat.reduceEqDiff,Nat.reduceAdd,Nat.reduceLeDiff,reduceCtorEq,t4,t5,t7,hu,hid2,hgx B,o14.head.cells,o14.head.fA]
    have hset:(iH (A1 ++ x :: B)).set at_ [x.1,e2]=iH (A1 ++ (x.1,e2,(⟨x.2.2.bG,x.2.2.cp ++ [⟨c6 g i,to⟩]⟩:bt)) :: B):=by
      rw[← hA1]; simp[iH]
    have hpd:lB (x.2.2.cp ++ [⟨c6 g i,to⟩])=lB x.2.2.cp ++ [[gi (c6 g i),gi to]]:=by simp[lB,dn]
    have o15:=o14.perm (.swap _ _ _)
    rw[hu] at o15
    have o16:=((o15.put (es':=iH (A1 ++ (x.1,e2,(⟨x.2.2.bG,x.2.2.cp ++ [⟨c6 g i,to⟩]⟩:bt)) :: B)) (by rw[fX,fX]; simp) (by rw[fX])).perm (.swap _ _ _)).perm Nn.symm
    rw[← hpd] at o16
    have o17:=o16.perm (.swap _ _ _)
    rw[← hu] at o17
    rw[hset]
    refine ⟨by simp; omega,by rw[fX]; simp; omega,aV hk (by omega) ⟨u2,_,?_,by rw[Iv]; exact o17,t1,by first | rfl | exact t4 | exact hu.symm,t5,t6,rfl⟩⟩
    rw[hstep,hst,hput]; simp)
end Gv
