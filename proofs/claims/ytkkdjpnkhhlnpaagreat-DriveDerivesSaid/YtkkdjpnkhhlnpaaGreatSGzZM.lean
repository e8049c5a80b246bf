/-
  Part 13 of the proof: what the machine does and what the functions answer.
  Conditions: those that each lemma names.
-/
import Derived.Test.YtkkdjpnkhhlnpaaGreatSGzZL
set_option linter.unusedSimpArgs false
set_option linter.unusedVariables false
set_option maxRecDepth 100000
namespace Gv
open Go Go.Proofs
def edgeD:List PEdg→Int→Int
  | [],_=>-1
  | e :: l,s=>if e.sym=s then e.to else edgeD l s
def walkS1 (a:List StP):Int→List Int→Int × Bool
  | at_,[]=>(at_,true)
  | at_,s :: l=>if 0≤edgeD (a.getD at_.toNat noSt).edg s∧edgeD (a.getD at_.toNat noSt).edg s < a.length then walkS1 a (edgeD (a.getD at_.toNat noSt).edg s) l else (0,false)
def walkD (a:List StP) (at_:Int) (l:List Int):Int × Bool:=if at_ < 0∨(a.length:Int)≤at_ then (0,false) else walkS1 a at_ l
theorem walkS1_in {a:List StP} : ∀ (l:List Int) (at_:Int),0≤at_→at_ < a.length→0≤(walkS1 a at_ l).1∧(walkS1 a at_ l).1 < a.length
  | [],at_,h1,h2=>⟨h1,h2⟩
  | s :: l,at_,h1,h2=>by
    rw[walkS1]
    split
    · rename_i h; exact walkS1_in l _ h.1 h.2
    · exact ⟨by simp,by simp only; omega⟩
abbrev Sets:=List (List BV)
def getS (ss:Sets) (i k:Nat):BV:=(ss.getD i []).getD k 0
def giveRow (l:List LrI) (row:List BV) (x:LrI) (s:BV):List BV:=List.zipWith (fun y v=>if y=x then v ||| s else v) l row
def giveD (ls:List (List LrI)) (ss:Sets) (st:Nat) (x:LrI) (s:BV):Sets:=ss.set st (giveRow (ls.getD st []) (ss.getD st []) x s)
def Shp (ls:List (List LrI)) (ss:Sets):Prop:=ss.length=ls.length∧∀ i:Nat,(ss.getD i []).length=(ls.getD i []).length
def LeS (a b:Sets):Prop:=a.length=b.length∧(∀ i:Nat,(a.getD i []).length=(b.getD i []).length)∧∀ i k,SubS (getS a i k) (getS b i k)
theorem LeS.refl {a:Sets} : LeS a a:=⟨rfl,fun _=>rfl,fun _ _ _ h=>h⟩
theorem LeS.trans {a b c:Sets} (h:LeS a b) (k:LeS b c):LeS a c:=⟨h.1.trans k.1,fun i=>(h.2.1 i).trans (k.2.1 i),fun i j t ht=>k.2.2 i j t (h.2.2 i j t ht)⟩
theorem LeS.anti {a b:Sets} (h:LeS a b) (k:LeS b a):a=b:=by
  refine List.ext_getElem h.1 fun i h1 h2=>?_
  have e1:a.getD i []=a[i]:=by simp[List.getD_eq_getElem?_getD,h1]
  have e2:b.getD i []=b[i]:=by simp[List.getD_eq_getElem?_getD,h2]
  refine List.ext_getElem (by rw[← e1,← e2]; exact h.2.1 i) fun j h3 h4=>?_
  have g1:getS a i j=a[i][j]:=by rw[getS,e1]; simp[List.getD_eq_getElem?_getD,h3]
  have g2:getS b i j=b[i][j]:=by rw[getS,e2]; simp[List.getD_eq_getElem?_getD,h4]
  rw[← g1,← g2]
  refine bv_ext fun t _=>?_
  have p:=h.2.2 i j t
  have q:=k.2.2 i j t
  cases hx:(getS a i j).getLsbD t with
  | true=>rw[p hx]
  | false =>
    cases hy:(getS b i j).getLsbD t with
    | false=>rfl
    | true=>rw[q hy] at hx; exact absurd hx (by simp)
theorem giveRow_len {l:List LrI} {row:List BV} {x:LrI} {s:BV} (h:row.length=l.length):(giveRow l row x s).length=row.length:=by
  simp[giveRow,h]
theorem giveRow_get {l:List LrI} {row:List BV} {x:LrI} {s:BV} (h:row.length=l.length) (k:Nat):(giveRow l row x s).getD k 0=if l[k]?=some x then row.getD k 0 ||| s else row.getD k 0:=by
  rw[giveRow,List.getD_eq_getElem?_getD,List.getElem?_zipWith,List.getD_eq_getElem?_getD]
  by_cases hk:k < l.length
  · have h1:l[k]?=some l[k]:=List.getElem?_eq_getElem hk
    have h2:row[k]?=some (row[k]'(by omega)):=List.getElem?_eq_getElem (by omega)
    rw[h1,h2]
    simp
  · rw[List.getElem?_eq_none (by omega),List.getElem?_eq_none (by omega)]
    simp
theorem getD_setL {α:Type} (l:List α) (i j:Nat) (x d:α):(l.set i x).getD j d=if i=j∧i < l.length then x else l.getD j d:=by
  simp only[List.getD_eq_getElem?_getD,List.getElem?_set]
  by_cases e:i=j
  · subst e
    by_cases h:i < l.length
    · simp[h]
    · simp[h]
  · simp[e]
theorem giveD_get {ls:List (List LrI)} {ss:Sets} (hs:Shp ls ss) {st:Nat} (hst:st < ls.length) (x:LrI) (s:BV) (i k:Nat) :
    getS (giveD ls ss st x s) i k=if i=st∧(ls.getD st [])[k]?=some x then getS ss i k ||| s else getS ss i k:=by
  have hl:=hs.1
  unfold getS giveD
  rw[getD_setL]
  by_cases e:st=i
  · subst e
    rw[if_pos ⟨rfl,by omega⟩,giveRow_get (hs.2 st)]
    simp
  · rw[if_neg (fun h=>e h.1),if_neg (fun h=>e h.1.symm)]
theorem giveD_shp {ls:List (List LrI)} {ss:Sets} (hs:Shp ls ss) {st:Nat} (_:st < ls.length) (x:LrI) (s:BV):Shp ls (giveD ls ss st x s):=by
  refine ⟨by rw[giveD,List.length_set]; exact hs.1,fun i=>?_⟩
  have hl:=hs.1
  unfold giveD
  rw[getD_setL]
  split
  · rename_i h
    obtain ⟨rfl,_⟩:=h
    rw[giveRow_len (hs.2 st)]; exact hs.2 st
  · exact hs.2 i
theorem Shp.eq {ls:List (List LrI)} {a b:Sets} (h:Shp ls a) (k:Shp ls b):a.length=b.length∧∀ i:Nat,(a.getD i []).length=(b.getD i []).length:=⟨h.1.trans k.1.symm,fun i=>(h.2 i).trans (k.2 i).symm⟩
theorem giveD_le {ls:List (List LrI)} {ss:Sets} (hs:Shp ls ss) {st:Nat} (hst:st < ls.length) (x:LrI) (s:BV):LeS ss (giveD ls ss st x s):=by
  refine ⟨(hs.eq (giveD_shp hs hst x s)).1,(hs.eq (giveD_shp hs hst x s)).2,fun i k t ht=>?_⟩
  rw[giveD_get hs hst]
  split
  · rw[BitVec.getLsbD_or,ht]; rfl
  · exact ht
theorem giveD_fix {ls:List (List LrI)} {ss:Sets} (hs:Shp ls ss) {st:Nat} (hst:st < ls.length) {x:LrI} {s:BV} (h:giveD ls ss st x s=ss) {k:Nat} (hk:(ls.getD st [])[k]?=some x):SubS s (getS ss st k):=by
  have:=giveD_get hs hst x s st k
  rw[h,if_pos ⟨rfl,hk⟩] at this
  intro t ht
  rw[this,BitVec.getLsbD_or,ht,Bool.or_true]
def restLr (g:Gram) (x:LrI):List Int:=if 0≤x.rule then (ruleD g x.rule).right.drop (x.dot+1).toNat else []
def giveAll (g:Gram) (ls:List (List LrI)) (st:Nat) (s:Int) (b:BV) (ss:Sets) (n:Nat):Sets:=(List.range n).foldl (fun ss (k:Nat)=>if (ruleD g k).left = -1 - s then giveD ls ss st ⟨k,0⟩ b else ss) ss
def passD (g:Gram) (null:List Bool) (a:List StP) (ls:List (List LrI)) (i k:Nat) (ss:Sets):Sets :=
  if (nextLr g ((ls.getD i []).getD k ⟨0,0⟩)).2=false∨getS ss i k=0 then ss
  else if 0≤(nextLr g ((ls.getD i []).getD k ⟨0,0⟩)).1 then giveD ls ss (walkD a i [(nextLr g ((ls.getD i []).getD k ⟨0,0⟩)).1]).1.toNat ⟨((ls.getD i []).getD k ⟨0,0⟩).rule,((ls.getD i []).getD k ⟨0,0⟩).dot+1⟩ (getS ss i k)
  else giveAll g ls i (nextLr g ((ls.getD i []).getD k ⟨0,0⟩)).1 (ofD null (firstD g null) (getS ss i k) (restLr g ((ls.getD i []).getD k ⟨0,0⟩)))
    (giveD ls ss (walkD a i [(nextLr g ((ls.getD i []).getD k ⟨0,0⟩)).1]).1.toNat ⟨((ls.getD i []).getD k ⟨0,0⟩).rule,((ls.getD i []).getD k ⟨0,0⟩).dot+1⟩ (getS ss i k)) g.rules.length
inductive LaM (g:Gram) (null:List Bool) (a:List StP) (ls:List (List LrI)):Nat→LrI→Nat→Prop
  | start:(⟨-1,0⟩:LrI)∈ls.getD 0 []→LaM g null a ls 0 ⟨-1,0⟩ g.terms.length
  | move {i:Nat} {x:LrI} {t:Nat} {s:Int} : LaM g null a ls i x t→nextLr g x=(s,true)→(⟨x.rule,x.dot+1⟩:LrI)∈ls.getD (walkD a i [s]).1.toNat []→LaM g null a ls (walkD a i [s]).1.toNat ⟨x.rule,x.dot+1⟩ t
  | begin {i:Nat} {x:LrI} {t u:Nat} {s:Int} {k:Nat} : LaM g null a ls i x t→nextLr g x=(s,true)→s < 0→k < g.rules.length→(ruleD g k).left = -1 - s→(⟨k,0⟩:LrI)∈ls.getD i [] →
      (ofD null (firstD g null) (BitVec.twoPow 32 t) (restLr g x)).getLsbD u=true→LaM g null a ls i ⟨k,0⟩ u
theorem LaM.mem {g:Gram} {null:List Bool} {a:List StP} {ls:List (List LrI)} {i:Nat} {x:LrI} {t:Nat} (h:LaM g null a ls i x t):x∈ls.getD i []:=by
  cases h <;> assumption
def SoundS (g:Gram) (null:List Bool) (a:List StP) (ls:List (List LrI)) (ss:Sets):Prop:=∀ i k x t,(ls.getD i [])[k]?=some x→(getS ss i k).getLsbD t=true→LaM g null a ls i x t
section
variable {g:Gram} {null:List Bool} {a:List StP} {ls:List (List LrI)}
theorem walkD_in (hla:ls.length=a.length) (h1:1≤a.length) (i:Nat) (l:List Int):(walkD a i l).1.toNat < ls.length:=by
  unfold walkD
  split
  · simp; omega
  · rename_i h
    have:=walkS1_in (a:=a) l (i:Int) (by omega) (by omega)
    omega
theorem giveD_sound {ss:Sets} (hs:Shp ls ss) (hd:SoundS g null a ls ss) {st:Nat} (hst:st < ls.length) {x:LrI} {s:BV} (h:∀ t,s.getLsbD t=true→x∈ls.getD st []→LaM g null a ls st x t):SoundS g null a ls (giveD ls ss st x s):=by
  intro i k y t hy ht
  rw[giveD_get hs hst] at ht
  split at ht
  · rename_i hc
    obtain ⟨rfl,hk⟩:=hc
    rw[hk] at hy
    simp only[Option.some.injEq] at hy
    subst hy
    rw[BitVec.getLsbD_or,Bool.or_eq_true] at ht
    rcases ht with ht | ht
    · exact hd i k x t hk ht
    · exact h t ht (List.mem_of_getElem? hk)
  · exact hd i k y t hy ht
theorem giveAll_ok {st:Nat} (hst:st < ls.length) (s:Int) (b:BV):∀ (n:Nat) (ss:Sets),Shp ls ss→Shp ls (giveAll g ls st s b ss n)∧LeS ss (giveAll g ls st s b ss n)
  | 0,ss,hs=>⟨hs,.refl⟩
  | n+1,ss,hs=>by
    obtain ⟨h1,h2⟩:=giveAll_ok hst s b n ss hs
    unfold giveAll at h1 h2 ⊢
    rw[List.range_succ,List.foldl_append]
    simp only[List.foldl_cons,List.foldl_nil]
    split
    · exact ⟨giveD_shp h1 hst _ _,h2.trans (giveD_le h1 hst _ _)⟩
    · exact ⟨h1,h2⟩
theorem giveAll_sound {st:Nat} (hst:st < ls.length) (s:Int) (b:BV) (hb:∀ (k:Nat) t,(ruleD g k).left = -1 - s→k < g.rules.length→b.getLsbD t=true→(⟨k,0⟩:LrI)∈ls.getD st []→LaM g null a ls st ⟨k,0⟩ t):∀ (n:Nat) (ss:Sets),n≤g.rules.length→Shp ls ss→SoundS g null a ls ss→SoundS g null a ls (giveAll g ls st s b ss n)
  | 0,ss,_,_,hd=>hd
  | n+1,ss,hn,hs,hd=>by
    have h1:=(giveAll_ok (g:=g) hst s b n ss hs).1
    have h2:=giveAll_sound hst s b hb n ss (by omega) hs hd
    unfold giveAll at h1 h2 ⊢
    rw[List.range_succ,List.foldl_append]
    simp only[List.foldl_cons,List.foldl_nil]
    split
    · rename_i hl
      exact giveD_sound h1 h2 hst fun t ht hm=>hb n t hl (by omega) ht hm
    · exact h2
theorem giveAll_fix {st:Nat} (hst:st < ls.length) (s:Int) (b:BV):∀ (n:Nat) (ss:Sets),Shp ls ss→giveAll g ls st s b ss n=ss→∀ k:Nat,k < n→(ruleD g k).left = -1 - s→giveD ls ss st ⟨k,0⟩ b=ss
  | 0,ss,_,_,k,hk,_=>by omega
  | n+1,ss,hs,he,k,hk,hl=>by
    obtain ⟨h1,h2⟩:=giveAll_ok (g:=g) hst s b n ss hs
    have e:giveAll g ls st s b ss (n+1)=if (ruleD g n).left = -1 - s then giveD ls (giveAll g ls st s b ss n) st ⟨n,0⟩ b else giveAll g ls st s b ss n:=by
      unfold giveAll
      rw[List.range_succ,List.foldl_append]
      rfl
    have hsame:giveAll g ls st s b ss n=ss:=by
      refine LeS.anti ?_ h2
      rw[e] at he
      split at he
      · exact Eq.mp (congrArg (LeS _) he) (giveD_le h1 hst _ _)
      · rw[he]; exact .refl
    by_cases hkn:k=n
    · subst hkn
      rw[e,if_pos hl,hsame] at he
      exact he
    · exact giveAll_fix hst s b n ss hs hsame k (by omega) hl
theorem passD_ok (hla:ls.length=a.length) (h1:1≤a.length) {i:Nat} (hi:i < ls.length) (k:Nat) {ss:Sets} (hs:Shp ls ss):Shp ls (passD g null a ls i k ss)∧LeS ss (passD g null a ls i k ss):=by
  unfold passD
  split
  · exact ⟨hs,.refl⟩
  · have hw:=walkD_in hla h1 i [(nextLr g ((ls.getD i []).getD k ⟨0,0⟩)).1]
    split
    · exact ⟨giveD_shp hs hw _ _,giveD_le hs hw _ _⟩
    · have:=giveAll_ok (g:=g) hi (nextLr g ((ls.getD i []).getD k ⟨0,0⟩)).1 (ofD null (firstD g null) (getS ss i k) (restLr g ((ls.getD i []).getD k ⟨0,0⟩))) g.rules.length _ (giveD_shp hs hw ⟨((ls.getD i []).getD k ⟨0,0⟩).rule,((ls.getD i []).getD k ⟨0,0⟩).dot+1⟩ (getS ss i k))
      exact ⟨this.1,(giveD_le hs hw _ _).trans this.2⟩
theorem passD_sound (hla:ls.length=a.length) (h1:1≤a.length) {i k:Nat} (hi:i < ls.length) (hk:k < (ls.getD i []).length) {ss:Sets} (hs:Shp ls ss) (hd:SoundS g null a ls ss):SoundS g null a ls (passD g null a ls i k ss):=by
  have hx:(ls.getD i [])[k]?=some ((ls.getD i []).getD k ⟨0,0⟩):=getD_some hk
  unfold passD
  generalize (ls.getD i []).getD k ⟨0,0⟩=x at hx ⊢
  split
  · exact hd
  · rename_i hc
    have hn:nextLr g x=((nextLr g x).1,true):=by
      cases h:(nextLr g x).2 with
      | false=>exact absurd (.inl h) hc
      | true=>rw[← h]
    have hz:getS ss i k≠0:=fun h=>hc (.inr h)
    have hw:=walkD_in hla h1 i [(nextLr g x).1]
    have d1:=giveD_sound hs hd hw (x:=⟨x.rule,x.dot+1⟩) (s:=getS ss i k) fun t ht hm=>LaM.move (hd i k x t hx ht) hn hm
    split
    · exact d1
    · rename_i hneg
      refine giveAll_sound hi _ _ (fun q u hl hq hu hm=>?_) _ _ (Nat.le_refl _) (giveD_shp hs hw _ _) d1
      obtain ⟨t,h2,h3⟩:=ofD_bit _ _ hu hz
      exact LaM.begin (hd i k x t hx h2) hn (by omega) hq hl hm h3
theorem sets_full (hla:ls.length=a.length) (h1:1≤a.length) {ss:Sets} (hs:Shp ls ss) (h0:∀ k,(ls.getD 0 [])[k]?=some ⟨-1,0⟩→(getS ss 0 k).getLsbD g.terms.length=true)
    (hf:∀ i k,i < ls.length→k < (ls.getD i []).length→passD g null a ls i k ss=ss) {i:Nat} {x:LrI} {t:Nat} (h:LaM g null a ls i x t):∀ k,(ls.getD i [])[k]?=some x→(getS ss i k).getLsbD t=true:=by
  have key:∀ {i:Nat} {x:LrI} {t:Nat},LaM g null a ls i x t→(∀ k,(ls.getD i [])[k]?=some x→(getS ss i k).getLsbD t=true)→∃ k,(ls.getD i [])[k]?=some x∧i < ls.length∧k < (ls.getD i []).length∧(getS ss i k).getLsbD t=true:=by
    intro i x t h ih
    obtain ⟨k,hk,e⟩:=List.mem_iff_getElem.1 h.mem
    have hx:(ls.getD i [])[k]?=some x:=by rw[List.getElem?_eq_getElem hk,e]
    refine ⟨k,hx,?_,hk,ih k hx⟩
    rcases Nat.lt_or_ge i ls.length with h | h
    · exact h
    · rw[List.getD_eq_getElem?_getD,List.getElem?_eq_none h] at hk; simp at hk
  induction h with
  | start=>exact h0
  | @move i x t s hl hn hm ih =>
    intro j hj
    obtain ⟨k,hx,hi,hk,hb⟩:=key hl ih
    have hp:=hf i k hi hk
    have hxe:(ls.getD i []).getD k ⟨0,0⟩=x:=by rw[List.getD_eq_getElem?_getD,hx]; rfl
    have hz:¬ getS ss i k=0:=fun e=>by rw[e] at hb; simp at hb
    unfold passD at hp
    rw[hxe,hn,if_neg (fun h=>h.elim (by simp) hz)] at hp
    simp only at hp
    have hw:=walkD_in hla h1 i [s]
    have hg:giveD ls ss (walkD a i [s]).1.toNat ⟨x.rule,x.dot+1⟩ (getS ss i k)=ss:=by
      split at hp
      · exact hp
      · exact LeS.anti (Eq.mp (congrArg (LeS _) hp) (giveAll_ok hi _ _ _ _ (giveD_shp hs hw _ _)).2) (giveD_le hs hw _ _)
    exact giveD_fix hs hw hg hj t hb
  | @begin i x t u s q hl hn hneg hq hL hm hu ih =>
    intro j hj
    obtain ⟨k,hx,hi,hk,hb⟩:=key hl ih
    have hp:=hf i k hi hk
    have hxe:(ls.getD i []).getD k ⟨0,0⟩=x:=by rw[List.getD_eq_getElem?_getD,hx]; rfl
    have hz:¬ getS ss i k=0:=fun e=>by rw[e] at hb; simp at hb
    unfold passD at hp
    rw[hxe,hn,if_neg (fun h=>h.elim (by simp) hz)] at hp
    simp only at hp
    have hw:=walkD_in hla h1 i [s]
    rw[if_neg (by omega)] at hp
    have hg:giveD ls ss (walkD a i [s]).1.toNat ⟨x.rule,x.dot+1⟩ (getS ss i k)=ss:=by
      exact LeS.anti (Eq.mp (congrArg (LeS _) hp) (giveAll_ok hi _ _ _ _ (giveD_shp hs hw _ _)).2) (giveD_le hs hw _ _)
    rw[hg] at hp
    have:=giveAll_fix hi _ _ _ _ hs hp q hq hL
    exact giveD_fix hs hi this hj u (ofD_mono (twoPow_sub hb) _ _ hu)
def sumB (l:List BV):Nat:=(l.map BitVec.toNat).sum
def sumS (ss:Sets):Nat:=(ss.map sumB).sum
theorem sumB_le:∀ {a b:List BV},a.length=b.length→(∀ k:Nat,SubS (a.getD k 0) (b.getD k 0))→sumB a≤sumB b∧(a≠b→sumB a < sumB b)
  | [],[],_,_=>⟨Nat.le_refl _,fun h=>absurd rfl h⟩
  | [],_ :: _,h,_=>by simp at h
  | _ :: _,[],h,_=>by simp at h
  | x :: a,y :: b,h,hs=>by
    obtain ⟨h1,h2⟩:=sumB_le (a:=a) (b:=b) (by simpa using h) fun k=>by simpa using hs (k+1)
    have h3:SubS x y:=by simpa using hs 0
    have e:=subS_or.2 h3
    have h4:x.toNat≤y.toNat:=by have:=or_le y x; rw[BitVec.or_comm] at e; rw[e] at this; exact this
    simp only[sumB,List.map_cons,List.sum_cons] at h1 h2 ⊢
    refine ⟨by omega,fun hne=>?_⟩
    by_cases hxy:x=y
    · subst hxy
      have:=h2 fun e=>hne (by rw[e])
      omega
    · have:x.toNat≠y.toNat:=fun e=>hxy (BitVec.eq_of_toNat_eq e)
      omega
theorem sumS_le:∀ {a b:Sets},LeS a b→sumS a≤sumS b∧(a≠b→sumS a < sumS b)
  | [],[],_=>⟨Nat.le_refl _,fun h=>absurd rfl h⟩
  | [],_ :: _,h=>by have:=h.1; simp at this
  | _ :: _,[],h=>by have:=h.1; simp at this
  | x :: a,y :: b,h=>by
    obtain ⟨h1,h2⟩:=sumS_le (a:=a) (b:=b) ⟨by simpa using h.1,fun i=>by simpa using h.2.1 (i+1),fun i k=>by simpa [getS] using h.2.2 (i+1) k⟩
    obtain ⟨h3,h4⟩:=sumB_le (a:=x) (b:=y) (by simpa using h.2.1 0) fun k=>by simpa [getS] using h.2.2 0 k
    simp only[sumS,List.map_cons,List.sum_cons] at h1 h2 ⊢
    refine ⟨by omega,fun hne=>?_⟩
    by_cases hxy:x=y
    · subst hxy
      have:=h2 fun e=>hne (by rw[e])
      omega
    · have:=h4 hxy
      omega
theorem sumB_max:∀ l:List BV,sumB l≤l.length * 4294967296
  | []=>by simp[sumB]
  | x :: l=>by
    have:=sumB_max l
    have hx:=x.isLt
    simp only[sumB,List.map_cons,List.sum_cons,List.length_cons] at this ⊢
    omega
def maxS (ls:List (List LrI)):Nat:=(ls.map fun l=>l.length * 4294967296).sum
theorem sumS_max:∀ {ls:List (List LrI)} {ss:Sets},Shp ls ss→sumS ss≤maxS ls
  | [],[],_=>Nat.le_refl _
  | [],_ :: _,h=>by have:=h.1; simp at this
  | _ :: _,[],h=>by have:=h.1; simp at this
  | l :: ls,x :: ss,h=>by
    have h1:=sumS_max (ls:=ls) (ss:=ss) ⟨by simpa using h.1,fun i=>by simpa using h.2 (i+1)⟩
    have h2:=sumB_max x
    have h3:x.length=l.length:=by simpa using h.2 0
    simp only[sumS,maxS,List.map_cons,List.sum_cons] at h1 ⊢
    rw[h3] at h2
    omega
end
theorem fine_start {g:Gram} (hf:g.Fine) : -100≤g.start∧g.start≤100:=by
  have:=hf.start0; have:=hf.start; have:=hf.nons; omega
theorem pc_nextF (g:Gram) (hf:g.Fine) (x:LrI) (hx:HasLr g x):PCall Tryz.prog 63 [.agg (encG g),.agg (encLr x)] (.tup [gi (nextLr g x).1,gb (nextLr g x).2]) :=
  pc_next15 g (fine_start hf) x hx.1 hx.2 (by have:=rightLr_len hf hx.1; omega)
theorem lr_get {l:List LrI} {i:Nat} {y:LrI} (h:l[i]?=some y):(lrE l).getD i []=[gi y.rule,gi y.dot]:=by simp[lrE,List.getD_eq_getElem?_getD,h,encLr]
theorem lrE_len (l:List LrI):(lrE l).length=l.length:=by simp[lrE]
theorem nextLr_neg {g:Gram} {x:LrI} {s:Int} {b:Bool} (hf:g.Fine) (hx:HasLr g x) (h:nextLr g x=(s,b)) : -1000≤s∧s≤1000:=by
  have hsym:∀ s∈rightLr g x.rule,-1000≤s∧s≤1000:=by
    intro s hs
    unfold rightLr at hs
    split at hs
    · simp at hs; subst hs; have:=fine_start hf; omega
    · have hR:g.rules[x.rule.toNat]?=some (ruleD g x.rule):=by unfold ruleD; exact getD_some (by have:=hx.1; omega)
      have h1:=hf.sym _ (List.mem_of_getElem? hR) s hs
      have:=hf.terms; have:=hf.nons
      unfold hasG at h1
      split at h1 <;> simp at h1 <;> omega
  unfold nextLr at h
  split at h
  · simp at h; omega
  · rename_i hd
    simp only[Prod.mk.injEq] at h
    have hlt:x.dot.toNat < (rightLr g x.rule).length:=by have:=hx.2; omega
    rw[← h.1]
    exact hsym _ (List.mem_of_getElem? (getD_some hlt))
def B_gerundref15_closure_0:SC :=
  .seq (.seq (ab [aa 12 6,aa 13 1,aj 14 13,ak 15 .lss 12 14]) <|
  .cond (.tmp 15) (.skip) (.exit 0)) <|
  .seq (.block 1 (ab [aa 18 5,aa 19 1,aa 20 6,av 21 2 19 20,au 22 2 21,ao 23 119 [18,22],aa 5 23])) <|
  ab [aa 16 6,ah 17 .add 16 1,aa 6 17]
def B_gerundref15_closure_1:SC :=
  .seq (.seq (.region false [⟨none,[aa 41 9,aa 42 41]⟩,⟨(some (42,true)),[aa 43 8,ah 44 .lss 43 0]⟩,⟨none,[az 45 42 44,aa 46 45]⟩,⟨(some (46,true)),[aa 47 11,af 48 2 2,ae 49 48,aj 50 49,ak 51 .lss 47 50]⟩,⟨none,[az 52 46 51]⟩]) <|
  .cond (.tmp 52) (.skip) (.exit 4)) <|
  .seq (.block 5 (.seq (ab [af 55 2 2,ae 56 55,aa 57 11,av 58 3 56 57,af 59 0 58,ae 60 59,aa 61 8,((some 62),.op (.arith .sub (.val (.val (.int .i64 (-1)))) (.tmp 61))),ak 63 .eql 60 62]) <|
  .cond (.tmp 63) (ab [aa 64 5,aa 65 11,((some 66),.op (.build [(.val (.int .i64 0)),(.val (.int .i64 0))] [(0,1,(.tmp 65))])),ao 67 119 [64,66],aa 5 67]) (.skip))) <|
  ab [aa 53 11,ah 54 .add 53 1,aa 11 54]
def B_gerundref15_closure_2:SC :=
  .seq (.seq (ab [aa 24 7,aa 25 5,aj 26 25,ak 27 .lss 24 26]) <|
  .cond (.tmp 27) (.skip) (.exit 2)) <|
  .seq (.block 3 (.seq (ab [au 31 4 2,aa 32 5,aa 33 7,av 34 2 32 33,au 35 2 34,ao 36 63 [31,35],aa 30 36,aA 37 0 30,aA 38 1 30,aa 8 37,aa 9 38]) <|
  .seq (ab [aa 39 5,aj 40 39,aa 10 40]) <|
  .seq (.seq (ab [ai 11 0]) <|
  .block 4 (.loop B_gerundref15_closure_1)) <|
  .seq (ab [aa 68 5,aj 69 68,aa 70 10,ak 71 .gtr 69 70]) <|
  .cond (.tmp 71) (ab [ai 7 (-1)]) (.skip))) <|
  ab [aa 28 7,ah 29 .add 28 1,aa 7 29]
def S_gerundref15_closure:SF:=⟨.seq (ab [aC 2 0,((some 4),.op (.mov (.val (.emp 1))))]) <|
  .seq (ab [((some 5),.op (.mov (.val (.emp 1))))]) <|
  .seq (.seq (ab [ai 6 0]) <|
  .block 0 (.loop B_gerundref15_closure_0)) <|
  .seq (.seq (ab [ai 7 0]) <|
  .block 2 (.loop B_gerundref15_closure_2)) <|
  .seq (ab [aa 72 5,aa 4 72]) <|
  .ret,
  [.tmp 4],73⟩
theorem S_gerundref15_closure_ok:compF Tryz.prog 72 [2]=some S_gerundref15_closure:=by kernel_rfl
def B_gerundref15_moved_0:SC :=
  .seq (.seq (ab [aa 11 8,aa 12 1,aj 13 12,ak 14 .lss 11 13]) <|
  .cond (.tmp 14) (.skip) (.exit 0)) <|
  .seq (.block 1 (.seq (ab [au 18 4 3,aa 19 1,aa 20 8,av 21 2 19 20,au 22 2 21,ao 23 63 [18,22],aa 17 23,aA 24 0 17,aA 25 1 17,aa 9 24,aa 10 25]) <|
  .seq (.region false [⟨none,[aa 26 10,aa 27 26]⟩,⟨(some (27,true)),[aa 28 9,aa 29 2,ak 30 .eql 28 29]⟩,⟨none,[az 31 27 30]⟩]) <|
  .cond (.tmp 31) (ab [aa 32 7,aa 33 1,aa 34 8,av 35 2 33 34,af 36 0 35,ae 37 36,aa 38 1,aa 39 8,av 40 2 38 39,af 41 1 40,ae 42 41,ah 43 .add 42 1,((some 44),.op (.build [(.val (.int .i64 0)),(.val (.int .i64 0))] [(0,1,(.tmp 37)),(1,1,(.tmp 43))])),ao 45 119 [32,44],aa 7 45]) (.skip))) <|
  ab [aa 15 8,ah 16 .add 15 1,aa 8 16]
def S_gerundref15_moved:SF:=⟨.seq (ab [aC 3 0,((some 6),.op (.mov (.val (.emp 1))))]) <|
  .seq (ab [((some 7),.op (.mov (.val (.emp 1))))]) <|
  .seq (.seq (ab [ai 8 0]) <|
  .block 0 (.loop B_gerundref15_moved_0)) <|
  .seq (ab [aa 46 7,aa 6 46]) <|
  .ret,
  [.tmp 6],47⟩
theorem S_gerundref15_moved_ok:compF Tryz.prog 78 [3]=some S_gerundref15_moved:=by kernel_rfl
def B_gerundref15_Items_0:SC :=
  .seq (.seq (ab [aa 11 5,aa 12 0,aj 13 12,ak 14 .lss 11 13]) <|
  .cond (.tmp 14) (.skip) (.exit 0)) <|
  .seq (.block 1 (.seq (ab [aa 17 0,aa 18 5,av 19 2 17 18,au 20 2 19,aa 21 1,aa 22 5,av 23 2 21 22,au 24 2 23,((some 25),.op (.old (.binOp .neq 55 (.tmp 20) (.tmp 24) 55) 4))]) <|
  .cond (.tmp 25) (.seq (ab [aw 4 false]) <|
  .ret) (.skip))) <|
  ab [aa 15 5,ah 16 .add 15 1,aa 5 16]
def S_gerundref15_Items:SF:=⟨.seq (ab [aw 4 false]) <|
  .seq (.seq (ab [aa 6 0,aj 7 6,aa 8 1,aj 9 8,ak 10 .neq 7 9]) <|
  .cond (.tmp 10) (.seq (ab [aw 4 false]) <|
  .ret) (.skip)) <|
  .seq (.seq (ab [ai 5 0]) <|
  .block 0 (.loop B_gerundref15_Items_0)) <|
  .seq (ab [aw 4 true]) <|
  .ret,
  [.tmp 4],26⟩
theorem S_gerundref15_Items_ok:compF Tryz.prog 29 []=some S_gerundref15_Items:=by kernel_rfl
def S_gerundref15_symbol:SF:=⟨.seq (ab [aC 2 0,ai 4 0]) <|
  .seq (.seq (ab [aa 5 1,af 6 0 2,ae 7 6,aj 8 7,ak 9 .lss 5 8]) <|
  .cond (.tmp 9) (.seq (ab [aa 10 1,aa 4 10]) <|
  .ret) (.skip)) <|
  .seq (ab [aa 11 1,af 12 0 2,ae 13 12,aj 14 13,ak 15 .sub 11 14,((some 16),.op (.arith .sub (.val (.val (.int .i64 (-1)))) (.tmp 15))),aa 4 16]) <|
  .ret,
  [.tmp 4],17⟩
theorem S_gerundref15_symbol_ok:compF Tryz.prog 77 [2]=some S_gerundref15_symbol:=by kernel_rfl
def DoneC (g:Gram) (out:List LrI) (x:LrI):Prop:=∀ (s:Int) (k:Nat) (R:Rule),nextLr g x=(s,true)→s < 0→g.rules[k]?=some R→R.left = -1 - s→(⟨k,0⟩:LrI)∈out
def CloI (g:Gram) (l:List LrI) (H:View) (m:Nat) (T:Env) (H':View):Prop:=∃ (i:Nat) (r:V) (out:List LrI),m=(300 - out.length) * 1000+(300 - i)∧i≤out.length∧OwnA H' r 2 (lrE out)∧Fresh H H' r∧SortLr out∧(∀ x∈out,CloM g l x)∧(∀ x∈l,x∈out)∧(∀ j x,j < i→out[j]?=some x→DoneC g out x) ∧
  T 2=.fptr (encG g) 0∧T 5=r∧T 7=gi i
set_option maxHeartbeats 8000000 in
theorem mo_closure15 (g:Gram) (hf:g.Fine) (l:List LrI) (hl:∀ x∈l,HasLr g x) (hn:l.length≤10000) (u:V) (H:View) (ho:OwnA H u 2 (lrE l)):MCall Tryz.prog 72 [.agg (encG g),u] H fun r H'=>OwnA H' r 2 (lrE (closD g l))∧Fresh H H' r:=by
  refine MCall.of mixed S_gerundref15_closure_ok ?_
  have hlen:lenV u=some l.length:=by rw[ho.len]; simp[lrE]
  have hru:=hf.rules
  simp (disch:=omega) only [↓wr,wq,oneV,Nat.reduceAdd,Nat.reduceLeDiff,S_gerundref15_closure,encG,encS]
  refine LoopG.up l.length (fun i T H'=>∃ (r:V) (out:List LrI),OwnA H' r 2 (lrE out)∧Fresh H H' r∧SortLr out∧(∀ x,x∈out↔x∈l.take i)∧out.length≤287∧T 1=u∧T 2=.fptr (encG g) 0∧T 5=r∧T 6=gi i)
    ⟨.emp 1,[],.nil,.emp,.nil,by simp,by simp,rfl,rfl,rfl,rfl⟩ ?_
  rintro i k T H' hk ⟨r,out,o1,fr,hso,hm,hle,t1,t2,t5,t6⟩
  simp (disch:=omega) only [↓wr,↓reduceIte,wq,intOp,goI,Nat.reduceEqDiff,B_gerundref15_closure_0,t1,t6,hlen]
  refine GoB.dec (fun hc=>?_) (fun hc=>?_)
  · have hy:l[i]?=some (l[i]'(by omega)):=List.getElem?_eq_getElem (by omega)
    have htk:l.take (i+1)=l.take i ++ [l[i]'(by omega)]:=by rw[List.take_add_one,hy]; rfl
    generalize l[i]'(by omega)=y at hy htk
    obtain ⟨id,hu,hid⟩:=ho.sl (by simp[lrE]; omega)
    have hid':H' id=.arr 2 (lrE l):=by rw[(fr id (by rw[hid]; simp)).1,hid]
    simp (disch:=omega) only [↓wr,↓reduceIte,wq,Nat.reduceEqDiff,Nat.reduceAdd,Nat.reduceLeDiff,t1,t5,t6,hu,hid',lr_get hy]
    refine ⟨by first | omega | (simp[lrE]; omega),by first | omega | (simp[lrE]; omega),?_⟩
    refine CallG.loud ((mo_put15 r out (by omega) y H' o1).mono ?_)
    rintro r2 H2 ⟨o2,l2⟩
    simp (disch:=omega) only [↓wr,↓reduceIte,wq,intOp,Nat.reduceEqDiff,reduceCtorEq,t6]
    have hmm:∀ x,x∈putLr out y↔x∈l.take (i+1):=fun x=>by
      rw[mem_putLr,htk,List.mem_append,hm,List.mem_singleton,or_comm]
    have hs2:=putLr_sort (x:=y) hso
    exact up_next hk (by omega) ⟨r2,putLr out y,o2,fr.step l2,hs2,hmm,sort_len hf hs2 (fun x hx=>hl x (List.mem_of_mem_take ((hmm x).1 hx))),t1,t2,rfl,rfl⟩
  rw[List.take_of_length_le (by omega)] at hm
  simp (disch:=omega) only [↓wr,↓reduceIte,wq,Nat.reduceEqDiff,reduceCtorEq]
  refine LoopG.intro (CloI g l H) ((300 - out.length) * 1000+300)
    ⟨0,r,out,by omega,Nat.zero_le _,o1,fr,hso,fun x hx=>.base ((hm x).1 hx),fun x hx=>(hm x).2 hx,fun j x hj=>by omega,t2,t5,rfl⟩ ?_
  clear o1 fr hso hm hle t1 t2 t5 t6 hc hk
  rintro m T1 H1 ⟨i,r,out,rfl,hi,o1,fr,hso,hcl,hba,hdn,t2,t5,t7⟩
  have hhas:∀ x∈out,HasLr g x:=fun x hx=>(hcl x hx).has hl
  have hle:=sort_len hf hso hhas
  have hlr:lenV r=some out.length:=by rw[o1.len,lrE_len]
  simp (disch:=omega) only [↓wr,↓reduceIte,wq,intOp,goI,Nat.reduceEqDiff,Int.reduceNeg,reduceCtorEq,B_gerundref15_closure_2,t5,t7,hlr]
  refine GoB.dec (fun hc=>?_) (fun hc=>?_)
  · have hy:out[i]?=some (out[i]'(by omega)):=List.getElem?_eq_getElem (by omega)
    have hyH:=hhas _ (List.getElem_mem (show i < out.length by omega))
    have hyC:=hcl _ (List.getElem_mem (show i < out.length by omega))
    generalize out[i]'(by omega)=y at hy hyH hyC
    have h1:=pc_nextF g hf y hyH
    cases hny:nextLr g y with
    | mk s okb =>
    have hsb:=nextLr_neg hf hyH hny
    rw[hny] at h1
    obtain ⟨id,hu,hid⟩:=o1.sl (by simp[lrE]; omega)
    rw[lrE_len] at hu
    simp only[encG,encS,encLr] at h1
    simp (disch:=omega) only [↓wr,↓reduceIte,wq,Nat.reduceEqDiff,Nat.reduceAdd,Nat.reduceLeDiff,Int.reduceNeg,t2,t5,t7,hu,hid,lr_get hy,encG,encS]
    refine ⟨by first | omega | (simp[lrE]; omega),by first | omega | (simp[lrE]; omega),?_⟩
    refine CallG.pure h1 (by kernel_rfl) ?_
    simp (disch:=omega) only [↓wr,↓reduceIte,wq,goI,Nat.reduceEqDiff,Nat.reduceAdd,Nat.reduceLT,Int.reduceNeg,t5,hu]
    refine LoopG.up g.rules.length (fun k T H'=>∃ (r2:V) (out2:List LrI),OwnA H' r2 2 (lrE out2)∧Fresh H H' r2∧SortLr out2∧(∀ x∈out2,CloM g l x)∧(∀ x∈out,x∈out2)∧out.length≤out2.length∧(out2.length=out.length→out2=out) ∧
      (∀ (q:Nat) (R:Rule),q < k→okb=true→s < 0→g.rules[q]?=some R→R.left = -1 - s→(⟨q,0⟩:LrI)∈out2)∧T 2=.fptr (encG g) 0∧T 5=r2∧T 7=gi i∧T 8=gi s∧T 9=gb okb∧T 10=gi out.length∧T 11=gi k)
      ⟨r,out,o1,fr,hso,hcl,fun x hx=>hx,Nat.le_refl _,fun _=>rfl,fun q R hq=>by omega,t2,by rw[← hu]; exact t5,t7,rfl,rfl,rfl,rfl⟩ ?_
    clear o1 fr t2 t5 t7 hid hu
    rintro k j T2 H2 hk ⟨r2,out2,o2,fr2,hso2,hcl2,hsub,hlen2,hsame,hall,t2,t5,t7,t8,t9,t10,t11⟩
    have hhas2:∀ x∈out2,HasLr g x:=fun x hx=>(hcl2 x hx).has hl
    have hle2:=sort_len hf hso2 hhas2
    have hlr2:lenV r2=some out2.length:=by rw[o2.len,lrE_len]
    have more:out.length < out2.length→∀ T':Env,T' 2=.fptr (encG g) 0→T' 5=r2→T' 7=gi 0→∃ k',k' < (300 - out.length) * 1000+(300 - i)∧CloI g l H k' T' H2:=fun h T' e2 e5 e7 =>
      ⟨(300 - out2.length) * 1000+300,by omega,0,r2,out2,by omega,Nat.zero_le _,o2,fr2,hso2,hcl2,fun x hx=>hsub x (hba x hx),fun j x hj=>by omega,e2,e5,e7⟩
    have stay:(okb=true→s < 0→g.rules.length≤k)→¬ out.length < out2.length→∀ T':Env,T' 2=.fptr (encG g) 0→T' 5=r2→T' 7=gi ((i:Int)+1)→∃ k',k' < (300 - out.length) * 1000+(300 - i)∧CloI g l H k' T' H2:=fun hend h T' e2 e5 e7=>by
      have e:=hsame (by omega)
      subst e
      refine ⟨(300 - out2.length) * 1000+(300 - (i+1)),by omega,i+1,r2,out2,rfl,by omega,o2,fr2,hso2,hcl2,hba,fun j x hj hx=>?_,e2,e5,e7⟩
      rcases Nat.lt_or_ge j i with hji | hji
      · exact hdn j x hji hx
      · have:j=i:=by omega
        subst this
        rw[hy] at hx
        simp only[Option.some.injEq] at hx
        subst hx
        intro s' q R h1 h2 h3 h4
        rw[hny] at h1
        simp only[Prod.mk.injEq] at h1
        obtain ⟨rfl,rfl⟩:=h1
        have:=(List.getElem?_eq_some_iff.1 h3).1
        exact hall q R (by have:=hend rfl h2; omega) rfl h2 h3 h4
    cases okb with
    | false =>
      simp (disch:=omega) only [↓wr,↓reduceIte,wq,intOp,goI,Nat.reduceEqDiff,Int.reduceNeg,reduceCtorEq,B_gerundref15_closure_1,t5,t7,t9,t10,hlr2]
      refine GoB.dec (fun hg=>?_) (fun hg=>?_)
      · simp (disch:=omega) only [↓wr,↓reduceIte,wq,intOp,Nat.reduceEqDiff,Int.reduceNeg,reduceCtorEq,t5]
        exact more (by omega) _ t2 t5 rfl
      · simp (disch:=omega) only [↓wr,↓reduceIte,wq,intOp,Nat.reduceEqDiff,reduceCtorEq,t5,t7]
        exact stay (fun h=>by simp at h) (by omega) _ t2 t5 rfl
    | true =>
      simp (disch:=omega) only [↓wr,↓reduceIte,wq,intOp,goI,Nat.reduceEqDiff,Int.reduceNeg,B_gerundref15_closure_1,t8,t9,encG]
      refine GoB.dec (fun hneg=>?_) (fun hneg=>?_)
      · simp (disch:=omega) only [↓wr,↓reduceIte,wq,intOp,goI,Nat.reduceEqDiff,Nat.reduceAdd,Nat.reduceLT,Int.reduceNeg,t2,t11,encG]
        refine GoB.dec (fun hkl=>?_) (fun hkl=>?_)
        · have hR:g.rules[k]?=some (g.rules[k]'(by omega)):=List.getElem?_eq_getElem (by omega)
          have hL:=hf.left _ (List.getElem_mem (show k < g.rules.length by omega))
          generalize g.rules[k]'(by omega)=R at hR hL
          simp (disch:=omega) only [↓wr,↓reduceIte,wq,intOp,Nat.reduceEqDiff,Nat.reduceAdd,Nat.reduceLT,Int.reduceNeg,t2,t8,t11,encG,encR,List.getElem?_map,hR]
          refine GoB.eq (fun he=>?_) (fun he=>?_)
          · simp (disch:=omega) only [↓wr,↓reduceIte,wq,splice,sBuild,Nat.reduceEqDiff,Nat.reduceAdd,Nat.reduceLeDiff,Int.reduceNeg,t5,t11]
            refine CallG.loud ((mo_put15 r2 out2 (by omega) ⟨k,0⟩ H2 o2).mono ?_)
            rintro r3 H3 ⟨o3,l3⟩
            simp (disch:=omega) only [↓wr,↓reduceIte,wq,intOp,Nat.reduceEqDiff,Int.reduceNeg,reduceCtorEq,t7,t11]
            have hnew:CloM g l ⟨k,0⟩:=.step hyC hny hneg hR he
            refine up_next hk (by omega) ⟨r3,putLr out2 ⟨k,0⟩,o3,fr2.step l3,putLr_sort hso2,fun x hx=>?_,fun x hx=>mem_putLr.2 (.inr (hsub x hx)),by have:=putLr_len out2 ⟨k,0⟩; omega,fun h=>?_,fun q R' hq h2 h3 h4=>?_,t2,rfl,t7,t8,t9,t10,rfl⟩
            · rcases mem_putLr.1 hx with rfl | hx
              · exact hnew
              · exact hcl2 x hx
            · have hin:(⟨k,0⟩:LrI)∈out2:=Classical.byContradiction fun hno=>by
                have:=putLr_grow hno; omega
              rw[putLr_same hso2 hin] at h ⊢
              exact hsame h
            · rcases Nat.lt_or_ge q k with hqk | hqk
              · exact mem_putLr.2 (.inr (hall q R' hqk rfl h2 h3 h4))
              · have:q=k:=by omega
                subst this
                exact mem_putLr.2 (.inl rfl)
          · simp (disch:=omega) only [↓wr,↓reduceIte,wq,intOp,Nat.reduceEqDiff,Int.reduceNeg,reduceCtorEq,t5,t7,t11]
            refine up_next hk (by omega) ⟨r2,out2,o2,fr2,hso2,hcl2,hsub,hlen2,hsame,fun q R' hq h2 h3 h4=>?_,t2,t5,t7,t8,t9,t10,rfl⟩
            rcases Nat.lt_or_ge q k with hqk | hqk
            · exact hall q R' hqk rfl h2 h3 h4
            · have:q=k:=by omega
              subst this
              rw[hR] at h3
              simp only[Option.some.injEq] at h3
              subst h3
              exact absurd h4 he
        · simp (disch:=omega) only [↓wr,↓reduceIte,wq,intOp,Nat.reduceEqDiff,Int.reduceNeg,reduceCtorEq,t5,t7,t10,hlr2]
          refine GoB.dec (fun hg=>?_) (fun hg=>?_)
          · simp (disch:=omega) only [↓wr,↓reduceIte,wq,intOp,Nat.reduceEqDiff,Int.reduceNeg,reduceCtorEq,t5]
            exact more (by omega) _ t2 t5 rfl
          · simp (disch:=omega) only [↓wr,↓reduceIte,wq,intOp,Nat.reduceEqDiff,reduceCtorEq,t5,t7]
            exact stay (fun _ _=>by omega) (by omega) _ t2 t5 rfl
      · simp (disch:=omega) only [↓wr,↓reduceIte,wq,intOp,Nat.reduceEqDiff,Int.reduceNeg,reduceCtorEq,t5,t7,t10,hlr2]
        refine GoB.dec (fun hg=>?_) (fun hg=>?_)
        · simp (disch:=omega) only [↓wr,↓reduceIte,wq,intOp,Nat.reduceEqDiff,Int.reduceNeg,reduceCtorEq,t5]
          exact more (by omega) _ t2 t5 rfl
        · simp (disch:=omega) only [↓wr,↓reduceIte,wq,intOp,Nat.reduceEqDiff,reduceCtorEq,t5,t7]
          exact stay (fun _ h=>absurd h hneg) (by omega) _ t2 t5 rfl
  · simp (disch:=omega) only [↓wr,↓reduceIte,wq,Nat.reduceEqDiff,reduceCtorEq,t5]
    have hi2:i=out.length:=by omega
    rw[closD_is hf hl hso hcl hba (fun x hx s k R h1 h2 h3 h4=>by
      obtain ⟨j,hj,e⟩:=List.mem_iff_getElem.1 hx
      exact hdn j x (by omega) (by rw[List.getElem?_eq_getElem hj,e]) s k R h1 h2 h3 h4)]
    exact ⟨o1,fr⟩
set_option maxHeartbeats 8000000 in
theorem mo_moved15 (g:Gram) (hf:g.Fine) (l:List LrI) (hs:SortLr l) (hl:∀ x∈l,HasLr g x) (s:Int) (u:V) (H:View) (ho:OwnA H u 2 (lrE l)):MCall Tryz.prog 78 [.agg (encG g),u,gi s] H fun r H'=>OwnA H' r 2 (lrE (movD g l s))∧Fresh H H' r:=by
  refine MCall.of mixed S_gerundref15_moved_ok ?_
  have hlen:lenV u=some l.length:=by rw[ho.len]; simp[lrE]
  have hle:=sort_len hf hs hl
  simp (disch:=omega) only [↓wr,wq,oneV,Nat.reduceAdd,Nat.reduceLeDiff,S_gerundref15_moved,encG,encS]
  refine LoopG.up l.length (fun i T H'=>∃ (r:V),OwnA H' r 2 (lrE (movD g (l.take i) s))∧Fresh H H' r∧T 1=u∧T 2=gi s∧T 3=.fptr (encG g) 0∧T 7=r∧T 8=gi i)
    ⟨.emp 1,.nil,.emp,rfl,rfl,rfl,rfl,rfl⟩ ?_
  rintro i k T H' hk ⟨r,o1,fr,t1,t2,t3,t7,t8⟩
  simp (disch:=omega) only [↓wr,↓reduceIte,wq,intOp,goI,Nat.reduceEqDiff,reduceCtorEq,B_gerundref15_moved_0,t1,t8,hlen]
  refine GoB.dec (fun hc=>?_) (fun hc=>?_)
  · have hy:l[i]?=some (l[i]'(by omega)):=List.getElem?_eq_getElem (by omega)
    have hyH:=hl _ (List.getElem_mem (show i < l.length by omega))
    have htk:=movD_take (g:=g) hs (show l[i]?=some (l[i]'(by omega)) from hy) s
    generalize l[i]'(by omega)=y at hy hyH htk
    have h1:=pc_nextF g hf y hyH
    cases hny:nextLr g y with
    | mk q okb =>
    rw[hny] at h1
    obtain ⟨id,hu,hid⟩:=ho.sl (by simp[lrE]; omega)
    have hid':H' id=.arr 2 (lrE l):=by rw[(fr id (by rw[hid]; simp)).1,hid]
    rw[lrE_len] at hu
    have hdot:=hyH.2
    have h6:=rightLr_len hf hyH.1
    have hml:=movD_len (g:=g) (l:=l.take i) (s:=s)
    simp only[List.length_take] at hml
    simp only[encG,encS,encLr] at h1
    simp (disch:=omega) only [↓wr,↓reduceIte,wq,Nat.reduceEqDiff,Nat.reduceAdd,Nat.reduceLeDiff,t1,t3,t8,hu,hid',lr_get hy,encG,encS]
    refine ⟨by first | omega | (simp[lrE]; omega),by first | omega | (simp[lrE]; omega),?_⟩
    refine CallG.pure h1 (by kernel_rfl) ?_
    have skip:¬ nextLr g y=(s,true)→∀ T':Env,T' 1=u→T' 2=gi s→T' 3=.fptr (encG g) 0→T' 7=r→T' 8=gi ((i:Int)+1)→∃ k',k' < k∧UpN l.length k' (fun i T H'=>∃ (r:V),OwnA H' r 2 (lrE (movD g (l.take i) s))∧Fresh H H' r∧T 1=u∧T 2=gi s∧T 3=.fptr (encG g) 0∧T 7=r∧T 8=gi i) T' H':=fun hne T' e1 e2 e3 e7 e8=>by
      rw[if_neg hne] at htk
      exact up_next hk (by omega) ⟨r,by rw[htk]; exact o1,fr,e1,e2,e3,e7,e8⟩
    cases okb with
    | false =>
      simp (disch:=omega) only [↓wr,↓reduceIte,wq,intOp,Nat.reduceEqDiff,Nat.reduceAdd,Nat.reduceLT,reduceCtorEq,t7,t8]
      exact skip (by rw[hny]; simp) _ t1 t2 t3 t7 rfl
    | true =>
      simp (disch:=omega) only [↓wr,↓reduceIte,wq,intOp,Nat.reduceEqDiff,Nat.reduceAdd,Nat.reduceLT,t2]
      refine GoB.eq (fun he=>?_) (fun he=>?_)
      · simp (disch:=omega) only [↓wr,↓reduceIte,wq,intOp,splice,sBuild,Nat.reduceEqDiff,Nat.reduceAdd,Nat.reduceLT,Nat.reduceLeDiff,t1,t7,t8,hu,hid',lr_get hy]
        refine ⟨by first | omega | (simp[lrE]; omega),by first | omega | (simp[lrE]; omega),?_⟩
        refine ⟨by first | omega | (simp[lrE]; omega),by first | omega | (simp[lrE]; omega),?_⟩
        refine CallG.loud ((mo_put15 r (movD g (l.take i) s) (by omega) ⟨y.rule,y.dot+1⟩ H' o1).mono ?_)
        rintro r2 H2 ⟨o2,l2⟩
        simp (disch:=omega) only [↓wr,↓reduceIte,wq,intOp,Nat.reduceEqDiff,reduceCtorEq,t8]
        rw[if_pos (by rw[hny,he])] at htk
        exact up_next hk (by omega) ⟨r2,by rw[htk]; exact o2,fr.step l2,t1,t2,t3,rfl,rfl⟩
      · simp (disch:=omega) only [↓wr,↓reduceIte,wq,intOp,Nat.reduceEqDiff,reduceCtorEq,t7,t8]
        exact skip (by rw[hny]; simp[he]) _ t1 t2 t3 t7 rfl
  · simp (disch:=omega) only [↓wr,↓reduceIte,wq,Nat.reduceEqDiff,reduceCtorEq,t7]
    rw[List.take_of_length_le (by omega)] at o1
    exact ⟨o1,fr⟩
theorem symL_bound {g:Gram} (hf:g.Fine) {i:Nat} (hi:i < g.terms.length+g.nons.length) : -100≤symL g i∧symL g i≤100:=by
  have:=hf.terms; have:=hf.nons
  unfold symL; split <;> omega
theorem pc_symbol15 (g:Gram) (hf:g.Fine) (i:Nat) (hi:i < g.terms.length+g.nons.length):PCall Tryz.prog 77 [.agg (encG g),gi i] (gi (symL g i)):=by
  refine PCall.val (by
    intro v hv; simp at hv
    rcases hv with rfl | rfl
    · exact tree_agg _ (encG_tree g)
    · exact .val _) fun H=>?_
  have:=hf.terms; have:=hf.nons
  refine MCall.of mixed S_gerundref15_symbol_ok ?_
  unfold symL
  simp (disch:=omega) only [↓wr,↓reduceIte,wq,oneV,intOp,goI,Nat.reduceEqDiff,Nat.reduceAdd,Nat.reduceLT,Nat.reduceLeDiff,Int.reduceNeg,S_gerundref15_symbol,encG,encS]
  refine GoB.dec (fun h=>?_) (fun h=>?_)
  · simp (disch:=omega) only [↓wr,↓reduceIte,wq,Nat.reduceEqDiff,Int.reduceNeg,reduceCtorEq]
    rw[if_pos (by omega)]
  · simp (disch:=omega) only [↓wr,↓reduceIte,wq,intOp,goI,Nat.reduceEqDiff,Nat.reduceAdd,Nat.reduceLT,Int.reduceNeg,reduceCtorEq]
    rw[if_neg (by omega)]
theorem lr_tree (l:List LrI):Tree (.fro (lrE l)):=tree_fro _ _ fun x _ v hv=>by simp[encLr] at hv; rcases hv with rfl | rfl <;> exact .val _
theorem pc_Items15 (a b:List LrI) (ha:Short a) (hb:Short b):PCall Tryz.prog 29 [.fro (lrE a),.fro (lrE b)] (gb (a == b)):=by
  unfold Short at ha hb
  refine PCall.val (by
    intro v hv; simp at hv
    rcases hv with rfl | rfl <;> exact lr_tree _) fun H=>?_
  refine MCall.of mixed S_gerundref15_Items_ok ?_
  simp (disch:=omega) only [↓wr,↓reduceIte,wq,oneV,intOp,goI,Nat.reduceEqDiff,Nat.reduceAdd,Nat.reduceLeDiff,reduceCtorEq,S_gerundref15_Items,lrE]
  refine GoB.ne (fun h=>?_) (fun h=>?_)
  · simp (disch:=omega) only [↓wr,↓reduceIte,wq,reduceCtorEq]
    have:(a == b)=false:=by simp; rintro rfl; exact h rfl
    rw[this]
  · simp (disch:=omega) only [↓wr,wq]
    refine LoopG.up a.length (fun i T H'=>a.take i=b.take i∧T 0=.fro (lrE a)∧T 1=.fro (lrE b)∧T 5=gi i) ⟨rfl,rfl,rfl,rfl⟩ ?_
    rintro i k T H' hk ⟨he,t0,t1,t5⟩
    simp (disch:=omega) only [↓wr,↓reduceIte,wq,intOp,goI,Nat.reduceEqDiff,reduceCtorEq,B_gerundref15_Items_0,t0,t5,lrE]
    refine GoB.dec (fun hc=>?_) (fun hc=>?_)
    · have hx:a[i]?=some (a[i]'(by omega)):=List.getElem?_eq_getElem (by omega)
      have hy:b[i]?=some (b[i]'(by omega)):=List.getElem?_eq_getElem (by omega)
      generalize a[i]'(by omega)=x at hx
      generalize b[i]'(by omega)=y at hy
      simp (disch:=omega) only [↓wr,↓reduceIte,wq,Nat.reduceEqDiff,Nat.reduceAdd,Nat.reduceLeDiff,reduceCtorEq,t0,t1,t5,lrE,List.getElem?_map,hx,hy,encLr]
      refine oldStructEq (xs:=#[.int .i64 x.rule,.int .i64 x.dot]) (ys:=#[.int .i64 y.rule,.int .i64 y.dot]) Tryz.underlying55 (by kernel_rfl) (by kernel_rfl) ?_ ?_ (fields_lr x y) (.inr ⟨rfl,rfl⟩) ?_
      · rfl
      · rfl
      rw[lr_eq0]
      simp (disch:=omega) only [↓wr,↓reduceIte,wq]
      refine GoB.dec (fun e2=>?_) (fun e2=>?_)
      · simp (disch:=omega) only [↓wr,↓reduceIte,wq,intOp,Nat.reduceEqDiff,reduceCtorEq,t5]
        exact up_next hk (by omega) ⟨by rw[List.take_add_one,List.take_add_one,he,hx,hy,e2],t0,t1,rfl⟩
      · simp (disch:=omega) only [↓wr,↓reduceIte,wq,intOp,Nat.reduceEqDiff,reduceCtorEq]
        have:(a == b)=false:=by
          simp; rintro rfl
          rw[hx] at hy; simp at hy; exact e2 hy
        rw[this]
    · simp (disch:=omega) only [↓wr,↓reduceIte,wq,Nat.reduceEqDiff,reduceCtorEq]
      rw[List.take_of_length_le (by omega),List.take_of_length_le (by omega)] at he
      rw[he,beq_self_eq_true]
def bvOf (p:Nat→Bool):Nat→BV
  | 0=>0
  | n+1=>if p n=true then bvOf p n ||| BitVec.twoPow 32 n else bvOf p n
theorem bvOf_bit (p:Nat→Bool):∀ (n i:Nat),n≤32→((bvOf p n).getLsbD i=true↔i < n∧p i=true)
  | 0,i,_=>by simp[bvOf]
  | n+1,i,h=>by
    have ih:=bvOf_bit p n i (by omega)
    rw[bvOf]
    split
    · rename_i hp
      rw[BitVec.getLsbD_or,Bool.or_eq_true,ih,BitVec.getLsbD_twoPow]
      simp only[Bool.and_eq_true,decide_eq_true_eq]
      constructor
      · rintro (⟨h1,h2⟩ | ⟨h1,rfl⟩)
        · exact ⟨by omega,h2⟩
        · exact ⟨by omega,hp⟩
      · rintro ⟨h1,h2⟩
        rcases Nat.lt_or_ge i n with h3 | h3
        · exact .inl ⟨h3,h2⟩
        · exact .inr ⟨by omega,by omega⟩
    · rename_i hp
      rw[ih]
      constructor
      · rintro ⟨h1,h2⟩; exact ⟨by omega,h2⟩
      · rintro ⟨h1,h2⟩
        refine ⟨?_,h2⟩
        rcases Nat.lt_or_ge i n with h3 | h3
        · exact h3
        · have:i=n:=by omega
          subst this; exact absurd h2 hp
structure PLook where
  rule:Int
  set:BV
  deriving DecidableEq
structure PConf where
  state:Int
  term:Int
  kind:Int
  rule:Int
  other:Int
  deriving DecidableEq
noncomputable def autoD (g:Gram):List StP × Int:=if isRed g=true then loopA g 302 0 startA else ([],1)
noncomputable def closL (g:Gram) (a:List StP):List (List LrI):=a.map fun s=>closD g s.ker
open Classical in
noncomputable def setL (g:Gram) (a:List StP) (i:Nat) (x:LrI):BV:=bvOf (fun t=>decide (LaM g (grown09 g false) a (closL g a) i x t)) 32
noncomputable def lookR (g:Gram) (a:List StP) (i:Nat):List PLook:=((closL g a).getD i []).filterMap fun x=>if (nextLr g x).2=false∧0≤x.rule then some ⟨x.rule,setL g a i x⟩ else none
noncomputable def lookL (g:Gram) (a:List StP):List (List PLook):=(List.range a.length).map (lookR g a)
noncomputable def lookD (g:Gram):List (List PLook) × Int:=if (autoD g).2=0 then (lookL g (autoD g).1,0) else ([],(autoD g).2)
def hasB (s:BV) (n:Int):Bool:=decide (s &&& bitD n≠0)
def rulesD (l:List PLook) (n:Int):List Int:=(l.filter fun x=>hasB x.set n).map PLook.rule
def levelG (g:Gram) (t:Int):Int:=match g.terms[t.toNat]? with
  | some x=>x.level
  | none=>0
def assocG (g:Gram) (t:Int):Int:=match g.terms[t.toNat]? with
  | some x=>x.assoc
  | none=>0
def settleD (g:Gram) (rule term:Int):Int :=
  if right09 g=false∨rule < 0∨(g.rules.length:Int)≤rule∨term < 0∨(g.terms.length:Int) < term then 0
  else if term=g.terms.length∨(ruleD g rule).prec < 0∨levelG g (ruleD g rule).prec=0∨levelG g term=0 then 4
  else if levelG g term < levelG g (ruleD g rule).prec∨levelG g (ruleD g rule).prec=levelG g term∧assocG g term=1 then 1
  else if levelG g (ruleD g rule).prec < levelG g term∨assocG g term=2 then 2
  else 3
def edgeC:List PEdg→Int→Option Cell
  | [],_=>none
  | e :: l,s=>if e.sym=s then some ⟨1,e.to⟩ else edgeC l s
def shiftD (g:Gram) (s:StP) (term:Int):Cell:=match edgeC s.edg term with
  | some c=>c
  | none=>if term=g.terms.length∧(⟨-1,1⟩:LrI)∈s.ker then ⟨3,0⟩ else ⟨0,0⟩
def confO (state term r0:Int) (l:List Int):List PConf:=l.map fun r=>⟨state,term,5,r,r0⟩
def cellTb (g:Gram) (s:StP) (l:List PLook) (state term:Int):Cell × List PConf:=match rulesD l term with
  | []=>(shiftD g s term,[])
  | r :: rs =>
    if (shiftD g s term).kind=0 then (⟨2,r⟩,confO state term r rs)
    else (if settleD g r term=1 then ⟨2,r⟩ else if settleD g r term=3 then ⟨0,0⟩ else shiftD g s term,confO state term r rs ++ [⟨state,term,settleD g r term,r,-1⟩])
def rowTb (g:Gram) (s:StP) (l:List PLook) (state:Int) (n:Nat):List Cell:=(List.range n).map fun (k:Nat)=>(cellTb g s l state k).1
def cofD (g:Gram) (s:StP) (l:List PLook) (state:Int) (n:Nat):List PConf:=(List.range n).flatMap fun (k:Nat)=>(cellTb g s l state k).2
def gotoD (a:List StP) (i:Int) (k:Int):Int:=if (walkD a i [-1 - k]).2=true then (walkD a i [-1 - k]).1 else -1
def gorD (g:Gram) (a:List StP) (i:Int):List Int:=(List.range g.nons.length).map fun (k:Nat)=>gotoD a i k
def tabD (g:Gram) (a:List StP) (l:List (List PLook)) (n:Nat):Tab:=⟨(List.range n).map fun (i:Nat)=>rowTb g (a.getD i noSt) (l.getD i []) i (g.terms.length+1),(List.range n).map fun (i:Nat)=>gorD g a i⟩
def conD (g:Gram) (a:List StP) (l:List (List PLook)) (n:Nat):List PConf:=(List.range n).flatMap fun (i:Nat)=>cofD g (a.getD i noSt) (l.getD i []) i (g.terms.length+1)
noncomputable def buildD (g:Gram):Tab × List PConf × Int:=if (autoD g).2=0 then (tabD g (autoD g).1 (lookD g).1 (autoD g).1.length,conD g (autoD g).1 (lookD g).1 (autoD g).1.length,0) else (⟨[],[]⟩,[],(autoD g).2)
structure AutI (g:Gram) (at_ i:Nat) (out:List StP):Prop where
  ker:∀ s∈out,SortLr s.ker∧s.ker≠[]∧∀ x∈s.ker,HasLr g x
  edg:∀ j s,out[j]?=some s→s.edg.length≤40∧(j=at_→s.edg.length≤i)∧(at_ < j→s.edg=[])
  to:∀ s∈out,∀ e∈s.edg,0≤e.to∧e.to < out.length
  sym:∀ s∈out,∀ e∈s.edg,-1000≤e.sym∧e.sym≤1000
theorem mem_modify {α:Type} {l:List α} {i:Nat} {f:α→α} {y:α} (h:y∈l.modify i f):y∈l∨∃ x,l[i]?=some x∧y=f x:=by
  obtain ⟨j,hj,e⟩:=List.mem_iff_getElem.1 h
  simp only[List.length_modify] at hj
  rw[List.getElem_modify] at e
  split at e
  · rename_i hij
    subst hij
    exact .inr ⟨l[i],List.getElem?_eq_getElem hj,e.symm⟩
  · exact .inl (e ▸ List.getElem_mem hj)
theorem stepA_len (g:Gram) (l:List LrI) (at_:Nat) (out:List StP) (i:Nat):out.length≤(stepA g l at_ out i).length∧(stepA g l at_ out i).length≤out.length+1:=by
  unfold stepA
  split
  · omega
  · split
    · simp
    · simp
theorem AutI.put {g:Gram} {at_ i:Nat} {out:List StP} (h:AutI g at_ i out) (hi:i < 40) {s:Int} (hs : -1000≤s∧s≤1000) {to:Int} (ht:0≤to∧to < out.length):AutI g at_ (i+1) (out.modify at_ fun x=>(⟨x.ker,x.edg ++ [⟨s,to⟩]⟩:StP)):=by
  refine ⟨fun y hy=>?_,fun j y hy=>?_,fun y hy e he=>?_,fun y hy e he=>?_⟩
  rotate_right
  · rcases mem_modify hy with hy | ⟨x,hx,rfl⟩
    · exact h.sym y hy e he
    · rcases List.mem_append.1 he with he | he
      · exact h.sym x (List.mem_of_getElem? hx) e he
      · simp at he; subst he; exact hs
  · rcases mem_modify hy with hy | ⟨x,hx,rfl⟩
    · exact h.ker y hy
    · exact h.ker x (List.mem_of_getElem? hx)
  · rw[List.getElem?_modify] at hy
    cases hx:out[j]? with
    | none=>rw[hx] at hy; simp at hy
    | some x =>
      rw[hx] at hy
      have h1:=h.edg j x hx
      by_cases e:at_=j
      · subst e
        simp at hy
        subst hy
        have:=h1.2.1 rfl
        refine ⟨by simp; omega,fun _=>by simp; omega,fun h=>by omega⟩
      · simp[e] at hy
        subst hy
        exact ⟨h1.1,fun h=>absurd h.symm e,h1.2.2⟩
  · rw[List.length_modify]
    rcases mem_modify hy with hy | ⟨x,hx,rfl⟩
    · exact h.to y hy e he
    · rcases List.mem_append.1 he with he | he
      · exact h.to x (List.mem_of_getElem? hx) e he
      · simp at he; subst he; exact ht
theorem AutI.up {g:Gram} {at_ i:Nat} {out:List StP} (h:AutI g at_ i out):AutI g at_ (i+1) out :=
  ⟨h.ker,fun j s hs=>by have:=h.edg j s hs; exact ⟨this.1,fun e=>by have:=this.2.1 e; omega,this.2.2⟩,h.to,h.sym⟩
theorem AutI.add {g:Gram} {at_ i:Nat} {out:List StP} (h:AutI g at_ i out) {k:List LrI} (hk:SortLr k∧k≠[]∧∀ x∈k,HasLr g x):AutI g at_ i (out ++ [⟨k,[]⟩]):=by
  refine ⟨fun y hy=>?_,fun j y hy=>?_,fun y hy e he=>?_,fun y hy e he=>?_⟩
  rotate_right
  · rcases List.mem_append.1 hy with hy | hy
    · exact h.sym y hy e he
    · simp at hy; subst hy; simp at he
  · rcases List.mem_append.1 hy with hy | hy
    · exact h.ker y hy
    · simp at hy; subst hy; exact hk
  · rcases Nat.lt_or_ge j out.length with hj | hj
    · rw[List.getElem?_append_left hj] at hy; exact h.edg j y hy
    · rw[List.getElem?_append_right hj] at hy
      cases hq:j - out.length with
      | zero=>rw[hq] at hy; simp at hy; subst hy; exact ⟨by simp,fun _=>by simp,fun _=>rfl⟩
      | succ q=>rw[hq] at hy; simp at hy
  · rcases List.mem_append.1 hy with hy | hy
    · have:=h.to y hy e he; simp; omega
    · simp at hy; subst hy; simp at he
theorem AutI.step {g:Gram} {l:List LrI} (hs:SortLr l) (hl:∀ x∈l,HasLr g x) {at_ i:Nat} {out:List StP} (h:AutI g at_ i out) (hi:i < 40):AutI g at_ (i+1) (stepA g l at_ out i):=by
  unfold stepA
  split
  · exact h.up
  · rename_i hne
    have hb : -1000≤symL g i∧symL g i≤1000:=by unfold symL; split <;> omega
    split
    · exact (h.add ⟨movD_sort _ hs,hne,movD_has hl⟩).put hi hb (by simp; omega)
    · have:=findD_lt out (movD g l (symL g i))
      exact h.put hi hb ⟨by omega,this⟩
theorem AutI.next {g:Gram} {at_ i:Nat} {out:List StP} (h:AutI g at_ i out):AutI g (at_+1) 0 out :=
  ⟨h.ker,fun j s hs=>by
    have:=h.edg j s hs
    exact ⟨this.1,fun e=>by have:=this.2.2 (by omega); simp[this],fun e=>this.2.2 (by omega)⟩,h.to,h.sym⟩
theorem AutI.row {g:Gram} {l:List LrI} (hs:SortLr l) (hl:∀ x∈l,HasLr g x) {at_:Nat} {out:List StP} (h:AutI g at_ 0 out):∀ n:Nat,n≤40→AutI g at_ n ((List.range n).foldl (stepA g l at_) out)∧out.length≤((List.range n).foldl (stepA g l at_) out).length∧((List.range n).foldl (stepA g l at_) out).length≤out.length+n
  | 0,_=>⟨h,Nat.le_refl _,Nat.le_refl _⟩
  | n+1,hn=>by
    obtain ⟨h1,h2,h3⟩:=AutI.row hs hl h n (by omega)
    rw[List.range_succ,List.foldl_append]
    simp only[List.foldl_cons,List.foldl_nil]
    have:=stepA_len g l at_ ((List.range n).foldl (stepA g l at_) out) n
    exact ⟨h1.step hs hl (by omega),by omega,by omega⟩
theorem startA_ok {g:Gram} : AutI g 0 0 startA:=by
  refine ⟨fun s hs=>?_,fun j s hs=>?_,fun s hs e he=>?_,fun s hs e he=>?_⟩
  rotate_right
  · simp[startA] at hs; subst hs; simp at he
  · simp[startA] at hs; subst hs
    refine ⟨by simp[SortLr],by simp,fun x hx=>?_⟩
    simp at hx; subst hx
    exact ⟨⟨by simp,by simp only; omega⟩,by simp,by simp[rightLr]⟩
  · have:=List.mem_of_getElem? hs
    simp[startA] at this; subst this; simp
  · simp[startA] at hs; subst hs; simp at he
theorem AutI.clos {g:Gram} (hf:g.Fine) {at_ i:Nat} {out:List StP} (h:AutI g at_ i out) {j:Nat} (hj:j < out.length):SortLr (closD g (out.getD j noSt).ker)∧∀ x∈closD g (out.getD j noSt).ker,HasLr g x:=by
  have hm:=List.mem_of_getElem? (getD_some (d:=noSt) hj)
  exact ⟨closD_sort _ _,fun x hx=>((mem_closD hf (h.ker _ hm).2.2).1 hx).has (h.ker _ hm).2.2⟩
structure AutOk (g:Gram) (a:List StP):Prop where
  ker:∀ s∈a,SortLr s.ker∧s.ker≠[]∧∀ x∈s.ker,HasLr g x
  edg:∀ s∈a,s.edg.length≤40
  to:∀ s∈a,∀ e∈s.edg,0≤e.to∧e.to < a.length
  sym:∀ s∈a,∀ e∈s.edg,-1000≤e.sym∧e.sym≤1000
theorem AutI.ok {g:Gram} {at_ i:Nat} {out:List StP} (h:AutI g at_ i out):AutOk g out :=
  ⟨h.ker,fun s hs=>by obtain ⟨j,hj,e⟩:=List.mem_iff_getElem.1 hs; exact (h.edg j s (by rw[List.getElem?_eq_getElem hj,e])).1,h.to,h.sym⟩
theorem loopA_ok {g:Gram} (hf:g.Fine):∀ (f at_:Nat) (out:List StP),AutI g at_ 0 out→1≤out.length→out.length≤300→(loopA g f at_ out).2=0→AutOk g (loopA g f at_ out).1∧1≤(loopA g f at_ out).1.length∧(loopA g f at_ out).1.length≤300
  | 0,_,out,h,h1,h2,_=>⟨h.ok,h1,h2⟩
  | f+1,at_,out,h,h1,h2,h3=>by
    rw[loopA] at h3 ⊢
    split
    · rename_i ha
      rw[if_pos ha] at h3
      have hr:=AutI.row (h.clos hf ha).1 (h.clos hf ha).2 h (g.terms.length+g.nons.length) (by have:=hf.terms; have:=hf.nons; omega)
      rw[show (List.range (g.terms.length+g.nons.length)).foldl (stepA g (closD g (out.getD at_ noSt).ker) at_) out=rowA g at_ out (g.terms.length+g.nons.length) from rfl] at hr
      split
      · rename_i hc; rw[if_pos hc] at h3; simp at h3
      · rename_i hc
        rw[if_neg hc] at h3
        exact loopA_ok hf f (at_+1) _ hr.1.next (by omega) (by omega) h3
    · exact ⟨h.ok,h1,h2⟩
theorem autoD_ok {g:Gram} (hf:g.Fine) (h:(autoD g).2=0):AutOk g (autoD g).1∧1≤(autoD g).1.length∧(autoD g).1.length≤300:=by
  unfold autoD at h ⊢
  split
  · rename_i hr
    rw[if_pos hr] at h
    exact loopA_ok hf 302 0 startA startA_ok (by simp[startA]) (by simp[startA]) h
  · rename_i hr
    rw[if_neg hr] at h
    simp at h
def pdE (l:List PEdg):List (List V):=l.map encPd
def encSt (s:StP):List V:=[.fro (lrE s.ker),.fro (pdE s.edg)]
def encSts (a:List StP):V:=.fro (a.map encSt)
theorem pd_tree (l:List PEdg):Tree (.fro (pdE l)):=tree_fro _ _ fun x _ v hv=>by simp[encPd] at hv; rcases hv with rfl | rfl <;> exact .val _
theorem encSt_tree (s:StP):∀ v∈encSt s,Tree v:=by
  intro v hv; simp[encSt] at hv
  rcases hv with rfl | rfl
  · exact lr_tree _
  · exact pd_tree _
theorem encSts_tree (a:List StP):Tree (encSts a):=tree_fro _ _ fun x _=>encSt_tree x
abbrev StR:=V × V × StP
def stE (A:List StR):List (List V):=A.map fun x=>[x.1,x.2.1]
def stO (A:List StR):List Ent:=A.flatMap fun x=>[(x.1,2,lrE x.2.2.ker),(x.2.1,2,pdE x.2.2.edg)]
theorem stE_len (A:List StR):(stE A).length=A.length:=by simp[stE]
theorem stO_mem {A:List StR} {x:StR} (hx:x∈A):(x.1,2,lrE x.2.2.ker)∈stO A∧(x.2.1,2,pdE x.2.2.edg)∈stO A:=by
  constructor <;> exact List.mem_flatMap.2 ⟨x,hx,by simp⟩
theorem sts_frn {h:Heap} {u:V} {A:List StR} (ho:OwnA h.view u 2 (stE A)) (hb:∀ x∈A,OwnA h.view x.1 2 (lrE x.2.2.ker)∧OwnA h.view x.2.1 2 (pdE x.2.2.edg)):FrN h u (encSts (A.map fun x=>x.2.2)):=by
  have hg:∀ i (hi:i < A.length),(stE A).getD i []=[(A[i]).1,(A[i]).2.1]∧(((A.map fun x=>x.2.2).map encSt).getD i [])=encSt (A[i]).2.2:=fun i hi=>by
    simp[stE,List.getD_eq_getElem?_getD,hi]
  refine FrN.own ho (by simp[stE]) (fun i hi=>?_) (fun i j hi hj=>?_)
  · have hi':i < A.length:=by simpa [stE] using hi
    rw[(hg i hi').1,(hg i hi').2]; rfl
  · have hi':i < A.length:=by simpa [stE] using hi
    rw[(hg i hi').2] at hj ⊢
    rw[(hg i hi').1]
    have hx:=hb _ (List.getElem_mem hi')
    generalize A[i]'hi'=y at hx hj
    obtain ⟨h1,h2⟩:=hx
    match j,hj with
    | 0,_ =>
      refine FrN.own h1 rfl (fun i _=>rfl) (fun i j hi hj=>?_)
      rw[lrE_len] at hi
      have e:(lrE y.2.2.ker).getD i []=encLr y.2.2.ker[i]:=by simp[lrE,List.getD_eq_getElem?_getD,hi]
      rw[e] at hj ⊢
      match j,hj with
      | 0,_=>exact .val _
      | 1,_=>exact .val _
    | 1,_ =>
      refine FrN.own h2 rfl (fun i _=>rfl) (fun i j hi hj=>?_)
      simp only[pdE,List.length_map] at hi
      have e:(pdE y.2.2.edg).getD i []=encPd y.2.2.edg[i]:=by simp[pdE,List.getD_eq_getElem?_getD,hi]
      rw[e] at hj ⊢
      match j,hj with
      | 0,_=>exact .val _
      | 1,_=>exact .val _
    | n+2,hj=>exact absurd hj (by simp[encSt])
def B_gerundref15_find_0:SC :=
  .seq (.seq (ab [aa 6 5,aa 7 0,aj 8 7,ak 9 .lss 6 8]) <|
  .cond (.tmp 9) (.skip) (.exit 0)) <|
  .seq (.block 1 (.seq (ab [aa 12 0,aa 13 5,av 14 2 12 13,af 15 0 14,ae 16 15,aa 17 1,ao 18 29 [16,17]]) <|
  .cond (.tmp 18) (.seq (ab [aa 19 5,aa 4 19]) <|
  .ret) (.skip))) <|
  ab [aa 10 5,ah 11 .add 10 1,aa 5 11]
def S_gerundref15_find:SF:=⟨.seq (ab [ai 4 0]) <|
  .seq (.seq (ab [ai 5 0]) <|
  .block 0 (.loop B_gerundref15_find_0)) <|
  .seq (ab [ai 4 (-1)]) <|
  .ret,
  [.tmp 4],20⟩
theorem S_gerundref15_find_ok:compF Tryz.prog 79 []=some S_gerundref15_find:=by kernel_rfl
def B_gerundref15_Build_0:SC :=
  .seq (.seq (ab [aa 31 7,af 32 0 1,ae 33 32,aj 34 33,af 35 1 1,ae 36 35,aj 37 36,ak 38 .add 34 37,ak 39 .lss 31 38]) <|
  .cond (.tmp 39) (.skip) (.exit 2)) <|
  .seq (.block 3 (.seq (ab [au 42 4 1,aa 43 7,ao 44 77 [42,43],aa 8 44]) <|
  .seq (ab [au 45 4 1,aa 46 6,aa 47 8,ao 48 78 [45,46,47],aa 9 48]) <|
  .seq (.seq (ab [aa 49 9,aj 50 49,ah 51 .eql 50 0]) <|
  .cond (.tmp 51) (.exit 3) (.skip)) <|
  .seq (ab [aa 52 4,aa 53 9,ao 54 79 [52,53],aa 10 54]) <|
  .seq (.seq (ab [aa 55 10,ah 56 .lss 55 0]) <|
  .cond (.tmp 56) (.seq (ab [aa 57 4,aj 58 57,aa 10 58]) <|
  ab [aa 59 4,aa 60 9,((some 61),.op (.build [(.emp 1),(.emp 1)] [(0,1,(.tmp 60))])),((some 62),.op (.bslice 1 2 [(.emp 1),(.emp 1)] [(0,(.tmp 61))])),((some 63),.op (.app 2 48 (.tmp 59) (.tmp 62))),aa 4 63]) (.skip)) <|
  ab [aa 64 4,aa 65 5,aa 66 4,aa 67 5,av 68 2 66 67,af 69 1 68,ae 70 69,aa 71 8,aa 72 10,((some 73),.op (.build [(.val (.int .i64 0)),(.val (.int .i64 0))] [(0,1,(.tmp 71)),(1,1,(.tmp 72))])),((some 74),.op (.bslice 1 2 [(.val (.int .i64 0)),(.val (.int .i64 0))] [(0,(.tmp 73))])),((some 75),.op (.app 2 16 (.tmp 70) (.tmp 74))),av 76 2 64 65,af 77 1 76,(none,.op (.store 1 (.tmp 77) (.tmp 75)))])) <|
  ab [aa 40 7,ah 41 .add 40 1,aa 7 41]
def B_gerundref15_Build_1:SC :=
  .seq (.seq (ab [aa 18 5,aa 19 4,aj 20 19,ak 21 .lss 18 20]) <|
  .cond (.tmp 21) (.skip) (.exit 0)) <|
  .seq (.block 1 (.seq (ab [au 24 4 1,aa 25 4,aa 26 5,av 27 2 25 26,af 28 0 27,ae 29 28,ao 30 72 [24,29],aa 6 30]) <|
  .seq (.seq (ab [ai 7 0]) <|
  .block 2 (.loop B_gerundref15_Build_0)) <|
  .seq (ab [aa 78 4,aj 79 78,ah 80 .gtr 79 300]) <|
  .cond (.tmp 80) (.seq (ab [((some 2),.op (.mov (.val (.emp 1)))),ai 3 5]) <|
  .ret) (.skip))) <|
  ab [aa 22 5,ah 23 .add 22 1,aa 5 23]
def S_gerundref15_Build:SF:=⟨.seq (ab [aC 1 0,((some 2),.op (.mov (.val (.emp 1)))),ai 3 0]) <|
  .seq (.seq (ab [au 11 4 1,ao 12 38 [11],aB 13 12]) <|
  .cond (.tmp 13) (.seq (ab [((some 2),.op (.mov (.val (.emp 1)))),ai 3 1]) <|
  .ret) (.skip)) <|
  .seq (ab [((some 14),.op (.build [(.val (.int .i64 0)),(.val (.int .i64 0))] [(0,1,(.val (.val (.int .i64 (-1)))))])),((some 15),.op (.bslice 1 2 [(.val (.int .i64 0)),(.val (.int .i64 0))] [(0,(.tmp 14))])),((some 16),.op (.build [(.emp 1),(.emp 1)] [(0,1,(.tmp 15))])),((some 17),.op (.bslice 1 2 [(.emp 1),(.emp 1)] [(0,(.tmp 16))])),aa 4 17]) <|
  .seq (.seq (ab [ai 5 0]) <|
  .block 0 (.loop B_gerundref15_Build_1)) <|
  .seq (ab [aa 81 4,aa 2 81,ai 3 0]) <|
  .ret,
  [.tmp 2,.tmp 3],82⟩
theorem S_gerundref15_Build_ok:compF Tryz.prog 33 [1]=some S_gerundref15_Build:=by kernel_rfl
theorem findD_take:∀ (a:List StP) (k:List LrI) (i:Nat),(∀ j s,j < i→a[j]?=some s→s.ker≠k)→(∀ s,a[i]?=some s→s.ker=k→findD a k=i)∧(i=a.length→findD a k = -1):=by
  intro a k i h
  refine ⟨fun s h1 h2=>findD_is a k i s h1 h2 h,fun e=>?_⟩
  subst e
  refine findD_none a k fun s hs=>?_
  obtain ⟨j,hj,e⟩:=List.mem_iff_getElem.1 hs
  exact h j s hj (by rw[List.getElem?_eq_getElem hj,e])
theorem pc_find15 (a:List StP) (ha:Short a) (hs:∀ s∈a,Short s.ker) (k:List LrI) (hk:Short k):PCall Tryz.prog 79 [encSts a,.fro (lrE k)] (gi (findD a k)):=by
  unfold Short at ha
  refine PCall.val (by
    intro v hv; simp at hv
    rcases hv with rfl | rfl
    · exact encSts_tree _
    · exact lr_tree _) fun H=>?_
  refine MCall.of mixed S_gerundref15_find_ok ?_
  simp (disch:=omega) only [↓wr,wq,oneV,Nat.reduceAdd,Nat.reduceLeDiff,Int.reduceNeg,S_gerundref15_find,encSts]
  refine LoopG.up a.length (fun i T H'=>(∀ j s,j < i→a[j]?=some s→s.ker≠k)∧T 0=encSts a∧T 1=.fro (lrE k)∧T 5=gi i) ⟨fun j s h=>by omega,rfl,rfl,rfl⟩ ?_
  rintro i n T H' hn ⟨hall,t0,t1,t5⟩
  obtain ⟨f1,f2⟩:=findD_take a k i hall
  simp (disch:=omega) only [↓wr,↓reduceIte,wq,intOp,goI,Nat.reduceEqDiff,Int.reduceNeg,reduceCtorEq,B_gerundref15_find_0,t0,t5,encSts]
  refine GoB.dec (fun hc=>?_) (fun hc=>?_)
  · have hx:a[i]?=some (a[i]'(by omega)):=List.getElem?_eq_getElem (by omega)
    have hm:=hs _ (List.getElem_mem (show i < a.length by omega))
    generalize a[i]'(by omega)=x at hx hm
    simp (disch:=omega) only [↓wr,↓reduceIte,wq,Nat.reduceEqDiff,Nat.reduceAdd,Nat.reduceLT,Int.reduceNeg,reduceCtorEq,t0,t1,t5,encSts,List.getElem?_map,hx,encSt]
    refine CallG.pure (pc_Items15 x.ker k hm hk) (by kernel_rfl) ?_
    simp (disch:=omega) only [↓wr,↓reduceIte,wq,Int.reduceNeg]
    refine GoB.split (fun e=>?_) (fun e=>?_)
    · simp (disch:=omega) only [↓wr,↓reduceIte,wq,intOp,Nat.reduceEqDiff,Int.reduceNeg,reduceCtorEq,t5]
      rw[f1 x hx (by simpa using e)]
    · simp (disch:=omega) only [↓wr,↓reduceIte,wq,intOp,Nat.reduceEqDiff,Int.reduceNeg,reduceCtorEq,t5]
      refine up_next hn (by omega) ⟨fun j s hj hjs=>?_,t0,t1,rfl⟩
      rcases Nat.lt_or_ge j i with h | h
      · exact hall j s h hjs
      · have:j=i:=by omega
        subst this
        rw[hx] at hjs; simp at hjs; subst hjs
        simpa using e
  · simp (disch:=omega) only [↓wr,↓reduceIte,wq,Nat.reduceEqDiff,Int.reduceNeg,reduceCtorEq]
    rw[f2 (by omega)]
theorem sort_short {g:Gram} (hf:g.Fine) {s:StP} (h:SortLr s.ker∧s.ker≠[]∧∀ x∈s.ker,HasLr g x):Short s.ker:=by
  have:=sort_len hf h.1 h.2.2; unfold Short; omega
theorem Lent.sts {H:View} {u:V} {A:List StR} {L:List Ent} (h:Owns H ((u,2,stE A) :: L)) (hL:∀ x∈stO A,x∈L):Lent H u (encSts (A.map fun x=>x.2.2)):=by
  rintro h' rfl
  exact (sts_frn h.head fun x hx=>⟨h.1 _ (List.mem_cons_of_mem _ (hL _ (stO_mem hx).1)),h.1 _ (List.mem_cons_of_mem _ (hL _ (stO_mem hx).2))⟩).fr
theorem Lent.lr {H:View} {u:V} {l:List LrI} (h:OwnA H u 2 (lrE l)):Lent H u (.fro (lrE l)) :=
  Lent.own h fun e he v hv=>by
    obtain ⟨x,_,rfl⟩:=List.mem_map.1 he
    simp[encLr] at hv; rcases hv with rfl | rfl <;> exact .val _
theorem frn_sts {h:Heap} {u v:V} {e:Int} (h1:FrN h u v):FrN h (.tup [u,gi e]) (.tup [v,gi e]):=.tup _ _ rfl fun i hi=>by
  match i,hi with
  | 0,_=>exact h1
  | 1,_=>exact .val _
theorem split_at {α:Type} {l:List α} {i:Nat} (h:i < l.length):∃ a x b,l=a ++ x :: b∧a.length=i∧l[i]?=some x :=
  ⟨l.take i,l[i],l.drop (i+1),by rw[← List.drop_eq_getElem_cons h,List.take_append_drop],by simp; omega,List.getElem?_eq_getElem h⟩
theorem modify_mid {α:Type} (a:List α) (x:α) (b:List α) (f:α→α):(a ++ x :: b).modify a.length f=a ++ f x :: b:=by
  induction a with
  | nil=>rfl
  | cons y a ih=>simp only[List.cons_append,List.length_cons,List.modify_succ_cons,ih]
theorem isRed_right {g:Gram} (h:isRed g=true):right09 g=true:=by
  unfold isRed at h
  simp only[Bool.and_eq_true,beq_iff_eq,decide_eq_true_eq] at h
  refine Decidable.byContradiction fun hn=>?_
  have h1:=h.1
  unfold reduce09 at h1
  simp[hn] at h1
theorem isRed_fine {g:Gram} (h:isRed g=true):g.Fine:=right09_fine (isRed_right h)
theorem rev3 {α:Type} {a b c:α} {l:List α} : (a :: b :: c :: l).Perm (c :: b :: a :: l):=(List.Perm.swap _ _ _).trans (((List.Perm.swap _ _ _).cons _).trans (List.Perm.swap _ _ _))
theorem perm_a {α:Type} {e u p r:α} {S:List α} : (e :: u :: p :: r :: S).Perm (u :: r :: (S ++ [p,e])) :=
  (List.Perm.swap _ _ _).trans (.cons _ (rev3.trans (.cons _ (List.perm_append_comm (l₁:=[p,e]) (l₂:=S)))))
theorem perm_b {α:Type} {u r k e:α} {S1 S2:List α} : (u :: r :: (S1 ++ k :: e :: S2)).Perm (e :: u :: r :: (S1 ++ k :: S2)):=by
  have h:(S1 ++ k :: e :: S2).Perm (e :: (S1 ++ k :: S2)):=by
    have:=List.perm_middle (a:=e) (l₁:=S1 ++ [k]) (l₂:=S2)
    simpa using this
  exact (((h.cons r).cons u).trans ((List.Perm.swap _ _ _).cons u)).trans (List.Perm.swap _ _ _)
theorem stO_mid (A:List StR) (x:StR) (B:List StR):stO (A ++ x :: B)=stO A ++ (x.1,2,lrE x.2.2.ker) :: (x.2.1,2,pdE x.2.2.edg) :: stO B:=by simp[stO]
def BldI (g:Gram) (m:Nat) (T:Env) (H:View):Prop:=∃ (at_:Nat) (u:V) (A:List StR) (out:List StP),m+at_=302∧out=A.map (fun x=>x.2.2)∧Owns H ((u,2,stE A) :: stO A)∧AutI g at_ 0 out∧1≤out.length∧out.length≤300∧loopA g m at_ out=autoD g∧at_≤out.length ∧
  T 1=.fptr (encG g) 0∧T 4=u∧T 5=gi at_
set_option maxHeartbeats 16000000 in
theorem pn_Build15 (g:Gram) (hg:g.Ok):PNew Tryz.prog 33 [.agg (encG g)] (.tup [encSts (autoD g).1,gi (autoD g).2]):=by
  refine PNew.of (gg_tree g) ?_
  have hIs:=pc_gIs g hg
  refine MCall.of mixed S_gerundref15_Build_ok ?_
  simp only[encG,encS] at hIs
  simp (disch:=omega) only [↓wr,↓reduceIte,wq,oneV,Nat.reduceEqDiff,Nat.reduceAdd,Nat.reduceLeDiff,Int.reduceNeg,S_gerundref15_Build,encG,encS]
  refine CallG.pure hIs (by kernel_rfl) ?_
  simp (disch:=omega) only [↓wr,↓reduceIte,wq,Int.reduceNeg]
  refine GoB.split (fun hr=>?_) (fun hr=>?_)
  rotate_left
  · simp (disch:=omega) only [↓wr,↓reduceIte,wq,Nat.reduceEqDiff,Int.reduceNeg,reduceCtorEq]
    intro h' _
    have e:autoD g=([],1):=by unfold autoD; rw[if_neg (by rw[hr]; simp)]
    rw[e]
    exact frn_sts (.emp _)
  have hf:g.Fine:=isRed_fine hr
  have e0:loopA g 302 0 startA=autoD g:=by unfold autoD; rw[if_pos hr]
  have hT:=hf.terms; have hN:=hf.nons
  simp (disch:=omega) only [↓wr,↓reduceIte,wq,splice,sBuild,fillE,Nat.reduceAdd,Nat.reduceLT,Nat.reduceLeDiff,Int.reduceNeg]
  intro q1 q2 hq2
  have o0:Owns (((View.set (fun _=>AObj.dead) q1 (.arr 2 [[gi (-1),gi 0]])).set q2 (.arr 2 [[.sl q1 0 1 2,.emp 1]]))) ((.sl q2 0 1 2,2,stE [(.sl q1 0 1 2,.emp 1,⟨[⟨-1,0⟩],[]⟩)]) :: stO [(.sl q1 0 1 2,.emp 1,⟨[⟨-1,0⟩],[]⟩)]) :=
    (((Owns.nil.emp (k:=1) (sz:=2)).new (n:=q1) rfl 2 [[gi (-1),gi 0]]).new (by simpa [View.set] using hq2) 2 [[.sl q1 0 1 2,.emp 1]])
  generalize (View.set (fun _=>AObj.dead) q1 (.arr 2 [[gi (-1),gi 0]])).set q2 (.arr 2 [[.sl q1 0 1 2,.emp 1]])=H0 at o0 ⊢
  refine LoopG.intro (BldI g) 302 ⟨0,_,_,startA,rfl,rfl,o0,startA_ok,Nat.le_refl _,by simp[startA],e0,by omega,rfl,rfl,rfl⟩ ?_
  clear o0 hq2
  rintro m T H ⟨at_,u,A,out,hm,rfl,ho,hI,h1,h300,hl,hle,t1,t4,t5⟩
  have hlu:lenV u=some A.length:=by rw[ho.head.len,stE_len]
  simp only[List.length_map] at h1 h300 hle
  simp (disch:=omega) only [↓wr,↓reduceIte,wq,intOp,goI,Nat.reduceEqDiff,reduceCtorEq,B_gerundref15_Build_1,t4,t5,hlu]
  refine GoB.dec (fun hc=>?_) (fun hc=>?_)
  rotate_left
  · simp (disch:=omega) only [↓wr,↓reduceIte,wq,Nat.reduceEqDiff,reduceCtorEq,t4]
    have e1:autoD g=(A.map (fun x=>x.2.2),0):=by
      rw[← hl]
      cases m with
      | zero=>rfl
      | succ m=>rw[loopA,if_neg (by simp; omega)]
    rw[e1]
    rintro h' rfl
    exact frn_sts (sts_frn ho.head fun x hx=>⟨ho.1 _ (List.mem_cons_of_mem _ (stO_mem hx).1),ho.1 _ (List.mem_cons_of_mem _ (stO_mem hx).2)⟩)
  obtain ⟨m,rfl⟩:∃ q,m=q+1:=⟨m - 1,by omega⟩
  have hat:at_ < A.length:=by omega
  obtain ⟨A1,x,A2,rfl,hA1,hx⟩:=split_at hat
  have hxm:x∈A1 ++ x :: A2:=by simp
  obtain ⟨hk1,hk2,hk3⟩:=hI.ker x.2.2 (List.mem_map_of_mem hxm)
  have hkl:=sort_len hf hk1 hk3
  have hh:OwnA H u 2 (stE (A1 ++ x :: A2)):=ho.head
  obtain ⟨id,hu,hid⟩:=hh.sl (by rw[stE_len]; omega)
  have hgx:(stE (A1 ++ x :: A2)).getD at_ []=[x.1,x.2.1]:=by simp[stE,List.getD_eq_getElem?_getD,← hA1]
  have hcl:closD g ((List.map (fun x=>x.2.2) (A1 ++ x :: A2)).getD at_ noSt).ker=closD g x.2.2.ker:=by
    rw[List.getD_eq_getElem?_getD,List.getElem?_map,hx]; rfl
  have hrow:=fun n hn=>AutI.row (hI.clos hf (show at_ < ((A1 ++ x :: A2).map fun x=>x.2.2).length by simpa using hat)).1 (hI.clos hf (show at_ < ((A1 ++ x :: A2).map fun x=>x.2.2).length by simpa using hat)).2 hI n hn
  rw[loopA,if_pos (by simpa using hat),rowA] at hl
  rw[hcl] at hl hrow
  have hcs:=closD_sort g x.2.2.ker
  have hch:∀ y∈closD g x.2.2.ker,HasLr g y:=fun y hy=>((mem_closD hf hk3).1 hy).has hk3
  rw[stE_len] at hu
  simp (disch:=omega) only [↓wr,↓reduceIte,wq,Nat.reduceEqDiff,Nat.reduceAdd,Nat.reduceLT,Nat.reduceLeDiff,t1,t4,t5,hu,hid,hgx,encG,encS]
  refine ⟨by omega,by rw[stE_len]; omega,?_⟩
  refine CallG.loud ((mo_closure15 g hf x.2.2.ker hk3 (by omega) x.1 H (ho.1 _ (List.mem_cons_of_mem _ (stO_mem hxm).1))).mono ?_)
  rintro r H2 ⟨or,fr⟩
  have o2:=ho.come or fr
  clear or fr hid hgx hcl hx
  generalize closD g x.2.2.ker=cl at *
  generalize hout0:(A1 ++ x :: A2).map (fun x=>x.2.2)=out0 at *
  have hol:out0.length=(A1 ++ x :: A2).length:=by rw[← hout0]; simp
  simp (disch:=omega) only [↓wr,↓reduceIte,wq]
  refine LoopG.up (g.terms.length+g.nons.length) (fun i T H'=>∃ (u:V) (A:List StR),A.map (fun x=>x.2.2)=(List.range i).foldl (stepA g cl at_) out0∧Owns H' ((r,2,lrE cl) :: (u,2,stE A) :: stO A)∧T 1=.fptr (encG g) 0∧T 4=u∧T 5=gi at_∧T 6=r∧T 7=gi i)
    ⟨u,_,hout0,o2,t1,by rw[← hu]; exact t4,t5,rfl,rfl⟩ ?_
  rw[← hol] at h1 h300 hle hat
  clear o2 ho hh hu t1 t4 t5 hlu hout0 hxm hol hc hk1 hk2 hk3 hkl hA1
  clear u H2 H T id A1 x A2
  rintro i k T H' hk ⟨u,A,hA,ho,t1,t4,t5,t6,t7⟩
  obtain ⟨iI,il1,il2⟩:=hrow i (by omega)
  rw[← hA] at iI il1 il2
  rw[List.length_map] at il1 il2
  have hlu:lenV u=some A.length:=by rw[ho.tail.head.len,stE_len]
  have hcl':=sort_len hf hcs hch
  simp (disch:=omega) only [↓wr,↓reduceIte,wq,intOp,goI,Nat.reduceEqDiff,Nat.reduceAdd,Nat.reduceLT,B_gerundref15_Build_0,t1,t7,encG,encS]
  refine GoB.dec (fun hc=>?_) (fun hc=>?_)
  rotate_left
  · have hi:i=g.terms.length+g.nons.length:=by omega
    subst hi
    rw[← hA] at hl
    simp (disch:=omega) only [↓wr,↓reduceIte,wq,intOp,Nat.reduceEqDiff,reduceCtorEq,t4,t5,hlu]
    refine GoB.dec (fun h3=>?_) (fun h3=>?_)
    · simp (disch:=omega) only [↓wr,↓reduceIte,wq,intOp,Nat.reduceEqDiff,reduceCtorEq]
      intro h' _
      rw[if_pos (by rw[List.length_map]; omega)] at hl
      rw[← hl]
      exact frn_sts (.emp _)
    · simp (disch:=omega) only [↓wr,↓reduceIte,wq,intOp,Nat.reduceEqDiff,reduceCtorEq,t4,t5]
      rw[if_neg (by rw[List.length_map]; omega)] at hl
      exact ⟨m,by omega,at_+1,u,A,_,by omega,rfl,ho.tail,iI.next,by rw[List.length_map]; omega,by rw[List.length_map]; omega,hl,by rw[List.length_map]; omega,t1,t4,rfl⟩
  have hcN:i < g.terms.length+g.nons.length:=by omega
  have hs15:=pc_symbol15 g hf i hcN
  have hsb:=symL_bound hf hcN
  simp only[encG,encS] at hs15
  simp (disch:=omega) only [↓wr,↓reduceIte,wq,Nat.reduceEqDiff,Nat.reduceAdd,Nat.reduceLeDiff,t1,t7,encG,encS]
  refine CallG.pure hs15 (by kernel_rfl) ?_
  simp (disch:=omega) only [↓wr,↓reduceIte,wq,Nat.reduceEqDiff,Nat.reduceAdd,Nat.reduceLeDiff,t1,t6,encG,encS]
  refine CallG.loud ((mo_moved15 g hf cl hcs hch (symL g i) r H' ho.head).mono ?_)
  rintro r9 H9 ⟨or,fr⟩
  have o9:=ho.come or fr
  have hml:=movD_len (g:=g) (l:=cl) (s:=symL g i)
  have hl9:lenV r9=some (movD g cl (symL g i)).length:=by rw[or.len,lrE_len]
  have hstep:(List.range (i+1)).foldl (stepA g cl at_) out0=stepA g cl at_ (A.map fun x=>x.2.2) i:=by rw[List.range_succ,List.foldl_append,← hA]; rfl
  simp (disch:=omega) only [↓wr,↓reduceIte,wq,intOp,goI,hl9]
  refine GoB.eq (fun he=>?_) (fun he=>?_)
  · have hnil:movD g cl (symL g i)=[]:=List.length_eq_zero_iff.1 (by omega)
    simp (disch:=omega) only [↓wr,↓reduceIte,wq,intOp,Nat.reduceEqDiff,reduceCtorEq,t4,t5,t7]
    exact up_next hk (by omega) ⟨u,A,by rw[hstep,stepA,if_pos hnil],o9.tail,t1,t4,t5,t6,rfl⟩
  have hne:movD g cl (symL g i)≠[]:=fun e=>he (by rw[e]; rfl)
  simp (disch:=omega) only [↓wr,↓reduceIte,wq,Nat.reduceEqDiff,t4]
  have hfind:=pc_find15 (A.map fun x=>x.2.2) (by unfold Short; rw[List.length_map]; omega) (fun s hs=>sort_short hf (iI.ker s hs)) (movD g cl (symL g i)) (by unfold Short; omega)
  refine CallG.lend hfind (by kernel_rfl) (.val _) ⟨Lent.sts o9.tail.tail (fun x hx=>hx),Lent.lr or,trivial⟩ ?_
  have hfl:=findD_lt (A.map fun x=>x.2.2) (movD g cl (symL g i))
  have hfg:=findD_ge (A.map fun x=>x.2.2) (movD g cl (symL g i))
  rw[List.length_map] at hfl
  have hat2:at_ < A.length:=by omega
  simp (disch:=omega) only [↓wr,↓reduceIte,wq,intOp]
  obtain ⟨A1,x,A2,hAs,hA1,hx⟩:=split_at hat2
  have hxe:x.2.2.edg.length≤40:=(iI.edg at_ x.2.2 (by rw[List.getElem?_map,hx]; rfl)).1
  have hgx:∀ B,(stE (A1 ++ x :: B)).getD at_ []=[x.1,x.2.1]:=fun B=>by simp[stE,List.getD_eq_getElem?_getD,← hA1]
  have hput:∀ (B:List StR) (c:PEdg),((A1 ++ x :: B).map fun x=>x.2.2).modify at_ (fun s=>(⟨s.ker,s.edg ++ [c]⟩:StP))=(A1 ++ (x.1,x.2.1,(⟨x.2.2.ker,x.2.2.edg ++ [c]⟩:StP)) :: B).map fun x=>x.2.2:=fun B c=>by
    rw[List.map_append,List.map_cons,← hA1,← List.length_map (f:=fun x:StR=>x.2.2),modify_mid,List.map_append,List.map_cons]
  refine GoB.dec (fun hneg=>?_) (fun hneg=>?_)
  simp (disch:=omega) only [↓wr,↓reduceIte,wq,goI,splice,sBuild,fillE,Nat.reduceEqDiff,Nat.reduceAdd,Nat.reduceLT,Nat.reduceLeDiff,t4,hlu,or.cells,or.cok]
  intro q hq
  simp (disch:=omega) only [↓wr,↓reduceIte,wq,Nat.reduceEqDiff,elemsOf_new]
  have o10:=(o9.fresh (o:=.arr 2 [[r9,.emp 1]]) hq).at 2 (by simp)
  refine goApp_owns o10 (by simp[or.cok,cok_emp]) (by unfold limit; rw[stE_len]; simp; omega) (by unfold limit; rw[stE_len]; simp; omega) ?_
  intro u2 H10 o11 _
  simp only[List.eraseIdx_cons_succ,List.eraseIdx_cons_zero] at o11
  have o12:=(o11.emp (k:=1) (sz:=2)).perm perm_a
  have hst:stepA g cl at_ (A.map fun x=>x.2.2) i=((A1 ++ x :: (A2 ++ [(r9,.emp 1,(⟨movD g cl (symL g i),[]⟩:StP))])).map fun x=>x.2.2).modify at_ (fun s=>(⟨s.ker,s.edg ++ [⟨symL g i,(A.length:Int)⟩]⟩:StP)):=by
    rw[stepA,if_neg hne,if_pos hneg,List.length_map]
    congr 1
    rw[hAs]; simp
  have o13:Owns H10 ((u2,2,stE (A1 ++ x :: (A2 ++ [(r9,.emp 1,(⟨movD g cl (symL g i),[]⟩:StP))]))) :: (r,2,lrE cl) :: stO (A1 ++ x :: (A2 ++ [(r9,.emp 1,(⟨movD g cl (symL g i),[]⟩:StP))]))):=by
    have e1:stE (A1 ++ x :: (A2 ++ [(r9,.emp 1,(⟨movD g cl (symL g i),[]⟩:StP))]))=stE A ++ [[r9,.emp 1]]:=by rw[hAs]; simp[stE]
    have e2:stO (A1 ++ x :: (A2 ++ [(r9,.emp 1,(⟨movD g cl (symL g i),[]⟩:StP))]))=stO A ++ [(r9,2,lrE (movD g cl (symL g i))),(.emp 1,2,[])]:=by rw[hAs]; simp[stO]; rfl
    rw[e1,e2]
    exact o12
  generalize (A2 ++ [(r9,V.emp 1,(⟨movD g cl (symL g i),[]⟩:StP))])=B at hst o13
  generalize (A.length:Int)=to at hst ⊢
  rotate_left
  have hst:stepA g cl at_ (A.map fun x=>x.2.2) i=((A1 ++ x :: A2).map fun x=>x.2.2).modify at_ (fun s=>(⟨s.ker,s.edg ++ [⟨symL g i,findD (A.map fun x=>x.2.2) (movD g cl (symL g i))⟩]⟩:StP)):=by
    rw[stepA,if_neg hne,if_neg hneg,← hAs]
  have o13:=o9.tail.perm (.swap _ _ _)
  clear or fr
  generalize H9=H10 at o9 o13 ⊢
  obtain ⟨u2,hu2⟩:∃ y,y=u:=⟨_,rfl⟩
  rw[← hu2] at o13 t4
  rw[hAs] at o13
  generalize findD (A.map fun x=>x.2.2) (movD g cl (symL g i))=to at hst ⊢
  generalize A2=B at hst o13
  all_goals (
    obtain ⟨id,hu,hid⟩:=(show OwnA H10 u2 2 (stE (A1 ++ x :: B)) from o13.head).sl (by rw[stE_len]; simp; omega)
    rw[stE_len] at hu
    rw[stO_mid] at o13
    simp (disch:=omega) only [↓wr,↓reduceIte,wq,splice,sBuild,fillE,Nat.reduceEqDiff,Nat.reduceAdd,Nat.reduceLT,Nat.reduceLeDiff,t4,t5,hu,hid,hgx B]
    refine ⟨by simp; omega,by rw[stE_len]; simp; omega,?_⟩
    intro q2 hq2
    simp (disch:=omega) only [↓wr,↓reduceIte,wq,Nat.reduceEqDiff,elemsOf_new]
    refine goApp_owns ((o13.perm perm_b).fresh hq2) (by simp[cellOk]) (by unfold limit; simp[pdE]; omega) (by unfold limit; simp[pdE]; omega) ?_
    intro e2 H11 o14 _
    have hid2:H11 id=.arr 2 (stE (A1 ++ x :: B)):=((o14.own 1 rfl).live (by rw[hu]; rfl)).1
    simp (disch:=omega) only [↓wr,↓reduceIte,wq,intOp,splice,Nat.reduceEqDiff,Nat.reduceAdd,Nat.reduceLeDiff,reduceCtorEq,t4,t5,t7,hu,hid2,hgx B,o14.head.cells,o14.head.cok]
    have hset:(stE (A1 ++ x :: B)).set at_ [x.1,e2]=stE (A1 ++ (x.1,e2,(⟨x.2.2.ker,x.2.2.edg ++ [⟨symL g i,to⟩]⟩:StP)) :: B):=by
      rw[← hA1]; simp[stE]
    have hpd:pdE (x.2.2.edg ++ [⟨symL g i,to⟩])=pdE x.2.2.edg ++ [[gi (symL g i),gi to]]:=by simp[pdE,encPd]
    have o15:=o14.perm (.swap _ _ _)
    rw[hu] at o15
    have o16:=((o15.put (es':=stE (A1 ++ (x.1,e2,(⟨x.2.2.ker,x.2.2.edg ++ [⟨symL g i,to⟩]⟩:StP)) :: B)) (by rw[stE_len,stE_len]; simp) (by rw[stE_len])).perm (.swap _ _ _)).perm perm_b.symm
    rw[← hpd] at o16
    have o17:=o16.perm (.swap _ _ _)
    rw[← hu] at o17
    rw[hset]
    refine ⟨by simp; omega,by rw[stE_len]; simp; omega,up_next hk (by omega) ⟨u2,_,?_,by rw[stO_mid]; exact o17,t1,by first | rfl | exact t4 | exact hu.symm,t5,t6,rfl⟩⟩
    rw[hstep,hst,hput]; simp)
abbrev gw (s:BV):V:=.val (.int .u32 s.toNat)
abbrev wordsE (l:List BV):List (List V):=l.map fun x=>[gw x]
abbrev encU (l:List BV):V:=.fro (wordsE l)
theorem encU_tree (l:List BV):Tree (encU l):=tree_fro _ _ fun x _ v hv=>by simp at hv; subst hv; exact .val _
theorem wrapU {x:Int} (h1:0≤x) (h2:x < 4294967296):IntKind.wrap .u32 x=x:=by
  unfold IntKind.wrap
  have e1:(2:Int) ^ IntKind.u32.bits=4294967296:=by rfl
  have e3:IntKind.u32.signed=false:=by rfl
  simp only[e1,e3,Bool.false_and]
  simp
  omega
theorem wrapW (s:BV):IntKind.wrap .u32 (s.toNat:Int)=s.toNat:=wrapU (by omega) (by have:=s.isLt; omega)
theorem ofIntW (s:BV):BitVec.ofInt IntKind.u32.bits (s.toNat:Int)=s:=by
  show BitVec.ofInt 32 (s.toNat:Int)=s
  rw[BitVec.ofInt_natCast,BitVec.ofNat_toNat,BitVec.setWidth_eq]
theorem or32 (s t:BV):IntKind.wrap .u32 ((BitVec.ofInt IntKind.u32.bits (s.toNat:Int) ||| BitVec.ofInt IntKind.u32.bits (t.toNat:Int)).toNat:Int)=((s ||| t).toNat:Int):=by
  rw[ofIntW,ofIntW]; exact wrapW (s ||| t)
theorem and32 (s t:BV):IntKind.wrap .u32 ((BitVec.ofInt IntKind.u32.bits (s.toNat:Int) &&& BitVec.ofInt IntKind.u32.bits (t.toNat:Int)).toNat:Int)=((s &&& t).toNat:Int):=by
  rw[ofIntW,ofIntW]; exact wrapW (s &&& t)
theorem andNot32 (s t:BV):IntKind.wrap .u32 ((BitVec.ofInt IntKind.u32.bits (s.toNat:Int) &&& ~~~(BitVec.ofInt IntKind.u32.bits (t.toNat:Int))).toNat:Int)=((s &&& ~~~t).toNat:Int):=by
  rw[ofIntW,ofIntW]; exact wrapW (s &&& ~~~t)
theorem toNat_zero {s:BV} : ((s.toNat:Nat):Int)=0↔s=0:=by
  constructor
  · intro h; exact BitVec.eq_of_toNat_eq (by simpa using h)
  · rintro rfl; rfl
def B_gerundref03_Bit_0:SC :=
  .seq (.seq (ab [aa 11 4,aa 12 0,ak 13 .lss 11 12]) <|
  .cond (.tmp 13) (.skip) (.exit 0)) <|
  .seq (.block 1 (ab [aa 16 3,((some 17),.op (.arith .mul (.tmp 16) (.val (.val (.int .u32 2))))),aa 3 17])) <|
  ab [aa 14 4,ah 15 .add 14 1,aa 4 15]
def S_gerundref03_Bit:SF:=⟨.seq (ab [((some 2),.op (.mov (.val (.val (.int .u32 0)))))]) <|
  .seq (.seq (.region false [⟨none,[aa 5 0,ah 6 .lss 5 0,aa 7 6]⟩,⟨(some (7,false)),[aa 8 0,ah 9 .gtr 8 31]⟩,⟨none,[ay 10 7 9]⟩]) <|
  .cond (.tmp 10) (.seq (ab [((some 2),.op (.mov (.val (.val (.int .u32 0)))))]) <|
  .ret) (.skip)) <|
  .seq (ab [((some 3),.op (.mov (.val (.val (.int .u32 1)))))]) <|
  .seq (.seq (ab [ai 4 0]) <|
  .block 0 (.loop B_gerundref03_Bit_0)) <|
  .seq (ab [aa 18 3,aa 2 18]) <|
  .ret,
  [.tmp 2],19⟩
theorem S_gerundref03_Bit_ok:compF Tryz.prog 95 []=some S_gerundref03_Bit:=by kernel_rfl
def S_gerundref03_Has:SF:=⟨.seq (ab [aw 4 false]) <|
  .seq (ab [aa 5 0,aa 6 1,ao 7 95 [6],ak 8 .and 5 7,((some 9),.op (.arith .neq (.tmp 8) (.val (.val (.int .u32 0))))),aa 4 9]) <|
  .ret,
  [.tmp 4],10⟩
theorem S_gerundref03_Has_ok:compF Tryz.prog 97 []=some S_gerundref03_Has:=by kernel_rfl
def B_gerundref12_of_0:SC :=
  .seq (.seq (ab [aa 11 10,aa 12 0,aj 13 12,ak 14 .lss 11 13]) <|
  .cond (.tmp 14) (.skip) (.exit 0)) <|
  .seq (.block 1 (.seq (.seq (ab [aa 17 0,aa 18 10,av 19 1 17 18,ae 20 19,ah 21 .geq 20 0]) <|
  .cond (.tmp 21) (.seq (ab [aa 22 9,aa 23 0,aa 24 10,av 25 1 23 24,ae 26 25,ao 27 95 [26],ak 28 .or 22 27,aa 8 28]) <|
  .ret) (.skip)) <|
  .seq (ab [aa 29 9,aa 30 2,aa 31 0,aa 32 10,av 33 1 31 32,ae 34 33,((some 35),.op (.arith .sub (.val (.val (.int .i64 (-1)))) (.tmp 34))),av 36 1 30 35,ae 37 36,ak 38 .or 29 37,aa 9 38]) <|
  .seq (ab [aa 39 1,aa 40 0,aa 41 10,av 42 1 40 41,ae 43 42,((some 44),.op (.arith .sub (.val (.val (.int .i64 (-1)))) (.tmp 43))),av 45 1 39 44,ae 46 45,aB 47 46]) <|
  .cond (.tmp 47) (.seq (ab [aa 48 9,aa 8 48]) <|
  .ret) (.skip))) <|
  ab [aa 15 10,ah 16 .add 15 1,aa 10 16]
def S_gerundref12_of:SF:=⟨.seq (ab [((some 8),.op (.mov (.val (.val (.int .u32 0)))))]) <|
  .seq (ab [((some 9),.op (.mov (.val (.val (.int .u32 0)))))]) <|
  .seq (.seq (ab [ai 10 0]) <|
  .block 0 (.loop B_gerundref12_of_0)) <|
  .seq (ab [aa 49 9,aa 50 3,ak 51 .or 49 50,aa 8 51]) <|
  .ret,
  [.tmp 8],52⟩
theorem S_gerundref12_of_ok:compF Tryz.prog 195 []=some S_gerundref12_of:=by kernel_rfl
def B_gerundref12_First_0:SC :=
  .seq (.seq (ab [aa 24 6,af 25 2 1,ae 26 25,aj 27 26,ak 28 .lss 24 27]) <|
  .cond (.tmp 28) (.skip) (.exit 2)) <|
  .seq (.block 3 (.seq (ab [af 31 2 1,ae 32 31,aa 33 6,av 34 3 32 33,au 35 3 34,((some 7),.op (.alloc [(.val (.int .i64 0)),(.emp 1),(.val (.int .i64 0))])),(none,.op (.store 3 (.tmp 7) (.tmp 35)))]) <|
  .region true [⟨none,[aa 36 4,af 37 0 7,ae 38 37,aa 39 4,af 40 0 7,ae 41 40,av 42 1 39 41,ae 43 42,af 44 1 7,ae 45 44,aa 46 3,aa 47 4,aD 48 195 [(.tmp 45),(.tmp 46),(.tmp 47),(.val (.val (.int .u32 0)))],ak 49 .or 43 48,av 50 1 36 38,(none,.op (.store 1 (.tmp 50) (.tmp 49)))]⟩])) <|
  ab [aa 29 6,ah 30 .add 29 1,aa 6 30]
def B_gerundref12_First_1:SC :=
  .seq (.seq (ab [aa 17 5,af 18 1 1,ae 19 18,aj 20 19,ak 21 .lss 17 20]) <|
  .cond (.tmp 21) (.skip) (.exit 0)) <|
  .seq (.block 1 (.seq (ab [ai 6 0]) <|
  .block 2 (.loop B_gerundref12_First_0))) <|
  ab [aa 22 5,ah 23 .add 22 1,aa 5 23]
def S_gerundref12_First:SF:=⟨.seq (ab [aC 1 0,((some 2),.op (.mov (.val (.emp 1))))]) <|
  .seq (.seq (ab [au 8 4 1,ao 9 66 [8],aB 10 9]) <|
  .cond (.tmp 10) (.seq (ab [((some 2),.op (.mov (.val (.emp 1))))]) <|
  .ret) (.skip)) <|
  .seq (ab [au 11 4 1,ao 12 196 [11],aa 3 12]) <|
  .seq (ab [af 13 1 1,ae 14 13,aj 15 14,((some 16),.op (.make 1 4 [(.val (.int .u32 0))] (.tmp 15) (.tmp 15))),aa 4 16]) <|
  .seq (.seq (ab [ai 5 0]) <|
  .block 0 (.loop B_gerundref12_First_1)) <|
  .seq (ab [aa 51 4,aa 2 51]) <|
  .ret,
  [.tmp 2],52⟩
theorem S_gerundref12_First_ok:compF Tryz.prog 197 [1]=some S_gerundref12_First:=by kernel_rfl
theorem bitD_nat {n:Int} (h:0≤n∧n≤31):(bitD n).toNat=2 ^ n.toNat:=by
  rw[bitD,if_pos h,BitVec.toNat_twoPow]
  exact Nat.mod_eq_of_lt (Nat.pow_lt_pow_right (by omega) (by omega))
theorem pc_Bit03 (n:Int):PCall Tryz.prog 95 [gi n] (gw (bitD n)):=by
  refine PCall.val (by intro v hv; simp at hv; subst hv; exact .val _) fun H=>?_
  refine MCall.of mixed S_gerundref03_Bit_ok ?_
  simp (disch:=omega) only [↓wr,↓reduceIte,wq,oneV,intOp,Nat.reduceLeDiff,reduceCtorEq,S_gerundref03_Bit]
  have bad:¬ (0≤n∧n≤31)→bitD n=0:=fun h=>by rw[bitD,if_neg h]
  refine GoB.dec (fun h1=>?_) (fun h1=>?_)
  · simp (disch:=omega) only [↓wr,↓reduceIte,wq,Nat.reduceEqDiff,reduceCtorEq]
    rw[bad (by omega)]; rfl
  simp (disch:=omega) only [↓wr,↓reduceIte,wq,intOp,Nat.reduceEqDiff,reduceCtorEq]
  refine GoB.dec (fun h2=>?_) (fun h2=>?_)
  · simp (disch:=omega) only [↓wr,↓reduceIte,wq,reduceCtorEq]
    rw[bad (by omega)]; rfl
  simp (disch:=omega) only [↓wr,wq]
  refine LoopG.up n.toNat (fun i T H'=>T 0=gi n∧T 3=.val (.int .u32 ((2 ^ i:Nat):Int))∧T 4=gi i) ⟨rfl,rfl,rfl⟩ ?_
  rintro i k T H' hk ⟨t0,t3,t4⟩
  simp (disch:=omega) only [↓wr,↓reduceIte,wq,intOp,Nat.reduceEqDiff,reduceCtorEq,B_gerundref03_Bit_0,t0,t4]
  refine GoB.dec (fun hc=>?_) (fun hc=>?_)
  · have h31:2 ^ (i+1)≤2 ^ 31:=Nat.pow_le_pow_right (by omega) (by omega)
    have e:2 ^ (i+1)=2 ^ i * 2:=Nat.pow_succ _ _
    have hw:IntKind.wrap .u32 (((2 ^ i:Nat):Int) * 2)=((2 ^ (i+1):Nat):Int):=by
      rw[e,Int.natCast_mul]
      exact wrapU (by omega) (by omega)
    simp (disch:=omega) only [↓wr,↓reduceIte,wq,intOp,Nat.reduceEqDiff,reduceCtorEq,t3,t4,hw]
    exact up_next hk (by omega) ⟨t0,rfl,rfl⟩
  · simp (disch:=omega) only [↓wr,↓reduceIte,wq,Nat.reduceEqDiff,reduceCtorEq,t3]
    rw[bitD_nat (by omega),show i=n.toNat by omega]
theorem pc_Has03 (s:BV) (n:Int):PCall Tryz.prog 97 [gw s,gi n] (gb (hasB s n)):=by
  refine PCall.val (by
    intro v hv; simp at hv
    rcases hv with rfl | rfl <;> exact .val _) fun H=>?_
  refine MCall.of mixed S_gerundref03_Has_ok ?_
  simp (disch:=omega) only [↓wr,↓reduceIte,wq,oneV,Nat.reduceEqDiff,Nat.reduceAdd,Nat.reduceLeDiff,reduceCtorEq,S_gerundref03_Has]
  refine CallG.pure (pc_Bit03 n) (by kernel_rfl) ?_
  simp (disch:=omega) only [↓wr,↓reduceIte,wq,intOp,Nat.reduceEqDiff,reduceCtorEq,and32]
  congr 2
  unfold hasB
  rw[Bool.eq_iff_iff]
  simp only[bne_iff_ne,ne_eq,decide_eq_true_eq,toNat_zero]
theorem gw_get {l:List BV} {i:Nat} {x:BV} (h:l[i]?=some x):(wordsE l).getD i []=[gw x]:=by simp[List.getD_eq_getElem?_getD,h]
set_option maxHeartbeats 4000000 in
theorem pc_of12 (syms:List Int) (null:List Bool) (first:List BV) (rest:BV) (hs:Short syms) (hn:∀ s∈syms,In64 s∧(s < 0→(-1 - s).toNat < null.length∧(-1 - s).toNat < first.length)) :
    PCall Tryz.prog 195 [encI syms,encB null,encU first,gw rest] (gw (ofD null first rest syms)):=by
  unfold Short at hs
  refine PCall.val (by
    intro v hv; simp at hv
    rcases hv with rfl | rfl | rfl | rfl
    · exact encI_tree _
    · exact encB_tree _
    · exact encU_tree _
    · exact .val _) fun H=>?_
  refine MCall.of mixed S_gerundref12_of_ok ?_
  simp (disch:=omega) only [↓wr,wq,oneV,Nat.reduceAdd,Nat.reduceLeDiff,S_gerundref12_of,encI,encB]
  refine LoopG.up syms.length (fun i T H'=>∃ s:BV,s ||| ofD null first rest (syms.drop i)=ofD null first rest syms∧T 0=encI syms∧T 1=encB null∧T 2=encU first∧T 3=gw rest∧T 9=gw s∧T 10=gi i) ⟨0,by simp,rfl,rfl,rfl,rfl,rfl,rfl⟩ ?_
  rintro i k T H' hk ⟨s,he,t0,t1,t2,t3,t9,t10⟩
  simp (disch:=omega) only [↓wr,↓reduceIte,wq,intOp,goI,Nat.reduceEqDiff,Int.reduceNeg,reduceCtorEq,B_gerundref12_of_0,t0,t10,encI]
  refine GoB.dec (fun hc=>?_) (fun hc=>?_)
  · have hx:syms[i]?=some (syms[i]'(by omega)):=List.getElem?_eq_getElem (by omega)
    have hdr:syms.drop i=syms[i]'(by omega) :: syms.drop (i+1):=List.drop_eq_getElem_cons (by omega)
    have hm:=hn _ (List.getElem_mem (show i < syms.length by omega))
    generalize syms[i]'(by omega)=x at hx hdr hm
    obtain ⟨hm1,hm2⟩:=hm
    unfold In64 at hm1
    rw[hdr,ofD] at he
    simp (disch:=omega) only [↓wr,↓reduceIte,wq,intOp,Nat.reduceEqDiff,Nat.reduceLT,Int.reduceNeg,reduceCtorEq,t0,t10,encI,List.getElem?_map,hx]
    refine GoB.dec (fun h0=>?_) (fun h0=>?_)
    · rw[if_pos h0] at he
      simp (disch:=omega) only [↓wr,↓reduceIte,wq,Nat.reduceEqDiff,Nat.reduceLT,Int.reduceNeg,reduceCtorEq,t0,t9,t10,encI,List.getElem?_map,hx]
      refine CallG.pure (pc_Bit03 x) (by kernel_rfl) ?_
      simp (disch:=omega) only [↓wr,↓reduceIte,wq,intOp,Nat.reduceEqDiff,Int.reduceNeg,reduceCtorEq,or32]
      rw[he]
    · rw[if_neg h0] at he
      obtain ⟨q1,q2⟩:=hm2 (by omega)
      have hb:null[(-1 - x).toNat]?=some (null.getD (-1 - x).toNat false):=getD_some q1
      have hf:first[(-1 - x).toNat]?=some (first.getD (-1 - x).toNat 0):=getD_some q2
      simp (disch:=omega) only [↓wr,↓reduceIte,wq,intOp,Nat.reduceEqDiff,Nat.reduceLT,Int.reduceNeg,reduceCtorEq,t0,t1,t2,t9,t10,encI,encB,encU,List.getElem?_map,hx,hb,hf,or32]
      refine GoB.split (fun hnb=>?_) (fun hnb=>?_)
      · simp (disch:=omega) only [↓wr,↓reduceIte,wq,intOp,Nat.reduceEqDiff,Int.reduceNeg,reduceCtorEq,t3,t10]
        rw[if_pos hnb,← BitVec.or_assoc] at he
        exact up_next hk (by omega) ⟨_,he,t0,t1,t2,t3,rfl,rfl⟩
      · simp (disch:=omega) only [↓wr,↓reduceIte,wq,intOp,Nat.reduceEqDiff,Int.reduceNeg,reduceCtorEq]
        rw[if_neg (by rw[hnb]; simp)] at he
        rw[he]
  · rw[List.drop_eq_nil_of_le (by omega),ofD] at he
    simp (disch:=omega) only [↓wr,↓reduceIte,wq,Nat.reduceEqDiff,reduceCtorEq,t3,t9,or32]
    rw[he]
theorem frn_words {h:Heap} {u:V} {l:List BV} (ho:OwnA h.view u 1 (wordsE l)):FrN h u (encU l):=FrN.vals (f:=fun x:BV=>.int .u32 x.toNat) ho
theorem lent_words {H:View} {u:V} {l:List BV} (h:OwnA H u 1 (wordsE l)):Lent H u (encU l) :=
  Lent.own h fun e he v hv=>by
    obtain ⟨x,_,rfl⟩:=List.mem_map.1 he
    simp at hv; subst hv; exact .val _
def firstG (g:Gram):List BV:=if right09 g=true then firstD g (grown09 g false) else []
set_option maxHeartbeats 8000000 in
theorem pn_First12 (g:Gram) (hg:g.Ok):PNew Tryz.prog 197 [.agg (encG g)] (encU (firstG g)):=by
  refine PNew.of (gg_tree g) ?_
  have hr9:=pc_Right09 g hg
  have hnl:=pc_Nullable11 g hg
  refine MCall.of mixed S_gerundref12_First_ok ?_
  simp only[encG,encS] at hr9 hnl
  simp (disch:=omega) only [↓wr,↓reduceIte,wq,oneV,Nat.reduceEqDiff,Nat.reduceAdd,Nat.reduceLeDiff,S_gerundref12_First,encG,encS]
  refine CallG.pure hr9 (by kernel_rfl) ?_
  unfold firstG
  simp (disch:=omega) only [↓wr,↓reduceIte,wq]
  refine GoB.split (fun hr=>?_) (fun hr=>?_)
  rotate_left
  · simp (disch:=omega) only [↓wr,↓reduceIte,wq,reduceCtorEq]
    rintro h' _
    rw[if_neg (by rw[hr]; simp)]
    exact .emp _
  have hf:=right09_fine hr
  have hN:=hf.nons; have hN1:=hf.nons1
  rw[if_pos hr]
  have hnlen:=grown09_len hr false
  simp (disch:=omega) only [↓wr,↓reduceIte,wq,Nat.reduceEqDiff,Nat.reduceAdd,Nat.reduceLeDiff]
  refine CallG.pure hnl (by kernel_rfl) ?_
  generalize grown09 g false=null at hnlen ⊢
  simp (disch:=omega) only [↓wr,↓reduceIte,wq,goI,Nat.reduceEqDiff,Nat.reduceAdd,Nat.reduceLT]
  refine ⟨⟨by omega,by unfold limit; omega,by unfold limit; omega⟩,fun hz=>absurd hz (by omega),fun _ m=>?_⟩
  have hrep:List.replicate g.nons.length [V.val (Value.int IntKind.u32 0)]=wordsE (List.replicate g.nons.length (0:BV)):=by simp
  rw[hrep]
  have h0l:(List.replicate g.nons.length (0:BV)).length=g.nons.length:=by simp
  unfold firstD
  generalize List.replicate g.nons.length (0:BV)=fs0 at h0l ⊢
  refine LoopG.intro (fun k T H'=>∃ (i:Nat) (fs:List BV),i+k=g.nons.length∧fs.length=g.nons.length∧iter (roundF g null) k fs=iter (roundF g null) g.nons.length fs0∧T 1=.fptr (encG g) 0∧T 3=encB null∧T 4=.sl m 0 g.nons.length 1∧H' m=.arr 1 (wordsE fs)∧T 5=gi i) g.nons.length
    ⟨0,fs0,by omega,h0l,rfl,rfl,rfl,rfl,by simp[View.set],rfl⟩ ?_
  rintro k T H' ⟨i,fs,hk,hlen,hi,t1,t3,t4,tm,t5⟩
  simp (disch:=omega) only [↓wr,↓reduceIte,wq,intOp,goI,Nat.reduceEqDiff,Nat.reduceAdd,Nat.reduceLT,reduceCtorEq,B_gerundref12_First_1,t1,t5,encG,encS]
  refine GoB.dec (fun hc=>?_) (fun hc=>?_)
  · simp (disch:=omega) only [↓wr,wq]
    refine LoopG.up g.rules.length (fun j T H'=>∃ fs':List BV,fs'.length=g.nons.length∧(g.rules.drop j).foldl (stepF null) fs'=roundF g null fs∧T 1=.fptr (encG g) 0∧T 3=encB null∧T 4=.sl m 0 g.nons.length 1∧H' m=.arr 1 (wordsE fs')∧T 5=gi i∧T 6=gi j)
      ⟨fs,hlen,rfl,t1,t3,t4,tm,t5,rfl⟩ ?_
    clear t1 t3 t4 tm t5
    rintro j k2 T2 H2 hk2 ⟨fs',hl',hj,t1,t3,t4,tm,t5,t6⟩
    simp (disch:=omega) only [↓wr,↓reduceIte,wq,intOp,goI,Nat.reduceEqDiff,Nat.reduceAdd,Nat.reduceLT,B_gerundref12_First_0,t1,t6,encG]
    refine GoB.dec (fun hd=>?_) (fun hd=>?_)
    · have hru:=hf.rules
      have hg2:g.rules[j]?=some (g.rules[j]'(by omega)):=List.getElem?_eq_getElem (by omega)
      rw[drop_at (show j < g.rules.length by omega)] at hj
      have hmem:g.rules[j]'(by omega)∈g.rules:=List.getElem_mem _
      generalize g.rules[j]'(by omega)=R at hg2 hj hmem
      simp only[List.foldl_cons] at hj
      obtain ⟨hl1,hl2⟩:=hf.left R hmem
      obtain ⟨_,_,hs1,hs2⟩:=hg.rule R hmem
      have hof:=pc_of12 R.right null fs' 0 hs1 fun s hs=>⟨hs2 s hs,fun hn=>by have:=hf.neg hmem hs hn; omega⟩
      have hfl:fs'[R.left.toNat]?=some (fs'.getD R.left.toNat 0):=getD_some (by omega)
      simp (disch:=omega) only [↓wr,↓reduceIte,wq,splice,Nat.reduceEqDiff,Nat.reduceAdd,Nat.reduceLT,Nat.reduceLeDiff,t1,t4,t6,encG,encS,encR,List.getElem?_map,hg2]
      intro b hb
      have hbm:¬ m=b:=by rintro rfl; rw[tm] at hb; simp at hb
      rw[set_set]
      simp (disch:=omega) only [↓wr,↓reduceIte,wq,Nat.reduceEqDiff,Nat.reduceAdd,Nat.reduceLT,t3,t4,tm,hbm,gw_get hfl]
      refine ⟨rfl,by omega,by omega,?_⟩
      refine CallG.lend hof (by kernel_rfl) (.val _) ⟨.tree (encI_tree _),.tree (encB_tree _),lent_words (.inr ⟨m,by simp[hl'],by simp[View.set,hbm,tm]⟩),.tree (.val _),trivial⟩ ?_
      simp (disch:=omega) only [↓wr,↓reduceIte,wq,intOp,splice,Nat.reduceEqDiff,Nat.reduceLeDiff,reduceCtorEq,t1,t3,t4,t5,t6,tm,hbm,gw_get hfl,or32]
      refine ⟨by omega,by first | omega | (simp; omega),up_next hk2 (by omega) ⟨stepF null fs' R,by rw[stepF_len]; exact hl',hj,t1,t3,t4,?_,t5,rfl⟩⟩
      rw[show wordsE (stepF null fs' R)=(wordsE fs').set R.left.toNat [gw (fs'.getD R.left.toNat 0 ||| ofD null fs' 0 R.right)] from by rw[stepF,wordsE,List.map_set]]
      simp only[View.set,if_true]
    · rw[List.drop_eq_nil_of_le (by omega),List.foldl_nil] at hj
      simp (disch:=omega) only [↓wr,↓reduceIte,wq,Nat.reduceEqDiff,reduceCtorEq,t1,t3,t4,t5]
      obtain ⟨q,rfl⟩:∃ q,k=q+1:=⟨k - 1,by omega⟩
      exact ⟨q,by omega,i+1,fs',by omega,hl',by rw[hj]; exact hi,rfl,tm,rfl⟩
  · simp (disch:=omega) only [↓wr,↓reduceIte,wq,Nat.reduceEqDiff,reduceCtorEq,t4]
    have:k=0:=by omega
    subst this
    rintro h' rfl
    rw[← hi,← hlen]
    exact frn_words (.inr ⟨m,by simp[iter],tm⟩)
end Gv
