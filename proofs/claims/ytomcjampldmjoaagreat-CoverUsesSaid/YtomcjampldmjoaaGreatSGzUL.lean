/-
  Part 12 of the proof: what the machine does and what the functions answer.
  Conditions: those that each lemma names.
-/
import Derived.Test.YtomcjampldmjoaaGreatSGzUK
set_option linter.unusedSimpArgs false
set_option linter.unusedVariables false
set_option linter.unusedSimpArgs false
namespace Gv
open Go
structure Way where
  bU:Int
  bb:Int
  place:Int
def bF (F:List Way):List Int:=F.map Way.bU
def jx (k j s:Int) (F:List Way):List Way:=if s < 0∧-1 - s ∉ bF F then F ++ [⟨-1 - s,k,j⟩] else F
def ic (k:Int):Int→List Int→List Way→List Way
  | _,[],F=>F
  | j,s :: l,F=>ic k (j+1) l (jx k j s F)
def kB (n k:Int) (R:aJ) (F:List Way):List Way:=if R.left=n then ic k 0 R.right F else F
def fj (n:Int):Int→List aJ→List Way→List Way
  | _,[],F=>F
  | k,R :: l,F=>fj n (k+1) l (kB n k R F)
def dT (g:al):Nat→List Way
  | 0=>[⟨g.start,-1,0⟩]
  | i+1=>match (dT g i)[i]? with
    | some x=>fj x.bU 0 g.rules (dT g i)
    | none=>dT g i
def eR (g:al):List Way:=dT g g.ax.length
theorem xH (k s:Int):∀ (l:List Int) (j:Int) (F:List Way),ic k j (l ++ [s]) F=jx k (j+l.length) s (ic k j l F)
  | [],j,F=>by simp[ic]
  | x :: l,j,F=>by
    rw[List.cons_append,ic,xH k s l,ic,List.length_cons]
    congr 1
    push_cast; omega
theorem vS (n:Int) (R:aJ):∀ (l:List aJ) (k:Int) (F:List Way),fj n k (l ++ [R]) F=kB n (k+l.length) R (fj n k l F)
  | [],k,F=>by simp[fj]
  | x :: l,k,F=>by
    rw[List.cons_append,fj,vS n R l,fj,List.length_cons]
    congr 1
    push_cast; omega
structure c5 (g:al) (F:List Way):Prop where
  first:F[0]?=some ⟨g.start,-1,0⟩
  nodup:(bF F).Nodup
  from_:∀ i x,F[i]?=some x→0 < i→∃ (k j:Nat) (R:aJ),x.bb=(k:Int)∧x.place=(j:Int)∧g.rules[k]?=some R∧R.right[j]?=some (-1 - x.bU)∧0≤x.bU∧∃ m y,m < i∧F[m]?=some y∧y.bU=R.left
theorem c5.pre {g:al} {F:List Way} (h:c5 g F) {i m:Nat} {x:Way} (hx:F[i]?=some x) (w:Way):(F ++ [w])[i]?=some x:=by
  rw[List.getElem?_append_left (List.getElem?_eq_some_iff.1 hx).1]; exact hx
theorem DG {g:al} {F:List Way} {k j m:Nat} {R:aJ} {s:Int} {y:Way} (h:c5 g F) (hR:g.rules[k]?=some R) (hs:R.right[j]?=some s) (hm:F[m]?=some y) (hy:y.bU=R.left):c5 g (jx k j s F):=by
  unfold jx
  split
  · rename_i hc
    refine ⟨?_,?_,fun i x hx hi=>?_⟩
    · rw[List.getElem?_append_left (List.getElem?_eq_some_iff.1 h.first).1]; exact h.first
    · rw[bF,List.map_append,List.nodup_append]
      refine ⟨h.nodup,by simp,fun a ha b hb e=>?_⟩
      simp at hb
      subst hb; subst e
      exact hc.2 ha
    · by_cases hl:i < F.length
      · rw[List.getElem?_append_left hl] at hx
        obtain ⟨k',j',R',h1,h2,h3,h4,h5,m',y',h6,h7,h8⟩:=h.from_ i x hx hi
        exact ⟨k',j',R',h1,h2,h3,h4,h5,m',y',h6,by rw[List.getElem?_append_left (by omega)]; exact h7,h8⟩
      · have hi':i=F.length:=by
          have:=(List.getElem?_eq_some_iff.1 hx).1
          simp at this; omega
        subst hi'
        simp at hx; subst hx
        have hml:=(List.getElem?_eq_some_iff.1 hm).1
        exact ⟨k,j,R,rfl,rfl,hR,by rw[hs]; congr 1; simp only; omega,by simp only; omega,m,y,hml,by rw[List.getElem?_append_left hml]; exact hm,hy⟩
  · exact h
theorem J8 (k j s:Int) (F:List Way):∃ l,jx k j s F=F ++ l:=by
  unfold jx
  split
  · exact ⟨_,rfl⟩
  · exact ⟨[],by simp⟩
theorem IZ (k j s:Int) (F:List Way) (hs:s < 0) : -1 - s∈bF (jx k j s F):=by
  unfold jx
  split
  · simp[bF]
  · rename_i hc
    apply Decidable.byContradiction
    intro h
    exact hc ⟨hs,h⟩
theorem vp {F l:List Way} {i:Nat} {x:Way} (h:F[i]?=some x):(F ++ l)[i]?=some x:=by
  rw[List.getElem?_append_left (List.getElem?_eq_some_iff.1 h).1]; exact h
theorem wj {F l:List Way} {n:Int} (h:n∈bF F):n∈bF (F ++ l):=by
  simp only[bF,List.map_append,List.mem_append]
  exact .inl h
theorem BU {g:al} {k m:Nat} {R:aJ} {y:Way} (hR:g.rules[k]?=some R) (hy:y.bU=R.left):∀ (l:List Int) (j:Nat) (F:List Way),R.right.drop j=l→c5 g F→F[m]?=some y →
    c5 g (ic k j l F)∧(∃ e,ic k j l F=F ++ e)∧∀ s∈l,s < 0→-1 - s∈bF (ic k j l F)
  | [],j,F,_,h,_=>⟨h,⟨[],by simp[ic]⟩,by simp⟩
  | s :: l,j,F,hd,h,hm=>by
    have hs:R.right[j]?=some s:=by
      have:=List.getElem?_drop (xs:=R.right) (i:=j) (j:=0)
      rw[hd] at this
      simpa using this.symm
    have hd':R.right.drop (j+1)=l:=by rw[← List.drop_drop,hd]; rfl
    obtain ⟨e1,h1⟩:=J8 k j s F
    have ho:=DG h hR hs hm hy
    have hm':(jx k j s F)[m]?=some y:=by rw[h1]; exact vp hm
    obtain ⟨a,⟨e2,b⟩,c⟩:=BU hR hy l (j+1) (jx k j s F) hd' ho hm'
    rw[ic]
    push_cast at a b c
    refine ⟨a,⟨e1 ++ e2,by rw[b,h1,List.append_assoc]⟩,fun x hx hn=>?_⟩
    rcases List.mem_cons.1 hx with rfl | hx
    · rw[b]
      exact wj (IZ _ _ _ _ hn)
    · exact c x hx hn
theorem zP {g:al} {m:Nat} {y:Way} : ∀ (l:List aJ) (k:Nat) (F:List Way),g.rules.drop k=l→c5 g F→F[m]?=some y →
    c5 g (fj y.bU k l F)∧(∃ e,fj y.bU k l F=F ++ e)∧∀ R∈l,R.left=y.bU→∀ s∈R.right,s < 0→-1 - s∈bF (fj y.bU k l F)
  | [],k,F,_,h,_=>⟨h,⟨[],by simp[fj]⟩,by simp⟩
  | R :: l,k,F,hd,h,hm=>by
    have hR:g.rules[k]?=some R:=by
      have:=List.getElem?_drop (xs:=g.rules) (i:=k) (j:=0)
      rw[hd] at this
      simpa using this.symm
    have hd':g.rules.drop (k+1)=l:=by rw[← List.drop_drop,hd]; rfl
    have h0:c5 g (kB y.bU k R F)∧(∃ e,kB y.bU k R F=F ++ e)∧(R.left=y.bU→∀ s∈R.right,s < 0→-1 - s∈bF (kB y.bU k R F)):=by
      unfold kB
      split
      · rename_i hl
        have:=BU hR hl.symm R.right 0 F (by simp) h hm
        exact ⟨this.1,this.2.1,fun _=>this.2.2⟩
      · rename_i hl
        exact ⟨h,⟨[],by simp⟩,fun e=>absurd e hl⟩
    obtain ⟨ho,⟨e1,h1⟩,hk⟩:=h0
    have hm':(kB y.bU k R F)[m]?=some y:=by rw[h1]; exact vp hm
    obtain ⟨a,⟨e2,b⟩,c⟩:=zP l (k+1) (kB y.bU k R F) hd' ho hm'
    rw[fj]
    push_cast at a b c
    refine ⟨a,⟨e1 ++ e2,by rw[b,h1,List.append_assoc]⟩,fun x hx hl s hs hn=>?_⟩
    rcases List.mem_cons.1 hx with rfl | hx
    · rw[b]
      exact wj (hk hl s hs hn)
    · exact c x hx hl s hs hn
def yE (g:al) (F:List Way) (i:Nat):Prop:=∀ m y,m < i→F[m]?=some y→∀ R∈g.rules,R.left=y.bU→∀ s∈R.right,s < 0→-1 - s∈bF F
theorem CX (g:al):∀ i,c5 g (dT g i)∧yE g (dT g i) i
  | 0=>⟨⟨rfl,by simp[dT,bF],fun i x hx hi=>by
      cases i with
      | zero=>omega
      | succ i=>simp[dT] at hx⟩,fun m y hm=>by omega⟩
  | i+1=>by
    obtain ⟨h1,h2⟩:=CX g i
    rw[dT]
    cases hx:(dT g i)[i]? with
    | none =>
      simp only
      refine ⟨h1,fun m y hm hy=>?_⟩
      have:=(List.getElem?_eq_some_iff.1 hy).1
      have:=List.getElem?_eq_none_iff.1 hx
      exact h2 m y (by omega) hy
    | some x =>
      simp only
      obtain ⟨a,⟨e,b⟩,c⟩:=zP (g:=g) g.rules 0 (dT g i) (by simp) h1 hx
      simp only[Int.natCast_zero] at a b c
      refine ⟨a,fun m y hm hy R hR hl s hs hn=>?_⟩
      by_cases hmi:m=i
      · subst hmi
        rw[b,vp hx] at hy
        simp at hy; subst hy
        exact c R hR hl s hs hn
      · have hml:m < (dT g i).length:=by
          have:=(List.getElem?_eq_some_iff.1 hx).1
          omega
        have hy':(dT g i)[m]?=some y:=by
          rw[b,List.getElem?_append_left hml] at hy; exact hy
        rw[b]
        exact wj (h2 m y (by omega) hy' R hR hl s hs hn)
theorem CE {g:al} {i:Nat} (h:(dT g i).length≤i):∀ d,dT g (i+d)=dT g i
  | 0=>rfl
  | d+1=>by
    have ih:=CE h d
    rw[← Nat.add_assoc,dT,ih,List.getElem?_eq_none (by omega)]
theorem c5.inside {g:al} {F:List Way} (h:c5 g F) (h0:0≤g.start∧g.start < g.ax.length) (hs:∀ R∈g.rules,∀ s∈R.right,s < 0→-1 - s < g.ax.length):∀ n∈bF F,0≤n∧n < g.ax.length:=by
  intro n hn
  simp only[bF,List.mem_map] at hn
  obtain ⟨x,hx,rfl⟩:=hn
  obtain ⟨i,hi⟩:=List.mem_iff_getElem?.1 hx
  by_cases hi0:i=0
  · subst hi0
    rw[h.first] at hi
    simp at hi; subst hi
    exact h0
  · obtain ⟨k,j,R,_,_,h3,h4,h5,_⟩:=h.from_ i x hi (by omega)
    have:=hs R (List.mem_of_getElem? h3) _ (List.mem_of_getElem? h4) (by omega)
    omega
theorem c5.len {g:al} {F:List Way} (h:c5 g F) (h0:0≤g.start∧g.start < g.ax.length) (hs:∀ R∈g.rules,∀ s∈R.right,s < 0→-1 - s < g.ax.length):F.length≤g.ax.length:=by
  have:=nG h.nodup (h.inside h0 hs)
  simpa [bF] using this
theorem KT {g:al} (h0:0≤g.start∧g.start < g.ax.length) (hs:∀ R∈g.rules,∀ s∈R.right,s < 0→-1 - s < g.ax.length):c5 g (eR g)∧yE g (eR g) (eR g).length:=by
  obtain ⟨h1,h2⟩:=CX g g.ax.length
  refine ⟨h1,fun m y hm hy=>?_⟩
  have:=h1.len h0 hs
  exact h2 m y (by unfold eR at hm; omega) hy
def lookW (F:List Way) (n:Int):Option Way:=F.find? fun x=>x.bU == n
def dc (F:List Way) (n:Int):Nat:=F.findIdx fun x=>x.bU == n
theorem Em {F:List Way} {n:Int} (h:n∈bF F):∃ x,lookW F n=some x∧F[dc F n]?=some x∧x.bU=n:=by
  induction F with
  | nil=>simp[bF] at h
  | cons y F ih =>
    by_cases e:y.bU=n
    · exact ⟨y,by simp[lookW,e],by simp[dc,List.findIdx_cons,e],e⟩
    · have h':n∈bF F:=by
        simp only[bF,List.map_cons,List.mem_cons] at h ⊢
        rcases h with h | h
        · exact absurd h.symm e
        · exact h
      obtain ⟨x,h1,h2,h3⟩:=ih h'
      refine ⟨x,by simpa [lookW,e] using h1,?_,h3⟩
      have:dc (y :: F) n=dc F n+1:=by simp[dc,List.findIdx_cons,show (y.bU == n)=false by simpa using e]
      rw[this]; simpa using h2
theorem L5 {F:List Way} {n:Int} {m:Nat} {y:Way} (h:F[m]?=some y) (hy:y.bU=n):dc F n≤m:=by
  induction F generalizing m with
  | nil=>simp at h
  | cons x F ih =>
    by_cases e:x.bU=n
    · simp[dc,List.findIdx_cons,e]
    · cases m with
      | zero=>simp at h; subst h; exact absurd hy e
      | succ m =>
        have:=ih (m:=m) (by simpa using h)
        have:dc (x :: F) n=dc F n+1:=by simp[dc,List.findIdx_cons,show (x.bU == n)=false by simpa using e]
        omega
theorem ux {g:al} {F:List Way} (h:c5 g F) {n:Int} (hn:n∈bF F) (hs:n≠g.start):∃ (k j:Nat) (R:aJ),lookW F n=some ⟨n,k,j⟩∧g.rules[k]?=some R∧R.right[j]?=some (-1 - n)∧0≤n∧R.left∈bF F∧dc F R.left < dc F n:=by
  obtain ⟨x,h1,h2,h3⟩:=Em hn
  have hi:0 < dc F n:=by
    apply Nat.pos_of_ne_zero
    intro e
    rw[e,h.first] at h2
    simp at h2; subst h2
    exact hs h3.symm
  obtain ⟨k,j,R,a,b,c,d,e,m,y,f1,f2,f3⟩:=h.from_ _ x h2 hi
  refine ⟨k,j,R,?_,c,by rw[d,h3],by omega,?_,?_⟩
  · rw[h1]
    cases x
    simp at a b h3
    subst a; subst b; subst h3; rfl
  · rw[← f3]
    exact List.mem_map.2 ⟨y,List.mem_of_getElem? f2,rfl⟩
  · exact Nat.lt_of_le_of_lt (L5 f2 f3) f1
theorem kK {g:al} {F:List Way} (h:c5 g F):lookW F g.start=some ⟨g.start,-1,0⟩:=by
  have:=h.first
  cases F with
  | nil=>simp at this
  | cons y F=>simp at this; subst this; simp[lookW]
theorem K1 {g:al} {F:List Way} (h:c5 g F) (hc:yE g F F.length) {p:List Bool} {n:Int} (hr:lJ g p n):n∈bF F:=by
  induction hr with
  | start=>exact List.mem_map.2 ⟨_,List.mem_of_getElem? h.first,rfl⟩
  | next R s hR _ _ hs hn ih =>
    simp only[bF,List.mem_map] at ih
    obtain ⟨y,hy,e⟩:=ih
    obtain ⟨m,hm⟩:=List.mem_iff_getElem?.1 hy
    exact hc m y (List.getElem?_eq_some_iff.1 hm).1 hm R hR e.symm s hs hn
end Gv
set_option linter.unusedSimpArgs false
namespace Gv
open Go
def cb (g:al) (place:Int) (inner:List Int):Int→List Int→Option (List Int)
  | _,[]=>some []
  | i,s :: l=>if 0≤s then cb g place inner (i+1) l
    else if i=place then (cb g place inner (i+1) l).map (inner ++ ·)
    else if (fS g (-1 - s)).2=0 then (cb g place inner (i+1) l).map ((fS g (-1 - s)).1 ++ ·) else none
def ef (g:al) (bb place:Int) (inner:List Int):List Int × Bool:=match cb g place inner 0 (pQ g bb) with
  | some l=>(bb :: l,decide ((bb :: l).length≤300))
  | none=>([],false)
def uo (g:al) (k:Int):Int:=(g.rules.getD k.toNat ⟨0,[],0⟩).left
def bW (g:al) (F:List Way):Nat→Int→List Int × Bool→List Int × Bool
  | 0,_,x=>x
  | f+1,n,x=>if x.2=true then (match lookW F n with
    | some w=>if 0≤w.bb then bW g F f (uo g w.bb) (ef g w.bb w.place x.1) else x
    | none=>x) else x
def jG (g:al) (t:List Int):Option Wk:=if bk g=true∧t.length≤300 then (match bP g t.length [-1 - g.start] t with
    | some x=>if x.rest=[] then some x else none
    | none=>none) else none
def jJ (g:al) (t:List Int):List Int × Int:=match jG g t with
  | some x=>(x.word,0)
  | none=>([],1)
def dP (g:al) (i:Int):List Int × Bool:=bW g (eR g) (dc (eR g) (uo g i)) (uo g i) (ef g i (-1) [])
def dz (g:al) (i:Int):List Int × Int:=if (dP g i).2=false then ([],13) else if 60 < (jJ g (dP g i).1).1.length then ([],13) else ((dP g i).1,0)
def mH (g:al) (i:Int):List Int × Int:=if (isRed g && decide (0≤i) && decide (i < g.rules.length))=true then dz g i else ([],1)
def bG (g:al):Nat→List (List Int) × Int
  | 0=>([],0)
  | i+1=>if (bG g i).2≠0 then bG g i else if (bG g i).1.any (fun t=>decide ((i:Int)∈t))=true then bG g i
    else if (dz g i).2=0 then ((bG g i).1 ++ [(dz g i).1],0) else ([],(dz g i).2)
def ng (g:al):List (List Int) × Int:=if isRed g=true then bG g g.rules.length else ([],1)
def k6 (g:al) (l:List (List Int)):List Bool:=if bk g=true then (List.range g.rules.length).map fun (i:Nat)=>l.any fun t=>decide ((i:Int)∈t) else []
theorem Iq {g:al} (hleft:∀ r∈g.rules,0≤r.left) {n:Int} (h:(fS g n).2=0):∃ w,gV g [-1 - n] (fS g n).1 w:=by
  unfold fS at h ⊢
  split at h
  · rename_i hc
    rw[if_pos hc]
    simp only[Bool.and_eq_true,decide_eq_true_eq] at hc
    split at h
    · simp at h
    · rename_i hk
      rw[if_neg hk]
      split at h
      · simp at h
      · rename_i h3
        rw[if_neg h3]
        refine ⟨_,Gs hleft _ _ fun x hx hn=>?_⟩
        simp at hx; subst hx
        have e:bK (-1 - n)=n.toNat:=by unfold bK; omega
        rw[e]
        have hkn:bj (ar g) n.toNat:=by unfold bj; omega
        exact ⟨hkn,(gZ hkn).2⟩
  · simp at h
theorem Ag {g:al} (hleft:∀ r∈g.rules,0≤r.left) {place:Int} {inner:List Int} : ∀ (l:List Int) (i:Int) (t:List Int),(∀ s,l[(place - i).toNat]?=some s→i≤place→s < 0→∃ w,gV g [s] inner w)→cb g place inner i l=some t→∃ w,gV g l t w
  | [],i,t,_,h=>by
    rw[cb] at h; simp at h; subst h
    exact ⟨[],.nil⟩
  | s :: l,i,t,hin,h=>by
    have hrec:∀ t',cb g place inner (i+1) l=some t'→∃ w,gV g l t' w:=fun t' h'=>Ag hleft l (i+1) t' (fun s' hs' hi hn=>hin s' (by
      have:(place - i).toNat=(place - (i+1)).toNat+1:=by omega
      rw[this]; simpa using hs') (by omega) hn) h'
    rw[cb] at h
    split at h
    · rename_i h0
      obtain ⟨w,hw⟩:=hrec t h
      exact ⟨s :: w,.term s l t w h0 hw⟩
    · rename_i h0
      split at h
      · rename_i hp
        cases hr:cb g place inner (i+1) l with
        | none=>rw[hr] at h; simp at h
        | some t' =>
          rw[hr] at h; simp at h; subst h
          obtain ⟨w1,hw1⟩:=hin s (by rw[hp]; simp) (by omega) (by omega)
          obtain ⟨w2,hw2⟩:=hrec t' hr
          exact ⟨w1 ++ w2,by have:=hw1.app hw2; simpa using this⟩
      · split at h
        · rename_i ht
          cases hr:cb g place inner (i+1) l with
          | none=>rw[hr] at h; simp at h
          | some t' =>
            rw[hr] at h; simp at h; subst h
            obtain ⟨w1,hw1⟩:=Iq hleft ht
            rw[show -1 - (-1 - s)=s by omega] at hw1
            obtain ⟨w2,hw2⟩:=hrec t' hr
            exact ⟨w1 ++ w2,by have:=hw1.app hw2; simpa using this⟩
        · simp at h
theorem jd {g:al} {k:Nat} {R:aJ} (h:g.rules[k]?=some R):pQ g (k:Int)=R.right∧uo g (k:Int)=R.left:=by
  simp[pQ,uo,List.getD_eq_getElem?_getD,h]
theorem Bh {g:al} (hleft:∀ r∈g.rules,0≤r.left) {k:Nat} {R:aJ} (hR:g.rules[k]?=some R) {place:Int} {inner:List Int} (hin:∀ s,R.right[place.toNat]?=some s→0≤place→s < 0→∃ w,gV g [s] inner w) (h:(ef g k place inner).2=true) :
    ∃ w,gV g [-1 - R.left] (ef g k place inner).1 w∧(ef g k place inner).1.length≤300:=by
  unfold ef at h ⊢
  rw[(jd hR).1] at h ⊢
  cases hp:cb g place inner 0 R.right with
  | none=>rw[hp] at h; simp at h
  | some t =>
    rw[hp] at h
    simp only[decide_eq_true_eq] at h
    simp only
    obtain ⟨w,hw⟩:=Ag hleft R.right 0 t (fun s hs h0 hn=>hin s (by simpa using hs) h0 hn) hp
    have:=hleft R (List.mem_of_getElem? hR)
    refine ⟨w,?_,h⟩
    have:=gV.bU (-1 - R.left) [] k R t w [] [] (by omega) hR (by omega) hw .nil
    simpa using this
theorem C3 {g:al} {k place:Int} {inner:List Int} (h:(ef g k place inner).2=true):(ef g k place inner).1.length≤300:=by
  unfold ef at h ⊢
  split at h
  · rename_i l hl
    rw[hl] at *
    simpa using h
  · simp at h
theorem zV {g:al} {F:List Way} (hF:c5 g F) (hleft:∀ r∈g.rules,0≤r.left):∀ (f:Nat) (n:Int) (x:List Int × Bool),n∈bF F→dc F n≤f→(x.2=true→∃ w,gV g [-1 - n] x.1 w∧x.1.length≤300)→(bW g F f n x).2=true →
    ∃ w,gV g [-1 - g.start] (bW g F f n x).1 w∧(bW g F f n x).1.length≤300
  | 0,n,x,hn,hf,hx,h=>by
    rw[bW] at h ⊢
    by_cases e:n=g.start
    · rw[← e]; exact hx h
    · obtain ⟨_,_,_,_,_,_,_,_,h6⟩:=ux hF hn e
      omega
  | f+1,n,x,hn,hf,hx,h=>by
    rw[bW] at h ⊢
    split at h
    · rename_i hx2
      rw[if_pos hx2]
      by_cases e:n=g.start
      · subst e
        rw[kK hF] at h ⊢
        simp only at h ⊢
        rw[if_neg (by omega)] at h ⊢
        exact hx h
      · obtain ⟨k,j,R,h1,h2,h3,h4,h5,h6⟩:=ux hF hn e
        rw[h1] at h ⊢
        simp only at h ⊢
        rw[if_pos (by omega),(jd h2).2] at h ⊢
        refine zV hF hleft f R.left _ h5 (by omega) (fun hg=>?_) h
        refine Bh hleft h2 (fun s hs _ _=>?_) hg
        rw[Int.toNat_natCast,h3] at hs
        simp at hs; subst hs
        obtain ⟨w,hw,_⟩:=hx hx2
        exact ⟨w,hw⟩
    · rename_i hx2
      rw[if_neg hx2]
      exact absurd h hx2
theorem ja {g:al} (h:isRed g=true):bk g=true∧c5 g (eR g)∧∀ k:Nat,k < g.ax.length→(k:Int)∈bF (eR g):=by
  unfold isRed at h
  simp only[Bool.and_eq_true,beq_iff_eq,decide_eq_true_eq] at h
  obtain ⟨h1,h2⟩:=h
  have hr:bk g=true:=by
    apply Decidable.byContradiction
    intro hn
    unfold fK at h1
    simp[hn] at h1
  have hf:=bc hr
  have hp:(aG g true).getD g.start.toNat false=true:=by
    apply Decidable.byContradiction
    intro hn
    rw[oA hr,if_neg hn] at h1
    simp at h1
  have hred:=LI hr hp
  have e:iQ g (bJ (ca (aG g true) (bu g) g.rules)) (aG g true) (bu g)=g:=by
    rw[oA hr,if_pos hp] at h2
    exact h2.symm
  rw[e] at hred
  have hW:=KT (g:=g) ⟨hf.gY,hf.start⟩ (fun R hR s hs hn=>by
    have:=hf.sym R hR s hs
    unfold iA at this
    rw[if_neg (by omega)] at this
    simpa using this)
  refine ⟨hr,hW.1,fun k hk=>?_⟩
  rw[hred.len] at hk
  exact K1 hW.1 hW.2 (tU hr k (hred.zo hk))
theorem Bl {g:al} (h:isRed g=true) {i:Nat} (hi:i < g.rules.length) (hc:(dP g i).2=true):∃ w,gV g [-1 - g.start] (dP g i).1 w∧(dP g i).1.length≤300:=by
  obtain ⟨hr,hW,hall⟩:=ja h
  have hf:=bc hr
  have hleft:=fun r hr=>(hf.left r hr).1
  have hR:g.rules[i]?=some (g.rules[i]):=List.getElem?_eq_getElem hi
  have hb:=hf.left _ (List.getElem_mem hi)
  unfold dP at hc ⊢
  rw[(jd hR).2] at hc ⊢
  have hk:=hall (g.rules[i]).left.toNat (by omega)
  rw[show (((g.rules[i]).left.toNat:Nat):Int)=(g.rules[i]).left by omega] at hk
  exact zV hW hleft _ _ _ hk (Nat.le_refl _) (fun hg=>Bh hleft hR (fun s _ h0 _=>absurd h0 (by decide)) hg) hc
theorem AJ {g:al} (hr:bk g=true) {t w:List Int} (h:gV g [-1 - g.start] t w) (hl:t.length≤300):∃ x,jG g t=some x∧x.word=w:=by
  obtain ⟨x,h1,h2,h3⟩:=I6 h t.length [] (Nat.le_refl _)
  rw[List.append_nil] at h1
  exact ⟨x,by rw[jG,if_pos ⟨hr,hl⟩,h1]; simp[h2],h3⟩
end Gv
set_option linter.unusedSimpArgs false
namespace Gv
open Go
theorem tW {g:al} {place:Int} {inner:List Int} : ∀ (l:List Int) (i:Int) (t:List Int) (s:Int),l[(place - i).toNat]?=some s→i≤place→s < 0→cb g place inner i l=some t→∀ x∈inner,x∈t
  | [],i,t,s,hs,_,_,_=>by simp at hs
  | c :: l,i,t,s,hs,hi,hn,h=>by
    rw[cb] at h
    by_cases e:i=place
    · subst e
      simp at hs; subst hs
      rw[if_neg (by omega),if_pos rfl] at h
      intro x hx
      cases hr:cb g i inner (i+1) l with
      | none=>rw[hr] at h; simp at h
      | some t'=>rw[hr] at h; simp at h; subst h; simp[hx]
    · have hs':l[(place - (i+1)).toNat]?=some s:=by
        have:(place - i).toNat=(place - (i+1)).toNat+1:=by omega
        rw[this] at hs
        simpa using hs
      split at h
      · exact tW l (i+1) t s hs' (by omega) hn h
      · try rw[if_neg e] at h
        split at h
        · cases hr:cb g place inner (i+1) l with
          | none=>rw[hr] at h; simp at h
          | some t' =>
            rw[hr] at h; simp at h; subst h
            intro x hx
            have:=tW l (i+1) t' s hs' (by omega) hn hr x hx
            simp[this]
        · simp at h
theorem zu {g:al} {F:List Way} (hF:c5 g F):∀ (f:Nat) (n:Int) (x:List Int × Bool) (y:Int),n∈bF F→y∈x.1→(bW g F f n x).2=true→y∈(bW g F f n x).1
  | 0,n,x,y,_,hy,_=>by rw[bW]; exact hy
  | f+1,n,x,y,hn,hy,h=>by
    rw[bW] at h ⊢
    split at h
    · rename_i hx2
      rw[if_pos hx2]
      by_cases e:n=g.start
      · subst e
        rw[kK hF] at h ⊢
        simp only at h ⊢
        rw[if_neg (by omega)]
        exact hy
      · obtain ⟨k,j,R,h1,h2,h3,h4,h5,h6⟩:=ux hF hn e
        rw[h1] at h ⊢
        simp only at h ⊢
        rw[if_pos (by omega),(jd h2).2] at h ⊢
        by_cases hg:(ef g k j x.1).2=true
        · refine zu hF f R.left _ y h5 ?_ h
          unfold ef at hg ⊢
          rw[(jd h2).1] at hg ⊢
          cases hp:cb g j x.1 0 R.right with
          | none=>rw[hp] at hg; simp at hg
          | some t =>
            simp only
            exact List.mem_cons_of_mem _ (tW R.right 0 t (-1 - n) (by simpa using h3) (by omega) (by omega) hp y hy)
        · cases f with
          | zero=>rw[bW] at h; exact absurd h hg
          | succ f=>rw[bW,if_neg hg] at h; exact absurd h hg
    · rename_i hx2
      exact absurd h hx2
theorem Ju {g:al} (h:isRed g=true) {i:Nat} (hi:i < g.rules.length) (hc:(dP g i).2=true):(i:Int)∈(dP g i).1:=by
  obtain ⟨hr,hW,hall⟩:=ja h
  have hf:=bc hr
  have hR:g.rules[i]?=some (g.rules[i]):=List.getElem?_eq_getElem hi
  have hb:=hf.left _ (List.getElem_mem hi)
  have hk:=hall (g.rules[i]).left.toNat (by omega)
  rw[show (((g.rules[i]).left.toNat:Nat):Int)=(g.rules[i]).left by omega] at hk
  unfold dP at hc ⊢
  rw[(jd hR).2] at hc ⊢
  have hg:(ef g i (-1) []).2=true:=by
    apply Decidable.byContradiction
    intro hn
    cases hx:dc (eR g) (g.rules[i]).left with
    | zero=>rw[hx,bW] at hc; exact hn hc
    | succ f=>rw[hx,bW,if_neg hn] at hc; exact hn hc
  refine zu hW _ _ _ _ hk ?_ hc
  unfold ef at hg ⊢
  split
  · simp
  · rename_i hp
    rw[hp] at hg; simp at hg
theorem JY {g:al} {i:Int} (h:(dz g i).2=0):(dP g i).2=true∧(dz g i).1=(dP g i).1∧(jJ g (dP g i).1).1.length≤60:=by
  unfold dz at h ⊢
  split at h
  · simp at h
  · rename_i h1
    rw[if_neg h1]
    split at h
    · simp at h
    · rename_i h2
      rw[if_neg h2]
      exact ⟨by simpa using h1,rfl,by omega⟩
theorem HR {g:al} {i:Int} (h:(dz g i).2≠0):(dz g i).2=13∧(dz g i).1=[]:=by
  unfold dz at h ⊢
  split
  · exact ⟨rfl,rfl⟩
  · rename_i h1
    rw[if_neg h1] at h
    split
    · exact ⟨rfl,rfl⟩
    · rename_i h2
      rw[if_neg h2] at h
      simp at h
def Kt (g:al) (t:List Int):Prop:=∃ w,gV g [-1 - g.start] t w∧t.length≤300∧jJ g t=(w,0)∧w.length≤60
theorem FA {g:al} (h:isRed g=true) {i:Nat} (hi:i < g.rules.length) (hu:(dz g i).2=0):Kt g (dz g i).1∧(i:Int)∈(dz g i).1:=by
  obtain ⟨h1,h2,h3⟩:=JY hu
  obtain ⟨w,h4,h5⟩:=Bl h hi h1
  obtain ⟨x,h6,h7⟩:=AJ (ja h).1 h4 h5
  rw[h2]
  refine ⟨⟨w,h4,h5,?_,?_⟩,Ju h hi h1⟩
  · rw[jJ,h6,← h7]
  · rw[jJ,h6] at h3
    simp only at h3
    rw[← h7]; exact h3
theorem Ae {g:al} (h:isRed g=true):∀ i,i≤g.rules.length→(bG g i).1.length≤i∧(∀ t∈(bG g i).1,Kt g t)∧((bG g i).2=0→∀ k:Nat,k < i→∃ t∈(bG g i).1,(k:Int)∈t)∧((bG g i).2≠0→(bG g i).2=13∧(bG g i).1=[])
  | 0,_=>⟨by simp[bG],by simp[bG],fun _ k hk=>by omega,fun hn=>by simp[bG] at hn⟩
  | i+1,hi=>by
    obtain ⟨h1,h2,h3,h4⟩:=Ae h i (by omega)
    rw[bG]
    split
    · rename_i he
      exact ⟨by omega,h2,fun h0=>absurd h0 he,h4⟩
    · rename_i he
      have he:(bG g i).2=0:=by simpa using he
      split
      · rename_i ha
        refine ⟨by omega,h2,fun h0 k hk=>?_,h4⟩
        by_cases hki:k=i
        · subst hki
          obtain ⟨t,ht,hm⟩:=List.any_eq_true.1 ha
          exact ⟨t,ht,by simpa using hm⟩
        · exact h3 h0 k (by omega)
      · split
        · rename_i hu
          obtain ⟨hg,hm⟩:=FA h (i:=i) (by omega) hu
          refine ⟨by simp; omega,fun t ht=>?_,fun _ k hk=>?_,fun hn=>by simp at hn⟩
          · rcases List.mem_append.1 ht with ht | ht
            · exact h2 t ht
            · simp at ht; subst ht; exact hg
          · by_cases hki:k=i
            · subst hki
              exact ⟨_,by simp,hm⟩
            · obtain ⟨t,ht,hkt⟩:=h3 he k (by omega)
              exact ⟨t,by simp[ht],hkt⟩
        · rename_i hu
          obtain ⟨a,b⟩:=HR hu
          exact ⟨by simp,by simp,fun h0=>absurd h0 hu,fun _=>⟨a,rfl⟩⟩
end Gv
set_option linter.unusedSimpArgs false
set_option maxRecDepth 100000
namespace Gv
open Go Go.Proofs
def kX:SC :=
  .seq (ak [aS 66 .lss 65 64]) <|
  .seq (.cond (.tmp 66) (.skip) (.exit 0)) <|
  .seq (.block 1 (.seq (ak [bo 67 1 63 65,aq 68 67,aa 8 68]) <|
  .seq (.seq (ak [aa 69 8,aA 70 .geq 69 0]) <|
  .cond (.tmp 70) (.seq (ak [aa 71 0,aa 72 0,br 73 72,ao 74 5 73,aq 75 74,aa 76 8,((some 77),.op (.bE 1 1 [(.val (.int .i64 0))] [(0,(.tmp 76))])),((some 78),.op (.app 1 8 (.tmp 75) (.tmp 77))),br 79 71,ao 80 5 79,(none,.op (.store 1 (.tmp 80) (.tmp 78)))]) <|
  .exit 1) (.skip)) <|
  .seq (ak [aa 81 0,aa 82 8,((some 83),.op (.arith .sub (.val (.val (.int .i64 (-1)))) (.tmp 82))),aK 84 210 [81,83],aa 9 84]) <|
  .seq (.seq (ak [aa 85 9,aA 86 .eql 85 0]) <|
  .cond (.tmp 86) (.seq (ak [aI 4 0]) <|
  .ret) (.skip)) <|
  ak [aa 87 6,aa 88 9,((some 89),.op (.mm true (.tmp 87) (.tmp 88))),aa 6 89])) <|
  ak [aA 90 .add 65 1,aa 65 90]
def fC:SF:=⟨.seq (ak [aI 4 0]) <|
  .seq (.seq (ak [aa 10 0,br 11 10,ao 12 4 11,aq 13 12,aQ 14 13,aA 15 .eql 14 0]) <|
  .cond (.tmp 15) (.seq (ak [aI 4 0]) <|
  .ret) (.skip)) <|
  .seq (ak [aa 16 0,br 17 16,ao 18 4 17,aq 19 18,((some 20),.op (.idx 1 (.tmp 19) (.val (.val (.int .i64 0))))),aq 21 20,aa 5 21]) <|
  .seq (.seq (.region false [⟨none,[aa 22 5,aA 23 .lss 22 0,aa 24 23]⟩,⟨(some (24,false)),[aa 25 5,aa 26 0,br 27 26,ao 28 0 27,ao 29 2 28,aq 30 29,aQ 31 30,aS 32 .geq 25 31]⟩,⟨none,[bC 33 24 32,aa 34 33]⟩,⟨(some (34,false)),[aa 35 0,br 36 35,ao 37 0 36,ao 38 2 37,aq 39 38,aa 40 5,bo 41 3 39 40,ao 42 0 41,aq 43 42,aa 44 1,aS 45 .neq 43 44]⟩,⟨none,[bC 46 34 45]⟩]) <|
  .cond (.tmp 46) (.seq (ak [aI 4 0]) <|
  .ret) (.skip)) <|
  .seq (ak [aa 47 0,aa 48 0,br 49 48,ao 50 4 49,aq 51 50,((some 52),.op (.slice 1 (.tmp 51) (some (.val (.val (.int .i64 1)))) none)),br 53 47,ao 54 4 53,(none,.op (.store 1 (.tmp 54) (.tmp 52)))]) <|
  .seq (ak [aI 6 0]) <|
  .seq (.seq (ak [aa 55 0,br 56 55,ao 57 0 56,ao 58 2 57,aq 59 58,aa 60 5,bo 61 3 59 60,ao 62 1 61,aq 63 62,aQ 64 63,aI 65 0]) <|
  .block 0 (.loop kX)) <|
  .seq (ak [aa 91 0,aa 92 0,br 93 92,ao 94 6 93,aq 95 94,aa 96 5,((some 97),.op (.bE 1 1 [(.val (.int .i64 0))] [(0,(.tmp 96))])),((some 98),.op (.app 1 8 (.tmp 95) (.tmp 97))),br 99 91,ao 100 6 99,(none,.op (.store 1 (.tmp 100) (.tmp 98)))]) <|
  .seq (ak [aa 101 6,aA 102 .add 101 1,aa 4 102]) <|
  .ret,
  [.tmp 4],103⟩
theorem fZ:aV Tryz.prog 210 []=some fC:=by kernel_rfl
def vW:SF:=⟨.seq (ak [c8 2 0,((some 4),.op (.bd (.val (.val (.pointer none))))),aI 5 0]) <|
  .seq (.seq (.region false [⟨none,[aZ 8 4 2,aK 9 45 [8],cn 10 9,aa 11 10]⟩,⟨(some (11,false)),[aa 12 1,aQ 13 12,aA 14 .gtr 13 300]⟩,⟨none,[bC 15 11 14]⟩]) <|
  .cond (.tmp 15) (.seq (ak [((some 4),.op (.bd (.val (.val (.pointer none))))),aI 5 0]) <|
  .ret) (.skip)) <|
  .seq (ak [aZ 16 4 2,aa 17 1,((some 18),.op (.build [(.emp 1),(.emp 1),(.emp 1),(.val (.int .i64 0)),(.emp 1),(.emp 1),(.emp 1)] [(0,4,(.tmp 16)),(4,1,(.tmp 17))])),((some 19),.op (.box (.tmp 18))),aa 6 19]) <|
  .seq (ak [aa 20 6,ao 21 3 2,aq 22 21,aK 23 210 [20,22],aa 7 23]) <|
  .seq (.seq (ak [aa 24 6,br 25 24,ao 26 4 25,aq 27 26,aQ 28 27,aA 29 .gtr 28 0]) <|
  .cond (.tmp 29) (.seq (ak [((some 4),.op (.bd (.val (.val (.pointer none))))),aI 5 0]) <|
  .ret) (.skip)) <|
  .seq (ak [aa 30 6,aa 31 7,aa 4 30,aa 5 31]) <|
  .ret,
  [.tmp 4,.tmp 5],32⟩
theorem yW:aV Tryz.prog 170 [2]=some vW:=by kernel_rfl
def vG:SF:=⟨.seq (ak [c8 2 0,((some 4),.op (.bd (.val (.emp 1)))),aI 5 0]) <|
  .seq (ak [aZ 9 4 2,aa 10 1,aK 11 170 [9,10],aa 8 11,b6 12 0 8,b6 13 1 8,aa 6 12,aa 7 13]) <|
  .seq (.seq (ak [aa 14 7,aA 15 .eql 14 0]) <|
  .cond (.tmp 15) (.seq (ak [((some 4),.op (.bd (.val (.emp 1)))),aI 5 1]) <|
  .ret) (.skip)) <|
  .seq (ak [aa 16 6,br 17 16,ao 18 5 17,aq 19 18,aa 4 19,aI 5 0]) <|
  .ret,
  [.tmp 4,.tmp 5],20⟩
theorem yS:aV Tryz.prog 111 [2]=some vG:=by kernel_rfl
def eU (g:al) (rest:List Int) (uw up:V):List V:=[.aN (g.ay.map cz),.aN (g.ax.map fun s=>[gs s]),.aN (g.rules.map bf),gi g.start,encI rest,uw,up]
def BS (g:al) (b:Nat) (rest W Po:List Int) (H:View):Prop:=∃ uw up,bD H [(.sl b 0 1 7,7,[eU g rest uw up]),(uw,1,bY W),(up,1,bY Po)]
theorem x7 {g:al} {f:Nat} {n:Int} {rest:List Int} {x:Wk} (hn:n < 0) (h:bP g f [n] rest=some x):1≤x.high:=by
  cases f with
  | zero=>rw[nW hn] at h; simp at h
  | succ f =>
    cases rest with
    | nil=>rw[kh hn] at h; simp at h
    | cons t rest =>
      rw[gF hn] at h
      cases hr:fB g t with
      | none=>rw[hr] at h; simp at h
      | some R =>
        rw[hr] at h
        simp only at h
        split at h
        · cases hw:bP g f R.right rest with
          | none=>rw[hw] at h; simp at h
          | some y =>
            rw[hw] at h
            simp only[gD] at h
            simp at h; subst h
            simp[sA]
        · simp at h
theorem Fp (k:Int) (rest:List Int):fX 1 (.aN ([gi k] :: rest.map fun x=>[gi x])) (some (.val (.int .i64 1))) none=some (.aN (rest.map fun x=>[gi x]),.none,[]):=by
  have:asNat (.val (.int .i64 1))=some 1:=rfl
  simp[fX,bound,this,List.all_map]
  rw[List.take_of_length_le (by simp)]
def A2 (g:al) (b:Nat) (o:Option Wk) (W Po:List Int) (r:V) (H:View):Prop:=match o with
  | some x=>r=gi x.high∧BS g b x.rest (W ++ x.word) (Po ++ x.post) H
  | none=>r=gi 0∧∃ rest W Po,rest.length≤300∧BS g b rest W Po H
theorem A2.bad {g:al} {b:Nat} {W Po W' Po' rest:List Int} {H:View} (hl:rest.length≤300) (h:BS g b rest W' Po' H):A2 g b none W Po (gi 0) H:=⟨rfl,rest,W',Po',hl,h⟩
set_option maxHeartbeats 4000000 in
theorem KU (g:al) (hg:g.Ok) (hf:g.iJ) (b:Nat):∀ (f:Nat) (n:Int) (rest W Po:List Int) (H:View),f≤300→0≤n→n < g.ax.length→rest.length≤f→W.length+6 * rest.length≤10000→Po.length+rest.length≤10000→BS g b rest W Po H →
    aB Tryz.prog 210 [.ptr b 0 0,gi n] H fun r H'=>A2 g b (bP g f [-1 - n] rest) W Po r H':=by
  intro f
  induction f with
  | zero =>
    intro n rest W Po H0 hf3 hn0 hn1 hl hW hP hw
    have hrest:rest=[]:=List.length_eq_zero_iff.1 (by omega)
    subst hrest
    have hw0:=hw
    obtain ⟨uw,up,ho⟩:=hw
    have hb:=ho.is 0 rfl (by simp)
    refine aB.of mixed fZ ?_
    simp (disch:=omega) only [↓wr,↓reduceIte,wq,ah,ag,aj,ab,ae,af,ai,isNil,Nat.reduceEqDiff,Nat.reduceAdd,Nat.reduceLT,Nat.reduceLeDiff,Int.reduceNeg,Int.reduceToNat,reduceCtorEq,fC,hb,eU,encI]
    refine an.eq (fun _=>?_) (fun e=>absurd rfl e)
    simp (disch:=omega) only [↓wr,↓reduceIte,wq,ah,ag,aj,ab,ae,af,ai,isNil,Nat.reduceEqDiff,Nat.reduceAdd,Nat.reduceLT,Nat.reduceLeDiff,Int.reduceNeg,Int.reduceToNat,reduceCtorEq]
    rw[kh (by omega)]
    exact .bad (by simp) hw0
  | succ f ih =>
    intro n rest W Po H0 hf3 hn0 hn1 hl hW hP hw
    have hw0:=hw
    obtain ⟨uw,up,ho⟩:=hw
    have hb:=ho.is 0 rfl (by simp)
    cases rest with
    | nil =>
      refine aB.of mixed fZ ?_
      simp (disch:=omega) only [↓wr,↓reduceIte,wq,ah,ag,aj,ab,ae,af,ai,isNil,Nat.reduceEqDiff,Nat.reduceAdd,Nat.reduceLT,Nat.reduceLeDiff,Int.reduceNeg,Int.reduceToNat,reduceCtorEq,fC,hb,eU,encI]
      refine an.eq (fun _=>?_) (fun e=>absurd rfl e)
      simp (disch:=omega) only [↓wr,↓reduceIte,wq,ah,ag,aj,ab,ae,af,ai,isNil,Nat.reduceEqDiff,Nat.reduceAdd,Nat.reduceLT,Nat.reduceLeDiff,Int.reduceNeg,Int.reduceToNat,reduceCtorEq]
      rw[kh (by omega)]
      exact .bad (by simp) hw0
    | cons t rest =>
      simp only[List.length_cons] at hl hW hP
      have bad:(∀ R,fB g t=some R→R.left≠n)→A2 g b (bP g (f+1) [-1 - n] (t :: rest)) W Po (gi 0) H0:=fun h=>by
        have:bP g (f+1) [-1 - n] (t :: rest)=none:=by
          rw[gF (by omega)]
          cases hr:fB g t with
          | none=>rfl
          | some R =>
            simp only
            rw[if_neg (by have:=h R hr; omega)]
        rw[this]
        exact .bad (by simp; omega) hw0
      refine aB.of mixed fZ ?_
      simp (disch:=omega) only [↓wr,↓reduceIte,wq,ah,ag,aj,ab,ae,af,ai,isNil,Nat.reduceEqDiff,Nat.reduceAdd,Nat.reduceLT,Nat.reduceLeDiff,Int.reduceNeg,Int.reduceToNat,reduceCtorEq,fC,hb,eU,encI,List.getElem?_cons_zero]
      refine an.eq (fun e=>absurd e (by omega)) (fun _=>?_)
      simp (disch:=omega) only [↓wr,↓reduceIte,wq,ah,ag,aj,ab,ae,af,ai,isNil,Nat.reduceEqDiff,Nat.reduceAdd,Nat.reduceLT,Nat.reduceLeDiff,Int.reduceNeg,Int.reduceToNat,reduceCtorEq,hb,eU,encI,List.getElem?_cons_zero]
      refine an.dec (fun ht=>?_) (fun ht=>?_)
      · simp (disch:=omega) only [↓wr,↓reduceIte,wq,ah,ag,aj,ab,ae,af,ai,isNil,Nat.reduceEqDiff,Nat.reduceAdd,Nat.reduceLT,Nat.reduceLeDiff,Int.reduceNeg,Int.reduceToNat,reduceCtorEq]
        exact bad fun R hR=>by unfold fB at hR; rw[if_neg (by omega)] at hR; simp at hR
      · obtain ⟨k,rfl⟩:∃ k:Nat,t=k:=⟨t.toNat,by omega⟩
        simp (disch:=omega) only [↓wr,↓reduceIte,wq,ah,ag,aj,ab,ae,af,ai,isNil,Nat.reduceEqDiff,Nat.reduceAdd,Nat.reduceLT,Nat.reduceLeDiff,Int.reduceNeg,Int.reduceToNat,reduceCtorEq,hb,eU,encI]
        refine an.dec (fun hk=>?_) (fun hk=>?_)
        · simp (disch:=omega) only [↓wr,↓reduceIte,wq,ah,ag,aj,ab,ae,af,ai,isNil,Nat.reduceEqDiff,Nat.reduceAdd,Nat.reduceLT,Nat.reduceLeDiff,Int.reduceNeg,Int.reduceToNat,reduceCtorEq]
          exact bad fun R hR=>by
            unfold fB at hR
            rw[if_pos (by omega),Int.toNat_natCast] at hR
            have:=(List.getElem?_eq_some_iff.1 hR).1
            omega
        · have hR:g.rules[k]?=some (g.rules[k]'(by omega)):=List.getElem?_eq_getElem (by omega)
          have hmr:=List.mem_of_getElem? hR
          generalize g.rules[k]'(by omega)=R at hR hmr
          have hra:fB g (k:Int)=some R:=by rw[fB,if_pos (by omega),Int.toNat_natCast]; exact hR
          have hrw:=hg.bb R hmr
          have hr6:=hf.right R hmr
          simp (disch:=omega) only [↓wr,↓reduceIte,wq,ah,ag,aj,ab,ae,af,ai,isNil,Nat.reduceEqDiff,Nat.reduceAdd,Nat.reduceLT,Nat.reduceLeDiff,Int.reduceNeg,Int.reduceToNat,reduceCtorEq,hb,eU,encI,List.getElem?_map,hR,bf]
          refine an.ne (fun he=>?_) (fun he=>?_)
          · simp (disch:=omega) only [↓wr,↓reduceIte,wq,ah,ag,aj,ab,ae,af,ai,isNil,Nat.reduceEqDiff,Nat.reduceAdd,Nat.reduceLT,Nat.reduceLeDiff,Int.reduceNeg,Int.reduceToNat,reduceCtorEq]
            exact bad fun R' hR'=>by rw[hra] at hR'; simp at hR'; subst hR'; exact he
          · simp (disch:=omega) only [↓wr,↓reduceIte,wq,ah,ag,aj,ab,ae,af,ai,isNil,Nat.reduceEqDiff,Nat.reduceAdd,Nat.reduceLT,Nat.reduceLeDiff,Int.reduceNeg,Int.reduceToNat,reduceCtorEq,hb,eU,encI,List.getElem?_map,hR,bf,Fp]
            have o1:=ho.put (es':=[eU g rest uw up]) rfl rfl
            have hnone:∀ i,bP g f (R.right.take i) rest=none→bP g (f+1) [-1 - n] ((k:Int) :: rest)=none:=fun i h=>by
              rw[gF (by omega),hra]
              simp only
              rw[if_pos (by omega)]
              have e:=pC g f (R.right.take i) (R.right.drop i) rest
              rw[List.take_append_drop,h] at e
              rw[e]
            refine bw.up R.right.length (fun i T H'=>∃ x,bP g f (R.right.take i) rest=some x∧BS g b x.rest (W ++ x.word) (Po ++ x.post) H'∧T 0=.ptr b 0 0∧T 5=gi k∧T 6=gi x.high∧T 63=encI R.right∧T 64=gi R.right.length∧T 65=gi i)
              ⟨_,gD _ _ _,⟨uw,up,by simpa [eU,encI] using o1⟩,rfl,rfl,rfl,rfl,rfl,rfl⟩ ?_
            clear hb o1 ho hw0 bad
            rintro i j T H1 hj ⟨x,hx,hw1,t0,t5,t6,t63,t64,t65⟩
            obtain ⟨z1,z2,z3,z4⟩:=xR hf.right f _ _ x hx
            simp (disch:=omega) only [↓wr,↓reduceIte,wq,ah,ag,aj,ab,ae,af,ai,isNil,Nat.reduceEqDiff,Nat.reduceAdd,Nat.reduceLT,Nat.reduceLeDiff,Int.reduceNeg,Int.reduceToNat,reduceCtorEq,kX,t0,t5,t6,t63,t64,t65,encI]
            refine an.dec (fun hi=>?_) (fun hi=>?_)
            · have hg1:R.right[i]?=some (R.right[i]'(by omega)):=List.getElem?_eq_getElem (by omega)
              have hmem:R.right[i]'(by omega)∈R.right:=List.getElem_mem _
              have htk:R.right.take (i+1)=R.right.take i ++ [R.right[i]'(by omega)]:=by rw[List.take_add_one,hg1]; rfl
              have hap:=pC g f (R.right.take i) [R.right[i]'(by omega)] rest
              rw[← htk,hx] at hap
              generalize R.right[i]'(by omega)=s at hg1 hmem htk hap
              simp only at hap
              have hs64:=hrw.2.2.2 s hmem
              unfold bT at hs64
              simp only[List.length_take] at z3
              simp (disch:=omega) only [↓wr,↓reduceIte,wq,ah,ag,aj,ab,ae,af,ai,isNil,Nat.reduceEqDiff,Nat.reduceAdd,Nat.reduceLT,Nat.reduceLeDiff,Int.reduceNeg,Int.reduceToNat,reduceCtorEq,t0,t5,t6,t63,t64,t65,encI,List.getElem?_map,hg1]
              refine an.dec (fun hs=>?_) (fun hs=>?_)
              · obtain ⟨uw1,up1,o1⟩:=hw1
                have hb1:=o1.is 0 rfl (by simp)
                simp (disch:=omega) only [↓wr,↓reduceIte,wq,ah,ag,aj,ab,ae,af,ai,isNil,Nat.reduceEqDiff,Nat.reduceAdd,Nat.reduceLT,Nat.reduceLeDiff,Int.reduceNeg,Int.reduceToNat,reduceCtorEq,t0,t5,t6,t63,t64,t65,hb1,eU]
                intro m hm
                rw[dg]
                simp (disch:=omega) only [↓wr,↓reduceIte,wq,ah,ag,aj,ab,ae,af,ai,isNil,Nat.reduceEqDiff,Nat.reduceAdd,Nat.reduceLT,Nat.reduceLeDiff,Int.reduceNeg,Int.reduceToNat,reduceCtorEq,t0,t5,t6,t63,t64,t65]
                refine fI ((o1.at 1 (by simp)).fresh hm) (by simp[aM]) (by unfold aL; simp; omega) (by unfold aL; simp; omega) ?_
                intro u2 H2 o2 _
                simp only[List.eraseIdx_cons_succ,List.eraseIdx_cons_zero] at o2
                have hb2:=o2.is 1 rfl (by simp)
                have c2:=o2.head.cells
                have k2:=o2.head.oQ
                simp (disch:=omega) only [↓wr,↓reduceIte,wq,ah,ag,aj,ab,ae,af,ai,isNil,Nat.reduceEqDiff,Nat.reduceAdd,Nat.reduceLT,Nat.reduceLeDiff,Int.reduceNeg,Int.reduceToNat,reduceCtorEq,t0,t5,t6,t63,t64,t65,hb2,eU,c2,k2]
                have o3:=(o2.at 1 (by simp)).put (es':=[eU g x.rest u2 up1]) rfl rfl
                simp only[List.eraseIdx_cons_succ,List.eraseIdx_cons_zero] at o3
                rw[jj hs,gD] at hap
                simp only[Option.map_some] at hap
                refine aT hj (by omega) ⟨_,hap,⟨u2,up1,?_⟩,t0,t5,?_,t63,t64,rfl⟩
                · simpa [eU,r5,qc] using o3
                · exact t6.trans (by simp[r5,qc])
              · simp (disch:=omega) only [↓wr,↓reduceIte,wq,ah,ag,aj,ab,ae,af,ai,isNil,Nat.reduceEqDiff,Nat.reduceAdd,Nat.reduceLT,Nat.reduceLeDiff,Int.reduceNeg,Int.reduceToNat,reduceCtorEq,t0,t5,t6,t63,t64,t65]
                have hcall:=ih (-1 - s) x.rest (W ++ x.word) (Po ++ x.post) H1 (by omega) (by omega) (by
                  have:=hf.sym R hmr s hmem
                  unfold iA at this
                  rw[if_neg (by omega)] at this
                  simpa using this) (by omega) (by simp; omega) (by simp; omega) hw1
                rw[show -1 - (-1 - s)=s by omega] at hcall
                refine aF.gH (hcall.mono ?_)
                intro r H2 hr
                cases hy:bP g f [s] x.rest with
                | none =>
                  rw[hy] at hr hap
                  obtain ⟨rfl,rest',W',Po',hl',hw'⟩:=hr
                  simp (disch:=omega) only [↓wr,↓reduceIte,wq,ah,ag,aj,ab,ae,af,ai,isNil,Nat.reduceEqDiff,Nat.reduceAdd,Nat.reduceLT,Nat.reduceLeDiff,Int.reduceNeg,Int.reduceToNat,reduceCtorEq,t0,t5,t6,t63,t64,t65]
                  refine an.eq (fun _=>?_) (fun e=>absurd rfl e)
                  simp (disch:=omega) only [↓wr,↓reduceIte,wq,ah,ag,aj,ab,ae,af,ai,isNil,Nat.reduceEqDiff,Nat.reduceAdd,Nat.reduceLT,Nat.reduceLeDiff,Int.reduceNeg,Int.reduceToNat,reduceCtorEq]
                  rw[hnone (i+1) hap]
                  exact .bad hl' hw'
                | some y =>
                  rw[hy] at hr hap
                  obtain ⟨rfl,hw2⟩:=hr
                  have hyh:=x7 (by omega) hy
                  simp (disch:=omega) only [↓wr,↓reduceIte,wq,ah,ag,aj,ab,ae,af,ai,isNil,Nat.reduceEqDiff,Nat.reduceAdd,Nat.reduceLT,Nat.reduceLeDiff,Int.reduceNeg,Int.reduceToNat,reduceCtorEq,t0,t5,t6,t63,t64,t65]
                  refine an.eq (fun e=>absurd e (by omega)) (fun _=>?_)
                  simp (disch:=omega) only [↓wr,↓reduceIte,wq,ah,ag,aj,ab,ae,af,ai,isNil,Nat.reduceEqDiff,Nat.reduceAdd,Nat.reduceLT,Nat.reduceLeDiff,Int.reduceNeg,Int.reduceToNat,reduceCtorEq,t0,t5,t6,t63,t64,t65]
                  simp only[Option.map_some] at hap
                  refine aT hj (by omega) ⟨_,hap,?_,t0,t5,?_,t63,t64,rfl⟩
                  · simpa [r5] using hw2
                  · show gi (if (y.high:Int) > x.high then (y.high:Int) else x.high)=gi ((r5 x y).high:Nat)
                    congr 2
                    simp only[r5]
                    split <;> omega
            · rw[List.take_of_length_le (by omega)] at hx
              obtain ⟨uw1,up1,o1⟩:=hw1
              have hb1:=o1.is 0 rfl (by simp)
              simp (disch:=omega) only [↓wr,↓reduceIte,wq,ah,ag,aj,ab,ae,af,ai,isNil,Nat.reduceEqDiff,Nat.reduceAdd,Nat.reduceLT,Nat.reduceLeDiff,Int.reduceNeg,Int.reduceToNat,reduceCtorEq,t0,t5,t6,t63,t64,t65,hb1,eU]
              intro m hm
              rw[dg]
              simp (disch:=omega) only [↓wr,↓reduceIte,wq,ah,ag,aj,ab,ae,af,ai,isNil,Nat.reduceEqDiff,Nat.reduceAdd,Nat.reduceLT,Nat.reduceLeDiff,Int.reduceNeg,Int.reduceToNat,reduceCtorEq,t0,t5,t6,t63,t64,t65]
              refine fI ((o1.at 2 (by simp)).fresh hm) (by simp[aM]) (by unfold aL; simp; omega) (by unfold aL; simp; omega) ?_
              intro u2 H2 o2 _
              simp only[List.eraseIdx_cons_succ,List.eraseIdx_cons_zero] at o2
              have hb2:=o2.is 1 rfl (by simp)
              have c2:=o2.head.cells
              have k2:=o2.head.oQ
              simp (disch:=omega) only [↓wr,↓reduceIte,wq,ah,ag,aj,ab,ae,af,ai,isNil,Nat.reduceEqDiff,Nat.reduceAdd,Nat.reduceLT,Nat.reduceLeDiff,Int.reduceNeg,Int.reduceToNat,reduceCtorEq,t0,t5,t6,t63,t64,t65,hb2,eU,c2,k2]
              have o3:=(o2.at 1 (by simp)).put (es':=[eU g x.rest uw1 u2]) rfl rfl
              simp only[List.eraseIdx_cons_succ,List.eraseIdx_cons_zero] at o3
              have hfin:bP g (f+1) [-1 - n] ((k:Int) :: rest)=some ⟨x.rest,x.word ++ [],x.post ++ [(k:Int)],max (x.high+1) 0⟩:=by
                rw[gF (by omega),hra]
                simp only
                rw[if_pos (by omega),hx]
                simp only[gD,Option.map_some,sA]
              rw[hfin]
              refine ⟨?_,uw1,u2,?_⟩
              · simp
              · have o4:=o3.perm (.cons _ (.swap _ _ _))
                simpa [eU] using o4
end Gv
set_option linter.unusedSimpArgs false
set_option maxRecDepth 100000
namespace Gv
open Go Go.Proofs
theorem Me:oK.Ok:=by
  refine ⟨by unfold aH; decide,by unfold aH; decide,by unfold aH; decide,by unfold bT; decide,?_,?_⟩
  · intro t ht; simp[oK] at ht
  · intro r hr; simp[oK] at hr
theorem qJ:∀ (l:List aJ) (acc:List Int),(l.foldl dn acc).length≤acc.length+l.length
  | [],acc=>by simp
  | r :: l,acc=>by
    have h1:=qJ l (dn acc r)
    have h2:(dn acc r).length≤acc.length+1:=by unfold dn; split <;> simp
    simp only[List.foldl_cons,List.length_cons]
    omega
theorem J5 (p q:List Bool) (l:List aJ):(ca p q l).length≤l.length:=by
  have h1:=qJ (l.filter (bH p q)) []
  have h2:=List.length_filter_le (bH p q) l
  unfold ca
  simp only[List.length_nil] at h1
  omega
theorem KL {g:al} (hg:g.Ok) (p q:List Bool):(iQ g (bJ (ca p q g.rules)) p q).Ok:=by
  have ho:=J5 p q g.rules
  have h3:=hg.rules
  unfold aH at h3
  have hb:∀ x,bT (bJ (ca p q g.rules) x):=fun x=>by
    have:=Du (ca p q g.rules) x
    unfold bT; omega
  have hb2:∀ x,bT (-1 - bJ (ca p q g.rules) x):=fun x=>by
    have:=Du (ca p q g.rules) x
    unfold bT; omega
  refine ⟨hg.ay,?_,?_,hb _,hg.term,fun r hr=>?_⟩
  · unfold aH; simp only[iQ,List.length_map]; omega
  · have:=List.length_filter_le (bH p q) g.rules
    unfold aH; simp only[iQ,List.length_map]; omega
  · simp only[iQ,List.mem_map,List.mem_filter] at hr
    obtain ⟨r0,⟨h0,_⟩,rfl⟩:=hr
    obtain ⟨_,i2,i3,i4⟩:=hg.bb r0 h0
    refine ⟨hb _,i2,by unfold aH at i3 ⊢; simpa [bz] using i3,fun x hx=>?_⟩
    simp only[bz,List.mem_map] at hx
    obtain ⟨s,hs,rfl⟩:=hx
    split
    · exact hb2 _
    · exact i4 s hs
section
variable {g r:al} {p q:List Bool} {o:List Int}
theorem dy.ok (h:dy g p q o r) (hg:g.Ok):r.Ok:=by
  have:=KL hg p q
  rw[← h.oe,← h.re] at this
  exact this
theorem dy.small (h:dy g p q o r) (hs:g.Small):r.Small:=by
  have:=nG h.nodup h.inside
  have:=hs.names
  exact ⟨by rw[h.len,h.ay]; omega⟩
end
end Gv
set_option linter.unusedSimpArgs false
set_option maxRecDepth 100000
namespace Gv
open Go Go.Proofs
def j6:SC :=
  .seq (.seq (ak [aa 11 5,aa 12 0,aQ 13 12,aS 14 .lss 11 13]) <|
  .cond (.tmp 14) (.skip) (.exit 0)) <|
  .seq (.block 1 (.seq (ak [aa 17 0,aa 18 5,bo 19 1 17 18,aq 20 19,aa 21 1,aa 22 5,bo 23 1 21 22,aq 24 23,((some 25),.op (.beq false (.tmp 20) (.tmp 24)))]) <|
  .cond (.tmp 25) (.seq (ak [aW 4 false]) <|
  .ret) (.skip))) <|
  ak [aa 15 5,aA 16 .add 15 1,aa 5 16]
def lQ:SF:=⟨.seq (ak [aW 4 false]) <|
  .seq (.seq (ak [aa 6 0,aQ 7 6,aa 8 1,aQ 9 8,aS 10 .neq 7 9]) <|
  .cond (.tmp 10) (.seq (ak [aW 4 false]) <|
  .ret) (.skip)) <|
  .seq (.seq (ak [aI 5 0]) <|
  .block 0 (.loop j6)) <|
  .seq (ak [aW 4 true]) <|
  .ret,
  [.tmp 4],26⟩
theorem qf:aV Tryz.prog 35 []=some lQ:=by kernel_rfl
theorem JI (a b:List Bool) (ha:aH a) (H:View):aB Tryz.prog 35 [bR a,bR b] H fun r H'=>r=gb (a == b)∧H'=H:=by
  refine aB.of mixed qf ?_
  unfold aH at ha
  simp (disch:=omega) only [↓wr,↓reduceIte,wq,ah,ag,aj,ab,ae,af,ai,isNil,Nat.reduceEqDiff,Nat.reduceAdd,Nat.reduceLT,Nat.reduceLeDiff,Int.reduceNeg,Int.reduceToNat,reduceCtorEq,lQ,bR]
  refine an.ne (fun h=>?_) (fun h=>?_)
  · simp (disch:=omega) only [↓wr,↓reduceIte,wq,ah,ag,aj,ab,ae,af,ai,isNil,Nat.reduceEqDiff,Nat.reduceAdd,Nat.reduceLT,Nat.reduceLeDiff,Int.reduceNeg,Int.reduceToNat,reduceCtorEq]
    rw[yJ (by omega)]
  · simp (disch:=omega) only [↓wr,↓reduceIte,wq,ah,ag,aj,ab,ae,af,ai,isNil,Nat.reduceEqDiff,Nat.reduceAdd,Nat.reduceLT,Nat.reduceLeDiff,Int.reduceNeg,Int.reduceToNat,reduceCtorEq]
    refine bw.intro (fun k T H'=>∃ i:Nat,i+k=a.length∧a.take i=b.take i∧T 0=bR a∧T 1=bR b∧T 5=gi i∧H'=H) a.length ?_ ?_
    · exact ⟨0,by omega,by simp,rfl,rfl,rfl,rfl⟩
    · rintro k T H' ⟨i,hk,hi,h0,h1,h5,rfl⟩
      simp (disch:=omega) only [↓wr,↓reduceIte,wq,ah,ag,aj,ab,ae,af,ai,isNil,Nat.reduceEqDiff,Nat.reduceAdd,Nat.reduceLT,Nat.reduceLeDiff,Int.reduceNeg,Int.reduceToNat,reduceCtorEq,j6,h0,h1,h5,bR]
      refine an.dec (fun hc=>?_) (fun hc=>?_)
      · have h2:a[i]?=some (a[i]'(by omega)):=List.getElem?_eq_getElem (by omega)
        have h3:b[i]?=some (b[i]'(by omega)):=List.getElem?_eq_getElem (by omega)
        simp (disch:=omega) only [↓wr,↓reduceIte,wq,ah,ag,aj,ab,ae,af,ai,isNil,Nat.reduceEqDiff,Nat.reduceAdd,Nat.reduceLT,Nat.reduceLeDiff,Int.reduceNeg,Int.reduceToNat,reduceCtorEq,h0,h1,h5,bR,List.getElem?_map,h2,h3,Option.map_some]
        refine an.split (fun hd=>?_) (fun hd=>?_)
        · simp (disch:=omega) only [↓wr,↓reduceIte,wq,ah,ag,aj,ab,ae,af,ai,isNil,Nat.reduceEqDiff,Nat.reduceAdd,Nat.reduceLT,Nat.reduceLeDiff,Int.reduceNeg,Int.reduceToNat,reduceCtorEq]
          have:(a == b)=false:=by
            simp only[beq_eq_false_iff_ne]; rintro rfl; simp at hd
          rw[this]
        · simp (disch:=omega) only [↓wr,↓reduceIte,wq,ah,ag,aj,ab,ae,af,ai,isNil,Nat.reduceEqDiff,Nat.reduceAdd,Nat.reduceLT,Nat.reduceLeDiff,Int.reduceNeg,Int.reduceToNat,reduceCtorEq,h0,h1,h5,bR]
          refine ⟨k - 1,by omega,i+1,by omega,?_,rfl⟩
          have hd:a[i]'(by omega)=b[i]'(by omega):=by simpa using hd
          rw[List.take_add_one,List.take_add_one,hi,h2,h3,hd]
      · simp (disch:=omega) only [↓wr,↓reduceIte,wq,ah,ag,aj,ab,ae,af,ai,isNil,Nat.reduceEqDiff,Nat.reduceAdd,Nat.reduceLT,Nat.reduceLeDiff,Int.reduceNeg,Int.reduceToNat,reduceCtorEq,h0,h1,h5,bR]
        have:a=b:=by
          have e:i=a.length:=by omega
          rw[List.take_of_length_le (by omega),List.take_of_length_le (by omega)] at hi
          exact hi
        rw[this]; simp
theorem Cy (a b:List Bool) (ha:aH a):aE Tryz.prog 35 [bR a,bR b] (gb (a == b)) :=
  aE.of (by simp[iG]) ((JI a b ha _).mono fun r H' h h' _=>by rw[h.1]; exact .tree _ (.val _))
end Gv
set_option linter.unusedSimpArgs false
set_option maxRecDepth 100000
namespace Gv
open Go Go.Proofs
theorem bytes_beq (a b:ByteArray):(a == b)=decide (a=b):=by
  cases a with | mk a=>cases b with | mk b =>
  rw[Bool.eq_iff_iff]
  show (ByteArray.beq ⟨a⟩ ⟨b⟩=true)↔_
  simp only[ByteArray.beq]
  simp
theorem Hd (a b:ByteArray):fE a b=decide (a=b):=by
  cases a with | mk a=>cases b with | mk b =>
  rw[Bool.eq_iff_iff]
  simp[fE]
theorem u4 {α:Type} {a b:List α} {i:Nat} {x y:α} (hx:a[i]?=some x) (hy:b[i]?=some y) (h:a.take i=b.take i) (e:x=y):a.take (i+1)=b.take (i+1):=by
  rw[List.take_add_one,List.take_add_one,h,hx,hy,e]
theorem xl {α:Type} {a b:List α} {i:Nat} (ha:a.length≤i) (hb:b.length≤i) (h:a.take i=b.take i):a=b:=by
  rwa [List.take_of_length_le ha,List.take_of_length_le hb] at h
theorem A6 {α:Type} {a b:List α} {i:Nat} {x y:α} (hx:a[i]?=some x) (hy:b[i]?=some y) (e:x≠y):a≠b:=by
  rintro rfl; rw[hx] at hy; exact e (by simpa using hy)
theorem xN {α:Type} {a b:List α} (h:¬ a.length=b.length):a≠b:=fun e=>h (by rw[e])
theorem Dt (x y:Term):fe Tryz.prog 9998 #[.string x.name,.int .i64 x.level,.int .i64 x.assoc] #[.string y.name,.int .i64 y.level,.int .i64 y.assoc]
    [{ name:= "Name",type:=9,offset:=0,embedded:=false,tag:= "",pkgPath:= "",byteOffset:=0 },{ name:= "Level",type:=3,offset:=1,embedded:=false,tag:= "",pkgPath:= "",byteOffset:=16 },
        { name:= "Assoc",type:=3,offset:=2,embedded:=false,tag:= "",pkgPath:= "",byteOffset:=24 }] (x.name == y.name && (x.level == y.level && (x.assoc == y.assoc && true))) :=
  .str _ _ _ _ _ (by decide) Tryz.underlying9 rfl rfl (.int _ _ _ _ _ _ (by decide) Tryz.underlying3 rfl rfl (.int _ _ _ _ _ _ (by decide) Tryz.underlying3 rfl rfl .nil))
theorem K6 (x y:Term):(x.name == y.name && (x.level == y.level && (x.assoc == y.assoc && true)))=decide (x=y):=by
  rw[bytes_beq,Bool.eq_iff_iff]
  cases x; cases y
  simp
theorem Le (a b:Int):(a == b)=decide (a=b):=by rw[Bool.eq_iff_iff]; simp
theorem Jc (x y:aJ):decide (x=y)=(decide (x.left=y.left) && (decide (x.prec=y.prec) && decide (x.right=y.right))):=by
  cases x; cases y
  rw[Bool.eq_iff_iff]
  simp[and_comm]
theorem I9 (x y:al):decide (x=y)=(decide (x.ay=y.ay) && (decide (x.ax=y.ax) && (decide (x.rules=y.rules) && decide (x.start=y.start)))):=by
  cases x; cases y
  rw[Bool.eq_iff_iff]
  simp
theorem Hg (g k:al):∀ v∈[V.agg (av g),V.agg (av k)],Tree v:=by
  intro v hv; simp at hv
  rcases hv with rfl | rfl <;> exact dp _ (dD _)
end Gv
set_option linter.unusedSimpArgs false
set_option maxRecDepth 100000
namespace Gv
open Go Go.Proofs
def dY:SC :=
  .seq (ak [aS 14 .lss 13 12]) <|
  .seq (.cond (.tmp 14) (.skip) (.exit 0)) <|
  .seq (.block 1 (.seq (ak [aa 15 13,aa 5 15]) <|
  .seq (ak [aa 16 0,aa 17 5,bo 18 3 16 17,aZ 19 3 18,aa 20 1,aa 21 5,bo 22 3 20 21,aZ 23 3 22,((some 24),.op (.old (.binOp .neq 119 (.tmp 19) (.tmp 23) 119) 4))]) <|
  .cond (.tmp 24) (.seq (ak [aW 4 false]) <|
  .ret) (.skip))) <|
  ak [aA 25 .add 13 1,aa 13 25]
def eF:SF:=⟨.seq (ak [aW 4 false]) <|
  .seq (.seq (ak [aa 6 0,aQ 7 6,aa 8 1,aQ 9 8,aS 10 .neq 7 9]) <|
  .cond (.tmp 10) (.seq (ak [aW 4 false]) <|
  .ret) (.skip)) <|
  .seq (.seq (ak [aa 11 0,aQ 12 11,aI 13 0]) <|
  .block 0 (.loop dY)) <|
  .seq (ak [aW 4 true]) <|
  .ret,
  [.tmp 4],26⟩
theorem hQ:aV Tryz.prog 165 []=some eF:=by kernel_rfl
def eW:SC :=
  .seq (ak [aS 14 .lss 13 12]) <|
  .seq (.cond (.tmp 14) (.skip) (.exit 0)) <|
  .seq (.block 1 (.seq (ak [aa 15 13,aa 5 15]) <|
  .seq (ak [aa 16 0,aa 17 5,bo 18 1 16 17,aq 19 18,aa 20 1,aa 21 5,bo 22 1 20 21,aq 23 22,((some 24),.op (.ia .neq (.tmp 19) (.tmp 23)))]) <|
  .cond (.tmp 24) (.seq (ak [aW 4 false]) <|
  .ret) (.skip))) <|
  ak [aA 25 .add 13 1,aa 13 25]
def fq:SF:=⟨.seq (ak [aW 4 false]) <|
  .seq (.seq (ak [aa 6 0,aQ 7 6,aa 8 1,aQ 9 8,aS 10 .neq 7 9]) <|
  .cond (.tmp 10) (.seq (ak [aW 4 false]) <|
  .ret) (.skip)) <|
  .seq (.seq (ak [aa 11 0,aQ 12 11,aI 13 0]) <|
  .block 0 (.loop eW)) <|
  .seq (ak [aW 4 true]) <|
  .ret,
  [.tmp 4],26⟩
theorem jz:aV Tryz.prog 166 []=some fq:=by kernel_rfl
def gz:SC :=
  .seq (ak [aS 14 .lss 13 12]) <|
  .seq (.cond (.tmp 14) (.skip) (.exit 0)) <|
  .seq (.block 1 (.seq (ak [aa 15 13,aa 5 15]) <|
  .seq (ak [aa 16 0,aa 17 5,bo 18 1 16 17,aq 19 18,aa 20 1,aa 21 5,bo 22 1 20 21,aq 23 22,aS 24 .neq 19 23]) <|
  .cond (.tmp 24) (.seq (ak [aW 4 false]) <|
  .ret) (.skip))) <|
  ak [aA 25 .add 13 1,aa 13 25]
def ir:SF:=⟨.seq (ak [aW 4 false]) <|
  .seq (.seq (ak [aa 6 0,aQ 7 6,aa 8 1,aQ 9 8,aS 10 .neq 7 9]) <|
  .cond (.tmp 10) (.seq (ak [aW 4 false]) <|
  .ret) (.skip)) <|
  .seq (.seq (ak [aa 11 0,aQ 12 11,aI 13 0]) <|
  .block 0 (.loop gz)) <|
  .seq (ak [aW 4 true]) <|
  .ret,
  [.tmp 4],26⟩
theorem mw:aV Tryz.prog 208 []=some ir:=by kernel_rfl
def vX:SF:=⟨.seq (ak [c8 2 0,c8 3 1,aW 4 false]) <|
  .seq (.region false [⟨none,[ao 5 0 2,aq 6 5,ao 7 0 3,aq 8 7,aS 9 .eql 6 8,aa 10 9]⟩,⟨(some (10,true)),[ao 11 2 2,aq 12 11,ao 13 2 3,aq 14 13,aS 15 .eql 12 14]⟩,⟨none,[bI 16 10 15,aa 17 16]⟩,⟨(some (17,true)),[ao 18 1 2,aq 19 18,ao 20 1 3,aq 21 20,aK 22 208 [19,21]]⟩,⟨none,[bI 23 17 22,aa 4 23]⟩]) <|
  .ret,
  [.tmp 4],24⟩
theorem yN:aV Tryz.prog 168 [2,3]=some vX:=by kernel_rfl
def cp:SC :=
  .seq (ak [aS 18 .lss 17 16]) <|
  .seq (.cond (.tmp 18) (.skip) (.exit 0)) <|
  .seq (.block 1 (.seq (ak [aa 19 17,bo 20 3 15 17,aZ 21 3 20,((some 8),.op (.alloc [(.val (.int .i64 0)),(.emp 1),(.val (.int .i64 0))])),aa 7 19,(none,.op (.store 3 (.tmp 8) (.tmp 21)))]) <|
  .seq (ak [aa 22 1,aa 23 7,bo 24 3 22 23,aZ 25 3 24,((some 9),.op (.alloc [(.val (.int .i64 0)),(.emp 1),(.val (.int .i64 0))])),(none,.op (.store 3 (.tmp 9) (.tmp 25)))]) <|
  .seq (ak [aa 26 2,aZ 27 3 8,aZ 28 3 9,((some 29),.call (.tmp 26) [(.tmp 27),(.tmp 28)]),cn 30 29]) <|
  .cond (.tmp 30) (.seq (ak [aW 6 false]) <|
  .ret) (.skip))) <|
  ak [aA 31 .add 17 1,aa 17 31]
def cw:SF:=⟨.seq (ak [aW 6 false]) <|
  .seq (.seq (ak [aa 10 0,aQ 11 10,aa 12 1,aQ 13 12,aS 14 .neq 11 13]) <|
  .cond (.tmp 14) (.seq (ak [aW 6 false]) <|
  .ret) (.skip)) <|
  .seq (.seq (ak [aa 15 0,aQ 16 15,aI 17 0]) <|
  .block 0 (.loop cp)) <|
  .seq (ak [aW 6 true]) <|
  .ret,
  [.tmp 6],32⟩
theorem dH:aV Tryz.prog 167 []=some cw:=by kernel_rfl
def xP:SF:=⟨.seq (ak [c8 2 0,c8 3 1,aW 4 false]) <|
  .seq (.region false [⟨none,[ao 5 0 2,aq 6 5,ao 7 0 3,aq 8 7,aK 9 165 [6,8],aa 10 9]⟩,⟨(some (10,true)),[ao 11 1 2,aq 12 11,ao 13 1 3,aq 14 13,aK 15 166 [12,14]]⟩,⟨none,[bI 16 10 15,aa 17 16]⟩,⟨(some (17,true)),[ao 18 2 2,aq 19 18,ao 20 2 3,aq 21 20,cH 22 167 [(.tmp 19),(.tmp 21),(.val (.fn 168 [] []))]]⟩,⟨none,[bI 23 17 22,aa 24 23]⟩,⟨(some (24,true)),[ao 25 3 2,aq 26 25,ao 27 3 3,aq 28 27,aS 29 .eql 26 28]⟩,⟨none,[bI 30 24 29,aa 4 30]⟩]) <|
  .ret,
  [.tmp 4],31⟩
theorem AU:aV Tryz.prog 108 [2,3]=some xP:=by kernel_rfl
theorem Hk {α:Type} {f g:α→List V} {a b:List α} (hf:∀ x,∀ v∈f x,Tree v) (hg:∀ x,∀ v∈g x,Tree v):∀ v∈[V.aN (a.map f),V.aN (b.map g)],Tree v:=by
  intro v hv; simp at hv
  rcases hv with rfl | rfl
  · exact eM _ _ fun x _=>hf x
  · exact eM _ _ fun x _=>hg x
theorem G7 (a b:List Term) (ha:aH a) (H:View):aB Tryz.prog 165 [.aN (a.map cz),.aN (b.map cz)] H fun r _=>r=gb (decide (a=b)):=by
  refine aB.of mixed hQ ?_
  unfold aH at ha
  simp (disch:=omega) only [↓wr,↓reduceIte,wq,ah,ag,aj,ab,ae,af,ai,isNil,Nat.reduceEqDiff,Nat.reduceAdd,Nat.reduceLT,Nat.reduceLeDiff,Int.reduceNeg,Int.reduceToNat,reduceCtorEq,eF]
  refine an.ne (fun h=>?_) (fun h=>?_)
  · simp (disch:=omega) only [↓wr,↓reduceIte,wq,ah,ag,aj,ab,ae,af,ai,isNil,Nat.reduceEqDiff,Nat.reduceAdd,Nat.reduceLT,Nat.reduceLeDiff,Int.reduceNeg,Int.reduceToNat,reduceCtorEq]
    rw[decide_eq_false (xN (by omega))]
  · simp (disch:=omega) only [↓wr,↓reduceIte,wq,ah,ag,aj,ab,ae,af,ai,isNil,Nat.reduceEqDiff,Nat.reduceAdd,Nat.reduceLT,Nat.reduceLeDiff,Int.reduceNeg,Int.reduceToNat,reduceCtorEq]
    refine bw.up a.length (fun i T _=>a.take i=b.take i∧T 0=.aN (a.map cz)∧T 1=.aN (b.map cz)∧T 12=gi a.length∧T 13=gi i) ⟨by simp,rfl,rfl,rfl,rfl⟩ ?_
    rintro i k T H hk ⟨hi,h0,h1,h7,h8⟩
    simp (disch:=omega) only [↓wr,↓reduceIte,wq,ah,ag,aj,ab,ae,af,ai,isNil,Nat.reduceEqDiff,Nat.reduceAdd,Nat.reduceLT,Nat.reduceLeDiff,Int.reduceNeg,Int.reduceToNat,reduceCtorEq,dY,h0,h1,h7,h8]
    refine an.dec (fun hc=>?_) (fun hc=>?_)
    · have h2:a[i]?=some (a[i]'(by omega)):=List.getElem?_eq_getElem (by omega)
      have h3:b[i]?=some (b[i]'(by omega)):=List.getElem?_eq_getElem (by omega)
      generalize a[i]'(by omega)=x at h2
      generalize b[i]'(by omega)=y at h3
      simp (disch:=omega) only [↓wr,↓reduceIte,wq,ah,ag,aj,ab,ae,af,ai,isNil,Nat.reduceEqDiff,Nat.reduceAdd,Nat.reduceLT,Nat.reduceLeDiff,Int.reduceNeg,Int.reduceToNat,reduceCtorEq,h0,h1,h7,h8,List.getElem?_map,h2,h3,cz]
      refine De (xs:=#[.string x.name,.int .i64 x.level,.int .i64 x.assoc]) (ys:=#[.string y.name,.int .i64 y.level,.int .i64 y.assoc]) Tryz.underlying119 (by kernel_rfl) (by kernel_rfl) ?_ ?_ (Dt x y) (.inr ⟨rfl,rfl⟩) ?_
      · rfl
      · rfl
      rw[K6]
      simp (disch:=omega) only [↓wr,↓reduceIte,wq,ah,ag,aj,ab,ae,af,ai,isNil,Nat.reduceEqDiff,Nat.reduceAdd,Nat.reduceLT,Nat.reduceLeDiff,Int.reduceNeg,Int.reduceToNat,reduceCtorEq,h0,h1,h7,h8]
      refine an.split (fun e=>?_) (fun e=>?_)
      · simp (disch:=omega) only [↓wr,↓reduceIte,wq,ah,ag,aj,ab,ae,af,ai,isNil,Nat.reduceEqDiff,Nat.reduceAdd,Nat.reduceLT,Nat.reduceLeDiff,Int.reduceNeg,Int.reduceToNat,reduceCtorEq,h0,h1,h7,h8]
        exact aT hk (by omega) ⟨u4 h2 h3 hi (by simpa using e),h0,h1,h7,rfl⟩
      · simp (disch:=omega) only [↓wr,↓reduceIte,wq,ah,ag,aj,ab,ae,af,ai,isNil,Nat.reduceEqDiff,Nat.reduceAdd,Nat.reduceLT,Nat.reduceLeDiff,Int.reduceNeg,Int.reduceToNat,reduceCtorEq,h0,h1,h7,h8]
        rw[decide_eq_false (A6 h2 h3 (by simpa using e))]
    · simp (disch:=omega) only [↓wr,↓reduceIte,wq,ah,ag,aj,ab,ae,af,ai,isNil,Nat.reduceEqDiff,Nat.reduceAdd,Nat.reduceLT,Nat.reduceLeDiff,Int.reduceNeg,Int.reduceToNat,reduceCtorEq,h0,h1,h7,h8]
      rw[decide_eq_true (xl (by omega) (by omega) hi)]
theorem HD (a b:List ByteArray) (ha:aH a) (H:View):aB Tryz.prog 166 [encS a,encS b] H fun r _=>r=gb (decide (a=b)):=by
  refine aB.of mixed jz ?_
  unfold aH at ha
  simp (disch:=omega) only [↓wr,↓reduceIte,wq,ah,ag,aj,ab,ae,af,ai,isNil,Nat.reduceEqDiff,Nat.reduceAdd,Nat.reduceLT,Nat.reduceLeDiff,Int.reduceNeg,Int.reduceToNat,reduceCtorEq,fq,encS]
  refine an.ne (fun h=>?_) (fun h=>?_)
  · simp (disch:=omega) only [↓wr,↓reduceIte,wq,ah,ag,aj,ab,ae,af,ai,isNil,Nat.reduceEqDiff,Nat.reduceAdd,Nat.reduceLT,Nat.reduceLeDiff,Int.reduceNeg,Int.reduceToNat,reduceCtorEq]
    rw[decide_eq_false (xN (by omega))]
  · simp (disch:=omega) only [↓wr,↓reduceIte,wq,ah,ag,aj,ab,ae,af,ai,isNil,Nat.reduceEqDiff,Nat.reduceAdd,Nat.reduceLT,Nat.reduceLeDiff,Int.reduceNeg,Int.reduceToNat,reduceCtorEq]
    refine bw.up a.length (fun i T _=>a.take i=b.take i∧T 0=encS a∧T 1=encS b∧T 12=gi a.length∧T 13=gi i) ⟨by simp,rfl,rfl,rfl,rfl⟩ ?_
    rintro i k T H hk ⟨hi,h0,h1,h7,h8⟩
    simp (disch:=omega) only [↓wr,↓reduceIte,wq,ah,ag,aj,ab,ae,af,ai,isNil,Nat.reduceEqDiff,Nat.reduceAdd,Nat.reduceLT,Nat.reduceLeDiff,Int.reduceNeg,Int.reduceToNat,reduceCtorEq,eW,h0,h1,h7,h8,encS]
    refine an.dec (fun hc=>?_) (fun hc=>?_)
    · have h2:a[i]?=some (a[i]'(by omega)):=List.getElem?_eq_getElem (by omega)
      have h3:b[i]?=some (b[i]'(by omega)):=List.getElem?_eq_getElem (by omega)
      generalize a[i]'(by omega)=x at h2
      generalize b[i]'(by omega)=y at h3
      simp (disch:=omega) only [↓wr,↓reduceIte,wq,ah,ag,aj,ab,ae,af,ai,isNil,Nat.reduceEqDiff,Nat.reduceAdd,Nat.reduceLT,Nat.reduceLeDiff,Int.reduceNeg,Int.reduceToNat,reduceCtorEq,h0,h1,h7,h8,encS,List.getElem?_map,h2,h3,Hd]
      refine an.split (fun e=>?_) (fun e=>?_)
      · simp (disch:=omega) only [↓wr,↓reduceIte,wq,ah,ag,aj,ab,ae,af,ai,isNil,Nat.reduceEqDiff,Nat.reduceAdd,Nat.reduceLT,Nat.reduceLeDiff,Int.reduceNeg,Int.reduceToNat,reduceCtorEq,h0,h1,h7,h8]
        exact aT hk (by omega) ⟨u4 h2 h3 hi (by simpa using e),h0,h1,h7,rfl⟩
      · simp (disch:=omega) only [↓wr,↓reduceIte,wq,ah,ag,aj,ab,ae,af,ai,isNil,Nat.reduceEqDiff,Nat.reduceAdd,Nat.reduceLT,Nat.reduceLeDiff,Int.reduceNeg,Int.reduceToNat,reduceCtorEq,h0,h1,h7,h8]
        rw[decide_eq_false (A6 h2 h3 (by simpa using e))]
    · simp (disch:=omega) only [↓wr,↓reduceIte,wq,ah,ag,aj,ab,ae,af,ai,isNil,Nat.reduceEqDiff,Nat.reduceAdd,Nat.reduceLT,Nat.reduceLeDiff,Int.reduceNeg,Int.reduceToNat,reduceCtorEq,h0,h1,h7,h8]
      rw[decide_eq_true (xl (by omega) (by omega) hi)]
theorem H9 (a b:List Int) (ha:aH a) (H:View):aB Tryz.prog 208 [encI a,encI b] H fun r _=>r=gb (decide (a=b)):=by
  refine aB.of mixed mw ?_
  unfold aH at ha
  simp (disch:=omega) only [↓wr,↓reduceIte,wq,ah,ag,aj,ab,ae,af,ai,isNil,Nat.reduceEqDiff,Nat.reduceAdd,Nat.reduceLT,Nat.reduceLeDiff,Int.reduceNeg,Int.reduceToNat,reduceCtorEq,ir,encI]
  refine an.ne (fun h=>?_) (fun h=>?_)
  · simp (disch:=omega) only [↓wr,↓reduceIte,wq,ah,ag,aj,ab,ae,af,ai,isNil,Nat.reduceEqDiff,Nat.reduceAdd,Nat.reduceLT,Nat.reduceLeDiff,Int.reduceNeg,Int.reduceToNat,reduceCtorEq]
    rw[decide_eq_false (xN (by omega))]
  · simp (disch:=omega) only [↓wr,↓reduceIte,wq,ah,ag,aj,ab,ae,af,ai,isNil,Nat.reduceEqDiff,Nat.reduceAdd,Nat.reduceLT,Nat.reduceLeDiff,Int.reduceNeg,Int.reduceToNat,reduceCtorEq]
    refine bw.up a.length (fun i T _=>a.take i=b.take i∧T 0=encI a∧T 1=encI b∧T 12=gi a.length∧T 13=gi i) ⟨by simp,rfl,rfl,rfl,rfl⟩ ?_
    rintro i k T H hk ⟨hi,h0,h1,h7,h8⟩
    simp (disch:=omega) only [↓wr,↓reduceIte,wq,ah,ag,aj,ab,ae,af,ai,isNil,Nat.reduceEqDiff,Nat.reduceAdd,Nat.reduceLT,Nat.reduceLeDiff,Int.reduceNeg,Int.reduceToNat,reduceCtorEq,gz,h0,h1,h7,h8,encI]
    refine an.dec (fun hc=>?_) (fun hc=>?_)
    · have h2:a[i]?=some (a[i]'(by omega)):=List.getElem?_eq_getElem (by omega)
      have h3:b[i]?=some (b[i]'(by omega)):=List.getElem?_eq_getElem (by omega)
      generalize a[i]'(by omega)=x at h2
      generalize b[i]'(by omega)=y at h3
      simp (disch:=omega) only [↓wr,↓reduceIte,wq,ah,ag,aj,ab,ae,af,ai,isNil,Nat.reduceEqDiff,Nat.reduceAdd,Nat.reduceLT,Nat.reduceLeDiff,Int.reduceNeg,Int.reduceToNat,reduceCtorEq,h0,h1,h7,h8,encI,List.getElem?_map,h2,h3]
      refine an.ne (fun e=>?_) (fun e=>?_)
      · simp (disch:=omega) only [↓wr,↓reduceIte,wq,ah,ag,aj,ab,ae,af,ai,isNil,Nat.reduceEqDiff,Nat.reduceAdd,Nat.reduceLT,Nat.reduceLeDiff,Int.reduceNeg,Int.reduceToNat,reduceCtorEq,h0,h1,h7,h8]
        rw[decide_eq_false (A6 h2 h3 e)]
      · simp (disch:=omega) only [↓wr,↓reduceIte,wq,ah,ag,aj,ab,ae,af,ai,isNil,Nat.reduceEqDiff,Nat.reduceAdd,Nat.reduceLT,Nat.reduceLeDiff,Int.reduceNeg,Int.reduceToNat,reduceCtorEq,h0,h1,h7,h8]
        exact aT hk (by omega) ⟨u4 h2 h3 hi e,h0,h1,h7,rfl⟩
    · simp (disch:=omega) only [↓wr,↓reduceIte,wq,ah,ag,aj,ab,ae,af,ai,isNil,Nat.reduceEqDiff,Nat.reduceAdd,Nat.reduceLT,Nat.reduceLeDiff,Int.reduceNeg,Int.reduceToNat,reduceCtorEq,h0,h1,h7,h8]
      rw[decide_eq_true (xl (by omega) (by omega) hi)]
theorem IN (a b:List Term) (ha:aH a):aE Tryz.prog 165 [.aN (a.map cz),.aN (b.map cz)] (gb (decide (a=b))):=aE.val (Hk pE pE) (G7 a b ha)
theorem Ic (a b:List ByteArray) (ha:aH a):aE Tryz.prog 166 [encS a,encS b] (gb (decide (a=b))):=aE.val (by
  intro v hv; simp at hv
  rcases hv with rfl | rfl <;> exact uG _) (HD a b ha)
theorem Gz (a b:List Int) (ha:aH a):aE Tryz.prog 208 [encI a,encI b] (gb (decide (a=b))):=aE.val (by
  intro v hv; simp at hv
  rcases hv with rfl | rfl <;> exact du _) (H9 a b ha)
theorem J3 (x y:aJ) (hx:aH x.right):aE Tryz.prog 168 [.agg (bf x),.agg (bf y)] (gb (decide (x=y))):=by
  refine aE.val (by
    intro v hv; simp at hv
    rcases hv with rfl | rfl <;> exact dp _ (eZ _)) fun H=>?_
  rw[Jc]
  refine aB.of mixed yN ?_
  simp (disch:=omega) only [↓wr,↓reduceIte,wq,ah,ag,aj,ab,ae,af,ai,isNil,Nat.reduceEqDiff,Nat.reduceAdd,Nat.reduceLT,Nat.reduceLeDiff,Int.reduceNeg,Int.reduceToNat,reduceCtorEq,vX,bf,encI]
  repeat' (first | (refine an.dec (fun _=>?_) (fun _=>?_)) | (refine an.eq (fun _=>?_) (fun _=>?_)) | (refine an.ne (fun _=>?_) (fun _=>?_)) | (refine an.split (fun _=>?_) (fun _=>?_)) | (refine aF.pure (Gz x.right y.right hx) (by kernel_rfl) ?_) | (simp (disch:=omega) only [↓wr,↓reduceIte,wq,ah,ag,aj,ab,ae,af,ai,isNil,Nat.reduceEqDiff,Nat.reduceAdd,Nat.reduceLT,Nat.reduceLeDiff,Int.reduceNeg,Int.reduceToNat,reduceCtorEq,bf]))
  all_goals simp[*]
theorem BP (a b:List aJ) (ha:aH a) (hr:∀ r∈a,aH r.right) (H:View):aB Tryz.prog 167 [.aN (a.map bf),.aN (b.map bf),.fn 168 [] []] H fun r _=>r=gb (decide (a=b)):=by
  refine aB.of mixed dH ?_
  unfold aH at ha
  simp (disch:=omega) only [↓wr,↓reduceIte,wq,ah,ag,aj,ab,ae,af,ai,isNil,Nat.reduceEqDiff,Nat.reduceAdd,Nat.reduceLT,Nat.reduceLeDiff,Int.reduceNeg,Int.reduceToNat,reduceCtorEq,cw]
  refine an.ne (fun h=>?_) (fun h=>?_)
  · simp (disch:=omega) only [↓wr,↓reduceIte,wq,ah,ag,aj,ab,ae,af,ai,isNil,Nat.reduceEqDiff,Nat.reduceAdd,Nat.reduceLT,Nat.reduceLeDiff,Int.reduceNeg,Int.reduceToNat,reduceCtorEq]
    rw[decide_eq_false (xN (by omega))]
  · simp (disch:=omega) only [↓wr,↓reduceIte,wq,ah,ag,aj,ab,ae,af,ai,isNil,Nat.reduceEqDiff,Nat.reduceAdd,Nat.reduceLT,Nat.reduceLeDiff,Int.reduceNeg,Int.reduceToNat,reduceCtorEq]
    refine bw.up a.length (fun i T _=>a.take i=b.take i∧T 15=.aN (a.map bf)∧T 1=.aN (b.map bf)∧T 2=.fn 168 [] []∧T 16=gi a.length∧T 17=gi i) ⟨by simp,rfl,rfl,rfl,rfl,rfl⟩ ?_
    rintro i k T H hk ⟨hi,h0,h1,h6,h7,h8⟩
    simp (disch:=omega) only [↓wr,↓reduceIte,wq,ah,ag,aj,ab,ae,af,ai,isNil,Nat.reduceEqDiff,Nat.reduceAdd,Nat.reduceLT,Nat.reduceLeDiff,Int.reduceNeg,Int.reduceToNat,reduceCtorEq,cp,h0,h1,h6,h7,h8]
    refine an.dec (fun hc=>?_) (fun hc=>?_)
    · have h2:a[i]?=some (a[i]'(by omega)):=List.getElem?_eq_getElem (by omega)
      have h3:b[i]?=some (b[i]'(by omega)):=List.getElem?_eq_getElem (by omega)
      have hm:a[i]'(by omega)∈a:=List.getElem_mem _
      generalize a[i]'(by omega)=x at h2 hm
      generalize b[i]'(by omega)=y at h3
      have hsx:=hr x hm
      simp (disch:=omega) only [↓wr,↓reduceIte,wq,ah,ag,aj,ab,ae,af,ai,isNil,Nat.reduceEqDiff,Nat.reduceAdd,Nat.reduceLT,Nat.reduceLeDiff,Int.reduceNeg,Int.reduceToNat,reduceCtorEq,h0,h1,h6,h7,h8,List.getElem?_map,h2,h3,bf,encI]
      intro n hn
      try simp (disch:=omega) only [↓wr,↓reduceIte,wq,ah,ag,aj,ab,ae,af,ai,isNil,Nat.reduceEqDiff,Nat.reduceAdd,Nat.reduceLT,Nat.reduceLeDiff,Int.reduceNeg,Int.reduceToNat,reduceCtorEq,h0,h1,h6,h7,h8,List.getElem?_map,h2,h3,bf,encI]
      intro m hmd
      have hmn:=(dk hmd dr).1
      try simp (disch:=omega) only [↓wr,↓reduceIte,wq,ah,ag,aj,ab,ae,af,ai,isNil,Nat.reduceEqDiff,Nat.reduceAdd,Nat.reduceLT,Nat.reduceLeDiff,Int.reduceNeg,Int.reduceToNat,reduceCtorEq,h0,h1,h6,h7,h8,List.getElem?_map,h2,h3,bf,encI,hmn,hmn.symm]
      refine aF.pure (J3 x y hsx) (by kernel_rfl) ?_
      simp (disch:=omega) only [↓wr,↓reduceIte,wq,ah,ag,aj,ab,ae,af,ai,isNil,Nat.reduceEqDiff,Nat.reduceAdd,Nat.reduceLT,Nat.reduceLeDiff,Int.reduceNeg,Int.reduceToNat,reduceCtorEq,h0,h1,h6,h7,h8]
      refine an.split (fun e=>?_) (fun e=>?_)
      · simp (disch:=omega) only [↓wr,↓reduceIte,wq,ah,ag,aj,ab,ae,af,ai,isNil,Nat.reduceEqDiff,Nat.reduceAdd,Nat.reduceLT,Nat.reduceLeDiff,Int.reduceNeg,Int.reduceToNat,reduceCtorEq,h0,h1,h6,h7,h8]
        exact aT hk (by omega) ⟨u4 h2 h3 hi (by simpa using e),h0,h1,h6,h7,rfl⟩
      · simp (disch:=omega) only [↓wr,↓reduceIte,wq,ah,ag,aj,ab,ae,af,ai,isNil,Nat.reduceEqDiff,Nat.reduceAdd,Nat.reduceLT,Nat.reduceLeDiff,Int.reduceNeg,Int.reduceToNat,reduceCtorEq,h0,h1,h6,h7,h8]
        rw[decide_eq_false (A6 h2 h3 (by simpa using e))]
    · simp (disch:=omega) only [↓wr,↓reduceIte,wq,ah,ag,aj,ab,ae,af,ai,isNil,Nat.reduceEqDiff,Nat.reduceAdd,Nat.reduceLT,Nat.reduceLeDiff,Int.reduceNeg,Int.reduceToNat,reduceCtorEq,h0,h1,h6,h7,h8]
      rw[decide_eq_true (xl (by omega) (by omega) hi)]
theorem Bx (a b:List aJ) (ha:aH a) (hr:∀ r∈a,aH r.right):aE Tryz.prog 167 [.aN (a.map bf),.aN (b.map bf),.fn 168 [] []] (gb (decide (a=b))):=aE.val (by
  intro v hv; simp at hv
  rcases hv with rfl | rfl | rfl
  · exact eM _ _ fun x _=>eZ x
  · exact eM _ _ fun x _=>eZ x
  · exact y8 (by simp) (by simp)) (BP a b ha hr)
theorem I1 (g k:al) (hg:g.Ok):aE Tryz.prog 108 [.agg (av g),.agg (av k)] (gb (decide (g=k))):=by
  refine aE.val (Hg g k) fun H=>?_
  rw[I9]
  refine aB.of mixed AU ?_
  simp (disch:=omega) only [↓wr,↓reduceIte,wq,ah,ag,aj,ab,ae,af,ai,isNil,Nat.reduceEqDiff,Nat.reduceAdd,Nat.reduceLT,Nat.reduceLeDiff,Int.reduceNeg,Int.reduceToNat,reduceCtorEq,xP,av,encS]
  repeat' (first | (refine an.dec (fun _=>?_) (fun _=>?_)) | (refine an.eq (fun _=>?_) (fun _=>?_)) | (refine an.ne (fun _=>?_) (fun _=>?_)) | (refine an.split (fun _=>?_) (fun _=>?_)) | (refine aF.pure (IN g.ay k.ay hg.ay) (by kernel_rfl) ?_) | (refine aF.pure (Ic g.ax k.ax hg.ax) (by kernel_rfl) ?_) | (refine aF.pure (Bx g.rules k.rules hg.rules (fun r hr=>(hg.bb r hr).2.2.1)) (by kernel_rfl) ?_) | (simp (disch:=omega) only [↓wr,↓reduceIte,wq,ah,ag,aj,ab,ae,af,ai,isNil,Nat.reduceEqDiff,Nat.reduceAdd,Nat.reduceLT,Nat.reduceLeDiff,Int.reduceNeg,Int.reduceToNat,reduceCtorEq,av,encS]))
  all_goals simp_all [Le]
end Gv
set_option linter.unusedSimpArgs false
set_option maxRecDepth 100000
namespace Gv
open Go Go.Proofs
def zG:SF:=⟨.seq (ak [c8 1 0,aW 2 false]) <|
  .seq (ak [aZ 7 4 1,aK 8 107 [7],aa 6 8,b6 9 0 6,b6 10 1 6,b6 11 2 6,((some 3),.op (.alloc [(.emp 1),(.emp 1),(.emp 1),(.val (.int .i64 0))])),(none,.op (.store 4 (.tmp 3) (.tmp 9))),aa 4 10,aa 5 11]) <|
  .seq (.region false [⟨none,[aa 12 5,aA 13 .eql 12 0,aa 14 13]⟩,⟨(some (14,true)),[aZ 15 4 1,aZ 16 4 3,aK 17 108 [15,16]]⟩,⟨none,[bI 18 14 17,aa 2 18]⟩]) <|
  .ret,
  [.tmp 2],19⟩
theorem BC:aV Tryz.prog 60 [1]=some zG:=by kernel_rfl
theorem HW (g:al) (hg:g.Ok) (hs:g.Small):aE Tryz.prog 60 [.agg (av g)] (gb (isRed g)):=by
  refine aE.val (gn g) fun H=>?_
  refine aB.of mixed BC ?_
  simp (disch:=omega) only [↓wr,↓reduceIte,wq,ah,ag,aj,ab,ae,af,ai,isNil,Nat.reduceEqDiff,Nat.reduceAdd,Nat.reduceLT,Nat.reduceLeDiff,Int.reduceNeg,Int.reduceToNat,reduceCtorEq,zG,av,encS]
  refine aF.pure (Fa g hg hs).pure (by kernel_rfl) ?_
  unfold isRed
  generalize fK g=x
  obtain ⟨k,il,e⟩:=x
  simp (disch:=omega) only [↓wr,↓reduceIte,wq,ah,ag,aj,ab,ae,af,ai,isNil,Nat.reduceEqDiff,Nat.reduceAdd,Nat.reduceLT,Nat.reduceLeDiff,Int.reduceNeg,Int.reduceToNat,reduceCtorEq,zi,av,encS]
  intro n hn
  refine an.eq (fun h=>?_) (fun h=>?_)
  · simp (disch:=omega) only [↓wr,↓reduceIte,wq,ah,ag,aj,ab,ae,af,ai,isNil,Nat.reduceEqDiff,Nat.reduceAdd,Nat.reduceLT,Nat.reduceLeDiff,Int.reduceNeg,Int.reduceToNat,reduceCtorEq,zi,av,encS]
    refine aF.pure (I1 g k hg) (by kernel_rfl) ?_
    simp (disch:=omega) only [↓wr,↓reduceIte,wq,ah,ag,aj,ab,ae,af,ai,isNil,Nat.reduceEqDiff,Nat.reduceAdd,Nat.reduceLT,Nat.reduceLeDiff,Int.reduceNeg,Int.reduceToNat,reduceCtorEq]
    simp[h]
  · simp (disch:=omega) only [↓wr,↓reduceIte,wq,ah,ag,aj,ab,ae,af,ai,isNil,Nat.reduceEqDiff,Nat.reduceAdd,Nat.reduceLT,Nat.reduceLeDiff,Int.reduceNeg,Int.reduceToNat,reduceCtorEq]
    simp[h]
end Gv
set_option maxRecDepth 100000
namespace Gv
open Go Go.Proofs
def Ml:al:=⟨[⟨⟨#[39,97,39]⟩,0,0⟩,⟨⟨#[39,98,39]⟩,0,0⟩,⟨⟨#[39,99,39]⟩,0,0⟩,⟨⟨#[39,100,39]⟩,0,0⟩],[⟨#[115]⟩,⟨#[117]⟩,⟨#[118]⟩],[⟨0,[0,(-2)],0⟩,⟨0,[1],1⟩,⟨0,[],(-1)⟩,⟨1,[(-2),2],2⟩,⟨2,[3,(-1)],3⟩],0⟩
end Gv
set_option linter.unusedSimpArgs false
set_option maxRecDepth 100000
namespace Gv
open Go Go.Proofs
def Lu:al:=⟨Ml.ay,[⟨#[115]⟩],[⟨0,[1],1⟩,⟨0,[],(-1)⟩],0⟩
theorem lO:isRed Lu=true:=by kernel_rfl
end Gv
set_option linter.unusedSimpArgs false
set_option maxRecDepth 100000
namespace Gv
open Go Go.Proofs
end Gv
set_option linter.unusedSimpArgs false
set_option maxRecDepth 100000
namespace Gv
open Go Go.Proofs
structure al.Nb (g:al):Prop where
  ay:g.ay.length≤40
  ax:g.ax.length≤40
  rules:g.rules.length≤60
  right:∀ r∈g.rules,r.right.length≤20
end Gv
set_option linter.unusedSimpArgs false
set_option maxRecDepth 100000
namespace Gv
open Go Go.Proofs
theorem cX.fr {h:aC} {v t:V} (f:cX h v t):Fr h v t:=by
  induction f with
  | val v=>exact .tree _ (.val _)
  | emp k=>exact .emp k
  | sl id off len esz z es es' h1 h2 h3 h4 _ ih=>exact .sl id off len esz z es es' h1 h2 h3 h4 ih
  | agg cs cs' h1 _ ih=>exact .agg cs cs' h1 ih
  | bg cs cs' h1 _ ih=>exact .bg cs cs' h1 ih
end Gv
set_option linter.unusedSimpArgs false
set_option maxRecDepth 100000
namespace Gv
open Go Go.Proofs
def gu:DC :=
  .seq (.seq (au [aa 34 8,aa 35 7,aQ 36 35,aS 37 .lss 34 36]) <|
  .cond (.tmp 37) (.skip) (.exit 0)) <|
  .block 1 (au [aa 38 8,aa 39 7,aa 40 8,((some 41),.op (.slice 4 (.tmp 39) (some (.tmp 40)) none)),aa 42 7,aa 43 8,((some 44),.op (.slice 4 (.tmp 42) none (some (.tmp 43)))),((some 45),.op (.old (.call { callee:=.builtin .copy,args:=#[(.tmp 41),(.tmp 44)],argTypes:=#[284,284] }) 3)),aS 46 .add 38 45,aa 8 46])
def dJ:DF:=⟨.seq (au [((some 4),.op (.bd (.val (.emp 1))))]) <|
  .seq (.seq (au [aa 9 1,aA 10 .lss 9 0]) <|
  .cond (.tmp 10) (.region [] [⟨none,[((some 11),.op (.old (.makeInterface 9 (.const (.string ⟨#[99,97,110,110,111,116,32,98,101,32,110,101,103,97,116,105,118,101]⟩))) 20)),(none,.op (.old (.panic (.tmp 11)) 0))]⟩]) (.skip)) <|
  .seq (au [aa 13 0,aQ 14 13,((some 15),.op (.conv .u64 (.tmp 14))),aa 16 1,((some 17),.op (.conv .u64 (.tmp 16))),aK 18 153 [15,17],aa 12 18,b6 19 0 12,b6 20 1 12,aa 5 19,aa 6 20]) <|
  .seq (.seq (.region [] [⟨none,[aa 21 5,((some 22),.op (.arith .gtr (.tmp 21) (.val (.val (.int .u64 0))))),aa 23 22]⟩,⟨(some (23,false)),[aa 24 6,((some 25),.op (.arith .gtr (.tmp 24) (.val (.val (.int .u64 9223372036854775807)))))]⟩,⟨none,[bC 26 23 25]⟩]) <|
  .cond (.tmp 26) (.region [] [⟨none,[((some 27),.op (.old (.makeInterface 9 (.const (.string ⟨#[116,104,101,32,114,101,115,117,108,116,32,111,102,32,40,108,101,110,40,120,41,32,42,32,99,111,117,110,116,41,32,111,118,101,114,102,108,111,119,115]⟩))) 20)),(none,.op (.old (.panic (.tmp 27)) 0))]⟩]) (.skip)) <|
  .seq (au [aa 28 6,((some 29),.op (.conv .i64 (.tmp 28))),((some 30),.op (.make 4 32 [(.val (.int .i64 0)),(.val (.int .i64 0)),(.val (.int .i64 0)),(.val (.int .i64 0))] (.tmp 29) (.tmp 29))),aa 7 30]) <|
  .seq (au [aa 31 7,aa 32 0,((some 33),.op (.old (.call { callee:=.builtin .copy,args:=#[(.tmp 31),(.tmp 32)],argTypes:=#[284,284] }) 3)),aa 8 33]) <|
  .seq (.block 0 (.loop gu)) <|
  .seq (au [aa 47 7,aa 4 47]) <|
  .ret,
  [.tmp 4],48⟩
theorem fP:bt Tryz.prog 248 []=some dJ:=by kernel_rfl
def pO:DF:=⟨.seq (au [((some 4),.op (.bd (.val (.val (.int .u64 0))))),((some 5),.op (.bd (.val (.val (.int .u64 0)))))]) <|
  .seq (.cond (.val (.val (.bool false))) (.seq (au [aa 11 0,((some 12),.op (.conv .u32 (.tmp 11))),aa 13 1,((some 14),.op (.conv .u32 (.tmp 13))),aK 15 197 [12,14],aa 10 15,b6 16 0 10,b6 17 1 10,aa 6 16,aa 7 17]) <|
  .seq (au [aa 18 6,((some 19),.op (.conv .u64 (.tmp 18))),aa 20 7,((some 21),.op (.conv .u64 (.tmp 20))),aa 4 19,aa 5 21]) <|
  .ret) (.skip)) <|
  .seq (au [aa 23 0,aa 24 1,aK 25 198 [23,24],aa 22 25,b6 26 0 22,b6 27 1 22,aa 8 26,aa 9 27]) <|
  .seq (au [aa 28 8,aa 29 9,aa 4 28,aa 5 29]) <|
  .ret,
  [.tmp 4,.tmp 5],30⟩
theorem tD:bt Tryz.prog 153 []=some pO:=by kernel_rfl
def nM:DF:=⟨.seq (au [((some 4),.op (.bd (.val (.val (.int .u32 0))))),((some 5),.op (.bd (.val (.val (.int .u32 0)))))]) <|
  .seq (au [aa 7 0,((some 8),.op (.conv .u64 (.tmp 7))),aa 9 1,((some 10),.op (.conv .u64 (.tmp 9))),aS 11 .mul 8 10,aa 6 11]) <|
  .seq (au [aa 12 6,((some 13),.op (.sh false (.tmp 12) (.val (.val (.int .u64 32))))),((some 14),.op (.conv .u32 (.tmp 13))),aa 15 6,((some 16),.op (.conv .u32 (.tmp 15))),aa 4 14,aa 5 16]) <|
  .ret,
  [.tmp 4,.tmp 5],17⟩
theorem rR:bt Tryz.prog 197 []=some nM:=by kernel_rfl
def nQ:DF:=⟨.seq (au [((some 4),.op (.bd (.val (.val (.int .u64 0))))),((some 5),.op (.bd (.val (.val (.int .u64 0)))))]) <|
  .seq (au [aa 14 0,((some 15),.op (.arith .and (.tmp 14) (.val (.val (.int .u64 4294967295))))),aa 6 15]) <|
  .seq (au [aa 16 0,((some 17),.op (.sh false (.tmp 16) (.val (.val (.int .u64 32))))),aa 7 17]) <|
  .seq (au [aa 18 1,((some 19),.op (.arith .and (.tmp 18) (.val (.val (.int .u64 4294967295))))),aa 8 19]) <|
  .seq (au [aa 20 1,((some 21),.op (.sh false (.tmp 20) (.val (.val (.int .u64 32))))),aa 9 21]) <|
  .seq (au [aa 22 6,aa 23 8,aS 24 .mul 22 23,aa 10 24]) <|
  .seq (au [aa 25 7,aa 26 8,aS 27 .mul 25 26,aa 28 10,((some 29),.op (.sh false (.tmp 28) (.val (.val (.int .u64 32))))),aS 30 .add 27 29,aa 11 30]) <|
  .seq (au [aa 31 11,((some 32),.op (.arith .and (.tmp 31) (.val (.val (.int .u64 4294967295))))),aa 12 32]) <|
  .seq (au [aa 33 11,((some 34),.op (.sh false (.tmp 33) (.val (.val (.int .u64 32))))),aa 13 34]) <|
  .seq (au [aa 35 12,aa 36 6,aa 37 9,aS 38 .mul 36 37,aS 39 .add 35 38,aa 12 39]) <|
  .seq (au [aa 40 7,aa 41 9,aS 42 .mul 40 41,aa 43 13,aS 44 .add 42 43,aa 45 12,((some 46),.op (.sh false (.tmp 45) (.val (.val (.int .u64 32))))),aS 47 .add 44 46,aa 4 47]) <|
  .seq (au [aa 48 0,aa 49 1,aS 50 .mul 48 49,aa 5 50]) <|
  .ret,
  [.tmp 4,.tmp 5],51⟩
theorem sD:bt Tryz.prog 198 []=some nQ:=by kernel_rfl
def Bo:List (FuncId × DF):=[(248,dJ),(153,pO),(197,nM),(198,nQ)]
theorem Ij:pG Tryz.prog Bo:=by
  intro p hp
  simp only[Bo,List.mem_cons,List.not_mem_nil,or_false] at hp
  rcases hp with rfl | rfl | rfl | rfl
  · exact ⟨_,fP⟩
  · exact ⟨_,tD⟩
  · exact ⟨_,rR⟩
  · exact ⟨_,sD⟩
def bB (p:aY):List V:=[gi p.bb,gi p.bq,gi p.rules,gi p.ay]
abbrev fD (P:List aY):V:=.aN (P.map bB)
theorem nZ (P:List aY):Tree (fD P):=eM _ _ fun x _ v hv=>by
  simp[bB] at hv
  rcases hv with rfl | rfl | rfl | rfl <;> exact .val _
theorem LZ {n:Nat} (h:rG Tryz.prog Bo (fun _ _ _=>none) 248 [fD [gx],gi n]=some (fD (List.replicate n gx))):cr Tryz.prog 248 [fD [gx],gi n] (fD (List.replicate n gx)) :=
  og mixed Ij (E6 _) (by
    intro v hv; simp at hv
    rcases hv with rfl | rfl
    · exact nZ [gx]
    · exact .val _) h
theorem IM {n:Nat} (h1:1≤n) (h2:n≤16):cr Tryz.prog 248 [fD [gx],gi n] (fD (List.replicate n gx)):=by
  have:n=1∨n=2∨n=3∨n=4∨n=5∨n=6∨n=7∨n=8∨n=9∨n=10∨n=11∨n=12∨n=13∨n=14∨n=15∨n=16:=by omega
  rcases this with rfl | rfl | rfl | rfl | rfl | rfl | rfl | rfl | rfl | rfl | rfl | rfl | rfl | rfl | rfl | rfl <;> exact LZ (by kernel_rfl)
theorem xh (p:aY):∀ v∈bB p,Tree v:=by
  intro v hv; simp[bB] at hv
  rcases hv with rfl | rfl | rfl | rfl <;> exact .val _
theorem LD (h:aC) (p:aY):cX h (.agg (bB p)) (.agg (bB p)):=.agg _ _ rfl fun i hi=>by
  match i,hi with
  | 0,_=>exact .val _
  | 1,_=>exact .val _
  | 2,_=>exact .val _
  | 3,_=>exact .val _
  | n+4,h=>exact absurd h (by simp[bB])
def vT (p:aY):Prop:=dq p∧(-1≤p.bb∧p.bb≤1000000)∧0≤p.bq∧p.bq≤1000000
theorem Jr:vT bm:=by unfold vT dq bm; decide
theorem CI {x:Int} : (if x < 1048576 then x else 1048576)=min 1048576 x:=by omega
theorem L2 {x y:Int} : (if y > x then y else x)=max x y:=by omega
def sZ:SC :=
  .seq (ak [aS 12 .lss 11 10]) <|
  .seq (.cond (.tmp 12) (.skip) (.exit 0)) <|
  .seq (.block 1 (.seq (ak [bo 13 1 9 11,aq 14 13,aa 7 14]) <|
  .seq (.seq (ak [aa 15 7,aA 16 .geq 15 0]) <|
  .cond (.tmp 16) (.seq (ak [ao 17 3 4,aq 18 17,aA 19 .add 18 1,((some 20),.op (.mm false (.val (.val (.int .i64 1048576))) (.tmp 19))),ao 21 3 4,(none,.op (.store 1 (.tmp 21) (.tmp 20)))]) <|
  .exit 1) (.skip)) <|
  .seq (ak [aa 22 1,aa 23 7,((some 24),.op (.arith .sub (.val (.val (.int .i64 (-1)))) (.tmp 23))),bo 25 4 22 24,aZ 26 4 25,((some 8),.op (.alloc [(.val (.int .i64 0)),(.val (.int .i64 0)),(.val (.int .i64 0)),(.val (.int .i64 0))])),(none,.op (.store 4 (.tmp 8) (.tmp 26)))]) <|
  .seq (.seq (ak [ao 27 0 8,aq 28 27,aA 29 .lss 28 0]) <|
  .cond (.tmp 29) (.seq (ak [aZ 30 4 4,(none,.op (.store 4 (.tmp 4) (.tmp 30))),aW 5 false]) <|
  .ret) (.skip)) <|
  .seq (ak [ao 31 1 4,aq 32 31,ao 33 1 8,aq 34 33,((some 35),.op (.mm true (.tmp 32) (.tmp 34))),ao 36 1 4,(none,.op (.store 1 (.tmp 36) (.tmp 35)))]) <|
  .q0 [(45,49)] [⟨none,[ao 37 2 4,aq 38 37,ao 39 2 8,aq 40 39,aS 41 .add 38 40,((some 42),.op (.mm false (.val (.val (.int .i64 1048576))) (.tmp 41))),ao 43 3 4,aq 44 43,ao 45 3 8,aq 46 45,aS 47 .add 44 46,((some 48),.op (.mm false (.val (.val (.int .i64 1048576))) (.tmp 47))),ao 49 2 4,(none,.op (.store 1 (.tmp 49) (.tmp 42))),ao 50 3 4,(none,.op (.store 1 (.tmp 50) (.tmp 48)))]⟩])) <|
  ak [aA 51 .add 11 1,aa 11 51]
def vz:SF:=⟨.seq (ak [((some 4),.op (.alloc [(.val (.int .i64 0)),(.val (.int .i64 0)),(.val (.int .i64 0)),(.val (.int .i64 0))])),aW 5 false]) <|
  .seq (.seq (ak [aa 9 0,aQ 10 9,aI 11 0]) <|
  .block 0 (.loop sZ)) <|
  .seq (ak [aZ 52 4 4,(none,.op (.store 4 (.tmp 4) (.tmp 52))),aW 5 true]) <|
  .ret,
  [.cell 4 (some 4),.tmp 5],53⟩
theorem zl:aV Tryz.prog 232 []=some vz:=by kernel_rfl
theorem um {P:List aY} {m:Nat} (h:m < P.length):(P.map bB)[m]?=some (bB (aX P m)):=by
  simp[aX,List.getD_eq_getElem?_getD,h]
set_option maxHeartbeats 2000000 in
theorem Hr (P:List aY) (hP:∀ m,vT (aX P m)) (l:List Int) (hl:aH l) (hn:∀ x∈l,bT x∧(x < 0→-1 - x < P.length)) :
    cr Tryz.prog 232 [encI l,fD P] (.bg [.agg (bB (bA P l bm).1),gb (bA P l bm).2]):=by
  have key:∀ H,aB Tryz.prog 232 [encI l,fD P] H fun r _=>r=.bg [.agg (bB (bA P l bm).1),gb (bA P l bm).2]:=?_
  · refine cr.of (by
      intro v hv; simp at hv
      rcases hv with rfl | rfl
      · exact du l
      · exact nZ P) ((key _).mono fun r H' e h' _=>?_)
    rw[e]; exact w5 (LD _ _) (.val _)
  intro H
  refine aB.of mixed zl ?_
  unfold aH at hl
  simp (disch:=omega) only [↓wr,↓reduceIte,wq,ah,ag,aj,ab,ae,af,ai,isNil,Nat.reduceEqDiff,Nat.reduceAdd,Nat.reduceLT,Nat.reduceLeDiff,Int.reduceNeg,Int.reduceToNat,reduceCtorEq,vz,encI]
  intro m hm
  try simp (disch:=omega) only [↓wr,↓reduceIte,wq,ah,ag,aj,ab,ae,af,ai,isNil,Nat.reduceEqDiff,Nat.reduceAdd,Nat.reduceLT,Nat.reduceLeDiff,Int.reduceNeg,Int.reduceToNat,reduceCtorEq,encI]
  refine bw.up l.length (fun i T H'=>∃ s:aY,vT s∧s.bb=0∧bA P (l.drop i) s=bA P l bm∧H' m=.arr 4 [bB s]∧T 1=fD P∧T 4=.ptr m 0 0∧T 9=encI l∧T 10=gi l.length∧T 11=gi i) ?_ ?_
  · exact ⟨bm,Jr,rfl,rfl,by simp[View.set,bB,bm],rfl,rfl,rfl,rfl,rfl⟩
  rintro i k T H hk ⟨s,hs,hs0,hsum,hH,t1,t4,t9,t10,t11⟩
  unfold vT dq at hs
  simp (disch:=omega) only [↓wr,↓reduceIte,wq,ah,ag,aj,ab,ae,af,ai,isNil,Nat.reduceEqDiff,Nat.reduceAdd,Nat.reduceLT,Nat.reduceLeDiff,Int.reduceNeg,Int.reduceToNat,reduceCtorEq,sZ,t1,t4,t9,t10,t11,encI]
  refine an.dec (fun hc=>?_) (fun hc=>?_)
  · have hg:l[i]?=some (l[i]'(by omega)):=List.getElem?_eq_getElem (by omega)
    have hmem:l[i]'(by omega)∈l:=List.getElem_mem _
    rw[dC (show i < l.length by omega)] at hsum
    generalize l[i]'(by omega)=x at hg hmem hsum
    obtain ⟨⟨hx1,hx2⟩,hx3⟩:=hn x hmem
    simp (disch:=omega) only [↓wr,↓reduceIte,wq,ah,ag,aj,ab,ae,af,ai,isNil,Nat.reduceEqDiff,Nat.reduceAdd,Nat.reduceLT,Nat.reduceLeDiff,Int.reduceNeg,Int.reduceToNat,reduceCtorEq,t1,t4,t9,t10,t11,encI,List.getElem?_map,hg]
    refine an.dec (fun hd=>?_) (fun hd=>?_)
    · simp (disch:=omega) only [↓wr,↓reduceIte,wq,ah,ag,aj,ab,ae,af,ai,isNil,Nat.reduceEqDiff,Nat.reduceAdd,Nat.reduceLT,Nat.reduceLeDiff,Int.reduceNeg,Int.reduceToNat,reduceCtorEq,t1,t4,t9,t10,t11,encI,hH,bB,CI]
      rw[zU (show 0≤x from hd)] at hsum
      refine aT hk (by omega) ⟨_,?_,?_,hsum,?_,t1,t4,t9,t10,rfl⟩
      · unfold vT dq; simp only; omega
      · exact hs0
      · simp[View.set]
    · have hm:(bK x) < P.length:=by have:=hx3 (by omega); unfold bK; omega
      have hp:=hP (bK x)
      unfold vT dq at hp
      simp (disch:=omega) only [↓wr,↓reduceIte,wq,ah,ag,aj,ab,ae,af,ai,isNil,Nat.reduceEqDiff,Nat.reduceAdd,Nat.reduceLT,Nat.reduceLeDiff,Int.reduceNeg,Int.reduceToNat,reduceCtorEq,t1,t4,t9,t10,t11,encI,hH,um hm]
      simp (disch:=omega) only [↓wr,↓reduceIte,wq,ah,ag,aj,ab,ae,af,ai,isNil,Nat.reduceEqDiff,Nat.reduceAdd,Nat.reduceLT,Nat.reduceLeDiff,Int.reduceNeg,Int.reduceToNat,reduceCtorEq,t1,t4,t9,t10,t11,encI,hH,bB]
      intro q hq
      have hqm:m≠q:=by rintro rfl; rw[hH] at hq; simp at hq
      try simp (disch:=omega) only [↓wr,↓reduceIte,wq,ah,ag,aj,ab,ae,af,ai,isNil,Nat.reduceEqDiff,Nat.reduceAdd,Nat.reduceLT,Nat.reduceLeDiff,Int.reduceNeg,Int.reduceToNat,reduceCtorEq,t1,t4,t9,t10,t11,encI,hH,hqm,hqm.symm,bB]
      refine an.dec (fun he=>?_) (fun he=>?_)
      · simp (disch:=omega) only [↓wr,↓reduceIte,wq,ah,ag,aj,ab,ae,af,ai,isNil,Nat.reduceEqDiff,Nat.reduceAdd,Nat.reduceLT,Nat.reduceLeDiff,Int.reduceNeg,Int.reduceToNat,reduceCtorEq,t1,t4,t9,t10,t11,encI,hH,hqm,hqm.symm,bB]
        rw[HN (by omega) he] at hsum
        rw[← hsum]
      · simp (disch:=omega) only [↓wr,↓reduceIte,wq,ah,ag,aj,ab,ae,af,ai,isNil,Nat.reduceEqDiff,Nat.reduceAdd,Nat.reduceLT,Nat.reduceLeDiff,Int.reduceNeg,Int.reduceToNat,reduceCtorEq,t1,t4,t9,t10,t11,encI,hH,hqm,hqm.symm,bB,CI,L2]
        rw[wc (by omega) he] at hsum
        refine aT hk (by omega) ⟨_,?_,?_,hsum,?_,t1,t4,t9,t10,rfl⟩
        · unfold vT dq; simp only; omega
        · exact hs0
        · simp[View.set,hqm]
  · simp (disch:=omega) only [↓wr,↓reduceIte,wq,ah,ag,aj,ab,ae,af,ai,isNil,Nat.reduceEqDiff,Nat.reduceAdd,Nat.reduceLT,Nat.reduceLeDiff,Int.reduceNeg,Int.reduceToNat,reduceCtorEq,t1,t4,t9,t10,t11,hH,bB]
    rw[List.drop_eq_nil_of_le (by omega)] at hsum
    rw[← hsum]; try rfl
def cR:SF:=⟨.seq (ak [((some 2),.op (.bd (.val (.emp 1))))]) <|
  .seq (.seq (ak [aa 3 0,((some 4),.op (.nil true 0 (.tmp 3) (.val (.emp 1))))]) <|
  .cond (.tmp 4) (.seq (ak [((some 2),.op (.bd (.val (.emp 1))))]) <|
  .ret) (.skip)) <|
  .seq (ak [((some 5),.op (.bd (.val (.emp 2)))),aa 6 0,((some 7),.op (.app 4 32 (.tmp 5) (.tmp 6))),aa 2 7]) <|
  .ret,
  [.tmp 2],8⟩
theorem gg:aV Tryz.prog 249 []=some cR:=by kernel_rfl
theorem Fk (P:List aY) (hl:P.length≤100000) (h1:1≤P.length) (u:V) (H:View) (hu:u=fD P∨aO H u 4 (P.map bB)) :
    aB Tryz.prog 249 [u] H fun r H'=>aO H' r 4 (P.map bB)∧c6 H H' r:=by
  have hall:((P.map bB).all fun e=>e.length == 4 && e.all aM)=true:=by simp[List.all_map,bB,aM]
  refine aB.of mixed gg ?_
  cases P with
  | nil=>simp at h1
  | cons p r =>
    simp only[List.length_cons] at hl
    rcases hu with rfl | hu
    · simp (disch:=omega) only [↓wr,↓reduceIte,wq,ah,ag,aj,ab,ae,af,ai,isNil,Nat.reduceEqDiff,Nat.reduceAdd,Nat.reduceLT,Nat.reduceLeDiff,Int.reduceNeg,Int.reduceToNat,reduceCtorEq,cR,fD]
      refine ⟨by simpa using hall,by unfold aL; simp; omega,fun m hm=>?_⟩
      simp (disch:=omega) only [↓wr,↓reduceIte,wq,ah,ag,aj,ab,ae,af,ai,isNil,Nat.reduceEqDiff,Nat.reduceAdd,Nat.reduceLT,Nat.reduceLeDiff,Int.reduceNeg,Int.reduceToNat,reduceCtorEq]
      have:=aO.new (H:=H) (n:=m) (sz:=4) (es:=(p :: r).map bB)
      simp only[List.length_map,List.length_cons] at this
      exact ⟨by simpa using this,.new hm⟩
    · obtain ⟨n,rfl,hn⟩:=hu.sl (by simp)
      simp only[List.length_map,List.length_cons] at hn ⊢
      have he:bO H (.sl n 0 (r.length+1) 4)=some ((p :: r).map bB,[n]):=by
        rw[sn _ n 0 r.length 4 4 _ hn (by simp),List.drop_zero,List.take_of_length_le (by simp)]
      simp (disch:=omega) only [↓wr,↓reduceIte,wq,ah,ag,aj,ab,ae,af,ai,isNil,Nat.reduceEqDiff,Nat.reduceAdd,Nat.reduceLT,Nat.reduceLeDiff,Int.reduceNeg,Int.reduceToNat,reduceCtorEq,cR,he]
      refine ⟨by simpa using hall,by unfold aL; simp; omega,fun m hm=>?_⟩
      simp (disch:=omega) only [↓wr,↓reduceIte,wq,ah,ag,aj,ab,ae,af,ai,isNil,Nat.reduceEqDiff,Nat.reduceAdd,Nat.reduceLT,Nat.reduceLeDiff,Int.reduceNeg,Int.reduceToNat,reduceCtorEq]
      have:=aO.new (H:=H) (n:=m) (sz:=4) (es:=(p :: r).map bB)
      simp only[List.length_map,List.length_cons] at this
      exact ⟨by simpa using this,.new hm⟩
end Gv
