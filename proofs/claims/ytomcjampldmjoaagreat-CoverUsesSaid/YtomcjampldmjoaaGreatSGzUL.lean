/-
  Part 12 of the proof: what the machine does and what the functions answer.
  Conditions: those that each lemma names.
-/
import Derived.Test.YtomcjampldmjoaaGreatSGzUK
set_option linter.unusedSimpArgs false
set_option linter.unusedVariables false
set_option linter.unusedSimpArgs false
namespace Gv
open Go
structure Way where
  bV:Int
  bc:Int
  place:Int
def bG (F:List Way):List Int:=F.map Way.bV
def jw (k j s:Int) (F:List Way):List Way:=if s < 0∧-1 - s ∉ bG F then F ++ [⟨-1 - s,k,j⟩] else F
def ib (k:Int):Int→List Int→List Way→List Way
  | _,[],F=>F
  | j,s :: l,F=>ib k (j+1) l (jw k j s F)
def k7 (n k:Int) (R:aJ) (F:List Way):List Way:=if R.left=n then ib k 0 R.right F else F
def fj (n:Int):Int→List aJ→List Way→List Way
  | _,[],F=>F
  | k,R :: l,F=>fj n (k+1) l (k7 n k R F)
def dT (g:al):Nat→List Way
  | 0=>[⟨g.start,-1,0⟩]
  | i+1=>match (dT g i)[i]? with
    | some x=>fj x.bV 0 g.rules (dT g i)
    | none=>dT g i
def eU (g:al):List Way:=dT g g.aw.length
theorem xR (k s:Int):∀ (l:List Int) (j:Int) (F:List Way),ib k j (l ++ [s]) F=jw k (j+l.length) s (ib k j l F)
  | [],j,F=>by simp[ib]
  | x :: l,j,F=>by
    rw[List.cons_append,ib,xR k s l,ib,List.length_cons]
    congr 1
    push_cast; omega
theorem vI (n:Int) (R:aJ):∀ (l:List aJ) (k:Int) (F:List Way),fj n k (l ++ [R]) F=k7 n (k+l.length) R (fj n k l F)
  | [],k,F=>by simp[fj]
  | x :: l,k,F=>by
    rw[List.cons_append,fj,vI n R l,fj,List.length_cons]
    congr 1
    push_cast; omega
structure c7 (g:al) (F:List Way):Prop where
  first:F[0]?=some ⟨g.start,-1,0⟩
  nodup:(bG F).Nodup
  from_:∀ i x,F[i]?=some x→0 < i→∃ (k j:Nat) (R:aJ),x.bc=(k:Int)∧x.place=(j:Int)∧g.rules[k]?=some R∧R.right[j]?=some (-1 - x.bV)∧0≤x.bV∧∃ m y,m < i∧F[m]?=some y∧y.bV=R.left
theorem c7.pre {g:al} {F:List Way} (h:c7 g F) {i m:Nat} {x:Way} (hx:F[i]?=some x) (w:Way):(F ++ [w])[i]?=some x:=by
  rw[List.getElem?_append_left (List.getElem?_eq_some_iff.1 hx).1]; exact hx
theorem EU {g:al} {F:List Way} {k j m:Nat} {R:aJ} {s:Int} {y:Way} (h:c7 g F) (hR:g.rules[k]?=some R) (hs:R.right[j]?=some s) (hm:F[m]?=some y) (hy:y.bV=R.left):c7 g (jw k j s F):=by
  unfold jw
  split
  · rename_i hc
    refine ⟨?_,?_,fun i x hx hi=>?_⟩
    · rw[List.getElem?_append_left (List.getElem?_eq_some_iff.1 h.first).1]; exact h.first
    · rw[bG,List.map_append,List.nodup_append]
      refine ⟨h.nodup,by simp,fun a ha b hb e=>?_⟩
      simp at hb
      subst hb; subst e
      exact hc.2 ha
    · by_cases hl:i < F.length
      · rw[List.getElem?_append_left hl] at hx
        obtain ⟨k',j',R',h1,h2,h3,h4,h5,m',y',h6,h7,h8⟩:=h.from_ i x hx hi
        exact ⟨k',j',R',h1,h2,h3,h4,h5,m',y',h6,by rw[List.getElem?_append_left (by omega)]; exact h7,h8⟩
      · have hi':i=F.length:=by
          have:=(List.getElem?_eq_some_iff.1 hx).1
          simp at this; omega
        subst hi'
        simp at hx; subst hx
        have hml:=(List.getElem?_eq_some_iff.1 hm).1
        exact ⟨k,j,R,rfl,rfl,hR,by rw[hs]; congr 1; simp only; omega,by simp only; omega,m,y,hml,by rw[List.getElem?_append_left hml]; exact hm,hy⟩
  · exact h
theorem I3 (k j s:Int) (F:List Way):∃ l,jw k j s F=F ++ l:=by
  unfold jw
  split
  · exact ⟨_,rfl⟩
  · exact ⟨[],by simp⟩
theorem Ji (k j s:Int) (F:List Way) (hs:s < 0) : -1 - s∈bG (jw k j s F):=by
  unfold jw
  split
  · simp[bG]
  · rename_i hc
    apply Decidable.byContradiction
    intro h
    exact hc ⟨hs,h⟩
theorem vf {F l:List Way} {i:Nat} {x:Way} (h:F[i]?=some x):(F ++ l)[i]?=some x:=by
  rw[List.getElem?_append_left (List.getElem?_eq_some_iff.1 h).1]; exact h
theorem wk {F l:List Way} {n:Int} (h:n∈bG F):n∈bG (F ++ l):=by
  simp only[bG,List.map_append,List.mem_append]
  exact .inl h
theorem Bk {g:al} {k m:Nat} {R:aJ} {y:Way} (hR:g.rules[k]?=some R) (hy:y.bV=R.left):∀ (l:List Int) (j:Nat) (F:List Way),R.right.drop j=l→c7 g F→F[m]?=some y →
    c7 g (ib k j l F)∧(∃ e,ib k j l F=F ++ e)∧∀ s∈l,s < 0→-1 - s∈bG (ib k j l F)
  | [],j,F,_,h,_=>⟨h,⟨[],by simp[ib]⟩,by simp⟩
  | s :: l,j,F,hd,h,hm=>by
    have hs:R.right[j]?=some s:=by
      have:=List.getElem?_drop (xs:=R.right) (i:=j) (j:=0)
      rw[hd] at this
      simpa using this.symm
    have hd':R.right.drop (j+1)=l:=by rw[← List.drop_drop,hd]; rfl
    obtain ⟨e1,h1⟩:=I3 k j s F
    have ho:=EU h hR hs hm hy
    have hm':(jw k j s F)[m]?=some y:=by rw[h1]; exact vf hm
    obtain ⟨a,⟨e2,b⟩,c⟩:=Bk hR hy l (j+1) (jw k j s F) hd' ho hm'
    rw[ib]
    push_cast at a b c
    refine ⟨a,⟨e1 ++ e2,by rw[b,h1,List.append_assoc]⟩,fun x hx hn=>?_⟩
    rcases List.mem_cons.1 hx with rfl | hx
    · rw[b]
      exact wk (Ji _ _ _ _ hn)
    · exact c x hx hn
theorem AH {g:al} {m:Nat} {y:Way} : ∀ (l:List aJ) (k:Nat) (F:List Way),g.rules.drop k=l→c7 g F→F[m]?=some y →
    c7 g (fj y.bV k l F)∧(∃ e,fj y.bV k l F=F ++ e)∧∀ R∈l,R.left=y.bV→∀ s∈R.right,s < 0→-1 - s∈bG (fj y.bV k l F)
  | [],k,F,_,h,_=>⟨h,⟨[],by simp[fj]⟩,by simp⟩
  | R :: l,k,F,hd,h,hm=>by
    have hR:g.rules[k]?=some R:=by
      have:=List.getElem?_drop (xs:=g.rules) (i:=k) (j:=0)
      rw[hd] at this
      simpa using this.symm
    have hd':g.rules.drop (k+1)=l:=by rw[← List.drop_drop,hd]; rfl
    have h0:c7 g (k7 y.bV k R F)∧(∃ e,k7 y.bV k R F=F ++ e)∧(R.left=y.bV→∀ s∈R.right,s < 0→-1 - s∈bG (k7 y.bV k R F)):=by
      unfold k7
      split
      · rename_i hl
        have:=Bk hR hl.symm R.right 0 F (by simp) h hm
        exact ⟨this.1,this.2.1,fun _=>this.2.2⟩
      · rename_i hl
        exact ⟨h,⟨[],by simp⟩,fun e=>absurd e hl⟩
    obtain ⟨ho,⟨e1,h1⟩,hk⟩:=h0
    have hm':(k7 y.bV k R F)[m]?=some y:=by rw[h1]; exact vf hm
    obtain ⟨a,⟨e2,b⟩,c⟩:=AH l (k+1) (k7 y.bV k R F) hd' ho hm'
    rw[fj]
    push_cast at a b c
    refine ⟨a,⟨e1 ++ e2,by rw[b,h1,List.append_assoc]⟩,fun x hx hl s hs hn=>?_⟩
    rcases List.mem_cons.1 hx with rfl | hx
    · rw[b]
      exact wk (hk hl s hs hn)
    · exact c x hx hl s hs hn
def yE (g:al) (F:List Way) (i:Nat):Prop:=∀ m y,m < i→F[m]?=some y→∀ R∈g.rules,R.left=y.bV→∀ s∈R.right,s < 0→-1 - s∈bG F
theorem C3 (g:al):∀ i,c7 g (dT g i)∧yE g (dT g i) i
  | 0=>⟨⟨rfl,by simp[dT,bG],fun i x hx hi=>by
      cases i with
      | zero=>omega
      | succ i=>simp[dT] at hx⟩,fun m y hm=>by omega⟩
  | i+1=>by
    obtain ⟨h1,h2⟩:=C3 g i
    rw[dT]
    cases hx:(dT g i)[i]? with
    | none =>
      simp only
      refine ⟨h1,fun m y hm hy=>?_⟩
      have:=(List.getElem?_eq_some_iff.1 hy).1
      have:=List.getElem?_eq_none_iff.1 hx
      exact h2 m y (by omega) hy
    | some x =>
      simp only
      obtain ⟨a,⟨e,b⟩,c⟩:=AH (g:=g) g.rules 0 (dT g i) (by simp) h1 hx
      simp only[Int.natCast_zero] at a b c
      refine ⟨a,fun m y hm hy R hR hl s hs hn=>?_⟩
      by_cases hmi:m=i
      · subst hmi
        rw[b,vf hx] at hy
        simp at hy; subst hy
        exact c R hR hl s hs hn
      · have hml:m < (dT g i).length:=by
          have:=(List.getElem?_eq_some_iff.1 hx).1
          omega
        have hy':(dT g i)[m]?=some y:=by
          rw[b,List.getElem?_append_left hml] at hy; exact hy
        rw[b]
        exact wk (h2 m y (by omega) hy' R hR hl s hs hn)
theorem B4 {g:al} {i:Nat} (h:(dT g i).length≤i):∀ d,dT g (i+d)=dT g i
  | 0=>rfl
  | d+1=>by
    have ih:=B4 h d
    rw[← Nat.add_assoc,dT,ih,List.getElem?_eq_none (by omega)]
theorem c7.inside {g:al} {F:List Way} (h:c7 g F) (h0:0≤g.start∧g.start < g.aw.length) (hs:∀ R∈g.rules,∀ s∈R.right,s < 0→-1 - s < g.aw.length):∀ n∈bG F,0≤n∧n < g.aw.length:=by
  intro n hn
  simp only[bG,List.mem_map] at hn
  obtain ⟨x,hx,rfl⟩:=hn
  obtain ⟨i,hi⟩:=List.mem_iff_getElem?.1 hx
  by_cases hi0:i=0
  · subst hi0
    rw[h.first] at hi
    simp at hi; subst hi
    exact h0
  · obtain ⟨k,j,R,_,_,h3,h4,h5,_⟩:=h.from_ i x hi (by omega)
    have:=hs R (List.mem_of_getElem? h3) _ (List.mem_of_getElem? h4) (by omega)
    omega
theorem c7.len {g:al} {F:List Way} (h:c7 g F) (h0:0≤g.start∧g.start < g.aw.length) (hs:∀ R∈g.rules,∀ s∈R.right,s < 0→-1 - s < g.aw.length):F.length≤g.aw.length:=by
  have:=nA h.nodup (h.inside h0 hs)
  simpa [bG] using this
theorem K5 {g:al} (h0:0≤g.start∧g.start < g.aw.length) (hs:∀ R∈g.rules,∀ s∈R.right,s < 0→-1 - s < g.aw.length):c7 g (eU g)∧yE g (eU g) (eU g).length:=by
  obtain ⟨h1,h2⟩:=C3 g g.aw.length
  refine ⟨h1,fun m y hm hy=>?_⟩
  have:=h1.len h0 hs
  exact h2 m y (by unfold eU at hm; omega) hy
def lookW (F:List Way) (n:Int):Option Way:=F.find? fun x=>x.bV == n
def df (F:List Way) (n:Int):Nat:=F.findIdx fun x=>x.bV == n
theorem D7 {F:List Way} {n:Int} (h:n∈bG F):∃ x,lookW F n=some x∧F[df F n]?=some x∧x.bV=n:=by
  induction F with
  | nil=>simp[bG] at h
  | cons y F ih =>
    by_cases e:y.bV=n
    · exact ⟨y,by simp[lookW,e],by simp[df,List.findIdx_cons,e],e⟩
    · have h':n∈bG F:=by
        simp only[bG,List.map_cons,List.mem_cons] at h ⊢
        rcases h with h | h
        · exact absurd h.symm e
        · exact h
      obtain ⟨x,h1,h2,h3⟩:=ih h'
      refine ⟨x,by simpa [lookW,e] using h1,?_,h3⟩
      have:df (y :: F) n=df F n+1:=by simp[df,List.findIdx_cons,show (y.bV == n)=false by simpa using e]
      rw[this]; simpa using h2
theorem Ly {F:List Way} {n:Int} {m:Nat} {y:Way} (h:F[m]?=some y) (hy:y.bV=n):df F n≤m:=by
  induction F generalizing m with
  | nil=>simp at h
  | cons x F ih =>
    by_cases e:x.bV=n
    · simp[df,List.findIdx_cons,e]
    · cases m with
      | zero=>simp at h; subst h; exact absurd hy e
      | succ m =>
        have:=ih (m:=m) (by simpa using h)
        have:df (x :: F) n=df F n+1:=by simp[df,List.findIdx_cons,show (x.bV == n)=false by simpa using e]
        omega
theorem uq {g:al} {F:List Way} (h:c7 g F) {n:Int} (hn:n∈bG F) (hs:n≠g.start):∃ (k j:Nat) (R:aJ),lookW F n=some ⟨n,k,j⟩∧g.rules[k]?=some R∧R.right[j]?=some (-1 - n)∧0≤n∧R.left∈bG F∧df F R.left < df F n:=by
  obtain ⟨x,h1,h2,h3⟩:=D7 hn
  have hi:0 < df F n:=by
    apply Nat.pos_of_ne_zero
    intro e
    rw[e,h.first] at h2
    simp at h2; subst h2
    exact hs h3.symm
  obtain ⟨k,j,R,a,b,c,d,e,m,y,f1,f2,f3⟩:=h.from_ _ x h2 hi
  refine ⟨k,j,R,?_,c,by rw[d,h3],by omega,?_,?_⟩
  · rw[h1]
    cases x
    simp at a b h3
    subst a; subst b; subst h3; rfl
  · rw[← f3]
    exact List.mem_map.2 ⟨y,List.mem_of_getElem? f2,rfl⟩
  · exact Nat.lt_of_le_of_lt (Ly f2 f3) f1
theorem kG {g:al} {F:List Way} (h:c7 g F):lookW F g.start=some ⟨g.start,-1,0⟩:=by
  have:=h.first
  cases F with
  | nil=>simp at this
  | cons y F=>simp at this; subst this; simp[lookW]
theorem La {g:al} {F:List Way} (h:c7 g F) (hc:yE g F F.length) {p:List Bool} {n:Int} (hr:lJ g p n):n∈bG F:=by
  induction hr with
  | start=>exact List.mem_map.2 ⟨_,List.mem_of_getElem? h.first,rfl⟩
  | next R s hR _ _ hs hn ih =>
    simp only[bG,List.mem_map] at ih
    obtain ⟨y,hy,e⟩:=ih
    obtain ⟨m,hm⟩:=List.mem_iff_getElem?.1 hy
    exact hc m y (List.getElem?_eq_some_iff.1 hm).1 hm R hR e.symm s hs hn
end Gv
set_option linter.unusedSimpArgs false
namespace Gv
open Go
def cd (g:al) (place:Int) (inner:List Int):Int→List Int→Option (List Int)
  | _,[]=>some []
  | i,s :: l=>if 0≤s then cd g place inner (i+1) l
    else if i=place then (cd g place inner (i+1) l).map (inner ++ ·)
    else if (fV g (-1 - s)).2=0 then (cd g place inner (i+1) l).map ((fV g (-1 - s)).1 ++ ·) else none
def ef (g:al) (bc place:Int) (inner:List Int):List Int × Bool:=match cd g place inner 0 (pr g bc) with
  | some l=>(bc :: l,decide ((bc :: l).length≤300))
  | none=>([],false)
def ui (g:al) (k:Int):Int:=(g.rules.getD k.toNat ⟨0,[],0⟩).left
def bW (g:al) (F:List Way):Nat→Int→List Int × Bool→List Int × Bool
  | 0,_,x=>x
  | f+1,n,x=>if x.2=true then (match lookW F n with
    | some w=>if 0≤w.bc then bW g F f (ui g w.bc) (ef g w.bc w.place x.1) else x
    | none=>x) else x
def jG (g:al) (t:List Int):Option Wk:=if bm g=true∧t.length≤300 then (match bQ g t.length [-1 - g.start] t with
    | some x=>if x.rest=[] then some x else none
    | none=>none) else none
def jO (g:al) (t:List Int):List Int × Int:=match jG g t with
  | some x=>(x.word,0)
  | none=>([],1)
def dQ (g:al) (i:Int):List Int × Bool:=bW g (eU g) (df (eU g) (ui g i)) (ui g i) (ef g i (-1) [])
def dB (g:al) (i:Int):List Int × Int:=if (dQ g i).2=false then ([],13) else if 60 < (jO g (dQ g i).1).1.length then ([],13) else ((dQ g i).1,0)
def mA (g:al) (i:Int):List Int × Int:=if (isRed g && decide (0≤i) && decide (i < g.rules.length))=true then dB g i else ([],1)
def bH (g:al):Nat→List (List Int) × Int
  | 0=>([],0)
  | i+1=>if (bH g i).2≠0 then bH g i else if (bH g i).1.any (fun t=>decide ((i:Int)∈t))=true then bH g i
    else if (dB g i).2=0 then ((bH g i).1 ++ [(dB g i).1],0) else ([],(dB g i).2)
def m7 (g:al):List (List Int) × Int:=if isRed g=true then bH g g.rules.length else ([],1)
def k8 (g:al) (l:List (List Int)):List Bool:=if bm g=true then (List.range g.rules.length).map fun (i:Nat)=>l.any fun t=>decide ((i:Int)∈t) else []
theorem HB {g:al} (hleft:∀ r∈g.rules,0≤r.left) {n:Int} (h:(fV g n).2=0):∃ w,gZ g [-1 - n] (fV g n).1 w:=by
  unfold fV at h ⊢
  split at h
  · rename_i hc
    rw[if_pos hc]
    simp only[Bool.and_eq_true,decide_eq_true_eq] at hc
    split at h
    · simp at h
    · rename_i hk
      rw[if_neg hk]
      split at h
      · simp at h
      · rename_i h3
        rw[if_neg h3]
        refine ⟨_,Ht hleft _ _ fun x hx hn=>?_⟩
        simp at hx; subst hx
        have e:bL (-1 - n)=n.toNat:=by unfold bL; omega
        rw[e]
        have hkn:bk (ar g) n.toNat:=by unfold bk; omega
        exact ⟨hkn,(g8 hkn).2⟩
  · simp at h
theorem z7 {g:al} (hleft:∀ r∈g.rules,0≤r.left) {place:Int} {inner:List Int} : ∀ (l:List Int) (i:Int) (t:List Int),(∀ s,l[(place - i).toNat]?=some s→i≤place→s < 0→∃ w,gZ g [s] inner w)→cd g place inner i l=some t→∃ w,gZ g l t w
  | [],i,t,_,h=>by
    rw[cd] at h; simp at h; subst h
    exact ⟨[],.nil⟩
  | s :: l,i,t,hin,h=>by
    have hrec:∀ t',cd g place inner (i+1) l=some t'→∃ w,gZ g l t' w:=fun t' h'=>z7 hleft l (i+1) t' (fun s' hs' hi hn=>hin s' (by
      have:(place - i).toNat=(place - (i+1)).toNat+1:=by omega
      rw[this]; simpa using hs') (by omega) hn) h'
    rw[cd] at h
    split at h
    · rename_i h0
      obtain ⟨w,hw⟩:=hrec t h
      exact ⟨s :: w,.term s l t w h0 hw⟩
    · rename_i h0
      split at h
      · rename_i hp
        cases hr:cd g place inner (i+1) l with
        | none=>rw[hr] at h; simp at h
        | some t' =>
          rw[hr] at h; simp at h; subst h
          obtain ⟨w1,hw1⟩:=hin s (by rw[hp]; simp) (by omega) (by omega)
          obtain ⟨w2,hw2⟩:=hrec t' hr
          exact ⟨w1 ++ w2,by have:=hw1.app hw2; simpa using this⟩
      · split at h
        · rename_i ht
          cases hr:cd g place inner (i+1) l with
          | none=>rw[hr] at h; simp at h
          | some t' =>
            rw[hr] at h; simp at h; subst h
            obtain ⟨w1,hw1⟩:=HB hleft ht
            rw[show -1 - (-1 - s)=s by omega] at hw1
            obtain ⟨w2,hw2⟩:=hrec t' hr
            exact ⟨w1 ++ w2,by have:=hw1.app hw2; simpa using this⟩
        · simp at h
theorem jl {g:al} {k:Nat} {R:aJ} (h:g.rules[k]?=some R):pr g (k:Int)=R.right∧ui g (k:Int)=R.left:=by
  simp[pr,ui,List.getD_eq_getElem?_getD,h]
theorem BP {g:al} (hleft:∀ r∈g.rules,0≤r.left) {k:Nat} {R:aJ} (hR:g.rules[k]?=some R) {place:Int} {inner:List Int} (hin:∀ s,R.right[place.toNat]?=some s→0≤place→s < 0→∃ w,gZ g [s] inner w) (h:(ef g k place inner).2=true) :
    ∃ w,gZ g [-1 - R.left] (ef g k place inner).1 w∧(ef g k place inner).1.length≤300:=by
  unfold ef at h ⊢
  rw[(jl hR).1] at h ⊢
  cases hp:cd g place inner 0 R.right with
  | none=>rw[hp] at h; simp at h
  | some t =>
    rw[hp] at h
    simp only[decide_eq_true_eq] at h
    simp only
    obtain ⟨w,hw⟩:=z7 hleft R.right 0 t (fun s hs h0 hn=>hin s (by simpa using hs) h0 hn) hp
    have:=hleft R (List.mem_of_getElem? hR)
    refine ⟨w,?_,h⟩
    have:=gZ.bV (-1 - R.left) [] k R t w [] [] (by omega) hR (by omega) hw .nil
    simpa using this
theorem Cs {g:al} {k place:Int} {inner:List Int} (h:(ef g k place inner).2=true):(ef g k place inner).1.length≤300:=by
  unfold ef at h ⊢
  split at h
  · rename_i l hl
    rw[hl] at *
    simpa using h
  · simp at h
theorem Ak {g:al} {F:List Way} (hF:c7 g F) (hleft:∀ r∈g.rules,0≤r.left):∀ (f:Nat) (n:Int) (x:List Int × Bool),n∈bG F→df F n≤f→(x.2=true→∃ w,gZ g [-1 - n] x.1 w∧x.1.length≤300)→(bW g F f n x).2=true →
    ∃ w,gZ g [-1 - g.start] (bW g F f n x).1 w∧(bW g F f n x).1.length≤300
  | 0,n,x,hn,hf,hx,h=>by
    rw[bW] at h ⊢
    by_cases e:n=g.start
    · rw[← e]; exact hx h
    · obtain ⟨_,_,_,_,_,_,_,_,h6⟩:=uq hF hn e
      omega
  | f+1,n,x,hn,hf,hx,h=>by
    rw[bW] at h ⊢
    split at h
    · rename_i hx2
      rw[if_pos hx2]
      by_cases e:n=g.start
      · subst e
        rw[kG hF] at h ⊢
        simp only at h ⊢
        rw[if_neg (by omega)] at h ⊢
        exact hx h
      · obtain ⟨k,j,R,h1,h2,h3,h4,h5,h6⟩:=uq hF hn e
        rw[h1] at h ⊢
        simp only at h ⊢
        rw[if_pos (by omega),(jl h2).2] at h ⊢
        refine Ak hF hleft f R.left _ h5 (by omega) (fun hg=>?_) h
        refine BP hleft h2 (fun s hs _ _=>?_) hg
        rw[Int.toNat_natCast,h3] at hs
        simp at hs; subst hs
        obtain ⟨w,hw,_⟩:=hx hx2
        exact ⟨w,hw⟩
    · rename_i hx2
      rw[if_neg hx2]
      exact absurd h hx2
theorem iZ {g:al} (h:isRed g=true):bm g=true∧c7 g (eU g)∧∀ k:Nat,k < g.aw.length→(k:Int)∈bG (eU g):=by
  unfold isRed at h
  simp only[Bool.and_eq_true,beq_iff_eq,decide_eq_true_eq] at h
  obtain ⟨h1,h2⟩:=h
  have hr:bm g=true:=by
    apply Decidable.byContradiction
    intro hn
    unfold fK at h1
    simp[hn] at h1
  have hf:=bg hr
  have hp:(aG g true).getD g.start.toNat false=true:=by
    apply Decidable.byContradiction
    intro hn
    rw[oK hr,if_neg hn] at h1
    simp at h1
  have hred:=LF hr hp
  have e:iO g (bK (cb (aG g true) (bw g) g.rules)) (aG g true) (bw g)=g:=by
    rw[oK hr,if_pos hp] at h2
    exact h2.symm
  rw[e] at hred
  have hW:=K5 (g:=g) ⟨hf.gV,hf.start⟩ (fun R hR s hs hn=>by
    have:=hf.sym R hR s hs
    unfold iL at this
    rw[if_neg (by omega)] at this
    simpa using this)
  refine ⟨hr,hW.1,fun k hk=>?_⟩
  rw[hred.len] at hk
  exact La hW.1 hW.2 (uQ hr k (hred.zM hk))
theorem C1 {g:al} (h:isRed g=true) {i:Nat} (hi:i < g.rules.length) (hc:(dQ g i).2=true):∃ w,gZ g [-1 - g.start] (dQ g i).1 w∧(dQ g i).1.length≤300:=by
  obtain ⟨hr,hW,hall⟩:=iZ h
  have hf:=bg hr
  have hleft:=fun r hr=>(hf.left r hr).1
  have hR:g.rules[i]?=some (g.rules[i]):=List.getElem?_eq_getElem hi
  have hb:=hf.left _ (List.getElem_mem hi)
  unfold dQ at hc ⊢
  rw[(jl hR).2] at hc ⊢
  have hk:=hall (g.rules[i]).left.toNat (by omega)
  rw[show (((g.rules[i]).left.toNat:Nat):Int)=(g.rules[i]).left by omega] at hk
  exact Ak hW hleft _ _ _ hk (Nat.le_refl _) (fun hg=>BP hleft hR (fun s _ h0 _=>absurd h0 (by decide)) hg) hc
theorem zr {g:al} (hr:bm g=true) {t w:List Int} (h:gZ g [-1 - g.start] t w) (hl:t.length≤300):∃ x,jG g t=some x∧x.word=w:=by
  obtain ⟨x,h1,h2,h3⟩:=JH h t.length [] (Nat.le_refl _)
  rw[List.append_nil] at h1
  exact ⟨x,by rw[jG,if_pos ⟨hr,hl⟩,h1]; simp[h2],h3⟩
end Gv
set_option linter.unusedSimpArgs false
namespace Gv
open Go
theorem uG {g:al} {place:Int} {inner:List Int} : ∀ (l:List Int) (i:Int) (t:List Int) (s:Int),l[(place - i).toNat]?=some s→i≤place→s < 0→cd g place inner i l=some t→∀ x∈inner,x∈t
  | [],i,t,s,hs,_,_,_=>by simp at hs
  | c :: l,i,t,s,hs,hi,hn,h=>by
    rw[cd] at h
    by_cases e:i=place
    · subst e
      simp at hs; subst hs
      rw[if_neg (by omega),if_pos rfl] at h
      intro x hx
      cases hr:cd g i inner (i+1) l with
      | none=>rw[hr] at h; simp at h
      | some t'=>rw[hr] at h; simp at h; subst h; simp[hx]
    · have hs':l[(place - (i+1)).toNat]?=some s:=by
        have:(place - i).toNat=(place - (i+1)).toNat+1:=by omega
        rw[this] at hs
        simpa using hs
      split at h
      · exact uG l (i+1) t s hs' (by omega) hn h
      · try rw[if_neg e] at h
        split at h
        · cases hr:cd g place inner (i+1) l with
          | none=>rw[hr] at h; simp at h
          | some t' =>
            rw[hr] at h; simp at h; subst h
            intro x hx
            have:=uG l (i+1) t' s hs' (by omega) hn hr x hx
            simp[this]
        · simp at h
theorem Ad {g:al} {F:List Way} (hF:c7 g F):∀ (f:Nat) (n:Int) (x:List Int × Bool) (y:Int),n∈bG F→y∈x.1→(bW g F f n x).2=true→y∈(bW g F f n x).1
  | 0,n,x,y,_,hy,_=>by rw[bW]; exact hy
  | f+1,n,x,y,hn,hy,h=>by
    rw[bW] at h ⊢
    split at h
    · rename_i hx2
      rw[if_pos hx2]
      by_cases e:n=g.start
      · subst e
        rw[kG hF] at h ⊢
        simp only at h ⊢
        rw[if_neg (by omega)]
        exact hy
      · obtain ⟨k,j,R,h1,h2,h3,h4,h5,h6⟩:=uq hF hn e
        rw[h1] at h ⊢
        simp only at h ⊢
        rw[if_pos (by omega),(jl h2).2] at h ⊢
        by_cases hg:(ef g k j x.1).2=true
        · refine Ad hF f R.left _ y h5 ?_ h
          unfold ef at hg ⊢
          rw[(jl h2).1] at hg ⊢
          cases hp:cd g j x.1 0 R.right with
          | none=>rw[hp] at hg; simp at hg
          | some t =>
            simp only
            exact List.mem_cons_of_mem _ (uG R.right 0 t (-1 - n) (by simpa using h3) (by omega) (by omega) hp y hy)
        · cases f with
          | zero=>rw[bW] at h; exact absurd h hg
          | succ f=>rw[bW,if_neg hg] at h; exact absurd h hg
    · rename_i hx2
      exact absurd h hx2
theorem J4 {g:al} (h:isRed g=true) {i:Nat} (hi:i < g.rules.length) (hc:(dQ g i).2=true):(i:Int)∈(dQ g i).1:=by
  obtain ⟨hr,hW,hall⟩:=iZ h
  have hf:=bg hr
  have hR:g.rules[i]?=some (g.rules[i]):=List.getElem?_eq_getElem hi
  have hb:=hf.left _ (List.getElem_mem hi)
  have hk:=hall (g.rules[i]).left.toNat (by omega)
  rw[show (((g.rules[i]).left.toNat:Nat):Int)=(g.rules[i]).left by omega] at hk
  unfold dQ at hc ⊢
  rw[(jl hR).2] at hc ⊢
  have hg:(ef g i (-1) []).2=true:=by
    apply Decidable.byContradiction
    intro hn
    cases hx:df (eU g) (g.rules[i]).left with
    | zero=>rw[hx,bW] at hc; exact hn hc
    | succ f=>rw[hx,bW,if_neg hn] at hc; exact hn hc
  refine Ad hW _ _ _ _ hk ?_ hc
  unfold ef at hg ⊢
  split
  · simp
  · rename_i hp
    rw[hp] at hg; simp at hg
theorem J7 {g:al} {i:Int} (h:(dB g i).2=0):(dQ g i).2=true∧(dB g i).1=(dQ g i).1∧(jO g (dQ g i).1).1.length≤60:=by
  unfold dB at h ⊢
  split at h
  · simp at h
  · rename_i h1
    rw[if_neg h1]
    split at h
    · simp at h
    · rename_i h2
      rw[if_neg h2]
      exact ⟨by simpa using h1,rfl,by omega⟩
theorem Iu {g:al} {i:Int} (h:(dB g i).2≠0):(dB g i).2=13∧(dB g i).1=[]:=by
  unfold dB at h ⊢
  split
  · exact ⟨rfl,rfl⟩
  · rename_i h1
    rw[if_neg h1] at h
    split
    · exact ⟨rfl,rfl⟩
    · rename_i h2
      rw[if_neg h2] at h
      simp at h
def Kl (g:al) (t:List Int):Prop:=∃ w,gZ g [-1 - g.start] t w∧t.length≤300∧jO g t=(w,0)∧w.length≤60
theorem Fq {g:al} (h:isRed g=true) {i:Nat} (hi:i < g.rules.length) (hu:(dB g i).2=0):Kl g (dB g i).1∧(i:Int)∈(dB g i).1:=by
  obtain ⟨h1,h2,h3⟩:=J7 hu
  obtain ⟨w,h4,h5⟩:=C1 h hi h1
  obtain ⟨x,h6,h7⟩:=zr (iZ h).1 h4 h5
  rw[h2]
  refine ⟨⟨w,h4,h5,?_,?_⟩,J4 h hi h1⟩
  · rw[jO,h6,← h7]
  · rw[jO,h6] at h3
    simp only at h3
    rw[← h7]; exact h3
theorem Af {g:al} (h:isRed g=true):∀ i,i≤g.rules.length→(bH g i).1.length≤i∧(∀ t∈(bH g i).1,Kl g t)∧((bH g i).2=0→∀ k:Nat,k < i→∃ t∈(bH g i).1,(k:Int)∈t)∧((bH g i).2≠0→(bH g i).2=13∧(bH g i).1=[])
  | 0,_=>⟨by simp[bH],by simp[bH],fun _ k hk=>by omega,fun hn=>by simp[bH] at hn⟩
  | i+1,hi=>by
    obtain ⟨h1,h2,h3,h4⟩:=Af h i (by omega)
    rw[bH]
    split
    · rename_i he
      exact ⟨by omega,h2,fun h0=>absurd h0 he,h4⟩
    · rename_i he
      have he:(bH g i).2=0:=by simpa using he
      split
      · rename_i ha
        refine ⟨by omega,h2,fun h0 k hk=>?_,h4⟩
        by_cases hki:k=i
        · subst hki
          obtain ⟨t,ht,hm⟩:=List.any_eq_true.1 ha
          exact ⟨t,ht,by simpa using hm⟩
        · exact h3 h0 k (by omega)
      · split
        · rename_i hu
          obtain ⟨hg,hm⟩:=Fq h (i:=i) (by omega) hu
          refine ⟨by simp; omega,fun t ht=>?_,fun _ k hk=>?_,fun hn=>by simp at hn⟩
          · rcases List.mem_append.1 ht with ht | ht
            · exact h2 t ht
            · simp at ht; subst ht; exact hg
          · by_cases hki:k=i
            · subst hki
              exact ⟨_,by simp,hm⟩
            · obtain ⟨t,ht,hkt⟩:=h3 he k (by omega)
              exact ⟨t,by simp[ht],hkt⟩
        · rename_i hu
          obtain ⟨a,b⟩:=Iu hu
          exact ⟨by simp,by simp,fun h0=>absurd h0 hu,fun _=>⟨a,rfl⟩⟩
end Gv
set_option linter.unusedSimpArgs false
set_option maxRecDepth 100000
namespace Gv
open Go Go.Proofs
def kT:SC :=
  .seq (ak [aS 66 .lss 65 64]) <|
  .seq (.cond (.tmp 66) (.skip) (.exit 0)) <|
  .seq (.block 1 (.seq (ak [bp 67 1 63 65,aq 68 67,aa 8 68]) <|
  .seq (.seq (ak [aa 69 8,aA 70 .geq 69 0]) <|
  .cond (.tmp 70) (.seq (ak [aa 71 0,aa 72 0,bt 73 72,ao 74 5 73,aq 75 74,aa 76 8,((some 77),.op (.bF 1 1 [(.val (.int .i64 0))] [(0,(.tmp 76))])),((some 78),.op (.app 1 8 (.tmp 75) (.tmp 77))),bt 79 71,ao 80 5 79,(none,.op (.store 1 (.tmp 80) (.tmp 78)))]) <|
  .exit 1) (.skip)) <|
  .seq (ak [aa 81 0,aa 82 8,((some 83),.op (.arith .sub (.val (.val (.int .i64 (-1)))) (.tmp 82))),aK 84 210 [81,83],aa 9 84]) <|
  .seq (.seq (ak [aa 85 9,aA 86 .eql 85 0]) <|
  .cond (.tmp 86) (.seq (ak [aI 4 0]) <|
  .ret) (.skip)) <|
  ak [aa 87 6,aa 88 9,((some 89),.op (.mm true (.tmp 87) (.tmp 88))),aa 6 89])) <|
  ak [aA 90 .add 65 1,aa 65 90]
def fD:SF:=⟨.seq (ak [aI 4 0]) <|
  .seq (.seq (ak [aa 10 0,bt 11 10,ao 12 4 11,aq 13 12,aP 14 13,aA 15 .eql 14 0]) <|
  .cond (.tmp 15) (.seq (ak [aI 4 0]) <|
  .ret) (.skip)) <|
  .seq (ak [aa 16 0,bt 17 16,ao 18 4 17,aq 19 18,((some 20),.op (.idx 1 (.tmp 19) (.val (.val (.int .i64 0))))),aq 21 20,aa 5 21]) <|
  .seq (.seq (.region false [⟨none,[aa 22 5,aA 23 .lss 22 0,aa 24 23]⟩,⟨(some (24,false)),[aa 25 5,aa 26 0,bt 27 26,ao 28 0 27,ao 29 2 28,aq 30 29,aP 31 30,aS 32 .geq 25 31]⟩,⟨none,[bD 33 24 32,aa 34 33]⟩,⟨(some (34,false)),[aa 35 0,bt 36 35,ao 37 0 36,ao 38 2 37,aq 39 38,aa 40 5,bp 41 3 39 40,ao 42 0 41,aq 43 42,aa 44 1,aS 45 .neq 43 44]⟩,⟨none,[bD 46 34 45]⟩]) <|
  .cond (.tmp 46) (.seq (ak [aI 4 0]) <|
  .ret) (.skip)) <|
  .seq (ak [aa 47 0,aa 48 0,bt 49 48,ao 50 4 49,aq 51 50,((some 52),.op (.slice 1 (.tmp 51) (some (.val (.val (.int .i64 1)))) none)),bt 53 47,ao 54 4 53,(none,.op (.store 1 (.tmp 54) (.tmp 52)))]) <|
  .seq (ak [aI 6 0]) <|
  .seq (.seq (ak [aa 55 0,bt 56 55,ao 57 0 56,ao 58 2 57,aq 59 58,aa 60 5,bp 61 3 59 60,ao 62 1 61,aq 63 62,aP 64 63,aI 65 0]) <|
  .block 0 (.loop kT)) <|
  .seq (ak [aa 91 0,aa 92 0,bt 93 92,ao 94 6 93,aq 95 94,aa 96 5,((some 97),.op (.bF 1 1 [(.val (.int .i64 0))] [(0,(.tmp 96))])),((some 98),.op (.app 1 8 (.tmp 95) (.tmp 97))),bt 99 91,ao 100 6 99,(none,.op (.store 1 (.tmp 100) (.tmp 98)))]) <|
  .seq (ak [aa 101 6,aA 102 .add 101 1,aa 4 102]) <|
  .ret,
  [.tmp 4],103⟩
theorem gg:aV Tryz.prog 210 []=some fD:=by kernel_rfl
def vx:SF:=⟨.seq (ak [c9 2 0,((some 4),.op (.bd (.val (.val (.pointer none))))),aI 5 0]) <|
  .seq (.seq (.region false [⟨none,[ba 8 4 2,aK 9 45 [8],cq 10 9,aa 11 10]⟩,⟨(some (11,false)),[aa 12 1,aP 13 12,aA 14 .gtr 13 300]⟩,⟨none,[bD 15 11 14]⟩]) <|
  .cond (.tmp 15) (.seq (ak [((some 4),.op (.bd (.val (.val (.pointer none))))),aI 5 0]) <|
  .ret) (.skip)) <|
  .seq (ak [ba 16 4 2,aa 17 1,((some 18),.op (.build [(.emp 1),(.emp 1),(.emp 1),(.val (.int .i64 0)),(.emp 1),(.emp 1),(.emp 1)] [(0,4,(.tmp 16)),(4,1,(.tmp 17))])),((some 19),.op (.box (.tmp 18))),aa 6 19]) <|
  .seq (ak [aa 20 6,ao 21 3 2,aq 22 21,aK 23 210 [20,22],aa 7 23]) <|
  .seq (.seq (ak [aa 24 6,bt 25 24,ao 26 4 25,aq 27 26,aP 28 27,aA 29 .gtr 28 0]) <|
  .cond (.tmp 29) (.seq (ak [((some 4),.op (.bd (.val (.val (.pointer none))))),aI 5 0]) <|
  .ret) (.skip)) <|
  .seq (ak [aa 30 6,aa 31 7,aa 4 30,aa 5 31]) <|
  .ret,
  [.tmp 4,.tmp 5],32⟩
theorem yK:aV Tryz.prog 170 [2]=some vx:=by kernel_rfl
def vF:SF:=⟨.seq (ak [c9 2 0,((some 4),.op (.bd (.val (.emp 1)))),aI 5 0]) <|
  .seq (ak [ba 9 4 2,aa 10 1,aK 11 170 [9,10],aa 8 11,b7 12 0 8,b7 13 1 8,aa 6 12,aa 7 13]) <|
  .seq (.seq (ak [aa 14 7,aA 15 .eql 14 0]) <|
  .cond (.tmp 15) (.seq (ak [((some 4),.op (.bd (.val (.emp 1)))),aI 5 1]) <|
  .ret) (.skip)) <|
  .seq (ak [aa 16 6,bt 17 16,ao 18 5 17,aq 19 18,aa 4 19,aI 5 0]) <|
  .ret,
  [.tmp 4,.tmp 5],20⟩
theorem yV:aV Tryz.prog 111 [2]=some vF:=by kernel_rfl
def eS (g:al) (rest:List Int) (uw up:V):List V:=[.aN (g.ay.map cz),.aN (g.aw.map fun s=>[gs s]),.aN (g.rules.map bf),gi g.start,encI rest,uw,up]
def Cd (g:al) (b:Nat) (rest W Po:List Int) (H:View):Prop:=∃ uw up,bE H [(.sl b 0 1 7,7,[eS g rest uw up]),(uw,1,bY W),(up,1,bY Po)]
theorem x3 {g:al} {f:Nat} {n:Int} {rest:List Int} {x:Wk} (hn:n < 0) (h:bQ g f [n] rest=some x):1≤x.high:=by
  cases f with
  | zero=>rw[nU hn] at h; simp at h
  | succ f =>
    cases rest with
    | nil=>rw[kk hn] at h; simp at h
    | cons t rest =>
      rw[gx hn] at h
      cases hr:fH g t with
      | none=>rw[hr] at h; simp at h
      | some R =>
        rw[hr] at h
        simp only at h
        split at h
        · cases hw:bQ g f R.right rest with
          | none=>rw[hw] at h; simp at h
          | some y =>
            rw[hw] at h
            simp only[gF] at h
            simp at h; subst h
            simp[rU]
        · simp at h
theorem Fw (k:Int) (rest:List Int):gf 1 (.aN ([gi k] :: rest.map fun x=>[gi x])) (some (.val (.int .i64 1))) none=some (.aN (rest.map fun x=>[gi x]),.none,[]):=by
  have:asNat (.val (.int .i64 1))=some 1:=rfl
  simp[gf,bound,this,List.all_map]
  rw[List.take_of_length_le (by simp)]
def AY (g:al) (b:Nat) (o:Option Wk) (W Po:List Int) (r:V) (H:View):Prop:=match o with
  | some x=>r=gi x.high∧Cd g b x.rest (W ++ x.word) (Po ++ x.post) H
  | none=>r=gi 0∧∃ rest W Po,rest.length≤300∧Cd g b rest W Po H
theorem AY.bad {g:al} {b:Nat} {W Po W' Po' rest:List Int} {H:View} (hl:rest.length≤300) (h:Cd g b rest W' Po' H):AY g b none W Po (gi 0) H:=⟨rfl,rest,W',Po',hl,h⟩
set_option maxHeartbeats 4000000 in
theorem KV (g:al) (hg:g.Ok) (hf:g.iQ) (b:Nat):∀ (f:Nat) (n:Int) (rest W Po:List Int) (H:View),f≤300→0≤n→n < g.aw.length→rest.length≤f→W.length+6 * rest.length≤10000→Po.length+rest.length≤10000→Cd g b rest W Po H →
    aB Tryz.prog 210 [.ptr b 0 0,gi n] H fun r H'=>AY g b (bQ g f [-1 - n] rest) W Po r H':=by
  intro f
  induction f with
  | zero =>
    intro n rest W Po H0 hf3 hn0 hn1 hl hW hP hw
    have hrest:rest=[]:=List.length_eq_zero_iff.1 (by omega)
    subst hrest
    have hw0:=hw
    obtain ⟨uw,up,ho⟩:=hw
    have hb:=ho.is 0 rfl (by simp)
    refine aB.of mixed gg ?_
    simp (disch:=omega) only [↓wr,↓reduceIte,wq,ah,ag,aj,ab,ae,af,ai,isNil,Nat.reduceEqDiff,Nat.reduceAdd,Nat.reduceLT,Nat.reduceLeDiff,Int.reduceNeg,Int.reduceToNat,reduceCtorEq,fD,hb,eS,encI]
    refine an.eq (fun _=>?_) (fun e=>absurd rfl e)
    simp (disch:=omega) only [↓wr,↓reduceIte,wq,ah,ag,aj,ab,ae,af,ai,isNil,Nat.reduceEqDiff,Nat.reduceAdd,Nat.reduceLT,Nat.reduceLeDiff,Int.reduceNeg,Int.reduceToNat,reduceCtorEq]
    rw[kk (by omega)]
    exact .bad (by simp) hw0
  | succ f ih =>
    intro n rest W Po H0 hf3 hn0 hn1 hl hW hP hw
    have hw0:=hw
    obtain ⟨uw,up,ho⟩:=hw
    have hb:=ho.is 0 rfl (by simp)
    cases rest with
    | nil =>
      refine aB.of mixed gg ?_
      simp (disch:=omega) only [↓wr,↓reduceIte,wq,ah,ag,aj,ab,ae,af,ai,isNil,Nat.reduceEqDiff,Nat.reduceAdd,Nat.reduceLT,Nat.reduceLeDiff,Int.reduceNeg,Int.reduceToNat,reduceCtorEq,fD,hb,eS,encI]
      refine an.eq (fun _=>?_) (fun e=>absurd rfl e)
      simp (disch:=omega) only [↓wr,↓reduceIte,wq,ah,ag,aj,ab,ae,af,ai,isNil,Nat.reduceEqDiff,Nat.reduceAdd,Nat.reduceLT,Nat.reduceLeDiff,Int.reduceNeg,Int.reduceToNat,reduceCtorEq]
      rw[kk (by omega)]
      exact .bad (by simp) hw0
    | cons t rest =>
      simp only[List.length_cons] at hl hW hP
      have bad:(∀ R,fH g t=some R→R.left≠n)→AY g b (bQ g (f+1) [-1 - n] (t :: rest)) W Po (gi 0) H0:=fun h=>by
        have:bQ g (f+1) [-1 - n] (t :: rest)=none:=by
          rw[gx (by omega)]
          cases hr:fH g t with
          | none=>rfl
          | some R =>
            simp only
            rw[if_neg (by have:=h R hr; omega)]
        rw[this]
        exact .bad (by simp; omega) hw0
      refine aB.of mixed gg ?_
      simp (disch:=omega) only [↓wr,↓reduceIte,wq,ah,ag,aj,ab,ae,af,ai,isNil,Nat.reduceEqDiff,Nat.reduceAdd,Nat.reduceLT,Nat.reduceLeDiff,Int.reduceNeg,Int.reduceToNat,reduceCtorEq,fD,hb,eS,encI,List.getElem?_cons_zero]
      refine an.eq (fun e=>absurd e (by omega)) (fun _=>?_)
      simp (disch:=omega) only [↓wr,↓reduceIte,wq,ah,ag,aj,ab,ae,af,ai,isNil,Nat.reduceEqDiff,Nat.reduceAdd,Nat.reduceLT,Nat.reduceLeDiff,Int.reduceNeg,Int.reduceToNat,reduceCtorEq,hb,eS,encI,List.getElem?_cons_zero]
      refine an.dec (fun ht=>?_) (fun ht=>?_)
      · simp (disch:=omega) only [↓wr,↓reduceIte,wq,ah,ag,aj,ab,ae,af,ai,isNil,Nat.reduceEqDiff,Nat.reduceAdd,Nat.reduceLT,Nat.reduceLeDiff,Int.reduceNeg,Int.reduceToNat,reduceCtorEq]
        exact bad fun R hR=>by unfold fH at hR; rw[if_neg (by omega)] at hR; simp at hR
      · obtain ⟨k,rfl⟩:∃ k:Nat,t=k:=⟨t.toNat,by omega⟩
        simp (disch:=omega) only [↓wr,↓reduceIte,wq,ah,ag,aj,ab,ae,af,ai,isNil,Nat.reduceEqDiff,Nat.reduceAdd,Nat.reduceLT,Nat.reduceLeDiff,Int.reduceNeg,Int.reduceToNat,reduceCtorEq,hb,eS,encI]
        refine an.dec (fun hk=>?_) (fun hk=>?_)
        · simp (disch:=omega) only [↓wr,↓reduceIte,wq,ah,ag,aj,ab,ae,af,ai,isNil,Nat.reduceEqDiff,Nat.reduceAdd,Nat.reduceLT,Nat.reduceLeDiff,Int.reduceNeg,Int.reduceToNat,reduceCtorEq]
          exact bad fun R hR=>by
            unfold fH at hR
            rw[if_pos (by omega),Int.toNat_natCast] at hR
            have:=(List.getElem?_eq_some_iff.1 hR).1
            omega
        · have hR:g.rules[k]?=some (g.rules[k]'(by omega)):=List.getElem?_eq_getElem (by omega)
          have hmr:=List.mem_of_getElem? hR
          generalize g.rules[k]'(by omega)=R at hR hmr
          have hra:fH g (k:Int)=some R:=by rw[fH,if_pos (by omega),Int.toNat_natCast]; exact hR
          have hrw:=hg.bc R hmr
          have hr6:=hf.right R hmr
          simp (disch:=omega) only [↓wr,↓reduceIte,wq,ah,ag,aj,ab,ae,af,ai,isNil,Nat.reduceEqDiff,Nat.reduceAdd,Nat.reduceLT,Nat.reduceLeDiff,Int.reduceNeg,Int.reduceToNat,reduceCtorEq,hb,eS,encI,List.getElem?_map,hR,bf]
          refine an.ne (fun he=>?_) (fun he=>?_)
          · simp (disch:=omega) only [↓wr,↓reduceIte,wq,ah,ag,aj,ab,ae,af,ai,isNil,Nat.reduceEqDiff,Nat.reduceAdd,Nat.reduceLT,Nat.reduceLeDiff,Int.reduceNeg,Int.reduceToNat,reduceCtorEq]
            exact bad fun R' hR'=>by rw[hra] at hR'; simp at hR'; subst hR'; exact he
          · simp (disch:=omega) only [↓wr,↓reduceIte,wq,ah,ag,aj,ab,ae,af,ai,isNil,Nat.reduceEqDiff,Nat.reduceAdd,Nat.reduceLT,Nat.reduceLeDiff,Int.reduceNeg,Int.reduceToNat,reduceCtorEq,hb,eS,encI,List.getElem?_map,hR,bf,Fw]
            have o1:=ho.put (es':=[eS g rest uw up]) rfl rfl
            have hnone:∀ i,bQ g f (R.right.take i) rest=none→bQ g (f+1) [-1 - n] ((k:Int) :: rest)=none:=fun i h=>by
              rw[gx (by omega),hra]
              simp only
              rw[if_pos (by omega)]
              have e:=pE g f (R.right.take i) (R.right.drop i) rest
              rw[List.take_append_drop,h] at e
              rw[e]
            refine bz.up R.right.length (fun i T H'=>∃ x,bQ g f (R.right.take i) rest=some x∧Cd g b x.rest (W ++ x.word) (Po ++ x.post) H'∧T 0=.ptr b 0 0∧T 5=gi k∧T 6=gi x.high∧T 63=encI R.right∧T 64=gi R.right.length∧T 65=gi i)
              ⟨_,gF _ _ _,⟨uw,up,by simpa [eS,encI] using o1⟩,rfl,rfl,rfl,rfl,rfl,rfl⟩ ?_
            clear hb o1 ho hw0 bad
            rintro i j T H1 hj ⟨x,hx,hw1,t0,t5,t6,t63,t64,t65⟩
            obtain ⟨z1,z2,z3,z4⟩:=xE hf.right f _ _ x hx
            simp (disch:=omega) only [↓wr,↓reduceIte,wq,ah,ag,aj,ab,ae,af,ai,isNil,Nat.reduceEqDiff,Nat.reduceAdd,Nat.reduceLT,Nat.reduceLeDiff,Int.reduceNeg,Int.reduceToNat,reduceCtorEq,kT,t0,t5,t6,t63,t64,t65,encI]
            refine an.dec (fun hi=>?_) (fun hi=>?_)
            · have hg1:R.right[i]?=some (R.right[i]'(by omega)):=List.getElem?_eq_getElem (by omega)
              have hmem:R.right[i]'(by omega)∈R.right:=List.getElem_mem _
              have htk:R.right.take (i+1)=R.right.take i ++ [R.right[i]'(by omega)]:=by rw[List.take_add_one,hg1]; rfl
              have hap:=pE g f (R.right.take i) [R.right[i]'(by omega)] rest
              rw[← htk,hx] at hap
              generalize R.right[i]'(by omega)=s at hg1 hmem htk hap
              simp only at hap
              have hs64:=hrw.2.2.2 s hmem
              unfold bU at hs64
              simp only[List.length_take] at z3
              simp (disch:=omega) only [↓wr,↓reduceIte,wq,ah,ag,aj,ab,ae,af,ai,isNil,Nat.reduceEqDiff,Nat.reduceAdd,Nat.reduceLT,Nat.reduceLeDiff,Int.reduceNeg,Int.reduceToNat,reduceCtorEq,t0,t5,t6,t63,t64,t65,encI,List.getElem?_map,hg1]
              refine an.dec (fun hs=>?_) (fun hs=>?_)
              · obtain ⟨uw1,up1,o1⟩:=hw1
                have hb1:=o1.is 0 rfl (by simp)
                simp (disch:=omega) only [↓wr,↓reduceIte,wq,ah,ag,aj,ab,ae,af,ai,isNil,Nat.reduceEqDiff,Nat.reduceAdd,Nat.reduceLT,Nat.reduceLeDiff,Int.reduceNeg,Int.reduceToNat,reduceCtorEq,t0,t5,t6,t63,t64,t65,hb1,eS]
                intro m hm
                rw[dh]
                simp (disch:=omega) only [↓wr,↓reduceIte,wq,ah,ag,aj,ab,ae,af,ai,isNil,Nat.reduceEqDiff,Nat.reduceAdd,Nat.reduceLT,Nat.reduceLeDiff,Int.reduceNeg,Int.reduceToNat,reduceCtorEq,t0,t5,t6,t63,t64,t65]
                refine fF ((o1.at 1 (by simp)).fresh hm) (by simp[aM]) (by unfold aL; simp; omega) (by unfold aL; simp; omega) ?_
                intro u2 H2 o2 _
                simp only[List.eraseIdx_cons_succ,List.eraseIdx_cons_zero] at o2
                have hb2:=o2.is 1 rfl (by simp)
                have c2:=o2.head.cells
                have k2:=o2.head.oz
                simp (disch:=omega) only [↓wr,↓reduceIte,wq,ah,ag,aj,ab,ae,af,ai,isNil,Nat.reduceEqDiff,Nat.reduceAdd,Nat.reduceLT,Nat.reduceLeDiff,Int.reduceNeg,Int.reduceToNat,reduceCtorEq,t0,t5,t6,t63,t64,t65,hb2,eS,c2,k2]
                have o3:=(o2.at 1 (by simp)).put (es':=[eS g x.rest u2 up1]) rfl rfl
                simp only[List.eraseIdx_cons_succ,List.eraseIdx_cons_zero] at o3
                rw[jm hs,gF] at hap
                simp only[Option.map_some] at hap
                refine aT hj (by omega) ⟨_,hap,⟨u2,up1,?_⟩,t0,t5,?_,t63,t64,rfl⟩
                · simpa [eS,sk,qw] using o3
                · exact t6.trans (by simp[sk,qw])
              · simp (disch:=omega) only [↓wr,↓reduceIte,wq,ah,ag,aj,ab,ae,af,ai,isNil,Nat.reduceEqDiff,Nat.reduceAdd,Nat.reduceLT,Nat.reduceLeDiff,Int.reduceNeg,Int.reduceToNat,reduceCtorEq,t0,t5,t6,t63,t64,t65]
                have hcall:=ih (-1 - s) x.rest (W ++ x.word) (Po ++ x.post) H1 (by omega) (by omega) (by
                  have:=hf.sym R hmr s hmem
                  unfold iL at this
                  rw[if_neg (by omega)] at this
                  simpa using this) (by omega) (by simp; omega) (by simp; omega) hw1
                rw[show -1 - (-1 - s)=s by omega] at hcall
                refine aF.gQ (hcall.mono ?_)
                intro r H2 hr
                cases hy:bQ g f [s] x.rest with
                | none =>
                  rw[hy] at hr hap
                  obtain ⟨rfl,rest',W',Po',hl',hw'⟩:=hr
                  simp (disch:=omega) only [↓wr,↓reduceIte,wq,ah,ag,aj,ab,ae,af,ai,isNil,Nat.reduceEqDiff,Nat.reduceAdd,Nat.reduceLT,Nat.reduceLeDiff,Int.reduceNeg,Int.reduceToNat,reduceCtorEq,t0,t5,t6,t63,t64,t65]
                  refine an.eq (fun _=>?_) (fun e=>absurd rfl e)
                  simp (disch:=omega) only [↓wr,↓reduceIte,wq,ah,ag,aj,ab,ae,af,ai,isNil,Nat.reduceEqDiff,Nat.reduceAdd,Nat.reduceLT,Nat.reduceLeDiff,Int.reduceNeg,Int.reduceToNat,reduceCtorEq]
                  rw[hnone (i+1) hap]
                  exact .bad hl' hw'
                | some y =>
                  rw[hy] at hr hap
                  obtain ⟨rfl,hw2⟩:=hr
                  have hyh:=x3 (by omega) hy
                  simp (disch:=omega) only [↓wr,↓reduceIte,wq,ah,ag,aj,ab,ae,af,ai,isNil,Nat.reduceEqDiff,Nat.reduceAdd,Nat.reduceLT,Nat.reduceLeDiff,Int.reduceNeg,Int.reduceToNat,reduceCtorEq,t0,t5,t6,t63,t64,t65]
                  refine an.eq (fun e=>absurd e (by omega)) (fun _=>?_)
                  simp (disch:=omega) only [↓wr,↓reduceIte,wq,ah,ag,aj,ab,ae,af,ai,isNil,Nat.reduceEqDiff,Nat.reduceAdd,Nat.reduceLT,Nat.reduceLeDiff,Int.reduceNeg,Int.reduceToNat,reduceCtorEq,t0,t5,t6,t63,t64,t65]
                  simp only[Option.map_some] at hap
                  refine aT hj (by omega) ⟨_,hap,?_,t0,t5,?_,t63,t64,rfl⟩
                  · simpa [sk] using hw2
                  · show gi (if (y.high:Int) > x.high then (y.high:Int) else x.high)=gi ((sk x y).high:Nat)
                    congr 2
                    simp only[sk]
                    split <;> omega
            · rw[List.take_of_length_le (by omega)] at hx
              obtain ⟨uw1,up1,o1⟩:=hw1
              have hb1:=o1.is 0 rfl (by simp)
              simp (disch:=omega) only [↓wr,↓reduceIte,wq,ah,ag,aj,ab,ae,af,ai,isNil,Nat.reduceEqDiff,Nat.reduceAdd,Nat.reduceLT,Nat.reduceLeDiff,Int.reduceNeg,Int.reduceToNat,reduceCtorEq,t0,t5,t6,t63,t64,t65,hb1,eS]
              intro m hm
              rw[dh]
              simp (disch:=omega) only [↓wr,↓reduceIte,wq,ah,ag,aj,ab,ae,af,ai,isNil,Nat.reduceEqDiff,Nat.reduceAdd,Nat.reduceLT,Nat.reduceLeDiff,Int.reduceNeg,Int.reduceToNat,reduceCtorEq,t0,t5,t6,t63,t64,t65]
              refine fF ((o1.at 2 (by simp)).fresh hm) (by simp[aM]) (by unfold aL; simp; omega) (by unfold aL; simp; omega) ?_
              intro u2 H2 o2 _
              simp only[List.eraseIdx_cons_succ,List.eraseIdx_cons_zero] at o2
              have hb2:=o2.is 1 rfl (by simp)
              have c2:=o2.head.cells
              have k2:=o2.head.oz
              simp (disch:=omega) only [↓wr,↓reduceIte,wq,ah,ag,aj,ab,ae,af,ai,isNil,Nat.reduceEqDiff,Nat.reduceAdd,Nat.reduceLT,Nat.reduceLeDiff,Int.reduceNeg,Int.reduceToNat,reduceCtorEq,t0,t5,t6,t63,t64,t65,hb2,eS,c2,k2]
              have o3:=(o2.at 1 (by simp)).put (es':=[eS g x.rest uw1 u2]) rfl rfl
              simp only[List.eraseIdx_cons_succ,List.eraseIdx_cons_zero] at o3
              have hfin:bQ g (f+1) [-1 - n] ((k:Int) :: rest)=some ⟨x.rest,x.word ++ [],x.post ++ [(k:Int)],max (x.high+1) 0⟩:=by
                rw[gx (by omega),hra]
                simp only
                rw[if_pos (by omega),hx]
                simp only[gF,Option.map_some,rU]
              rw[hfin]
              refine ⟨?_,uw1,u2,?_⟩
              · simp
              · have o4:=o3.perm (.cons _ (.swap _ _ _))
                simpa [eS] using o4
end Gv
set_option linter.unusedSimpArgs false
set_option maxRecDepth 100000
namespace Gv
open Go Go.Proofs
theorem LN:oO.Ok:=by
  refine ⟨by unfold aH; decide,by unfold aH; decide,by unfold aH; decide,by unfold bU; decide,?_,?_⟩
  · intro t ht; simp[oO] at ht
  · intro r hr; simp[oO] at hr
theorem q5:∀ (l:List aJ) (acc:List Int),(l.foldl dn acc).length≤acc.length+l.length
  | [],acc=>by simp
  | r :: l,acc=>by
    have h1:=q5 l (dn acc r)
    have h2:(dn acc r).length≤acc.length+1:=by unfold dn; split <;> simp
    simp only[List.foldl_cons,List.length_cons]
    omega
theorem Jy (p q:List Bool) (l:List aJ):(cb p q l).length≤l.length:=by
  have h1:=q5 (l.filter (bI p q)) []
  have h2:=List.length_filter_le (bI p q) l
  unfold cb
  simp only[List.length_nil] at h1
  omega
theorem KL {g:al} (hg:g.Ok) (p q:List Bool):(iO g (bK (cb p q g.rules)) p q).Ok:=by
  have ho:=Jy p q g.rules
  have h3:=hg.rules
  unfold aH at h3
  have hb:∀ x,bU (bK (cb p q g.rules) x):=fun x=>by
    have:=EL (cb p q g.rules) x
    unfold bU; omega
  have hb2:∀ x,bU (-1 - bK (cb p q g.rules) x):=fun x=>by
    have:=EL (cb p q g.rules) x
    unfold bU; omega
  refine ⟨hg.ay,?_,?_,hb _,hg.term,fun r hr=>?_⟩
  · unfold aH; simp only[iO,List.length_map]; omega
  · have:=List.length_filter_le (bI p q) g.rules
    unfold aH; simp only[iO,List.length_map]; omega
  · simp only[iO,List.mem_map,List.mem_filter] at hr
    obtain ⟨r0,⟨h0,_⟩,rfl⟩:=hr
    obtain ⟨_,i2,i3,i4⟩:=hg.bc r0 h0
    refine ⟨hb _,i2,by unfold aH at i3 ⊢; simpa [bA] using i3,fun x hx=>?_⟩
    simp only[bA,List.mem_map] at hx
    obtain ⟨s,hs,rfl⟩:=hx
    split
    · exact hb2 _
    · exact i4 s hs
section
variable {g r:al} {p q:List Bool} {o:List Int}
theorem dz.ok (h:dz g p q o r) (hg:g.Ok):r.Ok:=by
  have:=KL hg p q
  rw[← h.oe,← h.re] at this
  exact this
theorem dz.small (h:dz g p q o r) (hs:g.Small):r.Small:=by
  have:=nA h.nodup h.inside
  have:=hs.names
  exact ⟨by rw[h.len,h.ay]; omega⟩
end
end Gv
set_option linter.unusedSimpArgs false
set_option maxRecDepth 100000
namespace Gv
open Go Go.Proofs
def j7:SC :=
  .seq (.seq (ak [aa 11 5,aa 12 0,aP 13 12,aS 14 .lss 11 13]) <|
  .cond (.tmp 14) (.skip) (.exit 0)) <|
  .seq (.block 1 (.seq (ak [aa 17 0,aa 18 5,bp 19 1 17 18,aq 20 19,aa 21 1,aa 22 5,bp 23 1 21 22,aq 24 23,((some 25),.op (.beq false (.tmp 20) (.tmp 24)))]) <|
  .cond (.tmp 25) (.seq (ak [aW 4 false]) <|
  .ret) (.skip))) <|
  ak [aa 15 5,aA 16 .add 15 1,aa 5 16]
def lI:SF:=⟨.seq (ak [aW 4 false]) <|
  .seq (.seq (ak [aa 6 0,aP 7 6,aa 8 1,aP 9 8,aS 10 .neq 7 9]) <|
  .cond (.tmp 10) (.seq (ak [aW 4 false]) <|
  .ret) (.skip)) <|
  .seq (.seq (ak [aI 5 0]) <|
  .block 0 (.loop j7)) <|
  .seq (ak [aW 4 true]) <|
  .ret,
  [.tmp 4],26⟩
theorem ql:aV Tryz.prog 35 []=some lI:=by kernel_rfl
theorem Jz (a b:List Bool) (ha:aH a) (H:View):aB Tryz.prog 35 [bS a,bS b] H fun r H'=>r=gb (a == b)∧H'=H:=by
  refine aB.of mixed ql ?_
  unfold aH at ha
  simp (disch:=omega) only [↓wr,↓reduceIte,wq,ah,ag,aj,ab,ae,af,ai,isNil,Nat.reduceEqDiff,Nat.reduceAdd,Nat.reduceLT,Nat.reduceLeDiff,Int.reduceNeg,Int.reduceToNat,reduceCtorEq,lI,bS]
  refine an.ne (fun h=>?_) (fun h=>?_)
  · simp (disch:=omega) only [↓wr,↓reduceIte,wq,ah,ag,aj,ab,ae,af,ai,isNil,Nat.reduceEqDiff,Nat.reduceAdd,Nat.reduceLT,Nat.reduceLeDiff,Int.reduceNeg,Int.reduceToNat,reduceCtorEq]
    rw[y1 (by omega)]
  · simp (disch:=omega) only [↓wr,↓reduceIte,wq,ah,ag,aj,ab,ae,af,ai,isNil,Nat.reduceEqDiff,Nat.reduceAdd,Nat.reduceLT,Nat.reduceLeDiff,Int.reduceNeg,Int.reduceToNat,reduceCtorEq]
    refine bz.intro (fun k T H'=>∃ i:Nat,i+k=a.length∧a.take i=b.take i∧T 0=bS a∧T 1=bS b∧T 5=gi i∧H'=H) a.length ?_ ?_
    · exact ⟨0,by omega,by simp,rfl,rfl,rfl,rfl⟩
    · rintro k T H' ⟨i,hk,hi,h0,h1,h5,rfl⟩
      simp (disch:=omega) only [↓wr,↓reduceIte,wq,ah,ag,aj,ab,ae,af,ai,isNil,Nat.reduceEqDiff,Nat.reduceAdd,Nat.reduceLT,Nat.reduceLeDiff,Int.reduceNeg,Int.reduceToNat,reduceCtorEq,j7,h0,h1,h5,bS]
      refine an.dec (fun hc=>?_) (fun hc=>?_)
      · have h2:a[i]?=some (a[i]'(by omega)):=List.getElem?_eq_getElem (by omega)
        have h3:b[i]?=some (b[i]'(by omega)):=List.getElem?_eq_getElem (by omega)
        simp (disch:=omega) only [↓wr,↓reduceIte,wq,ah,ag,aj,ab,ae,af,ai,isNil,Nat.reduceEqDiff,Nat.reduceAdd,Nat.reduceLT,Nat.reduceLeDiff,Int.reduceNeg,Int.reduceToNat,reduceCtorEq,h0,h1,h5,bS,List.getElem?_map,h2,h3,Option.map_some]
        refine an.split (fun hd=>?_) (fun hd=>?_)
        · simp (disch:=omega) only [↓wr,↓reduceIte,wq,ah,ag,aj,ab,ae,af,ai,isNil,Nat.reduceEqDiff,Nat.reduceAdd,Nat.reduceLT,Nat.reduceLeDiff,Int.reduceNeg,Int.reduceToNat,reduceCtorEq]
          have:(a == b)=false:=by
            simp only[beq_eq_false_iff_ne]; rintro rfl; simp at hd
          rw[this]
        · simp (disch:=omega) only [↓wr,↓reduceIte,wq,ah,ag,aj,ab,ae,af,ai,isNil,Nat.reduceEqDiff,Nat.reduceAdd,Nat.reduceLT,Nat.reduceLeDiff,Int.reduceNeg,Int.reduceToNat,reduceCtorEq,h0,h1,h5,bS]
          refine ⟨k - 1,by omega,i+1,by omega,?_,rfl⟩
          have hd:a[i]'(by omega)=b[i]'(by omega):=by simpa using hd
          rw[List.take_add_one,List.take_add_one,hi,h2,h3,hd]
      · simp (disch:=omega) only [↓wr,↓reduceIte,wq,ah,ag,aj,ab,ae,af,ai,isNil,Nat.reduceEqDiff,Nat.reduceAdd,Nat.reduceLT,Nat.reduceLeDiff,Int.reduceNeg,Int.reduceToNat,reduceCtorEq,h0,h1,h5,bS]
        have:a=b:=by
          have e:i=a.length:=by omega
          rw[List.take_of_length_le (by omega),List.take_of_length_le (by omega)] at hi
          exact hi
        rw[this]; simp
theorem Bq (a b:List Bool) (ha:aH a):aE Tryz.prog 35 [bS a,bS b] (gb (a == b)) :=
  aE.of (by simp[iD]) ((Jz a b ha _).mono fun r H' h h' _=>by rw[h.1]; exact .tree _ (.val _))
end Gv
set_option linter.unusedSimpArgs false
set_option maxRecDepth 100000
namespace Gv
open Go Go.Proofs
theorem bytes_beq (a b:ByteArray):(a == b)=decide (a=b):=by
  cases a with | mk a=>cases b with | mk b =>
  rw[Bool.eq_iff_iff]
  show (ByteArray.beq ⟨a⟩ ⟨b⟩=true)↔_
  simp only[ByteArray.beq]
  simp
theorem IH (a b:ByteArray):fI a b=decide (a=b):=by
  cases a with | mk a=>cases b with | mk b =>
  rw[Bool.eq_iff_iff]
  simp[fI]
theorem vi {α:Type} {a b:List α} {i:Nat} {x y:α} (hx:a[i]?=some x) (hy:b[i]?=some y) (h:a.take i=b.take i) (e:x=y):a.take (i+1)=b.take (i+1):=by
  rw[List.take_add_one,List.take_add_one,h,hx,hy,e]
theorem yq {α:Type} {a b:List α} {i:Nat} (ha:a.length≤i) (hb:b.length≤i) (h:a.take i=b.take i):a=b:=by
  rwa [List.take_of_length_le ha,List.take_of_length_le hb] at h
theorem A4 {α:Type} {a b:List α} {i:Nat} {x y:α} (hx:a[i]?=some x) (hy:b[i]?=some y) (e:x≠y):a≠b:=by
  rintro rfl; rw[hx] at hy; exact e (by simpa using hy)
theorem ye {α:Type} {a b:List α} (h:¬ a.length=b.length):a≠b:=fun e=>h (by rw[e])
theorem Db (x y:Term):fk Tryz.prog 9998 #[.string x.name,.int .i64 x.level,.int .i64 x.assoc] #[.string y.name,.int .i64 y.level,.int .i64 y.assoc]
    [{ name:= "Name",type:=9,offset:=0,embedded:=false,tag:= "",pkgPath:= "",byteOffset:=0 },{ name:= "Level",type:=3,offset:=1,embedded:=false,tag:= "",pkgPath:= "",byteOffset:=16 },
        { name:= "Assoc",type:=3,offset:=2,embedded:=false,tag:= "",pkgPath:= "",byteOffset:=24 }] (x.name == y.name && (x.level == y.level && (x.assoc == y.assoc && true))) :=
  .str _ _ _ _ _ (by decide) Tryz.underlying9 rfl rfl (.int _ _ _ _ _ _ (by decide) Tryz.underlying3 rfl rfl (.int _ _ _ _ _ _ (by decide) Tryz.underlying3 rfl rfl .nil))
theorem KU (x y:Term):(x.name == y.name && (x.level == y.level && (x.assoc == y.assoc && true)))=decide (x=y):=by
  rw[bytes_beq,Bool.eq_iff_iff]
  cases x; cases y
  simp
theorem K8 (a b:Int):(a == b)=decide (a=b):=by rw[Bool.eq_iff_iff]; simp
theorem Jh (x y:aJ):decide (x=y)=(decide (x.left=y.left) && (decide (x.prec=y.prec) && decide (x.right=y.right))):=by
  cases x; cases y
  rw[Bool.eq_iff_iff]
  simp[and_comm]
theorem JC (x y:al):decide (x=y)=(decide (x.ay=y.ay) && (decide (x.aw=y.aw) && (decide (x.rules=y.rules) && decide (x.start=y.start)))):=by
  cases x; cases y
  rw[Bool.eq_iff_iff]
  simp
theorem HX (g k:al):∀ v∈[V.agg (av g),V.agg (av k)],Tree v:=by
  intro v hv; simp at hv
  rcases hv with rfl | rfl <;> exact dr _ (dE _)
end Gv
set_option linter.unusedSimpArgs false
set_option maxRecDepth 100000
namespace Gv
open Go Go.Proofs
def dZ:SC :=
  .seq (ak [aS 14 .lss 13 12]) <|
  .seq (.cond (.tmp 14) (.skip) (.exit 0)) <|
  .seq (.block 1 (.seq (ak [aa 15 13,aa 5 15]) <|
  .seq (ak [aa 16 0,aa 17 5,bp 18 3 16 17,ba 19 3 18,aa 20 1,aa 21 5,bp 22 3 20 21,ba 23 3 22,((some 24),.op (.bb (.binOp .neq 119 (.tmp 19) (.tmp 23) 119) 4))]) <|
  .cond (.tmp 24) (.seq (ak [aW 4 false]) <|
  .ret) (.skip))) <|
  ak [aA 25 .add 13 1,aa 13 25]
def eK:SF:=⟨.seq (ak [aW 4 false]) <|
  .seq (.seq (ak [aa 6 0,aP 7 6,aa 8 1,aP 9 8,aS 10 .neq 7 9]) <|
  .cond (.tmp 10) (.seq (ak [aW 4 false]) <|
  .ret) (.skip)) <|
  .seq (.seq (ak [aa 11 0,aP 12 11,aI 13 0]) <|
  .block 0 (.loop dZ)) <|
  .seq (ak [aW 4 true]) <|
  .ret,
  [.tmp 4],26⟩
theorem hQ:aV Tryz.prog 165 []=some eK:=by kernel_rfl
def eY:SC :=
  .seq (ak [aS 14 .lss 13 12]) <|
  .seq (.cond (.tmp 14) (.skip) (.exit 0)) <|
  .seq (.block 1 (.seq (ak [aa 15 13,aa 5 15]) <|
  .seq (ak [aa 16 0,aa 17 5,bp 18 1 16 17,aq 19 18,aa 20 1,aa 21 5,bp 22 1 20 21,aq 23 22,((some 24),.op (.ic .neq (.tmp 19) (.tmp 23)))]) <|
  .cond (.tmp 24) (.seq (ak [aW 4 false]) <|
  .ret) (.skip))) <|
  ak [aA 25 .add 13 1,aa 13 25]
def fu:SF:=⟨.seq (ak [aW 4 false]) <|
  .seq (.seq (ak [aa 6 0,aP 7 6,aa 8 1,aP 9 8,aS 10 .neq 7 9]) <|
  .cond (.tmp 10) (.seq (ak [aW 4 false]) <|
  .ret) (.skip)) <|
  .seq (.seq (ak [aa 11 0,aP 12 11,aI 13 0]) <|
  .block 0 (.loop eY)) <|
  .seq (ak [aW 4 true]) <|
  .ret,
  [.tmp 4],26⟩
theorem jv:aV Tryz.prog 166 []=some fu:=by kernel_rfl
def gG:SC :=
  .seq (ak [aS 14 .lss 13 12]) <|
  .seq (.cond (.tmp 14) (.skip) (.exit 0)) <|
  .seq (.block 1 (.seq (ak [aa 15 13,aa 5 15]) <|
  .seq (ak [aa 16 0,aa 17 5,bp 18 1 16 17,aq 19 18,aa 20 1,aa 21 5,bp 22 1 20 21,aq 23 22,aS 24 .neq 19 23]) <|
  .cond (.tmp 24) (.seq (ak [aW 4 false]) <|
  .ret) (.skip))) <|
  ak [aA 25 .add 13 1,aa 13 25]
def iu:SF:=⟨.seq (ak [aW 4 false]) <|
  .seq (.seq (ak [aa 6 0,aP 7 6,aa 8 1,aP 9 8,aS 10 .neq 7 9]) <|
  .cond (.tmp 10) (.seq (ak [aW 4 false]) <|
  .ret) (.skip)) <|
  .seq (.seq (ak [aa 11 0,aP 12 11,aI 13 0]) <|
  .block 0 (.loop gG)) <|
  .seq (ak [aW 4 true]) <|
  .ret,
  [.tmp 4],26⟩
theorem mc:aV Tryz.prog 208 []=some iu:=by kernel_rfl
def vW:SF:=⟨.seq (ak [c9 2 0,c9 3 1,aW 4 false]) <|
  .seq (.region false [⟨none,[ao 5 0 2,aq 6 5,ao 7 0 3,aq 8 7,aS 9 .eql 6 8,aa 10 9]⟩,⟨(some (10,true)),[ao 11 2 2,aq 12 11,ao 13 2 3,aq 14 13,aS 15 .eql 12 14]⟩,⟨none,[bJ 16 10 15,aa 17 16]⟩,⟨(some (17,true)),[ao 18 1 2,aq 19 18,ao 20 1 3,aq 21 20,aK 22 208 [19,21]]⟩,⟨none,[bJ 23 17 22,aa 4 23]⟩]) <|
  .ret,
  [.tmp 4],24⟩
theorem yy:aV Tryz.prog 168 [2,3]=some vW:=by kernel_rfl
def cp:SC :=
  .seq (ak [aS 18 .lss 17 16]) <|
  .seq (.cond (.tmp 18) (.skip) (.exit 0)) <|
  .seq (.block 1 (.seq (ak [aa 19 17,bp 20 3 15 17,ba 21 3 20,((some 8),.op (.alloc [(.val (.int .i64 0)),(.emp 1),(.val (.int .i64 0))])),aa 7 19,(none,.op (.store 3 (.tmp 8) (.tmp 21)))]) <|
  .seq (ak [aa 22 1,aa 23 7,bp 24 3 22 23,ba 25 3 24,((some 9),.op (.alloc [(.val (.int .i64 0)),(.emp 1),(.val (.int .i64 0))])),(none,.op (.store 3 (.tmp 9) (.tmp 25)))]) <|
  .seq (ak [aa 26 2,ba 27 3 8,ba 28 3 9,((some 29),.call (.tmp 26) [(.tmp 27),(.tmp 28)]),cq 30 29]) <|
  .cond (.tmp 30) (.seq (ak [aW 6 false]) <|
  .ret) (.skip))) <|
  ak [aA 31 .add 17 1,aa 17 31]
def cx:SF:=⟨.seq (ak [aW 6 false]) <|
  .seq (.seq (ak [aa 10 0,aP 11 10,aa 12 1,aP 13 12,aS 14 .neq 11 13]) <|
  .cond (.tmp 14) (.seq (ak [aW 6 false]) <|
  .ret) (.skip)) <|
  .seq (.seq (ak [aa 15 0,aP 16 15,aI 17 0]) <|
  .block 0 (.loop cp)) <|
  .seq (ak [aW 6 true]) <|
  .ret,
  [.tmp 6],32⟩
theorem dI:aV Tryz.prog 167 []=some cx:=by kernel_rfl
def xw:SF:=⟨.seq (ak [c9 2 0,c9 3 1,aW 4 false]) <|
  .seq (.region false [⟨none,[ao 5 0 2,aq 6 5,ao 7 0 3,aq 8 7,aK 9 165 [6,8],aa 10 9]⟩,⟨(some (10,true)),[ao 11 1 2,aq 12 11,ao 13 1 3,aq 14 13,aK 15 166 [12,14]]⟩,⟨none,[bJ 16 10 15,aa 17 16]⟩,⟨(some (17,true)),[ao 18 2 2,aq 19 18,ao 20 2 3,aq 21 20,cI 22 167 [(.tmp 19),(.tmp 21),(.val (.fn 168 [] []))]]⟩,⟨none,[bJ 23 17 22,aa 24 23]⟩,⟨(some (24,true)),[ao 25 3 2,aq 26 25,ao 27 3 3,aq 28 27,aS 29 .eql 26 28]⟩,⟨none,[bJ 30 24 29,aa 4 30]⟩]) <|
  .ret,
  [.tmp 4],31⟩
theorem AV:aV Tryz.prog 108 [2,3]=some xw:=by kernel_rfl
theorem G5 {α:Type} {f g:α→List V} {a b:List α} (hf:∀ x,∀ v∈f x,Tree v) (hg:∀ x,∀ v∈g x,Tree v):∀ v∈[V.aN (a.map f),V.aN (b.map g)],Tree v:=by
  intro v hv; simp at hv
  rcases hv with rfl | rfl
  · exact eN _ _ fun x _=>hf x
  · exact eN _ _ fun x _=>hg x
theorem Im (a b:List Term) (ha:aH a) (H:View):aB Tryz.prog 165 [.aN (a.map cz),.aN (b.map cz)] H fun r _=>r=gb (decide (a=b)):=by
  refine aB.of mixed hQ ?_
  unfold aH at ha
  simp (disch:=omega) only [↓wr,↓reduceIte,wq,ah,ag,aj,ab,ae,af,ai,isNil,Nat.reduceEqDiff,Nat.reduceAdd,Nat.reduceLT,Nat.reduceLeDiff,Int.reduceNeg,Int.reduceToNat,reduceCtorEq,eK]
  refine an.ne (fun h=>?_) (fun h=>?_)
  · simp (disch:=omega) only [↓wr,↓reduceIte,wq,ah,ag,aj,ab,ae,af,ai,isNil,Nat.reduceEqDiff,Nat.reduceAdd,Nat.reduceLT,Nat.reduceLeDiff,Int.reduceNeg,Int.reduceToNat,reduceCtorEq]
    rw[decide_eq_false (ye (by omega))]
  · simp (disch:=omega) only [↓wr,↓reduceIte,wq,ah,ag,aj,ab,ae,af,ai,isNil,Nat.reduceEqDiff,Nat.reduceAdd,Nat.reduceLT,Nat.reduceLeDiff,Int.reduceNeg,Int.reduceToNat,reduceCtorEq]
    refine bz.up a.length (fun i T _=>a.take i=b.take i∧T 0=.aN (a.map cz)∧T 1=.aN (b.map cz)∧T 12=gi a.length∧T 13=gi i) ⟨by simp,rfl,rfl,rfl,rfl⟩ ?_
    rintro i k T H hk ⟨hi,h0,h1,h7,h8⟩
    simp (disch:=omega) only [↓wr,↓reduceIte,wq,ah,ag,aj,ab,ae,af,ai,isNil,Nat.reduceEqDiff,Nat.reduceAdd,Nat.reduceLT,Nat.reduceLeDiff,Int.reduceNeg,Int.reduceToNat,reduceCtorEq,dZ,h0,h1,h7,h8]
    refine an.dec (fun hc=>?_) (fun hc=>?_)
    · have h2:a[i]?=some (a[i]'(by omega)):=List.getElem?_eq_getElem (by omega)
      have h3:b[i]?=some (b[i]'(by omega)):=List.getElem?_eq_getElem (by omega)
      generalize a[i]'(by omega)=x at h2
      generalize b[i]'(by omega)=y at h3
      simp (disch:=omega) only [↓wr,↓reduceIte,wq,ah,ag,aj,ab,ae,af,ai,isNil,Nat.reduceEqDiff,Nat.reduceAdd,Nat.reduceLT,Nat.reduceLeDiff,Int.reduceNeg,Int.reduceToNat,reduceCtorEq,h0,h1,h7,h8,List.getElem?_map,h2,h3,cz]
      refine Dq (xs:=#[.string x.name,.int .i64 x.level,.int .i64 x.assoc]) (ys:=#[.string y.name,.int .i64 y.level,.int .i64 y.assoc]) Tryz.underlying119 (by kernel_rfl) (by kernel_rfl) ?_ ?_ (Db x y) (.inr ⟨rfl,rfl⟩) ?_
      · rfl
      · rfl
      rw[KU]
      simp (disch:=omega) only [↓wr,↓reduceIte,wq,ah,ag,aj,ab,ae,af,ai,isNil,Nat.reduceEqDiff,Nat.reduceAdd,Nat.reduceLT,Nat.reduceLeDiff,Int.reduceNeg,Int.reduceToNat,reduceCtorEq,h0,h1,h7,h8]
      refine an.split (fun e=>?_) (fun e=>?_)
      · simp (disch:=omega) only [↓wr,↓reduceIte,wq,ah,ag,aj,ab,ae,af,ai,isNil,Nat.reduceEqDiff,Nat.reduceAdd,Nat.reduceLT,Nat.reduceLeDiff,Int.reduceNeg,Int.reduceToNat,reduceCtorEq,h0,h1,h7,h8]
        exact aT hk (by omega) ⟨vi h2 h3 hi (by simpa using e),h0,h1,h7,rfl⟩
      · simp (disch:=omega) only [↓wr,↓reduceIte,wq,ah,ag,aj,ab,ae,af,ai,isNil,Nat.reduceEqDiff,Nat.reduceAdd,Nat.reduceLT,Nat.reduceLeDiff,Int.reduceNeg,Int.reduceToNat,reduceCtorEq,h0,h1,h7,h8]
        rw[decide_eq_false (A4 h2 h3 (by simpa using e))]
    · simp (disch:=omega) only [↓wr,↓reduceIte,wq,ah,ag,aj,ab,ae,af,ai,isNil,Nat.reduceEqDiff,Nat.reduceAdd,Nat.reduceLT,Nat.reduceLeDiff,Int.reduceNeg,Int.reduceToNat,reduceCtorEq,h0,h1,h7,h8]
      rw[decide_eq_true (yq (by omega) (by omega) hi)]
theorem IF (a b:List ByteArray) (ha:aH a) (H:View):aB Tryz.prog 166 [encS a,encS b] H fun r _=>r=gb (decide (a=b)):=by
  refine aB.of mixed jv ?_
  unfold aH at ha
  simp (disch:=omega) only [↓wr,↓reduceIte,wq,ah,ag,aj,ab,ae,af,ai,isNil,Nat.reduceEqDiff,Nat.reduceAdd,Nat.reduceLT,Nat.reduceLeDiff,Int.reduceNeg,Int.reduceToNat,reduceCtorEq,fu,encS]
  refine an.ne (fun h=>?_) (fun h=>?_)
  · simp (disch:=omega) only [↓wr,↓reduceIte,wq,ah,ag,aj,ab,ae,af,ai,isNil,Nat.reduceEqDiff,Nat.reduceAdd,Nat.reduceLT,Nat.reduceLeDiff,Int.reduceNeg,Int.reduceToNat,reduceCtorEq]
    rw[decide_eq_false (ye (by omega))]
  · simp (disch:=omega) only [↓wr,↓reduceIte,wq,ah,ag,aj,ab,ae,af,ai,isNil,Nat.reduceEqDiff,Nat.reduceAdd,Nat.reduceLT,Nat.reduceLeDiff,Int.reduceNeg,Int.reduceToNat,reduceCtorEq]
    refine bz.up a.length (fun i T _=>a.take i=b.take i∧T 0=encS a∧T 1=encS b∧T 12=gi a.length∧T 13=gi i) ⟨by simp,rfl,rfl,rfl,rfl⟩ ?_
    rintro i k T H hk ⟨hi,h0,h1,h7,h8⟩
    simp (disch:=omega) only [↓wr,↓reduceIte,wq,ah,ag,aj,ab,ae,af,ai,isNil,Nat.reduceEqDiff,Nat.reduceAdd,Nat.reduceLT,Nat.reduceLeDiff,Int.reduceNeg,Int.reduceToNat,reduceCtorEq,eY,h0,h1,h7,h8,encS]
    refine an.dec (fun hc=>?_) (fun hc=>?_)
    · have h2:a[i]?=some (a[i]'(by omega)):=List.getElem?_eq_getElem (by omega)
      have h3:b[i]?=some (b[i]'(by omega)):=List.getElem?_eq_getElem (by omega)
      generalize a[i]'(by omega)=x at h2
      generalize b[i]'(by omega)=y at h3
      simp (disch:=omega) only [↓wr,↓reduceIte,wq,ah,ag,aj,ab,ae,af,ai,isNil,Nat.reduceEqDiff,Nat.reduceAdd,Nat.reduceLT,Nat.reduceLeDiff,Int.reduceNeg,Int.reduceToNat,reduceCtorEq,h0,h1,h7,h8,encS,List.getElem?_map,h2,h3,IH]
      refine an.split (fun e=>?_) (fun e=>?_)
      · simp (disch:=omega) only [↓wr,↓reduceIte,wq,ah,ag,aj,ab,ae,af,ai,isNil,Nat.reduceEqDiff,Nat.reduceAdd,Nat.reduceLT,Nat.reduceLeDiff,Int.reduceNeg,Int.reduceToNat,reduceCtorEq,h0,h1,h7,h8]
        exact aT hk (by omega) ⟨vi h2 h3 hi (by simpa using e),h0,h1,h7,rfl⟩
      · simp (disch:=omega) only [↓wr,↓reduceIte,wq,ah,ag,aj,ab,ae,af,ai,isNil,Nat.reduceEqDiff,Nat.reduceAdd,Nat.reduceLT,Nat.reduceLeDiff,Int.reduceNeg,Int.reduceToNat,reduceCtorEq,h0,h1,h7,h8]
        rw[decide_eq_false (A4 h2 h3 (by simpa using e))]
    · simp (disch:=omega) only [↓wr,↓reduceIte,wq,ah,ag,aj,ab,ae,af,ai,isNil,Nat.reduceEqDiff,Nat.reduceAdd,Nat.reduceLT,Nat.reduceLeDiff,Int.reduceNeg,Int.reduceToNat,reduceCtorEq,h0,h1,h7,h8]
      rw[decide_eq_true (yq (by omega) (by omega) hi)]
theorem Ia (a b:List Int) (ha:aH a) (H:View):aB Tryz.prog 208 [encI a,encI b] H fun r _=>r=gb (decide (a=b)):=by
  refine aB.of mixed mc ?_
  unfold aH at ha
  simp (disch:=omega) only [↓wr,↓reduceIte,wq,ah,ag,aj,ab,ae,af,ai,isNil,Nat.reduceEqDiff,Nat.reduceAdd,Nat.reduceLT,Nat.reduceLeDiff,Int.reduceNeg,Int.reduceToNat,reduceCtorEq,iu,encI]
  refine an.ne (fun h=>?_) (fun h=>?_)
  · simp (disch:=omega) only [↓wr,↓reduceIte,wq,ah,ag,aj,ab,ae,af,ai,isNil,Nat.reduceEqDiff,Nat.reduceAdd,Nat.reduceLT,Nat.reduceLeDiff,Int.reduceNeg,Int.reduceToNat,reduceCtorEq]
    rw[decide_eq_false (ye (by omega))]
  · simp (disch:=omega) only [↓wr,↓reduceIte,wq,ah,ag,aj,ab,ae,af,ai,isNil,Nat.reduceEqDiff,Nat.reduceAdd,Nat.reduceLT,Nat.reduceLeDiff,Int.reduceNeg,Int.reduceToNat,reduceCtorEq]
    refine bz.up a.length (fun i T _=>a.take i=b.take i∧T 0=encI a∧T 1=encI b∧T 12=gi a.length∧T 13=gi i) ⟨by simp,rfl,rfl,rfl,rfl⟩ ?_
    rintro i k T H hk ⟨hi,h0,h1,h7,h8⟩
    simp (disch:=omega) only [↓wr,↓reduceIte,wq,ah,ag,aj,ab,ae,af,ai,isNil,Nat.reduceEqDiff,Nat.reduceAdd,Nat.reduceLT,Nat.reduceLeDiff,Int.reduceNeg,Int.reduceToNat,reduceCtorEq,gG,h0,h1,h7,h8,encI]
    refine an.dec (fun hc=>?_) (fun hc=>?_)
    · have h2:a[i]?=some (a[i]'(by omega)):=List.getElem?_eq_getElem (by omega)
      have h3:b[i]?=some (b[i]'(by omega)):=List.getElem?_eq_getElem (by omega)
      generalize a[i]'(by omega)=x at h2
      generalize b[i]'(by omega)=y at h3
      simp (disch:=omega) only [↓wr,↓reduceIte,wq,ah,ag,aj,ab,ae,af,ai,isNil,Nat.reduceEqDiff,Nat.reduceAdd,Nat.reduceLT,Nat.reduceLeDiff,Int.reduceNeg,Int.reduceToNat,reduceCtorEq,h0,h1,h7,h8,encI,List.getElem?_map,h2,h3]
      refine an.ne (fun e=>?_) (fun e=>?_)
      · simp (disch:=omega) only [↓wr,↓reduceIte,wq,ah,ag,aj,ab,ae,af,ai,isNil,Nat.reduceEqDiff,Nat.reduceAdd,Nat.reduceLT,Nat.reduceLeDiff,Int.reduceNeg,Int.reduceToNat,reduceCtorEq,h0,h1,h7,h8]
        rw[decide_eq_false (A4 h2 h3 e)]
      · simp (disch:=omega) only [↓wr,↓reduceIte,wq,ah,ag,aj,ab,ae,af,ai,isNil,Nat.reduceEqDiff,Nat.reduceAdd,Nat.reduceLT,Nat.reduceLeDiff,Int.reduceNeg,Int.reduceToNat,reduceCtorEq,h0,h1,h7,h8]
        exact aT hk (by omega) ⟨vi h2 h3 hi e,h0,h1,h7,rfl⟩
    · simp (disch:=omega) only [↓wr,↓reduceIte,wq,ah,ag,aj,ab,ae,af,ai,isNil,Nat.reduceEqDiff,Nat.reduceAdd,Nat.reduceLT,Nat.reduceLeDiff,Int.reduceNeg,Int.reduceToNat,reduceCtorEq,h0,h1,h7,h8]
      rw[decide_eq_true (yq (by omega) (by omega) hi)]
theorem Gu (a b:List Term) (ha:aH a):aE Tryz.prog 165 [.aN (a.map cz),.aN (b.map cz)] (gb (decide (a=b))):=aE.val (G5 pW pW) (Im a b ha)
theorem IE (a b:List ByteArray) (ha:aH a):aE Tryz.prog 166 [encS a,encS b] (gb (decide (a=b))):=aE.val (by
  intro v hv; simp at hv
  rcases hv with rfl | rfl <;> exact uY _) (IF a b ha)
theorem Ix (a b:List Int) (ha:aH a):aE Tryz.prog 208 [encI a,encI b] (gb (decide (a=b))):=aE.val (by
  intro v hv; simp at hv
  rcases hv with rfl | rfl <;> exact dx _) (Ia a b ha)
theorem JW (x y:aJ) (hx:aH x.right):aE Tryz.prog 168 [.agg (bf x),.agg (bf y)] (gb (decide (x=y))):=by
  refine aE.val (by
    intro v hv; simp at hv
    rcases hv with rfl | rfl <;> exact dr _ (fa _)) fun H=>?_
  rw[Jh]
  refine aB.of mixed yy ?_
  simp (disch:=omega) only [↓wr,↓reduceIte,wq,ah,ag,aj,ab,ae,af,ai,isNil,Nat.reduceEqDiff,Nat.reduceAdd,Nat.reduceLT,Nat.reduceLeDiff,Int.reduceNeg,Int.reduceToNat,reduceCtorEq,vW,bf,encI]
  repeat' (first | (refine an.dec (fun _=>?_) (fun _=>?_)) | (refine an.eq (fun _=>?_) (fun _=>?_)) | (refine an.ne (fun _=>?_) (fun _=>?_)) | (refine an.split (fun _=>?_) (fun _=>?_)) | (refine aF.pure (Ix x.right y.right hx) (by kernel_rfl) ?_) | (simp (disch:=omega) only [↓wr,↓reduceIte,wq,ah,ag,aj,ab,ae,af,ai,isNil,Nat.reduceEqDiff,Nat.reduceAdd,Nat.reduceLT,Nat.reduceLeDiff,Int.reduceNeg,Int.reduceToNat,reduceCtorEq,bf]))
  all_goals simp[*]
theorem Cn (a b:List aJ) (ha:aH a) (hr:∀ r∈a,aH r.right) (H:View):aB Tryz.prog 167 [.aN (a.map bf),.aN (b.map bf),.fn 168 [] []] H fun r _=>r=gb (decide (a=b)):=by
  refine aB.of mixed dI ?_
  unfold aH at ha
  simp (disch:=omega) only [↓wr,↓reduceIte,wq,ah,ag,aj,ab,ae,af,ai,isNil,Nat.reduceEqDiff,Nat.reduceAdd,Nat.reduceLT,Nat.reduceLeDiff,Int.reduceNeg,Int.reduceToNat,reduceCtorEq,cx]
  refine an.ne (fun h=>?_) (fun h=>?_)
  · simp (disch:=omega) only [↓wr,↓reduceIte,wq,ah,ag,aj,ab,ae,af,ai,isNil,Nat.reduceEqDiff,Nat.reduceAdd,Nat.reduceLT,Nat.reduceLeDiff,Int.reduceNeg,Int.reduceToNat,reduceCtorEq]
    rw[decide_eq_false (ye (by omega))]
  · simp (disch:=omega) only [↓wr,↓reduceIte,wq,ah,ag,aj,ab,ae,af,ai,isNil,Nat.reduceEqDiff,Nat.reduceAdd,Nat.reduceLT,Nat.reduceLeDiff,Int.reduceNeg,Int.reduceToNat,reduceCtorEq]
    refine bz.up a.length (fun i T _=>a.take i=b.take i∧T 15=.aN (a.map bf)∧T 1=.aN (b.map bf)∧T 2=.fn 168 [] []∧T 16=gi a.length∧T 17=gi i) ⟨by simp,rfl,rfl,rfl,rfl,rfl⟩ ?_
    rintro i k T H hk ⟨hi,h0,h1,h6,h7,h8⟩
    simp (disch:=omega) only [↓wr,↓reduceIte,wq,ah,ag,aj,ab,ae,af,ai,isNil,Nat.reduceEqDiff,Nat.reduceAdd,Nat.reduceLT,Nat.reduceLeDiff,Int.reduceNeg,Int.reduceToNat,reduceCtorEq,cp,h0,h1,h6,h7,h8]
    refine an.dec (fun hc=>?_) (fun hc=>?_)
    · have h2:a[i]?=some (a[i]'(by omega)):=List.getElem?_eq_getElem (by omega)
      have h3:b[i]?=some (b[i]'(by omega)):=List.getElem?_eq_getElem (by omega)
      have hm:a[i]'(by omega)∈a:=List.getElem_mem _
      generalize a[i]'(by omega)=x at h2 hm
      generalize b[i]'(by omega)=y at h3
      have hsx:=hr x hm
      simp (disch:=omega) only [↓wr,↓reduceIte,wq,ah,ag,aj,ab,ae,af,ai,isNil,Nat.reduceEqDiff,Nat.reduceAdd,Nat.reduceLT,Nat.reduceLeDiff,Int.reduceNeg,Int.reduceToNat,reduceCtorEq,h0,h1,h6,h7,h8,List.getElem?_map,h2,h3,bf,encI]
      intro n hn
      try simp (disch:=omega) only [↓wr,↓reduceIte,wq,ah,ag,aj,ab,ae,af,ai,isNil,Nat.reduceEqDiff,Nat.reduceAdd,Nat.reduceLT,Nat.reduceLeDiff,Int.reduceNeg,Int.reduceToNat,reduceCtorEq,h0,h1,h6,h7,h8,List.getElem?_map,h2,h3,bf,encI]
      intro m hmd
      have hmn:=(dm hmd dq).1
      try simp (disch:=omega) only [↓wr,↓reduceIte,wq,ah,ag,aj,ab,ae,af,ai,isNil,Nat.reduceEqDiff,Nat.reduceAdd,Nat.reduceLT,Nat.reduceLeDiff,Int.reduceNeg,Int.reduceToNat,reduceCtorEq,h0,h1,h6,h7,h8,List.getElem?_map,h2,h3,bf,encI,hmn,hmn.symm]
      refine aF.pure (JW x y hsx) (by kernel_rfl) ?_
      simp (disch:=omega) only [↓wr,↓reduceIte,wq,ah,ag,aj,ab,ae,af,ai,isNil,Nat.reduceEqDiff,Nat.reduceAdd,Nat.reduceLT,Nat.reduceLeDiff,Int.reduceNeg,Int.reduceToNat,reduceCtorEq,h0,h1,h6,h7,h8]
      refine an.split (fun e=>?_) (fun e=>?_)
      · simp (disch:=omega) only [↓wr,↓reduceIte,wq,ah,ag,aj,ab,ae,af,ai,isNil,Nat.reduceEqDiff,Nat.reduceAdd,Nat.reduceLT,Nat.reduceLeDiff,Int.reduceNeg,Int.reduceToNat,reduceCtorEq,h0,h1,h6,h7,h8]
        exact aT hk (by omega) ⟨vi h2 h3 hi (by simpa using e),h0,h1,h6,h7,rfl⟩
      · simp (disch:=omega) only [↓wr,↓reduceIte,wq,ah,ag,aj,ab,ae,af,ai,isNil,Nat.reduceEqDiff,Nat.reduceAdd,Nat.reduceLT,Nat.reduceLeDiff,Int.reduceNeg,Int.reduceToNat,reduceCtorEq,h0,h1,h6,h7,h8]
        rw[decide_eq_false (A4 h2 h3 (by simpa using e))]
    · simp (disch:=omega) only [↓wr,↓reduceIte,wq,ah,ag,aj,ab,ae,af,ai,isNil,Nat.reduceEqDiff,Nat.reduceAdd,Nat.reduceLT,Nat.reduceLeDiff,Int.reduceNeg,Int.reduceToNat,reduceCtorEq,h0,h1,h6,h7,h8]
      rw[decide_eq_true (yq (by omega) (by omega) hi)]
theorem By (a b:List aJ) (ha:aH a) (hr:∀ r∈a,aH r.right):aE Tryz.prog 167 [.aN (a.map bf),.aN (b.map bf),.fn 168 [] []] (gb (decide (a=b))):=aE.val (by
  intro v hv; simp at hv
  rcases hv with rfl | rfl | rfl
  · exact eN _ _ fun x _=>fa x
  · exact eN _ _ fun x _=>fa x
  · exact y8 (by simp) (by simp)) (Cn a b ha hr)
theorem Ju (g k:al) (hg:g.Ok):aE Tryz.prog 108 [.agg (av g),.agg (av k)] (gb (decide (g=k))):=by
  refine aE.val (HX g k) fun H=>?_
  rw[JC]
  refine aB.of mixed AV ?_
  simp (disch:=omega) only [↓wr,↓reduceIte,wq,ah,ag,aj,ab,ae,af,ai,isNil,Nat.reduceEqDiff,Nat.reduceAdd,Nat.reduceLT,Nat.reduceLeDiff,Int.reduceNeg,Int.reduceToNat,reduceCtorEq,xw,av,encS]
  repeat' (first | (refine an.dec (fun _=>?_) (fun _=>?_)) | (refine an.eq (fun _=>?_) (fun _=>?_)) | (refine an.ne (fun _=>?_) (fun _=>?_)) | (refine an.split (fun _=>?_) (fun _=>?_)) | (refine aF.pure (Gu g.ay k.ay hg.ay) (by kernel_rfl) ?_) | (refine aF.pure (IE g.aw k.aw hg.aw) (by kernel_rfl) ?_) | (refine aF.pure (By g.rules k.rules hg.rules (fun r hr=>(hg.bc r hr).2.2.1)) (by kernel_rfl) ?_) | (simp (disch:=omega) only [↓wr,↓reduceIte,wq,ah,ag,aj,ab,ae,af,ai,isNil,Nat.reduceEqDiff,Nat.reduceAdd,Nat.reduceLT,Nat.reduceLeDiff,Int.reduceNeg,Int.reduceToNat,reduceCtorEq,av,encS]))
  all_goals simp_all [K8]
end Gv
set_option linter.unusedSimpArgs false
set_option maxRecDepth 100000
namespace Gv
open Go Go.Proofs
def Av:SF:=⟨.seq (ak [c9 1 0,aW 2 false]) <|
  .seq (ak [ba 7 4 1,aK 8 107 [7],aa 6 8,b7 9 0 6,b7 10 1 6,b7 11 2 6,((some 3),.op (.alloc [(.emp 1),(.emp 1),(.emp 1),(.val (.int .i64 0))])),(none,.op (.store 4 (.tmp 3) (.tmp 9))),aa 4 10,aa 5 11]) <|
  .seq (.region false [⟨none,[aa 12 5,aA 13 .eql 12 0,aa 14 13]⟩,⟨(some (14,true)),[ba 15 4 1,ba 16 4 3,aK 17 108 [15,16]]⟩,⟨none,[bJ 18 14 17,aa 2 18]⟩]) <|
  .ret,
  [.tmp 2],19⟩
theorem Ca:aV Tryz.prog 60 [1]=some Av:=by kernel_rfl
theorem Hn (g:al) (hg:g.Ok) (hs:g.Small):aE Tryz.prog 60 [.agg (av g)] (gb (isRed g)):=by
  refine aE.val (fY g) fun H=>?_
  refine aB.of mixed Ca ?_
  simp (disch:=omega) only [↓wr,↓reduceIte,wq,ah,ag,aj,ab,ae,af,ai,isNil,Nat.reduceEqDiff,Nat.reduceAdd,Nat.reduceLT,Nat.reduceLeDiff,Int.reduceNeg,Int.reduceToNat,reduceCtorEq,Av,av,encS]
  refine aF.pure (F1 g hg hs).pure (by kernel_rfl) ?_
  unfold isRed
  generalize fK g=x
  obtain ⟨k,il,e⟩:=x
  simp (disch:=omega) only [↓wr,↓reduceIte,wq,ah,ag,aj,ab,ae,af,ai,isNil,Nat.reduceEqDiff,Nat.reduceAdd,Nat.reduceLT,Nat.reduceLeDiff,Int.reduceNeg,Int.reduceToNat,reduceCtorEq,yN,av,encS]
  intro n hn
  refine an.eq (fun h=>?_) (fun h=>?_)
  · simp (disch:=omega) only [↓wr,↓reduceIte,wq,ah,ag,aj,ab,ae,af,ai,isNil,Nat.reduceEqDiff,Nat.reduceAdd,Nat.reduceLT,Nat.reduceLeDiff,Int.reduceNeg,Int.reduceToNat,reduceCtorEq,yN,av,encS]
    refine aF.pure (Ju g k hg) (by kernel_rfl) ?_
    simp (disch:=omega) only [↓wr,↓reduceIte,wq,ah,ag,aj,ab,ae,af,ai,isNil,Nat.reduceEqDiff,Nat.reduceAdd,Nat.reduceLT,Nat.reduceLeDiff,Int.reduceNeg,Int.reduceToNat,reduceCtorEq]
    simp[h]
  · simp (disch:=omega) only [↓wr,↓reduceIte,wq,ah,ag,aj,ab,ae,af,ai,isNil,Nat.reduceEqDiff,Nat.reduceAdd,Nat.reduceLT,Nat.reduceLeDiff,Int.reduceNeg,Int.reduceToNat,reduceCtorEq]
    simp[h]
end Gv
set_option maxRecDepth 100000
namespace Gv
open Go Go.Proofs
def Mj:al:=⟨[⟨⟨#[39,97,39]⟩,0,0⟩,⟨⟨#[39,98,39]⟩,0,0⟩,⟨⟨#[39,99,39]⟩,0,0⟩,⟨⟨#[39,100,39]⟩,0,0⟩],[⟨#[115]⟩,⟨#[117]⟩,⟨#[118]⟩],[⟨0,[0,(-2)],0⟩,⟨0,[1],1⟩,⟨0,[],(-1)⟩,⟨1,[(-2),2],2⟩,⟨2,[3,(-1)],3⟩],0⟩
end Gv
set_option linter.unusedSimpArgs false
set_option maxRecDepth 100000
namespace Gv
open Go Go.Proofs
def LA:al:=⟨Mj.ay,[⟨#[115]⟩],[⟨0,[1],1⟩,⟨0,[],(-1)⟩],0⟩
theorem lP:isRed LA=true:=by kernel_rfl
end Gv
set_option linter.unusedSimpArgs false
set_option maxRecDepth 100000
namespace Gv
open Go Go.Proofs
end Gv
set_option linter.unusedSimpArgs false
set_option maxRecDepth 100000
namespace Gv
open Go Go.Proofs
structure al.Nc (g:al):Prop where
  ay:g.ay.length≤40
  aw:g.aw.length≤40
  rules:g.rules.length≤60
  right:∀ r∈g.rules,r.right.length≤20
end Gv
set_option linter.unusedSimpArgs false
set_option maxRecDepth 100000
namespace Gv
open Go Go.Proofs
theorem cY.fr {h:aC} {v t:V} (f:cY h v t):Fr h v t:=by
  induction f with
  | val v=>exact .tree _ (.val _)
  | emp k=>exact .emp k
  | sl id off len esz z es es' h1 h2 h3 h4 _ ih=>exact .sl id off len esz z es es' h1 h2 h3 h4 ih
  | agg cs cs' h1 _ ih=>exact .agg cs cs' h1 ih
  | bh cs cs' h1 _ ih=>exact .bh cs cs' h1 ih
end Gv
set_option linter.unusedSimpArgs false
set_option maxRecDepth 100000
namespace Gv
open Go Go.Proofs
def gp:DC :=
  .seq (.seq (au [aa 34 8,aa 35 7,aP 36 35,aS 37 .lss 34 36]) <|
  .cond (.tmp 37) (.skip) (.exit 0)) <|
  .block 1 (au [aa 38 8,aa 39 7,aa 40 8,((some 41),.op (.slice 4 (.tmp 39) (some (.tmp 40)) none)),aa 42 7,aa 43 8,((some 44),.op (.slice 4 (.tmp 42) none (some (.tmp 43)))),((some 45),.op (.bb (.call { callee:=.builtin .copy,args:=#[(.tmp 41),(.tmp 44)],argTypes:=#[284,284] }) 3)),aS 46 .add 38 45,aa 8 46])
def dL:DF:=⟨.seq (au [((some 4),.op (.bd (.val (.emp 1))))]) <|
  .seq (.seq (au [aa 9 1,aA 10 .lss 9 0]) <|
  .cond (.tmp 10) (.region [] [⟨none,[((some 11),.op (.bb (.makeInterface 9 (.const (.string ⟨#[99,97,110,110,111,116,32,98,101,32,110,101,103,97,116,105,118,101]⟩))) 20)),(none,.op (.bb (.panic (.tmp 11)) 0))]⟩]) (.skip)) <|
  .seq (au [aa 13 0,aP 14 13,((some 15),.op (.conv .u64 (.tmp 14))),aa 16 1,((some 17),.op (.conv .u64 (.tmp 16))),aK 18 153 [15,17],aa 12 18,b7 19 0 12,b7 20 1 12,aa 5 19,aa 6 20]) <|
  .seq (.seq (.region [] [⟨none,[aa 21 5,((some 22),.op (.arith .gtr (.tmp 21) (.val (.val (.int .u64 0))))),aa 23 22]⟩,⟨(some (23,false)),[aa 24 6,((some 25),.op (.arith .gtr (.tmp 24) (.val (.val (.int .u64 9223372036854775807)))))]⟩,⟨none,[bD 26 23 25]⟩]) <|
  .cond (.tmp 26) (.region [] [⟨none,[((some 27),.op (.bb (.makeInterface 9 (.const (.string ⟨#[116,104,101,32,114,101,115,117,108,116,32,111,102,32,40,108,101,110,40,120,41,32,42,32,99,111,117,110,116,41,32,111,118,101,114,102,108,111,119,115]⟩))) 20)),(none,.op (.bb (.panic (.tmp 27)) 0))]⟩]) (.skip)) <|
  .seq (au [aa 28 6,((some 29),.op (.conv .i64 (.tmp 28))),((some 30),.op (.make 4 32 [(.val (.int .i64 0)),(.val (.int .i64 0)),(.val (.int .i64 0)),(.val (.int .i64 0))] (.tmp 29) (.tmp 29))),aa 7 30]) <|
  .seq (au [aa 31 7,aa 32 0,((some 33),.op (.bb (.call { callee:=.builtin .copy,args:=#[(.tmp 31),(.tmp 32)],argTypes:=#[284,284] }) 3)),aa 8 33]) <|
  .seq (.block 0 (.loop gp)) <|
  .seq (au [aa 47 7,aa 4 47]) <|
  .ret,
  [.tmp 4],48⟩
theorem fQ:bu Tryz.prog 248 []=some dL:=by kernel_rfl
def py:DF:=⟨.seq (au [((some 4),.op (.bd (.val (.val (.int .u64 0))))),((some 5),.op (.bd (.val (.val (.int .u64 0)))))]) <|
  .seq (.cond (.val (.val (.bool false))) (.seq (au [aa 11 0,((some 12),.op (.conv .u32 (.tmp 11))),aa 13 1,((some 14),.op (.conv .u32 (.tmp 13))),aK 15 197 [12,14],aa 10 15,b7 16 0 10,b7 17 1 10,aa 6 16,aa 7 17]) <|
  .seq (au [aa 18 6,((some 19),.op (.conv .u64 (.tmp 18))),aa 20 7,((some 21),.op (.conv .u64 (.tmp 20))),aa 4 19,aa 5 21]) <|
  .ret) (.skip)) <|
  .seq (au [aa 23 0,aa 24 1,aK 25 198 [23,24],aa 22 25,b7 26 0 22,b7 27 1 22,aa 8 26,aa 9 27]) <|
  .seq (au [aa 28 8,aa 29 9,aa 4 28,aa 5 29]) <|
  .ret,
  [.tmp 4,.tmp 5],30⟩
theorem uE:bu Tryz.prog 153 []=some py:=by kernel_rfl
def nO:DF:=⟨.seq (au [((some 4),.op (.bd (.val (.val (.int .u32 0))))),((some 5),.op (.bd (.val (.val (.int .u32 0)))))]) <|
  .seq (au [aa 7 0,((some 8),.op (.conv .u64 (.tmp 7))),aa 9 1,((some 10),.op (.conv .u64 (.tmp 9))),aS 11 .mul 8 10,aa 6 11]) <|
  .seq (au [aa 12 6,((some 13),.op (.sh false (.tmp 12) (.val (.val (.int .u64 32))))),((some 14),.op (.conv .u32 (.tmp 13))),aa 15 6,((some 16),.op (.conv .u32 (.tmp 15))),aa 4 14,aa 5 16]) <|
  .ret,
  [.tmp 4,.tmp 5],17⟩
theorem sj:bu Tryz.prog 197 []=some nO:=by kernel_rfl
def nJ:DF:=⟨.seq (au [((some 4),.op (.bd (.val (.val (.int .u64 0))))),((some 5),.op (.bd (.val (.val (.int .u64 0)))))]) <|
  .seq (au [aa 14 0,((some 15),.op (.arith .and (.tmp 14) (.val (.val (.int .u64 4294967295))))),aa 6 15]) <|
  .seq (au [aa 16 0,((some 17),.op (.sh false (.tmp 16) (.val (.val (.int .u64 32))))),aa 7 17]) <|
  .seq (au [aa 18 1,((some 19),.op (.arith .and (.tmp 18) (.val (.val (.int .u64 4294967295))))),aa 8 19]) <|
  .seq (au [aa 20 1,((some 21),.op (.sh false (.tmp 20) (.val (.val (.int .u64 32))))),aa 9 21]) <|
  .seq (au [aa 22 6,aa 23 8,aS 24 .mul 22 23,aa 10 24]) <|
  .seq (au [aa 25 7,aa 26 8,aS 27 .mul 25 26,aa 28 10,((some 29),.op (.sh false (.tmp 28) (.val (.val (.int .u64 32))))),aS 30 .add 27 29,aa 11 30]) <|
  .seq (au [aa 31 11,((some 32),.op (.arith .and (.tmp 31) (.val (.val (.int .u64 4294967295))))),aa 12 32]) <|
  .seq (au [aa 33 11,((some 34),.op (.sh false (.tmp 33) (.val (.val (.int .u64 32))))),aa 13 34]) <|
  .seq (au [aa 35 12,aa 36 6,aa 37 9,aS 38 .mul 36 37,aS 39 .add 35 38,aa 12 39]) <|
  .seq (au [aa 40 7,aa 41 9,aS 42 .mul 40 41,aa 43 13,aS 44 .add 42 43,aa 45 12,((some 46),.op (.sh false (.tmp 45) (.val (.val (.int .u64 32))))),aS 47 .add 44 46,aa 4 47]) <|
  .seq (au [aa 48 0,aa 49 1,aS 50 .mul 48 49,aa 5 50]) <|
  .ret,
  [.tmp 4,.tmp 5],51⟩
theorem r8:bu Tryz.prog 198 []=some nJ:=by kernel_rfl
def Bg:List (FuncId × DF):=[(248,dL),(153,py),(197,nO),(198,nJ)]
theorem IN:pj Tryz.prog Bg:=by
  intro p hp
  simp only[Bg,List.mem_cons,List.not_mem_nil,or_false] at hp
  rcases hp with rfl | rfl | rfl | rfl
  · exact ⟨_,fQ⟩
  · exact ⟨_,uE⟩
  · exact ⟨_,sj⟩
  · exact ⟨_,r8⟩
def bC (p:aY):List V:=[gi p.bc,gi p.br,gi p.rules,gi p.ay]
abbrev fC (P:List aY):V:=.aN (P.map bC)
theorem oo (P:List aY):Tree (fC P):=eN _ _ fun x _ v hv=>by
  simp[bC] at hv
  rcases hv with rfl | rfl | rfl | rfl <;> exact .val _
theorem L9 {n:Nat} (h:qI Tryz.prog Bg (fun _ _ _=>none) 248 [fC [gE],gi n]=some (fC (List.replicate n gE))):cw Tryz.prog 248 [fC [gE],gi n] (fC (List.replicate n gE)) :=
  nT mixed IN (FQ _) (by
    intro v hv; simp at hv
    rcases hv with rfl | rfl
    · exact oo [gE]
    · exact .val _) h
theorem HD {n:Nat} (h1:1≤n) (h2:n≤16):cw Tryz.prog 248 [fC [gE],gi n] (fC (List.replicate n gE)):=by
  have:n=1∨n=2∨n=3∨n=4∨n=5∨n=6∨n=7∨n=8∨n=9∨n=10∨n=11∨n=12∨n=13∨n=14∨n=15∨n=16:=by omega
  rcases this with rfl | rfl | rfl | rfl | rfl | rfl | rfl | rfl | rfl | rfl | rfl | rfl | rfl | rfl | rfl | rfl <;> exact L9 (by kernel_rfl)
theorem xH (p:aY):∀ v∈bC p,Tree v:=by
  intro v hv; simp[bC] at hv
  rcases hv with rfl | rfl | rfl | rfl <;> exact .val _
theorem LX (h:aC) (p:aY):cY h (.agg (bC p)) (.agg (bC p)):=.agg _ _ rfl fun i hi=>by
  match i,hi with
  | 0,_=>exact .val _
  | 1,_=>exact .val _
  | 2,_=>exact .val _
  | 3,_=>exact .val _
  | n+4,h=>exact absurd h (by simp[bC])
def vL (p:aY):Prop:=dt p∧(-1≤p.bc∧p.bc≤1000000)∧0≤p.br∧p.br≤1000000
theorem JD:vL bo:=by unfold vL dt bo; decide
theorem BI {x:Int} : (if x < 1048576 then x else 1048576)=min 1048576 x:=by omega
theorem L6 {x y:Int} : (if y > x then y else x)=max x y:=by omega
def ta:SC :=
  .seq (ak [aS 12 .lss 11 10]) <|
  .seq (.cond (.tmp 12) (.skip) (.exit 0)) <|
  .seq (.block 1 (.seq (ak [bp 13 1 9 11,aq 14 13,aa 7 14]) <|
  .seq (.seq (ak [aa 15 7,aA 16 .geq 15 0]) <|
  .cond (.tmp 16) (.seq (ak [ao 17 3 4,aq 18 17,aA 19 .add 18 1,((some 20),.op (.mm false (.val (.val (.int .i64 1048576))) (.tmp 19))),ao 21 3 4,(none,.op (.store 1 (.tmp 21) (.tmp 20)))]) <|
  .exit 1) (.skip)) <|
  .seq (ak [aa 22 1,aa 23 7,((some 24),.op (.arith .sub (.val (.val (.int .i64 (-1)))) (.tmp 23))),bp 25 4 22 24,ba 26 4 25,((some 8),.op (.alloc [(.val (.int .i64 0)),(.val (.int .i64 0)),(.val (.int .i64 0)),(.val (.int .i64 0))])),(none,.op (.store 4 (.tmp 8) (.tmp 26)))]) <|
  .seq (.seq (ak [ao 27 0 8,aq 28 27,aA 29 .lss 28 0]) <|
  .cond (.tmp 29) (.seq (ak [ba 30 4 4,(none,.op (.store 4 (.tmp 4) (.tmp 30))),aW 5 false]) <|
  .ret) (.skip)) <|
  .seq (ak [ao 31 1 4,aq 32 31,ao 33 1 8,aq 34 33,((some 35),.op (.mm true (.tmp 32) (.tmp 34))),ao 36 1 4,(none,.op (.store 1 (.tmp 36) (.tmp 35)))]) <|
  .qK [(45,49)] [⟨none,[ao 37 2 4,aq 38 37,ao 39 2 8,aq 40 39,aS 41 .add 38 40,((some 42),.op (.mm false (.val (.val (.int .i64 1048576))) (.tmp 41))),ao 43 3 4,aq 44 43,ao 45 3 8,aq 46 45,aS 47 .add 44 46,((some 48),.op (.mm false (.val (.val (.int .i64 1048576))) (.tmp 47))),ao 49 2 4,(none,.op (.store 1 (.tmp 49) (.tmp 42))),ao 50 3 4,(none,.op (.store 1 (.tmp 50) (.tmp 48)))]⟩])) <|
  ak [aA 51 .add 11 1,aa 11 51]
def vR:SF:=⟨.seq (ak [((some 4),.op (.alloc [(.val (.int .i64 0)),(.val (.int .i64 0)),(.val (.int .i64 0)),(.val (.int .i64 0))])),aW 5 false]) <|
  .seq (.seq (ak [aa 9 0,aP 10 9,aI 11 0]) <|
  .block 0 (.loop ta)) <|
  .seq (ak [ba 52 4 4,(none,.op (.store 4 (.tmp 4) (.tmp 52))),aW 5 true]) <|
  .ret,
  [.cell 4 (some 4),.tmp 5],53⟩
theorem yL:aV Tryz.prog 232 []=some vR:=by kernel_rfl
theorem tA {P:List aY} {m:Nat} (h:m < P.length):(P.map bC)[m]?=some (bC (aX P m)):=by
  simp[aX,List.getD_eq_getElem?_getD,h]
set_option maxHeartbeats 2000000 in
theorem It (P:List aY) (hP:∀ m,vL (aX P m)) (l:List Int) (hl:aH l) (hn:∀ x∈l,bU x∧(x < 0→-1 - x < P.length)) :
    cw Tryz.prog 232 [encI l,fC P] (.bh [.agg (bC (bB P l bo).1),gb (bB P l bo).2]):=by
  have key:∀ H,aB Tryz.prog 232 [encI l,fC P] H fun r _=>r=.bh [.agg (bC (bB P l bo).1),gb (bB P l bo).2]:=?_
  · refine cw.of (by
      intro v hv; simp at hv
      rcases hv with rfl | rfl
      · exact dx l
      · exact oo P) ((key _).mono fun r H' e h' _=>?_)
    rw[e]; exact vZ (LX _ _) (.val _)
  intro H
  refine aB.of mixed yL ?_
  unfold aH at hl
  simp (disch:=omega) only [↓wr,↓reduceIte,wq,ah,ag,aj,ab,ae,af,ai,isNil,Nat.reduceEqDiff,Nat.reduceAdd,Nat.reduceLT,Nat.reduceLeDiff,Int.reduceNeg,Int.reduceToNat,reduceCtorEq,vR,encI]
  intro m hm
  try simp (disch:=omega) only [↓wr,↓reduceIte,wq,ah,ag,aj,ab,ae,af,ai,isNil,Nat.reduceEqDiff,Nat.reduceAdd,Nat.reduceLT,Nat.reduceLeDiff,Int.reduceNeg,Int.reduceToNat,reduceCtorEq,encI]
  refine bz.up l.length (fun i T H'=>∃ s:aY,vL s∧s.bc=0∧bB P (l.drop i) s=bB P l bo∧H' m=.arr 4 [bC s]∧T 1=fC P∧T 4=.ptr m 0 0∧T 9=encI l∧T 10=gi l.length∧T 11=gi i) ?_ ?_
  · exact ⟨bo,JD,rfl,rfl,by simp[View.set,bC,bo],rfl,rfl,rfl,rfl,rfl⟩
  rintro i k T H hk ⟨s,hs,hs0,hsum,hH,t1,t4,t9,t10,t11⟩
  unfold vL dt at hs
  simp (disch:=omega) only [↓wr,↓reduceIte,wq,ah,ag,aj,ab,ae,af,ai,isNil,Nat.reduceEqDiff,Nat.reduceAdd,Nat.reduceLT,Nat.reduceLeDiff,Int.reduceNeg,Int.reduceToNat,reduceCtorEq,ta,t1,t4,t9,t10,t11,encI]
  refine an.dec (fun hc=>?_) (fun hc=>?_)
  · have hg:l[i]?=some (l[i]'(by omega)):=List.getElem?_eq_getElem (by omega)
    have hmem:l[i]'(by omega)∈l:=List.getElem_mem _
    rw[dD (show i < l.length by omega)] at hsum
    generalize l[i]'(by omega)=x at hg hmem hsum
    obtain ⟨⟨hx1,hx2⟩,hx3⟩:=hn x hmem
    simp (disch:=omega) only [↓wr,↓reduceIte,wq,ah,ag,aj,ab,ae,af,ai,isNil,Nat.reduceEqDiff,Nat.reduceAdd,Nat.reduceLT,Nat.reduceLeDiff,Int.reduceNeg,Int.reduceToNat,reduceCtorEq,t1,t4,t9,t10,t11,encI,List.getElem?_map,hg]
    refine an.dec (fun hd=>?_) (fun hd=>?_)
    · simp (disch:=omega) only [↓wr,↓reduceIte,wq,ah,ag,aj,ab,ae,af,ai,isNil,Nat.reduceEqDiff,Nat.reduceAdd,Nat.reduceLT,Nat.reduceLeDiff,Int.reduceNeg,Int.reduceToNat,reduceCtorEq,t1,t4,t9,t10,t11,encI,hH,bC,BI]
      rw[zp (show 0≤x from hd)] at hsum
      refine aT hk (by omega) ⟨_,?_,?_,hsum,?_,t1,t4,t9,t10,rfl⟩
      · unfold vL dt; simp only; omega
      · exact hs0
      · simp[View.set]
    · have hm:(bL x) < P.length:=by have:=hx3 (by omega); unfold bL; omega
      have hp:=hP (bL x)
      unfold vL dt at hp
      simp (disch:=omega) only [↓wr,↓reduceIte,wq,ah,ag,aj,ab,ae,af,ai,isNil,Nat.reduceEqDiff,Nat.reduceAdd,Nat.reduceLT,Nat.reduceLeDiff,Int.reduceNeg,Int.reduceToNat,reduceCtorEq,t1,t4,t9,t10,t11,encI,hH,tA hm]
      simp (disch:=omega) only [↓wr,↓reduceIte,wq,ah,ag,aj,ab,ae,af,ai,isNil,Nat.reduceEqDiff,Nat.reduceAdd,Nat.reduceLT,Nat.reduceLeDiff,Int.reduceNeg,Int.reduceToNat,reduceCtorEq,t1,t4,t9,t10,t11,encI,hH,bC]
      intro q hq
      have hqm:m≠q:=by rintro rfl; rw[hH] at hq; simp at hq
      try simp (disch:=omega) only [↓wr,↓reduceIte,wq,ah,ag,aj,ab,ae,af,ai,isNil,Nat.reduceEqDiff,Nat.reduceAdd,Nat.reduceLT,Nat.reduceLeDiff,Int.reduceNeg,Int.reduceToNat,reduceCtorEq,t1,t4,t9,t10,t11,encI,hH,hqm,hqm.symm,bC]
      refine an.dec (fun he=>?_) (fun he=>?_)
      · simp (disch:=omega) only [↓wr,↓reduceIte,wq,ah,ag,aj,ab,ae,af,ai,isNil,Nat.reduceEqDiff,Nat.reduceAdd,Nat.reduceLT,Nat.reduceLeDiff,Int.reduceNeg,Int.reduceToNat,reduceCtorEq,t1,t4,t9,t10,t11,encI,hH,hqm,hqm.symm,bC]
        rw[HI (by omega) he] at hsum
        rw[← hsum]
      · simp (disch:=omega) only [↓wr,↓reduceIte,wq,ah,ag,aj,ab,ae,af,ai,isNil,Nat.reduceEqDiff,Nat.reduceAdd,Nat.reduceLT,Nat.reduceLeDiff,Int.reduceNeg,Int.reduceToNat,reduceCtorEq,t1,t4,t9,t10,t11,encI,hH,hqm,hqm.symm,bC,BI,L6]
        rw[wg (by omega) he] at hsum
        refine aT hk (by omega) ⟨_,?_,?_,hsum,?_,t1,t4,t9,t10,rfl⟩
        · unfold vL dt; simp only; omega
        · exact hs0
        · simp[View.set,hqm]
  · simp (disch:=omega) only [↓wr,↓reduceIte,wq,ah,ag,aj,ab,ae,af,ai,isNil,Nat.reduceEqDiff,Nat.reduceAdd,Nat.reduceLT,Nat.reduceLeDiff,Int.reduceNeg,Int.reduceToNat,reduceCtorEq,t1,t4,t9,t10,t11,hH,bC]
    rw[List.drop_eq_nil_of_le (by omega)] at hsum
    rw[← hsum]; try rfl
def cU:SF:=⟨.seq (ak [((some 2),.op (.bd (.val (.emp 1))))]) <|
  .seq (.seq (ak [aa 3 0,((some 4),.op (.nil true 0 (.tmp 3) (.val (.emp 1))))]) <|
  .cond (.tmp 4) (.seq (ak [((some 2),.op (.bd (.val (.emp 1))))]) <|
  .ret) (.skip)) <|
  .seq (ak [((some 5),.op (.bd (.val (.emp 2)))),aa 6 0,((some 7),.op (.app 4 32 (.tmp 5) (.tmp 6))),aa 2 7]) <|
  .ret,
  [.tmp 2],8⟩
theorem gq:aV Tryz.prog 249 []=some cU:=by kernel_rfl
theorem Gb (P:List aY) (hl:P.length≤100000) (h1:1≤P.length) (u:V) (H:View) (hu:u=fC P∨aO H u 4 (P.map bC)) :
    aB Tryz.prog 249 [u] H fun r H'=>aO H' r 4 (P.map bC)∧c8 H H' r:=by
  have hall:((P.map bC).all fun e=>e.length == 4 && e.all aM)=true:=by simp[List.all_map,bC,aM]
  refine aB.of mixed gq ?_
  cases P with
  | nil=>simp at h1
  | cons p r =>
    simp only[List.length_cons] at hl
    rcases hu with rfl | hu
    · simp (disch:=omega) only [↓wr,↓reduceIte,wq,ah,ag,aj,ab,ae,af,ai,isNil,Nat.reduceEqDiff,Nat.reduceAdd,Nat.reduceLT,Nat.reduceLeDiff,Int.reduceNeg,Int.reduceToNat,reduceCtorEq,cU,fC]
      refine ⟨by simpa using hall,by unfold aL; simp; omega,fun m hm=>?_⟩
      simp (disch:=omega) only [↓wr,↓reduceIte,wq,ah,ag,aj,ab,ae,af,ai,isNil,Nat.reduceEqDiff,Nat.reduceAdd,Nat.reduceLT,Nat.reduceLeDiff,Int.reduceNeg,Int.reduceToNat,reduceCtorEq]
      have:=aO.new (H:=H) (n:=m) (sz:=4) (es:=(p :: r).map bC)
      simp only[List.length_map,List.length_cons] at this
      exact ⟨by simpa using this,.new hm⟩
    · obtain ⟨n,rfl,hn⟩:=hu.sl (by simp)
      simp only[List.length_map,List.length_cons] at hn ⊢
      have he:bP H (.sl n 0 (r.length+1) 4)=some ((p :: r).map bC,[n]):=by
        rw[su _ n 0 r.length 4 4 _ hn (by simp),List.drop_zero,List.take_of_length_le (by simp)]
      simp (disch:=omega) only [↓wr,↓reduceIte,wq,ah,ag,aj,ab,ae,af,ai,isNil,Nat.reduceEqDiff,Nat.reduceAdd,Nat.reduceLT,Nat.reduceLeDiff,Int.reduceNeg,Int.reduceToNat,reduceCtorEq,cU,he]
      refine ⟨by simpa using hall,by unfold aL; simp; omega,fun m hm=>?_⟩
      simp (disch:=omega) only [↓wr,↓reduceIte,wq,ah,ag,aj,ab,ae,af,ai,isNil,Nat.reduceEqDiff,Nat.reduceAdd,Nat.reduceLT,Nat.reduceLeDiff,Int.reduceNeg,Int.reduceToNat,reduceCtorEq]
      have:=aO.new (H:=H) (n:=m) (sz:=4) (es:=(p :: r).map bC)
      simp only[List.length_map,List.length_cons] at this
      exact ⟨by simpa using this,.new hm⟩
end Gv
