/-
  Part 12 of the proof: what the machine does and what the functions answer.
  Conditions: those that each lemma names.
-/
import Derived.Test.YtomcjampldmjoaaGreatSGzWK
set_option linter.unusedSimpArgs false
set_option linter.unusedVariables false
set_option maxRecDepth 100000
namespace Gv
open Go Go.Proofs
structure bE where
  bN:Int
  bX:Int
  rules:Int
  ay:Int
def oZ:bE:=⟨(-1),0,0,0⟩
def eL:bE:=⟨0,0,0,0⟩
def bQ (P:List bE) (m:Nat):bE:=P.getD m oZ
abbrev px (x:Int):Nat:=(-1 - x).toNat
def eM (P:List bE):List Int→bE→bE × Bool
  | [],s=>(s,true)
  | x :: l,s=>if 0≤x then eM P l ⟨s.bN,s.bX,s.rules,min 1048576 (s.ay+1)⟩
    else if (bQ P (px x)).bN < 0 then (s,false)
    else eM P l ⟨s.bN,max s.bX (bQ P (px x)).bX,min 1048576 (s.rules+(bQ P (px x)).rules),min 1048576 (s.ay+(bQ P (px x)).ay)⟩
def cg (P:List bE) (m:Nat):Prop:=0≤(bQ P m).bN
def tO (P:List bE) (l:List Int):Prop:=∀ x∈l,x < 0→cg P (px x)
theorem rL (P:List bE):∀ (l:List Int) (s:bE),(eM P l s).2=true↔tO P l
  | [],s=>by simp[eM,tO]
  | x :: l,s=>by
    simp only[eM,tO,List.mem_cons]
    by_cases h:0≤x
    · rw[if_pos h,rL P l]
      refine ⟨fun k y hy hn=>?_,fun k y hy=>k y (.inr hy)⟩
      rcases hy with rfl | hy
      · omega
      · exact k y hy hn
    · rw[if_neg h]
      by_cases h2:(bQ P (px x)).bN < 0
      · rw[if_pos h2]
        simp only[Bool.false_eq_true,false_iff]
        intro k
        have:=k x (.inl rfl) (by omega)
        unfold cg at this; omega
      · rw[if_neg h2,rL P l]
        refine ⟨fun k y hy hn=>?_,fun k y hy=>k y (.inr hy)⟩
        rcases hy with rfl | hy
        · unfold cg; omega
        · exact k y hy hn
theorem mg (P:List bE) (k:Int):∀ (l:List Int) (s:bE),tO P l→((eM P l s).1.bX≤k↔s.bX≤k∧∀ x∈l,x < 0→(bQ P (px x)).bX≤k)
  | [],s,_=>by simp[eM]
  | x :: l,s,h=>by
    have hl:tO P l:=fun y hy=>h y (by simp[hy])
    simp only[eM,List.mem_cons]
    by_cases h0:0≤x
    · rw[if_pos h0,mg P k l _ hl]
      refine ⟨fun ⟨a,b⟩=>⟨a,fun y hy hn=>?_⟩,fun ⟨a,b⟩=>⟨a,fun y hy=>b y (.inr hy)⟩⟩
      rcases hy with rfl | hy
      · omega
      · exact b y hy hn
    · have:=h x (by simp) (by omega)
      unfold cg at this
      rw[if_neg h0,if_neg (by omega),mg P k l _ hl]
      refine ⟨fun ⟨a,b⟩=>⟨by simp only at a; omega,fun y hy hn=>?_⟩,fun ⟨a,b⟩=>⟨by have:=b x (.inl rfl) (by omega); simp only; omega,fun y hy=>b y (.inr hy)⟩⟩
      rcases hy with rfl | hy
      · simp only at a; omega
      · exact b y hy hn
theorem vA (P:List bE):∀ (l:List Int) (s:bE),s.bX≤(eM P l s).1.bX
  | [],s=>Int.le_refl _
  | x :: l,s=>by
    simp only[eM]
    split
    · exact vA P l _
    · split
      · exact Int.le_refl _
      · have:=vA P l ⟨s.bN,max s.bX (bQ P (px x)).bX,min 1048576 (s.rules+(bQ P (px x)).rules),min 1048576 (s.ay+(bQ P (px x)).ay)⟩
        simp only at this ⊢; omega
def mU (P:List bE) (i:Nat) (r:aY):bE:=⟨i,(eM P r.right eL).1.bX+1,min 1048576 ((eM P r.right eL).1.rules+1),(eM P r.right eL).1.ay⟩
def BS (P:List bE) (i:Nat) (N:List bE) (r:aY):List bE :=
  if 0≤(bQ N r.left.toNat).bN then N else if (eM P r.right eL).2=true then N.set r.left.toNat (mU P i r) else N
def s7 (P:List bE):Nat→List bE→List aY→List bE
  | _,N,[]=>N
  | i,N,r :: l=>s7 P (i+1) (BS P i N r) l
def zE (rules:List aY) (P:List bE):List bE:=s7 P 0 P rules
def ke (P:List bE) (m:Nat):Nat→List aY→Option bE
  | _,[]=>none
  | i,r :: l=>if r.left.toNat=m∧(eM P r.right eL).2=true then some (mU P i r) else ke P m (i+1) l
theorem EZ {N:List bE} {i m:Nat} {p:bE} (hm:m < N.length):bQ (N.set i p) m=if i=m then p else bQ N m:=by
  simp only[bQ,List.getD_eq_getElem?_getD,List.getElem?_set]
  split
  · rename_i e; subst e; simp[hm]
  · rfl
theorem BB (P:List bE) (i:Nat) (N:List bE) (r:aY):(BS P i N r).length=N.length:=by
  unfold BS; split; · rfl
  split <;> simp
theorem A7 (P:List bE):∀ (l:List aY) (i:Nat) (N:List bE),(s7 P i N l).length=N.length
  | [],_,_=>rfl
  | r :: l,i,N=>by rw[s7,A7 P l,BB]
theorem Dx (P:List bE) (m:Nat):∀ (l:List aY) (i:Nat) (N:List bE),m < N.length→bQ (s7 P i N l) m=if 0≤(bQ N m).bN then bQ N m else (ke P m i l).getD (bQ N m)
  | [],i,N,hm=>by simp[s7,ke]
  | r :: l,i,N,hm=>by
    rw[s7,Dx P m l (i+1) _ (by rw[BB]; exact hm),ke]
    unfold BS
    by_cases h1:0≤(bQ N r.left.toNat).bN
    · rw[if_pos h1]
      by_cases h2:r.left.toNat=m
      · subst h2
        rw[if_pos h1,if_pos h1]
      · rw[if_neg (c:=r.left.toNat=m∧_) (fun e=>h2 e.1)]
    · rw[if_neg h1]
      by_cases h3:(eM P r.right eL).2=true
      · rw[if_pos h3]
        by_cases h2:r.left.toNat=m
        · subst h2
          rw[EZ hm,if_pos rfl,if_neg h1,if_pos (show (0:Int)≤(mU P i r).bN by simp only[mU]; omega),if_pos (c:=r.left.toNat=r.left.toNat∧_) (And.intro rfl h3)]
          rfl
        · rw[EZ hm,if_neg h2,if_neg (c:=r.left.toNat=m∧_) (fun e=>h2 e.1)]
      · rw[if_neg h3,if_neg (c:=r.left.toNat=m∧_) (fun e=>h3 e.2)]
theorem mH {P:List bE} {m:Nat} : ∀ {l:List aY} {i:Nat} {p:bE},ke P m i l=some p→∃ (j:Nat) (r:aY),l[j]?=some r∧r.left.toNat=m∧tO P r.right∧p=mU P (i+j) r∧∀ (j':Nat) (r':aY),j' < j→l[j']?=some r'→r'.left.toNat=m→¬ tO P r'.right
  | [],i,p,h=>by simp[ke] at h
  | r :: l,i,p,h=>by
    rw[ke] at h
    by_cases hc:r.left.toNat=m∧(eM P r.right eL).2=true
    · rw[if_pos hc] at h
      exact ⟨0,r,rfl,hc.1,(rL P _ _).1 hc.2,by simpa using h.symm,fun j' r' hj=>by omega⟩
    · rw[if_neg hc] at h
      obtain ⟨j,r2,a,b,c,d,e⟩:=mH h
      refine ⟨j+1,r2,by simpa using a,b,c,by rw[d]; congr 1; omega,fun j' r' hj hr hl hk=>?_⟩
      cases j' with
      | zero =>
        simp at hr; subst hr
        exact hc ⟨hl,(rL P _ _).2 hk⟩
      | succ j'=>exact e j' r' (by omega) (by simpa using hr) hl hk
theorem AF {P:List bE} {m:Nat} : ∀ {l:List aY} {i:Nat},ke P m i l=none→∀ r∈l,r.left.toNat=m→¬ tO P r.right
  | [],i,h,r,hr,_,_=>by simp at hr
  | r :: l,i,h,r',hr,hl,hk=>by
    rw[ke] at h
    by_cases hc:r.left.toNat=m∧(eM P r.right eL).2=true
    · rw[if_pos hc] at h; simp at h
    · rw[if_neg hc] at h
      rcases List.mem_cons.1 hr with rfl | hr
      · exact hc ⟨hl,(rL P _ _).2 hk⟩
      · exact AF h r' hr hl hk
def bk (g:aw) (k:Nat):List bE:=iter (zE g.rules) k (List.replicate g.ax.length oZ)
theorem A4 {α:Type} (f:α→α):∀ (k:Nat) (x:α),iter f (k+1) x=f (iter f k x)
  | 0,x=>rfl
  | k+1,x=>by rw[iter,A4 f k,iter]
theorem zb (g:aw) (k:Nat):bk g (k+1)=zE g.rules (bk g k):=A4 _ _ _
theorem jX (g:aw):∀ k,(bk g k).length=g.ax.length
  | 0=>by simp[bk,iter]
  | k+1=>by rw[zb,zE,A7,jX g k]
theorem sw {P:List bE} {m:Nat} (h:P.length≤m):bQ P m=oZ:=by simp[bQ,List.getD_eq_getElem?_getD,List.getElem?_eq_none h]
theorem JK {P:List bE} {m:Nat} (h:cg P m):m < P.length:=by
  rcases Nat.lt_or_ge m P.length with h1 | h1
  · exact h1
  · unfold cg at h; rw[sw h1] at h; simp[oZ] at h
theorem pD (g:aw) (k m:Nat):bQ (bk g (k+1)) m=if 0≤(bQ (bk g k) m).bN then bQ (bk g k) m else if m < g.ax.length then (ke (bk g k) m 0 g.rules).getD (bQ (bk g k) m) else bQ (bk g k) m:=by
  by_cases hm:m < g.ax.length
  · rw[zb,zE,Dx _ _ _ _ _ (by rw[jX]; exact hm),if_pos hm]
  · rw[if_neg hm,sw (by rw[jX]; omega),sw (by rw[jX]; omega)]
    simp
theorem F7 {g:aw} {k m:Nat} (h:cg (bk g k) m):bQ (bk g (k+1)) m=bQ (bk g k) m:=by
  rw[pD]; unfold cg at h; rw[if_pos h]
theorem xB {g:aw} {k m:Nat} (h:cg (bk g k) m):∀ d,bQ (bk g (k+d)) m=bQ (bk g k) m
  | 0=>rfl
  | d+1=>by
    have ih:=xB h d
    have:cg (bk g (k+d)) m:=by unfold cg at h ⊢; rw[ih]; exact h
    rw[← ih,← F7 this]; rfl
theorem ki {g:aw} {k m j:Nat} (h:cg (bk g k) m) (hj:k≤j):bQ (bk g j) m=bQ (bk g k) m∧cg (bk g j) m:=by
  obtain ⟨d,rfl⟩:∃ d,j=k+d:=⟨j - k,by omega⟩
  have:=xB h d
  exact ⟨this,by unfold cg at h ⊢; rw[this]; exact h⟩
theorem AN {g:aw} {k m:Nat} (h0:¬ cg (bk g k) m) (h:cg (bk g (k+1)) m):ke (bk g k) m 0 g.rules=some (bQ (bk g (k+1)) m):=by
  unfold cg at h h0
  rw[pD,if_neg h0] at h
  rw[pD,if_neg h0]
  split at h
  · rename_i hm
    rw[if_pos hm]
    cases hc:ke (bk g k) m 0 g.rules with
    | none=>rw[hc] at h; exact absurd h h0
    | some p=>rfl
  · exact absurd h h0
theorem uk {g:aw} {m:Nat} : ∀ {k:Nat},¬ cg (bk g k) m→bQ (bk g k) m=oZ
  | 0,_=>by
    simp only[bk,iter,bQ,List.getD_eq_getElem?_getD,List.getElem?_replicate]
    split <;> rfl
  | k+1,h=>by
    have h0:¬ cg (bk g k) m:=fun e=>h (ki e (by omega)).2
    unfold cg at h h0
    rw[pD,if_neg h0] at h ⊢
    split
    · rename_i hm
      rw[if_pos hm] at h
      cases hc:ke (bk g k) m 0 g.rules with
      | none=>exact uk (k:=k) h0
      | some p =>
        rw[hc] at h
        obtain ⟨j,r,_,_,_,rfl,_⟩:=mH hc
        simp only[Option.getD_some,mU] at h; omega
    · exact uk (k:=k) h0
theorem o8 (g:aw):∀ k:Nat,∀ m,cg (bk g k) m→1≤(bQ (bk g k) m).bX∧(bQ (bk g k) m).bX≤k∧∀ j:Nat,j≤k→(bQ (bk g k) m).bX≤j→cg (bk g j) m
  | 0,m,h=>by
    unfold cg at h
    have:bQ (bk g 0) m=oZ:=by
      simp only[bk,iter,bQ,List.getD_eq_getElem?_getD,List.getElem?_replicate]
      split <;> rfl
    rw[this] at h; simp[oZ] at h
  | k+1,m,h=>by
    have ih:=o8 g k
    by_cases h0:cg (bk g k) m
    · obtain ⟨a,b,c⟩:=ih m h0
      rw[(ki h0 (Nat.le_succ k)).1]
      refine ⟨a,by push_cast; omega,fun j hj hh=>?_⟩
      rcases Nat.lt_or_ge k j with e | e
      · exact (ki h0 (by omega)).2
      · exact c j e hh
    · have hc:=AN h0 h
      obtain ⟨i,r,hr,hl,hk,hp,_⟩:=mH hc
      have hh:(bQ (bk g (k+1)) m).bX=(eM (bk g k) r.right eL).1.bX+1:=by rw[hp]; rfl
      have h1:=vA (bk g k) r.right eL
      have h2:=(mg (bk g k) k r.right eL hk).2 ⟨by simp[eL],fun x hx hn=>(ih _ (hk x hx hn)).2.1⟩
      have h3:¬ (eM (bk g k) r.right eL).1.bX≤(k:Int) - 1:=by
        intro hle
        have hz:(0:Int)≤(eM (bk g k) r.right eL).1.bX:=h1
        obtain ⟨d,rfl⟩:∃ d,k=d+1:=⟨k - 1,by omega⟩
        have h4:=((mg (bk g (d+1)) _ r.right eL hk).1 hle).2
        have h5:tO (bk g d) r.right:=fun x hx hn=>(ih _ (hk x hx hn)).2.2 d (by omega) (by have:=h4 x hx hn; push_cast at this; omega)
        apply h0
        by_cases h6:cg (bk g d) m
        · exact (ki h6 (by omega)).2
        · unfold cg at h6 ⊢
          have hm:=JK h
          rw[jX] at hm
          rw[pD,if_neg h6,if_pos hm]
          cases hc2:ke (bk g d) m 0 g.rules with
          | none=>exact absurd h5 (AF hc2 r (List.mem_of_getElem? hr) hl)
          | some p =>
            obtain ⟨j,r2,_,_,_,rfl,_⟩:=mH hc2
            simp only[Option.getD_some,mU]; omega
      have hz:(0:Int)≤(eM (bk g k) r.right eL).1.bX:=h1
      refine ⟨by omega,by push_cast; omega,fun j hj hle=>?_⟩
      have:j=k+1:=by omega
      subst this; exact h
def cR (g:aw):List bE:=bk g g.ax.length
theorem v7 (g:aw):(cR g).length=g.ax.length:=jX _ _
theorem xy {g:aw} {m:Nat} (h:cg (cR g) m):1≤(bQ (cR g) m).bX∧(bQ (cR g) m).bX≤g.ax.length:=⟨(o8 g _ m h).1,(o8 g _ m h).2.1⟩
theorem CI {g:aw} {m:Nat} (h:¬ cg (cR g) m):bQ (cR g) m=oZ:=uk h
def MI (h:List Int) (m:Nat):Int:=h.getD m 0
abbrev ML (P:List bE):List Int:=P.map bE.bX
theorem LI (P:List bE) (m:Nat):MI (ML P) m=(bQ P m).bX:=by
  simp only[MI,bQ,List.getD_eq_getElem?_getD,List.getElem?_map]
  cases P[m]? <;> rfl
def Lq (P:List bE):Prop:=∀ m,(cg P m→1≤(bQ P m).bX)∧(¬ cg P m→bQ P m=oZ)
theorem Lq.zero {P:List bE} (h:Lq P) (m:Nat):MI (ML P) m=0↔¬ cg P m:=by
  rw[LI]
  constructor
  · intro e k; have:=(h m).1 k; omega
  · intro k; rw[(h m).2 k]; rfl
def oO (S:List (Int × Int)) (m:Nat):Int × Int:=S.getD m (0,0)
def wc (p:bE):Int × Int:=(min 1000 p.rules,min 1000 p.ay)
def kI (p:bE):Prop:=(0≤p.rules∧p.rules≤1048576)∧(0≤p.ay∧p.ay≤1048576)
theorem yn {P:List bE} (hP:∀ m,kI (bQ P m)):∀ (l:List Int) (s:bE),kI s→kI (eM P l s).1
  | [],s,h=>h
  | x :: l,s,h=>by
    have hx:=hP (px x)
    unfold kI at h hx
    simp only[eM]
    split
    · exact yn hP l _ (by unfold kI; simp only; omega)
    · split
      · exact h
      · exact yn hP l _ (by unfold kI; simp only; omega)
theorem J1:kI eL:=by unfold kI; simp[eL]
theorem IX:kI oZ:=by unfold kI; simp[oZ]
theorem wx (g:aw):∀ k m,kI (bQ (bk g k) m)
  | 0,m=>by
    have:bQ (bk g 0) m=oZ:=by
      simp only[bk,iter,bQ,List.getD_eq_getElem?_getD,List.getElem?_replicate]
      split <;> rfl
    rw[this]; exact IX
  | k+1,m=>by
    by_cases h:cg (bk g (k+1)) m
    · by_cases h0:cg (bk g k) m
      · rw[(ki h0 (Nat.le_succ k)).1]; exact wx g k m
      · obtain ⟨i,r,_,_,_,hp,_⟩:=mH (AN h0 h)
        rw[hp]
        have:=yn (wx g k) r.right eL J1
        unfold kI at this ⊢
        simp only[mU]; omega
    · rw[uk h]; exact IX
inductive wQ (g:aw):List Int→List Int→List Int→Prop
  | nil:wQ g [] [] []
  | term (s:Int) (l t w:List Int):0≤s→wQ g l t w→wQ g (s :: l) t (s :: w)
  | dc (s:Int) (l:List Int) (k:Nat) (R:aY) (t1 w1 t w:List Int):s < 0→g.rules[k]?=some R→R.left = -1 - s→wQ g R.right t1 w1→wQ g l t w→wQ g (s :: l) (((k:Int) :: t1) ++ t) (w1 ++ w)
theorem wQ.app {g:aw} {a t w:List Int} (h:wQ g a t w) {b t' w':List Int} (k:wQ g b t' w'):wQ g (a ++ b) (t ++ t') (w ++ w'):=by
  induction h with
  | nil=>exact k
  | term s l t w h0 _ ih=>exact .term s _ _ _ h0 ih
  | dc s l k R t1 w1 t w h0 hR hl h1 _ _ ih =>
    have:=wQ.dc s _ k R t1 w1 _ _ h0 hR hl h1 ih
    simpa using this
structure Wk where
  rest:List Int
  word:List Int
  post:List Int
  high:Nat
structure Way where
  dc:Int
  bN:Int
  place:Int
def jj (F:List Way):List Int:=F.map Way.dc
structure ql (g:aw) (F:List Way):Prop where
  first:F[0]?=some ⟨g.start,-1,0⟩
  nodup:(jj F).Nodup
  from_:∀ i x,F[i]?=some x→0 < i→∃ (k j:Nat) (R:aY),x.bN=(k:Int)∧x.place=(j:Int)∧g.rules[k]?=some R∧R.right[j]?=some (-1 - x.dc)∧0≤x.dc∧∃ m y,m < i∧F[m]?=some y∧y.dc=R.left
theorem ql.pre {g:aw} {F:List Way} (h:ql g F) {i m:Nat} {x:Way} (hx:F[i]?=some x) (w:Way):(F ++ [w])[i]?=some x:=by
  rw[List.getElem?_append_left (List.getElem?_eq_some_iff.1 hx).1]; exact hx
theorem ql.inside {g:aw} {F:List Way} (h:ql g F) (h0:0≤g.start∧g.start < g.ax.length) (hs:∀ R∈g.rules,∀ s∈R.right,s < 0→-1 - s < g.ax.length):∀ n∈jj F,0≤n∧n < g.ax.length:=by
  intro n hn
  simp only[jj,List.mem_map] at hn
  obtain ⟨x,hx,rfl⟩:=hn
  obtain ⟨i,hi⟩:=List.mem_iff_getElem?.1 hx
  by_cases hi0:i=0
  · subst hi0
    rw[h.first] at hi
    simp at hi; subst hi
    exact h0
  · obtain ⟨k,j,R,_,_,h3,h4,h5,_⟩:=h.from_ i x hi (by omega)
    have:=hs R (List.mem_of_getElem? h3) _ (List.mem_of_getElem? h4) (by omega)
    omega
theorem ql.len {g:aw} {F:List Way} (h:ql g F) (h0:0≤g.start∧g.start < g.ax.length) (hs:∀ R∈g.rules,∀ s∈R.right,s < 0→-1 - s < g.ax.length):F.length≤g.ax.length:=by
  have:=nJ h.nodup (h.inside h0 hs)
  simpa [jj] using this
def lookW (F:List Way) (n:Int):Option Way:=F.find? fun x=>x.dc == n
def Cm (F:List Way) (n:Int):Nat:=F.findIdx fun x=>x.dc == n
theorem LZ {F:List Way} {n:Int} (h:n∈jj F):∃ x,lookW F n=some x∧F[Cm F n]?=some x∧x.dc=n:=by
  induction F with
  | nil=>simp[jj] at h
  | cons y F ih =>
    by_cases e:y.dc=n
    · exact ⟨y,by simp[lookW,e],by simp[Cm,List.findIdx_cons,e],e⟩
    · have h':n∈jj F:=by
        simp only[jj,List.map_cons,List.mem_cons] at h ⊢
        rcases h with h | h
        · exact absurd h.symm e
        · exact h
      obtain ⟨x,h1,h2,h3⟩:=ih h'
      refine ⟨x,by simpa [lookW,e] using h1,?_,h3⟩
      have:Cm (y :: F) n=Cm F n+1:=by simp[Cm,List.findIdx_cons,show (y.dc == n)=false by simpa using e]
      rw[this]; simpa using h2
def N1 (g:aw) (rest:List Int) (uw up:V):List V:=[.aM (g.ay.map cY),.aM (g.ax.map fun s=>[gs s]),.aM (g.rules.map bt),gi g.start,encI rest,uw,up]
def MP (g:aw) (b:Nat) (rest W Po:List Int) (H:View):Prop:=∃ uw up,bG H [(.sl b 0 1 7,7,[N1 g rest uw up]),(uw,1,bp W),(up,1,bp Po)]
def KU (g:aw) (b:Nat) (o:Option Wk) (W Po:List Int) (r:V) (H:View):Prop:=match o with
  | some x=>r=gi x.high∧MP g b x.rest (W ++ x.word) (Po ++ x.post) H
  | none=>r=gi 0∧∃ rest W Po,rest.length≤300∧MP g b rest W Po H
theorem KU.bad {g:aw} {b:Nat} {W Po W' Po' rest:List Int} {H:View} (hl:rest.length≤300) (h:MP g b rest W' Po' H):KU g b none W Po (gi 0) H:=⟨rfl,rest,W',Po',hl,h⟩
theorem sX:∀ (l:List aY) (acc:List Int),(l.foldl dD acc).length≤acc.length+l.length
  | [],acc=>by simp
  | r :: l,acc=>by
    have h1:=sX l (dD acc r)
    have h2:(dD acc r).length≤acc.length+1:=by unfold dD; split <;> simp
    simp only[List.foldl_cons,List.length_cons]
    omega
theorem Ki (p q:List Bool) (l:List aY):(cD p q l).length≤l.length:=by
  have h1:=sX (l.filter (bI p q)) []
  have h2:=List.length_filter_le (bI p q) l
  unfold cD
  simp only[List.length_nil] at h1
  omega
theorem Ls {g:aw} (hg:g.Ok) (p q:List Bool):(rm g (bd (cD p q g.rules)) p q).Ok:=by
  have ho:=Ki p q g.rules
  have h3:=hg.rules
  unfold bc at h3
  have hb:∀ x,bW (bd (cD p q g.rules) x):=fun x=>by
    have:=Aw (cD p q g.rules) x
    unfold bW; omega
  have hb2:∀ x,bW (-1 - bd (cD p q g.rules) x):=fun x=>by
    have:=Aw (cD p q g.rules) x
    unfold bW; omega
  refine ⟨hg.ay,?_,?_,hb _,hg.term,fun r hr=>?_⟩
  · unfold bc; simp only[rm,List.length_map]; omega
  · have:=List.length_filter_le (bI p q) g.rules
    unfold bc; simp only[rm,List.length_map]; omega
  · simp only[rm,List.mem_map,List.mem_filter] at hr
    obtain ⟨r0,⟨h0,_⟩,rfl⟩:=hr
    obtain ⟨_,i2,i3,i4⟩:=hg.bN r0 h0
    refine ⟨hb _,i2,by unfold bc at i3 ⊢; simpa [bu] using i3,fun x hx=>?_⟩
    simp only[bu,List.mem_map] at hx
    obtain ⟨s,hs,rfl⟩:=hx
    split
    · exact hb2 _
    · exact i4 s hs
section
variable {g r:aw} {p q:List Bool} {o:List Int}
theorem dk.ok (h:dk g p q o r) (hg:g.Ok):r.Ok:=by
  have:=Ls hg p q
  rw[← h.oe,← h.re] at this
  exact this
theorem dk.small (h:dk g p q o r) (hs:g.Small):r.Small:=by
  have:=nJ h.nodup h.inside
  have:=hs.names
  exact ⟨by rw[h.len,h.ay]; omega⟩
end
theorem bytes_beq (a b:ByteArray):(a == b)=decide (a=b):=by
  cases a with | mk a=>cases b with | mk b =>
  rw[Bool.eq_iff_iff]
  show (ByteArray.beq ⟨a⟩ ⟨b⟩=true)↔_
  simp only[ByteArray.beq]
  simp
theorem H9 (a b:ByteArray):fi a b=decide (a=b):=by
  cases a with | mk a=>cases b with | mk b =>
  rw[Bool.eq_iff_iff]
  simp[fi]
theorem Ac {α:Type} {a b:List α} {i:Nat} {x y:α} (hx:a[i]?=some x) (hy:b[i]?=some y) (h:a.take i=b.take i) (e:x=y):a.take (i+1)=b.take (i+1):=by
  rw[List.take_add_one,List.take_add_one,h,hx,hy,e]
theorem DI {α:Type} {a b:List α} {i:Nat} (ha:a.length≤i) (hb:b.length≤i) (h:a.take i=b.take i):a=b:=by
  rwa [List.take_of_length_le ha,List.take_of_length_le hb] at h
theorem F3 {α:Type} {a b:List α} {i:Nat} {x y:α} (hx:a[i]?=some x) (hy:b[i]?=some y) (e:x≠y):a≠b:=by
  rintro rfl; rw[hx] at hy; exact e (by simpa using hy)
theorem DG {α:Type} {a b:List α} (h:¬ a.length=b.length):a≠b:=fun e=>h (by rw[e])
theorem Ea (x y:Term):eT Tryz.prog 9998 #[.string x.name,.int .i64 x.level,.int .i64 x.assoc] #[.string y.name,.int .i64 y.level,.int .i64 y.assoc]
    [{ name:= "Name",type:=9,offset:=0,embedded:=false,tag:= "",pkgPath:= "",byteOffset:=0 },{ name:= "Level",type:=3,offset:=1,embedded:=false,tag:= "",pkgPath:= "",byteOffset:=16 },
        { name:= "Assoc",type:=3,offset:=2,embedded:=false,tag:= "",pkgPath:= "",byteOffset:=24 }] (x.name == y.name && (x.level == y.level && (x.assoc == y.assoc && true))) :=
  .str _ _ _ _ _ (by decide) Tryz.underlying9 rfl rfl (.int _ _ _ _ _ _ (by decide) Tryz.underlying3 rfl rfl (.int _ _ _ _ _ _ (by decide) Tryz.underlying3 rfl rfl .nil))
theorem Me (x y:Term):(x.name == y.name && (x.level == y.level && (x.assoc == y.assoc && true)))=decide (x=y):=by
  rw[bytes_beq,Bool.eq_iff_iff]
  cases x; cases y
  simp
theorem JU (x y:aw):decide (x=y)=(decide (x.ay=y.ay) && (decide (x.ax=y.ax) && (decide (x.rules=y.rules) && decide (x.start=y.start)))):=by
  cases x; cases y
  rw[Bool.eq_iff_iff]
  simp
theorem It (g k:aw):∀ v∈[V.agg (av g),V.agg (av k)],Tree v:=by
  intro v hv; simp at hv
  rcases hv with rfl | rfl <;> exact cy _ (cH _)
def j6:SC :=
  .seq (.seq (aq [aa 42 5,an 43 0 2,ak 44 43,aC 45 44,aF 46 .lss 42 45]) <|
  .cond (.tmp 46) (.skip) (.exit 0)) <|
  .seq (.block 1 (.seq (aq [an 49 0 2,ak 50 49,aa 51 5,aG 52 3 50 51,aH 53 3 52,an 54 0 3,ak 55 54,aa 56 5,aG 57 3 55 56,aH 58 3 57,((some 59),.op (.old (.binOp .neq 119 (.tmp 53) (.tmp 58) 119) 4))]) <|
  .cond (.tmp 59) (.seq (aq [aN 4 false]) <|
  .ret) (.skip))) <|
  aq [aa 47 5,au 48 .add 47 1,aa 5 48]
def j5:SC :=
  .seq (.seq (aq [aa 60 6,an 61 1 2,ak 62 61,aC 63 62,aF 64 .lss 60 63]) <|
  .cond (.tmp 64) (.skip) (.exit 2)) <|
  .seq (.block 3 (.seq (aq [an 67 1 2,ak 68 67,aa 69 6,aG 70 1 68 69,ak 71 70,an 72 1 3,ak 73 72,aa 74 6,aG 75 1 73 74,ak 76 75,((some 77),.op (.gD .neq (.tmp 71) (.tmp 76)))]) <|
  .cond (.tmp 77) (.seq (aq [aN 4 false]) <|
  .ret) (.skip))) <|
  aq [aa 65 6,au 66 .add 65 1,aa 6 66]
def kM:SC :=
  .seq (.seq (aq [aa 78 7,an 79 2 2,ak 80 79,aC 81 80,aF 82 .lss 78 81]) <|
  .cond (.tmp 82) (.skip) (.exit 4)) <|
  .seq (.block 5 (.seq (aq [an 85 2 2,ak 86 85,aa 87 7,aG 88 3 86 87,aH 89 3 88,an 90 2 3,ak 91 90,aa 92 7,aG 93 3 91 92,aH 94 3 93,((some 8),.op (.alloc [(.val (.int .i64 0)),(.emp 1),(.val (.int .i64 0))])),((some 9),.op (.alloc [(.val (.int .i64 0)),(.emp 1),(.val (.int .i64 0))])),(none,.op (.store 3 (.tmp 8) (.tmp 89))),(none,.op (.store 3 (.tmp 9) (.tmp 94)))]) <|
  .seq (.region false [⟨none,[an 95 0 8,ak 96 95,an 97 0 9,ak 98 97,aF 99 .neq 96 98,aa 100 99]⟩,⟨(some (100,false)),[an 101 2 8,ak 102 101,an 103 2 9,ak 104 103,aF 105 .neq 102 104]⟩,⟨none,[aX 106 100 105,aa 107 106]⟩,⟨(some (107,false)),[an 108 1 8,ak 109 108,an 110 1 9,ak 111 110,aI 112 17 [109,111],bB 113 112]⟩,⟨none,[aX 114 107 113]⟩]) <|
  .cond (.tmp 114) (.seq (aq [aN 4 false]) <|
  .ret) (.skip))) <|
  aq [aa 83 7,au 84 .add 83 1,aa 7 84]
def mP:SF:=⟨.seq (aq [bA 2 0,bA 3 1,aN 4 false]) <|
  .seq (.seq (.region false [⟨none,[an 10 0 2,ak 11 10,aC 12 11,an 13 0 3,ak 14 13,aC 15 14,aF 16 .neq 12 15,aa 17 16]⟩,⟨(some (17,false)),[an 18 1 2,ak 19 18,aC 20 19,an 21 1 3,ak 22 21,aC 23 22,aF 24 .neq 20 23]⟩,⟨none,[aX 25 17 24,aa 26 25]⟩,⟨(some (26,false)),[an 27 2 2,ak 28 27,aC 29 28,an 30 2 3,ak 31 30,aC 32 31,aF 33 .neq 29 32]⟩,⟨none,[aX 34 26 33,aa 35 34]⟩,⟨(some (35,false)),[an 36 3 2,ak 37 36,an 38 3 3,ak 39 38,aF 40 .neq 37 39]⟩,⟨none,[aX 41 35 40]⟩]) <|
  .cond (.tmp 41) (.seq (aq [aN 4 false]) <|
  .ret) (.skip)) <|
  .seq (.seq (aq [aA 5 0]) <|
  .block 0 (.loop j6)) <|
  .seq (.seq (aq [aA 6 0]) <|
  .block 2 (.loop j5)) <|
  .seq (.seq (aq [aA 7 0]) <|
  .block 4 (.loop kM)) <|
  .seq (aq [aN 4 true]) <|
  .ret,
  [.tmp 4],115⟩
theorem so:bo Tryz.prog 34 [2,3]=some mP:=by kernel_rfl
set_option maxHeartbeats 2000000 in
theorem HA (g k:aw) (hg:g.Ok):aJ Tryz.prog 34 [.agg (av g),.agg (av k)] (gb (decide (g=k))):=by
  refine aJ.val (It g k) fun H=>?_
  rw[JU]
  refine aL.of mixed so ?_
  have h1:=hg.ay
  have h2:=hg.ax
  have h3:=hg.rules
  unfold bc at h1 h2 h3
  simp (disch:=omega) only [↓wr,↓reduceIte,wq,ai,ag,ao,Nat.reduceEqDiff,Nat.reduceAdd,Nat.reduceLT,Nat.reduceLeDiff,mP,av,encS]
  repeat' (first | (refine ar.dec (fun _=>?_) (fun _=>?_)) | (refine ar.eq (fun _=>?_) (fun _=>?_)) | (refine ar.ne (fun _=>?_) (fun _=>?_)) | (refine ar.split (fun _=>?_) (fun _=>?_)) | (simp (disch:=omega) only [↓wr,↓reduceIte,wq,ag,ao,Nat.reduceEqDiff,Nat.reduceAdd,Nat.reduceLT,reduceCtorEq]))
  · rename_i e; rw[decide_eq_false (DG (by omega))]; rfl
  · rename_i e; rw[decide_eq_false (p:=g.ax=k.ax) (DG (by omega))]; simp
  · rename_i e; rw[decide_eq_false (p:=g.rules=k.rules) (DG (by omega))]; simp
  · rename_i e; rw[decide_eq_false e]; simp
  rename_i l1 l2 l3 l4
  refine bC.up g.ay.length (fun i T _=>g.ay.take i=k.ay.take i∧T 2=.aQ (av g) 0∧T 3=.aQ (av k) 0∧T 5=gi i) ⟨by simp,rfl,rfl,rfl⟩ ?_
  rintro i m T H hm ⟨hi,t2,t3,t5⟩
  simp (disch:=omega) only [↓wr,↓reduceIte,wq,ag,ao,Nat.reduceEqDiff,Nat.reduceAdd,Nat.reduceLT,j6,t2,t5,av,encS]
  refine ar.dec (fun hc=>?_) (fun hc=>?_)
  · have hx:=List.getElem?_eq_getElem (l:=g.ay) (i:=i) (by omega)
    have hy:=List.getElem?_eq_getElem (l:=k.ay) (i:=i) (by omega)
    generalize g.ay[i]'(by omega)=x at hx
    generalize k.ay[i]'(by omega)=y at hy
    simp (disch:=omega) only [↓wr,↓reduceIte,wq,Nat.reduceEqDiff,Nat.reduceAdd,Nat.reduceLT,Nat.reduceLeDiff,t2,t3,t5,List.getElem?_map,hx,hy,cY,av,encS]
    refine D4 (xs:=#[.string x.name,.int .i64 x.level,.int .i64 x.assoc]) (ys:=#[.string y.name,.int .i64 y.level,.int .i64 y.assoc]) Tryz.underlying119 (by kernel_rfl) (by kernel_rfl) ?_ ?_ (Ea x y) (.inr ⟨rfl,rfl⟩) ?_
    · rfl
    · rfl
    rw[Me]
    simp (disch:=omega) only [↓wr,↓reduceIte,wq]
    refine ar.split (fun e=>?_) (fun e=>?_)
    · simp (disch:=omega) only [↓wr,↓reduceIte,wq,ag,Nat.reduceEqDiff,reduceCtorEq,t5]
      exact bM hm (by omega) ⟨Ac hx hy hi (by simpa using e),t2,t3,rfl⟩
    · simp (disch:=omega) only [↓wr,↓reduceIte,wq,ag,Nat.reduceEqDiff,reduceCtorEq,t5]
      rw[decide_eq_false (F3 hx hy (by simpa using e))]; rfl
  have e1:g.ay=k.ay:=DI (by omega) (by omega) hi
  simp (disch:=omega) only [↓wr,↓reduceIte,wq,Nat.reduceEqDiff,reduceCtorEq]
  clear hi hc hm
  refine bC.up g.ax.length (fun i T _=>g.ax.take i=k.ax.take i∧T 2=.aQ (av g) 0∧T 3=.aQ (av k) 0∧T 6=gi i) ⟨by simp,t2,t3,rfl⟩ ?_
  clear t2 t3 t5 T H i m
  rintro i m T H hm ⟨hi,t2,t3,t5⟩
  simp (disch:=omega) only [↓wr,↓reduceIte,wq,ag,ao,Nat.reduceEqDiff,Nat.reduceAdd,Nat.reduceLT,j5,t2,t5,av,encS]
  refine ar.dec (fun hc=>?_) (fun hc=>?_)
  · have hx:=List.getElem?_eq_getElem (l:=g.ax) (i:=i) (by omega)
    have hy:=List.getElem?_eq_getElem (l:=k.ax) (i:=i) (by omega)
    generalize g.ax[i]'(by omega)=x at hx
    generalize k.ax[i]'(by omega)=y at hy
    simp (disch:=omega) only [↓wr,↓reduceIte,wq,Nat.reduceEqDiff,Nat.reduceAdd,Nat.reduceLT,t2,t3,t5,List.getElem?_map,hx,hy,av,encS,H9]
    refine ar.split (fun e=>?_) (fun e=>?_)
    · simp (disch:=omega) only [↓wr,↓reduceIte,wq,ag,Nat.reduceEqDiff,reduceCtorEq,t5]
      exact bM hm (by omega) ⟨Ac hx hy hi (by simpa using e),t2,t3,rfl⟩
    · simp (disch:=omega) only [↓wr,↓reduceIte,wq,ag,Nat.reduceEqDiff,reduceCtorEq,t5]
      rw[decide_eq_false (p:=g.ax=k.ax) (F3 hx hy (by simpa using e))]; simp
  have e2:g.ax=k.ax:=DI (by omega) (by omega) hi
  simp (disch:=omega) only [↓wr,↓reduceIte,wq,Nat.reduceEqDiff,reduceCtorEq]
  clear hi hc hm
  refine bC.up g.rules.length (fun i T _=>g.rules.take i=k.rules.take i∧T 2=.aQ (av g) 0∧T 3=.aQ (av k) 0∧T 7=gi i) ⟨by simp,t2,t3,rfl⟩ ?_
  clear t2 t3 t5 T H i m
  rintro i m T H hm ⟨hi,t2,t3,t5⟩
  simp (disch:=omega) only [↓wr,↓reduceIte,wq,ag,ao,Nat.reduceEqDiff,Nat.reduceAdd,Nat.reduceLT,reduceCtorEq,kM,t2,t5,av,encS]
  refine ar.dec (fun hc=>?_) (fun hc=>?_)
  · have hx:=List.getElem?_eq_getElem (l:=g.rules) (i:=i) (by omega)
    have hy:=List.getElem?_eq_getElem (l:=k.rules) (i:=i) (by omega)
    have hmx:g.rules[i]'(by omega)∈g.rules:=List.getElem_mem _
    generalize g.rules[i]'(by omega)=x at hx hmx
    generalize k.rules[i]'(by omega)=y at hy
    have hsx:=(hg.bN x hmx).2.2.1
    simp (disch:=omega) only [↓wr,↓reduceIte,wq,ab,Nat.reduceEqDiff,Nat.reduceAdd,Nat.reduceLT,Nat.reduceLeDiff,t2,t3,t5,List.getElem?_map,hx,hy,bt,encI,av,encS]
    intro n hn
    try simp (disch:=omega) only [↓wr,↓reduceIte,wq,ai,ag,ao,ab,ae,af,aj,isNil,Nat.reduceEqDiff,Nat.reduceAdd,Nat.reduceLT,Nat.reduceLeDiff,Int.reduceNeg,Int.reduceToNat,reduceCtorEq,t2,t3,t5,bt,encI]
    intro n2 hn2
    have hmn:=(dz hn2 cQ).1
    try simp (disch:=omega) only [↓wr,↓reduceIte,wq,ag,ab,Nat.reduceEqDiff,Nat.reduceAdd,Nat.reduceLT,Nat.reduceLeDiff,hmn,hmn.symm]
    have hne:x≠y→V.val (Value.bool false)=V.val (Value.bool (decide (g.ay=k.ay) && (decide (g.ax=k.ax) && (decide (g.rules=k.rules) && decide (g.start=k.start))))):=fun e=>by
      rw[decide_eq_false (p:=g.rules=k.rules) (F3 hx hy e)]; simp
    repeat' (first | (refine ar.dec (fun _=>?_) (fun _=>?_)) | (refine ar.eq (fun _=>?_) (fun _=>?_)) | (refine ar.ne (fun _=>?_) (fun _=>?_)) | (refine ar.split (fun _=>?_) (fun _=>?_)) | (refine aO.pure (wZ x.right y.right hsx) (by kernel_rfl) ?_) | (simp (disch:=omega) only [↓wr,↓reduceIte,wq,ag,Nat.reduceEqDiff,Nat.reduceAdd,Nat.reduceLT,reduceCtorEq,t5,hmn.symm]))
    · rename_i e; exact hne fun h=>e (by rw[h])
    · rename_i e; exact hne fun h=>e (by rw[h])
    · rename_i e3 e2 e1
      refine bM hm (by omega) ⟨Ac hx hy hi ?_,t2,t3,rfl⟩
      cases x; cases y
      simp_all
    · rename_i e; exact hne fun h=>by rw[h] at e; simp at e
  · have e3:g.rules=k.rules:=DI (by omega) (by omega) hi
    simp (disch:=omega) only [↓wr,↓reduceIte,wq,Nat.reduceEqDiff,reduceCtorEq]
    simp[e1,e2,e3,l4]
def py:SF:=⟨.seq (aq [bA 1 0,aN 2 false]) <|
  .seq (aq [aH 7 4 1,aI 8 67 [7],aa 6 8,bq 9 0 6,bq 10 1 6,bq 11 2 6,((some 3),.op (.alloc [(.emp 1),(.emp 1),(.emp 1),(.val (.int .i64 0))])),(none,.op (.store 4 (.tmp 3) (.tmp 9))),aa 4 10,aa 5 11]) <|
  .seq (.region false [⟨none,[aa 12 5,au 13 .eql 12 0,aa 14 13]⟩,⟨(some (14,true)),[aH 15 4 1,aH 16 4 3,aI 17 34 [15,16]]⟩,⟨none,[bj 18 14 17,aa 2 18]⟩]) <|
  .ret,
  [.tmp 2],19⟩
theorem vc:bo Tryz.prog 38 [1]=some py:=by kernel_rfl
theorem MG (g:aw) (hg:g.Ok):aJ Tryz.prog 38 [.agg (av g)] (gb (isRed g)):=by
  refine aJ.val (gn g) fun H=>?_
  refine aL.of mixed vc ?_
  simp (disch:=omega) only [↓wr,↓reduceIte,wq,ai,Nat.reduceEqDiff,Nat.reduceAdd,Nat.reduceLeDiff,py,av,encS]
  refine aO.pure (Ek g hg).pure (by kernel_rfl) ?_
  unfold isRed
  generalize hZ g=x
  obtain ⟨k,il,e⟩:=x
  simp (disch:=omega) only [↓wr,↓reduceIte,wq,ag,ab,Nat.reduceEqDiff,Nat.reduceAdd,Nat.reduceLT,Nat.reduceLeDiff,DV,av,encS]
  intro n hn
  refine ar.eq (fun h=>?_) (fun h=>?_)
  · simp (disch:=omega) only [↓wr,↓reduceIte,wq,Nat.reduceEqDiff,Nat.reduceAdd,Nat.reduceLT,Nat.reduceLeDiff]
    refine aO.pure (HA g k hg) (by kernel_rfl) ?_
    simp (disch:=omega) only [↓wr,↓reduceIte,wq,Nat.reduceEqDiff,reduceCtorEq]
    simp[h]
  · simp (disch:=omega) only [↓wr,↓reduceIte,wq,Nat.reduceEqDiff,reduceCtorEq]
    simp[h]
def mF:SF:=⟨.seq (aq [((some 2),.op (.aW (.val (.emp 1))))]) <|
  .seq (aq [((some 3),.op (.aW (.val (.emp 2)))),aa 4 0,((some 5),.op (.app 1 8 (.tmp 3) (.tmp 4))),aa 2 5]) <|
  .ret,
  [.tmp 2],6⟩
theorem sS:bo Tryz.prog 14 []=some mF:=by kernel_rfl
theorem Iv (l:List Int) (hl:l.length≤100000) (H:View):aL Tryz.prog 14 [encI l] H fun r H'=>bf H' r 1 (bp l)∧dQ H H' r:=by
  refine aL.of mixed sS ?_
  simp (disch:=omega) only [↓wr,↓reduceIte,wq,ai,Nat.reduceEqDiff,Nat.reduceLeDiff,reduceCtorEq,mF,encI]
  refine wT (H:=H) .nil (by simp[aU]) (by unfold aR; simp; omega) (by unfold aR; simp; omega) ?_
  intro u' H' ho hl'
  simp (disch:=omega) only [↓wr,↓reduceIte,wq,reduceCtorEq]
  exact ⟨ho,fun id hid=>hl' id hid (by simp[owner])⟩
structure aw.Og (g:aw):Prop where
  ay:g.ay.length≤40
  ax:g.ax.length≤40
  rules:g.rules.length≤60
  right:∀ r∈g.rules,r.right.length≤20
theorem dh.fr {h:aE} {v t:V} (f:dh h v t):Fr h v t:=by
  induction f with
  | val v=>exact .tree _ (.val _)
  | emp k=>exact .emp k
  | sl id off len esz z es es' h1 h2 h3 h4 _ ih=>exact .sl id off len esz z es es' h1 h2 h3 h4 ih
  | agg cs cs' h1 _ ih=>exact .agg cs cs' h1 ih
  | bh cs cs' h1 _ ih=>exact .bh cs cs' h1 ih
def qm:DF:=⟨.seq (ah [((some 4),.op (.aW (.val (.val (.int .u64 0))))),((some 5),.op (.aW (.val (.val (.int .u64 0)))))]) <|
  .seq (.cond (.val (.val (.bool false))) (.seq (ah [aa 11 0,((some 12),.op (.conv .u32 (.tmp 11))),aa 13 1,((some 14),.op (.conv .u32 (.tmp 13))),aI 15 197 [12,14],aa 10 15,bq 16 0 10,bq 17 1 10,aa 6 16,aa 7 17]) <|
  .seq (ah [aa 18 6,((some 19),.op (.conv .u64 (.tmp 18))),aa 20 7,((some 21),.op (.conv .u64 (.tmp 20))),aa 4 19,aa 5 21]) <|
  .ret) (.skip)) <|
  .seq (ah [aa 23 0,aa 24 1,aI 25 198 [23,24],aa 22 25,bq 26 0 22,bq 27 1 22,aa 8 26,aa 9 27]) <|
  .seq (ah [aa 28 8,aa 29 9,aa 4 28,aa 5 29]) <|
  .ret,
  [.tmp 4,.tmp 5],30⟩
theorem vo:aK Tryz.prog 153 []=some qm:=by kernel_rfl
def nO:DF:=⟨.seq (ah [((some 4),.op (.aW (.val (.val (.int .u32 0))))),((some 5),.op (.aW (.val (.val (.int .u32 0)))))]) <|
  .seq (ah [aa 7 0,((some 8),.op (.conv .u64 (.tmp 7))),aa 9 1,((some 10),.op (.conv .u64 (.tmp 9))),aF 11 .mul 8 10,aa 6 11]) <|
  .seq (ah [aa 12 6,((some 13),.op (.sh false (.tmp 12) (.val (.val (.int .u64 32))))),((some 14),.op (.conv .u32 (.tmp 13))),aa 15 6,((some 16),.op (.conv .u32 (.tmp 15))),aa 4 14,aa 5 16]) <|
  .ret,
  [.tmp 4,.tmp 5],17⟩
theorem td:aK Tryz.prog 197 []=some nO:=by kernel_rfl
def nL:DF:=⟨.seq (ah [((some 4),.op (.aW (.val (.val (.int .u64 0))))),((some 5),.op (.aW (.val (.val (.int .u64 0)))))]) <|
  .seq (ah [aa 14 0,((some 15),.op (.arith .and (.tmp 14) (.val (.val (.int .u64 4294967295))))),aa 6 15]) <|
  .seq (ah [aa 16 0,((some 17),.op (.sh false (.tmp 16) (.val (.val (.int .u64 32))))),aa 7 17]) <|
  .seq (ah [aa 18 1,((some 19),.op (.arith .and (.tmp 18) (.val (.val (.int .u64 4294967295))))),aa 8 19]) <|
  .seq (ah [aa 20 1,((some 21),.op (.sh false (.tmp 20) (.val (.val (.int .u64 32))))),aa 9 21]) <|
  .seq (ah [aa 22 6,aa 23 8,aF 24 .mul 22 23,aa 10 24]) <|
  .seq (ah [aa 25 7,aa 26 8,aF 27 .mul 25 26,aa 28 10,((some 29),.op (.sh false (.tmp 28) (.val (.val (.int .u64 32))))),aF 30 .add 27 29,aa 11 30]) <|
  .seq (ah [aa 31 11,((some 32),.op (.arith .and (.tmp 31) (.val (.val (.int .u64 4294967295))))),aa 12 32]) <|
  .seq (ah [aa 33 11,((some 34),.op (.sh false (.tmp 33) (.val (.val (.int .u64 32))))),aa 13 34]) <|
  .seq (ah [aa 35 12,aa 36 6,aa 37 9,aF 38 .mul 36 37,aF 39 .add 35 38,aa 12 39]) <|
  .seq (ah [aa 40 7,aa 41 9,aF 42 .mul 40 41,aa 43 13,aF 44 .add 42 43,aa 45 12,((some 46),.op (.sh false (.tmp 45) (.val (.val (.int .u64 32))))),aF 47 .add 44 46,aa 4 47]) <|
  .seq (ah [aa 48 0,aa 49 1,aF 50 .mul 48 49,aa 5 50]) <|
  .ret,
  [.tmp 4,.tmp 5],51⟩
theorem tv:aK Tryz.prog 198 []=some nL:=by kernel_rfl
def yM (p:bE):List V:=[gi p.bN,gi p.bX,gi p.rules,gi p.ay]
abbrev FZ (P:List bE):V:=.aM (P.map yM)
theorem GZ (P:List bE):Tree (FZ P):=fy _ _ fun x _ v hv=>by
  simp[yM] at hv
  rcases hv with rfl | rfl | rfl | rfl <;> exact .val _
theorem GG (p:bE):∀ v∈yM p,Tree v:=by
  intro v hv; simp[yM] at hv
  rcases hv with rfl | rfl | rfl | rfl <;> exact .val _
def ym (H:View) (u:V) (P:List bE):Prop:=u=FZ P∨bf H u 4 (P.map yM)
theorem ym.Gw {H:View} {u:V} {P:List bE} (h:ym H u P):cZ H u (FZ P):=by
  rcases h with rfl | h
  · exact cZ.tree (GZ P)
  · exact cZ.own h fun e he v hv=>by
      obtain ⟨p,_,rfl⟩:=List.mem_map.1 he
      exact GG p v hv
theorem ym.keep {H H':View} {u:V} {P:List bE} (h:ym H u P) (hk:∀ id,owner u=some id→H' id=H id):ym H' u P:=h.imp id fun h=>h.keep hk
theorem ym.live {H:View} {u:V} {P:List bE} (h:ym H u P) {id:Nat} (hid:owner u=some id):H id≠.dead:=by
  rcases h with rfl | h
  · simp[owner] at hid
  · rw[(h.live hid).1]; simp
def Lp (s:Int × Int):Prop:=(0≤s.1∧s.1≤1000)∧(0≤s.2∧s.2≤1000)
def wV (g:aw):List (Int × Int):=(cR g).map wc
theorem w9:wc oZ=(0,0):=by decide
theorem J5 (g:aw) (m:Nat):oO (wV g) m=wc (bQ (cR g) m):=by
  simp only[wV,oO,bQ,List.getD_eq_getElem?_getD,List.getElem?_map]
  cases (cR g)[m]? <;> rfl
theorem Mp (g:aw) (m:Nat):Lp (wc (bQ (cR g) m)):=by
  have h:kI (bQ (cR g) m):=wx g _ m
  unfold kI at h
  unfold Lp wc; simp only; omega
def fW (g:aw) (j i:Nat) (S:List (Int × Int)):Prop:=S.length=g.ax.length∧∀ m,oO S m=if (bQ (cR g) m).bX≤j∨((bQ (cR g) m).bX=j+1∧m < i) then wc (bQ (cR g) m) else (0,0)
theorem fW.ok {g:aw} {j i:Nat} {S:List (Int × Int)} (h:fW g j i S) (m:Nat):Lp (oO S m):=by
  rw[h.2 m]; split
  · exact Mp g m
  · unfold Lp; simp
theorem Ly {S:List (Int × Int)} {i m:Nat} {v:Int × Int} (hm:m < S.length):oO (S.set i v) m=if i=m then v else oO S m:=by
  simp only[oO,List.getD_eq_getElem?_getD,List.getElem?_set]
  split
  · rename_i e; subst e; simp[hm]
  · rfl
theorem fW.next {g:aw} {j i:Nat} {S:List (Int × Int)} (h:fW g j i S) (hi:(bQ (cR g) i).bX≠(j:Int)+1):fW g j (i+1) S:=⟨h.1,fun m=>by
  rw[h.2 m]
  by_cases e:m=i
  · subst e
    by_cases h1:(bQ (cR g) m).bX≤j
    · rw[if_pos (.inl h1),if_pos (.inl h1)]
    · rw[if_neg (by omega),if_neg (by omega)]
  · congr 1
    simp only[eq_iff_iff]
    constructor <;> rintro (h1 | h1) <;> first | exact .inl h1 | exact .inr ⟨h1.1,by omega⟩⟩
theorem fW.put {g:aw} {j i:Nat} {S:List (Int × Int)} (h:fW g j i S) (hi:(bQ (cR g) i).bX=(j:Int)+1) (hn:i < g.ax.length):fW g j (i+1) (S.set i (wc (bQ (cR g) i))):=⟨by simp[h.1],fun m=>by
  by_cases hm:m < S.length
  · rw[Ly hm]
    by_cases e:i=m
    · subst e; rw[if_pos rfl,if_pos (.inr ⟨hi,by omega⟩)]
    · rw[if_neg e,h.2 m]
      congr 1
      simp only[eq_iff_iff]
      constructor <;> rintro (h1 | h1) <;> first | exact .inl h1 | exact .inr ⟨h1.1,by omega⟩
  · have:bQ (cR g) m=oZ:=sw (by rw[v7,← h.1]; omega)
    have e:oO (S.set i (wc (bQ (cR g) i))) m=(0,0):=by
      simp only[oO,List.getD_eq_getElem?_getD]; rw[List.getElem?_eq_none (by simp; omega)]; rfl
    rw[e,this]
    split <;> simp[w9]⟩
theorem fW.NX {g:aw} {j:Nat} {S:List (Int × Int)} (h:fW g j g.ax.length S):fW g (j+1) 0 S:=⟨h.1,fun m=>by
  rw[h.2 m]
  by_cases hm:m < g.ax.length
  · congr 1
    simp only[eq_iff_iff]
    push_cast
    constructor
    · rintro (h1 | h1) <;> left <;> omega
    · rintro (h1 | h1)
      · omega
      · omega
  · have:bQ (cR g) m=oZ:=sw (by rw[v7]; omega)
    rw[this]; split <;> split <;> simp[w9]⟩
theorem fW.start (g:aw):fW g 0 0 (List.replicate g.ax.length (0,0)):=⟨by simp,fun m=>by
  have e:oO (List.replicate g.ax.length (0,0)) m=(0,0):=by
    simp only[oO,List.getD_eq_getElem?_getD,List.getElem?_replicate]
    split <;> rfl
  rw[e]
  split
  · rename_i h
    by_cases hk:cg (cR g) m
    · have:=(xy hk).1; omega
    · rw[CI hk]; simp[w9]
  · rfl⟩
theorem fW.done {g:aw} {S:List (Int × Int)} (h:fW g g.ax.length 0 S):S=wV g:=by
  apply List.ext_getElem (by simp[h.1,wV,v7])
  intro m h1 h2
  have e:S[m]=oO S m:=by simp[oO,List.getD_eq_getElem?_getD,h1]
  have e2:(wV g)[m]=oO (wV g) m:=by simp[oO,List.getD_eq_getElem?_getD,h2]
  rw[e,e2,h.2 m,J5]
  by_cases hk:cg (cR g) m
  · rw[if_pos (.inl (xy hk).2)]
  · rw[CI hk]; split <;> simp[w9]
def jg {κ:Type} (kv:κ→V) (m:de κ):List (V × V × Nat):=m.map fun x=>(kv x.1,x.2.1,x.2.2)
structure Od {κ:Type} [BEq κ] (P:Program) (kt:TypeId) (kv:κ→V):Prop where
  find:∀ k e m,kO P kt (kv k) e (jg kv m)=some (iL k m)
  same:∀ k,sameKey (kv k) (kv k)=true
def BV {κ:Type} (m:de κ) (c:Nat):Prop:=(m.map (·.2.2)).Nodup∧∀ x∈m,x.2.2 < c
def ko {κ:Type} [BEq κ] (m:de κ) (k:κ):Option Nat:=(m.find? fun x=>k == x.1).map (·.2.2)
section
variable {κ:Type} [BEq κ] [LawfulBEq κ] {kv:κ→V}
theorem DU (k:κ):∀ m:de κ,match iL k m with
    | some i=>∃ x,m[i]?=some x∧x.1=k∧getM m k=some x.2.1∧ko m k=some x.2.2∧(jg kv m)[i]?=some (kv k,x.2.1,x.2.2)∧∀ v c,(jg kv m).set i (kv k,v,x.2.2)=jg kv (cX k v c m)∧ko (cX k v c m) k=some x.2.2∧(cX k v c m).map (·.2.2)=m.map (·.2.2)
    | none=>getM m k=none∧ko m k=none∧∀ v c,jg kv m ++ [(kv k,v,c)]=jg kv (cX k v c m)∧ko (cX k v c m) k=some c∧(cX k v c m).map (·.2.2)=m.map (·.2.2) ++ [c]
  | []=>⟨rfl,rfl,fun v c=>⟨rfl,by simp[cX,ko],rfl⟩⟩
  | x :: r=>by
    have ih:=DU k r
    simp only[iL]
    cases hk:k == x.1 with
    | true =>
      have hx:x.1=k:=(eq_of_beq hk).symm
      exact ⟨x,rfl,hx,by simp[getM,hk],by simp[ko,hk],by simp[jg,hx],fun v c=>by simp[cX,hk,jg,ko]⟩
    | false =>
      simp only[Bool.false_eq_true,if_false]
      cases hi:iL k r with
      | some i =>
        rw[hi] at ih
        obtain ⟨y,h1,h2,h3,h4,h5,h6⟩:=ih
        refine ⟨y,by simpa using h1,h2,by simpa [getM,hk] using h3,by simpa [ko,hk] using h4,by simpa [jg] using h5,fun v c=>?_⟩
        obtain ⟨g1,g2,g3⟩:=h6 v c
        exact ⟨by simp only[jg] at g1 ⊢; simp[cX,hk,g1],by simpa [cX,hk,ko] using g2,by simp[cX,hk,g3]⟩
      | none =>
        rw[hi] at ih
        refine ⟨by simpa [getM,hk] using ih.1,by simpa [ko,hk] using ih.2.1,fun v c=>?_⟩
        obtain ⟨g1,g2,g3⟩:=ih.2.2 v c
        exact ⟨by simp only[jg] at g1 ⊢; simp[cX,hk,g1],by simpa [cX,hk,ko] using g2,by simp[cX,hk,g3]⟩
theorem BV.put {m:de κ} {c:Nat} (h:BV m c) (k:κ) (v:V):BV (cX k v c m) (c+1):=by
  have hg:=DU (kv:=fun _=>V.any) k m
  cases hj:iL k m with
  | some j =>
    rw[hj] at hg
    obtain ⟨y,_,_,_,_,_,h6⟩:=hg
    have e:=(h6 v c).2.2
    refine ⟨by rw[e]; exact h.1,fun x hx=>?_⟩
    have:x.2.2∈m.map (·.2.2):=by rw[← e]; exact List.mem_map.2 ⟨x,hx,rfl⟩
    obtain ⟨y,hy,e2⟩:=List.mem_map.1 this
    have:=h.2 y hy
    omega
  | none =>
    rw[hj] at hg
    have e:=(hg.2.2 v c).2.2
    refine ⟨?_,fun x hx=>?_⟩
    · rw[e,List.nodup_append]
      refine ⟨h.1,by simp,fun a ha b hb=>?_⟩
      simp at hb; subst hb
      obtain ⟨y,hy,rfl⟩:=List.mem_map.1 ha
      have:=h.2 y hy
      omega
    · have:x.2.2∈m.map (·.2.2) ++ [c]:=by rw[← e]; exact List.mem_map.2 ⟨x,hx,rfl⟩
      rcases List.mem_append.1 this with h1 | h1
      · obtain ⟨y,hy,e2⟩:=List.mem_map.1 h1
        have:=h.2 y hy
        omega
      · simp at h1; omega
variable {P:Program} {T:Env} {H:View} {kt et t ty:TypeId}
end
def tg (x:Item):List V:=[ao x.bN,ao x.dot,ao x.jC]
def NW (x:Item):V:=.agg (tg x)
structure Oe (P:Program) (kt:TypeId):Prop where
  ty:∃ f0 f1 f2:Field,P.underlying kt=some (.struct #[f0,f1,f2])∧f0.name≠ "_" ∧ f1.name≠ "_" ∧ f2.name≠ "_" ∧ P.underlying f0.type=some (.int .i64)∧P.underlying f1.type=some (.int .i64)∧P.underlying f2.type=some (.int .i64)∧f0.offset=0∧f1.offset=1∧f2.offset=2
  held:P.stoodInHeld kt=false
def N4 (m:de Item) (s:List Item) (B:Nat):Prop:=∀ x,(x∈s→∃ k:Nat,getM m x=some (ao k)∧1≤k∧k≤B)∧(x ∉ s→getM m x=none)
structure pw (H:View) (c sid mid:Nat) (sv:Nat→V) (mi:Nat→Nat) (mm:Nat→de Item) (cl:Nat→Nat) (g:aw) (p:List Int) (nu:V) (S S1:Nat→List Item) (B n:Nat) (K:List (Nat × bK)):Prop where
  box:H c=.arr 8 [[.aM (g.ay.map cY),encS g.ax,.aM (g.rules.map bt),gi g.start,encI p,nu,.sl sid 0 n 1,.sl mid 0 n 1]]
  gN:H sid=.arr 1 ((List.range n).map fun j=>[sv j])
  seen:H mid=.arr 1 ((List.range n).map fun j=>[.mp (mi j)])
  set:∀ j,j < n→bf H (sv j) 3 ((S j).map tg)
  map:∀ j,j < n→H (mi j)=.map (jg NW (mm j)) (cl j)∧BV (mm j) (cl j)∧N4 (mm j) (S1 j) B
  ne:sid≠mid
  yc:∀ i j o,i < n→j < n→owner (sv i)=some o→owner (sv j)=some o→i=j
  GM:∀ i j,i < n→j < n→mi i=mi j→i=j
  off:∀ q∈K,H q.1=q.2∧q.2≠.dead∧q.1≠sid∧(∀ j,j < n→q.1≠mi j)∧∀ j,j < n→owner (sv j)≠some q.1
def Ch (H:View) (c:Nat) (g:aw) (p:List Int) (nu:V) (S:Nat→List Item) (B n:Nat) (K:List (Nat × bK)):Prop:=∃ sid mid sv mi mm cl,pw H c sid mid sv mi mm cl g p nu S S B n K
def wL (S:Nat→List Item) (a:Nat) (x:Item):Nat→List Item:=fun b=>if b=a then (if x∈S a then S a else S a ++ [x]) else S b
theorem Ch.more {H:View} {c:Nat} {g:aw} {p:List Int} {nu:V} {S:Nat→List Item} {B B' n:Nat} {K:List (Nat × bK)} (h:Ch H c g p nu S B n K) (hB:B≤B'):Ch H c g p nu S B' n K:=by
  obtain ⟨sid,mid,sv,mi,mm,cl,h⟩:=h
  refine ⟨sid,mid,sv,mi,mm,cl,h.box,h.gN,h.seen,h.set,fun j hj=>⟨(h.map j hj).1,(h.map j hj).2.1,fun x=>⟨fun hx=>?_,((h.map j hj).2.2 x).2⟩⟩,h.ne,h.yc,h.GM,h.off⟩
  obtain ⟨k,h1,h2,h3⟩:=((h.map j hj).2.2 x).1 hx
  exact ⟨k,h1,h2,by omega⟩
theorem Ch.drop {H:View} {c:Nat} {g:aw} {p:List Int} {nu:V} {S:Nat→List Item} {B n:Nat} {q:Nat × bK} {K:List (Nat × bK)} (h:Ch H c g p nu S B n (q :: K)):Ch H c g p nu S B n K:=by
  obtain ⟨sid,mid,sv,mi,mm,cl,h⟩:=h
  exact ⟨sid,mid,sv,mi,mm,cl,h.box,h.gN,h.seen,h.set,h.map,h.ne,h.yc,h.GM,fun q hq=>h.off q (by simp[hq])⟩
theorem pw.new {H:View} {c sid mid:Nat} {sv:Nat→V} {mi:Nat→Nat} {mm:Nat→de Item} {cl:Nat→Nat} {g:aw} {p:List Int} {nu:V} {S S1:Nat→List Item} {B n:Nat} {K:List (Nat × bK)} (h:pw H c sid mid sv mi mm cl g p nu S S1 B n K)
    {b:Nat} {o:bK} (hb:H b=.dead) (ho:o≠.dead):pw (H.set b o) c sid mid sv mi mm cl g p nu S S1 B n ((b,o) :: K):=by
  have keep:∀ id,H id≠.dead→(H.set b o) id=H id:=fun id hid=>by
    have e:id≠b:=by rintro rfl; exact hid hb
    simp[View.set,e]
  have live:∀ {id},H id≠.dead→b≠id:=fun hid e=>hid (e ▸ hb)
  refine ⟨?_,?_,?_,fun j hj=>?_,fun j hj=>?_,h.ne,h.yc,h.GM,fun q hq=>?_⟩
  · rw[keep _ (by rw[h.box]; simp)]; exact h.box
  · rw[keep _ (by rw[h.gN]; simp)]; exact h.gN
  · rw[keep _ (by rw[h.seen]; simp)]; exact h.seen
  · exact (h.set j hj).fresh hb
  · rw[keep _ (by rw[(h.map j hj).1]; simp)]; exact h.map j hj
  · rcases List.mem_cons.1 hq with rfl | hq
    · refine ⟨by simp[View.set],ho,live (by rw[h.gN]; simp),fun j hj=>live (by rw[(h.map j hj).1]; simp),fun j hj=>?_⟩
      have:=(h.set j hj).ne hb
      exact this
    · obtain ⟨h1,h2,h3⟩:=h.off q hq
      exact ⟨by rw[keep _ (by rw[h1]; exact h2)]; exact h1,h2,h3⟩
theorem Ch.new {H:View} {c:Nat} {g:aw} {p:List Int} {nu:V} {S:Nat→List Item} {B n b:Nat} {o:bK} {K:List (Nat × bK)} (h:Ch H c g p nu S B n K) (hb:H b=.dead) (ho:o≠.dead):Ch (H.set b o) c g p nu S B n ((b,o) :: K):=by
  obtain ⟨sid,mid,sv,mi,mm,cl,h⟩:=h
  exact ⟨sid,mid,sv,mi,mm,cl,h.new hb ho⟩
theorem Ch.kept {H:View} {c:Nat} {g:aw} {p:List Int} {nu:V} {S:Nat→List Item} {B n:Nat} {K:List (Nat × bK)} (h:Ch H c g p nu S B n K):∀ q∈K,H q.1=q.2:=by
  obtain ⟨sid,mid,sv,mi,mm,cl,h⟩:=h
  exact fun q hq=>(h.off q hq).1
theorem pw.N6 {H H':View} {c sid mid:Nat} {sv:Nat→V} {mi:Nat→Nat} {mm:Nat→de Item} {cl:Nat→Nat} {g:aw} {p:List Int} {nu:V} {S S1:Nat→List Item} {B n:Nat} {K:List (Nat × bK)} (h:pw H c sid mid sv mi mm cl g p nu S S1 B n K)
    {at0:Nat} (ha:at0 < n) {x:Item} (hx:¬ x∈S at0) {u':V} (ho:bf H' u' 3 ((S at0).map tg ++ [tg x])) (hl:Left H H' (sv at0) u') :
    pw (H'.set sid (.arr 1 (((List.range n).map fun j=>[sv j]).set at0 [u']))) c sid mid (fun j=>if j=at0 then u' else sv j) mi mm cl g p nu (wL S at0 x) S1 B n K:=by
  have own:∀ {id},owner (sv at0)=some id→H id=.arr 3 ((S at0).map tg):=fun hid=>((h.set at0 ha).live hid).1
  have n1:owner (sv at0)≠some sid:=fun e=>by
    have:=own e
    rw[h.gN] at this; simp at this
  have keep:∀ id,H id≠.dead→owner (sv at0)≠some id→H' id=H id∧owner u'≠some id:=hl
  have ns:=keep sid (by rw[h.gN]; simp) n1
  have keep2:∀ id,H id≠.dead→owner (sv at0)≠some id→id≠sid→(H'.set sid (.arr 1 (((List.range n).map fun j=>[sv j]).set at0 [u']))) id=H id:=fun id h1 h2 h3=>by
    simp only[View.set,if_neg h3]; exact (keep id h1 h2).1
  have no3:∀ {id o},H id=o→o≠.arr 3 ((S at0).map tg)→owner (sv at0)≠some id:=fun h1 h2 e=>h2 (by rw[← h1]; exact own e)
  refine ⟨?_,?_,?_,fun j hj=>?_,fun j hj=>?_,h.ne,fun i j o hi hj h1 h2=>?_,h.GM,fun q hq=>?_⟩
  · rw[keep2 c (by rw[h.box]; simp) (no3 h.box (by simp)) (by rintro rfl; have:=h.box; rw[h.gN] at this; simp at this)]; exact h.box
  · simp only[View.set,if_true]
    congr 1
    rw[Fx]
    apply List.map_congr_left
    intro j _
    split <;> rfl
  · rw[keep2 mid (by rw[h.seen]; simp) (no3 h.seen (by simp)) h.ne.symm]; exact h.seen
  · by_cases e:j=at0
    · subst e
      simp only[if_true,wL,if_neg hx,List.map_append,List.map_cons,List.map_nil]
      exact ho.other ns.2
    · simp only[if_neg e,wL]
      refine (h.set j hj).keep fun id hid=>?_
      have hlv:=((h.set j hj).live hid).1
      refine keep2 id (by rw[hlv]; simp) (fun e2=>e (h.yc j at0 id hj ha hid e2)) ?_
      rintro rfl; rw[h.gN] at hlv; simp at hlv
  · obtain ⟨g1,g2,g3⟩:=h.map j hj
    refine ⟨?_,g2,g3⟩
    rw[keep2 (mi j) (by rw[g1]; simp) (no3 g1 (by simp)) (by intro e; rw[e,h.gN] at g1; simp at g1)]; exact g1
  · by_cases e1:i=at0
    · by_cases e2:j=at0
      · omega
      · simp only[if_pos e1,if_neg e2] at h1 h2
        exfalso
        have hlv:=((h.set j hj).live h2).1
        exact (keep o (by rw[hlv]; simp) (fun e3=>e2 (h.yc j at0 o hj ha h2 e3))).2 h1
    · by_cases e2:j=at0
      · simp only[if_neg e1,if_pos e2] at h1 h2
        exfalso
        have hlv:=((h.set i hi).live h1).1
        exact (keep o (by rw[hlv]; simp) (fun e3=>e1 (h.yc i at0 o hi ha h1 e3))).2 h2
      · simp only[if_neg e1,if_neg e2] at h1 h2
        exact h.yc i j o hi hj h1 h2
  · obtain ⟨h1,h2,h3,h4,h5⟩:=h.off q hq
    refine ⟨?_,h2,h3,h4,fun j hj=>?_⟩
    · rw[keep2 q.1 (by rw[h1]; exact h2) (h5 at0 ha) h3]; exact h1
    · by_cases e:j=at0
      · simp only[if_pos e]; exact (keep q.1 (by rw[h1]; exact h2) (h5 at0 ha)).2
      · simp only[if_neg e]; exact h5 j hj
inductive Ca (g:aw) (p:List Int):Int→Nat→Prop
  | start:Ca g p g.start 0
  | step (R:aY) (l1 l2:List Int) (n:Int) (f a:Nat):R∈g.rules→R.right=l1 ++ (-1 - n) :: l2→Ca g p R.left f→Sp g p l1 f a→Ca g p n a
def Gn (g:aw) (p:List Int) (x:Item):Prop:=∃ R,g.rules[x.bN]?=some R∧Ca g p R.left x.jC
inductive CF (g:aw) (p:List Int):Int→Nat→Prop
  | full (R:aY) (l1 l2:List Int) (f:Nat):R∈g.rules→R.right=l1 ++ l2→Sp g p l1 f p.length→CF g p R.left f
  | deep (R:aY) (l1 l2:List Int) (s:Int) (f a:Nat):R∈g.rules→R.right=l1 ++ s :: l2→s < 0→Sp g p l1 f a→a < p.length→CF g p (-1 - s) a→CF g p R.left f
theorem Ca.len {g:aw} {p:List Int} {n:Int} {a:Nat} (h:Ca g p n a):a≤p.length:=by
  induction h with
  | start=>omega
  | step _ _ _ _ _ _ _ _ _ hs ih=>exact hs.len ih
theorem LK {l:List Int} {d:Nat} {s:Int} (h:l[d]?=some s):l=l.take d ++ s :: l.drop (d+1):=by
  have h1:=(List.getElem?_eq_some_iff.1 h)
  obtain ⟨hl,he⟩:=h1
  rw[← he]
  simp
theorem Gn.ask {g:aw} {p:List Int} {a:Nat} {x:Item} (h:Gn g p x) (hs:Sound g p a x) {R:aY} (hR:g.rules[x.bN]?=some R) {s:Int} (hd:R.right[x.dot]?=some s):Ca g p (-1 - s) a:=by
  obtain ⟨R1,h1,h2⟩:=h
  obtain ⟨R2,h3,_,_,h4⟩:=hs
  rw[hR] at h1 h3; simp at h1 h3; subst h1; subst h3
  refine .step R (R.right.take x.dot) (R.right.drop (x.dot+1)) (-1 - s) x.jC a (List.mem_of_getElem? hR) ?_ h2 h4
  rw[show -1 - (-1 - s)=s by omega]
  exact LK hd
theorem Sp.cut {g:aw} {p:List Int} {k:Nat} {l:List Int} {i j:Nat} (h:Sp g p l i j):j≤k→Sp g (p.take k) l i j:=by
  induction h with
  | nil i=>exact fun _=>.nil i
  | term s l i j h0 hf h ih =>
    intro hk
    have:=h.le
    obtain ⟨c,hc,h2⟩:=hf
    exact .term s l i j h0 ⟨c,by rw[List.getElem?_take,if_pos (by omega)]; exact hc,h2⟩ (ih hk)
  | dc s l R i m j h0 hR hl h1 h2 ih1 ih2 =>
    intro hk
    have:=h2.le
    exact .dc s l R i m j h0 hR hl (ih1 (by omega)) (ih2 hk)
def Grow (a:Nat) (S S':Nat→List Item):Prop:=∀ b,S b <+: S' b∧(b < a→S' b=S b)
structure Good (g:aw) (p:List Int) (S:Nat→List Item):Prop where
  nodup:∀ a,(S a).Nodup
  sound:∀ a x,x∈S a→Sound g p a x
  top:∀ a x,x∈S a→Gn g p x
  out:∀ a,p.length < a→S a=[]
theorem Grow.refl (a:Nat) (S:Nat→List Item):Grow a S S:=fun _=>⟨List.prefix_refl _,fun _=>rfl⟩
theorem Grow.trans {a:Nat} {S S' S'':Nat→List Item} (h:Grow a S S') (h':Grow a S' S''):Grow a S S'':=fun b=>⟨(h b).1.trans (h' b).1,fun hb=>((h' b).2 hb).trans ((h b).2 hb)⟩
theorem Grow.mem {a b:Nat} {S S':Nat→List Item} (h:Grow a S S') {x:Item} (hx:x∈S b):x∈S' b:=(h b).1.subset hx
theorem Good.put {g:aw} {p:List Int} {S:Nat→List Item} (h:Good g p S) {a:Nat} {x:Item} (hx:Sound g p a x) (ht:Gn g p x) (ha:a≤p.length):Good g p (wL S a x):=by
  refine ⟨fun b=>?_,fun b y hy=>?_,fun b y hy=>?_,fun b hb=>?_⟩
  · unfold wL
    split
    · rename_i e
      subst e
      split
      · exact h.nodup _
      · rename_i hn
        rw[List.nodup_append]
        refine ⟨h.nodup _,by simp,fun u hu v hv=>?_⟩
        simp at hv
        rintro rfl
        exact hn (hv ▸ hu)
    · exact h.nodup _
  · unfold wL at hy
    split at hy
    · rename_i e
      subst e
      split at hy
      · exact h.sound _ _ hy
      · rcases List.mem_append.1 hy with hy | hy
        · exact h.sound _ _ hy
        · simp at hy; subst hy; exact hx
    · exact h.sound _ _ hy
  · unfold wL at hy
    split at hy
    · rename_i e
      subst e
      split at hy
      · exact h.top _ _ hy
      · rcases List.mem_append.1 hy with hy | hy
        · exact h.top _ _ hy
        · simp at hy; subst hy; exact ht
    · exact h.top _ _ hy
  · unfold wL
    rw[if_neg (by omega)]
    exact h.out b hb
theorem qZ:∀ (N:Nat) (l:List Nat),l.Nodup→(∀ x∈l,x < N)→l.length≤N
  | 0,l,_,h=>by
    cases l with
    | nil=>simp
    | cons x l=>exact absurd (h x (by simp)) (by omega)
  | N+1,l,hd,h=>by
    by_cases e:N∈l
    · have h1:=qZ N (l.erase N) (hd.erase N) fun x hx=>by
        have h2:=(hd.mem_erase_iff).1 hx
        have:=h x h2.2
        have:=h2.1
        omega
      rw[List.length_erase_of_mem e] at h1
      omega
    · have:=qZ N l hd fun x hx=>by
        have:=h x hx
        have:x≠N:=by rintro rfl; exact e hx
        omega
      omega
theorem Bi {α:Type} {f:α→Nat} : ∀ {l:List α},l.Nodup→(∀ x∈l,∀ y∈l,f x=f y→x=y)→(l.map f).Nodup
  | [],_,_=>by simp
  | x :: l,hd,h=>by
    rw[List.nodup_cons] at hd
    rw[List.map_cons,List.nodup_cons]
    refine ⟨fun hm=>?_,Bi hd.2 fun a ha b hb=>h a (by simp[ha]) b (by simp[hb])⟩
    obtain ⟨y,hy,e⟩:=List.mem_map.1 hm
    have:=h y (by simp[hy]) x (by simp) e
    exact hd.1 (this ▸ hy)
theorem Sound.small {g:aw} (hf:g.rh) {p:List Int} {a:Nat} {x:Item} (h:Sound g p a x):x.bN < 40∧x.dot < 7∧x.jC≤a:=by
  obtain ⟨R,hR,hd,hfr,_⟩:=h
  have h1:=(List.getElem?_eq_some_iff.1 hR).1
  have h2:=hf.rules
  have h3:=hf.right R (List.mem_of_getElem? hR)
  omega
theorem Good.len {g:aw} (hf:g.rh) {p:List Int} (hp:p.length≤60) {S:Nat→List Item} (h:Good g p S) (a:Nat):(S a).length≤17080:=by
  by_cases ha:p.length < a
  · rw[h.out a ha]; simp
  · have hb:∀ x∈S a,x.bN < 40∧x.dot < 7∧x.jC < 61:=fun x hx=>by
      have:=(h.sound a x hx).small hf
      omega
    have:=qZ 17080 ((S a).map fun x=>x.bN * 427+x.dot * 61+x.jC) (Bi (h.nodup a) fun x hx y hy e=>by
      have h1:=hb x hx
      have h2:=hb y hy
      cases x; cases y
      simp only at e h1 h2
      simp only[Item.mk.injEq]
      omega) (fun v hv=>by
      obtain ⟨x,hx,rfl⟩:=List.mem_map.1 hv
      have:=hb x hx
      omega)
    simpa using this
theorem Ch.box {H:View} {c:Nat} {g:aw} {p:List Int} {nu:V} {S:Nat→List Item} {B n:Nat} {K:List (Nat × bK)} (h:Ch H c g p nu S B n K) :
    ∃ sid mid,H c=.arr 8 [[.aM (g.ay.map cY),encS g.ax,.aM (g.rules.map bt),gi g.start,encI p,nu,.sl sid 0 n 1,.sl mid 0 n 1]]:=by
  obtain ⟨sid,mid,sv,mi,mm,cl,h⟩:=h
  exact ⟨sid,mid,h.box⟩
theorem Ch.set {H:View} {c:Nat} {g:aw} {p:List Int} {nu:V} {S:Nat→List Item} {B n:Nat} {K:List (Nat × bK)} (h:Ch H c g p nu S B n K) {a:Nat} (ha:a < n) :
    ∃ (sid mid:Nat) (sv:Nat→V),H c=.arr 8 [[.aM (g.ay.map cY),encS g.ax,.aM (g.rules.map bt),gi g.start,encI p,nu,.sl sid 0 n 1,.sl mid 0 n 1]]∧H sid=.arr 1 ((List.range n).map fun j=>[sv j])∧bf H (sv a) 3 ((S a).map tg):=by
  obtain ⟨sid,mid,sv,mi,mm,cl,h⟩:=h
  exact ⟨sid,mid,sv,h.box,h.gN,h.set a ha⟩
def NY (g:aw) (dc:Int) (S:Nat→List Item) (at_:Nat) (x:Item):Prop:=∀ R,g.rules[x.bN]?=some R→R.right[x.dot]?=some (-1 - dc)→(⟨x.bN,x.dot+1,x.jC⟩:Item)∈S at_
theorem Sound.on {g:aw} {p:List Int} {f a:Nat} {x:Item} (h:Sound g p f x) {R:aY} (hR:g.rules[x.bN]?=some R) {s:Int} (hs:R.right[x.dot]?=some s) (hsp:Sp g p [s] f a):Sound g p a ⟨x.bN,x.dot+1,x.jC⟩:=by
  obtain ⟨R',hR',h1,h2,h3⟩:=h
  rw[hR] at hR'; simp at hR'; subst hR'
  have hlt:=(List.getElem?_eq_some_iff.1 hs).1
  refine ⟨R,hR,hlt,Nat.le_trans h2 hsp.le,?_⟩
  have:R.right.take (x.dot+1)=R.right.take x.dot ++ [s]:=by rw[List.take_add_one,hs]; rfl
  rw[this]
  exact h3.app hsp
structure J3 (g:aw) (p:List Int) (S:Nat→List Item) (a:Nat) (x:Item):Prop where
  term:∀ R s,g.rules[x.bN]?=some R→R.right[x.dot]?=some s→0≤s→mQ p a s→(⟨x.bN,x.dot+1,x.jC⟩:Item)∈S (a+1)
  pred:∀ R s i R',g.rules[x.bN]?=some R→R.right[x.dot]?=some s→s < 0→g.rules[i]?=some R'→R'.left = -1 - s→(⟨i,0,a⟩:Item)∈S a
  null:∀ R s,g.rules[x.bN]?=some R→R.right[x.dot]?=some s→s < 0→(aT g false).getD (-1 - s).toNat false=true→(⟨x.bN,x.dot+1,x.jC⟩:Item)∈S a
  comp:∀ R,g.rules[x.bN]?=some R→x.dot=R.right.length→x.jC < a→∀ y∈S x.jC,NY g R.left S a y
theorem J3.grow {g:aw} {p:List Int} {S S':Nat→List Item} {a:Nat} {x:Item} (h:J3 g p S a x) (hg:Grow a S S'):J3 g p S' a x where
  term:=fun R s h1 h2 h3 h4=>hg.mem (h.term R s h1 h2 h3 h4)
  pred:=fun R s i R' h1 h2 h3 h4 h5=>hg.mem (h.pred R s i R' h1 h2 h3 h4 h5)
  null:=fun R s h1 h2 h3 h4=>hg.mem (h.null R s h1 h2 h3 h4)
  comp:=fun R h1 h2 h3 y hy R' h4 h5=>hg.mem (h.comp R h1 h2 h3 y (by rw[(hg x.jC).2 h3] at hy; exact hy) R' h4 h5)
structure s6 (H:View) (c sid:Nat) (u:V) (mi:Nat→Nat) (g:aw) (p:List Int) (nu:V) (n k:Nat):Prop where
  box:H c=.arr 8 [[.aM (g.ay.map cY),encS g.ax,.aM (g.rules.map bt),gi g.start,encI p,nu,.sl sid 0 n 1,u]]
  gN:H sid=.arr 1 ((List.range n).map fun _=>[.emp 1])
  seen:bf H u 1 ((List.range k).map fun j=>[.mp (mi j)])
  map:∀ j,j < k→H (mi j)=.map [] 0
  inj:∀ i j,i < k→j < k→mi i=mi j→i=j
theorem s6.Mw {H:View} {c sid:Nat} {u:V} {mi:Nat→Nat} {g:aw} {p:List Int} {nu:V} {n k:Nat} (h:s6 H c sid u mi g p nu n k) (hn:0 < n):owner u≠some sid:=fun e=>by
  have h1:=(h.seen.live e).1
  rw[h.gN] at h1
  simp only[bK.arr.injEq,true_and] at h1
  have h2:=congrArg (·[0]?) h1
  simp[hn] at h2
  by_cases hk:0 < k
  · simp[hk] at h2
  · have:k=0:=by omega
    subst this
    simp at h2
theorem s6.NP {H:View} {c sid:Nat} {u:V} {mi:Nat→Nat} {g:aw} {p:List Int} {nu:V} {n k:Nat} (h:s6 H c sid u mi g p nu n k):owner u≠some c:=fun e=>by
  have h1:=(h.seen.live e).1
  rw[h.box] at h1
  simp at h1
theorem s6.Ob {H:View} {c sid:Nat} {u:V} {mi:Nat→Nat} {g:aw} {p:List Int} {nu:V} {n:Nat} (h:s6 H c sid u mi g p nu n n) (hn:0 < n):Ch H c g p nu (fun _=>[]) 0 n []:=by
  obtain ⟨mid,hu,hm⟩:=h.seen.sl (by simp; omega)
  have hoff:=h.Mw hn
  refine ⟨sid,mid,fun _=>.emp 1,mi,fun _=>[],fun _=>0,?_,h.gN,hm,fun j hj=>bf.nil,fun j hj=>⟨h.map j hj,?_,fun x=>⟨fun hx=>by simp at hx,fun _=>rfl⟩⟩,?_,fun i j o _ _ h1=>by simp[owner] at h1,fun i j hi hj e=>h.inj i j hi hj e,fun q hq=>by simp at hq⟩
  · have:=h.box
    rw[hu] at this
    simpa using this
  · exact ⟨by simp,fun x hx=>by simp at hx⟩
  · rintro rfl
    rw[hu] at hoff
    exact hoff rfl
theorem s6.next {H H2:View} {c sid m:Nat} {u u':V} {mi:Nat→Nat} {g:aw} {p:List Int} {nu:V} {n k:Nat} (h:s6 H c sid u mi g p nu n k) (hn:0 < n) (hm:H m=.dead) (ho:bf H2 u' 1 (((List.range k).map fun j=>[.mp (mi j)]) ++ [[.mp m]])) (hm2:H2 m=.map [] 0)
    (hl:∀ id,H id≠.dead→owner u≠some id→H2 id=H id∧owner u'≠some id) :
    s6 (H2.set c (.arr 8 [[.aM (g.ay.map cY),encS g.ax,.aM (g.rules.map bt),gi g.start,encI p,nu,.sl sid 0 n 1,u']])) c sid u' (fun j=>if j=k then m else mi j) g p nu n (k+1):=by
  have hC:=hl c (by rw[h.box]; simp) h.NP
  have hS:=hl sid (by rw[h.gN]; simp) (h.Mw hn)
  have hcs:sid≠c:=by rintro rfl; have:=h.box; rw[h.gN] at this; simp at this
  have hmn:∀ j,j < k→mi j≠m:=fun j hj e=>by have:=h.map j hj; rw[e,hm] at this; simp at this
  refine ⟨by simp[View.set],?_,?_,fun j hj=>?_,fun i j hi hj e=>?_⟩
  · simp only[View.set,if_neg hcs]
    rw[hS.1]; exact h.gN
  · refine bf.other ?_ hC.2
    have:(List.range (k+1)).map (fun j=>[V.mp (if j=k then m else mi j)])=(List.range k).map (fun j=>[V.mp (mi j)]) ++ [[.mp m]]:=by
      rw[List.range_succ,List.map_append,List.map_cons,List.map_nil,if_pos rfl]
      congr 1
      apply List.map_congr_left
      intro j hj
      rw[if_neg (by have:=List.mem_range.1 hj; omega)]
    rw[this]; exact ho
  · by_cases e:j=k
    · simp only[if_pos e]
      have:m≠c:=by rintro rfl; rw[h.box] at hm; simp at hm
      simp only[View.set,if_neg this]
      exact hm2
    · simp only[if_neg e]
      have h1:=h.map j (by omega)
      have:mi j≠c:=by intro e2; rw[e2,h.box] at h1; simp at h1
      simp only[View.set,if_neg this]
      rw[(hl (mi j) (by rw[h1]; simp) (fun e2=>by have:=(h.seen.live e2).1; rw[h1] at this; simp at this)).1]
      exact h1
  · by_cases e1:i=k
    · by_cases e2:j=k
      · omega
      · simp only[if_pos e1,if_neg e2] at e
        exact absurd e.symm (hmn j (by omega))
    · by_cases e2:j=k
      · simp only[if_neg e1,if_pos e2] at e
        exact absurd e (hmn i (by omega))
      · simp only[if_neg e1,if_neg e2] at e
        exact h.inj i j (by omega) (by omega) e
def Kept (H H':View):Prop:=∀ id,H id≠.dead→H' id=H id
theorem Kept.refl (H:View):Kept H H:=fun _ _=>rfl
theorem Kept.trans {H H' H'':View} (h:Kept H H') (h':Kept H' H''):Kept H H'':=fun id hid=>by
  have h1:=h id hid
  rw[← h1] at hid
  rw[h' id hid,h1]
theorem Kept.new {H:View} {b:Nat} {o:bK} (hb:H b=.dead):Kept H (H.set b o):=fun id hid=>by
  have:id≠b:=by rintro rfl; exact hid hb
  simp[View.set,this]
def KG (H:View) (c:Nat) (g:aw) (p:List Int):Prop:=∃ nu sid mid n,H c=.arr 8 [[.aM (g.ay.map cY),encS g.ax,.aM (g.rules.map bt),gi g.start,encI p,nu,.sl sid 0 n 1,.sl mid 0 n 1]]
theorem KG.keep {H H':View} {c:Nat} {g:aw} {p:List Int} (h:KG H c g p) (hs:Kept H H'):KG H' c g p:=by
  obtain ⟨nu,sid,mid,n,h⟩:=h
  exact ⟨nu,sid,mid,n,by rw[hs c (by rw[h]; simp)]; exact h⟩
abbrev Pt:=List (List Bool)
def D1 (P:Pt) (N M:Nat):Prop:=P.length=N∧∀ r∈P,r.length=M
def Ny (P:Pt):V:=.aM (P.map fun c=>[cO c])
theorem D1.row {P:Pt} {N M n:Nat} (h:D1 P N M) (hn:n < N):∃ r,P[n]?=some r∧r.length=M∧P.getD n []=r:=by
  have hl:n < P.length:=by rw[h.1]; exact hn
  exact ⟨P[n],List.getElem?_eq_getElem hl,h.2 _ (List.getElem_mem hl),by simp[List.getD_eq_getElem?_getD,hl]⟩
structure kH (H:View) (I N M:Nat) (R:Nat→Nat) (P:Pt):Prop where
  top:H I=.arr 1 ((List.range N).map fun n=>[.sl (R n) 0 M 1])
  row:∀ n,n < N→H (R n)=.arr 1 (ef (P.getD n []))
  inj:∀ n n',n < N→n' < N→R n=R n'→n=n'
structure Cy (H:View) (I N M k:Nat) (R:Nat→Nat):Prop where
  top:H I=.arr 1 ((List.range N).map fun n=>[if n < k then .sl (R n) 0 M 1 else .emp 1])
  row:∀ n,n < k→H (R n)=.arr 1 (List.replicate M [gb false])
  inj:∀ n n',n < k→n' < k→R n=R n'→n=n'
def Mk (N M:Nat):Pt:=List.replicate N (List.replicate M false)
def GH (P:Pt) (n i:Nat):Pt:=P.set n ((P.getD n []).set i true)
theorem kH.N2 {H:View} {I N M:Nat} {R:Nat→Nat} {P:Pt} (h:kH H I N M R P) (hP:D1 P N M) (hM:0 < M) {n:Nat} (hn:n < N):I≠R n:=fun e=>by
  have h1:=h.row n hn
  obtain ⟨r,_,h2,h3⟩:=hP.row hn
  rw[← e,h.top,h3] at h1
  simp only[bK.arr.injEq,true_and] at h1
  exact ye (by omega) h1.symm fun _ _=>by simp
theorem kH.keep {H H':View} {I N M:Nat} {R:Nat→Nat} {P:Pt} (h:kH H I N M R P) (hk:∀ id,H id≠.dead→H' id=H id):kH H' I N M R P :=
  ⟨by rw[hk _ (by rw[h.top]; simp)]; exact h.top,fun n hn=>by rw[hk _ (by rw[h.row n hn]; simp)]; exact h.row n hn,h.inj⟩
theorem kH.put {H:View} {I N M:Nat} {R:Nat→Nat} {P:Pt} (h:kH H I N M R P) (hP:D1 P N M) {n i:Nat} (hn:n < N) (hi:i < M) :
    kH (H.set (R n) (.arr 1 (ef ((P.getD n []).set i true)))) I N M R (GH P n i):=by
  have hI:=h.N2 hP (by omega) hn
  have hnl:n < P.length:=by rw[hP.1]; exact hn
  refine ⟨by simp only[View.set,if_neg hI]; exact h.top,fun m hm=>?_,h.inj⟩
  by_cases e:R m=R n
  · have:=h.inj m n hm hn e
    subst this
    simp only[View.set,if_true]
    congr 2
    simp[GH,List.getD_eq_getElem?_getD,hnl]
  · simp only[View.set,if_neg e]
    rw[h.row m hm]
    congr 2
    have:n≠m:=fun e2=>e (by rw[e2])
    simp[GH,List.getD_eq_getElem?_getD,this]
theorem kH.Gw {H:View} {I N M:Nat} {R:Nat→Nat} {P:Pt} (hG:kH H I N M R P) (hP:D1 P N M):cZ H (.sl I 0 N 1) (Ny P):=by
  rintro h rfl
  refine dh.Mz ?_
  refine .sl I 0 N 1 1 _ _ hG.top (by simp) (by simp[hP.1]) (fun n hn=>?_) (fun n j hn hj=>?_)
  · obtain ⟨r,hr,_⟩:=hP.row hn
    simp[List.getD_eq_getElem?_getD,hr,hn]
  · obtain ⟨r,hr,hrl,hrg⟩:=hP.row hn
    have e1:((P.map fun c=>[cO c]).getD n [])=[cO r]:=by simp[List.getD_eq_getElem?_getD,hr]
    have e2:(((List.range N).map fun n=>[V.sl (R n) 0 M 1]).getD (0+n) [])=[V.sl (R n) 0 M 1]:=by simp[List.getD_eq_getElem?_getD,hn]
    rw[e1] at hj ⊢
    rw[e2]
    have:j=0:=by simp at hj; omega
    subst this
    simp only[List.getD_cons_zero]
    have hro:=hG.row n hn
    rw[hrg] at hro
    have:=pX (h:=h) (id:=R n) (is:=r) hro
    rwa [hrl] at this
theorem Cy.done {H:View} {I N M:Nat} {R:Nat→Nat} (h:Cy H I N M N R):kH H I N M R (Mk N M):=by
  refine ⟨?_,fun n hn=>?_,h.inj⟩
  · rw[h.top]
    congr 1
    apply List.map_congr_left
    intro n hn
    rw[if_pos (by simpa using hn)]
  · rw[h.row n hn]
    simp[Mk,List.getD_eq_getElem?_getD,hn]
theorem Cy.next {H:View} {I N M k:Nat} {R:Nat→Nat} {r:Nat} (h:Cy H I N M k R) (hk:k < N) (hr:H r=.dead) :
    Cy ((H.set r (.arr 1 (List.replicate M [gb false]))).set I (.arr 1 ((List.range N).map fun n=>[if n < k+1 then .sl (if n=k then r else R n) 0 M 1 else .emp 1]))) I N M (k+1) (fun n=>if n=k then r else R n):=by
  have hI:r≠I:=by rintro rfl; rw[h.top] at hr; simp at hr
  have hRI:∀ n,n < k→R n≠I:=fun n hn e=>by
    have h1:=h.row n hn
    rw[e,h.top] at h1
    simp only[bK.arr.injEq,true_and] at h1
    have h2:=congrArg (·[0]?) h1
    simp only[List.getElem?_map,List.getElem?_range (show 0 < N by omega),List.getElem?_replicate] at h2
    split at h2 <;> simp at h2
    split at h2 <;> simp at h2
  have hRr:∀ n,n < k→R n≠r:=fun n hn e=>by have:=h.row n hn; rw[e,hr] at this; simp at this
  refine ⟨by simp[View.set],fun n hn=>?_,fun n n' hn hn' e=>?_⟩
  · by_cases e:n=k
    · simp only[if_pos e,View.set,if_neg hI,if_true]
    · simp only[if_neg e,View.set,if_neg (hRI n (by omega)),if_neg (hRr n (by omega))]
      exact h.row n (by omega)
  · by_cases e1:n=k
    · by_cases e2:n'=k
      · omega
      · simp only[if_pos e1,if_neg e2] at e
        exact absurd e.symm (hRr n' (by omega))
    · by_cases e2:n'=k
      · simp only[if_neg e1,if_pos e2] at e
        exact absurd e (hRr n (by omega))
      · simp only[if_neg e1,if_neg e2] at e
        exact h.inj n n' (by omega) (by omega) e
def K7:List Int:=[37,37,32,115,32,58,32,39,97,39,32,115,32,124,32,59]
def cG:aw:=⟨[⟨⟨#[39,97,39]⟩,0,0⟩],[⟨#[115]⟩],[⟨0,[0,(-1)],0⟩,⟨0,[],(-1)⟩],0⟩
def KR:aw:=⟨[⟨⟨#[39,97,39]⟩,0,0⟩,⟨⟨#[39,98,39]⟩,0,0⟩],[⟨#[115]⟩,⟨#[110]⟩],[⟨0,[(-1),(-1)],(-1)⟩,⟨0,[(-2),0,(-2),1],1⟩,⟨0,[],(-1)⟩,⟨1,[(-2)],(-1)⟩,⟨1,[],(-1)⟩],0⟩
theorem Nx:b6 Tryz.prog 41 [tR K7] (jD cG):=zX (by kernel_rfl)
section
variable {g:aw} {p:List Int} {T:Tb} {N:Nat}
end
theorem n6 (p:List Int) (i:Nat):Sp KR p [-2] i i:=.dc (-2) [] ⟨1,[],-1⟩ i i i (by decide) (by simp[KR]) (by decide) (.nil i) (.nil i)
theorem cZ.NM {H:View} {u:V} {l:List Int} (h:bf H u 1 (bp l)):cZ H u (encI l):=cZ.own h fun e he v hv=>by
  obtain ⟨x,_,rfl⟩:=List.mem_map.1 he
  simp at hv; subst hv; exact .val _
theorem LA {g:aw} (hr:br g=true) {p l:List Int} {i j:Nat} (h:Sp g p l i j):dC l (aT g true) true=true:=by
  induction h with
  | nil=>rfl
  | term s l i j h0 _ _ ih =>
    simp only[dC,List.all_cons,Bool.and_eq_true] at ih ⊢
    rw[if_pos h0]
    exact ⟨rfl,ih⟩
  | dc s l R i k j h0 hR hl _ _ ih1 ih2 =>
    have g1:=pB hr hR ih1
    rw[hl] at g1
    simp only[dC,List.all_cons,Bool.and_eq_true] at ih2 ⊢
    rw[if_neg (by omega)]
    exact ⟨g1,ih2⟩
section
variable {g r:aw} {p q:List Bool} {o:List Int}
theorem dk.sp (h:dk g p q o r) {w l:List Int} {i j:Nat} (hs:Sp g w l i j):(∀ s∈l,s < 0→-1 - s∈o)→Sp r w (l.map fun s=>if s < 0 then -1 - bd o (-1 - s) else s) i j:=by
  induction hs with
  | nil=>exact fun _=>.nil _
  | term s l i j h0 hf _ ih =>
    intro hl
    rw[List.map_cons,if_neg (by omega)]
    exact .term s _ i j h0 hf (ih fun s hs=>hl s (by simp[hs]))
  | dc s l R i k j h0 hR hle h1 _ ih1 ih2 =>
    intro hl
    have hso:=hl s (by simp) h0
    obtain ⟨R1,hR1,hk1,e1⟩:=h.from_ _ hso
    have hk:bI p q R=true:=by
      rw[bI,Bool.and_eq_true] at hk1 ⊢
      refine ⟨by rw[hle,← e1]; exact hk1.1,?_⟩
      rw[h.pe]
      exact LA h.right h1
    have hin:=(h.kept R hR hk).2
    have hm:bu (bd o) R∈r.rules:=by rw[h.rules]; exact List.mem_map.2 ⟨R,List.mem_filter.2 ⟨hR,hk⟩,rfl⟩
    have hb:=jz hso
    rw[List.map_cons,if_pos h0]
    exact .dc _ _ (bu (bd o) R) i k j (by omega) hm (by simp only[bu]; rw[hle]; omega) (ih1 hin) (ih2 fun s hs=>hl s (by simp[hs]))
end
theorem IN {g:aw} {p:List Int} {k:Nat} (hk:k≤p.length) {l:List Int} {i j:Nat} (h:Sp g p l i j):i≤k→k≤j →
    (∃ l1 l2,l=l1 ++ l2∧Sp g (p.take k) l1 i k)∨(∃ l1 s l2 a,l=l1 ++ s :: l2∧s < 0∧Sp g (p.take k) l1 i a∧a < k∧CF g (p.take k) (-1 - s) a):=by
  induction h with
  | nil i =>
    intro h1 h2
    have:i=k:=by omega
    subst this
    exact .inl ⟨[],[],rfl,.nil _⟩
  | term s l i j h0 hf hs ih =>
    intro h1 h2
    by_cases e:i=k
    · subst e; exact .inl ⟨[],s :: l,rfl,.nil _⟩
    · have hf':mQ (p.take k) i s:=by
        obtain ⟨c,hc,h3⟩:=hf
        exact ⟨c,by rw[List.getElem?_take,if_pos (by omega)]; exact hc,h3⟩
      rcases ih (by omega) h2 with ⟨l1,l2,e2,h3⟩ | ⟨l1,s',l2,a,e2,h3,h4,h5,h6⟩
      · exact .inl ⟨s :: l1,l2,by rw[e2]; rfl,.term s l1 i k h0 hf' h3⟩
      · exact .inr ⟨s :: l1,s',l2,a,by rw[e2]; rfl,h3,.term s l1 i a h0 hf' h4,h5,h6⟩
  | dc s l R i m j h0 hR hl hs1 hs2 ih1 ih2 =>
    intro h1 h2
    by_cases e:i=k
    · subst e; exact .inl ⟨[],s :: l,rfl,.nil _⟩
    · by_cases hm:m≤k
      · have c1:=hs1.cut (k:=k) hm
        rcases ih2 hm h2 with ⟨l1,l2,e2,h3⟩ | ⟨l1,s',l2,a,e2,h3,h4,h5,h6⟩
        · exact .inl ⟨s :: l1,l2,by rw[e2]; rfl,.dc s l1 R i m k h0 hR hl c1 h3⟩
        · exact .inr ⟨s :: l1,s',l2,a,by rw[e2]; rfl,h3,.dc s l1 R i m a h0 hR hl c1 h4,h5,h6⟩
      · have hlen:(p.take k).length=k:=by simp; omega
        refine .inr ⟨[],s,l,i,rfl,h0,.nil _,by omega,?_⟩
        rw[← hl]
        rcases ih1 h1 (by omega) with ⟨l1,l2,e2,h3⟩ | ⟨l1,s',l2,a,e2,h3,h4,h5,h6⟩
        · exact .full R l1 l2 i hR e2 (by rw[hlen]; exact h3)
        · exact .deep R l1 l2 s' i a hR e2 h3 h4 (by rw[hlen]; exact h5) h6
theorem CF.cut {g:aw} {p:List Int} {k:Nat} (hk:k≤p.length) {n:Int} {f:Nat} (h:CF g p n f):f≤k→CF g (p.take k) n f:=by
  have hlen:(p.take k).length=k:=by simp; omega
  induction h with
  | full R l1 l2 f hR e hs =>
    intro hf
    rcases IN hk hs hf hk with ⟨a1,a2,e2,h3⟩ | ⟨a1,s',a2,a,e2,h3,h4,h5,h6⟩
    · exact .full R a1 (a2 ++ l2) f hR (by rw[e,e2]; simp) (by rw[hlen]; exact h3)
    · exact .deep R a1 (a2 ++ l2) s' f a hR (by rw[e,e2]; simp) h3 h4 (by rw[hlen]; exact h5) h6
  | deep R l1 l2 s f a hR e h0 h1 h2 _ ih =>
    intro hf
    by_cases ha:a < k
    · exact .deep R l1 l2 s f a hR e h0 (h1.cut (by omega)) (by rw[hlen]; exact ha) (ih (by omega))
    · rcases IN hk h1 hf (by omega) with ⟨a1,a2,e2,h3⟩ | ⟨a1,s',a2,b,e2,h3,h4,h5,h6⟩
      · exact .full R a1 (a2 ++ s :: l2) f hR (by rw[e,e2]; simp) (by rw[hlen]; exact h3)
      · exact .deep R a1 (a2 ++ s :: l2) s' f b hR (by rw[e,e2]; simp) h3 h4 (by rw[hlen]; exact h5) h6
theorem Sp.wide {g:aw} {p p':List Int} (hp:∀ i s,mQ p i s→mQ p' i s) {l:List Int} {i j:Nat} (h:Sp g p l i j):Sp g p' l i j:=by
  induction h with
  | nil i=>exact .nil i
  | term s l i j h0 hf _ ih=>exact .term s l i j h0 (hp _ _ hf) ih
  | dc s l R i k j h0 hR hl _ _ ih1 ih2=>exact .dc s l R i k j h0 hR hl ih1 ih2
section
variable {fit:List Int→Bool} {T b:Nat}
end
def Ni (l:List (List Int)):V:=.aM (l.map fun w=>[encI w])
abbrev KX:=List (V × List Int)
def l7 (b:KX):List (List V):=b.map fun x=>[x.1]
def iJ (H:View) (u:V) (out:List (List Int)):Prop:=∃ b:KX,b.map (·.2)=out∧bf H u 1 (l7 b)∧∀ x∈b,bf H x.1 1 (bp x.2)
theorem iJ.nil {H:View} {k:Nat} : iJ H (.emp k) []:=⟨[],rfl,.nil,by simp⟩
theorem iJ.len {H:View} {u:V} {out:List (List Int)} (h:iJ H u out):dq u=some out.length:=by
  obtain ⟨b,rfl,ho,_⟩:=h
  rw[ho.len]; simp[l7]
theorem iJ.cells {H:View} {u:V} {out:List (List Int)} (h:iJ H u out):V.cells u=[u]∧aU u=true:=by
  obtain ⟨b,_,ho,_⟩:=h
  exact ⟨ho.cells,ho.uR⟩
theorem Md {H:View} {u:V} {b:KX} (ho:bf H u 1 (l7 b)) (hb:∀ x∈b,bf H x.1 1 (bp x.2)) {x:V × List Int} (hx:x∈b) {id:Nat} (hid:owner x.1=some id):owner u≠some id:=by
  intro e
  have h1:=(ho.live e).1
  have h2:=((hb x hx).live hid).1
  rw[h2] at h1
  simp only[bK.arr.injEq,true_and] at h1
  cases b with
  | nil=>simp at hx
  | cons y r =>
    have h3:=hb y (by simp)
    cases hw:x.2 with
    | nil=>rw[hw] at h1; simp[l7] at h1
    | cons c w =>
      rw[hw] at h1
      simp only[l7,List.map_cons,List.cons.injEq] at h1
      rcases h3 with ⟨_,k,e2⟩ | ⟨n,e2,_⟩
      · rw[e2] at h1; simp at h1
      · rw[e2] at h1; simp at h1
theorem iJ.keep {H H':View} {u:V} {out:List (List Int)} (h:iJ H u out) (hk:∀ id,H id≠.dead→H' id=H id):iJ H' u out:=by
  obtain ⟨b,e,ho,hb⟩:=h
  exact ⟨b,e,ho.keep fun id hid=>hk id (by rw[(ho.live hid).1]; simp),fun x hx=>(hb x hx).keep fun id hid=>hk id (by rw[((hb x hx).live hid).1]; simp)⟩
theorem iJ.add {H H':View} {u u' v:V} {b:KX} {w:List Int} (ho:bf H u 1 (l7 b)) (hb:∀ x∈b,bf H x.1 1 (bp x.2)) (hv:bf H v 1 (bp w)) (hd:∀ id,owner v=some id→owner u≠some id)
    (h1:bf H' u' 1 (l7 b ++ [[v]])) (h2:Left H H' u u'):iJ H' u' (b.map (·.2) ++ [w]):=by
  refine ⟨b ++ [(v,w)],by simp,by simpa [l7] using h1,fun x hx=>?_⟩
  rcases List.mem_append.1 hx with hx | hx
  · exact (hb x hx).left h2 fun id hid=>Md ho hb hx hid
  · simp at hx; subst hx
    exact hv.left h2 hd
theorem iJ.NF {h:aE} {u:V} {out:List (List Int)} (ho:iJ h.view u out):dh h u (Ni out):=by
  obtain ⟨b,rfl,ho,hb⟩:=ho
  have hg:∀ i (hi:i < b.length),(l7 b).getD i []=[(b[i]).1]∧(((b.map (·.2)).map fun w=>[encI w]).getD i [])=[encI (b[i]).2]:=fun i hi=>by
    simp[l7,List.getD_eq_getElem?_getD,hi]
  refine dh.own ho (by simp[l7]) (fun i hi=>?_) (fun i j hi hj=>?_)
  · have hi':i < b.length:=by simpa [l7] using hi
    rw[(hg i hi').1,(hg i hi').2]; rfl
  · have hi':i < b.length:=by simpa [l7] using hi
    rw[(hg i hi').2] at hj ⊢
    rw[(hg i hi').1]
    have:j=0:=by simp at hj; omega
    subst this
    simp only[List.getD_cons_zero]
    exact dh.KI (hb _ (List.getElem_mem hi'))
def GV (H:View) (v:V) (p:List Int):Prop:=v=encI p∨(p≠[]∧∃ n,v=.sl n 0 p.length 1∧H n=.arr 1 (bp p))
theorem GV.Gw {H:View} {v:V} {p:List Int} (h:GV H v p):cZ H v (encI p):=by
  rcases h with rfl | ⟨_,n,rfl,hn⟩
  · exact .tree (ej p)
  · exact zA hn rfl
theorem GV.len {H:View} {v:V} {p:List Int} (h:GV H v p):dq v=some p.length:=by
  rcases h with rfl | ⟨_,n,rfl,hn⟩
  · simp[encI,dq]
  · rfl
def pV (H H':View) (f:Nat) (u u':V):Prop:=∀ id,H id≠.dead→id≠f→owner u≠some id→H' id=H id∧owner u'≠some id
theorem pV.refl {H:View} {f:Nat} {u:V} : pV H H f u u:=fun _ _ _ h=>⟨rfl,h⟩
theorem pV.trans {H H1 H2:View} {f:Nat} {u u1 u2:V} (h1:pV H H1 f u u1) (h2:pV H1 H2 f u1 u2):pV H H2 f u u2:=fun id hd hf hu=>by
  obtain ⟨a,b⟩:=h1 id hd hf hu
  obtain ⟨c,d⟩:=h2 id (by rw[a]; exact hd) hf b
  exact ⟨c.trans a,d⟩
theorem pV.kept {H H':View} {f:Nat} {u:V} (h:∀ id,H id≠.dead→H' id=H id):pV H H' f u u:=fun id hd _ hu=>⟨h id hd,hu⟩
theorem ic {H:View} {u:V} {sz f z:Nat} {es:List (List V)} {e:List (List V)} (ho:bf H u sz es) (hf:H f=.arr z e) (hz:sz≠z):owner u≠some f:=fun e2=>by
  have:=(ho.live e2).1
  rw[hf] at this
  simp only[bK.arr.injEq] at this
  exact hz this.1.symm
theorem iJ.box {H:View} {u:V} {out:List (List Int)} {f:Nat} {e:List (List V)} {o:bK} (h:iJ H u out) (hf:H f=.arr 6 e):iJ (H.set f o) u out:=by
  obtain ⟨b,e1,ho,hb⟩:=h
  exact ⟨b,e1,ho.other (ic ho hf (by decide)),fun x hx=>(hb x hx).other (ic (hb x hx) hf (by decide))⟩
section
variable {P:Program} {T:Env} {H:View} {K:V→View→Prop} {w:b9 (T,H,K)} {t t1 e ty:TypeId}
theorem Ii {x:Operand} {k:Nat} (he:bT P t=some e) (hx:ev T x=.emp k) (hk:K (ao 0) H):tz P (.call { callee:=.builtin .cap,args:=#[x],argTypes:=#[t] }) ty T H K w:=by
  intro n _
  refine ⟨ao 0,.none,[],?_,hk⟩
  simp[sI,bF,oper,As,he,hx]
theorem L7 {s x:Operand} {k l sz bytes:Nat} {z:List V} (he:qh P t=some (sz,bytes,z)) (hd:kS P t1=false) (hi:isInt P t1=true) (hs:ev T s=.emp k) (hx:ev T x=ao l) (h0:l≠0)
    (h1:l * bytes < aR) (h2:l < aR) (hk:∀ n,H n=.dead→K (.sl n 0 l sz) (H.set n (.arr sz (List.replicate l z)))) :
    tz P (.call { callee:=.builtin .append,args:=#[s,x],argTypes:=#[t,t1] }) ty T H K w:=by
  obtain ⟨e,ti,hse,_,hti,hz,hzl,hzok,hs0,rfl,rfl⟩:=lS he
  intro n hn
  refine ⟨.sl n 0 l ti.size,.new (.arr ti.size (List.replicate l z)),[],?_,hk n hn⟩
  have ha:asNat (ao l)=some l:=by simp[asNat,ao]
  have key:oB P t (.emp k) (ao l) n=some (.sl n 0 l ti.size,.new (.arr ti.size (List.replicate l z)),[]):=by
    unfold oB
    rw[hse,ha]
    simp only[hti,hz,if_neg h0]
    rw[if_pos ⟨hzl,hzok,hs0,h1,h2⟩]
  simp[sI,bF,oper,hd,hi,hs,hx,key]
end
def gW:SF:=⟨.seq (aq [((some 4),.op (.aW (.val (.emp 1))))]) <|
  .seq (.seq (aq [aa 5 1,au 6 .lss 5 0]) <|
  .cond (.tmp 6) (.region false [⟨none,[((some 7),.op (.old (.makeInterface 9 (.const (.string ⟨#[99,97,110,110,111,116,32,98,101,32,110,101,103,97,116,105,118,101]⟩))) 20)),(none,.op (.old (.panic (.tmp 7)) 0))]⟩]) (.skip)) <|
  .seq (.seq (aq [aa 8 1,aa 9 0,((some 10),.op (.old (.call { callee:=.builtin .cap,args:=#[(.tmp 9)],argTypes:=#[31] }) 3)),aa 11 0,aC 12 11,aF 13 .sub 10 12,aF 14 .sub 8 13,aa 1 14]) <|
  .seq (aq [aa 15 1,au 16 .gtr 15 0]) <|
  .cond (.tmp 16) (aq [aa 17 0,aa 18 0,((some 19),.op (.old (.call { callee:=.builtin .cap,args:=#[(.tmp 18)],argTypes:=#[31] }) 3)),((some 20),.op (.slice 1 (.tmp 17) none (some (.tmp 19)))),aa 21 1,((some 22),.op (.old (.call { callee:=.builtin .append,args:=#[(.tmp 20),(.tmp 21)],argTypes:=#[31,3] }) 31)),aa 23 0,aC 24 23,((some 25),.op (.slice 1 (.tmp 22) none (some (.tmp 24)))),aa 0 25]) (.skip)) <|
  .seq (aq [aa 26 0,aa 4 26]) <|
  .ret,
  [.tmp 4],27⟩
theorem mE:bo Tryz.prog 128 []=some gW:=by kernel_rfl
def fK:SC :=
  .seq (aq [aF 12 .lss 11 10]) <|
  .seq (.cond (.tmp 12) (.skip) (.exit 0)) <|
  .seq (.block 1 (.seq (aq [aG 13 1 9 11,ak 14 13,aa 5 14]) <|
  .seq (aq [aa 15 3,aa 16 5,aC 17 16,aF 18 .add 15 17,aa 3 18]) <|
  .seq (aq [aa 19 3,au 20 .lss 19 0]) <|
  .cond (.tmp 20) (.region false [⟨none,[((some 21),.op (.old (.makeInterface 9 (.const (.string ⟨#[108,101,110,32,111,117,116,32,111,102,32,114,97,110,103,101]⟩))) 20)),(none,.op (.old (.panic (.tmp 21)) 0))]⟩]) (.skip))) <|
  aq [au 22 .add 11 1,aa 11 22]
def fQ:SC :=
  .seq (aq [aF 28 .lss 27 26]) <|
  .seq (.cond (.tmp 28) (.skip) (.exit 2)) <|
  .seq (.block 3 (.seq (aq [aG 29 1 25 27,ak 30 29,aa 8 30]) <|
  aq [aa 31 6,aa 32 8,((some 33),.op (.app 1 8 (.tmp 31) (.tmp 32))),aa 6 33])) <|
  aq [au 34 .add 27 1,aa 27 34]
def gh:SF:=⟨.seq (aq [((some 2),.op (.aW (.val (.emp 1))))]) <|
  .seq (aq [aA 3 0]) <|
  .seq (.seq (aq [aa 9 0,aC 10 9,aA 11 0]) <|
  .block 0 (.loop fK)) <|
  .seq (aq [aa 23 3,cp 24 128 [(.val (.emp 1)),(.tmp 23)],aa 6 24]) <|
  .seq (.seq (aq [aa 25 0,aC 26 25,aA 27 0]) <|
  .block 2 (.loop fQ)) <|
  .seq (aq [aa 35 6,aa 2 35]) <|
  .ret,
  [.tmp 2],36⟩
theorem kX:bo Tryz.prog 76 []=some gh:=by kernel_rfl
theorem GX (n:Nat) (hn:n≤100000) (H:View):aL Tryz.prog 128 [.emp 1,gi n] H fun r H'=>(n=0∧r=.emp 1∧H'=H)∨(0 < n∧∃ m es,H m=.dead∧r=.sl m 0 0 1∧H'=H.set m (.arr 1 es)):=by
  refine aL.of mixed mE ?_
  simp (disch:=omega) only [↓wr,↓reduceIte,wq,ai,ag,Nat.reduceEqDiff,Nat.reduceAdd,Nat.reduceLeDiff,gW]
  refine ar.dec (fun h=>absurd h (by omega)) (fun _=>?_)
  simp (disch:=omega) only [↓wr,↓reduceIte,wq,Nat.reduceEqDiff,reduceCtorEq]
  refine Ii (k:=1) (e:=3) (by kernel_rfl) (by simp (disch:=omega) only [↓wr,↓reduceIte]) ?_
  simp (disch:=omega) only [↓wr,↓reduceIte,wq,ag,ao,Nat.reduceEqDiff,reduceCtorEq]
  refine ar.dec (fun h=>?_) (fun h=>?_)
  · simp (disch:=omega) only [↓wr,↓reduceIte,wq,reduceCtorEq]
    refine Ii (k:=1) (e:=3) (by kernel_rfl) (by simp (disch:=omega) only [↓wr,↓reduceIte]) ?_
    simp (disch:=omega) only [↓wr,↓reduceIte,wq,ao,Nat.reduceEqDiff]
    rw[show gR 1 (.emp 1) none (some (.val (.int .i64 ((0:Nat):Int))))=some (.emp 1,.none,[]) from rfl]
    simp (disch:=omega) only [↓wr,↓reduceIte,wq,Nat.reduceEqDiff]
    refine L7 (k:=1) (l:=n) (sz:=1) (bytes:=8) (z:=[gi 0]) (by kernel_rfl) (by kernel_rfl) (by kernel_rfl) (by simp (disch:=omega) only [↓wr,↓reduceIte,Nat.reduceEqDiff]) (by simp (disch:=omega) only [↓wr,↓reduceIte,ao]; simp) (by omega) (by unfold aR; omega) (by unfold aR; omega) ?_
    intro m hm
    simp (disch:=omega) only [↓wr,↓reduceIte,wq,ao,Nat.reduceEqDiff,reduceCtorEq]
    rw[show gR 1 (.sl m 0 n 1) none (some (.val (.int .i64 ((0:Nat):Int))))=some (.sl m 0 0 1,.none,[]) by simp[gR,bound,asNat]]
    simp (disch:=omega) only [↓wr,↓reduceIte,wq,reduceCtorEq]
    exact .inr ⟨by omega,m,_,hm,rfl,rfl⟩
  · simp (disch:=omega) only [↓wr,↓reduceIte,wq,reduceCtorEq]
    exact .inl (by omega)
def vq (H:View) (u:V) (l:List Int):Prop:=u=encI l∨bf H u 1 (bp l)
theorem vq.elems {H:View} {u:V} {l:List Int} (h:vq H u l):∃ rd,bJ H u=some (bp l,rd):=by
  rcases h with rfl | h
  · exact ⟨[],q6 _ _⟩
  generalize bp l=es0 at h
  rcases h with ⟨rfl,k,rfl⟩ | ⟨n,rfl,hn⟩
  · exact ⟨_,rb _ k⟩
  · cases es0 with
    | nil=>exact ⟨[],by simp[bJ]⟩
    | cons e es =>
      exact ⟨_,by rw[show (e :: es).length=es.length+1 from rfl,yK _ n 0 es.length 1 1 _ hn (by simp),List.drop_zero,List.take_of_length_le (by simp)]⟩
theorem vq.len {H:View} {u:V} {l:List Int} (h:vq H u l):dq u=some l.length:=by
  rcases h with rfl | h
  · simp[encI,dq]
  · rw[h.len]; simp
theorem vq.keep {H H':View} {u:V} {l:List Int} (h:vq H u l) (hk:∀ id,H id≠.dead→H' id=H id):vq H' u l:=by
  rcases h with rfl | h
  · exact .inl rfl
  · exact .inr (h.keep fun id hid=>hk id (by rw[(h.live hid).1]; simp))
def w6 (H:View) (u:V) (l:List Int):Prop:=bf H u 1 (bp l)∨(l=[]∧∃ m es,u=.sl m 0 0 1∧H m=.arr 1 es)
theorem w6.live {H:View} {u:V} {l:List Int} (h:w6 H u l) {id:Nat} (hid:owner u=some id):∃ es,H id=.arr 1 es:=by
  rcases h with h | ⟨_,m,es,rfl,hm⟩
  · exact ⟨_,(h.live hid).1⟩
  · simp[owner] at hid; subst hid; exact ⟨es,hm⟩
theorem F5 {bytes:Nat} {u:V} {l xs:List Int} {H:View} {K:V→View→Prop} {w:b9 (H,K)} (ho:w6 H u l) (hl:(l.length+xs.length) * bytes < aR) (hl2:l.length+xs.length < aR) (hb:bytes=8)
    (hk:∀ u' H',w6 H' u' (l ++ xs)→(bf H u 1 (bp l)→bf H' u' 1 (bp (l ++ xs)))→Left H H' u u'→K u' H'):kQ 1 bytes u (bp xs) H K w:=by
  rcases ho with ho | ⟨rfl,m,es,rfl,hm⟩
  · exact wT ho (by simp[List.all_map,aU]) (by simpa using hl) (by simpa using hl2) fun u' H' h1 h2=>hk u' H' (.inl (by simpa using h1)) (fun _=>by simpa using h1) h2
  · cases xs with
    | nil=>exact hk _ _ (.inr ⟨rfl,m,es,rfl,hm⟩) (fun h=>by simpa using h) .refl
    | cons x xs =>
      rw[oY _ _ _ _ _ _ _ _ _ _ (by simp),hm]
      refine ⟨by simp[List.all_map,aU],⟨by simp,rfl,by simpa using hl,by simpa using hl2⟩,fun n hn=>hk _ _ (.inl (.inr ⟨n,by simp,by simp[View.set]⟩)) (fun _=>.inr ⟨n,by simp,by simp[View.set]⟩) fun id hid ho=>?_⟩
      have e:id≠n:=by rintro rfl; exact hid hn
      have e2:id≠m:=by rintro rfl; exact ho rfl
      exact ⟨by simp[View.set,e,e2],by simp[owner,Ne.symm e]⟩
set_option maxHeartbeats 4000000 in
theorem HQ (us:List (V × List Int)) (q:Nat) (H:View) (hq:H q=.arr 1 (us.map fun x=>[x.1])) (ha:∀ x∈us,vq H x.1 x.2) (hl:(us.map (·.2)).flatten.length≤100000) (hu:us.length≤1000) :
    aL Tryz.prog 76 [.sl q 0 us.length 1] H fun r H'=>bf H' r 1 (bp (us.map (·.2)).flatten)∧dQ H H' r:=by
  have hsum:∀ i,((us.take i).map (·.2)).flatten.length≤100000:=fun i=>by
    have:=List.take_append_drop i us
    have h2:(us.map (·.2)).flatten=((us.take i).map (·.2)).flatten ++ ((us.drop i).map (·.2)).flatten:=by rw[← List.flatten_append,← List.map_append,this]
    rw[h2,List.length_append] at hl; omega
  refine aL.of mixed kX ?_
  simp (disch:=omega) only [↓wr,↓reduceIte,wq,ai,ao,Nat.reduceLeDiff,reduceCtorEq,gh]
  refine bC.up us.length (fun i T H'=>H'=H∧T 0=.sl q 0 us.length 1∧T 3=gi ((us.take i).map (·.2)).flatten.length∧T 9=.sl q 0 us.length 1∧T 10=gi us.length∧T 11=gi i) ⟨rfl,rfl,rfl,rfl,rfl,rfl⟩ ?_
  rintro i k T H1 hk ⟨rfl,t0,t3,t9,t10,t11⟩
  simp (disch:=omega) only [↓wr,↓reduceIte,wq,ag,fK,t10,t11]
  refine ar.dec (fun hi=>?_) (fun hi=>?_)
  · have h2:us[i]?=some (us[i]'(by omega)):=List.getElem?_eq_getElem (by omega)
    have hm:=List.mem_of_getElem? h2
    have htk:us.take (i+1)=us.take i ++ [us[i]'(by omega)]:=by rw[List.take_add_one,h2]; rfl
    have hs1:=hsum (i+1)
    have hgd:(us.map fun x=>[x.1]).getD i []=[(us[i]'(by omega)).1]:=by simp[List.getD_eq_getElem?_getD,h2]
    generalize us[i]'(by omega)=x at h2 hm htk hgd
    have hx:=(ha x hm).len
    rw[htk] at hs1
    simp only[List.map_append,List.map_cons,List.map_nil,List.flatten_append,List.flatten_cons,List.flatten_nil,List.append_nil,List.length_append] at hs1
    simp (disch:=omega) only [↓wr,↓reduceIte,wq,ag,ao,Nat.reduceEqDiff,Nat.reduceLT,t3,t9,t11,hq,hgd,hx]
    refine ⟨by omega,by omega,?_⟩
    refine ar.dec (fun h=>absurd h (by omega)) (fun _=>?_)
    simp (disch:=omega) only [↓wr,↓reduceIte,wq,ag,Nat.reduceEqDiff,reduceCtorEq,t11]
    refine bM hk (by omega) ⟨rfl,t0,?_,t9,t10,rfl⟩
    rw[htk,List.map_append,List.flatten_append,List.length_append,List.map_cons,List.map_nil,List.flatten_cons,List.flatten_nil,List.append_nil]
    push_cast
    rfl
  · simp (disch:=omega) only [↓wr,↓reduceIte,wq,Nat.reduceEqDiff,reduceCtorEq,t3]
    have e:us.take i=us:=List.take_of_length_le (by omega)
    rw[e]
    refine aO.nz ((GX _ hl H1).mono ?_)
    intro r H2 hr
    have hro:w6 H2 r []∧dQ H1 H2 r:=by
      rcases hr with ⟨_,rfl,rfl⟩ | ⟨_,m,es,hm,rfl,rfl⟩
      · exact ⟨.inl .nil,.emp⟩
      · exact ⟨.inr ⟨rfl,m,es,rfl,by simp[View.set]⟩,.new hm⟩
    have hlast:(us.map (·.2)).flatten.length=0→bf H2 r 1 (bp []):=fun h0=>by
      rcases hr with ⟨_,rfl,_⟩ | ⟨h1,_⟩
      · exact .nil
      · omega
    obtain ⟨hroom,hfr⟩:=hro
    simp (disch:=omega) only [↓wr,↓reduceIte,wq,ao,reduceCtorEq,t0]
    refine bC.up us.length (fun i T H'=>∃ u,T 6=u∧w6 H' u ((us.take i).map (·.2)).flatten∧((us.map (·.2)).flatten.length=0→bf H' u 1 (bp ((us.take i).map (·.2)).flatten))∧dQ H1 H' u∧T 25=.sl q 0 us.length 1∧T 26=gi us.length∧T 27=gi i) ⟨r,rfl,hroom,hlast,hfr,rfl,rfl,rfl⟩ ?_
    rintro i k T H3 hk ⟨u,t6,ho,hz,hf,t25,t26,t27⟩
    simp (disch:=omega) only [↓wr,↓reduceIte,wq,ag,reduceCtorEq,fQ,t26,t27]
    refine ar.dec (fun hi=>?_) (fun hi=>?_)
    · have h2:us[i]?=some (us[i]'(by omega)):=List.getElem?_eq_getElem (by omega)
      have hm:=List.mem_of_getElem? h2
      have htk:us.take (i+1)=us.take i ++ [us[i]'(by omega)]:=by rw[List.take_add_one,h2]; rfl
      have hs1:=hsum (i+1)
      have hgd:(us.map fun x=>[x.1]).getD i []=[(us[i]'(by omega)).1]:=by simp[List.getD_eq_getElem?_getD,h2]
      generalize us[i]'(by omega)=x at h2 hm htk hgd
      rw[htk,List.map_append,List.flatten_append,List.length_append,List.map_cons,List.map_nil,List.flatten_cons,List.flatten_nil,List.append_nil] at hs1
      have hq3:H3 q=.arr 1 (us.map fun x=>[x.1]):=by rw[(hf q (by rw[hq]; simp)).1,hq]
      obtain ⟨rd,he⟩:=((ha x hm).keep fun id hid=>(hf id hid).1).elems
      simp (disch:=omega) only [↓wr,↓reduceIte,wq,Nat.reduceEqDiff,Nat.reduceLT,t6,t25,t27,hq3,hgd,he]
      refine ⟨by omega,by omega,?_⟩
      refine F5 ho (by unfold aR; omega) (by unfold aR; omega) rfl ?_
      intro u' H4 ho4 hz4 l4
      simp (disch:=omega) only [↓wr,↓reduceIte,wq,ag,Nat.reduceEqDiff,reduceCtorEq,t27]
      refine bM hk (by omega) ⟨u',rfl,?_,fun h0=>?_,fun id hid=>?_,t25,t26,rfl⟩
      · rw[htk]; simpa using ho4
      · rw[htk]; simpa using hz4 (hz h0)
      · obtain ⟨a,b⟩:=hf id hid
        obtain ⟨c,d⟩:=l4 id (by rw[a]; exact hid) b
        exact ⟨c.trans a,d⟩
    · simp (disch:=omega) only [↓wr,↓reduceIte,wq,Nat.reduceEqDiff,reduceCtorEq,t6]
      have e:us.take i=us:=List.take_of_length_le (by omega)
      rw[e] at ho hz
      refine ⟨?_,hf⟩
      rcases ho with ho | ⟨h0,m,es,rfl,hm⟩
      · exact ho
      · exact hz (by rw[h0]; rfl)
def Dw (H:View) (u:V) (l:List Int):Prop:=u=encI l∨∃ (m:Nat) (x:Int),l=[x]∧x < 0∧u=.sl m 0 1 1∧H m=.arr 1 [[gi x]]
theorem Dw.Gw {H:View} {u:V} {l:List Int} (h:Dw H u l):cZ H u (encI l):=by
  rcases h with rfl | ⟨m,x,rfl,_,rfl,hm⟩
  · exact cZ.tree (ej l)
  · exact zA (l:=[x]) hm rfl
theorem Dw.keep {H H':View} {u:V} {l:List Int} (h:Dw H u l) (hk:∀ id,H id≠.dead→H' id=H id):Dw H' u l:=by
  rcases h with rfl | ⟨m,x,rfl,hx,rfl,hm⟩
  · exact .inl rfl
  · exact .inr ⟨m,x,rfl,hx,rfl,by rw[hk m (by rw[hm]; simp)]; exact hm⟩
theorem I0 {F:List Way} {w:Way} {n:Int} : lookW (F ++ [w]) n=match lookW F n with
    | some x=>some x
    | none=>if w.dc=n then some w else none:=by
  unfold lookW
  rw[List.find?_append]
  cases h:F.find? fun x=>x.dc == n with
  | some x=>rfl
  | none =>
    simp only[Option.none_or,List.find?_cons,List.find?_nil]
    by_cases e:w.dc=n
    · simp[e]
    · have:(w.dc == n)=false:=by simpa using e
      rw[this]; simp[e]
theorem Be {F:List Way} {n:Int} (h:n ∉ jj F):lookW F n=none:=by
  rw[lookW,List.find?_eq_none]
  intro x hx e
  exact h (List.mem_map.2 ⟨x,hx,by simpa using e⟩)
theorem ql.le {g:aw} (hf:g.rh) {F:List Way} (h:ql g F):F.length≤g.ax.length :=
  h.len ⟨hf.sM,hf.start⟩ fun R hR s hs hn=>by
    have:=hf.sym R hR s hs
    unfold j7 at this
    rw[if_neg (by omega)] at this
    simpa using this
end Gv
