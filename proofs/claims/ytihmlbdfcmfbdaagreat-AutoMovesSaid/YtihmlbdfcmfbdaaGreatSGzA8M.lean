/-
  Part 13 of the proof: what the machine does and what the functions answer.
  Conditions: those that each lemma names.
-/
import Derived.Shelf.SlSortCmp.NoneTotal
import Derived.Shelf.SlicesG.Cmp
import Derived.StillTailTactics
import Derived.Test.YtihmlbdfcmfbdaaGreatSGzA8L
set_option linter.unusedSimpArgs false
set_option linter.unusedVariables false
set_option maxRecDepth 100000
namespace Gv
open Go Go.Proofs
theorem eY {a b:aJ} : cF a b=true↔a.aD < b.aD∨a.aD=b.aD∧a.dot < b.dot:=by
  simp[cF]
theorem kV {a b c:aJ} (h:cF a b=true) (k:cF b c=true):cF a c=true:=by
  rw[eY] at h k ⊢; omega
theorem kY {a:aJ} : cF a a=false:=by
  cases h:cF a a with
  | false=>rfl
  | true=>rw[eY] at h; omega
theorem Fg {a b:aJ} (h:cF a b=true):cF b a=false:=by
  cases k:cF b a with
  | false=>rfl
  | true=>have:=kV h k; rw[kY] at this; exact absurd this (by simp)
theorem sC {a b:aJ} (h:cF a b=false) (hne:¬ a=b):cF b a=true:=by
  rw[eY]
  have h1:¬ cF a b=true:=by simp[h]
  rw[eY] at h1
  obtain ⟨ar,ad⟩:=a
  obtain ⟨br,bd⟩:=b
  simp only[aJ.mk.injEq] at hne
  simp only at h1 ⊢
  omega
abbrev cE (l:List aJ):Prop:=l.Pairwise fun a b=>cF a b=true
theorem vl:∀ {l:List aJ} {x y:aJ},y∈lG l x↔y=x∨y∈l
  | [],x,y=>by simp[lG]
  | z :: l,x,y=>by
    rw[lG]
    split
    · simp only[List.mem_cons,vl (l:=l)]
      constructor
      · rintro (h | h | h) <;> simp[h]
      · rintro (h | h | h) <;> simp[h]
    · split
      · rename_i h; subst h; simp
      · simp
theorem yu:∀ {l:List aJ} {x:aJ},cE l→cE (lG l x)
  | [],x,_=>by simp[lG,cE]
  | z :: l,x,h=>by
    rw[cE,List.pairwise_cons] at h
    rw[lG]
    split
    · rename_i hz
      rw[cE,List.pairwise_cons]
      refine ⟨fun y hy=>?_,yu h.2⟩
      rcases vl.1 hy with rfl | hy
      · exact hz
      · exact h.1 y hy
    · rename_i hz
      split
      · exact List.pairwise_cons.2 h
      · rename_i hne
        have hxz:=sC (by simpa using hz) hne
        rw[cE,List.pairwise_cons]
        refine ⟨fun y hy=>?_,List.pairwise_cons.2 h⟩
        rcases List.mem_cons.1 hy with rfl | hy
        · exact hxz
        · exact kV hxz (h.1 y hy)
theorem vA:∀ {a b:List aJ},cE a→cE b→(∀ x,x∈a↔x∈b)→a=b
  | [],[],_,_,_=>rfl
  | [],y :: b,_,_,h=>by have:=(h y).2 (by simp); simp at this
  | x :: a,[],_,_,h=>by have:=(h x).1 (by simp); simp at this
  | x :: a,y :: b,ha,hb,h=>by
    rw[cE,List.pairwise_cons] at ha hb
    have hxy:x=y:=by
      have h1:=(h x).1 (by simp)
      have h2:=(h y).2 (by simp)
      rcases List.mem_cons.1 h1 with h1 | h1
      · exact h1
      · rcases List.mem_cons.1 h2 with h2 | h2
        · exact h2.symm
        · have:=kV (ha.1 y h2) (hb.1 x h1)
          rw[kY] at this; exact absurd this (by simp)
    subst hxy
    congr 1
    refine vA ha.2 hb.2 fun z=>?_
    have hz:=h z
    simp only[List.mem_cons] at hz
    constructor
    · intro hm
      rcases hz.1 (.inr hm) with rfl | h
      · have:=ha.1 z hm; rw[kY] at this; exact absurd this (by simp)
      · exact h
    · intro hm
      rcases hz.2 (.inr hm) with rfl | h
      · have:=hb.1 z hm; rw[kY] at this; exact absurd this (by simp)
      · exact h
theorem D8:∀ (l:List Int) (a n:Int),l.Pairwise (· < ·)→(∀ x∈l,a≤x∧x < a+n)→0≤n→(l.length:Int)≤n
  | [],a,n,_,_,hn=>by simpa using hn
  | x :: l,a,n,hp,hm,hn=>by
    rw[List.pairwise_cons] at hp
    have h1:=hm x (by simp)
    have:=D8 l (x+1) (a+n - (x+1)) hp.2 (fun y hy=>by have:=hp.1 y hy; have:=hm y (by simp[hy]); omega) (by omega)
    simp only[List.length_cons]; omega
def cm (g:an) (x:aJ):Prop:=(-1≤x.aD∧x.aD < (g.rules.length:Int))∧0≤x.dot∧x.dot≤(db g x.aD).length
theorem dE {g:an} (hf:g.dg) {r:Int} (h : -1≤r∧r < (g.rules.length:Int)):(db g r).length≤6:=by
  unfold db
  split
  · simp
  · have hR:g.rules[r.toNat]?=some (dq g r):=by unfold dq; exact getD_some (by omega)
    exact hf.right _ (List.mem_of_getElem? hR)
theorem sr {g:an} (hf:g.dg) {l:List aJ} (hs:cE l) (hl:∀ x∈l,cm g x):l.length≤287:=by
  have hd:∀ x∈l,0≤x.dot∧x.dot≤6:=fun x hx=>by
    have h1:=hl x hx
    have:=dE hf h1.1
    exact ⟨h1.2.1,by have:=h1.2.2; omega⟩
  have h1:(l.map fun x=>(x.aD+1) * 7+x.dot).Pairwise (· < ·):=by
    rw[List.pairwise_map]
    refine List.Pairwise.imp_of_mem ?_ hs
    intro a b ha hb hab
    rw[eY] at hab
    have:=hd a ha; have:=hd b hb
    omega
  have:=D8 _ 0 287 h1 (fun y hy=>by
    obtain ⟨x,hx,rfl⟩:=List.mem_map.1 hy
    have h2:=(hl x hx).1
    have:=hd x hx; have:=hf.rules
    omega) (by omega)
  simp at this
  omega
inductive n0 (g:an) (l:List aJ):aJ→Prop
  | base {x:aJ} : x∈l→n0 g l x
  | step {x:aJ} {s:Int} {k:Nat} {R:aL} : n0 g l x→bM g x=(s,true)→s < 0→g.rules[k]?=some R→R.left = -1 - s→n0 g l ⟨k,0⟩
theorem n0.has {g:an} {l:List aJ} (hl:∀ x∈l,cm g x) {x:aJ} (h:n0 g l x):cm g x:=by
  induction h with
  | base h=>exact hl _ h
  | step _ _ _ hk _ _ =>
    have:=(List.getElem?_eq_some_iff.1 hk).1
    exact ⟨⟨by simp only; omega,by simp only; omega⟩,by simp only; omega,by simp only; omega⟩
def DZ (g:an):List aJ:=(List.range (g.rules.length+1)).flatMap fun (r:Nat)=>(List.range 7).map fun (d:Nat)=>(⟨(r:Int) - 1,(d:Int)⟩:aJ)
theorem G8 {g:an} (hf:g.dg) {x:aJ} (h:cm g x):x∈DZ g:=by
  have:=dE hf h.1
  obtain ⟨⟨h1,h2⟩,h3,h4⟩:=h
  simp only[DZ,List.mem_flatMap,List.mem_map,List.mem_range]
  refine ⟨(x.aD+1).toNat,by omega,x.dot.toNat,by omega,?_⟩
  obtain ⟨r,d⟩:=x
  simp only at h1 h2 h3 h4 this
  simp only[aJ.mk.injEq]; omega
theorem pM:∀ (l a:List aJ),cE a→cE (l.foldl lG a)∧∀ x,x∈l.foldl lG a↔x∈a∨x∈l
  | [],a,h=>⟨h,fun x=>by simp⟩
  | y :: l,a,h=>by
    obtain ⟨h1,h2⟩:=pM l (lG a y) (yu h)
    refine ⟨h1,fun x=>?_⟩
    rw[List.foldl_cons,h2,vl,List.mem_cons]
    constructor
    · rintro ((h | h) | h) <;> simp[h]
    · rintro (h | h | h) <;> simp[h]
open Classical in
noncomputable def cn (g:an) (l:List aJ):List aJ:=((DZ g).filter fun x=>decide (n0 g l x)).foldl lG []
theorem oP (g:an) (l:List aJ):cE (cn g l):=(pM _ [] .nil).1
theorem pY {g:an} (hf:g.dg) {l:List aJ} (hl:∀ x∈l,cm g x) {x:aJ} : x∈cn g l↔n0 g l x:=by
  classical
  rw[cn,(pM _ [] .nil).2]
  simp only[List.not_mem_nil,false_or,List.mem_filter,decide_eq_true_eq]
  exact ⟨fun h=>h.2,fun h=>⟨G8 hf (h.has hl),h⟩⟩
theorem LG {g:an} (hf:g.dg) {l o:List aJ} (hl:∀ x∈l,cm g x) (hs:cE o) (h1:∀ x∈o,n0 g l x) (h2:∀ x∈l,x∈o)
    (h3:∀ x∈o,∀ (s:Int) (k:Nat) (R:aL),bM g x=(s,true)→s < 0→g.rules[k]?=some R→R.left = -1 - s→(⟨k,0⟩:aJ)∈o):cn g l=o:=by
  refine vA (oP g l) hs fun x=>?_
  rw[pY hf hl]
  refine ⟨fun h=>?_,h1 x⟩
  induction h with
  | base h=>exact h2 _ h
  | step _ hn hs hk hL ih=>exact h3 _ ih _ _ _ hn hs hk hL
def ba (g:an) (l:List aJ) (s:Int):List aJ:=(l.filter fun x=>decide (bM g x=(s,true))).map fun x=>⟨x.aD,x.dot+1⟩
theorem EP {g:an} {l:List aJ} {s:Int} {y:aJ} : y∈ba g l s↔∃ x∈l,bM g x=(s,true)∧y=⟨x.aD,x.dot+1⟩:=by
  simp only[ba,List.mem_map,List.mem_filter,decide_eq_true_eq]
  constructor
  · rintro ⟨x,⟨h1,h2⟩,rfl⟩; exact ⟨x,h1,h2,rfl⟩
  · rintro ⟨x,h1,h2,rfl⟩; exact ⟨x,⟨h1,h2⟩,rfl⟩
theorem Bi {g:an} {l:List aJ} (s:Int) (h:cE l):cE (ba g l s):=by
  rw[cE,ba,List.pairwise_map]
  refine (h.filter _).imp ?_
  intro a b hab
  rw[eY] at hab ⊢
  simp only; omega
theorem wY {g:an} {x:aJ} {s:Int} (h:bM g x=(s,true)):x.dot≠(db g x.aD).length∧(db g x.aD).getD x.dot.toNat 0=s:=by
  unfold bM at h
  split at h
  · simp at h
  · rename_i hd; exact ⟨hd,by simpa using h⟩
theorem DB {g:an} {l:List aJ} {s:Int} (hl:∀ x∈l,cm g x):∀ y∈ba g l s,cm g y:=by
  intro y hy
  obtain ⟨x,hx,hn,rfl⟩:=EP.1 hy
  have h1:=hl x hx
  have h2:=(wY hn).1
  exact ⟨h1.1,by simp only; have:=h1.2; omega,by simp only; have:=h1.2; omega⟩
theorem xk {g:an} {l:List aJ} {s:Int} : (ba g l s).length≤l.length:=by
  rw[ba,List.length_map]; exact List.length_filter_le _ _
structure bz where
  bp:List aJ
  bU:List gU
  deriving DecidableEq
abbrev bV:bz:=⟨[],[]⟩
def aT (g:an) (i:Nat):Int:=if i < g.av.length then i else -1 - ((i:Int) - g.av.length)
def findD:List bz→List aJ→Int
  | [],_=>-1
  | s :: l,k=>if s.bp=k then 0 else if findD l k < 0 then -1 else findD l k+1
theorem sJ:∀ (l:List bz) (k:List aJ),-1≤findD l k
  | [],_=>by simp[findD]
  | s :: l,k=>by
    have:=sJ l k
    rw[findD]; split
    · omega
    · split <;> omega
theorem xj:∀ (l:List bz) (k:List aJ),findD l k < l.length
  | [],_=>by simp[findD]
  | s :: l,k=>by
    have:=xj l k
    rw[findD]; simp only[List.length_cons]; split
    · omega
    · split <;> omega
theorem Dj:∀ (l:List bz) (k:List aJ) (i:Nat),findD l k=i→∃ s,l[i]?=some s∧s.bp=k
  | [],_,i,h=>by simp[findD] at h
  | s :: l,k,i,h=>by
    rw[findD] at h
    split at h
    · rename_i e
      have:i=0:=by omega
      subst this
      exact ⟨s,rfl,e⟩
    · split at h
      · omega
      · obtain ⟨j,rfl⟩:∃ j,i=j+1:=⟨i - 1,by omega⟩
        obtain ⟨t,h1,h2⟩:=Dj l k j (by omega)
        exact ⟨t,by simpa using h1,h2⟩
theorem EL:∀ (l:List bz) (k:List aJ),findD l k < 0→∀ s∈l,s.bp≠k
  | [],_,_,s,hs=>by simp at hs
  | t :: l,k,h,s,hs=>by
    rw[findD] at h
    split at h
    · omega
    · rename_i hne
      have hl:findD l k < 0:=by
        split at h
        · assumption
        · omega
      rcases List.mem_cons.1 hs with rfl | hs
      · exact hne
      · exact EL l k hl s hs
def dp (g:an) (l:List aJ) (at_:Nat) (out:List bz) (i:Nat):List bz :=
  if ba g l (aT g i)=[] then out else
  if findD out (ba g l (aT g i)) < 0 then (out ++ [(⟨ba g l (aT g i),[]⟩:bz)]).modify at_ fun s=>(⟨s.bp,s.bU ++ [⟨aT g i,out.length⟩]⟩:bz)
  else out.modify at_ fun s=>(⟨s.bp,s.bU ++ [⟨aT g i,findD out (ba g l (aT g i))⟩]⟩:bz)
noncomputable def z1 (g:an) (at_:Nat) (out:List bz) (n:Nat):List bz:=(List.range n).foldl (dp g (cn g (out.getD at_ bV).bp) at_) out
noncomputable def fp (g:an):Nat→Nat→List bz→List bz × Int
  | 0,_,out=>(out,0)
  | f+1,at_,out=>if at_ < out.length then
      (if 300 < (z1 g at_ out (g.av.length+g.az.length)).length then ([],5) else fp g f (at_+1) (z1 g at_ out (g.av.length+g.az.length)))
    else (out,0)
def dD:List bz:=[⟨[⟨-1,0⟩],[]⟩]
abbrev BV:=BitVec 32
def Pe (n:Int):BV:=if 0≤n∧n≤31 then BitVec.twoPow 32 n.toNat else 0
theorem NS {a b:BV} (h:∀ i,i < 32→a.getLsbD i=b.getLsbD i):a=b:=BitVec.eq_of_getLsbD_eq fun i hi=>h i hi
def Pa (a b:BV):Prop:=∀ i,a.getLsbD i=true→b.getLsbD i=true
def Nt (null:List Bool) (first:List BV) (rest:BV):List Int→BV
  | []=>rest
  | s :: l=>if 0≤s then Pe s else if null.getD (-1 - s).toNat false=true then first.getD (-1 - s).toNat 0 ||| Nt null first rest l else first.getD (-1 - s).toNat 0
def N2 (null:List Bool) (fs:List BV) (r:aL):List BV:=fs.set r.left.toNat (fs.getD r.left.toNat 0 ||| Nt null fs 0 r.right)
def Nk (g:an) (null:List Bool) (fs:List BV):List BV:=g.rules.foldl (N2 null) fs
def NG (g:an) (null:List Bool):List BV:=iter (Nk g null) g.az.length (List.replicate g.az.length 0)
def CD:List gU→Int→Int
  | [],_=>-1
  | e :: l,s=>if e.sym=s then e.to else CD l s
def J5 (a:List bz):Int→List Int→Int × Bool
  | at_,[]=>(at_,true)
  | at_,s :: l=>if 0≤CD (a.getD at_.toNat bV).bU s∧CD (a.getD at_.toNat bV).bU s < a.length then J5 a (CD (a.getD at_.toNat bV).bU s) l else (0,false)
def L8 (a:List bz) (at_:Int) (l:List Int):Int × Bool:=if at_ < 0∨(a.length:Int)≤at_ then (0,false) else J5 a at_ l
abbrev Sets:=List (List BV)
def uO (ss:Sets) (i k:Nat):BV:=(ss.getD i []).getD k 0
def FU (ls:List (List aJ)) (ss:Sets):Prop:=ss.length=ls.length∧∀ i:Nat,(ss.getD i []).length=(ls.getD i []).length
def wH (a b:Sets):Prop:=a.length=b.length∧(∀ i:Nat,(a.getD i []).length=(b.getD i []).length)∧∀ i k,Pa (uO a i k) (uO b i k)
theorem wH.refl {a:Sets} : wH a a:=⟨rfl,fun _=>rfl,fun _ _ _ h=>h⟩
theorem wH.trans {a b c:Sets} (h:wH a b) (k:wH b c):wH a c:=⟨h.1.trans k.1,fun i=>(h.2.1 i).trans (k.2.1 i),fun i j t ht=>k.2.2 i j t (h.2.2 i j t ht)⟩
theorem wH.GR {a b:Sets} (h:wH a b) (k:wH b a):a=b:=by
  refine List.ext_getElem h.1 fun i h1 h2=>?_
  have e1:a.getD i []=a[i]:=by simp[List.getD_eq_getElem?_getD,h1]
  have e2:b.getD i []=b[i]:=by simp[List.getD_eq_getElem?_getD,h2]
  refine List.ext_getElem (by rw[← e1,← e2]; exact h.2.1 i) fun j h3 h4=>?_
  have g1:uO a i j=a[i][j]:=by rw[uO,e1]; simp[List.getD_eq_getElem?_getD,h3]
  have g2:uO b i j=b[i][j]:=by rw[uO,e2]; simp[List.getD_eq_getElem?_getD,h4]
  rw[← g1,← g2]
  refine NS fun t _=>?_
  have p:=h.2.2 i j t
  have q:=k.2.2 i j t
  cases hx:(uO a i j).getLsbD t with
  | true=>rw[p hx]
  | false =>
    cases hy:(uO b i j).getLsbD t with
    | false=>rfl
    | true=>rw[q hy] at hx; exact absurd hx (by simp)
theorem FU.le {ls:List (List aJ)} {a b:Sets} (h:FU ls a) (k:wH a b):FU ls b:=⟨k.1.symm.trans h.1,fun i=>(k.2.1 i).symm.trans (h.2 i)⟩
theorem BN {α:Type} (l:List α) (i j:Nat) (x d:α):(l.set i x).getD j d=if i=j∧i < l.length then x else l.getD j d:=by
  simp only[List.getD_eq_getElem?_getD,List.getElem?_set]
  by_cases e:i=j
  · subst e
    by_cases h:i < l.length
    · simp[h]
    · simp[h]
  · simp[e]
theorem FU.eq {ls:List (List aJ)} {a b:Sets} (h:FU ls a) (k:FU ls b):a.length=b.length∧∀ i:Nat,(a.getD i []).length=(b.getD i []).length:=⟨h.1.trans k.1.symm,fun i=>(h.2 i).trans (k.2 i).symm⟩
def Nz (g:an) (x:aJ):List Int:=if 0≤x.aD then (dq g x.aD).right.drop (x.dot+1).toNat else []
inductive C3 (g:an) (null:List Bool) (a:List bz) (ls:List (List aJ)):Nat→aJ→Nat→Prop
  | start:(⟨-1,0⟩:aJ)∈ls.getD 0 []→C3 g null a ls 0 ⟨-1,0⟩ g.av.length
  | move {i:Nat} {x:aJ} {t:Nat} {s:Int} : C3 g null a ls i x t→bM g x=(s,true)→(⟨x.aD,x.dot+1⟩:aJ)∈ls.getD (L8 a i [s]).1.toNat []→C3 g null a ls (L8 a i [s]).1.toNat ⟨x.aD,x.dot+1⟩ t
  | begin {i:Nat} {x:aJ} {t u:Nat} {s:Int} {k:Nat} : C3 g null a ls i x t→bM g x=(s,true)→s < 0→k < g.rules.length→(dq g k).left = -1 - s→(⟨k,0⟩:aJ)∈ls.getD i [] →
      (Nt null (NG g null) (BitVec.twoPow 32 t) (Nz g x)).getLsbD u=true→C3 g null a ls i ⟨k,0⟩ u
theorem C3.mem {g:an} {null:List Bool} {a:List bz} {ls:List (List aJ)} {i:Nat} {x:aJ} {t:Nat} (h:C3 g null a ls i x t):x∈ls.getD i []:=by
  cases h <;> assumption
section
variable {g:an} {null:List Bool} {a:List bz} {ls:List (List aJ)}
end
theorem ln {g:an} (hf:g.dg) : -100≤g.start∧g.start≤100:=by
  have:=hf.ld; have:=hf.start; have:=hf.az; omega
theorem K1 (g:an) (hf:g.dg) (x:aJ) (hx:cm g x):aC Tryz.prog 51 [.agg (aw g),.agg (bu x)] (.bc [gi (bM g x).1,gb (bM g x).2]) :=
  IP g (ln hf) x hx.1 hx.2 (by have:=dE hf hx.1; omega)
theorem vt {l:List aJ} {i:Nat} {y:aJ} (h:l[i]?=some y):(aS l).getD i []=[gi y.aD,gi y.dot]:=by simp[aS,List.getD_eq_getElem?_getD,h,bu]
theorem bb (l:List aJ):(aS l).length=l.length:=by simp[aS]
theorem y0 {g:an} {x:aJ} {s:Int} {b:Bool} (hf:g.dg) (hx:cm g x) (h:bM g x=(s,b)) : -1000≤s∧s≤1000:=by
  have hsym:∀ s∈db g x.aD,-1000≤s∧s≤1000:=by
    intro s hs
    unfold db at hs
    split at hs
    · simp at hs; subst hs; have:=ln hf; omega
    · have hR:g.rules[x.aD.toNat]?=some (dq g x.aD):=by unfold dq; exact getD_some (by have:=hx.1; omega)
      have h1:=hf.sym _ (List.mem_of_getElem? hR) s hs
      have:=hf.av; have:=hf.az
      unfold gY at h1
      split at h1 <;> simp at h1 <;> omega
  unfold bM at h
  split at h
  · simp at h; omega
  · rename_i hd
    simp only[Prod.mk.injEq] at h
    have hlt:x.dot.toNat < (db g x.aD).length:=by have:=hx.2; omega
    rw[← h.1]
    exact hsym _ (List.mem_of_getElem? (getD_some hlt))
theorem HA {g:an} (hf:g.dg) {i:Nat} (hi:i < g.av.length+g.az.length) : -100≤aT g i∧aT g i≤100:=by
  have:=hf.av; have:=hf.az
  unfold aT; split <;> omega
theorem M5 (l:List aJ):Tree (.aK (aS l)):=fD _ _ fun x _ v hv=>by simp[bu] at hv; rcases hv with rfl | rfl <;> exact .val _
structure PG where
  aD:Int
  set:BV
  deriving DecidableEq
structure PF where
  state:Int
  term:Int
  kind:Int
  aD:Int
  other:Int
  deriving DecidableEq
noncomputable def dQ (g:an):List bz × Int:=if isRed g=true then fp g 302 0 dD else ([],1)
structure dd (g:an) (at_ i:Nat) (out:List bz):Prop where
  bp:∀ s∈out,cE s.bp∧s.bp≠[]∧∀ x∈s.bp,cm g x
  bU:∀ j s,out[j]?=some s→s.bU.length≤40∧(j=at_→s.bU.length≤i)∧(at_ < j→s.bU=[])
  to:∀ s∈out,∀ e∈s.bU,0≤e.to∧e.to < out.length
  sym:∀ s∈out,∀ e∈s.bU,-1000≤e.sym∧e.sym≤1000
theorem mem_modify {α:Type} {l:List α} {i:Nat} {f:α→α} {y:α} (h:y∈l.modify i f):y∈l∨∃ x,l[i]?=some x∧y=f x:=by
  obtain ⟨j,hj,e⟩:=List.mem_iff_getElem.1 h
  simp only[List.length_modify] at hj
  rw[List.getElem_modify] at e
  split at e
  · rename_i hij
    subst hij
    exact .inr ⟨l[i],List.getElem?_eq_getElem hj,e.symm⟩
  · exact .inl (e ▸ List.getElem_mem hj)
theorem JW (g:an) (l:List aJ) (at_:Nat) (out:List bz) (i:Nat):out.length≤(dp g l at_ out i).length∧(dp g l at_ out i).length≤out.length+1:=by
  unfold dp
  split
  · omega
  · split
    · simp
    · simp
theorem dd.put {g:an} {at_ i:Nat} {out:List bz} (h:dd g at_ i out) (hi:i < 40) {s:Int} (hs : -1000≤s∧s≤1000) {to:Int} (ht:0≤to∧to < out.length):dd g at_ (i+1) (out.modify at_ fun x=>(⟨x.bp,x.bU ++ [⟨s,to⟩]⟩:bz)):=by
  refine ⟨fun y hy=>?_,fun j y hy=>?_,fun y hy e he=>?_,fun y hy e he=>?_⟩
  rotate_right
  · rcases mem_modify hy with hy | ⟨x,hx,rfl⟩
    · exact h.sym y hy e he
    · rcases List.mem_append.1 he with he | he
      · exact h.sym x (List.mem_of_getElem? hx) e he
      · simp at he; subst he; exact hs
  · rcases mem_modify hy with hy | ⟨x,hx,rfl⟩
    · exact h.bp y hy
    · exact h.bp x (List.mem_of_getElem? hx)
  · rw[List.getElem?_modify] at hy
    cases hx:out[j]? with
    | none=>rw[hx] at hy; simp at hy
    | some x =>
      rw[hx] at hy
      have h1:=h.bU j x hx
      by_cases e:at_=j
      · subst e
        simp at hy
        subst hy
        have:=h1.2.1 rfl
        refine ⟨by simp; omega,fun _=>by simp; omega,fun h=>by omega⟩
      · simp[e] at hy
        subst hy
        exact ⟨h1.1,fun h=>absurd h.symm e,h1.2.2⟩
  · rw[List.length_modify]
    rcases mem_modify hy with hy | ⟨x,hx,rfl⟩
    · exact h.to y hy e he
    · rcases List.mem_append.1 he with he | he
      · exact h.to x (List.mem_of_getElem? hx) e he
      · simp at he; subst he; exact ht
theorem dd.up {g:an} {at_ i:Nat} {out:List bz} (h:dd g at_ i out):dd g at_ (i+1) out :=
  ⟨h.bp,fun j s hs=>by have:=h.bU j s hs; exact ⟨this.1,fun e=>by have:=this.2.1 e; omega,this.2.2⟩,h.to,h.sym⟩
theorem dd.add {g:an} {at_ i:Nat} {out:List bz} (h:dd g at_ i out) {k:List aJ} (hk:cE k∧k≠[]∧∀ x∈k,cm g x):dd g at_ i (out ++ [⟨k,[]⟩]):=by
  refine ⟨fun y hy=>?_,fun j y hy=>?_,fun y hy e he=>?_,fun y hy e he=>?_⟩
  rotate_right
  · rcases List.mem_append.1 hy with hy | hy
    · exact h.sym y hy e he
    · simp at hy; subst hy; simp at he
  · rcases List.mem_append.1 hy with hy | hy
    · exact h.bp y hy
    · simp at hy; subst hy; exact hk
  · rcases Nat.lt_or_ge j out.length with hj | hj
    · rw[List.getElem?_append_left hj] at hy; exact h.bU j y hy
    · rw[List.getElem?_append_right hj] at hy
      cases hq:j - out.length with
      | zero=>rw[hq] at hy; simp at hy; subst hy; exact ⟨by simp,fun _=>by simp,fun _=>rfl⟩
      | succ q=>rw[hq] at hy; simp at hy
  · rcases List.mem_append.1 hy with hy | hy
    · have:=h.to y hy e he; simp; omega
    · simp at hy; subst hy; simp at he
theorem dd.step {g:an} {l:List aJ} (hs:cE l) (hl:∀ x∈l,cm g x) {at_ i:Nat} {out:List bz} (h:dd g at_ i out) (hi:i < 40):dd g at_ (i+1) (dp g l at_ out i):=by
  unfold dp
  split
  · exact h.up
  · rename_i hne
    have hb : -1000≤aT g i∧aT g i≤1000:=by unfold aT; split <;> omega
    split
    · exact (h.add ⟨Bi _ hs,hne,DB hl⟩).put hi hb (by simp; omega)
    · have:=xj out (ba g l (aT g i))
      exact h.put hi hb ⟨by omega,this⟩
theorem dd.next {g:an} {at_ i:Nat} {out:List bz} (h:dd g at_ i out):dd g (at_+1) 0 out :=
  ⟨h.bp,fun j s hs=>by
    have:=h.bU j s hs
    exact ⟨this.1,fun e=>by have:=this.2.2 (by omega); simp[this],fun e=>this.2.2 (by omega)⟩,h.to,h.sym⟩
theorem dd.row {g:an} {l:List aJ} (hs:cE l) (hl:∀ x∈l,cm g x) {at_:Nat} {out:List bz} (h:dd g at_ 0 out):∀ n:Nat,n≤40→dd g at_ n ((List.range n).foldl (dp g l at_) out)∧out.length≤((List.range n).foldl (dp g l at_) out).length∧((List.range n).foldl (dp g l at_) out).length≤out.length+n
  | 0,_=>⟨h,Nat.le_refl _,Nat.le_refl _⟩
  | n+1,hn=>by
    obtain ⟨h1,h2,h3⟩:=dd.row hs hl h n (by omega)
    rw[List.range_succ,List.foldl_append]
    simp only[List.foldl_cons,List.foldl_nil]
    have:=JW g l at_ ((List.range n).foldl (dp g l at_) out) n
    exact ⟨h1.step hs hl (by omega),by omega,by omega⟩
theorem nh {g:an} : dd g 0 0 dD:=by
  refine ⟨fun s hs=>?_,fun j s hs=>?_,fun s hs e he=>?_,fun s hs e he=>?_⟩
  rotate_right
  · simp[dD] at hs; subst hs; simp at he
  · simp[dD] at hs; subst hs
    refine ⟨by simp[cE],by simp,fun x hx=>?_⟩
    simp at hx; subst hx
    exact ⟨⟨by simp,by simp only; omega⟩,by simp,by simp[db]⟩
  · have:=List.mem_of_getElem? hs
    simp[dD] at this; subst this; simp
  · simp[dD] at hs; subst hs; simp at he
theorem dd.nU {g:an} (hf:g.dg) {at_ i:Nat} {out:List bz} (h:dd g at_ i out) {j:Nat} (hj:j < out.length):cE (cn g (out.getD j bV).bp)∧∀ x∈cn g (out.getD j bV).bp,cm g x:=by
  have hm:=List.mem_of_getElem? (getD_some (d:=bV) hj)
  exact ⟨oP _ _,fun x hx=>((pY hf (h.bp _ hm).2.2).1 hx).has (h.bp _ hm).2.2⟩
structure Cz (g:an) (a:List bz):Prop where
  bp:∀ s∈a,cE s.bp∧s.bp≠[]∧∀ x∈s.bp,cm g x
  bU:∀ s∈a,s.bU.length≤40
  to:∀ s∈a,∀ e∈s.bU,0≤e.to∧e.to < a.length
  sym:∀ s∈a,∀ e∈s.bU,-1000≤e.sym∧e.sym≤1000
theorem dd.ok {g:an} {at_ i:Nat} {out:List bz} (h:dd g at_ i out):Cz g out :=
  ⟨h.bp,fun s hs=>by obtain ⟨j,hj,e⟩:=List.mem_iff_getElem.1 hs; exact (h.bU j s (by rw[List.getElem?_eq_getElem hj,e])).1,h.to,h.sym⟩
theorem CS {g:an} (hf:g.dg):∀ (f at_:Nat) (out:List bz),dd g at_ 0 out→1≤out.length→out.length≤300→(fp g f at_ out).2=0→Cz g (fp g f at_ out).1∧1≤(fp g f at_ out).1.length∧(fp g f at_ out).1.length≤300
  | 0,_,out,h,h1,h2,_=>⟨h.ok,h1,h2⟩
  | f+1,at_,out,h,h1,h2,h3=>by
    rw[fp] at h3 ⊢
    split
    · rename_i ha
      rw[if_pos ha] at h3
      have hr:=dd.row (h.nU hf ha).1 (h.nU hf ha).2 h (g.av.length+g.az.length) (by have:=hf.av; have:=hf.az; omega)
      rw[show (List.range (g.av.length+g.az.length)).foldl (dp g (cn g (out.getD at_ bV).bp) at_) out=z1 g at_ out (g.av.length+g.az.length) from rfl] at hr
      split
      · rename_i hc; rw[if_pos hc] at h3; simp at h3
      · rename_i hc
        rw[if_neg hc] at h3
        exact CS hf f (at_+1) _ hr.1.next (by omega) (by omega) h3
    · exact ⟨h.ok,h1,h2⟩
theorem Lj {g:an} (hf:g.dg) (h:(dQ g).2=0):Cz g (dQ g).1∧1≤(dQ g).1.length∧(dQ g).1.length≤300:=by
  unfold dQ at h ⊢
  split
  · rename_i hr
    rw[if_pos hr] at h
    exact CS hf 302 0 dD nh (by simp[dD]) (by simp[dD]) h
  · rename_i hr
    rw[if_neg hr] at h
    simp at h
def jR (l:List gU):List (List V):=l.map yA
def sG (s:bz):List V:=[.aK (aS s.bp),.aK (jR s.bU)]
def j3 (a:List bz):V:=.aK (a.map sG)
abbrev rX:=V × V × bz
def gX (A:List rX):List (List V):=A.map fun x=>[x.1,x.2.1]
def qC (A:List rX):List eJ:=A.flatMap fun x=>[(x.1,2,aS x.2.2.bp),(x.2.1,2,jR x.2.2.bU)]
theorem fo (A:List rX):(gX A).length=A.length:=by simp[gX]
theorem AK {A:List rX} {x:rX} (hx:x∈A):(x.1,2,aS x.2.2.bp)∈qC A∧(x.2.1,2,jR x.2.2.bU)∈qC A:=by
  constructor <;> exact List.mem_flatMap.2 ⟨x,hx,by simp⟩
theorem MR {h:aB} {u:V} {A:List rX} (ho:aN h.view u 2 (gX A)) (hb:∀ x∈A,aN h.view x.1 2 (aS x.2.2.bp)∧aN h.view x.2.1 2 (jR x.2.2.bU)):dx h u (j3 (A.map fun x=>x.2.2)):=by
  have hg:∀ i (hi:i < A.length),(gX A).getD i []=[(A[i]).1,(A[i]).2.1]∧(((A.map fun x=>x.2.2).map sG).getD i [])=sG (A[i]).2.2:=fun i hi=>by
    simp[gX,List.getD_eq_getElem?_getD,hi]
  refine dx.own ho (by simp[gX]) (fun i hi=>?_) (fun i j hi hj=>?_)
  · have hi':i < A.length:=by simpa [gX] using hi
    rw[(hg i hi').1,(hg i hi').2]; rfl
  · have hi':i < A.length:=by simpa [gX] using hi
    rw[(hg i hi').2] at hj ⊢
    rw[(hg i hi').1]
    have hx:=hb _ (List.getElem_mem hi')
    generalize A[i]'hi'=y at hx hj
    obtain ⟨h1,h2⟩:=hx
    match j,hj with
    | 0,_ =>
      refine dx.own h1 rfl (fun i _=>rfl) (fun i j hi hj=>?_)
      rw[bb] at hi
      have e:(aS y.2.2.bp).getD i []=bu y.2.2.bp[i]:=by simp[aS,List.getD_eq_getElem?_getD,hi]
      rw[e] at hj ⊢
      match j,hj with
      | 0,_=>exact .val _
      | 1,_=>exact .val _
    | 1,_ =>
      refine dx.own h2 rfl (fun i _=>rfl) (fun i j hi hj=>?_)
      simp only[jR,List.length_map] at hi
      have e:(jR y.2.2.bU).getD i []=yA y.2.2.bU[i]:=by simp[jR,List.getD_eq_getElem?_getD,hi]
      rw[e] at hj ⊢
      match j,hj with
      | 0,_=>exact .val _
      | 1,_=>exact .val _
    | n+2,hj=>exact absurd hj (by simp[sG])
theorem zT {h:aB} {u v:V} {e:Int} (h1:dx h u v):dx h (.bc [u,gi e]) (.bc [v,gi e]):=.bc _ _ rfl fun i hi=>by
  match i,hi with
  | 0,_=>exact h1
  | 1,_=>exact .val _
theorem CH {α:Type} {l:List α} {i:Nat} (h:i < l.length):∃ a x b,l=a ++ x :: b∧a.length=i∧l[i]?=some x :=
  ⟨l.take i,l[i],l.drop (i+1),by rw[← List.drop_eq_getElem_cons h,List.take_append_drop],by simp; omega,List.getElem?_eq_getElem h⟩
theorem Hv {α:Type} (a:List α) (x:α) (b:List α) (f:α→α):(a ++ x :: b).modify a.length f=a ++ f x :: b:=by
  induction a with
  | nil=>rfl
  | cons y a ih=>simp only[List.cons_append,List.length_cons,List.modify_succ_cons,ih]
theorem m4 {g:an} (h:isRed g=true):bt g=true:=by
  unfold isRed at h
  simp only[Bool.and_eq_true,beq_iff_eq,decide_eq_true_eq] at h
  refine Decidable.byContradiction fun hn=>?_
  have h1:=h.1
  unfold gE at h1
  simp[hn] at h1
theorem zg {g:an} (h:isRed g=true):g.dg:=bC (m4 h)
theorem F0 (A:List rX) (x:rX) (B:List rX):qC (A ++ x :: B)=qC A ++ (x.1,2,aS x.2.2.bp) :: (x.2.1,2,jR x.2.2.bU) :: qC B:=by simp[qC]
theorem toNat_zero {s:BV} : ((s.toNat:Nat):Int)=0↔s=0:=by
  constructor
  · intro h; exact BitVec.eq_of_toNat_eq (by simpa using h)
  · rintro rfl; rfl
def oD:SF:=⟨.seq (al [b6 2 0,b6 3 1,aV 4 false]) <|
  .seq (.region true [⟨none,[aH 5 4 2,aG 6 54 [5],aa 7 6]⟩,⟨(some (7,true)),[ao 8 0 3,aq 9 8,ax 10 .geq 9 (-1)]⟩,⟨none,[bB 11 7 10,aa 12 11]⟩,⟨(some (12,true)),[ao 13 0 3,aq 14 13,ao 15 2 2,aq 16 15,aM 17 16,aO 18 .lss 14 17]⟩,⟨none,[bB 19 12 18,aa 20 19]⟩,⟨(some (20,true)),[ao 21 1 3,aq 22 21,ax 23 .geq 22 0]⟩,⟨none,[bB 24 20 23,aa 25 24]⟩,⟨(some (25,true)),[ao 26 1 3,aq 27 26,aH 28 4 2,ao 29 0 3,aq 30 29,aG 31 55 [28,30],aM 32 31,aO 33 .leq 27 32]⟩,⟨none,[bB 34 25 33,aa 4 34]⟩]) <|
  .ret,
  [.tmp 4],35⟩
theorem sK:bh Tryz.prog 20 [2,3]=some oD:=by kernel_rfl
def nD:SF:=⟨.seq (al [b6 2 0,b6 3 1,aF 4 0,aV 5 false]) <|
  .seq (.seq (al [aH 6 4 2,aH 7 2 3,aG 8 20 [6,7],cb 9 8]) <|
  .cond (.tmp 9) (.seq (al [aF 4 0,aV 5 false]) <|
  .ret) (.skip)) <|
  .seq (al [aH 10 4 2,aH 11 2 3,aG 12 51 [10,11],ct 13 0 12,ct 14 1 12,aa 4 13,aa 5 14]) <|
  .ret,
  [.tmp 4,.tmp 5],15⟩
theorem rQ:bh Tryz.prog 18 [2,3]=some nD:=by kernel_rfl
instance (g:an) (x:aJ):Decidable (cm g x):=by unfold cm; infer_instance
def dI (g:an) (x:aJ):Bool:=bt g && decide (cm g x)
theorem Av (g:an) (x:aJ):∀ v∈[V.agg (aw g),.agg (bu x)],Tree v:=by
  intro v hv; simp at hv
  rcases hv with rfl | rfl
  · exact cI _ (dr g)
  · exact cI _ fun v hv=>by simp[bu] at hv; rcases hv with rfl | rfl <;> exact .val _
set_option maxHeartbeats 4000000 in
theorem LS (g:an) (hg:g.Ok) (x:aJ) (hx:bO x.aD∧bO x.dot):aC Tryz.prog 20 [.agg (aw g),.agg (bu x)] (gb (dI g x)):=by
  refine aC.val (Av g x) fun H=>?_
  have hr9:=HN g hg
  obtain ⟨hx1,hx2⟩:=hx
  unfold bO at hx1 hx2
  refine aA.of mixed sK ?_
  simp only[aw,encS] at hr9
  simp (disch:=omega) only [↓wr,↓reduceIte,wq,ah,ag,aj,ab,ae,af,ai,isNil,Nat.reduceEqDiff,Nat.reduceAdd,Nat.reduceLT,Nat.reduceLeDiff,Int.reduceNeg,Int.reduceToNat,reduceCtorEq,oD,aw,encS,bu]
  refine aE.pure hr9 (by kernel_rfl) ?_
  have bad:¬ cm g x→gb false=gb (dI g x):=fun h=>by unfold dI; rw[decide_eq_false h,Bool.and_false]
  simp (disch:=omega) only [↓wr,↓reduceIte,wq,ah,ag,aj,ab,ae,af,ai,isNil,Nat.reduceEqDiff,Nat.reduceAdd,Nat.reduceLT,Nat.reduceLeDiff,Int.reduceNeg,Int.reduceToNat,reduceCtorEq]
  refine au.split (fun hr=>?_) (fun hr=>?_)
  rotate_left
  · simp (disch:=omega) only [↓wr,↓reduceIte,wq,ah,ag,aj,ab,ae,af,ai,isNil,Nat.reduceEqDiff,Nat.reduceAdd,Nat.reduceLT,Nat.reduceLeDiff,Int.reduceNeg,Int.reduceToNat,reduceCtorEq]
    unfold dI; rw[hr]; rfl
  have hf:=bC hr
  simp (disch:=omega) only [↓wr,↓reduceIte,wq,ah,ag,aj,ab,ae,af,ai,isNil,Nat.reduceEqDiff,Nat.reduceAdd,Nat.reduceLT,Nat.reduceLeDiff,Int.reduceNeg,Int.reduceToNat,reduceCtorEq,bu]
  refine au.dec (fun h1=>?_) (fun h1=>?_)
  rotate_left
  · simp (disch:=omega) only [↓wr,↓reduceIte,wq,ah,ag,aj,ab,ae,af,ai,isNil,Nat.reduceEqDiff,Nat.reduceAdd,Nat.reduceLT,Nat.reduceLeDiff,Int.reduceNeg,Int.reduceToNat,reduceCtorEq]
    exact bad fun h=>by have:=h.1; omega
  simp (disch:=omega) only [↓wr,↓reduceIte,wq,ah,ag,aj,ab,ae,af,ai,isNil,Nat.reduceEqDiff,Nat.reduceAdd,Nat.reduceLT,Nat.reduceLeDiff,Int.reduceNeg,Int.reduceToNat,reduceCtorEq,bu,aw]
  refine au.dec (fun h2=>?_) (fun h2=>?_)
  rotate_left
  · simp (disch:=omega) only [↓wr,↓reduceIte,wq,ah,ag,aj,ab,ae,af,ai,isNil,Nat.reduceEqDiff,Nat.reduceAdd,Nat.reduceLT,Nat.reduceLeDiff,Int.reduceNeg,Int.reduceToNat,reduceCtorEq]
    exact bad fun h=>by have:=h.1; omega
  simp (disch:=omega) only [↓wr,↓reduceIte,wq,ah,ag,aj,ab,ae,af,ai,isNil,Nat.reduceEqDiff,Nat.reduceAdd,Nat.reduceLT,Nat.reduceLeDiff,Int.reduceNeg,Int.reduceToNat,reduceCtorEq,bu]
  refine au.dec (fun h3=>?_) (fun h3=>?_)
  rotate_left
  · simp (disch:=omega) only [↓wr,↓reduceIte,wq,ah,ag,aj,ab,ae,af,ai,isNil,Nat.reduceEqDiff,Nat.reduceAdd,Nat.reduceLT,Nat.reduceLeDiff,Int.reduceNeg,Int.reduceToNat,reduceCtorEq]
    exact bad fun h=>by have:=h.2; omega
  have hrt:=zy g (ln hf) x.aD ⟨by omega,by omega⟩
  have hl6:=dE hf (r:=x.aD) ⟨by omega,by omega⟩
  simp only[aw,encS,encI] at hrt
  simp (disch:=omega) only [↓wr,↓reduceIte,wq,ah,ag,aj,ab,ae,af,ai,isNil,Nat.reduceEqDiff,Nat.reduceAdd,Nat.reduceLT,Nat.reduceLeDiff,Int.reduceNeg,Int.reduceToNat,reduceCtorEq,bu,aw,encS]
  refine aE.pure hrt (by kernel_rfl) ?_
  simp (disch:=omega) only [↓wr,↓reduceIte,wq,ah,ag,aj,ab,ae,af,ai,isNil,Nat.reduceEqDiff,Nat.reduceAdd,Nat.reduceLT,Nat.reduceLeDiff,Int.reduceNeg,Int.reduceToNat,reduceCtorEq,bu]
  congr 2
  unfold dI
  rw[hr,Bool.true_and]
  congr 1
  unfold cm
  simp only[eq_iff_iff]
  omega
def sA (g:an) (x:aJ):Int × Bool:=if dI g x=true then bM g x else (0,false)
theorem k8 {g:an} {x:aJ} : dI g x=true↔bt g=true∧cm g x:=by simp[dI]
set_option maxHeartbeats 4000000 in
theorem BE (g:an) (hg:g.Ok) (x:aJ) (hx:bO x.aD∧bO x.dot):aC Tryz.prog 18 [.agg (aw g),.agg (bu x)] (.bc [gi (sA g x).1,gb (sA g x).2]):=by
  have hh:=LS g hg x hx
  refine aC.tree (Av g x) (Iv (.val _) (.val _)) fun H=>?_
  refine aA.of mixed rQ ?_
  simp only[aw,encS,bu] at hh
  simp (disch:=omega) only [↓wr,↓reduceIte,wq,ah,ag,aj,ab,ae,af,ai,isNil,Nat.reduceEqDiff,Nat.reduceAdd,Nat.reduceLT,Nat.reduceLeDiff,Int.reduceNeg,Int.reduceToNat,reduceCtorEq,nD,aw,encS,bu]
  refine aE.pure hh (by kernel_rfl) ?_
  unfold sA
  simp (disch:=omega) only [↓wr,↓reduceIte,wq,ah,ag,aj,ab,ae,af,ai,isNil,Nat.reduceEqDiff,Nat.reduceAdd,Nat.reduceLT,Nat.reduceLeDiff,Int.reduceNeg,Int.reduceToNat,reduceCtorEq]
  refine au.split (fun h=>?_) (fun h=>?_)
  · obtain ⟨h1,h2⟩:=k8.1 h
    have hn:=K1 g (bC h1) x h2
    simp only[aw,encS,bu] at hn
    simp (disch:=omega) only [↓wr,↓reduceIte,wq,ah,ag,aj,ab,ae,af,ai,isNil,Nat.reduceEqDiff,Nat.reduceAdd,Nat.reduceLT,Nat.reduceLeDiff,Int.reduceNeg,Int.reduceToNat,reduceCtorEq,aw,encS,bu]
    refine aE.pure hn (by kernel_rfl) ?_
    simp (disch:=omega) only [↓wr,↓reduceIte,wq,ah,ag,aj,ab,ae,af,ai,isNil,Nat.reduceEqDiff,Nat.reduceAdd,Nat.reduceLT,Nat.reduceLeDiff,Int.reduceNeg,Int.reduceToNat,reduceCtorEq]
    rw[if_pos h]
  · simp (disch:=omega) only [↓wr,↓reduceIte,wq,ah,ag,aj,ab,ae,af,ai,isNil,Nat.reduceEqDiff,Nat.reduceAdd,Nat.reduceLT,Nat.reduceLeDiff,Int.reduceNeg,Int.reduceToNat,reduceCtorEq]
    rw[h]; simp
theorem Kw (g:an):cn g []=[]:=by
  have:∀ x,¬ n0 g [] x:=fun x h=>by
    induction h with
    | base h=>simp at h
    | step _ _ _ _ _ ih=>exact ih
  unfold cn
  rw[List.filter_eq_nil_iff.2 fun x _=>by simp[this x]]
  rfl
theorem I3 {h:aB} {u:V} {l:List aJ} (ho:aN h.view u 2 (aS l)):dx h u (.aK (aS l)):=by
  refine dx.own ho rfl (fun i _=>rfl) (fun i j hi hj=>?_)
  rw[bb] at hi
  have e:(aS l).getD i []=bu l[i]:=by simp[aS,List.getD_eq_getElem?_getD,hi]
  rw[e] at hj ⊢
  match j,hj with
  | 0,_=>exact .val _
  | 1,_=>exact .val _
theorem B9 {α:Type} {l:List α} {p:α→Bool} {i:Nat} {x:α} (h:l[i]?=some x):(l.take (i+1)).filter p=if p x=true then (l.take i).filter p ++ [x] else (l.take i).filter p:=by
  rw[List.take_add_one,h,List.filter_append]
  split
  · rename_i hp; simp[hp]
  · rename_i hp; simp[hp]
open Go Go.Proofs Go.Shelf Go.RowKit Go.Sort
theorem bw.cut {P:Program} {f:FuncId} {vs:List V} {h h':aB} {r:V} (hc:bw P f vs h r h') {id sz:Nat} {es rest:List (List V)} (hid:h'.view id=.arr sz (es ++ rest)):bw P f vs h r (h'.set id (.arr sz es)):=by
  have hlt:id < h'.length:=fU (by rw[hid]; simp)
  refine ⟨by simpa using hc.1,fun Z μ F w xs hr hh hf=>(hc.2 Z μ F w xs hr hh (by simpa using hf)).mono ?_⟩
  rintro e w' ⟨x,Z',μ',rfl,hv,hh',hex,hmu⟩
  refine ⟨x,Z',μ',rfl,hv,?_,hex,by simpa using hmu⟩
  have e1:∀ k,cat (h'.set id (.arr sz es)) F k=if k=id then .arr sz es else cat h' F k:=fun k=>by
    simp only[cat,List.length_set]
    by_cases hk:k < h'.length
    · rw[if_pos hk,if_pos hk,ic hlt]; rfl
    · rw[if_neg hk,if_neg hk,if_neg (by omega)]
  have e2:cat h' F id=.arr sz (es ++ rest):=by simp only[cat]; rw[if_pos hlt,hid]
  refine ⟨fun k=>?_,fun i j b o s o' s' hne h1 h2=>?_,hh'.lt,hh'.bZ,hh'.fq⟩
  · rw[e1]
    split
    · rename_i hk
      subst hk
      have h3:=hh'.obj k
      rw[e2] at h3
      intro b o0 s hm
      obtain ⟨k1,⟨c,e,f,hc,hf,hs⟩,k3,k4⟩:=h3 b o0 s hm
      have hg:∀ i,i < es.length→(es ++ rest).getD i []=es.getD i []:=fun i hi=>by
        simp[List.getD_eq_getElem?_getD,List.getElem?_append_left hi]
      refine ⟨k1,⟨c,e,f,hc,hf,?_⟩,fun i hi=>?_,fun i j hi hj=>?_⟩
      · rw[List.length_append,Nat.add_mul] at hs; omega
      · rw[← hg i hi]; exact k3 i (by rw[List.length_append]; omega)
      · rw[← hg i hi]; exact k4 i j (by rw[List.length_append]; omega) hj
    · exact hh'.obj k
  · have h3:=hh'.inj i j b o s o' s' hne h1 h2
    rw[e1,e1]
    rcases h3 with h3 | h3
    · left
      rw[if_neg (fun e=>by rw[e,e2] at h3; simp at h3)]; exact h3
    · right
      rw[if_neg (fun e=>by rw[e,e2] at h3; simp at h3)]; exact h3
theorem aA.cut {P:Program} {f:FuncId} {vs:List V} {H:View} {K K':V→View→Prop} (h:aA P f vs H K) (hk:∀ r H',K r H'→K' r H'∨∃ id sz es rest,H' id=.arr sz (es ++ rest)∧K' r (H'.set id (.arr sz es))):aA P f vs H K':=by
  refine ⟨h.1,fun h0 hv=>?_⟩
  obtain ⟨r,h',ha,hs,hK⟩:=h.2 h0 hv
  rcases hk r _ hK with h1 | ⟨id,sz,es,rest,hid,h1⟩
  · exact ⟨r,h',ha,hs,h1⟩
  · have hlt:id < h'.length:=fU (by rw[hid]; simp)
    refine ⟨r,h'.set id (.arr sz es),ha.cut hid,fun k hk0 hd=>?_,by rw[ic hlt]; exact h1⟩
    have h2:=hs k hk0 hd
    rw[ic hlt]
    simp only[View.set]
    rw[if_neg (fun e=>by rw[e,hid] at h2; simp at h2)]
    exact h2
instance:Inhabited aJ:=⟨⟨0,0⟩⟩
def gh (x:aJ):List Value:=[.int .i64 x.aD,.int .i64 x.dot]
def k5 (a b:aJ):Int:=if Lib.compareInt a.aD b.aD≠0 then Lib.compareInt a.aD b.aD else Lib.compareInt a.dot b.dot
theorem LO (a b:aJ):(Lib.compareInt a.aD b.aD≠0→k5 a b=Lib.compareInt a.aD b.aD)∧(Lib.compareInt a.aD b.aD=0→k5 a b=Lib.compareInt a.dot b.dot):=by
  unfold k5
  exact ⟨fun h=>by rw[if_pos h],fun h=>by rw[if_neg (by simp[h])]⟩
theorem pt (a b:aJ):ltOf k5 a b=cF a b:=by
  have hc:∀ x y:Int,(x < y∧Lib.compareInt x y = -1)∨(x=y∧Lib.compareInt x y=0)∨(y < x∧Lib.compareInt x y=1):=fun x y=>by
    unfold Lib.compareInt; (repeat' split) <;> omega
  rw[Bool.eq_iff_iff,eY]
  simp only[ltOf,decide_eq_true_eq,k5]
  rcases hc a.aD b.aD with ⟨h,e⟩ | ⟨h,e⟩ | ⟨h,e⟩ <;> rcases hc a.dot b.dot with ⟨k,e2⟩ | ⟨k,e2⟩ | ⟨k,e2⟩ <;> simp[e,e2] <;> omega
theorem GS:SWO (ltOf k5) where
  irrefl x:=by rw[pt]; exact kY
  trans x y z h k:=by rw[pt] at *; exact kV h k
  ntrans x y z h k:=by
    rw[pt] at *
    cases e:cF x z with
    | false=>rfl
    | true =>
      have h1:¬ cF x y=true:=by simp[h]
      have h2:¬ cF y z=true:=by simp[k]
      rw[eY] at h1 h2 e
      omega
def dw (l:List aJ):List aJ:=l.mergeSort fun x y=>!cF y x
theorem IY (l:List aJ):(l.toArray.toList.mergeSort fun x y=>!(ltOf k5) y x)=dw l:=by
  have e:(fun x y=>!(ltOf k5) y x)=fun x y=>!cF y x:=by funext x y; rw[pt]
  rw[e]; rfl
theorem w9 (l:List aJ):(dw l).Perm l:=List.mergeSort_perm _ _
theorem gx (l:List aJ):(dw l).length=l.length:=(w9 l).length_eq
theorem wL (l:List aJ):(dw l).Pairwise fun x y=>cF y x=false:=by
  have:=List.pairwise_mergeSort (le:=fun x y:aJ=>!cF y x) (fun a b c h k=>by
      simp only[Bool.not_eq_true',Bool.not_eq_false'] at h k ⊢
      cases e:cF c a with
      | false=>simp
      | true =>
        have h1:¬ cF b a=true:=by simpa using h
        have h2:¬ cF c b=true:=by simpa using k
        rw[eY] at h1 h2 e
        omega) (fun a b=>by
      cases e:cF b a with
      | false=>simp
      | true=>simp[Fg e]) l
  exact this.imp fun h=>by simpa using h
def J0:Ren where
  f:=fun
    | 6=>112
    | 15=>167
    | 14=>166
    | 28=>207
    | 29=>208
    | 20=>199
    | 21=>200
    | 22=>201
    | 23=>202
    | 24=>203
    | 25=>204
    | 26=>205
    | 27=>206
    | 46=>227
    | 47=>228
    | 48=>229
    | 49=>230
    | 50=>231
    | 57=>244
    | n=>n
  t:=fun
    | 22=>27
    | 24=>33
    | 25=>164
    | 3=>3
    | 39=>212
    | 0=>0
    | 53=>67
    | 55=>249
    | 4=>4
    | 46=>242
    | 45=>241
    | 50=>30
    | 5=>5
    | 9=>9
    | 66=>269
    | 70=>273
    | 76=>282
    | 77=>283
    | n=>n
  g:=fun n=>n
theorem Mk:Go.Proofs.SlLaysF0.n6 Tryz.prog J0 where
  mixed:=by kernel_rfl
  f6:=⟨Tryz.f112.name,by kernel_rfl,by kernel_rfl⟩
  f14:=⟨Tryz.f166.name,by kernel_rfl,by kernel_rfl⟩
  f15:=by kernel_rfl
  f20:=⟨Tryz.f199.name,by kernel_rfl,by kernel_rfl⟩
  f21:=⟨Tryz.f200.name,by kernel_rfl,by kernel_rfl⟩
  f22:=⟨Tryz.f201.name,by kernel_rfl,by kernel_rfl⟩
  f23:=⟨Tryz.f202.name,by kernel_rfl,by kernel_rfl⟩
  f24:=⟨Tryz.f203.name,by kernel_rfl,by kernel_rfl⟩
  f25:=⟨Tryz.f204.name,by kernel_rfl,by kernel_rfl⟩
  f26:=⟨Tryz.f205.name,by kernel_rfl,by kernel_rfl⟩
  f27:=⟨Tryz.f206.name,by kernel_rfl,by kernel_rfl⟩
  f28:=by kernel_rfl
  f29:=by kernel_rfl
  f46:=⟨Tryz.f227.name,by kernel_rfl,by kernel_rfl⟩
  f47:=by kernel_rfl
  f48:=by kernel_rfl
  f49:=⟨Tryz.f230.name,by kernel_rfl,by kernel_rfl⟩
  f50:=⟨Tryz.f231.name,by kernel_rfl,by kernel_rfl⟩
  f57:=⟨Tryz.f244.name,by kernel_rfl,by kernel_rfl⟩
  t0:=Tryz.underlying0
  a0:=Tryz.isAgg0
  z0:=Tryz.sizeOf0
  v0:=Tryz.zeroValue0
  t3:=Tryz.underlying3
  a3:=Tryz.isAgg3
  z3:=Tryz.sizeOf3
  v3:=Tryz.zeroValue3
  t4:=Tryz.underlying4
  a4:=Tryz.isAgg4
  z4:=Tryz.sizeOf4
  v4:=Tryz.zeroValue4
  t5:=Tryz.underlying5
  a5:=Tryz.isAgg5
  z5:=Tryz.sizeOf5
  v5:=Tryz.zeroValue5
  t9:=Tryz.underlying9
  a9:=Tryz.isAgg9
  z9:=Tryz.sizeOf9
  v9:=Tryz.zeroValue9
  t22:=Tryz.underlying27
  a22:=Tryz.isAgg27
  z22:=Tryz.sizeOf27
  v22:=Tryz.zeroValue27
  t25:=Tryz.underlying164
  a25:=Tryz.isAgg164
  z25:=Tryz.sizeOf164
  v25:=Tryz.zeroValue164
  t39:=Tryz.underlying212
  a39:=Tryz.isAgg212
  z39:=Tryz.sizeOf212
  v39:=Tryz.zeroValue212
  t45:=Tryz.underlying241
  a45:=Tryz.isAgg241
  z45:=Tryz.sizeOf241
  v45:=Tryz.zeroValue241
  t46:=Tryz.underlying242
  a46:=Tryz.isAgg242
  z46:=Tryz.sizeOf242
  v46:=Tryz.zeroValue242
  t50:=Tryz.underlying30
  a50:=Tryz.isAgg30
  z50:=Tryz.sizeOf30
  v50:=Tryz.zeroValue30
  t53:=Tryz.underlying67
  a53:=Tryz.isAgg67
  z53:=Tryz.sizeOf67
  v53:=Tryz.zeroValue67
  t55:=Tryz.underlying249
  a55:=Tryz.isAgg249
  z55:=Tryz.sizeOf249
  v55:=Tryz.zeroValue249
  t66:=Tryz.underlying269
  a66:=Tryz.isAgg269
  z66:=Tryz.sizeOf269
  v66:=Tryz.zeroValue269
  t70:=Tryz.underlying273
  a70:=Tryz.isAgg273
  z70:=Tryz.sizeOf273
  v70:=Tryz.zeroValue273
  t76:=Tryz.underlying282
  a76:=Tryz.isAgg282
  z76:=Tryz.sizeOf282
  v76:=Tryz.zeroValue282
  t77:=Tryz.underlying283
  a77:=Tryz.isAgg283
  z77:=Tryz.sizeOf283
  v77:=Tryz.zeroValue283
def LM:Ren where
  f:=fun
    | 5=>126
    | 7=>173
    | n=>n
  t:=fun
    | 22=>3
    | 3=>3
    | 4=>4
    | n=>n
  g:=fun n=>n
theorem NT:Go.Proofs.SlLaysC2.n5 Tryz.prog LM where
  mixed:=by kernel_rfl
  f5:=⟨Tryz.f126.name,by kernel_rfl,by kernel_rfl⟩
  f7:=⟨Tryz.f173.name,by kernel_rfl,by kernel_rfl⟩
  t3:=Tryz.underlying3
  a3:=Tryz.isAgg3
  z3:=Tryz.sizeOf3
  v3:=Tryz.zeroValue3
  t4:=Tryz.underlying4
  a4:=Tryz.isAgg4
  z4:=Tryz.sizeOf4
  v4:=Tryz.zeroValue4
  t22:=Tryz.underlying3
  a22:=Tryz.isAgg3
  z22:=Tryz.sizeOf3
  v22:=Tryz.zeroValue3
section
attribute [local go_sem] Oper.semAt_some
set_option maxHeartbeats 4000000 in
theorem Fh (x y:Int) (b cap:Nat) (W:World) (h0:W.cell? ⟨b,0,none⟩=some (.int .i64 x)) (h1:W.cell? ⟨b,1,none⟩=some (.int .i64 y)) (r:Int) (hr:(x≠0→r=x)∧(x=0→r=y)) :
    Calls Tryz.prog 168 #[.slice (some ⟨b,0,none⟩) 2 cap] W fun e w'=>e=.returned (.int .i64 r)∧w'=W:=by
  go_enter Tryz.func168,Tryz.ntmps168
  go_wp2
  refine wp_loop_rounds 3 ?_
  rw[rounds_succ]
  go_wp2
  · rename_i h
    go_ret
    exact ⟨by rw[hr.1 (by simpa using h)]; rfl,rfl⟩
  · rename_i h
    have hx:x=0:=by simpa using h
    rw[rounds_succ]
    go_wp2
    · rename_i h
      go_ret
      exact ⟨by rw[hr.2 hx]; rfl,rfl⟩
    · rename_i h
      rw[rounds_succ]
      go_wp2
      go_ret
      exact ⟨by rw[hr.2 hx,show y=0 by simpa using h]; rfl,rfl⟩
structure N6 (p:Prop):Prop where
  out:p
set_option maxHeartbeats 4000000 in
theorem E8 (x1 x2 y1 y2:Int) (W:World) (r:Int) (hr:(Lib.compareInt x1 y1≠0→r=Lib.compareInt x1 y1)∧(Lib.compareInt x1 y1=0→r=Lib.compareInt x2 y2)) :
    Calls Tryz.prog 113 #[.agg #[.int .i64 x1,.int .i64 x2],.agg #[.int .i64 y1,.int .i64 y2]] W fun e w'=>e=.returned (.int .i64 r)∧∃ q os',w'=grow (W.drewN q) os':=by
  have hcon1:=fun W'=>AnyG.cmp_Compare_int NT x1 y1 W'
  change ∀ W',Calls Tryz.prog 126 _ _ _ at hcon1
  have hcon2:=fun W'=>AnyG.cmp_Compare_int NT x2 y2 W'
  change ∀ W',Calls Tryz.prog 126 _ _ _ at hcon2
  generalize Lib.compareInt x1 y1=c1 at *
  generalize Lib.compareInt x2 y2=c2 at *
  go_enter Tryz.func113,Tryz.ntmps113
  go_wp2_with (first | (go_at_call 126; refine (hcon1 _).mono ?_; rintro e w' ⟨rfl,rfl⟩) | (go_at_call 126; refine (hcon2 _).mono ?_; rintro e w' ⟨rfl,rfl⟩))
  obtain ⟨b1,hb1⟩:∃ b1,b1=W.heap.size:=⟨_,rfl⟩
  obtain ⟨b2,hb2⟩:∃ b2,b2=W.heap.size+1:=⟨_,rfl⟩
  rw[← hb2,← hb1]
  generalize hW1:(W.alloc (Obj.cells #[Value.int IntKind.i64 x1,Value.int IntKind.i64 x2] 33)).alloc (Obj.cells #[Value.int IntKind.i64 y1,Value.int IntKind.i64 y2] 33)=W1
  have hh1:W1.heap[b1]?=some (.cells #[Value.int IntKind.i64 x1,Value.int IntKind.i64 x2] 33 (0,0)):=by
    rw[← hW1,hb1]; exact (Below.heap_alloc _ _ _ (by simp)).trans (World.alloc_heap_new W _)
  have hh2:W1.heap[b2]?=some (.cells #[Value.int IntKind.i64 y1,Value.int IntKind.i64 y2] 33 (0,0)):=by
    rw[← hW1,hb2]
    have:=World.alloc_heap_new (W.alloc (Obj.cells #[Value.int IntKind.i64 x1,Value.int IntKind.i64 x2] 33)) (Obj.cells #[Value.int IntKind.i64 y1,Value.int IntKind.i64 y2] 33)
    rwa [World.size_alloc] at this
  have k0:W1.cell? ⟨b1,0,none⟩=some (.int .i64 x1):=by unfold World.cell?; rw[hh1]; rfl
  have k1:W1.cell? ⟨b1,1,none⟩=some (.int .i64 x2):=by unfold World.cell?; rw[hh1]; rfl
  have k2:W1.cell? ⟨b2,0,none⟩=some (.int .i64 y1):=by unfold World.cell?; rw[hh2]; rfl
  have k3:W1.cell? ⟨b2,1,none⟩=some (.int .i64 y2):=by unfold World.cell?; rw[hh2]; rfl
  clear hh1 hh2
  refine wp_region_still_tail 10 (by kernel_rfl) (by kernel_rfl) ?_
  change wpStill _ _ W1.drew (fun a'=>wpList _ _ _ _ a' W1.drew) _ _
  generalize hW2:W1.drew=W2
  replace k0:W2.cell? ⟨b1,0,none⟩=some (.int .i64 x1):=by rw[← hW2]; exact k0
  replace k1:W2.cell? ⟨b1,1,none⟩=some (.int .i64 x2):=by rw[← hW2]; exact k1
  replace k2:W2.cell? ⟨b2,0,none⟩=some (.int .i64 y1):=by rw[← hW2]; exact k2
  replace k3:W2.cell? ⟨b2,1,none⟩=some (.int .i64 y2):=by rw[← hW2]; exact k3
  have hgr:N6 (W2=grow (W.drewN 1) #[Obj.cells #[Value.int IntKind.i64 x1,Value.int IntKind.i64 x2] 33,Obj.cells #[Value.int IntKind.i64 y1,Value.int IntKind.i64 y2] 33]):=by
    refine ⟨?_⟩
    rw[← hW2,← hW1,alloc_eq_grow,alloc_eq_grow,grow_grow]; rfl
  clear hW1 hW2 hb1 hb2
  simp only[List.take_succ_cons,List.take_zero,List.drop_succ_cons,List.drop_zero]
  iterate 4 still_step
  still_call (hcon1 _)
  iterate 4 still_step
  still_call (hcon2 _)
  refine wpStill_nil ?_
  go_wp2_with (go_at_call 168; refine (Fh c1 c2 _ _ _ ?_ ?_ r hr).mono ?_)
  · unfold World.cell?; rw[World.alloc_heap_new]; rfl
  · unfold World.cell?; rw[World.alloc_heap_new]; rfl
  · rintro e w' ⟨rfl,rfl⟩
    go_wp2
    go_ret
    refine ⟨rfl,1,#[Obj.cells #[Value.int IntKind.i64 x1,Value.int IntKind.i64 x2] 33,Obj.cells #[Value.int IntKind.i64 y1,Value.int IntKind.i64 y2] 33,Obj.cells #[Value.int IntKind.i64 c1,Value.int IntKind.i64 c2] 3],?_⟩
    rw[hgr.out,alloc_eq_grow,grow_grow]; rfl
end
theorem CU {Z:Nat→Prop} {μ:Mu} {hp:Array Obj} {id off len esz:Nat} {x:Value} (h:ay Z μ hp (.sl id off len esz) x) :
    (len=0∧∃ a,x=.slice a 0 0)∨∃ b o0 cap,∃ c:Array Value,∃ e f,x=.slice (some ⟨b,o0+off * esz,none⟩) len cap∧μ id=some (b,o0,esz)∧len≤cap∧hp[b]?=some (.cells c e f)∧o0+(off+cap) * esz≤c.size:=by
  cases h with
  | lS _ _ _ a=>exact .inl ⟨rfl,a,rfl⟩
  | sl _ _ _ _ b o0 cap c e f h1 h2 h3 h4=>exact .inr ⟨b,o0,cap,c,e,f,rfl,h1,h2,h3,h4⟩
theorem NR {Z:Nat→Prop} {μ:Mu} {hp:Array Obj} {f:FuncId} {x:Value} (h:ay Z μ hp (.fn f [] []) x):x=.func (.func f) #[] #[]:=by
  cases h with
  | fn _ _ _ aas bs h1 h2 _ _ =>
    rw[Array.eq_empty_of_size_eq_zero h1.symm,Array.eq_empty_of_size_eq_zero h2.symm]
theorem Ao (w:World) (b o0 m:Nat) (d:Array aJ) (os:Array Obj) {j:Nat} (hj:j < w.heap.size):(sortWorldK gh 2 w b o0 m d os).heap[j]?=if b=j then (w.heap[j]?).map (onCells (putCells id o0 (flatK gh 2 d))) else w.heap[j]?:=by
  unfold sortWorldK grow putRowK putRow mapBlock
  simp only[Sort.ahead]
  rw[Array.getElem?_append_left (by simpa using hj),Array.getElem?_modify]
set_option maxHeartbeats 4000000 in
theorem KE (l:List aJ) (hl:l.length < 1152921504606846976) (u:V) (H:View) (ho:aN H u 2 (aS l)):aA Tryz.prog 112 [u,.fn 113 [] []] H fun r H'=>r=.bc []∧(∀ id,owner u≠some id→H' id=H id)∧aN H' u 2 (aS (dw l)):=by
  refine ⟨by kernel_rfl,?_⟩
  rintro h rfl
  have eg:∀ args w,(callFunc 113 args).run Tryz.prog w=.ok (.enter 113 args) w:=enters_of Tryz.func113 (by kernel_rfl) rfl
  by_cases hnil:l=[]
  · subst hnil
    refine ⟨.bc [],h,⟨Nat.le_refl _,fun Z μ F w xs hrel hr hfree=>?_⟩,.refl _,rfl,fun _ _=>rfl,by simpa [dw] using ho⟩
    obtain ⟨hlen,hv⟩:=hrel
    obtain ⟨x,y,rfl⟩:∃ x y,xs=[x,y]:=by
      match xs,hlen with
      | [x,y],_=>exact ⟨x,y,rfl⟩
    have h0:ay Z μ w.heap u x:=hv 0 (by simp)
    obtain ⟨p,cap,rfl⟩:∃ p cap,x=.slice p 0 cap:=by
      rcases ho with ⟨_,k,rfl⟩ | ⟨n,rfl,_⟩
      · cases h0 with | emp _ a _ _=>exact ⟨a,0,rfl⟩
      · rcases CU h0 with ⟨_,a,e⟩ | ⟨b,o0,cap,c,e,f,e2,_⟩
        · exact ⟨a,0,e⟩
        · exact ⟨_,cap,e2⟩
    refine (AnyF.slices_SortFunc_none Mk p cap y w).mono ?_
    rintro e w' ⟨rfl,rfl⟩
    exact ⟨.tuple #[],Z,μ,rfl,.bc [] #[] rfl (fun i hi=>by simp at hi),hr,Ext.refl _ _ _ _,fun _ _=>rfl⟩
  have hpos:0 < l.length:=List.length_pos_iff.2 hnil
  obtain ⟨n,rfl,hn⟩:=ho.sl (by rw[bb]; exact hpos)
  rw[bb]
  have hlt:n < h.length:=fU (by rw[hn]; simp)
  refine ⟨.bc [],h.set n (.arr 2 (aS (dw l))),⟨by simp,fun Z μ F w xs hrel hr hfree=>?_⟩,fun k hk hd=>?_,rfl,fun id hid=>?_,?_⟩
  rotate_left
  · rw[ic hlt]
    simp only[View.set]
    rw[if_neg (fun e=>by rw[e,hn] at hd; simp at hd)]; exact hd
  · rw[ic hlt]
    simp only[View.set]
    rw[if_neg (fun e=>hid (by rw[e]; rfl))]
  · refine .inr ⟨n,by rw[bb,gx],?_⟩
    rw[ic hlt]; simp[View.set]
  obtain ⟨hlen,hv⟩:=hrel
  obtain ⟨x,y,rfl⟩:∃ x y,xs=[x,y]:=by
    match xs,hlen with
    | [x,y],_=>exact ⟨x,y,rfl⟩
  have h0:ay Z μ w.heap (.sl n 0 l.length 2) x:=hv 0 (by simp)
  have h1:ay Z μ w.heap (.fn 113 [] []) y:=hv 1 (by simp)
  have hy:=NR h1
  subst hy
  rcases CU h0 with ⟨e,_⟩ | ⟨b,o0,cap,c0,e0,f0,rfl,hμ,hcap,_,_⟩
  · omega
  rw[Nat.zero_mul,Nat.add_zero]
  have hcat:cat h F n=.arr 2 (aS l):=by simp only[cat]; rw[if_pos hlt,hn]
  have hob:=hr.obj n
  rw[hcat] at hob
  obtain ⟨_,⟨c,ty,fz,hc,hfz,hsz⟩,hq,hcell⟩:=hob b o0 2 hμ
  rw[bb] at hsz hq hcell
  have hbl:b < w.heap.size:=hr.lt _ _ _ _ hμ
  have hgl:∀ (m:List aJ) (i:Nat) (hi:i < m.length),(aS m).getD i []=bu m[i]:=fun m i hi=>by simp[aS,List.getD_eq_getElem?_getD,hi]
  have hH:HoldsK gh 2 w b o0 l.toArray:=by
    intro j hj
    rw[size_flatK] at hj
    have hj':j < l.length * 2:=by simpa using hj
    have hi:j / 2 < l.length:=by omega
    obtain ⟨x,hx,hxv⟩:=hcell (j / 2) (j % 2) hi (by omega)
    rw[show o0+j / 2 * 2+j % 2=o0+j by omega] at hx
    have hxe:x=(flatK gh 2 l.toArray)[j]!:=by
      rw[get_flatK _ _ _ _ hj]
      rw[hgl l _ hi] at hxv
      have e1:l.toArray[j / 2]! = l[j / 2]:=by simp[hi]
      rw[e1]
      rcases Nat.lt_or_ge (j % 2) 1 with h2 | h2
      · rw[show j % 2=0 by omega] at hxv ⊢
        simp only[bu,List.getD_cons_zero] at hxv
        cases hxv; rfl
      · rw[show j % 2=1 by omega] at hxv ⊢
        simp only[bu,List.getD_cons_succ,List.getD_cons_zero] at hxv
        cases hxv; rfl
    refine ⟨by rw[kL,hx,hxe]; rfl,?_⟩
    simp only[World.frozen?,hc]
    rcases hfz with e | e
    · simp only[e,Bool.and_eq_false_iff,decide_eq_false_iff_not]; omega
    · simp only[Bool.and_eq_false_iff,decide_eq_false_iff_not]; omega
  have hT:∀ x y,(ltOf k5) x y=false→(ltOf k5) y x=false→x=y:=fun x y h1 h2=>by
    rw[pt] at h1 h2
    exact Decidable.byContradiction fun hne=>by rw[sC h1 hne] at h2; simp at h2
  have hrun:=AnyQ.slices_SortFunc_total Mk 2 Tryz.isAgg33 Tryz.sizeOf33 gh (fun _=>rfl) (fun x v hv=>by simp[gh] at hv; rcases hv with rfl | rfl <;> rfl) k5 GS 113 #[] b o0 cap l.toArray w eg (fun _ _ _ _ x y=>E8 x.aD x.dot y.aD y.dot _ _ (LO x y)) hH hbl (by simp; omega) hT
  rw[IY] at hrun
  refine Calls.mono (show Calls Tryz.prog 112 _ w _ from hrun) ?_
  rintro e w' ⟨rfl,m,os,rfl⟩
  have hsl:=gx l
  have hheap:=fun {j:Nat} (hj:j < w.heap.size)=>Ao w b o0 m (dw l).toArray os hj
  have hafter:HoldsK gh 2 (sortWorldK gh 2 w b o0 m (dw l).toArray os) b o0 (dw l).toArray:=SWK.holds ⟨m,os,rfl⟩ hbl hH (by simp[hsl])
  have hsize:w.heap.size≤(sortWorldK gh 2 w b o0 m (dw l).toArray os).heap.size:=SWK.le (dk:=(dw l).toArray) ⟨m,os,rfl⟩
  have hsame:dC w (sortWorldK gh 2 w b o0 m (dw l).toArray os):=⟨rfl,rfl,rfl,hsize⟩
  generalize sortWorldK gh 2 w b o0 m (dw l).toArray os=w' at *
  have hb':w'.heap[b]?=some (.cells (putCells id o0 (flatK gh 2 (dw l).toArray) c) ty fz):=by
    rw[hheap hbl,if_pos rfl,hc]; rfl
  have heff:kb Z μ μ w.heap w'.heap h.length (.eC n (.arr 2 (aS (dw l)))):=by
    refine ⟨b,o0,2,hμ,rfl,fun j hj hne=>by rw[hheap hj,if_neg (fun e=>hne e.symm)],fun j cc ee ff hjj=>?_,?_⟩
    · have hjl:j < w.heap.size:=by
        rcases Nat.lt_or_ge j w.heap.size with q | q
        · exact q
        · simp[Array.getElem?_eq_none q] at hjj
      by_cases e:b=j
      · subst e
        rw[hc] at hjj
        simp only[Option.some.injEq,Obj.cells.injEq] at hjj
        obtain ⟨rfl,rfl,rfl⟩:=hjj
        exact ⟨_,_,hb',by simp[putCells]⟩
      · exact ⟨cc,ff,by rw[hheap hjl,if_neg e]; exact hjj,rfl⟩
    · intro b1 o1 s1 h1
      rw[hμ] at h1
      simp only[Option.some.injEq,Prod.mk.injEq] at h1
      obtain ⟨rfl,rfl,rfl⟩:=h1
      refine ⟨rfl,⟨_,ty,fz,hb',?_,?_⟩,fun i hi=>?_,fun i j hi hj=>?_⟩
      · simpa [putCells] using hfz
      · rw[bb,hsl]; simpa [putCells] using hsz
      · rw[bb] at hi; rw[hgl _ i hi]; rfl
      · rw[bb] at hi
        have:=(hafter.cell (i:=i) (c:=j) (by simpa using hi) hj).1
        rw[kL] at this
        refine ⟨_,this,?_⟩
        rw[hgl _ i hi]
        have e1:(dw l).toArray[i]! = (dw l)[i]:=by simp[hi]
        rw[e1]
        match j,hj with
        | 0,_=>exact .val _ rfl
        | 1,_=>exact .val _ rfl
  have hne:cat h F n≠.dead:=by rw[hcat]; simp
  have hrel':=hr.eff (n:=h.length) (eff:=.eC n (.arr 2 (aS (dw l)))) (by trivial) hsize heff (fun id o e=>by cases e; exact hne) (fun id o e=>by cases e)
  obtain ⟨hext,hmu⟩:=heff.ext hsame (by trivial) hr.bZ hr.fq
  refine ⟨.tuple #[],Z,μ,rfl,.bc [] #[] rfl (fun i hi=>by simp at hi),?_,hext,fun _ _=>rfl⟩
  have ev:cat (h.set n (.arr 2 (aS (dw l)))) F=aY.view (cat h F) h.length (.eC n (.arr 2 (aS (dw l)))):=by
    funext k
    simp only[cat,aY.view,View.set,List.length_set]
    by_cases hk:k < h.length
    · rw[if_pos hk,if_pos hk,ic hlt]; rfl
    · rw[if_neg hk,if_neg hk,if_neg (by omega)]
  rw[ev]
  exact hrel'
abbrev dN:aJ:=⟨0,0⟩
def ec (l:List aJ):Nat→List aJ
  | 0=>[]
  | n+1=>if n=0∨l.getD n dN≠l.getD (n - 1) dN then ec l n ++ [l.getD n dN] else ec l n
theorem vK (l:List aJ):∀ n,n≤l.length→(∀ j,0 < j→j < n→l.getD j dN≠l.getD (j - 1) dN)→ec l n=l.take n
  | 0,_,_=>by simp[ec]
  | n+1,hn,h=>by
    have ih:=vK l n (by omega) fun j h1 h2=>h j h1 (by omega)
    have hx:l[n]?=some (l.getD n dN):=getD_some (by omega)
    rw[ec,if_pos,ih,List.take_add_one,hx]
    · rfl
    · by_cases e:n=0
      · exact .inl e
      · exact .inr (h n (by omega) (by omega))
def vZ (l:List aJ):List aJ:=ec (dw l) l.length
theorem sU {l:List aJ} (hp:l.Pairwise fun x y=>cF y x=false):∀ n,n≤l.length→cE (ec l n)∧(∀ x,x∈ec l n↔∃ i,i < n∧l.getD i dN=x)
  | 0,_=>by simp[ec,cE]
  | n+1,hn=>by
    obtain ⟨h1,h2⟩:=sU hp n (by omega)
    have hge:∀ i j,i < j→j < l.length→cF (l.getD j dN) (l.getD i dN)=false:=fun i j hij hj=>by
      have:=List.pairwise_iff_getElem.1 hp i j (by omega) hj hij
      simpa [List.getD_eq_getElem?_getD,List.getElem?_eq_getElem hj,List.getElem?_eq_getElem (show i < l.length by omega)] using this
    rw[ec]
    split
    · rename_i hc
      refine ⟨?_,fun x=>?_⟩
      · rw[cE,List.pairwise_append]
        refine ⟨h1,by simp,fun a ha b hb=>?_⟩
        rw[List.mem_singleton] at hb; subst hb
        obtain ⟨i,hi,rfl⟩:=(h2 a).1 ha
        have hc:l.getD n dN≠l.getD (n - 1) dN:=hc.resolve_left (by omega)
        have k1:=sC (hge (n - 1) n (by omega) (by omega)) hc
        rcases Nat.lt_or_ge i (n - 1) with h | h
        · have k2:=hge i (n - 1) h (by omega)
          have k3:¬ cF (l.getD (n - 1) dN) (l.getD i dN)=true:=by rw[k2]; simp
          rw[eY] at k1 k3 ⊢
          omega
        · have:i=n - 1:=by omega
          subst this; exact k1
      · rw[List.mem_append,h2,List.mem_singleton]
        constructor
        · rintro (⟨i,hi,e⟩ | e)
          · exact ⟨i,by omega,e⟩
          · exact ⟨n,by omega,e.symm⟩
        · rintro ⟨i,hi,e⟩
          rcases Nat.lt_or_ge i n with h | h
          · exact .inl ⟨i,h,e⟩
          · have:i=n:=by omega
            subst this; exact .inr e.symm
    · rename_i hc
      simp only[not_or,Decidable.not_not] at hc
      refine ⟨h1,fun x=>?_⟩
      rw[h2]
      constructor
      · rintro ⟨i,hi,e⟩; exact ⟨i,by omega,e⟩
      · rintro ⟨i,hi,e⟩
        rcases Nat.lt_or_ge i n with h | h
        · exact ⟨i,h,e⟩
        · have:i=n:=by omega
          subst this
          exact ⟨i - 1,by omega,by rw[← hc.2]; exact e⟩
theorem zf (l:List aJ):cE (vZ l):=(sU (wL l) _ (by rw[gx]; exact Nat.le_refl _)).1
theorem m8 {l:List aJ} {x:aJ} : x∈vZ l↔x∈l:=by
  rw[vZ,(sU (wL l) _ (by rw[gx]; exact Nat.le_refl _)).2,← (w9 l).mem_iff,List.mem_iff_getElem]
  constructor
  · rintro ⟨i,hi,e⟩
    have hi':i < (dw l).length:=by rw[gx]; exact hi
    exact ⟨i,hi',by rw[List.getD_eq_getElem?_getD,List.getElem?_eq_getElem hi'] at e; exact e⟩
  · rintro ⟨i,hi,e⟩
    exact ⟨i,by rw[gx] at hi; exact hi,by rw[List.getD_eq_getElem?_getD,List.getElem?_eq_getElem hi]; exact e⟩
theorem GZ {l:List aJ} (h:cE l):vZ l=l:=vA (zf l) h fun _=>m8
def jG (g:an) (s:Int):Int:=if s < 0 then (g.av.length:Int) - 1 - s else s
theorem xE (g:an) (k:Nat):jG g (aT g k)=k:=by
  unfold jG aT; split <;> split <;> omega
theorem EO {g:an} {s:Int} (h1:s < g.av.length):0≤jG g s∧aT g (jG g s).toNat=s:=by
  unfold jG aT; split
  · rw[if_neg (by omega)]; omega
  · rw[if_pos (by omega)]; omega
theorem FZ {g:an} {s:Int} (h:gY g s=true):s < g.av.length∧jG g s < g.av.length+g.az.length:=by
  unfold gY at h
  unfold jG
  by_cases h0:0≤s
  · rw[if_pos h0] at h
    rw[if_neg (by omega)]
    simp at h
    omega
  · rw[if_neg h0] at h
    rw[if_pos (by omega)]
    simp at h
    omega
def eL (l:List aJ):List UInt8:=l.flatMap fun x=>[UInt8.ofNat (x.aD+1).toNat,UInt8.ofNat x.dot.toNat]
theorem JE {a b:Nat} (ha:a < 256) (hb:b < 256) (h:UInt8.ofNat a=UInt8.ofNat b):a=b:=by
  have:=congrArg UInt8.toNat h
  simp at this
  omega
theorem D7 {g:an} (hf:g.dg):∀ {a b:List aJ},(∀ x∈a,cm g x)→(∀ x∈b,cm g x)→eL a=eL b→a=b
  | [],[],_,_,_=>rfl
  | [],y :: b,_,_,h=>by simp[eL] at h
  | x :: a,[],_,_,h=>by simp[eL] at h
  | x :: a,y :: b,ha,hb,h=>by
    simp only[eL,List.flatMap_cons,List.cons_append,List.nil_append,List.cons.injEq] at h
    obtain ⟨h1,h2,h3⟩:=h
    have hx:=ha x (by simp)
    have hy:=hb y (by simp)
    have hr:=hf.rules
    have e1:=dE hf hx.1
    have e2:=dE hf hy.1
    have:=hx.1; have:=hx.2; have:=hy.1; have:=hy.2
    have k1:=JE (by omega) (by omega) h1
    have k2:=JE (by omega) (by omega) h2
    have ih:=D7 hf (fun z hz=>ha z (by simp[hz])) (fun z hz=>hb z (by simp[hz])) h3
    obtain ⟨xr,xd⟩:=x
    obtain ⟨yr,yd⟩:=y
    simp only at *
    have:xr=yr:=by omega
    have:xd=yd:=by omega
    subst_vars; rfl
section
variable {P:Program} {T:Env} {H:View} {K:V→View→Prop} {w:cp (T,H,K)} {t ty:TypeId}
theorem Di {d:Operand} {id off len sz bytes s:Nat} {z:List V} {es:List (List V)} (he:qg P t=some (sz,bytes,z)) (hd:ev T d=.sl id off len sz) (hH:H id=.arr s es) (hl:off+len≤es.length) (h0:len≠0)
    (hk:K (.bc []) (H.set id (.arr sz (en es off (List.replicate len z))))):m0 P (.call { callee:=.builtin .clear,args:=#[d],argTypes:=#[t] }) ty T H K w:=by
  obtain ⟨e,ti,hse,hi,hti,hz,hzl,hzok,hs0,rfl,rfl⟩:=mC he
  intro n _
  refine ⟨.bc [],.eC id (.arr ti.size (en es off (List.replicate len z))),[id],?_,hk⟩
  simp only[sI,bT,oper]
  simp only[List.all_eq_true] at hzok
  simp[sg,hse,hd,cH,hti,h0,hH,hl,hs0,hz,hzl,hzok]
  exact hzok
end
theorem pr:∀ (xs A B:List (List V)),xs.length≤B.length→en (A ++ B) A.length xs=A ++ xs ++ B.drop xs.length
  | [],A,B,_=>by simp[en]
  | x :: r,A,[],h=>by simp at h
  | x :: r,A,b :: B,h=>by
    rw[en,List.set_append_right _ _ (Nat.le_refl _),Nat.sub_self,List.set_cons_zero]
    have:=pr r (A ++ [x]) B (by simpa using h)
    simpa using this
theorem pI {id off k m:Nat} (hm:m≤k):j6 2 (.sl id off k 2) (some (gi m)) none=some (.sl id (off+m) (k - m) 2,.none,[]):=by
  simp[j6,bound,asNat,hm]
theorem vI {id off k m:Nat} (hm:m≤k):j6 2 (.sl id off k 2) none (some (gi m))=some (.sl id off m 2,.none,[]):=by
  simp[j6,bound,asNat,hm]
def eD:SC :=
  .seq (.seq (al [aa 29 5,aa 30 4,aM 31 30,aO 32 .lss 29 31]) <|
  .cond (.tmp 32) (.skip) (.exit 2)) <|
  .seq (.block 3 (.seq (al [aa 35 4,aa 36 5,aZ 37 2 35 36,aH 38 2 37,aa 39 4,aa 40 5,ax 41 .sub 40 1,aZ 42 2 39 41,aH 43 2 42,((some 44),.op (.old (.binOp .neq 33 (.tmp 38) (.tmp 43) 33) 4))]) <|
  .cond (.tmp 44) (.seq (al [aa 45 0,aa 46 3,aa 47 4,aa 48 5,aZ 49 2 47 48,aH 50 2 49,aZ 51 2 45 46,(none,.op (.store 2 (.tmp 51) (.tmp 50)))]) <|
  al [aa 52 3,ax 53 .add 52 1,aa 3 53]) (.skip))) <|
  al [aa 33 5,ax 34 .add 33 1,aa 5 34]
def ez:SC :=
  .seq (.seq (al [aa 10 3,aa 11 0,aM 12 11,aO 13 .lss 10 12]) <|
  .cond (.tmp 13) (.skip) (.exit 0)) <|
  .seq (.block 1 (.seq (al [aa 16 0,aa 17 3,aZ 18 2 16 17,aH 19 2 18,aa 20 0,aa 21 3,ax 22 .sub 21 1,aZ 23 2 20 22,aH 24 2 23,((some 25),.op (.old (.binOp .eql 33 (.tmp 19) (.tmp 24) 33) 4))]) <|
  .cond (.tmp 25) (.seq (al [aa 26 0,aa 27 3,((some 28),.op (.slice 2 (.tmp 26) (some (.tmp 27)) none)),aa 4 28]) <|
  .seq (.seq (al [aF 5 1]) <|
  .block 2 (.loop eD)) <|
  .seq (al [aa 54 0,aa 55 3,((some 56),.op (.slice 2 (.tmp 54) (some (.tmp 55)) none)),(none,.op (.old (.call { callee:=.builtin .clear,args:=#[(.tmp 56)],argTypes:=#[27] }) 0))]) <|
  .seq (al [aa 57 0,aa 58 3,((some 59),.op (.slice 2 (.tmp 57) none (some (.tmp 58)))),aa 2 59]) <|
  .ret) (.skip))) <|
  al [aa 14 3,ax 15 .add 14 1,aa 3 15]
def eX:SF:=⟨.seq (al [((some 2),.op (.bj (.val (.emp 1))))]) <|
  .seq (.seq (al [aa 6 0,aM 7 6,ax 8 .lss 7 2]) <|
  .cond (.tmp 8) (.seq (al [aa 9 0,aa 2 9]) <|
  .ret) (.skip)) <|
  .seq (.seq (al [aF 3 1]) <|
  .block 0 (.loop ez)) <|
  .seq (al [aa 60 0,aa 2 60]) <|
  .ret,
  [.tmp 2],61⟩
theorem iu:bh Tryz.prog 114 []=some eX:=by kernel_rfl
def xf:SF:=⟨.seq (al [((some 2),.op (.bj (.val (.emp 1))))]) <|
  .seq (al [aa 3 0,cZ 4 112 [(.tmp 3),(.val (.fn 113 [] []))]]) <|
  .seq (al [aa 5 0,aG 6 114 [5],aa 2 6]) <|
  .ret,
  [.tmp 2],7⟩
theorem An:bh Tryz.prog 64 []=some xf:=by kernel_rfl
theorem kJ {l:List aJ} {i:Nat} (h:i < l.length):(aS l).getD i []=[gi (l.getD i dN).aD,gi (l.getD i dN).dot]:=vt (getD_some h)
theorem yl (l:List aJ) (i j:Nat) (x d:aJ) (hi:i < l.length):(l.set i x).getD j d=if i=j then x else l.getD j d:=by
  rw[BN]
  by_cases e:i=j
  · rw[if_pos ⟨e,hi⟩,if_pos e]
  · rw[if_neg (fun h=>e h.1),if_neg e]
set_option maxHeartbeats 16000000 in
theorem H9 (l:List aJ) (hn:l.length≤100000) (u:V) (H:View) (ho:aN H u 2 (aS l)):aA Tryz.prog 114 [u] H fun r H'=>(∀ id,owner u≠some id→H' id=H id)∧aN H' r 2 (aS (ec l l.length))∧owner r=owner u:=by
  refine aA.cut (K:=fun r H'=>(H'=H∧r=u∧ec l l.length=l)∨∃ id rest,u=.sl id 0 l.length 2∧r=.sl id 0 (ec l l.length).length 2∧H'=H.set id (.arr 2 (aS (ec l l.length) ++ rest))) ?_ ?_
  rotate_left
  · rintro r H' (⟨rfl,rfl,e⟩ | ⟨id,rest,rfl,rfl,rfl⟩)
    · exact .inl ⟨fun _ _=>rfl,by rw[e]; exact ho,rfl⟩
    · refine .inr ⟨id,2,aS (ec l l.length),rest,by simp[View.set],fun j hj=>?_,?_,rfl⟩
      · rw[set_set]
        simp only[View.set]
        rw[if_neg (fun e=>hj (by rw[e]; rfl))]
      · rw[set_set]
        exact .inr ⟨id,by rw[bb],by simp[View.set]⟩
  refine aA.of mixed iu ?_
  have hlen:cH u=some l.length:=by rw[ho.len,bb]
  simp (disch:=omega) only [↓wr,↓reduceIte,wq,ah,ag,aj,ab,ae,af,ai,isNil,Nat.reduceEqDiff,Nat.reduceAdd,Nat.reduceLT,Nat.reduceLeDiff,Int.reduceNeg,Int.reduceToNat,reduceCtorEq,eX,hlen]
  refine au.dec (fun h2=>?_) (fun h2=>?_)
  · simp (disch:=omega) only [↓wr,↓reduceIte,wq,ah,ag,aj,ab,ae,af,ai,isNil,Nat.reduceEqDiff,Nat.reduceAdd,Nat.reduceLT,Nat.reduceLeDiff,Int.reduceNeg,Int.reduceToNat,reduceCtorEq]
    left
    try refine ⟨rfl,rfl,?_⟩
    match l,h2 with
    | [],_=>rfl
    | [x],_=>rfl
    | _ :: _ :: _,h2=>simp at h2; omega
  obtain ⟨id,hu,hid⟩:=ho.sl (by rw[bb]; omega)
  rw[bb] at hu
  subst hu
  simp (disch:=omega) only [↓wr,↓reduceIte,wq,ah,ag,aj,ab,ae,af,ai,isNil,Nat.reduceEqDiff,Nat.reduceAdd,Nat.reduceLT,Nat.reduceLeDiff,Int.reduceNeg,Int.reduceToNat,reduceCtorEq]
  refine bK.up (l.length - 1) (fun i T H'=>H=H'∧(∀ j,0 < j→j < i+1→l.getD j dN≠l.getD (j - 1) dN)∧T 0=.sl id 0 l.length 2∧T 3=gi ((i+1:Nat):Int)) ⟨rfl,fun j h1 h2=>by omega,rfl,rfl⟩ ?_
  rintro i k T _ hk ⟨rfl,hne,t0,t3⟩
  simp (disch:=omega) only [↓wr,↓reduceIte,wq,ah,ag,aj,ab,ae,af,ai,isNil,Nat.reduceEqDiff,Nat.reduceAdd,Nat.reduceLT,Nat.reduceLeDiff,Int.reduceNeg,Int.reduceToNat,reduceCtorEq,ez,t0,t3]
  refine au.dec (fun hc=>?_) (fun hc=>?_)
  rotate_left
  · simp (disch:=omega) only [↓wr,↓reduceIte,wq,ah,ag,aj,ab,ae,af,ai,isNil,Nat.reduceEqDiff,Nat.reduceAdd,Nat.reduceLT,Nat.reduceLeDiff,Int.reduceNeg,Int.reduceToNat,reduceCtorEq,t0]
    left
    try refine ⟨rfl,rfl,?_⟩
    rw[vK l _ (Nat.le_refl _) (fun j h1 h2=>hne j h1 (by omega)),List.take_length]
  have hi1:i+1 < l.length:=by omega
  have e1:(((i+1:Nat):Int) - 1)=(i:Int):=by omega
  simp (disch:=omega) only [↓wr,↓reduceIte,wq,ah,ag,aj,ab,ae,af,ai,isNil,Nat.reduceEqDiff,Nat.reduceAdd,Nat.reduceLT,Nat.reduceLeDiff,Int.reduceNeg,Int.reduceToNat,reduceCtorEq,t0,t3,hid,kJ hi1,kJ (show i < l.length by omega),e1]
  refine ⟨by omega,by rw[bb]; omega,?_⟩
  refine ⟨by omega,by rw[bb]; omega,?_⟩
  generalize hx:l.getD (i+1) dN=x
  generalize hy:l.getD i dN=y
  refine q8 (xs:=#[.int .i64 x.aD,.int .i64 x.dot]) (ys:=#[.int .i64 y.aD,.int .i64 y.dot]) Tryz.underlying33 (by kernel_rfl) (by kernel_rfl) ?_ ?_ (BL x y) (.inl ⟨rfl,rfl⟩) ?_
  · rfl
  · rfl
  rw[Km]
  simp (disch:=omega) only [↓wr,↓reduceIte,wq,ah,ag,aj,ab,ae,af,ai,isNil,Nat.reduceEqDiff,Nat.reduceAdd,Nat.reduceLT,Nat.reduceLeDiff,Int.reduceNeg,Int.reduceToNat,reduceCtorEq,t0,t3]
  refine au.dec (fun heq=>?_) (fun heq=>?_)
  rotate_left
  · simp (disch:=omega) only [↓wr,↓reduceIte,wq,ah,ag,aj,ab,ae,af,ai,isNil,Nat.reduceEqDiff,Nat.reduceAdd,Nat.reduceLT,Nat.reduceLeDiff,Int.reduceNeg,Int.reduceToNat,reduceCtorEq,t0,t3]
    refine bE hk (by omega) ⟨rfl,fun j h1 h2=>?_,t0,by push_cast; rfl⟩
    rcases Nat.lt_or_ge j (i+1) with q | q
    · exact hne j h1 q
    · have:j=i+1:=by omega
      subst this
      rw[Nat.add_sub_cancel,hx,hy]; exact heq
  have hstart:ec l (i+1+1)=l.take (i+1):=by
    rw[ec,if_neg,vK l (i+1) (by omega) hne]
    rw[Nat.add_sub_cancel,hx,hy]
    simp[heq]
  simp (disch:=omega) only [↓wr,↓reduceIte,wq,ah,ag,aj,ab,ae,af,ai,isNil,Nat.reduceEqDiff,Nat.reduceAdd,Nat.reduceLT,Nat.reduceLeDiff,Int.reduceNeg,Int.reduceToNat,reduceCtorEq,t0,t3,pI (id:=id) (off:=0) (k:=l.length) (m:=i+1) (by omega)]
  refine bK.up (l.length - (i+1) - 1) (fun i2 T H'=>∃ (kk:Nat) (cur:List aJ),H'=H.set id (.arr 2 (aS cur))∧cur.length=l.length∧i+1≤kk∧kk≤i+1+i2∧cur.take kk=ec l (i+1+(i2+1))∧(∀ j,kk≤j→cur.getD j dN=l.getD j dN) ∧
    T 0=.sl id 0 l.length 2∧T 3=gi kk∧T 4=.sl id (i+1) (l.length - (i+1)) 2∧T 5=gi ((i2+1:Nat):Int)) ⟨i+1,l,?_,rfl,Nat.le_refl _,by omega,by rw[hstart],fun _ _=>rfl,t0,t3,?_,rfl⟩ ?_
  · funext j; simp only[View.set]; split
    · rename_i e; rw[e,hid]
    · rfl
  · rfl
  clear t0 t3 hk
  rintro i2 k2 T2 _ hk2 ⟨kk,cur,rfl,hcl,k1,k3,hct,hcj,t0,t3,t4,t5⟩
  have hset:(H.set id (.arr 2 (aS cur))) id=.arr 2 (aS cur):=by simp[View.set]
  simp (disch:=omega) only [↓wr,↓reduceIte,wq,ah,ag,aj,ab,ae,af,ai,isNil,Nat.reduceEqDiff,Nat.reduceAdd,Nat.reduceLT,Nat.reduceLeDiff,Int.reduceNeg,Int.reduceToNat,reduceCtorEq,eD,t0,t3,t4,t5]
  refine au.dec (fun hc2=>?_) (fun hc2=>?_)
  · have hp:i+1+(i2+1) < l.length:=by omega
    have e2:(((i2+1:Nat):Int) - 1)=(i2:Int):=by omega
    simp (disch:=omega) only [↓wr,↓reduceIte,wq,ah,ag,aj,ab,ae,af,ai,isNil,Nat.reduceEqDiff,Nat.reduceAdd,Nat.reduceLT,Nat.reduceLeDiff,Int.reduceNeg,Int.reduceToNat,reduceCtorEq,t0,t3,t4,t5,hset,e2,kJ (l:=cur) (show i+1+(i2+1) < cur.length by omega),kJ (l:=cur) (show i+1+i2 < cur.length by omega)]
    refine ⟨by omega,by rw[bb]; omega,?_⟩
    refine ⟨by omega,by rw[bb]; omega,?_⟩
    rw[hcj _ (show kk≤i+1+(i2+1) by omega),hcj _ (show kk≤i+1+i2 by omega)]
    generalize hx2:l.getD (i+1+(i2+1)) dN=x2
    generalize hy2:l.getD (i+1+i2) dN=y2
    refine q8 (xs:=#[.int .i64 x2.aD,.int .i64 x2.dot]) (ys:=#[.int .i64 y2.aD,.int .i64 y2.dot]) Tryz.underlying33 (by kernel_rfl) (by kernel_rfl) ?_ ?_ (BL x2 y2) (.inr ⟨rfl,rfl⟩) ?_
    · rfl
    · rfl
    rw[Km]
    simp (disch:=omega) only [↓wr,↓reduceIte,wq,ah,ag,aj,ab,ae,af,ai,isNil,Nat.reduceEqDiff,Nat.reduceAdd,Nat.reduceLT,Nat.reduceLeDiff,Int.reduceNeg,Int.reduceToNat,reduceCtorEq,t0,t3,t4,t5]
    have hcu:ec l (i+1+(i2+1+1))=if x2=y2 then ec l (i+1+(i2+1)) else ec l (i+1+(i2+1)) ++ [x2]:=by
      rw[show i+1+(i2+1+1)=(i+1+(i2+1))+1 by omega,ec,hx2,show i+1+(i2+1) - 1=i+1+i2 by omega,hy2]
      by_cases e:x2=y2
      · rw[if_pos e,if_neg (by simp[e])]
      · rw[if_neg e,if_pos (.inr e)]
    refine au.dec (fun he=>?_) (fun he=>?_)
    · simp (disch:=omega) only [↓wr,↓reduceIte,wq,ah,ag,aj,ab,ae,af,ai,isNil,Nat.reduceEqDiff,Nat.reduceAdd,Nat.reduceLT,Nat.reduceLeDiff,Int.reduceNeg,Int.reduceToNat,reduceCtorEq,t0,t3,t4,t5]
      rw[if_pos he] at hcu
      exact bE hk2 (by omega) ⟨kk,cur,rfl,hcl,k1,by omega,by rw[hcu]; exact hct,hcj,t0,t3,t4,by push_cast; rfl⟩
    · simp (disch:=omega) only [↓wr,↓reduceIte,wq,ah,ag,aj,ab,ae,af,ai,isNil,Nat.reduceEqDiff,Nat.reduceAdd,Nat.reduceLT,Nat.reduceLeDiff,Int.reduceNeg,Int.reduceToNat,reduceCtorEq,t0,t3,t4,t5,hset,kJ (l:=cur) (show i+1+(i2+1) < cur.length by omega)]
      rw[hcj _ (show kk≤i+1+(i2+1) by omega),hx2]
      have hkl:(aS cur).getD kk []=[gi (cur.getD kk dN).aD,gi (cur.getD kk dN).dot]:=kJ (by omega)
      have hse:(aS cur).set kk [gi x2.aD,gi x2.dot]=aS (cur.set kk x2):=by simp[aS,List.map_set,bu]
      simp (disch:=omega) only [↓wr,↓reduceIte,wq,ah,ag,aj,ab,ae,af,ai,isNil,Nat.reduceEqDiff,Nat.reduceAdd,Nat.reduceLT,Nat.reduceLeDiff,Int.reduceNeg,Int.reduceToNat,reduceCtorEq,t0,t3,t4,t5,hset,hkl,hse]
      rw[set_set]
      rw[if_neg he] at hcu
      refine ⟨by omega,by rw[bb]; omega,?_⟩
      refine ⟨by omega,by rw[bb]; omega,?_⟩
      refine bE hk2 (by omega) ⟨kk+1,cur.set kk x2,rfl,by simp[hcl],by omega,by omega,?_,fun j hj=>?_,t0,by push_cast; rfl,t4,by push_cast; rfl⟩
      · rw[hcu,← hct,List.take_add_one,List.take_set_of_le (Nat.le_refl _),List.getElem?_set_self (by omega)]; rfl
      · rw[yl _ _ _ _ _ (by omega),if_neg (by omega)]
        exact hcj j (by omega)
  · have hi2:i+1+(i2+1)=l.length:=by omega
    rw[hi2] at hct
    have hz:l.length - kk≠0:=by omega
    have hkl:kk=(ec l l.length).length:=by rw[← hct,List.length_take]; omega
    simp (disch:=omega) only [↓wr,↓reduceIte,wq,ah,ag,aj,ab,ae,af,ai,isNil,Nat.reduceEqDiff,Nat.reduceAdd,Nat.reduceLT,Nat.reduceLeDiff,Int.reduceNeg,Int.reduceToNat,reduceCtorEq,t0,t3,pI (id:=id) (off:=0) (k:=l.length) (m:=kk) (by omega)]
    refine Di (id:=id) (off:=kk) (len:=l.length - kk) (sz:=2) (bytes:=16) (s:=2) (z:=[gi 0,gi 0]) (es:=aS cur) (by kernel_rfl) (by simp (disch:=omega) only [↓wr,↓reduceIte,wq,ah,ag,aj,ab,ae,af,ai,isNil,Nat.reduceEqDiff,Nat.reduceAdd,Nat.reduceLT,Nat.reduceLeDiff,Int.reduceNeg,Int.reduceToNat,reduceCtorEq]; try rw[Nat.zero_add]) hset (by rw[bb]; omega) hz ?_
    rw[set_set]
    have hsr:en (aS cur) kk (List.replicate (l.length - kk) [gi 0,gi 0])=aS (ec l l.length) ++ List.replicate (l.length - kk) [gi 0,gi 0]:=by
      have h1:=pr (List.replicate (l.length - kk) [gi 0,gi 0]) (aS (cur.take kk)) (aS (cur.drop kk)) (by simp[aS]; omega)
      rw[show aS (cur.take kk) ++ aS (cur.drop kk)=aS cur by rw[aS,aS,← List.map_append,List.take_append_drop]; rfl] at h1
      rw[show (aS (cur.take kk)).length=kk by rw[bb,List.length_take]; omega] at h1
      rw[h1,hct,List.drop_eq_nil_of_le (by simp[aS]; omega),List.append_nil]
    rw[hsr]
    simp (disch:=omega) only [↓wr,↓reduceIte,wq,ah,ag,aj,ab,ae,af,ai,isNil,Nat.reduceEqDiff,Nat.reduceAdd,Nat.reduceLT,Nat.reduceLeDiff,Int.reduceNeg,Int.reduceToNat,reduceCtorEq,t0,t3,vI (id:=id) (off:=0) (k:=l.length) (m:=kk) (by omega)]
    right
    exact ⟨id,List.replicate (l.length - kk) [gi 0,gi 0],rfl,by rw[hkl],rfl⟩
set_option maxHeartbeats 4000000 in
theorem Ah (l:List aJ) (hn:l.length≤100000) (u:V) (H:View) (ho:aN H u 2 (aS l)):aA Tryz.prog 64 [u] H fun r H'=>(∀ id,owner u≠some id→H' id=H id)∧aN H' r 2 (aS (vZ l))∧owner r=owner u:=by
  refine aA.of mixed An ?_
  simp (disch:=omega) only [↓wr,↓reduceIte,wq,ah,ag,aj,ab,ae,af,ai,isNil,Nat.reduceEqDiff,Nat.reduceAdd,Nat.reduceLT,Nat.reduceLeDiff,Int.reduceNeg,Int.reduceToNat,reduceCtorEq,xf]
  refine aE.gF ((KE l (by omega) u H ho).mono ?_)
  rintro r H2 ⟨rfl,k2,o2⟩
  simp (disch:=omega) only [↓wr,↓reduceIte,wq,ah,ag,aj,ab,ae,af,ai,isNil,Nat.reduceEqDiff,Nat.reduceAdd,Nat.reduceLT,Nat.reduceLeDiff,Int.reduceNeg,Int.reduceToNat,reduceCtorEq]
  refine aE.gF ((H9 (dw l) (by rw[gx]; omega) u H2 o2).mono ?_)
  rintro r H3 ⟨k3,o3,e3⟩
  simp (disch:=omega) only [↓wr,↓reduceIte,wq,ah,ag,aj,ab,ae,af,ai,isNil,Nat.reduceEqDiff,Nat.reduceAdd,Nat.reduceLT,Nat.reduceLeDiff,Int.reduceNeg,Int.reduceToNat,reduceCtorEq]
  rw[gx] at o3
  exact ⟨fun id hid=>by rw[k3 id hid,k2 id hid],o3,e3⟩
structure iE (g:an) (a:List bz):Prop where
  first:(a.getD 0 bV).bp=[⟨-1,0⟩]
  Hl:∀ s∈a,∀ e∈s.bU,(a.getD e.to.toNat bV).bp=ba g (cn g s.bp) e.sym
theorem jy (l:List bz) (i:Nat) (c:gU) (j:Nat):((l.modify i fun x=>(⟨x.bp,x.bU ++ [c]⟩:bz)).getD j bV).bp=(l.getD j bV).bp:=by
  simp only[List.getD_eq_getElem?_getD,List.getElem?_modify]
  cases l[j]? with
  | none=>rfl
  | some x =>
    by_cases e:i=j
    · subst e; simp
    · simp[e]
theorem iE.put {g:an} {out:List bz} (h:iE g out) {at_:Nat} {s to:Int} (ht:(out.getD to.toNat bV).bp=ba g (cn g (out.getD at_ bV).bp) s):iE g (out.modify at_ fun x=>(⟨x.bp,x.bU ++ [⟨s,to⟩]⟩:bz)):=by
  refine ⟨by rw[jy]; exact h.first,fun y hy e he=>?_⟩
  rw[jy]
  rcases mem_modify hy with hy | ⟨x,hx,rfl⟩
  · exact h.Hl y hy e he
  · rcases List.mem_append.1 he with he | he
    · exact h.Hl x (List.mem_of_getElem? hx) e he
    · simp at he; subst he
      rw[ht,List.getD_eq_getElem?_getD,hx]; rfl
theorem iE.add {g:an} {out:List bz} (h:iE g out) (h1:1≤out.length) (ht:∀ s∈out,∀ e∈s.bU,0≤e.to∧e.to < out.length) (k:List aJ):iE g (out ++ [⟨k,[]⟩]):=by
  have hg:∀ j:Nat,j < out.length→((out ++ [(⟨k,[]⟩:bz)]).getD j bV)=out.getD j bV:=fun j hj=>by
    simp[List.getD_eq_getElem?_getD,List.getElem?_append_left hj]
  refine ⟨by rw[hg 0 (by omega)]; exact h.first,fun y hy e he=>?_⟩
  rcases List.mem_append.1 hy with hy | hy
  · have:=ht y hy e he
    rw[hg _ (by omega)]; exact h.Hl y hy e he
  · simp at hy; subst hy; simp at he
theorem Kj (g:an) (l:List aJ) (at_:Nat) (out:List bz) (i:Nat) {j:Nat} (hj:j < out.length):((dp g l at_ out i).getD j bV).bp=(out.getD j bV).bp:=by
  unfold dp
  split
  · rfl
  · split
    · rw[jy]
      simp[List.getD_eq_getElem?_getD,List.getElem?_append_left hj]
    · rw[jy]
theorem iE.step {g:an} {l:List aJ} {at_ i:Nat} {out:List bz} (h:iE g out) (hi:dd g at_ i out) (ha:at_ < out.length) (hl:cn g (out.getD at_ bV).bp=l):iE g (dp g l at_ out i):=by
  unfold dp
  split
  · exact h
  · split
    · refine (h.add (by omega) hi.to _).put ?_
      rw[Int.toNat_natCast]
      have e1:((out ++ [(⟨ba g l (aT g i),[]⟩:bz)]).getD out.length bV).bp=ba g l (aT g i):=by
        simp[List.getD_eq_getElem?_getD]
      have e2:(out ++ [(⟨ba g l (aT g i),[]⟩:bz)]).getD at_ bV=out.getD at_ bV:=by
        simp[List.getD_eq_getElem?_getD,List.getElem?_append_left ha]
      rw[e1,e2,hl]
    · rename_i hf
      refine h.put ?_
      obtain ⟨n,hn⟩:∃ n:Nat,findD out (ba g l (aT g i))=n:=⟨(findD out (ba g l (aT g i))).toNat,by omega⟩
      obtain ⟨s,h1,h2⟩:=Dj _ _ _ hn
      rw[hn,Int.toNat_natCast,List.getD_eq_getElem?_getD,h1,hl]
      exact h2
theorem iE.row {g:an} (hf:g.dg) {at_:Nat} {out:List bz} (h:iE g out) (hi:dd g at_ 0 out) (ha:at_ < out.length):∀ n:Nat,n≤40→iE g ((List.range n).foldl (dp g (cn g (out.getD at_ bV).bp) at_) out)∧(((List.range n).foldl (dp g (cn g (out.getD at_ bV).bp) at_) out).getD at_ bV).bp=(out.getD at_ bV).bp
  | 0,_=>⟨h,rfl⟩
  | n+1,hn=>by
    obtain ⟨h1,h2⟩:=iE.row hf h hi ha n (by omega)
    obtain ⟨i1,i2,i3⟩:=dd.row (hi.nU hf ha).1 (hi.nU hf ha).2 hi n (by omega)
    rw[List.range_succ,List.foldl_append]
    simp only[List.foldl_cons,List.foldl_nil]
    refine ⟨h1.step i1 (by omega) (by rw[h2]),?_⟩
    rw[Kj _ _ _ _ _ (by omega),h2]
theorem zI {g:an} (hf:g.dg):∀ (f at_:Nat) (out:List bz),dd g at_ 0 out→iE g out→(fp g f at_ out).2=0→iE g (fp g f at_ out).1
  | 0,_,out,_,h,_=>h
  | f+1,at_,out,hi,h,h3=>by
    rw[fp] at h3 ⊢
    split
    · rename_i ha
      rw[if_pos ha] at h3
      have hr:=dd.row (hi.nU hf ha).1 (hi.nU hf ha).2 hi (g.av.length+g.az.length) (by have:=hf.av; have:=hf.az; omega)
      have he:=h.row hf hi ha (g.av.length+g.az.length) (by have:=hf.av; have:=hf.az; omega)
      rw[show (List.range (g.av.length+g.az.length)).foldl (dp g (cn g (out.getD at_ bV).bp) at_) out=z1 g at_ out (g.av.length+g.az.length) from rfl] at hr he
      split
      · rename_i hc; rw[if_pos hc] at h3; simp at h3
      · rename_i hc
        rw[if_neg hc] at h3
        exact zI hf f (at_+1) _ hr.1.next he.1 h3
    · exact h
theorem G4 {g:an} (hf:g.dg) (h:(dQ g).2=0):iE g (dQ g).1:=by
  unfold dQ at h ⊢
  split
  · rename_i hr
    rw[if_pos hr] at h
    exact zI hf 302 0 dD nh ⟨rfl,fun s hs e he=>by simp[dD] at hs; subst hs; simp at he⟩ h
  · rename_i hr
    rw[if_neg hr] at h
    simp at h
inductive mX (a:List bz):List Int→List Int→Prop
  | nil:mX a [] [0]
  | snoc {X st:List Int} {e:gU} : mX a X st→e∈(a.getD (zX st).toNat bV).bU→mX a (X ++ [e.sym]) (st ++ [e.to])
theorem mX.len {a:List bz} {X st:List Int} (h:mX a X st):st.length=X.length+1:=by
  induction h with
  | nil=>rfl
  | snoc _ _ ih=>simp[ih]
theorem mX.take {a:List bz} {X st:List Int} (h:mX a X st):∀ k:Nat,k≤X.length→mX a (X.take k) (st.take (k+1)):=by
  induction h with
  | nil =>
           intro k hk; have:k=0:=by simpa using hk
           subst this; exact .nil
  | @snoc X st e h he ih =>
    intro k hk
    have hl:=h.len
    simp only[List.length_append,List.length_cons,List.length_nil] at hk
    by_cases hk2:k≤X.length
    · rw[List.take_append_of_le_length hk2,List.take_append_of_le_length (by omega)]
      exact ih k hk2
    · rw[List.take_of_length_le (by simp; omega),List.take_of_length_le (by simp; omega)]
      exact .snoc h he
theorem My {a:List bz} {i:Nat} {e:gU} (h:e∈(a.getD i bV).bU):i < a.length∧a.getD i bV∈a:=by
  rcases Nat.lt_or_ge i a.length with hi | hi
  · exact ⟨hi,List.mem_of_getElem? (getD_some hi)⟩
  · rw[List.getD_eq_getElem?_getD,List.getElem?_eq_none hi] at h; simp at h
theorem mX.top {g:an} {a:List bz} (ha:Cz g a) (h1:1≤a.length) {X st:List Int} (h:mX a X st):0≤zX st∧zX st < a.length:=by
  cases h with
  | nil=>simp[zX]; omega
  | snoc h he =>
    rw[Lq]
    exact ha.to _ (My he).2 _ he
theorem n0.bp {g:an} {l:List aJ} {x:aJ} (h:n0 g l x) (hd:x.dot≠0∨x.aD < 0):x∈l:=by
  cases h with
  | base h=>exact h
  | step=>simp at hd; omega
def jL (g:an) (l:List aJ) (n:Nat):List Int:=((List.range n).filter fun i=>decide (ba g l (aT g i)≠[])).map fun (i:Nat)=>aT g i
theorem yV (g:an) (l:List aJ) (n:Nat):jL g l (n+1)=if ba g l (aT g n)=[] then jL g l n else jL g l n ++ [aT g n]:=by
  unfold jL
  rw[List.range_succ,List.filter_append,List.map_append]
  by_cases h:ba g l (aT g n)=[]
  · rw[if_pos h]; simp[h]
  · rw[if_neg h]; simp[h]
structure kq (g:an) (at_ i:Nat) (out:List bz):Prop where
  one:(out.map bz.bp).Nodup
  back:∀ j:Nat,0 < j→j < out.length→∃ (i:Nat) (e:gU),i < j∧e∈(out.getD i bV).bU∧e.to=j
  done:∀ j:Nat,j < at_→j < out.length→(out.getD j bV).bU.map gU.sym=jL g (cn g (out.getD j bV).bp) (g.av.length+g.az.length)
  here:at_ < out.length→(out.getD at_ bV).bU.map gU.sym=jL g (cn g (out.getD at_ bV).bp) i
theorem oJ (l:List bz) (i:Nat) (c:gU) (j:Nat) (hi:i < l.length):((l.modify i fun x=>(⟨x.bp,x.bU ++ [c]⟩:bz)).getD j bV).bU=if i=j then (l.getD j bV).bU ++ [c] else (l.getD j bV).bU:=by
  simp only[List.getD_eq_getElem?_getD,List.getElem?_modify]
  by_cases e:i=j
  · subst e; simp[hi]
  · cases l[j]? with
    | none=>simp[e]
    | some x=>simp[e]
theorem AM (l:List bz) (i:Nat) (c:gU):(l.modify i fun x=>(⟨x.bp,x.bU ++ [c]⟩:bz)).map bz.bp=l.map bz.bp:=by
  apply List.ext_getElem?
  intro j
  simp only[List.getElem?_map,List.getElem?_modify]
  cases l[j]? with
  | none=>rfl
  | some x=>by_cases e:i=j <;> simp[e]
theorem kq.put {g:an} {at_ i:Nat} {out:List bz} {to:Int} (ha:at_ < out.length) (h1:(out.map bz.bp).Nodup) (h2:∀ j:Nat,0 < j→j < out.length→(∃ (i:Nat) (e:gU),i < j∧e∈(out.getD i bV).bU∧e.to=j)∨(at_ < j∧to=j))
    (h3:∀ j:Nat,j < at_→j < out.length→(out.getD j bV).bU.map gU.sym=jL g (cn g (out.getD j bV).bp) (g.av.length+g.az.length)) (h4:(out.getD at_ bV).bU.map gU.sym=jL g (cn g (out.getD at_ bV).bp) i)
    (hne:ba g (cn g (out.getD at_ bV).bp) (aT g i)≠[]):kq g at_ (i+1) (out.modify at_ fun x=>(⟨x.bp,x.bU ++ [⟨aT g i,to⟩]⟩:bz)):=by
  refine ⟨by rw[AM]; exact h1,fun j hj hl=>?_,fun j hj hl=>?_,fun _=>?_⟩
  · rw[List.length_modify] at hl
    rcases h2 j hj hl with ⟨k,e,a1,a2,a3⟩ | ⟨a1,a2⟩
    · refine ⟨k,e,a1,?_,a3⟩
      rw[oJ _ _ _ _ ha]
      split
      · exact List.mem_append_left _ a2
      · exact a2
    · refine ⟨at_,⟨aT g i,to⟩,a1,?_,a2⟩
      rw[oJ _ _ _ _ ha,if_pos rfl]
      simp
  · rw[List.length_modify] at hl
    rw[oJ _ _ _ _ ha,if_neg (by omega),jy]
    exact h3 j hj hl
  · rw[oJ _ _ _ _ ha,if_pos rfl,jy,List.map_append,h4,yV,if_neg hne]; rfl
theorem kq.step {g:an} {at_ i:Nat} {out:List bz} (h:kq g at_ i out) (ha:at_ < out.length):kq g at_ (i+1) (dp g (cn g (out.getD at_ bV).bp) at_ out i):=by
  unfold dp
  split
  · rename_i hm
    exact ⟨h.one,h.back,h.done,fun _=>by rw[yV,if_pos hm]; exact h.here ha⟩
  · rename_i hm
    split
    · rename_i hf
      have hg:∀ j:Nat,j < out.length→((out ++ [(⟨ba g (cn g (out.getD at_ bV).bp) (aT g i),[]⟩:bz)]).getD j bV)=out.getD j bV:=fun j hj=>by
        simp[List.getD_eq_getElem?_getD,List.getElem?_append_left hj]
      refine kq.put (by simp; omega) ?_ (fun j hj hl=>?_) (fun j hj hl=>?_) ?_ ?_
      · rw[List.map_append,List.nodup_append]
        refine ⟨h.one,by simp,fun a hA b hB=>?_⟩
        obtain ⟨s,hs,rfl⟩:=List.mem_map.1 hA
        simp at hB; subst hB
        exact EL _ _ hf s hs
      · rcases Nat.lt_or_ge j out.length with q | q
        · obtain ⟨k,e,a1,a2,a3⟩:=h.back j hj q
          exact .inl ⟨k,e,a1,by rw[hg k (by omega)]; exact a2,a3⟩
        · right
          simp at hl
          exact ⟨by omega,by omega⟩
      · rw[hg j (by omega)]; exact h.done j hj (by omega)
      · rw[hg at_ ha]; exact h.here ha
      · rw[hg at_ ha]; exact hm
    · exact kq.put ha h.one (fun j hj hl=>.inl (h.back j hj hl)) h.done (h.here ha) hm
theorem kq.row {g:an} (hf:g.dg) {at_:Nat} {out:List bz} (h:kq g at_ 0 out) (hi:dd g at_ 0 out) (he:iE g out) (ha:at_ < out.length):∀ n:Nat,n≤40→kq g at_ n ((List.range n).foldl (dp g (cn g (out.getD at_ bV).bp) at_) out)
  | 0,_=>h
  | n+1,hn=>by
    have h1:=kq.row hf h hi he ha n (by omega)
    obtain ⟨i1,i2,i3⟩:=dd.row (hi.nU hf ha).1 (hi.nU hf ha).2 hi n (by omega)
    obtain ⟨e1,e2⟩:=he.row hf hi ha n (by omega)
    rw[List.range_succ,List.foldl_append]
    simp only[List.foldl_cons,List.foldl_nil]
    have:=h1.step (by omega)
    rw[e2] at this
    exact this
theorem kq.next {g:an} {at_:Nat} {out:List bz} (h:kq g at_ (g.av.length+g.az.length) out) (hi:dd g at_ (g.av.length+g.az.length) out):kq g (at_+1) 0 out:=by
  refine ⟨h.one,h.back,fun j hj hl=>?_,fun hl=>?_⟩
  · rcases Nat.lt_or_ge j at_ with q | q
    · exact h.done j q hl
    · have:j=at_:=by omega
      subst this
      exact h.here hl
  · have:=(hi.bU (at_+1) _ (getD_some (d:=bV) hl)).2.2 (by omega)
    rw[this]; simp[jL]
structure NK (g:an) (a:List bz):Prop where
  one:(a.map bz.bp).Nodup
  back:∀ j:Nat,0 < j→j < a.length→∃ (i:Nat) (e:gU),i < j∧e∈(a.getD i bV).bU∧e.to=j
  all:∀ s∈a,s.bU.map gU.sym=jL g (cn g s.bp) (g.av.length+g.az.length)
theorem yT {g:an} (hf:g.dg):∀ (f at_:Nat) (out:List bz),302≤f+at_→dd g at_ 0 out→iE g out→kq g at_ 0 out→out.length≤300→(fp g f at_ out).2=0→NK g (fp g f at_ out).1
  | 0,at_,out,h0,_,_,h,hl,_=>⟨h.one,h.back,fun s hs=>by
      change s∈out at hs
      obtain ⟨j,hj,e⟩:=List.mem_iff_getElem.1 hs
      have:=h.done j (by omega) hj
      rwa [show out.getD j bV=s by rw[List.getD_eq_getElem?_getD,List.getElem?_eq_getElem hj]; exact e] at this⟩
  | f+1,at_,out,h0,hi,he,h,hl,h3=>by
    have hT:=hf.av
    have hN:=hf.az
    rw[fp] at h3 ⊢
    split
    · rename_i ha
      rw[if_pos ha] at h3
      have hr:=dd.row (hi.nU hf ha).1 (hi.nU hf ha).2 hi (g.av.length+g.az.length) (by omega)
      have hE:=he.row hf hi ha (g.av.length+g.az.length) (by omega)
      have hF:=h.row hf hi he ha (g.av.length+g.az.length) (by omega)
      rw[show (List.range (g.av.length+g.az.length)).foldl (dp g (cn g (out.getD at_ bV).bp) at_) out=z1 g at_ out (g.av.length+g.az.length) from rfl] at hr hE hF
      split
      · rename_i hc; rw[if_pos hc] at h3; simp at h3
      · rename_i hc
        rw[if_neg hc] at h3
        exact yT hf f (at_+1) _ (by omega) hr.1.next hE.1 (hF.next hr.1) (by omega) h3
    · rename_i ha
      exact ⟨h.one,h.back,fun s hs=>by
        change s∈out at hs
        obtain ⟨j,hj,e⟩:=List.mem_iff_getElem.1 hs
        have:=h.done j (by omega) hj
        rwa [show out.getD j bV=s by rw[List.getD_eq_getElem?_getD,List.getElem?_eq_getElem hj]; exact e] at this⟩
theorem Hb {g:an} (hf:g.dg) (h:(dQ g).2=0):NK g (dQ g).1:=by
  unfold dQ at h ⊢
  split
  · rename_i hr
    rw[if_pos hr] at h
    refine yT hf 302 0 dD (by omega) nh ⟨rfl,fun s hs e he=>by simp[dD] at hs; subst hs; simp at he⟩ ⟨by simp[dD],fun j h1 h2=>by simp[dD] at h2; omega,fun j h1=>by omega,fun _=>?_⟩ (by simp[dD]) h
    simp[dD,jL]
  · rename_i hr
    rw[if_neg hr] at h
    simp at h
theorem BU (g:an):∀ (f at_:Nat) (out:List bz),(fp g f at_ out).2=0∨fp g f at_ out=([],5)
  | 0,_,_=>.inl rfl
  | f+1,at_,out=>by
    rw[fp]
    split
    · split
      · exact .inr rfl
      · exact BU g f _ _
    · exact .inl rfl
theorem IX (g:an):((dQ g).2=0∧isRed g=true)∨(dQ g=([],5)∧isRed g=true)∨(dQ g=([],1)∧isRed g=false):=by
  unfold dQ
  cases h:isRed g with
  | false=>exact .inr (.inr ⟨by simp,rfl⟩)
  | true =>
    rw[if_pos rfl]
    rcases BU g 302 0 dD with h | h
    · exact .inl ⟨h,rfl⟩
    · exact .inr (.inl ⟨h,rfl⟩)
theorem xG {g:an} (hf:g.dg) {x:aJ} (hx:cm g x) {s:Int} (h:bM g x=(s,true)):gY g s=true:=by
  obtain ⟨h1,h2⟩:=wY h
  have hlt:x.dot.toNat < (db g x.aD).length:=by have:=hx.2; omega
  have hm:s∈db g x.aD:=by
    rw[← h2,List.getD_eq_getElem?_getD,List.getElem?_eq_getElem hlt]; exact List.getElem_mem _
  unfold db at hm
  split at hm
  · simp at hm; subst hm
    have:=hf.ld; have:=hf.start
    unfold gY
    rw[if_neg (by omega)]
    simp; omega
  · have hR:g.rules[x.aD.toNat]?=some (dq g x.aD):=by unfold dq; exact getD_some (by have:=hx.1; omega)
    exact hf.sym _ (List.mem_of_getElem? hR) s hm
theorem zb {α:Type} (f:α→Nat) (p:α→Bool) (h:∀ x,p x=false→f x=0):∀ l:List α,((l.filter p).map f).sum=(l.map f).sum
  | []=>rfl
  | x :: l=>by
    have ih:=zb f p h l
    rw[List.filter_cons]
    split
    · simp[ih]
    · rename_i hp
      simp[ih,h x (by simpa using hp)]
theorem K7 (r n:Nat):((List.range n).map fun i=>if i=r then 1 else 0).sum=if r < n then 1 else 0:=by
  induction n with
  | zero=>simp
  | succ n ih =>
    rw[List.range_succ,List.map_append,List.sum_append,ih]
    simp only[List.map_cons,List.map_nil,List.sum_cons,List.sum_nil,Nat.add_zero]
    repeat' split
    all_goals omega
theorem Lk (f k:Nat→Nat) (l:List Nat):(l.map fun i=>f i+k i).sum=(l.map f).sum+(l.map k).sum:=by
  induction l with
  | nil=>rfl
  | cons x l ih=>simp only[List.map_cons,List.sum_cons,ih]; omega
theorem JV {g:an} (hf:g.dg) {l:List aJ} (hl:∀ x∈l,cm g x):((jL g l (g.av.length+g.az.length)).map fun s=>(ba g l s).length).sum=(l.filter fun x=>(bM g x).2).length:=by
  unfold jL
  rw[List.map_map]
  rw[zb _ _ (fun x hx=>by
    simp only[ne_eq,decide_not,Bool.not_eq_false',decide_eq_true_eq] at hx
    simp[hx])]
  induction l with
  | nil =>
    have:∀ r:List Nat,(r.map ((fun s=>(ba g [] s).length)∘fun (i:Nat)=>aT g i)).sum=0:=fun r=>by
      induction r with
      | nil=>rfl
      | cons x r ih=>simp only[List.map_cons,List.sum_cons,ih]; rfl
    rw[this]; rfl
  | cons x l ih =>
    have ih:=ih fun y hy=>hl y (by simp[hy])
    have e:((fun s=>(ba g (x :: l) s).length)∘fun (i:Nat)=>aT g i)=fun (i:Nat)=>(if bM g x=(aT g i,true) then 1 else 0)+((fun s=>(ba g l s).length)∘fun (i:Nat)=>aT g i) i:=by
      funext i
      simp only[Function.comp,ba,List.length_map,List.filter_cons]
      split
      · rename_i h
        rw[if_pos (by simpa using h)]; simp; omega
      · rename_i h
        rw[if_neg (by simpa using h)]; simp
    rw[e,Lk,ih,List.filter_cons]
    cases hn:bM g x with
    | mk s ok =>
    cases ok with
    | false =>
      have:∀ r:List Nat,(r.map fun (i:Nat)=>if ((s,false):Int × Bool)=(aT g i,true) then 1 else 0).sum=0:=fun r=>by
        induction r with
        | nil=>rfl
        | cons x r ih=>simp only[List.map_cons,List.sum_cons,ih]; simp
      rw[this]; simp
    | true =>
      obtain ⟨r1,r2⟩:=FZ (xG hf (hl x (by simp)) hn)
      obtain ⟨r3,r4⟩:=EO r1
      have e2:(fun (i:Nat)=>if ((s,true):Int × Bool)=(aT g i,true) then 1 else 0)=fun i=>if i=(jG g s).toNat then 1 else 0:=by
        funext i
        have:((s,true):Int × Bool)=(aT g i,true)↔i=(jG g s).toNat:=by
          simp only[Prod.mk.injEq,and_true]
          constructor
          · rintro rfl
            rw[xE]; rfl
          · rintro rfl; exact r4.symm
        simp only[this]
      rw[e2,K7,if_pos (by omega)]
      simp; omega
end Gv
