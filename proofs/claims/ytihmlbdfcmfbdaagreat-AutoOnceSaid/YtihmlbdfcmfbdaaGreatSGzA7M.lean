/-
  Part 13 of the proof: what the machine does and what the functions answer.
  Conditions: those that each lemma names.
-/
import Derived.Test.YtihmlbdfcmfbdaaGreatSGzA7L
set_option linter.unusedSimpArgs false
set_option linter.unusedVariables false
set_option maxRecDepth 100000
namespace Gv
open Go Go.Proofs
def MF (s:Int × Int):Prop:=(0≤s.1∧s.1≤1000)∧(0≤s.2∧s.2≤1000)
def wZ (g:an):List (Int × Int):=(dD g).map wC
theorem wO:wC qo=(0,0):=by decide
theorem KY (g:an) (m:Nat):pJ (wZ g) m=wC (cq (dD g) m):=by
  simp only[wZ,pJ,cq,List.getD_eq_getElem?_getD,List.getElem?_map]
  cases (dD g)[m]? <;> rfl
theorem Oj (g:an) (m:Nat):MF (wC (cq (dD g) m)):=by
  have h:l9 (cq (dD g) m):=vh g _ m
  unfold l9 at h
  unfold MF wC; simp only; omega
def iy (g:an) (j i:Nat) (S:List (Int × Int)):Prop:=S.length=g.au.length∧∀ m,pJ S m=if (cq (dD g) m).cH≤j∨((cq (dD g) m).cH=j+1∧m < i) then wC (cq (dD g) m) else (0,0)
theorem iy.ok {g:an} {j i:Nat} {S:List (Int × Int)} (h:iy g j i S) (m:Nat):MF (pJ S m):=by
  rw[h.2 m]; split
  · exact Oj g m
  · unfold MF; simp
theorem M1 {S:List (Int × Int)} {i m:Nat} {v:Int × Int} (hm:m < S.length):pJ (S.set i v) m=if i=m then v else pJ S m:=by
  simp only[pJ,List.getD_eq_getElem?_getD,List.getElem?_set]
  split
  · rename_i e; subst e; simp[hm]
  · rfl
theorem iy.next {g:an} {j i:Nat} {S:List (Int × Int)} (h:iy g j i S) (hi:(cq (dD g) i).cH≠(j:Int)+1):iy g j (i+1) S:=⟨h.1,fun m=>by
  rw[h.2 m]
  by_cases e:m=i
  · subst e
    by_cases h1:(cq (dD g) m).cH≤j
    · rw[if_pos (.inl h1),if_pos (.inl h1)]
    · rw[if_neg (by omega),if_neg (by omega)]
  · congr 1
    simp only[eq_iff_iff]
    constructor <;> rintro (h1 | h1) <;> first | exact .inl h1 | exact .inr ⟨h1.1,by omega⟩⟩
theorem iy.put {g:an} {j i:Nat} {S:List (Int × Int)} (h:iy g j i S) (hi:(cq (dD g) i).cH=(j:Int)+1) (hn:i < g.au.length):iy g j (i+1) (S.set i (wC (cq (dD g) i))):=⟨by simp[h.1],fun m=>by
  by_cases hm:m < S.length
  · rw[M1 hm]
    by_cases e:i=m
    · subst e; rw[if_pos rfl,if_pos (.inr ⟨hi,by omega⟩)]
    · rw[if_neg e,h.2 m]
      congr 1
      simp only[eq_iff_iff]
      constructor <;> rintro (h1 | h1) <;> first | exact .inl h1 | exact .inr ⟨h1.1,by omega⟩
  · have:cq (dD g) m=qo:=sG (by rw[vS,← h.1]; omega)
    have e:pJ (S.set i (wC (cq (dD g) i))) m=(0,0):=by
      simp only[pJ,List.getD_eq_getElem?_getD]; rw[List.getElem?_eq_none (by simp; omega)]; rfl
    rw[e,this]
    split <;> simp[wO]⟩
theorem iy.PB {g:an} {j:Nat} {S:List (Int × Int)} (h:iy g j g.au.length S):iy g (j+1) 0 S:=⟨h.1,fun m=>by
  rw[h.2 m]
  by_cases hm:m < g.au.length
  · congr 1
    simp only[eq_iff_iff]
    push_cast
    constructor
    · rintro (h1 | h1) <;> left <;> omega
    · rintro (h1 | h1)
      · omega
      · omega
  · have:cq (dD g) m=qo:=sG (by rw[vS]; omega)
    rw[this]; split <;> split <;> simp[wO]⟩
theorem iy.start (g:an):iy g 0 0 (List.replicate g.au.length (0,0)):=⟨by simp,fun m=>by
  have e:pJ (List.replicate g.au.length (0,0)) m=(0,0):=by
    simp only[pJ,List.getD_eq_getElem?_getD,List.getElem?_replicate]
    split <;> rfl
  rw[e]
  split
  · rename_i h
    by_cases hk:cQ (dD g) m
    · have:=(xF hk).1; omega
    · rw[Dh hk]; simp[wO]
  · rfl⟩
theorem iy.done {g:an} {S:List (Int × Int)} (h:iy g g.au.length 0 S):S=wZ g:=by
  apply List.ext_getElem (by simp[h.1,wZ,vS])
  intro m h1 h2
  have e:S[m]=pJ S m:=by simp[pJ,List.getD_eq_getElem?_getD,h1]
  have e2:(wZ g)[m]=pJ (wZ g) m:=by simp[pJ,List.getD_eq_getElem?_getD,h2]
  rw[e,e2,h.2 m,KY]
  by_cases hk:cQ (dD g) m
  · rw[if_pos (.inl (xF hk).2)]
  · rw[Dh hk]; split <;> simp[wO]
def kA {κ:Type} (kv:κ→V) (m:bZ κ):List (V × V × Nat):=m.map fun x=>(kv x.1,x.2.1,x.2.2)
structure P6 {κ:Type} [BEq κ] (P:Program) (kt:TypeId) (kv:κ→V):Prop where
  find:∀ k e m,lx P kt (kv k) e (kA kv m)=some (jG k m)
  same:∀ k,sameKey (kv k) (kv k)=true
def CN {κ:Type} (m:bZ κ) (c:Nat):Prop:=(m.map (·.2.2)).Nodup∧∀ x∈m,x.2.2 < c
def lA {κ:Type} [BEq κ] (m:bZ κ) (k:κ):Option Nat:=(m.find? fun x=>k == x.1).map (·.2.2)
section
variable {κ:Type} [BEq κ] [LawfulBEq κ] {kv:κ→V}
theorem D2 (k:κ):∀ m:bZ κ,match jG k m with
    | some i=>∃ x,m[i]?=some x∧x.1=k∧getM m k=some x.2.1∧lA m k=some x.2.2∧(kA kv m)[i]?=some (kv k,x.2.1,x.2.2)∧∀ v c,(kA kv m).set i (kv k,v,x.2.2)=kA kv (bS k v c m)∧lA (bS k v c m) k=some x.2.2∧(bS k v c m).map (·.2.2)=m.map (·.2.2)
    | none=>getM m k=none∧lA m k=none∧∀ v c,kA kv m ++ [(kv k,v,c)]=kA kv (bS k v c m)∧lA (bS k v c m) k=some c∧(bS k v c m).map (·.2.2)=m.map (·.2.2) ++ [c]
  | []=>⟨rfl,rfl,fun v c=>⟨rfl,by simp[bS,lA],rfl⟩⟩
  | x :: r=>by
    have ih:=D2 k r
    simp only[jG]
    cases hk:k == x.1 with
    | true =>
      have hx:x.1=k:=(eq_of_beq hk).symm
      exact ⟨x,rfl,hx,by simp[getM,hk],by simp[lA,hk],by simp[kA,hx],fun v c=>by simp[bS,hk,kA,lA]⟩
    | false =>
      simp only[Bool.false_eq_true,if_false]
      cases hi:jG k r with
      | some i =>
        rw[hi] at ih
        obtain ⟨y,h1,h2,h3,h4,h5,h6⟩:=ih
        refine ⟨y,by simpa using h1,h2,by simpa [getM,hk] using h3,by simpa [lA,hk] using h4,by simpa [kA] using h5,fun v c=>?_⟩
        obtain ⟨g1,g2,g3⟩:=h6 v c
        exact ⟨by simp only[kA] at g1 ⊢; simp[bS,hk,g1],by simpa [bS,hk,lA] using g2,by simp[bS,hk,g3]⟩
      | none =>
        rw[hi] at ih
        refine ⟨by simpa [getM,hk] using ih.1,by simpa [lA,hk] using ih.2.1,fun v c=>?_⟩
        obtain ⟨g1,g2,g3⟩:=ih.2.2 v c
        exact ⟨by simp only[kA] at g1 ⊢; simp[bS,hk,g1],by simpa [bS,hk,lA] using g2,by simp[bS,hk,g3]⟩
theorem CN.put {m:bZ κ} {c:Nat} (h:CN m c) (k:κ) (v:V):CN (bS k v c m) (c+1):=by
  have hg:=D2 (kv:=fun _=>V.any) k m
  cases hj:jG k m with
  | some j =>
    rw[hj] at hg
    obtain ⟨y,_,_,_,_,_,h6⟩:=hg
    have e:=(h6 v c).2.2
    refine ⟨by rw[e]; exact h.1,fun x hx=>?_⟩
    have:x.2.2∈m.map (·.2.2):=by rw[← e]; exact List.mem_map.2 ⟨x,hx,rfl⟩
    obtain ⟨y,hy,e2⟩:=List.mem_map.1 this
    have:=h.2 y hy
    omega
  | none =>
    rw[hj] at hg
    have e:=(hg.2.2 v c).2.2
    refine ⟨?_,fun x hx=>?_⟩
    · rw[e,List.nodup_append]
      refine ⟨h.1,by simp,fun a ha b hb=>?_⟩
      simp at hb; subst hb
      obtain ⟨y,hy,rfl⟩:=List.mem_map.1 ha
      have:=h.2 y hy
      omega
    · have:x.2.2∈m.map (·.2.2) ++ [c]:=by rw[← e]; exact List.mem_map.2 ⟨x,hx,rfl⟩
      rcases List.mem_append.1 this with h1 | h1
      · obtain ⟨y,hy,e2⟩:=List.mem_map.1 h1
        have:=h.2 y hy
        omega
      · simp at h1; omega
variable {P:Program} {T:Env} {H:View} {kt et t ty:TypeId}
end
def tJ (x:Item):List V:=[aj x.aG,aj x.dot,aj x.kQ]
def OW (x:Item):V:=.agg (tJ x)
structure P5 (P:Program) (kt:TypeId):Prop where
  ty:∃ f0 f1 f2:Field,P.underlying kt=some (.struct #[f0,f1,f2])∧f0.name≠ "_" ∧ f1.name≠ "_" ∧ f2.name≠ "_" ∧ P.underlying f0.type=some (.int .i64)∧P.underlying f1.type=some (.int .i64)∧P.underlying f2.type=some (.int .i64)∧f0.offset=0∧f1.offset=1∧f2.offset=2
  held:P.stoodInHeld kt=false
def PH (m:bZ Item) (s:List Item) (B:Nat):Prop:=∀ x,(x∈s→∃ k:Nat,getM m x=some (aj k)∧1≤k∧k≤B)∧(x ∉ s→getM m x=none)
structure pM (H:View) (c sid mid:Nat) (sv:Nat→V) (mi:Nat→Nat) (mm:Nat→bZ Item) (cl:Nat→Nat) (g:an) (p:List Int) (nu:V) (S S1:Nat→List Item) (B n:Nat) (K:List (Nat × bL)):Prop where
  box:H c=.arr 8 [[.aV (g.ax.map cp),encS g.au,.aV (g.rules.map aU),gi g.start,encI p,nu,.sl sid 0 n 1,.sl mid 0 n 1]]
  jA:H sid=.arr 1 ((List.range n).map fun j=>[sv j])
  seen:H mid=.arr 1 ((List.range n).map fun j=>[.mp (mi j)])
  set:∀ j,j < n→aW H (sv j) 3 ((S j).map tJ)
  map:∀ j,j < n→H (mi j)=.map (kA OW (mm j)) (cl j)∧CN (mm j) (cl j)∧PH (mm j) (S1 j) B
  ne:sid≠mid
  xW:∀ i j o,i < n→j < n→owner (sv i)=some o→owner (sv j)=some o→i=j
  Hf:∀ i j,i < n→j < n→mi i=mi j→i=j
  off:∀ q∈K,H q.1=q.2∧q.2≠.dead∧q.1≠sid∧(∀ j,j < n→q.1≠mi j)∧∀ j,j < n→owner (sv j)≠some q.1
def Ch (H:View) (c:Nat) (g:an) (p:List Int) (nu:V) (S:Nat→List Item) (B n:Nat) (K:List (Nat × bL)):Prop:=∃ sid mid sv mi mm cl,pM H c sid mid sv mi mm cl g p nu S S B n K
def vt (S:Nat→List Item) (a:Nat) (x:Item):Nat→List Item:=fun b=>if b=a then (if x∈S a then S a else S a ++ [x]) else S b
theorem Ch.more {H:View} {c:Nat} {g:an} {p:List Int} {nu:V} {S:Nat→List Item} {B B' n:Nat} {K:List (Nat × bL)} (h:Ch H c g p nu S B n K) (hB:B≤B'):Ch H c g p nu S B' n K:=by
  obtain ⟨sid,mid,sv,mi,mm,cl,h⟩:=h
  refine ⟨sid,mid,sv,mi,mm,cl,h.box,h.jA,h.seen,h.set,fun j hj=>⟨(h.map j hj).1,(h.map j hj).2.1,fun x=>⟨fun hx=>?_,((h.map j hj).2.2 x).2⟩⟩,h.ne,h.xW,h.Hf,h.off⟩
  obtain ⟨k,h1,h2,h3⟩:=((h.map j hj).2.2 x).1 hx
  exact ⟨k,h1,h2,by omega⟩
theorem Ch.drop {H:View} {c:Nat} {g:an} {p:List Int} {nu:V} {S:Nat→List Item} {B n:Nat} {q:Nat × bL} {K:List (Nat × bL)} (h:Ch H c g p nu S B n (q :: K)):Ch H c g p nu S B n K:=by
  obtain ⟨sid,mid,sv,mi,mm,cl,h⟩:=h
  exact ⟨sid,mid,sv,mi,mm,cl,h.box,h.jA,h.seen,h.set,h.map,h.ne,h.xW,h.Hf,fun q hq=>h.off q (by simp[hq])⟩
theorem pM.new {H:View} {c sid mid:Nat} {sv:Nat→V} {mi:Nat→Nat} {mm:Nat→bZ Item} {cl:Nat→Nat} {g:an} {p:List Int} {nu:V} {S S1:Nat→List Item} {B n:Nat} {K:List (Nat × bL)} (h:pM H c sid mid sv mi mm cl g p nu S S1 B n K)
    {b:Nat} {o:bL} (hb:H b=.dead) (ho:o≠.dead):pM (H.set b o) c sid mid sv mi mm cl g p nu S S1 B n ((b,o) :: K):=by
  have keep:∀ id,H id≠.dead→(H.set b o) id=H id:=fun id hid=>by
    have e:id≠b:=by rintro rfl; exact hid hb
    simp[View.set,e]
  have live:∀ {id},H id≠.dead→b≠id:=fun hid e=>hid (e ▸ hb)
  refine ⟨?_,?_,?_,fun j hj=>?_,fun j hj=>?_,h.ne,h.xW,h.Hf,fun q hq=>?_⟩
  · rw[keep _ (by rw[h.box]; simp)]; exact h.box
  · rw[keep _ (by rw[h.jA]; simp)]; exact h.jA
  · rw[keep _ (by rw[h.seen]; simp)]; exact h.seen
  · exact (h.set j hj).fresh hb
  · rw[keep _ (by rw[(h.map j hj).1]; simp)]; exact h.map j hj
  · rcases List.mem_cons.1 hq with rfl | hq
    · refine ⟨by simp[View.set],ho,live (by rw[h.jA]; simp),fun j hj=>live (by rw[(h.map j hj).1]; simp),fun j hj=>?_⟩
      have:=(h.set j hj).ne hb
      exact this
    · obtain ⟨h1,h2,h3⟩:=h.off q hq
      exact ⟨by rw[keep _ (by rw[h1]; exact h2)]; exact h1,h2,h3⟩
theorem Ch.new {H:View} {c:Nat} {g:an} {p:List Int} {nu:V} {S:Nat→List Item} {B n b:Nat} {o:bL} {K:List (Nat × bL)} (h:Ch H c g p nu S B n K) (hb:H b=.dead) (ho:o≠.dead):Ch (H.set b o) c g p nu S B n ((b,o) :: K):=by
  obtain ⟨sid,mid,sv,mi,mm,cl,h⟩:=h
  exact ⟨sid,mid,sv,mi,mm,cl,h.new hb ho⟩
theorem Ch.kept {H:View} {c:Nat} {g:an} {p:List Int} {nu:V} {S:Nat→List Item} {B n:Nat} {K:List (Nat × bL)} (h:Ch H c g p nu S B n K):∀ q∈K,H q.1=q.2:=by
  obtain ⟨sid,mid,sv,mi,mm,cl,h⟩:=h
  exact fun q hq=>(h.off q hq).1
theorem pM.PJ {H H':View} {c sid mid:Nat} {sv:Nat→V} {mi:Nat→Nat} {mm:Nat→bZ Item} {cl:Nat→Nat} {g:an} {p:List Int} {nu:V} {S S1:Nat→List Item} {B n:Nat} {K:List (Nat × bL)} (h:pM H c sid mid sv mi mm cl g p nu S S1 B n K)
    {at0:Nat} (ha:at0 < n) {x:Item} (hx:¬ x∈S at0) {u':V} (ho:aW H' u' 3 ((S at0).map tJ ++ [tJ x])) (hl:Left H H' (sv at0) u') :
    pM (H'.set sid (.arr 1 (((List.range n).map fun j=>[sv j]).set at0 [u']))) c sid mid (fun j=>if j=at0 then u' else sv j) mi mm cl g p nu (vt S at0 x) S1 B n K:=by
  have own:∀ {id},owner (sv at0)=some id→H id=.arr 3 ((S at0).map tJ):=fun hid=>((h.set at0 ha).live hid).1
  have n1:owner (sv at0)≠some sid:=fun e=>by
    have:=own e
    rw[h.jA] at this; simp at this
  have keep:∀ id,H id≠.dead→owner (sv at0)≠some id→H' id=H id∧owner u'≠some id:=hl
  have ns:=keep sid (by rw[h.jA]; simp) n1
  have keep2:∀ id,H id≠.dead→owner (sv at0)≠some id→id≠sid→(H'.set sid (.arr 1 (((List.range n).map fun j=>[sv j]).set at0 [u']))) id=H id:=fun id h1 h2 h3=>by
    simp only[View.set,if_neg h3]; exact (keep id h1 h2).1
  have no3:∀ {id o},H id=o→o≠.arr 3 ((S at0).map tJ)→owner (sv at0)≠some id:=fun h1 h2 e=>h2 (by rw[← h1]; exact own e)
  refine ⟨?_,?_,?_,fun j hj=>?_,fun j hj=>?_,h.ne,fun i j o hi hj h1 h2=>?_,h.Hf,fun q hq=>?_⟩
  · rw[keep2 c (by rw[h.box]; simp) (no3 h.box (by simp)) (by rintro rfl; have:=h.box; rw[h.jA] at this; simp at this)]; exact h.box
  · simp only[View.set,if_true]
    congr 1
    rw[Gi]
    apply List.map_congr_left
    intro j _
    split <;> rfl
  · rw[keep2 mid (by rw[h.seen]; simp) (no3 h.seen (by simp)) h.ne.symm]; exact h.seen
  · by_cases e:j=at0
    · subst e
      simp only[if_true,vt,if_neg hx,List.map_append,List.map_cons,List.map_nil]
      exact ho.other ns.2
    · simp only[if_neg e,vt]
      refine (h.set j hj).keep fun id hid=>?_
      have hlv:=((h.set j hj).live hid).1
      refine keep2 id (by rw[hlv]; simp) (fun e2=>e (h.xW j at0 id hj ha hid e2)) ?_
      rintro rfl; rw[h.jA] at hlv; simp at hlv
  · obtain ⟨g1,g2,g3⟩:=h.map j hj
    refine ⟨?_,g2,g3⟩
    rw[keep2 (mi j) (by rw[g1]; simp) (no3 g1 (by simp)) (by intro e; rw[e,h.jA] at g1; simp at g1)]; exact g1
  · by_cases e1:i=at0
    · by_cases e2:j=at0
      · omega
      · simp only[if_pos e1,if_neg e2] at h1 h2
        exfalso
        have hlv:=((h.set j hj).live h2).1
        exact (keep o (by rw[hlv]; simp) (fun e3=>e2 (h.xW j at0 o hj ha h2 e3))).2 h1
    · by_cases e2:j=at0
      · simp only[if_neg e1,if_pos e2] at h1 h2
        exfalso
        have hlv:=((h.set i hi).live h1).1
        exact (keep o (by rw[hlv]; simp) (fun e3=>e1 (h.xW i at0 o hi ha h1 e3))).2 h2
      · simp only[if_neg e1,if_neg e2] at h1 h2
        exact h.xW i j o hi hj h1 h2
  · obtain ⟨h1,h2,h3,h4,h5⟩:=h.off q hq
    refine ⟨?_,h2,h3,h4,fun j hj=>?_⟩
    · rw[keep2 q.1 (by rw[h1]; exact h2) (h5 at0 ha) h3]; exact h1
    · by_cases e:j=at0
      · simp only[if_pos e]; exact (keep q.1 (by rw[h1]; exact h2) (h5 at0 ha)).2
      · simp only[if_neg e]; exact h5 j hj
inductive EH (g:an) (p:List Int):Int→Nat→Prop
  | start:EH g p g.start 0
  | step (R:aM) (l1 l2:List Int) (n:Int) (f a:Nat):R∈g.rules→R.right=l1 ++ (-1 - n) :: l2→EH g p R.left f→Sp g p l1 f a→EH g p n a
def Hs (g:an) (p:List Int) (x:Item):Prop:=∃ R,g.rules[x.aG]?=some R∧EH g p R.left x.kQ
inductive Dl (g:an) (p:List Int):Int→Nat→Prop
  | full (R:aM) (l1 l2:List Int) (f:Nat):R∈g.rules→R.right=l1 ++ l2→Sp g p l1 f p.length→Dl g p R.left f
  | deep (R:aM) (l1 l2:List Int) (s:Int) (f a:Nat):R∈g.rules→R.right=l1 ++ s :: l2→s < 0→Sp g p l1 f a→a < p.length→Dl g p (-1 - s) a→Dl g p R.left f
theorem EH.len {g:an} {p:List Int} {n:Int} {a:Nat} (h:EH g p n a):a≤p.length:=by
  induction h with
  | start=>omega
  | step _ _ _ _ _ _ _ _ _ hs ih=>exact hs.len ih
theorem MO {l:List Int} {d:Nat} {s:Int} (h:l[d]?=some s):l=l.take d ++ s :: l.drop (d+1):=by
  have h1:=(List.getElem?_eq_some_iff.1 h)
  obtain ⟨hl,he⟩:=h1
  rw[← he]
  simp
theorem Hs.ask {g:an} {p:List Int} {a:Nat} {x:Item} (h:Hs g p x) (hs:Sound g p a x) {R:aM} (hR:g.rules[x.aG]?=some R) {s:Int} (hd:R.right[x.dot]?=some s):EH g p (-1 - s) a:=by
  obtain ⟨R1,h1,h2⟩:=h
  obtain ⟨R2,h3,_,_,h4⟩:=hs
  rw[hR] at h1 h3; simp at h1 h3; subst h1; subst h3
  refine .step R (R.right.take x.dot) (R.right.drop (x.dot+1)) (-1 - s) x.kQ a (List.mem_of_getElem? hR) ?_ h2 h4
  rw[show -1 - (-1 - s)=s by omega]
  exact MO hd
theorem Sp.cut {g:an} {p:List Int} {k:Nat} {l:List Int} {i j:Nat} (h:Sp g p l i j):j≤k→Sp g (p.take k) l i j:=by
  induction h with
  | nil i=>exact fun _=>.nil i
  | term s l i j h0 hf h ih =>
    intro hk
    have:=h.le
    obtain ⟨c,hc,h2⟩:=hf
    exact .term s l i j h0 ⟨c,by rw[List.getElem?_take,if_pos (by omega)]; exact hc,h2⟩ (ih hk)
  | dP s l R i m j h0 hR hl h1 h2 ih1 ih2 =>
    intro hk
    have:=h2.le
    exact .dP s l R i m j h0 hR hl (ih1 (by omega)) (ih2 hk)
def Grow (a:Nat) (S S':Nat→List Item):Prop:=∀ b,S b <+: S' b∧(b < a→S' b=S b)
structure Good (g:an) (p:List Int) (S:Nat→List Item):Prop where
  nodup:∀ a,(S a).Nodup
  sound:∀ a x,x∈S a→Sound g p a x
  top:∀ a x,x∈S a→Hs g p x
  out:∀ a,p.length < a→S a=[]
theorem Grow.refl (a:Nat) (S:Nat→List Item):Grow a S S:=fun _=>⟨List.prefix_refl _,fun _=>rfl⟩
theorem Grow.trans {a:Nat} {S S' S'':Nat→List Item} (h:Grow a S S') (h':Grow a S' S''):Grow a S S'':=fun b=>⟨(h b).1.trans (h' b).1,fun hb=>((h' b).2 hb).trans ((h b).2 hb)⟩
theorem Grow.mem {a b:Nat} {S S':Nat→List Item} (h:Grow a S S') {x:Item} (hx:x∈S b):x∈S' b:=(h b).1.subset hx
theorem Good.put {g:an} {p:List Int} {S:Nat→List Item} (h:Good g p S) {a:Nat} {x:Item} (hx:Sound g p a x) (ht:Hs g p x) (ha:a≤p.length):Good g p (vt S a x):=by
  refine ⟨fun b=>?_,fun b y hy=>?_,fun b y hy=>?_,fun b hb=>?_⟩
  · unfold vt
    split
    · rename_i e
      subst e
      split
      · exact h.nodup _
      · rename_i hn
        rw[List.nodup_append]
        refine ⟨h.nodup _,by simp,fun u hu v hv=>?_⟩
        simp at hv
        rintro rfl
        exact hn (hv ▸ hu)
    · exact h.nodup _
  · unfold vt at hy
    split at hy
    · rename_i e
      subst e
      split at hy
      · exact h.sound _ _ hy
      · rcases List.mem_append.1 hy with hy | hy
        · exact h.sound _ _ hy
        · simp at hy; subst hy; exact hx
    · exact h.sound _ _ hy
  · unfold vt at hy
    split at hy
    · rename_i e
      subst e
      split at hy
      · exact h.top _ _ hy
      · rcases List.mem_append.1 hy with hy | hy
        · exact h.top _ _ hy
        · simp at hy; subst hy; exact ht
    · exact h.top _ _ hy
  · unfold vt
    rw[if_neg (by omega)]
    exact h.out b hb
theorem rv:∀ (N:Nat) (l:List Nat),l.Nodup→(∀ x∈l,x < N)→l.length≤N
  | 0,l,_,h=>by
    cases l with
    | nil=>simp
    | cons x l=>exact absurd (h x (by simp)) (by omega)
  | N+1,l,hd,h=>by
    by_cases e:N∈l
    · have h1:=rv N (l.erase N) (hd.erase N) fun x hx=>by
        have h2:=(hd.mem_erase_iff).1 hx
        have:=h x h2.2
        have:=h2.1
        omega
      rw[List.length_erase_of_mem e] at h1
      omega
    · have:=rv N l hd fun x hx=>by
        have:=h x hx
        have:x≠N:=by rintro rfl; exact e hx
        omega
      omega
theorem BB {α:Type} {f:α→Nat} : ∀ {l:List α},l.Nodup→(∀ x∈l,∀ y∈l,f x=f y→x=y)→(l.map f).Nodup
  | [],_,_=>by simp
  | x :: l,hd,h=>by
    rw[List.nodup_cons] at hd
    rw[List.map_cons,List.nodup_cons]
    refine ⟨fun hm=>?_,BB hd.2 fun a ha b hb=>h a (by simp[ha]) b (by simp[hb])⟩
    obtain ⟨y,hy,e⟩:=List.mem_map.1 hm
    have:=h y (by simp[hy]) x (by simp) e
    exact hd.1 (this ▸ hy)
theorem Sound.small {g:an} (hf:g.dM) {p:List Int} {a:Nat} {x:Item} (h:Sound g p a x):x.aG < 40∧x.dot < 7∧x.kQ≤a:=by
  obtain ⟨R,hR,hd,hfr,_⟩:=h
  have h1:=(List.getElem?_eq_some_iff.1 hR).1
  have h2:=hf.rules
  have h3:=hf.right R (List.mem_of_getElem? hR)
  omega
theorem Good.len {g:an} (hf:g.dM) {p:List Int} (hp:p.length≤60) {S:Nat→List Item} (h:Good g p S) (a:Nat):(S a).length≤17080:=by
  by_cases ha:p.length < a
  · rw[h.out a ha]; simp
  · have hb:∀ x∈S a,x.aG < 40∧x.dot < 7∧x.kQ < 61:=fun x hx=>by
      have:=(h.sound a x hx).small hf
      omega
    have:=rv 17080 ((S a).map fun x=>x.aG * 427+x.dot * 61+x.kQ) (BB (h.nodup a) fun x hx y hy e=>by
      have h1:=hb x hx
      have h2:=hb y hy
      cases x; cases y
      simp only at e h1 h2
      simp only[Item.mk.injEq]
      omega) (fun v hv=>by
      obtain ⟨x,hx,rfl⟩:=List.mem_map.1 hv
      have:=hb x hx
      omega)
    simpa using this
theorem Ch.box {H:View} {c:Nat} {g:an} {p:List Int} {nu:V} {S:Nat→List Item} {B n:Nat} {K:List (Nat × bL)} (h:Ch H c g p nu S B n K) :
    ∃ sid mid,H c=.arr 8 [[.aV (g.ax.map cp),encS g.au,.aV (g.rules.map aU),gi g.start,encI p,nu,.sl sid 0 n 1,.sl mid 0 n 1]]:=by
  obtain ⟨sid,mid,sv,mi,mm,cl,h⟩:=h
  exact ⟨sid,mid,h.box⟩
theorem Ch.set {H:View} {c:Nat} {g:an} {p:List Int} {nu:V} {S:Nat→List Item} {B n:Nat} {K:List (Nat × bL)} (h:Ch H c g p nu S B n K) {a:Nat} (ha:a < n) :
    ∃ (sid mid:Nat) (sv:Nat→V),H c=.arr 8 [[.aV (g.ax.map cp),encS g.au,.aV (g.rules.map aU),gi g.start,encI p,nu,.sl sid 0 n 1,.sl mid 0 n 1]]∧H sid=.arr 1 ((List.range n).map fun j=>[sv j])∧aW H (sv a) 3 ((S a).map tJ):=by
  obtain ⟨sid,mid,sv,mi,mm,cl,h⟩:=h
  exact ⟨sid,mid,sv,h.box,h.jA,h.set a ha⟩
def O6 (g:an) (dP:Int) (S:Nat→List Item) (at_:Nat) (x:Item):Prop:=∀ R,g.rules[x.aG]?=some R→R.right[x.dot]?=some (-1 - dP)→(⟨x.aG,x.dot+1,x.kQ⟩:Item)∈S at_
theorem Sound.on {g:an} {p:List Int} {f a:Nat} {x:Item} (h:Sound g p f x) {R:aM} (hR:g.rules[x.aG]?=some R) {s:Int} (hs:R.right[x.dot]?=some s) (hsp:Sp g p [s] f a):Sound g p a ⟨x.aG,x.dot+1,x.kQ⟩:=by
  obtain ⟨R',hR',h1,h2,h3⟩:=h
  rw[hR] at hR'; simp at hR'; subst hR'
  have hlt:=(List.getElem?_eq_some_iff.1 hs).1
  refine ⟨R,hR,hlt,Nat.le_trans h2 hsp.le,?_⟩
  have:R.right.take (x.dot+1)=R.right.take x.dot ++ [s]:=by rw[List.take_add_one,hs]; rfl
  rw[this]
  exact h3.app hsp
structure Lr (g:an) (p:List Int) (S:Nat→List Item) (a:Nat) (x:Item):Prop where
  term:∀ R s,g.rules[x.aG]?=some R→R.right[x.dot]?=some s→0≤s→od p a s→(⟨x.aG,x.dot+1,x.kQ⟩:Item)∈S (a+1)
  pred:∀ R s i R',g.rules[x.aG]?=some R→R.right[x.dot]?=some s→s < 0→g.rules[i]?=some R'→R'.left = -1 - s→(⟨i,0,a⟩:Item)∈S a
  null:∀ R s,g.rules[x.aG]?=some R→R.right[x.dot]?=some s→s < 0→(aH g false).getD (-1 - s).toNat false=true→(⟨x.aG,x.dot+1,x.kQ⟩:Item)∈S a
  comp:∀ R,g.rules[x.aG]?=some R→x.dot=R.right.length→x.kQ < a→∀ y∈S x.kQ,O6 g R.left S a y
theorem Lr.grow {g:an} {p:List Int} {S S':Nat→List Item} {a:Nat} {x:Item} (h:Lr g p S a x) (hg:Grow a S S'):Lr g p S' a x where
  term:=fun R s h1 h2 h3 h4=>hg.mem (h.term R s h1 h2 h3 h4)
  pred:=fun R s i R' h1 h2 h3 h4 h5=>hg.mem (h.pred R s i R' h1 h2 h3 h4 h5)
  null:=fun R s h1 h2 h3 h4=>hg.mem (h.null R s h1 h2 h3 h4)
  comp:=fun R h1 h2 h3 y hy R' h4 h5=>hg.mem (h.comp R h1 h2 h3 y (by rw[(hg x.kQ).2 h3] at hy; exact hy) R' h4 h5)
structure tE (H:View) (c sid:Nat) (u:V) (mi:Nat→Nat) (g:an) (p:List Int) (nu:V) (n k:Nat):Prop where
  box:H c=.arr 8 [[.aV (g.ax.map cp),encS g.au,.aV (g.rules.map aU),gi g.start,encI p,nu,.sl sid 0 n 1,u]]
  jA:H sid=.arr 1 ((List.range n).map fun _=>[.emp 1])
  seen:aW H u 1 ((List.range k).map fun j=>[.mp (mi j)])
  map:∀ j,j < k→H (mi j)=.map [] 0
  inj:∀ i j,i < k→j < k→mi i=mi j→i=j
theorem tE.N3 {H:View} {c sid:Nat} {u:V} {mi:Nat→Nat} {g:an} {p:List Int} {nu:V} {n k:Nat} (h:tE H c sid u mi g p nu n k) (hn:0 < n):owner u≠some sid:=fun e=>by
  have h1:=(h.seen.live e).1
  rw[h.jA] at h1
  simp only[bL.arr.injEq,true_and] at h1
  have h2:=congrArg (·[0]?) h1
  simp[hn] at h2
  by_cases hk:0 < k
  · simp[hk] at h2
  · have:k=0:=by omega
    subst this
    simp at h2
theorem tE.PC {H:View} {c sid:Nat} {u:V} {mi:Nat→Nat} {g:an} {p:List Int} {nu:V} {n k:Nat} (h:tE H c sid u mi g p nu n k):owner u≠some c:=fun e=>by
  have h1:=(h.seen.live e).1
  rw[h.box] at h1
  simp at h1
theorem tE.P2 {H:View} {c sid:Nat} {u:V} {mi:Nat→Nat} {g:an} {p:List Int} {nu:V} {n:Nat} (h:tE H c sid u mi g p nu n n) (hn:0 < n):Ch H c g p nu (fun _=>[]) 0 n []:=by
  obtain ⟨mid,hu,hm⟩:=h.seen.sl (by simp; omega)
  have hoff:=h.N3 hn
  refine ⟨sid,mid,fun _=>.emp 1,mi,fun _=>[],fun _=>0,?_,h.jA,hm,fun j hj=>aW.nil,fun j hj=>⟨h.map j hj,?_,fun x=>⟨fun hx=>by simp at hx,fun _=>rfl⟩⟩,?_,fun i j o _ _ h1=>by simp[owner] at h1,fun i j hi hj e=>h.inj i j hi hj e,fun q hq=>by simp at hq⟩
  · have:=h.box
    rw[hu] at this
    simpa using this
  · exact ⟨by simp,fun x hx=>by simp at hx⟩
  · rintro rfl
    rw[hu] at hoff
    exact hoff rfl
theorem tE.next {H H2:View} {c sid m:Nat} {u u':V} {mi:Nat→Nat} {g:an} {p:List Int} {nu:V} {n k:Nat} (h:tE H c sid u mi g p nu n k) (hn:0 < n) (hm:H m=.dead) (ho:aW H2 u' 1 (((List.range k).map fun j=>[.mp (mi j)]) ++ [[.mp m]])) (hm2:H2 m=.map [] 0)
    (hl:∀ id,H id≠.dead→owner u≠some id→H2 id=H id∧owner u'≠some id) :
    tE (H2.set c (.arr 8 [[.aV (g.ax.map cp),encS g.au,.aV (g.rules.map aU),gi g.start,encI p,nu,.sl sid 0 n 1,u']])) c sid u' (fun j=>if j=k then m else mi j) g p nu n (k+1):=by
  have hC:=hl c (by rw[h.box]; simp) h.PC
  have hS:=hl sid (by rw[h.jA]; simp) (h.N3 hn)
  have hcs:sid≠c:=by rintro rfl; have:=h.box; rw[h.jA] at this; simp at this
  have hmn:∀ j,j < k→mi j≠m:=fun j hj e=>by have:=h.map j hj; rw[e,hm] at this; simp at this
  refine ⟨by simp[View.set],?_,?_,fun j hj=>?_,fun i j hi hj e=>?_⟩
  · simp only[View.set,if_neg hcs]
    rw[hS.1]; exact h.jA
  · refine aW.other ?_ hC.2
    have:(List.range (k+1)).map (fun j=>[V.mp (if j=k then m else mi j)])=(List.range k).map (fun j=>[V.mp (mi j)]) ++ [[.mp m]]:=by
      rw[List.range_succ,List.map_append,List.map_cons,List.map_nil,if_pos rfl]
      congr 1
      apply List.map_congr_left
      intro j hj
      rw[if_neg (by have:=List.mem_range.1 hj; omega)]
    rw[this]; exact ho
  · by_cases e:j=k
    · simp only[if_pos e]
      have:m≠c:=by rintro rfl; rw[h.box] at hm; simp at hm
      simp only[View.set,if_neg this]
      exact hm2
    · simp only[if_neg e]
      have h1:=h.map j (by omega)
      have:mi j≠c:=by intro e2; rw[e2,h.box] at h1; simp at h1
      simp only[View.set,if_neg this]
      rw[(hl (mi j) (by rw[h1]; simp) (fun e2=>by have:=(h.seen.live e2).1; rw[h1] at this; simp at this)).1]
      exact h1
  · by_cases e1:i=k
    · by_cases e2:j=k
      · omega
      · simp only[if_pos e1,if_neg e2] at e
        exact absurd e.symm (hmn j (by omega))
    · by_cases e2:j=k
      · simp only[if_neg e1,if_pos e2] at e
        exact absurd e (hmn i (by omega))
      · simp only[if_neg e1,if_neg e2] at e
        exact h.inj i j (by omega) (by omega) e
def Kept (H H':View):Prop:=∀ id,H id≠.dead→H' id=H id
theorem Kept.refl (H:View):Kept H H:=fun _ _=>rfl
theorem Kept.trans {H H' H'':View} (h:Kept H H') (h':Kept H' H''):Kept H H'':=fun id hid=>by
  have h1:=h id hid
  rw[← h1] at hid
  rw[h' id hid,h1]
theorem Kept.new {H:View} {b:Nat} {o:bL} (hb:H b=.dead):Kept H (H.set b o):=fun id hid=>by
  have:id≠b:=by rintro rfl; exact hid hb
  simp[View.set,this]
def L8 (H:View) (c:Nat) (g:an) (p:List Int):Prop:=∃ nu sid mid n,H c=.arr 8 [[.aV (g.ax.map cp),encS g.au,.aV (g.rules.map aU),gi g.start,encI p,nu,.sl sid 0 n 1,.sl mid 0 n 1]]
theorem L8.keep {H H':View} {c:Nat} {g:an} {p:List Int} (h:L8 H c g p) (hs:Kept H H'):L8 H' c g p:=by
  obtain ⟨nu,sid,mid,n,h⟩:=h
  exact ⟨nu,sid,mid,n,by rw[hs c (by rw[h]; simp)]; exact h⟩
abbrev Pt:=List (List Bool)
def Ea (P:Pt) (N M:Nat):Prop:=P.length=N∧∀ r∈P,r.length=M
def Oz (P:Pt):V:=.aV (P.map fun c=>[bM c])
theorem Ea.row {P:Pt} {N M n:Nat} (h:Ea P N M) (hn:n < N):∃ r,P[n]?=some r∧r.length=M∧P.getD n []=r:=by
  have hl:n < P.length:=by rw[h.1]; exact hn
  exact ⟨P[n],List.getElem?_eq_getElem hl,h.2 _ (List.getElem_mem hl),by simp[List.getD_eq_getElem?_getD,hl]⟩
structure lM (H:View) (I N M:Nat) (R:Nat→Nat) (P:Pt):Prop where
  top:H I=.arr 1 ((List.range N).map fun n=>[.sl (R n) 0 M 1])
  row:∀ n,n < N→H (R n)=.arr 1 (bV (P.getD n []))
  inj:∀ n n',n < N→n' < N→R n=R n'→n=n'
structure EL (H:View) (I N M k:Nat) (R:Nat→Nat):Prop where
  top:H I=.arr 1 ((List.range N).map fun n=>[if n < k then .sl (R n) 0 M 1 else .emp 1])
  row:∀ n,n < k→H (R n)=.arr 1 (List.replicate M [gb false])
  inj:∀ n n',n < k→n' < k→R n=R n'→n=n'
def Nz (N M:Nat):Pt:=List.replicate N (List.replicate M false)
def HE (P:Pt) (n i:Nat):Pt:=P.set n ((P.getD n []).set i true)
theorem lM.Pe {H:View} {I N M:Nat} {R:Nat→Nat} {P:Pt} (h:lM H I N M R P) (hP:Ea P N M) (hM:0 < M) {n:Nat} (hn:n < N):I≠R n:=fun e=>by
  have h1:=h.row n hn
  obtain ⟨r,_,h2,h3⟩:=hP.row hn
  rw[← e,h.top,h3] at h1
  simp only[bL.arr.injEq,true_and] at h1
  exact yO (by omega) h1.symm fun _ _=>by simp
theorem lM.keep {H H':View} {I N M:Nat} {R:Nat→Nat} {P:Pt} (h:lM H I N M R P) (hk:∀ id,H id≠.dead→H' id=H id):lM H' I N M R P :=
  ⟨by rw[hk _ (by rw[h.top]; simp)]; exact h.top,fun n hn=>by rw[hk _ (by rw[h.row n hn]; simp)]; exact h.row n hn,h.inj⟩
theorem lM.put {H:View} {I N M:Nat} {R:Nat→Nat} {P:Pt} (h:lM H I N M R P) (hP:Ea P N M) {n i:Nat} (hn:n < N) (hi:i < M) :
    lM (H.set (R n) (.arr 1 (bV ((P.getD n []).set i true)))) I N M R (HE P n i):=by
  have hI:=h.Pe hP (by omega) hn
  have hnl:n < P.length:=by rw[hP.1]; exact hn
  refine ⟨by simp only[View.set,if_neg hI]; exact h.top,fun m hm=>?_,h.inj⟩
  by_cases e:R m=R n
  · have:=h.inj m n hm hn e
    subst this
    simp only[View.set,if_true]
    congr 2
    simp[HE,List.getD_eq_getElem?_getD,hnl]
  · simp only[View.set,if_neg e]
    rw[h.row m hm]
    congr 2
    have:n≠m:=fun e2=>e (by rw[e2])
    simp[HE,List.getD_eq_getElem?_getD,List.getElem?_set,this]
theorem lM.HH {H:View} {I N M:Nat} {R:Nat→Nat} {P:Pt} (hG:lM H I N M R P) (hP:Ea P N M):en H (.sl I 0 N 1) (Oz P):=by
  rintro h rfl
  refine dA.Oq ?_
  refine .sl I 0 N 1 1 _ _ hG.top (by simp) (by simp[hP.1]) (fun n hn=>?_) (fun n j hn hj=>?_)
  · obtain ⟨r,hr,_⟩:=hP.row hn
    simp[List.getD_eq_getElem?_getD,hr,hn]
  · obtain ⟨r,hr,hrl,hrg⟩:=hP.row hn
    have e1:((P.map fun c=>[bM c]).getD n [])=[bM r]:=by simp[List.getD_eq_getElem?_getD,hr]
    have e2:(((List.range N).map fun n=>[V.sl (R n) 0 M 1]).getD (0+n) [])=[V.sl (R n) 0 M 1]:=by simp[List.getD_eq_getElem?_getD,hn]
    rw[e1] at hj ⊢
    rw[e2]
    have:j=0:=by simp at hj; omega
    subst this
    simp only[List.getD_cons_zero]
    have hro:=hG.row n hn
    rw[hrg] at hro
    have:=ot (h:=h) (id:=R n) (is:=r) hro
    rwa [hrl] at this
theorem EL.done {H:View} {I N M:Nat} {R:Nat→Nat} (h:EL H I N M N R):lM H I N M R (Nz N M):=by
  refine ⟨?_,fun n hn=>?_,h.inj⟩
  · rw[h.top]
    congr 1
    apply List.map_congr_left
    intro n hn
    rw[if_pos (by simpa using hn)]
  · rw[h.row n hn]
    simp[Nz,List.getD_eq_getElem?_getD,hn]
theorem EL.next {H:View} {I N M k:Nat} {R:Nat→Nat} {r:Nat} (h:EL H I N M k R) (hk:k < N) (hr:H r=.dead) :
    EL ((H.set r (.arr 1 (List.replicate M [gb false]))).set I (.arr 1 ((List.range N).map fun n=>[if n < k+1 then .sl (if n=k then r else R n) 0 M 1 else .emp 1]))) I N M (k+1) (fun n=>if n=k then r else R n):=by
  have hI:r≠I:=by rintro rfl; rw[h.top] at hr; simp at hr
  have hRI:∀ n,n < k→R n≠I:=fun n hn e=>by
    have h1:=h.row n hn
    rw[e,h.top] at h1
    simp only[bL.arr.injEq,true_and] at h1
    have h2:=congrArg (·[0]?) h1
    simp only[List.getElem?_map,List.getElem?_range (show 0 < N by omega),List.getElem?_replicate] at h2
    split at h2 <;> simp at h2
    split at h2 <;> simp at h2
  have hRr:∀ n,n < k→R n≠r:=fun n hn e=>by have:=h.row n hn; rw[e,hr] at this; simp at this
  refine ⟨by simp[View.set],fun n hn=>?_,fun n n' hn hn' e=>?_⟩
  · by_cases e:n=k
    · simp only[if_pos e,View.set,if_neg hI,if_true]
    · simp only[if_neg e,View.set,if_neg (hRI n (by omega)),if_neg (hRr n (by omega))]
      exact h.row n (by omega)
  · by_cases e1:n=k
    · by_cases e2:n'=k
      · omega
      · simp only[if_pos e1,if_neg e2] at e
        exact absurd e.symm (hRr n' (by omega))
    · by_cases e2:n'=k
      · simp only[if_neg e1,if_pos e2] at e
        exact absurd e (hRr n (by omega))
      · simp only[if_neg e1,if_neg e2] at e
        exact h.inj n n' (by omega) (by omega) e
def ME:List Int:=[37,37,32,115,32,58,32,39,97,39,32,115,32,124,32,59]
def nr:an:=⟨[⟨⟨#[39,97,39]⟩,0,0⟩],[⟨#[115]⟩],[⟨0,[0,(-1)],0⟩,⟨0,[],(-1)⟩],0⟩
def MG:an:=⟨[⟨⟨#[39,97,39]⟩,0,0⟩,⟨⟨#[39,98,39]⟩,0,0⟩],[⟨#[115]⟩,⟨#[110]⟩],[⟨0,[(-1),(-1)],(-1)⟩,⟨0,[(-2),0,(-2),1],1⟩,⟨0,[],(-1)⟩,⟨1,[(-2)],(-1)⟩,⟨1,[],(-1)⟩],0⟩
theorem OC:dF Tryz.prog 49 [E5 ME] (xc nr):=MU (by kernel_rfl)
section
variable {g:an} {p:List Int} {T:Tb} {N:Nat}
end
theorem n6 (p:List Int) (i:Nat):Sp MG p [-2] i i:=.dP (-2) [] ⟨1,[],-1⟩ i i i (by decide) (by simp[MG]) (by decide) (.nil i) (.nil i)
theorem Nu {g:an} (hr:bH g=true) {p l:List Int} {i j:Nat} (h:Sp g p l i j):dy l (aH g true) true=true:=by
  induction h with
  | nil=>rfl
  | term s l i j h0 _ _ ih =>
    simp only[dy,List.all_cons,Bool.and_eq_true] at ih ⊢
    rw[if_pos h0]
    exact ⟨rfl,ih⟩
  | dP s l R i k j h0 hR hl _ _ ih1 ih2 =>
    have g1:=qn hr hR ih1
    rw[hl] at g1
    simp only[dy,List.all_cons,Bool.and_eq_true] at ih2 ⊢
    rw[if_neg (by omega)]
    exact ⟨g1,ih2⟩
section
variable {g r:an} {p q:List Bool} {o:List Int}
theorem dX.sp (h:dX g p q o r) {w l:List Int} {i j:Nat} (hs:Sp g w l i j):(∀ s∈l,s < 0→-1 - s∈o)→Sp r w (l.map fun s=>if s < 0 then -1 - bf o (-1 - s) else s) i j:=by
  induction hs with
  | nil=>exact fun _=>.nil _
  | term s l i j h0 hf _ ih =>
    intro hl
    rw[List.map_cons,if_neg (by omega)]
    exact .term s _ i j h0 hf (ih fun s hs=>hl s (by simp[hs]))
  | dP s l R i k j h0 hR hle h1 _ ih1 ih2 =>
    intro hl
    have hso:=hl s (by simp) h0
    obtain ⟨R1,hR1,hk1,e1⟩:=h.from_ _ hso
    have hk:bz p q R=true:=by
      rw[bz,Bool.and_eq_true] at hk1 ⊢
      refine ⟨by rw[hle,← e1]; exact hk1.1,?_⟩
      rw[h.pe]
      exact Nu h.right h1
    have hin:=(h.kept R hR hk).2
    have hm:bb (bf o) R∈r.rules:=by rw[h.rules]; exact List.mem_map.2 ⟨R,List.mem_filter.2 ⟨hR,hk⟩,rfl⟩
    have hb:=jR hso
    rw[List.map_cons,if_pos h0]
    exact .dP _ _ (bb (bf o) R) i k j (by omega) hm (by simp only[bb]; rw[hle]; omega) (ih1 hin) (ih2 fun s hs=>hl s (by simp[hs]))
end
theorem I8 {g:an} {p:List Int} {k:Nat} (hk:k≤p.length) {l:List Int} {i j:Nat} (h:Sp g p l i j):i≤k→k≤j →
    (∃ l1 l2,l=l1 ++ l2∧Sp g (p.take k) l1 i k)∨(∃ l1 s l2 a,l=l1 ++ s :: l2∧s < 0∧Sp g (p.take k) l1 i a∧a < k∧Dl g (p.take k) (-1 - s) a):=by
  induction h with
  | nil i =>
    intro h1 h2
    have:i=k:=by omega
    subst this
    exact .inl ⟨[],[],rfl,.nil _⟩
  | term s l i j h0 hf hs ih =>
    intro h1 h2
    by_cases e:i=k
    · subst e; exact .inl ⟨[],s :: l,rfl,.nil _⟩
    · have hf':od (p.take k) i s:=by
        obtain ⟨c,hc,h3⟩:=hf
        exact ⟨c,by rw[List.getElem?_take,if_pos (by omega)]; exact hc,h3⟩
      rcases ih (by omega) h2 with ⟨l1,l2,e2,h3⟩ | ⟨l1,s',l2,a,e2,h3,h4,h5,h6⟩
      · exact .inl ⟨s :: l1,l2,by rw[e2]; rfl,.term s l1 i k h0 hf' h3⟩
      · exact .inr ⟨s :: l1,s',l2,a,by rw[e2]; rfl,h3,.term s l1 i a h0 hf' h4,h5,h6⟩
  | dP s l R i m j h0 hR hl hs1 hs2 ih1 ih2 =>
    intro h1 h2
    by_cases e:i=k
    · subst e; exact .inl ⟨[],s :: l,rfl,.nil _⟩
    · by_cases hm:m≤k
      · have c1:=hs1.cut (k:=k) hm
        rcases ih2 hm h2 with ⟨l1,l2,e2,h3⟩ | ⟨l1,s',l2,a,e2,h3,h4,h5,h6⟩
        · exact .inl ⟨s :: l1,l2,by rw[e2]; rfl,.dP s l1 R i m k h0 hR hl c1 h3⟩
        · exact .inr ⟨s :: l1,s',l2,a,by rw[e2]; rfl,h3,.dP s l1 R i m a h0 hR hl c1 h4,h5,h6⟩
      · have hlen:(p.take k).length=k:=by simp; omega
        refine .inr ⟨[],s,l,i,rfl,h0,.nil _,by omega,?_⟩
        rw[← hl]
        rcases ih1 h1 (by omega) with ⟨l1,l2,e2,h3⟩ | ⟨l1,s',l2,a,e2,h3,h4,h5,h6⟩
        · exact .full R l1 l2 i hR e2 (by rw[hlen]; exact h3)
        · exact .deep R l1 l2 s' i a hR e2 h3 h4 (by rw[hlen]; exact h5) h6
theorem Dl.cut {g:an} {p:List Int} {k:Nat} (hk:k≤p.length) {n:Int} {f:Nat} (h:Dl g p n f):f≤k→Dl g (p.take k) n f:=by
  have hlen:(p.take k).length=k:=by simp; omega
  induction h with
  | full R l1 l2 f hR e hs =>
    intro hf
    rcases I8 hk hs hf hk with ⟨a1,a2,e2,h3⟩ | ⟨a1,s',a2,a,e2,h3,h4,h5,h6⟩
    · exact .full R a1 (a2 ++ l2) f hR (by rw[e,e2]; simp) (by rw[hlen]; exact h3)
    · exact .deep R a1 (a2 ++ l2) s' f a hR (by rw[e,e2]; simp) h3 h4 (by rw[hlen]; exact h5) h6
  | deep R l1 l2 s f a hR e h0 h1 h2 _ ih =>
    intro hf
    by_cases ha:a < k
    · exact .deep R l1 l2 s f a hR e h0 (h1.cut (by omega)) (by rw[hlen]; exact ha) (ih (by omega))
    · rcases I8 hk h1 hf (by omega) with ⟨a1,a2,e2,h3⟩ | ⟨a1,s',a2,b,e2,h3,h4,h5,h6⟩
      · exact .full R a1 (a2 ++ s :: l2) f hR (by rw[e,e2]; simp) (by rw[hlen]; exact h3)
      · exact .deep R a1 (a2 ++ s :: l2) s' f b hR (by rw[e,e2]; simp) h3 h4 (by rw[hlen]; exact h5) h6
theorem Sp.wide {g:an} {p p':List Int} (hp:∀ i s,od p i s→od p' i s) {l:List Int} {i j:Nat} (h:Sp g p l i j):Sp g p' l i j:=by
  induction h with
  | nil i=>exact .nil i
  | term s l i j h0 hf _ ih=>exact .term s l i j h0 (hp _ _ hf) ih
  | dP s l R i k j h0 hR hl _ _ ih1 ih2=>exact .dP s l R i k j h0 hR hl ih1 ih2
section
variable {fit:List Int→Bool} {T b:Nat}
end
def Ou (l:List (List Int)):V:=.aV (l.map fun w=>[encI w])
abbrev Mw:=List (V × List Int)
def m6 (b:Mw):List (List V):=b.map fun x=>[x.1]
def j8 (H:View) (u:V) (out:List (List Int)):Prop:=∃ b:Mw,b.map (·.2)=out∧aW H u 1 (m6 b)∧∀ x∈b,aW H x.1 1 (bN x.2)
theorem j8.nil {H:View} {k:Nat} : j8 H (.emp k) []:=⟨[],rfl,.nil,by simp⟩
theorem j8.len {H:View} {u:V} {out:List (List Int)} (h:j8 H u out):cT u=some out.length:=by
  obtain ⟨b,rfl,ho,_⟩:=h
  rw[ho.len]; simp[m6]
theorem j8.cells {H:View} {u:V} {out:List (List Int)} (h:j8 H u out):V.cells u=[u]∧aP u=true:=by
  obtain ⟨b,_,ho,_⟩:=h
  exact ⟨ho.cells,ho.lT⟩
theorem MN {H:View} {u:V} {b:Mw} (ho:aW H u 1 (m6 b)) (hb:∀ x∈b,aW H x.1 1 (bN x.2)) {x:V × List Int} (hx:x∈b) {id:Nat} (hid:owner x.1=some id):owner u≠some id:=by
  intro e
  have h1:=(ho.live e).1
  have h2:=((hb x hx).live hid).1
  rw[h2] at h1
  simp only[bL.arr.injEq,true_and] at h1
  cases b with
  | nil=>simp at hx
  | cons y r =>
    have h3:=hb y (by simp)
    cases hw:x.2 with
    | nil=>rw[hw] at h1; simp[m6] at h1
    | cons c w =>
      rw[hw] at h1
      simp only[m6,List.map_cons,List.cons.injEq] at h1
      rcases h3 with ⟨_,k,e2⟩ | ⟨n,e2,_⟩
      · rw[e2] at h1; simp at h1
      · rw[e2] at h1; simp at h1
theorem j8.keep {H H':View} {u:V} {out:List (List Int)} (h:j8 H u out) (hk:∀ id,H id≠.dead→H' id=H id):j8 H' u out:=by
  obtain ⟨b,e,ho,hb⟩:=h
  exact ⟨b,e,ho.keep fun id hid=>hk id (by rw[(ho.live hid).1]; simp),fun x hx=>(hb x hx).keep fun id hid=>hk id (by rw[((hb x hx).live hid).1]; simp)⟩
theorem j8.add {H H':View} {u u' v:V} {b:Mw} {w:List Int} (ho:aW H u 1 (m6 b)) (hb:∀ x∈b,aW H x.1 1 (bN x.2)) (hv:aW H v 1 (bN w)) (hd:∀ id,owner v=some id→owner u≠some id)
    (h1:aW H' u' 1 (m6 b ++ [[v]])) (h2:Left H H' u u'):j8 H' u' (b.map (·.2) ++ [w]):=by
  refine ⟨b ++ [(v,w)],by simp,by simpa [m6] using h1,fun x hx=>?_⟩
  rcases List.mem_append.1 hx with hx | hx
  · exact (hb x hx).left h2 fun id hid=>MN ho hb hx hid
  · simp at hx; subst hx
    exact hv.left h2 hd
theorem j8.OR {h:aB} {u:V} {out:List (List Int)} (ho:j8 h.view u out):dA h u (Ou out):=by
  obtain ⟨b,rfl,ho,hb⟩:=ho
  have hg:∀ i (hi:i < b.length),(m6 b).getD i []=[(b[i]).1]∧(((b.map (·.2)).map fun w=>[encI w]).getD i [])=[encI (b[i]).2]:=fun i hi=>by
    simp[m6,List.getD_eq_getElem?_getD,hi]
  refine dA.own ho (by simp[m6]) (fun i hi=>?_) (fun i j hi hj=>?_)
  · have hi':i < b.length:=by simpa [m6] using hi
    rw[(hg i hi').1,(hg i hi').2]; rfl
  · have hi':i < b.length:=by simpa [m6] using hi
    rw[(hg i hi').2] at hj ⊢
    rw[(hg i hi').1]
    have:j=0:=by simp at hj; omega
    subst this
    simp only[List.getD_cons_zero]
    exact dA.Md (hb _ (List.getElem_mem hi'))
def Hy (H:View) (v:V) (p:List Int):Prop:=v=encI p∨(p≠[]∧∃ n,v=.sl n 0 p.length 1∧H n=.arr 1 (bN p))
theorem Hy.HH {H:View} {v:V} {p:List Int} (h:Hy H v p):en H v (encI p):=by
  rcases h with rfl | ⟨_,n,rfl,hn⟩
  · exact .tree (gz p)
  · exact zr hn rfl
theorem Hy.len {H:View} {v:V} {p:List Int} (h:Hy H v p):cT v=some p.length:=by
  rcases h with rfl | ⟨_,n,rfl,hn⟩
  · simp[encI,cT]
  · rfl
def q4 (H H':View) (f:Nat) (u u':V):Prop:=∀ id,H id≠.dead→id≠f→owner u≠some id→H' id=H id∧owner u'≠some id
theorem q4.refl {H:View} {f:Nat} {u:V} : q4 H H f u u:=fun _ _ _ h=>⟨rfl,h⟩
theorem q4.trans {H H1 H2:View} {f:Nat} {u u1 u2:V} (h1:q4 H H1 f u u1) (h2:q4 H1 H2 f u1 u2):q4 H H2 f u u2:=fun id hd hf hu=>by
  obtain ⟨a,b⟩:=h1 id hd hf hu
  obtain ⟨c,d⟩:=h2 id (by rw[a]; exact hd) hf b
  exact ⟨c.trans a,d⟩
theorem q4.kept {H H':View} {f:Nat} {u:V} (h:∀ id,H id≠.dead→H' id=H id):q4 H H' f u u:=fun id hd _ hu=>⟨h id hd,hu⟩
theorem Gk {H:View} {u:V} {sz f z:Nat} {es:List (List V)} {e:List (List V)} (ho:aW H u sz es) (hf:H f=.arr z e) (hz:sz≠z):owner u≠some f:=fun e2=>by
  have:=(ho.live e2).1
  rw[hf] at this
  simp only[bL.arr.injEq] at this
  exact hz this.1.symm
theorem j8.box {H:View} {u:V} {out:List (List Int)} {f:Nat} {e:List (List V)} {o:bL} (h:j8 H u out) (hf:H f=.arr 6 e):j8 (H.set f o) u out:=by
  obtain ⟨b,e1,ho,hb⟩:=h
  exact ⟨b,e1,ho.other (Gk ho hf (by decide)),fun x hx=>(hb x hx).other (Gk (hb x hx) hf (by decide))⟩
section
variable {P:Program} {T:Env} {H:View} {K:V→View→Prop} {w:cw (T,H,K)} {t t1 e ty:TypeId}
end
def yF (H:View) (u:V) (l:List Int):Prop:=u=encI l∨aW H u 1 (bN l)
theorem yF.elems {H:View} {u:V} {l:List Int} (h:yF H u l):∃ rd,bJ H u=some (bN l,rd):=by
  rcases h with rfl | h
  · exact ⟨[],rD _ _⟩
  generalize bN l=es0 at h
  rcases h with ⟨rfl,k,rfl⟩ | ⟨n,rfl,hn⟩
  · exact ⟨_,rH _ k⟩
  · cases es0 with
    | nil=>exact ⟨[],by simp[bJ]⟩
    | cons e es =>
      exact ⟨_,by rw[show (e :: es).length=es.length+1 from rfl,pk _ n 0 es.length 1 1 _ hn (by simp),List.drop_zero,List.take_of_length_le (by simp)]⟩
theorem yF.len {H:View} {u:V} {l:List Int} (h:yF H u l):cT u=some l.length:=by
  rcases h with rfl | h
  · simp[encI,cT]
  · rw[h.len]; simp
theorem yF.keep {H H':View} {u:V} {l:List Int} (h:yF H u l) (hk:∀ id,H id≠.dead→H' id=H id):yF H' u l:=by
  rcases h with rfl | h
  · exact .inl rfl
  · exact .inr (h.keep fun id hid=>hk id (by rw[(h.live hid).1]; simp))
def Mj (H:View) (u:V) (l:List Int):Prop:=aW H u 1 (bN l)∨(l=[]∧∃ m es,u=.sl m 0 0 1∧H m=.arr 1 es)
theorem Mj.live {H:View} {u:V} {l:List Int} (h:Mj H u l) {id:Nat} (hid:owner u=some id):∃ es,H id=.arr 1 es:=by
  rcases h with h | ⟨_,m,es,rfl,hm⟩
  · exact ⟨_,(h.live hid).1⟩
  · simp[owner] at hid; subst hid; exact ⟨es,hm⟩
def EN (H:View) (u:V) (l:List Int):Prop:=u=encI l∨∃ (m:Nat) (x:Int),l=[x]∧x < 0∧u=.sl m 0 1 1∧H m=.arr 1 [[gi x]]
theorem EN.HH {H:View} {u:V} {l:List Int} (h:EN H u l):en H u (encI l):=by
  rcases h with rfl | ⟨m,x,rfl,_,rfl,hm⟩
  · exact en.tree (gz l)
  · exact zr (l:=[x]) hm rfl
theorem EN.keep {H H':View} {u:V} {l:List Int} (h:EN H u l) (hk:∀ id,H id≠.dead→H' id=H id):EN H' u l:=by
  rcases h with rfl | ⟨m,x,rfl,hx,rfl,hm⟩
  · exact .inl rfl
  · exact .inr ⟨m,x,rfl,hx,rfl,by rw[hk m (by rw[hm]; simp)]; exact hm⟩
theorem Ku {F:List Way} {w:Way} {n:Int} : lookW (F ++ [w]) n=match lookW F n with
    | some x=>some x
    | none=>if w.dP=n then some w else none:=by
  unfold lookW
  rw[List.find?_append]
  cases h:F.find? fun x=>x.dP == n with
  | some x=>rfl
  | none =>
    simp only[Option.none_or,List.find?_cons,List.find?_nil]
    by_cases e:w.dP=n
    · simp[e]
    · have:(w.dP == n)=false:=by simpa using e
      rw[this]; simp[e]
theorem BK {F:List Way} {n:Int} (h:n ∉ kC F):lookW F n=none:=by
  rw[lookW,List.find?_eq_none]
  intro x hx e
  exact h (List.mem_map.2 ⟨x,hx,by simpa using e⟩)
theorem qX.le {g:an} (hf:g.dM) {F:List Way} (h:qX g F):F.length≤g.au.length :=
  h.len ⟨hf.jo,hf.start⟩ fun R hR s hs hn=>by
    have:=hf.sym R hR s hs
    unfold gX at this
    rw[if_neg (by omega)] at this
    simpa using this
def fI (H:View) (u:V) (l:List Int):Prop:=∃ (id off:Nat) (es:List (List V)),u=.sl id off l.length 1∧H id=.arr 1 es∧off+l.length≤es.length∧(es.drop off).take l.length=bN l
theorem fI.len {H:View} {u:V} {l:List Int} (h:fI H u l):cT u=some l.length:=by
  obtain ⟨id,off,es,rfl,_⟩:=h; rfl
theorem fI.keep {H H':View} {u:V} {l:List Int} (h:fI H u l) (hk:∀ id es,H id=.arr 1 es→H' id=H id):fI H' u l:=by
  obtain ⟨id,off,es,h1,h2,h3,h4⟩:=h
  exact ⟨id,off,es,h1,by rw[hk id es h2]; exact h2,h3,h4⟩
theorem fI.fresh {H:View} {u:V} {l:List Int} (h:fI H u l) {n:Nat} {o:bL} (hn:H n=.dead):fI (H.set n o) u l :=
  h.keep fun id es hid=>by
    have:id≠n:=by rintro rfl; rw[hn] at hid; simp at hid
    simp[View.set,this]
theorem fI.wa {H:View} {u:V} {l:List Int} (h:fI H u l) {q c:Nat} {es:List (V × V × Nat)} {o:bL} (hq:H q=.map es c):fI (H.set q o) u l :=
  h.keep fun id es' hid=>by
    have:id≠q:=by rintro rfl; rw[hq] at hid; simp at hid
    simp[View.set,this]
theorem fI.own {H:View} {u:V} {l:List Int} (h:aW H u 1 (bN l)) (hl:l≠[]):fI H u l:=by
  rcases h with ⟨e,_⟩ | ⟨n,rfl,hn⟩
  · rw[List.map_eq_nil_iff] at e; exact absurd e hl
  · exact ⟨n,0,_,by simp,hn,by simp,by rw[List.drop_zero,List.take_of_length_le (by simp)]⟩
theorem fI.at {H:View} {u:V} {x:Int} {l:List Int} (h:fI H u (x :: l)):∃ (id off:Nat) (es:List (List V)),u=.sl id off (l.length+1) 1∧H id=.arr 1 es∧off < es.length∧es.getD off []=[gi x]∧off+(l.length+1)≤es.length:=by
  obtain ⟨id,off,es,h1,h2,h3,h4⟩:=h
  simp only[List.length_cons] at h1 h3 h4
  refine ⟨id,off,es,h1,h2,by omega,?_,h3⟩
  have h5:=congrArg (fun z=>z[0]?) h4
  simp at h5
  have:es[off]?=some (es[off]'(by omega)):=List.getElem?_eq_getElem (by omega)
  rw[this] at h5
  simp at h5
  rw[List.getD_eq_getElem?_getD,this,h5]; rfl
theorem fI.next {H:View} {id off k:Nat} {x:Int} {l:List Int} (h:fI H (.sl id off k 1) (x :: l)):fI H (.sl id (off+1) (k - 1) 1) l:=by
  obtain ⟨id',off',es,h1,h2,h3,h4⟩:=h
  simp only[V.sl.injEq,and_true] at h1
  obtain ⟨rfl,rfl,rfl⟩:=h1
  simp only[List.length_cons] at h3 h4 ⊢
  refine ⟨id,off+1,es,by simp,h2,by omega,?_⟩
  have h5:=congrArg (List.drop 1) h4
  rw[List.drop_take,List.drop_drop] at h5
  simpa using h5
def HZ (H:View) (w:Option Way) (v:Option V):Prop:=match w with
  | none=>v=none
  | some w=>(w.aG = -1∧v=some (.val (.pointer none)))∨(0≤w.aG∧∃ p,v=some (.ptr p 0 0)∧H p=.arr 2 [[gi w.aG,gi w.place]])
def gA (H:View) (F:List Way) (m:bZ Int):Prop:=∀ n,HZ H (lookW F n) (getM m n)
theorem HZ.keep {H H':View} {w:Option Way} {v:Option V} (h:HZ H w v) (hk:∀ id es,H id=.arr 2 es→H' id=H id):HZ H' w v:=by
  cases w with
  | none=>exact h
  | some w =>
    rcases h with h | ⟨h1,p,h2,h3⟩
    · exact .inl h
    · exact .inr ⟨h1,p,h2,by rw[hk p _ h3]; exact h3⟩
theorem gA.keep {H H':View} {F:List Way} {m:bZ Int} (h:gA H F m) (hk:∀ id es,H id=.arr 2 es→H' id=H id):gA H' F m:=fun n=>(h n).keep hk
theorem gA.fresh {H:View} {F:List Way} {m:bZ Int} (h:gA H F m) {n:Nat} {o:bL} (hn:H n=.dead):gA (H.set n o) F m :=
  h.keep fun id es hid=>by
    have:id≠n:=by rintro rfl; rw[hn] at hid; simp at hid
    simp[View.set,this]
theorem gA.wa {H:View} {F:List Way} {m:bZ Int} (h:gA H F m) {q c:Nat} {es:List (V × V × Nat)} {o:bL} (hq:H q=.map es c):gA (H.set q o) F m :=
  h.keep fun id es' hid=>by
    have:id≠q:=by rintro rfl; rw[hq] at hid; simp at hid
    simp[View.set,this]
theorem HS {H:View} {u:V} {l:List Int} (h:fI H u l) {id:Nat} (hid:owner u=some id):∃ es,H id=.arr 1 es:=by
  obtain ⟨i,off,es,rfl,h2,_⟩:=h
  simp[owner] at hid; subst hid
  exact ⟨es,h2⟩
theorem gA.left {H H':View} {F:List Way} {m:bZ Int} (h:gA H F m) {u u':V} {l:List Int} (ht:fI H u l) (hl:Left H H' u u'):gA H' F m :=
  h.keep fun id es hid=>(hl id (by rw[hid]; simp) (fun e=>by obtain ⟨es',h2⟩:=HS ht e; rw[hid] at h2; simp at h2)).1
theorem gA.put {H:View} {F:List Way} {m:bZ Int} (h:gA H F m) {p c k j:Nat} {n:Int} (hn:n ∉ kC F) (hp:H p=.arr 2 [[gi k,gi j]]):gA H (F ++ [⟨n,k,j⟩]) (bS n (.ptr p 0 0) c m):=by
  intro n'
  rw[Ku,yw]
  by_cases e:n=n'
  · subst e
    rw[BK hn]
    simp only[if_true,beq_self_eq_true]
    exact .inr ⟨by simp only; omega,p,rfl,hp⟩
  · have e2:(n' == n)=false:=by simpa using Ne.symm e
    rw[e2]
    have h1:=h n'
    cases hl:lookW F n' with
    | some w=>rw[hl] at h1; simpa using h1
    | none =>
      rw[hl] at h1
      simp only
      rw[if_neg e]
      simpa using h1
theorem gA.has {H:View} {F:List Way} {m:bZ Int} (h:gA H F m) (n:Int):(getM m n).isSome=decide (n∈kC F):=by
  have h1:=h n
  by_cases e:n∈kC F
  · obtain ⟨x,hx,_⟩:=Ni e
    rw[hx] at h1
    rcases h1 with ⟨_,h1⟩ | ⟨_,p,h1,_⟩ <;> rw[h1] <;> simp[e]
  · rw[BK e] at h1
    have h2:getM m n=none:=h1
    rw[h2]; simp[e]
theorem fI.all {H:View} {u:V} {l:List Int} (h:fI H u l):∃ (id off:Nat) (es:List (List V)),u=.sl id off l.length 1∧H id=.arr 1 es∧off+l.length≤es.length∧∀ j,j < l.length→es.getD (off+j) []=[gi (l.getD j 0)]:=by
  obtain ⟨id,off,es,h1,h2,h3,h4⟩:=h
  refine ⟨id,off,es,h1,h2,h3,fun j hj=>?_⟩
  have h5:=congrArg (fun z=>z[j]?) h4
  simp only[List.getElem?_take,hj,if_true,List.getElem?_drop,List.getElem?_map,List.getElem?_eq_getElem hj,Option.map_some] at h5
  rw[List.getD_eq_getElem?_getD,h5,List.getD_eq_getElem?_getD,List.getElem?_eq_getElem hj]; rfl
theorem fI.take {H:View} {id off k:Nat} {l:List Int} (h:fI H (.sl id off k 1) l) {m:Nat} (hm:m≤l.length):fI H (.sl id off m 1) (l.take m):=by
  obtain ⟨id',off',es,h1,h2,h3,h4⟩:=h
  simp only[V.sl.injEq,and_true] at h1
  obtain ⟨rfl,rfl,rfl⟩:=h1
  refine ⟨id,off,es,by simp; omega,h2,by simp; omega,?_⟩
  have h5:=congrArg (List.take m) h4
  rw[List.take_take,show min m l.length=m by omega] at h5
  rw[show (l.take m).length=m by simp; omega,h5]
  exact List.map_take.symm
theorem aE.same {P:Program} {q:Bool} {f:FuncId} {vs:List V} {H:View} {K:V→View→Prop} {w:cw (H,K)} {v:V} (hc:aA P f vs H fun r H'=>H'=H∧r=v) (hk:K v H):aE P q f vs H K w:=by
  unfold aE
  cases q with
  | true =>
    simp only[if_true]
    exact (hc.mono fun r H' h=>⟨fun id _=>by rw[h.1],by rw[h.1,h.2]; exact hk⟩).Dk
  | false =>
    simp only[Bool.false_eq_true,if_false]
    exact hc.mono fun r H' h=>by rw[h.1,h.2]; exact hk
def Ii:Value→Value→Bool
  | .int k a,.int k' b=>decide (k=k') && decide (a=b)
  | .bool a,.bool b=>a == b
  | .string a,.string b=>gH a b
  | .pointer none,.pointer none=>true
  | _,_=>false
theorem L4:∀ (a b:Value),Ii a b=true→a=b:=by
  intro a b h
  unfold Ii at h
  split at h
  · simp only[Bool.and_eq_true,decide_eq_true_eq] at h
    rw[h.1,h.2]
  · rename_i a b
    rw[show a=b by simpa using h]
  · rename_i a b
    obtain ⟨a⟩:=a
    obtain ⟨b⟩:=b
    simp only[gH,beq_iff_eq] at h
    rw[show a=b from Array.toList_inj.1 h]
  · rfl
  · simp at h
def xz (q:V→V→Bool):List V→List V→Bool
  | [],[]=>true
  | a :: l,b :: m=>q a b && xz q l m
  | _,_=>false
def FK (q:V→V→Bool):List (List V)→List (List V)→Bool
  | [],[]=>true
  | a :: l,b :: m=>xz q a b && FK q l m
  | _,_=>false
def BZ:Nat→V→V→Bool
  | 0,_,_=>false
  | k+1,a,b=>match a,b with
    | .val x,.val y=>Ii x y
    | .aV x,.aV y=>FK (BZ k) x y
    | .agg x,.agg y=>xz (BZ k) x y
    | .bk x,.bk y=>xz (BZ k) x y
    | _,_=>false
theorem sX {q:V→V→Bool} (hq:∀ a b,q a b=true→a=b):∀ (l m:List V),xz q l m=true→l=m
  | [],[],_=>rfl
  | a :: l,b :: m,h=>by
    simp only[xz,Bool.and_eq_true] at h
    rw[hq a b h.1,sX hq l m h.2]
  | [],_ :: _,h=>by simp[xz] at h
  | _ :: _,[],h=>by simp[xz] at h
theorem I3 {q:V→V→Bool} (hq:∀ a b,q a b=true→a=b):∀ (l m:List (List V)),FK q l m=true→l=m
  | [],[],_=>rfl
  | a :: l,b :: m,h=>by
    simp only[FK,Bool.and_eq_true] at h
    rw[sX hq a b h.1,I3 hq l m h.2]
  | [],_ :: _,h=>by simp[FK] at h
  | _ :: _,[],h=>by simp[FK] at h
theorem Ey:∀ (k:Nat) (a b:V),BZ k a b=true→a=b
  | 0,_,_,h=>by simp[BZ] at h
  | k+1,a,b,h=>by
    have ih:=Ey k
    unfold BZ at h
    split at h
    · rw[L4 _ _ h]
    · rw[I3 ih _ _ h]
    · rw[sX ih _ _ h]
    · rw[sX ih _ _ h]
    · simp at h
def qF:Nat→V→Bool
  | 0,_=>false
  | k+1,v=>match v with
    | .val _=>true
    | .emp _=>true
    | .dc=>true
    | .aV es=>es.all fun e=>e.all (qF k)
    | .agg cs=>cs.all (qF k)
    | .bk cs=>cs.all (qF k)
    | _=>false
theorem tt {q:V→Bool} {l:List V} (h:l.all q=true) {i:Nat} (hi:i < l.length):q (l.getD i .any)=true:=by
  have e:l.getD i .any=l[i]:=by simp[List.getD_eq_getElem?_getD,hi]
  rw[e]
  exact List.all_eq_true.1 h _ (List.getElem_mem _)
theorem x5:∀ (k:Nat) (v:V),qF k v=true→Tree v
  | 0,_,h=>by simp[qF] at h
  | k+1,v,h=>by
    have ih:=x5 k
    unfold qF at h
    split at h
    · exact .val _
    · exact .emp _
    · exact .dc
    · rename_i es
      refine .aV _ fun i j hi hj=>ih _ ?_
      have e:es.getD i []=es[i]:=by simp[List.getD_eq_getElem?_getD,hi]
      have h1:=List.all_eq_true.1 h _ (List.getElem_mem hi)
      rw[e] at hj ⊢
      exact tt h1 hj
    · exact .agg _ fun i hi=>ih _ (tt h hi)
    · exact .bk _ fun i hi=>ih _ (tt h hi)
    · simp at h
noncomputable def tW (H:View):Nat→V→Option V
  | 0,_=>none
  | k+1,v=>match v with
    | .val x=>some (.val x)
    | .emp _=>some (.aV [])
    | .aV es=>match qF 60 (.aV es) with
      | true=>some (.aV es)
      | false=>none
    | .sl id off len _=>match H id with
      | .arr _ es=>match Nat.ble (off+len) es.length with
        | true=>(AS (tW H k) ((es.drop off).take len)).map .aV
        | false=>none
      | _=>none
    | .agg cs=>(l8 (tW H k) cs).map .agg
    | .bk cs=>(l8 (tW H k) cs).map .bk
    | _=>none
theorem AQ (h:aB):∀ (k:Nat) (v t:V),tW h.view k v=some t→Fr h v t
  | 0,v,t,hf=>by simp[tW] at hf
  | k+1,v,t,hf=>by
    have ih:=AQ h k
    simp only[tW] at hf
    split at hf
    · simp only[Option.some.injEq] at hf; subst hf; exact .tree _ (.val _)
    · simp only[Option.some.injEq] at hf; subst hf; exact .emp _
    · split at hf
      · rename_i ht
        simp only[Option.some.injEq] at hf; subst hf; exact .tree _ (x5 _ _ ht)
      · simp at hf
    · rename_i id off len esz
      split at hf
      · rename_i z es hH
        split at hf
        · rename_i hle
          have hle:=Nat.le_of_ble_eq_true hle
          simp only[Option.map_eq_some_iff] at hf
          obtain ⟨es',he,rfl⟩:=hf
          obtain ⟨g1,g2⟩:=Bh _ _ he
          have hlen:es'.length=len:=by rw[g1]; simp; omega
          have hg:∀ i,i < len→((es.drop off).take len).getD i []=es.getD (off+i) []:=fun i hi=>by
            simp[List.getD_eq_getElem?_getD,List.getElem?_take,hi]
          have g3:∀ i,i < len→l8 (tW h.view k) (es.getD (off+i) [])=some (es'.getD i []):=fun i hi=>by
            rw[← hg i hi]; exact g2 i (by rw[← g1,hlen]; exact hi)
          exact .sl id off len esz z es es' hH hle hlen (fun i hi=>(fZ _ _ (g3 i hi)).1) (fun i j hi hj=>ih _ _ ((fZ _ _ (g3 i hi)).2 j (by rw[← (fZ _ _ (g3 i hi)).1]; exact hj)))
        · simp at hf
      · simp at hf
    · simp only[Option.map_eq_some_iff] at hf
      obtain ⟨l,hl,rfl⟩:=hf
      obtain ⟨g1,g2⟩:=fZ _ _ hl
      exact .agg _ _ g1 (fun i hi=>ih _ _ (g2 i hi))
    · simp only[Option.map_eq_some_iff] at hf
      obtain ⟨l,hl,rfl⟩:=hf
      obtain ⟨g1,g2⟩:=fZ _ _ hl
      exact .bk _ _ g1 (fun i hi=>ih _ _ (g2 i hi))
    · simp at hf
theorem aC.seen {P:Program} {f:FuncId} {vs ts:List V} {t:V} (hc:aC P f ts t) (ht:∀ i,i < vs.length→Tree (vs.getD i .any)) (hl:ts.length=vs.length) (hfr:∀ i,i < vs.length→Fr [] (vs.getD i .any) (ts.getD i .any)):aC P f vs t:=by
  intro Z μ w xs hrel hz
  have hr0:fS Z (fun _=>none) w.heap (cat [] fun _=>.dead):=by
    rw[AB]
    exact ⟨fun _=>trivial,fun i j b o s o' s' _ h=>by simp at h,fun id b o s h=>by simp at h,hz,fun id b o s h=>by simp at h⟩
  have hno:∀ b,¬ gP (fun _=>none) b:=fun b ⟨_,_,_,h⟩=>by simp at h
  have hts:dT (fun b=>Z b∨gP (fun _=>none) b) μ w.heap ts xs:=⟨by rw[hl,hrel.1],fun i hi=>Aa hr0 (hfr i (by omega)) (tv (hrel.2 i (by omega)) (ht i (by omega)))⟩
  refine (hc _ μ w xs hts (fun b hb=>hb.elim (hz b) (fun h=>absurd h (hno b)))).mono ?_
  rintro e w' ⟨x,Z',rfl,hv,hs,h1,h2,ho⟩
  exact ⟨x,Z',rfl,hv,hs,fun b hb=>h1 b (.inl hb),fun b hb=>(h2 b hb).elim (fun h=>h.elim .inl (fun h=>absurd h (hno b))) .inr,ho⟩
abbrev A7:=FuncId × List V × V × Bool
def A7.Ok (P:Program) (x:A7):Prop:=cX P x.1=true∧if x.2.2.2=true then aC P x.1 x.2.1 x.2.2.1 else (dF P x.1 x.2.1 x.2.2.1∨(aC P x.1 x.2.1 x.2.2.1∧xZ x.2.2.1))
noncomputable def Mi (g:FuncId) (vs:List V) (H:View) (x:A7):Bool:=Nat.beq x.1 g && (match x.2.2.2 with
  | true=>vs.all (qF 60) && (match l8 (tW (fun _=>.dead) 60) vs with
    | some ts=>xz (BZ 60) ts x.2.1
    | none=>false)
  | false=>match l8 (tW H 60) vs with
    | some ts=>xz (BZ 60) ts x.2.1
    | none=>false)
noncomputable def Mk (l:List A7):wM:=fun g vs H=>(l.find? (Mi g vs H)).map fun x=>x.2.2.1
theorem K5 {P:Program} {l:List A7} (hl:∀ x∈l,x.Ok P):pY P (Mk l):=by
  intro g vs H t h
  unfold Mk at h
  simp only[Option.map_eq_some_iff] at h
  obtain ⟨⟨f,ts,r,b⟩,hx,rfl⟩:=h
  obtain ⟨h1,h2⟩:=hl _ (List.mem_of_find?_eq_some hx)
  have hq:=List.find?_some hx
  simp only[Mi,Bool.and_eq_true] at hq
  obtain ⟨hg,hq⟩:=hq
  have hg:=Nat.eq_of_beq_eq_true hg
  simp only at hg h1 h2 hq
  subst hg
  refine ⟨h1,?_⟩
  rintro h rfl
  cases b with
  | true =>
    simp only[Bool.and_eq_true] at hq
    obtain ⟨hq1,hq2⟩:=hq
    split at hq2
    · rename_i us hus
      obtain ⟨g1,g2⟩:=fZ _ _ hus
      have:=sX (Ey 60) _ _ hq2
      subst this
      simp only[if_true] at h2
      exact bA.eX (h2.seen (fun i hi=>x5 _ _ (tt hq1 hi)) g1 fun i hi=>AQ [] 60 _ _ (g2 i hi)) h
    · simp at hq2
  | false =>
    simp only at hq
    split at hq
    · rename_i us hus
      obtain ⟨g1,g2⟩:=fZ _ _ hus
      have:=sX (Ey 60) _ _ hq
      subst this
      have hfr:=fun i hi=>AQ h 60 _ _ (g2 i hi)
      simp only[Bool.false_eq_true,if_false] at h2
      rcases h2 with h2 | ⟨h2,h3⟩
      · exact bA.sf h2 g1 hfr
      · exact bA.borrow h2 h3 g1 hfr
    · simp at hq
def qT (x:Int):Bool:=decide (-9223372036854775808≤x) && decide (x≤9223372036854775807)
theorem na {x:Int} (h:qT x=true):cm x:=by
  unfold qT at h
  simp only[Bool.and_eq_true,decide_eq_true_eq] at h
  exact h
def okB (g:an):Bool:=decide (g.ax.length≤900) && decide (g.au.length≤100) && decide (g.rules.length≤900) && qT g.start && g.ax.all (fun t=>qT t.level && qT t.assoc) && g.rules.all fun r=>qT r.left && qT r.prec && decide (r.right.length≤900) && r.right.all qT
theorem Oe {g:an} (h:okB g=true):g.Ok∧g.Small:=by
  unfold okB at h
  simp only[Bool.and_eq_true,decide_eq_true_eq,List.all_eq_true] at h
  obtain ⟨⟨⟨⟨⟨h1,h2⟩,h3⟩,h4⟩,h5⟩,h6⟩:=h
  refine ⟨⟨by unfold aX; omega,by unfold aX; omega,by unfold aX; omega,na h4,fun t ht=>⟨na (h5 t ht).1,na (h5 t ht).2⟩,fun r hr=>?_⟩,⟨by omega⟩⟩
  have:=h6 r hr
  exact ⟨na this.1.1.1,na this.1.1.2,by unfold aX; have:=this.1.2; omega,fun x hx=>na (this.2 x hx)⟩
theorem qO:nr.Ok∧nr.Small:=Oe (by kernel_rfl)
structure Pl where
  PS:Int
  cell:Cell
  deriving DecidableEq
structure fT where
  sym:Int
  to:Int
  deriving DecidableEq
structure NN where
  ax:Int
  au:Int
  rows:List (List Pl)
  of:List Int
  gotos:List (List fT)
  to:List Int
def yY (x:fT):List V:=[gi x.sym,gi x.to]
structure NN.Ok (p:NN):Prop where
  ax:cm p.ax
  au:cm p.au
  rows:aX p.rows
  of:aX p.of∧∀ x∈p.of,cm x
  gotos:aX p.gotos
  to:aX p.to∧∀ x∈p.to,cm x
  row:∀ r∈p.rows,aX r∧∀ c∈r,cm c.PS∧cm c.cell.kind∧cm c.cell.n
  go:∀ r∈p.gotos,aX r∧∀ x∈r,cm x.sym∧cm x.to
theorem bc.as {H:View} {u:V} {sz:Nat} {es es':List (List V)} {L:List er} (h:bc H ((u,sz,es) :: L)) (e:es=es'):bc H ((u,sz,es') :: L):=e ▸ h
structure aR where
  aG:Int
  dot:Int
  deriving DecidableEq
def fN (x:aR):List V:=[gi x.aG,gi x.dot]
def bE (l:List aR):List (List V):=l.map fN
def cG (a b:aR):Bool:=decide (a.aG < b.aG) || (decide (a.aG=b.aG) && decide (a.dot < b.dot))
def lO:List aR→aR→List aR
  | [],x=>[x]
  | y :: l,x=>if cG y x=true then y :: lO l x else if y=x then y :: l else x :: y :: l
theorem vX (x y:aR):fG Tryz.prog 9998 #[.int .i64 x.aG,.int .i64 x.dot] #[.int .i64 y.aG,.int .i64 y.dot]
    [{ name:= "Rule",type:=3,offset:=0,embedded:=false,tag:= "",pkgPath:= "",byteOffset:=0 },{ name:= "Dot",type:=3,offset:=1,embedded:=false,tag:= "",pkgPath:= "",byteOffset:=8 }] ((x.aG == y.aG) && ((x.dot == y.dot) && true)) :=
  .int _ _ _ .i64 _ _ (by decide) Tryz.underlying3 rfl rfl (.int _ _ _ .i64 _ _ (by decide) Tryz.underlying3 rfl rfl .nil)
theorem D9 (x y:aR):((x.aG == y.aG) && ((x.dot == y.dot) && true))=decide (x=y):=by
  cases x; cases y; rw[Bool.eq_iff_iff]; simp
theorem Left.behind {H H':View} {q:Nat} {o:bL} {u r:V} (hq:H q=.dead) (h:Left (H.set q o) H' u r):Left H H' u r:=fun a ha hau=>by
  have e:¬ a=q:=by rintro rfl; exact ha hq
  have:=h a (by simp[View.set,e]; exact ha) hau
  simpa [View.set,e] using this
def ef (g:an) (r:Int):List Int:=if r = -1 then [-1 - g.start] else (dJ g r).right
def ec (g:an) (x:aR):Int × Bool:=if x.dot=(ef g x.aG).length then (0,false) else ((ef g x.aG).getD x.dot.toNat 0,true)
theorem fj {a b:aR} : cG a b=true↔a.aG < b.aG∨a.aG=b.aG∧a.dot < b.dot:=by
  simp[cG]
theorem lZ {a b c:aR} (h:cG a b=true) (k:cG b c=true):cG a c=true:=by
  rw[fj] at h k ⊢; omega
theorem ly {a:aR} : cG a a=false:=by
  cases h:cG a a with
  | false=>rfl
  | true=>rw[fj] at h; omega
theorem Fg {a b:aR} (h:cG a b=true):cG b a=false:=by
  cases k:cG b a with
  | false=>rfl
  | true=>have:=lZ h k; rw[ly] at this; exact absurd this (by simp)
theorem tG {a b:aR} (h:cG a b=false) (hne:¬ a=b):cG b a=true:=by
  rw[fj]
  have h1:¬ cG a b=true:=by simp[h]
  rw[fj] at h1
  obtain ⟨ar,ad⟩:=a
  obtain ⟨br,bd⟩:=b
  simp only[aR.mk.injEq] at hne
  simp only at h1 ⊢
  omega
abbrev cI (l:List aR):Prop:=l.Pairwise fun a b=>cG a b=true
theorem wH:∀ {l:List aR} {x y:aR},y∈lO l x↔y=x∨y∈l
  | [],x,y=>by simp[lO]
  | z :: l,x,y=>by
    rw[lO]
    split
    · simp only[List.mem_cons,wH (l:=l)]
      constructor
      · rintro (h | h | h) <;> simp[h]
      · rintro (h | h | h) <;> simp[h]
    · split
      · rename_i h; subst h; simp
      · simp
theorem y7:∀ {l:List aR} {x:aR},cI l→cI (lO l x)
  | [],x,_=>by simp[lO,cI]
  | z :: l,x,h=>by
    rw[cI,List.pairwise_cons] at h
    rw[lO]
    split
    · rename_i hz
      rw[cI,List.pairwise_cons]
      refine ⟨fun y hy=>?_,y7 h.2⟩
      rcases wH.1 hy with rfl | hy
      · exact hz
      · exact h.1 y hy
    · rename_i hz
      split
      · exact List.pairwise_cons.2 h
      · rename_i hne
        have hxz:=tG (by simpa using hz) hne
        rw[cI,List.pairwise_cons]
        refine ⟨fun y hy=>?_,List.pairwise_cons.2 h⟩
        rcases List.mem_cons.1 hy with rfl | hy
        · exact hxz
        · exact lZ hxz (h.1 y hy)
theorem vI:∀ {a b:List aR},cI a→cI b→(∀ x,x∈a↔x∈b)→a=b
  | [],[],_,_,_=>rfl
  | [],y :: b,_,_,h=>by have:=(h y).2 (by simp); simp at this
  | x :: a,[],_,_,h=>by have:=(h x).1 (by simp); simp at this
  | x :: a,y :: b,ha,hb,h=>by
    rw[cI,List.pairwise_cons] at ha hb
    have hxy:x=y:=by
      have h1:=(h x).1 (by simp)
      have h2:=(h y).2 (by simp)
      rcases List.mem_cons.1 h1 with h1 | h1
      · exact h1
      · rcases List.mem_cons.1 h2 with h2 | h2
        · exact h2.symm
        · have:=lZ (ha.1 y h2) (hb.1 x h1)
          rw[ly] at this; exact absurd this (by simp)
    subst hxy
    congr 1
    refine vI ha.2 hb.2 fun z=>?_
    have hz:=h z
    simp only[List.mem_cons] at hz
    constructor
    · intro hm
      rcases hz.1 (.inr hm) with rfl | h
      · have:=ha.1 z hm; rw[ly] at this; exact absurd this (by simp)
      · exact h
    · intro hm
      rcases hz.2 (.inr hm) with rfl | h
      · have:=hb.1 z hm; rw[ly] at this; exact absurd this (by simp)
      · exact h
theorem DO:∀ (l:List Int) (a n:Int),l.Pairwise (· < ·)→(∀ x∈l,a≤x∧x < a+n)→0≤n→(l.length:Int)≤n
  | [],a,n,_,_,hn=>by simpa using hn
  | x :: l,a,n,hp,hm,hn=>by
    rw[List.pairwise_cons] at hp
    have h1:=hm x (by simp)
    have:=DO l (x+1) (a+n - (x+1)) hp.2 (fun y hy=>by have:=hp.1 y hy; have:=hm y (by simp[hy]); omega) (by omega)
    simp only[List.length_cons]; omega
def dB (g:an) (x:aR):Prop:=(-1≤x.aG∧x.aG < (g.rules.length:Int))∧0≤x.dot∧x.dot≤(ef g x.aG).length
theorem gJ {g:an} (hf:g.dM) {r:Int} (h : -1≤r∧r < (g.rules.length:Int)):(ef g r).length≤6:=by
  unfold ef
  split
  · simp
  · have hR:g.rules[r.toNat]?=some (dJ g r):=by unfold dJ; exact getD_some (by omega)
    exact hf.right _ (List.mem_of_getElem? hR)
theorem ye {g:an} (hf:g.dM) {l:List aR} (hs:cI l) (hl:∀ x∈l,dB g x):l.length≤287:=by
  have hd:∀ x∈l,0≤x.dot∧x.dot≤6:=fun x hx=>by
    have h1:=hl x hx
    have:=gJ hf h1.1
    exact ⟨h1.2.1,by have:=h1.2.2; omega⟩
  have h1:(l.map fun x=>(x.aG+1) * 7+x.dot).Pairwise (· < ·):=by
    rw[List.pairwise_map]
    refine List.Pairwise.imp_of_mem ?_ hs
    intro a b ha hb hab
    rw[fj] at hab
    have:=hd a ha; have:=hd b hb
    omega
  have:=DO _ 0 287 h1 (fun y hy=>by
    obtain ⟨x,hx,rfl⟩:=List.mem_map.1 hy
    have h2:=(hl x hx).1
    have:=hd x hx; have:=hf.rules
    omega) (by omega)
  simp at this
  omega
inductive pQ (g:an) (l:List aR):aR→Prop
  | base {x:aR} : x∈l→pQ g l x
  | step {x:aR} {s:Int} {k:Nat} {R:aM} : pQ g l x→ec g x=(s,true)→s < 0→g.rules[k]?=some R→R.left = -1 - s→pQ g l ⟨k,0⟩
theorem pQ.has {g:an} {l:List aR} (hl:∀ x∈l,dB g x) {x:aR} (h:pQ g l x):dB g x:=by
  induction h with
  | base h=>exact hl _ h
  | step _ _ _ hk _ _ =>
    have:=(List.getElem?_eq_some_iff.1 hk).1
    exact ⟨⟨by simp only; omega,by simp only; omega⟩,by simp only; omega,by simp only; omega⟩
def E7 (g:an):List aR:=(List.range (g.rules.length+1)).flatMap fun (r:Nat)=>(List.range 7).map fun (d:Nat)=>(⟨(r:Int) - 1,(d:Int)⟩:aR)
theorem Hg {g:an} (hf:g.dM) {x:aR} (h:dB g x):x∈E7 g:=by
  have:=gJ hf h.1
  obtain ⟨⟨h1,h2⟩,h3,h4⟩:=h
  simp only[E7,List.mem_flatMap,List.mem_map,List.mem_range]
  refine ⟨(x.aG+1).toNat,by omega,x.dot.toNat,by omega,?_⟩
  obtain ⟨r,d⟩:=x
  simp only at h1 h2 h3 h4 this
  simp only[aR.mk.injEq]; omega
theorem pS:∀ (l a:List aR),cI a→cI (l.foldl lO a)∧∀ x,x∈l.foldl lO a↔x∈a∨x∈l
  | [],a,h=>⟨h,fun x=>by simp⟩
  | y :: l,a,h=>by
    obtain ⟨h1,h2⟩:=pS l (lO a y) (y7 h)
    refine ⟨h1,fun x=>?_⟩
    rw[List.foldl_cons,h2,wH,List.mem_cons]
    constructor
    · rintro ((h | h) | h) <;> simp[h]
    · rintro (h | h | h) <;> simp[h]
open Classical in
noncomputable def c4 (g:an) (l:List aR):List aR:=((E7 g).filter fun x=>decide (pQ g l x)).foldl lO []
theorem ub (g:an) (l:List aR):cI (c4 g l):=(pS _ [] .nil).1
theorem u4 {g:an} (hf:g.dM) {l:List aR} (hl:∀ x∈l,dB g x) {x:aR} : x∈c4 g l↔pQ g l x:=by
  classical
  rw[c4,(pS _ [] .nil).2]
  simp only[List.not_mem_nil,false_or,List.mem_filter,decide_eq_true_eq]
  exact ⟨fun h=>h.2,fun h=>⟨Hg hf (h.has hl),h⟩⟩
theorem Ld {g:an} (hf:g.dM) {l o:List aR} (hl:∀ x∈l,dB g x) (hs:cI o) (h1:∀ x∈o,pQ g l x) (h2:∀ x∈l,x∈o)
    (h3:∀ x∈o,∀ (s:Int) (k:Nat) (R:aM),ec g x=(s,true)→s < 0→g.rules[k]?=some R→R.left = -1 - s→(⟨k,0⟩:aR)∈o):c4 g l=o:=by
  refine vI (ub g l) hs fun x=>?_
  rw[u4 hf hl]
  refine ⟨fun h=>?_,h1 x⟩
  induction h with
  | base h=>exact h2 _ h
  | step _ hn hs hk hL ih=>exact h3 _ ih _ _ _ hn hs hk hL
def bp (g:an) (l:List aR) (s:Int):List aR:=(l.filter fun x=>decide (ec g x=(s,true))).map fun x=>⟨x.aG,x.dot+1⟩
theorem Ls {g:an} {l:List aR} {s:Int} {y:aR} : y∈bp g l s↔∃ x∈l,ec g x=(s,true)∧y=⟨x.aG,x.dot+1⟩:=by
  simp only[bp,List.mem_map,List.mem_filter,decide_eq_true_eq]
  constructor
  · rintro ⟨x,⟨h1,h2⟩,rfl⟩; exact ⟨x,h1,h2,rfl⟩
  · rintro ⟨x,h1,h2,rfl⟩; exact ⟨x,⟨h1,h2⟩,rfl⟩
theorem Cd {g:an} {l:List aR} (s:Int) (h:cI l):cI (bp g l s):=by
  rw[cI,bp,List.pairwise_map]
  refine (h.filter _).imp ?_
  intro a b hab
  rw[fj] at hab ⊢
  simp only; omega
theorem xI {g:an} {x:aR} {s:Int} (h:ec g x=(s,true)):x.dot≠(ef g x.aG).length∧(ef g x.aG).getD x.dot.toNat 0=s:=by
  unfold ec at h
  split at h
  · simp at h
  · rename_i hd; exact ⟨hd,by simpa using h⟩
theorem CZ {g:an} {l:List aR} {s:Int} (hl:∀ x∈l,dB g x):∀ y∈bp g l s,dB g y:=by
  intro y hy
  obtain ⟨x,hx,hn,rfl⟩:=Ls.1 hy
  have h1:=hl x hx
  have h2:=(xI hn).1
  exact ⟨h1.1,by simp only; have:=h1.2; omega,by simp only; have:=h1.2; omega⟩
theorem yK {g:an} {l:List aR} {s:Int} : (bp g l s).length≤l.length:=by
  rw[bp,List.length_map]; exact List.length_filter_le _ _
structure bo where
  bq:List aR
  bO:List fT
  deriving DecidableEq
abbrev bX:bo:=⟨[],[]⟩
def ba (g:an) (i:Nat):Int:=if i < g.ax.length then i else -1 - ((i:Int) - g.ax.length)
def findD:List bo→List aR→Int
  | [],_=>-1
  | s :: l,k=>if s.bq=k then 0 else if findD l k < 0 then -1 else findD l k+1
theorem td:∀ (l:List bo) (k:List aR),-1≤findD l k
  | [],_=>by simp[findD]
  | s :: l,k=>by
    have:=td l k
    rw[findD]; split
    · omega
    · split <;> omega
theorem yP:∀ (l:List bo) (k:List aR),findD l k < l.length
  | [],_=>by simp[findD]
  | s :: l,k=>by
    have:=yP l k
    rw[findD]; simp only[List.length_cons]; split
    · omega
    · split <;> omega
theorem D7:∀ (l:List bo) (k:List aR) (i:Nat),findD l k=i→∃ s,l[i]?=some s∧s.bq=k
  | [],_,i,h=>by simp[findD] at h
  | s :: l,k,i,h=>by
    rw[findD] at h
    split at h
    · rename_i e
      have:i=0:=by omega
      subst this
      exact ⟨s,rfl,e⟩
    · split at h
      · omega
      · obtain ⟨j,rfl⟩:∃ j,i=j+1:=⟨i - 1,by omega⟩
        obtain ⟨t,h1,h2⟩:=D7 l k j (by omega)
        exact ⟨t,by simpa using h1,h2⟩
theorem EF:∀ (l:List bo) (k:List aR),findD l k < 0→∀ s∈l,s.bq≠k
  | [],_,_,s,hs=>by simp at hs
  | t :: l,k,h,s,hs=>by
    rw[findD] at h
    split at h
    · omega
    · rename_i hne
      have hl:findD l k < 0:=by
        split at h
        · assumption
        · omega
      rcases List.mem_cons.1 hs with rfl | hs
      · exact hne
      · exact EF l k hl s hs
def dt (g:an) (l:List aR) (at_:Nat) (out:List bo) (i:Nat):List bo :=
  if bp g l (ba g i)=[] then out else
  if findD out (bp g l (ba g i)) < 0 then (out ++ [(⟨bp g l (ba g i),[]⟩:bo)]).modify at_ fun s=>(⟨s.bq,s.bO ++ [⟨ba g i,out.length⟩]⟩:bo)
  else out.modify at_ fun s=>(⟨s.bq,s.bO ++ [⟨ba g i,findD out (bp g l (ba g i))⟩]⟩:bo)
noncomputable def DD (g:an) (at_:Nat) (out:List bo) (n:Nat):List bo:=(List.range n).foldl (dt g (c4 g (out.getD at_ bX).bq) at_) out
noncomputable def gG (g:an):Nat→Nat→List bo→List bo × Int
  | 0,_,out=>(out,0)
  | f+1,at_,out=>if at_ < out.length then
      (if 300 < (DD g at_ out (g.ax.length+g.au.length)).length then ([],5) else gG g f (at_+1) (DD g at_ out (g.ax.length+g.au.length)))
    else (out,0)
def dR:List bo:=[⟨[⟨-1,0⟩],[]⟩]
abbrev BV:=BitVec 32
def Px (n:Int):BV:=if 0≤n∧n≤31 then BitVec.twoPow 32 n.toNat else 0
theorem N1 {a b:BV} (h:∀ i,i < 32→a.getLsbD i=b.getLsbD i):a=b:=BitVec.eq_of_getLsbD_eq fun i hi=>h i hi
def O9 (a b:BV):Prop:=∀ i,a.getLsbD i=true→b.getLsbD i=true
def NO (null:List Bool) (first:List BV) (rest:BV):List Int→BV
  | []=>rest
  | s :: l=>if 0≤s then Px s else if null.getD (-1 - s).toNat false=true then first.getD (-1 - s).toNat 0 ||| NO null first rest l else first.getD (-1 - s).toNat 0
def OF (null:List Bool) (fs:List BV) (r:aM):List BV:=fs.set r.left.toNat (fs.getD r.left.toNat 0 ||| NO null fs 0 r.right)
def NM (g:an) (null:List Bool) (fs:List BV):List BV:=g.rules.foldl (OF null) fs
def NR (g:an) (null:List Bool):List BV:=iter (NM g null) g.au.length (List.replicate g.au.length 0)
def CL:List fT→Int→Int
  | [],_=>-1
  | e :: l,s=>if e.sym=s then e.to else CL l s
def Jz (a:List bo):Int→List Int→Int × Bool
  | at_,[]=>(at_,true)
  | at_,s :: l=>if 0≤CL (a.getD at_.toNat bX).bO s∧CL (a.getD at_.toNat bX).bO s < a.length then Jz a (CL (a.getD at_.toNat bX).bO s) l else (0,false)
def Mz (a:List bo) (at_:Int) (l:List Int):Int × Bool:=if at_ < 0∨(a.length:Int)≤at_ then (0,false) else Jz a at_ l
abbrev Sets:=List (List BV)
def vf (ss:Sets) (i k:Nat):BV:=(ss.getD i []).getD k 0
def G2 (ls:List (List aR)) (ss:Sets):Prop:=ss.length=ls.length∧∀ i:Nat,(ss.getD i []).length=(ls.getD i []).length
def xq (a b:Sets):Prop:=a.length=b.length∧(∀ i:Nat,(a.getD i []).length=(b.getD i []).length)∧∀ i k,O9 (vf a i k) (vf b i k)
theorem xq.refl {a:Sets} : xq a a:=⟨rfl,fun _=>rfl,fun _ _ _ h=>h⟩
theorem xq.trans {a b c:Sets} (h:xq a b) (k:xq b c):xq a c:=⟨h.1.trans k.1,fun i=>(h.2.1 i).trans (k.2.1 i),fun i j t ht=>k.2.2 i j t (h.2.2 i j t ht)⟩
theorem xq.Ip {a b:Sets} (h:xq a b) (k:xq b a):a=b:=by
  refine List.ext_getElem h.1 fun i h1 h2=>?_
  have e1:a.getD i []=a[i]:=by simp[List.getD_eq_getElem?_getD,h1]
  have e2:b.getD i []=b[i]:=by simp[List.getD_eq_getElem?_getD,h2]
  refine List.ext_getElem (by rw[← e1,← e2]; exact h.2.1 i) fun j h3 h4=>?_
  have g1:vf a i j=a[i][j]:=by rw[vf,e1]; simp[List.getD_eq_getElem?_getD,h3]
  have g2:vf b i j=b[i][j]:=by rw[vf,e2]; simp[List.getD_eq_getElem?_getD,h4]
  rw[← g1,← g2]
  refine N1 fun t _=>?_
  have p:=h.2.2 i j t
  have q:=k.2.2 i j t
  cases hx:(vf a i j).getLsbD t with
  | true=>rw[p hx]
  | false =>
    cases hy:(vf b i j).getLsbD t with
    | false=>rfl
    | true=>rw[q hy] at hx; exact absurd hx (by simp)
theorem G2.le {ls:List (List aR)} {a b:Sets} (h:G2 ls a) (k:xq a b):G2 ls b:=⟨k.1.symm.trans h.1,fun i=>(k.2.1 i).symm.trans (h.2 i)⟩
theorem nN {α:Type} (l:List α) (i j:Nat) (x d:α):(l.set i x).getD j d=if i=j∧i < l.length then x else l.getD j d:=by
  simp only[List.getD_eq_getElem?_getD,List.getElem?_set]
  by_cases e:i=j
  · subst e
    by_cases h:i < l.length
    · simp[h]
    · simp[h]
  · simp[e]
theorem G2.eq {ls:List (List aR)} {a b:Sets} (h:G2 ls a) (k:G2 ls b):a.length=b.length∧∀ i:Nat,(a.getD i []).length=(b.getD i []).length:=⟨h.1.trans k.1.symm,fun i=>(h.2 i).trans (k.2 i).symm⟩
def NL (g:an) (x:aR):List Int:=if 0≤x.aG then (dJ g x.aG).right.drop (x.dot+1).toNat else []
inductive Ez (g:an) (null:List Bool) (a:List bo) (ls:List (List aR)):Nat→aR→Nat→Prop
  | start:(⟨-1,0⟩:aR)∈ls.getD 0 []→Ez g null a ls 0 ⟨-1,0⟩ g.ax.length
  | move {i:Nat} {x:aR} {t:Nat} {s:Int} : Ez g null a ls i x t→ec g x=(s,true)→(⟨x.aG,x.dot+1⟩:aR)∈ls.getD (Mz a i [s]).1.toNat []→Ez g null a ls (Mz a i [s]).1.toNat ⟨x.aG,x.dot+1⟩ t
  | begin {i:Nat} {x:aR} {t u:Nat} {s:Int} {k:Nat} : Ez g null a ls i x t→ec g x=(s,true)→s < 0→k < g.rules.length→(dJ g k).left = -1 - s→(⟨k,0⟩:aR)∈ls.getD i [] →
      (NO null (NR g null) (BitVec.twoPow 32 t) (NL g x)).getLsbD u=true→Ez g null a ls i ⟨k,0⟩ u
theorem Ez.mem {g:an} {null:List Bool} {a:List bo} {ls:List (List aR)} {i:Nat} {x:aR} {t:Nat} (h:Ez g null a ls i x t):x∈ls.getD i []:=by
  cases h <;> assumption
section
variable {g:an} {null:List Bool} {a:List bo} {ls:List (List aR)}
end
theorem yR {g:an} (hf:g.dM) : -100≤g.start∧g.start≤100:=by
  have:=hf.jo; have:=hf.start; have:=hf.au; omega
theorem z1 {l:List aR} {i:Nat} {y:aR} (h:l[i]?=some y):(bE l).getD i []=[gi y.aG,gi y.dot]:=by simp[bE,List.getD_eq_getElem?_getD,h,fN]
theorem bC (l:List aR):(bE l).length=l.length:=by simp[bE]
theorem zW {g:an} {x:aR} {s:Int} {b:Bool} (hf:g.dM) (hx:dB g x) (h:ec g x=(s,b)) : -1000≤s∧s≤1000:=by
  have hsym:∀ s∈ef g x.aG,-1000≤s∧s≤1000:=by
    intro s hs
    unfold ef at hs
    split at hs
    · simp at hs; subst hs; have:=yR hf; omega
    · have hR:g.rules[x.aG.toNat]?=some (dJ g x.aG):=by unfold dJ; exact getD_some (by have:=hx.1; omega)
      have h1:=hf.sym _ (List.mem_of_getElem? hR) s hs
      have:=hf.ax; have:=hf.au
      unfold gX at h1
      split at h1 <;> simp at h1 <;> omega
  unfold ec at h
  split at h
  · simp at h; omega
  · rename_i hd
    simp only[Prod.mk.injEq] at h
    have hlt:x.dot.toNat < (ef g x.aG).length:=by have:=hx.2; omega
    rw[← h.1]
    exact hsym _ (List.mem_of_getElem? (getD_some hlt))
def ld:SC :=
  .seq (.seq (ak [aa 11 5,aa 12 0,aI 13 12,aK 14 .lss 11 13]) <|
  .cond (.tmp 14) (.skip) (.exit 0)) <|
  .seq (.block 1 (.seq (ak [aa 17 0,aa 18 5,aL 19 2 17 18,aJ 20 2 19,aa 21 1,aa 22 5,aL 23 2 21 22,aJ 24 2 23,((some 25),.op (.old (.binOp .neq 33 (.tmp 20) (.tmp 24) 33) 4))]) <|
  .cond (.tmp 25) (.seq (ak [aQ 4 false]) <|
  .ret) (.skip))) <|
  ak [aa 15 5,ay 16 .add 15 1,aa 5 16]
def mF:SF:=⟨.seq (ak [aQ 4 false]) <|
  .seq (.seq (ak [aa 6 0,aI 7 6,aa 8 1,aI 9 8,aK 10 .neq 7 9]) <|
  .cond (.tmp 10) (.seq (ak [aQ 4 false]) <|
  .ret) (.skip)) <|
  .seq (.seq (ak [aD 5 0]) <|
  .block 0 (.loop ld)) <|
  .seq (ak [aQ 4 true]) <|
  .ret,
  [.tmp 4],26⟩
theorem rh:bh Tryz.prog 21 []=some mF:=by kernel_rfl
theorem Hv {g:an} (hf:g.dM) {i:Nat} (hi:i < g.ax.length+g.au.length) : -100≤ba g i∧ba g i≤100:=by
  have:=hf.ax; have:=hf.au
  unfold ba; split <;> omega
theorem GK (l:List aR):Tree (.aV (bE l)):=ez _ _ fun x _ v hv=>by simp[fN] at hv; rcases hv with rfl | rfl <;> exact .val _
theorem Il (a b:List aR) (ha:aX a) (hb:aX b):aC Tryz.prog 21 [.aV (bE a),.aV (bE b)] (gb (a == b)):=by
  unfold aX at ha hb
  refine aC.val (by
    intro v hv; simp at hv
    rcases hv with rfl | rfl <;> exact GK _) fun H=>?_
  refine aA.of mixed rh ?_
  simp (disch:=omega) only [↓wr,↓reduceIte,wq,ah,ag,aj,ab,ae,af,ai,isNil,Nat.reduceEqDiff,Nat.reduceAdd,Nat.reduceLT,Nat.reduceLeDiff,Int.reduceNeg,Int.reduceToNat,reduceCtorEq,mF,bE]
  refine av.ne (fun h=>?_) (fun h=>?_)
  · simp (disch:=omega) only [↓wr,↓reduceIte,wq,ah,ag,aj,ab,ae,af,ai,isNil,Nat.reduceEqDiff,Nat.reduceAdd,Nat.reduceLT,Nat.reduceLeDiff,Int.reduceNeg,Int.reduceToNat,reduceCtorEq]
    have:(a == b)=false:=by simp; rintro rfl; exact h rfl
    rw[this]
  · simp (disch:=omega) only [↓wr,↓reduceIte,wq,ah,ag,aj,ab,ae,af,ai,isNil,Nat.reduceEqDiff,Nat.reduceAdd,Nat.reduceLT,Nat.reduceLeDiff,Int.reduceNeg,Int.reduceToNat,reduceCtorEq]
    refine bw.up a.length (fun i T H'=>a.take i=b.take i∧T 0=.aV (bE a)∧T 1=.aV (bE b)∧T 5=gi i) ⟨rfl,rfl,rfl,rfl⟩ ?_
    rintro i k T H' hk ⟨he,t0,t1,t5⟩
    simp (disch:=omega) only [↓wr,↓reduceIte,wq,ah,ag,aj,ab,ae,af,ai,isNil,Nat.reduceEqDiff,Nat.reduceAdd,Nat.reduceLT,Nat.reduceLeDiff,Int.reduceNeg,Int.reduceToNat,reduceCtorEq,ld,t0,t1,t5,bE]
    refine av.dec (fun hc=>?_) (fun hc=>?_)
    · have hx:a[i]?=some (a[i]'(by omega)):=List.getElem?_eq_getElem (by omega)
      have hy:b[i]?=some (b[i]'(by omega)):=List.getElem?_eq_getElem (by omega)
      generalize a[i]'(by omega)=x at hx
      generalize b[i]'(by omega)=y at hy
      simp (disch:=omega) only [↓wr,↓reduceIte,wq,ah,ag,aj,ab,ae,af,ai,isNil,Nat.reduceEqDiff,Nat.reduceAdd,Nat.reduceLT,Nat.reduceLeDiff,Int.reduceNeg,Int.reduceToNat,reduceCtorEq,t0,t1,t5,bE,List.getElem?_map,hx,hy,Option.map_some,fN]
      refine ki (xs:=#[.int .i64 x.aG,.int .i64 x.dot]) (ys:=#[.int .i64 y.aG,.int .i64 y.dot]) Tryz.underlying33 (by kernel_rfl) (by kernel_rfl) ?_ ?_ (vX x y) (.inr ⟨rfl,rfl⟩) ?_
      · rfl
      · rfl
      rw[D9]
      simp (disch:=omega) only [↓wr,↓reduceIte,wq,ah,ag,aj,ab,ae,af,ai,isNil,Nat.reduceEqDiff,Nat.reduceAdd,Nat.reduceLT,Nat.reduceLeDiff,Int.reduceNeg,Int.reduceToNat,reduceCtorEq,t0,t1,t5]
      refine av.dec (fun e2=>?_) (fun e2=>?_)
      · simp (disch:=omega) only [↓wr,↓reduceIte,wq,ah,ag,aj,ab,ae,af,ai,isNil,Nat.reduceEqDiff,Nat.reduceAdd,Nat.reduceLT,Nat.reduceLeDiff,Int.reduceNeg,Int.reduceToNat,reduceCtorEq,t0,t1,t5]
        exact bt hk (by omega) ⟨by rw[List.take_add_one,List.take_add_one,he,hx,hy,e2],t0,t1,rfl⟩
      · simp (disch:=omega) only [↓wr,↓reduceIte,wq,ah,ag,aj,ab,ae,af,ai,isNil,Nat.reduceEqDiff,Nat.reduceAdd,Nat.reduceLT,Nat.reduceLeDiff,Int.reduceNeg,Int.reduceToNat,reduceCtorEq]
        have:(a == b)=false:=by
          simp; rintro rfl
          rw[hx] at hy; simp at hy; exact e2 hy
        rw[this]
    · simp (disch:=omega) only [↓wr,↓reduceIte,wq,ah,ag,aj,ab,ae,af,ai,isNil,Nat.reduceEqDiff,Nat.reduceAdd,Nat.reduceLT,Nat.reduceLeDiff,Int.reduceNeg,Int.reduceToNat,reduceCtorEq,t0,t1,t5]
      rw[List.take_of_length_le (by omega),List.take_of_length_le (by omega)] at he
      rw[he,beq_self_eq_true]
structure P3 where
  aG:Int
  set:BV
  deriving DecidableEq
structure P4 where
  state:Int
  term:Int
  kind:Int
  aG:Int
  other:Int
  deriving DecidableEq
noncomputable def eu (g:an):List bo × Int:=if isRed g=true then gG g 302 0 dR else ([],1)
structure dz (g:an) (at_ i:Nat) (out:List bo):Prop where
  bq:∀ s∈out,cI s.bq∧s.bq≠[]∧∀ x∈s.bq,dB g x
  bO:∀ j s,out[j]?=some s→s.bO.length≤40∧(j=at_→s.bO.length≤i)∧(at_ < j→s.bO=[])
  to:∀ s∈out,∀ e∈s.bO,0≤e.to∧e.to < out.length
  sym:∀ s∈out,∀ e∈s.bO,-1000≤e.sym∧e.sym≤1000
theorem mem_modify {α:Type} {l:List α} {i:Nat} {f:α→α} {y:α} (h:y∈l.modify i f):y∈l∨∃ x,l[i]?=some x∧y=f x:=by
  obtain ⟨j,hj,e⟩:=List.mem_iff_getElem.1 h
  simp only[List.length_modify] at hj
  rw[List.getElem_modify] at e
  split at e
  · rename_i hij
    subst hij
    exact .inr ⟨l[i],List.getElem?_eq_getElem hj,e.symm⟩
  · exact .inl (e ▸ List.getElem_mem hj)
theorem Jh (g:an) (l:List aR) (at_:Nat) (out:List bo) (i:Nat):out.length≤(dt g l at_ out i).length∧(dt g l at_ out i).length≤out.length+1:=by
  unfold dt
  split
  · omega
  · split
    · simp
    · simp
theorem dz.put {g:an} {at_ i:Nat} {out:List bo} (h:dz g at_ i out) (hi:i < 40) {s:Int} (hs : -1000≤s∧s≤1000) {to:Int} (ht:0≤to∧to < out.length):dz g at_ (i+1) (out.modify at_ fun x=>(⟨x.bq,x.bO ++ [⟨s,to⟩]⟩:bo)):=by
  refine ⟨fun y hy=>?_,fun j y hy=>?_,fun y hy e he=>?_,fun y hy e he=>?_⟩
  rotate_right
  · rcases mem_modify hy with hy | ⟨x,hx,rfl⟩
    · exact h.sym y hy e he
    · rcases List.mem_append.1 he with he | he
      · exact h.sym x (List.mem_of_getElem? hx) e he
      · simp at he; subst he; exact hs
  · rcases mem_modify hy with hy | ⟨x,hx,rfl⟩
    · exact h.bq y hy
    · exact h.bq x (List.mem_of_getElem? hx)
  · rw[List.getElem?_modify] at hy
    cases hx:out[j]? with
    | none=>rw[hx] at hy; simp at hy
    | some x =>
      rw[hx] at hy
      have h1:=h.bO j x hx
      by_cases e:at_=j
      · subst e
        simp at hy
        subst hy
        have:=h1.2.1 rfl
        refine ⟨by simp; omega,fun _=>by simp; omega,fun h=>by omega⟩
      · simp[e] at hy
        subst hy
        exact ⟨h1.1,fun h=>absurd h.symm e,h1.2.2⟩
  · rw[List.length_modify]
    rcases mem_modify hy with hy | ⟨x,hx,rfl⟩
    · exact h.to y hy e he
    · rcases List.mem_append.1 he with he | he
      · exact h.to x (List.mem_of_getElem? hx) e he
      · simp at he; subst he; exact ht
theorem dz.up {g:an} {at_ i:Nat} {out:List bo} (h:dz g at_ i out):dz g at_ (i+1) out :=
  ⟨h.bq,fun j s hs=>by have:=h.bO j s hs; exact ⟨this.1,fun e=>by have:=this.2.1 e; omega,this.2.2⟩,h.to,h.sym⟩
theorem dz.add {g:an} {at_ i:Nat} {out:List bo} (h:dz g at_ i out) {k:List aR} (hk:cI k∧k≠[]∧∀ x∈k,dB g x):dz g at_ i (out ++ [⟨k,[]⟩]):=by
  refine ⟨fun y hy=>?_,fun j y hy=>?_,fun y hy e he=>?_,fun y hy e he=>?_⟩
  rotate_right
  · rcases List.mem_append.1 hy with hy | hy
    · exact h.sym y hy e he
    · simp at hy; subst hy; simp at he
  · rcases List.mem_append.1 hy with hy | hy
    · exact h.bq y hy
    · simp at hy; subst hy; exact hk
  · rcases Nat.lt_or_ge j out.length with hj | hj
    · rw[List.getElem?_append_left hj] at hy; exact h.bO j y hy
    · rw[List.getElem?_append_right hj] at hy
      cases hq:j - out.length with
      | zero=>rw[hq] at hy; simp at hy; subst hy; exact ⟨by simp,fun _=>by simp,fun _=>rfl⟩
      | succ q=>rw[hq] at hy; simp at hy
  · rcases List.mem_append.1 hy with hy | hy
    · have:=h.to y hy e he; simp; omega
    · simp at hy; subst hy; simp at he
theorem dz.step {g:an} {l:List aR} (hs:cI l) (hl:∀ x∈l,dB g x) {at_ i:Nat} {out:List bo} (h:dz g at_ i out) (hi:i < 40):dz g at_ (i+1) (dt g l at_ out i):=by
  unfold dt
  split
  · exact h.up
  · rename_i hne
    have hb : -1000≤ba g i∧ba g i≤1000:=by unfold ba; split <;> omega
    split
    · exact (h.add ⟨Cd _ hs,hne,CZ hl⟩).put hi hb (by simp; omega)
    · have:=yP out (bp g l (ba g i))
      exact h.put hi hb ⟨by omega,this⟩
theorem dz.next {g:an} {at_ i:Nat} {out:List bo} (h:dz g at_ i out):dz g (at_+1) 0 out :=
  ⟨h.bq,fun j s hs=>by
    have:=h.bO j s hs
    exact ⟨this.1,fun e=>by have:=this.2.2 (by omega); simp[this],fun e=>this.2.2 (by omega)⟩,h.to,h.sym⟩
theorem dz.row {g:an} {l:List aR} (hs:cI l) (hl:∀ x∈l,dB g x) {at_:Nat} {out:List bo} (h:dz g at_ 0 out):∀ n:Nat,n≤40→dz g at_ n ((List.range n).foldl (dt g l at_) out)∧out.length≤((List.range n).foldl (dt g l at_) out).length∧((List.range n).foldl (dt g l at_) out).length≤out.length+n
  | 0,_=>⟨h,Nat.le_refl _,Nat.le_refl _⟩
  | n+1,hn=>by
    obtain ⟨h1,h2,h3⟩:=dz.row hs hl h n (by omega)
    rw[List.range_succ,List.foldl_append]
    simp only[List.foldl_cons,List.foldl_nil]
    have:=Jh g l at_ ((List.range n).foldl (dt g l at_) out) n
    exact ⟨h1.step hs hl (by omega),by omega,by omega⟩
theorem qH {g:an} : dz g 0 0 dR:=by
  refine ⟨fun s hs=>?_,fun j s hs=>?_,fun s hs e he=>?_,fun s hs e he=>?_⟩
  rotate_right
  · simp[dR] at hs; subst hs; simp at he
  · simp[dR] at hs; subst hs
    refine ⟨by simp[cI],by simp,fun x hx=>?_⟩
    simp at hx; subst hx
    exact ⟨⟨by simp,by simp only; omega⟩,by simp,by simp[ef]⟩
  · have:=List.mem_of_getElem? hs
    simp[dR] at this; subst this; simp
  · simp[dR] at hs; subst hs; simp at he
theorem dz.ry {g:an} (hf:g.dM) {at_ i:Nat} {out:List bo} (h:dz g at_ i out) {j:Nat} (hj:j < out.length):cI (c4 g (out.getD j bX).bq)∧∀ x∈c4 g (out.getD j bX).bq,dB g x:=by
  have hm:=List.mem_of_getElem? (getD_some (d:=bX) hj)
  exact ⟨ub _ _,fun x hx=>((u4 hf (h.bq _ hm).2.2).1 hx).has (h.bq _ hm).2.2⟩
structure CW (g:an) (a:List bo):Prop where
  bq:∀ s∈a,cI s.bq∧s.bq≠[]∧∀ x∈s.bq,dB g x
  bO:∀ s∈a,s.bO.length≤40
  to:∀ s∈a,∀ e∈s.bO,0≤e.to∧e.to < a.length
  sym:∀ s∈a,∀ e∈s.bO,-1000≤e.sym∧e.sym≤1000
theorem dz.ok {g:an} {at_ i:Nat} {out:List bo} (h:dz g at_ i out):CW g out :=
  ⟨h.bq,fun s hs=>by obtain ⟨j,hj,e⟩:=List.mem_iff_getElem.1 hs; exact (h.bO j s (by rw[List.getElem?_eq_getElem hj,e])).1,h.to,h.sym⟩
theorem Er {g:an} (hf:g.dM):∀ (f at_:Nat) (out:List bo),dz g at_ 0 out→1≤out.length→out.length≤300→(gG g f at_ out).2=0→CW g (gG g f at_ out).1∧1≤(gG g f at_ out).1.length∧(gG g f at_ out).1.length≤300
  | 0,_,out,h,h1,h2,_=>⟨h.ok,h1,h2⟩
  | f+1,at_,out,h,h1,h2,h3=>by
    rw[gG] at h3 ⊢
    split
    · rename_i ha
      rw[if_pos ha] at h3
      have hr:=dz.row (h.ry hf ha).1 (h.ry hf ha).2 h (g.ax.length+g.au.length) (by have:=hf.ax; have:=hf.au; omega)
      rw[show (List.range (g.ax.length+g.au.length)).foldl (dt g (c4 g (out.getD at_ bX).bq) at_) out=DD g at_ out (g.ax.length+g.au.length) from rfl] at hr
      split
      · rename_i hc; rw[if_pos hc] at h3; simp at h3
      · rename_i hc
        rw[if_neg hc] at h3
        exact Er hf f (at_+1) _ hr.1.next (by omega) (by omega) h3
    · exact ⟨h.ok,h1,h2⟩
theorem C8 {g:an} (hf:g.dM) (h:(eu g).2=0):CW g (eu g).1∧1≤(eu g).1.length∧(eu g).1.length≤300:=by
  unfold eu at h ⊢
  split
  · rename_i hr
    rw[if_pos hr] at h
    exact Er hf 302 0 dR qH (by simp[dR]) (by simp[dR]) h
  · rename_i hr
    rw[if_neg hr] at h
    simp at h
def mw (l:List fT):List (List V):=l.map yY
def lP (s:bo):List V:=[.aV (bE s.bq),.aV (mw s.bO)]
def dE (a:List bo):V:=.aV (a.map lP)
theorem Nn (l:List fT):Tree (.aV (mw l)):=ez _ _ fun x _ v hv=>by simp[yY] at hv; rcases hv with rfl | rfl <;> exact .val _
theorem Is (s:bo):∀ v∈lP s,Tree v:=by
  intro v hv; simp[lP] at hv
  rcases hv with rfl | rfl
  · exact GK _
  · exact Nn _
theorem Ff (a:List bo):Tree (dE a):=ez _ _ fun x _=>Is x
abbrev sW:=V × V × bo
def hO (A:List sW):List (List V):=A.map fun x=>[x.1,x.2.1]
def qA (A:List sW):List er:=A.flatMap fun x=>[(x.1,2,bE x.2.2.bq),(x.2.1,2,mw x.2.2.bO)]
theorem fC (A:List sW):(hO A).length=A.length:=by simp[hO]
theorem AF {A:List sW} {x:sW} (hx:x∈A):(x.1,2,bE x.2.2.bq)∈qA A∧(x.2.1,2,mw x.2.2.bO)∈qA A:=by
  constructor <;> exact List.mem_flatMap.2 ⟨x,hx,by simp⟩
theorem MZ {h:aB} {u:V} {A:List sW} (ho:aW h.view u 2 (hO A)) (hb:∀ x∈A,aW h.view x.1 2 (bE x.2.2.bq)∧aW h.view x.2.1 2 (mw x.2.2.bO)):dA h u (dE (A.map fun x=>x.2.2)):=by
  have hg:∀ i (hi:i < A.length),(hO A).getD i []=[(A[i]).1,(A[i]).2.1]∧(((A.map fun x=>x.2.2).map lP).getD i [])=lP (A[i]).2.2:=fun i hi=>by
    simp[hO,List.getD_eq_getElem?_getD,hi]
  refine dA.own ho (by simp[hO]) (fun i hi=>?_) (fun i j hi hj=>?_)
  · have hi':i < A.length:=by simpa [hO] using hi
    rw[(hg i hi').1,(hg i hi').2]; rfl
  · have hi':i < A.length:=by simpa [hO] using hi
    rw[(hg i hi').2] at hj ⊢
    rw[(hg i hi').1]
    have hx:=hb _ (List.getElem_mem hi')
    generalize A[i]'hi'=y at hx hj
    obtain ⟨h1,h2⟩:=hx
    match j,hj with
    | 0,_ =>
      refine dA.own h1 rfl (fun i _=>rfl) (fun i j hi hj=>?_)
      rw[bC] at hi
      have e:(bE y.2.2.bq).getD i []=fN y.2.2.bq[i]:=by simp[bE,List.getD_eq_getElem?_getD,hi]
      rw[e] at hj ⊢
      match j,hj with
      | 0,_=>exact .val _
      | 1,_=>exact .val _
    | 1,_ =>
      refine dA.own h2 rfl (fun i _=>rfl) (fun i j hi hj=>?_)
      simp only[mw,List.length_map] at hi
      have e:(mw y.2.2.bO).getD i []=yY y.2.2.bO[i]:=by simp[mw,List.getD_eq_getElem?_getD,hi]
      rw[e] at hj ⊢
      match j,hj with
      | 0,_=>exact .val _
      | 1,_=>exact .val _
    | n+2,hj=>exact absurd hj (by simp[lP])
theorem AO {h:aB} {u v:V} {e:Int} (h1:dA h u v):dA h (.bk [u,gi e]) (.bk [v,gi e]):=.bk _ _ rfl fun i hi=>by
  match i,hi with
  | 0,_=>exact h1
  | 1,_=>exact .val _
theorem ED {α:Type} {l:List α} {i:Nat} (h:i < l.length):∃ a x b,l=a ++ x :: b∧a.length=i∧l[i]?=some x :=
  ⟨l.take i,l[i],l.drop (i+1),by rw[← List.drop_eq_getElem_cons h,List.take_append_drop],by simp; omega,List.getElem?_eq_getElem h⟩
theorem Ij {α:Type} (a:List α) (x:α) (b:List α) (f:α→α):(a ++ x :: b).modify a.length f=a ++ f x :: b:=by
  induction a with
  | nil=>rfl
  | cons y a ih=>simp only[List.cons_append,List.length_cons,List.modify_succ_cons,ih]
theorem Fs {g:an} (h:isRed g=true):bH g=true:=by
  unfold isRed at h
  simp only[Bool.and_eq_true,beq_iff_eq,decide_eq_true_eq] at h
  refine Decidable.byContradiction fun hn=>?_
  have h1:=h.1
  unfold eW at h1
  simp[hn] at h1
theorem tI {g:an} (h:isRed g=true):g.dM:=bI (Fs h)
theorem FV (A:List sW) (x:sW) (B:List sW):qA (A ++ x :: B)=qA A ++ (x.1,2,bE x.2.2.bq) :: (x.2.1,2,mw x.2.2.bO) :: qA B:=by simp[qA]
theorem toNat_zero {s:BV} : ((s.toNat:Nat):Int)=0↔s=0:=by
  constructor
  · intro h; exact BitVec.eq_of_toNat_eq (by simpa using h)
  · rintro rfl; rfl
instance (g:an) (x:aR):Decidable (dB g x):=by unfold dB; infer_instance
end Gv
