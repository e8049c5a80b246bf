/-
  Part 13 of the proof: what the machine does and what the functions answer.
  Conditions: those that each lemma names.
-/
import Derived.Test.YtihmlbdfcmfbdaaGreatSGzA6L
set_option linter.unusedSimpArgs false
set_option linter.unusedVariables false
set_option maxRecDepth 100000
namespace Gv
open Go Go.Proofs
def NF (s:Int × Int):Prop:=(0≤s.1∧s.1≤1000)∧(0≤s.2∧s.2≤1000)
def xO (g:ao):List (Int × Int):=(dS g).map xm
theorem xP:xm qF=(0,0):=by decide
theorem ME (g:ao) (m:Nat):qB (xO g) m=xm (cH (dS g) m):=by
  simp only[xO,qB,cH,List.getD_eq_getElem?_getD,List.getElem?_map]
  cases (dS g)[m]? <;> rfl
theorem OZ (g:ao) (m:Nat):NF (xm (cH (dS g) m)):=by
  have h:mG (cH (dS g) m):=wi g _ m
  unfold mG at h
  unfold NF xm; simp only; omega
def iB (g:ao) (j i:Nat) (S:List (Int × Int)):Prop:=S.length=g.ay.length∧∀ m,qB S m=if (cH (dS g) m).cW≤j∨((cH (dS g) m).cW=j+1∧m < i) then xm (cH (dS g) m) else (0,0)
theorem iB.ok {g:ao} {j i:Nat} {S:List (Int × Int)} (h:iB g j i S) (m:Nat):NF (qB S m):=by
  rw[h.2 m]; split
  · exact OZ g m
  · unfold NF; simp
theorem NS {S:List (Int × Int)} {i m:Nat} {v:Int × Int} (hm:m < S.length):qB (S.set i v) m=if i=m then v else qB S m:=by
  simp only[qB,List.getD_eq_getElem?_getD,List.getElem?_set]
  split
  · rename_i e; subst e; simp[hm]
  · rfl
theorem iB.next {g:ao} {j i:Nat} {S:List (Int × Int)} (h:iB g j i S) (hi:(cH (dS g) i).cW≠(j:Int)+1):iB g j (i+1) S:=⟨h.1,fun m=>by
  rw[h.2 m]
  by_cases e:m=i
  · subst e
    by_cases h1:(cH (dS g) m).cW≤j
    · rw[if_pos (.inl h1),if_pos (.inl h1)]
    · rw[if_neg (by omega),if_neg (by omega)]
  · congr 1
    simp only[eq_iff_iff]
    constructor <;> rintro (h1 | h1) <;> first | exact .inl h1 | exact .inr ⟨h1.1,by omega⟩⟩
theorem iB.put {g:ao} {j i:Nat} {S:List (Int × Int)} (h:iB g j i S) (hi:(cH (dS g) i).cW=(j:Int)+1) (hn:i < g.ay.length):iB g j (i+1) (S.set i (xm (cH (dS g) i))):=⟨by simp[h.1],fun m=>by
  by_cases hm:m < S.length
  · rw[NS hm]
    by_cases e:i=m
    · subst e; rw[if_pos rfl,if_pos (.inr ⟨hi,by omega⟩)]
    · rw[if_neg e,h.2 m]
      congr 1
      simp only[eq_iff_iff]
      constructor <;> rintro (h1 | h1) <;> first | exact .inl h1 | exact .inr ⟨h1.1,by omega⟩
  · have:cH (dS g) m=qF:=s9 (by rw[xp,← h.1]; omega)
    have e:qB (S.set i (xm (cH (dS g) i))) m=(0,0):=by
      simp only[qB,List.getD_eq_getElem?_getD]; rw[List.getElem?_eq_none (by simp; omega)]; rfl
    rw[e,this]
    split <;> simp[xP]⟩
theorem iB.Qr {g:ao} {j:Nat} {S:List (Int × Int)} (h:iB g j g.ay.length S):iB g (j+1) 0 S:=⟨h.1,fun m=>by
  rw[h.2 m]
  by_cases hm:m < g.ay.length
  · congr 1
    simp only[eq_iff_iff]
    push_cast
    constructor
    · rintro (h1 | h1) <;> left <;> omega
    · rintro (h1 | h1)
      · omega
      · omega
  · have:cH (dS g) m=qF:=s9 (by rw[xp]; omega)
    rw[this]; split <;> split <;> simp[xP]⟩
theorem iB.start (g:ao):iB g 0 0 (List.replicate g.ay.length (0,0)):=⟨by simp,fun m=>by
  have e:qB (List.replicate g.ay.length (0,0)) m=(0,0):=by
    simp only[qB,List.getD_eq_getElem?_getD,List.getElem?_replicate]
    split <;> rfl
  rw[e]
  split
  · rename_i h
    by_cases hk:c6 (dS g) m
    · have:=(yi hk).1; omega
    · rw[E2 hk]; simp[xP]
  · rfl⟩
theorem iB.done {g:ao} {S:List (Int × Int)} (h:iB g g.ay.length 0 S):S=xO g:=by
  apply List.ext_getElem (by simp[h.1,xO,xp])
  intro m h1 h2
  have e:S[m]=qB S m:=by simp[qB,List.getD_eq_getElem?_getD,h1]
  have e2:(xO g)[m]=qB (xO g) m:=by simp[qB,List.getD_eq_getElem?_getD,h2]
  rw[e,e2,h.2 m,ME]
  by_cases hk:c6 (dS g) m
  · rw[if_pos (.inl (yi hk).2)]
  · rw[E2 hk]; split <;> simp[xP]
def kR {κ:Type} (kv:κ→V) (m:cm κ):List (V × V × Nat):=m.map fun x=>(kv x.1,x.2.1,x.2.2)
structure Rb {κ:Type} [BEq κ] (P:Program) (kt:TypeId) (kv:κ→V):Prop where
  find:∀ k e m,mB P kt (kv k) e (kR kv m)=some (jt k m)
  same:∀ k,sameKey (kv k) (kv k)=true
def DK {κ:Type} (m:cm κ) (c:Nat):Prop:=(m.map (·.2.2)).Nodup∧∀ x∈m,x.2.2 < c
def lU {κ:Type} [BEq κ] (m:cm κ) (k:κ):Option Nat:=(m.find? fun x=>k == x.1).map (·.2.2)
section
variable {κ:Type} [BEq κ] [LawfulBEq κ] {kv:κ→V}
theorem Fi (k:κ):∀ m:cm κ,match jt k m with
    | some i=>∃ x,m[i]?=some x∧x.1=k∧getM m k=some x.2.1∧lU m k=some x.2.2∧(kR kv m)[i]?=some (kv k,x.2.1,x.2.2)∧∀ v c,(kR kv m).set i (kv k,v,x.2.2)=kR kv (bV k v c m)∧lU (bV k v c m) k=some x.2.2∧(bV k v c m).map (·.2.2)=m.map (·.2.2)
    | none=>getM m k=none∧lU m k=none∧∀ v c,kR kv m ++ [(kv k,v,c)]=kR kv (bV k v c m)∧lU (bV k v c m) k=some c∧(bV k v c m).map (·.2.2)=m.map (·.2.2) ++ [c]
  | []=>⟨rfl,rfl,fun v c=>⟨rfl,by simp[bV,lU],rfl⟩⟩
  | x :: r=>by
    have ih:=Fi k r
    simp only[jt]
    cases hk:k == x.1 with
    | true =>
      have hx:x.1=k:=(eq_of_beq hk).symm
      exact ⟨x,rfl,hx,by simp[getM,hk],by simp[lU,hk],by simp[kR,hx],fun v c=>by simp[bV,hk,kR,lU]⟩
    | false =>
      simp only[Bool.false_eq_true,if_false]
      cases hi:jt k r with
      | some i =>
        rw[hi] at ih
        obtain ⟨y,h1,h2,h3,h4,h5,h6⟩:=ih
        refine ⟨y,by simpa using h1,h2,by simpa [getM,hk] using h3,by simpa [lU,hk] using h4,by simpa [kR] using h5,fun v c=>?_⟩
        obtain ⟨g1,g2,g3⟩:=h6 v c
        exact ⟨by simp only[kR] at g1 ⊢; simp[bV,hk,g1],by simpa [bV,hk,lU] using g2,by simp[bV,hk,g3]⟩
      | none =>
        rw[hi] at ih
        refine ⟨by simpa [getM,hk] using ih.1,by simpa [lU,hk] using ih.2.1,fun v c=>?_⟩
        obtain ⟨g1,g2,g3⟩:=ih.2.2 v c
        exact ⟨by simp only[kR] at g1 ⊢; simp[bV,hk,g1],by simpa [bV,hk,lU] using g2,by simp[bV,hk,g3]⟩
theorem DK.put {m:cm κ} {c:Nat} (h:DK m c) (k:κ) (v:V):DK (bV k v c m) (c+1):=by
  have hg:=Fi (kv:=fun _=>V.any) k m
  cases hj:jt k m with
  | some j =>
    rw[hj] at hg
    obtain ⟨y,_,_,_,_,_,h6⟩:=hg
    have e:=(h6 v c).2.2
    refine ⟨by rw[e]; exact h.1,fun x hx=>?_⟩
    have:x.2.2∈m.map (·.2.2):=by rw[← e]; exact List.mem_map.2 ⟨x,hx,rfl⟩
    obtain ⟨y,hy,e2⟩:=List.mem_map.1 this
    have:=h.2 y hy
    omega
  | none =>
    rw[hj] at hg
    have e:=(hg.2.2 v c).2.2
    refine ⟨?_,fun x hx=>?_⟩
    · rw[e,List.nodup_append]
      refine ⟨h.1,by simp,fun a ha b hb=>?_⟩
      simp at hb; subst hb
      obtain ⟨y,hy,rfl⟩:=List.mem_map.1 ha
      have:=h.2 y hy
      omega
    · have:x.2.2∈m.map (·.2.2) ++ [c]:=by rw[← e]; exact List.mem_map.2 ⟨x,hx,rfl⟩
      rcases List.mem_append.1 this with h1 | h1
      · obtain ⟨y,hy,e2⟩:=List.mem_map.1 h1
        have:=h.2 y hy
        omega
      · simp at h1; omega
variable {P:Program} {T:Env} {H:View} {kt et t ty:TypeId}
end
def uX (x:Item):List V:=[aj x.aH,aj x.dot,aj x.ln]
def P5 (x:Item):V:=.agg (uX x)
structure Rc (P:Program) (kt:TypeId):Prop where
  ty:∃ f0 f1 f2:Field,P.underlying kt=some (.struct #[f0,f1,f2])∧f0.name≠ "_" ∧ f1.name≠ "_" ∧ f2.name≠ "_" ∧ P.underlying f0.type=some (.int .i64)∧P.underlying f1.type=some (.int .i64)∧P.underlying f2.type=some (.int .i64)∧f0.offset=0∧f1.offset=1∧f2.offset=2
  held:P.stoodInHeld kt=false
def QU (m:cm Item) (s:List Item) (B:Nat):Prop:=∀ x,(x∈s→∃ k:Nat,getM m x=some (aj k)∧1≤k∧k≤B)∧(x ∉ s→getM m x=none)
structure qU (H:View) (c sid mid:Nat) (sv:Nat→V) (mi:Nat→Nat) (mm:Nat→cm Item) (cl:Nat→Nat) (g:ao) (p:List Int) (nu:V) (S S1:Nat→List Item) (B n:Nat) (K:List (Nat × bM)):Prop where
  box:H c=.arr 8 [[.aZ (g.az.map cE),encS g.ay,.aZ (g.rules.map ba),gi g.start,encI p,nu,.sl sid 0 n 1,.sl mid 0 n 1]]
  jL:H sid=.arr 1 ((List.range n).map fun j=>[sv j])
  seen:H mid=.arr 1 ((List.range n).map fun j=>[.mp (mi j)])
  set:∀ j,j < n→aQ H (sv j) 3 ((S j).map uX)
  map:∀ j,j < n→H (mi j)=.map (kR P5 (mm j)) (cl j)∧DK (mm j) (cl j)∧QU (mm j) (S1 j) B
  ne:sid≠mid
  za:∀ i j o,i < n→j < n→owner (sv i)=some o→owner (sv j)=some o→i=j
  Ix:∀ i j,i < n→j < n→mi i=mi j→i=j
  off:∀ q∈K,H q.1=q.2∧q.2≠.dead∧q.1≠sid∧(∀ j,j < n→q.1≠mi j)∧∀ j,j < n→owner (sv j)≠some q.1
def Ch (H:View) (c:Nat) (g:ao) (p:List Int) (nu:V) (S:Nat→List Item) (B n:Nat) (K:List (Nat × bM)):Prop:=∃ sid mid sv mi mm cl,qU H c sid mid sv mi mm cl g p nu S S B n K
def wm (S:Nat→List Item) (a:Nat) (x:Item):Nat→List Item:=fun b=>if b=a then (if x∈S a then S a else S a ++ [x]) else S b
theorem Ch.more {H:View} {c:Nat} {g:ao} {p:List Int} {nu:V} {S:Nat→List Item} {B B' n:Nat} {K:List (Nat × bM)} (h:Ch H c g p nu S B n K) (hB:B≤B'):Ch H c g p nu S B' n K:=by
  obtain ⟨sid,mid,sv,mi,mm,cl,h⟩:=h
  refine ⟨sid,mid,sv,mi,mm,cl,h.box,h.jL,h.seen,h.set,fun j hj=>⟨(h.map j hj).1,(h.map j hj).2.1,fun x=>⟨fun hx=>?_,((h.map j hj).2.2 x).2⟩⟩,h.ne,h.za,h.Ix,h.off⟩
  obtain ⟨k,h1,h2,h3⟩:=((h.map j hj).2.2 x).1 hx
  exact ⟨k,h1,h2,by omega⟩
theorem Ch.drop {H:View} {c:Nat} {g:ao} {p:List Int} {nu:V} {S:Nat→List Item} {B n:Nat} {q:Nat × bM} {K:List (Nat × bM)} (h:Ch H c g p nu S B n (q :: K)):Ch H c g p nu S B n K:=by
  obtain ⟨sid,mid,sv,mi,mm,cl,h⟩:=h
  exact ⟨sid,mid,sv,mi,mm,cl,h.box,h.jL,h.seen,h.set,h.map,h.ne,h.za,h.Ix,fun q hq=>h.off q (by simp[hq])⟩
theorem qU.new {H:View} {c sid mid:Nat} {sv:Nat→V} {mi:Nat→Nat} {mm:Nat→cm Item} {cl:Nat→Nat} {g:ao} {p:List Int} {nu:V} {S S1:Nat→List Item} {B n:Nat} {K:List (Nat × bM)} (h:qU H c sid mid sv mi mm cl g p nu S S1 B n K)
    {b:Nat} {o:bM} (hb:H b=.dead) (ho:o≠.dead):qU (H.set b o) c sid mid sv mi mm cl g p nu S S1 B n ((b,o) :: K):=by
  have keep:∀ id,H id≠.dead→(H.set b o) id=H id:=fun id hid=>by
    have e:id≠b:=by rintro rfl; exact hid hb
    simp[View.set,e]
  have live:∀ {id},H id≠.dead→b≠id:=fun hid e=>hid (e ▸ hb)
  refine ⟨?_,?_,?_,fun j hj=>?_,fun j hj=>?_,h.ne,h.za,h.Ix,fun q hq=>?_⟩
  · rw[keep _ (by rw[h.box]; simp)]; exact h.box
  · rw[keep _ (by rw[h.jL]; simp)]; exact h.jL
  · rw[keep _ (by rw[h.seen]; simp)]; exact h.seen
  · exact (h.set j hj).fresh hb
  · rw[keep _ (by rw[(h.map j hj).1]; simp)]; exact h.map j hj
  · rcases List.mem_cons.1 hq with rfl | hq
    · refine ⟨by simp[View.set],ho,live (by rw[h.jL]; simp),fun j hj=>live (by rw[(h.map j hj).1]; simp),fun j hj=>?_⟩
      have:=(h.set j hj).ne hb
      exact this
    · obtain ⟨h1,h2,h3⟩:=h.off q hq
      exact ⟨by rw[keep _ (by rw[h1]; exact h2)]; exact h1,h2,h3⟩
theorem Ch.new {H:View} {c:Nat} {g:ao} {p:List Int} {nu:V} {S:Nat→List Item} {B n b:Nat} {o:bM} {K:List (Nat × bM)} (h:Ch H c g p nu S B n K) (hb:H b=.dead) (ho:o≠.dead):Ch (H.set b o) c g p nu S B n ((b,o) :: K):=by
  obtain ⟨sid,mid,sv,mi,mm,cl,h⟩:=h
  exact ⟨sid,mid,sv,mi,mm,cl,h.new hb ho⟩
theorem Ch.kept {H:View} {c:Nat} {g:ao} {p:List Int} {nu:V} {S:Nat→List Item} {B n:Nat} {K:List (Nat × bM)} (h:Ch H c g p nu S B n K):∀ q∈K,H q.1=q.2:=by
  obtain ⟨sid,mid,sv,mi,mm,cl,h⟩:=h
  exact fun q hq=>(h.off q hq).1
theorem qU.Q5 {H H':View} {c sid mid:Nat} {sv:Nat→V} {mi:Nat→Nat} {mm:Nat→cm Item} {cl:Nat→Nat} {g:ao} {p:List Int} {nu:V} {S S1:Nat→List Item} {B n:Nat} {K:List (Nat × bM)} (h:qU H c sid mid sv mi mm cl g p nu S S1 B n K)
    {at0:Nat} (ha:at0 < n) {x:Item} (hx:¬ x∈S at0) {u':V} (ho:aQ H' u' 3 ((S at0).map uX ++ [uX x])) (hl:Left H H' (sv at0) u') :
    qU (H'.set sid (.arr 1 (((List.range n).map fun j=>[sv j]).set at0 [u']))) c sid mid (fun j=>if j=at0 then u' else sv j) mi mm cl g p nu (wm S at0 x) S1 B n K:=by
  have own:∀ {id},owner (sv at0)=some id→H id=.arr 3 ((S at0).map uX):=fun hid=>((h.set at0 ha).live hid).1
  have n1:owner (sv at0)≠some sid:=fun e=>by
    have:=own e
    rw[h.jL] at this; simp at this
  have keep:∀ id,H id≠.dead→owner (sv at0)≠some id→H' id=H id∧owner u'≠some id:=hl
  have ns:=keep sid (by rw[h.jL]; simp) n1
  have keep2:∀ id,H id≠.dead→owner (sv at0)≠some id→id≠sid→(H'.set sid (.arr 1 (((List.range n).map fun j=>[sv j]).set at0 [u']))) id=H id:=fun id h1 h2 h3=>by
    simp only[View.set,if_neg h3]; exact (keep id h1 h2).1
  have no3:∀ {id o},H id=o→o≠.arr 3 ((S at0).map uX)→owner (sv at0)≠some id:=fun h1 h2 e=>h2 (by rw[← h1]; exact own e)
  refine ⟨?_,?_,?_,fun j hj=>?_,fun j hj=>?_,h.ne,fun i j o hi hj h1 h2=>?_,h.Ix,fun q hq=>?_⟩
  · rw[keep2 c (by rw[h.box]; simp) (no3 h.box (by simp)) (by rintro rfl; have:=h.box; rw[h.jL] at this; simp at this)]; exact h.box
  · simp only[View.set,if_true]
    congr 1
    rw[GP]
    apply List.map_congr_left
    intro j _
    split <;> rfl
  · rw[keep2 mid (by rw[h.seen]; simp) (no3 h.seen (by simp)) h.ne.symm]; exact h.seen
  · by_cases e:j=at0
    · subst e
      simp only[if_true,wm,if_neg hx,List.map_append,List.map_cons,List.map_nil]
      exact ho.other ns.2
    · simp only[if_neg e,wm]
      refine (h.set j hj).keep fun id hid=>?_
      have hlv:=((h.set j hj).live hid).1
      refine keep2 id (by rw[hlv]; simp) (fun e2=>e (h.za j at0 id hj ha hid e2)) ?_
      rintro rfl; rw[h.jL] at hlv; simp at hlv
  · obtain ⟨g1,g2,g3⟩:=h.map j hj
    refine ⟨?_,g2,g3⟩
    rw[keep2 (mi j) (by rw[g1]; simp) (no3 g1 (by simp)) (by intro e; rw[e,h.jL] at g1; simp at g1)]; exact g1
  · by_cases e1:i=at0
    · by_cases e2:j=at0
      · omega
      · simp only[if_pos e1,if_neg e2] at h1 h2
        exfalso
        have hlv:=((h.set j hj).live h2).1
        exact (keep o (by rw[hlv]; simp) (fun e3=>e2 (h.za j at0 o hj ha h2 e3))).2 h1
    · by_cases e2:j=at0
      · simp only[if_neg e1,if_pos e2] at h1 h2
        exfalso
        have hlv:=((h.set i hi).live h1).1
        exact (keep o (by rw[hlv]; simp) (fun e3=>e1 (h.za i at0 o hi ha h1 e3))).2 h2
      · simp only[if_neg e1,if_neg e2] at h1 h2
        exact h.za i j o hi hj h1 h2
  · obtain ⟨h1,h2,h3,h4,h5⟩:=h.off q hq
    refine ⟨?_,h2,h3,h4,fun j hj=>?_⟩
    · rw[keep2 q.1 (by rw[h1]; exact h2) (h5 at0 ha) h3]; exact h1
    · by_cases e:j=at0
      · simp only[if_pos e]; exact (keep q.1 (by rw[h1]; exact h2) (h5 at0 ha)).2
      · simp only[if_neg e]; exact h5 j hj
inductive Fq (g:ao) (p:List Int):Int→Nat→Prop
  | start:Fq g p g.start 0
  | step (R:aT) (l1 l2:List Int) (n:Int) (f a:Nat):R∈g.rules→R.right=l1 ++ (-1 - n) :: l2→Fq g p R.left f→Sp g p l1 f a→Fq g p n a
def Jf (g:ao) (p:List Int) (x:Item):Prop:=∃ R,g.rules[x.aH]?=some R∧Fq g p R.left x.ln
inductive D4 (g:ao) (p:List Int):Int→Nat→Prop
  | full (R:aT) (l1 l2:List Int) (f:Nat):R∈g.rules→R.right=l1 ++ l2→Sp g p l1 f p.length→D4 g p R.left f
  | deep (R:aT) (l1 l2:List Int) (s:Int) (f a:Nat):R∈g.rules→R.right=l1 ++ s :: l2→s < 0→Sp g p l1 f a→a < p.length→D4 g p (-1 - s) a→D4 g p R.left f
theorem Fq.len {g:ao} {p:List Int} {n:Int} {a:Nat} (h:Fq g p n a):a≤p.length:=by
  induction h with
  | start=>omega
  | step _ _ _ _ _ _ _ _ _ hs ih=>exact hs.len ih
theorem Ot {l:List Int} {d:Nat} {s:Int} (h:l[d]?=some s):l=l.take d ++ s :: l.drop (d+1):=by
  have h1:=(List.getElem?_eq_some_iff.1 h)
  obtain ⟨hl,he⟩:=h1
  rw[← he]
  simp
theorem Jf.ask {g:ao} {p:List Int} {a:Nat} {x:Item} (h:Jf g p x) (hs:Sound g p a x) {R:aT} (hR:g.rules[x.aH]?=some R) {s:Int} (hd:R.right[x.dot]?=some s):Fq g p (-1 - s) a:=by
  obtain ⟨R1,h1,h2⟩:=h
  obtain ⟨R2,h3,_,_,h4⟩:=hs
  rw[hR] at h1 h3; simp at h1 h3; subst h1; subst h3
  refine .step R (R.right.take x.dot) (R.right.drop (x.dot+1)) (-1 - s) x.ln a (List.mem_of_getElem? hR) ?_ h2 h4
  rw[show -1 - (-1 - s)=s by omega]
  exact Ot hd
theorem Sp.cut {g:ao} {p:List Int} {k:Nat} {l:List Int} {i j:Nat} (h:Sp g p l i j):j≤k→Sp g (p.take k) l i j:=by
  induction h with
  | nil i=>exact fun _=>.nil i
  | term s l i j h0 hf h ih =>
    intro hk
    have:=h.le
    obtain ⟨c,hc,h2⟩:=hf
    exact .term s l i j h0 ⟨c,by rw[List.getElem?_take,if_pos (by omega)]; exact hc,h2⟩ (ih hk)
  | ec s l R i m j h0 hR hl h1 h2 ih1 ih2 =>
    intro hk
    have:=h2.le
    exact .ec s l R i m j h0 hR hl (ih1 (by omega)) (ih2 hk)
def Grow (a:Nat) (S S':Nat→List Item):Prop:=∀ b,S b <+: S' b∧(b < a→S' b=S b)
structure Good (g:ao) (p:List Int) (S:Nat→List Item):Prop where
  nodup:∀ a,(S a).Nodup
  sound:∀ a x,x∈S a→Sound g p a x
  top:∀ a x,x∈S a→Jf g p x
  out:∀ a,p.length < a→S a=[]
theorem Grow.refl (a:Nat) (S:Nat→List Item):Grow a S S:=fun _=>⟨List.prefix_refl _,fun _=>rfl⟩
theorem Grow.trans {a:Nat} {S S' S'':Nat→List Item} (h:Grow a S S') (h':Grow a S' S''):Grow a S S'':=fun b=>⟨(h b).1.trans (h' b).1,fun hb=>((h' b).2 hb).trans ((h b).2 hb)⟩
theorem Grow.mem {a b:Nat} {S S':Nat→List Item} (h:Grow a S S') {x:Item} (hx:x∈S b):x∈S' b:=(h b).1.subset hx
theorem Good.put {g:ao} {p:List Int} {S:Nat→List Item} (h:Good g p S) {a:Nat} {x:Item} (hx:Sound g p a x) (ht:Jf g p x) (ha:a≤p.length):Good g p (wm S a x):=by
  refine ⟨fun b=>?_,fun b y hy=>?_,fun b y hy=>?_,fun b hb=>?_⟩
  · unfold wm
    split
    · rename_i e
      subst e
      split
      · exact h.nodup _
      · rename_i hn
        rw[List.nodup_append]
        refine ⟨h.nodup _,by simp,fun u hu v hv=>?_⟩
        simp at hv
        rintro rfl
        exact hn (hv ▸ hu)
    · exact h.nodup _
  · unfold wm at hy
    split at hy
    · rename_i e
      subst e
      split at hy
      · exact h.sound _ _ hy
      · rcases List.mem_append.1 hy with hy | hy
        · exact h.sound _ _ hy
        · simp at hy; subst hy; exact hx
    · exact h.sound _ _ hy
  · unfold wm at hy
    split at hy
    · rename_i e
      subst e
      split at hy
      · exact h.top _ _ hy
      · rcases List.mem_append.1 hy with hy | hy
        · exact h.top _ _ hy
        · simp at hy; subst hy; exact ht
    · exact h.top _ _ hy
  · unfold wm
    rw[if_neg (by omega)]
    exact h.out b hb
theorem sm:∀ (N:Nat) (l:List Nat),l.Nodup→(∀ x∈l,x < N)→l.length≤N
  | 0,l,_,h=>by
    cases l with
    | nil=>simp
    | cons x l=>exact absurd (h x (by simp)) (by omega)
  | N+1,l,hd,h=>by
    by_cases e:N∈l
    · have h1:=sm N (l.erase N) (hd.erase N) fun x hx=>by
        have h2:=(hd.mem_erase_iff).1 hx
        have:=h x h2.2
        have:=h2.1
        omega
      rw[List.length_erase_of_mem e] at h1
      omega
    · have:=sm N l hd fun x hx=>by
        have:=h x hx
        have:x≠N:=by rintro rfl; exact e hx
        omega
      omega
theorem Cm {α:Type} {f:α→Nat} : ∀ {l:List α},l.Nodup→(∀ x∈l,∀ y∈l,f x=f y→x=y)→(l.map f).Nodup
  | [],_,_=>by simp
  | x :: l,hd,h=>by
    rw[List.nodup_cons] at hd
    rw[List.map_cons,List.nodup_cons]
    refine ⟨fun hm=>?_,Cm hd.2 fun a ha b hb=>h a (by simp[ha]) b (by simp[hb])⟩
    obtain ⟨y,hy,e⟩:=List.mem_map.1 hm
    have:=h y (by simp[hy]) x (by simp) e
    exact hd.1 (this ▸ hy)
theorem Sound.small {g:ao} (hf:g.dH) {p:List Int} {a:Nat} {x:Item} (h:Sound g p a x):x.aH < 40∧x.dot < 7∧x.ln≤a:=by
  obtain ⟨R,hR,hd,hfr,_⟩:=h
  have h1:=(List.getElem?_eq_some_iff.1 hR).1
  have h2:=hf.rules
  have h3:=hf.right R (List.mem_of_getElem? hR)
  omega
theorem Good.len {g:ao} (hf:g.dH) {p:List Int} (hp:p.length≤60) {S:Nat→List Item} (h:Good g p S) (a:Nat):(S a).length≤17080:=by
  by_cases ha:p.length < a
  · rw[h.out a ha]; simp
  · have hb:∀ x∈S a,x.aH < 40∧x.dot < 7∧x.ln < 61:=fun x hx=>by
      have:=(h.sound a x hx).small hf
      omega
    have:=sm 17080 ((S a).map fun x=>x.aH * 427+x.dot * 61+x.ln) (Cm (h.nodup a) fun x hx y hy e=>by
      have h1:=hb x hx
      have h2:=hb y hy
      cases x; cases y
      simp only at e h1 h2
      simp only[Item.mk.injEq]
      omega) (fun v hv=>by
      obtain ⟨x,hx,rfl⟩:=List.mem_map.1 hv
      have:=hb x hx
      omega)
    simpa using this
theorem Ch.box {H:View} {c:Nat} {g:ao} {p:List Int} {nu:V} {S:Nat→List Item} {B n:Nat} {K:List (Nat × bM)} (h:Ch H c g p nu S B n K) :
    ∃ sid mid,H c=.arr 8 [[.aZ (g.az.map cE),encS g.ay,.aZ (g.rules.map ba),gi g.start,encI p,nu,.sl sid 0 n 1,.sl mid 0 n 1]]:=by
  obtain ⟨sid,mid,sv,mi,mm,cl,h⟩:=h
  exact ⟨sid,mid,h.box⟩
theorem Ch.set {H:View} {c:Nat} {g:ao} {p:List Int} {nu:V} {S:Nat→List Item} {B n:Nat} {K:List (Nat × bM)} (h:Ch H c g p nu S B n K) {a:Nat} (ha:a < n) :
    ∃ (sid mid:Nat) (sv:Nat→V),H c=.arr 8 [[.aZ (g.az.map cE),encS g.ay,.aZ (g.rules.map ba),gi g.start,encI p,nu,.sl sid 0 n 1,.sl mid 0 n 1]]∧H sid=.arr 1 ((List.range n).map fun j=>[sv j])∧aQ H (sv a) 3 ((S a).map uX):=by
  obtain ⟨sid,mid,sv,mi,mm,cl,h⟩:=h
  exact ⟨sid,mid,sv,h.box,h.jL,h.set a ha⟩
def QJ (g:ao) (ec:Int) (S:Nat→List Item) (at_:Nat) (x:Item):Prop:=∀ R,g.rules[x.aH]?=some R→R.right[x.dot]?=some (-1 - ec)→(⟨x.aH,x.dot+1,x.ln⟩:Item)∈S at_
theorem Sound.on {g:ao} {p:List Int} {f a:Nat} {x:Item} (h:Sound g p f x) {R:aT} (hR:g.rules[x.aH]?=some R) {s:Int} (hs:R.right[x.dot]?=some s) (hsp:Sp g p [s] f a):Sound g p a ⟨x.aH,x.dot+1,x.ln⟩:=by
  obtain ⟨R',hR',h1,h2,h3⟩:=h
  rw[hR] at hR'; simp at hR'; subst hR'
  have hlt:=(List.getElem?_eq_some_iff.1 hs).1
  refine ⟨R,hR,hlt,Nat.le_trans h2 hsp.le,?_⟩
  have:R.right.take (x.dot+1)=R.right.take x.dot ++ [s]:=by rw[List.take_add_one,hs]; rfl
  rw[this]
  exact h3.app hsp
structure MV (g:ao) (p:List Int) (S:Nat→List Item) (a:Nat) (x:Item):Prop where
  term:∀ R s,g.rules[x.aH]?=some R→R.right[x.dot]?=some s→0≤s→pa p a s→(⟨x.aH,x.dot+1,x.ln⟩:Item)∈S (a+1)
  pred:∀ R s i R',g.rules[x.aH]?=some R→R.right[x.dot]?=some s→s < 0→g.rules[i]?=some R'→R'.left = -1 - s→(⟨i,0,a⟩:Item)∈S a
  null:∀ R s,g.rules[x.aH]?=some R→R.right[x.dot]?=some s→s < 0→(aM g false).getD (-1 - s).toNat false=true→(⟨x.aH,x.dot+1,x.ln⟩:Item)∈S a
  comp:∀ R,g.rules[x.aH]?=some R→x.dot=R.right.length→x.ln < a→∀ y∈S x.ln,QJ g R.left S a y
theorem MV.grow {g:ao} {p:List Int} {S S':Nat→List Item} {a:Nat} {x:Item} (h:MV g p S a x) (hg:Grow a S S'):MV g p S' a x where
  term:=fun R s h1 h2 h3 h4=>hg.mem (h.term R s h1 h2 h3 h4)
  pred:=fun R s i R' h1 h2 h3 h4 h5=>hg.mem (h.pred R s i R' h1 h2 h3 h4 h5)
  null:=fun R s h1 h2 h3 h4=>hg.mem (h.null R s h1 h2 h3 h4)
  comp:=fun R h1 h2 h3 y hy R' h4 h5=>hg.mem (h.comp R h1 h2 h3 y (by rw[(hg x.ln).2 h3] at hy; exact hy) R' h4 h5)
structure vd (H:View) (c sid:Nat) (u:V) (mi:Nat→Nat) (g:ao) (p:List Int) (nu:V) (n k:Nat):Prop where
  box:H c=.arr 8 [[.aZ (g.az.map cE),encS g.ay,.aZ (g.rules.map ba),gi g.start,encI p,nu,.sl sid 0 n 1,u]]
  jL:H sid=.arr 1 ((List.range n).map fun _=>[.emp 1])
  seen:aQ H u 1 ((List.range k).map fun j=>[.mp (mi j)])
  map:∀ j,j < k→H (mi j)=.map [] 0
  inj:∀ i j,i < k→j < k→mi i=mi j→i=j
theorem vd.OQ {H:View} {c sid:Nat} {u:V} {mi:Nat→Nat} {g:ao} {p:List Int} {nu:V} {n k:Nat} (h:vd H c sid u mi g p nu n k) (hn:0 < n):owner u≠some sid:=fun e=>by
  have h1:=(h.seen.live e).1
  rw[h.jL] at h1
  simp only[bM.arr.injEq,true_and] at h1
  have h2:=congrArg (·[0]?) h1
  simp[hn] at h2
  by_cases hk:0 < k
  · simp[hk] at h2
  · have:k=0:=by omega
    subst this
    simp at h2
theorem vd.QB {H:View} {c sid:Nat} {u:V} {mi:Nat→Nat} {g:ao} {p:List Int} {nu:V} {n k:Nat} (h:vd H c sid u mi g p nu n k):owner u≠some c:=fun e=>by
  have h1:=(h.seen.live e).1
  rw[h.box] at h1
  simp at h1
theorem vd.Q7 {H:View} {c sid:Nat} {u:V} {mi:Nat→Nat} {g:ao} {p:List Int} {nu:V} {n:Nat} (h:vd H c sid u mi g p nu n n) (hn:0 < n):Ch H c g p nu (fun _=>[]) 0 n []:=by
  obtain ⟨mid,hu,hm⟩:=h.seen.sl (by simp; omega)
  have hoff:=h.OQ hn
  refine ⟨sid,mid,fun _=>.emp 1,mi,fun _=>[],fun _=>0,?_,h.jL,hm,fun j hj=>aQ.nil,fun j hj=>⟨h.map j hj,?_,fun x=>⟨fun hx=>by simp at hx,fun _=>rfl⟩⟩,?_,fun i j o _ _ h1=>by simp[owner] at h1,fun i j hi hj e=>h.inj i j hi hj e,fun q hq=>by simp at hq⟩
  · have:=h.box
    rw[hu] at this
    simpa using this
  · exact ⟨by simp,fun x hx=>by simp at hx⟩
  · rintro rfl
    rw[hu] at hoff
    exact hoff rfl
theorem vd.next {H H2:View} {c sid m:Nat} {u u':V} {mi:Nat→Nat} {g:ao} {p:List Int} {nu:V} {n k:Nat} (h:vd H c sid u mi g p nu n k) (hn:0 < n) (hm:H m=.dead) (ho:aQ H2 u' 1 (((List.range k).map fun j=>[.mp (mi j)]) ++ [[.mp m]])) (hm2:H2 m=.map [] 0)
    (hl:∀ id,H id≠.dead→owner u≠some id→H2 id=H id∧owner u'≠some id) :
    vd (H2.set c (.arr 8 [[.aZ (g.az.map cE),encS g.ay,.aZ (g.rules.map ba),gi g.start,encI p,nu,.sl sid 0 n 1,u']])) c sid u' (fun j=>if j=k then m else mi j) g p nu n (k+1):=by
  have hC:=hl c (by rw[h.box]; simp) h.QB
  have hS:=hl sid (by rw[h.jL]; simp) (h.OQ hn)
  have hcs:sid≠c:=by rintro rfl; have:=h.box; rw[h.jL] at this; simp at this
  have hmn:∀ j,j < k→mi j≠m:=fun j hj e=>by have:=h.map j hj; rw[e,hm] at this; simp at this
  refine ⟨by simp[View.set],?_,?_,fun j hj=>?_,fun i j hi hj e=>?_⟩
  · simp only[View.set,if_neg hcs]
    rw[hS.1]; exact h.jL
  · refine aQ.other ?_ hC.2
    have:(List.range (k+1)).map (fun j=>[V.mp (if j=k then m else mi j)])=(List.range k).map (fun j=>[V.mp (mi j)]) ++ [[.mp m]]:=by
      rw[List.range_succ,List.map_append,List.map_cons,List.map_nil,if_pos rfl]
      congr 1
      apply List.map_congr_left
      intro j hj
      rw[if_neg (by have:=List.mem_range.1 hj; omega)]
    rw[this]; exact ho
  · by_cases e:j=k
    · simp only[if_pos e]
      have:m≠c:=by rintro rfl; rw[h.box] at hm; simp at hm
      simp only[View.set,if_neg this]
      exact hm2
    · simp only[if_neg e]
      have h1:=h.map j (by omega)
      have:mi j≠c:=by intro e2; rw[e2,h.box] at h1; simp at h1
      simp only[View.set,if_neg this]
      rw[(hl (mi j) (by rw[h1]; simp) (fun e2=>by have:=(h.seen.live e2).1; rw[h1] at this; simp at this)).1]
      exact h1
  · by_cases e1:i=k
    · by_cases e2:j=k
      · omega
      · simp only[if_pos e1,if_neg e2] at e
        exact absurd e.symm (hmn j (by omega))
    · by_cases e2:j=k
      · simp only[if_neg e1,if_pos e2] at e
        exact absurd e (hmn i (by omega))
      · simp only[if_neg e1,if_neg e2] at e
        exact h.inj i j (by omega) (by omega) e
def Kept (H H':View):Prop:=∀ id,H id≠.dead→H' id=H id
theorem Kept.refl (H:View):Kept H H:=fun _ _=>rfl
theorem Kept.trans {H H' H'':View} (h:Kept H H') (h':Kept H' H''):Kept H H'':=fun id hid=>by
  have h1:=h id hid
  rw[← h1] at hid
  rw[h' id hid,h1]
theorem Kept.new {H:View} {b:Nat} {o:bM} (hb:H b=.dead):Kept H (H.set b o):=fun id hid=>by
  have:id≠b:=by rintro rfl; exact hid hb
  simp[View.set,this]
def L9 (H:View) (c:Nat) (g:ao) (p:List Int):Prop:=∃ nu sid mid n,H c=.arr 8 [[.aZ (g.az.map cE),encS g.ay,.aZ (g.rules.map ba),gi g.start,encI p,nu,.sl sid 0 n 1,.sl mid 0 n 1]]
theorem L9.keep {H H':View} {c:Nat} {g:ao} {p:List Int} (h:L9 H c g p) (hs:Kept H H'):L9 H' c g p:=by
  obtain ⟨nu,sid,mid,n,h⟩:=h
  exact ⟨nu,sid,mid,n,by rw[hs c (by rw[h]; simp)]; exact h⟩
abbrev Pt:=List (List Bool)
def EB (P:Pt) (N M:Nat):Prop:=P.length=N∧∀ r∈P,r.length=M
def PC (P:Pt):V:=.aZ (P.map fun c=>[bO c])
theorem EB.row {P:Pt} {N M n:Nat} (h:EB P N M) (hn:n < N):∃ r,P[n]?=some r∧r.length=M∧P.getD n []=r:=by
  have hl:n < P.length:=by rw[h.1]; exact hn
  exact ⟨P[n],List.getElem?_eq_getElem hl,h.2 _ (List.getElem_mem hl),by simp[List.getD_eq_getElem?_getD,hl]⟩
structure mJ (H:View) (I N M:Nat) (R:Nat→Nat) (P:Pt):Prop where
  top:H I=.arr 1 ((List.range N).map fun n=>[.sl (R n) 0 M 1])
  row:∀ n,n < N→H (R n)=.arr 1 (ct (P.getD n []))
  inj:∀ n n',n < N→n' < N→R n=R n'→n=n'
structure Fa (H:View) (I N M k:Nat) (R:Nat→Nat):Prop where
  top:H I=.arr 1 ((List.range N).map fun n=>[if n < k then .sl (R n) 0 M 1 else .emp 1])
  row:∀ n,n < k→H (R n)=.arr 1 (List.replicate M [gb false])
  inj:∀ n n',n < k→n' < k→R n=R n'→n=n'
def O2 (N M:Nat):Pt:=List.replicate N (List.replicate M false)
def I9 (P:Pt) (n i:Nat):Pt:=P.set n ((P.getD n []).set i true)
theorem mJ.P9 {H:View} {I N M:Nat} {R:Nat→Nat} {P:Pt} (h:mJ H I N M R P) (hP:EB P N M) (hM:0 < M) {n:Nat} (hn:n < N):I≠R n:=fun e=>by
  have h1:=h.row n hn
  obtain ⟨r,_,h2,h3⟩:=hP.row hn
  rw[← e,h.top,h3] at h1
  simp only[bM.arr.injEq,true_and] at h1
  exact yY (by omega) h1.symm fun _ _=>by simp
theorem mJ.keep {H H':View} {I N M:Nat} {R:Nat→Nat} {P:Pt} (h:mJ H I N M R P) (hk:∀ id,H id≠.dead→H' id=H id):mJ H' I N M R P :=
  ⟨by rw[hk _ (by rw[h.top]; simp)]; exact h.top,fun n hn=>by rw[hk _ (by rw[h.row n hn]; simp)]; exact h.row n hn,h.inj⟩
theorem mJ.put {H:View} {I N M:Nat} {R:Nat→Nat} {P:Pt} (h:mJ H I N M R P) (hP:EB P N M) {n i:Nat} (hn:n < N) (hi:i < M) :
    mJ (H.set (R n) (.arr 1 (ct ((P.getD n []).set i true)))) I N M R (I9 P n i):=by
  have hI:=h.P9 hP (by omega) hn
  have hnl:n < P.length:=by rw[hP.1]; exact hn
  refine ⟨by simp only[View.set,if_neg hI]; exact h.top,fun m hm=>?_,h.inj⟩
  by_cases e:R m=R n
  · have:=h.inj m n hm hn e
    subst this
    simp only[View.set,if_true]
    congr 2
    simp[I9,List.getD_eq_getElem?_getD,hnl]
  · simp only[View.set,if_neg e]
    rw[h.row m hm]
    congr 2
    have:n≠m:=fun e2=>e (by rw[e2])
    simp[I9,List.getD_eq_getElem?_getD,List.getElem?_set,this]
theorem mJ.Ih {H:View} {I N M:Nat} {R:Nat→Nat} {P:Pt} (hG:mJ H I N M R P) (hP:EB P N M):dD H (.sl I 0 N 1) (PC P):=by
  rintro h rfl
  refine dN.Pq ?_
  refine .sl I 0 N 1 1 _ _ hG.top (by simp) (by simp[hP.1]) (fun n hn=>?_) (fun n j hn hj=>?_)
  · obtain ⟨r,hr,_⟩:=hP.row hn
    simp[List.getD_eq_getElem?_getD,hr,hn]
  · obtain ⟨r,hr,hrl,hrg⟩:=hP.row hn
    have e1:((P.map fun c=>[bO c]).getD n [])=[bO r]:=by simp[List.getD_eq_getElem?_getD,hr]
    have e2:(((List.range N).map fun n=>[V.sl (R n) 0 M 1]).getD (0+n) [])=[V.sl (R n) 0 M 1]:=by simp[List.getD_eq_getElem?_getD,hn]
    rw[e1] at hj ⊢
    rw[e2]
    have:j=0:=by simp at hj; omega
    subst this
    simp only[List.getD_cons_zero]
    have hro:=hG.row n hn
    rw[hrg] at hro
    have:=oJ (h:=h) (id:=R n) (is:=r) hro
    rwa [hrl] at this
theorem Fa.done {H:View} {I N M:Nat} {R:Nat→Nat} (h:Fa H I N M N R):mJ H I N M R (O2 N M):=by
  refine ⟨?_,fun n hn=>?_,h.inj⟩
  · rw[h.top]
    congr 1
    apply List.map_congr_left
    intro n hn
    rw[if_pos (by simpa using hn)]
  · rw[h.row n hn]
    simp[O2,List.getD_eq_getElem?_getD,hn]
theorem Fa.next {H:View} {I N M k:Nat} {R:Nat→Nat} {r:Nat} (h:Fa H I N M k R) (hk:k < N) (hr:H r=.dead) :
    Fa ((H.set r (.arr 1 (List.replicate M [gb false]))).set I (.arr 1 ((List.range N).map fun n=>[if n < k+1 then .sl (if n=k then r else R n) 0 M 1 else .emp 1]))) I N M (k+1) (fun n=>if n=k then r else R n):=by
  have hI:r≠I:=by rintro rfl; rw[h.top] at hr; simp at hr
  have hRI:∀ n,n < k→R n≠I:=fun n hn e=>by
    have h1:=h.row n hn
    rw[e,h.top] at h1
    simp only[bM.arr.injEq,true_and] at h1
    have h2:=congrArg (·[0]?) h1
    simp only[List.getElem?_map,List.getElem?_range (show 0 < N by omega),List.getElem?_replicate] at h2
    split at h2 <;> simp at h2
    split at h2 <;> simp at h2
  have hRr:∀ n,n < k→R n≠r:=fun n hn e=>by have:=h.row n hn; rw[e,hr] at this; simp at this
  refine ⟨by simp[View.set],fun n hn=>?_,fun n n' hn hn' e=>?_⟩
  · by_cases e:n=k
    · simp only[if_pos e,View.set,if_neg hI,if_true]
    · simp only[if_neg e,View.set,if_neg (hRI n (by omega)),if_neg (hRr n (by omega))]
      exact h.row n (by omega)
  · by_cases e1:n=k
    · by_cases e2:n'=k
      · omega
      · simp only[if_pos e1,if_neg e2] at e
        exact absurd e.symm (hRr n' (by omega))
    · by_cases e2:n'=k
      · simp only[if_neg e1,if_pos e2] at e
        exact absurd e (hRr n (by omega))
      · simp only[if_neg e1,if_neg e2] at e
        exact h.inj n n' (by omega) (by omega) e
def Nr:List Int:=[37,37,32,115,32,58,32,39,97,39,32,115,32,124,32,59]
def nV:ao:=⟨[⟨⟨#[39,97,39]⟩,0,0⟩],[⟨#[115]⟩],[⟨0,[0,(-1)],0⟩,⟨0,[],(-1)⟩],0⟩
def Nj:ao:=⟨[⟨⟨#[39,97,39]⟩,0,0⟩,⟨⟨#[39,98,39]⟩,0,0⟩],[⟨#[115]⟩,⟨#[110]⟩],[⟨0,[(-1),(-1)],(-1)⟩,⟨0,[(-2),0,(-2),1],1⟩,⟨0,[],(-1)⟩,⟨1,[(-2)],(-1)⟩,⟨1,[],(-1)⟩],0⟩
theorem PG:dE Tryz.prog 49 [EY Nr] (xX nV):=NZ (by kernel_rfl)
section
variable {g:ao} {p:List Int} {T:Tb} {N:Nat}
end
theorem n6 (p:List Int) (i:Nat):Sp Nj p [-2] i i:=.ec (-2) [] ⟨1,[],-1⟩ i i i (by decide) (by simp[Nj]) (by decide) (.nil i) (.nil i)
theorem NQ {g:ao} (hr:bK g=true) {p l:List Int} {i j:Nat} (h:Sp g p l i j):dP l (aM g true) true=true:=by
  induction h with
  | nil=>rfl
  | term s l i j h0 _ _ ih =>
    simp only[dP,List.all_cons,Bool.and_eq_true] at ih ⊢
    rw[if_pos h0]
    exact ⟨rfl,ih⟩
  | ec s l R i k j h0 hR hl _ _ ih1 ih2 =>
    have g1:=qL hr hR ih1
    rw[hl] at g1
    simp only[dP,List.all_cons,Bool.and_eq_true] at ih2 ⊢
    rw[if_neg (by omega)]
    exact ⟨g1,ih2⟩
section
variable {g r:ao} {p q:List Bool} {o:List Int}
theorem er.sp (h:er g p q o r) {w l:List Int} {i j:Nat} (hs:Sp g w l i j):(∀ s∈l,s < 0→-1 - s∈o)→Sp r w (l.map fun s=>if s < 0 then -1 - bp o (-1 - s) else s) i j:=by
  induction hs with
  | nil=>exact fun _=>.nil _
  | term s l i j h0 hf _ ih =>
    intro hl
    rw[List.map_cons,if_neg (by omega)]
    exact .term s _ i j h0 hf (ih fun s hs=>hl s (by simp[hs]))
  | ec s l R i k j h0 hR hle h1 _ ih1 ih2 =>
    intro hl
    have hso:=hl s (by simp) h0
    obtain ⟨R1,hR1,hk1,e1⟩:=h.from_ _ hso
    have hk:bE p q R=true:=by
      rw[bE,Bool.and_eq_true] at hk1 ⊢
      refine ⟨by rw[hle,← e1]; exact hk1.1,?_⟩
      rw[h.pe]
      exact NQ h.right h1
    have hin:=(h.kept R hR hk).2
    have hm:bk (bp o) R∈r.rules:=by rw[h.rules]; exact List.mem_map.2 ⟨R,List.mem_filter.2 ⟨hR,hk⟩,rfl⟩
    have hb:=jZ hso
    rw[List.map_cons,if_pos h0]
    exact .ec _ _ (bk (bp o) R) i k j (by omega) hm (by simp only[bk]; rw[hle]; omega) (ih1 hin) (ih2 fun s hs=>hl s (by simp[hs]))
end
theorem KE {g:ao} {p:List Int} {k:Nat} (hk:k≤p.length) {l:List Int} {i j:Nat} (h:Sp g p l i j):i≤k→k≤j →
    (∃ l1 l2,l=l1 ++ l2∧Sp g (p.take k) l1 i k)∨(∃ l1 s l2 a,l=l1 ++ s :: l2∧s < 0∧Sp g (p.take k) l1 i a∧a < k∧D4 g (p.take k) (-1 - s) a):=by
  induction h with
  | nil i =>
    intro h1 h2
    have:i=k:=by omega
    subst this
    exact .inl ⟨[],[],rfl,.nil _⟩
  | term s l i j h0 hf hs ih =>
    intro h1 h2
    by_cases e:i=k
    · subst e; exact .inl ⟨[],s :: l,rfl,.nil _⟩
    · have hf':pa (p.take k) i s:=by
        obtain ⟨c,hc,h3⟩:=hf
        exact ⟨c,by rw[List.getElem?_take,if_pos (by omega)]; exact hc,h3⟩
      rcases ih (by omega) h2 with ⟨l1,l2,e2,h3⟩ | ⟨l1,s',l2,a,e2,h3,h4,h5,h6⟩
      · exact .inl ⟨s :: l1,l2,by rw[e2]; rfl,.term s l1 i k h0 hf' h3⟩
      · exact .inr ⟨s :: l1,s',l2,a,by rw[e2]; rfl,h3,.term s l1 i a h0 hf' h4,h5,h6⟩
  | ec s l R i m j h0 hR hl hs1 hs2 ih1 ih2 =>
    intro h1 h2
    by_cases e:i=k
    · subst e; exact .inl ⟨[],s :: l,rfl,.nil _⟩
    · by_cases hm:m≤k
      · have c1:=hs1.cut (k:=k) hm
        rcases ih2 hm h2 with ⟨l1,l2,e2,h3⟩ | ⟨l1,s',l2,a,e2,h3,h4,h5,h6⟩
        · exact .inl ⟨s :: l1,l2,by rw[e2]; rfl,.ec s l1 R i m k h0 hR hl c1 h3⟩
        · exact .inr ⟨s :: l1,s',l2,a,by rw[e2]; rfl,h3,.ec s l1 R i m a h0 hR hl c1 h4,h5,h6⟩
      · have hlen:(p.take k).length=k:=by simp; omega
        refine .inr ⟨[],s,l,i,rfl,h0,.nil _,by omega,?_⟩
        rw[← hl]
        rcases ih1 h1 (by omega) with ⟨l1,l2,e2,h3⟩ | ⟨l1,s',l2,a,e2,h3,h4,h5,h6⟩
        · exact .full R l1 l2 i hR e2 (by rw[hlen]; exact h3)
        · exact .deep R l1 l2 s' i a hR e2 h3 h4 (by rw[hlen]; exact h5) h6
theorem D4.cut {g:ao} {p:List Int} {k:Nat} (hk:k≤p.length) {n:Int} {f:Nat} (h:D4 g p n f):f≤k→D4 g (p.take k) n f:=by
  have hlen:(p.take k).length=k:=by simp; omega
  induction h with
  | full R l1 l2 f hR e hs =>
    intro hf
    rcases KE hk hs hf hk with ⟨a1,a2,e2,h3⟩ | ⟨a1,s',a2,a,e2,h3,h4,h5,h6⟩
    · exact .full R a1 (a2 ++ l2) f hR (by rw[e,e2]; simp) (by rw[hlen]; exact h3)
    · exact .deep R a1 (a2 ++ l2) s' f a hR (by rw[e,e2]; simp) h3 h4 (by rw[hlen]; exact h5) h6
  | deep R l1 l2 s f a hR e h0 h1 h2 _ ih =>
    intro hf
    by_cases ha:a < k
    · exact .deep R l1 l2 s f a hR e h0 (h1.cut (by omega)) (by rw[hlen]; exact ha) (ih (by omega))
    · rcases KE hk h1 hf (by omega) with ⟨a1,a2,e2,h3⟩ | ⟨a1,s',a2,b,e2,h3,h4,h5,h6⟩
      · exact .full R a1 (a2 ++ s :: l2) f hR (by rw[e,e2]; simp) (by rw[hlen]; exact h3)
      · exact .deep R a1 (a2 ++ s :: l2) s' f b hR (by rw[e,e2]; simp) h3 h4 (by rw[hlen]; exact h5) h6
theorem Sp.wide {g:ao} {p p':List Int} (hp:∀ i s,pa p i s→pa p' i s) {l:List Int} {i j:Nat} (h:Sp g p l i j):Sp g p' l i j:=by
  induction h with
  | nil i=>exact .nil i
  | term s l i j h0 hf _ ih=>exact .term s l i j h0 (hp _ _ hf) ih
  | ec s l R i k j h0 hR hl _ _ ih1 ih2=>exact .ec s l R i k j h0 hR hl ih1 ih2
section
variable {fit:List Int→Bool} {T b:Nat}
end
def Pv (l:List (List Int)):V:=.aZ (l.map fun w=>[encI w])
abbrev NB:=List (V × List Int)
def nq (b:NB):List (List V):=b.map fun x=>[x.1]
def kn (H:View) (u:V) (out:List (List Int)):Prop:=∃ b:NB,b.map (·.2)=out∧aQ H u 1 (nq b)∧∀ x∈b,aQ H x.1 1 (bP x.2)
theorem kn.nil {H:View} {k:Nat} : kn H (.emp k) []:=⟨[],rfl,.nil,by simp⟩
theorem kn.len {H:View} {u:V} {out:List (List Int)} (h:kn H u out):cq u=some out.length:=by
  obtain ⟨b,rfl,ho,_⟩:=h
  rw[ho.len]; simp[nq]
theorem kn.cells {H:View} {u:V} {out:List (List Int)} (h:kn H u out):V.cells u=[u]∧aV u=true:=by
  obtain ⟨b,_,ho,_⟩:=h
  exact ⟨ho.cells,ho.kg⟩
theorem N6 {H:View} {u:V} {b:NB} (ho:aQ H u 1 (nq b)) (hb:∀ x∈b,aQ H x.1 1 (bP x.2)) {x:V × List Int} (hx:x∈b) {id:Nat} (hid:owner x.1=some id):owner u≠some id:=by
  intro e
  have h1:=(ho.live e).1
  have h2:=((hb x hx).live hid).1
  rw[h2] at h1
  simp only[bM.arr.injEq,true_and] at h1
  cases b with
  | nil=>simp at hx
  | cons y r =>
    have h3:=hb y (by simp)
    cases hw:x.2 with
    | nil=>rw[hw] at h1; simp[nq] at h1
    | cons c w =>
      rw[hw] at h1
      simp only[nq,List.map_cons,List.cons.injEq] at h1
      rcases h3 with ⟨_,k,e2⟩ | ⟨n,e2,_⟩
      · rw[e2] at h1; simp at h1
      · rw[e2] at h1; simp at h1
theorem kn.keep {H H':View} {u:V} {out:List (List Int)} (h:kn H u out) (hk:∀ id,H id≠.dead→H' id=H id):kn H' u out:=by
  obtain ⟨b,e,ho,hb⟩:=h
  exact ⟨b,e,ho.keep fun id hid=>hk id (by rw[(ho.live hid).1]; simp),fun x hx=>(hb x hx).keep fun id hid=>hk id (by rw[((hb x hx).live hid).1]; simp)⟩
theorem kn.add {H H':View} {u u' v:V} {b:NB} {w:List Int} (ho:aQ H u 1 (nq b)) (hb:∀ x∈b,aQ H x.1 1 (bP x.2)) (hv:aQ H v 1 (bP w)) (hd:∀ id,owner v=some id→owner u≠some id)
    (h1:aQ H' u' 1 (nq b ++ [[v]])) (h2:Left H H' u u'):kn H' u' (b.map (·.2) ++ [w]):=by
  refine ⟨b ++ [(v,w)],by simp,by simpa [nq] using h1,fun x hx=>?_⟩
  rcases List.mem_append.1 hx with hx | hx
  · exact (hb x hx).left h2 fun id hid=>N6 ho hb hx hid
  · simp at hx; subst hx
    exact hv.left h2 hd
theorem kn.PX {h:aE} {u:V} {out:List (List Int)} (ho:kn h.view u out):dN h u (Pv out):=by
  obtain ⟨b,rfl,ho,hb⟩:=ho
  have hg:∀ i (hi:i < b.length),(nq b).getD i []=[(b[i]).1]∧(((b.map (·.2)).map fun w=>[encI w]).getD i [])=[encI (b[i]).2]:=fun i hi=>by
    simp[nq,List.getD_eq_getElem?_getD,hi]
  refine dN.own ho (by simp[nq]) (fun i hi=>?_) (fun i j hi hj=>?_)
  · have hi':i < b.length:=by simpa [nq] using hi
    rw[(hg i hi').1,(hg i hi').2]; rfl
  · have hi':i < b.length:=by simpa [nq] using hi
    rw[(hg i hi').2] at hj ⊢
    rw[(hg i hi').1]
    have:j=0:=by simp at hj; omega
    subst this
    simp only[List.getD_cons_zero]
    exact dN.ML (hb _ (List.getElem_mem hi'))
def Jm (H:View) (v:V) (p:List Int):Prop:=v=encI p∨(p≠[]∧∃ n,v=.sl n 0 p.length 1∧H n=.arr 1 (bP p))
theorem Jm.Ih {H:View} {v:V} {p:List Int} (h:Jm H v p):dD H v (encI p):=by
  rcases h with rfl | ⟨_,n,rfl,hn⟩
  · exact .tree (gp p)
  · exact zI hn rfl
theorem Jm.len {H:View} {v:V} {p:List Int} (h:Jm H v p):cq v=some p.length:=by
  rcases h with rfl | ⟨_,n,rfl,hn⟩
  · simp[encI,cq]
  · rfl
def rI (H H':View) (f:Nat) (u u':V):Prop:=∀ id,H id≠.dead→id≠f→owner u≠some id→H' id=H id∧owner u'≠some id
theorem rI.refl {H:View} {f:Nat} {u:V} : rI H H f u u:=fun _ _ _ h=>⟨rfl,h⟩
theorem rI.trans {H H1 H2:View} {f:Nat} {u u1 u2:V} (h1:rI H H1 f u u1) (h2:rI H1 H2 f u1 u2):rI H H2 f u u2:=fun id hd hf hu=>by
  obtain ⟨a,b⟩:=h1 id hd hf hu
  obtain ⟨c,d⟩:=h2 id (by rw[a]; exact hd) hf b
  exact ⟨c.trans a,d⟩
theorem rI.kept {H H':View} {f:Nat} {u:V} (h:∀ id,H id≠.dead→H' id=H id):rI H H' f u u:=fun id hd _ hu=>⟨h id hd,hu⟩
theorem HD {H:View} {u:V} {sz f z:Nat} {es:List (List V)} {e:List (List V)} (ho:aQ H u sz es) (hf:H f=.arr z e) (hz:sz≠z):owner u≠some f:=fun e2=>by
  have:=(ho.live e2).1
  rw[hf] at this
  simp only[bM.arr.injEq] at this
  exact hz this.1.symm
theorem kn.box {H:View} {u:V} {out:List (List Int)} {f:Nat} {e:List (List V)} {o:bM} (h:kn H u out) (hf:H f=.arr 6 e):kn (H.set f o) u out:=by
  obtain ⟨b,e1,ho,hb⟩:=h
  exact ⟨b,e1,ho.other (HD ho hf (by decide)),fun x hx=>(hb x hx).other (HD (hb x hx) hf (by decide))⟩
section
variable {P:Program} {T:Env} {H:View} {K:V→View→Prop} {w:cD (T,H,K)} {t t1 e ty:TypeId}
end
def zq (H:View) (u:V) (l:List Int):Prop:=u=encI l∨aQ H u 1 (bP l)
theorem zq.elems {H:View} {u:V} {l:List Int} (h:zq H u l):∃ rd,bI H u=some (bP l,rd):=by
  rcases h with rfl | h
  · exact ⟨[],sn _ _⟩
  generalize bP l=es0 at h
  rcases h with ⟨rfl,k,rfl⟩ | ⟨n,rfl,hn⟩
  · exact ⟨_,nU _ k⟩
  · cases es0 with
    | nil=>exact ⟨[],by simp[bI]⟩
    | cons e es =>
      exact ⟨_,by rw[show (e :: es).length=es.length+1 from rfl,j0 _ n 0 es.length 1 1 _ hn (by simp),List.drop_zero,List.take_of_length_le (by simp)]⟩
theorem zq.len {H:View} {u:V} {l:List Int} (h:zq H u l):cq u=some l.length:=by
  rcases h with rfl | h
  · simp[encI,cq]
  · rw[h.len]; simp
theorem zq.keep {H H':View} {u:V} {l:List Int} (h:zq H u l) (hk:∀ id,H id≠.dead→H' id=H id):zq H' u l:=by
  rcases h with rfl | h
  · exact .inl rfl
  · exact .inr (h.keep fun id hid=>hk id (by rw[(h.live hid).1]; simp))
def NI (H:View) (u:V) (l:List Int):Prop:=aQ H u 1 (bP l)∨(l=[]∧∃ m es,u=.sl m 0 0 1∧H m=.arr 1 es)
theorem NI.live {H:View} {u:V} {l:List Int} (h:NI H u l) {id:Nat} (hid:owner u=some id):∃ es,H id=.arr 1 es:=by
  rcases h with h | ⟨_,m,es,rfl,hm⟩
  · exact ⟨_,(h.live hid).1⟩
  · simp[owner] at hid; subst hid; exact ⟨es,hm⟩
def EX (H:View) (u:V) (l:List Int):Prop:=u=encI l∨∃ (m:Nat) (x:Int),l=[x]∧x < 0∧u=.sl m 0 1 1∧H m=.arr 1 [[gi x]]
theorem EX.Ih {H:View} {u:V} {l:List Int} (h:EX H u l):dD H u (encI l):=by
  rcases h with rfl | ⟨m,x,rfl,_,rfl,hm⟩
  · exact dD.tree (gp l)
  · exact zI (l:=[x]) hm rfl
theorem EX.keep {H H':View} {u:V} {l:List Int} (h:EX H u l) (hk:∀ id,H id≠.dead→H' id=H id):EX H' u l:=by
  rcases h with rfl | ⟨m,x,rfl,hx,rfl,hm⟩
  · exact .inl rfl
  · exact .inr ⟨m,x,rfl,hx,rfl,by rw[hk m (by rw[hm]; simp)]; exact hm⟩
theorem K0 {F:List Way} {w:Way} {n:Int} : lookW (F ++ [w]) n=match lookW F n with
    | some x=>some x
    | none=>if w.ec=n then some w else none:=by
  unfold lookW
  rw[List.find?_append]
  cases h:F.find? fun x=>x.ec == n with
  | some x=>rfl
  | none =>
    simp only[Option.none_or,List.find?_cons,List.find?_nil]
    by_cases e:w.ec=n
    · simp[e]
    · have:(w.ec == n)=false:=by simpa using e
      rw[this]; simp[e]
theorem Cq {F:List Way} {n:Int} (h:n ∉ kM F):lookW F n=none:=by
  rw[lookW,List.find?_eq_none]
  intro x hx e
  exact h (List.mem_map.2 ⟨x,hx,by simpa using e⟩)
theorem rW.le {g:ao} (hf:g.dH) {F:List Way} (h:rW g F):F.length≤g.ay.length :=
  h.len ⟨hf.jJ,hf.start⟩ fun R hR s hs hn=>by
    have:=hf.sym R hR s hs
    unfold hU at this
    rw[if_neg (by omega)] at this
    simpa using this
def fS (H:View) (u:V) (l:List Int):Prop:=∃ (id off:Nat) (es:List (List V)),u=.sl id off l.length 1∧H id=.arr 1 es∧off+l.length≤es.length∧(es.drop off).take l.length=bP l
theorem fS.len {H:View} {u:V} {l:List Int} (h:fS H u l):cq u=some l.length:=by
  obtain ⟨id,off,es,rfl,_⟩:=h; rfl
theorem fS.keep {H H':View} {u:V} {l:List Int} (h:fS H u l) (hk:∀ id es,H id=.arr 1 es→H' id=H id):fS H' u l:=by
  obtain ⟨id,off,es,h1,h2,h3,h4⟩:=h
  exact ⟨id,off,es,h1,by rw[hk id es h2]; exact h2,h3,h4⟩
theorem fS.fresh {H:View} {u:V} {l:List Int} (h:fS H u l) {n:Nat} {o:bM} (hn:H n=.dead):fS (H.set n o) u l :=
  h.keep fun id es hid=>by
    have:id≠n:=by rintro rfl; rw[hn] at hid; simp at hid
    simp[View.set,this]
theorem fS.wW {H:View} {u:V} {l:List Int} (h:fS H u l) {q c:Nat} {es:List (V × V × Nat)} {o:bM} (hq:H q=.map es c):fS (H.set q o) u l :=
  h.keep fun id es' hid=>by
    have:id≠q:=by rintro rfl; rw[hq] at hid; simp at hid
    simp[View.set,this]
theorem fS.own {H:View} {u:V} {l:List Int} (h:aQ H u 1 (bP l)) (hl:l≠[]):fS H u l:=by
  rcases h with ⟨e,_⟩ | ⟨n,rfl,hn⟩
  · rw[List.map_eq_nil_iff] at e; exact absurd e hl
  · exact ⟨n,0,_,by simp,hn,by simp,by rw[List.drop_zero,List.take_of_length_le (by simp)]⟩
theorem fS.at {H:View} {u:V} {x:Int} {l:List Int} (h:fS H u (x :: l)):∃ (id off:Nat) (es:List (List V)),u=.sl id off (l.length+1) 1∧H id=.arr 1 es∧off < es.length∧es.getD off []=[gi x]∧off+(l.length+1)≤es.length:=by
  obtain ⟨id,off,es,h1,h2,h3,h4⟩:=h
  simp only[List.length_cons] at h1 h3 h4
  refine ⟨id,off,es,h1,h2,by omega,?_,h3⟩
  have h5:=congrArg (fun z=>z[0]?) h4
  simp at h5
  have:es[off]?=some (es[off]'(by omega)):=List.getElem?_eq_getElem (by omega)
  rw[this] at h5
  simp at h5
  rw[List.getD_eq_getElem?_getD,this,h5]; rfl
theorem fS.next {H:View} {id off k:Nat} {x:Int} {l:List Int} (h:fS H (.sl id off k 1) (x :: l)):fS H (.sl id (off+1) (k - 1) 1) l:=by
  obtain ⟨id',off',es,h1,h2,h3,h4⟩:=h
  simp only[V.sl.injEq,and_true] at h1
  obtain ⟨rfl,rfl,rfl⟩:=h1
  simp only[List.length_cons] at h3 h4 ⊢
  refine ⟨id,off+1,es,by simp,h2,by omega,?_⟩
  have h5:=congrArg (List.drop 1) h4
  rw[List.drop_take,List.drop_drop] at h5
  simpa using h5
def IV (H:View) (w:Option Way) (v:Option V):Prop:=match w with
  | none=>v=none
  | some w=>(w.aH = -1∧v=some (.val (.pointer none)))∨(0≤w.aH∧∃ p,v=some (.ptr p 0 0)∧H p=.arr 2 [[gi w.aH,gi w.place]])
def gQ (H:View) (F:List Way) (m:cm Int):Prop:=∀ n,IV H (lookW F n) (getM m n)
theorem IV.keep {H H':View} {w:Option Way} {v:Option V} (h:IV H w v) (hk:∀ id es,H id=.arr 2 es→H' id=H id):IV H' w v:=by
  cases w with
  | none=>exact h
  | some w =>
    rcases h with h | ⟨h1,p,h2,h3⟩
    · exact .inl h
    · exact .inr ⟨h1,p,h2,by rw[hk p _ h3]; exact h3⟩
theorem gQ.keep {H H':View} {F:List Way} {m:cm Int} (h:gQ H F m) (hk:∀ id es,H id=.arr 2 es→H' id=H id):gQ H' F m:=fun n=>(h n).keep hk
theorem gQ.fresh {H:View} {F:List Way} {m:cm Int} (h:gQ H F m) {n:Nat} {o:bM} (hn:H n=.dead):gQ (H.set n o) F m :=
  h.keep fun id es hid=>by
    have:id≠n:=by rintro rfl; rw[hn] at hid; simp at hid
    simp[View.set,this]
theorem gQ.wW {H:View} {F:List Way} {m:cm Int} (h:gQ H F m) {q c:Nat} {es:List (V × V × Nat)} {o:bM} (hq:H q=.map es c):gQ (H.set q o) F m :=
  h.keep fun id es' hid=>by
    have:id≠q:=by rintro rfl; rw[hq] at hid; simp at hid
    simp[View.set,this]
theorem IY {H:View} {u:V} {l:List Int} (h:fS H u l) {id:Nat} (hid:owner u=some id):∃ es,H id=.arr 1 es:=by
  obtain ⟨i,off,es,rfl,h2,_⟩:=h
  simp[owner] at hid; subst hid
  exact ⟨es,h2⟩
theorem gQ.left {H H':View} {F:List Way} {m:cm Int} (h:gQ H F m) {u u':V} {l:List Int} (ht:fS H u l) (hl:Left H H' u u'):gQ H' F m :=
  h.keep fun id es hid=>(hl id (by rw[hid]; simp) (fun e=>by obtain ⟨es',h2⟩:=IY ht e; rw[hid] at h2; simp at h2)).1
theorem gQ.put {H:View} {F:List Way} {m:cm Int} (h:gQ H F m) {p c k j:Nat} {n:Int} (hn:n ∉ kM F) (hp:H p=.arr 2 [[gi k,gi j]]):gQ H (F ++ [⟨n,k,j⟩]) (bV n (.ptr p 0 0) c m):=by
  intro n'
  rw[K0,y8]
  by_cases e:n=n'
  · subst e
    rw[Cq hn]
    simp only[if_true,beq_self_eq_true]
    exact .inr ⟨by simp only; omega,p,rfl,hp⟩
  · have e2:(n' == n)=false:=by simpa using Ne.symm e
    rw[e2]
    have h1:=h n'
    cases hl:lookW F n' with
    | some w=>rw[hl] at h1; simpa using h1
    | none =>
      rw[hl] at h1
      simp only
      rw[if_neg e]
      simpa using h1
theorem gQ.has {H:View} {F:List Way} {m:cm Int} (h:gQ H F m) (n:Int):(getM m n).isSome=decide (n∈kM F):=by
  have h1:=h n
  by_cases e:n∈kM F
  · obtain ⟨x,hx,_⟩:=NW e
    rw[hx] at h1
    rcases h1 with ⟨_,h1⟩ | ⟨_,p,h1,_⟩ <;> rw[h1] <;> simp[e]
  · rw[Cq e] at h1
    have h2:getM m n=none:=h1
    rw[h2]; simp[e]
theorem fS.all {H:View} {u:V} {l:List Int} (h:fS H u l):∃ (id off:Nat) (es:List (List V)),u=.sl id off l.length 1∧H id=.arr 1 es∧off+l.length≤es.length∧∀ j,j < l.length→es.getD (off+j) []=[gi (l.getD j 0)]:=by
  obtain ⟨id,off,es,h1,h2,h3,h4⟩:=h
  refine ⟨id,off,es,h1,h2,h3,fun j hj=>?_⟩
  have h5:=congrArg (fun z=>z[j]?) h4
  simp only[List.getElem?_take,hj,if_true,List.getElem?_drop,List.getElem?_map,List.getElem?_eq_getElem hj,Option.map_some] at h5
  rw[List.getD_eq_getElem?_getD,h5,List.getD_eq_getElem?_getD,List.getElem?_eq_getElem hj]; rfl
theorem fS.take {H:View} {id off k:Nat} {l:List Int} (h:fS H (.sl id off k 1) l) {m:Nat} (hm:m≤l.length):fS H (.sl id off m 1) (l.take m):=by
  obtain ⟨id',off',es,h1,h2,h3,h4⟩:=h
  simp only[V.sl.injEq,and_true] at h1
  obtain ⟨rfl,rfl,rfl⟩:=h1
  refine ⟨id,off,es,by simp; omega,h2,by simp; omega,?_⟩
  have h5:=congrArg (List.take m) h4
  rw[List.take_take,show min m l.length=m by omega] at h5
  rw[show (l.take m).length=m by simp; omega,h5]
  exact List.map_take.symm
theorem aG.same {P:Program} {q:Bool} {f:FuncId} {vs:List V} {H:View} {K:V→View→Prop} {w:cD (H,K)} {v:V} (hc:aC P f vs H fun r H'=>H'=H∧r=v) (hk:K v H):aG P q f vs H K w:=by
  unfold aG
  cases q with
  | true =>
    simp only[if_true]
    exact (hc.mono fun r H' h=>⟨fun id _=>by rw[h.1],by rw[h.1,h.2]; exact hk⟩).Ei
  | false =>
    simp only[Bool.false_eq_true,if_false]
    exact hc.mono fun r H' h=>by rw[h.1,h.2]; exact hk
def Ig:Value→Value→Bool
  | .int k a,.int k' b=>decide (k=k') && decide (a=b)
  | .bool a,.bool b=>a == b
  | .string a,.string b=>gP a b
  | .pointer none,.pointer none=>true
  | _,_=>false
theorem M6:∀ (a b:Value),Ig a b=true→a=b:=by
  intro a b h
  unfold Ig at h
  split at h
  · simp only[Bool.and_eq_true,decide_eq_true_eq] at h
    rw[h.1,h.2]
  · rename_i a b
    rw[show a=b by simpa using h]
  · rename_i a b
    obtain ⟨a⟩:=a
    obtain ⟨b⟩:=b
    simp only[gP,beq_iff_eq] at h
    rw[show a=b from Array.toList_inj.1 h]
  · rfl
  · simp at h
def yM (q:V→V→Bool):List V→List V→Bool
  | [],[]=>true
  | a :: l,b :: m=>q a b && yM q l m
  | _,_=>false
def GF (q:V→V→Bool):List (List V)→List (List V)→Bool
  | [],[]=>true
  | a :: l,b :: m=>yM q a b && GF q l m
  | _,_=>false
def CG:Nat→V→V→Bool
  | 0,_,_=>false
  | k+1,a,b=>match a,b with
    | .val x,.val y=>Ig x y
    | .aZ x,.aZ y=>GF (CG k) x y
    | .agg x,.agg y=>yM (CG k) x y
    | .bu x,.bu y=>yM (CG k) x y
    | _,_=>false
theorem sT {q:V→V→Bool} (hq:∀ a b,q a b=true→a=b):∀ (l m:List V),yM q l m=true→l=m
  | [],[],_=>rfl
  | a :: l,b :: m,h=>by
    simp only[yM,Bool.and_eq_true] at h
    rw[hq a b h.1,sT hq l m h.2]
  | [],_ :: _,h=>by simp[yM] at h
  | _ :: _,[],h=>by simp[yM] at h
theorem KZ {q:V→V→Bool} (hq:∀ a b,q a b=true→a=b):∀ (l m:List (List V)),GF q l m=true→l=m
  | [],[],_=>rfl
  | a :: l,b :: m,h=>by
    simp only[GF,Bool.and_eq_true] at h
    rw[sT hq a b h.1,KZ hq l m h.2]
  | [],_ :: _,h=>by simp[GF] at h
  | _ :: _,[],h=>by simp[GF] at h
theorem EZ:∀ (k:Nat) (a b:V),CG k a b=true→a=b
  | 0,_,_,h=>by simp[CG] at h
  | k+1,a,b,h=>by
    have ih:=EZ k
    unfold CG at h
    split at h
    · rw[M6 _ _ h]
    · rw[KZ ih _ _ h]
    · rw[sT ih _ _ h]
    · rw[sT ih _ _ h]
    · simp at h
def rE:Nat→V→Bool
  | 0,_=>false
  | k+1,v=>match v with
    | .val _=>true
    | .emp _=>true
    | .dq=>true
    | .aZ es=>es.all fun e=>e.all (rE k)
    | .agg cs=>cs.all (rE k)
    | .bu cs=>cs.all (rE k)
    | _=>false
theorem uy {q:V→Bool} {l:List V} (h:l.all q=true) {i:Nat} (hi:i < l.length):q (l.getD i .any)=true:=by
  have e:l.getD i .any=l[i]:=by simp[List.getD_eq_getElem?_getD,hi]
  rw[e]
  exact List.all_eq_true.1 h _ (List.getElem_mem _)
theorem zg:∀ (k:Nat) (v:V),rE k v=true→Tree v
  | 0,_,h=>by simp[rE] at h
  | k+1,v,h=>by
    have ih:=zg k
    unfold rE at h
    split at h
    · exact .val _
    · exact .emp _
    · exact .dq
    · rename_i es
      refine .aZ _ fun i j hi hj=>ih _ ?_
      have e:es.getD i []=es[i]:=by simp[List.getD_eq_getElem?_getD,hi]
      have h1:=List.all_eq_true.1 h _ (List.getElem_mem hi)
      rw[e] at hj ⊢
      exact uy h1 hj
    · exact .agg _ fun i hi=>ih _ (uy h hi)
    · exact .bu _ fun i hi=>ih _ (uy h hi)
    · simp at h
noncomputable def uz (H:View):Nat→V→Option V
  | 0,_=>none
  | k+1,v=>match v with
    | .val x=>some (.val x)
    | .emp _=>some (.aZ [])
    | .aZ es=>match rE 60 (.aZ es) with
      | true=>some (.aZ es)
      | false=>none
    | .sl id off len _=>match H id with
      | .arr _ es=>match Nat.ble (off+len) es.length with
        | true=>(Bh (uz H k) ((es.drop off).take len)).map .aZ
        | false=>none
      | _=>none
    | .agg cs=>(mh (uz H k) cs).map .agg
    | .bu cs=>(mh (uz H k) cs).map .bu
    | _=>none
theorem B8 (h:aE):∀ (k:Nat) (v t:V),uz h.view k v=some t→Fr h v t
  | 0,v,t,hf=>by simp[uz] at hf
  | k+1,v,t,hf=>by
    have ih:=B8 h k
    simp only[uz] at hf
    split at hf
    · simp only[Option.some.injEq] at hf; subst hf; exact .tree _ (.val _)
    · simp only[Option.some.injEq] at hf; subst hf; exact .emp _
    · split at hf
      · rename_i ht
        simp only[Option.some.injEq] at hf; subst hf; exact .tree _ (zg _ _ ht)
      · simp at hf
    · rename_i id off len esz
      split at hf
      · rename_i z es hH
        split at hf
        · rename_i hle
          have hle:=Nat.le_of_ble_eq_true hle
          simp only[Option.map_eq_some_iff] at hf
          obtain ⟨es',he,rfl⟩:=hf
          obtain ⟨g1,g2⟩:=By _ _ he
          have hlen:es'.length=len:=by rw[g1]; simp; omega
          have hg:∀ i,i < len→((es.drop off).take len).getD i []=es.getD (off+i) []:=fun i hi=>by
            simp[List.getD_eq_getElem?_getD,List.getElem?_take,hi]
          have g3:∀ i,i < len→mh (uz h.view k) (es.getD (off+i) [])=some (es'.getD i []):=fun i hi=>by
            rw[← hg i hi]; exact g2 i (by rw[← g1,hlen]; exact hi)
          exact .sl id off len esz z es es' hH hle hlen (fun i hi=>(gu _ _ (g3 i hi)).1) (fun i j hi hj=>ih _ _ ((gu _ _ (g3 i hi)).2 j (by rw[← (gu _ _ (g3 i hi)).1]; exact hj)))
        · simp at hf
      · simp at hf
    · simp only[Option.map_eq_some_iff] at hf
      obtain ⟨l,hl,rfl⟩:=hf
      obtain ⟨g1,g2⟩:=gu _ _ hl
      exact .agg _ _ g1 (fun i hi=>ih _ _ (g2 i hi))
    · simp only[Option.map_eq_some_iff] at hf
      obtain ⟨l,hl,rfl⟩:=hf
      obtain ⟨g1,g2⟩:=gu _ _ hl
      exact .bu _ _ g1 (fun i hi=>ih _ _ (g2 i hi))
    · simp at hf
theorem aD.seen {P:Program} {f:FuncId} {vs ts:List V} {t:V} (hc:aD P f ts t) (ht:∀ i,i < vs.length→Tree (vs.getD i .any)) (hl:ts.length=vs.length) (hfr:∀ i,i < vs.length→Fr [] (vs.getD i .any) (ts.getD i .any)):aD P f vs t:=by
  intro Z μ w xs hrel hz
  have hr0:gf Z (fun _=>none) w.heap (cat [] fun _=>.dead):=by
    rw[Bp]
    exact ⟨fun _=>trivial,fun i j b o s o' s' _ h=>by simp at h,fun id b o s h=>by simp at h,hz,fun id b o s h=>by simp at h⟩
  have hno:∀ b,¬ hE (fun _=>none) b:=fun b ⟨_,_,_,h⟩=>by simp at h
  have hts:en (fun b=>Z b∨hE (fun _=>none) b) μ w.heap ts xs:=⟨by rw[hl,hrel.1],fun i hi=>Av hr0 (hfr i (by omega)) (uL (hrel.2 i (by omega)) (ht i (by omega)))⟩
  refine (hc _ μ w xs hts (fun b hb=>hb.elim (hz b) (fun h=>absurd h (hno b)))).mono ?_
  rintro e w' ⟨x,Z',rfl,hv,hs,h1,h2,ho⟩
  exact ⟨x,Z',rfl,hv,hs,fun b hb=>h1 b (.inl hb),fun b hb=>(h2 b hb).elim (fun h=>h.elim .inl (fun h=>absurd h (hno b))) .inr,ho⟩
abbrev Ca:=FuncId × List V × V × Bool
def Ca.Ok (P:Program) (x:Ca):Prop:=dc P x.1=true∧if x.2.2.2=true then aD P x.1 x.2.1 x.2.2.1 else (dE P x.1 x.2.1 x.2.2.1∨(aD P x.1 x.2.1 x.2.2.1∧zh x.2.2.1))
noncomputable def Nt (g:FuncId) (vs:List V) (H:View) (x:Ca):Bool:=Nat.beq x.1 g && (match x.2.2.2 with
  | true=>vs.all (rE 60) && (match mh (uz (fun _=>.dead) 60) vs with
    | some ts=>yM (CG 60) ts x.2.1
    | none=>false)
  | false=>match mh (uz H 60) vs with
    | some ts=>yM (CG 60) ts x.2.1
    | none=>false)
noncomputable def NK (l:List Ca):wa:=fun g vs H=>(l.find? (Nt g vs H)).map fun x=>x.2.2.1
theorem Me {P:Program} {l:List Ca} (hl:∀ x∈l,x.Ok P):qn P (NK l):=by
  intro g vs H t h
  unfold NK at h
  simp only[Option.map_eq_some_iff] at h
  obtain ⟨⟨f,ts,r,b⟩,hx,rfl⟩:=h
  obtain ⟨h1,h2⟩:=hl _ (List.mem_of_find?_eq_some hx)
  have hq:=List.find?_some hx
  simp only[Nt,Bool.and_eq_true] at hq
  obtain ⟨hg,hq⟩:=hq
  have hg:=Nat.eq_of_beq_eq_true hg
  simp only at hg h1 h2 hq
  subst hg
  refine ⟨h1,?_⟩
  rintro h rfl
  cases b with
  | true =>
    simp only[Bool.and_eq_true] at hq
    obtain ⟨hq1,hq2⟩:=hq
    split at hq2
    · rename_i us hus
      obtain ⟨g1,g2⟩:=gu _ _ hus
      have:=sT (EZ 60) _ _ hq2
      subst this
      simp only[if_true] at h2
      exact bF.fk (h2.seen (fun i hi=>zg _ _ (uy hq1 hi)) g1 fun i hi=>B8 [] 60 _ _ (g2 i hi)) h
    · simp at hq2
  | false =>
    simp only at hq
    split at hq
    · rename_i us hus
      obtain ⟨g1,g2⟩:=gu _ _ hus
      have:=sT (EZ 60) _ _ hq
      subst this
      have hfr:=fun i hi=>B8 h 60 _ _ (g2 i hi)
      simp only[Bool.false_eq_true,if_false] at h2
      rcases h2 with h2 | ⟨h2,h3⟩
      · exact bF.tt h2 g1 hfr
      · exact bF.borrow h2 h3 g1 hfr
    · simp at hq
def rV (x:Int):Bool:=decide (-9223372036854775808≤x) && decide (x≤9223372036854775807)
theorem nz {x:Int} (h:rV x=true):cz x:=by
  unfold rV at h
  simp only[Bool.and_eq_true,decide_eq_true_eq] at h
  exact h
def okB (g:ao):Bool:=decide (g.az.length≤900) && decide (g.ay.length≤100) && decide (g.rules.length≤900) && rV g.start && g.az.all (fun t=>rV t.level && rV t.assoc) && g.rules.all fun r=>rV r.left && rV r.prec && decide (r.right.length≤900) && r.right.all rV
theorem OR {g:ao} (h:okB g=true):g.Ok∧g.Small:=by
  unfold okB at h
  simp only[Bool.and_eq_true,decide_eq_true_eq,List.all_eq_true] at h
  obtain ⟨⟨⟨⟨⟨h1,h2⟩,h3⟩,h4⟩,h5⟩,h6⟩:=h
  refine ⟨⟨by unfold aW; omega,by unfold aW; omega,by unfold aW; omega,nz h4,fun t ht=>⟨nz (h5 t ht).1,nz (h5 t ht).2⟩,fun r hr=>?_⟩,⟨by omega⟩⟩
  have:=h6 r hr
  exact ⟨nz this.1.1.1,nz this.1.1.2,by unfold aW; have:=this.1.2; omega,fun x hx=>nz (this.2 x hx)⟩
theorem rF:nV.Ok∧nV.Small:=OR (by kernel_rfl)
structure Qd where
  QO:Int
  cell:Cell
  deriving DecidableEq
structure fh where
  sym:Int
  to:Int
  deriving DecidableEq
structure Pm where
  az:Int
  ay:Int
  rows:List (List Qd)
  of:List Int
  gotos:List (List fh)
  to:List Int
def xW (x:fh):List V:=[gi x.sym,gi x.to]
structure Pm.Ok (p:Pm):Prop where
  az:cz p.az
  ay:cz p.ay
  rows:aW p.rows
  of:aW p.of∧∀ x∈p.of,cz x
  gotos:aW p.gotos
  to:aW p.to∧∀ x∈p.to,cz x
  row:∀ r∈p.rows,aW r∧∀ c∈r,cz c.QO∧cz c.cell.kind∧cz c.cell.n
  go:∀ r∈p.gotos,aW r∧∀ x∈r,cz x.sym∧cz x.to
theorem bg.as {H:View} {u:V} {sz:Nat} {es es':List (List V)} {L:List ew} (h:bg H ((u,sz,es) :: L)) (e:es=es'):bg H ((u,sz,es') :: L):=e ▸ h
structure aL where
  aH:Int
  dot:Int
  deriving DecidableEq
def bQ (x:aL):List V:=[gi x.aH,gi x.dot]
def aS (l:List aL):List (List V):=l.map bQ
def cb (a b:aL):Bool:=decide (a.aH < b.aH) || (decide (a.aH=b.aH) && decide (a.dot < b.dot))
def dJ:List aL→aL→List aL
  | [],x=>[x]
  | y :: l,x=>if cb y x=true then y :: dJ l x else if y=x then y :: l else x :: y :: l
theorem N7 (a b:aL):∀ v∈[V.agg (bQ a),.agg (bQ b)],Tree v:=by
  intro v hv; simp at hv
  rcases hv with rfl | rfl <;> exact dd _ fun v hv=>by simp[bQ] at hv; rcases hv with rfl | rfl <;> exact .val _
def oK:SF:=⟨.seq (ak [bZ 2 0,bZ 3 1,aX 4 false]) <|
  .seq (.region false [⟨none,[av 5 0 2,au 6 5,av 7 0 3,au 8 7,aN 9 .lss 6 8,aa 10 9]⟩,⟨(some (10,false)),[av 11 0 2,au 12 11,av 13 0 3,au 14 13,aN 15 .eql 12 14,aa 16 15]⟩,⟨(some (16,true)),[av 17 1 2,au 18 17,av 19 1 3,au 20 19,aN 21 .lss 18 20]⟩,⟨(some (10,false)),[bG 22 16 21]⟩,⟨none,[bJ 23 10 22,aa 4 23]⟩]) <|
  .ret,
  [.tmp 4],24⟩
theorem tC:bf Tryz.prog 156 [2,3]=some oK:=by kernel_rfl
def m7:SC :=
  .seq (.seq (.region false [⟨none,[aa 7 5,aa 8 0,aJ 9 8,aN 10 .lss 7 9,aa 11 10]⟩,⟨(some (11,true)),[aa 12 0,aa 13 5,aP 14 2 12 13,aK 15 2 14,aK 16 2 3,aI 17 156 [15,16]]⟩,⟨none,[bG 18 11 17]⟩]) <|
  .cond (.tmp 18) (.skip) (.exit 0)) <|
  .block 1 (ak [aa 19 5,aA 20 .add 19 1,aa 5 20])
def pF:SF:=⟨.seq (ak [bZ 3 1,((some 4),.op (.bm (.val (.emp 1))))]) <|
  .seq (ak [aF 5 0]) <|
  .seq (.block 0 (.loop m7)) <|
  .seq (.seq (.region false [⟨none,[aa 21 5,aa 22 0,aJ 23 22,aN 24 .lss 21 23,aa 25 24]⟩,⟨(some (25,true)),[aa 26 0,aa 27 5,aP 28 2 26 27,aK 29 2 28,aK 30 2 3,((some 31),.op (.old (.binOp .eql 33 (.tmp 29) (.tmp 30) 33) 4))]⟩,⟨none,[bG 32 25 31]⟩]) <|
  .cond (.tmp 32) (.seq (ak [aa 33 0,aa 4 33]) <|
  .ret) (.skip)) <|
  .seq (ak [((some 34),.op (.bm (.val (.emp 2)))),aa 35 0,aa 36 5,((some 37),.op (.slice 2 (.tmp 35) (some (.tmp 36)) none)),((some 38),.op (.app 2 16 (.tmp 34) (.tmp 37))),aa 6 38]) <|
  .seq (ak [aa 39 0,aa 40 5,((some 41),.op (.slice 2 (.tmp 39) none (some (.tmp 40)))),aK 42 2 3,((some 43),.op (.bC 1 2 [(.val (.int .i64 0)),(.val (.int .i64 0))] [(0,(.tmp 42))])),((some 44),.op (.app 2 16 (.tmp 41) (.tmp 43))),aa 45 6,((some 46),.op (.app 2 16 (.tmp 44) (.tmp 45))),aa 4 46]) <|
  .ret,
  [.tmp 4],47⟩
theorem uH:bf Tryz.prog 108 [3]=some pF:=by kernel_rfl
theorem Lq (a b:aL):aD Tryz.prog 156 [.agg (bQ a),.agg (bQ b)] (gb (cb a b)):=by
  refine aD.val (N7 a b) fun H=>?_
  refine aC.of mixed tC ?_
  unfold cb
  simp (disch:=omega) only [↓wr,↓reduceIte,wq,ah,ag,aj,ab,ae,af,ai,isNil,Nat.reduceEqDiff,Nat.reduceAdd,Nat.reduceLT,Nat.reduceLeDiff,Int.reduceNeg,Int.reduceToNat,reduceCtorEq,oK,bQ]
  refine ax.dec (fun h1=>?_) (fun h1=>?_)
  · simp (disch:=omega) only [↓wr,↓reduceIte,wq,ah,ag,aj,ab,ae,af,ai,isNil,Nat.reduceEqDiff,Nat.reduceAdd,Nat.reduceLT,Nat.reduceLeDiff,Int.reduceNeg,Int.reduceToNat,reduceCtorEq]
    rw[decide_eq_true h1]; rfl
  simp (disch:=omega) only [↓wr,↓reduceIte,wq,ah,ag,aj,ab,ae,af,ai,isNil,Nat.reduceEqDiff,Nat.reduceAdd,Nat.reduceLT,Nat.reduceLeDiff,Int.reduceNeg,Int.reduceToNat,reduceCtorEq,bQ]
  refine ax.eq (fun h2=>?_) (fun h2=>?_)
  · simp (disch:=omega) only [↓wr,↓reduceIte,wq,ah,ag,aj,ab,ae,af,ai,isNil,Nat.reduceEqDiff,Nat.reduceAdd,Nat.reduceLT,Nat.reduceLeDiff,Int.reduceNeg,Int.reduceToNat,reduceCtorEq,bQ]
    rw[decide_eq_false h1,decide_eq_true h2]; rfl
  · simp (disch:=omega) only [↓wr,↓reduceIte,wq,ah,ag,aj,ab,ae,af,ai,isNil,Nat.reduceEqDiff,Nat.reduceAdd,Nat.reduceLT,Nat.reduceLeDiff,Int.reduceNeg,Int.reduceToNat,reduceCtorEq]
    rw[decide_eq_false h1,decide_eq_false h2]; rfl
def du:List aL→aL→Nat
  | [],_=>0
  | y :: l,x=>if cb y x=true then du l x+1 else 0
theorem Ba:∀ (l:List aL) (x:aL),du l x≤l.length
  | [],_=>Nat.le_refl _
  | y :: l,x=>by
    rw[du]; split
    · have:=Ba l x; simp; omega
    · simp
theorem AR:∀ (l:List aL) (x:aL) (i:Nat) (y:aL),l[i]?=some y→i < du l x→cb y x=true
  | [],_,_,_,h,_=>by simp at h
  | z :: l,x,0,y,h,hi=>by
    rw[du] at hi; split at hi
    · simp at h; subst h; assumption
    · omega
  | z :: l,x,i+1,y,h,hi=>by
    rw[du] at hi; split at hi
    · exact AR l x i y (by simpa using h) (by omega)
    · omega
theorem AY:∀ (l:List aL) (x:aL) (y:aL),l[du l x]?=some y→cb y x=false
  | [],_,_,h=>by simp at h
  | z :: l,x,y,h=>by
    rw[du] at h; split at h
    · exact AY l x y (by simpa using h)
    · rename_i e; simp at h; subst h; simpa using e
theorem ub:∀ (l:List aL) (x:aL),dJ l x=if l[du l x]?=some x then l else l.take (du l x) ++ [x] ++ l.drop (du l x)
  | [],x=>by simp[dJ,du]
  | y :: l,x=>by
    rw[dJ,du]
    split
    · have:=ub l x
      simp only[List.getElem?_cons_succ,List.take_succ_cons,List.drop_succ_cons,List.cons_append]
      rw[this]; split <;> simp
    · simp only[List.getElem?_cons_zero,Option.some.injEq,List.take_zero,List.drop_zero,List.nil_append,List.cons_append]
theorem rh (x y:aL):fj Tryz.prog 9998 #[.int .i64 x.aH,.int .i64 x.dot] #[.int .i64 y.aH,.int .i64 y.dot]
    [{ name:= "Rule",type:=3,offset:=0,embedded:=false,tag:= "",pkgPath:= "",byteOffset:=0 },{ name:= "Dot",type:=3,offset:=1,embedded:=false,tag:= "",pkgPath:= "",byteOffset:=8 }] ((x.aH == y.aH) && ((x.dot == y.dot) && true)) :=
  .int _ _ _ .i64 _ _ (by decide) Tryz.underlying3 rfl rfl (.int _ _ _ .i64 _ _ (by decide) Tryz.underlying3 rfl rfl .nil)
theorem AB (x y:aL):((x.aH == y.aH) && ((x.dot == y.dot) && true))=decide (x=y):=by
  cases x; cases y; rw[Bool.eq_iff_iff]; simp
theorem w6 {sz id off k m:Nat} (hm:m≤k):fI sz (.sl id off k sz) (some (gi m)) none=some (.sl id (off+m) (k - m) sz,.none,[]):=by
  simp[fI,bound,asNat,hm]
theorem qH {sz id off k m:Nat} (hm:m≤k):fI sz (.sl id off k sz) none (some (gi m))=some (.sl id off m sz,.none,[]):=by
  simp[fI,bound,asNat,hm]
theorem JX (l:List aL):((aS l).all fun e=>e.length == 2 && e.all aV)=true:=by
  simp[aS,List.all_map,bQ,aV]
theorem JY {H:View} {u:V} {sz:Nat} {es:List (List V)} (h:aQ H u sz es):∃ rd,bI H u=some (es,rd):=by
  rcases h with ⟨rfl,k,rfl⟩ | ⟨n,rfl,hn⟩
  · exact ⟨_,nU _ k⟩
  · cases es with
    | nil=>exact ⟨[],by simp[bI]⟩
    | cons e es =>
      exact ⟨_,by rw[show (e :: es).length=es.length+1 from rfl,j0 _ n 0 es.length sz sz _ hn (by simp),List.drop_zero,List.take_of_length_le (by simp)]⟩
theorem nW {sz bytes:Nat} {u:V} {es:List (List V)} {H:View} {K:V→View→Prop} {w:cD (H,K)} (ho:aQ H u sz es) (h:K u H):mq sz bytes u [] H K w:=by
  unfold mq
  rcases ho with ⟨_,k,rfl⟩ | ⟨n,rfl,_⟩ <;> simpa using h
theorem Left.behind {H H':View} {q:Nat} {o:bM} {u r:V} (hq:H q=.dead) (h:Left (H.set q o) H' u r):Left H H' u r:=fun a ha hau=>by
  have e:¬ a=q:=by rintro rfl; exact ha hq
  have:=h a (by simp[View.set,e]; exact ha) hau
  simpa [View.set,e] using this
set_option maxHeartbeats 8000000 in
theorem zE (u:V) (l:List aL) (hl:l.length≤100000) (x:aL) (H:View) (ho:aQ H u 2 (aS l)):aC Tryz.prog 108 [u,.agg (bQ x)] H fun r H'=>aQ H' r 2 (aS (dJ l x))∧Left H H' u r:=by
  refine aC.of mixed uH ?_
  have hlen:cq u=some l.length:=by rw[ho.len]; simp[aS]
  have hle:=Ba l x
  simp (disch:=omega) only [↓wr,↓reduceIte,wq,ah,ag,aj,ab,ae,af,ai,isNil,Nat.reduceEqDiff,Nat.reduceAdd,Nat.reduceLT,Nat.reduceLeDiff,Int.reduceNeg,Int.reduceToNat,reduceCtorEq,pF,bQ]
  refine bz.up (du l x) (fun i T H'=>H'=H∧i≤du l x∧T 0=u∧T 3=.aR (bQ x) 0∧T 5=gi i) ⟨rfl,by omega,rfl,rfl,rfl⟩ ?_
  rintro i k T H' hk ⟨eH,hi,t0,t3,t5⟩
  subst eH
  simp (disch:=omega) only [↓wr,↓reduceIte,wq,ah,ag,aj,ab,ae,af,ai,isNil,Nat.reduceEqDiff,Nat.reduceAdd,Nat.reduceLT,Nat.reduceLeDiff,Int.reduceNeg,Int.reduceToNat,reduceCtorEq,m7,t0,t3,t5,hlen]
  have stop:i=du l x→True:=fun _=>trivial
  refine ax.dec (fun hc=>?_) (fun hc=>?_)
  · have hy:l[i]?=some (l[i]'(by omega)):=List.getElem?_eq_getElem (by omega)
    generalize l[i]'(by omega)=y at hy
    obtain ⟨id,hu,hid⟩:=ho.sl (by simp[aS]; omega)
    have hl3:(aS l).length=l.length:=by simp[aS]
    have hg:(aS l).getD i []=bQ y:=by simp[aS,List.getD_eq_getElem?_getD,hy]
    have h15:=Lq y x
    simp only[bQ] at h15 hg
    simp (disch:=omega) only [↓wr,↓reduceIte,wq,ah,ag,aj,ab,ae,af,ai,isNil,Nat.reduceEqDiff,Nat.reduceAdd,Nat.reduceLT,Nat.reduceLeDiff,Int.reduceNeg,Int.reduceToNat,reduceCtorEq,t0,t3,t5,hu,hid,hg,bQ]
    refine ⟨by simp[aS]; omega,by simp[aS]; omega,?_⟩
    refine aG.pure h15 (by kernel_rfl) ?_
    simp (disch:=omega) only [↓wr,↓reduceIte,wq,ah,ag,aj,ab,ae,af,ai,isNil,Nat.reduceEqDiff,Nat.reduceAdd,Nat.reduceLT,Nat.reduceLeDiff,Int.reduceNeg,Int.reduceToNat,reduceCtorEq,t0,t3,t5]
    refine ax.split (fun e=>?_) (fun e=>?_)
    · have hlt:i < du l x:=by
        rcases Nat.lt_or_ge i (du l x) with h | h
        · exact h
        · have:=AY l x y (by rw[show du l x=i by omega]; exact hy)
          rw[this] at e; exact absurd e (by simp)
      simp (disch:=omega) only [↓wr,↓reduceIte,wq,ah,ag,aj,ab,ae,af,ai,isNil,Nat.reduceEqDiff,Nat.reduceAdd,Nat.reduceLT,Nat.reduceLeDiff,Int.reduceNeg,Int.reduceToNat,reduceCtorEq,t0,t3,t5]
      exact bq hk hlt ⟨rfl,hlt,t0,t3,rfl⟩
    have hia:i=du l x:=by
      rcases Nat.lt_or_ge i (du l x) with h | h
      · rw[AR l x i y hy h] at e; exact absurd e (by simp)
      · omega
    simp (disch:=omega) only [↓wr,↓reduceIte,wq,ah,ag,aj,ab,ae,af,ai,isNil,Nat.reduceEqDiff,Nat.reduceAdd,Nat.reduceLT,Nat.reduceLeDiff,Int.reduceNeg,Int.reduceToNat,reduceCtorEq,t0,t3,t5,hlen]
    refine ax.dec (fun _=>?_) (fun h=>absurd hc h)
    simp (disch:=omega) only [↓wr,↓reduceIte,wq,ah,ag,aj,ab,ae,af,ai,isNil,Nat.reduceEqDiff,Nat.reduceAdd,Nat.reduceLT,Nat.reduceLeDiff,Int.reduceNeg,Int.reduceToNat,reduceCtorEq,t0,t3,t5,hu,hid,hg,bQ]
    refine ⟨by simp[aS]; omega,by simp[aS]; omega,?_⟩
    refine gS (xs:=#[.int .i64 y.aH,.int .i64 y.dot]) (ys:=#[.int .i64 x.aH,.int .i64 x.dot]) Tryz.underlying33 (by kernel_rfl) (by kernel_rfl) ?_ ?_ (rh y x) (.inl ⟨rfl,rfl⟩) ?_
    · rfl
    · rfl
    rw[AB]
    simp (disch:=omega) only [↓wr,↓reduceIte,wq,ah,ag,aj,ab,ae,af,ai,isNil,Nat.reduceEqDiff,Nat.reduceAdd,Nat.reduceLT,Nat.reduceLeDiff,Int.reduceNeg,Int.reduceToNat,reduceCtorEq,t0,t3,t5]
    refine ax.dec (fun e2=>?_) (fun e2=>?_)
    · subst e2
      simp (disch:=omega) only [↓wr,↓reduceIte,wq,ah,ag,aj,ab,ae,af,ai,isNil,Nat.reduceEqDiff,Nat.reduceAdd,Nat.reduceLT,Nat.reduceLeDiff,Int.reduceNeg,Int.reduceToNat,reduceCtorEq,t0]
      rw[ub,if_pos (by rw[← hia]; exact hy)]
      exact ⟨ho,fun id hid ho=>⟨rfl,ho⟩⟩
    rw[hl3] at hu
    have hel:bI H' (.sl id i (l.length - i) 2)=some (aS (l.drop i),[id]):=by
      obtain ⟨q,hq⟩:∃ q,l.length - i=q+1:=⟨l.length - i - 1,by omega⟩
      rw[hq,j0 H' id i q 2 2 (aS l) hid (by rw[hl3]; omega)]
      rw[show (aS l).drop i=aS (l.drop i) from List.map_drop.symm,List.take_of_length_le (by simp[aS]; omega)]
    simp (disch:=omega) only [↓wr,↓reduceIte,wq,ah,ag,aj,ab,ae,af,ai,isNil,Nat.reduceEqDiff,Nat.reduceAdd,Nat.reduceLT,Nat.reduceLeDiff,Int.reduceNeg,Int.reduceToNat,reduceCtorEq,t0,t3,t5,hu,w6 (sz:=2) (id:=id) (off:=0) (k:=l.length) (m:=i) (by omega),hel]
    refine iA aQ.nil (JX _) (by unfold aO aS; simp; omega) (by unfold aO aS; simp; omega) ?_
    intro rest H1 hor lr
    simp (disch:=omega) only [↓wr,↓reduceIte,wq,ah,ag,aj,ab,ae,af,ai,isNil,Nat.reduceEqDiff,Nat.reduceAdd,Nat.reduceLT,Nat.reduceLeDiff,Int.reduceNeg,Int.reduceToNat,reduceCtorEq,t0,t3,t5,hu,qH (sz:=2) (id:=id) (off:=0) (k:=l.length) (m:=i) (by omega),bQ]
    intro q hq
    have hidr:owner rest≠some id:=(lr id (by rw[hid]; simp) (by simp[owner])).2
    have hid1:H1 id=.arr 2 (aS l):=by rw[(lr id (by rw[hid]; simp) (by simp[owner])).1,hid]
    have hqid:¬ id=q:=by rintro rfl; rw[hid1] at hq; simp at hq
    simp (disch:=omega) only [↓wr,↓reduceIte,wq,ah,ag,aj,ab,ae,af,ai,isNil,Nat.reduceEqDiff,Nat.reduceAdd,Nat.reduceLT,Nat.reduceLeDiff,Int.reduceNeg,Int.reduceToNat,reduceCtorEq,cy]
    rw[vf _ _ _ _ _ _ _ _ _ _ (by rfl)]
    simp (disch:=omega) only [↓wr,↓reduceIte,wq,ah,ag,aj,ab,ae,af,ai,isNil,Nat.reduceEqDiff,Nat.reduceAdd,Nat.reduceLT,Nat.reduceLeDiff,Int.reduceNeg,Int.reduceToNat,reduceCtorEq,hqid,hid1,hl3]
    refine ⟨rfl,⟨by omega,by unfold aO; omega,by unfold aO; omega⟩,fun n2 hn2=>?_⟩
    rw[List.drop_zero]
    have n2q:¬ n2=q:=by rintro rfl; simp at hn2
    rw[if_neg n2q] at hn2
    have n2id:¬ n2=id:=by rintro rfl; rw[hid1] at hn2; simp at hn2
    have hor3:=((hor.fresh (o:=.arr 2 [[gi x.aH,gi x.dot]]) hq).other (o:=.dead) hidr).fresh (m:=n2) (o:=.arr 2 (List.take i (aS l) ++ [[gi x.aH,gi x.dot]])) (by simp[View.set,n2q,n2id,hn2])
    have ho3:aQ (((H1.set q (.arr 2 [[gi x.aH,gi x.dot]])).set id .dead).set n2 (.arr 2 (List.take i (aS l) ++ [[gi x.aH,gi x.dot]]))) (.sl n2 0 (i+1) 2) 2 (List.take i (aS l) ++ [[gi x.aH,gi x.dot]]):=.inr ⟨n2,by simp[hl3]; omega,by simp[View.set]⟩
    have hk3:∀ a,H' a≠.dead→a≠id→(((H1.set q (.arr 2 [[gi x.aH,gi x.dot]])).set id .dead).set n2 (.arr 2 (List.take i (aS l) ++ [[gi x.aH,gi x.dot]]))) a=H' a∧a≠n2:=fun a ha hai=>by
      have h1:=(lr a ha (by simp[owner])).1
      have aq:¬ a=q:=by rintro rfl; rw[hq] at h1; exact ha h1.symm
      have an:¬ a=n2:=by rintro rfl; rw[hn2] at h1; exact ha h1.symm
      exact ⟨by simp[View.set,aq,an,hai,h1],an⟩
    generalize ((H1.set q (.arr 2 [[gi x.aH,gi x.dot]])).set id .dead).set n2 (.arr 2 (List.take i (aS l) ++ [[gi x.aH,gi x.dot]]))=H3 at hor3 ho3 hk3 ⊢
    rw[List.nil_append] at hor3
    obtain ⟨rd,he⟩:=JY hor3
    simp (disch:=omega) only [↓wr,↓reduceIte,wq,ah,ag,aj,ab,ae,af,ai,isNil,Nat.reduceEqDiff,Nat.reduceAdd,Nat.reduceLT,Nat.reduceLeDiff,Int.reduceNeg,Int.reduceToNat,reduceCtorEq,he]
    refine iA ho3 (JX _) (by unfold aO aS; simp; omega) (by unfold aO aS; simp; omega) ?_
    intro r H4 o4 l4
    simp (disch:=omega) only [↓wr,↓reduceIte,wq,ah,ag,aj,ab,ae,af,ai,isNil,Nat.reduceEqDiff,Nat.reduceAdd,Nat.reduceLT,Nat.reduceLeDiff,Int.reduceNeg,Int.reduceToNat,reduceCtorEq]
    refine ⟨?_,fun a ha hau=>?_⟩
    · rw[ub,if_neg (by rw[← hia,hy]; simpa using e2),← hia]
      simpa [aS,bQ,List.map_take,List.map_drop] using o4
    · obtain ⟨k1,k2⟩:=hk3 a ha (by rintro rfl; exact hau (by rw[hu]; rfl))
      have:=l4 a (by rw[k1]; exact ha) (by simp[owner]; exact fun h=>k2 h.symm)
      exact ⟨by rw[this.1,k1],this.2⟩
  · simp (disch:=omega) only [↓wr,↓reduceIte,wq,ah,ag,aj,ab,ae,af,ai,isNil,Nat.reduceEqDiff,Nat.reduceAdd,Nat.reduceLT,Nat.reduceLeDiff,Int.reduceNeg,Int.reduceToNat,reduceCtorEq,t0,t3,t5,hlen]
    refine ax.dec (fun h=>absurd h hc) (fun _=>?_)
    have hil:i=l.length:=by omega
    subst hil
    have hput:aS (dJ l x)=aS l ++ [[gi x.aH,gi x.dot]]:=by
      rw[ub,show du l x=l.length by omega,List.getElem?_eq_none (Nat.le_refl _),if_neg (by simp),List.take_length,List.drop_length]
      simp[aS,bQ]
    rcases ho with ⟨e,k0,hu⟩ | ⟨id,hu,hid⟩
    · have hl0:l=[]:=by simpa [aS] using e
      subst hl0
      simp (disch:=omega) only [↓wr,↓reduceIte,wq,ah,ag,aj,ab,ae,af,ai,isNil,Nat.reduceEqDiff,Nat.reduceAdd,Nat.reduceLT,Nat.reduceLeDiff,Int.reduceNeg,Int.reduceToNat,reduceCtorEq,t0,t3,t5,hu,show ∀ k,fI 2 (.emp k) (some (gi ((0:Nat):Int))) none=some (.emp k,.none,[]) from fun k=>rfl,show ∀ k,fI 2 (.emp k) none (some (gi ((0:Nat):Int)))=some (.emp k,.none,[]) from fun k=>rfl]
      refine nW aQ.nil ?_
      simp (disch:=omega) only [↓wr,↓reduceIte,wq,ah,ag,aj,ab,ae,af,ai,isNil,Nat.reduceEqDiff,Nat.reduceAdd,Nat.reduceLT,Nat.reduceLeDiff,Int.reduceNeg,Int.reduceToNat,reduceCtorEq,t0,t3,t5,hu,show ∀ k,fI 2 (.emp k) none (some (gi ((0:Nat):Int)))=some (.emp k,.none,[]) from fun k=>rfl,bQ]
      intro q hq
      simp (disch:=omega) only [↓wr,↓reduceIte,wq,ah,ag,aj,ab,ae,af,ai,isNil,Nat.reduceEqDiff,Nat.reduceAdd,Nat.reduceLT,Nat.reduceLeDiff,Int.reduceNeg,Int.reduceToNat,reduceCtorEq,cy]
      refine iA (sz:=2) (u:=.emp k0) aQ.nil (by simp[aV]) (by unfold aO; simp) (by unfold aO; simp) ?_
      intro r H4 o4 l4
      simp (disch:=omega) only [↓wr,↓reduceIte,wq,ah,ag,aj,ab,ae,af,ai,isNil,Nat.reduceEqDiff,Nat.reduceAdd,Nat.reduceLT,Nat.reduceLeDiff,Int.reduceNeg,Int.reduceToNat,reduceCtorEq]
      refine nW o4 ?_
      simp (disch:=omega) only [↓wr,↓reduceIte,wq,ah,ag,aj,ab,ae,af,ai,isNil,Nat.reduceEqDiff,Nat.reduceAdd,Nat.reduceLT,Nat.reduceLeDiff,Int.reduceNeg,Int.reduceToNat,reduceCtorEq]
      exact ⟨by rw[hput]; exact o4,hu ▸ Left.behind hq l4⟩
    · rw[show (aS l).length=l.length by simp[aS]] at hu
      simp (disch:=omega) only [↓wr,↓reduceIte,wq,ah,ag,aj,ab,ae,af,ai,isNil,Nat.reduceEqDiff,Nat.reduceAdd,Nat.reduceLT,Nat.reduceLeDiff,Int.reduceNeg,Int.reduceToNat,reduceCtorEq,t0,t3,t5,hu,w6 (sz:=2) (id:=id) (off:=0) (k:=l.length) (m:=l.length) (by omega),qH (sz:=2) (id:=id) (off:=0) (k:=l.length) (m:=l.length) (by omega)]
      rw[Nat.sub_self,show bI H' (.sl id l.length 0 2)=some ([],[]) from rfl]
      simp (disch:=omega) only [↓wr,↓reduceIte,wq,ah,ag,aj,ab,ae,af,ai,isNil,Nat.reduceEqDiff,Nat.reduceAdd,Nat.reduceLT,Nat.reduceLeDiff,Int.reduceNeg,Int.reduceToNat,reduceCtorEq]
      refine nW aQ.nil ?_
      simp (disch:=omega) only [↓wr,↓reduceIte,wq,ah,ag,aj,ab,ae,af,ai,isNil,Nat.reduceEqDiff,Nat.reduceAdd,Nat.reduceLT,Nat.reduceLeDiff,Int.reduceNeg,Int.reduceToNat,reduceCtorEq,t0,t3,t5,hu,qH (sz:=2) (id:=id) (off:=0) (k:=l.length) (m:=l.length) (by omega),bQ]
      intro q hq
      simp (disch:=omega) only [↓wr,↓reduceIte,wq,ah,ag,aj,ab,ae,af,ai,isNil,Nat.reduceEqDiff,Nat.reduceAdd,Nat.reduceLT,Nat.reduceLeDiff,Int.reduceNeg,Int.reduceToNat,reduceCtorEq,cy]
      have ho2:aQ H' (.sl id 0 l.length 2) 2 (aS l):=.inr ⟨id,by simp[aS],hid⟩
      refine iA (sz:=2) (ho2.fresh hq) (by simp[aV]) (by unfold aO aS; simp; omega) (by unfold aO aS; simp; omega) ?_
      intro r H4 o4 l4
      simp (disch:=omega) only [↓wr,↓reduceIte,wq,ah,ag,aj,ab,ae,af,ai,isNil,Nat.reduceEqDiff,Nat.reduceAdd,Nat.reduceLT,Nat.reduceLeDiff,Int.reduceNeg,Int.reduceToNat,reduceCtorEq]
      refine nW o4 ?_
      simp (disch:=omega) only [↓wr,↓reduceIte,wq,ah,ag,aj,ab,ae,af,ai,isNil,Nat.reduceEqDiff,Nat.reduceAdd,Nat.reduceLT,Nat.reduceLeDiff,Int.reduceNeg,Int.reduceToNat,reduceCtorEq]
      exact ⟨by rw[hput]; exact o4,hu ▸ Left.behind hq l4⟩
def dt (g:ao) (r:Int):List Int:=if r = -1 then [-1 - g.start] else (dC g r).right
def cU (g:ao) (x:aL):Int × Bool:=if x.dot=(dt g x.aH).length then (0,false) else ((dt g x.aH).getD x.dot.toNat 0,true)
def m8:SF:=⟨.seq (ak [bZ 2 0,((some 4),.op (.bm (.val (.emp 1))))]) <|
  .seq (.seq (ak [aa 5 1,aA 6 .eql 5 (-1)]) <|
  .cond (.tmp 6) (.seq (ak [av 7 3 2,au 8 7,((some 9),.op (.arith .sub (.val (.val (.int .i64 (-1)))) (.tmp 8))),((some 10),.op (.bC 1 1 [(.val (.int .i64 0))] [(0,(.tmp 9))])),aa 4 10]) <|
  .ret) (.skip)) <|
  .seq (ak [av 11 2 2,au 12 11,aa 13 1,aP 14 3 12 13,av 15 1 14,au 16 15,aa 4 16]) <|
  .ret,
  [.tmp 4],17⟩
theorem sF:bf Tryz.prog 55 [2]=some m8:=by kernel_rfl
def oE:SF:=⟨.seq (ak [bZ 2 0,bZ 3 1,aF 4 0,aX 5 false]) <|
  .seq (ak [aK 7 4 2,av 8 0 3,au 9 8,aI 10 55 [7,9],aa 6 10]) <|
  .seq (.seq (ak [av 11 1 3,au 12 11,aa 13 6,aJ 14 13,aN 15 .eql 12 14]) <|
  .cond (.tmp 15) (.seq (ak [aF 4 0,aX 5 false]) <|
  .ret) (.skip)) <|
  .seq (ak [aa 16 6,av 17 1 3,au 18 17,aP 19 1 16 18,au 20 19,aa 4 20,aX 5 true]) <|
  .ret,
  [.tmp 4,.tmp 5],21⟩
theorem tL:bf Tryz.prog 51 [2,3]=some oE:=by kernel_rfl
theorem IG (g:ao) (hs : -100≤g.start∧g.start≤100) (r:Int) (hr : -1≤r∧r < (g.rules.length:Int)):aD Tryz.prog 55 [.agg (aw g),gi r] (encI (dt g r)):=by
  refine aD.of (by
    intro v hv; simp at hv
    rcases hv with rfl | rfl
    · exact dd _ (dT g)
    · exact .val _) ?_
  refine aC.of mixed sF ?_
  unfold dt
  simp (disch:=omega) only [↓wr,↓reduceIte,wq,ah,ag,aj,ab,ae,af,ai,isNil,Nat.reduceEqDiff,Nat.reduceAdd,Nat.reduceLT,Nat.reduceLeDiff,Int.reduceNeg,Int.reduceToNat,reduceCtorEq,m8,aw,encS]
  refine ax.eq (fun h1=>?_) (fun h1=>?_)
  · simp (disch:=omega) only [↓wr,↓reduceIte,wq,ah,ag,aj,ab,ae,af,ai,isNil,Nat.reduceEqDiff,Nat.reduceAdd,Nat.reduceLT,Nat.reduceLeDiff,Int.reduceNeg,Int.reduceToNat,reduceCtorEq,aw,encS]
    intro n
    rw[if_pos h1]
    rintro h' hv
    refine dN.fr (nI (l:=[-1 - g.start]) (.inr ⟨n,rfl,?_⟩))
    rw[hv]; simp[View.set]
  · have hR:g.rules[r.toNat]?=some (dC g r):=by unfold dC; exact getD_some (by omega)
    rw[if_neg h1]
    generalize dC g r=R at hR
    simp (disch:=omega) only [↓wr,↓reduceIte,wq,ah,ag,aj,ab,ae,af,ai,isNil,Nat.reduceEqDiff,Nat.reduceAdd,Nat.reduceLT,Nat.reduceLeDiff,Int.reduceNeg,Int.reduceToNat,reduceCtorEq,aw,encS,List.getElem?_map,hR,Option.map_some,ba]
    intro h' _
    exact .tree _ (gp R.right)
theorem KP (g:ao) (hs : -100≤g.start∧g.start≤100) (x:aL) (hx : -1≤x.aH∧x.aH < (g.rules.length:Int)) (hd:0≤x.dot∧x.dot≤(dt g x.aH).length) (hl:(dt g x.aH).length≤1000) :
    aD Tryz.prog 51 [.agg (aw g),.agg (bQ x)] (.bu [gi (cU g x).1,gb (cU g x).2]):=by
  have h1:=IG g hs x.aH hx
  refine aD.tree (by
    intro v hv; simp at hv
    rcases hv with rfl | rfl
    · exact dd _ (dT g)
    · exact dd _ fun v hv=>by simp[bQ] at hv; rcases hv with rfl | rfl <;> exact .val _) (.bu _ fun i hi=>by
      match i,hi with
      | 0,_=>exact .val _
      | 1,_=>exact .val _) fun H=>?_
  refine aC.of mixed tL ?_
  simp only[aw,encS,encI] at h1
  unfold cU
  simp (disch:=omega) only [↓wr,↓reduceIte,wq,ah,ag,aj,ab,ae,af,ai,isNil,Nat.reduceEqDiff,Nat.reduceAdd,Nat.reduceLT,Nat.reduceLeDiff,Int.reduceNeg,Int.reduceToNat,reduceCtorEq,oE,aw,encS,bQ]
  refine aG.pure h1 (by kernel_rfl) ?_
  generalize dt g x.aH=R at hd hl ⊢
  simp (disch:=omega) only [↓wr,↓reduceIte,wq,ah,ag,aj,ab,ae,af,ai,isNil,Nat.reduceEqDiff,Nat.reduceAdd,Nat.reduceLT,Nat.reduceLeDiff,Int.reduceNeg,Int.reduceToNat,reduceCtorEq,bQ]
  refine ax.eq (fun h2=>?_) (fun h2=>?_)
  · simp (disch:=omega) only [↓wr,↓reduceIte,wq,ah,ag,aj,ab,ae,af,ai,isNil,Nat.reduceEqDiff,Nat.reduceAdd,Nat.reduceLT,Nat.reduceLeDiff,Int.reduceNeg,Int.reduceToNat,reduceCtorEq]
    rw[if_pos h2]
  · have hg:R[x.dot.toNat]?=some (R.getD x.dot.toNat 0):=getD_some (by omega)
    simp (disch:=omega) only [↓wr,↓reduceIte,wq,ah,ag,aj,ab,ae,af,ai,isNil,Nat.reduceEqDiff,Nat.reduceAdd,Nat.reduceLT,Nat.reduceLeDiff,Int.reduceNeg,Int.reduceToNat,reduceCtorEq,bQ,List.getElem?_map,hg,Option.map_some]
    rw[if_neg h2]
theorem eM {a b:aL} : cb a b=true↔a.aH < b.aH∨a.aH=b.aH∧a.dot < b.dot:=by
  simp[cb]
theorem mC {a b c:aL} (h:cb a b=true) (k:cb b c=true):cb a c=true:=by
  rw[eM] at h k ⊢; omega
theorem jX {a:aL} : cb a a=false:=by
  cases h:cb a a with
  | false=>rfl
  | true=>rw[eM] at h; omega
theorem F8 {a b:aL} (h:cb a b=true):cb b a=false:=by
  cases k:cb b a with
  | false=>rfl
  | true=>have:=mC h k; rw[jX] at this; exact absurd this (by simp)
theorem uJ {a b:aL} (h:cb a b=false) (hne:¬ a=b):cb b a=true:=by
  rw[eM]
  have h1:¬ cb a b=true:=by simp[h]
  rw[eM] at h1
  obtain ⟨ar,ad⟩:=a
  obtain ⟨br,bd⟩:=b
  simp only[aL.mk.injEq] at hne
  simp only at h1 ⊢
  omega
abbrev bS (l:List aL):Prop:=l.Pairwise fun a b=>cb a b=true
theorem iw:∀ {l:List aL} {x y:aL},y∈dJ l x↔y=x∨y∈l
  | [],x,y=>by simp[dJ]
  | z :: l,x,y=>by
    rw[dJ]
    split
    · simp only[List.mem_cons,iw (l:=l)]
      constructor
      · rintro (h | h | h) <;> simp[h]
      · rintro (h | h | h) <;> simp[h]
    · split
      · rename_i h; subst h; simp
      · simp
theorem pV:∀ {l:List aL} {x:aL},bS l→bS (dJ l x)
  | [],x,_=>by simp[dJ,bS]
  | z :: l,x,h=>by
    rw[bS,List.pairwise_cons] at h
    rw[dJ]
    split
    · rename_i hz
      rw[bS,List.pairwise_cons]
      refine ⟨fun y hy=>?_,pV h.2⟩
      rcases iw.1 hy with rfl | hy
      · exact hz
      · exact h.1 y hy
    · rename_i hz
      split
      · exact List.pairwise_cons.2 h
      · rename_i hne
        have hxz:=uJ (by simpa using hz) hne
        rw[bS,List.pairwise_cons]
        refine ⟨fun y hy=>?_,List.pairwise_cons.2 h⟩
        rcases List.mem_cons.1 hy with rfl | hy
        · exact hxz
        · exact mC hxz (h.1 y hy)
theorem CO:∀ (l:List aL) (x:aL),(dJ l x).length=l.length∨(dJ l x).length=l.length+1
  | [],x=>.inr rfl
  | z :: l,x=>by
    rw[dJ]
    split
    · rcases CO l x with h | h <;> simp[h]
    · split <;> simp
theorem zT:∀ {l:List aL} {x:aL},bS l→x∈l→dJ l x=l
  | [],x,_,h=>by simp at h
  | z :: l,x,hs,h=>by
    rw[bS,List.pairwise_cons] at hs
    rw[dJ]
    rcases List.mem_cons.1 h with rfl | h
    · rw[if_neg (by simp[jX]),if_pos rfl]
    · rw[if_pos (hs.1 x h),zT hs.2 h]
theorem zW:∀ {l:List aL} {x:aL},x ∉ l→(dJ l x).length=l.length+1
  | [],x,_=>rfl
  | z :: l,x,h=>by
    simp only[List.mem_cons,not_or] at h
    rw[dJ]
    split
    · simp[zW h.2]
    · rw[if_neg (fun e=>h.1 e.symm)]; rfl
theorem Cp:∀ {l:List aL} {x:aL},(∀ y∈l,cb y x=true)→dJ l x=l ++ [x]
  | [],x,_=>rfl
  | z :: l,x,h=>by
    rw[dJ,if_pos (h z (by simp)),Cp fun y hy=>h y (by simp[hy])]; rfl
theorem xx:∀ {a b:List aL},bS a→bS b→(∀ x,x∈a↔x∈b)→a=b
  | [],[],_,_,_=>rfl
  | [],y :: b,_,_,h=>by have:=(h y).2 (by simp); simp at this
  | x :: a,[],_,_,h=>by have:=(h x).1 (by simp); simp at this
  | x :: a,y :: b,ha,hb,h=>by
    rw[bS,List.pairwise_cons] at ha hb
    have hxy:x=y:=by
      have h1:=(h x).1 (by simp)
      have h2:=(h y).2 (by simp)
      rcases List.mem_cons.1 h1 with h1 | h1
      · exact h1
      · rcases List.mem_cons.1 h2 with h2 | h2
        · exact h2.symm
        · have:=mC (ha.1 y h2) (hb.1 x h1)
          rw[jX] at this; exact absurd this (by simp)
    subst hxy
    congr 1
    refine xx ha.2 hb.2 fun z=>?_
    have hz:=h z
    simp only[List.mem_cons] at hz
    constructor
    · intro hm
      rcases hz.1 (.inr hm) with rfl | h
      · have:=ha.1 z hm; rw[jX] at this; exact absurd this (by simp)
      · exact h
    · intro hm
      rcases hz.2 (.inr hm) with rfl | h
      · have:=hb.1 z hm; rw[jX] at this; exact absurd this (by simp)
      · exact h
theorem Fs:∀ (l:List Int) (a n:Int),l.Pairwise (· < ·)→(∀ x∈l,a≤x∧x < a+n)→0≤n→(l.length:Int)≤n
  | [],a,n,_,_,hn=>by simpa using hn
  | x :: l,a,n,hp,hm,hn=>by
    rw[List.pairwise_cons] at hp
    have h1:=hm x (by simp)
    have:=Fs l (x+1) (a+n - (x+1)) hp.2 (fun y hy=>by have:=hp.1 y hy; have:=hm y (by simp[hy]); omega) (by omega)
    simp only[List.length_cons]; omega
def c4 (g:ao) (x:aL):Prop:=(-1≤x.aH∧x.aH < (g.rules.length:Int))∧0≤x.dot∧x.dot≤(dt g x.aH).length
theorem fF {g:ao} (hf:g.dH) {r:Int} (h : -1≤r∧r < (g.rules.length:Int)):(dt g r).length≤6:=by
  unfold dt
  split
  · simp
  · have hR:g.rules[r.toNat]?=some (dC g r):=by unfold dC; exact getD_some (by omega)
    exact hf.right _ (List.mem_of_getElem? hR)
theorem gT {g:ao} (hf:g.dH) {l:List aL} (hs:bS l) (hl:∀ x∈l,c4 g x):l.length≤287:=by
  have hd:∀ x∈l,0≤x.dot∧x.dot≤6:=fun x hx=>by
    have h1:=hl x hx
    have:=fF hf h1.1
    exact ⟨h1.2.1,by have:=h1.2.2; omega⟩
  have h1:(l.map fun x=>(x.aH+1) * 7+x.dot).Pairwise (· < ·):=by
    rw[List.pairwise_map]
    refine List.Pairwise.imp_of_mem ?_ hs
    intro a b ha hb hab
    rw[eM] at hab
    have:=hd a ha; have:=hd b hb
    omega
  have:=Fs _ 0 287 h1 (fun y hy=>by
    obtain ⟨x,hx,rfl⟩:=List.mem_map.1 hy
    have h2:=(hl x hx).1
    have:=hd x hx; have:=hf.rules
    omega) (by omega)
  simp at this
  omega
inductive lY (g:ao) (l:List aL):aL→Prop
  | base {x:aL} : x∈l→lY g l x
  | step {x:aL} {s:Int} {k:Nat} {R:aT} : lY g l x→cU g x=(s,true)→s < 0→g.rules[k]?=some R→R.left = -1 - s→lY g l ⟨k,0⟩
theorem lY.has {g:ao} {l:List aL} (hl:∀ x∈l,c4 g x) {x:aL} (h:lY g l x):c4 g x:=by
  induction h with
  | base h=>exact hl _ h
  | step _ _ _ hk _ _ =>
    have:=(List.getElem?_eq_some_iff.1 hk).1
    exact ⟨⟨by simp only; omega,by simp only; omega⟩,by simp only; omega,by simp only; omega⟩
def D5 (g:ao):List aL:=(List.range (g.rules.length+1)).flatMap fun (r:Nat)=>(List.range 7).map fun (d:Nat)=>(⟨(r:Int) - 1,(d:Int)⟩:aL)
theorem Ia {g:ao} (hf:g.dH) {x:aL} (h:c4 g x):x∈D5 g:=by
  have:=fF hf h.1
  obtain ⟨⟨h1,h2⟩,h3,h4⟩:=h
  simp only[D5,List.mem_flatMap,List.mem_map,List.mem_range]
  refine ⟨(x.aH+1).toNat,by omega,x.dot.toNat,by omega,?_⟩
  obtain ⟨r,d⟩:=x
  simp only at h1 h2 h3 h4 this
  simp only[aL.mk.injEq]; omega
theorem qG:∀ (l a:List aL),bS a→bS (l.foldl dJ a)∧∀ x,x∈l.foldl dJ a↔x∈a∨x∈l
  | [],a,h=>⟨h,fun x=>by simp⟩
  | y :: l,a,h=>by
    obtain ⟨h1,h2⟩:=qG l (dJ a y) (pV h)
    refine ⟨h1,fun x=>?_⟩
    rw[List.foldl_cons,h2,iw,List.mem_cons]
    constructor
    · rintro ((h | h) | h) <;> simp[h]
    · rintro (h | h | h) <;> simp[h]
open Classical in
noncomputable def cM (g:ao) (l:List aL):List aL:=((D5 g).filter fun x=>decide (lY g l x)).foldl dJ []
theorem p8 (g:ao) (l:List aL):bS (cM g l):=(qG _ [] .nil).1
theorem rl {g:ao} (hf:g.dH) {l:List aL} (hl:∀ x∈l,c4 g x) {x:aL} : x∈cM g l↔lY g l x:=by
  classical
  rw[cM,(qG _ [] .nil).2]
  simp only[List.not_mem_nil,false_or,List.mem_filter,decide_eq_true_eq]
  exact ⟨fun h=>h.2,fun h=>⟨Ia hf (h.has hl),h⟩⟩
theorem F1 {g:ao} (hf:g.dH) {l o:List aL} (hl:∀ x∈l,c4 g x) (hs:bS o) (h1:∀ x∈o,lY g l x) (h2:∀ x∈l,x∈o)
    (h3:∀ x∈o,∀ (s:Int) (k:Nat) (R:aT),cU g x=(s,true)→s < 0→g.rules[k]?=some R→R.left = -1 - s→(⟨k,0⟩:aL)∈o):cM g l=o:=by
  refine xx (p8 g l) hs fun x=>?_
  rw[rl hf hl]
  refine ⟨fun h=>?_,h1 x⟩
  induction h with
  | base h=>exact h2 _ h
  | step _ hn hs hk hL ih=>exact h3 _ ih _ _ _ hn hs hk hL
def bc (g:ao) (l:List aL) (s:Int):List aL:=(l.filter fun x=>decide (cU g x=(s,true))).map fun x=>⟨x.aH,x.dot+1⟩
theorem Fy {g:ao} {l:List aL} {s:Int} {y:aL} : y∈bc g l s↔∃ x∈l,cU g x=(s,true)∧y=⟨x.aH,x.dot+1⟩:=by
  simp only[bc,List.mem_map,List.mem_filter,decide_eq_true_eq]
  constructor
  · rintro ⟨x,⟨h1,h2⟩,rfl⟩; exact ⟨x,h1,h2,rfl⟩
  · rintro ⟨x,h1,h2,rfl⟩; exact ⟨x,⟨h1,h2⟩,rfl⟩
theorem Di {g:ao} {l:List aL} (s:Int) (h:bS l):bS (bc g l s):=by
  rw[bS,bc,List.pairwise_map]
  refine (h.filter _).imp ?_
  intro a b hab
  rw[eM] at hab ⊢
  simp only; omega
theorem yp {g:ao} {x:aL} {s:Int} (h:cU g x=(s,true)):x.dot≠(dt g x.aH).length∧(dt g x.aH).getD x.dot.toNat 0=s:=by
  unfold cU at h
  split at h
  · simp at h
  · rename_i hd; exact ⟨hd,by simpa using h⟩
theorem Ex {g:ao} {l:List aL} {s:Int} (hl:∀ x∈l,c4 g x):∀ y∈bc g l s,c4 g y:=by
  intro y hy
  obtain ⟨x,hx,hn,rfl⟩:=Fy.1 hy
  have h1:=hl x hx
  have h2:=(yp hn).1
  exact ⟨h1.1,by simp only; have:=h1.2; omega,by simp only; have:=h1.2; omega⟩
theorem KY {g:ao} {l:List aL} (hs:bS l) {i:Nat} {x:aL} (hx:l[i]?=some x) (s:Int) :
    bc g (l.take (i+1)) s=if cU g x=(s,true) then dJ (bc g (l.take i) s) ⟨x.aH,x.dot+1⟩ else bc g (l.take i) s:=by
  have e:l.take (i+1)=l.take i ++ [x]:=by rw[List.take_add_one,hx]; rfl
  rw[e]
  split
  · rename_i h
    rw[Cp]
    · simp[bc,h]
    · intro y hy
      obtain ⟨z,hz,_,rfl⟩:=Fy.1 hy
      have h2:bS (l.take (i+1)):=hs.sublist (List.take_sublist _ _)
      rw[e,bS,List.pairwise_append] at h2
      have:=h2.2.2 z hz x (by simp)
      rw[eM] at this ⊢
      simp only; omega
  · rename_i h
    simp[bc,h]
theorem qv {g:ao} {l:List aL} {s:Int} : (bc g l s).length≤l.length:=by
  rw[bc,List.length_map]; exact List.length_filter_le _ _
structure bt where
  bo:List aL
  bT:List fh
  deriving DecidableEq
abbrev cg:bt:=⟨[],[]⟩
def aU (g:ao) (i:Nat):Int:=if i < g.az.length then i else -1 - ((i:Int) - g.az.length)
def findD:List bt→List aL→Int
  | [],_=>-1
  | s :: l,k=>if s.bo=k then 0 else if findD l k < 0 then -1 else findD l k+1
theorem qC:∀ (l:List bt) (k:List aL),-1≤findD l k
  | [],_=>by simp[findD]
  | s :: l,k=>by
    have:=qC l k
    rw[findD]; split
    · omega
    · split <;> omega
theorem ur:∀ (l:List bt) (k:List aL),findD l k < l.length
  | [],_=>by simp[findD]
  | s :: l,k=>by
    have:=ur l k
    rw[findD]; simp only[List.length_cons]; split
    · omega
    · split <;> omega
theorem Fe:∀ (l:List bt) (k:List aL) (i:Nat),findD l k=i→∃ s,l[i]?=some s∧s.bo=k
  | [],_,i,h=>by simp[findD] at h
  | s :: l,k,i,h=>by
    rw[findD] at h
    split at h
    · rename_i e
      have:i=0:=by omega
      subst this
      exact ⟨s,rfl,e⟩
    · split at h
      · omega
      · obtain ⟨j,rfl⟩:∃ j,i=j+1:=⟨i - 1,by omega⟩
        obtain ⟨t,h1,h2⟩:=Fe l k j (by omega)
        exact ⟨t,by simpa using h1,h2⟩
theorem Ej:∀ (l:List bt) (k:List aL),findD l k < 0→∀ s∈l,s.bo≠k
  | [],_,_,s,hs=>by simp at hs
  | t :: l,k,h,s,hs=>by
    rw[findD] at h
    split at h
    · omega
    · rename_i hne
      have hl:findD l k < 0:=by
        split at h
        · assumption
        · omega
      rcases List.mem_cons.1 hs with rfl | hs
      · exact hne
      · exact Ej l k hl s hs
theorem Ft:∀ (l:List bt) (k:List aL) (i:Nat) (s:bt),l[i]?=some s→s.bo=k→(∀ j t,j < i→l[j]?=some t→t.bo≠k)→findD l k=i
  | [],_,_,_,h,_,_=>by simp at h
  | t :: l,k,0,s,h,hk,_=>by simp at h; subst h; simp[findD,hk]
  | t :: l,k,i+1,s,h,hk,hn=>by
    have h0:=hn 0 t (by omega) rfl
    have:=Ft l k i s (by simpa using h) hk fun j u hj hu=>hn (j+1) u (by omega) (by simpa using hu)
    rw[findD,if_neg h0,this,if_neg (by omega)]; omega
theorem AF:∀ (l:List bt) (k:List aL),(∀ s∈l,s.bo≠k)→findD l k = -1
  | [],_,_=>rfl
  | t :: l,k,h=>by
    have:=AF l k fun s hs=>h s (by simp[hs])
    rw[findD,if_neg (h t (by simp)),this]; rfl
def cX (g:ao) (l:List aL) (at_:Nat) (out:List bt) (i:Nat):List bt :=
  if bc g l (aU g i)=[] then out else
  if findD out (bc g l (aU g i)) < 0 then (out ++ [(⟨bc g l (aU g i),[]⟩:bt)]).modify at_ fun s=>(⟨s.bo,s.bT ++ [⟨aU g i,out.length⟩]⟩:bt)
  else out.modify at_ fun s=>(⟨s.bo,s.bT ++ [⟨aU g i,findD out (bc g l (aU g i))⟩]⟩:bt)
noncomputable def Fm (g:ao) (at_:Nat) (out:List bt) (n:Nat):List bt:=(List.range n).foldl (cX g (cM g (out.getD at_ cg).bo) at_) out
noncomputable def gB (g:ao):Nat→Nat→List bt→List bt × Int
  | 0,_,out=>(out,0)
  | f+1,at_,out=>if at_ < out.length then
      (if 300 < (Fm g at_ out (g.az.length+g.ay.length)).length then ([],5) else gB g f (at_+1) (Fm g at_ out (g.az.length+g.ay.length)))
    else (out,0)
def fe:List bt:=[⟨[⟨-1,0⟩],[]⟩]
abbrev BV:=BitVec 32
def Qc (n:Int):BV:=if 0≤n∧n≤31 then BitVec.twoPow 32 n.toNat else 0
theorem Po {a b:BV} (h:∀ i,i < 32→a.getLsbD i=b.getLsbD i):a=b:=BitVec.eq_of_getLsbD_eq fun i hi=>h i hi
def QH (a b:BV):Prop:=∀ i,a.getLsbD i=true→b.getLsbD i=true
def OV (null:List Bool) (first:List BV) (rest:BV):List Int→BV
  | []=>rest
  | s :: l=>if 0≤s then Qc s else if null.getD (-1 - s).toNat false=true then first.getD (-1 - s).toNat 0 ||| OV null first rest l else first.getD (-1 - s).toNat 0
def PJ (null:List Bool) (fs:List BV) (r:aT):List BV:=fs.set r.left.toNat (fs.getD r.left.toNat 0 ||| OV null fs 0 r.right)
def OO (g:ao) (null:List Bool) (fs:List BV):List BV:=g.rules.foldl (PJ null) fs
def O3 (g:ao) (null:List Bool):List BV:=iter (OO g null) g.ay.length (List.replicate g.ay.length 0)
def DB:List fh→Int→Int
  | [],_=>-1
  | e :: l,s=>if e.sym=s then e.to else DB l s
def Ki (a:List bt):Int→List Int→Int × Bool
  | at_,[]=>(at_,true)
  | at_,s :: l=>if 0≤DB (a.getD at_.toNat cg).bT s∧DB (a.getD at_.toNat cg).bT s < a.length then Ki a (DB (a.getD at_.toNat cg).bT s) l else (0,false)
def NH (a:List bt) (at_:Int) (l:List Int):Int × Bool:=if at_ < 0∨(a.length:Int)≤at_ then (0,false) else Ki a at_ l
abbrev Sets:=List (List BV)
def xy (ss:Sets) (i k:Nat):BV:=(ss.getD i []).getD k 0
def Hs (ls:List (List aL)) (ss:Sets):Prop:=ss.length=ls.length∧∀ i:Nat,(ss.getD i []).length=(ls.getD i []).length
def yj (a b:Sets):Prop:=a.length=b.length∧(∀ i:Nat,(a.getD i []).length=(b.getD i []).length)∧∀ i k,QH (xy a i k) (xy b i k)
theorem yj.refl {a:Sets} : yj a a:=⟨rfl,fun _=>rfl,fun _ _ _ h=>h⟩
theorem yj.trans {a b c:Sets} (h:yj a b) (k:yj b c):yj a c:=⟨h.1.trans k.1,fun i=>(h.2.1 i).trans (k.2.1 i),fun i j t ht=>k.2.2 i j t (h.2.2 i j t ht)⟩
theorem yj.IJ {a b:Sets} (h:yj a b) (k:yj b a):a=b:=by
  refine List.ext_getElem h.1 fun i h1 h2=>?_
  have e1:a.getD i []=a[i]:=by simp[List.getD_eq_getElem?_getD,h1]
  have e2:b.getD i []=b[i]:=by simp[List.getD_eq_getElem?_getD,h2]
  refine List.ext_getElem (by rw[← e1,← e2]; exact h.2.1 i) fun j h3 h4=>?_
  have g1:xy a i j=a[i][j]:=by rw[xy,e1]; simp[List.getD_eq_getElem?_getD,h3]
  have g2:xy b i j=b[i][j]:=by rw[xy,e2]; simp[List.getD_eq_getElem?_getD,h4]
  rw[← g1,← g2]
  refine Po fun t _=>?_
  have p:=h.2.2 i j t
  have q:=k.2.2 i j t
  cases hx:(xy a i j).getLsbD t with
  | true=>rw[p hx]
  | false =>
    cases hy:(xy b i j).getLsbD t with
    | false=>rfl
    | true=>rw[q hy] at hx; exact absurd hx (by simp)
theorem Hs.le {ls:List (List aL)} {a b:Sets} (h:Hs ls a) (k:yj a b):Hs ls b:=⟨k.1.symm.trans h.1,fun i=>(k.2.1 i).symm.trans (h.2 i)⟩
theorem rz {α:Type} (l:List α) (i j:Nat) (x d:α):(l.set i x).getD j d=if i=j∧i < l.length then x else l.getD j d:=by
  simp only[List.getD_eq_getElem?_getD,List.getElem?_set]
  by_cases e:i=j
  · subst e
    by_cases h:i < l.length
    · simp[h]
    · simp[h]
  · simp[e]
theorem Hs.eq {ls:List (List aL)} {a b:Sets} (h:Hs ls a) (k:Hs ls b):a.length=b.length∧∀ i:Nat,(a.getD i []).length=(b.getD i []).length:=⟨h.1.trans k.1.symm,fun i=>(h.2 i).trans (k.2 i).symm⟩
def O0 (g:ao) (x:aL):List Int:=if 0≤x.aH then (dC g x.aH).right.drop (x.dot+1).toNat else []
inductive EA (g:ao) (null:List Bool) (a:List bt) (ls:List (List aL)):Nat→aL→Nat→Prop
  | start:(⟨-1,0⟩:aL)∈ls.getD 0 []→EA g null a ls 0 ⟨-1,0⟩ g.az.length
  | move {i:Nat} {x:aL} {t:Nat} {s:Int} : EA g null a ls i x t→cU g x=(s,true)→(⟨x.aH,x.dot+1⟩:aL)∈ls.getD (NH a i [s]).1.toNat []→EA g null a ls (NH a i [s]).1.toNat ⟨x.aH,x.dot+1⟩ t
  | begin {i:Nat} {x:aL} {t u:Nat} {s:Int} {k:Nat} : EA g null a ls i x t→cU g x=(s,true)→s < 0→k < g.rules.length→(dC g k).left = -1 - s→(⟨k,0⟩:aL)∈ls.getD i [] →
      (OV null (O3 g null) (BitVec.twoPow 32 t) (O0 g x)).getLsbD u=true→EA g null a ls i ⟨k,0⟩ u
theorem EA.mem {g:ao} {null:List Bool} {a:List bt} {ls:List (List aL)} {i:Nat} {x:aL} {t:Nat} (h:EA g null a ls i x t):x∈ls.getD i []:=by
  cases h <;> assumption
section
variable {g:ao} {null:List Bool} {a:List bt} {ls:List (List aL)}
end
end Gv
