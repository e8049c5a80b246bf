/-
  Part 9 of the proof: what the machine does and what the functions answer.
  Conditions: those that each lemma names.
-/
import Derived.Shelf.SlIter.Sorted
import Derived.Shelf.SortM.Plain
import Derived.Shelf.SortM.SortNone
import Derived.Shelf.SlicesG.CompactS
import Derived.Test.YtomcjampldmjoaaGreatSGzXH
set_option linter.unusedSimpArgs false
set_option linter.unusedVariables false
set_option maxRecDepth 100000
namespace Gv
open Go Go.Proofs
def owner:V→Option Nat
  | .sl id _ _ _=>some id
  | _=>none
def bj (H:View) (u:V) (sz:Nat) (es:List (List V)):Prop :=
  (es=[]∧∃ k,u=.emp k)∨(∃ n,u=.sl n 0 es.length sz∧H n=.arr sz es)
theorem bj.nil {H:View} {sz k:Nat} : bj H (.emp k) sz []:=.inl ⟨rfl,k,rfl⟩
theorem bj.len {H:View} {u:V} {sz:Nat} {es:List (List V)} (h:bj H u sz es):dh u=some es.length:=by
  rcases h with ⟨rfl,k,rfl⟩ | ⟨n,rfl,_⟩ <;> rfl
theorem bj.live {H:View} {u:V} {sz:Nat} {es:List (List V)} (h:bj H u sz es) {id:Nat} (hid:owner u=some id):H id=.arr sz es∧u=.sl id 0 es.length sz:=by
  rcases h with ⟨rfl,k,rfl⟩ | ⟨n,rfl,hn⟩
  · simp[owner] at hid
  · simp[owner] at hid; subst hid; exact ⟨hn,rfl⟩
theorem bj.keep {H H':View} {u:V} {sz:Nat} {es:List (List V)} (h:bj H u sz es) (hk:∀ id,owner u=some id→H' id=H id):bj H' u sz es:=by
  rcases h with ⟨rfl,k,rfl⟩ | ⟨n,rfl,hn⟩
  · exact .inl ⟨rfl,k,rfl⟩
  · exact .inr ⟨n,rfl,by rw[hk n rfl]; exact hn⟩
theorem bj.fresh {H:View} {u:V} {sz m:Nat} {es:List (List V)} {o:bM} (h:bj H u sz es) (hm:H m=.dead):bj (H.set m o) u sz es :=
  h.keep fun id hid=>by
    have:=(h.live hid).1
    have e:id≠m:=by rintro rfl; rw[hm] at this; simp at this
    simp[View.set,e]
theorem bj.ne {H:View} {u:V} {sz m:Nat} {es:List (List V)} (h:bj H u sz es) (hm:H m=.dead):owner u≠some m:=fun e=>by
  have:=(h.live e).1; rw[hm] at this; simp at this
theorem bj.other {H:View} {u:V} {sz m:Nat} {es:List (List V)} {o:bM} (h:bj H u sz es) (hm:owner u≠some m):bj (H.set m o) u sz es :=
  h.keep fun id hid=>by
    have e:id≠m:=by rintro rfl; exact hm hid
    simp[View.set,e]
theorem bj.new {H:View} {n sz:Nat} {es:List (List V)} : bj (H.set n (.arr sz es)) (.sl n 0 es.length sz) sz es:=.inr ⟨n,rfl,by simp[View.set]⟩
theorem cn {H:View} {m z sz:Nat} {e:List V} : bF (View.set H m (.arr z [e])) (.sl m 0 1 sz)=some ([e],[m]):=by
  simp[bF,View.set]
def Left (H H':View) (u u':V):Prop:=∀ id,H id≠.dead→owner u≠some id→H' id=H id∧owner u'≠some id
theorem rW {sz bytes:Nat} {u:V} {es xs:List (List V)} {H:View} {K:V→View→Prop} {w:ct (H,K)} (ho:bj H u sz es) (hx:xs≠[]) (hok:(xs.all fun e=>e.length == sz && e.all aU)=true)
    (hl:(es.length+xs.length) * bytes < aP) (hl2:es.length+xs.length < aP) (hk:∀ u' H',bj H' u' sz (es ++ xs)→Left H H' u u'→K u' H'):lP sz bytes u xs H K w:=by
  have he:xs.isEmpty=false:=by cases xs with | nil=>exact absurd rfl hx | cons=>rfl
  rcases ho with ⟨rfl,k,rfl⟩ | ⟨n,rfl,hn⟩
  · rw[yK _ _ _ _ _ _ _ he]
    refine ⟨hok,⟨by simpa using hl,by simpa using hl2⟩,fun m hm=>hk _ _ ?_ ?_⟩
    · exact .inr ⟨m,rfl,by simp[View.set]⟩
    · intro id hid _
      have e:id≠m:=by rintro rfl; exact hid hm
      exact ⟨by simp[View.set,e],by simp[owner,Ne.symm e]⟩
  · rw[qM _ _ _ _ _ _ _ _ _ _ he,hn]
    refine ⟨hok,⟨by simp,rfl,hl,hl2⟩,fun m hm=>hk _ _ ?_ ?_⟩
    · refine .inr ⟨m,by simp,by simp[View.set]⟩
    · intro id hid ho
      have e:id≠m:=by rintro rfl; exact hid hm
      have e2:id≠n:=by rintro rfl; exact ho rfl
      exact ⟨by simp[View.set,e,e2],by simp[owner,Ne.symm e]⟩
theorem Left.refl {H:View} {u:V} : Left H H u u:=fun _ _ h=>⟨rfl,h⟩
theorem DL {sz bytes:Nat} {u:V} {es xs:List (List V)} {H:View} {K:V→View→Prop} {w:ct (H,K)} (ho:bj H u sz es) (hok:(xs.all fun e=>e.length == sz && e.all aU)=true)
    (hl:(es.length+xs.length) * bytes < aP) (hl2:es.length+xs.length < aP) (hk:∀ u' H',bj H' u' sz (es ++ xs)→Left H H' u u'→K u' H'):lP sz bytes u xs H K w:=by
  cases xs with
  | nil =>
    have:=hk u H (by simpa using ho) .refl
    rcases ho with ⟨rfl,k,rfl⟩ | ⟨n,rfl,hn⟩
    · exact this
    · exact this
  | cons x xs=>exact rW ho (by simp) hok hl hl2 hk
theorem ef.own {H:View} {u:V} {sz:Nat} {es:List (List V)} (h:bj H u sz es) (ht:∀ e∈es,∀ v∈e,Tree v):ef H u (.aL es):=by
  rcases h with ⟨rfl,k,rfl⟩ | ⟨n,rfl,hn⟩
  · exact fun h _=>.emp k
  · have:=ef.sl (off:=0) (len:=es.length) (esz:=sz) hn (by simp) ht
    rwa [List.drop_zero,List.take_of_length_le (by simp)] at this
theorem cK.own {h:aH} {u:V} {sz:Nat} {es:List (List V)} {es':List (List V)} (ho:bj h.view u sz es) (hl:es'.length=es.length) (hi:∀ i,i < es.length→(es'.getD i []).length=(es.getD i []).length)
    (hv:∀ i j,i < es.length→j < (es'.getD i []).length→cK h ((es.getD i []).getD j .any) ((es'.getD i []).getD j .any)):cK h u (.aL es'):=by
  rcases ho with ⟨rfl,k,rfl⟩ | ⟨n,rfl,hn⟩
  · have:es'=[]:=List.length_eq_zero_iff.1 (by simpa using hl)
    subst this
    exact .emp k
  · exact .sl n 0 es.length sz sz es es' hn (by simp) hl (fun i h=>by rw[Nat.zero_add]; exact hi i h) (fun i j h1 h2=>by rw[Nat.zero_add]; exact hv i j h1 h2)
theorem cK.Ms {h:aH} {α:Type} {u:V} {sz:Nat} {l:List α} {f:α→Value} (ho:bj h.view u sz (l.map fun x=>[V.val (f x)])):cK h u (.aL (l.map fun x=>[V.val (f x)])):=by
  refine cK.own ho rfl (fun i _=>rfl) (fun i j hi hj=>?_)
  simp only[List.length_map] at hi
  have e:(l.map fun x=>[V.val (f x)]).getD i []=[V.val (f l[i])]:=by simp[List.getD_eq_getElem?_getD,hi]
  rw[e] at hj ⊢
  have:j=0:=by simp at hj; omega
  subst this
  exact .val _
def er (H H':View) (r:V):Prop:=∀ id,H id≠.dead→H' id=H id∧owner r≠some id
theorem er.emp {H:View} {k:Nat} : er H H (.emp k):=fun _ _=>⟨rfl,by simp[owner]⟩
theorem er.new {H:View} {n a b c:Nat} {o:bM} (hn:H n=.dead):er H (H.set n o) (.sl n a b c):=fun id hid=>by
  have e:id≠n:=by rintro rfl; exact hid hn
  exact ⟨by simp[View.set,e],by simp[owner,Ne.symm e]⟩
theorem bj.left {H H':View} {u u' x:V} {sz:Nat} {es:List (List V)} (h:bj H x sz es) (hl:Left H H' u u') (hd:∀ id,owner x=some id→owner u≠some id):bj H' x sz es :=
  h.keep fun id hid=>(hl id (by rw[(h.live hid).1]; simp) (hd id hid)).1
theorem bj.PY {H H':View} {x r:V} {sz:Nat} {es:List (List V)} (h:bj H x sz es) (hl:er H H' r):bj H' x sz es :=
  h.keep fun id hid=>(hl id (by rw[(h.live hid).1]; simp)).1
theorem set_set {H:View} {n:Nat} {a b:bM} : View.set (View.set H n a) n b=View.set H n b:=by
  funext id; simp only[View.set]; split <;> rfl
theorem dq {m b:Nat} {o x:bM} (h:(if m=b then o else x)=.dead) (ho:o≠.dead):m≠b∧x=.dead:=by
  split at h
  · exact absurd h ho
  · rename_i e; exact ⟨e,h⟩
theorem cU {z:Nat} {es:List (List V)} : bM.arr z es≠.dead:=by simp
def r8 (H:View):List V→List V→Prop
  | [],[]=>True
  | v :: vs,t :: ts=>ef H v t∧r8 H vs ts
  | _,_=>False
theorem r8.len {H:View} : ∀ {vs ts:List V},r8 H vs ts→ts.length=vs.length
  | [],[],_=>rfl
  | _ :: _,_ :: _,h=>by simp[r8.len h.2]
theorem r8.get {H:View} : ∀ {vs ts:List V},r8 H vs ts→∀ i,i < vs.length→ef H (vs.getD i .any) (ts.getD i .any)
  | [],[],_,i,hi=>by simp at hi
  | _ :: _,_ :: _,h,0,_=>h.1
  | _ :: _,_ :: _,h,i+1,hi=>r8.get h.2 i (by simpa using hi)
theorem aN.QO {P:Program} {q:Bool} {f:FuncId} {H:View} {vs ts:List V} {K:V→View→Prop} {v:ct (H,K)} {t:V} (hc:aI P f ts t) (hok:cA P f=true) (hf:Aw t) (hl:r8 H vs ts) (hk:K t H):aN P q f vs H K v :=
  aN.borrow hc hok hf hl.len hl.get hk
theorem ef.box {H:View} {q z:Nat} {e:List V} (hq:H q=.arr z [e]) (ht:∀ v∈e,Tree v):ef H (.ptr q 0 0) (.aQ e 0):=by
  rintro h rfl
  refine .ptr q 0 0 z [e] e hq (by simp) (by simp) (fun k hk=>?_)
  simp only[List.getD_cons_zero]
  have e2:e.getD k .any=e[k]:=by simp[List.getD_eq_getElem?_getD,hk]
  rw[e2]
  exact .tree _ (ht _ (List.getElem_mem _))
theorem bj.sl {H:View} {u:V} {sz:Nat} {es:List (List V)} (h:bj H u sz es) (hne:0 < es.length):∃ n,u=.sl n 0 es.length sz∧H n=.arr sz es:=by
  rcases h with ⟨rfl,_⟩ | h
  · simp at hne
  · exact h
abbrev e9:=V × Nat × List (List V)
def bA (H:View) (L:List e9):Prop:=(∀ x∈L,bj H x.1 x.2.1 x.2.2)∧(L.filterMap fun x=>owner x.1).Nodup
theorem bA.nil {H:View} : bA H []:=⟨fun x hx=>by simp at hx,by simp⟩
theorem bA.head {H:View} {x:e9} {L:List e9} (h:bA H (x :: L)):bj H x.1 x.2.1 x.2.2:=h.1 x (by simp)
theorem bA.tail {H:View} {x:e9} {L:List e9} (h:bA H (x :: L)):bA H L:=by
  refine ⟨fun y hy=>h.1 y (by simp[hy]),?_⟩
  have:=h.2
  simp only[List.filterMap_cons] at this
  split at this
  · exact this
  · exact (List.nodup_cons.1 this).2
theorem bA.perm {H:View} {L L':List e9} (h:bA H L) (p:L.Perm L'):bA H L' :=
  ⟨fun x hx=>h.1 x (p.mem_iff.2 hx),(p.filterMap _).nodup_iff.1 h.2⟩
theorem y9 {α:Type} : ∀ (L:List α) (k:Nat) (hk:k < L.length),L.Perm (L[k] :: L.eraseIdx k)
  | x :: L,0,_=>.refl _
  | x :: L,k+1,hk=>by
    have:=y9 L k (by simpa using hk)
    exact (this.cons x).trans (.swap _ _ _)
theorem bA.at {H:View} {L:List e9} (h:bA H L) (k:Nat) (hk:k < L.length):bA H (L[k] :: L.eraseIdx k) :=
  h.perm (y9 L k hk)
theorem bA.obj {H:View} {n k sz:Nat} {es:List (List V)} {L:List e9} (h:bA H ((.sl n 0 k sz,sz,es) :: L)) (hes:es≠[]):H n=.arr sz es∧k=es.length:=by
  rcases h.head with ⟨e,_⟩ | ⟨m,e,hm⟩
  · exact absurd e hes
  · simp only[V.sl.injEq] at e
    obtain ⟨rfl,_,rfl,_⟩:=e
    exact ⟨hm,rfl⟩
theorem bA.off {H:View} {x:e9} {L:List e9} (h:bA H (x :: L)) {id:Nat} (hid:owner x.1=some id):∀ y∈L,owner y.1≠some id:=by
  intro y hy e
  have:=h.2
  simp only[List.filterMap_cons,hid,List.nodup_cons,List.mem_filterMap,not_exists,not_and] at this
  exact this.1 y hy e
theorem bA.live {H:View} {x:e9} {L:List e9} (h:bA H L) (hx:x∈L) {id:Nat} (hid:owner x.1=some id):H id≠.dead:=by
  rw[((h.1 x hx).live hid).1]; simp
theorem bA.keep {H H':View} {L:List e9} (h:bA H L) (hk:∀ x∈L,∀ id,owner x.1=some id→H' id=H id):bA H' L :=
  ⟨fun x hx=>(h.1 x hx).keep (hk x hx),h.2⟩
theorem bA.new {H:View} {L:List e9} (h:bA H L) {n:Nat} (hn:H n=.dead) (sz:Nat) (es:List (List V)):bA (H.set n (.arr sz es)) ((.sl n 0 es.length sz,sz,es) :: L):=by
  refine ⟨fun x hx=>?_,?_⟩
  · rcases List.mem_cons.1 hx with rfl | hx
    · exact .new
    · exact (h.1 x hx).fresh hn
  · simp only[List.filterMap_cons,owner,List.nodup_cons,List.mem_filterMap,not_exists,not_and]
    exact ⟨fun x hx e=>h.live hx e hn,h.2⟩
theorem bA.Qx {H H':View} {L:List e9} (h:bA H L) {u:V} {sz:Nat} {es:List (List V)} (ho:bj H' u sz es) (hf:er H H' u):bA H' ((u,sz,es) :: L):=by
  refine ⟨fun x hx=>?_,?_⟩
  · rcases List.mem_cons.1 hx with rfl | hx
    · exact ho
    · exact (h.1 x hx).PY hf
  · cases hu:owner u with
    | none=>simp only[List.filterMap_cons,hu]; exact h.2
    | some id =>
      simp only[List.filterMap_cons,hu,List.nodup_cons,List.mem_filterMap,not_exists,not_and]
      exact ⟨fun x hx e=>(hf id (h.live hx e)).2 hu,h.2⟩
theorem bA.fresh {H:View} {L:List e9} (h:bA H L) {n:Nat} (hn:H n=.dead) {o:bM} : bA (H.set n o) L :=
  ⟨fun x hx=>(h.1 x hx).fresh hn,h.2⟩
theorem bA.put {H:View} {L:List e9} {n k sz:Nat} {es es':List (List V)} (h:bA H ((.sl n 0 k sz,sz,es) :: L)) (hl:es'.length=es.length) (hk:k=es.length):bA (H.set n (.arr sz es')) ((.sl n 0 k sz,sz,es') :: L):=by
  refine ⟨fun x hx=>?_,by simpa [List.filterMap_cons,owner] using h.2⟩
  rcases List.mem_cons.1 hx with rfl | hx
  · exact .inr ⟨n,by simp[hl,hk],by simp[View.set]⟩
  · exact (h.1 x (by simp[hx])).other (h.off rfl x hx)
theorem bA.left {H H':View} {L:List e9} {u u':V} {sz:Nat} {es es':List (List V)} (h:bA H ((u,sz,es) :: L)) (ho:bj H' u' sz es') (hl:Left H H' u u'):bA H' ((u',sz,es') :: L):=by
  have hoff:∀ x∈L,∀ id,owner x.1=some id→owner u≠some id:=fun x hx id hid hu=>h.off hu x hx hid
  refine ⟨fun x hx=>?_,?_⟩
  · rcases List.mem_cons.1 hx with rfl | hx
    · exact ho
    · exact (h.1 x (by simp[hx])).left hl (hoff x hx)
  · have ht:=h.tail.2
    cases hu:owner u' with
    | none=>simp only[List.filterMap_cons,hu]; exact ht
    | some id =>
      simp only[List.filterMap_cons,hu,List.nodup_cons,List.mem_filterMap,not_exists,not_and]
      refine ⟨fun x hx e=>?_,ht⟩
      have hlv:=h.tail.live hx e
      exact (hl id hlv (hoff x hx id e)).2 hu
theorem eQ {sz bytes:Nat} {u:V} {es xs:List (List V)} {L:List e9} {H:View} {K:V→View→Prop} {w:ct (H,K)} (ho:bA H ((u,sz,es) :: L)) (hok:(xs.all fun e=>e.length == sz && e.all aU)=true)
    (hl:(es.length+xs.length) * bytes < aP) (hl2:es.length+xs.length < aP) (hk:∀ u' H',bA H' ((u',sz,es ++ xs) :: L)→Left H H' u u'→K u' H'):lP sz bytes u xs H K w :=
  DL ho.head hok hl hl2 fun u' H' h1 h2=>hk u' H' (ho.left h1 h2) h2
theorem bA.emp {H:View} {L:List e9} (h:bA H L) {k sz:Nat} : bA H ((.emp k,sz,[]) :: L):=by
  refine ⟨fun x hx=>?_,by simpa [List.filterMap_cons,owner] using h.2⟩
  rcases List.mem_cons.1 hx with rfl | hx
  · exact .nil
  · exact h.1 x hx
theorem bj.cells {H:View} {u:V} {sz:Nat} {es:List (List V)} (h:bj H u sz es):V.cells u=[u]:=by
  rcases h with ⟨rfl,k,rfl⟩ | ⟨n,rfl,_⟩ <;> rfl
theorem bj.jC {H:View} {u:V} {sz:Nat} {es:List (List V)} (h:bj H u sz es):aU u=true:=by
  rcases h with ⟨rfl,k,rfl⟩ | ⟨n,rfl,_⟩ <;> rfl
theorem bA.ne {H:View} {n k sz m:Nat} {es:List (List V)} {L:List e9} (h:bA H ((.sl n 0 k sz,sz,es) :: L)) (hes:es≠[]) (hm:H m=.dead):n≠m:=by
  rintro rfl; rw[(h.obj hes).1] at hm; simp at hm
theorem bA.Nt {H:View} {L:List e9} (h:bA H L) (i j:Nat) {a k1 s1 b k2 s2 t1 t2:Nat} {e1 e2:List (List V)} (hi:L[i]?=some (.sl a 0 k1 s1,t1,e1)) (hj:L[j]?=some (.sl b 0 k2 s2,t2,e2)) (hij:i≠j):a≠b:=by
  rintro rfl
  obtain ⟨hil,hi⟩:=List.getElem?_eq_some_iff.1 hi
  have h1:=h.at i hil
  rw[hi] at h1
  exact h1.off (id:=a) rfl _ (List.mem_eraseIdx_iff_getElem?.2 ⟨j,hij.symm,hj⟩) rfl
theorem B0 {α:Type} {a b c:α} {l:List α} : (a :: b :: c :: l).Perm (b :: c :: a :: l):=(List.Perm.swap _ _ _).trans ((List.Perm.swap _ _ _).cons _)
theorem bA.own {H:View} {L:List e9} (h:bA H L) (i:Nat) {u:V} {sz:Nat} {es:List (List V)} (hi:L[i]?=some (u,sz,es)):bj H u sz es:=h.1 _ (List.mem_of_getElem? hi)
theorem bA.is {H:View} {L:List e9} (h:bA H L) (i:Nat) {n k sz:Nat} {es:List (List V)} (hi:L[i]?=some (.sl n 0 k sz,sz,es)) (hes:0 < es.length):H n=.arr sz es:=by
  obtain ⟨m,e,hm⟩:=(h.own i hi).sl hes
  simp only[V.sl.injEq] at e
  rw[e.1]; exact hm
theorem Left.map {H H':View} {u u':V} {b c:Nat} {es:List (V × V × Nat)} {sz:Nat} {xs:List (List V)} (hl:Left H H' u u') (ho:bj H u sz xs) (hb:H b=.map es c):H' b=.map es c:=by
  rw[(hl b (by rw[hb]; simp) (fun e=>by have:=(ho.live e).1; rw[hb] at this; simp at this)).1,hb]
def xw:SC :=
  .seq (aq [aC 20 .lss 19 18]) <|
  .seq (.cond (.tmp 20) (.skip) (.exit 0)) <|
  .seq (.block 1 (.seq (aq [aa 21 19,aa 3 21]) <|
  .seq (aq [aa 22 0,aa 23 3,((some 24),.op (.cM (.tmp 22) (.tmp 23))),aJ 25 136 [24],bC 26 25]) <|
  .cond (.tmp 26) (.seq (aq [aM 2 false]) <|
  .ret) (.skip))) <|
  aq [au 27 .add 19 1,aa 19 27]
def Bf:SF:=⟨.seq (aq [aM 2 false]) <|
  .seq (.seq (.region false [⟨none,[aa 4 0,((some 5),.op (.iq .eql (.tmp 4) (.val (.val (.string ⟨#[]⟩))))),aa 6 5]⟩,⟨(some (6,false)),[aa 7 0,((some 8),.op (.fY (.tmp 7))),au 9 .gtr 8 20]⟩,⟨none,[aS 10 6 9,aa 11 10]⟩,⟨(some (11,false)),[aa 12 0,((some 13),.op (.cM (.tmp 12) (.val (.val (.int .i64 0))))),aJ 14 135 [13],bC 15 14]⟩,⟨none,[aS 16 11 15]⟩]) <|
  .cond (.tmp 16) (.seq (aq [aM 2 false]) <|
  .ret) (.skip)) <|
  .seq (.seq (aq [aa 17 0,((some 18),.op (.fY (.tmp 17))),az 19 0]) <|
  .block 0 (.loop xw)) <|
  .seq (aq [aM 2 true]) <|
  .ret,
  [.tmp 2],28⟩
theorem DZ:ba Tryz.prog 86 []=some Bf:=by kernel_rfl
def wQ:SF:=⟨.seq (aq [az 2 0,az 3 0]) <|
  .seq (aq [az 4 2]) <|
  .seq (.block 0 (.seq (aq [aa 6 0,aA 7 6,au 8 .lss 7 2,aa 5 8]) <|
  .cond (.tmp 5) (.seq (aq [az 2 0,az 3 4]) <|
  .ret) (.seq (aq [aa 10 0,((some 11),.op (.idx 1 (.tmp 10) (.val (.val (.int .i64 1))))),an 12 11,aJ 13 235 [12],aa 9 13]) <|
  .cond (.tmp 9) (.skip) (.seq (aq [aa 15 0,((some 16),.op (.idx 1 (.tmp 15) (.val (.val (.int .i64 1))))),an 17 16,((some 18),.op (.arith .neq (.tmp 17) (.val (.val (.int .u8 92))))),aa 14 18]) <|
  .cond (.tmp 14) (.seq (aq [az 2 0,az 3 3]) <|
  .ret) (.seq (aq [aa 20 0,aA 21 20,au 22 .lss 21 3,aa 19 22]) <|
  .cond (.tmp 19) (.seq (aq [az 2 0,az 3 4]) <|
  .ret) (.seq (aq [aa 24 0,((some 25),.op (.idx 1 (.tmp 24) (.val (.val (.int .i64 2))))),an 26 25,aJ 27 236 [26],bC 28 27,aa 23 28]) <|
  .cond (.tmp 23) (.seq (aq [az 2 0,az 3 3]) <|
  .ret) (aq [az 4 3]))))))) <|
  .seq (.seq (aq [aa 29 0,aA 30 29,aa 31 4,aC 32 .leq 30 31]) <|
  .cond (.tmp 32) (.seq (aq [az 2 0,az 3 4]) <|
  .ret) (.skip)) <|
  .seq (.seq (aq [aa 33 0,aa 34 4,aD 35 1 33 34,an 36 35,((some 37),.op (.arith .neq (.tmp 36) (.val (.val (.int .u8 39)))))]) <|
  .cond (.tmp 37) (.seq (aq [az 2 0,az 3 3]) <|
  .ret) (.skip)) <|
  .seq (aq [aa 38 4,au 39 .add 38 1,aa 2 39,az 3 0]) <|
  .ret,
  [.tmp 2,.tmp 3],40⟩
theorem zY:ba Tryz.prog 227 []=some wQ:=by kernel_rfl
def pj:SF:=⟨.seq (aq [aM 2 false]) <|
  .seq (.seq (.region false [⟨none,[aa 5 0,((some 6),.op (.iq .eql (.tmp 5) (.val (.val (.string ⟨#[]⟩))))),aa 7 6]⟩,⟨(some (7,false)),[aa 8 0,((some 9),.op (.cM (.tmp 8) (.val (.val (.int .i64 0))))),((some 10),.op (.arith .neq (.tmp 9) (.val (.val (.int .u8 39)))))]⟩,⟨none,[aS 11 7 10]⟩]) <|
  .cond (.tmp 11) (.seq (aq [aM 2 false]) <|
  .ret) (.skip)) <|
  .seq (aq [aa 13 0,((some 14),.op (.eA (.tmp 13))),aJ 15 227 [14],aa 12 15,bu 16 0 12,bu 17 1 12,aa 3 16,aa 4 17]) <|
  .seq (.region false [⟨none,[aa 18 4,au 19 .eql 18 0,aa 20 19]⟩,⟨(some (20,true)),[aa 21 3,aa 22 0,((some 23),.op (.fY (.tmp 22))),aC 24 .eql 21 23]⟩,⟨none,[bq 25 20 24,aa 2 25]⟩]) <|
  .ret,
  [.tmp 2],26⟩
theorem An:ba Tryz.prog 186 [14]=some pj:=by kernel_rfl
def zM:SF:=⟨.seq (aq [aM 2 false]) <|
  .seq (.region false [⟨none,[aa 3 0,aJ 4 86 [3],aa 5 4]⟩,⟨(some (5,false)),[aa 6 0,aJ 7 186 [6]]⟩,⟨none,[aS 8 5 7,aa 2 8]⟩]) <|
  .ret,
  [.tmp 2],9⟩
theorem Cn:ba Tryz.prog 129 []=some zM:=by kernel_rfl
def wH:SF:=⟨.seq (aq [aM 2 false]) <|
  .seq (aq [aa 3 0,aJ 4 86 [3],bC 5 4,aa 2 5]) <|
  .ret,
  [.tmp 2],6⟩
theorem AA:ba Tryz.prog 85 []=some wH:=by kernel_rfl
theorem xY (s:ByteArray):fN s ⟨#[]⟩=decide ((dR s).length=0):=by
  unfold fN
  rw[← de]
  have:(s.data.toList == ([]:List UInt8))=decide (s.data.toList.length=0):=by
    cases s.data.toList <;> rfl
  show (s.data.toList == ([]:List UInt8))=_
  rw[this]
  rfl
set_option maxHeartbeats 1000000 in
theorem M4 (s:ByteArray) (H:View):aG Tryz.prog 86 [gs s] H fun r _=>r=gb (eO (dR s)):=by
  refine aG.of mixed DZ ?_
  repeat' (first | (refine ar.dec (fun _=>?_) (fun _=>?_)) | (refine ar.eq (fun _=>?_) (fun _=>?_)) | (refine ar.ne (fun _=>?_) (fun _=>?_)) | (refine ar.split (fun _=>?_) (fun _=>?_)) | (simp (disch:=omega) only [↓wr,↓reduceIte,wq,ah,ag,ak,ab,ae,af,ai,isNil,Nat.reduceEqDiff,Nat.reduceAdd,Nat.reduceLT,Nat.reduceLeDiff,Int.reduceNeg,Int.reduceToNat,reduceCtorEq,Bf,de,xY]))
  · rename_i h
    congr 2; simp[eO,h]
  · rename_i h1 h
    congr 2; simp[eO,show ¬ (dR s).length≤20 by omega]
  · rename_i h1 h2
    cases hb:dR s with
    | nil=>simp[hb] at h1
    | cons c l =>
      have hcr:=fun d (hd:d∈c :: l)=>Dz (s:=s) (c:=d) (by rw[hb]; exact hd)
      have hc0:=hcr c (by simp)
      repeat' (first | (refine ar.dec (fun _=>?_) (fun _=>?_)) | (refine ar.eq (fun _=>?_) (fun _=>?_)) | (refine ar.ne (fun _=>?_) (fun _=>?_)) | (refine ar.split (fun _=>?_) (fun _=>?_)) | (simp (disch:=omega) only [↓wr,↓reduceIte,wq,ah,ag,ak,ab,ae,af,ai,isNil,Nat.reduceEqDiff,Nat.reduceAdd,Nat.reduceLT,Nat.reduceLeDiff,Int.reduceNeg,Int.reduceToNat,reduceCtorEq,hb,List.getElem?_cons_zero,de]))
      refine aN.pure (vF si Jq c hc0.1 hc0.2) (by kernel_rfl) ?_
      repeat' (first | (refine ar.dec (fun _=>?_) (fun _=>?_)) | (refine ar.eq (fun _=>?_) (fun _=>?_)) | (refine ar.ne (fun _=>?_) (fun _=>?_)) | (refine ar.split (fun _=>?_) (fun _=>?_)) | (simp (disch:=omega) only [↓wr,↓reduceIte,wq,ah,ag,ak,ab,ae,af,ai,isNil,Nat.reduceEqDiff,Nat.reduceAdd,Nat.reduceLT,Nat.reduceLeDiff,Int.reduceNeg,Int.reduceToNat,reduceCtorEq,hb,List.getElem?_cons_zero,de]))
      · rename_i hf
        rw[hb] at h1 h2
        refine bp.intro (fun k T H'=>∃ i:Nat,i+k=(c :: l).length∧((c :: l).take i).all lu=true∧T 0=gs s∧T 18=gi (c :: l).length∧T 19=gi i) (c :: l).length ?_ ?_
        · exact ⟨0,by omega,by simp,rfl,rfl,rfl⟩
        · rintro k T H' ⟨i,hk,hi,h0,h18,h19⟩
          simp (disch:=omega) only [↓wr,↓reduceIte,wq,ah,ag,ak,ab,ae,af,ai,isNil,Nat.reduceEqDiff,Nat.reduceAdd,Nat.reduceLT,Nat.reduceLeDiff,Int.reduceNeg,Int.reduceToNat,reduceCtorEq,xw,h0,h18,h19,de,hb]
          refine ar.dec (fun hc=>?_) (fun hc=>?_)
          · simp only[List.length_cons] at hc hk h2
            have hg:(c :: l)[i]?=some ((c :: l)[i]'(by simp; omega)):=List.getElem?_eq_getElem (by simp; omega)
            have hm:(c :: l)[i]'(by simp; omega)∈c :: l:=List.getElem_mem _
            generalize (c :: l)[i]'(by simp; omega)=d at hg hm
            have hd0:=hcr d hm
            simp (disch:=omega) only [↓wr,↓reduceIte,wq,ah,ag,ak,ab,ae,af,ai,isNil,Nat.reduceEqDiff,Nat.reduceAdd,Nat.reduceLT,Nat.reduceLeDiff,Int.reduceNeg,Int.reduceToNat,reduceCtorEq,h0,h18,h19,de,hb,hg]
            refine aN.pure (vF si JP d hd0.1 hd0.2) (by kernel_rfl) ?_
            repeat' (first | (refine ar.dec (fun _=>?_) (fun _=>?_)) | (refine ar.eq (fun _=>?_) (fun _=>?_)) | (refine ar.ne (fun _=>?_) (fun _=>?_)) | (refine ar.split (fun _=>?_) (fun _=>?_)) | (simp (disch:=omega) only [↓wr,↓reduceIte,wq,ah,ag,ak,ab,ae,af,ai,isNil,Nat.reduceEqDiff,Nat.reduceAdd,Nat.reduceLT,Nat.reduceLeDiff,Int.reduceNeg,Int.reduceToNat,reduceCtorEq,h0,h18,h19,de,hb,hg]))
            · rename_i hd
              refine ⟨k - 1,by omega,i+1,by omega,?_,by first | rfl | exact ⟨rfl,rfl⟩⟩
              rw[List.take_add_one,hg]
              simp only[Option.toList_some,List.all_append,hi,List.all_cons,hd,List.all_nil,Bool.and_self]
            · rename_i hd
              congr 2
              have:(c :: l).all lu=false:=by
                rw[List.all_eq_false]; exact ⟨d,hm,by simp[hd]⟩
              simp only[eO,this,Bool.and_false]
          · simp (disch:=omega) only [↓wr,↓reduceIte,wq,ah,ag,ak,ab,ae,af,ai,isNil,Nat.reduceEqDiff,Nat.reduceAdd,Nat.reduceLT,Nat.reduceLeDiff,Int.reduceNeg,Int.reduceToNat,reduceCtorEq,h0,h18,h19]
            simp only[List.length_cons] at hc hk h2
            rw[List.take_of_length_le (by simp; omega)] at hi
            congr 2
            simp only[eO,hi,List.length_cons]
            simp[hf]; omega
      · rename_i hf
        congr 2; simp[eO,hf]
theorem EA (s:ByteArray):aI Tryz.prog 86 [gs s] (gb (eO (dR s))):=aI.val (m8 s) (M4 s)
def iE (l:List Int):Int × Int :=
  if xI (l.getD 1 0)=true then (2,0) else if l.getD 1 0≠92 then (0,3) else if l.length < 3 then (0,4) else if Cm (l.getD 2 0)=true then (3,0) else (0,3)
def ko (l:List Int):Int × Int :=
  if l.length < 2 then (0,4) else if (iE l).2≠0 then (0,(iE l).2) else if (l.length:Int)≤(iE l).1 then (0,4) else if l.getD (iE l).1.toNat 0≠39 then (0,3) else ((iE l).1+1,0)
theorem Lz {l:List Int} {n:Int} (hN:iE l=(n,0)) (h2:¬ l.length < 2):ko l=if (l.length:Int)≤n then (0,4) else if l.getD n.toNat 0≠39 then (0,3) else (n+1,0):=by
  rw[ko,if_neg h2,hN]; simp
theorem F9 {l:List Int} {e:Int} (hN:iE l=(0,e)) (he:e≠0) (h2:¬ l.length < 2):ko l=(0,e):=by
  rw[ko,if_neg h2,hN]; simp[he]
set_option maxHeartbeats 2000000 in
theorem Jj (l:List Int) (hr:∀ c∈l,0≤c∧c≤255) (H:View):aG Tryz.prog 227 [.aL (l.map fun x=>[gy x])] H fun r _=>r=.bf [gi (ko l).1,gi (ko l).2]:=by
  refine aG.of mixed zY ?_
  simp (disch:=omega) only [↓wr,↓reduceIte,wq,ah,ag,ak,ab,ae,af,ai,isNil,Nat.reduceEqDiff,Nat.reduceAdd,Nat.reduceLT,Nat.reduceLeDiff,Int.reduceNeg,Int.reduceToNat,reduceCtorEq,wQ]
  refine ar.dec (fun h=>?_) (fun h=>?_)
  · simp (disch:=omega) only [↓wr,↓reduceIte,wq,ah,ag,ak,ab,ae,af,ai,isNil,Nat.reduceEqDiff,Nat.reduceAdd,Nat.reduceLT,Nat.reduceLeDiff,Int.reduceNeg,Int.reduceToNat,reduceCtorEq]
    rw[ko,if_pos (by omega)]
  · have h1:l[1]?=some (l[1]'(by omega)):=List.getElem?_eq_getElem (by omega)
    have g1:l.getD 1 0=l[1]'(by omega):=by simp[List.getD_eq_getElem?_getD,h1]
    have m1:l[1]'(by omega)∈l:=List.getElem_mem _
    generalize l[1]'(by omega)=b at h1 g1 m1
    have hb:=hr b m1
    simp (disch:=omega) only [↓wr,↓reduceIte,wq,ah,ag,ak,ab,ae,af,ai,isNil,Nat.reduceEqDiff,Nat.reduceAdd,Nat.reduceLT,Nat.reduceLeDiff,Int.reduceNeg,Int.reduceToNat,reduceCtorEq,List.getElem?_map,h1]
    refine aN.pure (vF si KH b hb.1 hb.2) (by kernel_rfl) ?_
    simp (disch:=omega) only [↓wr,↓reduceIte,wq,ah,ag,ak,ab,ae,af,ai,isNil,Nat.reduceEqDiff,Nat.reduceAdd,Nat.reduceLT,Nat.reduceLeDiff,Int.reduceNeg,Int.reduceToNat,reduceCtorEq]
    refine ar.split (fun hp=>?_) (fun hp=>?_)
    · have hN:iE l=(2,0):=by rw[iE,if_pos (by rw[g1]; exact hp)]
      simp (disch:=omega) only [↓wr,↓reduceIte,wq,ah,ag,ak,ab,ae,af,ai,isNil,Nat.reduceEqDiff,Nat.reduceAdd,Nat.reduceLT,Nat.reduceLeDiff,Int.reduceNeg,Int.reduceToNat,reduceCtorEq]
      have hP:=Lz hN (by omega)
      refine ar.dec (fun h3=>?_) (fun h3=>?_)
      · simp (disch:=omega) only [↓wr,↓reduceIte,wq,ah,ag,ak,ab,ae,af,ai,isNil,Nat.reduceEqDiff,Nat.reduceAdd,Nat.reduceLT,Nat.reduceLeDiff,Int.reduceNeg,Int.reduceToNat,reduceCtorEq]
        rw[hP,if_pos (by omega)]
      · rw[if_neg (by omega)] at hP
        have h2:l[2]?=some (l[2]'(by omega)):=List.getElem?_eq_getElem (by omega)
        have g2:l.getD (2:Int).toNat 0=l[2]'(by omega):=by simp[List.getD_eq_getElem?_getD,h2]
        generalize l[2]'(by omega)=c at h2 g2
        rw[g2] at hP
        simp (disch:=omega) only [↓wr,↓reduceIte,wq,ah,ag,ak,ab,ae,af,ai,isNil,Nat.reduceEqDiff,Nat.reduceAdd,Nat.reduceLT,Nat.reduceLeDiff,Int.reduceNeg,Int.reduceToNat,reduceCtorEq,List.getElem?_map,h2]
        refine ar.ne (fun h4=>?_) (fun h4=>?_)
        · simp (disch:=omega) only [↓wr,↓reduceIte,wq,ah,ag,ak,ab,ae,af,ai,isNil,Nat.reduceEqDiff,Nat.reduceAdd,Nat.reduceLT,Nat.reduceLeDiff,Int.reduceNeg,Int.reduceToNat,reduceCtorEq]
          rw[hP,if_pos h4]
        · simp (disch:=omega) only [↓wr,↓reduceIte,wq,ah,ag,ak,ab,ae,af,ai,isNil,Nat.reduceEqDiff,Nat.reduceAdd,Nat.reduceLT,Nat.reduceLeDiff,Int.reduceNeg,Int.reduceToNat,reduceCtorEq]
          rw[hP,if_neg (fun q=>q h4)]
    · simp (disch:=omega) only [↓wr,↓reduceIte,wq,ah,ag,ak,ab,ae,af,ai,isNil,Nat.reduceEqDiff,Nat.reduceAdd,Nat.reduceLT,Nat.reduceLeDiff,Int.reduceNeg,Int.reduceToNat,reduceCtorEq,List.getElem?_map,h1]
      refine ar.ne (fun h5=>?_) (fun h5=>?_)
      · simp (disch:=omega) only [↓wr,↓reduceIte,wq,ah,ag,ak,ab,ae,af,ai,isNil,Nat.reduceEqDiff,Nat.reduceAdd,Nat.reduceLT,Nat.reduceLeDiff,Int.reduceNeg,Int.reduceToNat,reduceCtorEq]
        rw[F9 (e:=3) (by rw[iE,if_neg (by rw[g1,hp]; simp),if_pos (by rw[g1]; exact h5)]) (by simp) (by omega)]
      · simp (disch:=omega) only [↓wr,↓reduceIte,wq,ah,ag,ak,ab,ae,af,ai,isNil,Nat.reduceEqDiff,Nat.reduceAdd,Nat.reduceLT,Nat.reduceLeDiff,Int.reduceNeg,Int.reduceToNat,reduceCtorEq]
        refine ar.dec (fun h6=>?_) (fun h6=>?_)
        · simp (disch:=omega) only [↓wr,↓reduceIte,wq,ah,ag,ak,ab,ae,af,ai,isNil,Nat.reduceEqDiff,Nat.reduceAdd,Nat.reduceLT,Nat.reduceLeDiff,Int.reduceNeg,Int.reduceToNat,reduceCtorEq]
          rw[F9 (e:=4) (by rw[iE,if_neg (by rw[g1,hp]; simp),if_neg (by rw[g1]; exact fun q=>q h5),if_pos (by omega)]) (by simp) (by omega)]
        · have h2:l[2]?=some (l[2]'(by omega)):=List.getElem?_eq_getElem (by omega)
          have g2:l.getD 2 0=l[2]'(by omega):=by simp[List.getD_eq_getElem?_getD,h2]
          have m2:l[2]'(by omega)∈l:=List.getElem_mem _
          generalize l[2]'(by omega)=c at h2 g2 m2
          have hcr:=hr c m2
          have hN0:iE l=if Cm c=true then (3,0) else (0,3):=by rw[iE,if_neg (by rw[g1,hp]; simp),if_neg (by rw[g1]; exact fun q=>q h5),if_neg (by omega),g2]
          simp (disch:=omega) only [↓wr,↓reduceIte,wq,ah,ag,ak,ab,ae,af,ai,isNil,Nat.reduceEqDiff,Nat.reduceAdd,Nat.reduceLT,Nat.reduceLeDiff,Int.reduceNeg,Int.reduceToNat,reduceCtorEq,List.getElem?_map,h2]
          refine aN.pure (vF si Oa c hcr.1 hcr.2) (by kernel_rfl) ?_
          simp (disch:=omega) only [↓wr,↓reduceIte,wq,ah,ag,ak,ab,ae,af,ai,isNil,Nat.reduceEqDiff,Nat.reduceAdd,Nat.reduceLT,Nat.reduceLeDiff,Int.reduceNeg,Int.reduceToNat,reduceCtorEq]
          refine ar.split (fun he=>?_) (fun he=>?_)
          · rw[if_pos he] at hN0
            have hP:=Lz hN0 (by omega)
            simp (disch:=omega) only [↓wr,↓reduceIte,wq,ah,ag,ak,ab,ae,af,ai,isNil,Nat.reduceEqDiff,Nat.reduceAdd,Nat.reduceLT,Nat.reduceLeDiff,Int.reduceNeg,Int.reduceToNat,reduceCtorEq]
            refine ar.dec (fun h3=>?_) (fun h3=>?_)
            · simp (disch:=omega) only [↓wr,↓reduceIte,wq,ah,ag,ak,ab,ae,af,ai,isNil,Nat.reduceEqDiff,Nat.reduceAdd,Nat.reduceLT,Nat.reduceLeDiff,Int.reduceNeg,Int.reduceToNat,reduceCtorEq]
              rw[hP,if_pos (by omega)]
            · rw[if_neg (by omega)] at hP
              have h7:l[3]?=some (l[3]'(by omega)):=List.getElem?_eq_getElem (by omega)
              have g3:l.getD (3:Int).toNat 0=l[3]'(by omega):=by simp[List.getD_eq_getElem?_getD,h7]
              generalize l[3]'(by omega)=d at h7 g3
              rw[g3] at hP
              simp (disch:=omega) only [↓wr,↓reduceIte,wq,ah,ag,ak,ab,ae,af,ai,isNil,Nat.reduceEqDiff,Nat.reduceAdd,Nat.reduceLT,Nat.reduceLeDiff,Int.reduceNeg,Int.reduceToNat,reduceCtorEq,List.getElem?_map,h7]
              refine ar.ne (fun h4=>?_) (fun h4=>?_)
              · simp (disch:=omega) only [↓wr,↓reduceIte,wq,ah,ag,ak,ab,ae,af,ai,isNil,Nat.reduceEqDiff,Nat.reduceAdd,Nat.reduceLT,Nat.reduceLeDiff,Int.reduceNeg,Int.reduceToNat,reduceCtorEq]
                rw[hP,if_pos h4]
              · simp (disch:=omega) only [↓wr,↓reduceIte,wq,ah,ag,ak,ab,ae,af,ai,isNil,Nat.reduceEqDiff,Nat.reduceAdd,Nat.reduceLT,Nat.reduceLeDiff,Int.reduceNeg,Int.reduceToNat,reduceCtorEq]
                rw[hP,if_neg (fun q=>q h4)]
          · rw[if_neg (by rw[he]; simp)] at hN0
            simp (disch:=omega) only [↓wr,↓reduceIte,wq,ah,ag,ak,ab,ae,af,ai,isNil,Nat.reduceEqDiff,Nat.reduceAdd,Nat.reduceLT,Nat.reduceLeDiff,Int.reduceNeg,Int.reduceToNat,reduceCtorEq]
            rw[F9 hN0 (by simp) (by omega)]
def bR {α:Type} (p:α→Bool):List α→Int→Int
  | [],_=>-1
  | x :: l,i=>if p x then i else bR p l (i+1)
theorem iK {α:Type} (p:α→Bool):∀ (l:List α) (i:Int),0≤i→decide (0≤bR p l i)=l.any p
  | [],_,_=>by simp[bR]
  | x :: l,i,h=>by
    have ih:=iK p l (i+1) (by omega)
    rw[List.any_cons,bR]
    by_cases hp:p x=true
    · rw[if_pos hp,hp]; simp[h]
    · rw[if_neg hp,ih]; simp[hp]
theorem zb {f:FuncId} {xs cap:List V} (h:∀ v∈xs,Tree v) (h2:∀ v∈cap,Tree v):Tree (.fn f xs cap):=by
  refine .fn _ _ _ (fun i hi=>?_) (fun i hi=>?_)
  · have e2:xs.getD i .any=xs[i]:=by simp[List.getD_eq_getElem?_getD,hi]
    rw[e2]; exact h _ (List.getElem_mem _)
  · have e2:cap.getD i .any=cap[i]:=by simp[List.getD_eq_getElem?_getD,hi]
    rw[e2]; exact h2 _ (List.getElem_mem _)
def dN:SC :=
  .seq (aq [aC 9 .lss 8 7]) <|
  .seq (.cond (.tmp 9) (.skip) (.exit 0)) <|
  .seq (.block 1 (.seq (aq [aa 10 8,aa 5 10]) <|
  .seq (aq [aa 11 1,aa 12 0,aa 13 5,aD 14 1 12 13,an 15 14,((some 16),.call (.tmp 11) [(.tmp 15)])]) <|
  .cond (.tmp 16) (.seq (aq [aa 17 5,aa 4 17]) <|
  .ret) (.skip))) <|
  aq [au 18 .add 8 1,aa 8 18]
def eh:SF:=⟨.seq (aq [az 4 0]) <|
  .seq (.seq (aq [aa 6 0,aA 7 6,az 8 0]) <|
  .block 0 (.loop dN)) <|
  .seq (aq [az 4 (-1)]) <|
  .ret,
  [.tmp 4],19⟩
theorem fD:ba Tryz.prog 88 []=some eh:=by kernel_rfl
def dC:SF:=⟨.seq (aq [aM 4 false]) <|
  .seq (aq [aa 5 0,aa 6 1,aJ 7 88 [5,6],au 8 .geq 7 0,aa 4 8]) <|
  .ret,
  [.tmp 4],9⟩
theorem fa:ba Tryz.prog 46 []=some dC:=by kernel_rfl
def eF:SC :=
  .seq (aq [aC 9 .lss 8 7]) <|
  .seq (.cond (.tmp 9) (.skip) (.exit 0)) <|
  .seq (.block 1 (.seq (aq [aa 10 8,aa 5 10]) <|
  .seq (aq [aa 11 1,aa 12 0,aa 13 5,aD 14 1 12 13,an 15 14,((some 16),.call (.tmp 11) [(.tmp 15)])]) <|
  .cond (.tmp 16) (.seq (aq [aa 17 5,aa 4 17]) <|
  .ret) (.skip))) <|
  aq [au 18 .add 8 1,aa 8 18]
def eY:SF:=⟨.seq (aq [az 4 0]) <|
  .seq (.seq (aq [aa 6 0,aA 7 6,az 8 0]) <|
  .block 0 (.loop eF)) <|
  .seq (aq [az 4 (-1)]) <|
  .ret,
  [.tmp 4],19⟩
theorem ic:ba Tryz.prog 134 []=some eY:=by kernel_rfl
def ew:SF:=⟨.seq (aq [aM 4 false]) <|
  .seq (aq [aa 5 0,aa 6 1,aJ 7 134 [5,6],au 8 .geq 7 0,aa 4 8]) <|
  .ret,
  [.tmp 4],9⟩
theorem gL:ba Tryz.prog 84 []=some ew:=by kernel_rfl
theorem DX (l:List Int) (hl:aR l) (f:FuncId) (cap:List V) (p:Int→Bool) (hf:∀ x∈l,aI Tryz.prog f (gi x :: cap) (gb (p x))) (hok:cA Tryz.prog f=true) (H:View) :
    aG Tryz.prog 88 [encI l,.fn f [] cap] H fun r _=>r=gi (bR p l 0):=by
  refine aG.of mixed fD ?_
  unfold aR at hl
  simp (disch:=omega) only [↓wr,↓reduceIte,wq,ah,ag,ak,ab,ae,af,ai,isNil,Nat.reduceEqDiff,Nat.reduceAdd,Nat.reduceLT,Nat.reduceLeDiff,Int.reduceNeg,Int.reduceToNat,reduceCtorEq,eh,encI]
  refine bp.up l.length (fun i T _=>bR p (l.drop i) i=bR p l 0∧T 0=encI l∧T 1=.fn f [] cap∧T 7=gi l.length∧T 8=gi i) ⟨rfl,rfl,rfl,rfl,rfl⟩ ?_
  rintro i k T H hk ⟨hi,h0,h1,h7,h8⟩
  simp (disch:=omega) only [↓wr,↓reduceIte,wq,ah,ag,ak,ab,ae,af,ai,isNil,Nat.reduceEqDiff,Nat.reduceAdd,Nat.reduceLT,Nat.reduceLeDiff,Int.reduceNeg,Int.reduceToNat,reduceCtorEq,dN,h0,h1,h7,h8,encI]
  refine ar.dec (fun hc=>?_) (fun hc=>?_)
  · have hg:l[i]?=some (l[i]'(by omega)):=List.getElem?_eq_getElem (by omega)
    have hm:l[i]'(by omega)∈l:=List.getElem_mem _
    rw[c9 (show i < l.length by omega)] at hi
    generalize l[i]'(by omega)=x at hg hm hi
    simp (disch:=omega) only [↓wr,↓reduceIte,wq,ah,ag,ak,ab,ae,af,ai,isNil,Nat.reduceEqDiff,Nat.reduceAdd,Nat.reduceLT,Nat.reduceLeDiff,Int.reduceNeg,Int.reduceToNat,reduceCtorEq,h0,h1,h7,h8,encI,List.getElem?_map,hg]
    refine aN.pure (hf x hm) hok ?_
    simp only[bR] at hi
    repeat' (first | (refine ar.dec (fun _=>?_) (fun _=>?_)) | (refine ar.eq (fun _=>?_) (fun _=>?_)) | (refine ar.ne (fun _=>?_) (fun _=>?_)) | (refine ar.split (fun _=>?_) (fun _=>?_)) | (simp (disch:=omega) only [↓wr,↓reduceIte,wq,ah,ag,ak,ab,ae,af,ai,isNil,Nat.reduceEqDiff,Nat.reduceAdd,Nat.reduceLT,Nat.reduceLeDiff,Int.reduceNeg,Int.reduceToNat,reduceCtorEq,h0,h1,h7,h8]))
    · rename_i hp
      rw[← hi,if_pos hp]
    · rename_i hp
      refine br hk (by omega) ⟨?_,h0,h1,h7,rfl⟩
      rw[if_neg (by simp[hp])] at hi
      push_cast; exact hi
  · rw[List.drop_eq_nil_of_le (by omega)] at hi
    simp (disch:=omega) only [↓wr,↓reduceIte,wq,ah,ag,ak,ab,ae,af,ai,isNil,Nat.reduceEqDiff,Nat.reduceAdd,Nat.reduceLT,Nat.reduceLeDiff,Int.reduceNeg,Int.reduceToNat,reduceCtorEq,h0,h1,h7,h8]
    rw[← hi]; rfl
theorem xG {l:List Int} {f:FuncId} {cap:List V} (hcap:∀ v∈cap,Tree v):∀ v∈[encI l,.fn f [] cap],Tree v:=by
  intro v hv; simp at hv
  rcases hv with rfl | rfl
  · exact c6 l
  · exact zb (by simp) hcap
theorem kj (l:List Int) (hl:aR l) (f:FuncId) (cap:List V) (hcap:∀ v∈cap,Tree v) (p:Int→Bool) (hf:∀ x∈l,aI Tryz.prog f (gi x :: cap) (gb (p x))) (hok:cA Tryz.prog f=true) :
    aI Tryz.prog 46 [encI l,.fn f [] cap] (gb (l.any p)):=by
  refine aI.val (xG hcap) fun H=>?_
  refine aG.of mixed fa ?_
  simp (disch:=omega) only [↓wr,↓reduceIte,wq,ah,ag,ak,ab,ae,af,ai,isNil,Nat.reduceEqDiff,Nat.reduceAdd,Nat.reduceLT,Nat.reduceLeDiff,Int.reduceNeg,Int.reduceToNat,reduceCtorEq,dC]
  refine aN.pure (aI.val (xG hcap) (DX l hl f cap p hf hok)) (by kernel_rfl) ?_
  simp (disch:=omega) only [↓wr,↓reduceIte,wq,ah,ag,ak,ab,ae,af,ai,isNil,Nat.reduceEqDiff,Nat.reduceAdd,Nat.reduceLT,Nat.reduceLeDiff,Int.reduceNeg,Int.reduceToNat,reduceCtorEq]
  rw[← iK p l 0 (by omega)]
theorem DW (l:List ByteArray) (hl:aR l) (f:FuncId) (cap:List V) (p:ByteArray→Bool) (hf:∀ x∈l,aI Tryz.prog f (gs x :: cap) (gb (p x))) (hok:cA Tryz.prog f=true) (H:View) :
    aG Tryz.prog 134 [encS l,.fn f [] cap] H fun r _=>r=gi (bR p l 0):=by
  refine aG.of mixed ic ?_
  unfold aR at hl
  simp (disch:=omega) only [↓wr,↓reduceIte,wq,ah,ag,ak,ab,ae,af,ai,isNil,Nat.reduceEqDiff,Nat.reduceAdd,Nat.reduceLT,Nat.reduceLeDiff,Int.reduceNeg,Int.reduceToNat,reduceCtorEq,eY,encS]
  refine bp.up l.length (fun i T _=>bR p (l.drop i) i=bR p l 0∧T 0=encS l∧T 1=.fn f [] cap∧T 7=gi l.length∧T 8=gi i) ⟨rfl,rfl,rfl,rfl,rfl⟩ ?_
  rintro i k T H hk ⟨hi,h0,h1,h7,h8⟩
  simp (disch:=omega) only [↓wr,↓reduceIte,wq,ah,ag,ak,ab,ae,af,ai,isNil,Nat.reduceEqDiff,Nat.reduceAdd,Nat.reduceLT,Nat.reduceLeDiff,Int.reduceNeg,Int.reduceToNat,reduceCtorEq,eF,h0,h1,h7,h8,encS]
  refine ar.dec (fun hc=>?_) (fun hc=>?_)
  · have hg:l[i]?=some (l[i]'(by omega)):=List.getElem?_eq_getElem (by omega)
    have hm:l[i]'(by omega)∈l:=List.getElem_mem _
    rw[c9 (show i < l.length by omega)] at hi
    generalize l[i]'(by omega)=x at hg hm hi
    simp (disch:=omega) only [↓wr,↓reduceIte,wq,ah,ag,ak,ab,ae,af,ai,isNil,Nat.reduceEqDiff,Nat.reduceAdd,Nat.reduceLT,Nat.reduceLeDiff,Int.reduceNeg,Int.reduceToNat,reduceCtorEq,h0,h1,h7,h8,encS,List.getElem?_map,hg]
    refine aN.pure (hf x hm) hok ?_
    simp only[bR] at hi
    repeat' (first | (refine ar.dec (fun _=>?_) (fun _=>?_)) | (refine ar.eq (fun _=>?_) (fun _=>?_)) | (refine ar.ne (fun _=>?_) (fun _=>?_)) | (refine ar.split (fun _=>?_) (fun _=>?_)) | (simp (disch:=omega) only [↓wr,↓reduceIte,wq,ah,ag,ak,ab,ae,af,ai,isNil,Nat.reduceEqDiff,Nat.reduceAdd,Nat.reduceLT,Nat.reduceLeDiff,Int.reduceNeg,Int.reduceToNat,reduceCtorEq,h0,h1,h7,h8]))
    · rename_i hp
      rw[← hi,if_pos hp]
    · rename_i hp
      refine br hk (by omega) ⟨?_,h0,h1,h7,rfl⟩
      rw[if_neg (by simp[hp])] at hi
      push_cast; exact hi
  · rw[List.drop_eq_nil_of_le (by omega)] at hi
    simp (disch:=omega) only [↓wr,↓reduceIte,wq,ah,ag,ak,ab,ae,af,ai,isNil,Nat.reduceEqDiff,Nat.reduceAdd,Nat.reduceLT,Nat.reduceLeDiff,Int.reduceNeg,Int.reduceToNat,reduceCtorEq,h0,h1,h7,h8]
    rw[← hi]; rfl
theorem ym {l:List ByteArray} {f:FuncId} {cap:List V} (hcap:∀ v∈cap,Tree v):∀ v∈[encS l,.fn f [] cap],Tree v:=by
  intro v hv; simp at hv
  rcases hv with rfl | rfl
  · exact Dd l
  · exact zb (by simp) hcap
theorem zW (l:List ByteArray) (hl:aR l) (f:FuncId) (cap:List V) (hcap:∀ v∈cap,Tree v) (p:ByteArray→Bool) (hf:∀ x∈l,aI Tryz.prog f (gs x :: cap) (gb (p x))) (hok:cA Tryz.prog f=true) :
    aI Tryz.prog 84 [encS l,.fn f [] cap] (gb (l.any p)):=by
  refine aI.val (ym hcap) fun H=>?_
  refine aG.of mixed gL ?_
  simp (disch:=omega) only [↓wr,↓reduceIte,wq,ah,ag,ak,ab,ae,af,ai,isNil,Nat.reduceEqDiff,Nat.reduceAdd,Nat.reduceLT,Nat.reduceLeDiff,Int.reduceNeg,Int.reduceToNat,reduceCtorEq,ew]
  refine aN.pure (aI.val (ym hcap) (DW l hl f cap p hf hok)) (by kernel_rfl) ?_
  simp (disch:=omega) only [↓wr,↓reduceIte,wq,ah,ag,ak,ab,ae,af,ai,isNil,Nat.reduceEqDiff,Nat.reduceAdd,Nat.reduceLT,Nat.reduceLeDiff,Int.reduceNeg,Int.reduceToNat,reduceCtorEq]
  rw[← iK p l 0 (by omega)]
theorem CV {l:List Value} : ∀ v∈l.map V.val,Tree v:=by
  intro v hv; obtain ⟨x,_,rfl⟩:=List.mem_map.1 hv; exact .val _
def yp:SF:=⟨.seq (aq [aM 6 false]) <|
  .seq (.region false [⟨none,[aa 7 0,aa 8 1,aC 9 .geq 7 8,aa 10 9]⟩,⟨(some (10,true)),[aa 11 0,aa 12 2,aC 13 .leq 11 12]⟩,⟨none,[bq 14 10 13,aa 6 14]⟩]) <|
  .ret,
  [.tmp 6],15⟩
theorem AO:ba Tryz.prog 82 []=some yp:=by kernel_rfl
def Da:SF:=⟨.seq (aq [az 2 0]) <|
  .seq (aq [aa 3 0,((some 4),.op (.arith .sub (.val (.val (.int .i64 (-1)))) (.tmp 3))),aa 2 4]) <|
  .ret,
  [.tmp 2],5⟩
theorem Gd:ba Tryz.prog 190 []=some Da:=by kernel_rfl
def DK:SF:=⟨.seq (aq [bz 2 0,aM 4 false]) <|
  .seq (.seq (aq [aa 5 1,au 6 .lss 5 0]) <|
  .cond (.tmp 6) (.seq (.region true [⟨none,[aa 7 1,aJ 8 190 [7],ao 9 1 2,an 10 9,aA 11 10,aC 12 .lss 8 11,aa 4 12]⟩]) <|
  .ret) (.skip)) <|
  .seq (aq [aa 13 1,ao 14 0 2,an 15 14,aA 16 15,aC 17 .lss 13 16,aa 4 17]) <|
  .ret,
  [.tmp 4],18⟩
theorem F6:ba Tryz.prog 138 [2]=some DK:=by kernel_rfl
def yF:SF:=⟨.seq (aq [aM 4 false]) <|
  .seq (.region false [⟨none,[aF 5 4 1,aa 6 0,aJ 7 138 [5,6],bC 8 7,aa 9 8]⟩,⟨(some (9,false)),[aa 10 0,au 11 .geq 10 0,aa 12 11]⟩,⟨(some (12,true)),[ao 13 2 2,an 14 13,au 15 .eql 14 (-1)]⟩,⟨(some (9,false)),[bq 16 12 15]⟩,⟨none,[aS 17 9 16,aa 4 17]⟩]) <|
  .ret,
  [.tmp 4],18⟩
theorem By:ba Tryz.prog 137 []=some yF:=by kernel_rfl
def Bk:SF:=⟨.seq (aq [bz 2 0,bz 3 1,aM 4 false]) <|
  .seq (.seq (.region false [⟨none,[ao 5 1 3,an 6 5,aA 7 6,au 8 .gtr 7 6,aa 9 8]⟩,⟨(some (9,false)),[ao 10 2 3,an 11 10,ao 12 0 2,an 13 12,aA 14 13,au 15 .sub 14 1,b6 16 82 [(.tmp 11),(.val (.val (.int .i64 (-1)))),(.tmp 15)],bC 17 16]⟩,⟨none,[aS 18 9 17]⟩]) <|
  .cond (.tmp 18) (.seq (aq [aM 4 false]) <|
  .ret) (.skip)) <|
  .seq (aq [ao 19 1 3,an 20 19,((some 21),.op (.qx 137 [] [(.tmp 2),(.tmp 3)])),aJ 22 46 [20,21],bC 23 22,aa 4 23]) <|
  .ret,
  [.tmp 4],24⟩
theorem DV:ba Tryz.prog 87 [2,3]=some Bk:=by kernel_rfl
theorem qb (a b c:Int):aI Tryz.prog 82 [gi a,gi b,gi c] (gb (decide (b≤a) && decide (a≤c))):=by
  refine aI.val (CV (l:=[.int .i64 a,.int .i64 b,.int .i64 c])) fun H=>?_
  refine aG.of mixed AO ?_
  repeat' (first | (refine ar.dec (fun _=>?_) (fun _=>?_)) | (refine ar.eq (fun _=>?_) (fun _=>?_)) | (refine ar.ne (fun _=>?_) (fun _=>?_)) | (refine ar.split (fun _=>?_) (fun _=>?_)) | (simp (disch:=omega) only [↓wr,↓reduceIte,wq,ah,ag,ak,ab,ae,af,ai,isNil,Nat.reduceEqDiff,Nat.reduceAdd,Nat.reduceLT,Nat.reduceLeDiff,Int.reduceNeg,Int.reduceToNat,reduceCtorEq,yp]))
  all_goals simp[*]
theorem OJ (s:Int) (hs:bJ s):aI Tryz.prog 190 [gi s] (gi (-1 - s)):=by
  refine aI.val (CV (l:=[.int .i64 s])) fun H=>?_
  obtain ⟨h1,h2⟩:=hs
  refine aG.of mixed Gd ?_
  repeat' (first | (refine ar.dec (fun _=>?_) (fun _=>?_)) | (refine ar.eq (fun _=>?_) (fun _=>?_)) | (refine ar.ne (fun _=>?_) (fun _=>?_)) | (refine ar.split (fun _=>?_) (fun _=>?_)) | (simp (disch:=omega) only [↓wr,↓reduceIte,wq,ah,ag,ak,ab,ae,af,ai,isNil,Nat.reduceEqDiff,Nat.reduceAdd,Nat.reduceLT,Nat.reduceLeDiff,Int.reduceNeg,Int.reduceToNat,reduceCtorEq,Da]))
theorem OR (g:ay) (s:Int) (hs:bJ s):aI Tryz.prog 138 [.agg (ax g),gi s] (gb (l5 g s)):=by
  refine aI.val (FH g s) fun H=>?_
  refine aG.of mixed F6 ?_
  repeat' (first | (refine ar.dec (fun _=>?_) (fun _=>?_)) | (refine ar.eq (fun _=>?_) (fun _=>?_)) | (refine ar.ne (fun _=>?_) (fun _=>?_)) | (refine ar.split (fun _=>?_) (fun _=>?_)) | (refine aN.pure (OJ s hs) (by kernel_rfl) ?_) | (simp (disch:=omega) only [↓wr,↓reduceIte,wq,ah,ag,ak,ab,ae,af,ai,isNil,Nat.reduceEqDiff,Nat.reduceAdd,Nat.reduceLT,Nat.reduceLeDiff,Int.reduceNeg,Int.reduceToNat,reduceCtorEq,DK,ax,encS]))
  · rename_i h; simp[l5,show ¬ (0:Int)≤s by omega]
  · rename_i h; simp[l5,show (0:Int)≤s by omega]
theorem aI.bool {f:FuncId} {vs:List V} {a b:Bool} (h:aI Tryz.prog f vs (gb a)) (e:a=b):aI Tryz.prog f vs (gb b):=e ▸ h
theorem gN {cs:List V} {j:Nat} (h:∀ v∈cs,Tree v):Tree (.aQ cs j):=by
  refine .aQ _ _ fun i hi=>?_
  have e2:cs.getD i .any=cs[i]:=by simp[List.getD_eq_getElem?_getD,hi]
  rw[e2]; exact h _ (List.getElem_mem _)
theorem J4 (g:ay) (r:bc) (s:Int) (hs:bJ s):aI Tryz.prog 137 [gi s,.aQ (ax g) 0,.aQ (bD r) 0] (gb (!ki g r.prec s)):=by
  refine aI.val ?_ fun H=>?_
  · intro v hv; simp at hv
    rcases hv with rfl | rfl | rfl
    · exact .val _
    · exact gN (cP g)
    · exact gN (rZ r)
  refine aG.of mixed By ?_
  simp (disch:=omega) only [↓wr,↓reduceIte,wq,ah,ag,ak,ab,ae,af,ai,isNil,Nat.reduceEqDiff,Nat.reduceAdd,Nat.reduceLT,Nat.reduceLeDiff,Int.reduceNeg,Int.reduceToNat,reduceCtorEq,yF,ax]
  refine aN.pure (OR g s hs) (by kernel_rfl) ?_
  repeat' (first | (refine ar.dec (fun _=>?_) (fun _=>?_)) | (refine ar.eq (fun _=>?_) (fun _=>?_)) | (refine ar.ne (fun _=>?_) (fun _=>?_)) | (refine ar.split (fun _=>?_) (fun _=>?_)) | (simp (disch:=omega) only [↓wr,↓reduceIte,wq,ah,ag,ak,ab,ae,af,ai,isNil,Nat.reduceEqDiff,Nat.reduceAdd,Nat.reduceLT,Nat.reduceLeDiff,Int.reduceNeg,Int.reduceToNat,reduceCtorEq,bD]))
  all_goals simp[ki, *]
theorem M9 (g:ay) (r:bc) (hg:g.Ok) (hr:aR r.right∧∀ x∈r.right,bJ x):aI Tryz.prog 87 [.agg (ax g),.agg (bD r)] (gb (fG g r)):=by
  refine aI.val (E0 g r) fun H=>?_
  have ht:=hg.av
  unfold aR at ht
  refine aG.of mixed DV ?_
  repeat' (first | (refine ar.dec (fun _=>?_) (fun _=>?_)) | (refine ar.eq (fun _=>?_) (fun _=>?_)) | (refine ar.ne (fun _=>?_) (fun _=>?_)) | (refine ar.split (fun _=>?_) (fun _=>?_)) | (refine aN.pure (qb _ _ _) (by kernel_rfl) ?_) | (simp (disch:=omega) only [↓wr,↓reduceIte,wq,ah,ag,ak,ab,ae,af,ai,isNil,Nat.reduceEqDiff,Nat.reduceAdd,Nat.reduceLT,Nat.reduceLeDiff,Int.reduceNeg,Int.reduceToNat,reduceCtorEq,Bk,ax,bD,encI,encS]))
  · rename_i h; simp[fG,show ¬ r.right.length≤6 by omega]
  · rename_i h1 h2
    have h3:r.right.length≤6:=by omega
    have h2' : -1≤r.prec∧r.prec < g.av.length:=by simp at h2; omega
    refine aN.pure (kj r.right hr.1 137 [.aQ (ax g) 0,.aQ (bD r) 0] ?_ (fun s=>!ki g r.prec s) (fun x hx=>J4 g r x (hr.2 x hx)) (by kernel_rfl)) (by kernel_rfl) ?_
    · intro v hv; simp at hv
      rcases hv with rfl | rfl
      · exact gN (cP g)
      · exact gN (rZ r)
    simp (disch:=omega) only [↓wr,↓reduceIte,wq,ah,ag,ak,ab,ae,af,ai,isNil,Nat.reduceEqDiff,Nat.reduceAdd,Nat.reduceLT,Nat.reduceLeDiff,Int.reduceNeg,Int.reduceToNat,reduceCtorEq]
    simp[fG,h3,h2'.1,h2'.2]
    rw[Bool.eq_iff_iff]
    simp
  · rename_i h1 h2
    have h3:¬ (-1≤r.prec∧r.prec < g.av.length):=by simp at h2; omega
    have:(decide (-1≤r.prec) && decide (r.prec < (g.av.length:Int)))=false:=by
      rw[← Bool.decide_and]; simpa using h3
    simp only[fG,Bool.and_assoc]
    rw[← Bool.and_assoc (decide (-1≤r.prec)),this]; simp
theorem Mt (l:List Int) (h0:l.getD 0 0=39):((ko l).2 == 0 && (ko l).1 == (l.length:Int))=kc l:=by
  match l,h0 with
  | [],h=>simp at h
  | [a],_=>rfl
  | [a,b],_ =>
    simp only[ko,iE,kc,List.length_cons,List.length_nil,List.getD_cons_succ,List.getD_cons_zero]
    repeat' split
    all_goals simp_all
  | [a,b,c],h0 =>
    have ha:a=39:=by simpa using h0
    subst ha
    simp only[ko,iE,kc,xI,Cm,List.length_cons,List.length_nil,List.getD_cons_succ,List.getD_cons_zero]
    repeat' split
    all_goals simp_all
    all_goals grind
  | [a,b,c,d],h0 =>
    have ha:a=39:=by simpa using h0
    subst ha
    simp only[ko,iE,kc,xI,Cm,List.length_cons,List.length_nil,List.getD_cons_succ,List.getD_cons_zero]
    repeat' split
    all_goals simp_all
    all_goals grind
  | a :: b :: c :: d :: e :: r,h0 =>
    simp only[ko,iE,kc,xI,Cm,List.length_cons,List.getD_cons_succ,List.getD_cons_zero]
    repeat' split
    all_goals simp_all
    all_goals (try omega)
    all_goals grind
theorem JH {c:Int} {l:List Int} (h:¬ c=39):kc (c :: l)=false:=by
  match l with
  | []=>rfl
  | [_]=>rfl
  | [_,_]=>simp[kc,h]
  | [_,_,_]=>simp[kc,h]
  | _ :: _ :: _ :: _ :: _=>rfl
theorem K3 (s:ByteArray):aI Tryz.prog 186 [gs s] (gb (kc (dR s))):=by
  refine aI.val (m8 s) fun H=>?_
  refine aG.of mixed An ?_
  have hcr:=fun d (hd:d∈dR s)=>Dz (s:=s) (c:=d) hd
  have hP:aI Tryz.prog 227 [.aL (eT s)] (.bf [gi (ko (dR s)).1,gi (ko (dR s)).2]):=by
    rw[LY]
    refine aI.of ?_ ((Jj (dR s) hcr _).mono fun r H' h h' _=>by rw[h]; exact .tree _ (.bf _ fun i hi=>by
      match i,hi with
      | 0,_=>exact .val _
      | 1,_=>exact .val _))
    intro v hv; simp at hv; subst hv
    exact dg _ _ fun x _ v hv=>by simp at hv; subst hv; exact .val _
  cases hb:dR s with
  | nil =>
    repeat' (first | (refine ar.dec (fun _=>?_) (fun _=>?_)) | (refine ar.eq (fun _=>?_) (fun _=>?_)) | (refine ar.ne (fun _=>?_) (fun _=>?_)) | (refine ar.split (fun _=>?_) (fun _=>?_)) | (simp (disch:=omega) only [↓wr,↓reduceIte,wq,ah,ag,ak,ab,ae,af,ai,isNil,Nat.reduceEqDiff,Nat.reduceAdd,Nat.reduceLT,Nat.reduceLeDiff,Int.reduceNeg,Int.reduceToNat,reduceCtorEq,pj,de,xY,hb]))
    rfl
  | cons c l =>
    have hl:=Mt (dR s)
    rw[hb] at hP hl
    repeat' (first | (refine ar.dec (fun _=>?_) (fun _=>?_)) | (refine ar.eq (fun _=>?_) (fun _=>?_)) | (refine ar.ne (fun _=>?_) (fun _=>?_)) | (refine ar.split (fun _=>?_) (fun _=>?_)) | (simp (disch:=omega) only [↓wr,↓reduceIte,wq,ah,ag,ak,ab,ae,af,ai,isNil,Nat.reduceEqDiff,Nat.reduceAdd,Nat.reduceLT,Nat.reduceLeDiff,Int.reduceNeg,Int.reduceToNat,reduceCtorEq,pj,de,xY,hb,List.getElem?_cons_zero]))
    · rename_i h
      rw[JH h]
    · rename_i h
      refine aN.pure hP (by kernel_rfl) ?_
      have hl:=hl (by simpa using h)
      repeat' (first | (refine ar.dec (fun _=>?_) (fun _=>?_)) | (refine ar.eq (fun _=>?_) (fun _=>?_)) | (refine ar.ne (fun _=>?_) (fun _=>?_)) | (refine ar.split (fun _=>?_) (fun _=>?_)) | (simp (disch:=omega) only [↓wr,↓reduceIte,wq,ah,ag,ak,ab,ae,af,ai,isNil,Nat.reduceEqDiff,Nat.reduceAdd,Nat.reduceLT,Nat.reduceLeDiff,Int.reduceNeg,Int.reduceToNat,reduceCtorEq,de,hb]))
      · rename_i h2
        rw[← hl]; simp[h2]
      · rename_i h2
        rw[← hl]; simp[h2]
theorem K5 (s:ByteArray):aI Tryz.prog 129 [gs s] (gb (nM (dR s))):=by
  refine aI.val (m8 s) fun H=>?_
  refine aG.of mixed Cn ?_
  repeat' (first | (refine ar.dec (fun _=>?_) (fun _=>?_)) | (refine ar.eq (fun _=>?_) (fun _=>?_)) | (refine ar.ne (fun _=>?_) (fun _=>?_)) | (refine ar.split (fun _=>?_) (fun _=>?_)) | (refine aN.pure (EA s) (by kernel_rfl) ?_) | (refine aN.pure (K3 s) (by kernel_rfl) ?_) | (simp (disch:=omega) only [↓wr,↓reduceIte,wq,ah,ag,ak,ab,ae,af,ai,isNil,Nat.reduceEqDiff,Nat.reduceAdd,Nat.reduceLT,Nat.reduceLeDiff,Int.reduceNeg,Int.reduceToNat,reduceCtorEq,zM]))
  all_goals simp[nM, *]
theorem IU (s:ByteArray):aI Tryz.prog 85 [gs s] (gb (!eO (dR s))):=by
  refine aI.val (m8 s) fun H=>?_
  refine aG.of mixed AA ?_
  repeat' (first | (refine ar.dec (fun _=>?_) (fun _=>?_)) | (refine ar.eq (fun _=>?_) (fun _=>?_)) | (refine ar.ne (fun _=>?_) (fun _=>?_)) | (refine ar.split (fun _=>?_) (fun _=>?_)) | (refine aN.pure (EA s) (by kernel_rfl) ?_) | (simp (disch:=omega) only [↓wr,↓reduceIte,wq,ah,ag,ak,ab,ae,af,ai,isNil,Nat.reduceEqDiff,Nat.reduceAdd,Nat.reduceLT,Nat.reduceLeDiff,Int.reduceNeg,Int.reduceToNat,reduceCtorEq,wH]))
def uD:SC :=
  .seq (aq [aC 12 .lss 11 10]) <|
  .seq (.cond (.tmp 12) (.skip) (.exit 0)) <|
  .seq (.block 1 (.seq (.region false [⟨none,[aD 13 3 9 11,aF 14 3 13,((some 6),.op (.alloc [(.val (.string ⟨#[]⟩)),(.val (.int .i64 0)),(.val (.int .i64 0))])),(none,.op (.store 3 (.tmp 6) (.tmp 14)))]⟩]) <|
  .seq (.seq (aq [ao 15 1 6,an 16 15,au 17 .eql 16 0]) <|
  .cond (.tmp 17) (.exit 1) (.skip)) <|
  .seq (.seq (aq [aa 18 3,ao 19 1 6,an 20 19,((some 21),.op (.old (.lookup 230 (.tmp 18) (.tmp 20) false) 3)),aa 7 21]) <|
  .seq (.region false [⟨none,[aa 22 7,au 23 .neq 22 0,aa 24 23]⟩,⟨(some (24,true)),[aa 25 7,ao 26 2 6,an 27 26,aC 28 .neq 25 27]⟩,⟨none,[bq 29 24 28]⟩]) <|
  .cond (.tmp 29) (.seq (aq [aM 2 false]) <|
  .ret) (.skip)) <|
  .seq (aq [aa 30 3,ao 31 1 6,an 32 31,ao 33 2 6,an 34 33,(none,.op (.old (.mapUpdate 230 (.tmp 30) (.tmp 32) (.tmp 34)) 0))]) <|
  aq [aa 35 4,ao 36 1 6,an 37 36,((some 38),.op (.mm true (.tmp 35) (.tmp 37))),aa 4 38])) <|
  aq [au 39 .add 11 1,aa 11 39]
def yD:SF:=⟨.seq (aq [aM 2 false]) <|
  .seq (aq [((some 8),.op (.yW)),aa 3 8]) <|
  .seq (aq [az 4 0]) <|
  .seq (.seq (aq [aa 9 0,aA 10 9,az 11 0]) <|
  .block 0 (.loop uD)) <|
  .seq (aq [aa 40 3,((some 41),.op (.old (.call { callee:=.builtin .len,args:=#[(.tmp 40)],argTypes:=#[230] }) 3)),aa 42 4,aC 43 .eql 41 42,aa 2 43]) <|
  .ret,
  [.tmp 2],44⟩
theorem Bg:ba Tryz.prog 130 []=some yD:=by kernel_rfl
def wW:SC :=
  .seq (aq [aC 8 .lss 7 6]) <|
  .seq (.cond (.tmp 8) (.skip) (.exit 0)) <|
  .seq (.block 1 (.seq (.region false [⟨none,[aD 9 3 5 7,aF 10 3 9,((some 4),.op (.alloc [(.val (.string ⟨#[]⟩)),(.val (.int .i64 0)),(.val (.int .i64 0))])),(none,.op (.store 3 (.tmp 4) (.tmp 10)))]⟩]) <|
  .seq (.region false [⟨none,[ao 11 0 4,an 12 11,aJ 13 129 [12],bC 14 13,aa 15 14]⟩,⟨(some (15,false)),[ao 16 1 4,an 17 16,b6 18 82 [(.tmp 17),(.val (.val (.int .i64 0))),(.val (.val (.int .i64 24)))],bC 19 18]⟩,⟨none,[aS 20 15 19,aa 21 20]⟩,⟨(some (21,false)),[ao 22 2 4,an 23 22,b6 24 82 [(.tmp 23),(.val (.val (.int .i64 0))),(.val (.val (.int .i64 3)))],bC 25 24]⟩,⟨none,[aS 26 21 25,aa 27 26]⟩,⟨(some (27,false)),[ao 28 1 4,an 29 28,au 30 .eql 29 0,ao 31 2 4,an 32 31,au 33 .eql 32 0,((some 34),.op (.beq false (.tmp 30) (.tmp 33)))]⟩,⟨none,[aS 35 27 34]⟩]) <|
  .cond (.tmp 35) (.seq (aq [aM 2 false]) <|
  .ret) (.skip))) <|
  aq [au 36 .add 7 1,aa 7 36]
def zB:SF:=⟨.seq (aq [aM 2 false]) <|
  .seq (.seq (aq [aa 5 0,aA 6 5,az 7 0]) <|
  .block 0 (.loop wW)) <|
  .seq (.region false [⟨none,[aa 37 0,aA 38 37,au 39 .leq 38 24,aa 40 39]⟩,⟨(some (40,true)),[aa 41 0,aJ 42 130 [41]]⟩,⟨none,[bq 43 40 42,aa 2 43]⟩]) <|
  .ret,
  [.tmp 2],44⟩
theorem BW:ba Tryz.prog 81 []=some zB:=by kernel_rfl
def wV:SC :=
  .seq (aq [aC 16 .lss 15 14]) <|
  .seq (.cond (.tmp 16) (.skip) (.exit 0)) <|
  .seq (.block 1 (.seq (.region false [⟨none,[aD 17 3 13 15,aF 18 3 17,((some 5),.op (.alloc [(.val (.string ⟨#[]⟩)),(.val (.int .i64 0)),(.val (.int .i64 0))])),(none,.op (.store 3 (.tmp 5) (.tmp 18)))]⟩]) <|
  .region false [⟨none,[aa 19 3,ao 20 0 5,an 21 20,((some 22),.op (.aT 1 1 [(.val (.string ⟨#[]⟩))] [(0,(.tmp 21))])),((some 23),.op (.app 1 16 (.tmp 19) (.tmp 22))),aa 3 23]⟩])) <|
  aq [au 24 .add 15 1,aa 15 24]
def wU:SC :=
  .seq (aq [aC 65 .lss 64 63]) <|
  .seq (.cond (.tmp 65) (.skip) (.exit 2)) <|
  .seq (.block 3 (.seq (aq [aD 66 3 62 64,aF 67 3 66,((some 8),.op (.alloc [(.val (.int .i64 0)),(.emp 1),(.val (.int .i64 0))])),(none,.op (.store 3 (.tmp 8) (.tmp 67)))]) <|
  .seq (.seq (.region false [⟨none,[ao 68 0 8,an 69 68,aa 70 6,b6 71 82 [(.tmp 69),(.val (.val (.int .i64 0))),(.tmp 70)],bC 72 71,aa 73 72]⟩,⟨(some (73,false)),[aF 74 4 1,aF 75 3 8,aJ 76 87 [74,75],bC 77 76]⟩,⟨none,[aS 78 73 77]⟩]) <|
  .cond (.tmp 78) (.seq (aq [aM 2 false]) <|
  .ret) (.skip)) <|
  aq [aa 79 6,ao 80 0 8,an 81 80,au 82 .add 81 1,((some 83),.op (.mm true (.tmp 79) (.tmp 82))),aa 6 83])) <|
  aq [au 84 .add 64 1,aa 64 84]
def zD:SF:=⟨.seq (aq [bz 1 0,aM 2 false]) <|
  .seq (aq [ao 9 1 1,an 10 9,aJ 11 80 [10],aa 3 11]) <|
  .seq (.seq (aq [ao 12 0 1,an 13 12,aA 14 13,az 15 0]) <|
  .block 0 (.loop wV)) <|
  .seq (.seq (.region false [⟨none,[ao 25 0 1,an 26 25,aJ 27 81 [26],bC 28 27,aa 29 28]⟩,⟨(some (29,false)),[ao 30 1 1,an 31 30,aA 32 31,b6 33 82 [(.tmp 32),(.val (.val (.int .i64 1))),(.val (.val (.int .i64 16)))],bC 34 33]⟩,⟨none,[aS 35 29 34,aa 36 35]⟩,⟨(some (36,false)),[ao 37 2 1,an 38 37,aA 39 38,b6 40 82 [(.tmp 39),(.val (.val (.int .i64 1))),(.val (.val (.int .i64 40)))],bC 41 40]⟩,⟨none,[aS 42 36 41,aa 43 42]⟩,⟨(some (43,false)),[aa 44 3,aJ 45 83 [44],bC 46 45]⟩,⟨none,[aS 47 43 46,aa 48 47]⟩,⟨(some (48,false)),[ao 49 3 1,an 50 49,ao 51 1 1,an 52 51,aA 53 52,au 54 .sub 53 1,b6 55 82 [(.tmp 50),(.val (.val (.int .i64 0))),(.tmp 54)],bC 56 55]⟩,⟨none,[aS 57 48 56]⟩]) <|
  .cond (.tmp 57) (.seq (aq [aM 2 false]) <|
  .ret) (.skip)) <|
  .seq (.seq (aq [ao 58 1 1,an 59 58,b6 60 84 [(.tmp 59),(.val (.fn 85 [] []))]]) <|
  .cond (.tmp 60) (.seq (aq [aM 2 false]) <|
  .ret) (.skip)) <|
  .seq (aq [az 6 0]) <|
  .seq (.seq (aq [ao 61 2 1,an 62 61,aA 63 62,az 64 0]) <|
  .block 2 (.loop wU)) <|
  .seq (aq [aa 85 6,ao 86 1 1,an 87 86,aA 88 87,aC 89 .eql 85 88,aa 2 89]) <|
  .ret,
  [.tmp 2],90⟩
theorem Co:ba Tryz.prog 45 [1]=some zD:=by kernel_rfl
def dK (l:List Term):V:=.aL (l.map df)
theorem BS (l:List Term):∀ v∈[dK l],Tree v:=by intro v hv; simp at hv; subst hv; exact dg _ _ fun x _=>Ds x
def kh:List Term→List (Int × Int)→Int→Option (List (Int × Int) × Int)
  | [],a,top=>some (a,top)
  | t :: r,a,top=>if t.level=0 then kh r a top else
      if (dB a t.level).getD 0≠0∧(dB a t.level).getD 0≠t.assoc then none else kh r (jJ t.level t.assoc a) (if t.level > top then t.level else top)
def qk (l:List Term):Bool:=match kh l [] 0 with
  | some (a,top)=>(a.length:Int) == top
  | none=>false
set_option maxHeartbeats 1000000 in
theorem Je (l:List Term) (hl:aR l):aI Tryz.prog 130 [dK l] (gb (qk l)):=by
  refine aI.val (BS l) fun H=>?_
  refine aG.of mixed Bg ?_
  unfold aR at hl
  simp (disch:=omega) only [↓wr,↓reduceIte,wq,ah,ag,ak,ab,ae,af,ai,isNil,Nat.reduceEqDiff,Nat.reduceAdd,Nat.reduceLT,Nat.reduceLeDiff,Int.reduceNeg,Int.reduceToNat,reduceCtorEq,yD,dK]
  intro q hq
  try simp (disch:=omega) only [↓wr,↓reduceIte,wq,ah,ag,ak,ab,ae,af,ai,isNil,Nat.reduceEqDiff,Nat.reduceAdd,Nat.reduceLT,Nat.reduceLeDiff,Int.reduceNeg,Int.reduceToNat,reduceCtorEq]
  refine bp.up l.length (fun i T H=>(∃ a m c top,H q=.map (eU (Value.int .i64) m) c∧nf gi a m∧T 4=gi top∧kh (l.drop i) a top=kh l [] 0)∧T 0=dK l∧T 3=.mp q∧T 9=dK l∧T 10=gi l.length∧T 11=gi i) ?_ ?_
  · refine ⟨⟨[],[],0,0,?_,trivial,rfl,rfl⟩,rfl,rfl,rfl,rfl,rfl⟩
    simp[View.set,eU]
  rintro i k T H hk ⟨⟨a,m,c,top,hq,hm,h4,hi⟩,h0,h3,h9,h10,h11⟩
  simp (disch:=omega) only [↓wr,↓reduceIte,wq,ah,ag,ak,ab,ae,af,ai,isNil,Nat.reduceEqDiff,Nat.reduceAdd,Nat.reduceLT,Nat.reduceLeDiff,Int.reduceNeg,Int.reduceToNat,reduceCtorEq,uD,h0,h3,h4,h9,h10,h11,dK]
  refine ar.dec (fun hc=>?_) (fun hc=>?_)
  · have hg:l[i]?=some (l[i]'(by omega)):=List.getElem?_eq_getElem (by omega)
    rw[c9 (show i < l.length by omega)] at hi
    generalize l[i]'(by omega)=t at hg hi
    simp only[kh] at hi
    simp (disch:=omega) only [↓wr,↓reduceIte,wq,ah,ag,ak,ab,ae,af,ai,isNil,Nat.reduceEqDiff,Nat.reduceAdd,Nat.reduceLT,Nat.reduceLeDiff,Int.reduceNeg,Int.reduceToNat,reduceCtorEq,h0,h3,h4,h9,h10,h11,dK,df,List.getElem?_map,hg]
    intro b hb
    have hbq:b≠q:=by rintro rfl; rw[hq] at hb; simp at hb
    try simp (disch:=omega) only [↓wr,↓reduceIte,wq,ah,ag,ak,ab,ae,af,ai,isNil,Nat.reduceEqDiff,Nat.reduceAdd,Nat.reduceLT,Nat.reduceLeDiff,Int.reduceNeg,Int.reduceToNat,reduceCtorEq]
    refine ar.eq (fun hz=>?_) (fun hz=>?_)
    · rw[if_pos hz] at hi
      simp (disch:=omega) only [↓wr,↓reduceIte,wq,ah,ag,ak,ab,ae,af,ai,isNil,Nat.reduceEqDiff,Nat.reduceAdd,Nat.reduceLT,Nat.reduceLeDiff,Int.reduceNeg,Int.reduceToNat,reduceCtorEq,h0,h3,h4,h9,h10,h11]
      refine br hk (by omega) ⟨⟨a,m,c,top,?_,hm,h4,hi⟩,h0,h3,h9,h10,rfl⟩
      simp[View.set,hbq.symm,hq]
    · rw[if_neg hz] at hi
      simp (disch:=omega) only [↓wr,↓reduceIte,wq,ah,ag,ak,ab,ae,af,ai,isNil,Nat.reduceEqDiff,Nat.reduceAdd,Nat.reduceLT,Nat.reduceLeDiff,Int.reduceNeg,Int.reduceToNat,reduceCtorEq,h0,h3,h4,h9,h10,h11]
      refine P1 (kt:=3) (et:=3) (z:=gi 0) (by kernel_rfl) (by kernel_rfl) (Fu .i64 Tryz.underlying3) (id:=q) (c:=c) (m:=m) (k:=t.level) (by simp (disch:=omega) only [↓wr,↓reduceIte,wq,ah,ag,ak,ab,ae,af,ai,isNil,Nat.reduceEqDiff,Nat.reduceAdd,Nat.reduceLT,Nat.reduceLeDiff,Int.reduceNeg,Int.reduceToNat,reduceCtorEq,h3]) (by simp (disch:=omega) only [↓wr,↓reduceIte,wq,ah,ag,ak,ab,ae,af,ai,isNil,Nat.reduceEqDiff,Nat.reduceAdd,Nat.reduceLT,Nat.reduceLeDiff,Int.reduceNeg,Int.reduceToNat,reduceCtorEq,h3]) (by simp[View.set,hbq.symm,hq]) ?_
      have hgt:(getM m t.level).getD (gi 0)=gi ((dB a t.level).getD 0):=by
        rw[hm.get]; cases dB a t.level <;> rfl
      have hput:∀ (H2:View) (c':Nat) (T2:Env),(¬ ((dB a t.level).getD 0≠0∧(dB a t.level).getD 0≠t.assoc)) →
          H2 q=.map (eU (Value.int .i64) (dd t.level (gi t.assoc) c m)) c'→T2 0=dK l→T2 3=.mp q→T2 4=gi (if t.level > top then t.level else top)→T2 9=dK l→T2 10=gi l.length→T2 11=gi ((i:Int)+1) →
          ∃ k',k' < k∧Lh l.length k' (fun i T H=>(∃ a m c top,H q=.map (eU (Value.int .i64) m) c∧nf gi a m∧T 4=gi top∧kh (l.drop i) a top=kh l [] 0)∧T 0=dK l∧T 3=.mp q∧T 9=dK l∧T 10=gi l.length∧T 11=gi i) T2 H2:=by
        intro H2 c' T2 hn g1 g2 g3 g4 g5 g6 g7
        rw[if_neg hn] at hi
        exact br hk (by omega) ⟨⟨_,_,c',_,g1,hm.put t.level t.assoc c,g4,hi⟩,g2,g3,g5,g6,by rw[g7]; rfl⟩
      repeat' (first | (refine ar.dec (fun _=>?_) (fun _=>?_)) | (refine ar.eq (fun _=>?_) (fun _=>?_)) | (refine ar.ne (fun _=>?_) (fun _=>?_)) | (refine ar.split (fun _=>?_) (fun _=>?_)) | (simp (disch:=omega) only [↓wr,↓reduceIte,wq,ah,ag,ak,ab,ae,af,ai,isNil,Nat.reduceEqDiff,Nat.reduceAdd,Nat.reduceLT,Nat.reduceLeDiff,Int.reduceNeg,Int.reduceToNat,reduceCtorEq,h0,h3,h4,h9,h10,h11,hgt]))
      · rename_i n1 n2
        rw[if_pos ⟨n1,n2⟩] at hi
        simp only[qk,← hi]
      · rename_i n1 n2
        refine JY (kt:=3) (et:=3) (by kernel_rfl) (Fu .i64 Tryz.underlying3) (id:=q) (c:=c) (m:=m) (k:=t.level) (v:=gi t.assoc) (by simp (disch:=omega) only [↓wr,↓reduceIte,wq,ah,ag,ak,ab,ae,af,ai,isNil,Nat.reduceEqDiff,Nat.reduceAdd,Nat.reduceLT,Nat.reduceLeDiff,Int.reduceNeg,Int.reduceToNat,reduceCtorEq,h3]) (by simp (disch:=omega) only [↓wr,↓reduceIte,wq,ah,ag,ak,ab,ae,af,ai,isNil,Nat.reduceEqDiff,Nat.reduceAdd,Nat.reduceLT,Nat.reduceLeDiff,Int.reduceNeg,Int.reduceToNat,reduceCtorEq,h3]) (by simp (disch:=omega) only [↓wr,↓reduceIte,wq,ah,ag,ak,ab,ae,af,ai,isNil,Nat.reduceEqDiff,Nat.reduceAdd,Nat.reduceLT,Nat.reduceLeDiff,Int.reduceNeg,Int.reduceToNat,reduceCtorEq,h3]) (by simp[View.set,hbq.symm,hq]) ?_
        intro c'
        simp (disch:=omega) only [↓wr,↓reduceIte,wq,ah,ag,ak,ab,ae,af,ai,isNil,Nat.reduceEqDiff,Nat.reduceAdd,Nat.reduceLT,Nat.reduceLeDiff,Int.reduceNeg,Int.reduceToNat,reduceCtorEq,h0,h3,h4,h9,h10,h11,hbq]
        exact hput _ c' _ (fun e=>e.2 n2) (by simp[View.set]) h0 h3 rfl h9 h10 rfl
      · rename_i n1
        refine JY (kt:=3) (et:=3) (by kernel_rfl) (Fu .i64 Tryz.underlying3) (id:=q) (c:=c) (m:=m) (k:=t.level) (v:=gi t.assoc) (by simp (disch:=omega) only [↓wr,↓reduceIte,wq,ah,ag,ak,ab,ae,af,ai,isNil,Nat.reduceEqDiff,Nat.reduceAdd,Nat.reduceLT,Nat.reduceLeDiff,Int.reduceNeg,Int.reduceToNat,reduceCtorEq,h3]) (by simp (disch:=omega) only [↓wr,↓reduceIte,wq,ah,ag,ak,ab,ae,af,ai,isNil,Nat.reduceEqDiff,Nat.reduceAdd,Nat.reduceLT,Nat.reduceLeDiff,Int.reduceNeg,Int.reduceToNat,reduceCtorEq,h3]) (by simp (disch:=omega) only [↓wr,↓reduceIte,wq,ah,ag,ak,ab,ae,af,ai,isNil,Nat.reduceEqDiff,Nat.reduceAdd,Nat.reduceLT,Nat.reduceLeDiff,Int.reduceNeg,Int.reduceToNat,reduceCtorEq,h3]) (by simp[View.set,hbq.symm,hq]) ?_
        intro c'
        simp (disch:=omega) only [↓wr,↓reduceIte,wq,ah,ag,ak,ab,ae,af,ai,isNil,Nat.reduceEqDiff,Nat.reduceAdd,Nat.reduceLT,Nat.reduceLeDiff,Int.reduceNeg,Int.reduceToNat,reduceCtorEq,h0,h3,h4,h9,h10,h11,hbq]
        exact hput _ c' _ (fun e=>e.1 n1) (by simp[View.set]) h0 h3 rfl h9 h10 rfl
  · rw[List.drop_eq_nil_of_le (by omega)] at hi
    simp only[kh] at hi
    simp (disch:=omega) only [↓wr,↓reduceIte,wq,ah,ag,ak,ab,ae,af,ai,isNil,Nat.reduceEqDiff,Nat.reduceAdd,Nat.reduceLT,Nat.reduceLeDiff,Int.reduceNeg,Int.reduceToNat,reduceCtorEq,h0,h3,h4,h9,h10,h11]
    refine PG (kt:=3) (et:=3) (by kernel_rfl) (id:=q) (c:=c) (m:=m) (by simp (disch:=omega) only [↓wr,↓reduceIte,wq,ah,ag,ak,ab,ae,af,ai,isNil,Nat.reduceEqDiff,Nat.reduceAdd,Nat.reduceLT,Nat.reduceLeDiff,Int.reduceNeg,Int.reduceToNat,reduceCtorEq,h3]) hq ?_
    simp (disch:=omega) only [↓wr,↓reduceIte,wq,ah,ag,ak,ab,ae,af,ai,isNil,Nat.reduceEqDiff,Nat.reduceAdd,Nat.reduceLT,Nat.reduceLeDiff,Int.reduceNeg,Int.reduceToNat,reduceCtorEq,h0,h3,h4,h9,h10,h11,hm.len]
    simp only[qk,← hi]
def jj (t:Term):Bool:=nM (dR t.name) && decide (0≤t.level) && decide (t.level≤24) && decide (0≤t.assoc) && decide (t.assoc≤3) && ((t.level == 0) == (t.assoc == 0))
def qz (l:List Term):Bool:=l.all jj && decide (l.length≤24) && qk l
set_option maxHeartbeats 1000000 in
theorem LJ (l:List Term) (hl:aR l):aI Tryz.prog 81 [dK l] (gb (qz l)):=by
  refine aI.val (BS l) fun H=>?_
  refine aG.of mixed BW ?_
  have hl2:=hl
  unfold aR at hl
  simp (disch:=omega) only [↓wr,↓reduceIte,wq,ah,ag,ak,ab,ae,af,ai,isNil,Nat.reduceEqDiff,Nat.reduceAdd,Nat.reduceLT,Nat.reduceLeDiff,Int.reduceNeg,Int.reduceToNat,reduceCtorEq,zB,dK]
  refine bp.up l.length (fun i T H=>(l.drop i).all jj=l.all jj∧T 0=dK l∧T 5=dK l∧T 6=gi l.length∧T 7=gi i) ?_ ?_
  · exact ⟨rfl,rfl,rfl,rfl,rfl⟩
  rintro i k T H hk ⟨hi,h0,h5,h6,h7⟩
  simp (disch:=omega) only [↓wr,↓reduceIte,wq,ah,ag,ak,ab,ae,af,ai,isNil,Nat.reduceEqDiff,Nat.reduceAdd,Nat.reduceLT,Nat.reduceLeDiff,Int.reduceNeg,Int.reduceToNat,reduceCtorEq,wW,h0,h5,h6,h7,dK]
  refine ar.dec (fun hc=>?_) (fun hc=>?_)
  · have hg:l[i]?=some (l[i]'(by omega)):=List.getElem?_eq_getElem (by omega)
    rw[c9 (show i < l.length by omega)] at hi
    generalize l[i]'(by omega)=t at hg hi
    rw[List.all_cons] at hi
    have hbad:jj t=false→gb false=gb (qz l):=fun e=>by rw[e,Bool.false_and] at hi; simp[qz,← hi]
    simp (disch:=omega) only [↓wr,↓reduceIte,wq,ah,ag,ak,ab,ae,af,ai,isNil,Nat.reduceEqDiff,Nat.reduceAdd,Nat.reduceLT,Nat.reduceLeDiff,Int.reduceNeg,Int.reduceToNat,reduceCtorEq,h0,h5,h6,h7,dK,df,List.getElem?_map,hg]
    intro b hb
    repeat' (first | (refine ar.dec (fun _=>?_) (fun _=>?_)) | (refine ar.eq (fun _=>?_) (fun _=>?_)) | (refine ar.ne (fun _=>?_) (fun _=>?_)) | (refine ar.split (fun _=>?_) (fun _=>?_)) | (refine aN.pure (K5 t.name) (by kernel_rfl) ?_) | (refine aN.pure (qb _ _ _) (by kernel_rfl) ?_) | (simp (disch:=omega) only [↓wr,↓reduceIte,wq,ah,ag,ak,ab,ae,af,ai,isNil,Nat.reduceEqDiff,Nat.reduceAdd,Nat.reduceLT,Nat.reduceLeDiff,Int.reduceNeg,Int.reduceToNat,reduceCtorEq,h0,h5,h6,h7,dK]))
    all_goals first
      | (refine hbad ?_; simp[jj, *]; done)
      | (refine hbad ?_; simp_all [jj]; done)
      | skip
    rename_i e1 e2 e3 e4
    refine br hk (by omega) ⟨?_,h0,h5,h6,rfl⟩
    have:jj t=true:=by
      simp only[Bool.and_eq_true,decide_eq_true_eq] at e2 e3
      have e4':((t.level == 0) == (t.assoc == 0))=true:=by simpa [bne] using e4
      simp[jj,e1,e2.1,e2.2,e3.1,e3.2,e4']
    rw[this,Bool.true_and] at hi
    exact hi
  · rw[List.drop_eq_nil_of_le (by omega),List.all_nil] at hi
    simp (disch:=omega) only [↓wr,↓reduceIte,wq,ah,ag,ak,ab,ae,af,ai,isNil,Nat.reduceEqDiff,Nat.reduceAdd,Nat.reduceLT,Nat.reduceLeDiff,Int.reduceNeg,Int.reduceToNat,reduceCtorEq,h0,h5,h6,h7,dK]
    repeat' (first | (refine ar.dec (fun _=>?_) (fun _=>?_)) | (refine ar.eq (fun _=>?_) (fun _=>?_)) | (refine ar.ne (fun _=>?_) (fun _=>?_)) | (refine ar.split (fun _=>?_) (fun _=>?_)) | (refine aN.pure (Je l hl2) (by kernel_rfl) ?_) | (simp (disch:=omega) only [↓wr,↓reduceIte,wq,ah,ag,ak,ab,ae,af,ai,isNil,Nat.reduceEqDiff,Nat.reduceAdd,Nat.reduceLT,Nat.reduceLeDiff,Int.reduceNeg,Int.reduceToNat,reduceCtorEq,h0,h5,h6,h7,dK]))
    · rename_i h
      simp[qz,← hi,show l.length≤24 by omega]
    · rename_i h
      simp[qz,← hi,show ¬ l.length≤24 by omega]
open Go Go.Proofs Go.Shelf Go.RowKit Go.Sort
attribute [local go_sem] Oper.semAt_some
def ib:Ren where
  f:=fun
    | 6=>131
    | 8=>187
    | 9=>188
    | 11=>228
    | 13=>230
    | 12=>229
    | 23=>246
    | 24=>247
    | 14=>237
    | 15=>238
    | 16=>239
    | 17=>240
    | 18=>241
    | 19=>242
    | 20=>243
    | 21=>244
    | 22=>245
    | 25=>250
    | 26=>251
    | 27=>252
    | 28=>253
    | 29=>254
    | 30=>255
    | 31=>256
    | n=>n
  t:=fun
    | 26=>9
    | 28=>209
    | 24=>23
    | 0=>0
    | 3=>3
    | 37=>221
    | 48=>164
    | 50=>272
    | 4=>4
    | 40=>314
    | 39=>313
    | 45=>103
    | 5=>5
    | 9=>9
    | 51=>324
    | 55=>328
    | 57=>330
    | 58=>331
    | 33=>143
    | n=>n
  g:=fun n=>n
theorem Oo:Go.Proofs.SlLaysZ.n6 Tryz.prog ib where
  mixed:=by kernel_rfl
  f6:=⟨Tryz.f131.name,by kernel_rfl,by kernel_rfl⟩
  f8:=⟨Tryz.f187.name,by kernel_rfl,by kernel_rfl⟩
  f11:=⟨Tryz.f228.name,by kernel_rfl,by kernel_rfl⟩
  t0:=Tryz.underlying0
  a0:=Tryz.isAgg0
  z0:=Tryz.sizeOf0
  v0:=Tryz.zeroValue0
  t24:=Tryz.underlying23
  a24:=Tryz.isAgg23
  z24:=Tryz.sizeOf23
  v24:=Tryz.zeroValue23
  t26:=Tryz.underlying9
  a26:=Tryz.isAgg9
  z26:=Tryz.sizeOf9
  v26:=Tryz.zeroValue9
  t28:=Tryz.underlying209
  a28:=Tryz.isAgg209
  z28:=Tryz.sizeOf209
  v28:=Tryz.zeroValue209
  i26:=by kernel_rfl
def JR:Ren where
  f:=fun
    | 6=>188
    | 8=>230
    | 9=>229
    | 19=>246
    | 20=>247
    | 21=>237
    | 22=>238
    | 23=>239
    | 24=>240
    | 25=>241
    | 26=>242
    | 27=>243
    | 28=>244
    | 29=>245
    | 36=>250
    | 31=>251
    | 32=>252
    | 37=>253
    | 38=>254
    | 39=>255
    | 41=>256
    | n=>n
  t:=fun
    | 27=>23
    | 29=>9
    | 3=>3
    | 32=>221
    | 26=>23
    | 0=>0
    | 44=>164
    | 46=>272
    | 4=>4
    | 36=>314
    | 35=>313
    | 41=>103
    | 5=>5
    | 9=>9
    | 53=>324
    | 57=>328
    | 63=>330
    | 64=>331
    | n=>n
  g:=fun n=>n
theorem N0:Go.Proofs.SlLaysM.n6 Tryz.prog JR where
  mixed:=by kernel_rfl
  f6:=⟨Tryz.f188.name,by kernel_rfl,by kernel_rfl⟩
  f8:=by kernel_rfl
  f9:=⟨Tryz.f229.name,by kernel_rfl,by kernel_rfl⟩
  f19:=by kernel_rfl
  f20:=by kernel_rfl
  f21:=⟨Tryz.f237.name,by kernel_rfl,by kernel_rfl⟩
  f22:=⟨Tryz.f238.name,by kernel_rfl,by kernel_rfl⟩
  f23:=⟨Tryz.f239.name,by kernel_rfl,by kernel_rfl⟩
  f24:=⟨Tryz.f240.name,by kernel_rfl,by kernel_rfl⟩
  f25:=⟨Tryz.f241.name,by kernel_rfl,by kernel_rfl⟩
  f26:=⟨Tryz.f242.name,by kernel_rfl,by kernel_rfl⟩
  f27:=⟨Tryz.f243.name,by kernel_rfl,by kernel_rfl⟩
  f28:=⟨Tryz.f244.name,by kernel_rfl,by kernel_rfl⟩
  f29:=⟨Tryz.f245.name,by kernel_rfl,by kernel_rfl⟩
  f31:=by kernel_rfl
  f32:=by kernel_rfl
  f36:=⟨Tryz.f250.name,by kernel_rfl,by kernel_rfl⟩
  f37:=⟨Tryz.f253.name,by kernel_rfl,by kernel_rfl⟩
  f38:=⟨Tryz.f254.name,by kernel_rfl,by kernel_rfl⟩
  f39:=⟨Tryz.f255.name,by kernel_rfl,by kernel_rfl⟩
  f41:=⟨Tryz.f256.name,by kernel_rfl,by kernel_rfl⟩
  t0:=Tryz.underlying0
  a0:=Tryz.isAgg0
  z0:=Tryz.sizeOf0
  v0:=Tryz.zeroValue0
  t3:=Tryz.underlying3
  a3:=Tryz.isAgg3
  z3:=Tryz.sizeOf3
  v3:=Tryz.zeroValue3
  t4:=Tryz.underlying4
  a4:=Tryz.isAgg4
  z4:=Tryz.sizeOf4
  v4:=Tryz.zeroValue4
  t5:=Tryz.underlying5
  a5:=Tryz.isAgg5
  z5:=Tryz.sizeOf5
  v5:=Tryz.zeroValue5
  t9:=Tryz.underlying9
  a9:=Tryz.isAgg9
  z9:=Tryz.sizeOf9
  v9:=Tryz.zeroValue9
  t26:=Tryz.underlying23
  a26:=Tryz.isAgg23
  z26:=Tryz.sizeOf23
  v26:=Tryz.zeroValue23
  t27:=Tryz.underlying23
  a27:=Tryz.isAgg23
  z27:=Tryz.sizeOf23
  v27:=Tryz.zeroValue23
  t29:=Tryz.underlying9
  a29:=Tryz.isAgg9
  z29:=Tryz.sizeOf9
  v29:=Tryz.zeroValue9
  t32:=Tryz.underlying221
  a32:=Tryz.isAgg221
  z32:=Tryz.sizeOf221
  v32:=Tryz.zeroValue221
  t35:=Tryz.underlying313
  a35:=Tryz.isAgg313
  z35:=Tryz.sizeOf313
  v35:=Tryz.zeroValue313
  t36:=Tryz.underlying314
  a36:=Tryz.isAgg314
  z36:=Tryz.sizeOf314
  v36:=Tryz.zeroValue314
  t41:=Tryz.underlying103
  a41:=Tryz.isAgg103
  z41:=Tryz.sizeOf103
  v41:=Tryz.zeroValue103
  t44:=Tryz.underlying164
  a44:=Tryz.isAgg164
  z44:=Tryz.sizeOf164
  v44:=Tryz.zeroValue164
  t46:=Tryz.underlying272
  a46:=Tryz.isAgg272
  z46:=Tryz.sizeOf272
  v46:=Tryz.zeroValue272
  t53:=Tryz.underlying324
  a53:=Tryz.isAgg324
  z53:=Tryz.sizeOf324
  v53:=Tryz.zeroValue324
  t57:=Tryz.underlying328
  a57:=Tryz.isAgg328
  z57:=Tryz.sizeOf328
  v57:=Tryz.zeroValue328
  t63:=Tryz.underlying330
  a63:=Tryz.isAgg330
  z63:=Tryz.sizeOf330
  v63:=Tryz.zeroValue330
  t64:=Tryz.underlying331
  a64:=Tryz.isAgg331
  z64:=Tryz.sizeOf331
  v64:=Tryz.zeroValue331
def Ke:Ren where
  f:=fun
    | 44=>133
    | n=>n
  t:=fun
    | 25=>23
    | 26=>9
    | 3=>3
    | 4=>4
    | 0=>0
    | n=>n
  g:=fun n=>n
theorem NV:Go.Proofs.SlLaysN.n44 Tryz.prog Ke where
  mixed:=by kernel_rfl
  f44:=⟨Tryz.f133.name,by kernel_rfl,by kernel_rfl⟩
  t0:=Tryz.underlying0
  a0:=Tryz.isAgg0
  z0:=Tryz.sizeOf0
  v0:=Tryz.zeroValue0
  t3:=Tryz.underlying3
  a3:=Tryz.isAgg3
  z3:=Tryz.sizeOf3
  v3:=Tryz.zeroValue3
  t4:=Tryz.underlying4
  a4:=Tryz.isAgg4
  z4:=Tryz.sizeOf4
  v4:=Tryz.zeroValue4
  t25:=Tryz.underlying23
  a25:=Tryz.isAgg23
  z25:=Tryz.sizeOf23
  v25:=Tryz.zeroValue23
  t26:=Tryz.underlying9
  a26:=Tryz.isAgg9
  z26:=Tryz.sizeOf9
  v26:=Tryz.zeroValue9
  i26:=by kernel_rfl
def Be (n:Nat) (P:Program) (g:Nat) (lb:Array Value) (S:List (List UInt8)→Prop) (N:Nat) (w:World):Prop :=
  ∀ (l:Nat) (J:List (List UInt8)→World→Prop) (W:World),(∀ pre W',J pre W'→Below w.heap.size w W') →
    (∀ pre x W1,J pre W1→pre.length < N→YieldAt Fence.wide (n - 1) P l #[encStr x] W1 fun e W'=>e=.returned (.bool true)∧J (pre ++ [x]) W'∧KeepsWalks W1 W') →
    J [] W→CallsIn Fence.wide n P g (#[.func (.yield l) #[] #[]] ++ lb) W fun e W'=>(∃ v,e=.returned v)∧∃ xs,S xs∧J xs W'
theorem J8 {zs:List (List UInt8)} {k:Nat} (h:k < zs.length):zs.take k ++ [zs.getD k []]=zs.take (k+1):=by
  rw[List.take_add_one]; simp[List.getD_eq_getElem?_getD,h]
set_option maxHeartbeats 2000000 in
theorem IT (n:Nat) (hn:1≤n) (Bs b off cap:Nat) (zs:List (List UInt8)) (hreach:zs.length * 16≤140737488351232) (w:World)
    (hBs:w.cell? ⟨Bs,0,none⟩=some (.slice (some ⟨b,off,none⟩) zs.length cap)) (hBl:Bs < w.heap.size) (hbl:b < w.heap.size)
    (hc:∀ j,j < zs.length→w.cell? ⟨b,off+j,none⟩=some (encStr (zs.getD j []))) :
    Be n Tryz.prog 189 #[.pointer (some ⟨Bs,0,none⟩)] (fun xs=>xs=zs) zs.length w:=by
  intro l J W hJ hY h0
  have hbw:=hJ _ _ h0
  have hBs':=(hbw.cell (p:=⟨Bs,0,none⟩) hBl).trans hBs
  have hf:Fence.wide.fn 189:=trivial
  refine callsIn_of_wp Tryz.func189 rfl hf ?_ rfl
  simp only[Tryz.ntmps189,List.size_toArray,List.length_cons,List.length_nil,Nat.reduceAdd,Nat.reduceSub,Array.replicate_succ,Array.replicate_zero,List.push_toArray,List.append_toArray,List.nil_append,List.cons_append]
  gi_wp2
  gi_loopw [7] (fun i wr=>∃ k:Nat,k≤zs.length∧i=.int .i64 k∧J (zs.take k) wr) (fun i _=>zs.length - (RowKit.intOf i).toNat)
  case atStart=>exact ⟨0,Nat.zero_le _,rfl,by simpa using h0⟩
  case round =>
    obtain ⟨k,hk,rfl,hJs⟩:=hrel
    have hnx:=hJ _ _ hJs
    have hcx:k < zs.length→wr.cell? ⟨b,off+k,none⟩=some (encStr (zs.getD k [])):=fun h=>(hnx.cell (p:=⟨b,off+k,none⟩) hbl).trans (hc k h)
    by_cases hlt:k < zs.length
    · obtain ⟨x,hx1,hcx'⟩:∃ x,zs.take k ++ [x]=zs.take (k+1)∧wr.cell? ⟨b,off+k,none⟩=some (encStr x):=⟨_,J8 hlt,hcx hlt⟩
      obtain ⟨fn,tmps,assign,body,hy,hR⟩:=hY _ x wr hJs (by simp; omega)
      clear hcx hJs
      gi_wp2
      refine hR.mono ?_
      rintro e W3 ⟨rfl,hJ3,hk3⟩
      gi_wp2
      go_roundw
      case rel=>exact ⟨k+1,by omega,by simp,by rw[← hx1]; exact hJ3⟩
      case measure=>simp[RowKit.intOf]; omega
    · obtain rfl:k=zs.length:=by omega
      clear hcx
      gi_wp2
      go_end0
      exact ⟨⟨_,rfl⟩,_,rfl,by simpa using hJs⟩
set_option maxHeartbeats 2000000 in
theorem Fk (n:Nat) (hn:2≤n) (g:Nat) (lb:Array Value) (eg:∀ args w,(callFunc g args).run Tryz.prog w=.ok (.enter g args) w)
    (S:List (List UInt8)→Prop) (N:Nat) (hN:N≤maxLen) (hNb:N * 16≤140737488355328) (w:World) (hseq:Be (n - 1) Tryz.prog g lb S N w) :
    CallsIn Fence.wide n Tryz.prog 228 #[.slice none 0 0,.func (.func g) #[] lb] w fun e w'=>∃ (v:Value) (ss:List (List UInt8)),e=.returned v∧S ss∧w'.ownsRow w.heap.size 9 1 v ss.length (ss.map encStr)∧Below w.heap.size w w':=by
  have h11:Fence.wide.fn 228:=trivial
  refine callsIn_of_wp_marks Tryz.func228 rfl h11 ?_ rfl
  simp only[Tryz.ntmps228,List.size_toArray,List.length_cons,List.length_nil,Nat.reduceAdd,Nat.reduceSub,Array.replicate_succ,Array.replicate_zero,List.push_toArray,List.append_toArray,List.nil_append,List.cons_append]
  gi_wp2
  refine wpIn_rangeFunc ?_
  intro fn hfn
  let sv:Value:=.func (.func g) #[] lb
  have hz:(w.alloc (.cells #[.slice none 0 0] 23)).heap.size=w.heap.size+1:=by simp
  have hv0:=World.alloc_heap_new w (.cells #[.slice none 0 0] 23)
  have hb0:Below w.heap.size w (w.alloc (.cells #[.slice none 0 0] 23)):=(Below.refl _ w).alloc (Nat.le_refl _) _
  revert hz hv0 hb0
  generalize w.alloc (.cells #[.slice none 0 0] 23)=W0
  intro hz hv0 hb0
  obtain ⟨W1,hW1⟩:∃ W1,(W0.alloc (.deferred (some []))).alloc (.loop (AnyZ.apRec ib fn sv w.heap.size W0.heap.size .ready none))=W1:=⟨_,rfl⟩
  have hold:∀ k,k < W0.heap.size→W1.heap[k]?=W0.heap[k]?:=fun k hk=>by
    rw[← hW1]; exact (Below.heap_alloc _ _ k (by simp; omega)).trans (Below.heap_alloc _ _ k hk)
  have hb1:Below w.heap.size w W1:=by rw[← hW1]; exact (hb0.alloc (by omega) _).alloc (by simp; omega) _
  have hM:AnyZ.ApAt ib w fn sv w.heap.size (W0.heap.size+1) W0.heap.size [] W1:=by
    refine ⟨⟨_,(hold w.heap.size (by omega)).trans hv0,⟨rfl,.inl ⟨rfl,rfl⟩⟩,by simp⟩,?_,?_,hb1⟩
    · rw[← hW1]
      have h:=World.alloc_heap_new (W0.alloc (.deferred (some []))) (.loop (AnyZ.apRec ib fn sv w.heap.size W0.heap.size .ready none))
      rwa [World.size_alloc] at h
    · rw[← hW1]; exact (Below.heap_alloc _ _ _ (by simp)).trans (World.alloc_heap_new W0 _)
  refine ⟨W0.heap.size+1,[{ target:=.collected W0.heap.size,args:=#[] }],W1,{ target:=.fn (.func g) lb,args:=#[.func (.yield (W0.heap.size+1)) #[] #[]] },W1,g,
    #[.func (.yield (W0.heap.size+1)) #[] #[]] ++ lb,W1,by rw[← hW1]; exact run_enterLoop_outer _ _ _ _ _,?_,?_,?_,fun _=>by omega,?_⟩
  · simp[resolve,go_sem]
  · intro f' hf'; trivial
  · simp[invoke,go_sem,eg]
  · refine (hseq (W0.heap.size+1) (AnyZ.ApAt ib w fn sv w.heap.size (W0.heap.size+1) W0.heap.size) W1 (fun _ _ h=>h.below)
      (fun pre x W hJ hl=>AnyZ.apYield { Oo with } Fence.wide (n - 1 - 1) w fn hfn _ w.heap.size (W0.heap.size+1) W0.heap.size (by omega) (by omega) (by omega) (Nat.le_refl _) (by omega) N hN hNb pre x W hJ hl) hM).mono ?_
    rintro e W2 ⟨⟨v0,rfl⟩,ss,hS,h2⟩
    obtain ⟨v,hv,hrow,_⟩:=h2.box
    have hend:=run_endLoop (P:=Tryz.prog) h2.L (by simp[AnyZ.apRec])
    have hne:∀ (cur:Array Value),Obj.cells #[v] 23 (0,0)≠.cells cur 9 (0,0):=fun cur e=>by cases e
    obtain ⟨W3,hW3⟩:∃ W3,W2.putObj (W0.heap.size+1) (.loop { AnyZ.apRec ib fn sv w.heap.size W0.heap.size .ready none with state:=.exhausted })=W3:=⟨_,rfl⟩
    have hg3:W2.grownBy W3 (some (W0.heap.size+1)):=by rw[← hW3]; exact grownBy_putObj_a _ _ _
    have hv3:W3.heap[w.heap.size]?=some (.cells #[v] 23 (0,0)):=by rw[← hW3]; exact (World.putObj_heap_other (by omega)).trans hv
    have hK3:W3.heap[W0.heap.size]?=some (.deferred (some [])):=by rw[← hW3]; exact (World.putObj_heap_other (by omega)).trans h2.K
    have hrow3:=hrow.kept hg3 (ownsRow_ne_a hrow h2.L (fun cur e=>by cases e))
    have hb3:Below w.heap.size w W3:=h2.below.grown hg3 h2.below.size (fun k e=>by cases e; omega)
    obtain ⟨hc3,hf3⟩:=cell_of_box_a hv3
    refine ⟨none,W3,by rw[← hW3]; exact hend,?_⟩
    clear hW3 hW1 hold hM hend hseq
    gi_wp2
    rw[← hz]
    refine ⟨by simp,.inl ⟨_,_,rfl,run_takeDeferred hK3,?_⟩⟩
    exact ⟨_,results_tmp rfl _ _ _,v,ss,rfl,hS,hrow3.kept (grownBy_putObj_a _ _ _) (ownsRow_ne_a hrow3 hK3 (fun cur e=>by cases e)),hb3.grown (grownBy_putObj_a _ _ _) hb3.size (fun k e=>by cases e; omega)⟩
set_option maxHeartbeats 2000000 in
theorem JO (n:Nat) (hn:4≤n) (g:Nat) (lb:Array Value) (eg:∀ args w,(callFunc g args).run Tryz.prog w=.ok (.enter g args) w)
    (S:List (List UInt8)→Prop) (N:Nat) (hN:N≤maxLen) (hNb:N * 16≤140737488355328) (w:World) (hseq:Be (n - 1 - 1 - 1) Tryz.prog g lb S N w) (hS:∀ xs,S xs→xs.length < 4611686018427387904) :
    CallsIn Fence.wide n Tryz.prog 131 #[.func (.func g) #[] lb] w fun e w'=>∃ (v:Value) (ss:List (List UInt8)),e=.returned v∧S ss ∧
      w'.ownsRow w.heap.size 9 1 v ss.length ((ss.mergeSort (fun x y=>decide (x≤y))).map encStr)∧Below w.heap.size w w':=by
  have h6:Fence.wide.fn 131:=trivial
  have h8:Fence.wide.fn 187:=trivial
  have h9:Fence.wide.fn 188:=trivial
  have h11:Fence.wide.fn 228:=trivial
  have h1:1≤n - 1:=by omega
  have h1':1≤n:=by omega
  have hcol:CallsIn Fence.wide (n - 1) Tryz.prog 187 #[.func (.func g) #[] lb] w fun e w'=>∃ (v:Value) (ss:List (List UInt8)),e=.returned v∧S ss∧w'.ownsRow w.heap.size 9 1 v ss.length (ss.map encStr)∧Below w.heap.size w w':=by
    have happ:=Fk (n - 1 - 1) (by omega) g lb eg S N hN hNb w hseq
    refine callsIn_of_wp Tryz.func187 rfl h8 ?_ rfl
    simp only[Tryz.ntmps187,List.size_toArray,List.length_cons,List.length_nil,Nat.reduceAdd,Nat.reduceSub,Array.replicate_succ,Array.replicate_zero,List.push_toArray,List.append_toArray,List.nil_append,List.cons_append]
    gi_wp2_with (gi_at_call 228; refine happ.mono ?_; rintro e w' ⟨v,ss,rfl,hS,hrow,hb⟩)
    go_ret
    exact ⟨v,ss,rfl,hS,hrow,hb⟩
  refine callsIn_of_wp Tryz.func131 rfl h6 ?_ rfl
  simp only[Tryz.ntmps131,List.size_toArray,List.length_cons,List.length_nil,Nat.reduceAdd,Nat.reduceSub,Array.replicate_succ,Array.replicate_zero,List.push_toArray,List.append_toArray,List.nil_append,List.cons_append]
  gi_wp2_with (gi_at_call 187; refine hcol.mono ?_; rintro e W ⟨v,ss,rfl,hSs,hrow,hb⟩)
  have hlen:=hS ss hSs
  rcases hrow.2 with ⟨rfl,hz⟩ | ⟨gb,cap,cur,rfl,hbase,hgb,r1,r2,r3,r4⟩
  · have hss:ss=[]:=List.eq_nil_of_length_eq_zero hz
    subst hss
    have cN:CallsIn Fence.wide (n - 1) Tryz.prog 188 #[.slice none 0 0] W fun e w'=>e=.returned (.tuple #[])∧w'=W:=callsIn_wide.2 (AnyM.slices_Sort_string_none N0 none 0 W)
    gi_wp2_with (gi_at_call 188; refine cN.mono ?_; rintro e w' ⟨rfl,rfl⟩)
    go_ret
    exact ⟨.slice none 0 0,[],rfl,hSs,by simpa using hrow,hb⟩
  · have hH:Holds encStr W gb 0 ss.toArray:=holds_of_block hgb (by simpa using r4)
    have hgl:gb < W.heap.size:=(Array.getElem?_eq_some_iff.1 hgb).1
    have cS:CallsIn Fence.wide (n - 1) Tryz.prog 188 #[.slice (some ⟨gb,0,none⟩) ss.length cap] W fun e w'=>e=.returned (.tuple #[])∧∃ k os,w'=grow (putRow encStr (Sort.ahead W k) gb 0 (ss.mergeSort fun x y=>decide (x≤y)).toArray) os :=
      callsIn_wide.2 (AnyM.slices_Sort_string N0 gb 0 cap ss W hH hgl hlen)
    gi_wp2_with (gi_at_call 188; refine cS.mono ?_; rintro e w' ⟨rfl,nn,os,rfl⟩)
    go_ret
    exact ⟨_,ss,rfl,hSs,ownsRow_sorted (by simp) hbase hgb r1 r2 r3,hb.grown (grownBy_sorted _) hb.size (fun j hj=>by cases hj; exact hbase)⟩
open Go Go.Proofs Go.Shelf Go.RowKit Go.Sort
theorem GJ {l:List (List UInt8)} (hs:l.Pairwise (fun a b=>decide (a≤b)=true)) (h:∀ j,j+1 < l.length→l.getD (j+1) []≠l.getD j []):l.Nodup:=by
  induction l with
  | nil=>exact List.nodup_nil
  | cons x r ih =>
    rw[List.pairwise_cons] at hs
    refine List.nodup_cons.2 ⟨fun hx=>?_,ih hs.2 fun j hj=>by simpa using h (j+1) (by simpa using hj)⟩
    cases r with
    | nil=>simp at hx
    | cons y r =>
      have h0:=h 0 (by simp)
      simp only[List.getD_cons_succ,List.getD_cons_zero,Nat.zero_add] at h0
      rcases List.mem_cons.1 hx with e | hm
      · exact h0 e.symm
      · have h1:x≤y:=by simpa using hs.1 y (by simp)
        have h2:y≤x:=by simpa using (List.pairwise_cons.1 hs.2).1 x hm
        exact h0 (List.le_antisymm h2 h1)
theorem Lw (l:List (List UInt8)):(Lib.compact l).length=l.length↔∀ j,j+1 < l.length→l.getD (j+1) []≠l.getD j []:=by
  have hl:(Lib.compact l).length=((List.range l.length).filter (Lib.keeps l.toArray)).length:=by simp[Lib.compact,Lib.compactUpTo]
  rw[hl]
  have hr:(List.range l.length).length=l.length:=by simp
  conv=>lhs; rhs; rw[← hr]
  rw[List.length_filter_eq_length_iff]
  have hg:∀ j,j < l.length→l.toArray[j]! = l.getD j []:=fun j hj=>by simp[List.getD_eq_getElem?_getD,hj]
  constructor
  · intro h j hj
    have:=h (j+1) (by simpa using hj)
    simp only[Lib.keeps,decide_eq_true_eq,Nat.add_sub_cancel] at this
    rcases this with e | e
    · omega
    · rw[hg _ hj,hg _ (by omega)] at e; exact e
  · intro h j hj
    simp only[List.mem_range] at hj
    simp only[Lib.keeps,decide_eq_true_eq]
    by_cases e:j=0
    · exact .inl e
    · right
      obtain ⟨k,rfl⟩:∃ k,j=k+1:=⟨j - 1,by omega⟩
      rw[hg _ hj,Nat.add_sub_cancel,hg _ (by omega)]
      exact h k hj
theorem CE (zs:List (List UInt8)):(Lib.compact (zs.mergeSort fun x y=>decide (x≤y))).length=zs.length↔zs.Nodup:=by
  have hp:=List.mergeSort_perm zs (fun x y=>decide (x≤y))
  have hs:=List.pairwise_mergeSort (le:=fun x y:List UInt8=>decide (x≤y)) (fun a b c h k=>by simp at h k ⊢; exact List.le_trans h k) (fun a b=>by simpa using List.le_total a b) zs
  rw[← hp.nodup_iff,← hp.length_eq,Lw]
  constructor
  · exact GJ hs
  · intro hn j hj e
    have h1:(zs.mergeSort fun x y=>decide (x≤y))[j+1]'hj=(zs.mergeSort fun x y=>decide (x≤y))[j]'(by omega):=by
      simp only[List.getD_eq_getElem?_getD,List.getElem?_eq_getElem hj,List.getElem?_eq_getElem (show j < (zs.mergeSort fun x y=>decide (x≤y)).length by omega),Option.getD_some] at e
      exact e
    have:=(List.getElem_inj hn).1 h1
    omega
theorem Nk (w:World):grow w #[]=w:=by simp[grow]
set_option maxHeartbeats 2000000 in
theorem GK (n:Nat) (hn:1≤n) (Bs cap:Nat) (a:Option Addr) (w:World) (hBs:w.cell? ⟨Bs,0,none⟩=some (.slice a 0 cap)) (hBl:Bs < w.heap.size) :
    Be n Tryz.prog 189 #[.pointer (some ⟨Bs,0,none⟩)] (fun xs=>xs=[]) 0 w:=by
  intro l J W hJ hY h0
  have hbw:=hJ _ _ h0
  have hBs':=(hbw.cell (p:=⟨Bs,0,none⟩) hBl).trans hBs
  have hf:Fence.wide.fn 189:=trivial
  refine callsIn_of_wp Tryz.func189 rfl hf ?_ rfl
  simp only[Tryz.ntmps189,List.size_toArray,List.length_cons,List.length_nil,Nat.reduceAdd,Nat.reduceSub,Array.replicate_succ,Array.replicate_zero,List.push_toArray,List.append_toArray,List.nil_append,List.cons_append]
  gi_wp2
  gi_loopw [7] (fun i wr=>i=.int .i64 0∧J [] wr) (fun _ _=>0)
  case atStart=>exact ⟨rfl,h0⟩
  case round =>
    obtain ⟨rfl,hJs⟩:=hrel
    gi_wp2
    go_end0
    exact ⟨⟨_,rfl⟩,_,rfl,hJs⟩
set_option maxHeartbeats 2000000 in
theorem IS (n:Nat) (a:Option Addr) (len cap:Nat) (w:World) :
    CallsIn Fence.wide n Tryz.prog 132 #[.slice a len cap] w fun e w'=>e=.returned (.func (.func 189) #[] #[.pointer (some ⟨w.heap.size,0,none⟩)])∧w'=w.alloc (.cells #[.slice a len cap] 23):=by
  have hf:Fence.wide.fn 132:=trivial
  refine callsIn_of_wp Tryz.func132 rfl hf ?_ rfl
  simp only[Tryz.ntmps132,List.size_toArray,List.length_cons,List.length_nil,Nat.reduceAdd,Nat.reduceSub,Array.replicate_succ,Array.replicate_zero,List.push_toArray,List.append_toArray,List.nil_append,List.cons_append]
  gi_wp2
  go_ret
  exact ⟨rfl,rfl⟩
set_option maxHeartbeats 4000000 in
theorem zP (a:Option Addr) (cap:Nat) (zs:List (List UInt8)) (hz:zs.length≤1000) (w:World)
    (hseq:∀ n Bs,1≤n→w.heap.size=Bs→Be n Tryz.prog 189 #[.pointer (some ⟨Bs,0,none⟩)] (fun xs=>xs=zs) zs.length (w.alloc (.cells #[.slice a zs.length cap] 23))) :
    Calls Tryz.prog 83 #[.slice a zs.length cap] w fun e w'=>e=.returned (.bool (decide zs.Nodup))∧Below w.heap.size w w':=by
  refine (callsIn_wide (n:=7)).1 ?_
  have hf:Fence.wide.fn 83:=trivial
  have hfv:Fence.wide.fn 132:=trivial
  have hfs:Fence.wide.fn 131:=trivial
  have hfc:Fence.wide.fn 133:=trivial
  have eg:=enters_of Tryz.func189 (by kernel_rfl) rfl
  have cV:=IS 6 a zs.length cap w
  have cS:=JO 6 (by omega) 189 #[.pointer (some ⟨w.heap.size,0,none⟩)] eg _ zs.length (by unfold maxLen; omega) (by omega) (w.alloc (.cells #[.slice a zs.length cap] 23)) (hseq _ _ (by omega) rfl) (fun xs e=>by subst e; omega)
  refine callsIn_of_wp Tryz.func83 rfl hf ?_ rfl
  simp only[Tryz.ntmps83,List.size_toArray,List.length_cons,List.length_nil,Nat.reduceAdd,Nat.reduceSub,Array.replicate_succ,Array.replicate_zero,List.push_toArray,List.append_toArray,List.nil_append,List.cons_append]
  clear hseq
  gi_wp2_with (first
    | (gi_at_call 132; refine cV.mono ?_; rintro e w' ⟨rfl,rfl⟩)
    | (gi_at_call 131; refine cS.mono ?_; rintro e W ⟨v,ss,rfl,rfl,hrow,hb⟩)
    | fail)
  have hsz:(ss.mergeSort fun x y=>decide (x≤y)).length=ss.length:=by simp
  have hBw:Below w.heap.size w W:=((Below.refl _ w).alloc (Nat.le_refl _) _).trans (hb.mono (by simp))
  rcases hrow.2 with ⟨rfl,h0⟩ | ⟨gb,cap',cur,rfl,hbase,hgb,r1,r2,r3,r4⟩
  · have hss:ss=[]:=List.eq_nil_of_length_eq_zero h0
    subst hss
    have cC:CallsIn Fence.wide 6 Tryz.prog 133 #[.slice none 0 0] W fun e w'=>e=.returned (.slice none 0 0)∧w'=W:=callsIn_wide.2 (AnyG.slices_Compact_string_empty NV none 0 W)
    clear cS cV hrow
    gi_wp2_with (gi_at_call 133; refine cC.mono ?_; rintro e w' ⟨rfl,rfl⟩)
    go_ret
    exact ⟨rfl,hBw⟩
  · have hH:Holds encStr W gb 0 (ss.mergeSort fun x y=>decide (x≤y)).toArray:=holds_of_block hgb (by simpa using r4)
    have hgl:gb < W.heap.size:=(Array.getElem?_eq_some_iff.1 hgb).1
    have cC:CallsIn Fence.wide 6 Tryz.prog 133 #[.slice (some ⟨gb,0,none⟩) ss.length cap'] W fun e w'=>∃ m:Nat,e=.returned (.slice (some ⟨gb,0,none⟩) m cap')∧((m=ss.length)↔ss.Nodup)∧Below w.heap.size w w':=by
      have:=AnyG.slices_Compact_string NV gb 0 cap' (ss.mergeSort fun x y=>decide (x≤y)) W hH (by rw[hsz]; omega) (by rw[hsz]; omega)
      rw[hsz] at this
      refine callsIn_wide.2 (this.mono ?_)
      rintro e w' ⟨rfl,q,rfl⟩
      refine ⟨_,rfl,CE ss,?_⟩
      have hg:=grownBy_sorted (w:=W) (g:=gb) (n:=q) (os:=#[]) (Lib.compact (ss.mergeSort fun x y=>decide (x≤y)) ++ List.replicate (ss.length - (Lib.compact (ss.mergeSort fun x y=>decide (x≤y))).length) []).toArray
      rw[Nk] at hg
      exact hBw.grown hg hBw.size (fun j e=>by cases e; have h:=hbase; rw[World.size_alloc] at h; omega)
    clear cS cV hrow hH
    gi_wp2_with (gi_at_call 133; refine cC.mono ?_; rintro e w' ⟨m,rfl,hm,hb'⟩)
    go_ret
    refine ⟨?_,hb'⟩
    show Ending.returned (.bool ((m:Int) == (ss.length:Int)))=_
    have:((m:Int) == (ss.length:Int))=decide ss.Nodup:=by
      rw[Bool.eq_iff_iff]
      simp only[beq_iff_eq,decide_eq_true_eq,← hm]
      omega
    rw[this]
theorem EH (s:ByteArray):encStr s.data.toList=.string s:=by
  cases s; simp[encStr]
def names (l:List ByteArray):List (List UInt8):=l.map fun s=>s.data.toList
theorem HN {Z:Nat→Prop} {μ:Mu} {hp:Array Obj} {es:List (List V)} {x:Value} (h:aB Z μ hp (.aL es) x) :
    (es=[]∧∃ a cap,x=.slice a 0 cap∧(a=none→cap=0))∨(∃ b off esz cap,∃ c:Nat→Nat→Value,x=.slice (some ⟨b,off,none⟩) es.length cap∧Z b∧es.length≤cap ∧
      (∀ i,i < es.length→(es.getD i []).length=esz)∧(∀ i j,i < es.length→j < esz→cellAt hp b (off+i * esz+j)=some (c i j)) ∧
      (∀ i j,i < es.length→j < esz→aB Z μ hp ((es.getD i []).getD j .any) (c i j))):=by
  cases h with
  | gg a cap hz=>exact .inl ⟨rfl,a,cap,rfl,hz⟩
  | aL _ b off esz cap c h1 h2 h3 h4 h5=>exact .inr ⟨b,off,esz,cap,c,rfl,h1,h2,h3,h4,h5⟩
theorem MS (l:List ByteArray) (hl:l.length≤1000):aI Tryz.prog 83 [encS l] (gb (decide (names l).Nodup)):=by
  intro Z μ w xs hrel hzl
  obtain ⟨hlen,hx⟩:=hrel
  obtain ⟨x,rfl⟩:∃ x,xs=[x]:=by
    match xs,hlen with
    | [x],_=>exact ⟨x,rfl⟩
  have h0:aB Z μ w.heap (encS l) x:=hx 0 (by simp)
  have hnl:(names l).length=l.length:=by simp[names]
  have fin:∀ e w',(e=Ending.returned (.bool (decide (names l).Nodup))∧RowKit.Below w.heap.size w w')→∃ x Z',e=.returned x∧(∀ ν,aB Z' ν w'.heap (gb (decide (names l).Nodup)) x)∧dc w w'∧(∀ b,Z b→Z' b)∧(∀ b,Z' b→Z b∨(w.heap.size≤b∧b < w'.heap.size))∧eu w.heap w'.heap (fun _=>False):=by
    rintro e w' ⟨rfl,hb⟩
    exact ⟨_,Z,rfl,fun ν=>.val _ rfl,⟨hb.os,hb.tape,hb.output,hb.size⟩,fun _ h=>h,fun _ h=>.inl h,fun b hb' _=>hb.block b hb'⟩
  have box:∀ (v:Value),(w.alloc (.cells #[v] 23)).cell? ⟨w.heap.size,0,none⟩=some v:=fun v=>by
    have:=World.alloc_heap_new w (.cells #[v] 23)
    simp only[World.cell?,this]; rfl
  rcases HN h0 with ⟨he,a,cap,rfl,_⟩ | ⟨b,off,esz,cap,c,rfl,hz,hle,hes,hc,hv⟩
  · have hl0:l=[]:=by simpa using he
    subst hl0
    refine (zP a cap (names []) (by simp[names]) w (fun n Bs hn hB=>?_)).mono fin
    subst hB
    exact GK n hn w.heap.size cap a _ (box _) (by simp)
  · have hel:∀ i,(hi:i < l.length)→(l.map fun s=>[gs s]).getD i []=[gs l[i]]:=fun i hi=>by simp[List.getD_eq_getElem?_getD,hi]
    have hcell:∀ i,(hi:i < l.length)→cellAt w.heap b (off+i)=some (.string l[i]):=fun i hi=>by
      have h1:=hes i (by simpa using hi)
      rw[hel i hi] at h1
      simp only[List.length_cons,List.length_nil] at h1
      subst h1
      have h2:=hc i 0 (by simpa using hi) (by omega)
      have h3:=hv i 0 (by simpa using hi) (by omega)
      rw[hel i hi] at h3
      simp only[List.getD_cons_zero] at h3
      generalize c i 0=y at h2 h3
      cases h3
      simpa using h2
    have hlen2:(l.map fun s=>[gs s]).length=(names l).length:=by simp[names]
    rw[hlen2]
    refine (zP (some ⟨b,off,none⟩) cap (names l) (by rw[hnl]; exact hl) w (fun n Bs hn hB=>?_)).mono fin
    subst hB
    have hbl:=hzl b hz
    refine IT n hn w.heap.size b off cap (names l) (by rw[hnl]; omega) _ (box _) (by simp) (by simp; omega) (fun j hj=>?_)
    have hj':j < l.length:=by omega
    have e1:(w.alloc (.cells #[.slice (some ⟨b,off,none⟩) (names l).length cap] 23)).cell? ⟨b,off+j,none⟩=w.cell? ⟨b,off+j,none⟩:=by
      have:=Below.heap_alloc w (.cells #[.slice (some ⟨b,off,none⟩) (names l).length cap] 23) b hbl
      simp only[World.cell?,this]
    rw[e1,qm,hcell j hj']
    have e2:(names l).getD j []=l[j].data.toList:=by simp[names,List.getD_eq_getElem?_getD,hj']
    rw[e2,EH]
theorem bW.gg {P:Program} {f:FuncId} {h:aH} (h1:bW P f [.emp 1] h (.emp 1) h) (h2:bW P f [.emp 2] h (.emp 2) h) (h3:bW P f [.dw] h (.emp 2) h):bW P f [.aL []] h (.emp 0) h:=by
  refine ⟨Nat.le_refl _,fun Z μ F w xs hrel hr hfree=>?_⟩
  obtain ⟨hl,hv⟩:=hrel
  obtain ⟨x,rfl⟩:∃ x,xs=[x]:=by
    match xs,hl with
    | [x],_=>exact ⟨x,rfl⟩
  have h0:aB Z μ w.heap (.aL []) x:=hv 0 (by simp)
  have one:∀ v,aB Z μ w.heap v x→dM Z μ w.heap [v] [x]:=fun v h=>⟨rfl,fun i hi=>by
    simp at hi; subst hi; exact h⟩
  have weak:∀ k,bW P f [if k=3 then .dw else .emp k] h (if k=3 then .emp 2 else .emp k) h→aB Z μ w.heap (if k=3 then .dw else .emp k) x→Calls P f [x].toArray w fun e w'=>∃ x Z' μ',e=.returned x∧aB Z' μ' w'.heap (.emp 0) x∧fB Z' μ' w'.heap (cat h F)∧Ext Z μ w h.length Z' μ' w'∧(∀ id,id < h.length∨h.length≤id→μ' id=μ id):=by
    intro k hk hx
    refine (hk.2 Z μ F w [x] (one _ hx) hr hfree).mono ?_
    rintro e w' ⟨y,Z',μ',rfl,hy,rest⟩
    refine ⟨y,Z',μ',rfl,?_,rest⟩
    have:∀ k',aB Z' μ' w'.heap (.emp k') y→aB Z' μ' w'.heap (.emp 0) y:=fun k' h=>by
      cases h with | emp _ a _ _=>exact .emp 0 a (by simp) (by simp)
    split at hy <;> exact this _ hy
  rcases HN h0 with ⟨_,a,cap,rfl,hz⟩ | ⟨b,off,esz,cap,c,rfl,_,_,_⟩
  · cases a with
    | none =>
      have:=hz rfl
      subst this
      exact weak 1 (by simpa using h1) (.emp 1 none (by simp) (by simp))
    | some a =>
      cases cap with
      | zero=>exact weak 2 (by simpa using h2) (.emp 2 (some a) (by simp) (by simp))
      | succ c=>exact weak 3 (by simpa using h3) (.dw a (c+1))
  · cases cap with
    | zero=>exact weak 2 (by simpa using h2) (.emp 2 (some ⟨b,off,none⟩) (by simp) (by simp))
    | succ c=>exact weak 3 (by simpa using h3) (.dw ⟨b,off,none⟩ (c+1))
def Gh (sz:Nat) (es:List (List V)) (H:View) (K:V→View→Prop):Prop :=
  (es=[]→∀ k,K (.emp k) H)∧(es≠[]→∀ n,H n=.dead→K (.sl n 0 es.length sz) (H.set n (.arr sz es)))
def cp:SF:=⟨.seq (aq [((some 2),.op (.aX (.val (.emp 1))))]) <|
  .seq (.seq (aq [aa 3 0,((some 4),.op (.nil true 0 (.tmp 3) (.val (.emp 1))))]) <|
  .cond (.tmp 4) (.seq (aq [((some 2),.op (.aX (.val (.emp 1))))]) <|
  .ret) (.skip)) <|
  .seq (aq [((some 5),.op (.aX (.val (.emp 2)))),aa 6 0,((some 7),.op (.app 1 16 (.tmp 5) (.tmp 6))),aa 2 7]) <|
  .ret,
  [.tmp 2],8⟩
theorem cF:ba Tryz.prog 80 []=some cp:=by kernel_rfl
theorem aI.tree {P:Program} {f:FuncId} {vs:List V} {t:V} (hv:∀ v∈vs,Tree v) (ht:Tree t) (h:∀ H,aG P f vs H fun r _=>r=t):aI P f vs t :=
  aI.of hv ((h _).mono fun r H' e h' _=>by rw[e]; exact .tree _ ht)
theorem GD {H:View} : bF H .dw=some ([],[]):=id rfl
theorem Bo {H:View} (sz bytes k:Nat) (K:V→View→Prop) (w:ct (H,K)):lP sz bytes (.emp k) [] H K w=K (.emp k) H:=propext Iff.rfl
theorem Ln (l:List ByteArray) (hl:l.length≤100000) (H:View) (K:V→View→Prop) (hk:Gh 1 (l.map fun s=>[gs s]) H K):aG Tryz.prog 80 [encS l] H K:=by
  cases l with
  | nil =>
    have hp:∀ v t,Tree v→Tree t→(∀ H,aG Tryz.prog 80 [v] H fun r _=>r=t)→aI Tryz.prog 80 [v] t:=fun v t hv ht h=>aI.tree (by intro x hx; simp at hx; subst hx; exact hv) ht h
    have h1:=hp (.emp 1) (.emp 1) (.emp 1) (.emp 1) (fun H=>by
      refine aG.of mixed cF ?_
      simp (disch:=omega) only [↓wr,↓reduceIte,wq,ah,ag,ak,ab,ae,af,ai,isNil,Nat.reduceEqDiff,Nat.reduceAdd,Nat.reduceLT,Nat.reduceLeDiff,Int.reduceNeg,Int.reduceToNat,reduceCtorEq,cp])
    have h2:=hp (.emp 2) (.emp 2) (.emp 2) (.emp 2) (fun H=>by
      refine aG.of mixed cF ?_
      simp (disch:=omega) only [↓wr,↓reduceIte,wq,ah,ag,ak,ab,ae,af,ai,isNil,Nat.reduceEqDiff,Nat.reduceAdd,Nat.reduceLT,Nat.reduceLeDiff,Int.reduceNeg,Int.reduceToNat,reduceCtorEq,cp,Bo,List.isEmpty_nil])
    have h3:=hp .dw (.emp 2) .dw (.emp 2) (fun H=>by
      refine aG.of mixed cF ?_
      simp (disch:=omega) only [↓wr,↓reduceIte,wq,ah,ag,ak,ab,ae,af,ai,isNil,Nat.reduceEqDiff,Nat.reduceAdd,Nat.reduceLT,Nat.reduceLeDiff,Int.reduceNeg,Int.reduceToNat,reduceCtorEq,cp,GD,Bo,List.isEmpty_nil])
    refine ⟨by kernel_rfl,?_⟩
    rintro h rfl
    exact ⟨.emp 0,h,bW.gg (bW.qj h1 h) (bW.qj h2 h) (bW.qj h3 h),.refl _,hk.1 rfl 0⟩
  | cons x r =>
    refine aG.of mixed cF ?_
    simp only[List.length_cons] at hl
    simp (disch:=omega) only [↓wr,↓reduceIte,wq,ah,ag,ak,ab,ae,af,ai,isNil,Nat.reduceEqDiff,Nat.reduceAdd,Nat.reduceLT,Nat.reduceLeDiff,Int.reduceNeg,Int.reduceToNat,reduceCtorEq,cp,encS]
    refine ⟨?_,?_,?_⟩
    · simp[List.all_map,encS,aU]
    · unfold aP; simp; omega
    · intro n hn
      have:=hk.2 (by simp) n hn
      simp (disch:=omega) only [↓wr,↓reduceIte,wq,ah,ag,ak,ab,ae,af,ai,isNil,Nat.reduceEqDiff,Nat.reduceAdd,Nat.reduceLT,Nat.reduceLeDiff,Int.reduceNeg,Int.reduceToNat,reduceCtorEq]
      simpa [df] using this
theorem Gh.own {sz:Nat} {es:List (List V)} {H:View} : Gh sz es H fun r H'=>bj H' r sz es∧er H H' r :=
  ⟨fun he k=>⟨by rw[he]; exact .nil,.emp⟩,fun _ n hn=>⟨.new,.new hn⟩⟩
theorem LQ (l:List ByteArray) (hl:l.length≤100000) (H:View):aG Tryz.prog 80 [encS l] H fun r H'=>bj H' r 1 (l.map fun s=>[gs s])∧er H H' r:=Ln l hl H _ .own
end Gv
