/-
  Part 9 of the proof: what the machine does and what the functions answer.
  Conditions: those that each lemma names.
-/
import Derived.Shelf.SlIter.Sorted
import Derived.Shelf.SortM.Plain
import Derived.Shelf.SortM.SortNone
import Derived.Shelf.SlicesG.CompactS
import Derived.Test.YtkkdjpnkhhlnpaaGreatSGzA2H
set_option linter.unusedSimpArgs false
set_option linter.unusedVariables false
set_option maxRecDepth 100000
namespace Gv
open Go Go.Proofs
def owner:V→Option Nat
  | .sl id _ _ _=>some id
  | _=>none
def bj (H:View) (u:V) (sz:Nat) (es:List (List V)):Prop :=
  (es=[]∧∃ k,u=.emp k)∨(∃ n,u=.sl n 0 es.length sz∧H n=.arr sz es)
theorem bj.nil {H:View} {sz k:Nat} : bj H (.emp k) sz []:=.inl ⟨rfl,k,rfl⟩
theorem bj.len {H:View} {u:V} {sz:Nat} {es:List (List V)} (h:bj H u sz es):dF u=some es.length:=by
  rcases h with ⟨rfl,k,rfl⟩ | ⟨n,rfl,_⟩ <;> rfl
theorem bj.live {H:View} {u:V} {sz:Nat} {es:List (List V)} (h:bj H u sz es) {id:Nat} (hid:owner u=some id):H id=.arr sz es∧u=.sl id 0 es.length sz:=by
  rcases h with ⟨rfl,k,rfl⟩ | ⟨n,rfl,hn⟩
  · simp[owner] at hid
  · simp[owner] at hid; subst hid; exact ⟨hn,rfl⟩
theorem bj.keep {H H':View} {u:V} {sz:Nat} {es:List (List V)} (h:bj H u sz es) (hk:∀ id,owner u=some id→H' id=H id):bj H' u sz es:=by
  rcases h with ⟨rfl,k,rfl⟩ | ⟨n,rfl,hn⟩
  · exact .inl ⟨rfl,k,rfl⟩
  · exact .inr ⟨n,rfl,by rw[hk n rfl]; exact hn⟩
theorem bj.fresh {H:View} {u:V} {sz m:Nat} {es:List (List V)} {o:cR} (h:bj H u sz es) (hm:H m=.dead):bj (H.set m o) u sz es :=
  h.keep fun id hid=>by
    have:=(h.live hid).1
    have e:id≠m:=by rintro rfl; rw[hm] at this; simp at this
    simp[View.set,e]
theorem bj.ne {H:View} {u:V} {sz m:Nat} {es:List (List V)} (h:bj H u sz es) (hm:H m=.dead):owner u≠some m:=fun e=>by
  have:=(h.live e).1; rw[hm] at this; simp at this
theorem bj.other {H:View} {u:V} {sz m:Nat} {es:List (List V)} {o:cR} (h:bj H u sz es) (hm:owner u≠some m):bj (H.set m o) u sz es :=
  h.keep fun id hid=>by
    have e:id≠m:=by rintro rfl; exact hm hid
    simp[View.set,e]
theorem bj.new {H:View} {n sz:Nat} {es:List (List V)} : bj (H.set n (.arr sz es)) (.sl n 0 es.length sz) sz es:=.inr ⟨n,rfl,by simp[View.set]⟩
theorem g9 {H:View} {m z sz:Nat} {e:List V} : bF (View.set H m (.arr z [e])) (.sl m 0 1 sz)=some ([e],[m]):=by
  simp[bF,View.set]
def Left (H H':View) (u u':V):Prop:=∀ id,H id≠.dead→owner u≠some id→H' id=H id∧owner u'≠some id
theorem rD {sz bytes:Nat} {u:V} {es xs:List (List V)} {H:View} {K:V→View→Prop} {w:bP (H,K)} (ho:bj H u sz es) (hx:xs≠[]) (hok:(xs.all fun e=>e.length == sz && e.all aP)=true)
    (hl:(es.length+xs.length) * bytes < aW) (hl2:es.length+xs.length < aW) (hk:∀ u' H',bj H' u' sz (es ++ xs)→Left H H' u u'→K u' H'):lV sz bytes u xs H K w:=by
  have he:xs.isEmpty=false:=by cases xs with | nil=>exact absurd rfl hx | cons=>rfl
  rcases ho with ⟨rfl,k,rfl⟩ | ⟨n,rfl,hn⟩
  · rw[rR _ _ _ _ _ _ _ he]
    refine ⟨hok,⟨by simpa using hl,by simpa using hl2⟩,fun m hm=>hk _ _ ?_ ?_⟩
    · exact .inr ⟨m,rfl,by simp[View.set]⟩
    · intro id hid _
      have e:id≠m:=by rintro rfl; exact hid hm
      exact ⟨by simp[View.set,e],by simp[owner,Ne.symm e]⟩
  · rw[tF _ _ _ _ _ _ _ _ _ _ he,hn]
    refine ⟨hok,⟨by simp,rfl,hl,hl2⟩,fun m hm=>hk _ _ ?_ ?_⟩
    · refine .inr ⟨m,by simp,by simp[View.set]⟩
    · intro id hid ho
      have e:id≠m:=by rintro rfl; exact hid hm
      have e2:id≠n:=by rintro rfl; exact ho rfl
      exact ⟨by simp[View.set,e,e2],by simp[owner,Ne.symm e]⟩
theorem Left.refl {H:View} {u:V} : Left H H u u:=fun _ _ h=>⟨rfl,h⟩
theorem DX {sz bytes:Nat} {u:V} {es xs:List (List V)} {H:View} {K:V→View→Prop} {w:bP (H,K)} (ho:bj H u sz es) (hok:(xs.all fun e=>e.length == sz && e.all aP)=true)
    (hl:(es.length+xs.length) * bytes < aW) (hl2:es.length+xs.length < aW) (hk:∀ u' H',bj H' u' sz (es ++ xs)→Left H H' u u'→K u' H'):lV sz bytes u xs H K w:=by
  cases xs with
  | nil =>
    have:=hk u H (by simpa using ho) .refl
    rcases ho with ⟨rfl,k,rfl⟩ | ⟨n,rfl,hn⟩
    · exact this
    · exact this
  | cons x xs=>exact rD ho (by simp) hok hl hl2 hk
theorem fN.own {H:View} {u:V} {sz:Nat} {es:List (List V)} (h:bj H u sz es) (ht:∀ e∈es,∀ v∈e,Tree v):fN H u (.aS es):=by
  rcases h with ⟨rfl,k,rfl⟩ | ⟨n,rfl,hn⟩
  · exact fun h _=>.emp k
  · have:=fN.sl (off:=0) (len:=es.length) (esz:=sz) hn (by simp) ht
    rwa [List.drop_zero,List.take_of_length_le (by simp)] at this
theorem eh.own {h:ay} {u:V} {sz:Nat} {es:List (List V)} {es':List (List V)} (ho:bj h.view u sz es) (hl:es'.length=es.length) (hi:∀ i,i < es.length→(es'.getD i []).length=(es.getD i []).length)
    (hv:∀ i j,i < es.length→j < (es'.getD i []).length→eh h ((es.getD i []).getD j .any) ((es'.getD i []).getD j .any)):eh h u (.aS es'):=by
  rcases ho with ⟨rfl,k,rfl⟩ | ⟨n,rfl,hn⟩
  · have:es'=[]:=List.length_eq_zero_iff.1 (by simpa using hl)
    subst this
    exact .emp k
  · exact .sl n 0 es.length sz sz es es' hn (by simp) hl (fun i h=>by rw[Nat.zero_add]; exact hi i h) (fun i j h1 h2=>by rw[Nat.zero_add]; exact hv i j h1 h2)
theorem eh.Hl {h:ay} {α:Type} {u:V} {sz:Nat} {l:List α} {f:α→Value} (ho:bj h.view u sz (l.map fun x=>[V.val (f x)])):eh h u (.aS (l.map fun x=>[V.val (f x)])):=by
  refine eh.own ho rfl (fun i _=>rfl) (fun i j hi hj=>?_)
  simp only[List.length_map] at hi
  have e:(l.map fun x=>[V.val (f x)]).getD i []=[V.val (f l[i])]:=by simp[List.getD_eq_getElem?_getD,hi]
  rw[e] at hj ⊢
  have:j=0:=by simp at hj; omega
  subst this
  exact .val _
def hZ (H H':View) (r:V):Prop:=∀ id,H id≠.dead→H' id=H id∧owner r≠some id
theorem hZ.emp {H:View} {k:Nat} : hZ H H (.emp k):=fun _ _=>⟨rfl,by simp[owner]⟩
theorem hZ.new {H:View} {n a b c:Nat} {o:cR} (hn:H n=.dead):hZ H (H.set n o) (.sl n a b c):=fun id hid=>by
  have e:id≠n:=by rintro rfl; exact hid hn
  exact ⟨by simp[View.set,e],by simp[owner,Ne.symm e]⟩
theorem bj.left {H H':View} {u u' x:V} {sz:Nat} {es:List (List V)} (h:bj H x sz es) (hl:Left H H' u u') (hd:∀ id,owner x=some id→owner u≠some id):bj H' x sz es :=
  h.keep fun id hid=>(hl id (by rw[(h.live hid).1]; simp) (hd id hid)).1
theorem bj.GS {H H':View} {x r:V} {sz:Nat} {es:List (List V)} (h:bj H x sz es) (hl:hZ H H' r):bj H' x sz es :=
  h.keep fun id hid=>(hl id (by rw[(h.live hid).1]; simp)).1
theorem set_set {H:View} {n:Nat} {a b:cR} : View.set (View.set H n a) n b=View.set H n b:=by
  funext id; simp only[View.set]; split <;> rfl
theorem dC {m b:Nat} {o x:cR} (h:(if m=b then o else x)=.dead) (ho:o≠.dead):m≠b∧x=.dead:=by
  split at h
  · exact absurd h ho
  · rename_i e; exact ⟨e,h⟩
theorem dG {z:Nat} {es:List (List V)} : cR.arr z es≠.dead:=by simp
def kx (H:View):List V→List V→Prop
  | [],[]=>True
  | v :: vs,t :: ts=>fN H v t∧kx H vs ts
  | _,_=>False
theorem kx.len {H:View} : ∀ {vs ts:List V},kx H vs ts→ts.length=vs.length
  | [],[],_=>rfl
  | _ :: _,_ :: _,h=>by simp[kx.len h.2]
theorem kx.get {H:View} : ∀ {vs ts:List V},kx H vs ts→∀ i,i < vs.length→fN H (vs.getD i .any) (ts.getD i .any)
  | [],[],_,i,hi=>by simp at hi
  | _ :: _,_ :: _,h,0,_=>h.1
  | _ :: _,_ :: _,h,i+1,hi=>kx.get h.2 i (by simpa using hi)
theorem aJ.Ic {P:Program} {q:Bool} {f:FuncId} {H:View} {vs ts:List V} {K:V→View→Prop} {v:bP (H,K)} {t:V} (hc:aA P f ts t) (hok:bO P f=true) (hf:te t) (hl:kx H vs ts) (hk:K t H):aJ P q f vs H K v :=
  aJ.borrow hc hok hf hl.len hl.get hk
theorem aJ.Hu {P:Program} {q:Bool} {f:FuncId} {H:View} {vs ts:List V} {K:V→View→Prop} {v:bP (H,K)} {t:V} (hc:cF P f ts t) (hok:bO P f=true) (hl:kx H vs ts) (hk:K t H):aJ P q f vs H K v :=
  aJ.oD hc hok hl.len hl.get hk
theorem fN.box {H:View} {q z:Nat} {e:List V} (hq:H q=.arr z [e]) (ht:∀ v∈e,Tree v):fN H (.ptr q 0 0) (.aQ e 0):=by
  rintro h rfl
  refine .ptr q 0 0 z [e] e hq (by simp) (by simp) (fun k hk=>?_)
  simp only[List.getD_cons_zero]
  have e2:e.getD k .any=e[k]:=by simp[List.getD_eq_getElem?_getD,hk]
  rw[e2]
  exact .tree _ (ht _ (List.getElem_mem _))
theorem bj.sl {H:View} {u:V} {sz:Nat} {es:List (List V)} (h:bj H u sz es) (hne:0 < es.length):∃ n,u=.sl n 0 es.length sz∧H n=.arr sz es:=by
  rcases h with ⟨rfl,_⟩ | h
  · simp at hne
  · exact h
abbrev ed:=V × Nat × List (List V)
def bq (H:View) (L:List ed):Prop:=(∀ x∈L,bj H x.1 x.2.1 x.2.2)∧(L.filterMap fun x=>owner x.1).Nodup
theorem bq.nil {H:View} : bq H []:=⟨fun x hx=>by simp at hx,by simp⟩
theorem bq.head {H:View} {x:ed} {L:List ed} (h:bq H (x :: L)):bj H x.1 x.2.1 x.2.2:=h.1 x (by simp)
theorem bq.tail {H:View} {x:ed} {L:List ed} (h:bq H (x :: L)):bq H L:=by
  refine ⟨fun y hy=>h.1 y (by simp[hy]),?_⟩
  have:=h.2
  simp only[List.filterMap_cons] at this
  split at this
  · exact this
  · exact (List.nodup_cons.1 this).2
theorem bq.perm {H:View} {L L':List ed} (h:bq H L) (p:L.Perm L'):bq H L' :=
  ⟨fun x hx=>h.1 x (p.mem_iff.2 hx),(p.filterMap _).nodup_iff.1 h.2⟩
theorem su {α:Type} : ∀ (L:List α) (k:Nat) (hk:k < L.length),L.Perm (L[k] :: L.eraseIdx k)
  | x :: L,0,_=>.refl _
  | x :: L,k+1,hk=>by
    have:=su L k (by simpa using hk)
    exact (this.cons x).trans (.swap _ _ _)
theorem bq.at {H:View} {L:List ed} (h:bq H L) (k:Nat) (hk:k < L.length):bq H (L[k] :: L.eraseIdx k) :=
  h.perm (su L k hk)
theorem bq.off {H:View} {x:ed} {L:List ed} (h:bq H (x :: L)) {id:Nat} (hid:owner x.1=some id):∀ y∈L,owner y.1≠some id:=by
  intro y hy e
  have:=h.2
  simp only[List.filterMap_cons,hid,List.nodup_cons,List.mem_filterMap,not_exists,not_and] at this
  exact this.1 y hy e
theorem bq.live {H:View} {x:ed} {L:List ed} (h:bq H L) (hx:x∈L) {id:Nat} (hid:owner x.1=some id):H id≠.dead:=by
  rw[((h.1 x hx).live hid).1]; simp
theorem bq.new {H:View} {L:List ed} (h:bq H L) {n:Nat} (hn:H n=.dead) (sz:Nat) (es:List (List V)):bq (H.set n (.arr sz es)) ((.sl n 0 es.length sz,sz,es) :: L):=by
  refine ⟨fun x hx=>?_,?_⟩
  · rcases List.mem_cons.1 hx with rfl | hx
    · exact .new
    · exact (h.1 x hx).fresh hn
  · simp only[List.filterMap_cons,owner,List.nodup_cons,List.mem_filterMap,not_exists,not_and]
    exact ⟨fun x hx e=>h.live hx e hn,h.2⟩
theorem bq.GR {H H':View} {L:List ed} (h:bq H L) {u:V} {sz:Nat} {es:List (List V)} (ho:bj H' u sz es) (hf:hZ H H' u):bq H' ((u,sz,es) :: L):=by
  refine ⟨fun x hx=>?_,?_⟩
  · rcases List.mem_cons.1 hx with rfl | hx
    · exact ho
    · exact (h.1 x hx).GS hf
  · cases hu:owner u with
    | none=>simp only[List.filterMap_cons,hu]; exact h.2
    | some id =>
      simp only[List.filterMap_cons,hu,List.nodup_cons,List.mem_filterMap,not_exists,not_and]
      exact ⟨fun x hx e=>(hf id (h.live hx e)).2 hu,h.2⟩
theorem bq.fresh {H:View} {L:List ed} (h:bq H L) {n:Nat} (hn:H n=.dead) {o:cR} : bq (H.set n o) L :=
  ⟨fun x hx=>(h.1 x hx).fresh hn,h.2⟩
theorem bq.put {H:View} {L:List ed} {n k sz:Nat} {es es':List (List V)} (h:bq H ((.sl n 0 k sz,sz,es) :: L)) (hl:es'.length=es.length) (hk:k=es.length):bq (H.set n (.arr sz es')) ((.sl n 0 k sz,sz,es') :: L):=by
  refine ⟨fun x hx=>?_,by simpa [List.filterMap_cons,owner] using h.2⟩
  rcases List.mem_cons.1 hx with rfl | hx
  · exact .inr ⟨n,by simp[hl,hk],by simp[View.set]⟩
  · exact (h.1 x (by simp[hx])).other (h.off rfl x hx)
theorem bq.left {H H':View} {L:List ed} {u u':V} {sz:Nat} {es es':List (List V)} (h:bq H ((u,sz,es) :: L)) (ho:bj H' u' sz es') (hl:Left H H' u u'):bq H' ((u',sz,es') :: L):=by
  have hoff:∀ x∈L,∀ id,owner x.1=some id→owner u≠some id:=fun x hx id hid hu=>h.off hu x hx hid
  refine ⟨fun x hx=>?_,?_⟩
  · rcases List.mem_cons.1 hx with rfl | hx
    · exact ho
    · exact (h.1 x (by simp[hx])).left hl (hoff x hx)
  · have ht:=h.tail.2
    cases hu:owner u' with
    | none=>simp only[List.filterMap_cons,hu]; exact ht
    | some id =>
      simp only[List.filterMap_cons,hu,List.nodup_cons,List.mem_filterMap,not_exists,not_and]
      refine ⟨fun x hx e=>?_,ht⟩
      have hlv:=h.tail.live hx e
      exact (hl id hlv (hoff x hx id e)).2 hu
theorem pr {sz bytes:Nat} {u:V} {es xs:List (List V)} {L:List ed} {H:View} {K:V→View→Prop} {w:bP (H,K)} (ho:bq H ((u,sz,es) :: L)) (hok:(xs.all fun e=>e.length == sz && e.all aP)=true)
    (hl:(es.length+xs.length) * bytes < aW) (hl2:es.length+xs.length < aW) (hk:∀ u' H',bq H' ((u',sz,es ++ xs) :: L)→Left H H' u u'→K u' H'):lV sz bytes u xs H K w :=
  DX ho.head hok hl hl2 fun u' H' h1 h2=>hk u' H' (ho.left h1 h2) h2
theorem bq.emp {H:View} {L:List ed} (h:bq H L) {k sz:Nat} : bq H ((.emp k,sz,[]) :: L):=by
  refine ⟨fun x hx=>?_,by simpa [List.filterMap_cons,owner] using h.2⟩
  rcases List.mem_cons.1 hx with rfl | hx
  · exact .nil
  · exact h.1 x hx
theorem bj.cells {H:View} {u:V} {sz:Nat} {es:List (List V)} (h:bj H u sz es):V.cells u=[u]:=by
  rcases h with ⟨rfl,k,rfl⟩ | ⟨n,rfl,_⟩ <;> rfl
theorem bj.zF {H:View} {u:V} {sz:Nat} {es:List (List V)} (h:bj H u sz es):aP u=true:=by
  rcases h with ⟨rfl,k,rfl⟩ | ⟨n,rfl,_⟩ <;> rfl
theorem bq.ID {H:View} {L:List ed} (h:bq H L) (i j:Nat) {a k1 s1 b k2 s2 t1 t2:Nat} {e1 e2:List (List V)} (hi:L[i]?=some (.sl a 0 k1 s1,t1,e1)) (hj:L[j]?=some (.sl b 0 k2 s2,t2,e2)) (hij:i≠j):a≠b:=by
  rintro rfl
  obtain ⟨hil,hi⟩:=List.getElem?_eq_some_iff.1 hi
  have h1:=h.at i hil
  rw[hi] at h1
  exact h1.off (id:=a) rfl _ (List.mem_eraseIdx_iff_getElem?.2 ⟨j,hij.symm,hj⟩) rfl
theorem HS {α:Type} {a b c:α} {l:List α} : (a :: b :: c :: l).Perm (b :: c :: a :: l):=(List.Perm.swap _ _ _).trans ((List.Perm.swap _ _ _).cons _)
theorem bq.own {H:View} {L:List ed} (h:bq H L) (i:Nat) {u:V} {sz:Nat} {es:List (List V)} (hi:L[i]?=some (u,sz,es)):bj H u sz es:=h.1 _ (List.mem_of_getElem? hi)
theorem bq.is {H:View} {L:List ed} (h:bq H L) (i:Nat) {n k sz:Nat} {es:List (List V)} (hi:L[i]?=some (.sl n 0 k sz,sz,es)) (hes:0 < es.length):H n=.arr sz es:=by
  obtain ⟨m,e,hm⟩:=(h.own i hi).sl hes
  simp only[V.sl.injEq] at e
  rw[e.1]; exact hm
theorem bq.F8 {H:View} {L:List ed} (h:bq H L) {b c:Nat} {es:List (V × V × Nat)} (hb:H b=.map es c):∀ x∈L,owner x.1≠some b:=fun x hx e=>by
  have:=((h.1 x hx).live e).1
  rw[hb] at this; simp at this
theorem bq.Hi {H:View} {L:List ed} (h:bq H L) {b c:Nat} {es:List (V × V × Nat)} (hb:H b=.map es c) {o:cR} : bq (H.set b o) L :=
  ⟨fun x hx=>(h.1 x hx).other (h.F8 hb x hx),h.2⟩
theorem Left.map {H H':View} {u u':V} {b c:Nat} {es:List (V × V × Nat)} {sz:Nat} {xs:List (List V)} (hl:Left H H' u u') (ho:bj H u sz xs) (hb:H b=.map es c):H' b=.map es c:=by
  rw[(hl b (by rw[hb]; simp) (fun e=>by have:=(ho.live e).1; rw[hb] at this; simp at this)).1,hb]
theorem uS {H:View} {L:List ed} (h:bq H L) (i:Nat) {n k sz b c:Nat} {xs:List (List V)} {es:List (V × V × Nat)} (hi:L[i]?=some (.sl n 0 k sz,sz,xs)) (hb:H b=.map es c):n≠b:=by
  rintro rfl
  exact h.F8 hb _ (List.mem_of_getElem? hi) rfl
theorem aJ.GA {P:Program} {f:FuncId} {vs:List V} {H:View} {K:V→View→Prop} {w:bP (H,K)} {sz:Nat} {es:List (List V)} (hc:aD P f vs H fun r H'=>bj H' r sz es∧hZ H H' r) (hk:∀ r H',bj H' r sz es→hZ H H' r→K r H'):aJ P true f vs H K w:=by
  unfold aJ
  simp only[if_true]
  exact (hc.mono fun r H' h=>⟨fun id hid=>(h.2 id hid).1,hk r H' h.1 h.2⟩).FL
def rA:SC :=
  .seq (ao [aF 20 .lss 19 18]) <|
  .seq (.cond (.tmp 20) (.skip) (.exit 0)) <|
  .seq (.block 1 (.seq (ao [aa 21 19,aa 3 21]) <|
  .seq (ao [aa 22 0,aa 23 3,((some 24),.op (.bZ (.tmp 22) (.tmp 23))),aB 25 165 [24],bB 26 25]) <|
  .cond (.tmp 26) (.seq (ao [aM 2 false]) <|
  .ret) (.skip))) <|
  ao [aq 27 .add 19 1,aa 19 27]
def uu:SF:=⟨.seq (ao [aM 2 false]) <|
  .seq (.seq (.region false [⟨none,[aa 4 0,((some 5),.op (.fT .eql (.tmp 4) (.val (.val (.string ⟨#[]⟩))))),aa 6 5]⟩,⟨(some (6,false)),[aa 7 0,((some 8),.op (.eA (.tmp 7))),aq 9 .gtr 8 20]⟩,⟨none,[aT 10 6 9,aa 11 10]⟩,⟨(some (11,false)),[aa 12 0,((some 13),.op (.bZ (.tmp 12) (.val (.val (.int .i64 0))))),aB 14 164 [13],bB 15 14]⟩,⟨none,[aT 16 11 15]⟩]) <|
  .cond (.tmp 16) (.seq (ao [aM 2 false]) <|
  .ret) (.skip)) <|
  .seq (.seq (ao [aa 17 0,((some 18),.op (.eA (.tmp 17))),ax 19 0]) <|
  .block 0 (.loop rA)) <|
  .seq (ao [aM 2 true]) <|
  .ret,
  [.tmp 2],28⟩
theorem xI:bb Tryz.prog 113 []=some uu:=by kernel_rfl
def qa:SF:=⟨.seq (ao [ax 2 0,ax 3 0]) <|
  .seq (ao [ax 4 2]) <|
  .seq (.block 0 (.seq (ao [aa 6 0,aH 7 6,aq 8 .lss 7 2,aa 5 8]) <|
  .cond (.tmp 5) (.seq (ao [ax 2 0,ax 3 4]) <|
  .ret) (.seq (ao [aa 10 0,((some 11),.op (.idx 1 (.tmp 10) (.val (.val (.int .i64 1))))),ak 12 11,aB 13 261 [12],aa 9 13]) <|
  .cond (.tmp 9) (.skip) (.seq (ao [aa 15 0,((some 16),.op (.idx 1 (.tmp 15) (.val (.val (.int .i64 1))))),ak 17 16,((some 18),.op (.arith .neq (.tmp 17) (.val (.val (.int .u8 92))))),aa 14 18]) <|
  .cond (.tmp 14) (.seq (ao [ax 2 0,ax 3 3]) <|
  .ret) (.seq (ao [aa 20 0,aH 21 20,aq 22 .lss 21 3,aa 19 22]) <|
  .cond (.tmp 19) (.seq (ao [ax 2 0,ax 3 4]) <|
  .ret) (.seq (ao [aa 24 0,((some 25),.op (.idx 1 (.tmp 24) (.val (.val (.int .i64 2))))),ak 26 25,aB 27 262 [26],bB 28 27,aa 23 28]) <|
  .cond (.tmp 23) (.seq (ao [ax 2 0,ax 3 3]) <|
  .ret) (ao [ax 4 3]))))))) <|
  .seq (.seq (ao [aa 29 0,aH 30 29,aa 31 4,aF 32 .leq 30 31]) <|
  .cond (.tmp 32) (.seq (ao [ax 2 0,ax 3 4]) <|
  .ret) (.skip)) <|
  .seq (.seq (ao [aa 33 0,aa 34 4,aI 35 1 33 34,ak 36 35,((some 37),.op (.arith .neq (.tmp 36) (.val (.val (.int .u8 39)))))]) <|
  .cond (.tmp 37) (.seq (ao [ax 2 0,ax 3 3]) <|
  .ret) (.skip)) <|
  .seq (ao [aa 38 4,aq 39 .add 38 1,aa 2 39,ax 3 0]) <|
  .ret,
  [.tmp 2,.tmp 3],40⟩
theorem tJ:bb Tryz.prog 251 []=some qa:=by kernel_rfl
def lu:SF:=⟨.seq (ao [aM 2 false]) <|
  .seq (.seq (.region false [⟨none,[aa 5 0,((some 6),.op (.fT .eql (.tmp 5) (.val (.val (.string ⟨#[]⟩))))),aa 7 6]⟩,⟨(some (7,false)),[aa 8 0,((some 9),.op (.bZ (.tmp 8) (.val (.val (.int .i64 0))))),((some 10),.op (.arith .neq (.tmp 9) (.val (.val (.int .u8 39)))))]⟩,⟨none,[aT 11 7 10]⟩]) <|
  .cond (.tmp 11) (.seq (ao [aM 2 false]) <|
  .ret) (.skip)) <|
  .seq (ao [aa 13 0,((some 14),.op (.dc (.tmp 13))),aB 15 251 [14],aa 12 15,bA 16 0 12,bA 17 1 12,aa 3 16,aa 4 17]) <|
  .seq (.region false [⟨none,[aa 18 4,aq 19 .eql 18 0,aa 20 19]⟩,⟨(some (20,true)),[aa 21 3,aa 22 0,((some 23),.op (.eA (.tmp 22))),aF 24 .eql 21 23]⟩,⟨none,[bf 25 20 24,aa 2 25]⟩]) <|
  .ret,
  [.tmp 2],26⟩
theorem tU:bb Tryz.prog 212 [14]=some lu:=by kernel_rfl
def sQ:SF:=⟨.seq (ao [aM 2 false]) <|
  .seq (.region false [⟨none,[aa 3 0,aB 4 113 [3],aa 5 4]⟩,⟨(some (5,false)),[aa 6 0,aB 7 212 [6]]⟩,⟨none,[aT 8 5 7,aa 2 8]⟩]) <|
  .ret,
  [.tmp 2],9⟩
theorem vU:bb Tryz.prog 158 []=some sQ:=by kernel_rfl
def qw:SF:=⟨.seq (ao [aM 2 false]) <|
  .seq (ao [aa 3 0,aB 4 113 [3],bB 5 4,aa 2 5]) <|
  .ret,
  [.tmp 2],6⟩
theorem tG:bb Tryz.prog 112 []=some qw:=by kernel_rfl
theorem rE (s:ByteArray):ey s ⟨#[]⟩=decide ((cW s).length=0):=by
  unfold ey
  rw[← cr]
  have:(s.data.toList == ([]:List UInt8))=decide (s.data.toList.length=0):=by
    cases s.data.toList <;> rfl
  show (s.data.toList == ([]:List UInt8))=_
  rw[this]
  rfl
set_option maxHeartbeats 1000000 in
theorem Fc (s:ByteArray) (H:View):aD Tryz.prog 113 [gs s] H fun r _=>r=gb (dy (cW s)):=by
  refine aD.of mixed xI ?_
  repeat' (first | (refine ar.dec (fun _=>?_) (fun _=>?_)) | (refine ar.eq (fun _=>?_) (fun _=>?_)) | (refine ar.ne (fun _=>?_) (fun _=>?_)) | (refine ar.split (fun _=>?_) (fun _=>?_)) | (simp (disch:=omega) only [↓wr,↓reduceIte,wq,ai,ah,an,ab,ae,ag,aj,isNil,Nat.reduceEqDiff,Nat.reduceAdd,Nat.reduceLT,Nat.reduceLeDiff,Int.reduceNeg,Int.reduceToNat,reduceCtorEq,uu,cr,rE]))
  · rename_i h
    congr 2; simp[dy,h]
  · rename_i h1 h
    congr 2; simp[dy,show ¬ (cW s).length≤20 by omega]
  · rename_i h1 h2
    cases hb:cW s with
    | nil=>simp[hb] at h1
    | cons c l =>
      have hcr:=fun d (hd:d∈c :: l)=>xh (s:=s) (c:=d) (by rw[hb]; exact hd)
      have hc0:=hcr c (by simp)
      repeat' (first | (refine ar.dec (fun _=>?_) (fun _=>?_)) | (refine ar.eq (fun _=>?_) (fun _=>?_)) | (refine ar.ne (fun _=>?_) (fun _=>?_)) | (refine ar.split (fun _=>?_) (fun _=>?_)) | (simp (disch:=omega) only [↓wr,↓reduceIte,wq,ai,ah,an,ab,ae,ag,aj,isNil,Nat.reduceEqDiff,Nat.reduceAdd,Nat.reduceLT,Nat.reduceLeDiff,Int.reduceNeg,Int.reduceToNat,reduceCtorEq,hb,List.getElem?_cons_zero,cr]))
      refine aJ.pure (pF np Cz c hc0.1 hc0.2) (by kernel_rfl) ?_
      repeat' (first | (refine ar.dec (fun _=>?_) (fun _=>?_)) | (refine ar.eq (fun _=>?_) (fun _=>?_)) | (refine ar.ne (fun _=>?_) (fun _=>?_)) | (refine ar.split (fun _=>?_) (fun _=>?_)) | (simp (disch:=omega) only [↓wr,↓reduceIte,wq,ai,ah,an,ab,ae,ag,aj,isNil,Nat.reduceEqDiff,Nat.reduceAdd,Nat.reduceLT,Nat.reduceLeDiff,Int.reduceNeg,Int.reduceToNat,reduceCtorEq,hb,List.getElem?_cons_zero,cr]))
      · rename_i hf
        rw[hb] at h1 h2
        refine bJ.intro (fun k T H'=>∃ i:Nat,i+k=(c :: l).length∧((c :: l).take i).all iZ=true∧T 0=gs s∧T 18=gi (c :: l).length∧T 19=gi i) (c :: l).length ?_ ?_
        · exact ⟨0,by omega,by simp,rfl,rfl,rfl⟩
        · rintro k T H' ⟨i,hk,hi,h0,h18,h19⟩
          simp (disch:=omega) only [↓wr,↓reduceIte,wq,ai,ah,an,ab,ae,ag,aj,isNil,Nat.reduceEqDiff,Nat.reduceAdd,Nat.reduceLT,Nat.reduceLeDiff,Int.reduceNeg,Int.reduceToNat,reduceCtorEq,rA,h0,h18,h19,cr,hb]
          refine ar.dec (fun hc=>?_) (fun hc=>?_)
          · simp only[List.length_cons] at hc hk h2
            have hg:(c :: l)[i]?=some ((c :: l)[i]'(by simp; omega)):=List.getElem?_eq_getElem (by simp; omega)
            have hm:(c :: l)[i]'(by simp; omega)∈c :: l:=List.getElem_mem _
            generalize (c :: l)[i]'(by simp; omega)=d at hg hm
            have hd0:=hcr d hm
            simp (disch:=omega) only [↓wr,↓reduceIte,wq,ai,ah,an,ab,ae,ag,aj,isNil,Nat.reduceEqDiff,Nat.reduceAdd,Nat.reduceLT,Nat.reduceLeDiff,Int.reduceNeg,Int.reduceToNat,reduceCtorEq,h0,h18,h19,cr,hb,hg]
            refine aJ.pure (pF np Dh d hd0.1 hd0.2) (by kernel_rfl) ?_
            repeat' (first | (refine ar.dec (fun _=>?_) (fun _=>?_)) | (refine ar.eq (fun _=>?_) (fun _=>?_)) | (refine ar.ne (fun _=>?_) (fun _=>?_)) | (refine ar.split (fun _=>?_) (fun _=>?_)) | (simp (disch:=omega) only [↓wr,↓reduceIte,wq,ai,ah,an,ab,ae,ag,aj,isNil,Nat.reduceEqDiff,Nat.reduceAdd,Nat.reduceLT,Nat.reduceLeDiff,Int.reduceNeg,Int.reduceToNat,reduceCtorEq,h0,h18,h19,cr,hb,hg]))
            · rename_i hd
              refine ⟨k - 1,by omega,i+1,by omega,?_,by first | rfl | exact ⟨rfl,rfl⟩⟩
              rw[List.take_add_one,hg]
              simp only[Option.toList_some,List.all_append,hi,List.all_cons,hd,List.all_nil,Bool.and_self]
            · rename_i hd
              congr 2
              have:(c :: l).all iZ=false:=by
                rw[List.all_eq_false]; exact ⟨d,hm,by simp[hd]⟩
              simp only[dy,this,Bool.and_false]
          · simp (disch:=omega) only [↓wr,↓reduceIte,wq,ai,ah,an,ab,ae,ag,aj,isNil,Nat.reduceEqDiff,Nat.reduceAdd,Nat.reduceLT,Nat.reduceLeDiff,Int.reduceNeg,Int.reduceToNat,reduceCtorEq,h0,h18,h19]
            simp only[List.length_cons] at hc hk h2
            rw[List.take_of_length_le (by simp; omega)] at hi
            congr 2
            simp only[dy,hi,List.length_cons]
            simp[hf]; omega
      · rename_i hf
        congr 2; simp[dy,hf]
theorem yi (s:ByteArray):aA Tryz.prog 113 [gs s] (gb (dy (cW s))):=aA.val (kh s) (Fc s)
def gq (l:List Int):Int × Int :=
  if rF (l.getD 1 0)=true then (2,0) else if l.getD 1 0≠92 then (0,3) else if l.length < 3 then (0,4) else if vx (l.getD 2 0)=true then (3,0) else (0,3)
def ir (l:List Int):Int × Int :=
  if l.length < 2 then (0,4) else if (gq l).2≠0 then (0,(gq l).2) else if (l.length:Int)≤(gq l).1 then (0,4) else if l.getD (gq l).1.toNat 0≠39 then (0,3) else ((gq l).1+1,0)
theorem Dx {l:List Int} {n:Int} (hN:gq l=(n,0)) (h2:¬ l.length < 2):ir l=if (l.length:Int)≤n then (0,4) else if l.getD n.toNat 0≠39 then (0,3) else (n+1,0):=by
  rw[ir,if_neg h2,hN]; simp
theorem zT {l:List Int} {e:Int} (hN:gq l=(0,e)) (he:e≠0) (h2:¬ l.length < 2):ir l=(0,e):=by
  rw[ir,if_neg h2,hN]; simp[he]
set_option maxHeartbeats 2000000 in
theorem B0 (l:List Int) (hr:∀ c∈l,0≤c∧c≤255) (H:View):aD Tryz.prog 251 [.aS (l.map fun x=>[gy x])] H fun r _=>r=.bc [gi (ir l).1,gi (ir l).2]:=by
  refine aD.of mixed tJ ?_
  simp (disch:=omega) only [↓wr,↓reduceIte,wq,ai,ah,an,ab,ae,ag,aj,isNil,Nat.reduceEqDiff,Nat.reduceAdd,Nat.reduceLT,Nat.reduceLeDiff,Int.reduceNeg,Int.reduceToNat,reduceCtorEq,qa]
  refine ar.dec (fun h=>?_) (fun h=>?_)
  · simp (disch:=omega) only [↓wr,↓reduceIte,wq,ai,ah,an,ab,ae,ag,aj,isNil,Nat.reduceEqDiff,Nat.reduceAdd,Nat.reduceLT,Nat.reduceLeDiff,Int.reduceNeg,Int.reduceToNat,reduceCtorEq]
    rw[ir,if_pos (by omega)]
  · have h1:l[1]?=some (l[1]'(by omega)):=List.getElem?_eq_getElem (by omega)
    have g1:l.getD 1 0=l[1]'(by omega):=by simp[List.getD_eq_getElem?_getD,h1]
    have m1:l[1]'(by omega)∈l:=List.getElem_mem _
    generalize l[1]'(by omega)=b at h1 g1 m1
    have hb:=hr b m1
    simp (disch:=omega) only [↓wr,↓reduceIte,wq,ai,ah,an,ab,ae,ag,aj,isNil,Nat.reduceEqDiff,Nat.reduceAdd,Nat.reduceLT,Nat.reduceLeDiff,Int.reduceNeg,Int.reduceToNat,reduceCtorEq,List.getElem?_map,h1]
    refine aJ.pure (pF np C0 b hb.1 hb.2) (by kernel_rfl) ?_
    simp (disch:=omega) only [↓wr,↓reduceIte,wq,ai,ah,an,ab,ae,ag,aj,isNil,Nat.reduceEqDiff,Nat.reduceAdd,Nat.reduceLT,Nat.reduceLeDiff,Int.reduceNeg,Int.reduceToNat,reduceCtorEq]
    refine ar.split (fun hp=>?_) (fun hp=>?_)
    · have hN:gq l=(2,0):=by rw[gq,if_pos (by rw[g1]; exact hp)]
      simp (disch:=omega) only [↓wr,↓reduceIte,wq,ai,ah,an,ab,ae,ag,aj,isNil,Nat.reduceEqDiff,Nat.reduceAdd,Nat.reduceLT,Nat.reduceLeDiff,Int.reduceNeg,Int.reduceToNat,reduceCtorEq]
      have hP:=Dx hN (by omega)
      refine ar.dec (fun h3=>?_) (fun h3=>?_)
      · simp (disch:=omega) only [↓wr,↓reduceIte,wq,ai,ah,an,ab,ae,ag,aj,isNil,Nat.reduceEqDiff,Nat.reduceAdd,Nat.reduceLT,Nat.reduceLeDiff,Int.reduceNeg,Int.reduceToNat,reduceCtorEq]
        rw[hP,if_pos (by omega)]
      · rw[if_neg (by omega)] at hP
        have h2:l[2]?=some (l[2]'(by omega)):=List.getElem?_eq_getElem (by omega)
        have g2:l.getD (2:Int).toNat 0=l[2]'(by omega):=by simp[List.getD_eq_getElem?_getD,h2]
        generalize l[2]'(by omega)=c at h2 g2
        rw[g2] at hP
        simp (disch:=omega) only [↓wr,↓reduceIte,wq,ai,ah,an,ab,ae,ag,aj,isNil,Nat.reduceEqDiff,Nat.reduceAdd,Nat.reduceLT,Nat.reduceLeDiff,Int.reduceNeg,Int.reduceToNat,reduceCtorEq,List.getElem?_map,h2]
        refine ar.ne (fun h4=>?_) (fun h4=>?_)
        · simp (disch:=omega) only [↓wr,↓reduceIte,wq,ai,ah,an,ab,ae,ag,aj,isNil,Nat.reduceEqDiff,Nat.reduceAdd,Nat.reduceLT,Nat.reduceLeDiff,Int.reduceNeg,Int.reduceToNat,reduceCtorEq]
          rw[hP,if_pos h4]
        · simp (disch:=omega) only [↓wr,↓reduceIte,wq,ai,ah,an,ab,ae,ag,aj,isNil,Nat.reduceEqDiff,Nat.reduceAdd,Nat.reduceLT,Nat.reduceLeDiff,Int.reduceNeg,Int.reduceToNat,reduceCtorEq]
          rw[hP,if_neg (fun q=>q h4)]
    · simp (disch:=omega) only [↓wr,↓reduceIte,wq,ai,ah,an,ab,ae,ag,aj,isNil,Nat.reduceEqDiff,Nat.reduceAdd,Nat.reduceLT,Nat.reduceLeDiff,Int.reduceNeg,Int.reduceToNat,reduceCtorEq,List.getElem?_map,h1]
      refine ar.ne (fun h5=>?_) (fun h5=>?_)
      · simp (disch:=omega) only [↓wr,↓reduceIte,wq,ai,ah,an,ab,ae,ag,aj,isNil,Nat.reduceEqDiff,Nat.reduceAdd,Nat.reduceLT,Nat.reduceLeDiff,Int.reduceNeg,Int.reduceToNat,reduceCtorEq]
        rw[zT (e:=3) (by rw[gq,if_neg (by rw[g1,hp]; simp),if_pos (by rw[g1]; exact h5)]) (by simp) (by omega)]
      · simp (disch:=omega) only [↓wr,↓reduceIte,wq,ai,ah,an,ab,ae,ag,aj,isNil,Nat.reduceEqDiff,Nat.reduceAdd,Nat.reduceLT,Nat.reduceLeDiff,Int.reduceNeg,Int.reduceToNat,reduceCtorEq]
        refine ar.dec (fun h6=>?_) (fun h6=>?_)
        · simp (disch:=omega) only [↓wr,↓reduceIte,wq,ai,ah,an,ab,ae,ag,aj,isNil,Nat.reduceEqDiff,Nat.reduceAdd,Nat.reduceLT,Nat.reduceLeDiff,Int.reduceNeg,Int.reduceToNat,reduceCtorEq]
          rw[zT (e:=4) (by rw[gq,if_neg (by rw[g1,hp]; simp),if_neg (by rw[g1]; exact fun q=>q h5),if_pos (by omega)]) (by simp) (by omega)]
        · have h2:l[2]?=some (l[2]'(by omega)):=List.getElem?_eq_getElem (by omega)
          have g2:l.getD 2 0=l[2]'(by omega):=by simp[List.getD_eq_getElem?_getD,h2]
          have m2:l[2]'(by omega)∈l:=List.getElem_mem _
          generalize l[2]'(by omega)=c at h2 g2 m2
          have hcr:=hr c m2
          have hN0:gq l=if vx c=true then (3,0) else (0,3):=by rw[gq,if_neg (by rw[g1,hp]; simp),if_neg (by rw[g1]; exact fun q=>q h5),if_neg (by omega),g2]
          simp (disch:=omega) only [↓wr,↓reduceIte,wq,ai,ah,an,ab,ae,ag,aj,isNil,Nat.reduceEqDiff,Nat.reduceAdd,Nat.reduceLT,Nat.reduceLeDiff,Int.reduceNeg,Int.reduceToNat,reduceCtorEq,List.getElem?_map,h2]
          refine aJ.pure (pF np Gs c hcr.1 hcr.2) (by kernel_rfl) ?_
          simp (disch:=omega) only [↓wr,↓reduceIte,wq,ai,ah,an,ab,ae,ag,aj,isNil,Nat.reduceEqDiff,Nat.reduceAdd,Nat.reduceLT,Nat.reduceLeDiff,Int.reduceNeg,Int.reduceToNat,reduceCtorEq]
          refine ar.split (fun he=>?_) (fun he=>?_)
          · rw[if_pos he] at hN0
            have hP:=Dx hN0 (by omega)
            simp (disch:=omega) only [↓wr,↓reduceIte,wq,ai,ah,an,ab,ae,ag,aj,isNil,Nat.reduceEqDiff,Nat.reduceAdd,Nat.reduceLT,Nat.reduceLeDiff,Int.reduceNeg,Int.reduceToNat,reduceCtorEq]
            refine ar.dec (fun h3=>?_) (fun h3=>?_)
            · simp (disch:=omega) only [↓wr,↓reduceIte,wq,ai,ah,an,ab,ae,ag,aj,isNil,Nat.reduceEqDiff,Nat.reduceAdd,Nat.reduceLT,Nat.reduceLeDiff,Int.reduceNeg,Int.reduceToNat,reduceCtorEq]
              rw[hP,if_pos (by omega)]
            · rw[if_neg (by omega)] at hP
              have h7:l[3]?=some (l[3]'(by omega)):=List.getElem?_eq_getElem (by omega)
              have g3:l.getD (3:Int).toNat 0=l[3]'(by omega):=by simp[List.getD_eq_getElem?_getD,h7]
              generalize l[3]'(by omega)=d at h7 g3
              rw[g3] at hP
              simp (disch:=omega) only [↓wr,↓reduceIte,wq,ai,ah,an,ab,ae,ag,aj,isNil,Nat.reduceEqDiff,Nat.reduceAdd,Nat.reduceLT,Nat.reduceLeDiff,Int.reduceNeg,Int.reduceToNat,reduceCtorEq,List.getElem?_map,h7]
              refine ar.ne (fun h4=>?_) (fun h4=>?_)
              · simp (disch:=omega) only [↓wr,↓reduceIte,wq,ai,ah,an,ab,ae,ag,aj,isNil,Nat.reduceEqDiff,Nat.reduceAdd,Nat.reduceLT,Nat.reduceLeDiff,Int.reduceNeg,Int.reduceToNat,reduceCtorEq]
                rw[hP,if_pos h4]
              · simp (disch:=omega) only [↓wr,↓reduceIte,wq,ai,ah,an,ab,ae,ag,aj,isNil,Nat.reduceEqDiff,Nat.reduceAdd,Nat.reduceLT,Nat.reduceLeDiff,Int.reduceNeg,Int.reduceToNat,reduceCtorEq]
                rw[hP,if_neg (fun q=>q h4)]
          · rw[if_neg (by rw[he]; simp)] at hN0
            simp (disch:=omega) only [↓wr,↓reduceIte,wq,ai,ah,an,ab,ae,ag,aj,isNil,Nat.reduceEqDiff,Nat.reduceAdd,Nat.reduceLT,Nat.reduceLeDiff,Int.reduceNeg,Int.reduceToNat,reduceCtorEq]
            rw[zT hN0 (by simp) (by omega)]
def fH {α:Type} (p:α→Bool):List α→Int→Int
  | [],_=>-1
  | x :: l,i=>if p x then i else fH p l (i+1)
theorem pa {α:Type} (p:α→Bool):∀ (l:List α) (i:Int),0≤i→decide (0≤fH p l i)=l.any p
  | [],_,_=>by simp[fH]
  | x :: l,i,h=>by
    have ih:=pa p l (i+1) (by omega)
    rw[List.any_cons,fH]
    by_cases hp:p x=true
    · rw[if_pos hp,hp]; simp[h]
    · rw[if_neg hp,ih]; simp[hp]
theorem vH {f:FuncId} {xs cap:List V} (h:∀ v∈xs,Tree v) (h2:∀ v∈cap,Tree v):Tree (.fn f xs cap):=by
  refine .fn _ _ _ (fun i hi=>?_) (fun i hi=>?_)
  · have e2:xs.getD i .any=xs[i]:=by simp[List.getD_eq_getElem?_getD,hi]
    rw[e2]; exact h _ (List.getElem_mem _)
  · have e2:cap.getD i .any=cap[i]:=by simp[List.getD_eq_getElem?_getD,hi]
    rw[e2]; exact h2 _ (List.getElem_mem _)
def ef:SC :=
  .seq (ao [aF 9 .lss 8 7]) <|
  .seq (.cond (.tmp 9) (.skip) (.exit 0)) <|
  .seq (.block 1 (.seq (ao [aa 10 8,aa 5 10]) <|
  .seq (ao [aa 11 1,aa 12 0,aa 13 5,aI 14 1 12 13,ak 15 14,((some 16),.call (.tmp 11) [(.tmp 15)])]) <|
  .cond (.tmp 16) (.seq (ao [aa 17 5,aa 4 17]) <|
  .ret) (.skip))) <|
  ao [aq 18 .add 8 1,aa 8 18]
def eH:SF:=⟨.seq (ao [ax 4 0]) <|
  .seq (.seq (ao [aa 6 0,aH 7 6,ax 8 0]) <|
  .block 0 (.loop ef)) <|
  .seq (ao [ax 4 (-1)]) <|
  .ret,
  [.tmp 4],19⟩
theorem ie:bb Tryz.prog 137 []=some eH:=by kernel_rfl
def dT:SF:=⟨.seq (ao [aM 4 false]) <|
  .seq (ao [aa 5 0,aa 6 1,aB 7 137 [5,6],aq 8 .geq 7 0,aa 4 8]) <|
  .ret,
  [.tmp 4],9⟩
theorem gJ:bb Tryz.prog 90 []=some dT:=by kernel_rfl
def df:SC :=
  .seq (ao [aF 9 .lss 8 7]) <|
  .seq (.cond (.tmp 9) (.skip) (.exit 0)) <|
  .seq (.block 1 (.seq (ao [aa 10 8,aa 5 10]) <|
  .seq (ao [aa 11 1,aa 12 0,aa 13 5,aI 14 1 12 13,ak 15 14,((some 16),.call (.tmp 11) [(.tmp 15)])]) <|
  .cond (.tmp 16) (.seq (ao [aa 17 5,aa 4 17]) <|
  .ret) (.skip))) <|
  ao [aq 18 .add 8 1,aa 8 18]
def dE:SF:=⟨.seq (ao [ax 4 0]) <|
  .seq (.seq (ao [aa 6 0,aH 7 6,ax 8 0]) <|
  .block 0 (.loop df)) <|
  .seq (ao [ax 4 (-1)]) <|
  .ret,
  [.tmp 4],19⟩
theorem fM:bb Tryz.prog 163 []=some dE:=by kernel_rfl
def c7:SF:=⟨.seq (ao [aM 4 false]) <|
  .seq (ao [aa 5 0,aa 6 1,aB 7 163 [5,6],aq 8 .geq 7 0,aa 4 8]) <|
  .ret,
  [.tmp 4],9⟩
theorem e9:bb Tryz.prog 111 []=some c7:=by kernel_rfl
theorem xH (l:List Int) (hl:bd l) (f:FuncId) (cap:List V) (p:Int→Bool) (hf:∀ x∈l,aA Tryz.prog f (gi x :: cap) (gb (p x))) (hok:bO Tryz.prog f=true) (H:View) :
    aD Tryz.prog 137 [encI l,.fn f [] cap] H fun r _=>r=gi (fH p l 0):=by
  refine aD.of mixed ie ?_
  unfold bd at hl
  simp (disch:=omega) only [↓wr,↓reduceIte,wq,ai,ah,an,ab,ae,ag,aj,isNil,Nat.reduceEqDiff,Nat.reduceAdd,Nat.reduceLT,Nat.reduceLeDiff,Int.reduceNeg,Int.reduceToNat,reduceCtorEq,eH,encI]
  refine bJ.up l.length (fun i T _=>fH p (l.drop i) i=fH p l 0∧T 0=encI l∧T 1=.fn f [] cap∧T 7=gi l.length∧T 8=gi i) ⟨rfl,rfl,rfl,rfl,rfl⟩ ?_
  rintro i k T H hk ⟨hi,h0,h1,h7,h8⟩
  simp (disch:=omega) only [↓wr,↓reduceIte,wq,ai,ah,an,ab,ae,ag,aj,isNil,Nat.reduceEqDiff,Nat.reduceAdd,Nat.reduceLT,Nat.reduceLeDiff,Int.reduceNeg,Int.reduceToNat,reduceCtorEq,ef,h0,h1,h7,h8,encI]
  refine ar.dec (fun hc=>?_) (fun hc=>?_)
  · have hg:l[i]?=some (l[i]'(by omega)):=List.getElem?_eq_getElem (by omega)
    have hm:l[i]'(by omega)∈l:=List.getElem_mem _
    rw[dS (show i < l.length by omega)] at hi
    generalize l[i]'(by omega)=x at hg hm hi
    simp (disch:=omega) only [↓wr,↓reduceIte,wq,ai,ah,an,ab,ae,ag,aj,isNil,Nat.reduceEqDiff,Nat.reduceAdd,Nat.reduceLT,Nat.reduceLeDiff,Int.reduceNeg,Int.reduceToNat,reduceCtorEq,h0,h1,h7,h8,encI,List.getElem?_map,hg]
    refine aJ.pure (hf x hm) hok ?_
    simp only[fH] at hi
    repeat' (first | (refine ar.dec (fun _=>?_) (fun _=>?_)) | (refine ar.eq (fun _=>?_) (fun _=>?_)) | (refine ar.ne (fun _=>?_) (fun _=>?_)) | (refine ar.split (fun _=>?_) (fun _=>?_)) | (simp (disch:=omega) only [↓wr,↓reduceIte,wq,ai,ah,an,ab,ae,ag,aj,isNil,Nat.reduceEqDiff,Nat.reduceAdd,Nat.reduceLT,Nat.reduceLeDiff,Int.reduceNeg,Int.reduceToNat,reduceCtorEq,h0,h1,h7,h8]))
    · rename_i hp
      rw[← hi,if_pos hp]
    · rename_i hp
      refine ca hk (by omega) ⟨?_,h0,h1,h7,rfl⟩
      rw[if_neg (by simp[hp])] at hi
      push_cast; exact hi
  · rw[List.drop_eq_nil_of_le (by omega)] at hi
    simp (disch:=omega) only [↓wr,↓reduceIte,wq,ai,ah,an,ab,ae,ag,aj,isNil,Nat.reduceEqDiff,Nat.reduceAdd,Nat.reduceLT,Nat.reduceLeDiff,Int.reduceNeg,Int.reduceToNat,reduceCtorEq,h0,h1,h7,h8]
    rw[← hi]; rfl
theorem q9 {l:List Int} {f:FuncId} {cap:List V} (hcap:∀ v∈cap,Tree v):∀ v∈[encI l,.fn f [] cap],Tree v:=by
  intro v hv; simp at hv
  rcases hv with rfl | rfl
  · exact rl l
  · exact vH (by simp) hcap
theorem iq (l:List Int) (hl:bd l) (f:FuncId) (cap:List V) (hcap:∀ v∈cap,Tree v) (p:Int→Bool) (hf:∀ x∈l,aA Tryz.prog f (gi x :: cap) (gb (p x))) (hok:bO Tryz.prog f=true) :
    aA Tryz.prog 90 [encI l,.fn f [] cap] (gb (l.any p)):=by
  refine aA.val (q9 hcap) fun H=>?_
  refine aD.of mixed gJ ?_
  simp (disch:=omega) only [↓wr,↓reduceIte,wq,ai,ah,an,ab,ae,ag,aj,isNil,Nat.reduceEqDiff,Nat.reduceAdd,Nat.reduceLT,Nat.reduceLeDiff,Int.reduceNeg,Int.reduceToNat,reduceCtorEq,dT]
  refine aJ.pure (aA.val (q9 hcap) (xH l hl f cap p hf hok)) (by kernel_rfl) ?_
  simp (disch:=omega) only [↓wr,↓reduceIte,wq,ai,ah,an,ab,ae,ag,aj,isNil,Nat.reduceEqDiff,Nat.reduceAdd,Nat.reduceLT,Nat.reduceLeDiff,Int.reduceNeg,Int.reduceToNat,reduceCtorEq]
  rw[← pa p l 0 (by omega)]
theorem xK (l:List ByteArray) (hl:bd l) (f:FuncId) (cap:List V) (p:ByteArray→Bool) (hf:∀ x∈l,aA Tryz.prog f (gs x :: cap) (gb (p x))) (hok:bO Tryz.prog f=true) (H:View) :
    aD Tryz.prog 163 [encS l,.fn f [] cap] H fun r _=>r=gi (fH p l 0):=by
  refine aD.of mixed fM ?_
  unfold bd at hl
  simp (disch:=omega) only [↓wr,↓reduceIte,wq,ai,ah,an,ab,ae,ag,aj,isNil,Nat.reduceEqDiff,Nat.reduceAdd,Nat.reduceLT,Nat.reduceLeDiff,Int.reduceNeg,Int.reduceToNat,reduceCtorEq,dE,encS]
  refine bJ.up l.length (fun i T _=>fH p (l.drop i) i=fH p l 0∧T 0=encS l∧T 1=.fn f [] cap∧T 7=gi l.length∧T 8=gi i) ⟨rfl,rfl,rfl,rfl,rfl⟩ ?_
  rintro i k T H hk ⟨hi,h0,h1,h7,h8⟩
  simp (disch:=omega) only [↓wr,↓reduceIte,wq,ai,ah,an,ab,ae,ag,aj,isNil,Nat.reduceEqDiff,Nat.reduceAdd,Nat.reduceLT,Nat.reduceLeDiff,Int.reduceNeg,Int.reduceToNat,reduceCtorEq,df,h0,h1,h7,h8,encS]
  refine ar.dec (fun hc=>?_) (fun hc=>?_)
  · have hg:l[i]?=some (l[i]'(by omega)):=List.getElem?_eq_getElem (by omega)
    have hm:l[i]'(by omega)∈l:=List.getElem_mem _
    rw[dS (show i < l.length by omega)] at hi
    generalize l[i]'(by omega)=x at hg hm hi
    simp (disch:=omega) only [↓wr,↓reduceIte,wq,ai,ah,an,ab,ae,ag,aj,isNil,Nat.reduceEqDiff,Nat.reduceAdd,Nat.reduceLT,Nat.reduceLeDiff,Int.reduceNeg,Int.reduceToNat,reduceCtorEq,h0,h1,h7,h8,encS,List.getElem?_map,hg]
    refine aJ.pure (hf x hm) hok ?_
    simp only[fH] at hi
    repeat' (first | (refine ar.dec (fun _=>?_) (fun _=>?_)) | (refine ar.eq (fun _=>?_) (fun _=>?_)) | (refine ar.ne (fun _=>?_) (fun _=>?_)) | (refine ar.split (fun _=>?_) (fun _=>?_)) | (simp (disch:=omega) only [↓wr,↓reduceIte,wq,ai,ah,an,ab,ae,ag,aj,isNil,Nat.reduceEqDiff,Nat.reduceAdd,Nat.reduceLT,Nat.reduceLeDiff,Int.reduceNeg,Int.reduceToNat,reduceCtorEq,h0,h1,h7,h8]))
    · rename_i hp
      rw[← hi,if_pos hp]
    · rename_i hp
      refine ca hk (by omega) ⟨?_,h0,h1,h7,rfl⟩
      rw[if_neg (by simp[hp])] at hi
      push_cast; exact hi
  · rw[List.drop_eq_nil_of_le (by omega)] at hi
    simp (disch:=omega) only [↓wr,↓reduceIte,wq,ai,ah,an,ab,ae,ag,aj,isNil,Nat.reduceEqDiff,Nat.reduceAdd,Nat.reduceLT,Nat.reduceLeDiff,Int.reduceNeg,Int.reduceToNat,reduceCtorEq,h0,h1,h7,h8]
    rw[← hi]; rfl
theorem q4 {l:List ByteArray} {f:FuncId} {cap:List V} (hcap:∀ v∈cap,Tree v):∀ v∈[encS l,.fn f [] cap],Tree v:=by
  intro v hv; simp at hv
  rcases hv with rfl | rfl
  · exact rM l
  · exact vH (by simp) hcap
theorem tH (l:List ByteArray) (hl:bd l) (f:FuncId) (cap:List V) (hcap:∀ v∈cap,Tree v) (p:ByteArray→Bool) (hf:∀ x∈l,aA Tryz.prog f (gs x :: cap) (gb (p x))) (hok:bO Tryz.prog f=true) :
    aA Tryz.prog 111 [encS l,.fn f [] cap] (gb (l.any p)):=by
  refine aA.val (q4 hcap) fun H=>?_
  refine aD.of mixed e9 ?_
  simp (disch:=omega) only [↓wr,↓reduceIte,wq,ai,ah,an,ab,ae,ag,aj,isNil,Nat.reduceEqDiff,Nat.reduceAdd,Nat.reduceLT,Nat.reduceLeDiff,Int.reduceNeg,Int.reduceToNat,reduceCtorEq,c7]
  refine aJ.pure (aA.val (q4 hcap) (xK l hl f cap p hf hok)) (by kernel_rfl) ?_
  simp (disch:=omega) only [↓wr,↓reduceIte,wq,ai,ah,an,ab,ae,ag,aj,isNil,Nat.reduceEqDiff,Nat.reduceAdd,Nat.reduceLT,Nat.reduceLeDiff,Int.reduceNeg,Int.reduceToNat,reduceCtorEq]
  rw[← pa p l 0 (by omega)]
theorem rv {l:List Value} : ∀ v∈l.map V.val,Tree v:=by
  intro v hv; obtain ⟨x,_,rfl⟩:=List.mem_map.1 hv; exact .val _
def rO:SF:=⟨.seq (ao [aM 6 false]) <|
  .seq (.region false [⟨none,[aa 7 0,aa 8 1,aF 9 .geq 7 8,aa 10 9]⟩,⟨(some (10,true)),[aa 11 0,aa 12 2,aF 13 .leq 11 12]⟩,⟨none,[bf 14 10 13,aa 6 14]⟩]) <|
  .ret,
  [.tmp 6],15⟩
theorem u7:bb Tryz.prog 109 []=some rO:=by kernel_rfl
def wM:SF:=⟨.seq (ao [ax 2 0]) <|
  .seq (ao [aa 3 0,((some 4),.op (.arith .sub (.val (.val (.int .i64 (-1)))) (.tmp 3))),aa 2 4]) <|
  .ret,
  [.tmp 2],5⟩
theorem zy:bb Tryz.prog 216 []=some wM:=by kernel_rfl
def wH:SF:=⟨.seq (ao [bu 2 0,aM 4 false]) <|
  .seq (.seq (ao [aa 5 1,aq 6 .lss 5 0]) <|
  .cond (.tmp 6) (.seq (.region true [⟨none,[aa 7 1,aB 8 216 [7],al 9 1 2,ak 10 9,aH 11 10,aF 12 .lss 8 11,aa 4 12]⟩]) <|
  .ret) (.skip)) <|
  .seq (ao [aa 13 1,al 14 0 2,ak 15 14,aH 16 15,aF 17 .lss 13 16,aa 4 17]) <|
  .ret,
  [.tmp 4],18⟩
theorem zq:bb Tryz.prog 167 [2]=some wH:=by kernel_rfl
def q5:SF:=⟨.seq (ao [aM 4 false]) <|
  .seq (.region false [⟨none,[aG 5 4 1,aa 6 0,aB 7 167 [5,6],bB 8 7,aa 9 8]⟩,⟨(some (9,false)),[aa 10 0,aq 11 .geq 10 0,aa 12 11]⟩,⟨(some (12,true)),[al 13 2 2,ak 14 13,aq 15 .eql 14 (-1)]⟩,⟨(some (9,false)),[bf 16 12 15]⟩,⟨none,[aT 17 9 16,aa 4 17]⟩]) <|
  .ret,
  [.tmp 4],18⟩
theorem uG:bb Tryz.prog 166 []=some q5:=by kernel_rfl
def uZ:SF:=⟨.seq (ao [bu 2 0,bu 3 1,aM 4 false]) <|
  .seq (.seq (.region false [⟨none,[al 5 1 3,ak 6 5,aH 7 6,aq 8 .gtr 7 6,aa 9 8]⟩,⟨(some (9,false)),[al 10 2 3,ak 11 10,al 12 0 2,ak 13 12,aH 14 13,aq 15 .sub 14 1,bS 16 109 [(.tmp 11),(.val (.val (.int .i64 (-1)))),(.tmp 15)],bB 17 16]⟩,⟨none,[aT 18 9 17]⟩]) <|
  .cond (.tmp 18) (.seq (ao [aM 4 false]) <|
  .ret) (.skip)) <|
  .seq (ao [al 19 1 3,ak 20 19,((some 21),.op (.ka 166 [] [(.tmp 2),(.tmp 3)])),aB 22 90 [20,21],bB 23 22,aa 4 23]) <|
  .ret,
  [.tmp 4],24⟩
theorem xO:bb Tryz.prog 114 [2,3]=some uZ:=by kernel_rfl
theorem lX (a b c:Int):aA Tryz.prog 109 [gi a,gi b,gi c] (gb (decide (b≤a) && decide (a≤c))):=by
  refine aA.val (rv (l:=[.int .i64 a,.int .i64 b,.int .i64 c])) fun H=>?_
  refine aD.of mixed u7 ?_
  repeat' (first | (refine ar.dec (fun _=>?_) (fun _=>?_)) | (refine ar.eq (fun _=>?_) (fun _=>?_)) | (refine ar.ne (fun _=>?_) (fun _=>?_)) | (refine ar.split (fun _=>?_) (fun _=>?_)) | (simp (disch:=omega) only [↓wr,↓reduceIte,wq,ai,ah,an,ab,ae,ag,aj,isNil,Nat.reduceEqDiff,Nat.reduceAdd,Nat.reduceLT,Nat.reduceLeDiff,Int.reduceNeg,Int.reduceToNat,reduceCtorEq,rO]))
  all_goals simp[*]
theorem Gg (s:Int) (hs:cU s):aA Tryz.prog 216 [gi s] (gi (-1 - s)):=by
  refine aA.val (rv (l:=[.int .i64 s])) fun H=>?_
  obtain ⟨h1,h2⟩:=hs
  refine aD.of mixed zy ?_
  repeat' (first | (refine ar.dec (fun _=>?_) (fun _=>?_)) | (refine ar.eq (fun _=>?_) (fun _=>?_)) | (refine ar.ne (fun _=>?_) (fun _=>?_)) | (refine ar.split (fun _=>?_) (fun _=>?_)) | (simp (disch:=omega) only [↓wr,↓reduceIte,wq,ai,ah,an,ab,ae,ag,aj,isNil,Nat.reduceEqDiff,Nat.reduceAdd,Nat.reduceLT,Nat.reduceLeDiff,Int.reduceNeg,Int.reduceToNat,reduceCtorEq,wM]))
theorem GF (g:aE) (s:Int) (hs:cU s):aA Tryz.prog 167 [.agg (aw g),gi s] (gb (mh g s)):=by
  refine aA.val (y9 g s) fun H=>?_
  refine aD.of mixed zq ?_
  repeat' (first | (refine ar.dec (fun _=>?_) (fun _=>?_)) | (refine ar.eq (fun _=>?_) (fun _=>?_)) | (refine ar.ne (fun _=>?_) (fun _=>?_)) | (refine ar.split (fun _=>?_) (fun _=>?_)) | (refine aJ.pure (Gg s hs) (by kernel_rfl) ?_) | (simp (disch:=omega) only [↓wr,↓reduceIte,wq,ai,ah,an,ab,ae,ag,aj,isNil,Nat.reduceEqDiff,Nat.reduceAdd,Nat.reduceLT,Nat.reduceLeDiff,Int.reduceNeg,Int.reduceToNat,reduceCtorEq,wH,aw,encS]))
  · rename_i h; simp[mh,show ¬ (0:Int)≤s by omega]
  · rename_i h; simp[mh,show (0:Int)≤s by omega]
theorem gn {cs:List V} {j:Nat} (h:∀ v∈cs,Tree v):Tree (.aQ cs j):=by
  refine .aQ _ _ fun i hi=>?_
  have e2:cs.getD i .any=cs[i]:=by simp[List.getD_eq_getElem?_getD,hi]
  rw[e2]; exact h _ (List.getElem_mem _)
theorem D4 (g:aE) (r:aZ) (s:Int) (hs:cU s):aA Tryz.prog 166 [gi s,.aQ (aw g) 0,.aQ (aY r) 0] (gb (!j8 g r.prec s)):=by
  refine aA.val ?_ fun H=>?_
  · intro v hv; simp at hv
    rcases hv with rfl | rfl | rfl
    · exact .val _
    · exact gn (dr g)
    · exact gn (dw r)
  refine aD.of mixed uG ?_
  simp (disch:=omega) only [↓wr,↓reduceIte,wq,ai,ah,an,ab,ae,ag,aj,isNil,Nat.reduceEqDiff,Nat.reduceAdd,Nat.reduceLT,Nat.reduceLeDiff,Int.reduceNeg,Int.reduceToNat,reduceCtorEq,q5,aw]
  refine aJ.pure (GF g s hs) (by kernel_rfl) ?_
  repeat' (first | (refine ar.dec (fun _=>?_) (fun _=>?_)) | (refine ar.eq (fun _=>?_) (fun _=>?_)) | (refine ar.ne (fun _=>?_) (fun _=>?_)) | (refine ar.split (fun _=>?_) (fun _=>?_)) | (simp (disch:=omega) only [↓wr,↓reduceIte,wq,ai,ah,an,ab,ae,ag,aj,isNil,Nat.reduceEqDiff,Nat.reduceAdd,Nat.reduceLT,Nat.reduceLeDiff,Int.reduceNeg,Int.reduceToNat,reduceCtorEq,aY]))
  all_goals simp[j8, *]
theorem E4 (g:aE) (r:aZ) (hg:g.Ok) (hr:bd r.right∧∀ x∈r.right,cU x):aA Tryz.prog 114 [.agg (aw g),.agg (aY r)] (gb (eM g r)):=by
  refine aA.val (zf g r) fun H=>?_
  have ht:=hg.az
  unfold bd at ht
  refine aD.of mixed xO ?_
  repeat' (first | (refine ar.dec (fun _=>?_) (fun _=>?_)) | (refine ar.eq (fun _=>?_) (fun _=>?_)) | (refine ar.ne (fun _=>?_) (fun _=>?_)) | (refine ar.split (fun _=>?_) (fun _=>?_)) | (refine aJ.pure (lX _ _ _) (by kernel_rfl) ?_) | (simp (disch:=omega) only [↓wr,↓reduceIte,wq,ai,ah,an,ab,ae,ag,aj,isNil,Nat.reduceEqDiff,Nat.reduceAdd,Nat.reduceLT,Nat.reduceLeDiff,Int.reduceNeg,Int.reduceToNat,reduceCtorEq,uZ,aw,aY,encI,encS]))
  · rename_i h; simp[eM,show ¬ r.right.length≤6 by omega]
  · rename_i h1 h2
    have h3:r.right.length≤6:=by omega
    have h2' : -1≤r.prec∧r.prec < g.az.length:=by simp at h2; omega
    refine aJ.pure (iq r.right hr.1 166 [.aQ (aw g) 0,.aQ (aY r) 0] ?_ (fun s=>!j8 g r.prec s) (fun x hx=>D4 g r x (hr.2 x hx)) (by kernel_rfl)) (by kernel_rfl) ?_
    · intro v hv; simp at hv
      rcases hv with rfl | rfl
      · exact gn (dr g)
      · exact gn (dw r)
    simp (disch:=omega) only [↓wr,↓reduceIte,wq,ai,ah,an,ab,ae,ag,aj,isNil,Nat.reduceEqDiff,Nat.reduceAdd,Nat.reduceLT,Nat.reduceLeDiff,Int.reduceNeg,Int.reduceToNat,reduceCtorEq]
    simp[eM,h3,h2'.1,h2'.2]
    rw[Bool.eq_iff_iff]
    simp
  · rename_i h1 h2
    have h3:¬ (-1≤r.prec∧r.prec < g.az.length):=by simp at h2; omega
    have:(decide (-1≤r.prec) && decide (r.prec < (g.az.length:Int)))=false:=by
      rw[← Bool.decide_and]; simpa using h3
    simp only[eM,Bool.and_assoc]
    rw[← Bool.and_assoc (decide (-1≤r.prec)),this]; simp
theorem FE (l:List Int) (h0:l.getD 0 0=39):((ir l).2 == 0 && (ir l).1 == (l.length:Int))=ic l:=by
  match l,h0 with
  | [],h=>simp at h
  | [a],_=>rfl
  | [a,b],_ =>
    simp only[ir,gq,ic,List.length_cons,List.length_nil,List.getD_cons_succ,List.getD_cons_zero]
    repeat' split
    all_goals simp_all
  | [a,b,c],h0 =>
    have ha:a=39:=by simpa using h0
    subst ha
    simp only[ir,gq,ic,rF,vx,List.length_cons,List.length_nil,List.getD_cons_succ,List.getD_cons_zero]
    repeat' split
    all_goals simp_all
    all_goals grind
  | [a,b,c,d],h0 =>
    have ha:a=39:=by simpa using h0
    subst ha
    simp only[ir,gq,ic,rF,vx,List.length_cons,List.length_nil,List.getD_cons_succ,List.getD_cons_zero]
    repeat' split
    all_goals simp_all
    all_goals grind
  | a :: b :: c :: d :: e :: r,h0 =>
    simp only[ir,gq,ic,rF,vx,List.length_cons,List.getD_cons_succ,List.getD_cons_zero]
    repeat' split
    all_goals simp_all
    all_goals (try omega)
    all_goals grind
theorem Cd {c:Int} {l:List Int} (h:¬ c=39):ic (c :: l)=false:=by
  match l with
  | []=>rfl
  | [_]=>rfl
  | [_,_]=>simp[ic,h]
  | [_,_,_]=>simp[ic,h]
  | _ :: _ :: _ :: _ :: _=>rfl
theorem Dk (s:ByteArray):aA Tryz.prog 212 [gs s] (gb (ic (cW s))):=by
  refine aA.val (kh s) fun H=>?_
  refine aD.of mixed tU ?_
  have hcr:=fun d (hd:d∈cW s)=>xh (s:=s) (c:=d) hd
  have hP:aA Tryz.prog 251 [.aS (dq s)] (.bc [gi (ir (cW s)).1,gi (ir (cW s)).2]):=by
    rw[Em]
    refine aA.of ?_ ((B0 (cW s) hcr _).mono fun r H' h h' _=>by rw[h]; exact .tree _ (.bc _ fun i hi=>by
      match i,hi with
      | 0,_=>exact .val _
      | 1,_=>exact .val _))
    intro v hv; simp at hv; subst hv
    exact eC _ _ fun x _ v hv=>by simp at hv; subst hv; exact .val _
  cases hb:cW s with
  | nil =>
    repeat' (first | (refine ar.dec (fun _=>?_) (fun _=>?_)) | (refine ar.eq (fun _=>?_) (fun _=>?_)) | (refine ar.ne (fun _=>?_) (fun _=>?_)) | (refine ar.split (fun _=>?_) (fun _=>?_)) | (simp (disch:=omega) only [↓wr,↓reduceIte,wq,ai,ah,an,ab,ae,ag,aj,isNil,Nat.reduceEqDiff,Nat.reduceAdd,Nat.reduceLT,Nat.reduceLeDiff,Int.reduceNeg,Int.reduceToNat,reduceCtorEq,lu,cr,rE,hb]))
    rfl
  | cons c l =>
    have hl:=FE (cW s)
    rw[hb] at hP hl
    repeat' (first | (refine ar.dec (fun _=>?_) (fun _=>?_)) | (refine ar.eq (fun _=>?_) (fun _=>?_)) | (refine ar.ne (fun _=>?_) (fun _=>?_)) | (refine ar.split (fun _=>?_) (fun _=>?_)) | (simp (disch:=omega) only [↓wr,↓reduceIte,wq,ai,ah,an,ab,ae,ag,aj,isNil,Nat.reduceEqDiff,Nat.reduceAdd,Nat.reduceLT,Nat.reduceLeDiff,Int.reduceNeg,Int.reduceToNat,reduceCtorEq,lu,cr,rE,hb,List.getElem?_cons_zero]))
    · rename_i h
      rw[Cd h]
    · rename_i h
      refine aJ.pure hP (by kernel_rfl) ?_
      have hl:=hl (by simpa using h)
      repeat' (first | (refine ar.dec (fun _=>?_) (fun _=>?_)) | (refine ar.eq (fun _=>?_) (fun _=>?_)) | (refine ar.ne (fun _=>?_) (fun _=>?_)) | (refine ar.split (fun _=>?_) (fun _=>?_)) | (simp (disch:=omega) only [↓wr,↓reduceIte,wq,ai,ah,an,ab,ae,ag,aj,isNil,Nat.reduceEqDiff,Nat.reduceAdd,Nat.reduceLT,Nat.reduceLeDiff,Int.reduceNeg,Int.reduceToNat,reduceCtorEq,cr,hb]))
      · rename_i h2
        rw[← hl]; simp[h2]
      · rename_i h2
        rw[← hl]; simp[h2]
theorem Et (s:ByteArray):aA Tryz.prog 158 [gs s] (gb (kS (cW s))):=by
  refine aA.val (kh s) fun H=>?_
  refine aD.of mixed vU ?_
  repeat' (first | (refine ar.dec (fun _=>?_) (fun _=>?_)) | (refine ar.eq (fun _=>?_) (fun _=>?_)) | (refine ar.ne (fun _=>?_) (fun _=>?_)) | (refine ar.split (fun _=>?_) (fun _=>?_)) | (refine aJ.pure (yi s) (by kernel_rfl) ?_) | (refine aJ.pure (Dk s) (by kernel_rfl) ?_) | (simp (disch:=omega) only [↓wr,↓reduceIte,wq,ai,ah,an,ab,ae,ag,aj,isNil,Nat.reduceEqDiff,Nat.reduceAdd,Nat.reduceLT,Nat.reduceLeDiff,Int.reduceNeg,Int.reduceToNat,reduceCtorEq,sQ]))
  all_goals simp[kS, *]
theorem Cr (s:ByteArray):aA Tryz.prog 112 [gs s] (gb (!dy (cW s))):=by
  refine aA.val (kh s) fun H=>?_
  refine aD.of mixed tG ?_
  repeat' (first | (refine ar.dec (fun _=>?_) (fun _=>?_)) | (refine ar.eq (fun _=>?_) (fun _=>?_)) | (refine ar.ne (fun _=>?_) (fun _=>?_)) | (refine ar.split (fun _=>?_) (fun _=>?_)) | (refine aJ.pure (yi s) (by kernel_rfl) ?_) | (simp (disch:=omega) only [↓wr,↓reduceIte,wq,ai,ah,an,ab,ae,ag,aj,isNil,Nat.reduceEqDiff,Nat.reduceAdd,Nat.reduceLT,Nat.reduceLeDiff,Int.reduceNeg,Int.reduceToNat,reduceCtorEq,qw]))
def ox:SC :=
  .seq (ao [aF 12 .lss 11 10]) <|
  .seq (.cond (.tmp 12) (.skip) (.exit 0)) <|
  .seq (.block 1 (.seq (.region false [⟨none,[aI 13 3 9 11,aG 14 3 13,((some 6),.op (.alloc [(.val (.string ⟨#[]⟩)),(.val (.int .i64 0)),(.val (.int .i64 0))])),(none,.op (.store 3 (.tmp 6) (.tmp 14)))]⟩]) <|
  .seq (.seq (ao [al 15 1 6,ak 16 15,aq 17 .eql 16 0]) <|
  .cond (.tmp 17) (.exit 1) (.skip)) <|
  .seq (.seq (ao [aa 18 3,al 19 1 6,ak 20 19,((some 21),.op (.old (.lookup 236 (.tmp 18) (.tmp 20) false) 3)),aa 7 21]) <|
  .seq (.region false [⟨none,[aa 22 7,aq 23 .neq 22 0,aa 24 23]⟩,⟨(some (24,true)),[aa 25 7,al 26 2 6,ak 27 26,aF 28 .neq 25 27]⟩,⟨none,[bf 29 24 28]⟩]) <|
  .cond (.tmp 29) (.seq (ao [aM 2 false]) <|
  .ret) (.skip)) <|
  .seq (ao [aa 30 3,al 31 1 6,ak 32 31,al 33 2 6,ak 34 33,(none,.op (.old (.mapUpdate 236 (.tmp 30) (.tmp 32) (.tmp 34)) 0))]) <|
  ao [aa 35 4,al 36 1 6,ak 37 36,((some 38),.op (.mm true (.tmp 35) (.tmp 37))),aa 4 38])) <|
  ao [aq 39 .add 11 1,aa 11 39]
def qP:SF:=⟨.seq (ao [aM 2 false]) <|
  .seq (ao [((some 8),.op (.iP)),aa 3 8]) <|
  .seq (ao [ax 4 0]) <|
  .seq (.seq (ao [aa 9 0,aH 10 9,ax 11 0]) <|
  .block 0 (.loop ox)) <|
  .seq (ao [aa 40 3,((some 41),.op (.old (.call { callee:=.builtin .len,args:=#[(.tmp 40)],argTypes:=#[236] }) 3)),aa 42 4,aF 43 .eql 41 42,aa 2 43]) <|
  .ret,
  [.tmp 2],44⟩
theorem u4:bb Tryz.prog 159 []=some qP:=by kernel_rfl
def qz:SC :=
  .seq (ao [aF 8 .lss 7 6]) <|
  .seq (.cond (.tmp 8) (.skip) (.exit 0)) <|
  .seq (.block 1 (.seq (.region false [⟨none,[aI 9 3 5 7,aG 10 3 9,((some 4),.op (.alloc [(.val (.string ⟨#[]⟩)),(.val (.int .i64 0)),(.val (.int .i64 0))])),(none,.op (.store 3 (.tmp 4) (.tmp 10)))]⟩]) <|
  .seq (.region false [⟨none,[al 11 0 4,ak 12 11,aB 13 158 [12],bB 14 13,aa 15 14]⟩,⟨(some (15,false)),[al 16 1 4,ak 17 16,bS 18 109 [(.tmp 17),(.val (.val (.int .i64 0))),(.val (.val (.int .i64 24)))],bB 19 18]⟩,⟨none,[aT 20 15 19,aa 21 20]⟩,⟨(some (21,false)),[al 22 2 4,ak 23 22,bS 24 109 [(.tmp 23),(.val (.val (.int .i64 0))),(.val (.val (.int .i64 3)))],bB 25 24]⟩,⟨none,[aT 26 21 25,aa 27 26]⟩,⟨(some (27,false)),[al 28 1 4,ak 29 28,aq 30 .eql 29 0,al 31 2 4,ak 32 31,aq 33 .eql 32 0,((some 34),.op (.beq false (.tmp 30) (.tmp 33)))]⟩,⟨none,[aT 35 27 34]⟩]) <|
  .cond (.tmp 35) (.seq (ao [aM 2 false]) <|
  .ret) (.skip))) <|
  ao [aq 36 .add 7 1,aa 7 36]
def sY:SF:=⟨.seq (ao [aM 2 false]) <|
  .seq (.seq (ao [aa 5 0,aH 6 5,ax 7 0]) <|
  .block 0 (.loop qz)) <|
  .seq (.region false [⟨none,[aa 37 0,aH 38 37,aq 39 .leq 38 24,aa 40 39]⟩,⟨(some (40,true)),[aa 41 0,aB 42 159 [41]]⟩,⟨none,[bf 43 40 42,aa 2 43]⟩]) <|
  .ret,
  [.tmp 2],44⟩
theorem vE:bb Tryz.prog 108 []=some sY:=by kernel_rfl
def qo:SC :=
  .seq (ao [aF 16 .lss 15 14]) <|
  .seq (.cond (.tmp 16) (.skip) (.exit 0)) <|
  .seq (.block 1 (.seq (.region false [⟨none,[aI 17 3 13 15,aG 18 3 17,((some 5),.op (.alloc [(.val (.string ⟨#[]⟩)),(.val (.int .i64 0)),(.val (.int .i64 0))])),(none,.op (.store 3 (.tmp 5) (.tmp 18)))]⟩]) <|
  .region false [⟨none,[aa 19 3,al 20 0 5,ak 21 20,((some 22),.op (.ba 1 1 [(.val (.string ⟨#[]⟩))] [(0,(.tmp 21))])),((some 23),.op (.app 1 16 (.tmp 19) (.tmp 22))),aa 3 23]⟩])) <|
  ao [aq 24 .add 15 1,aa 15 24]
def qg:SC :=
  .seq (ao [aF 65 .lss 64 63]) <|
  .seq (.cond (.tmp 65) (.skip) (.exit 2)) <|
  .seq (.block 3 (.seq (ao [aI 66 3 62 64,aG 67 3 66,((some 8),.op (.alloc [(.val (.int .i64 0)),(.emp 1),(.val (.int .i64 0))])),(none,.op (.store 3 (.tmp 8) (.tmp 67)))]) <|
  .seq (.seq (.region false [⟨none,[al 68 0 8,ak 69 68,aa 70 6,bS 71 109 [(.tmp 69),(.val (.val (.int .i64 0))),(.tmp 70)],bB 72 71,aa 73 72]⟩,⟨(some (73,false)),[aG 74 4 1,aG 75 3 8,aB 76 114 [74,75],bB 77 76]⟩,⟨none,[aT 78 73 77]⟩]) <|
  .cond (.tmp 78) (.seq (ao [aM 2 false]) <|
  .ret) (.skip)) <|
  ao [aa 79 6,al 80 0 8,ak 81 80,aq 82 .add 81 1,((some 83),.op (.mm true (.tmp 79) (.tmp 82))),aa 6 83])) <|
  ao [aq 84 .add 64 1,aa 64 84]
def s7:SF:=⟨.seq (ao [bu 1 0,aM 2 false]) <|
  .seq (ao [al 9 1 1,ak 10 9,aB 11 107 [10],aa 3 11]) <|
  .seq (.seq (ao [al 12 0 1,ak 13 12,aH 14 13,ax 15 0]) <|
  .block 0 (.loop qo)) <|
  .seq (.seq (.region false [⟨none,[al 25 0 1,ak 26 25,aB 27 108 [26],bB 28 27,aa 29 28]⟩,⟨(some (29,false)),[al 30 1 1,ak 31 30,aH 32 31,bS 33 109 [(.tmp 32),(.val (.val (.int .i64 1))),(.val (.val (.int .i64 16)))],bB 34 33]⟩,⟨none,[aT 35 29 34,aa 36 35]⟩,⟨(some (36,false)),[al 37 2 1,ak 38 37,aH 39 38,bS 40 109 [(.tmp 39),(.val (.val (.int .i64 1))),(.val (.val (.int .i64 40)))],bB 41 40]⟩,⟨none,[aT 42 36 41,aa 43 42]⟩,⟨(some (43,false)),[aa 44 3,aB 45 110 [44],bB 46 45]⟩,⟨none,[aT 47 43 46,aa 48 47]⟩,⟨(some (48,false)),[al 49 3 1,ak 50 49,al 51 1 1,ak 52 51,aH 53 52,aq 54 .sub 53 1,bS 55 109 [(.tmp 50),(.val (.val (.int .i64 0))),(.tmp 54)],bB 56 55]⟩,⟨none,[aT 57 48 56]⟩]) <|
  .cond (.tmp 57) (.seq (ao [aM 2 false]) <|
  .ret) (.skip)) <|
  .seq (.seq (ao [al 58 1 1,ak 59 58,bS 60 111 [(.tmp 59),(.val (.fn 112 [] []))]]) <|
  .cond (.tmp 60) (.seq (ao [aM 2 false]) <|
  .ret) (.skip)) <|
  .seq (ao [ax 6 0]) <|
  .seq (.seq (ao [al 61 2 1,ak 62 61,aH 63 62,ax 64 0]) <|
  .block 2 (.loop qg)) <|
  .seq (ao [aa 85 6,al 86 1 1,ak 87 86,aH 88 87,aF 89 .eql 85 88,aa 2 89]) <|
  .ret,
  [.tmp 2],90⟩
theorem vP:bb Tryz.prog 64 [1]=some s7:=by kernel_rfl
def cm (l:List Term):V:=.aS (l.map bN)
theorem uE (l:List Term):∀ v∈[cm l],Tree v:=by intro v hv; simp at hv; subst hv; exact eC _ _ fun x _=>m5 x
def ij:List Term→List (Int × Int)→Int→Option (List (Int × Int) × Int)
  | [],a,top=>some (a,top)
  | t :: r,a,top=>if t.level=0 then ij r a top else
      if (cd a t.level).getD 0≠0∧(cd a t.level).getD 0≠t.assoc then none else ij r (fL t.level t.assoc a) (if t.level > top then t.level else top)
def l8 (l:List Term):Bool:=match ij l [] 0 with
  | some (a,top)=>(a.length:Int) == top
  | none=>false
set_option maxHeartbeats 1000000 in
theorem CF (l:List Term) (hl:bd l):aA Tryz.prog 159 [cm l] (gb (l8 l)):=by
  refine aA.val (uE l) fun H=>?_
  refine aD.of mixed u4 ?_
  unfold bd at hl
  simp (disch:=omega) only [↓wr,↓reduceIte,wq,ai,ah,an,ab,ae,ag,aj,isNil,Nat.reduceEqDiff,Nat.reduceAdd,Nat.reduceLT,Nat.reduceLeDiff,Int.reduceNeg,Int.reduceToNat,reduceCtorEq,qP,cm]
  intro q hq
  try simp (disch:=omega) only [↓wr,↓reduceIte,wq,ai,ah,an,ab,ae,ag,aj,isNil,Nat.reduceEqDiff,Nat.reduceAdd,Nat.reduceLT,Nat.reduceLeDiff,Int.reduceNeg,Int.reduceToNat,reduceCtorEq]
  refine bJ.up l.length (fun i T H=>(∃ a m c top,H q=.map (cO (Value.int .i64) m) c∧iN gi a m∧T 4=gi top∧ij (l.drop i) a top=ij l [] 0)∧T 0=cm l∧T 3=.mp q∧T 9=cm l∧T 10=gi l.length∧T 11=gi i) ?_ ?_
  · refine ⟨⟨[],[],0,0,?_,trivial,rfl,rfl⟩,rfl,rfl,rfl,rfl,rfl⟩
    simp[View.set,cO]
  rintro i k T H hk ⟨⟨a,m,c,top,hq,hm,h4,hi⟩,h0,h3,h9,h10,h11⟩
  simp (disch:=omega) only [↓wr,↓reduceIte,wq,ai,ah,an,ab,ae,ag,aj,isNil,Nat.reduceEqDiff,Nat.reduceAdd,Nat.reduceLT,Nat.reduceLeDiff,Int.reduceNeg,Int.reduceToNat,reduceCtorEq,ox,h0,h3,h4,h9,h10,h11,cm]
  refine ar.dec (fun hc=>?_) (fun hc=>?_)
  · have hg:l[i]?=some (l[i]'(by omega)):=List.getElem?_eq_getElem (by omega)
    rw[dS (show i < l.length by omega)] at hi
    generalize l[i]'(by omega)=t at hg hi
    simp only[ij] at hi
    simp (disch:=omega) only [↓wr,↓reduceIte,wq,ai,ah,an,ab,ae,ag,aj,isNil,Nat.reduceEqDiff,Nat.reduceAdd,Nat.reduceLT,Nat.reduceLeDiff,Int.reduceNeg,Int.reduceToNat,reduceCtorEq,h0,h3,h4,h9,h10,h11,cm,bN,List.getElem?_map,hg]
    intro b hb
    have hbq:b≠q:=by rintro rfl; rw[hq] at hb; simp at hb
    try simp (disch:=omega) only [↓wr,↓reduceIte,wq,ai,ah,an,ab,ae,ag,aj,isNil,Nat.reduceEqDiff,Nat.reduceAdd,Nat.reduceLT,Nat.reduceLeDiff,Int.reduceNeg,Int.reduceToNat,reduceCtorEq]
    refine ar.eq (fun hz=>?_) (fun hz=>?_)
    · rw[if_pos hz] at hi
      simp (disch:=omega) only [↓wr,↓reduceIte,wq,ai,ah,an,ab,ae,ag,aj,isNil,Nat.reduceEqDiff,Nat.reduceAdd,Nat.reduceLT,Nat.reduceLeDiff,Int.reduceNeg,Int.reduceToNat,reduceCtorEq,h0,h3,h4,h9,h10,h11]
      refine ca hk (by omega) ⟨⟨a,m,c,top,?_,hm,h4,hi⟩,h0,h3,h9,h10,rfl⟩
      simp[View.set,hbq.symm,hq]
    · rw[if_neg hz] at hi
      simp (disch:=omega) only [↓wr,↓reduceIte,wq,ai,ah,an,ab,ae,ag,aj,isNil,Nat.reduceEqDiff,Nat.reduceAdd,Nat.reduceLT,Nat.reduceLeDiff,Int.reduceNeg,Int.reduceToNat,reduceCtorEq,h0,h3,h4,h9,h10,h11]
      refine xU (kt:=3) (et:=3) (z:=gi 0) (by kernel_rfl) (by kernel_rfl) (k7 .i64 Tryz.underlying3) (id:=q) (c:=c) (m:=m) (k:=t.level) (by simp (disch:=omega) only [↓wr,↓reduceIte,wq,ai,ah,an,ab,ae,ag,aj,isNil,Nat.reduceEqDiff,Nat.reduceAdd,Nat.reduceLT,Nat.reduceLeDiff,Int.reduceNeg,Int.reduceToNat,reduceCtorEq,h3]) (by simp (disch:=omega) only [↓wr,↓reduceIte,wq,ai,ah,an,ab,ae,ag,aj,isNil,Nat.reduceEqDiff,Nat.reduceAdd,Nat.reduceLT,Nat.reduceLeDiff,Int.reduceNeg,Int.reduceToNat,reduceCtorEq,h3]) (by simp[View.set,hbq.symm,hq]) ?_
      have hgt:(getM m t.level).getD (gi 0)=gi ((cd a t.level).getD 0):=by
        rw[hm.get]; cases cd a t.level <;> rfl
      have hput:∀ (H2:View) (c':Nat) (T2:Env),(¬ ((cd a t.level).getD 0≠0∧(cd a t.level).getD 0≠t.assoc)) →
          H2 q=.map (cO (Value.int .i64) (eY t.level (gi t.assoc) c m)) c'→T2 0=cm l→T2 3=.mp q→T2 4=gi (if t.level > top then t.level else top)→T2 9=cm l→T2 10=gi l.length→T2 11=gi ((i:Int)+1) →
          ∃ k',k' < k∧A0 l.length k' (fun i T H=>(∃ a m c top,H q=.map (cO (Value.int .i64) m) c∧iN gi a m∧T 4=gi top∧ij (l.drop i) a top=ij l [] 0)∧T 0=cm l∧T 3=.mp q∧T 9=cm l∧T 10=gi l.length∧T 11=gi i) T2 H2:=by
        intro H2 c' T2 hn g1 g2 g3 g4 g5 g6 g7
        rw[if_neg hn] at hi
        exact ca hk (by omega) ⟨⟨_,_,c',_,g1,hm.put t.level t.assoc c,g4,hi⟩,g2,g3,g5,g6,by rw[g7]; rfl⟩
      repeat' (first | (refine ar.dec (fun _=>?_) (fun _=>?_)) | (refine ar.eq (fun _=>?_) (fun _=>?_)) | (refine ar.ne (fun _=>?_) (fun _=>?_)) | (refine ar.split (fun _=>?_) (fun _=>?_)) | (simp (disch:=omega) only [↓wr,↓reduceIte,wq,ai,ah,an,ab,ae,ag,aj,isNil,Nat.reduceEqDiff,Nat.reduceAdd,Nat.reduceLT,Nat.reduceLeDiff,Int.reduceNeg,Int.reduceToNat,reduceCtorEq,h0,h3,h4,h9,h10,h11,hgt]))
      · rename_i n1 n2
        rw[if_pos ⟨n1,n2⟩] at hi
        simp only[l8,← hi]
      · rename_i n1 n2
        refine zx (kt:=3) (et:=3) (by kernel_rfl) (k7 .i64 Tryz.underlying3) (id:=q) (c:=c) (m:=m) (k:=t.level) (v:=gi t.assoc) (by simp (disch:=omega) only [↓wr,↓reduceIte,wq,ai,ah,an,ab,ae,ag,aj,isNil,Nat.reduceEqDiff,Nat.reduceAdd,Nat.reduceLT,Nat.reduceLeDiff,Int.reduceNeg,Int.reduceToNat,reduceCtorEq,h3]) (by simp (disch:=omega) only [↓wr,↓reduceIte,wq,ai,ah,an,ab,ae,ag,aj,isNil,Nat.reduceEqDiff,Nat.reduceAdd,Nat.reduceLT,Nat.reduceLeDiff,Int.reduceNeg,Int.reduceToNat,reduceCtorEq,h3]) (by simp (disch:=omega) only [↓wr,↓reduceIte,wq,ai,ah,an,ab,ae,ag,aj,isNil,Nat.reduceEqDiff,Nat.reduceAdd,Nat.reduceLT,Nat.reduceLeDiff,Int.reduceNeg,Int.reduceToNat,reduceCtorEq,h3]) (by simp[View.set,hbq.symm,hq]) ?_
        intro c'
        simp (disch:=omega) only [↓wr,↓reduceIte,wq,ai,ah,an,ab,ae,ag,aj,isNil,Nat.reduceEqDiff,Nat.reduceAdd,Nat.reduceLT,Nat.reduceLeDiff,Int.reduceNeg,Int.reduceToNat,reduceCtorEq,h0,h3,h4,h9,h10,h11,hbq]
        exact hput _ c' _ (fun e=>e.2 n2) (by simp[View.set]) h0 h3 rfl h9 h10 rfl
      · rename_i n1
        refine zx (kt:=3) (et:=3) (by kernel_rfl) (k7 .i64 Tryz.underlying3) (id:=q) (c:=c) (m:=m) (k:=t.level) (v:=gi t.assoc) (by simp (disch:=omega) only [↓wr,↓reduceIte,wq,ai,ah,an,ab,ae,ag,aj,isNil,Nat.reduceEqDiff,Nat.reduceAdd,Nat.reduceLT,Nat.reduceLeDiff,Int.reduceNeg,Int.reduceToNat,reduceCtorEq,h3]) (by simp (disch:=omega) only [↓wr,↓reduceIte,wq,ai,ah,an,ab,ae,ag,aj,isNil,Nat.reduceEqDiff,Nat.reduceAdd,Nat.reduceLT,Nat.reduceLeDiff,Int.reduceNeg,Int.reduceToNat,reduceCtorEq,h3]) (by simp (disch:=omega) only [↓wr,↓reduceIte,wq,ai,ah,an,ab,ae,ag,aj,isNil,Nat.reduceEqDiff,Nat.reduceAdd,Nat.reduceLT,Nat.reduceLeDiff,Int.reduceNeg,Int.reduceToNat,reduceCtorEq,h3]) (by simp[View.set,hbq.symm,hq]) ?_
        intro c'
        simp (disch:=omega) only [↓wr,↓reduceIte,wq,ai,ah,an,ab,ae,ag,aj,isNil,Nat.reduceEqDiff,Nat.reduceAdd,Nat.reduceLT,Nat.reduceLeDiff,Int.reduceNeg,Int.reduceToNat,reduceCtorEq,h0,h3,h4,h9,h10,h11,hbq]
        exact hput _ c' _ (fun e=>e.1 n1) (by simp[View.set]) h0 h3 rfl h9 h10 rfl
  · rw[List.drop_eq_nil_of_le (by omega)] at hi
    simp only[ij] at hi
    simp (disch:=omega) only [↓wr,↓reduceIte,wq,ai,ah,an,ab,ae,ag,aj,isNil,Nat.reduceEqDiff,Nat.reduceAdd,Nat.reduceLT,Nat.reduceLeDiff,Int.reduceNeg,Int.reduceToNat,reduceCtorEq,h0,h3,h4,h9,h10,h11]
    refine GQ (kt:=3) (et:=3) (by kernel_rfl) (id:=q) (c:=c) (m:=m) (by simp (disch:=omega) only [↓wr,↓reduceIte,wq,ai,ah,an,ab,ae,ag,aj,isNil,Nat.reduceEqDiff,Nat.reduceAdd,Nat.reduceLT,Nat.reduceLeDiff,Int.reduceNeg,Int.reduceToNat,reduceCtorEq,h3]) hq ?_
    simp (disch:=omega) only [↓wr,↓reduceIte,wq,ai,ah,an,ab,ae,ag,aj,isNil,Nat.reduceEqDiff,Nat.reduceAdd,Nat.reduceLT,Nat.reduceLeDiff,Int.reduceNeg,Int.reduceToNat,reduceCtorEq,h0,h3,h4,h9,h10,h11,hm.len]
    simp only[l8,← hi]
def gQ (t:Term):Bool:=kS (cW t.name) && decide (0≤t.level) && decide (t.level≤24) && decide (0≤t.assoc) && decide (t.assoc≤3) && ((t.level == 0) == (t.assoc == 0))
def mJ (l:List Term):Bool:=l.all gQ && decide (l.length≤24) && l8 l
set_option maxHeartbeats 1000000 in
theorem Ek (l:List Term) (hl:bd l):aA Tryz.prog 108 [cm l] (gb (mJ l)):=by
  refine aA.val (uE l) fun H=>?_
  refine aD.of mixed vE ?_
  have hl2:=hl
  unfold bd at hl
  simp (disch:=omega) only [↓wr,↓reduceIte,wq,ai,ah,an,ab,ae,ag,aj,isNil,Nat.reduceEqDiff,Nat.reduceAdd,Nat.reduceLT,Nat.reduceLeDiff,Int.reduceNeg,Int.reduceToNat,reduceCtorEq,sY,cm]
  refine bJ.up l.length (fun i T H=>(l.drop i).all gQ=l.all gQ∧T 0=cm l∧T 5=cm l∧T 6=gi l.length∧T 7=gi i) ?_ ?_
  · exact ⟨rfl,rfl,rfl,rfl,rfl⟩
  rintro i k T H hk ⟨hi,h0,h5,h6,h7⟩
  simp (disch:=omega) only [↓wr,↓reduceIte,wq,ai,ah,an,ab,ae,ag,aj,isNil,Nat.reduceEqDiff,Nat.reduceAdd,Nat.reduceLT,Nat.reduceLeDiff,Int.reduceNeg,Int.reduceToNat,reduceCtorEq,qz,h0,h5,h6,h7,cm]
  refine ar.dec (fun hc=>?_) (fun hc=>?_)
  · have hg:l[i]?=some (l[i]'(by omega)):=List.getElem?_eq_getElem (by omega)
    rw[dS (show i < l.length by omega)] at hi
    generalize l[i]'(by omega)=t at hg hi
    rw[List.all_cons] at hi
    have hbad:gQ t=false→gb false=gb (mJ l):=fun e=>by rw[e,Bool.false_and] at hi; simp[mJ,← hi]
    simp (disch:=omega) only [↓wr,↓reduceIte,wq,ai,ah,an,ab,ae,ag,aj,isNil,Nat.reduceEqDiff,Nat.reduceAdd,Nat.reduceLT,Nat.reduceLeDiff,Int.reduceNeg,Int.reduceToNat,reduceCtorEq,h0,h5,h6,h7,cm,bN,List.getElem?_map,hg]
    intro b hb
    repeat' (first | (refine ar.dec (fun _=>?_) (fun _=>?_)) | (refine ar.eq (fun _=>?_) (fun _=>?_)) | (refine ar.ne (fun _=>?_) (fun _=>?_)) | (refine ar.split (fun _=>?_) (fun _=>?_)) | (refine aJ.pure (Et t.name) (by kernel_rfl) ?_) | (refine aJ.pure (lX _ _ _) (by kernel_rfl) ?_) | (simp (disch:=omega) only [↓wr,↓reduceIte,wq,ai,ah,an,ab,ae,ag,aj,isNil,Nat.reduceEqDiff,Nat.reduceAdd,Nat.reduceLT,Nat.reduceLeDiff,Int.reduceNeg,Int.reduceToNat,reduceCtorEq,h0,h5,h6,h7,cm]))
    all_goals first
      | (refine hbad ?_; simp[gQ, *]; done)
      | (refine hbad ?_; simp_all [gQ]; done)
      | skip
    rename_i e1 e2 e3 e4
    refine ca hk (by omega) ⟨?_,h0,h5,h6,rfl⟩
    have:gQ t=true:=by
      simp only[Bool.and_eq_true,decide_eq_true_eq] at e2 e3
      have e4':((t.level == 0) == (t.assoc == 0))=true:=by simpa [bne] using e4
      simp[gQ,e1,e2.1,e2.2,e3.1,e3.2,e4']
    rw[this,Bool.true_and] at hi
    exact hi
  · rw[List.drop_eq_nil_of_le (by omega),List.all_nil] at hi
    simp (disch:=omega) only [↓wr,↓reduceIte,wq,ai,ah,an,ab,ae,ag,aj,isNil,Nat.reduceEqDiff,Nat.reduceAdd,Nat.reduceLT,Nat.reduceLeDiff,Int.reduceNeg,Int.reduceToNat,reduceCtorEq,h0,h5,h6,h7,cm]
    repeat' (first | (refine ar.dec (fun _=>?_) (fun _=>?_)) | (refine ar.eq (fun _=>?_) (fun _=>?_)) | (refine ar.ne (fun _=>?_) (fun _=>?_)) | (refine ar.split (fun _=>?_) (fun _=>?_)) | (refine aJ.pure (CF l hl2) (by kernel_rfl) ?_) | (simp (disch:=omega) only [↓wr,↓reduceIte,wq,ai,ah,an,ab,ae,ag,aj,isNil,Nat.reduceEqDiff,Nat.reduceAdd,Nat.reduceLT,Nat.reduceLeDiff,Int.reduceNeg,Int.reduceToNat,reduceCtorEq,h0,h5,h6,h7,cm]))
    · rename_i h
      simp[mJ,← hi,show l.length≤24 by omega]
    · rename_i h
      simp[mJ,← hi,show ¬ l.length≤24 by omega]
open Go Go.Proofs Go.Shelf Go.RowKit Go.Sort
attribute [local go_sem] Oper.semAt_some
def fD:Ren where
  f:=fun
    | 6=>160
    | 8=>213
    | 9=>214
    | 11=>252
    | 13=>184
    | 12=>253
    | 23=>233
    | 24=>234
    | 14=>263
    | 15=>264
    | 16=>265
    | 17=>266
    | 18=>267
    | 19=>268
    | 20=>269
    | 21=>270
    | 22=>271
    | 25=>273
    | 26=>255
    | 27=>256
    | 28=>274
    | 29=>275
    | 30=>276
    | 31=>277
    | n=>n
  t:=fun
    | 26=>9
    | 28=>229
    | 24=>23
    | 0=>0
    | 3=>3
    | 37=>224
    | 48=>149
    | 50=>272
    | 4=>4
    | 40=>281
    | 39=>280
    | 45=>52
    | 5=>5
    | 9=>9
    | 51=>303
    | 55=>307
    | 57=>316
    | 58=>317
    | 33=>174
    | n=>n
  g:=fun n=>n
theorem Gf:Go.Proofs.SlLaysZ.n6 Tryz.prog fD where
  mixed:=by kernel_rfl
  f6:=⟨Tryz.f160.name,by kernel_rfl,by kernel_rfl⟩
  f8:=⟨Tryz.f213.name,by kernel_rfl,by kernel_rfl⟩
  f11:=⟨Tryz.f252.name,by kernel_rfl,by kernel_rfl⟩
  t0:=Tryz.underlying0
  a0:=Tryz.isAgg0
  z0:=Tryz.sizeOf0
  v0:=Tryz.zeroValue0
  t24:=Tryz.underlying23
  a24:=Tryz.isAgg23
  z24:=Tryz.sizeOf23
  v24:=Tryz.zeroValue23
  t26:=Tryz.underlying9
  a26:=Tryz.isAgg9
  z26:=Tryz.sizeOf9
  v26:=Tryz.zeroValue9
  t28:=Tryz.underlying229
  a28:=Tryz.isAgg229
  z28:=Tryz.sizeOf229
  v28:=Tryz.zeroValue229
  i26:=by kernel_rfl
def Eb:Ren where
  f:=fun
    | 6=>214
    | 8=>184
    | 9=>253
    | 19=>233
    | 20=>234
    | 21=>263
    | 22=>264
    | 23=>265
    | 24=>266
    | 25=>267
    | 26=>268
    | 27=>269
    | 28=>270
    | 29=>271
    | 36=>273
    | 31=>255
    | 32=>256
    | 37=>274
    | 38=>275
    | 39=>276
    | 41=>277
    | n=>n
  t:=fun
    | 27=>23
    | 29=>9
    | 3=>3
    | 32=>224
    | 26=>23
    | 0=>0
    | 44=>149
    | 46=>272
    | 4=>4
    | 36=>281
    | 35=>280
    | 41=>52
    | 5=>5
    | 9=>9
    | 53=>303
    | 57=>307
    | 63=>316
    | 64=>317
    | n=>n
  g:=fun n=>n
theorem F4:Go.Proofs.SlLaysM.n6 Tryz.prog Eb where
  mixed:=by kernel_rfl
  f6:=⟨Tryz.f214.name,by kernel_rfl,by kernel_rfl⟩
  f8:=by kernel_rfl
  f9:=⟨Tryz.f253.name,by kernel_rfl,by kernel_rfl⟩
  f19:=by kernel_rfl
  f20:=by kernel_rfl
  f21:=⟨Tryz.f263.name,by kernel_rfl,by kernel_rfl⟩
  f22:=⟨Tryz.f264.name,by kernel_rfl,by kernel_rfl⟩
  f23:=⟨Tryz.f265.name,by kernel_rfl,by kernel_rfl⟩
  f24:=⟨Tryz.f266.name,by kernel_rfl,by kernel_rfl⟩
  f25:=⟨Tryz.f267.name,by kernel_rfl,by kernel_rfl⟩
  f26:=⟨Tryz.f268.name,by kernel_rfl,by kernel_rfl⟩
  f27:=⟨Tryz.f269.name,by kernel_rfl,by kernel_rfl⟩
  f28:=⟨Tryz.f270.name,by kernel_rfl,by kernel_rfl⟩
  f29:=⟨Tryz.f271.name,by kernel_rfl,by kernel_rfl⟩
  f31:=by kernel_rfl
  f32:=by kernel_rfl
  f36:=⟨Tryz.f273.name,by kernel_rfl,by kernel_rfl⟩
  f37:=⟨Tryz.f274.name,by kernel_rfl,by kernel_rfl⟩
  f38:=⟨Tryz.f275.name,by kernel_rfl,by kernel_rfl⟩
  f39:=⟨Tryz.f276.name,by kernel_rfl,by kernel_rfl⟩
  f41:=⟨Tryz.f277.name,by kernel_rfl,by kernel_rfl⟩
  t0:=Tryz.underlying0
  a0:=Tryz.isAgg0
  z0:=Tryz.sizeOf0
  v0:=Tryz.zeroValue0
  t3:=Tryz.underlying3
  a3:=Tryz.isAgg3
  z3:=Tryz.sizeOf3
  v3:=Tryz.zeroValue3
  t4:=Tryz.underlying4
  a4:=Tryz.isAgg4
  z4:=Tryz.sizeOf4
  v4:=Tryz.zeroValue4
  t5:=Tryz.underlying5
  a5:=Tryz.isAgg5
  z5:=Tryz.sizeOf5
  v5:=Tryz.zeroValue5
  t9:=Tryz.underlying9
  a9:=Tryz.isAgg9
  z9:=Tryz.sizeOf9
  v9:=Tryz.zeroValue9
  t26:=Tryz.underlying23
  a26:=Tryz.isAgg23
  z26:=Tryz.sizeOf23
  v26:=Tryz.zeroValue23
  t27:=Tryz.underlying23
  a27:=Tryz.isAgg23
  z27:=Tryz.sizeOf23
  v27:=Tryz.zeroValue23
  t29:=Tryz.underlying9
  a29:=Tryz.isAgg9
  z29:=Tryz.sizeOf9
  v29:=Tryz.zeroValue9
  t32:=Tryz.underlying224
  a32:=Tryz.isAgg224
  z32:=Tryz.sizeOf224
  v32:=Tryz.zeroValue224
  t35:=Tryz.underlying280
  a35:=Tryz.isAgg280
  z35:=Tryz.sizeOf280
  v35:=Tryz.zeroValue280
  t36:=Tryz.underlying281
  a36:=Tryz.isAgg281
  z36:=Tryz.sizeOf281
  v36:=Tryz.zeroValue281
  t41:=Tryz.underlying52
  a41:=Tryz.isAgg52
  z41:=Tryz.sizeOf52
  v41:=Tryz.zeroValue52
  t44:=Tryz.underlying149
  a44:=Tryz.isAgg149
  z44:=Tryz.sizeOf149
  v44:=Tryz.zeroValue149
  t46:=Tryz.underlying272
  a46:=Tryz.isAgg272
  z46:=Tryz.sizeOf272
  v46:=Tryz.zeroValue272
  t53:=Tryz.underlying303
  a53:=Tryz.isAgg303
  z53:=Tryz.sizeOf303
  v53:=Tryz.zeroValue303
  t57:=Tryz.underlying307
  a57:=Tryz.isAgg307
  z57:=Tryz.sizeOf307
  v57:=Tryz.zeroValue307
  t63:=Tryz.underlying316
  a63:=Tryz.isAgg316
  z63:=Tryz.sizeOf316
  v63:=Tryz.zeroValue316
  t64:=Tryz.underlying317
  a64:=Tryz.isAgg317
  z64:=Tryz.sizeOf317
  v64:=Tryz.zeroValue317
def D1:Ren where
  f:=fun
    | 44=>162
    | n=>n
  t:=fun
    | 25=>23
    | 26=>9
    | 3=>3
    | 4=>4
    | 0=>0
    | n=>n
  g:=fun n=>n
theorem FZ:Go.Proofs.SlLaysN.n44 Tryz.prog D1 where
  mixed:=by kernel_rfl
  f44:=⟨Tryz.f162.name,by kernel_rfl,by kernel_rfl⟩
  t0:=Tryz.underlying0
  a0:=Tryz.isAgg0
  z0:=Tryz.sizeOf0
  v0:=Tryz.zeroValue0
  t3:=Tryz.underlying3
  a3:=Tryz.isAgg3
  z3:=Tryz.sizeOf3
  v3:=Tryz.zeroValue3
  t4:=Tryz.underlying4
  a4:=Tryz.isAgg4
  z4:=Tryz.sizeOf4
  v4:=Tryz.zeroValue4
  t25:=Tryz.underlying23
  a25:=Tryz.isAgg23
  z25:=Tryz.sizeOf23
  v25:=Tryz.zeroValue23
  t26:=Tryz.underlying9
  a26:=Tryz.isAgg9
  z26:=Tryz.sizeOf9
  v26:=Tryz.zeroValue9
  i26:=by kernel_rfl
def uV (n:Nat) (P:Program) (g:Nat) (lb:Array Value) (S:List (List UInt8)→Prop) (N:Nat) (w:World):Prop :=
  ∀ (l:Nat) (J:List (List UInt8)→World→Prop) (W:World),(∀ pre W',J pre W'→Below w.heap.size w W') →
    (∀ pre x W1,J pre W1→pre.length < N→YieldAt Fence.wide (n - 1) P l #[encStr x] W1 fun e W'=>e=.returned (.bool true)∧J (pre ++ [x]) W'∧KeepsWalks W1 W') →
    J [] W→CallsIn Fence.wide n P g (#[.func (.yield l) #[] #[]] ++ lb) W fun e W'=>(∃ v,e=.returned v)∧∃ xs,S xs∧J xs W'
theorem Dm {zs:List (List UInt8)} {k:Nat} (h:k < zs.length):zs.take k ++ [zs.getD k []]=zs.take (k+1):=by
  rw[List.take_add_one]; simp[List.getD_eq_getElem?_getD,h]
set_option maxHeartbeats 2000000 in
theorem BO (n:Nat) (hn:1≤n) (Bs b off cap:Nat) (zs:List (List UInt8)) (hreach:zs.length * 16≤140737488351232) (w:World)
    (hBs:w.cell? ⟨Bs,0,none⟩=some (.slice (some ⟨b,off,none⟩) zs.length cap)) (hBl:Bs < w.heap.size) (hbl:b < w.heap.size)
    (hc:∀ j,j < zs.length→w.cell? ⟨b,off+j,none⟩=some (encStr (zs.getD j []))) :
    uV n Tryz.prog 215 #[.pointer (some ⟨Bs,0,none⟩)] (fun xs=>xs=zs) zs.length w:=by
  intro l J W hJ hY h0
  have hbw:=hJ _ _ h0
  have hBs':=(hbw.cell (p:=⟨Bs,0,none⟩) hBl).trans hBs
  have hf:Fence.wide.fn 215:=trivial
  refine callsIn_of_wp Tryz.func215 rfl hf ?_ rfl
  simp only[Tryz.ntmps215,List.size_toArray,List.length_cons,List.length_nil,Nat.reduceAdd,Nat.reduceSub,Array.replicate_succ,Array.replicate_zero,List.push_toArray,List.append_toArray,List.nil_append,List.cons_append]
  gi_wp2
  gi_loopw [7] (fun i wr=>∃ k:Nat,k≤zs.length∧i=.int .i64 k∧J (zs.take k) wr) (fun i _=>zs.length - (RowKit.intOf i).toNat)
  case atStart=>exact ⟨0,Nat.zero_le _,rfl,by simpa using h0⟩
  case round =>
    obtain ⟨k,hk,rfl,hJs⟩:=hrel
    have hnx:=hJ _ _ hJs
    have hcx:k < zs.length→wr.cell? ⟨b,off+k,none⟩=some (encStr (zs.getD k [])):=fun h=>(hnx.cell (p:=⟨b,off+k,none⟩) hbl).trans (hc k h)
    by_cases hlt:k < zs.length
    · obtain ⟨x,hx1,hcx'⟩:∃ x,zs.take k ++ [x]=zs.take (k+1)∧wr.cell? ⟨b,off+k,none⟩=some (encStr x):=⟨_,Dm hlt,hcx hlt⟩
      obtain ⟨fn,tmps,assign,body,hy,hR⟩:=hY _ x wr hJs (by simp; omega)
      clear hcx hJs
      gi_wp2
      refine hR.mono ?_
      rintro e W3 ⟨rfl,hJ3,hk3⟩
      gi_wp2
      go_roundw
      case rel=>exact ⟨k+1,by omega,by simp,by rw[← hx1]; exact hJ3⟩
      case measure=>simp[RowKit.intOf]; omega
    · obtain rfl:k=zs.length:=by omega
      clear hcx
      gi_wp2
      go_end0
      exact ⟨⟨_,rfl⟩,_,rfl,by simpa using hJs⟩
set_option maxHeartbeats 2000000 in
theorem y6 (n:Nat) (hn:2≤n) (g:Nat) (lb:Array Value) (eg:∀ args w,(callFunc g args).run Tryz.prog w=.ok (.enter g args) w)
    (S:List (List UInt8)→Prop) (N:Nat) (hN:N≤maxLen) (hNb:N * 16≤140737488355328) (w:World) (hseq:uV (n - 1) Tryz.prog g lb S N w) :
    CallsIn Fence.wide n Tryz.prog 252 #[.slice none 0 0,.func (.func g) #[] lb] w fun e w'=>∃ (v:Value) (ss:List (List UInt8)),e=.returned v∧S ss∧w'.ownsRow w.heap.size 9 1 v ss.length (ss.map encStr)∧Below w.heap.size w w':=by
  have h11:Fence.wide.fn 252:=trivial
  refine callsIn_of_wp_marks Tryz.func252 rfl h11 ?_ rfl
  simp only[Tryz.ntmps252,List.size_toArray,List.length_cons,List.length_nil,Nat.reduceAdd,Nat.reduceSub,Array.replicate_succ,Array.replicate_zero,List.push_toArray,List.append_toArray,List.nil_append,List.cons_append]
  gi_wp2
  refine wpIn_rangeFunc ?_
  intro fn hfn
  let sv:Value:=.func (.func g) #[] lb
  have hz:(w.alloc (.cells #[.slice none 0 0] 23)).heap.size=w.heap.size+1:=by simp
  have hv0:=World.alloc_heap_new w (.cells #[.slice none 0 0] 23)
  have hb0:Below w.heap.size w (w.alloc (.cells #[.slice none 0 0] 23)):=(Below.refl _ w).alloc (Nat.le_refl _) _
  revert hz hv0 hb0
  generalize w.alloc (.cells #[.slice none 0 0] 23)=W0
  intro hz hv0 hb0
  obtain ⟨W1,hW1⟩:∃ W1,(W0.alloc (.deferred (some []))).alloc (.loop (AnyZ.apRec fD fn sv w.heap.size W0.heap.size .ready none))=W1:=⟨_,rfl⟩
  have hold:∀ k,k < W0.heap.size→W1.heap[k]?=W0.heap[k]?:=fun k hk=>by
    rw[← hW1]; exact (Below.heap_alloc _ _ k (by simp; omega)).trans (Below.heap_alloc _ _ k hk)
  have hb1:Below w.heap.size w W1:=by rw[← hW1]; exact (hb0.alloc (by omega) _).alloc (by simp; omega) _
  have hM:AnyZ.ApAt fD w fn sv w.heap.size (W0.heap.size+1) W0.heap.size [] W1:=by
    refine ⟨⟨_,(hold w.heap.size (by omega)).trans hv0,⟨rfl,.inl ⟨rfl,rfl⟩⟩,by simp⟩,?_,?_,hb1⟩
    · rw[← hW1]
      have h:=World.alloc_heap_new (W0.alloc (.deferred (some []))) (.loop (AnyZ.apRec fD fn sv w.heap.size W0.heap.size .ready none))
      rwa [World.size_alloc] at h
    · rw[← hW1]; exact (Below.heap_alloc _ _ _ (by simp)).trans (World.alloc_heap_new W0 _)
  refine ⟨W0.heap.size+1,[{ target:=.collected W0.heap.size,args:=#[] }],W1,{ target:=.fn (.func g) lb,args:=#[.func (.yield (W0.heap.size+1)) #[] #[]] },W1,g,
    #[.func (.yield (W0.heap.size+1)) #[] #[]] ++ lb,W1,by rw[← hW1]; exact run_enterLoop_outer _ _ _ _ _,?_,?_,?_,fun _=>by omega,?_⟩
  · simp[resolve,go_sem]
  · intro f' hf'; trivial
  · simp[invoke,go_sem,eg]
  · refine (hseq (W0.heap.size+1) (AnyZ.ApAt fD w fn sv w.heap.size (W0.heap.size+1) W0.heap.size) W1 (fun _ _ h=>h.below)
      (fun pre x W hJ hl=>AnyZ.apYield { Gf with } Fence.wide (n - 1 - 1) w fn hfn _ w.heap.size (W0.heap.size+1) W0.heap.size (by omega) (by omega) (by omega) (Nat.le_refl _) (by omega) N hN hNb pre x W hJ hl) hM).mono ?_
    rintro e W2 ⟨⟨v0,rfl⟩,ss,hS,h2⟩
    obtain ⟨v,hv,hrow,_⟩:=h2.box
    have hend:=run_endLoop (P:=Tryz.prog) h2.L (by simp[AnyZ.apRec])
    have hne:∀ (cur:Array Value),Obj.cells #[v] 23 (0,0)≠.cells cur 9 (0,0):=fun cur e=>by cases e
    obtain ⟨W3,hW3⟩:∃ W3,W2.putObj (W0.heap.size+1) (.loop { AnyZ.apRec fD fn sv w.heap.size W0.heap.size .ready none with state:=.exhausted })=W3:=⟨_,rfl⟩
    have hg3:W2.grownBy W3 (some (W0.heap.size+1)):=by rw[← hW3]; exact grownBy_putObj_a _ _ _
    have hv3:W3.heap[w.heap.size]?=some (.cells #[v] 23 (0,0)):=by rw[← hW3]; exact (World.putObj_heap_other (by omega)).trans hv
    have hK3:W3.heap[W0.heap.size]?=some (.deferred (some [])):=by rw[← hW3]; exact (World.putObj_heap_other (by omega)).trans h2.K
    have hrow3:=hrow.kept hg3 (ownsRow_ne_a hrow h2.L (fun cur e=>by cases e))
    have hb3:Below w.heap.size w W3:=h2.below.grown hg3 h2.below.size (fun k e=>by cases e; omega)
    obtain ⟨hc3,hf3⟩:=cell_of_box_a hv3
    refine ⟨none,W3,by rw[← hW3]; exact hend,?_⟩
    clear hW3 hW1 hold hM hend hseq
    gi_wp2
    rw[← hz]
    refine ⟨by simp,.inl ⟨_,_,rfl,run_takeDeferred hK3,?_⟩⟩
    exact ⟨_,results_tmp rfl _ _ _,v,ss,rfl,hS,hrow3.kept (grownBy_putObj_a _ _ _) (ownsRow_ne_a hrow3 hK3 (fun cur e=>by cases e)),hb3.grown (grownBy_putObj_a _ _ _) hb3.size (fun k e=>by cases e; omega)⟩
set_option maxHeartbeats 2000000 in
theorem EF (n:Nat) (hn:4≤n) (g:Nat) (lb:Array Value) (eg:∀ args w,(callFunc g args).run Tryz.prog w=.ok (.enter g args) w)
    (S:List (List UInt8)→Prop) (N:Nat) (hN:N≤maxLen) (hNb:N * 16≤140737488355328) (w:World) (hseq:uV (n - 1 - 1 - 1) Tryz.prog g lb S N w) (hS:∀ xs,S xs→xs.length < 4611686018427387904) :
    CallsIn Fence.wide n Tryz.prog 160 #[.func (.func g) #[] lb] w fun e w'=>∃ (v:Value) (ss:List (List UInt8)),e=.returned v∧S ss ∧
      w'.ownsRow w.heap.size 9 1 v ss.length ((ss.mergeSort (fun x y=>decide (x≤y))).map encStr)∧Below w.heap.size w w':=by
  have h6:Fence.wide.fn 160:=trivial
  have h8:Fence.wide.fn 213:=trivial
  have h9:Fence.wide.fn 214:=trivial
  have h11:Fence.wide.fn 252:=trivial
  have h1:1≤n - 1:=by omega
  have h1':1≤n:=by omega
  have hcol:CallsIn Fence.wide (n - 1) Tryz.prog 213 #[.func (.func g) #[] lb] w fun e w'=>∃ (v:Value) (ss:List (List UInt8)),e=.returned v∧S ss∧w'.ownsRow w.heap.size 9 1 v ss.length (ss.map encStr)∧Below w.heap.size w w':=by
    have happ:=y6 (n - 1 - 1) (by omega) g lb eg S N hN hNb w hseq
    refine callsIn_of_wp Tryz.func213 rfl h8 ?_ rfl
    simp only[Tryz.ntmps213,List.size_toArray,List.length_cons,List.length_nil,Nat.reduceAdd,Nat.reduceSub,Array.replicate_succ,Array.replicate_zero,List.push_toArray,List.append_toArray,List.nil_append,List.cons_append]
    gi_wp2_with (gi_at_call 252; refine happ.mono ?_; rintro e w' ⟨v,ss,rfl,hS,hrow,hb⟩)
    go_ret
    exact ⟨v,ss,rfl,hS,hrow,hb⟩
  refine callsIn_of_wp Tryz.func160 rfl h6 ?_ rfl
  simp only[Tryz.ntmps160,List.size_toArray,List.length_cons,List.length_nil,Nat.reduceAdd,Nat.reduceSub,Array.replicate_succ,Array.replicate_zero,List.push_toArray,List.append_toArray,List.nil_append,List.cons_append]
  gi_wp2_with (gi_at_call 213; refine hcol.mono ?_; rintro e W ⟨v,ss,rfl,hSs,hrow,hb⟩)
  have hlen:=hS ss hSs
  rcases hrow.2 with ⟨rfl,hz⟩ | ⟨gb,cap,cur,rfl,hbase,hgb,r1,r2,r3,r4⟩
  · have hss:ss=[]:=List.eq_nil_of_length_eq_zero hz
    subst hss
    have cN:CallsIn Fence.wide (n - 1) Tryz.prog 214 #[.slice none 0 0] W fun e w'=>e=.returned (.tuple #[])∧w'=W:=callsIn_wide.2 (AnyM.slices_Sort_string_none F4 none 0 W)
    gi_wp2_with (gi_at_call 214; refine cN.mono ?_; rintro e w' ⟨rfl,rfl⟩)
    go_ret
    exact ⟨.slice none 0 0,[],rfl,hSs,by simpa using hrow,hb⟩
  · have hH:Holds encStr W gb 0 ss.toArray:=holds_of_block hgb (by simpa using r4)
    have hgl:gb < W.heap.size:=(Array.getElem?_eq_some_iff.1 hgb).1
    have cS:CallsIn Fence.wide (n - 1) Tryz.prog 214 #[.slice (some ⟨gb,0,none⟩) ss.length cap] W fun e w'=>e=.returned (.tuple #[])∧∃ k os,w'=grow (putRow encStr (Sort.ahead W k) gb 0 (ss.mergeSort fun x y=>decide (x≤y)).toArray) os :=
      callsIn_wide.2 (AnyM.slices_Sort_string F4 gb 0 cap ss W hH hgl hlen)
    gi_wp2_with (gi_at_call 214; refine cS.mono ?_; rintro e w' ⟨rfl,nn,os,rfl⟩)
    go_ret
    exact ⟨_,ss,rfl,hSs,ownsRow_sorted (by simp) hbase hgb r1 r2 r3,hb.grown (grownBy_sorted _) hb.size (fun j hj=>by cases hj; exact hbase)⟩
open Go Go.Proofs Go.Shelf Go.RowKit Go.Sort
theorem An {l:List (List UInt8)} (hs:l.Pairwise (fun a b=>decide (a≤b)=true)) (h:∀ j,j+1 < l.length→l.getD (j+1) []≠l.getD j []):l.Nodup:=by
  induction l with
  | nil=>exact List.nodup_nil
  | cons x r ih =>
    rw[List.pairwise_cons] at hs
    refine List.nodup_cons.2 ⟨fun hx=>?_,ih hs.2 fun j hj=>by simpa using h (j+1) (by simpa using hj)⟩
    cases r with
    | nil=>simp at hx
    | cons y r =>
      have h0:=h 0 (by simp)
      simp only[List.getD_cons_succ,List.getD_cons_zero,Nat.zero_add] at h0
      rcases List.mem_cons.1 hx with e | hm
      · exact h0 e.symm
      · have h1:x≤y:=by simpa using hs.1 y (by simp)
        have h2:y≤x:=by simpa using (List.pairwise_cons.1 hs.2).1 x hm
        exact h0 (List.le_antisymm h2 h1)
theorem D3 (l:List (List UInt8)):(Lib.compact l).length=l.length↔∀ j,j+1 < l.length→l.getD (j+1) []≠l.getD j []:=by
  have hl:(Lib.compact l).length=((List.range l.length).filter (Lib.keeps l.toArray)).length:=by simp[Lib.compact,Lib.compactUpTo]
  rw[hl]
  have hr:(List.range l.length).length=l.length:=by simp
  conv=>lhs; rhs; rw[← hr]
  rw[List.length_filter_eq_length_iff]
  have hg:∀ j,j < l.length→l.toArray[j]! = l.getD j []:=fun j hj=>by simp[List.getD_eq_getElem?_getD,hj]
  constructor
  · intro h j hj
    have:=h (j+1) (by simpa using hj)
    simp only[Lib.keeps,decide_eq_true_eq,Nat.add_sub_cancel] at this
    rcases this with e | e
    · omega
    · rw[hg _ hj,hg _ (by omega)] at e; exact e
  · intro h j hj
    simp only[List.mem_range] at hj
    simp only[Lib.keeps,decide_eq_true_eq]
    by_cases e:j=0
    · exact .inl e
    · right
      obtain ⟨k,rfl⟩:∃ k,j=k+1:=⟨j - 1,by omega⟩
      rw[hg _ hj,Nat.add_sub_cancel,hg _ (by omega)]
      exact h k hj
theorem vR (zs:List (List UInt8)):(Lib.compact (zs.mergeSort fun x y=>decide (x≤y))).length=zs.length↔zs.Nodup:=by
  have hp:=List.mergeSort_perm zs (fun x y=>decide (x≤y))
  have hs:=List.pairwise_mergeSort (le:=fun x y:List UInt8=>decide (x≤y)) (fun a b c h k=>by simp at h k ⊢; exact List.le_trans h k) (fun a b=>by simpa using List.le_total a b) zs
  rw[← hp.nodup_iff,← hp.length_eq,D3]
  constructor
  · exact An hs
  · intro hn j hj e
    have h1:(zs.mergeSort fun x y=>decide (x≤y))[j+1]'hj=(zs.mergeSort fun x y=>decide (x≤y))[j]'(by omega):=by
      simp only[List.getD_eq_getElem?_getD,List.getElem?_eq_getElem hj,List.getElem?_eq_getElem (show j < (zs.mergeSort fun x y=>decide (x≤y)).length by omega),Option.getD_some] at e
      exact e
    have:=(List.getElem_inj hn).1 h1
    omega
theorem EK (w:World):grow w #[]=w:=by simp[grow]
set_option maxHeartbeats 2000000 in
theorem z6 (n:Nat) (hn:1≤n) (Bs cap:Nat) (a:Option Addr) (w:World) (hBs:w.cell? ⟨Bs,0,none⟩=some (.slice a 0 cap)) (hBl:Bs < w.heap.size) :
    uV n Tryz.prog 215 #[.pointer (some ⟨Bs,0,none⟩)] (fun xs=>xs=[]) 0 w:=by
  intro l J W hJ hY h0
  have hbw:=hJ _ _ h0
  have hBs':=(hbw.cell (p:=⟨Bs,0,none⟩) hBl).trans hBs
  have hf:Fence.wide.fn 215:=trivial
  refine callsIn_of_wp Tryz.func215 rfl hf ?_ rfl
  simp only[Tryz.ntmps215,List.size_toArray,List.length_cons,List.length_nil,Nat.reduceAdd,Nat.reduceSub,Array.replicate_succ,Array.replicate_zero,List.push_toArray,List.append_toArray,List.nil_append,List.cons_append]
  gi_wp2
  gi_loopw [7] (fun i wr=>i=.int .i64 0∧J [] wr) (fun _ _=>0)
  case atStart=>exact ⟨rfl,h0⟩
  case round =>
    obtain ⟨rfl,hJs⟩:=hrel
    gi_wp2
    go_end0
    exact ⟨⟨_,rfl⟩,_,rfl,hJs⟩
set_option maxHeartbeats 2000000 in
theorem BJ (n:Nat) (a:Option Addr) (len cap:Nat) (w:World) :
    CallsIn Fence.wide n Tryz.prog 161 #[.slice a len cap] w fun e w'=>e=.returned (.func (.func 215) #[] #[.pointer (some ⟨w.heap.size,0,none⟩)])∧w'=w.alloc (.cells #[.slice a len cap] 23):=by
  have hf:Fence.wide.fn 161:=trivial
  refine callsIn_of_wp Tryz.func161 rfl hf ?_ rfl
  simp only[Tryz.ntmps161,List.size_toArray,List.length_cons,List.length_nil,Nat.reduceAdd,Nat.reduceSub,Array.replicate_succ,Array.replicate_zero,List.push_toArray,List.append_toArray,List.nil_append,List.cons_append]
  gi_wp2
  go_ret
  exact ⟨rfl,rfl⟩
set_option maxHeartbeats 4000000 in
theorem sK (a:Option Addr) (cap:Nat) (zs:List (List UInt8)) (hz:zs.length≤1000) (w:World)
    (hseq:∀ n Bs,1≤n→w.heap.size=Bs→uV n Tryz.prog 215 #[.pointer (some ⟨Bs,0,none⟩)] (fun xs=>xs=zs) zs.length (w.alloc (.cells #[.slice a zs.length cap] 23))) :
    Calls Tryz.prog 110 #[.slice a zs.length cap] w fun e w'=>e=.returned (.bool (decide zs.Nodup))∧Below w.heap.size w w':=by
  refine (callsIn_wide (n:=7)).1 ?_
  have hf:Fence.wide.fn 110:=trivial
  have hfv:Fence.wide.fn 161:=trivial
  have hfs:Fence.wide.fn 160:=trivial
  have hfc:Fence.wide.fn 162:=trivial
  have eg:=enters_of Tryz.func215 (by kernel_rfl) rfl
  have cV:=BJ 6 a zs.length cap w
  have cS:=EF 6 (by omega) 215 #[.pointer (some ⟨w.heap.size,0,none⟩)] eg _ zs.length (by unfold maxLen; omega) (by omega) (w.alloc (.cells #[.slice a zs.length cap] 23)) (hseq _ _ (by omega) rfl) (fun xs e=>by subst e; omega)
  refine callsIn_of_wp Tryz.func110 rfl hf ?_ rfl
  simp only[Tryz.ntmps110,List.size_toArray,List.length_cons,List.length_nil,Nat.reduceAdd,Nat.reduceSub,Array.replicate_succ,Array.replicate_zero,List.push_toArray,List.append_toArray,List.nil_append,List.cons_append]
  clear hseq
  gi_wp2_with (first
    | (gi_at_call 161; refine cV.mono ?_; rintro e w' ⟨rfl,rfl⟩)
    | (gi_at_call 160; refine cS.mono ?_; rintro e W ⟨v,ss,rfl,rfl,hrow,hb⟩)
    | fail)
  have hsz:(ss.mergeSort fun x y=>decide (x≤y)).length=ss.length:=by simp
  have hBw:Below w.heap.size w W:=((Below.refl _ w).alloc (Nat.le_refl _) _).trans (hb.mono (by simp))
  rcases hrow.2 with ⟨rfl,h0⟩ | ⟨gb,cap',cur,rfl,hbase,hgb,r1,r2,r3,r4⟩
  · have hss:ss=[]:=List.eq_nil_of_length_eq_zero h0
    subst hss
    have cC:CallsIn Fence.wide 6 Tryz.prog 162 #[.slice none 0 0] W fun e w'=>e=.returned (.slice none 0 0)∧w'=W:=callsIn_wide.2 (AnyG.slices_Compact_string_empty FZ none 0 W)
    clear cS cV hrow
    gi_wp2_with (gi_at_call 162; refine cC.mono ?_; rintro e w' ⟨rfl,rfl⟩)
    go_ret
    exact ⟨rfl,hBw⟩
  · have hH:Holds encStr W gb 0 (ss.mergeSort fun x y=>decide (x≤y)).toArray:=holds_of_block hgb (by simpa using r4)
    have hgl:gb < W.heap.size:=(Array.getElem?_eq_some_iff.1 hgb).1
    have cC:CallsIn Fence.wide 6 Tryz.prog 162 #[.slice (some ⟨gb,0,none⟩) ss.length cap'] W fun e w'=>∃ m:Nat,e=.returned (.slice (some ⟨gb,0,none⟩) m cap')∧((m=ss.length)↔ss.Nodup)∧Below w.heap.size w w':=by
      have:=AnyG.slices_Compact_string FZ gb 0 cap' (ss.mergeSort fun x y=>decide (x≤y)) W hH (by rw[hsz]; omega) (by rw[hsz]; omega)
      rw[hsz] at this
      refine callsIn_wide.2 (this.mono ?_)
      rintro e w' ⟨rfl,q,rfl⟩
      refine ⟨_,rfl,vR ss,?_⟩
      have hg:=grownBy_sorted (w:=W) (g:=gb) (n:=q) (os:=#[]) (Lib.compact (ss.mergeSort fun x y=>decide (x≤y)) ++ List.replicate (ss.length - (Lib.compact (ss.mergeSort fun x y=>decide (x≤y))).length) []).toArray
      rw[EK] at hg
      exact hBw.grown hg hBw.size (fun j e=>by cases e; have h:=hbase; rw[World.size_alloc] at h; omega)
    clear cS cV hrow hH
    gi_wp2_with (gi_at_call 162; refine cC.mono ?_; rintro e w' ⟨m,rfl,hm,hb'⟩)
    go_ret
    refine ⟨?_,hb'⟩
    show Ending.returned (.bool ((m:Int) == (ss.length:Int)))=_
    have:((m:Int) == (ss.length:Int))=decide ss.Nodup:=by
      rw[Bool.eq_iff_iff]
      simp only[beq_iff_eq,decide_eq_true_eq,← hm]
      omega
    rw[this]
theorem y1 (s:ByteArray):encStr s.data.toList=.string s:=by
  cases s; simp[encStr]
def names (l:List ByteArray):List (List UInt8):=l.map fun s=>s.data.toList
theorem AF {Z:Nat→Prop} {μ:Mu} {hp:Array Obj} {es:List (List V)} {x:Value} (h:au Z μ hp (.aS es) x) :
    (es=[]∧∃ a cap,x=.slice a 0 cap∧(a=none→cap=0))∨(∃ b off esz cap,∃ c:Nat→Nat→Value,x=.slice (some ⟨b,off,none⟩) es.length cap∧Z b∧es.length≤cap ∧
      (∀ i,i < es.length→(es.getD i []).length=esz)∧(∀ i j,i < es.length→j < esz→cellAt hp b (off+i * esz+j)=some (c i j)) ∧
      (∀ i j,i < es.length→j < esz→au Z μ hp ((es.getD i []).getD j .any) (c i j))):=by
  cases h with
  | ec a cap hz=>exact .inl ⟨rfl,a,cap,rfl,hz⟩
  | aS _ b off esz cap c h1 h2 h3 h4 h5=>exact .inr ⟨b,off,esz,cap,c,rfl,h1,h2,h3,h4,h5⟩
theorem E8 (l:List ByteArray) (hl:l.length≤1000):aA Tryz.prog 110 [encS l] (gb (decide (names l).Nodup)):=by
  intro Z μ w xs hrel hzl
  obtain ⟨hlen,hx⟩:=hrel
  obtain ⟨x,rfl⟩:∃ x,xs=[x]:=by
    match xs,hlen with
    | [x],_=>exact ⟨x,rfl⟩
  have h0:au Z μ w.heap (encS l) x:=hx 0 (by simp)
  have hnl:(names l).length=l.length:=by simp[names]
  have fin:∀ e w',(e=Ending.returned (.bool (decide (names l).Nodup))∧RowKit.Below w.heap.size w w')→∃ x Z',e=.returned x∧(∀ ν,au Z' ν w'.heap (gb (decide (names l).Nodup)) x)∧cw w w'∧(∀ b,Z b→Z' b)∧(∀ b,Z' b→Z b∨(w.heap.size≤b∧b < w'.heap.size))∧c9 w.heap w'.heap (fun _=>False):=by
    rintro e w' ⟨rfl,hb⟩
    exact ⟨_,Z,rfl,fun ν=>.val _ rfl,⟨hb.os,hb.tape,hb.output,hb.size⟩,fun _ h=>h,fun _ h=>.inl h,fun b hb' _=>hb.block b hb'⟩
  have box:∀ (v:Value),(w.alloc (.cells #[v] 23)).cell? ⟨w.heap.size,0,none⟩=some v:=fun v=>by
    have:=World.alloc_heap_new w (.cells #[v] 23)
    simp only[World.cell?,this]; rfl
  rcases AF h0 with ⟨he,a,cap,rfl,_⟩ | ⟨b,off,esz,cap,c,rfl,hz,hle,hes,hc,hv⟩
  · have hl0:l=[]:=by simpa using he
    subst hl0
    refine (sK a cap (names []) (by simp[names]) w (fun n Bs hn hB=>?_)).mono fin
    subst hB
    exact z6 n hn w.heap.size cap a _ (box _) (by simp)
  · have hel:∀ i,(hi:i < l.length)→(l.map fun s=>[gs s]).getD i []=[gs l[i]]:=fun i hi=>by simp[List.getD_eq_getElem?_getD,hi]
    have hcell:∀ i,(hi:i < l.length)→cellAt w.heap b (off+i)=some (.string l[i]):=fun i hi=>by
      have h1:=hes i (by simpa using hi)
      rw[hel i hi] at h1
      simp only[List.length_cons,List.length_nil] at h1
      subst h1
      have h2:=hc i 0 (by simpa using hi) (by omega)
      have h3:=hv i 0 (by simpa using hi) (by omega)
      rw[hel i hi] at h3
      simp only[List.getD_cons_zero] at h3
      generalize c i 0=y at h2 h3
      cases h3
      simpa using h2
    have hlen2:(l.map fun s=>[gs s]).length=(names l).length:=by simp[names]
    rw[hlen2]
    refine (sK (some ⟨b,off,none⟩) cap (names l) (by rw[hnl]; exact hl) w (fun n Bs hn hB=>?_)).mono fin
    subst hB
    have hbl:=hzl b hz
    refine BO n hn w.heap.size b off cap (names l) (by rw[hnl]; omega) _ (box _) (by simp) (by simp; omega) (fun j hj=>?_)
    have hj':j < l.length:=by omega
    have e1:(w.alloc (.cells #[.slice (some ⟨b,off,none⟩) (names l).length cap] 23)).cell? ⟨b,off+j,none⟩=w.cell? ⟨b,off+j,none⟩:=by
      have:=Below.heap_alloc w (.cells #[.slice (some ⟨b,off,none⟩) (names l).length cap] 23) b hbl
      simp only[World.cell?,this]
    rw[e1,l9,hcell j hj']
    have e2:(names l).getD j []=l[j].data.toList:=by simp[names,List.getD_eq_getElem?_getD,hj']
    rw[e2,y1]
end Gv
