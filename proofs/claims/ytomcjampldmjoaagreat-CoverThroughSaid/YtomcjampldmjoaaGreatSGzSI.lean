/-
  Part 9 of the proof: what the machine does and what the functions answer.
  Conditions: those that each lemma names.
-/
import Derived.Shelf.SlIter.Sorted
import Derived.Shelf.SortM.Plain
import Derived.Shelf.SortM.SortNone
import Derived.Shelf.SlicesG.CompactS
import Derived.Test.YtomcjampldmjoaaGreatSGzSH
set_option linter.unusedSimpArgs false
set_option linter.unusedVariables false
set_option maxRecDepth 100000
namespace Gv
open Go Go.Proofs
def owner:V→Option Nat
  | .sl id _ _ _=>some id
  | _=>none
def aV (H:View) (u:V) (sz:Nat) (es:List (List V)):Prop :=
  (es=[]∧∃ k,u=.emp k)∨(∃ n,u=.sl n 0 es.length sz∧H n=.arr sz es)
theorem aV.nil {H:View} {sz k:Nat} : aV H (.emp k) sz []:=.inl ⟨rfl,k,rfl⟩
theorem aV.len {H:View} {u:V} {sz:Nat} {es:List (List V)} (h:aV H u sz es):dS u=some es.length:=by
  rcases h with ⟨rfl,k,rfl⟩ | ⟨n,rfl,_⟩ <;> rfl
theorem aV.live {H:View} {u:V} {sz:Nat} {es:List (List V)} (h:aV H u sz es) {id:Nat} (hid:owner u=some id):H id=.arr sz es∧u=.sl id 0 es.length sz:=by
  rcases h with ⟨rfl,k,rfl⟩ | ⟨n,rfl,hn⟩
  · simp[owner] at hid
  · simp[owner] at hid; subst hid; exact ⟨hn,rfl⟩
theorem aV.keep {H H':View} {u:V} {sz:Nat} {es:List (List V)} (h:aV H u sz es) (hk:∀ id,owner u=some id→H' id=H id):aV H' u sz es:=by
  rcases h with ⟨rfl,k,rfl⟩ | ⟨n,rfl,hn⟩
  · exact .inl ⟨rfl,k,rfl⟩
  · exact .inr ⟨n,rfl,by rw[hk n rfl]; exact hn⟩
theorem aV.fresh {H:View} {u:V} {sz m:Nat} {es:List (List V)} {o:bR} (h:aV H u sz es) (hm:H m=.dead):aV (H.set m o) u sz es :=
  h.keep fun id hid=>by
    have:=(h.live hid).1
    have e:id≠m:=by rintro rfl; rw[hm] at this; simp at this
    simp[View.set,e]
theorem aV.ne {H:View} {u:V} {sz m:Nat} {es:List (List V)} (h:aV H u sz es) (hm:H m=.dead):owner u≠some m:=fun e=>by
  have:=(h.live e).1; rw[hm] at this; simp at this
theorem aV.other {H:View} {u:V} {sz m:Nat} {es:List (List V)} {o:bR} (h:aV H u sz es) (hm:owner u≠some m):aV (H.set m o) u sz es :=
  h.keep fun id hid=>by
    have e:id≠m:=by rintro rfl; exact hm hid
    simp[View.set,e]
theorem aV.new {H:View} {n sz:Nat} {es:List (List V)} : aV (H.set n (.arr sz es)) (.sl n 0 es.length sz) sz es:=.inr ⟨n,rfl,by simp[View.set]⟩
theorem bQ {H:View} {m z sz:Nat} {e:List V} : ca (View.set H m (.arr z [e])) (.sl m 0 1 sz)=some ([e],[m]):=by
  simp[ca,View.set]
def Left (H H':View) (u u':V):Prop:=∀ id,H id≠.dead→owner u≠some id→H' id=H id∧owner u'≠some id
theorem rO {sz bytes:Nat} {u:V} {es xs:List (List V)} {H:View} {K:V→View→Prop} {w:cF (H,K)} (ho:aV H u sz es) (hx:xs≠[]) (hok:(xs.all fun e=>e.length == sz && e.all aO)=true)
    (hl:(es.length+xs.length) * bytes < aG) (hl2:es.length+xs.length < aG) (hk:∀ u' H',aV H' u' sz (es ++ xs)→Left H H' u u'→K u' H'):mD sz bytes u xs H K w:=by
  have he:xs.isEmpty=false:=by cases xs with | nil=>exact absurd rfl hx | cons=>rfl
  rcases ho with ⟨rfl,k,rfl⟩ | ⟨n,rfl,hn⟩
  · rw[xn _ _ _ _ _ _ _ he]
    refine ⟨hok,⟨by simpa using hl,by simpa using hl2⟩,fun m hm=>hk _ _ ?_ ?_⟩
    · exact .inr ⟨m,rfl,by simp[View.set]⟩
    · intro id hid _
      have e:id≠m:=by rintro rfl; exact hid hm
      exact ⟨by simp[View.set,e],by simp[owner,Ne.symm e]⟩
  · rw[uI _ _ _ _ _ _ _ _ _ _ he,hn]
    refine ⟨hok,⟨by simp,rfl,hl,hl2⟩,fun m hm=>hk _ _ ?_ ?_⟩
    · refine .inr ⟨m,by simp,by simp[View.set]⟩
    · intro id hid ho
      have e:id≠m:=by rintro rfl; exact hid hm
      have e2:id≠n:=by rintro rfl; exact ho rfl
      exact ⟨by simp[View.set,e,e2],by simp[owner,Ne.symm e]⟩
theorem Left.refl {H:View} {u:V} : Left H H u u:=fun _ _ h=>⟨rfl,h⟩
theorem jL {sz bytes:Nat} {u:V} {es xs:List (List V)} {H:View} {K:V→View→Prop} {w:cF (H,K)} (ho:aV H u sz es) (hok:(xs.all fun e=>e.length == sz && e.all aO)=true)
    (hl:(es.length+xs.length) * bytes < aG) (hl2:es.length+xs.length < aG) (hk:∀ u' H',aV H' u' sz (es ++ xs)→Left H H' u u'→K u' H'):mD sz bytes u xs H K w:=by
  cases xs with
  | nil =>
    have:=hk u H (by simpa using ho) .refl
    rcases ho with ⟨rfl,k,rfl⟩ | ⟨n,rfl,hn⟩
    · exact this
    · exact this
  | cons x xs=>exact rO ho (by simp) hok hl hl2 hk
theorem dh.own {H:View} {u:V} {sz:Nat} {es:List (List V)} (h:aV H u sz es) (ht:∀ e∈es,∀ v∈e,Tree v):dh H u (.aY es):=by
  rcases h with ⟨rfl,k,rfl⟩ | ⟨n,rfl,hn⟩
  · exact fun h _=>.emp k
  · have:=dh.sl (off:=0) (len:=es.length) (esz:=sz) hn (by simp) ht
    rwa [List.drop_zero,List.take_of_length_le (by simp)] at this
theorem cP.own {h:aE} {u:V} {sz:Nat} {es:List (List V)} {es':List (List V)} (ho:aV h.view u sz es) (hl:es'.length=es.length) (hi:∀ i,i < es.length→(es'.getD i []).length=(es.getD i []).length)
    (hv:∀ i j,i < es.length→j < (es'.getD i []).length→cP h ((es.getD i []).getD j .any) ((es'.getD i []).getD j .any)):cP h u (.aY es'):=by
  rcases ho with ⟨rfl,k,rfl⟩ | ⟨n,rfl,hn⟩
  · have:es'=[]:=List.length_eq_zero_iff.1 (by simpa using hl)
    subst this
    exact .emp k
  · exact .sl n 0 es.length sz sz es es' hn (by simp) hl (fun i h=>by rw[Nat.zero_add]; exact hi i h) (fun i j h1 h2=>by rw[Nat.zero_add]; exact hv i j h1 h2)
theorem cP.KN {h:aE} {α:Type} {u:V} {sz:Nat} {l:List α} {f:α→Value} (ho:aV h.view u sz (l.map fun x=>[V.val (f x)])):cP h u (.aY (l.map fun x=>[V.val (f x)])):=by
  refine cP.own ho rfl (fun i _=>rfl) (fun i j hi hj=>?_)
  simp only[List.length_map] at hi
  have e:(l.map fun x=>[V.val (f x)]).getD i []=[V.val (f l[i])]:=by simp[List.getD_eq_getElem?_getD,hi]
  rw[e] at hj ⊢
  have:j=0:=by simp at hj; omega
  subst this
  exact .val _
def cY (H H':View) (r:V):Prop:=∀ id,H id≠.dead→H' id=H id∧owner r≠some id
theorem cY.emp {H:View} {k:Nat} : cY H H (.emp k):=fun _ _=>⟨rfl,by simp[owner]⟩
theorem cY.new {H:View} {n a b c:Nat} {o:bR} (hn:H n=.dead):cY H (H.set n o) (.sl n a b c):=fun id hid=>by
  have e:id≠n:=by rintro rfl; exact hid hn
  exact ⟨by simp[View.set,e],by simp[owner,Ne.symm e]⟩
theorem aV.left {H H':View} {u u' x:V} {sz:Nat} {es:List (List V)} (h:aV H x sz es) (hl:Left H H' u u') (hd:∀ id,owner x=some id→owner u≠some id):aV H' x sz es :=
  h.keep fun id hid=>(hl id (by rw[(h.live hid).1]; simp) (hd id hid)).1
theorem aV.Ep {H H':View} {x r:V} {sz:Nat} {es:List (List V)} (h:aV H x sz es) (hl:cY H H' r):aV H' x sz es :=
  h.keep fun id hid=>(hl id (by rw[(h.live hid).1]; simp)).1
theorem set_set {H:View} {n:Nat} {a b:bR} : View.set (View.set H n a) n b=View.set H n b:=by
  funext id; simp only[View.set]; split <;> rfl
theorem bV {m b:Nat} {o x:bR} (h:(if m=b then o else x)=.dead) (ho:o≠.dead):m≠b∧x=.dead:=by
  split at h
  · exact absurd h ho
  · rename_i e; exact ⟨e,h⟩
theorem bT {z:Nat} {es:List (List V)} : bR.arr z es≠.dead:=by simp
def oL (H:View):List V→List V→Prop
  | [],[]=>True
  | v :: vs,t :: ts=>dh H v t∧oL H vs ts
  | _,_=>False
theorem oL.len {H:View} : ∀ {vs ts:List V},oL H vs ts→ts.length=vs.length
  | [],[],_=>rfl
  | _ :: _,_ :: _,h=>by simp[oL.len h.2]
theorem oL.get {H:View} : ∀ {vs ts:List V},oL H vs ts→∀ i,i < vs.length→dh H (vs.getD i .any) (ts.getD i .any)
  | [],[],_,i,hi=>by simp at hi
  | _ :: _,_ :: _,h,0,_=>h.1
  | _ :: _,_ :: _,h,i+1,hi=>oL.get h.2 i (by simpa using hi)
theorem aC.OS {P:Program} {q:Bool} {f:FuncId} {H:View} {vs ts:List V} {K:V→View→Prop} {v:cF (H,K)} {t:V} (hc:aF P f ts t) (hok:cX P f=true) (hf:zB t) (hl:oL H vs ts) (hk:K t H):aC P q f vs H K v :=
  aC.borrow hc hok hf hl.len hl.get hk
theorem aC.qq {P:Program} {q:Bool} {f:FuncId} {H:View} {vs ts:List V} {K:V→View→Prop} {v:cF (H,K)} {t:V} (hc:bP P f ts t) (hok:cX P f=true) (hl:oL H vs ts) (hk:K t H):aC P q f vs H K v :=
  aC.tC hc hok hl.len hl.get hk
theorem dh.box {H:View} {q z:Nat} {e:List V} (hq:H q=.arr z [e]) (ht:∀ v∈e,Tree v):dh H (.ptr q 0 0) (.aS e 0):=by
  rintro h rfl
  refine .ptr q 0 0 z [e] e hq (by simp) (by simp) (fun k hk=>?_)
  simp only[List.getD_cons_zero]
  have e2:e.getD k .any=e[k]:=by simp[List.getD_eq_getElem?_getD,hk]
  rw[e2]
  exact .tree _ (ht _ (List.getElem_mem _))
theorem aV.sl {H:View} {u:V} {sz:Nat} {es:List (List V)} (h:aV H u sz es) (hne:0 < es.length):∃ n,u=.sl n 0 es.length sz∧H n=.arr sz es:=by
  rcases h with ⟨rfl,_⟩ | h
  · simp at hne
  · exact h
abbrev fK:=V × Nat × List (List V)
def bC (H:View) (L:List fK):Prop:=(∀ x∈L,aV H x.1 x.2.1 x.2.2)∧(L.filterMap fun x=>owner x.1).Nodup
theorem bC.nil {H:View} : bC H []:=⟨fun x hx=>by simp at hx,by simp⟩
theorem bC.head {H:View} {x:fK} {L:List fK} (h:bC H (x :: L)):aV H x.1 x.2.1 x.2.2:=h.1 x (by simp)
theorem bC.tail {H:View} {x:fK} {L:List fK} (h:bC H (x :: L)):bC H L:=by
  refine ⟨fun y hy=>h.1 y (by simp[hy]),?_⟩
  have:=h.2
  simp only[List.filterMap_cons] at this
  split at this
  · exact this
  · exact (List.nodup_cons.1 this).2
theorem bC.perm {H:View} {L L':List fK} (h:bC H L) (p:L.Perm L'):bC H L' :=
  ⟨fun x hx=>h.1 x (p.mem_iff.2 hx),(p.filterMap _).nodup_iff.1 h.2⟩
theorem qL {α:Type} : ∀ (L:List α) (k:Nat) (hk:k < L.length),L.Perm (L[k] :: L.eraseIdx k)
  | x :: L,0,_=>.refl _
  | x :: L,k+1,hk=>by
    have:=qL L k (by simpa using hk)
    exact (this.cons x).trans (.swap _ _ _)
theorem bC.at {H:View} {L:List fK} (h:bC H L) (k:Nat) (hk:k < L.length):bC H (L[k] :: L.eraseIdx k) :=
  h.perm (qL L k hk)
theorem bC.obj {H:View} {n k sz:Nat} {es:List (List V)} {L:List fK} (h:bC H ((.sl n 0 k sz,sz,es) :: L)) (hes:es≠[]):H n=.arr sz es∧k=es.length:=by
  rcases h.head with ⟨e,_⟩ | ⟨m,e,hm⟩
  · exact absurd e hes
  · simp only[V.sl.injEq] at e
    obtain ⟨rfl,_,rfl,_⟩:=e
    exact ⟨hm,rfl⟩
theorem bC.off {H:View} {x:fK} {L:List fK} (h:bC H (x :: L)) {id:Nat} (hid:owner x.1=some id):∀ y∈L,owner y.1≠some id:=by
  intro y hy e
  have:=h.2
  simp only[List.filterMap_cons,hid,List.nodup_cons,List.mem_filterMap,not_exists,not_and] at this
  exact this.1 y hy e
theorem bC.live {H:View} {x:fK} {L:List fK} (h:bC H L) (hx:x∈L) {id:Nat} (hid:owner x.1=some id):H id≠.dead:=by
  rw[((h.1 x hx).live hid).1]; simp
theorem bC.keep {H H':View} {L:List fK} (h:bC H L) (hk:∀ x∈L,∀ id,owner x.1=some id→H' id=H id):bC H' L :=
  ⟨fun x hx=>(h.1 x hx).keep (hk x hx),h.2⟩
theorem bC.new {H:View} {L:List fK} (h:bC H L) {n:Nat} (hn:H n=.dead) (sz:Nat) (es:List (List V)):bC (H.set n (.arr sz es)) ((.sl n 0 es.length sz,sz,es) :: L):=by
  refine ⟨fun x hx=>?_,?_⟩
  · rcases List.mem_cons.1 hx with rfl | hx
    · exact .new
    · exact (h.1 x hx).fresh hn
  · simp only[List.filterMap_cons,owner,List.nodup_cons,List.mem_filterMap,not_exists,not_and]
    exact ⟨fun x hx e=>h.live hx e hn,h.2⟩
theorem bC.O1 {H H':View} {L:List fK} (h:bC H L) {u:V} {sz:Nat} {es:List (List V)} (ho:aV H' u sz es) (hf:cY H H' u):bC H' ((u,sz,es) :: L):=by
  refine ⟨fun x hx=>?_,?_⟩
  · rcases List.mem_cons.1 hx with rfl | hx
    · exact ho
    · exact (h.1 x hx).Ep hf
  · cases hu:owner u with
    | none=>simp only[List.filterMap_cons,hu]; exact h.2
    | some id =>
      simp only[List.filterMap_cons,hu,List.nodup_cons,List.mem_filterMap,not_exists,not_and]
      exact ⟨fun x hx e=>(hf id (h.live hx e)).2 hu,h.2⟩
theorem bC.fresh {H:View} {L:List fK} (h:bC H L) {n:Nat} (hn:H n=.dead) {o:bR} : bC (H.set n o) L :=
  ⟨fun x hx=>(h.1 x hx).fresh hn,h.2⟩
theorem bC.put {H:View} {L:List fK} {n k sz:Nat} {es es':List (List V)} (h:bC H ((.sl n 0 k sz,sz,es) :: L)) (hl:es'.length=es.length) (hk:k=es.length):bC (H.set n (.arr sz es')) ((.sl n 0 k sz,sz,es') :: L):=by
  refine ⟨fun x hx=>?_,by simpa [List.filterMap_cons,owner] using h.2⟩
  rcases List.mem_cons.1 hx with rfl | hx
  · exact .inr ⟨n,by simp[hl,hk],by simp[View.set]⟩
  · exact (h.1 x (by simp[hx])).other (h.off rfl x hx)
theorem bC.left {H H':View} {L:List fK} {u u':V} {sz:Nat} {es es':List (List V)} (h:bC H ((u,sz,es) :: L)) (ho:aV H' u' sz es') (hl:Left H H' u u'):bC H' ((u',sz,es') :: L):=by
  have hoff:∀ x∈L,∀ id,owner x.1=some id→owner u≠some id:=fun x hx id hid hu=>h.off hu x hx hid
  refine ⟨fun x hx=>?_,?_⟩
  · rcases List.mem_cons.1 hx with rfl | hx
    · exact ho
    · exact (h.1 x (by simp[hx])).left hl (hoff x hx)
  · have ht:=h.tail.2
    cases hu:owner u' with
    | none=>simp only[List.filterMap_cons,hu]; exact ht
    | some id =>
      simp only[List.filterMap_cons,hu,List.nodup_cons,List.mem_filterMap,not_exists,not_and]
      refine ⟨fun x hx e=>?_,ht⟩
      have hlv:=h.tail.live hx e
      exact (hl id hlv (hoff x hx id e)).2 hu
theorem cp {sz bytes:Nat} {u:V} {es xs:List (List V)} {L:List fK} {H:View} {K:V→View→Prop} {w:cF (H,K)} (ho:bC H ((u,sz,es) :: L)) (hok:(xs.all fun e=>e.length == sz && e.all aO)=true)
    (hl:(es.length+xs.length) * bytes < aG) (hl2:es.length+xs.length < aG) (hk:∀ u' H',bC H' ((u',sz,es ++ xs) :: L)→Left H H' u u'→K u' H'):mD sz bytes u xs H K w :=
  jL ho.head hok hl hl2 fun u' H' h1 h2=>hk u' H' (ho.left h1 h2) h2
theorem bC.emp {H:View} {L:List fK} (h:bC H L) {k sz:Nat} : bC H ((.emp k,sz,[]) :: L):=by
  refine ⟨fun x hx=>?_,by simpa [List.filterMap_cons,owner] using h.2⟩
  rcases List.mem_cons.1 hx with rfl | hx
  · exact .nil
  · exact h.1 x hx
theorem aV.cells {H:View} {u:V} {sz:Nat} {es:List (List V)} (h:aV H u sz es):V.cells u=[u]:=by
  rcases h with ⟨rfl,k,rfl⟩ | ⟨n,rfl,_⟩ <;> rfl
theorem aV.gX {H:View} {u:V} {sz:Nat} {es:List (List V)} (h:aV H u sz es):aO u=true:=by
  rcases h with ⟨rfl,k,rfl⟩ | ⟨n,rfl,_⟩ <;> rfl
theorem bC.ne {H:View} {n k sz m:Nat} {es:List (List V)} {L:List fK} (h:bC H ((.sl n 0 k sz,sz,es) :: L)) (hes:es≠[]) (hm:H m=.dead):n≠m:=by
  rintro rfl; rw[(h.obj hes).1] at hm; simp at hm
theorem bC.Ey {H:View} {L:List fK} (h:bC H L) (i j:Nat) {a k1 s1 b k2 s2 t1 t2:Nat} {e1 e2:List (List V)} (hi:L[i]?=some (.sl a 0 k1 s1,t1,e1)) (hj:L[j]?=some (.sl b 0 k2 s2,t2,e2)) (hij:i≠j):a≠b:=by
  rintro rfl
  obtain ⟨hil,hi⟩:=List.getElem?_eq_some_iff.1 hi
  have h1:=h.at i hil
  rw[hi] at h1
  exact h1.off (id:=a) rfl _ (List.mem_eraseIdx_iff_getElem?.2 ⟨j,hij.symm,hj⟩) rfl
theorem qP {α:Type} {a b c:α} {l:List α} : (a :: b :: c :: l).Perm (b :: c :: a :: l):=(List.Perm.swap _ _ _).trans ((List.Perm.swap _ _ _).cons _)
theorem bC.own {H:View} {L:List fK} (h:bC H L) (i:Nat) {u:V} {sz:Nat} {es:List (List V)} (hi:L[i]?=some (u,sz,es)):aV H u sz es:=h.1 _ (List.mem_of_getElem? hi)
theorem bC.is {H:View} {L:List fK} (h:bC H L) (i:Nat) {n k sz:Nat} {es:List (List V)} (hi:L[i]?=some (.sl n 0 k sz,sz,es)) (hes:0 < es.length):H n=.arr sz es:=by
  obtain ⟨m,e,hm⟩:=(h.own i hi).sl hes
  simp only[V.sl.injEq] at e
  rw[e.1]; exact hm
theorem bC.Mb {H:View} {L:List fK} (h:bC H L) {b c:Nat} {es:List (V × V × Nat)} (hb:H b=.map es c):∀ x∈L,owner x.1≠some b:=fun x hx e=>by
  have:=((h.1 x hx).live e).1
  rw[hb] at this; simp at this
theorem bC.wP {H:View} {L:List fK} (h:bC H L) {b c:Nat} {es:List (V × V × Nat)} (hb:H b=.map es c) {o:bR} : bC (H.set b o) L :=
  ⟨fun x hx=>(h.1 x hx).other (h.Mb hb x hx),h.2⟩
theorem Left.map {H H':View} {u u':V} {b c:Nat} {es:List (V × V × Nat)} {sz:Nat} {xs:List (List V)} (hl:Left H H' u u') (ho:aV H u sz xs) (hb:H b=.map es c):H' b=.map es c:=by
  rw[(hl b (by rw[hb]; simp) (fun e=>by have:=(ho.live e).1; rw[hb] at this; simp at this)).1,hb]
theorem AU {H:View} {L:List fK} (h:bC H L) (i:Nat) {n k sz b c:Nat} {xs:List (List V)} {es:List (V × V × Nat)} (hi:L[i]?=some (.sl n 0 k sz,sz,xs)) (hb:H b=.map es c):n≠b:=by
  rintro rfl
  exact h.Mb hb _ (List.mem_of_getElem? hi) rfl
theorem aC.NS {P:Program} {f:FuncId} {vs:List V} {H:View} {K:V→View→Prop} {w:cF (H,K)} {sz:Nat} {es:List (List V)} (hc:az P f vs H fun r H'=>aV H' r sz es∧cY H H' r) (hk:∀ r H',aV H' r sz es→cY H H' r→K r H'):aC P true f vs H K w:=by
  unfold aC
  simp only[if_true]
  exact (hc.mono fun r H' h=>⟨fun id hid=>(h.2 id hid).1,hk r H' h.1 h.2⟩).KK
def w7:SC :=
  .seq (ak [aR 20 .lss 19 18]) <|
  .seq (.cond (.tmp 20) (.skip) (.exit 0)) <|
  .seq (.block 1 (.seq (ak [ae 21 19,ae 3 21]) <|
  .seq (ak [ae 22 0,ae 23 3,((some 24),.op (.dq (.tmp 22) (.tmp 23))),aL 25 136 [24],cd 26 25]) <|
  .cond (.tmp 26) (.seq (ak [bg 2 false]) <|
  .ret) (.skip))) <|
  ak [ax 27 .add 19 1,ae 19 27]
def AG:SF:=⟨.seq (ak [bg 2 false]) <|
  .seq (.seq (.region false [⟨none,[ae 4 0,((some 5),.op (.iN .eql (.tmp 4) (.val (.val (.string ⟨#[]⟩))))),ae 6 5]⟩,⟨(some (6,false)),[ae 7 0,((some 8),.op (.gP (.tmp 7))),ax 9 .gtr 8 20]⟩,⟨none,[bH 10 6 9,ae 11 10]⟩,⟨(some (11,false)),[ae 12 0,((some 13),.op (.dq (.tmp 12) (.val (.val (.int .i64 0))))),aL 14 135 [13],cd 15 14]⟩,⟨none,[bH 16 11 15]⟩]) <|
  .cond (.tmp 16) (.seq (ak [bg 2 false]) <|
  .ret) (.skip)) <|
  .seq (.seq (ak [ae 17 0,((some 18),.op (.gP (.tmp 17))),aH 19 0]) <|
  .block 0 (.loop w7)) <|
  .seq (ak [bg 2 true]) <|
  .ret,
  [.tmp 2],28⟩
theorem Dp:aU Tryz.prog 86 []=some AG:=by kernel_rfl
def wi:SF:=⟨.seq (ak [aH 2 0,aH 3 0]) <|
  .seq (ak [aH 4 2]) <|
  .seq (.block 0 (.seq (ak [ae 6 0,aP 7 6,ax 8 .lss 7 2,ae 5 8]) <|
  .cond (.tmp 5) (.seq (ak [aH 2 0,aH 3 4]) <|
  .ret) (.seq (ak [ae 10 0,((some 11),.op (.idx 1 (.tmp 10) (.val (.val (.int .i64 1))))),an 12 11,aL 13 235 [12],ae 9 13]) <|
  .cond (.tmp 9) (.skip) (.seq (ak [ae 15 0,((some 16),.op (.idx 1 (.tmp 15) (.val (.val (.int .i64 1))))),an 17 16,((some 18),.op (.arith .neq (.tmp 17) (.val (.val (.int .u8 92))))),ae 14 18]) <|
  .cond (.tmp 14) (.seq (ak [aH 2 0,aH 3 3]) <|
  .ret) (.seq (ak [ae 20 0,aP 21 20,ax 22 .lss 21 3,ae 19 22]) <|
  .cond (.tmp 19) (.seq (ak [aH 2 0,aH 3 4]) <|
  .ret) (.seq (ak [ae 24 0,((some 25),.op (.idx 1 (.tmp 24) (.val (.val (.int .i64 2))))),an 26 25,aL 27 236 [26],cd 28 27,ae 23 28]) <|
  .cond (.tmp 23) (.seq (ak [aH 2 0,aH 3 3]) <|
  .ret) (ak [aH 4 3]))))))) <|
  .seq (.seq (ak [ae 29 0,aP 30 29,ae 31 4,aR 32 .leq 30 31]) <|
  .cond (.tmp 32) (.seq (ak [aH 2 0,aH 3 4]) <|
  .ret) (.skip)) <|
  .seq (.seq (ak [ae 33 0,ae 34 4,aQ 35 1 33 34,an 36 35,((some 37),.op (.arith .neq (.tmp 36) (.val (.val (.int .u8 39)))))]) <|
  .cond (.tmp 37) (.seq (ak [aH 2 0,aH 3 3]) <|
  .ret) (.skip)) <|
  .seq (ak [ae 38 4,ax 39 .add 38 1,ae 2 39,aH 3 0]) <|
  .ret,
  [.tmp 2,.tmp 3],40⟩
theorem zr:aU Tryz.prog 227 []=some wi:=by kernel_rfl
def pR:SF:=⟨.seq (ak [bg 2 false]) <|
  .seq (.seq (.region false [⟨none,[ae 5 0,((some 6),.op (.iN .eql (.tmp 5) (.val (.val (.string ⟨#[]⟩))))),ae 7 6]⟩,⟨(some (7,false)),[ae 8 0,((some 9),.op (.dq (.tmp 8) (.val (.val (.int .i64 0))))),((some 10),.op (.arith .neq (.tmp 9) (.val (.val (.int .u8 39)))))]⟩,⟨none,[bH 11 7 10]⟩]) <|
  .cond (.tmp 11) (.seq (ak [bg 2 false]) <|
  .ret) (.skip)) <|
  .seq (ak [ae 13 0,((some 14),.op (.eW (.tmp 13))),aL 15 227 [14],ae 12 15,bU 16 0 12,bU 17 1 12,ae 3 16,ae 4 17]) <|
  .seq (.region false [⟨none,[ae 18 4,ax 19 .eql 18 0,ae 20 19]⟩,⟨(some (20,true)),[ae 21 3,ae 22 0,((some 23),.op (.gP (.tmp 22))),aR 24 .eql 21 23]⟩,⟨none,[bN 25 20 24,ae 2 25]⟩]) <|
  .ret,
  [.tmp 2],26⟩
theorem zk:aU Tryz.prog 186 [14]=some pR:=by kernel_rfl
def yN:SF:=⟨.seq (ak [bg 2 false]) <|
  .seq (.region false [⟨none,[ae 3 0,aL 4 86 [3],ae 5 4]⟩,⟨(some (5,false)),[ae 6 0,aL 7 186 [6]]⟩,⟨none,[bH 8 5 7,ae 2 8]⟩]) <|
  .ret,
  [.tmp 2],9⟩
theorem BH:aU Tryz.prog 129 []=some yN:=by kernel_rfl
def vX:SF:=⟨.seq (ak [bg 2 false]) <|
  .seq (ak [ae 3 0,aL 4 86 [3],cd 5 4,ae 2 5]) <|
  .ret,
  [.tmp 2],6⟩
theorem zu:aU Tryz.prog 85 []=some vX:=by kernel_rfl
theorem w8 (s:ByteArray):gK s ⟨#[]⟩=decide ((ey s).length=0):=by
  unfold gK
  rw[← dN]
  have:(s.data.toList == ([]:List UInt8))=decide (s.data.toList.length=0):=by
    cases s.data.toList <;> rfl
  show (s.data.toList == ([]:List UInt8))=_
  rw[this]
  rfl
set_option maxHeartbeats 1000000 in
theorem LV (s:ByteArray) (H:View):az Tryz.prog 86 [gs s] H fun r _=>r=gb (fe (ey s)):=by
  refine az.of mixed Dp ?_
  repeat' (first | (refine ar.dec (fun _=>?_) (fun _=>?_)) | (refine ar.eq (fun _=>?_) (fun _=>?_)) | (refine ar.ne (fun _=>?_) (fun _=>?_)) | (refine ar.split (fun _=>?_) (fun _=>?_)) | (simp (disch:=omega) only [↓wr,↓reduceIte,wq,ah,ag,aj,Nat.reduceEqDiff,Nat.reduceLeDiff,Int.reduceToNat,reduceCtorEq,AG,dN,w8]))
  · rename_i h
    congr 2; simp[fe,h]
  · rename_i h1 h
    congr 2; simp[fe,show ¬ (ey s).length≤20 by omega]
  · rename_i h1 h2
    cases hb:ey s with
    | nil=>simp[hb] at h1
    | cons c l =>
      have hcr:=fun d (hd:d∈c :: l)=>Cu (s:=s) (c:=d) (by rw[hb]; exact hd)
      have hc0:=hcr c (by simp)
      repeat' (first | (refine ar.dec (fun _=>?_) (fun _=>?_)) | (refine ar.eq (fun _=>?_) (fun _=>?_)) | (refine ar.ne (fun _=>?_) (fun _=>?_)) | (refine ar.split (fun _=>?_) (fun _=>?_)) | (simp (disch:=omega) only [↓wr,↓reduceIte,wq,List.getElem?_cons_zero]))
      refine aC.pure (uT rT GG c hc0.1 hc0.2) (by kernel_rfl) ?_
      repeat' (first | (refine ar.dec (fun _=>?_) (fun _=>?_)) | (refine ar.eq (fun _=>?_) (fun _=>?_)) | (refine ar.ne (fun _=>?_) (fun _=>?_)) | (refine ar.split (fun _=>?_) (fun _=>?_)) | (simp (disch:=omega) only [↓wr,↓reduceIte,wq,aj,Nat.reduceEqDiff,reduceCtorEq,hb,dN]))
      · rename_i hf
        rw[hb] at h1 h2
        refine bc.intro (fun k T H'=>∃ i:Nat,i+k=(c :: l).length∧((c :: l).take i).all mw=true∧T 0=gs s∧T 18=gi (c :: l).length∧T 19=gi i) (c :: l).length ?_ ?_
        · exact ⟨0,by omega,by simp,rfl,rfl,rfl⟩
        · rintro k T H' ⟨i,hk,hi,h0,h18,h19⟩
          simp (disch:=omega) only [↓wr,↓reduceIte,wq,ag,reduceCtorEq,w7,h18,h19]
          refine ar.dec (fun hc=>?_) (fun hc=>?_)
          · simp only[List.length_cons] at hc hk h2
            have hg:(c :: l)[i]?=some ((c :: l)[i]'(by simp; omega)):=List.getElem?_eq_getElem (by simp; omega)
            have hm:(c :: l)[i]'(by simp; omega)∈c :: l:=List.getElem_mem _
            generalize (c :: l)[i]'(by simp; omega)=d at hg hm
            have hd0:=hcr d hm
            simp (disch:=omega) only [↓wr,↓reduceIte,wq,Nat.reduceEqDiff,reduceCtorEq,h0,h19,hb,hg]
            refine aC.pure (uT rT I3 d hd0.1 hd0.2) (by kernel_rfl) ?_
            repeat' (first | (refine ar.dec (fun _=>?_) (fun _=>?_)) | (refine ar.eq (fun _=>?_) (fun _=>?_)) | (refine ar.ne (fun _=>?_) (fun _=>?_)) | (refine ar.split (fun _=>?_) (fun _=>?_)) | (simp (disch:=omega) only [↓wr,↓reduceIte,wq,ag,Nat.reduceEqDiff,reduceCtorEq,h0,h18,h19]))
            · rename_i hd
              refine ⟨k - 1,by omega,i+1,by omega,?_,by first | rfl | exact ⟨rfl,rfl⟩⟩
              rw[List.take_add_one,hg]
              simp only[Option.toList_some,List.all_append,hi,List.all_cons,hd,List.all_nil,Bool.and_self]
            · rename_i hd
              congr 2
              have:(c :: l).all mw=false:=by
                rw[List.all_eq_false]; exact ⟨d,hm,by simp[hd]⟩
              simp only[fe,this,Bool.and_false]
          · simp (disch:=omega) only [↓wr,↓reduceIte,wq,Nat.reduceEqDiff,reduceCtorEq]
            simp only[List.length_cons] at hc hk h2
            rw[List.take_of_length_le (by simp; omega)] at hi
            congr 2
            simp only[fe,hi,List.length_cons]
            simp[hf]; omega
      · rename_i hf
        congr 2; simp[fe,hf]
theorem EI (s:ByteArray):aF Tryz.prog 86 [gs s] (gb (fe (ey s))):=aF.val (nP s) (LV s)
def jG (l:List Int):Int × Int :=
  if xK (l.getD 1 0)=true then (2,0) else if l.getD 1 0≠92 then (0,3) else if l.length < 3 then (0,4) else if Bn (l.getD 2 0)=true then (3,0) else (0,3)
def ln (l:List Int):Int × Int :=
  if l.length < 2 then (0,4) else if (jG l).2≠0 then (0,(jG l).2) else if (l.length:Int)≤(jG l).1 then (0,4) else if l.getD (jG l).1.toNat 0≠39 then (0,3) else ((jG l).1+1,0)
theorem IY {l:List Int} {n:Int} (hN:jG l=(n,0)) (h2:¬ l.length < 2):ln l=if (l.length:Int)≤n then (0,4) else if l.getD n.toNat 0≠39 then (0,3) else (n+1,0):=by
  rw[ln,if_neg h2,hN]; simp
theorem DN {l:List Int} {e:Int} (hN:jG l=(0,e)) (he:e≠0) (h2:¬ l.length < 2):ln l=(0,e):=by
  rw[ln,if_neg h2,hN]; simp[he]
set_option maxHeartbeats 2000000 in
theorem GS (l:List Int) (hr:∀ c∈l,0≤c∧c≤255) (H:View):az Tryz.prog 227 [.aY (l.map fun x=>[gy x])] H fun r _=>r=.bt [gi (ln l).1,gi (ln l).2]:=by
  refine az.of mixed zr ?_
  simp (disch:=omega) only [↓wr,↓reduceIte,wq,ah,ag,aj,Nat.reduceLeDiff,reduceCtorEq,wi]
  refine ar.dec (fun h=>?_) (fun h=>?_)
  · simp (disch:=omega) only [↓wr,↓reduceIte,wq,ag,aj,Nat.reduceEqDiff,reduceCtorEq]
    rw[ln,if_pos (by omega)]
  · have h1:l[1]?=some (l[1]'(by omega)):=List.getElem?_eq_getElem (by omega)
    have g1:l.getD 1 0=l[1]'(by omega):=by simp[List.getD_eq_getElem?_getD,h1]
    have m1:l[1]'(by omega)∈l:=List.getElem_mem _
    generalize l[1]'(by omega)=b at h1 g1 m1
    have hb:=hr b m1
    simp (disch:=omega) only [↓wr,↓reduceIte,wq,Nat.reduceLT,Int.reduceToNat,reduceCtorEq,List.getElem?_map,h1]
    refine aC.pure (uT rT Iy b hb.1 hb.2) (by kernel_rfl) ?_
    simp (disch:=omega) only [↓wr,↓reduceIte,wq]
    refine ar.split (fun hp=>?_) (fun hp=>?_)
    · have hN:jG l=(2,0):=by rw[jG,if_pos (by rw[g1]; exact hp)]
      simp (disch:=omega) only [↓wr,↓reduceIte,wq,ag,aj,Nat.reduceEqDiff,reduceCtorEq]
      have hP:=IY hN (by omega)
      refine ar.dec (fun h3=>?_) (fun h3=>?_)
      · simp (disch:=omega) only [↓wr,↓reduceIte,wq,Nat.reduceEqDiff,reduceCtorEq]
        rw[hP,if_pos (by omega)]
      · rw[if_neg (by omega)] at hP
        have h2:l[2]?=some (l[2]'(by omega)):=List.getElem?_eq_getElem (by omega)
        have g2:l.getD (2:Int).toNat 0=l[2]'(by omega):=by simp[List.getD_eq_getElem?_getD,h2]
        generalize l[2]'(by omega)=c at h2 g2
        rw[g2] at hP
        simp (disch:=omega) only [↓wr,↓reduceIte,wq,ag,Nat.reduceEqDiff,Nat.reduceLT,Int.reduceToNat,reduceCtorEq,List.getElem?_map,h2]
        refine ar.ne (fun h4=>?_) (fun h4=>?_)
        · simp (disch:=omega) only [↓wr,↓reduceIte,wq,Nat.reduceEqDiff,reduceCtorEq]
          rw[hP,if_pos h4]
        · simp (disch:=omega) only [↓wr,↓reduceIte,wq,ag,Nat.reduceEqDiff,reduceCtorEq]
          rw[hP,if_neg (fun q=>q h4)]
    · simp (disch:=omega) only [↓wr,↓reduceIte,wq,ag,Nat.reduceLT,Int.reduceToNat,reduceCtorEq,List.getElem?_map,h1]
      refine ar.ne (fun h5=>?_) (fun h5=>?_)
      · simp (disch:=omega) only [↓wr,↓reduceIte,wq,ag,aj,Nat.reduceEqDiff,reduceCtorEq]
        rw[DN (e:=3) (by rw[jG,if_neg (by rw[g1,hp]; simp),if_pos (by rw[g1]; exact h5)]) (by simp) (by omega)]
      · simp (disch:=omega) only [↓wr,↓reduceIte,wq,ag,aj,reduceCtorEq]
        refine ar.dec (fun h6=>?_) (fun h6=>?_)
        · simp (disch:=omega) only [↓wr,↓reduceIte,wq,ag,aj,Nat.reduceEqDiff,reduceCtorEq]
          rw[DN (e:=4) (by rw[jG,if_neg (by rw[g1,hp]; simp),if_neg (by rw[g1]; exact fun q=>q h5),if_pos (by omega)]) (by simp) (by omega)]
        · have h2:l[2]?=some (l[2]'(by omega)):=List.getElem?_eq_getElem (by omega)
          have g2:l.getD 2 0=l[2]'(by omega):=by simp[List.getD_eq_getElem?_getD,h2]
          have m2:l[2]'(by omega)∈l:=List.getElem_mem _
          generalize l[2]'(by omega)=c at h2 g2 m2
          have hcr:=hr c m2
          have hN0:jG l=if Bn c=true then (3,0) else (0,3):=by rw[jG,if_neg (by rw[g1,hp]; simp),if_neg (by rw[g1]; exact fun q=>q h5),if_neg (by omega),g2]
          simp (disch:=omega) only [↓wr,↓reduceIte,wq,Nat.reduceLT,Int.reduceToNat,reduceCtorEq,List.getElem?_map,h2]
          refine aC.pure (uT rT NM c hcr.1 hcr.2) (by kernel_rfl) ?_
          simp (disch:=omega) only [↓wr,↓reduceIte,wq]
          refine ar.split (fun he=>?_) (fun he=>?_)
          · rw[if_pos he] at hN0
            have hP:=IY hN0 (by omega)
            simp (disch:=omega) only [↓wr,↓reduceIte,wq,ag,aj,Nat.reduceEqDiff,reduceCtorEq]
            refine ar.dec (fun h3=>?_) (fun h3=>?_)
            · simp (disch:=omega) only [↓wr,↓reduceIte,wq,Nat.reduceEqDiff,reduceCtorEq]
              rw[hP,if_pos (by omega)]
            · rw[if_neg (by omega)] at hP
              have h7:l[3]?=some (l[3]'(by omega)):=List.getElem?_eq_getElem (by omega)
              have g3:l.getD (3:Int).toNat 0=l[3]'(by omega):=by simp[List.getD_eq_getElem?_getD,h7]
              generalize l[3]'(by omega)=d at h7 g3
              rw[g3] at hP
              simp (disch:=omega) only [↓wr,↓reduceIte,wq,ag,Nat.reduceEqDiff,Nat.reduceLT,Int.reduceToNat,reduceCtorEq,List.getElem?_map,h7]
              refine ar.ne (fun h4=>?_) (fun h4=>?_)
              · simp (disch:=omega) only [↓wr,↓reduceIte,wq,Nat.reduceEqDiff,reduceCtorEq]
                rw[hP,if_pos h4]
              · simp (disch:=omega) only [↓wr,↓reduceIte,wq,ag,Nat.reduceEqDiff,reduceCtorEq]
                rw[hP,if_neg (fun q=>q h4)]
          · rw[if_neg (by rw[he]; simp)] at hN0
            simp (disch:=omega) only [↓wr,↓reduceIte,wq,ag,aj,Nat.reduceEqDiff,reduceCtorEq]
            rw[DN hN0 (by simp) (by omega)]
def cI {α:Type} (p:α→Bool):List α→Int→Int
  | [],_=>-1
  | x :: l,i=>if p x then i else cI p l (i+1)
theorem nM {α:Type} (p:α→Bool):∀ (l:List α) (i:Int),0≤i→decide (0≤cI p l i)=l.any p
  | [],_,_=>by simp[cI]
  | x :: l,i,h=>by
    have ih:=nM p l (i+1) (by omega)
    rw[List.any_cons,cI]
    by_cases hp:p x=true
    · rw[if_pos hp,hp]; simp[h]
    · rw[if_neg hp,ih]; simp[hp]
theorem BS {f:FuncId} {xs cap:List V} (h:∀ v∈xs,Tree v) (h2:∀ v∈cap,Tree v):Tree (.fn f xs cap):=by
  refine .fn _ _ _ (fun i hi=>?_) (fun i hi=>?_)
  · have e2:xs.getD i .any=xs[i]:=by simp[List.getD_eq_getElem?_getD,hi]
    rw[e2]; exact h _ (List.getElem_mem _)
  · have e2:cap.getD i .any=cap[i]:=by simp[List.getD_eq_getElem?_getD,hi]
    rw[e2]; exact h2 _ (List.getElem_mem _)
def gx:SC :=
  .seq (ak [aR 9 .lss 8 7]) <|
  .seq (.cond (.tmp 9) (.skip) (.exit 0)) <|
  .seq (.block 1 (.seq (ak [ae 10 8,ae 5 10]) <|
  .seq (ak [ae 11 1,ae 12 0,ae 13 5,aQ 14 1 12 13,an 15 14,((some 16),.call (.tmp 11) [(.tmp 15)])]) <|
  .cond (.tmp 16) (.seq (ak [ae 17 5,ae 4 17]) <|
  .ret) (.skip))) <|
  ak [ax 18 .add 8 1,ae 8 18]
def gW:SF:=⟨.seq (ak [aH 4 0]) <|
  .seq (.seq (ak [ae 6 0,aP 7 6,aH 8 0]) <|
  .block 0 (.loop gx)) <|
  .seq (ak [aH 4 (-1)]) <|
  .ret,
  [.tmp 4],19⟩
theorem lj:aU Tryz.prog 88 []=some gW:=by kernel_rfl
def gn:SF:=⟨.seq (ak [bg 4 false]) <|
  .seq (ak [ae 5 0,ae 6 1,aL 7 88 [5,6],ax 8 .geq 7 0,ae 4 8]) <|
  .ret,
  [.tmp 4],9⟩
theorem j5:aU Tryz.prog 46 []=some gn:=by kernel_rfl
def eZ:SC :=
  .seq (ak [aR 9 .lss 8 7]) <|
  .seq (.cond (.tmp 9) (.skip) (.exit 0)) <|
  .seq (.block 1 (.seq (ak [ae 10 8,ae 5 10]) <|
  .seq (ak [ae 11 1,ae 12 0,ae 13 5,aQ 14 1 12 13,an 15 14,((some 16),.call (.tmp 11) [(.tmp 15)])]) <|
  .cond (.tmp 16) (.seq (ak [ae 17 5,ae 4 17]) <|
  .ret) (.skip))) <|
  ak [ax 18 .add 8 1,ae 8 18]
def fA:SF:=⟨.seq (ak [aH 4 0]) <|
  .seq (.seq (ak [ae 6 0,aP 7 6,aH 8 0]) <|
  .block 0 (.loop eZ)) <|
  .seq (ak [aH 4 (-1)]) <|
  .ret,
  [.tmp 4],19⟩
theorem jf:aU Tryz.prog 134 []=some fA:=by kernel_rfl
def eQ:SF:=⟨.seq (ak [bg 4 false]) <|
  .seq (ak [ae 5 0,ae 6 1,aL 7 134 [5,6],ax 8 .geq 7 0,ae 4 8]) <|
  .ret,
  [.tmp 4],9⟩
theorem iw:aU Tryz.prog 84 []=some eQ:=by kernel_rfl
theorem Df (l:List Int) (hl:aN l) (f:FuncId) (cap:List V) (p:Int→Bool) (hf:∀ x∈l,aF Tryz.prog f (gi x :: cap) (gb (p x))) (hok:cX Tryz.prog f=true) (H:View) :
    az Tryz.prog 88 [encI l,.fn f [] cap] H fun r _=>r=gi (cI p l 0):=by
  refine az.of mixed lj ?_
  unfold aN at hl
  simp (disch:=omega) only [↓wr,↓reduceIte,wq,ah,aj,Nat.reduceAdd,Nat.reduceLeDiff,Int.reduceNeg,reduceCtorEq,gW,encI]
  refine bc.up l.length (fun i T _=>cI p (l.drop i) i=cI p l 0∧T 0=encI l∧T 1=.fn f [] cap∧T 7=gi l.length∧T 8=gi i) ⟨rfl,rfl,rfl,rfl,rfl⟩ ?_
  rintro i k T H hk ⟨hi,h0,h1,h7,h8⟩
  simp (disch:=omega) only [↓wr,↓reduceIte,wq,ag,Int.reduceNeg,reduceCtorEq,gx,h7,h8,encI]
  refine ar.dec (fun hc=>?_) (fun hc=>?_)
  · have hg:l[i]?=some (l[i]'(by omega)):=List.getElem?_eq_getElem (by omega)
    have hm:l[i]'(by omega)∈l:=List.getElem_mem _
    rw[c9 (show i < l.length by omega)] at hi
    generalize l[i]'(by omega)=x at hg hm hi
    simp (disch:=omega) only [↓wr,↓reduceIte,wq,Nat.reduceEqDiff,Nat.reduceLT,Int.reduceNeg,reduceCtorEq,h0,h1,h8,encI,List.getElem?_map,hg]
    refine aC.pure (hf x hm) hok ?_
    simp only[cI] at hi
    repeat' (first | (refine ar.dec (fun _=>?_) (fun _=>?_)) | (refine ar.eq (fun _=>?_) (fun _=>?_)) | (refine ar.ne (fun _=>?_) (fun _=>?_)) | (refine ar.split (fun _=>?_) (fun _=>?_)) | (simp (disch:=omega) only [↓wr,↓reduceIte,wq,ag,Nat.reduceEqDiff,Int.reduceNeg,reduceCtorEq,h8]))
    · rename_i hp
      rw[← hi,if_pos hp]
    · rename_i hp
      refine aJ hk (by omega) ⟨?_,h0,h1,h7,rfl⟩
      rw[if_neg (by simp[hp])] at hi
      push_cast; exact hi
  · rw[List.drop_eq_nil_of_le (by omega)] at hi
    simp (disch:=omega) only [↓wr,↓reduceIte,wq,Nat.reduceEqDiff,Int.reduceNeg,reduceCtorEq]
    rw[← hi]; rfl
theorem xE {l:List Int} {f:FuncId} {cap:List V} (hcap:∀ v∈cap,Tree v):∀ v∈[encI l,.fn f [] cap],Tree v:=by
  intro v hv; simp at hv
  rcases hv with rfl | rfl
  · exact bX l
  · exact BS (by simp) hcap
theorem qX (l:List Int) (hl:aN l) (f:FuncId) (cap:List V) (hcap:∀ v∈cap,Tree v) (p:Int→Bool) (hf:∀ x∈l,aF Tryz.prog f (gi x :: cap) (gb (p x))) (hok:cX Tryz.prog f=true) :
    aF Tryz.prog 46 [encI l,.fn f [] cap] (gb (l.any p)):=by
  refine aF.val (xE hcap) fun H=>?_
  refine az.of mixed j5 ?_
  simp (disch:=omega) only [↓wr,↓reduceIte,wq,ah,Nat.reduceEqDiff,Nat.reduceAdd,Nat.reduceLeDiff,reduceCtorEq,gn]
  refine aC.pure (aF.val (xE hcap) (Df l hl f cap p hf hok)) (by kernel_rfl) ?_
  simp (disch:=omega) only [↓wr,↓reduceIte,wq,ag,reduceCtorEq]
  rw[← nM p l 0 (by omega)]
theorem Dq (l:List ByteArray) (hl:aN l) (f:FuncId) (cap:List V) (p:ByteArray→Bool) (hf:∀ x∈l,aF Tryz.prog f (gs x :: cap) (gb (p x))) (hok:cX Tryz.prog f=true) (H:View) :
    az Tryz.prog 134 [encS l,.fn f [] cap] H fun r _=>r=gi (cI p l 0):=by
  refine az.of mixed jf ?_
  unfold aN at hl
  simp (disch:=omega) only [↓wr,↓reduceIte,wq,ah,aj,Nat.reduceAdd,Nat.reduceLeDiff,Int.reduceNeg,reduceCtorEq,fA,encS]
  refine bc.up l.length (fun i T _=>cI p (l.drop i) i=cI p l 0∧T 0=encS l∧T 1=.fn f [] cap∧T 7=gi l.length∧T 8=gi i) ⟨rfl,rfl,rfl,rfl,rfl⟩ ?_
  rintro i k T H hk ⟨hi,h0,h1,h7,h8⟩
  simp (disch:=omega) only [↓wr,↓reduceIte,wq,ag,Int.reduceNeg,reduceCtorEq,eZ,h7,h8,encS]
  refine ar.dec (fun hc=>?_) (fun hc=>?_)
  · have hg:l[i]?=some (l[i]'(by omega)):=List.getElem?_eq_getElem (by omega)
    have hm:l[i]'(by omega)∈l:=List.getElem_mem _
    rw[c9 (show i < l.length by omega)] at hi
    generalize l[i]'(by omega)=x at hg hm hi
    simp (disch:=omega) only [↓wr,↓reduceIte,wq,Nat.reduceEqDiff,Nat.reduceLT,Int.reduceNeg,reduceCtorEq,h0,h1,h8,encS,List.getElem?_map,hg]
    refine aC.pure (hf x hm) hok ?_
    simp only[cI] at hi
    repeat' (first | (refine ar.dec (fun _=>?_) (fun _=>?_)) | (refine ar.eq (fun _=>?_) (fun _=>?_)) | (refine ar.ne (fun _=>?_) (fun _=>?_)) | (refine ar.split (fun _=>?_) (fun _=>?_)) | (simp (disch:=omega) only [↓wr,↓reduceIte,wq,ag,Nat.reduceEqDiff,Int.reduceNeg,reduceCtorEq,h8]))
    · rename_i hp
      rw[← hi,if_pos hp]
    · rename_i hp
      refine aJ hk (by omega) ⟨?_,h0,h1,h7,rfl⟩
      rw[if_neg (by simp[hp])] at hi
      push_cast; exact hi
  · rw[List.drop_eq_nil_of_le (by omega)] at hi
    simp (disch:=omega) only [↓wr,↓reduceIte,wq,Nat.reduceEqDiff,Int.reduceNeg,reduceCtorEq]
    rw[← hi]; rfl
theorem xT {l:List ByteArray} {f:FuncId} {cap:List V} (hcap:∀ v∈cap,Tree v):∀ v∈[encS l,.fn f [] cap],Tree v:=by
  intro v hv; simp at hv
  rcases hv with rfl | rfl
  · exact wZ l
  · exact BS (by simp) hcap
theorem zi (l:List ByteArray) (hl:aN l) (f:FuncId) (cap:List V) (hcap:∀ v∈cap,Tree v) (p:ByteArray→Bool) (hf:∀ x∈l,aF Tryz.prog f (gs x :: cap) (gb (p x))) (hok:cX Tryz.prog f=true) :
    aF Tryz.prog 84 [encS l,.fn f [] cap] (gb (l.any p)):=by
  refine aF.val (xT hcap) fun H=>?_
  refine az.of mixed iw ?_
  simp (disch:=omega) only [↓wr,↓reduceIte,wq,ah,Nat.reduceEqDiff,Nat.reduceAdd,Nat.reduceLeDiff,reduceCtorEq,eQ]
  refine aC.pure (aF.val (xT hcap) (Dq l hl f cap p hf hok)) (by kernel_rfl) ?_
  simp (disch:=omega) only [↓wr,↓reduceIte,wq,ag,reduceCtorEq]
  rw[← nM p l 0 (by omega)]
theorem CZ {l:List Value} : ∀ v∈l.map V.val,Tree v:=by
  intro v hv; obtain ⟨x,_,rfl⟩:=List.mem_map.1 hv; exact .val _
def x5:SF:=⟨.seq (ak [bg 6 false]) <|
  .seq (.region false [⟨none,[ae 7 0,ae 8 1,aR 9 .geq 7 8,ae 10 9]⟩,⟨(some (10,true)),[ae 11 0,ae 12 2,aR 13 .leq 11 12]⟩,⟨none,[bN 14 10 13,ae 6 14]⟩]) <|
  .ret,
  [.tmp 6],15⟩
theorem AW:aU Tryz.prog 82 []=some x5:=by kernel_rfl
def CK:SF:=⟨.seq (ak [aH 2 0]) <|
  .seq (ak [ae 3 0,((some 4),.op (.arith .sub (.val (.val (.int .i64 (-1)))) (.tmp 3))),ae 2 4]) <|
  .ret,
  [.tmp 2],5⟩
theorem DU:aU Tryz.prog 190 []=some CK:=by kernel_rfl
def Db:SF:=⟨.seq (ak [cx 2 0,bg 4 false]) <|
  .seq (.seq (ak [ae 5 1,ax 6 .lss 5 0]) <|
  .cond (.tmp 6) (.seq (.region true [⟨none,[ae 7 1,aL 8 190 [7],aq 9 1 2,an 10 9,aP 11 10,aR 12 .lss 8 11,ae 4 12]⟩]) <|
  .ret) (.skip)) <|
  .seq (ak [ae 13 1,aq 14 0 2,an 15 14,aP 16 15,aR 17 .lss 13 16,ae 4 17]) <|
  .ret,
  [.tmp 4],18⟩
theorem ET:aU Tryz.prog 138 [2]=some Db:=by kernel_rfl
def w6:SF:=⟨.seq (ak [bg 4 false]) <|
  .seq (.region false [⟨none,[aT 5 4 1,ae 6 0,aL 7 138 [5,6],cd 8 7,ae 9 8]⟩,⟨(some (9,false)),[ae 10 0,ax 11 .geq 10 0,ae 12 11]⟩,⟨(some (12,true)),[aq 13 2 2,an 14 13,ax 15 .eql 14 (-1)]⟩,⟨(some (9,false)),[bN 16 12 15]⟩,⟨none,[bH 17 9 16,ae 4 17]⟩]) <|
  .ret,
  [.tmp 4],18⟩
theorem Bb:aU Tryz.prog 137 []=some w6:=by kernel_rfl
def Au:SF:=⟨.seq (ak [cx 2 0,cx 3 1,bg 4 false]) <|
  .seq (.seq (.region false [⟨none,[aq 5 1 3,an 6 5,aP 7 6,ax 8 .gtr 7 6,ae 9 8]⟩,⟨(some (9,false)),[aq 10 2 3,an 11 10,aq 12 0 2,an 13 12,aP 14 13,ax 15 .sub 14 1,cL 16 82 [(.tmp 11),(.val (.val (.int .i64 (-1)))),(.tmp 15)],cd 17 16]⟩,⟨none,[bH 18 9 17]⟩]) <|
  .cond (.tmp 18) (.seq (ak [bg 4 false]) <|
  .ret) (.skip)) <|
  .seq (ak [aq 19 1 3,an 20 19,((some 21),.op (.uV 137 [] [(.tmp 2),(.tmp 3)])),aL 22 46 [20,21],cd 23 22,ae 4 23]) <|
  .ret,
  [.tmp 4],24⟩
theorem Dh:aU Tryz.prog 87 [2,3]=some Au:=by kernel_rfl
theorem qE (a b c:Int):aF Tryz.prog 82 [gi a,gi b,gi c] (gb (decide (b≤a) && decide (a≤c))):=by
  refine aF.val (CZ (l:=[.int .i64 a,.int .i64 b,.int .i64 c])) fun H=>?_
  refine az.of mixed AW ?_
  repeat' (first | (refine ar.dec (fun _=>?_) (fun _=>?_)) | (refine ar.eq (fun _=>?_) (fun _=>?_)) | (refine ar.ne (fun _=>?_) (fun _=>?_)) | (refine ar.split (fun _=>?_) (fun _=>?_)) | (simp (disch:=omega) only [↓wr,↓reduceIte,wq,ah,ag,Nat.reduceEqDiff,Nat.reduceAdd,Nat.reduceLeDiff,reduceCtorEq,x5]))
  all_goals simp[*]
theorem MW (s:Int) (hs:bM s):aF Tryz.prog 190 [gi s] (gi (-1 - s)):=by
  refine aF.val (CZ (l:=[.int .i64 s])) fun H=>?_
  obtain ⟨h1,h2⟩:=hs
  refine az.of mixed DU ?_
  repeat' (first | (refine ar.dec (fun _=>?_) (fun _=>?_)) | (refine ar.eq (fun _=>?_) (fun _=>?_)) | (refine ar.ne (fun _=>?_) (fun _=>?_)) | (refine ar.split (fun _=>?_) (fun _=>?_)) | (simp (disch:=omega) only [↓wr,↓reduceIte,wq,ah,ag,Nat.reduceLeDiff,Int.reduceNeg,reduceCtorEq,CK]))
theorem Nf (g:ao) (s:Int) (hs:bM s):aF Tryz.prog 138 [.agg (al g),gi s] (gb (im g s)):=by
  refine aF.val (u7 g s) fun H=>?_
  refine az.of mixed ET ?_
  repeat' (first | (refine ar.dec (fun _=>?_) (fun _=>?_)) | (refine ar.eq (fun _=>?_) (fun _=>?_)) | (refine ar.ne (fun _=>?_) (fun _=>?_)) | (refine ar.split (fun _=>?_) (fun _=>?_)) | (refine aC.pure (MW s hs) (by kernel_rfl) ?_) | (simp (disch:=omega) only [↓wr,↓reduceIte,wq,ah,ag,aj,Nat.reduceEqDiff,Nat.reduceAdd,Nat.reduceLT,Nat.reduceLeDiff,Int.reduceNeg,reduceCtorEq,Db,al,encS]))
  · rename_i h; simp[im,show ¬ (0:Int)≤s by omega]
  · rename_i h; simp[im,show (0:Int)≤s by omega]
theorem aF.bool {f:FuncId} {vs:List V} {a b:Bool} (h:aF Tryz.prog f vs (gb a)) (e:a=b):aF Tryz.prog f vs (gb b):=e ▸ h
theorem jE {cs:List V} {j:Nat} (h:∀ v∈cs,Tree v):Tree (.aS cs j):=by
  refine .aS _ _ fun i hi=>?_
  have e2:cs.getD i .any=cs[i]:=by simp[List.getD_eq_getElem?_getD,hi]
  rw[e2]; exact h _ (List.getElem_mem _)
theorem IA (g:ao) (r:aM) (s:Int) (hs:bM s):aF Tryz.prog 137 [gi s,.aS (al g) 0,.aS (aK r) 0] (gb (!lk g r.prec s)):=by
  refine aF.val ?_ fun H=>?_
  · intro v hv; simp at hv
    rcases hv with rfl | rfl | rfl
    · exact .val _
    · exact jE (cO g)
    · exact jE (eK r)
  refine az.of mixed Bb ?_
  simp (disch:=omega) only [↓wr,↓reduceIte,wq,ah,Nat.reduceEqDiff,Nat.reduceAdd,Nat.reduceLeDiff,Int.reduceNeg,reduceCtorEq,w6,al]
  refine aC.pure (Nf g s hs) (by kernel_rfl) ?_
  repeat' (first | (refine ar.dec (fun _=>?_) (fun _=>?_)) | (refine ar.eq (fun _=>?_) (fun _=>?_)) | (refine ar.ne (fun _=>?_) (fun _=>?_)) | (refine ar.split (fun _=>?_) (fun _=>?_)) | (simp (disch:=omega) only [↓wr,↓reduceIte,wq,ag,Nat.reduceEqDiff,Nat.reduceAdd,Nat.reduceLT,Int.reduceNeg,reduceCtorEq,aK]))
  all_goals simp[lk, *]
theorem K5 (g:ao) (r:aM) (hg:g.Ok) (hr:aN r.right∧∀ x∈r.right,bM x):aF Tryz.prog 87 [.agg (al g),.agg (aK r)] (gb (gv g r)):=by
  refine aF.val (D3 g r) fun H=>?_
  have ht:=hg.ay
  unfold aN at ht
  refine az.of mixed Dh ?_
  repeat' (first | (refine ar.dec (fun _=>?_) (fun _=>?_)) | (refine ar.eq (fun _=>?_) (fun _=>?_)) | (refine ar.ne (fun _=>?_) (fun _=>?_)) | (refine ar.split (fun _=>?_) (fun _=>?_)) | (refine aC.pure (qE _ _ _) (by kernel_rfl) ?_) | (simp (disch:=omega) only [↓wr,↓reduceIte,wq,ah,ag,aj,Nat.reduceEqDiff,Nat.reduceAdd,Nat.reduceLT,Nat.reduceLeDiff,Int.reduceNeg,reduceCtorEq,Au,al,aK,encI,encS]))
  · rename_i h; simp[gv,show ¬ r.right.length≤6 by omega]
  · rename_i h1 h2
    have h3:r.right.length≤6:=by omega
    have h2' : -1≤r.prec∧r.prec < g.ay.length:=by simp at h2; omega
    refine aC.pure (qX r.right hr.1 137 [.aS (al g) 0,.aS (aK r) 0] ?_ (fun s=>!lk g r.prec s) (fun x hx=>IA g r x (hr.2 x hx)) (by kernel_rfl)) (by kernel_rfl) ?_
    · intro v hv; simp at hv
      rcases hv with rfl | rfl
      · exact jE (cO g)
      · exact jE (eK r)
    simp (disch:=omega) only [↓wr,↓reduceIte,wq,Int.reduceNeg,reduceCtorEq]
    simp[gv,h3,h2'.1,h2'.2]
    rw[Bool.eq_iff_iff]
    simp
  · rename_i h1 h2
    have h3:¬ (-1≤r.prec∧r.prec < g.ay.length):=by simp at h2; omega
    have:(decide (-1≤r.prec) && decide (r.prec < (g.ay.length:Int)))=false:=by
      rw[← Bool.decide_and]; simpa using h3
    simp only[gv,Bool.and_assoc]
    rw[← Bool.and_assoc (decide (-1≤r.prec)),this]; simp
theorem Kx (l:List Int) (h0:l.getD 0 0=39):((ln l).2 == 0 && (ln l).1 == (l.length:Int))=lr l:=by
  match l,h0 with
  | [],h=>simp at h
  | [a],_=>rfl
  | [a,b],_ =>
    simp only[ln,jG,lr,List.length_cons,List.length_nil,List.getD_cons_succ,List.getD_cons_zero]
    repeat' split
    all_goals simp_all
  | [a,b,c],h0 =>
    have ha:a=39:=by simpa using h0
    subst ha
    simp only[ln,jG,lr,xK,Bn,List.length_cons,List.length_nil,List.getD_cons_succ,List.getD_cons_zero]
    repeat' split
    all_goals simp_all
    all_goals grind
  | [a,b,c,d],h0 =>
    have ha:a=39:=by simpa using h0
    subst ha
    simp only[ln,jG,lr,xK,Bn,List.length_cons,List.length_nil,List.getD_cons_succ,List.getD_cons_zero]
    repeat' split
    all_goals simp_all
    all_goals grind
  | a :: b :: c :: d :: e :: r,h0 =>
    simp only[ln,jG,lr,xK,Bn,List.length_cons,List.getD_cons_succ,List.getD_cons_zero]
    repeat' split
    all_goals simp_all
    all_goals (try omega)
    all_goals grind
theorem G8 {c:Int} {l:List Int} (h:¬ c=39):lr (c :: l)=false:=by
  match l with
  | []=>rfl
  | [_]=>rfl
  | [_,_]=>simp[lr,h]
  | [_,_,_]=>simp[lr,h]
  | _ :: _ :: _ :: _ :: _=>rfl
theorem J1 (s:ByteArray):aF Tryz.prog 186 [gs s] (gb (lr (ey s))):=by
  refine aF.val (nP s) fun H=>?_
  refine az.of mixed zk ?_
  have hcr:=fun d (hd:d∈ey s)=>Cu (s:=s) (c:=d) hd
  have hP:aF Tryz.prog 227 [.aY (fp s)] (.bt [gi (ln (ey s)).1,gi (ln (ey s)).2]):=by
    rw[I8]
    refine aF.of ?_ ((GS (ey s) hcr _).mono fun r H' h h' _=>by rw[h]; exact .tree _ (.bt _ fun i hi=>by
      match i,hi with
      | 0,_=>exact .val _
      | 1,_=>exact .val _))
    intro v hv; simp at hv; subst hv
    exact eV _ _ fun x _ v hv=>by simp at hv; subst hv; exact .val _
  cases hb:ey s with
  | nil =>
    repeat' (first | (refine ar.dec (fun _=>?_) (fun _=>?_)) | (refine ar.eq (fun _=>?_) (fun _=>?_)) | (refine ar.ne (fun _=>?_) (fun _=>?_)) | (refine ar.split (fun _=>?_) (fun _=>?_)) | (simp (disch:=omega) only [↓wr,↓reduceIte,wq,ah,Nat.reduceEqDiff,Nat.reduceLeDiff,reduceCtorEq,pR,w8,hb]))
    rfl
  | cons c l =>
    have hl:=Kx (ey s)
    rw[hb] at hP hl
    repeat' (first | (refine ar.dec (fun _=>?_) (fun _=>?_)) | (refine ar.eq (fun _=>?_) (fun _=>?_)) | (refine ar.ne (fun _=>?_) (fun _=>?_)) | (refine ar.split (fun _=>?_) (fun _=>?_)) | (simp (disch:=omega) only [↓wr,↓reduceIte,wq,ah,ag,Nat.reduceEqDiff,Nat.reduceLeDiff,Int.reduceToNat,reduceCtorEq,pR,w8,hb,List.getElem?_cons_zero]))
    · rename_i h
      rw[G8 h]
    · rename_i h
      refine aC.pure hP (by kernel_rfl) ?_
      have hl:=hl (by simpa using h)
      repeat' (first | (refine ar.dec (fun _=>?_) (fun _=>?_)) | (refine ar.eq (fun _=>?_) (fun _=>?_)) | (refine ar.ne (fun _=>?_) (fun _=>?_)) | (refine ar.split (fun _=>?_) (fun _=>?_)) | (simp (disch:=omega) only [↓wr,↓reduceIte,wq,ag,aj,Nat.reduceEqDiff,Nat.reduceAdd,Nat.reduceLT,reduceCtorEq,dN,hb]))
      · rename_i h2
        rw[← hl]; simp[h2]
      · rename_i h2
        rw[← hl]; simp[h2]
theorem Ib (s:ByteArray):aF Tryz.prog 129 [gs s] (gb (oX (ey s))):=by
  refine aF.val (nP s) fun H=>?_
  refine az.of mixed BH ?_
  repeat' (first | (refine ar.dec (fun _=>?_) (fun _=>?_)) | (refine ar.eq (fun _=>?_) (fun _=>?_)) | (refine ar.ne (fun _=>?_) (fun _=>?_)) | (refine ar.split (fun _=>?_) (fun _=>?_)) | (refine aC.pure (EI s) (by kernel_rfl) ?_) | (refine aC.pure (J1 s) (by kernel_rfl) ?_) | (simp (disch:=omega) only [↓wr,↓reduceIte,wq,ah,Nat.reduceEqDiff,Nat.reduceLeDiff,reduceCtorEq,yN]))
  all_goals simp[oX, *]
theorem Gi (s:ByteArray):aF Tryz.prog 85 [gs s] (gb (!fe (ey s))):=by
  refine aF.val (nP s) fun H=>?_
  refine az.of mixed zu ?_
  repeat' (first | (refine ar.dec (fun _=>?_) (fun _=>?_)) | (refine ar.eq (fun _=>?_) (fun _=>?_)) | (refine ar.ne (fun _=>?_) (fun _=>?_)) | (refine ar.split (fun _=>?_) (fun _=>?_)) | (refine aC.pure (EI s) (by kernel_rfl) ?_) | (simp (disch:=omega) only [↓wr,↓reduceIte,wq,ah,Nat.reduceLeDiff,reduceCtorEq,vX]))
def tY:SC :=
  .seq (ak [aR 12 .lss 11 10]) <|
  .seq (.cond (.tmp 12) (.skip) (.exit 0)) <|
  .seq (.block 1 (.seq (.region false [⟨none,[aQ 13 3 9 11,aT 14 3 13,((some 6),.op (.alloc [(.val (.string ⟨#[]⟩)),(.val (.int .i64 0)),(.val (.int .i64 0))])),(none,.op (.store 3 (.tmp 6) (.tmp 14)))]⟩]) <|
  .seq (.seq (ak [aq 15 1 6,an 16 15,ax 17 .eql 16 0]) <|
  .cond (.tmp 17) (.exit 1) (.skip)) <|
  .seq (.seq (ak [ae 18 3,aq 19 1 6,an 20 19,((some 21),.op (.old (.lookup 230 (.tmp 18) (.tmp 20) false) 3)),ae 7 21]) <|
  .seq (.region false [⟨none,[ae 22 7,ax 23 .neq 22 0,ae 24 23]⟩,⟨(some (24,true)),[ae 25 7,aq 26 2 6,an 27 26,aR 28 .neq 25 27]⟩,⟨none,[bN 29 24 28]⟩]) <|
  .cond (.tmp 29) (.seq (ak [bg 2 false]) <|
  .ret) (.skip)) <|
  .seq (ak [ae 30 3,aq 31 1 6,an 32 31,aq 33 2 6,an 34 33,(none,.op (.old (.mapUpdate 230 (.tmp 30) (.tmp 32) (.tmp 34)) 0))]) <|
  ak [ae 35 4,aq 36 1 6,an 37 36,((some 38),.op (.mm true (.tmp 35) (.tmp 37))),ae 4 38])) <|
  ak [ax 39 .add 11 1,ae 11 39]
def xp:SF:=⟨.seq (ak [bg 2 false]) <|
  .seq (ak [((some 8),.op (.sA)),ae 3 8]) <|
  .seq (ak [aH 4 0]) <|
  .seq (.seq (ak [ae 9 0,aP 10 9,aH 11 0]) <|
  .block 0 (.loop tY)) <|
  .seq (ak [ae 40 3,((some 41),.op (.old (.call { callee:=.builtin .len,args:=#[(.tmp 40)],argTypes:=#[230] }) 3)),ae 42 4,aR 43 .eql 41 42,ae 2 43]) <|
  .ret,
  [.tmp 2],44⟩
theorem Aa:aU Tryz.prog 130 []=some xp:=by kernel_rfl
def vS:SC :=
  .seq (ak [aR 8 .lss 7 6]) <|
  .seq (.cond (.tmp 8) (.skip) (.exit 0)) <|
  .seq (.block 1 (.seq (.region false [⟨none,[aQ 9 3 5 7,aT 10 3 9,((some 4),.op (.alloc [(.val (.string ⟨#[]⟩)),(.val (.int .i64 0)),(.val (.int .i64 0))])),(none,.op (.store 3 (.tmp 4) (.tmp 10)))]⟩]) <|
  .seq (.region false [⟨none,[aq 11 0 4,an 12 11,aL 13 129 [12],cd 14 13,ae 15 14]⟩,⟨(some (15,false)),[aq 16 1 4,an 17 16,cL 18 82 [(.tmp 17),(.val (.val (.int .i64 0))),(.val (.val (.int .i64 24)))],cd 19 18]⟩,⟨none,[bH 20 15 19,ae 21 20]⟩,⟨(some (21,false)),[aq 22 2 4,an 23 22,cL 24 82 [(.tmp 23),(.val (.val (.int .i64 0))),(.val (.val (.int .i64 3)))],cd 25 24]⟩,⟨none,[bH 26 21 25,ae 27 26]⟩,⟨(some (27,false)),[aq 28 1 4,an 29 28,ax 30 .eql 29 0,aq 31 2 4,an 32 31,ax 33 .eql 32 0,((some 34),.op (.beq false (.tmp 30) (.tmp 33)))]⟩,⟨none,[bH 35 27 34]⟩]) <|
  .cond (.tmp 35) (.seq (ak [bg 2 false]) <|
  .ret) (.skip))) <|
  ak [ax 36 .add 7 1,ae 7 36]
def y0:SF:=⟨.seq (ak [bg 2 false]) <|
  .seq (.seq (ak [ae 5 0,aP 6 5,aH 7 0]) <|
  .block 0 (.loop vS)) <|
  .seq (.region false [⟨none,[ae 37 0,aP 38 37,ax 39 .leq 38 24,ae 40 39]⟩,⟨(some (40,true)),[ae 41 0,aL 42 130 [41]]⟩,⟨none,[bN 43 40 42,ae 2 43]⟩]) <|
  .ret,
  [.tmp 2],44⟩
theorem Bv:aU Tryz.prog 81 []=some y0:=by kernel_rfl
def vQ:SC :=
  .seq (ak [aR 16 .lss 15 14]) <|
  .seq (.cond (.tmp 16) (.skip) (.exit 0)) <|
  .seq (.block 1 (.seq (.region false [⟨none,[aQ 17 3 13 15,aT 18 3 17,((some 5),.op (.alloc [(.val (.string ⟨#[]⟩)),(.val (.int .i64 0)),(.val (.int .i64 0))])),(none,.op (.store 3 (.tmp 5) (.tmp 18)))]⟩]) <|
  .region false [⟨none,[ae 19 3,aq 20 0 5,an 21 20,((some 22),.op (.bA 1 1 [(.val (.string ⟨#[]⟩))] [(0,(.tmp 21))])),((some 23),.op (.app 1 16 (.tmp 19) (.tmp 22))),ae 3 23]⟩])) <|
  ak [ax 24 .add 15 1,ae 15 24]
def we:SC :=
  .seq (ak [aR 65 .lss 64 63]) <|
  .seq (.cond (.tmp 65) (.skip) (.exit 2)) <|
  .seq (.block 3 (.seq (ak [aQ 66 3 62 64,aT 67 3 66,((some 8),.op (.alloc [(.val (.int .i64 0)),(.emp 1),(.val (.int .i64 0))])),(none,.op (.store 3 (.tmp 8) (.tmp 67)))]) <|
  .seq (.seq (.region false [⟨none,[aq 68 0 8,an 69 68,ae 70 6,cL 71 82 [(.tmp 69),(.val (.val (.int .i64 0))),(.tmp 70)],cd 72 71,ae 73 72]⟩,⟨(some (73,false)),[aT 74 4 1,aT 75 3 8,aL 76 87 [74,75],cd 77 76]⟩,⟨none,[bH 78 73 77]⟩]) <|
  .cond (.tmp 78) (.seq (ak [bg 2 false]) <|
  .ret) (.skip)) <|
  ak [ae 79 6,aq 80 0 8,an 81 80,ax 82 .add 81 1,((some 83),.op (.mm true (.tmp 79) (.tmp 82))),ae 6 83])) <|
  ak [ax 84 .add 64 1,ae 64 84]
def yE:SF:=⟨.seq (ak [cx 1 0,bg 2 false]) <|
  .seq (ak [aq 9 1 1,an 10 9,aL 11 80 [10],ae 3 11]) <|
  .seq (.seq (ak [aq 12 0 1,an 13 12,aP 14 13,aH 15 0]) <|
  .block 0 (.loop vQ)) <|
  .seq (.seq (.region false [⟨none,[aq 25 0 1,an 26 25,aL 27 81 [26],cd 28 27,ae 29 28]⟩,⟨(some (29,false)),[aq 30 1 1,an 31 30,aP 32 31,cL 33 82 [(.tmp 32),(.val (.val (.int .i64 1))),(.val (.val (.int .i64 16)))],cd 34 33]⟩,⟨none,[bH 35 29 34,ae 36 35]⟩,⟨(some (36,false)),[aq 37 2 1,an 38 37,aP 39 38,cL 40 82 [(.tmp 39),(.val (.val (.int .i64 1))),(.val (.val (.int .i64 40)))],cd 41 40]⟩,⟨none,[bH 42 36 41,ae 43 42]⟩,⟨(some (43,false)),[ae 44 3,aL 45 83 [44],cd 46 45]⟩,⟨none,[bH 47 43 46,ae 48 47]⟩,⟨(some (48,false)),[aq 49 3 1,an 50 49,aq 51 1 1,an 52 51,aP 53 52,ax 54 .sub 53 1,cL 55 82 [(.tmp 50),(.val (.val (.int .i64 0))),(.tmp 54)],cd 56 55]⟩,⟨none,[bH 57 48 56]⟩]) <|
  .cond (.tmp 57) (.seq (ak [bg 2 false]) <|
  .ret) (.skip)) <|
  .seq (.seq (ak [aq 58 1 1,an 59 58,cL 60 84 [(.tmp 59),(.val (.fn 85 [] []))]]) <|
  .cond (.tmp 60) (.seq (ak [bg 2 false]) <|
  .ret) (.skip)) <|
  .seq (ak [aH 6 0]) <|
  .seq (.seq (ak [aq 61 2 1,an 62 61,aP 63 62,aH 64 0]) <|
  .block 2 (.loop we)) <|
  .seq (ak [ae 85 6,aq 86 1 1,an 87 86,aP 88 87,aR 89 .eql 85 88,ae 2 89]) <|
  .ret,
  [.tmp 2],90⟩
theorem Bl:aU Tryz.prog 45 [1]=some yE:=by kernel_rfl
def dE (l:List Term):V:=.aY (l.map cr)
theorem Ai (l:List Term):∀ v∈[dE l],Tree v:=by intro v hv; simp at hv; subst hv; exact eV _ _ fun x _=>rV x
def lq:List Term→List (Int × Int)→Int→Option (List (Int × Int) × Int)
  | [],a,top=>some (a,top)
  | t :: r,a,top=>if t.level=0 then lq r a top else
      if (dw a t.level).getD 0≠0∧(dw a t.level).getD 0≠t.assoc then none else lq r (jg t.level t.assoc a) (if t.level > top then t.level else top)
def qM (l:List Term):Bool:=match lq l [] 0 with
  | some (a,top)=>(a.length:Int) == top
  | none=>false
set_option maxHeartbeats 1000000 in
theorem Hu (l:List Term) (hl:aN l):aF Tryz.prog 130 [dE l] (gb (qM l)):=by
  refine aF.val (Ai l) fun H=>?_
  refine az.of mixed Aa ?_
  unfold aN at hl
  simp (disch:=omega) only [↓wr,↓reduceIte,wq,ah,aj,Nat.reduceLeDiff,reduceCtorEq,xp,dE]
  intro q hq
  try simp (disch:=omega) only [↓wr,↓reduceIte,wq,ah,ag,aj,aa,ab,af,ai,isNil,Nat.reduceEqDiff,Nat.reduceAdd,Nat.reduceLT,Nat.reduceLeDiff,Int.reduceNeg,Int.reduceToNat,reduceCtorEq]
  refine bc.up l.length (fun i T H=>(∃ a m c top,H q=.map (c4 (Value.int .i64) m) c∧mg gi a m∧T 4=gi top∧lq (l.drop i) a top=lq l [] 0)∧T 0=dE l∧T 3=.mp q∧T 9=dE l∧T 10=gi l.length∧T 11=gi i) ?_ ?_
  · refine ⟨⟨[],[],0,0,?_,trivial,rfl,rfl⟩,rfl,rfl,rfl,rfl,rfl⟩
    simp[View.set,c4]
  rintro i k T H hk ⟨⟨a,m,c,top,hq,hm,h4,hi⟩,h0,h3,h9,h10,h11⟩
  simp (disch:=omega) only [↓wr,↓reduceIte,wq,ag,tY,h10,h11,dE]
  refine ar.dec (fun hc=>?_) (fun hc=>?_)
  · have hg:l[i]?=some (l[i]'(by omega)):=List.getElem?_eq_getElem (by omega)
    rw[c9 (show i < l.length by omega)] at hi
    generalize l[i]'(by omega)=t at hg hi
    simp only[lq] at hi
    simp (disch:=omega) only [↓wr,↓reduceIte,wq,ag,aa,Nat.reduceEqDiff,Nat.reduceAdd,Nat.reduceLT,Nat.reduceLeDiff,h9,h11,dE,cr,List.getElem?_map,hg]
    intro b hb
    have hbq:b≠q:=by rintro rfl; rw[hq] at hb; simp at hb
    try simp (disch:=omega) only [↓wr,↓reduceIte,wq,ah,ag,aj,aa,ab,af,ai,isNil,Nat.reduceEqDiff,Nat.reduceAdd,Nat.reduceLT,Nat.reduceLeDiff,Int.reduceNeg,Int.reduceToNat,reduceCtorEq]
    refine ar.eq (fun hz=>?_) (fun hz=>?_)
    · rw[if_pos hz] at hi
      simp (disch:=omega) only [↓wr,↓reduceIte,wq,ag,Nat.reduceEqDiff,Nat.reduceAdd,reduceCtorEq,h11]
      refine aJ hk (by omega) ⟨⟨a,m,c,top,?_,hm,h4,hi⟩,h0,h3,h9,h10,rfl⟩
      simp[View.set,hbq.symm,hq]
    · rw[if_neg hz] at hi
      simp (disch:=omega) only [↓wr,↓reduceIte,wq,Nat.reduceEqDiff,Nat.reduceAdd,Nat.reduceLT,h3]
      refine yz (kt:=3) (et:=3) (z:=gi 0) (by kernel_rfl) (by kernel_rfl) (ia .i64 Tryz.underlying3) (id:=q) (c:=c) (m:=m) (k:=t.level) (by simp (disch:=omega) only [↓wr,↓reduceIte,Nat.reduceEqDiff]) (by simp (disch:=omega) only [↓wr,↓reduceIte]) (by simp[View.set,hbq.symm,hq]) ?_
      have hgt:(getM m t.level).getD (gi 0)=gi ((dw a t.level).getD 0):=by
        rw[hm.get]; cases dw a t.level <;> rfl
      have hput:∀ (H2:View) (c':Nat) (T2:Env),(¬ ((dw a t.level).getD 0≠0∧(dw a t.level).getD 0≠t.assoc)) →
          H2 q=.map (c4 (Value.int .i64) (cT t.level (gi t.assoc) c m)) c'→T2 0=dE l→T2 3=.mp q→T2 4=gi (if t.level > top then t.level else top)→T2 9=dE l→T2 10=gi l.length→T2 11=gi ((i:Int)+1) →
          ∃ k',k' < k∧Es l.length k' (fun i T H=>(∃ a m c top,H q=.map (c4 (Value.int .i64) m) c∧mg gi a m∧T 4=gi top∧lq (l.drop i) a top=lq l [] 0)∧T 0=dE l∧T 3=.mp q∧T 9=dE l∧T 10=gi l.length∧T 11=gi i) T2 H2:=by
        intro H2 c' T2 hn g1 g2 g3 g4 g5 g6 g7
        rw[if_neg hn] at hi
        exact aJ hk (by omega) ⟨⟨_,_,c',_,g1,hm.put t.level t.assoc c,g4,hi⟩,g2,g3,g5,g6,by rw[g7]; rfl⟩
      repeat' (first | (refine ar.dec (fun _=>?_) (fun _=>?_)) | (refine ar.eq (fun _=>?_) (fun _=>?_)) | (refine ar.ne (fun _=>?_) (fun _=>?_)) | (refine ar.split (fun _=>?_) (fun _=>?_)) | (simp (disch:=omega) only [↓wr,↓reduceIte,wq,ag,Nat.reduceEqDiff,Nat.reduceAdd,Nat.reduceLT,reduceCtorEq,h3,h11,hgt]))
      · rename_i n1 n2
        rw[if_pos ⟨n1,n2⟩] at hi
        simp only[qM,← hi]
      · rename_i n1 n2
        refine xJ (kt:=3) (et:=3) (by kernel_rfl) (ia .i64 Tryz.underlying3) (id:=q) (c:=c) (m:=m) (k:=t.level) (v:=gi t.assoc) (by simp (disch:=omega) only [↓wr,↓reduceIte,Nat.reduceEqDiff]) (by simp (disch:=omega) only [↓wr,↓reduceIte,Nat.reduceEqDiff]) (by simp (disch:=omega) only [↓wr,↓reduceIte]) (by simp[View.set,hbq.symm,hq]) ?_
        intro c'
        simp (disch:=omega) only [↓wr,↓reduceIte,wq,ag,Nat.reduceEqDiff,Nat.reduceAdd,Nat.reduceLT,reduceCtorEq,h4,h11,hbq]
        exact hput _ c' _ (fun e=>e.2 n2) (by simp[View.set]) h0 h3 rfl h9 h10 rfl
      · rename_i n1
        refine xJ (kt:=3) (et:=3) (by kernel_rfl) (ia .i64 Tryz.underlying3) (id:=q) (c:=c) (m:=m) (k:=t.level) (v:=gi t.assoc) (by simp (disch:=omega) only [↓wr,↓reduceIte,Nat.reduceEqDiff]) (by simp (disch:=omega) only [↓wr,↓reduceIte,Nat.reduceEqDiff]) (by simp (disch:=omega) only [↓wr,↓reduceIte]) (by simp[View.set,hbq.symm,hq]) ?_
        intro c'
        simp (disch:=omega) only [↓wr,↓reduceIte,wq,ag,Nat.reduceEqDiff,Nat.reduceAdd,Nat.reduceLT,reduceCtorEq,h4,h11,hbq]
        exact hput _ c' _ (fun e=>e.1 n1) (by simp[View.set]) h0 h3 rfl h9 h10 rfl
  · rw[List.drop_eq_nil_of_le (by omega)] at hi
    simp only[lq] at hi
    simp (disch:=omega) only [↓wr,↓reduceIte,wq,Nat.reduceEqDiff,reduceCtorEq]
    refine OC (kt:=3) (et:=3) (by kernel_rfl) (id:=q) (c:=c) (m:=m) (by simp (disch:=omega) only [↓wr,↓reduceIte,Nat.reduceEqDiff,h3]) hq ?_
    simp (disch:=omega) only [↓wr,↓reduceIte,wq,ag,aj,Nat.reduceEqDiff,reduceCtorEq,h4,hm.len]
    simp only[qM,← hi]
def kf (t:Term):Bool:=oX (ey t.name) && decide (0≤t.level) && decide (t.level≤24) && decide (0≤t.assoc) && decide (t.assoc≤3) && ((t.level == 0) == (t.assoc == 0))
def rn (l:List Term):Bool:=l.all kf && decide (l.length≤24) && qM l
set_option maxHeartbeats 1000000 in
theorem Jr (l:List Term) (hl:aN l):aF Tryz.prog 81 [dE l] (gb (rn l)):=by
  refine aF.val (Ai l) fun H=>?_
  refine az.of mixed Bv ?_
  have hl2:=hl
  unfold aN at hl
  simp (disch:=omega) only [↓wr,↓reduceIte,wq,ah,aj,Nat.reduceLeDiff,reduceCtorEq,y0,dE]
  refine bc.up l.length (fun i T H=>(l.drop i).all kf=l.all kf∧T 0=dE l∧T 5=dE l∧T 6=gi l.length∧T 7=gi i) ?_ ?_
  · exact ⟨rfl,rfl,rfl,rfl,rfl⟩
  rintro i k T H hk ⟨hi,h0,h5,h6,h7⟩
  simp (disch:=omega) only [↓wr,↓reduceIte,wq,ag,aj,vS,h6,h7,dE]
  refine ar.dec (fun hc=>?_) (fun hc=>?_)
  · have hg:l[i]?=some (l[i]'(by omega)):=List.getElem?_eq_getElem (by omega)
    rw[c9 (show i < l.length by omega)] at hi
    generalize l[i]'(by omega)=t at hg hi
    rw[List.all_cons] at hi
    have hbad:kf t=false→gb false=gb (rn l):=fun e=>by rw[e,Bool.false_and] at hi; simp[rn,← hi]
    simp (disch:=omega) only [↓wr,↓reduceIte,wq,aa,Nat.reduceEqDiff,Nat.reduceAdd,Nat.reduceLT,Nat.reduceLeDiff,h5,h7,dE,cr,List.getElem?_map,hg]
    intro b hb
    repeat' (first | (refine ar.dec (fun _=>?_) (fun _=>?_)) | (refine ar.eq (fun _=>?_) (fun _=>?_)) | (refine ar.ne (fun _=>?_) (fun _=>?_)) | (refine ar.split (fun _=>?_) (fun _=>?_)) | (refine aC.pure (Ib t.name) (by kernel_rfl) ?_) | (refine aC.pure (qE _ _ _) (by kernel_rfl) ?_) | (simp (disch:=omega) only [↓wr,↓reduceIte,wq,ag,Nat.reduceEqDiff,Nat.reduceAdd,Nat.reduceLT,reduceCtorEq,h0,h7,dE]))
    all_goals first
      | (refine hbad ?_; simp[kf, *]; done)
      | (refine hbad ?_; simp_all [kf]; done)
      | skip
    rename_i e1 e2 e3 e4
    refine aJ hk (by omega) ⟨?_,h0,h5,h6,rfl⟩
    have:kf t=true:=by
      simp only[Bool.and_eq_true,decide_eq_true_eq] at e2 e3
      have e4':((t.level == 0) == (t.assoc == 0))=true:=by simpa [bne] using e4
      simp[kf,e1,e2.1,e2.2,e3.1,e3.2,e4']
    rw[this,Bool.true_and] at hi
    exact hi
  · rw[List.drop_eq_nil_of_le (by omega),List.all_nil] at hi
    simp (disch:=omega) only [↓wr,↓reduceIte,wq,ag,Nat.reduceEqDiff,reduceCtorEq,h0,dE]
    repeat' (first | (refine ar.dec (fun _=>?_) (fun _=>?_)) | (refine ar.eq (fun _=>?_) (fun _=>?_)) | (refine ar.ne (fun _=>?_) (fun _=>?_)) | (refine ar.split (fun _=>?_) (fun _=>?_)) | (refine aC.pure (Hu l hl2) (by kernel_rfl) ?_) | (simp (disch:=omega) only [↓wr,↓reduceIte,wq,Nat.reduceEqDiff,reduceCtorEq,h0,dE]))
    · rename_i h
      simp[rn,← hi,show l.length≤24 by omega]
    · rename_i h
      simp[rn,← hi,show ¬ l.length≤24 by omega]
open Go Go.Proofs Go.Shelf Go.RowKit Go.Sort
attribute [local go_sem] Oper.semAt_some
def jd:Ren where
  f:=fun
    | 6=>131
    | 8=>187
    | 9=>188
    | 11=>228
    | 13=>230
    | 12=>229
    | 23=>246
    | 24=>247
    | 14=>237
    | 15=>238
    | 16=>239
    | 17=>240
    | 18=>241
    | 19=>242
    | 20=>243
    | 21=>244
    | 22=>245
    | 25=>250
    | 26=>251
    | 27=>252
    | 28=>253
    | 29=>254
    | 30=>255
    | 31=>256
    | n=>n
  t:=fun
    | 26=>9
    | 28=>209
    | 24=>23
    | 0=>0
    | 3=>3
    | 37=>221
    | 48=>164
    | 50=>272
    | 4=>4
    | 40=>314
    | 39=>313
    | 45=>103
    | 5=>5
    | 9=>9
    | 51=>324
    | 55=>328
    | 57=>330
    | 58=>331
    | 33=>143
    | n=>n
  g:=fun n=>n
theorem Nb:Go.Proofs.SlLaysZ.n6 Tryz.prog jd where
  mixed:=by kernel_rfl
  f6:=⟨Tryz.f131.name,by kernel_rfl,by kernel_rfl⟩
  f8:=⟨Tryz.f187.name,by kernel_rfl,by kernel_rfl⟩
  f11:=⟨Tryz.f228.name,by kernel_rfl,by kernel_rfl⟩
  t0:=Tryz.underlying0
  a0:=Tryz.isAgg0
  z0:=Tryz.sizeOf0
  v0:=Tryz.zeroValue0
  t24:=Tryz.underlying23
  a24:=Tryz.isAgg23
  z24:=Tryz.sizeOf23
  v24:=Tryz.zeroValue23
  t26:=Tryz.underlying9
  a26:=Tryz.isAgg9
  z26:=Tryz.sizeOf9
  v26:=Tryz.zeroValue9
  t28:=Tryz.underlying209
  a28:=Tryz.isAgg209
  z28:=Tryz.sizeOf209
  v28:=Tryz.zeroValue209
  i26:=by kernel_rfl
def HO:Ren where
  f:=fun
    | 6=>188
    | 8=>230
    | 9=>229
    | 19=>246
    | 20=>247
    | 21=>237
    | 22=>238
    | 23=>239
    | 24=>240
    | 25=>241
    | 26=>242
    | 27=>243
    | 28=>244
    | 29=>245
    | 36=>250
    | 31=>251
    | 32=>252
    | 37=>253
    | 38=>254
    | 39=>255
    | 41=>256
    | n=>n
  t:=fun
    | 27=>23
    | 29=>9
    | 3=>3
    | 32=>221
    | 26=>23
    | 0=>0
    | 44=>164
    | 46=>272
    | 4=>4
    | 36=>314
    | 35=>313
    | 41=>103
    | 5=>5
    | 9=>9
    | 53=>324
    | 57=>328
    | 63=>330
    | 64=>331
    | n=>n
  g:=fun n=>n
theorem Mi:Go.Proofs.SlLaysM.n6 Tryz.prog HO where
  mixed:=by kernel_rfl
  f6:=⟨Tryz.f188.name,by kernel_rfl,by kernel_rfl⟩
  f8:=by kernel_rfl
  f9:=⟨Tryz.f229.name,by kernel_rfl,by kernel_rfl⟩
  f19:=by kernel_rfl
  f20:=by kernel_rfl
  f21:=⟨Tryz.f237.name,by kernel_rfl,by kernel_rfl⟩
  f22:=⟨Tryz.f238.name,by kernel_rfl,by kernel_rfl⟩
  f23:=⟨Tryz.f239.name,by kernel_rfl,by kernel_rfl⟩
  f24:=⟨Tryz.f240.name,by kernel_rfl,by kernel_rfl⟩
  f25:=⟨Tryz.f241.name,by kernel_rfl,by kernel_rfl⟩
  f26:=⟨Tryz.f242.name,by kernel_rfl,by kernel_rfl⟩
  f27:=⟨Tryz.f243.name,by kernel_rfl,by kernel_rfl⟩
  f28:=⟨Tryz.f244.name,by kernel_rfl,by kernel_rfl⟩
  f29:=⟨Tryz.f245.name,by kernel_rfl,by kernel_rfl⟩
  f31:=by kernel_rfl
  f32:=by kernel_rfl
  f36:=⟨Tryz.f250.name,by kernel_rfl,by kernel_rfl⟩
  f37:=⟨Tryz.f253.name,by kernel_rfl,by kernel_rfl⟩
  f38:=⟨Tryz.f254.name,by kernel_rfl,by kernel_rfl⟩
  f39:=⟨Tryz.f255.name,by kernel_rfl,by kernel_rfl⟩
  f41:=⟨Tryz.f256.name,by kernel_rfl,by kernel_rfl⟩
  t0:=Tryz.underlying0
  a0:=Tryz.isAgg0
  z0:=Tryz.sizeOf0
  v0:=Tryz.zeroValue0
  t3:=Tryz.underlying3
  a3:=Tryz.isAgg3
  z3:=Tryz.sizeOf3
  v3:=Tryz.zeroValue3
  t4:=Tryz.underlying4
  a4:=Tryz.isAgg4
  z4:=Tryz.sizeOf4
  v4:=Tryz.zeroValue4
  t5:=Tryz.underlying5
  a5:=Tryz.isAgg5
  z5:=Tryz.sizeOf5
  v5:=Tryz.zeroValue5
  t9:=Tryz.underlying9
  a9:=Tryz.isAgg9
  z9:=Tryz.sizeOf9
  v9:=Tryz.zeroValue9
  t26:=Tryz.underlying23
  a26:=Tryz.isAgg23
  z26:=Tryz.sizeOf23
  v26:=Tryz.zeroValue23
  t27:=Tryz.underlying23
  a27:=Tryz.isAgg23
  z27:=Tryz.sizeOf23
  v27:=Tryz.zeroValue23
  t29:=Tryz.underlying9
  a29:=Tryz.isAgg9
  z29:=Tryz.sizeOf9
  v29:=Tryz.zeroValue9
  t32:=Tryz.underlying221
  a32:=Tryz.isAgg221
  z32:=Tryz.sizeOf221
  v32:=Tryz.zeroValue221
  t35:=Tryz.underlying313
  a35:=Tryz.isAgg313
  z35:=Tryz.sizeOf313
  v35:=Tryz.zeroValue313
  t36:=Tryz.underlying314
  a36:=Tryz.isAgg314
  z36:=Tryz.sizeOf314
  v36:=Tryz.zeroValue314
  t41:=Tryz.underlying103
  a41:=Tryz.isAgg103
  z41:=Tryz.sizeOf103
  v41:=Tryz.zeroValue103
  t44:=Tryz.underlying164
  a44:=Tryz.isAgg164
  z44:=Tryz.sizeOf164
  v44:=Tryz.zeroValue164
  t46:=Tryz.underlying272
  a46:=Tryz.isAgg272
  z46:=Tryz.sizeOf272
  v46:=Tryz.zeroValue272
  t53:=Tryz.underlying324
  a53:=Tryz.isAgg324
  z53:=Tryz.sizeOf324
  v53:=Tryz.zeroValue324
  t57:=Tryz.underlying328
  a57:=Tryz.isAgg328
  z57:=Tryz.sizeOf328
  v57:=Tryz.zeroValue328
  t63:=Tryz.underlying330
  a63:=Tryz.isAgg330
  z63:=Tryz.sizeOf330
  v63:=Tryz.zeroValue330
  t64:=Tryz.underlying331
  a64:=Tryz.isAgg331
  z64:=Tryz.sizeOf331
  v64:=Tryz.zeroValue331
def Jb:Ren where
  f:=fun
    | 44=>133
    | n=>n
  t:=fun
    | 25=>23
    | 26=>9
    | 3=>3
    | 4=>4
    | 0=>0
    | n=>n
  g:=fun n=>n
theorem Ms:Go.Proofs.SlLaysN.n44 Tryz.prog Jb where
  mixed:=by kernel_rfl
  f44:=⟨Tryz.f133.name,by kernel_rfl,by kernel_rfl⟩
  t0:=Tryz.underlying0
  a0:=Tryz.isAgg0
  z0:=Tryz.sizeOf0
  v0:=Tryz.zeroValue0
  t3:=Tryz.underlying3
  a3:=Tryz.isAgg3
  z3:=Tryz.sizeOf3
  v3:=Tryz.zeroValue3
  t4:=Tryz.underlying4
  a4:=Tryz.isAgg4
  z4:=Tryz.sizeOf4
  v4:=Tryz.zeroValue4
  t25:=Tryz.underlying23
  a25:=Tryz.isAgg23
  z25:=Tryz.sizeOf23
  v25:=Tryz.zeroValue23
  t26:=Tryz.underlying9
  a26:=Tryz.isAgg9
  z26:=Tryz.sizeOf9
  v26:=Tryz.zeroValue9
  i26:=by kernel_rfl
def zV (n:Nat) (P:Program) (g:Nat) (lb:Array Value) (S:List (List UInt8)→Prop) (N:Nat) (w:World):Prop :=
  ∀ (l:Nat) (J:List (List UInt8)→World→Prop) (W:World),(∀ pre W',J pre W'→Below w.heap.size w W') →
    (∀ pre x W1,J pre W1→pre.length < N→YieldAt Fence.wide (n - 1) P l #[encStr x] W1 fun e W'=>e=.returned (.bool true)∧J (pre ++ [x]) W'∧KeepsWalks W1 W') →
    J [] W→CallsIn Fence.wide n P g (#[.func (.yield l) #[] #[]] ++ lb) W fun e W'=>(∃ v,e=.returned v)∧∃ xs,S xs∧J xs W'
theorem Io {zs:List (List UInt8)} {k:Nat} (h:k < zs.length):zs.take k ++ [zs.getD k []]=zs.take (k+1):=by
  rw[List.take_add_one]; simp[List.getD_eq_getElem?_getD,h]
set_option maxHeartbeats 2000000 in
theorem Ha (n:Nat) (hn:1≤n) (Bs b off cap:Nat) (zs:List (List UInt8)) (hreach:zs.length * 16≤140737488351232) (w:World)
    (hBs:w.cell? ⟨Bs,0,none⟩=some (.slice (some ⟨b,off,none⟩) zs.length cap)) (hBl:Bs < w.heap.size) (hbl:b < w.heap.size)
    (hc:∀ j,j < zs.length→w.cell? ⟨b,off+j,none⟩=some (encStr (zs.getD j []))) :
    zV n Tryz.prog 189 #[.pointer (some ⟨Bs,0,none⟩)] (fun xs=>xs=zs) zs.length w:=by
  intro l J W hJ hY h0
  have hbw:=hJ _ _ h0
  have hBs':=(hbw.cell (p:=⟨Bs,0,none⟩) hBl).trans hBs
  have hf:Fence.wide.fn 189:=trivial
  refine callsIn_of_wp Tryz.func189 rfl hf ?_ rfl
  simp only[Tryz.ntmps189,List.size_toArray,List.length_cons,List.length_nil,Nat.reduceAdd,Nat.reduceSub,Array.replicate_succ,Array.replicate_zero,List.push_toArray,List.append_toArray,List.nil_append,List.cons_append]
  gi_wp2
  gi_loopw [7] (fun i wr=>∃ k:Nat,k≤zs.length∧i=.int .i64 k∧J (zs.take k) wr) (fun i _=>zs.length - (RowKit.intOf i).toNat)
  case atStart=>exact ⟨0,Nat.zero_le _,rfl,by simpa using h0⟩
  case round =>
    obtain ⟨k,hk,rfl,hJs⟩:=hrel
    have hnx:=hJ _ _ hJs
    have hcx:k < zs.length→wr.cell? ⟨b,off+k,none⟩=some (encStr (zs.getD k [])):=fun h=>(hnx.cell (p:=⟨b,off+k,none⟩) hbl).trans (hc k h)
    by_cases hlt:k < zs.length
    · obtain ⟨x,hx1,hcx'⟩:∃ x,zs.take k ++ [x]=zs.take (k+1)∧wr.cell? ⟨b,off+k,none⟩=some (encStr x):=⟨_,Io hlt,hcx hlt⟩
      obtain ⟨fn,tmps,assign,body,hy,hR⟩:=hY _ x wr hJs (by simp; omega)
      clear hcx hJs
      gi_wp2
      refine hR.mono ?_
      rintro e W3 ⟨rfl,hJ3,hk3⟩
      gi_wp2
      go_roundw
      case rel=>exact ⟨k+1,by omega,by simp,by rw[← hx1]; exact hJ3⟩
      case measure=>simp[RowKit.intOf]; omega
    · obtain rfl:k=zs.length:=by omega
      clear hcx
      gi_wp2
      go_end0
      exact ⟨⟨_,rfl⟩,_,rfl,by simpa using hJs⟩
set_option maxHeartbeats 2000000 in
theorem DJ (n:Nat) (hn:2≤n) (g:Nat) (lb:Array Value) (eg:∀ args w,(callFunc g args).run Tryz.prog w=.ok (.enter g args) w)
    (S:List (List UInt8)→Prop) (N:Nat) (hN:N≤maxLen) (hNb:N * 16≤140737488355328) (w:World) (hseq:zV (n - 1) Tryz.prog g lb S N w) :
    CallsIn Fence.wide n Tryz.prog 228 #[.slice none 0 0,.func (.func g) #[] lb] w fun e w'=>∃ (v:Value) (ss:List (List UInt8)),e=.returned v∧S ss∧w'.ownsRow w.heap.size 9 1 v ss.length (ss.map encStr)∧Below w.heap.size w w':=by
  have h11:Fence.wide.fn 228:=trivial
  refine callsIn_of_wp_marks Tryz.func228 rfl h11 ?_ rfl
  simp only[Tryz.ntmps228,List.size_toArray,List.length_cons,List.length_nil,Nat.reduceAdd,Nat.reduceSub,Array.replicate_succ,Array.replicate_zero,List.push_toArray,List.append_toArray,List.nil_append,List.cons_append]
  gi_wp2
  refine wpIn_rangeFunc ?_
  intro fn hfn
  let sv:Value:=.func (.func g) #[] lb
  have hz:(w.alloc (.cells #[.slice none 0 0] 23)).heap.size=w.heap.size+1:=by simp
  have hv0:=World.alloc_heap_new w (.cells #[.slice none 0 0] 23)
  have hb0:Below w.heap.size w (w.alloc (.cells #[.slice none 0 0] 23)):=(Below.refl _ w).alloc (Nat.le_refl _) _
  revert hz hv0 hb0
  generalize w.alloc (.cells #[.slice none 0 0] 23)=W0
  intro hz hv0 hb0
  obtain ⟨W1,hW1⟩:∃ W1,(W0.alloc (.deferred (some []))).alloc (.loop (AnyZ.apRec jd fn sv w.heap.size W0.heap.size .ready none))=W1:=⟨_,rfl⟩
  have hold:∀ k,k < W0.heap.size→W1.heap[k]?=W0.heap[k]?:=fun k hk=>by
    rw[← hW1]; exact (Below.heap_alloc _ _ k (by simp; omega)).trans (Below.heap_alloc _ _ k hk)
  have hb1:Below w.heap.size w W1:=by rw[← hW1]; exact (hb0.alloc (by omega) _).alloc (by simp; omega) _
  have hM:AnyZ.ApAt jd w fn sv w.heap.size (W0.heap.size+1) W0.heap.size [] W1:=by
    refine ⟨⟨_,(hold w.heap.size (by omega)).trans hv0,⟨rfl,.inl ⟨rfl,rfl⟩⟩,by simp⟩,?_,?_,hb1⟩
    · rw[← hW1]
      have h:=World.alloc_heap_new (W0.alloc (.deferred (some []))) (.loop (AnyZ.apRec jd fn sv w.heap.size W0.heap.size .ready none))
      rwa [World.size_alloc] at h
    · rw[← hW1]; exact (Below.heap_alloc _ _ _ (by simp)).trans (World.alloc_heap_new W0 _)
  refine ⟨W0.heap.size+1,[{ target:=.collected W0.heap.size,args:=#[] }],W1,{ target:=.fn (.func g) lb,args:=#[.func (.yield (W0.heap.size+1)) #[] #[]] },W1,g,
    #[.func (.yield (W0.heap.size+1)) #[] #[]] ++ lb,W1,by rw[← hW1]; exact run_enterLoop_outer _ _ _ _ _,?_,?_,?_,fun _=>by omega,?_⟩
  · simp[resolve,go_sem]
  · intro f' hf'; trivial
  · simp[invoke,go_sem,eg]
  · refine (hseq (W0.heap.size+1) (AnyZ.ApAt jd w fn sv w.heap.size (W0.heap.size+1) W0.heap.size) W1 (fun _ _ h=>h.below)
      (fun pre x W hJ hl=>AnyZ.apYield { Nb with } Fence.wide (n - 1 - 1) w fn hfn _ w.heap.size (W0.heap.size+1) W0.heap.size (by omega) (by omega) (by omega) (Nat.le_refl _) (by omega) N hN hNb pre x W hJ hl) hM).mono ?_
    rintro e W2 ⟨⟨v0,rfl⟩,ss,hS,h2⟩
    obtain ⟨v,hv,hrow,_⟩:=h2.box
    have hend:=run_endLoop (P:=Tryz.prog) h2.L (by simp[AnyZ.apRec])
    have hne:∀ (cur:Array Value),Obj.cells #[v] 23 (0,0)≠.cells cur 9 (0,0):=fun cur e=>by cases e
    obtain ⟨W3,hW3⟩:∃ W3,W2.putObj (W0.heap.size+1) (.loop { AnyZ.apRec jd fn sv w.heap.size W0.heap.size .ready none with state:=.exhausted })=W3:=⟨_,rfl⟩
    have hg3:W2.grownBy W3 (some (W0.heap.size+1)):=by rw[← hW3]; exact grownBy_putObj_a _ _ _
    have hv3:W3.heap[w.heap.size]?=some (.cells #[v] 23 (0,0)):=by rw[← hW3]; exact (World.putObj_heap_other (by omega)).trans hv
    have hK3:W3.heap[W0.heap.size]?=some (.deferred (some [])):=by rw[← hW3]; exact (World.putObj_heap_other (by omega)).trans h2.K
    have hrow3:=hrow.kept hg3 (ownsRow_ne_a hrow h2.L (fun cur e=>by cases e))
    have hb3:Below w.heap.size w W3:=h2.below.grown hg3 h2.below.size (fun k e=>by cases e; omega)
    obtain ⟨hc3,hf3⟩:=cell_of_box_a hv3
    refine ⟨none,W3,by rw[← hW3]; exact hend,?_⟩
    clear hW3 hW1 hold hM hend hseq
    gi_wp2
    rw[← hz]
    refine ⟨by simp,.inl ⟨_,_,rfl,run_takeDeferred hK3,?_⟩⟩
    exact ⟨_,results_tmp rfl _ _ _,v,ss,rfl,hS,hrow3.kept (grownBy_putObj_a _ _ _) (ownsRow_ne_a hrow3 hK3 (fun cur e=>by cases e)),hb3.grown (grownBy_putObj_a _ _ _) hb3.size (fun k e=>by cases e; omega)⟩
set_option maxHeartbeats 2000000 in
theorem JS (n:Nat) (hn:4≤n) (g:Nat) (lb:Array Value) (eg:∀ args w,(callFunc g args).run Tryz.prog w=.ok (.enter g args) w)
    (S:List (List UInt8)→Prop) (N:Nat) (hN:N≤maxLen) (hNb:N * 16≤140737488355328) (w:World) (hseq:zV (n - 1 - 1 - 1) Tryz.prog g lb S N w) (hS:∀ xs,S xs→xs.length < 4611686018427387904) :
    CallsIn Fence.wide n Tryz.prog 131 #[.func (.func g) #[] lb] w fun e w'=>∃ (v:Value) (ss:List (List UInt8)),e=.returned v∧S ss ∧
      w'.ownsRow w.heap.size 9 1 v ss.length ((ss.mergeSort (fun x y=>decide (x≤y))).map encStr)∧Below w.heap.size w w':=by
  have h6:Fence.wide.fn 131:=trivial
  have h8:Fence.wide.fn 187:=trivial
  have h9:Fence.wide.fn 188:=trivial
  have h11:Fence.wide.fn 228:=trivial
  have h1:1≤n - 1:=by omega
  have h1':1≤n:=by omega
  have hcol:CallsIn Fence.wide (n - 1) Tryz.prog 187 #[.func (.func g) #[] lb] w fun e w'=>∃ (v:Value) (ss:List (List UInt8)),e=.returned v∧S ss∧w'.ownsRow w.heap.size 9 1 v ss.length (ss.map encStr)∧Below w.heap.size w w':=by
    have happ:=DJ (n - 1 - 1) (by omega) g lb eg S N hN hNb w hseq
    refine callsIn_of_wp Tryz.func187 rfl h8 ?_ rfl
    simp only[Tryz.ntmps187,List.size_toArray,List.length_cons,List.length_nil,Nat.reduceAdd,Nat.reduceSub,Array.replicate_succ,Array.replicate_zero,List.push_toArray,List.append_toArray,List.nil_append,List.cons_append]
    gi_wp2_with (gi_at_call 228; refine happ.mono ?_; rintro e w' ⟨v,ss,rfl,hS,hrow,hb⟩)
    go_ret
    exact ⟨v,ss,rfl,hS,hrow,hb⟩
  refine callsIn_of_wp Tryz.func131 rfl h6 ?_ rfl
  simp only[Tryz.ntmps131,List.size_toArray,List.length_cons,List.length_nil,Nat.reduceAdd,Nat.reduceSub,Array.replicate_succ,Array.replicate_zero,List.push_toArray,List.append_toArray,List.nil_append,List.cons_append]
  gi_wp2_with (gi_at_call 187; refine hcol.mono ?_; rintro e W ⟨v,ss,rfl,hSs,hrow,hb⟩)
  have hlen:=hS ss hSs
  rcases hrow.2 with ⟨rfl,hz⟩ | ⟨gb,cap,cur,rfl,hbase,hgb,r1,r2,r3,r4⟩
  · have hss:ss=[]:=List.eq_nil_of_length_eq_zero hz
    subst hss
    have cN:CallsIn Fence.wide (n - 1) Tryz.prog 188 #[.slice none 0 0] W fun e w'=>e=.returned (.tuple #[])∧w'=W:=callsIn_wide.2 (AnyM.slices_Sort_string_none Mi none 0 W)
    gi_wp2_with (gi_at_call 188; refine cN.mono ?_; rintro e w' ⟨rfl,rfl⟩)
    go_ret
    exact ⟨.slice none 0 0,[],rfl,hSs,by simpa using hrow,hb⟩
  · have hH:Holds encStr W gb 0 ss.toArray:=holds_of_block hgb (by simpa using r4)
    have hgl:gb < W.heap.size:=(Array.getElem?_eq_some_iff.1 hgb).1
    have cS:CallsIn Fence.wide (n - 1) Tryz.prog 188 #[.slice (some ⟨gb,0,none⟩) ss.length cap] W fun e w'=>e=.returned (.tuple #[])∧∃ k os,w'=grow (putRow encStr (Sort.ahead W k) gb 0 (ss.mergeSort fun x y=>decide (x≤y)).toArray) os :=
      callsIn_wide.2 (AnyM.slices_Sort_string Mi gb 0 cap ss W hH hgl hlen)
    gi_wp2_with (gi_at_call 188; refine cS.mono ?_; rintro e w' ⟨rfl,nn,os,rfl⟩)
    go_ret
    exact ⟨_,ss,rfl,hSs,ownsRow_sorted (by simp) hbase hgb r1 r2 r3,hb.grown (grownBy_sorted _) hb.size (fun j hj=>by cases hj; exact hbase)⟩
open Go Go.Proofs Go.Shelf Go.RowKit Go.Sort
theorem Fw {l:List (List UInt8)} (hs:l.Pairwise (fun a b=>decide (a≤b)=true)) (h:∀ j,j+1 < l.length→l.getD (j+1) []≠l.getD j []):l.Nodup:=by
  induction l with
  | nil=>exact List.nodup_nil
  | cons x r ih =>
    rw[List.pairwise_cons] at hs
    refine List.nodup_cons.2 ⟨fun hx=>?_,ih hs.2 fun j hj=>by simpa using h (j+1) (by simpa using hj)⟩
    cases r with
    | nil=>simp at hx
    | cons y r =>
      have h0:=h 0 (by simp)
      simp only[List.getD_cons_succ,List.getD_cons_zero,Nat.zero_add] at h0
      rcases List.mem_cons.1 hx with e | hm
      · exact h0 e.symm
      · have h1:x≤y:=by simpa using hs.1 y (by simp)
        have h2:y≤x:=by simpa using (List.pairwise_cons.1 hs.2).1 x hm
        exact h0 (List.le_antisymm h2 h1)
theorem HW (l:List (List UInt8)):(Lib.compact l).length=l.length↔∀ j,j+1 < l.length→l.getD (j+1) []≠l.getD j []:=by
  have hl:(Lib.compact l).length=((List.range l.length).filter (Lib.keeps l.toArray)).length:=by simp[Lib.compact,Lib.compactUpTo]
  rw[hl]
  have hr:(List.range l.length).length=l.length:=by simp
  conv=>lhs; rhs; rw[← hr]
  rw[List.length_filter_eq_length_iff]
  have hg:∀ j,j < l.length→l.toArray[j]! = l.getD j []:=fun j hj=>by simp[List.getD_eq_getElem?_getD,hj]
  constructor
  · intro h j hj
    have:=h (j+1) (by simpa using hj)
    simp only[Lib.keeps,decide_eq_true_eq,Nat.add_sub_cancel] at this
    rcases this with e | e
    · omega
    · rw[hg _ hj,hg _ (by omega)] at e; exact e
  · intro h j hj
    simp only[List.mem_range] at hj
    simp only[Lib.keeps,decide_eq_true_eq]
    by_cases e:j=0
    · exact .inl e
    · right
      obtain ⟨k,rfl⟩:∃ k,j=k+1:=⟨j - 1,by omega⟩
      rw[hg _ hj,Nat.add_sub_cancel,hg _ (by omega)]
      exact h k hj
theorem Be (zs:List (List UInt8)):(Lib.compact (zs.mergeSort fun x y=>decide (x≤y))).length=zs.length↔zs.Nodup:=by
  have hp:=List.mergeSort_perm zs (fun x y=>decide (x≤y))
  have hs:=List.pairwise_mergeSort (le:=fun x y:List UInt8=>decide (x≤y)) (fun a b c h k=>by simp at h k ⊢; exact List.le_trans h k) (fun a b=>by simpa using List.le_total a b) zs
  rw[← hp.nodup_iff,← hp.length_eq,HW]
  constructor
  · exact Fw hs
  · intro hn j hj e
    have h1:(zs.mergeSort fun x y=>decide (x≤y))[j+1]'hj=(zs.mergeSort fun x y=>decide (x≤y))[j]'(by omega):=by
      simp only[List.getD_eq_getElem?_getD,List.getElem?_eq_getElem hj,List.getElem?_eq_getElem (show j < (zs.mergeSort fun x y=>decide (x≤y)).length by omega),Option.getD_some] at e
      exact e
    have:=(List.getElem_inj hn).1 h1
    omega
theorem Le (w:World):grow w #[]=w:=by simp[grow]
set_option maxHeartbeats 2000000 in
theorem Ft (n:Nat) (hn:1≤n) (Bs cap:Nat) (a:Option Addr) (w:World) (hBs:w.cell? ⟨Bs,0,none⟩=some (.slice a 0 cap)) (hBl:Bs < w.heap.size) :
    zV n Tryz.prog 189 #[.pointer (some ⟨Bs,0,none⟩)] (fun xs=>xs=[]) 0 w:=by
  intro l J W hJ hY h0
  have hbw:=hJ _ _ h0
  have hBs':=(hbw.cell (p:=⟨Bs,0,none⟩) hBl).trans hBs
  have hf:Fence.wide.fn 189:=trivial
  refine callsIn_of_wp Tryz.func189 rfl hf ?_ rfl
  simp only[Tryz.ntmps189,List.size_toArray,List.length_cons,List.length_nil,Nat.reduceAdd,Nat.reduceSub,Array.replicate_succ,Array.replicate_zero,List.push_toArray,List.append_toArray,List.nil_append,List.cons_append]
  gi_wp2
  gi_loopw [7] (fun i wr=>i=.int .i64 0∧J [] wr) (fun _ _=>0)
  case atStart=>exact ⟨rfl,h0⟩
  case round =>
    obtain ⟨rfl,hJs⟩:=hrel
    gi_wp2
    go_end0
    exact ⟨⟨_,rfl⟩,_,rfl,hJs⟩
set_option maxHeartbeats 2000000 in
theorem Gm (n:Nat) (a:Option Addr) (len cap:Nat) (w:World) :
    CallsIn Fence.wide n Tryz.prog 132 #[.slice a len cap] w fun e w'=>e=.returned (.func (.func 189) #[] #[.pointer (some ⟨w.heap.size,0,none⟩)])∧w'=w.alloc (.cells #[.slice a len cap] 23):=by
  have hf:Fence.wide.fn 132:=trivial
  refine callsIn_of_wp Tryz.func132 rfl hf ?_ rfl
  simp only[Tryz.ntmps132,List.size_toArray,List.length_cons,List.length_nil,Nat.reduceAdd,Nat.reduceSub,Array.replicate_succ,Array.replicate_zero,List.push_toArray,List.append_toArray,List.nil_append,List.cons_append]
  gi_wp2
  go_ret
  exact ⟨rfl,rfl⟩
set_option maxHeartbeats 4000000 in
theorem yT (a:Option Addr) (cap:Nat) (zs:List (List UInt8)) (hz:zs.length≤1000) (w:World)
    (hseq:∀ n Bs,1≤n→w.heap.size=Bs→zV n Tryz.prog 189 #[.pointer (some ⟨Bs,0,none⟩)] (fun xs=>xs=zs) zs.length (w.alloc (.cells #[.slice a zs.length cap] 23))) :
    Calls Tryz.prog 83 #[.slice a zs.length cap] w fun e w'=>e=.returned (.bool (decide zs.Nodup))∧Below w.heap.size w w':=by
  refine (callsIn_wide (n:=7)).1 ?_
  have hf:Fence.wide.fn 83:=trivial
  have hfv:Fence.wide.fn 132:=trivial
  have hfs:Fence.wide.fn 131:=trivial
  have hfc:Fence.wide.fn 133:=trivial
  have eg:=enters_of Tryz.func189 (by kernel_rfl) rfl
  have cV:=Gm 6 a zs.length cap w
  have cS:=JS 6 (by omega) 189 #[.pointer (some ⟨w.heap.size,0,none⟩)] eg _ zs.length (by unfold maxLen; omega) (by omega) (w.alloc (.cells #[.slice a zs.length cap] 23)) (hseq _ _ (by omega) rfl) (fun xs e=>by subst e; omega)
  refine callsIn_of_wp Tryz.func83 rfl hf ?_ rfl
  simp only[Tryz.ntmps83,List.size_toArray,List.length_cons,List.length_nil,Nat.reduceAdd,Nat.reduceSub,Array.replicate_succ,Array.replicate_zero,List.push_toArray,List.append_toArray,List.nil_append,List.cons_append]
  clear hseq
  gi_wp2_with (first
    | (gi_at_call 132; refine cV.mono ?_; rintro e w' ⟨rfl,rfl⟩)
    | (gi_at_call 131; refine cS.mono ?_; rintro e W ⟨v,ss,rfl,rfl,hrow,hb⟩)
    | fail)
  have hsz:(ss.mergeSort fun x y=>decide (x≤y)).length=ss.length:=by simp
  have hBw:Below w.heap.size w W:=((Below.refl _ w).alloc (Nat.le_refl _) _).trans (hb.mono (by simp))
  rcases hrow.2 with ⟨rfl,h0⟩ | ⟨gb,cap',cur,rfl,hbase,hgb,r1,r2,r3,r4⟩
  · have hss:ss=[]:=List.eq_nil_of_length_eq_zero h0
    subst hss
    have cC:CallsIn Fence.wide 6 Tryz.prog 133 #[.slice none 0 0] W fun e w'=>e=.returned (.slice none 0 0)∧w'=W:=callsIn_wide.2 (AnyG.slices_Compact_string_empty Ms none 0 W)
    clear cS cV hrow
    gi_wp2_with (gi_at_call 133; refine cC.mono ?_; rintro e w' ⟨rfl,rfl⟩)
    go_ret
    exact ⟨rfl,hBw⟩
  · have hH:Holds encStr W gb 0 (ss.mergeSort fun x y=>decide (x≤y)).toArray:=holds_of_block hgb (by simpa using r4)
    have hgl:gb < W.heap.size:=(Array.getElem?_eq_some_iff.1 hgb).1
    have cC:CallsIn Fence.wide 6 Tryz.prog 133 #[.slice (some ⟨gb,0,none⟩) ss.length cap'] W fun e w'=>∃ m:Nat,e=.returned (.slice (some ⟨gb,0,none⟩) m cap')∧((m=ss.length)↔ss.Nodup)∧Below w.heap.size w w':=by
      have:=AnyG.slices_Compact_string Ms gb 0 cap' (ss.mergeSort fun x y=>decide (x≤y)) W hH (by rw[hsz]; omega) (by rw[hsz]; omega)
      rw[hsz] at this
      refine callsIn_wide.2 (this.mono ?_)
      rintro e w' ⟨rfl,q,rfl⟩
      refine ⟨_,rfl,Be ss,?_⟩
      have hg:=grownBy_sorted (w:=W) (g:=gb) (n:=q) (os:=#[]) (Lib.compact (ss.mergeSort fun x y=>decide (x≤y)) ++ List.replicate (ss.length - (Lib.compact (ss.mergeSort fun x y=>decide (x≤y))).length) []).toArray
      rw[Le] at hg
      exact hBw.grown hg hBw.size (fun j e=>by cases e; have h:=hbase; rw[World.size_alloc] at h; omega)
    clear cS cV hrow hH
    gi_wp2_with (gi_at_call 133; refine cC.mono ?_; rintro e w' ⟨m,rfl,hm,hb'⟩)
    go_ret
    refine ⟨?_,hb'⟩
    show Ending.returned (.bool ((m:Int) == (ss.length:Int)))=_
    have:((m:Int) == (ss.length:Int))=decide ss.Nodup:=by
      rw[Bool.eq_iff_iff]
      simp only[beq_iff_eq,decide_eq_true_eq,← hm]
      omega
    rw[this]
theorem Ez (s:ByteArray):encStr s.data.toList=.string s:=by
  cases s; simp[encStr]
def names (l:List ByteArray):List (List UInt8):=l.map fun s=>s.data.toList
theorem FG {Z:Nat→Prop} {μ:Mu} {hp:Array Obj} {es:List (List V)} {x:Value} (h:aB Z μ hp (.aY es) x) :
    (es=[]∧∃ a cap,x=.slice a 0 cap∧(a=none→cap=0))∨(∃ b off esz cap,∃ c:Nat→Nat→Value,x=.slice (some ⟨b,off,none⟩) es.length cap∧Z b∧es.length≤cap ∧
      (∀ i,i < es.length→(es.getD i []).length=esz)∧(∀ i j,i < es.length→j < esz→cellAt hp b (off+i * esz+j)=some (c i j)) ∧
      (∀ i j,i < es.length→j < esz→aB Z μ hp ((es.getD i []).getD j .any) (c i j))):=by
  cases h with
  | gh a cap hz=>exact .inl ⟨rfl,a,cap,rfl,hz⟩
  | aY _ b off esz cap c h1 h2 h3 h4 h5=>exact .inr ⟨b,off,esz,cap,c,rfl,h1,h2,h3,h4,h5⟩
theorem L3 (l:List ByteArray) (hl:l.length≤1000):aF Tryz.prog 83 [encS l] (gb (decide (names l).Nodup)):=by
  intro Z μ w xs hrel hzl
  obtain ⟨hlen,hx⟩:=hrel
  obtain ⟨x,rfl⟩:∃ x,xs=[x]:=by
    match xs,hlen with
    | [x],_=>exact ⟨x,rfl⟩
  have h0:aB Z μ w.heap (encS l) x:=hx 0 (by simp)
  have hnl:(names l).length=l.length:=by simp[names]
  have fin:∀ e w',(e=Ending.returned (.bool (decide (names l).Nodup))∧RowKit.Below w.heap.size w w')→∃ x Z',e=.returned x∧(∀ ν,aB Z' ν w'.heap (gb (decide (names l).Nodup)) x)∧dK w w'∧(∀ b,Z b→Z' b)∧(∀ b,Z' b→Z b∨(w.heap.size≤b∧b < w'.heap.size))∧eR w.heap w'.heap (fun _=>False):=by
    rintro e w' ⟨rfl,hb⟩
    exact ⟨_,Z,rfl,fun ν=>.val _ rfl,⟨hb.os,hb.tape,hb.output,hb.size⟩,fun _ h=>h,fun _ h=>.inl h,fun b hb' _=>hb.block b hb'⟩
  have box:∀ (v:Value),(w.alloc (.cells #[v] 23)).cell? ⟨w.heap.size,0,none⟩=some v:=fun v=>by
    have:=World.alloc_heap_new w (.cells #[v] 23)
    simp only[World.cell?,this]; rfl
  rcases FG h0 with ⟨he,a,cap,rfl,_⟩ | ⟨b,off,esz,cap,c,rfl,hz,hle,hes,hc,hv⟩
  · have hl0:l=[]:=by simpa using he
    subst hl0
    refine (yT a cap (names []) (by simp[names]) w (fun n Bs hn hB=>?_)).mono fin
    subst hB
    exact Ft n hn w.heap.size cap a _ (box _) (by simp)
  · have hel:∀ i,(hi:i < l.length)→(l.map fun s=>[gs s]).getD i []=[gs l[i]]:=fun i hi=>by simp[List.getD_eq_getElem?_getD,hi]
    have hcell:∀ i,(hi:i < l.length)→cellAt w.heap b (off+i)=some (.string l[i]):=fun i hi=>by
      have h1:=hes i (by simpa using hi)
      rw[hel i hi] at h1
      simp only[List.length_cons,List.length_nil] at h1
      subst h1
      have h2:=hc i 0 (by simpa using hi) (by omega)
      have h3:=hv i 0 (by simpa using hi) (by omega)
      rw[hel i hi] at h3
      simp only[List.getD_cons_zero] at h3
      generalize c i 0=y at h2 h3
      cases h3
      simpa using h2
    have hlen2:(l.map fun s=>[gs s]).length=(names l).length:=by simp[names]
    rw[hlen2]
    refine (yT (some ⟨b,off,none⟩) cap (names l) (by rw[hnl]; exact hl) w (fun n Bs hn hB=>?_)).mono fin
    subst hB
    have hbl:=hzl b hz
    refine Ha n hn w.heap.size b off cap (names l) (by rw[hnl]; omega) _ (box _) (by simp) (by simp; omega) (fun j hj=>?_)
    have hj':j < l.length:=by omega
    have e1:(w.alloc (.cells #[.slice (some ⟨b,off,none⟩) (names l).length cap] 23)).cell? ⟨b,off+j,none⟩=w.cell? ⟨b,off+j,none⟩:=by
      have:=Below.heap_alloc w (.cells #[.slice (some ⟨b,off,none⟩) (names l).length cap] 23) b hbl
      simp only[World.cell?,this]
    rw[e1,qN,hcell j hj']
    have e2:(names l).getD j []=l[j].data.toList:=by simp[names,List.getD_eq_getElem?_getD,hj']
    rw[e2,Ez]
end Gv
