/-
  Part 9 of the proof: what the machine does and what the functions answer.
  Conditions: those that each lemma names.
-/
import Derived.Shelf.SlIter.Sorted
import Derived.Shelf.SortM.Plain
import Derived.Shelf.SortM.SortNone
import Derived.Shelf.SlicesG.CompactS
import Derived.Test.YtgniimkconobpaaGreatSGzOH
set_option linter.unusedSimpArgs false
set_option linter.unusedVariables false
set_option linter.unusedSimpArgs false
namespace Gv
open Go
def owner:V→Option Nat
  | .sl id _ _ _=>some id
  | _=>none
def aV (H:View) (u:V) (sz:Nat) (es:List (List V)):Prop :=
  (es=[]∧∃ k,u=.emp k)∨(∃ n,u=.sl n 0 es.length sz∧H n=.arr sz es)
theorem aV.nil {H:View} {sz k:Nat} : aV H (.emp k) sz []:=.inl ⟨rfl,k,rfl⟩
theorem aV.len {H:View} {u:V} {sz:Nat} {es:List (List V)} (h:aV H u sz es):dK u=some es.length:=by
  rcases h with ⟨rfl,k,rfl⟩ | ⟨n,rfl,_⟩ <;> rfl
theorem aV.live {H:View} {u:V} {sz:Nat} {es:List (List V)} (h:aV H u sz es) {id:Nat} (hid:owner u=some id):H id=.arr sz es∧u=.sl id 0 es.length sz:=by
  rcases h with ⟨rfl,k,rfl⟩ | ⟨n,rfl,hn⟩
  · simp[owner] at hid
  · simp[owner] at hid; subst hid; exact ⟨hn,rfl⟩
theorem aV.keep {H H':View} {u:V} {sz:Nat} {es:List (List V)} (h:aV H u sz es) (hk:∀ id,owner u=some id→H' id=H id):aV H' u sz es:=by
  rcases h with ⟨rfl,k,rfl⟩ | ⟨n,rfl,hn⟩
  · exact .inl ⟨rfl,k,rfl⟩
  · exact .inr ⟨n,rfl,by rw[hk n rfl]; exact hn⟩
theorem aV.fresh {H:View} {u:V} {sz m:Nat} {es:List (List V)} {o:br} (h:aV H u sz es) (hm:H m=.dead):aV (H.set m o) u sz es :=
  h.keep fun id hid=>by
    have:=(h.live hid).1
    have e:id≠m:=by rintro rfl; rw[hm] at this; simp at this
    simp[View.set,e]
theorem aV.ne {H:View} {u:V} {sz m:Nat} {es:List (List V)} (h:aV H u sz es) (hm:H m=.dead):owner u≠some m:=fun e=>by
  have:=(h.live e).1; rw[hm] at this; simp at this
theorem aV.other {H:View} {u:V} {sz m:Nat} {es:List (List V)} {o:br} (h:aV H u sz es) (hm:owner u≠some m):aV (H.set m o) u sz es :=
  h.keep fun id hid=>by
    have e:id≠m:=by rintro rfl; exact hm hid
    simp[View.set,e]
theorem aV.new {H:View} {n sz:Nat} {es:List (List V)} : aV (H.set n (.arr sz es)) (.sl n 0 es.length sz) sz es:=.inr ⟨n,rfl,by simp[View.set]⟩
theorem dG {H:View} {m z sz:Nat} {e:List V} : bD (View.set H m (.arr z [e])) (.sl m 0 1 sz)=some ([e],[m]):=by
  simp[bD,View.set]
def Left (H H':View) (u u':V):Prop:=∀ id,H id≠.dead→owner u≠some id→H' id=H id∧owner u'≠some id
theorem ot {sz bytes:Nat} {u:V} {es xs:List (List V)} {H:View} {K:V→View→Prop} {w:bP (H,K)} (ho:aV H u sz es) (hx:xs≠[]) (hok:(xs.all fun e=>e.length == sz && e.all aN)=true)
    (hl:(es.length+xs.length) * bytes < aM) (hl2:es.length+xs.length < aM) (hk:∀ u' H',aV H' u' sz (es ++ xs)→Left H H' u u'→K u' H'):nj sz bytes u xs H K w:=by
  have he:xs.isEmpty=false:=by cases xs with | nil=>exact absurd rfl hx | cons=>rfl
  rcases ho with ⟨rfl,k,rfl⟩ | ⟨n,rfl,hn⟩
  · rw[tA _ _ _ _ _ _ _ he]
    refine ⟨hok,⟨by simpa using hl,by simpa using hl2⟩,fun m hm=>hk _ _ ?_ ?_⟩
    · exact .inr ⟨m,rfl,by simp[View.set]⟩
    · intro id hid _
      have e:id≠m:=by rintro rfl; exact hid hm
      exact ⟨by simp[View.set,e],by simp[owner,Ne.symm e]⟩
  · rw[vA _ _ _ _ _ _ _ _ _ _ he,hn]
    refine ⟨hok,⟨by simp,rfl,hl,hl2⟩,fun m hm=>hk _ _ ?_ ?_⟩
    · refine .inr ⟨m,by simp,by simp[View.set]⟩
    · intro id hid ho
      have e:id≠m:=by rintro rfl; exact hid hm
      have e2:id≠n:=by rintro rfl; exact ho rfl
      exact ⟨by simp[View.set,e,e2],by simp[owner,Ne.symm e]⟩
theorem Left.refl {H:View} {u:V} : Left H H u u:=fun _ _ h=>⟨rfl,h⟩
theorem ed {sz bytes:Nat} {u:V} {es xs:List (List V)} {H:View} {K:V→View→Prop} {w:bP (H,K)} (ho:aV H u sz es) (hok:(xs.all fun e=>e.length == sz && e.all aN)=true)
    (hl:(es.length+xs.length) * bytes < aM) (hl2:es.length+xs.length < aM) (hk:∀ u' H',aV H' u' sz (es ++ xs)→Left H H' u u'→K u' H'):nj sz bytes u xs H K w:=by
  cases xs with
  | nil =>
    have:=hk u H (by simpa using ho) .refl
    rcases ho with ⟨rfl,k,rfl⟩ | ⟨n,rfl,hn⟩
    · exact this
    · exact this
  | cons x xs=>exact ot ho (by simp) hok hl hl2 hk
theorem cO.own {H:View} {u:V} {sz:Nat} {es:List (List V)} (h:aV H u sz es) (ht:∀ e∈es,∀ v∈e,Tree v):cO H u (.aY es):=by
  rcases h with ⟨rfl,k,rfl⟩ | ⟨n,rfl,hn⟩
  · exact fun h _=>.emp k
  · have:=cO.sl (off:=0) (len:=es.length) (esz:=sz) hn (by simp) ht
    rwa [List.drop_zero,List.take_of_length_le (by simp)] at this
theorem dA.own {h:aE} {u:V} {sz:Nat} {es:List (List V)} {es':List (List V)} (ho:aV h.view u sz es) (hl:es'.length=es.length) (hi:∀ i,i < es.length→(es'.getD i []).length=(es.getD i []).length)
    (hv:∀ i j,i < es.length→j < (es'.getD i []).length→dA h ((es.getD i []).getD j .any) ((es'.getD i []).getD j .any)):dA h u (.aY es'):=by
  rcases ho with ⟨rfl,k,rfl⟩ | ⟨n,rfl,hn⟩
  · have:es'=[]:=List.length_eq_zero_iff.1 (by simpa using hl)
    subst this
    exact .emp k
  · exact .sl n 0 es.length sz sz es es' hn (by simp) hl (fun i h=>by rw[Nat.zero_add]; exact hi i h) (fun i j h1 h2=>by rw[Nat.zero_add]; exact hv i j h1 h2)
theorem dA.GW {h:aE} {α:Type} {u:V} {sz:Nat} {l:List α} {f:α→Value} (ho:aV h.view u sz (l.map fun x=>[V.val (f x)])):dA h u (.aY (l.map fun x=>[V.val (f x)])):=by
  refine dA.own ho rfl (fun i _=>rfl) (fun i j hi hj=>?_)
  simp only[List.length_map] at hi
  have e:(l.map fun x=>[V.val (f x)]).getD i []=[V.val (f l[i])]:=by simp[List.getD_eq_getElem?_getD,hi]
  rw[e] at hj ⊢
  have:j=0:=by simp at hj; omega
  subst this
  exact .val _
def c6 (H H':View) (r:V):Prop:=∀ id,H id≠.dead→H' id=H id∧owner r≠some id
theorem c6.emp {H:View} {k:Nat} : c6 H H (.emp k):=fun _ _=>⟨rfl,by simp[owner]⟩
theorem c6.new {H:View} {n a b c:Nat} {o:br} (hn:H n=.dead):c6 H (H.set n o) (.sl n a b c):=fun id hid=>by
  have e:id≠n:=by rintro rfl; exact hid hn
  exact ⟨by simp[View.set,e],by simp[owner,Ne.symm e]⟩
theorem aV.left {H H':View} {u u' x:V} {sz:Nat} {es:List (List V)} (h:aV H x sz es) (hl:Left H H' u u') (hd:∀ id,owner x=some id→owner u≠some id):aV H' x sz es :=
  h.keep fun id hid=>(hl id (by rw[(h.live hid).1]; simp) (hd id hid)).1
theorem aV.pD {H H':View} {x r:V} {sz:Nat} {es:List (List V)} (h:aV H x sz es) (hl:c6 H H' r):aV H' x sz es :=
  h.keep fun id hid=>(hl id (by rw[(h.live hid).1]; simp)).1
theorem set_set {H:View} {n:Nat} {a b:br} : View.set (View.set H n a) n b=View.set H n b:=by
  funext id; simp only[View.set]; split <;> rfl
theorem gS {m b:Nat} {o x:br} (h:(if m=b then o else x)=.dead) (ho:o≠.dead):m≠b∧x=.dead:=by
  split at h
  · exact absurd h ho
  · rename_i e; exact ⟨e,h⟩
theorem iO {z:Nat} {es:List (List V)} : br.arr z es≠.dead:=by simp
def lk (H:View):List V→List V→Prop
  | [],[]=>True
  | v :: vs,t :: ts=>cO H v t∧lk H vs ts
  | _,_=>False
theorem lk.len {H:View} : ∀ {vs ts:List V},lk H vs ts→ts.length=vs.length
  | [],[],_=>rfl
  | _ :: _,_ :: _,h=>by simp[lk.len h.2]
theorem lk.get {H:View} : ∀ {vs ts:List V},lk H vs ts→∀ i,i < vs.length→cO H (vs.getD i .any) (ts.getD i .any)
  | [],[],_,i,hi=>by simp at hi
  | _ :: _,_ :: _,h,0,_=>h.1
  | _ :: _,_ :: _,h,i+1,hi=>lk.get h.2 i (by simpa using hi)
theorem az.vr {P:Program} {q:Bool} {f:FuncId} {H:View} {vs ts:List V} {K:V→View→Prop} {v:bP (H,K)} {t:V} (hc:aC P f ts t) (hok:bY P f=true) (hf:uK t) (hl:lk H vs ts) (hk:K t H):az P q f vs H K v :=
  az.borrow hc hok hf hl.len hl.get hk
theorem az.rj {P:Program} {q:Bool} {f:FuncId} {H:View} {vs ts:List V} {K:V→View→Prop} {v:bP (H,K)} {t:V} (hc:cG P f ts t) (hok:bY P f=true) (hl:lk H vs ts) (hk:K t H):az P q f vs H K v :=
  az.tQ hc hok hl.len hl.get hk
theorem cO.box {H:View} {q z:Nat} {e:List V} (hq:H q=.arr z [e]) (ht:∀ v∈e,Tree v):cO H (.ptr q 0 0) (.aJ e 0):=by
  rintro h rfl
  refine .ptr q 0 0 z [e] e hq (by simp) (by simp) (fun k hk=>?_)
  simp only[List.getD_cons_zero]
  have e2:e.getD k .any=e[k]:=by simp[List.getD_eq_getElem?_getD,hk]
  rw[e2]
  exact .tree _ (ht _ (List.getElem_mem _))
theorem aV.sl {H:View} {u:V} {sz:Nat} {es:List (List V)} (h:aV H u sz es) (hne:0 < es.length):∃ n,u=.sl n 0 es.length sz∧H n=.arr sz es:=by
  rcases h with ⟨rfl,_⟩ | h
  · simp at hne
  · exact h
end Gv
set_option linter.unusedSimpArgs false
namespace Gv
open Go
abbrev fS:=V × Nat × List (List V)
def bG (H:View) (L:List fS):Prop:=(∀ x∈L,aV H x.1 x.2.1 x.2.2)∧(L.filterMap fun x=>owner x.1).Nodup
theorem bG.nil {H:View} : bG H []:=⟨fun x hx=>by simp at hx,by simp⟩
theorem bG.head {H:View} {x:fS} {L:List fS} (h:bG H (x :: L)):aV H x.1 x.2.1 x.2.2:=h.1 x (by simp)
theorem bG.tail {H:View} {x:fS} {L:List fS} (h:bG H (x :: L)):bG H L:=by
  refine ⟨fun y hy=>h.1 y (by simp[hy]),?_⟩
  have:=h.2
  simp only[List.filterMap_cons] at this
  split at this
  · exact this
  · exact (List.nodup_cons.1 this).2
theorem bG.perm {H:View} {L L':List fS} (h:bG H L) (p:L.Perm L'):bG H L' :=
  ⟨fun x hx=>h.1 x (p.mem_iff.2 hx),(p.filterMap _).nodup_iff.1 h.2⟩
theorem Cx {α:Type} : ∀ (L:List α) (k:Nat) (hk:k < L.length),L.Perm (L[k] :: L.eraseIdx k)
  | x :: L,0,_=>.refl _
  | x :: L,k+1,hk=>by
    have:=Cx L k (by simpa using hk)
    exact (this.cons x).trans (.swap _ _ _)
theorem bG.at {H:View} {L:List fS} (h:bG H L) (k:Nat) (hk:k < L.length):bG H (L[k] :: L.eraseIdx k) :=
  h.perm (Cx L k hk)
theorem bG.obj {H:View} {n k sz:Nat} {es:List (List V)} {L:List fS} (h:bG H ((.sl n 0 k sz,sz,es) :: L)) (hes:es≠[]):H n=.arr sz es∧k=es.length:=by
  rcases h.head with ⟨e,_⟩ | ⟨m,e,hm⟩
  · exact absurd e hes
  · simp only[V.sl.injEq] at e
    obtain ⟨rfl,_,rfl,_⟩:=e
    exact ⟨hm,rfl⟩
theorem bG.off {H:View} {x:fS} {L:List fS} (h:bG H (x :: L)) {id:Nat} (hid:owner x.1=some id):∀ y∈L,owner y.1≠some id:=by
  intro y hy e
  have:=h.2
  simp only[List.filterMap_cons,hid,List.nodup_cons,List.mem_filterMap,not_exists,not_and] at this
  exact this.1 y hy e
theorem bG.live {H:View} {x:fS} {L:List fS} (h:bG H L) (hx:x∈L) {id:Nat} (hid:owner x.1=some id):H id≠.dead:=by
  rw[((h.1 x hx).live hid).1]; simp
theorem bG.keep {H H':View} {L:List fS} (h:bG H L) (hk:∀ x∈L,∀ id,owner x.1=some id→H' id=H id):bG H' L :=
  ⟨fun x hx=>(h.1 x hx).keep (hk x hx),h.2⟩
theorem bG.new {H:View} {L:List fS} (h:bG H L) {n:Nat} (hn:H n=.dead) (sz:Nat) (es:List (List V)):bG (H.set n (.arr sz es)) ((.sl n 0 es.length sz,sz,es) :: L):=by
  refine ⟨fun x hx=>?_,?_⟩
  · rcases List.mem_cons.1 hx with rfl | hx
    · exact .new
    · exact (h.1 x hx).fresh hn
  · simp only[List.filterMap_cons,owner,List.nodup_cons,List.mem_filterMap,not_exists,not_and]
    exact ⟨fun x hx e=>h.live hx e hn,h.2⟩
theorem bG.JO {H H':View} {L:List fS} (h:bG H L) {u:V} {sz:Nat} {es:List (List V)} (ho:aV H' u sz es) (hf:c6 H H' u):bG H' ((u,sz,es) :: L):=by
  refine ⟨fun x hx=>?_,?_⟩
  · rcases List.mem_cons.1 hx with rfl | hx
    · exact ho
    · exact (h.1 x hx).pD hf
  · cases hu:owner u with
    | none=>simp only[List.filterMap_cons,hu]; exact h.2
    | some id =>
      simp only[List.filterMap_cons,hu,List.nodup_cons,List.mem_filterMap,not_exists,not_and]
      exact ⟨fun x hx e=>(hf id (h.live hx e)).2 hu,h.2⟩
theorem bG.fresh {H:View} {L:List fS} (h:bG H L) {n:Nat} (hn:H n=.dead) {o:br} : bG (H.set n o) L :=
  ⟨fun x hx=>(h.1 x hx).fresh hn,h.2⟩
theorem bG.put {H:View} {L:List fS} {n k sz:Nat} {es es':List (List V)} (h:bG H ((.sl n 0 k sz,sz,es) :: L)) (hl:es'.length=es.length) (hk:k=es.length):bG (H.set n (.arr sz es')) ((.sl n 0 k sz,sz,es') :: L):=by
  refine ⟨fun x hx=>?_,by simpa [List.filterMap_cons,owner] using h.2⟩
  rcases List.mem_cons.1 hx with rfl | hx
  · exact .inr ⟨n,by simp[hl,hk],by simp[View.set]⟩
  · exact (h.1 x (by simp[hx])).other (h.off rfl x hx)
theorem bG.left {H H':View} {L:List fS} {u u':V} {sz:Nat} {es es':List (List V)} (h:bG H ((u,sz,es) :: L)) (ho:aV H' u' sz es') (hl:Left H H' u u'):bG H' ((u',sz,es') :: L):=by
  have hoff:∀ x∈L,∀ id,owner x.1=some id→owner u≠some id:=fun x hx id hid hu=>h.off hu x hx hid
  refine ⟨fun x hx=>?_,?_⟩
  · rcases List.mem_cons.1 hx with rfl | hx
    · exact ho
    · exact (h.1 x (by simp[hx])).left hl (hoff x hx)
  · have ht:=h.tail.2
    cases hu:owner u' with
    | none=>simp only[List.filterMap_cons,hu]; exact ht
    | some id =>
      simp only[List.filterMap_cons,hu,List.nodup_cons,List.mem_filterMap,not_exists,not_and]
      refine ⟨fun x hx e=>?_,ht⟩
      have hlv:=h.tail.live hx e
      exact (hl id hlv (hoff x hx id e)).2 hu
theorem rq {sz bytes:Nat} {u:V} {es xs:List (List V)} {L:List fS} {H:View} {K:V→View→Prop} {w:bP (H,K)} (ho:bG H ((u,sz,es) :: L)) (hok:(xs.all fun e=>e.length == sz && e.all aN)=true)
    (hl:(es.length+xs.length) * bytes < aM) (hl2:es.length+xs.length < aM) (hk:∀ u' H',bG H' ((u',sz,es ++ xs) :: L)→Left H H' u u'→K u' H'):nj sz bytes u xs H K w :=
  ed ho.head hok hl hl2 fun u' H' h1 h2=>hk u' H' (ho.left h1 h2) h2
theorem bG.emp {H:View} {L:List fS} (h:bG H L) {k sz:Nat} : bG H ((.emp k,sz,[]) :: L):=by
  refine ⟨fun x hx=>?_,by simpa [List.filterMap_cons,owner] using h.2⟩
  rcases List.mem_cons.1 hx with rfl | hx
  · exact .nil
  · exact h.1 x hx
theorem aV.cells {H:View} {u:V} {sz:Nat} {es:List (List V)} (h:aV H u sz es):V.cells u=[u]:=by
  rcases h with ⟨rfl,k,rfl⟩ | ⟨n,rfl,_⟩ <;> rfl
theorem aV.r7 {H:View} {u:V} {sz:Nat} {es:List (List V)} (h:aV H u sz es):aN u=true:=by
  rcases h with ⟨rfl,k,rfl⟩ | ⟨n,rfl,_⟩ <;> rfl
theorem bG.ne {H:View} {n k sz m:Nat} {es:List (List V)} {L:List fS} (h:bG H ((.sl n 0 k sz,sz,es) :: L)) (hes:es≠[]) (hm:H m=.dead):n≠m:=by
  rintro rfl; rw[(h.obj hes).1] at hm; simp at hm
theorem bG.own {H:View} {L:List fS} (h:bG H L) (i:Nat) {u:V} {sz:Nat} {es:List (List V)} (hi:L[i]?=some (u,sz,es)):aV H u sz es:=h.1 _ (List.mem_of_getElem? hi)
theorem bG.is {H:View} {L:List fS} (h:bG H L) (i:Nat) {n k sz:Nat} {es:List (List V)} (hi:L[i]?=some (.sl n 0 k sz,sz,es)) (hes:0 < es.length):H n=.arr sz es:=by
  obtain ⟨m,e,hm⟩:=(h.own i hi).sl hes
  simp only[V.sl.injEq] at e
  rw[e.1]; exact hm
theorem Left.map {H H':View} {u u':V} {b c:Nat} {es:List (V × V × Nat)} {sz:Nat} {xs:List (List V)} (hl:Left H H' u u') (ho:aV H u sz xs) (hb:H b=.map es c):H' b=.map es c:=by
  rw[(hl b (by rw[hb]; simp) (fun e=>by have:=(ho.live e).1; rw[hb] at this; simp at this)).1,hb]
theorem az.HW {P:Program} {f:FuncId} {vs:List V} {H:View} {K:V→View→Prop} {w:bP (H,K)} {sz:Nat} {es:List (List V)} (hc:aB P f vs H fun r H'=>aV H' r sz es∧c6 H H' r) (hk:∀ r H',aV H' r sz es→c6 H H' r→K r H'):az P true f vs H K w:=by
  unfold az
  simp only[if_true]
  exact (hc.mono fun r H' h=>⟨fun id hid=>(h.2 id hid).1,hk r H' h.1 h.2⟩).GK
end Gv
set_option linter.unusedSimpArgs false
set_option maxRecDepth 100000
namespace Gv
open Go Go.Proofs
def sJ:SC :=
  .seq (al [aK 20 .lss 19 18]) <|
  .seq (.cond (.tmp 20) (.skip) (.exit 0)) <|
  .seq (.block 1 (.seq (al [aa 21 19,aa 3 21]) <|
  .seq (al [aa 22 0,aa 23 3,((some 24),.op (.ct (.tmp 22) (.tmp 23))),aF 25 110 [24],bQ 26 25]) <|
  .cond (.tmp 26) (.seq (al [aP 2 false]) <|
  .ret) (.skip))) <|
  al [ax 27 .add 19 1,aa 19 27]
def vN:SF:=⟨.seq (al [aP 2 false]) <|
  .seq (.seq (.region false [⟨none,[aa 4 0,((some 5),.op (.fO .eql (.tmp 4) (.val (.val (.string ⟨#[]⟩))))),aa 6 5]⟩,⟨(some (6,false)),[aa 7 0,((some 8),.op (.eO (.tmp 7))),ax 9 .gtr 8 20]⟩,⟨none,[bf 10 6 9,aa 11 10]⟩,⟨(some (11,false)),[aa 12 0,((some 13),.op (.ct (.tmp 12) (.val (.val (.int .i64 0))))),aF 14 109 [13],bQ 15 14]⟩,⟨none,[bf 16 11 15]⟩]) <|
  .cond (.tmp 16) (.seq (al [aP 2 false]) <|
  .ret) (.skip)) <|
  .seq (.seq (al [aa 17 0,((some 18),.op (.eO (.tmp 17))),aG 19 0]) <|
  .block 0 (.loop sJ)) <|
  .seq (al [aP 2 true]) <|
  .ret,
  [.tmp 2],28⟩
theorem y4:aR Tryz.prog 65 []=some vN:=by kernel_rfl
def r9:SF:=⟨.seq (al [aG 2 0,aG 3 0]) <|
  .seq (al [aG 4 2]) <|
  .seq (.block 0 (.seq (al [aa 6 0,aI 7 6,ax 8 .lss 7 2,aa 5 8]) <|
  .cond (.tmp 5) (.seq (al [aG 2 0,aG 3 4]) <|
  .ret) (.seq (al [aa 10 0,((some 11),.op (.idx 1 (.tmp 10) (.val (.val (.int .i64 1))))),ao 12 11,aF 13 179 [12],aa 9 13]) <|
  .cond (.tmp 9) (.skip) (.seq (al [aa 15 0,((some 16),.op (.idx 1 (.tmp 15) (.val (.val (.int .i64 1))))),ao 17 16,((some 18),.op (.arith .neq (.tmp 17) (.val (.val (.int .u8 92))))),aa 14 18]) <|
  .cond (.tmp 14) (.seq (al [aG 2 0,aG 3 3]) <|
  .ret) (.seq (al [aa 20 0,aI 21 20,ax 22 .lss 21 3,aa 19 22]) <|
  .cond (.tmp 19) (.seq (al [aG 2 0,aG 3 4]) <|
  .ret) (.seq (al [aa 24 0,((some 25),.op (.idx 1 (.tmp 24) (.val (.val (.int .i64 2))))),ao 26 25,aF 27 180 [26],bQ 28 27,aa 23 28]) <|
  .cond (.tmp 23) (.seq (al [aG 2 0,aG 3 3]) <|
  .ret) (al [aG 4 3]))))))) <|
  .seq (.seq (al [aa 29 0,aI 30 29,aa 31 4,aK 32 .leq 30 31]) <|
  .cond (.tmp 32) (.seq (al [aG 2 0,aG 3 4]) <|
  .ret) (.skip)) <|
  .seq (.seq (al [aa 33 0,aa 34 4,aX 35 1 33 34,ao 36 35,((some 37),.op (.arith .neq (.tmp 36) (.val (.val (.int .u8 39)))))]) <|
  .cond (.tmp 37) (.seq (al [aG 2 0,aG 3 3]) <|
  .ret) (.skip)) <|
  .seq (al [aa 38 4,ax 39 .add 38 1,aa 2 39,aG 3 0]) <|
  .ret,
  [.tmp 2,.tmp 3],40⟩
theorem u7:aR Tryz.prog 171 []=some r9:=by kernel_rfl
def mG:SF:=⟨.seq (al [aP 2 false]) <|
  .seq (.seq (.region false [⟨none,[aa 5 0,((some 6),.op (.fO .eql (.tmp 5) (.val (.val (.string ⟨#[]⟩))))),aa 7 6]⟩,⟨(some (7,false)),[aa 8 0,((some 9),.op (.ct (.tmp 8) (.val (.val (.int .i64 0))))),((some 10),.op (.arith .neq (.tmp 9) (.val (.val (.int .u8 39)))))]⟩,⟨none,[bf 11 7 10]⟩]) <|
  .cond (.tmp 11) (.seq (al [aP 2 false]) <|
  .ret) (.skip)) <|
  .seq (al [aa 13 0,((some 14),.op (.dH (.tmp 13))),aF 15 171 [14],aa 12 15,bK 16 0 12,bK 17 1 12,aa 3 16,aa 4 17]) <|
  .seq (.region false [⟨none,[aa 18 4,ax 19 .eql 18 0,aa 20 19]⟩,⟨(some (20,true)),[aa 21 3,aa 22 0,((some 23),.op (.eO (.tmp 22))),aK 24 .eql 21 23]⟩,⟨none,[bk 25 20 24,aa 2 25]⟩]) <|
  .ret,
  [.tmp 2],26⟩
theorem uU:aR Tryz.prog 142 [14]=some mG:=by kernel_rfl
def ue:SF:=⟨.seq (al [aP 2 false]) <|
  .seq (.region false [⟨none,[aa 3 0,aF 4 65 [3],aa 5 4]⟩,⟨(some (5,false)),[aa 6 0,aF 7 142 [6]]⟩,⟨none,[bf 8 5 7,aa 2 8]⟩]) <|
  .ret,
  [.tmp 2],9⟩
theorem xl:aR Tryz.prog 103 []=some ue:=by kernel_rfl
def rX:SF:=⟨.seq (al [aP 2 false]) <|
  .seq (al [aa 3 0,aF 4 65 [3],bQ 5 4,aa 2 5]) <|
  .ret,
  [.tmp 2],6⟩
theorem u6:aR Tryz.prog 64 []=some rX:=by kernel_rfl
theorem sO (s:ByteArray):fo s ⟨#[]⟩=decide ((df s).length=0):=by
  unfold fo
  rw[← cQ]
  have:(s.data.toList == ([]:List UInt8))=decide (s.data.toList.length=0):=by
    cases s.data.toList <;> rfl
  show (s.data.toList == ([]:List UInt8))=_
  rw[this]
  rfl
set_option maxHeartbeats 1000000 in
theorem GX (s:ByteArray) (H:View):aB Tryz.prog 65 [gs s] H fun r _=>r=gb (dE (df s)):=by
  refine aB.of mixed y4 ?_
  repeat' (first | (refine an.dec (fun _=>?_) (fun _=>?_)) | (refine an.eq (fun _=>?_) (fun _=>?_)) | (refine an.ne (fun _=>?_) (fun _=>?_)) | (refine an.split (fun _=>?_) (fun _=>?_)) | (simp (disch:=omega) only [↓wr,↓reduceIte,wq,ai,ah,ak,ae,af,ag,aj,isNil,Nat.reduceEqDiff,Nat.reduceAdd,Nat.reduceLT,Nat.reduceLeDiff,Int.reduceNeg,Int.reduceToNat,reduceCtorEq,vN,cQ,sO]))
  · rename_i h
    congr 2; simp[dE,h]
  · rename_i h1 h
    congr 2; simp[dE,show ¬ (df s).length≤20 by omega]
  · rename_i h1 h2
    cases hb:df s with
    | nil=>simp[hb] at h1
    | cons c l =>
      have hcr:=fun d (hd:d∈c :: l)=>xY (s:=s) (c:=d) (by rw[hb]; exact hd)
      have hc0:=hcr c (by simp)
      repeat' (first | (refine an.dec (fun _=>?_) (fun _=>?_)) | (refine an.eq (fun _=>?_) (fun _=>?_)) | (refine an.ne (fun _=>?_) (fun _=>?_)) | (refine an.split (fun _=>?_) (fun _=>?_)) | (simp (disch:=omega) only [↓wr,↓reduceIte,wq,ai,ah,ak,ae,af,ag,aj,isNil,Nat.reduceEqDiff,Nat.reduceAdd,Nat.reduceLT,Nat.reduceLeDiff,Int.reduceNeg,Int.reduceToNat,reduceCtorEq,hb,List.getElem?_cons_zero,cQ]))
      refine az.pure (qZ oy DR c hc0.1 hc0.2) (by kernel_rfl) ?_
      repeat' (first | (refine an.dec (fun _=>?_) (fun _=>?_)) | (refine an.eq (fun _=>?_) (fun _=>?_)) | (refine an.ne (fun _=>?_) (fun _=>?_)) | (refine an.split (fun _=>?_) (fun _=>?_)) | (simp (disch:=omega) only [↓wr,↓reduceIte,wq,ai,ah,ak,ae,af,ag,aj,isNil,Nat.reduceEqDiff,Nat.reduceAdd,Nat.reduceLT,Nat.reduceLeDiff,Int.reduceNeg,Int.reduceToNat,reduceCtorEq,hb,List.getElem?_cons_zero,cQ]))
      · rename_i hf
        rw[hb] at h1 h2
        refine bo.intro (fun k T H'=>∃ i:Nat,i+k=(c :: l).length∧((c :: l).take i).all jG=true∧T 0=gs s∧T 18=gi (c :: l).length∧T 19=gi i) (c :: l).length ?_ ?_
        · exact ⟨0,by omega,by simp,rfl,rfl,rfl⟩
        · rintro k T H' ⟨i,hk,hi,h0,h18,h19⟩
          simp (disch:=omega) only [↓wr,↓reduceIte,wq,ai,ah,ak,ae,af,ag,aj,isNil,Nat.reduceEqDiff,Nat.reduceAdd,Nat.reduceLT,Nat.reduceLeDiff,Int.reduceNeg,Int.reduceToNat,reduceCtorEq,sJ,h0,h18,h19,cQ,hb]
          refine an.dec (fun hc=>?_) (fun hc=>?_)
          · simp only[List.length_cons] at hc hk h2
            have hg:(c :: l)[i]?=some ((c :: l)[i]'(by simp; omega)):=List.getElem?_eq_getElem (by simp; omega)
            have hm:(c :: l)[i]'(by simp; omega)∈c :: l:=List.getElem_mem _
            generalize (c :: l)[i]'(by simp; omega)=d at hg hm
            have hd0:=hcr d hm
            simp (disch:=omega) only [↓wr,↓reduceIte,wq,ai,ah,ak,ae,af,ag,aj,isNil,Nat.reduceEqDiff,Nat.reduceAdd,Nat.reduceLT,Nat.reduceLeDiff,Int.reduceNeg,Int.reduceToNat,reduceCtorEq,h0,h18,h19,cQ,hb,hg]
            refine az.pure (qZ oy Eu d hd0.1 hd0.2) (by kernel_rfl) ?_
            repeat' (first | (refine an.dec (fun _=>?_) (fun _=>?_)) | (refine an.eq (fun _=>?_) (fun _=>?_)) | (refine an.ne (fun _=>?_) (fun _=>?_)) | (refine an.split (fun _=>?_) (fun _=>?_)) | (simp (disch:=omega) only [↓wr,↓reduceIte,wq,ai,ah,ak,ae,af,ag,aj,isNil,Nat.reduceEqDiff,Nat.reduceAdd,Nat.reduceLT,Nat.reduceLeDiff,Int.reduceNeg,Int.reduceToNat,reduceCtorEq,h0,h18,h19,cQ,hb,hg]))
            · rename_i hd
              refine ⟨k - 1,by omega,i+1,by omega,?_,by first | rfl | exact ⟨rfl,rfl⟩⟩
              rw[List.take_add_one,hg]
              simp only[Option.toList_some,List.all_append,hi,List.all_cons,hd,List.all_nil,Bool.and_self]
            · rename_i hd
              congr 2
              have:(c :: l).all jG=false:=by
                rw[List.all_eq_false]; exact ⟨d,hm,by simp[hd]⟩
              simp only[dE,this,Bool.and_false]
          · simp (disch:=omega) only [↓wr,↓reduceIte,wq,ai,ah,ak,ae,af,ag,aj,isNil,Nat.reduceEqDiff,Nat.reduceAdd,Nat.reduceLT,Nat.reduceLeDiff,Int.reduceNeg,Int.reduceToNat,reduceCtorEq,h0,h18,h19]
            simp only[List.length_cons] at hc hk h2
            rw[List.take_of_length_le (by simp; omega)] at hi
            congr 2
            simp only[dE,hi,List.length_cons]
            simp[hf]; omega
      · rename_i hf
        congr 2; simp[dE,hf]
theorem zB (s:ByteArray):aC Tryz.prog 65 [gs s] (gb (dE (df s))):=aC.val (kZ s) (GX s)
def gj (l:List Int):Int × Int :=
  if sN (l.getD 1 0)=true then (2,0) else if l.getD 1 0≠92 then (0,3) else if l.length < 3 then (0,4) else if xh (l.getD 2 0)=true then (3,0) else (0,3)
def iP (l:List Int):Int × Int :=
  if l.length < 2 then (0,4) else if (gj l).2≠0 then (0,(gj l).2) else if (l.length:Int)≤(gj l).1 then (0,4) else if l.getD (gj l).1.toNat 0≠39 then (0,3) else ((gj l).1+1,0)
theorem Es {l:List Int} {n:Int} (hN:gj l=(n,0)) (h2:¬ l.length < 2):iP l=if (l.length:Int)≤n then (0,4) else if l.getD n.toNat 0≠39 then (0,3) else (n+1,0):=by
  rw[iP,if_neg h2,hN]; simp
theorem Ao {l:List Int} {e:Int} (hN:gj l=(0,e)) (he:e≠0) (h2:¬ l.length < 2):iP l=(0,e):=by
  rw[iP,if_neg h2,hN]; simp[he]
set_option maxHeartbeats 2000000 in
theorem Dn (l:List Int) (hr:∀ c∈l,0≤c∧c≤255) (H:View):aB Tryz.prog 171 [.aY (l.map fun x=>[gy x])] H fun r _=>r=.bp [gi (iP l).1,gi (iP l).2]:=by
  refine aB.of mixed u7 ?_
  simp (disch:=omega) only [↓wr,↓reduceIte,wq,ai,ah,ak,ae,af,ag,aj,isNil,Nat.reduceEqDiff,Nat.reduceAdd,Nat.reduceLT,Nat.reduceLeDiff,Int.reduceNeg,Int.reduceToNat,reduceCtorEq,r9]
  refine an.dec (fun h=>?_) (fun h=>?_)
  · simp (disch:=omega) only [↓wr,↓reduceIte,wq,ai,ah,ak,ae,af,ag,aj,isNil,Nat.reduceEqDiff,Nat.reduceAdd,Nat.reduceLT,Nat.reduceLeDiff,Int.reduceNeg,Int.reduceToNat,reduceCtorEq]
    rw[iP,if_pos (by omega)]
  · have h1:l[1]?=some (l[1]'(by omega)):=List.getElem?_eq_getElem (by omega)
    have g1:l.getD 1 0=l[1]'(by omega):=by simp[List.getD_eq_getElem?_getD,h1]
    have m1:l[1]'(by omega)∈l:=List.getElem_mem _
    generalize l[1]'(by omega)=b at h1 g1 m1
    have hb:=hr b m1
    simp (disch:=omega) only [↓wr,↓reduceIte,wq,ai,ah,ak,ae,af,ag,aj,isNil,Nat.reduceEqDiff,Nat.reduceAdd,Nat.reduceLT,Nat.reduceLeDiff,Int.reduceNeg,Int.reduceToNat,reduceCtorEq,List.getElem?_map,h1]
    refine az.pure (qZ oy EX b hb.1 hb.2) (by kernel_rfl) ?_
    simp (disch:=omega) only [↓wr,↓reduceIte,wq,ai,ah,ak,ae,af,ag,aj,isNil,Nat.reduceEqDiff,Nat.reduceAdd,Nat.reduceLT,Nat.reduceLeDiff,Int.reduceNeg,Int.reduceToNat,reduceCtorEq]
    refine an.split (fun hp=>?_) (fun hp=>?_)
    · have hN:gj l=(2,0):=by rw[gj,if_pos (by rw[g1]; exact hp)]
      simp (disch:=omega) only [↓wr,↓reduceIte,wq,ai,ah,ak,ae,af,ag,aj,isNil,Nat.reduceEqDiff,Nat.reduceAdd,Nat.reduceLT,Nat.reduceLeDiff,Int.reduceNeg,Int.reduceToNat,reduceCtorEq]
      have hP:=Es hN (by omega)
      refine an.dec (fun h3=>?_) (fun h3=>?_)
      · simp (disch:=omega) only [↓wr,↓reduceIte,wq,ai,ah,ak,ae,af,ag,aj,isNil,Nat.reduceEqDiff,Nat.reduceAdd,Nat.reduceLT,Nat.reduceLeDiff,Int.reduceNeg,Int.reduceToNat,reduceCtorEq]
        rw[hP,if_pos (by omega)]
      · rw[if_neg (by omega)] at hP
        have h2:l[2]?=some (l[2]'(by omega)):=List.getElem?_eq_getElem (by omega)
        have g2:l.getD (2:Int).toNat 0=l[2]'(by omega):=by simp[List.getD_eq_getElem?_getD,h2]
        generalize l[2]'(by omega)=c at h2 g2
        rw[g2] at hP
        simp (disch:=omega) only [↓wr,↓reduceIte,wq,ai,ah,ak,ae,af,ag,aj,isNil,Nat.reduceEqDiff,Nat.reduceAdd,Nat.reduceLT,Nat.reduceLeDiff,Int.reduceNeg,Int.reduceToNat,reduceCtorEq,List.getElem?_map,h2]
        refine an.ne (fun h4=>?_) (fun h4=>?_)
        · simp (disch:=omega) only [↓wr,↓reduceIte,wq,ai,ah,ak,ae,af,ag,aj,isNil,Nat.reduceEqDiff,Nat.reduceAdd,Nat.reduceLT,Nat.reduceLeDiff,Int.reduceNeg,Int.reduceToNat,reduceCtorEq]
          rw[hP,if_pos h4]
        · simp (disch:=omega) only [↓wr,↓reduceIte,wq,ai,ah,ak,ae,af,ag,aj,isNil,Nat.reduceEqDiff,Nat.reduceAdd,Nat.reduceLT,Nat.reduceLeDiff,Int.reduceNeg,Int.reduceToNat,reduceCtorEq]
          rw[hP,if_neg (fun q=>q h4)]
    · simp (disch:=omega) only [↓wr,↓reduceIte,wq,ai,ah,ak,ae,af,ag,aj,isNil,Nat.reduceEqDiff,Nat.reduceAdd,Nat.reduceLT,Nat.reduceLeDiff,Int.reduceNeg,Int.reduceToNat,reduceCtorEq,List.getElem?_map,h1]
      refine an.ne (fun h5=>?_) (fun h5=>?_)
      · simp (disch:=omega) only [↓wr,↓reduceIte,wq,ai,ah,ak,ae,af,ag,aj,isNil,Nat.reduceEqDiff,Nat.reduceAdd,Nat.reduceLT,Nat.reduceLeDiff,Int.reduceNeg,Int.reduceToNat,reduceCtorEq]
        rw[Ao (e:=3) (by rw[gj,if_neg (by rw[g1,hp]; simp),if_pos (by rw[g1]; exact h5)]) (by simp) (by omega)]
      · simp (disch:=omega) only [↓wr,↓reduceIte,wq,ai,ah,ak,ae,af,ag,aj,isNil,Nat.reduceEqDiff,Nat.reduceAdd,Nat.reduceLT,Nat.reduceLeDiff,Int.reduceNeg,Int.reduceToNat,reduceCtorEq]
        refine an.dec (fun h6=>?_) (fun h6=>?_)
        · simp (disch:=omega) only [↓wr,↓reduceIte,wq,ai,ah,ak,ae,af,ag,aj,isNil,Nat.reduceEqDiff,Nat.reduceAdd,Nat.reduceLT,Nat.reduceLeDiff,Int.reduceNeg,Int.reduceToNat,reduceCtorEq]
          rw[Ao (e:=4) (by rw[gj,if_neg (by rw[g1,hp]; simp),if_neg (by rw[g1]; exact fun q=>q h5),if_pos (by omega)]) (by simp) (by omega)]
        · have h2:l[2]?=some (l[2]'(by omega)):=List.getElem?_eq_getElem (by omega)
          have g2:l.getD 2 0=l[2]'(by omega):=by simp[List.getD_eq_getElem?_getD,h2]
          have m2:l[2]'(by omega)∈l:=List.getElem_mem _
          generalize l[2]'(by omega)=c at h2 g2 m2
          have hcr:=hr c m2
          have hN0:gj l=if xh c=true then (3,0) else (0,3):=by rw[gj,if_neg (by rw[g1,hp]; simp),if_neg (by rw[g1]; exact fun q=>q h5),if_neg (by omega),g2]
          simp (disch:=omega) only [↓wr,↓reduceIte,wq,ai,ah,ak,ae,af,ag,aj,isNil,Nat.reduceEqDiff,Nat.reduceAdd,Nat.reduceLT,Nat.reduceLeDiff,Int.reduceNeg,Int.reduceToNat,reduceCtorEq,List.getElem?_map,h2]
          refine az.pure (qZ oy Ig c hcr.1 hcr.2) (by kernel_rfl) ?_
          simp (disch:=omega) only [↓wr,↓reduceIte,wq,ai,ah,ak,ae,af,ag,aj,isNil,Nat.reduceEqDiff,Nat.reduceAdd,Nat.reduceLT,Nat.reduceLeDiff,Int.reduceNeg,Int.reduceToNat,reduceCtorEq]
          refine an.split (fun he=>?_) (fun he=>?_)
          · rw[if_pos he] at hN0
            have hP:=Es hN0 (by omega)
            simp (disch:=omega) only [↓wr,↓reduceIte,wq,ai,ah,ak,ae,af,ag,aj,isNil,Nat.reduceEqDiff,Nat.reduceAdd,Nat.reduceLT,Nat.reduceLeDiff,Int.reduceNeg,Int.reduceToNat,reduceCtorEq]
            refine an.dec (fun h3=>?_) (fun h3=>?_)
            · simp (disch:=omega) only [↓wr,↓reduceIte,wq,ai,ah,ak,ae,af,ag,aj,isNil,Nat.reduceEqDiff,Nat.reduceAdd,Nat.reduceLT,Nat.reduceLeDiff,Int.reduceNeg,Int.reduceToNat,reduceCtorEq]
              rw[hP,if_pos (by omega)]
            · rw[if_neg (by omega)] at hP
              have h7:l[3]?=some (l[3]'(by omega)):=List.getElem?_eq_getElem (by omega)
              have g3:l.getD (3:Int).toNat 0=l[3]'(by omega):=by simp[List.getD_eq_getElem?_getD,h7]
              generalize l[3]'(by omega)=d at h7 g3
              rw[g3] at hP
              simp (disch:=omega) only [↓wr,↓reduceIte,wq,ai,ah,ak,ae,af,ag,aj,isNil,Nat.reduceEqDiff,Nat.reduceAdd,Nat.reduceLT,Nat.reduceLeDiff,Int.reduceNeg,Int.reduceToNat,reduceCtorEq,List.getElem?_map,h7]
              refine an.ne (fun h4=>?_) (fun h4=>?_)
              · simp (disch:=omega) only [↓wr,↓reduceIte,wq,ai,ah,ak,ae,af,ag,aj,isNil,Nat.reduceEqDiff,Nat.reduceAdd,Nat.reduceLT,Nat.reduceLeDiff,Int.reduceNeg,Int.reduceToNat,reduceCtorEq]
                rw[hP,if_pos h4]
              · simp (disch:=omega) only [↓wr,↓reduceIte,wq,ai,ah,ak,ae,af,ag,aj,isNil,Nat.reduceEqDiff,Nat.reduceAdd,Nat.reduceLT,Nat.reduceLeDiff,Int.reduceNeg,Int.reduceToNat,reduceCtorEq]
                rw[hP,if_neg (fun q=>q h4)]
          · rw[if_neg (by rw[he]; simp)] at hN0
            simp (disch:=omega) only [↓wr,↓reduceIte,wq,ai,ah,ak,ae,af,ag,aj,isNil,Nat.reduceEqDiff,Nat.reduceAdd,Nat.reduceLT,Nat.reduceLeDiff,Int.reduceNeg,Int.reduceToNat,reduceCtorEq]
            rw[Ao hN0 (by simp) (by omega)]
end Gv
set_option linter.unusedSimpArgs false
set_option maxRecDepth 100000
namespace Gv
open Go Go.Proofs
def dh {α:Type} (p:α→Bool):List α→Int→Int
  | [],_=>-1
  | x :: l,i=>if p x then i else dh p l (i+1)
theorem rO {α:Type} (p:α→Bool):∀ (l:List α) (i:Int),0≤i→decide (0≤dh p l i)=l.any p
  | [],_,_=>by simp[dh]
  | x :: l,i,h=>by
    have ih:=rO p l (i+1) (by omega)
    rw[List.any_cons,dh]
    by_cases hp:p x=true
    · rw[if_pos hp,hp]; simp[h]
    · rw[if_neg hp,ih]; simp[hp]
theorem Cq {f:FuncId} {xs cap:List V} (h:∀ v∈xs,Tree v) (h2:∀ v∈cap,Tree v):Tree (.fn f xs cap):=by
  refine .fn _ _ _ (fun i hi=>?_) (fun i hi=>?_)
  · have e2:xs.getD i .any=xs[i]:=by simp[List.getD_eq_getElem?_getD,hi]
    rw[e2]; exact h _ (List.getElem_mem _)
  · have e2:cap.getD i .any=cap[i]:=by simp[List.getD_eq_getElem?_getD,hi]
    rw[e2]; exact h2 _ (List.getElem_mem _)
def ez:SC :=
  .seq (al [aK 9 .lss 8 7]) <|
  .seq (.cond (.tmp 9) (.skip) (.exit 0)) <|
  .seq (.block 1 (.seq (al [aa 10 8,aa 5 10]) <|
  .seq (al [aa 11 1,aa 12 0,aa 13 5,aX 14 1 12 13,ao 15 14,((some 16),.call (.tmp 11) [(.tmp 15)])]) <|
  .cond (.tmp 16) (.seq (al [aa 17 5,aa 4 17]) <|
  .ret) (.skip))) <|
  al [ax 18 .add 8 1,aa 8 18]
def eQ:SF:=⟨.seq (al [aG 4 0]) <|
  .seq (.seq (al [aa 6 0,aI 7 6,aG 8 0]) <|
  .block 0 (.loop ez)) <|
  .seq (al [aG 4 (-1)]) <|
  .ret,
  [.tmp 4],19⟩
theorem iS:aR Tryz.prog 67 []=some eQ:=by kernel_rfl
def ep:SF:=⟨.seq (al [aP 4 false]) <|
  .seq (al [aa 5 0,aa 6 1,aF 7 67 [5,6],ax 8 .geq 7 0,aa 4 8]) <|
  .ret,
  [.tmp 4],9⟩
theorem gX:aR Tryz.prog 39 []=some ep:=by kernel_rfl
def dB:SC :=
  .seq (al [aK 9 .lss 8 7]) <|
  .seq (.cond (.tmp 9) (.skip) (.exit 0)) <|
  .seq (.block 1 (.seq (al [aa 10 8,aa 5 10]) <|
  .seq (al [aa 11 1,aa 12 0,aa 13 5,aX 14 1 12 13,ao 15 14,((some 16),.call (.tmp 11) [(.tmp 15)])]) <|
  .cond (.tmp 16) (.seq (al [aa 17 5,aa 4 17]) <|
  .ret) (.skip))) <|
  al [ax 18 .add 8 1,aa 8 18]
def dO:SF:=⟨.seq (al [aG 4 0]) <|
  .seq (.seq (al [aa 6 0,aI 7 6,aG 8 0]) <|
  .block 0 (.loop dB)) <|
  .seq (al [aG 4 (-1)]) <|
  .ret,
  [.tmp 4],19⟩
theorem fK:aR Tryz.prog 108 []=some dO:=by kernel_rfl
def dy:SF:=⟨.seq (al [aP 4 false]) <|
  .seq (al [aa 5 0,aa 6 1,aF 7 108 [5,6],ax 8 .geq 7 0,aa 4 8]) <|
  .ret,
  [.tmp 4],9⟩
theorem fe:aR Tryz.prog 63 []=some dy:=by kernel_rfl
theorem y1 (l:List Int) (hl:aL l) (f:FuncId) (cap:List V) (p:Int→Bool) (hf:∀ x∈l,aC Tryz.prog f (gi x :: cap) (gb (p x))) (hok:bY Tryz.prog f=true) (H:View) :
    aB Tryz.prog 67 [encI l,.fn f [] cap] H fun r _=>r=gi (dh p l 0):=by
  refine aB.of mixed iS ?_
  unfold aL at hl
  simp (disch:=omega) only [↓wr,↓reduceIte,wq,ai,ah,ak,ae,af,ag,aj,isNil,Nat.reduceEqDiff,Nat.reduceAdd,Nat.reduceLT,Nat.reduceLeDiff,Int.reduceNeg,Int.reduceToNat,reduceCtorEq,eQ,encI]
  refine bo.up l.length (fun i T _=>dh p (l.drop i) i=dh p l 0∧T 0=encI l∧T 1=.fn f [] cap∧T 7=gi l.length∧T 8=gi i) ⟨rfl,rfl,rfl,rfl,rfl⟩ ?_
  rintro i k T H hk ⟨hi,h0,h1,h7,h8⟩
  simp (disch:=omega) only [↓wr,↓reduceIte,wq,ai,ah,ak,ae,af,ag,aj,isNil,Nat.reduceEqDiff,Nat.reduceAdd,Nat.reduceLT,Nat.reduceLeDiff,Int.reduceNeg,Int.reduceToNat,reduceCtorEq,ez,h0,h1,h7,h8,encI]
  refine an.dec (fun hc=>?_) (fun hc=>?_)
  · have hg:l[i]?=some (l[i]'(by omega)):=List.getElem?_eq_getElem (by omega)
    have hm:l[i]'(by omega)∈l:=List.getElem_mem _
    rw[eE (show i < l.length by omega)] at hi
    generalize l[i]'(by omega)=x at hg hm hi
    simp (disch:=omega) only [↓wr,↓reduceIte,wq,ai,ah,ak,ae,af,ag,aj,isNil,Nat.reduceEqDiff,Nat.reduceAdd,Nat.reduceLT,Nat.reduceLeDiff,Int.reduceNeg,Int.reduceToNat,reduceCtorEq,h0,h1,h7,h8,encI,List.getElem?_map,hg]
    refine az.pure (hf x hm) hok ?_
    simp only[dh] at hi
    repeat' (first | (refine an.dec (fun _=>?_) (fun _=>?_)) | (refine an.eq (fun _=>?_) (fun _=>?_)) | (refine an.ne (fun _=>?_) (fun _=>?_)) | (refine an.split (fun _=>?_) (fun _=>?_)) | (simp (disch:=omega) only [↓wr,↓reduceIte,wq,ai,ah,ak,ae,af,ag,aj,isNil,Nat.reduceEqDiff,Nat.reduceAdd,Nat.reduceLT,Nat.reduceLeDiff,Int.reduceNeg,Int.reduceToNat,reduceCtorEq,h0,h1,h7,h8]))
    · rename_i hp
      rw[← hi,if_pos hp]
    · rename_i hp
      refine bb hk (by omega) ⟨?_,h0,h1,h7,rfl⟩
      rw[if_neg (by simp[hp])] at hi
      push_cast; exact hi
  · rw[List.drop_eq_nil_of_le (by omega)] at hi
    simp (disch:=omega) only [↓wr,↓reduceIte,wq,ai,ah,ak,ae,af,ag,aj,isNil,Nat.reduceEqDiff,Nat.reduceAdd,Nat.reduceLT,Nat.reduceLeDiff,Int.reduceNeg,Int.reduceToNat,reduceCtorEq,h0,h1,h7,h8]
    rw[← hi]; rfl
theorem tD {l:List Int} {f:FuncId} {cap:List V} (hcap:∀ v∈cap,Tree v):∀ v∈[encI l,.fn f [] cap],Tree v:=by
  intro v hv; simp at hv
  rcases hv with rfl | rfl
  · exact cn l
  · exact Cq (by simp) hcap
theorem fj (l:List Int) (hl:aL l) (f:FuncId) (cap:List V) (hcap:∀ v∈cap,Tree v) (p:Int→Bool) (hf:∀ x∈l,aC Tryz.prog f (gi x :: cap) (gb (p x))) (hok:bY Tryz.prog f=true) :
    aC Tryz.prog 39 [encI l,.fn f [] cap] (gb (l.any p)):=by
  refine aC.val (tD hcap) fun H=>?_
  refine aB.of mixed gX ?_
  simp (disch:=omega) only [↓wr,↓reduceIte,wq,ai,ah,ak,ae,af,ag,aj,isNil,Nat.reduceEqDiff,Nat.reduceAdd,Nat.reduceLT,Nat.reduceLeDiff,Int.reduceNeg,Int.reduceToNat,reduceCtorEq,ep]
  refine az.pure (aC.val (tD hcap) (y1 l hl f cap p hf hok)) (by kernel_rfl) ?_
  simp (disch:=omega) only [↓wr,↓reduceIte,wq,ai,ah,ak,ae,af,ag,aj,isNil,Nat.reduceEqDiff,Nat.reduceAdd,Nat.reduceLT,Nat.reduceLeDiff,Int.reduceNeg,Int.reduceToNat,reduceCtorEq]
  rw[← rO p l 0 (by omega)]
theorem yV (l:List ByteArray) (hl:aL l) (f:FuncId) (cap:List V) (p:ByteArray→Bool) (hf:∀ x∈l,aC Tryz.prog f (gs x :: cap) (gb (p x))) (hok:bY Tryz.prog f=true) (H:View) :
    aB Tryz.prog 108 [encS l,.fn f [] cap] H fun r _=>r=gi (dh p l 0):=by
  refine aB.of mixed fK ?_
  unfold aL at hl
  simp (disch:=omega) only [↓wr,↓reduceIte,wq,ai,ah,ak,ae,af,ag,aj,isNil,Nat.reduceEqDiff,Nat.reduceAdd,Nat.reduceLT,Nat.reduceLeDiff,Int.reduceNeg,Int.reduceToNat,reduceCtorEq,dO,encS]
  refine bo.up l.length (fun i T _=>dh p (l.drop i) i=dh p l 0∧T 0=encS l∧T 1=.fn f [] cap∧T 7=gi l.length∧T 8=gi i) ⟨rfl,rfl,rfl,rfl,rfl⟩ ?_
  rintro i k T H hk ⟨hi,h0,h1,h7,h8⟩
  simp (disch:=omega) only [↓wr,↓reduceIte,wq,ai,ah,ak,ae,af,ag,aj,isNil,Nat.reduceEqDiff,Nat.reduceAdd,Nat.reduceLT,Nat.reduceLeDiff,Int.reduceNeg,Int.reduceToNat,reduceCtorEq,dB,h0,h1,h7,h8,encS]
  refine an.dec (fun hc=>?_) (fun hc=>?_)
  · have hg:l[i]?=some (l[i]'(by omega)):=List.getElem?_eq_getElem (by omega)
    have hm:l[i]'(by omega)∈l:=List.getElem_mem _
    rw[eE (show i < l.length by omega)] at hi
    generalize l[i]'(by omega)=x at hg hm hi
    simp (disch:=omega) only [↓wr,↓reduceIte,wq,ai,ah,ak,ae,af,ag,aj,isNil,Nat.reduceEqDiff,Nat.reduceAdd,Nat.reduceLT,Nat.reduceLeDiff,Int.reduceNeg,Int.reduceToNat,reduceCtorEq,h0,h1,h7,h8,encS,List.getElem?_map,hg]
    refine az.pure (hf x hm) hok ?_
    simp only[dh] at hi
    repeat' (first | (refine an.dec (fun _=>?_) (fun _=>?_)) | (refine an.eq (fun _=>?_) (fun _=>?_)) | (refine an.ne (fun _=>?_) (fun _=>?_)) | (refine an.split (fun _=>?_) (fun _=>?_)) | (simp (disch:=omega) only [↓wr,↓reduceIte,wq,ai,ah,ak,ae,af,ag,aj,isNil,Nat.reduceEqDiff,Nat.reduceAdd,Nat.reduceLT,Nat.reduceLeDiff,Int.reduceNeg,Int.reduceToNat,reduceCtorEq,h0,h1,h7,h8]))
    · rename_i hp
      rw[← hi,if_pos hp]
    · rename_i hp
      refine bb hk (by omega) ⟨?_,h0,h1,h7,rfl⟩
      rw[if_neg (by simp[hp])] at hi
      push_cast; exact hi
  · rw[List.drop_eq_nil_of_le (by omega)] at hi
    simp (disch:=omega) only [↓wr,↓reduceIte,wq,ai,ah,ak,ae,af,ag,aj,isNil,Nat.reduceEqDiff,Nat.reduceAdd,Nat.reduceLT,Nat.reduceLeDiff,Int.reduceNeg,Int.reduceToNat,reduceCtorEq,h0,h1,h7,h8]
    rw[← hi]; rfl
theorem sX {l:List ByteArray} {f:FuncId} {cap:List V} (hcap:∀ v∈cap,Tree v):∀ v∈[encS l,.fn f [] cap],Tree v:=by
  intro v hv; simp at hv
  rcases hv with rfl | rfl
  · exact yz l
  · exact Cq (by simp) hcap
theorem vw (l:List ByteArray) (hl:aL l) (f:FuncId) (cap:List V) (hcap:∀ v∈cap,Tree v) (p:ByteArray→Bool) (hf:∀ x∈l,aC Tryz.prog f (gs x :: cap) (gb (p x))) (hok:bY Tryz.prog f=true) :
    aC Tryz.prog 63 [encS l,.fn f [] cap] (gb (l.any p)):=by
  refine aC.val (sX hcap) fun H=>?_
  refine aB.of mixed fe ?_
  simp (disch:=omega) only [↓wr,↓reduceIte,wq,ai,ah,ak,ae,af,ag,aj,isNil,Nat.reduceEqDiff,Nat.reduceAdd,Nat.reduceLT,Nat.reduceLeDiff,Int.reduceNeg,Int.reduceToNat,reduceCtorEq,dy]
  refine az.pure (aC.val (sX hcap) (yV l hl f cap p hf hok)) (by kernel_rfl) ?_
  simp (disch:=omega) only [↓wr,↓reduceIte,wq,ai,ah,ak,ae,af,ag,aj,isNil,Nat.reduceEqDiff,Nat.reduceAdd,Nat.reduceLT,Nat.reduceLeDiff,Int.reduceNeg,Int.reduceToNat,reduceCtorEq]
  rw[← rO p l 0 (by omega)]
theorem tt {l:List Value} : ∀ v∈l.map V.val,Tree v:=by
  intro v hv; obtain ⟨x,_,rfl⟩:=List.mem_map.1 hv; exact .val _
def tv:SF:=⟨.seq (al [aP 6 false]) <|
  .seq (.region false [⟨none,[aa 7 0,aa 8 1,aK 9 .geq 7 8,aa 10 9]⟩,⟨(some (10,true)),[aa 11 0,aa 12 2,aK 13 .leq 11 12]⟩,⟨none,[bk 14 10 13,aa 6 14]⟩]) <|
  .ret,
  [.tmp 6],15⟩
theorem wz:aR Tryz.prog 61 []=some tv:=by kernel_rfl
def yg:SF:=⟨.seq (al [aG 2 0]) <|
  .seq (al [aa 3 0,((some 4),.op (.arith .sub (.val (.val (.int .i64 (-1)))) (.tmp 3))),aa 2 4]) <|
  .ret,
  [.tmp 2],5⟩
theorem zx:aR Tryz.prog 146 []=some yg:=by kernel_rfl
def yT:SF:=⟨.seq (al [b7 2 0,aP 4 false]) <|
  .seq (.seq (al [aa 5 1,ax 6 .lss 5 0]) <|
  .cond (.tmp 6) (.seq (.region true [⟨none,[aa 7 1,aF 8 146 [7],aq 9 1 2,ao 10 9,aI 11 10,aK 12 .lss 8 11,aa 4 12]⟩]) <|
  .ret) (.skip)) <|
  .seq (al [aa 13 1,aq 14 0 2,ao 15 14,aI 16 15,aK 17 .lss 13 16,aa 4 17]) <|
  .ret,
  [.tmp 4],18⟩
theorem AB:aR Tryz.prog 112 [2]=some yT:=by kernel_rfl
def tq:SF:=⟨.seq (al [aP 4 false]) <|
  .seq (.region false [⟨none,[aO 5 4 1,aa 6 0,aF 7 112 [5,6],bQ 8 7,aa 9 8]⟩,⟨(some (9,false)),[aa 10 0,ax 11 .geq 10 0,aa 12 11]⟩,⟨(some (12,true)),[aq 13 2 2,ao 14 13,ax 15 .eql 14 (-1)]⟩,⟨(some (9,false)),[bk 16 12 15]⟩,⟨none,[bf 17 9 16,aa 4 17]⟩]) <|
  .ret,
  [.tmp 4],18⟩
theorem vE:aR Tryz.prog 111 []=some tq:=by kernel_rfl
def wE:SF:=⟨.seq (al [b7 2 0,b7 3 1,aP 4 false]) <|
  .seq (.seq (.region false [⟨none,[aq 5 1 3,ao 6 5,aI 7 6,ax 8 .gtr 7 6,aa 9 8]⟩,⟨(some (9,false)),[aq 10 2 3,ao 11 10,aq 12 0 2,ao 13 12,aI 14 13,ax 15 .sub 14 1,bT 16 61 [(.tmp 11),(.val (.val (.int .i64 (-1)))),(.tmp 15)],bQ 17 16]⟩,⟨none,[bf 18 9 17]⟩]) <|
  .cond (.tmp 18) (.seq (al [aP 4 false]) <|
  .ret) (.skip)) <|
  .seq (al [aq 19 1 3,ao 20 19,((some 21),.op (.q9 111 [] [(.tmp 2),(.tmp 3)])),aF 22 39 [20,21],bQ 23 22,aa 4 23]) <|
  .ret,
  [.tmp 4],24⟩
theorem y3:aR Tryz.prog 66 [2,3]=some wE:=by kernel_rfl
theorem mX (a b c:Int):aC Tryz.prog 61 [gi a,gi b,gi c] (gb (decide (b≤a) && decide (a≤c))):=by
  refine aC.val (tt (l:=[.int .i64 a,.int .i64 b,.int .i64 c])) fun H=>?_
  refine aB.of mixed wz ?_
  repeat' (first | (refine an.dec (fun _=>?_) (fun _=>?_)) | (refine an.eq (fun _=>?_) (fun _=>?_)) | (refine an.ne (fun _=>?_) (fun _=>?_)) | (refine an.split (fun _=>?_) (fun _=>?_)) | (simp (disch:=omega) only [↓wr,↓reduceIte,wq,ai,ah,ak,ae,af,ag,aj,isNil,Nat.reduceEqDiff,Nat.reduceAdd,Nat.reduceLT,Nat.reduceLeDiff,Int.reduceNeg,Int.reduceToNat,reduceCtorEq,tv]))
  all_goals simp[*]
theorem IC (s:Int) (hs:bJ s):aC Tryz.prog 146 [gi s] (gi (-1 - s)):=by
  refine aC.val (tt (l:=[.int .i64 s])) fun H=>?_
  obtain ⟨h1,h2⟩:=hs
  refine aB.of mixed zx ?_
  repeat' (first | (refine an.dec (fun _=>?_) (fun _=>?_)) | (refine an.eq (fun _=>?_) (fun _=>?_)) | (refine an.ne (fun _=>?_) (fun _=>?_)) | (refine an.split (fun _=>?_) (fun _=>?_)) | (simp (disch:=omega) only [↓wr,↓reduceIte,wq,ai,ah,ak,ae,af,ag,aj,isNil,Nat.reduceEqDiff,Nat.reduceAdd,Nat.reduceLT,Nat.reduceLeDiff,Int.reduceNeg,Int.reduceToNat,reduceCtorEq,yg]))
theorem HU (g:au) (s:Int) (hs:bJ s):aC Tryz.prog 112 [.agg (ar g),gi s] (gb (kS g s)):=by
  refine aC.val (zt g s) fun H=>?_
  refine aB.of mixed AB ?_
  repeat' (first | (refine an.dec (fun _=>?_) (fun _=>?_)) | (refine an.eq (fun _=>?_) (fun _=>?_)) | (refine an.ne (fun _=>?_) (fun _=>?_)) | (refine an.split (fun _=>?_) (fun _=>?_)) | (refine az.pure (IC s hs) (by kernel_rfl) ?_) | (simp (disch:=omega) only [↓wr,↓reduceIte,wq,ai,ah,ak,ae,af,ag,aj,isNil,Nat.reduceEqDiff,Nat.reduceAdd,Nat.reduceLT,Nat.reduceLeDiff,Int.reduceNeg,Int.reduceToNat,reduceCtorEq,yT,ar,encS]))
  · rename_i h; simp[kS,show ¬ (0:Int)≤s by omega]
  · rename_i h; simp[kS,show (0:Int)≤s by omega]
theorem aC.bool {f:FuncId} {vs:List V} {a b:Bool} (h:aC Tryz.prog f vs (gb a)) (e:a=b):aC Tryz.prog f vs (gb b):=e ▸ h
theorem ff {cs:List V} {j:Nat} (h:∀ v∈cs,Tree v):Tree (.aJ cs j):=by
  refine .aJ _ _ fun i hi=>?_
  have e2:cs.getD i .any=cs[i]:=by simp[List.getD_eq_getElem?_getD,hi]
  rw[e2]; exact h _ (List.getElem_mem _)
theorem Fp (g:au) (r:aZ) (s:Int) (hs:bJ s):aC Tryz.prog 111 [gi s,.aJ (ar g) 0,.aJ (bj r) 0] (gb (!iX g r.prec s)):=by
  refine aC.val ?_ fun H=>?_
  · intro v hv; simp at hv
    rcases hv with rfl | rfl | rfl
    · exact .val _
    · exact ff (bB g)
    · exact ff (gn r)
  refine aB.of mixed vE ?_
  simp (disch:=omega) only [↓wr,↓reduceIte,wq,ai,ah,ak,ae,af,ag,aj,isNil,Nat.reduceEqDiff,Nat.reduceAdd,Nat.reduceLT,Nat.reduceLeDiff,Int.reduceNeg,Int.reduceToNat,reduceCtorEq,tq,ar]
  refine az.pure (HU g s hs) (by kernel_rfl) ?_
  repeat' (first | (refine an.dec (fun _=>?_) (fun _=>?_)) | (refine an.eq (fun _=>?_) (fun _=>?_)) | (refine an.ne (fun _=>?_) (fun _=>?_)) | (refine an.split (fun _=>?_) (fun _=>?_)) | (simp (disch:=omega) only [↓wr,↓reduceIte,wq,ai,ah,ak,ae,af,ag,aj,isNil,Nat.reduceEqDiff,Nat.reduceAdd,Nat.reduceLT,Nat.reduceLeDiff,Int.reduceNeg,Int.reduceToNat,reduceCtorEq,bj]))
  all_goals simp[iX, *]
theorem Hb (g:au) (r:aZ) (hg:g.Ok) (hr:aL r.right∧∀ x∈r.right,bJ x):aC Tryz.prog 66 [.agg (ar g),.agg (bj r)] (gb (ey g r)):=by
  refine aC.val (zk g r) fun H=>?_
  have ht:=hg.aw
  unfold aL at ht
  refine aB.of mixed y3 ?_
  repeat' (first | (refine an.dec (fun _=>?_) (fun _=>?_)) | (refine an.eq (fun _=>?_) (fun _=>?_)) | (refine an.ne (fun _=>?_) (fun _=>?_)) | (refine an.split (fun _=>?_) (fun _=>?_)) | (refine az.pure (mX _ _ _) (by kernel_rfl) ?_) | (simp (disch:=omega) only [↓wr,↓reduceIte,wq,ai,ah,ak,ae,af,ag,aj,isNil,Nat.reduceEqDiff,Nat.reduceAdd,Nat.reduceLT,Nat.reduceLeDiff,Int.reduceNeg,Int.reduceToNat,reduceCtorEq,wE,ar,bj,encI,encS]))
  · rename_i h; simp[ey,show ¬ r.right.length≤6 by omega]
  · rename_i h1 h2
    have h3:r.right.length≤6:=by omega
    have h2' : -1≤r.prec∧r.prec < g.aw.length:=by simp at h2; omega
    refine az.pure (fj r.right hr.1 111 [.aJ (ar g) 0,.aJ (bj r) 0] ?_ (fun s=>!iX g r.prec s) (fun x hx=>Fp g r x (hr.2 x hx)) (by kernel_rfl)) (by kernel_rfl) ?_
    · intro v hv; simp at hv
      rcases hv with rfl | rfl
      · exact ff (bB g)
      · exact ff (gn r)
    simp (disch:=omega) only [↓wr,↓reduceIte,wq,ai,ah,ak,ae,af,ag,aj,isNil,Nat.reduceEqDiff,Nat.reduceAdd,Nat.reduceLT,Nat.reduceLeDiff,Int.reduceNeg,Int.reduceToNat,reduceCtorEq]
    simp[ey,h3,h2'.1,h2'.2]
    rw[Bool.eq_iff_iff]
    simp
  · rename_i h1 h2
    have h3:¬ (-1≤r.prec∧r.prec < g.aw.length):=by simp at h2; omega
    have:(decide (-1≤r.prec) && decide (r.prec < (g.aw.length:Int)))=false:=by
      rw[← Bool.decide_and]; simpa using h3
    simp only[ey,Bool.and_assoc]
    rw[← Bool.and_assoc (decide (-1≤r.prec)),this]; simp
theorem GH (l:List Int) (h0:l.getD 0 0=39):((iP l).2 == 0 && (iP l).1 == (l.length:Int))=iT l:=by
  match l,h0 with
  | [],h=>simp at h
  | [a],_=>rfl
  | [a,b],_ =>
    simp only[iP,gj,iT,List.length_cons,List.length_nil,List.getD_cons_succ,List.getD_cons_zero]
    repeat' split
    all_goals simp_all
  | [a,b,c],h0 =>
    have ha:a=39:=by simpa using h0
    subst ha
    simp only[iP,gj,iT,sN,xh,List.length_cons,List.length_nil,List.getD_cons_succ,List.getD_cons_zero]
    repeat' split
    all_goals simp_all
    all_goals grind
  | [a,b,c,d],h0 =>
    have ha:a=39:=by simpa using h0
    subst ha
    simp only[iP,gj,iT,sN,xh,List.length_cons,List.length_nil,List.getD_cons_succ,List.getD_cons_zero]
    repeat' split
    all_goals simp_all
    all_goals grind
  | a :: b :: c :: d :: e :: r,h0 =>
    simp only[iP,gj,iT,sN,xh,List.length_cons,List.getD_cons_succ,List.getD_cons_zero]
    repeat' split
    all_goals simp_all
    all_goals (try omega)
    all_goals grind
theorem Ds {c:Int} {l:List Int} (h:¬ c=39):iT (c :: l)=false:=by
  match l with
  | []=>rfl
  | [_]=>rfl
  | [_,_]=>simp[iT,h]
  | [_,_,_]=>simp[iT,h]
  | _ :: _ :: _ :: _ :: _=>rfl
theorem EH (s:ByteArray):aC Tryz.prog 142 [gs s] (gb (iT (df s))):=by
  refine aC.val (kZ s) fun H=>?_
  refine aB.of mixed uU ?_
  have hcr:=fun d (hd:d∈df s)=>xY (s:=s) (c:=d) hd
  have hP:aC Tryz.prog 171 [.aY (dL s)] (.bp [gi (iP (df s)).1,gi (iP (df s)).2]):=by
    rw[FY]
    refine aC.of ?_ ((Dn (df s) hcr _).mono fun r H' h h' _=>by rw[h]; exact .tree _ (.bp _ fun i hi=>by
      match i,hi with
      | 0,_=>exact .val _
      | 1,_=>exact .val _))
    intro v hv; simp at hv; subst hv
    exact fq _ _ fun x _ v hv=>by simp at hv; subst hv; exact .val _
  cases hb:df s with
  | nil =>
    repeat' (first | (refine an.dec (fun _=>?_) (fun _=>?_)) | (refine an.eq (fun _=>?_) (fun _=>?_)) | (refine an.ne (fun _=>?_) (fun _=>?_)) | (refine an.split (fun _=>?_) (fun _=>?_)) | (simp (disch:=omega) only [↓wr,↓reduceIte,wq,ai,ah,ak,ae,af,ag,aj,isNil,Nat.reduceEqDiff,Nat.reduceAdd,Nat.reduceLT,Nat.reduceLeDiff,Int.reduceNeg,Int.reduceToNat,reduceCtorEq,mG,cQ,sO,hb]))
    rfl
  | cons c l =>
    have hl:=GH (df s)
    rw[hb] at hP hl
    repeat' (first | (refine an.dec (fun _=>?_) (fun _=>?_)) | (refine an.eq (fun _=>?_) (fun _=>?_)) | (refine an.ne (fun _=>?_) (fun _=>?_)) | (refine an.split (fun _=>?_) (fun _=>?_)) | (simp (disch:=omega) only [↓wr,↓reduceIte,wq,ai,ah,ak,ae,af,ag,aj,isNil,Nat.reduceEqDiff,Nat.reduceAdd,Nat.reduceLT,Nat.reduceLeDiff,Int.reduceNeg,Int.reduceToNat,reduceCtorEq,mG,cQ,sO,hb,List.getElem?_cons_zero]))
    · rename_i h
      rw[Ds h]
    · rename_i h
      refine az.pure hP (by kernel_rfl) ?_
      have hl:=hl (by simpa using h)
      repeat' (first | (refine an.dec (fun _=>?_) (fun _=>?_)) | (refine an.eq (fun _=>?_) (fun _=>?_)) | (refine an.ne (fun _=>?_) (fun _=>?_)) | (refine an.split (fun _=>?_) (fun _=>?_)) | (simp (disch:=omega) only [↓wr,↓reduceIte,wq,ai,ah,ak,ae,af,ag,aj,isNil,Nat.reduceEqDiff,Nat.reduceAdd,Nat.reduceLT,Nat.reduceLeDiff,Int.reduceNeg,Int.reduceToNat,reduceCtorEq,cQ,hb]))
      · rename_i h2
        rw[← hl]; simp[h2]
      · rename_i h2
        rw[← hl]; simp[h2]
end Gv
set_option linter.unusedSimpArgs false
set_option maxRecDepth 100000
namespace Gv
open Go Go.Proofs
theorem EF (s:ByteArray):aC Tryz.prog 103 [gs s] (gb (lu (df s))):=by
  refine aC.val (kZ s) fun H=>?_
  refine aB.of mixed xl ?_
  repeat' (first | (refine an.dec (fun _=>?_) (fun _=>?_)) | (refine an.eq (fun _=>?_) (fun _=>?_)) | (refine an.ne (fun _=>?_) (fun _=>?_)) | (refine an.split (fun _=>?_) (fun _=>?_)) | (refine az.pure (zB s) (by kernel_rfl) ?_) | (refine az.pure (EH s) (by kernel_rfl) ?_) | (simp (disch:=omega) only [↓wr,↓reduceIte,wq,ai,ah,ak,ae,af,ag,aj,isNil,Nat.reduceEqDiff,Nat.reduceAdd,Nat.reduceLT,Nat.reduceLeDiff,Int.reduceNeg,Int.reduceToNat,reduceCtorEq,ue]))
  all_goals simp[lu, *]
theorem D1 (s:ByteArray):aC Tryz.prog 64 [gs s] (gb (!dE (df s))):=by
  refine aC.val (kZ s) fun H=>?_
  refine aB.of mixed u6 ?_
  repeat' (first | (refine an.dec (fun _=>?_) (fun _=>?_)) | (refine an.eq (fun _=>?_) (fun _=>?_)) | (refine an.ne (fun _=>?_) (fun _=>?_)) | (refine an.split (fun _=>?_) (fun _=>?_)) | (refine az.pure (zB s) (by kernel_rfl) ?_) | (simp (disch:=omega) only [↓wr,↓reduceIte,wq,ai,ah,ak,ae,af,ag,aj,isNil,Nat.reduceEqDiff,Nat.reduceAdd,Nat.reduceLT,Nat.reduceLeDiff,Int.reduceNeg,Int.reduceToNat,reduceCtorEq,rX]))
def pT:SC :=
  .seq (al [aK 12 .lss 11 10]) <|
  .seq (.cond (.tmp 12) (.skip) (.exit 0)) <|
  .seq (.block 1 (.seq (.region false [⟨none,[aX 13 3 9 11,aO 14 3 13,((some 6),.op (.alloc [(.val (.string ⟨#[]⟩)),(.val (.int .i64 0)),(.val (.int .i64 0))])),(none,.op (.store 3 (.tmp 6) (.tmp 14)))]⟩]) <|
  .seq (.seq (al [aq 15 1 6,ao 16 15,ax 17 .eql 16 0]) <|
  .cond (.tmp 17) (.exit 1) (.skip)) <|
  .seq (.seq (al [aa 18 3,aq 19 1 6,ao 20 19,((some 21),.op (.bc (.lookup 108 (.tmp 18) (.tmp 20) false) 3)),aa 7 21]) <|
  .seq (.region false [⟨none,[aa 22 7,ax 23 .neq 22 0,aa 24 23]⟩,⟨(some (24,true)),[aa 25 7,aq 26 2 6,ao 27 26,aK 28 .neq 25 27]⟩,⟨none,[bk 29 24 28]⟩]) <|
  .cond (.tmp 29) (.seq (al [aP 2 false]) <|
  .ret) (.skip)) <|
  .seq (al [aa 30 3,aq 31 1 6,ao 32 31,aq 33 2 6,ao 34 33,(none,.op (.bc (.mapUpdate 108 (.tmp 30) (.tmp 32) (.tmp 34)) 0))]) <|
  al [aa 35 4,aq 36 1 6,ao 37 36,((some 38),.op (.mm true (.tmp 35) (.tmp 37))),aa 4 38])) <|
  al [ax 39 .add 11 1,aa 11 39]
def tx:SF:=⟨.seq (al [aP 2 false]) <|
  .seq (al [((some 8),.op (.qF)),aa 3 8]) <|
  .seq (al [aG 4 0]) <|
  .seq (.seq (al [aa 9 0,aI 10 9,aG 11 0]) <|
  .block 0 (.loop pT)) <|
  .seq (al [aa 40 3,((some 41),.op (.bc (.call { callee:=.builtin .len,args:=#[(.tmp 40)],argTypes:=#[108] }) 3)),aa 42 4,aK 43 .eql 41 42,aa 2 43]) <|
  .ret,
  [.tmp 2],44⟩
theorem wL:aR Tryz.prog 104 []=some tx:=by kernel_rfl
def sm:SC :=
  .seq (al [aK 8 .lss 7 6]) <|
  .seq (.cond (.tmp 8) (.skip) (.exit 0)) <|
  .seq (.block 1 (.seq (.region false [⟨none,[aX 9 3 5 7,aO 10 3 9,((some 4),.op (.alloc [(.val (.string ⟨#[]⟩)),(.val (.int .i64 0)),(.val (.int .i64 0))])),(none,.op (.store 3 (.tmp 4) (.tmp 10)))]⟩]) <|
  .seq (.region false [⟨none,[aq 11 0 4,ao 12 11,aF 13 103 [12],bQ 14 13,aa 15 14]⟩,⟨(some (15,false)),[aq 16 1 4,ao 17 16,bT 18 61 [(.tmp 17),(.val (.val (.int .i64 0))),(.val (.val (.int .i64 24)))],bQ 19 18]⟩,⟨none,[bf 20 15 19,aa 21 20]⟩,⟨(some (21,false)),[aq 22 2 4,ao 23 22,bT 24 61 [(.tmp 23),(.val (.val (.int .i64 0))),(.val (.val (.int .i64 3)))],bQ 25 24]⟩,⟨none,[bf 26 21 25,aa 27 26]⟩,⟨(some (27,false)),[aq 28 1 4,ao 29 28,ax 30 .eql 29 0,aq 31 2 4,ao 32 31,ax 33 .eql 32 0,((some 34),.op (.beq false (.tmp 30) (.tmp 33)))]⟩,⟨none,[bf 35 27 34]⟩]) <|
  .cond (.tmp 35) (.seq (al [aP 2 false]) <|
  .ret) (.skip))) <|
  al [ax 36 .add 7 1,aa 7 36]
def ur:SF:=⟨.seq (al [aP 2 false]) <|
  .seq (.seq (al [aa 5 0,aI 6 5,aG 7 0]) <|
  .block 0 (.loop sm)) <|
  .seq (.region false [⟨none,[aa 37 0,aI 38 37,ax 39 .leq 38 24,aa 40 39]⟩,⟨(some (40,true)),[aa 41 0,aF 42 104 [41]]⟩,⟨none,[bk 43 40 42,aa 2 43]⟩]) <|
  .ret,
  [.tmp 2],44⟩
theorem xC:aR Tryz.prog 60 []=some ur:=by kernel_rfl
def rT:SC :=
  .seq (al [aK 16 .lss 15 14]) <|
  .seq (.cond (.tmp 16) (.skip) (.exit 0)) <|
  .seq (.block 1 (.seq (.region false [⟨none,[aX 17 3 13 15,aO 18 3 17,((some 5),.op (.alloc [(.val (.string ⟨#[]⟩)),(.val (.int .i64 0)),(.val (.int .i64 0))])),(none,.op (.store 3 (.tmp 5) (.tmp 18)))]⟩]) <|
  .region false [⟨none,[aa 19 3,aq 20 0 5,ao 21 20,((some 22),.op (.bu 1 1 [(.val (.string ⟨#[]⟩))] [(0,(.tmp 21))])),((some 23),.op (.app 1 16 (.tmp 19) (.tmp 22))),aa 3 23]⟩])) <|
  al [ax 24 .add 15 1,aa 15 24]
def r5:SC :=
  .seq (al [aK 65 .lss 64 63]) <|
  .seq (.cond (.tmp 65) (.skip) (.exit 2)) <|
  .seq (.block 3 (.seq (al [aX 66 3 62 64,aO 67 3 66,((some 8),.op (.alloc [(.val (.int .i64 0)),(.emp 1),(.val (.int .i64 0))])),(none,.op (.store 3 (.tmp 8) (.tmp 67)))]) <|
  .seq (.seq (.region false [⟨none,[aq 68 0 8,ao 69 68,aa 70 6,bT 71 61 [(.tmp 69),(.val (.val (.int .i64 0))),(.tmp 70)],bQ 72 71,aa 73 72]⟩,⟨(some (73,false)),[aO 74 4 1,aO 75 3 8,aF 76 66 [74,75],bQ 77 76]⟩,⟨none,[bf 78 73 77]⟩]) <|
  .cond (.tmp 78) (.seq (al [aP 2 false]) <|
  .ret) (.skip)) <|
  al [aa 79 6,aq 80 0 8,ao 81 80,ax 82 .add 81 1,((some 83),.op (.mm true (.tmp 79) (.tmp 82))),aa 6 83])) <|
  al [ax 84 .add 64 1,aa 64 84]
def tZ:SF:=⟨.seq (al [b7 1 0,aP 2 false]) <|
  .seq (al [aq 9 1 1,ao 10 9,aF 11 59 [10],aa 3 11]) <|
  .seq (.seq (al [aq 12 0 1,ao 13 12,aI 14 13,aG 15 0]) <|
  .block 0 (.loop rT)) <|
  .seq (.seq (.region false [⟨none,[aq 25 0 1,ao 26 25,aF 27 60 [26],bQ 28 27,aa 29 28]⟩,⟨(some (29,false)),[aq 30 1 1,ao 31 30,aI 32 31,bT 33 61 [(.tmp 32),(.val (.val (.int .i64 1))),(.val (.val (.int .i64 16)))],bQ 34 33]⟩,⟨none,[bf 35 29 34,aa 36 35]⟩,⟨(some (36,false)),[aq 37 2 1,ao 38 37,aI 39 38,bT 40 61 [(.tmp 39),(.val (.val (.int .i64 1))),(.val (.val (.int .i64 40)))],bQ 41 40]⟩,⟨none,[bf 42 36 41,aa 43 42]⟩,⟨(some (43,false)),[aa 44 3,aF 45 62 [44],bQ 46 45]⟩,⟨none,[bf 47 43 46,aa 48 47]⟩,⟨(some (48,false)),[aq 49 3 1,ao 50 49,aq 51 1 1,ao 52 51,aI 53 52,ax 54 .sub 53 1,bT 55 61 [(.tmp 50),(.val (.val (.int .i64 0))),(.tmp 54)],bQ 56 55]⟩,⟨none,[bf 57 48 56]⟩]) <|
  .cond (.tmp 57) (.seq (al [aP 2 false]) <|
  .ret) (.skip)) <|
  .seq (.seq (al [aq 58 1 1,ao 59 58,bT 60 63 [(.tmp 59),(.val (.fn 64 [] []))]]) <|
  .cond (.tmp 60) (.seq (al [aP 2 false]) <|
  .ret) (.skip)) <|
  .seq (al [aG 6 0]) <|
  .seq (.seq (al [aq 61 2 1,ao 62 61,aI 63 62,aG 64 0]) <|
  .block 2 (.loop r5)) <|
  .seq (al [aa 85 6,aq 86 1 1,ao 87 86,aI 88 87,aK 89 .eql 85 88,aa 2 89]) <|
  .ret,
  [.tmp 2],90⟩
theorem xi:aR Tryz.prog 38 [1]=some tZ:=by kernel_rfl
def de (l:List Term):V:=.aY (l.map cZ)
theorem wO (l:List Term):∀ v∈[de l],Tree v:=by intro v hv; simp at hv; subst hv; exact fq _ _ fun x _=>yK x
def iY:List Term→List (Int × Int)→Int→Option (List (Int × Int) × Int)
  | [],a,top=>some (a,top)
  | t :: r,a,top=>if t.level=0 then iY r a top else
      if (c9 a t.level).getD 0≠0∧(c9 a t.level).getD 0≠t.assoc then none else iY r (ia t.level t.assoc a) (if t.level > top then t.level else top)
def nr (l:List Term):Bool:=match iY l [] 0 with
  | some (a,top)=>(a.length:Int) == top
  | none=>false
set_option maxHeartbeats 1000000 in
theorem DT (l:List Term) (hl:aL l):aC Tryz.prog 104 [de l] (gb (nr l)):=by
  refine aC.val (wO l) fun H=>?_
  refine aB.of mixed wL ?_
  unfold aL at hl
  simp (disch:=omega) only [↓wr,↓reduceIte,wq,ai,ah,ak,ae,af,ag,aj,isNil,Nat.reduceEqDiff,Nat.reduceAdd,Nat.reduceLT,Nat.reduceLeDiff,Int.reduceNeg,Int.reduceToNat,reduceCtorEq,tx,de]
  intro q hq
  try simp (disch:=omega) only [↓wr,↓reduceIte,wq,ai,ah,ak,ae,af,ag,aj,isNil,Nat.reduceEqDiff,Nat.reduceAdd,Nat.reduceLT,Nat.reduceLeDiff,Int.reduceNeg,Int.reduceToNat,reduceCtorEq]
  refine bo.up l.length (fun i T H=>(∃ a m c top,H q=.map (dJ (Value.int .i64) m) c∧kH gi a m∧T 4=gi top∧iY (l.drop i) a top=iY l [] 0)∧T 0=de l∧T 3=.mp q∧T 9=de l∧T 10=gi l.length∧T 11=gi i) ?_ ?_
  · refine ⟨⟨[],[],0,0,?_,trivial,rfl,rfl⟩,rfl,rfl,rfl,rfl,rfl⟩
    simp[View.set,dJ]
  rintro i k T H hk ⟨⟨a,m,c,top,hq,hm,h4,hi⟩,h0,h3,h9,h10,h11⟩
  simp (disch:=omega) only [↓wr,↓reduceIte,wq,ai,ah,ak,ae,af,ag,aj,isNil,Nat.reduceEqDiff,Nat.reduceAdd,Nat.reduceLT,Nat.reduceLeDiff,Int.reduceNeg,Int.reduceToNat,reduceCtorEq,pT,h0,h3,h4,h9,h10,h11,de]
  refine an.dec (fun hc=>?_) (fun hc=>?_)
  · have hg:l[i]?=some (l[i]'(by omega)):=List.getElem?_eq_getElem (by omega)
    rw[eE (show i < l.length by omega)] at hi
    generalize l[i]'(by omega)=t at hg hi
    simp only[iY] at hi
    simp (disch:=omega) only [↓wr,↓reduceIte,wq,ai,ah,ak,ae,af,ag,aj,isNil,Nat.reduceEqDiff,Nat.reduceAdd,Nat.reduceLT,Nat.reduceLeDiff,Int.reduceNeg,Int.reduceToNat,reduceCtorEq,h0,h3,h4,h9,h10,h11,de,cZ,List.getElem?_map,hg]
    intro b hb
    have hbq:b≠q:=by rintro rfl; rw[hq] at hb; simp at hb
    try simp (disch:=omega) only [↓wr,↓reduceIte,wq,ai,ah,ak,ae,af,ag,aj,isNil,Nat.reduceEqDiff,Nat.reduceAdd,Nat.reduceLT,Nat.reduceLeDiff,Int.reduceNeg,Int.reduceToNat,reduceCtorEq]
    refine an.eq (fun hz=>?_) (fun hz=>?_)
    · rw[if_pos hz] at hi
      simp (disch:=omega) only [↓wr,↓reduceIte,wq,ai,ah,ak,ae,af,ag,aj,isNil,Nat.reduceEqDiff,Nat.reduceAdd,Nat.reduceLT,Nat.reduceLeDiff,Int.reduceNeg,Int.reduceToNat,reduceCtorEq,h0,h3,h4,h9,h10,h11]
      refine bb hk (by omega) ⟨⟨a,m,c,top,?_,hm,h4,hi⟩,h0,h3,h9,h10,rfl⟩
      simp[View.set,hbq.symm,hq]
    · rw[if_neg hz] at hi
      simp (disch:=omega) only [↓wr,↓reduceIte,wq,ai,ah,ak,ae,af,ag,aj,isNil,Nat.reduceEqDiff,Nat.reduceAdd,Nat.reduceLT,Nat.reduceLeDiff,Int.reduceNeg,Int.reduceToNat,reduceCtorEq,h0,h3,h4,h9,h10,h11]
      refine Jv (kt:=3) (et:=3) (z:=gi 0) (by kernel_rfl) (by kernel_rfl) (Ah .i64 Tryz.underlying3) (id:=q) (c:=c) (m:=m) (k:=t.level) (by simp (disch:=omega) only [↓wr,↓reduceIte,wq,ai,ah,ak,ae,af,ag,aj,isNil,Nat.reduceEqDiff,Nat.reduceAdd,Nat.reduceLT,Nat.reduceLeDiff,Int.reduceNeg,Int.reduceToNat,reduceCtorEq,h3]) (by simp (disch:=omega) only [↓wr,↓reduceIte,wq,ai,ah,ak,ae,af,ag,aj,isNil,Nat.reduceEqDiff,Nat.reduceAdd,Nat.reduceLT,Nat.reduceLeDiff,Int.reduceNeg,Int.reduceToNat,reduceCtorEq,h3]) (by simp[View.set,hbq.symm,hq]) ?_
      have hgt:(getM m t.level).getD (gi 0)=gi ((c9 a t.level).getD 0):=by
        rw[hm.get]; cases c9 a t.level <;> rfl
      have hput:∀ (H2:View) (c':Nat) (T2:Env),(¬ ((c9 a t.level).getD 0≠0∧(c9 a t.level).getD 0≠t.assoc)) →
          H2 q=.map (dJ (Value.int .i64) (bE t.level (gi t.assoc) c m)) c'→T2 0=de l→T2 3=.mp q→T2 4=gi (if t.level > top then t.level else top)→T2 9=de l→T2 10=gi l.length→T2 11=gi ((i:Int)+1) →
          ∃ k',k' < k∧BM l.length k' (fun i T H=>(∃ a m c top,H q=.map (dJ (Value.int .i64) m) c∧kH gi a m∧T 4=gi top∧iY (l.drop i) a top=iY l [] 0)∧T 0=de l∧T 3=.mp q∧T 9=de l∧T 10=gi l.length∧T 11=gi i) T2 H2:=by
        intro H2 c' T2 hn g1 g2 g3 g4 g5 g6 g7
        rw[if_neg hn] at hi
        exact bb hk (by omega) ⟨⟨_,_,c',_,g1,hm.put t.level t.assoc c,g4,hi⟩,g2,g3,g5,g6,by rw[g7]; rfl⟩
      repeat' (first | (refine an.dec (fun _=>?_) (fun _=>?_)) | (refine an.eq (fun _=>?_) (fun _=>?_)) | (refine an.ne (fun _=>?_) (fun _=>?_)) | (refine an.split (fun _=>?_) (fun _=>?_)) | (simp (disch:=omega) only [↓wr,↓reduceIte,wq,ai,ah,ak,ae,af,ag,aj,isNil,Nat.reduceEqDiff,Nat.reduceAdd,Nat.reduceLT,Nat.reduceLeDiff,Int.reduceNeg,Int.reduceToNat,reduceCtorEq,h0,h3,h4,h9,h10,h11,hgt]))
      · rename_i n1 n2
        rw[if_pos ⟨n1,n2⟩] at hi
        simp only[nr,← hi]
      · rename_i n1 n2
        refine D6 (kt:=3) (et:=3) (by kernel_rfl) (Ah .i64 Tryz.underlying3) (id:=q) (c:=c) (m:=m) (k:=t.level) (v:=gi t.assoc) (by simp (disch:=omega) only [↓wr,↓reduceIte,wq,ai,ah,ak,ae,af,ag,aj,isNil,Nat.reduceEqDiff,Nat.reduceAdd,Nat.reduceLT,Nat.reduceLeDiff,Int.reduceNeg,Int.reduceToNat,reduceCtorEq,h3]) (by simp (disch:=omega) only [↓wr,↓reduceIte,wq,ai,ah,ak,ae,af,ag,aj,isNil,Nat.reduceEqDiff,Nat.reduceAdd,Nat.reduceLT,Nat.reduceLeDiff,Int.reduceNeg,Int.reduceToNat,reduceCtorEq,h3]) (by simp (disch:=omega) only [↓wr,↓reduceIte,wq,ai,ah,ak,ae,af,ag,aj,isNil,Nat.reduceEqDiff,Nat.reduceAdd,Nat.reduceLT,Nat.reduceLeDiff,Int.reduceNeg,Int.reduceToNat,reduceCtorEq,h3]) (by simp[View.set,hbq.symm,hq]) ?_
        intro c'
        simp (disch:=omega) only [↓wr,↓reduceIte,wq,ai,ah,ak,ae,af,ag,aj,isNil,Nat.reduceEqDiff,Nat.reduceAdd,Nat.reduceLT,Nat.reduceLeDiff,Int.reduceNeg,Int.reduceToNat,reduceCtorEq,h0,h3,h4,h9,h10,h11,hbq]
        exact hput _ c' _ (fun e=>e.2 n2) (by simp[View.set]) h0 h3 rfl h9 h10 rfl
      · rename_i n1
        refine D6 (kt:=3) (et:=3) (by kernel_rfl) (Ah .i64 Tryz.underlying3) (id:=q) (c:=c) (m:=m) (k:=t.level) (v:=gi t.assoc) (by simp (disch:=omega) only [↓wr,↓reduceIte,wq,ai,ah,ak,ae,af,ag,aj,isNil,Nat.reduceEqDiff,Nat.reduceAdd,Nat.reduceLT,Nat.reduceLeDiff,Int.reduceNeg,Int.reduceToNat,reduceCtorEq,h3]) (by simp (disch:=omega) only [↓wr,↓reduceIte,wq,ai,ah,ak,ae,af,ag,aj,isNil,Nat.reduceEqDiff,Nat.reduceAdd,Nat.reduceLT,Nat.reduceLeDiff,Int.reduceNeg,Int.reduceToNat,reduceCtorEq,h3]) (by simp (disch:=omega) only [↓wr,↓reduceIte,wq,ai,ah,ak,ae,af,ag,aj,isNil,Nat.reduceEqDiff,Nat.reduceAdd,Nat.reduceLT,Nat.reduceLeDiff,Int.reduceNeg,Int.reduceToNat,reduceCtorEq,h3]) (by simp[View.set,hbq.symm,hq]) ?_
        intro c'
        simp (disch:=omega) only [↓wr,↓reduceIte,wq,ai,ah,ak,ae,af,ag,aj,isNil,Nat.reduceEqDiff,Nat.reduceAdd,Nat.reduceLT,Nat.reduceLeDiff,Int.reduceNeg,Int.reduceToNat,reduceCtorEq,h0,h3,h4,h9,h10,h11,hbq]
        exact hput _ c' _ (fun e=>e.1 n1) (by simp[View.set]) h0 h3 rfl h9 h10 rfl
  · rw[List.drop_eq_nil_of_le (by omega)] at hi
    simp only[iY] at hi
    simp (disch:=omega) only [↓wr,↓reduceIte,wq,ai,ah,ak,ae,af,ag,aj,isNil,Nat.reduceEqDiff,Nat.reduceAdd,Nat.reduceLT,Nat.reduceLeDiff,Int.reduceNeg,Int.reduceToNat,reduceCtorEq,h0,h3,h4,h9,h10,h11]
    refine IT (kt:=3) (et:=3) (by kernel_rfl) (id:=q) (c:=c) (m:=m) (by simp (disch:=omega) only [↓wr,↓reduceIte,wq,ai,ah,ak,ae,af,ag,aj,isNil,Nat.reduceEqDiff,Nat.reduceAdd,Nat.reduceLT,Nat.reduceLeDiff,Int.reduceNeg,Int.reduceToNat,reduceCtorEq,h3]) hq ?_
    simp (disch:=omega) only [↓wr,↓reduceIte,wq,ai,ah,ak,ae,af,ag,aj,isNil,Nat.reduceEqDiff,Nat.reduceAdd,Nat.reduceLT,Nat.reduceLeDiff,Int.reduceNeg,Int.reduceToNat,reduceCtorEq,h0,h3,h4,h9,h10,h11,hm.len]
    simp only[nr,← hi]
def gR (t:Term):Bool:=lu (df t.name) && decide (0≤t.level) && decide (t.level≤24) && decide (0≤t.assoc) && decide (t.assoc≤3) && ((t.level == 0) == (t.assoc == 0))
def nI (l:List Term):Bool:=l.all gR && decide (l.length≤24) && nr l
set_option maxHeartbeats 1000000 in
theorem EO (l:List Term) (hl:aL l):aC Tryz.prog 60 [de l] (gb (nI l)):=by
  refine aC.val (wO l) fun H=>?_
  refine aB.of mixed xC ?_
  have hl2:=hl
  unfold aL at hl
  simp (disch:=omega) only [↓wr,↓reduceIte,wq,ai,ah,ak,ae,af,ag,aj,isNil,Nat.reduceEqDiff,Nat.reduceAdd,Nat.reduceLT,Nat.reduceLeDiff,Int.reduceNeg,Int.reduceToNat,reduceCtorEq,ur,de]
  refine bo.up l.length (fun i T H=>(l.drop i).all gR=l.all gR∧T 0=de l∧T 5=de l∧T 6=gi l.length∧T 7=gi i) ?_ ?_
  · exact ⟨rfl,rfl,rfl,rfl,rfl⟩
  rintro i k T H hk ⟨hi,h0,h5,h6,h7⟩
  simp (disch:=omega) only [↓wr,↓reduceIte,wq,ai,ah,ak,ae,af,ag,aj,isNil,Nat.reduceEqDiff,Nat.reduceAdd,Nat.reduceLT,Nat.reduceLeDiff,Int.reduceNeg,Int.reduceToNat,reduceCtorEq,sm,h0,h5,h6,h7,de]
  refine an.dec (fun hc=>?_) (fun hc=>?_)
  · have hg:l[i]?=some (l[i]'(by omega)):=List.getElem?_eq_getElem (by omega)
    rw[eE (show i < l.length by omega)] at hi
    generalize l[i]'(by omega)=t at hg hi
    rw[List.all_cons] at hi
    have hbad:gR t=false→gb false=gb (nI l):=fun e=>by rw[e,Bool.false_and] at hi; simp[nI,← hi]
    simp (disch:=omega) only [↓wr,↓reduceIte,wq,ai,ah,ak,ae,af,ag,aj,isNil,Nat.reduceEqDiff,Nat.reduceAdd,Nat.reduceLT,Nat.reduceLeDiff,Int.reduceNeg,Int.reduceToNat,reduceCtorEq,h0,h5,h6,h7,de,cZ,List.getElem?_map,hg]
    intro b hb
    repeat' (first | (refine an.dec (fun _=>?_) (fun _=>?_)) | (refine an.eq (fun _=>?_) (fun _=>?_)) | (refine an.ne (fun _=>?_) (fun _=>?_)) | (refine an.split (fun _=>?_) (fun _=>?_)) | (refine az.pure (EF t.name) (by kernel_rfl) ?_) | (refine az.pure (mX _ _ _) (by kernel_rfl) ?_) | (simp (disch:=omega) only [↓wr,↓reduceIte,wq,ai,ah,ak,ae,af,ag,aj,isNil,Nat.reduceEqDiff,Nat.reduceAdd,Nat.reduceLT,Nat.reduceLeDiff,Int.reduceNeg,Int.reduceToNat,reduceCtorEq,h0,h5,h6,h7,de]))
    all_goals first
      | (refine hbad ?_; simp[gR, *]; done)
      | (refine hbad ?_; simp_all [gR]; done)
      | skip
    rename_i e1 e2 e3 e4
    refine bb hk (by omega) ⟨?_,h0,h5,h6,rfl⟩
    have:gR t=true:=by
      simp only[Bool.and_eq_true,decide_eq_true_eq] at e2 e3
      have e4':((t.level == 0) == (t.assoc == 0))=true:=by simpa [bne] using e4
      simp[gR,e1,e2.1,e2.2,e3.1,e3.2,e4']
    rw[this,Bool.true_and] at hi
    exact hi
  · rw[List.drop_eq_nil_of_le (by omega),List.all_nil] at hi
    simp (disch:=omega) only [↓wr,↓reduceIte,wq,ai,ah,ak,ae,af,ag,aj,isNil,Nat.reduceEqDiff,Nat.reduceAdd,Nat.reduceLT,Nat.reduceLeDiff,Int.reduceNeg,Int.reduceToNat,reduceCtorEq,h0,h5,h6,h7,de]
    repeat' (first | (refine an.dec (fun _=>?_) (fun _=>?_)) | (refine an.eq (fun _=>?_) (fun _=>?_)) | (refine an.ne (fun _=>?_) (fun _=>?_)) | (refine an.split (fun _=>?_) (fun _=>?_)) | (refine az.pure (DT l hl2) (by kernel_rfl) ?_) | (simp (disch:=omega) only [↓wr,↓reduceIte,wq,ai,ah,ak,ae,af,ag,aj,isNil,Nat.reduceEqDiff,Nat.reduceAdd,Nat.reduceLT,Nat.reduceLeDiff,Int.reduceNeg,Int.reduceToNat,reduceCtorEq,h0,h5,h6,h7,de]))
    · rename_i h
      simp[nI,← hi,show l.length≤24 by omega]
    · rename_i h
      simp[nI,← hi,show ¬ l.length≤24 by omega]
end Gv
set_option linter.unusedSimpArgs false
set_option maxRecDepth 100000
namespace Gv
open Go Go.Proofs Go.Shelf Go.RowKit Go.Sort
attribute [local go_sem] Oper.semAt_some
def fI:Ren where
  f:=fun
    | 6=>105
    | 8=>143
    | 9=>144
    | 11=>172
    | 13=>174
    | 12=>173
    | 23=>190
    | 24=>191
    | 14=>181
    | 15=>182
    | 16=>183
    | 17=>184
    | 18=>185
    | 19=>186
    | 20=>187
    | 21=>188
    | 22=>189
    | 25=>193
    | 26=>194
    | 27=>195
    | 28=>196
    | 29=>197
    | 30=>198
    | 31=>199
    | n=>n
  t:=fun
    | 26=>9
    | 28=>151
    | 24=>23
    | 0=>0
    | 3=>3
    | 37=>157
    | 48=>52
    | 50=>51
    | 4=>4
    | 40=>217
    | 39=>216
    | 45=>110
    | 5=>5
    | 9=>9
    | 51=>226
    | 55=>230
    | 57=>232
    | 58=>233
    | 33=>103
    | n=>n
  g:=fun n=>n
theorem HS:Go.Proofs.SlLaysZ.n6 Tryz.prog fI where
  mixed:=by kernel_rfl
  f6:=⟨Tryz.f105.name,by kernel_rfl,by kernel_rfl⟩
  f8:=⟨Tryz.f143.name,by kernel_rfl,by kernel_rfl⟩
  f11:=⟨Tryz.f172.name,by kernel_rfl,by kernel_rfl⟩
  t0:=Tryz.underlying0
  a0:=Tryz.isAgg0
  z0:=Tryz.sizeOf0
  v0:=Tryz.zeroValue0
  t24:=Tryz.underlying23
  a24:=Tryz.isAgg23
  z24:=Tryz.sizeOf23
  v24:=Tryz.zeroValue23
  t26:=Tryz.underlying9
  a26:=Tryz.isAgg9
  z26:=Tryz.sizeOf9
  v26:=Tryz.zeroValue9
  t28:=Tryz.underlying151
  a28:=Tryz.isAgg151
  z28:=Tryz.sizeOf151
  v28:=Tryz.zeroValue151
  i26:=by kernel_rfl
def FI:Ren where
  f:=fun
    | 6=>144
    | 8=>174
    | 9=>173
    | 19=>190
    | 20=>191
    | 21=>181
    | 22=>182
    | 23=>183
    | 24=>184
    | 25=>185
    | 26=>186
    | 27=>187
    | 28=>188
    | 29=>189
    | 36=>193
    | 31=>194
    | 32=>195
    | 37=>196
    | 38=>197
    | 39=>198
    | 41=>199
    | n=>n
  t:=fun
    | 27=>23
    | 29=>9
    | 3=>3
    | 32=>157
    | 26=>23
    | 0=>0
    | 44=>52
    | 46=>51
    | 4=>4
    | 36=>217
    | 35=>216
    | 41=>110
    | 5=>5
    | 9=>9
    | 53=>226
    | 57=>230
    | 63=>232
    | 64=>233
    | n=>n
  g:=fun n=>n
theorem HA:Go.Proofs.SlLaysM.n6 Tryz.prog FI where
  mixed:=by kernel_rfl
  f6:=⟨Tryz.f144.name,by kernel_rfl,by kernel_rfl⟩
  f8:=by kernel_rfl
  f9:=⟨Tryz.f173.name,by kernel_rfl,by kernel_rfl⟩
  f19:=by kernel_rfl
  f20:=by kernel_rfl
  f21:=⟨Tryz.f181.name,by kernel_rfl,by kernel_rfl⟩
  f22:=⟨Tryz.f182.name,by kernel_rfl,by kernel_rfl⟩
  f23:=⟨Tryz.f183.name,by kernel_rfl,by kernel_rfl⟩
  f24:=⟨Tryz.f184.name,by kernel_rfl,by kernel_rfl⟩
  f25:=⟨Tryz.f185.name,by kernel_rfl,by kernel_rfl⟩
  f26:=⟨Tryz.f186.name,by kernel_rfl,by kernel_rfl⟩
  f27:=⟨Tryz.f187.name,by kernel_rfl,by kernel_rfl⟩
  f28:=⟨Tryz.f188.name,by kernel_rfl,by kernel_rfl⟩
  f29:=⟨Tryz.f189.name,by kernel_rfl,by kernel_rfl⟩
  f31:=by kernel_rfl
  f32:=by kernel_rfl
  f36:=⟨Tryz.f193.name,by kernel_rfl,by kernel_rfl⟩
  f37:=⟨Tryz.f196.name,by kernel_rfl,by kernel_rfl⟩
  f38:=⟨Tryz.f197.name,by kernel_rfl,by kernel_rfl⟩
  f39:=⟨Tryz.f198.name,by kernel_rfl,by kernel_rfl⟩
  f41:=⟨Tryz.f199.name,by kernel_rfl,by kernel_rfl⟩
  t0:=Tryz.underlying0
  a0:=Tryz.isAgg0
  z0:=Tryz.sizeOf0
  v0:=Tryz.zeroValue0
  t3:=Tryz.underlying3
  a3:=Tryz.isAgg3
  z3:=Tryz.sizeOf3
  v3:=Tryz.zeroValue3
  t4:=Tryz.underlying4
  a4:=Tryz.isAgg4
  z4:=Tryz.sizeOf4
  v4:=Tryz.zeroValue4
  t5:=Tryz.underlying5
  a5:=Tryz.isAgg5
  z5:=Tryz.sizeOf5
  v5:=Tryz.zeroValue5
  t9:=Tryz.underlying9
  a9:=Tryz.isAgg9
  z9:=Tryz.sizeOf9
  v9:=Tryz.zeroValue9
  t26:=Tryz.underlying23
  a26:=Tryz.isAgg23
  z26:=Tryz.sizeOf23
  v26:=Tryz.zeroValue23
  t27:=Tryz.underlying23
  a27:=Tryz.isAgg23
  z27:=Tryz.sizeOf23
  v27:=Tryz.zeroValue23
  t29:=Tryz.underlying9
  a29:=Tryz.isAgg9
  z29:=Tryz.sizeOf9
  v29:=Tryz.zeroValue9
  t32:=Tryz.underlying157
  a32:=Tryz.isAgg157
  z32:=Tryz.sizeOf157
  v32:=Tryz.zeroValue157
  t35:=Tryz.underlying216
  a35:=Tryz.isAgg216
  z35:=Tryz.sizeOf216
  v35:=Tryz.zeroValue216
  t36:=Tryz.underlying217
  a36:=Tryz.isAgg217
  z36:=Tryz.sizeOf217
  v36:=Tryz.zeroValue217
  t41:=Tryz.underlying110
  a41:=Tryz.isAgg110
  z41:=Tryz.sizeOf110
  v41:=Tryz.zeroValue110
  t44:=Tryz.underlying52
  a44:=Tryz.isAgg52
  z44:=Tryz.sizeOf52
  v44:=Tryz.zeroValue52
  t46:=Tryz.underlying51
  a46:=Tryz.isAgg51
  z46:=Tryz.sizeOf51
  v46:=Tryz.zeroValue51
  t53:=Tryz.underlying226
  a53:=Tryz.isAgg226
  z53:=Tryz.sizeOf226
  v53:=Tryz.zeroValue226
  t57:=Tryz.underlying230
  a57:=Tryz.isAgg230
  z57:=Tryz.sizeOf230
  v57:=Tryz.zeroValue230
  t63:=Tryz.underlying232
  a63:=Tryz.isAgg232
  z63:=Tryz.sizeOf232
  v63:=Tryz.zeroValue232
  t64:=Tryz.underlying233
  a64:=Tryz.isAgg233
  z64:=Tryz.sizeOf233
  v64:=Tryz.zeroValue233
def D7:Ren where
  f:=fun
    | 44=>107
    | n=>n
  t:=fun
    | 25=>23
    | 26=>9
    | 3=>3
    | 4=>4
    | 0=>0
    | n=>n
  g:=fun n=>n
theorem HI:Go.Proofs.SlLaysN.n44 Tryz.prog D7 where
  mixed:=by kernel_rfl
  f44:=⟨Tryz.f107.name,by kernel_rfl,by kernel_rfl⟩
  t0:=Tryz.underlying0
  a0:=Tryz.isAgg0
  z0:=Tryz.sizeOf0
  v0:=Tryz.zeroValue0
  t3:=Tryz.underlying3
  a3:=Tryz.isAgg3
  z3:=Tryz.sizeOf3
  v3:=Tryz.zeroValue3
  t4:=Tryz.underlying4
  a4:=Tryz.isAgg4
  z4:=Tryz.sizeOf4
  v4:=Tryz.zeroValue4
  t25:=Tryz.underlying23
  a25:=Tryz.isAgg23
  z25:=Tryz.sizeOf23
  v25:=Tryz.zeroValue23
  t26:=Tryz.underlying9
  a26:=Tryz.isAgg9
  z26:=Tryz.sizeOf9
  v26:=Tryz.zeroValue9
  i26:=by kernel_rfl
def vK (n:Nat) (P:Program) (g:Nat) (lb:Array Value) (S:List (List UInt8)→Prop) (N:Nat) (w:World):Prop :=
  ∀ (l:Nat) (J:List (List UInt8)→World→Prop) (W:World),(∀ pre W',J pre W'→Below w.heap.size w W') →
    (∀ pre x W1,J pre W1→pre.length < N→YieldAt Fence.wide (n - 1) P l #[encStr x] W1 fun e W'=>e=.returned (.bool true)∧J (pre ++ [x]) W'∧KeepsWalks W1 W') →
    J [] W→CallsIn Fence.wide n P g (#[.func (.yield l) #[] #[]] ++ lb) W fun e W'=>(∃ v,e=.returned v)∧∃ xs,S xs∧J xs W'
theorem EM {zs:List (List UInt8)} {k:Nat} (h:k < zs.length):zs.take k ++ [zs.getD k []]=zs.take (k+1):=by
  rw[List.take_add_one]; simp[List.getD_eq_getElem?_getD,h]
set_option maxHeartbeats 2000000 in
theorem DS (n:Nat) (hn:1≤n) (Bs b off cap:Nat) (zs:List (List UInt8)) (hreach:zs.length * 16≤140737488351232) (w:World)
    (hBs:w.cell? ⟨Bs,0,none⟩=some (.slice (some ⟨b,off,none⟩) zs.length cap)) (hBl:Bs < w.heap.size) (hbl:b < w.heap.size)
    (hc:∀ j,j < zs.length→w.cell? ⟨b,off+j,none⟩=some (encStr (zs.getD j []))) :
    vK n Tryz.prog 145 #[.pointer (some ⟨Bs,0,none⟩)] (fun xs=>xs=zs) zs.length w:=by
  intro l J W hJ hY h0
  have hbw:=hJ _ _ h0
  have hBs':=(hbw.cell (p:=⟨Bs,0,none⟩) hBl).trans hBs
  have hf:Fence.wide.fn 145:=trivial
  refine callsIn_of_wp Tryz.func145 rfl hf ?_ rfl
  simp only[Tryz.ntmps145,List.size_toArray,List.length_cons,List.length_nil,Nat.reduceAdd,Nat.reduceSub,Array.replicate_succ,Array.replicate_zero,List.push_toArray,List.append_toArray,List.nil_append,List.cons_append]
  gi_wp2
  gi_loopw [7] (fun i wr=>∃ k:Nat,k≤zs.length∧i=.int .i64 k∧J (zs.take k) wr) (fun i _=>zs.length - (RowKit.intOf i).toNat)
  case atStart=>exact ⟨0,Nat.zero_le _,rfl,by simpa using h0⟩
  case round =>
    obtain ⟨k,hk,rfl,hJs⟩:=hrel
    have hnx:=hJ _ _ hJs
    have hcx:k < zs.length→wr.cell? ⟨b,off+k,none⟩=some (encStr (zs.getD k [])):=fun h=>(hnx.cell (p:=⟨b,off+k,none⟩) hbl).trans (hc k h)
    by_cases hlt:k < zs.length
    · obtain ⟨x,hx1,hcx'⟩:∃ x,zs.take k ++ [x]=zs.take (k+1)∧wr.cell? ⟨b,off+k,none⟩=some (encStr x):=⟨_,EM hlt,hcx hlt⟩
      obtain ⟨fn,tmps,assign,body,hy,hR⟩:=hY _ x wr hJs (by simp; omega)
      clear hcx hJs
      gi_wp2
      refine hR.mono ?_
      rintro e W3 ⟨rfl,hJ3,hk3⟩
      gi_wp2
      go_roundw
      case rel=>exact ⟨k+1,by omega,by simp,by rw[← hx1]; exact hJ3⟩
      case measure=>simp[RowKit.intOf]; omega
    · obtain rfl:k=zs.length:=by omega
      clear hcx
      gi_wp2
      go_end0
      exact ⟨⟨_,rfl⟩,_,rfl,by simpa using hJs⟩
set_option maxHeartbeats 2000000 in
theorem A5 (n:Nat) (hn:2≤n) (g:Nat) (lb:Array Value) (eg:∀ args w,(callFunc g args).run Tryz.prog w=.ok (.enter g args) w)
    (S:List (List UInt8)→Prop) (N:Nat) (hN:N≤maxLen) (hNb:N * 16≤140737488355328) (w:World) (hseq:vK (n - 1) Tryz.prog g lb S N w) :
    CallsIn Fence.wide n Tryz.prog 172 #[.slice none 0 0,.func (.func g) #[] lb] w fun e w'=>∃ (v:Value) (ss:List (List UInt8)),e=.returned v∧S ss∧w'.ownsRow w.heap.size 9 1 v ss.length (ss.map encStr)∧Below w.heap.size w w':=by
  have h11:Fence.wide.fn 172:=trivial
  refine callsIn_of_wp_marks Tryz.func172 rfl h11 ?_ rfl
  simp only[Tryz.ntmps172,List.size_toArray,List.length_cons,List.length_nil,Nat.reduceAdd,Nat.reduceSub,Array.replicate_succ,Array.replicate_zero,List.push_toArray,List.append_toArray,List.nil_append,List.cons_append]
  gi_wp2
  refine wpIn_rangeFunc ?_
  intro fn hfn
  let sv:Value:=.func (.func g) #[] lb
  have hz:(w.alloc (.cells #[.slice none 0 0] 23)).heap.size=w.heap.size+1:=by simp
  have hv0:=World.alloc_heap_new w (.cells #[.slice none 0 0] 23)
  have hb0:Below w.heap.size w (w.alloc (.cells #[.slice none 0 0] 23)):=(Below.refl _ w).alloc (Nat.le_refl _) _
  revert hz hv0 hb0
  generalize w.alloc (.cells #[.slice none 0 0] 23)=W0
  intro hz hv0 hb0
  obtain ⟨W1,hW1⟩:∃ W1,(W0.alloc (.deferred (some []))).alloc (.loop (AnyZ.apRec fI fn sv w.heap.size W0.heap.size .ready none))=W1:=⟨_,rfl⟩
  have hold:∀ k,k < W0.heap.size→W1.heap[k]?=W0.heap[k]?:=fun k hk=>by
    rw[← hW1]; exact (Below.heap_alloc _ _ k (by simp; omega)).trans (Below.heap_alloc _ _ k hk)
  have hb1:Below w.heap.size w W1:=by rw[← hW1]; exact (hb0.alloc (by omega) _).alloc (by simp; omega) _
  have hM:AnyZ.ApAt fI w fn sv w.heap.size (W0.heap.size+1) W0.heap.size [] W1:=by
    refine ⟨⟨_,(hold w.heap.size (by omega)).trans hv0,⟨rfl,.inl ⟨rfl,rfl⟩⟩,by simp⟩,?_,?_,hb1⟩
    · rw[← hW1]
      have h:=World.alloc_heap_new (W0.alloc (.deferred (some []))) (.loop (AnyZ.apRec fI fn sv w.heap.size W0.heap.size .ready none))
      rwa [World.size_alloc] at h
    · rw[← hW1]; exact (Below.heap_alloc _ _ _ (by simp)).trans (World.alloc_heap_new W0 _)
  refine ⟨W0.heap.size+1,[{ target:=.collected W0.heap.size,args:=#[] }],W1,{ target:=.fn (.func g) lb,args:=#[.func (.yield (W0.heap.size+1)) #[] #[]] },W1,g,
    #[.func (.yield (W0.heap.size+1)) #[] #[]] ++ lb,W1,by rw[← hW1]; exact run_enterLoop_outer _ _ _ _ _,?_,?_,?_,fun _=>by omega,?_⟩
  · simp[resolve,go_sem]
  · intro f' hf'; trivial
  · simp[invoke,go_sem,eg]
  · refine (hseq (W0.heap.size+1) (AnyZ.ApAt fI w fn sv w.heap.size (W0.heap.size+1) W0.heap.size) W1 (fun _ _ h=>h.below)
      (fun pre x W hJ hl=>AnyZ.apYield { HS with } Fence.wide (n - 1 - 1) w fn hfn _ w.heap.size (W0.heap.size+1) W0.heap.size (by omega) (by omega) (by omega) (Nat.le_refl _) (by omega) N hN hNb pre x W hJ hl) hM).mono ?_
    rintro e W2 ⟨⟨v0,rfl⟩,ss,hS,h2⟩
    obtain ⟨v,hv,hrow,_⟩:=h2.box
    have hend:=run_endLoop (P:=Tryz.prog) h2.L (by simp[AnyZ.apRec])
    have hne:∀ (cur:Array Value),Obj.cells #[v] 23 (0,0)≠.cells cur 9 (0,0):=fun cur e=>by cases e
    obtain ⟨W3,hW3⟩:∃ W3,W2.putObj (W0.heap.size+1) (.loop { AnyZ.apRec fI fn sv w.heap.size W0.heap.size .ready none with state:=.exhausted })=W3:=⟨_,rfl⟩
    have hg3:W2.grownBy W3 (some (W0.heap.size+1)):=by rw[← hW3]; exact grownBy_putObj_a _ _ _
    have hv3:W3.heap[w.heap.size]?=some (.cells #[v] 23 (0,0)):=by rw[← hW3]; exact (World.putObj_heap_other (by omega)).trans hv
    have hK3:W3.heap[W0.heap.size]?=some (.deferred (some [])):=by rw[← hW3]; exact (World.putObj_heap_other (by omega)).trans h2.K
    have hrow3:=hrow.kept hg3 (ownsRow_ne_a hrow h2.L (fun cur e=>by cases e))
    have hb3:Below w.heap.size w W3:=h2.below.grown hg3 h2.below.size (fun k e=>by cases e; omega)
    obtain ⟨hc3,hf3⟩:=cell_of_box_a hv3
    refine ⟨none,W3,by rw[← hW3]; exact hend,?_⟩
    clear hW3 hW1 hold hM hend hseq
    gi_wp2
    rw[← hz]
    refine ⟨by simp,.inl ⟨_,_,rfl,run_takeDeferred hK3,?_⟩⟩
    exact ⟨_,results_tmp rfl _ _ _,v,ss,rfl,hS,hrow3.kept (grownBy_putObj_a _ _ _) (ownsRow_ne_a hrow3 hK3 (fun cur e=>by cases e)),hb3.grown (grownBy_putObj_a _ _ _) hb3.size (fun k e=>by cases e; omega)⟩
set_option maxHeartbeats 2000000 in
theorem EI (n:Nat) (hn:4≤n) (g:Nat) (lb:Array Value) (eg:∀ args w,(callFunc g args).run Tryz.prog w=.ok (.enter g args) w)
    (S:List (List UInt8)→Prop) (N:Nat) (hN:N≤maxLen) (hNb:N * 16≤140737488355328) (w:World) (hseq:vK (n - 1 - 1 - 1) Tryz.prog g lb S N w) (hS:∀ xs,S xs→xs.length < 4611686018427387904) :
    CallsIn Fence.wide n Tryz.prog 105 #[.func (.func g) #[] lb] w fun e w'=>∃ (v:Value) (ss:List (List UInt8)),e=.returned v∧S ss ∧
      w'.ownsRow w.heap.size 9 1 v ss.length ((ss.mergeSort (fun x y=>decide (x≤y))).map encStr)∧Below w.heap.size w w':=by
  have h6:Fence.wide.fn 105:=trivial
  have h8:Fence.wide.fn 143:=trivial
  have h9:Fence.wide.fn 144:=trivial
  have h11:Fence.wide.fn 172:=trivial
  have h1:1≤n - 1:=by omega
  have h1':1≤n:=by omega
  have hcol:CallsIn Fence.wide (n - 1) Tryz.prog 143 #[.func (.func g) #[] lb] w fun e w'=>∃ (v:Value) (ss:List (List UInt8)),e=.returned v∧S ss∧w'.ownsRow w.heap.size 9 1 v ss.length (ss.map encStr)∧Below w.heap.size w w':=by
    have happ:=A5 (n - 1 - 1) (by omega) g lb eg S N hN hNb w hseq
    refine callsIn_of_wp Tryz.func143 rfl h8 ?_ rfl
    simp only[Tryz.ntmps143,List.size_toArray,List.length_cons,List.length_nil,Nat.reduceAdd,Nat.reduceSub,Array.replicate_succ,Array.replicate_zero,List.push_toArray,List.append_toArray,List.nil_append,List.cons_append]
    gi_wp2_with (gi_at_call 172; refine happ.mono ?_; rintro e w' ⟨v,ss,rfl,hS,hrow,hb⟩)
    go_ret
    exact ⟨v,ss,rfl,hS,hrow,hb⟩
  refine callsIn_of_wp Tryz.func105 rfl h6 ?_ rfl
  simp only[Tryz.ntmps105,List.size_toArray,List.length_cons,List.length_nil,Nat.reduceAdd,Nat.reduceSub,Array.replicate_succ,Array.replicate_zero,List.push_toArray,List.append_toArray,List.nil_append,List.cons_append]
  gi_wp2_with (gi_at_call 143; refine hcol.mono ?_; rintro e W ⟨v,ss,rfl,hSs,hrow,hb⟩)
  have hlen:=hS ss hSs
  rcases hrow.2 with ⟨rfl,hz⟩ | ⟨gb,cap,cur,rfl,hbase,hgb,r1,r2,r3,r4⟩
  · have hss:ss=[]:=List.eq_nil_of_length_eq_zero hz
    subst hss
    have cN:CallsIn Fence.wide (n - 1) Tryz.prog 144 #[.slice none 0 0] W fun e w'=>e=.returned (.tuple #[])∧w'=W:=callsIn_wide.2 (AnyM.slices_Sort_string_none HA none 0 W)
    gi_wp2_with (gi_at_call 144; refine cN.mono ?_; rintro e w' ⟨rfl,rfl⟩)
    go_ret
    exact ⟨.slice none 0 0,[],rfl,hSs,by simpa using hrow,hb⟩
  · have hH:Holds encStr W gb 0 ss.toArray:=holds_of_block hgb (by simpa using r4)
    have hgl:gb < W.heap.size:=(Array.getElem?_eq_some_iff.1 hgb).1
    have cS:CallsIn Fence.wide (n - 1) Tryz.prog 144 #[.slice (some ⟨gb,0,none⟩) ss.length cap] W fun e w'=>e=.returned (.tuple #[])∧∃ k os,w'=grow (putRow encStr (Sort.ahead W k) gb 0 (ss.mergeSort fun x y=>decide (x≤y)).toArray) os :=
      callsIn_wide.2 (AnyM.slices_Sort_string HA gb 0 cap ss W hH hgl hlen)
    gi_wp2_with (gi_at_call 144; refine cS.mono ?_; rintro e w' ⟨rfl,nn,os,rfl⟩)
    go_ret
    exact ⟨_,ss,rfl,hSs,ownsRow_sorted (by simp) hbase hgb r1 r2 r3,hb.grown (grownBy_sorted _) hb.size (fun j hj=>by cases hj; exact hbase)⟩
end Gv
set_option linter.unusedSimpArgs false
set_option maxRecDepth 100000
namespace Gv
open Go Go.Proofs Go.Shelf Go.RowKit Go.Sort
theorem By {l:List (List UInt8)} (hs:l.Pairwise (fun a b=>decide (a≤b)=true)) (h:∀ j,j+1 < l.length→l.getD (j+1) []≠l.getD j []):l.Nodup:=by
  induction l with
  | nil=>exact List.nodup_nil
  | cons x r ih =>
    rw[List.pairwise_cons] at hs
    refine List.nodup_cons.2 ⟨fun hx=>?_,ih hs.2 fun j hj=>by simpa using h (j+1) (by simpa using hj)⟩
    cases r with
    | nil=>simp at hx
    | cons y r =>
      have h0:=h 0 (by simp)
      simp only[List.getD_cons_succ,List.getD_cons_zero,Nat.zero_add] at h0
      rcases List.mem_cons.1 hx with e | hm
      · exact h0 e.symm
      · have h1:x≤y:=by simpa using hs.1 y (by simp)
        have h2:y≤x:=by simpa using (List.pairwise_cons.1 hs.2).1 x hm
        exact h0 (List.le_antisymm h2 h1)
theorem Ec (l:List (List UInt8)):(Lib.compact l).length=l.length↔∀ j,j+1 < l.length→l.getD (j+1) []≠l.getD j []:=by
  have hl:(Lib.compact l).length=((List.range l.length).filter (Lib.keeps l.toArray)).length:=by simp[Lib.compact,Lib.compactUpTo]
  rw[hl]
  have hr:(List.range l.length).length=l.length:=by simp
  conv=>lhs; rhs; rw[← hr]
  rw[List.length_filter_eq_length_iff]
  have hg:∀ j,j < l.length→l.toArray[j]! = l.getD j []:=fun j hj=>by simp[List.getD_eq_getElem?_getD,hj]
  constructor
  · intro h j hj
    have:=h (j+1) (by simpa using hj)
    simp only[Lib.keeps,decide_eq_true_eq,Nat.add_sub_cancel] at this
    rcases this with e | e
    · omega
    · rw[hg _ hj,hg _ (by omega)] at e; exact e
  · intro h j hj
    simp only[List.mem_range] at hj
    simp only[Lib.keeps,decide_eq_true_eq]
    by_cases e:j=0
    · exact .inl e
    · right
      obtain ⟨k,rfl⟩:∃ k,j=k+1:=⟨j - 1,by omega⟩
      rw[hg _ hj,Nat.add_sub_cancel,hg _ (by omega)]
      exact h k hj
theorem xp (zs:List (List UInt8)):(Lib.compact (zs.mergeSort fun x y=>decide (x≤y))).length=zs.length↔zs.Nodup:=by
  have hp:=List.mergeSort_perm zs (fun x y=>decide (x≤y))
  have hs:=List.pairwise_mergeSort (le:=fun x y:List UInt8=>decide (x≤y)) (fun a b c h k=>by simp at h k ⊢; exact List.le_trans h k) (fun a b=>by simpa using List.le_total a b) zs
  rw[← hp.nodup_iff,← hp.length_eq,Ec]
  constructor
  · exact By hs
  · intro hn j hj e
    have h1:(zs.mergeSort fun x y=>decide (x≤y))[j+1]'hj=(zs.mergeSort fun x y=>decide (x≤y))[j]'(by omega):=by
      simp only[List.getD_eq_getElem?_getD,List.getElem?_eq_getElem hj,List.getElem?_eq_getElem (show j < (zs.mergeSort fun x y=>decide (x≤y)).length by omega),Option.getD_some] at e
      exact e
    have:=(List.getElem_inj hn).1 h1
    omega
theorem GF (w:World):grow w #[]=w:=by simp[grow]
set_option maxHeartbeats 2000000 in
theorem Bu (n:Nat) (hn:1≤n) (Bs cap:Nat) (a:Option Addr) (w:World) (hBs:w.cell? ⟨Bs,0,none⟩=some (.slice a 0 cap)) (hBl:Bs < w.heap.size) :
    vK n Tryz.prog 145 #[.pointer (some ⟨Bs,0,none⟩)] (fun xs=>xs=[]) 0 w:=by
  intro l J W hJ hY h0
  have hbw:=hJ _ _ h0
  have hBs':=(hbw.cell (p:=⟨Bs,0,none⟩) hBl).trans hBs
  have hf:Fence.wide.fn 145:=trivial
  refine callsIn_of_wp Tryz.func145 rfl hf ?_ rfl
  simp only[Tryz.ntmps145,List.size_toArray,List.length_cons,List.length_nil,Nat.reduceAdd,Nat.reduceSub,Array.replicate_succ,Array.replicate_zero,List.push_toArray,List.append_toArray,List.nil_append,List.cons_append]
  gi_wp2
  gi_loopw [7] (fun i wr=>i=.int .i64 0∧J [] wr) (fun _ _=>0)
  case atStart=>exact ⟨rfl,h0⟩
  case round =>
    obtain ⟨rfl,hJs⟩:=hrel
    gi_wp2
    go_end0
    exact ⟨⟨_,rfl⟩,_,rfl,hJs⟩
set_option maxHeartbeats 2000000 in
theorem Da (n:Nat) (a:Option Addr) (len cap:Nat) (w:World) :
    CallsIn Fence.wide n Tryz.prog 106 #[.slice a len cap] w fun e w'=>e=.returned (.func (.func 145) #[] #[.pointer (some ⟨w.heap.size,0,none⟩)])∧w'=w.alloc (.cells #[.slice a len cap] 23):=by
  have hf:Fence.wide.fn 106:=trivial
  refine callsIn_of_wp Tryz.func106 rfl hf ?_ rfl
  simp only[Tryz.ntmps106,List.size_toArray,List.length_cons,List.length_nil,Nat.reduceAdd,Nat.reduceSub,Array.replicate_succ,Array.replicate_zero,List.push_toArray,List.append_toArray,List.nil_append,List.cons_append]
  gi_wp2
  go_ret
  exact ⟨rfl,rfl⟩
set_option maxHeartbeats 4000000 in
theorem uD (a:Option Addr) (cap:Nat) (zs:List (List UInt8)) (hz:zs.length≤1000) (w:World)
    (hseq:∀ n Bs,1≤n→w.heap.size=Bs→vK n Tryz.prog 145 #[.pointer (some ⟨Bs,0,none⟩)] (fun xs=>xs=zs) zs.length (w.alloc (.cells #[.slice a zs.length cap] 23))) :
    Calls Tryz.prog 62 #[.slice a zs.length cap] w fun e w'=>e=.returned (.bool (decide zs.Nodup))∧Below w.heap.size w w':=by
  refine (callsIn_wide (n:=7)).1 ?_
  have hf:Fence.wide.fn 62:=trivial
  have hfv:Fence.wide.fn 106:=trivial
  have hfs:Fence.wide.fn 105:=trivial
  have hfc:Fence.wide.fn 107:=trivial
  have eg:=enters_of Tryz.func145 (by kernel_rfl) rfl
  have cV:=Da 6 a zs.length cap w
  have cS:=EI 6 (by omega) 145 #[.pointer (some ⟨w.heap.size,0,none⟩)] eg _ zs.length (by unfold maxLen; omega) (by omega) (w.alloc (.cells #[.slice a zs.length cap] 23)) (hseq _ _ (by omega) rfl) (fun xs e=>by subst e; omega)
  refine callsIn_of_wp Tryz.func62 rfl hf ?_ rfl
  simp only[Tryz.ntmps62,List.size_toArray,List.length_cons,List.length_nil,Nat.reduceAdd,Nat.reduceSub,Array.replicate_succ,Array.replicate_zero,List.push_toArray,List.append_toArray,List.nil_append,List.cons_append]
  clear hseq
  gi_wp2_with (first
    | (gi_at_call 106; refine cV.mono ?_; rintro e w' ⟨rfl,rfl⟩)
    | (gi_at_call 105; refine cS.mono ?_; rintro e W ⟨v,ss,rfl,rfl,hrow,hb⟩)
    | fail)
  have hsz:(ss.mergeSort fun x y=>decide (x≤y)).length=ss.length:=by simp
  have hBw:Below w.heap.size w W:=((Below.refl _ w).alloc (Nat.le_refl _) _).trans (hb.mono (by simp))
  rcases hrow.2 with ⟨rfl,h0⟩ | ⟨gb,cap',cur,rfl,hbase,hgb,r1,r2,r3,r4⟩
  · have hss:ss=[]:=List.eq_nil_of_length_eq_zero h0
    subst hss
    have cC:CallsIn Fence.wide 6 Tryz.prog 107 #[.slice none 0 0] W fun e w'=>e=.returned (.slice none 0 0)∧w'=W:=callsIn_wide.2 (AnyG.slices_Compact_string_empty HI none 0 W)
    clear cS cV hrow
    gi_wp2_with (gi_at_call 107; refine cC.mono ?_; rintro e w' ⟨rfl,rfl⟩)
    go_ret
    exact ⟨rfl,hBw⟩
  · have hH:Holds encStr W gb 0 (ss.mergeSort fun x y=>decide (x≤y)).toArray:=holds_of_block hgb (by simpa using r4)
    have hgl:gb < W.heap.size:=(Array.getElem?_eq_some_iff.1 hgb).1
    have cC:CallsIn Fence.wide 6 Tryz.prog 107 #[.slice (some ⟨gb,0,none⟩) ss.length cap'] W fun e w'=>∃ m:Nat,e=.returned (.slice (some ⟨gb,0,none⟩) m cap')∧((m=ss.length)↔ss.Nodup)∧Below w.heap.size w w':=by
      have:=AnyG.slices_Compact_string HI gb 0 cap' (ss.mergeSort fun x y=>decide (x≤y)) W hH (by rw[hsz]; omega) (by rw[hsz]; omega)
      rw[hsz] at this
      refine callsIn_wide.2 (this.mono ?_)
      rintro e w' ⟨rfl,q,rfl⟩
      refine ⟨_,rfl,xp ss,?_⟩
      have hg:=grownBy_sorted (w:=W) (g:=gb) (n:=q) (os:=#[]) (Lib.compact (ss.mergeSort fun x y=>decide (x≤y)) ++ List.replicate (ss.length - (Lib.compact (ss.mergeSort fun x y=>decide (x≤y))).length) []).toArray
      rw[GF] at hg
      exact hBw.grown hg hBw.size (fun j e=>by cases e; have h:=hbase; rw[World.size_alloc] at h; omega)
    clear cS cV hrow hH
    gi_wp2_with (gi_at_call 107; refine cC.mono ?_; rintro e w' ⟨m,rfl,hm,hb'⟩)
    go_ret
    refine ⟨?_,hb'⟩
    show Ending.returned (.bool ((m:Int) == (ss.length:Int)))=_
    have:((m:Int) == (ss.length:Int))=decide ss.Nodup:=by
      rw[Bool.eq_iff_iff]
      simp only[beq_iff_eq,decide_eq_true_eq,← hm]
      omega
    rw[this]
theorem Ac (s:ByteArray):encStr s.data.toList=.string s:=by
  cases s; simp[encStr]
def names (l:List ByteArray):List (List UInt8):=l.map fun s=>s.data.toList
theorem B7 {Z:Nat→Prop} {μ:Mu} {hp:Array Obj} {es:List (List V)} {x:Value} (h:ay Z μ hp (.aY es) x) :
    (es=[]∧∃ a cap,x=.slice a 0 cap∧(a=none→cap=0))∨(∃ b off esz cap,∃ c:Nat→Nat→Value,x=.slice (some ⟨b,off,none⟩) es.length cap∧Z b∧es.length≤cap ∧
      (∀ i,i < es.length→(es.getD i []).length=esz)∧(∀ i j,i < es.length→j < esz→cellAt hp b (off+i * esz+j)=some (c i j)) ∧
      (∀ i j,i < es.length→j < esz→ay Z μ hp ((es.getD i []).getD j .any) (c i j))):=by
  cases h with
  | eC a cap hz=>exact .inl ⟨rfl,a,cap,rfl,hz⟩
  | aY _ b off esz cap c h1 h2 h3 h4 h5=>exact .inr ⟨b,off,esz,cap,c,rfl,h1,h2,h3,h4,h5⟩
theorem Gs (l:List ByteArray) (hl:l.length≤1000):aC Tryz.prog 62 [encS l] (gb (decide (names l).Nodup)):=by
  intro Z μ w xs hrel hzl
  obtain ⟨hlen,hx⟩:=hrel
  obtain ⟨x,rfl⟩:∃ x,xs=[x]:=by
    match xs,hlen with
    | [x],_=>exact ⟨x,rfl⟩
  have h0:ay Z μ w.heap (encS l) x:=hx 0 (by simp)
  have hnl:(names l).length=l.length:=by simp[names]
  have fin:∀ e w',(e=Ending.returned (.bool (decide (names l).Nodup))∧RowKit.Below w.heap.size w w')→∃ x Z',e=.returned x∧(∀ ν,ay Z' ν w'.heap (gb (decide (names l).Nodup)) x)∧cA w w'∧(∀ b,Z b→Z' b)∧(∀ b,Z' b→Z b∨(w.heap.size≤b∧b < w'.heap.size))∧c5 w.heap w'.heap (fun _=>False):=by
    rintro e w' ⟨rfl,hb⟩
    exact ⟨_,Z,rfl,fun ν=>.val _ rfl,⟨hb.os,hb.tape,hb.output,hb.size⟩,fun _ h=>h,fun _ h=>.inl h,fun b hb' _=>hb.block b hb'⟩
  have box:∀ (v:Value),(w.alloc (.cells #[v] 23)).cell? ⟨w.heap.size,0,none⟩=some v:=fun v=>by
    have:=World.alloc_heap_new w (.cells #[v] 23)
    simp only[World.cell?,this]; rfl
  rcases B7 h0 with ⟨he,a,cap,rfl,_⟩ | ⟨b,off,esz,cap,c,rfl,hz,hle,hes,hc,hv⟩
  · have hl0:l=[]:=by simpa using he
    subst hl0
    refine (uD a cap (names []) (by simp[names]) w (fun n Bs hn hB=>?_)).mono fin
    subst hB
    exact Bu n hn w.heap.size cap a _ (box _) (by simp)
  · have hel:∀ i,(hi:i < l.length)→(l.map fun s=>[gs s]).getD i []=[gs l[i]]:=fun i hi=>by simp[List.getD_eq_getElem?_getD,hi]
    have hcell:∀ i,(hi:i < l.length)→cellAt w.heap b (off+i)=some (.string l[i]):=fun i hi=>by
      have h1:=hes i (by simpa using hi)
      rw[hel i hi] at h1
      simp only[List.length_cons,List.length_nil] at h1
      subst h1
      have h2:=hc i 0 (by simpa using hi) (by omega)
      have h3:=hv i 0 (by simpa using hi) (by omega)
      rw[hel i hi] at h3
      simp only[List.getD_cons_zero] at h3
      generalize c i 0=y at h2 h3
      cases h3
      simpa using h2
    have hlen2:(l.map fun s=>[gs s]).length=(names l).length:=by simp[names]
    rw[hlen2]
    refine (uD (some ⟨b,off,none⟩) cap (names l) (by rw[hnl]; exact hl) w (fun n Bs hn hB=>?_)).mono fin
    subst hB
    have hbl:=hzl b hz
    refine DS n hn w.heap.size b off cap (names l) (by rw[hnl]; omega) _ (box _) (by simp) (by simp; omega) (fun j hj=>?_)
    have hj':j < l.length:=by omega
    have e1:(w.alloc (.cells #[.slice (some ⟨b,off,none⟩) (names l).length cap] 23)).cell? ⟨b,off+j,none⟩=w.cell? ⟨b,off+j,none⟩:=by
      have:=Below.heap_alloc w (.cells #[.slice (some ⟨b,off,none⟩) (names l).length cap] 23) b hbl
      simp only[World.cell?,this]
    rw[e1,nz,hcell j hj']
    have e2:(names l).getD j []=l[j].data.toList:=by simp[names,List.getD_eq_getElem?_getD,hj']
    rw[e2,Ac]
end Gv
