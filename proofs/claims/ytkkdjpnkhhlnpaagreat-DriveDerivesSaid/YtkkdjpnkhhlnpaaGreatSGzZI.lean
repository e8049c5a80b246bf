/-
  Part 9 of the proof: what the machine does and what the functions answer.
  Conditions: those that each lemma names.
-/
import Derived.Shelf.SlIter.Sorted
import Derived.Shelf.SortM.Plain
import Derived.Shelf.SortM.SortNone
import Derived.Shelf.SlicesG.CompactS
import Derived.Test.YtkkdjpnkhhlnpaaGreatSGzZH
set_option linter.unusedSimpArgs false
set_option linter.unusedVariables false
set_option maxRecDepth 100000
namespace Gv
open Go Go.Proofs
def owner:V→Option Nat
  | .sl id _ _ _=>some id
  | _=>none
def OwnA (H:View) (u:V) (sz:Nat) (es:List (List V)):Prop :=
  (es=[]∧∃ k,u=.emp k)∨(∃ n,u=.sl n 0 es.length sz∧H n=.arr sz es)
theorem OwnA.nil {H:View} {sz k:Nat} : OwnA H (.emp k) sz []:=.inl ⟨rfl,k,rfl⟩
theorem OwnA.len {H:View} {u:V} {sz:Nat} {es:List (List V)} (h:OwnA H u sz es):lenV u=some es.length:=by
  rcases h with ⟨rfl,k,rfl⟩ | ⟨n,rfl,_⟩ <;> rfl
theorem OwnA.live {H:View} {u:V} {sz:Nat} {es:List (List V)} (h:OwnA H u sz es) {id:Nat} (hid:owner u=some id):H id=.arr sz es∧u=.sl id 0 es.length sz:=by
  rcases h with ⟨rfl,k,rfl⟩ | ⟨n,rfl,hn⟩
  · simp[owner] at hid
  · simp[owner] at hid; subst hid; exact ⟨hn,rfl⟩
theorem OwnA.keep {H H':View} {u:V} {sz:Nat} {es:List (List V)} (h:OwnA H u sz es) (hk:∀ id,owner u=some id→H' id=H id):OwnA H' u sz es:=by
  rcases h with ⟨rfl,k,rfl⟩ | ⟨n,rfl,hn⟩
  · exact .inl ⟨rfl,k,rfl⟩
  · exact .inr ⟨n,rfl,by rw[hk n rfl]; exact hn⟩
theorem OwnA.fresh {H:View} {u:V} {sz m:Nat} {es:List (List V)} {o:AObj} (h:OwnA H u sz es) (hm:H m=.dead):OwnA (H.set m o) u sz es :=
  h.keep fun id hid=>by
    have:=(h.live hid).1
    have e:id≠m:=by rintro rfl; rw[hm] at this; simp at this
    simp[View.set,e]
theorem OwnA.ne {H:View} {u:V} {sz m:Nat} {es:List (List V)} (h:OwnA H u sz es) (hm:H m=.dead):owner u≠some m:=fun e=>by
  have:=(h.live e).1; rw[hm] at this; simp at this
theorem OwnA.other {H:View} {u:V} {sz m:Nat} {es:List (List V)} {o:AObj} (h:OwnA H u sz es) (hm:owner u≠some m):OwnA (H.set m o) u sz es :=
  h.keep fun id hid=>by
    have e:id≠m:=by rintro rfl; exact hm hid
    simp[View.set,e]
theorem OwnA.new {H:View} {n sz:Nat} {es:List (List V)} : OwnA (H.set n (.arr sz es)) (.sl n 0 es.length sz) sz es:=.inr ⟨n,rfl,by simp[View.set]⟩
theorem elemsOf_new {H:View} {m z sz:Nat} {e:List V} : elemsOf (View.set H m (.arr z [e])) (.sl m 0 1 sz)=some ([e],[m]):=by
  simp[elemsOf,View.set]
def Left (H H':View) (u u':V):Prop:=∀ id,H id≠.dead→owner u≠some id→H' id=H id∧owner u'≠some id
theorem goApp_own {sz bytes:Nat} {u:V} {es xs:List (List V)} {H:View} {K:V→View→Prop} {w:Veil (H,K)} (ho:OwnA H u sz es) (hx:xs≠[]) (hok:(xs.all fun e=>e.length == sz && e.all cellOk)=true)
    (hl:(es.length+xs.length) * bytes < limit) (hl2:es.length+xs.length < limit) (hk:∀ u' H',OwnA H' u' sz (es ++ xs)→Left H H' u u'→K u' H'):GoApp sz bytes u xs H K w:=by
  have he:xs.isEmpty=false:=by cases xs with | nil=>exact absurd rfl hx | cons=>rfl
  rcases ho with ⟨rfl,k,rfl⟩ | ⟨n,rfl,hn⟩
  · rw[goApp_emp _ _ _ _ _ _ _ he]
    refine ⟨hok,⟨by simpa using hl,by simpa using hl2⟩,fun m hm=>hk _ _ ?_ ?_⟩
    · exact .inr ⟨m,rfl,by simp[View.set]⟩
    · intro id hid _
      have e:id≠m:=by rintro rfl; exact hid hm
      exact ⟨by simp[View.set,e],by simp[owner,Ne.symm e]⟩
  · rw[goApp_sl _ _ _ _ _ _ _ _ _ _ he,hn]
    refine ⟨hok,⟨by simp,rfl,hl,hl2⟩,fun m hm=>hk _ _ ?_ ?_⟩
    · refine .inr ⟨m,by simp,by simp[View.set]⟩
    · intro id hid ho
      have e:id≠m:=by rintro rfl; exact hid hm
      have e2:id≠n:=by rintro rfl; exact ho rfl
      exact ⟨by simp[View.set,e,e2],by simp[owner,Ne.symm e]⟩
theorem Left.refl {H:View} {u:V} : Left H H u u:=fun _ _ h=>⟨rfl,h⟩
theorem goApp_all {sz bytes:Nat} {u:V} {es xs:List (List V)} {H:View} {K:V→View→Prop} {w:Veil (H,K)} (ho:OwnA H u sz es) (hok:(xs.all fun e=>e.length == sz && e.all cellOk)=true)
    (hl:(es.length+xs.length) * bytes < limit) (hl2:es.length+xs.length < limit) (hk:∀ u' H',OwnA H' u' sz (es ++ xs)→Left H H' u u'→K u' H'):GoApp sz bytes u xs H K w:=by
  cases xs with
  | nil =>
    have:=hk u H (by simpa using ho) .refl
    rcases ho with ⟨rfl,k,rfl⟩ | ⟨n,rfl,hn⟩
    · exact this
    · exact this
  | cons x xs=>exact goApp_own ho (by simp) hok hl hl2 hk
theorem Lent.own {H:View} {u:V} {sz:Nat} {es:List (List V)} (h:OwnA H u sz es) (ht:∀ e∈es,∀ v∈e,Tree v):Lent H u (.fro es):=by
  rcases h with ⟨rfl,k,rfl⟩ | ⟨n,rfl,hn⟩
  · exact fun h _=>.emp k
  · have:=Lent.sl (off:=0) (len:=es.length) (esz:=sz) hn (by simp) ht
    rwa [List.drop_zero,List.take_of_length_le (by simp)] at this
theorem FrN.own {h:Heap} {u:V} {sz:Nat} {es:List (List V)} {es':List (List V)} (ho:OwnA h.view u sz es) (hl:es'.length=es.length) (hi:∀ i,i < es.length→(es'.getD i []).length=(es.getD i []).length)
    (hv:∀ i j,i < es.length→j < (es'.getD i []).length→FrN h ((es.getD i []).getD j .any) ((es'.getD i []).getD j .any)):FrN h u (.fro es'):=by
  rcases ho with ⟨rfl,k,rfl⟩ | ⟨n,rfl,hn⟩
  · have:es'=[]:=List.length_eq_zero_iff.1 (by simpa using hl)
    subst this
    exact .emp k
  · exact .sl n 0 es.length sz sz es es' hn (by simp) hl (fun i h=>by rw[Nat.zero_add]; exact hi i h) (fun i j h1 h2=>by rw[Nat.zero_add]; exact hv i j h1 h2)
theorem FrN.vals {h:Heap} {α:Type} {u:V} {sz:Nat} {l:List α} {f:α→Value} (ho:OwnA h.view u sz (l.map fun x=>[V.val (f x)])):FrN h u (.fro (l.map fun x=>[V.val (f x)])):=by
  refine FrN.own ho rfl (fun i _=>rfl) (fun i j hi hj=>?_)
  simp only[List.length_map] at hi
  have e:(l.map fun x=>[V.val (f x)]).getD i []=[V.val (f l[i])]:=by simp[List.getD_eq_getElem?_getD,hi]
  rw[e] at hj ⊢
  have:j=0:=by simp at hj; omega
  subst this
  exact .val _
def Fresh (H H':View) (r:V):Prop:=∀ id,H id≠.dead→H' id=H id∧owner r≠some id
theorem Fresh.emp {H:View} {k:Nat} : Fresh H H (.emp k):=fun _ _=>⟨rfl,by simp[owner]⟩
theorem Fresh.new {H:View} {n a b c:Nat} {o:AObj} (hn:H n=.dead):Fresh H (H.set n o) (.sl n a b c):=fun id hid=>by
  have e:id≠n:=by rintro rfl; exact hid hn
  exact ⟨by simp[View.set,e],by simp[owner,Ne.symm e]⟩
theorem OwnA.left {H H':View} {u u' x:V} {sz:Nat} {es:List (List V)} (h:OwnA H x sz es) (hl:Left H H' u u') (hd:∀ id,owner x=some id→owner u≠some id):OwnA H' x sz es :=
  h.keep fun id hid=>(hl id (by rw[(h.live hid).1]; simp) (hd id hid)).1
theorem OwnA.fresh' {H H':View} {x r:V} {sz:Nat} {es:List (List V)} (h:OwnA H x sz es) (hl:Fresh H H' r):OwnA H' x sz es :=
  h.keep fun id hid=>(hl id (by rw[(h.live hid).1]; simp)).1
theorem set_set {H:View} {n:Nat} {a b:AObj} : View.set (View.set H n a) n b=View.set H n b:=by
  funext id; simp only[View.set]; split <;> rfl
theorem dead_if {m b:Nat} {o x:AObj} (h:(if m=b then o else x)=.dead) (ho:o≠.dead):m≠b∧x=.dead:=by
  split at h
  · exact absurd h ho
  · rename_i e; exact ⟨e,h⟩
theorem arr_live {z:Nat} {es:List (List V)} : AObj.arr z es≠.dead:=by simp
def Lents (H:View):List V→List V→Prop
  | [],[]=>True
  | v :: vs,t :: ts=>Lent H v t∧Lents H vs ts
  | _,_=>False
theorem Lents.len {H:View} : ∀ {vs ts:List V},Lents H vs ts→ts.length=vs.length
  | [],[],_=>rfl
  | _ :: _,_ :: _,h=>by simp[Lents.len h.2]
theorem Lents.get {H:View} : ∀ {vs ts:List V},Lents H vs ts→∀ i,i < vs.length→Lent H (vs.getD i .any) (ts.getD i .any)
  | [],[],_,i,hi=>by simp at hi
  | _ :: _,_ :: _,h,0,_=>h.1
  | _ :: _,_ :: _,h,i+1,hi=>Lents.get h.2 i (by simpa using hi)
theorem CallG.lend {P:Program} {q:Bool} {f:FuncId} {H:View} {vs ts:List V} {K:V→View→Prop} {v:Veil (H,K)} {t:V} (hc:PCall P f ts t) (hok:calleeOk P f=true) (hf:Bare t) (hl:Lents H vs ts) (hk:K t H):CallG P q f vs H K v :=
  CallG.borrow hc hok hf hl.len hl.get hk
theorem OwnA.sl {H:View} {u:V} {sz:Nat} {es:List (List V)} (h:OwnA H u sz es) (hne:0 < es.length):∃ n,u=.sl n 0 es.length sz∧H n=.arr sz es:=by
  rcases h with ⟨rfl,_⟩ | h
  · simp at hne
  · exact h
abbrev Ent:=V × Nat × List (List V)
def Owns (H:View) (L:List Ent):Prop:=(∀ x∈L,OwnA H x.1 x.2.1 x.2.2)∧(L.filterMap fun x=>owner x.1).Nodup
theorem Owns.nil {H:View} : Owns H []:=⟨fun x hx=>by simp at hx,by simp⟩
theorem Owns.head {H:View} {x:Ent} {L:List Ent} (h:Owns H (x :: L)):OwnA H x.1 x.2.1 x.2.2:=h.1 x (by simp)
theorem Owns.tail {H:View} {x:Ent} {L:List Ent} (h:Owns H (x :: L)):Owns H L:=by
  refine ⟨fun y hy=>h.1 y (by simp[hy]),?_⟩
  have:=h.2
  simp only[List.filterMap_cons] at this
  split at this
  · exact this
  · exact (List.nodup_cons.1 this).2
theorem Owns.perm {H:View} {L L':List Ent} (h:Owns H L) (p:L.Perm L'):Owns H L' :=
  ⟨fun x hx=>h.1 x (p.mem_iff.2 hx),(p.filterMap _).nodup_iff.1 h.2⟩
theorem perm_at {α:Type} : ∀ (L:List α) (k:Nat) (hk:k < L.length),L.Perm (L[k] :: L.eraseIdx k)
  | x :: L,0,_=>.refl _
  | x :: L,k+1,hk=>by
    have:=perm_at L k (by simpa using hk)
    exact (this.cons x).trans (.swap _ _ _)
theorem Owns.at {H:View} {L:List Ent} (h:Owns H L) (k:Nat) (hk:k < L.length):Owns H (L[k] :: L.eraseIdx k) :=
  h.perm (perm_at L k hk)
theorem Owns.obj {H:View} {n k sz:Nat} {es:List (List V)} {L:List Ent} (h:Owns H ((.sl n 0 k sz,sz,es) :: L)) (hes:es≠[]):H n=.arr sz es∧k=es.length:=by
  rcases h.head with ⟨e,_⟩ | ⟨m,e,hm⟩
  · exact absurd e hes
  · simp only[V.sl.injEq] at e
    obtain ⟨rfl,_,rfl,_⟩:=e
    exact ⟨hm,rfl⟩
theorem Owns.off {H:View} {x:Ent} {L:List Ent} (h:Owns H (x :: L)) {id:Nat} (hid:owner x.1=some id):∀ y∈L,owner y.1≠some id:=by
  intro y hy e
  have:=h.2
  simp only[List.filterMap_cons,hid,List.nodup_cons,List.mem_filterMap,not_exists,not_and] at this
  exact this.1 y hy e
theorem Owns.live {H:View} {x:Ent} {L:List Ent} (h:Owns H L) (hx:x∈L) {id:Nat} (hid:owner x.1=some id):H id≠.dead:=by
  rw[((h.1 x hx).live hid).1]; simp
theorem Owns.new {H:View} {L:List Ent} (h:Owns H L) {n:Nat} (hn:H n=.dead) (sz:Nat) (es:List (List V)):Owns (H.set n (.arr sz es)) ((.sl n 0 es.length sz,sz,es) :: L):=by
  refine ⟨fun x hx=>?_,?_⟩
  · rcases List.mem_cons.1 hx with rfl | hx
    · exact .new
    · exact (h.1 x hx).fresh hn
  · simp only[List.filterMap_cons,owner,List.nodup_cons,List.mem_filterMap,not_exists,not_and]
    exact ⟨fun x hx e=>h.live hx e hn,h.2⟩
theorem Owns.come {H H':View} {L:List Ent} (h:Owns H L) {u:V} {sz:Nat} {es:List (List V)} (ho:OwnA H' u sz es) (hf:Fresh H H' u):Owns H' ((u,sz,es) :: L):=by
  refine ⟨fun x hx=>?_,?_⟩
  · rcases List.mem_cons.1 hx with rfl | hx
    · exact ho
    · exact (h.1 x hx).fresh' hf
  · cases hu:owner u with
    | none=>simp only[List.filterMap_cons,hu]; exact h.2
    | some id =>
      simp only[List.filterMap_cons,hu,List.nodup_cons,List.mem_filterMap,not_exists,not_and]
      exact ⟨fun x hx e=>(hf id (h.live hx e)).2 hu,h.2⟩
theorem Owns.fresh {H:View} {L:List Ent} (h:Owns H L) {n:Nat} (hn:H n=.dead) {o:AObj} : Owns (H.set n o) L :=
  ⟨fun x hx=>(h.1 x hx).fresh hn,h.2⟩
theorem Owns.put {H:View} {L:List Ent} {n k sz:Nat} {es es':List (List V)} (h:Owns H ((.sl n 0 k sz,sz,es) :: L)) (hl:es'.length=es.length) (hk:k=es.length):Owns (H.set n (.arr sz es')) ((.sl n 0 k sz,sz,es') :: L):=by
  refine ⟨fun x hx=>?_,by simpa [List.filterMap_cons,owner] using h.2⟩
  rcases List.mem_cons.1 hx with rfl | hx
  · exact .inr ⟨n,by simp[hl,hk],by simp[View.set]⟩
  · exact (h.1 x (by simp[hx])).other (h.off rfl x hx)
theorem Owns.left {H H':View} {L:List Ent} {u u':V} {sz:Nat} {es es':List (List V)} (h:Owns H ((u,sz,es) :: L)) (ho:OwnA H' u' sz es') (hl:Left H H' u u'):Owns H' ((u',sz,es') :: L):=by
  have hoff:∀ x∈L,∀ id,owner x.1=some id→owner u≠some id:=fun x hx id hid hu=>h.off hu x hx hid
  refine ⟨fun x hx=>?_,?_⟩
  · rcases List.mem_cons.1 hx with rfl | hx
    · exact ho
    · exact (h.1 x (by simp[hx])).left hl (hoff x hx)
  · have ht:=h.tail.2
    cases hu:owner u' with
    | none=>simp only[List.filterMap_cons,hu]; exact ht
    | some id =>
      simp only[List.filterMap_cons,hu,List.nodup_cons,List.mem_filterMap,not_exists,not_and]
      refine ⟨fun x hx e=>?_,ht⟩
      have hlv:=h.tail.live hx e
      exact (hl id hlv (hoff x hx id e)).2 hu
theorem goApp_owns {sz bytes:Nat} {u:V} {es xs:List (List V)} {L:List Ent} {H:View} {K:V→View→Prop} {w:Veil (H,K)} (ho:Owns H ((u,sz,es) :: L)) (hok:(xs.all fun e=>e.length == sz && e.all cellOk)=true)
    (hl:(es.length+xs.length) * bytes < limit) (hl2:es.length+xs.length < limit) (hk:∀ u' H',Owns H' ((u',sz,es ++ xs) :: L)→Left H H' u u'→K u' H'):GoApp sz bytes u xs H K w :=
  goApp_all ho.head hok hl hl2 fun u' H' h1 h2=>hk u' H' (ho.left h1 h2) h2
theorem Owns.emp {H:View} {L:List Ent} (h:Owns H L) {k sz:Nat} : Owns H ((.emp k,sz,[]) :: L):=by
  refine ⟨fun x hx=>?_,by simpa [List.filterMap_cons,owner] using h.2⟩
  rcases List.mem_cons.1 hx with rfl | hx
  · exact .nil
  · exact h.1 x hx
theorem OwnA.cells {H:View} {u:V} {sz:Nat} {es:List (List V)} (h:OwnA H u sz es):V.cells u=[u]:=by
  rcases h with ⟨rfl,k,rfl⟩ | ⟨n,rfl,_⟩ <;> rfl
theorem OwnA.cok {H:View} {u:V} {sz:Nat} {es:List (List V)} (h:OwnA H u sz es):cellOk u=true:=by
  rcases h with ⟨rfl,k,rfl⟩ | ⟨n,rfl,_⟩ <;> rfl
theorem Owns.dif {H:View} {L:List Ent} (h:Owns H L) (i j:Nat) {a k1 s1 b k2 s2 t1 t2:Nat} {e1 e2:List (List V)} (hi:L[i]?=some (.sl a 0 k1 s1,t1,e1)) (hj:L[j]?=some (.sl b 0 k2 s2,t2,e2)) (hij:i≠j):a≠b:=by
  rintro rfl
  obtain ⟨hil,hi⟩:=List.getElem?_eq_some_iff.1 hi
  have h1:=h.at i hil
  rw[hi] at h1
  exact h1.off (id:=a) rfl _ (List.mem_eraseIdx_iff_getElem?.2 ⟨j,hij.symm,hj⟩) rfl
theorem rot3 {α:Type} {a b c:α} {l:List α} : (a :: b :: c :: l).Perm (b :: c :: a :: l):=(List.Perm.swap _ _ _).trans ((List.Perm.swap _ _ _).cons _)
theorem Owns.own {H:View} {L:List Ent} (h:Owns H L) (i:Nat) {u:V} {sz:Nat} {es:List (List V)} (hi:L[i]?=some (u,sz,es)):OwnA H u sz es:=h.1 _ (List.mem_of_getElem? hi)
theorem Owns.is {H:View} {L:List Ent} (h:Owns H L) (i:Nat) {n k sz:Nat} {es:List (List V)} (hi:L[i]?=some (.sl n 0 k sz,sz,es)) (hes:0 < es.length):H n=.arr sz es:=by
  obtain ⟨m,e,hm⟩:=(h.own i hi).sl hes
  simp only[V.sl.injEq] at e
  rw[e.1]; exact hm
def B_lex_Name_0:SC :=
  .seq (ab [ak 20 .lss 19 18]) <|
  .seq (.cond (.tmp 20) (.skip) (.exit 0)) <|
  .seq (.block 1 (.seq (ab [aa 21 19,aa 3 21]) <|
  .seq (ab [aa 22 0,aa 23 3,((some 24),.op (.sidx (.tmp 22) (.tmp 23))),ao 25 165 [24],aB 26 25]) <|
  .cond (.tmp 26) (.seq (ab [aw 2 false]) <|
  .ret) (.skip))) <|
  ab [ah 27 .add 19 1,aa 19 27]
def S_lex_Name:SF:=⟨.seq (ab [aw 2 false]) <|
  .seq (.seq (.region false [⟨none,[aa 4 0,((some 5),.op (.sop .eql (.tmp 4) (.val (.val (.string ⟨#[]⟩))))),aa 6 5]⟩,⟨(some (6,false)),[aa 7 0,((some 8),.op (.lenS (.tmp 7))),ah 9 .gtr 8 20]⟩,⟨none,[ay 10 6 9,aa 11 10]⟩,⟨(some (11,false)),[aa 12 0,((some 13),.op (.sidx (.tmp 12) (.val (.val (.int .i64 0))))),ao 14 164 [13],aB 15 14]⟩,⟨none,[ay 16 11 15]⟩]) <|
  .cond (.tmp 16) (.seq (ab [aw 2 false]) <|
  .ret) (.skip)) <|
  .seq (.seq (ab [aa 17 0,((some 18),.op (.lenS (.tmp 17))),ai 19 0]) <|
  .block 0 (.loop B_lex_Name_0)) <|
  .seq (ab [aw 2 true]) <|
  .ret,
  [.tmp 2],28⟩
theorem S_lex_Name_ok:compF Tryz.prog 113 []=some S_lex_Name:=by kernel_rfl
def S_lex_literal:SF:=⟨.seq (ab [ai 2 0,ai 3 0]) <|
  .seq (ab [ai 4 2]) <|
  .seq (.block 0 (.seq (ab [aa 6 0,aj 7 6,ah 8 .lss 7 2,aa 5 8]) <|
  .cond (.tmp 5) (.seq (ab [ai 2 0,ai 3 4]) <|
  .ret) (.seq (ab [aa 10 0,((some 11),.op (.idx 1 (.tmp 10) (.val (.val (.int .i64 1))))),ae 12 11,ao 13 261 [12],aa 9 13]) <|
  .cond (.tmp 9) (.skip) (.seq (ab [aa 15 0,((some 16),.op (.idx 1 (.tmp 15) (.val (.val (.int .i64 1))))),ae 17 16,((some 18),.op (.arith .neq (.tmp 17) (.val (.val (.int .u8 92))))),aa 14 18]) <|
  .cond (.tmp 14) (.seq (ab [ai 2 0,ai 3 3]) <|
  .ret) (.seq (ab [aa 20 0,aj 21 20,ah 22 .lss 21 3,aa 19 22]) <|
  .cond (.tmp 19) (.seq (ab [ai 2 0,ai 3 4]) <|
  .ret) (.seq (ab [aa 24 0,((some 25),.op (.idx 1 (.tmp 24) (.val (.val (.int .i64 2))))),ae 26 25,ao 27 262 [26],aB 28 27,aa 23 28]) <|
  .cond (.tmp 23) (.seq (ab [ai 2 0,ai 3 3]) <|
  .ret) (ab [ai 4 3]))))))) <|
  .seq (.seq (ab [aa 29 0,aj 30 29,aa 31 4,ak 32 .leq 30 31]) <|
  .cond (.tmp 32) (.seq (ab [ai 2 0,ai 3 4]) <|
  .ret) (.skip)) <|
  .seq (.seq (ab [aa 33 0,aa 34 4,av 35 1 33 34,ae 36 35,((some 37),.op (.arith .neq (.tmp 36) (.val (.val (.int .u8 39)))))]) <|
  .cond (.tmp 37) (.seq (ab [ai 2 0,ai 3 3]) <|
  .ret) (.skip)) <|
  .seq (ab [aa 38 4,ah 39 .add 38 1,aa 2 39,ai 3 0]) <|
  .ret,
  [.tmp 2,.tmp 3],40⟩
theorem S_lex_literal_ok:compF Tryz.prog 251 []=some S_lex_literal:=by kernel_rfl
def S_lex_Literal:SF:=⟨.seq (ab [aw 2 false]) <|
  .seq (.seq (.region false [⟨none,[aa 5 0,((some 6),.op (.sop .eql (.tmp 5) (.val (.val (.string ⟨#[]⟩))))),aa 7 6]⟩,⟨(some (7,false)),[aa 8 0,((some 9),.op (.sidx (.tmp 8) (.val (.val (.int .i64 0))))),((some 10),.op (.arith .neq (.tmp 9) (.val (.val (.int .u8 39)))))]⟩,⟨none,[ay 11 7 10]⟩]) <|
  .cond (.tmp 11) (.seq (ab [aw 2 false]) <|
  .ret) (.skip)) <|
  .seq (ab [aa 13 0,((some 14),.op (.frzB (.tmp 13))),ao 15 251 [14],aa 12 15,aA 16 0 12,aA 17 1 12,aa 3 16,aa 4 17]) <|
  .seq (.region false [⟨none,[aa 18 4,ah 19 .eql 18 0,aa 20 19]⟩,⟨(some (20,true)),[aa 21 3,aa 22 0,((some 23),.op (.lenS (.tmp 22))),ak 24 .eql 21 23]⟩,⟨none,[az 25 20 24,aa 2 25]⟩]) <|
  .ret,
  [.tmp 2],26⟩
theorem S_lex_Literal_ok:compF Tryz.prog 212 [14]=some S_lex_Literal:=by kernel_rfl
def S_cfg_named:SF:=⟨.seq (ab [aw 2 false]) <|
  .seq (.region false [⟨none,[aa 3 0,ao 4 113 [3],aa 5 4]⟩,⟨(some (5,false)),[aa 6 0,ao 7 212 [6]]⟩,⟨none,[ay 8 5 7,aa 2 8]⟩]) <|
  .ret,
  [.tmp 2],9⟩
theorem S_cfg_named_ok:compF Tryz.prog 158 []=some S_cfg_named:=by kernel_rfl
def S_cfg_Right_1:SF:=⟨.seq (ab [aw 2 false]) <|
  .seq (ab [aa 3 0,ao 4 113 [3],aB 5 4,aa 2 5]) <|
  .ret,
  [.tmp 2],6⟩
theorem S_cfg_Right_1_ok:compF Tryz.prog 112 []=some S_cfg_Right_1:=by kernel_rfl
theorem strEq_nil (s:ByteArray):strEq s ⟨#[]⟩=decide ((bts s).length=0):=by
  unfold strEq
  rw[← bts_len]
  have:(s.data.toList == ([]:List UInt8))=decide (s.data.toList.length=0):=by
    cases s.data.toList <;> rfl
  show (s.data.toList == ([]:List UInt8))=_
  rw[this]
  rfl
set_option maxHeartbeats 1000000 in
theorem mc_NameL (s:ByteArray) (H:View):MCall Tryz.prog 113 [gs s] H fun r _=>r=gb (nameB (bts s)):=by
  refine MCall.of mixed S_lex_Name_ok ?_
  repeat' (first | (refine GoB.dec (fun _=>?_) (fun _=>?_)) | (refine GoB.eq (fun _=>?_) (fun _=>?_)) | (refine GoB.ne (fun _=>?_) (fun _=>?_)) | (refine GoB.split (fun _=>?_) (fun _=>?_)) | (simp (disch:=omega) only [↓wr,↓reduceIte,wq,oneV,intOp,goI,Nat.reduceEqDiff,Nat.reduceLeDiff,Int.reduceToNat,reduceCtorEq,S_lex_Name,bts_len,strEq_nil]))
  · rename_i h
    congr 2; simp[nameB,h]
  · rename_i h1 h
    congr 2; simp[nameB,show ¬ (bts s).length≤20 by omega]
  · rename_i h1 h2
    cases hb:bts s with
    | nil=>simp[hb] at h1
    | cons c l =>
      have hcr:=fun d (hd:d∈c :: l)=>bts_range (s:=s) (c:=d) (by rw[hb]; exact hd)
      have hc0:=hcr c (by simp)
      repeat' (first | (refine GoB.dec (fun _=>?_) (fun _=>?_)) | (refine GoB.eq (fun _=>?_) (fun _=>?_)) | (refine GoB.ne (fun _=>?_) (fun _=>?_)) | (refine GoB.split (fun _=>?_) (fun _=>?_)) | (simp (disch:=omega) only [↓wr,↓reduceIte,wq,List.getElem?_cons_zero]))
      refine CallG.pure (byte_run tabLex_ok run_letter c hc0.1 hc0.2) (by kernel_rfl) ?_
      repeat' (first | (refine GoB.dec (fun _=>?_) (fun _=>?_)) | (refine GoB.eq (fun _=>?_) (fun _=>?_)) | (refine GoB.ne (fun _=>?_) (fun _=>?_)) | (refine GoB.split (fun _=>?_) (fun _=>?_)) | (simp (disch:=omega) only [↓wr,↓reduceIte,wq,goI,Nat.reduceEqDiff,reduceCtorEq,hb,bts_len]))
      · rename_i hf
        rw[hb] at h1 h2
        refine LoopG.intro (fun k T H'=>∃ i:Nat,i+k=(c :: l).length∧((c :: l).take i).all laterB=true∧T 0=gs s∧T 18=gi (c :: l).length∧T 19=gi i) (c :: l).length ?_ ?_
        · exact ⟨0,by omega,by simp,rfl,rfl,rfl⟩
        · rintro k T H' ⟨i,hk,hi,h0,h18,h19⟩
          simp (disch:=omega) only [↓wr,↓reduceIte,wq,intOp,reduceCtorEq,B_lex_Name_0,h18,h19]
          refine GoB.dec (fun hc=>?_) (fun hc=>?_)
          · simp only[List.length_cons] at hc hk h2
            have hg:(c :: l)[i]?=some ((c :: l)[i]'(by simp; omega)):=List.getElem?_eq_getElem (by simp; omega)
            have hm:(c :: l)[i]'(by simp; omega)∈c :: l:=List.getElem_mem _
            generalize (c :: l)[i]'(by simp; omega)=d at hg hm
            have hd0:=hcr d hm
            simp (disch:=omega) only [↓wr,↓reduceIte,wq,Nat.reduceEqDiff,reduceCtorEq,h0,h19,hb,hg]
            refine CallG.pure (byte_run tabLex_ok run_inner d hd0.1 hd0.2) (by kernel_rfl) ?_
            repeat' (first | (refine GoB.dec (fun _=>?_) (fun _=>?_)) | (refine GoB.eq (fun _=>?_) (fun _=>?_)) | (refine GoB.ne (fun _=>?_) (fun _=>?_)) | (refine GoB.split (fun _=>?_) (fun _=>?_)) | (simp (disch:=omega) only [↓wr,↓reduceIte,wq,intOp,Nat.reduceEqDiff,reduceCtorEq,h0,h18,h19]))
            · rename_i hd
              refine ⟨k - 1,by omega,i+1,by omega,?_,by first | rfl | exact ⟨rfl,rfl⟩⟩
              rw[List.take_add_one,hg]
              simp only[Option.toList_some,List.all_append,hi,List.all_cons,hd,List.all_nil,Bool.and_self]
            · rename_i hd
              congr 2
              have:(c :: l).all laterB=false:=by
                rw[List.all_eq_false]; exact ⟨d,hm,by simp[hd]⟩
              simp only[nameB,this,Bool.and_false]
          · simp (disch:=omega) only [↓wr,↓reduceIte,wq,Nat.reduceEqDiff,reduceCtorEq]
            simp only[List.length_cons] at hc hk h2
            rw[List.take_of_length_le (by simp; omega)] at hi
            congr 2
            simp only[nameB,hi,List.length_cons]
            simp[hf]; omega
      · rename_i hf
        congr 2; simp[nameB,hf]
theorem pc_NameL (s:ByteArray):PCall Tryz.prog 113 [gs s] (gb (nameB (bts s))):=PCall.val (gs_tree s) (mc_NameL s)
def litN (l:List Int):Int × Int :=
  if plainB (l.getD 1 0)=true then (2,0) else if l.getD 1 0≠92 then (0,3) else if l.length < 3 then (0,4) else if escB (l.getD 2 0)=true then (3,0) else (0,3)
def litP (l:List Int):Int × Int :=
  if l.length < 2 then (0,4) else if (litN l).2≠0 then (0,(litN l).2) else if (l.length:Int)≤(litN l).1 then (0,4) else if l.getD (litN l).1.toNat 0≠39 then (0,3) else ((litN l).1+1,0)
theorem litP_n {l:List Int} {n:Int} (hN:litN l=(n,0)) (h2:¬ l.length < 2):litP l=if (l.length:Int)≤n then (0,4) else if l.getD n.toNat 0≠39 then (0,3) else (n+1,0):=by
  rw[litP,if_neg h2,hN]; simp
theorem litP_e {l:List Int} {e:Int} (hN:litN l=(0,e)) (he:e≠0) (h2:¬ l.length < 2):litP l=(0,e):=by
  rw[litP,if_neg h2,hN]; simp[he]
set_option maxHeartbeats 2000000 in
theorem mc_literal (l:List Int) (hr:∀ c∈l,0≤c∧c≤255) (H:View):MCall Tryz.prog 251 [.fro (l.map fun x=>[gy x])] H fun r _=>r=.tup [gi (litP l).1,gi (litP l).2]:=by
  refine MCall.of mixed S_lex_literal_ok ?_
  simp (disch:=omega) only [↓wr,↓reduceIte,wq,oneV,intOp,goI,Nat.reduceLeDiff,reduceCtorEq,S_lex_literal]
  refine GoB.dec (fun h=>?_) (fun h=>?_)
  · simp (disch:=omega) only [↓wr,↓reduceIte,wq,intOp,goI,Nat.reduceEqDiff,reduceCtorEq]
    rw[litP,if_pos (by omega)]
  · have h1:l[1]?=some (l[1]'(by omega)):=List.getElem?_eq_getElem (by omega)
    have g1:l.getD 1 0=l[1]'(by omega):=by simp[List.getD_eq_getElem?_getD,h1]
    have m1:l[1]'(by omega)∈l:=List.getElem_mem _
    generalize l[1]'(by omega)=b at h1 g1 m1
    have hb:=hr b m1
    simp (disch:=omega) only [↓wr,↓reduceIte,wq,Nat.reduceLT,Int.reduceToNat,reduceCtorEq,List.getElem?_map,h1]
    refine CallG.pure (byte_run tabLex_ok run_plain b hb.1 hb.2) (by kernel_rfl) ?_
    simp (disch:=omega) only [↓wr,↓reduceIte,wq]
    refine GoB.split (fun hp=>?_) (fun hp=>?_)
    · have hN:litN l=(2,0):=by rw[litN,if_pos (by rw[g1]; exact hp)]
      simp (disch:=omega) only [↓wr,↓reduceIte,wq,intOp,goI,Nat.reduceEqDiff,reduceCtorEq]
      have hP:=litP_n hN (by omega)
      refine GoB.dec (fun h3=>?_) (fun h3=>?_)
      · simp (disch:=omega) only [↓wr,↓reduceIte,wq,Nat.reduceEqDiff,reduceCtorEq]
        rw[hP,if_pos (by omega)]
      · rw[if_neg (by omega)] at hP
        have h2:l[2]?=some (l[2]'(by omega)):=List.getElem?_eq_getElem (by omega)
        have g2:l.getD (2:Int).toNat 0=l[2]'(by omega):=by simp[List.getD_eq_getElem?_getD,h2]
        generalize l[2]'(by omega)=c at h2 g2
        rw[g2] at hP
        simp (disch:=omega) only [↓wr,↓reduceIte,wq,intOp,Nat.reduceEqDiff,Nat.reduceLT,Int.reduceToNat,reduceCtorEq,List.getElem?_map,h2]
        refine GoB.ne (fun h4=>?_) (fun h4=>?_)
        · simp (disch:=omega) only [↓wr,↓reduceIte,wq,Nat.reduceEqDiff,reduceCtorEq]
          rw[hP,if_pos h4]
        · simp (disch:=omega) only [↓wr,↓reduceIte,wq,intOp,Nat.reduceEqDiff,reduceCtorEq]
          rw[hP,if_neg (fun q=>q h4)]
    · simp (disch:=omega) only [↓wr,↓reduceIte,wq,intOp,Nat.reduceLT,Int.reduceToNat,reduceCtorEq,List.getElem?_map,h1]
      refine GoB.ne (fun h5=>?_) (fun h5=>?_)
      · simp (disch:=omega) only [↓wr,↓reduceIte,wq,intOp,goI,Nat.reduceEqDiff,reduceCtorEq]
        rw[litP_e (e:=3) (by rw[litN,if_neg (by rw[g1,hp]; simp),if_pos (by rw[g1]; exact h5)]) (by simp) (by omega)]
      · simp (disch:=omega) only [↓wr,↓reduceIte,wq,intOp,goI,reduceCtorEq]
        refine GoB.dec (fun h6=>?_) (fun h6=>?_)
        · simp (disch:=omega) only [↓wr,↓reduceIte,wq,intOp,goI,Nat.reduceEqDiff,reduceCtorEq]
          rw[litP_e (e:=4) (by rw[litN,if_neg (by rw[g1,hp]; simp),if_neg (by rw[g1]; exact fun q=>q h5),if_pos (by omega)]) (by simp) (by omega)]
        · have h2:l[2]?=some (l[2]'(by omega)):=List.getElem?_eq_getElem (by omega)
          have g2:l.getD 2 0=l[2]'(by omega):=by simp[List.getD_eq_getElem?_getD,h2]
          have m2:l[2]'(by omega)∈l:=List.getElem_mem _
          generalize l[2]'(by omega)=c at h2 g2 m2
          have hcr:=hr c m2
          have hN0:litN l=if escB c=true then (3,0) else (0,3):=by rw[litN,if_neg (by rw[g1,hp]; simp),if_neg (by rw[g1]; exact fun q=>q h5),if_neg (by omega),g2]
          simp (disch:=omega) only [↓wr,↓reduceIte,wq,Nat.reduceLT,Int.reduceToNat,reduceCtorEq,List.getElem?_map,h2]
          refine CallG.pure (byte_run tabLex_ok run_esc c hcr.1 hcr.2) (by kernel_rfl) ?_
          simp (disch:=omega) only [↓wr,↓reduceIte,wq]
          refine GoB.split (fun he=>?_) (fun he=>?_)
          · rw[if_pos he] at hN0
            have hP:=litP_n hN0 (by omega)
            simp (disch:=omega) only [↓wr,↓reduceIte,wq,intOp,goI,Nat.reduceEqDiff,reduceCtorEq]
            refine GoB.dec (fun h3=>?_) (fun h3=>?_)
            · simp (disch:=omega) only [↓wr,↓reduceIte,wq,Nat.reduceEqDiff,reduceCtorEq]
              rw[hP,if_pos (by omega)]
            · rw[if_neg (by omega)] at hP
              have h7:l[3]?=some (l[3]'(by omega)):=List.getElem?_eq_getElem (by omega)
              have g3:l.getD (3:Int).toNat 0=l[3]'(by omega):=by simp[List.getD_eq_getElem?_getD,h7]
              generalize l[3]'(by omega)=d at h7 g3
              rw[g3] at hP
              simp (disch:=omega) only [↓wr,↓reduceIte,wq,intOp,Nat.reduceEqDiff,Nat.reduceLT,Int.reduceToNat,reduceCtorEq,List.getElem?_map,h7]
              refine GoB.ne (fun h4=>?_) (fun h4=>?_)
              · simp (disch:=omega) only [↓wr,↓reduceIte,wq,Nat.reduceEqDiff,reduceCtorEq]
                rw[hP,if_pos h4]
              · simp (disch:=omega) only [↓wr,↓reduceIte,wq,intOp,Nat.reduceEqDiff,reduceCtorEq]
                rw[hP,if_neg (fun q=>q h4)]
          · rw[if_neg (by rw[he]; simp)] at hN0
            simp (disch:=omega) only [↓wr,↓reduceIte,wq,intOp,goI,Nat.reduceEqDiff,reduceCtorEq]
            rw[litP_e hN0 (by simp) (by omega)]
def idxF {α:Type} (p:α→Bool):List α→Int→Int
  | [],_=>-1
  | x :: l,i=>if p x then i else idxF p l (i+1)
theorem idxF_any {α:Type} (p:α→Bool):∀ (l:List α) (i:Int),0≤i→decide (0≤idxF p l i)=l.any p
  | [],_,_=>by simp[idxF]
  | x :: l,i,h=>by
    have ih:=idxF_any p l (i+1) (by omega)
    rw[List.any_cons,idxF]
    by_cases hp:p x=true
    · rw[if_pos hp,hp]; simp[h]
    · rw[if_neg hp,ih]; simp[hp]
theorem fn_tree {f:FuncId} {xs cap:List V} (h:∀ v∈xs,Tree v) (h2:∀ v∈cap,Tree v):Tree (.fn f xs cap):=by
  refine .fn _ _ _ (fun i hi=>?_) (fun i hi=>?_)
  · have e2:xs.getD i .any=xs[i]:=by simp[List.getD_eq_getElem?_getD,hi]
    rw[e2]; exact h _ (List.getElem_mem _)
  · have e2:cap.getD i .any=cap[i]:=by simp[List.getD_eq_getElem?_getD,hi]
    rw[e2]; exact h2 _ (List.getElem_mem _)
def B_slices_IndexFunc___int_int__0:SC :=
  .seq (ab [ak 9 .lss 8 7]) <|
  .seq (.cond (.tmp 9) (.skip) (.exit 0)) <|
  .seq (.block 1 (.seq (ab [aa 10 8,aa 5 10]) <|
  .seq (ab [aa 11 1,aa 12 0,aa 13 5,av 14 1 12 13,ae 15 14,((some 16),.call (.tmp 11) [(.tmp 15)])]) <|
  .cond (.tmp 16) (.seq (ab [aa 17 5,aa 4 17]) <|
  .ret) (.skip))) <|
  ab [ah 18 .add 8 1,aa 8 18]
def S_slices_IndexFunc___int_int_:SF:=⟨.seq (ab [ai 4 0]) <|
  .seq (.seq (ab [aa 6 0,aj 7 6,ai 8 0]) <|
  .block 0 (.loop B_slices_IndexFunc___int_int__0)) <|
  .seq (ab [ai 4 (-1)]) <|
  .ret,
  [.tmp 4],19⟩
theorem S_slices_IndexFunc___int_int__ok:compF Tryz.prog 137 []=some S_slices_IndexFunc___int_int_:=by kernel_rfl
def S_slices_ContainsFunc___int_int_:SF:=⟨.seq (ab [aw 4 false]) <|
  .seq (ab [aa 5 0,aa 6 1,ao 7 137 [5,6],ah 8 .geq 7 0,aa 4 8]) <|
  .ret,
  [.tmp 4],9⟩
theorem S_slices_ContainsFunc___int_int__ok:compF Tryz.prog 90 []=some S_slices_ContainsFunc___int_int_:=by kernel_rfl
def B_slices_IndexFunc___string_string__0:SC :=
  .seq (ab [ak 9 .lss 8 7]) <|
  .seq (.cond (.tmp 9) (.skip) (.exit 0)) <|
  .seq (.block 1 (.seq (ab [aa 10 8,aa 5 10]) <|
  .seq (ab [aa 11 1,aa 12 0,aa 13 5,av 14 1 12 13,ae 15 14,((some 16),.call (.tmp 11) [(.tmp 15)])]) <|
  .cond (.tmp 16) (.seq (ab [aa 17 5,aa 4 17]) <|
  .ret) (.skip))) <|
  ab [ah 18 .add 8 1,aa 8 18]
def S_slices_IndexFunc___string_string_:SF:=⟨.seq (ab [ai 4 0]) <|
  .seq (.seq (ab [aa 6 0,aj 7 6,ai 8 0]) <|
  .block 0 (.loop B_slices_IndexFunc___string_string__0)) <|
  .seq (ab [ai 4 (-1)]) <|
  .ret,
  [.tmp 4],19⟩
theorem S_slices_IndexFunc___string_string__ok:compF Tryz.prog 163 []=some S_slices_IndexFunc___string_string_:=by kernel_rfl
def S_slices_ContainsFunc___string_string_:SF:=⟨.seq (ab [aw 4 false]) <|
  .seq (ab [aa 5 0,aa 6 1,ao 7 163 [5,6],ah 8 .geq 7 0,aa 4 8]) <|
  .ret,
  [.tmp 4],9⟩
theorem S_slices_ContainsFunc___string_string__ok:compF Tryz.prog 111 []=some S_slices_ContainsFunc___string_string_:=by kernel_rfl
theorem mc_IndexFuncI (l:List Int) (hl:Short l) (f:FuncId) (cap:List V) (p:Int→Bool) (hf:∀ x∈l,PCall Tryz.prog f (gi x :: cap) (gb (p x))) (hok:calleeOk Tryz.prog f=true) (H:View) :
    MCall Tryz.prog 137 [encI l,.fn f [] cap] H fun r _=>r=gi (idxF p l 0):=by
  refine MCall.of mixed S_slices_IndexFunc___int_int__ok ?_
  unfold Short at hl
  simp (disch:=omega) only [↓wr,↓reduceIte,wq,oneV,goI,Nat.reduceAdd,Nat.reduceLeDiff,Int.reduceNeg,reduceCtorEq,S_slices_IndexFunc___int_int_,encI]
  refine LoopG.up l.length (fun i T _=>idxF p (l.drop i) i=idxF p l 0∧T 0=encI l∧T 1=.fn f [] cap∧T 7=gi l.length∧T 8=gi i) ⟨rfl,rfl,rfl,rfl,rfl⟩ ?_
  rintro i k T H hk ⟨hi,h0,h1,h7,h8⟩
  simp (disch:=omega) only [↓wr,↓reduceIte,wq,intOp,Int.reduceNeg,reduceCtorEq,B_slices_IndexFunc___int_int__0,h7,h8,encI]
  refine GoB.dec (fun hc=>?_) (fun hc=>?_)
  · have hg:l[i]?=some (l[i]'(by omega)):=List.getElem?_eq_getElem (by omega)
    have hm:l[i]'(by omega)∈l:=List.getElem_mem _
    rw[drop_at (show i < l.length by omega)] at hi
    generalize l[i]'(by omega)=x at hg hm hi
    simp (disch:=omega) only [↓wr,↓reduceIte,wq,Nat.reduceEqDiff,Nat.reduceLT,Int.reduceNeg,reduceCtorEq,h0,h1,h8,encI,List.getElem?_map,hg]
    refine CallG.pure (hf x hm) hok ?_
    simp only[idxF] at hi
    repeat' (first | (refine GoB.dec (fun _=>?_) (fun _=>?_)) | (refine GoB.eq (fun _=>?_) (fun _=>?_)) | (refine GoB.ne (fun _=>?_) (fun _=>?_)) | (refine GoB.split (fun _=>?_) (fun _=>?_)) | (simp (disch:=omega) only [↓wr,↓reduceIte,wq,intOp,Nat.reduceEqDiff,Int.reduceNeg,reduceCtorEq,h8]))
    · rename_i hp
      rw[← hi,if_pos hp]
    · rename_i hp
      refine up_next hk (by omega) ⟨?_,h0,h1,h7,rfl⟩
      rw[if_neg (by simp[hp])] at hi
      push_cast; exact hi
  · rw[List.drop_eq_nil_of_le (by omega)] at hi
    simp (disch:=omega) only [↓wr,↓reduceIte,wq,Nat.reduceEqDiff,Int.reduceNeg,reduceCtorEq]
    rw[← hi]; rfl
theorem ints_fn_tree {l:List Int} {f:FuncId} {cap:List V} (hcap:∀ v∈cap,Tree v):∀ v∈[encI l,.fn f [] cap],Tree v:=by
  intro v hv; simp at hv
  rcases hv with rfl | rfl
  · exact encI_tree l
  · exact fn_tree (by simp) hcap
theorem pc_ContainsFuncI (l:List Int) (hl:Short l) (f:FuncId) (cap:List V) (hcap:∀ v∈cap,Tree v) (p:Int→Bool) (hf:∀ x∈l,PCall Tryz.prog f (gi x :: cap) (gb (p x))) (hok:calleeOk Tryz.prog f=true) :
    PCall Tryz.prog 90 [encI l,.fn f [] cap] (gb (l.any p)):=by
  refine PCall.val (ints_fn_tree hcap) fun H=>?_
  refine MCall.of mixed S_slices_ContainsFunc___int_int__ok ?_
  simp (disch:=omega) only [↓wr,↓reduceIte,wq,oneV,Nat.reduceEqDiff,Nat.reduceAdd,Nat.reduceLeDiff,reduceCtorEq,S_slices_ContainsFunc___int_int_]
  refine CallG.pure (PCall.val (ints_fn_tree hcap) (mc_IndexFuncI l hl f cap p hf hok)) (by kernel_rfl) ?_
  simp (disch:=omega) only [↓wr,↓reduceIte,wq,intOp,reduceCtorEq]
  rw[← idxF_any p l 0 (by omega)]
theorem mc_IndexFuncS (l:List ByteArray) (hl:Short l) (f:FuncId) (cap:List V) (p:ByteArray→Bool) (hf:∀ x∈l,PCall Tryz.prog f (gs x :: cap) (gb (p x))) (hok:calleeOk Tryz.prog f=true) (H:View) :
    MCall Tryz.prog 163 [encS l,.fn f [] cap] H fun r _=>r=gi (idxF p l 0):=by
  refine MCall.of mixed S_slices_IndexFunc___string_string__ok ?_
  unfold Short at hl
  simp (disch:=omega) only [↓wr,↓reduceIte,wq,oneV,goI,Nat.reduceAdd,Nat.reduceLeDiff,Int.reduceNeg,reduceCtorEq,S_slices_IndexFunc___string_string_,encS]
  refine LoopG.up l.length (fun i T _=>idxF p (l.drop i) i=idxF p l 0∧T 0=encS l∧T 1=.fn f [] cap∧T 7=gi l.length∧T 8=gi i) ⟨rfl,rfl,rfl,rfl,rfl⟩ ?_
  rintro i k T H hk ⟨hi,h0,h1,h7,h8⟩
  simp (disch:=omega) only [↓wr,↓reduceIte,wq,intOp,Int.reduceNeg,reduceCtorEq,B_slices_IndexFunc___string_string__0,h7,h8,encS]
  refine GoB.dec (fun hc=>?_) (fun hc=>?_)
  · have hg:l[i]?=some (l[i]'(by omega)):=List.getElem?_eq_getElem (by omega)
    have hm:l[i]'(by omega)∈l:=List.getElem_mem _
    rw[drop_at (show i < l.length by omega)] at hi
    generalize l[i]'(by omega)=x at hg hm hi
    simp (disch:=omega) only [↓wr,↓reduceIte,wq,Nat.reduceEqDiff,Nat.reduceLT,Int.reduceNeg,reduceCtorEq,h0,h1,h8,encS,List.getElem?_map,hg]
    refine CallG.pure (hf x hm) hok ?_
    simp only[idxF] at hi
    repeat' (first | (refine GoB.dec (fun _=>?_) (fun _=>?_)) | (refine GoB.eq (fun _=>?_) (fun _=>?_)) | (refine GoB.ne (fun _=>?_) (fun _=>?_)) | (refine GoB.split (fun _=>?_) (fun _=>?_)) | (simp (disch:=omega) only [↓wr,↓reduceIte,wq,intOp,Nat.reduceEqDiff,Int.reduceNeg,reduceCtorEq,h8]))
    · rename_i hp
      rw[← hi,if_pos hp]
    · rename_i hp
      refine up_next hk (by omega) ⟨?_,h0,h1,h7,rfl⟩
      rw[if_neg (by simp[hp])] at hi
      push_cast; exact hi
  · rw[List.drop_eq_nil_of_le (by omega)] at hi
    simp (disch:=omega) only [↓wr,↓reduceIte,wq,Nat.reduceEqDiff,Int.reduceNeg,reduceCtorEq]
    rw[← hi]; rfl
theorem strs_fn_tree {l:List ByteArray} {f:FuncId} {cap:List V} (hcap:∀ v∈cap,Tree v):∀ v∈[encS l,.fn f [] cap],Tree v:=by
  intro v hv; simp at hv
  rcases hv with rfl | rfl
  · exact encS_tree l
  · exact fn_tree (by simp) hcap
theorem pc_ContainsFuncS (l:List ByteArray) (hl:Short l) (f:FuncId) (cap:List V) (hcap:∀ v∈cap,Tree v) (p:ByteArray→Bool) (hf:∀ x∈l,PCall Tryz.prog f (gs x :: cap) (gb (p x))) (hok:calleeOk Tryz.prog f=true) :
    PCall Tryz.prog 111 [encS l,.fn f [] cap] (gb (l.any p)):=by
  refine PCall.val (strs_fn_tree hcap) fun H=>?_
  refine MCall.of mixed S_slices_ContainsFunc___string_string__ok ?_
  simp (disch:=omega) only [↓wr,↓reduceIte,wq,oneV,Nat.reduceEqDiff,Nat.reduceAdd,Nat.reduceLeDiff,reduceCtorEq,S_slices_ContainsFunc___string_string_]
  refine CallG.pure (PCall.val (strs_fn_tree hcap) (mc_IndexFuncS l hl f cap p hf hok)) (by kernel_rfl) ?_
  simp (disch:=omega) only [↓wr,↓reduceIte,wq,intOp,reduceCtorEq]
  rw[← idxF_any p l 0 (by omega)]
theorem vals_tree {l:List Value} : ∀ v∈l.map V.val,Tree v:=by
  intro v hv; obtain ⟨x,_,rfl⟩:=List.mem_map.1 hv; exact .val _
def S_cfg_within:SF:=⟨.seq (ab [aw 6 false]) <|
  .seq (.region false [⟨none,[aa 7 0,aa 8 1,ak 9 .geq 7 8,aa 10 9]⟩,⟨(some (10,true)),[aa 11 0,aa 12 2,ak 13 .leq 11 12]⟩,⟨none,[az 14 10 13,aa 6 14]⟩]) <|
  .ret,
  [.tmp 6],15⟩
theorem S_cfg_within_ok:compF Tryz.prog 109 []=some S_cfg_within:=by kernel_rfl
def S_cfg_non:SF:=⟨.seq (ab [ai 2 0]) <|
  .seq (ab [aa 3 0,((some 4),.op (.arith .sub (.val (.val (.int .i64 (-1)))) (.tmp 3))),aa 2 4]) <|
  .ret,
  [.tmp 2],5⟩
theorem S_cfg_non_ok:compF Tryz.prog 216 []=some S_cfg_non:=by kernel_rfl
def S_cfg_Has:SF:=⟨.seq (ab [aC 2 0,aw 4 false]) <|
  .seq (.seq (ab [aa 5 1,ah 6 .lss 5 0]) <|
  .cond (.tmp 6) (.seq (.region true [⟨none,[aa 7 1,ao 8 216 [7],af 9 1 2,ae 10 9,aj 11 10,ak 12 .lss 8 11,aa 4 12]⟩]) <|
  .ret) (.skip)) <|
  .seq (ab [aa 13 1,af 14 0 2,ae 15 14,aj 16 15,ak 17 .lss 13 16,aa 4 17]) <|
  .ret,
  [.tmp 4],18⟩
theorem S_cfg_Has_ok:compF Tryz.prog 167 [2]=some S_cfg_Has:=by kernel_rfl
def S_cfg_rule_1:SF:=⟨.seq (ab [aw 4 false]) <|
  .seq (.region false [⟨none,[au 5 4 1,aa 6 0,ao 7 167 [5,6],aB 8 7,aa 9 8]⟩,⟨(some (9,false)),[aa 10 0,ah 11 .geq 10 0,aa 12 11]⟩,⟨(some (12,true)),[af 13 2 2,ae 14 13,ah 15 .eql 14 (-1)]⟩,⟨(some (9,false)),[az 16 12 15]⟩,⟨none,[ay 17 9 16,aa 4 17]⟩]) <|
  .ret,
  [.tmp 4],18⟩
theorem S_cfg_rule_1_ok:compF Tryz.prog 166 []=some S_cfg_rule_1:=by kernel_rfl
def S_cfg_rule:SF:=⟨.seq (ab [aC 2 0,aC 3 1,aw 4 false]) <|
  .seq (.seq (.region false [⟨none,[af 5 1 3,ae 6 5,aj 7 6,ah 8 .gtr 7 6,aa 9 8]⟩,⟨(some (9,false)),[af 10 2 3,ae 11 10,af 12 0 2,ae 13 12,aj 14 13,ah 15 .sub 14 1,aD 16 109 [(.tmp 11),(.val (.val (.int .i64 (-1)))),(.tmp 15)],aB 17 16]⟩,⟨none,[ay 18 9 17]⟩]) <|
  .cond (.tmp 18) (.seq (ab [aw 4 false]) <|
  .ret) (.skip)) <|
  .seq (ab [af 19 1 3,ae 20 19,((some 21),.op (.mkfn 166 [] [(.tmp 2),(.tmp 3)])),ao 22 90 [20,21],aB 23 22,aa 4 23]) <|
  .ret,
  [.tmp 4],24⟩
theorem S_cfg_rule_ok:compF Tryz.prog 114 [2,3]=some S_cfg_rule:=by kernel_rfl
theorem pc_cwithin (a b c:Int):PCall Tryz.prog 109 [gi a,gi b,gi c] (gb (decide (b≤a) && decide (a≤c))):=by
  refine PCall.val (vals_tree (l:=[.int .i64 a,.int .i64 b,.int .i64 c])) fun H=>?_
  refine MCall.of mixed S_cfg_within_ok ?_
  repeat' (first | (refine GoB.dec (fun _=>?_) (fun _=>?_)) | (refine GoB.eq (fun _=>?_) (fun _=>?_)) | (refine GoB.ne (fun _=>?_) (fun _=>?_)) | (refine GoB.split (fun _=>?_) (fun _=>?_)) | (simp (disch:=omega) only [↓wr,↓reduceIte,wq,oneV,intOp,Nat.reduceEqDiff,Nat.reduceAdd,Nat.reduceLeDiff,reduceCtorEq,S_cfg_within]))
  all_goals simp[*]
theorem pc_cnon (s:Int) (hs:In64 s):PCall Tryz.prog 216 [gi s] (gi (-1 - s)):=by
  refine PCall.val (vals_tree (l:=[.int .i64 s])) fun H=>?_
  obtain ⟨h1,h2⟩:=hs
  refine MCall.of mixed S_cfg_non_ok ?_
  repeat' (first | (refine GoB.dec (fun _=>?_) (fun _=>?_)) | (refine GoB.eq (fun _=>?_) (fun _=>?_)) | (refine GoB.ne (fun _=>?_) (fun _=>?_)) | (refine GoB.split (fun _=>?_) (fun _=>?_)) | (simp (disch:=omega) only [↓wr,↓reduceIte,wq,oneV,intOp,Nat.reduceLeDiff,Int.reduceNeg,reduceCtorEq,S_cfg_non]))
theorem pc_cHas (g:Gram) (s:Int) (hs:In64 s):PCall Tryz.prog 167 [.agg (encG g),gi s] (gb (hasG g s)):=by
  refine PCall.val (gi_trees g s) fun H=>?_
  refine MCall.of mixed S_cfg_Has_ok ?_
  repeat' (first | (refine GoB.dec (fun _=>?_) (fun _=>?_)) | (refine GoB.eq (fun _=>?_) (fun _=>?_)) | (refine GoB.ne (fun _=>?_) (fun _=>?_)) | (refine GoB.split (fun _=>?_) (fun _=>?_)) | (refine CallG.pure (pc_cnon s hs) (by kernel_rfl) ?_) | (simp (disch:=omega) only [↓wr,↓reduceIte,wq,oneV,intOp,goI,Nat.reduceEqDiff,Nat.reduceAdd,Nat.reduceLT,Nat.reduceLeDiff,Int.reduceNeg,reduceCtorEq,S_cfg_Has,encG,encS]))
  · rename_i h; simp[hasG,show ¬ (0:Int)≤s by omega]
  · rename_i h; simp[hasG,show (0:Int)≤s by omega]
theorem fptr_tree {cs:List V} {j:Nat} (h:∀ v∈cs,Tree v):Tree (.fptr cs j):=by
  refine .fptr _ _ fun i hi=>?_
  have e2:cs.getD i .any=cs[i]:=by simp[List.getD_eq_getElem?_getD,hi]
  rw[e2]; exact h _ (List.getElem_mem _)
theorem pc_crule1 (g:Gram) (r:Rule) (s:Int) (hs:In64 s):PCall Tryz.prog 166 [gi s,.fptr (encG g) 0,.fptr (encR r) 0] (gb (!symB g r.prec s)):=by
  refine PCall.val ?_ fun H=>?_
  · intro v hv; simp at hv
    rcases hv with rfl | rfl | rfl
    · exact .val _
    · exact fptr_tree (encG_tree g)
    · exact fptr_tree (encR_tree r)
  refine MCall.of mixed S_cfg_rule_1_ok ?_
  simp (disch:=omega) only [↓wr,↓reduceIte,wq,oneV,Nat.reduceEqDiff,Nat.reduceAdd,Nat.reduceLeDiff,Int.reduceNeg,reduceCtorEq,S_cfg_rule_1,encG]
  refine CallG.pure (pc_cHas g s hs) (by kernel_rfl) ?_
  repeat' (first | (refine GoB.dec (fun _=>?_) (fun _=>?_)) | (refine GoB.eq (fun _=>?_) (fun _=>?_)) | (refine GoB.ne (fun _=>?_) (fun _=>?_)) | (refine GoB.split (fun _=>?_) (fun _=>?_)) | (simp (disch:=omega) only [↓wr,↓reduceIte,wq,intOp,Nat.reduceEqDiff,Nat.reduceAdd,Nat.reduceLT,Int.reduceNeg,reduceCtorEq,encR]))
  all_goals simp[symB, *]
theorem pc_crule (g:Gram) (r:Rule) (hg:g.Ok) (hr:Short r.right∧∀ x∈r.right,In64 x):PCall Tryz.prog 114 [.agg (encG g),.agg (encR r)] (gb (ruleB g r)):=by
  refine PCall.val (gr_trees g r) fun H=>?_
  have ht:=hg.terms
  unfold Short at ht
  refine MCall.of mixed S_cfg_rule_ok ?_
  repeat' (first | (refine GoB.dec (fun _=>?_) (fun _=>?_)) | (refine GoB.eq (fun _=>?_) (fun _=>?_)) | (refine GoB.ne (fun _=>?_) (fun _=>?_)) | (refine GoB.split (fun _=>?_) (fun _=>?_)) | (refine CallG.pure (pc_cwithin _ _ _) (by kernel_rfl) ?_) | (simp (disch:=omega) only [↓wr,↓reduceIte,wq,oneV,intOp,goI,Nat.reduceEqDiff,Nat.reduceAdd,Nat.reduceLT,Nat.reduceLeDiff,Int.reduceNeg,reduceCtorEq,S_cfg_rule,encG,encR,encI,encS]))
  · rename_i h; simp[ruleB,show ¬ r.right.length≤6 by omega]
  · rename_i h1 h2
    have h3:r.right.length≤6:=by omega
    have h2' : -1≤r.prec∧r.prec < g.terms.length:=by simp at h2; omega
    refine CallG.pure (pc_ContainsFuncI r.right hr.1 166 [.fptr (encG g) 0,.fptr (encR r) 0] ?_ (fun s=>!symB g r.prec s) (fun x hx=>pc_crule1 g r x (hr.2 x hx)) (by kernel_rfl)) (by kernel_rfl) ?_
    · intro v hv; simp at hv
      rcases hv with rfl | rfl
      · exact fptr_tree (encG_tree g)
      · exact fptr_tree (encR_tree r)
    simp (disch:=omega) only [↓wr,↓reduceIte,wq,Int.reduceNeg,reduceCtorEq]
    simp[ruleB,h3,h2'.1,h2'.2]
    rw[Bool.eq_iff_iff]
    simp
  · rename_i h1 h2
    have h3:¬ (-1≤r.prec∧r.prec < g.terms.length):=by simp at h2; omega
    have:(decide (-1≤r.prec) && decide (r.prec < (g.terms.length:Int)))=false:=by
      rw[← Bool.decide_and]; simpa using h3
    simp only[ruleB,Bool.and_assoc]
    rw[← Bool.and_assoc (decide (-1≤r.prec)),this]; simp
theorem litP_snd (l:List Int) (h0:l.getD 0 0=39):((litP l).2 == 0 && (litP l).1 == (l.length:Int))=litB l:=by
  match l,h0 with
  | [],h=>simp at h
  | [a],_=>rfl
  | [a,b],_ =>
    simp only[litP,litN,litB,List.length_cons,List.length_nil,List.getD_cons_succ,List.getD_cons_zero]
    repeat' split
    all_goals simp_all
  | [a,b,c],h0 =>
    have ha:a=39:=by simpa using h0
    subst ha
    simp only[litP,litN,litB,plainB,escB,List.length_cons,List.length_nil,List.getD_cons_succ,List.getD_cons_zero]
    repeat' split
    all_goals simp_all
    all_goals grind
  | [a,b,c,d],h0 =>
    have ha:a=39:=by simpa using h0
    subst ha
    simp only[litP,litN,litB,plainB,escB,List.length_cons,List.length_nil,List.getD_cons_succ,List.getD_cons_zero]
    repeat' split
    all_goals simp_all
    all_goals grind
  | a :: b :: c :: d :: e :: r,h0 =>
    simp only[litP,litN,litB,plainB,escB,List.length_cons,List.getD_cons_succ,List.getD_cons_zero]
    repeat' split
    all_goals simp_all
    all_goals (try omega)
    all_goals grind
theorem litB_first {c:Int} {l:List Int} (h:¬ c=39):litB (c :: l)=false:=by
  match l with
  | []=>rfl
  | [_]=>rfl
  | [_,_]=>simp[litB,h]
  | [_,_,_]=>simp[litB,h]
  | _ :: _ :: _ :: _ :: _=>rfl
theorem pc_lexLit (s:ByteArray):PCall Tryz.prog 212 [gs s] (gb (litB (bts s))):=by
  refine PCall.val (gs_tree s) fun H=>?_
  refine MCall.of mixed S_lex_Literal_ok ?_
  have hcr:=fun d (hd:d∈bts s)=>bts_range (s:=s) (c:=d) hd
  have hP:PCall Tryz.prog 251 [.fro (bytesE s)] (.tup [gi (litP (bts s)).1,gi (litP (bts s)).2]):=by
    rw[bytesE_eq]
    refine PCall.of ?_ ((mc_literal (bts s) hcr _).mono fun r H' h h' _=>by rw[h]; exact .tree _ (.tup _ fun i hi=>by
      match i,hi with
      | 0,_=>exact .val _
      | 1,_=>exact .val _))
    intro v hv; simp at hv; subst hv
    exact tree_fro _ _ fun x _ v hv=>by simp at hv; subst hv; exact .val _
  cases hb:bts s with
  | nil =>
    repeat' (first | (refine GoB.dec (fun _=>?_) (fun _=>?_)) | (refine GoB.eq (fun _=>?_) (fun _=>?_)) | (refine GoB.ne (fun _=>?_) (fun _=>?_)) | (refine GoB.split (fun _=>?_) (fun _=>?_)) | (simp (disch:=omega) only [↓wr,↓reduceIte,wq,oneV,Nat.reduceEqDiff,Nat.reduceLeDiff,reduceCtorEq,S_lex_Literal,strEq_nil,hb]))
    rfl
  | cons c l =>
    have hl:=litP_snd (bts s)
    rw[hb] at hP hl
    repeat' (first | (refine GoB.dec (fun _=>?_) (fun _=>?_)) | (refine GoB.eq (fun _=>?_) (fun _=>?_)) | (refine GoB.ne (fun _=>?_) (fun _=>?_)) | (refine GoB.split (fun _=>?_) (fun _=>?_)) | (simp (disch:=omega) only [↓wr,↓reduceIte,wq,oneV,intOp,Nat.reduceEqDiff,Nat.reduceLeDiff,Int.reduceToNat,reduceCtorEq,S_lex_Literal,strEq_nil,hb,List.getElem?_cons_zero]))
    · rename_i h
      rw[litB_first h]
    · rename_i h
      refine CallG.pure hP (by kernel_rfl) ?_
      have hl:=hl (by simpa using h)
      repeat' (first | (refine GoB.dec (fun _=>?_) (fun _=>?_)) | (refine GoB.eq (fun _=>?_) (fun _=>?_)) | (refine GoB.ne (fun _=>?_) (fun _=>?_)) | (refine GoB.split (fun _=>?_) (fun _=>?_)) | (simp (disch:=omega) only [↓wr,↓reduceIte,wq,intOp,goI,Nat.reduceEqDiff,Nat.reduceAdd,Nat.reduceLT,reduceCtorEq,bts_len,hb]))
      · rename_i h2
        rw[← hl]; simp[h2]
      · rename_i h2
        rw[← hl]; simp[h2]
theorem pc_cnamed (s:ByteArray):PCall Tryz.prog 158 [gs s] (gb (namedB (bts s))):=by
  refine PCall.val (gs_tree s) fun H=>?_
  refine MCall.of mixed S_cfg_named_ok ?_
  repeat' (first | (refine GoB.dec (fun _=>?_) (fun _=>?_)) | (refine GoB.eq (fun _=>?_) (fun _=>?_)) | (refine GoB.ne (fun _=>?_) (fun _=>?_)) | (refine GoB.split (fun _=>?_) (fun _=>?_)) | (refine CallG.pure (pc_NameL s) (by kernel_rfl) ?_) | (refine CallG.pure (pc_lexLit s) (by kernel_rfl) ?_) | (simp (disch:=omega) only [↓wr,↓reduceIte,wq,oneV,Nat.reduceEqDiff,Nat.reduceLeDiff,reduceCtorEq,S_cfg_named]))
  all_goals simp[namedB, *]
theorem pc_cRight1 (s:ByteArray):PCall Tryz.prog 112 [gs s] (gb (!nameB (bts s))):=by
  refine PCall.val (gs_tree s) fun H=>?_
  refine MCall.of mixed S_cfg_Right_1_ok ?_
  repeat' (first | (refine GoB.dec (fun _=>?_) (fun _=>?_)) | (refine GoB.eq (fun _=>?_) (fun _=>?_)) | (refine GoB.ne (fun _=>?_) (fun _=>?_)) | (refine GoB.split (fun _=>?_) (fun _=>?_)) | (refine CallG.pure (pc_NameL s) (by kernel_rfl) ?_) | (simp (disch:=omega) only [↓wr,↓reduceIte,wq,oneV,Nat.reduceLeDiff,reduceCtorEq,S_cfg_Right_1]))
def B_cfg_levels_0:SC :=
  .seq (ab [ak 12 .lss 11 10]) <|
  .seq (.cond (.tmp 12) (.skip) (.exit 0)) <|
  .seq (.block 1 (.seq (.region false [⟨none,[av 13 3 9 11,au 14 3 13,((some 6),.op (.alloc [(.val (.string ⟨#[]⟩)),(.val (.int .i64 0)),(.val (.int .i64 0))])),(none,.op (.store 3 (.tmp 6) (.tmp 14)))]⟩]) <|
  .seq (.seq (ab [af 15 1 6,ae 16 15,ah 17 .eql 16 0]) <|
  .cond (.tmp 17) (.exit 1) (.skip)) <|
  .seq (.seq (ab [aa 18 3,af 19 1 6,ae 20 19,((some 21),.op (.old (.lookup 236 (.tmp 18) (.tmp 20) false) 3)),aa 7 21]) <|
  .seq (.region false [⟨none,[aa 22 7,ah 23 .neq 22 0,aa 24 23]⟩,⟨(some (24,true)),[aa 25 7,af 26 2 6,ae 27 26,ak 28 .neq 25 27]⟩,⟨none,[az 29 24 28]⟩]) <|
  .cond (.tmp 29) (.seq (ab [aw 2 false]) <|
  .ret) (.skip)) <|
  .seq (ab [aa 30 3,af 31 1 6,ae 32 31,af 33 2 6,ae 34 33,(none,.op (.old (.mapUpdate 236 (.tmp 30) (.tmp 32) (.tmp 34)) 0))]) <|
  ab [aa 35 4,af 36 1 6,ae 37 36,((some 38),.op (.mm true (.tmp 35) (.tmp 37))),aa 4 38])) <|
  ab [ah 39 .add 11 1,aa 11 39]
def S_cfg_levels:SF:=⟨.seq (ab [aw 2 false]) <|
  .seq (ab [((some 8),.op (.mkmap)),aa 3 8]) <|
  .seq (ab [ai 4 0]) <|
  .seq (.seq (ab [aa 9 0,aj 10 9,ai 11 0]) <|
  .block 0 (.loop B_cfg_levels_0)) <|
  .seq (ab [aa 40 3,((some 41),.op (.old (.call { callee:=.builtin .len,args:=#[(.tmp 40)],argTypes:=#[236] }) 3)),aa 42 4,ak 43 .eql 41 42,aa 2 43]) <|
  .ret,
  [.tmp 2],44⟩
theorem S_cfg_levels_ok:compF Tryz.prog 159 []=some S_cfg_levels:=by kernel_rfl
def B_cfg_terms_0:SC :=
  .seq (ab [ak 8 .lss 7 6]) <|
  .seq (.cond (.tmp 8) (.skip) (.exit 0)) <|
  .seq (.block 1 (.seq (.region false [⟨none,[av 9 3 5 7,au 10 3 9,((some 4),.op (.alloc [(.val (.string ⟨#[]⟩)),(.val (.int .i64 0)),(.val (.int .i64 0))])),(none,.op (.store 3 (.tmp 4) (.tmp 10)))]⟩]) <|
  .seq (.region false [⟨none,[af 11 0 4,ae 12 11,ao 13 158 [12],aB 14 13,aa 15 14]⟩,⟨(some (15,false)),[af 16 1 4,ae 17 16,aD 18 109 [(.tmp 17),(.val (.val (.int .i64 0))),(.val (.val (.int .i64 24)))],aB 19 18]⟩,⟨none,[ay 20 15 19,aa 21 20]⟩,⟨(some (21,false)),[af 22 2 4,ae 23 22,aD 24 109 [(.tmp 23),(.val (.val (.int .i64 0))),(.val (.val (.int .i64 3)))],aB 25 24]⟩,⟨none,[ay 26 21 25,aa 27 26]⟩,⟨(some (27,false)),[af 28 1 4,ae 29 28,ah 30 .eql 29 0,af 31 2 4,ae 32 31,ah 33 .eql 32 0,((some 34),.op (.beq false (.tmp 30) (.tmp 33)))]⟩,⟨none,[ay 35 27 34]⟩]) <|
  .cond (.tmp 35) (.seq (ab [aw 2 false]) <|
  .ret) (.skip))) <|
  ab [ah 36 .add 7 1,aa 7 36]
def S_cfg_terms:SF:=⟨.seq (ab [aw 2 false]) <|
  .seq (.seq (ab [aa 5 0,aj 6 5,ai 7 0]) <|
  .block 0 (.loop B_cfg_terms_0)) <|
  .seq (.region false [⟨none,[aa 37 0,aj 38 37,ah 39 .leq 38 24,aa 40 39]⟩,⟨(some (40,true)),[aa 41 0,ao 42 159 [41]]⟩,⟨none,[az 43 40 42,aa 2 43]⟩]) <|
  .ret,
  [.tmp 2],44⟩
theorem S_cfg_terms_ok:compF Tryz.prog 108 []=some S_cfg_terms:=by kernel_rfl
def B_cfg_Right_0:SC :=
  .seq (ab [ak 16 .lss 15 14]) <|
  .seq (.cond (.tmp 16) (.skip) (.exit 0)) <|
  .seq (.block 1 (.seq (.region false [⟨none,[av 17 3 13 15,au 18 3 17,((some 5),.op (.alloc [(.val (.string ⟨#[]⟩)),(.val (.int .i64 0)),(.val (.int .i64 0))])),(none,.op (.store 3 (.tmp 5) (.tmp 18)))]⟩]) <|
  .region false [⟨none,[aa 19 3,af 20 0 5,ae 21 20,((some 22),.op (.bslice 1 1 [(.val (.string ⟨#[]⟩))] [(0,(.tmp 21))])),((some 23),.op (.app 1 16 (.tmp 19) (.tmp 22))),aa 3 23]⟩])) <|
  ab [ah 24 .add 15 1,aa 15 24]
def B_cfg_Right_1:SC :=
  .seq (ab [ak 65 .lss 64 63]) <|
  .seq (.cond (.tmp 65) (.skip) (.exit 2)) <|
  .seq (.block 3 (.seq (ab [av 66 3 62 64,au 67 3 66,((some 8),.op (.alloc [(.val (.int .i64 0)),(.emp 1),(.val (.int .i64 0))])),(none,.op (.store 3 (.tmp 8) (.tmp 67)))]) <|
  .seq (.seq (.region false [⟨none,[af 68 0 8,ae 69 68,aa 70 6,aD 71 109 [(.tmp 69),(.val (.val (.int .i64 0))),(.tmp 70)],aB 72 71,aa 73 72]⟩,⟨(some (73,false)),[au 74 4 1,au 75 3 8,ao 76 114 [74,75],aB 77 76]⟩,⟨none,[ay 78 73 77]⟩]) <|
  .cond (.tmp 78) (.seq (ab [aw 2 false]) <|
  .ret) (.skip)) <|
  ab [aa 79 6,af 80 0 8,ae 81 80,ah 82 .add 81 1,((some 83),.op (.mm true (.tmp 79) (.tmp 82))),aa 6 83])) <|
  ab [ah 84 .add 64 1,aa 64 84]
def S_cfg_Right:SF:=⟨.seq (ab [aC 1 0,aw 2 false]) <|
  .seq (ab [af 9 1 1,ae 10 9,ao 11 107 [10],aa 3 11]) <|
  .seq (.seq (ab [af 12 0 1,ae 13 12,aj 14 13,ai 15 0]) <|
  .block 0 (.loop B_cfg_Right_0)) <|
  .seq (.seq (.region false [⟨none,[af 25 0 1,ae 26 25,ao 27 108 [26],aB 28 27,aa 29 28]⟩,⟨(some (29,false)),[af 30 1 1,ae 31 30,aj 32 31,aD 33 109 [(.tmp 32),(.val (.val (.int .i64 1))),(.val (.val (.int .i64 16)))],aB 34 33]⟩,⟨none,[ay 35 29 34,aa 36 35]⟩,⟨(some (36,false)),[af 37 2 1,ae 38 37,aj 39 38,aD 40 109 [(.tmp 39),(.val (.val (.int .i64 1))),(.val (.val (.int .i64 40)))],aB 41 40]⟩,⟨none,[ay 42 36 41,aa 43 42]⟩,⟨(some (43,false)),[aa 44 3,ao 45 110 [44],aB 46 45]⟩,⟨none,[ay 47 43 46,aa 48 47]⟩,⟨(some (48,false)),[af 49 3 1,ae 50 49,af 51 1 1,ae 52 51,aj 53 52,ah 54 .sub 53 1,aD 55 109 [(.tmp 50),(.val (.val (.int .i64 0))),(.tmp 54)],aB 56 55]⟩,⟨none,[ay 57 48 56]⟩]) <|
  .cond (.tmp 57) (.seq (ab [aw 2 false]) <|
  .ret) (.skip)) <|
  .seq (.seq (ab [af 58 1 1,ae 59 58,aD 60 111 [(.tmp 59),(.val (.fn 112 [] []))]]) <|
  .cond (.tmp 60) (.seq (ab [aw 2 false]) <|
  .ret) (.skip)) <|
  .seq (ab [ai 6 0]) <|
  .seq (.seq (ab [af 61 2 1,ae 62 61,aj 63 62,ai 64 0]) <|
  .block 2 (.loop B_cfg_Right_1)) <|
  .seq (ab [aa 85 6,af 86 1 1,ae 87 86,aj 88 87,ak 89 .eql 85 88,aa 2 89]) <|
  .ret,
  [.tmp 2],90⟩
theorem S_cfg_Right_ok:compF Tryz.prog 64 [1]=some S_cfg_Right:=by kernel_rfl
def encTs (l:List Term):V:=.fro (l.map encT)
theorem encTs_tree (l:List Term):∀ v∈[encTs l],Tree v:=by intro v hv; simp at hv; subst hv; exact tree_fro _ _ fun x _=>encT_tree x
def levS:List Term→List (Int × Int)→Int→Option (List (Int × Int) × Int)
  | [],a,top=>some (a,top)
  | t :: r,a,top=>if t.level=0 then levS r a top else
      if (pget a t.level).getD 0≠0∧(pget a t.level).getD 0≠t.assoc then none else levS r (pput t.level t.assoc a) (if t.level > top then t.level else top)
def levelsB (l:List Term):Bool:=match levS l [] 0 with
  | some (a,top)=>(a.length:Int) == top
  | none=>false
set_option maxHeartbeats 1000000 in
theorem pc_clevels (l:List Term) (hl:Short l):PCall Tryz.prog 159 [encTs l] (gb (levelsB l)):=by
  refine PCall.val (encTs_tree l) fun H=>?_
  refine MCall.of mixed S_cfg_levels_ok ?_
  unfold Short at hl
  simp (disch:=omega) only [↓wr,↓reduceIte,wq,oneV,goI,Nat.reduceLeDiff,reduceCtorEq,S_cfg_levels,encTs]
  intro q hq
  try simp (disch:=omega) only [↓wr,↓reduceIte,wq,oneV,intOp,goI,splice,sBuild,fillE,nilB,isNil,Nat.reduceEqDiff,Nat.reduceAdd,Nat.reduceLT,Nat.reduceLeDiff,Int.reduceNeg,Int.reduceToNat,reduceCtorEq]
  refine LoopG.up l.length (fun i T H=>(∃ a m c top,H q=.map (encM (Value.int .i64) m) c∧MRel gi a m∧T 4=gi top∧levS (l.drop i) a top=levS l [] 0)∧T 0=encTs l∧T 3=.mp q∧T 9=encTs l∧T 10=gi l.length∧T 11=gi i) ?_ ?_
  · refine ⟨⟨[],[],0,0,?_,trivial,rfl,rfl⟩,rfl,rfl,rfl,rfl,rfl⟩
    simp[View.set,encM]
  rintro i k T H hk ⟨⟨a,m,c,top,hq,hm,h4,hi⟩,h0,h3,h9,h10,h11⟩
  simp (disch:=omega) only [↓wr,↓reduceIte,wq,intOp,B_cfg_levels_0,h10,h11,encTs]
  refine GoB.dec (fun hc=>?_) (fun hc=>?_)
  · have hg:l[i]?=some (l[i]'(by omega)):=List.getElem?_eq_getElem (by omega)
    rw[drop_at (show i < l.length by omega)] at hi
    generalize l[i]'(by omega)=t at hg hi
    simp only[levS] at hi
    simp (disch:=omega) only [↓wr,↓reduceIte,wq,intOp,splice,Nat.reduceEqDiff,Nat.reduceAdd,Nat.reduceLT,Nat.reduceLeDiff,h9,h11,encTs,encT,List.getElem?_map,hg]
    intro b hb
    have hbq:b≠q:=by rintro rfl; rw[hq] at hb; simp at hb
    try simp (disch:=omega) only [↓wr,↓reduceIte,wq,oneV,intOp,goI,splice,sBuild,fillE,nilB,isNil,Nat.reduceEqDiff,Nat.reduceAdd,Nat.reduceLT,Nat.reduceLeDiff,Int.reduceNeg,Int.reduceToNat,reduceCtorEq]
    refine GoB.eq (fun hz=>?_) (fun hz=>?_)
    · rw[if_pos hz] at hi
      simp (disch:=omega) only [↓wr,↓reduceIte,wq,intOp,Nat.reduceEqDiff,Nat.reduceAdd,reduceCtorEq,h11]
      refine up_next hk (by omega) ⟨⟨a,m,c,top,?_,hm,h4,hi⟩,h0,h3,h9,h10,rfl⟩
      simp[View.set,hbq.symm,hq]
    · rw[if_neg hz] at hi
      simp (disch:=omega) only [↓wr,↓reduceIte,wq,Nat.reduceEqDiff,Nat.reduceAdd,Nat.reduceLT,h3]
      refine look1 (kt:=3) (et:=3) (z:=gi 0) (by kernel_rfl) (by kernel_rfl) (keyInt .i64 Tryz.underlying3) (id:=q) (c:=c) (m:=m) (k:=t.level) (by simp (disch:=omega) only [↓wr,↓reduceIte,Nat.reduceEqDiff]) (by simp (disch:=omega) only [↓wr,↓reduceIte]) (by simp[View.set,hbq.symm,hq]) ?_
      have hgt:(getM m t.level).getD (gi 0)=gi ((pget a t.level).getD 0):=by
        rw[hm.get]; cases pget a t.level <;> rfl
      have hput:∀ (H2:View) (c':Nat) (T2:Env),(¬ ((pget a t.level).getD 0≠0∧(pget a t.level).getD 0≠t.assoc)) →
          H2 q=.map (encM (Value.int .i64) (putM t.level (gi t.assoc) c m)) c'→T2 0=encTs l→T2 3=.mp q→T2 4=gi (if t.level > top then t.level else top)→T2 9=encTs l→T2 10=gi l.length→T2 11=gi ((i:Int)+1) →
          ∃ k',k' < k∧UpN l.length k' (fun i T H=>(∃ a m c top,H q=.map (encM (Value.int .i64) m) c∧MRel gi a m∧T 4=gi top∧levS (l.drop i) a top=levS l [] 0)∧T 0=encTs l∧T 3=.mp q∧T 9=encTs l∧T 10=gi l.length∧T 11=gi i) T2 H2:=by
        intro H2 c' T2 hn g1 g2 g3 g4 g5 g6 g7
        rw[if_neg hn] at hi
        exact up_next hk (by omega) ⟨⟨_,_,c',_,g1,hm.put t.level t.assoc c,g4,hi⟩,g2,g3,g5,g6,by rw[g7]; rfl⟩
      repeat' (first | (refine GoB.dec (fun _=>?_) (fun _=>?_)) | (refine GoB.eq (fun _=>?_) (fun _=>?_)) | (refine GoB.ne (fun _=>?_) (fun _=>?_)) | (refine GoB.split (fun _=>?_) (fun _=>?_)) | (simp (disch:=omega) only [↓wr,↓reduceIte,wq,intOp,Nat.reduceEqDiff,Nat.reduceAdd,Nat.reduceLT,reduceCtorEq,h3,h11,hgt]))
      · rename_i n1 n2
        rw[if_pos ⟨n1,n2⟩] at hi
        simp only[levelsB,← hi]
      · rename_i n1 n2
        refine mapPut (kt:=3) (et:=3) (by kernel_rfl) (keyInt .i64 Tryz.underlying3) (id:=q) (c:=c) (m:=m) (k:=t.level) (v:=gi t.assoc) (by simp (disch:=omega) only [↓wr,↓reduceIte,Nat.reduceEqDiff]) (by simp (disch:=omega) only [↓wr,↓reduceIte,Nat.reduceEqDiff]) (by simp (disch:=omega) only [↓wr,↓reduceIte]) (by simp[View.set,hbq.symm,hq]) ?_
        intro c'
        simp (disch:=omega) only [↓wr,↓reduceIte,wq,intOp,Nat.reduceEqDiff,Nat.reduceAdd,Nat.reduceLT,reduceCtorEq,h4,h11,hbq]
        exact hput _ c' _ (fun e=>e.2 n2) (by simp[View.set]) h0 h3 rfl h9 h10 rfl
      · rename_i n1
        refine mapPut (kt:=3) (et:=3) (by kernel_rfl) (keyInt .i64 Tryz.underlying3) (id:=q) (c:=c) (m:=m) (k:=t.level) (v:=gi t.assoc) (by simp (disch:=omega) only [↓wr,↓reduceIte,Nat.reduceEqDiff]) (by simp (disch:=omega) only [↓wr,↓reduceIte,Nat.reduceEqDiff]) (by simp (disch:=omega) only [↓wr,↓reduceIte]) (by simp[View.set,hbq.symm,hq]) ?_
        intro c'
        simp (disch:=omega) only [↓wr,↓reduceIte,wq,intOp,Nat.reduceEqDiff,Nat.reduceAdd,Nat.reduceLT,reduceCtorEq,h4,h11,hbq]
        exact hput _ c' _ (fun e=>e.1 n1) (by simp[View.set]) h0 h3 rfl h9 h10 rfl
  · rw[List.drop_eq_nil_of_le (by omega)] at hi
    simp only[levS] at hi
    simp (disch:=omega) only [↓wr,↓reduceIte,wq,Nat.reduceEqDiff,reduceCtorEq]
    refine mapLen (kt:=3) (et:=3) (by kernel_rfl) (id:=q) (c:=c) (m:=m) (by simp (disch:=omega) only [↓wr,↓reduceIte,Nat.reduceEqDiff,h3]) hq ?_
    simp (disch:=omega) only [↓wr,↓reduceIte,wq,intOp,goI,Nat.reduceEqDiff,reduceCtorEq,h4,hm.len]
    simp only[levelsB,← hi]
def termC (t:Term):Bool:=namedB (bts t.name) && decide (0≤t.level) && decide (t.level≤24) && decide (0≤t.assoc) && decide (t.assoc≤3) && ((t.level == 0) == (t.assoc == 0))
def termsC (l:List Term):Bool:=l.all termC && decide (l.length≤24) && levelsB l
set_option maxHeartbeats 1000000 in
theorem pc_cterms (l:List Term) (hl:Short l):PCall Tryz.prog 108 [encTs l] (gb (termsC l)):=by
  refine PCall.val (encTs_tree l) fun H=>?_
  refine MCall.of mixed S_cfg_terms_ok ?_
  have hl2:=hl
  unfold Short at hl
  simp (disch:=omega) only [↓wr,↓reduceIte,wq,oneV,goI,Nat.reduceLeDiff,reduceCtorEq,S_cfg_terms,encTs]
  refine LoopG.up l.length (fun i T H=>(l.drop i).all termC=l.all termC∧T 0=encTs l∧T 5=encTs l∧T 6=gi l.length∧T 7=gi i) ?_ ?_
  · exact ⟨rfl,rfl,rfl,rfl,rfl⟩
  rintro i k T H hk ⟨hi,h0,h5,h6,h7⟩
  simp (disch:=omega) only [↓wr,↓reduceIte,wq,intOp,goI,B_cfg_terms_0,h6,h7,encTs]
  refine GoB.dec (fun hc=>?_) (fun hc=>?_)
  · have hg:l[i]?=some (l[i]'(by omega)):=List.getElem?_eq_getElem (by omega)
    rw[drop_at (show i < l.length by omega)] at hi
    generalize l[i]'(by omega)=t at hg hi
    rw[List.all_cons] at hi
    have hbad:termC t=false→gb false=gb (termsC l):=fun e=>by rw[e,Bool.false_and] at hi; simp[termsC,← hi]
    simp (disch:=omega) only [↓wr,↓reduceIte,wq,splice,Nat.reduceEqDiff,Nat.reduceAdd,Nat.reduceLT,Nat.reduceLeDiff,h5,h7,encTs,encT,List.getElem?_map,hg]
    intro b hb
    repeat' (first | (refine GoB.dec (fun _=>?_) (fun _=>?_)) | (refine GoB.eq (fun _=>?_) (fun _=>?_)) | (refine GoB.ne (fun _=>?_) (fun _=>?_)) | (refine GoB.split (fun _=>?_) (fun _=>?_)) | (refine CallG.pure (pc_cnamed t.name) (by kernel_rfl) ?_) | (refine CallG.pure (pc_cwithin _ _ _) (by kernel_rfl) ?_) | (simp (disch:=omega) only [↓wr,↓reduceIte,wq,intOp,Nat.reduceEqDiff,Nat.reduceAdd,Nat.reduceLT,reduceCtorEq,h0,h7,encTs]))
    all_goals first
      | (refine hbad ?_; simp[termC, *]; done)
      | (refine hbad ?_; simp_all [termC]; done)
      | skip
    rename_i e1 e2 e3 e4
    refine up_next hk (by omega) ⟨?_,h0,h5,h6,rfl⟩
    have:termC t=true:=by
      simp only[Bool.and_eq_true,decide_eq_true_eq] at e2 e3
      have e4':((t.level == 0) == (t.assoc == 0))=true:=by simpa [bne] using e4
      simp[termC,e1,e2.1,e2.2,e3.1,e3.2,e4']
    rw[this,Bool.true_and] at hi
    exact hi
  · rw[List.drop_eq_nil_of_le (by omega),List.all_nil] at hi
    simp (disch:=omega) only [↓wr,↓reduceIte,wq,intOp,Nat.reduceEqDiff,reduceCtorEq,h0,encTs]
    repeat' (first | (refine GoB.dec (fun _=>?_) (fun _=>?_)) | (refine GoB.eq (fun _=>?_) (fun _=>?_)) | (refine GoB.ne (fun _=>?_) (fun _=>?_)) | (refine GoB.split (fun _=>?_) (fun _=>?_)) | (refine CallG.pure (pc_clevels l hl2) (by kernel_rfl) ?_) | (simp (disch:=omega) only [↓wr,↓reduceIte,wq,Nat.reduceEqDiff,reduceCtorEq,h0,encTs]))
    · rename_i h
      simp[termsC,← hi,show l.length≤24 by omega]
    · rename_i h
      simp[termsC,← hi,show ¬ l.length≤24 by omega]
open Go Go.Proofs Go.Shelf Go.RowKit Go.Sort
attribute [local go_sem] Oper.semAt_some
def sortedL_ren:Ren where
  f:=fun
    | 6=>160
    | 8=>213
    | 9=>214
    | 11=>252
    | 13=>184
    | 12=>253
    | 23=>233
    | 24=>234
    | 14=>263
    | 15=>264
    | 16=>265
    | 17=>266
    | 18=>267
    | 19=>268
    | 20=>269
    | 21=>270
    | 22=>271
    | 25=>273
    | 26=>255
    | 27=>256
    | 28=>274
    | 29=>275
    | 30=>276
    | 31=>277
    | n=>n
  t:=fun
    | 26=>9
    | 28=>229
    | 24=>23
    | 0=>0
    | 3=>3
    | 37=>224
    | 48=>149
    | 50=>272
    | 4=>4
    | 40=>281
    | 39=>280
    | 45=>52
    | 5=>5
    | 9=>9
    | 51=>303
    | 55=>307
    | 57=>316
    | 58=>317
    | 33=>174
    | n=>n
  g:=fun n=>n
theorem sortedL:Go.Proofs.SlLaysZ.n6 Tryz.prog sortedL_ren where
  mixed:=by kernel_rfl
  f6:=⟨Tryz.f160.name,by kernel_rfl,by kernel_rfl⟩
  f8:=⟨Tryz.f213.name,by kernel_rfl,by kernel_rfl⟩
  f11:=⟨Tryz.f252.name,by kernel_rfl,by kernel_rfl⟩
  t0:=Tryz.underlying0
  a0:=Tryz.isAgg0
  z0:=Tryz.sizeOf0
  v0:=Tryz.zeroValue0
  t24:=Tryz.underlying23
  a24:=Tryz.isAgg23
  z24:=Tryz.sizeOf23
  v24:=Tryz.zeroValue23
  t26:=Tryz.underlying9
  a26:=Tryz.isAgg9
  z26:=Tryz.sizeOf9
  v26:=Tryz.zeroValue9
  t28:=Tryz.underlying229
  a28:=Tryz.isAgg229
  z28:=Tryz.sizeOf229
  v28:=Tryz.zeroValue229
  i26:=by kernel_rfl
def sortL_ren:Ren where
  f:=fun
    | 6=>214
    | 8=>184
    | 9=>253
    | 19=>233
    | 20=>234
    | 21=>263
    | 22=>264
    | 23=>265
    | 24=>266
    | 25=>267
    | 26=>268
    | 27=>269
    | 28=>270
    | 29=>271
    | 36=>273
    | 31=>255
    | 32=>256
    | 37=>274
    | 38=>275
    | 39=>276
    | 41=>277
    | n=>n
  t:=fun
    | 27=>23
    | 29=>9
    | 3=>3
    | 32=>224
    | 26=>23
    | 0=>0
    | 44=>149
    | 46=>272
    | 4=>4
    | 36=>281
    | 35=>280
    | 41=>52
    | 5=>5
    | 9=>9
    | 53=>303
    | 57=>307
    | 63=>316
    | 64=>317
    | n=>n
  g:=fun n=>n
theorem sortL:Go.Proofs.SlLaysM.n6 Tryz.prog sortL_ren where
  mixed:=by kernel_rfl
  f6:=⟨Tryz.f214.name,by kernel_rfl,by kernel_rfl⟩
  f8:=by kernel_rfl
  f9:=⟨Tryz.f253.name,by kernel_rfl,by kernel_rfl⟩
  f19:=by kernel_rfl
  f20:=by kernel_rfl
  f21:=⟨Tryz.f263.name,by kernel_rfl,by kernel_rfl⟩
  f22:=⟨Tryz.f264.name,by kernel_rfl,by kernel_rfl⟩
  f23:=⟨Tryz.f265.name,by kernel_rfl,by kernel_rfl⟩
  f24:=⟨Tryz.f266.name,by kernel_rfl,by kernel_rfl⟩
  f25:=⟨Tryz.f267.name,by kernel_rfl,by kernel_rfl⟩
  f26:=⟨Tryz.f268.name,by kernel_rfl,by kernel_rfl⟩
  f27:=⟨Tryz.f269.name,by kernel_rfl,by kernel_rfl⟩
  f28:=⟨Tryz.f270.name,by kernel_rfl,by kernel_rfl⟩
  f29:=⟨Tryz.f271.name,by kernel_rfl,by kernel_rfl⟩
  f31:=by kernel_rfl
  f32:=by kernel_rfl
  f36:=⟨Tryz.f273.name,by kernel_rfl,by kernel_rfl⟩
  f37:=⟨Tryz.f274.name,by kernel_rfl,by kernel_rfl⟩
  f38:=⟨Tryz.f275.name,by kernel_rfl,by kernel_rfl⟩
  f39:=⟨Tryz.f276.name,by kernel_rfl,by kernel_rfl⟩
  f41:=⟨Tryz.f277.name,by kernel_rfl,by kernel_rfl⟩
  t0:=Tryz.underlying0
  a0:=Tryz.isAgg0
  z0:=Tryz.sizeOf0
  v0:=Tryz.zeroValue0
  t3:=Tryz.underlying3
  a3:=Tryz.isAgg3
  z3:=Tryz.sizeOf3
  v3:=Tryz.zeroValue3
  t4:=Tryz.underlying4
  a4:=Tryz.isAgg4
  z4:=Tryz.sizeOf4
  v4:=Tryz.zeroValue4
  t5:=Tryz.underlying5
  a5:=Tryz.isAgg5
  z5:=Tryz.sizeOf5
  v5:=Tryz.zeroValue5
  t9:=Tryz.underlying9
  a9:=Tryz.isAgg9
  z9:=Tryz.sizeOf9
  v9:=Tryz.zeroValue9
  t26:=Tryz.underlying23
  a26:=Tryz.isAgg23
  z26:=Tryz.sizeOf23
  v26:=Tryz.zeroValue23
  t27:=Tryz.underlying23
  a27:=Tryz.isAgg23
  z27:=Tryz.sizeOf23
  v27:=Tryz.zeroValue23
  t29:=Tryz.underlying9
  a29:=Tryz.isAgg9
  z29:=Tryz.sizeOf9
  v29:=Tryz.zeroValue9
  t32:=Tryz.underlying224
  a32:=Tryz.isAgg224
  z32:=Tryz.sizeOf224
  v32:=Tryz.zeroValue224
  t35:=Tryz.underlying280
  a35:=Tryz.isAgg280
  z35:=Tryz.sizeOf280
  v35:=Tryz.zeroValue280
  t36:=Tryz.underlying281
  a36:=Tryz.isAgg281
  z36:=Tryz.sizeOf281
  v36:=Tryz.zeroValue281
  t41:=Tryz.underlying52
  a41:=Tryz.isAgg52
  z41:=Tryz.sizeOf52
  v41:=Tryz.zeroValue52
  t44:=Tryz.underlying149
  a44:=Tryz.isAgg149
  z44:=Tryz.sizeOf149
  v44:=Tryz.zeroValue149
  t46:=Tryz.underlying272
  a46:=Tryz.isAgg272
  z46:=Tryz.sizeOf272
  v46:=Tryz.zeroValue272
  t53:=Tryz.underlying303
  a53:=Tryz.isAgg303
  z53:=Tryz.sizeOf303
  v53:=Tryz.zeroValue303
  t57:=Tryz.underlying307
  a57:=Tryz.isAgg307
  z57:=Tryz.sizeOf307
  v57:=Tryz.zeroValue307
  t63:=Tryz.underlying316
  a63:=Tryz.isAgg316
  z63:=Tryz.sizeOf316
  v63:=Tryz.zeroValue316
  t64:=Tryz.underlying317
  a64:=Tryz.isAgg317
  z64:=Tryz.sizeOf317
  v64:=Tryz.zeroValue317
def compL_ren:Ren where
  f:=fun
    | 44=>162
    | n=>n
  t:=fun
    | 25=>23
    | 26=>9
    | 3=>3
    | 4=>4
    | 0=>0
    | n=>n
  g:=fun n=>n
theorem compL:Go.Proofs.SlLaysN.n44 Tryz.prog compL_ren where
  mixed:=by kernel_rfl
  f44:=⟨Tryz.f162.name,by kernel_rfl,by kernel_rfl⟩
  t0:=Tryz.underlying0
  a0:=Tryz.isAgg0
  z0:=Tryz.sizeOf0
  v0:=Tryz.zeroValue0
  t3:=Tryz.underlying3
  a3:=Tryz.isAgg3
  z3:=Tryz.sizeOf3
  v3:=Tryz.zeroValue3
  t4:=Tryz.underlying4
  a4:=Tryz.isAgg4
  z4:=Tryz.sizeOf4
  v4:=Tryz.zeroValue4
  t25:=Tryz.underlying23
  a25:=Tryz.isAgg23
  z25:=Tryz.sizeOf23
  v25:=Tryz.zeroValue23
  t26:=Tryz.underlying9
  a26:=Tryz.isAgg9
  z26:=Tryz.sizeOf9
  v26:=Tryz.zeroValue9
  i26:=by kernel_rfl
def SeqIn (n:Nat) (P:Program) (g:Nat) (lb:Array Value) (S:List (List UInt8)→Prop) (N:Nat) (w:World):Prop :=
  ∀ (l:Nat) (J:List (List UInt8)→World→Prop) (W:World),(∀ pre W',J pre W'→Below w.heap.size w W') →
    (∀ pre x W1,J pre W1→pre.length < N→YieldAt Fence.wide (n - 1) P l #[encStr x] W1 fun e W'=>e=.returned (.bool true)∧J (pre ++ [x]) W'∧KeepsWalks W1 W') →
    J [] W→CallsIn Fence.wide n P g (#[.func (.yield l) #[] #[]] ++ lb) W fun e W'=>(∃ v,e=.returned v)∧∃ xs,S xs∧J xs W'
theorem take_next {zs:List (List UInt8)} {k:Nat} (h:k < zs.length):zs.take k ++ [zs.getD k []]=zs.take (k+1):=by
  rw[List.take_add_one]; simp[List.getD_eq_getElem?_getD,h]
set_option maxHeartbeats 2000000 in
theorem values_seq (n:Nat) (hn:1≤n) (Bs b off cap:Nat) (zs:List (List UInt8)) (hreach:zs.length * 16≤140737488351232) (w:World)
    (hBs:w.cell? ⟨Bs,0,none⟩=some (.slice (some ⟨b,off,none⟩) zs.length cap)) (hBl:Bs < w.heap.size) (hbl:b < w.heap.size)
    (hc:∀ j,j < zs.length→w.cell? ⟨b,off+j,none⟩=some (encStr (zs.getD j []))) :
    SeqIn n Tryz.prog 215 #[.pointer (some ⟨Bs,0,none⟩)] (fun xs=>xs=zs) zs.length w:=by
  intro l J W hJ hY h0
  have hbw:=hJ _ _ h0
  have hBs':=(hbw.cell (p:=⟨Bs,0,none⟩) hBl).trans hBs
  have hf:Fence.wide.fn 215:=trivial
  refine callsIn_of_wp Tryz.func215 rfl hf ?_ rfl
  simp only[Tryz.ntmps215,List.size_toArray,List.length_cons,List.length_nil,Nat.reduceAdd,Nat.reduceSub,Array.replicate_succ,Array.replicate_zero,List.push_toArray,List.append_toArray,List.nil_append,List.cons_append]
  gi_wp2
  gi_loopw [7] (fun i wr=>∃ k:Nat,k≤zs.length∧i=.int .i64 k∧J (zs.take k) wr) (fun i _=>zs.length - (RowKit.intOf i).toNat)
  case atStart=>exact ⟨0,Nat.zero_le _,rfl,by simpa using h0⟩
  case round =>
    obtain ⟨k,hk,rfl,hJs⟩:=hrel
    have hnx:=hJ _ _ hJs
    have hcx:k < zs.length→wr.cell? ⟨b,off+k,none⟩=some (encStr (zs.getD k [])):=fun h=>(hnx.cell (p:=⟨b,off+k,none⟩) hbl).trans (hc k h)
    by_cases hlt:k < zs.length
    · obtain ⟨x,hx1,hcx'⟩:∃ x,zs.take k ++ [x]=zs.take (k+1)∧wr.cell? ⟨b,off+k,none⟩=some (encStr x):=⟨_,take_next hlt,hcx hlt⟩
      obtain ⟨fn,tmps,assign,body,hy,hR⟩:=hY _ x wr hJs (by simp; omega)
      clear hcx hJs
      gi_wp2
      refine hR.mono ?_
      rintro e W3 ⟨rfl,hJ3,hk3⟩
      gi_wp2
      go_roundw
      case rel=>exact ⟨k+1,by omega,by simp,by rw[← hx1]; exact hJ3⟩
      case measure=>simp[RowKit.intOf]; omega
    · obtain rfl:k=zs.length:=by omega
      clear hcx
      gi_wp2
      go_end0
      exact ⟨⟨_,rfl⟩,_,rfl,by simpa using hJs⟩
set_option maxHeartbeats 2000000 in
theorem appendSeq_of (n:Nat) (hn:2≤n) (g:Nat) (lb:Array Value) (eg:∀ args w,(callFunc g args).run Tryz.prog w=.ok (.enter g args) w)
    (S:List (List UInt8)→Prop) (N:Nat) (hN:N≤maxLen) (hNb:N * 16≤140737488355328) (w:World) (hseq:SeqIn (n - 1) Tryz.prog g lb S N w) :
    CallsIn Fence.wide n Tryz.prog 252 #[.slice none 0 0,.func (.func g) #[] lb] w fun e w'=>∃ (v:Value) (ss:List (List UInt8)),e=.returned v∧S ss∧w'.ownsRow w.heap.size 9 1 v ss.length (ss.map encStr)∧Below w.heap.size w w':=by
  have h11:Fence.wide.fn 252:=trivial
  refine callsIn_of_wp_marks Tryz.func252 rfl h11 ?_ rfl
  simp only[Tryz.ntmps252,List.size_toArray,List.length_cons,List.length_nil,Nat.reduceAdd,Nat.reduceSub,Array.replicate_succ,Array.replicate_zero,List.push_toArray,List.append_toArray,List.nil_append,List.cons_append]
  gi_wp2
  refine wpIn_rangeFunc ?_
  intro fn hfn
  let sv:Value:=.func (.func g) #[] lb
  have hz:(w.alloc (.cells #[.slice none 0 0] 23)).heap.size=w.heap.size+1:=by simp
  have hv0:=World.alloc_heap_new w (.cells #[.slice none 0 0] 23)
  have hb0:Below w.heap.size w (w.alloc (.cells #[.slice none 0 0] 23)):=(Below.refl _ w).alloc (Nat.le_refl _) _
  revert hz hv0 hb0
  generalize w.alloc (.cells #[.slice none 0 0] 23)=W0
  intro hz hv0 hb0
  obtain ⟨W1,hW1⟩:∃ W1,(W0.alloc (.deferred (some []))).alloc (.loop (AnyZ.apRec sortedL_ren fn sv w.heap.size W0.heap.size .ready none))=W1:=⟨_,rfl⟩
  have hold:∀ k,k < W0.heap.size→W1.heap[k]?=W0.heap[k]?:=fun k hk=>by
    rw[← hW1]; exact (Below.heap_alloc _ _ k (by simp; omega)).trans (Below.heap_alloc _ _ k hk)
  have hb1:Below w.heap.size w W1:=by rw[← hW1]; exact (hb0.alloc (by omega) _).alloc (by simp; omega) _
  have hM:AnyZ.ApAt sortedL_ren w fn sv w.heap.size (W0.heap.size+1) W0.heap.size [] W1:=by
    refine ⟨⟨_,(hold w.heap.size (by omega)).trans hv0,⟨rfl,.inl ⟨rfl,rfl⟩⟩,by simp⟩,?_,?_,hb1⟩
    · rw[← hW1]
      have h:=World.alloc_heap_new (W0.alloc (.deferred (some []))) (.loop (AnyZ.apRec sortedL_ren fn sv w.heap.size W0.heap.size .ready none))
      rwa [World.size_alloc] at h
    · rw[← hW1]; exact (Below.heap_alloc _ _ _ (by simp)).trans (World.alloc_heap_new W0 _)
  refine ⟨W0.heap.size+1,[{ target:=.collected W0.heap.size,args:=#[] }],W1,{ target:=.fn (.func g) lb,args:=#[.func (.yield (W0.heap.size+1)) #[] #[]] },W1,g,
    #[.func (.yield (W0.heap.size+1)) #[] #[]] ++ lb,W1,by rw[← hW1]; exact run_enterLoop_outer _ _ _ _ _,?_,?_,?_,fun _=>by omega,?_⟩
  · simp[resolve,go_sem]
  · intro f' hf'; trivial
  · simp[invoke,go_sem,eg]
  · refine (hseq (W0.heap.size+1) (AnyZ.ApAt sortedL_ren w fn sv w.heap.size (W0.heap.size+1) W0.heap.size) W1 (fun _ _ h=>h.below)
      (fun pre x W hJ hl=>AnyZ.apYield { sortedL with } Fence.wide (n - 1 - 1) w fn hfn _ w.heap.size (W0.heap.size+1) W0.heap.size (by omega) (by omega) (by omega) (Nat.le_refl _) (by omega) N hN hNb pre x W hJ hl) hM).mono ?_
    rintro e W2 ⟨⟨v0,rfl⟩,ss,hS,h2⟩
    obtain ⟨v,hv,hrow,_⟩:=h2.box
    have hend:=run_endLoop (P:=Tryz.prog) h2.L (by simp[AnyZ.apRec])
    have hne:∀ (cur:Array Value),Obj.cells #[v] 23 (0,0)≠.cells cur 9 (0,0):=fun cur e=>by cases e
    obtain ⟨W3,hW3⟩:∃ W3,W2.putObj (W0.heap.size+1) (.loop { AnyZ.apRec sortedL_ren fn sv w.heap.size W0.heap.size .ready none with state:=.exhausted })=W3:=⟨_,rfl⟩
    have hg3:W2.grownBy W3 (some (W0.heap.size+1)):=by rw[← hW3]; exact grownBy_putObj_a _ _ _
    have hv3:W3.heap[w.heap.size]?=some (.cells #[v] 23 (0,0)):=by rw[← hW3]; exact (World.putObj_heap_other (by omega)).trans hv
    have hK3:W3.heap[W0.heap.size]?=some (.deferred (some [])):=by rw[← hW3]; exact (World.putObj_heap_other (by omega)).trans h2.K
    have hrow3:=hrow.kept hg3 (ownsRow_ne_a hrow h2.L (fun cur e=>by cases e))
    have hb3:Below w.heap.size w W3:=h2.below.grown hg3 h2.below.size (fun k e=>by cases e; omega)
    obtain ⟨hc3,hf3⟩:=cell_of_box_a hv3
    refine ⟨none,W3,by rw[← hW3]; exact hend,?_⟩
    clear hW3 hW1 hold hM hend hseq
    gi_wp2
    rw[← hz]
    refine ⟨by simp,.inl ⟨_,_,rfl,run_takeDeferred hK3,?_⟩⟩
    exact ⟨_,results_tmp rfl _ _ _,v,ss,rfl,hS,hrow3.kept (grownBy_putObj_a _ _ _) (ownsRow_ne_a hrow3 hK3 (fun cur e=>by cases e)),hb3.grown (grownBy_putObj_a _ _ _) hb3.size (fun k e=>by cases e; omega)⟩
set_option maxHeartbeats 2000000 in
theorem sorted_of (n:Nat) (hn:4≤n) (g:Nat) (lb:Array Value) (eg:∀ args w,(callFunc g args).run Tryz.prog w=.ok (.enter g args) w)
    (S:List (List UInt8)→Prop) (N:Nat) (hN:N≤maxLen) (hNb:N * 16≤140737488355328) (w:World) (hseq:SeqIn (n - 1 - 1 - 1) Tryz.prog g lb S N w) (hS:∀ xs,S xs→xs.length < 4611686018427387904) :
    CallsIn Fence.wide n Tryz.prog 160 #[.func (.func g) #[] lb] w fun e w'=>∃ (v:Value) (ss:List (List UInt8)),e=.returned v∧S ss ∧
      w'.ownsRow w.heap.size 9 1 v ss.length ((ss.mergeSort (fun x y=>decide (x≤y))).map encStr)∧Below w.heap.size w w':=by
  have h6:Fence.wide.fn 160:=trivial
  have h8:Fence.wide.fn 213:=trivial
  have h9:Fence.wide.fn 214:=trivial
  have h11:Fence.wide.fn 252:=trivial
  have h1:1≤n - 1:=by omega
  have h1':1≤n:=by omega
  have hcol:CallsIn Fence.wide (n - 1) Tryz.prog 213 #[.func (.func g) #[] lb] w fun e w'=>∃ (v:Value) (ss:List (List UInt8)),e=.returned v∧S ss∧w'.ownsRow w.heap.size 9 1 v ss.length (ss.map encStr)∧Below w.heap.size w w':=by
    have happ:=appendSeq_of (n - 1 - 1) (by omega) g lb eg S N hN hNb w hseq
    refine callsIn_of_wp Tryz.func213 rfl h8 ?_ rfl
    simp only[Tryz.ntmps213,List.size_toArray,List.length_cons,List.length_nil,Nat.reduceAdd,Nat.reduceSub,Array.replicate_succ,Array.replicate_zero,List.push_toArray,List.append_toArray,List.nil_append,List.cons_append]
    gi_wp2_with (gi_at_call 252; refine happ.mono ?_; rintro e w' ⟨v,ss,rfl,hS,hrow,hb⟩)
    go_ret
    exact ⟨v,ss,rfl,hS,hrow,hb⟩
  refine callsIn_of_wp Tryz.func160 rfl h6 ?_ rfl
  simp only[Tryz.ntmps160,List.size_toArray,List.length_cons,List.length_nil,Nat.reduceAdd,Nat.reduceSub,Array.replicate_succ,Array.replicate_zero,List.push_toArray,List.append_toArray,List.nil_append,List.cons_append]
  gi_wp2_with (gi_at_call 213; refine hcol.mono ?_; rintro e W ⟨v,ss,rfl,hSs,hrow,hb⟩)
  have hlen:=hS ss hSs
  rcases hrow.2 with ⟨rfl,hz⟩ | ⟨gb,cap,cur,rfl,hbase,hgb,r1,r2,r3,r4⟩
  · have hss:ss=[]:=List.eq_nil_of_length_eq_zero hz
    subst hss
    have cN:CallsIn Fence.wide (n - 1) Tryz.prog 214 #[.slice none 0 0] W fun e w'=>e=.returned (.tuple #[])∧w'=W:=callsIn_wide.2 (AnyM.slices_Sort_string_none sortL none 0 W)
    gi_wp2_with (gi_at_call 214; refine cN.mono ?_; rintro e w' ⟨rfl,rfl⟩)
    go_ret
    exact ⟨.slice none 0 0,[],rfl,hSs,by simpa using hrow,hb⟩
  · have hH:Holds encStr W gb 0 ss.toArray:=holds_of_block hgb (by simpa using r4)
    have hgl:gb < W.heap.size:=(Array.getElem?_eq_some_iff.1 hgb).1
    have cS:CallsIn Fence.wide (n - 1) Tryz.prog 214 #[.slice (some ⟨gb,0,none⟩) ss.length cap] W fun e w'=>e=.returned (.tuple #[])∧∃ k os,w'=grow (putRow encStr (Sort.ahead W k) gb 0 (ss.mergeSort fun x y=>decide (x≤y)).toArray) os :=
      callsIn_wide.2 (AnyM.slices_Sort_string sortL gb 0 cap ss W hH hgl hlen)
    gi_wp2_with (gi_at_call 214; refine cS.mono ?_; rintro e w' ⟨rfl,nn,os,rfl⟩)
    go_ret
    exact ⟨_,ss,rfl,hSs,ownsRow_sorted (by simp) hbase hgb r1 r2 r3,hb.grown (grownBy_sorted _) hb.size (fun j hj=>by cases hj; exact hbase)⟩
open Go Go.Proofs Go.Shelf Go.RowKit Go.Sort
theorem le_of_steps {l:List (List UInt8)} (hs:l.Pairwise (fun a b=>decide (a≤b)=true)) (h:∀ j,j+1 < l.length→l.getD (j+1) []≠l.getD j []):l.Nodup:=by
  induction l with
  | nil=>exact List.nodup_nil
  | cons x r ih =>
    rw[List.pairwise_cons] at hs
    refine List.nodup_cons.2 ⟨fun hx=>?_,ih hs.2 fun j hj=>by simpa using h (j+1) (by simpa using hj)⟩
    cases r with
    | nil=>simp at hx
    | cons y r =>
      have h0:=h 0 (by simp)
      simp only[List.getD_cons_succ,List.getD_cons_zero,Nat.zero_add] at h0
      rcases List.mem_cons.1 hx with e | hm
      · exact h0 e.symm
      · have h1:x≤y:=by simpa using hs.1 y (by simp)
        have h2:y≤x:=by simpa using (List.pairwise_cons.1 hs.2).1 x hm
        exact h0 (List.le_antisymm h2 h1)
theorem keeps_iff (l:List (List UInt8)):(Lib.compact l).length=l.length↔∀ j,j+1 < l.length→l.getD (j+1) []≠l.getD j []:=by
  have hl:(Lib.compact l).length=((List.range l.length).filter (Lib.keeps l.toArray)).length:=by simp[Lib.compact,Lib.compactUpTo]
  rw[hl]
  have hr:(List.range l.length).length=l.length:=by simp
  conv=>lhs; rhs; rw[← hr]
  rw[List.length_filter_eq_length_iff]
  have hg:∀ j,j < l.length→l.toArray[j]! = l.getD j []:=fun j hj=>by simp[List.getD_eq_getElem?_getD,hj]
  constructor
  · intro h j hj
    have:=h (j+1) (by simpa using hj)
    simp only[Lib.keeps,decide_eq_true_eq,Nat.add_sub_cancel] at this
    rcases this with e | e
    · omega
    · rw[hg _ hj,hg _ (by omega)] at e; exact e
  · intro h j hj
    simp only[List.mem_range] at hj
    simp only[Lib.keeps,decide_eq_true_eq]
    by_cases e:j=0
    · exact .inl e
    · right
      obtain ⟨k,rfl⟩:∃ k,j=k+1:=⟨j - 1,by omega⟩
      rw[hg _ hj,Nat.add_sub_cancel,hg _ (by omega)]
      exact h k hj
theorem sorted_compact (zs:List (List UInt8)):(Lib.compact (zs.mergeSort fun x y=>decide (x≤y))).length=zs.length↔zs.Nodup:=by
  have hp:=List.mergeSort_perm zs (fun x y=>decide (x≤y))
  have hs:=List.pairwise_mergeSort (le:=fun x y:List UInt8=>decide (x≤y)) (fun a b c h k=>by simp at h k ⊢; exact List.le_trans h k) (fun a b=>by simpa using List.le_total a b) zs
  rw[← hp.nodup_iff,← hp.length_eq,keeps_iff]
  constructor
  · exact le_of_steps hs
  · intro hn j hj e
    have h1:(zs.mergeSort fun x y=>decide (x≤y))[j+1]'hj=(zs.mergeSort fun x y=>decide (x≤y))[j]'(by omega):=by
      simp only[List.getD_eq_getElem?_getD,List.getElem?_eq_getElem hj,List.getElem?_eq_getElem (show j < (zs.mergeSort fun x y=>decide (x≤y)).length by omega),Option.getD_some] at e
      exact e
    have:=(List.getElem_inj hn).1 h1
    omega
theorem grow_nil (w:World):grow w #[]=w:=by simp[grow]
set_option maxHeartbeats 2000000 in
theorem values_none (n:Nat) (hn:1≤n) (Bs cap:Nat) (a:Option Addr) (w:World) (hBs:w.cell? ⟨Bs,0,none⟩=some (.slice a 0 cap)) (hBl:Bs < w.heap.size) :
    SeqIn n Tryz.prog 215 #[.pointer (some ⟨Bs,0,none⟩)] (fun xs=>xs=[]) 0 w:=by
  intro l J W hJ hY h0
  have hbw:=hJ _ _ h0
  have hBs':=(hbw.cell (p:=⟨Bs,0,none⟩) hBl).trans hBs
  have hf:Fence.wide.fn 215:=trivial
  refine callsIn_of_wp Tryz.func215 rfl hf ?_ rfl
  simp only[Tryz.ntmps215,List.size_toArray,List.length_cons,List.length_nil,Nat.reduceAdd,Nat.reduceSub,Array.replicate_succ,Array.replicate_zero,List.push_toArray,List.append_toArray,List.nil_append,List.cons_append]
  gi_wp2
  gi_loopw [7] (fun i wr=>i=.int .i64 0∧J [] wr) (fun _ _=>0)
  case atStart=>exact ⟨rfl,h0⟩
  case round =>
    obtain ⟨rfl,hJs⟩:=hrel
    gi_wp2
    go_end0
    exact ⟨⟨_,rfl⟩,_,rfl,hJs⟩
set_option maxHeartbeats 2000000 in
theorem values_box (n:Nat) (a:Option Addr) (len cap:Nat) (w:World) :
    CallsIn Fence.wide n Tryz.prog 161 #[.slice a len cap] w fun e w'=>e=.returned (.func (.func 215) #[] #[.pointer (some ⟨w.heap.size,0,none⟩)])∧w'=w.alloc (.cells #[.slice a len cap] 23):=by
  have hf:Fence.wide.fn 161:=trivial
  refine callsIn_of_wp Tryz.func161 rfl hf ?_ rfl
  simp only[Tryz.ntmps161,List.size_toArray,List.length_cons,List.length_nil,Nat.reduceAdd,Nat.reduceSub,Array.replicate_succ,Array.replicate_zero,List.push_toArray,List.append_toArray,List.nil_append,List.cons_append]
  gi_wp2
  go_ret
  exact ⟨rfl,rfl⟩
set_option maxHeartbeats 4000000 in
theorem alone_calls (a:Option Addr) (cap:Nat) (zs:List (List UInt8)) (hz:zs.length≤1000) (w:World)
    (hseq:∀ n Bs,1≤n→w.heap.size=Bs→SeqIn n Tryz.prog 215 #[.pointer (some ⟨Bs,0,none⟩)] (fun xs=>xs=zs) zs.length (w.alloc (.cells #[.slice a zs.length cap] 23))) :
    Calls Tryz.prog 110 #[.slice a zs.length cap] w fun e w'=>e=.returned (.bool (decide zs.Nodup))∧Below w.heap.size w w':=by
  refine (callsIn_wide (n:=7)).1 ?_
  have hf:Fence.wide.fn 110:=trivial
  have hfv:Fence.wide.fn 161:=trivial
  have hfs:Fence.wide.fn 160:=trivial
  have hfc:Fence.wide.fn 162:=trivial
  have eg:=enters_of Tryz.func215 (by kernel_rfl) rfl
  have cV:=values_box 6 a zs.length cap w
  have cS:=sorted_of 6 (by omega) 215 #[.pointer (some ⟨w.heap.size,0,none⟩)] eg _ zs.length (by unfold maxLen; omega) (by omega) (w.alloc (.cells #[.slice a zs.length cap] 23)) (hseq _ _ (by omega) rfl) (fun xs e=>by subst e; omega)
  refine callsIn_of_wp Tryz.func110 rfl hf ?_ rfl
  simp only[Tryz.ntmps110,List.size_toArray,List.length_cons,List.length_nil,Nat.reduceAdd,Nat.reduceSub,Array.replicate_succ,Array.replicate_zero,List.push_toArray,List.append_toArray,List.nil_append,List.cons_append]
  clear hseq
  gi_wp2_with (first
    | (gi_at_call 161; refine cV.mono ?_; rintro e w' ⟨rfl,rfl⟩)
    | (gi_at_call 160; refine cS.mono ?_; rintro e W ⟨v,ss,rfl,rfl,hrow,hb⟩)
    | fail)
  have hsz:(ss.mergeSort fun x y=>decide (x≤y)).length=ss.length:=by simp
  have hBw:Below w.heap.size w W:=((Below.refl _ w).alloc (Nat.le_refl _) _).trans (hb.mono (by simp))
  rcases hrow.2 with ⟨rfl,h0⟩ | ⟨gb,cap',cur,rfl,hbase,hgb,r1,r2,r3,r4⟩
  · have hss:ss=[]:=List.eq_nil_of_length_eq_zero h0
    subst hss
    have cC:CallsIn Fence.wide 6 Tryz.prog 162 #[.slice none 0 0] W fun e w'=>e=.returned (.slice none 0 0)∧w'=W:=callsIn_wide.2 (AnyG.slices_Compact_string_empty compL none 0 W)
    clear cS cV hrow
    gi_wp2_with (gi_at_call 162; refine cC.mono ?_; rintro e w' ⟨rfl,rfl⟩)
    go_ret
    exact ⟨rfl,hBw⟩
  · have hH:Holds encStr W gb 0 (ss.mergeSort fun x y=>decide (x≤y)).toArray:=holds_of_block hgb (by simpa using r4)
    have hgl:gb < W.heap.size:=(Array.getElem?_eq_some_iff.1 hgb).1
    have cC:CallsIn Fence.wide 6 Tryz.prog 162 #[.slice (some ⟨gb,0,none⟩) ss.length cap'] W fun e w'=>∃ m:Nat,e=.returned (.slice (some ⟨gb,0,none⟩) m cap')∧((m=ss.length)↔ss.Nodup)∧Below w.heap.size w w':=by
      have:=AnyG.slices_Compact_string compL gb 0 cap' (ss.mergeSort fun x y=>decide (x≤y)) W hH (by rw[hsz]; omega) (by rw[hsz]; omega)
      rw[hsz] at this
      refine callsIn_wide.2 (this.mono ?_)
      rintro e w' ⟨rfl,q,rfl⟩
      refine ⟨_,rfl,sorted_compact ss,?_⟩
      have hg:=grownBy_sorted (w:=W) (g:=gb) (n:=q) (os:=#[]) (Lib.compact (ss.mergeSort fun x y=>decide (x≤y)) ++ List.replicate (ss.length - (Lib.compact (ss.mergeSort fun x y=>decide (x≤y))).length) []).toArray
      rw[grow_nil] at hg
      exact hBw.grown hg hBw.size (fun j e=>by cases e; have h:=hbase; rw[World.size_alloc] at h; omega)
    clear cS cV hrow hH
    gi_wp2_with (gi_at_call 162; refine cC.mono ?_; rintro e w' ⟨m,rfl,hm,hb'⟩)
    go_ret
    refine ⟨?_,hb'⟩
    show Ending.returned (.bool ((m:Int) == (ss.length:Int)))=_
    have:((m:Int) == (ss.length:Int))=decide ss.Nodup:=by
      rw[Bool.eq_iff_iff]
      simp only[beq_iff_eq,decide_eq_true_eq,← hm]
      omega
    rw[this]
theorem encStr_bytes (s:ByteArray):encStr s.data.toList=.string s:=by
  cases s; simp[encStr]
def names (l:List ByteArray):List (List UInt8):=l.map fun s=>s.data.toList
theorem fro_inv {Z:Nat→Prop} {μ:Mu} {hp:Array Obj} {es:List (List V)} {x:Value} (h:VRel Z μ hp (.fro es) x) :
    (es=[]∧∃ a cap,x=.slice a 0 cap∧(a=none→cap=0))∨(∃ b off esz cap,∃ c:Nat→Nat→Value,x=.slice (some ⟨b,off,none⟩) es.length cap∧Z b∧es.length≤cap ∧
      (∀ i,i < es.length→(es.getD i []).length=esz)∧(∀ i j,i < es.length→j < esz→cellAt hp b (off+i * esz+j)=some (c i j)) ∧
      (∀ i j,i < es.length→j < esz→VRel Z μ hp ((es.getD i []).getD j .any) (c i j))):=by
  cases h with
  | fro0 a cap hz=>exact .inl ⟨rfl,a,cap,rfl,hz⟩
  | fro _ b off esz cap c h1 h2 h3 h4 h5=>exact .inr ⟨b,off,esz,cap,c,rfl,h1,h2,h3,h4,h5⟩
theorem pc_alone (l:List ByteArray) (hl:l.length≤1000):PCall Tryz.prog 110 [encS l] (gb (decide (names l).Nodup)):=by
  intro Z μ w xs hrel hzl
  obtain ⟨hlen,hx⟩:=hrel
  obtain ⟨x,rfl⟩:∃ x,xs=[x]:=by
    match xs,hlen with
    | [x],_=>exact ⟨x,rfl⟩
  have h0:VRel Z μ w.heap (encS l) x:=hx 0 (by simp)
  have hnl:(names l).length=l.length:=by simp[names]
  have fin:∀ e w',(e=Ending.returned (.bool (decide (names l).Nodup))∧RowKit.Below w.heap.size w w')→∃ x Z',e=.returned x∧(∀ ν,VRel Z' ν w'.heap (gb (decide (names l).Nodup)) x)∧Same w w'∧(∀ b,Z b→Z' b)∧(∀ b,Z' b→Z b∨(w.heap.size≤b∧b < w'.heap.size))∧OldBut w.heap w'.heap (fun _=>False):=by
    rintro e w' ⟨rfl,hb⟩
    exact ⟨_,Z,rfl,fun ν=>.val _ rfl,⟨hb.os,hb.tape,hb.output,hb.size⟩,fun _ h=>h,fun _ h=>.inl h,fun b hb' _=>hb.block b hb'⟩
  have box:∀ (v:Value),(w.alloc (.cells #[v] 23)).cell? ⟨w.heap.size,0,none⟩=some v:=fun v=>by
    have:=World.alloc_heap_new w (.cells #[v] 23)
    simp only[World.cell?,this]; rfl
  rcases fro_inv h0 with ⟨he,a,cap,rfl,_⟩ | ⟨b,off,esz,cap,c,rfl,hz,hle,hes,hc,hv⟩
  · have hl0:l=[]:=by simpa using he
    subst hl0
    refine (alone_calls a cap (names []) (by simp[names]) w (fun n Bs hn hB=>?_)).mono fin
    subst hB
    exact values_none n hn w.heap.size cap a _ (box _) (by simp)
  · have hel:∀ i,(hi:i < l.length)→(l.map fun s=>[gs s]).getD i []=[gs l[i]]:=fun i hi=>by simp[List.getD_eq_getElem?_getD,hi]
    have hcell:∀ i,(hi:i < l.length)→cellAt w.heap b (off+i)=some (.string l[i]):=fun i hi=>by
      have h1:=hes i (by simpa using hi)
      rw[hel i hi] at h1
      simp only[List.length_cons,List.length_nil] at h1
      subst h1
      have h2:=hc i 0 (by simpa using hi) (by omega)
      have h3:=hv i 0 (by simpa using hi) (by omega)
      rw[hel i hi] at h3
      simp only[List.getD_cons_zero] at h3
      generalize c i 0=y at h2 h3
      cases h3
      simpa using h2
    have hlen2:(l.map fun s=>[gs s]).length=(names l).length:=by simp[names]
    rw[hlen2]
    refine (alone_calls (some ⟨b,off,none⟩) cap (names l) (by rw[hnl]; exact hl) w (fun n Bs hn hB=>?_)).mono fin
    subst hB
    have hbl:=hzl b hz
    refine values_seq n hn w.heap.size b off cap (names l) (by rw[hnl]; omega) _ (box _) (by simp) (by simp; omega) (fun j hj=>?_)
    have hj':j < l.length:=by omega
    have e1:(w.alloc (.cells #[.slice (some ⟨b,off,none⟩) (names l).length cap] 23)).cell? ⟨b,off+j,none⟩=w.cell? ⟨b,off+j,none⟩:=by
      have:=Below.heap_alloc w (.cells #[.slice (some ⟨b,off,none⟩) (names l).length cap] 23) b hbl
      simp only[World.cell?,this]
    rw[e1,cell_eq,hcell j hj']
    have e2:(names l).getD j []=l[j].data.toList:=by simp[names,List.getD_eq_getElem?_getD,hj']
    rw[e2,encStr_bytes]
theorem ACall.fro0 {P:Program} {f:FuncId} {h:Heap} (h1:ACall P f [.emp 1] h (.emp 1) h) (h2:ACall P f [.emp 2] h (.emp 2) h) (h3:ACall P f [.nem] h (.emp 2) h):ACall P f [.fro []] h (.emp 0) h:=by
  refine ⟨Nat.le_refl _,fun Z μ F w xs hrel hr hfree=>?_⟩
  obtain ⟨hl,hv⟩:=hrel
  obtain ⟨x,rfl⟩:∃ x,xs=[x]:=by
    match xs,hl with
    | [x],_=>exact ⟨x,rfl⟩
  have h0:VRel Z μ w.heap (.fro []) x:=hv 0 (by simp)
  have one:∀ v,VRel Z μ w.heap v x→VRels Z μ w.heap [v] [x]:=fun v h=>⟨rfl,fun i hi=>by
    simp at hi; subst hi; exact h⟩
  have weak:∀ k,ACall P f [if k=3 then .nem else .emp k] h (if k=3 then .emp 2 else .emp k) h→VRel Z μ w.heap (if k=3 then .nem else .emp k) x→Calls P f [x].toArray w fun e w'=>∃ x Z' μ',e=.returned x∧VRel Z' μ' w'.heap (.emp 0) x∧HRel Z' μ' w'.heap (cat h F)∧Ext Z μ w h.length Z' μ' w'∧(∀ id,id < h.length∨h.length≤id→μ' id=μ id):=by
    intro k hk hx
    refine (hk.2 Z μ F w [x] (one _ hx) hr hfree).mono ?_
    rintro e w' ⟨y,Z',μ',rfl,hy,rest⟩
    refine ⟨y,Z',μ',rfl,?_,rest⟩
    have:∀ k',VRel Z' μ' w'.heap (.emp k') y→VRel Z' μ' w'.heap (.emp 0) y:=fun k' h=>by
      cases h with | emp _ a _ _=>exact .emp 0 a (by simp) (by simp)
    split at hy <;> exact this _ hy
  rcases fro_inv h0 with ⟨_,a,cap,rfl,hz⟩ | ⟨b,off,esz,cap,c,rfl,_,_,_⟩
  · cases a with
    | none =>
      have:=hz rfl
      subst this
      exact weak 1 (by simpa using h1) (.emp 1 none (by simp) (by simp))
    | some a =>
      cases cap with
      | zero=>exact weak 2 (by simpa using h2) (.emp 2 (some a) (by simp) (by simp))
      | succ c=>exact weak 3 (by simpa using h3) (.nem a (c+1))
  · cases cap with
    | zero=>exact weak 2 (by simpa using h2) (.emp 2 (some ⟨b,off,none⟩) (by simp) (by simp))
    | succ c=>exact weak 3 (by simpa using h3) (.nem ⟨b,off,none⟩ (c+1))
def CopyOf (sz:Nat) (es:List (List V)) (H:View) (K:V→View→Prop):Prop :=
  (es=[]→∀ k,K (.emp k) H)∧(es≠[]→∀ n,H n=.dead→K (.sl n 0 es.length sz) (H.set n (.arr sz es)))
def S_slices_Clone___string_string_:SF:=⟨.seq (ab [((some 2),.op (.mov (.val (.emp 1))))]) <|
  .seq (.seq (ab [aa 3 0,((some 4),.op (.nil true 0 (.tmp 3) (.val (.emp 1))))]) <|
  .cond (.tmp 4) (.seq (ab [((some 2),.op (.mov (.val (.emp 1))))]) <|
  .ret) (.skip)) <|
  .seq (ab [((some 5),.op (.mov (.val (.emp 2)))),aa 6 0,((some 7),.op (.app 1 16 (.tmp 5) (.tmp 6))),aa 2 7]) <|
  .ret,
  [.tmp 2],8⟩
theorem S_slices_Clone___string_string__ok:compF Tryz.prog 107 []=some S_slices_Clone___string_string_:=by kernel_rfl
theorem PCall.tree {P:Program} {f:FuncId} {vs:List V} {t:V} (hv:∀ v∈vs,Tree v) (ht:Tree t) (h:∀ H,MCall P f vs H fun r _=>r=t):PCall P f vs t :=
  PCall.of hv ((h _).mono fun r H' e h' _=>by rw[e]; exact .tree _ ht)
theorem elemsOf_nem {H:View} : elemsOf H .nem=some ([],[]):=id rfl
theorem goApp_none {H:View} (sz bytes k:Nat) (K:V→View→Prop) (w:Veil (H,K)):GoApp sz bytes (.emp k) [] H K w=K (.emp k) H:=propext Iff.rfl
theorem mc_CloneS (l:List ByteArray) (hl:l.length≤100000) (H:View) (K:V→View→Prop) (hk:CopyOf 1 (l.map fun s=>[gs s]) H K):MCall Tryz.prog 107 [encS l] H K:=by
  cases l with
  | nil =>
    have hp:∀ v t,Tree v→Tree t→(∀ H,MCall Tryz.prog 107 [v] H fun r _=>r=t)→PCall Tryz.prog 107 [v] t:=fun v t hv ht h=>PCall.tree (by intro x hx; simp at hx; subst hx; exact hv) ht h
    have h1:=hp (.emp 1) (.emp 1) (.emp 1) (.emp 1) (fun H=>by
      refine MCall.of mixed S_slices_Clone___string_string__ok ?_
      simp (disch:=omega) only [↓wr,↓reduceIte,wq,oneV,nilB,isNil,Nat.reduceLeDiff,reduceCtorEq,S_slices_Clone___string_string_])
    have h2:=hp (.emp 2) (.emp 2) (.emp 2) (.emp 2) (fun H=>by
      refine MCall.of mixed S_slices_Clone___string_string__ok ?_
      simp (disch:=omega) only [↓wr,↓reduceIte,wq,oneV,nilB,isNil,Nat.reduceEqDiff,Nat.reduceLeDiff,reduceCtorEq,S_slices_Clone___string_string_,goApp_none])
    have h3:=hp .nem (.emp 2) .nem (.emp 2) (fun H=>by
      refine MCall.of mixed S_slices_Clone___string_string__ok ?_
      simp (disch:=omega) only [↓wr,↓reduceIte,wq,oneV,nilB,isNil,Nat.reduceEqDiff,Nat.reduceLeDiff,reduceCtorEq,S_slices_Clone___string_string_,elemsOf_nem,goApp_none])
    refine ⟨by kernel_rfl,?_⟩
    rintro h rfl
    exact ⟨.emp 0,h,ACall.fro0 (ACall.of_pure h1 h) (ACall.of_pure h2 h) (ACall.of_pure h3 h),.refl _,hk.1 rfl 0⟩
  | cons x r =>
    refine MCall.of mixed S_slices_Clone___string_string__ok ?_
    simp only[List.length_cons] at hl
    simp (disch:=omega) only [↓wr,↓reduceIte,wq,oneV,nilB,isNil,Nat.reduceEqDiff,Nat.reduceLeDiff,reduceCtorEq,S_slices_Clone___string_string_,encS]
    refine ⟨?_,?_,?_⟩
    · simp[List.all_map,cellOk]
    · unfold limit; simp; omega
    · intro n hn
      have:=hk.2 (by simp) n hn
      simp (disch:=omega) only [↓wr,↓reduceIte,wq,reduceCtorEq]
      simpa [encT] using this
theorem CopyOf.own {sz:Nat} {es:List (List V)} {H:View} : CopyOf sz es H fun r H'=>OwnA H' r sz es∧Fresh H H' r :=
  ⟨fun he k=>⟨by rw[he]; exact .nil,.emp⟩,fun _ n hn=>⟨.new,.new hn⟩⟩
theorem mo_CloneS (l:List ByteArray) (hl:l.length≤100000) (H:View):MCall Tryz.prog 107 [encS l] H fun r H'=>OwnA H' r 1 (l.map fun s=>[gs s])∧Fresh H H' r:=mc_CloneS l hl H _ .own
end Gv
