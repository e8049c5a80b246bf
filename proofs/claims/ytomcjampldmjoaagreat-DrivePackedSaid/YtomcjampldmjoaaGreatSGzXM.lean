/-
  Part 13 of the proof: what the machine does and what the functions answer.
  Conditions: those that each lemma names.
-/
import Derived.Test.YtomcjampldmjoaaGreatSGzXL
set_option linter.unusedSimpArgs false
set_option linter.unusedVariables false
set_option maxRecDepth 100000
namespace Gv
open Go Go.Proofs
def cT (H:View) (u:V) (l:List Int):Prop:=∃ (id off:Nat) (es:List (List V)),u=.sl id off l.length 1∧H id=.arr 1 es∧off+l.length≤es.length∧(es.drop off).take l.length=bb l
theorem cT.len {H:View} {u:V} {l:List Int} (h:cT H u l):dh u=some l.length:=by
  obtain ⟨id,off,es,rfl,_⟩:=h; rfl
theorem cT.keep {H H':View} {u:V} {l:List Int} (h:cT H u l) (hk:∀ id es,H id=.arr 1 es→H' id=H id):cT H' u l:=by
  obtain ⟨id,off,es,h1,h2,h3,h4⟩:=h
  exact ⟨id,off,es,h1,by rw[hk id es h2]; exact h2,h3,h4⟩
theorem cT.fresh {H:View} {u:V} {l:List Int} (h:cT H u l) {n:Nat} {o:bM} (hn:H n=.dead):cT (H.set n o) u l :=
  h.keep fun id es hid=>by
    have:id≠n:=by rintro rfl; rw[hn] at hid; simp at hid
    simp[View.set,this]
theorem cT.own {H:View} {u:V} {l:List Int} (h:bj H u 1 (bb l)) (hl:l≠[]):cT H u l:=by
  rcases h with ⟨e,_⟩ | ⟨n,rfl,hn⟩
  · rw[List.map_eq_nil_iff] at e; exact absurd e hl
  · exact ⟨n,0,_,by simp,hn,by simp,by rw[List.drop_zero,List.take_of_length_le (by simp)]⟩
theorem cT.at {H:View} {u:V} {x:Int} {l:List Int} (h:cT H u (x :: l)):∃ (id off:Nat) (es:List (List V)),u=.sl id off (l.length+1) 1∧H id=.arr 1 es∧off < es.length∧es.getD off []=[gi x]∧off+(l.length+1)≤es.length:=by
  obtain ⟨id,off,es,h1,h2,h3,h4⟩:=h
  simp only[List.length_cons] at h1 h3 h4
  refine ⟨id,off,es,h1,h2,by omega,?_,h3⟩
  have h5:=congrArg (fun z=>z[0]?) h4
  simp at h5
  have:es[off]?=some (es[off]'(by omega)):=List.getElem?_eq_getElem (by omega)
  rw[this] at h5
  simp at h5
  rw[List.getD_eq_getElem?_getD,this,h5]; rfl
theorem cT.next {H:View} {id off k:Nat} {x:Int} {l:List Int} (h:cT H (.sl id off k 1) (x :: l)):cT H (.sl id (off+1) (k - 1) 1) l:=by
  obtain ⟨id',off',es,h1,h2,h3,h4⟩:=h
  simp only[V.sl.injEq,and_true] at h1
  obtain ⟨rfl,rfl,rfl⟩:=h1
  simp only[List.length_cons] at h3 h4 ⊢
  refine ⟨id,off+1,es,by simp,h2,by omega,?_⟩
  have h5:=congrArg (List.drop 1) h4
  rw[List.drop_take,List.drop_drop] at h5
  simpa using h5
theorem p9 {bytes:Nat} {u:V} {l xs:List Int} {H:View} {K:V→View→Prop} {w:ct (H,K)} (ho:cT H u l) (hx:xs≠[])
    (hl:(l.length+xs.length) * bytes < aP) (hl2:l.length+xs.length < aP) (hk:∀ u' H',bj H' u' 1 (bb (l ++ xs))→Left H H' u u'→K u' H'):lP 1 bytes u (bb xs) H K w:=by
  have he:(bb xs).isEmpty=false:=by cases xs with | nil=>exact absurd rfl hx | cons=>rfl
  obtain ⟨id,off,es,rfl,h2,h3,h4⟩:=ho
  rw[qM _ _ _ _ _ _ _ _ _ _ he,h2]
  refine ⟨by simp[List.all_map,aU],⟨h3,rfl,by simpa using hl,by simpa using hl2⟩,fun m hm=>hk _ _ ?_ ?_⟩
  · refine .inr ⟨m,by simp,?_⟩
    rw[h4]; simp[View.set]
  · intro id' hid ho
    have e:id'≠m:=by rintro rfl; exact hid hm
    have e2:id'≠id:=by rintro rfl; exact ho rfl
    exact ⟨by simp[View.set,e,e2],by simp[owner,Ne.symm e]⟩
def I8 (H:View) (w:Option Way) (v:Option V):Prop:=match w with
  | none=>v=none
  | some w=>(w.bQ = -1∧v=some (.val (.pointer none)))∨(0≤w.bQ∧∃ p,v=some (.ptr p 0 0)∧H p=.arr 2 [[gi w.bQ,gi w.place]])
def im (H:View) (F:List Way) (m:dt Int):Prop:=∀ n,I8 H (lookW F n) (getM m n)
theorem I8.keep {H H':View} {w:Option Way} {v:Option V} (h:I8 H w v) (hk:∀ id es,H id=.arr 2 es→H' id=H id):I8 H' w v:=by
  cases w with
  | none=>exact h
  | some w =>
    rcases h with h | ⟨h1,p,h2,h3⟩
    · exact .inl h
    · exact .inr ⟨h1,p,h2,by rw[hk p _ h3]; exact h3⟩
theorem im.keep {H H':View} {F:List Way} {m:dt Int} (h:im H F m) (hk:∀ id es,H id=.arr 2 es→H' id=H id):im H' F m:=fun n=>(h n).keep hk
theorem im.fresh {H:View} {F:List Way} {m:dt Int} (h:im H F m) {n:Nat} {o:bM} (hn:H n=.dead):im (H.set n o) F m :=
  h.keep fun id es hid=>by
    have:id≠n:=by rintro rfl; rw[hn] at hid; simp at hid
    simp[View.set,this]
theorem I6 {H:View} {u:V} {l:List Int} (h:cT H u l) {id:Nat} (hid:owner u=some id):∃ es,H id=.arr 1 es:=by
  obtain ⟨i,off,es,rfl,h2,_⟩:=h
  simp[owner] at hid; subst hid
  exact ⟨es,h2⟩
theorem im.left {H H':View} {F:List Way} {m:dt Int} (h:im H F m) {u u':V} {l:List Int} (ht:cT H u l) (hl:Left H H' u u'):im H' F m :=
  h.keep fun id es hid=>(hl id (by rw[hid]; simp) (fun e=>by obtain ⟨es',h2⟩:=I6 ht e; rw[hid] at h2; simp at h2)).1
theorem im.put {H:View} {F:List Way} {m:dt Int} (h:im H F m) {p c k j:Nat} {n:Int} (hn:n ∉ j6 F) (hp:H p=.arr 2 [[gi k,gi j]]):im H (F ++ [⟨n,k,j⟩]) (dd n (.ptr p 0 0) c m):=by
  intro n'
  rw[Lg,Ep]
  by_cases e:n=n'
  · subst e
    rw[CS hn]
    simp only[if_true,beq_self_eq_true]
    exact .inr ⟨by simp only; omega,p,rfl,hp⟩
  · have e2:(n' == n)=false:=by simpa using Ne.symm e
    rw[e2]
    have h1:=h n'
    cases hl:lookW F n' with
    | some w=>rw[hl] at h1; simpa using h1
    | none =>
      rw[hl] at h1
      simp only
      rw[if_neg e]
      simpa using h1
theorem im.has {H:View} {F:List Way} {m:dt Int} (h:im H F m) (n:Int):(getM m n).isSome=decide (n∈j6 F):=by
  have h1:=h n
  by_cases e:n∈j6 F
  · obtain ⟨x,hx,_⟩:=OB e
    rw[hx] at h1
    rcases h1 with ⟨_,h1⟩ | ⟨_,p,h1,_⟩ <;> rw[h1] <;> simp[e]
  · rw[CS e] at h1
    have h2:getM m n=none:=h1
    rw[h2]; simp[e]
def kd (x:List Int × Int × Int):V:=.bf [encI x.1,gi x.2.1,gi x.2.2]
theorem C9 (x:List Int × Int × Int):Tree (kd x):=.bf _ fun i hi=>by
  match i,hi with
  | 0,_=>exact c6 _
  | 1,_=>exact .val _
  | 2,_=>exact .val _
theorem iT {h:aH} {u:V} {x:List Int × Int × Int} (hu:cK h u (encI x.1)):cK h (.bf [u,gi x.2.1,gi x.2.2]) (kd x):=.bf _ _ rfl fun i hi=>by
  match i,hi with
  | 0,_=>exact hu
  | 1,_=>exact .val _
  | 2,_=>exact .val _
theorem cT.all {H:View} {u:V} {l:List Int} (h:cT H u l):∃ (id off:Nat) (es:List (List V)),u=.sl id off l.length 1∧H id=.arr 1 es∧off+l.length≤es.length∧∀ j,j < l.length→es.getD (off+j) []=[gi (l.getD j 0)]:=by
  obtain ⟨id,off,es,h1,h2,h3,h4⟩:=h
  refine ⟨id,off,es,h1,h2,h3,fun j hj=>?_⟩
  have h5:=congrArg (fun z=>z[j]?) h4
  simp only[List.getElem?_take,hj,if_true,List.getElem?_drop,List.getElem?_map,List.getElem?_eq_getElem hj,Option.map_some] at h5
  rw[List.getD_eq_getElem?_getD,h5,List.getD_eq_getElem?_getD,List.getElem?_eq_getElem hj]; rfl
theorem cT.take {H:View} {id off k:Nat} {l:List Int} (h:cT H (.sl id off k 1) l) {m:Nat} (hm:m≤l.length):cT H (.sl id off m 1) (l.take m):=by
  obtain ⟨id',off',es,h1,h2,h3,h4⟩:=h
  simp only[V.sl.injEq,and_true] at h1
  obtain ⟨rfl,rfl,rfl⟩:=h1
  refine ⟨id,off,es,by simp; omega,h2,by simp; omega,?_⟩
  have h5:=congrArg (List.take m) h4
  rw[List.take_take,show min m l.length=m by omega] at h5
  rw[show (l.take m).length=m by simp; omega,h5]
  exact List.map_take.symm
theorem sB {id off k m:Nat} (hm:m≤k):gG 1 (.sl id off k 1) none (some (gi m))=some (.sl id off m 1,.none,[]):=by
  simp[gG,bound,asNat,hm]
theorem mY (g:ay) (t:dJ) (w:List Int) (k:Nat) (st rs:List Int) (at_:Nat):fW g t w k st rs at_=(
    if (cB t (bH st) (bG g w at_)).kind=3∧at_=w.length then (rs,(at_:Int),(0:Int))
    else if (cB t (bH st) (bG g w at_)).kind=0∨(cB t (bH st) (bG g w at_)).kind=3∨(cB t (bH st) (bG g w at_)).kind=1∧at_=w.length then ([],(at_:Int),3)
    else match k with
      | 0=>([],(at_:Int),14)
      | k+1 =>
        if (cB t (bH st) (bG g w at_)).kind=1 then fW g t w k (st ++ [(cB t (bH st) (bG g w at_)).n]) rs (at_+1)
        else if st.length≤(bZ g (cB t (bH st) (bG g w at_)).n).right.length then ([],(at_:Int),3)
        else if gu t (bH (st.take (st.length - (bZ g (cB t (bH st) (bG g w at_)).n).right.length))) (bZ g (cB t (bH st) (bG g w at_)).n).left = -1 then ([],(at_:Int),3)
        else fW g t w k (st.take (st.length - (bZ g (cB t (bH st) (bG g w at_)).n).right.length) ++ [gu t (bH (st.take (st.length - (bZ g (cB t (bH st) (bG g w at_)).n).right.length))) (bZ g (cB t (bH st) (bG g w at_)).n).left])
          (rs ++ [(cB t (bH st) (bG g w at_)).n]) at_):=by
  cases k <;> (conv=>lhs; unfold fW) <;> rfl
theorem Ma {es:List (List V)} {off:Nat} {st:List Int} (h:∀ j,j < st.length→es.getD (off+j) []=[gi (st.getD j 0)]) (hs:0 < st.length):es.getD (off+((st.length:Int) - 1).toNat) []=[gi (bH st)]:=by
  have:=h (st.length - 1) (by omega)
  rw[show ((st.length:Int) - 1).toNat=st.length - 1 by omega,this,bH]
theorem DS {g:ay} {w:List Int} (hw:∀ x∈w,0≤x∧x < (g.av.length:Int)) (i:Nat):0≤bG g w i∧bG g w i≤g.av.length:=by
  unfold bG
  split
  · rename_i h
    have:=hw _ (List.mem_of_getElem? (getD_some (d:=0) h))
    omega
  · omega
theorem iP (g:ay) (t:dJ) (w:List Int):gU g t w=if (fQ g w && fh g t)=true then fW g t w 2000 [0] [] 0 else ([],0,1):=by
  unfold gU fQ yk
  rfl
theorem Ez (g:ay) (t:dJ) (w:List Int):∀ v∈[V.agg (ax g),.agg (aW t),encI w],Tree v:=by
  intro v hv; simp at hv
  rcases hv with rfl | rfl | rfl
  · exact b9 _ (cP g)
  · exact b9 _ (nE t)
  · exact c6 w
theorem EJ {g:ay} {w:List Int} (h:fQ g w=true):w.length≤60∧∀ x∈w,0≤x∧x < (g.av.length:Int):=by
  unfold fQ yk at h
  simp only[Bool.and_eq_true,decide_eq_true_eq,List.all_eq_true] at h
  exact ⟨h.1.2,h.2⟩
theorem oG {g:ay} {n:Nat} {c:Cell} (h:j8 g n c=true):(c.kind=0∨c.kind=3)∨(c.kind=1∧0≤c.n∧c.n < n)∨(c.kind=2∧0≤c.n∧c.n < g.rules.length):=by
  unfold j8 at h
  split at h
  · rename_i e; exact .inl e
  · split at h
    · rename_i e; simp at h; exact .inr (.inl ⟨e,h⟩)
    · split at h
      · rename_i e; simp at h; exact .inr (.inr ⟨e,h⟩)
      · simp at h
def kD:SC :=
  .seq (.block 1 (.seq (aq [ao 31 0 3,an 32 31,aA 33 32,aa 13 33]) <|
  .seq (.seq (aq [aa 34 11,aa 35 2,aA 36 35,aC 37 .lss 34 36]) <|
  .cond (.tmp 37) (aq [aa 38 2,aa 39 11,aD 40 1 38 39,an 41 40,aa 13 41]) (.skip)) <|
  .seq (aq [aa 42 9,aa 43 9,aA 44 43,au 45 .sub 44 1,aD 46 1 42 45,an 47 46,aa 14 47]) <|
  .seq (aq [ao 48 0 4,an 49 48,aa 50 14,aD 51 1 49 50,an 52 51,aa 53 13,aD 54 2 52 53,aF 55 2 54,((some 15),.op (.alloc [(.val (.int .i64 0)),(.val (.int .i64 0))])),(none,.op (.store 2 (.tmp 15) (.tmp 55)))]) <|
  .seq (.seq (.region false [⟨none,[ao 56 0 15,an 57 56,au 58 .eql 57 3,aa 59 58]⟩,⟨(some (59,true)),[aa 60 11,aa 61 2,aA 62 61,aC 63 .eql 60 62]⟩,⟨none,[bq 64 59 63]⟩]) <|
  .cond (.tmp 64) (.seq (aq [aa 65 10,aa 66 11,aa 6 65,aa 7 66,az 8 0]) <|
  .ret) (.skip)) <|
  .seq (.seq (.region false [⟨none,[ao 67 0 15,an 68 67,au 69 .eql 68 0,aa 70 69]⟩,⟨(some (70,false)),[ao 71 0 15,an 72 71,au 73 .eql 72 3]⟩,⟨none,[aS 74 70 73,aa 75 74]⟩,⟨(some (75,false)),[ao 76 0 15,an 77 76,au 78 .eql 77 1,aa 79 78]⟩,⟨(some (79,true)),[aa 80 11,aa 81 2,aA 82 81,aC 83 .eql 80 82]⟩,⟨(some (75,false)),[bq 84 79 83]⟩,⟨none,[aS 85 75 84]⟩]) <|
  .cond (.tmp 85) (.seq (aq [aa 86 11,((some 6),.op (.aX (.val (.emp 1)))),aa 7 86,az 8 3]) <|
  .ret) (.skip)) <|
  .seq (.seq (aq [aa 87 12,au 88 .eql 87 2000]) <|
  .cond (.tmp 88) (.seq (aq [aa 89 11,((some 6),.op (.aX (.val (.emp 1)))),aa 7 89,az 8 14]) <|
  .ret) (.skip)) <|
  .seq (.seq (aq [ao 90 0 15,an 91 90,au 92 .eql 91 1]) <|
  .cond (.tmp 92) (.seq (aq [aa 93 9,ao 94 1 15,an 95 94,((some 96),.op (.aT 1 1 [(.val (.int .i64 0))] [(0,(.tmp 95))])),((some 97),.op (.app 1 8 (.tmp 93) (.tmp 96))),aa 9 97]) <|
  .seq (aq [aa 98 11,au 99 .add 98 1,aa 11 99]) <|
  .exit 1) (.skip)) <|
  .seq (aq [ao 100 2 3,an 101 100,ao 102 1 15,an 103 102,aD 104 3 101 103,aF 105 3 104,((some 16),.op (.alloc [(.val (.int .i64 0)),(.emp 1),(.val (.int .i64 0))])),(none,.op (.store 3 (.tmp 16) (.tmp 105)))]) <|
  .seq (.seq (aq [ao 106 1 16,an 107 106,aA 108 107,aa 109 9,aA 110 109,aC 111 .geq 108 110]) <|
  .cond (.tmp 111) (.seq (aq [aa 112 11,((some 6),.op (.aX (.val (.emp 1)))),aa 7 112,az 8 3]) <|
  .ret) (.skip)) <|
  .seq (aq [aa 113 9,aa 114 9,aA 115 114,ao 116 1 16,an 117 116,aA 118 117,aC 119 .sub 115 118,((some 120),.op (.slice 1 (.tmp 113) none (some (.tmp 119)))),aa 9 120]) <|
  .seq (aq [ao 121 1 4,an 122 121,aa 123 9,aa 124 9,aA 125 124,au 126 .sub 125 1,aD 127 1 123 126,an 128 127,aD 129 1 122 128,an 130 129,ao 131 0 16,an 132 131,aD 133 1 130 132,an 134 133,aa 17 134]) <|
  .seq (.seq (aq [aa 135 17,au 136 .eql 135 (-1)]) <|
  .cond (.tmp 136) (.seq (aq [aa 137 11,((some 6),.op (.aX (.val (.emp 1)))),aa 7 137,az 8 3]) <|
  .ret) (.skip)) <|
  .seq (aq [aa 138 9,aa 139 17,((some 140),.op (.aT 1 1 [(.val (.int .i64 0))] [(0,(.tmp 139))])),((some 141),.op (.app 1 8 (.tmp 138) (.tmp 140))),aa 9 141]) <|
  aq [aa 142 10,ao 143 1 15,an 144 143,((some 145),.op (.aT 1 1 [(.val (.int .i64 0))] [(0,(.tmp 144))])),((some 146),.op (.app 1 8 (.tmp 142) (.tmp 145))),aa 10 146])) <|
  aq [aa 29 12,au 30 .add 29 1,aa 12 30]
def mM:SF:=⟨.seq (aq [bz 3 0,bz 4 1,((some 6),.op (.aX (.val (.emp 1)))),az 7 0,az 8 0]) <|
  .seq (.seq (.region false [⟨none,[aF 18 4 3,aa 19 2,aJ 20 19 [18,19],bC 21 20,aa 22 21]⟩,⟨(some (22,false)),[aF 23 4 3,aF 24 2 4,aJ 25 44 [23,24],bC 26 25]⟩,⟨none,[aS 27 22 26]⟩]) <|
  .cond (.tmp 27) (.seq (aq [((some 6),.op (.aX (.val (.emp 1)))),az 7 0,az 8 1]) <|
  .ret) (.skip)) <|
  .seq (aq [((some 28),.op (.aT 1 1 [(.val (.int .i64 0))] [(0,(.val (.val (.int .i64 0))))])),aa 9 28]) <|
  .seq (aq [((some 10),.op (.aX (.val (.emp 1))))]) <|
  .seq (aq [az 11 0]) <|
  .seq (aq [az 12 0]) <|
  .block 0 (.loop kD),
  [.tmp 6,.tmp 7,.tmp 8],147⟩
theorem th:ba Tryz.prog 16 [3,4]=some mM:=by kernel_rfl
set_option maxHeartbeats 8000000 in
theorem Jr (g:ay) (hg:g.Ok) (t:dJ) (ht:t.Ok) (w:List Int) (hw:aR w) (hn:∀ x∈w,bJ x):bY Tryz.prog 16 [.agg (ax g),.agg (aW t),encI w] (kd (gU g t w)):=by
  refine bY.of (Ez g t w) ?_
  have hc1:=La g hg w hw hn
  have hc2:=Ji g hg t ht
  refine aG.of mixed th ?_
  simp only[ax,encS,aW,encI] at hc1 hc2
  rw[iP]
  simp (disch:=omega) only [↓wr,↓reduceIte,wq,ah,ag,ak,ab,ae,af,ai,isNil,Nat.reduceEqDiff,Nat.reduceAdd,Nat.reduceLT,Nat.reduceLeDiff,Int.reduceNeg,Int.reduceToNat,reduceCtorEq,mM,ax,encS,aW,encI]
  refine aN.pure hc1 (by kernel_rfl) ?_
  simp (disch:=omega) only [↓wr,↓reduceIte,wq,ah,ag,ak,ab,ae,af,ai,isNil,Nat.reduceEqDiff,Nat.reduceAdd,Nat.reduceLT,Nat.reduceLeDiff,Int.reduceNeg,Int.reduceToNat,reduceCtorEq]
  refine ar.split (fun hwb=>?_) (fun hwb=>?_)
  rotate_left
  · simp (disch:=omega) only [↓wr,↓reduceIte,wq,ah,ag,ak,ab,ae,af,ai,isNil,Nat.reduceEqDiff,Nat.reduceAdd,Nat.reduceLT,Nat.reduceLeDiff,Int.reduceNeg,Int.reduceToNat,reduceCtorEq]
    intro h' _
    rw[hwb]
    exact iT (x:=([],0,1)) (.emp _)
  simp (disch:=omega) only [↓wr,↓reduceIte,wq,ah,ag,ak,ab,ae,af,ai,isNil,Nat.reduceEqDiff,Nat.reduceAdd,Nat.reduceLT,Nat.reduceLeDiff,Int.reduceNeg,Int.reduceToNat,reduceCtorEq,ax,encS,aW]
  refine aN.pure hc2 (by kernel_rfl) ?_
  simp (disch:=omega) only [↓wr,↓reduceIte,wq,ah,ag,ak,ab,ae,af,ai,isNil,Nat.reduceEqDiff,Nat.reduceAdd,Nat.reduceLT,Nat.reduceLeDiff,Int.reduceNeg,Int.reduceToNat,reduceCtorEq]
  refine ar.split (fun hrt=>?_) (fun hrt=>?_)
  rotate_left
  · simp (disch:=omega) only [↓wr,↓reduceIte,wq,ah,ag,ak,ab,ae,af,ai,isNil,Nat.reduceEqDiff,Nat.reduceAdd,Nat.reduceLT,Nat.reduceLeDiff,Int.reduceNeg,Int.reduceToNat,reduceCtorEq]
    intro h' _
    rw[hwb,hrt]
    exact iT (x:=([],0,1)) (.emp _)
  have htf:=tq hrt
  have hf:=bI htf.right
  obtain ⟨hw60,hwin⟩:=EJ hwb
  rw[hwb,hrt]
  simp only[Bool.and_self,if_true]
  generalize hX:fW g t w 2000 [0] [] 0=X
  simp (disch:=omega) only [↓wr,↓reduceIte,wq,ah,ag,ak,ab,ae,af,ai,isNil,Nat.reduceEqDiff,Nat.reduceAdd,Nat.reduceLT,Nat.reduceLeDiff,Int.reduceNeg,Int.reduceToNat,reduceCtorEq]
  intro m
  refine bp.up 2001 (fun i T H'=>∃ (us ur:V) (st rs:List Int) (at_:Nat),i≤2000∧fW g t w (2000 - i) st rs at_=X∧zN t st∧cT H' us st∧bj H' ur 1 (bb rs)∧(∀ id,owner us=some id→owner ur≠some id)∧at_≤w.length∧st.length≤i+1∧rs.length≤i ∧
    T 2=encI w∧T 3=.aQ (ax g) 0∧T 4=.aQ (aW t) 0∧T 9=us∧T 10=ur∧T 11=gi at_∧T 12=gi i) ?_ ?_
  · refine ⟨.sl m 0 1 1,.emp 1,[0],[],0,by omega,hX,⟨by simp,by have:=htf.n1; intro x hx; simp at hx; subst hx; omega⟩,?_,.nil,by simp[owner],by omega,by simp,by simp,rfl,rfl,rfl,rfl,rfl,rfl,rfl⟩
    exact cT.own (.inr ⟨m,rfl,by simp[View.set]⟩) (by simp)
  rintro i k T H' hk ⟨us,ur,st,rs,at_,hi,hrun,hst,hus,hur,hdis,hat,hsl,hrl,t2,t3,t4,t9,t10,t11,t12⟩
  obtain ⟨a1,a2⟩:=DS hwin at_
  obtain ⟨sid,soff,ses,hu1,hu2,hu3,hu4⟩:=hus.all
  have hst1:=List.length_pos_iff.2 hst.1
  have htop:=hst.2 _ (qW hst.1)
  have htope:=Ma hu4 hst1
  obtain ⟨hcf,hcg⟩:=htf.cell (s:=bH st) (x:=bG g w at_) htop ⟨a1,a2⟩
  rw[mY] at hrun
  have hrow:t.aK[(bH st).toNat]?=some (t.aK.getD (bH st).toNat []):=getD_some (by omega)
  have hrowl:=(htf.vU (i:=(bH st).toNat) (by omega)).1
  generalize hc:cB t (bH st) (bG g w at_)=c at hrun hcf hcg
  generalize t.aK.getD (bH st).toNat []=row at hrow hcg hrowl
  simp (disch:=omega) only [↓wr,↓reduceIte,wq,ah,ag,ak,ab,ae,af,ai,isNil,Nat.reduceEqDiff,Nat.reduceAdd,Nat.reduceLT,Nat.reduceLeDiff,Int.reduceNeg,Int.reduceToNat,reduceCtorEq,kD,t2,t3,t4,t9,t10,t11,t12,ax,encS,encI]
  refine ar.dec (fun hx=>?_) (fun hx=>?_)
  have hx1:w[at_]?=some (bG g w at_):=by
    unfold bG; rw[if_pos (by omega)]; exact getD_some (by omega)
  simp (disch:=omega) only [↓wr,↓reduceIte,wq,ah,ag,ak,ab,ae,af,ai,isNil,Nat.reduceEqDiff,Nat.reduceAdd,Nat.reduceLT,Nat.reduceLeDiff,Int.reduceNeg,Int.reduceToNat,reduceCtorEq,t2,t3,t4,t9,t10,t11,t12,aW,encI,List.getElem?_map,hx1,Option.map_some,hu1,hu2,htope,hrow,hcg,bo]
  rotate_left
  have hx1:bG g w at_=g.av.length:=by unfold bG; rw[if_neg (by omega)]
  rw[hx1,Int.toNat_natCast] at hcg
  simp (disch:=omega) only [↓wr,↓reduceIte,wq,ah,ag,ak,ab,ae,af,ai,isNil,Nat.reduceEqDiff,Nat.reduceAdd,Nat.reduceLT,Nat.reduceLeDiff,Int.reduceNeg,Int.reduceToNat,reduceCtorEq,t2,t3,t4,t9,t10,t11,t12,aW,encI,List.getElem?_map,Option.map_some,hu1,hu2,htope,hrow,hcg,bo]
  rotate_left
  all_goals (
    refine ⟨by omega,by omega,fun b hb=>?_⟩
    rw[set_set]
    have hbb:(H'.set b (.arr 2 [[gi c.kind,gi c.n]])) b=.arr 2 [[gi c.kind,gi c.n]]:=by simp[View.set]
    have hus5:=hus.fresh hb (o:=.arr 2 [[gi c.kind,gi c.n]])
    have hur5:=hur.fresh hb (o:=.arr 2 [[gi c.kind,gi c.n]])
    have hbs:¬ b=sid:=by rintro rfl; rw[hu2] at hb; simp at hb
    have hu25:(H'.set b (.arr 2 [[gi c.kind,gi c.n]])) sid=.arr 1 ses:=by simp[View.set,Ne.symm hbs,hu2]
    generalize H'.set b (.arr 2 [[gi c.kind,gi c.n]])=H5 at hbb hus5 hur5 hu25
    have eX:∀ (e:Int) (h':aH),X=([],(at_:Int),e)→cK h' (.bf [.emp 1,gi at_,gi e]) (kd X):=fun e h' hX=>by rw[hX]; exact iT (x:=([],(at_:Int),e)) (.emp _)
    refine ar.eq (fun k3=>?_) (fun k3=>?_)
    · simp (disch:=omega) only [↓wr,↓reduceIte,wq,ah,ag,ak,ab,ae,af,ai,isNil,Nat.reduceEqDiff,Nat.reduceAdd,Nat.reduceLT,Nat.reduceLeDiff,Int.reduceNeg,Int.reduceToNat,reduceCtorEq,t2,t3,t4,t9,t10,t11,t12,hbb,encI]
      refine ar.eq (fun ha=>?_) (fun ha=>?_)
      · simp (disch:=omega) only [↓wr,↓reduceIte,wq,ah,ag,ak,ab,ae,af,ai,isNil,Nat.reduceEqDiff,Nat.reduceAdd,Nat.reduceLT,Nat.reduceLeDiff,Int.reduceNeg,Int.reduceToNat,reduceCtorEq,t2,t3,t4,t9,t10,t11,t12,hbb]
        rintro h' rfl
        rw[if_pos ⟨k3,by omega⟩] at hrun
        rw[← hrun]
        exact iT (x:=(rs,(at_:Int),0)) (vl hur5)
      · rw[if_neg (by omega),if_pos (.inr (.inl k3))] at hrun
        simp (disch:=omega) only [↓wr,↓reduceIte,wq,ah,ag,ak,ab,ae,af,ai,isNil,Nat.reduceEqDiff,Nat.reduceAdd,Nat.reduceLT,Nat.reduceLeDiff,Int.reduceNeg,Int.reduceToNat,reduceCtorEq,t2,t3,t4,t9,t10,t11,t12,hbb]
        refine ar.eq (fun h=>by omega) (fun _=>?_)
        simp (disch:=omega) only [↓wr,↓reduceIte,wq,ah,ag,ak,ab,ae,af,ai,isNil,Nat.reduceEqDiff,Nat.reduceAdd,Nat.reduceLT,Nat.reduceLeDiff,Int.reduceNeg,Int.reduceToNat,reduceCtorEq,t2,t3,t4,t9,t10,t11,t12,hbb]
        refine ar.eq (fun _=>?_) (fun h=>absurd k3 h)
        simp (disch:=omega) only [↓wr,↓reduceIte,wq,ah,ag,ak,ab,ae,af,ai,isNil,Nat.reduceEqDiff,Nat.reduceAdd,Nat.reduceLT,Nat.reduceLeDiff,Int.reduceNeg,Int.reduceToNat,reduceCtorEq,t2,t3,t4,t9,t10,t11,t12,hbb]
        intro h' _
        exact eX 3 h' hrun.symm
    simp (disch:=omega) only [↓wr,↓reduceIte,wq,ah,ag,ak,ab,ae,af,ai,isNil,Nat.reduceEqDiff,Nat.reduceAdd,Nat.reduceLT,Nat.reduceLeDiff,Int.reduceNeg,Int.reduceToNat,reduceCtorEq,t2,t3,t4,t9,t10,t11,t12,hbb]
    refine ar.eq (fun k0=>?_) (fun k0=>?_)
    · rw[if_neg (by omega),if_pos (.inl k0)] at hrun
      simp (disch:=omega) only [↓wr,↓reduceIte,wq,ah,ag,ak,ab,ae,af,ai,isNil,Nat.reduceEqDiff,Nat.reduceAdd,Nat.reduceLT,Nat.reduceLeDiff,Int.reduceNeg,Int.reduceToNat,reduceCtorEq,t2,t3,t4,t9,t10,t11,t12,hbb]
      intro h' _
      exact eX 3 h' hrun.symm
    simp (disch:=omega) only [↓wr,↓reduceIte,wq,ah,ag,ak,ab,ae,af,ai,isNil,Nat.reduceEqDiff,Nat.reduceAdd,Nat.reduceLT,Nat.reduceLeDiff,Int.reduceNeg,Int.reduceToNat,reduceCtorEq,t2,t3,t4,t9,t10,t11,t12,hbb]
    refine ar.eq (fun h=>absurd h k3) (fun _=>?_)
    simp (disch:=omega) only [↓wr,↓reduceIte,wq,ah,ag,ak,ab,ae,af,ai,isNil,Nat.reduceEqDiff,Nat.reduceAdd,Nat.reduceLT,Nat.reduceLeDiff,Int.reduceNeg,Int.reduceToNat,reduceCtorEq,t2,t3,t4,t9,t10,t11,t12,hbb]
    refine ar.eq (fun k1=>?_) (fun k1=>?_)
    · simp (disch:=omega) only [↓wr,↓reduceIte,wq,ah,ag,ak,ab,ae,af,ai,isNil,Nat.reduceEqDiff,Nat.reduceAdd,Nat.reduceLT,Nat.reduceLeDiff,Int.reduceNeg,Int.reduceToNat,reduceCtorEq,t2,t3,t4,t9,t10,t11,t12,hbb,encI]
      refine ar.eq (fun ha=>?_) (fun ha=>?_)
      · rw[if_neg (by omega),if_pos (.inr (.inr ⟨k1,by omega⟩))] at hrun
        simp (disch:=omega) only [↓wr,↓reduceIte,wq,ah,ag,ak,ab,ae,af,ai,isNil,Nat.reduceEqDiff,Nat.reduceAdd,Nat.reduceLT,Nat.reduceLeDiff,Int.reduceNeg,Int.reduceToNat,reduceCtorEq,t2,t3,t4,t9,t10,t11,t12,hbb]
        intro h' _
        exact eX 3 h' hrun.symm
      rw[if_neg (by omega),if_neg (by omega)] at hrun
      simp (disch:=omega) only [↓wr,↓reduceIte,wq,ah,ag,ak,ab,ae,af,ai,isNil,Nat.reduceEqDiff,Nat.reduceAdd,Nat.reduceLT,Nat.reduceLeDiff,Int.reduceNeg,Int.reduceToNat,reduceCtorEq,t2,t3,t4,t9,t10,t11,t12,hbb]
      refine ar.eq (fun hn=>?_) (fun hn=>?_)
      · rw[show 2000 - i=0 by omega] at hrun
        simp (disch:=omega) only [↓wr,↓reduceIte,wq,ah,ag,ak,ab,ae,af,ai,isNil,Nat.reduceEqDiff,Nat.reduceAdd,Nat.reduceLT,Nat.reduceLeDiff,Int.reduceNeg,Int.reduceToNat,reduceCtorEq,t2,t3,t4,t9,t10,t11,t12,hbb]
        intro h' _
        exact eX 14 h' hrun.symm
      obtain ⟨k2,ek⟩:∃ k2,2000 - i=k2+1:=⟨2000 - i - 1,by omega⟩
      rw[ek] at hrun
      simp only[k1,if_true] at hrun
      simp (disch:=omega) only [↓wr,↓reduceIte,wq,ah,ag,ak,ab,ae,af,ai,isNil,Nat.reduceEqDiff,Nat.reduceAdd,Nat.reduceLT,Nat.reduceLeDiff,Int.reduceNeg,Int.reduceToNat,reduceCtorEq,t2,t3,t4,t9,t10,t11,t12,hbb]
      refine ar.eq (fun _=>?_) (fun h=>absurd k1 h)
      simp (disch:=omega) only [↓wr,↓reduceIte,wq,ah,ag,ak,ab,ae,af,ai,isNil,Nat.reduceEqDiff,Nat.reduceAdd,Nat.reduceLT,Nat.reduceLeDiff,Int.reduceNeg,Int.reduceToNat,reduceCtorEq,t2,t3,t4,t9,t10,t11,t12,hbb]
      have hcn:0≤c.n∧c.n < t.aK.length:=by rcases oG hcf with h | h | h <;> omega
      intro q hq
      simp (disch:=omega) only [↓wr,↓reduceIte,wq,ah,ag,ak,ab,ae,af,ai,isNil,Nat.reduceEqDiff,Nat.reduceAdd,Nat.reduceLT,Nat.reduceLeDiff,Int.reduceNeg,Int.reduceToNat,reduceCtorEq,t2,t3,t4,t9,t10,t11,t12,cn]
      refine p9 (xs:=[c.n]) (hus5.fresh hq (o:=.arr 1 [[gi c.n]])) (by simp) (by unfold aP; simp; omega) (by unfold aP; simp; omega) ?_
      intro us2 H6 o2 l2
      have hur6:=(hur5.fresh hq (o:=.arr 1 [[gi c.n]]))
      simp (disch:=omega) only [↓wr,↓reduceIte,wq,ah,ag,ak,ab,ae,af,ai,isNil,Nat.reduceEqDiff,Nat.reduceAdd,Nat.reduceLT,Nat.reduceLeDiff,Int.reduceNeg,Int.reduceToNat,reduceCtorEq,t2,t3,t4,t9,t10,t11,t12]
      refine br hk (by omega) ⟨us2,ur,st ++ [c.n],rs,at_+1,by omega,by rw[show 2000 - (i+1)=k2 by omega]; exact hrun,.app hst.2 hcn,cT.own o2 (by simp),hur6.left l2 (fun id h1 h2=>hdis id h2 h1),fun id h1 h2=>?_,by omega,by simp; omega,by omega,t2,t3,t4,rfl,t10,rfl,rfl⟩
      exact (l2 id (by rw[(hur6.live h2).1]; simp) (fun e=>hdis id e h2)).2 h1
    · have hcn:c.kind=2∧0≤c.n∧c.n < g.rules.length:=by rcases oG hcf with h | h | h <;> omega
      rw[if_neg (by omega),if_neg (by omega)] at hrun
      simp (disch:=omega) only [↓wr,↓reduceIte,wq,ah,ag,ak,ab,ae,af,ai,isNil,Nat.reduceEqDiff,Nat.reduceAdd,Nat.reduceLT,Nat.reduceLeDiff,Int.reduceNeg,Int.reduceToNat,reduceCtorEq,t2,t3,t4,t9,t10,t11,t12,hbb]
      refine ar.eq (fun hn=>?_) (fun hn=>?_)
      · rw[show 2000 - i=0 by omega] at hrun
        simp (disch:=omega) only [↓wr,↓reduceIte,wq,ah,ag,ak,ab,ae,af,ai,isNil,Nat.reduceEqDiff,Nat.reduceAdd,Nat.reduceLT,Nat.reduceLeDiff,Int.reduceNeg,Int.reduceToNat,reduceCtorEq,t2,t3,t4,t9,t10,t11,t12,hbb]
        intro h' _
        exact eX 14 h' hrun.symm
      obtain ⟨k2,ek⟩:∃ k2,2000 - i=k2+1:=⟨2000 - i - 1,by omega⟩
      rw[ek] at hrun
      simp only[if_neg k1] at hrun
      have hR:g.rules[c.n.toNat]?=some (bZ g c.n):=by unfold bZ; exact getD_some (by omega)
      have hmr:=List.mem_of_getElem? hR
      have hr6:=hf.right _ hmr
      have hlf:=hf.left _ hmr
      generalize bZ g c.n=R at hR hmr hr6 hlf hrun
      simp (disch:=omega) only [↓wr,↓reduceIte,wq,ah,ag,ak,ab,ae,af,ai,isNil,Nat.reduceEqDiff,Nat.reduceAdd,Nat.reduceLT,Nat.reduceLeDiff,Int.reduceNeg,Int.reduceToNat,reduceCtorEq,t2,t3,t4,t9,t10,t11,t12,hbb]
      refine ar.eq (fun h=>absurd h k1) (fun _=>?_)
      simp (disch:=omega) only [↓wr,↓reduceIte,wq,ah,ag,ak,ab,ae,af,ai,isNil,Nat.reduceEqDiff,Nat.reduceAdd,Nat.reduceLT,Nat.reduceLeDiff,Int.reduceNeg,Int.reduceToNat,reduceCtorEq,t2,t3,t4,t9,t10,t11,t12,hbb,ax,encS,List.getElem?_map,hR,Option.map_some,bD]
      intro b2 hb2
      rw[set_set]
      have hne2:¬ b2=b:=by rintro rfl; rw[hbb] at hb2; simp at hb2
      have hbb2:(H5.set b2 (.arr 3 [[gi R.left,encI R.right,gi R.prec]])) b2=.arr 3 [[gi R.left,encI R.right,gi R.prec]]:=by simp[View.set]
      have hbb5:(H5.set b2 (.arr 3 [[gi R.left,encI R.right,gi R.prec]])) b=.arr 2 [[gi c.kind,gi c.n]]:=by simp[View.set,Ne.symm hne2,hbb]
      have hus6:=hus5.fresh hb2 (o:=.arr 3 [[gi R.left,encI R.right,gi R.prec]])
      have hur6:=hur5.fresh hb2 (o:=.arr 3 [[gi R.left,encI R.right,gi R.prec]])
      have hbs2:¬ b2=sid:=by rintro rfl; rw[hu25] at hb2; simp at hb2
      have hu26:(H5.set b2 (.arr 3 [[gi R.left,encI R.right,gi R.prec]])) sid=.arr 1 ses:=by simp[View.set,Ne.symm hbs2,hu25]
      generalize H5.set b2 (.arr 3 [[gi R.left,encI R.right,gi R.prec]])=H6 at hbb2 hbb5 hus6 hur6 hu26
      try simp (disch:=omega) only [↓wr,↓reduceIte,wq,ah,ag,ak,ab,ae,af,ai,isNil,Nat.reduceEqDiff,Nat.reduceAdd,Nat.reduceLT,Nat.reduceLeDiff,Int.reduceNeg,Int.reduceToNat,reduceCtorEq,t2,t3,t4,t9,t10,t11,t12,hbb2,hu1,encI]
      refine ar.dec (fun hlen=>?_) (fun hlen=>?_)
      · rw[if_pos (by omega)] at hrun
        simp (disch:=omega) only [↓wr,↓reduceIte,wq,ah,ag,ak,ab,ae,af,ai,isNil,Nat.reduceEqDiff,Nat.reduceAdd,Nat.reduceLT,Nat.reduceLeDiff,Int.reduceNeg,Int.reduceToNat,reduceCtorEq,t2,t3,t4,t9,t10,t11,t12,hbb5]
        intro h' _
        exact eX 3 h' hrun.symm
      rw[if_neg (by omega)] at hrun
      obtain ⟨m2,hm2⟩:∃ m2,m2=st.length - R.right.length:=⟨_,rfl⟩
      have em2:(st.length:Int) - R.right.length=m2:=by omega
      rw[← hm2] at hrun
      have hm2l:m2≤st.length:=by omega
      have htk:cT H6 (.sl sid soff m2 1) (st.take m2):=(hu1 ▸ hus6).take hm2l
      have hin2:zN t (st.take m2):=hst.take (by omega)
      have hl2:(st.take m2).length=m2:=by simp; omega
      have htop2:=hin2.2 _ (qW hin2.1)
      have htope2:ses.getD (soff+((m2:Int) - 1).toNat) []=[gi (bH (st.take m2))]:=by
        have:=Ma (off:=soff) (es:=ses) (st:=st.take m2) (fun j hj=>by
          rw[hu4 j (by omega),List.getD_eq_getElem?_getD,List.getD_eq_getElem?_getD,List.getElem?_take,if_pos (by omega)]) (by omega)
        rwa [hl2] at this
      obtain ⟨hgo1,hgo2⟩:=htf.go (s:=bH (st.take m2)) (x:=R.left) htop2 hlf
      have hgr:t.gotos[(bH (st.take m2)).toNat]?=some (t.gotos.getD (bH (st.take m2)).toNat []):=getD_some (by have:=htf.len; omega)
      generalize t.gotos.getD (bH (st.take m2)).toNat []=gr at hgr hgo2
      generalize gu t (bH (st.take m2)) R.left=to at hgo1 hgo2 hrun
      simp (disch:=omega) only [↓wr,↓reduceIte,wq,ah,ag,ak,ab,ae,af,ai,isNil,Nat.reduceEqDiff,Nat.reduceAdd,Nat.reduceLT,Nat.reduceLeDiff,Int.reduceNeg,Int.reduceToNat,reduceCtorEq,t2,t3,t4,t9,t10,t11,t12,hbb2,hbb5,hu1,hu26,em2,htope2,List.getElem?_map,hgr,hgo2,Option.map_some,encI,aW,sB hm2l]
      refine ⟨by omega,by omega,?_⟩
      refine ar.eq (fun hto=>?_) (fun hto=>?_)
      · rw[if_pos hto] at hrun
        simp (disch:=omega) only [↓wr,↓reduceIte,wq,ah,ag,ak,ab,ae,af,ai,isNil,Nat.reduceEqDiff,Nat.reduceAdd,Nat.reduceLT,Nat.reduceLeDiff,Int.reduceNeg,Int.reduceToNat,reduceCtorEq,t2,t3,t4,t9,t10,t11,t12,hbb5]
        intro h' _
        exact eX 3 h' hrun.symm
      rw[if_neg hto] at hrun
      simp (disch:=omega) only [↓wr,↓reduceIte,wq,ah,ag,ak,ab,ae,af,ai,isNil,Nat.reduceEqDiff,Nat.reduceAdd,Nat.reduceLT,Nat.reduceLeDiff,Int.reduceNeg,Int.reduceToNat,reduceCtorEq,t2,t3,t4,t9,t10,t11,t12,hbb5]
      intro q hq
      have htk7:=htk.fresh hq (o:=.arr 1 [[gi to]])
      have hur7:=hur6.fresh hq (o:=.arr 1 [[gi to]])
      have hqb:¬ b=q:=by rintro rfl; rw[hbb5] at hq; simp at hq
      have hb7:(H6.set q (.arr 1 [[gi to]])) b=.arr 2 [[gi c.kind,gi c.n]]:=by simp[View.set,hqb,hbb5]
      have hdis7:∀ id,owner (V.sl sid soff m2 1)=some id→owner ur≠some id:=fun id h=>hdis id (by rw[hu1]; exact h)
      have hob:owner (V.sl sid soff m2 1)≠some b:=by simp[owner]; exact fun h=>hbs h.symm
      generalize V.sl sid soff m2 1=u7 at htk7 hdis7 hob ⊢
      simp (disch:=omega) only [↓wr,↓reduceIte,wq,ah,ag,ak,ab,ae,af,ai,isNil,Nat.reduceEqDiff,Nat.reduceAdd,Nat.reduceLT,Nat.reduceLeDiff,Int.reduceNeg,Int.reduceToNat,reduceCtorEq,t2,t3,t4,t9,t10,t11,t12,cn]
      refine p9 (xs:=[to]) htk7 (by simp) (by unfold aP; simp; omega) (by unfold aP; simp; omega) ?_
      intro us2 H7 o2 l2
      have hur8:=hur7.left l2 (fun id h1 h2=>hdis7 id h2 h1)
      have hb8:H7 b=.arr 2 [[gi c.kind,gi c.n]]:=by rw[(l2 b (by rw[hb7]; simp) hob).1,hb7]
      have hd8:∀ id,owner us2=some id→owner ur≠some id:=fun id h1 h2=>(l2 id (by rw[(hur7.live h2).1]; simp) (fun e=>hdis7 id e h2)).2 h1
      simp (disch:=omega) only [↓wr,↓reduceIte,wq,ah,ag,ak,ab,ae,af,ai,isNil,Nat.reduceEqDiff,Nat.reduceAdd,Nat.reduceLT,Nat.reduceLeDiff,Int.reduceNeg,Int.reduceToNat,reduceCtorEq,t2,t3,t4,t9,t10,t11,t12,hb8]
      intro q2 hq2
      have o3:=o2.fresh hq2 (o:=.arr 1 [[gi c.n]])
      have hur9:=hur8.fresh hq2 (o:=.arr 1 [[gi c.n]])
      simp (disch:=omega) only [↓wr,↓reduceIte,wq,ah,ag,ak,ab,ae,af,ai,isNil,Nat.reduceEqDiff,Nat.reduceAdd,Nat.reduceLT,Nat.reduceLeDiff,Int.reduceNeg,Int.reduceToNat,reduceCtorEq,t2,t3,t4,t9,t10,t11,t12,cn]
      refine rW hur9 (by simp) (by simp[aU]) (by unfold aP; simp; omega) (by unfold aP; simp; omega) ?_
      intro ur2 H8 o4 l4
      simp (disch:=omega) only [↓wr,↓reduceIte,wq,ah,ag,ak,ab,ae,af,ai,isNil,Nat.reduceEqDiff,Nat.reduceAdd,Nat.reduceLT,Nat.reduceLeDiff,Int.reduceNeg,Int.reduceToNat,reduceCtorEq,t2,t3,t4,t9,t10,t11,t12]
      refine br hk (by omega) ⟨us2,ur2,st.take m2 ++ [to],rs ++ [c.n],at_,by omega,by rw[show 2000 - (i+1)=k2 by omega]; exact hrun,.app hin2.2 (by omega),cT.own (o3.left l4 hd8) (by simp),by simpa using o4,fun id h1 h2=>?_,by omega,by simp; omega,by simp; omega,t2,t3,t4,rfl,rfl,t11,rfl⟩
      exact (l4 id (by rw[(o3.live h1).1]; simp) (fun e=>hd8 id h1 e)).2 h2)
def cI (g:ay) (t:dJ) (w:List Int) (us ur:V):List V:=[.aL (g.av.map df),.aL (g.aw.map fun s=>[gs s]),.aL (g.rules.map bD),gi g.start,.aL (t.aK.map fun r=>[qY r]),.aL (t.gotos.map fun r=>[encI r]),encI w,us,ur]
def PB (H:View) (c:Nat) (g:ay) (t:dJ) (w st rs:List Int) (A:V) (al:List Int):Prop:=∃ us ur,H c=.arr 9 [cI g t w us ur]∧cT H us st∧bj H ur 1 (bb rs)∧bj H A 1 (bb al)∧(∀ id,owner us=some id→owner ur≠some id)∧(∀ id,owner A=some id→owner us≠some id∧owner ur≠some id)
def ou:SF:=⟨.seq (aq [az 2 0]) <|
  .seq (aq [aa 3 0,bh 4 3,ao 5 7 4,an 6 5,aa 7 0,bh 8 7,ao 9 7 8,an 10 9,aA 11 10,au 12 .sub 11 1,aD 13 1 6 12,an 14 13,aa 2 14]) <|
  .ret,
  [.tmp 2],15⟩
theorem uQ:ba Tryz.prog 77 []=some ou:=by kernel_rfl
def kO:SF:=⟨.seq (aq [aM 4 false]) <|
  .seq (aq [aa 8 0,bh 9 8,ao 10 0 9,ao 11 2 10,an 12 11,aa 13 1,aD 14 3 12 13,aF 15 3 14,((some 5),.op (.alloc [(.val (.int .i64 0)),(.emp 1),(.val (.int .i64 0))])),(none,.op (.store 3 (.tmp 5) (.tmp 15)))]) <|
  .seq (aq [aa 16 0,bh 17 16,ao 18 7 17,an 19 18,aA 20 19,ao 21 1 5,an 22 21,aA 23 22,aC 24 .sub 20 23,aa 6 24]) <|
  .seq (.seq (aq [aa 25 6,au 26 .lss 25 1]) <|
  .cond (.tmp 26) (.seq (aq [aM 4 false]) <|
  .ret) (.skip)) <|
  .seq (aq [aa 27 0,aa 28 0,bh 29 28,ao 30 7 29,an 31 30,aa 32 6,((some 33),.op (.slice 1 (.tmp 31) none (some (.tmp 32)))),bh 34 27,ao 35 7 34,(none,.op (.store 1 (.tmp 35) (.tmp 33)))]) <|
  .seq (.region true [⟨none,[aa 36 0,bh 37 36,ao 38 4 37,ao 39 1 38,an 40 39,aa 41 0,aJ 42 77 [41],aD 43 1 40 42,an 44 43,ao 45 0 5,an 46 45,aD 47 1 44 46,an 48 47,aa 7 48]⟩]) <|
  .seq (.seq (aq [aa 49 7,au 50 .lss 49 0]) <|
  .cond (.tmp 50) (.seq (aq [aM 4 false]) <|
  .ret) (.skip)) <|
  .seq (.nz [(62,56)] [⟨none,[aa 51 0,aa 52 0,aa 53 0,bh 54 53,ao 55 7 54,an 56 55,aa 57 7,((some 58),.op (.aT 1 1 [(.val (.int .i64 0))] [(0,(.tmp 57))])),((some 59),.op (.app 1 8 (.tmp 56) (.tmp 58))),aa 60 0,bh 61 60,ao 62 8 61,an 63 62,aa 64 1,((some 65),.op (.aT 1 1 [(.val (.int .i64 0))] [(0,(.tmp 64))])),((some 66),.op (.app 1 8 (.tmp 63) (.tmp 65))),bh 67 51,ao 68 7 67,(none,.op (.store 1 (.tmp 68) (.tmp 59))),bh 69 52,ao 70 8 69,(none,.op (.store 1 (.tmp 70) (.tmp 66)))]⟩]) <|
  .seq (aq [aM 4 true]) <|
  .ret,
  [.tmp 4],71⟩
theorem qS:ba Tryz.prog 78 [100000]=some kO:=by kernel_rfl
def l8:SC :=
  .seq (.skip) <|
  .seq (.region true [⟨none,[aa 21 0,bh 22 21,ao 23 4 22,ao 24 0 23,an 25 24,aa 26 0,aJ 27 77 [26],aD 28 1 25 27,an 29 28,aa 30 5,aa 31 2,aD 32 1 30 31,an 33 32,aD 34 2 29 33,aF 35 2 34,((some 6),.op (.alloc [(.val (.int .i64 0)),(.val (.int .i64 0))])),(none,.op (.store 2 (.tmp 6) (.tmp 35)))]⟩]) <|
  .seq (aq [aa 36 2,aa 37 0,bh 38 37,ao 39 6 38,an 40 39,aA 41 40,aC 42 .eql 36 41,aa 7 42]) <|
  .seq (.block 0 (.seq (.region false [⟨none,[ao 45 0 6,an 46 45,au 47 .eql 46 3,aa 48 47]⟩,⟨(some (48,true)),[aa 49 7]⟩,⟨none,[bq 50 48 49,aa 44 50]⟩]) <|
  .cond (.tmp 44) (.seq (aq [aa 51 2,aa 2 51,az 3 0]) <|
  .ret) (.seq (.seq (aq [ao 53 0 6,an 54 53,au 55 .eql 54 2,aa 52 55]) <|
  .cond (.tmp 52) (.skip) (.region false [⟨none,[ao 56 0 6,an 57 56,au 58 .eql 57 1,aa 59 58]⟩,⟨(some (59,true)),[aa 60 7,bC 61 60]⟩,⟨none,[bq 62 59 61,aa 52 62]⟩])) <|
  .cond (.tmp 52) (.skip) (.seq (aq [aa 43 2,aa 2 43,az 3 3]) <|
  .ret)))) <|
  .seq (.seq (aq [aa 63 4,au 64 .eql 63 2000]) <|
  .cond (.tmp 64) (.seq (aq [aa 65 2,aa 2 65,az 3 14]) <|
  .ret) (.skip)) <|
  .seq (aq [aa 66 4,au 67 .add 66 1,aa 4 67]) <|
  .seq (.seq (aq [ao 68 0 6,an 69 68,au 70 .eql 69 2]) <|
  .cond (.tmp 70) (.seq (.seq (aq [aa 71 0,ao 72 1 6,an 73 72,aJ 74 78 [71,73],bC 75 74]) <|
  .cond (.tmp 75) (.seq (aq [aa 76 2,aa 2 76,az 3 3]) <|
  .ret) (.skip)) <|
  .goto 0) (.skip)) <|
  .seq (aq [aa 77 0,aa 78 0,bh 79 78,ao 80 7 79,an 81 80,ao 82 1 6,an 83 82,((some 84),.op (.aT 1 1 [(.val (.int .i64 0))] [(0,(.tmp 83))])),((some 85),.op (.app 1 8 (.tmp 81) (.tmp 84))),bh 86 77,ao 87 7 86,(none,.op (.store 1 (.tmp 87) (.tmp 85)))]) <|
  .seq (aq [aa 88 2,au 89 .add 88 1,aa 2 89]) <|
  .goto 0
def oM:SF:=⟨.seq (aq [az 2 0,az 3 0]) <|
  .scope 0 (.seq (aq [az 4 0]) <|
  .seq (aq [aa 8 0,bh 9 8,ao 10 6 9,an 11 10,aa 12 0,bh 13 12,ao 14 0 13,ao 15 0 14,an 16 15,aA 17 16,((some 18),.op (.aT 1 1 [(.val (.int .i64 0))] [(0,(.tmp 17))])),((some 19),.op (.aT 2 1 [(.emp 1)] [(0,(.tmp 11)),(1,(.tmp 18))])),aJ 20 76 [19],aa 5 20]) <|
  .seq (.label 0) <|
  .seq (.region true [⟨none,[aa 21 0,bh 22 21,ao 23 4 22,ao 24 0 23,an 25 24,aa 26 0,aJ 27 77 [26],aD 28 1 25 27,an 29 28,aa 30 5,aa 31 2,aD 32 1 30 31,an 33 32,aD 34 2 29 33,aF 35 2 34,((some 6),.op (.alloc [(.val (.int .i64 0)),(.val (.int .i64 0))])),(none,.op (.store 2 (.tmp 6) (.tmp 35)))]⟩]) <|
  .seq (aq [aa 36 2,aa 37 0,bh 38 37,ao 39 6 38,an 40 39,aA 41 40,aC 42 .eql 36 41,aa 7 42]) <|
  .seq (.block 0 (.seq (.region false [⟨none,[ao 45 0 6,an 46 45,au 47 .eql 46 3,aa 48 47]⟩,⟨(some (48,true)),[aa 49 7]⟩,⟨none,[bq 50 48 49,aa 44 50]⟩]) <|
  .cond (.tmp 44) (.seq (aq [aa 51 2,aa 2 51,az 3 0]) <|
  .ret) (.seq (.seq (aq [ao 53 0 6,an 54 53,au 55 .eql 54 2,aa 52 55]) <|
  .cond (.tmp 52) (.skip) (.region false [⟨none,[ao 56 0 6,an 57 56,au 58 .eql 57 1,aa 59 58]⟩,⟨(some (59,true)),[aa 60 7,bC 61 60]⟩,⟨none,[bq 62 59 61,aa 52 62]⟩])) <|
  .cond (.tmp 52) (.skip) (.seq (aq [aa 43 2,aa 2 43,az 3 3]) <|
  .ret)))) <|
  .seq (.seq (aq [aa 63 4,au 64 .eql 63 2000]) <|
  .cond (.tmp 64) (.seq (aq [aa 65 2,aa 2 65,az 3 14]) <|
  .ret) (.skip)) <|
  .seq (aq [aa 66 4,au 67 .add 66 1,aa 4 67]) <|
  .seq (.seq (aq [ao 68 0 6,an 69 68,au 70 .eql 69 2]) <|
  .cond (.tmp 70) (.seq (.seq (aq [aa 71 0,ao 72 1 6,an 73 72,aJ 74 78 [71,73],bC 75 74]) <|
  .cond (.tmp 75) (.seq (aq [aa 76 2,aa 2 76,az 3 3]) <|
  .ret) (.skip)) <|
  .goto 0) (.skip)) <|
  .seq (aq [aa 77 0,aa 78 0,bh 79 78,ao 80 7 79,an 81 80,ao 82 1 6,an 83 82,((some 84),.op (.aT 1 1 [(.val (.int .i64 0))] [(0,(.tmp 83))])),((some 85),.op (.app 1 8 (.tmp 81) (.tmp 84))),bh 86 77,ao 87 7 86,(none,.op (.store 1 (.tmp 87) (.tmp 85)))]) <|
  .seq (aq [aa 88 2,au 89 .add 88 1,aa 2 89]) <|
  .goto 0) l8,
  [.tmp 2,.tmp 3],90⟩
theorem tM:ba Tryz.prog 43 []=some oM:=by kernel_rfl
def wX:SF:=⟨.seq (aq [bz 3 0,bz 4 1,((some 6),.op (.aX (.val (.emp 1)))),az 7 0,az 8 0]) <|
  .seq (.seq (.region false [⟨none,[aF 12 4 3,aa 13 2,aJ 14 18 [12,13],bC 15 14,aa 16 15]⟩,⟨(some (16,false)),[aF 17 4 3,aF 18 2 4,aJ 19 42 [17,18],bC 20 19]⟩,⟨none,[aS 21 16 20]⟩]) <|
  .cond (.tmp 21) (.seq (aq [((some 6),.op (.aX (.val (.emp 1)))),az 7 0,az 8 1]) <|
  .ret) (.skip)) <|
  .seq (aq [aF 22 4 3,aF 23 2 4,aa 24 2,((some 25),.op (.aT 1 1 [(.val (.int .i64 0))] [(0,(.val (.val (.int .i64 0))))])),((some 26),.op (.build [(.emp 1),(.emp 1),(.emp 1),(.val (.int .i64 0)),(.emp 1),(.emp 1),(.emp 1),(.emp 1),(.emp 1)] [(0,4,(.tmp 22)),(4,2,(.tmp 23)),(6,1,(.tmp 24)),(7,1,(.tmp 25))])),((some 27),.op (.box (.tmp 26))),aa 9 27]) <|
  .seq (aq [aa 29 9,aJ 30 43 [29],aa 28 30,bu 31 0 28,bu 32 1 28,aa 10 31,aa 11 32]) <|
  .seq (.seq (aq [aa 33 11,au 34 .neq 33 0]) <|
  .cond (.tmp 34) (.seq (aq [aa 35 10,aa 36 11,((some 6),.op (.aX (.val (.emp 1)))),aa 7 35,aa 8 36]) <|
  .ret) (.skip)) <|
  .seq (aq [aa 37 9,bh 38 37,ao 39 8 38,an 40 39,aa 41 10,aa 6 40,aa 7 41,az 8 0]) <|
  .ret,
  [.tmp 6,.tmp 7,.tmp 8],42⟩
theorem Au:ba Tryz.prog 15 [3,4]=some wX:=by kernel_rfl
theorem GL {P:Program} {c:SC} {T:Env} {H:View} {Q:Exit→Env→View→Prop} (h:wS P (.seq .skip c) T H Q):wS P c T H Q:=h
theorem cT.L8 {H:View} {u:V} {l:List Int} (h:cT H u l) {q z:Nat} {e:List (List V)} {o:bM} (hq:H q=.arr z e) (hz:z≠1):cT (H.set q o) u l :=
  h.keep fun id es' hid=>by
    have:id≠q:=by rintro rfl; rw[hq] at hid; simp at hid; exact hz hid.1
    simp[View.set,this]
theorem Hf (c:Nat) (g:ay) (t:dJ) (w st:List Int) (us ur:V) (H:View) (hc:H c=.arr 9 [cI g t w us ur]) (hus:cT H us st) (hst:0 < st.length) (hs:st.length≤100000):aG Tryz.prog 77 [.ptr c 0 0] H fun r H'=>H'=H∧r=gi (bH st):=by
  refine aG.of mixed uQ ?_
  obtain ⟨sid,soff,ses,hu1,hu2,hu3,hu4⟩:=hus.all
  have htope:=Ma hu4 hst
  subst hu1
  simp (disch:=omega) only [↓wr,↓reduceIte,wq,ah,ag,ak,ab,ae,af,ai,isNil,Nat.reduceEqDiff,Nat.reduceAdd,Nat.reduceLT,Nat.reduceLeDiff,Int.reduceNeg,Int.reduceToNat,reduceCtorEq,ou,hc,cI,hu2,htope]
  exact ⟨by omega,by omega⟩
theorem aN.same {P:Program} {q:Bool} {f:FuncId} {vs:List V} {H:View} {K:V→View→Prop} {w:ct (H,K)} {v:V} (hc:aG P f vs H fun r H'=>H'=H∧r=v) (hk:K v H):aN P q f vs H K w:=by
  unfold aN
  cases q with
  | true =>
    simp only[if_true]
    exact (hc.mono fun r H' h=>⟨fun id _=>by rw[h.1],by rw[h.1,h.2]; exact hk⟩).MB
  | false =>
    simp only[Bool.false_eq_true,if_false]
    exact hc.mono fun r H' h=>by rw[h.1,h.2]; exact hk
set_option maxHeartbeats 8000000 in
theorem KI (c:Nat) (g:ay) (hf:g.sq) (t:dJ) (htf:jn g t) (w st rs:List Int) (A:V) (al:List Int) (H:View) (hP:PB H c g t w st rs A al) (hst:zN t st) (hs:st.length≤100000) (hr:rs.length≤100000) (k:Int) (hk0:0≤k) (hk:k < g.rules.length) :
    aG Tryz.prog 78 [.ptr c 0 0,gi k] H fun r H' =>
      (st.length≤(bZ g k).right.length→r=gb false)∧(¬ st.length≤(bZ g k).right.length→gu t (bH (st.take (st.length - (bZ g k).right.length))) (bZ g k).left = -1→r=gb false) ∧
      (¬ st.length≤(bZ g k).right.length→gu t (bH (st.take (st.length - (bZ g k).right.length))) (bZ g k).left≠-1→r=gb true∧PB H' c g t w (st.take (st.length - (bZ g k).right.length) ++ [gu t (bH (st.take (st.length - (bZ g k).right.length))) (bZ g k).left]) (rs ++ [k]) A al):=by
  refine aG.of mixed qS ?_
  obtain ⟨us,ur,hc,hus,hur,hA,hd1,hd2⟩:=hP
  obtain ⟨sid,soff,ses,hu1,hu2,hu3,hu4⟩:=hus.all
  have hst1:=List.length_pos_iff.2 hst.1
  have hR:g.rules[k.toNat]?=some (bZ g k):=by unfold bZ; exact getD_some (by omega)
  have hmr:=List.mem_of_getElem? hR
  have hr6:=hf.right _ hmr
  have hlf:=hf.left _ hmr
  generalize bZ g k=R at hR hmr hr6 hlf
  have hcs:¬ c=sid:=by rintro rfl; rw[hc] at hu2; simp at hu2
  simp (disch:=omega) only [↓wr,↓reduceIte,wq,ah,ag,ak,ab,ae,af,ai,isNil,Nat.reduceEqDiff,Nat.reduceAdd,Nat.reduceLT,Nat.reduceLeDiff,Int.reduceNeg,Int.reduceToNat,reduceCtorEq,kO,hc,cI,List.getElem?_map,hR,Option.map_some,bD]
  intro b hb
  have hbc:¬ c=b:=by rintro rfl; rw[hc] at hb; simp at hb
  refine ⟨rfl,?_⟩
  rw[set_set]
  have hc5:(H.set b (.arr 3 [[gi R.left,encI R.right,gi R.prec]])) c=.arr 9 [cI g t w us ur]:=by simp[View.set,hbc,hc]
  have hb5:(H.set b (.arr 3 [[gi R.left,encI R.right,gi R.prec]])) b=.arr 3 [[gi R.left,encI R.right,gi R.prec]]:=by simp[View.set]
  have hus5:=hus.fresh hb (o:=.arr 3 [[gi R.left,encI R.right,gi R.prec]])
  have hur5:=hur.fresh hb (o:=.arr 3 [[gi R.left,encI R.right,gi R.prec]])
  have hA5:=hA.fresh hb (o:=.arr 3 [[gi R.left,encI R.right,gi R.prec]])
  generalize H.set b (.arr 3 [[gi R.left,encI R.right,gi R.prec]])=H5 at hc5 hb5 hus5 hur5 hA5
  simp only[cI] at hc5
  simp (disch:=omega) only [↓wr,↓reduceIte,wq,ah,ag,ak,ab,ae,af,ai,isNil,Nat.reduceEqDiff,Nat.reduceAdd,Nat.reduceLT,Nat.reduceLeDiff,Int.reduceNeg,Int.reduceToNat,reduceCtorEq,hbc,hc5,hb5,hus5.len,encI]
  refine ar.dec (fun hlen=>?_) (fun hlen=>?_)
  · simp (disch:=omega) only [↓wr,↓reduceIte,wq,ah,ag,ak,ab,ae,af,ai,isNil,Nat.reduceEqDiff,Nat.reduceAdd,Nat.reduceLT,Nat.reduceLeDiff,Int.reduceNeg,Int.reduceToNat,reduceCtorEq]
    exact fun h=>absurd (show st.length≤R.right.length by omega) h
  obtain ⟨m2,hm2⟩:∃ m2,m2=st.length - R.right.length:=⟨_,rfl⟩
  have em2:(st.length:Int) - R.right.length=m2:=by omega
  rw[← hm2]
  have hm2l:m2≤st.length:=by omega
  have htk:cT H5 (.sl sid soff m2 1) (st.take m2):=(hu1 ▸ hus5).take hm2l
  have hin2:zN t (st.take m2):=hst.take (by omega)
  have hl2:(st.take m2).length=m2:=by simp; omega
  have htop2:=hin2.2 _ (qW hin2.1)
  obtain ⟨hgo1,hgo2⟩:=htf.go (s:=bH (st.take m2)) (x:=R.left) htop2 hlf
  have hgr:t.gotos[(bH (st.take m2)).toNat]?=some (t.gotos.getD (bH (st.take m2)).toNat []):=getD_some (by have:=htf.len; omega)
  generalize t.gotos.getD (bH (st.take m2)).toNat []=gr at hgr hgo2
  simp (disch:=omega) only [↓wr,↓reduceIte,wq,ah,ag,ak,ab,ae,af,ai,isNil,Nat.reduceEqDiff,Nat.reduceAdd,Nat.reduceLT,Nat.reduceLeDiff,Int.reduceNeg,Int.reduceToNat,reduceCtorEq,hc5,hb5,em2,hu1,sB hm2l]
  have hc6:(H5.set c (.arr 9 [cI g t w (.sl sid soff m2 1) ur])) c=.arr 9 [cI g t w (.sl sid soff m2 1) ur]:=by simp[View.set]
  have hb6:(H5.set c (.arr 9 [cI g t w (.sl sid soff m2 1) ur])) b=.arr 3 [[gi R.left,encI R.right,gi R.prec]]:=by simp[View.set,Ne.symm hbc,hb5]
  have htk6:=htk.L8 (o:=.arr 9 [cI g t w (.sl sid soff m2 1) ur]) hc5 (by omega)
  have hur6:=hur5.other (o:=.arr 9 [cI g t w (.sl sid soff m2 1) ur]) (jq hur5 hc5 (by omega))
  have hA6:=hA5.other (o:=.arr 9 [cI g t w (.sl sid soff m2 1) ur]) (jq hA5 hc5 (by omega))
  refine aN.same (Hf c g t w (st.take m2) (.sl sid soff m2 1) ur _ hc6 htk6 (by omega) (by omega)) ?_
  generalize hH6:H5.set c (.arr 9 [cI g t w (.sl sid soff m2 1) ur])=H6 at hc6 hb6 htk6 hur6 hA6
  simp only[cI] at hH6
  rw[hH6]
  have hdu:∀ id,owner (V.sl sid soff m2 1)=some id→owner ur≠some id:=fun id h=>hd1 id (by rw[hu1]; exact h)
  have hdA:∀ id,owner A=some id→owner (V.sl sid soff m2 1)≠some id∧owner ur≠some id:=fun id h=>⟨fun e=>(hd2 id h).1 (by rw[hu1]; exact e),(hd2 id h).2⟩
  generalize gu t (bH (st.take m2)) R.left=to at hgo1 hgo2 ⊢
  simp (disch:=omega) only [↓wr,↓reduceIte,wq,ah,ag,ak,ab,ae,af,ai,isNil,Nat.reduceEqDiff,Nat.reduceAdd,Nat.reduceLT,Nat.reduceLeDiff,Int.reduceNeg,Int.reduceToNat,reduceCtorEq,hc6,hb6,List.getElem?_map,hgr,hgo2,Option.map_some,encI]
  refine ar.dec (fun hto=>?_) (fun hto=>?_)
  · simp (disch:=omega) only [↓wr,↓reduceIte,wq,ah,ag,ak,ab,ae,af,ai,isNil,Nat.reduceEqDiff,Nat.reduceAdd,Nat.reduceLT,Nat.reduceLeDiff,Int.reduceNeg,Int.reduceToNat,reduceCtorEq]
    exact fun _ h=>absurd (by omega) h
  have hu7:aU (V.sl sid soff m2 1)=true:=rfl
  simp only[cI] at hc6
  simp (disch:=omega) only [↓wr,↓reduceIte,wq,ah,ag,ak,ab,ae,af,ai,isNil,Nat.reduceEqDiff,Nat.reduceAdd,Nat.reduceLT,Nat.reduceLeDiff,Int.reduceNeg,Int.reduceToNat,reduceCtorEq,hc6,hb6]
  intro q hq
  have hcq:¬ c=q:=by rintro rfl; rw[hc6] at hq; simp at hq
  have hc7:(H6.set q (.arr 1 [[gi to]])) c=.arr 9 [cI g t w (.sl sid soff m2 1) ur]:=by simp[View.set,hcq,hc6,cI]
  have htk7:=htk6.fresh hq (o:=.arr 1 [[gi to]])
  have hur7:=hur6.fresh hq (o:=.arr 1 [[gi to]])
  have hA7:=hA6.fresh hq (o:=.arr 1 [[gi to]])
  have hap:∀ i j,eH (.ptr c i j) (.sl sid soff m2 1)=True:=fun i j=>by simp[eH,hcs]
  have hoc:owner (V.sl sid soff m2 1)≠some c:=by simp[owner]; exact fun h=>hcs h.symm
  generalize V.sl sid soff m2 1=u7 at htk7 hdu hdA hap hoc hc7 ⊢
  simp (disch:=omega) only [↓wr,↓reduceIte,wq,ah,ag,ak,ab,ae,af,ai,isNil,Nat.reduceEqDiff,Nat.reduceAdd,Nat.reduceLT,Nat.reduceLeDiff,Int.reduceNeg,Int.reduceToNat,reduceCtorEq,cn]
  refine p9 (xs:=[to]) htk7 (by simp) (by unfold aP; simp; omega) (by unfold aP; simp; omega) ?_
  intro us2 H7 o2 l2
  have hur8:=hur7.left l2 (fun id h1 h2=>hdu id h2 h1)
  have hA8:=hA7.left l2 (fun id h1 h2=>(hdA id h1).1 h2)
  have hc8:H7 c=.arr 9 [cI g t w u7 ur]:=by rw[(l2 c (by rw[hc7]; simp) hoc).1,hc7]
  have hd8:∀ id,owner us2=some id→owner ur≠some id:=fun id h1 h2=>(l2 id (by rw[(hur7.live h2).1]; simp) (fun e=>hdu id e h2)).2 h1
  have hdA8:∀ id,owner A=some id→owner us2≠some id:=fun id h=>(l2 id (by rw[(hA7.live h).1]; simp) (hdA id h).1).2
  simp only[cI] at hc8
  simp (disch:=omega) only [↓wr,↓reduceIte,wq,ah,ag,ak,ab,ae,af,ai,isNil,Nat.reduceEqDiff,Nat.reduceAdd,Nat.reduceLT,Nat.reduceLeDiff,Int.reduceNeg,Int.reduceToNat,reduceCtorEq,hc8]
  intro q2 hq2
  have hcq2:¬ c=q2:=by rintro rfl; rw[hc8] at hq2; simp at hq2
  have o3:=o2.fresh hq2 (o:=.arr 1 [[gi k]])
  have hur9:=hur8.fresh hq2 (o:=.arr 1 [[gi k]])
  have hA9:=hA8.fresh hq2 (o:=.arr 1 [[gi k]])
  have hc9:(H7.set q2 (.arr 1 [[gi k]])) c=.arr 9 [cI g t w u7 ur]:=by simp[View.set,hcq2,hc8,cI]
  have hcu:=hur9.cells
  simp (disch:=omega) only [↓wr,↓reduceIte,wq,ah,ag,ak,ab,ae,af,ai,isNil,Nat.reduceEqDiff,Nat.reduceAdd,Nat.reduceLT,Nat.reduceLeDiff,Int.reduceNeg,Int.reduceToNat,reduceCtorEq,cn]
  refine rW hur9 (by simp) (by simp[aU]) (by unfold aP; simp; omega) (by unfold aP; simp; omega) ?_
  intro ur2 H8 o4 l4
  have hcr:owner ur≠some c:=jq hur9 hc9 (by omega)
  have hc10:H8 c=.arr 9 [cI g t w u7 ur]:=by rw[(l4 c (by rw[hc9]; simp) hcr).1,hc9]
  have o5:=o3.left l4 hd8
  have hA10:=hA9.left l4 (fun id h1 h2=>(hdA id h1).2 h2)
  have hdd:∀ id,owner us2=some id→owner ur2≠some id:=fun id h1 h2=>(l4 id (by rw[(o3.live h1).1]; simp) (fun e=>hd8 id h1 e)).2 h2
  have hdA10:∀ id,owner A=some id→owner ur2≠some id:=fun id h=>(l4 id (by rw[(hA9.live h).1]; simp) (hdA id h).2).2
  have c1:=o5.cells
  have c2:=o5.jC
  have c3:=o4.cells
  have c4:=o4.jC
  simp only[cI] at hc10
  simp (disch:=omega) only [↓wr,↓reduceIte,wq,ah,ag,ak,ab,ae,af,ai,isNil,Nat.reduceEqDiff,Nat.reduceAdd,Nat.reduceLT,Nat.reduceLeDiff,Int.reduceNeg,Int.reduceToNat,reduceCtorEq,hc10,c1,c2,c3,c4,hap]
  rw[set_set]
  refine ⟨fun h=>by omega,fun _ h=>by omega,fun _ _=>⟨us2,ur2,by simp[View.set,cI],?_,?_,?_,hdd,fun id h=>⟨hdA8 id h,hdA10 id h⟩⟩⟩
  · exact (cT.own o5 (by simp)).L8 hc10 (by omega)
  · have:=o4.other (o:=.arr 9 [cI g t w us2 ur2]) (jq o4 hc10 (by omega))
    simpa [cI] using this
  · exact hA10.other (jq hA10 hc10 (by omega))
set_option maxHeartbeats 8000000 in
theorem Pr (c:Nat) (g:ay) (hg:g.Ok) (hf:g.sq) (t:dJ) (htf:jn g t) (w:List Int) (hw60:w.length≤60) (hwin:∀ x∈w,0≤x∧x < (g.av.length:Int)) (m:Nat) (H:View) (hc:H c=.arr 9 [cI g t w (.sl m 0 1 1) (.emp 1)]) (hm:H m=.arr 1 [[gi 0]]) :
    aG Tryz.prog 43 [.ptr c 0 0] H fun r H'=>r=.bf [gi (fW g t w 2000 [0] [] 0).2.1,gi (fW g t w 2000 [0] [] 0).2.2]∧((fW g t w 2000 [0] [] 0).2.2=0→∃ us ur,H' c=.arr 9 [cI g t w us ur]∧bj H' ur 1 (bb (fW g t w 2000 [0] [] 0).1))∧((fW g t w 2000 [0] [] 0).2.2≠0→(fW g t w 2000 [0] [] 0).1=[]):=by
  refine aG.of mixed tM ?_
  generalize hX:fW g t w 2000 [0] [] 0=X
  have hcm:¬ c=m:=by rintro rfl; rw[hc] at hm; simp at hm
  have ht24:=hf.av
  simp (disch:=omega) only [↓wr,↓reduceIte,wq,ah,ag,ak,ab,ae,af,ai,isNil,Nat.reduceEqDiff,Nat.reduceAdd,Nat.reduceLT,Nat.reduceLeDiff,Int.reduceNeg,Int.reduceToNat,reduceCtorEq,oM]
  refine xT.intro (fun k T H'=>∃ (A:V) (st rs:List Int) (at_:Nat) (s:Int),s+k=2000∧k≤2000∧fW g t w k st rs at_=X∧zN t st∧PB H' c g t w st rs A (w ++ [(g.av.length:Int)])∧at_≤w.length∧st.length+k≤2001∧rs.length+k≤2000 ∧
    T 0=.ptr c 0 0∧T 2=gi at_∧T 4=gi s∧T 5=A) 2000 ?_ ?_
  · rintro k T H' ⟨A,st,rs,at_,s,hsk,hk,hrun,hst,hP,hat,hsl,hrl,t0,t2,t4,t5⟩
    obtain ⟨us,ur,hc,hus,hur,hA,hd1,hd2⟩:=hP
    have hst1:=List.length_pos_iff.2 hst.1
    have htop:=hst.2 _ (qW hst.1)
    obtain ⟨a1,a2⟩:=DS hwin at_
    obtain ⟨hcf,hcg⟩:=htf.cell (s:=bH st) (x:=bG g w at_) htop ⟨a1,a2⟩
    rw[mY] at hrun
    have hrow:t.aK[(bH st).toNat]?=some (t.aK.getD (bH st).toNat []):=getD_some (by omega)
    have hal:(w ++ [(g.av.length:Int)]).getD at_ 0=bG g w at_:=by
      unfold bG
      by_cases h:at_ < w.length
      · rw[if_pos h,List.getD_eq_getElem?_getD,List.getD_eq_getElem?_getD,List.getElem?_append_left h]
      · have e:at_=w.length:=by omega
        subst e
        rw[if_neg h]; simp[List.getD_eq_getElem?_getD]
    obtain ⟨aid,hAs,hAo⟩:=hA.sl (by simp)
    have hAe:(bb (w ++ [(g.av.length:Int)])).getD at_ []=[gi (bG g w at_)]:=by
      rw[List.getD_eq_getElem?_getD,List.getElem?_map,getD_some (d:=0) (show at_ < (w ++ [(g.av.length:Int)]).length by simp; omega),hal]; rfl
    have hcop:=hc
    simp only[cI] at hcop
    generalize hcc:cB t (bH st) (bG g w at_)=cl at hrun hcf hcg
    generalize t.aK.getD (bH st).toNat []=row at hrow hcg
    simp (disch:=omega) only [↓wr,↓reduceIte,wq,ah,ag,ak,ab,ae,af,ai,isNil,Nat.reduceEqDiff,Nat.reduceAdd,Nat.reduceLT,Nat.reduceLeDiff,Int.reduceNeg,Int.reduceToNat,reduceCtorEq,l8,t0,t2,t4,t5,hcop]
    refine aN.same (Hf c g t w st us ur H' hc hus hst1 (by omega)) ?_
    simp (disch:=omega) only [↓wr,↓reduceIte,wq,ah,ag,ak,ab,ae,af,ai,isNil,Nat.reduceEqDiff,Nat.reduceAdd,Nat.reduceLT,Nat.reduceLeDiff,Int.reduceNeg,Int.reduceToNat,reduceCtorEq,t0,t2,t4,t5,hcop,List.getElem?_map,hrow,hcg,Option.map_some,hAs,hAo,hAe,bo]
    refine ⟨by simp; omega,by simp; omega,fun b hb=>?_⟩
    have hbc:¬ c=b:=by rintro rfl; rw[hc] at hb; simp at hb
    rw[set_set]
    have hc5:(H'.set b (.arr 2 [[gi cl.kind,gi cl.n]])) c=.arr 9 [cI g t w us ur]:=by simp[View.set,hbc,hc]
    have hb5:(H'.set b (.arr 2 [[gi cl.kind,gi cl.n]])) b=.arr 2 [[gi cl.kind,gi cl.n]]:=by simp[View.set]
    have hus5:=hus.fresh hb (o:=.arr 2 [[gi cl.kind,gi cl.n]])
    have hur5:=hur.fresh hb (o:=.arr 2 [[gi cl.kind,gi cl.n]])
    have hA5:=hA.fresh hb (o:=.arr 2 [[gi cl.kind,gi cl.n]])
    generalize H'.set b (.arr 2 [[gi cl.kind,gi cl.n]])=H5 at hc5 hb5 hus5 hur5 hA5
    have hcop5:=hc5
    simp only[cI] at hcop5
    simp (disch:=omega) only [↓wr,↓reduceIte,wq,ah,ag,ak,ab,ae,af,ai,isNil,Nat.reduceEqDiff,Nat.reduceAdd,Nat.reduceLT,Nat.reduceLeDiff,Int.reduceNeg,Int.reduceToNat,reduceCtorEq,t0,t2,t4,t5,hbc,hcop5,hb5,encI]
    have bad:∀ (Hx:View) (e:Int),e≠0→X=([],(at_:Int),e)→(V.bf [gi at_,gi e]=.bf [gi X.2.1,gi X.2.2]∧(X.2.2=0→∃ us ur,Hx c=.arr 9 [cI g t w us ur]∧bj Hx ur 1 (bb X.1))∧(X.2.2≠0→X.1=[])):=fun Hx e he hX=>by
      rw[hX]; exact ⟨rfl,fun h=>absurd h he,fun _=>rfl⟩
    refine ar.eq (fun k3=>?_) (fun k3=>?_)
    · simp (disch:=omega) only [↓wr,↓reduceIte,wq,ah,ag,ak,ab,ae,af,ai,isNil,Nat.reduceEqDiff,Nat.reduceAdd,Nat.reduceLT,Nat.reduceLeDiff,Int.reduceNeg,Int.reduceToNat,reduceCtorEq,t0,t2,t4,t5,hb5]
      refine ar.eq (fun ha=>?_) (fun ha=>?_)
      · rw[if_pos ⟨k3,by omega⟩] at hrun
        simp (disch:=omega) only [↓wr,↓reduceIte,wq,ah,ag,ak,ab,ae,af,ai,isNil,Nat.reduceEqDiff,Nat.reduceAdd,Nat.reduceLT,Nat.reduceLeDiff,Int.reduceNeg,Int.reduceToNat,reduceCtorEq,t0,t2,t4,t5,hb5]
        rw[← hrun]
        exact ⟨rfl,fun _=>⟨us,ur,hc5,hur5⟩,fun h=>absurd rfl h⟩
      · rw[if_neg (by omega),if_pos (.inr (.inl k3))] at hrun
        simp (disch:=omega) only [↓wr,↓reduceIte,wq,ah,ag,ak,ab,ae,af,ai,isNil,Nat.reduceEqDiff,Nat.reduceAdd,Nat.reduceLT,Nat.reduceLeDiff,Int.reduceNeg,Int.reduceToNat,reduceCtorEq,t0,t2,t4,t5,hb5]
        refine ar.eq (fun h=>by omega) (fun _=>?_)
        simp (disch:=omega) only [↓wr,↓reduceIte,wq,ah,ag,ak,ab,ae,af,ai,isNil,Nat.reduceEqDiff,Nat.reduceAdd,Nat.reduceLT,Nat.reduceLeDiff,Int.reduceNeg,Int.reduceToNat,reduceCtorEq,t0,t2,t4,t5,hb5]
        refine ar.eq (fun h=>by omega) (fun _=>?_)
        simp (disch:=omega) only [↓wr,↓reduceIte,wq,ah,ag,ak,ab,ae,af,ai,isNil,Nat.reduceEqDiff,Nat.reduceAdd,Nat.reduceLT,Nat.reduceLeDiff,Int.reduceNeg,Int.reduceToNat,reduceCtorEq,t0,t2,t4,t5,hb5]
        exact bad _ 3 (by decide) hrun.symm
    simp (disch:=omega) only [↓wr,↓reduceIte,wq,ah,ag,ak,ab,ae,af,ai,isNil,Nat.reduceEqDiff,Nat.reduceAdd,Nat.reduceLT,Nat.reduceLeDiff,Int.reduceNeg,Int.reduceToNat,reduceCtorEq,t0,t2,t4,t5,hb5]
    refine ar.eq (fun k2=>?_) (fun k2=>?_)
    · have hcn:0≤cl.n∧cl.n < g.rules.length:=by rcases oG hcf with h | h | h <;> omega
      rw[if_neg (by omega),if_neg (by omega)] at hrun
      simp (disch:=omega) only [↓wr,↓reduceIte,wq,ah,ag,ak,ab,ae,af,ai,isNil,Nat.reduceEqDiff,Nat.reduceAdd,Nat.reduceLT,Nat.reduceLeDiff,Int.reduceNeg,Int.reduceToNat,reduceCtorEq,t0,t2,t4,t5,hb5]
      refine ar.eq (fun hn=>?_) (fun hn=>?_)
      · rw[show k=0 by omega] at hrun
        simp (disch:=omega) only [↓wr,↓reduceIte,wq,ah,ag,ak,ab,ae,af,ai,isNil,Nat.reduceEqDiff,Nat.reduceAdd,Nat.reduceLT,Nat.reduceLeDiff,Int.reduceNeg,Int.reduceToNat,reduceCtorEq,t0,t2,t4,t5,hb5]
        exact bad _ 14 (by decide) hrun.symm
      obtain ⟨q,rfl⟩:∃ q,k=q+1:=⟨k - 1,by omega⟩
      simp only at hrun
      rw[if_neg (by omega)] at hrun
      simp (disch:=omega) only [↓wr,↓reduceIte,wq,ah,ag,ak,ab,ae,af,ai,isNil,Nat.reduceEqDiff,Nat.reduceAdd,Nat.reduceLT,Nat.reduceLeDiff,Int.reduceNeg,Int.reduceToNat,reduceCtorEq,t0,t2,t4,t5,hb5]
      refine ar.eq (fun _=>?_) (fun h=>absurd k2 h)
      simp (disch:=omega) only [↓wr,↓reduceIte,wq,ah,ag,ak,ab,ae,af,ai,isNil,Nat.reduceEqDiff,Nat.reduceAdd,Nat.reduceLT,Nat.reduceLeDiff,Int.reduceNeg,Int.reduceToNat,reduceCtorEq,t0,t2,t4,t5,hb5]
      refine aN.ig ((KI c g hf t htf w st rs A _ H5 ⟨us,ur,hc5,hus5,hur5,hA5,hd1,hd2⟩ hst (by omega) (by omega) cl.n hcn.1 hcn.2).mono ?_)
      rintro r H6 ⟨e1,e2,e3⟩
      by_cases hl:st.length≤(bZ g cl.n).right.length
      · obtain rfl:=e1 hl
        rw[if_pos hl] at hrun
        simp (disch:=omega) only [↓wr,↓reduceIte,wq,ah,ag,ak,ab,ae,af,ai,isNil,Nat.reduceEqDiff,Nat.reduceAdd,Nat.reduceLT,Nat.reduceLeDiff,Int.reduceNeg,Int.reduceToNat,reduceCtorEq,t0,t2,t4,t5]
        exact bad _ 3 (by decide) hrun.symm
      by_cases hgo:gu t (bH (st.take (st.length - (bZ g cl.n).right.length))) (bZ g cl.n).left = -1
      · obtain rfl:=e2 hl hgo
        rw[if_neg hl,if_pos hgo] at hrun
        simp (disch:=omega) only [↓wr,↓reduceIte,wq,ah,ag,ak,ab,ae,af,ai,isNil,Nat.reduceEqDiff,Nat.reduceAdd,Nat.reduceLT,Nat.reduceLeDiff,Int.reduceNeg,Int.reduceToNat,reduceCtorEq,t0,t2,t4,t5]
        exact bad _ 3 (by decide) hrun.symm
      · obtain ⟨rfl,hP6⟩:=e3 hl hgo
        rw[if_neg hl,if_neg hgo] at hrun
        simp (disch:=omega) only [↓wr,↓reduceIte,wq,ah,ag,ak,ab,ae,af,ai,isNil,Nat.reduceEqDiff,Nat.reduceAdd,Nat.reduceLT,Nat.reduceLeDiff,Int.reduceNeg,Int.reduceToNat,reduceCtorEq,t0,t2,t4,t5]
        have hin2:=hst.take (k:=st.length - (bZ g cl.n).right.length) (by omega)
        have hlf:=hf.left _ (List.mem_of_getElem? (show g.rules[cl.n.toNat]?=some (bZ g cl.n) by unfold bZ; exact getD_some (by omega)))
        have hgr:=(htf.go (hin2.2 _ (qW hin2.1)) hlf).1
        exact ⟨q,by omega,A,_,_,at_,s+1,by omega,by omega,hrun,.app hin2.2 (by omega),hP6,hat,by simp; omega,by simp; omega,rfl,rfl,rfl⟩
    simp (disch:=omega) only [↓wr,↓reduceIte,wq,ah,ag,ak,ab,ae,af,ai,isNil,Nat.reduceEqDiff,Nat.reduceAdd,Nat.reduceLT,Nat.reduceLeDiff,Int.reduceNeg,Int.reduceToNat,reduceCtorEq,t0,t2,t4,t5,hb5]
    refine ar.eq (fun k1=>?_) (fun k1=>?_)
    · have hcn:0≤cl.n∧cl.n < t.aK.length:=by rcases oG hcf with h | h | h <;> omega
      simp (disch:=omega) only [↓wr,↓reduceIte,wq,ah,ag,ak,ab,ae,af,ai,isNil,Nat.reduceEqDiff,Nat.reduceAdd,Nat.reduceLT,Nat.reduceLeDiff,Int.reduceNeg,Int.reduceToNat,reduceCtorEq,t0,t2,t4,t5,hb5]
      refine ar.eq (fun ha=>?_) (fun ha=>?_)
      · rw[if_neg (by omega),if_pos (.inr (.inr ⟨k1,by omega⟩))] at hrun
        simp (disch:=omega) only [↓wr,↓reduceIte,wq,ah,ag,ak,ab,ae,af,ai,isNil,Nat.reduceEqDiff,Nat.reduceAdd,Nat.reduceLT,Nat.reduceLeDiff,Int.reduceNeg,Int.reduceToNat,reduceCtorEq,t0,t2,t4,t5,hb5]
        exact bad _ 3 (by decide) hrun.symm
      rw[if_neg (by omega),if_neg (by omega)] at hrun
      simp (disch:=omega) only [↓wr,↓reduceIte,wq,ah,ag,ak,ab,ae,af,ai,isNil,Nat.reduceEqDiff,Nat.reduceAdd,Nat.reduceLT,Nat.reduceLeDiff,Int.reduceNeg,Int.reduceToNat,reduceCtorEq,t0,t2,t4,t5,hb5]
      refine ar.eq (fun hn=>?_) (fun hn=>?_)
      · rw[show k=0 by omega] at hrun
        simp (disch:=omega) only [↓wr,↓reduceIte,wq,ah,ag,ak,ab,ae,af,ai,isNil,Nat.reduceEqDiff,Nat.reduceAdd,Nat.reduceLT,Nat.reduceLeDiff,Int.reduceNeg,Int.reduceToNat,reduceCtorEq,t0,t2,t4,t5,hb5]
        exact bad _ 14 (by decide) hrun.symm
      obtain ⟨q,rfl⟩:∃ q,k=q+1:=⟨k - 1,by omega⟩
      simp only at hrun
      rw[if_pos k1] at hrun
      simp (disch:=omega) only [↓wr,↓reduceIte,wq,ah,ag,ak,ab,ae,af,ai,isNil,Nat.reduceEqDiff,Nat.reduceAdd,Nat.reduceLT,Nat.reduceLeDiff,Int.reduceNeg,Int.reduceToNat,reduceCtorEq,t0,t2,t4,t5,hb5]
      refine ar.eq (fun h=>absurd h k2) (fun _=>?_)
      obtain ⟨sid,soff,ses,hu1,hu2,_,_⟩:=hus5.all
      have hcs:¬ c=sid:=by rintro rfl; rw[hc5] at hu2; simp at hu2
      have hap:∀ i j,eH (.ptr c i j) us=True:=fun i j=>by rw[hu1]; simp[eH,hcs]
      have hoc:owner us≠some c:=by rw[hu1]; simp[owner]; exact fun h=>hcs h.symm
      simp (disch:=omega) only [↓wr,↓reduceIte,wq,ah,ag,ak,ab,ae,af,ai,isNil,Nat.reduceEqDiff,Nat.reduceAdd,Nat.reduceLT,Nat.reduceLeDiff,Int.reduceNeg,Int.reduceToNat,reduceCtorEq,t0,t2,t4,t5,hcop5,hb5]
      intro q2 hq2
      have hcq2:¬ c=q2:=by rintro rfl; rw[hc5] at hq2; simp at hq2
      have hc7:(H5.set q2 (.arr 1 [[gi cl.n]])) c=.arr 9 [cI g t w us ur]:=by simp[View.set,hcq2,hc5]
      have hus7:=hus5.fresh hq2 (o:=.arr 1 [[gi cl.n]])
      have hur7:=hur5.fresh hq2 (o:=.arr 1 [[gi cl.n]])
      have hA7:=hA5.fresh hq2 (o:=.arr 1 [[gi cl.n]])
      simp (disch:=omega) only [↓wr,↓reduceIte,wq,ah,ag,ak,ab,ae,af,ai,isNil,Nat.reduceEqDiff,Nat.reduceAdd,Nat.reduceLT,Nat.reduceLeDiff,Int.reduceNeg,Int.reduceToNat,reduceCtorEq,t0,t2,t4,t5,cn]
      refine p9 (xs:=[cl.n]) hus7 (by simp) (by unfold aP; simp; omega) (by unfold aP; simp; omega) ?_
      intro us2 H7 o2 l2
      have hur8:=hur7.left l2 (fun id h1 h2=>hd1 id h2 h1)
      have hA8:=hA7.left l2 (fun id h1 h2=>(hd2 id h1).1 h2)
      have hc8:H7 c=.arr 9 [cI g t w us ur]:=by rw[(l2 c (by rw[hc7]; simp) hoc).1,hc7]
      have hd8:∀ id,owner us2=some id→owner ur≠some id:=fun id h1 h2=>(l2 id (by rw[(hur7.live h2).1]; simp) (fun e=>hd1 id e h2)).2 h1
      have hdA8:∀ id,owner A=some id→owner us2≠some id:=fun id h=>(l2 id (by rw[(hA7.live h).1]; simp) (hd2 id h).1).2
      have c1:=o2.cells
      have c2:=o2.jC
      simp only[cI] at hc8
      simp (disch:=omega) only [↓wr,↓reduceIte,wq,ah,ag,ak,ab,ae,af,ai,isNil,Nat.reduceEqDiff,Nat.reduceAdd,Nat.reduceLT,Nat.reduceLeDiff,Int.reduceNeg,Int.reduceToNat,reduceCtorEq,t0,t2,t4,t5,hc8,c1,c2,hap]
      refine ⟨q,by omega,A,st ++ [cl.n],rs,at_+1,s+1,by omega,by omega,hrun,.app hst.2 hcn,⟨us2,ur,by simp[View.set,cI],?_,?_,?_,hd8,fun id h=>⟨hdA8 id h,(hd2 id h).2⟩⟩,by omega,by simp; omega,by omega,rfl,rfl,rfl⟩
      · exact (cT.own o2 (by simp)).L8 hc8 (by omega)
      · exact hur8.other (jq hur8 hc8 (by omega))
      · exact hA8.other (jq hA8 hc8 (by omega))
    · have hk0:cl.kind=0:=by rcases oG hcf with h | h | h <;> omega
      rw[if_neg (by omega),if_pos (.inl hk0)] at hrun
      simp (disch:=omega) only [↓wr,↓reduceIte,wq,ah,ag,ak,ab,ae,af,ai,isNil,Nat.reduceEqDiff,Nat.reduceAdd,Nat.reduceLT,Nat.reduceLeDiff,Int.reduceNeg,Int.reduceToNat,reduceCtorEq,t0,t2,t4,t5,hb5]
      exact bad _ 3 (by decide) hrun.symm
  · intro body
    simp (disch:=omega) only [↓wr,↓reduceIte,wq,ah,ag,ak,ab,ae,af,ai,isNil,Nat.reduceEqDiff,Nat.reduceAdd,Nat.reduceLT,Nat.reduceLeDiff,Int.reduceNeg,Int.reduceToNat,reduceCtorEq]
    have hcop:=hc
    simp only[cI] at hcop
    simp (disch:=omega) only [↓wr,↓reduceIte,wq,ah,ag,ak,ab,ae,af,ai,isNil,Nat.reduceEqDiff,Nat.reduceAdd,Nat.reduceLT,Nat.reduceLeDiff,Int.reduceNeg,Int.reduceToNat,reduceCtorEq,hcop,encI,ax]
    intro n1 hn1 n2 hn2
    obtain ⟨d21,hn2⟩:=dq hn2 cU
    have hcn1:¬ c=n1:=by rintro rfl; rw[hc] at hn1; simp at hn1
    have hcn2:¬ c=n2:=by rintro rfl; rw[hc] at hn2; simp at hn2
    have hmn1:¬ m=n1:=by rintro rfl; rw[hm] at hn1; simp at hn1
    have hmn2:¬ m=n2:=by rintro rfl; rw[hm] at hn2; simp at hn2
    have hcc:=Lx [(encI w,w),(.sl n1 0 1 1,[(g.av.length:Int)])] n2 ((H.set n1 (.arr 1 [[gi g.av.length]])).set n2 (.arr 1 [[encI w],[.sl n1 0 1 1]])) (by simp[View.set]) (by
      intro x hx
      simp only[List.mem_cons,List.not_mem_nil,or_false] at hx
      rcases hx with rfl | rfl
      · exact .inl rfl
      · exact .inr (.inr ⟨n1,by simp,by simp[View.set,Ne.symm d21]⟩)) (by simp; omega) (by simp)
    simp only[encI] at hcc
    refine aN.ig (hcc.mono ?_)
    rintro r H2 ⟨o2,hfr⟩
    have hc2:H2 c=.arr 9 [cI g t w (.sl m 0 1 1) (.emp 1)]:=by
      rw[(hfr c (by simp[View.set,hcn1,hcn2,hc])).1]; simp[View.set,hcn1,hcn2,hc]
    have hm2:H2 m=.arr 1 [[gi 0]]:=by
      rw[(hfr m (by simp[View.set,hmn1,hmn2,hm])).1]; simp[View.set,hmn1,hmn2,hm]
    have hrm:owner r≠some m:=(hfr m (by simp[View.set,hmn1,hmn2,hm])).2
    rw[No,Ax,IG,F3,No,Cq,Ca,pU,FM,Af,pU]
    refine GL (body 2000 _ _ ⟨r,[0],[],0,0,by omega,by omega,hX,⟨by simp,by have:=htf.n1; intro x hx; simp at hx; subst hx; omega⟩,⟨.sl m 0 1 1,.emp 1,hc2,cT.own (.inr ⟨m,rfl,hm2⟩) (by simp),.nil,by simpa using o2,by simp[owner],fun id h=>⟨fun e=>?_,by simp[owner]⟩⟩,by omega,by simp,by simp,rfl,rfl,rfl,rfl⟩)
    simp only[owner,Option.some.injEq] at e
    exact hrm (e ▸ h)
set_option maxHeartbeats 8000000 in
theorem oq (g:ay) (hg:g.Ok) (hsm:g.Small) (t:dJ) (ht:t.Ok) (w:List Int) (hw:aR w) (hn:∀ x∈w,bJ x):bY Tryz.prog 15 [.agg (ax g),.agg (aW t),encI w] (kd (gU g t w)):=by
  refine bY.of (Ez g t w) ?_
  have hc1:=AF g hg hsm w hw hn
  have hc2:=KS g hg hsm t ht
  refine aG.of mixed Au ?_
  simp only[ax,encS,aW,encI] at hc1 hc2
  rw[iP]
  simp (disch:=omega) only [↓wr,↓reduceIte,wq,ah,ag,ak,ab,ae,af,ai,isNil,Nat.reduceEqDiff,Nat.reduceAdd,Nat.reduceLT,Nat.reduceLeDiff,Int.reduceNeg,Int.reduceToNat,reduceCtorEq,wX,ax,encS,aW,encI]
  refine aN.pure hc1 (by kernel_rfl) ?_
  simp (disch:=omega) only [↓wr,↓reduceIte,wq,ah,ag,ak,ab,ae,af,ai,isNil,Nat.reduceEqDiff,Nat.reduceAdd,Nat.reduceLT,Nat.reduceLeDiff,Int.reduceNeg,Int.reduceToNat,reduceCtorEq]
  refine ar.split (fun hwb=>?_) (fun hwb=>?_)
  rotate_left
  · simp (disch:=omega) only [↓wr,↓reduceIte,wq,ah,ag,ak,ab,ae,af,ai,isNil,Nat.reduceEqDiff,Nat.reduceAdd,Nat.reduceLT,Nat.reduceLeDiff,Int.reduceNeg,Int.reduceToNat,reduceCtorEq]
    intro h' _
    rw[hwb]
    exact iT (x:=([],0,1)) (.emp _)
  simp (disch:=omega) only [↓wr,↓reduceIte,wq,ah,ag,ak,ab,ae,af,ai,isNil,Nat.reduceEqDiff,Nat.reduceAdd,Nat.reduceLT,Nat.reduceLeDiff,Int.reduceNeg,Int.reduceToNat,reduceCtorEq,ax,encS,aW]
  refine aN.pure hc2 (by kernel_rfl) ?_
  simp (disch:=omega) only [↓wr,↓reduceIte,wq,ah,ag,ak,ab,ae,af,ai,isNil,Nat.reduceEqDiff,Nat.reduceAdd,Nat.reduceLT,Nat.reduceLeDiff,Int.reduceNeg,Int.reduceToNat,reduceCtorEq]
  refine ar.split (fun hrt=>?_) (fun hrt=>?_)
  rotate_left
  · simp (disch:=omega) only [↓wr,↓reduceIte,wq,ah,ag,ak,ab,ae,af,ai,isNil,Nat.reduceEqDiff,Nat.reduceAdd,Nat.reduceLT,Nat.reduceLeDiff,Int.reduceNeg,Int.reduceToNat,reduceCtorEq]
    intro h' _
    rw[hwb,hrt]
    exact iT (x:=([],0,1)) (.emp _)
  have htf:=tq hrt
  have hf:=bI htf.right
  obtain ⟨hw60,hwin⟩:=EJ hwb
  rw[hwb,hrt]
  simp only[Bool.and_self,if_true]
  simp (disch:=omega) only [↓wr,↓reduceIte,wq,ah,ag,ak,ab,ae,af,ai,isNil,Nat.reduceEqDiff,Nat.reduceAdd,Nat.reduceLT,Nat.reduceLeDiff,Int.reduceNeg,Int.reduceToNat,reduceCtorEq,ax,encS,aW,encI]
  intro m c hcd
  obtain ⟨dcm,_⟩:=dq hcd cU
  refine aN.ig ((Pr c g hg hf t htf w hw60 hwin m _ (by simp[View.set,cI,encI]) (by simp[View.set,Ne.symm dcm])).mono ?_)
  rintro r H2 ⟨rfl,h0,h1⟩
  generalize fW g t w 2000 [0] [] 0=X at h0 h1 ⊢
  obtain ⟨x1,x2,x3⟩:=X
  simp only at h0 h1 ⊢
  simp (disch:=omega) only [↓wr,↓reduceIte,wq,ah,ag,ak,ab,ae,af,ai,isNil,Nat.reduceEqDiff,Nat.reduceAdd,Nat.reduceLT,Nat.reduceLeDiff,Int.reduceNeg,Int.reduceToNat,reduceCtorEq]
  refine ar.ne (fun he=>?_) (fun he=>?_)
  · simp (disch:=omega) only [↓wr,↓reduceIte,wq,ah,ag,ak,ab,ae,af,ai,isNil,Nat.reduceEqDiff,Nat.reduceAdd,Nat.reduceLT,Nat.reduceLeDiff,Int.reduceNeg,Int.reduceToNat,reduceCtorEq]
    intro h' _
    rw[h1 he]
    exact iT (x:=([],x2,x3)) (.emp _)
  · obtain rfl:x3=0:=by omega
    obtain ⟨us,ur,hc2,ho⟩:=h0 rfl
    simp only[cI] at hc2
    simp (disch:=omega) only [↓wr,↓reduceIte,wq,ah,ag,ak,ab,ae,af,ai,isNil,Nat.reduceEqDiff,Nat.reduceAdd,Nat.reduceLT,Nat.reduceLeDiff,Int.reduceNeg,Int.reduceToNat,reduceCtorEq,hc2]
    rintro h' rfl
    exact iT (x:=(x1,x2,0)) (vl ho)
def IV:Value→Value→Bool
  | .int k a,.int k' b=>decide (k=k') && decide (a=b)
  | .bool a,.bool b=>a == b
  | .string a,.string b=>fN a b
  | .pointer none,.pointer none=>true
  | _,_=>false
theorem MG:∀ (a b:Value),IV a b=true→a=b:=by
  intro a b h
  unfold IV at h
  split at h
  · simp only[Bool.and_eq_true,decide_eq_true_eq] at h
    rw[h.1,h.2]
  · rename_i a b
    rw[show a=b by simpa using h]
  · rename_i a b
    obtain ⟨a⟩:=a
    obtain ⟨b⟩:=b
    simp only[fN,beq_iff_eq] at h
    rw[show a=b from Array.toList_inj.1 h]
  · rfl
  · simp at h
def zI (q:V→V→Bool):List V→List V→Bool
  | [],[]=>true
  | a :: l,b :: m=>q a b && zI q l m
  | _,_=>false
def HZ (q:V→V→Bool):List (List V)→List (List V)→Bool
  | [],[]=>true
  | a :: l,b :: m=>zI q a b && HZ q l m
  | _,_=>false
def CN:Nat→V→V→Bool
  | 0,_,_=>false
  | k+1,a,b=>match a,b with
    | .val x,.val y=>IV x y
    | .aL x,.aL y=>HZ (CN k) x y
    | .agg x,.agg y=>zI (CN k) x y
    | .bf x,.bf y=>zI (CN k) x y
    | _,_=>false
theorem tY {q:V→V→Bool} (hq:∀ a b,q a b=true→a=b):∀ (l m:List V),zI q l m=true→l=m
  | [],[],_=>rfl
  | a :: l,b :: m,h=>by
    simp only[zI,Bool.and_eq_true] at h
    rw[hq a b h.1,tY hq l m h.2]
  | [],_ :: _,h=>by simp[zI] at h
  | _ :: _,[],h=>by simp[zI] at h
theorem JW {q:V→V→Bool} (hq:∀ a b,q a b=true→a=b):∀ (l m:List (List V)),HZ q l m=true→l=m
  | [],[],_=>rfl
  | a :: l,b :: m,h=>by
    simp only[HZ,Bool.and_eq_true] at h
    rw[tY hq a b h.1,JW hq l m h.2]
  | [],_ :: _,h=>by simp[HZ] at h
  | _ :: _,[],h=>by simp[HZ] at h
theorem FL:∀ (k:Nat) (a b:V),CN k a b=true→a=b
  | 0,_,_,h=>by simp[CN] at h
  | k+1,a,b,h=>by
    have ih:=FL k
    unfold CN at h
    split at h
    · rw[MG _ _ h]
    · rw[JW ih _ _ h]
    · rw[tY ih _ _ h]
    · rw[tY ih _ _ h]
    · simp at h
def rJ:Nat→V→Bool
  | 0,_=>false
  | k+1,v=>match v with
    | .val _=>true
    | .emp _=>true
    | .dw=>true
    | .aL es=>es.all fun e=>e.all (rJ k)
    | .agg cs=>cs.all (rJ k)
    | .bf cs=>cs.all (rJ k)
    | _=>false
theorem wD {q:V→Bool} {l:List V} (h:l.all q=true) {i:Nat} (hi:i < l.length):q (l.getD i .any)=true:=by
  have e:l.getD i .any=l[i]:=by simp[List.getD_eq_getElem?_getD,hi]
  rw[e]
  exact List.all_eq_true.1 h _ (List.getElem_mem _)
theorem AE:∀ (k:Nat) (v:V),rJ k v=true→Tree v
  | 0,_,h=>by simp[rJ] at h
  | k+1,v,h=>by
    have ih:=AE k
    unfold rJ at h
    split at h
    · exact .val _
    · exact .emp _
    · exact .dw
    · rename_i es
      refine .aL _ fun i j hi hj=>ih _ ?_
      have e:es.getD i []=es[i]:=by simp[List.getD_eq_getElem?_getD,hi]
      have h1:=List.all_eq_true.1 h _ (List.getElem_mem hi)
      rw[e] at hj ⊢
      exact wD h1 hj
    · exact .agg _ fun i hi=>ih _ (wD h hi)
    · exact .bf _ fun i hi=>ih _ (wD h hi)
    · simp at h
noncomputable def wC (H:View):Nat→V→Option V
  | 0,_=>none
  | k+1,v=>match v with
    | .val x=>some (.val x)
    | .emp _=>some (.aL [])
    | .aL es=>match rJ 60 (.aL es) with
      | true=>some (.aL es)
      | false=>none
    | .sl id off len _=>match H id with
      | .arr _ es=>match Nat.ble (off+len) es.length with
        | true=>(Cv (wC H k) ((es.drop off).take len)).map .aL
        | false=>none
      | _=>none
    | .agg cs=>(lz (wC H k) cs).map .agg
    | .bf cs=>(lz (wC H k) cs).map .bf
    | _=>none
theorem B8 (h:aH):∀ (k:Nat) (v t:V),wC h.view k v=some t→Fr h v t
  | 0,v,t,hf=>by simp[wC] at hf
  | k+1,v,t,hf=>by
    have ih:=B8 h k
    simp only[wC] at hf
    split at hf
    · simp only[Option.some.injEq] at hf; subst hf; exact .tree _ (.val _)
    · simp only[Option.some.injEq] at hf; subst hf; exact .emp _
    · split at hf
      · rename_i ht
        simp only[Option.some.injEq] at hf; subst hf; exact .tree _ (AE _ _ ht)
      · simp at hf
    · rename_i id off len esz
      split at hf
      · rename_i z es hH
        split at hf
        · rename_i hle
          have hle:=Nat.le_of_ble_eq_true hle
          simp only[Option.map_eq_some_iff] at hf
          obtain ⟨es',he,rfl⟩:=hf
          obtain ⟨g1,g2⟩:=Cr _ _ he
          have hlen:es'.length=len:=by rw[g1]; simp; omega
          have hg:∀ i,i < len→((es.drop off).take len).getD i []=es.getD (off+i) []:=fun i hi=>by
            simp[List.getD_eq_getElem?_getD,List.getElem?_take,hi]
          have g3:∀ i,i < len→lz (wC h.view k) (es.getD (off+i) [])=some (es'.getD i []):=fun i hi=>by
            rw[← hg i hi]; exact g2 i (by rw[← g1,hlen]; exact hi)
          exact .sl id off len esz z es es' hH hle hlen (fun i hi=>(fA _ _ (g3 i hi)).1) (fun i j hi hj=>ih _ _ ((fA _ _ (g3 i hi)).2 j (by rw[← (fA _ _ (g3 i hi)).1]; exact hj)))
        · simp at hf
      · simp at hf
    · simp only[Option.map_eq_some_iff] at hf
      obtain ⟨l,hl,rfl⟩:=hf
      obtain ⟨g1,g2⟩:=fA _ _ hl
      exact .agg _ _ g1 (fun i hi=>ih _ _ (g2 i hi))
    · simp only[Option.map_eq_some_iff] at hf
      obtain ⟨l,hl,rfl⟩:=hf
      obtain ⟨g1,g2⟩:=fA _ _ hl
      exact .bf _ _ g1 (fun i hi=>ih _ _ (g2 i hi))
    · simp at hf
theorem aI.seen {P:Program} {f:FuncId} {vs ts:List V} {t:V} (hc:aI P f ts t) (ht:∀ i,i < vs.length→Tree (vs.getD i .any)) (hl:ts.length=vs.length) (hfr:∀ i,i < vs.length→Fr [] (vs.getD i .any) (ts.getD i .any)):aI P f vs t:=by
  intro Z μ w xs hrel hz
  have hr0:fB Z (fun _=>none) w.heap (cat [] fun _=>.dead):=by
    rw[Cb]
    exact ⟨fun _=>trivial,fun i j b o s o' s' _ h=>by simp at h,fun id b o s h=>by simp at h,hz,fun id b o s h=>by simp at h⟩
  have hno:∀ b,¬ gn (fun _=>none) b:=fun b ⟨_,_,_,h⟩=>by simp at h
  have hts:dM (fun b=>Z b∨gn (fun _=>none) b) μ w.heap ts xs:=⟨by rw[hl,hrel.1],fun i hi=>AZ hr0 (hfr i (by omega)) (v7 (hrel.2 i (by omega)) (ht i (by omega)))⟩
  refine (hc _ μ w xs hts (fun b hb=>hb.elim (hz b) (fun h=>absurd h (hno b)))).mono ?_
  rintro e w' ⟨x,Z',rfl,hv,hs,h1,h2,ho⟩
  exact ⟨x,Z',rfl,hv,hs,fun b hb=>h1 b (.inl hb),fun b hb=>(h2 b hb).elim (fun h=>h.elim .inl (fun h=>absurd h (hno b))) .inr,ho⟩
abbrev eE:=FuncId × List V × V × Bool
def eE.Ok (P:Program) (x:eE):Prop:=cA P x.1=true∧if x.2.2.2=true then aI P x.1 x.2.1 x.2.2.1 else (bY P x.1 x.2.1 x.2.2.1∨(aI P x.1 x.2.1 x.2.2.1∧Aw x.2.2.1))
noncomputable def N1 (g:FuncId) (vs:List V) (H:View) (x:eE):Bool:=Nat.beq x.1 g && (match x.2.2.2 with
  | true=>vs.all (rJ 60) && (match lz (wC (fun _=>.dead) 60) vs with
    | some ts=>zI (CN 60) ts x.2.1
    | none=>false)
  | false=>match lz (wC H 60) vs with
    | some ts=>zI (CN 60) ts x.2.1
    | none=>false)
noncomputable def Ed (l:List eE):x5:=fun g vs H=>(l.find? (N1 g vs H)).map fun x=>x.2.2.1
theorem vm {P:Program} {l:List eE} (hl:∀ x∈l,x.Ok P):qF P (Ed l):=by
  intro g vs H t h
  unfold Ed at h
  simp only[Option.map_eq_some_iff] at h
  obtain ⟨⟨f,ts,r,b⟩,hx,rfl⟩:=h
  obtain ⟨h1,h2⟩:=hl _ (List.mem_of_find?_eq_some hx)
  have hq:=List.find?_some hx
  simp only[N1,Bool.and_eq_true] at hq
  obtain ⟨hg,hq⟩:=hq
  have hg:=Nat.eq_of_beq_eq_true hg
  simp only at hg h1 h2 hq
  subst hg
  refine ⟨h1,?_⟩
  rintro h rfl
  cases b with
  | true =>
    simp only[Bool.and_eq_true] at hq
    obtain ⟨hq1,hq2⟩:=hq
    split at hq2
    · rename_i us hus
      obtain ⟨g1,g2⟩:=fA _ _ hus
      have:=tY (FL 60) _ _ hq2
      subst this
      simp only[if_true] at h2
      exact bW.qj (h2.seen (fun i hi=>AE _ _ (wD hq1 hi)) g1 fun i hi=>B8 [] 60 _ _ (g2 i hi)) h
    · simp at hq2
  | false =>
    simp only at hq
    split at hq
    · rename_i us hus
      obtain ⟨g1,g2⟩:=fA _ _ hus
      have:=tY (FL 60) _ _ hq
      subst this
      have hfr:=fun i hi=>B8 h 60 _ _ (g2 i hi)
      simp only[Bool.false_eq_true,if_false] at h2
      rcases h2 with h2 | ⟨h2,h3⟩
      · exact bW.y8 h2 g1 hfr
      · exact bW.borrow h2 h3 g1 hfr
    · simp at hq
def j1 (x:Int):Bool:=decide (-9223372036854775808≤x) && decide (x≤9223372036854775807)
theorem gf {x:Int} (h:j1 x=true):bJ x:=by
  unfold j1 at h
  simp only[Bool.and_eq_true,decide_eq_true_eq] at h
  exact h
def okB (g:ay):Bool:=decide (g.av.length≤900) && decide (g.aw.length≤100) && decide (g.rules.length≤900) && j1 g.start && g.av.all (fun t=>j1 t.level && j1 t.assoc) && g.rules.all fun r=>j1 r.left && j1 r.prec && decide (r.right.length≤900) && r.right.all j1
theorem Er {g:ay} (h:okB g=true):g.Ok∧g.Small:=by
  unfold okB at h
  simp only[Bool.and_eq_true,decide_eq_true_eq,List.all_eq_true] at h
  obtain ⟨⟨⟨⟨⟨h1,h2⟩,h3⟩,h4⟩,h5⟩,h6⟩:=h
  refine ⟨⟨by unfold aR; omega,by unfold aR; omega,by unfold aR; omega,gf h4,fun t ht=>⟨gf (h5 t ht).1,gf (h5 t ht).2⟩,fun r hr=>?_⟩,⟨by omega⟩⟩
  have:=h6 r hr
  exact ⟨gf this.1.1.1,gf this.1.1.2,by unfold aR; have:=this.1.2; omega,fun x hx=>gf (this.2 x hx)⟩
theorem fP:cO.Ok∧cO.Small:=Er (by kernel_rfl)
theorem Qt {cs:List Value} (h:cs.length=2):cs=[cs.getD 0 undef,cs.getD 1 undef]:=by
  match cs,h with
  | [a,b],_=>rfl
theorem OQ:pC Tryz.prog 84 bo (fun c=>bJ c.kind∧bJ c.n):=fun enc w base sp held fuel cs x h hw=>by
  obtain ⟨hl,hf⟩:=kT Tryz.underlying84 (by
    intro i f hi
    match i,hi with
    | 0,hi=>simp at hi; subst hi; exact ⟨rfl,by kernel_rfl⟩
    | 1,hi=>simp at hi; subst hi; exact ⟨rfl,by kernel_rfl⟩
    | n+2,hi=>simp at hi) (by kernel_rfl) h hw
  obtain ⟨a,h0,h1⟩:=hf 0 _ rfl eC
  obtain ⟨b,h2,h3⟩:=hf 1 _ rfl eC
  refine ⟨⟨a,b⟩,⟨h0,h2⟩,?_⟩
  rw[Qt hl]
  exact cd h1 (cd h3 ni)
theorem Nc (t:dJ):∀ v∈[V.agg (aW t)],Tree v:=by
  intro v hv; simp at hv; subst hv
  exact b9 _ (nE t)
theorem Mj (g:ay) (t:dJ) (w:List Int):∀ (k:Nat) (st rs:List Int) (at_:Nat),(fW g t w k st rs at_).1.length≤rs.length+k:=by
  intro k
  induction k with
  | zero =>
    intro st rs at_
    rw[mY]
    split
    · simp
    · split <;> simp
  | succ k ih =>
    intro st rs at_
    rw[mY]
    split
    · simp
    · split
      · simp
      · simp only
        split
        · have:=ih (st ++ [(cB t (bH st) (bG g w at_)).n]) rs (at_+1); omega
        · split
          · simp
          · split
            · simp
            · refine Nat.le_trans (ih _ _ _) ?_
              simp; omega
theorem FN (g:ay) (t:dJ) (w:List Int):aR (gU g t w).1:=by
  rw[iP]
  unfold aR
  split
  · have:=Mj g t w 2000 [0] [] 0
    simp at this; omega
  · simp
structure gz where
  dA:Int
  cell:Cell
  deriving DecidableEq
structure gI where
  sym:Int
  to:Int
  deriving DecidableEq
structure fp where
  av:Int
  aw:Int
  rows:List (List gz)
  of:List Int
  gotos:List (List gI)
  to:List Int
def ep (x:gz):List V:=[gi x.dA,gi x.cell.kind,gi x.cell.n]
def en (x:gI):List V:=[gi x.sym,gi x.to]
abbrev xz (l:List gz):V:=.aL (l.map ep)
abbrev yd (l:List gI):V:=.aL (l.map en)
def aZ (p:fp):List V:=[gi p.av,gi p.aw,.aL (p.rows.map fun r=>[xz r]),encI p.of,.aL (p.gotos.map fun r=>[yd r]),encI p.to]
theorem A6 (p:fp):∀ v∈aZ p,Tree v:=by
  intro v hv
  simp[aZ] at hv
  rcases hv with rfl | rfl | rfl | rfl | rfl | rfl
  · exact .val _
  · exact .val _
  · exact dg _ _ fun r _ v hv=>by
      simp at hv; subst hv
      exact dg _ _ fun c _ v hv=>by simp[ep] at hv; rcases hv with rfl | rfl | rfl <;> exact .val _
  · exact c6 _
  · exact dg _ _ fun r _ v hv=>by
      simp at hv; subst hv
      exact dg _ _ fun c _ v hv=>by simp[en] at hv; rcases hv with rfl | rfl <;> exact .val _
  · exact c6 _
structure fp.Ok (p:fp):Prop where
  av:bJ p.av
  aw:bJ p.aw
  rows:aR p.rows
  of:aR p.of∧∀ x∈p.of,bJ x
  gotos:aR p.gotos
  to:aR p.to∧∀ x∈p.to,bJ x
  row:∀ r∈p.rows,aR r∧∀ c∈r,bJ c.dA∧bJ c.cell.kind∧bJ c.cell.n
  go:∀ r∈p.gotos,aR r∧∀ x∈r,bJ x.sym∧bJ x.to
theorem MF {P:Program} {t:TypeId} {fs:Array Field} (ht:P.underlying t=some (.struct fs))
    {H:Type} {enc:TypeId × Value→H} {w:World} {base:Nat} {sp:Nat→Bool} {held:Bool} {fuel:Nat} {cs:List Value} {x:DataW H × List MemPlace} (h:DataW.trod enc P w base sp held fuel t cs=some x) (hw:Wt P t x.1) :
    cs.length=P.cellsOf t∧∀ (i:Nat) (f:Field),fs[i]?=some f→∀ {α:Type} {g:α→List V} {ok:α→Prop},pC P f.type g ok→∃ a,ok a∧l0 w.heap ((cs.drop f.offset).take (P.cellsOf f.type)) (g a):=by
  obtain ⟨xs,n,rfl,rfl,hl,hlen,hx⟩:=DataW.trod_struct ht h
  refine ⟨hl,fun i f hi α g ok hr=>?_⟩
  have hi2:i < fs.size:=(Array.getElem?_eq_some_iff.1 hi).1
  have h3:=hx i f hi
  have h4:xs[i]?=some (xs[i]'(by omega)):=List.getElem?_eq_getElem (by omega)
  rw[h4] at h3
  exact hr enc w base sp held n _ _ h3 (Du ht hw hi (by simp[h4]))
theorem Gt {hp:Array Obj} {c d:List Value} {v u:List V} (h:l0 hp c v) (k:l0 hp d u):l0 hp (c ++ d) (v ++ u):=by
  refine ⟨by simp[h.1,k.1],fun μ i hi=>?_⟩
  have h1:=h.1
  by_cases e:i < v.length
  · have:=h.2 μ i e
    simpa [List.getD_eq_getElem?_getD,List.getElem?_append_left e,List.getElem?_append_left (h1 ▸ e)] using this
  · have:=k.2 μ (i - v.length) (by simp at hi; omega)
    simpa [List.getD_eq_getElem?_getD,List.getElem?_append_right (Nat.le_of_not_lt e),List.getElem?_append_right (h1 ▸ Nat.le_of_not_lt e),h1] using this
theorem MJ:pC Tryz.prog 147 ep (fun x=>bJ x.dA∧bJ x.cell.kind∧bJ x.cell.n):=fun enc w base sp held fuel cs x h hw=>by
  obtain ⟨hl,hf⟩:=MF Tryz.underlying147 h hw
  obtain ⟨a,h0,h1⟩:=hf 0 _ rfl eC
  obtain ⟨b,h2,h3⟩:=hf 1 _ rfl OQ
  rw[show Tryz.prog.cellsOf 147=3 by kernel_rfl] at hl
  refine ⟨⟨a,b⟩,⟨h0,h2⟩,?_⟩
  match cs,hl with
  | [c0,c1,c2],_ =>
    have k1:l0 w.heap [c0] [gi a]:=by simpa [show Tryz.prog.cellsOf 3=1 by kernel_rfl] using h1
    have k2:l0 w.heap [c1,c2] (bo b):=by simpa [show Tryz.prog.cellsOf 84=2 by kernel_rfl] using h3
    exact Gt k1 k2
theorem Ot:pC Tryz.prog 150 en (fun c=>bJ c.sym∧bJ c.to):=fun enc w base sp held fuel cs x h hw=>by
  obtain ⟨hl,hf⟩:=kT Tryz.underlying150 (by
    intro i f hi
    match i,hi with
    | 0,hi=>simp at hi; subst hi; exact ⟨rfl,by kernel_rfl⟩
    | 1,hi=>simp at hi; subst hi; exact ⟨rfl,by kernel_rfl⟩
    | n+2,hi=>simp at hi) (by kernel_rfl) h hw
  obtain ⟨a,h0,h1⟩:=hf 0 _ rfl eC
  obtain ⟨b,h2,h3⟩:=hf 1 _ rfl eC
  refine ⟨⟨a,b⟩,⟨h0,h2⟩,?_⟩
  rw[Qt hl]
  exact cd h1 (cd h3 ni)
theorem QV {cs:List Value} (h:cs.length=6):cs=[cs.getD 0 undef,cs.getD 1 undef,cs.getD 2 undef,cs.getD 3 undef,cs.getD 4 undef,cs.getD 5 undef]:=by
  match cs,h with
  | [a,b,c,d,e,f],_=>rfl
theorem Lc:pC Tryz.prog 45 aZ fp.Ok:=fun enc w base sp held fuel cs x h hw=>by
  obtain ⟨hl,hf⟩:=kT Tryz.underlying45 (by
    intro i f hi
    match i,hi with
    | 0,hi=>simp at hi; subst hi; exact ⟨rfl,by kernel_rfl⟩
    | 1,hi=>simp at hi; subst hi; exact ⟨rfl,by kernel_rfl⟩
    | 2,hi=>simp at hi; subst hi; exact ⟨rfl,by kernel_rfl⟩
    | 3,hi=>simp at hi; subst hi; exact ⟨rfl,by kernel_rfl⟩
    | 4,hi=>simp at hi; subst hi; exact ⟨rfl,by kernel_rfl⟩
    | 5,hi=>simp at hi; subst hi; exact ⟨rfl,by kernel_rfl⟩
    | n+6,hi=>simp at hi) (by kernel_rfl) h hw
  obtain ⟨a,a0,a1⟩:=hf 0 _ rfl eC
  obtain ⟨b,b0,b1⟩:=hf 1 _ rfl eC
  obtain ⟨c,c0,c1⟩:=hf 2 _ rfl (iQ Tryz.underlying42 (of_decide_eq_true (by kernel_rfl)) (of_decide_eq_true (by kernel_rfl)) (iQ Tryz.underlying87 (of_decide_eq_true (by kernel_rfl)) (of_decide_eq_true (by kernel_rfl)) MJ))
  obtain ⟨d,d0,d1⟩:=hf 3 _ rfl za
  obtain ⟨e,e0,e1⟩:=hf 4 _ rfl (iQ Tryz.underlying43 (of_decide_eq_true (by kernel_rfl)) (of_decide_eq_true (by kernel_rfl)) (iQ Tryz.underlying88 (of_decide_eq_true (by kernel_rfl)) (of_decide_eq_true (by kernel_rfl)) Ot))
  obtain ⟨f,f0,f1⟩:=hf 5 _ rfl za
  refine ⟨⟨a,b,c,d,e,f⟩,⟨a0,b0,c0.1,d0,e0.1,f0,c0.2,e0.2⟩,?_⟩
  rw[QV hl]
  exact cd a1 (cd b1 (cd c1 (cd d1 (cd e1 (cd f1 ni)))))
def eM (t:Int):Int→List gz→Bool
  | _,[]=>true
  | last,x :: l=>decide (last < x.dA) && decide (x.dA≤t) && decide (x.cell≠⟨0,0⟩) && eM t x.dA l
def eo (t:Int):Int→List gI→Bool
  | _,[]=>true
  | last,x :: l=>decide (last < x.sym) && decide (x.sym < t) && decide (x.to≠-1) && eo t x.sym l
def ez (p:fp):Bool:=decide (0≤p.av∧p.av≤24∧0≤p.aw∧p.aw≤16∧1≤p.of.length∧p.of.length≤300∧p.to.length=p.of.length∧p.rows.length≤300∧p.gotos.length≤300) &&
  (p.of.all fun x=>decide (0≤x) && decide (x < p.rows.length)) && (p.to.all fun x=>decide (0≤x) && decide (x < p.gotos.length)) && (p.rows.all fun r=>eM p.av (-1) r) && p.gotos.all fun r=>eo p.aw (-1) r
def eL (l:List gz) (a:List Cell):List Cell:=l.foldl (fun a x=>a.set x.dA.toNat x.cell) a
def gv (l:List gI) (a:List Int):List Int:=l.foldl (fun a x=>a.set x.sym.toNat x.to) a
def cm (p:fp):dJ:=⟨p.of.map fun n=>eL (p.rows.getD n.toNat []) (List.replicate (p.av.toNat+1) ⟨0,0⟩),p.to.map fun n=>gv (p.gotos.getD n.toNat []) (List.replicate p.aw.toNat (-1))⟩
def kV:SC :=
  .seq (.seq (aq [aa 27 3,ao 28 2 1,an 29 28,aA 30 29,aC 31 .lss 27 30]) <|
  .cond (.tmp 31) (.skip) (.exit 0)) <|
  .seq (.block 1 (.seq (aq [ao 34 2 1,an 35 34,aa 36 3,aD 37 1 35 36,an 38 37,aA 39 38,au 40 .gtr 39 50]) <|
  .cond (.tmp 40) (.seq (aq [aM 2 true]) <|
  .ret) (.skip))) <|
  aq [aa 32 3,au 33 .add 32 1,aa 3 33]
def kM:SC :=
  .seq (.seq (aq [aa 41 4,ao 42 4 1,an 43 42,aA 44 43,aC 45 .lss 41 44]) <|
  .cond (.tmp 45) (.skip) (.exit 2)) <|
  .seq (.block 3 (.seq (aq [ao 48 4 1,an 49 48,aa 50 4,aD 51 1 49 50,an 52 51,aA 53 52,au 54 .gtr 53 50]) <|
  .cond (.tmp 54) (.seq (aq [aM 2 true]) <|
  .ret) (.skip))) <|
  aq [aa 46 4,au 47 .add 46 1,aa 4 47]
def mB:SF:=⟨.seq (aq [bz 1 0,aM 2 false]) <|
  .seq (.seq (.region false [⟨none,[ao 5 2 1,an 6 5,aA 7 6,au 8 .gtr 7 310,aa 9 8]⟩,⟨(some (9,false)),[ao 10 4 1,an 11 10,aA 12 11,au 13 .gtr 12 310]⟩,⟨none,[aS 14 9 13,aa 15 14]⟩,⟨(some (15,false)),[ao 16 3 1,an 17 16,aA 18 17,au 19 .gtr 18 310]⟩,⟨none,[aS 20 15 19,aa 21 20]⟩,⟨(some (21,false)),[ao 22 5 1,an 23 22,aA 24 23,au 25 .gtr 24 310]⟩,⟨none,[aS 26 21 25]⟩]) <|
  .cond (.tmp 26) (.seq (aq [aM 2 true]) <|
  .ret) (.skip)) <|
  .seq (.seq (aq [az 3 0]) <|
  .block 0 (.loop kV)) <|
  .seq (.seq (aq [az 4 0]) <|
  .block 2 (.loop kM)) <|
  .seq (aq [aM 2 false]) <|
  .ret,
  [.tmp 2],55⟩
theorem tf:ba Tryz.prog 20 [1]=some mB:=by kernel_rfl
def ld:SC :=
  .seq (.seq (aq [aa 63 3,ao 64 3 1,an 65 64,aA 66 65,aC 67 .lss 63 66]) <|
  .cond (.tmp 67) (.skip) (.exit 0)) <|
  .seq (.block 1 (.seq (.region false [⟨none,[ao 70 3 1,an 71 70,aa 72 3,aD 73 1 71 72,an 74 73,au 75 .lss 74 0,aa 76 75]⟩,⟨(some (76,false)),[ao 77 3 1,an 78 77,aa 79 3,aD 80 1 78 79,an 81 80,ao 82 2 1,an 83 82,aA 84 83,aC 85 .geq 81 84]⟩,⟨none,[aS 86 76 85,aa 87 86]⟩,⟨(some (87,false)),[ao 88 5 1,an 89 88,aa 90 3,aD 91 1 89 90,an 92 91,au 93 .lss 92 0]⟩,⟨none,[aS 94 87 93,aa 95 94]⟩,⟨(some (95,false)),[ao 96 5 1,an 97 96,aa 98 3,aD 99 1 97 98,an 100 99,ao 101 4 1,an 102 101,aA 103 102,aC 104 .geq 100 103]⟩,⟨none,[aS 105 95 104]⟩]) <|
  .cond (.tmp 105) (.seq (aq [aM 2 false]) <|
  .ret) (.skip))) <|
  aq [aa 68 3,au 69 .add 68 1,aa 3 69]
def kB:SC :=
  .seq (.seq (aq [aa 113 6,ao 114 2 1,an 115 114,aa 116 4,aD 117 1 115 116,an 118 117,aA 119 118,aC 120 .lss 113 119]) <|
  .cond (.tmp 120) (.skip) (.exit 4)) <|
  .seq (.block 5 (.seq (aq [ao 123 2 1,an 124 123,aa 125 4,aD 126 1 124 125,an 127 126,aa 128 6,aD 129 3 127 128,aF 130 3 129,((some 7),.op (.alloc [(.val (.int .i64 0)),(.val (.int .i64 0)),(.val (.int .i64 0))])),(none,.op (.store 3 (.tmp 7) (.tmp 130)))]) <|
  .seq (.seq (.region false [⟨none,[ao 131 0 7,an 132 131,aa 133 5,aC 134 .leq 132 133,aa 135 134]⟩,⟨(some (135,false)),[ao 136 0 7,an 137 136,ao 138 0 1,an 139 138,aC 140 .gtr 137 139]⟩,⟨none,[aS 141 135 140,aa 142 141]⟩,⟨(some (142,false)),[ao 143 1 7,aF 144 2 143,((some 145),.op (.build [(.val (.int .i64 0)),(.val (.int .i64 0))] [])),((some 146),.op (.old (.binOp .eql 84 (.tmp 144) (.tmp 145) 84) 4))]⟩,⟨none,[aS 147 142 146]⟩]) <|
  .cond (.tmp 147) (.seq (aq [aM 2 false]) <|
  .ret) (.skip)) <|
  aq [ao 148 0 7,an 149 148,aa 5 149])) <|
  aq [aa 121 6,au 122 .add 121 1,aa 6 122]
def kZ:SC :=
  .seq (.seq (aq [aa 106 4,ao 107 2 1,an 108 107,aA 109 108,aC 110 .lss 106 109]) <|
  .cond (.tmp 110) (.skip) (.exit 2)) <|
  .seq (.block 3 (.seq (aq [az 5 (-1)]) <|
  .seq (aq [az 6 0]) <|
  .block 4 (.loop kB))) <|
  aq [aa 111 4,au 112 .add 111 1,aa 4 112]
def kE:SC :=
  .seq (.seq (aq [aa 157 10,ao 158 4 1,an 159 158,aa 160 8,aD 161 1 159 160,an 162 161,aA 163 162,aC 164 .lss 157 163]) <|
  .cond (.tmp 164) (.skip) (.exit 8)) <|
  .seq (.block 9 (.seq (aq [ao 167 4 1,an 168 167,aa 169 8,aD 170 1 168 169,an 171 170,aa 172 10,aD 173 2 171 172,aF 174 2 173,((some 11),.op (.alloc [(.val (.int .i64 0)),(.val (.int .i64 0))])),(none,.op (.store 2 (.tmp 11) (.tmp 174)))]) <|
  .seq (.seq (.region false [⟨none,[ao 175 0 11,an 176 175,aa 177 9,aC 178 .leq 176 177,aa 179 178]⟩,⟨(some (179,false)),[ao 180 0 11,an 181 180,ao 182 1 1,an 183 182,aC 184 .geq 181 183]⟩,⟨none,[aS 185 179 184,aa 186 185]⟩,⟨(some (186,false)),[ao 187 1 11,an 188 187,au 189 .eql 188 (-1)]⟩,⟨none,[aS 190 186 189]⟩]) <|
  .cond (.tmp 190) (.seq (aq [aM 2 false]) <|
  .ret) (.skip)) <|
  aq [ao 191 0 11,an 192 191,aa 9 192])) <|
  aq [aa 165 10,au 166 .add 165 1,aa 10 166]
def kH:SC :=
  .seq (.seq (aq [aa 150 8,ao 151 4 1,an 152 151,aA 153 152,aC 154 .lss 150 153]) <|
  .cond (.tmp 154) (.skip) (.exit 6)) <|
  .seq (.block 7 (.seq (aq [az 9 (-1)]) <|
  .seq (aq [az 10 0]) <|
  .block 8 (.loop kE))) <|
  aq [aa 155 8,au 156 .add 155 1,aa 8 156]
def mS:SF:=⟨.seq (aq [bz 1 0,aM 2 false]) <|
  .seq (.seq (.region false [⟨none,[ao 12 0 1,an 13 12,au 14 .lss 13 0,aa 15 14]⟩,⟨(some (15,false)),[ao 16 0 1,an 17 16,au 18 .gtr 17 24]⟩,⟨none,[aS 19 15 18,aa 20 19]⟩,⟨(some (20,false)),[ao 21 1 1,an 22 21,au 23 .lss 22 0]⟩,⟨none,[aS 24 20 23,aa 25 24]⟩,⟨(some (25,false)),[ao 26 1 1,an 27 26,au 28 .gtr 27 16]⟩,⟨none,[aS 29 25 28,aa 30 29]⟩,⟨(some (30,false)),[ao 31 3 1,an 32 31,aA 33 32,au 34 .lss 33 1]⟩,⟨none,[aS 35 30 34,aa 36 35]⟩,⟨(some (36,false)),[ao 37 3 1,an 38 37,aA 39 38,au 40 .gtr 39 300]⟩,⟨none,[aS 41 36 40,aa 42 41]⟩,⟨(some (42,false)),[ao 43 5 1,an 44 43,aA 45 44,ao 46 3 1,an 47 46,aA 48 47,aC 49 .neq 45 48]⟩,⟨none,[aS 50 42 49,aa 51 50]⟩,⟨(some (51,false)),[ao 52 2 1,an 53 52,aA 54 53,au 55 .gtr 54 300]⟩,⟨none,[aS 56 51 55,aa 57 56]⟩,⟨(some (57,false)),[ao 58 4 1,an 59 58,aA 60 59,au 61 .gtr 60 300]⟩,⟨none,[aS 62 57 61]⟩]) <|
  .cond (.tmp 62) (.seq (aq [aM 2 false]) <|
  .ret) (.skip)) <|
  .seq (.seq (aq [az 3 0]) <|
  .block 0 (.loop ld)) <|
  .seq (.seq (aq [az 4 0]) <|
  .block 2 (.loop kZ)) <|
  .seq (.seq (aq [az 8 0]) <|
  .block 6 (.loop kH)) <|
  .seq (aq [aM 2 true]) <|
  .ret,
  [.tmp 2],193⟩
theorem su:ba Tryz.prog 94 [1]=some mS:=by kernel_rfl
end Gv
