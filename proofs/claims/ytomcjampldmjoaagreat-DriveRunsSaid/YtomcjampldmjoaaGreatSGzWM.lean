/-
  Part 13 of the proof: what the machine does and what the functions answer.
  Conditions: those that each lemma names.
-/
import Derived.Test.YtomcjampldmjoaaGreatSGzWL
set_option linter.unusedSimpArgs false
set_option linter.unusedVariables false
set_option maxRecDepth 100000
namespace Gv
open Go Go.Proofs
def cJ (H:View) (u:V) (l:List Int):Prop:=∃ (id off:Nat) (es:List (List V)),u=.sl id off l.length 1∧H id=.arr 1 es∧off+l.length≤es.length∧(es.drop off).take l.length=bp l
theorem cJ.len {H:View} {u:V} {l:List Int} (h:cJ H u l):dq u=some l.length:=by
  obtain ⟨id,off,es,rfl,_⟩:=h; rfl
theorem cJ.keep {H H':View} {u:V} {l:List Int} (h:cJ H u l) (hk:∀ id es,H id=.arr 1 es→H' id=H id):cJ H' u l:=by
  obtain ⟨id,off,es,h1,h2,h3,h4⟩:=h
  exact ⟨id,off,es,h1,by rw[hk id es h2]; exact h2,h3,h4⟩
theorem cJ.fresh {H:View} {u:V} {l:List Int} (h:cJ H u l) {n:Nat} {o:bK} (hn:H n=.dead):cJ (H.set n o) u l :=
  h.keep fun id es hid=>by
    have:id≠n:=by rintro rfl; rw[hn] at hid; simp at hid
    simp[View.set,this]
theorem cJ.own {H:View} {u:V} {l:List Int} (h:bf H u 1 (bp l)) (hl:l≠[]):cJ H u l:=by
  rcases h with ⟨e,_⟩ | ⟨n,rfl,hn⟩
  · rw[List.map_eq_nil_iff] at e; exact absurd e hl
  · exact ⟨n,0,_,by simp,hn,by simp,by rw[List.drop_zero,List.take_of_length_le (by simp)]⟩
theorem cJ.at {H:View} {u:V} {x:Int} {l:List Int} (h:cJ H u (x :: l)):∃ (id off:Nat) (es:List (List V)),u=.sl id off (l.length+1) 1∧H id=.arr 1 es∧off < es.length∧es.getD off []=[gi x]∧off+(l.length+1)≤es.length:=by
  obtain ⟨id,off,es,h1,h2,h3,h4⟩:=h
  simp only[List.length_cons] at h1 h3 h4
  refine ⟨id,off,es,h1,h2,by omega,?_,h3⟩
  have h5:=congrArg (fun z=>z[0]?) h4
  simp at h5
  have:es[off]?=some (es[off]'(by omega)):=List.getElem?_eq_getElem (by omega)
  rw[this] at h5
  simp at h5
  rw[List.getD_eq_getElem?_getD,this,h5]; rfl
theorem cJ.next {H:View} {id off k:Nat} {x:Int} {l:List Int} (h:cJ H (.sl id off k 1) (x :: l)):cJ H (.sl id (off+1) (k - 1) 1) l:=by
  obtain ⟨id',off',es,h1,h2,h3,h4⟩:=h
  simp only[V.sl.injEq,and_true] at h1
  obtain ⟨rfl,rfl,rfl⟩:=h1
  simp only[List.length_cons] at h3 h4 ⊢
  refine ⟨id,off+1,es,by simp,h2,by omega,?_⟩
  have h5:=congrArg (List.drop 1) h4
  rw[List.drop_take,List.drop_drop] at h5
  simpa using h5
theorem oo {bytes:Nat} {u:V} {l xs:List Int} {H:View} {K:V→View→Prop} {w:b9 (H,K)} (ho:cJ H u l) (hx:xs≠[])
    (hl:(l.length+xs.length) * bytes < aR) (hl2:l.length+xs.length < aR) (hk:∀ u' H',bf H' u' 1 (bp (l ++ xs))→Left H H' u u'→K u' H'):kQ 1 bytes u (bp xs) H K w:=by
  have he:(bp xs).isEmpty=false:=by cases xs with | nil=>exact absurd rfl hx | cons=>rfl
  obtain ⟨id,off,es,rfl,h2,h3,h4⟩:=ho
  rw[oY _ _ _ _ _ _ _ _ _ _ he,h2]
  refine ⟨by simp[List.all_map,aU],⟨h3,rfl,by simpa using hl,by simpa using hl2⟩,fun m hm=>hk _ _ ?_ ?_⟩
  · refine .inr ⟨m,by simp,?_⟩
    rw[h4]; simp[View.set]
  · intro id' hid ho
    have e:id'≠m:=by rintro rfl; exact hid hm
    have e2:id'≠id:=by rintro rfl; exact ho rfl
    exact ⟨by simp[View.set,e,e2],by simp[owner,Ne.symm e]⟩
def Gp (H:View) (w:Option Way) (v:Option V):Prop:=match w with
  | none=>v=none
  | some w=>(w.bN = -1∧v=some (.val (.pointer none)))∨(0≤w.bN∧∃ p,v=some (.ptr p 0 0)∧H p=.arr 2 [[gi w.bN,gi w.place]])
def gJ (H:View) (F:List Way) (m:de Int):Prop:=∀ n,Gp H (lookW F n) (getM m n)
theorem Gp.keep {H H':View} {w:Option Way} {v:Option V} (h:Gp H w v) (hk:∀ id es,H id=.arr 2 es→H' id=H id):Gp H' w v:=by
  cases w with
  | none=>exact h
  | some w =>
    rcases h with h | ⟨h1,p,h2,h3⟩
    · exact .inl h
    · exact .inr ⟨h1,p,h2,by rw[hk p _ h3]; exact h3⟩
theorem gJ.keep {H H':View} {F:List Way} {m:de Int} (h:gJ H F m) (hk:∀ id es,H id=.arr 2 es→H' id=H id):gJ H' F m:=fun n=>(h n).keep hk
theorem gJ.fresh {H:View} {F:List Way} {m:de Int} (h:gJ H F m) {n:Nat} {o:bK} (hn:H n=.dead):gJ (H.set n o) F m :=
  h.keep fun id es hid=>by
    have:id≠n:=by rintro rfl; rw[hn] at hid; simp at hid
    simp[View.set,this]
theorem Gi {H:View} {u:V} {l:List Int} (h:cJ H u l) {id:Nat} (hid:owner u=some id):∃ es,H id=.arr 1 es:=by
  obtain ⟨i,off,es,rfl,h2,_⟩:=h
  simp[owner] at hid; subst hid
  exact ⟨es,h2⟩
theorem gJ.left {H H':View} {F:List Way} {m:de Int} (h:gJ H F m) {u u':V} {l:List Int} (ht:cJ H u l) (hl:Left H H' u u'):gJ H' F m :=
  h.keep fun id es hid=>(hl id (by rw[hid]; simp) (fun e=>by obtain ⟨es',h2⟩:=Gi ht e; rw[hid] at h2; simp at h2)).1
theorem gJ.put {H:View} {F:List Way} {m:de Int} (h:gJ H F m) {p c k j:Nat} {n:Int} (hn:n ∉ jj F) (hp:H p=.arr 2 [[gi k,gi j]]):gJ H (F ++ [⟨n,k,j⟩]) (cX n (.ptr p 0 0) c m):=by
  intro n'
  rw[I0,DA]
  by_cases e:n=n'
  · subst e
    rw[Be hn]
    simp only[if_true,beq_self_eq_true]
    exact .inr ⟨by simp only; omega,p,rfl,hp⟩
  · have e2:(n' == n)=false:=by simpa using Ne.symm e
    rw[e2]
    have h1:=h n'
    cases hl:lookW F n' with
    | some w=>rw[hl] at h1; simpa using h1
    | none =>
      rw[hl] at h1
      simp only
      rw[if_neg e]
      simpa using h1
theorem gJ.has {H:View} {F:List Way} {m:de Int} (h:gJ H F m) (n:Int):(getM m n).isSome=decide (n∈jj F):=by
  have h1:=h n
  by_cases e:n∈jj F
  · obtain ⟨x,hx,_⟩:=LZ e
    rw[hx] at h1
    rcases h1 with ⟨_,h1⟩ | ⟨_,p,h1,_⟩ <;> rw[h1] <;> simp[e]
  · rw[Be e] at h1
    have h2:getM m n=none:=h1
    rw[h2]; simp[e]
def ta (x:List Int × Int × Int):V:=.bh [encI x.1,gi x.2.1,gi x.2.2]
theorem hQ {h:aE} {u:V} {x:List Int × Int × Int} (hu:dh h u (encI x.1)):dh h (.bh [u,gi x.2.1,gi x.2.2]) (ta x):=.bh _ _ rfl fun i hi=>by
  match i,hi with
  | 0,_=>exact hu
  | 1,_=>exact .val _
  | 2,_=>exact .val _
theorem cJ.all {H:View} {u:V} {l:List Int} (h:cJ H u l):∃ (id off:Nat) (es:List (List V)),u=.sl id off l.length 1∧H id=.arr 1 es∧off+l.length≤es.length∧∀ j,j < l.length→es.getD (off+j) []=[gi (l.getD j 0)]:=by
  obtain ⟨id,off,es,h1,h2,h3,h4⟩:=h
  refine ⟨id,off,es,h1,h2,h3,fun j hj=>?_⟩
  have h5:=congrArg (fun z=>z[j]?) h4
  simp only[List.getElem?_take,hj,if_true,List.getElem?_drop,List.getElem?_map,List.getElem?_eq_getElem hj,Option.map_some] at h5
  rw[List.getD_eq_getElem?_getD,h5,List.getD_eq_getElem?_getD,List.getElem?_eq_getElem hj]; rfl
theorem cJ.take {H:View} {id off k:Nat} {l:List Int} (h:cJ H (.sl id off k 1) l) {m:Nat} (hm:m≤l.length):cJ H (.sl id off m 1) (l.take m):=by
  obtain ⟨id',off',es,h1,h2,h3,h4⟩:=h
  simp only[V.sl.injEq,and_true] at h1
  obtain ⟨rfl,rfl,rfl⟩:=h1
  refine ⟨id,off,es,by simp; omega,h2,by simp; omega,?_⟩
  have h5:=congrArg (List.take m) h4
  rw[List.take_take,show min m l.length=m by omega] at h5
  rw[show (l.take m).length=m by simp; omega,h5]
  exact List.map_take.symm
theorem xu {id off k m:Nat} (hm:m≤k):gR 1 (.sl id off k 1) none (some (gi m))=some (.sl id off m 1,.none,[]):=by
  simp[gR,bound,asNat,hm]
theorem lM (g:aw) (t:c6) (w:List Int) (k:Nat) (st rs:List Int) (at_:Nat):fv g t w k st rs at_=(
    if (cr t (bw st) (bz g w at_)).kind=3∧at_=w.length then (rs,(at_:Int),(0:Int))
    else if (cr t (bw st) (bz g w at_)).kind=0∨(cr t (bw st) (bz g w at_)).kind=3∨(cr t (bw st) (bz g w at_)).kind=1∧at_=w.length then ([],(at_:Int),3)
    else match k with
      | 0=>([],(at_:Int),14)
      | k+1 =>
        if (cr t (bw st) (bz g w at_)).kind=1 then fv g t w k (st ++ [(cr t (bw st) (bz g w at_)).n]) rs (at_+1)
        else if st.length≤(bU g (cr t (bw st) (bz g w at_)).n).right.length then ([],(at_:Int),3)
        else if fI t (bw (st.take (st.length - (bU g (cr t (bw st) (bz g w at_)).n).right.length))) (bU g (cr t (bw st) (bz g w at_)).n).left = -1 then ([],(at_:Int),3)
        else fv g t w k (st.take (st.length - (bU g (cr t (bw st) (bz g w at_)).n).right.length) ++ [fI t (bw (st.take (st.length - (bU g (cr t (bw st) (bz g w at_)).n).right.length))) (bU g (cr t (bw st) (bz g w at_)).n).left])
          (rs ++ [(cr t (bw st) (bz g w at_)).n]) at_):=by
  cases k <;> (conv=>lhs; unfold fv) <;> rfl
theorem KF {es:List (List V)} {off:Nat} {st:List Int} (h:∀ j,j < st.length→es.getD (off+j) []=[gi (st.getD j 0)]) (hs:0 < st.length):es.getD (off+((st.length:Int) - 1).toNat) []=[gi (bw st)]:=by
  have:=h (st.length - 1) (by omega)
  rw[show ((st.length:Int) - 1).toNat=st.length - 1 by omega,this,bw]
theorem AH {g:aw} {w:List Int} (hw:∀ x∈w,0≤x∧x < (g.ay.length:Int)) (i:Nat):0≤bz g w i∧bz g w i≤g.ay.length:=by
  unfold bz
  split
  · rename_i h
    have:=hw _ (List.mem_of_getElem? (getD_some (d:=0) h))
    omega
  · omega
theorem g9 (g:aw) (t:c6) (w:List Int):iX g t w=if (fc g w && eC g t)=true then fv g t w 2000 [0] [] 0 else ([],0,1):=by
  unfold iX fc wi
  rfl
theorem yA (g:aw) (t:c6) (w:List Int):∀ v∈[V.agg (av g),.agg (aP t),encI w],Tree v:=by
  intro v hv; simp at hv
  rcases hv with rfl | rfl | rfl
  · exact cy _ (cH g)
  · exact cy _ (iR t)
  · exact ej w
theorem C6 {g:aw} {w:List Int} (h:fc g w=true):w.length≤60∧∀ x∈w,0≤x∧x < (g.ay.length:Int):=by
  unfold fc wi at h
  simp only[Bool.and_eq_true,decide_eq_true_eq,List.all_eq_true] at h
  exact ⟨h.1.2,h.2⟩
theorem mw {g:aw} {n:Nat} {c:Cell} (h:ji g n c=true):(c.kind=0∨c.kind=3)∨(c.kind=1∧0≤c.n∧c.n < n)∨(c.kind=2∧0≤c.n∧c.n < g.rules.length):=by
  unfold ji at h
  split at h
  · rename_i e; exact .inl e
  · split at h
    · rename_i e; simp at h; exact .inr (.inl ⟨e,h⟩)
    · split at h
      · rename_i e; simp at h; exact .inr (.inr ⟨e,h⟩)
      · simp at h
def jB:SC :=
  .seq (.block 1 (.seq (aq [an 31 0 3,ak 32 31,aC 33 32,aa 13 33]) <|
  .seq (.seq (aq [aa 34 11,aa 35 2,aC 36 35,aF 37 .lss 34 36]) <|
  .cond (.tmp 37) (aq [aa 38 2,aa 39 11,aG 40 1 38 39,ak 41 40,aa 13 41]) (.skip)) <|
  .seq (aq [aa 42 9,aa 43 9,aC 44 43,au 45 .sub 44 1,aG 46 1 42 45,ak 47 46,aa 14 47]) <|
  .seq (aq [an 48 0 4,ak 49 48,aa 50 14,aG 51 1 49 50,ak 52 51,aa 53 13,aG 54 2 52 53,aH 55 2 54,((some 15),.op (.alloc [(.val (.int .i64 0)),(.val (.int .i64 0))])),(none,.op (.store 2 (.tmp 15) (.tmp 55)))]) <|
  .seq (.seq (.region false [⟨none,[an 56 0 15,ak 57 56,au 58 .eql 57 3,aa 59 58]⟩,⟨(some (59,true)),[aa 60 11,aa 61 2,aC 62 61,aF 63 .eql 60 62]⟩,⟨none,[bj 64 59 63]⟩]) <|
  .cond (.tmp 64) (.seq (aq [aa 65 10,aa 66 11,aa 6 65,aa 7 66,aA 8 0]) <|
  .ret) (.skip)) <|
  .seq (.seq (.region false [⟨none,[an 67 0 15,ak 68 67,au 69 .eql 68 0,aa 70 69]⟩,⟨(some (70,false)),[an 71 0 15,ak 72 71,au 73 .eql 72 3]⟩,⟨none,[aX 74 70 73,aa 75 74]⟩,⟨(some (75,false)),[an 76 0 15,ak 77 76,au 78 .eql 77 1,aa 79 78]⟩,⟨(some (79,true)),[aa 80 11,aa 81 2,aC 82 81,aF 83 .eql 80 82]⟩,⟨(some (75,false)),[bj 84 79 83]⟩,⟨none,[aX 85 75 84]⟩]) <|
  .cond (.tmp 85) (.seq (aq [aa 86 11,((some 6),.op (.aW (.val (.emp 1)))),aa 7 86,aA 8 3]) <|
  .ret) (.skip)) <|
  .seq (.seq (aq [aa 87 12,au 88 .eql 87 2000]) <|
  .cond (.tmp 88) (.seq (aq [aa 89 11,((some 6),.op (.aW (.val (.emp 1)))),aa 7 89,aA 8 14]) <|
  .ret) (.skip)) <|
  .seq (.seq (aq [an 90 0 15,ak 91 90,au 92 .eql 91 1]) <|
  .cond (.tmp 92) (.seq (aq [aa 93 9,an 94 1 15,ak 95 94,((some 96),.op (.aS 1 1 [(.val (.int .i64 0))] [(0,(.tmp 95))])),((some 97),.op (.app 1 8 (.tmp 93) (.tmp 96))),aa 9 97]) <|
  .seq (aq [aa 98 11,au 99 .add 98 1,aa 11 99]) <|
  .exit 1) (.skip)) <|
  .seq (aq [an 100 2 3,ak 101 100,an 102 1 15,ak 103 102,aG 104 3 101 103,aH 105 3 104,((some 16),.op (.alloc [(.val (.int .i64 0)),(.emp 1),(.val (.int .i64 0))])),(none,.op (.store 3 (.tmp 16) (.tmp 105)))]) <|
  .seq (.seq (aq [an 106 1 16,ak 107 106,aC 108 107,aa 109 9,aC 110 109,aF 111 .geq 108 110]) <|
  .cond (.tmp 111) (.seq (aq [aa 112 11,((some 6),.op (.aW (.val (.emp 1)))),aa 7 112,aA 8 3]) <|
  .ret) (.skip)) <|
  .seq (aq [aa 113 9,aa 114 9,aC 115 114,an 116 1 16,ak 117 116,aC 118 117,aF 119 .sub 115 118,((some 120),.op (.slice 1 (.tmp 113) none (some (.tmp 119)))),aa 9 120]) <|
  .seq (aq [an 121 1 4,ak 122 121,aa 123 9,aa 124 9,aC 125 124,au 126 .sub 125 1,aG 127 1 123 126,ak 128 127,aG 129 1 122 128,ak 130 129,an 131 0 16,ak 132 131,aG 133 1 130 132,ak 134 133,aa 17 134]) <|
  .seq (.seq (aq [aa 135 17,au 136 .eql 135 (-1)]) <|
  .cond (.tmp 136) (.seq (aq [aa 137 11,((some 6),.op (.aW (.val (.emp 1)))),aa 7 137,aA 8 3]) <|
  .ret) (.skip)) <|
  .seq (aq [aa 138 9,aa 139 17,((some 140),.op (.aS 1 1 [(.val (.int .i64 0))] [(0,(.tmp 139))])),((some 141),.op (.app 1 8 (.tmp 138) (.tmp 140))),aa 9 141]) <|
  aq [aa 142 10,an 143 1 15,ak 144 143,((some 145),.op (.aS 1 1 [(.val (.int .i64 0))] [(0,(.tmp 144))])),((some 146),.op (.app 1 8 (.tmp 142) (.tmp 145))),aa 10 146])) <|
  aq [aa 29 12,au 30 .add 29 1,aa 12 30]
def k9:SF:=⟨.seq (aq [bA 3 0,bA 4 1,((some 6),.op (.aW (.val (.emp 1)))),aA 7 0,aA 8 0]) <|
  .seq (.seq (.region false [⟨none,[aH 18 4 3,aa 19 2,aI 20 19 [18,19],bB 21 20,aa 22 21]⟩,⟨(some (22,false)),[aH 23 4 3,aH 24 2 4,aI 25 44 [23,24],bB 26 25]⟩,⟨none,[aX 27 22 26]⟩]) <|
  .cond (.tmp 27) (.seq (aq [((some 6),.op (.aW (.val (.emp 1)))),aA 7 0,aA 8 1]) <|
  .ret) (.skip)) <|
  .seq (aq [((some 28),.op (.aS 1 1 [(.val (.int .i64 0))] [(0,(.val (.val (.int .i64 0))))])),aa 9 28]) <|
  .seq (aq [((some 10),.op (.aW (.val (.emp 1))))]) <|
  .seq (aq [aA 11 0]) <|
  .seq (aq [aA 12 0]) <|
  .block 0 (.loop jB),
  [.tmp 6,.tmp 7,.tmp 8],147⟩
theorem qX:bo Tryz.prog 16 [3,4]=some k9:=by kernel_rfl
set_option maxHeartbeats 8000000 in
theorem Gs (g:aw) (hg:g.Ok) (t:c6) (ht:t.Ok) (w:List Int) (hw:bc w) (hn:∀ x∈w,bW x):b6 Tryz.prog 16 [.agg (av g),.agg (aP t),encI w] (ta (iX g t w)):=by
  refine b6.of (yA g t w) ?_
  have hc1:=Bn g hg w hw hn
  have hc2:=GB g hg t ht
  refine aL.of mixed qX ?_
  simp only[av,encS,aP,encI] at hc1 hc2
  rw[g9]
  simp (disch:=omega) only [↓wr,↓reduceIte,wq,ai,Nat.reduceEqDiff,Nat.reduceAdd,Nat.reduceLeDiff,k9,av,encS,aP,encI]
  refine aO.pure hc1 (by kernel_rfl) ?_
  simp (disch:=omega) only [↓wr,↓reduceIte,wq]
  refine ar.split (fun hwb=>?_) (fun hwb=>?_)
  rotate_left
  · simp (disch:=omega) only [↓wr,↓reduceIte,wq,Nat.reduceEqDiff,reduceCtorEq]
    intro h' _
    rw[hwb]
    exact hQ (x:=([],0,1)) (.emp _)
  simp (disch:=omega) only [↓wr,↓reduceIte,wq,Nat.reduceEqDiff,Nat.reduceAdd,Nat.reduceLeDiff]
  refine aO.pure hc2 (by kernel_rfl) ?_
  simp (disch:=omega) only [↓wr,↓reduceIte,wq,Nat.reduceEqDiff]
  refine ar.split (fun hrt=>?_) (fun hrt=>?_)
  rotate_left
  · simp (disch:=omega) only [↓wr,↓reduceIte,wq,Nat.reduceEqDiff,reduceCtorEq]
    intro h' _
    rw[hwb,hrt]
    exact hQ (x:=([],0,1)) (.emp _)
  have htf:=q9 hrt
  have hf:=bD htf.right
  obtain ⟨hw60,hwin⟩:=C6 hwb
  rw[hwb,hrt]
  simp only[Bool.and_self,if_true]
  generalize hX:fv g t w 2000 [0] [] 0=X
  simp (disch:=omega) only [↓wr,↓reduceIte,wq,af,Nat.reduceLT]
  intro m
  refine bC.up 2001 (fun i T H'=>∃ (us ur:V) (st rs:List Int) (at_:Nat),i≤2000∧fv g t w (2000 - i) st rs at_=X∧xw t st∧cJ H' us st∧bf H' ur 1 (bp rs)∧(∀ id,owner us=some id→owner ur≠some id)∧at_≤w.length∧st.length≤i+1∧rs.length≤i ∧
    T 2=encI w∧T 3=.aQ (av g) 0∧T 4=.aQ (aP t) 0∧T 9=us∧T 10=ur∧T 11=gi at_∧T 12=gi i) ?_ ?_
  · refine ⟨.sl m 0 1 1,.emp 1,[0],[],0,by omega,hX,⟨by simp,by have:=htf.n1; intro x hx; simp at hx; subst hx; omega⟩,?_,.nil,by simp[owner],by omega,by simp,by simp,rfl,rfl,rfl,rfl,rfl,rfl,rfl⟩
    exact cJ.own (.inr ⟨m,rfl,by simp[View.set]⟩) (by simp)
  rintro i k T H' hk ⟨us,ur,st,rs,at_,hi,hrun,hst,hus,hur,hdis,hat,hsl,hrl,t2,t3,t4,t9,t10,t11,t12⟩
  obtain ⟨a1,a2⟩:=AH hwin at_
  obtain ⟨sid,soff,ses,hu1,hu2,hu3,hu4⟩:=hus.all
  have hst1:=List.length_pos_iff.2 hst.1
  have htop:=hst.2 _ (oU hst.1)
  have htope:=KF hu4 hst1
  obtain ⟨hcf,hcg⟩:=htf.cell (s:=bw st) (x:=bz g w at_) htop ⟨a1,a2⟩
  rw[lM] at hrun
  have hrow:t.aD[(bw st).toNat]?=some (t.aD.getD (bw st).toNat []):=getD_some (by omega)
  have hrowl:=(htf.um (i:=(bw st).toNat) (by omega)).1
  generalize hc:cr t (bw st) (bz g w at_)=c at hrun hcf hcg
  generalize t.aD.getD (bw st).toNat []=row at hrow hcg hrowl
  simp (disch:=omega) only [↓wr,↓reduceIte,wq,ag,ao,Nat.reduceEqDiff,Nat.reduceAdd,Nat.reduceLT,Int.reduceNeg,jB,t2,t3,t11,av,encS,encI]
  refine ar.dec (fun hx=>?_) (fun hx=>?_)
  have hx1:w[at_]?=some (bz g w at_):=by
    unfold bz; rw[if_pos (by omega)]; exact getD_some (by omega)
  simp (disch:=omega) only [↓wr,↓reduceIte,wq,ag,ao,ab,Nat.reduceEqDiff,Nat.reduceAdd,Nat.reduceLT,Nat.reduceLeDiff,Int.reduceNeg,t2,t4,t9,t11,aP,encI,List.getElem?_map,hx1,hu1,hu2,htope,hrow,hcg,cb]
  rotate_left
  have hx1:bz g w at_=g.ay.length:=by unfold bz; rw[if_neg (by omega)]
  rw[hx1,Int.toNat_natCast] at hcg
  simp (disch:=omega) only [↓wr,↓reduceIte,wq,ag,ao,ab,Nat.reduceEqDiff,Nat.reduceAdd,Nat.reduceLT,Nat.reduceLeDiff,Int.reduceNeg,t4,t9,aP,encI,List.getElem?_map,hu1,hu2,htope,hrow,hcg,cb]
  rotate_left
  all_goals (
    refine ⟨by omega,by omega,fun b hb=>?_⟩
    rw[set_set]
    have hbb:(H'.set b (.arr 2 [[gi c.kind,gi c.n]])) b=.arr 2 [[gi c.kind,gi c.n]]:=by simp[View.set]
    have hus5:=hus.fresh hb (o:=.arr 2 [[gi c.kind,gi c.n]])
    have hur5:=hur.fresh hb (o:=.arr 2 [[gi c.kind,gi c.n]])
    have hbs:¬ b=sid:=by rintro rfl; rw[hu2] at hb; simp at hb
    have hu25:(H'.set b (.arr 2 [[gi c.kind,gi c.n]])) sid=.arr 1 ses:=by simp[View.set,Ne.symm hbs,hu2]
    generalize H'.set b (.arr 2 [[gi c.kind,gi c.n]])=H5 at hbb hus5 hur5 hu25
    have eX:∀ (e:Int) (h':aE),X=([],(at_:Int),e)→dh h' (.bh [.emp 1,gi at_,gi e]) (ta X):=fun e h' hX=>by rw[hX]; exact hQ (x:=([],(at_:Int),e)) (.emp _)
    refine ar.eq (fun k3=>?_) (fun k3=>?_)
    · simp (disch:=omega) only [↓wr,↓reduceIte,wq,ag,ao,Nat.reduceEqDiff,Int.reduceNeg,t2,t11,encI]
      refine ar.eq (fun ha=>?_) (fun ha=>?_)
      · simp (disch:=omega) only [↓wr,↓reduceIte,wq,ag,Nat.reduceEqDiff,Int.reduceNeg,reduceCtorEq,t10,t11,t12]
        rintro h' rfl
        rw[if_pos ⟨k3,by omega⟩] at hrun
        rw[← hrun]
        exact hQ (x:=(rs,(at_:Int),0)) (uu hur5)
      · rw[if_neg (by omega),if_pos (.inr (.inl k3))] at hrun
        simp (disch:=omega) only [↓wr,↓reduceIte,wq,ag,Nat.reduceEqDiff,Nat.reduceAdd,Nat.reduceLT,Int.reduceNeg,hbb]
        refine ar.eq (fun h=>by omega) (fun _=>?_)
        simp (disch:=omega) only [↓wr,↓reduceIte,wq,ag,Nat.reduceEqDiff,Nat.reduceAdd,Nat.reduceLT,Int.reduceNeg,hbb]
        refine ar.eq (fun _=>?_) (fun h=>absurd k3 h)
        simp (disch:=omega) only [↓wr,↓reduceIte,wq,ag,Nat.reduceEqDiff,Int.reduceNeg,reduceCtorEq,t11,t12]
        intro h' _
        exact eX 3 h' hrun.symm
    simp (disch:=omega) only [↓wr,↓reduceIte,wq,ag,Nat.reduceEqDiff,Nat.reduceAdd,Nat.reduceLT,Int.reduceNeg,hbb]
    refine ar.eq (fun k0=>?_) (fun k0=>?_)
    · rw[if_neg (by omega),if_pos (.inl k0)] at hrun
      simp (disch:=omega) only [↓wr,↓reduceIte,wq,ag,Nat.reduceEqDiff,Int.reduceNeg,reduceCtorEq,t11,t12]
      intro h' _
      exact eX 3 h' hrun.symm
    simp (disch:=omega) only [↓wr,↓reduceIte,wq,ag,Nat.reduceEqDiff,Nat.reduceAdd,Nat.reduceLT,Int.reduceNeg,hbb]
    refine ar.eq (fun h=>absurd h k3) (fun _=>?_)
    simp (disch:=omega) only [↓wr,↓reduceIte,wq,ag,Nat.reduceEqDiff,Nat.reduceAdd,Nat.reduceLT,Int.reduceNeg,hbb]
    refine ar.eq (fun k1=>?_) (fun k1=>?_)
    · simp (disch:=omega) only [↓wr,↓reduceIte,wq,ag,ao,Nat.reduceEqDiff,Int.reduceNeg,t2,t11,encI]
      refine ar.eq (fun ha=>?_) (fun ha=>?_)
      · rw[if_neg (by omega),if_pos (.inr (.inr ⟨k1,by omega⟩))] at hrun
        simp (disch:=omega) only [↓wr,↓reduceIte,wq,ag,Nat.reduceEqDiff,Int.reduceNeg,reduceCtorEq,t11,t12]
        intro h' _
        exact eX 3 h' hrun.symm
      rw[if_neg (by omega),if_neg (by omega)] at hrun
      simp (disch:=omega) only [↓wr,↓reduceIte,wq,ag,Nat.reduceEqDiff,Int.reduceNeg,t12]
      refine ar.eq (fun hn=>?_) (fun hn=>?_)
      · rw[show 2000 - i=0 by omega] at hrun
        simp (disch:=omega) only [↓wr,↓reduceIte,wq,ag,Nat.reduceEqDiff,Int.reduceNeg,reduceCtorEq,t11,t12]
        intro h' _
        exact eX 14 h' hrun.symm
      obtain ⟨k2,ek⟩:∃ k2,2000 - i=k2+1:=⟨2000 - i - 1,by omega⟩
      rw[ek] at hrun
      simp only[k1,if_true] at hrun
      simp (disch:=omega) only [↓wr,↓reduceIte,wq,ag,Nat.reduceEqDiff,Nat.reduceAdd,Nat.reduceLT,Int.reduceNeg,hbb]
      refine ar.eq (fun _=>?_) (fun h=>absurd k1 h)
      simp (disch:=omega) only [↓wr,↓reduceIte,wq,af,Nat.reduceEqDiff,Nat.reduceAdd,Nat.reduceLT,Int.reduceNeg,t9,hbb]
      have hcn:0≤c.n∧c.n < t.aD.length:=by rcases mw hcf with h | h | h <;> omega
      intro q hq
      simp (disch:=omega) only [↓wr,↓reduceIte,wq,Nat.reduceEqDiff,Int.reduceNeg,cT]
      refine oo (xs:=[c.n]) (hus5.fresh hq (o:=.arr 1 [[gi c.n]])) (by simp) (by unfold aR; simp; omega) (by unfold aR; simp; omega) ?_
      intro us2 H6 o2 l2
      have hur6:=(hur5.fresh hq (o:=.arr 1 [[gi c.n]]))
      simp (disch:=omega) only [↓wr,↓reduceIte,wq,ag,Nat.reduceEqDiff,Int.reduceNeg,reduceCtorEq,t11,t12]
      refine bM hk (by omega) ⟨us2,ur,st ++ [c.n],rs,at_+1,by omega,by rw[show 2000 - (i+1)=k2 by omega]; exact hrun,.app hst.2 hcn,cJ.own o2 (by simp),hur6.left l2 (fun id h1 h2=>hdis id h2 h1),fun id h1 h2=>?_,by omega,by simp; omega,by omega,t2,t3,t4,rfl,t10,rfl,rfl⟩
      exact (l2 id (by rw[(hur6.live h2).1]; simp) (fun e=>hdis id e h2)).2 h1
    · have hcn:c.kind=2∧0≤c.n∧c.n < g.rules.length:=by rcases mw hcf with h | h | h <;> omega
      rw[if_neg (by omega),if_neg (by omega)] at hrun
      simp (disch:=omega) only [↓wr,↓reduceIte,wq,ag,Nat.reduceEqDiff,Int.reduceNeg,t12]
      refine ar.eq (fun hn=>?_) (fun hn=>?_)
      · rw[show 2000 - i=0 by omega] at hrun
        simp (disch:=omega) only [↓wr,↓reduceIte,wq,ag,Nat.reduceEqDiff,Int.reduceNeg,reduceCtorEq,t11,t12]
        intro h' _
        exact eX 14 h' hrun.symm
      obtain ⟨k2,ek⟩:∃ k2,2000 - i=k2+1:=⟨2000 - i - 1,by omega⟩
      rw[ek] at hrun
      simp only[if_neg k1] at hrun
      have hR:g.rules[c.n.toNat]?=some (bU g c.n):=by unfold bU; exact getD_some (by omega)
      have hmr:=List.mem_of_getElem? hR
      have hr6:=hf.right _ hmr
      have hlf:=hf.left _ hmr
      generalize bU g c.n=R at hR hmr hr6 hlf hrun
      simp (disch:=omega) only [↓wr,↓reduceIte,wq,ag,Nat.reduceEqDiff,Nat.reduceAdd,Nat.reduceLT,Int.reduceNeg,hbb]
      refine ar.eq (fun h=>absurd h k1) (fun _=>?_)
      simp (disch:=omega) only [↓wr,↓reduceIte,wq,ao,ab,Nat.reduceEqDiff,Nat.reduceAdd,Nat.reduceLT,Nat.reduceLeDiff,Int.reduceNeg,t3,hbb,av,encS,List.getElem?_map,hR,bt]
      intro b2 hb2
      rw[set_set]
      have hne2:¬ b2=b:=by rintro rfl; rw[hbb] at hb2; simp at hb2
      have hbb2:(H5.set b2 (.arr 3 [[gi R.left,encI R.right,gi R.prec]])) b2=.arr 3 [[gi R.left,encI R.right,gi R.prec]]:=by simp[View.set]
      have hbb5:(H5.set b2 (.arr 3 [[gi R.left,encI R.right,gi R.prec]])) b=.arr 2 [[gi c.kind,gi c.n]]:=by simp[View.set,Ne.symm hne2,hbb]
      have hus6:=hus5.fresh hb2 (o:=.arr 3 [[gi R.left,encI R.right,gi R.prec]])
      have hur6:=hur5.fresh hb2 (o:=.arr 3 [[gi R.left,encI R.right,gi R.prec]])
      have hbs2:¬ b2=sid:=by rintro rfl; rw[hu25] at hb2; simp at hb2
      have hu26:(H5.set b2 (.arr 3 [[gi R.left,encI R.right,gi R.prec]])) sid=.arr 1 ses:=by simp[View.set,Ne.symm hbs2,hu25]
      generalize H5.set b2 (.arr 3 [[gi R.left,encI R.right,gi R.prec]])=H6 at hbb2 hbb5 hus6 hur6 hu26
      try simp (disch:=omega) only [↓wr,↓reduceIte,wq,ag,ao,Nat.reduceEqDiff,Int.reduceNeg,t9,hu1,encI]
      refine ar.dec (fun hlen=>?_) (fun hlen=>?_)
      · rw[if_pos (by omega)] at hrun
        simp (disch:=omega) only [↓wr,↓reduceIte,wq,ag,Nat.reduceEqDiff,Int.reduceNeg,reduceCtorEq,t11,t12]
        intro h' _
        exact eX 3 h' hrun.symm
      rw[if_neg (by omega)] at hrun
      obtain ⟨m2,hm2⟩:∃ m2,m2=st.length - R.right.length:=⟨_,rfl⟩
      have em2:(st.length:Int) - R.right.length=m2:=by omega
      rw[← hm2] at hrun
      have hm2l:m2≤st.length:=by omega
      have htk:cJ H6 (.sl sid soff m2 1) (st.take m2):=(hu1 ▸ hus6).take hm2l
      have hin2:xw t (st.take m2):=hst.take (by omega)
      have hl2:(st.take m2).length=m2:=by simp; omega
      have htop2:=hin2.2 _ (oU hin2.1)
      have htope2:ses.getD (soff+((m2:Int) - 1).toNat) []=[gi (bw (st.take m2))]:=by
        have:=KF (off:=soff) (es:=ses) (st:=st.take m2) (fun j hj=>by
          rw[hu4 j (by omega),List.getD_eq_getElem?_getD,List.getD_eq_getElem?_getD,List.getElem?_take,if_pos (by omega)]) (by omega)
        rwa [hl2] at this
      obtain ⟨hgo1,hgo2⟩:=htf.go (s:=bw (st.take m2)) (x:=R.left) htop2 hlf
      have hgr:t.gotos[(bw (st.take m2)).toNat]?=some (t.gotos.getD (bw (st.take m2)).toNat []):=getD_some (by have:=htf.len; omega)
      generalize t.gotos.getD (bw (st.take m2)).toNat []=gr at hgr hgo2
      generalize fI t (bw (st.take m2)) R.left=to at hgo1 hgo2 hrun
      simp (disch:=omega) only [↓wr,↓reduceIte,wq,ag,ao,Nat.reduceEqDiff,Nat.reduceAdd,Nat.reduceLT,Int.reduceNeg,t4,t9,hbb2,hu1,hu26,em2,htope2,List.getElem?_map,hgr,hgo2,encI,aP,xu hm2l]
      refine ⟨by omega,by omega,?_⟩
      refine ar.eq (fun hto=>?_) (fun hto=>?_)
      · rw[if_pos hto] at hrun
        simp (disch:=omega) only [↓wr,↓reduceIte,wq,ag,Nat.reduceEqDiff,Int.reduceNeg,reduceCtorEq,t11,t12]
        intro h' _
        exact eX 3 h' hrun.symm
      rw[if_neg hto] at hrun
      simp (disch:=omega) only [↓wr,↓reduceIte,wq,af,Nat.reduceEqDiff,Nat.reduceLT,Int.reduceNeg]
      intro q hq
      have htk7:=htk.fresh hq (o:=.arr 1 [[gi to]])
      have hur7:=hur6.fresh hq (o:=.arr 1 [[gi to]])
      have hqb:¬ b=q:=by rintro rfl; rw[hbb5] at hq; simp at hq
      have hb7:(H6.set q (.arr 1 [[gi to]])) b=.arr 2 [[gi c.kind,gi c.n]]:=by simp[View.set,hqb,hbb5]
      have hdis7:∀ id,owner (V.sl sid soff m2 1)=some id→owner ur≠some id:=fun id h=>hdis id (by rw[hu1]; exact h)
      have hob:owner (V.sl sid soff m2 1)≠some b:=by simp[owner]; exact fun h=>hbs h.symm
      generalize V.sl sid soff m2 1=u7 at htk7 hdis7 hob ⊢
      simp (disch:=omega) only [↓wr,↓reduceIte,wq,Nat.reduceEqDiff,Int.reduceNeg,cT]
      refine oo (xs:=[to]) htk7 (by simp) (by unfold aR; simp; omega) (by unfold aR; simp; omega) ?_
      intro us2 H7 o2 l2
      have hur8:=hur7.left l2 (fun id h1 h2=>hdis7 id h2 h1)
      have hb8:H7 b=.arr 2 [[gi c.kind,gi c.n]]:=by rw[(l2 b (by rw[hb7]; simp) hob).1,hb7]
      have hd8:∀ id,owner us2=some id→owner ur≠some id:=fun id h1 h2=>(l2 id (by rw[(hur7.live h2).1]; simp) (fun e=>hdis7 id e h2)).2 h1
      simp (disch:=omega) only [↓wr,↓reduceIte,wq,af,Nat.reduceEqDiff,Nat.reduceAdd,Nat.reduceLT,Int.reduceNeg,t10,hb8]
      intro q2 hq2
      have o3:=o2.fresh hq2 (o:=.arr 1 [[gi c.n]])
      have hur9:=hur8.fresh hq2 (o:=.arr 1 [[gi c.n]])
      simp (disch:=omega) only [↓wr,↓reduceIte,wq,Nat.reduceEqDiff,Int.reduceNeg,cT]
      refine qt hur9 (by simp) (by simp[aU]) (by unfold aR; simp; omega) (by unfold aR; simp; omega) ?_
      intro ur2 H8 o4 l4
      simp (disch:=omega) only [↓wr,↓reduceIte,wq,ag,Nat.reduceEqDiff,Int.reduceNeg,reduceCtorEq,t12]
      refine bM hk (by omega) ⟨us2,ur2,st.take m2 ++ [to],rs ++ [c.n],at_,by omega,by rw[show 2000 - (i+1)=k2 by omega]; exact hrun,.app hin2.2 (by omega),cJ.own (o3.left l4 hd8) (by simp),by simpa using o4,fun id h1 h2=>?_,by omega,by simp; omega,by simp; omega,t2,t3,t4,rfl,rfl,t11,rfl⟩
      exact (l4 id (by rw[(o3.live h1).1]; simp) (fun e=>hd8 id h1 e)).2 h2)
def cB (g:aw) (t:c6) (w:List Int) (us ur:V):List V:=[.aM (g.ay.map cY),.aM (g.ax.map fun s=>[gs s]),.aM (g.rules.map bt),gi g.start,.aM (t.aD.map fun r=>[wu r]),.aM (t.gotos.map fun r=>[encI r]),encI w,us,ur]
def PB (H:View) (c:Nat) (g:aw) (t:c6) (w st rs:List Int) (A:V) (al:List Int):Prop:=∃ us ur,H c=.arr 9 [cB g t w us ur]∧cJ H us st∧bf H ur 1 (bp rs)∧bf H A 1 (bp al)∧(∀ id,owner us=some id→owner ur≠some id)∧(∀ id,owner A=some id→owner us≠some id∧owner ur≠some id)
def m4:SF:=⟨.seq (aq [aA 2 0]) <|
  .seq (aq [aa 3 0,bb 4 3,an 5 7 4,ak 6 5,aa 7 0,bb 8 7,an 9 7 8,ak 10 9,aC 11 10,au 12 .sub 11 1,aG 13 1 6 12,ak 14 13,aa 2 14]) <|
  .ret,
  [.tmp 2],15⟩
theorem sL:bo Tryz.prog 77 []=some m4:=by kernel_rfl
def jZ:SF:=⟨.seq (aq [aN 4 false]) <|
  .seq (aq [aa 8 0,bb 9 8,an 10 0 9,an 11 2 10,ak 12 11,aa 13 1,aG 14 3 12 13,aH 15 3 14,((some 5),.op (.alloc [(.val (.int .i64 0)),(.emp 1),(.val (.int .i64 0))])),(none,.op (.store 3 (.tmp 5) (.tmp 15)))]) <|
  .seq (aq [aa 16 0,bb 17 16,an 18 7 17,ak 19 18,aC 20 19,an 21 1 5,ak 22 21,aC 23 22,aF 24 .sub 20 23,aa 6 24]) <|
  .seq (.seq (aq [aa 25 6,au 26 .lss 25 1]) <|
  .cond (.tmp 26) (.seq (aq [aN 4 false]) <|
  .ret) (.skip)) <|
  .seq (aq [aa 27 0,aa 28 0,bb 29 28,an 30 7 29,ak 31 30,aa 32 6,((some 33),.op (.slice 1 (.tmp 31) none (some (.tmp 32)))),bb 34 27,an 35 7 34,(none,.op (.store 1 (.tmp 35) (.tmp 33)))]) <|
  .seq (.region true [⟨none,[aa 36 0,bb 37 36,an 38 4 37,an 39 1 38,ak 40 39,aa 41 0,aI 42 77 [41],aG 43 1 40 42,ak 44 43,an 45 0 5,ak 46 45,aG 47 1 44 46,ak 48 47,aa 7 48]⟩]) <|
  .seq (.seq (aq [aa 49 7,au 50 .lss 49 0]) <|
  .cond (.tmp 50) (.seq (aq [aN 4 false]) <|
  .ret) (.skip)) <|
  .seq (.rZ [(62,56)] [⟨none,[aa 51 0,aa 52 0,aa 53 0,bb 54 53,an 55 7 54,ak 56 55,aa 57 7,((some 58),.op (.aS 1 1 [(.val (.int .i64 0))] [(0,(.tmp 57))])),((some 59),.op (.app 1 8 (.tmp 56) (.tmp 58))),aa 60 0,bb 61 60,an 62 8 61,ak 63 62,aa 64 1,((some 65),.op (.aS 1 1 [(.val (.int .i64 0))] [(0,(.tmp 64))])),((some 66),.op (.app 1 8 (.tmp 63) (.tmp 65))),bb 67 51,an 68 7 67,(none,.op (.store 1 (.tmp 68) (.tmp 59))),bb 69 52,an 70 8 69,(none,.op (.store 1 (.tmp 70) (.tmp 66)))]⟩]) <|
  .seq (aq [aN 4 true]) <|
  .ret,
  [.tmp 4],71⟩
theorem pv:bo Tryz.prog 78 [100000]=some jZ:=by kernel_rfl
def kD:SC :=
  .seq (.skip) <|
  .seq (.region true [⟨none,[aa 21 0,bb 22 21,an 23 4 22,an 24 0 23,ak 25 24,aa 26 0,aI 27 77 [26],aG 28 1 25 27,ak 29 28,aa 30 5,aa 31 2,aG 32 1 30 31,ak 33 32,aG 34 2 29 33,aH 35 2 34,((some 6),.op (.alloc [(.val (.int .i64 0)),(.val (.int .i64 0))])),(none,.op (.store 2 (.tmp 6) (.tmp 35)))]⟩]) <|
  .seq (aq [aa 36 2,aa 37 0,bb 38 37,an 39 6 38,ak 40 39,aC 41 40,aF 42 .eql 36 41,aa 7 42]) <|
  .seq (.block 0 (.seq (.region false [⟨none,[an 45 0 6,ak 46 45,au 47 .eql 46 3,aa 48 47]⟩,⟨(some (48,true)),[aa 49 7]⟩,⟨none,[bj 50 48 49,aa 44 50]⟩]) <|
  .cond (.tmp 44) (.seq (aq [aa 51 2,aa 2 51,aA 3 0]) <|
  .ret) (.seq (.seq (aq [an 53 0 6,ak 54 53,au 55 .eql 54 2,aa 52 55]) <|
  .cond (.tmp 52) (.skip) (.region false [⟨none,[an 56 0 6,ak 57 56,au 58 .eql 57 1,aa 59 58]⟩,⟨(some (59,true)),[aa 60 7,bB 61 60]⟩,⟨none,[bj 62 59 61,aa 52 62]⟩])) <|
  .cond (.tmp 52) (.skip) (.seq (aq [aa 43 2,aa 2 43,aA 3 3]) <|
  .ret)))) <|
  .seq (.seq (aq [aa 63 4,au 64 .eql 63 2000]) <|
  .cond (.tmp 64) (.seq (aq [aa 65 2,aa 2 65,aA 3 14]) <|
  .ret) (.skip)) <|
  .seq (aq [aa 66 4,au 67 .add 66 1,aa 4 67]) <|
  .seq (.seq (aq [an 68 0 6,ak 69 68,au 70 .eql 69 2]) <|
  .cond (.tmp 70) (.seq (.seq (aq [aa 71 0,an 72 1 6,ak 73 72,aI 74 78 [71,73],bB 75 74]) <|
  .cond (.tmp 75) (.seq (aq [aa 76 2,aa 2 76,aA 3 3]) <|
  .ret) (.skip)) <|
  .goto 0) (.skip)) <|
  .seq (aq [aa 77 0,aa 78 0,bb 79 78,an 80 7 79,ak 81 80,an 82 1 6,ak 83 82,((some 84),.op (.aS 1 1 [(.val (.int .i64 0))] [(0,(.tmp 83))])),((some 85),.op (.app 1 8 (.tmp 81) (.tmp 84))),bb 86 77,an 87 7 86,(none,.op (.store 1 (.tmp 87) (.tmp 85)))]) <|
  .seq (aq [aa 88 2,au 89 .add 88 1,aa 2 89]) <|
  .goto 0
def m8:SF:=⟨.seq (aq [aA 2 0,aA 3 0]) <|
  .scope 0 (.seq (aq [aA 4 0]) <|
  .seq (aq [aa 8 0,bb 9 8,an 10 6 9,ak 11 10,aa 12 0,bb 13 12,an 14 0 13,an 15 0 14,ak 16 15,aC 17 16,((some 18),.op (.aS 1 1 [(.val (.int .i64 0))] [(0,(.tmp 17))])),((some 19),.op (.aS 2 1 [(.emp 1)] [(0,(.tmp 11)),(1,(.tmp 18))])),aI 20 76 [19],aa 5 20]) <|
  .seq (.label 0) <|
  .seq (.region true [⟨none,[aa 21 0,bb 22 21,an 23 4 22,an 24 0 23,ak 25 24,aa 26 0,aI 27 77 [26],aG 28 1 25 27,ak 29 28,aa 30 5,aa 31 2,aG 32 1 30 31,ak 33 32,aG 34 2 29 33,aH 35 2 34,((some 6),.op (.alloc [(.val (.int .i64 0)),(.val (.int .i64 0))])),(none,.op (.store 2 (.tmp 6) (.tmp 35)))]⟩]) <|
  .seq (aq [aa 36 2,aa 37 0,bb 38 37,an 39 6 38,ak 40 39,aC 41 40,aF 42 .eql 36 41,aa 7 42]) <|
  .seq (.block 0 (.seq (.region false [⟨none,[an 45 0 6,ak 46 45,au 47 .eql 46 3,aa 48 47]⟩,⟨(some (48,true)),[aa 49 7]⟩,⟨none,[bj 50 48 49,aa 44 50]⟩]) <|
  .cond (.tmp 44) (.seq (aq [aa 51 2,aa 2 51,aA 3 0]) <|
  .ret) (.seq (.seq (aq [an 53 0 6,ak 54 53,au 55 .eql 54 2,aa 52 55]) <|
  .cond (.tmp 52) (.skip) (.region false [⟨none,[an 56 0 6,ak 57 56,au 58 .eql 57 1,aa 59 58]⟩,⟨(some (59,true)),[aa 60 7,bB 61 60]⟩,⟨none,[bj 62 59 61,aa 52 62]⟩])) <|
  .cond (.tmp 52) (.skip) (.seq (aq [aa 43 2,aa 2 43,aA 3 3]) <|
  .ret)))) <|
  .seq (.seq (aq [aa 63 4,au 64 .eql 63 2000]) <|
  .cond (.tmp 64) (.seq (aq [aa 65 2,aa 2 65,aA 3 14]) <|
  .ret) (.skip)) <|
  .seq (aq [aa 66 4,au 67 .add 66 1,aa 4 67]) <|
  .seq (.seq (aq [an 68 0 6,ak 69 68,au 70 .eql 69 2]) <|
  .cond (.tmp 70) (.seq (.seq (aq [aa 71 0,an 72 1 6,ak 73 72,aI 74 78 [71,73],bB 75 74]) <|
  .cond (.tmp 75) (.seq (aq [aa 76 2,aa 2 76,aA 3 3]) <|
  .ret) (.skip)) <|
  .goto 0) (.skip)) <|
  .seq (aq [aa 77 0,aa 78 0,bb 79 78,an 80 7 79,ak 81 80,an 82 1 6,ak 83 82,((some 84),.op (.aS 1 1 [(.val (.int .i64 0))] [(0,(.tmp 83))])),((some 85),.op (.app 1 8 (.tmp 81) (.tmp 84))),bb 86 77,an 87 7 86,(none,.op (.store 1 (.tmp 87) (.tmp 85)))]) <|
  .seq (aq [aa 88 2,au 89 .add 88 1,aa 2 89]) <|
  .goto 0) kD,
  [.tmp 2,.tmp 3],90⟩
theorem rN:bo Tryz.prog 43 []=some m8:=by kernel_rfl
def uK:SF:=⟨.seq (aq [bA 3 0,bA 4 1,((some 6),.op (.aW (.val (.emp 1)))),aA 7 0,aA 8 0]) <|
  .seq (.seq (.region false [⟨none,[aH 12 4 3,aa 13 2,aI 14 18 [12,13],bB 15 14,aa 16 15]⟩,⟨(some (16,false)),[aH 17 4 3,aH 18 2 4,aI 19 42 [17,18],bB 20 19]⟩,⟨none,[aX 21 16 20]⟩]) <|
  .cond (.tmp 21) (.seq (aq [((some 6),.op (.aW (.val (.emp 1)))),aA 7 0,aA 8 1]) <|
  .ret) (.skip)) <|
  .seq (aq [aH 22 4 3,aH 23 2 4,aa 24 2,((some 25),.op (.aS 1 1 [(.val (.int .i64 0))] [(0,(.val (.val (.int .i64 0))))])),((some 26),.op (.build [(.emp 1),(.emp 1),(.emp 1),(.val (.int .i64 0)),(.emp 1),(.emp 1),(.emp 1),(.emp 1),(.emp 1)] [(0,4,(.tmp 22)),(4,2,(.tmp 23)),(6,1,(.tmp 24)),(7,1,(.tmp 25))])),((some 27),.op (.box (.tmp 26))),aa 9 27]) <|
  .seq (aq [aa 29 9,aI 30 43 [29],aa 28 30,bq 31 0 28,bq 32 1 28,aa 10 31,aa 11 32]) <|
  .seq (.seq (aq [aa 33 11,au 34 .neq 33 0]) <|
  .cond (.tmp 34) (.seq (aq [aa 35 10,aa 36 11,((some 6),.op (.aW (.val (.emp 1)))),aa 7 35,aa 8 36]) <|
  .ret) (.skip)) <|
  .seq (aq [aa 37 9,bb 38 37,an 39 8 38,ak 40 39,aa 41 10,aa 6 40,aa 7 41,aA 8 0]) <|
  .ret,
  [.tmp 6,.tmp 7,.tmp 8],42⟩
theorem yq:bo Tryz.prog 15 [3,4]=some uK:=by kernel_rfl
theorem D5 {P:Program} {c:SC} {T:Env} {H:View} {Q:Exit→Env→View→Prop} (h:wS P (.seq .skip c) T H Q):wS P c T H Q:=h
theorem cJ.Kf {H:View} {u:V} {l:List Int} (h:cJ H u l) {q z:Nat} {e:List (List V)} {o:bK} (hq:H q=.arr z e) (hz:z≠1):cJ (H.set q o) u l :=
  h.keep fun id es' hid=>by
    have:id≠q:=by rintro rfl; rw[hq] at hid; simp at hid; exact hz hid.1
    simp[View.set,this]
theorem E8 (c:Nat) (g:aw) (t:c6) (w st:List Int) (us ur:V) (H:View) (hc:H c=.arr 9 [cB g t w us ur]) (hus:cJ H us st) (hst:0 < st.length) (hs:st.length≤100000):aL Tryz.prog 77 [.ptr c 0 0] H fun r H'=>H'=H∧r=gi (bw st):=by
  refine aL.of mixed sL ?_
  obtain ⟨sid,soff,ses,hu1,hu2,hu3,hu4⟩:=hus.all
  have htope:=KF hu4 hst
  subst hu1
  simp (disch:=omega) only [↓wr,↓reduceIte,wq,ai,ag,ao,Nat.reduceEqDiff,Nat.reduceAdd,Nat.reduceLT,Nat.reduceLeDiff,reduceCtorEq,m4,hc,cB,hu2,htope]
  exact ⟨by omega,by omega⟩
theorem aO.same {P:Program} {q:Bool} {f:FuncId} {vs:List V} {H:View} {K:V→View→Prop} {w:b9 (H,K)} {v:V} (hc:aL P f vs H fun r H'=>H'=H∧r=v) (hk:K v H):aO P q f vs H K w:=by
  unfold aO
  cases q with
  | true =>
    simp only[if_true]
    exact (hc.mono fun r H' h=>⟨fun id _=>by rw[h.1],by rw[h.1,h.2]; exact hk⟩).Kn
  | false =>
    simp only[Bool.false_eq_true,if_false]
    exact hc.mono fun r H' h=>by rw[h.1,h.2]; exact hk
set_option maxHeartbeats 8000000 in
theorem IW (c:Nat) (g:aw) (hf:g.rh) (t:c6) (htf:ik g t) (w st rs:List Int) (A:V) (al:List Int) (H:View) (hP:PB H c g t w st rs A al) (hst:xw t st) (hs:st.length≤100000) (hr:rs.length≤100000) (k:Int) (hk0:0≤k) (hk:k < g.rules.length) :
    aL Tryz.prog 78 [.ptr c 0 0,gi k] H fun r H' =>
      (st.length≤(bU g k).right.length→r=gb false)∧(¬ st.length≤(bU g k).right.length→fI t (bw (st.take (st.length - (bU g k).right.length))) (bU g k).left = -1→r=gb false) ∧
      (¬ st.length≤(bU g k).right.length→fI t (bw (st.take (st.length - (bU g k).right.length))) (bU g k).left≠-1→r=gb true∧PB H' c g t w (st.take (st.length - (bU g k).right.length) ++ [fI t (bw (st.take (st.length - (bU g k).right.length))) (bU g k).left]) (rs ++ [k]) A al):=by
  refine aL.of mixed pv ?_
  obtain ⟨us,ur,hc,hus,hur,hA,hd1,hd2⟩:=hP
  obtain ⟨sid,soff,ses,hu1,hu2,hu3,hu4⟩:=hus.all
  have hst1:=List.length_pos_iff.2 hst.1
  have hR:g.rules[k.toNat]?=some (bU g k):=by unfold bU; exact getD_some (by omega)
  have hmr:=List.mem_of_getElem? hR
  have hr6:=hf.right _ hmr
  have hlf:=hf.left _ hmr
  generalize bU g k=R at hR hmr hr6 hlf
  have hcs:¬ c=sid:=by rintro rfl; rw[hc] at hu2; simp at hu2
  simp (disch:=omega) only [↓wr,↓reduceIte,wq,ai,ab,Nat.reduceEqDiff,Nat.reduceAdd,Nat.reduceLT,Nat.reduceLeDiff,Int.reduceNeg,reduceCtorEq,jZ,hc,cB,List.getElem?_map,hR,bt]
  intro b hb
  have hbc:¬ c=b:=by rintro rfl; rw[hc] at hb; simp at hb
  refine ⟨rfl,?_⟩
  rw[set_set]
  have hc5:(H.set b (.arr 3 [[gi R.left,encI R.right,gi R.prec]])) c=.arr 9 [cB g t w us ur]:=by simp[View.set,hbc,hc]
  have hb5:(H.set b (.arr 3 [[gi R.left,encI R.right,gi R.prec]])) b=.arr 3 [[gi R.left,encI R.right,gi R.prec]]:=by simp[View.set]
  have hus5:=hus.fresh hb (o:=.arr 3 [[gi R.left,encI R.right,gi R.prec]])
  have hur5:=hur.fresh hb (o:=.arr 3 [[gi R.left,encI R.right,gi R.prec]])
  have hA5:=hA.fresh hb (o:=.arr 3 [[gi R.left,encI R.right,gi R.prec]])
  generalize H.set b (.arr 3 [[gi R.left,encI R.right,gi R.prec]])=H5 at hc5 hb5 hus5 hur5 hA5
  simp only[cB] at hc5
  simp (disch:=omega) only [↓wr,↓reduceIte,wq,ag,ao,Nat.reduceEqDiff,Nat.reduceAdd,Nat.reduceLT,Int.reduceNeg,hbc,hb5,hus5.len,encI]
  refine ar.dec (fun hlen=>?_) (fun hlen=>?_)
  · simp (disch:=omega) only [↓wr,↓reduceIte,wq,Int.reduceNeg,reduceCtorEq]
    exact fun h=>absurd (show st.length≤R.right.length by omega) h
  obtain ⟨m2,hm2⟩:∃ m2,m2=st.length - R.right.length:=⟨_,rfl⟩
  have em2:(st.length:Int) - R.right.length=m2:=by omega
  rw[← hm2]
  have hm2l:m2≤st.length:=by omega
  have htk:cJ H5 (.sl sid soff m2 1) (st.take m2):=(hu1 ▸ hus5).take hm2l
  have hin2:xw t (st.take m2):=hst.take (by omega)
  have hl2:(st.take m2).length=m2:=by simp; omega
  have htop2:=hin2.2 _ (oU hin2.1)
  obtain ⟨hgo1,hgo2⟩:=htf.go (s:=bw (st.take m2)) (x:=R.left) htop2 hlf
  have hgr:t.gotos[(bw (st.take m2)).toNat]?=some (t.gotos.getD (bw (st.take m2)).toNat []):=getD_some (by have:=htf.len; omega)
  generalize t.gotos.getD (bw (st.take m2)).toNat []=gr at hgr hgo2
  simp (disch:=omega) only [↓wr,↓reduceIte,wq,ab,Nat.reduceEqDiff,Nat.reduceAdd,Nat.reduceLT,Nat.reduceLeDiff,Int.reduceNeg,reduceCtorEq,hc5,em2,hu1,xu hm2l]
  have hc6:(H5.set c (.arr 9 [cB g t w (.sl sid soff m2 1) ur])) c=.arr 9 [cB g t w (.sl sid soff m2 1) ur]:=by simp[View.set]
  have hb6:(H5.set c (.arr 9 [cB g t w (.sl sid soff m2 1) ur])) b=.arr 3 [[gi R.left,encI R.right,gi R.prec]]:=by simp[View.set,Ne.symm hbc,hb5]
  have htk6:=htk.Kf (o:=.arr 9 [cB g t w (.sl sid soff m2 1) ur]) hc5 (by omega)
  have hur6:=hur5.other (o:=.arr 9 [cB g t w (.sl sid soff m2 1) ur]) (ic hur5 hc5 (by omega))
  have hA6:=hA5.other (o:=.arr 9 [cB g t w (.sl sid soff m2 1) ur]) (ic hA5 hc5 (by omega))
  refine aO.same (E8 c g t w (st.take m2) (.sl sid soff m2 1) ur _ hc6 htk6 (by omega) (by omega)) ?_
  generalize hH6:H5.set c (.arr 9 [cB g t w (.sl sid soff m2 1) ur])=H6 at hc6 hb6 htk6 hur6 hA6
  simp only[cB] at hH6
  rw[hH6]
  have hdu:∀ id,owner (V.sl sid soff m2 1)=some id→owner ur≠some id:=fun id h=>hd1 id (by rw[hu1]; exact h)
  have hdA:∀ id,owner A=some id→owner (V.sl sid soff m2 1)≠some id∧owner ur≠some id:=fun id h=>⟨fun e=>(hd2 id h).1 (by rw[hu1]; exact e),(hd2 id h).2⟩
  generalize fI t (bw (st.take m2)) R.left=to at hgo1 hgo2 ⊢
  simp (disch:=omega) only [↓wr,↓reduceIte,wq,ag,Nat.reduceEqDiff,Nat.reduceAdd,Nat.reduceLT,Int.reduceNeg,hb6,List.getElem?_map,hgr,hgo2,encI]
  refine ar.dec (fun hto=>?_) (fun hto=>?_)
  · simp (disch:=omega) only [↓wr,↓reduceIte,wq,Int.reduceNeg,reduceCtorEq]
    exact fun _ h=>absurd (by omega) h
  have hu7:aU (V.sl sid soff m2 1)=true:=rfl
  simp only[cB] at hc6
  simp (disch:=omega) only [↓wr,↓reduceIte,wq,af,Nat.reduceEqDiff,Nat.reduceAdd,Nat.reduceLT,Int.reduceNeg,reduceCtorEq,hc6]
  intro q hq
  have hcq:¬ c=q:=by rintro rfl; rw[hc6] at hq; simp at hq
  have hc7:(H6.set q (.arr 1 [[gi to]])) c=.arr 9 [cB g t w (.sl sid soff m2 1) ur]:=by simp[View.set,hcq,hc6,cB]
  have htk7:=htk6.fresh hq (o:=.arr 1 [[gi to]])
  have hur7:=hur6.fresh hq (o:=.arr 1 [[gi to]])
  have hA7:=hA6.fresh hq (o:=.arr 1 [[gi to]])
  have hap:∀ i j,eE (.ptr c i j) (.sl sid soff m2 1)=True:=fun i j=>by simp[eE,hcs]
  have hoc:owner (V.sl sid soff m2 1)≠some c:=by simp[owner]; exact fun h=>hcs h.symm
  generalize V.sl sid soff m2 1=u7 at htk7 hdu hdA hap hoc hc7 ⊢
  simp (disch:=omega) only [↓wr,↓reduceIte,wq,Nat.reduceEqDiff,Int.reduceNeg,cT]
  refine oo (xs:=[to]) htk7 (by simp) (by unfold aR; simp; omega) (by unfold aR; simp; omega) ?_
  intro us2 H7 o2 l2
  have hur8:=hur7.left l2 (fun id h1 h2=>hdu id h2 h1)
  have hA8:=hA7.left l2 (fun id h1 h2=>(hdA id h1).1 h2)
  have hc8:H7 c=.arr 9 [cB g t w u7 ur]:=by rw[(l2 c (by rw[hc7]; simp) hoc).1,hc7]
  have hd8:∀ id,owner us2=some id→owner ur≠some id:=fun id h1 h2=>(l2 id (by rw[(hur7.live h2).1]; simp) (fun e=>hdu id e h2)).2 h1
  have hdA8:∀ id,owner A=some id→owner us2≠some id:=fun id h=>(l2 id (by rw[(hA7.live h).1]; simp) (hdA id h).1).2
  simp only[cB] at hc8
  simp (disch:=omega) only [↓wr,↓reduceIte,wq,af,Nat.reduceEqDiff,Nat.reduceAdd,Nat.reduceLT,Int.reduceNeg,reduceCtorEq,hc8]
  intro q2 hq2
  have hcq2:¬ c=q2:=by rintro rfl; rw[hc8] at hq2; simp at hq2
  have o3:=o2.fresh hq2 (o:=.arr 1 [[gi k]])
  have hur9:=hur8.fresh hq2 (o:=.arr 1 [[gi k]])
  have hA9:=hA8.fresh hq2 (o:=.arr 1 [[gi k]])
  have hc9:(H7.set q2 (.arr 1 [[gi k]])) c=.arr 9 [cB g t w u7 ur]:=by simp[View.set,hcq2,hc8,cB]
  have hcu:=hur9.cells
  simp (disch:=omega) only [↓wr,↓reduceIte,wq,Nat.reduceEqDiff,Int.reduceNeg,cT]
  refine qt hur9 (by simp) (by simp[aU]) (by unfold aR; simp; omega) (by unfold aR; simp; omega) ?_
  intro ur2 H8 o4 l4
  have hcr:owner ur≠some c:=ic hur9 hc9 (by omega)
  have hc10:H8 c=.arr 9 [cB g t w u7 ur]:=by rw[(l4 c (by rw[hc9]; simp) hcr).1,hc9]
  have o5:=o3.left l4 hd8
  have hA10:=hA9.left l4 (fun id h1 h2=>(hdA id h1).2 h2)
  have hdd:∀ id,owner us2=some id→owner ur2≠some id:=fun id h1 h2=>(l4 id (by rw[(o3.live h1).1]; simp) (fun e=>hd8 id h1 e)).2 h2
  have hdA10:∀ id,owner A=some id→owner ur2≠some id:=fun id h=>(l4 id (by rw[(hA9.live h).1]; simp) (hdA id h).2).2
  have c1:=o5.cells
  have c2:=o5.uR
  have c3:=o4.cells
  have c4:=o4.uR
  simp only[cB] at hc10
  simp (disch:=omega) only [↓wr,↓reduceIte,wq,ab,Nat.reduceEqDiff,Nat.reduceAdd,Nat.reduceLT,Nat.reduceLeDiff,Int.reduceNeg,reduceCtorEq,hc10,c1,c2,c3,c4,hap]
  rw[set_set]
  refine ⟨fun h=>by omega,fun _ h=>by omega,fun _ _=>⟨us2,ur2,by simp[View.set,cB],?_,?_,?_,hdd,fun id h=>⟨hdA8 id h,hdA10 id h⟩⟩⟩
  · exact (cJ.own o5 (by simp)).Kf hc10 (by omega)
  · have:=o4.other (o:=.arr 9 [cB g t w us2 ur2]) (ic o4 hc10 (by omega))
    simpa [cB] using this
  · exact hA10.other (ic hA10 hc10 (by omega))
set_option maxHeartbeats 8000000 in
theorem M5 (c:Nat) (g:aw) (hg:g.Ok) (hf:g.rh) (t:c6) (htf:ik g t) (w:List Int) (hw60:w.length≤60) (hwin:∀ x∈w,0≤x∧x < (g.ay.length:Int)) (m:Nat) (H:View) (hc:H c=.arr 9 [cB g t w (.sl m 0 1 1) (.emp 1)]) (hm:H m=.arr 1 [[gi 0]]) :
    aL Tryz.prog 43 [.ptr c 0 0] H fun r H'=>r=.bh [gi (fv g t w 2000 [0] [] 0).2.1,gi (fv g t w 2000 [0] [] 0).2.2]∧((fv g t w 2000 [0] [] 0).2.2=0→∃ us ur,H' c=.arr 9 [cB g t w us ur]∧bf H' ur 1 (bp (fv g t w 2000 [0] [] 0).1))∧((fv g t w 2000 [0] [] 0).2.2≠0→(fv g t w 2000 [0] [] 0).1=[]):=by
  refine aL.of mixed rN ?_
  generalize hX:fv g t w 2000 [0] [] 0=X
  have hcm:¬ c=m:=by rintro rfl; rw[hc] at hm; simp at hm
  have ht24:=hf.ay
  simp (disch:=omega) only [↓wr,wq,ai,Nat.reduceLeDiff,m8]
  refine vp.intro (fun k T H'=>∃ (A:V) (st rs:List Int) (at_:Nat) (s:Int),s+k=2000∧k≤2000∧fv g t w k st rs at_=X∧xw t st∧PB H' c g t w st rs A (w ++ [(g.ay.length:Int)])∧at_≤w.length∧st.length+k≤2001∧rs.length+k≤2000 ∧
    T 0=.ptr c 0 0∧T 2=gi at_∧T 4=gi s∧T 5=A) 2000 ?_ ?_
  · rintro k T H' ⟨A,st,rs,at_,s,hsk,hk,hrun,hst,hP,hat,hsl,hrl,t0,t2,t4,t5⟩
    obtain ⟨us,ur,hc,hus,hur,hA,hd1,hd2⟩:=hP
    have hst1:=List.length_pos_iff.2 hst.1
    have htop:=hst.2 _ (oU hst.1)
    obtain ⟨a1,a2⟩:=AH hwin at_
    obtain ⟨hcf,hcg⟩:=htf.cell (s:=bw st) (x:=bz g w at_) htop ⟨a1,a2⟩
    rw[lM] at hrun
    have hrow:t.aD[(bw st).toNat]?=some (t.aD.getD (bw st).toNat []):=getD_some (by omega)
    have hal:(w ++ [(g.ay.length:Int)]).getD at_ 0=bz g w at_:=by
      unfold bz
      by_cases h:at_ < w.length
      · rw[if_pos h,List.getD_eq_getElem?_getD,List.getD_eq_getElem?_getD,List.getElem?_append_left h]
      · have e:at_=w.length:=by omega
        subst e
        rw[if_neg h]; simp[List.getD_eq_getElem?_getD]
    obtain ⟨aid,hAs,hAo⟩:=hA.sl (by simp)
    have hAe:(bp (w ++ [(g.ay.length:Int)])).getD at_ []=[gi (bz g w at_)]:=by
      rw[List.getD_eq_getElem?_getD,List.getElem?_map,getD_some (d:=0) (show at_ < (w ++ [(g.ay.length:Int)]).length by simp; omega),hal]; rfl
    have hcop:=hc
    simp only[cB] at hcop
    generalize hcc:cr t (bw st) (bz g w at_)=cl at hrun hcf hcg
    generalize t.aD.getD (bw st).toNat []=row at hrow hcg
    simp (disch:=omega) only [↓wr,↓reduceIte,wq,Nat.reduceAdd,Nat.reduceLT,reduceCtorEq,kD,t0,hcop]
    refine aO.same (E8 c g t w st us ur H' hc hus hst1 (by omega)) ?_
    simp (disch:=omega) only [↓wr,↓reduceIte,wq,ab,Nat.reduceEqDiff,Nat.reduceAdd,Nat.reduceLT,Nat.reduceLeDiff,reduceCtorEq,t0,t2,t5,hcop,List.getElem?_map,hrow,hcg,hAs,hAo,hAe,cb]
    refine ⟨by simp; omega,by simp; omega,fun b hb=>?_⟩
    have hbc:¬ c=b:=by rintro rfl; rw[hc] at hb; simp at hb
    rw[set_set]
    have hc5:(H'.set b (.arr 2 [[gi cl.kind,gi cl.n]])) c=.arr 9 [cB g t w us ur]:=by simp[View.set,hbc,hc]
    have hb5:(H'.set b (.arr 2 [[gi cl.kind,gi cl.n]])) b=.arr 2 [[gi cl.kind,gi cl.n]]:=by simp[View.set]
    have hus5:=hus.fresh hb (o:=.arr 2 [[gi cl.kind,gi cl.n]])
    have hur5:=hur.fresh hb (o:=.arr 2 [[gi cl.kind,gi cl.n]])
    have hA5:=hA.fresh hb (o:=.arr 2 [[gi cl.kind,gi cl.n]])
    generalize H'.set b (.arr 2 [[gi cl.kind,gi cl.n]])=H5 at hc5 hb5 hus5 hur5 hA5
    have hcop5:=hc5
    simp only[cB] at hcop5
    simp (disch:=omega) only [↓wr,↓reduceIte,wq,ag,ao,Nat.reduceEqDiff,Nat.reduceAdd,Nat.reduceLT,hbc,hb5,encI]
    have bad:∀ (Hx:View) (e:Int),e≠0→X=([],(at_:Int),e)→(V.bh [gi at_,gi e]=.bh [gi X.2.1,gi X.2.2]∧(X.2.2=0→∃ us ur,Hx c=.arr 9 [cB g t w us ur]∧bf Hx ur 1 (bp X.1))∧(X.2.2≠0→X.1=[])):=fun Hx e he hX=>by
      rw[hX]; exact ⟨rfl,fun h=>absurd h he,fun _=>rfl⟩
    refine ar.eq (fun k3=>?_) (fun k3=>?_)
    · simp (disch:=omega) only [↓wr,↓reduceIte,wq,Nat.reduceEqDiff]
      refine ar.eq (fun ha=>?_) (fun ha=>?_)
      · rw[if_pos ⟨k3,by omega⟩] at hrun
        simp (disch:=omega) only [↓wr,↓reduceIte,wq,ag,Nat.reduceEqDiff,reduceCtorEq,t0,t2,t4,t5]
        rw[← hrun]
        exact ⟨rfl,fun _=>⟨us,ur,hc5,hur5⟩,fun h=>absurd rfl h⟩
      · rw[if_neg (by omega),if_pos (.inr (.inl k3))] at hrun
        simp (disch:=omega) only [↓wr,↓reduceIte,wq,ag,Nat.reduceEqDiff,Nat.reduceAdd,Nat.reduceLT,hb5]
        refine ar.eq (fun h=>by omega) (fun _=>?_)
        simp (disch:=omega) only [↓wr,↓reduceIte,wq,ag,Nat.reduceEqDiff,Nat.reduceAdd,Nat.reduceLT,hb5]
        refine ar.eq (fun h=>by omega) (fun _=>?_)
        simp (disch:=omega) only [↓wr,↓reduceIte,wq,ag,Nat.reduceEqDiff,reduceCtorEq,t0,t2,t4,t5]
        exact bad _ 3 (by decide) hrun.symm
    simp (disch:=omega) only [↓wr,↓reduceIte,wq,ag,Nat.reduceEqDiff,Nat.reduceAdd,Nat.reduceLT,hb5]
    refine ar.eq (fun k2=>?_) (fun k2=>?_)
    · have hcn:0≤cl.n∧cl.n < g.rules.length:=by rcases mw hcf with h | h | h <;> omega
      rw[if_neg (by omega),if_neg (by omega)] at hrun
      simp (disch:=omega) only [↓wr,↓reduceIte,wq,ag,Nat.reduceEqDiff,reduceCtorEq,t0,t2,t4,t5]
      refine ar.eq (fun hn=>?_) (fun hn=>?_)
      · rw[show k=0 by omega] at hrun
        simp (disch:=omega) only [↓wr,↓reduceIte,wq,Nat.reduceEqDiff,reduceCtorEq,t2]
        exact bad _ 14 (by decide) hrun.symm
      obtain ⟨q,rfl⟩:∃ q,k=q+1:=⟨k - 1,by omega⟩
      simp only at hrun
      rw[if_neg (by omega)] at hrun
      simp (disch:=omega) only [↓wr,↓reduceIte,wq,ag,Nat.reduceEqDiff,Nat.reduceAdd,Nat.reduceLT,t4,hb5]
      refine ar.eq (fun _=>?_) (fun h=>absurd k2 h)
      simp (disch:=omega) only [↓wr,↓reduceIte,wq,Nat.reduceEqDiff,Nat.reduceAdd,Nat.reduceLT,reduceCtorEq,t0,hb5]
      refine aO.nz ((IW c g hf t htf w st rs A _ H5 ⟨us,ur,hc5,hus5,hur5,hA5,hd1,hd2⟩ hst (by omega) (by omega) cl.n hcn.1 hcn.2).mono ?_)
      rintro r H6 ⟨e1,e2,e3⟩
      by_cases hl:st.length≤(bU g cl.n).right.length
      · obtain rfl:=e1 hl
        rw[if_pos hl] at hrun
        simp (disch:=omega) only [↓wr,↓reduceIte,wq,Nat.reduceEqDiff,reduceCtorEq,t2]
        exact bad _ 3 (by decide) hrun.symm
      by_cases hgo:fI t (bw (st.take (st.length - (bU g cl.n).right.length))) (bU g cl.n).left = -1
      · obtain rfl:=e2 hl hgo
        rw[if_neg hl,if_pos hgo] at hrun
        simp (disch:=omega) only [↓wr,↓reduceIte,wq,Nat.reduceEqDiff,reduceCtorEq,t2]
        exact bad _ 3 (by decide) hrun.symm
      · obtain ⟨rfl,hP6⟩:=e3 hl hgo
        rw[if_neg hl,if_neg hgo] at hrun
        simp (disch:=omega) only [↓wr,↓reduceIte,wq,Nat.reduceEqDiff,reduceCtorEq,t0,t2,t5]
        have hin2:=hst.take (k:=st.length - (bU g cl.n).right.length) (by omega)
        have hlf:=hf.left _ (List.mem_of_getElem? (show g.rules[cl.n.toNat]?=some (bU g cl.n) by unfold bU; exact getD_some (by omega)))
        have hgr:=(htf.go (hin2.2 _ (oU hin2.1)) hlf).1
        exact ⟨q,by omega,A,_,_,at_,s+1,by omega,by omega,hrun,.app hin2.2 (by omega),hP6,hat,by simp; omega,by simp; omega,rfl,rfl,rfl⟩
    simp (disch:=omega) only [↓wr,↓reduceIte,wq,ag,Nat.reduceEqDiff,Nat.reduceAdd,Nat.reduceLT,hb5]
    refine ar.eq (fun k1=>?_) (fun k1=>?_)
    · have hcn:0≤cl.n∧cl.n < t.aD.length:=by rcases mw hcf with h | h | h <;> omega
      simp (disch:=omega) only [↓wr,↓reduceIte,wq,Nat.reduceEqDiff]
      refine ar.eq (fun ha=>?_) (fun ha=>?_)
      · rw[if_neg (by omega),if_pos (.inr (.inr ⟨k1,by omega⟩))] at hrun
        simp (disch:=omega) only [↓wr,↓reduceIte,wq,ag,Nat.reduceEqDiff,reduceCtorEq,t0,t2,t4,t5]
        exact bad _ 3 (by decide) hrun.symm
      rw[if_neg (by omega),if_neg (by omega)] at hrun
      simp (disch:=omega) only [↓wr,↓reduceIte,wq,ag,Nat.reduceEqDiff,reduceCtorEq,t0,t2,t4,t5]
      refine ar.eq (fun hn=>?_) (fun hn=>?_)
      · rw[show k=0 by omega] at hrun
        simp (disch:=omega) only [↓wr,↓reduceIte,wq,Nat.reduceEqDiff,reduceCtorEq,t2]
        exact bad _ 14 (by decide) hrun.symm
      obtain ⟨q,rfl⟩:∃ q,k=q+1:=⟨k - 1,by omega⟩
      simp only at hrun
      rw[if_pos k1] at hrun
      simp (disch:=omega) only [↓wr,↓reduceIte,wq,ag,Nat.reduceEqDiff,Nat.reduceAdd,Nat.reduceLT,t4,hb5]
      refine ar.eq (fun h=>absurd h k2) (fun _=>?_)
      obtain ⟨sid,soff,ses,hu1,hu2,_,_⟩:=hus5.all
      have hcs:¬ c=sid:=by rintro rfl; rw[hc5] at hu2; simp at hu2
      have hap:∀ i j,eE (.ptr c i j) us=True:=fun i j=>by rw[hu1]; simp[eE,hcs]
      have hoc:owner us≠some c:=by rw[hu1]; simp[owner]; exact fun h=>hcs h.symm
      simp (disch:=omega) only [↓wr,↓reduceIte,wq,af,Nat.reduceEqDiff,Nat.reduceAdd,Nat.reduceLT,reduceCtorEq,t0,hcop5,hb5]
      intro q2 hq2
      have hcq2:¬ c=q2:=by rintro rfl; rw[hc5] at hq2; simp at hq2
      have hc7:(H5.set q2 (.arr 1 [[gi cl.n]])) c=.arr 9 [cB g t w us ur]:=by simp[View.set,hcq2,hc5]
      have hus7:=hus5.fresh hq2 (o:=.arr 1 [[gi cl.n]])
      have hur7:=hur5.fresh hq2 (o:=.arr 1 [[gi cl.n]])
      have hA7:=hA5.fresh hq2 (o:=.arr 1 [[gi cl.n]])
      simp (disch:=omega) only [↓wr,↓reduceIte,wq,Nat.reduceEqDiff,cT]
      refine oo (xs:=[cl.n]) hus7 (by simp) (by unfold aR; simp; omega) (by unfold aR; simp; omega) ?_
      intro us2 H7 o2 l2
      have hur8:=hur7.left l2 (fun id h1 h2=>hd1 id h2 h1)
      have hA8:=hA7.left l2 (fun id h1 h2=>(hd2 id h1).1 h2)
      have hc8:H7 c=.arr 9 [cB g t w us ur]:=by rw[(l2 c (by rw[hc7]; simp) hoc).1,hc7]
      have hd8:∀ id,owner us2=some id→owner ur≠some id:=fun id h1 h2=>(l2 id (by rw[(hur7.live h2).1]; simp) (fun e=>hd1 id e h2)).2 h1
      have hdA8:∀ id,owner A=some id→owner us2≠some id:=fun id h=>(l2 id (by rw[(hA7.live h).1]; simp) (hd2 id h).1).2
      have c1:=o2.cells
      have c2:=o2.uR
      simp only[cB] at hc8
      simp (disch:=omega) only [↓wr,↓reduceIte,wq,ag,ab,Nat.reduceEqDiff,Nat.reduceAdd,Nat.reduceLT,Nat.reduceLeDiff,reduceCtorEq,t0,t2,t5,hc8,c1,c2]
      refine ⟨q,by omega,A,st ++ [cl.n],rs,at_+1,s+1,by omega,by omega,hrun,.app hst.2 hcn,⟨us2,ur,by simp[View.set,cB],?_,?_,?_,hd8,fun id h=>⟨hdA8 id h,(hd2 id h).2⟩⟩,by omega,by simp; omega,by omega,rfl,rfl,rfl⟩
      · exact (cJ.own o2 (by simp)).Kf hc8 (by omega)
      · exact hur8.other (ic hur8 hc8 (by omega))
      · exact hA8.other (ic hA8 hc8 (by omega))
    · have hk0:cl.kind=0:=by rcases mw hcf with h | h | h <;> omega
      rw[if_neg (by omega),if_pos (.inl hk0)] at hrun
      simp (disch:=omega) only [↓wr,↓reduceIte,wq,ag,Nat.reduceEqDiff,reduceCtorEq,t0,t2,t4,t5]
      exact bad _ 3 (by decide) hrun.symm
  · intro body
    simp (disch:=omega) only [↓wr,↓reduceIte,wq,reduceCtorEq]
    have hcop:=hc
    simp only[cB] at hcop
    simp (disch:=omega) only [↓wr,↓reduceIte,wq,ao,af,Nat.reduceEqDiff,Nat.reduceAdd,Nat.reduceLT,reduceCtorEq,hcop,encI]
    intro n1 hn1 n2 hn2
    obtain ⟨d21,hn2⟩:=dz hn2 cQ
    have hcn1:¬ c=n1:=by rintro rfl; rw[hc] at hn1; simp at hn1
    have hcn2:¬ c=n2:=by rintro rfl; rw[hc] at hn2; simp at hn2
    have hmn1:¬ m=n1:=by rintro rfl; rw[hm] at hn1; simp at hn1
    have hmn2:¬ m=n2:=by rintro rfl; rw[hm] at hn2; simp at hn2
    have hcc:=HQ [(encI w,w),(.sl n1 0 1 1,[(g.ay.length:Int)])] n2 ((H.set n1 (.arr 1 [[gi g.ay.length]])).set n2 (.arr 1 [[encI w],[.sl n1 0 1 1]])) (by simp[View.set]) (by
      intro x hx
      simp only[List.mem_cons,List.not_mem_nil,or_false] at hx
      rcases hx with rfl | rfl
      · exact .inl rfl
      · exact .inr (.inr ⟨n1,by simp,by simp[View.set,Ne.symm d21]⟩)) (by simp; omega) (by simp)
    simp only[encI] at hcc
    refine aO.nz (hcc.mono ?_)
    rintro r H2 ⟨o2,hfr⟩
    have hc2:H2 c=.arr 9 [cB g t w (.sl m 0 1 1) (.emp 1)]:=by
      rw[(hfr c (by simp[View.set,hcn1,hcn2,hc])).1]; simp[View.set,hcn1,hcn2,hc]
    have hm2:H2 m=.arr 1 [[gi 0]]:=by
      rw[(hfr m (by simp[View.set,hmn1,hmn2,hm])).1]; simp[View.set,hmn1,hmn2,hm]
    have hrm:owner r≠some m:=(hfr m (by simp[View.set,hmn1,hmn2,hm])).2
    rw[Li,yp,F8,Dm,Li,Ag,zS,oc,D2,xU,oc]
    refine D5 (body 2000 _ _ ⟨r,[0],[],0,0,by omega,by omega,hX,⟨by simp,by have:=htf.n1; intro x hx; simp at hx; subst hx; omega⟩,⟨.sl m 0 1 1,.emp 1,hc2,cJ.own (.inr ⟨m,rfl,hm2⟩) (by simp),.nil,by simpa using o2,by simp[owner],fun id h=>⟨fun e=>?_,by simp[owner]⟩⟩,by omega,by simp,by simp,rfl,rfl,rfl,rfl⟩)
    simp only[owner,Option.some.injEq] at e
    exact hrm (e ▸ h)
set_option maxHeartbeats 8000000 in
theorem mW (g:aw) (hg:g.Ok) (hsm:g.Small) (t:c6) (ht:t.Ok) (w:List Int) (hw:bc w) (hn:∀ x∈w,bW x):b6 Tryz.prog 15 [.agg (av g),.agg (aP t),encI w] (ta (iX g t w)):=by
  refine b6.of (yA g t w) ?_
  have hc1:=uc g hg hsm w hw hn
  have hc2:=IQ g hg hsm t ht
  refine aL.of mixed yq ?_
  simp only[av,encS,aP,encI] at hc1 hc2
  rw[g9]
  simp (disch:=omega) only [↓wr,↓reduceIte,wq,ai,Nat.reduceEqDiff,Nat.reduceAdd,Nat.reduceLeDiff,uK,av,encS,aP,encI]
  refine aO.pure hc1 (by kernel_rfl) ?_
  simp (disch:=omega) only [↓wr,↓reduceIte,wq]
  refine ar.split (fun hwb=>?_) (fun hwb=>?_)
  rotate_left
  · simp (disch:=omega) only [↓wr,↓reduceIte,wq,Nat.reduceEqDiff,reduceCtorEq]
    intro h' _
    rw[hwb]
    exact hQ (x:=([],0,1)) (.emp _)
  simp (disch:=omega) only [↓wr,↓reduceIte,wq,Nat.reduceEqDiff,Nat.reduceAdd,Nat.reduceLeDiff]
  refine aO.pure hc2 (by kernel_rfl) ?_
  simp (disch:=omega) only [↓wr,↓reduceIte,wq,Nat.reduceEqDiff]
  refine ar.split (fun hrt=>?_) (fun hrt=>?_)
  rotate_left
  · simp (disch:=omega) only [↓wr,↓reduceIte,wq,Nat.reduceEqDiff,reduceCtorEq]
    intro h' _
    rw[hwb,hrt]
    exact hQ (x:=([],0,1)) (.emp _)
  have htf:=q9 hrt
  have hf:=bD htf.right
  obtain ⟨hw60,hwin⟩:=C6 hwb
  rw[hwb,hrt]
  simp only[Bool.and_self,if_true]
  simp (disch:=omega) only [↓wr,↓reduceIte,wq,ab,ae,af,Nat.reduceEqDiff,Nat.reduceAdd,Nat.reduceLT,Nat.reduceLeDiff]
  intro m c hcd
  obtain ⟨dcm,_⟩:=dz hcd cQ
  refine aO.nz ((M5 c g hg hf t htf w hw60 hwin m _ (by simp[View.set,cB,encI]) (by simp[View.set,Ne.symm dcm])).mono ?_)
  rintro r H2 ⟨rfl,h0,h1⟩
  generalize fv g t w 2000 [0] [] 0=X at h0 h1 ⊢
  obtain ⟨x1,x2,x3⟩:=X
  simp only at h0 h1 ⊢
  simp (disch:=omega) only [↓wr,↓reduceIte,wq,ag,Nat.reduceEqDiff,Nat.reduceAdd,Nat.reduceLT]
  refine ar.ne (fun he=>?_) (fun he=>?_)
  · simp (disch:=omega) only [↓wr,↓reduceIte,wq,Nat.reduceEqDiff,reduceCtorEq]
    intro h' _
    rw[h1 he]
    exact hQ (x:=([],x2,x3)) (.emp _)
  · obtain rfl:x3=0:=by omega
    obtain ⟨us,ur,hc2,ho⟩:=h0 rfl
    simp only[cB] at hc2
    simp (disch:=omega) only [↓wr,↓reduceIte,wq,Nat.reduceEqDiff,Nat.reduceAdd,Nat.reduceLT,reduceCtorEq,hc2]
    rintro h' rfl
    exact hQ (x:=(x1,x2,0)) (uu ho)
def Gk:Value→Value→Bool
  | .int k a,.int k' b=>decide (k=k') && decide (a=b)
  | .bool a,.bool b=>a == b
  | .string a,.string b=>fi a b
  | .pointer none,.pointer none=>true
  | _,_=>false
theorem KN:∀ (a b:Value),Gk a b=true→a=b:=by
  intro a b h
  unfold Gk at h
  split at h
  · simp only[Bool.and_eq_true,decide_eq_true_eq] at h
    rw[h.1,h.2]
  · rename_i a b
    rw[show a=b by simpa using h]
  · rename_i a b
    obtain ⟨a⟩:=a
    obtain ⟨b⟩:=b
    simp only[fi,beq_iff_eq] at h
    rw[show a=b from Array.toList_inj.1 h]
  · rfl
  · simp at h
def xD (q:V→V→Bool):List V→List V→Bool
  | [],[]=>true
  | a :: l,b :: m=>q a b && xD q l m
  | _,_=>false
def Ff (q:V→V→Bool):List (List V)→List (List V)→Bool
  | [],[]=>true
  | a :: l,b :: m=>xD q a b && Ff q l m
  | _,_=>false
def A8:Nat→V→V→Bool
  | 0,_,_=>false
  | k+1,a,b=>match a,b with
    | .val x,.val y=>Gk x y
    | .aM x,.aM y=>Ff (A8 k) x y
    | .agg x,.agg y=>xD (A8 k) x y
    | .bh x,.bh y=>xD (A8 k) x y
    | _,_=>false
theorem rA {q:V→V→Bool} (hq:∀ a b,q a b=true→a=b):∀ (l m:List V),xD q l m=true→l=m
  | [],[],_=>rfl
  | a :: l,b :: m,h=>by
    simp only[xD,Bool.and_eq_true] at h
    rw[hq a b h.1,rA hq l m h.2]
  | [],_ :: _,h=>by simp[xD] at h
  | _ :: _,[],h=>by simp[xD] at h
theorem Jo {q:V→V→Bool} (hq:∀ a b,q a b=true→a=b):∀ (l m:List (List V)),Ff q l m=true→l=m
  | [],[],_=>rfl
  | a :: l,b :: m,h=>by
    simp only[Ff,Bool.and_eq_true] at h
    rw[rA hq a b h.1,Jo hq l m h.2]
  | [],_ :: _,h=>by simp[Ff] at h
  | _ :: _,[],h=>by simp[Ff] at h
theorem CY:∀ (k:Nat) (a b:V),A8 k a b=true→a=b
  | 0,_,_,h=>by simp[A8] at h
  | k+1,a,b,h=>by
    have ih:=CY k
    unfold A8 at h
    split at h
    · rw[KN _ _ h]
    · rw[Jo ih _ _ h]
    · rw[rA ih _ _ h]
    · rw[rA ih _ _ h]
    · simp at h
def qu:Nat→V→Bool
  | 0,_=>false
  | k+1,v=>match v with
    | .val _=>true
    | .emp _=>true
    | .df=>true
    | .aM es=>es.all fun e=>e.all (qu k)
    | .agg cs=>cs.all (qu k)
    | .bh cs=>cs.all (qu k)
    | _=>false
theorem tH {q:V→Bool} {l:List V} (h:l.all q=true) {i:Nat} (hi:i < l.length):q (l.getD i .any)=true:=by
  have e:l.getD i .any=l[i]:=by simp[List.getD_eq_getElem?_getD,hi]
  rw[e]
  exact List.all_eq_true.1 h _ (List.getElem_mem _)
theorem yo:∀ (k:Nat) (v:V),qu k v=true→Tree v
  | 0,_,h=>by simp[qu] at h
  | k+1,v,h=>by
    have ih:=yo k
    unfold qu at h
    split at h
    · exact .val _
    · exact .emp _
    · exact .df
    · rename_i es
      refine .aM _ fun i j hi hj=>ih _ ?_
      have e:es.getD i []=es[i]:=by simp[List.getD_eq_getElem?_getD,hi]
      have h1:=List.all_eq_true.1 h _ (List.getElem_mem hi)
      rw[e] at hj ⊢
      exact tH h1 hj
    · exact .agg _ fun i hi=>ih _ (tH h hi)
    · exact .bh _ fun i hi=>ih _ (tH h hi)
    · simp at h
noncomputable def tU (H:View):Nat→V→Option V
  | 0,_=>none
  | k+1,v=>match v with
    | .val x=>some (.val x)
    | .emp _=>some (.aM [])
    | .aM es=>match qu 60 (.aM es) with
      | true=>some (.aM es)
      | false=>none
    | .sl id off len _=>match H id with
      | .arr _ es=>match Nat.ble (off+len) es.length with
        | true=>(zQ (tU H k) ((es.drop off).take len)).map .aM
        | false=>none
      | _=>none
    | .agg cs=>(j8 (tU H k) cs).map .agg
    | .bh cs=>(j8 (tU H k) cs).map .bh
    | _=>none
theorem z6 (h:aE):∀ (k:Nat) (v t:V),tU h.view k v=some t→Fr h v t
  | 0,v,t,hf=>by simp[tU] at hf
  | k+1,v,t,hf=>by
    have ih:=z6 h k
    simp only[tU] at hf
    split at hf
    · simp only[Option.some.injEq] at hf; subst hf; exact .tree _ (.val _)
    · simp only[Option.some.injEq] at hf; subst hf; exact .emp _
    · split at hf
      · rename_i ht
        simp only[Option.some.injEq] at hf; subst hf; exact .tree _ (yo _ _ ht)
      · simp at hf
    · rename_i id off len esz
      split at hf
      · rename_i z es hH
        split at hf
        · rename_i hle
          have hle:=Nat.le_of_ble_eq_true hle
          simp only[Option.map_eq_some_iff] at hf
          obtain ⟨es',he,rfl⟩:=hf
          obtain ⟨g1,g2⟩:=Ar _ _ he
          have hlen:es'.length=len:=by rw[g1]; simp; omega
          have hg:∀ i,i < len→((es.drop off).take len).getD i []=es.getD (off+i) []:=fun i hi=>by
            simp[List.getD_eq_getElem?_getD,hi]
          have g3:∀ i,i < len→j8 (tU h.view k) (es.getD (off+i) [])=some (es'.getD i []):=fun i hi=>by
            rw[← hg i hi]; exact g2 i (by rw[← g1,hlen]; exact hi)
          exact .sl id off len esz z es es' hH hle hlen (fun i hi=>(eQ _ _ (g3 i hi)).1) (fun i j hi hj=>ih _ _ ((eQ _ _ (g3 i hi)).2 j (by rw[← (eQ _ _ (g3 i hi)).1]; exact hj)))
        · simp at hf
      · simp at hf
    · simp only[Option.map_eq_some_iff] at hf
      obtain ⟨l,hl,rfl⟩:=hf
      obtain ⟨g1,g2⟩:=eQ _ _ hl
      exact .agg _ _ g1 (fun i hi=>ih _ _ (g2 i hi))
    · simp only[Option.map_eq_some_iff] at hf
      obtain ⟨l,hl,rfl⟩:=hf
      obtain ⟨g1,g2⟩:=eQ _ _ hl
      exact .bh _ _ g1 (fun i hi=>ih _ _ (g2 i hi))
    · simp at hf
theorem aJ.seen {P:Program} {f:FuncId} {vs ts:List V} {t:V} (hc:aJ P f ts t) (ht:∀ i,i < vs.length→Tree (vs.getD i .any)) (hl:ts.length=vs.length) (hfr:∀ i,i < vs.length→Fr [] (vs.getD i .any) (ts.getD i .any)):aJ P f vs t:=by
  intro Z μ w xs hrel hz
  have hr0:eU Z (fun _=>none) w.heap (cat [] fun _=>.dead):=by
    rw[zR]
    exact ⟨fun _=>trivial,fun i j b o s o' s' _ h=>by simp at h,fun id b o s h=>by simp at h,hz,fun id b o s h=>by simp at h⟩
  have hno:∀ b,¬ fF (fun _=>none) b:=fun b ⟨_,_,_,h⟩=>by simp at h
  have hts:dA (fun b=>Z b∨fF (fun _=>none) b) μ w.heap ts xs:=⟨by rw[hl,hrel.1],fun i hi=>yB hr0 (hfr i (by omega)) (tP (hrel.2 i (by omega)) (ht i (by omega)))⟩
  refine (hc _ μ w xs hts (fun b hb=>hb.elim (hz b) (fun h=>absurd h (hno b)))).mono ?_
  rintro e w' ⟨x,Z',rfl,hv,hs,h1,h2,ho⟩
  exact ⟨x,Z',rfl,hv,hs,fun b hb=>h1 b (.inl hb),fun b hb=>(h2 b hb).elim (fun h=>h.elim .inl (fun h=>absurd h (hno b))) .inr,ho⟩
abbrev dU:=FuncId × List V × V × Bool
def dU.Ok (P:Program) (x:dU):Prop:=ca P x.1=true∧if x.2.2.2=true then aJ P x.1 x.2.1 x.2.2.1 else (b6 P x.1 x.2.1 x.2.2.1∨(aJ P x.1 x.2.1 x.2.2.1∧xT x.2.2.1))
noncomputable def K6 (g:FuncId) (vs:List V) (H:View) (x:dU):Bool:=Nat.beq x.1 g && (match x.2.2.2 with
  | true=>vs.all (qu 60) && (match j8 (tU (fun _=>.dead) 60) vs with
    | some ts=>xD (A8 60) ts x.2.1
    | none=>false)
  | false=>match j8 (tU H 60) vs with
    | some ts=>xD (A8 60) ts x.2.1
    | none=>false)
noncomputable def F9 (l:List dU):vy:=fun g vs H=>(l.find? (K6 g vs H)).map fun x=>x.2.2.1
theorem yk {P:Program} {l:List dU} (hl:∀ x∈l,x.Ok P):ph P (F9 l):=by
  intro g vs H t h
  unfold F9 at h
  simp only[Option.map_eq_some_iff] at h
  obtain ⟨⟨f,ts,r,b⟩,hx,rfl⟩:=h
  obtain ⟨h1,h2⟩:=hl _ (List.mem_of_find?_eq_some hx)
  have hq:=List.find?_some hx
  simp only[K6,Bool.and_eq_true] at hq
  obtain ⟨hg,hq⟩:=hq
  have hg:=Nat.eq_of_beq_eq_true hg
  simp only at hg h1 h2 hq
  subst hg
  refine ⟨h1,?_⟩
  rintro h rfl
  cases b with
  | true =>
    simp only[Bool.and_eq_true] at hq
    obtain ⟨hq1,hq2⟩:=hq
    split at hq2
    · rename_i us hus
      obtain ⟨g1,g2⟩:=eQ _ _ hus
      have:=rA (CY 60) _ _ hq2
      subst this
      simp only[if_true] at h2
      exact bS.oJ (h2.seen (fun i hi=>yo _ _ (tH hq1 hi)) g1 fun i hi=>z6 [] 60 _ _ (g2 i hi)) h
    · simp at hq2
  | false =>
    simp only at hq
    split at hq
    · rename_i us hus
      obtain ⟨g1,g2⟩:=eQ _ _ hus
      have:=rA (CY 60) _ _ hq
      subst this
      have hfr:=fun i hi=>z6 h 60 _ _ (g2 i hi)
      simp only[Bool.false_eq_true,if_false] at h2
      rcases h2 with h2 | ⟨h2,h3⟩
      · exact bS.se h2 g1 hfr
      · exact bS.borrow h2 h3 g1 hfr
    · simp at hq
def jh (x:Int):Bool:=decide (-9223372036854775808≤x) && decide (x≤9223372036854775807)
theorem fo {x:Int} (h:jh x=true):bW x:=by
  unfold jh at h
  simp only[Bool.and_eq_true,decide_eq_true_eq] at h
  exact h
def okB (g:aw):Bool:=decide (g.ay.length≤900) && decide (g.ax.length≤100) && decide (g.rules.length≤900) && jh g.start && g.ay.all (fun t=>jh t.level && jh t.assoc) && g.rules.all fun r=>jh r.left && jh r.prec && decide (r.right.length≤900) && r.right.all jh
theorem Dp {g:aw} (h:okB g=true):g.Ok∧g.Small:=by
  unfold okB at h
  simp only[Bool.and_eq_true,decide_eq_true_eq,List.all_eq_true] at h
  obtain ⟨⟨⟨⟨⟨h1,h2⟩,h3⟩,h4⟩,h5⟩,h6⟩:=h
  refine ⟨⟨by unfold bc; omega,by unfold bc; omega,by unfold bc; omega,fo h4,fun t ht=>⟨fo (h5 t ht).1,fo (h5 t ht).2⟩,fun r hr=>?_⟩,⟨by omega⟩⟩
  have:=h6 r hr
  exact ⟨fo this.1.1.1,fo this.1.1.2,by unfold bc; have:=this.1.2; omega,fun x hx=>fo (this.2 x hx)⟩
theorem fk:cG.Ok∧cG.Small:=Dp (by kernel_rfl)
theorem NI {cs:List Value} (h:cs.length=2):cs=[cs.getD 0 undef,cs.getD 1 undef]:=by
  match cs,h with
  | [a,b],_=>rfl
theorem Lu:qc Tryz.prog 84 cb (fun c=>bW c.kind∧bW c.n):=fun enc w base sp held fuel cs x h hw=>by
  obtain ⟨hl,hf⟩:=mK Tryz.underlying84 (by
    intro i f hi
    match i,hi with
    | 0,hi=>simp at hi; subst hi; exact ⟨rfl,by kernel_rfl⟩
    | 1,hi=>simp at hi; subst hi; exact ⟨rfl,by kernel_rfl⟩
    | n+2,hi=>simp at hi) (by kernel_rfl) h hw
  obtain ⟨a,h0,h1⟩:=hf 0 _ rfl gY
  obtain ⟨b,h2,h3⟩:=hf 1 _ rfl gY
  refine ⟨⟨a,b⟩,⟨h0,h2⟩,?_⟩
  rw[NI hl]
  exact c8 h1 (c8 h3 oR)
theorem Mg:qc Tryz.prog 76 (fun l:List Cell=>[wu l]) (fun l=>bc l∧∀ c∈l,bW c.kind∧bW c.n) :=
  jv Tryz.underlying76 (of_decide_eq_true (by kernel_rfl)) (of_decide_eq_true (by kernel_rfl)) Lu
theorem MJ:qc Tryz.prog 30 aP c6.Ok:=fun enc w base sp held fuel cs x h hw=>by
  obtain ⟨hl,hf⟩:=mK Tryz.underlying30 (by
    intro i f hi
    match i,hi with
    | 0,hi=>simp at hi; subst hi; exact ⟨rfl,by kernel_rfl⟩
    | 1,hi=>simp at hi; subst hi; exact ⟨rfl,by kernel_rfl⟩
    | n+2,hi=>simp at hi) (by kernel_rfl) h hw
  obtain ⟨a,h0,h1⟩:=hf 0 _ rfl (jv Tryz.underlying27 (of_decide_eq_true (by kernel_rfl)) (of_decide_eq_true (by kernel_rfl)) Mg)
  obtain ⟨b,h2,h3⟩:=hf 1 _ rfl (jv Tryz.underlying28 (of_decide_eq_true (by kernel_rfl)) (of_decide_eq_true (by kernel_rfl)) zW)
  refine ⟨⟨a,b⟩,⟨h0.1,h2.1,h0.2,h2.2⟩,?_⟩
  rw[NI hl]
  exact c8 h1 (c8 h3 oR)
def j3:SC :=
  .seq (.seq (aq [aa 15 3,an 16 0 1,ak 17 16,aC 18 17,aF 19 .lss 15 18]) <|
  .cond (.tmp 19) (.skip) (.exit 0)) <|
  .seq (.block 1 (.seq (aq [an 22 0 1,ak 23 22,aa 24 3,aG 25 1 23 24,ak 26 25,aC 27 26,au 28 .gtr 27 50]) <|
  .cond (.tmp 28) (.seq (aq [aN 2 true]) <|
  .ret) (.skip))) <|
  aq [aa 20 3,au 21 .add 20 1,aa 3 21]
def jH:SC :=
  .seq (.seq (aq [aa 29 4,an 30 1 1,ak 31 30,aC 32 31,aF 33 .lss 29 32]) <|
  .cond (.tmp 33) (.skip) (.exit 2)) <|
  .seq (.block 3 (.seq (aq [an 36 1 1,ak 37 36,aa 38 4,aG 39 1 37 38,ak 40 39,aC 41 40,au 42 .gtr 41 50]) <|
  .cond (.tmp 42) (.seq (aq [aN 2 true]) <|
  .ret) (.skip))) <|
  aq [aa 34 4,au 35 .add 34 1,aa 4 35]
def lD:SF:=⟨.seq (aq [bA 1 0,aN 2 false]) <|
  .seq (.seq (.region false [⟨none,[an 5 0 1,ak 6 5,aC 7 6,au 8 .gtr 7 310,aa 9 8]⟩,⟨(some (9,false)),[an 10 1 1,ak 11 10,aC 12 11,au 13 .gtr 12 310]⟩,⟨none,[aX 14 9 13]⟩]) <|
  .cond (.tmp 14) (.seq (aq [aN 2 true]) <|
  .ret) (.skip)) <|
  .seq (.seq (aq [aA 3 0]) <|
  .block 0 (.loop j3)) <|
  .seq (.seq (aq [aA 4 0]) <|
  .block 2 (.loop jH)) <|
  .seq (aq [aN 2 false]) <|
  .ret,
  [.tmp 2],43⟩
theorem qQ:bo Tryz.prog 13 [1]=some lD:=by kernel_rfl
def iH:SF:=⟨.seq (aq [bA 3 0,bA 4 1,aN 6 false]) <|
  .seq (.seq (aq [aI 14 11 [],bB 15 14]) <|
  .cond (.tmp 15) (.seq (aq [aN 6 false]) <|
  .ret) (.skip)) <|
  .seq (.seq (.region false [⟨none,[aH 16 4 3,aI 17 12 [16],aa 18 17]⟩,⟨(some (18,false)),[aH 19 2 4,aI 20 13 [19]]⟩,⟨none,[aX 21 18 20,aa 22 21]⟩,⟨(some (22,false)),[aa 23 2,aC 24 23,au 25 .gtr 24 100]⟩,⟨none,[aX 26 22 25]⟩]) <|
  .cond (.tmp 26) (.seq (aq [aN 6 true]) <|
  .ret) (.skip)) <|
  .seq (aq [aa 27 2,aI 28 14 [27],aa 7 28]) <|
  .seq (aq [aH 30 4 3,aH 31 2 4,aa 32 7,aI 33 15 [30,31,32],aa 29 33,bq 34 0 29,bq 35 1 29,bq 36 2 29,aa 8 34,aa 9 35,aa 10 36]) <|
  .seq (aq [aH 38 4 3,aH 39 2 4,aa 40 2,aI 41 16 [38,39,40],aa 37 41,bq 42 0 37,bq 43 1 37,bq 44 2 37,aa 11 42,aa 12 43,aa 13 44]) <|
  .seq (.region true [⟨none,[aa 45 8,aa 46 11,aI 47 17 [45,46],aa 48 47]⟩,⟨(some (48,true)),[aa 49 9,aa 50 12,aF 51 .eql 49 50]⟩,⟨none,[bj 52 48 51,aa 53 52]⟩,⟨(some (53,true)),[aa 54 10,aa 55 13,aF 56 .eql 54 55]⟩,⟨none,[bj 57 53 56,aa 58 57]⟩,⟨(some (58,true)),[aH 59 4 3,aa 60 2,aI 61 18 [59,60],aH 62 4 3,aa 63 2,aI 64 19 [62,63],((some 65),.op (.beq true (.tmp 61) (.tmp 64)))]⟩,⟨none,[bj 66 58 65,aa 67 66]⟩,⟨(some (67,true)),[aa 68 7,aa 69 2,aI 70 17 [68,69]]⟩,⟨none,[bj 71 67 70,aa 6 71]⟩]) <|
  .ret,
  [.tmp 6],72⟩
theorem nr:bo Tryz.prog 3 [3,4]=some iH:=by kernel_rfl
def IA (t:c6):Bool:=decide (310 < t.aD.length) || decide (310 < t.gotos.length) || t.aD.any (fun r=>decide (50 < r.length)) || t.gotos.any fun r=>decide (50 < r.length)
theorem DZ (t:c6):∀ v∈[V.agg (aP t)],Tree v:=by
  intro v hv; simp at hv; subst hv
  exact cy _ (iR t)
set_option maxHeartbeats 4000000 in
theorem Ha (t:c6) (ht:t.Ok):∃ b:Bool,aJ Tryz.prog 13 [.agg (aP t)] (gb b):=by
  refine ⟨IA t,aJ.val (DZ t) fun H=>?_⟩
  have h1:=ht.aD
  have h2:=ht.gotos
  unfold bc at h1 h2
  refine aL.of mixed qQ ?_
  unfold IA
  simp (disch:=omega) only [↓wr,↓reduceIte,wq,ai,ag,ao,Nat.reduceEqDiff,Nat.reduceAdd,Nat.reduceLT,Nat.reduceLeDiff,lD,aP]
  refine ar.dec (fun c1=>?_) (fun c1=>?_)
  · simp (disch:=omega) only [↓wr,↓reduceIte,wq,Nat.reduceEqDiff,reduceCtorEq]
    rw[decide_eq_true (show 310 < t.aD.length by omega)]; rfl
  simp (disch:=omega) only [↓wr,↓reduceIte,wq,ag,ao,Nat.reduceEqDiff,Nat.reduceAdd,Nat.reduceLT]
  refine ar.dec (fun c2=>?_) (fun c2=>?_)
  · simp (disch:=omega) only [↓wr,↓reduceIte,wq,reduceCtorEq]
    rw[decide_eq_true (show 310 < t.gotos.length by omega),Bool.or_true]; rfl
  simp (disch:=omega) only [↓wr,wq]
  rw[decide_eq_false (show ¬ 310 < t.aD.length by omega),decide_eq_false (show ¬ 310 < t.gotos.length by omega),Bool.or_self,Bool.false_or]
  refine bC.up t.aD.length (fun i T H'=>(t.aD.take i).any (fun r=>decide (50 < r.length))=false∧T 1=.aQ (aP t) 0∧T 3=gi i) ⟨by simp,rfl,rfl⟩ ?_
  rintro i k T H' hk ⟨hall,t1,t3⟩
  simp (disch:=omega) only [↓wr,↓reduceIte,wq,ag,ao,Nat.reduceEqDiff,Nat.reduceAdd,Nat.reduceLT,j3,t1,t3,aP]
  refine ar.dec (fun hc=>?_) (fun hc=>?_)
  · have ha:t.aD[i]?=some (t.aD[i]'(by omega)):=List.getElem?_eq_getElem (by omega)
    have htk:t.aD.take (i+1)=t.aD.take i ++ [t.aD[i]'(by omega)]:=by rw[List.take_add_one,ha]; rfl
    have hmem:=List.mem_of_getElem? ha
    generalize t.aD[i]'(by omega)=r at ha htk hmem
    have hsr:=(ht.row r hmem).1
    unfold bc at hsr
    simp (disch:=omega) only [↓wr,↓reduceIte,wq,ag,ao,Nat.reduceEqDiff,Nat.reduceAdd,Nat.reduceLT,t1,t3,aP,List.getElem?_map,ha]
    refine ar.dec (fun hl=>?_) (fun hl=>?_)
    · simp (disch:=omega) only [↓wr,↓reduceIte,wq,ag,Nat.reduceEqDiff,reduceCtorEq]
      rw[show t.aD.any (fun r=>decide (50 < r.length))=true from List.any_eq_true.2 ⟨r,hmem,by simp; omega⟩]; rfl
    · simp (disch:=omega) only [↓wr,↓reduceIte,wq,ag,Nat.reduceEqDiff,reduceCtorEq,t3]
      exact bM hk (by omega) ⟨by rw[htk,List.any_append,hall]; simp; omega,t1,rfl⟩
  rw[List.take_of_length_le (by omega)] at hall
  rw[hall,Bool.false_or]
  simp (disch:=omega) only [↓wr,↓reduceIte,wq,Nat.reduceEqDiff,reduceCtorEq]
  refine bC.up t.gotos.length (fun i T H'=>(t.gotos.take i).any (fun r=>decide (50 < r.length))=false∧T 1=.aQ (aP t) 0∧T 4=gi i) ⟨by simp,t1,rfl⟩ ?_
  rintro i2 k2 T2 H2 hk2 ⟨hall2,t1,t4⟩
  simp (disch:=omega) only [↓wr,↓reduceIte,wq,ag,ao,Nat.reduceEqDiff,Nat.reduceAdd,Nat.reduceLT,reduceCtorEq,jH,t1,t4,aP]
  refine ar.dec (fun hc=>?_) (fun hc=>?_)
  · have ha:t.gotos[i2]?=some (t.gotos[i2]'(by omega)):=List.getElem?_eq_getElem (by omega)
    have htk:t.gotos.take (i2+1)=t.gotos.take i2 ++ [t.gotos[i2]'(by omega)]:=by rw[List.take_add_one,ha]; rfl
    have hmem:=List.mem_of_getElem? ha
    generalize t.gotos[i2]'(by omega)=r at ha htk hmem
    have hsr:=(ht.go r hmem).1
    unfold bc at hsr
    simp (disch:=omega) only [↓wr,↓reduceIte,wq,ag,ao,Nat.reduceEqDiff,Nat.reduceAdd,Nat.reduceLT,t1,t4,aP,List.getElem?_map,ha,encI]
    refine ar.dec (fun hl=>?_) (fun hl=>?_)
    · simp (disch:=omega) only [↓wr,↓reduceIte,wq,ag,Nat.reduceEqDiff,reduceCtorEq]
      rw[show t.gotos.any (fun r=>decide (50 < r.length))=true from List.any_eq_true.2 ⟨r,hmem,by simp; omega⟩]
    · simp (disch:=omega) only [↓wr,↓reduceIte,wq,ag,Nat.reduceEqDiff,reduceCtorEq,t4]
      exact bM hk2 (by omega) ⟨by rw[htk,List.any_append,hall2]; simp; omega,t1,rfl⟩
  rw[List.take_of_length_le (by omega)] at hall2
  rw[hall2]
  simp (disch:=omega) only [↓wr,↓reduceIte,wq,Nat.reduceEqDiff,reduceCtorEq]
theorem Kg (g:aw) (t:c6) (w:List Int):∀ (k:Nat) (st rs:List Int) (at_:Nat),(fv g t w k st rs at_).1.length≤rs.length+k:=by
  intro k
  induction k with
  | zero =>
    intro st rs at_
    rw[lM]
    split
    · simp
    · split <;> simp
  | succ k ih =>
    intro st rs at_
    rw[lM]
    split
    · simp
    · split
      · simp
      · simp only
        split
        · have:=ih (st ++ [(cr t (bw st) (bz g w at_)).n]) rs (at_+1); omega
        · split
          · simp
          · split
            · simp
            · refine Nat.le_trans (ih _ _ _) ?_
              simp; omega
theorem CM (g:aw) (t:c6) (w:List Int):bc (iX g t w).1:=by
  rw[g9]
  unfold bc
  split
  · have:=Kg g t w 2000 [0] [] 0
    simp at this; omega
  · simp
set_option maxHeartbeats 4000000 in
theorem yI (hal:aJ Tryz.prog 11 [] (gb true)) (g:aw) (hg:g.Ok) (t:c6) (ht:t.Ok) (w:List Int) (hw:bc w) (hn:∀ x∈w,bW x):aJ Tryz.prog 3 [.agg (av g),.agg (aP t),encI w] (gb true):=by
  refine aJ.val (yA g t w) fun H=>?_
  refine aL.of mixed nr ?_
  have hw':=hw
  unfold bc at hw'
  obtain ⟨b,hb⟩:=Ha t ht
  simp (disch:=omega) only [↓wr,↓reduceIte,wq,ai,Nat.reduceEqDiff,Nat.reduceAdd,Nat.reduceLeDiff,iH,av,encS,aP,encI]
  refine aO.pure hal (by kernel_rfl) ?_
  simp (disch:=omega) only [↓wr,↓reduceIte,wq,Nat.reduceEqDiff,Nat.reduceAdd,Nat.reduceLeDiff]
  refine aO.pure (JR g) (by kernel_rfl) ?_
  simp (disch:=omega) only [↓wr,↓reduceIte,wq]
  refine ar.split (fun e=>?_) (fun e=>?_)
  · simp (disch:=omega) only [↓wr,↓reduceIte,wq,Nat.reduceEqDiff,reduceCtorEq]
  have hsm:g.Small:=D3 e
  simp only[aP] at hb
  simp (disch:=omega) only [↓wr,↓reduceIte,wq,Nat.reduceEqDiff,Nat.reduceAdd,Nat.reduceLeDiff]
  refine aO.pure hb (by kernel_rfl) ?_
  simp (disch:=omega) only [↓wr,↓reduceIte,wq,Nat.reduceEqDiff]
  refine ar.split (fun _=>?_) (fun _=>?_)
  · simp (disch:=omega) only [↓wr,↓reduceIte,wq,Nat.reduceEqDiff,reduceCtorEq]
  simp (disch:=omega) only [↓wr,↓reduceIte,wq,ag,ao,Nat.reduceEqDiff]
  refine ar.dec (fun hl=>?_) (fun hl=>?_)
  · simp (disch:=omega) only [↓wr,↓reduceIte,wq,reduceCtorEq]
  have p1:=mW g hg hsm t ht w hw hn
  have p2:=(Gs g hg t ht w hw hn).pure
  have p3:=CM g t w
  have p4:=uc g hg hsm w hw hn
  have p5:=Bn g hg w hw hn
  generalize iX g t w=y at p1 p2 p3
  obtain ⟨y1,y2,y3⟩:=y
  simp (disch:=omega) only [↓wr,↓reduceIte,wq,Nat.reduceEqDiff]
  refine aO.nz ((Iv w (by omega) _).mono ?_)
  rintro u H1 ⟨ho,_⟩
  simp only[av,encS,aP,encI,ta] at p1 p2 p4 p5
  simp (disch:=omega) only [↓wr,↓reduceIte,wq,Nat.reduceEqDiff,Nat.reduceAdd,Nat.reduceLeDiff]
  refine aO.Nh p1 (by kernel_rfl) ⟨.tree (cy _ (cH g)),.tree (cy _ (iR t)),cZ.own ho (by intro e he v hv; simp only[List.mem_map] at he; obtain ⟨x,_,rfl⟩:=he; simp at hv; subst hv; exact .val _),trivial⟩ ?_
  simp (disch:=omega) only [↓wr,↓reduceIte,wq,Nat.reduceEqDiff,Nat.reduceAdd,Nat.reduceLT,Nat.reduceLeDiff]
  refine aO.pure p2 (by kernel_rfl) ?_
  simp (disch:=omega) only [↓wr,↓reduceIte,wq,Nat.reduceEqDiff,Nat.reduceAdd,Nat.reduceLT]
  have he:=wZ y1 y1 p3
  have he2:=wZ w w hw
  rw[beq_self_eq_true] at he he2
  simp only[encI] at he he2
  refine aO.pure he (by kernel_rfl) ?_
  simp (disch:=omega) only [↓wr,↓reduceIte,wq,ag,Nat.reduceEqDiff]
  refine ar.split (fun _=>?_) (fun h=>absurd h (by simp))
  simp (disch:=omega) only [↓wr,↓reduceIte,wq,ag,Nat.reduceEqDiff]
  refine ar.split (fun _=>?_) (fun h=>absurd h (by simp))
  simp (disch:=omega) only [↓wr,↓reduceIte,wq,Nat.reduceEqDiff,Nat.reduceAdd,Nat.reduceLeDiff]
  refine aO.pure p4 (by kernel_rfl) ?_
  simp (disch:=omega) only [↓wr,↓reduceIte,wq,Nat.reduceEqDiff,Nat.reduceAdd,Nat.reduceLeDiff]
  refine aO.pure p5 (by kernel_rfl) ?_
  simp (disch:=omega) only [↓wr,↓reduceIte,wq,Nat.reduceEqDiff]
  refine ar.split (fun _=>?_) (fun h=>absurd h (by simp))
  simp (disch:=omega) only [↓wr,↓reduceIte,wq,Nat.reduceEqDiff]
  refine aO.Mj he2 (by kernel_rfl) (.val _) ⟨cZ.NM ho,cZ.tree (ej w),trivial⟩ ?_
  simp (disch:=omega) only [↓wr,↓reduceIte,wq,Nat.reduceEqDiff,reduceCtorEq]
end Gv
