/-
  Part 15 of the proof: what the machine does and what the functions answer.
  Conditions: those that each lemma names.
-/
import Derived.Test.YtihmlbdfcmfbdaaGreatSGzA6N
set_option linter.unusedSimpArgs false
set_option linter.unusedVariables false
set_option maxRecDepth 100000
namespace Gv
open Go Go.Proofs
structure mN (g:ao) (a:List bt):Prop where
  first:(a.getD 0 cg).bo=[⟨-1,0⟩]
  MF:∀ s∈a,∀ e∈s.bT,(a.getD e.to.toNat cg).bo=bc g (cM g s.bo) e.sym
theorem jY (l:List bt) (i:Nat) (c:fh) (j:Nat):((l.modify i fun x=>(⟨x.bo,x.bT ++ [c]⟩:bt)).getD j cg).bo=(l.getD j cg).bo:=by
  simp only[List.getD_eq_getElem?_getD,List.getElem?_modify]
  cases l[j]? with
  | none=>rfl
  | some x =>
    by_cases e:i=j
    · subst e; simp
    · simp[e]
theorem mN.put {g:ao} {out:List bt} (h:mN g out) {at_:Nat} {s to:Int} (ht:(out.getD to.toNat cg).bo=bc g (cM g (out.getD at_ cg).bo) s):mN g (out.modify at_ fun x=>(⟨x.bo,x.bT ++ [⟨s,to⟩]⟩:bt)):=by
  refine ⟨by rw[jY]; exact h.first,fun y hy e he=>?_⟩
  rw[jY]
  rcases mem_modify hy with hy | ⟨x,hx,rfl⟩
  · exact h.MF y hy e he
  · rcases List.mem_append.1 he with he | he
    · exact h.MF x (List.mem_of_getElem? hx) e he
    · simp at he; subst he
      rw[ht,List.getD_eq_getElem?_getD,hx]; rfl
theorem mN.add {g:ao} {out:List bt} (h:mN g out) (h1:1≤out.length) (ht:∀ s∈out,∀ e∈s.bT,0≤e.to∧e.to < out.length) (k:List aL):mN g (out ++ [⟨k,[]⟩]):=by
  have hg:∀ j:Nat,j < out.length→((out ++ [(⟨k,[]⟩:bt)]).getD j cg)=out.getD j cg:=fun j hj=>by
    simp[List.getD_eq_getElem?_getD,List.getElem?_append_left hj]
  refine ⟨by rw[hg 0 (by omega)]; exact h.first,fun y hy e he=>?_⟩
  rcases List.mem_append.1 hy with hy | hy
  · have:=ht y hy e he
    rw[hg _ (by omega)]; exact h.MF y hy e he
  · simp at hy; subst hy; simp at he
theorem KG (g:ao) (l:List aL) (at_:Nat) (out:List bt) (i:Nat) {j:Nat} (hj:j < out.length):((cX g l at_ out i).getD j cg).bo=(out.getD j cg).bo:=by
  unfold cX
  split
  · rfl
  · split
    · rw[jY]
      simp[List.getD_eq_getElem?_getD,List.getElem?_append_left hj]
    · rw[jY]
theorem mN.step {g:ao} {l:List aL} {at_ i:Nat} {out:List bt} (h:mN g out) (hi:dO g at_ i out) (ha:at_ < out.length) (hl:cM g (out.getD at_ cg).bo=l):mN g (cX g l at_ out i):=by
  unfold cX
  split
  · exact h
  · split
    · refine (h.add (by omega) hi.to _).put ?_
      rw[Int.toNat_natCast]
      have e1:((out ++ [(⟨bc g l (aU g i),[]⟩:bt)]).getD out.length cg).bo=bc g l (aU g i):=by
        simp[List.getD_eq_getElem?_getD]
      have e2:(out ++ [(⟨bc g l (aU g i),[]⟩:bt)]).getD at_ cg=out.getD at_ cg:=by
        simp[List.getD_eq_getElem?_getD,List.getElem?_append_left ha]
      rw[e1,e2,hl]
    · rename_i hf
      refine h.put ?_
      obtain ⟨n,hn⟩:∃ n:Nat,findD out (bc g l (aU g i))=n:=⟨(findD out (bc g l (aU g i))).toNat,by omega⟩
      obtain ⟨s,h1,h2⟩:=Fe _ _ _ hn
      rw[hn,Int.toNat_natCast,List.getD_eq_getElem?_getD,h1,hl]
      exact h2
theorem mN.row {g:ao} (hf:g.dH) {at_:Nat} {out:List bt} (h:mN g out) (hi:dO g at_ 0 out) (ha:at_ < out.length):∀ n:Nat,n≤40→mN g ((List.range n).foldl (cX g (cM g (out.getD at_ cg).bo) at_) out)∧(((List.range n).foldl (cX g (cM g (out.getD at_ cg).bo) at_) out).getD at_ cg).bo=(out.getD at_ cg).bo
  | 0,_=>⟨h,rfl⟩
  | n+1,hn=>by
    obtain ⟨h1,h2⟩:=mN.row hf h hi ha n (by omega)
    obtain ⟨i1,i2,i3⟩:=dO.row (hi.sC hf ha).1 (hi.sC hf ha).2 hi n (by omega)
    rw[List.range_succ,List.foldl_append]
    simp only[List.foldl_cons,List.foldl_nil]
    refine ⟨h1.step i1 (by omega) (by rw[h2]),?_⟩
    rw[KG _ _ _ _ _ (by omega),h2]
inductive nS (a:List bt):List Int→List Int→Prop
  | nil:nS a [] [0]
  | snoc {X st:List Int} {e:fh} : nS a X st→e∈(a.getD (BS st).toNat cg).bT→nS a (X ++ [e.sym]) (st ++ [e.to])
theorem nS.len {a:List bt} {X st:List Int} (h:nS a X st):st.length=X.length+1:=by
  induction h with
  | nil=>rfl
  | snoc _ _ ih=>simp[ih]
theorem nS.take {a:List bt} {X st:List Int} (h:nS a X st):∀ k:Nat,k≤X.length→nS a (X.take k) (st.take (k+1)):=by
  induction h with
  | nil =>
           intro k hk; have:k=0:=by simpa using hk
           subst this; exact .nil
  | @snoc X st e h he ih =>
    intro k hk
    have hl:=h.len
    simp only[List.length_append,List.length_cons,List.length_nil] at hk
    by_cases hk2:k≤X.length
    · rw[List.take_append_of_le_length hk2,List.take_append_of_le_length (by omega)]
      exact ih k hk2
    · rw[List.take_of_length_le (by simp; omega),List.take_of_length_le (by simp; omega)]
      exact .snoc h he
theorem N2 {a:List bt} {i:Nat} {e:fh} (h:e∈(a.getD i cg).bT):i < a.length∧a.getD i cg∈a:=by
  rcases Nat.lt_or_ge i a.length with hi | hi
  · exact ⟨hi,List.mem_of_getElem? (getD_some hi)⟩
  · rw[List.getD_eq_getElem?_getD,List.getElem?_eq_none hi] at h; simp at h
theorem nS.top {g:ao} {a:List bt} (ha:DN g a) (h1:1≤a.length) {X st:List Int} (h:nS a X st):0≤BS st∧BS st < a.length:=by
  cases h with
  | nil=>simp[BS]; omega
  | snoc h he =>
    rw[MC]
    exact ha.to _ (N2 he).2 _ he
theorem lY.bo {g:ao} {l:List aL} {x:aL} (h:lY g l x) (hd:x.dot≠0∨x.aH < 0):x∈l:=by
  cases h with
  | base h=>exact h
  | step=>simp at hd; omega
def nR (g:ao) (l:List aL) (n:Nat):List Int:=((List.range n).filter fun i=>decide (bc g l (aU g i)≠[])).map fun (i:Nat)=>aU g i
theorem AA (g:ao) (l:List aL) (n:Nat):nR g l (n+1)=if bc g l (aU g n)=[] then nR g l n else nR g l n ++ [aU g n]:=by
  unfold nR
  rw[List.range_succ,List.filter_append,List.map_append]
  by_cases h:bc g l (aU g n)=[]
  · rw[if_pos h]; simp[h]
  · rw[if_neg h]; simp[h]
structure l9 (g:ao) (at_ i:Nat) (out:List bt):Prop where
  one:(out.map bt.bo).Nodup
  back:∀ j:Nat,0 < j→j < out.length→∃ (i:Nat) (e:fh),i < j∧e∈(out.getD i cg).bT∧e.to=j
  done:∀ j:Nat,j < at_→j < out.length→(out.getD j cg).bT.map fh.sym=nR g (cM g (out.getD j cg).bo) (g.az.length+g.ay.length)
  here:at_ < out.length→(out.getD at_ cg).bT.map fh.sym=nR g (cM g (out.getD at_ cg).bo) i
theorem pW (l:List bt) (i:Nat) (c:fh) (j:Nat) (hi:i < l.length):((l.modify i fun x=>(⟨x.bo,x.bT ++ [c]⟩:bt)).getD j cg).bT=if i=j then (l.getD j cg).bT ++ [c] else (l.getD j cg).bT:=by
  simp only[List.getD_eq_getElem?_getD,List.getElem?_modify]
  by_cases e:i=j
  · subst e; simp[hi]
  · cases l[j]? with
    | none=>simp[e]
    | some x=>simp[e]
theorem Bw (l:List bt) (i:Nat) (c:fh):(l.modify i fun x=>(⟨x.bo,x.bT ++ [c]⟩:bt)).map bt.bo=l.map bt.bo:=by
  apply List.ext_getElem?
  intro j
  simp only[List.getElem?_map,List.getElem?_modify]
  cases l[j]? with
  | none=>rfl
  | some x=>by_cases e:i=j <;> simp[e]
theorem l9.put {g:ao} {at_ i:Nat} {out:List bt} {to:Int} (ha:at_ < out.length) (h1:(out.map bt.bo).Nodup) (h2:∀ j:Nat,0 < j→j < out.length→(∃ (i:Nat) (e:fh),i < j∧e∈(out.getD i cg).bT∧e.to=j)∨(at_ < j∧to=j))
    (h3:∀ j:Nat,j < at_→j < out.length→(out.getD j cg).bT.map fh.sym=nR g (cM g (out.getD j cg).bo) (g.az.length+g.ay.length)) (h4:(out.getD at_ cg).bT.map fh.sym=nR g (cM g (out.getD at_ cg).bo) i)
    (hne:bc g (cM g (out.getD at_ cg).bo) (aU g i)≠[]):l9 g at_ (i+1) (out.modify at_ fun x=>(⟨x.bo,x.bT ++ [⟨aU g i,to⟩]⟩:bt)):=by
  refine ⟨by rw[Bw]; exact h1,fun j hj hl=>?_,fun j hj hl=>?_,fun _=>?_⟩
  · rw[List.length_modify] at hl
    rcases h2 j hj hl with ⟨k,e,a1,a2,a3⟩ | ⟨a1,a2⟩
    · refine ⟨k,e,a1,?_,a3⟩
      rw[pW _ _ _ _ ha]
      split
      · exact List.mem_append_left _ a2
      · exact a2
    · refine ⟨at_,⟨aU g i,to⟩,a1,?_,a2⟩
      rw[pW _ _ _ _ ha,if_pos rfl]
      simp
  · rw[List.length_modify] at hl
    rw[pW _ _ _ _ ha,if_neg (by omega),jY]
    exact h3 j hj hl
  · rw[pW _ _ _ _ ha,if_pos rfl,jY,List.map_append,h4,AA,if_neg hne]; rfl
theorem l9.step {g:ao} {at_ i:Nat} {out:List bt} (h:l9 g at_ i out) (ha:at_ < out.length):l9 g at_ (i+1) (cX g (cM g (out.getD at_ cg).bo) at_ out i):=by
  unfold cX
  split
  · rename_i hm
    exact ⟨h.one,h.back,h.done,fun _=>by rw[AA,if_pos hm]; exact h.here ha⟩
  · rename_i hm
    split
    · rename_i hf
      have hg:∀ j:Nat,j < out.length→((out ++ [(⟨bc g (cM g (out.getD at_ cg).bo) (aU g i),[]⟩:bt)]).getD j cg)=out.getD j cg:=fun j hj=>by
        simp[List.getD_eq_getElem?_getD,List.getElem?_append_left hj]
      refine l9.put (by simp; omega) ?_ (fun j hj hl=>?_) (fun j hj hl=>?_) ?_ ?_
      · rw[List.map_append,List.nodup_append]
        refine ⟨h.one,by simp,fun a hA b hB=>?_⟩
        obtain ⟨s,hs,rfl⟩:=List.mem_map.1 hA
        simp at hB; subst hB
        exact Ej _ _ hf s hs
      · rcases Nat.lt_or_ge j out.length with q | q
        · obtain ⟨k,e,a1,a2,a3⟩:=h.back j hj q
          exact .inl ⟨k,e,a1,by rw[hg k (by omega)]; exact a2,a3⟩
        · right
          simp at hl
          exact ⟨by omega,by omega⟩
      · rw[hg j (by omega)]; exact h.done j hj (by omega)
      · rw[hg at_ ha]; exact h.here ha
      · rw[hg at_ ha]; exact hm
    · exact l9.put ha h.one (fun j hj hl=>.inl (h.back j hj hl)) h.done (h.here ha) hm
theorem l9.row {g:ao} (hf:g.dH) {at_:Nat} {out:List bt} (h:l9 g at_ 0 out) (hi:dO g at_ 0 out) (he:mN g out) (ha:at_ < out.length):∀ n:Nat,n≤40→l9 g at_ n ((List.range n).foldl (cX g (cM g (out.getD at_ cg).bo) at_) out)
  | 0,_=>h
  | n+1,hn=>by
    have h1:=l9.row hf h hi he ha n (by omega)
    obtain ⟨i1,i2,i3⟩:=dO.row (hi.sC hf ha).1 (hi.sC hf ha).2 hi n (by omega)
    obtain ⟨e1,e2⟩:=he.row hf hi ha n (by omega)
    rw[List.range_succ,List.foldl_append]
    simp only[List.foldl_cons,List.foldl_nil]
    have:=h1.step (by omega)
    rw[e2] at this
    exact this
theorem l9.next {g:ao} {at_:Nat} {out:List bt} (h:l9 g at_ (g.az.length+g.ay.length) out) (hi:dO g at_ (g.az.length+g.ay.length) out):l9 g (at_+1) 0 out:=by
  refine ⟨h.one,h.back,fun j hj hl=>?_,fun hl=>?_⟩
  · rcases Nat.lt_or_ge j at_ with q | q
    · exact h.done j q hl
    · have:j=at_:=by omega
      subst this
      exact h.here hl
  · have:=(hi.bT (at_+1) _ (getD_some (d:=cg) hl)).2.2 (by omega)
    rw[this]; simp[nR]
structure QC (g:ao) (a:List bt):Prop where
  one:(a.map bt.bo).Nodup
  back:∀ j:Nat,0 < j→j < a.length→∃ (i:Nat) (e:fh),i < j∧e∈(a.getD i cg).bT∧e.to=j
  all:∀ s∈a,s.bT.map fh.sym=nR g (cM g s.bo) (g.az.length+g.ay.length)
theorem Cj (g:ao):∀ (f at_:Nat) (out:List bt),(gB g f at_ out).2=0∨gB g f at_ out=([],5)
  | 0,_,_=>.inl rfl
  | f+1,at_,out=>by
    rw[gB]
    split
    · split
      · exact .inr rfl
      · exact Cj g f _ _
    · exact .inl rfl
theorem JF (g:ao):((dQ g).2=0∧isRed g=true)∨(dQ g=([],5)∧isRed g=true)∨(dQ g=([],1)∧isRed g=false):=by
  unfold dQ
  cases h:isRed g with
  | false=>exact .inr (.inr ⟨by simp,rfl⟩)
  | true =>
    rw[if_pos rfl]
    rcases Cj g 302 0 fe with h | h
    · exact .inl ⟨h,rfl⟩
    · exact .inr (.inl ⟨h,rfl⟩)
theorem E4 {g:ao} (hf:g.dH) {x:aL} (hx:c4 g x) {s:Int} (h:cU g x=(s,true)):hU g s=true:=by
  obtain ⟨h1,h2⟩:=yp h
  have hlt:x.dot.toNat < (dt g x.aH).length:=by have:=hx.2; omega
  have hm:s∈dt g x.aH:=by
    rw[← h2,List.getD_eq_getElem?_getD,List.getElem?_eq_getElem hlt]; exact List.getElem_mem _
  unfold dt at hm
  split at hm
  · simp at hm; subst hm
    have:=hf.jJ; have:=hf.start
    unfold hU
    rw[if_neg (by omega)]
    simp; omega
  · have hR:g.rules[x.aH.toNat]?=some (dC g x.aH):=by unfold dC; exact getD_some (by have:=hx.1; omega)
    exact hf.sym _ (List.mem_of_getElem? hR) s hm
def xg:SF:=⟨.seq (ak [bZ 2 0,((some 4),.op (.bm (.val (.emp 1))))]) <|
  .seq (.seq (ak [aa 5 1,aA 6 .eql 5 (-1)]) <|
  .cond (.tmp 6) (.seq (ak [av 7 3 2,au 8 7,((some 9),.op (.arith .sub (.val (.val (.int .i64 (-1)))) (.tmp 8))),((some 10),.op (.bC 1 1 [(.val (.int .i64 0))] [(0,(.tmp 9))])),aa 4 10]) <|
  .ret) (.skip)) <|
  .seq (ak [av 11 2 2,au 12 11,aa 13 1,aP 14 3 12 13,av 15 1 14,au 16 15,aa 4 16]) <|
  .ret,
  [.tmp 4],17⟩
theorem AV:bf Tryz.prog 53 [2]=some xg:=by kernel_rfl
def yP:SF:=⟨.seq (ak [bZ 2 0,bZ 3 1,aF 4 0,aX 5 false]) <|
  .seq (.seq (ak [aK 7 4 2,av 8 0 3,au 9 8,aI 10 53 [7,9],aa 6 10]) <|
  .seq (ak [av 11 1 3,au 12 11,aa 13 6,aJ 14 13,aN 15 .lss 12 14]) <|
  .cond (.tmp 15) (.seq (ak [aa 16 6,av 17 1 3,au 18 17,aP 19 1 16 18,au 20 19,aa 4 20,aX 5 true]) <|
  .ret) (.skip)) <|
  .seq (ak [aF 4 0,aX 5 false]) <|
  .ret,
  [.tmp 4,.tmp 5],21⟩
theorem Bz:bf Tryz.prog 50 [2,3]=some yP:=by kernel_rfl
def yu:SF:=⟨.seq (ak [bZ 2 0,aF 4 0]) <|
  .seq (.seq (ak [aa 5 1,aA 6 .lss 5 0]) <|
  .cond (.tmp 6) (.seq (ak [av 7 0 2,au 8 7,aJ 9 8,aA 10 .sub 9 1,aa 11 1,aN 12 .sub 10 11,aa 4 12]) <|
  .ret) (.skip)) <|
  .seq (ak [aa 13 1,aa 4 13]) <|
  .ret,
  [.tmp 4],14⟩
theorem Bo:bf Tryz.prog 111 [2]=some yu:=by kernel_rfl
def cw:SF:=⟨.seq (ak [((some 2),.op (.bm (.val (.emp 1))))]) <|
  .seq (.seq (ak [aa 3 0,((some 4),.op (.nil true 0 (.tmp 3) (.val (.emp 1))))]) <|
  .cond (.tmp 4) (.seq (ak [((some 2),.op (.bm (.val (.emp 1))))]) <|
  .ret) (.skip)) <|
  .seq (ak [((some 5),.op (.bm (.val (.emp 2)))),aa 6 0,((some 7),.op (.app 2 16 (.tmp 5) (.tmp 6))),aa 2 7]) <|
  .ret,
  [.tmp 2],8⟩
theorem cQ:bf Tryz.prog 58 []=some cw:=by kernel_rfl
def q6:SC :=
  .seq (ak [aN 54 .lss 53 52]) <|
  .seq (.cond (.tmp 54) (.skip) (.exit 2)) <|
  .seq (.block 3 (.seq (ak [aa 55 53,aP 56 3 51 53,aK 57 3 56,((some 11),.op (.alloc [(.val (.int .i64 0)),(.emp 1),(.val (.int .i64 0))])),aa 10 55,(none,.op (.store 3 (.tmp 11) (.tmp 57)))]) <|
  .seq (ak [av 58 0 11,au 59 58,aa 60 8,((some 61),.op (.arith .sub (.val (.val (.int .i64 (-1)))) (.tmp 60))),aN 62 .eql 59 61]) <|
  .cond (.tmp 62) (ak [aa 63 5,aa 64 10,((some 65),.op (.build [(.val (.int .i64 0)),(.val (.int .i64 0))] [(0,1,(.tmp 64))])),((some 66),.op (.bC 1 2 [(.val (.int .i64 0)),(.val (.int .i64 0))] [(0,(.tmp 65))])),((some 67),.op (.app 2 16 (.tmp 63) (.tmp 66))),aa 5 67]) (.skip))) <|
  ak [aA 68 .add 53 1,aa 53 68]
def qZ:SC :=
  .seq (.seq (ak [aa 18 7,aa 19 5,aJ 20 19,aN 21 .lss 18 20]) <|
  .cond (.tmp 21) (.skip) (.exit 0)) <|
  .seq (.block 1 (.seq (ak [aK 25 4 2,aa 26 5,aa 27 7,aP 28 2 26 27,aK 29 2 28,aI 30 50 [25,29],aa 24 30,cG 31 0 24,cG 32 1 24,aa 8 31,aa 9 32]) <|
  .seq (.seq (.region false [⟨none,[aa 33 9,b6 34 33,aa 35 34]⟩,⟨(some (35,false)),[aa 36 8,aA 37 .geq 36 0]⟩,⟨none,[bJ 38 35 37,aa 39 38]⟩,⟨(some (39,false)),[aa 40 6,aa 41 8,((some 42),.op (.arith .sub (.val (.val (.int .i64 (-1)))) (.tmp 41))),aP 43 1 40 42,au 44 43]⟩,⟨none,[bJ 45 39 44]⟩]) <|
  .cond (.tmp 45) (.exit 1) (.skip)) <|
  .seq (ak [aa 46 6,aa 47 8,((some 48),.op (.arith .sub (.val (.val (.int .i64 (-1)))) (.tmp 47))),aP 49 1 46 48,(none,.op (.store 1 (.tmp 49) (.val (.val (.bool true)))))]) <|
  .seq (ak [av 50 2 2,au 51 50,aJ 52 51,aF 53 0]) <|
  .block 2 (.loop q6))) <|
  ak [aa 22 7,aA 23 .add 22 1,aa 7 23]
def sO:SF:=⟨.seq (ak [bZ 2 0,((some 4),.op (.bm (.val (.emp 1))))]) <|
  .seq (ak [aa 12 1,aI 13 58 [12],aa 5 13]) <|
  .seq (ak [av 14 1 2,au 15 14,aJ 16 15,((some 17),.op (.make 1 1 [(.val (.bool false))] (.tmp 16) (.tmp 16))),aa 6 17]) <|
  .seq (.seq (ak [aF 7 0]) <|
  .block 0 (.loop qZ)) <|
  .seq (ak [aa 69 5,aI 70 64 [69],aa 4 70]) <|
  .ret,
  [.tmp 4],71⟩
theorem x9:bf Tryz.prog 56 [2]=some sO:=by kernel_rfl
theorem Lt (g:ao) (hs : -100≤g.start∧g.start≤100) (r:Int) (hr : -1≤r∧r < (g.rules.length:Int)):aD Tryz.prog 53 [.agg (aw g),gi r] (encI (dt g r)):=by
  refine aD.of (by
    intro v hv; simp at hv
    rcases hv with rfl | rfl
    · exact dd _ (dT g)
    · exact .val _) ?_
  refine aC.of mixed AV ?_
  unfold dt
  simp (disch:=omega) only [↓wr,↓reduceIte,wq,ah,ag,aj,ab,ae,af,ai,isNil,Nat.reduceEqDiff,Nat.reduceAdd,Nat.reduceLT,Nat.reduceLeDiff,Int.reduceNeg,Int.reduceToNat,reduceCtorEq,xg,aw,encS]
  refine ax.eq (fun h1=>?_) (fun h1=>?_)
  · simp (disch:=omega) only [↓wr,↓reduceIte,wq,ah,ag,aj,ab,ae,af,ai,isNil,Nat.reduceEqDiff,Nat.reduceAdd,Nat.reduceLT,Nat.reduceLeDiff,Int.reduceNeg,Int.reduceToNat,reduceCtorEq,aw,encS]
    intro n
    rw[if_pos h1]
    rintro h' hv
    refine dN.fr (nI (l:=[-1 - g.start]) (.inr ⟨n,rfl,?_⟩))
    rw[hv]; simp[View.set]
  · have hR:g.rules[r.toNat]?=some (dC g r):=by unfold dC; exact getD_some (by omega)
    rw[if_neg h1]
    generalize dC g r=R at hR
    simp (disch:=omega) only [↓wr,↓reduceIte,wq,ah,ag,aj,ab,ae,af,ai,isNil,Nat.reduceEqDiff,Nat.reduceAdd,Nat.reduceLT,Nat.reduceLeDiff,Int.reduceNeg,Int.reduceToNat,reduceCtorEq,aw,encS,List.getElem?_map,hR,Option.map_some,ba]
    intro h' _
    exact .tree _ (gp R.right)
theorem Er (g:ao) (hf:g.dH) (x:aL) (hx:c4 g x):aD Tryz.prog 50 [.agg (aw g),.agg (bQ x)] (.bu [gi (cU g x).1,gb (cU g x).2]):=by
  have h1:=Lt g (vg hf) x.aH hx.1
  have hl:=fF hf hx.1
  have hd:=hx.2
  refine aD.tree (by
    intro v hv; simp at hv
    rcases hv with rfl | rfl
    · exact dd _ (dT g)
    · exact dd _ fun v hv=>by simp[bQ] at hv; rcases hv with rfl | rfl <;> exact .val _) (.bu _ fun i hi=>by
      match i,hi with
      | 0,_=>exact .val _
      | 1,_=>exact .val _) fun H=>?_
  refine aC.of mixed Bz ?_
  simp only[aw,encS,encI] at h1
  unfold cU
  simp (disch:=omega) only [↓wr,↓reduceIte,wq,ah,ag,aj,ab,ae,af,ai,isNil,Nat.reduceEqDiff,Nat.reduceAdd,Nat.reduceLT,Nat.reduceLeDiff,Int.reduceNeg,Int.reduceToNat,reduceCtorEq,yP,aw,encS,bQ]
  refine aG.pure h1 (by kernel_rfl) ?_
  generalize dt g x.aH=R at hd hl ⊢
  simp (disch:=omega) only [↓wr,↓reduceIte,wq,ah,ag,aj,ab,ae,af,ai,isNil,Nat.reduceEqDiff,Nat.reduceAdd,Nat.reduceLT,Nat.reduceLeDiff,Int.reduceNeg,Int.reduceToNat,reduceCtorEq,bQ]
  refine ax.dec (fun h2=>?_) (fun h2=>?_)
  · have hg:R[x.dot.toNat]?=some (R.getD x.dot.toNat 0):=getD_some (by omega)
    simp (disch:=omega) only [↓wr,↓reduceIte,wq,ah,ag,aj,ab,ae,af,ai,isNil,Nat.reduceEqDiff,Nat.reduceAdd,Nat.reduceLT,Nat.reduceLeDiff,Int.reduceNeg,Int.reduceToNat,reduceCtorEq,bQ,List.getElem?_map,hg,Option.map_some]
    rw[if_neg (by omega)]
  · simp (disch:=omega) only [↓wr,↓reduceIte,wq,ah,ag,aj,ab,ae,af,ai,isNil,Nat.reduceEqDiff,Nat.reduceAdd,Nat.reduceLT,Nat.reduceLeDiff,Int.reduceNeg,Int.reduceToNat,reduceCtorEq]
    rw[if_pos (by omega)]
theorem Ni (g:ao) (hf:g.dH) (s:Int) (hs : -1000≤s∧s≤1000):aD Tryz.prog 111 [.agg (aw g),gi s] (gi (me g s)):=by
  have hT:=hf.az
  refine aD.val (by
    intro v hv; simp at hv
    rcases hv with rfl | rfl
    · exact dd _ (dT g)
    · exact .val _) fun H=>?_
  refine aC.of mixed Bo ?_
  unfold me
  simp (disch:=omega) only [↓wr,↓reduceIte,wq,ah,ag,aj,ab,ae,af,ai,isNil,Nat.reduceEqDiff,Nat.reduceAdd,Nat.reduceLT,Nat.reduceLeDiff,Int.reduceNeg,Int.reduceToNat,reduceCtorEq,yu,aw,encS]
  refine ax.dec (fun h1=>?_) (fun h1=>?_)
  · simp (disch:=omega) only [↓wr,↓reduceIte,wq,ah,ag,aj,ab,ae,af,ai,isNil,Nat.reduceEqDiff,Nat.reduceAdd,Nat.reduceLT,Nat.reduceLeDiff,Int.reduceNeg,Int.reduceToNat,reduceCtorEq,aw]
    rw[if_pos h1]
  · simp (disch:=omega) only [↓wr,↓reduceIte,wq,ah,ag,aj,ab,ae,af,ai,isNil,Nat.reduceEqDiff,Nat.reduceAdd,Nat.reduceLT,Nat.reduceLeDiff,Int.reduceNeg,Int.reduceToNat,reduceCtorEq]
    rw[if_neg h1]
theorem bF.P8 {P:Program} {f:FuncId} {h:aE} {u:V} (hu:∀ Z μ hp x,aB Z μ hp u x→∃ a cap,x=.slice a 0 cap∧(a=none→cap=0)) (h1:bF P f [.emp 1] h (.emp 1) h) (h2:bF P f [.emp 2] h (.emp 2) h) (h3:bF P f [.dq] h (.emp 2) h):bF P f [u] h (.emp 0) h:=by
  refine ⟨Nat.le_refl _,fun Z μ F w xs hrel hr hfree=>?_⟩
  obtain ⟨hl,hv⟩:=hrel
  obtain ⟨x,rfl⟩:∃ x,xs=[x]:=by
    match xs,hl with
    | [x],_=>exact ⟨x,rfl⟩
  have h0:aB Z μ w.heap u x:=hv 0 (by simp)
  have one:∀ v,aB Z μ w.heap v x→en Z μ w.heap [v] [x]:=fun v h=>⟨rfl,fun i hi=>by
    simp at hi; subst hi; exact h⟩
  have weak:∀ k,bF P f [if k=3 then .dq else .emp k] h (if k=3 then .emp 2 else .emp k) h→aB Z μ w.heap (if k=3 then .dq else .emp k) x→Calls P f [x].toArray w fun e w'=>∃ x Z' μ',e=.returned x∧aB Z' μ' w'.heap (.emp 0) x∧gf Z' μ' w'.heap (cat h F)∧Ext Z μ w h.length Z' μ' w'∧(∀ id,id < h.length∨h.length≤id→μ' id=μ id):=by
    intro k hk hx
    refine (hk.2 Z μ F w [x] (one _ hx) hr hfree).mono ?_
    rintro e w' ⟨y,Z',μ',rfl,hy,rest⟩
    refine ⟨y,Z',μ',rfl,?_,rest⟩
    have:∀ k',aB Z' μ' w'.heap (.emp k') y→aB Z' μ' w'.heap (.emp 0) y:=fun k' h=>by
      cases h with | emp _ a _ _=>exact .emp 0 a (by simp) (by simp)
    split at hy <;> exact this _ hy
  obtain ⟨a,cap,rfl,hz⟩:=hu Z μ w.heap x h0
  cases a with
  | none =>
    have:=hz rfl
    subst this
    exact weak 1 (by simpa using h1) (.emp 1 none (by simp) (by simp))
  | some a =>
    cases cap with
    | zero=>exact weak 2 (by simpa using h2) (.emp 2 (some a) (by simp) (by simp))
    | succ c=>exact weak 3 (by simpa using h3) (.dq a (c+1))
theorem Ka {Z:Nat→Prop} {μ:Mu} {hp:Array Obj} {k:Nat} {x:Value} (h:aB Z μ hp (.emp k) x):∃ a cap,x=.slice a 0 cap∧(a=none→cap=0):=by
  cases h with | emp _ a _ _=>exact ⟨a,0,rfl,fun _=>rfl⟩
theorem Ld {Z:Nat→Prop} {μ:Mu} {hp:Array Obj} {id off esz:Nat} {x:Value} (h:aB Z μ hp (.sl id off 0 esz) x):∃ a cap,x=.slice a 0 cap∧(a=none→cap=0):=by
  rcases E6 h with ⟨_,a,e⟩ | ⟨b,o0,cap,c,e,f,e2,_⟩
  · exact ⟨a,0,e,fun _=>rfl⟩
  · exact ⟨_,cap,e2,fun h=>by simp at h⟩
theorem Gg (u:V) (hu:∀ Z μ hp x,aB Z μ hp u x→∃ a cap,x=.slice a 0 cap∧(a=none→cap=0)) (h:aE):bF Tryz.prog 58 [u] h (.emp 0) h:=by
  have hp:∀ v t,Tree v→Tree t→(∀ H,aC Tryz.prog 58 [v] H fun r _=>r=t)→aD Tryz.prog 58 [v] t:=fun v t hv ht h=>aD.tree (by intro x hx; simp at hx; subst hx; exact hv) ht h
  have h1:=hp (.emp 1) (.emp 1) (.emp 1) (.emp 1) (fun H=>by
    refine aC.of mixed cQ ?_
    simp (disch:=omega) only [↓wr,↓reduceIte,wq,ah,ag,aj,ab,ae,af,ai,isNil,Nat.reduceEqDiff,Nat.reduceAdd,Nat.reduceLT,Nat.reduceLeDiff,Int.reduceNeg,Int.reduceToNat,reduceCtorEq,cw])
  have h2:=hp (.emp 2) (.emp 2) (.emp 2) (.emp 2) (fun H=>by
    refine aC.of mixed cQ ?_
    simp (disch:=omega) only [↓wr,↓reduceIte,wq,ah,ag,aj,ab,ae,af,ai,isNil,Nat.reduceEqDiff,Nat.reduceAdd,Nat.reduceLT,Nat.reduceLeDiff,Int.reduceNeg,Int.reduceToNat,reduceCtorEq,cw,gK,List.isEmpty_nil])
  have h3:=hp .dq (.emp 2) .dq (.emp 2) (fun H=>by
    refine aC.of mixed cQ ?_
    simp (disch:=omega) only [↓wr,↓reduceIte,wq,ah,ag,aj,ab,ae,af,ai,isNil,Nat.reduceEqDiff,Nat.reduceAdd,Nat.reduceLT,Nat.reduceLeDiff,Int.reduceNeg,Int.reduceToNat,reduceCtorEq,cw,nX,gK,List.isEmpty_nil])
  exact bF.P8 hu (bF.fk h1 h) (bF.fk h2 h) (bF.fk h3 h)
set_option maxHeartbeats 2000000 in
theorem Ib (l:List aL) (hl:l.length≤100000) (u:V) (H:View) (ho:aQ H u 2 (aS l)):aC Tryz.prog 58 [u] H fun r H'=>aQ H' r 2 (aS l)∧cd H H' r:=by
  cases l with
  | nil =>
    refine ⟨by kernel_rfl,?_⟩
    rintro h rfl
    refine ⟨.emp 0,h,Gg u (fun Z μ hp x hx=>?_) h,.refl _,.nil,.emp⟩
    rcases ho with ⟨_,k,rfl⟩ | ⟨n,rfl,_⟩
    · exact Ka hx
    · exact Ld hx
  | cons x r =>
    obtain ⟨id,hu,hid⟩:=ho.sl (by rw[bB]; simp)
    subst hu
    refine aC.of mixed cQ ?_
    have he:=j0 (H:=H) id 0 r.length 2 2 (aS (x :: r)) hid (by rw[bB]; simp)
    rw[List.drop_zero,List.take_of_length_le (by rw[bB]; simp)] at he
    simp only[List.length_cons] at hl
    have hlen:(aS (x :: r)).length=r.length+1:=by rw[bB]; rfl
    rw[hlen]
    simp (disch:=omega) only [↓wr,↓reduceIte,wq,ah,ag,aj,ab,ae,af,ai,isNil,Nat.reduceEqDiff,Nat.reduceAdd,Nat.reduceLT,Nat.reduceLeDiff,Int.reduceNeg,Int.reduceToNat,reduceCtorEq,cw,he]
    refine iA (es:=[]) (.inl ⟨rfl,2,rfl⟩) (by simp[aS,bQ,List.all_map,aV]) (by unfold aO; rw[hlen]; simp; omega) (by unfold aO; rw[hlen]; simp; omega) ?_
    intro u2 H2 o2 l2
    simp (disch:=omega) only [↓wr,↓reduceIte,wq,ah,ag,aj,ab,ae,af,ai,isNil,Nat.reduceEqDiff,Nat.reduceAdd,Nat.reduceLT,Nat.reduceLeDiff,Int.reduceNeg,Int.reduceToNat,reduceCtorEq]
    refine ⟨by simpa using o2,fun j hj=>?_⟩
    exact l2 j hj (by simp[owner])
def c5 (ks:List Nat):List aL:=ks.map fun (k:Nat)=>(⟨k,0⟩:aL)
theorem wz {ks:List Nat} {n:Nat} (h:ks.Nodup) (hk:∀ k∈ks,k < n):ks.length≤n:=by
  have:=lf ks (List.range n) h fun x hx=>List.mem_range.2 (hk x hx)
  simpa using this
theorem Lk {l:List Bool} {i:Nat} (h:i < l.length):(ct l).getD i []=[gb (l.getD i false)]:=by
  simp[List.getD_eq_getElem?_getD,h]
structure Kn (g:ao) (l:List aL) (H H':View) (i:Nat) (r su:V) (ks:List Nat) (seen:List Bool):Prop where
  own:bg H' [(r,2,aS (l ++ c5 ks)),(su,1,ct seen)]
  f1:cd H H' r
  f2:cd H H' su
  nd:ks.Nodup
  kl:∀ k∈ks,k < g.rules.length
  sl:seen.length=g.ay.length
  s1:∀ (n k:Nat) (R:aT),seen.getD n false=true→g.rules[k]?=some R→R.left=n→k∈ks
  s2:∀ (k:Nat) (R:aT),k∈ks→g.rules[k]?=some R→seen.getD R.left.toNat false=true
  cl:∀ x∈l ++ c5 ks,lY g l x
  dn:∀ (j:Nat) (x:aL) (s:Int),j < i→(l ++ c5 ks)[j]?=some x→cU g x=(s,true)→s < 0→seen.getD (-1 - s).toNat false=true
  il:i≤(l ++ c5 ks).length
theorem Kn.len {g:ao} {l:List aL} {H H':View} {i:Nat} {r su:V} {ks:List Nat} {seen:List Bool} (h:Kn g l H H' i r su ks seen):ks.length≤g.rules.length∧(l ++ c5 ks).length=l.length+ks.length:=by
  refine ⟨wz h.nd h.kl,by simp[c5]⟩
def Q3 (g:ao) (l:List aL) (H:View) (m:Nat) (T:Env) (H':View):Prop:=∃ (i:Nat) (r su:V) (ks:List Nat) (seen:List Bool),m=l.length+g.rules.length - i∧Kn g l H H' i r su ks seen∧T 2=.aR (aw g) 0∧T 5=r∧T 6=su∧T 7=gi i
set_option maxHeartbeats 16000000 in
theorem Gu (g:ao) (hf:g.dH) (l:List aL) (hl:∀ x∈l,c4 g x) (hn:l.length≤10000) (u:V) (H:View) (ho:aQ H u 2 (aS l)):aC Tryz.prog 56 [.agg (aw g),u] H fun r H'=>aQ H' r 2 (aS (cM g l))∧cd H H' r:=by
  refine aC.of mixed x9 ?_
  have hru:=hf.rules
  have hno:=hf.ay
  simp (disch:=omega) only [↓wr,↓reduceIte,wq,ah,ag,aj,ab,ae,af,ai,isNil,Nat.reduceEqDiff,Nat.reduceAdd,Nat.reduceLT,Nat.reduceLeDiff,Int.reduceNeg,Int.reduceToNat,reduceCtorEq,sO,aw,encS]
  refine aG.jR ((Ib l (by omega) u H ho).mono ?_)
  rintro r H1 ⟨o1,f1⟩
  simp (disch:=omega) only [↓wr,↓reduceIte,wq,ah,ag,aj,ab,ae,af,ai,isNil,Nat.reduceEqDiff,Nat.reduceAdd,Nat.reduceLT,Nat.reduceLeDiff,Int.reduceNeg,Int.reduceToNat,reduceCtorEq,aw,encS]
  refine ⟨⟨Nat.le_refl _,by unfold aO; omega,by unfold aO; omega⟩,fun h0=>?_,fun h0 q hq=>?_⟩
  · exact absurd (by have:=hf.rQ; omega) (show ¬ g.ay.length=0 by have:=hf.rQ; omega)
  have hst:Kn g l H (H1.set q (.arr 1 (List.replicate g.ay.length [gb false]))) 0 r (.sl q 0 g.ay.length 1) [] (List.replicate g.ay.length false):=by
    have e:List.replicate g.ay.length [gb false]=ct (List.replicate g.ay.length false):=by simp
    have hr1:bg H1 [(r,2,aS l)]:=⟨fun x hx=>by simp at hx; subst hx; exact o1,by
      cases hr:owner r <;> simp[List.filterMap_cons,hr]⟩
    have hqd:H q=.dead∨H q≠.dead:=by cases H q <;> simp
    have hqH:H q=.dead:=by
      rcases hqd with h | h
      · exact h
      · have:=(f1 q h).1; rw[hq] at this; exact absurd this.symm h
    refine ⟨?_,fun id hid=>?_,fun id hid=>?_,.nil,by simp,by simp,fun n k R h=>?_,by simp,fun x hx=>.base (by simpa [c5] using hx),fun j x s h=>by omega,Nat.zero_le _⟩
    · have h2:=(hr1.new hq 1 (List.replicate g.ay.length [gb false])).perm (.swap _ _ _)
      rw[List.length_replicate] at h2
      rw[e] at h2 ⊢
      simpa [c5] using h2
    · have hne:id≠q:=by rintro rfl; exact hid hqH
      exact ⟨by simp only[View.set]; rw[if_neg hne]; exact (f1 id hid).1,(f1 id hid).2⟩
    · have hne:id≠q:=by rintro rfl; exact hid hqH
      exact ⟨by simp only[View.set]; rw[if_neg hne]; exact (f1 id hid).1,by simp[owner,Ne.symm hne]⟩
    · simp only[List.getD_eq_getElem?_getD,List.getElem?_replicate] at h
      split at h <;> simp at h
  generalize H1.set q (.arr 1 (List.replicate g.ay.length [gb false]))=H2 at hst ⊢
  refine bz.intro (Q3 g l H) (l.length+g.rules.length) ⟨0,r,_,[],_,by omega,hst,rfl,rfl,rfl,rfl⟩ ?_
  clear hst o1 f1 hq
  rintro m T H' ⟨i,r,su,ks,seen,rfl,hI,t2,t5,t6,t7⟩
  obtain ⟨hk1,hk2⟩:=hI.len
  have hlr:cq r=some (l ++ c5 ks).length:=by rw[hI.own.head.len,bB]
  simp (disch:=omega) only [↓wr,↓reduceIte,wq,ah,ag,aj,ab,ae,af,ai,isNil,Nat.reduceEqDiff,Nat.reduceAdd,Nat.reduceLT,Nat.reduceLeDiff,Int.reduceNeg,Int.reduceToNat,reduceCtorEq,qZ,t2,t5,t6,t7,hlr]
  refine ax.dec (fun hc=>?_) (fun hc=>?_)
  rotate_left
  ·
    have hi:i=(l ++ c5 ks).length:=by have:=hI.il; omega
    simp (disch:=omega) only [↓wr,↓reduceIte,wq,ah,ag,aj,ab,ae,af,ai,isNil,Nat.reduceEqDiff,Nat.reduceAdd,Nat.reduceLT,Nat.reduceLeDiff,Int.reduceNeg,Int.reduceToNat,reduceCtorEq,t5]
    refine aG.jR ((HK (l ++ c5 ks) (by omega) r H' hI.own.head).mono ?_)
    rintro r2 H3 ⟨k3,o3,e3⟩
    simp (disch:=omega) only [↓wr,↓reduceIte,wq,ah,ag,aj,ab,ae,af,ai,isNil,Nat.reduceEqDiff,Nat.reduceAdd,Nat.reduceLT,Nat.reduceLeDiff,Int.reduceNeg,Int.reduceToNat,reduceCtorEq]
    have hcl:cM g l=xR (l ++ c5 ks):=F1 hf hl (z6 _) (fun x hx=>hI.cl x (ow.1 hx)) (fun x hx=>ow.2 (by simp[hx])) (fun x hx s k R h1 h2 h3 h4=>by
      obtain ⟨j,hj,e⟩:=List.mem_iff_getElem.1 (ow.1 hx)
      have h5:=hI.dn j x s (by omega) (by rw[List.getElem?_eq_getElem hj,e]) h1 h2
      have h6:=hI.s1 _ k R h5 h3 (by omega)
      exact ow.2 (List.mem_append_right _ (List.mem_map.2 ⟨k,h6,rfl⟩)))
    rw[hcl]
    refine ⟨o3,fun id hid=>?_⟩
    obtain ⟨q1,q2⟩:=hI.f1 id hid
    exact ⟨by rw[k3 id q2,q1],by rw[e3]; exact q2⟩
  have hx:(l ++ c5 ks)[i]?=some ((l ++ c5 ks)[i]'(by omega)):=List.getElem?_eq_getElem (by omega)
  have hxm:=List.getElem_mem (show i < (l ++ c5 ks).length by omega)
  have hdn:=hI.dn
  generalize (l ++ c5 ks)[i]'(by omega)=x at hx hxm
  have hxC:=hI.cl x hxm
  have hxH:=hxC.has hl
  have h1:=Er g hf x hxH
  cases hny:cU g x with
  | mk s okb =>
  have hsb:=uF hf hxH hny
  rw[hny] at h1
  obtain ⟨id,hu,hid⟩:=hI.own.head.sl (by rw[bB]; omega)
  simp only at hu hid
  rw[bB] at hu
  simp only[aw,encS,bQ] at h1
  simp (disch:=omega) only [↓wr,↓reduceIte,wq,ah,ag,aj,ab,ae,af,ai,isNil,Nat.reduceEqDiff,Nat.reduceAdd,Nat.reduceLT,Nat.reduceLeDiff,Int.reduceNeg,Int.reduceToNat,reduceCtorEq,t2,t5,t6,t7,hu,hid,oS hx,aw,encS]
  refine ⟨by omega,by rw[bB]; omega,?_⟩
  refine aG.pure h1 (by kernel_rfl) ?_
  have skip:(okb=true→s < 0→seen.getD (-1 - s).toNat false=true)→Kn g l H H' (i+1) r su ks seen:=fun h =>
    ⟨hI.own,hI.f1,hI.f2,hI.nd,hI.kl,hI.sl,hI.s1,hI.s2,hI.cl,fun j y t hj hy hn h0=>by
      rcases Nat.lt_or_ge j i with q | q
      · exact hI.dn j y t q hy hn h0
      · have:j=i:=by omega
        subst this
        rw[hx] at hy
        simp only[Option.some.injEq] at hy
        subst hy
        rw[hny] at hn
        simp only[Prod.mk.injEq] at hn
        obtain ⟨rfl,rfl⟩:=hn
        exact h rfl h0,by omega⟩
  cases okb with
  | false =>
    simp (disch:=omega) only [↓wr,↓reduceIte,wq,ah,ag,aj,ab,ae,af,ai,isNil,Nat.reduceEqDiff,Nat.reduceAdd,Nat.reduceLT,Nat.reduceLeDiff,Int.reduceNeg,Int.reduceToNat,reduceCtorEq,t2,t5,t6,t7]
    exact ⟨l.length+g.rules.length - (i+1),by omega,i+1,r,su,ks,seen,rfl,skip (by simp),t2,by rw[← hu]; exact t5,t6,rfl⟩
  | true =>
  simp (disch:=omega) only [↓wr,↓reduceIte,wq,ah,ag,aj,ab,ae,af,ai,isNil,Nat.reduceEqDiff,Nat.reduceAdd,Nat.reduceLT,Nat.reduceLeDiff,Int.reduceNeg,Int.reduceToNat,reduceCtorEq]
  refine ax.dec (fun h0=>?_) (fun h0=>?_)
  · simp (disch:=omega) only [↓wr,↓reduceIte,wq,ah,ag,aj,ab,ae,af,ai,isNil,Nat.reduceEqDiff,Nat.reduceAdd,Nat.reduceLT,Nat.reduceLeDiff,Int.reduceNeg,Int.reduceToNat,reduceCtorEq,t2,t5,t6,t7]
    exact ⟨l.length+g.rules.length - (i+1),by omega,i+1,r,su,ks,seen,rfl,skip (fun _ h=>by omega),t2,by rw[← hu]; exact t5,t6,rfl⟩
  have hG:=E4 hf hxH hny
  have hnl:(-1 - s).toNat < g.ay.length:=by
    unfold hU at hG
    rw[if_neg (by omega)] at hG
    simp at hG; omega
  obtain ⟨id2,hu2,hid2⟩:=hI.own.tail.head.sl (by simp[hI.sl]; omega)
  simp only at hu2 hid2
  rw[List.length_map,hI.sl] at hu2
  have hsn:(-1 - s).toNat < seen.length:=by rw[hI.sl]; exact hnl
  simp (disch:=omega) only [↓wr,↓reduceIte,wq,ah,ag,aj,ab,ae,af,ai,isNil,Nat.reduceEqDiff,Nat.reduceAdd,Nat.reduceLT,Nat.reduceLeDiff,Int.reduceNeg,Int.reduceToNat,reduceCtorEq,t6,hu2,hid2,Lk hsn]
  refine ⟨by omega,by simp[hI.sl]; omega,?_⟩
  refine ax.split (fun h2=>?_) (fun h2=>?_)
  · simp (disch:=omega) only [↓wr,↓reduceIte,wq,ah,ag,aj,ab,ae,af,ai,isNil,Nat.reduceEqDiff,Nat.reduceAdd,Nat.reduceLT,Nat.reduceLeDiff,Int.reduceNeg,Int.reduceToNat,reduceCtorEq,t2,t5,t6,t7]
    exact ⟨l.length+g.rules.length - (i+1),by omega,i+1,r,su,ks,seen,rfl,skip (fun _ _=>h2),t2,by rw[← hu]; exact t5,by rw[← hu2]; exact t6,rfl⟩
  obtain ⟨n,hn⟩:∃ n:Nat,-1 - s=(n:Int):=⟨(-1 - s).toNat,by omega⟩
  have hnn:(-1 - s).toNat=n:=by omega
  rw[hnn] at hnl hsn h2
  have hse:(ct seen).set n [gb true]=ct (seen.set n true):=by simp[List.map_set]
  simp (disch:=omega) only [↓wr,↓reduceIte,wq,ah,ag,aj,ab,ae,af,ai,isNil,Nat.reduceEqDiff,Nat.reduceAdd,Nat.reduceLT,Nat.reduceLeDiff,Int.reduceNeg,Int.reduceToNat,reduceCtorEq,t2,t5,t6,t7,hu2,hid2,aw,encS,hn,Lk hsn,hse]
  refine ⟨by omega,by simp[hI.sl]; omega,?_⟩
  have hsg:∀ m,(seen.set n true).getD m false=if n=m then true else seen.getD m false:=fun m=>by
    rw[rz]
    by_cases e:n=m
    · rw[if_pos ⟨e,hsn⟩,if_pos e]
    · rw[if_neg (fun h=>e h.1),if_neg e]
  have o2:bg (H'.set id2 (.arr 1 (ct (seen.set n true)))) [(r,2,aS (l ++ c5 ks)),(su,1,ct (seen.set n true))]:=by
    have h3:=hI.own.perm (.swap _ _ _)
    rw[hu2] at h3 ⊢
    exact (h3.put (es':=ct (seen.set n true)) (by simp) (by simp[hI.sl])).perm (.swap _ _ _)
  have hdead:∀ id,H id≠.dead→id≠id2:=fun id hid e=>by
    have:=(hI.f2 id hid).2
    rw[hu2,e] at this
    exact this rfl
  have f1':cd H (H'.set id2 (.arr 1 (ct (seen.set n true)))) r:=fun id hid=>⟨by simp only[View.set]; rw[if_neg (hdead id hid)]; exact (hI.f1 id hid).1,(hI.f1 id hid).2⟩
  have f2':cd H (H'.set id2 (.arr 1 (ct (seen.set n true)))) su:=fun id hid=>⟨by simp only[View.set]; rw[if_neg (hdead id hid)]; exact (hI.f2 id hid).1,(hI.f2 id hid).2⟩
  generalize H'.set id2 (.arr 1 (ct (seen.set n true)))=H4 at o2 f1' f2' ⊢
  refine bz.up g.rules.length (fun k T H5=>∃ (r2:V) (ks2:List Nat),ks2=ks ++ (List.range k).filter (fun (q:Nat)=>decide ((dC g q).left=n))∧bg H5 [(r2,2,aS (l ++ c5 ks2)),(su,1,ct (seen.set n true))]∧cd H H5 r2∧cd H H5 su ∧
    T 2=.aR (aw g) 0∧T 5=r2∧T 6=su∧T 7=gi i∧T 8=gi s∧T 51=.aZ (g.rules.map ba)∧T 52=gi g.rules.length∧T 53=gi k) ⟨r,ks,by simp,o2,f1',f2',t2,by rw[← hu]; exact t5,by rw[← hu2]; exact t6,t7,rfl,rfl,rfl,rfl⟩ ?_
  clear t2 t5 t6 t7 o2 f1' f2'
  rintro k j T5 H5 hk ⟨r2,ks2,hks,o5,f5,g5,t2,t5,t6,t7,t8,t51,t52,t53⟩
  have hdis:∀ q,q∈ks→¬ (dC g q).left=n:=fun q hq e=>by
    have hR:g.rules[q]?=some (dC g q):=by unfold dC; exact getD_some (hI.kl q hq)
    have:=hI.s2 q _ hq hR
    rw[e] at this
    simp only[Int.toNat_natCast] at this
    rw[h2] at this; simp at this
  have hnd2:ks2.Nodup:=by
    rw[hks,List.nodup_append]
    refine ⟨hI.nd,(List.nodup_range).filter _,fun a ha b hb e=>?_⟩
    subst e
    exact hdis a ha (by simpa using (List.mem_filter.1 hb).2)
  simp (disch:=omega) only [↓wr,↓reduceIte,wq,ah,ag,aj,ab,ae,af,ai,isNil,Nat.reduceEqDiff,Nat.reduceAdd,Nat.reduceLT,Nat.reduceLeDiff,Int.reduceNeg,Int.reduceToNat,reduceCtorEq,q6,t2,t5,t6,t7,t8,t51,t52,t53]
  refine ax.dec (fun hc5=>?_) (fun hc5=>?_)
  · have hR:g.rules[k]?=some (dC g k):=by unfold dC; exact getD_some (by omega)
    have hkl2:∀ q∈ks2,q < g.rules.length:=fun q hq=>by
      rw[hks] at hq
      rcases List.mem_append.1 hq with h | h
      · exact hI.kl q h
      · have:=List.mem_range.1 (List.mem_filter.1 h).1; omega
    have hl2:=wz hnd2 hkl2
    have hstep:ks ++ (List.range (k+1)).filter (fun (q:Nat)=>decide ((dC g q).left=n))=if (dC g k).left=n then ks2 ++ [k] else ks2:=by
      rw[List.range_succ,List.filter_append,← List.append_assoc,← hks]
      by_cases e:(dC g k).left=n <;> simp[e]
    generalize dC g k=R at hR hstep
    simp (disch:=omega) only [↓wr,↓reduceIte,wq,ah,ag,aj,ab,ae,af,ai,isNil,Nat.reduceEqDiff,Nat.reduceAdd,Nat.reduceLT,Nat.reduceLeDiff,Int.reduceNeg,Int.reduceToNat,reduceCtorEq,t2,t5,t6,t7,t8,t51,t52,t53,List.getElem?_map,hR,Option.map_some,ba]
    intro q hq
    rw[set_set]
    have hqq:(H5.set q (.arr 3 [[gi R.left,encI R.right,gi R.prec]])) q=.arr 3 [[gi R.left,encI R.right,gi R.prec]]:=by simp[View.set]
    have hqH:∀ id,H id≠.dead→id≠q:=fun id hid e=>by
      have:=(f5 id hid).1
      rw[e,hq] at this
      exact hid (by rw[e]; exact this.symm)
    have o6:=o5.fresh (o:=.arr 3 [[gi R.left,encI R.right,gi R.prec]]) hq
    have f6:cd H (H5.set q (.arr 3 [[gi R.left,encI R.right,gi R.prec]])) r2:=fun id hid=>⟨by simp only[View.set]; rw[if_neg (hqH id hid)]; exact (f5 id hid).1,(f5 id hid).2⟩
    have g6:cd H (H5.set q (.arr 3 [[gi R.left,encI R.right,gi R.prec]])) su:=fun id hid=>⟨by simp only[View.set]; rw[if_neg (hqH id hid)]; exact (g5 id hid).1,(g5 id hid).2⟩
    generalize H5.set q (.arr 3 [[gi R.left,encI R.right,gi R.prec]])=H6 at hqq o6 f6 g6
    clear o5 f5 g5 hq hqH
    simp (disch:=omega) only [↓wr,↓reduceIte,wq,ah,ag,aj,ab,ae,af,ai,isNil,Nat.reduceEqDiff,Nat.reduceAdd,Nat.reduceLT,Nat.reduceLeDiff,Int.reduceNeg,Int.reduceToNat,reduceCtorEq,t2,t5,t6,t7,t8,hqq,hn]
    refine ⟨rfl,?_⟩
    refine ax.eq (fun he=>?_) (fun he=>?_)
    · simp (disch:=omega) only [↓wr,↓reduceIte,wq,ah,ag,aj,ab,ae,af,ai,isNil,Nat.reduceEqDiff,Nat.reduceAdd,Nat.reduceLT,Nat.reduceLeDiff,Int.reduceNeg,Int.reduceToNat,reduceCtorEq,t2,t5,t6,t7,t8]
      intro q2 hq2
      simp (disch:=omega) only [↓wr,↓reduceIte,wq,ah,ag,aj,ab,ae,af,ai,isNil,Nat.reduceEqDiff,Nat.reduceAdd,Nat.reduceLT,Nat.reduceLeDiff,Int.reduceNeg,Int.reduceToNat,reduceCtorEq,cy]
      have hqH2:∀ id,H id≠.dead→id≠q2:=fun id hid e=>by
        have:=(f6 id hid).1
        rw[e,hq2] at this
        exact hid (by rw[e]; exact this.symm)
      refine dK (o6.fresh hq2) (by simp[aV]) (by unfold aO; rw[bB]; simp[c5]; omega) (by unfold aO; rw[bB]; simp[c5]; omega) ?_
      intro r3 H7 o7 l7
      simp (disch:=omega) only [↓wr,↓reduceIte,wq,ah,ag,aj,ab,ae,af,ai,isNil,Nat.reduceEqDiff,Nat.reduceAdd,Nat.reduceLT,Nat.reduceLeDiff,Int.reduceNeg,Int.reduceToNat,reduceCtorEq,t2,t6,t7,t8,t51,t52,t53]
      rw[if_pos he] at hstep
      have f7:∀ v,cd H H6 v→(∀ id,owner v=some id→owner r2≠some id∧owner r3≠some id)→cd H H7 v:=fun v hv hvo id hid=>by
        obtain ⟨e1,e2⟩:=hv id hid
        obtain ⟨k1,k2⟩:=l7 id (by simp only[View.set]; rw[if_neg (hqH2 id hid),e1]; exact hid) (f6 id hid).2
        refine ⟨?_,e2⟩
        rw[k1]
        simp only[View.set]
        rw[if_neg (hqH2 id hid),e1]
      have f8:cd H H7 r3:=fun id hid=>by
        obtain ⟨e1,e2⟩:=f6 id hid
        obtain ⟨k1,k2⟩:=l7 id (by simp only[View.set]; rw[if_neg (hqH2 id hid),e1]; exact hid) e2
        refine ⟨?_,k2⟩
        rw[k1]
        simp only[View.set]
        rw[if_neg (hqH2 id hid),e1]
      refine bq hk (by omega) ⟨r3,ks2 ++ [k],hstep.symm,?_,f8,fun id hid=>⟨(f8 id hid).1,(g6 id hid).2⟩,t2,rfl,t6,t7,t8,t51,t52,rfl⟩
      have e1:aS (l ++ c5 (ks2 ++ [k]))=aS (l ++ c5 ks2) ++ [[gi k,gi 0]]:=by simp[aS,c5,bQ]
      rw[e1]
      exact o7
    · simp (disch:=omega) only [↓wr,↓reduceIte,wq,ah,ag,aj,ab,ae,af,ai,isNil,Nat.reduceEqDiff,Nat.reduceAdd,Nat.reduceLT,Nat.reduceLeDiff,Int.reduceNeg,Int.reduceToNat,reduceCtorEq,t2,t5,t6,t7,t8,t51,t52,t53]
      rw[if_neg he] at hstep
      exact bq hk (by omega) ⟨r2,ks2,hstep.symm,o6,f6,g6,t2,t5,t6,t7,t8,t51,t52,rfl⟩
  · have hke:k=g.rules.length:=by omega
    subst hke
    simp (disch:=omega) only [↓wr,↓reduceIte,wq,ah,ag,aj,ab,ae,af,ai,isNil,Nat.reduceEqDiff,Nat.reduceAdd,Nat.reduceLT,Nat.reduceLeDiff,Int.reduceNeg,Int.reduceToNat,reduceCtorEq,t2,t5,t6,t7]
    have hmem:∀ q,q∈ks2↔q∈ks∨(q < g.rules.length∧(dC g q).left=n):=fun q=>by
      rw[hks,List.mem_append,List.mem_filter,List.mem_range,decide_eq_true_eq]
    have hRD:∀ (q:Nat) (R:aT),g.rules[q]?=some R→dC g q=R:=fun q R h=>by
      unfold dC
      rw[Int.toNat_natCast,List.getD_eq_getElem?_getD,h]; rfl
    have hpre:∀ (j:Nat),j≤i→(l ++ c5 ks2)[j]?=(l ++ c5 ks)[j]?:=fun j hj=>by
      rw[hks,c5,List.map_append,← List.append_assoc]
      exact List.getElem?_append_left (by simp only[c5] at hc; omega)
    refine ⟨l.length+g.rules.length - (i+1),by omega,i+1,r2,su,ks2,seen.set n true,rfl,⟨o5,f5,g5,hnd2,fun q hq=>?_,by rw[List.length_set]; exact hI.sl,fun m q R h3 h4 h5=>?_,fun q R h3 h4=>?_,fun y hy=>?_,fun j y t hj hy hn2 h0=>?_,?_⟩,t2,t5,t6,rfl⟩
    · rcases (hmem q).1 hq with h | h
      · exact hI.kl q h
      · exact h.1
    · rw[hsg] at h3
      split at h3
      · rename_i e
        subst e
        exact (hmem q).2 (.inr ⟨(List.getElem?_eq_some_iff.1 h4).1,by rw[hRD q R h4]; exact h5⟩)
      · exact (hmem q).2 (.inl (hI.s1 m q R h3 h4 h5))
    · rw[hsg]
      rcases (hmem q).1 h3 with h | h
      · split
        · rfl
        · exact hI.s2 q R h h4
      · rw[hRD q R h4] at h
        rw[h.2,Int.toNat_natCast,if_pos rfl]
    · rcases List.mem_append.1 hy with h | h
      · exact hI.cl y (List.mem_append_left _ h)
      · obtain ⟨q,hq,rfl⟩:=List.mem_map.1 h
        rcases (hmem q).1 hq with h | h
        · exact hI.cl _ (List.mem_append_right _ (List.mem_map.2 ⟨q,h,rfl⟩))
        · have hR:g.rules[q]?=some (dC g q):=by unfold dC; exact getD_some h.1
          exact .step hxC hny (by omega) hR (by rw[h.2,hn])
    · rw[hpre j (by omega)] at hy
      rw[hsg]
      rcases Nat.lt_or_ge j i with q | q
      · split
        · rfl
        · exact hI.dn j y t q hy hn2 h0
      · have:j=i:=by omega
        subst this
        rw[hx] at hy
        simp only[Option.some.injEq] at hy
        subst hy
        rw[hny] at hn2
        simp only[Prod.mk.injEq,and_true] at hn2
        subst hn2
        rw[hnn,if_pos rfl]
    · rw[hks,c5,List.map_append,← List.append_assoc,List.length_append]
      simp only[c5] at hc
      omega
def fY (l:List UInt8):Value:=.string ⟨l.toArray⟩
theorem FY {a b:List UInt8} : ((⟨a.toArray⟩:ByteArray) == ⟨b.toArray⟩)=(a == b):=by
  show (a.toArray == b.toArray)=_
  simp
theorem Eb {P:Program} {kt:TypeId} (h:P.underlying kt=some .string):zk P kt fY where
  ty:=⟨_,h,fun a b=>by simp only[Instr.sameNow,fY,FY],fun a e=>A0 h trivial e 9999 _⟩
  bits:=fun a b hab=>by
    have:a=b:=by simpa using hab
    subst this
    show ((⟨a.toArray⟩:ByteArray) == ⟨a.toArray⟩)=true
    rw[FY]; simp
def nA (l:List aL):List Int:=l.flatMap fun x=>[x.aH+1,x.dot]
theorem MS (l:List aL):(nA l).length=2 * l.length:=by
  induction l with
  | nil=>rfl
  | cons x l ih=>simp only[nA,List.flatMap_cons,List.length_append,List.length_cons,List.length_nil] at ih ⊢; omega
theorem AN:∀ l:List aL,jE ((nA l).map fun n=>[gy n])=some (eY l)
  | []=>rfl
  | x :: l=>by
    have ih:=AN l
    simp only[nA,eY,List.flatMap_cons,List.cons_append,List.nil_append,List.map_cons,jE] at ih ⊢
    rw[ih]; rfl
theorem ND {x:Int} (h1:0≤x) (h2:x < 256):IntKind.wrap .u8 x=x:=by
  unfold IntKind.wrap
  have e1:(2:Int) ^ IntKind.u8.bits=256:=by rfl
  have e2:IntKind.u8.signed=false:=by rfl
  simp only[e1,e2,Bool.false_and,Bool.false_eq_true,if_false]
  omega
theorem OT {P:Program} {T:Env} {H:View} {K:V→View→Prop} {w:cD (T,H,K)} {t e d ty:TypeId} {x:Operand} {u:V} {xs:List (List V)} {rd:List Nat} {l:List UInt8} {k:Nat} (hu:P.underlying t=some (.slice e)) (he:P.underlying e=some (.int .u8)) (hd:P.underlying d=some .string)
    (hx:ev T x=u) (hl:bI H u=some (xs,rd)) (hn:cq u=some k) (ht:jE xs=some l) (hk:K (.val (fY l)) H):nT P (.convert t d x) ty T H K w:=by
  intro n _
  have hb:jA P t d=true:=by simp[jA,hu]
  refine ⟨.val (fY l),.none,rd,?_,hk⟩
  simp only[sI,bY,oper]
  rw[if_pos hb,hx]
  simp[kZ,hu,he,hd,hl,hn,ht,fY]
def tD:SC :=
  .seq (ak [aN 15 .lss 14 13]) <|
  .seq (.cond (.tmp 15) (.skip) (.exit 0)) <|
  .seq (.block 1 (.seq (ak [aP 16 2 12 14,aK 17 2 16,((some 7),.op (.alloc [(.val (.int .i64 0)),(.val (.int .i64 0))])),(none,.op (.store 2 (.tmp 7) (.tmp 17)))]) <|
  .seq (ak [aK 19 4 2,aK 20 2 7,aI 21 50 [19,20],aa 18 21,cG 22 0 18,cG 23 1 18,aa 8 22,aa 9 23]) <|
  .seq (ak [aa 24 9]) <|
  .cond (.tmp 24) (.seq (ak [aK 25 4 2,aa 26 8,aI 27 111 [25,26],aa 10 27]) <|
  ak [aa 28 5,aa 29 10,aa 30 5,aa 31 10,((some 32),.op (.old (.lookup 98 (.tmp 30) (.tmp 31) false) 27)),av 33 0 7,au 34 33,av 35 1 7,au 36 35,aA 37 .add 36 1,((some 38),.op (.build [(.val (.int .i64 0)),(.val (.int .i64 0))] [(0,1,(.tmp 34)),(1,1,(.tmp 37))])),((some 39),.op (.bC 1 2 [(.val (.int .i64 0)),(.val (.int .i64 0))] [(0,(.tmp 38))])),((some 40),.op (.app 2 16 (.tmp 32) (.tmp 39))),(none,.op (.old (.mapUpdate 98 (.tmp 28) (.tmp 29) (.tmp 40)) 0))]) (.skip))) <|
  ak [aA 41 .add 14 1,aa 14 41]
def xi:SF:=⟨.seq (ak [bZ 2 0,((some 4),.op (.bm (.val (.val (.map none)))))]) <|
  .seq (ak [((some 11),.op (.lO)),aa 5 11]) <|
  .seq (.seq (ak [aa 12 1,aJ 13 12,aF 14 0]) <|
  .block 0 (.loop tD)) <|
  .seq (ak [aa 42 5,aa 4 42]) <|
  .ret,
  [.tmp 4],43⟩
theorem As:bf Tryz.prog 63 [2]=some xi:=by kernel_rfl
def w7:SC :=
  .seq (ak [aN 9 .lss 8 7]) <|
  .seq (.cond (.tmp 9) (.skip) (.exit 0)) <|
  .seq (.block 1 (.seq (ak [aP 10 2 6 8,aK 11 2 10,((some 5),.op (.alloc [(.val (.int .i64 0)),(.val (.int .i64 0))])),(none,.op (.store 2 (.tmp 5) (.tmp 11)))]) <|
  ak [aa 12 3,av 13 0 5,au 14 13,aA 15 .add 14 1,((some 16),.op (.conv .u8 (.tmp 15))),av 17 1 5,au 18 17,((some 19),.op (.conv .u8 (.tmp 18))),((some 20),.op (.bC 2 1 [(.val (.int .u8 0))] [(0,(.tmp 16)),(1,(.tmp 19))])),((some 21),.op (.app 1 1 (.tmp 12) (.tmp 20))),aa 3 21])) <|
  ak [aA 22 .add 8 1,aa 8 22]
def Af:SF:=⟨.seq (.region false [⟨none,[((some 2),.op (.bm (.val (.val (.string ⟨#[]⟩)))))]⟩]) <|
  .seq (ak [((some 3),.op (.bm (.val (.emp 1))))]) <|
  .seq (.seq (ak [aa 6 0,aJ 7 6,aF 8 0]) <|
  .block 0 (.loop w7)) <|
  .seq (ak [aa 23 3,((some 24),.op (.old (.convert 91 9 (.tmp 23)) 9)),aa 2 24]) <|
  .ret,
  [.tmp 2],25⟩
theorem Dv:bf Tryz.prog 62 []=some Af:=by kernel_rfl
set_option maxHeartbeats 4000000 in
theorem Em (g:ao) (hf:g.dH) (l:List aL) (hl:∀ x∈l,c4 g x) (hn:l.length≤10000) (u:V) (H:View) (ho:aQ H u 2 (aS l)):aC Tryz.prog 62 [u] H fun r H'=>r=.val (fY (eY l))∧∀ id,H id≠.dead→H' id=H id:=by
  refine aC.of mixed Dv ?_
  have hlen:cq u=some l.length:=by rw[ho.len,bB]
  have hru:=hf.rules
  simp (disch:=omega) only [↓wr,↓reduceIte,wq,ah,ag,aj,ab,ae,af,ai,isNil,Nat.reduceEqDiff,Nat.reduceAdd,Nat.reduceLT,Nat.reduceLeDiff,Int.reduceNeg,Int.reduceToNat,reduceCtorEq,Af,hlen]
  refine bz.up l.length (fun i T H'=>∃ b:V,aQ H' b 1 ((nA (l.take i)).map fun n=>[gy n])∧cd H H' b∧T 3=b∧T 6=u∧T 7=gi l.length∧T 8=gi i) ⟨.emp 1,.nil,.emp,rfl,rfl,rfl,rfl⟩ ?_
  rintro i k T H' hk ⟨b,hb,fb,t3,t6,t7,t8⟩
  simp (disch:=omega) only [↓wr,↓reduceIte,wq,ah,ag,aj,ab,ae,af,ai,isNil,Nat.reduceEqDiff,Nat.reduceAdd,Nat.reduceLT,Nat.reduceLeDiff,Int.reduceNeg,Int.reduceToNat,reduceCtorEq,w7,t3,t6,t7,t8]
  refine ax.dec (fun hc=>?_) (fun hc=>?_)
  · have hx:l[i]?=some (l[i]'(by omega)):=List.getElem?_eq_getElem (by omega)
    have hxm:=hl _ (List.getElem_mem (show i < l.length by omega))
    have htk:l.take (i+1)=l.take i ++ [l[i]'(by omega)]:=by rw[List.take_add_one,hx]; rfl
    generalize l[i]'(by omega)=x at hx hxm htk
    have hr6:=fF hf hxm.1
    have hx1:=hxm.1
    have hx2:=hxm.2
    obtain ⟨id,hu,hid⟩:=ho.sl (by rw[bB]; omega)
    have hid':H' id=.arr 2 (aS l):=by rw[(fb id (by rw[hid]; simp)).1,hid]
    rw[bB] at hu
    subst hu
    have hkl:=MS (l.take i)
    rw[List.length_take] at hkl
    simp (disch:=omega) only [↓wr,↓reduceIte,wq,ah,ag,aj,ab,ae,af,ai,isNil,Nat.reduceEqDiff,Nat.reduceAdd,Nat.reduceLT,Nat.reduceLeDiff,Int.reduceNeg,Int.reduceToNat,reduceCtorEq,t3,t6,t7,t8,hid',oS hx,ND (x:=x.aH+1) (by omega) (by omega),ND (x:=x.dot) (by omega) (by omega)]
    refine ⟨by omega,by rw[bB]; omega,?_⟩
    intro q hq q2 hq2
    obtain ⟨hne,hq3⟩:=cR hq2 (by simp)
    rw[if_neg hne] at hq3
    have hqH:∀ j,H j≠.dead→j≠q∧j≠q2:=fun j hj=>by
      have h1:=(fb j hj).1
      exact ⟨fun e=>hj (by rw[e] at h1 ⊢; rw[← h1,hq]),fun e=>hj (by rw[e] at h1 ⊢; rw[← h1,hq3])⟩
    have hb3:∀ a0 a1 a2,aQ (((H'.set q a0).set q a1).set q2 a2) b 1 ((nA (l.take i)).map fun n=>[gy n]):=fun a0 a1 a2=>hb.keep fun id hid=>by
      have h1:=(hb.live hid).1
      have e1:id≠q:=by rintro rfl; rw[hq] at h1; simp at h1
      have e2:id≠q2:=by rintro rfl; rw[hq3] at h1; simp at h1
      simp[View.set,e1,e2]
    have hset:∀ a0 a1 a2 j,H j≠.dead→(((H'.set q a0).set q a1).set q2 a2) j=H j:=fun a0 a1 a2 j hj=>by
      obtain ⟨e1,e2⟩:=hqH j hj
      simp[View.set,e1,e2,(fb j hj).1]
    have hel:∀ (a0 a1:bM) (e1 e2:List V),bI (((H'.set q a0).set q a1).set q2 (.arr 1 [e1,e2])) (.sl q2 0 2 1)=some ([e1,e2],[q2]):=fun a0 a1 e1 e2=>by simp[bI,View.set]
    simp (disch:=omega) only [↓wr,↓reduceIte,wq,ah,ag,aj,ab,ae,af,ai,isNil,Nat.reduceEqDiff,Nat.reduceAdd,Nat.reduceLT,Nat.reduceLeDiff,Int.reduceNeg,Int.reduceToNat,reduceCtorEq,hel,t3]
    refine iA (hb3 _ _ _) (by simp[aV]) (by unfold aO; simp; omega) (by unfold aO; simp; omega) ?_
    intro b2 H5 o5 l5
    simp (disch:=omega) only [↓wr,↓reduceIte,wq,ah,ag,aj,ab,ae,af,ai,isNil,Nat.reduceEqDiff,Nat.reduceAdd,Nat.reduceLT,Nat.reduceLeDiff,Int.reduceNeg,Int.reduceToNat,reduceCtorEq,t6,t7,t8]
    refine bq hk (by omega) ⟨b2,?_,fun j hj=>?_,rfl,t6,t7,rfl⟩
    · have:(nA (l.take (i+1))).map (fun n=>[gy n])=(nA (l.take i)).map (fun n=>[gy n]) ++ [[gy (x.aH+1)],[gy x.dot]]:=by
        rw[htk]; simp[nA]
      rw[this]; exact o5
    · obtain ⟨k1,k2⟩:=l5 j (by rw[hset _ _ _ j hj]; exact hj) (fb j hj).2
      exact ⟨by rw[k1,hset _ _ _ j hj],k2⟩
  · rw[List.take_of_length_le (by omega)] at hb
    simp (disch:=omega) only [↓wr,↓reduceIte,wq,ah,ag,aj,ab,ae,af,ai,isNil,Nat.reduceEqDiff,Nat.reduceAdd,Nat.reduceLT,Nat.reduceLeDiff,Int.reduceNeg,Int.reduceToNat,reduceCtorEq,t3]
    have hel:∃ rd,bI H' b=some ((nA l).map (fun n=>[gy n]),rd):=by
      rcases hb with ⟨e,k,rfl⟩ | ⟨n,rfl,hn⟩
      · exact ⟨[],by rw[e]; rfl⟩
      · rcases hq:(nA l).map (fun n=>[gy n]) with _ | ⟨y,ys⟩
        · exact ⟨[],by simp[bI]⟩
        · rw[hq] at hn
          exact ⟨[n],by
            have:=j0 (H:=H') n 0 ys.length 1 1 (y :: ys) hn (by simp)
            rw[List.length_cons,this]; simp⟩
    obtain ⟨rd,hel⟩:=hel
    refine OT (u:=b) (xs:=(nA l).map fun n=>[gy n]) (rd:=rd) (k:=((nA l).map fun n=>[gy n]).length) (l:=eY l) Tryz.underlying91 Tryz.underlying5 Tryz.underlying9 (by simp (disch:=omega) only [↓wr,↓reduceIte,wq,ah,ag,aj,ab,ae,af,ai,isNil,Nat.reduceEqDiff,Nat.reduceAdd,Nat.reduceLT,Nat.reduceLeDiff,Int.reduceNeg,Int.reduceToNat,reduceCtorEq]; exact t3) hel hb.len (AN l) ?_
    simp (disch:=omega) only [↓wr,↓reduceIte,wq,ah,ag,aj,ab,ae,af,ai,isNil,Nat.reduceEqDiff,Nat.reduceAdd,Nat.reduceLT,Nat.reduceLeDiff,Int.reduceNeg,Int.reduceToNat,reduceCtorEq]
    exact fun id hid=>(fb id hid).1
theorem wb (g:ao) (p:List aL) (y:aL) (s:Int):bc g (p ++ [y]) s=if cU g y=(s,true) then bc g p s ++ [⟨y.aH,y.dot+1⟩] else bc g p s:=by
  unfold bc
  rw[List.filter_append,List.map_append]
  split
  · rename_i h; simp[h]
  · rename_i h; simp[h]
def gO (g:ao) (p:List aL) (A:cm Int):List ew:=A.map fun x=>(x.2.1,2,aS (bc g p (aU g x.1.toNat)))
structure rC (g:ao) (p:List aL) (H0 H:View) (q:Nat) (A:cm Int):Prop where
  mp:∃ c,H q=.map (bR (Value.int .i64) A) c
  nd:(A.map (·.1)).Nodup
  own:bg H (gO g p A)
  ne:∀ x∈A,0≤x.1∧bc g p (aU g x.1.toNat)≠[]
  all:∀ k:Nat,bc g p (aU g k)≠[]→((k:Nat):Int)∈A.map (·.1)
  old:∀ id,H0 id≠.dead→H id=H0 id
  q0:H0 q=.dead
  new:∀ x∈A,∀ id,owner x.2.1=some id→H0 id=.dead
theorem getM_none {A:cm Int} {k:Int} : getM A k=none↔k ∉ A.map (·.1):=by
  induction A with
  | nil=>simp[getM]
  | cons x A ih =>
    unfold getM at ih ⊢
    rw[List.find?_cons]
    by_cases h:k=x.1
    · simp[h]
    · simp only[beq_eq_false_iff_ne.2 h,List.map_cons,List.mem_cons,not_or]
      rw[ih]
      simp[h]
theorem vh {A:cm Int} {k:Int} {v:V} (h:getM A k=some v):∃ A1 A2 b,A=A1 ++ (k,v,b) :: A2∧k ∉ A1.map (·.1)∧∀ v' c,bV k v' c A=A1 ++ (k,v',b) :: A2:=by
  induction A with
  | nil=>simp[getM] at h
  | cons x A ih =>
    unfold getM at h ih
    rw[List.find?_cons] at h
    by_cases e:k=x.1
    · simp only[e,beq_self_eq_true,Option.map_some,Option.some.injEq] at h
      refine ⟨[],A,x.2.2,by rw[e,← h]; rfl,by simp,fun v' c=>?_⟩
      rw[bV,e,beq_self_eq_true,if_pos rfl]; rfl
    · rw[beq_eq_false_iff_ne.2 e] at h
      obtain ⟨A1,A2,b,rfl,h2,h3⟩:=ih h
      refine ⟨x :: A1,A2,b,rfl,by simp only[List.map_cons,List.mem_cons,not_or]; exact ⟨e,h2⟩,fun v' c=>?_⟩
      rw[bV,beq_eq_false_iff_ne.2 e,h3]; rfl
theorem Mq {A:cm Int} {k:Int} (h:k ∉ A.map (·.1)) (v:V) (c:Nat):bV k v c A=A ++ [(k,v,c)]:=by
  induction A with
  | nil=>rfl
  | cons x A ih =>
    simp only[List.map_cons,List.mem_cons,not_or] at h
    rw[bV,beq_eq_false_iff_ne.2 h.1,ih h.2]; rfl
theorem rC.skip {g:ao} {p:List aL} {H0 H:View} {q:Nat} {A:cm Int} (h:rC g p H0 H q A) {y:aL} (hy:(cU g y).2=false):rC g (p ++ [y]) H0 H q A:=by
  have e:∀ s,bc g (p ++ [y]) s=bc g p s:=fun s=>by rw[wb,if_neg (fun h=>by rw[h] at hy; simp at hy)]
  have e2:gO g (p ++ [y]) A=gO g p A:=by simp only[gO,e]
  exact ⟨h.mp,h.nd,by rw[e2]; exact h.own,fun x hx=>by rw[e]; exact h.ne x hx,fun k hk=>by rw[e] at hk; exact h.all k hk,h.old,h.q0,h.new⟩
theorem rC.val {g:ao} {p:List aL} {H0 H:View} {q:Nat} {A:cm Int} (h:rC g p H0 H q A) (r:Nat):aQ H ((getM A r).getD (.emp 1)) 2 (aS (bc g p (aU g r))):=by
  cases hg:getM A r with
  | none =>
    have hn:=getM_none.1 hg
    have:bc g p (aU g r)=[]:=Decidable.byContradiction fun hne=>hn (h.all r hne)
    rw[this]; exact .nil
  | some v =>
    obtain ⟨A1,A2,b,rfl,_,_⟩:=vh hg
    have:=h.own.1 (v,2,aS (bc g p (aU g r))) (by simp[gO])
    exact this
theorem rC.put {g:ao} {p:List aL} {H0 H:View} {q:Nat} {A:cm Int} (h:rC g p H0 H q A) {y:aL} {r:Nat} (hy:cU g y=(aU g r,true)) {H1:View} {v':V} (o1:aQ H1 v' 2 (aS (bc g p (aU g r) ++ [⟨y.aH,y.dot+1⟩]))) (l1:Left H H1 ((getM A r).getD (.emp 1)) v') (c c':Nat) :
    rC g (p ++ [y]) H0 (H1.set q (.map (bR (Value.int .i64) (bV (r:Int) v' c A)) c')) q (bV (r:Int) v' c A):=by
  obtain ⟨c0,hq⟩:=h.mp
  have hr:bc g (p ++ [y]) (aU g r)=bc g p (aU g r) ++ [⟨y.aH,y.dot+1⟩]:=by rw[wb,if_pos hy]
  have hne:∀ x:Int × V × Nat,0≤x.1→x.1≠r→bc g (p ++ [y]) (aU g x.1.toNat)=bc g p (aU g x.1.toNat):=fun x h0 hx=>by
    rw[wb,if_neg]
    intro e
    rw[hy] at e
    simp only[Prod.mk.injEq,and_true] at e
    have h1:=E3 g r
    rw[e,E3] at h1
    omega
  have howq:owner ((getM A r).getD (.emp 1))≠some q:=fun e=>by
    have:=((h.val r).live e).1
    rw[hq] at this; simp at this
  have hq1:H1 q≠.dead∧owner v'≠some q:=by
    obtain ⟨k1,k2⟩:=l1 q (by rw[hq]; simp) howq
    exact ⟨by rw[k1,hq]; simp,k2⟩
  have hold:∀ id,H0 id≠.dead→id≠q∧owner ((getM A r).getD (.emp 1))≠some id:=fun id hid=>by
    refine ⟨fun e=>hid (by rw[e]; exact h.q0),fun e=>?_⟩
    cases hg:getM A r with
    | none=>rw[hg] at e; simp[owner] at e
    | some v =>
      rw[hg] at e
      obtain ⟨A1,A2,b,rfl,_,_⟩:=vh hg
      exact hid (h.new (r,v,b) (by simp) id e)
  have hold2:∀ id,H0 id≠.dead→(H1.set q (.map (bR (Value.int .i64) (bV (r:Int) v' c A)) c')) id=H0 id:=fun id hid=>by
    simp only[View.set]
    rw[if_neg (hold id hid).1,(l1 id (by rw[h.old id hid]; exact hid) (hold id hid).2).1,h.old id hid]
  have hv':∀ id,owner v'=some id→H0 id=.dead:=fun id e=>Classical.byContradiction fun hid=>(l1 id (by rw[h.old id hid]; exact hid) (hold id hid).2).2 e
  have hset:∀ {L:List ew},bg H1 L→(∀ x∈L,owner x.1≠some q)→bg (H1.set q (.map (bR (Value.int .i64) (bV (r:Int) v' c A)) c')) L:=fun hL hx=>⟨fun x hxm=>(hL.1 x hxm).other (hx x hxm),hL.2⟩
  have hmapq:∀ x∈A,owner x.2.1≠some q:=fun x hx=>h.own.Jc hq _ (List.mem_map.2 ⟨x,hx,rfl⟩)
  cases hg:getM A r with
  | none =>
    have hn:=getM_none.1 hg
    rw[hg] at l1
    rw[Mq hn] at *
    have e1:gO g (p ++ [y]) (A ++ [((r:Int),v',c)])=gO g p A ++ [(v',2,aS (bc g p (aU g r) ++ [⟨y.aH,y.dot+1⟩]))]:=by
      simp only[gO,List.map_append,List.map_cons,List.map_nil,Int.toNat_natCast,hr]
      congr 1
      refine List.map_congr_left fun x hx=>?_
      rw[hne x (h.ne x hx).1 (fun e=>hn (List.mem_map.2 ⟨x,hx,e⟩))]
    refine ⟨⟨c',by simp[View.set]⟩,?_,?_,fun x hx=>?_,fun k hk=>?_,hold2,h.q0,fun x hx id e=>?_⟩
    · rw[List.map_append,List.nodup_append]
      refine ⟨h.nd,by simp,fun a ha b hb e=>?_⟩
      simp at hb; subst hb; subst e; exact hn ha
    · rw[e1]
      have ho:bg H1 ((v',2,aS (bc g p (aU g r) ++ [⟨y.aH,y.dot+1⟩])) :: gO g p A):=(h.own.emp (k:=1) (sz:=2)).left (by simpa using o1) l1
      refine hset (ho.perm (List.perm_append_comm (l₁:=[_]))) fun x hx=>?_
      rcases List.mem_append.1 hx with hx | hx
      · obtain ⟨z,hz,rfl⟩:=List.mem_map.1 hx
        exact hmapq z hz
      · simp at hx; subst hx; exact hq1.2
    · rcases List.mem_append.1 hx with hx | hx
      · rw[hne x (h.ne x hx).1 (fun e=>hn (List.mem_map.2 ⟨x,hx,e⟩))]; exact h.ne x hx
      · simp at hx; subst hx; simp[hr]
    · rw[List.map_append,List.mem_append]
      by_cases e:k=r
      · right; simp[e]
      · left
        refine h.all k ?_
        have:=hne ((k:Int),.any,0) (by simp) (by simp only; omega)
        simp only[Int.toNat_natCast] at this
        rw[← this]; exact hk
    · rcases List.mem_append.1 hx with hx | hx
      · exact h.new x hx id e
      · simp at hx; subst hx; exact hv' id e
  | some v =>
    obtain ⟨A1,A2,b,rfl,hn1,hput⟩:=vh hg
    rw[hg] at l1
    rw[hput] at *
    have hnd:=h.nd
    rw[List.map_append,List.map_cons,List.nodup_append] at hnd
    have hn2:(r:Int) ∉ A2.map (·.1):=(List.nodup_cons.1 hnd.2.1).1
    have hx1:∀ x∈A1,x.1≠r:=fun x hx e=>hn1 (List.mem_map.2 ⟨x,hx,e⟩)
    have hx2:∀ x∈A2,x.1≠r:=fun x hx e=>hn2 (List.mem_map.2 ⟨x,hx,e⟩)
    have hm1:∀ x∈A1,x∈A1 ++ ((r:Int),v,b) :: A2:=fun x hx=>List.mem_append_left _ hx
    have hm2:∀ x∈A2,x∈A1 ++ ((r:Int),v,b) :: A2:=fun x hx=>List.mem_append_right _ (List.mem_cons_of_mem _ hx)
    have e1:gO g (p ++ [y]) (A1 ++ ((r:Int),v',b) :: A2)=gO g p A1 ++ (v',2,aS (bc g p (aU g r) ++ [⟨y.aH,y.dot+1⟩])) :: gO g p A2:=by
      simp only[gO,List.map_append,List.map_cons,Int.toNat_natCast,hr]
      congr 1
      · refine List.map_congr_left fun x hx=>?_
        rw[hne x (h.ne x (hm1 x hx)).1 (hx1 x hx)]
      · congr 1
        refine List.map_congr_left fun x hx=>?_
        rw[hne x (h.ne x (hm2 x hx)).1 (hx2 x hx)]
    have e0:gO g p (A1 ++ ((r:Int),v,b) :: A2)=gO g p A1 ++ (v,2,aS (bc g p (aU g r))) :: gO g p A2:=by
      simp only[gO,List.map_append,List.map_cons,Int.toNat_natCast]
    refine ⟨⟨c',by simp[View.set]⟩,by simpa using h.nd,?_,fun x hx=>?_,fun k hk=>?_,hold2,h.q0,fun x hx id e=>?_⟩
    · rw[e1]
      have h0:=h.own
      rw[e0] at h0
      have ho:bg H1 ((v',2,aS (bc g p (aU g r) ++ [⟨y.aH,y.dot+1⟩])) :: (gO g p A1 ++ gO g p A2)):=(h0.perm List.perm_middle).left o1 l1
      refine hset (ho.perm List.perm_middle.symm) fun x hx=>?_
      rcases List.mem_append.1 hx with hx | hx
      · obtain ⟨z,hz,rfl⟩:=List.mem_map.1 hx
        exact hmapq z (hm1 z hz)
      · rcases List.mem_cons.1 hx with rfl | hx
        · exact hq1.2
        · obtain ⟨z,hz,rfl⟩:=List.mem_map.1 hx
          exact hmapq z (hm2 z hz)
    · rcases List.mem_append.1 hx with hx | hx
      · rw[hne x (h.ne x (hm1 x hx)).1 (hx1 x hx)]; exact h.ne x (hm1 x hx)
      · rcases List.mem_cons.1 hx with rfl | hx
        · simp[hr]
        · rw[hne x (h.ne x (hm2 x hx)).1 (hx2 x hx)]; exact h.ne x (hm2 x hx)
    · by_cases e:k=r
      · subst e; simp
      · have:=hne ((k:Int),.any,0) (by simp) (by simp only; omega)
        simp only[Int.toNat_natCast] at this
        rw[this] at hk
        have:=h.all k hk
        simpa using this
    · rcases List.mem_append.1 hx with hx | hx
      · exact h.new x (hm1 x hx) id e
      · rcases List.mem_cons.1 hx with rfl | hx
        · exact hv' id e
        · exact h.new x (hm2 x hx) id e
theorem rC.fresh {g:ao} {p:List aL} {H0 H:View} {q:Nat} {A:cm Int} (h:rC g p H0 H q A) {n:Nat} (hn:H n=.dead) (o:bM):rC g p H0 (H.set n o) q A:=by
  obtain ⟨c,hq⟩:=h.mp
  have e1:q≠n:=by rintro rfl; rw[hn] at hq; simp at hq
  refine ⟨⟨c,by simp[View.set,e1,hq]⟩,h.nd,h.own.fresh hn,h.ne,h.all,fun id hid=>?_,h.q0,h.new⟩
  have e2:id≠n:=by rintro rfl; rw[h.old id hid] at hn; exact hid hn
  simp[View.set,e2,h.old id hid]
set_option maxHeartbeats 8000000 in
theorem L4 (g:ao) (hf:g.dH) (l:List aL) (hl:∀ x∈l,c4 g x) (hn:l.length≤10000) (u:V) (H:View) (ho:aQ H u 2 (aS l)):aC Tryz.prog 63 [.agg (aw g),u] H fun r H'=>∃ q A,r=.mp q∧rC g l H H' q A:=by
  refine aC.of mixed As ?_
  have hlen:cq u=some l.length:=by rw[ho.len,bB]
  have hT:=hf.az
  have hN:=hf.ay
  simp (disch:=omega) only [↓wr,↓reduceIte,wq,ah,ag,aj,ab,ae,af,ai,isNil,Nat.reduceEqDiff,Nat.reduceAdd,Nat.reduceLT,Nat.reduceLeDiff,Int.reduceNeg,Int.reduceToNat,reduceCtorEq,xi,aw,encS,hlen]
  intro q hq
  have h0:rC g [] H (H.set q (.map [] 0)) q []:=⟨⟨0,by simp[View.set,bR]⟩,by simp,⟨by simp[gO],by simp[gO]⟩,by simp,fun k hk=>absurd rfl hk,fun id hid=>by
    have:id≠q:=by rintro rfl; exact hid hq
    simp[View.set,this],hq,by simp⟩
  generalize H.set q (.map [] 0)=H1 at h0
  try simp (disch:=omega) only [↓wr,↓reduceIte,wq,ah,ag,aj,ab,ae,af,ai,isNil,Nat.reduceEqDiff,Nat.reduceAdd,Nat.reduceLT,Nat.reduceLeDiff,Int.reduceNeg,Int.reduceToNat,reduceCtorEq]
  refine bz.up l.length (fun i T H'=>∃ A,rC g (l.take i) H H' q A∧T 2=.aR (aw g) 0∧T 5=.mp q∧T 12=u∧T 13=gi l.length∧T 14=gi i) ⟨[],h0,rfl,rfl,rfl,rfl,rfl⟩ ?_
  clear h0 hq
  rintro i k T H' hk ⟨A,hM,t2,t5,t12,t13,t14⟩
  simp (disch:=omega) only [↓wr,↓reduceIte,wq,ah,ag,aj,ab,ae,af,ai,isNil,Nat.reduceEqDiff,Nat.reduceAdd,Nat.reduceLT,Nat.reduceLeDiff,Int.reduceNeg,Int.reduceToNat,reduceCtorEq,tD,t2,t5,t12,t13,t14]
  refine ax.dec (fun hc=>?_) (fun hc=>?_)
  · have hx:l[i]?=some (l[i]'(by omega)):=List.getElem?_eq_getElem (by omega)
    have hxm:=hl _ (List.getElem_mem (show i < l.length by omega))
    have htk:l.take (i+1)=l.take i ++ [l[i]'(by omega)]:=by rw[List.take_add_one,hx]; rfl
    generalize l[i]'(by omega)=x at hx hxm htk
    have h1:=Er g hf x hxm
    cases hny:cU g x with
    | mk s okb =>
    have hsb:=uF hf hxm hny
    rw[hny] at h1
    have hr6:=fF hf hxm.1
    have hx2:=hxm.2
    obtain ⟨id,hu,hid⟩:=ho.sl (by rw[bB]; omega)
    have hid':H' id=.arr 2 (aS l):=by rw[hM.old id (by rw[hid]; simp),hid]
    rw[bB] at hu
    subst hu
    simp only[aw,encS,bQ] at h1
    simp (disch:=omega) only [↓wr,↓reduceIte,wq,ah,ag,aj,ab,ae,af,ai,isNil,Nat.reduceEqDiff,Nat.reduceAdd,Nat.reduceLT,Nat.reduceLeDiff,Int.reduceNeg,Int.reduceToNat,reduceCtorEq,t2,t5,t12,t13,t14,hid',oS hx]
    refine ⟨by omega,by rw[bB]; omega,?_⟩
    intro q1 hq1
    rw[set_set]
    have hqq:(H'.set q1 (.arr 2 [[gi x.aH,gi x.dot]])) q1=.arr 2 [[gi x.aH,gi x.dot]]:=by simp[View.set]
    have hM2:=hM.fresh hq1 (.arr 2 [[gi x.aH,gi x.dot]])
    generalize H'.set q1 (.arr 2 [[gi x.aH,gi x.dot]])=H4 at hqq hM2
    clear hM hq1 hid'
    try simp (disch:=omega) only [↓wr,↓reduceIte,wq,ah,ag,aj,ab,ae,af,ai,isNil,Nat.reduceEqDiff,Nat.reduceAdd,Nat.reduceLT,Nat.reduceLeDiff,Int.reduceNeg,Int.reduceToNat,reduceCtorEq,t2,t5,hqq,aw,encS]
    refine aG.pure h1 (by kernel_rfl) ?_
    cases okb with
    | false =>
      simp (disch:=omega) only [↓wr,↓reduceIte,wq,ah,ag,aj,ab,ae,af,ai,isNil,Nat.reduceEqDiff,Nat.reduceAdd,Nat.reduceLT,Nat.reduceLeDiff,Int.reduceNeg,Int.reduceToNat,reduceCtorEq,t2,t5,t12,t13,t14]
      exact bq hk (by omega) ⟨A,by rw[htk]; exact hM2.skip (by rw[hny]),t2,t5,t12,t13,rfl⟩
    | true =>
    have hh:=E4 hf hxm hny
    obtain ⟨r1,r2⟩:=NY hh
    obtain ⟨r3,r4⟩:=Mp r1
    obtain ⟨r,hr⟩:∃ r:Nat,me g s=r:=⟨(me g s).toNat,by omega⟩
    rw[hr,Int.toNat_natCast] at r4
    have h2:=Ni g hf s hsb
    rw[hr] at h2
    simp only[aw,encS] at h2
    simp (disch:=omega) only [↓wr,↓reduceIte,wq,ah,ag,aj,ab,ae,af,ai,isNil,Nat.reduceEqDiff,Nat.reduceAdd,Nat.reduceLT,Nat.reduceLeDiff,Int.reduceNeg,Int.reduceToNat,reduceCtorEq,t2,t5,aw,encS]
    refine aG.pure h2 (by kernel_rfl) ?_
    obtain ⟨c,hmq⟩:=hM2.mp
    simp (disch:=omega) only [↓wr,↓reduceIte,wq,ah,ag,aj,ab,ae,af,ai,isNil,Nat.reduceEqDiff,Nat.reduceAdd,Nat.reduceLT,Nat.reduceLeDiff,Int.reduceNeg,Int.reduceToNat,reduceCtorEq,t5]
    refine xK (kt:=3) (et:=27) (z:=.emp 1) (by kernel_rfl) (by kernel_rfl) (jG .i64 Tryz.underlying3) (id:=q) (c:=c) (m:=A) (k:=(r:Int)) (by simp (disch:=omega) only [↓wr,↓reduceIte,wq,ah,ag,aj,ab,ae,af,ai,isNil,Nat.reduceEqDiff,Nat.reduceAdd,Nat.reduceLT,Nat.reduceLeDiff,Int.reduceNeg,Int.reduceToNat,reduceCtorEq]) (by simp (disch:=omega) only [↓wr,↓reduceIte,wq,ah,ag,aj,ab,ae,af,ai,isNil,Nat.reduceEqDiff,Nat.reduceAdd,Nat.reduceLT,Nat.reduceLeDiff,Int.reduceNeg,Int.reduceToNat,reduceCtorEq]) hmq ?_
    have hov:=hM2.val r
    have hqq1:∀ n o,H4 n=.dead→(H4.set n o) q1=.arr 2 [[gi x.aH,gi x.dot]]:=fun n o hn=>by
      have:q1≠n:=by rintro rfl; rw[hqq] at hn; simp at hn
      simp[View.set,this,hqq]
    try simp (disch:=omega) only [↓wr,↓reduceIte,wq,ah,ag,aj,ab,ae,af,ai,isNil,Nat.reduceEqDiff,Nat.reduceAdd,Nat.reduceLT,Nat.reduceLeDiff,Int.reduceNeg,Int.reduceToNat,reduceCtorEq,hqq]
    intro q2 hq2
    have hM3:=hM2.fresh hq2 (.arr 2 [[gi x.aH,gi (x.dot+1)]])
    have hov3:=hM3.val r
    have hel:bI (H4.set q2 (.arr 2 [[gi x.aH,gi (x.dot+1)]])) (.sl q2 0 1 2)=some ([[gi x.aH,gi (x.dot+1)]],[q2]):=by simp[bI,View.set]
    simp (disch:=omega) only [↓wr,↓reduceIte,wq,ah,ag,aj,ab,ae,af,ai,isNil,Nat.reduceEqDiff,Nat.reduceAdd,Nat.reduceLT,Nat.reduceLeDiff,Int.reduceNeg,Int.reduceToNat,reduceCtorEq,hel]
    have hml:=qv (g:=g) (l:=l.take i) (s:=aU g r)
    rw[List.length_take] at hml
    refine iA hov3 (by simp[aV]) (by unfold aO; rw[bB]; simp; omega) (by unfold aO; rw[bB]; simp; omega) ?_
    intro v' H6 o6 l6
    obtain ⟨c3,hmq3⟩:=hM3.mp
    have howq:owner ((getM A (r:Int)).getD (.emp 1))≠some q:=fun e=>by
      have:=(hov3.live e).1
      rw[hmq3] at this; simp at this
    have hmq6:H6 q=.map (bR (Value.int .i64) A) c3:=by
      rw[(l6 q (by rw[hmq3]; simp) howq).1,hmq3]
    simp (disch:=omega) only [↓wr,↓reduceIte,wq,ah,ag,aj,ab,ae,af,ai,isNil,Nat.reduceEqDiff,Nat.reduceAdd,Nat.reduceLT,Nat.reduceLeDiff,Int.reduceNeg,Int.reduceToNat,reduceCtorEq,t5]
    refine s8 (kt:=3) (et:=27) (by kernel_rfl) (jG .i64 Tryz.underlying3) (id:=q) (c:=c3) (m:=A) (k:=(r:Int)) (v:=v') (by simp (disch:=omega) only [↓wr,↓reduceIte,wq,ah,ag,aj,ab,ae,af,ai,isNil,Nat.reduceEqDiff,Nat.reduceAdd,Nat.reduceLT,Nat.reduceLeDiff,Int.reduceNeg,Int.reduceToNat,reduceCtorEq]) (by simp (disch:=omega) only [↓wr,↓reduceIte,wq,ah,ag,aj,ab,ae,af,ai,isNil,Nat.reduceEqDiff,Nat.reduceAdd,Nat.reduceLT,Nat.reduceLeDiff,Int.reduceNeg,Int.reduceToNat,reduceCtorEq]) (by simp (disch:=omega) only [↓wr,↓reduceIte,wq,ah,ag,aj,ab,ae,af,ai,isNil,Nat.reduceEqDiff,Nat.reduceAdd,Nat.reduceLT,Nat.reduceLeDiff,Int.reduceNeg,Int.reduceToNat,reduceCtorEq]) hmq6 ?_
    intro c'
    simp (disch:=omega) only [↓wr,↓reduceIte,wq,ah,ag,aj,ab,ae,af,ai,isNil,Nat.reduceEqDiff,Nat.reduceAdd,Nat.reduceLT,Nat.reduceLeDiff,Int.reduceNeg,Int.reduceToNat,reduceCtorEq,t2,t5,t12,t13,t14]
    have hfin:=hM3.put (y:=x) (r:=r) (by rw[hny,r4]) (H1:=H6) (v':=v') (by
      have e:aS (bc g (l.take i) (aU g r) ++ [⟨x.aH,x.dot+1⟩])=aS (bc g (l.take i) (aU g r)) ++ [[gi x.aH,gi (x.dot+1)]]:=by simp[aS,bQ]
      rw[e]; exact o6) l6 c3 c'
    exact bq hk (by omega) ⟨bV (r:Int) v' c3 A,by rw[htk]; exact hfin,t2,t5,t12,t13,rfl⟩
  · rw[List.take_of_length_le (by omega)] at hM
    simp (disch:=omega) only [↓wr,↓reduceIte,wq,ah,ag,aj,ab,ae,af,ai,isNil,Nat.reduceEqDiff,Nat.reduceAdd,Nat.reduceLT,Nat.reduceLeDiff,Int.reduceNeg,Int.reduceToNat,reduceCtorEq,t5]
    exact ⟨q,A,rfl,hM⟩
theorem aG.still {P:Program} {f:FuncId} {vs:List V} {H:View} {K:V→View→Prop} {w:cD (H,K)} {Φ:V→View→Prop} (hc:aC P f vs H Φ) (hs:∀ r H',Φ r H'→∀ id,H id≠.dead→H' id=H id) (hk:∀ r H',Φ r H'→K r H'):aG P true f vs H K w:=by
  unfold aG
  simp only[if_true]
  exact (hc.mono fun r H' h=>⟨hs r H' h,hk r H' h⟩).Ei
theorem bg.join {H:View} {L M:List ew} (h:bg H L) (k:bg H M) (hd:∀ x∈L,∀ y∈M,∀ id,owner x.1=some id→owner y.1≠some id):bg H (L ++ M):=by
  refine ⟨fun x hx=>?_,?_⟩
  · rcases List.mem_append.1 hx with hx | hx
    · exact h.1 x hx
    · exact k.1 x hx
  · rw[List.filterMap_append,List.nodup_append]
    refine ⟨h.2,k.2,fun a ha b hb e=>?_⟩
    obtain ⟨x,hx,hxa⟩:=List.mem_filterMap.1 ha
    obtain ⟨y,hy,hyb⟩:=List.mem_filterMap.1 hb
    subst e
    exact hd x hx y hy a hxa hyb
theorem bg.sub {H:View} {L M:List ew} (h:bg H L) (hs:M.Sublist L):bg H M :=
  ⟨fun x hx=>h.1 x (hs.subset hx),h.2.sublist (hs.filterMap _)⟩
theorem KO {l:List aL} (hs:bS l) (hn:l.length≤100000) (u:V) (H:View) (ho:aQ H u 2 (aS l)):aC Tryz.prog 64 [u] H fun r H'=>H=H'∧aQ H r 2 (aS l)∧(l≠[]→r=u):=by
  refine (HK l hn u H ho).mono ?_
  rintro r H' ⟨k1,k2,k3⟩
  rw[Im hs] at k2
  have e:H'=H:=by
    funext id
    by_cases h:owner u=some id
    · rw[(ho.live h).1,(k2.live (by rw[k3]; exact h)).1]
    · exact k1 id h
  subst e
  refine ⟨rfl,k2,fun hne=>?_⟩
  have hp:0 < (aS l).length:=by rw[bB]; exact List.length_pos_iff.2 hne
  obtain ⟨n,e1,_⟩:=ho.sl hp
  obtain ⟨m,e2,_⟩:=k2.sl hp
  rw[e1,e2] at k3
  simp only[owner,Option.some.injEq] at k3
  rw[e1,e2,k3]
def pw (g:ao) (out:List bt) (M:cm (List UInt8)):Prop:=∀ l:List aL,(∀ x∈l,c4 g x)→getM M (eY l)=if findD out l < 0 then none else some (gi (findD out l))
theorem C0:∀ {a b:List bt},a.map bt.bo=b.map bt.bo→∀ k,findD a k=findD b k
  | [],[],_,_=>rfl
  | [],_ :: _,h,_=>by simp at h
  | _ :: _,[],h,_=>by simp at h
  | s :: a,t :: b,h,k=>by
    simp only[List.map_cons,List.cons.injEq] at h
    rw[findD,findD,h.1,C0 h.2 k]
theorem zU:∀ (a:List bt) (s:bt) (k:List aL),findD (a ++ [s]) k=if 0≤findD a k then findD a k else if s.bo=k then (a.length:Int) else -1
  | [],s,k=>by by_cases e:s.bo=k <;> simp[findD,e]
  | t :: a,s,k=>by
    have ih:=zU a s k
    have h1:=qC a k
    rw[List.cons_append,findD,findD,ih]
    simp only[List.length_cons]
    push_cast
    by_cases e:t.bo=k <;> by_cases e2:s.bo=k <;> by_cases h0:0≤findD a k <;> simp only[e,e2,h0,if_true,if_false] <;> (repeat' split) <;> omega
theorem pw.same {g:ao} {a b:List bt} {M:cm (List UInt8)} (h:pw g a M) (e:a.map bt.bo=b.map bt.bo):pw g b M:=fun l hl=>by
  rw[h l hl,C0 e]
theorem pw.put {g:ao} (hf:g.dH) {out:List bt} {M:cm (List UInt8)} (h:pw g out M) {k:List aL} (hk:∀ x∈k,c4 g x) (hn:findD out k < 0) (c:Nat):pw g (out ++ [⟨k,[]⟩]) (bV (eY k) (gi out.length) c M):=fun l hl=>by
  have h1:=zU out ⟨k,[]⟩ l
  have h2:=qC out l
  rw[y8]
  by_cases e:l=k
  · subst e
    rw[if_neg (by omega),if_pos rfl] at h1
    rw[h1,beq_self_eq_true,if_pos rfl,if_neg (by omega)]
  · have e2:(eY l == eY k)=false:=beq_eq_false_iff_ne.2 fun h=>e (FC hf hl hk h)
    rw[e2,h l hl]
    simp only[Bool.false_eq_true,if_false]
    by_cases h0:0≤findD out l
    · rw[if_pos h0] at h1
      rw[h1]
    · rw[if_neg h0,if_neg (fun h=>e h.symm)] at h1
      rw[h1,if_pos (by omega),if_pos (by omega)]
theorem FU {A:cm Int} {k:Nat} {v:V} (hn:(A.map (·.1)).Nodup) (h:getM A (k:Int)=some v):∃ b,(A.filter (fun x=>decide (((k:Nat):Int)≤x.1))).Perm (((k:Int),v,b) :: A.filter (fun x=>decide (((k+1:Nat):Int)≤x.1))):=by
  obtain ⟨A1,A2,b,rfl,hn1,_⟩:=vh h
  rw[List.map_append,List.map_cons,List.nodup_append] at hn
  have hn2:(k:Int) ∉ A2.map (·.1):=(List.nodup_cons.1 hn.2.1).1
  have e:∀ B:cm Int,(k:Int) ∉ B.map (·.1)→B.filter (fun x=>decide (((k:Nat):Int)≤x.1))=B.filter (fun x=>decide (((k+1:Nat):Int)≤x.1)):=fun B hB=>List.filter_congr fun x hx=>by
    have:x.1≠(k:Int):=fun e=>hB (List.mem_map.2 ⟨x,hx,e⟩)
    rw[decide_eq_decide]; omega
  refine ⟨b,?_⟩
  rw[List.filter_append,List.filter_append,List.filter_cons,List.filter_cons,if_pos (by simp),if_neg (by simp only[decide_eq_true_eq]; push_cast; omega),e A1 hn1,e A2 hn2]
  exact List.perm_middle
theorem PL {α:Type} {e u r:α} {S X Y:List α} (h:X.Perm (r :: Y)):(e :: u :: (S ++ X)).Perm (u :: ((S ++ [r,e]) ++ Y)):=by
  refine (List.Perm.swap _ _ _).trans (.cons _ ?_)
  rw[List.append_assoc]
  refine ((h.append_left S).cons e).trans ?_
  exact List.perm_middle.symm.trans ((List.Perm.swap _ _ _).append_left S)
theorem DO {α:Type} {u k e:α} {S R:List α} : (u :: (S ++ k :: e :: R)).Perm (e :: u :: (S ++ k :: R)):=by
  have h:(S ++ k :: e :: R).Perm (e :: (S ++ k :: R)):=by
    have:=List.perm_middle (a:=e) (l₁:=S ++ [k]) (l₂:=R)
    simpa using this
  exact (h.cons u).trans (List.Perm.swap _ _ _)
def th:SC :=
  .seq (ak [aN 49 .lss 48 47]) <|
  .seq (.cond (.tmp 49) (.skip) (.exit 2)) <|
  .seq (.block 3 (.seq (ak [aa 50 48,aa 9 50]) <|
  .seq (ak [aa 51 8,aa 52 9,((some 53),.op (.old (.lookup 98 (.tmp 51) (.tmp 52) false) 27)),aI 54 64 [53],aa 10 54]) <|
  .seq (.seq (ak [aa 55 10,aJ 56 55,aA 57 .eql 56 0]) <|
  .cond (.tmp 57) (.exit 3) (.skip)) <|
  .seq (ak [aa 58 9,aa 11 58]) <|
  .seq (.seq (ak [aa 59 9,av 60 0 1,au 61 60,aJ 62 61,aN 63 .geq 59 62]) <|
  .cond (.tmp 63) (ak [av 64 0 1,au 65 64,aJ 66 65,aA 67 .sub 66 1,aa 68 9,aN 69 .sub 67 68,aa 11 69]) (.skip)) <|
  .seq (ak [aa 71 6,aa 72 10,aI 73 62 [72],((some 74),.op (.old (.lookup 97 (.tmp 71) (.tmp 73) true) 30)),aa 70 74,cG 75 0 70,cG 76 1 70,aa 12 75,aa 13 76]) <|
  .seq (.seq (ak [aa 77 13,b6 78 77]) <|
  .cond (.tmp 78) (.seq (ak [aa 79 5,aJ 80 79,aa 12 80]) <|
  .seq (ak [aa 81 6,aa 82 10,aI 83 62 [82],aa 84 12,(none,.op (.old (.mapUpdate 97 (.tmp 81) (.tmp 83) (.tmp 84)) 0))]) <|
  ak [aa 85 5,aa 86 10,((some 87),.op (.build [(.emp 1),(.emp 1)] [(0,1,(.tmp 86))])),((some 88),.op (.bC 1 2 [(.emp 1),(.emp 1)] [(0,(.tmp 87))])),((some 89),.op (.app 2 48 (.tmp 85) (.tmp 88))),aa 5 89]) (.skip)) <|
  ak [aa 90 5,aa 91 7,aa 92 5,aa 93 7,aP 94 2 92 93,av 95 1 94,au 96 95,aa 97 11,aa 98 12,((some 99),.op (.build [(.val (.int .i64 0)),(.val (.int .i64 0))] [(0,1,(.tmp 97)),(1,1,(.tmp 98))])),((some 100),.op (.bC 1 2 [(.val (.int .i64 0)),(.val (.int .i64 0))] [(0,(.tmp 99))])),((some 101),.op (.app 2 16 (.tmp 96) (.tmp 100))),aP 102 2 90 91,av 103 1 102,(none,.op (.store 1 (.tmp 103) (.tmp 101)))])) <|
  ak [aA 104 .add 48 1,aa 48 104]
def tq:SC :=
  .seq (.seq (ak [aa 26 7,aa 27 5,aJ 28 27,aN 29 .lss 26 28]) <|
  .cond (.tmp 29) (.skip) (.exit 0)) <|
  .seq (.block 1 (.seq (.region true [⟨none,[aK 32 4 1,aK 33 4 1,aa 34 5,aa 35 7,aP 36 2 34 35,av 37 0 36,au 38 37,aI 39 56 [33,38],aI 40 63 [32,39],aa 8 40]⟩]) <|
  .seq (.seq (ak [av 41 0 1,au 42 41,aJ 43 42,av 44 1 1,au 45 44,aJ 46 45,aN 47 .add 43 46,aF 48 0]) <|
  .block 2 (.loop th)) <|
  .seq (ak [aa 105 5,aJ 106 105,aA 107 .gtr 106 300]) <|
  .cond (.tmp 107) (.seq (ak [((some 2),.op (.bm (.val (.emp 1)))),aF 3 5]) <|
  .ret) (.skip))) <|
  ak [aa 30 7,aA 31 .add 30 1,aa 7 31]
def wX:SF:=⟨.seq (ak [bZ 1 0,((some 2),.op (.bm (.val (.emp 1)))),aF 3 0]) <|
  .seq (.seq (ak [aK 14 4 1,aI 15 61 [14],b6 16 15]) <|
  .cond (.tmp 16) (.seq (ak [((some 2),.op (.bm (.val (.emp 1)))),aF 3 1]) <|
  .ret) (.skip)) <|
  .seq (ak [((some 17),.op (.build [(.val (.int .i64 0)),(.val (.int .i64 0))] [(0,1,(.val (.val (.int .i64 (-1)))))])),((some 18),.op (.bC 1 2 [(.val (.int .i64 0)),(.val (.int .i64 0))] [(0,(.tmp 17))])),aa 4 18]) <|
  .seq (ak [aa 19 4,((some 20),.op (.build [(.emp 1),(.emp 1)] [(0,1,(.tmp 19))])),((some 21),.op (.bC 1 2 [(.emp 1),(.emp 1)] [(0,(.tmp 20))])),aa 5 21]) <|
  .seq (ak [((some 22),.op (.lO)),aa 23 4,aI 24 62 [23],(none,.op (.old (.insert 97 (.tmp 22) (.tmp 24) (.const (.int .i64 0))) 0)),aa 25 22,aa 6 25]) <|
  .seq (.seq (ak [aF 7 0]) <|
  .block 0 (.loop tq)) <|
  .seq (ak [aa 108 5,aa 2 108,aF 3 0]) <|
  .ret,
  [.tmp 2,.tmp 3],109⟩
theorem Be:bf Tryz.prog 24 [1]=some wX:=by kernel_rfl
def Q0 (g:ao) (m:Nat) (T:Env) (H:View):Prop:=∃ (at_:Nat) (u:V) (S:List m3) (out:List bt) (q c:Nat) (M:cm (List UInt8)),m+at_=302∧out=S.map (fun x=>x.2.2)∧bg H ((u,2,dW S) :: kj S)∧dO g at_ 0 out∧1≤out.length∧out.length≤300∧gB g m at_ out=dQ g∧at_≤out.length ∧
  H q=.map (bR fY M) c∧pw g out M∧T 1=.aR (aw g) 0∧T 5=u∧T 6=.mp q∧T 7=gi at_
set_option maxHeartbeats 32000000 in
theorem JJ (g:ao) (hg:g.Ok) (hsm:g.Small):dE Tryz.prog 24 [.agg (aw g)] (.bu [dZ (dQ g).1,gi (dQ g).2]):=by
  refine dE.of (eN g) ?_
  have hIs:=F5 g hg hsm
  refine aC.of mixed Be ?_
  simp only[aw,encS] at hIs
  simp (disch:=omega) only [↓wr,↓reduceIte,wq,ah,ag,aj,ab,ae,af,ai,isNil,Nat.reduceEqDiff,Nat.reduceAdd,Nat.reduceLT,Nat.reduceLeDiff,Int.reduceNeg,Int.reduceToNat,reduceCtorEq,wX,aw,encS]
  refine aG.pure hIs (by kernel_rfl) ?_
  simp (disch:=omega) only [↓wr,↓reduceIte,wq,ah,ag,aj,ab,ae,af,ai,isNil,Nat.reduceEqDiff,Nat.reduceAdd,Nat.reduceLT,Nat.reduceLeDiff,Int.reduceNeg,Int.reduceToNat,reduceCtorEq]
  refine ax.split (fun hr=>?_) (fun hr=>?_)
  rotate_left
  · simp (disch:=omega) only [↓wr,↓reduceIte,wq,ah,ag,aj,ab,ae,af,ai,isNil,Nat.reduceEqDiff,Nat.reduceAdd,Nat.reduceLT,Nat.reduceLeDiff,Int.reduceNeg,Int.reduceToNat,reduceCtorEq]
    intro h' _
    have e:dQ g=([],1):=by unfold dQ; rw[if_neg (by rw[hr]; simp)]
    rw[e]
    exact qh (.emp _)
  have hf:g.dH:=uK hr
  have e0:gB g 302 0 fe=dQ g:=by unfold dQ; rw[if_pos hr]
  have hT:=hf.az; have hN:=hf.ay
  simp (disch:=omega) only [↓wr,↓reduceIte,wq,ah,ag,aj,ab,ae,af,ai,isNil,Nat.reduceEqDiff,Nat.reduceAdd,Nat.reduceLT,Nat.reduceLeDiff,Int.reduceNeg,Int.reduceToNat,reduceCtorEq]
  intro q1 q2 hq2 q3 hq3
  have hst1:c4 g ⟨-1,0⟩:=(rX (g:=g)).bo ⟨[⟨-1,0⟩],[]⟩ (by simp[fe]) |>.2.2 _ (by simp)
  have o0:bg (((View.set (fun _=>bM.dead) q1 (.arr 2 [[gi (-1),gi 0]])).set q2 (.arr 2 [[.sl q1 0 1 2,.emp 1]]))) ((.sl q2 0 1 2,2,dW [(.sl q1 0 1 2,.emp 1,⟨[⟨-1,0⟩],[]⟩)]) :: kj [(.sl q1 0 1 2,.emp 1,⟨[⟨-1,0⟩],[]⟩)]) :=
    (((bg.nil.emp (k:=1) (sz:=2)).new (n:=q1) rfl 2 [[gi (-1),gi 0]]).new (by simpa [View.set] using hq2) 2 [[.sl q1 0 1 2,.emp 1]])
  have o1:=o0.fresh (n:=q3) (by simpa [View.set] using hq3) (o:=.map [] 0)
  have hm3:((((View.set (fun _=>bM.dead) q1 (.arr 2 [[gi (-1),gi 0]])).set q2 (.arr 2 [[.sl q1 0 1 2,.emp 1]])).set q3 (.map [] 0))) q3=.map (bR fY []) 0:=by simp[View.set,bR]
  generalize (((View.set (fun _=>bM.dead) q1 (.arr 2 [[gi (-1),gi 0]])).set q2 (.arr 2 [[.sl q1 0 1 2,.emp 1]])).set q3 (.map [] 0))=H3 at o1 hm3 ⊢
  clear o0 hq2 hq3
  have ok1:aQ H3 (.sl q1 0 1 2) 2 (aS [⟨-1,0⟩]):=o1.1 _ (List.mem_cons_of_mem _ (List.mem_cons_self ..))
  refine aG.jR ((Em g hf [⟨-1,0⟩] (fun x hx=>by simp at hx; subst hx; exact hst1) (by simp) (.sl q1 0 1 2) H3 ok1).mono ?_)
  rintro r H4 ⟨rfl,k4⟩
  have hm4:H4 q3=.map (bR fY []) 0:=by rw[k4 q3 (by rw[hm3]; simp),hm3]
  simp (disch:=omega) only [↓wr,↓reduceIte,wq,ah,ag,aj,ab,ae,af,ai,isNil,Nat.reduceEqDiff,Nat.reduceAdd,Nat.reduceLT,Nat.reduceLeDiff,Int.reduceNeg,Int.reduceToNat,reduceCtorEq,OU]
  refine s8 (kt:=9) (et:=3) (by kernel_rfl) (Eb Tryz.underlying9) (id:=q3) (c:=0) (m:=[]) (k:=eY [⟨-1,0⟩]) (v:=gi 0) (by simp (disch:=omega) only [↓wr,↓reduceIte,wq,ah,ag,aj,ab,ae,af,ai,isNil,Nat.reduceEqDiff,Nat.reduceAdd,Nat.reduceLT,Nat.reduceLeDiff,Int.reduceNeg,Int.reduceToNat,reduceCtorEq]) (by simp (disch:=omega) only [↓wr,↓reduceIte,wq,ah,ag,aj,ab,ae,af,ai,isNil,Nat.reduceEqDiff,Nat.reduceAdd,Nat.reduceLT,Nat.reduceLeDiff,Int.reduceNeg,Int.reduceToNat,reduceCtorEq]) rfl hm4 ?_
  intro c'
  have hN0:pw g fe (bV (eY [⟨-1,0⟩]) (gi 0) 0 []):=pw.put (out:=[]) hf (fun l _=>by simp[getM,findD]) (fun x hx=>by simp at hx; subst hx; exact hst1) (by simp[findD]) 0
  have o2:=(o1.stay k4).wW hm4 (o:=.map (bR fY (bV (eY [⟨-1,0⟩]) (gi 0) 0 [])) c')
  have hm5:(H4.set q3 (.map (bR fY (bV (eY [⟨-1,0⟩]) (gi 0) 0 [])) c')) q3=.map (bR fY (bV (eY [⟨-1,0⟩]) (gi 0) 0 [])) c':=by simp[View.set]
  generalize H4.set q3 (.map (bR fY (bV (eY [⟨-1,0⟩]) (gi 0) 0 [])) c')=H5 at o2 hm5 ⊢
  clear hm4 hm3 k4 ok1 o1
  clear H4 H3
  simp (disch:=omega) only [↓wr,↓reduceIte,wq,ah,ag,aj,ab,ae,af,ai,isNil,Nat.reduceEqDiff,Nat.reduceAdd,Nat.reduceLT,Nat.reduceLeDiff,Int.reduceNeg,Int.reduceToNat,reduceCtorEq]
  refine bz.intro (Q0 g) 302 ⟨0,_,_,fe,q3,c',_,rfl,rfl,o2,rX,Nat.le_refl _,by simp[fe],e0,by omega,hm5,hN0,rfl,rfl,rfl,rfl⟩ ?_
  clear o2 hm5 hN0
  clear H5 q1 q2 q3 c'
  rintro m T H ⟨at_,u,S,out,q,c,M,hm,rfl,ho,hI,h1,h300,hl,hle,hmq,hNM,t1,t5,t6,t7⟩
  have hlu:cq u=some S.length:=by rw[ho.head.len,cF]
  simp only[List.length_map] at h1 h300 hle
  simp (disch:=omega) only [↓wr,↓reduceIte,wq,ah,ag,aj,ab,ae,af,ai,isNil,Nat.reduceEqDiff,Nat.reduceAdd,Nat.reduceLT,Nat.reduceLeDiff,Int.reduceNeg,Int.reduceToNat,reduceCtorEq,tq,t1,t5,t6,t7,hlu]
  refine ax.dec (fun hc=>?_) (fun hc=>?_)
  rotate_left
  · simp (disch:=omega) only [↓wr,↓reduceIte,wq,ah,ag,aj,ab,ae,af,ai,isNil,Nat.reduceEqDiff,Nat.reduceAdd,Nat.reduceLT,Nat.reduceLeDiff,Int.reduceNeg,Int.reduceToNat,reduceCtorEq,t5]
    have e1:dQ g=(S.map (fun x=>x.2.2),0):=by
      rw[← hl]
      cases m with
      | zero=>rfl
      | succ m=>rw[gB,if_neg (by simp; omega)]
    rw[e1]
    rintro h' rfl
    exact qh (BG ho.head fun x hx=>⟨ho.1 _ (List.mem_cons_of_mem _ (lA hx).1),ho.1 _ (List.mem_cons_of_mem _ (lA hx).2)⟩)
  obtain ⟨m,rfl⟩:∃ q,m=q+1:=⟨m - 1,by omega⟩
  have hat:at_ < S.length:=by omega
  obtain ⟨S1,x,S2,rfl,hS1,hx⟩:=tX hat
  have hxm:x∈S1 ++ x :: S2:=by simp
  obtain ⟨hk1,hk2,hk3⟩:=hI.bo x.2.2 (List.mem_map_of_mem hxm)
  have hkl:=gT hf hk1 hk3
  have hh:aQ H u 2 (dW (S1 ++ x :: S2)):=ho.head
  obtain ⟨id,hu,hid⟩:=hh.sl (by rw[cF]; omega)
  have hgx:(dW (S1 ++ x :: S2)).getD at_ []=[x.1,x.2.1]:=by simp[dW,List.getD_eq_getElem?_getD,← hS1]
  have hcl:cM g ((List.map (fun x=>x.2.2) (S1 ++ x :: S2)).getD at_ cg).bo=cM g x.2.2.bo:=by
    rw[List.getD_eq_getElem?_getD,List.getElem?_map,hx]; rfl
  have hrow:=fun n hn=>dO.row (hI.sC hf (show at_ < ((S1 ++ x :: S2).map fun x=>x.2.2).length by simpa using hat)).1 (hI.sC hf (show at_ < ((S1 ++ x :: S2).map fun x=>x.2.2).length by simpa using hat)).2 hI n hn
  rw[gB,if_pos (by simpa using hat),Fm] at hl
  rw[hcl] at hl hrow
  have hcs:=p8 g x.2.2.bo
  have hch:∀ y∈cM g x.2.2.bo,c4 g y:=fun y hy=>((rl hf hk3).1 hy).has hk3
  rw[cF] at hu
  simp (disch:=omega) only [↓wr,↓reduceIte,wq,ah,ag,aj,ab,ae,af,ai,isNil,Nat.reduceEqDiff,Nat.reduceAdd,Nat.reduceLT,Nat.reduceLeDiff,Int.reduceNeg,Int.reduceToNat,reduceCtorEq,t1,t5,t7,hu,hid,hgx,aw,encS]
  refine ⟨by omega,by rw[cF]; omega,?_⟩
  refine aG.HO (Gu g hf x.2.2.bo hk3 (by omega) x.1 H (ho.1 _ (List.mem_cons_of_mem _ (lA hxm).1))) ?_
  intro r H2 or fr
  simp (disch:=omega) only [↓wr,↓reduceIte,wq,ah,ag,aj,ab,ae,af,ai,isNil,Nat.reduceEqDiff,Nat.reduceAdd,Nat.reduceLT,Nat.reduceLeDiff,Int.reduceNeg,Int.reduceToNat,reduceCtorEq,aw,encS]
  have hcl':=gT hf hcs hch
  refine aG.still (L4 g hf (cM g x.2.2.bo) hch (by omega) r H2 or) (fun r H' h=>by obtain ⟨q,A,_,h⟩:=h; exact h.old) ?_
  rintro r2 H6 ⟨q',A,rfl,hMv⟩
  have hfr:∀ id,H id≠.dead→H6 id=H id:=fun id hid=>by rw[hMv.old id (by rw[(fr id hid).1]; exact hid),(fr id hid).1]
  have hmq6:H6 q=.map (bR fY M) c:=by rw[hfr q (by rw[hmq]; simp),hmq]
  have o6:bg H6 ((u,2,dW (S1 ++ x :: S2)) :: (kj (S1 ++ x :: S2) ++ gO g (cM g x.2.2.bo) (A.filter fun y=>decide (((0:Nat):Int)≤y.1)))):=by
    have hA:A.filter (fun y=>decide (((0:Nat):Int)≤y.1))=A:=List.filter_eq_self.2 fun y hy=>by simpa using (hMv.ne y hy).1
    rw[hA]
    refine (ho.stay hfr).join (M:=gO g (cM g x.2.2.bo) A) hMv.own fun a ha b hb id h1 h2=>?_
    obtain ⟨y,hy,rfl⟩:=List.mem_map.1 hb
    have h3:=hMv.new y hy id h2
    have h4:=ho.live ha h1
    rw[(fr id h4).1] at h3
    exact h4 h3
  obtain ⟨cA,hmA⟩:=hMv.mp
  have hAnd:=hMv.nd
  have hqq:q'≠q:=by
    rintro rfl
    have:=hMv.q0
    rw[(fr _ (by rw[hmq]; simp)).1,hmq] at this; simp at this
  have hAval:∀ k:Nat,(getM A (k:Int)=none→bc g (cM g x.2.2.bo) (aU g k)=[]):=fun k h=>Decidable.byContradiction fun hne=>getM_none.1 h (hMv.all k hne)
  clear or fr hid hgx hcl hx hfr hMv hmq
  generalize cM g x.2.2.bo=cl at *
  generalize hout0:(S1 ++ x :: S2).map (fun x=>x.2.2)=out0 at *
  have hol:out0.length=(S1 ++ x :: S2).length:=by rw[← hout0]; simp
  simp (disch:=omega) only [↓wr,↓reduceIte,wq,ah,ag,aj,ab,ae,af,ai,isNil,Nat.reduceEqDiff,Nat.reduceAdd,Nat.reduceLT,Nat.reduceLeDiff,Int.reduceNeg,Int.reduceToNat,reduceCtorEq,t1,t5,t6,t7,aw,encS]
  refine bz.up (g.az.length+g.ay.length) (fun i T H'=>∃ (u:V) (S:List m3) (M:cm (List UInt8)) (c:Nat),S.map (fun x=>x.2.2)=(List.range i).foldl (cX g cl at_) out0∧bg H' ((u,2,dW S) :: (kj S ++ gO g cl (A.filter fun y=>decide (((i:Nat):Int)≤y.1)))) ∧
    H' q'=.map (bR (Value.int .i64) A) cA∧H' q=.map (bR fY M) c∧pw g (S.map fun x=>x.2.2) M∧T 1=.aR (aw g) 0∧T 5=u∧T 6=.mp q∧T 7=gi at_∧T 8=.mp q'∧T 47=gi ((g.az.length+g.ay.length:Nat):Int)∧T 48=gi i)
    ⟨u,_,M,c,hout0,o6,hmA,hmq6,by rw[hout0]; exact hNM,t1,by rw[← hu]; exact t5,t6,t7,rfl,?_,rfl⟩ ?_
  · push_cast; rfl
  rw[← hol] at h1 h300 hle hat
  clear o6 ho hh hu t1 t5 t6 t7 hlu hout0 hxm hol hc hk1 hk2 hk3 hkl hS1 hmA hmq6 hNM
  clear u H H2 H6 T id S1 x S2 M c r
  rintro i k T H' hk ⟨u,S,M,c,hA,ho,hmA,hmq,hNM,t1,t5,t6,t7,t8,t47,t48⟩
  obtain ⟨iI,il1,il2⟩:=hrow i (by omega)
  rw[← hA] at iI il1 il2
  rw[List.length_map] at il1 il2
  have hlu:cq u=some S.length:=by rw[ho.head.len,cF]
  simp (disch:=omega) only [↓wr,↓reduceIte,wq,ah,ag,aj,ab,ae,af,ai,isNil,Nat.reduceEqDiff,Nat.reduceAdd,Nat.reduceLT,Nat.reduceLeDiff,Int.reduceNeg,Int.reduceToNat,reduceCtorEq,th,t1,t5,t6,t7,t8,t47,t48]
  refine ax.dec (fun hc=>?_) (fun hc=>?_)
  rotate_left
  · have hi:i=g.az.length+g.ay.length:=by omega
    subst hi
    rw[← hA] at hl
    simp (disch:=omega) only [↓wr,↓reduceIte,wq,ah,ag,aj,ab,ae,af,ai,isNil,Nat.reduceEqDiff,Nat.reduceAdd,Nat.reduceLT,Nat.reduceLeDiff,Int.reduceNeg,Int.reduceToNat,reduceCtorEq,t1,t5,t6,t7,hlu]
    refine ax.dec (fun h3=>?_) (fun h3=>?_)
    · simp (disch:=omega) only [↓wr,↓reduceIte,wq,ah,ag,aj,ab,ae,af,ai,isNil,Nat.reduceEqDiff,Nat.reduceAdd,Nat.reduceLT,Nat.reduceLeDiff,Int.reduceNeg,Int.reduceToNat,reduceCtorEq]
      intro h' _
      rw[if_pos (by rw[List.length_map]; omega)] at hl
      rw[← hl]
      exact qh (.emp _)
    · simp (disch:=omega) only [↓wr,↓reduceIte,wq,ah,ag,aj,ab,ae,af,ai,isNil,Nat.reduceEqDiff,Nat.reduceAdd,Nat.reduceLT,Nat.reduceLeDiff,Int.reduceNeg,Int.reduceToNat,reduceCtorEq,t1,t5,t6,t7]
      rw[if_neg (by rw[List.length_map]; omega)] at hl
      exact ⟨m,by omega,at_+1,u,S,_,q,c,M,by omega,rfl,ho.sub (List.Sublist.cons_cons _ (List.sublist_append_left _ _)),iI.next,by rw[List.length_map]; omega,by rw[List.length_map]; omega,hl,by rw[List.length_map]; omega,hmq,hNM,t1,t5,t6,rfl⟩
  have hcN:i < g.az.length+g.ay.length:=by omega
  have hsb:=Bc hf hcN
  have hstep:(List.range (i+1)).foldl (cX g cl at_) out0=cX g cl at_ (S.map fun x=>x.2.2) i:=by rw[List.range_succ,List.foldl_append,← hA]; rfl
  have hval:aQ H' ((getM A (i:Int)).getD (.emp 1)) 2 (aS (bc g cl (aU g i))):=by
    cases hg:getM A (i:Int) with
    | none=>rw[hAval i hg]; exact .nil
    | some v =>
      obtain ⟨b,hp⟩:=FU hAnd hg
      refine ho.1 (v,2,aS (bc g cl (aU g i))) (List.mem_cons_of_mem _ (List.mem_append_right _ (List.mem_map.2 ⟨((i:Int),v,b),hp.mem_iff.2 (by simp),?_⟩)))
      simp
  have hsub:(gO g cl (A.filter fun y=>decide (((i+1:Nat):Int)≤y.1))).Sublist (gO g cl (A.filter fun y=>decide (((i:Nat):Int)≤y.1))):=by
    have:A.filter (fun y=>decide (((i+1:Nat):Int)≤y.1))=(A.filter (fun y=>decide (((i:Nat):Int)≤y.1))).filter (fun y=>decide (((i+1:Nat):Int)≤y.1)):=by
      rw[List.filter_filter]
      refine List.filter_congr fun y _=>?_
      rw[← Bool.decide_and,decide_eq_decide]; omega
    rw[this]
    exact (List.filter_sublist).map _
  simp (disch:=omega) only [↓wr,↓reduceIte,wq,ah,ag,aj,ab,ae,af,ai,isNil,Nat.reduceEqDiff,Nat.reduceAdd,Nat.reduceLT,Nat.reduceLeDiff,Int.reduceNeg,Int.reduceToNat,reduceCtorEq,t8,t48]
  refine xK (kt:=3) (et:=27) (z:=.emp 1) (by kernel_rfl) (by kernel_rfl) (jG .i64 Tryz.underlying3) (id:=q') (c:=cA) (m:=A) (k:=(i:Int)) (by simp (disch:=omega) only [↓wr,↓reduceIte,wq,ah,ag,aj,ab,ae,af,ai,isNil,Nat.reduceEqDiff,Nat.reduceAdd,Nat.reduceLT,Nat.reduceLeDiff,Int.reduceNeg,Int.reduceToNat,reduceCtorEq]) (by simp (disch:=omega) only [↓wr,↓reduceIte,wq,ah,ag,aj,ab,ae,af,ai,isNil,Nat.reduceEqDiff,Nat.reduceAdd,Nat.reduceLT,Nat.reduceLeDiff,Int.reduceNeg,Int.reduceToNat,reduceCtorEq]) hmA ?_
  simp (disch:=omega) only [↓wr,↓reduceIte,wq,ah,ag,aj,ab,ae,af,ai,isNil,Nat.reduceEqDiff,Nat.reduceAdd,Nat.reduceLT,Nat.reduceLeDiff,Int.reduceNeg,Int.reduceToNat,reduceCtorEq]
  refine aG.jR ((KO (Di (aU g i) hcs) (by have:=qv (g:=g) (l:=cl) (s:=aU g i); omega) _ H' hval).mono ?_)
  rintro r _ ⟨rfl,or,hreq⟩
  have hml:=qv (g:=g) (l:=cl) (s:=aU g i)
  have hmh:=Ex (s:=aU g i) hch
  have hl9:cq r=some (bc g cl (aU g i)).length:=by rw[or.len,bB]
  simp (disch:=omega) only [↓wr,↓reduceIte,wq,ah,ag,aj,ab,ae,af,ai,isNil,Nat.reduceEqDiff,Nat.reduceAdd,Nat.reduceLT,Nat.reduceLeDiff,Int.reduceNeg,Int.reduceToNat,reduceCtorEq,hl9]
  refine ax.eq (fun he=>?_) (fun he=>?_)
  · have hnil:bc g cl (aU g i)=[]:=List.length_eq_zero_iff.1 (by omega)
    simp (disch:=omega) only [↓wr,↓reduceIte,wq,ah,ag,aj,ab,ae,af,ai,isNil,Nat.reduceEqDiff,Nat.reduceAdd,Nat.reduceLT,Nat.reduceLeDiff,Int.reduceNeg,Int.reduceToNat,reduceCtorEq,t1,t5,t6,t7,t8,t47,t48]
    exact bq hk (by omega) ⟨u,S,M,c,by rw[hstep,cX,if_pos hnil],ho.sub (List.Sublist.cons_cons _ (hsub.append_left _)),hmA,hmq,hNM,t1,t5,t6,t7,t8,t47,rfl⟩
  have hne:bc g cl (aU g i)≠[]:=fun e=>he (by rw[e]; rfl)
  have hgs:∃ v,getM A (i:Int)=some v:=by
    cases hg:getM A (i:Int) with
    | none=>exact absurd (hAval i hg) hne
    | some v=>exact ⟨v,rfl⟩
  obtain ⟨v,hg⟩:=hgs
  have hrv:=hreq hne
  rw[hg] at hrv
  simp only[Option.getD_some] at hrv
  obtain ⟨b,hperm⟩:=FU hAnd hg
  have hperm2:(gO g cl (A.filter fun y=>decide (((i:Nat):Int)≤y.1))).Perm ((r,2,aS (bc g cl (aU g i))) :: gO g cl (A.filter fun y=>decide (((i+1:Nat):Int)≤y.1))):=by
    have:=hperm.map (fun x:Int × V × Nat=>((x.2.1,2,aS (bc g cl (aU g x.1.toNat))):ew))
    simp only[List.map_cons,Int.toNat_natCast] at this
    rw[hrv]; exact this
  have hfl:=ur (S.map fun x=>x.2.2) (bc g cl (aU g i))
  have hfg:=qC (S.map fun x=>x.2.2) (bc g cl (aU g i))
  rw[List.length_map] at hfl
  have hNk:=hNM (bc g cl (aU g i)) hmh
  have hat2:at_ < S.length:=by omega
  obtain ⟨S1,x,S2,hSs,hS1,hx⟩:=tX hat2
  have hxe:x.2.2.bT.length≤40:=(iI.bT at_ x.2.2 (by rw[List.getElem?_map,hx]; rfl)).1
  have hgx:∀ B,(dW (S1 ++ x :: B)).getD at_ []=[x.1,x.2.1]:=fun B=>by simp[dW,List.getD_eq_getElem?_getD,← hS1]
  have hput:∀ (B:List m3) (c:fh),((S1 ++ x :: B).map fun x=>x.2.2).modify at_ (fun s=>(⟨s.bo,s.bT ++ [c]⟩:bt))=(S1 ++ (x.1,x.2.1,(⟨x.2.2.bo,x.2.2.bT ++ [c]⟩:bt)) :: B).map fun x=>x.2.2:=fun B c=>by
    rw[List.map_append,List.map_cons,← hS1,← List.length_map (f:=fun x:m3=>x.2.2),zG,List.map_append,List.map_cons]
  simp (disch:=omega) only [↓wr,↓reduceIte,wq,ah,ag,aj,ab,ae,af,ai,isNil,Nat.reduceEqDiff,Nat.reduceAdd,Nat.reduceLT,Nat.reduceLeDiff,Int.reduceNeg,Int.reduceToNat,reduceCtorEq,t1,t5,t6,t7,t8,aw,encS]
  refine ax.dec (fun hge=>?_) (fun hge=>?_)
  simp (disch:=omega) only [↓wr,↓reduceIte,wq,ah,ag,aj,ab,ae,af,ai,isNil,Nat.reduceEqDiff,Nat.reduceAdd,Nat.reduceLT,Nat.reduceLeDiff,Int.reduceNeg,Int.reduceToNat,reduceCtorEq,t1,t5,t6,t7,t8,aw,encS]
  have hs:aU g i=(g.az.length:Int) - 1 - i:=by unfold aU; rw[if_neg (by omega)]; omega
  generalize (g.az.length:Int) - 1 - (i:Int)=sv at hs ⊢
  rotate_left
  simp (disch:=omega) only [↓wr,↓reduceIte,wq,ah,ag,aj,ab,ae,af,ai,isNil,Nat.reduceEqDiff,Nat.reduceAdd,Nat.reduceLT,Nat.reduceLeDiff,Int.reduceNeg,Int.reduceToNat,reduceCtorEq,t1,t5,t6,t7,t8,aw,encS]
  have hs:aU g i=(i:Int):=by unfold aU; rw[if_pos (by omega)]
  generalize ((i:Nat):Int)=sv at hs ⊢
  all_goals (
    refine aG.jR ((Em g hf (bc g cl (aU g i)) hmh (by omega) r H' or).mono ?_)
    rintro rk H3 ⟨rfl,k3⟩
    have hmq3:H3 q=.map (bR fY M) c:=by rw[k3 q (by rw[hmq]; simp),hmq]
    have hmA3:H3 q'=.map (bR (Value.int .i64) A) cA:=by rw[k3 q' (by rw[hmA]; simp),hmA]
    have o3:=ho.stay k3
    have or3:aQ H3 r 2 (aS (bc g cl (aU g i))):=or.keep fun id hid=>k3 id (by rw[(or.live hid).1]; simp)
    simp (disch:=omega) only [↓wr,↓reduceIte,wq,ah,ag,aj,ab,ae,af,ai,isNil,Nat.reduceEqDiff,Nat.reduceAdd,Nat.reduceLT,Nat.reduceLeDiff,Int.reduceNeg,Int.reduceToNat,reduceCtorEq,t6]
    refine Nx (kt:=9) (et:=3) (z:=gi 0) (by kernel_rfl) (by kernel_rfl) (Eb Tryz.underlying9) (id:=q) (c:=c) (m:=M) (k:=eY (bc g cl (aU g i))) (by simp (disch:=omega) only [↓wr,↓reduceIte,wq,ah,ag,aj,ab,ae,af,ai,isNil,Nat.reduceEqDiff,Nat.reduceAdd,Nat.reduceLT,Nat.reduceLeDiff,Int.reduceNeg,Int.reduceToNat,reduceCtorEq]) (by simp (disch:=omega) only [↓wr,↓reduceIte,wq,ah,ag,aj,ab,ae,af,ai,isNil,Nat.reduceEqDiff,Nat.reduceAdd,Nat.reduceLT,Nat.reduceLeDiff,Int.reduceNeg,Int.reduceToNat,reduceCtorEq]) hmq3 ?_
    by_cases hneg:findD (S.map fun x=>x.2.2) (bc g cl (aU g i)) < 0
    rw[if_pos hneg] at hNk
    rw[hNk]
    simp only[Option.getD_none,Option.isSome_none]
    simp (disch:=omega) only [↓wr,↓reduceIte,wq,ah,ag,aj,ab,ae,af,ai,isNil,Nat.reduceEqDiff,Nat.reduceAdd,Nat.reduceLT,Nat.reduceLeDiff,Int.reduceNeg,Int.reduceToNat,reduceCtorEq,t1,t5,t6,t7,t8,hlu]
    refine aG.jR ((Em g hf (bc g cl (aU g i)) hmh (by omega) r H3 or3).mono ?_)
    rintro rk2 H4 ⟨rfl,k4⟩
    have hmq4:H4 q=.map (bR fY M) c:=by rw[k4 q (by rw[hmq3]; simp),hmq3]
    have hmA4:H4 q'=.map (bR (Value.int .i64) A) cA:=by rw[k4 q' (by rw[hmA3]; simp),hmA3]
    have o4:=o3.stay k4
    simp (disch:=omega) only [↓wr,↓reduceIte,wq,ah,ag,aj,ab,ae,af,ai,isNil,Nat.reduceEqDiff,Nat.reduceAdd,Nat.reduceLT,Nat.reduceLeDiff,Int.reduceNeg,Int.reduceToNat,reduceCtorEq,t6]
    refine s8 (kt:=9) (et:=3) (by kernel_rfl) (Eb Tryz.underlying9) (id:=q) (c:=c) (m:=M) (k:=eY (bc g cl (aU g i))) (v:=gi S.length) (by simp (disch:=omega) only [↓wr,↓reduceIte,wq,ah,ag,aj,ab,ae,af,ai,isNil,Nat.reduceEqDiff,Nat.reduceAdd,Nat.reduceLT,Nat.reduceLeDiff,Int.reduceNeg,Int.reduceToNat,reduceCtorEq]) (by simp (disch:=omega) only [↓wr,↓reduceIte,wq,ah,ag,aj,ab,ae,af,ai,isNil,Nat.reduceEqDiff,Nat.reduceAdd,Nat.reduceLT,Nat.reduceLeDiff,Int.reduceNeg,Int.reduceToNat,reduceCtorEq]) (by simp (disch:=omega) only [↓wr,↓reduceIte,wq,ah,ag,aj,ab,ae,af,ai,isNil,Nat.reduceEqDiff,Nat.reduceAdd,Nat.reduceLT,Nat.reduceLeDiff,Int.reduceNeg,Int.reduceToNat,reduceCtorEq]) hmq4 ?_
    intro c'
    have hN2:pw g ((S1 ++ x :: (S2 ++ [(r,.emp 1,(⟨bc g cl (aU g i),[]⟩:bt))])).map fun x=>x.2.2) (bV (eY (bc g cl (aU g i))) (gi S.length) c M):=by
      have:=pw.put hf hNM hmh hneg c
      rw[List.length_map] at this
      refine this.same ?_
      rw[hSs]; simp
    have hmq5:(H4.set q (.map (bR fY (bV (eY (bc g cl (aU g i))) (gi S.length) c M)) c')) q=.map (bR fY (bV (eY (bc g cl (aU g i))) (gi S.length) c M)) c':=by simp[View.set]
    have hmA5:(H4.set q (.map (bR fY (bV (eY (bc g cl (aU g i))) (gi S.length) c M)) c')) q'=.map (bR (Value.int .i64) A) cA:=by
      simp only[View.set]; rw[if_neg hqq]; exact hmA4
    have o5:=o4.wW hmq4 (o:=.map (bR fY (bV (eY (bc g cl (aU g i))) (gi S.length) c M)) c')
    generalize H4.set q (.map (bR fY (bV (eY (bc g cl (aU g i))) (gi S.length) c M)) c')=H5 at hmq5 hmA5 o5 ⊢
    clear hmq4 hmA4 o4 k4
    generalize bV (eY (bc g cl (aU g i))) (gi S.length) c M=M2 at hN2 hmq5
    simp (disch:=omega) only [↓wr,↓reduceIte,wq,ah,ag,aj,ab,ae,af,ai,isNil,Nat.reduceEqDiff,Nat.reduceAdd,Nat.reduceLT,Nat.reduceLeDiff,Int.reduceNeg,Int.reduceToNat,reduceCtorEq,t1,t5,t6,t7,t8,or.cells,or.kg]
    intro q5 hq5
    simp (disch:=omega) only [↓wr,↓reduceIte,wq,ah,ag,aj,ab,ae,af,ai,isNil,Nat.reduceEqDiff,Nat.reduceAdd,Nat.reduceLT,Nat.reduceLeDiff,Int.reduceNeg,Int.reduceToNat,reduceCtorEq,cy]
    have hnq:∀ b,H5 b≠.dead→b≠q5:=fun b hb e=>hb (by rw[e]; exact hq5)
    refine dK (o5.fresh hq5) (by simp[or.kg,xM]) (by unfold aO; rw[cF]; simp; omega) (by unfold aO; rw[cF]; simp; omega) ?_
    intro u2 H10 o11 l11
    have hmq10:=l11.map (o5.fresh (o:=.arr 2 [[r,.emp 1]]) hq5).head (b:=q) (c:=c') (es:=bR fY M2) (by simp only[View.set]; rw[if_neg (hnq q (by rw[hmq5]; simp)),hmq5])
    have hmA10:=l11.map (o5.fresh (o:=.arr 2 [[r,.emp 1]]) hq5).head (b:=q') (c:=cA) (es:=bR (Value.int .i64) A) (by simp only[View.set]; rw[if_neg (hnq q' (by rw[hmA5]; simp)),hmA5])
    have o12:=(o11.emp (k:=1) (sz:=2)).perm (PL hperm2)
    have hst:cX g cl at_ (S.map fun x=>x.2.2) i=((S1 ++ x :: (S2 ++ [(r,.emp 1,(⟨bc g cl (aU g i),[]⟩:bt))])).map fun x=>x.2.2).modify at_ (fun s=>(⟨s.bo,s.bT ++ [⟨aU g i,(S.length:Int)⟩]⟩:bt)):=by
      rw[cX,if_neg hne,if_pos hneg,List.length_map]
      congr 1
      rw[hSs]; simp
    have o13:bg H10 ((u2,2,dW (S1 ++ x :: (S2 ++ [(r,.emp 1,(⟨bc g cl (aU g i),[]⟩:bt))]))) :: (kj (S1 ++ x :: (S2 ++ [(r,.emp 1,(⟨bc g cl (aU g i),[]⟩:bt))])) ++ gO g cl (A.filter fun y=>decide (((i+1:Nat):Int)≤y.1)))):=by
      have e1:dW (S1 ++ x :: (S2 ++ [(r,.emp 1,(⟨bc g cl (aU g i),[]⟩:bt))]))=dW S ++ [[r,.emp 1]]:=by rw[hSs]; simp[dW]
      have e2:kj (S1 ++ x :: (S2 ++ [(r,.emp 1,(⟨bc g cl (aU g i),[]⟩:bt))]))=kj S ++ [(r,2,aS (bc g cl (aU g i))),(.emp 1,2,[])]:=by rw[hSs]; simp[kj]; rfl
      rw[e1,e2]
      exact o12
    have hBl:(S1 ++ x :: (S2 ++ [(r,V.emp 1,(⟨bc g cl (aU g i),[]⟩:bt))])).length≤400:=by
      have:=congrArg List.length hSs
      simp at this ⊢; omega
    generalize (S2 ++ [(r,V.emp 1,(⟨bc g cl (aU g i),[]⟩:bt))])=B at hst o13 hN2 hBl
    generalize (S.length:Int)=to at hst ⊢
    clear o11 o12 l11 hmq5 hmA5 o5 hnq hq5
    rotate_left
    rw[if_neg hneg] at hNk
    rw[hNk]
    simp only[Option.getD_some,Option.isSome_some]
    simp (disch:=omega) only [↓wr,↓reduceIte,wq,ah,ag,aj,ab,ae,af,ai,isNil,Nat.reduceEqDiff,Nat.reduceAdd,Nat.reduceLT,Nat.reduceLeDiff,Int.reduceNeg,Int.reduceToNat,reduceCtorEq,t1,t5,t6,t7,t8]
    have hst:cX g cl at_ (S.map fun x=>x.2.2) i=((S1 ++ x :: S2).map fun x=>x.2.2).modify at_ (fun s=>(⟨s.bo,s.bT ++ [⟨aU g i,findD (S.map fun x=>x.2.2) (bc g cl (aU g i))⟩]⟩:bt)):=by
      rw[cX,if_neg hne,if_neg hneg,← hSs]
    have o13:=o3.sub (List.Sublist.cons_cons _ (hsub.append_left _))
    have hN2:=hNM
    have hBl:(S1 ++ x :: S2).length≤400:=by rw[← hSs]; omega
    have hmq10:=hmq3
    have hmA10:=hmA3
    generalize H3=H10 at o13 hmq10 hmA10 ⊢
    generalize u=u2 at o13 t5 ⊢
    rw[hSs] at o13 hN2
    generalize findD (S.map fun x=>x.2.2) (bc g cl (aU g i))=to at hst ⊢
    generalize S2=B at hst o13 hN2 hBl
    generalize M=M2 at hmq10 hN2
    generalize c=c' at hmq10
    all_goals (
      obtain ⟨id,hu,hid⟩:=(show aQ H10 u2 2 (dW (S1 ++ x :: B)) from o13.head).sl (by rw[cF]; simp; omega)
      rw[cF] at hu
      rw[xL] at o13
      simp only[List.append_assoc,List.cons_append] at o13
      simp (disch:=omega) only [↓wr,↓reduceIte,wq,ah,ag,aj,ab,ae,af,ai,isNil,Nat.reduceEqDiff,Nat.reduceAdd,Nat.reduceLT,Nat.reduceLeDiff,Int.reduceNeg,Int.reduceToNat,reduceCtorEq,t1,t5,t6,t7,t8,hu,hid,hgx B]
      refine ⟨by simp; omega,by rw[cF]; simp; omega,?_⟩
      intro q2 hq2
      have hnq:∀ b,H10 b≠.dead→b≠q2:=fun b hb e=>hb (by rw[e]; exact hq2)
      simp (disch:=omega) only [↓wr,↓reduceIte,wq,ah,ag,aj,ab,ae,af,ai,isNil,Nat.reduceEqDiff,Nat.reduceAdd,Nat.reduceLT,Nat.reduceLeDiff,Int.reduceNeg,Int.reduceToNat,reduceCtorEq,cy]
      refine dK ((o13.perm DO).fresh hq2) (by simp[aV]) (by unfold aO; simp[kc]; omega) (by unfold aO; simp[kc]; omega) ?_
      intro e2 H11 o14 l14
      have hmq11:=l14.map ((o13.perm DO).fresh (o:=.arr 2 [[gi sv,gi to]]) hq2).head (b:=q) (c:=c') (es:=bR fY M2) (by simp only[View.set]; rw[if_neg (hnq q (by rw[hmq10]; simp)),hmq10])
      have hmA11:=l14.map ((o13.perm DO).fresh (o:=.arr 2 [[gi sv,gi to]]) hq2).head (b:=q') (c:=cA) (es:=bR (Value.int .i64) A) (by simp only[View.set]; rw[if_neg (hnq q' (by rw[hmA10]; simp)),hmA10])
      have hid2:H11 id=.arr 2 (dW (S1 ++ x :: B)):=((o14.own 1 rfl).live (by rw[hu]; rfl)).1
      simp (disch:=omega) only [↓wr,↓reduceIte,wq,ah,ag,aj,ab,ae,af,ai,isNil,Nat.reduceEqDiff,Nat.reduceAdd,Nat.reduceLT,Nat.reduceLeDiff,Int.reduceNeg,Int.reduceToNat,reduceCtorEq,t1,t5,t6,t7,t8,t47,t48,hu,hid2,hgx B,o14.head.cells,o14.head.kg]
      have hset:(dW (S1 ++ x :: B)).set at_ [x.1,e2]=dW (S1 ++ (x.1,e2,(⟨x.2.2.bo,x.2.2.bT ++ [⟨aU g i,to⟩]⟩:bt)) :: B):=by
        rw[← hS1]; simp[dW]
      have hpd:kc (x.2.2.bT ++ [⟨aU g i,to⟩])=kc x.2.2.bT ++ [[gi sv,gi to]]:=by rw[hs]; simp[kc,xW]
      have o15:=o14.perm (.swap _ _ _)
      rw[hu] at o15
      have o16:=((o15.put (es':=dW (S1 ++ (x.1,e2,(⟨x.2.2.bo,x.2.2.bT ++ [⟨aU g i,to⟩]⟩:bt)) :: B)) (by rw[cF,cF]; simp) (by rw[cF])).perm (.swap _ _ _)).perm DO.symm
      rw[← hpd] at o16
      rw[← hu] at o16
      rw[hset]
      have hnid:∀ b c es,H11 b=.map es c→b≠id:=fun b c es hb e=>by rw[e,hid2] at hb; simp at hb
      refine ⟨by simp; omega,by rw[cF]; simp; omega,bq hk (by omega) ⟨u2,_,M2,c',?_,by rw[xL]; simp only[List.append_assoc,List.cons_append]; exact o16,?_,?_,?_,t1,by first | rfl | exact t5 | exact hu.symm,t6,t7,t8,t47,rfl⟩⟩
      · rw[hstep,hst,hput]; simp
      · simp only[View.set]; rw[if_neg (hnid q' _ _ hmA11)]; exact hmA11
      · simp only[View.set]; rw[if_neg (hnid q _ _ hmq11)]; exact hmq11
      · refine hN2.same ?_
        simp))
end Gv
