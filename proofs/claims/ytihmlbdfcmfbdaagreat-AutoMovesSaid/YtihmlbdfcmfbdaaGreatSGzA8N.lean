/-
  Part 14 of the proof: what the machine does and what the functions answer.
  Conditions: those that each lemma names.
-/
import Derived.Test.YtihmlbdfcmfbdaaGreatSGzA8M
set_option linter.unusedSimpArgs false
set_option linter.unusedVariables false
set_option maxRecDepth 100000
namespace Gv
open Go Go.Proofs
def uk:SF:=⟨.seq (al [b6 2 0,((some 4),.op (.bj (.val (.emp 1))))]) <|
  .seq (.seq (al [aa 5 1,ax 6 .eql 5 (-1)]) <|
  .cond (.tmp 6) (.seq (al [ao 7 3 2,aq 8 7,((some 9),.op (.arith .sub (.val (.val (.int .i64 (-1)))) (.tmp 8))),((some 10),.op (.bD 1 1 [(.val (.int .i64 0))] [(0,(.tmp 9))])),aa 4 10]) <|
  .ret) (.skip)) <|
  .seq (al [ao 11 2 2,aq 12 11,aa 13 1,aZ 14 3 12 13,ao 15 1 14,aq 16 15,aa 4 16]) <|
  .ret,
  [.tmp 4],17⟩
theorem zh:bh Tryz.prog 53 [2]=some uk:=by kernel_rfl
def wN:SF:=⟨.seq (al [b6 2 0,b6 3 1,aF 4 0,aV 5 false]) <|
  .seq (.seq (al [aH 7 4 2,ao 8 0 3,aq 9 8,aG 10 53 [7,9],aa 6 10]) <|
  .seq (al [ao 11 1 3,aq 12 11,aa 13 6,aM 14 13,aO 15 .lss 12 14]) <|
  .cond (.tmp 15) (.seq (al [aa 16 6,ao 17 1 3,aq 18 17,aZ 19 1 16 18,aq 20 19,aa 4 20,aV 5 true]) <|
  .ret) (.skip)) <|
  .seq (al [aF 4 0,aV 5 false]) <|
  .ret,
  [.tmp 4,.tmp 5],21⟩
theorem AA:bh Tryz.prog 50 [2,3]=some wN:=by kernel_rfl
def wP:SF:=⟨.seq (al [b6 2 0,aF 4 0]) <|
  .seq (.seq (al [aa 5 1,ax 6 .lss 5 0]) <|
  .cond (.tmp 6) (.seq (al [ao 7 0 2,aq 8 7,aM 9 8,ax 10 .sub 9 1,aa 11 1,aO 12 .sub 10 11,aa 4 12]) <|
  .ret) (.skip)) <|
  .seq (al [aa 13 1,aa 4 13]) <|
  .ret,
  [.tmp 4],14⟩
theorem As:bh Tryz.prog 111 [2]=some wP:=by kernel_rfl
def bN:SF:=⟨.seq (al [((some 2),.op (.bj (.val (.emp 1))))]) <|
  .seq (.seq (al [aa 3 0,((some 4),.op (.nil true 0 (.tmp 3) (.val (.emp 1))))]) <|
  .cond (.tmp 4) (.seq (al [((some 2),.op (.bj (.val (.emp 1))))]) <|
  .ret) (.skip)) <|
  .seq (al [((some 5),.op (.bj (.val (.emp 2)))),aa 6 0,((some 7),.op (.app 2 16 (.tmp 5) (.tmp 6))),aa 2 7]) <|
  .ret,
  [.tmp 2],8⟩
theorem bW:bh Tryz.prog 58 []=some bN:=by kernel_rfl
def pG:SC :=
  .seq (al [aO 54 .lss 53 52]) <|
  .seq (.cond (.tmp 54) (.skip) (.exit 2)) <|
  .seq (.block 3 (.seq (al [aa 55 53,aZ 56 3 51 53,aH 57 3 56,((some 11),.op (.alloc [(.val (.int .i64 0)),(.emp 1),(.val (.int .i64 0))])),aa 10 55,(none,.op (.store 3 (.tmp 11) (.tmp 57)))]) <|
  .seq (al [ao 58 0 11,aq 59 58,aa 60 8,((some 61),.op (.arith .sub (.val (.val (.int .i64 (-1)))) (.tmp 60))),aO 62 .eql 59 61]) <|
  .cond (.tmp 62) (al [aa 63 5,aa 64 10,((some 65),.op (.build [(.val (.int .i64 0)),(.val (.int .i64 0))] [(0,1,(.tmp 64))])),((some 66),.op (.bD 1 2 [(.val (.int .i64 0)),(.val (.int .i64 0))] [(0,(.tmp 65))])),((some 67),.op (.app 2 16 (.tmp 63) (.tmp 66))),aa 5 67]) (.skip))) <|
  al [ax 68 .add 53 1,aa 53 68]
def kj:SC :=
  .seq (.seq (al [aa 18 7,aa 19 5,aM 20 19,aO 21 .lss 18 20]) <|
  .cond (.tmp 21) (.skip) (.exit 0)) <|
  .seq (.block 1 (.seq (al [aH 25 4 2,aa 26 5,aa 27 7,aZ 28 2 26 27,aH 29 2 28,aG 30 50 [25,29],aa 24 30,ct 31 0 24,ct 32 1 24,aa 8 31,aa 9 32]) <|
  .seq (.seq (.region false [⟨none,[aa 33 9,cb 34 33,aa 35 34]⟩,⟨(some (35,false)),[aa 36 8,ax 37 .geq 36 0]⟩,⟨none,[bF 38 35 37,aa 39 38]⟩,⟨(some (39,false)),[aa 40 6,aa 41 8,((some 42),.op (.arith .sub (.val (.val (.int .i64 (-1)))) (.tmp 41))),aZ 43 1 40 42,aq 44 43]⟩,⟨none,[bF 45 39 44]⟩]) <|
  .cond (.tmp 45) (.exit 1) (.skip)) <|
  .seq (al [aa 46 6,aa 47 8,((some 48),.op (.arith .sub (.val (.val (.int .i64 (-1)))) (.tmp 47))),aZ 49 1 46 48,(none,.op (.store 1 (.tmp 49) (.val (.val (.bool true)))))]) <|
  .seq (al [ao 50 2 2,aq 51 50,aM 52 51,aF 53 0]) <|
  .block 2 (.loop pG))) <|
  al [aa 22 7,ax 23 .add 22 1,aa 7 23]
def mF:SF:=⟨.seq (al [b6 2 0,((some 4),.op (.bj (.val (.emp 1))))]) <|
  .seq (al [aa 12 1,aG 13 58 [12],aa 5 13]) <|
  .seq (al [ao 14 1 2,aq 15 14,aM 16 15,((some 17),.op (.make 1 1 [(.val (.bool false))] (.tmp 16) (.tmp 16))),aa 6 17]) <|
  .seq (.seq (al [aF 7 0]) <|
  .block 0 (.loop kj)) <|
  .seq (al [aa 69 5,aG 70 64 [69],aa 4 70]) <|
  .ret,
  [.tmp 4],71⟩
theorem ow:bh Tryz.prog 56 [2]=some mF:=by kernel_rfl
theorem BX (g:an) (hs : -100≤g.start∧g.start≤100) (r:Int) (hr : -1≤r∧r < (g.rules.length:Int)):aC Tryz.prog 53 [.agg (aw g),gi r] (encI (db g r)):=by
  refine aC.of (by
    intro v hv; simp at hv
    rcases hv with rfl | rfl
    · exact cI _ (dr g)
    · exact .val _) ?_
  refine aA.of mixed zh ?_
  unfold db
  simp (disch:=omega) only [↓wr,↓reduceIte,wq,ah,ag,aj,ab,ae,af,ai,isNil,Nat.reduceEqDiff,Nat.reduceAdd,Nat.reduceLT,Nat.reduceLeDiff,Int.reduceNeg,Int.reduceToNat,reduceCtorEq,uk,aw,encS]
  refine au.eq (fun h1=>?_) (fun h1=>?_)
  · simp (disch:=omega) only [↓wr,↓reduceIte,wq,ah,ag,aj,ab,ae,af,ai,isNil,Nat.reduceEqDiff,Nat.reduceAdd,Nat.reduceLT,Nat.reduceLeDiff,Int.reduceNeg,Int.reduceToNat,reduceCtorEq,aw,encS]
    intro n
    rw[if_pos h1]
    rintro h' hv
    refine dx.fr (mE (l:=[-1 - g.start]) (.inr ⟨n,rfl,?_⟩))
    rw[hv]; simp[View.set]
  · have hR:g.rules[r.toNat]?=some (dq g r):=by unfold dq; exact getD_some (by omega)
    rw[if_neg h1]
    generalize dq g r=R at hR
    simp (disch:=omega) only [↓wr,↓reduceIte,wq,ah,ag,aj,ab,ae,af,ai,isNil,Nat.reduceEqDiff,Nat.reduceAdd,Nat.reduceLT,Nat.reduceLeDiff,Int.reduceNeg,Int.reduceToNat,reduceCtorEq,aw,encS,List.getElem?_map,hR,Option.map_some,bm]
    intro h' _
    exact .tree _ (iY R.right)
theorem EJ (g:an) (hf:g.dg) (x:aJ) (hx:cm g x):aC Tryz.prog 50 [.agg (aw g),.agg (bu x)] (.bc [gi (bM g x).1,gb (bM g x).2]):=by
  have h1:=BX g (ln hf) x.aD hx.1
  have hl:=dE hf hx.1
  have hd:=hx.2
  refine aC.tree (by
    intro v hv; simp at hv
    rcases hv with rfl | rfl
    · exact cI _ (dr g)
    · exact cI _ fun v hv=>by simp[bu] at hv; rcases hv with rfl | rfl <;> exact .val _) (.bc _ fun i hi=>by
      match i,hi with
      | 0,_=>exact .val _
      | 1,_=>exact .val _) fun H=>?_
  refine aA.of mixed AA ?_
  simp only[aw,encS,encI] at h1
  unfold bM
  simp (disch:=omega) only [↓wr,↓reduceIte,wq,ah,ag,aj,ab,ae,af,ai,isNil,Nat.reduceEqDiff,Nat.reduceAdd,Nat.reduceLT,Nat.reduceLeDiff,Int.reduceNeg,Int.reduceToNat,reduceCtorEq,wN,aw,encS,bu]
  refine aE.pure h1 (by kernel_rfl) ?_
  generalize db g x.aD=R at hd hl ⊢
  simp (disch:=omega) only [↓wr,↓reduceIte,wq,ah,ag,aj,ab,ae,af,ai,isNil,Nat.reduceEqDiff,Nat.reduceAdd,Nat.reduceLT,Nat.reduceLeDiff,Int.reduceNeg,Int.reduceToNat,reduceCtorEq,bu]
  refine au.dec (fun h2=>?_) (fun h2=>?_)
  · have hg:R[x.dot.toNat]?=some (R.getD x.dot.toNat 0):=getD_some (by omega)
    simp (disch:=omega) only [↓wr,↓reduceIte,wq,ah,ag,aj,ab,ae,af,ai,isNil,Nat.reduceEqDiff,Nat.reduceAdd,Nat.reduceLT,Nat.reduceLeDiff,Int.reduceNeg,Int.reduceToNat,reduceCtorEq,bu,List.getElem?_map,hg,Option.map_some]
    rw[if_neg (by omega)]
  · simp (disch:=omega) only [↓wr,↓reduceIte,wq,ah,ag,aj,ab,ae,af,ai,isNil,Nat.reduceEqDiff,Nat.reduceAdd,Nat.reduceLT,Nat.reduceLeDiff,Int.reduceNeg,Int.reduceToNat,reduceCtorEq]
    rw[if_pos (by omega)]
theorem Lc (g:an) (hf:g.dg) (s:Int) (hs : -1000≤s∧s≤1000):aC Tryz.prog 111 [.agg (aw g),gi s] (gi (jG g s)):=by
  have hT:=hf.av
  refine aC.val (by
    intro v hv; simp at hv
    rcases hv with rfl | rfl
    · exact cI _ (dr g)
    · exact .val _) fun H=>?_
  refine aA.of mixed As ?_
  unfold jG
  simp (disch:=omega) only [↓wr,↓reduceIte,wq,ah,ag,aj,ab,ae,af,ai,isNil,Nat.reduceEqDiff,Nat.reduceAdd,Nat.reduceLT,Nat.reduceLeDiff,Int.reduceNeg,Int.reduceToNat,reduceCtorEq,wP,aw,encS]
  refine au.dec (fun h1=>?_) (fun h1=>?_)
  · simp (disch:=omega) only [↓wr,↓reduceIte,wq,ah,ag,aj,ab,ae,af,ai,isNil,Nat.reduceEqDiff,Nat.reduceAdd,Nat.reduceLT,Nat.reduceLeDiff,Int.reduceNeg,Int.reduceToNat,reduceCtorEq,aw]
    rw[if_pos h1]
  · simp (disch:=omega) only [↓wr,↓reduceIte,wq,ah,ag,aj,ab,ae,af,ai,isNil,Nat.reduceEqDiff,Nat.reduceAdd,Nat.reduceLT,Nat.reduceLeDiff,Int.reduceNeg,Int.reduceToNat,reduceCtorEq]
    rw[if_neg h1]
theorem bw.OB {P:Program} {f:FuncId} {h:aB} {u:V} (hu:∀ Z μ hp x,ay Z μ hp u x→∃ a cap,x=.slice a 0 cap∧(a=none→cap=0)) (h1:bw P f [.emp 1] h (.emp 1) h) (h2:bw P f [.emp 2] h (.emp 2) h) (h3:bw P f [.c8] h (.emp 2) h):bw P f [u] h (.emp 0) h:=by
  refine ⟨Nat.le_refl _,fun Z μ F w xs hrel hr hfree=>?_⟩
  obtain ⟨hl,hv⟩:=hrel
  obtain ⟨x,rfl⟩:∃ x,xs=[x]:=by
    match xs,hl with
    | [x],_=>exact ⟨x,rfl⟩
  have h0:ay Z μ w.heap u x:=hv 0 (by simp)
  have one:∀ v,ay Z μ w.heap v x→dR Z μ w.heap [v] [x]:=fun v h=>⟨rfl,fun i hi=>by
    simp at hi; subst hi; exact h⟩
  have weak:∀ k,bw P f [if k=3 then .c8 else .emp k] h (if k=3 then .emp 2 else .emp k) h→ay Z μ w.heap (if k=3 then .c8 else .emp k) x→Calls P f [x].toArray w fun e w'=>∃ x Z' μ',e=.returned x∧ay Z' μ' w'.heap (.emp 0) x∧fL Z' μ' w'.heap (cat h F)∧Ext Z μ w h.length Z' μ' w'∧(∀ id,id < h.length∨h.length≤id→μ' id=μ id):=by
    intro k hk hx
    refine (hk.2 Z μ F w [x] (one _ hx) hr hfree).mono ?_
    rintro e w' ⟨y,Z',μ',rfl,hy,rest⟩
    refine ⟨y,Z',μ',rfl,?_,rest⟩
    have:∀ k',ay Z' μ' w'.heap (.emp k') y→ay Z' μ' w'.heap (.emp 0) y:=fun k' h=>by
      cases h with | emp _ a _ _=>exact .emp 0 a (by simp) (by simp)
    split at hy <;> exact this _ hy
  obtain ⟨a,cap,rfl,hz⟩:=hu Z μ w.heap x h0
  cases a with
  | none =>
    have:=hz rfl
    subst this
    exact weak 1 (by simpa using h1) (.emp 1 none (by simp) (by simp))
  | some a =>
    cases cap with
    | zero=>exact weak 2 (by simpa using h2) (.emp 2 (some a) (by simp) (by simp))
    | succ c=>exact weak 3 (by simpa using h3) (.c8 a (c+1))
theorem IF {Z:Nat→Prop} {μ:Mu} {hp:Array Obj} {k:Nat} {x:Value} (h:ay Z μ hp (.emp k) x):∃ a cap,x=.slice a 0 cap∧(a=none→cap=0):=by
  cases h with | emp _ a _ _=>exact ⟨a,0,rfl,fun _=>rfl⟩
theorem Jn {Z:Nat→Prop} {μ:Mu} {hp:Array Obj} {id off esz:Nat} {x:Value} (h:ay Z μ hp (.sl id off 0 esz) x):∃ a cap,x=.slice a 0 cap∧(a=none→cap=0):=by
  rcases CU h with ⟨_,a,e⟩ | ⟨b,o0,cap,c,e,f,e2,_⟩
  · exact ⟨a,0,e,fun _=>rfl⟩
  · exact ⟨_,cap,e2,fun h=>by simp at h⟩
theorem w7 (u:V) (hu:∀ Z μ hp x,ay Z μ hp u x→∃ a cap,x=.slice a 0 cap∧(a=none→cap=0)) (h:aB):bw Tryz.prog 58 [u] h (.emp 0) h:=by
  have hp:∀ v t,Tree v→Tree t→(∀ H,aA Tryz.prog 58 [v] H fun r _=>r=t)→aC Tryz.prog 58 [v] t:=fun v t hv ht h=>aC.tree (by intro x hx; simp at hx; subst hx; exact hv) ht h
  have h1:=hp (.emp 1) (.emp 1) (.emp 1) (.emp 1) (fun H=>by
    refine aA.of mixed bW ?_
    simp (disch:=omega) only [↓wr,↓reduceIte,wq,ah,ag,aj,ab,ae,af,ai,isNil,Nat.reduceEqDiff,Nat.reduceAdd,Nat.reduceLT,Nat.reduceLeDiff,Int.reduceNeg,Int.reduceToNat,reduceCtorEq,bN])
  have h2:=hp (.emp 2) (.emp 2) (.emp 2) (.emp 2) (fun H=>by
    refine aA.of mixed bW ?_
    simp (disch:=omega) only [↓wr,↓reduceIte,wq,ah,ag,aj,ab,ae,af,ai,isNil,Nat.reduceEqDiff,Nat.reduceAdd,Nat.reduceLT,Nat.reduceLeDiff,Int.reduceNeg,Int.reduceToNat,reduceCtorEq,bN,gA,List.isEmpty_nil])
  have h3:=hp .c8 (.emp 2) .c8 (.emp 2) (fun H=>by
    refine aA.of mixed bW ?_
    simp (disch:=omega) only [↓wr,↓reduceIte,wq,ah,ag,aj,ab,ae,af,ai,isNil,Nat.reduceEqDiff,Nat.reduceAdd,Nat.reduceLT,Nat.reduceLeDiff,Int.reduceNeg,Int.reduceToNat,reduceCtorEq,bN,mU,gA,List.isEmpty_nil])
  exact bw.OB hu (bw.eT h1 h) (bw.eT h2 h) (bw.eT h3 h)
set_option maxHeartbeats 2000000 in
theorem zw (l:List aJ) (hl:l.length≤100000) (u:V) (H:View) (ho:aN H u 2 (aS l)):aA Tryz.prog 58 [u] H fun r H'=>aN H' r 2 (aS l)∧cz H H' r:=by
  cases l with
  | nil =>
    refine ⟨by kernel_rfl,?_⟩
    rintro h rfl
    refine ⟨.emp 0,h,w7 u (fun Z μ hp x hx=>?_) h,.refl _,.nil,.emp⟩
    rcases ho with ⟨_,k,rfl⟩ | ⟨n,rfl,_⟩
    · exact IF hx
    · exact Jn hx
  | cons x r =>
    obtain ⟨id,hu,hid⟩:=ho.sl (by rw[bb]; simp)
    subst hu
    refine aA.of mixed bW ?_
    have he:=oM (H:=H) id 0 r.length 2 2 (aS (x :: r)) hid (by rw[bb]; simp)
    rw[List.drop_zero,List.take_of_length_le (by rw[bb]; simp)] at he
    simp only[List.length_cons] at hl
    have hlen:(aS (x :: r)).length=r.length+1:=by rw[bb]; rfl
    rw[hlen]
    simp (disch:=omega) only [↓wr,↓reduceIte,wq,ah,ag,aj,ab,ae,af,ai,isNil,Nat.reduceEqDiff,Nat.reduceAdd,Nat.reduceLT,Nat.reduceLeDiff,Int.reduceNeg,Int.reduceToNat,reduceCtorEq,bN,he]
    refine nA (es:=[]) (.inl ⟨rfl,2,rfl⟩) (by simp[aS,bu,List.all_map,aR]) (by unfold aW; rw[hlen]; simp; omega) (by unfold aW; rw[hlen]; simp; omega) ?_
    intro u2 H2 o2 l2
    simp (disch:=omega) only [↓wr,↓reduceIte,wq,ah,ag,aj,ab,ae,af,ai,isNil,Nat.reduceEqDiff,Nat.reduceAdd,Nat.reduceLT,Nat.reduceLeDiff,Int.reduceNeg,Int.reduceToNat,reduceCtorEq]
    refine ⟨by simpa using o2,fun j hj=>?_⟩
    exact l2 j hj (by simp[owner])
def cK (ks:List Nat):List aJ:=ks.map fun (k:Nat)=>(⟨k,0⟩:aJ)
theorem uQ {ks:List Nat} {n:Nat} (h:ks.Nodup) (hk:∀ k∈ks,k < n):ks.length≤n:=by
  have:=kN ks (List.range n) h fun x hx=>List.mem_range.2 (hk x hx)
  simpa using this
theorem JT {l:List Bool} {i:Nat} (h:i < l.length):(cT l).getD i []=[gb (l.getD i false)]:=by
  simp[List.getD_eq_getElem?_getD,h]
structure Kr (g:an) (l:List aJ) (H H':View) (i:Nat) (r su:V) (ks:List Nat) (seen:List Bool):Prop where
  own:bf H' [(r,2,aS (l ++ cK ks)),(su,1,cT seen)]
  f1:cz H H' r
  f2:cz H H' su
  nd:ks.Nodup
  kl:∀ k∈ks,k < g.rules.length
  sl:seen.length=g.az.length
  s1:∀ (n k:Nat) (R:aL),seen.getD n false=true→g.rules[k]?=some R→R.left=n→k∈ks
  s2:∀ (k:Nat) (R:aL),k∈ks→g.rules[k]?=some R→seen.getD R.left.toNat false=true
  cl:∀ x∈l ++ cK ks,n0 g l x
  dn:∀ (j:Nat) (x:aJ) (s:Int),j < i→(l ++ cK ks)[j]?=some x→bM g x=(s,true)→s < 0→seen.getD (-1 - s).toNat false=true
  il:i≤(l ++ cK ks).length
theorem Kr.len {g:an} {l:List aJ} {H H':View} {i:Nat} {r su:V} {ks:List Nat} {seen:List Bool} (h:Kr g l H H' i r su ks seen):ks.length≤g.rules.length∧(l ++ cK ks).length=l.length+ks.length:=by
  refine ⟨uQ h.nd h.kl,by simp[cK]⟩
def Pn (g:an) (l:List aJ) (H:View) (m:Nat) (T:Env) (H':View):Prop:=∃ (i:Nat) (r su:V) (ks:List Nat) (seen:List Bool),m=l.length+g.rules.length - i∧Kr g l H H' i r su ks seen∧T 2=.aU (aw g) 0∧T 5=r∧T 6=su∧T 7=gi i
set_option maxHeartbeats 16000000 in
theorem wC (g:an) (hf:g.dg) (l:List aJ) (hl:∀ x∈l,cm g x) (hn:l.length≤10000) (u:V) (H:View) (ho:aN H u 2 (aS l)):aA Tryz.prog 56 [.agg (aw g),u] H fun r H'=>aN H' r 2 (aS (cn g l))∧cz H H' r:=by
  refine aA.of mixed ow ?_
  have hru:=hf.rules
  have hno:=hf.az
  simp (disch:=omega) only [↓wr,↓reduceIte,wq,ah,ag,aj,ab,ae,af,ai,isNil,Nat.reduceEqDiff,Nat.reduceAdd,Nat.reduceLT,Nat.reduceLeDiff,Int.reduceNeg,Int.reduceToNat,reduceCtorEq,mF,aw,encS]
  refine aE.gF ((zw l (by omega) u H ho).mono ?_)
  rintro r H1 ⟨o1,f1⟩
  simp (disch:=omega) only [↓wr,↓reduceIte,wq,ah,ag,aj,ab,ae,af,ai,isNil,Nat.reduceEqDiff,Nat.reduceAdd,Nat.reduceLT,Nat.reduceLeDiff,Int.reduceNeg,Int.reduceToNat,reduceCtorEq,aw,encS]
  refine ⟨⟨Nat.le_refl _,by unfold aW; omega,by unfold aW; omega⟩,fun h0=>?_,fun h0 q hq=>?_⟩
  · exact absurd (by have:=hf.zM; omega) (show ¬ g.az.length=0 by have:=hf.zM; omega)
  have hst:Kr g l H (H1.set q (.arr 1 (List.replicate g.az.length [gb false]))) 0 r (.sl q 0 g.az.length 1) [] (List.replicate g.az.length false):=by
    have e:List.replicate g.az.length [gb false]=cT (List.replicate g.az.length false):=by simp
    have hr1:bf H1 [(r,2,aS l)]:=⟨fun x hx=>by simp at hx; subst hx; exact o1,by
      cases hr:owner r <;> simp[List.filterMap_cons,hr]⟩
    have hqd:H q=.dead∨H q≠.dead:=by cases H q <;> simp
    have hqH:H q=.dead:=by
      rcases hqd with h | h
      · exact h
      · have:=(f1 q h).1; rw[hq] at this; exact absurd this.symm h
    refine ⟨?_,fun id hid=>?_,fun id hid=>?_,.nil,by simp,by simp,fun n k R h=>?_,by simp,fun x hx=>.base (by simpa [cK] using hx),fun j x s h=>by omega,Nat.zero_le _⟩
    · have h2:=(hr1.new hq 1 (List.replicate g.az.length [gb false])).perm (.swap _ _ _)
      rw[List.length_replicate] at h2
      rw[e] at h2 ⊢
      simpa [cK] using h2
    · have hne:id≠q:=by rintro rfl; exact hid hqH
      exact ⟨by simp only[View.set]; rw[if_neg hne]; exact (f1 id hid).1,(f1 id hid).2⟩
    · have hne:id≠q:=by rintro rfl; exact hid hqH
      exact ⟨by simp only[View.set]; rw[if_neg hne]; exact (f1 id hid).1,by simp[owner,Ne.symm hne]⟩
    · simp only[List.getD_eq_getElem?_getD,List.getElem?_replicate] at h
      split at h <;> simp at h
  generalize H1.set q (.arr 1 (List.replicate g.az.length [gb false]))=H2 at hst ⊢
  refine bK.intro (Pn g l H) (l.length+g.rules.length) ⟨0,r,_,[],_,by omega,hst,rfl,rfl,rfl,rfl⟩ ?_
  clear hst o1 f1 hq
  rintro m T H' ⟨i,r,su,ks,seen,rfl,hI,t2,t5,t6,t7⟩
  obtain ⟨hk1,hk2⟩:=hI.len
  have hlr:cH r=some (l ++ cK ks).length:=by rw[hI.own.head.len,bb]
  simp (disch:=omega) only [↓wr,↓reduceIte,wq,ah,ag,aj,ab,ae,af,ai,isNil,Nat.reduceEqDiff,Nat.reduceAdd,Nat.reduceLT,Nat.reduceLeDiff,Int.reduceNeg,Int.reduceToNat,reduceCtorEq,kj,t2,t5,t6,t7,hlr]
  refine au.dec (fun hc=>?_) (fun hc=>?_)
  rotate_left
  ·
    have hi:i=(l ++ cK ks).length:=by have:=hI.il; omega
    simp (disch:=omega) only [↓wr,↓reduceIte,wq,ah,ag,aj,ab,ae,af,ai,isNil,Nat.reduceEqDiff,Nat.reduceAdd,Nat.reduceLT,Nat.reduceLeDiff,Int.reduceNeg,Int.reduceToNat,reduceCtorEq,t5]
    refine aE.gF ((Ah (l ++ cK ks) (by omega) r H' hI.own.head).mono ?_)
    rintro r2 H3 ⟨k3,o3,e3⟩
    simp (disch:=omega) only [↓wr,↓reduceIte,wq,ah,ag,aj,ab,ae,af,ai,isNil,Nat.reduceEqDiff,Nat.reduceAdd,Nat.reduceLT,Nat.reduceLeDiff,Int.reduceNeg,Int.reduceToNat,reduceCtorEq]
    have hcl:cn g l=vZ (l ++ cK ks):=LG hf hl (zf _) (fun x hx=>hI.cl x (m8.1 hx)) (fun x hx=>m8.2 (by simp[hx])) (fun x hx s k R h1 h2 h3 h4=>by
      obtain ⟨j,hj,e⟩:=List.mem_iff_getElem.1 (m8.1 hx)
      have h5:=hI.dn j x s (by omega) (by rw[List.getElem?_eq_getElem hj,e]) h1 h2
      have h6:=hI.s1 _ k R h5 h3 (by omega)
      exact m8.2 (List.mem_append_right _ (List.mem_map.2 ⟨k,h6,rfl⟩)))
    rw[hcl]
    refine ⟨o3,fun id hid=>?_⟩
    obtain ⟨q1,q2⟩:=hI.f1 id hid
    exact ⟨by rw[k3 id q2,q1],by rw[e3]; exact q2⟩
  have hx:(l ++ cK ks)[i]?=some ((l ++ cK ks)[i]'(by omega)):=List.getElem?_eq_getElem (by omega)
  have hxm:=List.getElem_mem (show i < (l ++ cK ks).length by omega)
  have hdn:=hI.dn
  generalize (l ++ cK ks)[i]'(by omega)=x at hx hxm
  have hxC:=hI.cl x hxm
  have hxH:=hxC.has hl
  have h1:=EJ g hf x hxH
  cases hny:bM g x with
  | mk s okb =>
  have hsb:=y0 hf hxH hny
  rw[hny] at h1
  obtain ⟨id,hu,hid⟩:=hI.own.head.sl (by rw[bb]; omega)
  simp only at hu hid
  rw[bb] at hu
  simp only[aw,encS,bu] at h1
  simp (disch:=omega) only [↓wr,↓reduceIte,wq,ah,ag,aj,ab,ae,af,ai,isNil,Nat.reduceEqDiff,Nat.reduceAdd,Nat.reduceLT,Nat.reduceLeDiff,Int.reduceNeg,Int.reduceToNat,reduceCtorEq,t2,t5,t6,t7,hu,hid,vt hx,aw,encS]
  refine ⟨by omega,by rw[bb]; omega,?_⟩
  refine aE.pure h1 (by kernel_rfl) ?_
  have skip:(okb=true→s < 0→seen.getD (-1 - s).toNat false=true)→Kr g l H H' (i+1) r su ks seen:=fun h =>
    ⟨hI.own,hI.f1,hI.f2,hI.nd,hI.kl,hI.sl,hI.s1,hI.s2,hI.cl,fun j y t hj hy hn h0=>by
      rcases Nat.lt_or_ge j i with q | q
      · exact hI.dn j y t q hy hn h0
      · have:j=i:=by omega
        subst this
        rw[hx] at hy
        simp only[Option.some.injEq] at hy
        subst hy
        rw[hny] at hn
        simp only[Prod.mk.injEq] at hn
        obtain ⟨rfl,rfl⟩:=hn
        exact h rfl h0,by omega⟩
  cases okb with
  | false =>
    simp (disch:=omega) only [↓wr,↓reduceIte,wq,ah,ag,aj,ab,ae,af,ai,isNil,Nat.reduceEqDiff,Nat.reduceAdd,Nat.reduceLT,Nat.reduceLeDiff,Int.reduceNeg,Int.reduceToNat,reduceCtorEq,t2,t5,t6,t7]
    exact ⟨l.length+g.rules.length - (i+1),by omega,i+1,r,su,ks,seen,rfl,skip (by simp),t2,by rw[← hu]; exact t5,t6,rfl⟩
  | true =>
  simp (disch:=omega) only [↓wr,↓reduceIte,wq,ah,ag,aj,ab,ae,af,ai,isNil,Nat.reduceEqDiff,Nat.reduceAdd,Nat.reduceLT,Nat.reduceLeDiff,Int.reduceNeg,Int.reduceToNat,reduceCtorEq]
  refine au.dec (fun h0=>?_) (fun h0=>?_)
  · simp (disch:=omega) only [↓wr,↓reduceIte,wq,ah,ag,aj,ab,ae,af,ai,isNil,Nat.reduceEqDiff,Nat.reduceAdd,Nat.reduceLT,Nat.reduceLeDiff,Int.reduceNeg,Int.reduceToNat,reduceCtorEq,t2,t5,t6,t7]
    exact ⟨l.length+g.rules.length - (i+1),by omega,i+1,r,su,ks,seen,rfl,skip (fun _ h=>by omega),t2,by rw[← hu]; exact t5,t6,rfl⟩
  have hG:=xG hf hxH hny
  have hnl:(-1 - s).toNat < g.az.length:=by
    unfold gY at hG
    rw[if_neg (by omega)] at hG
    simp at hG; omega
  obtain ⟨id2,hu2,hid2⟩:=hI.own.tail.head.sl (by simp[hI.sl]; omega)
  simp only at hu2 hid2
  rw[List.length_map,hI.sl] at hu2
  have hsn:(-1 - s).toNat < seen.length:=by rw[hI.sl]; exact hnl
  simp (disch:=omega) only [↓wr,↓reduceIte,wq,ah,ag,aj,ab,ae,af,ai,isNil,Nat.reduceEqDiff,Nat.reduceAdd,Nat.reduceLT,Nat.reduceLeDiff,Int.reduceNeg,Int.reduceToNat,reduceCtorEq,t6,hu2,hid2,JT hsn]
  refine ⟨by omega,by simp[hI.sl]; omega,?_⟩
  refine au.split (fun h2=>?_) (fun h2=>?_)
  · simp (disch:=omega) only [↓wr,↓reduceIte,wq,ah,ag,aj,ab,ae,af,ai,isNil,Nat.reduceEqDiff,Nat.reduceAdd,Nat.reduceLT,Nat.reduceLeDiff,Int.reduceNeg,Int.reduceToNat,reduceCtorEq,t2,t5,t6,t7]
    exact ⟨l.length+g.rules.length - (i+1),by omega,i+1,r,su,ks,seen,rfl,skip (fun _ _=>h2),t2,by rw[← hu]; exact t5,by rw[← hu2]; exact t6,rfl⟩
  obtain ⟨n,hn⟩:∃ n:Nat,-1 - s=(n:Int):=⟨(-1 - s).toNat,by omega⟩
  have hnn:(-1 - s).toNat=n:=by omega
  rw[hnn] at hnl hsn h2
  have hse:(cT seen).set n [gb true]=cT (seen.set n true):=by simp[List.map_set]
  simp (disch:=omega) only [↓wr,↓reduceIte,wq,ah,ag,aj,ab,ae,af,ai,isNil,Nat.reduceEqDiff,Nat.reduceAdd,Nat.reduceLT,Nat.reduceLeDiff,Int.reduceNeg,Int.reduceToNat,reduceCtorEq,t2,t5,t6,t7,hu2,hid2,aw,encS,hn,JT hsn,hse]
  refine ⟨by omega,by simp[hI.sl]; omega,?_⟩
  have hsg:∀ m,(seen.set n true).getD m false=if n=m then true else seen.getD m false:=fun m=>by
    rw[BN]
    by_cases e:n=m
    · rw[if_pos ⟨e,hsn⟩,if_pos e]
    · rw[if_neg (fun h=>e h.1),if_neg e]
  have o2:bf (H'.set id2 (.arr 1 (cT (seen.set n true)))) [(r,2,aS (l ++ cK ks)),(su,1,cT (seen.set n true))]:=by
    have h3:=hI.own.perm (.swap _ _ _)
    rw[hu2] at h3 ⊢
    exact (h3.put (es':=cT (seen.set n true)) (by simp) (by simp[hI.sl])).perm (.swap _ _ _)
  have hdead:∀ id,H id≠.dead→id≠id2:=fun id hid e=>by
    have:=(hI.f2 id hid).2
    rw[hu2,e] at this
    exact this rfl
  have f1':cz H (H'.set id2 (.arr 1 (cT (seen.set n true)))) r:=fun id hid=>⟨by simp only[View.set]; rw[if_neg (hdead id hid)]; exact (hI.f1 id hid).1,(hI.f1 id hid).2⟩
  have f2':cz H (H'.set id2 (.arr 1 (cT (seen.set n true)))) su:=fun id hid=>⟨by simp only[View.set]; rw[if_neg (hdead id hid)]; exact (hI.f2 id hid).1,(hI.f2 id hid).2⟩
  generalize H'.set id2 (.arr 1 (cT (seen.set n true)))=H4 at o2 f1' f2' ⊢
  refine bK.up g.rules.length (fun k T H5=>∃ (r2:V) (ks2:List Nat),ks2=ks ++ (List.range k).filter (fun (q:Nat)=>decide ((dq g q).left=n))∧bf H5 [(r2,2,aS (l ++ cK ks2)),(su,1,cT (seen.set n true))]∧cz H H5 r2∧cz H H5 su ∧
    T 2=.aU (aw g) 0∧T 5=r2∧T 6=su∧T 7=gi i∧T 8=gi s∧T 51=.aK (g.rules.map bm)∧T 52=gi g.rules.length∧T 53=gi k) ⟨r,ks,by simp,o2,f1',f2',t2,by rw[← hu]; exact t5,by rw[← hu2]; exact t6,t7,rfl,rfl,rfl,rfl⟩ ?_
  clear t2 t5 t6 t7 o2 f1' f2'
  rintro k j T5 H5 hk ⟨r2,ks2,hks,o5,f5,g5,t2,t5,t6,t7,t8,t51,t52,t53⟩
  have hdis:∀ q,q∈ks→¬ (dq g q).left=n:=fun q hq e=>by
    have hR:g.rules[q]?=some (dq g q):=by unfold dq; exact getD_some (hI.kl q hq)
    have:=hI.s2 q _ hq hR
    rw[e] at this
    simp only[Int.toNat_natCast] at this
    rw[h2] at this; simp at this
  have hnd2:ks2.Nodup:=by
    rw[hks,List.nodup_append]
    refine ⟨hI.nd,(List.nodup_range).filter _,fun a ha b hb e=>?_⟩
    subst e
    exact hdis a ha (by simpa using (List.mem_filter.1 hb).2)
  simp (disch:=omega) only [↓wr,↓reduceIte,wq,ah,ag,aj,ab,ae,af,ai,isNil,Nat.reduceEqDiff,Nat.reduceAdd,Nat.reduceLT,Nat.reduceLeDiff,Int.reduceNeg,Int.reduceToNat,reduceCtorEq,pG,t2,t5,t6,t7,t8,t51,t52,t53]
  refine au.dec (fun hc5=>?_) (fun hc5=>?_)
  · have hR:g.rules[k]?=some (dq g k):=by unfold dq; exact getD_some (by omega)
    have hkl2:∀ q∈ks2,q < g.rules.length:=fun q hq=>by
      rw[hks] at hq
      rcases List.mem_append.1 hq with h | h
      · exact hI.kl q h
      · have:=List.mem_range.1 (List.mem_filter.1 h).1; omega
    have hl2:=uQ hnd2 hkl2
    have hstep:ks ++ (List.range (k+1)).filter (fun (q:Nat)=>decide ((dq g q).left=n))=if (dq g k).left=n then ks2 ++ [k] else ks2:=by
      rw[List.range_succ,List.filter_append,← List.append_assoc,← hks]
      by_cases e:(dq g k).left=n <;> simp[e]
    generalize dq g k=R at hR hstep
    simp (disch:=omega) only [↓wr,↓reduceIte,wq,ah,ag,aj,ab,ae,af,ai,isNil,Nat.reduceEqDiff,Nat.reduceAdd,Nat.reduceLT,Nat.reduceLeDiff,Int.reduceNeg,Int.reduceToNat,reduceCtorEq,t2,t5,t6,t7,t8,t51,t52,t53,List.getElem?_map,hR,Option.map_some,bm]
    intro q hq
    rw[set_set]
    have hqq:(H5.set q (.arr 3 [[gi R.left,encI R.right,gi R.prec]])) q=.arr 3 [[gi R.left,encI R.right,gi R.prec]]:=by simp[View.set]
    have hqH:∀ id,H id≠.dead→id≠q:=fun id hid e=>by
      have:=(f5 id hid).1
      rw[e,hq] at this
      exact hid (by rw[e]; exact this.symm)
    have o6:=o5.fresh (o:=.arr 3 [[gi R.left,encI R.right,gi R.prec]]) hq
    have f6:cz H (H5.set q (.arr 3 [[gi R.left,encI R.right,gi R.prec]])) r2:=fun id hid=>⟨by simp only[View.set]; rw[if_neg (hqH id hid)]; exact (f5 id hid).1,(f5 id hid).2⟩
    have g6:cz H (H5.set q (.arr 3 [[gi R.left,encI R.right,gi R.prec]])) su:=fun id hid=>⟨by simp only[View.set]; rw[if_neg (hqH id hid)]; exact (g5 id hid).1,(g5 id hid).2⟩
    generalize H5.set q (.arr 3 [[gi R.left,encI R.right,gi R.prec]])=H6 at hqq o6 f6 g6
    clear o5 f5 g5 hq hqH
    simp (disch:=omega) only [↓wr,↓reduceIte,wq,ah,ag,aj,ab,ae,af,ai,isNil,Nat.reduceEqDiff,Nat.reduceAdd,Nat.reduceLT,Nat.reduceLeDiff,Int.reduceNeg,Int.reduceToNat,reduceCtorEq,t2,t5,t6,t7,t8,hqq,hn]
    refine ⟨rfl,?_⟩
    refine au.eq (fun he=>?_) (fun he=>?_)
    · simp (disch:=omega) only [↓wr,↓reduceIte,wq,ah,ag,aj,ab,ae,af,ai,isNil,Nat.reduceEqDiff,Nat.reduceAdd,Nat.reduceLT,Nat.reduceLeDiff,Int.reduceNeg,Int.reduceToNat,reduceCtorEq,t2,t5,t6,t7,t8]
      intro q2 hq2
      simp (disch:=omega) only [↓wr,↓reduceIte,wq,ah,ag,aj,ab,ae,af,ai,isNil,Nat.reduceEqDiff,Nat.reduceAdd,Nat.reduceLT,Nat.reduceLeDiff,Int.reduceNeg,Int.reduceToNat,reduceCtorEq,fP]
      have hqH2:∀ id,H id≠.dead→id≠q2:=fun id hid e=>by
        have:=(f6 id hid).1
        rw[e,hq2] at this
        exact hid (by rw[e]; exact this.symm)
      refine jM (o6.fresh hq2) (by simp[aR]) (by unfold aW; rw[bb]; simp[cK]; omega) (by unfold aW; rw[bb]; simp[cK]; omega) ?_
      intro r3 H7 o7 l7
      simp (disch:=omega) only [↓wr,↓reduceIte,wq,ah,ag,aj,ab,ae,af,ai,isNil,Nat.reduceEqDiff,Nat.reduceAdd,Nat.reduceLT,Nat.reduceLeDiff,Int.reduceNeg,Int.reduceToNat,reduceCtorEq,t2,t6,t7,t8,t51,t52,t53]
      rw[if_pos he] at hstep
      have f7:∀ v,cz H H6 v→(∀ id,owner v=some id→owner r2≠some id∧owner r3≠some id)→cz H H7 v:=fun v hv hvo id hid=>by
        obtain ⟨e1,e2⟩:=hv id hid
        obtain ⟨k1,k2⟩:=l7 id (by simp only[View.set]; rw[if_neg (hqH2 id hid),e1]; exact hid) (f6 id hid).2
        refine ⟨?_,e2⟩
        rw[k1]
        simp only[View.set]
        rw[if_neg (hqH2 id hid),e1]
      have f8:cz H H7 r3:=fun id hid=>by
        obtain ⟨e1,e2⟩:=f6 id hid
        obtain ⟨k1,k2⟩:=l7 id (by simp only[View.set]; rw[if_neg (hqH2 id hid),e1]; exact hid) e2
        refine ⟨?_,k2⟩
        rw[k1]
        simp only[View.set]
        rw[if_neg (hqH2 id hid),e1]
      refine bE hk (by omega) ⟨r3,ks2 ++ [k],hstep.symm,?_,f8,fun id hid=>⟨(f8 id hid).1,(g6 id hid).2⟩,t2,rfl,t6,t7,t8,t51,t52,rfl⟩
      have e1:aS (l ++ cK (ks2 ++ [k]))=aS (l ++ cK ks2) ++ [[gi k,gi 0]]:=by simp[aS,cK,bu]
      rw[e1]
      exact o7
    · simp (disch:=omega) only [↓wr,↓reduceIte,wq,ah,ag,aj,ab,ae,af,ai,isNil,Nat.reduceEqDiff,Nat.reduceAdd,Nat.reduceLT,Nat.reduceLeDiff,Int.reduceNeg,Int.reduceToNat,reduceCtorEq,t2,t5,t6,t7,t8,t51,t52,t53]
      rw[if_neg he] at hstep
      exact bE hk (by omega) ⟨r2,ks2,hstep.symm,o6,f6,g6,t2,t5,t6,t7,t8,t51,t52,rfl⟩
  · have hke:k=g.rules.length:=by omega
    subst hke
    simp (disch:=omega) only [↓wr,↓reduceIte,wq,ah,ag,aj,ab,ae,af,ai,isNil,Nat.reduceEqDiff,Nat.reduceAdd,Nat.reduceLT,Nat.reduceLeDiff,Int.reduceNeg,Int.reduceToNat,reduceCtorEq,t2,t5,t6,t7]
    have hmem:∀ q,q∈ks2↔q∈ks∨(q < g.rules.length∧(dq g q).left=n):=fun q=>by
      rw[hks,List.mem_append,List.mem_filter,List.mem_range,decide_eq_true_eq]
    have hRD:∀ (q:Nat) (R:aL),g.rules[q]?=some R→dq g q=R:=fun q R h=>by
      unfold dq
      rw[Int.toNat_natCast,List.getD_eq_getElem?_getD,h]; rfl
    have hpre:∀ (j:Nat),j≤i→(l ++ cK ks2)[j]?=(l ++ cK ks)[j]?:=fun j hj=>by
      rw[hks,cK,List.map_append,← List.append_assoc]
      exact List.getElem?_append_left (by simp only[cK] at hc; omega)
    refine ⟨l.length+g.rules.length - (i+1),by omega,i+1,r2,su,ks2,seen.set n true,rfl,⟨o5,f5,g5,hnd2,fun q hq=>?_,by rw[List.length_set]; exact hI.sl,fun m q R h3 h4 h5=>?_,fun q R h3 h4=>?_,fun y hy=>?_,fun j y t hj hy hn2 h0=>?_,?_⟩,t2,t5,t6,rfl⟩
    · rcases (hmem q).1 hq with h | h
      · exact hI.kl q h
      · exact h.1
    · rw[hsg] at h3
      split at h3
      · rename_i e
        subst e
        exact (hmem q).2 (.inr ⟨(List.getElem?_eq_some_iff.1 h4).1,by rw[hRD q R h4]; exact h5⟩)
      · exact (hmem q).2 (.inl (hI.s1 m q R h3 h4 h5))
    · rw[hsg]
      rcases (hmem q).1 h3 with h | h
      · split
        · rfl
        · exact hI.s2 q R h h4
      · rw[hRD q R h4] at h
        rw[h.2,Int.toNat_natCast,if_pos rfl]
    · rcases List.mem_append.1 hy with h | h
      · exact hI.cl y (List.mem_append_left _ h)
      · obtain ⟨q,hq,rfl⟩:=List.mem_map.1 h
        rcases (hmem q).1 hq with h | h
        · exact hI.cl _ (List.mem_append_right _ (List.mem_map.2 ⟨q,h,rfl⟩))
        · have hR:g.rules[q]?=some (dq g q):=by unfold dq; exact getD_some h.1
          exact .step hxC hny (by omega) hR (by rw[h.2,hn])
    · rw[hpre j (by omega)] at hy
      rw[hsg]
      rcases Nat.lt_or_ge j i with q | q
      · split
        · rfl
        · exact hI.dn j y t q hy hn2 h0
      · have:j=i:=by omega
        subst this
        rw[hx] at hy
        simp only[Option.some.injEq] at hy
        subst hy
        rw[hny] at hn2
        simp only[Prod.mk.injEq,and_true] at hn2
        subst hn2
        rw[hnn,if_pos rfl]
    · rw[hks,cK,List.map_append,← List.append_assoc,List.length_append]
      simp only[cK] at hc
      omega
def tg:SF:=⟨.seq (al [b6 2 0,b6 3 1,aV 4 false]) <|
  .seq (.seq (.region false [⟨none,[aH 5 4 2,aG 6 52 [5],cb 7 6,aa 8 7]⟩,⟨(some (8,false)),[ao 9 0 3,aq 10 9,ax 11 .lss 10 (-1)]⟩,⟨none,[bF 12 8 11,aa 13 12]⟩,⟨(some (13,false)),[ao 14 0 3,aq 15 14,ao 16 2 2,aq 17 16,aM 18 17,aO 19 .geq 15 18]⟩,⟨none,[bF 20 13 19]⟩]) <|
  .cond (.tmp 20) (.seq (al [aV 4 false]) <|
  .ret) (.skip)) <|
  .seq (.region true [⟨none,[ao 21 1 3,aq 22 21,ax 23 .geq 22 0,aa 24 23]⟩,⟨(some (24,true)),[ao 25 1 3,aq 26 25,aH 27 4 2,ao 28 0 3,aq 29 28,aG 30 53 [27,29],aM 31 30,aO 32 .leq 26 31]⟩,⟨none,[bB 33 24 32,aa 4 33]⟩]) <|
  .ret,
  [.tmp 4],34⟩
theorem Cj:bh Tryz.prog 19 [2,3]=some tg:=by kernel_rfl
def ef:SC :=
  .seq (al [aO 9 .lss 8 7]) <|
  .seq (.cond (.tmp 9) (.skip) (.exit 0)) <|
  .seq (.block 1 (.seq (al [aa 10 8,aa 5 10]) <|
  .seq (al [aa 11 1,aa 12 0,aa 13 5,aZ 14 2 12 13,aH 15 2 14,((some 16),.call (.tmp 11) [(.tmp 15)])]) <|
  .cond (.tmp 16) (.seq (al [aa 17 5,aa 4 17]) <|
  .ret) (.skip))) <|
  al [ax 18 .add 8 1,aa 8 18]
def ew:SF:=⟨.seq (al [aF 4 0]) <|
  .seq (.seq (al [aa 6 0,aM 7 6,aF 8 0]) <|
  .block 0 (.loop ef)) <|
  .seq (al [aF 4 (-1)]) <|
  .ret,
  [.tmp 4],19⟩
theorem gW:bh Tryz.prog 107 []=some ew:=by kernel_rfl
def dX:SC :=
  .seq (.seq (al [aa 16 6,aa 17 0,aM 18 17,aO 19 .lss 16 18]) <|
  .cond (.tmp 19) (.skip) (.exit 0)) <|
  .seq (.block 1 (.seq (al [aa 22 0,aa 23 6,aZ 24 2 22 23,aH 25 2 24,((some 7),.op (.alloc [(.val (.int .i64 0)),(.val (.int .i64 0))])),(none,.op (.store 2 (.tmp 7) (.tmp 25)))]) <|
  .seq (al [aa 26 1,aH 27 2 7,((some 28),.call (.tmp 26) [(.tmp 27)]),cb 29 28]) <|
  .cond (.tmp 29) (.seq (al [aa 30 0,aa 31 5,aH 32 2 7,aZ 33 2 30 31,(none,.op (.store 2 (.tmp 33) (.tmp 32)))]) <|
  al [aa 34 5,ax 35 .add 34 1,aa 5 35]) (.skip))) <|
  al [aa 20 6,ax 21 .add 20 1,aa 6 21]
def ep:SF:=⟨.seq (al [((some 4),.op (.bj (.val (.emp 1))))]) <|
  .seq (al [aa 8 0,aa 9 1,aG 10 107 [8,9],aa 5 10]) <|
  .seq (.seq (al [aa 11 5,ax 12 .eql 11 (-1)]) <|
  .cond (.tmp 12) (.seq (al [aa 13 0,aa 4 13]) <|
  .ret) (.skip)) <|
  .seq (.seq (al [aa 14 5,ax 15 .add 14 1,aa 6 15]) <|
  .block 0 (.loop dX)) <|
  .seq (al [aa 36 0,aa 37 5,((some 38),.op (.slice 2 (.tmp 36) (some (.tmp 37)) none)),(none,.op (.old (.call { callee:=.builtin .clear,args:=#[(.tmp 38)],argTypes:=#[27] }) 0))]) <|
  .seq (al [aa 39 0,aa 40 5,((some 41),.op (.slice 2 (.tmp 39) none (some (.tmp 40)))),aa 4 41]) <|
  .ret,
  [.tmp 4],42⟩
theorem gJ:bh Tryz.prog 57 []=some ep:=by kernel_rfl
def ph:SF:=⟨.seq (al [b6 2 0,aV 3 false]) <|
  .seq (al [aH 4 4 1,aH 5 2 2,aG 6 19 [4,5],cb 7 6,aa 3 7]) <|
  .ret,
  [.tmp 3],8⟩
theorem uf:bh Tryz.prog 59 [2]=some ph:=by kernel_rfl
def rZ:SF:=⟨.seq (al [b6 2 0,((some 4),.op (.bj (.val (.emp 1))))]) <|
  .seq (al [((some 5),.op (.sy (some 4) (.tmp 2))),aa 6 1,aG 7 58 [6],((some 8),.op (.pL 59 [] [(.tmp 2)])),aG 9 57 [7,8],aG 10 56 [5,9],aa 4 10]) <|
  .ret,
  [.tmp 4],11⟩
theorem wm:bh Tryz.prog 22 [2,100001]=some rZ:=by kernel_rfl
set_option maxHeartbeats 4000000 in
theorem MB (g:an) (hg:g.Ok) (hsm:g.Small) (x:aJ) (hx:bO x.aD∧bO x.dot):aC Tryz.prog 19 [.agg (aw g),.agg (bu x)] (gb (dI g x)):=by
  refine aC.val (Av g x) fun H=>?_
  have hr9:=np g hg hsm.names
  obtain ⟨hx1,hx2⟩:=hx
  unfold bO at hx1 hx2
  refine aA.of mixed Cj ?_
  simp only[aw,encS] at hr9
  have bad:¬ cm g x→gb false=gb (dI g x):=fun h=>by unfold dI; rw[decide_eq_false h,Bool.and_false]
  cases hr:bt g with
  | false =>
    rw[hr] at hr9
    simp (disch:=omega) only [↓wr,↓reduceIte,wq,ah,ag,aj,ab,ae,af,ai,isNil,Nat.reduceEqDiff,Nat.reduceAdd,Nat.reduceLT,Nat.reduceLeDiff,Int.reduceNeg,Int.reduceToNat,reduceCtorEq,tg,aw,encS,bu]
    refine aE.pure hr9 (by kernel_rfl) ?_
    simp (disch:=omega) only [↓wr,↓reduceIte,wq,ah,ag,aj,ab,ae,af,ai,isNil,Nat.reduceEqDiff,Nat.reduceAdd,Nat.reduceLT,Nat.reduceLeDiff,Int.reduceNeg,Int.reduceToNat,reduceCtorEq]
    unfold dI; rw[hr]; rfl
  | true =>
  rw[hr] at hr9
  have hf:=bC hr
  simp (disch:=omega) only [↓wr,↓reduceIte,wq,ah,ag,aj,ab,ae,af,ai,isNil,Nat.reduceEqDiff,Nat.reduceAdd,Nat.reduceLT,Nat.reduceLeDiff,Int.reduceNeg,Int.reduceToNat,reduceCtorEq,tg,aw,encS,bu]
  refine aE.pure hr9 (by kernel_rfl) ?_
  simp (disch:=omega) only [↓wr,↓reduceIte,wq,ah,ag,aj,ab,ae,af,ai,isNil,Nat.reduceEqDiff,Nat.reduceAdd,Nat.reduceLT,Nat.reduceLeDiff,Int.reduceNeg,Int.reduceToNat,reduceCtorEq,bu]
  refine au.dec (fun h1=>?_) (fun h1=>?_)
  · simp (disch:=omega) only [↓wr,↓reduceIte,wq,ah,ag,aj,ab,ae,af,ai,isNil,Nat.reduceEqDiff,Nat.reduceAdd,Nat.reduceLT,Nat.reduceLeDiff,Int.reduceNeg,Int.reduceToNat,reduceCtorEq]
    exact bad fun h=>by have:=h.1; omega
  simp (disch:=omega) only [↓wr,↓reduceIte,wq,ah,ag,aj,ab,ae,af,ai,isNil,Nat.reduceEqDiff,Nat.reduceAdd,Nat.reduceLT,Nat.reduceLeDiff,Int.reduceNeg,Int.reduceToNat,reduceCtorEq,bu,aw]
  refine au.dec (fun h2=>?_) (fun h2=>?_)
  · simp (disch:=omega) only [↓wr,↓reduceIte,wq,ah,ag,aj,ab,ae,af,ai,isNil,Nat.reduceEqDiff,Nat.reduceAdd,Nat.reduceLT,Nat.reduceLeDiff,Int.reduceNeg,Int.reduceToNat,reduceCtorEq]
    exact bad fun h=>by have:=h.1; omega
  simp (disch:=omega) only [↓wr,↓reduceIte,wq,ah,ag,aj,ab,ae,af,ai,isNil,Nat.reduceEqDiff,Nat.reduceAdd,Nat.reduceLT,Nat.reduceLeDiff,Int.reduceNeg,Int.reduceToNat,reduceCtorEq,bu]
  refine au.dec (fun h3=>?_) (fun h3=>?_)
  rotate_left
  · simp (disch:=omega) only [↓wr,↓reduceIte,wq,ah,ag,aj,ab,ae,af,ai,isNil,Nat.reduceEqDiff,Nat.reduceAdd,Nat.reduceLT,Nat.reduceLeDiff,Int.reduceNeg,Int.reduceToNat,reduceCtorEq]
    exact bad fun h=>by have:=h.2; omega
  have hrt:=BX g (ln hf) x.aD ⟨by omega,by omega⟩
  have hl6:=dE hf (r:=x.aD) ⟨by omega,by omega⟩
  simp only[aw,encS,encI] at hrt
  simp (disch:=omega) only [↓wr,↓reduceIte,wq,ah,ag,aj,ab,ae,af,ai,isNil,Nat.reduceEqDiff,Nat.reduceAdd,Nat.reduceLT,Nat.reduceLeDiff,Int.reduceNeg,Int.reduceToNat,reduceCtorEq,bu,aw,encS]
  refine aE.pure hrt (by kernel_rfl) ?_
  simp (disch:=omega) only [↓wr,↓reduceIte,wq,ah,ag,aj,ab,ae,af,ai,isNil,Nat.reduceEqDiff,Nat.reduceAdd,Nat.reduceLT,Nat.reduceLeDiff,Int.reduceNeg,Int.reduceToNat,reduceCtorEq,bu]
  congr 2
  unfold dI
  rw[hr,Bool.true_and]
  congr 1
  unfold cm
  simp only[eq_iff_iff]
  omega
theorem Br {α:Type} (p:α→Bool):∀ (l:List α) (i:Int),0≤i→c6 p l i = -1→∀ x∈l,p x=false
  | [],_,_,_=>by simp
  | x :: l,i,h0,h=>by
    rw[c6] at h
    split at h
    · omega
    · rename_i hp
      intro y hy
      rcases List.mem_cons.1 hy with rfl | hy
      · simpa using hp
      · exact Br p l (i+1) (by omega) h y hy
theorem A5 {α:Type} (p:α→Bool):∀ (l:List α) (i:Int),0≤i→c6 p l i = -1∨∃ (k:Nat) (x:α),c6 p l i=i+k∧l[k]?=some x∧p x=true∧∀ y∈l.take k,p y=false
  | [],_,_=>.inl rfl
  | x :: l,i,h0=>by
    rw[c6]
    split
    · rename_i hp
      exact .inr ⟨0,x,by simp,rfl,hp,by simp⟩
    · rename_i hp
      rcases A5 p l (i+1) (by omega) with h | ⟨k,y,h1,h2,h3,h4⟩
      · exact .inl h
      · refine .inr ⟨k+1,y,by rw[h1]; push_cast; omega,by simpa using h2,h3,fun z hz=>?_⟩
        rw[List.take_succ_cons] at hz
        rcases List.mem_cons.1 hz with rfl | hz
        · simpa using hp
        · exact h4 z hz
set_option maxHeartbeats 4000000 in
theorem GY (l:List aJ) (hl:l.length≤100000) (u:V) (f:FuncId) (cap:List V) (p:aJ→Bool) (H:View) (ho:aN H u 2 (aS l)) (hf:∀ x∈l,aA Tryz.prog f (.agg (bu x) :: cap) H fun r H'=>r=gb (p x)∧H'=H) :
    aA Tryz.prog 107 [u,.fn f [] cap] H fun r H'=>r=gi (c6 p l 0)∧H'=H:=by
  refine aA.of mixed gW ?_
  have hlen:cH u=some l.length:=by rw[ho.len,bb]
  simp (disch:=omega) only [↓wr,↓reduceIte,wq,ah,ag,aj,ab,ae,af,ai,isNil,Nat.reduceEqDiff,Nat.reduceAdd,Nat.reduceLT,Nat.reduceLeDiff,Int.reduceNeg,Int.reduceToNat,reduceCtorEq,ew,hlen]
  refine bK.up l.length (fun i T H'=>H=H'∧c6 p (l.drop i) i=c6 p l 0∧T 0=u∧T 1=.fn f [] cap∧T 7=gi l.length∧T 8=gi i) ⟨rfl,rfl,rfl,rfl,rfl,rfl⟩ ?_
  rintro i k T _ hk ⟨rfl,hi,h0,h1,h7,h8⟩
  simp (disch:=omega) only [↓wr,↓reduceIte,wq,ah,ag,aj,ab,ae,af,ai,isNil,Nat.reduceEqDiff,Nat.reduceAdd,Nat.reduceLT,Nat.reduceLeDiff,Int.reduceNeg,Int.reduceToNat,reduceCtorEq,ef,h0,h1,h7,h8]
  refine au.dec (fun hc=>?_) (fun hc=>?_)
  · obtain ⟨id,hu,hid⟩:=ho.sl (by rw[bb]; omega)
    rw[bb] at hu
    have hm:l[i]'(by omega)∈l:=List.getElem_mem _
    rw[fv (show i < l.length by omega)] at hi
    have hgx:l[i]?=some (l[i]'(by omega)):=List.getElem?_eq_getElem (by omega)
    generalize l[i]'(by omega)=x at hm hi hgx
    simp (disch:=omega) only [↓wr,↓reduceIte,wq,ah,ag,aj,ab,ae,af,ai,isNil,Nat.reduceEqDiff,Nat.reduceAdd,Nat.reduceLT,Nat.reduceLeDiff,Int.reduceNeg,Int.reduceToNat,reduceCtorEq,h0,h1,h7,h8,hu,hid,vt hgx]
    refine ⟨by omega,by rw[bb]; omega,?_⟩
    have hcall:=hf x hm
    simp only[bu] at hcall
    refine aE.gF (hcall.mono ?_)
    rintro r H2 ⟨rfl,rfl⟩
    simp only[c6] at hi
    simp (disch:=omega) only [↓wr,↓reduceIte,wq,ah,ag,aj,ab,ae,af,ai,isNil,Nat.reduceEqDiff,Nat.reduceAdd,Nat.reduceLT,Nat.reduceLeDiff,Int.reduceNeg,Int.reduceToNat,reduceCtorEq]
    refine au.split (fun hp=>?_) (fun hp=>?_)
    · simp (disch:=omega) only [↓wr,↓reduceIte,wq,ah,ag,aj,ab,ae,af,ai,isNil,Nat.reduceEqDiff,Nat.reduceAdd,Nat.reduceLT,Nat.reduceLeDiff,Int.reduceNeg,Int.reduceToNat,reduceCtorEq,h0,h1,h7,h8]
      rw[← hi,if_pos hp]
    · simp (disch:=omega) only [↓wr,↓reduceIte,wq,ah,ag,aj,ab,ae,af,ai,isNil,Nat.reduceEqDiff,Nat.reduceAdd,Nat.reduceLT,Nat.reduceLeDiff,Int.reduceNeg,Int.reduceToNat,reduceCtorEq,h0,h1,h7,h8]
      refine bE hk (by omega) ⟨rfl,?_,by first | exact h0 | (rw[← hu]; exact h0),h1,h7,rfl⟩
      rw[if_neg (by simp[hp])] at hi
      push_cast; exact hi
  · rw[List.drop_eq_nil_of_le (by omega)] at hi
    simp (disch:=omega) only [↓wr,↓reduceIte,wq,ah,ag,aj,ab,ae,af,ai,isNil,Nat.reduceEqDiff,Nat.reduceAdd,Nat.reduceLT,Nat.reduceLeDiff,Int.reduceNeg,Int.reduceToNat,reduceCtorEq,h0,h1,h7,h8]
    rw[← hi]; rfl
set_option maxHeartbeats 16000000 in
theorem E0 (l:List aJ) (hl:l.length≤100000) (u:V) (f:FuncId) (cap:List V) (p:aJ→Bool) (H:View) (ho:aN H u 2 (aS l)) (hf:∀ H,∀ x∈l,aA Tryz.prog f (.agg (bu x) :: cap) H fun r H'=>r=gb (p x)∧H'=H) :
    aA Tryz.prog 57 [u,.fn f [] cap] H fun r H'=>(∀ id,H id≠.dead→owner u≠some id→H' id=H id)∧aN H' r 2 (aS (l.filter fun x=>!p x))∧owner r=owner u:=by
  refine aA.cut (K:=fun r H'=>(H'=H∧r=u∧l.filter (fun x=>!p x)=l)∨∃ id rest,u=.sl id 0 l.length 2∧r=.sl id 0 (l.filter fun x=>!p x).length 2∧H' id=.arr 2 (aS (l.filter fun x=>!p x) ++ rest)∧∀ j,H j≠.dead→j≠id→H' j=H j) ?_ ?_
  rotate_left
  · rintro r H' (⟨rfl,rfl,e⟩ | ⟨id,rest,rfl,rfl,h1,h2⟩)
    · exact .inl ⟨fun _ _ _=>rfl,by rw[e]; exact ho,rfl⟩
    · refine .inr ⟨id,2,aS (l.filter fun x=>!p x),rest,h1,fun j hd hj=>?_,?_,rfl⟩
      · simp only[View.set]
        rw[if_neg (fun e=>hj (by rw[e]; rfl))]
        exact h2 j hd (fun e=>hj (by rw[e]; rfl))
      · exact .inr ⟨id,by rw[bb],by simp[View.set]⟩
  refine aA.of mixed gJ ?_
  have hlen:cH u=some l.length:=by rw[ho.len,bb]
  simp (disch:=omega) only [↓wr,↓reduceIte,wq,ah,ag,aj,ab,ae,af,ai,isNil,Nat.reduceEqDiff,Nat.reduceAdd,Nat.reduceLT,Nat.reduceLeDiff,Int.reduceNeg,Int.reduceToNat,reduceCtorEq,ep,hlen]
  refine aE.gF ((GY l hl u f cap p H ho (hf H)).mono ?_)
  rintro r H2 ⟨rfl,e2⟩
  replace e2:=e2.symm
  subst e2
  rcases A5 p l 0 (Int.le_refl _) with hn | ⟨k0,x0,hi,hx0,hp0,hall0⟩
  · have hno:=Br p l 0 (Int.le_refl _) hn
    rw[hn]
    simp (disch:=omega) only [↓wr,↓reduceIte,wq,ah,ag,aj,ab,ae,af,ai,isNil,Nat.reduceEqDiff,Nat.reduceAdd,Nat.reduceLT,Nat.reduceLeDiff,Int.reduceNeg,Int.reduceToNat,reduceCtorEq]
    refine au.eq (fun _=>?_) (fun h=>absurd rfl h)
    simp (disch:=omega) only [↓wr,↓reduceIte,wq,ah,ag,aj,ab,ae,af,ai,isNil,Nat.reduceEqDiff,Nat.reduceAdd,Nat.reduceLT,Nat.reduceLeDiff,Int.reduceNeg,Int.reduceToNat,reduceCtorEq]
    left
    try refine ⟨rfl,rfl,?_⟩
    exact List.filter_eq_self.2 fun x hx=>by simp[hno x hx]
  rw[hi,show (0:Int)+(k0:Int)=k0 by omega]
  obtain ⟨hk0,_⟩:=List.getElem?_eq_some_iff.1 hx0
  obtain ⟨id,hu,hid⟩:=ho.sl (by rw[bb]; omega)
  rw[bb] at hu
  subst hu
  have hst:(l.take (k0+1)).filter (fun x=>!p x)=l.take k0:=by
    rw[List.take_add_one,hx0,List.filter_append,List.filter_eq_self.2 (fun y hy=>by simp[hall0 y hy])]
    simp[hp0]
  simp (disch:=omega) only [↓wr,↓reduceIte,wq,ah,ag,aj,ab,ae,af,ai,isNil,Nat.reduceEqDiff,Nat.reduceAdd,Nat.reduceLT,Nat.reduceLeDiff,Int.reduceNeg,Int.reduceToNat,reduceCtorEq]
  refine au.eq (fun h=>by omega) (fun _=>?_)
  simp (disch:=omega) only [↓wr,↓reduceIte,wq,ah,ag,aj,ab,ae,af,ai,isNil,Nat.reduceEqDiff,Nat.reduceAdd,Nat.reduceLT,Nat.reduceLeDiff,Int.reduceNeg,Int.reduceToNat,reduceCtorEq]
  refine bK.up (l.length - (k0+1)) (fun i T H'=>∃ (kk:Nat) (cur:List aJ),H' id=.arr 2 (aS cur)∧cur.length=l.length∧kk≤k0+i∧cur.take kk=(l.take (k0+1+i)).filter (fun x=>!p x)∧(∀ m,k0+1+i≤m→cur.getD m dN=l.getD m dN)∧(∀ j,H j≠.dead→j≠id→H' j=H j) ∧
    T 0=.sl id 0 l.length 2∧T 1=.fn f [] cap∧T 5=gi kk∧T 6=gi ((k0+1+i:Nat):Int)) ⟨k0,l,hid,rfl,by omega,by rw[Nat.add_zero,hst],fun _ _=>rfl,fun _ _ _=>rfl,rfl,rfl,rfl,rfl⟩ ?_
  rintro i k T H' hk ⟨kk,cur,hc,hcl,hkk,hct,hcj,hold,t0,t1,t5,t6⟩
  simp (disch:=omega) only [↓wr,↓reduceIte,wq,ah,ag,aj,ab,ae,af,ai,isNil,Nat.reduceEqDiff,Nat.reduceAdd,Nat.reduceLT,Nat.reduceLeDiff,Int.reduceNeg,Int.reduceToNat,reduceCtorEq,dX,t0,t1,t5,t6]
  refine au.dec (fun hc2=>?_) (fun hc2=>?_)
  · have hp:k0+1+i < l.length:=by omega
    have hgx:l[k0+1+i]?=some (l.getD (k0+1+i) dN):=getD_some (by omega)
    have hg:=kJ (l:=cur) (show k0+1+i < cur.length by omega)
    rw[hcj _ (Nat.le_refl _)] at hg
    have hm:l.getD (k0+1+i) dN∈l:=List.mem_of_getElem? hgx
    have hft:=B9 (p:=fun x=>!p x) hgx
    generalize l.getD (k0+1+i) dN=x at hg hgx hm hft
    simp (disch:=omega) only [↓wr,↓reduceIte,wq,ah,ag,aj,ab,ae,af,ai,isNil,Nat.reduceEqDiff,Nat.reduceAdd,Nat.reduceLT,Nat.reduceLeDiff,Int.reduceNeg,Int.reduceToNat,reduceCtorEq,t0,t1,t5,t6,hc,hg]
    refine ⟨by omega,by rw[bb]; omega,?_⟩
    intro q hq
    rw[set_set]
    have hqid:id≠q:=fun e=>by rw[← e,hc] at hq; simp at hq
    have hqH:∀ j,H j≠.dead→j≠id→j≠q:=fun j hd hj e=>by
      have:=hold j hd hj
      rw[e,hq] at this
      rw[e] at hd
      exact hd this.symm
    have hqq:(H'.set q (.arr 2 [[gi x.aD,gi x.dot]])) q=.arr 2 [[gi x.aD,gi x.dot]]:=by simp[View.set]
    have hc4:(H'.set q (.arr 2 [[gi x.aD,gi x.dot]])) id=.arr 2 (aS cur):=by simp only[View.set]; rw[if_neg hqid]; exact hc
    have hold4:∀ j,H j≠.dead→j≠id→(H'.set q (.arr 2 [[gi x.aD,gi x.dot]])) j=H j:=fun j hd hj=>by
      simp only[View.set]; rw[if_neg (hqH j hd hj)]; exact hold j hd hj
    generalize H'.set q (.arr 2 [[gi x.aD,gi x.dot]])=H4 at hqq hc4 hold4
    have hcall:=hf H4 x hm
    simp only[bu] at hcall
    refine aE.gF (hcall.mono ?_)
    rintro r H5 ⟨rfl,rfl⟩
    cases hpx:p x with
    | true =>
      simp (disch:=omega) only [↓wr,↓reduceIte,wq,ah,ag,aj,ab,ae,af,ai,isNil,Nat.reduceEqDiff,Nat.reduceAdd,Nat.reduceLT,Nat.reduceLeDiff,Int.reduceNeg,Int.reduceToNat,reduceCtorEq,t0,t1,t5,t6]
      rw[if_neg (by simp[hpx])] at hft
      exact bE hk (by omega) ⟨kk,cur,hc4,hcl,by omega,by rw[← Nat.add_assoc,hft]; exact hct,fun m hm=>hcj m (by omega),hold4,t0,t1,t5,by push_cast; rfl⟩
    | false =>
      have hkl:(aS cur).getD kk []=[gi (cur.getD kk dN).aD,gi (cur.getD kk dN).dot]:=kJ (by omega)
      have hse:(aS cur).set kk [gi x.aD,gi x.dot]=aS (cur.set kk x):=by simp[aS,List.map_set,bu]
      simp (disch:=omega) only [↓wr,↓reduceIte,wq,ah,ag,aj,ab,ae,af,ai,isNil,Nat.reduceEqDiff,Nat.reduceAdd,Nat.reduceLT,Nat.reduceLeDiff,Int.reduceNeg,Int.reduceToNat,reduceCtorEq,t0,t1,t5,t6,hqq,hc4,hkl,hse]
      refine ⟨by omega,by rw[bb]; omega,?_⟩
      rw[if_pos (by simp[hpx])] at hft
      refine bE hk (by omega) ⟨kk+1,cur.set kk x,by simp[View.set],by simp[hcl],by omega,?_,fun j hj=>?_,fun j hd hj=>by simp only[View.set]; rw[if_neg hj]; exact hold4 j hd hj,t0,t1,by push_cast; rfl,by push_cast; rfl⟩
      · rw[← Nat.add_assoc,hft,← hct,List.take_add_one,List.take_set_of_le (Nat.le_refl _),List.getElem?_set_self (by omega)]; rfl
      · rw[yl _ _ _ _ _ (by omega),if_neg (by omega)]
        exact hcj j (by omega)
  · have hi2:k0+1+i=l.length:=by omega
    rw[hi2,List.take_length] at hct
    have hz:l.length - kk≠0:=by omega
    have hkl:kk=(l.filter fun x=>!p x).length:=by rw[← hct,List.length_take]; omega
    simp (disch:=omega) only [↓wr,↓reduceIte,wq,ah,ag,aj,ab,ae,af,ai,isNil,Nat.reduceEqDiff,Nat.reduceAdd,Nat.reduceLT,Nat.reduceLeDiff,Int.reduceNeg,Int.reduceToNat,reduceCtorEq,t0,t5,pI (id:=id) (off:=0) (k:=l.length) (m:=kk) (by omega)]
    refine Di (id:=id) (off:=kk) (len:=l.length - kk) (sz:=2) (bytes:=16) (s:=2) (z:=[gi 0,gi 0]) (es:=aS cur) (by kernel_rfl) (by first | rfl | (simp (disch:=omega) only [↓wr,↓reduceIte,wq,ah,ag,aj,ab,ae,af,ai,isNil,Nat.reduceEqDiff,Nat.reduceAdd,Nat.reduceLT,Nat.reduceLeDiff,Int.reduceNeg,Int.reduceToNat,reduceCtorEq]; try rw[Nat.zero_add])) hc (by rw[bb]; omega) hz ?_
    have hsr:en (aS cur) kk (List.replicate (l.length - kk) [gi 0,gi 0])=aS (l.filter fun x=>!p x) ++ List.replicate (l.length - kk) [gi 0,gi 0]:=by
      have h1:=pr (List.replicate (l.length - kk) [gi 0,gi 0]) (aS (cur.take kk)) (aS (cur.drop kk)) (by simp[aS]; omega)
      rw[show aS (cur.take kk) ++ aS (cur.drop kk)=aS cur by rw[aS,aS,← List.map_append,List.take_append_drop]; rfl] at h1
      rw[show (aS (cur.take kk)).length=kk by rw[bb,List.length_take]; omega] at h1
      rw[h1,hct,List.drop_eq_nil_of_le (by simp[aS]; omega),List.append_nil]
    rw[hsr]
    simp (disch:=omega) only [↓wr,↓reduceIte,wq,ah,ag,aj,ab,ae,af,ai,isNil,Nat.reduceEqDiff,Nat.reduceAdd,Nat.reduceLT,Nat.reduceLeDiff,Int.reduceNeg,Int.reduceToNat,reduceCtorEq,t0,t5,vI (id:=id) (off:=0) (k:=l.length) (m:=kk) (by omega)]
    right
    exact ⟨id,List.replicate (l.length - kk) [gi 0,gi 0],rfl,by rw[hkl],by simp[View.set],fun j hd hj=>(show (H'.set id _) j=H j by simp only[View.set]; rw[if_neg hj]; exact hold j hd hj)⟩
set_option maxHeartbeats 2000000 in
theorem I2 (l:List aJ) (hl:l.length≤100000) (H:View):aA Tryz.prog 58 [.aK (aS l)] H fun r H'=>aN H' r 2 (aS l)∧cz H H' r:=by
  cases l with
  | nil =>
    refine ⟨by kernel_rfl,?_⟩
    rintro h rfl
    refine ⟨.emp 0,h,w7 (.aK []) (fun Z μ hp x hx=>?_) h,.refl _,.nil,.emp⟩
    rcases AI hx with ⟨_,a,cap,rfl,hz⟩ | ⟨b,off,esz,cap,c,rfl,_,_,_⟩
    · exact ⟨a,cap,rfl,hz⟩
    · exact ⟨_,cap,rfl,fun h=>by simp at h⟩
  | cons x r =>
    refine aA.of mixed bW ?_
    simp only[List.length_cons] at hl
    have hlen:(aS (x :: r)).length=r.length+1:=by rw[bb]; rfl
    have hne:aS (x :: r)=bu x :: aS r:=rfl
    simp (disch:=omega) only [↓wr,↓reduceIte,wq,ah,ag,aj,ab,ae,af,ai,isNil,Nat.reduceEqDiff,Nat.reduceAdd,Nat.reduceLT,Nat.reduceLeDiff,Int.reduceNeg,Int.reduceToNat,reduceCtorEq,bN,hne]
    rw[← hne]
    refine nA (es:=[]) (.inl ⟨rfl,2,rfl⟩) (by simp[aS,bu,List.all_map,aR]) (by unfold aW; rw[hlen]; simp; omega) (by unfold aW; rw[hlen]; simp; omega) ?_
    intro u2 H2 o2 l2
    simp (disch:=omega) only [↓wr,↓reduceIte,wq,ah,ag,aj,ab,ae,af,ai,isNil,Nat.reduceEqDiff,Nat.reduceAdd,Nat.reduceLT,Nat.reduceLeDiff,Int.reduceNeg,Int.reduceToNat,reduceCtorEq]
    refine ⟨by simpa using o2,fun j hj=>?_⟩
    exact l2 j hj (by simp[owner])
theorem DL (g:an) (hsm:g.Small) (u:V) (H:View) (ho:aN H u 2 (aS [])):aA Tryz.prog 56 [.agg (aw g),u] H fun r H'=>aN H' r 2 (aS []):=by
  refine aA.of mixed ow ?_
  have hno:=hsm.names
  simp (disch:=omega) only [↓wr,↓reduceIte,wq,ah,ag,aj,ab,ae,af,ai,isNil,Nat.reduceEqDiff,Nat.reduceAdd,Nat.reduceLT,Nat.reduceLeDiff,Int.reduceNeg,Int.reduceToNat,reduceCtorEq,mF,aw,encS]
  refine aE.gF ((zw [] (by simp) u H ho).mono ?_)
  rintro r H1 ⟨o1,_⟩
  simp (disch:=omega) only [↓wr,↓reduceIte,wq,ah,ag,aj,ab,ae,af,ai,isNil,Nat.reduceEqDiff,Nat.reduceAdd,Nat.reduceLT,Nat.reduceLeDiff,Int.reduceNeg,Int.reduceToNat,reduceCtorEq,aw,encS]
  refine ⟨⟨Nat.le_refl _,by unfold aW; omega,by unfold aW; omega⟩,fun h0=>?_,fun h0 q hq=>?_⟩
  all_goals
    try have o1:=(show bf H1 [(r,2,aS [])] from ⟨fun x hx=>by simp at hx; subst hx; exact o1,by cases hr:owner r <;> simp[List.filterMap_cons,hr]⟩).fresh (o:=.arr 1 (List.replicate g.az.length [gb false])) hq |>.head
    have hlr:cH r=some 0:=o1.len
    refine bK.intro (fun m T H'=>aN H' r 2 (aS [])∧T 5=r∧T 7=gi 0) 0 ⟨o1,rfl,rfl⟩ ?_
    rintro m T H' ⟨o2,t5,t7⟩
    simp (disch:=omega) only [↓wr,↓reduceIte,wq,ah,ag,aj,ab,ae,af,ai,isNil,Nat.reduceEqDiff,Nat.reduceAdd,Nat.reduceLT,Nat.reduceLeDiff,Int.reduceNeg,Int.reduceToNat,reduceCtorEq,kj,t5,t7,hlr]
    refine au.dec (fun h=>by simp at h) (fun _=>?_)
    simp (disch:=omega) only [↓wr,↓reduceIte,wq,ah,ag,aj,ab,ae,af,ai,isNil,Nat.reduceEqDiff,Nat.reduceAdd,Nat.reduceLT,Nat.reduceLeDiff,Int.reduceNeg,Int.reduceToNat,reduceCtorEq,t5]
    refine aE.gF ((Ah [] (by simp) r H' o2).mono ?_)
    rintro r2 H3 ⟨_,o3,_⟩
    simp (disch:=omega) only [↓wr,↓reduceIte,wq,ah,ag,aj,ab,ae,af,ai,isNil,Nat.reduceEqDiff,Nat.reduceAdd,Nat.reduceLT,Nat.reduceLeDiff,Int.reduceNeg,Int.reduceToNat,reduceCtorEq]
    exact o3
theorem C6 (g:an) (hg:g.Ok) (hsm:g.Small) (x:aJ) (hx:bO x.aD∧bO x.dot) (H:View):aA Tryz.prog 59 [.agg (bu x),.aU (aw g) 0] H fun r H'=>r=gb (!dI g x)∧H'=H:=by
  refine aA.of mixed uf ?_
  have hh:=MB g hg hsm x hx
  simp only[aw,encS,bu] at hh
  simp (disch:=omega) only [↓wr,↓reduceIte,wq,ah,ag,aj,ab,ae,af,ai,isNil,Nat.reduceEqDiff,Nat.reduceAdd,Nat.reduceLT,Nat.reduceLeDiff,Int.reduceNeg,Int.reduceToNat,reduceCtorEq,ph,aw,encS,bu]
  refine aE.pure hh (by kernel_rfl) ?_
  simp (disch:=omega) only [↓wr,↓reduceIte,wq,ah,ag,aj,ab,ae,af,ai,isNil,Nat.reduceEqDiff,Nat.reduceAdd,Nat.reduceLT,Nat.reduceLeDiff,Int.reduceNeg,Int.reduceToNat,reduceCtorEq]
set_option maxHeartbeats 4000000 in
theorem E9 (g:an) (hg:g.Ok) (hsm:g.Small) (l:List aJ) (hl:l.length≤10000) (hn:∀ x∈l,bO x.aD∧bO x.dot):dW Tryz.prog 22 [.agg (aw g),.aK (aS l)] (.aK (aS (cn g (l.filter (dI g))))):=by
  refine dW.of (by
    intro v hv; simp at hv
    rcases hv with rfl | rfl
    · exact cI _ (dr g)
    · exact M5 _) ?_
  refine aA.of mixed wm ?_
  simp (disch:=omega) only [↓wr,↓reduceIte,wq,ah,ag,aj,ab,ae,af,ai,isNil,Nat.reduceEqDiff,Nat.reduceAdd,Nat.reduceLT,Nat.reduceLeDiff,Int.reduceNeg,Int.reduceToNat,reduceCtorEq,rZ,aw,encS]
  refine aE.gF ((I2 l (by omega) _).mono ?_)
  rintro r H1 ⟨o1,_⟩
  simp (disch:=omega) only [↓wr,↓reduceIte,wq,ah,ag,aj,ab,ae,af,ai,isNil,Nat.reduceEqDiff,Nat.reduceAdd,Nat.reduceLT,Nat.reduceLeDiff,Int.reduceNeg,Int.reduceToNat,reduceCtorEq]
  refine aE.gF ((E0 l (by omega) r 59 [.aU (aw g) 0] (fun x=>!dI g x) H1 o1 (fun H x hx=>C6 g hg hsm x (hn x hx) H)).mono ?_)
  rintro r2 H2 ⟨_,o2,_⟩
  have hfe:l.filter (fun x=>!(!dI g x))=l.filter (dI g):=by simp
  have hfl:=List.length_filter_le (dI g) l
  rw[hfe] at o2
  have hall:∀ x∈l.filter (dI g),bt g=true∧cm g x:=fun x hx=>k8.1 (List.mem_filter.1 hx).2
  generalize l.filter (dI g)=l' at *
  simp (disch:=omega) only [↓wr,↓reduceIte,wq,ah,ag,aj,ab,ae,af,ai,isNil,Nat.reduceEqDiff,Nat.reduceAdd,Nat.reduceLT,Nat.reduceLeDiff,Int.reduceNeg,Int.reduceToNat,reduceCtorEq]
  cases l' with
  | nil =>
    refine aE.gF ((DL g hsm r2 H2 o2).mono ?_)
    rintro r3 H3 o3
    simp (disch:=omega) only [↓wr,↓reduceIte,wq,ah,ag,aj,ab,ae,af,ai,isNil,Nat.reduceEqDiff,Nat.reduceAdd,Nat.reduceLT,Nat.reduceLeDiff,Int.reduceNeg,Int.reduceToNat,reduceCtorEq]
    rintro h' rfl
    rw[Kw]
    exact I3 o3
  | cons y l' =>
    have hf:=bC (hall y (by simp)).1
    refine aE.gF ((wC g hf (y :: l') (fun x hx=>(hall x hx).2) (by omega) r2 H2 o2).mono ?_)
    rintro r3 H3 ⟨o3,_⟩
    simp (disch:=omega) only [↓wr,↓reduceIte,wq,ah,ag,aj,ab,ae,af,ai,isNil,Nat.reduceEqDiff,Nat.reduceAdd,Nat.reduceLT,Nat.reduceLeDiff,Int.reduceNeg,Int.reduceToNat,reduceCtorEq]
    rintro h' rfl
    exact I3 o3
def fK (l:List UInt8):Value:=.string ⟨l.toArray⟩
theorem Ea {a b:List UInt8} : ((⟨a.toArray⟩:ByteArray) == ⟨b.toArray⟩)=(a == b):=by
  show (a.toArray == b.toArray)=_
  simp
theorem EC {P:Program} {kt:TypeId} (h:P.underlying kt=some .string):xU P kt fK where
  ty:=⟨_,h,fun a b=>by simp only[Instr.sameNow,fK,Ea],fun a e=>zJ h trivial e 9999 _⟩
  bits:=fun a b hab=>by
    have:a=b:=by simpa using hab
    subst this
    show ((⟨a.toArray⟩:ByteArray) == ⟨a.toArray⟩)=true
    rw[Ea]; simp
def my (l:List aJ):List Int:=l.flatMap fun x=>[x.aD+1,x.dot]
theorem KY (l:List aJ):(my l).length=2 * l.length:=by
  induction l with
  | nil=>rfl
  | cons x l ih=>simp only[my,List.flatMap_cons,List.length_append,List.length_cons,List.length_nil] at ih ⊢; omega
theorem yO:∀ l:List aJ,jl ((my l).map fun n=>[gy n])=some (eL l)
  | []=>rfl
  | x :: l=>by
    have ih:=yO l
    simp only[my,eL,List.flatMap_cons,List.cons_append,List.nil_append,List.map_cons,jl] at ih ⊢
    rw[ih]; rfl
theorem LZ {x:Int} (h1:0≤x) (h2:x < 256):IntKind.wrap .u8 x=x:=by
  unfold IntKind.wrap
  have e1:(2:Int) ^ IntKind.u8.bits=256:=by rfl
  have e2:IntKind.u8.signed=false:=by rfl
  simp only[e1,e2,Bool.false_and,Bool.false_eq_true,if_false]
  omega
theorem Nb {P:Program} {T:Env} {H:View} {K:V→View→Prop} {w:cp (T,H,K)} {t e d ty:TypeId} {x:Operand} {u:V} {xs:List (List V)} {rd:List Nat} {l:List UInt8} {k:Nat} (hu:P.underlying t=some (.slice e)) (he:P.underlying e=some (.int .u8)) (hd:P.underlying d=some .string)
    (hx:ev T x=u) (hl:bG H u=some (xs,rd)) (hn:cH u=some k) (ht:jl xs=some l) (hk:K (.val (fK l)) H):m0 P (.convert t d x) ty T H K w:=by
  intro n _
  have hb:jd P t d=true:=by simp[jd,hu]
  refine ⟨.val (fK l),.none,rd,?_,hk⟩
  simp only[sI,bT,oper]
  rw[if_pos hb,hx]
  simp[ko,hu,he,hd,hl,hn,ht,fK]
def rB:SC :=
  .seq (al [aO 15 .lss 14 13]) <|
  .seq (.cond (.tmp 15) (.skip) (.exit 0)) <|
  .seq (.block 1 (.seq (al [aZ 16 2 12 14,aH 17 2 16,((some 7),.op (.alloc [(.val (.int .i64 0)),(.val (.int .i64 0))])),(none,.op (.store 2 (.tmp 7) (.tmp 17)))]) <|
  .seq (al [aH 19 4 2,aH 20 2 7,aG 21 50 [19,20],aa 18 21,ct 22 0 18,ct 23 1 18,aa 8 22,aa 9 23]) <|
  .seq (al [aa 24 9]) <|
  .cond (.tmp 24) (.seq (al [aH 25 4 2,aa 26 8,aG 27 111 [25,26],aa 10 27]) <|
  al [aa 28 5,aa 29 10,aa 30 5,aa 31 10,((some 32),.op (.old (.lookup 98 (.tmp 30) (.tmp 31) false) 27)),ao 33 0 7,aq 34 33,ao 35 1 7,aq 36 35,ax 37 .add 36 1,((some 38),.op (.build [(.val (.int .i64 0)),(.val (.int .i64 0))] [(0,1,(.tmp 34)),(1,1,(.tmp 37))])),((some 39),.op (.bD 1 2 [(.val (.int .i64 0)),(.val (.int .i64 0))] [(0,(.tmp 38))])),((some 40),.op (.app 2 16 (.tmp 32) (.tmp 39))),(none,.op (.old (.mapUpdate 98 (.tmp 28) (.tmp 29) (.tmp 40)) 0))]) (.skip))) <|
  al [ax 41 .add 14 1,aa 14 41]
def uY:SF:=⟨.seq (al [b6 2 0,((some 4),.op (.bj (.val (.val (.map none)))))]) <|
  .seq (al [((some 11),.op (.kX)),aa 5 11]) <|
  .seq (.seq (al [aa 12 1,aM 13 12,aF 14 0]) <|
  .block 0 (.loop rB)) <|
  .seq (al [aa 42 5,aa 4 42]) <|
  .ret,
  [.tmp 4],43⟩
theorem yi:bh Tryz.prog 63 [2]=some uY:=by kernel_rfl
def vp:SC :=
  .seq (al [aO 9 .lss 8 7]) <|
  .seq (.cond (.tmp 9) (.skip) (.exit 0)) <|
  .seq (.block 1 (.seq (al [aZ 10 2 6 8,aH 11 2 10,((some 5),.op (.alloc [(.val (.int .i64 0)),(.val (.int .i64 0))])),(none,.op (.store 2 (.tmp 5) (.tmp 11)))]) <|
  al [aa 12 3,ao 13 0 5,aq 14 13,ax 15 .add 14 1,((some 16),.op (.conv .u8 (.tmp 15))),ao 17 1 5,aq 18 17,((some 19),.op (.conv .u8 (.tmp 18))),((some 20),.op (.bD 2 1 [(.val (.int .u8 0))] [(0,(.tmp 16)),(1,(.tmp 19))])),((some 21),.op (.app 1 1 (.tmp 12) (.tmp 20))),aa 3 21])) <|
  al [ax 22 .add 8 1,aa 8 22]
def yQ:SF:=⟨.seq (.region false [⟨none,[((some 2),.op (.bj (.val (.val (.string ⟨#[]⟩)))))]⟩]) <|
  .seq (al [((some 3),.op (.bj (.val (.emp 1))))]) <|
  .seq (.seq (al [aa 6 0,aM 7 6,aF 8 0]) <|
  .block 0 (.loop vp)) <|
  .seq (al [aa 23 3,((some 24),.op (.old (.convert 91 9 (.tmp 23)) 9)),aa 2 24]) <|
  .ret,
  [.tmp 2],25⟩
theorem Cm:bh Tryz.prog 62 []=some yQ:=by kernel_rfl
set_option maxHeartbeats 4000000 in
theorem EH (g:an) (hf:g.dg) (l:List aJ) (hl:∀ x∈l,cm g x) (hn:l.length≤10000) (u:V) (H:View) (ho:aN H u 2 (aS l)):aA Tryz.prog 62 [u] H fun r H'=>r=.val (fK (eL l))∧∀ id,H id≠.dead→H' id=H id:=by
  refine aA.of mixed Cm ?_
  have hlen:cH u=some l.length:=by rw[ho.len,bb]
  have hru:=hf.rules
  simp (disch:=omega) only [↓wr,↓reduceIte,wq,ah,ag,aj,ab,ae,af,ai,isNil,Nat.reduceEqDiff,Nat.reduceAdd,Nat.reduceLT,Nat.reduceLeDiff,Int.reduceNeg,Int.reduceToNat,reduceCtorEq,yQ,hlen]
  refine bK.up l.length (fun i T H'=>∃ b:V,aN H' b 1 ((my (l.take i)).map fun n=>[gy n])∧cz H H' b∧T 3=b∧T 6=u∧T 7=gi l.length∧T 8=gi i) ⟨.emp 1,.nil,.emp,rfl,rfl,rfl,rfl⟩ ?_
  rintro i k T H' hk ⟨b,hb,fb,t3,t6,t7,t8⟩
  simp (disch:=omega) only [↓wr,↓reduceIte,wq,ah,ag,aj,ab,ae,af,ai,isNil,Nat.reduceEqDiff,Nat.reduceAdd,Nat.reduceLT,Nat.reduceLeDiff,Int.reduceNeg,Int.reduceToNat,reduceCtorEq,vp,t3,t6,t7,t8]
  refine au.dec (fun hc=>?_) (fun hc=>?_)
  · have hx:l[i]?=some (l[i]'(by omega)):=List.getElem?_eq_getElem (by omega)
    have hxm:=hl _ (List.getElem_mem (show i < l.length by omega))
    have htk:l.take (i+1)=l.take i ++ [l[i]'(by omega)]:=by rw[List.take_add_one,hx]; rfl
    generalize l[i]'(by omega)=x at hx hxm htk
    have hr6:=dE hf hxm.1
    have hx1:=hxm.1
    have hx2:=hxm.2
    obtain ⟨id,hu,hid⟩:=ho.sl (by rw[bb]; omega)
    have hid':H' id=.arr 2 (aS l):=by rw[(fb id (by rw[hid]; simp)).1,hid]
    rw[bb] at hu
    subst hu
    have hkl:=KY (l.take i)
    rw[List.length_take] at hkl
    simp (disch:=omega) only [↓wr,↓reduceIte,wq,ah,ag,aj,ab,ae,af,ai,isNil,Nat.reduceEqDiff,Nat.reduceAdd,Nat.reduceLT,Nat.reduceLeDiff,Int.reduceNeg,Int.reduceToNat,reduceCtorEq,t3,t6,t7,t8,hid',vt hx,LZ (x:=x.aD+1) (by omega) (by omega),LZ (x:=x.dot) (by omega) (by omega)]
    refine ⟨by omega,by rw[bb]; omega,?_⟩
    intro q hq q2 hq2
    obtain ⟨hne,hq3⟩:=fA hq2 (by simp)
    rw[if_neg hne] at hq3
    have hqH:∀ j,H j≠.dead→j≠q∧j≠q2:=fun j hj=>by
      have h1:=(fb j hj).1
      exact ⟨fun e=>hj (by rw[e] at h1 ⊢; rw[← h1,hq]),fun e=>hj (by rw[e] at h1 ⊢; rw[← h1,hq3])⟩
    have hb3:∀ a0 a1 a2,aN (((H'.set q a0).set q a1).set q2 a2) b 1 ((my (l.take i)).map fun n=>[gy n]):=fun a0 a1 a2=>hb.keep fun id hid=>by
      have h1:=(hb.live hid).1
      have e1:id≠q:=by rintro rfl; rw[hq] at h1; simp at h1
      have e2:id≠q2:=by rintro rfl; rw[hq3] at h1; simp at h1
      simp[View.set,e1,e2]
    have hset:∀ a0 a1 a2 j,H j≠.dead→(((H'.set q a0).set q a1).set q2 a2) j=H j:=fun a0 a1 a2 j hj=>by
      obtain ⟨e1,e2⟩:=hqH j hj
      simp[View.set,e1,e2,(fb j hj).1]
    have hel:∀ (a0 a1:bI) (e1 e2:List V),bG (((H'.set q a0).set q a1).set q2 (.arr 1 [e1,e2])) (.sl q2 0 2 1)=some ([e1,e2],[q2]):=fun a0 a1 e1 e2=>by simp[bG,View.set]
    simp (disch:=omega) only [↓wr,↓reduceIte,wq,ah,ag,aj,ab,ae,af,ai,isNil,Nat.reduceEqDiff,Nat.reduceAdd,Nat.reduceLT,Nat.reduceLeDiff,Int.reduceNeg,Int.reduceToNat,reduceCtorEq,hel,t3]
    refine nA (hb3 _ _ _) (by simp[aR]) (by unfold aW; simp; omega) (by unfold aW; simp; omega) ?_
    intro b2 H5 o5 l5
    simp (disch:=omega) only [↓wr,↓reduceIte,wq,ah,ag,aj,ab,ae,af,ai,isNil,Nat.reduceEqDiff,Nat.reduceAdd,Nat.reduceLT,Nat.reduceLeDiff,Int.reduceNeg,Int.reduceToNat,reduceCtorEq,t6,t7,t8]
    refine bE hk (by omega) ⟨b2,?_,fun j hj=>?_,rfl,t6,t7,rfl⟩
    · have:(my (l.take (i+1))).map (fun n=>[gy n])=(my (l.take i)).map (fun n=>[gy n]) ++ [[gy (x.aD+1)],[gy x.dot]]:=by
        rw[htk]; simp[my]
      rw[this]; exact o5
    · obtain ⟨k1,k2⟩:=l5 j (by rw[hset _ _ _ j hj]; exact hj) (fb j hj).2
      exact ⟨by rw[k1,hset _ _ _ j hj],k2⟩
  · rw[List.take_of_length_le (by omega)] at hb
    simp (disch:=omega) only [↓wr,↓reduceIte,wq,ah,ag,aj,ab,ae,af,ai,isNil,Nat.reduceEqDiff,Nat.reduceAdd,Nat.reduceLT,Nat.reduceLeDiff,Int.reduceNeg,Int.reduceToNat,reduceCtorEq,t3]
    have hel:∃ rd,bG H' b=some ((my l).map (fun n=>[gy n]),rd):=by
      rcases hb with ⟨e,k,rfl⟩ | ⟨n,rfl,hn⟩
      · exact ⟨[],by rw[e]; rfl⟩
      · rcases hq:(my l).map (fun n=>[gy n]) with _ | ⟨y,ys⟩
        · exact ⟨[],by simp[bG]⟩
        · rw[hq] at hn
          exact ⟨[n],by
            have:=oM (H:=H') n 0 ys.length 1 1 (y :: ys) hn (by simp)
            rw[List.length_cons,this]; simp⟩
    obtain ⟨rd,hel⟩:=hel
    refine Nb (u:=b) (xs:=(my l).map fun n=>[gy n]) (rd:=rd) (k:=((my l).map fun n=>[gy n]).length) (l:=eL l) Tryz.underlying91 Tryz.underlying5 Tryz.underlying9 (by simp (disch:=omega) only [↓wr,↓reduceIte,wq,ah,ag,aj,ab,ae,af,ai,isNil,Nat.reduceEqDiff,Nat.reduceAdd,Nat.reduceLT,Nat.reduceLeDiff,Int.reduceNeg,Int.reduceToNat,reduceCtorEq]; exact t3) hel hb.len (yO l) ?_
    simp (disch:=omega) only [↓wr,↓reduceIte,wq,ah,ag,aj,ab,ae,af,ai,isNil,Nat.reduceEqDiff,Nat.reduceAdd,Nat.reduceLT,Nat.reduceLeDiff,Int.reduceNeg,Int.reduceToNat,reduceCtorEq]
    exact fun id hid=>(fb id hid).1
theorem vq (g:an) (p:List aJ) (y:aJ) (s:Int):ba g (p ++ [y]) s=if bM g y=(s,true) then ba g p s ++ [⟨y.aD,y.dot+1⟩] else ba g p s:=by
  unfold ba
  rw[List.filter_append,List.map_append]
  split
  · rename_i h; simp[h]
  · rename_i h; simp[h]
def gu (g:an) (p:List aJ) (A:bY Int):List eJ:=A.map fun x=>(x.2.1,2,aS (ba g p (aT g x.1.toNat)))
structure p9 (g:an) (p:List aJ) (H0 H:View) (q:Nat) (A:bY Int):Prop where
  mp:∃ c,H q=.map (bL (Value.int .i64) A) c
  nd:(A.map (·.1)).Nodup
  own:bf H (gu g p A)
  ne:∀ x∈A,0≤x.1∧ba g p (aT g x.1.toNat)≠[]
  all:∀ k:Nat,ba g p (aT g k)≠[]→((k:Nat):Int)∈A.map (·.1)
  old:∀ id,H0 id≠.dead→H id=H0 id
  q0:H0 q=.dead
  new:∀ x∈A,∀ id,owner x.2.1=some id→H0 id=.dead
theorem getM_none {A:bY Int} {k:Int} : getM A k=none↔k ∉ A.map (·.1):=by
  induction A with
  | nil=>simp[getM]
  | cons x A ih =>
    unfold getM at ih ⊢
    rw[List.find?_cons]
    by_cases h:k=x.1
    · simp[h]
    · simp only[beq_eq_false_iff_ne.2 h,List.map_cons,List.mem_cons,not_or]
      rw[ih]
      simp[h]
theorem tu {A:bY Int} {k:Int} {v:V} (h:getM A k=some v):∃ A1 A2 b,A=A1 ++ (k,v,b) :: A2∧k ∉ A1.map (·.1)∧∀ v' c,bR k v' c A=A1 ++ (k,v',b) :: A2:=by
  induction A with
  | nil=>simp[getM] at h
  | cons x A ih =>
    unfold getM at h ih
    rw[List.find?_cons] at h
    by_cases e:k=x.1
    · simp only[e,beq_self_eq_true,Option.map_some,Option.some.injEq] at h
      refine ⟨[],A,x.2.2,by rw[e,← h]; rfl,by simp,fun v' c=>?_⟩
      rw[bR,e,beq_self_eq_true,if_pos rfl]; rfl
    · rw[beq_eq_false_iff_ne.2 e] at h
      obtain ⟨A1,A2,b,rfl,h2,h3⟩:=ih h
      refine ⟨x :: A1,A2,b,rfl,by simp only[List.map_cons,List.mem_cons,not_or]; exact ⟨e,h2⟩,fun v' c=>?_⟩
      rw[bR,beq_eq_false_iff_ne.2 e,h3]; rfl
theorem Lv {A:bY Int} {k:Int} (h:k ∉ A.map (·.1)) (v:V) (c:Nat):bR k v c A=A ++ [(k,v,c)]:=by
  induction A with
  | nil=>rfl
  | cons x A ih =>
    simp only[List.map_cons,List.mem_cons,not_or] at h
    rw[bR,beq_eq_false_iff_ne.2 h.1,ih h.2]; rfl
theorem p9.skip {g:an} {p:List aJ} {H0 H:View} {q:Nat} {A:bY Int} (h:p9 g p H0 H q A) {y:aJ} (hy:(bM g y).2=false):p9 g (p ++ [y]) H0 H q A:=by
  have e:∀ s,ba g (p ++ [y]) s=ba g p s:=fun s=>by rw[vq,if_neg (fun h=>by rw[h] at hy; simp at hy)]
  have e2:gu g (p ++ [y]) A=gu g p A:=by simp only[gu,e]
  exact ⟨h.mp,h.nd,by rw[e2]; exact h.own,fun x hx=>by rw[e]; exact h.ne x hx,fun k hk=>by rw[e] at hk; exact h.all k hk,h.old,h.q0,h.new⟩
theorem p9.val {g:an} {p:List aJ} {H0 H:View} {q:Nat} {A:bY Int} (h:p9 g p H0 H q A) (r:Nat):aN H ((getM A r).getD (.emp 1)) 2 (aS (ba g p (aT g r))):=by
  cases hg:getM A r with
  | none =>
    have hn:=getM_none.1 hg
    have:ba g p (aT g r)=[]:=Decidable.byContradiction fun hne=>hn (h.all r hne)
    rw[this]; exact .nil
  | some v =>
    obtain ⟨A1,A2,b,rfl,_,_⟩:=tu hg
    have:=h.own.1 (v,2,aS (ba g p (aT g r))) (by simp[gu])
    exact this
theorem p9.put {g:an} {p:List aJ} {H0 H:View} {q:Nat} {A:bY Int} (h:p9 g p H0 H q A) {y:aJ} {r:Nat} (hy:bM g y=(aT g r,true)) {H1:View} {v':V} (o1:aN H1 v' 2 (aS (ba g p (aT g r) ++ [⟨y.aD,y.dot+1⟩]))) (l1:Left H H1 ((getM A r).getD (.emp 1)) v') (c c':Nat) :
    p9 g (p ++ [y]) H0 (H1.set q (.map (bL (Value.int .i64) (bR (r:Int) v' c A)) c')) q (bR (r:Int) v' c A):=by
  obtain ⟨c0,hq⟩:=h.mp
  have hr:ba g (p ++ [y]) (aT g r)=ba g p (aT g r) ++ [⟨y.aD,y.dot+1⟩]:=by rw[vq,if_pos hy]
  have hne:∀ x:Int × V × Nat,0≤x.1→x.1≠r→ba g (p ++ [y]) (aT g x.1.toNat)=ba g p (aT g x.1.toNat):=fun x h0 hx=>by
    rw[vq,if_neg]
    intro e
    rw[hy] at e
    simp only[Prod.mk.injEq,and_true] at e
    have h1:=xE g r
    rw[e,xE] at h1
    omega
  have howq:owner ((getM A r).getD (.emp 1))≠some q:=fun e=>by
    have:=((h.val r).live e).1
    rw[hq] at this; simp at this
  have hq1:H1 q≠.dead∧owner v'≠some q:=by
    obtain ⟨k1,k2⟩:=l1 q (by rw[hq]; simp) howq
    exact ⟨by rw[k1,hq]; simp,k2⟩
  have hold:∀ id,H0 id≠.dead→id≠q∧owner ((getM A r).getD (.emp 1))≠some id:=fun id hid=>by
    refine ⟨fun e=>hid (by rw[e]; exact h.q0),fun e=>?_⟩
    cases hg:getM A r with
    | none=>rw[hg] at e; simp[owner] at e
    | some v =>
      rw[hg] at e
      obtain ⟨A1,A2,b,rfl,_,_⟩:=tu hg
      exact hid (h.new (r,v,b) (by simp) id e)
  have hold2:∀ id,H0 id≠.dead→(H1.set q (.map (bL (Value.int .i64) (bR (r:Int) v' c A)) c')) id=H0 id:=fun id hid=>by
    simp only[View.set]
    rw[if_neg (hold id hid).1,(l1 id (by rw[h.old id hid]; exact hid) (hold id hid).2).1,h.old id hid]
  have hv':∀ id,owner v'=some id→H0 id=.dead:=fun id e=>Classical.byContradiction fun hid=>(l1 id (by rw[h.old id hid]; exact hid) (hold id hid).2).2 e
  have hset:∀ {L:List eJ},bf H1 L→(∀ x∈L,owner x.1≠some q)→bf (H1.set q (.map (bL (Value.int .i64) (bR (r:Int) v' c A)) c')) L:=fun hL hx=>⟨fun x hxm=>(hL.1 x hxm).other (hx x hxm),hL.2⟩
  have hmapq:∀ x∈A,owner x.2.1≠some q:=fun x hx=>h.own.HH hq _ (List.mem_map.2 ⟨x,hx,rfl⟩)
  cases hg:getM A r with
  | none =>
    have hn:=getM_none.1 hg
    rw[hg] at l1
    rw[Lv hn] at *
    have e1:gu g (p ++ [y]) (A ++ [((r:Int),v',c)])=gu g p A ++ [(v',2,aS (ba g p (aT g r) ++ [⟨y.aD,y.dot+1⟩]))]:=by
      simp only[gu,List.map_append,List.map_cons,List.map_nil,Int.toNat_natCast,hr]
      congr 1
      refine List.map_congr_left fun x hx=>?_
      rw[hne x (h.ne x hx).1 (fun e=>hn (List.mem_map.2 ⟨x,hx,e⟩))]
    refine ⟨⟨c',by simp[View.set]⟩,?_,?_,fun x hx=>?_,fun k hk=>?_,hold2,h.q0,fun x hx id e=>?_⟩
    · rw[List.map_append,List.nodup_append]
      refine ⟨h.nd,by simp,fun a ha b hb e=>?_⟩
      simp at hb; subst hb; subst e; exact hn ha
    · rw[e1]
      have ho:bf H1 ((v',2,aS (ba g p (aT g r) ++ [⟨y.aD,y.dot+1⟩])) :: gu g p A):=(h.own.emp (k:=1) (sz:=2)).left (by simpa using o1) l1
      refine hset (ho.perm (List.perm_append_comm (l₁:=[_]))) fun x hx=>?_
      rcases List.mem_append.1 hx with hx | hx
      · obtain ⟨z,hz,rfl⟩:=List.mem_map.1 hx
        exact hmapq z hz
      · simp at hx; subst hx; exact hq1.2
    · rcases List.mem_append.1 hx with hx | hx
      · rw[hne x (h.ne x hx).1 (fun e=>hn (List.mem_map.2 ⟨x,hx,e⟩))]; exact h.ne x hx
      · simp at hx; subst hx; simp[hr]
    · rw[List.map_append,List.mem_append]
      by_cases e:k=r
      · right; simp[e]
      · left
        refine h.all k ?_
        have:=hne ((k:Int),.any,0) (by simp) (by simp only; omega)
        simp only[Int.toNat_natCast] at this
        rw[← this]; exact hk
    · rcases List.mem_append.1 hx with hx | hx
      · exact h.new x hx id e
      · simp at hx; subst hx; exact hv' id e
  | some v =>
    obtain ⟨A1,A2,b,rfl,hn1,hput⟩:=tu hg
    rw[hg] at l1
    rw[hput] at *
    have hnd:=h.nd
    rw[List.map_append,List.map_cons,List.nodup_append] at hnd
    have hn2:(r:Int) ∉ A2.map (·.1):=(List.nodup_cons.1 hnd.2.1).1
    have hx1:∀ x∈A1,x.1≠r:=fun x hx e=>hn1 (List.mem_map.2 ⟨x,hx,e⟩)
    have hx2:∀ x∈A2,x.1≠r:=fun x hx e=>hn2 (List.mem_map.2 ⟨x,hx,e⟩)
    have hm1:∀ x∈A1,x∈A1 ++ ((r:Int),v,b) :: A2:=fun x hx=>List.mem_append_left _ hx
    have hm2:∀ x∈A2,x∈A1 ++ ((r:Int),v,b) :: A2:=fun x hx=>List.mem_append_right _ (List.mem_cons_of_mem _ hx)
    have e1:gu g (p ++ [y]) (A1 ++ ((r:Int),v',b) :: A2)=gu g p A1 ++ (v',2,aS (ba g p (aT g r) ++ [⟨y.aD,y.dot+1⟩])) :: gu g p A2:=by
      simp only[gu,List.map_append,List.map_cons,Int.toNat_natCast,hr]
      congr 1
      · refine List.map_congr_left fun x hx=>?_
        rw[hne x (h.ne x (hm1 x hx)).1 (hx1 x hx)]
      · congr 1
        refine List.map_congr_left fun x hx=>?_
        rw[hne x (h.ne x (hm2 x hx)).1 (hx2 x hx)]
    have e0:gu g p (A1 ++ ((r:Int),v,b) :: A2)=gu g p A1 ++ (v,2,aS (ba g p (aT g r))) :: gu g p A2:=by
      simp only[gu,List.map_append,List.map_cons,Int.toNat_natCast]
    refine ⟨⟨c',by simp[View.set]⟩,by simpa using h.nd,?_,fun x hx=>?_,fun k hk=>?_,hold2,h.q0,fun x hx id e=>?_⟩
    · rw[e1]
      have h0:=h.own
      rw[e0] at h0
      have ho:bf H1 ((v',2,aS (ba g p (aT g r) ++ [⟨y.aD,y.dot+1⟩])) :: (gu g p A1 ++ gu g p A2)):=(h0.perm List.perm_middle).left o1 l1
      refine hset (ho.perm List.perm_middle.symm) fun x hx=>?_
      rcases List.mem_append.1 hx with hx | hx
      · obtain ⟨z,hz,rfl⟩:=List.mem_map.1 hx
        exact hmapq z (hm1 z hz)
      · rcases List.mem_cons.1 hx with rfl | hx
        · exact hq1.2
        · obtain ⟨z,hz,rfl⟩:=List.mem_map.1 hx
          exact hmapq z (hm2 z hz)
    · rcases List.mem_append.1 hx with hx | hx
      · rw[hne x (h.ne x (hm1 x hx)).1 (hx1 x hx)]; exact h.ne x (hm1 x hx)
      · rcases List.mem_cons.1 hx with rfl | hx
        · simp[hr]
        · rw[hne x (h.ne x (hm2 x hx)).1 (hx2 x hx)]; exact h.ne x (hm2 x hx)
    · by_cases e:k=r
      · subst e; simp
      · have:=hne ((k:Int),.any,0) (by simp) (by simp only; omega)
        simp only[Int.toNat_natCast] at this
        rw[this] at hk
        have:=h.all k hk
        simpa using this
    · rcases List.mem_append.1 hx with hx | hx
      · exact h.new x (hm1 x hx) id e
      · rcases List.mem_cons.1 hx with rfl | hx
        · exact hv' id e
        · exact h.new x (hm2 x hx) id e
theorem p9.fresh {g:an} {p:List aJ} {H0 H:View} {q:Nat} {A:bY Int} (h:p9 g p H0 H q A) {n:Nat} (hn:H n=.dead) (o:bI):p9 g p H0 (H.set n o) q A:=by
  obtain ⟨c,hq⟩:=h.mp
  have e1:q≠n:=by rintro rfl; rw[hn] at hq; simp at hq
  refine ⟨⟨c,by simp[View.set,e1,hq]⟩,h.nd,h.own.fresh hn,h.ne,h.all,fun id hid=>?_,h.q0,h.new⟩
  have e2:id≠n:=by rintro rfl; rw[h.old id hid] at hn; exact hid hn
  simp[View.set,e2,h.old id hid]
set_option maxHeartbeats 8000000 in
theorem Lg (g:an) (hf:g.dg) (l:List aJ) (hl:∀ x∈l,cm g x) (hn:l.length≤10000) (u:V) (H:View) (ho:aN H u 2 (aS l)):aA Tryz.prog 63 [.agg (aw g),u] H fun r H'=>∃ q A,r=.mp q∧p9 g l H H' q A:=by
  refine aA.of mixed yi ?_
  have hlen:cH u=some l.length:=by rw[ho.len,bb]
  have hT:=hf.av
  have hN:=hf.az
  simp (disch:=omega) only [↓wr,↓reduceIte,wq,ah,ag,aj,ab,ae,af,ai,isNil,Nat.reduceEqDiff,Nat.reduceAdd,Nat.reduceLT,Nat.reduceLeDiff,Int.reduceNeg,Int.reduceToNat,reduceCtorEq,uY,aw,encS,hlen]
  intro q hq
  have h0:p9 g [] H (H.set q (.map [] 0)) q []:=⟨⟨0,by simp[View.set,bL]⟩,by simp,⟨by simp[gu],by simp[gu]⟩,by simp,fun k hk=>absurd rfl hk,fun id hid=>by
    have:id≠q:=by rintro rfl; exact hid hq
    simp[View.set,this],hq,by simp⟩
  generalize H.set q (.map [] 0)=H1 at h0
  try simp (disch:=omega) only [↓wr,↓reduceIte,wq,ah,ag,aj,ab,ae,af,ai,isNil,Nat.reduceEqDiff,Nat.reduceAdd,Nat.reduceLT,Nat.reduceLeDiff,Int.reduceNeg,Int.reduceToNat,reduceCtorEq]
  refine bK.up l.length (fun i T H'=>∃ A,p9 g (l.take i) H H' q A∧T 2=.aU (aw g) 0∧T 5=.mp q∧T 12=u∧T 13=gi l.length∧T 14=gi i) ⟨[],h0,rfl,rfl,rfl,rfl,rfl⟩ ?_
  clear h0 hq
  rintro i k T H' hk ⟨A,hM,t2,t5,t12,t13,t14⟩
  simp (disch:=omega) only [↓wr,↓reduceIte,wq,ah,ag,aj,ab,ae,af,ai,isNil,Nat.reduceEqDiff,Nat.reduceAdd,Nat.reduceLT,Nat.reduceLeDiff,Int.reduceNeg,Int.reduceToNat,reduceCtorEq,rB,t2,t5,t12,t13,t14]
  refine au.dec (fun hc=>?_) (fun hc=>?_)
  · have hx:l[i]?=some (l[i]'(by omega)):=List.getElem?_eq_getElem (by omega)
    have hxm:=hl _ (List.getElem_mem (show i < l.length by omega))
    have htk:l.take (i+1)=l.take i ++ [l[i]'(by omega)]:=by rw[List.take_add_one,hx]; rfl
    generalize l[i]'(by omega)=x at hx hxm htk
    have h1:=EJ g hf x hxm
    cases hny:bM g x with
    | mk s okb =>
    have hsb:=y0 hf hxm hny
    rw[hny] at h1
    have hr6:=dE hf hxm.1
    have hx2:=hxm.2
    obtain ⟨id,hu,hid⟩:=ho.sl (by rw[bb]; omega)
    have hid':H' id=.arr 2 (aS l):=by rw[hM.old id (by rw[hid]; simp),hid]
    rw[bb] at hu
    subst hu
    simp only[aw,encS,bu] at h1
    simp (disch:=omega) only [↓wr,↓reduceIte,wq,ah,ag,aj,ab,ae,af,ai,isNil,Nat.reduceEqDiff,Nat.reduceAdd,Nat.reduceLT,Nat.reduceLeDiff,Int.reduceNeg,Int.reduceToNat,reduceCtorEq,t2,t5,t12,t13,t14,hid',vt hx]
    refine ⟨by omega,by rw[bb]; omega,?_⟩
    intro q1 hq1
    rw[set_set]
    have hqq:(H'.set q1 (.arr 2 [[gi x.aD,gi x.dot]])) q1=.arr 2 [[gi x.aD,gi x.dot]]:=by simp[View.set]
    have hM2:=hM.fresh hq1 (.arr 2 [[gi x.aD,gi x.dot]])
    generalize H'.set q1 (.arr 2 [[gi x.aD,gi x.dot]])=H4 at hqq hM2
    clear hM hq1 hid'
    try simp (disch:=omega) only [↓wr,↓reduceIte,wq,ah,ag,aj,ab,ae,af,ai,isNil,Nat.reduceEqDiff,Nat.reduceAdd,Nat.reduceLT,Nat.reduceLeDiff,Int.reduceNeg,Int.reduceToNat,reduceCtorEq,t2,t5,hqq,aw,encS]
    refine aE.pure h1 (by kernel_rfl) ?_
    cases okb with
    | false =>
      simp (disch:=omega) only [↓wr,↓reduceIte,wq,ah,ag,aj,ab,ae,af,ai,isNil,Nat.reduceEqDiff,Nat.reduceAdd,Nat.reduceLT,Nat.reduceLeDiff,Int.reduceNeg,Int.reduceToNat,reduceCtorEq,t2,t5,t12,t13,t14]
      exact bE hk (by omega) ⟨A,by rw[htk]; exact hM2.skip (by rw[hny]),t2,t5,t12,t13,rfl⟩
    | true =>
    have hh:=xG hf hxm hny
    obtain ⟨r1,r2⟩:=FZ hh
    obtain ⟨r3,r4⟩:=EO r1
    obtain ⟨r,hr⟩:∃ r:Nat,jG g s=r:=⟨(jG g s).toNat,by omega⟩
    rw[hr,Int.toNat_natCast] at r4
    have h2:=Lc g hf s hsb
    rw[hr] at h2
    simp only[aw,encS] at h2
    simp (disch:=omega) only [↓wr,↓reduceIte,wq,ah,ag,aj,ab,ae,af,ai,isNil,Nat.reduceEqDiff,Nat.reduceAdd,Nat.reduceLT,Nat.reduceLeDiff,Int.reduceNeg,Int.reduceToNat,reduceCtorEq,t2,t5,aw,encS]
    refine aE.pure h2 (by kernel_rfl) ?_
    obtain ⟨c,hmq⟩:=hM2.mp
    simp (disch:=omega) only [↓wr,↓reduceIte,wq,ah,ag,aj,ab,ae,af,ai,isNil,Nat.reduceEqDiff,Nat.reduceAdd,Nat.reduceLT,Nat.reduceLeDiff,Int.reduceNeg,Int.reduceToNat,reduceCtorEq,t5]
    refine vU (kt:=3) (et:=27) (z:=.emp 1) (by kernel_rfl) (by kernel_rfl) (jg .i64 Tryz.underlying3) (id:=q) (c:=c) (m:=A) (k:=(r:Int)) (by simp (disch:=omega) only [↓wr,↓reduceIte,wq,ah,ag,aj,ab,ae,af,ai,isNil,Nat.reduceEqDiff,Nat.reduceAdd,Nat.reduceLT,Nat.reduceLeDiff,Int.reduceNeg,Int.reduceToNat,reduceCtorEq]) (by simp (disch:=omega) only [↓wr,↓reduceIte,wq,ah,ag,aj,ab,ae,af,ai,isNil,Nat.reduceEqDiff,Nat.reduceAdd,Nat.reduceLT,Nat.reduceLeDiff,Int.reduceNeg,Int.reduceToNat,reduceCtorEq]) hmq ?_
    have hov:=hM2.val r
    have hqq1:∀ n o,H4 n=.dead→(H4.set n o) q1=.arr 2 [[gi x.aD,gi x.dot]]:=fun n o hn=>by
      have:q1≠n:=by rintro rfl; rw[hqq] at hn; simp at hn
      simp[View.set,this,hqq]
    try simp (disch:=omega) only [↓wr,↓reduceIte,wq,ah,ag,aj,ab,ae,af,ai,isNil,Nat.reduceEqDiff,Nat.reduceAdd,Nat.reduceLT,Nat.reduceLeDiff,Int.reduceNeg,Int.reduceToNat,reduceCtorEq,hqq]
    intro q2 hq2
    have hM3:=hM2.fresh hq2 (.arr 2 [[gi x.aD,gi (x.dot+1)]])
    have hov3:=hM3.val r
    have hel:bG (H4.set q2 (.arr 2 [[gi x.aD,gi (x.dot+1)]])) (.sl q2 0 1 2)=some ([[gi x.aD,gi (x.dot+1)]],[q2]):=by simp[bG,View.set]
    simp (disch:=omega) only [↓wr,↓reduceIte,wq,ah,ag,aj,ab,ae,af,ai,isNil,Nat.reduceEqDiff,Nat.reduceAdd,Nat.reduceLT,Nat.reduceLeDiff,Int.reduceNeg,Int.reduceToNat,reduceCtorEq,hel]
    have hml:=xk (g:=g) (l:=l.take i) (s:=aT g r)
    rw[List.length_take] at hml
    refine nA hov3 (by simp[aR]) (by unfold aW; rw[bb]; simp; omega) (by unfold aW; rw[bb]; simp; omega) ?_
    intro v' H6 o6 l6
    obtain ⟨c3,hmq3⟩:=hM3.mp
    have howq:owner ((getM A (r:Int)).getD (.emp 1))≠some q:=fun e=>by
      have:=(hov3.live e).1
      rw[hmq3] at this; simp at this
    have hmq6:H6 q=.map (bL (Value.int .i64) A) c3:=by
      rw[(l6 q (by rw[hmq3]; simp) howq).1,hmq3]
    simp (disch:=omega) only [↓wr,↓reduceIte,wq,ah,ag,aj,ab,ae,af,ai,isNil,Nat.reduceEqDiff,Nat.reduceAdd,Nat.reduceLT,Nat.reduceLeDiff,Int.reduceNeg,Int.reduceToNat,reduceCtorEq,t5]
    refine sd (kt:=3) (et:=27) (by kernel_rfl) (jg .i64 Tryz.underlying3) (id:=q) (c:=c3) (m:=A) (k:=(r:Int)) (v:=v') (by simp (disch:=omega) only [↓wr,↓reduceIte,wq,ah,ag,aj,ab,ae,af,ai,isNil,Nat.reduceEqDiff,Nat.reduceAdd,Nat.reduceLT,Nat.reduceLeDiff,Int.reduceNeg,Int.reduceToNat,reduceCtorEq]) (by simp (disch:=omega) only [↓wr,↓reduceIte,wq,ah,ag,aj,ab,ae,af,ai,isNil,Nat.reduceEqDiff,Nat.reduceAdd,Nat.reduceLT,Nat.reduceLeDiff,Int.reduceNeg,Int.reduceToNat,reduceCtorEq]) (by simp (disch:=omega) only [↓wr,↓reduceIte,wq,ah,ag,aj,ab,ae,af,ai,isNil,Nat.reduceEqDiff,Nat.reduceAdd,Nat.reduceLT,Nat.reduceLeDiff,Int.reduceNeg,Int.reduceToNat,reduceCtorEq]) hmq6 ?_
    intro c'
    simp (disch:=omega) only [↓wr,↓reduceIte,wq,ah,ag,aj,ab,ae,af,ai,isNil,Nat.reduceEqDiff,Nat.reduceAdd,Nat.reduceLT,Nat.reduceLeDiff,Int.reduceNeg,Int.reduceToNat,reduceCtorEq,t2,t5,t12,t13,t14]
    have hfin:=hM3.put (y:=x) (r:=r) (by rw[hny,r4]) (H1:=H6) (v':=v') (by
      have e:aS (ba g (l.take i) (aT g r) ++ [⟨x.aD,x.dot+1⟩])=aS (ba g (l.take i) (aT g r)) ++ [[gi x.aD,gi (x.dot+1)]]:=by simp[aS,bu]
      rw[e]; exact o6) l6 c3 c'
    exact bE hk (by omega) ⟨bR (r:Int) v' c3 A,by rw[htk]; exact hfin,t2,t5,t12,t13,rfl⟩
  · rw[List.take_of_length_le (by omega)] at hM
    simp (disch:=omega) only [↓wr,↓reduceIte,wq,ah,ag,aj,ab,ae,af,ai,isNil,Nat.reduceEqDiff,Nat.reduceAdd,Nat.reduceLT,Nat.reduceLeDiff,Int.reduceNeg,Int.reduceToNat,reduceCtorEq,t5]
    exact ⟨q,A,rfl,hM⟩
end Gv
