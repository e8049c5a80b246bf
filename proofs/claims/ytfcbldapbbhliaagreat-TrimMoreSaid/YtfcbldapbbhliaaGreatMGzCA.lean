/-
  Part 1 of the proof: what the machine does and what the functions answer.
  Conditions: those that each lemma names.
-/
import Derived.Test.YtfcbldapbbhliaaGreatMGzBL
set_option linter.unusedSimpArgs false
set_option linter.unusedVariables false

/-
  A copy of a grammar.
  Conditions: lists that are no longer than a few dozen.
-/
set_option linter.unusedSimpArgs false
set_option maxRecDepth 100000
namespace Gv
open Go Go.Proofs

def S_gerundref03_Copy : SF := ⟨.seq (.region false [⟨none, [((some 2), .op (.mov (.val (.emp 1))))]⟩]) <|
  .seq (.region false [⟨none, [((some 3), .op (.mov (.val (.emp 2)))), ((some 4), .op (.mov (.tmp 0))), ((some 5), .op (.app 1 8 (.tmp 3) (.tmp 4))), ((some 2), .op (.mov (.tmp 5)))]⟩]) <|
  .ret,
  [.tmp 2], 6⟩
theorem S_gerundref03_Copy_ok : compF Tryz.prog 51 [] = some S_gerundref03_Copy := by kernel_rfl

def B_gerundref09_Copy_0 : SC :=
  .seq (.seq (.region false [⟨none, [((some 16), .op (.mov (.tmp 4))), ((some 17), .op (.addr 2 (.tmp 1))), ((some 18), .op (.load none (.tmp 17))), ((some 19), .op (.len (.tmp 18))), ((some 20), .op (.arith .lss (.tmp 16) (.tmp 19)))]⟩]) <|
  .cond (.tmp 20) (.skip) (.exit 0)) <|
  .seq (.block 1 (.seq (.region false [⟨none, [((some 23), .op (.addr 2 (.tmp 1))), ((some 24), .op (.load none (.tmp 23))), ((some 25), .op (.mov (.tmp 4))), ((some 26), .op (.idx 3 (.tmp 24) (.tmp 25))), ((some 27), .op (.load (some 3) (.tmp 26))), ((some 5), .op (.alloc [(.val (.int .i64 0)), (.emp 1), (.val (.int .i64 0))])), (none, .op (.store 3 (.tmp 5) (.tmp 27)))]⟩]) <|
  .seq (.region false [⟨none, [((some 28), .op (.addr 1 (.tmp 5))), ((some 29), .op (.load none (.tmp 28))), ((some 30), .call (.val (.fn 51 [] [])) [(.tmp 29)]), ((some 31), .op (.addr 1 (.tmp 5))), (none, .op (.store 1 (.tmp 31) (.tmp 30)))]⟩]) <|
  .region false [⟨none, [((some 32), .op (.mov (.tmp 3))), ((some 33), .op (.load (some 3) (.tmp 5))), ((some 34), .op (.bslice 1 3 [(.val (.int .i64 0)), (.emp 1), (.val (.int .i64 0))] [(0, (.tmp 33))])), ((some 35), .op (.app 3 40 (.tmp 32) (.tmp 34))), ((some 3), .op (.mov (.tmp 35)))]⟩])) <|
  .region false [⟨none, [((some 21), .op (.mov (.tmp 4))), ((some 22), .op (.arith .add (.tmp 21) (.val (.val (.int .i64 1))))), ((some 4), .op (.mov (.tmp 22)))]⟩]
def S_gerundref09_Copy : SF := ⟨.seq (.region false [⟨none, [((some 1), .op (.box (.tmp 0))), ((some 2), .op (.alloc [(.emp 1), (.emp 1), (.emp 1), (.val (.int .i64 0))]))]⟩]) <|
  .seq (.region false [⟨none, [((some 6), .op (.mov (.val (.emp 2)))), ((some 7), .op (.addr 0 (.tmp 1))), ((some 8), .op (.load none (.tmp 7))), ((some 9), .op (.app 3 32 (.tmp 6) (.tmp 8))), ((some 10), .op (.addr 0 (.tmp 1))), (none, .op (.store 1 (.tmp 10) (.tmp 9)))]⟩]) <|
  .seq (.region false [⟨none, [((some 11), .op (.mov (.val (.emp 2)))), ((some 12), .op (.addr 1 (.tmp 1))), ((some 13), .op (.load none (.tmp 12))), ((some 14), .op (.app 1 16 (.tmp 11) (.tmp 13))), ((some 15), .op (.addr 1 (.tmp 1))), (none, .op (.store 1 (.tmp 15) (.tmp 14)))]⟩]) <|
  .seq (.region false [⟨none, [((some 3), .op (.mov (.val (.emp 1))))]⟩]) <|
  .seq (.seq (.region false [⟨none, [((some 4), .op (.mov (.val (.val (.int .i64 0)))))]⟩]) <|
  .block 0 (.loop B_gerundref09_Copy_0)) <|
  .seq (.region false [⟨none, [((some 36), .op (.mov (.tmp 3))), ((some 37), .op (.addr 2 (.tmp 1))), (none, .op (.store 1 (.tmp 37) (.tmp 36)))]⟩]) <|
  .seq (.region false [⟨none, [((some 38), .op (.load (some 4) (.tmp 1))), (none, .op (.store 4 (.tmp 2) (.tmp 38)))]⟩]) <|
  .ret,
  [.cell 2 (some 4)], 39⟩
theorem S_gerundref09_Copy_ok : compF Tryz.prog 23 [] = some S_gerundref09_Copy := by kernel_rfl


theorem mo_Copy03 (l : List Int) (hl : l.length ≤ 100000) (H : View) : MCall Tryz.prog 51 [encI l] H fun r H' => OwnA H' r 1 (intsE l) ∧ Fresh H H' r := by
  refine MCall.of mixed S_gerundref03_Copy_ok ?_
  simp (disch := omega) only [↓wr, ↓reduceIte, wq, eq_self, ne_eq, implies_true, oneV, intOp, goI, splice, sBuild, fillE, nilB, isNil, Nat.reduceEqDiff, Nat.reduceAdd, Nat.reduceLT, Nat.reduceLeDiff, Int.reduceNeg, Int.reduceToNat, reduceCtorEq, decide_true, decide_false, S_gerundref03_Copy, encI]
  refine goApp_all (H := H) .nil (by simp [cellOk]) (by unfold limit; simp; omega) (by unfold limit; simp; omega) ?_
  intro u' H' ho hl'
  simp (disch := omega) only [↓wr, ↓reduceIte, wq, eq_self, ne_eq, implies_true, oneV, intOp, goI, splice, sBuild, fillE, nilB, isNil, Nat.reduceEqDiff, Nat.reduceAdd, Nat.reduceLT, Nat.reduceLeDiff, Int.reduceNeg, Int.reduceToNat, reduceCtorEq, decide_true, decide_false]
  exact ⟨ho, fun id hid => hl' id hid (by simp [owner])⟩

/-- What is no great grammar. -/
structure Gram.Slim (g : Gram) : Prop where
  terms : g.terms.length ≤ 40
  nons : g.nons.length ≤ 40
  rules : g.rules.length ≤ 60
  right : ∀ r ∈ g.rules, r.right.length ≤ 20
theorem great_slim {g : Gram} (e : greatG g = false) : g.Slim := by
  simp only [greatG, Bool.or_eq_false_iff, decide_eq_false_iff_not, List.any_eq_false, decide_eq_true_eq] at e
  exact ⟨by omega, by omega, by omega, fun r hr => by have := e.2 r hr; omega⟩

/-- What holds between two rules. -/
def CopI (g : Gram) (b1 b2 : Nat) (u0 u1 : V) (i : Nat) (T : Env) (H : View) : Prop :=
  (∃ (u2 : V) (bs : Built), T 3 = u2 ∧ bs.map (·.2) = g.rules.take i ∧
    Owns H ((u2, 3, builtE bs) :: (.sl b1 0 1 4, 4, [[u0, u1, .fro (g.rules.map encR), gi g.start]]) :: (u0, 3, g.terms.map encT) :: (u1, 1, strsE g.nons) :: (.sl b2 0 1 4, 4, [[.emp 1, .emp 1, .emp 1, gi 0]]) :: builtL bs)) ∧
  T 1 = .ptr b1 0 0 ∧ T 2 = .ptr b2 0 0 ∧ T 4 = gi i

theorem frn_gram {h : Heap} {u0 u1 u2 : V} {g : Gram} {b : Built} (h0 : OwnA h.view u0 3 (g.terms.map encT)) (h1 : OwnA h.view u1 1 (strsE g.nons)) (h2 : OwnA h.view u2 3 (builtE b)) (hb : ∀ y ∈ builtL b, OwnA h.view y.1 y.2.1 y.2.2)
    (hr : b.map (·.2) = g.rules) : FrN h (.agg [u0, u1, u2, gi g.start]) (.agg (encG g)) := by
  refine .agg _ _ rfl fun j hj => ?_
  match j, hj with
  | 0, _ => exact frn_terms h0
  | 1, _ => exact frn_strs h1
  | 2, _ => have := frn_rules h2 hb; rw [hr] at this; exact this
  | 3, _ => exact .val _
  | n + 4, hj => exact absurd hj (by simp only [List.length_cons, List.length_nil]; omega)

set_option maxHeartbeats 4000000 in
theorem pn_Copy09 (g : Gram) (hs : g.Slim) : PNew Tryz.prog 23 [.agg (encG g)] (.agg (encG g)) := by
  refine PNew.of (gg_tree g) ?_
  refine MCall.of mixed S_gerundref09_Copy_ok ?_
  have z1 := hs.terms
  have z2 := hs.nons
  have z3 := hs.rules
  simp (disch := omega) only [↓wr, ↓reduceIte, wq, eq_self, ne_eq, implies_true, oneV, intOp, goI, splice, sBuild, fillE, nilB, isNil, Nat.reduceEqDiff, Nat.reduceAdd, Nat.reduceLT, Nat.reduceLeDiff, Int.reduceNeg, Int.reduceToNat, reduceCtorEq, decide_true, decide_false, S_gerundref09_Copy, encG, encS]
  intro b1
  have o1 := (Owns.nil.new (H := fun _ => AObj.dead) (n := b1) rfl 4 [[.fro (g.terms.map encT), .fro (g.nons.map fun s => [gs s]), .fro (g.rules.map encR), gi g.start]])
  try simp (disch := omega) only [↓wr, ↓reduceIte, wq, eq_self, ne_eq, implies_true, oneV, intOp, goI, splice, sBuild, fillE, nilB, isNil, Nat.reduceEqDiff, Nat.reduceAdd, Nat.reduceLT, Nat.reduceLeDiff, Int.reduceNeg, Int.reduceToNat, reduceCtorEq, decide_true, decide_false, encG, encS]
  intro b2 hb2
  have o2 := (o1.new hb2 4 [[.emp 1, .emp 1, .emp 1, gi 0]]).perm (.swap _ _ _)
  have d21 := (dead_if hb2 arr_live).1
  try simp (disch := omega) only [↓wr, ↓reduceIte, wq, eq_self, ne_eq, implies_true, oneV, intOp, goI, splice, sBuild, fillE, nilB, isNil, Nat.reduceEqDiff, Nat.reduceAdd, Nat.reduceLT, Nat.reduceLeDiff, Int.reduceNeg, Int.reduceToNat, reduceCtorEq, decide_true, decide_false, encG, encS, d21, d21.symm]
  refine goApp_owns (o2.emp (k := 2) (sz := 3)) (by simp [cellOk, encT]) (by unfold limit; simp; omega) (by unfold limit; simp; omega) ?_
  intro u0 H1 o3 _
  have c0 := o3.head.cells
  have k0 := o3.head.cok
  have f1 := o3.is 1 rfl (by simp)
  simp (disch := omega) only [↓wr, ↓reduceIte, wq, eq_self, ne_eq, implies_true, oneV, intOp, goI, splice, sBuild, fillE, nilB, isNil, Nat.reduceEqDiff, Nat.reduceAdd, Nat.reduceLT, Nat.reduceLeDiff, Int.reduceNeg, Int.reduceToNat, reduceCtorEq, decide_true, decide_false, encG, encS, c0, k0, f1]
  have o4 := (o3.at 1 (by simp)).put (es' := [[u0, .fro (g.nons.map fun s => [gs s]), .fro (g.rules.map encR), gi g.start]]) rfl rfl
  simp only [List.nil_append, List.eraseIdx_cons_succ, List.eraseIdx_cons_zero] at o4
  refine goApp_owns (o4.emp (k := 2) (sz := 1)) (by simp [cellOk]) (by unfold limit; simp; omega) (by unfold limit; simp; omega) ?_
  intro u1 H2 o5 _
  have c1 := o5.head.cells
  have k1 := o5.head.cok
  have f2 := o5.is 1 rfl (by simp)
  simp (disch := omega) only [↓wr, ↓reduceIte, wq, eq_self, ne_eq, implies_true, oneV, intOp, goI, splice, sBuild, fillE, nilB, isNil, Nat.reduceEqDiff, Nat.reduceAdd, Nat.reduceLT, Nat.reduceLeDiff, Int.reduceNeg, Int.reduceToNat, reduceCtorEq, decide_true, decide_false, encG, encS, c1, k1, f2]
  have o6 := (o5.at 1 (by simp)).put (es' := [[u0, u1, .fro (g.rules.map encR), gi g.start]]) rfl rfl
  simp only [List.nil_append, List.eraseIdx_cons_succ, List.eraseIdx_cons_zero] at o6
  have o7 : Owns _ ((.emp 1, 3, builtE []) :: (.sl b1 0 1 4, 4, [[u0, u1, .fro (g.rules.map encR), gi g.start]]) :: (u0, 3, g.terms.map encT) :: (u1, 1, strsE g.nons) :: (.sl b2 0 1 4, 4, [[.emp 1, .emp 1, .emp 1, gi 0]]) :: builtL []) :=
    (o6.perm (.cons _ (.swap _ _ _))).emp (k := 1) (sz := 3)
  clear o1 o2 o3 o4 o5 o6 hb2 f1 f2
  refine LoopG.up g.rules.length (CopI g b1 b2 u0 u1) ⟨⟨.emp 1, [], rfl, by simp, o7⟩, rfl, rfl, rfl⟩ ?_
  clear o7
  rintro i k T H hk ⟨⟨u2, bs, t3, hbs, ho⟩, t1, t2, t4⟩
  have f1 := ho.is 1 rfl (by simp)
  simp (disch := omega) only [↓wr, ↓reduceIte, wq, eq_self, ne_eq, implies_true, oneV, intOp, goI, splice, sBuild, fillE, nilB, isNil, Nat.reduceEqDiff, Nat.reduceAdd, Nat.reduceLT, Nat.reduceLeDiff, Int.reduceNeg, Int.reduceToNat, reduceCtorEq, decide_true, decide_false, B_gerundref09_Copy_0, t1, t2, t3, t4, f1]
  refine GoB.dec (fun hc => ?_) (fun hc => ?_)
  · have hg2 : g.rules[i]? = some (g.rules[i]'(by omega)) := List.getElem?_eq_getElem (by omega)
    have hmem : g.rules[i]'(by omega) ∈ g.rules := List.getElem_mem _
    have htk : g.rules.take (i + 1) = g.rules.take i ++ [g.rules[i]'(by omega)] := by rw [List.take_add_one, hg2]; rfl
    generalize g.rules[i]'(by omega) = r at hg2 hmem htk
    have hr := hs.right r hmem
    simp (disch := omega) only [↓wr, ↓reduceIte, wq, eq_self, ne_eq, implies_true, oneV, intOp, goI, splice, sBuild, fillE, nilB, isNil, Nat.reduceEqDiff, Nat.reduceAdd, Nat.reduceLT, Nat.reduceLeDiff, Int.reduceNeg, Int.reduceToNat, reduceCtorEq, decide_true, decide_false, t1, t2, t3, t4, f1, List.getElem?_map, hg2, encR, encI]
    intro n hn
    have o1 := ho.new hn 3 [encR r]
    try simp (disch := omega) only [↓wr, ↓reduceIte, wq, eq_self, ne_eq, implies_true, oneV, intOp, goI, splice, sBuild, fillE, nilB, isNil, Nat.reduceEqDiff, Nat.reduceAdd, Nat.reduceLT, Nat.reduceLeDiff, Int.reduceNeg, Int.reduceToNat, reduceCtorEq, decide_true, decide_false, t1, t2, t3, t4, set_set]
    refine CallG.loud ((mo_Copy03 r.right (by omega) _).mono ?_)
    rintro v H1 ⟨hv, hfr⟩
    have o2 := Owns.come (H := H.set n (.arr 3 [encR r])) o1 hv (by rw [set_set] at hfr; exact hfr)
    have cv := hv.cells
    have kv := hv.cok
    have f5 := o2.is 1 rfl (by simp)
    simp only [encR, encI] at f5
    simp (disch := omega) only [↓wr, ↓reduceIte, wq, eq_self, ne_eq, implies_true, oneV, intOp, goI, splice, sBuild, fillE, nilB, isNil, Nat.reduceEqDiff, Nat.reduceAdd, Nat.reduceLT, Nat.reduceLeDiff, Int.reduceNeg, Int.reduceToNat, reduceCtorEq, decide_true, decide_false, t1, t2, t3, t4, f5, cv, kv]
    have o3 := (o2.at 1 (by simp)).put (es' := [[gi r.left, v, gi r.prec]]) rfl rfl
    simp only [List.eraseIdx_cons_succ, List.eraseIdx_cons_zero] at o3
    intro m hm
    try simp (disch := omega) only [↓wr, ↓reduceIte, wq, eq_self, ne_eq, implies_true, oneV, intOp, goI, splice, sBuild, fillE, nilB, isNil, Nat.reduceEqDiff, Nat.reduceAdd, Nat.reduceLT, Nat.reduceLeDiff, Int.reduceNeg, Int.reduceToNat, reduceCtorEq, decide_true, decide_false, t1, t2, t3, t4, cv, kv, elemsOf_new]
    have hbl : (builtE bs).length ≤ 60 := by
      have h1 := congrArg List.length hbs
      simp only [List.length_map, List.length_take] at h1
      simp only [builtE, List.length_map]
      omega
    have o4 := (o3.fresh (o := .arr 3 [[gi r.left, v, gi r.prec]]) hm).at 2 (by simp)
    refine goApp_owns o4 (by simp [cok_val, kv]) (by unfold limit; simp at hbl ⊢; omega) (by unfold limit; simp at hbl ⊢; omega) ?_
    intro u2' H4 o5 _
    simp (disch := omega) only [↓wr, ↓reduceIte, wq, eq_self, ne_eq, implies_true, oneV, intOp, goI, splice, sBuild, fillE, nilB, isNil, Nat.reduceEqDiff, Nat.reduceAdd, Nat.reduceLT, Nat.reduceLeDiff, Int.reduceNeg, Int.reduceToNat, reduceCtorEq, decide_true, decide_false, t1, t2, t3, t4]
    refine up_next hk (by omega) ⟨⟨u2', bs ++ [(v, r)], rfl, ?_, ?_⟩, t1, t2, rfl⟩
    · rw [List.map_append, hbs, htk]; rfl
    · have o6 := ((o5.at 1 (by simp)).tail).perm (.refl _)
      simp only [List.eraseIdx_cons_succ, List.eraseIdx_cons_zero] at o6
      refine o6.perm ?_
      simp only [builtE, builtL, List.map_append, List.map_cons, List.map_nil]
      exact .cons _ (List.perm_append_singleton (v, 1, intsE r.right) ((.sl b1 0 1 4, 4, [[u0, u1, .fro (g.rules.map encR), gi g.start]]) :: (u0, 3, g.terms.map encT) :: (u1, 1, strsE g.nons) :: (.sl b2 0 1 4, 4, [[.emp 1, .emp 1, .emp 1, gi 0]]) :: builtL bs)).symm
  · rw [List.take_of_length_le (by omega)] at hbs
    have f2 := ho.is 4 rfl (by simp)
    have c0 := (ho.own 2 rfl).cells
    have k0 := (ho.own 2 rfl).cok
    have c1 := (ho.own 3 rfl).cells
    have k1 := (ho.own 3 rfl).cok
    have c2 := (ho.own 0 rfl).cells
    have k2 := (ho.own 0 rfl).cok
    simp (disch := omega) only [↓wr, ↓reduceIte, wq, eq_self, ne_eq, implies_true, oneV, intOp, goI, splice, sBuild, fillE, nilB, isNil, Nat.reduceEqDiff, Nat.reduceAdd, Nat.reduceLT, Nat.reduceLeDiff, Int.reduceNeg, Int.reduceToNat, reduceCtorEq, decide_true, decide_false, t1, t2, t3, t4, f1, f2, c0, k0, c1, k1, c2, k2, d21, d21.symm]
    intro h' hh
    have o1 := (ho.at 1 (by simp)).put (es' := [[u0, u1, u2, gi g.start]]) rfl rfl
    simp only [List.eraseIdx_cons_succ, List.eraseIdx_cons_zero] at o1
    have o2 := (o1.at 4 (by simp)).put (es' := [[u0, u1, u2, gi g.start]]) rfl rfl
    simp only [List.eraseIdx_cons_succ, List.eraseIdx_cons_zero] at o2
    have hv : h'.view = (H.set b1 (.arr 4 [[u0, u1, u2, gi g.start]])).set b2 (.arr 4 [[u0, u1, u2, gi g.start]]) := hh
    rw [← hv] at o2
    exact frn_gram (o2.own 3 rfl) (o2.own 4 rfl) (o2.own 2 rfl) (fun y hy => o2.1 y (by
      refine List.mem_cons_of_mem _ (List.mem_cons_of_mem _ (List.mem_cons_of_mem _ (List.mem_cons_of_mem _ (List.mem_cons_of_mem _ ?_))))
      exact hy)) hbs

end Gv

/-
  The law on reducing.
  Conditions: lists that are no longer than an int says, numbers that are ints.
-/
set_option linter.unusedSimpArgs false
set_option maxRecDepth 100000
namespace Gv
open Go Go.Proofs

theorem foldl_addO_len : ∀ (l : List Rule) (acc : List Int), (l.foldl addO acc).length ≤ acc.length + l.length
  | [], acc => by simp
  | r :: l, acc => by
    have h1 := foldl_addO_len l (addO acc r)
    have h2 : (addO acc r).length ≤ acc.length + 1 := by unfold addO; split <;> simp
    simp only [List.foldl_cons, List.length_cons]
    omega
theorem ordO_len (p q : List Bool) (l : List Rule) : (ordO p q l).length ≤ l.length := by
  have h1 := foldl_addO_len (l.filter (keepR p q)) []
  have h2 := List.length_filter_le (keepR p q) l
  unfold ordO
  simp only [List.length_nil] at h1
  omega

theorem redG_ok {g : Gram} (hg : g.Ok) (p q : List Bool) : (redG g (numO (ordO p q g.rules)) p q).Ok := by
  have ho := ordO_len p q g.rules
  have h3 := hg.rules
  unfold Short at h3
  have hb : ∀ x, In64 (numO (ordO p q g.rules) x) := fun x => by
    have := numO_bd (ordO p q g.rules) x
    unfold In64; omega
  have hb2 : ∀ x, In64 (-1 - numO (ordO p q g.rules) x) := fun x => by
    have := numO_bd (ordO p q g.rules) x
    unfold In64; omega
  refine ⟨hg.terms, ?_, ?_, hb _, hg.term, fun r hr => ?_⟩
  · unfold Short; simp only [redG, List.length_map]; omega
  · have := List.length_filter_le (keepR p q) g.rules
    unfold Short; simp only [redG, List.length_map]; omega
  · simp only [redG, List.mem_map, List.mem_filter] at hr
    obtain ⟨r0, ⟨h0, _⟩, rfl⟩ := hr
    obtain ⟨_, i2, i3, i4⟩ := hg.rule r0 h0
    refine ⟨hb _, i2, by unfold Short at i3 ⊢; simpa [redRule] using i3, fun x hx => ?_⟩
    simp only [redRule, List.mem_map] at hx
    obtain ⟨s, hs, rfl⟩ := hx
    split
    · exact hb2 _
    · exact i4 s hs

theorem reduce09_ok {g : Gram} (hg : g.Ok) : (reduce09 g).1.Ok ∧ Short (reduce09 g).2.1 := by
  unfold reduce09
  split
  · split
    · refine ⟨redG_ok hg _ _, ?_⟩
      have h3 := hg.rules
      have := List.length_filter_le (keepR (grown09 g true) (reach09 g)) g.rules
      unfold Short at h3 ⊢
      simp only [keptI_len]; omega
    · exact ⟨noG_ok, by unfold Short; decide⟩
  · exact ⟨noG_ok, by unfold Short; decide⟩

def S_gerundlaw11_TrimReduces : SF := ⟨.seq (.region false [⟨none, [((some 1), .op (.frz (.tmp 0))), ((some 2), .op (.mov (.val (.val (.bool false)))))]⟩]) <|
  .seq (.seq (.region false [⟨none, [((some 10), .call (.val (.fn 12 [] [])) []), ((some 11), .op (.not (.tmp 10)))]⟩]) <|
  .cond (.tmp 11) (.seq (.region false [⟨none, [((some 2), .op (.mov (.val (.val (.bool false)))))]⟩]) <|
  .ret) (.skip)) <|
  .seq (.seq (.region false [⟨none, [((some 12), .op (.load (some 4) (.tmp 1))), ((some 13), .call (.val (.fn 13 [] [])) [(.tmp 12)])]⟩]) <|
  .cond (.tmp 13) (.seq (.region false [⟨none, [((some 2), .op (.mov (.val (.val (.bool true)))))]⟩]) <|
  .ret) (.skip)) <|
  .seq (.region false [⟨none, [((some 14), .op (.load (some 4) (.tmp 1))), ((some 15), .call (.val (.fn 23 [] [])) [(.tmp 14)]), ((some 3), .op (.alloc [(.emp 1), (.emp 1), (.emp 1), (.val (.int .i64 0))])), (none, .op (.store 4 (.tmp 3) (.tmp 15)))]⟩]) <|
  .seq (.region false [⟨none, [((some 17), .op (.load (some 4) (.tmp 3))), ((some 18), .call (.val (.fn 24 [] [])) [(.tmp 17)]), ((some 16), .op (.mov (.tmp 18))), ((some 19), .op (.ext 0 (.tmp 16))), ((some 20), .op (.ext 1 (.tmp 16))), ((some 21), .op (.ext 2 (.tmp 16))), ((some 4), .op (.alloc [(.emp 1), (.emp 1), (.emp 1), (.val (.int .i64 0))])), (none, .op (.store 4 (.tmp 4) (.tmp 19))), ((some 5), .op (.mov (.tmp 20))), ((some 6), .op (.mov (.tmp 21)))]⟩]) <|
  .seq (.region false [⟨none, [((some 23), .op (.load (some 4) (.tmp 1))), ((some 24), .call (.val (.fn 25 [] [])) [(.tmp 23)]), ((some 22), .op (.mov (.tmp 24))), ((some 25), .op (.ext 0 (.tmp 22))), ((some 26), .op (.ext 1 (.tmp 22))), ((some 27), .op (.ext 2 (.tmp 22))), ((some 7), .op (.alloc [(.emp 1), (.emp 1), (.emp 1), (.val (.int .i64 0))])), (none, .op (.store 4 (.tmp 7) (.tmp 25))), ((some 8), .op (.mov (.tmp 26))), ((some 9), .op (.mov (.tmp 27)))]⟩]) <|
  .seq (.region false [⟨none, [((some 28), .op (.load (some 4) (.tmp 4))), ((some 29), .op (.load (some 4) (.tmp 7))), ((some 30), .call (.val (.fn 26 [] [])) [(.tmp 28), (.tmp 29)]), ((some 31), .op (.mov (.tmp 30)))]⟩, ⟨(some (31, true)), [((some 32), .op (.mov (.tmp 5))), ((some 33), .op (.mov (.tmp 8))), ((some 34), .call (.val (.fn 27 [] [])) [(.tmp 32), (.tmp 33)])]⟩, ⟨none, [((some 35), .op (.pick (.tmp 31) (.tmp 34) (.val (.val (.bool false))))), ((some 36), .op (.mov (.tmp 35)))]⟩, ⟨(some (36, true)), [((some 37), .op (.mov (.tmp 6))), ((some 38), .op (.mov (.tmp 9))), ((some 39), .op (.arith .eql (.tmp 37) (.tmp 38)))]⟩, ⟨none, [((some 40), .op (.pick (.tmp 36) (.tmp 39) (.val (.val (.bool false))))), ((some 41), .op (.mov (.tmp 40)))]⟩, ⟨(some (41, true)), [((some 42), .op (.load (some 4) (.tmp 3))), ((some 43), .op (.load (some 4) (.tmp 1))), ((some 44), .call (.val (.fn 26 [] [])) [(.tmp 42), (.tmp 43)])]⟩, ⟨none, [((some 45), .op (.pick (.tmp 41) (.tmp 44) (.val (.val (.bool false))))), ((some 2), .op (.mov (.tmp 45)))]⟩]) <|
  .ret,
  [.tmp 2], 46⟩
theorem S_gerundlaw11_TrimReduces_ok : compF Tryz.prog 4 [1] = some S_gerundlaw11_TrimReduces := by kernel_rfl


set_option maxHeartbeats 2000000 in
theorem pc_TrimReduces (g : Gram) (hg : g.Ok) : PCall Tryz.prog 4 [.agg (encG g)] (gb true) := by
  refine PCall.val (gg_tree g) fun H => ?_
  refine MCall.of mixed S_gerundlaw11_TrimReduces_ok ?_
  simp (disch := omega) only [↓wr, ↓reduceIte, wq, eq_self, ne_eq, implies_true, oneV, intOp, goI, splice, sBuild, fillE, nilB, isNil, Nat.reduceEqDiff, Nat.reduceAdd, Nat.reduceLT, Nat.reduceLeDiff, Int.reduceNeg, Int.reduceToNat, reduceCtorEq, decide_true, decide_false, S_gerundlaw11_TrimReduces, encG, encS]
  refine CallG.pure pc_alive (by kernel_rfl) ?_
  simp (disch := omega) only [↓wr, ↓reduceIte, wq, eq_self, ne_eq, implies_true, oneV, intOp, goI, splice, sBuild, fillE, nilB, isNil, Nat.reduceEqDiff, Nat.reduceAdd, Nat.reduceLT, Nat.reduceLeDiff, Int.reduceNeg, Int.reduceToNat, reduceCtorEq, decide_true, decide_false, encG, encS]
  refine CallG.pure (pc_great g) (by kernel_rfl) ?_
  simp (disch := omega) only [↓wr, ↓reduceIte, wq, eq_self, ne_eq, implies_true, oneV, intOp, goI, splice, sBuild, fillE, nilB, isNil, Nat.reduceEqDiff, Nat.reduceAdd, Nat.reduceLT, Nat.reduceLeDiff, Int.reduceNeg, Int.reduceToNat, reduceCtorEq, decide_true, decide_false]
  refine GoB.split (fun e => ?_) (fun e => ?_)
  · simp (disch := omega) only [↓wr, ↓reduceIte, wq, eq_self, ne_eq, implies_true, oneV, intOp, goI, splice, sBuild, fillE, nilB, isNil, Nat.reduceEqDiff, Nat.reduceAdd, Nat.reduceLT, Nat.reduceLeDiff, Int.reduceNeg, Int.reduceToNat, reduceCtorEq, decide_true, decide_false]
  · have hs : g.Small := great_small e
    simp (disch := omega) only [↓wr, ↓reduceIte, wq, eq_self, ne_eq, implies_true, oneV, intOp, goI, splice, sBuild, fillE, nilB, isNil, Nat.reduceEqDiff, Nat.reduceAdd, Nat.reduceLT, Nat.reduceLeDiff, Int.reduceNeg, Int.reduceToNat, reduceCtorEq, decide_true, decide_false, encG, encS]
    refine CallG.pure (pn_Copy09 g (great_slim e)).pure (by kernel_rfl) ?_
    simp (disch := omega) only [↓wr, ↓reduceIte, wq, eq_self, ne_eq, implies_true, oneV, intOp, goI, splice, sBuild, fillE, nilB, isNil, Nat.reduceEqDiff, Nat.reduceAdd, Nat.reduceLT, Nat.reduceLeDiff, Int.reduceNeg, Int.reduceToNat, reduceCtorEq, decide_true, decide_false, encG, encS]
    intro n3 hn3
    try simp (disch := omega) only [↓wr, ↓reduceIte, wq, eq_self, ne_eq, implies_true, oneV, intOp, goI, splice, sBuild, fillE, nilB, isNil, Nat.reduceEqDiff, Nat.reduceAdd, Nat.reduceLT, Nat.reduceLeDiff, Int.reduceNeg, Int.reduceToNat, reduceCtorEq, decide_true, decide_false, encG, encS]
    refine CallG.pure (pn_tReduce g hg hs).pure (by kernel_rfl) ?_
    have hR := pn_Reduce11 g hg
    obtain ⟨hk, hl⟩ := reduce09_ok hg
    generalize reduce09 g = x at hR hk hl ⊢
    obtain ⟨k, il, er⟩ := x
    simp (disch := omega) only [↓wr, ↓reduceIte, wq, eq_self, ne_eq, implies_true, oneV, intOp, goI, splice, sBuild, fillE, nilB, isNil, Nat.reduceEqDiff, Nat.reduceAdd, Nat.reduceLT, Nat.reduceLeDiff, Int.reduceNeg, Int.reduceToNat, reduceCtorEq, decide_true, decide_false, outR, encG, encS]
    intro n4 hn4
    have d43 := (dead_if hn4 arr_live).1
    refine CallG.pure hR.pure (by kernel_rfl) ?_
    simp (disch := omega) only [↓wr, ↓reduceIte, wq, eq_self, ne_eq, implies_true, oneV, intOp, goI, splice, sBuild, fillE, nilB, isNil, Nat.reduceEqDiff, Nat.reduceAdd, Nat.reduceLT, Nat.reduceLeDiff, Int.reduceNeg, Int.reduceToNat, reduceCtorEq, decide_true, decide_false, outR, encG, encS]
    intro n7 hn7
    have d74 := (dead_if hn7 arr_live).1
    have hn7 := (dead_if (dead_if hn7 arr_live).2 arr_live).2
    have d73 := (dead_if hn7 arr_live).1
    try simp (disch := omega) only [↓wr, ↓reduceIte, wq, eq_self, ne_eq, implies_true, oneV, intOp, goI, splice, sBuild, fillE, nilB, isNil, Nat.reduceEqDiff, Nat.reduceAdd, Nat.reduceLT, Nat.reduceLeDiff, Int.reduceNeg, Int.reduceToNat, reduceCtorEq, decide_true, decide_false, outR, encG, encS, d43, d74, d73, d43.symm, d74.symm, d73.symm]
    refine CallG.pure (pc_Same09 k k hk) (by kernel_rfl) ?_
    repeat' (first | (refine GoB.dec (fun _ => ?_) (fun _ => ?_)) | (refine GoB.eq (fun _ => ?_) (fun _ => ?_)) | (refine GoB.ne (fun _ => ?_) (fun _ => ?_)) | (refine GoB.split (fun _ => ?_) (fun _ => ?_)) | (refine CallG.pure (pc_Ints il il hl) (by kernel_rfl) ?_) | (refine CallG.pure (pc_Same09 g g hg) (by kernel_rfl) ?_) | (simp (disch := omega) only [↓wr, ↓reduceIte, wq, eq_self, ne_eq, implies_true, oneV, intOp, goI, splice, sBuild, fillE, nilB, isNil, Nat.reduceEqDiff, Nat.reduceAdd, Nat.reduceLT, Nat.reduceLeDiff, Int.reduceNeg, Int.reduceToNat, reduceCtorEq, decide_true, decide_false, encG, encS, d43, d74, d73, d43.symm, d74.symm, d73.symm]))
    all_goals simp_all
end Gv
