/-
  Part 8 of the proof: what the machine does and what the functions answer.
  Conditions: those that each lemma names.
-/
import Derived.Test.YtfcbldapbbhliaaGreatMGzEG
set_option linter.unusedSimpArgs false
set_option linter.unusedVariables false

/-
  May a grammar be: what the program's own function answers.
  Conditions: lists that are no longer than an int says, numbers that are ints, no more than a thousand names.
-/
set_option linter.unusedSimpArgs false
set_option maxRecDepth 100000
namespace Gv
open Go Go.Proofs

def rulesC (g : Gram) : List Rule → Int → Bool
  | [], next => next == g.nons.length
  | r :: l, next => decide (0 ≤ r.left) && decide (r.left ≤ next) && ruleB g r && rulesC g l (if r.left + 1 > next then r.left + 1 else next)
def allNames (g : Gram) : List ByteArray := g.nons ++ g.terms.map Term.name
def rightC (g : Gram) : Bool :=
  termsC g.terms && (decide ((1 : Int) ≤ g.nons.length) && decide ((g.nons.length : Int) ≤ 16)) && (decide ((1 : Int) ≤ g.rules.length) && decide ((g.rules.length : Int) ≤ 40)) && decide (names (allNames g)).Nodup && (decide (0 ≤ g.start) && decide (g.start ≤ (g.nons.length : Int) - 1)) &&
    !(g.nons.any fun s => !nameB (bts s)) && rulesC g g.rules 0

theorem gs_list_tree {l : List ByteArray} : ∀ e ∈ (l.map fun s => [gs s]), ∀ v ∈ e, Tree v := by
  intro e he v hv
  obtain ⟨a, _, rfl⟩ := List.mem_map.1 he
  rw [List.mem_singleton] at hv
  subst hv
  exact .val _

set_option maxHeartbeats 4000000 in
theorem mc_cRight (g : Gram) (hg : g.Ok) (hs : g.nons.length + g.terms.length ≤ 1000) (H : View) : MCall Tryz.prog 41 [.agg (encG g)] H fun r _ => r = gb (rightC g) := by
  refine MCall.of mixed S_cfg_Right_ok ?_
  have hn := hg.nons
  have ht := hg.terms
  have hr := hg.rules
  unfold Short at hn ht hr
  simp (disch := omega) only [↓wr, ↓reduceIte, wq, eq_self, ne_eq, implies_true, oneV, intOp, goI, splice, sBuild, fillE, nilB, isNil, Nat.reduceEqDiff, Nat.reduceAdd, Nat.reduceLT, Nat.reduceLeDiff, Int.reduceNeg, Int.reduceToNat, reduceCtorEq, decide_true, decide_false, S_cfg_Right, encG, encS]
  refine CallG.loud ((mo_CloneS g.nons (by omega) H).mono ?_)
  rintro u H1 ⟨hu, hf⟩
  simp (disch := omega) only [↓wr, ↓reduceIte, wq, eq_self, ne_eq, implies_true, oneV, intOp, goI, splice, sBuild, fillE, nilB, isNil, Nat.reduceEqDiff, Nat.reduceAdd, Nat.reduceLT, Nat.reduceLeDiff, Int.reduceNeg, Int.reduceToNat, reduceCtorEq, decide_true, decide_false, encG, encS]
  refine LoopG.up g.terms.length (fun i T H => T 1 = .fptr (encG g) 0 ∧ (∃ u, T 3 = u ∧ OwnA H u 1 ((g.nons ++ (g.terms.take i).map Term.name).map fun s => [gs s])) ∧ T 13 = encTs g.terms ∧ T 14 = gi g.terms.length ∧ T 15 = gi i) ?_ ?_
  · exact ⟨rfl, ⟨u, rfl, by simpa using hu⟩, rfl, rfl, rfl⟩
  rintro i k T H' hk ⟨h1, ⟨u, h3, hu⟩, h13, h14, h15⟩
  simp (disch := omega) only [↓wr, ↓reduceIte, wq, eq_self, ne_eq, implies_true, oneV, intOp, goI, splice, sBuild, fillE, nilB, isNil, Nat.reduceEqDiff, Nat.reduceAdd, Nat.reduceLT, Nat.reduceLeDiff, Int.reduceNeg, Int.reduceToNat, reduceCtorEq, decide_true, decide_false, B_cfg_Right_0, h1, h13, h14, h15, encTs]
  refine GoB.dec (fun hc => ?_) (fun hc => ?_)
  · have hg2 : g.terms[i]? = some (g.terms[i]'(by omega)) := List.getElem?_eq_getElem (by omega)
    have htk : (g.terms.take (i + 1)).map Term.name = (g.terms.take i).map Term.name ++ [(g.terms[i]'(by omega)).name] := by
      rw [List.take_add_one, hg2, List.map_append]; rfl
    generalize g.terms[i]'(by omega) = t at hg2 htk
    simp (disch := omega) only [↓wr, ↓reduceIte, wq, eq_self, ne_eq, implies_true, oneV, intOp, goI, splice, sBuild, fillE, nilB, isNil, Nat.reduceEqDiff, Nat.reduceAdd, Nat.reduceLT, Nat.reduceLeDiff, Int.reduceNeg, Int.reduceToNat, reduceCtorEq, decide_true, decide_false, h1, h3, h13, h14, h15, encTs, encT, List.getElem?_map, hg2]
    intro b hb
    try simp (disch := omega) only [↓wr, ↓reduceIte, wq, eq_self, ne_eq, implies_true, oneV, intOp, goI, splice, sBuild, fillE, nilB, isNil, Nat.reduceEqDiff, Nat.reduceAdd, Nat.reduceLT, Nat.reduceLeDiff, Int.reduceNeg, Int.reduceToNat, reduceCtorEq, decide_true, decide_false, h1, h3, h13, h14, h15, set_set]
    intro m hm
    have hmb := (dead_if hm arr_live).1
    have hm := (dead_if (dead_if hm arr_live).2 arr_live).2
    try simp (disch := omega) only [↓wr, ↓reduceIte, wq, eq_self, ne_eq, implies_true, oneV, intOp, goI, splice, sBuild, fillE, nilB, isNil, Nat.reduceEqDiff, Nat.reduceAdd, Nat.reduceLT, Nat.reduceLeDiff, Int.reduceNeg, Int.reduceToNat, reduceCtorEq, decide_true, decide_false, h1, h3, h13, h14, h15, elemsOf_new]
    have hl : ((g.nons ++ (g.terms.take i).map Term.name).map fun s => [gs s]).length ≤ 1000 := by simp; omega
    refine goApp_own (((hu.fresh hb).other (hu.ne hb)).fresh (by simp [View.set, hm, hmb])) (by simp) (by simp [cellOk]) (by unfold limit; simp at hl ⊢; omega) (by unfold limit; simp at hl ⊢; omega) ?_
    intro u' H2 hu' _
    simp (disch := omega) only [↓wr, ↓reduceIte, wq, eq_self, ne_eq, implies_true, oneV, intOp, goI, splice, sBuild, fillE, nilB, isNil, Nat.reduceEqDiff, Nat.reduceAdd, Nat.reduceLT, Nat.reduceLeDiff, Int.reduceNeg, Int.reduceToNat, reduceCtorEq, decide_true, decide_false, h1, h3, h13, h14, h15]
    refine up_next hk (by omega) ⟨h1, ⟨u', rfl, ?_⟩, h13, h14, rfl⟩
    rw [htk]
    simpa using hu'
  · rw [List.take_of_length_le (by omega)] at hu
    have hal : H' = H' := rfl
    have hall : (allNames g).length ≤ 1000 := by simp [allNames]; omega
    repeat' (first | (refine GoB.dec (fun _ => ?_) (fun _ => ?_)) | (refine GoB.eq (fun _ => ?_) (fun _ => ?_)) | (refine GoB.ne (fun _ => ?_) (fun _ => ?_)) | (refine GoB.split (fun _ => ?_) (fun _ => ?_)) | (refine CallG.pure (pc_cterms g.terms hg.terms) (by kernel_rfl) ?_) | (refine CallG.pure (pc_cwithin _ _ _) (by kernel_rfl) ?_) | (refine CallG.lend (pc_alone (allNames g) hall) (by kernel_rfl) (.val _) ⟨Lent.own hu gs_list_tree, trivial⟩ ?_) | (simp (disch := omega) only [↓wr, ↓reduceIte, wq, eq_self, ne_eq, implies_true, oneV, intOp, goI, splice, sBuild, fillE, nilB, isNil, Nat.reduceEqDiff, Nat.reduceAdd, Nat.reduceLT, Nat.reduceLeDiff, Int.reduceNeg, Int.reduceToNat, reduceCtorEq, decide_true, decide_false, h1, h3, h13, h14, h15, encG, encS]))
    all_goals try (simp [rightC, *]; done)
    rename_i e1 e2 e3 e4 e5
    refine CallG.pure (pc_ContainsFuncS g.nons hg.nons 74 [] (by simp) (fun s => !nameB (bts s)) (fun x _ => pc_cRight1 x) (by kernel_rfl)) (by kernel_rfl) ?_
    repeat' (first | (refine GoB.dec (fun _ => ?_) (fun _ => ?_)) | (refine GoB.eq (fun _ => ?_) (fun _ => ?_)) | (refine GoB.ne (fun _ => ?_) (fun _ => ?_)) | (refine GoB.split (fun _ => ?_) (fun _ => ?_)) | (simp (disch := omega) only [↓wr, ↓reduceIte, wq, eq_self, ne_eq, implies_true, oneV, intOp, goI, splice, sBuild, fillE, nilB, isNil, Nat.reduceEqDiff, Nat.reduceAdd, Nat.reduceLT, Nat.reduceLeDiff, Int.reduceNeg, Int.reduceToNat, reduceCtorEq, decide_true, decide_false, h1, h3, h13, h14, h15, encG, encS]))
    all_goals try (simp [rightC, *]; done)
    rename_i e6
    have hle : g.rules.length ≤ 40 := by simp at e3; omega
    have hpre : ∀ b, rulesC g g.rules 0 = b → gb b = gb (rightC g) := fun b e => by
      simp only [rightC, e1, e2, e3, e4, e5, e6, e, decide_true, Bool.true_and, Bool.not_false]
    refine LoopG.up g.rules.length (fun i T _ => ∃ w : Int, 0 ≤ w ∧ w ≤ i ∧ rulesC g (g.rules.drop i) w = rulesC g g.rules 0 ∧ T 1 = .fptr (encG g) 0 ∧ T 6 = gi w ∧ T 62 = .fro (g.rules.map encR) ∧ T 63 = gi g.rules.length ∧ T 64 = gi i) ?_ ?_
    · exact ⟨0, by omega, by omega, rfl, h1, rfl, rfl, rfl, rfl⟩
    rintro i k T H' hk ⟨w, hw1, hw2, hi, h1, h6, h62, h63, h64⟩
    simp (disch := omega) only [↓wr, ↓reduceIte, wq, eq_self, ne_eq, implies_true, oneV, intOp, goI, splice, sBuild, fillE, nilB, isNil, Nat.reduceEqDiff, Nat.reduceAdd, Nat.reduceLT, Nat.reduceLeDiff, Int.reduceNeg, Int.reduceToNat, reduceCtorEq, decide_true, decide_false, B_cfg_Right_1, h1, h6, h62, h63, h64, encG]
    refine GoB.dec (fun hc => ?_) (fun hc => ?_)
    · have hg2 : g.rules[i]? = some (g.rules[i]'(by omega)) := List.getElem?_eq_getElem (by omega)
      rw [drop_at (show i < g.rules.length by omega)] at hi
      have hmem : g.rules[i]'(by omega) ∈ g.rules := List.getElem_mem _
      generalize g.rules[i]'(by omega) = t at hg2 hi hmem
      obtain ⟨⟨hl1, hl2⟩, hp, hr1, hr2⟩ := hg.rule t hmem
      simp only [rulesC] at hi
      simp (disch := omega) only [↓wr, ↓reduceIte, wq, eq_self, ne_eq, implies_true, oneV, intOp, goI, splice, sBuild, fillE, nilB, isNil, Nat.reduceEqDiff, Nat.reduceAdd, Nat.reduceLT, Nat.reduceLeDiff, Int.reduceNeg, Int.reduceToNat, reduceCtorEq, decide_true, decide_false, h1, h6, h62, h63, h64, encR, encI, List.getElem?_map, hg2]
      intro b hb
      repeat' (first | (refine GoB.dec (fun _ => ?_) (fun _ => ?_)) | (refine GoB.eq (fun _ => ?_) (fun _ => ?_)) | (refine GoB.ne (fun _ => ?_) (fun _ => ?_)) | (refine GoB.split (fun _ => ?_) (fun _ => ?_)) | (refine CallG.pure (pc_cwithin _ _ _) (by kernel_rfl) ?_) | (refine CallG.pure (pc_crule g t hg ⟨hr1, hr2⟩) (by kernel_rfl) ?_) | (simp (disch := omega) only [↓wr, ↓reduceIte, wq, eq_self, ne_eq, implies_true, oneV, intOp, goI, splice, sBuild, fillE, nilB, isNil, Nat.reduceEqDiff, Nat.reduceAdd, Nat.reduceLT, Nat.reduceLeDiff, Int.reduceNeg, Int.reduceToNat, reduceCtorEq, decide_true, decide_false, h1, h6, h62, h63, h64, encG, encR, encI, encS, set_set]))
      · rename_i e7 e8
        have e7' : 0 ≤ t.left ∧ t.left ≤ w := by simpa using e7
        rw [e7, e8, Bool.true_and, Bool.true_and] at hi
        have hw : IntKind.wrap .i64 (t.left + 1) = t.left + 1 := wrap64 (by omega) (by omega)
        refine up_next hk (by omega) ⟨_, by split <;> omega, by split <;> (push_cast; omega), hi, h1, ?_, h62, h63, rfl⟩
        show gi (if IntKind.wrap .i64 (t.left + 1) > w then IntKind.wrap .i64 (t.left + 1) else w) = _
        rw [hw]
      · rename_i e7 e8
        rw [e8, Bool.and_false, Bool.false_and] at hi
        exact hpre _ hi.symm
      · rename_i e7
        rw [e7, Bool.false_and, Bool.false_and] at hi
        exact hpre _ hi.symm
    · rw [List.drop_eq_nil_of_le (by omega)] at hi
      simp only [rulesC] at hi
      simp (disch := omega) only [↓wr, ↓reduceIte, wq, eq_self, ne_eq, implies_true, oneV, intOp, goI, splice, sBuild, fillE, nilB, isNil, Nat.reduceEqDiff, Nat.reduceAdd, Nat.reduceLT, Nat.reduceLeDiff, Int.reduceNeg, Int.reduceToNat, reduceCtorEq, decide_true, decide_false, h1, h6, h62, h63, h64, encG, encS]
      exact hpre _ hi.symm
theorem pc_cRightC (g : Gram) (hg : g.Ok) (hs : g.nons.length + g.terms.length ≤ 1000) : PCall Tryz.prog 41 [.agg (encG g)] (gb (rightC g)) := PCall.val (gg_tree g) (mc_cRight g hg hs)

/-! both ways to ask it are one -/
theorem rulesC_L (g : Gram) : ∀ (l : List Rule) (next : Int), rulesC g l next = rulesL g l (next - 1)
  | [], next => by
    simp only [rulesC, rulesL]
    rw [Bool.eq_iff_iff]; simp
  | r :: l, next => by
    simp only [rulesC, rulesL, rulesC_L g l]
    have e1 : (if r.left + 1 > next then r.left + 1 else next) - 1 = if r.left > next - 1 then r.left else next - 1 := by
      split <;> split <;> omega
    have e2 : next - 1 + 1 = next := by omega
    rw [e1, e2]

theorem idxS_spec (s : ByteArray) : ∀ (l : List ByteArray) (i : Int), 0 ≤ i → (idxS s l i < 0 ∧ s ∉ l) ∨ ∃ k : Nat, idxS s l i = i + k ∧ l[k]? = some s ∧ ∀ j < k, l[j]? ≠ some s
  | [], i, h => .inl ⟨by simp [idxS], by simp⟩
  | x :: l, i, h => by
    have hx : strEq x s = true ↔ x = s := by
      unfold strEq
      rw [beq_iff_eq]
      constructor
      · intro e; cases x; cases s; simp at e; simp [e]
      · rintro rfl; rfl
    simp only [idxS]
    by_cases e : x = s
    · rw [if_pos (hx.2 e)]
      exact .inr ⟨0, by simp, by simp [e], by simp⟩
    · rw [if_neg (fun h => e (hx.1 h))]
      rcases idxS_spec s l (i + 1) (by omega) with ⟨h1, h2⟩ | ⟨k, h1, h2, h3⟩
      · exact .inl ⟨h1, by simp [h2, Ne.symm e]⟩
      · refine .inr ⟨k + 1, by rw [h1]; push_cast; omega, by simpa using h2, fun j hj => ?_⟩
        cases j with
        | zero => simp [e]
        | succ j => simpa using h3 j (by omega)

/-- Each text of a list is found at its own place just if each stands once. -/
theorem idx_nodup (l : List ByteArray) : (∀ (k : Nat) (s : ByteArray), l[k]? = some s → idxS s l 0 = k) ↔ l.Nodup := by
  constructor
  · intro h
    rw [List.nodup_iff_pairwise_ne, List.pairwise_iff_getElem]
    intro i j hi hj hij e
    have h1 := h i l[i] (by simp [hi])
    have h2 := h j l[j] (by simp [hj])
    rw [e] at h1
    omega
  · intro hn k s hk
    rcases idxS_spec s l 0 (by omega) with ⟨_, h2⟩ | ⟨j, h1, h2, h3⟩
    · exact absurd (List.mem_of_getElem? hk) h2
    · have hj : j < l.length := by
        rcases Nat.lt_or_ge j l.length with h | h
        · exact h
        · simp [List.getElem?_eq_none h] at h2
      have hk' : k < l.length := by
        rcases Nat.lt_or_ge k l.length with h | h
        · exact h
        · simp [List.getElem?_eq_none h] at hk
      have : j = k := (List.getElem_inj hn).1 (by
        rw [List.getElem?_eq_getElem hj] at h2; rw [List.getElem?_eq_getElem hk'] at hk
        simp at h2 hk; rw [h2, hk])
      rw [h1, this]; simp

theorem bytes_inj {a b : ByteArray} : a.data.toList = b.data.toList ↔ a = b := by
  constructor
  · intro h; cases a; cases b; simp at h; simp [h]
  · rintro rfl; rfl

theorem names_inj {l : List ByteArray} : (names l).Nodup ↔ l.Nodup := by
  unfold names
  rw [List.nodup_iff_pairwise_ne, List.pairwise_map, List.nodup_iff_pairwise_ne]
  constructor
  · exact fun h => h.imp fun h e => h (bytes_inj.2 e)
  · exact fun h => h.imp fun h e => h (bytes_inj.1 e)

end Gv

/-
  May a grammar be: the document's way to ask it and the program's are one.
  Conditions: none.
-/
set_option linter.unusedSimpArgs false
namespace Gv
open Go Go.Proofs

theorem nodup_len {α : Type} [BEq α] [LawfulBEq α] : ∀ (l m : List α), l.Nodup → (∀ x ∈ l, x ∈ m) → l.length ≤ m.length
  | [], m, _, _ => by simp
  | x :: l, m, hn, hs => by
    rw [List.nodup_cons] at hn
    have hx : x ∈ m := hs x (by simp)
    have := nodup_len l (m.erase x) hn.2 (fun y hy => by
      have hne : y ≠ x := by rintro rfl; exact hn.1 hy
      exact (List.mem_erase_of_ne hne).2 (hs y (by simp [hy])))
    rw [List.length_erase_of_mem hx] at this
    have : 0 < m.length := List.length_pos_of_mem hx
    simp only [List.length_cons]
    omega

def upList (n : Nat) : List Int := (List.range n).map fun (k : Nat) => (k : Int) + 1
theorem mem_upList {n : Nat} {x : Int} : x ∈ upList n ↔ 1 ≤ x ∧ x ≤ n := by
  simp only [upList, List.mem_map, List.mem_range]
  constructor
  · rintro ⟨k, hk, rfl⟩; omega
  · rintro ⟨h1, h2⟩; exact ⟨(x - 1).toNat, by omega, by omega⟩
theorem upList_nodup (n : Nat) : (upList n).Nodup := by
  rw [upList, List.nodup_iff_pairwise_ne, List.pairwise_map]
  exact (List.nodup_range (n := n)).imp fun h e => h (by omega)

/-- As many as there are places, each in one of its own: all places are taken. -/
theorem pigeons {l : List Int} {n : Nat} (hn : l.Nodup) (hs : ∀ x ∈ l, 1 ≤ x ∧ x ≤ n) (hl : l.length = n) {x : Int} (h1 : 1 ≤ x) (h2 : x ≤ n) : x ∈ l := by
  refine Classical.byContradiction fun hx => ?_
  have := nodup_len (x :: l) (upList n) (List.nodup_cons.2 ⟨hx, hn⟩) (fun y hy => by
    rw [mem_upList]
    rcases List.mem_cons.1 hy with rfl | hy
    · exact ⟨h1, h2⟩
    · exact hs y hy)
  simp [upList] at this
  omega

/-! the way of a level -/
theorem levelW_set (n : Int) : ∀ (l : List Term) (w : Int), w ≠ 0 → levelW n l w = if (∀ t ∈ l, t.level = n → t.assoc = w) then some w else none
  | [], w, _ => by simp [levelW]
  | t :: r, w, hw => by
    simp only [levelW]
    by_cases ht : t.level = n
    · rw [if_pos ht]
      by_cases ha : w = t.assoc
      · rw [if_neg (by simp [ha]), ← ha, levelW_set n r w hw]
        congr 1
        simp [ht, ha]
      · rw [if_pos ⟨hw, ha⟩, if_neg (fun h => ha (h t (by simp) ht).symm)]
    · rw [if_neg ht, levelW_set n r w hw]
      congr 1
      simp [ht]

theorem levelB_iff (n : Int) : ∀ (l : List Term), (∀ t ∈ l, t.level = n → t.assoc ≠ 0) → (levelB l n = true ↔ ∃ a, (∃ t ∈ l, t.level = n) ∧ ∀ t ∈ l, t.level = n → t.assoc = a)
  | [], _ => by simp [levelB, levelW]
  | t :: r, h => by
    by_cases ht : t.level = n
    · have ha := h t (by simp) ht
      have e : levelB (t :: r) n = match (if (∀ u ∈ r, u.level = n → u.assoc = t.assoc) then some t.assoc else none) with | some w => w != 0 | none => false := by
        simp only [levelB, levelW]
        rw [if_pos ht, if_neg (by simp), levelW_set n r _ ha]
        rfl
      rw [e]
      by_cases hr : ∀ u ∈ r, u.level = n → u.assoc = t.assoc
      · rw [if_pos hr]
        simp only [bne_iff_ne, ne_eq, ha, not_false_eq_true, true_iff]
        refine ⟨t.assoc, ⟨t, by simp, ht⟩, fun u hu hl => ?_⟩
        rcases List.mem_cons.1 hu with rfl | hu
        · rfl
        · exact hr u hu hl
      · rw [if_neg hr]
        simp only [Bool.false_eq_true, false_iff]
        rintro ⟨a, _, h2⟩
        exact hr fun u hu hl => (h2 u (by simp [hu]) hl).trans (h2 t (by simp) ht).symm
    · have ih := levelB_iff n r (fun u hu => h u (by simp [hu]))
      have e : levelB (t :: r) n = levelB r n := by
        simp only [levelB, levelW, if_neg ht]
      rw [e, ih]
      constructor
      · rintro ⟨a, ⟨u, hu, hl⟩, h2⟩
        refine ⟨a, ⟨u, by simp [hu], hl⟩, fun v hv hl => ?_⟩
        rcases List.mem_cons.1 hv with rfl | hv
        · exact absurd hl ht
        · exact h2 v hv hl
      · rintro ⟨a, ⟨u, hu, hl⟩, h2⟩
        rcases List.mem_cons.1 hu with rfl | hu
        · exact absurd hl ht
        · exact ⟨a, ⟨u, hu, hl⟩, fun v hv => h2 v (by simp [hv])⟩

def OneWay (l : List Term) : Prop := ∀ t ∈ l, ∀ u ∈ l, t.level = u.level → t.level ≠ 0 → t.assoc = u.assoc

theorem pget_some {κ β : Type} [BEq κ] [LawfulBEq κ] {a : List (κ × β)} {k : κ} : (∃ v, pget a k = some v) ↔ k ∈ a.map (·.1) := by
  simp only [pget, Option.map_eq_some_iff, List.mem_map]
  constructor
  · rintro ⟨v, x, hx, rfl⟩
    have h1 := List.mem_of_find?_eq_some hx
    have h2 := List.find?_some hx
    exact ⟨x, h1, (by simpa using h2 : k = x.1).symm⟩
  · rintro ⟨x, hx, rfl⟩
    cases hf : a.find? (fun y => x.1 == y.1) with
    | some y => exact ⟨y.2, y, rfl, rfl⟩
    | none => exact absurd (List.find?_eq_none.1 hf x hx) (by simp)

theorem keys_put {κ β : Type} [BEq κ] [LawfulBEq κ] {k : κ} {v : β} : ∀ {a : List (κ × β)}, (a.map (·.1)).Nodup → ((pput k v a).map (·.1)).Nodup ∧ ∀ x, x ∈ (pput k v a).map (·.1) ↔ x = k ∨ x ∈ a.map (·.1)
  | [], _ => by simp [pput]
  | y :: a, h => by
    simp only [List.map_cons, List.nodup_cons] at h
    obtain ⟨h1, h2⟩ := keys_put (k := k) (v := v) h.2
    simp only [pput]
    by_cases e : k = y.1
    · simp only [e, beq_self_eq_true, if_true, List.map_cons, List.nodup_cons]
      refine ⟨h, fun x => by simp [e]⟩
    · have : (k == y.1) = false := by simp [e]
      rw [this]
      simp only [Bool.false_eq_true, if_false, List.map_cons, List.nodup_cons, List.mem_cons]
      refine ⟨⟨fun hm => ?_, h1⟩, fun x => ?_⟩
      · rcases (h2 _).1 hm with e' | hm
        · exact e e'.symm
        · exact h.1 hm
      · rw [h2]
        constructor
        · rintro (h | h | h) <;> simp [h]
        · rintro (h | h | h) <;> simp [h]

theorem levS_spec : ∀ (l : List Term) (a : List (Int × Int)) (top : Int), (∀ t ∈ l, t.level ≠ 0 → t.assoc ≠ 0) → (∀ n v, pget a n = some v → v ≠ 0) → (a.map (·.1)).Nodup →
    match levS l a top with
    | some (a', top') => OneWay l ∧ (∀ t ∈ l, ∀ v, t.level ≠ 0 → pget a t.level = some v → t.assoc = v) ∧ (a'.map (·.1)).Nodup ∧ (∀ n, n ∈ a'.map (·.1) ↔ n ∈ a.map (·.1) ∨ (n ≠ 0 ∧ ∃ t ∈ l, t.level = n)) ∧
        top ≤ top' ∧ (∀ t ∈ l, t.level ≠ 0 → t.level ≤ top') ∧ (top' = top ∨ ∃ t ∈ l, t.level = top' ∧ t.level ≠ 0)
    | none => ¬ (OneWay l ∧ ∀ t ∈ l, ∀ v, t.level ≠ 0 → pget a t.level = some v → t.assoc = v)
  | [], a, top, _, _, hn => by
    simp only [levS]
    exact ⟨fun t ht => by simp at ht, fun t ht => by simp at ht, hn, fun n => by simp, by omega, fun t ht => by simp at ht, by simp⟩
  | t :: r, a, top, h0, hv, hn => by
    have h0r : ∀ u ∈ r, u.level ≠ 0 → u.assoc ≠ 0 := fun u hu => h0 u (by simp [hu])
    simp only [levS]
    by_cases ht : t.level = 0
    · rw [if_pos ht]
      have ih := levS_spec r a top h0r hv hn
      have one : OneWay (t :: r) ↔ OneWay r := by
        constructor
        · exact fun h u hu w hw => h u (by simp [hu]) w (by simp [hw])
        · intro h u hu w hw e hz
          rcases List.mem_cons.1 hu with rfl | hu
          · exact absurd ht hz
          · rcases List.mem_cons.1 hw with rfl | hw
            · exact absurd (e.trans ht) hz
            · exact h u hu w hw e hz
      have con : (∀ u ∈ t :: r, ∀ v, u.level ≠ 0 → pget a u.level = some v → u.assoc = v) ↔ ∀ u ∈ r, ∀ v, u.level ≠ 0 → pget a u.level = some v → u.assoc = v := by
        simp [ht]
      have mem : ∀ n, (n ≠ 0 ∧ ∃ u ∈ t :: r, u.level = n) ↔ (n ≠ 0 ∧ ∃ u ∈ r, u.level = n) := fun n => by
        constructor
        · rintro ⟨h1, u, hu, rfl⟩
          rcases List.mem_cons.1 hu with rfl | hu
          · exact absurd ht h1
          · exact ⟨h1, u, hu, rfl⟩
        · rintro ⟨h1, u, hu, rfl⟩; exact ⟨h1, u, by simp [hu], rfl⟩
      cases hs : levS r a top with
      | none => rw [hs] at ih; rw [one, con]; exact ih
      | some x =>
        obtain ⟨a', top'⟩ := x
        rw [hs] at ih
        obtain ⟨i1, i2, i3, i4, i5, i6, i7⟩ := ih
        refine ⟨one.2 i1, con.2 i2, i3, fun n => by rw [i4, mem], i5, ?_, ?_⟩
        · intro u hu hz
          rcases List.mem_cons.1 hu with rfl | hu
          · exact absurd ht hz
          · exact i6 u hu hz
        · rcases i7 with h | ⟨u, hu, h⟩
          · exact .inl h
          · exact .inr ⟨u, by simp [hu], h⟩
    · rw [if_neg ht]
      have ha := h0 t (by simp) ht
      by_cases hc : (pget a t.level).getD 0 ≠ 0 ∧ (pget a t.level).getD 0 ≠ t.assoc
      · rw [if_pos hc]
        simp only
        rintro ⟨_, h2⟩
        cases hp : pget a t.level with
        | none => simp [hp] at hc
        | some v =>
          have := h2 t (by simp) v ht hp
          simp [hp] at hc
          exact hc.2 this.symm
      · rw [if_neg hc]
        have hcon : ∀ v, pget a t.level = some v → t.assoc = v := fun v hp => by
          have := hv _ _ hp
          simp [hp] at hc
          exact (hc this).symm
        have hput : ∀ n, pget (pput t.level t.assoc a) n = if n = t.level then some t.assoc else pget a n := fun n => by
          rw [pget_put]; simp
        have hk := keys_put (k := t.level) (v := t.assoc) hn
        have ih := levS_spec r (pput t.level t.assoc a) (if t.level > top then t.level else top) h0r (fun n v hp => by
          rw [hput] at hp
          split at hp
          · simp at hp; rw [← hp]; exact ha
          · exact hv n v hp) hk.1
        have both : (OneWay (t :: r) ∧ ∀ u ∈ t :: r, ∀ v, u.level ≠ 0 → pget a u.level = some v → u.assoc = v) ↔ (OneWay r ∧ ∀ u ∈ r, ∀ v, u.level ≠ 0 → pget (pput t.level t.assoc a) u.level = some v → u.assoc = v) := by
          constructor
          · rintro ⟨h1, h2⟩
            refine ⟨fun u hu w hw => h1 u (by simp [hu]) w (by simp [hw]), fun u hu v hz hp => ?_⟩
            rw [hput] at hp
            split at hp
            · rename_i e
              simp at hp; rw [← hp]
              exact h1 u (by simp [hu]) t (by simp) e hz
            · exact h2 u (by simp [hu]) v hz hp
          · rintro ⟨h1, h2⟩
            have h3 : ∀ u ∈ r, u.level = t.level → u.assoc = t.assoc := fun u hu e => h2 u hu t.assoc (by rw [e]; exact ht) (by rw [hput, if_pos e])
            refine ⟨fun u hu w hw e hz => ?_, fun u hu v hz hp => ?_⟩
            · rcases List.mem_cons.1 hu with e1 | hu2
              · rcases List.mem_cons.1 hw with e2 | hw2
                · rw [e1, e2]
                · rw [e1] at e ⊢
                  exact (h3 w hw2 e.symm).symm
              · rcases List.mem_cons.1 hw with e2 | hw2
                · rw [e2] at e ⊢
                  exact h3 u hu2 e
                · exact h1 u hu2 w hw2 e hz
            · rcases List.mem_cons.1 hu with rfl | hu
              · exact hcon v hp
              · by_cases e : u.level = t.level
                · rw [h3 u hu e]; exact hcon v (by rw [← e]; exact hp)
                · exact h2 u hu v hz (by rw [hput, if_neg e]; exact hp)
        have htop : top ≤ (if t.level > top then t.level else top) ∧ t.level ≤ (if t.level > top then t.level else top) := by split <;> omega
        cases hs : levS r (pput t.level t.assoc a) (if t.level > top then t.level else top) with
        | none => rw [hs] at ih; simp only; rw [both]; exact ih
        | some x =>
          obtain ⟨a', top'⟩ := x
          rw [hs] at ih
          obtain ⟨i1, i2, i3, i4, i5, i6, i7⟩ := ih
          obtain ⟨b1, b2⟩ := both.2 ⟨i1, i2⟩
          refine ⟨b1, b2, i3, fun n => ?_, by omega, ?_, ?_⟩
          · rw [i4, hk.2]
            constructor
            · rintro ((rfl | h) | ⟨h1, u, hu, h⟩)
              · exact .inr ⟨ht, t, by simp, rfl⟩
              · exact .inl h
              · exact .inr ⟨h1, u, by simp [hu], h⟩
            · rintro (h | ⟨h1, u, hu, h⟩)
              · exact .inl (.inr h)
              · rcases List.mem_cons.1 hu with rfl | hu
                · exact .inl (.inl h.symm)
                · exact .inr ⟨h1, u, hu, h⟩
          · intro u hu hz
            rcases List.mem_cons.1 hu with rfl | hu
            · omega
            · exact i6 u hu hz
          · rcases i7 with h | ⟨u, hu, h⟩
            · by_cases e : t.level > top
              · rw [if_pos e] at h; exact .inr ⟨t, by simp, h.symm, ht⟩
              · rw [if_neg e] at h; exact .inl h
            · exact .inr ⟨u, by simp [hu], h⟩

theorem levels_iff (l : List Term) (h : ∀ t ∈ l, termC t = true) : levelsB l = true ↔ ∀ t ∈ l, ∀ n : Int, 1 ≤ n → n ≤ t.level → levelB l n = true := by
  have hb : ∀ t ∈ l, 0 ≤ t.level ∧ (t.level ≠ 0 → t.assoc ≠ 0) := fun t ht => by
    have := h t ht
    simp only [termC, Bool.and_eq_true, decide_eq_true_eq, beq_iff_eq] at this
    refine ⟨this.1.1.1.1.2, fun h1 h2 => ?_⟩
    have e := this.2
    simp [h1, h2] at e
  have hs := levS_spec l [] 0 (fun t ht => (hb t ht).2) (by simp [pget]) (by simp)
  have hL : ∀ n : Int, 1 ≤ n → (levelB l n = true ↔ ∃ a, (∃ t ∈ l, t.level = n) ∧ ∀ t ∈ l, t.level = n → t.assoc = a) := fun n hn => levelB_iff n l (fun t ht e => (hb t ht).2 (by omega))
  unfold levelsB
  cases hx : levS l [] 0 with
  | none =>
    rw [hx] at hs
    simp only [Bool.false_eq_true, false_iff]
    intro hall
    refine hs ⟨fun t ht u hu e hz => ?_, fun t ht v _ hp => by simp [pget] at hp⟩
    have h1 := hb t ht
    obtain ⟨a, _, h2⟩ := (hL t.level (by omega)).1 (hall t ht t.level (by omega) (by omega))
    exact (h2 t ht rfl).trans (h2 u hu e.symm).symm
  | some x =>
    obtain ⟨a, top⟩ := x
    rw [hx] at hs
    obtain ⟨i1, _, i3, i4, i5, i6, i7⟩ := hs
    simp only [beq_iff_eq]
    have hmem : ∀ n, n ∈ a.map (·.1) ↔ n ≠ 0 ∧ ∃ t ∈ l, t.level = n := fun n => by rw [i4]; simp
    have hin : ∀ x ∈ a.map (·.1), 1 ≤ x ∧ x ≤ (top.toNat : Int) := fun x hx => by
      obtain ⟨h1, t, ht, rfl⟩ := (hmem x).1 hx
      have := (hb t ht).1
      have := i6 t ht h1
      omega
    constructor
    · intro hlen t ht n hn1 hn2
      have htop : t.level ≤ top := i6 t ht (by omega)
      have hm := pigeons i3 hin (by simp; omega) hn1 (show n ≤ (top.toNat : Int) by omega)
      obtain ⟨hz, u, hu, rfl⟩ := (hmem n).1 hm
      exact (hL _ hn1).2 ⟨u.assoc, ⟨u, hu, rfl⟩, fun w hw e => i1 w hw u hu e (by omega)⟩
    · intro hall
      have h1 : a.length ≤ top.toNat := by
        have := nodup_len _ (upList top.toNat) i3 (fun x hx => mem_upList.2 (hin x hx))
        simpa [upList] using this
      have h2 : top.toNat ≤ a.length := by
        rcases i7 with e | ⟨t, ht, e, hz⟩
        · subst e; simp
        · have := nodup_len (upList top.toNat) (a.map (·.1)) (upList_nodup _) (fun x hx => by
            rw [mem_upList] at hx
            have := (hb t ht).1
            obtain ⟨_, ⟨u, hu, hl⟩, _⟩ := (hL x hx.1).1 (hall t ht x hx.1 (by omega))
            exact (hmem x).2 ⟨by omega, u, hu, hl⟩)
          simpa [upList] using this
      omega

end Gv

/-
  May a grammar be: the document's way to ask it and the program's are one (the rest).
  Conditions: none.
-/
set_option linter.unusedSimpArgs false
namespace Gv
open Go Go.Proofs

theorem termsL_iff (g : Gram) : ∀ (l : List Term) (i : Int), termsL g l i = true ↔ ∀ (k : Nat) (t : Term), l[k]? = some t → termB g (i + k) t = true
  | [], i => by simp [termsL]
  | t :: r, i => by
    simp only [termsL, Bool.and_eq_true, termsL_iff g r (i + 1)]
    constructor
    · rintro ⟨h1, h2⟩ k u hk
      cases k with
      | zero => simp at hk; subst hk; simpa using h1
      | succ k =>
        have := h2 k u (by simpa using hk)
        rw [show i + ((k + 1 : Nat) : Int) = i + 1 + k by push_cast; omega]; exact this
    · intro h
      refine ⟨by simpa using h 0 t rfl, fun k u hk => ?_⟩
      have := h (k + 1) u (by simpa using hk)
      rw [show i + 1 + (k : Int) = i + ((k + 1 : Nat) : Int) by push_cast; omega]; exact this

theorem nonsL_iff (g : Gram) : ∀ (l : List ByteArray) (i : Int), nonsL g l i = true ↔ ∀ (k : Nat) (s : ByteArray), l[k]? = some s → nonB g (i + k) s = true
  | [], i => by simp [nonsL]
  | t :: r, i => by
    simp only [nonsL, Bool.and_eq_true, nonsL_iff g r (i + 1)]
    constructor
    · rintro ⟨h1, h2⟩ k u hk
      cases k with
      | zero => simp at hk; subst hk; simpa using h1
      | succ k =>
        have := h2 k u (by simpa using hk)
        rw [show i + ((k + 1 : Nat) : Int) = i + 1 + k by push_cast; omega]; exact this
    · intro h
      refine ⟨by simpa using h 0 t rfl, fun k u hk => ?_⟩
      have := h (k + 1) u (by simpa using hk)
      rw [show i + 1 + (k : Int) = i + ((k + 1 : Nat) : Int) by push_cast; omega]; exact this

theorem termI_neg (g : Gram) (s : ByteArray) : termI g s < 0 ↔ s ∉ g.terms.map Term.name := by
  unfold termI
  rcases idxS_spec s (g.terms.map Term.name) 0 (by omega) with ⟨h1, h2⟩ | ⟨k, h1, h2, _⟩
  · exact ⟨fun _ => h2, fun _ => h1⟩
  · constructor
    · intro h; omega
    · intro h; exact absurd (List.mem_of_getElem? h2) h

theorem lvlsB_iff (g : Gram) (t : Term) : lvlsB g t = true ↔ ∀ n : Int, 1 ≤ n → n ≤ t.level → levelB g.terms n = true := by
  simp only [lvlsB, List.all_eq_true, List.mem_range]
  constructor
  · intro h n h1 h2
    have := h (n - 1).toNat (by omega)
    rwa [show (((n - 1).toNat : Nat) : Int) + 1 = n by omega] at this
  · intro h k hk
    exact h _ (by omega) (by omega)

theorem right_same (g : Gram) : rightC g = right09 g := by
  rw [Bool.eq_iff_iff]
  simp only [rightC, right09, terms09, nons09, termsC, Bool.and_eq_true, decide_eq_true_eq, termsL_iff, nonsL_iff, rulesC_L, List.all_eq_true, Bool.not_eq_true', List.any_eq_false, Bool.not_eq_true, names_inj, allNames, List.nodup_append, Int.zero_add, Int.zero_sub, Bool.not_not]
  have hT : (∀ (k : Nat) (t : Term), g.terms[k]? = some t → termB g k t = true) ↔ (∀ t ∈ g.terms, termC t = true) ∧ (g.terms.map Term.name).Nodup ∧ (∀ t ∈ g.terms, lvlsB g t = true) := by
    rw [← idx_nodup]
    constructor
    · intro h
      have h' : ∀ t ∈ g.terms, ∃ k : Nat, g.terms[k]? = some t := fun t ht => List.getElem?_of_mem ht
      refine ⟨fun t ht => ?_, fun k s hk => ?_, fun t ht => ?_⟩
      · obtain ⟨k, hk⟩ := h' t ht
        have := h k t hk
        simp only [termB, termC, Bool.and_eq_true, decide_eq_true_eq] at this ⊢
        simp [this]
      · rw [List.getElem?_map, Option.map_eq_some_iff] at hk
        obtain ⟨t, hk, rfl⟩ := hk
        have := h k t hk
        simp only [termB, Bool.and_eq_true, beq_iff_eq] at this
        exact this.1.1.1.1.1.1.2
      · obtain ⟨k, hk⟩ := h' t ht
        have := h k t hk
        simp only [termB, Bool.and_eq_true] at this
        exact this.2
    · rintro ⟨h1, h2, h3⟩ k t hk
      have hm := List.mem_of_getElem? hk
      have a := h1 t hm
      have b := h2 k t.name (by rw [List.getElem?_map, hk]; rfl)
      have c := h3 t hm
      simp only [termB, termC, termI, Bool.and_eq_true, decide_eq_true_eq] at a ⊢
      simp [a, b, c]
  have hN : (∀ (k : Nat) (s : ByteArray), g.nons[k]? = some s → nonB g k s = true) ↔ (∀ s ∈ g.nons, nameB (bts s) = true) ∧ g.nons.Nodup ∧ (∀ s ∈ g.nons, s ∉ g.terms.map Term.name) := by
    rw [← idx_nodup]
    constructor
    · intro h
      have h' : ∀ t ∈ g.nons, ∃ k : Nat, g.nons[k]? = some t := fun t ht => List.getElem?_of_mem ht
      refine ⟨fun t ht => ?_, fun k s hk => ?_, fun t ht => ?_⟩
      · obtain ⟨k, hk⟩ := h' t ht
        have := h k t hk
        simp only [nonB, Bool.and_eq_true] at this
        exact this.1.1
      · have := h k s hk
        simp only [nonB, nonI, Bool.and_eq_true, beq_iff_eq] at this
        exact this.1.2
      · obtain ⟨k, hk⟩ := h' t ht
        have := h k t hk
        simp only [nonB, Bool.and_eq_true, decide_eq_true_eq] at this
        exact (termI_neg g t).1 this.2
    · rintro ⟨h1, h2, h3⟩ k s hk
      have hm := List.mem_of_getElem? hk
      have a := h1 s hm
      have b := h2 k s hk
      have c := (termI_neg g s).2 (h3 s hm)
      simp [nonB, nonI, a, b, c]
  rw [hT, hN]
  constructor
  · rintro ⟨⟨⟨⟨⟨⟨⟨⟨t1, t2⟩, t3⟩, n1, n2⟩, r1, r2⟩, a1, a2, a3⟩, s1, s2⟩, n3⟩, ru⟩
    have hl := (levels_iff g.terms t1).1 t3
    exact ⟨⟨⟨⟨⟨⟨⟨t2, t1, a2, fun t ht => (lvlsB_iff g t).2 (hl t ht)⟩, ⟨by omega, by omega⟩, fun s hs => by simpa using n3 s hs, a1, fun s hs hm => a3 s hs s hm rfl⟩, by omega⟩, by omega⟩, s1⟩, by omega⟩, ru⟩
  · rintro ⟨⟨⟨⟨⟨⟨⟨t2, t1, a2, t3⟩, ⟨n1, n2⟩, n3, a1, a3⟩, r1⟩, r2⟩, s1⟩, s2⟩, ru⟩
    have hl := (levels_iff g.terms t1).2 (fun t ht => (lvlsB_iff g t).1 (t3 t ht))
    exact ⟨⟨⟨⟨⟨⟨⟨⟨t1, t2⟩, hl⟩, by omega, by omega⟩, by omega, by omega⟩, a1, a2, fun s hs u hu e => a3 s hs (e ▸ hu)⟩, s1, by omega⟩, fun s hs => by simp [n3 s hs]⟩, ru⟩

theorem pc_cRight (g : Gram) (hg : g.Ok) (hs : g.nons.length + g.terms.length ≤ 1000) : PCall Tryz.prog 41 [.agg (encG g)] (gb (right09 g)) := by
  rw [← right_same]; exact pc_cRightC g hg hs

end Gv

/-
  What follows from what: the program's own functions.
  Conditions: lists that are no longer than an int says, numbers that are ints; a grammar that may be.
-/
set_option linter.unusedSimpArgs false
set_option maxRecDepth 100000
namespace Gv
open Go Go.Proofs

/-- A rule whose symbols there are. -/
def RuleIn (n : Nat) (r : Rule) : Prop := In64 r.left ∧ 0 ≤ r.left ∧ r.left < n ∧ r.right.length ≤ 6 ∧ ∀ s ∈ r.right, In64 s ∧ (s < 0 → -1 - s < n)

theorem Gram.Fine.ruleIn {g : Gram} (hg : g.Ok) (h : g.Fine) {r : Rule} (hr : r ∈ g.rules) : RuleIn g.nons.length r :=
  ⟨(hg.rule r hr).1, (h.left r hr).1, (h.left r hr).2, h.right r hr, fun s hs => ⟨(hg.rule r hr).2.2.2 s hs, fun hn => h.neg hr hs hn⟩⟩

def S_trim_bare_1 : SF := ⟨.seq (.region false [⟨none, [((some 2), .op (.mov (.val (.val (.bool false)))))]⟩]) <|
  .seq (.region false [⟨none, [((some 3), .op (.mov (.tmp 0))), ((some 4), .op (.arith .geq (.tmp 3) (.val (.val (.int .i64 0))))), ((some 2), .op (.mov (.tmp 4)))]⟩]) <|
  .ret,
  [.tmp 2], 5⟩
theorem S_trim_bare_1_ok : compF Tryz.prog 77 [] = some S_trim_bare_1 := by kernel_rfl

def S_trim_bare : SF := ⟨.seq (.region false [⟨none, [((some 1), .op (.frz (.tmp 0))), ((some 2), .op (.mov (.val (.val (.bool false)))))]⟩]) <|
  .seq (.region false [⟨none, [((some 3), .op (.addr 1 (.tmp 1))), ((some 4), .op (.load none (.tmp 3))), ((some 5), .call (.val (.fn 62 [] [])) [(.tmp 4), (.val (.fn 77 [] []))]), ((some 6), .op (.not (.tmp 5))), ((some 2), .op (.mov (.tmp 6)))]⟩]) <|
  .ret,
  [.tmp 2], 7⟩
theorem S_trim_bare_ok : compF Tryz.prog 44 [1] = some S_trim_bare := by kernel_rfl

def S_trim_within_1 : SF := ⟨.seq (.region false [⟨none, [((some 3), .op (.mov (.val (.val (.bool false)))))]⟩]) <|
  .seq (.region false [⟨none, [((some 4), .op (.mov (.tmp 0))), ((some 5), .op (.arith .lss (.tmp 4) (.val (.val (.int .i64 0))))), ((some 6), .op (.mov (.tmp 5)))]⟩, ⟨(some (6, true)), [((some 7), .op (.load none (.tmp 1))), ((some 8), .op (.mov (.tmp 0))), ((some 9), .op (.arith .sub (.val (.val (.int .i64 (-1)))) (.tmp 8))), ((some 10), .op (.idx 1 (.tmp 7) (.tmp 9))), ((some 11), .op (.load none (.tmp 10))), ((some 12), .op (.not (.tmp 11)))]⟩, ⟨none, [((some 13), .op (.pick (.tmp 6) (.tmp 12) (.val (.val (.bool false))))), ((some 3), .op (.mov (.tmp 13)))]⟩]) <|
  .ret,
  [.tmp 3], 14⟩
theorem S_trim_within_1_ok : compF Tryz.prog 78 [] = some S_trim_within_1 := by kernel_rfl

def S_trim_within : SF := ⟨.seq (.region false [⟨none, [((some 2), .op (.frz (.tmp 0))), ((some 3), .op (.frz (.tmp 1))), ((some 4), .op (.mov (.val (.val (.bool false)))))]⟩]) <|
  .seq (.region false [⟨none, [((some 5), .op (.addr 1 (.tmp 2))), ((some 6), .op (.load none (.tmp 5))), ((some 7), .op (.mkfn 78 [] [(.tmp 3)])), ((some 8), .call (.val (.fn 62 [] [])) [(.tmp 6), (.tmp 7)]), ((some 9), .op (.not (.tmp 8))), ((some 4), .op (.mov (.tmp 9)))]⟩]) <|
  .ret,
  [.tmp 4], 10⟩
theorem S_trim_within_ok : compF Tryz.prog 45 [2, 3] = some S_trim_within := by kernel_rfl

def S_trim_Nullable_1 : SF := ⟨.seq (.region false [⟨none, [((some 2), .op (.frz (.tmp 0))), ((some 4), .op (.mov (.val (.emp 1))))]⟩]) <|
  .seq (.seq (.region false [⟨none, [((some 5), .op (.load (some 3) (.tmp 2))), ((some 6), .call (.val (.fn 44 [] [])) [(.tmp 5)]), ((some 7), .op (.mov (.tmp 6)))]⟩, ⟨(some (7, true)), [((some 8), .op (.load (some 3) (.tmp 2))), ((some 9), .op (.mov (.tmp 1))), ((some 10), .call (.val (.fn 45 [] [])) [(.tmp 8), (.tmp 9)])]⟩, ⟨none, [((some 11), .op (.pick (.tmp 7) (.tmp 10) (.val (.val (.bool false)))))]⟩]) <|
  .cond (.tmp 11) (.seq (.region false [⟨none, [((some 12), .op (.addr 0 (.tmp 2))), ((some 13), .op (.load none (.tmp 12))), ((some 14), .op (.bslice 1 1 [(.val (.int .i64 0))] [(0, (.tmp 13))])), ((some 4), .op (.mov (.tmp 14)))]⟩]) <|
  .ret) (.skip)) <|
  .seq (.region false [⟨none, [((some 4), .op (.mov (.val (.emp 1))))]⟩]) <|
  .ret,
  [.tmp 4], 15⟩
theorem S_trim_Nullable_1_ok : compF Tryz.prog 43 [2] = some S_trim_Nullable_1 := by kernel_rfl

def S_trim_Productive_1 : SF := ⟨.seq (.region false [⟨none, [((some 2), .op (.frz (.tmp 0))), ((some 4), .op (.mov (.val (.emp 1))))]⟩]) <|
  .seq (.seq (.region false [⟨none, [((some 5), .op (.load (some 3) (.tmp 2))), ((some 6), .op (.mov (.tmp 1))), ((some 7), .call (.val (.fn 45 [] [])) [(.tmp 5), (.tmp 6)])]⟩]) <|
  .cond (.tmp 7) (.seq (.region false [⟨none, [((some 8), .op (.addr 0 (.tmp 2))), ((some 9), .op (.load none (.tmp 8))), ((some 10), .op (.bslice 1 1 [(.val (.int .i64 0))] [(0, (.tmp 9))])), ((some 4), .op (.mov (.tmp 10)))]⟩]) <|
  .ret) (.skip)) <|
  .seq (.region false [⟨none, [((some 4), .op (.mov (.val (.emp 1))))]⟩]) <|
  .ret,
  [.tmp 4], 11⟩
theorem S_trim_Productive_1_ok : compF Tryz.prog 47 [2] = some S_trim_Productive_1 := by kernel_rfl

def B_trim_Reachable_1_0 : SC :=
  .seq (.region false [⟨none, [((some 24), .op (.arith .lss (.tmp 23) (.tmp 22)))]⟩]) <|
  .seq (.cond (.tmp 24) (.skip) (.exit 0)) <|
  .seq (.block 1 (.seq (.region false [⟨none, [((some 25), .op (.idx 1 (.tmp 21) (.tmp 23))), ((some 26), .op (.load none (.tmp 25))), ((some 7), .op (.mov (.tmp 26)))]⟩]) <|
  .seq (.region false [⟨none, [((some 27), .op (.mov (.tmp 7))), ((some 28), .op (.arith .lss (.tmp 27) (.val (.val (.int .i64 0)))))]⟩]) <|
  .cond (.tmp 28) (.region false [⟨none, [((some 29), .op (.mov (.tmp 5))), ((some 30), .op (.mov (.tmp 7))), ((some 31), .op (.arith .sub (.val (.val (.int .i64 (-1)))) (.tmp 30))), ((some 32), .op (.bslice 1 1 [(.val (.int .i64 0))] [(0, (.tmp 31))])), ((some 33), .op (.app 1 8 (.tmp 29) (.tmp 32))), ((some 5), .op (.mov (.tmp 33)))]⟩]) (.skip))) <|
  .region false [⟨none, [((some 34), .op (.arith .add (.tmp 23) (.val (.val (.int .i64 1))))), ((some 23), .op (.mov (.tmp 34)))]⟩]
def S_trim_Reachable_1 : SF := ⟨.seq (.region false [⟨none, [((some 3), .op (.frz (.tmp 0))), ((some 5), .op (.mov (.val (.emp 1))))]⟩]) <|
  .seq (.seq (.region false [⟨none, [((some 8), .op (.mov (.tmp 1))), ((some 9), .op (.addr 0 (.tmp 3))), ((some 10), .op (.load none (.tmp 9))), ((some 11), .op (.idx 1 (.tmp 8) (.tmp 10))), ((some 12), .op (.load none (.tmp 11))), ((some 13), .op (.not (.tmp 12))), ((some 14), .op (.mov (.tmp 13)))]⟩, ⟨(some (14, false)), [((some 15), .op (.load (some 3) (.tmp 3))), ((some 16), .op (.load none (.tmp 2))), ((some 17), .call (.val (.fn 45 [] [])) [(.tmp 15), (.tmp 16)]), ((some 18), .op (.not (.tmp 17)))]⟩, ⟨none, [((some 19), .op (.pick (.tmp 14) (.val (.val (.bool true))) (.tmp 18)))]⟩]) <|
  .cond (.tmp 19) (.seq (.region false [⟨none, [((some 5), .op (.mov (.val (.emp 1))))]⟩]) <|
  .ret) (.skip)) <|
  .seq (.seq (.region false [⟨none, [((some 20), .op (.addr 1 (.tmp 3))), ((some 21), .op (.load none (.tmp 20))), ((some 22), .op (.len (.tmp 21))), ((some 23), .op (.mov (.val (.val (.int .i64 0)))))]⟩]) <|
  .block 0 (.loop B_trim_Reachable_1_0)) <|
  .seq (.region false [⟨none, [((some 35), .op (.mov (.tmp 5))), ((some 5), .op (.mov (.tmp 35)))]⟩]) <|
  .ret,
  [.tmp 5], 36⟩
theorem S_trim_Reachable_1_ok : compF Tryz.prog 48 [3] = some S_trim_Reachable_1 := by kernel_rfl


theorem rule_tree (r : Rule) : ∀ v ∈ [V.agg (encR r)], Tree v := by intro v hv; simp at hv; subst hv; exact tree_agg _ (encR_tree r)
theorem rb_trees (r : Rule) (is : List Bool) : ∀ v ∈ [V.agg (encR r), encB is], Tree v := by
  intro v hv; simp at hv
  rcases hv with rfl | rfl
  · exact tree_agg _ (encR_tree r)
  · exact encB_tree is

theorem pc_bare1 (x : Int) : PCall Tryz.prog 77 [gi x] (gb (decide (0 ≤ x))) := by
  refine PCall.val (vals_tree (l := [.int .i64 x])) fun H => ?_
  refine MCall.of mixed S_trim_bare_1_ok ?_
  simp (disch := omega) only [↓wr, ↓reduceIte, wq, eq_self, ne_eq, implies_true, oneV, intOp, goI, splice, sBuild, fillE, nilB, isNil, Nat.reduceEqDiff, Nat.reduceAdd, Nat.reduceLT, Nat.reduceLeDiff, Int.reduceNeg, Int.reduceToNat, reduceCtorEq, decide_true, decide_false, S_trim_bare_1]

theorem pc_bare (r : Rule) (hr : Short r.right) : PCall Tryz.prog 44 [.agg (encR r)] (gb (!r.right.any fun s => decide (0 ≤ s))) := by
  refine PCall.val (rule_tree r) fun H => ?_
  refine MCall.of mixed S_trim_bare_ok ?_
  simp (disch := omega) only [↓wr, ↓reduceIte, wq, eq_self, ne_eq, implies_true, oneV, intOp, goI, splice, sBuild, fillE, nilB, isNil, Nat.reduceEqDiff, Nat.reduceAdd, Nat.reduceLT, Nat.reduceLeDiff, Int.reduceNeg, Int.reduceToNat, reduceCtorEq, decide_true, decide_false, S_trim_bare, encR, encI]
  refine CallG.pure (pc_ContainsFuncI r.right hr 77 [] (by simp) (fun s => decide (0 ≤ s)) (fun x _ => pc_bare1 x) (by kernel_rfl)) (by kernel_rfl) ?_
  simp (disch := omega) only [↓wr, ↓reduceIte, wq, eq_self, ne_eq, implies_true, oneV, intOp, goI, splice, sBuild, fillE, nilB, isNil, Nat.reduceEqDiff, Nat.reduceAdd, Nat.reduceLT, Nat.reduceLeDiff, Int.reduceNeg, Int.reduceToNat, reduceCtorEq, decide_true, decide_false]

def outB (is : List Bool) (s : Int) : Bool := decide (s < 0) && !is.getD (-1 - s).toNat false

theorem pc_within1 (is : List Bool) (s : Int) (hs : In64 s ∧ (s < 0 → -1 - s < is.length)) : PCall Tryz.prog 78 [gi s, .fptr [encB is] 0] (gb (outB is s)) := by
  refine PCall.val ?_ fun H => ?_
  · intro v hv; simp at hv
    rcases hv with rfl | rfl
    · exact .val _
    · exact fptr_tree (by intro v hv; simp at hv; subst hv; exact encB_tree is)
  obtain ⟨⟨h1, h2⟩, h3⟩ := hs
  refine MCall.of mixed S_trim_within_1_ok ?_
  simp (disch := omega) only [↓wr, ↓reduceIte, wq, eq_self, ne_eq, implies_true, oneV, intOp, goI, splice, sBuild, fillE, nilB, isNil, Nat.reduceEqDiff, Nat.reduceAdd, Nat.reduceLT, Nat.reduceLeDiff, Int.reduceNeg, Int.reduceToNat, reduceCtorEq, decide_true, decide_false, S_trim_within_1, encB]
  refine GoB.dec (fun h => ?_) (fun h => ?_)
  · have hb : is[(-1 - s).toNat]? = some (is[(-1 - s).toNat]'(by omega)) := List.getElem?_eq_getElem (by omega)
    have hbd : is.getD (-1 - s).toNat false = is[(-1 - s).toNat]'(by omega) := by simp [List.getD_eq_getElem?_getD, hb]
    generalize is[(-1 - s).toNat]'(by omega) = b at hb hbd
    simp (disch := omega) only [↓wr, ↓reduceIte, wq, eq_self, ne_eq, implies_true, oneV, intOp, goI, splice, sBuild, fillE, nilB, isNil, Nat.reduceEqDiff, Nat.reduceAdd, Nat.reduceLT, Nat.reduceLeDiff, Int.reduceNeg, Int.reduceToNat, reduceCtorEq, decide_true, decide_false, List.getElem?_map, hb]
    simp only [outB, hbd, h, decide_true, Bool.true_and]
  · simp (disch := omega) only [↓wr, ↓reduceIte, wq, eq_self, ne_eq, implies_true, oneV, intOp, goI, splice, sBuild, fillE, nilB, isNil, Nat.reduceEqDiff, Nat.reduceAdd, Nat.reduceLT, Nat.reduceLeDiff, Int.reduceNeg, Int.reduceToNat, reduceCtorEq, decide_true, decide_false]
    simp [outB, h]

theorem within_all {is : List Bool} {l : List Int} : (!l.any (outB is)) = allG l is true := by
  simp only [allG, List.not_any_eq_all_not]
  congr 1
  funext s
  simp only [outB]
  by_cases h : 0 ≤ s
  · simp [h, show ¬ s < 0 by omega]
  · simp [h, show s < 0 by omega]

theorem pc_within (r : Rule) (is : List Bool) (hr : Short r.right) (hs : ∀ s ∈ r.right, In64 s ∧ (s < 0 → -1 - s < is.length)) : PCall Tryz.prog 45 [.agg (encR r), encB is] (gb (allG r.right is true)) := by
  rw [← within_all]
  refine PCall.val (rb_trees r is) fun H => ?_
  refine MCall.of mixed S_trim_within_ok ?_
  simp (disch := omega) only [↓wr, ↓reduceIte, wq, eq_self, ne_eq, implies_true, oneV, intOp, goI, splice, sBuild, fillE, nilB, isNil, Nat.reduceEqDiff, Nat.reduceAdd, Nat.reduceLT, Nat.reduceLeDiff, Int.reduceNeg, Int.reduceToNat, reduceCtorEq, decide_true, decide_false, S_trim_within, encR, encB, encI]
  refine CallG.pure (pc_ContainsFuncI r.right hr 78 [.fptr [encB is] 0] (by
    intro v hv; simp at hv; subst hv
    exact fptr_tree (by intro v hv; simp at hv; subst hv; exact encB_tree is)) (outB is) (fun x hx => pc_within1 is x (hs x hx)) (by kernel_rfl)) (by kernel_rfl) ?_
  simp (disch := omega) only [↓wr, ↓reduceIte, wq, eq_self, ne_eq, implies_true, oneV, intOp, goI, splice, sBuild, fillE, nilB, isNil, Nat.reduceEqDiff, Nat.reduceAdd, Nat.reduceLT, Nat.reduceLeDiff, Int.reduceNeg, Int.reduceToNat, reduceCtorEq, decide_true, decide_false]

theorem bare_within {is : List Bool} {l : List Int} : ((!l.any fun s => decide (0 ≤ s)) && allG l is true) = allG l is false := by
  induction l with
  | nil => rfl
  | cons s l ih =>
    simp only [allG, List.all_cons, List.any_cons] at ih ⊢
    rw [← ih]
    by_cases h : 0 ≤ s
    · simp [h]
    · simp only [h, decide_false, Bool.false_or, if_false]
      cases (l.any fun s => decide (0 ≤ s)) <;> simp

/-- What a new list of numbers is. -/
theorem frn_ints {h : Heap} {u : V} {l : List Int} (ho : OwnA h.view u 1 (l.map fun x => [gi x])) : FrN h u (encI l) := FrN.vals (f := Value.int .i64) ho

theorem pn_Nullable1 (r : Rule) (is : List Bool) (hr : RuleIn is.length r) : PNew Tryz.prog 43 [.agg (encR r), encB is] (encI (if allG r.right is false = true then [r.left] else [])) := by
  obtain ⟨hl, _, _, hr6, hs⟩ := hr
  have hsh : Short r.right := by unfold Short; omega
  refine PNew.of (rb_trees r is) ?_
  refine MCall.of mixed S_trim_Nullable_1_ok ?_
  rw [← bare_within]
  simp (disch := omega) only [↓wr, ↓reduceIte, wq, eq_self, ne_eq, implies_true, oneV, intOp, goI, splice, sBuild, fillE, nilB, isNil, Nat.reduceEqDiff, Nat.reduceAdd, Nat.reduceLT, Nat.reduceLeDiff, Int.reduceNeg, Int.reduceToNat, reduceCtorEq, decide_true, decide_false, S_trim_Nullable_1, encR, encI]
  refine CallG.pure (pc_bare r hsh) (by kernel_rfl) ?_
  repeat' (first | (refine GoB.dec (fun _ => ?_) (fun _ => ?_)) | (refine GoB.eq (fun _ => ?_) (fun _ => ?_)) | (refine GoB.ne (fun _ => ?_) (fun _ => ?_)) | (refine GoB.split (fun _ => ?_) (fun _ => ?_)) | (refine CallG.pure (pc_within r is hsh hs) (by kernel_rfl) ?_) | (simp (disch := omega) only [↓wr, ↓reduceIte, wq, eq_self, ne_eq, implies_true, oneV, intOp, goI, splice, sBuild, fillE, nilB, isNil, Nat.reduceEqDiff, Nat.reduceAdd, Nat.reduceLT, Nat.reduceLeDiff, Int.reduceNeg, Int.reduceToNat, reduceCtorEq, decide_true, decide_false, encR, encI]))
  all_goals first
    | (intro n h' hh; rw [if_pos (by simp [*])]; exact frn_ints (l := [r.left]) (.inr ⟨n, rfl, by rw [hh]; simp [View.set]⟩))
    | (intro h' hh; rw [if_neg (by simp [*])]; exact .emp _)

theorem pn_Productive1 (r : Rule) (is : List Bool) (hr : RuleIn is.length r) : PNew Tryz.prog 47 [.agg (encR r), encB is] (encI (if allG r.right is true = true then [r.left] else [])) := by
  obtain ⟨hl, _, _, hr6, hs⟩ := hr
  have hsh : Short r.right := by unfold Short; omega
  refine PNew.of (rb_trees r is) ?_
  refine MCall.of mixed S_trim_Productive_1_ok ?_
  simp (disch := omega) only [↓wr, ↓reduceIte, wq, eq_self, ne_eq, implies_true, oneV, intOp, goI, splice, sBuild, fillE, nilB, isNil, Nat.reduceEqDiff, Nat.reduceAdd, Nat.reduceLT, Nat.reduceLeDiff, Int.reduceNeg, Int.reduceToNat, reduceCtorEq, decide_true, decide_false, S_trim_Productive_1, encR, encI]
  refine CallG.pure (pc_within r is hsh hs) (by kernel_rfl) ?_
  repeat' (first | (refine GoB.dec (fun _ => ?_) (fun _ => ?_)) | (refine GoB.eq (fun _ => ?_) (fun _ => ?_)) | (refine GoB.ne (fun _ => ?_) (fun _ => ?_)) | (refine GoB.split (fun _ => ?_) (fun _ => ?_)) | (simp (disch := omega) only [↓wr, ↓reduceIte, wq, eq_self, ne_eq, implies_true, oneV, intOp, goI, splice, sBuild, fillE, nilB, isNil, Nat.reduceEqDiff, Nat.reduceAdd, Nat.reduceLT, Nat.reduceLeDiff, Int.reduceNeg, Int.reduceToNat, reduceCtorEq, decide_true, decide_false, encR, encI]))
  all_goals first
    | (intro n h' hh; rw [if_pos (by simp [*])]; exact frn_ints (l := [r.left]) (.inr ⟨n, rfl, by rw [hh]; simp [View.set]⟩))
    | (intro h' hh; rw [if_neg (by simp [*])]; exact .emp _)

def nonsOf (l : List Int) : List Int := (l.filter fun s => decide (s < 0)).map fun s => -1 - s

theorem rbp_trees (r : Rule) (is p : List Bool) : ∀ v ∈ [V.agg (encR r), encB is, .fptr [encB p] 0], Tree v := by
  intro v hv; simp at hv
  rcases hv with rfl | rfl | rfl
  · exact tree_agg _ (encR_tree r)
  · exact encB_tree is
  · exact fptr_tree (by intro v hv; simp at hv; subst hv; exact encB_tree p)

set_option maxHeartbeats 1000000 in
theorem pn_Reachable1 (r : Rule) (is p : List Bool) (hr : RuleIn is.length r) (hp : p.length = is.length) :
    PNew Tryz.prog 48 [.agg (encR r), encB is, .fptr [encB p] 0] (encI (if (is.getD r.left.toNat false && allG r.right p true) = true then nonsOf r.right else [])) := by
  obtain ⟨hl, hl0, hl1, hr6, hs⟩ := hr
  have hsh : Short r.right := by unfold Short; omega
  refine PNew.of (rbp_trees r is p) ?_
  refine MCall.of mixed S_trim_Reachable_1_ok ?_
  have hb : is[r.left.toNat]? = some (is[r.left.toNat]'(by omega)) := List.getElem?_eq_getElem (by omega)
  have hbd : is.getD r.left.toNat false = is[r.left.toNat]'(by omega) := by simp [List.getD_eq_getElem?_getD, hb]
  generalize is[r.left.toNat]'(by omega) = b at hb hbd
  rw [hbd]
  simp (disch := omega) only [↓wr, ↓reduceIte, wq, eq_self, ne_eq, implies_true, oneV, intOp, goI, splice, sBuild, fillE, nilB, isNil, Nat.reduceEqDiff, Nat.reduceAdd, Nat.reduceLT, Nat.reduceLeDiff, Int.reduceNeg, Int.reduceToNat, reduceCtorEq, decide_true, decide_false, S_trim_Reachable_1, encR, encI, encB, List.getElem?_map, hb]
  cases b with
  | false =>
    simp (disch := omega) only [↓wr, ↓reduceIte, wq, eq_self, ne_eq, implies_true, oneV, intOp, goI, splice, sBuild, fillE, nilB, isNil, Nat.reduceEqDiff, Nat.reduceAdd, Nat.reduceLT, Nat.reduceLeDiff, Int.reduceNeg, Int.reduceToNat, reduceCtorEq, decide_true, decide_false]
    intro h' hh
    exact .emp _
  | true =>
    simp (disch := omega) only [↓wr, ↓reduceIte, wq, eq_self, ne_eq, implies_true, oneV, intOp, goI, splice, sBuild, fillE, nilB, isNil, Nat.reduceEqDiff, Nat.reduceAdd, Nat.reduceLT, Nat.reduceLeDiff, Int.reduceNeg, Int.reduceToNat, reduceCtorEq, decide_true, decide_false, encR, encI, encB]
    refine CallG.pure (pc_within r p hsh (fun s hs' => ⟨(hs s hs').1, fun h => by rw [hp]; exact (hs s hs').2 h⟩)) (by kernel_rfl) ?_
    repeat' (first | (refine GoB.dec (fun _ => ?_) (fun _ => ?_)) | (refine GoB.eq (fun _ => ?_) (fun _ => ?_)) | (refine GoB.ne (fun _ => ?_) (fun _ => ?_)) | (refine GoB.split (fun _ => ?_) (fun _ => ?_)) | (simp (disch := omega) only [↓wr, ↓reduceIte, wq, eq_self, ne_eq, implies_true, oneV, intOp, goI, splice, sBuild, fillE, nilB, isNil, Nat.reduceEqDiff, Nat.reduceAdd, Nat.reduceLT, Nat.reduceLeDiff, Int.reduceNeg, Int.reduceToNat, reduceCtorEq, decide_true, decide_false, encR, encI, encB]))
    · rename_i ha
      rw [if_pos (by simp [ha])]
      refine LoopG.up r.right.length (fun i T H => (∃ u, T 5 = u ∧ OwnA H u 1 ((nonsOf (r.right.take i)).map fun x => [gi x])) ∧ T 21 = encI r.right ∧ T 22 = gi r.right.length ∧ T 23 = gi i) ?_ ?_
      · exact ⟨⟨_, rfl, .nil⟩, rfl, rfl, rfl⟩
      rintro i k T H' hk ⟨⟨u, h5, hu⟩, h21, h22, h23⟩
      simp (disch := omega) only [↓wr, ↓reduceIte, wq, eq_self, ne_eq, implies_true, oneV, intOp, goI, splice, sBuild, fillE, nilB, isNil, Nat.reduceEqDiff, Nat.reduceAdd, Nat.reduceLT, Nat.reduceLeDiff, Int.reduceNeg, Int.reduceToNat, reduceCtorEq, decide_true, decide_false, B_trim_Reachable_1_0, h5, h21, h22, h23, encI]
      refine GoB.dec (fun hc => ?_) (fun hc => ?_)
      · have hg : r.right[i]? = some (r.right[i]'(by omega)) := List.getElem?_eq_getElem (by omega)
        have hm : r.right[i]'(by omega) ∈ r.right := List.getElem_mem _
        have htk : nonsOf (r.right.take (i + 1)) = nonsOf (r.right.take i) ++ nonsOf [r.right[i]'(by omega)] := by
          rw [List.take_add_one, hg, nonsOf, List.filter_append, List.map_append]; rfl
        have hlen : (nonsOf (r.right.take i)).length ≤ 6 := by
          have h1 : (nonsOf (r.right.take i)).length ≤ (r.right.take i).length := by simp only [nonsOf, List.length_map]; exact List.length_filter_le _ _
          have h2 : (r.right.take i).length ≤ i := List.length_take_le _ _
          omega
        generalize r.right[i]'(by omega) = s at hg hm htk
        obtain ⟨⟨s1, s2⟩, s3⟩ := hs s hm
        simp (disch := omega) only [↓wr, ↓reduceIte, wq, eq_self, ne_eq, implies_true, oneV, intOp, goI, splice, sBuild, fillE, nilB, isNil, Nat.reduceEqDiff, Nat.reduceAdd, Nat.reduceLT, Nat.reduceLeDiff, Int.reduceNeg, Int.reduceToNat, reduceCtorEq, decide_true, decide_false, h5, h21, h22, h23, encI, List.getElem?_map, hg]
        refine GoB.dec (fun hd => ?_) (fun hd => ?_)
        · simp (disch := omega) only [↓wr, ↓reduceIte, wq, eq_self, ne_eq, implies_true, oneV, intOp, goI, splice, sBuild, fillE, nilB, isNil, Nat.reduceEqDiff, Nat.reduceAdd, Nat.reduceLT, Nat.reduceLeDiff, Int.reduceNeg, Int.reduceToNat, reduceCtorEq, decide_true, decide_false, h5, h21, h22, h23]
          intro m hm
          try simp (disch := omega) only [↓wr, ↓reduceIte, wq, eq_self, ne_eq, implies_true, oneV, intOp, goI, splice, sBuild, fillE, nilB, isNil, Nat.reduceEqDiff, Nat.reduceAdd, Nat.reduceLT, Nat.reduceLeDiff, Int.reduceNeg, Int.reduceToNat, reduceCtorEq, decide_true, decide_false, h5, h21, h22, h23, elemsOf_new]
          refine goApp_own (hu.fresh hm) (by simp) (by simp [cellOk]) (by unfold limit; simp at hlen ⊢; omega) (by unfold limit; simp at hlen ⊢; omega) ?_
          intro u' H2 hu' _
          simp (disch := omega) only [↓wr, ↓reduceIte, wq, eq_self, ne_eq, implies_true, oneV, intOp, goI, splice, sBuild, fillE, nilB, isNil, Nat.reduceEqDiff, Nat.reduceAdd, Nat.reduceLT, Nat.reduceLeDiff, Int.reduceNeg, Int.reduceToNat, reduceCtorEq, decide_true, decide_false, h21, h22, h23]
          refine up_next hk (by omega) ⟨⟨u', rfl, ?_⟩, h21, h22, rfl⟩
          rw [htk]
          simpa [nonsOf, hd] using hu'
        · simp (disch := omega) only [↓wr, ↓reduceIte, wq, eq_self, ne_eq, implies_true, oneV, intOp, goI, splice, sBuild, fillE, nilB, isNil, Nat.reduceEqDiff, Nat.reduceAdd, Nat.reduceLT, Nat.reduceLeDiff, Int.reduceNeg, Int.reduceToNat, reduceCtorEq, decide_true, decide_false, h5, h21, h22, h23]
          refine up_next hk (by omega) ⟨⟨u, h5, ?_⟩, h21, h22, rfl⟩
          rw [htk]
          simpa [nonsOf, hd] using hu
      · rw [List.take_of_length_le (by omega)] at hu
        simp (disch := omega) only [↓wr, ↓reduceIte, wq, eq_self, ne_eq, implies_true, oneV, intOp, goI, splice, sBuild, fillE, nilB, isNil, Nat.reduceEqDiff, Nat.reduceAdd, Nat.reduceLT, Nat.reduceLeDiff, Int.reduceNeg, Int.reduceToNat, reduceCtorEq, decide_true, decide_false, h5, h21, h22, h23]
        intro h' hh
        exact frn_ints (by rw [hh]; exact hu)
    · rename_i ha
      intro h' hh
      rw [if_neg (by simp [ha])]
      exact .emp _

end Gv

/-
  What follows from what, as long as something new does: the program's own functions.
  Conditions: lists that are no longer than an int says, numbers that are ints; a grammar that may be.
-/
set_option linter.unusedSimpArgs false
set_option maxRecDepth 100000
namespace Gv
open Go Go.Proofs

/-! the program's way: what comes of each rule, as long as something new does -/
def markL (is : List Bool) (l : List Int) : List Bool := l.foldl (fun is n => is.set n.toNat true) is
def stepG (comes : Rule → List Bool → List Int) (is : List Bool) (r : Rule) : List Bool := markL is (comes r is)
def roundG (comes : Rule → List Bool → List Int) (rules : List Rule) (is : List Bool) : List Bool := rules.foldl (stepG comes) is

/-- Nothing is taken away. -/
def LeB (a b : List Bool) : Prop := a.length = b.length ∧ ∀ i, a.getD i false = true → b.getD i false = true
theorem LeB.refl (a : List Bool) : LeB a a := ⟨rfl, fun _ h => h⟩
theorem LeB.trans {a b c : List Bool} (h : LeB a b) (k : LeB b c) : LeB a c := ⟨h.1.trans k.1, fun i hi => k.2 i (h.2 i hi)⟩
theorem LeB.set (a : List Bool) (i : Nat) : LeB a (a.set i true) := by
  refine ⟨by simp, fun j h => ?_⟩
  simp only [List.getD_eq_getElem?_getD, List.getElem?_set] at h ⊢
  split
  · split
    · rfl
    · rename_i e h2; rw [← e, List.getElem?_eq_none (by omega)] at h; simp at h
  · exact h
theorem markL_le : ∀ (l : List Int) (is : List Bool), LeB is (markL is l)
  | [], is => .refl _
  | n :: l, is => (LeB.set is n.toNat).trans (markL_le l _)
theorem roundG_le (comes : Rule → List Bool → List Int) : ∀ (rules : List Rule) (is : List Bool), LeB is (roundG comes rules is)
  | [], is => .refl _
  | r :: rs, is => (markL_le _ _).trans (roundG_le comes rs _)

/-- How many are true. -/
def trues (a : List Bool) : Nat := a.countP fun x => x
theorem trues_le (a : List Bool) : trues a ≤ a.length := List.countP_le_length
theorem getD_cons {x : Bool} {a : List Bool} : (∀ i, (x :: a).getD i false = true → True) := fun _ _ => trivial
theorem LeB.trues : ∀ {a b : List Bool}, LeB a b → trues a ≤ trues b ∧ (trues a = trues b → a = b)
  | [], [], _ => ⟨Nat.le_refl _, fun _ => rfl⟩
  | [], _ :: _, h => by simp [LeB] at h
  | _ :: _, [], h => by simp [LeB] at h
  | x :: a, y :: b, h => by
    have hxy : x = true → y = true := fun e => by have := h.2 0 (by simpa using e); simpa using this
    obtain ⟨h1, h2⟩ := LeB.trues (a := a) (b := b) ⟨by simpa using h.1, fun i hi => by have := h.2 (i + 1) (by simpa using hi); simpa using this⟩
    unfold Gv.trues at h1 h2 ⊢
    simp only [List.countP_cons]
    cases x with
    | true =>
      have := hxy rfl; subst this
      simp only [if_true]
      exact ⟨by omega, fun e => by rw [h2 (by omega)]⟩
    | false =>
      cases y with
      | false => simp only [Bool.false_eq_true, if_false]; exact ⟨by omega, fun e => by rw [h2 (by omega)]⟩
      | true => simp only [Bool.false_eq_true, if_false, if_true]; exact ⟨by omega, fun e => by omega⟩

/-- Round by round, till nothing is new. -/
def growG (comes : Rule → List Bool → List Int) (rules : List Rule) : Nat → List Bool → List Bool
  | 0, is => is
  | k + 1, is => if roundG comes rules is = is then is else growG comes rules k (roundG comes rules is)

/-- Behind so many rounds nothing is new. -/
theorem growG_fix (comes : Rule → List Bool → List Int) (rules : List Rule) : ∀ (k : Nat) (is : List Bool), is.length ≤ trues is + k → roundG comes rules (growG comes rules k is) = growG comes rules k is ∧ LeB is (growG comes rules k is)
  | 0, is, h => by
    have h1 := roundG_le comes rules is
    have h2 := trues_le (roundG comes rules is)
    have h3 := h1.trues
    rw [← h1.1] at h2
    have h4 := trues_le is
    exact ⟨(h3.2 (by omega)).symm, .refl _⟩
  | k + 1, is, h => by
    simp only [growG]
    by_cases e : roundG comes rules is = is
    · rw [if_pos e]; exact ⟨e, .refl _⟩
    · rw [if_neg e]
      have h1 := roundG_le comes rules is
      have h3 := h1.trues
      have : trues is < trues (roundG comes rules is) := by
        rcases Nat.lt_or_ge (trues is) (trues (roundG comes rules is)) with h | h
        · exact h
        · exact absurd (h3.2 (by omega)).symm e
      obtain ⟨g1, g2⟩ := growG_fix comes rules k (roundG comes rules is) (by rw [← h1.1]; omega)
      exact ⟨g1, h1.trans g2⟩

def B_trim_grow_0 : SC :=
  .seq (.region false [⟨none, [((some 26), .op (.arith .lss (.tmp 25) (.tmp 24)))]⟩]) <|
  .seq (.cond (.tmp 26) (.skip) (.exit 4)) <|
  .seq (.block 5 (.seq (.region false [⟨none, [((some 27), .op (.idx 1 (.tmp 23) (.tmp 25))), ((some 28), .op (.load none (.tmp 27))), ((some 11), .op (.mov (.tmp 28)))]⟩]) <|
  .seq (.region false [⟨none, [((some 29), .op (.mov (.tmp 7))), ((some 30), .op (.mov (.tmp 29)))]⟩, ⟨(some (30, false)), [((some 31), .op (.mov (.tmp 1))), ((some 32), .op (.mov (.tmp 11))), ((some 33), .op (.idx 1 (.tmp 31) (.tmp 32))), ((some 34), .op (.load none (.tmp 33))), ((some 35), .op (.not (.tmp 34)))]⟩, ⟨none, [((some 36), .op (.pick (.tmp 30) (.val (.val (.bool true))) (.tmp 35))), ((some 7), .op (.mov (.tmp 36)))]⟩]) <|
  .region false [⟨none, [((some 37), .op (.mov (.tmp 1))), ((some 38), .op (.mov (.tmp 11))), ((some 39), .op (.idx 1 (.tmp 37) (.tmp 38))), (none, .op (.store 1 (.tmp 39) (.val (.val (.bool true)))))]⟩])) <|
  .region false [⟨none, [((some 40), .op (.arith .add (.tmp 25) (.val (.val (.int .i64 1))))), ((some 25), .op (.mov (.tmp 40)))]⟩]
def B_trim_grow_1 : SC :=
  .seq (.region false [⟨none, [((some 17), .op (.arith .lss (.tmp 16) (.tmp 15)))]⟩]) <|
  .seq (.cond (.tmp 17) (.skip) (.exit 2)) <|
  .seq (.block 3 (.seq (.region false [⟨none, [((some 18), .op (.idx 3 (.tmp 14) (.tmp 16))), ((some 19), .op (.load (some 3) (.tmp 18))), ((some 9), .op (.alloc [(.val (.int .i64 0)), (.emp 1), (.val (.int .i64 0))])), (none, .op (.store 3 (.tmp 9) (.tmp 19)))]⟩]) <|
  .seq (.region false [⟨none, [((some 20), .op (.mov (.tmp 2))), ((some 21), .op (.load (some 3) (.tmp 9))), ((some 22), .op (.mov (.tmp 1))), ((some 23), .call (.tmp 20) [(.tmp 21), (.tmp 22)]), ((some 24), .op (.len (.tmp 23))), ((some 25), .op (.mov (.val (.val (.int .i64 0)))))]⟩]) <|
  .block 4 (.loop B_trim_grow_0))) <|
  .region false [⟨none, [((some 41), .op (.arith .add (.tmp 16) (.val (.val (.int .i64 1))))), ((some 16), .op (.mov (.tmp 41)))]⟩]
def B_trim_grow_2 : SC :=
  .seq (.seq (.region false [⟨none, [((some 12), .op (.mov (.tmp 7)))]⟩]) <|
  .cond (.tmp 12) (.skip) (.exit 0)) <|
  .block 1 (.seq (.region false [⟨none, [((some 7), .op (.mov (.val (.val (.bool false)))))]⟩]) <|
  .seq (.region false [⟨none, [((some 13), .op (.addr 2 (.tmp 3))), ((some 14), .op (.load none (.tmp 13))), ((some 15), .op (.len (.tmp 14))), ((some 16), .op (.mov (.val (.val (.int .i64 0)))))]⟩]) <|
  .block 2 (.loop B_trim_grow_1))
def S_trim_grow : SF := ⟨.seq (.region false [⟨none, [((some 3), .op (.frz (.tmp 0))), ((some 6), .op (.mov (.val (.emp 1))))]⟩]) <|
  .seq (.seq (.region false [⟨none, [((some 7), .op (.mov (.val (.val (.bool true)))))]⟩]) <|
  .block 0 (.loop B_trim_grow_2)) <|
  .seq (.region false [⟨none, [((some 42), .op (.mov (.tmp 1))), ((some 6), .op (.mov (.tmp 42)))]⟩]) <|
  .ret,
  [.tmp 6], 43⟩
theorem S_trim_grow_ok : compF Tryz.prog 42 [3] = some S_trim_grow := by kernel_rfl


theorem set_same {is : List Bool} {i : Nat} (h : is.getD i false = true) : is.set i true = is := by
  apply List.ext_getElem?
  intro j
  simp only [List.getD_eq_getElem?_getD] at h
  rw [List.getElem?_set]
  split
  · rename_i e; subst e
    split
    · rename_i hl; rw [List.getElem?_eq_getElem hl] at h ⊢; simp at h; simp [h]
    · rename_i hl; rw [List.getElem?_eq_none (by omega)] at h; simp at h
  · rfl
theorem set_diff {is : List Bool} {i : Nat} (hi : i < is.length) (h : is.getD i false = false) : is.set i true ≠ is := fun e => by
  have : (is.set i true).getD i false = true := by simp [List.getD_eq_getElem?_getD, hi]
  rw [e, h] at this; simp at this

theorem beq_bools {a b : List Bool} : (a == b) = true ↔ a = b := by simp

theorem growG_zero {comes : Rule → List Bool → List Int} {rules : List Rule} {k : Nat} {is : List Bool} (h : roundG comes rules is = is) : growG comes rules k is = is := by
  cases k with
  | zero => rfl
  | succ k => simp only [growG, h, if_true]
theorem growG_more {comes : Rule → List Bool → List Int} {rules : List Rule} {k : Nat} {is : List Bool} (h : ¬ roundG comes rules is = is) (hk : is.length ≤ trues is + k) : ∃ j, k = j + 1 ∧ growG comes rules k is = growG comes rules j (roundG comes rules is) ∧ (roundG comes rules is).length ≤ trues (roundG comes rules is) + j := by
  have h1 := roundG_le comes rules is
  have h3 := h1.trues
  have h5 := trues_le (roundG comes rules is)
  have : trues is < trues (roundG comes rules is) := by
    rcases Nat.lt_or_ge (trues is) (trues (roundG comes rules is)) with h | h
    · exact h
    · exact absurd (h3.2 (by omega)).symm (by assumption)
  have hl := h1.1
  obtain ⟨j, rfl⟩ : ∃ j, k = j + 1 := ⟨k - 1, by omega⟩
  exact ⟨j, rfl, by simp only [growG]; rw [if_neg h], by omega⟩

theorem new_mark {a is : List Bool} {i : Nat} {b : Bool} (hle : LeB a is) (hi : i < is.length) (hb : b = !decide (is = a)) : (b || !is.getD i false) = !decide (is.set i true = a) := by
  cases hx : is.getD i false with
  | true => rw [set_same hx, hb]; simp
  | false =>
    have : ¬ is.set i true = a := fun e => by
      have h1 : (is.set i true).getD i false = true := by simp [List.getD_eq_getElem?_getD, hi]
      rw [e] at h1
      have := hle.2 i h1
      rw [hx] at this; simp at this
    simp [this]

set_option maxHeartbeats 8000000 in
/-- What is called says what comes of a rule. -/
theorem mc_grow (g : Gram) (hr : g.rules.length ≤ 40) (comes : Rule → List Bool → List Int) (f : FuncId) (capt capt' : List V) (hok : calleeOk Tryz.prog f = true) (N : Nat) (hN : N ≤ 16)
    (hc : ∀ r ∈ g.rules, ∀ is : List Bool, is.length = N → PNew Tryz.prog f (.agg (encR r) :: encB is :: capt') (encI (comes r is)) ∧ (comes r is).length ≤ 100 ∧ ∀ n ∈ comes r is, In64 n ∧ 0 ≤ n ∧ n < N)
    (id : Nat) (is0 : List Bool) (his : is0.length = N) (H : View) (hH : H id = .arr 1 (encBs is0)) (hlent : ∀ H' : View, (∀ k, H k ≠ .dead → k ≠ id → H' k = H k) → Lents H' capt capt') :
    MCall Tryz.prog 42 [.agg (encG g), .sl id 0 N 1, .fn f [] capt] H fun r H' => r = .sl id 0 N 1 ∧ H' id = .arr 1 (encBs (growG comes g.rules 16 is0)) ∧ ∀ k, H k ≠ .dead → k ≠ id → H' k = H k := by
  refine MCall.of mixed S_trim_grow_ok ?_
  simp (disch := omega) only [↓wr, ↓reduceIte, wq, eq_self, ne_eq, implies_true, oneV, intOp, goI, splice, sBuild, fillE, nilB, isNil, Nat.reduceEqDiff, Nat.reduceAdd, Nat.reduceLT, Nat.reduceLeDiff, Int.reduceNeg, Int.reduceToNat, reduceCtorEq, decide_true, decide_false, S_trim_grow, encG, encS]
  refine LoopG.intro (fun k T H' => ∃ is : List Bool, is.length = N ∧ H' id = .arr 1 (encBs is) ∧ (∀ k, H k ≠ .dead → k ≠ id → H' k = H k) ∧ T 1 = .sl id 0 N 1 ∧ T 2 = .fn f [] capt ∧ T 3 = .fptr (encG g) 0 ∧
    ((T 7 = gb true ∧ ∃ j, k = j + 1 ∧ growG comes g.rules j is = growG comes g.rules 16 is0 ∧ N ≤ trues is + j) ∨ (T 7 = gb false ∧ is = growG comes g.rules 16 is0))) 17 ?_ ?_
  · exact ⟨is0, his, hH, fun _ _ _ => rfl, rfl, rfl, rfl, .inl ⟨rfl, 16, rfl, rfl, by omega⟩⟩
  rintro k T H1 ⟨is, hlen, hid, hfr, t1, t2, t3, h7⟩
  rcases h7 with ⟨h7, j, rfl, hgr, hj⟩ | ⟨h7, hgr⟩
  · simp (disch := omega) only [↓wr, ↓reduceIte, wq, eq_self, ne_eq, implies_true, oneV, intOp, goI, splice, sBuild, fillE, nilB, isNil, Nat.reduceEqDiff, Nat.reduceAdd, Nat.reduceLT, Nat.reduceLeDiff, Int.reduceNeg, Int.reduceToNat, reduceCtorEq, decide_true, decide_false, B_trim_grow_2, t1, t2, t3, h7, encG, encS]
    refine LoopG.up g.rules.length (fun i T H' => ∃ is2 : List Bool, is2.length = N ∧ LeB is is2 ∧ is2 = (g.rules.take i).foldl (stepG comes) is ∧ H' id = .arr 1 (encBs is2) ∧ (∀ k, H k ≠ .dead → k ≠ id → H' k = H k) ∧ T 1 = .sl id 0 N 1 ∧ T 2 = .fn f [] capt ∧ T 3 = .fptr (encG g) 0 ∧
      T 7 = gb (!decide (is2 = is)) ∧ T 14 = .fro (g.rules.map encR) ∧ T 15 = gi g.rules.length ∧ T 16 = gi i) ?_ ?_
    · exact ⟨is, hlen, .refl _, rfl, hid, hfr, t1, t2, t3, by simp; rfl, rfl, rfl, rfl⟩
    clear t1 t2 t3 h7 hid hfr
    rintro i k T H1 hk ⟨is2, hlen2, hle2, hst, hid, hfr, t1, t2, t3, h7, h14, h15, h16⟩
    simp (disch := omega) only [↓wr, ↓reduceIte, wq, eq_self, ne_eq, implies_true, oneV, intOp, goI, splice, sBuild, fillE, nilB, isNil, Nat.reduceEqDiff, Nat.reduceAdd, Nat.reduceLT, Nat.reduceLeDiff, Int.reduceNeg, Int.reduceToNat, reduceCtorEq, decide_true, decide_false, B_trim_grow_1, t1, t2, t3, h7, h14, h15, h16, encG, encS]
    refine GoB.dec (fun hcc => ?_) (fun hcc => ?_)
    · have hg2 : g.rules[i]? = some (g.rules[i]'(by omega)) := List.getElem?_eq_getElem (by omega)
      have hmem : g.rules[i]'(by omega) ∈ g.rules := List.getElem_mem _
      have htk : (g.rules.take (i + 1)).foldl (stepG comes) is = stepG comes ((g.rules.take i).foldl (stepG comes) is) (g.rules[i]'(by omega)) := by
        rw [List.take_add_one, hg2, List.foldl_append]; rfl
      generalize g.rules[i]'(by omega) = r at hg2 hmem htk
      obtain ⟨hcp, hcl, hcn⟩ := hc r hmem is2 hlen2
      simp (disch := omega) only [↓wr, ↓reduceIte, wq, eq_self, ne_eq, implies_true, oneV, intOp, goI, splice, sBuild, fillE, nilB, isNil, Nat.reduceEqDiff, Nat.reduceAdd, Nat.reduceLT, Nat.reduceLeDiff, Int.reduceNeg, Int.reduceToNat, reduceCtorEq, decide_true, decide_false, t1, t2, t3, h7, h14, h15, h16, encR, encI, List.getElem?_map, hg2]
      intro b hb
      have hbid : b ≠ id := by rintro rfl; rw [hid] at hb; simp at hb
      try simp (disch := omega) only [↓wr, ↓reduceIte, wq, eq_self, ne_eq, implies_true, oneV, intOp, goI, splice, sBuild, fillE, nilB, isNil, Nat.reduceEqDiff, Nat.reduceAdd, Nat.reduceLT, Nat.reduceLeDiff, Int.reduceNeg, Int.reduceToNat, reduceCtorEq, decide_true, decide_false, t1, t2, t3, h7, h14, h15, h16]
      refine CallG.lendN hcp hok ⟨Lent.tree (tree_agg _ (encR_tree r)), lent_bools (by simp [View.set, hbid.symm, hid]) hlen2.symm, hlent _ (fun k hk hki => ?_)⟩ ?_
      · have hkb : k ≠ b := by
          rintro rfl
          rw [hfr k hk hki] at hb
          exact hk hb
        simp [View.set, hkb, hfr k hk hki]
      generalize hl : comes r is2 = l at hcl hcn
      simp (disch := omega) only [↓wr, ↓reduceIte, wq, eq_self, ne_eq, implies_true, oneV, intOp, goI, splice, sBuild, fillE, nilB, isNil, Nat.reduceEqDiff, Nat.reduceAdd, Nat.reduceLT, Nat.reduceLeDiff, Int.reduceNeg, Int.reduceToNat, reduceCtorEq, decide_true, decide_false, t1, t2, t3, h7, h14, h15, h16, encI]
      refine LoopG.up l.length (fun q T H' => ∃ is3 : List Bool, is3.length = N ∧ LeB is is3 ∧ is3 = markL is2 (l.take q) ∧ H' id = .arr 1 (encBs is3) ∧ (∀ k, H k ≠ .dead → k ≠ id → H' k = H k) ∧ T 1 = .sl id 0 N 1 ∧ T 2 = .fn f [] capt ∧ T 3 = .fptr (encG g) 0 ∧
        T 7 = gb (!decide (is3 = is)) ∧ T 14 = .fro (g.rules.map encR) ∧ T 15 = gi g.rules.length ∧ T 16 = gi i ∧ T 23 = encI l ∧ T 24 = gi l.length ∧ T 25 = gi q) ?_ ?_
      · refine ⟨is2, hlen2, hle2, rfl, by simp [View.set, hbid.symm, hid], fun k hk hki => ?_, t1, t2, t3, h7, h14, h15, h16, rfl, rfl, rfl⟩
        have hkb : k ≠ b := by
          rintro rfl
          rw [hfr k hk hki] at hb
          exact hk hb
        simp [View.set, hkb, hfr k hk hki]
      clear t1 t2 t3 h7 h14 h15 h16 hid hfr hb hbid
      rintro q k2 T H1 hk2 ⟨is3, hlen3, hle3, hst3, hid, hfr, t1, t2, t3, h7, h14, h15, h16, h23, h24, h25⟩
      simp (disch := omega) only [↓wr, ↓reduceIte, wq, eq_self, ne_eq, implies_true, oneV, intOp, goI, splice, sBuild, fillE, nilB, isNil, Nat.reduceEqDiff, Nat.reduceAdd, Nat.reduceLT, Nat.reduceLeDiff, Int.reduceNeg, Int.reduceToNat, reduceCtorEq, decide_true, decide_false, B_trim_grow_0, t1, t2, t3, h7, h14, h15, h16, h23, h24, h25, encI]
      refine GoB.dec (fun hqc => ?_) (fun hqc => ?_)
      · have hgq : l[q]? = some (l[q]'(by omega)) := List.getElem?_eq_getElem (by omega)
        have hmq : l[q]'(by omega) ∈ l := List.getElem_mem _
        have htq : markL is2 (l.take (q + 1)) = (markL is2 (l.take q)).set (l[q]'(by omega)).toNat true := by
          unfold markL; rw [List.take_add_one, hgq, List.foldl_append]; rfl
        generalize l[q]'(by omega) = n at hgq hmq htq
        obtain ⟨⟨n1, n2⟩, n3, n4⟩ := hcn n hmq
        have hbn : is3.getD n.toNat false = is3[n.toNat]'(by omega) := by simp [List.getD_eq_getElem?_getD, show n.toNat < is3.length by omega]
        have hnew := new_mark hle3 (show n.toNat < is3.length by omega) (b := !decide (is3 = is)) rfl
        rw [hbn] at hnew
        have hbg := bools_get (show n.toNat < is3.length by omega)
        generalize is3[n.toNat]'(by omega) = x at hnew hbg hbn
        have fin : ∀ (T2 : Env), T2 7 = gb (!decide (is3.set n.toNat true = is)) → T2 1 = .sl id 0 N 1 → T2 2 = .fn f [] capt → T2 3 = .fptr (encG g) 0 → T2 14 = .fro (g.rules.map encR) → T2 15 = gi g.rules.length → T2 16 = gi i → T2 23 = encI l → T2 24 = gi l.length → T2 25 = gi ((q : Int) + 1) →
            ∃ k', k' < k2 ∧ UpN l.length k' (fun q T H' => ∃ is3 : List Bool, is3.length = N ∧ LeB is is3 ∧ is3 = markL is2 (l.take q) ∧ H' id = .arr 1 (encBs is3) ∧ (∀ k, H k ≠ .dead → k ≠ id → H' k = H k) ∧ T 1 = .sl id 0 N 1 ∧ T 2 = .fn f [] capt ∧ T 3 = .fptr (encG g) 0 ∧
              T 7 = gb (!decide (is3 = is)) ∧ T 14 = .fro (g.rules.map encR) ∧ T 15 = gi g.rules.length ∧ T 16 = gi i ∧ T 23 = encI l ∧ T 24 = gi l.length ∧ T 25 = gi q) T2 (H1.set id (.arr 1 (encBs (is3.set n.toNat true)))) := by
          intro T2 a7 a1 a2 a3 a14 a15 a16 a23 a24 a25
          refine up_next hk2 (by omega) ⟨is3.set n.toNat true, by simp [hlen3], hle3.trans (.set _ _), by rw [htq, ← hst3], by simp [View.set], fun k hk hki => by simp [View.set, hki, hfr k hk hki], a1, a2, a3, a7, a14, a15, a16, a23, a24, by rw [a25]; rfl⟩
        simp (disch := omega) only [↓wr, ↓reduceIte, wq, eq_self, ne_eq, implies_true, oneV, intOp, goI, splice, sBuild, fillE, nilB, isNil, Nat.reduceEqDiff, Nat.reduceAdd, Nat.reduceLT, Nat.reduceLeDiff, Int.reduceNeg, Int.reduceToNat, reduceCtorEq, decide_true, decide_false, t1, t2, t3, h7, h14, h15, h16, h23, h24, h25, encI, List.getElem?_map, hgq]
        refine GoB.dec (fun e => ?_) (fun e => ?_)
        · simp (disch := omega) only [↓wr, ↓reduceIte, wq, eq_self, ne_eq, implies_true, oneV, intOp, goI, splice, sBuild, fillE, nilB, isNil, Nat.reduceEqDiff, Nat.reduceAdd, Nat.reduceLT, Nat.reduceLeDiff, Int.reduceNeg, Int.reduceToNat, reduceCtorEq, decide_true, decide_false, t1, t2, t3, h7, h14, h15, h16, h23, h24, h25, encI, hid, hbg, List.length_map]
          refine ⟨by omega, by omega, ?_⟩
          try simp (disch := omega) only [↓wr, ↓reduceIte, wq, eq_self, ne_eq, implies_true, oneV, intOp, goI, splice, sBuild, fillE, nilB, isNil, Nat.reduceEqDiff, Nat.reduceAdd, Nat.reduceLT, Nat.reduceLeDiff, Int.reduceNeg, Int.reduceToNat, reduceCtorEq, decide_true, decide_false, t1, t2, t3, h7, h14, h15, h16, h23, h24, h25, encI, hid, hbg, List.length_map]
          refine ⟨by omega, by omega, ?_⟩
          rw [bools_set]
          exact fin _ (by rw [← hnew]; simp [e]; rfl) t1 t2 t3 h14 h15 h16 h23 h24 rfl
        · simp (disch := omega) only [↓wr, ↓reduceIte, wq, eq_self, ne_eq, implies_true, oneV, intOp, goI, splice, sBuild, fillE, nilB, isNil, Nat.reduceEqDiff, Nat.reduceAdd, Nat.reduceLT, Nat.reduceLeDiff, Int.reduceNeg, Int.reduceToNat, reduceCtorEq, decide_true, decide_false, t1, t2, t3, h7, h14, h15, h16, h23, h24, h25, encI, hid, hbg, List.length_map]
          refine ⟨by omega, by omega, ?_⟩
          rw [bools_set]
          exact fin _ (by rw [← hnew]; simp [e]; rfl) t1 t2 t3 h14 h15 h16 h23 h24 rfl
      · rw [List.take_of_length_le (by omega)] at hst3
        simp (disch := omega) only [↓wr, ↓reduceIte, wq, eq_self, ne_eq, implies_true, oneV, intOp, goI, splice, sBuild, fillE, nilB, isNil, Nat.reduceEqDiff, Nat.reduceAdd, Nat.reduceLT, Nat.reduceLeDiff, Int.reduceNeg, Int.reduceToNat, reduceCtorEq, decide_true, decide_false, t1, t2, t3, h7, h14, h15, h16, h23, h24, h25]
        refine up_next hk (by omega) ⟨is3, hlen3, hle3, ?_, hid, hfr, t1, t2, t3, h7, h14, h15, rfl⟩
        rw [htk, ← hst, stepG, hl, ← hst3]
    · rw [List.take_of_length_le (by omega)] at hst
      simp (disch := omega) only [↓wr, ↓reduceIte, wq, eq_self, ne_eq, implies_true, oneV, intOp, goI, splice, sBuild, fillE, nilB, isNil, Nat.reduceEqDiff, Nat.reduceAdd, Nat.reduceLT, Nat.reduceLeDiff, Int.reduceNeg, Int.reduceToNat, reduceCtorEq, decide_true, decide_false, t1, t2, t3, h7, h14, h15, h16]
      have hrd : is2 = roundG comes g.rules is := hst
      by_cases e : is2 = is
      · refine ⟨0, by omega, is2, hlen2, hid, hfr, rfl, .inr ⟨by simp [e], ?_⟩⟩
        rw [← hgr, e]
        exact (growG_zero (by rw [← hrd]; exact e)).symm
      · obtain ⟨j2, rfl, e2, e3⟩ := growG_more (k := j) (fun h => e (hrd.trans h)) (by rw [hlen]; exact hj)
        refine ⟨j2 + 1, by omega, is2, hlen2, hid, hfr, rfl, .inl ⟨by simp [e], j2, rfl, ?_, ?_⟩⟩
        · rw [← hgr, e2, hrd]
        · rw [← hrd, hlen2] at e3; exact e3
  · simp (disch := omega) only [↓wr, ↓reduceIte, wq, eq_self, ne_eq, implies_true, oneV, intOp, goI, splice, sBuild, fillE, nilB, isNil, Nat.reduceEqDiff, Nat.reduceAdd, Nat.reduceLT, Nat.reduceLeDiff, Int.reduceNeg, Int.reduceToNat, reduceCtorEq, decide_true, decide_false, B_trim_grow_2, t1, t2, t3, h7, encG, encS]
    exact ⟨hgr ▸ hid, hfr⟩

end Gv

/-
  Which nonterminals are nullable, productive, reachable: the program's own functions answer as the document's.
  Conditions: lists that are no longer than an int says, numbers that are ints, no more than a thousand names.
-/
set_option linter.unusedSimpArgs false
set_option maxRecDepth 100000
namespace Gv
open Go Go.Proofs

theorem iter_fix {α : Type} {f : α → α} {x : α} (h : f x = x) : ∀ n, iter f n x = x
  | 0 => rfl
  | n + 1 => by rw [iter, h, iter_fix h n]
theorem iter_add {α : Type} (f : α → α) : ∀ (a b : Nat) (x : α), iter f (a + b) x = iter f b (iter f a x)
  | 0, b, x => by rw [Nat.zero_add]; rfl
  | a + 1, b, x => by rw [Nat.add_right_comm, iter, iter, iter_add f a b]

theorem growG_iter (comes : Rule → List Bool → List Int) (rules : List Rule) : ∀ (k : Nat) (is : List Bool), growG comes rules k is = iter (roundG comes rules) k is
  | 0, is => rfl
  | k + 1, is => by
    simp only [growG, iter]
    by_cases e : roundG comes rules is = is
    · rw [if_pos e, e, iter_fix e]
    · rw [if_neg e, growG_iter comes rules k]

/-- As many rounds as there are places come as far as sixteen. -/
theorem growG_rounds (comes : Rule → List Bool → List Int) (rules : List Rule) (is : List Bool) (h : is.length ≤ 16) : growG comes rules 16 is = iter (roundG comes rules) is.length is := by
  have h1 := (growG_fix comes rules is.length is (by omega)).1
  rw [growG_iter] at h1 ⊢
  obtain ⟨m, hm⟩ : ∃ m, 16 = is.length + m := ⟨16 - is.length, by omega⟩
  rw [hm, iter_add, iter_fix h1]

def comesA (t : Bool) (r : Rule) (is : List Bool) : List Int := if allG r.right is t = true then [r.left] else []
def comesR (p : List Bool) (r : Rule) (is : List Bool) : List Int := if (is.getD r.left.toNat false && allG r.right p true) = true then nonsOf r.right else []

theorem round_A (g : Gram) (t : Bool) : roundG (comesA t) g.rules = round11 g t := by
  funext is
  unfold roundG round11
  congr 1
  funext is r
  unfold stepG comesA step11
  split <;> rfl

theorem marks_nons : ∀ (l : List Int) (is : List Bool), markL is (nonsOf l) = l.foldl mark is
  | [], is => rfl
  | s :: l, is => by
    have ih := marks_nons l
    unfold markL nonsOf at ih ⊢
    rw [List.foldl_cons, ← ih]
    unfold mark
    by_cases h : s < 0
    · rw [if_pos h, List.filter_cons_of_pos (by simpa using h)]; rfl
    · rw [if_neg h, List.filter_cons_of_neg (by simpa using h)]

theorem round_R (g : Gram) (p : List Bool) : roundG (comesR p) g.rules = roundR g p := by
  funext is
  unfold roundG roundR
  congr 1
  funext is r
  unfold stepG comesR stepR
  split
  · exact marks_nons _ _
  · rfl

theorem grow_A {g : Gram} (h : right09 g = true) (t : Bool) : growG (comesA t) g.rules 16 (none11 g) = grown09 g t := by
  have hf := right09_fine h
  have hl : (none11 g).length = g.nons.length := by simp [none11]
  have := hf.nons
  rw [growG_rounds _ _ _ (by rw [hl]; exact hf.nons), round_A, hl, grown09, if_pos h]

theorem grow_R {g : Gram} (h : right09 g = true) : growG (comesR (grown09 g true)) g.rules 16 ((none11 g).set g.start.toNat true) = reach09 g := by
  have hf := right09_fine h
  have hl : ((none11 g).set g.start.toNat true).length = g.nons.length := by simp [none11]
  rw [growG_rounds _ _ _ (by rw [hl]; exact hf.nons), round_R, hl, reach09, if_pos h]

def S_trim_Nullable : SF := ⟨.seq (.region false [⟨none, [((some 1), .op (.frz (.tmp 0))), ((some 2), .op (.mov (.val (.emp 1))))]⟩]) <|
  .seq (.seq (.region false [⟨none, [((some 3), .op (.load (some 4) (.tmp 1))), ((some 4), .call (.val (.fn 41 [] [])) [(.tmp 3)]), ((some 5), .op (.not (.tmp 4)))]⟩]) <|
  .cond (.tmp 5) (.seq (.region false [⟨none, [((some 2), .op (.mov (.val (.emp 1))))]⟩]) <|
  .ret) (.skip)) <|
  .seq (.region false [⟨none, [((some 6), .op (.load (some 4) (.tmp 1))), ((some 7), .op (.addr 1 (.tmp 1))), ((some 8), .op (.load none (.tmp 7))), ((some 9), .op (.len (.tmp 8))), ((some 10), .op (.make 1 1 [(.val (.bool false))] (.tmp 9) (.tmp 9))), ((some 11), .call (.val (.fn 42 [] [])) [(.tmp 6), (.tmp 10), (.val (.fn 43 [] []))]), ((some 2), .op (.mov (.tmp 11)))]⟩]) <|
  .ret,
  [.tmp 2], 12⟩
theorem S_trim_Nullable_ok : compF Tryz.prog 15 [1] = some S_trim_Nullable := by kernel_rfl

def S_trim_Productive : SF := ⟨.seq (.region false [⟨none, [((some 1), .op (.frz (.tmp 0))), ((some 2), .op (.mov (.val (.emp 1))))]⟩]) <|
  .seq (.seq (.region false [⟨none, [((some 3), .op (.load (some 4) (.tmp 1))), ((some 4), .call (.val (.fn 41 [] [])) [(.tmp 3)]), ((some 5), .op (.not (.tmp 4)))]⟩]) <|
  .cond (.tmp 5) (.seq (.region false [⟨none, [((some 2), .op (.mov (.val (.emp 1))))]⟩]) <|
  .ret) (.skip)) <|
  .seq (.region false [⟨none, [((some 6), .op (.load (some 4) (.tmp 1))), ((some 7), .op (.addr 1 (.tmp 1))), ((some 8), .op (.load none (.tmp 7))), ((some 9), .op (.len (.tmp 8))), ((some 10), .op (.make 1 1 [(.val (.bool false))] (.tmp 9) (.tmp 9))), ((some 11), .call (.val (.fn 42 [] [])) [(.tmp 6), (.tmp 10), (.val (.fn 47 [] []))]), ((some 2), .op (.mov (.tmp 11)))]⟩]) <|
  .ret,
  [.tmp 2], 12⟩
theorem S_trim_Productive_ok : compF Tryz.prog 17 [1] = some S_trim_Productive := by kernel_rfl

def S_trim_Reachable : SF := ⟨.seq (.region false [⟨none, [((some 1), .op (.frz (.tmp 0))), ((some 2), .op (.mov (.val (.emp 1))))]⟩]) <|
  .seq (.seq (.region false [⟨none, [((some 5), .op (.load (some 4) (.tmp 1))), ((some 6), .call (.val (.fn 41 [] [])) [(.tmp 5)]), ((some 7), .op (.not (.tmp 6)))]⟩]) <|
  .cond (.tmp 7) (.seq (.region false [⟨none, [((some 2), .op (.mov (.val (.emp 1))))]⟩]) <|
  .ret) (.skip)) <|
  .seq (.region false [⟨none, [((some 8), .op (.load (some 4) (.tmp 1))), ((some 9), .call (.val (.fn 17 [] [])) [(.tmp 8)]), ((some 3), .op (.alloc [(.emp 1)])), (none, .op (.store 1 (.tmp 3) (.tmp 9)))]⟩]) <|
  .seq (.region false [⟨none, [((some 10), .op (.addr 1 (.tmp 1))), ((some 11), .op (.load none (.tmp 10))), ((some 12), .op (.len (.tmp 11))), ((some 13), .op (.make 1 1 [(.val (.bool false))] (.tmp 12) (.tmp 12))), ((some 4), .op (.mov (.tmp 13)))]⟩]) <|
  .seq (.region false [⟨none, [((some 14), .op (.mov (.tmp 4))), ((some 15), .op (.addr 3 (.tmp 1))), ((some 16), .op (.load none (.tmp 15))), ((some 17), .op (.idx 1 (.tmp 14) (.tmp 16))), (none, .op (.store 1 (.tmp 17) (.val (.val (.bool true)))))]⟩]) <|
  .seq (.region false [⟨none, [((some 18), .op (.load (some 4) (.tmp 1))), ((some 19), .op (.mov (.tmp 4))), ((some 20), .op (.mkfn 48 [] [(.tmp 3)])), ((some 21), .call (.val (.fn 42 [] [])) [(.tmp 18), (.tmp 19), (.tmp 20)]), ((some 2), .op (.mov (.tmp 21)))]⟩]) <|
  .ret,
  [.tmp 2], 22⟩
theorem S_trim_Reachable_ok : compF Tryz.prog 19 [1] = some S_trim_Reachable := by kernel_rfl


structure Gram.Small (g : Gram) : Prop where
  names : g.nons.length + g.terms.length ≤ 1000

theorem frn_grown {h' : Heap} {id n : Nat} {is : List Bool} (hv : h'.view id = .arr 1 (encBs is)) (hn : n = is.length) : FrN h' (.sl id 0 n 1) (encB is) := by
  subst hn; exact frn_bools hv

set_option maxHeartbeats 2000000 in
theorem pn_tNullable (g : Gram) (hg : g.Ok) (hs : g.Small) : PNew Tryz.prog 15 [.agg (encG g)] (encB (grown09 g false)) := by
  refine PNew.of (gg_tree g) ?_
  refine MCall.of mixed S_trim_Nullable_ok ?_
  have hn := hg.nons
  unfold Short at hn
  simp (disch := omega) only [↓wr, ↓reduceIte, wq, eq_self, ne_eq, implies_true, oneV, intOp, goI, splice, sBuild, fillE, nilB, isNil, Nat.reduceEqDiff, Nat.reduceAdd, Nat.reduceLT, Nat.reduceLeDiff, Int.reduceNeg, Int.reduceToNat, reduceCtorEq, decide_true, decide_false, S_trim_Nullable, encG, encS]
  refine CallG.pure (pc_cRight g hg hs.names) (by kernel_rfl) ?_
  repeat' (first | (refine GoB.dec (fun _ => ?_) (fun _ => ?_)) | (refine GoB.eq (fun _ => ?_) (fun _ => ?_)) | (refine GoB.ne (fun _ => ?_) (fun _ => ?_)) | (refine GoB.split (fun _ => ?_) (fun _ => ?_)) | (simp (disch := omega) only [↓wr, ↓reduceIte, wq, eq_self, ne_eq, implies_true, oneV, intOp, goI, splice, sBuild, fillE, nilB, isNil, Nat.reduceEqDiff, Nat.reduceAdd, Nat.reduceLT, Nat.reduceLeDiff, Int.reduceNeg, Int.reduceToNat, reduceCtorEq, decide_true, decide_false, encG, encS]))
  · rename_i hr
    have hf := right09_fine hr
    have h1 := hf.nons1
    have h2 := hf.nons
    try simp (disch := omega) only [↓wr, ↓reduceIte, wq, eq_self, ne_eq, implies_true, oneV, intOp, goI, splice, sBuild, fillE, nilB, isNil, Nat.reduceEqDiff, Nat.reduceAdd, Nat.reduceLT, Nat.reduceLeDiff, Int.reduceNeg, Int.reduceToNat, reduceCtorEq, decide_true, decide_false, encG, encS]
    refine ⟨⟨by omega, by unfold limit; omega, by unfold limit; omega⟩, fun h => by omega, ?_⟩
    intro _ n
    try simp (disch := omega) only [↓wr, ↓reduceIte, wq, eq_self, ne_eq, implies_true, oneV, intOp, goI, splice, sBuild, fillE, nilB, isNil, Nat.reduceEqDiff, Nat.reduceAdd, Nat.reduceLT, Nat.reduceLeDiff, Int.reduceNeg, Int.reduceToNat, reduceCtorEq, decide_true, decide_false, encG, encS]
    refine CallG.loud ((mc_grow g hf.rules (comesA false) 43 [] [] (by kernel_rfl) g.nons.length h2 (fun r hr' is his => ⟨pn_Nullable1 r is (by rw [his]; exact hf.ruleIn hg hr'), ?_, ?_⟩) n (none11 g) (by simp [none11]) _ (by simp [View.set, none11]) (fun H' _ => trivial)).mono ?_)
    · unfold comesA; split <;> simp
    · intro m hm
      unfold comesA at hm
      split at hm
      · simp only [List.mem_singleton] at hm; subst hm
        exact ⟨(hg.rule r hr').1, hf.left r hr'⟩
      · simp at hm
    · rintro r H' ⟨rfl, hid, _⟩
      simp (disch := omega) only [↓wr, ↓reduceIte, wq, eq_self, ne_eq, implies_true, oneV, intOp, goI, splice, sBuild, fillE, nilB, isNil, Nat.reduceEqDiff, Nat.reduceAdd, Nat.reduceLT, Nat.reduceLeDiff, Int.reduceNeg, Int.reduceToNat, reduceCtorEq, decide_true, decide_false]
      intro h' hh
      rw [grow_A hr] at hid
      exact frn_grown (by rw [hh]; exact hid) (grown09_len hr _).symm
  · rename_i hr
    intro h' hh
    simp only [grown09, hr]
    exact .emp _

set_option maxHeartbeats 2000000 in
theorem pn_tProductive (g : Gram) (hg : g.Ok) (hs : g.Small) : PNew Tryz.prog 17 [.agg (encG g)] (encB (grown09 g true)) := by
  refine PNew.of (gg_tree g) ?_
  refine MCall.of mixed S_trim_Productive_ok ?_
  have hn := hg.nons
  unfold Short at hn
  simp (disch := omega) only [↓wr, ↓reduceIte, wq, eq_self, ne_eq, implies_true, oneV, intOp, goI, splice, sBuild, fillE, nilB, isNil, Nat.reduceEqDiff, Nat.reduceAdd, Nat.reduceLT, Nat.reduceLeDiff, Int.reduceNeg, Int.reduceToNat, reduceCtorEq, decide_true, decide_false, S_trim_Productive, encG, encS]
  refine CallG.pure (pc_cRight g hg hs.names) (by kernel_rfl) ?_
  repeat' (first | (refine GoB.dec (fun _ => ?_) (fun _ => ?_)) | (refine GoB.eq (fun _ => ?_) (fun _ => ?_)) | (refine GoB.ne (fun _ => ?_) (fun _ => ?_)) | (refine GoB.split (fun _ => ?_) (fun _ => ?_)) | (simp (disch := omega) only [↓wr, ↓reduceIte, wq, eq_self, ne_eq, implies_true, oneV, intOp, goI, splice, sBuild, fillE, nilB, isNil, Nat.reduceEqDiff, Nat.reduceAdd, Nat.reduceLT, Nat.reduceLeDiff, Int.reduceNeg, Int.reduceToNat, reduceCtorEq, decide_true, decide_false, encG, encS]))
  · rename_i hr
    have hf := right09_fine hr
    have h1 := hf.nons1
    have h2 := hf.nons
    try simp (disch := omega) only [↓wr, ↓reduceIte, wq, eq_self, ne_eq, implies_true, oneV, intOp, goI, splice, sBuild, fillE, nilB, isNil, Nat.reduceEqDiff, Nat.reduceAdd, Nat.reduceLT, Nat.reduceLeDiff, Int.reduceNeg, Int.reduceToNat, reduceCtorEq, decide_true, decide_false, encG, encS]
    refine ⟨⟨by omega, by unfold limit; omega, by unfold limit; omega⟩, fun h => by omega, ?_⟩
    intro _ n
    try simp (disch := omega) only [↓wr, ↓reduceIte, wq, eq_self, ne_eq, implies_true, oneV, intOp, goI, splice, sBuild, fillE, nilB, isNil, Nat.reduceEqDiff, Nat.reduceAdd, Nat.reduceLT, Nat.reduceLeDiff, Int.reduceNeg, Int.reduceToNat, reduceCtorEq, decide_true, decide_false, encG, encS]
    refine CallG.loud ((mc_grow g hf.rules (comesA true) 47 [] [] (by kernel_rfl) g.nons.length h2 (fun r hr' is his => ⟨pn_Productive1 r is (by rw [his]; exact hf.ruleIn hg hr'), ?_, ?_⟩) n (none11 g) (by simp [none11]) _ (by simp [View.set, none11]) (fun H' _ => trivial)).mono ?_)
    · unfold comesA; split <;> simp
    · intro m hm
      unfold comesA at hm
      split at hm
      · simp only [List.mem_singleton] at hm; subst hm
        exact ⟨(hg.rule r hr').1, hf.left r hr'⟩
      · simp at hm
    · rintro r H' ⟨rfl, hid, _⟩
      simp (disch := omega) only [↓wr, ↓reduceIte, wq, eq_self, ne_eq, implies_true, oneV, intOp, goI, splice, sBuild, fillE, nilB, isNil, Nat.reduceEqDiff, Nat.reduceAdd, Nat.reduceLT, Nat.reduceLeDiff, Int.reduceNeg, Int.reduceToNat, reduceCtorEq, decide_true, decide_false]
      intro h' hh
      rw [grow_A hr] at hid
      exact frn_grown (by rw [hh]; exact hid) (grown09_len hr _).symm
  · rename_i hr
    intro h' hh
    simp only [grown09, hr]
    exact .emp _

theorem reach09_len {g : Gram} (hr : right09 g = true) : (reach09 g).length = g.nons.length := by
  rw [reach09, if_pos hr, iter_len (f := roundR g (grown09 g true)) (fun is => fold_len (fun is x => stepR_len _ is x) g.rules is)]
  simp [none11]

set_option maxHeartbeats 2000000 in
theorem pn_tReachable (g : Gram) (hg : g.Ok) (hs : g.Small) : PNew Tryz.prog 19 [.agg (encG g)] (encB (reach09 g)) := by
  refine PNew.of (gg_tree g) ?_
  refine MCall.of mixed S_trim_Reachable_ok ?_
  have hn := hg.nons
  unfold Short at hn
  simp (disch := omega) only [↓wr, ↓reduceIte, wq, eq_self, ne_eq, implies_true, oneV, intOp, goI, splice, sBuild, fillE, nilB, isNil, Nat.reduceEqDiff, Nat.reduceAdd, Nat.reduceLT, Nat.reduceLeDiff, Int.reduceNeg, Int.reduceToNat, reduceCtorEq, decide_true, decide_false, S_trim_Reachable, encG, encS]
  refine CallG.pure (pc_cRight g hg hs.names) (by kernel_rfl) ?_
  repeat' (first | (refine GoB.dec (fun _ => ?_) (fun _ => ?_)) | (refine GoB.eq (fun _ => ?_) (fun _ => ?_)) | (refine GoB.ne (fun _ => ?_) (fun _ => ?_)) | (refine GoB.split (fun _ => ?_) (fun _ => ?_)) | (simp (disch := omega) only [↓wr, ↓reduceIte, wq, eq_self, ne_eq, implies_true, oneV, intOp, goI, splice, sBuild, fillE, nilB, isNil, Nat.reduceEqDiff, Nat.reduceAdd, Nat.reduceLT, Nat.reduceLeDiff, Int.reduceNeg, Int.reduceToNat, reduceCtorEq, decide_true, decide_false, encG, encS]))
  · rename_i hr
    have hf := right09_fine hr
    have h1 := hf.nons1
    have h2 := hf.nons
    have h3 := hf.start0
    have h4 := hf.start
    have hpl := grown09_len hr true
    try simp (disch := omega) only [↓wr, ↓reduceIte, wq, eq_self, ne_eq, implies_true, oneV, intOp, goI, splice, sBuild, fillE, nilB, isNil, Nat.reduceEqDiff, Nat.reduceAdd, Nat.reduceLT, Nat.reduceLeDiff, Int.reduceNeg, Int.reduceToNat, reduceCtorEq, decide_true, decide_false, encG, encS]
    refine CallG.pure (pn_tProductive g hg hs).pure (by kernel_rfl) ?_
    simp (disch := omega) only [↓wr, ↓reduceIte, wq, eq_self, ne_eq, implies_true, oneV, intOp, goI, splice, sBuild, fillE, nilB, isNil, Nat.reduceEqDiff, Nat.reduceAdd, Nat.reduceLT, Nat.reduceLeDiff, Int.reduceNeg, Int.reduceToNat, reduceCtorEq, decide_true, decide_false, encG, encS, encB]
    intro q
    try simp (disch := omega) only [↓wr, ↓reduceIte, wq, eq_self, ne_eq, implies_true, oneV, intOp, goI, splice, sBuild, fillE, nilB, isNil, Nat.reduceEqDiff, Nat.reduceAdd, Nat.reduceLT, Nat.reduceLeDiff, Int.reduceNeg, Int.reduceToNat, reduceCtorEq, decide_true, decide_false, encG, encS, set_set]
    refine ⟨⟨by omega, by unfold limit; omega, by unfold limit; omega⟩, fun h => by omega, ?_⟩
    intro _ n hn'
    have hnq := (dead_if hn' arr_live).1
    try simp (disch := omega) only [↓wr, ↓reduceIte, wq, eq_self, ne_eq, implies_true, oneV, intOp, goI, splice, sBuild, fillE, nilB, isNil, Nat.reduceEqDiff, Nat.reduceAdd, Nat.reduceLT, Nat.reduceLeDiff, Int.reduceNeg, Int.reduceToNat, reduceCtorEq, decide_true, decide_false, encG, encS, set_set]
    have hbg := bools_get (is := none11 g) (show g.start.toNat < (none11 g).length by simp [none11]; omega)
    refine ⟨by omega, by simp; omega, ?_⟩
    refine CallG.loud ((mc_grow g hf.rules (comesR (grown09 g true)) 48 [.ptr q 0 0] [.fptr [encB (grown09 g true)] 0] (by kernel_rfl) g.nons.length h2 (fun r hr' is his => ⟨pn_Reachable1 r is (grown09 g true) (by rw [his]; exact hf.ruleIn hg hr') (by rw [his, hpl]), ?_, ?_⟩) n ((none11 g).set g.start.toNat true) (by simp [none11]) _ ?_ (fun H' hfr => ⟨Lent.box (z := 1) ?_ ?_, trivial⟩)).mono ?_)
    · have h6 := hf.right r hr'
      unfold comesR
      split
      · have : (nonsOf r.right).length ≤ r.right.length := by simp only [nonsOf, List.length_map]; exact List.length_filter_le _ _
        omega
      · simp
    · intro m hm
      unfold comesR at hm
      split at hm
      · simp only [nonsOf, List.mem_map, List.mem_filter, decide_eq_true_eq] at hm
        obtain ⟨s, ⟨hs', hneg⟩, rfl⟩ := hm
        have a := hf.neg hr' hs' hneg
        have b := ((hg.rule r hr').2.2.2 s hs').1
        exact ⟨⟨by omega, by omega⟩, by omega, a⟩
      · simp at hm
    · simp only [View.set, if_true]
      congr 1
      rw [← bools_set]
      unfold none11 at hbg ⊢
      rw [bools_rep, hbg]
      rfl
    · rw [hfr q (by simp [View.set, Ne.symm hnq]) (Ne.symm hnq)]
      simp [View.set, Ne.symm hnq]
      rfl
    · intro v hv; simp at hv; subst hv; exact encB_tree _
    · rintro r H' ⟨rfl, hid, _⟩
      simp (disch := omega) only [↓wr, ↓reduceIte, wq, eq_self, ne_eq, implies_true, oneV, intOp, goI, splice, sBuild, fillE, nilB, isNil, Nat.reduceEqDiff, Nat.reduceAdd, Nat.reduceLT, Nat.reduceLeDiff, Int.reduceNeg, Int.reduceToNat, reduceCtorEq, decide_true, decide_false]
      intro h' hh
      rw [grow_R hr] at hid
      exact frn_grown (by rw [hh]; exact hid) (by rw [reach09_len hr])
  · rename_i hr
    intro h' hh
    simp only [reach09, hr]
    exact .emp _

end Gv

/-
  What a grammar is, reduced: in plain terms.
  Conditions: none.
-/
set_option linter.unusedSimpArgs false
namespace Gv
open Go Go.Proofs

def keepR (p q : List Bool) (r : Rule) : Bool := q.getD r.left.toNat false && allG r.right p true
/-- Which rules are kept, by their places. -/
def keptI (p q : List Bool) : List Rule → Int → List Int
  | [], _ => []
  | r :: l, i => if keepR p q r = true then i :: keptI p q l (i + 1) else keptI p q l (i + 1)
def addO (acc : List Int) (r : Rule) : List Int := if r.left ∈ acc then acc else acc ++ [r.left]
/-- Their nonterminals, each once. -/
def ordO (p q : List Bool) (l : List Rule) : List Int := (l.filter (keepR p q)).foldl addO []
def numO (o : List Int) (x : Int) : Int := idxF (fun y => y == x) o 0
def redRule (f : Int → Int) (r : Rule) : Rule := ⟨f r.left, r.right.map fun s => if s < 0 then -1 - f (-1 - s) else s, r.prec⟩
def redG (g : Gram) (f : Int → Int) (p q : List Bool) : Gram :=
  ⟨g.terms, (ordO p q g.rules).map fun x => g.nons.getD x.toNat ⟨#[]⟩, (g.rules.filter (keepR p q)).map (redRule f), f g.start⟩
def noG : Gram := ⟨[], [], [], 0⟩
/-- The grammar, reduced, the places of the rules that are left, the error's number. -/
def reduce09 (g : Gram) : Gram × List Int × Int :=
  if right09 g = true then
    if (grown09 g true).getD g.start.toNat false = true then (redG g (numO (ordO (grown09 g true) (reach09 g) g.rules)) (grown09 g true) (reach09 g), keptI (grown09 g true) (reach09 g) g.rules 0, 0)
    else (noG, [], 9)
  else (noG, [], 1)

theorem reduce09_pos {g : Gram} (hr : right09 g = true) : reduce09 g = if (grown09 g true).getD g.start.toNat false = true then (redG g (numO (ordO (grown09 g true) (reach09 g) g.rules)) (grown09 g true) (reach09 g), keptI (grown09 g true) (reach09 g) g.rules 0, 0) else (noG, [], 9) := by
  rw [reduce09, if_pos hr]

theorem keptI_append (p q : List Bool) : ∀ (a b : List Rule) (i : Int), keptI p q (a ++ b) i = keptI p q a i ++ keptI p q b (i + a.length)
  | [], b, i => by simp [keptI]
  | r :: a, b, i => by
    simp only [List.cons_append, keptI, keptI_append p q a b (i + 1), List.length_cons]
    have : i + 1 + (a.length : Int) = i + ((a.length + 1 : Nat) : Int) := by push_cast; omega
    rw [this]
    split <;> simp

theorem keptI_len (p q : List Bool) : ∀ (a : List Rule) (i : Int), (keptI p q a i).length = (a.filter (keepR p q)).length
  | [], i => rfl
  | r :: a, i => by
    simp only [keptI, List.filter_cons]
    split <;> simp [keptI_len p q a]

theorem keptI_get (p q : List Bool) : ∀ (a : List Rule) (i : Int) (k : Nat), k < (keptI p q a i).length → ∃ m : Nat, (keptI p q a i)[k]? = some (i + m) ∧ a[m]? = (a.filter (keepR p q))[k]? ∧ m < a.length
  | [], i, k, h => by simp [keptI] at h
  | r :: a, i, k, h => by
    simp only [keptI, List.filter_cons] at h ⊢
    by_cases hr : keepR p q r = true
    · rw [if_pos hr] at h ⊢
      rw [if_pos hr]
      cases k with
      | zero => exact ⟨0, by simp, by simp, by simp⟩
      | succ k =>
        obtain ⟨m, h1, h2, h3⟩ := keptI_get p q a (i + 1) k (by simpa using h)
        exact ⟨m + 1, by rw [List.getElem?_cons_succ, h1]; congr 1; push_cast; omega, by simpa using h2, by simpa using h3⟩
    · rw [if_neg hr] at h ⊢
      rw [if_neg hr]
      obtain ⟨m, h1, h2, h3⟩ := keptI_get p q a (i + 1) k h
      exact ⟨m + 1, by rw [h1]; congr 1; push_cast; omega, by simpa using h2, by simpa using h3⟩

theorem ordO_snoc (p q : List Bool) (l : List Rule) (r : Rule) : ordO p q (l ++ [r]) = if keepR p q r = true then addO (ordO p q l) r else ordO p q l := by
  unfold ordO
  rw [List.filter_append]
  by_cases h : keepR p q r = true
  · rw [if_pos h, List.filter_cons_of_pos h, List.foldl_append]; rfl
  · rw [if_neg h, List.filter_cons_of_neg h]; simp

theorem addO_nodup {acc : List Int} {r : Rule} (h : acc.Nodup) : (addO acc r).Nodup := by
  unfold addO
  split
  · exact h
  · rename_i hn
    rw [List.nodup_append]
    exact ⟨h, by simp, fun a ha b hb e => hn (by simp at hb; rw [← hb, ← e]; exact ha)⟩

theorem numO_neg {o : List Int} {x : Int} : numO o x < 0 ↔ x ∉ o := by
  have := idxF_any (fun y => y == x) o 0 (by omega)
  unfold numO
  rw [← Int.not_le]
  constructor
  · intro h hx
    have e : (o.any fun y => y == x) = true := List.any_eq_true.2 ⟨x, hx, by simp⟩
    rw [e] at this; exact h (by simpa using this)
  · intro h hx
    have e : (o.any fun y => y == x) = true := by rw [← this]; simpa using hx
    obtain ⟨y, hy, e⟩ := List.any_eq_true.1 e
    simp at e; subst e; exact h hy

theorem idxF_append {α : Type} (p : α → Bool) : ∀ (a b : List α) (i : Int), 0 ≤ i → idxF p (a ++ b) i = if 0 ≤ idxF p a i then idxF p a i else idxF p b (i + a.length)
  | [], b, i, _ => by simp [idxF]
  | x :: a, b, i, h => by
    by_cases hp : p x = true
    · simp [idxF, hp, h]
    · simp only [List.cons_append, idxF, if_neg hp]
      rw [idxF_append p a b (i + 1) (by omega)]
      have : i + 1 + (a.length : Int) = i + (((x :: a).length : Nat) : Int) := by simp; omega
      rw [this]

theorem numO_snoc {o : List Int} {x y : Int} (hx : x ∉ o) : numO (o ++ [x]) y = if y = x then (o.length : Int) else numO o y := by
  unfold numO
  rw [idxF_append _ _ _ _ (by omega)]
  by_cases e : y = x
  · subst e
    rw [if_neg (by have := numO_neg.2 hx; unfold numO at this; omega), if_pos rfl]
    simp [idxF]
  · rw [if_neg e]
    split
    · rfl
    · rename_i h
      have : numO o y < 0 := by unfold numO; omega
      have h2 : idxF (fun z => z == y) [x] (0 + (o.length : Int)) = -1 := by simp [idxF, Ne.symm e]
      rw [h2]
      have : ∀ (l : List Int) (i : Int), ¬ 0 ≤ idxF (fun z => z == y) l i → 0 ≤ i → idxF (fun z => z == y) l i = -1 := by
        intro l
        induction l with
        | nil => intro i _ _; rfl
        | cons z l ih =>
          intro i h1 h2
          simp only [idxF] at h1 ⊢
          split
          · rename_i hz; rw [if_pos hz] at h1; omega
          · rename_i hz; rw [if_neg hz] at h1; exact ih _ h1 (by omega)
      exact (this o 0 h (by omega)).symm

theorem numO_lt {o : List Int} {x : Int} (h : x ∈ o) : 0 ≤ numO o x ∧ numO o x < o.length := by
  have h0 : ¬ numO o x < 0 := fun e => numO_neg.1 e h
  refine ⟨by omega, ?_⟩
  unfold numO
  have : ∀ (l : List Int) (i : Int), idxF (fun z => z == x) l i < i + l.length ∨ idxF (fun z => z == x) l i = -1 := by
    intro l
    induction l with
    | nil => intro i; right; rfl
    | cons z l ih =>
      intro i
      simp only [idxF]
      split
      · left; simp; omega
      · rcases ih (i + 1) with h | h
        · left; simp at h ⊢; omega
        · right; exact h
  rcases this o 0 with h1 | h1
  · simpa using h1
  · unfold numO at h0; omega

theorem numO_bd (o : List Int) (x : Int) : -1 ≤ numO o x ∧ numO o x ≤ o.length := by
  by_cases h : x ∈ o
  · have := numO_lt h; omega
  · have h1 := numO_neg.2 h
    have h2 : ∀ (l : List Int) (i : Int), 0 ≤ i → -1 ≤ idxF (fun z => z == x) l i := by
      intro l
      induction l with
      | nil => intro i _; simp [idxF]
      | cons z l ih =>
        intro i hi
        simp only [idxF]
        split
        · omega
        · exact ih _ (by omega)
    have := h2 o 0 (by omega)
    unfold numO at h1 ⊢
    omega

/-! the same numbers, as pairs -/
def pairF : List Int → Int → List (Int × Int)
  | [], _ => []
  | x :: l, i => (x, i) :: pairF l (i + 1)
theorem pairF_get (x : Int) : ∀ (o : List Int) (i : Int), pget (pairF o i) x = if x ∈ o then some (idxF (fun y => y == x) o i) else none
  | [], i => by simp [pairF, pget]
  | y :: o, i => by
    have ih := pairF_get x o (i + 1)
    unfold pget at ih ⊢
    simp only [pairF, List.find?_cons, idxF]
    by_cases e : x = y
    · subst e; simp
    · have e2 : ¬ ((y == x) = true) := by simp [Ne.symm e]
      rw [show (x == y) = false by simp [e], if_neg e2]
      simp only
      rw [ih]
      simp [e]
theorem pairF_put {x v : Int} : ∀ {o : List Int} {i : Int}, x ∉ o → pput x v (pairF o i) = pairF o i ++ [(x, v)]
  | [], i, _ => rfl
  | y :: o, i, h => by
    simp only [List.mem_cons, not_or] at h
    simp only [pairF, pput, show (x == y) = false by simp [h.1], Bool.false_eq_true, if_false, pairF_put h.2, List.cons_append]
theorem pairF_snoc {x : Int} : ∀ {o : List Int} {i : Int}, pairF (o ++ [x]) i = pairF o i ++ [(x, i + o.length)]
  | [], i => by simp [pairF]
  | y :: o, i => by
    simp only [List.cons_append, pairF, pairF_snoc (o := o), List.length_cons]
    congr 4
    push_cast; omega
def numP (o : List Int) (x : Int) : Int := (pget (pairF o 0) x).getD 0
theorem numP_in {o : List Int} {x : Int} (h : x ∈ o) : numP o x = numO o x := by
  simp [numP, pairF_get, h, numO]
theorem numP_bd (o : List Int) (x : Int) : 0 ≤ numP o x ∧ numP o x ≤ o.length := by
  by_cases h : x ∈ o
  · rw [numP_in h]; have := numO_lt h; omega
  · simp [numP, pairF_get, h]

/-- Each that is kept leads to such as are kept: so all that is looked up is there. -/
theorem redG_same {g : Gram} {p q : List Bool} (hst : g.start ∈ ordO p q g.rules) (hin : ∀ r ∈ g.rules.filter (keepR p q), r.left ∈ ordO p q g.rules ∧ ∀ s ∈ r.right, s < 0 → -1 - s ∈ ordO p q g.rules) :
    redG g (numP (ordO p q g.rules)) p q = redG g (numO (ordO p q g.rules)) p q := by
  unfold redG
  congr 1
  · apply List.map_congr_left
    intro r hr
    obtain ⟨h1, h2⟩ := hin r hr
    unfold redRule
    congr 1
    · exact numP_in h1
    · apply List.map_congr_left
      intro s hs
      split
      · rename_i h; rw [numP_in (h2 s hs h)]
      · rfl
  · exact numP_in hst

theorem mem_foldl_addO : ∀ (l : List Rule) (acc : List Int) (x : Int), x ∈ l.foldl addO acc ↔ x ∈ acc ∨ ∃ r ∈ l, r.left = x
  | [], acc, x => by simp
  | r :: l, acc, x => by
    rw [List.foldl_cons, mem_foldl_addO l]
    have : x ∈ addO acc r ↔ x ∈ acc ∨ r.left = x := by
      unfold addO
      split
      · rename_i h
        constructor
        · exact .inl
        · rintro (h' | rfl)
          · exact h'
          · exact h
      · simp [eq_comm]
    rw [this]
    simp only [List.mem_cons, exists_eq_or_imp]
    constructor
    · rintro ((h | h) | h)
      · exact .inl h
      · exact .inr (.inl h)
      · exact .inr (.inr h)
    · rintro (h | h | h)
      · exact .inl (.inl h)
      · exact .inl (.inr h)
      · exact .inr h
theorem mem_ordO {p q : List Bool} {l : List Rule} {x : Int} : x ∈ ordO p q l ↔ ∃ r ∈ l, keepR p q r = true ∧ r.left = x := by
  unfold ordO
  rw [mem_foldl_addO]
  simp [List.mem_filter, and_assoc]

end Gv

/-
  All that a function owns, in one list: what operations make of it.
  Conditions: none beyond those that each lemma names.
-/
set_option linter.unusedSimpArgs false
namespace Gv
open Go

/-- A list that is owned: the value, the size of its elements, the elements. -/
abbrev Ent := V × Nat × List (List V)

def Owns (H : View) (L : List Ent) : Prop := (∀ x ∈ L, OwnA H x.1 x.2.1 x.2.2) ∧ (L.filterMap fun x => owner x.1).Nodup

theorem Owns.nil {H : View} : Owns H [] := ⟨fun x hx => by simp at hx, by simp⟩
theorem Owns.head {H : View} {x : Ent} {L : List Ent} (h : Owns H (x :: L)) : OwnA H x.1 x.2.1 x.2.2 := h.1 x (by simp)
theorem Owns.tail {H : View} {x : Ent} {L : List Ent} (h : Owns H (x :: L)) : Owns H L := by
  refine ⟨fun y hy => h.1 y (by simp [hy]), ?_⟩
  have := h.2
  simp only [List.filterMap_cons] at this
  split at this
  · exact this
  · exact (List.nodup_cons.1 this).2
theorem Owns.perm {H : View} {L L' : List Ent} (h : Owns H L) (p : L.Perm L') : Owns H L' :=
  ⟨fun x hx => h.1 x (p.mem_iff.2 hx), (p.filterMap _).nodup_iff.1 h.2⟩
theorem perm_at {α : Type} : ∀ (L : List α) (k : Nat) (hk : k < L.length), L.Perm (L[k] :: L.eraseIdx k)
  | x :: L, 0, _ => .refl _
  | x :: L, k + 1, hk => by
    have := perm_at L k (by simpa using hk)
    exact (this.cons x).trans (.swap _ _ _)
theorem Owns.at {H : View} {L : List Ent} (h : Owns H L) (k : Nat) (hk : k < L.length) : Owns H (L[k] :: L.eraseIdx k) :=
  h.perm (perm_at L k hk)
theorem Owns.obj {H : View} {n k sz : Nat} {es : List (List V)} {L : List Ent} (h : Owns H ((.sl n 0 k sz, sz, es) :: L)) (hes : es ≠ []) : H n = .arr sz es ∧ k = es.length := by
  rcases h.head with ⟨e, _⟩ | ⟨m, e, hm⟩
  · exact absurd e hes
  · simp only [V.sl.injEq] at e
    obtain ⟨rfl, _, rfl, _⟩ := e
    exact ⟨hm, rfl⟩
theorem Owns.off {H : View} {x : Ent} {L : List Ent} (h : Owns H (x :: L)) {id : Nat} (hid : owner x.1 = some id) : ∀ y ∈ L, owner y.1 ≠ some id := by
  intro y hy e
  have := h.2
  simp only [List.filterMap_cons, hid, List.nodup_cons, List.mem_filterMap, not_exists, not_and] at this
  exact this.1 y hy e
theorem Owns.live {H : View} {x : Ent} {L : List Ent} (h : Owns H L) (hx : x ∈ L) {id : Nat} (hid : owner x.1 = some id) : H id ≠ .dead := by
  rw [((h.1 x hx).live hid).1]; simp
theorem Owns.keep {H H' : View} {L : List Ent} (h : Owns H L) (hk : ∀ x ∈ L, ∀ id, owner x.1 = some id → H' id = H id) : Owns H' L :=
  ⟨fun x hx => (h.1 x hx).keep (hk x hx), h.2⟩

/-- Something new. -/
theorem Owns.new {H : View} {L : List Ent} (h : Owns H L) {n : Nat} (hn : H n = .dead) (sz : Nat) (es : List (List V)) : Owns (H.set n (.arr sz es)) ((.sl n 0 es.length sz, sz, es) :: L) := by
  refine ⟨fun x hx => ?_, ?_⟩
  · rcases List.mem_cons.1 hx with rfl | hx
    · exact .new
    · exact (h.1 x hx).fresh hn
  · simp only [List.filterMap_cons, owner, List.nodup_cons, List.mem_filterMap, not_exists, not_and]
    exact ⟨fun x hx e => h.live hx e hn, h.2⟩
theorem Owns.come {H H' : View} {L : List Ent} (h : Owns H L) {u : V} {sz : Nat} {es : List (List V)} (ho : OwnA H' u sz es) (hf : Fresh H H' u) : Owns H' ((u, sz, es) :: L) := by
  refine ⟨fun x hx => ?_, ?_⟩
  · rcases List.mem_cons.1 hx with rfl | hx
    · exact ho
    · exact (h.1 x hx).fresh' hf
  · cases hu : owner u with
    | none => simp only [List.filterMap_cons, hu]; exact h.2
    | some id =>
      simp only [List.filterMap_cons, hu, List.nodup_cons, List.mem_filterMap, not_exists, not_and]
      exact ⟨fun x hx e => (hf id (h.live hx e)).2 hu, h.2⟩
theorem Owns.fresh {H : View} {L : List Ent} (h : Owns H L) {n : Nat} (hn : H n = .dead) {o : AObj} : Owns (H.set n o) L :=
  ⟨fun x hx => (h.1 x hx).fresh hn, h.2⟩

/-- The first one is written. -/
theorem Owns.put {H : View} {L : List Ent} {n k sz : Nat} {es es' : List (List V)} (h : Owns H ((.sl n 0 k sz, sz, es) :: L)) (hl : es'.length = es.length) (hk : k = es.length) : Owns (H.set n (.arr sz es')) ((.sl n 0 k sz, sz, es') :: L) := by
  refine ⟨fun x hx => ?_, by simpa [List.filterMap_cons, owner] using h.2⟩
  rcases List.mem_cons.1 hx with rfl | hx
  · exact .inr ⟨n, by simp [hl, hk], by simp [View.set]⟩
  · exact (h.1 x (by simp [hx])).other (h.off rfl x hx)
/-- Another object than the first's is written that is none of the list's. -/
theorem Owns.left {H H' : View} {L : List Ent} {u u' : V} {sz : Nat} {es es' : List (List V)} (h : Owns H ((u, sz, es) :: L)) (ho : OwnA H' u' sz es') (hl : Left H H' u u') : Owns H' ((u', sz, es') :: L) := by
  have hoff : ∀ x ∈ L, ∀ id, owner x.1 = some id → owner u ≠ some id := fun x hx id hid hu => h.off hu x hx hid
  refine ⟨fun x hx => ?_, ?_⟩
  · rcases List.mem_cons.1 hx with rfl | hx
    · exact ho
    · exact (h.1 x (by simp [hx])).left hl (hoff x hx)
  · have ht := h.tail.2
    cases hu : owner u' with
    | none => simp only [List.filterMap_cons, hu]; exact ht
    | some id =>
      simp only [List.filterMap_cons, hu, List.nodup_cons, List.mem_filterMap, not_exists, not_and]
      refine ⟨fun x hx e => ?_, ht⟩
      have hlv := h.tail.live hx e
      exact (hl id hlv (hoff x hx id e)).2 hu

/-- Appending to the first one. -/
theorem goApp_owns {sz bytes : Nat} {u : V} {es xs : List (List V)} {L : List Ent} {H : View} {K : V → View → Prop} {w : Veil (H, K)} (ho : Owns H ((u, sz, es) :: L)) (hok : (xs.all fun e => e.length == sz && e.all cellOk) = true)
    (hl : (es.length + xs.length) * bytes < limit) (hl2 : es.length + xs.length < limit) (hk : ∀ u' H', Owns H' ((u', sz, es ++ xs) :: L) → Left H H' u u' → K u' H') : GoApp sz bytes u xs H K w :=
  goApp_all ho.head hok hl hl2 fun u' H' h1 h2 => hk u' H' (ho.left h1 h2) h2

/-- A call that leaves what is owned as it was. -/
theorem Owns.stay {H H' : View} {L : List Ent} (h : Owns H L) (hf : ∀ id, H id ≠ .dead → H' id = H id) : Owns H' L :=
  h.keep fun x hx _ hid => hf _ (h.live hx hid)

/-! writing into a box of one element -/
theorem set_zero {e e' : List V} : [e].set 0 e' = [e'] := rfl

theorem Owns.emp {H : View} {L : List Ent} (h : Owns H L) {k sz : Nat} : Owns H ((.emp k, sz, []) :: L) := by
  refine ⟨fun x hx => ?_, by simpa [List.filterMap_cons, owner] using h.2⟩
  rcases List.mem_cons.1 hx with rfl | hx
  · exact .nil
  · exact h.1 x hx
theorem OwnA.cells {H : View} {u : V} {sz : Nat} {es : List (List V)} (h : OwnA H u sz es) : V.cells u = [u] := by
  rcases h with ⟨rfl, k, rfl⟩ | ⟨n, rfl, _⟩ <;> rfl
theorem OwnA.cok {H : View} {u : V} {sz : Nat} {es : List (List V)} (h : OwnA H u sz es) : cellOk u = true := by
  rcases h with ⟨rfl, k, rfl⟩ | ⟨n, rfl, _⟩ <;> rfl
theorem Owns.ne {H : View} {n k sz m : Nat} {es : List (List V)} {L : List Ent} (h : Owns H ((.sl n 0 k sz, sz, es) :: L)) (hes : es ≠ []) (hm : H m = .dead) : n ≠ m := by
  rintro rfl; rw [(h.obj hes).1] at hm; simp at hm

theorem Owns.ne2 {H : View} {a k1 s1 b k2 s2 t1 t2 : Nat} {e1 e2 : List (List V)} {L : List Ent} (h : Owns H ((.sl a 0 k1 s1, t1, e1) :: (.sl b 0 k2 s2, t2, e2) :: L)) : a ≠ b := by
  rintro rfl
  exact h.off (x := (.sl a 0 k1 s1, t1, e1)) rfl (.sl a 0 k2 s2, t2, e2) (by simp) rfl

/-- Two of the objects are two. -/
theorem Owns.dif {H : View} {L : List Ent} (h : Owns H L) (i j : Nat) {a k1 s1 b k2 s2 t1 t2 : Nat} {e1 e2 : List (List V)} (hi : L[i]? = some (.sl a 0 k1 s1, t1, e1)) (hj : L[j]? = some (.sl b 0 k2 s2, t2, e2)) (hij : i ≠ j) : a ≠ b := by
  rintro rfl
  obtain ⟨hil, hi⟩ := List.getElem?_eq_some_iff.1 hi
  have h1 := h.at i hil
  rw [hi] at h1
  exact h1.off (id := a) rfl _ (List.mem_eraseIdx_iff_getElem?.2 ⟨j, hij.symm, hj⟩) rfl

theorem rot3 {α : Type} {a b c : α} {l : List α} : (a :: b :: c :: l).Perm (b :: c :: a :: l) := (List.Perm.swap _ _ _).trans ((List.Perm.swap _ _ _).cons _)

theorem Owns.own {H : View} {L : List Ent} (h : Owns H L) (i : Nat) {u : V} {sz : Nat} {es : List (List V)} (hi : L[i]? = some (u, sz, es)) : OwnA H u sz es := h.1 _ (List.mem_of_getElem? hi)
theorem Owns.is {H : View} {L : List Ent} (h : Owns H L) (i : Nat) {n k sz : Nat} {es : List (List V)} (hi : L[i]? = some (.sl n 0 k sz, sz, es)) (hes : 0 < es.length) : H n = .arr sz es := by
  obtain ⟨m, e, hm⟩ := (h.own i hi).sl hes
  simp only [V.sl.injEq] at e
  rw [e.1]; exact hm

/-! beside maps -/
theorem Owns.nomap {H : View} {L : List Ent} (h : Owns H L) {b c : Nat} {es : List (V × V × Nat)} (hb : H b = .map es c) : ∀ x ∈ L, owner x.1 ≠ some b := fun x hx e => by
  have := ((h.1 x hx).live e).1
  rw [hb] at this; simp at this
theorem Owns.setmap {H : View} {L : List Ent} (h : Owns H L) {b c : Nat} {es : List (V × V × Nat)} (hb : H b = .map es c) {o : AObj} : Owns (H.set b o) L :=
  ⟨fun x hx => (h.1 x hx).other (h.nomap hb x hx), h.2⟩
theorem Left.map {H H' : View} {u u' : V} {b c : Nat} {es : List (V × V × Nat)} {sz : Nat} {xs : List (List V)} (hl : Left H H' u u') (ho : OwnA H u sz xs) (hb : H b = .map es c) : H' b = .map es c := by
  rw [(hl b (by rw [hb]; simp) (fun e => by have := (ho.live e).1; rw [hb] at this; simp at this)).1, hb]
theorem ne_map {H : View} {L : List Ent} (h : Owns H L) (i : Nat) {n k sz b c : Nat} {xs : List (List V)} {es : List (V × V × Nat)} (hi : L[i]? = some (.sl n 0 k sz, sz, xs)) (hb : H b = .map es c) : n ≠ b := by
  rintro rfl
  exact h.nomap hb _ (List.mem_of_getElem? hi) rfl

/-- A quiet call that makes something new. -/
theorem CallG.quietly {P : Program} {f : FuncId} {vs : List V} {H : View} {K : V → View → Prop} {w : Veil (H, K)} {sz : Nat} {es : List (List V)} (hc : MCall P f vs H fun r H' => OwnA H' r sz es ∧ Fresh H H' r) (hk : ∀ r H', OwnA H' r sz es → Fresh H H' r → K r H') : CallG P true f vs H K w := by
  unfold CallG
  simp only [if_true]
  exact (hc.mono fun r H' h => ⟨fun id hid => (h.2 id hid).1, hk r H' h.1 h.2⟩).to_q

end Gv
