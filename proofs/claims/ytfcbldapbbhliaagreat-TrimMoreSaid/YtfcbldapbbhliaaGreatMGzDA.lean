/-
  Part 1 of the proof: what the machine does and what the functions answer.
  Conditions: those that each lemma names.
-/
import Derived.Test.YtfcbldapbbhliaaGreatMGzCA
set_option linter.unusedSimpArgs false
set_option linter.unusedVariables false

/-
  What is reduced, is right, and is its own reduction.
  Conditions: none.
-/
set_option linter.unusedSimpArgs false
namespace Gv
open Go Go.Proofs

/-! places -/
theorem idxF_get {x : Int} : ∀ (o : List Int) (i : Int), x ∈ o → ∃ k : Nat, idxF (fun y => y == x) o i = i + k ∧ o[k]? = some x
  | [], _, h => by simp at h
  | y :: o, i, h => by
    by_cases e : y = x
    · exact ⟨0, by simp [idxF, e], by simp [e]⟩
    · have hx : x ∈ o := by
        rcases List.mem_cons.1 h with rfl | h
        · exact absurd rfl e
        · exact h
      obtain ⟨k, h1, h2⟩ := idxF_get o (i + 1) hx
      exact ⟨k + 1, by simp only [idxF]; rw [if_neg (by simp [e]), h1]; push_cast; omega, by simpa using h2⟩
theorem numO_get {o : List Int} {x : Int} (h : x ∈ o) : o[(numO o x).toNat]? = some x := by
  obtain ⟨k, h1, h2⟩ := idxF_get o 0 h
  have : numO o x = k := by unfold numO; omega
  rw [this]; simpa using h2
theorem numO_at {o : List Int} (hn : o.Nodup) {k : Nat} {x : Int} (h : o[k]? = some x) : numO o x = k := by
  have hx := List.mem_of_getElem? h
  have h1 := numO_get hx
  have h2 := numO_lt hx
  obtain ⟨hk, h3⟩ := List.getElem?_eq_some_iff.1 h
  obtain ⟨hk2, h4⟩ := List.getElem?_eq_some_iff.1 h1
  have := (List.getElem_inj hn).1 (h4.trans h3.symm)
  omega

theorem foldl_addO_nodup : ∀ (l : List Rule) (acc : List Int), acc.Nodup → (l.foldl addO acc).Nodup
  | [], _, h => h
  | r :: l, acc, h => foldl_addO_nodup l _ (addO_nodup h)
theorem ordO_nodup (p q : List Bool) (l : List Rule) : (ordO p q l).Nodup := foldl_addO_nodup _ _ List.nodup_nil

theorem addO_ext (acc : List Int) (r : Rule) : ∃ m, addO acc r = acc ++ m := by
  unfold addO
  split
  · exact ⟨[], by simp⟩
  · exact ⟨_, rfl⟩
theorem foldl_addO_ext : ∀ (l : List Rule) (acc : List Int), ∃ m, l.foldl addO acc = acc ++ m
  | [], acc => ⟨[], by simp⟩
  | r :: l, acc => by
    obtain ⟨m, hm⟩ := addO_ext acc r
    obtain ⟨k, hk⟩ := foldl_addO_ext l (addO acc r)
    exact ⟨m ++ k, by rw [List.foldl_cons, hk, hm, List.append_assoc]⟩

theorem numO_pre {a b : List Int} {x : Int} (h : x ∈ a) : numO (a ++ b) x = numO a x := by
  unfold numO
  rw [idxF_append _ _ _ _ (by omega)]
  have := numO_lt h
  unfold numO at this
  rw [if_pos this.1]

/-- The numbers come in the order of the rules. -/
theorem rulesL_red {r : Gram} {o : List Int} (ho : o.Nodup) (hr : r.nons.length = o.length) : ∀ (l : List Rule) (acc : List Int), o = l.foldl addO acc → (∀ x ∈ l, ruleB r (redRule (numO o) x) = true) → rulesL r (l.map (redRule (numO o))) ((acc.length : Int) - 1) = true
  | [], acc, h, _ => by
    simp only [List.foldl_nil] at h
    simp [rulesL, hr, h]
  | x :: l, acc, h, hb => by
    simp only [List.map_cons, rulesL, Bool.and_eq_true, decide_eq_true_eq]
    rw [List.foldl_cons] at h
    have h1 : (redRule (numO o) x).left = numO o x.left := rfl
    obtain ⟨m, hm⟩ := foldl_addO_ext l (addO acc x)
    rw [← h] at hm
    by_cases hx : x.left ∈ acc
    · have e : addO acc x = acc := by unfold addO; rw [if_pos hx]
      rw [e] at hm h
      have h2 := numO_lt hx
      have h3 : numO o x.left = numO acc x.left := by rw [hm]; exact numO_pre hx
      rw [h1, h3, if_neg (by omega)]
      exact ⟨⟨⟨h2.1, by omega⟩, hb x (by simp)⟩, rulesL_red ho hr l acc h fun y hy => hb y (by simp [hy])⟩
    · have e : addO acc x = acc ++ [x.left] := by unfold addO; rw [if_neg hx]
      rw [e] at hm h
      have h3 : numO o x.left = acc.length := numO_at ho (by rw [hm]; simp)
      rw [h1, h3, if_pos (by omega)]
      refine ⟨⟨⟨by omega, by omega⟩, hb x (by simp)⟩, ?_⟩
      have := rulesL_red ho hr l (acc ++ [x.left]) h fun y hy => hb y (by simp [hy])
      rw [List.length_append] at this
      simpa using this

theorem termsL_same {g r : Gram} (h : r.terms = g.terms) : ∀ (l : List Term) (i : Int), termsL r l i = termsL g l i
  | [], _ => rfl
  | t :: l, i => by
    simp only [termsL, termsL_same h l]
    congr 1
    simp only [termB, termI, lvlsB, h]

theorem int_nodup_len {o : List Int} {n : Nat} (h : o.Nodup) (hb : ∀ x ∈ o, 0 ≤ x ∧ x < n) : o.length ≤ n := by
  have := nodup_len o ((List.range n).map fun (k : Nat) => (k : Int)) h fun x hx => by
    have := hb x hx
    exact List.mem_map.2 ⟨x.toNat, List.mem_range.2 (by omega), by omega⟩
  simpa using this

/-- What stands when a grammar is reduced. -/
structure Red (g : Gram) (p q : List Bool) (o : List Int) (r : Gram) : Prop where
  right : right09 g = true
  pe : p = grown09 g true
  qe : q = reach09 g
  oe : o = ordO p q g.rules
  re : r = redG g (numO o) p q
  nodup : o.Nodup
  inside : ∀ x ∈ o, 0 ≤ x ∧ x < g.nons.length
  kept : ∀ R ∈ g.rules, keepR p q R = true → R.left ∈ o ∧ ∀ s ∈ R.right, s < 0 → -1 - s ∈ o
  from_ : ∀ x ∈ o, ∃ R ∈ g.rules, keepR p q R = true ∧ R.left = x
  start : g.start ∈ o

theorem red_of {g : Gram} (hr : right09 g = true) (hp : (grown09 g true).getD g.start.toNat false = true) : Red g (grown09 g true) (reach09 g) (ordO (grown09 g true) (reach09 g) g.rules) (redG g (numO (ordO (grown09 g true) (reach09 g) g.rules)) (grown09 g true) (reach09 g)) := by
  have hf := right09_fine hr
  refine ⟨hr, rfl, rfl, rfl, rfl, ordO_nodup _ _ _, fun x hx => ?_, fun R hm hk => ⟨mem_ordO.2 ⟨R, hm, hk, rfl⟩, fun s hs hn => ?_⟩, fun x hx => mem_ordO.1 hx, in_ord hr hf.start0 hp (reach_start hr)⟩
  · obtain ⟨R, h1, _, rfl⟩ := mem_ordO.1 hx
    exact hf.left R h1
  · refine in_ord hr (by omega) ?_ (reach_next hr hm hk hs hn)
    rw [keepR, Bool.and_eq_true] at hk
    have := hk.2
    simp only [allG, List.all_eq_true] at this
    have := this s hs
    rwa [if_neg (by omega)] at this

section
variable {g r : Gram} {p q : List Bool} {o : List Int}

theorem Red.rules (h : Red g p q o r) : r.rules = (g.rules.filter (keepR p q)).map (redRule (numO o)) := by rw [h.re]; rfl
theorem Red.nons (h : Red g p q o r) : r.nons = o.map fun x => g.nons.getD x.toNat ⟨#[]⟩ := by rw [h.re, h.oe]; rfl
theorem Red.terms (h : Red g p q o r) : r.terms = g.terms := by rw [h.re]; rfl
theorem Red.startE (h : Red g p q o r) : r.start = numO o g.start := by rw [h.re]; rfl
theorem Red.len (h : Red g p q o r) : r.nons.length = o.length := by rw [h.nons]; simp

theorem Red.right_red (h : Red g p q o r) : right09 r = true := by
  have hf := right09_fine h.right
  have hR := h.right
  simp only [right09, terms09, nons09, Bool.and_eq_true, decide_eq_true_eq] at hR ⊢
  obtain ⟨⟨⟨⟨⟨⟨⟨a1, a2⟩, ⟨a3, a4⟩, a5⟩, a6⟩, a7⟩, a8⟩, a9⟩, a10⟩ := hR
  have hst := numO_lt h.start
  have hol : o.length ≤ g.nons.length := int_nodup_len h.nodup h.inside
  have hgn : g.nons.Nodup ∧ ∀ s ∈ g.nons, nameB (bts s) = true ∧ termI g s < 0 := by
    rw [nonsL_iff] at a5
    refine ⟨(idx_nodup g.nons).1 fun k s hk => ?_, fun s hs => ?_⟩
    · have := a5 k s hk
      simp only [nonB, nonI, Bool.and_eq_true, beq_iff_eq] at this
      have := this.1.2
      omega
    · obtain ⟨k, hk⟩ := List.getElem?_of_mem hs
      have := a5 k s hk
      simp only [nonB, Bool.and_eq_true, decide_eq_true_eq] at this
      exact ⟨this.1.1, this.2⟩
  have hget : ∀ x ∈ o, ∃ (hx : x.toNat < g.nons.length), g.nons.getD x.toNat ⟨#[]⟩ = g.nons[x.toNat] := fun x hx => by
    have := h.inside x hx
    exact ⟨by omega, by simp [List.getD_eq_getElem?_getD, List.getElem?_eq_getElem (show x.toNat < g.nons.length by omega)]⟩
  have hrn : r.nons.Nodup := by
    rw [h.nons, List.nodup_iff_pairwise_ne, List.pairwise_map]
    refine (List.Pairwise.and_mem.1 h.nodup).imp ?_
    rintro x y ⟨hx, hy, hne⟩ e
    obtain ⟨h1, h2⟩ := hget x hx
    obtain ⟨h3, h4⟩ := hget y hy
    rw [h2, h4] at e
    have h5 := (List.getElem_inj hgn.1).1 e
    have h6 := h.inside x hx
    have h7 := h.inside y hy
    exact hne (by omega)
  have hrules : (g.rules.filter (keepR p q)).length ≤ g.rules.length := List.length_filter_le _ _
  obtain ⟨R0, hR0, hk0, _⟩ := h.from_ _ h.start
  have hpos : 0 < (g.rules.filter (keepR p q)).length := List.length_pos_of_mem (List.mem_filter.2 ⟨hR0, hk0⟩)
  have hrl : r.rules.length = (g.rules.filter (keepR p q)).length := by rw [h.rules]; simp
  refine ⟨⟨⟨⟨⟨⟨⟨by rw [h.terms]; exact a1, ?_⟩, ⟨by rw [h.len]; omega, by rw [h.len]; omega⟩, ?_⟩, by omega⟩, by omega⟩, by rw [h.startE]; omega⟩, by rw [h.startE, h.len]; omega⟩, ?_⟩
  · rw [h.terms, termsL_same h.terms]; exact a2
  · rw [nonsL_iff]
    intro k s hk
    have hm := List.mem_of_getElem? hk
    have hidx := (idx_nodup r.nons).2 hrn k s hk
    rw [h.nons, List.mem_map] at hm
    obtain ⟨x, hx, rfl⟩ := hm
    obtain ⟨h1, h2⟩ := hget x hx
    obtain ⟨h3, h4⟩ := hgn.2 _ (h2 ▸ List.getElem_mem h1 : g.nons.getD x.toNat ⟨#[]⟩ ∈ g.nons)
    simp only [nonB, nonI, Bool.and_eq_true, beq_iff_eq, decide_eq_true_eq]
    refine ⟨⟨h3, by rw [hidx]; omega⟩, ?_⟩
    simp only [termI, h.terms] at h4 ⊢
    exact h4
  · rw [h.rules]
    have := rulesL_red (r := r) h.nodup h.len (g.rules.filter (keepR p q)) [] (by rw [h.oe]; rfl) (fun x hx => ?_)
    · simpa using this
    obtain ⟨hm, hk⟩ := List.mem_filter.1 hx
    obtain ⟨_, hin⟩ := h.kept x hm hk
    have hb := (rulesL_ok _ _ a10).2 x hm
    have hb := hb.2.2
    simp only [ruleB, Bool.and_eq_true, decide_eq_true_eq, List.all_eq_true] at hb ⊢
    obtain ⟨⟨⟨b1, b2⟩, b3⟩, b4⟩ := hb
    refine ⟨⟨⟨by simpa [redRule] using b1, b2⟩, by rw [h.terms]; exact b3⟩, fun s hs => ?_⟩
    simp only [redRule, List.mem_map] at hs
    obtain ⟨s0, hs0, rfl⟩ := hs
    have b5 := b4 s0 hs0
    by_cases hn : s0 < 0
    · rw [if_pos hn]
      have hl := numO_lt (hin s0 hs0 hn)
      simp only [symB, hasG, Bool.and_eq_true]
      rw [if_neg (by omega), decide_eq_false (p := 0 ≤ -1 - numO o (-1 - s0)) (by omega)]
      simp only [h.len, decide_eq_true_eq, Bool.false_and, Bool.not_false, and_true]
      omega
    · rw [if_neg hn]
      simp only [symB, hasG, h.terms] at b5 ⊢
      rw [if_pos (by omega)] at b5 ⊢
      exact b5

end

end Gv

/-
  What is reduced, is productive and reachable throughout, and is its own reduction.
  Conditions: none.
-/
set_option linter.unusedSimpArgs false
namespace Gv
open Go Go.Proofs

/-- What derives a word. -/
inductive Der (g : Gram) : Int → Prop
  | mk (R : Rule) : R ∈ g.rules → (∀ s ∈ R.right, s < 0 → Der g (-1 - s)) → Der g R.left
/-- What is reached. -/
inductive Rch (g : Gram) (p : List Bool) : Int → Prop
  | start : Rch g p g.start
  | next (R : Rule) (s : Int) : R ∈ g.rules → Rch g p R.left → allG R.right p true = true → s ∈ R.right → s < 0 → Rch g p (-1 - s)

theorem allG_iff {l : List Int} {p : List Bool} : allG l p true = true ↔ ∀ s ∈ l, s < 0 → p.getD (-1 - s).toNat false = true := by
  simp only [allG, List.all_eq_true]
  constructor
  · intro h s hs hn
    have := h s hs
    rwa [if_neg (by omega)] at this
  · intro h s hs
    by_cases hn : s < 0
    · rw [if_neg (by omega)]; exact h s hs hn
    · rw [if_pos (by omega)]

theorem getD_set {l : List Bool} {i j : Nat} (h : (l.set i true).getD j false = true) : j = i ∨ l.getD j false = true := by
  by_cases e : i = j
  · exact .inl e.symm
  · right
    simp only [List.getD_eq_getElem?_getD, List.getElem?_set, if_neg e] at h ⊢
    exact h
theorem none_false {g : Gram} {i : Nat} : (none11 g).getD i false = false := by
  simp only [none11, List.getD_eq_getElem?_getD, List.getElem?_replicate]
  split <;> rfl

theorem der_of_grown {g : Gram} (hr : right09 g = true) : ∀ i : Nat, (grown09 g true).getD i false = true → Der g i := by
  have hf := right09_fine hr
  have hst : ∀ (is : List Bool) (R : Rule), R ∈ g.rules → (∀ i : Nat, is.getD i false = true → Der g i) → ∀ i : Nat, (step11 true is R).getD i false = true → Der g i := by
    intro is R hR h i hi
    unfold step11 at hi
    split at hi
    · rename_i ha
      rcases getD_set hi with rfl | hi
      · have := hf.left R hR
        have e : ((R.left.toNat : Nat) : Int) = R.left := by omega
        rw [e]
        refine .mk R hR fun s hs hn => ?_
        have := h _ (allG_iff.1 ha s hs hn)
        rwa [show (((-1 - s).toNat : Nat) : Int) = -1 - s by omega] at this
      · exact h i hi
    · exact h i hi
  have hfold : ∀ (l : List Rule) (is : List Bool), (∀ R ∈ l, R ∈ g.rules) → (∀ i : Nat, is.getD i false = true → Der g i) → ∀ i : Nat, (l.foldl (step11 true) is).getD i false = true → Der g i := by
    intro l
    induction l with
    | nil => intro is _ h; exact h
    | cons R l ih => intro is hl h; exact ih _ (fun x hx => hl x (by simp [hx])) (hst is R (hl R (by simp)) h)
  have hit : ∀ (n : Nat) (is : List Bool), (∀ i : Nat, is.getD i false = true → Der g i) → ∀ i : Nat, (iter (round11 g true) n is).getD i false = true → Der g i := by
    intro n
    induction n with
    | zero => intro is h; exact h
    | succ n ih => intro is h; exact ih _ (hfold g.rules is (fun _ h => h) h)
  rw [grown09, if_pos hr]
  exact hit _ _ fun i hi => by rw [none_false] at hi; simp at hi

theorem step11_le (t : Bool) (is : List Bool) (R : Rule) : LeB is (step11 t is R) := by
  unfold step11
  split
  · exact .set _ _
  · exact .refl _
theorem fold11_le (t : Bool) : ∀ (l : List Rule) (is : List Bool), LeB is (l.foldl (step11 t) is)
  | [], is => .refl _
  | R :: l, is => (step11_le t is R).trans (fold11_le t l _)
theorem fix11_step {t : Bool} : ∀ {l : List Rule} {is : List Bool}, l.foldl (step11 t) is = is → ∀ R ∈ l, step11 t is R = is
  | [], _, _, _, h => by simp at h
  | R :: l, is, h, x, hx => by
    rw [List.foldl_cons] at h
    have h1 := fold11_le t l (step11 t is R)
    rw [h] at h1
    have h2 := (h1.anti (step11_le t is R))
    rcases List.mem_cons.1 hx with rfl | hx
    · exact h2
    · rw [h2] at h; exact fix11_step h x hx

theorem grown_fix {g : Gram} (hr : right09 g = true) (t : Bool) : round11 g t (grown09 g t) = grown09 g t := by
  have hf := right09_fine hr
  have h := growG_fix (comesA t) g.rules 16 (none11 g) (by have := hf.nons; simp [none11]; omega)
  rw [round_A, grow_A hr] at h
  exact h.1
theorem grown_closed {g : Gram} (hr : right09 g = true) {t : Bool} {R : Rule} (hR : R ∈ g.rules) (ha : allG R.right (grown09 g t) t = true) : (grown09 g t).getD R.left.toNat false = true := by
  have h1 := fix11_step (grown_fix hr t) R hR
  have hf := right09_fine hr
  have hl := grown09_len hr t
  have hb := hf.left R hR
  unfold step11 at h1
  rw [if_pos ha] at h1
  rw [← h1]
  simp only [List.getD_eq_getElem?_getD]
  rw [List.getElem?_set_self (by omega)]
  rfl
theorem grown_of_der {g : Gram} (hr : right09 g = true) {x : Int} (h : Der g x) : (grown09 g true).getD x.toNat false = true := by
  induction h with
  | mk R hR _ ih => exact grown_closed hr hR (allG_iff.2 fun s hs hn => ih s hs hn)

theorem rch_of_reach {g : Gram} (hr : right09 g = true) : ∀ i : Nat, (reach09 g).getD i false = true → Rch g (grown09 g true) i := by
  have hf := right09_fine hr
  have hmk : ∀ (R : Rule), R ∈ g.rules → Rch g (grown09 g true) R.left → allG R.right (grown09 g true) true = true → ∀ (l : List Int) (is : List Bool), (∀ s ∈ l, s ∈ R.right) → (∀ i : Nat, is.getD i false = true → Rch g (grown09 g true) i) → ∀ i : Nat, (l.foldl mark is).getD i false = true → Rch g (grown09 g true) i := by
    intro R hR hl ha l
    induction l with
    | nil => intro is _ h; exact h
    | cons s l ih =>
      intro is hs h
      refine ih _ (fun x hx => hs x (by simp [hx])) fun i hi => ?_
      unfold mark at hi
      split at hi
      · rename_i hn
        rcases getD_set hi with rfl | hi
        · rw [show (((-1 - s).toNat : Nat) : Int) = -1 - s by omega]
          exact .next R s hR hl ha (hs s (by simp)) hn
        · exact h i hi
      · exact h i hi
  have hst : ∀ (is : List Bool) (R : Rule), R ∈ g.rules → (∀ i : Nat, is.getD i false = true → Rch g (grown09 g true) i) → ∀ i : Nat, (stepR (grown09 g true) is R).getD i false = true → Rch g (grown09 g true) i := by
    intro is R hR h
    unfold stepR
    split
    · rename_i ha
      rw [Bool.and_eq_true] at ha
      have h1 := h _ ha.1
      have := hf.left R hR
      rw [show ((R.left.toNat : Nat) : Int) = R.left by omega] at h1
      exact hmk R hR h1 ha.2 R.right is (fun _ h => h) h
    · exact h
  have hfold : ∀ (l : List Rule) (is : List Bool), (∀ R ∈ l, R ∈ g.rules) → (∀ i : Nat, is.getD i false = true → Rch g (grown09 g true) i) → ∀ i : Nat, (l.foldl (stepR (grown09 g true)) is).getD i false = true → Rch g (grown09 g true) i := by
    intro l
    induction l with
    | nil => intro is _ h; exact h
    | cons R l ih => intro is hl h; exact ih _ (fun x hx => hl x (by simp [hx])) (hst is R (hl R (by simp)) h)
  have hit : ∀ (n : Nat) (is : List Bool), (∀ i : Nat, is.getD i false = true → Rch g (grown09 g true) i) → ∀ i : Nat, (iter (roundR g (grown09 g true)) n is).getD i false = true → Rch g (grown09 g true) i := by
    intro n
    induction n with
    | zero => intro is h; exact h
    | succ n ih => intro is h; exact ih _ (hfold g.rules is (fun _ h => h) h)
  rw [reach09, if_pos hr]
  refine hit _ _ fun i hi => ?_
  rcases getD_set hi with rfl | hi
  · have := hf.start0
    rw [show ((g.start.toNat : Nat) : Int) = g.start by omega]
    exact .start
  · rw [none_false] at hi; simp at hi

theorem reach_of_rch {g : Gram} (hr : right09 g = true) {x : Int} (h : Rch g (grown09 g true) x) : (reach09 g).getD x.toNat false = true := by
  induction h with
  | start => exact reach_start hr
  | next R s hR _ ha hs hn ih => exact reach_next hr hR (by rw [keepR, ih, ha]; rfl) hs hn

section
variable {g r : Gram} {p q : List Bool} {o : List Int}

theorem Red.der (h : Red g p q o r) {x : Int} (hd : Der g x) : x ∈ o → Der r (numO o x) := by
  induction hd with
  | mk R hR hsub ih =>
    intro hx
    obtain ⟨R1, hR1, hk1, e1⟩ := h.from_ _ hx
    have hk : keepR p q R = true := by
      rw [keepR, Bool.and_eq_true] at hk1 ⊢
      refine ⟨by rw [← e1]; exact hk1.1, ?_⟩
      rw [h.pe]
      exact allG_iff.2 fun s hs hn => grown_of_der h.right (hsub s hs hn)
    have hin := (h.kept R hR hk).2
    have hm : redRule (numO o) R ∈ r.rules := by rw [h.rules]; exact List.mem_map.2 ⟨R, List.mem_filter.2 ⟨hR, hk⟩, rfl⟩
    refine Der.mk (redRule (numO o) R) hm fun s' hs' hn' => ?_
    simp only [redRule, List.mem_map] at hs'
    obtain ⟨s, hs, rfl⟩ := hs'
    by_cases hn : s < 0
    · rw [if_pos hn]
      have := ih s hs hn (hin s hs hn)
      rwa [show -1 - (-1 - numO o (-1 - s)) = numO o (-1 - s) by omega]
    · rw [if_neg hn] at hn'; omega

theorem Red.all_p (h : Red g p q o r) {x : Int} (hx : x ∈ o) : (grown09 r true).getD (numO o x).toNat false = true := by
  obtain ⟨R, hR, hk, rfl⟩ := h.from_ _ hx
  rw [keepR, Bool.and_eq_true, h.pe] at hk
  have h1 := grown_closed h.right hR hk.2
  have h2 := der_of_grown h.right _ h1
  have := (h.inside _ hx)
  rw [show ((R.left.toNat : Nat) : Int) = R.left by omega] at h2
  exact grown_of_der h.right_red (h.der h2 hx)

theorem Red.at_ (h : Red g p q o r) {k : Nat} (hk : k < o.length) : ∃ x ∈ o, numO o x = k ∧ o[k]? = some x := ⟨o[k], List.getElem_mem _, numO_at h.nodup (List.getElem?_eq_getElem hk), List.getElem?_eq_getElem hk⟩

theorem Red.grown_all (h : Red g p q o r) {k : Nat} (hk : k < o.length) : (grown09 r true).getD k false = true := by
  obtain ⟨x, hx, h1, _⟩ := h.at_ hk
  have := h.all_p hx
  rwa [h1, Int.toNat_natCast] at this

theorem Red.allG_r (h : Red g p q o r) {R : Rule} (hR : R ∈ r.rules) : allG R.right (grown09 r true) true = true := by
  have hf := right09_fine h.right_red
  refine allG_iff.2 fun s hs hn => h.grown_all ?_
  have := hf.neg hR hs hn
  rw [h.len] at this
  omega

theorem Red.rch (h : Red g p q o r) {x : Int} (hd : Rch g (grown09 g true) x) : Rch r (grown09 r true) (numO o x) := by
  induction hd with
  | start => rw [← h.startE]; exact .start
  | next R s hR h1 ha hs hn ih =>
    have hk : keepR p q R = true := by
      rw [keepR, h.pe, h.qe, ha, reach_of_rch h.right h1]; rfl
    have hm : redRule (numO o) R ∈ r.rules := by rw [h.rules]; exact List.mem_map.2 ⟨R, List.mem_filter.2 ⟨hR, hk⟩, rfl⟩
    have hin := (h.kept R hR hk).2 s hs hn
    have h2 := numO_lt hin
    have := Rch.next (g := r) (p := grown09 r true) (redRule (numO o) R) (-1 - numO o (-1 - s)) hm ih (h.allG_r hm) (by
      simp only [redRule, List.mem_map]
      exact ⟨s, hs, by rw [if_pos hn]⟩) (by omega)
    rwa [show -1 - (-1 - numO o (-1 - s)) = numO o (-1 - s) by omega] at this

theorem Red.reach_all (h : Red g p q o r) {k : Nat} (hk : k < o.length) : (reach09 r).getD k false = true := by
  obtain ⟨x, hx, h1, _⟩ := h.at_ hk
  obtain ⟨R, hR, hkk, rfl⟩ := h.from_ _ hx
  rw [keepR, Bool.and_eq_true, h.qe] at hkk
  have h2 := rch_of_reach h.right _ hkk.1
  have := (h.inside _ hx)
  rw [show ((R.left.toNat : Nat) : Int) = R.left by omega] at h2
  have := reach_of_rch h.right_red (h.rch h2)
  rwa [h1, Int.toNat_natCast] at this

def upTo (n : Nat) : List Int := (List.range n).map fun (k : Nat) => (k : Int)
theorem upTo_len (n : Nat) : (upTo n).length = n := by simp [upTo]
theorem upTo_get {n k : Nat} (h : k < n) : (upTo n)[k]? = some (k : Int) := by simp [upTo, h]
theorem upTo_nodup (n : Nat) : (upTo n).Nodup := by
  rw [upTo, List.nodup_iff_pairwise_ne, List.pairwise_map]
  exact (List.nodup_range (n := n)).imp fun h e => h (by omega)
theorem upTo_num {n : Nat} {x : Int} (h0 : 0 ≤ x) (h1 : x < n) : numO (upTo n) x = x := by
  have := numO_at (upTo_nodup n) (upTo_get (n := n) (k := x.toNat) (by omega))
  rw [show ((x.toNat : Nat) : Int) = x by omega] at this
  exact this

theorem keptI_all {p q : List Bool} : ∀ (l : List Rule) (i : Int), (∀ R ∈ l, keepR p q R = true) → keptI p q l i = (List.range l.length).map fun (k : Nat) => i + (k : Int)
  | [], _, _ => rfl
  | R :: l, i, h => by
    rw [keptI, if_pos (h R (by simp)), keptI_all l (i + 1) (fun x hx => h x (by simp [hx])), List.length_cons, List.range_succ_eq_map, List.map_cons, List.map_map]
    congr 1
    · omega
    · apply List.map_congr_left
      intro k _
      simp only [Function.comp]
      push_cast; omega

theorem foldl_addO_map {f : Int → Int} {o : List Int} (hf : ∀ x ∈ o, ∀ y ∈ o, f x = f y → x = y) : ∀ (l : List Rule) (acc : List Int), (∀ x ∈ acc, x ∈ o) → (∀ R ∈ l, R.left ∈ o) → (l.map (redRule f)).foldl addO (acc.map f) = (l.foldl addO acc).map f
  | [], _, _, _ => rfl
  | R :: l, acc, ha, hl => by
    have e : addO (acc.map f) (redRule f R) = (addO acc R).map f := by
      have h1 : (redRule f R).left = f R.left := rfl
      unfold addO
      rw [h1]
      by_cases h : R.left ∈ acc
      · rw [if_pos h, if_pos (List.mem_map.2 ⟨_, h, rfl⟩)]
      · rw [if_neg h, if_neg (fun hm => by
          obtain ⟨y, hy, e⟩ := List.mem_map.1 hm
          exact h (hf y (ha y hy) _ (hl R (by simp)) e ▸ hy))]
        simp
    rw [List.map_cons, List.foldl_cons, List.foldl_cons, e]
    refine foldl_addO_map hf l (addO acc R) (fun x hx => ?_) (fun x hx => hl x (by simp [hx]))
    unfold addO at hx
    split at hx
    · exact ha x hx
    · rcases List.mem_append.1 hx with hx | hx
      · exact ha x hx
      · simp at hx; subst hx; exact hl R (by simp)

theorem Red.inj (h : Red g p q o r) : ∀ x ∈ o, ∀ y ∈ o, numO o x = numO o y → x = y := by
  intro x hx y hy e
  have h1 := numO_get hx
  have h2 := numO_get hy
  rw [e, h2] at h1
  exact (Option.some.inj h1).symm

theorem Red.map_num (h : Red g p q o r) : o.map (numO o) = upTo o.length := by
  apply List.ext_getElem?
  intro k
  rw [List.getElem?_map]
  by_cases hk : k < o.length
  · rw [upTo_get hk, List.getElem?_eq_getElem hk, Option.map_some, numO_at h.nodup (List.getElem?_eq_getElem hk)]
  · rw [List.getElem?_eq_none (by omega), List.getElem?_eq_none (by rw [upTo_len]; omega)]; rfl

theorem Red.keep_all (h : Red g p q o r) : ∀ R ∈ r.rules, keepR (grown09 r true) (reach09 r) R = true := fun R hR => by
  have hf := right09_fine h.right_red
  have := hf.left R hR
  rw [h.len] at this
  rw [keepR, h.reach_all (by omega), h.allG_r hR]; rfl

theorem Red.ord (h : Red g p q o r) : ordO (grown09 r true) (reach09 r) r.rules = upTo o.length := by
  unfold ordO
  rw [List.filter_eq_self.2 h.keep_all, h.rules]
  have := foldl_addO_map h.inj (g.rules.filter (keepR p q)) [] (by simp) (fun R hR => by
    obtain ⟨h1, h2⟩ := List.mem_filter.1 hR
    exact (h.kept R h1 h2).1)
  rw [List.map_nil] at this
  rw [this, ← h.map_num]
  congr 1
  rw [h.oe]; rfl

/-- What is reduced, is its own reduction. -/
theorem Red.once (h : Red g p q o r) : reduce09 r = (r, upTo r.rules.length, 0) := by
  have hf := right09_fine h.right_red
  have hst := hf.start
  have hst0 := hf.start0
  rw [h.len] at hst
  rw [reduce09_pos h.right_red, if_pos (h.grown_all (by omega)), h.ord]
  have hk : keptI (grown09 r true) (reach09 r) r.rules 0 = upTo r.rules.length := by
    rw [keptI_all _ _ h.keep_all]
    unfold upTo
    apply List.map_congr_left
    intro k _; omega
  have hr : redG r (numO (upTo o.length)) (grown09 r true) (reach09 r) = r := by
    unfold redG
    rw [h.ord, List.filter_eq_self.2 h.keep_all]
    have e1 : ((upTo o.length).map fun x => r.nons.getD x.toNat ⟨#[]⟩) = r.nons := by
      apply List.ext_getElem?
      intro k
      rw [List.getElem?_map]
      by_cases hkk : k < o.length
      · rw [upTo_get hkk, Option.map_some]
        simp [List.getD_eq_getElem?_getD, List.getElem?_eq_getElem (show k < r.nons.length by rw [h.len]; omega)]
      · rw [List.getElem?_eq_none (by rw [upTo_len]; omega), List.getElem?_eq_none (by rw [h.len]; omega)]; rfl
    have e2 : r.rules.map (redRule (numO (upTo o.length))) = r.rules := by
      conv => rhs; rw [← List.map_id r.rules]
      apply List.map_congr_left
      intro R hR
      have hl := hf.left R hR
      rw [h.len] at hl
      unfold redRule
      rw [upTo_num hl.1 hl.2]
      have e3 : (R.right.map fun s => if s < 0 then -1 - numO (upTo o.length) (-1 - s) else s) = R.right := by
        conv => rhs; rw [← List.map_id R.right]
        apply List.map_congr_left
        intro s hs
        by_cases hn : s < 0
        · have := hf.neg hR hs hn
          rw [h.len] at this
          rw [if_pos hn, upTo_num (by omega) this]
          simp only [id]; omega
        · rw [if_neg hn]; rfl
      rw [e3]; rfl
    rw [e1, e2, upTo_num hst0 hst]
  rw [hr, hk]

/-- The places of the rules that are left: they rise. -/
theorem keptI_rise (p q : List Bool) : ∀ (l : List Rule) (i : Int), (∀ x ∈ keptI p q l i, i ≤ x) ∧ (keptI p q l i).Pairwise (· < ·)
  | [], i => by simp [keptI]
  | R :: l, i => by
    obtain ⟨h1, h2⟩ := keptI_rise p q l (i + 1)
    rw [keptI]
    split
    · refine ⟨fun x hx => ?_, List.pairwise_cons.2 ⟨fun x hx => ?_, h2⟩⟩
      · rcases List.mem_cons.1 hx with rfl | hx
        · omega
        · have := h1 x hx; omega
      · have := h1 x hx; omega
    · exact ⟨fun x hx => by have := h1 x hx; omega, h2⟩

end
end Gv

/-
  What one rule more does.
  Conditions: none.
-/
set_option linter.unusedSimpArgs false
namespace Gv
open Go Go.Proofs

def moreG (g : Gram) (R : Rule) : Gram := ⟨g.terms, g.nons, g.rules ++ [R], g.start⟩

theorem rulesL_same {g r : Gram} (h1 : r.terms = g.terms) (h2 : r.nons = g.nons) : ∀ (l : List Rule) (top : Int), rulesL r l top = rulesL g l top
  | [], top => by simp only [rulesL, h2]
  | x :: l, top => by
    have e : ruleB r x = ruleB g x := by
      simp only [ruleB, h1]
      congr 2
      funext s
      simp only [symB, hasG, h1, h2]
    simp only [rulesL, e, rulesL_same h1 h2 l]

theorem rulesL_more {g : Gram} {R : Rule} (h0 : 0 ≤ R.left) (h1 : R.left < g.nons.length) (hb : ruleB g R = true) : ∀ (l : List Rule) (top : Int), rulesL g l top = true → rulesL g (l ++ [R]) top = true
  | [], top, h => by
    simp only [rulesL, beq_iff_eq] at h
    simp only [List.nil_append, rulesL, Bool.and_eq_true, decide_eq_true_eq, beq_iff_eq]
    refine ⟨⟨⟨h0, by omega⟩, hb⟩, ?_⟩
    rw [if_neg (by omega)]; exact h
  | x :: l, top, h => by
    simp only [rulesL, Bool.and_eq_true] at h
    simp only [List.cons_append, rulesL, Bool.and_eq_true]
    exact ⟨h.1, rulesL_more h0 h1 hb l _ h.2⟩

theorem nonsL_same {g r : Gram} (h1 : r.terms = g.terms) (h2 : r.nons = g.nons) : ∀ (l : List ByteArray) (i : Int), nonsL r l i = nonsL g l i
  | [], _ => rfl
  | s :: l, i => by
    have e : nonB r i s = nonB g i s := by unfold nonB nonI termI; rw [h1, h2]
    simp only [nonsL, nonsL_same h1 h2 l, e]

theorem more_right {g : Gram} {R : Rule} (hr : right09 g = true) (hl : g.rules.length ≠ 40) (h0 : 0 ≤ R.left) (h1 : R.left < g.nons.length) (hb : ruleB g R = true) : right09 (moreG g R) = true := by
  simp only [right09, terms09, nons09, Bool.and_eq_true, decide_eq_true_eq] at hr ⊢
  obtain ⟨⟨⟨⟨⟨⟨⟨a1, a2⟩, ⟨a3, a4⟩, a5⟩, a6⟩, a7⟩, a8⟩, a9⟩, a10⟩ := hr
  refine ⟨⟨⟨⟨⟨⟨⟨a1, ?_⟩, ⟨a3, a4⟩, ?_⟩, by simp [moreG]⟩, by simp [moreG]; omega⟩, a8⟩, a9⟩, ?_⟩
  · rw [termsL_same (g := g) (r := moreG g R) rfl]; exact a2
  · rw [nonsL_same (g := g) (r := moreG g R) rfl rfl]; exact a5
  · rw [rulesL_same (g := g) (r := moreG g R) rfl rfl]
    exact rulesL_more h0 h1 hb _ _ a10

/-- Pointwise. -/
def SubB (a b : List Bool) : Prop := ∀ i, a.getD i false = true → b.getD i false = true

theorem grown_least {g : Gram} {t u : Bool} {F : List Bool} (htu : t = true → u = true) (hF : ∀ R ∈ g.rules, allG R.right F u = true → F.getD R.left.toNat false = true) : SubB (grown09 g t) F := by
  have hall : ∀ (is : List Bool) (l : List Int), SubB is F → allG l is t = true → allG l F u = true := by
    intro is l h ha
    simp only [allG, List.all_eq_true] at ha ⊢
    intro s hs
    have := ha s hs
    by_cases h0 : 0 ≤ s
    · rw [if_pos h0] at this ⊢; exact htu this
    · rw [if_neg h0] at this ⊢; exact h _ this
  have hst : ∀ (is : List Bool) (R : Rule), R ∈ g.rules → SubB is F → SubB (step11 t is R) F := by
    intro is R hR h i hi
    unfold step11 at hi
    split at hi
    · rename_i ha
      rcases getD_set hi with rfl | hi
      · exact hF R hR (hall is _ h ha)
      · exact h i hi
    · exact h i hi
  have hfold : ∀ (l : List Rule) (is : List Bool), (∀ R ∈ l, R ∈ g.rules) → SubB is F → SubB (l.foldl (step11 t) is) F := by
    intro l
    induction l with
    | nil => intro is _ h; exact h
    | cons R l ih => intro is hl h; exact ih _ (fun x hx => hl x (by simp [hx])) (hst is R (hl R (by simp)) h)
  have hit : ∀ (n : Nat) (is : List Bool), SubB is F → SubB (iter (round11 g t) n is) F := by
    intro n
    induction n with
    | zero => intro is h; exact h
    | succ n ih => intro is h; exact ih _ (hfold g.rules is (fun _ h => h) h)
  unfold grown09
  split
  · exact hit _ _ fun i hi => by rw [none_false] at hi; simp at hi
  · intro i hi; simp at hi

theorem more_grown {g : Gram} {R : Rule} (hr : right09 (moreG g R) = true) (t : Bool) : SubB (grown09 g t) (grown09 (moreG g R) t) :=
  grown_least id fun S hS ha => grown_closed hr (by simp only [moreG, List.mem_append]; exact .inl hS) ha

theorem null_prod {g : Gram} (hr : right09 g = true) : SubB (grown09 g false) (grown09 g true) :=
  grown_least (fun h => by simp at h) fun S hS ha => grown_closed hr hS ha

theorem more_reach {g : Gram} {R : Rule} (hr : right09 g = true) (hm : right09 (moreG g R) = true) : SubB (reach09 g) (reach09 (moreG g R)) := by
  intro i hi
  have h := rch_of_reach hr i hi
  have key : ∀ x, Rch g (grown09 g true) x → (reach09 (moreG g R)).getD x.toNat false = true := by
    intro x hx
    induction hx with
    | start => exact reach_start hm
    | next S s hS _ ha hs hn ih =>
      refine reach_next hm (r := S) (by simp only [moreG, List.mem_append]; exact .inl hS) ?_ hs hn
      rw [keepR, ih, allG_iff.2 fun s' hs' hn' => more_grown hm true _ (allG_iff.1 ha s' hs' hn')]
      rfl
  have := key _ h
  simpa using this

end Gv

/-
  A copy of a grammar, owned; the law on one rule more.
  Conditions: lists that are no longer than an int says, numbers that are ints.
-/
set_option linter.unusedSimpArgs false
set_option maxRecDepth 100000
namespace Gv
open Go Go.Proofs

theorem FrN.fr {h : Heap} {v t : V} (f : FrN h v t) : Fr h v t := by
  induction f with
  | val v => exact .tree _ (.val _)
  | emp k => exact .emp k
  | sl id off len esz z es es' h1 h2 h3 h4 _ ih => exact .sl id off len esz z es es' h1 h2 h3 h4 ih
  | agg cs cs' h1 _ ih => exact .agg cs cs' h1 ih
  | tup cs cs' h1 _ ih => exact .tup cs cs' h1 ih

/-- What holds between two rules. -/
def CopL (g : Gram) (L : List Ent) (b1 b2 : Nat) (u0 u1 : V) (i : Nat) (T : Env) (H : View) : Prop :=
  (∃ (u2 : V) (bs : Built), T 3 = u2 ∧ bs.map (·.2) = g.rules.take i ∧
    Owns H ((u2, 3, builtE bs) :: (.sl b1 0 1 4, 4, [[u0, u1, .fro (g.rules.map encR), gi g.start]]) :: (u0, 3, g.terms.map encT) :: (u1, 1, strsE g.nons) :: (.sl b2 0 1 4, 4, [[.emp 1, .emp 1, .emp 1, gi 0]]) :: (builtL bs ++ L))) ∧
  T 1 = .ptr b1 0 0 ∧ T 2 = .ptr b2 0 0 ∧ T 4 = gi i

set_option maxHeartbeats 4000000 in
theorem mo_Copy09 (g : Gram) (hs : g.Slim) (H : View) (L : List Ent) (hL : Owns H L) : MCall Tryz.prog 23 [.agg (encG g)] H fun r H' =>
    ∃ (u0 u1 u2 : V) (bs : Built), r = .agg [u0, u1, u2, gi g.start] ∧ bs.map (·.2) = g.rules ∧ Owns H' ((u2, 3, builtE bs) :: (u0, 3, g.terms.map encT) :: (u1, 1, strsE g.nons) :: (builtL bs ++ L)) := by
  refine MCall.of mixed S_gerundref09_Copy_ok ?_
  have z1 := hs.terms
  have z2 := hs.nons
  have z3 := hs.rules
  simp (disch := omega) only [↓wr, ↓reduceIte, wq, eq_self, ne_eq, implies_true, oneV, intOp, goI, splice, sBuild, fillE, nilB, isNil, Nat.reduceEqDiff, Nat.reduceAdd, Nat.reduceLT, Nat.reduceLeDiff, Int.reduceNeg, Int.reduceToNat, reduceCtorEq, decide_true, decide_false, S_gerundref09_Copy, encG, encS]
  intro b1 hb1
  have o1 := hL.new hb1 4 [[.fro (g.terms.map encT), .fro (g.nons.map fun s => [gs s]), .fro (g.rules.map encR), gi g.start]]
  try simp (disch := omega) only [↓wr, ↓reduceIte, wq, eq_self, ne_eq, implies_true, oneV, intOp, goI, splice, sBuild, fillE, nilB, isNil, Nat.reduceEqDiff, Nat.reduceAdd, Nat.reduceLT, Nat.reduceLeDiff, Int.reduceNeg, Int.reduceToNat, reduceCtorEq, decide_true, decide_false, encG, encS]
  intro b2 hb2
  have o2 := (o1.new hb2 4 [[.emp 1, .emp 1, .emp 1, gi 0]]).perm (.swap _ _ _)
  have d21 := (dead_if hb2 arr_live).1
  try simp (disch := omega) only [↓wr, ↓reduceIte, wq, eq_self, ne_eq, implies_true, oneV, intOp, goI, splice, sBuild, fillE, nilB, isNil, Nat.reduceEqDiff, Nat.reduceAdd, Nat.reduceLT, Nat.reduceLeDiff, Int.reduceNeg, Int.reduceToNat, reduceCtorEq, decide_true, decide_false, encG, encS, d21, d21.symm]
  refine goApp_owns (o2.emp (k := 2) (sz := 3)) (by simp [cellOk, encT]) (by unfold limit; simp; omega) (by unfold limit; simp; omega) ?_
  intro u0 H1 o3 _
  have c0 := o3.head.cells
  have k0 := o3.head.cok
  have f1 := o3.is 1 rfl (by simp)
  simp (disch := omega) only [↓wr, ↓reduceIte, wq, eq_self, ne_eq, implies_true, oneV, intOp, goI, splice, sBuild, fillE, nilB, isNil, Nat.reduceEqDiff, Nat.reduceAdd, Nat.reduceLT, Nat.reduceLeDiff, Int.reduceNeg, Int.reduceToNat, reduceCtorEq, decide_true, decide_false, encG, encS, c0, k0, f1]
  have o4 := (o3.at 1 (by simp)).put (es' := [[u0, .fro (g.nons.map fun s => [gs s]), .fro (g.rules.map encR), gi g.start]]) rfl rfl
  simp only [List.nil_append, List.eraseIdx_cons_succ, List.eraseIdx_cons_zero] at o4
  refine goApp_owns (o4.emp (k := 2) (sz := 1)) (by simp [cellOk]) (by unfold limit; simp; omega) (by unfold limit; simp; omega) ?_
  intro u1 H2 o5 _
  have c1 := o5.head.cells
  have k1 := o5.head.cok
  have f2 := o5.is 1 rfl (by simp)
  simp (disch := omega) only [↓wr, ↓reduceIte, wq, eq_self, ne_eq, implies_true, oneV, intOp, goI, splice, sBuild, fillE, nilB, isNil, Nat.reduceEqDiff, Nat.reduceAdd, Nat.reduceLT, Nat.reduceLeDiff, Int.reduceNeg, Int.reduceToNat, reduceCtorEq, decide_true, decide_false, encG, encS, c1, k1, f2]
  have o6 := (o5.at 1 (by simp)).put (es' := [[u0, u1, .fro (g.rules.map encR), gi g.start]]) rfl rfl
  simp only [List.nil_append, List.eraseIdx_cons_succ, List.eraseIdx_cons_zero] at o6
  have o7 : Owns _ ((.emp 1, 3, builtE []) :: (.sl b1 0 1 4, 4, [[u0, u1, .fro (g.rules.map encR), gi g.start]]) :: (u0, 3, g.terms.map encT) :: (u1, 1, strsE g.nons) :: (.sl b2 0 1 4, 4, [[.emp 1, .emp 1, .emp 1, gi 0]]) :: (builtL [] ++ L)) :=
    (o6.perm (.cons _ (.swap _ _ _))).emp (k := 1) (sz := 3)
  clear o1 o2 o3 o4 o5 o6 hb2 f1 f2
  refine LoopG.up g.rules.length (CopL g L b1 b2 u0 u1) ⟨⟨.emp 1, [], rfl, by simp, o7⟩, rfl, rfl, rfl⟩ ?_
  clear o7
  rintro i k T H hk ⟨⟨u2, bs, t3, hbs, ho⟩, t1, t2, t4⟩
  have f1 := ho.is 1 rfl (by simp)
  simp (disch := omega) only [↓wr, ↓reduceIte, wq, eq_self, ne_eq, implies_true, oneV, intOp, goI, splice, sBuild, fillE, nilB, isNil, Nat.reduceEqDiff, Nat.reduceAdd, Nat.reduceLT, Nat.reduceLeDiff, Int.reduceNeg, Int.reduceToNat, reduceCtorEq, decide_true, decide_false, B_gerundref09_Copy_0, t1, t2, t3, t4, f1]
  refine GoB.dec (fun hc => ?_) (fun hc => ?_)
  · have hg2 : g.rules[i]? = some (g.rules[i]'(by omega)) := List.getElem?_eq_getElem (by omega)
    have hmem : g.rules[i]'(by omega) ∈ g.rules := List.getElem_mem _
    have htk : g.rules.take (i + 1) = g.rules.take i ++ [g.rules[i]'(by omega)] := by rw [List.take_add_one, hg2]; rfl
    generalize g.rules[i]'(by omega) = r at hg2 hmem htk
    have hr := hs.right r hmem
    simp (disch := omega) only [↓wr, ↓reduceIte, wq, eq_self, ne_eq, implies_true, oneV, intOp, goI, splice, sBuild, fillE, nilB, isNil, Nat.reduceEqDiff, Nat.reduceAdd, Nat.reduceLT, Nat.reduceLeDiff, Int.reduceNeg, Int.reduceToNat, reduceCtorEq, decide_true, decide_false, t1, t2, t3, t4, f1, List.getElem?_map, hg2, encR, encI]
    intro n hn
    have o1 := ho.new hn 3 [encR r]
    try simp (disch := omega) only [↓wr, ↓reduceIte, wq, eq_self, ne_eq, implies_true, oneV, intOp, goI, splice, sBuild, fillE, nilB, isNil, Nat.reduceEqDiff, Nat.reduceAdd, Nat.reduceLT, Nat.reduceLeDiff, Int.reduceNeg, Int.reduceToNat, reduceCtorEq, decide_true, decide_false, t1, t2, t3, t4, set_set]
    refine CallG.loud ((mo_Copy03 r.right (by omega) _).mono ?_)
    rintro v H1 ⟨hv, hfr⟩
    have o2 := Owns.come (H := H.set n (.arr 3 [encR r])) o1 hv (by rw [set_set] at hfr; exact hfr)
    have cv := hv.cells
    have kv := hv.cok
    have f5 := o2.is 1 rfl (by simp)
    simp only [encR, encI] at f5
    simp (disch := omega) only [↓wr, ↓reduceIte, wq, eq_self, ne_eq, implies_true, oneV, intOp, goI, splice, sBuild, fillE, nilB, isNil, Nat.reduceEqDiff, Nat.reduceAdd, Nat.reduceLT, Nat.reduceLeDiff, Int.reduceNeg, Int.reduceToNat, reduceCtorEq, decide_true, decide_false, t1, t2, t3, t4, f5, cv, kv]
    have o3 := (o2.at 1 (by simp)).put (es' := [[gi r.left, v, gi r.prec]]) rfl rfl
    simp only [List.eraseIdx_cons_succ, List.eraseIdx_cons_zero] at o3
    intro m hm
    try simp (disch := omega) only [↓wr, ↓reduceIte, wq, eq_self, ne_eq, implies_true, oneV, intOp, goI, splice, sBuild, fillE, nilB, isNil, Nat.reduceEqDiff, Nat.reduceAdd, Nat.reduceLT, Nat.reduceLeDiff, Int.reduceNeg, Int.reduceToNat, reduceCtorEq, decide_true, decide_false, t1, t2, t3, t4, cv, kv, elemsOf_new]
    have hbl : (builtE bs).length ≤ 60 := by
      have h1 := congrArg List.length hbs
      simp only [List.length_map, List.length_take] at h1
      simp only [builtE, List.length_map]
      omega
    have o4 := (o3.fresh (o := .arr 3 [[gi r.left, v, gi r.prec]]) hm).at 2 (by simp)
    refine goApp_owns o4 (by simp [cok_val, kv]) (by unfold limit; simp at hbl ⊢; omega) (by unfold limit; simp at hbl ⊢; omega) ?_
    intro u2' H4 o5 _
    simp (disch := omega) only [↓wr, ↓reduceIte, wq, eq_self, ne_eq, implies_true, oneV, intOp, goI, splice, sBuild, fillE, nilB, isNil, Nat.reduceEqDiff, Nat.reduceAdd, Nat.reduceLT, Nat.reduceLeDiff, Int.reduceNeg, Int.reduceToNat, reduceCtorEq, decide_true, decide_false, t1, t2, t3, t4]
    refine up_next hk (by omega) ⟨⟨u2', bs ++ [(v, r)], rfl, ?_, ?_⟩, t1, t2, rfl⟩
    · rw [List.map_append, hbs, htk]; rfl
    · have o6 := ((o5.at 1 (by simp)).tail).perm (.refl _)
      simp only [List.eraseIdx_cons_succ, List.eraseIdx_cons_zero] at o6
      refine o6.perm ?_
      simp only [builtE, builtL, List.map_append, List.map_cons, List.map_nil, List.append_assoc, List.cons_append, List.nil_append]
      exact .cons _ (List.perm_middle (a := ((v, 1, intsE r.right) : Ent)) (l₁ := ((.sl b1 0 1 4, 4, [[u0, u1, .fro (g.rules.map encR), gi g.start]]) :: (u0, 3, g.terms.map encT) :: (u1, 1, strsE g.nons) :: (.sl b2 0 1 4, 4, [[.emp 1, .emp 1, .emp 1, gi 0]]) :: builtL bs)) (l₂ := L)).symm
  · rw [List.take_of_length_le (by omega)] at hbs
    have f2 := ho.is 4 rfl (by simp)
    have c0 := (ho.own 2 rfl).cells
    have k0 := (ho.own 2 rfl).cok
    have c1 := (ho.own 3 rfl).cells
    have k1 := (ho.own 3 rfl).cok
    have c2 := (ho.own 0 rfl).cells
    have k2 := (ho.own 0 rfl).cok
    simp (disch := omega) only [↓wr, ↓reduceIte, wq, eq_self, ne_eq, implies_true, oneV, intOp, goI, splice, sBuild, fillE, nilB, isNil, Nat.reduceEqDiff, Nat.reduceAdd, Nat.reduceLT, Nat.reduceLeDiff, Int.reduceNeg, Int.reduceToNat, reduceCtorEq, decide_true, decide_false, t1, t2, t3, t4, f1, f2, c0, k0, c1, k1, c2, k2, d21, d21.symm]
    have o1 := (ho.at 1 (by simp)).put (es' := [[u0, u1, u2, gi g.start]]) rfl rfl
    simp only [List.eraseIdx_cons_succ, List.eraseIdx_cons_zero] at o1
    have o2 := (o1.at 4 (by simp)).put (es' := [[u0, u1, u2, gi g.start]]) rfl rfl
    simp only [List.eraseIdx_cons_succ, List.eraseIdx_cons_zero] at o2
    refine ⟨u0, u1, u2, bs, rfl, hbs, ?_⟩
    exact o2.tail.tail

def precL (l : List Int) : Int := l.foldl max (-1)
theorem precL_snoc (l : List Int) (s : Int) : precL (l ++ [s]) = max (precL l) s := by simp [precL, List.foldl_append]
theorem precL_low (l : List Int) : -1 ≤ precL l := by
  have : ∀ (l : List Int) (a : Int), a ≤ l.foldl max a := by
    intro l
    induction l with
    | nil => intro a; exact Int.le_refl _
    | cons s l ih => intro a; have := ih (max a s); simp only [List.foldl_cons]; omega
  exact this l (-1)
theorem precL_all (l : List Int) : ∀ s ∈ l, s ≤ precL l := by
  have : ∀ (l : List Int) (a : Int), (a ≤ l.foldl max a) ∧ ∀ s ∈ l, s ≤ l.foldl max a := by
    intro l
    induction l with
    | nil => intro a; exact ⟨Int.le_refl _, fun s hs => by simp at hs⟩
    | cons x l ih =>
      intro a
      obtain ⟨h1, h2⟩ := ih (max a x)
      simp only [List.foldl_cons]
      refine ⟨by omega, fun s hs => ?_⟩
      rcases List.mem_cons.1 hs with rfl | hs
      · omega
      · exact h2 s hs
  exact (this l (-1)).2
theorem precL_up {n : Int} (hn : -1 < n) : ∀ (l : List Int), (∀ s ∈ l, s < n) → precL l < n := by
  have : ∀ (l : List Int) (a : Int), a < n → (∀ s ∈ l, s < n) → l.foldl max a < n := by
    intro l
    induction l with
    | nil => intro a h _; exact h
    | cons x l ih =>
      intro a h hs
      simp only [List.foldl_cons]
      exact ih _ (by have := hs x (by simp); omega) (fun s h => hs s (by simp [h]))
  exact fun l hs => this l (-1) hn hs

/-- What holds between two symbols of the rule that is added. -/
def MoreI (g : Gram) (right : List Int) (left : Int) (n7 : Nat) (i : Nat) (T : Env) (H : View) : Prop :=
  (∃ v : V, Owns H [(.sl n7 0 1 3, 3, [[gi left, v, gi (precL (right.take i))]]), (v, 1, intsE (right.take i))]) ∧ (∀ s ∈ right.take i, hasG g s = true) ∧
  T 2 = encI right ∧ T 3 = .fptr (encG g) 0 ∧ T 7 = .ptr n7 0 0 ∧ T 8 = gi i

def B_gerundlaw11_TrimMore_0 : SC :=
  .seq (.seq (.region false [⟨none, [((some 44), .op (.mov (.tmp 8))), ((some 45), .op (.mov (.tmp 2))), ((some 46), .op (.len (.tmp 45))), ((some 47), .op (.arith .lss (.tmp 44) (.tmp 46)))]⟩]) <|
  .cond (.tmp 47) (.skip) (.exit 0)) <|
  .seq (.block 1 (.seq (.seq (.region false [⟨none, [((some 50), .op (.load (some 4) (.tmp 3))), ((some 51), .op (.mov (.tmp 2))), ((some 52), .op (.mov (.tmp 8))), ((some 53), .op (.idx 1 (.tmp 51) (.tmp 52))), ((some 54), .op (.load none (.tmp 53))), ((some 55), .call (.val (.fn 30 [] [])) [(.tmp 50), (.tmp 54)]), ((some 56), .op (.not (.tmp 55)))]⟩]) <|
  .cond (.tmp 56) (.seq (.region false [⟨none, [((some 6), .op (.mov (.val (.val (.bool true)))))]⟩]) <|
  .ret) (.skip)) <|
  .seq (.region false [⟨none, [((some 57), .op (.addr 1 (.tmp 7))), ((some 58), .op (.load none (.tmp 57))), ((some 59), .op (.mov (.tmp 2))), ((some 60), .op (.mov (.tmp 8))), ((some 61), .op (.idx 1 (.tmp 59) (.tmp 60))), ((some 62), .op (.load none (.tmp 61))), ((some 63), .op (.bslice 1 1 [(.val (.int .i64 0))] [(0, (.tmp 62))])), ((some 64), .op (.app 1 8 (.tmp 58) (.tmp 63))), ((some 65), .op (.addr 1 (.tmp 7))), (none, .op (.store 1 (.tmp 65) (.tmp 64)))]⟩]) <|
  .region false [⟨none, [((some 66), .op (.addr 2 (.tmp 7))), ((some 67), .op (.load none (.tmp 66))), ((some 68), .op (.mov (.tmp 2))), ((some 69), .op (.mov (.tmp 8))), ((some 70), .op (.idx 1 (.tmp 68) (.tmp 69))), ((some 71), .op (.load none (.tmp 70))), ((some 72), .op (.mm true (.tmp 67) (.tmp 71))), ((some 73), .op (.addr 2 (.tmp 7))), (none, .op (.store 1 (.tmp 73) (.tmp 72)))]⟩])) <|
  .region false [⟨none, [((some 48), .op (.mov (.tmp 8))), ((some 49), .op (.arith .add (.tmp 48) (.val (.val (.int .i64 1))))), ((some 8), .op (.mov (.tmp 49)))]⟩]
def B_gerundlaw11_TrimMore_1 : SC :=
  .seq (.seq (.region false [⟨none, [((some 135), .op (.mov (.tmp 16))), ((some 136), .op (.mov (.tmp 10))), ((some 137), .op (.len (.tmp 136))), ((some 138), .op (.arith .lss (.tmp 135) (.tmp 137)))]⟩]) <|
  .cond (.tmp 138) (.skip) (.exit 2)) <|
  .seq (.block 3 (.seq (.region false [⟨none, [((some 141), .op (.mov (.tmp 10))), ((some 142), .op (.mov (.tmp 16))), ((some 143), .op (.idx 1 (.tmp 141) (.tmp 142))), ((some 144), .op (.load none (.tmp 143))), ((some 145), .op (.mov (.tmp 144)))]⟩, ⟨(some (145, true)), [((some 146), .op (.mov (.tmp 11))), ((some 147), .op (.mov (.tmp 16))), ((some 148), .op (.idx 1 (.tmp 146) (.tmp 147))), ((some 149), .op (.load none (.tmp 148))), ((some 150), .op (.not (.tmp 149)))]⟩, ⟨none, [((some 151), .op (.pick (.tmp 145) (.tmp 150) (.val (.val (.bool false))))), ((some 152), .op (.mov (.tmp 151)))]⟩, ⟨(some (152, false)), [((some 153), .op (.mov (.tmp 12))), ((some 154), .op (.mov (.tmp 16))), ((some 155), .op (.idx 1 (.tmp 153) (.tmp 154))), ((some 156), .op (.load none (.tmp 155))), ((some 157), .op (.mov (.tmp 156)))]⟩, ⟨(some (157, true)), [((some 158), .op (.mov (.tmp 13))), ((some 159), .op (.mov (.tmp 16))), ((some 160), .op (.idx 1 (.tmp 158) (.tmp 159))), ((some 161), .op (.load none (.tmp 160))), ((some 162), .op (.not (.tmp 161)))]⟩, ⟨(some (152, false)), [((some 163), .op (.pick (.tmp 157) (.tmp 162) (.val (.val (.bool false)))))]⟩, ⟨none, [((some 164), .op (.pick (.tmp 152) (.val (.val (.bool true))) (.tmp 163))), ((some 165), .op (.mov (.tmp 164)))]⟩, ⟨(some (165, false)), [((some 166), .op (.mov (.tmp 14))), ((some 167), .op (.mov (.tmp 16))), ((some 168), .op (.idx 1 (.tmp 166) (.tmp 167))), ((some 169), .op (.load none (.tmp 168))), ((some 170), .op (.mov (.tmp 169)))]⟩, ⟨(some (170, true)), [((some 171), .op (.mov (.tmp 15))), ((some 172), .op (.mov (.tmp 16))), ((some 173), .op (.idx 1 (.tmp 171) (.tmp 172))), ((some 174), .op (.load none (.tmp 173))), ((some 175), .op (.not (.tmp 174)))]⟩, ⟨(some (165, false)), [((some 176), .op (.pick (.tmp 170) (.tmp 175) (.val (.val (.bool false)))))]⟩, ⟨none, [((some 177), .op (.pick (.tmp 165) (.val (.val (.bool true))) (.tmp 176))), ((some 178), .op (.mov (.tmp 177)))]⟩, ⟨(some (178, false)), [((some 179), .op (.mov (.tmp 10))), ((some 180), .op (.mov (.tmp 16))), ((some 181), .op (.idx 1 (.tmp 179) (.tmp 180))), ((some 182), .op (.load none (.tmp 181))), ((some 183), .op (.mov (.tmp 182)))]⟩, ⟨(some (183, true)), [((some 184), .op (.mov (.tmp 12))), ((some 185), .op (.mov (.tmp 16))), ((some 186), .op (.idx 1 (.tmp 184) (.tmp 185))), ((some 187), .op (.load none (.tmp 186))), ((some 188), .op (.not (.tmp 187)))]⟩, ⟨(some (178, false)), [((some 189), .op (.pick (.tmp 183) (.tmp 188) (.val (.val (.bool false)))))]⟩, ⟨none, [((some 190), .op (.pick (.tmp 178) (.val (.val (.bool true))) (.tmp 189)))]⟩]) <|
  .cond (.tmp 190) (.seq (.region false [⟨none, [((some 6), .op (.mov (.val (.val (.bool false)))))]⟩]) <|
  .ret) (.skip))) <|
  .region false [⟨none, [((some 139), .op (.mov (.tmp 16))), ((some 140), .op (.arith .add (.tmp 139) (.val (.val (.int .i64 1))))), ((some 16), .op (.mov (.tmp 140)))]⟩]
def S_gerundlaw11_TrimMore : SF := ⟨.seq (.region false [⟨none, [((some 3), .op (.frz (.tmp 0))), ((some 6), .op (.mov (.val (.val (.bool false)))))]⟩]) <|
  .seq (.seq (.region false [⟨none, [((some 17), .call (.val (.fn 12 [] [])) []), ((some 18), .op (.not (.tmp 17)))]⟩]) <|
  .cond (.tmp 18) (.seq (.region false [⟨none, [((some 6), .op (.mov (.val (.val (.bool false)))))]⟩]) <|
  .ret) (.skip)) <|
  .seq (.seq (.region false [⟨none, [((some 19), .op (.load (some 4) (.tmp 3))), ((some 20), .call (.val (.fn 13 [] [])) [(.tmp 19)]), ((some 21), .op (.mov (.tmp 20)))]⟩, ⟨(some (21, false)), [((some 22), .op (.load (some 4) (.tmp 3))), ((some 23), .call (.val (.fn 28 [] [])) [(.tmp 22)]), ((some 24), .op (.not (.tmp 23)))]⟩, ⟨none, [((some 25), .op (.pick (.tmp 21) (.val (.val (.bool true))) (.tmp 24))), ((some 26), .op (.mov (.tmp 25)))]⟩, ⟨(some (26, false)), [((some 27), .op (.addr 2 (.tmp 3))), ((some 28), .op (.load none (.tmp 27))), ((some 29), .op (.len (.tmp 28))), ((some 30), .op (.arith .eql (.tmp 29) (.val (.val (.int .i64 40)))))]⟩, ⟨none, [((some 31), .op (.pick (.tmp 26) (.val (.val (.bool true))) (.tmp 30))), ((some 32), .op (.mov (.tmp 31)))]⟩, ⟨(some (32, false)), [((some 33), .op (.mov (.tmp 2))), ((some 34), .op (.len (.tmp 33))), ((some 35), .op (.arith .gtr (.tmp 34) (.val (.val (.int .i64 6)))))]⟩, ⟨none, [((some 36), .op (.pick (.tmp 32) (.val (.val (.bool true))) (.tmp 35)))]⟩]) <|
  .cond (.tmp 36) (.seq (.region false [⟨none, [((some 6), .op (.mov (.val (.val (.bool true)))))]⟩]) <|
  .ret) (.skip)) <|
  .seq (.region false [⟨none, [((some 37), .op (.mov (.tmp 1))), ((some 38), .op (.conv .i64 (.tmp 37))), ((some 39), .op (.addr 1 (.tmp 3))), ((some 40), .op (.load none (.tmp 39))), ((some 41), .op (.len (.tmp 40))), ((some 42), .op (.arith .rem (.tmp 38) (.tmp 41))), ((some 43), .op (.build [(.val (.int .i64 0)), (.emp 1), (.val (.int .i64 0))] [(0, 1, (.tmp 42)), (2, 1, (.val (.val (.int .i64 (-1)))))])), ((some 7), .op (.alloc [(.val (.int .i64 0)), (.emp 1), (.val (.int .i64 0))])), (none, .op (.store 3 (.tmp 7) (.tmp 43)))]⟩]) <|
  .seq (.seq (.region false [⟨none, [((some 8), .op (.mov (.val (.val (.int .i64 0)))))]⟩]) <|
  .block 0 (.loop B_gerundlaw11_TrimMore_0)) <|
  .seq (.region false [⟨none, [((some 74), .op (.load (some 4) (.tmp 3))), ((some 75), .call (.val (.fn 23 [] [])) [(.tmp 74)]), ((some 9), .op (.alloc [(.emp 1), (.emp 1), (.emp 1), (.val (.int .i64 0))])), (none, .op (.store 4 (.tmp 9) (.tmp 75)))]⟩]) <|
  .seq (.region false [⟨none, [((some 76), .op (.addr 2 (.tmp 9))), ((some 77), .op (.load none (.tmp 76))), ((some 78), .op (.load (some 3) (.tmp 7))), ((some 79), .op (.bslice 1 3 [(.val (.int .i64 0)), (.emp 1), (.val (.int .i64 0))] [(0, (.tmp 78))])), ((some 80), .op (.app 3 40 (.tmp 77) (.tmp 79))), ((some 81), .op (.addr 2 (.tmp 9))), (none, .op (.store 1 (.tmp 81) (.tmp 80)))]⟩]) <|
  .seq (.region true [⟨none, [((some 82), .op (.load (some 4) (.tmp 3))), ((some 83), .call (.val (.fn 15 [] [])) [(.tmp 82)]), ((some 84), .op (.load (some 4) (.tmp 9))), ((some 85), .call (.val (.fn 15 [] [])) [(.tmp 84)]), ((some 10), .op (.mov (.tmp 83))), ((some 11), .op (.mov (.tmp 85)))]⟩]) <|
  .seq (.region true [⟨none, [((some 86), .op (.load (some 4) (.tmp 3))), ((some 87), .call (.val (.fn 17 [] [])) [(.tmp 86)]), ((some 88), .op (.load (some 4) (.tmp 9))), ((some 89), .call (.val (.fn 17 [] [])) [(.tmp 88)]), ((some 12), .op (.mov (.tmp 87))), ((some 13), .op (.mov (.tmp 89)))]⟩]) <|
  .seq (.region true [⟨none, [((some 90), .op (.load (some 4) (.tmp 3))), ((some 91), .call (.val (.fn 19 [] [])) [(.tmp 90)]), ((some 92), .op (.load (some 4) (.tmp 9))), ((some 93), .call (.val (.fn 19 [] [])) [(.tmp 92)]), ((some 14), .op (.mov (.tmp 91))), ((some 15), .op (.mov (.tmp 93)))]⟩]) <|
  .seq (.seq (.region false [⟨none, [((some 94), .op (.mov (.tmp 10))), ((some 95), .op (.len (.tmp 94))), ((some 96), .op (.addr 1 (.tmp 3))), ((some 97), .op (.load none (.tmp 96))), ((some 98), .op (.len (.tmp 97))), ((some 99), .op (.arith .neq (.tmp 95) (.tmp 98))), ((some 100), .op (.mov (.tmp 99)))]⟩, ⟨(some (100, false)), [((some 101), .op (.mov (.tmp 11))), ((some 102), .op (.len (.tmp 101))), ((some 103), .op (.mov (.tmp 10))), ((some 104), .op (.len (.tmp 103))), ((some 105), .op (.arith .neq (.tmp 102) (.tmp 104)))]⟩, ⟨none, [((some 106), .op (.pick (.tmp 100) (.val (.val (.bool true))) (.tmp 105))), ((some 107), .op (.mov (.tmp 106)))]⟩, ⟨(some (107, false)), [((some 108), .op (.mov (.tmp 12))), ((some 109), .op (.len (.tmp 108))), ((some 110), .op (.mov (.tmp 10))), ((some 111), .op (.len (.tmp 110))), ((some 112), .op (.arith .neq (.tmp 109) (.tmp 111)))]⟩, ⟨none, [((some 113), .op (.pick (.tmp 107) (.val (.val (.bool true))) (.tmp 112))), ((some 114), .op (.mov (.tmp 113)))]⟩, ⟨(some (114, false)), [((some 115), .op (.mov (.tmp 13))), ((some 116), .op (.len (.tmp 115))), ((some 117), .op (.mov (.tmp 10))), ((some 118), .op (.len (.tmp 117))), ((some 119), .op (.arith .neq (.tmp 116) (.tmp 118)))]⟩, ⟨none, [((some 120), .op (.pick (.tmp 114) (.val (.val (.bool true))) (.tmp 119))), ((some 121), .op (.mov (.tmp 120)))]⟩, ⟨(some (121, false)), [((some 122), .op (.mov (.tmp 14))), ((some 123), .op (.len (.tmp 122))), ((some 124), .op (.mov (.tmp 10))), ((some 125), .op (.len (.tmp 124))), ((some 126), .op (.arith .neq (.tmp 123) (.tmp 125)))]⟩, ⟨none, [((some 127), .op (.pick (.tmp 121) (.val (.val (.bool true))) (.tmp 126))), ((some 128), .op (.mov (.tmp 127)))]⟩, ⟨(some (128, false)), [((some 129), .op (.mov (.tmp 15))), ((some 130), .op (.len (.tmp 129))), ((some 131), .op (.mov (.tmp 10))), ((some 132), .op (.len (.tmp 131))), ((some 133), .op (.arith .neq (.tmp 130) (.tmp 132)))]⟩, ⟨none, [((some 134), .op (.pick (.tmp 128) (.val (.val (.bool true))) (.tmp 133)))]⟩]) <|
  .cond (.tmp 134) (.seq (.region false [⟨none, [((some 6), .op (.mov (.val (.val (.bool false)))))]⟩]) <|
  .ret) (.skip)) <|
  .seq (.seq (.region false [⟨none, [((some 16), .op (.mov (.val (.val (.int .i64 0)))))]⟩]) <|
  .block 2 (.loop B_gerundlaw11_TrimMore_1)) <|
  .seq (.region false [⟨none, [((some 6), .op (.mov (.val (.val (.bool true)))))]⟩]) <|
  .ret,
  [.tmp 6], 191⟩
theorem S_gerundlaw11_TrimMore_ok : compF Tryz.prog 6 [3] = some S_gerundlaw11_TrimMore := by kernel_rfl


theorem more_trees (g : Gram) (n : Int) (right : List Int) : ∀ v ∈ [V.agg (encG g), gy n, encI right], Tree v := by
  intro v hv; simp at hv
  rcases hv with rfl | rfl | rfl
  · exact tree_agg _ (encG_tree g)
  · exact .val _
  · exact encI_tree _

/-- Where what holds without the rule does not hold with it. -/
def MoreJ (a b c d e f : List Bool) (i : Nat) (T : Env) (_ : View) : Prop :=
  T 10 = encB a ∧ T 11 = encB b ∧ T 12 = encB c ∧ T 13 = encB d ∧ T 14 = encB e ∧ T 15 = encB f ∧ T 16 = gi i

theorem sub_at {a b : List Bool} (h : SubB a b) {i : Nat} (ha : i < a.length) (hb : i < b.length) : a[i] = true → b[i] = true := fun e => by
  have := h i (by simp [List.getD_eq_getElem?_getD, List.getElem?_eq_getElem ha, e])
  simpa [List.getD_eq_getElem?_getD, List.getElem?_eq_getElem hb] using this

set_option maxHeartbeats 8000000 in
theorem pc_TrimMore (g : Gram) (hg : g.Ok) (n : Int) (hn0 : 0 ≤ n) (hn1 : n ≤ 255) (right : List Int) (hrs : Short right) (hri : ∀ s ∈ right, In64 s) : PCall Tryz.prog 6 [.agg (encG g), gy n, encI right] (gb true) := by
  refine PCall.val (more_trees g n right) fun H => ?_
  unfold Short at hrs
  refine MCall.of mixed S_gerundlaw11_TrimMore_ok ?_
  simp (disch := omega) only [↓wr, ↓reduceIte, wq, eq_self, ne_eq, implies_true, oneV, intOp, goI, splice, sBuild, fillE, nilB, isNil, Nat.reduceEqDiff, Nat.reduceAdd, Nat.reduceLT, Nat.reduceLeDiff, Int.reduceNeg, Int.reduceToNat, reduceCtorEq, decide_true, decide_false, S_gerundlaw11_TrimMore, encG, encS, encI]
  refine CallG.pure pc_alive (by kernel_rfl) ?_
  simp (disch := omega) only [↓wr, ↓reduceIte, wq, eq_self, ne_eq, implies_true, oneV, intOp, goI, splice, sBuild, fillE, nilB, isNil, Nat.reduceEqDiff, Nat.reduceAdd, Nat.reduceLT, Nat.reduceLeDiff, Int.reduceNeg, Int.reduceToNat, reduceCtorEq, decide_true, decide_false, encG, encS]
  refine CallG.pure (pc_great g) (by kernel_rfl) ?_
  simp (disch := omega) only [↓wr, ↓reduceIte, wq, eq_self, ne_eq, implies_true, oneV, intOp, goI, splice, sBuild, fillE, nilB, isNil, Nat.reduceEqDiff, Nat.reduceAdd, Nat.reduceLT, Nat.reduceLeDiff, Int.reduceNeg, Int.reduceToNat, reduceCtorEq, decide_true, decide_false]
  refine GoB.split (fun e => ?_) (fun e => ?_)
  · simp (disch := omega) only [↓wr, ↓reduceIte, wq, eq_self, ne_eq, implies_true, oneV, intOp, goI, splice, sBuild, fillE, nilB, isNil, Nat.reduceEqDiff, Nat.reduceAdd, Nat.reduceLT, Nat.reduceLeDiff, Int.reduceNeg, Int.reduceToNat, reduceCtorEq, decide_true, decide_false]
  have hs : g.Small := great_small e
  simp (disch := omega) only [↓wr, ↓reduceIte, wq, eq_self, ne_eq, implies_true, oneV, intOp, goI, splice, sBuild, fillE, nilB, isNil, Nat.reduceEqDiff, Nat.reduceAdd, Nat.reduceLT, Nat.reduceLeDiff, Int.reduceNeg, Int.reduceToNat, reduceCtorEq, decide_true, decide_false, encG, encS]
  refine CallG.pure (pc_Right09 g hg) (by kernel_rfl) ?_
  simp (disch := omega) only [↓wr, ↓reduceIte, wq, eq_self, ne_eq, implies_true, oneV, intOp, goI, splice, sBuild, fillE, nilB, isNil, Nat.reduceEqDiff, Nat.reduceAdd, Nat.reduceLT, Nat.reduceLeDiff, Int.reduceNeg, Int.reduceToNat, reduceCtorEq, decide_true, decide_false, encG, encS]
  refine GoB.split (fun hr => ?_) (fun hr => ?_)
  rotate_left
  · simp (disch := omega) only [↓wr, ↓reduceIte, wq, eq_self, ne_eq, implies_true, oneV, intOp, goI, splice, sBuild, fillE, nilB, isNil, Nat.reduceEqDiff, Nat.reduceAdd, Nat.reduceLT, Nat.reduceLeDiff, Int.reduceNeg, Int.reduceToNat, reduceCtorEq, decide_true, decide_false]
  have hf := right09_fine hr
  have z1 := hf.nons
  have z2 := hf.nons1
  have z3 := hf.rules
  have z4 := hf.terms
  simp (disch := omega) only [↓wr, ↓reduceIte, wq, eq_self, ne_eq, implies_true, oneV, intOp, goI, splice, sBuild, fillE, nilB, isNil, Nat.reduceEqDiff, Nat.reduceAdd, Nat.reduceLT, Nat.reduceLeDiff, Int.reduceNeg, Int.reduceToNat, reduceCtorEq, decide_true, decide_false, encG, encS, List.length_map]
  refine GoB.eq (fun h40 => ?_) (fun h40 => ?_)
  · simp (disch := omega) only [↓wr, ↓reduceIte, wq, eq_self, ne_eq, implies_true, oneV, intOp, goI, splice, sBuild, fillE, nilB, isNil, Nat.reduceEqDiff, Nat.reduceAdd, Nat.reduceLT, Nat.reduceLeDiff, Int.reduceNeg, Int.reduceToNat, reduceCtorEq, decide_true, decide_false]
  simp (disch := omega) only [↓wr, ↓reduceIte, wq, eq_self, ne_eq, implies_true, oneV, intOp, goI, splice, sBuild, fillE, nilB, isNil, Nat.reduceEqDiff, Nat.reduceAdd, Nat.reduceLT, Nat.reduceLeDiff, Int.reduceNeg, Int.reduceToNat, reduceCtorEq, decide_true, decide_false, encG, encS, List.length_map]
  refine GoB.dec (fun h6 => ?_) (fun h6 => ?_)
  · simp (disch := omega) only [↓wr, ↓reduceIte, wq, eq_self, ne_eq, implies_true, oneV, intOp, goI, splice, sBuild, fillE, nilB, isNil, Nat.reduceEqDiff, Nat.reduceAdd, Nat.reduceLT, Nat.reduceLeDiff, Int.reduceNeg, Int.reduceToNat, reduceCtorEq, decide_true, decide_false]
  simp (disch := omega) only [↓wr, ↓reduceIte, wq, eq_self, ne_eq, implies_true, oneV, intOp, goI, splice, sBuild, fillE, nilB, isNil, Nat.reduceEqDiff, Nat.reduceAdd, Nat.reduceLT, Nat.reduceLeDiff, Int.reduceNeg, Int.reduceToNat, reduceCtorEq, decide_true, decide_false, encG, encS, List.length_map]
  rw [if_neg (by omega)]
  have hl0 : 0 ≤ n.tmod g.nons.length := Int.tmod_nonneg _ hn0
  have hl1 : n.tmod g.nons.length < g.nons.length := Int.tmod_lt_of_pos _ (by omega)
  generalize n.tmod g.nons.length = left at hl0 hl1 ⊢
  simp (disch := omega) only [↓wr, ↓reduceIte, wq, eq_self, ne_eq, implies_true, oneV, intOp, goI, splice, sBuild, fillE, nilB, isNil, Nat.reduceEqDiff, Nat.reduceAdd, Nat.reduceLT, Nat.reduceLeDiff, Int.reduceNeg, Int.reduceToNat, reduceCtorEq, decide_true, decide_false, encG, encS]
  intro n7 hn7
  have o1 := (Owns.nil.new hn7 3 [[gi left, .emp 1, gi (-1)]])
  try simp (disch := omega) only [↓wr, ↓reduceIte, wq, eq_self, ne_eq, implies_true, oneV, intOp, goI, splice, sBuild, fillE, nilB, isNil, Nat.reduceEqDiff, Nat.reduceAdd, Nat.reduceLT, Nat.reduceLeDiff, Int.reduceNeg, Int.reduceToNat, reduceCtorEq, decide_true, decide_false, encG, encS]
  refine LoopG.up right.length (MoreI g right left n7) ⟨⟨.emp 1, by
      rw [set_set]
      exact (o1.emp (k := 1) (sz := 1)).perm (.swap _ _ _)⟩, by simp, rfl, rfl, rfl, rfl⟩ ?_
  clear o1 hn7
  rintro i k T H2 hk ⟨⟨v, ho⟩, hhas, t2, t3, t7, t8⟩
  have f7 := ho.is 0 rfl (by simp)
  simp (disch := omega) only [↓wr, ↓reduceIte, wq, eq_self, ne_eq, implies_true, oneV, intOp, goI, splice, sBuild, fillE, nilB, isNil, Nat.reduceEqDiff, Nat.reduceAdd, Nat.reduceLT, Nat.reduceLeDiff, Int.reduceNeg, Int.reduceToNat, reduceCtorEq, decide_true, decide_false, B_gerundlaw11_TrimMore_0, t2, t3, t7, t8, encI, f7, List.length_map]
  refine GoB.dec (fun hc => ?_) (fun hc => ?_)
  · have hg2 : right[i]? = some (right[i]'(by omega)) := List.getElem?_eq_getElem (by omega)
    have hmem : right[i]'(by omega) ∈ right := List.getElem_mem _
    have htk : right.take (i + 1) = right.take i ++ [right[i]'(by omega)] := by rw [List.take_add_one, hg2]; rfl
    generalize right[i]'(by omega) = s at hg2 hmem htk
    simp (disch := omega) only [↓wr, ↓reduceIte, wq, eq_self, ne_eq, implies_true, oneV, intOp, goI, splice, sBuild, fillE, nilB, isNil, Nat.reduceEqDiff, Nat.reduceAdd, Nat.reduceLT, Nat.reduceLeDiff, Int.reduceNeg, Int.reduceToNat, reduceCtorEq, decide_true, decide_false, t2, t3, t7, t8, encI, f7, List.getElem?_map, hg2, encG, encS]
    refine CallG.pure (pc_Has g s (hri s hmem)) (by kernel_rfl) ?_
    simp (disch := omega) only [↓wr, ↓reduceIte, wq, eq_self, ne_eq, implies_true, oneV, intOp, goI, splice, sBuild, fillE, nilB, isNil, Nat.reduceEqDiff, Nat.reduceAdd, Nat.reduceLT, Nat.reduceLeDiff, Int.reduceNeg, Int.reduceToNat, reduceCtorEq, decide_true, decide_false, t2, t3, t7, t8]
    refine GoB.split (fun e2 => ?_) (fun e2 => ?_)
    rotate_left
    · simp (disch := omega) only [↓wr, ↓reduceIte, wq, eq_self, ne_eq, implies_true, oneV, intOp, goI, splice, sBuild, fillE, nilB, isNil, Nat.reduceEqDiff, Nat.reduceAdd, Nat.reduceLT, Nat.reduceLeDiff, Int.reduceNeg, Int.reduceToNat, reduceCtorEq, decide_true, decide_false, t2, t3, t7, t8]
    have c1 := (ho.own 1 rfl).cells
    have k1 := (ho.own 1 rfl).cok
    simp (disch := omega) only [↓wr, ↓reduceIte, wq, eq_self, ne_eq, implies_true, oneV, intOp, goI, splice, sBuild, fillE, nilB, isNil, Nat.reduceEqDiff, Nat.reduceAdd, Nat.reduceLT, Nat.reduceLeDiff, Int.reduceNeg, Int.reduceToNat, reduceCtorEq, decide_true, decide_false, t2, t3, t7, t8, encI, f7, c1, k1, List.getElem?_map, hg2]
    intro m hm
    try simp (disch := omega) only [↓wr, ↓reduceIte, wq, eq_self, ne_eq, implies_true, oneV, intOp, goI, splice, sBuild, fillE, nilB, isNil, Nat.reduceEqDiff, Nat.reduceAdd, Nat.reduceLT, Nat.reduceLeDiff, Int.reduceNeg, Int.reduceToNat, reduceCtorEq, decide_true, decide_false, t2, t3, t7, t8, encI, f7, c1, k1, elemsOf_new]
    have hlk : (right.take i).length ≤ 6 := by rw [List.length_take]; omega
    have o2 := (ho.fresh (o := .arr 1 [[gi s]]) hm).at 1 (by simp)
    refine goApp_owns o2 (by simp [cellOk]) (by unfold limit; simp at hlk ⊢; omega) (by unfold limit; simp at hlk ⊢; omega) ?_
    intro v' H3 o3 _
    have c2 := o3.head.cells
    have k2 := o3.head.cok
    have f7' := o3.is 1 rfl (by simp)
    simp (disch := omega) only [↓wr, ↓reduceIte, wq, eq_self, ne_eq, implies_true, oneV, intOp, goI, splice, sBuild, fillE, nilB, isNil, Nat.reduceEqDiff, Nat.reduceAdd, Nat.reduceLT, Nat.reduceLeDiff, Int.reduceNeg, Int.reduceToNat, reduceCtorEq, decide_true, decide_false, t2, t3, t7, t8, encI, f7', c2, k2]
    have o4 := (o3.at 1 (by simp)).put (es' := [[gi left, v', gi (precL (right.take i))]]) rfl rfl
    simp only [List.eraseIdx_cons_succ, List.eraseIdx_cons_zero] at o4
    simp (disch := omega) only [↓wr, ↓reduceIte, wq, eq_self, ne_eq, implies_true, oneV, intOp, goI, splice, sBuild, fillE, nilB, isNil, Nat.reduceEqDiff, Nat.reduceAdd, Nat.reduceLT, Nat.reduceLeDiff, Int.reduceNeg, Int.reduceToNat, reduceCtorEq, decide_true, decide_false, t2, t3, t7, t8, encI, List.getElem?_map, hg2]
    refine up_next hk (by omega) ⟨⟨v', ?_⟩, fun x hx => ?_, t2, t3, t7, rfl⟩
    · have hmx : (if s > precL (right.take i) then s else precL (right.take i)) = max (precL (right.take i)) s := by split <;> omega
      have hie : intsE (right.take i ++ [s]) = intsE (right.take i) ++ [[gi s]] := by simp
      rw [htk, precL_snoc, hmx, hie]
      exact o4.put (es' := [[gi left, v', gi (max (precL (right.take i)) s)]]) rfl rfl
    · rw [htk, List.mem_append] at hx
      rcases hx with hx | hx
      · exact hhas x hx
      · simp at hx; subst hx; exact e2
  · simp (disch := omega) only [↓wr, ↓reduceIte, wq, eq_self, ne_eq, implies_true, oneV, intOp, goI, splice, sBuild, fillE, nilB, isNil, Nat.reduceEqDiff, Nat.reduceAdd, Nat.reduceLT, Nat.reduceLeDiff, Int.reduceNeg, Int.reduceToNat, reduceCtorEq, decide_true, decide_false, t2, t3, t7, t8, encI, f7, encG, encS]
    refine CallG.loud ((mo_Copy09 g (great_slim e) _ _ ho).mono ?_)
    rintro rr H3 ⟨u0, u1, u2, bs, rfl, hbs, o2⟩
    have c0 := (o2.own 1 rfl).cells
    have k0 := (o2.own 1 rfl).cok
    have c1 := (o2.own 2 rfl).cells
    have k1 := (o2.own 2 rfl).cok
    have c2 := (o2.own 0 rfl).cells
    have k2 := (o2.own 0 rfl).cok
    rw [List.take_of_length_le (by omega)] at hhas
    rw [List.take_of_length_le (by omega)] at o2
    have o3 := o2.perm (List.perm_append_comm (l₁ := (u2, 3, builtE bs) :: (u0, 3, g.terms.map encT) :: (u1, 1, strsE g.nons) :: builtL bs) (l₂ := [(.sl n7 0 1 3, 3, [[gi left, v, gi (precL right)]]), (v, 1, intsE right)]))
    simp only [List.cons_append, List.nil_append] at o3
    have g7 := o3.is 0 rfl (by simp)
    have cv := (o3.own 1 rfl).cells
    have kv := (o3.own 1 rfl).cok
    simp (disch := omega) only [↓wr, ↓reduceIte, wq, eq_self, ne_eq, implies_true, oneV, intOp, goI, splice, sBuild, fillE, nilB, isNil, Nat.reduceEqDiff, Nat.reduceAdd, Nat.reduceLT, Nat.reduceLeDiff, Int.reduceNeg, Int.reduceToNat, reduceCtorEq, decide_true, decide_false, t2, t3, t7, t8, c0, k0, c1, k1, c2, k2]
    intro n9 hn9
    have d79 : n7 ≠ n9 := by rintro rfl; rw [g7] at hn9; simp at hn9
    have o4 := o3.new hn9 4 [[u0, u1, u2, gi g.start]]
    try simp (disch := omega) only [↓wr, ↓reduceIte, wq, eq_self, ne_eq, implies_true, oneV, intOp, goI, splice, sBuild, fillE, nilB, isNil, Nat.reduceEqDiff, Nat.reduceAdd, Nat.reduceLT, Nat.reduceLeDiff, Int.reduceNeg, Int.reduceToNat, reduceCtorEq, decide_true, decide_false, t2, t3, t7, t8, c0, k0, c1, k1, c2, k2, d79, d79.symm, g7, cv, kv, set_set]
    intro m hm
    have d97 := (dead_if hm arr_live).1
    have hm := (dead_if (dead_if hm arr_live).2 arr_live).2
    try simp (disch := omega) only [↓wr, ↓reduceIte, wq, eq_self, ne_eq, implies_true, oneV, intOp, goI, splice, sBuild, fillE, nilB, isNil, Nat.reduceEqDiff, Nat.reduceAdd, Nat.reduceLT, Nat.reduceLeDiff, Int.reduceNeg, Int.reduceToNat, reduceCtorEq, decide_true, decide_false, t2, t3, t7, t8, c0, k0, c1, k1, c2, k2, cv, kv, elemsOf_new, set_set]
    have hbl : (builtE bs).length ≤ 60 := by
      have h1 := congrArg List.length hbs
      simp only [List.length_map] at h1
      simp only [builtE, List.length_map]
      omega
    have o5 := (o4.fresh (n := m) (o := .arr 3 [[gi left, v, gi (precL right)]]) (by simp only [View.set, if_neg d97]; exact hm)).at 3 (by simp)
    simp only [List.eraseIdx_cons_succ, List.eraseIdx_cons_zero] at o5
    refine goApp_owns (by rw [set_set]; exact o5) (by simp [cok_val, kv]) (by unfold limit; simp at hbl ⊢; omega) (by unfold limit; simp at hbl ⊢; omega) ?_
    intro u3 H4 o6 _
    have c3 := o6.head.cells
    have k3 := o6.head.cok
    have f9 := o6.is 1 rfl (by simp)
    simp (disch := omega) only [↓wr, ↓reduceIte, wq, eq_self, ne_eq, implies_true, oneV, intOp, goI, splice, sBuild, fillE, nilB, isNil, Nat.reduceEqDiff, Nat.reduceAdd, Nat.reduceLT, Nat.reduceLeDiff, Int.reduceNeg, Int.reduceToNat, reduceCtorEq, decide_true, decide_false, t2, t3, t7, t8, c3, k3, f9]
    have o7 := (o6.at 1 (by simp)).put (es' := [[u0, u1, u3, gi g.start]]) rfl rfl
    simp only [List.eraseIdx_cons_succ, List.eraseIdx_cons_zero] at o7
    generalize hH5 : H4.set n9 (.arr 4 [[u0, u1, u3, gi g.start]]) = H5
    have o7 : Owns H5 _ := hH5 ▸ o7
    have g9 : H5 n9 = .arr 4 [[u0, u1, u3, gi g.start]] := by rw [← hH5]; simp [View.set]
    have hie : builtE bs ++ [[gi left, v, gi (precL right)]] = builtE (bs ++ [(v, ⟨left, right, precL right⟩)]) := by simp [builtE]
    have hlent : Lent H5 (.agg [u0, u1, u3, gi g.start]) (.agg (encG (moreG g ⟨left, right, precL right⟩))) := by
      rintro h hh
      have o8 : Owns h.view _ := hh ▸ o7
      refine FrN.fr (frn_gram (g := moreG g ⟨left, right, precL right⟩) (b := bs ++ [(v, ⟨left, right, precL right⟩)]) (o8.own 4 rfl) (o8.own 5 rfl) (hie ▸ o8.own 1 rfl) (fun y hy => ?_) ?_)
      · simp only [builtL, List.map_append, List.map_cons, List.map_nil, List.mem_append, List.mem_cons, List.not_mem_nil, or_false] at hy
        rcases hy with hy | rfl
        · exact o8.1 y (by
            refine List.mem_cons_of_mem _ (List.mem_cons_of_mem _ (List.mem_cons_of_mem _ (List.mem_cons_of_mem _ (List.mem_cons_of_mem _ (List.mem_cons_of_mem _ ?_)))))
            exact hy)
        · exact o8.own 3 rfl
      · rw [List.map_append, hbs]; rfl
    have hfit : ∀ s ∈ right, s < g.terms.length := fun s hs' => by
      have := hhas s hs'
      simp only [hasG] at this
      split at this
      · simpa using this
      · omega
    have hrp : precL right < g.terms.length ∨ precL right = -1 := by
      by_cases h0 : g.terms.length = 0
      · right
        have h1 := precL_low right
        have h2 := precL_up (n := 0) (by omega) right (fun s hs' => by have := hfit s hs'; omega)
        omega
      · exact .inl (precL_up (by omega) right hfit)
    have hlow := precL_low right
    have hrb : ruleB g ⟨left, right, precL right⟩ = true := by
      simp only [ruleB, Bool.and_eq_true, decide_eq_true_eq, List.all_eq_true]
      refine ⟨⟨⟨by omega, hlow⟩, by omega⟩, fun s hs' => ?_⟩
      have h1 := precL_all right s hs'
      simp only [symB, hhas s hs', Bool.true_and, Bool.not_eq_true', Bool.and_eq_false_iff, decide_eq_false_iff_not, beq_eq_false_iff_ne]
      by_cases h0 : 0 ≤ s
      · right; omega
      · left; exact h0
    have hm : right09 (moreG g ⟨left, right, precL right⟩) = true := more_right hr (by omega) hl0 hl1 hrb
    have hok : (moreG g ⟨left, right, precL right⟩).Ok := by
      refine ⟨hg.terms, hg.nons, by unfold Short; simp [moreG]; omega, hg.start, hg.term, fun x hx => ?_⟩
      simp only [moreG, List.mem_append, List.mem_cons, List.not_mem_nil, or_false] at hx
      rcases hx with hx | rfl
      · exact hg.rule x hx
      · exact ⟨by unfold In64; simp only; omega, by unfold In64; simp only; omega, by unfold Short; simp only; omega, hri⟩
    have hsm : (moreG g ⟨left, right, precL right⟩).Small := ⟨hs.names⟩
    have q1 := more_grown hm false
    have q2 := more_grown hm true
    have q3 := more_reach hr hm
    have q4 := null_prod hr
    have n1 := grown09_len hr false
    have n2 := grown09_len hr true
    have n3 := reach09_len hr
    have n4 := grown09_len hm false
    have n5 := grown09_len hm true
    have n6 := reach09_len hm
    have nn : (moreG g ⟨left, right, precL right⟩).nons.length = g.nons.length := rfl
    rw [nn] at n4 n5 n6
    have pN := pn_tNullable _ hok hsm
    have pP := pn_tProductive _ hok hsm
    have pR := pn_tReachable _ hok hsm
    generalize moreG g ⟨left, right, precL right⟩ = gm at *
    clear o2 o3 o4 o5 o6 o7 hH5 hie
    simp (disch := omega) only [↓wr, ↓reduceIte, wq, eq_self, ne_eq, implies_true, oneV, intOp, goI, splice, sBuild, fillE, nilB, isNil, Nat.reduceEqDiff, Nat.reduceAdd, Nat.reduceLT, Nat.reduceLeDiff, Int.reduceNeg, Int.reduceToNat, reduceCtorEq, decide_true, decide_false, encG, encS, t3]
    refine CallG.pure (pn_tNullable g hg hs).pure (by kernel_rfl) ?_
    simp (disch := omega) only [↓wr, ↓reduceIte, wq, eq_self, ne_eq, implies_true, oneV, intOp, goI, splice, sBuild, fillE, nilB, isNil, Nat.reduceEqDiff, Nat.reduceAdd, Nat.reduceLT, Nat.reduceLeDiff, Int.reduceNeg, Int.reduceToNat, reduceCtorEq, decide_true, decide_false, g9]
    refine CallG.lendN pN (by kernel_rfl) ⟨hlent, trivial⟩ ?_
    simp (disch := omega) only [↓wr, ↓reduceIte, wq, eq_self, ne_eq, implies_true, oneV, intOp, goI, splice, sBuild, fillE, nilB, isNil, Nat.reduceEqDiff, Nat.reduceAdd, Nat.reduceLT, Nat.reduceLeDiff, Int.reduceNeg, Int.reduceToNat, reduceCtorEq, decide_true, decide_false, encG, encS, t3, g9]
    refine CallG.pure (pn_tProductive g hg hs).pure (by kernel_rfl) ?_
    simp (disch := omega) only [↓wr, ↓reduceIte, wq, eq_self, ne_eq, implies_true, oneV, intOp, goI, splice, sBuild, fillE, nilB, isNil, Nat.reduceEqDiff, Nat.reduceAdd, Nat.reduceLT, Nat.reduceLeDiff, Int.reduceNeg, Int.reduceToNat, reduceCtorEq, decide_true, decide_false, g9]
    refine CallG.lendN pP (by kernel_rfl) ⟨hlent, trivial⟩ ?_
    simp (disch := omega) only [↓wr, ↓reduceIte, wq, eq_self, ne_eq, implies_true, oneV, intOp, goI, splice, sBuild, fillE, nilB, isNil, Nat.reduceEqDiff, Nat.reduceAdd, Nat.reduceLT, Nat.reduceLeDiff, Int.reduceNeg, Int.reduceToNat, reduceCtorEq, decide_true, decide_false, encG, encS, t3, g9]
    refine CallG.pure (pn_tReachable g hg hs).pure (by kernel_rfl) ?_
    simp (disch := omega) only [↓wr, ↓reduceIte, wq, eq_self, ne_eq, implies_true, oneV, intOp, goI, splice, sBuild, fillE, nilB, isNil, Nat.reduceEqDiff, Nat.reduceAdd, Nat.reduceLT, Nat.reduceLeDiff, Int.reduceNeg, Int.reduceToNat, reduceCtorEq, decide_true, decide_false, g9]
    refine CallG.lendN pR (by kernel_rfl) ⟨hlent, trivial⟩ ?_
    generalize grown09 g false = a1 at *
    generalize grown09 gm false = a2 at *
    generalize grown09 g true = a3 at *
    generalize grown09 gm true = a4 at *
    generalize reach09 g = a5 at *
    generalize reach09 gm = a6 at *
    simp (disch := omega) only [↓wr, ↓reduceIte, wq, eq_self, ne_eq, implies_true, oneV, intOp, goI, splice, sBuild, fillE, nilB, isNil, Nat.reduceEqDiff, Nat.reduceAdd, Nat.reduceLT, Nat.reduceLeDiff, Int.reduceNeg, Int.reduceToNat, reduceCtorEq, decide_true, decide_false, t3, encG, encS, encB, List.length_map, n1, n2, n3, n4, n5, n6]
    iterate 6
      refine GoB.ne (fun h => absurd rfl h) (fun _ => ?_)
      simp (disch := omega) only [↓wr, ↓reduceIte, wq, eq_self, ne_eq, implies_true, oneV, intOp, goI, splice, sBuild, fillE, nilB, isNil, Nat.reduceEqDiff, Nat.reduceAdd, Nat.reduceLT, Nat.reduceLeDiff, Int.reduceNeg, Int.reduceToNat, reduceCtorEq, decide_true, decide_false, t3, encG, encS, encB, List.length_map, n1, n2, n3, n4, n5, n6]
    refine LoopG.up g.nons.length (MoreJ a1 a2 a3 a4 a5 a6) ⟨rfl, rfl, rfl, rfl, rfl, rfl, rfl⟩ ?_
    clear t2 t3 t7 t8 g9 hlent
    rintro i k T H hk ⟨t10, t11, t12, t13, t14, t15, t16⟩
    simp (disch := omega) only [↓wr, ↓reduceIte, wq, eq_self, ne_eq, implies_true, oneV, intOp, goI, splice, sBuild, fillE, nilB, isNil, Nat.reduceEqDiff, Nat.reduceAdd, Nat.reduceLT, Nat.reduceLeDiff, Int.reduceNeg, Int.reduceToNat, reduceCtorEq, decide_true, decide_false, B_gerundlaw11_TrimMore_1, t10, t11, t12, t13, t14, t15, t16, encB, List.length_map, n1]
    refine GoB.dec (fun hc => ?_) (fun hc => ?_)
    · have i1 : a1[i]? = some (a1[i]'(by omega)) := List.getElem?_eq_getElem (by omega)
      have i2 : a2[i]? = some (a2[i]'(by omega)) := List.getElem?_eq_getElem (by omega)
      have i3 : a3[i]? = some (a3[i]'(by omega)) := List.getElem?_eq_getElem (by omega)
      have i4 : a4[i]? = some (a4[i]'(by omega)) := List.getElem?_eq_getElem (by omega)
      have i5 : a5[i]? = some (a5[i]'(by omega)) := List.getElem?_eq_getElem (by omega)
      have i6 : a6[i]? = some (a6[i]'(by omega)) := List.getElem?_eq_getElem (by omega)
      have j1 := sub_at q1 (i := i) (by omega) (by omega)
      have j2 := sub_at q2 (i := i) (by omega) (by omega)
      have j3 := sub_at q3 (i := i) (by omega) (by omega)
      have j4 := sub_at q4 (i := i) (by omega) (by omega)
      generalize a1[i]'(by omega) = b1 at i1 j1 j4
      generalize a2[i]'(by omega) = b2 at i2 j1
      generalize a3[i]'(by omega) = b3 at i3 j2 j4
      generalize a4[i]'(by omega) = b4 at i4 j2
      generalize a5[i]'(by omega) = b5 at i5 j3
      generalize a6[i]'(by omega) = b6 at i6 j3
      simp (disch := omega) only [↓wr, ↓reduceIte, wq, eq_self, ne_eq, implies_true, oneV, intOp, goI, splice, sBuild, fillE, nilB, isNil, Nat.reduceEqDiff, Nat.reduceAdd, Nat.reduceLT, Nat.reduceLeDiff, Int.reduceNeg, Int.reduceToNat, reduceCtorEq, decide_true, decide_false, t10, t11, t12, t13, t14, t15, t16, encB, List.getElem?_map, i1, i2, i3, i4, i5, i6]
      repeat' (first | (refine GoB.dec (fun _ => ?_) (fun _ => ?_)) | (refine GoB.eq (fun _ => ?_) (fun _ => ?_)) | (refine GoB.ne (fun _ => ?_) (fun _ => ?_)) | (refine GoB.split (fun _ => ?_) (fun _ => ?_)) | (simp (disch := omega) only [↓wr, ↓reduceIte, wq, eq_self, ne_eq, implies_true, oneV, intOp, goI, splice, sBuild, fillE, nilB, isNil, Nat.reduceEqDiff, Nat.reduceAdd, Nat.reduceLT, Nat.reduceLeDiff, Int.reduceNeg, Int.reduceToNat, reduceCtorEq, decide_true, decide_false, t10, t11, t12, t13, t14, t15, t16, encB, List.getElem?_map, i1, i2, i3, i4, i5, i6]))
      all_goals first
        | exact up_next hk (by omega) ⟨t10, t11, t12, t13, t14, t15, rfl⟩
        | (exfalso; simp_all; done)
        | skip
    · simp (disch := omega) only [↓wr, ↓reduceIte, wq, eq_self, ne_eq, implies_true, oneV, intOp, goI, splice, sBuild, fillE, nilB, isNil, Nat.reduceEqDiff, Nat.reduceAdd, Nat.reduceLT, Nat.reduceLeDiff, Int.reduceNeg, Int.reduceToNat, reduceCtorEq, decide_true, decide_false, t10, t11, t12, t13, t14, t15, t16]

end Gv
