/-
  Part 9 of the proof: what the machine does and what the functions answer.
  Conditions: those that each lemma names.
-/
import Derived.Test.YtfcbldapbbhliaaGreatSGzGH
set_option linter.unusedSimpArgs false
set_option linter.unusedVariables false

/-
  What is reduced, is right, and is its own reduction.
  Conditions: none.
-/
set_option linter.unusedSimpArgs false
namespace Gv
open Go Go.Proofs

/-! places -/
theorem idxF_get {x : Int} : ∀ (o : List Int) (i : Int), x ∈ o → ∃ k : Nat, idxF (fun y => y == x) o i = i + k ∧ o[k]? = some x
  | [], _, h => by simp at h
  | y :: o, i, h => by
    by_cases e : y = x
    · exact ⟨0, by simp [idxF, e], by simp [e]⟩
    · have hx : x ∈ o := by
        rcases List.mem_cons.1 h with rfl | h
        · exact absurd rfl e
        · exact h
      obtain ⟨k, h1, h2⟩ := idxF_get o (i + 1) hx
      exact ⟨k + 1, by simp only [idxF]; rw [if_neg (by simp [e]), h1]; push_cast; omega, by simpa using h2⟩
theorem numO_get {o : List Int} {x : Int} (h : x ∈ o) : o[(numO o x).toNat]? = some x := by
  obtain ⟨k, h1, h2⟩ := idxF_get o 0 h
  have : numO o x = k := by unfold numO; omega
  rw [this]; simpa using h2
theorem numO_at {o : List Int} (hn : o.Nodup) {k : Nat} {x : Int} (h : o[k]? = some x) : numO o x = k := by
  have hx := List.mem_of_getElem? h
  have h1 := numO_get hx
  have h2 := numO_lt hx
  obtain ⟨hk, h3⟩ := List.getElem?_eq_some_iff.1 h
  obtain ⟨hk2, h4⟩ := List.getElem?_eq_some_iff.1 h1
  have := (List.getElem_inj hn).1 (h4.trans h3.symm)
  omega

theorem addO_ext (acc : List Int) (r : Rule) : ∃ m, addO acc r = acc ++ m := by
  unfold addO
  split
  · exact ⟨[], by simp⟩
  · exact ⟨_, rfl⟩
theorem foldl_addO_ext : ∀ (l : List Rule) (acc : List Int), ∃ m, l.foldl addO acc = acc ++ m
  | [], acc => ⟨[], by simp⟩
  | r :: l, acc => by
    obtain ⟨m, hm⟩ := addO_ext acc r
    obtain ⟨k, hk⟩ := foldl_addO_ext l (addO acc r)
    exact ⟨m ++ k, by rw [List.foldl_cons, hk, hm, List.append_assoc]⟩

theorem numO_pre {a b : List Int} {x : Int} (h : x ∈ a) : numO (a ++ b) x = numO a x := by
  unfold numO
  rw [idxF_append _ _ _ _ (by omega)]
  have := numO_lt h
  unfold numO at this
  rw [if_pos this.1]

/-- The numbers come in the order of the rules. -/
theorem rulesL_red {r : Gram} {o : List Int} (ho : o.Nodup) (hr : r.nons.length = o.length) : ∀ (l : List Rule) (acc : List Int), o = l.foldl addO acc → (∀ x ∈ l, ruleB r (redRule (numO o) x) = true) → rulesL r (l.map (redRule (numO o))) ((acc.length : Int) - 1) = true
  | [], acc, h, _ => by
    simp only [List.foldl_nil] at h
    simp [rulesL, hr, h]
  | x :: l, acc, h, hb => by
    simp only [List.map_cons, rulesL, Bool.and_eq_true, decide_eq_true_eq]
    rw [List.foldl_cons] at h
    have h1 : (redRule (numO o) x).left = numO o x.left := rfl
    obtain ⟨m, hm⟩ := foldl_addO_ext l (addO acc x)
    rw [← h] at hm
    by_cases hx : x.left ∈ acc
    · have e : addO acc x = acc := by unfold addO; rw [if_pos hx]
      rw [e] at hm h
      have h2 := numO_lt hx
      have h3 : numO o x.left = numO acc x.left := by rw [hm]; exact numO_pre hx
      rw [h1, h3, if_neg (by omega)]
      exact ⟨⟨⟨h2.1, by omega⟩, hb x (by simp)⟩, rulesL_red ho hr l acc h fun y hy => hb y (by simp [hy])⟩
    · have e : addO acc x = acc ++ [x.left] := by unfold addO; rw [if_neg hx]
      rw [e] at hm h
      have h3 : numO o x.left = acc.length := numO_at ho (by rw [hm]; simp)
      rw [h1, h3, if_pos (by omega)]
      refine ⟨⟨⟨by omega, by omega⟩, hb x (by simp)⟩, ?_⟩
      have := rulesL_red ho hr l (acc ++ [x.left]) h fun y hy => hb y (by simp [hy])
      rw [List.length_append] at this
      simpa using this

theorem termsL_same {g r : Gram} (h : r.terms = g.terms) : ∀ (l : List Term) (i : Int), termsL r l i = termsL g l i
  | [], _ => rfl
  | t :: l, i => by
    simp only [termsL, termsL_same h l]
    congr 1
    simp only [termB, termI, lvlsB, h]

theorem int_nodup_len {o : List Int} {n : Nat} (h : o.Nodup) (hb : ∀ x ∈ o, 0 ≤ x ∧ x < n) : o.length ≤ n := by
  have := nodup_len o ((List.range n).map fun (k : Nat) => (k : Int)) h fun x hx => by
    have := hb x hx
    exact List.mem_map.2 ⟨x.toNat, List.mem_range.2 (by omega), by omega⟩
  simpa using this

/-- What stands when a grammar is reduced. -/
structure Red (g : Gram) (p q : List Bool) (o : List Int) (r : Gram) : Prop where
  right : right09 g = true
  pe : p = grown09 g true
  qe : q = reach09 g
  oe : o = ordO p q g.rules
  re : r = redG g (numO o) p q
  nodup : o.Nodup
  inside : ∀ x ∈ o, 0 ≤ x ∧ x < g.nons.length
  kept : ∀ R ∈ g.rules, keepR p q R = true → R.left ∈ o ∧ ∀ s ∈ R.right, s < 0 → -1 - s ∈ o
  from_ : ∀ x ∈ o, ∃ R ∈ g.rules, keepR p q R = true ∧ R.left = x
  start : g.start ∈ o

section
variable {g r : Gram} {p q : List Bool} {o : List Int}

theorem Red.rules (h : Red g p q o r) : r.rules = (g.rules.filter (keepR p q)).map (redRule (numO o)) := by rw [h.re]; rfl
theorem Red.nons (h : Red g p q o r) : r.nons = o.map fun x => g.nons.getD x.toNat ⟨#[]⟩ := by rw [h.re, h.oe]; rfl
theorem Red.terms (h : Red g p q o r) : r.terms = g.terms := by rw [h.re]; rfl
theorem Red.startE (h : Red g p q o r) : r.start = numO o g.start := by rw [h.re]; rfl
theorem Red.len (h : Red g p q o r) : r.nons.length = o.length := by rw [h.nons]; simp

theorem Red.right_red (h : Red g p q o r) : right09 r = true := by
  have hf := right09_fine h.right
  have hR := h.right
  simp only [right09, terms09, nons09, Bool.and_eq_true, decide_eq_true_eq] at hR ⊢
  obtain ⟨⟨⟨⟨⟨⟨⟨a1, a2⟩, ⟨a3, a4⟩, a5⟩, a6⟩, a7⟩, a8⟩, a9⟩, a10⟩ := hR
  have hst := numO_lt h.start
  have hol : o.length ≤ g.nons.length := int_nodup_len h.nodup h.inside
  have hgn : g.nons.Nodup ∧ ∀ s ∈ g.nons, nameB (bts s) = true ∧ termI g s < 0 := by
    rw [nonsL_iff] at a5
    refine ⟨(idx_nodup g.nons).1 fun k s hk => ?_, fun s hs => ?_⟩
    · have := a5 k s hk
      simp only [nonB, nonI, Bool.and_eq_true, beq_iff_eq] at this
      have := this.1.2
      omega
    · obtain ⟨k, hk⟩ := List.getElem?_of_mem hs
      have := a5 k s hk
      simp only [nonB, Bool.and_eq_true, decide_eq_true_eq] at this
      exact ⟨this.1.1, this.2⟩
  have hget : ∀ x ∈ o, ∃ (hx : x.toNat < g.nons.length), g.nons.getD x.toNat ⟨#[]⟩ = g.nons[x.toNat] := fun x hx => by
    have := h.inside x hx
    exact ⟨by omega, by simp [List.getD_eq_getElem?_getD, List.getElem?_eq_getElem (show x.toNat < g.nons.length by omega)]⟩
  have hrn : r.nons.Nodup := by
    rw [h.nons, List.nodup_iff_pairwise_ne, List.pairwise_map]
    refine (List.Pairwise.and_mem.1 h.nodup).imp ?_
    rintro x y ⟨hx, hy, hne⟩ e
    obtain ⟨h1, h2⟩ := hget x hx
    obtain ⟨h3, h4⟩ := hget y hy
    rw [h2, h4] at e
    have h5 := (List.getElem_inj hgn.1).1 e
    have h6 := h.inside x hx
    have h7 := h.inside y hy
    exact hne (by omega)
  have hrules : (g.rules.filter (keepR p q)).length ≤ g.rules.length := List.length_filter_le _ _
  obtain ⟨R0, hR0, hk0, _⟩ := h.from_ _ h.start
  have hpos : 0 < (g.rules.filter (keepR p q)).length := List.length_pos_of_mem (List.mem_filter.2 ⟨hR0, hk0⟩)
  have hrl : r.rules.length = (g.rules.filter (keepR p q)).length := by rw [h.rules]; simp
  refine ⟨⟨⟨⟨⟨⟨⟨by rw [h.terms]; exact a1, ?_⟩, ⟨by rw [h.len]; omega, by rw [h.len]; omega⟩, ?_⟩, by omega⟩, by omega⟩, by rw [h.startE]; omega⟩, by rw [h.startE, h.len]; omega⟩, ?_⟩
  · rw [h.terms, termsL_same h.terms]; exact a2
  · rw [nonsL_iff]
    intro k s hk
    have hm := List.mem_of_getElem? hk
    have hidx := (idx_nodup r.nons).2 hrn k s hk
    rw [h.nons, List.mem_map] at hm
    obtain ⟨x, hx, rfl⟩ := hm
    obtain ⟨h1, h2⟩ := hget x hx
    obtain ⟨h3, h4⟩ := hgn.2 _ (h2 ▸ List.getElem_mem h1 : g.nons.getD x.toNat ⟨#[]⟩ ∈ g.nons)
    simp only [nonB, nonI, Bool.and_eq_true, beq_iff_eq, decide_eq_true_eq]
    refine ⟨⟨h3, by rw [hidx]; omega⟩, ?_⟩
    simp only [termI, h.terms] at h4 ⊢
    exact h4
  · rw [h.rules]
    have := rulesL_red (r := r) h.nodup h.len (g.rules.filter (keepR p q)) [] (by rw [h.oe]; rfl) (fun x hx => ?_)
    · simpa using this
    obtain ⟨hm, hk⟩ := List.mem_filter.1 hx
    obtain ⟨_, hin⟩ := h.kept x hm hk
    have hb := (rulesL_ok _ _ a10).2 x hm
    have hb := hb.2.2
    simp only [ruleB, Bool.and_eq_true, decide_eq_true_eq, List.all_eq_true] at hb ⊢
    obtain ⟨⟨⟨b1, b2⟩, b3⟩, b4⟩ := hb
    refine ⟨⟨⟨by simpa [redRule] using b1, b2⟩, by rw [h.terms]; exact b3⟩, fun s hs => ?_⟩
    simp only [redRule, List.mem_map] at hs
    obtain ⟨s0, hs0, rfl⟩ := hs
    have b5 := b4 s0 hs0
    by_cases hn : s0 < 0
    · rw [if_pos hn]
      have hl := numO_lt (hin s0 hs0 hn)
      simp only [symB, hasG, Bool.and_eq_true]
      rw [if_neg (by omega), decide_eq_false (p := 0 ≤ -1 - numO o (-1 - s0)) (by omega)]
      simp only [h.len, decide_eq_true_eq, Bool.false_and, Bool.not_false, and_true]
      omega
    · rw [if_neg hn]
      simp only [symB, hasG, h.terms] at b5 ⊢
      rw [if_pos (by omega)] at b5 ⊢
      exact b5

end

end Gv

/-
  What is reduced, is productive and reachable throughout, and is its own reduction.
  Conditions: none.
-/
set_option linter.unusedSimpArgs false
namespace Gv
open Go Go.Proofs

/-- What derives a word. -/
inductive Der (g : Gram) : Int → Prop
  | mk (R : Rule) : R ∈ g.rules → (∀ s ∈ R.right, s < 0 → Der g (-1 - s)) → Der g R.left
/-- What is reached. -/
inductive Rch (g : Gram) (p : List Bool) : Int → Prop
  | start : Rch g p g.start
  | next (R : Rule) (s : Int) : R ∈ g.rules → Rch g p R.left → allG R.right p true = true → s ∈ R.right → s < 0 → Rch g p (-1 - s)

theorem allG_iff {l : List Int} {p : List Bool} : allG l p true = true ↔ ∀ s ∈ l, s < 0 → p.getD (-1 - s).toNat false = true := by
  simp only [allG, List.all_eq_true]
  constructor
  · intro h s hs hn
    have := h s hs
    rwa [if_neg (by omega)] at this
  · intro h s hs
    by_cases hn : s < 0
    · rw [if_neg (by omega)]; exact h s hs hn
    · rw [if_pos (by omega)]

theorem getD_set {l : List Bool} {i j : Nat} (h : (l.set i true).getD j false = true) : j = i ∨ l.getD j false = true := by
  by_cases e : i = j
  · exact .inl e.symm
  · right
    simp only [List.getD_eq_getElem?_getD, List.getElem?_set, if_neg e] at h ⊢
    exact h
theorem none_false {g : Gram} {i : Nat} : (none11 g).getD i false = false := by
  simp only [none11, List.getD_eq_getElem?_getD, List.getElem?_replicate]
  split <;> rfl

theorem der_of_grown {g : Gram} (hr : right09 g = true) : ∀ i : Nat, (grown09 g true).getD i false = true → Der g i := by
  have hf := right09_fine hr
  have hst : ∀ (is : List Bool) (R : Rule), R ∈ g.rules → (∀ i : Nat, is.getD i false = true → Der g i) → ∀ i : Nat, (step11 true is R).getD i false = true → Der g i := by
    intro is R hR h i hi
    unfold step11 at hi
    split at hi
    · rename_i ha
      rcases getD_set hi with rfl | hi
      · have := hf.left R hR
        have e : ((R.left.toNat : Nat) : Int) = R.left := by omega
        rw [e]
        refine .mk R hR fun s hs hn => ?_
        have := h _ (allG_iff.1 ha s hs hn)
        rwa [show (((-1 - s).toNat : Nat) : Int) = -1 - s by omega] at this
      · exact h i hi
    · exact h i hi
  have hfold : ∀ (l : List Rule) (is : List Bool), (∀ R ∈ l, R ∈ g.rules) → (∀ i : Nat, is.getD i false = true → Der g i) → ∀ i : Nat, (l.foldl (step11 true) is).getD i false = true → Der g i := by
    intro l
    induction l with
    | nil => intro is _ h; exact h
    | cons R l ih => intro is hl h; exact ih _ (fun x hx => hl x (by simp [hx])) (hst is R (hl R (by simp)) h)
  have hit : ∀ (n : Nat) (is : List Bool), (∀ i : Nat, is.getD i false = true → Der g i) → ∀ i : Nat, (iter (round11 g true) n is).getD i false = true → Der g i := by
    intro n
    induction n with
    | zero => intro is h; exact h
    | succ n ih => intro is h; exact ih _ (hfold g.rules is (fun _ h => h) h)
  rw [grown09, if_pos hr]
  exact hit _ _ fun i hi => by rw [none_false] at hi; simp at hi

theorem step11_le (t : Bool) (is : List Bool) (R : Rule) : LeB is (step11 t is R) := by
  unfold step11
  split
  · exact .set _ _
  · exact .refl _
theorem fold11_le (t : Bool) : ∀ (l : List Rule) (is : List Bool), LeB is (l.foldl (step11 t) is)
  | [], is => .refl _
  | R :: l, is => (step11_le t is R).trans (fold11_le t l _)
theorem fix11_step {t : Bool} : ∀ {l : List Rule} {is : List Bool}, l.foldl (step11 t) is = is → ∀ R ∈ l, step11 t is R = is
  | [], _, _, _, h => by simp at h
  | R :: l, is, h, x, hx => by
    rw [List.foldl_cons] at h
    have h1 := fold11_le t l (step11 t is R)
    rw [h] at h1
    have h2 := (h1.anti (step11_le t is R))
    rcases List.mem_cons.1 hx with rfl | hx
    · exact h2
    · rw [h2] at h; exact fix11_step h x hx

theorem grown_fix {g : Gram} (hr : right09 g = true) (t : Bool) : round11 g t (grown09 g t) = grown09 g t := by
  have hf := right09_fine hr
  have h := growG_fix (comesA t) g.rules 16 (none11 g) (by have := hf.nons; simp [none11]; omega)
  rw [round_A, grow_A hr] at h
  exact h.1
theorem grown_closed {g : Gram} (hr : right09 g = true) {t : Bool} {R : Rule} (hR : R ∈ g.rules) (ha : allG R.right (grown09 g t) t = true) : (grown09 g t).getD R.left.toNat false = true := by
  have h1 := fix11_step (grown_fix hr t) R hR
  have hf := right09_fine hr
  have hl := grown09_len hr t
  have hb := hf.left R hR
  unfold step11 at h1
  rw [if_pos ha] at h1
  rw [← h1]
  simp only [List.getD_eq_getElem?_getD]
  rw [List.getElem?_set_self (by omega)]
  rfl
theorem grown_of_der {g : Gram} (hr : right09 g = true) {x : Int} (h : Der g x) : (grown09 g true).getD x.toNat false = true := by
  induction h with
  | mk R hR _ ih => exact grown_closed hr hR (allG_iff.2 fun s hs hn => ih s hs hn)

theorem rch_of_reach {g : Gram} (hr : right09 g = true) : ∀ i : Nat, (reach09 g).getD i false = true → Rch g (grown09 g true) i := by
  have hf := right09_fine hr
  have hmk : ∀ (R : Rule), R ∈ g.rules → Rch g (grown09 g true) R.left → allG R.right (grown09 g true) true = true → ∀ (l : List Int) (is : List Bool), (∀ s ∈ l, s ∈ R.right) → (∀ i : Nat, is.getD i false = true → Rch g (grown09 g true) i) → ∀ i : Nat, (l.foldl mark is).getD i false = true → Rch g (grown09 g true) i := by
    intro R hR hl ha l
    induction l with
    | nil => intro is _ h; exact h
    | cons s l ih =>
      intro is hs h
      refine ih _ (fun x hx => hs x (by simp [hx])) fun i hi => ?_
      unfold mark at hi
      split at hi
      · rename_i hn
        rcases getD_set hi with rfl | hi
        · rw [show (((-1 - s).toNat : Nat) : Int) = -1 - s by omega]
          exact .next R s hR hl ha (hs s (by simp)) hn
        · exact h i hi
      · exact h i hi
  have hst : ∀ (is : List Bool) (R : Rule), R ∈ g.rules → (∀ i : Nat, is.getD i false = true → Rch g (grown09 g true) i) → ∀ i : Nat, (stepR (grown09 g true) is R).getD i false = true → Rch g (grown09 g true) i := by
    intro is R hR h
    unfold stepR
    split
    · rename_i ha
      rw [Bool.and_eq_true] at ha
      have h1 := h _ ha.1
      have := hf.left R hR
      rw [show ((R.left.toNat : Nat) : Int) = R.left by omega] at h1
      exact hmk R hR h1 ha.2 R.right is (fun _ h => h) h
    · exact h
  have hfold : ∀ (l : List Rule) (is : List Bool), (∀ R ∈ l, R ∈ g.rules) → (∀ i : Nat, is.getD i false = true → Rch g (grown09 g true) i) → ∀ i : Nat, (l.foldl (stepR (grown09 g true)) is).getD i false = true → Rch g (grown09 g true) i := by
    intro l
    induction l with
    | nil => intro is _ h; exact h
    | cons R l ih => intro is hl h; exact ih _ (fun x hx => hl x (by simp [hx])) (hst is R (hl R (by simp)) h)
  have hit : ∀ (n : Nat) (is : List Bool), (∀ i : Nat, is.getD i false = true → Rch g (grown09 g true) i) → ∀ i : Nat, (iter (roundR g (grown09 g true)) n is).getD i false = true → Rch g (grown09 g true) i := by
    intro n
    induction n with
    | zero => intro is h; exact h
    | succ n ih => intro is h; exact ih _ (hfold g.rules is (fun _ h => h) h)
  rw [reach09, if_pos hr]
  refine hit _ _ fun i hi => ?_
  rcases getD_set hi with rfl | hi
  · have := hf.start0
    rw [show ((g.start.toNat : Nat) : Int) = g.start by omega]
    exact .start
  · rw [none_false] at hi; simp at hi

theorem reach_of_rch {g : Gram} (hr : right09 g = true) {x : Int} (h : Rch g (grown09 g true) x) : (reach09 g).getD x.toNat false = true := by
  induction h with
  | start => exact reach_start hr
  | next R s hR _ ha hs hn ih => exact reach_next hr hR (by rw [keepR, ih, ha]; rfl) hs hn

section
variable {g r : Gram} {p q : List Bool} {o : List Int}

theorem Red.der (h : Red g p q o r) {x : Int} (hd : Der g x) : x ∈ o → Der r (numO o x) := by
  induction hd with
  | mk R hR hsub ih =>
    intro hx
    obtain ⟨R1, hR1, hk1, e1⟩ := h.from_ _ hx
    have hk : keepR p q R = true := by
      rw [keepR, Bool.and_eq_true] at hk1 ⊢
      refine ⟨by rw [← e1]; exact hk1.1, ?_⟩
      rw [h.pe]
      exact allG_iff.2 fun s hs hn => grown_of_der h.right (hsub s hs hn)
    have hin := (h.kept R hR hk).2
    have hm : redRule (numO o) R ∈ r.rules := by rw [h.rules]; exact List.mem_map.2 ⟨R, List.mem_filter.2 ⟨hR, hk⟩, rfl⟩
    refine Der.mk (redRule (numO o) R) hm fun s' hs' hn' => ?_
    simp only [redRule, List.mem_map] at hs'
    obtain ⟨s, hs, rfl⟩ := hs'
    by_cases hn : s < 0
    · rw [if_pos hn]
      have := ih s hs hn (hin s hs hn)
      rwa [show -1 - (-1 - numO o (-1 - s)) = numO o (-1 - s) by omega]
    · rw [if_neg hn] at hn'; omega

theorem Red.all_p (h : Red g p q o r) {x : Int} (hx : x ∈ o) : (grown09 r true).getD (numO o x).toNat false = true := by
  obtain ⟨R, hR, hk, rfl⟩ := h.from_ _ hx
  rw [keepR, Bool.and_eq_true, h.pe] at hk
  have h1 := grown_closed h.right hR hk.2
  have h2 := der_of_grown h.right _ h1
  have := (h.inside _ hx)
  rw [show ((R.left.toNat : Nat) : Int) = R.left by omega] at h2
  exact grown_of_der h.right_red (h.der h2 hx)

theorem Red.at_ (h : Red g p q o r) {k : Nat} (hk : k < o.length) : ∃ x ∈ o, numO o x = k ∧ o[k]? = some x := ⟨o[k], List.getElem_mem _, numO_at h.nodup (List.getElem?_eq_getElem hk), List.getElem?_eq_getElem hk⟩

theorem Red.grown_all (h : Red g p q o r) {k : Nat} (hk : k < o.length) : (grown09 r true).getD k false = true := by
  obtain ⟨x, hx, h1, _⟩ := h.at_ hk
  have := h.all_p hx
  rwa [h1, Int.toNat_natCast] at this

theorem Red.allG_r (h : Red g p q o r) {R : Rule} (hR : R ∈ r.rules) : allG R.right (grown09 r true) true = true := by
  have hf := right09_fine h.right_red
  refine allG_iff.2 fun s hs hn => h.grown_all ?_
  have := hf.neg hR hs hn
  rw [h.len] at this
  omega

theorem Red.rch (h : Red g p q o r) {x : Int} (hd : Rch g (grown09 g true) x) : Rch r (grown09 r true) (numO o x) := by
  induction hd with
  | start => rw [← h.startE]; exact .start
  | next R s hR h1 ha hs hn ih =>
    have hk : keepR p q R = true := by
      rw [keepR, h.pe, h.qe, ha, reach_of_rch h.right h1]; rfl
    have hm : redRule (numO o) R ∈ r.rules := by rw [h.rules]; exact List.mem_map.2 ⟨R, List.mem_filter.2 ⟨hR, hk⟩, rfl⟩
    have hin := (h.kept R hR hk).2 s hs hn
    have h2 := numO_lt hin
    have := Rch.next (g := r) (p := grown09 r true) (redRule (numO o) R) (-1 - numO o (-1 - s)) hm ih (h.allG_r hm) (by
      simp only [redRule, List.mem_map]
      exact ⟨s, hs, by rw [if_pos hn]⟩) (by omega)
    rwa [show -1 - (-1 - numO o (-1 - s)) = numO o (-1 - s) by omega] at this

theorem Red.reach_all (h : Red g p q o r) {k : Nat} (hk : k < o.length) : (reach09 r).getD k false = true := by
  obtain ⟨x, hx, h1, _⟩ := h.at_ hk
  obtain ⟨R, hR, hkk, rfl⟩ := h.from_ _ hx
  rw [keepR, Bool.and_eq_true, h.qe] at hkk
  have h2 := rch_of_reach h.right _ hkk.1
  have := (h.inside _ hx)
  rw [show ((R.left.toNat : Nat) : Int) = R.left by omega] at h2
  have := reach_of_rch h.right_red (h.rch h2)
  rwa [h1, Int.toNat_natCast] at this

def upTo (n : Nat) : List Int := (List.range n).map fun (k : Nat) => (k : Int)
theorem upTo_len (n : Nat) : (upTo n).length = n := by simp [upTo]
theorem upTo_get {n k : Nat} (h : k < n) : (upTo n)[k]? = some (k : Int) := by simp [upTo, h]
theorem upTo_nodup (n : Nat) : (upTo n).Nodup := by
  rw [upTo, List.nodup_iff_pairwise_ne, List.pairwise_map]
  exact (List.nodup_range (n := n)).imp fun h e => h (by omega)
theorem upTo_num {n : Nat} {x : Int} (h0 : 0 ≤ x) (h1 : x < n) : numO (upTo n) x = x := by
  have := numO_at (upTo_nodup n) (upTo_get (n := n) (k := x.toNat) (by omega))
  rw [show ((x.toNat : Nat) : Int) = x by omega] at this
  exact this

theorem keptI_all {p q : List Bool} : ∀ (l : List Rule) (i : Int), (∀ R ∈ l, keepR p q R = true) → keptI p q l i = (List.range l.length).map fun (k : Nat) => i + (k : Int)
  | [], _, _ => rfl
  | R :: l, i, h => by
    rw [keptI, if_pos (h R (by simp)), keptI_all l (i + 1) (fun x hx => h x (by simp [hx])), List.length_cons, List.range_succ_eq_map, List.map_cons, List.map_map]
    congr 1
    · omega
    · apply List.map_congr_left
      intro k _
      simp only [Function.comp]
      push_cast; omega

theorem foldl_addO_map {f : Int → Int} {o : List Int} (hf : ∀ x ∈ o, ∀ y ∈ o, f x = f y → x = y) : ∀ (l : List Rule) (acc : List Int), (∀ x ∈ acc, x ∈ o) → (∀ R ∈ l, R.left ∈ o) → (l.map (redRule f)).foldl addO (acc.map f) = (l.foldl addO acc).map f
  | [], _, _, _ => rfl
  | R :: l, acc, ha, hl => by
    have e : addO (acc.map f) (redRule f R) = (addO acc R).map f := by
      have h1 : (redRule f R).left = f R.left := rfl
      unfold addO
      rw [h1]
      by_cases h : R.left ∈ acc
      · rw [if_pos h, if_pos (List.mem_map.2 ⟨_, h, rfl⟩)]
      · rw [if_neg h, if_neg (fun hm => by
          obtain ⟨y, hy, e⟩ := List.mem_map.1 hm
          exact h (hf y (ha y hy) _ (hl R (by simp)) e ▸ hy))]
        simp
    rw [List.map_cons, List.foldl_cons, List.foldl_cons, e]
    refine foldl_addO_map hf l (addO acc R) (fun x hx => ?_) (fun x hx => hl x (by simp [hx]))
    unfold addO at hx
    split at hx
    · exact ha x hx
    · rcases List.mem_append.1 hx with hx | hx
      · exact ha x hx
      · simp at hx; subst hx; exact hl R (by simp)

theorem Red.inj (h : Red g p q o r) : ∀ x ∈ o, ∀ y ∈ o, numO o x = numO o y → x = y := by
  intro x hx y hy e
  have h1 := numO_get hx
  have h2 := numO_get hy
  rw [e, h2] at h1
  exact (Option.some.inj h1).symm

theorem Red.map_num (h : Red g p q o r) : o.map (numO o) = upTo o.length := by
  apply List.ext_getElem?
  intro k
  rw [List.getElem?_map]
  by_cases hk : k < o.length
  · rw [upTo_get hk, List.getElem?_eq_getElem hk, Option.map_some, numO_at h.nodup (List.getElem?_eq_getElem hk)]
  · rw [List.getElem?_eq_none (by omega), List.getElem?_eq_none (by rw [upTo_len]; omega)]; rfl

theorem Red.keep_all (h : Red g p q o r) : ∀ R ∈ r.rules, keepR (grown09 r true) (reach09 r) R = true := fun R hR => by
  have hf := right09_fine h.right_red
  have := hf.left R hR
  rw [h.len] at this
  rw [keepR, h.reach_all (by omega), h.allG_r hR]; rfl

theorem Red.ord (h : Red g p q o r) : ordO (grown09 r true) (reach09 r) r.rules = upTo o.length := by
  unfold ordO
  rw [List.filter_eq_self.2 h.keep_all, h.rules]
  have := foldl_addO_map h.inj (g.rules.filter (keepR p q)) [] (by simp) (fun R hR => by
    obtain ⟨h1, h2⟩ := List.mem_filter.1 hR
    exact (h.kept R h1 h2).1)
  rw [List.map_nil] at this
  rw [this, ← h.map_num]
  congr 1
  rw [h.oe]; rfl

/-- What is reduced, is its own reduction. -/
theorem Red.once (h : Red g p q o r) : reduce09 r = (r, upTo r.rules.length, 0) := by
  have hf := right09_fine h.right_red
  have hst := hf.start
  have hst0 := hf.start0
  rw [h.len] at hst
  rw [reduce09_pos h.right_red, if_pos (h.grown_all (by omega)), h.ord]
  have hk : keptI (grown09 r true) (reach09 r) r.rules 0 = upTo r.rules.length := by
    rw [keptI_all _ _ h.keep_all]
    unfold upTo
    apply List.map_congr_left
    intro k _; omega
  have hr : redG r (numO (upTo o.length)) (grown09 r true) (reach09 r) = r := by
    unfold redG
    rw [h.ord, List.filter_eq_self.2 h.keep_all]
    have e1 : ((upTo o.length).map fun x => r.nons.getD x.toNat ⟨#[]⟩) = r.nons := by
      apply List.ext_getElem?
      intro k
      rw [List.getElem?_map]
      by_cases hkk : k < o.length
      · rw [upTo_get hkk, Option.map_some]
        simp [List.getD_eq_getElem?_getD, List.getElem?_eq_getElem (show k < r.nons.length by rw [h.len]; omega)]
      · rw [List.getElem?_eq_none (by rw [upTo_len]; omega), List.getElem?_eq_none (by rw [h.len]; omega)]; rfl
    have e2 : r.rules.map (redRule (numO (upTo o.length))) = r.rules := by
      conv => rhs; rw [← List.map_id r.rules]
      apply List.map_congr_left
      intro R hR
      have hl := hf.left R hR
      rw [h.len] at hl
      unfold redRule
      rw [upTo_num hl.1 hl.2]
      have e3 : (R.right.map fun s => if s < 0 then -1 - numO (upTo o.length) (-1 - s) else s) = R.right := by
        conv => rhs; rw [← List.map_id R.right]
        apply List.map_congr_left
        intro s hs
        by_cases hn : s < 0
        · have := hf.neg hR hs hn
          rw [h.len] at this
          rw [if_pos hn, upTo_num (by omega) this]
          simp only [id]; omega
        · rw [if_neg hn]; rfl
      rw [e3]; rfl
    rw [e1, e2, upTo_num hst0 hst]
  rw [hr, hk]

end
end Gv

/-
  What one rule more does.
  Conditions: none.
-/
set_option linter.unusedSimpArgs false
namespace Gv
open Go Go.Proofs

end Gv

/-
  A copy of a grammar, owned; the law on one rule more.
  Conditions: lists that are no longer than an int says, numbers that are ints.
-/
set_option linter.unusedSimpArgs false
set_option maxRecDepth 100000
namespace Gv
open Go Go.Proofs

theorem FrN.fr {h : Heap} {v t : V} (f : FrN h v t) : Fr h v t := by
  induction f with
  | val v => exact .tree _ (.val _)
  | emp k => exact .emp k
  | sl id off len esz z es es' h1 h2 h3 h4 _ ih => exact .sl id off len esz z es es' h1 h2 h3 h4 ih
  | agg cs cs' h1 _ ih => exact .agg cs cs' h1 ih
  | tup cs cs' h1 _ ih => exact .tup cs cs' h1 ih

end Gv

/-
  The least trees of nonterminals, height by height.
  Conditions: none.
-/
set_option linter.unusedSimpArgs false
namespace Gv
open Go Go.Proofs

structure Plan where
  rule : Int
  height : Int
  rules : Int
  terms : Int
def noP : Plan := ⟨(-1), 0, 0, 0⟩
def zeroP : Plan := ⟨0, 0, 0, 0⟩
def pAt (P : List Plan) (m : Nat) : Plan := P.getD m noP
abbrev nonN (x : Int) : Nat := (-1 - x).toNat

/-- Of symbols: the greatest height, how great their trees are; have all a plan? -/
def sumP (P : List Plan) : List Int → Plan → Plan × Bool
  | [], s => (s, true)
  | x :: l, s => if 0 ≤ x then sumP P l ⟨s.rule, s.height, s.rules, min 1048576 (s.terms + 1)⟩
    else if (pAt P (nonN x)).rule < 0 then (s, false)
    else sumP P l ⟨s.rule, max s.height (pAt P (nonN x)).height, min 1048576 (s.rules + (pAt P (nonN x)).rules), min 1048576 (s.terms + (pAt P (nonN x)).terms)⟩

def Known (P : List Plan) (m : Nat) : Prop := 0 ≤ (pAt P m).rule
def AllK (P : List Plan) (l : List Int) : Prop := ∀ x ∈ l, x < 0 → Known P (nonN x)

theorem sumP_ok (P : List Plan) : ∀ (l : List Int) (s : Plan), (sumP P l s).2 = true ↔ AllK P l
  | [], s => by simp [sumP, AllK]
  | x :: l, s => by
    simp only [sumP, AllK, List.mem_cons]
    by_cases h : 0 ≤ x
    · rw [if_pos h, sumP_ok P l]
      refine ⟨fun k y hy hn => ?_, fun k y hy => k y (.inr hy)⟩
      rcases hy with rfl | hy
      · omega
      · exact k y hy hn
    · rw [if_neg h]
      by_cases h2 : (pAt P (nonN x)).rule < 0
      · rw [if_pos h2]
        simp only [Bool.false_eq_true, false_iff]
        intro k
        have := k x (.inl rfl) (by omega)
        unfold Known at this; omega
      · rw [if_neg h2, sumP_ok P l]
        refine ⟨fun k y hy hn => ?_, fun k y hy => k y (.inr hy)⟩
        rcases hy with rfl | hy
        · unfold Known; omega
        · exact k y hy hn

theorem sumP_height (P : List Plan) (k : Int) : ∀ (l : List Int) (s : Plan), AllK P l → ((sumP P l s).1.height ≤ k ↔ s.height ≤ k ∧ ∀ x ∈ l, x < 0 → (pAt P (nonN x)).height ≤ k)
  | [], s, _ => by simp [sumP]
  | x :: l, s, h => by
    have hl : AllK P l := fun y hy => h y (by simp [hy])
    simp only [sumP, List.mem_cons]
    by_cases h0 : 0 ≤ x
    · rw [if_pos h0, sumP_height P k l _ hl]
      refine ⟨fun ⟨a, b⟩ => ⟨a, fun y hy hn => ?_⟩, fun ⟨a, b⟩ => ⟨a, fun y hy => b y (.inr hy)⟩⟩
      rcases hy with rfl | hy
      · omega
      · exact b y hy hn
    · have := h x (by simp) (by omega)
      unfold Known at this
      rw [if_neg h0, if_neg (by omega), sumP_height P k l _ hl]
      refine ⟨fun ⟨a, b⟩ => ⟨by simp only at a; omega, fun y hy hn => ?_⟩, fun ⟨a, b⟩ => ⟨by have := b x (.inl rfl) (by omega); simp only; omega, fun y hy => b y (.inr hy)⟩⟩
      rcases hy with rfl | hy
      · simp only at a; omega
      · exact b y hy hn

theorem sumP_congr {P P' : List Plan} : ∀ (l : List Int) (s : Plan), (∀ x ∈ l, x < 0 → pAt P (nonN x) = pAt P' (nonN x)) → sumP P l s = sumP P' l s
  | [], s, _ => rfl
  | x :: l, s, h => by
    have hl := fun s => sumP_congr (P := P) (P' := P') l s fun y hy => h y (by simp [hy])
    simp only [sumP]
    by_cases h0 : 0 ≤ x
    · rw [if_pos h0, if_pos h0, hl]
    · rw [if_neg h0, if_neg h0, h x (by simp) (by omega), hl]

theorem sumP_hpos (P : List Plan) : ∀ (l : List Int) (s : Plan), s.height ≤ (sumP P l s).1.height
  | [], s => Int.le_refl _
  | x :: l, s => by
    simp only [sumP]
    split
    · exact sumP_hpos P l _
    · split
      · exact Int.le_refl _
      · have := sumP_hpos P l ⟨s.rule, max s.height (pAt P (nonN x)).height, min 1048576 (s.rules + (pAt P (nonN x)).rules), min 1048576 (s.terms + (pAt P (nonN x)).terms)⟩
        simp only at this ⊢; omega

def planOf (P : List Plan) (i : Nat) (r : Rule) : Plan := ⟨i, (sumP P r.right zeroP).1.height + 1, min 1048576 ((sumP P r.right zeroP).1.rules + 1), (sumP P r.right zeroP).1.terms⟩
def stepP (P : List Plan) (i : Nat) (N : List Plan) (r : Rule) : List Plan :=
  if 0 ≤ (pAt N r.left.toNat).rule then N else if (sumP P r.right zeroP).2 = true then N.set r.left.toNat (planOf P i r) else N
def foldP (P : List Plan) : Nat → List Plan → List Rule → List Plan
  | _, N, [] => N
  | i, N, r :: l => foldP P (i + 1) (stepP P i N r) l
def roundP (rules : List Rule) (P : List Plan) : List Plan := foldP P 0 P rules
def cand (P : List Plan) (m : Nat) : Nat → List Rule → Option Plan
  | _, [] => none
  | i, r :: l => if r.left.toNat = m ∧ (sumP P r.right zeroP).2 = true then some (planOf P i r) else cand P m (i + 1) l

theorem pAt_set {N : List Plan} {i m : Nat} {p : Plan} (hm : m < N.length) : pAt (N.set i p) m = if i = m then p else pAt N m := by
  simp only [pAt, List.getD_eq_getElem?_getD, List.getElem?_set]
  split
  · rename_i e; subst e; simp [hm]
  · rfl

theorem stepP_len (P : List Plan) (i : Nat) (N : List Plan) (r : Rule) : (stepP P i N r).length = N.length := by
  unfold stepP; split; · rfl
  split <;> simp
theorem foldP_len (P : List Plan) : ∀ (l : List Rule) (i : Nat) (N : List Plan), (foldP P i N l).length = N.length
  | [], _, _ => rfl
  | r :: l, i, N => by rw [foldP, foldP_len P l, stepP_len]

theorem foldP_at (P : List Plan) (m : Nat) : ∀ (l : List Rule) (i : Nat) (N : List Plan), m < N.length → pAt (foldP P i N l) m = if 0 ≤ (pAt N m).rule then pAt N m else (cand P m i l).getD (pAt N m)
  | [], i, N, hm => by simp [foldP, cand]
  | r :: l, i, N, hm => by
    rw [foldP, foldP_at P m l (i + 1) _ (by rw [stepP_len]; exact hm), cand]
    unfold stepP
    by_cases h1 : 0 ≤ (pAt N r.left.toNat).rule
    · rw [if_pos h1]
      by_cases h2 : r.left.toNat = m
      · subst h2
        rw [if_pos h1, if_pos h1]
      · rw [if_neg (c := r.left.toNat = m ∧ _) (fun e => h2 e.1)]
    · rw [if_neg h1]
      by_cases h3 : (sumP P r.right zeroP).2 = true
      · rw [if_pos h3]
        by_cases h2 : r.left.toNat = m
        · subst h2
          rw [pAt_set hm, if_pos rfl, if_neg h1, if_pos (show (0 : Int) ≤ (planOf P i r).rule by simp only [planOf]; omega), if_pos (c := r.left.toNat = r.left.toNat ∧ _) (And.intro rfl h3)]
          rfl
        · rw [pAt_set hm, if_neg h2, if_neg (c := r.left.toNat = m ∧ _) (fun e => h2 e.1)]
      · rw [if_neg h3, if_neg (c := r.left.toNat = m ∧ _) (fun e => h3 e.2)]

theorem cand_some {P : List Plan} {m : Nat} : ∀ {l : List Rule} {i : Nat} {p : Plan}, cand P m i l = some p → ∃ (j : Nat) (r : Rule), l[j]? = some r ∧ r.left.toNat = m ∧ AllK P r.right ∧ p = planOf P (i + j) r ∧ ∀ (j' : Nat) (r' : Rule), j' < j → l[j']? = some r' → r'.left.toNat = m → ¬ AllK P r'.right
  | [], i, p, h => by simp [cand] at h
  | r :: l, i, p, h => by
    rw [cand] at h
    by_cases hc : r.left.toNat = m ∧ (sumP P r.right zeroP).2 = true
    · rw [if_pos hc] at h
      exact ⟨0, r, rfl, hc.1, (sumP_ok P _ _).1 hc.2, by simpa using h.symm, fun j' r' hj => by omega⟩
    · rw [if_neg hc] at h
      obtain ⟨j, r2, a, b, c, d, e⟩ := cand_some h
      refine ⟨j + 1, r2, by simpa using a, b, c, by rw [d]; congr 1; omega, fun j' r' hj hr hl hk => ?_⟩
      cases j' with
      | zero =>
        simp at hr; subst hr
        exact hc ⟨hl, (sumP_ok P _ _).2 hk⟩
      | succ j' => exact e j' r' (by omega) (by simpa using hr) hl hk
theorem cand_none {P : List Plan} {m : Nat} : ∀ {l : List Rule} {i : Nat}, cand P m i l = none → ∀ r ∈ l, r.left.toNat = m → ¬ AllK P r.right
  | [], i, h, r, hr, _, _ => by simp at hr
  | r :: l, i, h, r', hr, hl, hk => by
    rw [cand] at h
    by_cases hc : r.left.toNat = m ∧ (sumP P r.right zeroP).2 = true
    · rw [if_pos hc] at h; simp at h
    · rw [if_neg hc] at h
      rcases List.mem_cons.1 hr with rfl | hr
      · exact hc ⟨hl, (sumP_ok P _ _).2 hk⟩
      · exact cand_none h r' hr hl hk

/-- So many rounds. -/
def stageP (g : Gram) (k : Nat) : List Plan := iter (roundP g.rules) k (List.replicate g.nons.length noP)
theorem iter_last {α : Type} (f : α → α) : ∀ (k : Nat) (x : α), iter f (k + 1) x = f (iter f k x)
  | 0, x => rfl
  | k + 1, x => by rw [iter, iter_last f k, iter]
theorem stage_succ (g : Gram) (k : Nat) : stageP g (k + 1) = roundP g.rules (stageP g k) := iter_last _ _ _
theorem stage_len (g : Gram) : ∀ k, (stageP g k).length = g.nons.length
  | 0 => by simp [stageP, iter]
  | k + 1 => by rw [stage_succ, roundP, foldP_len, stage_len g k]
theorem pAt_out {P : List Plan} {m : Nat} (h : P.length ≤ m) : pAt P m = noP := by simp [pAt, List.getD_eq_getElem?_getD, List.getElem?_eq_none h]
theorem known_lt {P : List Plan} {m : Nat} (h : Known P m) : m < P.length := by
  rcases Nat.lt_or_ge m P.length with h1 | h1
  · exact h1
  · unfold Known at h; rw [pAt_out h1] at h; simp [noP] at h
theorem stage_at (g : Gram) (k m : Nat) : pAt (stageP g (k + 1)) m = if 0 ≤ (pAt (stageP g k) m).rule then pAt (stageP g k) m else if m < g.nons.length then (cand (stageP g k) m 0 g.rules).getD (pAt (stageP g k) m) else pAt (stageP g k) m := by
  by_cases hm : m < g.nons.length
  · rw [stage_succ, roundP, foldP_at _ _ _ _ _ (by rw [stage_len]; exact hm), if_pos hm]
  · rw [if_neg hm, pAt_out (by rw [stage_len]; omega), pAt_out (by rw [stage_len]; omega)]
    simp

theorem stage_mono {g : Gram} {k m : Nat} (h : Known (stageP g k) m) : pAt (stageP g (k + 1)) m = pAt (stageP g k) m := by
  rw [stage_at]; unfold Known at h; rw [if_pos h]
theorem stage_mono' {g : Gram} {k m : Nat} (h : Known (stageP g k) m) : ∀ d, pAt (stageP g (k + d)) m = pAt (stageP g k) m
  | 0 => rfl
  | d + 1 => by
    have ih := stage_mono' h d
    have : Known (stageP g (k + d)) m := by unfold Known at h ⊢; rw [ih]; exact h
    rw [← ih, ← stage_mono this]; rfl
theorem known_mono {g : Gram} {k m j : Nat} (h : Known (stageP g k) m) (hj : k ≤ j) : pAt (stageP g j) m = pAt (stageP g k) m ∧ Known (stageP g j) m := by
  obtain ⟨d, rfl⟩ : ∃ d, j = k + d := ⟨j - k, by omega⟩
  have := stage_mono' h d
  exact ⟨this, by unfold Known at h ⊢; rw [this]; exact h⟩

theorem stage_new {g : Gram} {k m : Nat} (h0 : ¬ Known (stageP g k) m) (h : Known (stageP g (k + 1)) m) : cand (stageP g k) m 0 g.rules = some (pAt (stageP g (k + 1)) m) := by
  unfold Known at h h0
  rw [stage_at, if_neg h0] at h
  rw [stage_at, if_neg h0]
  split at h
  · rename_i hm
    rw [if_pos hm]
    cases hc : cand (stageP g k) m 0 g.rules with
    | none => rw [hc] at h; exact absurd h h0
    | some p => rfl
  · exact absurd h h0

theorem stage_un {g : Gram} {m : Nat} : ∀ {k : Nat}, ¬ Known (stageP g k) m → pAt (stageP g k) m = noP
  | 0, _ => by
    simp only [stageP, iter, pAt, List.getD_eq_getElem?_getD, List.getElem?_replicate]
    split <;> rfl
  | k + 1, h => by
    have h0 : ¬ Known (stageP g k) m := fun e => h (known_mono e (by omega)).2
    unfold Known at h h0
    rw [stage_at, if_neg h0] at h ⊢
    split
    · rename_i hm
      rw [if_pos hm] at h
      cases hc : cand (stageP g k) m 0 g.rules with
      | none => exact stage_un (k := k) h0
      | some p =>
        rw [hc] at h
        obtain ⟨j, r, _, _, _, rfl, _⟩ := cand_some hc
        simp only [Option.getD_some, planOf] at h; omega
    · exact stage_un (k := k) h0

theorem stage_height (g : Gram) : ∀ k : Nat, ∀ m, Known (stageP g k) m → 1 ≤ (pAt (stageP g k) m).height ∧ (pAt (stageP g k) m).height ≤ k ∧ ∀ j : Nat, j ≤ k → (pAt (stageP g k) m).height ≤ j → Known (stageP g j) m
  | 0, m, h => by
    unfold Known at h
    have : pAt (stageP g 0) m = noP := by
      simp only [stageP, iter, pAt, List.getD_eq_getElem?_getD, List.getElem?_replicate]
      split <;> rfl
    rw [this] at h; simp [noP] at h
  | k + 1, m, h => by
    have ih := stage_height g k
    by_cases h0 : Known (stageP g k) m
    · obtain ⟨a, b, c⟩ := ih m h0
      rw [(known_mono h0 (Nat.le_succ k)).1]
      refine ⟨a, by push_cast; omega, fun j hj hh => ?_⟩
      rcases Nat.lt_or_ge k j with e | e
      · exact (known_mono h0 (by omega)).2
      · exact c j e hh
    · have hc := stage_new h0 h
      obtain ⟨i, r, hr, hl, hk, hp, _⟩ := cand_some hc
      have hh : (pAt (stageP g (k + 1)) m).height = (sumP (stageP g k) r.right zeroP).1.height + 1 := by rw [hp]; rfl
      have h1 := sumP_hpos (stageP g k) r.right zeroP
      have h2 := (sumP_height (stageP g k) k r.right zeroP hk).2 ⟨by simp [zeroP], fun x hx hn => (ih _ (hk x hx hn)).2.1⟩
      have h3 : ¬ (sumP (stageP g k) r.right zeroP).1.height ≤ (k : Int) - 1 := by
        intro hle
        have hz : (0 : Int) ≤ (sumP (stageP g k) r.right zeroP).1.height := h1
        obtain ⟨d, rfl⟩ : ∃ d, k = d + 1 := ⟨k - 1, by omega⟩
        have h4 := ((sumP_height (stageP g (d + 1)) _ r.right zeroP hk).1 hle).2
        have h5 : AllK (stageP g d) r.right := fun x hx hn => (ih _ (hk x hx hn)).2.2 d (by omega) (by have := h4 x hx hn; push_cast at this; omega)
        apply h0
        by_cases h6 : Known (stageP g d) m
        · exact (known_mono h6 (by omega)).2
        · unfold Known at h6 ⊢
          have hm := known_lt h
          rw [stage_len] at hm
          rw [stage_at, if_neg h6, if_pos hm]
          cases hc2 : cand (stageP g d) m 0 g.rules with
          | none => exact absurd h5 (cand_none hc2 r (List.mem_of_getElem? hr) hl)
          | some p =>
            obtain ⟨j, r2, _, _, _, rfl, _⟩ := cand_some hc2
            simp only [Option.getD_some, planOf]; omega
      have hz : (0 : Int) ≤ (sumP (stageP g k) r.right zeroP).1.height := h1
      refine ⟨by omega, by push_cast; omega, fun j hj hle => ?_⟩
      have : j = k + 1 := by omega
      subst this; exact h

/-- Where a plan came from. -/
theorem stage_from {g : Gram} {m : Nat} : ∀ {k : Nat}, Known (stageP g k) m → ∃ j, j < k ∧ ¬ Known (stageP g j) m ∧ (pAt (stageP g k) m).height = j + 1 ∧ cand (stageP g j) m 0 g.rules = some (pAt (stageP g k) m)
  | 0, h => by
    have := (stage_height g 0 m h)
    simp at this; omega
  | k + 1, h => by
    by_cases h0 : Known (stageP g k) m
    · obtain ⟨j, a, b, c, d⟩ := stage_from h0
      rw [(known_mono h0 (Nat.le_succ k)).1]
      exact ⟨j, by omega, b, c, d⟩
    · refine ⟨k, by omega, h0, ?_, stage_new h0 h⟩
      obtain ⟨a, b, c⟩ := stage_height g (k + 1) m h
      rcases Int.lt_or_le (k : Int) (pAt (stageP g (k + 1)) m).height with e | e
      · push_cast at b; omega
      · exact absurd (c k (by omega) e) h0

/-! how many have a plan -/
def knB (P : List Plan) : List Bool := P.map fun p => decide (0 ≤ p.rule)
theorem knB_at (P : List Plan) (m : Nat) : (knB P).getD m false = true ↔ Known P m := by
  simp only [knB, Known, pAt, List.getD_eq_getElem?_getD, List.getElem?_map]
  cases P[m]? with
  | none => simp [noP]
  | some p => simp
theorem knB_le (g : Gram) (k : Nat) : LeB (knB (stageP g k)) (knB (stageP g (k + 1))) :=
  ⟨by simp [knB, stage_len], fun i h => (knB_at _ _).2 (known_mono ((knB_at _ _).1 h) (by omega)).2⟩
theorem knB_eq {g : Gram} {k : Nat} (h : knB (stageP g k) = knB (stageP g (k + 1))) : stageP g (k + 1) = stageP g k := by
  have hp : ∀ m, pAt (stageP g (k + 1)) m = pAt (stageP g k) m := fun m => by
    by_cases h0 : Known (stageP g k) m
    · exact stage_mono h0
    · have h1 : ¬ Known (stageP g (k + 1)) m := fun e => h0 ((knB_at _ _).1 (by rw [h]; exact (knB_at _ _).2 e))
      rw [stage_un h0, stage_un h1]
  apply List.ext_getElem (by rw [stage_len, stage_len])
  intro m h1 h2
  have := hp m
  simpa [pAt, List.getD_eq_getElem?_getD, h1, h2] using this
theorem stage_more {g : Gram} {k : Nat} (hk : k ≤ trues (knB (stageP g k))) : stageP g (k + 1) = stageP g k ∨ k + 1 ≤ trues (knB (stageP g (k + 1))) := by
  have := (knB_le g k).trues
  by_cases e : trues (knB (stageP g k)) = trues (knB (stageP g (k + 1)))
  · exact .inl (knB_eq (this.2 e))
  · exact .inr (by omega)
theorem trues_stage (g : Gram) (k : Nat) : trues (knB (stageP g k)) ≤ g.nons.length := by
  have := trues_le (knB (stageP g k))
  simpa [knB, stage_len] using this
theorem stage_stay {g : Gram} {k : Nat} (h : stageP g (k + 1) = stageP g k) : ∀ d, stageP g (k + d) = stageP g k
  | 0 => rfl
  | d + 1 => by
    have ih := stage_stay h d
    rw [← Nat.add_assoc, stage_succ, ih, ← stage_succ, h]
theorem stage_fix (g : Gram) : stageP g (g.nons.length + 1) = stageP g g.nons.length := by
  have : ∀ k, stageP g (k + 1) = stageP g k ∨ k + 1 ≤ trues (knB (stageP g (k + 1))) := by
    intro k
    induction k with
    | zero => exact stage_more (by omega)
    | succ k ih =>
      rcases ih with h | h
      · left; rw [stage_succ g (k + 1), h, ← stage_succ, h]
      · exact stage_more h
  rcases this g.nons.length with h | h
  · exact h
  · have := trues_stage g (g.nons.length + 1); omega

/-- The plans. -/
def plansG (g : Gram) : List Plan := stageP g g.nons.length
theorem plans_len (g : Gram) : (plansG g).length = g.nons.length := stage_len _ _
theorem plans_of {g : Gram} {k : Nat} (hk : k ≤ g.nons.length) (h : stageP g (k + 1) = stageP g k) : stageP g k = plansG g := by
  obtain ⟨d, hd⟩ : ∃ d, g.nons.length = k + d := ⟨g.nons.length - k, by omega⟩
  rw [plansG, hd, stage_stay h d]

theorem plans_known {g : Gram} {m : Nat} (h : Known (plansG g) m) : 1 ≤ (pAt (plansG g) m).height ∧ (pAt (plansG g) m).height ≤ g.nons.length := ⟨(stage_height g _ m h).1, (stage_height g _ m h).2.1⟩
theorem plans_un {g : Gram} {m : Nat} (h : ¬ Known (plansG g) m) : pAt (plansG g) m = noP := stage_un h

/-- A plan is its rule's; no rule ahead of it makes its nonterminal as high. -/
theorem plans_least {g : Gram} {m : Nat} (h : Known (plansG g) m) : ∃ (i : Nat) (r : Rule), g.rules[i]? = some r ∧ r.left.toNat = m ∧ AllK (plansG g) r.right ∧ pAt (plansG g) m = planOf (plansG g) i r ∧
    ∀ (j : Nat) (r' : Rule), j < i → g.rules[j]? = some r' → r'.left.toNat = m → AllK (plansG g) r'.right → (sumP (plansG g) r'.right zeroP).1.height + 1 ≠ (pAt (plansG g) m).height := by
  obtain ⟨k, hk, hn, hh, hc⟩ := stage_from h
  obtain ⟨i, r, hr, hl, ha, hp, hmin⟩ := cand_some hc
  have hsame : ∀ x ∈ r.right, x < 0 → pAt (stageP g k) (nonN x) = pAt (plansG g) (nonN x) := fun x hx hn => ((known_mono (ha x hx hn) (by omega)).1).symm
  have hs : sumP (stageP g k) r.right zeroP = sumP (plansG g) r.right zeroP := sumP_congr _ _ hsame
  refine ⟨i, r, hr, hl, fun x hx hn => (known_mono (ha x hx hn) (by omega)).2, ?_, fun j r' hj hr' hl' ha' he => ?_⟩
  · show pAt (stageP g g.nons.length) m = _
    rw [hp]; unfold planOf; rw [hs, Nat.zero_add]
  · have h1 : (pAt (plansG g) m).height = k + 1 := hh
    refine hmin j r' hj hr' hl' fun x hx hn => ?_
    have h2 := ((sumP_height (plansG g) k r'.right zeroP ha').1 (by omega)).2 x hx hn
    exact (stage_height g _ _ (ha' x hx hn)).2.2 k (by omega) h2

/-- No rule makes a nonterminal less high. -/
theorem plans_low {g : Gram} {r : Rule} (hr : r ∈ g.rules) (hl : r.left.toNat < g.nons.length) (ha : AllK (plansG g) r.right) : Known (plansG g) r.left.toNat ∧ (pAt (plansG g) r.left.toNat).height ≤ (sumP (plansG g) r.right zeroP).1.height + 1 := by
  have h0 := sumP_hpos (plansG g) r.right zeroP
  have hz : (0 : Int) ≤ (sumP (plansG g) r.right zeroP).1.height := h0
  obtain ⟨t, ht⟩ : ∃ t : Nat, (sumP (plansG g) r.right zeroP).1.height = t := ⟨_, (Int.toNat_of_nonneg hz).symm⟩
  have hle : t ≤ g.nons.length := by
    have := (sumP_height (plansG g) g.nons.length r.right zeroP ha).2 ⟨by simp [zeroP], fun x hx hn => (plans_known (ha x hx hn)).2⟩
    omega
  have h1 := ((sumP_height (plansG g) t r.right zeroP ha).1 (by omega)).2
  have h2 : AllK (stageP g t) r.right := fun x hx hn => (stage_height g _ _ (ha x hx hn)).2.2 t hle (h1 x hx hn)
  have h3 : Known (stageP g (t + 1)) r.left.toNat := by
    by_cases h4 : Known (stageP g t) r.left.toNat
    · exact (known_mono h4 (by omega)).2
    · unfold Known at h4 ⊢
      rw [stage_at, if_neg h4, if_pos hl]
      cases hc : cand (stageP g t) r.left.toNat 0 g.rules with
      | none => exact absurd h2 (cand_none hc r hr rfl)
      | some p =>
        obtain ⟨j, r2, _, _, _, rfl, _⟩ := cand_some hc
        simp only [Option.getD_some, planOf]; omega
  have h5 := known_mono h3 (show t + 1 ≤ g.nons.length + 1 by omega)
  rw [stage_fix] at h5
  have h6 := (stage_height g _ _ h3).2.1
  refine ⟨h5.2, ?_⟩
  show (pAt (stageP g g.nons.length) _).height ≤ _
  rw [h5.1]; push_cast at h6; omega

end Gv

/-
  Heights, least rules, sizes, as the document has them; the trees and words that they give.
  Conditions: none.
-/
set_option linter.unusedSimpArgs false
namespace Gv
open Go Go.Proofs

/-! heights -/
def hAt (h : List Int) (m : Nat) : Int := h.getD m 0
def highD (h : List Int) : List Int → Int → Int
  | [], top => top + 1
  | x :: l, top => if 0 ≤ x then highD h l top else if hAt h (nonN x) = 0 then 0 else highD h l (max top (hAt h (nonN x)))
def stepHt (old : List Int) (k : Int) (out : List Int) (r : Rule) : List Int := if hAt out r.left.toNat = 0 ∧ highD old r.right 0 = k then out.set r.left.toNat k else out
abbrev hgts (P : List Plan) : List Int := P.map Plan.height

theorem hAt_map (P : List Plan) (m : Nat) : hAt (hgts P) m = (pAt P m).height := by
  simp only [hAt, pAt, List.getD_eq_getElem?_getD, List.getElem?_map]
  cases P[m]? <;> rfl

def SaneP (P : List Plan) : Prop := ∀ m, (Known P m → 1 ≤ (pAt P m).height) ∧ (¬ Known P m → pAt P m = noP)
theorem stage_sane (g : Gram) (k : Nat) : SaneP (stageP g k) := fun m => ⟨fun h => (stage_height g k m h).1, stage_un⟩
theorem SaneP.zero {P : List Plan} (h : SaneP P) (m : Nat) : hAt (hgts P) m = 0 ↔ ¬ Known P m := by
  rw [hAt_map]
  constructor
  · intro e k; have := (h m).1 k; omega
  · intro k; rw [(h m).2 k]; rfl

theorem sumP_term {P : List Plan} {x : Int} {l : List Int} {s : Plan} (h : 0 ≤ x) : sumP P (x :: l) s = sumP P l ⟨s.rule, s.height, s.rules, min 1048576 (s.terms + 1)⟩ := by rw [sumP, if_pos h]
theorem sumP_non {P : List Plan} {x : Int} {l : List Int} {s : Plan} (h : ¬ 0 ≤ x) (hk : ¬ (pAt P (nonN x)).rule < 0) : sumP P (x :: l) s = sumP P l ⟨s.rule, max s.height (pAt P (nonN x)).height, min 1048576 (s.rules + (pAt P (nonN x)).rules), min 1048576 (s.terms + (pAt P (nonN x)).terms)⟩ := by rw [sumP, if_neg h, if_neg hk]
theorem sumP_fail {P : List Plan} {x : Int} {l : List Int} {s : Plan} (h : ¬ 0 ≤ x) (hk : (pAt P (nonN x)).rule < 0) : sumP P (x :: l) s = (s, false) := by rw [sumP, if_neg h, if_pos hk]

theorem highD_sum {P : List Plan} (hP : SaneP P) : ∀ (l : List Int) (s : Plan), highD (hgts P) l s.height = if (sumP P l s).2 = true then (sumP P l s).1.height + 1 else 0
  | [], s => by simp [highD, sumP]
  | x :: l, s => by
    simp only [highD]
    by_cases h0 : 0 ≤ x
    · rw [if_pos h0, sumP_term h0, ← highD_sum hP l]
    · rw [if_neg h0]
      by_cases h1 : Known P (nonN x)
      · have h2 := h1
        unfold Known at h2
        rw [if_neg (fun e => ((hP.zero _).1 e) h1), sumP_non h0 (by omega), ← highD_sum hP l, hAt_map]
      · have h2 := h1
        unfold Known at h2
        rw [if_pos ((hP.zero _).2 h1), sumP_fail h0 (by omega)]
        rfl
theorem highD_iff {P : List Plan} (hP : SaneP P) (l : List Int) : (highD (hgts P) l 0 = 0 ↔ ¬ AllK P l) ∧ (AllK P l → highD (hgts P) l 0 = (sumP P l zeroP).1.height + 1) := by
  have h := highD_sum hP l zeroP
  have h1 := sumP_hpos P l zeroP
  have h2 : (0 : Int) ≤ (sumP P l zeroP).1.height := h1
  have h3 : highD (hgts P) l 0 = _ := h
  rw [h3]
  by_cases hk : AllK P l
  · have := (sumP_ok P l zeroP).2 hk
    rw [if_pos this]
    exact ⟨⟨fun e => by omega, fun e => absurd hk e⟩, fun _ => rfl⟩
  · have := fun e => hk ((sumP_ok P l zeroP).1 e)
    rw [if_neg this]
    exact ⟨⟨fun _ => hk, fun _ => rfl⟩, fun e => absurd e hk⟩

theorem hAt_set {out : List Int} {i m : Nat} {v : Int} (hm : m < out.length) : hAt (out.set i v) m = if i = m then v else hAt out m := by
  simp only [hAt, List.getD_eq_getElem?_getD, List.getElem?_set]
  split
  · rename_i e; subst e; simp [hm]
  · rfl
theorem stepHt_len (old : List Int) (k : Int) (out : List Int) (r : Rule) : (stepHt old k out r).length = out.length := by
  unfold stepHt; split <;> simp
theorem foldHt_len (old : List Int) (k : Int) : ∀ (l : List Rule) (out : List Int), (l.foldl (stepHt old k) out).length = out.length
  | [], _ => rfl
  | r :: l, out => by rw [List.foldl_cons, foldHt_len old k l, stepHt_len]

/-- What a round of heights answers, place by place. -/
theorem foldHt_at (old : List Int) (k : Int) (m : Nat) (hk : k ≠ 0) : ∀ (l : List Rule) (out : List Int), m < out.length →
    (hAt out m ≠ 0 → hAt (l.foldl (stepHt old k) out) m = hAt out m) ∧
    (hAt out m = 0 → (∃ r ∈ l, r.left.toNat = m ∧ highD old r.right 0 = k) → hAt (l.foldl (stepHt old k) out) m = k) ∧
    (hAt out m = 0 → (¬ ∃ r ∈ l, r.left.toNat = m ∧ highD old r.right 0 = k) → hAt (l.foldl (stepHt old k) out) m = 0)
  | [], out, hm => ⟨fun _ => rfl, fun _ ⟨r, hr, _⟩ => by simp at hr, fun h _ => h⟩
  | r :: l, out, hm => by
    obtain ⟨i1, i2, i3⟩ := foldHt_at old k m hk l (stepHt old k out r) (by rw [stepHt_len]; exact hm)
    rw [List.foldl_cons]
    unfold stepHt at i1 i2 i3 ⊢
    by_cases hc : hAt out r.left.toNat = 0 ∧ highD old r.right 0 = k
    · rw [if_pos hc] at i1 i2 i3 ⊢
      rw [hAt_set hm] at i1 i2 i3
      by_cases e : r.left.toNat = m
      · rw [if_pos e] at i1 i2 i3
        refine ⟨fun h => absurd (e ▸ hc.1) h, fun _ _ => i1 hk, fun _ h => absurd ⟨r, by simp, e, hc.2⟩ h⟩
      · rw [if_neg e] at i1 i2 i3
        refine ⟨i1, fun h ⟨r', hr', h1, h2⟩ => ?_, fun h h1 => i3 h fun ⟨r', hr', h2⟩ => h1 ⟨r', by simp [hr'], h2⟩⟩
        rcases List.mem_cons.1 hr' with rfl | hr'
        · exact absurd h1 e
        · exact i2 h ⟨r', hr', h1, h2⟩
    · rw [if_neg hc] at i1 i2 i3 ⊢
      refine ⟨i1, fun h ⟨r', hr', h1, h2⟩ => ?_, fun h h1 => i3 h fun ⟨r', hr', h2⟩ => h1 ⟨r', by simp [hr'], h2⟩⟩
      rcases List.mem_cons.1 hr' with rfl | hr'
      · exact absurd ⟨h1 ▸ h, h2⟩ hc
      · exact i2 h ⟨r', hr', h1, h2⟩

/-- A round of the document's is one of the plans'. -/
theorem roundHt (g : Gram) (k : Nat) : g.rules.foldl (stepHt (hgts (stageP g k)) ((k : Int) + 1)) (hgts (stageP g k)) = hgts (stageP g (k + 1)) := by
  apply List.ext_getElem (by rw [foldHt_len]; simp [stage_len])
  intro m h1 h2
  have hm : m < g.nons.length := by simpa [stage_len] using h2
  have hg : ∀ {l : List Int} (h : m < l.length), l[m] = hAt l m := fun h => by simp [hAt, List.getD_eq_getElem?_getD, h]
  rw [hg h1, hg h2, hAt_map]
  obtain ⟨i1, i2, i3⟩ := foldHt_at (hgts (stageP g k)) ((k : Int) + 1) m (by omega) g.rules (hgts (stageP g k)) (by simp [stage_len, hm])
  have hs := stage_sane g k
  by_cases h0 : Known (stageP g k) m
  · rw [i1 (fun e => (hs.zero m).1 e h0), hAt_map, (known_mono h0 (Nat.le_succ k)).1]
  · have hz := (hs.zero m).2 h0
    by_cases hn : Known (stageP g (k + 1)) m
    · obtain ⟨i, r, hr, hl, ha, hp, _⟩ := cand_some (stage_new h0 hn)
      obtain ⟨a, b, c⟩ := stage_height g (k + 1) m hn
      have he : (pAt (stageP g (k + 1)) m).height = k + 1 := by
        rcases Int.lt_or_le (k : Int) (pAt (stageP g (k + 1)) m).height with e | e
        · push_cast at b; omega
        · exact absurd (c k (by omega) e) h0
      rw [he]
      refine i2 hz ⟨r, List.mem_of_getElem? hr, hl, ?_⟩
      rw [(highD_iff hs r.right).2 ha, ← he, hp]; rfl
    · rw [stage_un hn]
      refine i3 hz fun ⟨r, hr, hl, he⟩ => ?_
      have ha : AllK (stageP g k) r.right := by
        rcases Classical.em (AllK (stageP g k) r.right) with h | h
        · exact h
        · have := (highD_iff hs r.right).1.2 h; omega
      unfold Known at h0 hn
      rw [stage_at, if_neg h0, if_pos hm] at hn
      cases hc : cand (stageP g k) m 0 g.rules with
      | none => exact cand_none hc r hr hl ha
      | some p =>
        rw [hc] at hn
        obtain ⟨j, r2, _, _, _, rfl, _⟩ := cand_some hc
        simp only [Option.getD_some, planOf] at hn; omega

/-! rules -/
/-- The first rule of a nonterminal that makes it as high as it is. -/
def bestD (h : List Int) (m : Nat) : List Rule → Int → Int
  | [], _ => (-1)
  | r :: l, i => if r.left = (m : Int) ∧ 0 < hAt h m ∧ highD h r.right 0 = hAt h m then i else bestD h m l (i + 1)
theorem bestD_none {h : List Int} {m : Nat} : ∀ {l : List Rule} {i : Int}, (∀ r ∈ l, ¬ (r.left = (m : Int) ∧ 0 < hAt h m ∧ highD h r.right 0 = hAt h m)) → bestD h m l i = (-1)
  | [], _, _ => rfl
  | r :: l, i, hn => by rw [bestD, if_neg (hn r (by simp)), bestD_none fun r hr => hn r (by simp [hr])]
theorem bestD_some {h : List Int} {m : Nat} : ∀ {l : List Rule} {i : Int} {j : Nat} {r : Rule}, l[j]? = some r → (r.left = (m : Int) ∧ 0 < hAt h m ∧ highD h r.right 0 = hAt h m) →
    (∀ (j' : Nat) (r' : Rule), j' < j → l[j']? = some r' → ¬ (r'.left = (m : Int) ∧ 0 < hAt h m ∧ highD h r'.right 0 = hAt h m)) → bestD h m l i = i + j
  | [], _, _, _, hr, _, _ => by simp at hr
  | r0 :: l, i, 0, r, hr, hc, _ => by
    simp at hr; subst hr
    rw [bestD, if_pos hc]; simp
  | r0 :: l, i, j + 1, r, hr, hc, hn => by
    rw [bestD, if_neg (hn 0 r0 (by omega) rfl), bestD_some (l := l) (i := i + 1) (by simpa using hr) hc fun j' r' hj hr' => hn (j' + 1) r' (by omega) (by simpa using hr')]
    push_cast; omega

theorem best_plans {g : Gram} (hf : ∀ r ∈ g.rules, 0 ≤ r.left) (m : Nat) : bestD (hgts (plansG g)) m g.rules 0 = (pAt (plansG g) m).rule := by
  have hs : SaneP (plansG g) := stage_sane g _
  by_cases h : Known (plansG g) m
  · obtain ⟨i, r, hr, hl, ha, hp, hmin⟩ := plans_least h
    have h0 := hf r (List.mem_of_getElem? hr)
    have hh : highD (hgts (plansG g)) r.right 0 = hAt (hgts (plansG g)) m := by
      rw [(highD_iff hs _).2 ha, hAt_map, hp]; rfl
    have hpos : 0 < hAt (hgts (plansG g)) m := by rw [hAt_map]; have := (plans_known h).1; omega
    have := bestD_some (h := hgts (plansG g)) (m := m) (i := 0) hr ⟨by omega, hpos, hh⟩ fun j r' hj hr' hc => by
      have ha' : AllK (plansG g) r'.right := by
        rcases Classical.em (AllK (plansG g) r'.right) with h | h
        · exact h
        · have := (highD_iff hs r'.right).1.2 h; omega
      have hc2 := hc.2.2
      rw [(highD_iff hs _).2 ha', hAt_map] at hc2
      exact hmin j r' hj hr' (by omega) ha' hc2
    rw [this, hp]; simp [planOf]
  · rw [plans_un h]
    refine bestD_none fun r hr hc => ?_
    have := (hs.zero m).2 h
    omega

/-! sizes -/
def bothD (a b : Int × Int) : Int × Int := (min 1000 (a.1 + b.1), min 1000 (a.2 + b.2))
def sAt (S : List (Int × Int)) (m : Nat) : Int × Int := S.getD m (0, 0)
def sizeD (S : List (Int × Int)) : List Int → Int × Int → Int × Int
  | [], s => s
  | x :: l, s => sizeD S l (bothD s (if 0 ≤ x then (0, 1) else sAt S (nonN x)))
def capP (p : Plan) : Int × Int := (min 1000 p.rules, min 1000 p.terms)
def PosP (p : Plan) : Prop := (0 ≤ p.rules ∧ p.rules ≤ 1048576) ∧ (0 ≤ p.terms ∧ p.terms ≤ 1048576)

theorem sumP_pos {P : List Plan} (hP : ∀ m, PosP (pAt P m)) : ∀ (l : List Int) (s : Plan), PosP s → PosP (sumP P l s).1
  | [], s, h => h
  | x :: l, s, h => by
    have hx := hP (nonN x)
    unfold PosP at h hx
    simp only [sumP]
    split
    · exact sumP_pos hP l _ (by unfold PosP; simp only; omega)
    · split
      · exact h
      · exact sumP_pos hP l _ (by unfold PosP; simp only; omega)
theorem pos_zero : PosP zeroP := by unfold PosP; simp [zeroP]
theorem pos_no : PosP noP := by unfold PosP; simp [noP]
theorem stage_pos (g : Gram) : ∀ k m, PosP (pAt (stageP g k) m)
  | 0, m => by
    have : pAt (stageP g 0) m = noP := by
      simp only [stageP, iter, pAt, List.getD_eq_getElem?_getD, List.getElem?_replicate]
      split <;> rfl
    rw [this]; exact pos_no
  | k + 1, m => by
    by_cases h : Known (stageP g (k + 1)) m
    · by_cases h0 : Known (stageP g k) m
      · rw [(known_mono h0 (Nat.le_succ k)).1]; exact stage_pos g k m
      · obtain ⟨i, r, _, _, _, hp, _⟩ := cand_some (stage_new h0 h)
        rw [hp]
        have := sumP_pos (stage_pos g k) r.right zeroP pos_zero
        unfold PosP at this ⊢
        simp only [planOf]; omega
    · rw [stage_un h]; exact pos_no

theorem size_sum {P : List Plan} {S : List (Int × Int)} (hP : ∀ m, PosP (pAt P m)) : ∀ (l : List Int) (s : Plan) (t : Int × Int), PosP s → AllK P l → (∀ x ∈ l, x < 0 → sAt S (nonN x) = capP (pAt P (nonN x))) → t = capP s → sizeD S l t = capP (sumP P l s).1
  | [], s, t, _, _, _, ht => ht
  | x :: l, s, t, hs, ha, hS, ht => by
    have hx := hP (nonN x)
    unfold PosP at hs hx
    have ha' : AllK P l := fun y hy => ha y (by simp [hy])
    have hS' := fun y (hy : y ∈ l) => hS y (by simp [hy])
    simp only [sizeD, sumP]
    by_cases h0 : 0 ≤ x
    · rw [if_pos h0, if_pos h0]
      refine size_sum hP l _ _ (by unfold PosP; simp only; omega) ha' hS' ?_
      subst ht
      simp only [bothD, capP, Prod.mk.injEq]; omega
    · have hk := ha x (by simp) (by omega)
      unfold Known at hk
      rw [if_neg h0, if_neg h0, if_neg (by omega), hS x (by simp) (by omega)]
      refine size_sum hP l _ _ (by unfold PosP; simp only; omega) ha' hS' ?_
      subst ht
      simp only [bothD, capP, Prod.mk.injEq]; omega

/-- What the sizes are, where those less high are known. -/
theorem size_plan {g : Gram} {S : List (Int × Int)} {m : Nat} (h : Known (plansG g) m) {i : Nat} {r : Rule} (hr : g.rules[i]? = some r) (hi : (pAt (plansG g) m).rule = i)
    (hS : ∀ k, (pAt (plansG g) k).height < (pAt (plansG g) m).height → Known (plansG g) k → sAt S k = capP (pAt (plansG g) k)) : bothD (1, 0) (sizeD S r.right (0, 0)) = capP (pAt (plansG g) m) := by
  obtain ⟨i', r', hr', hl, ha, hp, _⟩ := plans_least h
  have : i' = i := by rw [hp] at hi; simp only [planOf] at hi; omega
  subst this
  rw [hr] at hr'; simp at hr'; subst hr'
  have hh : (pAt (plansG g) m).height = (sumP (plansG g) r.right zeroP).1.height + 1 := by rw [hp]; rfl
  have h1 := ((sumP_height (plansG g) ((pAt (plansG g) m).height - 1) r.right zeroP ha).1 (by omega)).2
  rw [size_sum (P := plansG g) (fun m => stage_pos g _ m) r.right zeroP (0, 0) pos_zero ha (fun x hx hn => hS _ (by have := h1 x hx hn; omega) (ha x hx hn)) rfl]
  have := sumP_pos (stage_pos g g.nons.length) r.right zeroP pos_zero
  have h2 : PosP (sumP (plansG g) r.right zeroP).1 := this
  unfold PosP at h2
  rw [hp]
  simp only [bothD, capP, planOf, Prod.mk.injEq]; omega

/-! trees and words -/
def rAt (g : Gram) (i : Int) : List Int := (g.rules.getD i.toNat ⟨0, [], 0⟩).right
def wordD (g : Gram) (P : List Plan) : Nat → List Int → List Int
  | 0, l => l.flatMap fun x => if 0 ≤ x then [x] else []
  | f + 1, l => l.flatMap fun x => if 0 ≤ x then [x] else wordD g P f (rAt g (pAt P (nonN x)).rule)
def treeD (g : Gram) (P : List Plan) : Nat → List Int → List Int
  | 0, _ => []
  | f + 1, l => l.flatMap fun x => if 0 ≤ x then [] else (pAt P (nonN x)).rule :: treeD g P f (rAt g (pAt P (nonN x)).rule)

/-- All nonterminals have plans, that are no higher. -/
def UpP (P : List Plan) (f : Nat) (l : List Int) : Prop := ∀ x ∈ l, x < 0 → Known P (nonN x) ∧ (pAt P (nonN x)).height ≤ f

theorem wordD_nil (g : Gram) (P : List Plan) (f : Nat) : wordD g P f [] = [] := by cases f <;> rfl
theorem treeD_nil (g : Gram) (P : List Plan) (f : Nat) : treeD g P f [] = [] := by cases f <;> rfl
theorem wordD_app (g : Gram) (P : List Plan) (f : Nat) (a b : List Int) : wordD g P f (a ++ b) = wordD g P f a ++ wordD g P f b := by cases f <;> simp [wordD]
theorem treeD_app (g : Gram) (P : List Plan) (f : Nat) (a b : List Int) : treeD g P f (a ++ b) = treeD g P f a ++ treeD g P f b := by cases f <;> simp [treeD]
theorem wordD_term {g : Gram} {P : List Plan} {f : Nat} {x : Int} (h : 0 ≤ x) : wordD g P f [x] = [x] := by cases f <;> simp [wordD, h]
theorem treeD_term {g : Gram} {P : List Plan} {f : Nat} {x : Int} (h : 0 ≤ x) : treeD g P f [x] = [] := by cases f <;> simp [treeD, h]
theorem wordD_non {g : Gram} {P : List Plan} {f : Nat} {x : Int} (h : x < 0) : wordD g P (f + 1) [x] = wordD g P f (rAt g (pAt P (nonN x)).rule) := by
  simp [wordD, show ¬ 0 ≤ x by omega]
theorem treeD_non {g : Gram} {P : List Plan} {f : Nat} {x : Int} (h : x < 0) : treeD g P (f + 1) [x] = (pAt P (nonN x)).rule :: treeD g P f (rAt g (pAt P (nonN x)).rule) := by
  simp [treeD, show ¬ 0 ≤ x by omega]

theorem up_zero {g : Gram} {l : List Int} (h : UpP (plansG g) 0 l) : ∀ x ∈ l, 0 ≤ x := fun x hx => by
  rcases Int.lt_or_le x 0 with h1 | h1
  · obtain ⟨a, b⟩ := h x hx h1
    have := (plans_known a).1
    simp at b; omega
  · exact h1
theorem up_child {g : Gram} {f : Nat} {m : Nat} (h : Known (plansG g) m) (hh : (pAt (plansG g) m).height ≤ (f : Int) + 1) : ∃ (i : Nat) (r : Rule), (pAt (plansG g) m).rule = i ∧ g.rules[i]? = some r ∧ rAt g (pAt (plansG g) m).rule = r.right ∧ UpP (plansG g) f r.right ∧ pAt (plansG g) m = planOf (plansG g) i r := by
  obtain ⟨i, r, hr, hl, ha, hp, _⟩ := plans_least h
  have hi : (pAt (plansG g) m).rule = i := by rw [hp]; rfl
  have h2 : (pAt (plansG g) m).height = (sumP (plansG g) r.right zeroP).1.height + 1 := by rw [hp]; rfl
  have h1 := ((sumP_height (plansG g) f r.right zeroP ha).1 (by omega)).2
  refine ⟨i, r, hi, hr, ?_, fun x hx hn => ⟨ha x hx hn, h1 x hx hn⟩, hp⟩
  rw [hi]; simp [rAt, List.getD_eq_getElem?_getD, hr]

theorem size_tree_step {g : Gram} {f : Nat} (hc : ∀ x, x < 0 → Known (plansG g) (nonN x) → (pAt (plansG g) (nonN x)).height ≤ f → (pAt (plansG g) (nonN x)).rules = min 1048576 ((treeD g (plansG g) f [x]).length : Int) ∧ (pAt (plansG g) (nonN x)).terms = min 1048576 ((wordD g (plansG g) f [x]).length : Int)) :
    ∀ (l : List Int) (s : Plan), UpP (plansG g) f l → PosP s → (sumP (plansG g) l s).1.rules = min 1048576 (s.rules + (treeD g (plansG g) f l).length) ∧ (sumP (plansG g) l s).1.terms = min 1048576 (s.terms + (wordD g (plansG g) f l).length)
  | [], s, _, hs => by
    unfold PosP at hs
    rw [wordD_nil, treeD_nil]
    simp only [sumP, List.length_nil]; omega
  | x :: l, s, hu, hs => by
    have hu' : UpP (plansG g) f l := fun y hy => hu y (by simp [hy])
    have e1 := wordD_app g (plansG g) f [x] l
    have e2 := treeD_app g (plansG g) f [x] l
    rw [List.singleton_append] at e1 e2
    rw [e1, e2, List.length_append, List.length_append]
    have hx : PosP (pAt (plansG g) (nonN x)) := stage_pos g g.nons.length (nonN x)
    unfold PosP at hs hx
    by_cases h0 : 0 ≤ x
    · obtain ⟨i1, i2⟩ := size_tree_step hc l ⟨s.rule, s.height, s.rules, min 1048576 (s.terms + 1)⟩ hu' (by unfold PosP; simp only; omega)
      rw [sumP_term h0, i1, i2, wordD_term h0, treeD_term h0]
      simp only [List.length_cons, List.length_nil]
      omega
    · obtain ⟨hk, hh⟩ := hu x (by simp) (by omega)
      obtain ⟨k1, k2⟩ := hc x (by omega) hk hh
      obtain ⟨i1, i2⟩ := size_tree_step hc l ⟨s.rule, max s.height (pAt (plansG g) (nonN x)).height, min 1048576 (s.rules + (pAt (plansG g) (nonN x)).rules), min 1048576 (s.terms + (pAt (plansG g) (nonN x)).terms)⟩ hu' (by unfold PosP; simp only; omega)
      unfold Known at hk
      rw [sumP_non h0 (by omega), i1, i2, k1, k2]
      push_cast
      omega
/-- How great they are. -/
theorem size_tree (g : Gram) : ∀ (f : Nat) (l : List Int) (s : Plan), UpP (plansG g) f l → PosP s →
    (sumP (plansG g) l s).1.rules = min 1048576 (s.rules + (treeD g (plansG g) f l).length) ∧ (sumP (plansG g) l s).1.terms = min 1048576 (s.terms + (wordD g (plansG g) f l).length)
  | 0, l, s, hu, hs => size_tree_step (fun x hx hk hh => by have := (plans_known hk).1; simp only [Int.natCast_zero] at hh; omega) l s hu hs
  | f + 1, l, s, hu, hs => size_tree_step (fun x hx hk hh => by
      obtain ⟨i, r, hi, hr, hra, hur, hp⟩ := up_child (f := f) hk (by push_cast at hh; exact hh)
      obtain ⟨j1, j2⟩ := size_tree g f r.right zeroP hur pos_zero
      have k1 : (pAt (plansG g) (nonN x)).rules = min 1048576 ((sumP (plansG g) r.right zeroP).1.rules + 1) := by rw [hp]; rfl
      have k2 : (pAt (plansG g) (nonN x)).terms = (sumP (plansG g) r.right zeroP).1.terms := by rw [hp]; rfl
      rw [wordD_non hx, treeD_non hx, hra, k1, k2, j1, j2]
      simp only [List.length_cons, zeroP]
      push_cast
      omega) l s hu hs

theorem word_tree_step {g : Gram} {f : Nat} (hc : ∀ x, x < 0 → (wordD g (plansG g) f [x]).length ≤ 6 * (treeD g (plansG g) f [x]).length) : ∀ (l : List Int), (wordD g (plansG g) f l).length ≤ l.length + 6 * (treeD g (plansG g) f l).length
  | [] => by rw [wordD_nil]; simp
  | x :: l => by
    have e1 := wordD_app g (plansG g) f [x] l
    have e2 := treeD_app g (plansG g) f [x] l
    rw [List.singleton_append] at e1 e2
    rw [e1, e2, List.length_append, List.length_append]
    have ih := word_tree_step hc l
    by_cases h0 : 0 ≤ x
    · rw [wordD_term h0, treeD_term h0]
      simp only [List.length_cons, List.length_nil]; omega
    · have := hc x (by omega)
      simp only [List.length_cons]; omega
theorem rAt_len {g : Gram} (hg : ∀ r ∈ g.rules, r.right.length ≤ 6) (i : Int) : (rAt g i).length ≤ 6 := by
  simp only [rAt, List.getD_eq_getElem?_getD]
  cases hr : g.rules[i.toNat]? with
  | none => simp
  | some r => simpa using hg r (List.mem_of_getElem? hr)
theorem word_tree {g : Gram} (hg : ∀ r ∈ g.rules, r.right.length ≤ 6) : ∀ (f : Nat) (l : List Int), (wordD g (plansG g) f l).length ≤ l.length + 6 * (treeD g (plansG g) f l).length
  | 0, l => word_tree_step (fun x hx => by simp [wordD, show ¬ 0 ≤ x by omega]) l
  | f + 1, l => word_tree_step (fun x hx => by
      have i2 := word_tree hg f (rAt g (pAt (plansG g) (nonN x)).rule)
      have := rAt_len hg (pAt (plansG g) (nonN x)).rule
      rw [wordD_non hx, treeD_non hx]
      simp only [List.length_cons]; omega) l

end Gv

/-
  A list of one plan, many times over; the sum of symbols' plans.
  Conditions: sixteen times at most; numbers that are ints.
-/
set_option linter.unusedSimpArgs false
set_option maxRecDepth 100000
namespace Gv
open Go Go.Proofs

def E_slices_Repeat___least_plan_least_plan__0 : DC :=
  .seq (.seq (.region [] [⟨none, [((some 34), .op (.mov (.tmp 8))), ((some 35), .op (.mov (.tmp 7))), ((some 36), .op (.len (.tmp 35))), ((some 37), .op (.arith .lss (.tmp 34) (.tmp 36)))]⟩]) <|
  .cond (.tmp 37) (.skip) (.exit 0)) <|
  .block 1 (.region [] [⟨none, [((some 38), .op (.mov (.tmp 8))), ((some 39), .op (.mov (.tmp 7))), ((some 40), .op (.mov (.tmp 8))), ((some 41), .op (.slice 4 (.tmp 39) (some (.tmp 40)) none)), ((some 42), .op (.mov (.tmp 7))), ((some 43), .op (.mov (.tmp 8))), ((some 44), .op (.slice 4 (.tmp 42) none (some (.tmp 43)))), ((some 45), .op (.old (.call { callee := .builtin .copy, args := #[(.tmp 41), (.tmp 44)], argTypes := #[67, 67] }) 3)), ((some 46), .op (.arith .add (.tmp 38) (.tmp 45))), ((some 8), .op (.mov (.tmp 46)))]⟩])
def D_slices_Repeat___least_plan_least_plan_ : DF := ⟨.seq (.region [] [⟨none, [((some 4), .op (.mov (.val (.emp 1))))]⟩]) <|
  .seq (.seq (.region [] [⟨none, [((some 9), .op (.mov (.tmp 1))), ((some 10), .op (.arith .lss (.tmp 9) (.val (.val (.int .i64 0)))))]⟩]) <|
  .cond (.tmp 10) (.region [] [⟨none, [((some 11), .op (.old (.makeInterface 9 (.const (.string ⟨#[99, 97, 110, 110, 111, 116, 32, 98, 101, 32, 110, 101, 103, 97, 116, 105, 118, 101]⟩))) 20)), (none, .op (.old (.panic (.tmp 11)) 0))]⟩]) (.skip)) <|
  .seq (.region [] [⟨none, [((some 13), .op (.mov (.tmp 0))), ((some 14), .op (.len (.tmp 13))), ((some 15), .op (.conv .u64 (.tmp 14))), ((some 16), .op (.mov (.tmp 1))), ((some 17), .op (.conv .u64 (.tmp 16))), ((some 18), .call (.val (.fn 114 [] [])) [(.tmp 15), (.tmp 17)]), ((some 12), .op (.mov (.tmp 18))), ((some 19), .op (.ext 0 (.tmp 12))), ((some 20), .op (.ext 1 (.tmp 12))), ((some 5), .op (.mov (.tmp 19))), ((some 6), .op (.mov (.tmp 20)))]⟩]) <|
  .seq (.seq (.region [] [⟨none, [((some 21), .op (.mov (.tmp 5))), ((some 22), .op (.arith .gtr (.tmp 21) (.val (.val (.int .u64 0))))), ((some 23), .op (.mov (.tmp 22)))]⟩, ⟨(some (23, false)), [((some 24), .op (.mov (.tmp 6))), ((some 25), .op (.arith .gtr (.tmp 24) (.val (.val (.int .u64 9223372036854775807)))))]⟩, ⟨none, [((some 26), .op (.pick (.tmp 23) (.val (.val (.bool true))) (.tmp 25)))]⟩]) <|
  .cond (.tmp 26) (.region [] [⟨none, [((some 27), .op (.old (.makeInterface 9 (.const (.string ⟨#[116, 104, 101, 32, 114, 101, 115, 117, 108, 116, 32, 111, 102, 32, 40, 108, 101, 110, 40, 120, 41, 32, 42, 32, 99, 111, 117, 110, 116, 41, 32, 111, 118, 101, 114, 102, 108, 111, 119, 115]⟩))) 20)), (none, .op (.old (.panic (.tmp 27)) 0))]⟩]) (.skip)) <|
  .seq (.region [] [⟨none, [((some 28), .op (.mov (.tmp 6))), ((some 29), .op (.conv .i64 (.tmp 28))), ((some 30), .op (.make 4 32 [(.val (.int .i64 0)), (.val (.int .i64 0)), (.val (.int .i64 0)), (.val (.int .i64 0))] (.tmp 29) (.tmp 29))), ((some 7), .op (.mov (.tmp 30)))]⟩]) <|
  .seq (.region [] [⟨none, [((some 31), .op (.mov (.tmp 7))), ((some 32), .op (.mov (.tmp 0))), ((some 33), .op (.old (.call { callee := .builtin .copy, args := #[(.tmp 31), (.tmp 32)], argTypes := #[67, 67] }) 3)), ((some 8), .op (.mov (.tmp 33)))]⟩]) <|
  .seq (.block 0 (.loop E_slices_Repeat___least_plan_least_plan__0)) <|
  .seq (.region [] [⟨none, [((some 47), .op (.mov (.tmp 7))), ((some 4), .op (.mov (.tmp 47)))]⟩]) <|
  .ret,
  [.tmp 4], 48⟩
theorem D_slices_Repeat___least_plan_least_plan__ok : compDF Tryz.prog 88 [] = some D_slices_Repeat___least_plan_least_plan_ := by kernel_rfl

def D_math_bits_Mul : DF := ⟨.seq (.region [] [⟨none, [((some 4), .op (.mov (.val (.val (.int .u64 0))))), ((some 5), .op (.mov (.val (.val (.int .u64 0)))))]⟩]) <|
  .seq (.cond (.val (.val (.bool false))) (.seq (.region [] [⟨none, [((some 11), .op (.mov (.tmp 0))), ((some 12), .op (.conv .u32 (.tmp 11))), ((some 13), .op (.mov (.tmp 1))), ((some 14), .op (.conv .u32 (.tmp 13))), ((some 15), .call (.val (.fn 129 [] [])) [(.tmp 12), (.tmp 14)]), ((some 10), .op (.mov (.tmp 15))), ((some 16), .op (.ext 0 (.tmp 10))), ((some 17), .op (.ext 1 (.tmp 10))), ((some 6), .op (.mov (.tmp 16))), ((some 7), .op (.mov (.tmp 17)))]⟩]) <|
  .seq (.region [] [⟨none, [((some 18), .op (.mov (.tmp 6))), ((some 19), .op (.conv .u64 (.tmp 18))), ((some 20), .op (.mov (.tmp 7))), ((some 21), .op (.conv .u64 (.tmp 20))), ((some 4), .op (.mov (.tmp 19))), ((some 5), .op (.mov (.tmp 21)))]⟩]) <|
  .ret) (.skip)) <|
  .seq (.region [] [⟨none, [((some 23), .op (.mov (.tmp 0))), ((some 24), .op (.mov (.tmp 1))), ((some 25), .call (.val (.fn 130 [] [])) [(.tmp 23), (.tmp 24)]), ((some 22), .op (.mov (.tmp 25))), ((some 26), .op (.ext 0 (.tmp 22))), ((some 27), .op (.ext 1 (.tmp 22))), ((some 8), .op (.mov (.tmp 26))), ((some 9), .op (.mov (.tmp 27)))]⟩]) <|
  .seq (.region [] [⟨none, [((some 28), .op (.mov (.tmp 8))), ((some 29), .op (.mov (.tmp 9))), ((some 4), .op (.mov (.tmp 28))), ((some 5), .op (.mov (.tmp 29)))]⟩]) <|
  .ret,
  [.tmp 4, .tmp 5], 30⟩
theorem D_math_bits_Mul_ok : compDF Tryz.prog 114 [] = some D_math_bits_Mul := by kernel_rfl

def D_math_bits_Mul32 : DF := ⟨.seq (.region [] [⟨none, [((some 4), .op (.mov (.val (.val (.int .u32 0))))), ((some 5), .op (.mov (.val (.val (.int .u32 0)))))]⟩]) <|
  .seq (.region [] [⟨none, [((some 7), .op (.mov (.tmp 0))), ((some 8), .op (.conv .u64 (.tmp 7))), ((some 9), .op (.mov (.tmp 1))), ((some 10), .op (.conv .u64 (.tmp 9))), ((some 11), .op (.arith .mul (.tmp 8) (.tmp 10))), ((some 6), .op (.mov (.tmp 11)))]⟩]) <|
  .seq (.region [] [⟨none, [((some 12), .op (.mov (.tmp 6))), ((some 13), .op (.sh false (.tmp 12) (.val (.val (.int .u64 32))))), ((some 14), .op (.conv .u32 (.tmp 13))), ((some 15), .op (.mov (.tmp 6))), ((some 16), .op (.conv .u32 (.tmp 15))), ((some 4), .op (.mov (.tmp 14))), ((some 5), .op (.mov (.tmp 16)))]⟩]) <|
  .ret,
  [.tmp 4, .tmp 5], 17⟩
theorem D_math_bits_Mul32_ok : compDF Tryz.prog 129 [] = some D_math_bits_Mul32 := by kernel_rfl

def D_math_bits_Mul64 : DF := ⟨.seq (.region [] [⟨none, [((some 4), .op (.mov (.val (.val (.int .u64 0))))), ((some 5), .op (.mov (.val (.val (.int .u64 0)))))]⟩]) <|
  .seq (.region [] [⟨none, [((some 14), .op (.mov (.tmp 0))), ((some 15), .op (.arith .and (.tmp 14) (.val (.val (.int .u64 4294967295))))), ((some 6), .op (.mov (.tmp 15)))]⟩]) <|
  .seq (.region [] [⟨none, [((some 16), .op (.mov (.tmp 0))), ((some 17), .op (.sh false (.tmp 16) (.val (.val (.int .u64 32))))), ((some 7), .op (.mov (.tmp 17)))]⟩]) <|
  .seq (.region [] [⟨none, [((some 18), .op (.mov (.tmp 1))), ((some 19), .op (.arith .and (.tmp 18) (.val (.val (.int .u64 4294967295))))), ((some 8), .op (.mov (.tmp 19)))]⟩]) <|
  .seq (.region [] [⟨none, [((some 20), .op (.mov (.tmp 1))), ((some 21), .op (.sh false (.tmp 20) (.val (.val (.int .u64 32))))), ((some 9), .op (.mov (.tmp 21)))]⟩]) <|
  .seq (.region [] [⟨none, [((some 22), .op (.mov (.tmp 6))), ((some 23), .op (.mov (.tmp 8))), ((some 24), .op (.arith .mul (.tmp 22) (.tmp 23))), ((some 10), .op (.mov (.tmp 24)))]⟩]) <|
  .seq (.region [] [⟨none, [((some 25), .op (.mov (.tmp 7))), ((some 26), .op (.mov (.tmp 8))), ((some 27), .op (.arith .mul (.tmp 25) (.tmp 26))), ((some 28), .op (.mov (.tmp 10))), ((some 29), .op (.sh false (.tmp 28) (.val (.val (.int .u64 32))))), ((some 30), .op (.arith .add (.tmp 27) (.tmp 29))), ((some 11), .op (.mov (.tmp 30)))]⟩]) <|
  .seq (.region [] [⟨none, [((some 31), .op (.mov (.tmp 11))), ((some 32), .op (.arith .and (.tmp 31) (.val (.val (.int .u64 4294967295))))), ((some 12), .op (.mov (.tmp 32)))]⟩]) <|
  .seq (.region [] [⟨none, [((some 33), .op (.mov (.tmp 11))), ((some 34), .op (.sh false (.tmp 33) (.val (.val (.int .u64 32))))), ((some 13), .op (.mov (.tmp 34)))]⟩]) <|
  .seq (.region [] [⟨none, [((some 35), .op (.mov (.tmp 12))), ((some 36), .op (.mov (.tmp 6))), ((some 37), .op (.mov (.tmp 9))), ((some 38), .op (.arith .mul (.tmp 36) (.tmp 37))), ((some 39), .op (.arith .add (.tmp 35) (.tmp 38))), ((some 12), .op (.mov (.tmp 39)))]⟩]) <|
  .seq (.region [] [⟨none, [((some 40), .op (.mov (.tmp 7))), ((some 41), .op (.mov (.tmp 9))), ((some 42), .op (.arith .mul (.tmp 40) (.tmp 41))), ((some 43), .op (.mov (.tmp 13))), ((some 44), .op (.arith .add (.tmp 42) (.tmp 43))), ((some 45), .op (.mov (.tmp 12))), ((some 46), .op (.sh false (.tmp 45) (.val (.val (.int .u64 32))))), ((some 47), .op (.arith .add (.tmp 44) (.tmp 46))), ((some 4), .op (.mov (.tmp 47)))]⟩]) <|
  .seq (.region [] [⟨none, [((some 48), .op (.mov (.tmp 0))), ((some 49), .op (.mov (.tmp 1))), ((some 50), .op (.arith .mul (.tmp 48) (.tmp 49))), ((some 5), .op (.mov (.tmp 50)))]⟩]) <|
  .ret,
  [.tmp 4, .tmp 5], 51⟩
theorem D_math_bits_Mul64_ok : compDF Tryz.prog 130 [] = some D_math_bits_Mul64 := by kernel_rfl

def tabRep : List (FuncId × DF) := [(88, D_slices_Repeat___least_plan_least_plan_), (114, D_math_bits_Mul), (129, D_math_bits_Mul32), (130, D_math_bits_Mul64)]
theorem tabRep_ok : TabOk Tryz.prog tabRep := by
  intro p hp
  simp only [tabRep, List.mem_cons, List.not_mem_nil, or_false] at hp
  rcases hp with rfl | rfl | rfl | rfl
  · exact ⟨_, D_slices_Repeat___least_plan_least_plan__ok⟩
  · exact ⟨_, D_math_bits_Mul_ok⟩
  · exact ⟨_, D_math_bits_Mul32_ok⟩
  · exact ⟨_, D_math_bits_Mul64_ok⟩

def encPl (p : Plan) : List V := [gi p.rule, gi p.height, gi p.rules, gi p.terms]
abbrev encPs (P : List Plan) : V := .fro (P.map encPl)
theorem encPs_tree (P : List Plan) : Tree (encPs P) := tree_fro _ _ fun x _ v hv => by
  simp [encPl] at hv
  rcases hv with rfl | rfl | rfl | rfl <;> exact .val _

theorem rep_of {n : Nat} (h : eClosed Tryz.prog tabRep (fun _ _ => none) 88 [encPs [noP], gi n] = some (encPs (List.replicate n noP))) : PNew Tryz.prog 88 [encPs [noP], gi n] (encPs (List.replicate n noP)) :=
  eClosed_ok mixed tabRep_ok (noExt _) (by
    intro v hv; simp at hv
    rcases hv with rfl | rfl
    · exact encPs_tree [noP]
    · exact .val _) h
theorem pn_Repeat {n : Nat} (h1 : 1 ≤ n) (h2 : n ≤ 16) : PNew Tryz.prog 88 [encPs [noP], gi n] (encPs (List.replicate n noP)) := by
  have : n = 1 ∨ n = 2 ∨ n = 3 ∨ n = 4 ∨ n = 5 ∨ n = 6 ∨ n = 7 ∨ n = 8 ∨ n = 9 ∨ n = 10 ∨ n = 11 ∨ n = 12 ∨ n = 13 ∨ n = 14 ∨ n = 15 ∨ n = 16 := by omega
  rcases this with rfl | rfl | rfl | rfl | rfl | rfl | rfl | rfl | rfl | rfl | rfl | rfl | rfl | rfl | rfl | rfl <;> exact rep_of (by kernel_rfl)

theorem encPl_tree (p : Plan) : ∀ v ∈ encPl p, Tree v := by
  intro v hv; simp [encPl] at hv
  rcases hv with rfl | rfl | rfl | rfl <;> exact .val _
theorem frn_pl (h : Heap) (p : Plan) : FrN h (.agg (encPl p)) (.agg (encPl p)) := .agg _ _ rfl fun i hi => by
  match i, hi with
  | 0, _ => exact .val _
  | 1, _ => exact .val _
  | 2, _ => exact .val _
  | 3, _ => exact .val _
  | n + 4, h => exact absurd h (by simp [encPl])
theorem frn_tup2 {h : Heap} {a b c d : V} (ha : FrN h a c) (hb : FrN h b d) : FrN h (.tup [a, b]) (.tup [c, d]) := .tup _ _ rfl fun i hi => by
  match i, hi with
  | 0, _ => exact ha
  | 1, _ => exact hb
  | n + 2, h => exact absurd h (by simp)
/-! sums -/
/-- Plans whose numbers are no greater than they may be. -/
def OkP (p : Plan) : Prop := PosP p ∧ (-1 ≤ p.rule ∧ p.rule ≤ 1000000) ∧ 0 ≤ p.height ∧ p.height ≤ 1000000
theorem ok_zeroP : OkP zeroP := by unfold OkP PosP zeroP; decide

theorem min_mm {x : Int} : (if x < 1048576 then x else 1048576) = min 1048576 x := by omega
theorem max_mm {x y : Int} : (if y > x then y else x) = max x y := by omega

def B_least_sum_0 : SC :=
  .seq (.region false [⟨none, [((some 12), .op (.arith .lss (.tmp 11) (.tmp 10)))]⟩]) <|
  .seq (.cond (.tmp 12) (.skip) (.exit 0)) <|
  .seq (.block 1 (.seq (.region false [⟨none, [((some 13), .op (.idx 1 (.tmp 9) (.tmp 11))), ((some 14), .op (.load none (.tmp 13))), ((some 7), .op (.mov (.tmp 14)))]⟩]) <|
  .seq (.seq (.region false [⟨none, [((some 15), .op (.mov (.tmp 7))), ((some 16), .op (.arith .geq (.tmp 15) (.val (.val (.int .i64 0)))))]⟩]) <|
  .cond (.tmp 16) (.seq (.region false [⟨none, [((some 17), .op (.addr 3 (.tmp 4))), ((some 18), .op (.load none (.tmp 17))), ((some 19), .op (.arith .add (.tmp 18) (.val (.val (.int .i64 1))))), ((some 20), .op (.mm false (.val (.val (.int .i64 1048576))) (.tmp 19))), ((some 21), .op (.addr 3 (.tmp 4))), (none, .op (.store 1 (.tmp 21) (.tmp 20)))]⟩]) <|
  .exit 1) (.skip)) <|
  .seq (.region false [⟨none, [((some 22), .op (.mov (.tmp 1))), ((some 23), .op (.mov (.tmp 7))), ((some 24), .op (.arith .sub (.val (.val (.int .i64 (-1)))) (.tmp 23))), ((some 25), .op (.idx 4 (.tmp 22) (.tmp 24))), ((some 26), .op (.load (some 4) (.tmp 25))), ((some 8), .op (.alloc [(.val (.int .i64 0)), (.val (.int .i64 0)), (.val (.int .i64 0)), (.val (.int .i64 0))])), (none, .op (.store 4 (.tmp 8) (.tmp 26)))]⟩]) <|
  .seq (.seq (.region false [⟨none, [((some 27), .op (.addr 0 (.tmp 8))), ((some 28), .op (.load none (.tmp 27))), ((some 29), .op (.arith .lss (.tmp 28) (.val (.val (.int .i64 0)))))]⟩]) <|
  .cond (.tmp 29) (.seq (.region false [⟨none, [((some 30), .op (.load (some 4) (.tmp 4))), (none, .op (.store 4 (.tmp 4) (.tmp 30))), ((some 5), .op (.mov (.val (.val (.bool false)))))]⟩]) <|
  .ret) (.skip)) <|
  .seq (.region false [⟨none, [((some 31), .op (.addr 1 (.tmp 4))), ((some 32), .op (.load none (.tmp 31))), ((some 33), .op (.addr 1 (.tmp 8))), ((some 34), .op (.load none (.tmp 33))), ((some 35), .op (.mm true (.tmp 32) (.tmp 34))), ((some 36), .op (.addr 1 (.tmp 4))), (none, .op (.store 1 (.tmp 36) (.tmp 35)))]⟩]) <|
  .regionA [(45, 49)] [⟨none, [((some 37), .op (.addr 2 (.tmp 4))), ((some 38), .op (.load none (.tmp 37))), ((some 39), .op (.addr 2 (.tmp 8))), ((some 40), .op (.load none (.tmp 39))), ((some 41), .op (.arith .add (.tmp 38) (.tmp 40))), ((some 42), .op (.mm false (.val (.val (.int .i64 1048576))) (.tmp 41))), ((some 43), .op (.addr 3 (.tmp 4))), ((some 44), .op (.load none (.tmp 43))), ((some 45), .op (.addr 3 (.tmp 8))), ((some 46), .op (.load none (.tmp 45))), ((some 47), .op (.arith .add (.tmp 44) (.tmp 46))), ((some 48), .op (.mm false (.val (.val (.int .i64 1048576))) (.tmp 47))), ((some 49), .op (.addr 2 (.tmp 4))), (none, .op (.store 1 (.tmp 49) (.tmp 42))), ((some 50), .op (.addr 3 (.tmp 4))), (none, .op (.store 1 (.tmp 50) (.tmp 48)))]⟩])) <|
  .region false [⟨none, [((some 51), .op (.arith .add (.tmp 11) (.val (.val (.int .i64 1))))), ((some 11), .op (.mov (.tmp 51)))]⟩]
def S_least_sum : SF := ⟨.seq (.region false [⟨none, [((some 4), .op (.alloc [(.val (.int .i64 0)), (.val (.int .i64 0)), (.val (.int .i64 0)), (.val (.int .i64 0))])), ((some 5), .op (.mov (.val (.val (.bool false)))))]⟩]) <|
  .seq (.seq (.region false [⟨none, [((some 9), .op (.mov (.tmp 0))), ((some 10), .op (.len (.tmp 9))), ((some 11), .op (.mov (.val (.val (.int .i64 0)))))]⟩]) <|
  .block 0 (.loop B_least_sum_0)) <|
  .seq (.region false [⟨none, [((some 52), .op (.load (some 4) (.tmp 4))), (none, .op (.store 4 (.tmp 4) (.tmp 52))), ((some 5), .op (.mov (.val (.val (.bool true)))))]⟩]) <|
  .ret,
  [.cell 4 (some 4), .tmp 5], 53⟩
theorem S_least_sum_ok : compF Tryz.prog 90 [] = some S_least_sum := by kernel_rfl

theorem encPs_get {P : List Plan} {m : Nat} (h : m < P.length) : (P.map encPl)[m]? = some (encPl (pAt P m)) := by
  simp [pAt, List.getD_eq_getElem?_getD, h]

set_option maxHeartbeats 2000000 in
theorem pn_sum (P : List Plan) (hP : ∀ m, OkP (pAt P m)) (l : List Int) (hl : Short l) (hn : ∀ x ∈ l, In64 x ∧ (x < 0 → -1 - x < P.length)) :
    PNew Tryz.prog 90 [encI l, encPs P] (.tup [.agg (encPl (sumP P l zeroP).1), gb (sumP P l zeroP).2]) := by
  have key : ∀ H, MCall Tryz.prog 90 [encI l, encPs P] H fun r _ => r = .tup [.agg (encPl (sumP P l zeroP).1), gb (sumP P l zeroP).2] := ?_
  · refine PNew.of (by
      intro v hv; simp at hv
      rcases hv with rfl | rfl
      · exact encI_tree l
      · exact encPs_tree P) ((key _).mono fun r H' e h' _ => ?_)
    rw [e]; exact frn_tup2 (frn_pl _ _) (.val _)
  intro H
  refine MCall.of mixed S_least_sum_ok ?_
  unfold Short at hl
  simp (disch := omega) only [↓wr, ↓reduceIte, wq, eq_self, ne_eq, implies_true, oneV, intOp, goI, splice, sBuild, fillE, nilB, isNil, Nat.reduceEqDiff, Nat.reduceAdd, Nat.reduceLT, Nat.reduceLeDiff, Int.reduceNeg, Int.reduceToNat, reduceCtorEq, decide_true, decide_false, S_least_sum, encI]
  intro m hm
  try simp (disch := omega) only [↓wr, ↓reduceIte, wq, eq_self, ne_eq, implies_true, oneV, intOp, goI, splice, sBuild, fillE, nilB, isNil, Nat.reduceEqDiff, Nat.reduceAdd, Nat.reduceLT, Nat.reduceLeDiff, Int.reduceNeg, Int.reduceToNat, reduceCtorEq, decide_true, decide_false, encI]
  refine LoopG.up l.length (fun i T H' => ∃ s : Plan, OkP s ∧ s.rule = 0 ∧ sumP P (l.drop i) s = sumP P l zeroP ∧ H' m = .arr 4 [encPl s] ∧ T 1 = encPs P ∧ T 4 = .ptr m 0 0 ∧ T 9 = encI l ∧ T 10 = gi l.length ∧ T 11 = gi i) ?_ ?_
  · exact ⟨zeroP, ok_zeroP, rfl, rfl, by simp [View.set, encPl, zeroP], rfl, rfl, rfl, rfl, rfl⟩
  rintro i k T H hk ⟨s, hs, hs0, hsum, hH, t1, t4, t9, t10, t11⟩
  unfold OkP PosP at hs
  simp (disch := omega) only [↓wr, ↓reduceIte, wq, eq_self, ne_eq, implies_true, oneV, intOp, goI, splice, sBuild, fillE, nilB, isNil, Nat.reduceEqDiff, Nat.reduceAdd, Nat.reduceLT, Nat.reduceLeDiff, Int.reduceNeg, Int.reduceToNat, reduceCtorEq, decide_true, decide_false, B_least_sum_0, t1, t4, t9, t10, t11, encI]
  refine GoB.dec (fun hc => ?_) (fun hc => ?_)
  · have hg : l[i]? = some (l[i]'(by omega)) := List.getElem?_eq_getElem (by omega)
    have hmem : l[i]'(by omega) ∈ l := List.getElem_mem _
    rw [drop_at (show i < l.length by omega)] at hsum
    generalize l[i]'(by omega) = x at hg hmem hsum
    obtain ⟨⟨hx1, hx2⟩, hx3⟩ := hn x hmem
    simp (disch := omega) only [↓wr, ↓reduceIte, wq, eq_self, ne_eq, implies_true, oneV, intOp, goI, splice, sBuild, fillE, nilB, isNil, Nat.reduceEqDiff, Nat.reduceAdd, Nat.reduceLT, Nat.reduceLeDiff, Int.reduceNeg, Int.reduceToNat, reduceCtorEq, decide_true, decide_false, t1, t4, t9, t10, t11, encI, List.getElem?_map, hg]
    refine GoB.dec (fun hd => ?_) (fun hd => ?_)
    · simp (disch := omega) only [↓wr, ↓reduceIte, wq, eq_self, ne_eq, implies_true, oneV, intOp, goI, splice, sBuild, fillE, nilB, isNil, Nat.reduceEqDiff, Nat.reduceAdd, Nat.reduceLT, Nat.reduceLeDiff, Int.reduceNeg, Int.reduceToNat, reduceCtorEq, decide_true, decide_false, t1, t4, t9, t10, t11, encI, hH, encPl, min_mm]
      rw [sumP_term (show 0 ≤ x from hd)] at hsum
      refine up_next hk (by omega) ⟨_, ?_, ?_, hsum, ?_, t1, t4, t9, t10, rfl⟩
      · unfold OkP PosP; simp only; omega
      · exact hs0
      · simp [View.set]
    · have hm : (nonN x) < P.length := by have := hx3 (by omega); unfold nonN; omega
      have hp := hP (nonN x)
      unfold OkP PosP at hp
      simp (disch := omega) only [↓wr, ↓reduceIte, wq, eq_self, ne_eq, implies_true, oneV, intOp, goI, splice, sBuild, fillE, nilB, isNil, Nat.reduceEqDiff, Nat.reduceAdd, Nat.reduceLT, Nat.reduceLeDiff, Int.reduceNeg, Int.reduceToNat, reduceCtorEq, decide_true, decide_false, t1, t4, t9, t10, t11, encI, hH, encPs_get hm]
      simp (disch := omega) only [↓wr, ↓reduceIte, wq, eq_self, ne_eq, implies_true, oneV, intOp, goI, splice, sBuild, fillE, nilB, isNil, Nat.reduceEqDiff, Nat.reduceAdd, Nat.reduceLT, Nat.reduceLeDiff, Int.reduceNeg, Int.reduceToNat, reduceCtorEq, decide_true, decide_false, t1, t4, t9, t10, t11, encI, hH, encPl]
      intro q hq
      have hqm : m ≠ q := by rintro rfl; rw [hH] at hq; simp at hq
      try simp (disch := omega) only [↓wr, ↓reduceIte, wq, eq_self, ne_eq, implies_true, oneV, intOp, goI, splice, sBuild, fillE, nilB, isNil, Nat.reduceEqDiff, Nat.reduceAdd, Nat.reduceLT, Nat.reduceLeDiff, Int.reduceNeg, Int.reduceToNat, reduceCtorEq, decide_true, decide_false, t1, t4, t9, t10, t11, encI, hH, hqm, hqm.symm, encPl]
      refine GoB.dec (fun he => ?_) (fun he => ?_)
      · simp (disch := omega) only [↓wr, ↓reduceIte, wq, eq_self, ne_eq, implies_true, oneV, intOp, goI, splice, sBuild, fillE, nilB, isNil, Nat.reduceEqDiff, Nat.reduceAdd, Nat.reduceLT, Nat.reduceLeDiff, Int.reduceNeg, Int.reduceToNat, reduceCtorEq, decide_true, decide_false, t1, t4, t9, t10, t11, encI, hH, hqm, hqm.symm, encPl]
        rw [sumP_fail (by omega) he] at hsum
        rw [← hsum]
      · simp (disch := omega) only [↓wr, ↓reduceIte, wq, eq_self, ne_eq, implies_true, oneV, intOp, goI, splice, sBuild, fillE, nilB, isNil, Nat.reduceEqDiff, Nat.reduceAdd, Nat.reduceLT, Nat.reduceLeDiff, Int.reduceNeg, Int.reduceToNat, reduceCtorEq, decide_true, decide_false, t1, t4, t9, t10, t11, encI, hH, hqm, hqm.symm, encPl, min_mm, max_mm]
        rw [sumP_non (by omega) he] at hsum
        refine up_next hk (by omega) ⟨_, ?_, ?_, hsum, ?_, t1, t4, t9, t10, rfl⟩
        · unfold OkP PosP; simp only; omega
        · exact hs0
        · simp [View.set, hqm]
  · simp (disch := omega) only [↓wr, ↓reduceIte, wq, eq_self, ne_eq, implies_true, oneV, intOp, goI, splice, sBuild, fillE, nilB, isNil, Nat.reduceEqDiff, Nat.reduceAdd, Nat.reduceLT, Nat.reduceLeDiff, Int.reduceNeg, Int.reduceToNat, reduceCtorEq, decide_true, decide_false, t1, t4, t9, t10, t11, hH, encPl]
    rw [List.drop_eq_nil_of_le (by omega)] at hsum
    rw [← hsum]; try rfl

def S_slices_Clone___least_plan_least_plan_ : SF := ⟨.seq (.region false [⟨none, [((some 2), .op (.mov (.val (.emp 1))))]⟩]) <|
  .seq (.seq (.region false [⟨none, [((some 3), .op (.mov (.tmp 0))), ((some 4), .op (.nil true 0 (.tmp 3) (.val (.emp 1))))]⟩]) <|
  .cond (.tmp 4) (.seq (.region false [⟨none, [((some 2), .op (.mov (.val (.emp 1))))]⟩]) <|
  .ret) (.skip)) <|
  .seq (.region false [⟨none, [((some 5), .op (.mov (.val (.emp 2)))), ((some 6), .op (.mov (.tmp 0))), ((some 7), .op (.app 4 32 (.tmp 5) (.tmp 6))), ((some 2), .op (.mov (.tmp 7)))]⟩]) <|
  .ret,
  [.tmp 2], 8⟩
theorem S_slices_Clone___least_plan_least_plan__ok : compF Tryz.prog 89 [] = some S_slices_Clone___least_plan_least_plan_ := by kernel_rfl

/-- A copy of plans. -/
theorem mo_ClonePl (P : List Plan) (hl : P.length ≤ 100000) (h1 : 1 ≤ P.length) (u : V) (H : View) (hu : u = encPs P ∨ OwnA H u 4 (P.map encPl)) :
    MCall Tryz.prog 89 [u] H fun r H' => OwnA H' r 4 (P.map encPl) ∧ Fresh H H' r := by
  have hall : ((P.map encPl).all fun e => e.length == 4 && e.all cellOk) = true := by simp [List.all_map, encPl, cellOk]
  refine MCall.of mixed S_slices_Clone___least_plan_least_plan__ok ?_
  cases P with
  | nil => simp at h1
  | cons p r =>
    simp only [List.length_cons] at hl
    rcases hu with rfl | hu
    · simp (disch := omega) only [↓wr, ↓reduceIte, wq, eq_self, ne_eq, implies_true, oneV, intOp, goI, splice, sBuild, fillE, nilB, isNil, Nat.reduceEqDiff, Nat.reduceAdd, Nat.reduceLT, Nat.reduceLeDiff, Int.reduceNeg, Int.reduceToNat, reduceCtorEq, decide_true, decide_false, S_slices_Clone___least_plan_least_plan_, encPs]
      refine ⟨by simpa using hall, by unfold limit; simp; omega, fun m hm => ?_⟩
      simp (disch := omega) only [↓wr, ↓reduceIte, wq, eq_self, ne_eq, implies_true, oneV, intOp, goI, splice, sBuild, fillE, nilB, isNil, Nat.reduceEqDiff, Nat.reduceAdd, Nat.reduceLT, Nat.reduceLeDiff, Int.reduceNeg, Int.reduceToNat, reduceCtorEq, decide_true, decide_false]
      have := OwnA.new (H := H) (n := m) (sz := 4) (es := (p :: r).map encPl)
      simp only [List.length_map, List.length_cons] at this
      exact ⟨by simpa using this, .new hm⟩
    · obtain ⟨n, rfl, hn⟩ := hu.sl (by simp)
      simp only [List.length_map, List.length_cons] at hn ⊢
      have he : elemsOf H (.sl n 0 (r.length + 1) 4) = some ((p :: r).map encPl, [n]) := by
        rw [elemsOf_sl _ n 0 r.length 4 4 _ hn (by simp), List.drop_zero, List.take_of_length_le (by simp)]
      simp (disch := omega) only [↓wr, ↓reduceIte, wq, eq_self, ne_eq, implies_true, oneV, intOp, goI, splice, sBuild, fillE, nilB, isNil, Nat.reduceEqDiff, Nat.reduceAdd, Nat.reduceLT, Nat.reduceLeDiff, Int.reduceNeg, Int.reduceToNat, reduceCtorEq, decide_true, decide_false, S_slices_Clone___least_plan_least_plan_, he]
      refine ⟨by simpa using hall, by unfold limit; simp; omega, fun m hm => ?_⟩
      simp (disch := omega) only [↓wr, ↓reduceIte, wq, eq_self, ne_eq, implies_true, oneV, intOp, goI, splice, sBuild, fillE, nilB, isNil, Nat.reduceEqDiff, Nat.reduceAdd, Nat.reduceLT, Nat.reduceLeDiff, Int.reduceNeg, Int.reduceToNat, reduceCtorEq, decide_true, decide_false]
      have := OwnA.new (H := H) (n := m) (sz := 4) (es := (p :: r).map encPl)
      simp only [List.length_map, List.length_cons] at this
      exact ⟨by simpa using this, .new hm⟩
end Gv

/-
  The plans of a grammar's nonterminals: what the program's own function answers.
  Conditions: a grammar that may be.
-/
set_option linter.unusedSimpArgs false
set_option maxRecDepth 100000
namespace Gv
open Go Go.Proofs

theorem stage_ok {g : Gram} (hr : g.rules.length ≤ 40) {k : Nat} (hk : k ≤ 16) (m : Nat) : OkP (pAt (stageP g k) m) := by
  refine ⟨stage_pos g k m, ?_⟩
  by_cases h : Known (stageP g k) m
  · obtain ⟨a, b, _⟩ := stage_height g k m h
    obtain ⟨j, hj, hn', hh, hc⟩ := stage_from h
    obtain ⟨i, r, hr', _, _, hp, _⟩ := cand_some hc
    have hi : i < g.rules.length := (List.getElem?_eq_some_iff.1 hr').1
    have : (pAt (stageP g k) m).rule = i := by rw [hp]; simp [planOf]
    omega
  · rw [stage_un h]; unfold noP; decide

/-- Plans, in a tree or in a list that a function owns. -/
def HasP (H : View) (u : V) (P : List Plan) : Prop := u = encPs P ∨ OwnA H u 4 (P.map encPl)
theorem HasP.lent {H : View} {u : V} {P : List Plan} (h : HasP H u P) : Lent H u (encPs P) := by
  rcases h with rfl | h
  · exact Lent.tree (encPs_tree P)
  · exact Lent.own h fun e he v hv => by
      obtain ⟨p, _, rfl⟩ := List.mem_map.1 he
      exact encPl_tree p v hv
theorem HasP.keep {H H' : View} {u : V} {P : List Plan} (h : HasP H u P) (hk : ∀ id, owner u = some id → H' id = H id) : HasP H' u P := h.imp id fun h => h.keep hk
theorem HasP.live {H : View} {u : V} {P : List Plan} (h : HasP H u P) {id : Nat} (hid : owner u = some id) : H id ≠ .dead := by
  rcases h with rfl | h
  · simp [owner] at hid
  · rw [(h.live hid).1]; simp

theorem known_set {N : List Plan} {i m : Nat} {p : Plan} (hp : 0 ≤ p.rule) (h : Known N m) : Known (N.set i p) m := by
  have hm := known_lt h
  unfold Known at h ⊢
  rw [pAt_set hm]; split
  · exact hp
  · exact h

def B_least_plans_0 : SC :=
  .seq (.region false [⟨none, [((some 24), .op (.arith .lss (.tmp 23) (.tmp 22)))]⟩]) <|
  .seq (.cond (.tmp 24) (.skip) (.exit 2)) <|
  .seq (.block 3 (.seq (.region false [⟨none, [((some 25), .op (.mov (.tmp 23))), ((some 26), .op (.idx 3 (.tmp 21) (.tmp 23))), ((some 27), .op (.load (some 3) (.tmp 26))), ((some 7), .op (.alloc [(.val (.int .i64 0)), (.emp 1), (.val (.int .i64 0))])), ((some 6), .op (.mov (.tmp 25))), (none, .op (.store 3 (.tmp 7) (.tmp 27)))]⟩]) <|
  .seq (.seq (.region false [⟨none, [((some 28), .op (.mov (.tmp 5))), ((some 29), .op (.addr 0 (.tmp 7))), ((some 30), .op (.load none (.tmp 29))), ((some 31), .op (.idx 4 (.tmp 28) (.tmp 30))), ((some 32), .op (.addr 0 (.tmp 31))), ((some 33), .op (.load none (.tmp 32))), ((some 34), .op (.arith .geq (.tmp 33) (.val (.val (.int .i64 0)))))]⟩]) <|
  .cond (.tmp 34) (.exit 3) (.skip)) <|
  .seq (.region false [⟨none, [((some 36), .op (.addr 1 (.tmp 7))), ((some 37), .op (.load none (.tmp 36))), ((some 38), .op (.mov (.tmp 3))), ((some 39), .call (.val (.fn 90 [] [])) [(.tmp 37), (.tmp 38)]), ((some 35), .op (.mov (.tmp 39))), ((some 40), .op (.ext 0 (.tmp 35))), ((some 41), .op (.ext 1 (.tmp 35))), ((some 8), .op (.alloc [(.val (.int .i64 0)), (.val (.int .i64 0)), (.val (.int .i64 0)), (.val (.int .i64 0))])), (none, .op (.store 4 (.tmp 8) (.tmp 40))), ((some 9), .op (.mov (.tmp 41)))]⟩]) <|
  .seq (.region false [⟨none, [((some 42), .op (.mov (.tmp 9)))]⟩]) <|
  .cond (.tmp 42) (.seq (.region false [⟨none, [((some 43), .op (.mov (.tmp 5))), ((some 44), .op (.addr 0 (.tmp 7))), ((some 45), .op (.load none (.tmp 44))), ((some 46), .op (.mov (.tmp 6))), ((some 47), .op (.addr 1 (.tmp 8))), ((some 48), .op (.load none (.tmp 47))), ((some 49), .op (.arith .add (.tmp 48) (.val (.val (.int .i64 1))))), ((some 50), .op (.addr 2 (.tmp 8))), ((some 51), .op (.load none (.tmp 50))), ((some 52), .op (.arith .add (.tmp 51) (.val (.val (.int .i64 1))))), ((some 53), .op (.mm false (.val (.val (.int .i64 1048576))) (.tmp 52))), ((some 54), .op (.addr 3 (.tmp 8))), ((some 55), .op (.load none (.tmp 54))), ((some 56), .op (.build [(.val (.int .i64 0)), (.val (.int .i64 0)), (.val (.int .i64 0)), (.val (.int .i64 0))] [(0, 1, (.tmp 46)), (1, 1, (.tmp 49)), (2, 1, (.tmp 53)), (3, 1, (.tmp 55))])), ((some 57), .op (.idx 4 (.tmp 43) (.tmp 45))), (none, .op (.store 4 (.tmp 57) (.tmp 56)))]⟩]) <|
  .region false [⟨none, [((some 4), .op (.mov (.val (.val (.bool false)))))]⟩]) (.skip))) <|
  .region false [⟨none, [((some 58), .op (.arith .add (.tmp 23) (.val (.val (.int .i64 1))))), ((some 23), .op (.mov (.tmp 58)))]⟩]
def B_least_plans_1 : SC :=
  .seq (.seq (.region false [⟨none, [((some 16), .op (.mov (.tmp 4))), ((some 17), .op (.not (.tmp 16)))]⟩]) <|
  .cond (.tmp 17) (.skip) (.exit 0)) <|
  .block 1 (.seq (.region false [⟨none, [((some 4), .op (.mov (.val (.val (.bool true)))))]⟩]) <|
  .seq (.region false [⟨none, [((some 18), .op (.mov (.tmp 3))), ((some 19), .call (.val (.fn 89 [] [])) [(.tmp 18)]), ((some 5), .op (.mov (.tmp 19)))]⟩]) <|
  .seq (.seq (.region false [⟨none, [((some 20), .op (.addr 2 (.tmp 1))), ((some 21), .op (.load none (.tmp 20))), ((some 22), .op (.len (.tmp 21))), ((some 23), .op (.mov (.val (.val (.int .i64 0)))))]⟩]) <|
  .block 2 (.loop B_least_plans_0)) <|
  .region false [⟨none, [((some 59), .op (.mov (.tmp 5))), ((some 3), .op (.mov (.tmp 59)))]⟩])
def S_least_plans : SF := ⟨.seq (.region false [⟨none, [((some 1), .op (.frz (.tmp 0))), ((some 2), .op (.mov (.val (.emp 1))))]⟩]) <|
  .seq (.region false [⟨none, [((some 10), .op (.build [(.val (.int .i64 0)), (.val (.int .i64 0)), (.val (.int .i64 0)), (.val (.int .i64 0))] [(0, 1, (.val (.val (.int .i64 (-1)))))])), ((some 11), .op (.bslice 1 4 [(.val (.int .i64 0)), (.val (.int .i64 0)), (.val (.int .i64 0)), (.val (.int .i64 0))] [(0, (.tmp 10))])), ((some 12), .op (.addr 1 (.tmp 1))), ((some 13), .op (.load none (.tmp 12))), ((some 14), .op (.len (.tmp 13))), ((some 15), .call (.val (.fn 88 [] [])) [(.tmp 11), (.tmp 14)]), ((some 3), .op (.mov (.tmp 15)))]⟩]) <|
  .seq (.seq (.region false [⟨none, [((some 4), .op (.mov (.val (.val (.bool false)))))]⟩]) <|
  .block 0 (.loop B_least_plans_1)) <|
  .seq (.region false [⟨none, [((some 60), .op (.mov (.tmp 3))), ((some 2), .op (.mov (.tmp 60)))]⟩]) <|
  .ret,
  [.tmp 2], 61⟩
theorem S_least_plans_ok : compF Tryz.prog 57 [1] = some S_least_plans := by kernel_rfl

/-- What holds within a round. -/
def PlanI (g : Gram) (H0 : View) (P : List Plan) (d i : Nat) (T : Env) (H : View) : Prop :=
  ∃ (N : List Plan) (u : V), N.length = g.nons.length ∧ foldP P i N (g.rules.drop i) = roundP g.rules P ∧ (∀ m, Known P m → Known N m) ∧ HasP H u P ∧ owner u ≠ some d ∧ H d = .arr 4 (N.map encPl) ∧
    (∀ id, H0 id ≠ .dead → H id = H0 id ∧ id ≠ d) ∧ ((T 4 = gb true ∧ N = P) ∨ (T 4 = gb false ∧ ∃ m, ¬ Known P m ∧ Known N m)) ∧
    T 1 = .fptr (encG g) 0 ∧ T 3 = u ∧ T 5 = .sl d 0 g.nons.length 4 ∧ T 21 = .fro (g.rules.map encR) ∧ T 22 = gi g.rules.length ∧ T 23 = gi i

set_option maxHeartbeats 4000000 in
theorem mo_plans (g : Gram) (hg : g.Ok) (hf : g.Fine) (H : View) : MCall Tryz.prog 57 [.agg (encG g)] H fun r H' => OwnA H' r 4 ((plansG g).map encPl) ∧ Fresh H H' r := by
  refine MCall.of mixed S_least_plans_ok ?_
  have z1 := hf.nons1
  have z2 := hf.nons
  have z3 := hf.rules
  simp (disch := omega) only [↓wr, ↓reduceIte, wq, eq_self, ne_eq, implies_true, oneV, intOp, goI, splice, sBuild, fillE, nilB, isNil, Nat.reduceEqDiff, Nat.reduceAdd, Nat.reduceLT, Nat.reduceLeDiff, Int.reduceNeg, Int.reduceToNat, reduceCtorEq, decide_true, decide_false, S_least_plans, encG, encS]
  intro n1 hn1
  try simp (disch := omega) only [↓wr, ↓reduceIte, wq, eq_self, ne_eq, implies_true, oneV, intOp, goI, splice, sBuild, fillE, nilB, isNil, Nat.reduceEqDiff, Nat.reduceAdd, Nat.reduceLT, Nat.reduceLeDiff, Int.reduceNeg, Int.reduceToNat, reduceCtorEq, decide_true, decide_false]
  refine CallG.lendN (pn_Repeat z1 z2) (by kernel_rfl) ⟨Lent.sl (off := 0) (len := 1) (esz := 4) (z := 4) (es := [encPl noP]) (by simp [View.set, encPl, noP]) (by simp) (fun e he v hv => by simp at he; subst he; exact encPl_tree _ v hv), Lent.tree (.val _), trivial⟩ ?_
  simp (disch := omega) only [↓wr, ↓reduceIte, wq, eq_self, ne_eq, implies_true, oneV, intOp, goI, splice, sBuild, fillE, nilB, isNil, Nat.reduceEqDiff, Nat.reduceAdd, Nat.reduceLT, Nat.reduceLeDiff, Int.reduceNeg, Int.reduceToNat, reduceCtorEq, decide_true, decide_false]
  refine LoopG.intro (fun k T H' => ∃ (j : Nat) (u : V), j ≤ g.nons.length ∧ j ≤ trues (knB (stageP g j)) ∧ HasP H' u (stageP g j) ∧ Fresh H H' u ∧ T 1 = .fptr (encG g) 0 ∧ T 3 = u ∧
      ((T 4 = gb false ∧ j + k = g.nons.length + 1) ∨ (T 4 = gb true ∧ stageP g j = plansG g ∧ OwnA H' u 4 ((plansG g).map encPl)))) (g.nons.length + 1) ?_ ?_
  · refine ⟨0, _, by omega, by omega, .inl rfl, fun id hid => ⟨?_, by simp [owner]⟩, rfl, rfl, .inl ⟨rfl, by omega⟩⟩
    have e : id ≠ n1 := by rintro rfl; exact hid hn1
    simp [View.set, e]
  clear hn1
  rintro k T H1 ⟨j, u, hj, hjt, hu, hfr, t1, t3, h4⟩
  rcases h4 with ⟨t4, hjk⟩ | ⟨t4, hst, how⟩
  · have hlen := stage_len g j
    simp (disch := omega) only [↓wr, ↓reduceIte, wq, eq_self, ne_eq, implies_true, oneV, intOp, goI, splice, sBuild, fillE, nilB, isNil, Nat.reduceEqDiff, Nat.reduceAdd, Nat.reduceLT, Nat.reduceLeDiff, Int.reduceNeg, Int.reduceToNat, reduceCtorEq, decide_true, decide_false, B_least_plans_1, t1, t3, t4, encG, encS]
    refine CallG.loud ((mo_ClonePl (stageP g j) (by omega) (by omega) u H1 hu).mono ?_)
    rintro v H2 ⟨hv, hfv⟩
    obtain ⟨d, rfl, hd⟩ := hv.sl (by simp; omega)
    simp only [List.length_map, hlen]
    simp (disch := omega) only [↓wr, ↓reduceIte, wq, eq_self, ne_eq, implies_true, oneV, intOp, goI, splice, sBuild, fillE, nilB, isNil, Nat.reduceEqDiff, Nat.reduceAdd, Nat.reduceLT, Nat.reduceLeDiff, Int.reduceNeg, Int.reduceToNat, reduceCtorEq, decide_true, decide_false, t1, t3, t4, encG, encS]
    refine LoopG.up g.rules.length (PlanI g H (stageP g j) d) ?_ ?_
    · refine ⟨stageP g j, u, hlen, rfl, fun _ h => h, hu.keep fun id hid => (hfv id (hu.live hid)).1, fun e => ?_, hd, fun id hid => ?_, .inl ⟨rfl, rfl⟩, t1, t3, rfl, rfl, rfl, rfl⟩
      · exact (hfv d (hu.live e)).2 rfl
      · have h1 := hfr id hid
        have h2 := hfv id (by rw [h1.1]; exact hid)
        exact ⟨by rw [h2.1, h1.1], fun e => h2.2 (by rw [e]; rfl)⟩
    clear t1 t3 t4 hu hfr hfv hd hv
    rintro i q T H3 hq ⟨N, u, hN, hfold, hle, hu, hud, hd, hfr, h4, t1, t3, t5, t21, t22, t23⟩
    simp (disch := omega) only [↓wr, ↓reduceIte, wq, eq_self, ne_eq, implies_true, oneV, intOp, goI, splice, sBuild, fillE, nilB, isNil, Nat.reduceEqDiff, Nat.reduceAdd, Nat.reduceLT, Nat.reduceLeDiff, Int.reduceNeg, Int.reduceToNat, reduceCtorEq, decide_true, decide_false, B_least_plans_0, t1, t3, t5, t21, t22, t23]
    refine GoB.dec (fun hc => ?_) (fun hc => ?_)
    · have hg2 : g.rules[i]? = some (g.rules[i]'(by omega)) := List.getElem?_eq_getElem (by omega)
      have hmem : g.rules[i]'(by omega) ∈ g.rules := List.getElem_mem _
      rw [drop_at (show i < g.rules.length by omega)] at hfold
      generalize g.rules[i]'(by omega) = r at hg2 hmem hfold
      have hl := hf.left r hmem
      have hrw := hg.rule r hmem
      have hlt : r.left.toNat < N.length := by omega
      have hgN : (N.map encPl).getD r.left.toNat [] = encPl (pAt N r.left.toNat) := by simp [pAt, List.getD_eq_getElem?_getD, hlt]
      have hP := fun m => stage_ok (g := g) z3 (show j ≤ 16 by omega) m
      simp (disch := omega) only [↓wr, ↓reduceIte, wq, eq_self, ne_eq, implies_true, oneV, intOp, goI, splice, sBuild, fillE, nilB, isNil, Nat.reduceEqDiff, Nat.reduceAdd, Nat.reduceLT, Nat.reduceLeDiff, Int.reduceNeg, Int.reduceToNat, reduceCtorEq, decide_true, decide_false, t1, t3, t5, t21, t22, t23, List.getElem?_map, hg2, encR, encI]
      intro n hn
      have hnd : d ≠ n := by rintro rfl; rw [hd] at hn; simp at hn
      have hu' : ∀ o, HasP (H3.set n o) u (stageP g j) := fun o => hu.keep fun id hid => by
        have : id ≠ n := by rintro rfl; exact hu.live hid hn
        simp [View.set, this]
      have hfr' : ∀ o, ∀ id, H id ≠ .dead → (H3.set n o) id = H id ∧ id ≠ d := fun o id hid => by
        have h1 := hfr id hid
        have : id ≠ n := by rintro rfl; rw [h1.1] at hn; exact hid hn
        exact ⟨by simp [View.set, this, h1.1], h1.2⟩
      try simp (disch := omega) only [↓wr, ↓reduceIte, wq, eq_self, ne_eq, implies_true, oneV, intOp, goI, splice, sBuild, fillE, nilB, isNil, Nat.reduceEqDiff, Nat.reduceAdd, Nat.reduceLT, Nat.reduceLeDiff, Int.reduceNeg, Int.reduceToNat, reduceCtorEq, decide_true, decide_false, t1, t3, t5, t21, t22, t23, hd, hnd, hnd.symm]
      refine ⟨by omega, by omega, ?_⟩
      try simp (disch := omega) only [↓wr, ↓reduceIte, wq, eq_self, ne_eq, implies_true, oneV, intOp, goI, splice, sBuild, fillE, nilB, isNil, Nat.reduceEqDiff, Nat.reduceAdd, Nat.reduceLT, Nat.reduceLeDiff, Int.reduceNeg, Int.reduceToNat, reduceCtorEq, decide_true, decide_false, t1, t3, t5, t21, t22, t23, hd, hnd, hnd.symm, hgN, encPl]
      have hsum := sumP_hpos (stageP g j) r.right zeroP
      refine GoB.dec (fun hk => ?_) (fun hk => ?_)
      · simp (disch := omega) only [↓wr, ↓reduceIte, wq, eq_self, ne_eq, implies_true, oneV, intOp, goI, splice, sBuild, fillE, nilB, isNil, Nat.reduceEqDiff, Nat.reduceAdd, Nat.reduceLT, Nat.reduceLeDiff, Int.reduceNeg, Int.reduceToNat, reduceCtorEq, decide_true, decide_false, t1, t3, t5, t21, t22, t23, hd, hnd, hnd.symm]
        have hst : stepP (stageP g j) i N r = N := by unfold stepP; rw [if_pos hk]
        rw [foldP, hst] at hfold
        rw [set_set]
        exact up_next hq (by omega) ⟨N, u, hN, hfold, hle, hu' _, hud, by simp [View.set, hnd, hd], hfr' _, h4, t1, t3, t5, t21, t22, rfl⟩
      · simp (disch := omega) only [↓wr, ↓reduceIte, wq, eq_self, ne_eq, implies_true, oneV, intOp, goI, splice, sBuild, fillE, nilB, isNil, Nat.reduceEqDiff, Nat.reduceAdd, Nat.reduceLT, Nat.reduceLeDiff, Int.reduceNeg, Int.reduceToNat, reduceCtorEq, decide_true, decide_false, t1, t3, t5, t21, t22, t23, hd, hnd, hnd.symm]
        refine CallG.lendN (pn_sum (stageP g j) hP r.right hrw.2.2.1 fun x hx => ⟨hrw.2.2.2 x hx, fun hn => by rw [hlen]; exact hf.neg hmem hx hn⟩) (by kernel_rfl) ⟨Lent.tree (encI_tree r.right), by rw [set_set]; exact (hu' _).lent, trivial⟩ ?_
        have hs1 := sumP_pos (fun m => stage_pos g j m) r.right zeroP pos_zero
        have hs2 : (0 : Int) ≤ (sumP (stageP g j) r.right zeroP).1.height := hsum
        have hs3 : AllK (stageP g j) r.right → (sumP (stageP g j) r.right zeroP).1.height ≤ 16 := fun ha => (sumP_height (stageP g j) 16 r.right zeroP ha).2 ⟨by simp [zeroP], fun x hx hn => by have := (stage_height g j _ (ha x hx hn)).2.1; omega⟩
        have hs4 := sumP_ok (stageP g j) r.right zeroP
        generalize hsp : sumP (stageP g j) r.right zeroP = sp at hs1 hs2 hs3 hs4
        unfold PosP at hs1
        simp (disch := omega) only [↓wr, ↓reduceIte, wq, eq_self, ne_eq, implies_true, oneV, intOp, goI, splice, sBuild, fillE, nilB, isNil, Nat.reduceEqDiff, Nat.reduceAdd, Nat.reduceLT, Nat.reduceLeDiff, Int.reduceNeg, Int.reduceToNat, reduceCtorEq, decide_true, decide_false, t1, t3, t5, t21, t22, t23, hd, hnd, hnd.symm, encPl]
        intro q2 hq2
        have hqn := (dead_if hq2 arr_live).1
        have hq3 := (dead_if (dead_if hq2 arr_live).2 arr_live).2
        have hqd : d ≠ q2 := by rintro rfl; rw [hd] at hq3; simp at hq3
        try simp (disch := omega) only [↓wr, ↓reduceIte, wq, eq_self, ne_eq, implies_true, oneV, intOp, goI, splice, sBuild, fillE, nilB, isNil, Nat.reduceEqDiff, Nat.reduceAdd, Nat.reduceLT, Nat.reduceLeDiff, Int.reduceNeg, Int.reduceToNat, reduceCtorEq, decide_true, decide_false, t1, t3, t5, t21, t22, t23, hd, hnd, hnd.symm, hqn, hqn.symm, hqd, hqd.symm, encPl]
        refine GoB.split (fun hb => ?_) (fun hb => ?_)
        · have hs5 := hs3 (hs4.1 hb)
          simp (disch := omega) only [↓wr, ↓reduceIte, wq, eq_self, ne_eq, implies_true, oneV, intOp, goI, splice, sBuild, fillE, nilB, isNil, Nat.reduceEqDiff, Nat.reduceAdd, Nat.reduceLT, Nat.reduceLeDiff, Int.reduceNeg, Int.reduceToNat, reduceCtorEq, decide_true, decide_false, t1, t3, t5, t21, t22, t23, hd, hnd, hnd.symm, hqn, hqn.symm, hqd, hqd.symm, encPl]
          refine ⟨by omega, by omega, ?_⟩
          have hst : stepP (stageP g j) i N r = N.set r.left.toNat (planOf (stageP g j) i r) := by unfold stepP; rw [if_neg hk, hsp, if_pos hb]
          rw [foldP, hst] at hfold
          have hpl : (planOf (stageP g j) i r) = ⟨i, sp.1.height + 1, min 1048576 (sp.1.rules + 1), sp.1.terms⟩ := by rw [planOf, hsp]
          have hpr : 0 ≤ (planOf (stageP g j) i r).rule := by rw [hpl]; simp only; omega
          have hnew : ¬ Known N r.left.toNat := hk
          refine up_next hq (by omega) ⟨_, u, by simp [hN], hfold, fun m hm => known_set hpr (hle m hm), ?_, hud, ?_, ?_, .inr ⟨rfl, r.left.toNat, fun hkn => hnew (hle _ hkn), ?_⟩, t1, t3, t5, t21, t22, rfl⟩
          · refine hu.keep fun id hid => ?_
            have e1 : id ≠ n := by rintro rfl; exact hu.live hid hn
            have e2 : id ≠ q2 := by rintro rfl; exact hu.live hid hq3
            have e3 : id ≠ d := by rintro rfl; exact hud hid
            simp [View.set, e1, e2, e3]
          · simp only [View.set, if_true]
            rw [List.map_set, hpl, hgN]; simp only [encPl, List.drop_succ_cons, List.drop_nil, List.drop_zero, min_mm]
          · intro id hid
            have h1 := hfr id hid
            have e1 : id ≠ n := by rintro rfl; rw [h1.1] at hn; exact hid hn
            have e2 : id ≠ q2 := by rintro rfl; rw [h1.1] at hq3; exact hid hq3
            exact ⟨by simp [View.set, e1, e2, h1.2, h1.1], h1.2⟩
          · unfold Known; rw [pAt_set hlt, if_pos rfl]; exact hpr
        · simp (disch := omega) only [↓wr, ↓reduceIte, wq, eq_self, ne_eq, implies_true, oneV, intOp, goI, splice, sBuild, fillE, nilB, isNil, Nat.reduceEqDiff, Nat.reduceAdd, Nat.reduceLT, Nat.reduceLeDiff, Int.reduceNeg, Int.reduceToNat, reduceCtorEq, decide_true, decide_false, t1, t3, t5, t21, t22, t23, hd, hnd, hnd.symm, hqn, hqn.symm, hqd, hqd.symm, encPl]
          have hst : stepP (stageP g j) i N r = N := by unfold stepP; rw [if_neg hk, hsp, if_neg (by rw [hb]; simp)]
          rw [foldP, hst] at hfold
          refine up_next hq (by omega) ⟨N, u, hN, hfold, hle, ?_, hud, by simp [View.set, hnd, hqd, hd], ?_, h4, t1, t3, t5, t21, t22, rfl⟩
          · refine hu.keep fun id hid => ?_
            have e1 : id ≠ n := by rintro rfl; exact hu.live hid hn
            have e2 : id ≠ q2 := by rintro rfl; exact hu.live hid hq3
            simp [View.set, e1, e2]
          · intro id hid
            have h1 := hfr id hid
            have e1 : id ≠ n := by rintro rfl; rw [h1.1] at hn; exact hid hn
            have e2 : id ≠ q2 := by rintro rfl; rw [h1.1] at hq3; exact hid hq3
            exact ⟨by simp [View.set, e1, e2, h1.1], h1.2⟩
    · simp (disch := omega) only [↓wr, ↓reduceIte, wq, eq_self, ne_eq, implies_true, oneV, intOp, goI, splice, sBuild, fillE, nilB, isNil, Nat.reduceEqDiff, Nat.reduceAdd, Nat.reduceLT, Nat.reduceLeDiff, Int.reduceNeg, Int.reduceToNat, reduceCtorEq, decide_true, decide_false, t1, t3, t5, t21, t22, t23]
      rw [List.drop_eq_nil_of_le (by omega), foldP, ← stage_succ] at hfold
      have how : OwnA H3 (.sl d 0 g.nons.length 4) 4 (N.map encPl) := .inr ⟨d, by simp [hN], hd⟩
      have hfd : Fresh H H3 (.sl d 0 g.nons.length 4) := fun id hid => ⟨(hfr id hid).1, fun e => (hfr id hid).2 (by simp [owner] at e; exact e.symm)⟩
      rw [hfold] at how
      rcases h4 with ⟨h4, he⟩ | ⟨h4, m, hm1, hm2⟩
      · have hstay : stageP g (j + 1) = stageP g j := by rw [← hfold, he]
        have hpl := plans_of hj hstay
        rw [hstay] at how
        exact ⟨0, by omega, j, _, hj, hjt, .inr how, hfd, rfl, rfl, .inr ⟨h4, hpl, by rw [← hpl]; exact how⟩⟩
      · rw [hfold] at hm2
        rcases stage_more hjt with e | e
        · rw [e] at hm2; exact absurd hm2 hm1
        · have := trues_stage g (j + 1)
          exact ⟨k - 1, by omega, j + 1, _, by omega, e, .inr how, hfd, rfl, rfl, .inl ⟨h4, by omega⟩⟩
  · simp (disch := omega) only [↓wr, ↓reduceIte, wq, eq_self, ne_eq, implies_true, oneV, intOp, goI, splice, sBuild, fillE, nilB, isNil, Nat.reduceEqDiff, Nat.reduceAdd, Nat.reduceLT, Nat.reduceLeDiff, Int.reduceNeg, Int.reduceToNat, reduceCtorEq, decide_true, decide_false, B_least_plans_1, t1, t3, t4]
    exact ⟨how, hfr⟩

theorem frn_plans {h : Heap} {u : V} {P : List Plan} (ho : OwnA h.view u 4 (P.map encPl)) : FrN h u (encPs P) := by
  refine FrN.own ho rfl (fun i _ => rfl) (fun i j hi hj => ?_)
  simp only [List.length_map] at hi
  have e : (P.map encPl).getD i [] = encPl P[i] := by simp [List.getD_eq_getElem?_getD, hi]
  rw [e] at hj ⊢
  match j, hj with
  | 0, _ => exact .val _
  | 1, _ => exact .val _
  | 2, _ => exact .val _
  | 3, _ => exact .val _
  | n + 4, h => exact absurd h (by simp [encPl])

theorem pn_plans (g : Gram) (hg : g.Ok) (hf : g.Fine) : PNew Tryz.prog 57 [.agg (encG g)] (encPs (plansG g)) :=
  PNew.of (gg_tree g) ((mo_plans g hg hf _).mono fun r H' h h' hh => frn_plans (by rw [hh]; exact h.1))

def B_least_Heights_0 : SC :=
  .seq (.region false [⟨none, [((some 13), .op (.arith .lss (.tmp 12) (.tmp 11)))]⟩]) <|
  .seq (.cond (.tmp 13) (.skip) (.exit 0)) <|
  .seq (.block 1 (.seq (.region false [⟨none, [((some 14), .op (.idx 4 (.tmp 10) (.tmp 12))), ((some 15), .op (.load (some 4) (.tmp 14))), ((some 5), .op (.alloc [(.val (.int .i64 0)), (.val (.int .i64 0)), (.val (.int .i64 0)), (.val (.int .i64 0))])), (none, .op (.store 4 (.tmp 5) (.tmp 15)))]⟩]) <|
  .region false [⟨none, [((some 16), .op (.mov (.tmp 3))), ((some 17), .op (.addr 1 (.tmp 5))), ((some 18), .op (.load none (.tmp 17))), ((some 19), .op (.bslice 1 1 [(.val (.int .i64 0))] [(0, (.tmp 18))])), ((some 20), .op (.app 1 8 (.tmp 16) (.tmp 19))), ((some 3), .op (.mov (.tmp 20)))]⟩])) <|
  .region false [⟨none, [((some 21), .op (.arith .add (.tmp 12) (.val (.val (.int .i64 1))))), ((some 12), .op (.mov (.tmp 21)))]⟩]
def S_least_Heights : SF := ⟨.seq (.region false [⟨none, [((some 1), .op (.frz (.tmp 0))), ((some 2), .op (.mov (.val (.emp 1))))]⟩]) <|
  .seq (.seq (.region false [⟨none, [((some 6), .op (.load (some 4) (.tmp 1))), ((some 7), .call (.val (.fn 41 [] [])) [(.tmp 6)]), ((some 8), .op (.not (.tmp 7)))]⟩]) <|
  .cond (.tmp 8) (.seq (.region false [⟨none, [((some 2), .op (.mov (.val (.emp 1))))]⟩]) <|
  .ret) (.skip)) <|
  .seq (.region false [⟨none, [((some 3), .op (.mov (.val (.emp 1))))]⟩]) <|
  .seq (.seq (.region false [⟨none, [((some 9), .op (.load (some 4) (.tmp 1))), ((some 10), .call (.val (.fn 57 [] [])) [(.tmp 9)]), ((some 11), .op (.len (.tmp 10))), ((some 12), .op (.mov (.val (.val (.int .i64 0)))))]⟩]) <|
  .block 0 (.loop B_least_Heights_0)) <|
  .seq (.region false [⟨none, [((some 22), .op (.mov (.tmp 3))), ((some 2), .op (.mov (.tmp 22)))]⟩]) <|
  .ret,
  [.tmp 2], 23⟩
theorem S_least_Heights_ok : compF Tryz.prog 32 [1] = some S_least_Heights := by kernel_rfl

def B_least_Rules_0 : SC :=
  .seq (.region false [⟨none, [((some 13), .op (.arith .lss (.tmp 12) (.tmp 11)))]⟩]) <|
  .seq (.cond (.tmp 13) (.skip) (.exit 0)) <|
  .seq (.block 1 (.seq (.region false [⟨none, [((some 14), .op (.idx 4 (.tmp 10) (.tmp 12))), ((some 15), .op (.load (some 4) (.tmp 14))), ((some 5), .op (.alloc [(.val (.int .i64 0)), (.val (.int .i64 0)), (.val (.int .i64 0)), (.val (.int .i64 0))])), (none, .op (.store 4 (.tmp 5) (.tmp 15)))]⟩]) <|
  .region false [⟨none, [((some 16), .op (.mov (.tmp 3))), ((some 17), .op (.addr 0 (.tmp 5))), ((some 18), .op (.load none (.tmp 17))), ((some 19), .op (.bslice 1 1 [(.val (.int .i64 0))] [(0, (.tmp 18))])), ((some 20), .op (.app 1 8 (.tmp 16) (.tmp 19))), ((some 3), .op (.mov (.tmp 20)))]⟩])) <|
  .region false [⟨none, [((some 21), .op (.arith .add (.tmp 12) (.val (.val (.int .i64 1))))), ((some 12), .op (.mov (.tmp 21)))]⟩]
def S_least_Rules : SF := ⟨.seq (.region false [⟨none, [((some 1), .op (.frz (.tmp 0))), ((some 2), .op (.mov (.val (.emp 1))))]⟩]) <|
  .seq (.seq (.region false [⟨none, [((some 6), .op (.load (some 4) (.tmp 1))), ((some 7), .call (.val (.fn 41 [] [])) [(.tmp 6)]), ((some 8), .op (.not (.tmp 7)))]⟩]) <|
  .cond (.tmp 8) (.seq (.region false [⟨none, [((some 2), .op (.mov (.val (.emp 1))))]⟩]) <|
  .ret) (.skip)) <|
  .seq (.region false [⟨none, [((some 3), .op (.mov (.val (.emp 1))))]⟩]) <|
  .seq (.seq (.region false [⟨none, [((some 9), .op (.load (some 4) (.tmp 1))), ((some 10), .call (.val (.fn 57 [] [])) [(.tmp 9)]), ((some 11), .op (.len (.tmp 10))), ((some 12), .op (.mov (.val (.val (.int .i64 0)))))]⟩]) <|
  .block 0 (.loop B_least_Rules_0)) <|
  .seq (.region false [⟨none, [((some 22), .op (.mov (.tmp 3))), ((some 2), .op (.mov (.tmp 22)))]⟩]) <|
  .ret,
  [.tmp 2], 23⟩
theorem S_least_Rules_ok : compF Tryz.prog 34 [1] = some S_least_Rules := by kernel_rfl

def rulesP (g : Gram) : List Int := (plansG g).map Plan.rule

theorem take_pAt {P : List Plan} {i : Nat} (h : i < P.length) : P.take (i + 1) = P.take i ++ [pAt P i] := by
  rw [List.take_add_one, List.getElem?_eq_getElem h]
  simp [pAt, List.getD_eq_getElem?_getD, h]

set_option maxHeartbeats 2000000 in
theorem pn_lHeights (g : Gram) (hg : g.Ok) (hs : g.Small) : PNew Tryz.prog 32 [.agg (encG g)] (encI (if right09 g = true then hgts (plansG g) else [])) := by
  refine PNew.of (gg_tree g) ?_
  refine MCall.of mixed S_least_Heights_ok ?_
  simp (disch := omega) only [↓wr, ↓reduceIte, wq, eq_self, ne_eq, implies_true, oneV, intOp, goI, splice, sBuild, fillE, nilB, isNil, Nat.reduceEqDiff, Nat.reduceAdd, Nat.reduceLT, Nat.reduceLeDiff, Int.reduceNeg, Int.reduceToNat, reduceCtorEq, decide_true, decide_false, S_least_Heights, encG, encS]
  refine CallG.pure (pc_cRight g hg hs.names) (by kernel_rfl) ?_
  repeat' (first | (refine GoB.dec (fun _ => ?_) (fun _ => ?_)) | (refine GoB.eq (fun _ => ?_) (fun _ => ?_)) | (refine GoB.ne (fun _ => ?_) (fun _ => ?_)) | (refine GoB.split (fun _ => ?_) (fun _ => ?_)) | (simp (disch := omega) only [↓wr, ↓reduceIte, wq, eq_self, ne_eq, implies_true, oneV, intOp, goI, splice, sBuild, fillE, nilB, isNil, Nat.reduceEqDiff, Nat.reduceAdd, Nat.reduceLT, Nat.reduceLeDiff, Int.reduceNeg, Int.reduceToNat, reduceCtorEq, decide_true, decide_false, encG, encS]))
  · rename_i hr
    have hf := right09_fine hr
    have h1 := hf.nons
    rw [if_pos hr]
    refine CallG.pure (pn_plans g hg hf).pure (by kernel_rfl) ?_
    have hlen := plans_len g
    generalize plansG g = P at hlen ⊢
    simp (disch := omega) only [↓wr, ↓reduceIte, wq, eq_self, ne_eq, implies_true, oneV, intOp, goI, splice, sBuild, fillE, nilB, isNil, Nat.reduceEqDiff, Nat.reduceAdd, Nat.reduceLT, Nat.reduceLeDiff, Int.reduceNeg, Int.reduceToNat, reduceCtorEq, decide_true, decide_false]
    refine LoopG.up P.length (fun i T H' => ∃ u, T 3 = u ∧ OwnA H' u 1 (intsE ((P.take i).map Plan.height)) ∧ T 10 = encPs P ∧ T 11 = gi P.length ∧ T 12 = gi i) ⟨_, rfl, .nil, rfl, rfl, rfl⟩ ?_
    rintro i k T H hk ⟨u, t3, ho, t10, t11, t12⟩
    simp (disch := omega) only [↓wr, ↓reduceIte, wq, eq_self, ne_eq, implies_true, oneV, intOp, goI, splice, sBuild, fillE, nilB, isNil, Nat.reduceEqDiff, Nat.reduceAdd, Nat.reduceLT, Nat.reduceLeDiff, Int.reduceNeg, Int.reduceToNat, reduceCtorEq, decide_true, decide_false, B_least_Heights_0, t3, t10, t11, t12]
    refine GoB.dec (fun hc => ?_) (fun hc => ?_)
    · have hgp := encPs_get (P := P) (show i < P.length by omega)
      have htk := take_pAt (P := P) (show i < P.length by omega)
      generalize pAt P i = p at hgp htk
      simp (disch := omega) only [↓wr, ↓reduceIte, wq, eq_self, ne_eq, implies_true, oneV, intOp, goI, splice, sBuild, fillE, nilB, isNil, Nat.reduceEqDiff, Nat.reduceAdd, Nat.reduceLT, Nat.reduceLeDiff, Int.reduceNeg, Int.reduceToNat, reduceCtorEq, decide_true, decide_false, t3, t10, t11, t12, hgp, encPl]
      intro n hn m hm
      have hm3 := (dead_if (dead_if hm arr_live).2 arr_live).2
      rw [elemsOf_new]
      simp (disch := omega) only [↓wr, ↓reduceIte, wq, eq_self, ne_eq, implies_true, oneV, intOp, goI, splice, sBuild, fillE, nilB, isNil, Nat.reduceEqDiff, Nat.reduceAdd, Nat.reduceLT, Nat.reduceLeDiff, Int.reduceNeg, Int.reduceToNat, reduceCtorEq, decide_true, decide_false, t3, t10, t11, t12]
      refine goApp_all (ho.keep fun id hid => ?_) (by simp [cellOk]) (by unfold limit; simp; omega) (by unfold limit; simp; omega) ?_
      · have hl := (ho.live hid).1
        have e1 : id ≠ n := by rintro rfl; rw [hl] at hn; simp at hn
        have e2 : id ≠ m := by rintro rfl; rw [hl] at hm3; simp at hm3
        simp [View.set, e1, e2]
      · intro u' H' ho' _
        simp (disch := omega) only [↓wr, ↓reduceIte, wq, eq_self, ne_eq, implies_true, oneV, intOp, goI, splice, sBuild, fillE, nilB, isNil, Nat.reduceEqDiff, Nat.reduceAdd, Nat.reduceLT, Nat.reduceLeDiff, Int.reduceNeg, Int.reduceToNat, reduceCtorEq, decide_true, decide_false, t3, t10, t11, t12]
        refine up_next hk (by omega) ⟨u', rfl, ?_, t10, t11, rfl⟩
        rw [htk]; simpa using ho'
    · simp (disch := omega) only [↓wr, ↓reduceIte, wq, eq_self, ne_eq, implies_true, oneV, intOp, goI, splice, sBuild, fillE, nilB, isNil, Nat.reduceEqDiff, Nat.reduceAdd, Nat.reduceLT, Nat.reduceLeDiff, Int.reduceNeg, Int.reduceToNat, reduceCtorEq, decide_true, decide_false, t3, t10, t11, t12]
      intro h' hh
      rw [List.take_of_length_le (by omega)] at ho
      exact frn_ints (by rw [hh]; exact ho)
  · rename_i hr
    rw [hr]
    intro h' hh
    exact .emp _

set_option maxHeartbeats 2000000 in
theorem pn_lRules (g : Gram) (hg : g.Ok) (hs : g.Small) : PNew Tryz.prog 34 [.agg (encG g)] (encI (if right09 g = true then rulesP g else [])) := by
  refine PNew.of (gg_tree g) ?_
  refine MCall.of mixed S_least_Rules_ok ?_
  simp (disch := omega) only [↓wr, ↓reduceIte, wq, eq_self, ne_eq, implies_true, oneV, intOp, goI, splice, sBuild, fillE, nilB, isNil, Nat.reduceEqDiff, Nat.reduceAdd, Nat.reduceLT, Nat.reduceLeDiff, Int.reduceNeg, Int.reduceToNat, reduceCtorEq, decide_true, decide_false, S_least_Rules, encG, encS]
  refine CallG.pure (pc_cRight g hg hs.names) (by kernel_rfl) ?_
  repeat' (first | (refine GoB.dec (fun _ => ?_) (fun _ => ?_)) | (refine GoB.eq (fun _ => ?_) (fun _ => ?_)) | (refine GoB.ne (fun _ => ?_) (fun _ => ?_)) | (refine GoB.split (fun _ => ?_) (fun _ => ?_)) | (simp (disch := omega) only [↓wr, ↓reduceIte, wq, eq_self, ne_eq, implies_true, oneV, intOp, goI, splice, sBuild, fillE, nilB, isNil, Nat.reduceEqDiff, Nat.reduceAdd, Nat.reduceLT, Nat.reduceLeDiff, Int.reduceNeg, Int.reduceToNat, reduceCtorEq, decide_true, decide_false, encG, encS]))
  · rename_i hr
    have hf := right09_fine hr
    have h1 := hf.nons
    rw [if_pos hr]
    refine CallG.pure (pn_plans g hg hf).pure (by kernel_rfl) ?_
    have hlen := plans_len g
    unfold rulesP
    generalize plansG g = P at hlen ⊢
    simp (disch := omega) only [↓wr, ↓reduceIte, wq, eq_self, ne_eq, implies_true, oneV, intOp, goI, splice, sBuild, fillE, nilB, isNil, Nat.reduceEqDiff, Nat.reduceAdd, Nat.reduceLT, Nat.reduceLeDiff, Int.reduceNeg, Int.reduceToNat, reduceCtorEq, decide_true, decide_false]
    refine LoopG.up P.length (fun i T H' => ∃ u, T 3 = u ∧ OwnA H' u 1 (intsE ((P.take i).map Plan.rule)) ∧ T 10 = encPs P ∧ T 11 = gi P.length ∧ T 12 = gi i) ⟨_, rfl, .nil, rfl, rfl, rfl⟩ ?_
    rintro i k T H hk ⟨u, t3, ho, t10, t11, t12⟩
    simp (disch := omega) only [↓wr, ↓reduceIte, wq, eq_self, ne_eq, implies_true, oneV, intOp, goI, splice, sBuild, fillE, nilB, isNil, Nat.reduceEqDiff, Nat.reduceAdd, Nat.reduceLT, Nat.reduceLeDiff, Int.reduceNeg, Int.reduceToNat, reduceCtorEq, decide_true, decide_false, B_least_Rules_0, t3, t10, t11, t12]
    refine GoB.dec (fun hc => ?_) (fun hc => ?_)
    · have hgp := encPs_get (P := P) (show i < P.length by omega)
      have htk := take_pAt (P := P) (show i < P.length by omega)
      generalize pAt P i = p at hgp htk
      simp (disch := omega) only [↓wr, ↓reduceIte, wq, eq_self, ne_eq, implies_true, oneV, intOp, goI, splice, sBuild, fillE, nilB, isNil, Nat.reduceEqDiff, Nat.reduceAdd, Nat.reduceLT, Nat.reduceLeDiff, Int.reduceNeg, Int.reduceToNat, reduceCtorEq, decide_true, decide_false, t3, t10, t11, t12, hgp, encPl]
      intro n hn m hm
      have hm3 := (dead_if (dead_if hm arr_live).2 arr_live).2
      rw [elemsOf_new]
      simp (disch := omega) only [↓wr, ↓reduceIte, wq, eq_self, ne_eq, implies_true, oneV, intOp, goI, splice, sBuild, fillE, nilB, isNil, Nat.reduceEqDiff, Nat.reduceAdd, Nat.reduceLT, Nat.reduceLeDiff, Int.reduceNeg, Int.reduceToNat, reduceCtorEq, decide_true, decide_false, t3, t10, t11, t12]
      refine goApp_all (ho.keep fun id hid => ?_) (by simp [cellOk]) (by unfold limit; simp; omega) (by unfold limit; simp; omega) ?_
      · have hl := (ho.live hid).1
        have e1 : id ≠ n := by rintro rfl; rw [hl] at hn; simp at hn
        have e2 : id ≠ m := by rintro rfl; rw [hl] at hm3; simp at hm3
        simp [View.set, e1, e2]
      · intro u' H' ho' _
        simp (disch := omega) only [↓wr, ↓reduceIte, wq, eq_self, ne_eq, implies_true, oneV, intOp, goI, splice, sBuild, fillE, nilB, isNil, Nat.reduceEqDiff, Nat.reduceAdd, Nat.reduceLT, Nat.reduceLeDiff, Int.reduceNeg, Int.reduceToNat, reduceCtorEq, decide_true, decide_false, t3, t10, t11, t12]
        refine up_next hk (by omega) ⟨u', rfl, ?_, t10, t11, rfl⟩
        rw [htk]; simpa using ho'
    · simp (disch := omega) only [↓wr, ↓reduceIte, wq, eq_self, ne_eq, implies_true, oneV, intOp, goI, splice, sBuild, fillE, nilB, isNil, Nat.reduceEqDiff, Nat.reduceAdd, Nat.reduceLT, Nat.reduceLeDiff, Int.reduceNeg, Int.reduceToNat, reduceCtorEq, decide_true, decide_false, t3, t10, t11, t12]
      intro h' hh
      rw [List.take_of_length_le (by omega)] at ho
      exact frn_ints (by rw [hh]; exact ho)
  · rename_i hr
    rw [hr]
    intro h' hh
    exact .emp _

end Gv
