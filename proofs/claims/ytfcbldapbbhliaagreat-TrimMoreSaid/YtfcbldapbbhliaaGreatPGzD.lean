/-
  For every grammar, byte and list of numbers that are handed in, gerundlaw11.TrimMore returns true, and each argument reads afterwards as it read before.
  Conditions: none beyond those of the row.
-/
import Derived.Test.YtfcbldapbbhliaaGreatRows
import Derived.Test.YtfcbldapbbhliaaGreatMGzDA
set_option linter.unusedSimpArgs false
set_option linter.unusedVariables false

set_option linter.unusedSimpArgs false
set_option maxRecDepth 100000
namespace Go.Proofs.YtfcbldapbbhliaaGreat
open Go Go.ChangeShapes Go.WideShapes Go.ChangeAt Go.RowKit Gv

theorem own : ownKnob Tryz.prog.godebug = none := by kernel_rfl
theorem laidOut : laidOutB Tryz.prog = true := by kernel_rfl

theorem below_of {w w' : World} (h : Same w w') (k : OldBut w.heap w'.heap (fun _ => False)) : Below w.heap.size w w' :=
  ⟨h.os, h.tape, h.output, h.size, fun b hb => k b hb id⟩

set_option maxHeartbeats 2000000 in
theorem trimMore_lifted (os : Os) (started : os.Started) (H : Type) (enc : TypeId × Value → H) :
    ReturnsInHanded {} Tryz.checked os 6 .any (Rows.trimMoreSpec.pre6 enc Tryz.prog Tryz.f6 Rows.trimMoreRow.domain false) (Rows.trimMoreSpec.post enc Tryz.prog Tryz.f6 false true false false) := by
  refine returnsInHanded_of_change_sized (C := Tryz.checked) own started (by kernel_rfl) Tryz.func6
    (ChangeSpec.witness6 (enc := enc) (C := Tryz.checked) false ⟨#[], #[.agg #[.slice none 0 0, .slice none 0 0, .slice none 0 0, .int .i64 0], .int .u8 0, .slice none 0 0], []⟩ 8 (by kernel_rfl) (by kernel_rfl) (by kernel_rfl) (by kernel_rfl)) ?_
  intro W base args ds gs before hval0 hW _ hwt _
  have hval : ∀ (j : Nat) t v, Tryz.f6.params[j]? = some t → args[j]? = some v → Value.okWide Tryz.prog W .any base t v := hval0
  have hW' := hW
  obtain ⟨p, q, hA0, hV, rfl, hfz, hnd⟩ := hW
  have hA : DataW.TrodAll enc Tryz.prog W 0 (fun _ => true) true Tryz.f6.params.toList args.toList ds p := hA0
  have hlt := hW'.lt
  rw [Tryz.params6] at hA hval
  obtain ⟨v0, v1, v2, d0, d1, d2, p0, p1, p2, rfl, rfl, rfl, h0, h1, h2⟩ := trodAll_three hA
  obtain ⟨rfl, rfl⟩ := trodVars_none hV
  obtain ⟨cs, rfl, hcs⟩ := okWide_struct Tryz.underlying26 (hval 0 26 v0 rfl rfl)
  obtain ⟨n, rfl, rfl, rfl, wn⟩ := open_int Tryz.underlying5 (hval 1 5 v1 rfl rfl) h1
  obtain ⟨sa, sl, sc, rfl⟩ := okWide_slice Tryz.underlying33 (hval 2 33 v2 rfl rfl)
  obtain ⟨fuel, hf⟩ := h0
  obtain ⟨fuel2, hf2⟩ := h2
  have hw0 : Wt Tryz.prog 26 d0 := fun n hn => by
    have := List.all_eq_true.1 hwt n (DataW.weights_mem_each (j := 0) (t := 26) (d := d0) rfl rfl n hn)
    simpa using this
  have hw2 : Wt Tryz.prog 33 d2 := fun n hn => by
    have := List.all_eq_true.1 hwt n (DataW.weights_mem_each (j := 2) (t := 33) (d := d2) rfl rfl n hn)
    simpa using this
  obtain ⟨g, hg, hrel⟩ := rd_gram enc W 0 (fun _ => true) true fuel cs.toList (d0, p0) hf hw0
  obtain ⟨l, hl, hrel2⟩ := rd_ints enc W 0 (fun _ => true) true fuel2 [.slice sa sl sc] (d2, p2) hf2 hw2
  have hnb : 0 ≤ n ∧ n ≤ 255 := by
    simp only [Lit.wf, Bool.and_eq_true, decide_eq_true_eq] at wn
    exact wn
  have hc := pc_TrimMore g hg n hnb.1 hnb.2 l hl.1 hl.2 (fun b => b < W.heap.size) (fun _ => none) W [.agg cs, .int .u8 n, .slice sa sl sc] ⟨rfl, fun i hi => by
    match i, hi with
    | 0, _ =>
      refine .agg _ _ (by rw [hrel.1]; simp) fun j hj => ?_
      have := hrel.2 (fun _ => none) j hj
      simpa [Array.getD_eq_getD_getElem?, List.getD_eq_getElem?_getD] using this
    | 1, _ => exact .val _ rfl
    | 2, _ => exact hrel2.2 (fun _ => none) 0 (by simp)⟩ (fun _ h => h)
  refine hc.mono ?_
  rintro e W' ⟨x, Z', rfl, hx, hsame, _, _, hold⟩
  have hb := below_of hsame hold
  have hxv : x = .bool true := by
    have := hx fun _ => none
    cases this
    rfl
  subst hxv
  simp only [List.append_nil] at hW' hlt
  have hread : DataW.Trod enc Tryz.prog W' 0 (fun b => decide (b < W.heap.size)) true 26 (.agg cs) d0 p0 :=
    Below.trod laidOut (by kernel_rfl) (of_decide_eq_true (by kernel_rfl)) ⟨fuel, hf⟩ hb (fun y hy => hlt y (by simp [hy]))
  have hread2 : DataW.Trod enc Tryz.prog W' 0 (fun b => decide (b < W.heap.size)) true 33 (.slice sa sl sc) d2 p2 :=
    Below.trod laidOut (by kernel_rfl) (of_decide_eq_true (by kernel_rfl)) ⟨fuel2, hf2⟩ hb (fun y hy => hlt y (by simp [hy]))
  refine ⟨_, rfl, _, _, _, [], p0 ++ ([] ++ p2), [], hW', trodAll_mk1 (shut_bool (by kernel_rfl) true), trodAll_mk3 hread (shut_int Tryz.underlying5 wn) hread2, rfl, hb.frame _, fun h => by cases h⟩

theorem trimMore_holds : Rows.TrimMoreSaid :=
  OpenClaim.holds_of_wide 6 Tryz.f6 rfl rfl rfl rfl rfl rfl rfl ⟨rfl, rfl, rfl, rfl, rfl⟩ rfl rfl rfl rfl rfl (by kernel_rfl) Tryz.func6 (by kernel_rfl)
    (of_decide_eq_true (by kernel_rfl)) (by unfold Func.isWrapper; rw [if_neg (by decide +kernel)]; exact ⟨rfl, rfl⟩)
    (fun os started H enc _ => trimMore_lifted os started H enc)

end Go.Proofs.YtfcbldapbbhliaaGreat
