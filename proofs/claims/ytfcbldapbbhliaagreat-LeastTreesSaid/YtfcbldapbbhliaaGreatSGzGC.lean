/-
  Part 3 of the proof: what the machine does and what the functions answer.
  Conditions: those that each lemma names.
-/
import Derived.Orders
import Derived.LoopN
import Derived.Scope
import Derived.Test.YtfcbldapbbhliaaGreatSGzGB
set_option linter.unusedSimpArgs false
set_option linter.unusedVariables false

/-
  One step of a region, in whatever order, means in the model what it says; regions in the order of the text.
  Conditions: none beyond those that each lemma names.
-/
namespace Gv
open Go

section
variable {P : Program} {n : Nat} {all : List Oper} {Z : Nat → Prop} {μ : Mu} {w : World}

theorem HRel.congr {H H' : View} {hp : Array Obj} (h : HRel Z μ hp H) (e : ∀ id, μ id ≠ none → H' id = H id) : HRel Z μ hp H' := by
  refine ⟨fun id => ?_, fun i j b o s o' s' hij hi hj => ?_, h.lt, h.zlt, h.zmu⟩
  · by_cases hm : μ id = none
    · cases hH : H' id with
      | dead => trivial
      | arr esz es => intro b o0 s hx; rw [hm] at hx; simp at hx
      | map es c => intro b o0 s hx; rw [hm] at hx; simp at hx
      | siter s p => intro b o0 t hx; rw [hm] at hx; simp at hx
    · rw [e id hm]; exact h.obj id
  · rw [e i (by rw [hi]; simp), e j (by rw [hj]; simp)]
    exact h.inj i j b o s o' s' hij hi hj

/-- The view behind a step. -/
def stepH (H : View) (h h' : Heap) (wr : List Nat) : View := fun id => if id ∈ wr ∨ (h.length ≤ id ∧ id < h'.length) then h'.view id else H id

theorem EffOk.ext {μ' : Mu} {w' : World} {eff : Eff} {m : Nat} (he : EffOk Z μ μ' w.heap w'.heap m eff) (hs : Same w w') (hn : eff.fresh (μ m = none)) (zlt : ∀ b, Z b → b < w.heap.size) (zmu : ∀ id b o s, μ id = some (b, o, s) → ¬ Z b) :
    Ext Z μ w m Z μ' w' ∧ (∀ id, (∀ (_ : ¬ (match eff with | .new _ | .mov _ _ => id = m | _ => False)), μ' id = μ id)) := by
  have hm := he.mono hn zlt zmu
  cases eff with
  | none =>
    obtain ⟨rfl, ho⟩ := he
    exact ⟨⟨hs, hm, fun b hb _ => ho b hb (fun x => x), fun _ h => .inl h, fun _ _ _ _ h => .inl h⟩, fun _ _ => rfl⟩
  | new o =>
    obtain ⟨b, o0, s, hb1, hb2, rfl, ho, _⟩ := he
    refine ⟨⟨hs, hm, fun b hb _ => ho b hb (fun x => x), fun _ h => .inl h, fun id b' o' s' hx => ?_⟩, fun id hid => by simp [Mu.set]; intro e; exact absurd e hid⟩
    by_cases e : id = m
    · subst e; simp [Mu.set] at hx; exact .inr ⟨Nat.le_refl _, .inl (by omega)⟩
    · simp [Mu.set, e] at hx; exact .inl hx
  | upd id o =>
    obtain ⟨b, o0, s, hμ, rfl, ho, _, _⟩ := he
    exact ⟨⟨hs, hm, fun b' hb' hn' => ho b' hb' (fun e => hn' ⟨id, o0, s, e ▸ hμ⟩), fun _ h => .inl h, fun _ _ _ _ h => .inl h⟩, fun _ _ => rfl⟩
  | mov id o =>
    obtain ⟨b, o0, s, rfl, _, hc⟩ := he
    refine ⟨⟨hs, hm, ?_, fun _ h => .inl h, fun id' b' o' s' hx => ?_⟩, fun id hid => by simp [Mu.set]; intro e; exact absurd e hid⟩
    · rcases hc with h1 | ⟨⟨o1, s1, hμ⟩, ho, _⟩
      · exact fun b' hb' _ => h1.2.2 b' hb' (fun x => x)
      · exact fun b' hb' hn' => ho b' hb' (fun e => hn' ⟨id, o1, s1, e ▸ hμ⟩)
    · by_cases e : id' = m
      · subst e
        simp [Mu.set] at hx
        obtain ⟨rfl, _, _⟩ := hx
        rcases hc with h1 | ⟨⟨o1, s1, hμ⟩, _, _⟩
        · exact .inr ⟨Nat.le_refl _, .inl h1.1⟩
        · exact .inr ⟨Nat.le_refl _, .inr ⟨id, o1, s1, hμ⟩⟩
      · simp [Mu.set, e] at hx; exact .inl hx

theorem callFunc_run {f : FuncId} {args : Array Value} (h : calleeOk P f = true) : (callFunc f args).run P w = .ok (.enter f args) w := by
  unfold calleeOk at h
  split at h
  · rename_i fn hfn
    simp only [Bool.and_eq_true, bne_iff_ne, ne_eq] at h
    have h1 : (fn.name == "runtime.NumGoroutine") = false := by simpa using h.1
    have h2 : fn.body.isNone = false := by cases hb : fn.body <;> simp_all
    have h3 : ¬ (fn.name = "runtime.NumGoroutine") := by simpa using h.1
    have h4 : ¬ (fn.body = none) := by cases hb : fn.body <;> simp_all
    simp [callFunc, hfn, h3, h4]
  · simp at h

theorem yielded_eq {ops : Array Oper} (hops : ops = all.toArray) {a : Act} (hsz : a.tmps.size = n) {T : Env} {o : Oper} {t : Bool} (hg : guardV n all T o = some t)
    (hguard : ∀ j want d, o.guard = some (j, want) → (all[j]?).bind (·.dst) = some d → VRel Z μ w.heap (T d) (a.tmps.getD d undef)) : Region.wanted o (yielded ops a.tmps) = t := by
  unfold guardV at hg
  unfold Region.wanted
  cases hgd : o.guard with
  | none => simp [hgd] at hg; subst hg; rfl
  | some p =>
    obtain ⟨j, want⟩ := p
    simp only [hgd] at hg ⊢
    cases hd : (all[j]?).bind (·.dst) with
    | none => simp [hd] at hg
    | some d =>
      simp only [hd] at hg
      split at hg
      · rename_i hlt
        have hv := hguard j want d hgd hd
        split at hg
        · rename_i b hb
          rw [hb] at hv
          have hv := val_inv hv
          simp only [Option.some.injEq] at hg
          subst hg
          have hlt' : d < a.tmps.size := hsz ▸ hlt
          simp only [Array.getD_eq_getD_getElem?, Array.getElem?_eq_getElem hlt', Option.getD_some] at hv
          have : yielded ops a.tmps j = some b := by
            unfold yielded
            subst hops
            simp only [List.getElem?_toArray, hd, Option.bind_some, Array.getElem?_eq_getElem hlt', hv]
          rw [this]
          cases b <;> cases want <;> rfl
        · rename_i hb
          rw [hb] at hv
          have hlt' : d < a.tmps.size := hsz ▸ hlt
          generalize hxe : a.tmps.getD d undef = x at hv
          cases hv with
          | tup _ aas h1 h2 =>
            simp only [Option.some.injEq] at hg
            subst hg
            have h3 : a.tmps[d]? = some (.tuple aas) := by
              rw [Array.getElem?_eq_getElem hlt']
              simp only [Array.getD_eq_getD_getElem?, Array.getElem?_eq_getElem hlt', Option.getD_some] at hxe
              rw [hxe]
            have : yielded ops a.tmps j = none := by
              unfold yielded
              subst hops
              simp only [List.getElem?_toArray, hd, Option.bind_some, h3]
            rw [this]
            rfl
        · simp at hg
      · simp at hg

theorem step_base {ops : Array Oper} (hops : ops = all.toArray) {i : Nat} {o : Oper} (hi : ops[i]? = some o) {T : Env} {h h' : Heap} {v : V} {rd wr : List Nat} {call : Bool} (st : OStep P n all o T h v h' rd wr call) {a : Act} {H : View}
    (hsz : a.tmps.size = n) (hguard : ∀ j want d, o.guard = some (j, want) → (all[j]?).bind (·.dst) = some d → VRel Z μ w.heap (T d) (a.tmps.getD d undef))
    (hT : ∀ x ∈ o.op.operands, VRel Z μ w.heap (ev T x) (a.eval x)) (hr : HRel Z μ w.heap H) (hrd : ∀ id, id ∈ rd → μ id ≠ none → H id = h.view id)
    (hcall : call = true → ∀ id, id < h.length → μ id ≠ none → H id = h.view id) (hnew : ∀ id, h.length ≤ id → id < h'.length → μ id = none)
    {K : Act → World → Prop} {Q : Exit → Act → World → Prop}
    (hK : ∀ x w' Z' μ', VRel Z' μ' w'.heap v x → HRel Z' μ' w'.heap (stepH H h h' wr) → Ext Z μ w h.length Z' μ' w' → (∀ id, id < h.length ∨ h'.length ≤ id → μ' id = μ id) → K (a.put o.dst x) w') :
    wpOp P ops Q i K a w := by
  unfold wpOp
  rw [hi]
  cases st with
  | skip hg =>
    have := yielded_eq (w := w) hops hsz hg hguard
    simp only [this, Bool.false_eq_true, if_false]
    refine hK undef w Z μ (.tup _ _ rfl (fun i hi => by simp at hi)) (hr.congr fun id hid => ?_) (Ext.refl _ _ _ _) (fun _ _ => rfl)
    unfold stepH
    rw [if_neg]
    rintro (h1 | h1)
    · simp at h1
    · omega
  | op hg hop =>
    rename_i eff
    have := yielded_eq (w := w) hops hsz hg hguard
    simp only [this, if_true]
    left
    have hlive := aop_live hop
    have hav := apply_view (fun id hid => (hlive id hid).1)
    have hlen := apply_length h eff
    have hmn : eff.fresh (μ h.length = none) := by
      cases eff with
      | new o => exact hnew _ (Nat.le_refl _) (by rw [hlen]; simp)
      | mov k o => exact hnew _ (Nat.le_refl _) (by rw [hlen]; simp)
      | _ => trivial
    · have hctx : Ctx Z μ w.heap h.view rd h.length eff := by
        refine ⟨hmn, fun id hid => ?_, hr.lt, hr.zlt, hr.zmu⟩
        by_cases hm : μ id = none
        · have := (HRel.congr (H' := fun k => if k = id then h.view id else H k) hr (fun k hk => by
            split
            · rename_i e; subst e; exact absurd hm hk
            · rfl)).obj id
          simpa using this
        · rw [← hrd id hid hm]; exact hr.obj id
      obtain ⟨nx, w', μ', hrun, hval, hsame, heff⟩ := aop_ok hop hT hctx
      have hex := heff.ext hsame hmn hr.zlt hr.zmu
      have hview : HRel Z μ' w'.heap (stepH H h (eff.apply h) eff.wr) := by
        have hdead : ∀ id, id ∈ eff.wr → μ id ≠ none → H id ≠ .dead := fun id hid hm => by
          rw [hrd id (hlive id hid).2 hm]; exact (hlive id hid).1
        have hmu : ∀ id o, (eff = .upd id o ∨ eff = .mov id o) → H id ≠ .dead ∨ μ id = none := by
          rintro id o (rfl | rfl)
          · by_cases hm : μ id = none
            · exact .inr hm
            · exact .inl (hdead id (by simp [Eff.wr]) hm)
          · by_cases hm : μ id = none
            · exact .inr hm
            · exact .inl (hdead id (by simp [Eff.wr]) hm)
        -- what goes and was not there: taken as there
        have h2 : HRel Z μ w.heap (fun k => if μ k = none then .siter .empty 0 else H k) := hr.congr (fun k hk => by simp [hk])
        have h3 := h2.eff hmn hsame.size heff (fun id o e => by
          split
          · simp
          · rename_i hk; exact (hmu id o (.inl e)).resolve_right hk) (fun id o e => by
          split
          · simp
          · rename_i hk; exact (hmu id o (.inr e)).resolve_right hk)
        refine h3.congr (fun id hid => ?_)
        unfold stepH
        rw [hav]
        cases eff with
        | none =>
          obtain ⟨rfl, _⟩ := heff
          simp only [Eff.wr, Eff.apply, Eff.view, List.not_mem_nil, false_or]
          rw [if_neg (by omega), if_neg hid]
        | new o =>
          obtain ⟨b, o0, s, _, _, rfl, _⟩ := heff
          simp only [Eff.wr, Eff.view, View.set, List.not_mem_nil, false_or]
          by_cases e : id = h.length
          · subst e; rw [if_pos ⟨Nat.le_refl _, by rw [hlen]; simp⟩, if_pos rfl, if_pos rfl]
          · rw [if_neg (by rw [hlen]; simp only; omega), if_neg e]
            have : μ id ≠ none := by simpa [Mu.set, e] using hid
            rw [if_neg this]
        | upd k o =>
          obtain ⟨b, o0, s, _, rfl, _⟩ := heff
          simp only [Eff.wr, Eff.view, View.set, List.mem_singleton]
          by_cases e : id = k
          · subst e; rw [if_pos (.inl rfl), if_pos rfl, if_pos rfl]
          · rw [if_neg (by rw [hlen]; simp only; omega), if_neg e, if_neg hid]
        | mov k o =>
          obtain ⟨b, o0, s, rfl, _⟩ := heff
          simp only [Eff.wr, Eff.view, View.set, List.mem_singleton]
          by_cases e : id = h.length
          · subst e; rw [if_pos (.inr ⟨Nat.le_refl _, by rw [hlen]; simp⟩), if_pos rfl, if_pos rfl]
          · by_cases e2 : id = k
            · subst e2; rw [if_pos (.inl rfl), if_neg e, if_pos rfl, if_neg e, if_pos rfl]
            · rw [if_neg (by rw [hlen]; simp only; omega), if_neg e, if_neg e2]
              have : μ id ≠ none := by simpa [Mu.set, e] using hid
              rw [if_neg this]
      have hfix : ∀ id, id < h.length ∨ (eff.apply h).length ≤ id → μ' id = μ id := by
        intro id hid
        refine hex.2 id (fun hc => ?_)
        cases eff with
        | none => exact hc
        | new o => simp only at hc; subst hc; rw [hlen] at hid; simp at hid; omega
        | upd k o => exact hc
        | mov k o => simp only at hc; subst hc; rw [hlen] at hid; simp at hid; omega
      unfold Oper.wp
      rw [hrun]
      rcases hval with ⟨x, rfl, hv⟩ | ⟨rfl, rfl⟩
      · exact hK x w' Z μ' hv hview hex.1 hfix
      · exact hK undef w' Z μ' (.any _) hview hex.1 hfix
  | frz hg ho hok =>
    rename_i e x
    have := yielded_eq (w := w) hops hsz hg hguard
    simp only [this, if_true]
    left
    have hx := hT x (by rw [ho]; simp [Op.operands])
    have hcs := cells_rel hx hok
    have hrun : (execOp a.eval o).run P w = .ok (.value (.pointer (some ⟨w.heap.size, 0, none⟩))) (w.alloc (.cells (a.eval x).cells e)) := by
      unfold execOp
      rw [ho]
      simp [Instr.box, newVar, newRow]
    unfold Oper.wp
    rw [hrun]
    have hob : OldBut w.heap (w.alloc (.cells (a.eval x).cells e)).heap (fun _ => False) := oldBut_push _ _
    have hsz' : (w.alloc (.cells (a.eval x).cells e)).heap.size = w.heap.size + 1 := by rw [heap_alloc]; simp
    have hm : Mono Z (fun b => Z b ∨ b = w.heap.size) μ μ w.heap (w.alloc (.cells (a.eval x).cells e)).heap := ⟨fun _ h => .inl h, fun b hb => hob b (hr.zlt b hb) (fun x => x), fun _ _ h => h, hob.shapes⟩
    have hsame : Same w (w.alloc (.cells (a.eval x).cells e)) := same_alloc _ _
    have hst : stepH H h h [] = H := by
      funext id
      unfold stepH
      rw [if_neg]
      rintro (h1 | h1)
      · simp at h1
      · omega
    refine hK _ _ (fun b => Z b ∨ b = w.heap.size) μ ?_ (hst.symm ▸ ⟨fun id => ?_, hr.inj, fun id b o s hx => Nat.lt_of_lt_of_le (hr.lt _ _ _ _ hx) hsame.size, fun b hb => ?_, fun id b o s hx hzb => ?_⟩)
      ⟨hsame, hm, fun b hb _ => hob b hb (fun x => x), fun b hb => ?_, fun _ _ _ _ h => .inl h⟩ (fun _ _ => rfl)
    · have := VRel.fptr (Z := fun b => Z b ∨ b = w.heap.size) (μ := μ) (hp := (w.alloc (.cells (a.eval x).cells e)).heap) (ev T x).cells 0 w.heap.size 0 (fun k => (a.eval x).cells.toList.getD k undef) (.inr rfl) (fun k hk => ?_) (fun k hk => (hcs.2 k hk).mono hm)
      · simpa using this
      · have hk' : k < (a.eval x).cells.size := by have := hcs.1; simp at this; omega
        simp [cellAt, heap_alloc, List.getD_eq_getElem?_getD, hk']
    · exact (hr.obj id).mono hm rfl (fun b o s hx => hob b (hr.lt _ _ _ _ hx) (fun x => x))
    · rcases hb with hb | rfl
      · exact Nat.lt_of_lt_of_le (hr.zlt b hb) hsame.size
      · omega
    · rcases hzb with hb | rfl
      · exact hr.zmu _ _ _ _ hx hb
      · have := hr.lt _ _ _ _ hx; omega
    · rcases hb with hb | rfl
      · exact .inl hb
      · exact .inr (Nat.le_refl _)
  | frzB hg ho hs hd he hx0 =>
    rename_i s d e x st
    have := yielded_eq (w := w) hops hsz hg hguard
    simp only [this, if_true]
    left
    have hx := hT x (by rw [ho]; simp [Op.operands])
    rw [hx0] at hx
    have hxe := val_inv hx
    have hcap : st.size ≤ grownCap w st.size 0 e := by unfold grownCap Question.cut; exact Nat.le_add_right _ _
    have hrun := run_bytes_of_string w s d e st hs hd he
    generalize hcp : grownCap w st.size 0 e = cap at hrun hcap
    have hbs : (bytesRow st cap).size = cap := by
      simp only [bytesRow, Array.size_append, Array.size_map, Array.size_replicate]
      have : st.data.size = st.size := rfl
      omega
    have hrun' : (execOp a.eval o).run P w = .ok (.value (.slice (some ⟨w.heap.size, 0, none⟩) st.size cap)) (w.drew.alloc (.cells (bytesRow st cap) e (cap, cap + 1))) := by
      unfold execOp
      rw [ho]
      simp only [hxe, Sem.run_bind, hrun, Result.andThen_ok, Sem.run_pure]
      rw [hbs]
    unfold Oper.wp
    rw [hrun']
    have hheap : (w.drew.alloc (.cells (bytesRow st cap) e (cap, cap + 1))).heap = w.heap.push (.cells (bytesRow st cap) e (cap, cap + 1)) := by rw [heap_alloc, drew_heap]
    have hob : OldBut w.heap (w.drew.alloc (.cells (bytesRow st cap) e (cap, cap + 1))).heap (fun _ => False) := by rw [hheap]; exact oldBut_push _ _
    have hsz' : (w.drew.alloc (.cells (bytesRow st cap) e (cap, cap + 1))).heap.size = w.heap.size + 1 := by rw [hheap]; simp
    have hm : Mono Z (fun b => Z b ∨ b = w.heap.size) μ μ w.heap (w.drew.alloc (.cells (bytesRow st cap) e (cap, cap + 1))).heap := ⟨fun _ h => .inl h, fun b hb => hob b (hr.zlt b hb) (fun x => x), fun _ _ h => h, hob.shapes⟩
    have hsame : Same w (w.drew.alloc (.cells (bytesRow st cap) e (cap, cap + 1))) := same_drew_alloc _ _
    have hst : stepH H h h [] = H := by
      funext id
      unfold stepH
      rw [if_neg]
      rintro (h1 | h1)
      · simp at h1
      · omega
    refine hK _ _ (fun b => Z b ∨ b = w.heap.size) μ ?_ (hst.symm ▸ ⟨fun id => ?_, hr.inj, fun id b o s hx => Nat.lt_of_lt_of_le (hr.lt _ _ _ _ hx) hsame.size, fun b hb => ?_, fun id b o s hx hzb => ?_⟩)
      ⟨hsame, hm, fun b hb _ => hob b hb (fun x => x), fun b hb => ?_, fun _ _ _ _ h => .inl h⟩ (fun _ _ => rfl)
    · have hl : (bytesE st).length = st.size := by rw [bytesE, List.length_map, bsize]
      have := VRel.fro (Z := fun b => Z b ∨ b = w.heap.size) (μ := μ) (hp := (w.drew.alloc (.cells (bytesRow st cap) e (cap, cap + 1))).heap) (bytesE st) w.heap.size 0 1 cap (fun i _ => .int .u8 ((st.data.toList.getD i 0).toNat)) (.inr rfl) (by rw [hl]; exact hcap) ?_ ?_ ?_
      · rw [hl] at this; exact this
      · intro i hi
        have hi' : i < st.data.toList.length := by simpa [bytesE] using hi
        simp only [bytesE, List.getD_eq_getElem?_getD, List.getElem?_map, List.getElem?_eq_getElem hi', Option.map_some, Option.getD_some, List.length_cons, List.length_nil]
      · intro i j hi hj
        obtain rfl : j = 0 := by omega
        have hi' : i < st.data.size := by simpa [bytesE] using hi
        rw [hheap]
        simp only [cellAt, Array.getElem?_push_size, bytesRow, Nat.mul_one, Nat.add_zero, Nat.zero_add]
        rw [Array.getElem?_append_left (by simpa using hi'), Array.getElem?_map, Array.getElem?_eq_getElem hi']
        simp [List.getD_eq_getElem?_getD, Array.getElem?_eq_getElem hi']
      · intro i j hi hj
        obtain rfl : j = 0 := by omega
        have hi' : i < st.data.size := by simpa [bytesE] using hi
        simp only [bytesE, List.getD_eq_getElem?_getD, List.getElem?_map, Array.getElem?_toList, Array.getElem?_eq_getElem hi', Option.map_some, Option.getD_some, List.getElem?_cons_zero]
        exact .val _ rfl
    · exact (hr.obj id).mono hm rfl (fun b o s hx => hob b (hr.lt _ _ _ _ hx) (fun x => x))
    · rcases hb with hb | rfl
      · exact Nat.lt_of_lt_of_le (hr.zlt b hb) hsame.size
      · omega
    · rcases hzb with hb | rfl
      · exact hr.zmu _ _ _ _ hx hb
      · have := hr.lt _ _ _ _ hx; omega
    · rcases hb with hb | rfl
      · exact .inl hb
      · exact .inr (Nat.le_refl _)
  | call hg ho hf hok hc hw hwl =>
    rename_i f args ats g first cap
    have := yielded_eq (w := w) hops hsz hg hguard
    simp only [this, if_true]
    left
    have hargs : ∀ x ∈ args.toList, VRel Z μ w.heap (ev T x) (a.eval x) := fun x hx => hT x (by rw [ho]; simp [Op.operands, Call.operands]; right; simpa using hx)
    have hfv := hT f (by rw [ho]; simp [Op.operands, Call.operands])
    rw [hf] at hfv
    generalize hfe : a.eval f = fx at hfv
    cases hfv with
    | fn _ _ _ aas bs h1 h2 h3 h4 =>
      have hrun : (execOp a.eval o).run P w = .ok (.enter g (aas ++ args.map a.eval ++ bs)) w := by
        unfold execOp
        rw [ho]
        simp only [resolve, hfe, Deferred.ofValue, Sem.run_bind, Sem.run_pure, Result.andThen_ok, invoke, callFunc_run hok]
      unfold Oper.wp
      rw [hrun]
      show Calls P g (aas ++ args.map a.eval ++ bs) w _
      have hxs : (aas ++ args.map a.eval ++ bs) = (aas.toList ++ args.toList.map a.eval ++ bs.toList).toArray := by
        apply Array.ext'; simp
      rw [hxs]
      have hrels : VRels Z μ w.heap (first ++ args.toList.map (ev T) ++ cap) (aas.toList ++ args.toList.map a.eval ++ bs.toList) := by
        have app : ∀ {p q : List V} {x y : List Value}, VRels Z μ w.heap p x → VRels Z μ w.heap q y → VRels Z μ w.heap (p ++ q) (x ++ y) := by
          intro p q x y hp hq
          refine ⟨by simp [hp.1, hq.1], fun k hk => ?_⟩
          simp only [List.getD_eq_getElem?_getD]
          by_cases hkl : k < p.length
          · rw [List.getElem?_append_left hkl, List.getElem?_append_left (hp.1 ▸ hkl)]
            simpa only [List.getD_eq_getElem?_getD] using hp.2 k hkl
          · rw [List.getElem?_append_right (by omega), List.getElem?_append_right (by rw [← hp.1]; omega), ← hp.1]
            simpa only [List.getD_eq_getElem?_getD] using hq.2 (k - p.length) (by simp at hk; omega)
        refine app (app ⟨by simpa using h1, fun k hk => ?_⟩ ⟨by simp, fun k hk => ?_⟩) ⟨by simpa using h2, fun k hk => ?_⟩
        · simpa [List.getD_eq_getElem?_getD, Array.getD_eq_getD_getElem?] using h3 k hk
        · have hk' : k < args.toList.length := by simpa using hk
          have := hargs args.toList[k] (List.getElem_mem _)
          simp only [List.getD_eq_getElem?_getD, List.getElem?_map, List.getElem?_eq_getElem hk', Option.map_some, Option.getD_some]
          exact this
        · simpa [List.getD_eq_getElem?_getD, Array.getD_eq_getD_getElem?] using h4 k hk
      have hcat : HRel Z μ w.heap (cat h H) := hr.congr (fun id hid => by
        unfold cat; split
        · rename_i hlt; exact (hcall rfl id hlt hid).symm
        · rfl)
      refine (hc.2 Z μ H w _ hrels hcat hnew).mono ?_
      rintro e w' ⟨x, Z', μ', rfl, hv, hh, hex, hfix⟩
      refine hK x w' Z' μ' hv (hh.congr fun id hid => ?_) hex hfix
      unfold stepH cat
      by_cases hwr : id ∈ wr ∨ (h.length ≤ id ∧ id < h'.length)
      · rw [if_pos hwr]
        rcases hwr with h5 | h5
        · by_cases hl : id < h'.length
          · rw [if_pos hl]
          · exact absurd (Nat.lt_of_lt_of_le (hwl id h5) hc.1) hl
        · rw [if_pos h5.2]
      · rw [if_neg hwr]
        by_cases hl : id < h'.length
        · rw [if_pos hl]
          have hl2 : id < h.length := by
            rcases Nat.lt_or_ge id h.length with h6 | h6
            · exact h6
            · exact absurd (.inr ⟨h6, hl⟩) hwr
          rw [hw id hl2 (fun q => hwr (.inl q))]
          exact hcall rfl id hl2 (by rw [← hfix id (.inl hl2)]; exact hid)
        · rw [if_neg hl]

end
end Gv

/-
  A region that draws its order comes to what it comes to in the order of the text, where nothing that may change places gets in another's way.
  Conditions: none beyond those that each lemma names.
-/
namespace Gv
open Go

/-- What a step read, what it turned, whether it was a call, which numbers it gave. -/
structure Rec where
  rd : List Nat
  wr : List Nat
  call : Bool
  lo : Nat
  hi : Nat

inductive Tr (P : Program) (n : Nat) (all : List Oper) : List Oper → Env → Heap → List Rec → Env → Heap → Prop
  | nil {T : Env} {h : Heap} : Tr P n all [] T h [] T h
  | cons {o : Oper} {rest : List Oper} {T T' : Env} {h h1 h' : Heap} {v : V} {rd wr : List Nat} {call : Bool} {recs : List Rec} : OStep P n all o T h v h1 rd wr call → dstOk n o = true →
      Tr P n all rest (T.put o.dst v) h1 recs T' h' → Tr P n all (o :: rest) T h (⟨rd, wr, call, h.length, h1.length⟩ :: recs) T' h'

def mask (o : Oper) (acc : List Nat) : Nat := o.after.toList.foldl (fun s e => if Region.binds .any e then s ||| 2 ^ e.on ||| acc.getD e.on 0 else s) 0
def befs : List Oper → List Nat → List Nat
  | [], acc => acc
  | o :: r, acc => befs r (acc ++ [mask o acc])

def tmpsOf (o : Oper) : List Nat := o.op.operands.toList.filterMap fun | .tmp t => some t | _ => none
def usesOf (all : List Oper) (o : Oper) : List Nat := o.dst.toList ++ tmpsOf o ++ (match o.guard with
  | some (j, _) => ((all[j]?).bind (·.dst)).toList
  | none => [])

def disj (d : Option Nat) (l : List Nat) : Bool := match d with
  | some t => !l.contains t
  | none => true

def ordered (b : List Nat) (i k : Nat) : Bool := (b.getD k 0).testBit i

/-- No two that may change places name one slot that either writes; edges lead back. -/
def tmpsOk (all : List Oper) : Bool :=
  let b := befs all []
  all.zipIdx.all fun (ok, k) =>
    (ok.after.toList.all fun e => !Region.binds .any e || decide (e.on < k)) &&
    all.zipIdx.all fun (oi, i) => !decide (i < k) || ordered b i k || (disj oi.dst (usesOf all ok) && disj ok.dst (usesOf all oi))

structure NoConf (a b : Rec) : Prop where
  wr1 : ∀ id, id ∈ a.wr → ¬ id ∈ b.rd
  wr2 : ∀ id, id ∈ b.wr → ¬ id ∈ a.rd
  call1 : a.call = true → b.wr = []
  call2 : b.call = true → a.wr = []
  new : ∀ id, id ∈ b.wr → ¬ (a.lo ≤ id ∧ id < a.hi)

def Conf (all : List Oper) (recs : List Rec) : Prop := ∀ i k a b, i < k → recs[i]? = some a → recs[k]? = some b → ordered (befs all []) i k = false → NoConf a b

theorem mask_spec (l : List Edge) (acc : List Nat) (s j : Nat) : (l.foldl (fun s e => if Region.binds .any e then s ||| 2 ^ e.on ||| acc.getD e.on 0 else s) s).testBit j = true →
    s.testBit j = true ∨ ∃ e ∈ l, Region.binds .any e = true ∧ (j = e.on ∨ (acc.getD e.on 0).testBit j = true) := by
  induction l generalizing s with
  | nil => intro h; exact .inl h
  | cons e l ih =>
    intro h
    simp only [List.foldl_cons] at h
    rcases ih _ h with h1 | ⟨e', he', h2⟩
    · by_cases hb : Region.binds .any e = true
      · rw [if_pos hb, Nat.testBit_or, Nat.testBit_or, Nat.testBit_two_pow] at h1
        simp only [Bool.or_eq_true, decide_eq_true_eq] at h1
        rcases h1 with (h1 | h1) | h1
        · exact .inl h1
        · exact .inr ⟨e, List.mem_cons_self, hb, .inl h1.symm⟩
        · exact .inr ⟨e, List.mem_cons_self, hb, .inr h1⟩
      · rw [if_neg hb] at h1; exact .inl h1
    · exact .inr ⟨e', List.mem_cons_of_mem _ he', h2⟩

theorem befs_old : ∀ (l : List Oper) (acc : List Nat) (k : Nat), k < acc.length → (befs l acc).getD k 0 = acc.getD k 0
  | [], acc, k, _ => rfl
  | o :: r, acc, k, h => by
    rw [befs, befs_old r _ k (by simp; omega)]
    simp [List.getD_eq_getElem?_getD, List.getElem?_append_left h]

theorem befs_at : ∀ (l : List Oper) (acc : List Nat) (k : Nat) (o : Oper), l[k]? = some o → ∃ acc', (befs l acc).getD (acc.length + k) 0 = mask o acc' ∧ acc'.length = acc.length + k ∧ ∀ m, m < acc'.length → acc'.getD m 0 = (befs l acc).getD m 0
  | [], acc, k, o, h => by simp at h
  | p :: r, acc, 0, o, h => by
    simp at h; subst h
    refine ⟨acc, ?_, by simp, fun m hm => ?_⟩
    · rw [befs, befs_old r _ _ (by simp)]
      simp [List.getD_eq_getElem?_getD]
    · rw [befs, befs_old r _ _ (by simp; omega)]
      simp [List.getD_eq_getElem?_getD, List.getElem?_append_left hm]
  | p :: r, acc, k + 1, o, h => by
    have h' : r[k]? = some o := by simpa using h
    obtain ⟨acc', h1, h2, h3⟩ := befs_at r (acc ++ [mask p acc]) k o h'
    refine ⟨acc', ?_, by simp at h2; omega, fun m hm => ?_⟩
    · rw [befs]
      have e : (acc ++ [mask p acc]).length + k = acc.length + (k + 1) := by simp; omega
      rw [← e]; exact h1
    · rw [befs]; exact h3 m hm

/-- What is done is done with all that it waits for. -/
theorem closed_before {all : List Oper} {L : Nat → Prop} (hb : ∀ k o, all[k]? = some o → ∀ e ∈ o.after.toList, Region.binds .any e = true → e.on < k)
    (hL : ∀ k o, all[k]? = some o → L k → ∀ e ∈ o.after.toList, Region.binds .any e = true → L e.on) : ∀ k o j, all[k]? = some o → L k → ordered (befs all []) j k = true → L j := by
  intro k
  induction k using Nat.strongRecOn with
  | _ k ih =>
    intro o j hk hLk ho
    unfold ordered at ho
    obtain ⟨acc', h1, h2, h3⟩ := befs_at all [] k o hk
    simp only [List.length_nil, Nat.zero_add] at h1 h2
    rw [h1] at ho
    rcases mask_spec _ _ _ _ ho with h4 | ⟨e, he, hbe, h4⟩
    · simp at h4
    · have hlt := hb k o hk e he hbe
      have hLe := hL k o hk hLk e he hbe
      rcases h4 with h4 | h4
      · rw [h4]; exact hLe
      · have hklt : k < all.length := by
          rcases Nat.lt_or_ge k all.length with h5 | h5
          · exact h5
          · simp [List.getElem?_eq_none h5] at hk
        refine ih e.on hlt _ j (List.getElem?_eq_getElem (by omega)) hLe ?_
        unfold ordered
        rw [← h3 e.on (by omega)]
        exact h4

theorem waits_before {all : List Oper} {L : Nat → Prop} (hb : ∀ k o, all[k]? = some o → ∀ e ∈ o.after.toList, Region.binds .any e = true → e.on < k)
    (hL : ∀ k o, all[k]? = some o → L k → ∀ e ∈ o.after.toList, Region.binds .any e = true → L e.on) {k : Nat} {o : Oper} (hk : all[k]? = some o) (hr : ∀ e ∈ o.after.toList, Region.binds .any e = true → L e.on)
    {j : Nat} (ho : ordered (befs all []) j k = true) : L j := by
  unfold ordered at ho
  obtain ⟨acc', h1, h2, h3⟩ := befs_at all [] k o hk
  simp only [List.length_nil, Nat.zero_add] at h1 h2
  rw [h1] at ho
  rcases mask_spec _ _ _ _ ho with h4 | ⟨e, he, hbe, h4⟩
  · simp at h4
  · have hlt := hb k o hk e he hbe
    have hLe := hr e he hbe
    rcases h4 with h4 | h4
    · rw [h4]; exact hLe
    · have hklt : k < all.length := by
        rcases Nat.lt_or_ge k all.length with h5 | h5
        · exact h5
        · simp [List.getElem?_eq_none h5] at hk
      refine closed_before hb hL e.on _ j (List.getElem?_eq_getElem (by omega)) hLe ?_
      unfold ordered
      rw [← h3 e.on (by omega)]
      exact h4

theorem tmpsOk_spec {all : List Oper} (h : tmpsOk all = true) : (∀ k o, all[k]? = some o → ∀ e ∈ o.after.toList, Region.binds .any e = true → e.on < k) ∧
    ∀ i k oi ok, i < k → all[i]? = some oi → all[k]? = some ok → ordered (befs all []) i k = false → (∀ t, oi.dst = some t → ¬ t ∈ usesOf all ok) ∧ (∀ t, ok.dst = some t → ¬ t ∈ usesOf all oi) := by
  unfold tmpsOk at h
  have mem : ∀ k o, all[k]? = some o → (o, k) ∈ all.zipIdx := by
    intro k o hk
    rw [List.mem_zipIdx_iff_getElem?]; exact hk
  refine ⟨fun k o hk e he hb => ?_, fun i k oi ok hik hi hk ho => ?_⟩
  · have := List.all_eq_true.1 h _ (mem k o hk)
    simp only [Bool.and_eq_true] at this
    have := List.all_eq_true.1 this.1 e he
    simpa [hb] using this
  · have := List.all_eq_true.1 h _ (mem k ok hk)
    simp only [Bool.and_eq_true] at this
    have := List.all_eq_true.1 this.2 _ (mem i oi hi)
    simp only [hik, decide_true, Bool.not_true, Bool.false_or, ho, Bool.and_eq_true] at this
    have dj : ∀ (d : Option Nat) (l : List Nat), disj d l = true → ∀ t, d = some t → ¬ t ∈ l := by
      intro d l hd t ht
      subst ht
      simpa [disj] using hd
    exact ⟨dj _ _ this.1, dj _ _ this.2⟩

/-- The states along the text. -/
theorem tr_states {P : Program} {n : Nat} {all : List Oper} : ∀ (l : List Oper) (T : Env) (h : Heap) (recs : List Rec) (T' : Env) (h' : Heap), Tr P n all l T h recs T' h' →
    recs.length = l.length ∧ ∃ (Ts : Nat → Env) (hs : Nat → Heap) (vs : Nat → V), Ts 0 = T ∧ hs 0 = h ∧ Ts l.length = T' ∧ hs l.length = h' ∧
      ∀ i o r, l[i]? = some o → recs[i]? = some r → OStep P n all o (Ts i) (hs i) (vs i) (hs (i + 1)) r.rd r.wr r.call ∧ dstOk n o = true ∧ Ts (i + 1) = (Ts i).put o.dst (vs i) ∧ r.lo = (hs i).length ∧ r.hi = (hs (i + 1)).length := by
  intro l T h recs T' h' tr
  induction tr with
  | nil => exact ⟨rfl, fun _ => _, fun _ => _, fun _ => .any, rfl, rfl, rfl, rfl, fun i o r h => by simp at h⟩
  | @cons o rest T T' h h1 h' v rd wr call recs hst hd _ ih =>
    obtain ⟨hl, Ts, hs, vs, e1, e2, e3, e4, hi⟩ := ih
    refine ⟨by simp [hl], fun i => match i with | 0 => T | i + 1 => Ts i, fun i => match i with | 0 => h | i + 1 => hs i, fun i => match i with | 0 => v | i + 1 => vs i, rfl, rfl, e3, e4, ?_⟩
    intro i o' r ho hr
    cases i with
    | zero =>
      simp at ho hr
      subst ho hr
      exact ⟨by simpa only [e1, e2] using hst, hd, by simp only [e1], rfl, by simp only [e2]⟩
    | succ i =>
      exact hi i o' r (by simpa using ho) (by simpa using hr)

theorem ostep_len {P : Program} {n : Nat} {all : List Oper} {o : Oper} {T : Env} {h h' : Heap} {v : V} {rd wr : List Nat} {call : Bool} (st : OStep P n all o T h v h' rd wr call) : h.length ≤ h'.length := by
  cases st with
  | skip => exact Nat.le_refl _
  | op _ _ => rw [apply_length]; exact Nat.le_add_right _ _
  | frz _ _ _ => exact Nat.le_refl _
  | frzB _ _ _ _ _ _ => exact Nat.le_refl _
  | call _ _ _ _ hc _ _ => exact hc.1

theorem ostep_view {P : Program} {n : Nat} {all : List Oper} {o : Oper} {T : Env} {h h' : Heap} {v : V} {rd wr : List Nat} {call : Bool} (st : OStep P n all o T h v h' rd wr call) {id : Nat} (hid : id < h.length) (hw : ¬ id ∈ wr) : h'.view id = h.view id := by
  cases st with
  | skip => rfl
  | op hg hop =>
    rename_i eff
    rw [apply_view (fun id hid => (aop_live hop id hid).1)]
    cases eff with
    | none => rfl
    | new o => simp only [Eff.view, View.set]; rw [if_neg (by omega)]
    | upd k o => simp only [Eff.view, View.set]; rw [if_neg (fun e => hw (by simp [Eff.wr, e]))]
    | mov k o => simp only [Eff.view, View.set]; rw [if_neg (by omega), if_neg (fun e => hw (by simp [Eff.wr, e]))]
  | frz _ _ _ => rfl
  | frzB _ _ _ _ _ _ => rfl
  | call _ _ _ _ _ hv _ => exact hv id hid hw

theorem ostep_wr {P : Program} {n : Nat} {all : List Oper} {o : Oper} {T : Env} {h h' : Heap} {v : V} {rd wr : List Nat} {call : Bool} (st : OStep P n all o T h v h' rd wr call) {id : Nat} (hw : id ∈ wr) : id < h.length ∧ (call = false → id ∈ rd) := by
  cases st with
  | skip => simp at hw
  | op hg hop => exact ⟨view_ne (aop_live hop id hw).1, fun _ => (aop_live hop id hw).2⟩
  | frz _ _ _ => simp at hw
  | frzB _ _ _ _ _ _ => simp at hw
  | call _ _ _ _ _ _ hl => exact ⟨hl id hw, fun h => by simp at h⟩

theorem elems_rd {H : View} {x : V} {xs : List (List V)} {rd : List Nat} (h : elemsOf H x = some (xs, rd)) : ∀ id, id ∈ rd → H id ≠ .dead := by
  intro id hid
  unfold elemsOf at h
  split at h
  · simp at h; rw [h.2] at hid; simp at hid
  · simp at h; rw [h.2] at hid; simp at hid
  · simp at h; rw [h.2] at hid; simp at hid
  · simp at h; rw [h.2] at hid; simp at hid
  · split at h
    · rename_i hH
      split at h
      · simp at h; rw [← h.2] at hid; simp at hid; subst hid; rw [hH]; simp
      · simp at h
    · simp at h
  · simp at h; rw [h.2] at hid; simp at hid
  · simp at h

/-- What an operation reads is there. -/
theorem aop_rd {P : Program} {o : Oper} {T : Env} {H : View} {n : Nat} {v : V} {eff : Eff} {rd : List Nat} (h : aop P o T H n = some (v, eff, rd)) : ∀ id, id ∈ rd → H id ≠ .dead := by
  have nn : ∀ {v' : V} {e : Eff}, some (v', e, ([] : List Nat)) = some (v, eff, rd) → ∀ id, id ∈ rd → H id ≠ .dead := by
    intro v' e heq id hid
    simp only [Option.some.injEq, Prod.mk.injEq] at heq
    rw [← heq.2.2] at hid; simp at hid
  have one : ∀ {k : Nat} {v' : V} {e : Eff}, H k ≠ .dead → some (v', e, [k]) = some (v, eff, rd) → ∀ id, id ∈ rd → H id ≠ .dead := by
    intro k v' e hk heq id hid
    simp only [Option.some.injEq, Prod.mk.injEq] at heq
    rw [← heq.2.2] at hid; simp at hid; subst hid; exact hk
  have mp : ∀ {α : Type} {x : Option α} {f : α → V}, (x.map fun a => (f a, Eff.none, ([] : List Nat))) = some (v, eff, rd) → ∀ id, id ∈ rd → H id ≠ .dead := by
    intro α x f h
    simp only [Option.map_eq_some_iff] at h
    obtain ⟨a, _, h⟩ := h
    exact nn (congrArg some h)
  have mp1 : ∀ {α : Type} {x : Option α} {f : α → V} {k : Nat}, H k ≠ .dead → (x.map fun a => (f a, Eff.none, [k])) = some (v, eff, rd) → ∀ id, id ∈ rd → H id ≠ .dead := by
    intro α x f k hk h
    simp only [Option.map_eq_some_iff] at h
    obtain ⟨a, _, h⟩ := h
    exact one hk (congrArg some h)
  have pu : aPure P o T = some (v, eff, rd) → ∀ id, id ∈ rd → H id ≠ .dead := by
    intro h
    unfold aPure at h
    repeat' (split at h)
    all_goals first | exact nn h | (simp at h; done)
  have bx : ∀ {cs : List V}, aBox cs n = some (v, eff, rd) → ∀ id, id ∈ rd → H id ≠ .dead := by
    intro cs h
    unfold aBox at h
    split at h
    · exact nn h
    · simp at h
  have ell : ∀ {x : V} {xs : List (List V)} {r : List Nat} {v' : V} {e : Eff}, elemsOf H x = some (xs, r) → some (v', e, r) = some (v, eff, rd) → ∀ id, id ∈ rd → H id ≠ .dead := by
    intro x xs r v' e he heq id hid
    simp only [Option.some.injEq, Prod.mk.injEq] at heq
    rw [← heq.2.2] at hid
    exact elems_rd he id hid
  have elc : ∀ {x : V} {xs : List (List V)} {r : List Nat} {v' : V} {e : Eff} {k : Nat}, elemsOf H x = some (xs, r) → H k ≠ .dead → some (v', e, k :: r) = some (v, eff, rd) → ∀ id, id ∈ rd → H id ≠ .dead := by
    intro x xs r v' e k he hk heq id hid
    simp only [Option.some.injEq, Prod.mk.injEq] at heq
    rw [← heq.2.2] at hid
    rcases List.mem_cons.1 hid with h1 | h1
    · subst h1; exact hk
    · exact elems_rd he id h1
  unfold aop at h
  split at h
  · exact nn h
  · exact nn h
  · split at h
    · exact nn h
    · simp at h
  · split at h
    · exact bx h
    · simp at h
  · exact bx h
  · unfold aBuild at h
    split at h
    · split at h
      · exact mp h
      · simp at h
    · simp at h
  · unfold aBuildSlice at h
    repeat' (split at h)
    all_goals first | exact nn h | (simp at h; done)
  · unfold aLoad at h
    split at h
    · split at h
      · rename_i hH
        split at h
        · exact mp1 (by rw [hH]; simp) h
        · simp at h
      · simp at h
    · exact mp h
    · simp at h
  · unfold aStore at h
    split at h
    · split at h
      · rename_i hH
        split at h
        · exact one (by rw [hH]; simp) h
        · simp at h
      · simp at h
    · simp at h
  · repeat' (split at h)
    all_goals first | exact nn h | (simp at h; done)
  · unfold aFieldAddr at h
    repeat' (split at h)
    all_goals first | exact nn h | (simp at h; done)
  · unfold aField at h
    split at h
    · exact mp h
    · simp at h
  · unfold aIndexAddr at h
    repeat' (split at h)
    all_goals first | exact nn h | (simp at h; done)
  · split at h
    · exact pu h
    · unfold aSlice at h
      repeat' (split at h)
      all_goals first | exact nn h | (simp at h; done)
  · unfold aMakeSlice at h
    repeat' (split at h)
    all_goals first | exact nn h | (simp at h; done)
  · repeat' (split at h)
    all_goals first | exact nn h | (simp at h; done)
  · exact nn h
  · unfold aLookup at h
    simp only at h
    split at h
    · simp at h
    · split at h
      · simp at h
      · split at h
        · split at h
          · rename_i hH
            repeat' (split at h)
            all_goals first | exact one (by rw [hH]; simp) h | (simp at h; done)
          · simp at h
        · simp at h
  · unfold aMapUpdate at h
    split at h
    · split at h
      · rename_i hH
        repeat' (split at h)
        all_goals first | exact one (by rw [hH]; simp) h | (simp at h; done)
      · simp at h
    · simp at h
  · unfold aMapEntry at h
    split at h
    · split at h
      · rename_i hH
        repeat' (split at h)
        all_goals first | exact one (by rw [hH]; simp) h | (simp at h; done)
      · simp at h
    · simp at h
  · unfold aEntryStore at h
    split at h
    · split at h
      · rename_i hH
        repeat' (split at h)
        all_goals first | exact one (by rw [hH]; simp) h | (simp at h; done)
      · simp at h
    · simp at h
  · repeat' (split at h)
    all_goals first | exact nn h | (simp at h; done)
  · repeat' (split at h)
    all_goals first | exact nn h | (simp at h; done)
  · unfold aNext at h
    split at h
    · split at h
      · rename_i hH
        split at h
        · exact one (by rw [hH]; simp) h
        · exact one (by rw [hH]; simp) h
      · simp at h
    · simp at h
  · split at h
    · unfold aConvert at h
      split at h
      · split at h
        · split at h
          · rename_i he _
            simp only [Option.map_eq_some_iff] at h
            obtain ⟨a, _, h⟩ := h
            exact ell he (congrArg some h)
          · simp at h
        · simp at h
      · repeat' (split at h)
        all_goals first | exact nn h | (simp at h; done)
      · split at h
        · split at h
          · split at h
            · rename_i hH
              exact one (by rw [hH]; simp) h
            · simp at h
          · simp at h
        · simp at h
      · simp at h
    · exact pu h
  · split at h
    · split at h
      · unfold aLen at h
        split at h
        · exact mp h
        · split at h
          · split at h
            · rename_i hH
              exact one (by rw [hH]; simp) h
            · simp at h
          · exact nn h
          · simp at h
        · repeat' (split at h)
          all_goals first | exact nn h | (simp at h; done)
        · exact nn h
        · simp at h
      · simp at h
    · split at h
      · unfold aAppend at h
        split at h
        · rename_i hel
          split at h
          · simp at h
          · split at h
            · split at h
              all_goals first | exact nn h | (simp at h; done)
            · split at h
              · simp at h
              · split at h
                · split at h
                  · exact ell hel h
                  · simp at h
                · split at h
                  · rename_i hH
                    split at h
                    · exact elc hel (by rw [hH]; simp) h
                    · simp at h
                  · simp at h
                · simp at h
        · simp at h
      · simp at h
    · split at h
      · unfold aCopy at h
        split at h
        · rename_i hel _
          split at h
          · simp at h
          · split at h
            · exact nn h
            · split at h
              · split at h
                · rename_i hH
                  split at h
                  · exact elc hel (by rw [hH]; simp) h
                  · simp at h
                · simp at h
              · simp at h
        · simp at h
      · simp at h
    · split at h
      · unfold aDelete at h
        split at h
        · split at h
          · rename_i hH
            repeat' (split at h)
            all_goals first | exact one (by rw [hH]; simp) h | (simp at h; done)
          · simp at h
        · simp at h
      · simp at h
    · exact pu h
    · exact pu h
    · exact pu h
    · exact pu h
    · exact pu h
    · simp at h
  · split at h
    · split at h
      · exact nn h
      · exact nn h
      · simp at h
    · exact pu h
  · exact pu h
  · exact pu h
  · simp at h

theorem ostep_rd {P : Program} {n : Nat} {all : List Oper} {o : Oper} {T : Env} {h h' : Heap} {v : V} {rd wr : List Nat} {call : Bool} (st : OStep P n all o T h v h' rd wr call) {id : Nat} (hw : id ∈ rd) : id < h.length := by
  cases st with
  | skip => simp at hw
  | op hg hop => exact view_ne (aop_rd hop id hw)
  | frz _ _ _ => simp at hw
  | frzB _ _ _ _ _ _ => simp at hw
  | call _ _ _ _ _ _ hl => simp at hw

end Gv

/-
  A region that draws its order comes to what it comes to in the order of the text: the theorem; what running code means.
  Conditions: none beyond those that each lemma names.
-/
namespace Gv
open Go

/-- A frame and a memory as the abstract machine has them. -/
structure Sim (n : Nat) (Z : Nat → Prop) (μ : Mu) (F : View) (T : Env) (h : Heap) (a : Act) (w : World) : Prop where
  defers : a.defers = []
  size : a.tmps.size = n
  tm : ∀ t, VRel Z μ w.heap (T t) (a.tmps.getD t undef)
  hr : HRel Z μ w.heap (cat h F)

/-- What running a piece of code comes to. -/
def Exec (P : Program) (n : Nat) (c : Code) (T : Env) (h : Heap) (e : Exit) (T' : Env) (h' : Heap) : Prop :=
  h.length ≤ h'.length ∧ ∀ Z μ F a w, (∀ id, h.length ≤ id → id < h'.length → μ id = none) → Sim n Z μ F T h a w →
    c.wp P (fun e' a' w' => e' = e ∧ ∃ Z' μ', Sim n Z' μ' F T' h' a' w' ∧ Ext Z μ w h.length Z' μ' w' ∧ (∀ id, id < h.length ∨ h'.length ≤ id → μ' id = μ id)) a w

section
variable {P : Program} {n : Nat} {all : List Oper}

theorem operand_rel {Z : Nat → Prop} {μ : Mu} {w : World} {T : Env} {a : Act} {o : Oper} (h : ∀ t, t ∈ tmpsOf o → VRel Z μ w.heap (T t) (a.tmps.getD t undef)) : ∀ x ∈ o.op.operands, VRel Z μ w.heap (ev T x) (a.eval x) := by
  intro x hx
  cases x with
  | tmp t => exact h t (by simp only [tmpsOf, List.mem_filterMap]; exact ⟨.tmp t, by simpa using hx, rfl⟩)
  | const v => exact ofVal_rel v
  | global g => exact .any _
  | func f => exact .fn f [] [] #[] #[] rfl rfl (fun i hi => by simp at hi) (fun i hi => by simp at hi)

theorem hs_mono {hs : Nat → Heap} {N : Nat} (h : ∀ i, i < N → (hs i).length ≤ (hs (i + 1)).length) : ∀ i j, i ≤ j → j ≤ N → (hs i).length ≤ (hs j).length := by
  intro i j hij
  induction hij with
  | refl => intro _; exact Nat.le_refl _
  | step _ ih => intro hj; exact Nat.le_trans (ih (by omega)) (h _ (by omega))

/-- No step between two places writes a slot. -/
theorem ts_same {Ts : Nat → Env} {vs : Nat → V} {N t : Nat} (hT : ∀ i o, all[i]? = some o → Ts (i + 1) = (Ts i).put o.dst (vs i)) (hN : N = all.length) : ∀ i j, i ≤ j → j ≤ N → (∀ k o, i ≤ k → k < j → all[k]? = some o → o.dst ≠ some t) → Ts j t = Ts i t := by
  intro i j hij
  induction hij with
  | refl => intro _ _; rfl
  | step hle ih =>
    rename_i m
    intro hj hno
    have hm : m < all.length := by omega
    rw [hT m all[m] (List.getElem?_eq_getElem hm)]
    have hd := hno m all[m] hle (by omega) (List.getElem?_eq_getElem hm)
    have : (Env.put (Ts m) (all[m]).dst (vs m)) t = Ts m t := by
      cases hdd : (all[m]).dst with
      | none => rfl
      | some d =>
        simp only [Env.put]
        rw [if_neg (fun e => hd (by rw [hdd, e]))]
    rw [this]
    exact ih (by omega) (fun k o h1 h2 h3 => hno k o h1 (by omega) h3)

theorem draw_exec (hm : P.follows .mixedOrders = true) {id : Nat} {T T' : Env} {h h' : Heap} {recs : List Rec} (tr : Tr P n all all T h recs T' h') (ht : tmpsOk all = true) (hc : Conf all recs) :
    Exec P n (.region id all.toArray true) T h .normal T' h' := by
  obtain ⟨hrl, Ts, hs, vs, eT0, eh0, eTN, ehN, hstep⟩ := tr_states all T h recs T' h' tr
  obtain ⟨hedge, htmps⟩ := tmpsOk_spec ht
  have hget : ∀ i, i < all.length → ∃ o r, all[i]? = some o ∧ recs[i]? = some r := fun i hi => ⟨all[i], recs[i]'(by omega), List.getElem?_eq_getElem hi, List.getElem?_eq_getElem (by omega)⟩
  have hlt : ∀ i o, all[i]? = some o → i < all.length := fun i o hi => lt_of_some hi
  have hT : ∀ i o, all[i]? = some o → Ts (i + 1) = (Ts i).put o.dst (vs i) := fun i o hi => by
    obtain ⟨o', r, h1, h2⟩ := hget i (hlt i o hi)
    rw [hi] at h1; simp at h1; subst h1
    exact (hstep i o r hi h2).2.2.1
  have hlen1 : ∀ i, i < all.length → (hs i).length ≤ (hs (i + 1)).length := fun i hi => by
    obtain ⟨o, r, h1, h2⟩ := hget i hi
    exact ostep_len (hstep i o r h1 h2).1
  have hmono := hs_mono hlen1
  have hle : h.length ≤ h'.length := by rw [← eh0, ← ehN]; exact hmono _ _ (Nat.zero_le _) (Nat.le_refl _)
  -- an object between two places where nothing turns it
  have hsame : ∀ i j id, i ≤ j → j ≤ all.length → id < (hs i).length → (∀ k r, i ≤ k → k < j → recs[k]? = some r → ¬ id ∈ r.wr) → (hs j).view id = (hs i).view id := by
    intro i j id hij
    induction hij with
    | refl => intro _ _ _; rfl
    | step hle ih =>
      rename_i m
      intro hj hid hno
      obtain ⟨o, r, h1, h2⟩ := hget m (by omega)
      rw [ostep_view (hstep m o r h1 h2).1 (Nat.lt_of_lt_of_le hid (hmono _ _ hle (by omega))) (hno m r hle (by omega) h2)]
      exact ih (by omega) hid (fun k r h1 h2 h3 => hno k r h1 (by omega) h3)
  refine ⟨hle, fun Z μ F a w hfree hsim => wp_region_any hm ?_⟩
  -- the loop's relation
  let Inv (listed : Array Bool) (a' : Act) (w' : World) : Prop := ∃ Z' μ' H, a'.defers = [] ∧ a'.tmps.size = n ∧
    (∀ t, ∃ τ, τ ≤ all.length ∧ VRel Z' μ' w'.heap (Ts τ t) (a'.tmps.getD t undef) ∧ ∀ k o, all[k]? = some o → o.dst = some t → (listed.getD k false = true ↔ k < τ)) ∧
    HRel Z' μ' w'.heap H ∧
    (∀ id, μ' id ≠ none → (∃ τ, τ ≤ all.length ∧ id < (hs τ).length ∧ H id = (hs τ).view id ∧ ∀ k r, recs[k]? = some r → id ∈ r.wr → (listed.getD k false = true ↔ k < τ)) ∨ (h'.length ≤ id ∧ H id = F id)) ∧
    (∀ k id, k < all.length → (hs k).length ≤ id → id < (hs (k + 1)).length → μ' id ≠ none → listed.getD k false = true) ∧
    (∀ k o, all[k]? = some o → listed.getD k false = true → ∀ e ∈ o.after.toList, Region.binds .any e = true → listed.getD e.on false = true) ∧
    Ext Z μ w h.length Z' μ' w' ∧ (∀ id, id < h.length ∨ h'.length ≤ id → μ' id = μ id) ∧ listed.size = all.length
  have key : ∀ fuel listed a' w', Inv listed a' w' → ((List.range all.length).countP fun i => !listed.getD i false) ≤ fuel →
      wpAny P .any all.toArray (fun e' a' w' => e' = .normal ∧ ∃ Z' μ', Sim n Z' μ' F T' h' a' w' ∧ Ext Z μ w h.length Z' μ' w' ∧ (∀ id, id < h.length ∨ h'.length ≤ id → μ' id = μ id)) fuel listed a' w' := by
    have ready_iff : ∀ (listed : Array Bool), listed.size = all.length → ∀ i, i ∈ Region.ready .any all.toArray listed ↔ (∃ o, all[i]? = some o ∧ listed.getD i false = false ∧ ∀ e ∈ o.after.toList, Region.binds .any e = true → listed.getD e.on false = true) := by
      intro listed hsz i
      simp only [Region.ready, List.size_toArray, List.mem_filter, List.mem_range, List.getElem?_toArray, Bool.and_eq_true, Bool.not_eq_true']
      constructor
      · rintro ⟨hi, h1, h2⟩
        rw [List.getElem?_eq_getElem hi] at h2
        simp only [Option.map_some, Option.getD_some] at h2
        refine ⟨all[i], List.getElem?_eq_getElem hi, ?_, fun e he hb => ?_⟩
        · have : i < listed.size := by omega
          simp only [Array.getD_eq_getD_getElem?, Array.getElem?_eq_getElem this, Option.getD_some] at h1 ⊢
          exact h1
        · have := Array.all_eq_true_iff_forall_mem.1 h2 e (by simpa using he)
          simpa [hb] using this
      · rintro ⟨o, ho, h1, h2⟩
        have hi := hlt i o ho
        refine ⟨hi, ?_, ?_⟩
        · have : i < listed.size := by omega
          simp only [Array.getD_eq_getD_getElem?, Array.getElem?_eq_getElem this, Option.getD_some] at h1 ⊢
          exact h1
        · rw [ho]
          simp only [Option.map_some, Option.getD_some]
          rw [Array.all_eq_true_iff_forall_mem]
          intro e he
          cases hb : Region.binds .any e with
          | false => rfl
          | true => simpa using h2 e (by simpa using he) hb
    -- when nothing is ready, all is done
    have alldone : ∀ (listed : Array Bool), listed.size = all.length → Region.ready .any all.toArray listed = [] → ∀ i, i < all.length → listed.getD i false = true := by
      intro listed hsz hnil i
      induction i using Nat.strongRecOn with
      | _ i ih =>
        intro hi
        cases hl : listed.getD i false with
        | true => rfl
        | false =>
          exfalso
          have : i ∈ Region.ready .any all.toArray listed := (ready_iff listed hsz i).2 ⟨all[i], List.getElem?_eq_getElem hi, hl, fun e he hb => ih e.on (hedge i all[i] (List.getElem?_eq_getElem hi) e he hb) (by have := hedge i all[i] (List.getElem?_eq_getElem hi) e he hb; omega)⟩
          rw [hnil] at this; simp at this
    have finish : ∀ listed a' w', Inv listed a' w' → (∀ i, i < all.length → listed.getD i false = true) →
        ∃ Z' μ', Sim n Z' μ' F T' h' a' w' ∧ Ext Z μ w h.length Z' μ' w' ∧ (∀ id, id < h.length ∨ h'.length ≤ id → μ' id = μ id) := by
      rintro listed a' w' ⟨Z', μ', H, hd, hsz, htm, hr, hob, hdom, hcl, hex, hfix, hls⟩ hall
      refine ⟨Z', μ', ⟨hd, hsz, fun t => ?_, hr.congr fun id hid => ?_⟩, hex, hfix⟩
      · obtain ⟨τ, hτ, hv, hw⟩ := htm t
        have := ts_same (t := t) hT rfl τ all.length hτ (Nat.le_refl _) (fun k o h1 h2 h3 h4 => by
          have := (hw k o h3 h4).1 (hall k h2); omega)
        rw [← eTN, this]; exact hv
      · unfold cat
        rcases hob id hid with ⟨τ, hτ, hl, hH, hw⟩ | ⟨hl, hH⟩
        · have := hsame τ all.length id hτ (Nat.le_refl _) hl (fun k r h1 h2 h3 h4 => by
            have := (hw k r h3 h4).1 (hall k h2); omega)
          have hl2 : id < h'.length := by rw [← ehN]; exact Nat.lt_of_lt_of_le hl (hmono _ _ hτ (Nat.le_refl _))
          rw [if_pos hl2, hH, ← this, ehN]
        · rw [if_neg (by omega), hH]
    intro fuel
    induction fuel with
    | zero =>
      intro listed a' w' hinv hcnt
      have hls : listed.size = all.length := by obtain ⟨_, _, _, _, _, _, _, _, _, _, _, _, hls⟩ := hinv; exact hls
      have hall : ∀ i, i < all.length → listed.getD i false = true := by
        intro i hi
        have h0 : (List.range all.length).countP (fun i => !listed.getD i false) = 0 := by omega
        rw [List.countP_eq_zero] at h0
        have := h0 i (by simpa using hi)
        simpa using this
      refine ⟨?_, rfl, finish listed a' w' hinv hall⟩
      apply List.eq_nil_iff_forall_not_mem.2
      intro i hi
      obtain ⟨o, ho, h1, _⟩ := (ready_iff listed hls i).1 hi
      rw [hall i (hlt i o ho)] at h1; simp at h1
    | succ fuel ih =>
      intro listed a' w' hinv hcnt
      have hls : listed.size = all.length := by obtain ⟨_, _, _, _, _, _, _, _, _, _, _, _, hls⟩ := hinv; exact hls
      refine ⟨fun hnil => ⟨rfl, finish listed a' w' hinv (alldone listed hls hnil)⟩, fun i hi => ?_⟩
      obtain ⟨o, ho, hil, hdeps⟩ := (ready_iff listed hls i).1 hi
      have hilt := hlt i o ho
      obtain ⟨_, r, _, hrec⟩ := hget i hilt
      obtain ⟨hst, hdst, _, hlo, hhi⟩ := hstep i o r ho hrec
      obtain ⟨Z', μ', H, hd, hsz, htm, hr, hob, hdom, hcl, hex, hfix, _⟩ := hinv
      have notL : ¬ (listed.getD i false = true) := by rw [hil]; simp
      have before : ∀ j, ordered (befs all []) j i = true → listed.getD j false = true := fun j hj => waits_before hedge hcl ho hdeps hj
      have behind : ∀ k ok, all[k]? = some ok → ordered (befs all []) i k = true → listed.getD k false = true → False := fun k ok hk hord hL => notL (closed_before (L := fun k => listed.getD k false = true) hedge hcl k ok i hk hL hord)
      -- a slot that it names reads as in the text's order
      have slot : ∀ t, t ∈ usesOf all o → VRel Z' μ' w'.heap (Ts i t) (a'.tmps.getD t undef) := by
        intro t htu
        obtain ⟨τ, hτ, hv, hw⟩ := htm t
        rcases Nat.le_total τ i with hti | hti
        · have := ts_same (t := t) hT rfl τ i hti (by omega) (fun k ok h1 h2 h3 h4 => by
            have hkl := (hw k ok h3 h4).1
            cases hord : ordered (befs all []) k i with
            | true => have := hkl (before k hord); omega
            | false => exact (htmps k i ok o h2 h3 ho hord).1 t h4 htu)
          rw [this]; exact hv
        · have := ts_same (t := t) hT rfl i τ hti hτ (fun k ok h1 h2 h3 h4 => by
            have hkl := (hw k ok h3 h4).2 h2
            rcases Nat.eq_or_lt_of_le h1 with h5 | h5
            · subst h5; exact notL hkl
            · cases hord : ordered (befs all []) i k with
              | true => exact behind k ok h3 hord hkl
              | false => exact (htmps i k o ok h5 ho h3 hord).2 t h4 htu)
          rw [← this]; exact hv
      -- an object that it reads is as in the text's order
      have objs : ∀ id, id < (hs i).length → μ' id ≠ none → (∀ k rk, recs[k]? = some rk → k ≠ i → id ∈ rk.wr → (k < i → ordered (befs all []) k i = true) ∧ (i < k → ordered (befs all []) i k = true)) → H id = (hs i).view id := by
        intro id hid hm hk
        rcases hob id hm with ⟨τ, hτ, hl, hH, hw⟩ | ⟨hl, _⟩
        · rw [hH]
          rcases Nat.le_total τ i with hti | hti
          · exact (hsame τ i id hti (by omega) hl (fun k rk h1 h2 h3 h4 => by
              have := (hw k rk h3 h4).1 (before k ((hk k rk h3 (by omega) h4).1 h2)); omega)).symm
          · exact hsame i τ id hti hτ hid (fun k rk h1 h2 h3 h4 => by
              have hkl := (hw k rk h3 h4).2 h2
              rcases Nat.eq_or_lt_of_le h1 with h5 | h5
              · subst h5; exact notL hkl
              · obtain ⟨ok, _, hok, _⟩ := hget k (by have := lt_of_some h3; omega)
                exact behind k ok hok ((hk k rk h3 (by omega) h4).2 h5) hkl)
        · have : (hs i).length ≤ h'.length := by rw [← ehN]; exact hmono _ _ (by omega) (Nat.le_refl _)
          omega
      -- writers of what it reads have their place
      have place : ∀ id, (id ∈ r.rd ∨ id ∈ r.wr ∨ r.call = true) → ∀ k rk, recs[k]? = some rk → k ≠ i → id ∈ rk.wr → (k < i → ordered (befs all []) k i = true) ∧ (i < k → ordered (befs all []) i k = true) := by
        intro id hid k rk hk hne hw
        have hwr : id ∈ r.wr → r.call = false → id ∈ r.rd := fun h1 h2 => (ostep_wr hst h1).2 h2
        have hcase : id ∈ r.rd ∨ r.call = true := by
          rcases hid with h1 | h1 | h1
          · exact .inl h1
          · cases hcl' : r.call with
            | true => exact .inr rfl
            | false => exact .inl (hwr h1 hcl')
          · exact .inr h1
        have hne' : rk.wr ≠ [] := fun e => by rw [e] at hw; simp at hw
        refine ⟨fun hlt' => ?_, fun hlt' => ?_⟩
        · cases hord : ordered (befs all []) k i with
          | true => rfl
          | false =>
            have nc := hc k i rk r hlt' hk hrec hord
            rcases hcase with h1 | h1
            · exact absurd h1 (nc.wr1 id hw)
            · exact absurd (nc.call2 h1) hne'
        · cases hord : ordered (befs all []) i k with
          | true => rfl
          | false =>
            have nc := hc i k r rk hlt' hrec hk hord
            rcases hcase with h1 | h1
            · exact absurd h1 (nc.wr2 id hw)
            · exact absurd (nc.call1 h1) hne'
      refine step_base rfl (by simpa using ho) hst hsz (fun j want d hg hdd => slot d ?_) (operand_rel fun t htt => slot t ?_) hr (fun id hid hm => objs id (ostep_rd hst hid) hm (place id (.inl hid)))
        (fun hcall id hid hm => objs id hid hm (place id (.inr (.inr hcall)))) (fun id h1 h2 => ?_) ?_
      · simp only [usesOf, List.mem_append]; right; rw [hg]; simp [hdd]
      · simp only [usesOf, List.mem_append]; left; right; exact htt
      · apply Classical.byContradiction
        intro hmm
        exact notL (hdom i id hilt h1 h2 hmm)
      · intro x w1 Z1 μ1 hv1 hr1 hex1 hfix1
        have hL' : ∀ k, (listed.setIfInBounds i true).getD k false = if k = i then true else listed.getD k false := by
          intro k
          simp only [Array.getD_eq_getD_getElem?, Array.getElem?_setIfInBounds]
          by_cases e : i = k
          · subst e; rw [if_pos rfl, if_pos rfl, if_pos (by omega)]; rfl
          · rw [if_neg e, if_neg (fun q => e q.symm)]
        have hls' : (listed.setIfInBounds i true).size = all.length := by simpa using hls
        refine ih _ _ _ ⟨Z1, μ1, stepH H (hs i) (hs (i + 1)) r.wr, ?_, ?_, ?_, hr1, ?_, ?_, ?_, ?_, ?_, hls'⟩ ?_
        · unfold Act.put; split <;> exact hd
        · unfold Act.put; split <;> simp [hsz]
        · intro t
          by_cases hdt : o.dst = some t
          · refine ⟨i + 1, hilt, ?_, fun k ok hk hkd => ?_⟩
            · rw [hT i o ho, hdt]
              have hlt2 : t < a'.tmps.size := by unfold dstOk at hdst; rw [hdt] at hdst; rw [hsz]; simpa using hdst
              simp only [Env.put, Act.put, if_true, Array.getD_eq_getD_getElem?, Array.getElem?_setIfInBounds, hlt2, Option.getD_some]
              exact hv1
            · rw [hL']
              by_cases e : k = i
              · subst e; simp
              · rw [if_neg e]
                have htu : t ∈ usesOf all o := by simp [usesOf, hdt]
                rcases Nat.lt_or_gt_of_ne e with h5 | h5
                · cases hord : ordered (befs all []) k i with
                  | true => exact ⟨fun _ => by omega, fun _ => before k hord⟩
                  | false => exact absurd htu ((htmps k i ok o h5 hk ho hord).1 t hkd)
                · cases hord : ordered (befs all []) i k with
                  | true => exact ⟨fun hL => (behind k ok hk hord hL).elim, fun h6 => by omega⟩
                  | false => exact absurd htu ((htmps i k o ok h5 ho hk hord).2 t hkd)
          · obtain ⟨τ, hτ, hv, hw⟩ := htm t
            refine ⟨τ, hτ, ?_, fun k ok hk hkd => ?_⟩
            · have : (a'.put o.dst x).tmps.getD t undef = a'.tmps.getD t undef := by
                unfold Act.put
                split
                · rename_i d hdd
                  simp only [Array.getD_eq_getD_getElem?, Array.getElem?_setIfInBounds]
                  rw [if_neg (fun e => hdt (by rw [hdd, e]))]
                · rfl
              rw [this]; exact hv.mono hex1.mono
            · rw [hL', if_neg (fun e => by subst e; rw [ho] at hk; simp at hk; subst hk; exact hdt hkd)]
              exact hw k ok hk hkd
        · intro id hm1
          unfold stepH
          by_cases hwn : id ∈ r.wr ∨ ((hs i).length ≤ id ∧ id < (hs (i + 1)).length)
          · left
            have hidl : id < (hs (i + 1)).length := by
              rcases hwn with h5 | h5
              · exact Nat.lt_of_lt_of_le (ostep_wr hst h5).1 (hlen1 i hilt)
              · exact h5.2
            refine ⟨i + 1, hilt, hidl, by rw [if_pos hwn], fun k rk hk hkw => ?_⟩
            rw [hL']
            by_cases e : k = i
            · subst e; simp
            · rw [if_neg e]
              obtain ⟨ok, _, hok, _⟩ := hget k (by have := lt_of_some hk; omega)
              rcases hwn with h5 | h5
              · have hp := place id (.inr (.inl h5)) k rk hk e hkw
                rcases Nat.lt_or_gt_of_ne e with h6 | h6
                · exact ⟨fun _ => by omega, fun _ => before k (hp.1 h6)⟩
                · exact ⟨fun hL => (behind k ok hok (hp.2 h6) hL).elim, fun h7 => by omega⟩
              · obtain ⟨hst', _⟩ := hstep k ok rk hok hk
                have hkl := (ostep_wr hst' hkw).1
                have hik : i < k := by
                  rcases Nat.lt_or_ge i k with h6 | h6
                  · exact h6
                  · have := hmono k i h6 (by omega); omega
                refine ⟨fun hL => ?_, fun h7 => by omega⟩
                exfalso
                cases hord : ordered (befs all []) i k with
                | true => exact behind k ok hok hord hL
                | false => exact (hc i k r rk hik hrec hk hord).new id hkw (by rw [hlo, hhi]; exact h5)
          · rw [if_neg hwn]
            have hmm : μ' id ≠ none := by
              rw [← hfix1 id ?_]
              · exact hm1
              · rcases Nat.lt_or_ge id (hs i).length with h6 | h6
                · exact .inl h6
                · right
                  rcases Nat.lt_or_ge id (hs (i + 1)).length with h7 | h7
                  · exact absurd (.inr ⟨h6, h7⟩) hwn
                  · exact h7
            rcases hob id hmm with ⟨τ, hτ, hl, hH, hw⟩ | h5
            · refine .inl ⟨τ, hτ, hl, hH, fun k rk hk hkw => ?_⟩
              rw [hL', if_neg (fun e => by subst e; rw [hrec] at hk; simp at hk; subst hk; exact hwn (.inl hkw))]
              exact hw k rk hk hkw
            · exact .inr h5
        · intro k id hk h1 h2 hm1
          rw [hL']
          by_cases e : k = i
          · rw [if_pos e]
          · rw [if_neg e]
            refine hdom k id hk h1 h2 ?_
            rw [← hfix1 id ?_]
            · exact hm1
            · rcases Nat.lt_or_gt_of_ne e with h6 | h6
              · left; exact Nat.lt_of_lt_of_le h2 (hmono _ _ h6 (by omega))
              · right; exact Nat.le_trans (hmono _ _ h6 (by omega)) h1
        · intro k ok hk hL e he hb
          rw [hL'] at hL ⊢
          by_cases ek : k = i
          · subst ek
            rw [ho] at hk; simp at hk; subst hk
            split
            · rfl
            · exact hdeps e he hb
          · rw [if_neg ek] at hL
            split
            · rfl
            · exact hcl k ok hk hL e he hb
        · refine hex.trans hex1 ?_ hsim.hr.lt
          rw [← eh0]; exact hmono _ _ (Nat.zero_le _) (by omega)
        · intro id hid
          rw [hfix1 id, hfix id hid]
          rcases hid with h5 | h5
          · left; rw [← eh0] at h5; exact Nat.lt_of_lt_of_le h5 (hmono _ _ (Nat.zero_le _) (by omega))
          · right; rw [← ehN] at h5; exact Nat.le_trans (hmono _ _ hilt (Nat.le_refl _)) h5
        · have : (List.range all.length).countP (fun k => !(listed.setIfInBounds i true).getD k false) < (List.range all.length).countP (fun k => !listed.getD k false) := by
            have gen : ∀ (l : List Nat), i ∈ l → l.Nodup → l.countP (fun k => !(listed.setIfInBounds i true).getD k false) < l.countP (fun k => !listed.getD k false) := by
              intro l
              induction l with
              | nil => intro h; simp at h
              | cons x l ihl =>
                intro hmem hnd
                simp only [List.nodup_cons] at hnd
                by_cases e : x = i
                · subst e
                  have hrest : l.countP (fun k => !(listed.setIfInBounds x true).getD k false) = l.countP (fun k => !listed.getD k false) := by
                    apply List.countP_congr
                    intro k hk
                    have hkx : k ≠ x := fun q => hnd.1 (by rw [← q]; exact hk)
                    rw [hL', if_neg hkx]
                  have h1 : (listed.setIfInBounds x true).getD x false = true := by rw [hL', if_pos rfl]
                  rw [List.countP_cons, List.countP_cons, hrest, h1, hil]
                  simp
                · have hmem' : i ∈ l := by
                    rcases List.mem_cons.1 hmem with h5 | h5
                    · exact absurd h5.symm e
                    · exact h5
                  have := ihl hmem' hnd.2
                  simp only [List.countP_cons, hL', if_neg e]
                  simp only [hL'] at this
                  omega
            exact gen _ (by simpa using hilt) List.nodup_range
          omega
  have hinit : Inv (Array.replicate all.length false) a { w with drawn := w.drawn + 1 } := by
    refine ⟨Z, μ, cat h F, hsim.defers, hsim.size, fun t => ⟨0, Nat.zero_le _, by rw [eT0]; exact hsim.tm t, fun k o hk hkd => ?_⟩, hsim.hr, fun id hm' => ?_, fun k id hk h1 h2 hm' => ?_, fun k o hk hL => ?_, ?_, fun _ _ => rfl, by simp⟩
    · have : (Array.replicate all.length false).getD k false = false := by
        simp only [Array.getD_eq_getD_getElem?, Array.getElem?_replicate]; split <;> rfl
      rw [this]; simp
    · unfold cat
      by_cases hl : id < h.length
      · left
        refine ⟨0, Nat.zero_le _, by rw [eh0]; exact hl, by rw [if_pos hl, eh0], fun k r hk hkw => ?_⟩
        have : (Array.replicate all.length false).getD k false = false := by
          simp only [Array.getD_eq_getD_getElem?, Array.getElem?_replicate]; split <;> rfl
        rw [this]; simp
      · rw [if_neg hl]
        rcases Nat.lt_or_ge id h'.length with h5 | h5
        · exact absurd (hfree id (by omega) h5) hm'
        · exact .inr ⟨h5, rfl⟩
    · exfalso
      refine hm' (hfree id ?_ ?_)
      · rw [← eh0]; exact Nat.le_trans (hmono _ _ (Nat.zero_le _) (by omega)) h1
      · rw [← ehN]; exact Nat.lt_of_lt_of_le h2 (hmono _ _ hk (Nat.le_refl _))
    · have : (Array.replicate all.length false).getD k false = false := by
        simp only [Array.getD_eq_getD_getElem?, Array.getElem?_replicate]; split <;> rfl
      rw [this] at hL; simp at hL
    · exact ⟨⟨rfl, rfl, rfl, Nat.le_refl _⟩, Mono.refl _ _ _, fun _ _ _ => rfl, fun _ h => .inl h, fun _ _ _ _ h => .inl h⟩
  have := key all.length _ _ _ hinit (by
    have := List.countP_le_length (p := fun i => !(Array.replicate all.length false).getD i false) (l := List.range all.length)
    simpa using this)
  simpa using this

end
end Gv

/-
  What running code comes to: the rules. Calls, and calls that leave nothing but their answer.
  Conditions: none beyond those that each lemma names.
-/
namespace Gv
open Go

section
variable {P : Program} {n : Nat}

theorem Sim.eval {Z : Nat → Prop} {μ : Mu} {F : View} {T : Env} {h : Heap} {a : Act} {w : World} (s : Sim n Z μ F T h a w) (x : Operand) : VRel Z μ w.heap (ev T x) (a.eval x) := by
  cases x with
  | tmp t => exact s.tm t
  | const v => exact ofVal_rel v
  | global g => exact .any _
  | func f => exact .fn f [] [] #[] #[] rfl rfl (fun i hi => by simp at hi) (fun i hi => by simp at hi)

theorem seq_exec {all : List Oper} {id : Nat} {T T' : Env} {h h' : Heap} {recs : List Rec} (tr : Tr P n all all T h recs T' h') : Exec P n (.region id all.toArray false) T h .normal T' h' := by
  obtain ⟨hrl, Ts, hs, vs, eT0, eh0, eTN, ehN, hstep⟩ := tr_states all T h recs T' h' tr
  have hget : ∀ i, i < all.length → ∃ o r, all[i]? = some o ∧ recs[i]? = some r := fun i hi => ⟨all[i], recs[i]'(by omega), List.getElem?_eq_getElem hi, List.getElem?_eq_getElem (by omega)⟩
  have hlen1 : ∀ i, i < all.length → (hs i).length ≤ (hs (i + 1)).length := fun i hi => by
    obtain ⟨o, r, h1, h2⟩ := hget i hi
    exact ostep_len (hstep i o r h1 h2).1
  have hmono := hs_mono hlen1
  refine ⟨by rw [← eh0, ← ehN]; exact hmono _ _ (Nat.zero_le _) (Nat.le_refl _), fun Z μ F a w hfree hsim => wp_region ?_⟩
  have key : ∀ k i, i + k = all.length → ∀ Z' μ' a' w', Sim n Z' μ' F (Ts i) (hs i) a' w' → Ext Z μ w h.length Z' μ' w' → (∀ id, id < h.length ∨ h'.length ≤ id → μ' id = μ id) → (∀ id, (hs i).length ≤ id → id < h'.length → μ' id = none) →
      wpOps P all.toArray (fun e' a' w' => e' = .normal ∧ ∃ Z' μ', Sim n Z' μ' F T' h' a' w' ∧ Ext Z μ w h.length Z' μ' w' ∧ (∀ id, id < h.length ∨ h'.length ≤ id → μ' id = μ id)) (List.range' i k) a' w' := by
    intro k
    induction k with
    | zero =>
      intro i hi Z' μ' a' w' hs' hex hfix _
      obtain rfl : i = all.length := by omega
      simp only [List.range'_zero, wpOps]
      rw [eTN, ehN] at hs'
      exact ⟨trivial, Z', μ', hs', hex, hfix⟩
    | succ k ih =>
      intro i hi Z' μ' a' w' hs' hex hfix hfr
      obtain ⟨o, r, ho, hr⟩ := hget i (by omega)
      obtain ⟨hst, hdst, hT, hlo, hhi⟩ := hstep i o r ho hr
      have hl1 := hlen1 i (by omega)
      have hl2 : (hs (i + 1)).length ≤ h'.length := by rw [← ehN]; exact hmono _ _ (by omega) (Nat.le_refl _)
      have hl0 : h.length ≤ (hs i).length := by rw [← eh0]; exact hmono _ _ (Nat.zero_le _) (by omega)
      rw [List.range'_succ, wpOps_cons]
      refine step_base rfl (by simpa using ho) hst hs'.size (fun j want d _ _ => hs'.tm d) (fun x _ => hs'.eval x) hs'.hr (fun id hid _ => ?_) (fun _ id hid _ => ?_) (fun id h1 h2 => hfr id h1 (by omega)) ?_
      · unfold cat; rw [if_pos (ostep_rd hst hid)]
      · unfold cat; rw [if_pos hid]
      · intro x w1 Z1 μ1 hv1 hr1 hex1 hfix1
        refine ih (i + 1) (by omega) Z1 μ1 _ w1 ⟨?_, ?_, fun t => ?_, hr1.congr fun id _ => ?_⟩ (hex.trans hex1 hl0 hsim.hr.lt) (fun id hid => ?_) (fun id h1 h2 => ?_)
        · unfold Act.put; split <;> exact hs'.defers
        · unfold Act.put; split <;> simp [hs'.size]
        · rw [hT]
          cases hdd : o.dst with
          | none =>
            simp only [Env.put, Act.put]
            exact (hs'.tm t).mono hex1.mono
          | some d =>
            have hlt2 : d < a'.tmps.size := by unfold dstOk at hdst; rw [hdd] at hdst; rw [hs'.size]; simpa using hdst
            simp only [Env.put, Act.put, Array.getD_eq_getD_getElem?, Array.getElem?_setIfInBounds]
            by_cases e : t = d
            · subst e; rw [if_pos rfl, if_pos rfl, if_pos hlt2]; exact hv1
            · rw [if_neg e, if_neg (fun q => e q.symm)]
              have := (hs'.tm t).mono hex1.mono
              simpa only [Array.getD_eq_getD_getElem?] using this
        · simp only [cat, stepH]
          by_cases h5 : id < (hs (i + 1)).length
          · rw [if_pos h5]
            split
            · rfl
            · rename_i hn
              have h6 : id < (hs i).length := by
                rcases Nat.lt_or_ge id (hs i).length with h7 | h7
                · exact h7
                · exact absurd (.inr ⟨h7, h5⟩) hn
              rw [if_pos h6, ostep_view hst h6 (fun q => hn (.inl q))]
          · rw [if_neg h5, if_neg, if_neg (by omega)]
            rintro (h6 | h6)
            · have := (ostep_wr hst h6).1; omega
            · omega
        · rw [hfix1 id (by omega), hfix id hid]
        · rw [hfix1 id (by omega)]; exact hfr id (by omega) h2
  have := key all.length 0 (by omega) Z μ a w (by rw [eT0, eh0]; exact hsim) (Ext.refl _ _ _ _) (fun _ _ => rfl) (fun id h1 h2 => hfree id (by rw [← eh0]; exact h1) h2)
  rw [List.size_toArray, List.range_eq_range']
  exact this

theorem Exec.weaken {c : Code} {T T' : Env} {h h' : Heap} {e : Exit} (x : Exec P n c T h e T' h') {Z : Nat → Prop} {μ : Mu} {F : View} {a : Act} {w : World} {Z0 : Nat → Prop} {μ0 : Mu} {w0 : World} {m : Nat}
    (hfree : ∀ id, h.length ≤ id → id < h'.length → μ id = none) (s : Sim n Z μ F T h a w) (hex : Ext Z0 μ0 w0 m Z μ w) (hm : m ≤ h.length) (hlt : ∀ id b o s, μ0 id = some (b, o, s) → b < w0.heap.size) :
    c.wp P (fun e' a' w' => e' = e ∧ ∃ Z' μ', Sim n Z' μ' F T' h' a' w' ∧ Ext Z0 μ0 w0 m Z' μ' w' ∧ (∀ id, id < h.length ∨ h'.length ≤ id → μ' id = μ id)) a w :=
  wp_mono (x.2 Z μ F a w hfree s) fun _ _ _ ⟨he, Z', μ', s', hex', hfix⟩ => ⟨he, Z', μ', s', hex.trans hex' hm hlt, hfix⟩

theorem Exec.seq {x y : Code} {T T1 T2 : Env} {h h1 h2 : Heap} {e : Exit} (hx : Exec P n x T h .normal T1 h1) (hy : Exec P n y T1 h1 e T2 h2) : Exec P n (.seq x y) T h e T2 h2 := by
  refine ⟨Nat.le_trans hx.1 hy.1, fun Z μ F a w hfree s => wp_seq (wp_mono (hx.2 Z μ F a w (fun id h1 h2 => hfree id h1 (Nat.lt_of_lt_of_le h2 hy.1)) s) ?_)⟩
  rintro e' a' w' ⟨rfl, Z', μ', s', hex, hfix⟩
  refine wp_mono (hy.weaken (fun id h1 h2 => ?_) s' hex hx.1 s.hr.lt) ?_
  · rw [hfix id (.inr h1)]; exact hfree id (Nat.le_trans hx.1 h1) h2
  · rintro e' a' w' ⟨he, Z', μ', s', hex, hfix'⟩
    refine ⟨he, Z', μ', s', hex, fun id hid => ?_⟩
    have := hx.1
    have := hy.1
    rw [hfix' id (by omega), hfix id (by omega)]

theorem Exec.seq_out {x y : Code} {T T1 : Env} {h h1 : Heap} {e : Exit} (hx : Exec P n x T h e T1 h1) (he : e ≠ .normal) : Exec P n (.seq x y) T h e T1 h1 := by
  refine ⟨hx.1, fun Z μ F a w hfree s => wp_seq (wp_mono (hx.2 Z μ F a w hfree s) ?_)⟩
  rintro e' a' w' ⟨rfl, h⟩
  cases e' <;> first | exact absurd rfl he | exact ⟨rfl, h⟩

theorem Exec.here {c : Code} {T : Env} {h : Heap} {e : Exit} (hc : ∀ (Q : Exit → Act → World → Prop) a w, Q e a w → c.wp P Q a w) : Exec P n c T h e T h :=
  ⟨Nat.le_refl _, fun Z μ _ a w _ s => hc _ a w ⟨rfl, Z, μ, s, Ext.refl _ _ _ _, fun _ _ => rfl⟩⟩

theorem Exec.skip {T : Env} {h : Heap} : Exec P n .skip T h .normal T h := .here fun _ _ _ h => wp_skip h
theorem Exec.exit {T : Env} {h : Heap} {id : Nat} : Exec P n (.exit id) T h (.exit id) T h := .here fun _ _ _ h => wp_exit h
theorem Exec.goto {T : Env} {h : Heap} {l : Nat} : Exec P n (.goto l) T h (.goto l) T h := .here fun _ _ _ h => wp_goto h
theorem Exec.ret {T : Env} {h : Heap} : Exec P n .ret T h .ret T h := .here fun _ _ _ h => wp_ret h

theorem Exec.cond {c : Operand} {x y : Code} {T T' : Env} {h h' : Heap} {e : Exit} {t : Bool} (hc : ev T c = .val (.bool t)) (hx : Exec P n (if t then x else y) T h e T' h') : Exec P n (.cond c x y) T h e T' h' := by
  refine ⟨hx.1, fun Z μ F a w hfree s => wp_cond (t := t) ?_ (hx.2 Z μ F a w hfree s)⟩
  have := s.eval c
  rw [hc] at this
  exact val_inv this

def outOf (id : Nat) : Exit → Exit
  | .exit id' => if id' = id then .normal else .exit id'
  | e => e

theorem Exec.block {id : Nat} {c : Code} {T T' : Env} {h h' : Heap} {e : Exit} (hx : Exec P n c T h e T' h') : Exec P n (.block id c) T h (outOf id e) T' h' := by
  refine ⟨hx.1, fun Z μ F a w hfree s => wp_block (wp_mono (hx.2 Z μ F a w hfree s) ?_)⟩
  rintro e' a' w' ⟨rfl, h⟩
  cases e' with
  | exit id' =>
    simp only [Exit.inBlock, outOf]
    split
    · exact ⟨rfl, h⟩
    · exact ⟨rfl, h⟩
  | _ => exact ⟨rfl, h⟩

theorem rounds_mono {c : Code} {Q Q' : Exit → Act → World → Prop} (hq : ∀ e a w, Q e a w → Q' e a w) : ∀ (k : Nat) (a : Act) (w : World), Code.rounds P c Q k a w → Code.rounds P c Q' k a w
  | 0, _, _, h => h
  | k + 1, a, w, h => by
    rw [rounds_succ] at h ⊢
    refine wp_mono h fun e a w h => ?_
    cases e with
    | normal => exact rounds_mono hq k a w h
    | _ => exact hq _ _ _ h

/-- What going round and round comes to. -/
def ExecL (P : Program) (n : Nat) (c : Code) (T : Env) (h : Heap) (e : Exit) (T' : Env) (h' : Heap) : Prop :=
  h.length ≤ h'.length ∧ ∃ k, ∀ Z μ F a w, (∀ id, h.length ≤ id → id < h'.length → μ id = none) → Sim n Z μ F T h a w →
    Code.rounds P c (fun e' a' w' => e' = e ∧ ∃ Z' μ', Sim n Z' μ' F T' h' a' w' ∧ Ext Z μ w h.length Z' μ' w' ∧ (∀ id, id < h.length ∨ h'.length ≤ id → μ' id = μ id)) k a w

theorem ExecL.out {c : Code} {T T1 : Env} {h h1 : Heap} {e : Exit} (hx : Exec P n c T h e T1 h1) (he : e ≠ .normal) : ExecL P n c T h e T1 h1 := by
  refine ⟨hx.1, 1, fun Z μ F a w hfree s => ?_⟩
  rw [rounds_succ]
  refine wp_mono (hx.2 Z μ F a w hfree s) ?_
  rintro e' a' w' ⟨rfl, h⟩
  cases e' <;> first | exact absurd rfl he | exact ⟨rfl, h⟩

theorem ExecL.step {c : Code} {T T1 T2 : Env} {h h1 h2 : Heap} {e : Exit} (hx : Exec P n c T h .normal T1 h1) (hy : ExecL P n c T1 h1 e T2 h2) : ExecL P n c T h e T2 h2 := by
  obtain ⟨hy1, k, hy⟩ := hy
  refine ⟨Nat.le_trans hx.1 hy1, k + 1, fun Z μ F a w hfree s => ?_⟩
  rw [rounds_succ]
  refine wp_mono (hx.2 Z μ F a w (fun id h1 h2 => hfree id h1 (Nat.lt_of_lt_of_le h2 hy1)) s) ?_
  rintro e' a' w' ⟨rfl, Z', μ', s', hex, hfix⟩
  refine rounds_mono ?_ k a' w' (hy Z' μ' F a' w' (fun id h1 h2 => ?_) s')
  · rintro e' a' w' ⟨he, Z', μ', s', hex', hfix'⟩
    refine ⟨he, Z', μ', s', hex.trans hex' hx.1 s.hr.lt, fun id hid => ?_⟩
    have := hx.1
    rw [hfix' id (by omega), hfix id (by omega)]
  · rw [hfix id (.inr h1)]; exact hfree id (Nat.le_trans hx.1 h1) h2

theorem Exec.loop {c : Code} {T T' : Env} {h h' : Heap} {e : Exit} (hx : ExecL P n c T h e T' h') : Exec P n (.loop c) T h e T' h' := by
  obtain ⟨h1, k, h2⟩ := hx
  exact ⟨h1, fun Z μ F a w hfree s => wp_loop_rounds k (h2 Z μ F a w hfree s)⟩

/-- Jumps within a scope. -/
def jumps (P : Program) (c : Code) (Q : Exit → Act → World → Prop) : Nat → Code → Act → World → Prop
  | 0, _, _, _ => False
  | k + 1, x, a, w => x.wp P (fun e a w => match e with
    | .goto l => (match findLabel c l with
      | some rest => jumps P c Q k rest a w
      | none => Q (.goto l) a w)
    | e => Q e a w) a w

theorem jumps_mono {c : Code} {Q Q' : Exit → Act → World → Prop} (hq : ∀ e a w, Q e a w → Q' e a w) : ∀ (k : Nat) (x : Code) (a : Act) (w : World), jumps P c Q k x a w → jumps P c Q' k x a w
  | 0, _, _, _, h => h
  | k + 1, x, a, w, h => by
    refine wp_mono h fun e a w h => ?_
    cases e with
    | goto l =>
      simp only at h ⊢
      split
      · rename_i rest hf; rw [hf] at h; exact jumps_mono hq k rest a w h
      · rename_i hf; rw [hf] at h; exact hq _ _ _ h
    | _ => exact hq _ _ _ h

def ExecS (P : Program) (n : Nat) (c x : Code) (T : Env) (h : Heap) (e : Exit) (T' : Env) (h' : Heap) : Prop :=
  h.length ≤ h'.length ∧ ∃ k, ∀ Z μ F a w, (∀ id, h.length ≤ id → id < h'.length → μ id = none) → Sim n Z μ F T h a w →
    jumps P c (fun e' a' w' => e' = e ∧ ∃ Z' μ', Sim n Z' μ' F T' h' a' w' ∧ Ext Z μ w h.length Z' μ' w' ∧ (∀ id, id < h.length ∨ h'.length ≤ id → μ' id = μ id)) k x a w

def noLabel (c : Code) : Exit → Bool
  | .goto l => (findLabel c l).isNone
  | _ => true

theorem ExecS.out {c x : Code} {T T1 : Env} {h h1 : Heap} {e : Exit} (hx : Exec P n x T h e T1 h1) (he : noLabel c e = true) : ExecS P n c x T h e T1 h1 := by
  refine ⟨hx.1, 1, fun Z μ F a w hfree s => ?_⟩
  refine wp_mono (hx.2 Z μ F a w hfree s) ?_
  rintro e' a' w' ⟨rfl, h⟩
  cases e' with
  | goto l =>
    simp only [noLabel, Option.isNone_iff_eq_none] at he
    simp only [he]; exact ⟨trivial, h⟩
  | _ => exact ⟨rfl, h⟩

theorem ExecS.jump {c x rest : Code} {T T1 T2 : Env} {h h1 h2 : Heap} {e : Exit} {l : Nat} (hx : Exec P n x T h (.goto l) T1 h1) (hf : findLabel c l = some rest) (hy : ExecS P n c rest T1 h1 e T2 h2) : ExecS P n c x T h e T2 h2 := by
  obtain ⟨hy1, k, hy⟩ := hy
  refine ⟨Nat.le_trans hx.1 hy1, k + 1, fun Z μ F a w hfree s => ?_⟩
  refine wp_mono (hx.2 Z μ F a w (fun id h1 h2 => hfree id h1 (Nat.lt_of_lt_of_le h2 hy1)) s) ?_
  rintro e' a' w' ⟨rfl, Z', μ', s', hex, hfix⟩
  simp only [hf]
  refine jumps_mono ?_ k rest a' w' (hy Z' μ' F a' w' (fun id h1 h2 => ?_) s')
  · rintro e' a' w' ⟨he, Z', μ', s', hex', hfix'⟩
    refine ⟨he, Z', μ', s', hex.trans hex' hx.1 s.hr.lt, fun id hid => ?_⟩
    have := hx.1
    rw [hfix' id (by omega), hfix id (by omega)]
  · rw [hfix id (.inr h1)]; exact hfree id (Nat.le_trans hx.1 h1) h2

/-! calls -/
def argsEnv (vs : List V) : Env := fun t => vs.getD t .any

def resOne (P : Program) (T : Env) (h : Heap) : ResultVar → Option V
  | .tmp t => some (T t)
  | .cell a t => (aLoad P t (T a) h.view).map (·.1)

def resAll (P : Program) (T : Env) (h : Heap) : List ResultVar → Option (List V)
  | [] => some []
  | r :: rest => match resOne P T h r, resAll P T h rest with
    | some v, some vs => some (v :: vs)
    | _, _ => none

def resV (P : Program) (fn : Func) (T : Env) (h : Heap) : Option V := match resAll P T h fn.results.toList with
  | some [v] => some v
  | some vs => some (.tup vs)
  | none => none

theorem res_run {Z : Nat → Prop} {μ : Mu} {F : View} {T : Env} {h : Heap} {a : Act} {w : World} (s : Sim n Z μ F T h a w) (f : ResultVar → Sem Value) (hf1 : ∀ t, f (.tmp t) = pure (a.tmps.getD t undef))
    (hf2 : ∀ p t, f (.cell p t) = (do loadVar t (← asAddr (a.tmps.getD p undef)))) : ∀ (l : List ResultVar) (vs : List V), resAll P T h l = some vs →
    ∃ xs : List Value, (l.mapM f).run P w = .ok xs w ∧ VRels Z μ w.heap vs xs
  | [], vs, hv => by
    simp only [resAll, Option.some.injEq] at hv; subst hv
    exact ⟨[], rfl, rfl, fun i hi => by simp at hi⟩
  | r :: l, vs, hv => by
    simp only [resAll] at hv
    split at hv
    · rename_i v vs' h1 h2
      simp only [Option.some.injEq] at hv; subst hv
      obtain ⟨xs, hx, hr⟩ := res_run s f hf1 hf2 l vs' h2
      have one : ∃ x, (f r).run P w = .ok x w ∧ VRel Z μ w.heap v x := by
        cases r with
        | tmp t =>
          simp only [resOne, Option.some.injEq] at h1; subst h1
          rw [hf1]
          exact ⟨_, rfl, s.tm t⟩
        | cell p t =>
          simp only [resOne, Option.map_eq_some_iff] at h1
          obtain ⟨⟨v', eff, rd⟩, h3, rfl⟩ := h1
          have hp := s.tm p
          rw [hf2]
          unfold aLoad at h3
          split at h3
          · rename_i id i j hT
            rw [hT] at hp
            obtain ⟨b, o0, sz, hm, hpe⟩ := ptr_inv hp
            split at h3
            · rename_i esz es hH
              split at h3
              · rename_i hi
                simp only [Option.map_eq_some_iff, Prod.mk.injEq] at h3
                obtain ⟨v'', hv', rfl, _, _⟩ := h3
                have hor := s.hr.obj id
                have hcat : cat h F id = .arr esz es := by
                  simp only [cat]; rw [if_pos (view_ne (by rw [hH]; simp)), hH]
                rw [hcat] at hor
                obtain ⟨y, hy, hvy⟩ := load_part (P := P) (rowOf hor hm hi).2 hv'
                exact ⟨y, by rw [hpe]; simp [asAddr, hy], hvy⟩
              · simp at h3
            · simp at h3
          · rename_i e j hT
            rw [hT] at hp
            obtain ⟨b, off, hz, hrow, hpe⟩ := fptr_inv hp
            simp only [Option.map_eq_some_iff, Prod.mk.injEq] at h3
            obtain ⟨v'', hv', rfl, _, _⟩ := h3
            obtain ⟨y, hy, hvy⟩ := load_part (P := P) hrow hv'
            exact ⟨y, by rw [hpe]; simp [asAddr, hy], hvy⟩
          · simp at h3
      obtain ⟨x, hx1, hv1⟩ := one
      refine ⟨x :: xs, ?_, ⟨by simp [hr.1], fun i hi => ?_⟩⟩
      · simp only [List.mapM_cons, Sem.run_bind]
        rw [hx1]
        simp only [Result.andThen_ok, Sem.run_bind]
        rw [hx]
        rfl
      · cases i with
        | zero => exact hv1
        | succ i => simpa using hr.2 i (by simpa using hi)
    · simp at hv

theorem ACall.of_exec {f : FuncId} {fn : Func} {c : Code} {vs : List V} {T' : Env} {h h' : Heap} {e : Exit} {r : V} (hf : P.funcs[f]? = some fn) (hb : fn.body = some c) (hn : vs.length ≤ fn.ntmps)
    (hx : Exec P fn.ntmps c (argsEnv vs) h e T' h') (he : e = .ret ∨ e = .normal) (hr : resV P fn T' h' = some r) : ACall P f vs h r h' := by
  refine ⟨hx.1, fun Z μ F w xs hrel hhr hfree => calls_of_wp hf hb ?_⟩
  have hsize : (xs.toArray ++ Array.replicate (fn.ntmps - xs.toArray.size) undef).size = fn.ntmps := by
    have := hrel.1; simp; omega
  have hsim : Sim fn.ntmps Z μ F (argsEnv vs) h { tmps := xs.toArray ++ Array.replicate (fn.ntmps - xs.toArray.size) undef, defers := [] } w := by
    refine ⟨rfl, hsize, fun t => ?_, hhr⟩
    unfold argsEnv
    by_cases ht : t < vs.length
    · have := hrel.2 t ht
      have ht' : t < xs.length := hrel.1 ▸ ht
      have h2 : (xs.toArray ++ Array.replicate (fn.ntmps - xs.toArray.size) undef).getD t undef = xs.getD t undef := by
        rw [Array.getD_eq_getD_getElem?, Array.getElem?_append_left (by simpa using ht')]
        simp [List.getD_eq_getElem?_getD]
      show VRel Z μ w.heap (vs.getD t .any) ((xs.toArray ++ Array.replicate (fn.ntmps - xs.toArray.size) undef).getD t undef)
      rw [h2]; exact this
    · have : vs.getD t .any = .any := by simp [List.getD_eq_getElem?_getD, List.getElem?_eq_none (Nat.le_of_not_lt ht)]
      rw [this]; exact .any _
  refine wp_mono (hx.2 Z μ F _ w hfree hsim) ?_
  rintro e' a' w' ⟨rfl, Z', μ', s', hex, hfix⟩
  have hres : ∃ x, (results fn a'.tmps).run P w' = .ok x w' ∧ VRel Z' μ' w'.heap r x := by
    unfold resV at hr
    have go : ∀ vs', resAll P T' h' fn.results.toList = some vs' → (match vs' with | [v] => some v | vs => some (.tup vs)) = some r → ∃ x, (results fn a'.tmps).run P w' = .ok x w' ∧ VRel Z' μ' w'.heap r x := by
      intro vs' h1 h2
      unfold results
      obtain ⟨xs', hx', hr'⟩ := res_run s' (fun
          | .tmp t => pure (a'.tmps.getD t undef)
          | .cell p t => do loadVar t (← asAddr (a'.tmps.getD p undef))) (fun _ => rfl) (fun _ _ => rfl) _ _ h1
      rw [Array.mapM_eq_mapM_toList]
      simp only [Sem.run_bind, Sem.run_map]
      show ∃ x, (((((fn.results.toList.mapM (fun
          | .tmp t => pure (a'.tmps.getD t undef)
          | .cell p t => do loadVar t (← asAddr (a'.tmps.getD p undef)) : ResultVar → Sem Value)).run P w').andThen fun a w' => .ok a.toArray w').andThen fun a w' => (pure (if h : a.size = 1 then a[0] else Value.tuple a) : Sem Value).run P w') = .ok x w') ∧ _
      rw [hx']
      simp only [Result.andThen_ok, Sem.run_pure]
      match vs', xs', hr', h2 with
      | [v], [x], hr', h2 =>
        simp only [Option.some.injEq] at h2
        subst h2
        exact ⟨x, rfl, hr'.2 0 (by simp)⟩
      | [], [], hr', h2 =>
        simp only [Option.some.injEq] at h2
        subst h2
        exact ⟨.tuple #[], rfl, .tup _ _ rfl (fun i hi => by simp at hi)⟩
      | v1 :: v2 :: vs', x1 :: x2 :: xs', hr', h2 =>
        simp only [Option.some.injEq] at h2
        subst h2
        refine ⟨.tuple (x1 :: x2 :: xs').toArray, by simp, .tup _ _ (by simpa using hr'.1) (fun i hi => ?_)⟩
        have := hr'.2 i hi
        simpa [Array.getD_eq_getD_getElem?, List.getD_eq_getElem?_getD] using this
      | [_], [], hr', _ => exact absurd hr'.1 (by simp)
      | [_], _ :: _ :: _, hr', _ => exact absurd hr'.1 (by simp)
      | [], _ :: _, hr', _ => exact absurd hr'.1 (by simp)
      | _ :: _ :: _, [], hr', _ => exact absurd hr'.1 (by simp)
      | _ :: _ :: _, [_], hr', _ => exact absurd hr'.1 (by simp)
    split at hr
    · rename_i v hv; exact go _ hv hr
    · rename_i vs' hne hv
      refine go _ hv ?_
      split
      · rename_i v; exact absurd rfl (hne v)
      · exact hr
    · simp at hr
  obtain ⟨x, hx1, hv1⟩ := hres
  rcases he with rfl | rfl
  · exact ⟨s'.defers, x, hx1, x, Z', μ', rfl, hv1, s'.hr, hex, hfix⟩
  · exact ⟨s'.defers, x, hx1, x, Z', μ', rfl, hv1, s'.hr, hex, hfix⟩

end
end Gv

/-
  Calls that leave nothing but their answer.
  Conditions: none beyond those that each lemma names.
-/
namespace Gv
open Go

/-- Values without an object of the run's own. -/
inductive Tree : V → Prop
  | val (v : Value) : Tree (.val v)
  | emp (k : Nat) : Tree (.emp k)
  | nem : Tree .nem
  | fro (es : List (List V)) : (∀ i j, i < es.length → j < (es.getD i []).length → Tree ((es.getD i []).getD j .any)) → Tree (.fro es)
  | fptr (e : List V) (j : Nat) : (∀ k, k < e.length → Tree (e.getD k .any)) → Tree (.fptr e j)
  | fn (f : FuncId) (xs ys : List V) : (∀ i, i < xs.length → Tree (xs.getD i .any)) → (∀ i, i < ys.length → Tree (ys.getD i .any)) → Tree (.fn f xs ys)
  | agg (cs : List V) : (∀ i, i < cs.length → Tree (cs.getD i .any)) → Tree (.agg cs)
  | tup (cs : List V) : (∀ i, i < cs.length → Tree (cs.getD i .any)) → Tree (.tup cs)

theorem tree_rel {Z : Nat → Prop} {μ ν : Mu} {hp : Array Obj} {v : V} {x : Value} (h : VRel Z μ hp v x) : Tree v → VRel Z ν hp v x := by
  induction h with
  | any x => intro t; exact .any x
  | val v hv => intro _; exact .val v hv
  | emp k a h1 h2 => intro _; exact .emp k a h1 h2
  | nem a cap => intro _; exact .nem a cap
  | fro0 a cap h1 => intro _; exact .fro0 a cap h1
  | fro es b off esz cap c hz hle hes hc _ ih =>
    intro t
    cases t with
    | fro _ ht => exact .fro es b off esz cap c hz hle hes hc (fun i j hi hj => ih i j hi hj (ht i j hi (by rw [hes i hi]; exact hj)))
  | sl0 id off esz a => intro t; cases t
  | sl id off len esz b o0 cap c e f hm hle hb hs => intro t; cases t
  | ptr id i j b o0 esz hm => intro t; cases t
  | fptr e j b off c hz hc _ ih =>
    intro t
    cases t with
    | fptr _ _ ht => exact .fptr e j b off c hz hc (fun k hk => ih k hk (ht k hk))
  | mp id b o0 esz hm => intro t; cases t
  | fn f xs ys aas bs h1 h2 _ _ ih1 ih2 =>
    intro t
    cases t with
    | fn _ _ _ t1 t2 => exact .fn f xs ys aas bs h1 h2 (fun i hi => ih1 i hi (t1 i hi)) (fun i hi => ih2 i hi (t2 i hi))
  | agg cs aas h1 _ ih =>
    intro t
    cases t with
    | agg _ ht => exact .agg cs aas h1 (fun i hi => ih i hi (ht i hi))
  | tup cs aas h1 _ ih =>
    intro t
    cases t with
    | tup _ ht => exact .tup cs aas h1 (fun i hi => ih i hi (ht i hi))

/-- A value, and what it is when nobody writes to the objects any more. -/
inductive Fr (h : Heap) : V → V → Prop
  | tree (v : V) : Tree v → Fr h v v
  | emp (k : Nat) : Fr h (.emp k) (.fro [])
  | sl (id off len esz z : Nat) (es es' : List (List V)) : h.view id = .arr z es → off + len ≤ es.length → es'.length = len →
      (∀ i, i < len → (es'.getD i []).length = (es.getD (off + i) []).length) →
      (∀ i j, i < len → j < (es'.getD i []).length → Fr h ((es.getD (off + i) []).getD j .any) ((es'.getD i []).getD j .any)) → Fr h (.sl id off len esz) (.fro es')
  | ptr (id i j z : Nat) (es : List (List V)) (e' : List V) : h.view id = .arr z es → i < es.length → e'.length = (es.getD i []).length →
      (∀ k, k < e'.length → Fr h ((es.getD i []).getD k .any) (e'.getD k .any)) → Fr h (.ptr id i j) (.fptr e' j)
  | agg (cs cs' : List V) : cs'.length = cs.length → (∀ i, i < cs.length → Fr h (cs.getD i .any) (cs'.getD i .any)) → Fr h (.agg cs) (.agg cs')
  | tup (cs cs' : List V) : cs'.length = cs.length → (∀ i, i < cs.length → Fr h (cs.getD i .any) (cs'.getD i .any)) → Fr h (.tup cs) (.tup cs')

theorem fr_rel {h : Heap} {Z : Nat → Prop} {μ ν : Mu} {F : View} {hp : Array Obj} (hr : HRel Z μ hp (cat h F)) {v t : V} (fr : Fr h v t) : ∀ {x : Value}, VRel Z μ hp v x → VRel (fun b => Z b ∨ hasMu μ b) ν hp t x := by
  have hcat : ∀ id, h.view id ≠ .dead → cat h F id = h.view id := fun id hd => by simp only [cat]; rw [if_pos (view_ne hd)]
  induction fr with
  | tree v ht =>
    intro x hx
    have h1 : VRel Z ν hp v x := tree_rel hx ht
    exact h1.mono ⟨fun _ h => .inl h, fun _ _ => rfl, fun _ _ h => h, Shapes.refl _⟩
  | emp k => intro x hx; cases hx with | emp _ a => exact .fro0 a 0 (fun _ => rfl)
  | sl id off len esz z es es' hH hle hlen hl _ ih =>
    intro x hx
    cases hx with
    | sl0 _ _ _ a =>
      have : es' = [] := List.length_eq_zero_iff.1 hlen
      subst this
      exact .fro0 a 0 (fun _ => rfl)
    | sl _ _ _ _ b o0 cap c e f hm hlec hb hs =>
      have hor := hr.obj id
      rw [hcat id (by rw [hH]; simp), hH] at hor
      obtain ⟨rfl, _, h3, h4⟩ := hor b o0 esz hm
      have hx : ∀ i, ∃ ci : Nat → Value, ∀ j, j < esz → i < len → cellAt hp b (o0 + off * esz + i * esz + j) = some (ci j) ∧ VRel Z μ hp ((es.getD (off + i) []).getD j .any) (ci j) := by
        intro i
        by_cases hi : i < len
        · obtain ⟨ci, hci⟩ := choose_fun (n := esz) (p := fun j x => cellAt hp b (o0 + off * esz + i * esz + j) = some x ∧ VRel Z μ hp ((es.getD (off + i) []).getD j .any) x) (fun j hj => by
            obtain ⟨x, hx, hv⟩ := h4 (off + i) j (by omega) hj
            rw [Nat.add_mul, ← Nat.add_assoc] at hx
            exact ⟨x, hx, hv⟩)
          exact ⟨ci, fun j hj _ => hci j hj⟩
        · exact ⟨fun _ => undef, fun j _ h => absurd h hi⟩
      obtain ⟨cf, hcf⟩ := Classical.axiomOfChoice hx
      have hel : ∀ i, i < es'.length → (es'.getD i []).length = esz := fun i hi => by rw [hl i (by omega)]; exact h3 _ (by omega)
      have := VRel.fro (Z := fun b => Z b ∨ hasMu μ b) (μ := ν) (hp := hp) es' b (o0 + off * esz) esz cap cf (.inr ⟨id, o0, esz, hm⟩) (by omega) hel
        (fun i j hi hj => (hcf i j hj (by omega)).1) (fun i j hi hj => ih i j (by omega) (by rw [hel i hi]; exact hj) (hcf i j hj (by omega)).2)
      rw [hlen] at this
      exact this
  | ptr id i j z es e' hH hi hlen _ ih =>
    intro x hx
    obtain ⟨b, o0, sz, hm, rfl⟩ := ptr_inv (w := { (default : World) with heap := hp }) hx
    have hor := hr.obj id
    rw [hcat id (by rw [hH]; simp), hH] at hor
    obtain ⟨rfl, hrow⟩ := rowOf (w := { (default : World) with heap := hp }) hor hm hi
    refine fptr_mk (w := { (default : World) with heap := hp }) (.inr ⟨id, o0, sz, hm⟩) (fun k hk => ?_)
    obtain ⟨y, hy, hv⟩ := hrow k (by omega)
    exact ⟨y, hy, ih k hk hv⟩
  | agg cs cs' hlen _ ih =>
    intro x hx
    cases hx with
    | agg _ aas h1 h2 => exact .agg _ _ (by omega) (fun i hi => ih i (by omega) (h2 i (by omega)))
  | tup cs cs' hlen _ ih =>
    intro x hx
    cases hx with
    | tup _ aas h1 h2 => exact .tup _ _ (by omega) (fun i hi => ih i (by omega) (h2 i (by omega)))

/-- A call that leaves nothing but its answer. -/
def PCall (P : Program) (f : FuncId) (vs : List V) (t : V) : Prop :=
  ∀ Z μ (w : World) (xs : List Value), VRels Z μ w.heap vs xs → (∀ b, Z b → b < w.heap.size) →
    Calls P f xs.toArray w fun e w' => ∃ x Z', e = .returned x ∧ (∀ ν, VRel Z' ν w'.heap t x) ∧ Same w w' ∧ (∀ b, Z b → Z' b) ∧ (∀ b, Z' b → Z b ∨ (w.heap.size ≤ b ∧ b < w'.heap.size)) ∧ OldBut w.heap w'.heap (fun _ => False)

theorem cat_nil (F : View) : cat [] F = F := by funext id; simp [cat]

theorem PCall.of_acall {P : Program} {f : FuncId} {vs : List V} {r t : V} {h' : Heap} (ht : ∀ v ∈ vs, Tree v) (hc : ACall P f vs [] r h') (hf : Fr h' r t) : PCall P f vs t := by
  intro Z μ w xs hrel hz
  have hrel0 : VRels Z (fun _ => none) w.heap vs xs := ⟨hrel.1, fun i hi => tree_rel (hrel.2 i hi) (by
    simp only [List.getD_eq_getElem?_getD, List.getElem?_eq_getElem hi, Option.getD_some]
    exact ht _ (List.getElem_mem _))⟩
  have hr0 : HRel Z (fun _ => none) w.heap (cat [] fun _ => .dead) := by
    rw [cat_nil]
    exact ⟨fun _ => trivial, fun i j b o s o' s' _ h => by simp at h, fun id b o s h => by simp at h, hz, fun id b o s h => by simp at h⟩
  refine (hc.2 Z _ _ w xs hrel0 hr0 (fun _ _ _ => rfl)).mono ?_
  rintro e w' ⟨x, Z', μ', rfl, hv, hh, hex, _⟩
  refine ⟨x, fun b => Z' b ∨ hasMu μ' b, rfl, fun ν => fr_rel hh hf hv, hex.same, fun b hb => .inl (hex.mono.z b hb), ?_, fun b hb _ => hex.frame b hb (by rintro ⟨_, _, _, h⟩; simp at h)⟩
  rintro b (hb | ⟨id, o, s, hb⟩)
  · rcases hex.znew b hb with h1 | h1
    · exact .inl h1
    · exact .inr ⟨h1, hh.zlt b hb⟩
  · rcases hex.munew _ _ _ _ hb with h1 | ⟨_, h1 | ⟨_, _, _, h1⟩⟩
    · simp at h1
    · exact .inr ⟨h1, hh.lt _ _ _ _ hb⟩
    · simp at h1

theorem ACall.of_pure {P : Program} {f : FuncId} {vs : List V} {t : V} (hc : PCall P f vs t) (h : Heap) : ACall P f vs h t h := by
  refine ⟨Nat.le_refl _, fun Z μ F w xs hrel hr hfree => (hc Z μ w xs hrel hr.zlt).mono ?_⟩
  rintro e w' ⟨x, Z', rfl, hv, hs, hz, hz', ho⟩
  have hm : Mono Z Z' μ μ w.heap w'.heap := ⟨hz, fun b hb => ho b (hr.zlt b hb) (fun x => x), fun _ _ h => h, ho.shapes⟩
  refine ⟨x, Z', μ, rfl, hv μ, ⟨fun id => (hr.obj id).mono hm rfl (fun b o s hx => ho b (hr.lt _ _ _ _ hx) (fun x => x)), hr.inj, fun id b o s hx => Nat.lt_of_lt_of_le (hr.lt _ _ _ _ hx) hs.size, fun b hb => ?_, fun id b o s hx hzb => ?_⟩,
    ⟨hs, hm, fun b hb _ => ho b hb (fun x => x), fun b hb => ?_, fun _ _ _ _ h => .inl h⟩, fun _ _ => rfl⟩
  · rcases hz' b hb with h1 | h1
    · exact Nat.lt_of_lt_of_le (hr.zlt b h1) hs.size
    · exact h1.2
  · rcases hz' b hzb with h1 | h1
    · exact hr.zmu _ _ _ _ hx h1
    · have := hr.lt _ _ _ _ hx; omega
  · rcases hz' b hb with h1 | h1
    · exact .inl h1
    · exact .inr h1.1

end Gv

/-
  The abstract machine as a program, for runs without open data; its answers are what running the code comes to.
  Conditions: none beyond those that each lemma names.
-/
namespace Gv
open Go

/-- A state: slots, objects, numbers of the objects of old that were turned. -/
structure St where
  L : List V
  h : Heap
  wl : List Nat

inductive Out1 where
  | normal | exit (id : Nat) | goto (l : Nat) | ret
  deriving DecidableEq

def Out1.to : Out1 → Exit
  | .normal => .normal
  | .exit id => .exit id
  | .goto l => .goto l
  | .ret => .ret

def notSome (l : List Nat) (x : Nat) : Bool := !l.contains x

/-- Nothing that may change places gets in another's way. -/
def noConfB (a b : Rec) : Bool :=
  a.wr.all (notSome b.rd) && b.wr.all (notSome a.rd) && (!a.call || b.wr.isEmpty) && (!b.call || a.wr.isEmpty) && b.wr.all fun id => !(decide (a.lo ≤ id) && decide (id < a.hi))

/-- Which code is run: a piece; or, in a scope, a piece with jumps. -/
inductive Mode where
  | code
  | jump (c : Code)

end Gv

/-
  What the abstract machine answers as a program is what running the code comes to.
  Conditions: none beyond those that each lemma names.
-/
namespace Gv
open Go

section
variable {P : Program} {n : Nat}

/-- From one state to another: what was turned is told. -/
def Told (s s' : St) : Prop := s.h.length ≤ s'.h.length ∧ ∀ id, id < s.h.length → ¬ id ∈ s'.wl → s'.h.view id = s.h.view id ∧ ¬ id ∈ s.wl

theorem Told.trans {a b c : St} (h : Told a b) (k : Told b c) : Told a c :=
  ⟨Nat.le_trans h.1 k.1, fun id hid hw => by
    obtain ⟨h1, h2⟩ := k.2 id (Nat.lt_of_lt_of_le hid h.1) hw
    obtain ⟨h3, h4⟩ := h.2 id hid h2
    exact ⟨h1.trans h3, h4⟩⟩

theorem Told.refl (s : St) : Told s s := ⟨Nat.le_refl _, fun _ _ hw => ⟨rfl, hw⟩⟩

theorem noConf_ok {a b : Rec} (h : noConfB a b = true) : NoConf a b := by
  unfold noConfB at h
  simp only [Bool.and_eq_true, List.all_eq_true, notSome, Bool.not_eq_true', Bool.or_eq_true] at h
  obtain ⟨⟨⟨⟨h1, h2⟩, h3⟩, h4⟩, h5⟩ := h
  refine ⟨fun id hid hm => ?_, fun id hid hm => ?_, fun hcall => ?_, fun hcall => ?_, fun id hid hm => ?_⟩
  · have := h1 id hid; simp at this; exact this hm
  · have := h2 id hid; simp at this; exact this hm
  · rcases h3 with h3 | h3
    · rw [hcall] at h3; simp at h3
    · simpa using h3
  · rcases h4 with h4 | h4
    · rw [hcall] at h4; simp at h4
    · simpa using h4
  · have := h5 id hid
    simp at this
    omega

end
end Gv

/-
  Operations with their types looked up ahead: what they answer is what the abstract machine's operations answer.
  Conditions: none beyond those that each lemma names.
-/
namespace Gv
open Go

inductive SX where
  | tmp (t : Nat)
  | val (v : V)
  deriving Inhabited

def SX.of : Operand → SX
  | .tmp t => .tmp t
  | .const v => .val (ofVal v)
  | .global _ => .val .any
  | .func f => .val (.fn f [] [])

def SX.at (T : Env) : SX → V
  | .tmp t => T t
  | .val v => v

theorem SX.of_at (T : Env) (x : Operand) : (SX.of x).at T = ev T x := by cases x <;> rfl

/-- An operation with its types looked up. -/
inductive SI where
  | mov (x : SX)
  | pick (c a b : SX)
  | box (x : SX)
  | frz (x : SX)
  | alloc (z : List V)
  | build (z : List V) (parts : List (Nat × Nat × SX))
  | bslice (len sz : Nat) (z : List V) (parts : List (Nat × SX))
  | load (sz : Option Nat) (a : SX)
  | loadF (sz : Option Nat) (a : SX)
  | store (sz : Nat) (a x : SX)
  | nilc (x : SX)
  | addr (off : Nat) (x : SX)
  | field (off : Nat) (sz : Option Nat) (x : SX)
  | idx (sz : Nat) (x i : SX)
  | slice (sz : Nat) (x : SX) (lo hi : Option SX)
  | make (sz bytes : Nat) (z : List V) (l c : SX)
  | mkmap
  | mkfn (f : FuncId) (first cap : List SX)
  | ext (i : Nat) (x : SX)
  | len (x : SX)
  | lenS (x : SX)
  | app (sz bytes : Nat) (x y : SX)
  | arith (op : BinOp) (x y : SX)
  | sh (left : Bool) (x y : SX)
  | sop (op : BinOp) (x y : SX)
  | sidx (x i : SX)
  | not (x : SX)
  | nil (eq : Bool) (k : Nat) (x y : SX)
  | beq (eq : Bool) (x y : SX)
  | mm (mx : Bool) (x y : SX)
  | conv (k : IntKind) (x : SX)
  | strF (x : SX)
  | frzB (x : SX)
  | old (op : Op) (ty : TypeId)
  deriving Inhabited

def partS : Option Nat → List V → Nat → Option V
  | some n, cs, off => if off + n ≤ cs.length then some (.agg ((cs.drop off).take n)) else none
  | none, cs, off => if off < cs.length then some (cs.getD off .any) else none

def sLoad (sz : Option Nat) (a : V) (H : View) : Out := match a with
  | .ptr id i j => match H id with
    | .arr _ es => if i < es.length then (partS sz (es.getD i []) j).map fun v => (v, .none, [id]) else none
    | _ => none
  | .fptr e j => (partS sz e j).map fun v => (v, .none, [])
  | _ => none

def sStore (sz : Nat) (a v : V) (H : View) : Out := match a with
  | .ptr id i j => match H id with
    | .arr esz es =>
      if i < es.length ∧ v.cells.length = sz ∧ j + v.cells.length ≤ esz ∧ v.cells.all cellOk = true
      then some (.any, .upd id (.arr esz (es.set i (splice (es.getD i []) j v.cells))), [id]) else none
    | _ => none
  | _ => none

def sBuild (z : List V) (parts : List (Nat × Nat × V)) : Option (List V) := match parts with
  | [] => some z
  | (off, size, x) :: r => if x.cells.length = size ∧ off + size ≤ z.length ∧ x.cells.all cellOk = true then sBuild (splice z off x.cells) r else none

def sBslice (len sz : Nat) (z : List V) (parts : List (Nat × V)) (n : Nat) : Out :=
  match fillE sz (List.replicate len z) parts with
  | some es => some (.sl n 0 len sz, .new (.arr sz es), [])
  | none => none

def sAddr (off : Nat) (x : V) : Out := match x with
  | .ptr id i j => some (.ptr id i (j + off), .none, [])
  | .fptr e j => some (.fptr e (j + off), .none, [])
  | _ => none

def sIdx (sz : Nat) (x i : V) : Out := match asNat i with
  | none => none
  | some q => match x with
    | .sl id off len esz => if q < len ∧ esz = sz then some (.ptr id (off + q) 0, .none, []) else none
    | .fro es => if q < es.length ∧ (es.getD q []).length = sz then some (.fptr (es.getD q []) 0, .none, []) else none
    | _ => none

def sSlice (sz : Nat) (x : V) (lo hi : Option V) : Out := match x with
  | .sl id off len esz => match bound 0 lo, bound len hi with
    | some l, some h => if l ≤ h ∧ h ≤ len ∧ esz = sz then some (.sl id (off + l) (h - l) esz, .none, []) else none
    | _, _ => none
  | .fro es => match bound 0 lo, bound es.length hi with
    | some l, some h => if l ≤ h ∧ h ≤ es.length ∧ (es.all fun e => e.length == sz) = true then some (.fro ((es.drop l).take (h - l)), .none, []) else none
    | _, _ => none
  | .emp k => match bound 0 lo, bound 0 hi with
    | some 0, some 0 => some (.emp k, .none, [])
    | _, _ => none
  | _ => none

def sMake (sz bytes : Nat) (z : List V) (len cap : V) (n : Nat) : Out := match asNat len, asNat cap with
  | some l, some c =>
    if l ≤ c ∧ c < limit ∧ bytes * c < limit then
      (if c = 0 then some (.emp 2, .none, []) else some (.sl n 0 l sz, .new (.arr sz (List.replicate l z)), []))
    else none
  | _, _ => none

def sApp (sz bytes : Nat) (s x : V) (H : View) (n : Nat) : Out := match elemsOf H x with
  | some (xs, rd) =>
      if xs.isEmpty then (match s with
        | .emp _ | .nem | .fro _ | .sl _ _ _ _ => some (s, .none, [])
        | _ => none)
      else if ¬ ((xs.all fun e => e.length == sz && e.all cellOk) = true) then none
      else match s with
        | .emp _ => if xs.length * bytes < limit ∧ xs.length < limit then some (.sl n 0 xs.length sz, .new (.arr sz xs), rd) else none
        | .sl id off len esz => match H id with
          | .arr _ es =>
            if off + len ≤ es.length ∧ esz = sz ∧ (len + xs.length) * bytes < limit ∧ len + xs.length < limit
            then some (.sl n 0 (len + xs.length) esz, .mov id (.arr esz ((es.drop off).take len ++ xs)), id :: rd) else none
          | _ => none
        | _ => none
  | none => none

def intOp (op : BinOp) (k : IntKind) (a b : Int) : Option Value := match op with
  | .add => some (.int k (k.wrap (a + b)))
  | .sub => some (.int k (k.wrap (a - b)))
  | .mul => some (.int k (k.wrap (a * b)))
  | .quo => if b = 0 then none else some (.int k (k.wrap (a.tdiv b)))
  | .rem => if b = 0 then none else some (.int k (a.tmod b))
  | .eql => some (.bool (a == b))
  | .neq => some (.bool (a != b))
  | .lss => some (.bool (a < b))
  | .leq => some (.bool (a ≤ b))
  | .gtr => some (.bool (a > b))
  | .geq => some (.bool (a ≥ b))
  | .or => some (.int k (k.wrap (BitVec.ofInt k.bits a ||| BitVec.ofInt k.bits b).toNat))
  | .and => some (.int k (k.wrap (BitVec.ofInt k.bits a &&& BitVec.ofInt k.bits b).toNat))
  | .xor => some (.int k (k.wrap (BitVec.ofInt k.bits a ^^^ BitVec.ofInt k.bits b).toNat))
  | .andNot => some (.int k (k.wrap (BitVec.ofInt k.bits a &&& ~~~(BitVec.ofInt k.bits b)).toNat))
  | _ => none

def sArith (op : BinOp) (x y : V) : Out := match x, y with
  | .val (.int k a), .val (.int k' b) => if k = k' then (intOp op k a b).map fun v => (.val v, .none, []) else none
  | _, _ => none

/-- What a number is, shifted. -/
def shOp (left : Bool) (k : IntKind) (a b : Int) : Int := if left then k.wrap (a * 2 ^ (min b.toNat k.bits)) else a.fdiv (2 ^ (min b.toNat k.bits))
def sSh (left : Bool) (x y : V) : Out := match x, y with
  | .val (.int k a), .val (.int _ b) => if b < 0 then none else some (.val (.int k (shOp left k a b)), .none, [])
  | _, _ => none
def shOf : BinOp → Option Bool
  | .shl => some true
  | .shr => some false
  | _ => none

def strEq (a b : ByteArray) : Bool := a.data.toList == b.data.toList

def sSop (op : BinOp) (x y : V) : Out := match x, y with
  | .val (.string a), .val (.string b) => match op with
    | .eql => some (.val (.bool (strEq a b)), .none, [])
    | .neq => some (.val (.bool (!strEq a b)), .none, [])
    | _ => none
  | _, _ => none

def sSidx (x i : V) : Out := match x, asNat i with
  | .val (.string s), some q => match s.data.toList[q]? with
    | some b => some (.val (.int .u8 b.toNat), .none, [])
    | none => none
  | _, _ => none

def nilB : Option Bool → Option Bool → Option Bool
  | some true, some b => some b
  | some b, some true => some b
  | _, _ => none

theorem aNil_eq {P : Program} {t : TypeId} {k : Nat} (h : nilKind P t = some k) (x y : V) : aNil P t x y = nilB (isNil k x) (isNil k y) := by
  simp only [aNil, h]
  unfold nilB
  split <;> simp_all

/-- An operation alone. -/
def oper (op : Op) (ty : TypeId) : Oper := ⟨none, op, ty, "", #[], none⟩

theorem aop_oper (P : Program) (o : Oper) (T : Env) (H : View) (n : Nat) : aop P (oper o.op o.type) T H n = aop P o T H n := by
  cases o; rfl

/-- What an operation answers. -/
def sI (P : Program) (s : SI) (T : Env) (H : View) (n : Nat) : Out := match s with
  | .mov x => some (x.at T, .none, [])
  | .pick c a b => match c.at T with
    | .val (.bool t) => some (if t then a.at T else b.at T, .none, [])
    | _ => none
  | .box x => aBox (x.at T).cells n
  | .frz x => if (x.at T).cells.all cellOk = true then some (.fptr (x.at T).cells 0, .none, []) else none
  | .alloc z => aBox z n
  | .build z parts => (sBuild z (parts.map fun (a, b, x) => (a, b, x.at T))).map fun cs => (.agg cs, .none, [])
  | .bslice len sz z parts => sBslice len sz z (parts.map fun (i, x) => (i, x.at T)) n
  | .load sz a => sLoad sz (a.at T) H
  | .loadF sz a => match a.at T with
    | .fptr e j => (partS sz e j).map fun v => (v, .none, [])
    | _ => none
  | .store sz a x => sStore sz (a.at T) (x.at T) H
  | .nilc x => match x.at T with
    | .ptr id i j => some (.ptr id i j, .none, [])
    | .fptr e j => some (.fptr e j, .none, [])
    | .fn f a b => some (.fn f a b, .none, [])
    | _ => none
  | .addr off x => sAddr off (x.at T)
  | .field off sz x => match x.at T with
    | .agg cs => (partS sz cs off).map fun v => (v, .none, [])
    | _ => none
  | .idx sz x i => sIdx sz (x.at T) (i.at T)
  | .slice sz x lo hi => sSlice sz (x.at T) (lo.map (SX.at T)) (hi.map (SX.at T))
  | .make sz bytes z l c => sMake sz bytes z (l.at T) (c.at T) n
  | .mkmap => some (.mp n, .new (.map [] 0), [])
  | .mkfn f first cap => some (.fn f (first.map (SX.at T)) (cap.map (SX.at T)), .none, [])
  | .ext i x => match x.at T with
    | .tup vs => if i < vs.length then some (vs.getD i .any, .none, []) else none
    | _ => none
  | .len x => (lenV (x.at T)).map fun n => (goI n, .none, [])
  | .lenS x => match x.at T with
    | .val (.string s) => some (goI s.size, .none, [])
    | _ => none
  | .app sz bytes x y => sApp sz bytes (x.at T) (y.at T) H n
  | .arith op x y => sArith op (x.at T) (y.at T)
  | .sh l x y => sSh l (x.at T) (y.at T)
  | .sop op x y => sSop op (x.at T) (y.at T)
  | .sidx x i => sSidx (x.at T) (i.at T)
  | .not x => match x.at T with
    | .val (.bool t) => some (.val (.bool (!t)), .none, [])
    | _ => none
  | .nil eq k x y => match nilB (isNil k (x.at T)) (isNil k (y.at T)) with
    | some b => some (.val (.bool (if eq then b else !b)), .none, [])
    | none => none
  | .beq eq x y => match x.at T, y.at T with
    | .val (.bool a), .val (.bool b) => some (.val (.bool (if eq then a == b else a != b)), .none, [])
    | _, _ => none
  | .mm mx x y => match x.at T, y.at T with
    | .val (.int k a), .val (.int _ b) => some (.val (.int k (if mx then (if b > a then b else a) else (if b < a then b else a))), .none, [])
    | _, _ => none
  | .conv k x => match x.at T with
    | .val (.int _ a) => some (.val (.int k (k.wrap a)), .none, [])
    | _ => none
  | .strF x => match x.at T with
    | .fro es => (textOf es).map fun l => (.val (.string ⟨l.toArray⟩), .none, [])
    | _ => none
  | .frzB x => match x.at T with
    | .val (.string s) => some (.fro (bytesE s), .none, [])
    | _ => none
  | .old op ty => aop P (oper op ty) T H n

def partK (P : Program) (t : TypeId) : Option (Option Nat) := match P.info? t, aggKind P t with
  | some i, some true => some (some i.size)
  | some _, some false => some none
  | _, _ => none

theorem partK_ok {P : Program} {t : TypeId} {k : Option Nat} (h : partK P t = some k) (cs : List V) (j : Nat) : partV P t cs j = partS k cs j := by
  unfold partK at h
  split at h
  · rename_i i h1 h2
    simp at h; subst h; simp [partV, h1, h2, partS]
  · rename_i i h1 h2
    simp at h; subst h; simp [partV, h1, h2, partS]
  · simp at h

/-- The size of what a slice's type holds, in cells and in bytes; a zero one. -/
def elemK (P : Program) (t : TypeId) : Option (Nat × Nat × List V) := match sliceElem P t with
  | some e => match P.info? e, zeroCells P e with
    | some ti, some z => if z.length = ti.size ∧ z.all cellOk = true ∧ ti.size ≠ 0 then some (ti.size, ti.bytes, z) else none
    | _, _ => none
  | none => none

theorem elemK_ok {P : Program} {t : TypeId} {sz by' : Nat} {z : List V} (h : elemK P t = some (sz, by', z)) :
    ∃ e ti, sliceElem P t = some e ∧ P.underlying t = some (.slice e) ∧ P.info? e = some ti ∧ zeroCells P e = some z ∧ z.length = ti.size ∧ z.all cellOk = true ∧ ti.size ≠ 0 ∧ sz = ti.size ∧ by' = ti.bytes := by
  unfold elemK at h
  split at h
  · rename_i e he
    split at h
    · rename_i ti z' h1 h2
      split at h
      · rename_i hc
        simp at h
        obtain ⟨rfl, rfl, rfl⟩ := h
        have hu : P.underlying t = some (.slice e) := by
          unfold sliceElem at he; split at he
          · rename_i h3; simp at he; subst he; exact h3
          · simp at he
        exact ⟨e, ti, he, hu, h1, h2, hc.1, hc.2.1, hc.2.2, rfl, rfl⟩
      · simp at h
    · simp at h
  · simp at h

def placesS (P : Program) (t : TypeId) : List (Nat × Operand) → Option (List (Nat × Nat × SX))
  | [] => some []
  | (i, x) :: r => match placeOf P t i, placesS P t r with
    | some (a, b), some l => some ((a, b, SX.of x) :: l)
    | _, _ => none

/-- An operation, its types looked up. -/
def comp (P : Program) (o : Oper) : SI := match o.op with
  | .move x | .assign x => .mov (SX.of x)
  | .pick c a b => .pick (SX.of c) (SX.of a) (SX.of b)
  | .alloc e => match zeroCells P e with
    | some z => .alloc z
    | none => .old o.op o.type
  | .box _ x => .box (SX.of x)
  | .load t a => match partK P t with
    | some k => .load k (SX.of a)
    | none => .old o.op o.type
  | .store t a v => match P.info? t with
    | some _ => .store (P.cellsOf t) (SX.of a) (SX.of v)
    | none => .old o.op o.type
  | .nilCheck x => .nilc (SX.of x)
  | .fieldAddr t x f => match fieldPl P t f with
    | some (off, s, _) => if s = 0 then .old o.op o.type else .addr off (SX.of x)
    | none => .old o.op o.type
  | .field t x f => match fieldPl P t f with
    | some (off, _, ft) => match partK P ft with
      | some k => .field off k (SX.of x)
      | none => .old o.op o.type
    | none => .old o.op o.type
  | .indexAddr t x i => match elemK P t with
    | some (sz, _, _) => .idx sz (SX.of x) (SX.of i)
    | none => .old o.op o.type
  | .slice t x lo hi none => match elemK P t with
    | some (sz, _, _) => .slice sz (SX.of x) (lo.map SX.of) (hi.map SX.of)
    | none => .old o.op o.type
  | .makeSlice t l c => match elemK P t with
    | some (sz, b, z) => .make sz b z (SX.of l) (SX.of c)
    | none => .old o.op o.type
  | .makeMap _ none => .mkmap
  | .makeFunc (.func f) first cap => .mkfn f (first.toList.map SX.of) (cap.toList.map SX.of)
  | .extract t i => .ext i (SX.of t)
  | .build t parts => match P.underlying t, zeroV P t with
    | some (.struct _), some (.agg z) => if fieldsKnown P t = true then
        (match placesS P t parts.toList with
        | some ps => .build z ps
        | none => .old o.op o.type) else .old o.op o.type
    | _, _ => .old o.op o.type
  | .buildSlice t len parts => match elemK P t with
    | some (sz, _, z) => if len = 0 ∧ parts.toList.isEmpty = true then .mov (.val (.emp 2)) else if len * sz ≤ 2 ^ 24 ∧ len ≠ 0 then .bslice len sz z (parts.toList.map fun (i, x) => (i, SX.of x)) else .old o.op o.type
    | none => .old o.op o.type
  | .call { callee := .builtin b, args, argTypes } => match b, args.toList with
    | .len, [x] => if 1 ≤ argTypes.size then (match P.underlying (argTypes.getD 0 0) with
      | some (.slice _) => .len (SX.of x)
      | some .string => .lenS (SX.of x)
      | _ => .old o.op o.type) else .old o.op o.type
    | .append, [s, x] => if 2 ≤ argTypes.size ∧ noInt P (argTypes.getD 1 0) = true then (match elemK P (argTypes.getD 0 0) with
      | some (sz, b, _) => .app sz b (SX.of s) (SX.of x)
      | none => .old o.op o.type) else .old o.op o.type
    | .min, [x, y] => .mm false (SX.of x) (SX.of y)
    | .max, [x, y] => .mm true (SX.of x) (SX.of y)
    | _, _ => .old o.op o.type
  | .convert s d x => match P.underlying s, P.underlying d with
    | some (.int _), some (.int k) => .conv k (SX.of x)
    | _, _ => .old o.op o.type
  | .binOp op t x y _ => match nilKind P t with
    | some k => match op with
      | .eql => .nil true k (SX.of x) (SX.of y)
      | .neq => .nil false k (SX.of x) (SX.of y)
      | _ => .old o.op o.type
    | none => match P.underlying t with
      | some (.int _) => match shOf op with
        | some l => .sh l (SX.of x) (SX.of y)
        | none => .arith op (SX.of x) (SX.of y)
      | some .string => .sop op (SX.of x) (SX.of y)
      | some .bool => match op with
        | .eql => .beq true (SX.of x) (SX.of y)
        | .neq => .beq false (SX.of x) (SX.of y)
        | _ => .old o.op o.type
      | _ => .old o.op o.type
  | .unOp .not _ x => .not (SX.of x)
  | .index t x i => match P.underlying t with
    | some .string => .sidx (SX.of x) (SX.of i)
    | _ => .old o.op o.type
  | _ => .old o.op o.type

theorem sBuild_ok {P : Program} {t : TypeId} {T : Env} : ∀ (parts : List (Nat × Operand)) (ps : List (Nat × Nat × SX)) (z : List V), placesS P t parts = some ps →
    fillC (placeOf P t) z (parts.map fun (i, x) => (i, ev T x)) = sBuild z (ps.map fun (a, b, x) => (a, b, x.at T))
  | [], ps, z, h => by simp [placesS] at h; subst h; rfl
  | (i, x) :: r, ps, z, h => by
    simp only [placesS] at h
    split at h
    · rename_i a b l h1 h2
      simp at h; subst h
      simp only [List.map_cons, fillC, h1, sBuild, SX.of_at]
      split
      · exact sBuild_ok r l _ h2
      · rfl
    · simp at h

theorem aPure_arith {P : Program} {o : Oper} {T : Env} {op : BinOp} {t u : TypeId} {x y : Operand} {k : IntKind} {a b : Int} {r : Value} (ho : o.op = .binOp op t x y u) (hx : ev T x = .val (.int k a)) (hy : ev T y = .val (.int k b)) (h : intOp op k a b = some r) :
    aPure P o T = some (.val r, .none, []) := by
  unfold aPure
  simp only [ho, Op.operands]
  simp only [hx, hy, toVal]
  cases op <;> simp only [intOp, Option.some.injEq, reduceCtorEq] at h
  all_goals first
    | (split at h
       · simp at h
       · rename_i hb
         simp at h; subst h
         simp [execOp, ho, hx, hy, toVal, eqGuard, binOp, Op.intDiv, hb, plain]
         try rfl)
    | (subst h; simp [execOp, ho, hx, hy, toVal, eqGuard, binOp, Op.intArith, Op.intCmp, Op.intBits, plain]; try rfl)

theorem aPure_sh {P : Program} {o : Oper} {T : Env} {op : BinOp} {t u : TypeId} {x y : Operand} {l : Bool} {v : V} {eff : Eff} {rd : List Nat} (ho : o.op = .binOp op t x y u) (hs : shOf op = some l) (h : sSh l (ev T x) (ev T y) = some (v, eff, rd)) :
    aPure P o T = some (v, eff, rd) := by
  unfold sSh at h
  split at h
  · rename_i k a k' b hx hy
    split at h
    · simp at h
    · rename_i hb
      simp only [Option.some.injEq, Prod.mk.injEq] at h
      obtain ⟨rfl, rfl, rfl⟩ := h
      unfold aPure
      simp only [ho, Op.operands]
      simp only [hx, hy, toVal]
      cases op <;> simp only [shOf, Option.some.injEq, reduceCtorEq] at hs
      all_goals
        subst hs
        simp [execOp, ho, hx, hy, toVal, eqGuard, binOp, Op.shift, hb, plain, shOp]
        try rfl
  · simp at h

theorem aPure_sop {P : Program} {o : Oper} {T : Env} {op : BinOp} {t u : TypeId} {x y : Operand} {v : V} {eff : Eff} {rd : List Nat} (ho : o.op = .binOp op t x y u) (h : sSop op (ev T x) (ev T y) = some (v, eff, rd)) :
    aPure P o T = some (v, eff, rd) := by
  unfold sSop at h
  split at h
  · rename_i a b hx hy
    unfold aPure
    simp only [ho, Op.operands, hx, hy, toVal]
    have he : (a.toList == b.toList) = strEq a b := by simp [strEq, ByteArray.toList_eq]
    split at h
    · simp at h; obtain ⟨rfl, rfl, rfl⟩ := h
      simp [execOp, ho, hx, hy, toVal, eqGuard, binOp, Op.stringOp, plain, ← he]; rfl
    · simp at h; obtain ⟨rfl, rfl, rfl⟩ := h
      simp [execOp, ho, hx, hy, toVal, eqGuard, binOp, Op.stringOp, plain, ← he]; rfl
    · simp at h
  · simp at h

theorem aPure_sidx {P : Program} {o : Oper} {T : Env} {t : TypeId} {x i : Operand} {v : V} {eff : Eff} {rd : List Nat} (ho : o.op = .index t x i) (hu : P.underlying t = some .string) (h : sSidx (ev T x) (ev T i) = some (v, eff, rd)) :
    aPure P o T = some (v, eff, rd) := by
  unfold sSidx at h
  split at h
  · rename_i s q hx hq
    split at h
    · rename_i b hb
      simp at h; obtain ⟨rfl, rfl, rfl⟩ := h
      unfold asNat at hq
      split at hq
      · rename_i k z hz
        split at hq
        · rename_i h0
          simp at hq; subst hq
          have hs : s[z.toNat]? = some b := by
            obtain ⟨hlt, rfl⟩ := List.getElem?_eq_some_iff.1 hb
            have hlt' : z.toNat < s.size := by rw [bsize] at hlt; exact hlt
            rw [getElem?_pos s z.toNat hlt']
            rfl
          unfold aPure
          simp only [ho, Op.operands, hx, hz, toVal]
          simp [execOp, ho, hx, hz, toVal, Instr.index, asIntOf, underlying, program, hu, h0, hs, plain]
          simp [pureRun, hu, h0, hs, plain, bind, Sem.bind, pure]
          rfl
        · simp at hq
      · simp at hq
    · simp at h
  · simp at h

theorem aPure_not {P : Program} {o : Oper} {T : Env} {t : TypeId} {x : Operand} {b : Bool} (ho : o.op = .unOp .not t x) (hx : ev T x = .val (.bool b)) :
    aPure P o T = some (.val (.bool (!b)), .none, []) := by
  unfold aPure
  simp only [ho, Op.operands, hx, toVal]
  simp [execOp, ho, hx, toVal, Op.unary, plain]
  rfl

theorem pureRun_map {α β : Type} (P : Program) (s : Sem α) (f : α → β) : pureRun P (Functor.map f s) = (pureRun P s).map f := by
  show pureRun P (s >>= fun a => pure (f a)) = _
  rw [pureRun_bind]
  cases pureRun P s <;> rfl

theorem pureRun_under {P : Program} {t : TypeId} {d : TypeDesc} (h : P.underlying t = some d) : pureRun P (underlying t) = some d := by
  simp only [underlying, program, pureRun_bind]
  simp [pureRun, h]
  rfl

theorem pureRun_equal {P : Program} {t : TypeId} {a b : Bool} (hu : P.underlying t = some .bool) : pureRun P (Op.equal t (.bool a) (.bool b)) = some (a == b) := by
  rw [equal_succ]
  generalize 9999 = d
  simp only [Op.equalIn, pureRun_bind, pureRun_under hu, Option.bind_some]
  rfl

theorem aPure_beq {P : Program} {o : Oper} {T : Env} {op : BinOp} {t u : TypeId} {x y : Operand} {a b : Bool} {r : Bool} (ho : o.op = .binOp op t x y u) (hu : P.underlying t = some .bool) (hx : ev T x = .val (.bool a)) (hy : ev T y = .val (.bool b))
    (hr : (op = .eql ∧ r = (a == b)) ∨ (op = .neq ∧ r = (a != b))) :
    aPure P o T = some (.val (.bool r), .none, []) := by
  unfold aPure
  simp only [ho, Op.operands, hx, hy, toVal]
  rcases hr with ⟨rfl, rfl⟩ | ⟨rfl, rfl⟩
  · simp [execOp, ho, hx, hy, toVal, eqGuard, binOp, pureRun_map, pureRun_bind, pureRun_equal hu, plain]
    try simp [pureRun, pure, plain]
  · simp [execOp, ho, hx, hy, toVal, eqGuard, binOp, pureRun_map, pureRun_bind, pureRun_equal hu, plain]
    try simp [pureRun, pure, plain, bne]

theorem aPure_conv {P : Program} {o : Oper} {T : Env} {s d : TypeId} {x : Operand} {k0 k k' : IntKind} {a : Int} (ho : o.op = .convert s d x) (hs : P.underlying s = some (.int k0)) (hd : P.underlying d = some (.int k)) (hx : ev T x = .val (.int k' a)) :
    aPure P o T = some (.val (.int k (k.wrap a)), .none, []) := by
  unfold aPure
  simp only [ho, Op.operands, hx, toVal]
  have : pureRun P (convert s d (.int k' a)) = some (.int k (k.wrap a)) := by
    simp only [convert, pureRun_bind, pureRun_under hs, pureRun_under hd, Option.bind_some]
    rfl
  simp [execOp, ho, hx, toVal, pureRun_map, this, plain]

theorem aPure_mm {P : Program} {o : Oper} {T : Env} {bi : Builtin} {x y : Operand} {k k' : IntKind} {a b : Int} {args : Array Operand} {ats : Array TypeId} {r : Int} (ho : o.op = .call { callee := .builtin bi, args := args, argTypes := ats }) (ha : args.toList = [x, y])
    (hx : ev T x = .val (.int k a)) (hy : ev T y = .val (.int k' b)) (hr : (bi = .max ∧ r = if b > a then b else a) ∨ (bi = .min ∧ r = if b < a then b else a)) :
    aPure P o T = some (.val (.int k r), .none, []) := by
  obtain rfl : args = #[x, y] := by rw [← Array.toArray_toList (xs := args), ha]
  unfold aPure
  rcases hr with ⟨rfl, rfl⟩ | ⟨rfl, rfl⟩
  · have : pureRun P (Builtin.max_ ats o.type #[.int k a, .int k' b]) = some (.int k (if b > a then b else a)) := rfl
    simp [ho, Op.operands, Call.operands, hx, hy, toVal, execOp, resolve, invoke, builtin, pureRun_map, this, plain]
  · have : pureRun P (Builtin.min_ ats o.type #[.int k a, .int k' b]) = some (.int k (if b < a then b else a)) := rfl
    simp [ho, Op.operands, Call.operands, hx, hy, toVal, execOp, resolve, invoke, builtin, pureRun_map, this, plain]

theorem map_of (l : List Operand) (T : Env) : (l.map SX.of).map (SX.at T) = l.map (ev T) := by
  rw [List.map_map]; congr 1; funext x; exact SX.of_at T x

theorem omap_of (l : Option Operand) (T : Env) : (l.map SX.of).map (SX.at T) = l.map (ev T) := by
  cases l <;> simp [SX.of_at]

theorem pmap_of (l : List (Nat × Operand)) (T : Env) : (l.map fun (i, x) => (i, SX.of x)).map (fun (i, x) => (i, SX.at T x)) = l.map fun (i, x) => (i, ev T x) := by
  rw [List.map_map]; congr 1; funext x; simp [SX.of_at]

theorem comp_ok {P : Program} {o : Oper} {T : Env} {H : View} {n : Nat} {v : V} {eff : Eff} {rd : List Nat} (h : sI P (comp P o) T H n = some (v, eff, rd)) :
    aop P o T H n = some (v, eff, rd) := by
  have old : ∀ {s : SI}, s = .old o.op o.type → sI P s T H n = some (v, eff, rd) → aop P o T H n = some (v, eff, rd) := fun e h => by rw [e] at h; simp only [sI, aop_oper] at h; exact h
  unfold comp at h
  split at h
  · rename_i x ho; simp only [sI, SX.of_at] at h; simp only [aop, ho]; exact h
  · rename_i x ho; simp only [sI, SX.of_at] at h; simp only [aop, ho]; exact h
  · rename_i c a b ho; simp only [sI, SX.of_at] at h; simp only [aop, ho]; exact h
  · rename_i e ho
    split at h
    · rename_i z hz; simp only [sI] at h; simp only [aop, ho, hz]; exact h
    · exact old rfl h
  · rename_i t x ho; simp only [sI, SX.of_at] at h; simp only [aop, ho]; exact h
  · rename_i t a ho
    split at h
    · rename_i k hk
      simp only [sI, SX.of_at, sLoad] at h
      simp only [aop, ho, aLoad, partK_ok hk]
      exact h
    · exact old rfl h
  · rename_i t a x ho
    split at h
    · rename_i ti hti
      simp only [sI, SX.of_at, sStore] at h
      simp only [aop, ho, aStore, hti, Option.isSome_some, and_true]
      exact h
    · exact old rfl h
  · rename_i x ho; simp only [sI, SX.of_at] at h; simp only [aop, ho]; exact h
  · rename_i t x f ho
    split at h
    · rename_i off s ft hpl
      split at h
      · exact old rfl h
      · rename_i hs
        simp only [sI, SX.of_at, sAddr] at h
        simp only [aop, ho, aFieldAddr, hpl, hs, if_false]
        exact h
    · exact old rfl h
  · rename_i t x f ho
    split at h
    · rename_i off s ft hpl
      split at h
      · rename_i k hk
        simp only [sI, SX.of_at] at h
        simp only [aop, ho, aField, hpl]
        split at h
        · rename_i cs hcs; simp only [hcs, partK_ok hk]; exact h
        · simp at h
      · exact old rfl h
    · exact old rfl h
  · rename_i t x i ho
    split at h
    · rename_i sz b z hk
      obtain ⟨e, ti, h1, h2, h3, h4, h5, h6, h7, rfl, rfl⟩ := elemK_ok hk
      simp only [sI, SX.of_at, sIdx] at h
      simp only [aop, ho, aIndexAddr, h2, h3]
      exact h
    · exact old rfl h
  · rename_i t x lo hi ho
    split at h
    · rename_i sz b z hk
      obtain ⟨e, ti, h1, h2, h3, h4, h5, h6, h7, rfl, rfl⟩ := elemK_ok hk
      simp only [sI, SX.of_at, omap_of] at h
      simp only [aop, ho]
      have hsl : aSlice P t (ev T x) (lo.map (ev T)) (hi.map (ev T)) none = some (v, eff, rd) := by
        simp only [aSlice, h1, h3]
        unfold sSlice at h
        split at h
        · rename_i h9; rw [h9]; exact h
        · rename_i h9; rw [h9]; exact h
        · rename_i h9; rw [h9]; exact h
        · simp at h
      unfold sSlice at h
      split at h
      · rename_i h9; rw [h9] at hsl ⊢; exact hsl
      · rename_i h9; rw [h9] at hsl ⊢; exact hsl
      · rename_i h9; rw [h9] at hsl ⊢; exact hsl
      · simp at h
    · exact old rfl h
  · rename_i t l c ho
    split at h
    · rename_i sz b z hk
      obtain ⟨e, ti, h1, h2, h3, h4, h5, h6, h7, rfl, rfl⟩ := elemK_ok hk
      simp only [sI, SX.of_at, sMake] at h
      simp only [aop, ho, aMakeSlice, h1, h3]
      split at h
      · rename_i l' c' hl hc
        simp only [hl, hc, h7, if_false, h4, h5, h6, and_self, if_true]
        exact h
      · simp at h
    · exact old rfl h
  · rename_i t ho; simp only [sI] at h; simp only [aop, ho]; exact h
  · rename_i f first cap ho; simp only [sI, map_of] at h; simp only [aop, ho]; exact h
  · rename_i t i ho; simp only [sI, SX.of_at] at h; simp only [aop, ho]; exact h
  · rename_i t parts ho
    split at h
    · rename_i fs z h1 h2
      split at h
      · rename_i h3
        split at h
        · rename_i ps h4
          simp only [sI] at h
          simp only [aop, ho, aBuild, h1, h2, h3, if_true]
          have := sBuild_ok (T := T) parts.toList ps z h4
          rw [this]
          exact h
        · exact old rfl h
      · exact old rfl h
    · exact old rfl h
  · rename_i t len parts ho
    split at h
    · rename_i sz b z hk
      obtain ⟨e, ti, h1, h2, h3, h4, h5, h6, h7, rfl, rfl⟩ := elemK_ok hk
      split at h
      · rename_i hc
        obtain ⟨rfl, hc⟩ := hc
        simp only [sI, SX.at] at h
        simp only [aop, ho, aBuildSlice, h1, h3]
        rw [List.isEmpty_iff] at hc
        rw [if_neg (by omega), if_pos trivial, hc]
        exact h
      split at h
      · rename_i hc
        simp only [sI, pmap_of, sBslice] at h
        simp only [aop, ho, aBuildSlice, h1, h3]
        rw [if_neg (by omega), if_neg hc.2, if_neg h7]
        simp only [h4, h5, h6, and_self, if_true]
        exact h
      · exact old rfl h
    · exact old rfl h
  · rename_i b args ats ho
    split at h
    · rename_i x hargs
      split at h
      · rename_i hsz
        simp only [aop, ho, hargs, hsz, if_true, aLen]
        split at h
        · rename_i e hu
          simp only [sI, SX.of_at] at h
          simp only [hu]; exact h
        · rename_i hu
          simp only [sI, SX.of_at] at h
          simp only [hu]
          exact h
        · have := old rfl h
          simpa only [aop, ho, hargs, hsz, if_true, aLen] using this
      · exact old rfl h
    · rename_i s x hargs
      split at h
      · rename_i hsz
        split at h
        · rename_i sz b z hk
          obtain ⟨e, ti, h1, h2, h3, h4, h5, h6, h7, rfl, rfl⟩ := elemK_ok hk
          simp only [sI, SX.of_at] at h
          simp only [aop, ho, hargs]
          rw [if_pos hsz]
          unfold sApp at h
          split at h
          · rename_i xs rd' hel
            simp only [aAppend, h1, hel, h3]
            have hz : (zeroCells P e).map List.length = some ti.size := by rw [h4]; simp [h5]
            split at h
            · rename_i hemp; rw [if_pos hemp]; exact h
            · rename_i hemp
              rw [if_neg hemp]
              split at h
              · simp at h
              · rename_i hall
                rw [if_neg (by
                  rintro (h9 | h9 | h9)
                  · exact h7 h9
                  · exact h9 hz
                  · exact hall h9)]
                exact h
          · simp at h
        · exact old rfl h
      · exact old rfl h
    · rename_i x y hargs
      simp only [sI, SX.of_at] at h
      simp only [aop, ho]
      split at h
      · rename_i k a k' b hx hy
        have := aPure_mm (P := P) (T := T) ho hargs hx hy (.inr ⟨rfl, rfl⟩)
        rw [this]; exact h
      · simp at h
    · rename_i x y hargs
      simp only [sI, SX.of_at] at h
      simp only [aop, ho]
      split at h
      · rename_i k a k' b hx hy
        have := aPure_mm (P := P) (T := T) ho hargs hx hy (.inl ⟨rfl, rfl⟩)
        rw [this]; exact h
      · simp at h
    · exact old rfl h
  · rename_i s d x ho
    split at h
    · rename_i k0 k hs hd
      simp only [sI, SX.of_at] at h
      simp only [aop, ho]
      split at h
      · rename_i k' a hx
        have hb : ¬ (bytesConv P s d = true) := by simp [bytesConv, hs, hd]
        rw [if_neg hb, aPure_conv ho hs hd hx]; exact h
      · simp at h
    · exact old rfl h
  · rename_i op t x y u ho
    split at h
    · rename_i k hk
      have hsome : (nilKind P t).isSome = true := by rw [hk]; rfl
      split at h
      · simp only [sI, SX.of_at] at h
        simp only [aop, ho]
        rw [if_pos hsome, aNil_eq hk]
        split at h
        · rename_i b hb; rw [hb]; simpa using h
        · simp at h
      · simp only [sI, SX.of_at] at h
        simp only [aop, ho]
        rw [if_pos hsome, aNil_eq hk]
        split at h
        · rename_i b hb; rw [hb]; simpa using h
        · simp at h
      · exact old rfl h
    · rename_i hk
      have hnone : ¬ ((nilKind P t).isSome = true) := by rw [hk]; simp
      split at h
      · split at h
        · rename_i l hs
          simp only [sI, SX.of_at] at h
          simp only [aop, ho]
          rw [if_neg hnone]
          exact aPure_sh ho hs h
        · simp only [sI, SX.of_at, sArith] at h
          simp only [aop, ho]
          split at h
          · rename_i k a k' b hx hy
            split at h
            · rename_i hkk
              subst hkk
              simp only [Option.map_eq_some_iff] at h
              obtain ⟨r, hr, h⟩ := h
              rw [if_neg hnone, aPure_arith ho hx hy hr]; exact congrArg some h
            · simp at h
          · simp at h
      · simp only [sI, SX.of_at] at h
        simp only [aop, ho]
        rw [if_neg hnone]
        exact aPure_sop ho h
      · rename_i hu
        split at h
        · simp only [sI, SX.of_at] at h
          simp only [aop, ho]
          split at h
          · rename_i a b hx hy
            rw [if_neg hnone, aPure_beq ho hu hx hy (.inl ⟨rfl, rfl⟩)]; simpa using h
          · simp at h
        · simp only [sI, SX.of_at] at h
          simp only [aop, ho]
          split at h
          · rename_i a b hx hy
            rw [if_neg hnone, aPure_beq ho hu hx hy (.inr ⟨rfl, rfl⟩)]; simpa using h
          · simp at h
        · exact old rfl h
      · exact old rfl h
  · rename_i t x ho
    simp only [sI, SX.of_at] at h
    simp only [aop, ho]
    split at h
    · rename_i b hb; rw [aPure_not ho hb]; exact h
    · simp at h
  · rename_i t x i ho
    split at h
    · rename_i hu
      simp only [sI, SX.of_at] at h
      simp only [aop, ho]
      exact aPure_sidx ho hu h
    · exact old rfl h
  · exact old rfl h

theorem loadF_ok {P : Program} {sz : Option Nat} {a : SX} {T : Env} {H : View} {n : Nat} {v : V} {eff : Eff} {rd : List Nat} (h : sI P (.loadF sz a) T H n = some (v, eff, rd)) : sI P (.load sz a) T H n = some (v, eff, rd) := by
  simp only [sI] at h
  simp only [sI, sLoad]
  split at h
  · rename_i e j ha; rw [ha]; exact h
  · simp at h

/-- From bytes to a text; from a text to bytes. -/
def toStr (P : Program) (s d : TypeId) : Bool := match P.underlying s, P.underlying d with
  | some (.slice e), some .string => (match P.underlying e with | some (.int .u8) => true | _ => false)
  | _, _ => false
def toBytes (P : Program) (s d : TypeId) : Bool := match P.underlying s, P.underlying d with
  | some .string, some (.slice e) => (match P.underlying e with | some (.int .u8) => true | _ => false)
  | _, _ => false

theorem toStr_inv {P : Program} {s d : TypeId} (h : toStr P s d = true) : ∃ e, P.underlying s = some (.slice e) ∧ P.underlying d = some .string ∧ P.underlying e = some (.int .u8) := by
  unfold toStr at h
  split at h
  · rename_i e h1 h2
    split at h
    · rename_i h3; exact ⟨e, h1, h2, h3⟩
    · simp at h
  · simp at h

theorem toBytes_inv {P : Program} {s d : TypeId} (h : toBytes P s d = true) : ∃ e, P.underlying s = some .string ∧ P.underlying d = some (.slice e) ∧ P.underlying e = some (.int .u8) := by
  unfold toBytes at h
  split at h
  · rename_i e h1 h2
    split at h
    · rename_i h3; exact ⟨e, h1, h2, h3⟩
    · simp at h
  · simp at h

theorem strF_ok {P : Program} {s d ty : TypeId} {x : Operand} {T : Env} {H : View} {n : Nat} {v : V} {eff : Eff} {rd : List Nat} (hc : toStr P s d = true) (h : sI P (.strF (SX.of x)) T H n = some (v, eff, rd)) : sI P (.old (.convert s d x) ty) T H n = some (v, eff, rd) := by
  obtain ⟨e, h1, h2, h3⟩ := toStr_inv hc
  simp only [sI, SX.of_at] at h
  simp only [sI, aop, oper, bytesConv, h1, if_true, aConvert, h2, h3]
  split at h
  · rename_i es hx
    rw [hx]
    simp only [elemsOf, lenV]
    exact h
  · simp at h

end Gv
