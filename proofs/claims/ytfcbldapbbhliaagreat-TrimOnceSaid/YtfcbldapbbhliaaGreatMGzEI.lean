/-
  Part 9 of the proof: what the machine does and what the functions answer.
  Conditions: those that each lemma names.
-/
import Derived.Test.YtfcbldapbbhliaaGreatMGzEH
set_option linter.unusedSimpArgs false
set_option linter.unusedVariables false

/-
  What a grammar is, reduced: the document's function.
  Conditions: lists that are no longer than an int says, numbers that are ints.
-/
set_option linter.unusedSimpArgs false
set_option maxRecDepth 100000
namespace Gv
open Go Go.Proofs

def B_gerundref11_Reduce_0 : SC :=
  .seq (.seq (.region false [⟨none, [((some 42), .op (.mov (.tmp 9))), ((some 43), .op (.mov (.tmp 8))), ((some 44), .op (.len (.tmp 43))), ((some 45), .op (.arith .lss (.tmp 42) (.tmp 44)))]⟩]) <|
  .cond (.tmp 45) (.skip) (.exit 0)) <|
  .seq (.block 1 (.region false [⟨none, [((some 48), .op (.mov (.tmp 8))), ((some 49), .op (.mov (.tmp 9))), ((some 50), .op (.idx 1 (.tmp 48) (.tmp 49))), (none, .op (.store 1 (.tmp 50) (.val (.val (.int .i64 (-1))))))]⟩])) <|
  .region false [⟨none, [((some 46), .op (.mov (.tmp 9))), ((some 47), .op (.arith .add (.tmp 46) (.val (.val (.int .i64 1))))), ((some 9), .op (.mov (.tmp 47)))]⟩]
def B_gerundref11_Reduce_1 : SC :=
  .seq (.seq (.region false [⟨none, [((some 51), .op (.mov (.tmp 11))), ((some 52), .op (.addr 2 (.tmp 1))), ((some 53), .op (.load none (.tmp 52))), ((some 54), .op (.len (.tmp 53))), ((some 55), .op (.arith .lss (.tmp 51) (.tmp 54)))]⟩]) <|
  .cond (.tmp 55) (.skip) (.exit 2)) <|
  .seq (.block 3 (.seq (.region false [⟨none, [((some 58), .op (.addr 2 (.tmp 1))), ((some 59), .op (.load none (.tmp 58))), ((some 60), .op (.mov (.tmp 11))), ((some 61), .op (.idx 3 (.tmp 59) (.tmp 60))), ((some 62), .op (.load (some 3) (.tmp 61))), ((some 12), .op (.alloc [(.val (.int .i64 0)), (.emp 1), (.val (.int .i64 0))])), (none, .op (.store 3 (.tmp 12) (.tmp 62)))]⟩]) <|
  .seq (.seq (.region false [⟨none, [((some 63), .op (.mov (.tmp 6))), ((some 64), .op (.addr 0 (.tmp 12))), ((some 65), .op (.load none (.tmp 64))), ((some 66), .op (.idx 1 (.tmp 63) (.tmp 65))), ((some 67), .op (.load none (.tmp 66))), ((some 68), .op (.not (.tmp 67))), ((some 69), .op (.mov (.tmp 68)))]⟩, ⟨(some (69, false)), [((some 70), .op (.addr 1 (.tmp 12))), ((some 71), .op (.load none (.tmp 70))), ((some 72), .op (.mov (.tmp 5))), ((some 73), .call (.val (.fn 49 [] [])) [(.tmp 71), (.tmp 72), (.val (.val (.bool true)))]), ((some 74), .op (.not (.tmp 73)))]⟩, ⟨none, [((some 75), .op (.pick (.tmp 69) (.val (.val (.bool true))) (.tmp 74)))]⟩]) <|
  .cond (.tmp 75) (.exit 3) (.skip)) <|
  .seq (.region false [⟨none, [((some 76), .op (.mov (.tmp 10))), ((some 77), .op (.mov (.tmp 11))), ((some 78), .op (.bslice 1 1 [(.val (.int .i64 0))] [(0, (.tmp 77))])), ((some 79), .op (.app 1 8 (.tmp 76) (.tmp 78))), ((some 10), .op (.mov (.tmp 79)))]⟩]) <|
  .seq (.region false [⟨none, [((some 80), .op (.mov (.tmp 8))), ((some 81), .op (.addr 0 (.tmp 12))), ((some 82), .op (.load none (.tmp 81))), ((some 83), .op (.idx 1 (.tmp 80) (.tmp 82))), ((some 84), .op (.load none (.tmp 83))), ((some 85), .op (.arith .lss (.tmp 84) (.val (.val (.int .i64 0)))))]⟩]) <|
  .cond (.tmp 85) (.seq (.region false [⟨none, [((some 86), .op (.mov (.tmp 8))), ((some 87), .op (.addr 0 (.tmp 12))), ((some 88), .op (.load none (.tmp 87))), ((some 89), .op (.addr 1 (.tmp 7))), ((some 90), .op (.load none (.tmp 89))), ((some 91), .op (.len (.tmp 90))), ((some 92), .op (.idx 1 (.tmp 86) (.tmp 88))), (none, .op (.store 1 (.tmp 92) (.tmp 91)))]⟩]) <|
  .region false [⟨none, [((some 93), .op (.addr 1 (.tmp 7))), ((some 94), .op (.load none (.tmp 93))), ((some 95), .op (.addr 1 (.tmp 1))), ((some 96), .op (.load none (.tmp 95))), ((some 97), .op (.addr 0 (.tmp 12))), ((some 98), .op (.load none (.tmp 97))), ((some 99), .op (.idx 1 (.tmp 96) (.tmp 98))), ((some 100), .op (.load none (.tmp 99))), ((some 101), .op (.bslice 1 1 [(.val (.string ⟨#[]⟩))] [(0, (.tmp 100))])), ((some 102), .op (.app 1 16 (.tmp 94) (.tmp 101))), ((some 103), .op (.addr 1 (.tmp 7))), (none, .op (.store 1 (.tmp 103) (.tmp 102)))]⟩]) (.skip))) <|
  .region false [⟨none, [((some 56), .op (.mov (.tmp 11))), ((some 57), .op (.arith .add (.tmp 56) (.val (.val (.int .i64 1))))), ((some 11), .op (.mov (.tmp 57)))]⟩]
def B_gerundref11_Reduce_2 : SC :=
  .seq (.seq (.region false [⟨none, [((some 126), .op (.mov (.tmp 16))), ((some 127), .op (.addr 1 (.tmp 14))), ((some 128), .op (.load none (.tmp 127))), ((some 129), .op (.len (.tmp 128))), ((some 130), .op (.arith .lss (.tmp 126) (.tmp 129)))]⟩]) <|
  .cond (.tmp 130) (.skip) (.exit 6)) <|
  .seq (.block 7 (.seq (.region false [⟨none, [((some 133), .op (.addr 1 (.tmp 14))), ((some 134), .op (.load none (.tmp 133))), ((some 135), .op (.mov (.tmp 16))), ((some 136), .op (.idx 1 (.tmp 134) (.tmp 135))), ((some 137), .op (.load none (.tmp 136))), ((some 17), .op (.mov (.tmp 137)))]⟩]) <|
  .seq (.seq (.region false [⟨none, [((some 138), .op (.mov (.tmp 17))), ((some 139), .op (.arith .lss (.tmp 138) (.val (.val (.int .i64 0)))))]⟩]) <|
  .cond (.tmp 139) (.region false [⟨none, [((some 140), .op (.mov (.tmp 8))), ((some 141), .op (.mov (.tmp 17))), ((some 142), .op (.arith .sub (.val (.val (.int .i64 (-1)))) (.tmp 141))), ((some 143), .op (.idx 1 (.tmp 140) (.tmp 142))), ((some 144), .op (.load none (.tmp 143))), ((some 145), .op (.arith .sub (.val (.val (.int .i64 (-1)))) (.tmp 144))), ((some 17), .op (.mov (.tmp 145)))]⟩]) (.skip)) <|
  .region false [⟨none, [((some 146), .op (.addr 1 (.tmp 15))), ((some 147), .op (.load none (.tmp 146))), ((some 148), .op (.mov (.tmp 17))), ((some 149), .op (.bslice 1 1 [(.val (.int .i64 0))] [(0, (.tmp 148))])), ((some 150), .op (.app 1 8 (.tmp 147) (.tmp 149))), ((some 151), .op (.addr 1 (.tmp 15))), (none, .op (.store 1 (.tmp 151) (.tmp 150)))]⟩])) <|
  .region false [⟨none, [((some 131), .op (.mov (.tmp 16))), ((some 132), .op (.arith .add (.tmp 131) (.val (.val (.int .i64 1))))), ((some 16), .op (.mov (.tmp 132)))]⟩]
def B_gerundref11_Reduce_3 : SC :=
  .seq (.seq (.region false [⟨none, [((some 104), .op (.mov (.tmp 13))), ((some 105), .op (.mov (.tmp 10))), ((some 106), .op (.len (.tmp 105))), ((some 107), .op (.arith .lss (.tmp 104) (.tmp 106)))]⟩]) <|
  .cond (.tmp 107) (.skip) (.exit 4)) <|
  .seq (.block 5 (.seq (.region false [⟨none, [((some 110), .op (.addr 2 (.tmp 1))), ((some 111), .op (.load none (.tmp 110))), ((some 112), .op (.mov (.tmp 10))), ((some 113), .op (.mov (.tmp 13))), ((some 114), .op (.idx 1 (.tmp 112) (.tmp 113))), ((some 115), .op (.load none (.tmp 114))), ((some 116), .op (.idx 3 (.tmp 111) (.tmp 115))), ((some 117), .op (.load (some 3) (.tmp 116))), ((some 14), .op (.alloc [(.val (.int .i64 0)), (.emp 1), (.val (.int .i64 0))])), (none, .op (.store 3 (.tmp 14) (.tmp 117)))]⟩]) <|
  .seq (.region false [⟨none, [((some 118), .op (.mov (.tmp 8))), ((some 119), .op (.addr 0 (.tmp 14))), ((some 120), .op (.load none (.tmp 119))), ((some 121), .op (.idx 1 (.tmp 118) (.tmp 120))), ((some 122), .op (.load none (.tmp 121))), ((some 123), .op (.addr 2 (.tmp 14))), ((some 124), .op (.load none (.tmp 123))), ((some 125), .op (.build [(.val (.int .i64 0)), (.emp 1), (.val (.int .i64 0))] [(0, 1, (.tmp 122)), (2, 1, (.tmp 124))])), ((some 15), .op (.alloc [(.val (.int .i64 0)), (.emp 1), (.val (.int .i64 0))])), (none, .op (.store 3 (.tmp 15) (.tmp 125)))]⟩]) <|
  .seq (.seq (.region false [⟨none, [((some 16), .op (.mov (.val (.val (.int .i64 0)))))]⟩]) <|
  .block 6 (.loop B_gerundref11_Reduce_2)) <|
  .region false [⟨none, [((some 152), .op (.addr 2 (.tmp 7))), ((some 153), .op (.load none (.tmp 152))), ((some 154), .op (.load (some 3) (.tmp 15))), ((some 155), .op (.bslice 1 3 [(.val (.int .i64 0)), (.emp 1), (.val (.int .i64 0))] [(0, (.tmp 154))])), ((some 156), .op (.app 3 40 (.tmp 153) (.tmp 155))), ((some 157), .op (.addr 2 (.tmp 7))), (none, .op (.store 1 (.tmp 157) (.tmp 156)))]⟩])) <|
  .region false [⟨none, [((some 108), .op (.mov (.tmp 13))), ((some 109), .op (.arith .add (.tmp 108) (.val (.val (.int .i64 1))))), ((some 13), .op (.mov (.tmp 109)))]⟩]
def S_gerundref11_Reduce : SF := ⟨.seq (.region false [⟨none, [((some 1), .op (.frz (.tmp 0))), ((some 2), .op (.alloc [(.emp 1), (.emp 1), (.emp 1), (.val (.int .i64 0))])), ((some 3), .op (.mov (.val (.emp 1)))), ((some 4), .op (.mov (.val (.val (.int .i64 0)))))]⟩]) <|
  .seq (.seq (.region false [⟨none, [((some 18), .op (.load (some 4) (.tmp 1))), ((some 19), .call (.val (.fn 28 [] [])) [(.tmp 18)]), ((some 20), .op (.not (.tmp 19)))]⟩]) <|
  .cond (.tmp 20) (.seq (.region false [⟨none, [((some 21), .op (.build [(.emp 1), (.emp 1), (.emp 1), (.val (.int .i64 0))] [])), (none, .op (.store 4 (.tmp 2) (.tmp 21))), ((some 3), .op (.mov (.val (.emp 1)))), ((some 4), .op (.mov (.val (.val (.int .i64 1)))))]⟩]) <|
  .ret) (.skip)) <|
  .seq (.region true [⟨none, [((some 22), .op (.load (some 4) (.tmp 1))), ((some 23), .call (.val (.fn 18 [] [])) [(.tmp 22)]), ((some 24), .op (.load (some 4) (.tmp 1))), ((some 25), .call (.val (.fn 20 [] [])) [(.tmp 24)]), ((some 5), .op (.mov (.tmp 23))), ((some 6), .op (.mov (.tmp 25)))]⟩]) <|
  .seq (.seq (.region false [⟨none, [((some 26), .op (.mov (.tmp 5))), ((some 27), .op (.addr 3 (.tmp 1))), ((some 28), .op (.load none (.tmp 27))), ((some 29), .op (.idx 1 (.tmp 26) (.tmp 28))), ((some 30), .op (.load none (.tmp 29))), ((some 31), .op (.not (.tmp 30)))]⟩]) <|
  .cond (.tmp 31) (.seq (.region false [⟨none, [((some 32), .op (.build [(.emp 1), (.emp 1), (.emp 1), (.val (.int .i64 0))] [])), (none, .op (.store 4 (.tmp 2) (.tmp 32))), ((some 3), .op (.mov (.val (.emp 1)))), ((some 4), .op (.mov (.val (.val (.int .i64 9)))))]⟩]) <|
  .ret) (.skip)) <|
  .seq (.region false [⟨none, [((some 33), .op (.mov (.val (.emp 2)))), ((some 34), .op (.addr 0 (.tmp 1))), ((some 35), .op (.load none (.tmp 34))), ((some 36), .op (.app 3 32 (.tmp 33) (.tmp 35))), ((some 37), .op (.build [(.emp 1), (.emp 1), (.emp 1), (.val (.int .i64 0))] [(0, 1, (.tmp 36))])), ((some 7), .op (.alloc [(.emp 1), (.emp 1), (.emp 1), (.val (.int .i64 0))])), (none, .op (.store 4 (.tmp 7) (.tmp 37)))]⟩]) <|
  .seq (.region false [⟨none, [((some 38), .op (.addr 1 (.tmp 1))), ((some 39), .op (.load none (.tmp 38))), ((some 40), .op (.len (.tmp 39))), ((some 41), .op (.make 1 8 [(.val (.int .i64 0))] (.tmp 40) (.tmp 40))), ((some 8), .op (.mov (.tmp 41)))]⟩]) <|
  .seq (.seq (.region false [⟨none, [((some 9), .op (.mov (.val (.val (.int .i64 0)))))]⟩]) <|
  .block 0 (.loop B_gerundref11_Reduce_0)) <|
  .seq (.region false [⟨none, [((some 10), .op (.mov (.val (.emp 1))))]⟩]) <|
  .seq (.seq (.region false [⟨none, [((some 11), .op (.mov (.val (.val (.int .i64 0)))))]⟩]) <|
  .block 2 (.loop B_gerundref11_Reduce_1)) <|
  .seq (.seq (.region false [⟨none, [((some 13), .op (.mov (.val (.val (.int .i64 0)))))]⟩]) <|
  .block 4 (.loop B_gerundref11_Reduce_3)) <|
  .seq (.region false [⟨none, [((some 158), .op (.mov (.tmp 8))), ((some 159), .op (.addr 3 (.tmp 1))), ((some 160), .op (.load none (.tmp 159))), ((some 161), .op (.idx 1 (.tmp 158) (.tmp 160))), ((some 162), .op (.load none (.tmp 161))), ((some 163), .op (.addr 3 (.tmp 7))), (none, .op (.store 1 (.tmp 163) (.tmp 162)))]⟩]) <|
  .seq (.region false [⟨none, [((some 164), .op (.load (some 4) (.tmp 7))), ((some 165), .op (.mov (.tmp 10))), (none, .op (.store 4 (.tmp 2) (.tmp 164))), ((some 3), .op (.mov (.tmp 165))), ((some 4), .op (.mov (.val (.val (.int .i64 0)))))]⟩]) <|
  .ret,
  [.cell 2 (some 4), .tmp 3, .tmp 4], 166⟩
theorem S_gerundref11_Reduce_ok : compF Tryz.prog 25 [1] = some S_gerundref11_Reduce := by kernel_rfl


abbrev intsE (l : List Int) : List (List V) := l.map fun x => [gi x]
abbrev strsE (l : List ByteArray) : List (List V) := l.map fun s => [gs s]
theorem ints_get {l : List Int} {i : Nat} (h : i < l.length) : (intsE l).getD i [] = [gi l[i]] := by simp [List.getD_eq_getElem?_getD, h]
theorem ints_set (l : List Int) (i : Nat) (x : Int) : (intsE l).set i [gi x] = intsE (l.set i x) := by simp [List.map_set]
theorem ints_ne {l : List Int} (h : 0 < l.length) : intsE l ≠ [] := by intro e; rw [List.map_eq_nil_iff] at e; rw [e] at h; simp at h
theorem ints_rep (n : Nat) (x : Int) : List.replicate n [gi x] = intsE (List.replicate n x) := by simp

theorem take_set_snoc {α : Type} {x : α} : ∀ {l : List α} {i : Nat}, i < l.length → (l.set i x).take (i + 1) = l.take i ++ [x]
  | y :: l, 0, _ => by simp
  | y :: l, i + 1, h => by
    have := take_set_snoc (x := x) (l := l) (i := i) (by simpa using h)
    simp only [List.set_cons_succ, List.take_succ_cons, this, List.cons_append]

def toL (n : Nat) (o : List Int) : List Int := (List.range n).map fun (x : Nat) => numO o (x : Int)
theorem toL_nil (n : Nat) : toL n [] = List.replicate n (-1) := by
  apply List.ext_getElem
  · simp [toL]
  · intro i h1 h2
    simp [toL, numO, idxF]
theorem toL_get {n : Nat} {o : List Int} {x : Int} (h0 : 0 ≤ x) (h1 : x < n) : (toL n o)[x.toNat]'(by simp [toL]; omega) = numO o x := by
  simp [toL, show ((x.toNat : Nat) : Int) = x by omega]
theorem toL_set {n : Nat} {o : List Int} {x : Int} (h0 : 0 ≤ x) (h1 : x < n) (hx : x ∉ o) : (toL n o).set x.toNat o.length = toL n (o ++ [x]) := by
  apply List.ext_getElem
  · simp [toL]
  · intro i h2 h3
    rw [List.getElem_set]
    simp only [toL, List.getElem_map, List.getElem_range]
    rw [numO_snoc hx]
    by_cases e : x.toNat = i
    · rw [if_pos e, if_pos (by omega)]
    · rw [if_neg e, if_neg (by omega)]

theorem pc_Productive11' (g : Gram) (hg : g.Ok) : PCall Tryz.prog 18 [.agg (encG g)] (encB (grown09 g true)) := pc_Productive11 g hg

/-- What was built of rules: where each one's right side lies. -/
abbrev Built := List (V × Rule)
def builtE (b : Built) : List (List V) := b.map fun x => [gi x.2.left, x.1, gi x.2.prec]
def builtL (b : Built) : List Ent := b.map fun x => (x.1, 1, intsE x.2.right)

theorem frn_rules {h : Heap} {u : V} {b : Built} (ho : OwnA h.view u 3 (builtE b)) (hb : ∀ x ∈ builtL b, OwnA h.view x.1 x.2.1 x.2.2) : FrN h u (.fro ((b.map (·.2)).map encR)) := by
  refine FrN.own ho (by simp [builtE]) (fun i hi => ?_) (fun i j hi hj => ?_)
  all_goals
    simp only [builtE, List.length_map] at hi
    have e1 : (builtE b).getD i [] = [gi b[i].2.left, b[i].1, gi b[i].2.prec] := by simp [builtE, List.getD_eq_getElem?_getD, hi]
    have e2 : ((b.map (·.2)).map encR).getD i [] = encR b[i].2 := by simp [List.getD_eq_getElem?_getD, hi]
  · rw [e1, e2]; rfl
  · rw [e1, e2]
    rw [e2] at hj
    have hm : b[i] ∈ b := List.getElem_mem _
    have ho := hb (b[i].1, 1, intsE b[i].2.right) (List.mem_map.2 ⟨_, hm, rfl⟩)
    match j, hj with
    | 0, _ => exact .val _
    | 1, _ => exact frn_ints ho
    | 2, _ => exact .val _
    | n + 3, hj => exact absurd hj (by simp only [encR, List.length_cons, List.length_nil]; omega)

theorem frn_strs {h : Heap} {u : V} {l : List ByteArray} (ho : OwnA h.view u 1 (strsE l)) : FrN h u (encS l) := FrN.vals (f := Value.string) ho
theorem frn_terms {h : Heap} {u : V} {l : List Term} (ho : OwnA h.view u 3 (l.map encT)) : FrN h u (encTs l) := by
  refine FrN.own ho rfl (fun _ _ => rfl) (fun i j hi hj => ?_)
  simp only [List.length_map] at hi
  have e1 : (l.map encT).getD i [] = encT l[i] := by simp [List.getD_eq_getElem?_getD, hi]
  rw [e1] at hj ⊢
  match j, hj with
  | 0, _ => exact .val _
  | 1, _ => exact .val _
  | 2, _ => exact .val _
  | n + 3, hj => exact absurd hj (by simp only [encT, List.length_cons, List.length_nil]; omega)

/-- What the reducers answer. -/
def outR (x : Gram × List Int × Int) : V := .tup [.agg (encG x.1), encI x.2.1, gi x.2.2]
theorem frn_none {h : Heap} {e : Int} {k1 k2 k3 k4 : Nat} : FrN h (.tup [.agg [.emp k1, .emp k2, .emp k3, gi 0], .emp k4, gi e]) (outR (noG, [], e)) := by
  refine .tup _ _ rfl fun i hi => ?_
  match i, hi with
  | 0, _ =>
    refine .agg _ _ rfl fun j hj => ?_
    match j, hj with
    | 0, _ => exact .emp _
    | 1, _ => exact .emp _
    | 2, _ => exact .emp _
    | 3, _ => exact .val _
    | n + 4, hj => exact absurd hj (by simp only [List.length_cons, List.length_nil]; omega)
  | 1, _ => exact .emp _
  | 2, _ => exact .val _
  | n + 3, hi => exact absurd hi (by simp only [List.length_cons, List.length_nil]; omega)

/-- What holds between two rules of the first walk through them. -/
def RedI (g : Gram) (p q : List Bool) (b2 b7 b8 : Nat) (u0 : V) (i : Nat) (T : Env) (H : View) : Prop :=
  (∃ u1 u3 : V, T 10 = u3 ∧ (∀ x ∈ ordO p q (g.rules.take i), 0 ≤ x ∧ x < g.nons.length) ∧ (ordO p q (g.rules.take i)).Nodup ∧ (ordO p q (g.rules.take i)).length ≤ i ∧
    Owns H [(.sl b7 0 1 4, 4, [[u0, u1, .emp 1, gi 0]]), (.sl b8 0 g.nons.length 1, 1, intsE (toL g.nons.length (ordO p q (g.rules.take i)))), (u3, 1, intsE (keptI p q (g.rules.take i) 0)),
      (u1, 1, strsE ((ordO p q (g.rules.take i)).map fun x => g.nons.getD x.toNat ⟨#[]⟩)), (u0, 3, g.terms.map encT), (.sl b2 0 1 4, 4, [[.emp 1, .emp 1, .emp 1, gi 0]])]) ∧
  T 1 = .fptr (encG g) 0 ∧ T 2 = .ptr b2 0 0 ∧ T 5 = encB p ∧ T 6 = encB q ∧ T 7 = .ptr b7 0 0 ∧ T 8 = .sl b8 0 g.nons.length 1 ∧ T 11 = gi i

/-- What holds between two rules of the second walk. -/
def RedJ (g : Gram) (p q : List Bool) (b2 b7 b8 : Nat) (u0 u1 u3 : V) (o kl : List Int) (i : Nat) (T : Env) (H : View) : Prop :=
  (∃ (u2 : V) (bs : Built), bs.map (·.2) = ((g.rules.filter (keepR p q)).take i).map (redRule (numO o)) ∧
    Owns H ((.sl b7 0 1 4, 4, [[u0, u1, u2, gi 0]]) :: (.sl b8 0 g.nons.length 1, 1, intsE (toL g.nons.length o)) :: (u3, 1, intsE kl) ::
      (u1, 1, strsE (o.map fun x => g.nons.getD x.toNat ⟨#[]⟩)) :: (u0, 3, g.terms.map encT) :: (u2, 3, builtE bs) :: (.sl b2 0 1 4, 4, [[.emp 1, .emp 1, .emp 1, gi 0]]) :: builtL bs)) ∧
  T 1 = .fptr (encG g) 0 ∧ T 2 = .ptr b2 0 0 ∧ T 7 = .ptr b7 0 0 ∧ T 8 = .sl b8 0 g.nons.length 1 ∧ T 10 = u3 ∧ T 13 = gi i

/-- .. and between two symbols. -/
def RedK (g : Gram) (b2 b7 b8 b14 b15 : Nat) (u3 : V) (o : List Int) (r : Rule) (L : List Ent) (i k : Nat) (T : Env) (H : View) : Prop :=
  (∃ v : V, Owns H ((.sl b15 0 1 3, 3, [[gi (numO o r.left), v, gi r.prec]]) :: (v, 1, intsE ((redRule (numO o) r).right.take k)) :: (.sl b14 0 1 3, 3, [encR r]) :: L)) ∧
  T 1 = .fptr (encG g) 0 ∧ T 2 = .ptr b2 0 0 ∧ T 7 = .ptr b7 0 0 ∧ T 8 = .sl b8 0 g.nons.length 1 ∧ T 10 = u3 ∧ T 13 = gi i ∧ T 14 = .ptr b14 0 0 ∧ T 15 = .ptr b15 0 0 ∧ T 16 = gi k

theorem frn_out {h : Heap} {u0 u1 u2 u3 : V} {x : Gram × List Int × Int} {b : Built} (h0 : OwnA h.view u0 3 (x.1.terms.map encT)) (h1 : OwnA h.view u1 1 (strsE x.1.nons)) (h2 : OwnA h.view u2 3 (builtE b)) (hb : ∀ y ∈ builtL b, OwnA h.view y.1 y.2.1 y.2.2)
    (hr : b.map (·.2) = x.1.rules) (h3 : OwnA h.view u3 1 (intsE x.2.1)) : FrN h (.tup [.agg [u0, u1, u2, gi x.1.start], u3, gi x.2.2]) (outR x) := by
  refine .tup _ _ rfl fun i hi => ?_
  match i, hi with
  | 0, _ =>
    refine .agg _ _ rfl fun j hj => ?_
    match j, hj with
    | 0, _ => exact frn_terms h0
    | 1, _ => exact frn_strs h1
    | 2, _ => have := frn_rules h2 hb; rw [hr] at this; exact this
    | 3, _ => exact .val _
    | n + 4, hj => exact absurd hj (by simp only [List.length_cons, List.length_nil]; omega)
  | 1, _ => exact frn_ints h3
  | 2, _ => exact .val _
  | n + 3, hi => exact absurd hi (by simp only [List.length_cons, List.length_nil]; omega)

set_option maxHeartbeats 8000000 in
theorem pn_Reduce11 (g : Gram) (hg : g.Ok) : PNew Tryz.prog 25 [.agg (encG g)] (outR (reduce09 g)) := by
  refine PNew.of (gg_tree g) ?_
  refine MCall.of mixed S_gerundref11_Reduce_ok ?_
  simp (disch := omega) only [↓wr, ↓reduceIte, wq, eq_self, ne_eq, implies_true, oneV, intOp, goI, splice, sBuild, fillE, nilB, isNil, Nat.reduceEqDiff, Nat.reduceAdd, Nat.reduceLT, Nat.reduceLeDiff, Int.reduceNeg, Int.reduceToNat, reduceCtorEq, decide_true, decide_false, S_gerundref11_Reduce, encG, encS]
  intro b2
  try simp (disch := omega) only [↓wr, ↓reduceIte, wq, eq_self, ne_eq, implies_true, oneV, intOp, goI, splice, sBuild, fillE, nilB, isNil, Nat.reduceEqDiff, Nat.reduceAdd, Nat.reduceLT, Nat.reduceLeDiff, Int.reduceNeg, Int.reduceToNat, reduceCtorEq, decide_true, decide_false, encG, encS]
  refine CallG.pure (pc_Right09 g hg) (by kernel_rfl) ?_
  repeat' (first | (refine GoB.dec (fun _ => ?_) (fun _ => ?_)) | (refine GoB.eq (fun _ => ?_) (fun _ => ?_)) | (refine GoB.ne (fun _ => ?_) (fun _ => ?_)) | (refine GoB.split (fun _ => ?_) (fun _ => ?_)) | (simp (disch := omega) only [↓wr, ↓reduceIte, wq, eq_self, ne_eq, implies_true, oneV, intOp, goI, splice, sBuild, fillE, nilB, isNil, Nat.reduceEqDiff, Nat.reduceAdd, Nat.reduceLT, Nat.reduceLeDiff, Int.reduceNeg, Int.reduceToNat, reduceCtorEq, decide_true, decide_false, encG, encS, set_set]))
  · rename_i hr
    refine CallG.pure (pc_Productive11 g hg) (by kernel_rfl) ?_
    simp (disch := omega) only [↓wr, ↓reduceIte, wq, eq_self, ne_eq, implies_true, oneV, intOp, goI, splice, sBuild, fillE, nilB, isNil, Nat.reduceEqDiff, Nat.reduceAdd, Nat.reduceLT, Nat.reduceLeDiff, Int.reduceNeg, Int.reduceToNat, reduceCtorEq, decide_true, decide_false, encG, encS]
    refine CallG.pure (pn_Reachable11 g hg).pure (by kernel_rfl) ?_
    have hf := right09_fine hr
    have h3 := hf.start0
    have h4 := hf.start
    have hpl := grown09_len hr true
    have hql := reach09_len hr
    have hred := reduce09_pos hr
    generalize grown09 g true = p at hpl hred
    generalize reach09 g = q at hql hred
    have hps : p[g.start.toNat]? = some (p[g.start.toNat]'(by omega)) := List.getElem?_eq_getElem (by omega)
    have hpd : p.getD g.start.toNat false = p[g.start.toNat]'(by omega) := by simp [List.getD_eq_getElem?_getD, hps]
    generalize p[g.start.toNat]'(by omega) = s at hps hpd
    rw [hpd] at hred
    simp (disch := omega) only [↓wr, ↓reduceIte, wq, eq_self, ne_eq, implies_true, oneV, intOp, goI, splice, sBuild, fillE, nilB, isNil, Nat.reduceEqDiff, Nat.reduceAdd, Nat.reduceLT, Nat.reduceLeDiff, Int.reduceNeg, Int.reduceToNat, reduceCtorEq, decide_true, decide_false, encG, encS, encB, List.getElem?_map, hps]
    cases s with
    | false =>
      rw [if_neg (by simp)] at hred
      simp (disch := omega) only [↓wr, ↓reduceIte, wq, eq_self, ne_eq, implies_true, oneV, intOp, goI, splice, sBuild, fillE, nilB, isNil, Nat.reduceEqDiff, Nat.reduceAdd, Nat.reduceLT, Nat.reduceLeDiff, Int.reduceNeg, Int.reduceToNat, reduceCtorEq, decide_true, decide_false, encG, encS, set_set]
      rintro h' hh
      rw [hred]
      exact frn_none
    | true =>
      rw [if_pos rfl] at hred
      simp (disch := omega) only [↓wr, ↓reduceIte, wq, eq_self, ne_eq, implies_true, oneV, intOp, goI, splice, sBuild, fillE, nilB, isNil, Nat.reduceEqDiff, Nat.reduceAdd, Nat.reduceLT, Nat.reduceLeDiff, Int.reduceNeg, Int.reduceToNat, reduceCtorEq, decide_true, decide_false, encG, encS, set_set]
      have hN := hf.nons
      have hN1 := hf.nons1
      have hT := hf.terms
      have hR := hf.rules
      refine goApp_owns (L := [(.sl b2 0 1 4, 4, [[.emp 1, .emp 1, .emp 1, gi 0]])]) (Owns.emp (Owns.nil.new rfl 4 _)) (by simp [encT, cellOk]) (by unfold limit; simp; omega) (by unfold limit; simp; omega) ?_
      intro u0 H1 ho1 _
      have c0 := ho1.head.cells
      have k0 := ho1.head.cok
      simp (disch := omega) only [↓wr, ↓reduceIte, wq, eq_self, ne_eq, implies_true, oneV, intOp, goI, splice, sBuild, fillE, nilB, isNil, Nat.reduceEqDiff, Nat.reduceAdd, Nat.reduceLT, Nat.reduceLeDiff, Int.reduceNeg, Int.reduceToNat, reduceCtorEq, decide_true, decide_false, encG, encS, c0, k0]
      intro b7 hb7
      have ho2 := ho1.new hb7 4 [[u0, .emp 1, .emp 1, gi 0]]
      try simp (disch := omega) only [↓wr, ↓reduceIte, wq, eq_self, ne_eq, implies_true, oneV, intOp, goI, splice, sBuild, fillE, nilB, isNil, Nat.reduceEqDiff, Nat.reduceAdd, Nat.reduceLT, Nat.reduceLeDiff, Int.reduceNeg, Int.reduceToNat, reduceCtorEq, decide_true, decide_false, encG, encS, c0, k0, set_set]
      refine ⟨⟨by omega, by unfold limit; omega, by unfold limit; omega⟩, fun h => by omega, ?_⟩
      intro _ b8 hb8
      have hb87 := (dead_if hb8 arr_live).1
      have ho3 := ho2.new (n := b8) (by simp only [View.set, if_neg hb87]; exact (dead_if (dead_if hb8 arr_live).2 arr_live).2) 1 (intsE (List.replicate g.nons.length 0))
      try simp (disch := omega) only [↓wr, ↓reduceIte, wq, eq_self, ne_eq, implies_true, oneV, intOp, goI, splice, sBuild, fillE, nilB, isNil, Nat.reduceEqDiff, Nat.reduceAdd, Nat.reduceLT, Nat.reduceLeDiff, Int.reduceNeg, Int.reduceToNat, reduceCtorEq, decide_true, decide_false, encG, encS, c0, k0, set_set]
      refine LoopG.up g.nons.length (fun i T H => (∃ l : List Int, l.length = g.nons.length ∧ l.take i = List.replicate i (-1) ∧
        Owns H [(.sl b8 0 g.nons.length 1, 1, intsE l), (.sl b7 0 1 4, 4, [[u0, .emp 1, .emp 1, gi 0]]), (u0, 3, g.terms.map encT), (.sl b2 0 1 4, 4, [[.emp 1, .emp 1, .emp 1, gi 0]])]) ∧
        T 1 = .fptr (encG g) 0 ∧ T 2 = .ptr b2 0 0 ∧ T 5 = encB p ∧ T 6 = encB q ∧ T 7 = .ptr b7 0 0 ∧ T 8 = .sl b8 0 g.nons.length 1 ∧ T 9 = gi i) ?_ ?_
      · exact ⟨⟨List.replicate g.nons.length 0, by simp, by simp, by simpa [set_set] using ho3⟩, rfl, rfl, rfl, rfl, rfl, rfl, rfl⟩
      rintro i k T H2 hk ⟨⟨l, hl1, hl2, ho⟩, t1, t2, t5, t6, t7, t8, t9⟩
      simp (disch := omega) only [↓wr, ↓reduceIte, wq, eq_self, ne_eq, implies_true, oneV, intOp, goI, splice, sBuild, fillE, nilB, isNil, Nat.reduceEqDiff, Nat.reduceAdd, Nat.reduceLT, Nat.reduceLeDiff, Int.reduceNeg, Int.reduceToNat, reduceCtorEq, decide_true, decide_false, B_gerundref11_Reduce_0, t1, t2, t5, t6, t7, t8, t9]
      refine GoB.dec (fun hc => ?_) (fun hc => ?_)
      · have hne : intsE l ≠ [] := by intro e; rw [List.map_eq_nil_iff] at e; rw [e] at hl1; simp at hl1; omega
        have hb := (ho.obj hne).1
        have hbg := ints_get (show i < l.length by omega)
        simp (disch := omega) only [↓wr, ↓reduceIte, wq, eq_self, ne_eq, implies_true, oneV, intOp, goI, splice, sBuild, fillE, nilB, isNil, Nat.reduceEqDiff, Nat.reduceAdd, Nat.reduceLT, Nat.reduceLeDiff, Int.reduceNeg, Int.reduceToNat, reduceCtorEq, decide_true, decide_false, t1, t2, t5, t6, t7, t8, t9, hb, hbg, List.length_map]
        refine ⟨by omega, by omega, ?_⟩
        refine up_next hk (by omega) ⟨⟨l.set i (-1), by simp [hl1], ?_, ?_⟩, t1, t2, t5, t6, t7, t8, rfl⟩
        · rw [take_set_snoc (by omega), hl2, List.replicate_succ']
        · rw [ints_set]
          exact ho.put (by simp) (by simp [hl1])
      · rw [List.take_of_length_le (by omega)] at hl2
        rw [hl2] at ho
        have ei : i = g.nons.length := by omega
        subst ei
        simp (disch := omega) only [↓wr, ↓reduceIte, wq, eq_self, ne_eq, implies_true, oneV, intOp, goI, splice, sBuild, fillE, nilB, isNil, Nat.reduceEqDiff, Nat.reduceAdd, Nat.reduceLT, Nat.reduceLeDiff, Int.reduceNeg, Int.reduceToNat, reduceCtorEq, decide_true, decide_false, t1, t2, t5, t6, t7, t8, t9]
        have name_in : ∀ o : List Int, (o.map fun x => g.nons.getD x.toNat ⟨#[]⟩).length = o.length := fun o => by simp
        refine LoopG.up g.rules.length (RedI g p q b2 b7 b8 u0) ?_ ?_
        · refine ⟨⟨.emp 1, .emp 1, rfl, by simp [ordO], by simp [ordO], by simp [ordO], ?_⟩, t1, t2, t5, t6, t7, t8, rfl⟩
          have h4 := ((((ho.emp (k := 1) (sz := 1)).emp (k := 1) (sz := 1)).at 3 (by simp)).perm (rot3.symm.cons _))
          have e0 : ordO p q (g.rules.take 0) = [] := rfl
          rw [e0, toL_nil]
          exact h4
        clear ho t1 t2 t5 t6 t7 t8 t9 hl1 hl2
        rintro i k T H2 hk ⟨⟨u1, u3, t10, hin, hnd, holen, ho⟩, t1, t2, t5, t6, t7, t8, t11⟩
        simp (disch := omega) only [↓wr, ↓reduceIte, wq, eq_self, ne_eq, implies_true, oneV, intOp, goI, splice, sBuild, fillE, nilB, isNil, Nat.reduceEqDiff, Nat.reduceAdd, Nat.reduceLT, Nat.reduceLeDiff, Int.reduceNeg, Int.reduceToNat, reduceCtorEq, decide_true, decide_false, B_gerundref11_Reduce_1, t1, t2, t5, t6, t7, t8, t10, t11, encG]
        refine GoB.dec (fun hc => ?_) (fun hc => ?_)
        · have hg2 : g.rules[i]? = some (g.rules[i]'(by omega)) := List.getElem?_eq_getElem (by omega)
          have hmem : g.rules[i]'(by omega) ∈ g.rules := List.getElem_mem _
          have htk : g.rules.take (i + 1) = g.rules.take i ++ [g.rules[i]'(by omega)] := by rw [List.take_add_one, hg2]; rfl
          generalize g.rules[i]'(by omega) = r at hg2 hmem htk
          obtain ⟨hl1, hl2, hl3, hr6, hsy⟩ := hf.ruleIn hg hmem
          have hqs : q[r.left.toNat]? = some (q[r.left.toNat]'(by omega)) := List.getElem?_eq_getElem (by omega)
          have hqd : q.getD r.left.toNat false = q[r.left.toNat]'(by omega) := by simp [List.getD_eq_getElem?_getD, hqs]
          generalize q[r.left.toNat]'(by omega) = qs at hqs hqd
          simp (disch := omega) only [↓wr, ↓reduceIte, wq, eq_self, ne_eq, implies_true, oneV, intOp, goI, splice, sBuild, fillE, nilB, isNil, Nat.reduceEqDiff, Nat.reduceAdd, Nat.reduceLT, Nat.reduceLeDiff, Int.reduceNeg, Int.reduceToNat, reduceCtorEq, decide_true, decide_false, t1, t2, t5, t6, t7, t8, t10, t11, encG, encR, List.getElem?_map, hg2]
          intro b12 hb12
          have hoA := ho.new hb12 3 [encR r]
          try simp (disch := omega) only [↓wr, ↓reduceIte, wq, eq_self, ne_eq, implies_true, oneV, intOp, goI, splice, sBuild, fillE, nilB, isNil, Nat.reduceEqDiff, Nat.reduceAdd, Nat.reduceLT, Nat.reduceLeDiff, Int.reduceNeg, Int.reduceToNat, reduceCtorEq, decide_true, decide_false, t1, t2, t5, t6, t7, t8, t10, t11, encR, encI, encB, List.getElem?_map, hqs, set_set]
          have hskip : ∀ (T2 : Env) (H' : View), keepR p q r = false → H' = H2.set b12 (.arr 3 [encR r]) → T2 10 = u3 → T2 1 = .fptr (encG g) 0 → T2 2 = .ptr b2 0 0 → T2 5 = encB p → T2 6 = encB q → T2 7 = .ptr b7 0 0 → T2 8 = .sl b8 0 g.nons.length 1 → T2 11 = gi ((i : Int) + 1) →
              ∃ k', k' < k ∧ UpN g.rules.length k' (RedI g p q b2 b7 b8 u0) T2 H' := by
            intro T2 H' hkr hH' a10 a1 a2 a5 a6 a7 a8 a11
            have e1 : ordO p q (g.rules.take (i + 1)) = ordO p q (g.rules.take i) := by rw [htk, ordO_snoc, if_neg (by simp [hkr])]
            have e2 : keptI p q (g.rules.take (i + 1)) 0 = keptI p q (g.rules.take i) 0 := by rw [htk, keptI_append]; simp [keptI, hkr]
            refine up_next hk (by omega) ⟨⟨u1, u3, a10, by rw [e1]; exact hin, by rw [e1]; exact hnd, by rw [e1]; omega, by rw [e1, e2, hH']; exact hoA.tail⟩, a1, a2, a5, a6, a7, a8, by rw [a11]; rfl⟩
          cases qs with
          | false =>
            simp (disch := omega) only [↓wr, ↓reduceIte, wq, eq_self, ne_eq, implies_true, oneV, intOp, goI, splice, sBuild, fillE, nilB, isNil, Nat.reduceEqDiff, Nat.reduceAdd, Nat.reduceLT, Nat.reduceLeDiff, Int.reduceNeg, Int.reduceToNat, reduceCtorEq, decide_true, decide_false, t1, t2, t5, t6, t7, t8, t10, t11]
            refine hskip _ _ (by rw [keepR, hqd]; rfl) ?_ ?_ ?_ ?_ ?_ ?_ ?_ ?_ ?_
            all_goals first | exact t10 | exact t1 | exact t2 | exact t5 | exact t6 | exact t7 | exact t8 | rfl | (rw [set_set]; rfl)
          | true =>
            simp (disch := omega) only [↓wr, ↓reduceIte, wq, eq_self, ne_eq, implies_true, oneV, intOp, goI, splice, sBuild, fillE, nilB, isNil, Nat.reduceEqDiff, Nat.reduceAdd, Nat.reduceLT, Nat.reduceLeDiff, Int.reduceNeg, Int.reduceToNat, reduceCtorEq, decide_true, decide_false, t1, t2, t5, t6, t7, t8, t10, t11, encR, encI, encB]
            refine CallG.pure (pc_all r.right p true (hg.rule r hmem).2.2.1 (fun s hs => ⟨(hsy s hs).1, fun h => by rw [hpl]; exact (hsy s hs).2 h⟩)) (by kernel_rfl) ?_
            simp (disch := omega) only [↓wr, ↓reduceIte, wq, eq_self, ne_eq, implies_true, oneV, intOp, goI, splice, sBuild, fillE, nilB, isNil, Nat.reduceEqDiff, Nat.reduceAdd, Nat.reduceLT, Nat.reduceLeDiff, Int.reduceNeg, Int.reduceToNat, reduceCtorEq, decide_true, decide_false, t1, t2, t5, t6, t7, t8, t10, t11]
            refine GoB.split (fun hal => ?_) (fun hal => ?_)
            · simp (disch := omega) only [↓wr, ↓reduceIte, wq, eq_self, ne_eq, implies_true, oneV, intOp, goI, splice, sBuild, fillE, nilB, isNil, Nat.reduceEqDiff, Nat.reduceAdd, Nat.reduceLT, Nat.reduceLeDiff, Int.reduceNeg, Int.reduceToNat, reduceCtorEq, decide_true, decide_false, t1, t2, t5, t6, t7, t8, t10, t11]
              have hkr : keepR p q r = true := by rw [keepR, hqd, hal]; rfl
              intro m hm
              try simp (disch := omega) only [↓wr, ↓reduceIte, wq, eq_self, ne_eq, implies_true, oneV, intOp, goI, splice, sBuild, fillE, nilB, isNil, Nat.reduceEqDiff, Nat.reduceAdd, Nat.reduceLT, Nat.reduceLeDiff, Int.reduceNeg, Int.reduceToNat, reduceCtorEq, decide_true, decide_false, t1, t2, t5, t6, t7, t8, t10, t11, elemsOf_new]
              have hm12 := (dead_if hm arr_live).1
              have hm := (dead_if (dead_if hm arr_live).2 arr_live).2
              have hoB := (hoA.fresh (n := m) (o := .arr 1 [[gi i]]) (by simp only [View.set, if_neg hm12]; exact hm)).at 3 (by simp)
              have hkl : (keptI p q (g.rules.take i) 0).length ≤ 40 := by
                rw [keptI_len]
                have h1 := List.length_filter_le (keepR p q) (g.rules.take i)
                have h2 : (g.rules.take i).length ≤ i := List.length_take_le _ _
                have := hf.rules
                omega
              refine goApp_owns (by rw [set_set]; exact hoB) (by simp [cellOk]) (by unfold limit; simp at hkl ⊢; omega) (by unfold limit; simp at hkl ⊢; omega) ?_
              intro u3' H3 ho3 _
              have f12 := ((ho3.at 1 (by simp)).obj (by simp)).1
              have f7 := ((ho3.at 2 (by simp)).obj (by simp)).1
              have f8 := ((ho3.at 3 (by simp)).obj (ints_ne (by simp [toL]; omega))).1
              have hu1 : lenV u1 = some (strsE ((ordO p q (g.rules.take i)).map fun x => g.nons.getD x.toNat ⟨#[]⟩)).length := (ho3.at 4 (by simp)).head.len
              have hbg := ints_get (l := toL g.nons.length (ordO p q (g.rules.take i))) (i := r.left.toNat) (by simp [toL]; omega)
              rw [toL_get hl2 hl3] at hbg
              simp only [encR, encI] at f12
              simp (disch := omega) only [↓wr, ↓reduceIte, wq, eq_self, ne_eq, implies_true, oneV, intOp, goI, splice, sBuild, fillE, nilB, isNil, Nat.reduceEqDiff, Nat.reduceAdd, Nat.reduceLT, Nat.reduceLeDiff, Int.reduceNeg, Int.reduceToNat, reduceCtorEq, decide_true, decide_false, t1, t2, t5, t6, t7, t8, t11, f12, f7, f8, hbg]
              refine ⟨by omega, by simp [toL]; omega, ?_⟩
              have e2 : keptI p q (g.rules.take (i + 1)) 0 = keptI p q (g.rules.take i) 0 ++ [(i : Int)] := by
                rw [htk, keptI_append]; simp [keptI, hkr, show i ≤ g.rules.length by omega]
              have e1 : ordO p q (g.rules.take (i + 1)) = addO (ordO p q (g.rules.take i)) r := by rw [htk, ordO_snoc, if_pos hkr]
              generalize ordO p q (g.rules.take i) = o at *
              generalize keptI p q (g.rules.take i) 0 = kl at *
              refine GoB.dec (fun hlt => ?_) (fun hlt => ?_)
              · have hx : r.left ∉ o := numO_neg.1 hlt
                have e1' : addO o r = o ++ [r.left] := by rw [addO, if_neg hx]
                have hne78 : b7 ≠ b8 := ho3.dif 2 3 rfl rfl (by omega)
                have hne12 : b12 ≠ b8 := ho3.dif 1 3 rfl rfl (by omega)
                have hgn : g.nons[r.left.toNat]? = some (g.nons[r.left.toNat]'(by omega)) := List.getElem?_eq_getElem (by omega)
                have hgnd : g.nons.getD r.left.toNat ⟨#[]⟩ = g.nons[r.left.toNat]'(by omega) := by simp [List.getD_eq_getElem?_getD, hgn]
                generalize g.nons[r.left.toNat]'(by omega) = nm at hgn hgnd
                simp (disch := omega) only [↓wr, ↓reduceIte, wq, eq_self, ne_eq, implies_true, oneV, intOp, goI, splice, sBuild, fillE, nilB, isNil, Nat.reduceEqDiff, Nat.reduceAdd, Nat.reduceLT, Nat.reduceLeDiff, Int.reduceNeg, Int.reduceToNat, reduceCtorEq, decide_true, decide_false, t1, t2, t5, t6, t7, t8, t11, f12, f7, f8, hbg, hu1, List.length_map]
                try refine ⟨by omega, by simp [toL]; omega, ?_⟩
                try simp (disch := omega) only [↓wr, ↓reduceIte, wq, eq_self, ne_eq, implies_true, oneV, intOp, goI, splice, sBuild, fillE, nilB, isNil, Nat.reduceEqDiff, Nat.reduceAdd, Nat.reduceLT, Nat.reduceLeDiff, Int.reduceNeg, Int.reduceToNat, reduceCtorEq, decide_true, decide_false, t1, t2, t5, t6, t7, t8, t11, f12, f7, f8, hbg, hu1, List.length_map, hne78, hne12, encG, encS, List.getElem?_map, hgn]
                intro m2 hm2
                have hm28 := (dead_if hm2 arr_live).1
                have hm2 := (dead_if hm2 arr_live).2
                have hes : (intsE (toL g.nons.length o)).set r.left.toNat [gi o.length] = intsE (toL g.nons.length (o ++ [r.left])) := by rw [ints_set, toL_set hl2 hl3 hx]
                have ho4 := (ho3.at 3 (by simp)).put (es' := (intsE (toL g.nons.length o)).set r.left.toNat [gi o.length]) (by simp) (by simp [toL])
                have ho5 := (ho4.fresh (n := m2) (o := .arr 1 [[gs nm]]) (by simp only [View.set, if_neg hm28]; exact hm2)).at 4 (by simp)
                have hN16 : o.length ≤ 40 := by omega
                try simp (disch := omega) only [↓wr, ↓reduceIte, wq, eq_self, ne_eq, implies_true, oneV, intOp, goI, splice, sBuild, fillE, nilB, isNil, Nat.reduceEqDiff, Nat.reduceAdd, Nat.reduceLT, Nat.reduceLeDiff, Int.reduceNeg, Int.reduceToNat, reduceCtorEq, decide_true, decide_false, t1, t2, t5, t6, t7, t8, t11, f12, f7, f8, hbg, hu1, List.length_map, hne78, hne12, elemsOf_new]
                refine goApp_owns ho5 (by simp [cellOk]) (by unfold limit; simp; omega) (by unfold limit; simp; omega) ?_
                intro u1' H5 ho6 _
                have c1 := ho6.head.cells
                have k1 := ho6.head.cok
                have f7' := ((ho6.at 4 (by simp)).obj (by simp)).1
                simp (disch := omega) only [↓wr, ↓reduceIte, wq, eq_self, ne_eq, implies_true, oneV, intOp, goI, splice, sBuild, fillE, nilB, isNil, Nat.reduceEqDiff, Nat.reduceAdd, Nat.reduceLT, Nat.reduceLeDiff, Int.reduceNeg, Int.reduceToNat, reduceCtorEq, decide_true, decide_false, t1, t2, t5, t6, t7, t8, t11, f7', c1, k1]
                have ho7 := (ho6.at 4 (by simp)).put (es' := [[u0, u1', .emp 1, gi 0]]) rfl rfl
                have ho8 := (((ho7.at 4 (by simp)).tail).perm (rot3.cons _))
                refine up_next hk (by omega) ⟨⟨u1', u3', rfl, ?_, ?_, ?_, ?_⟩, t1, t2, t5, t6, t7, t8, rfl⟩
                · rw [e1, e1']; intro x hx'; rcases List.mem_append.1 hx' with h | h
                  · exact hin x h
                  · simp at h; subst h; exact ⟨hl2, hl3⟩
                · rw [e1]; exact addO_nodup hnd
                · rw [e1, e1']; simp; omega
                · rw [e1, e1', e2]
                  have := ho8
                  rw [hes] at this
                  simp only [List.map_append, List.map_cons, List.map_nil, hgnd]
                  exact this
              · have hx : r.left ∈ o := by
                  refine Classical.byContradiction fun h => ?_
                  have := numO_neg.2 h
                  omega
                have e1' : addO o r = o := by rw [addO, if_pos hx]
                simp (disch := omega) only [↓wr, ↓reduceIte, wq, eq_self, ne_eq, implies_true, oneV, intOp, goI, splice, sBuild, fillE, nilB, isNil, Nat.reduceEqDiff, Nat.reduceAdd, Nat.reduceLT, Nat.reduceLeDiff, Int.reduceNeg, Int.reduceToNat, reduceCtorEq, decide_true, decide_false, t1, t2, t5, t6, t7, t8, t11]
                have ho4 := (((ho3.at 1 (by simp)).tail).perm rot3)
                refine up_next hk (by omega) ⟨⟨u1, u3', rfl, ?_, ?_, ?_, ?_⟩, t1, t2, t5, t6, t7, t8, rfl⟩
                · rw [e1, e1']; exact hin
                · rw [e1, e1']; exact hnd
                · rw [e1, e1']; omega
                · rw [e1, e1', e2]
                  simp only [List.map_append, List.map_cons, List.map_nil]
                  exact ho4
            · simp (disch := omega) only [↓wr, ↓reduceIte, wq, eq_self, ne_eq, implies_true, oneV, intOp, goI, splice, sBuild, fillE, nilB, isNil, Nat.reduceEqDiff, Nat.reduceAdd, Nat.reduceLT, Nat.reduceLeDiff, Int.reduceNeg, Int.reduceToNat, reduceCtorEq, decide_true, decide_false, t1, t2, t5, t6, t7, t8, t10, t11]
              refine hskip _ _ (by rw [keepR, hqd, hal]; rfl) ?_ ?_ ?_ ?_ ?_ ?_ ?_ ?_ ?_
              all_goals first | exact t10 | exact t1 | exact t2 | exact t5 | exact t6 | exact t7 | exact t8 | rfl | (rw [set_set]; rfl)
        · rw [List.take_of_length_le (by omega)] at ho hin hnd holen
          have hkl40 : (keptI p q g.rules 0).length ≤ 40 := by
            rw [keptI_len]; have h1 := List.length_filter_le (keepR p q) g.rules; omega
          have hkg := keptI_get p q g.rules 0
          have hkln := keptI_len p q g.rules 0
          have hstin : g.start.toNat < (toL g.nons.length (ordO p q g.rules)).length := by simp [toL]; omega
          have hstb := ints_get hstin
          rw [toL_get h3 h4] at hstb
          have hrg : redG g (numO (ordO p q g.rules)) p q = ⟨g.terms, (ordO p q g.rules).map fun x => g.nons.getD x.toNat ⟨#[]⟩, (g.rules.filter (keepR p q)).map (redRule (numO (ordO p q g.rules))), numO (ordO p q g.rules) g.start⟩ := rfl
          rw [hrg] at hred
          clear hrg
          generalize ordO p q g.rules = o at *
          generalize keptI p q g.rules 0 = kl at *
          simp (disch := omega) only [↓wr, ↓reduceIte, wq, eq_self, ne_eq, implies_true, oneV, intOp, goI, splice, sBuild, fillE, nilB, isNil, Nat.reduceEqDiff, Nat.reduceAdd, Nat.reduceLT, Nat.reduceLeDiff, Int.reduceNeg, Int.reduceToNat, reduceCtorEq, decide_true, decide_false, t1, t2, t5, t6, t7, t8, t10, t11]
          refine LoopG.up kl.length (RedJ g p q b2 b7 b8 u0 u1 u3 o kl) ?_ ?_
          · refine ⟨⟨.emp 1, [], by simp, ?_⟩, t1, t2, t7, t8, t10, rfl⟩
            exact (ho.emp (k := 1) (sz := 3)).perm (perm_at [(.sl b7 0 1 4, 4, [[u0, u1, .emp 1, gi 0]]), (.sl b8 0 g.nons.length 1, 1, intsE (toL g.nons.length o)), (u3, 1, intsE kl), (u1, 1, strsE (o.map fun x => g.nons.getD x.toNat ⟨#[]⟩)), (u0, 3, g.terms.map encT), (.emp 1, 3, []), (.sl b2 0 1 4, 4, [[.emp 1, .emp 1, .emp 1, gi 0]])] 5 (by simp)).symm
          clear ho t1 t2 t5 t6 t7 t8 t10 t11
          rintro i k T H2 hk ⟨⟨u2, bs, hbs, ho⟩, t1, t2, t7, t8, t10, t13⟩
          have hu3 : lenV u3 = some (intsE kl).length := (ho.own 2 rfl).len
          simp (disch := omega) only [↓wr, ↓reduceIte, wq, eq_self, ne_eq, implies_true, oneV, intOp, goI, splice, sBuild, fillE, nilB, isNil, Nat.reduceEqDiff, Nat.reduceAdd, Nat.reduceLT, Nat.reduceLeDiff, Int.reduceNeg, Int.reduceToNat, reduceCtorEq, decide_true, decide_false, B_gerundref11_Reduce_3, t1, t2, t7, t8, t10, t13, hu3, List.length_map]
          refine GoB.dec (fun hc => ?_) (fun hc => ?_)
          · obtain ⟨n3, e3, hn3⟩ := (ho.own 2 rfl).sl (by simp; omega)
            rw [List.length_map] at e3
            subst e3
            obtain ⟨m, hm1, hm2, hm3⟩ := hkg i (by omega)
            have hbg := ints_get (show i < kl.length by omega)
            rw [Int.zero_add] at hm1
            have hki : kl[i]'(by omega) = (m : Int) := by
              rw [List.getElem?_eq_getElem (show i < kl.length by omega)] at hm1; simpa using hm1
            rw [hki] at hbg
            have hg2 : g.rules[m]? = some (g.rules[m]'hm3) := List.getElem?_eq_getElem hm3
            have hmem : g.rules[m]'hm3 ∈ g.rules := List.getElem_mem _
            have htk : (g.rules.filter (keepR p q)).take (i + 1) = (g.rules.filter (keepR p q)).take i ++ [g.rules[m]'hm3] := by
              rw [List.take_add_one, ← hm2, hg2]; rfl
            generalize g.rules[m]'hm3 = r at hg2 hmem htk
            obtain ⟨hl1, hl2, hl3, hr6, hsy⟩ := hf.ruleIn hg hmem
            simp (disch := omega) only [↓wr, ↓reduceIte, wq, eq_self, ne_eq, implies_true, oneV, intOp, goI, splice, sBuild, fillE, nilB, isNil, Nat.reduceEqDiff, Nat.reduceAdd, Nat.reduceLT, Nat.reduceLeDiff, Int.reduceNeg, Int.reduceToNat, reduceCtorEq, decide_true, decide_false, t1, t2, t7, t8, t10, t13, hn3, hbg, List.length_map, encG, encR, List.getElem?_map, hg2]
            refine ⟨by omega, by omega, ?_⟩
            intro b14 hb14
            have hoA := ho.new hb14 3 [encR r]
            have f8 := hoA.is 2 rfl (by simp [toL]; omega)
            have hbg2 := ints_get (l := toL g.nons.length o) (i := r.left.toNat) (by simp [toL]; omega)
            rw [toL_get hl2 hl3] at hbg2
            have hn814 : b8 ≠ b14 := hoA.dif 2 0 rfl rfl (by omega)
            have g8 : H2 b8 = .arr 1 (intsE (toL g.nons.length o)) := ho.is 1 rfl (by simp [toL]; omega)
            try simp (disch := omega) only [↓wr, ↓reduceIte, wq, eq_self, ne_eq, implies_true, oneV, intOp, goI, splice, sBuild, fillE, nilB, isNil, Nat.reduceEqDiff, Nat.reduceAdd, Nat.reduceLT, Nat.reduceLeDiff, Int.reduceNeg, Int.reduceToNat, reduceCtorEq, decide_true, decide_false, t1, t2, t7, t8, t10, t13, g8, hn814, hbg2, List.length_map, set_set, encI]
            refine ⟨by omega, by simp [toL]; omega, ?_⟩
            intro b15 hb15
            have hbne := (dead_if hb15 arr_live).1
            have hb15 := (dead_if (dead_if hb15 arr_live).2 arr_live).2
            have hoB := (((hoA.new (n := b15) (by simp only [View.set, if_neg hbne]; exact hb15) 3 [[gi (numO o r.left), .emp 1, gi r.prec]]).emp (k := 1) (sz := 1)).perm (.swap _ _ _))
            generalize hL : ((V.sl b7 0 1 4, 4, [[u0, u1, u2, gi 0]]) :: (V.sl b8 0 g.nons.length 1, 1, intsE (toL g.nons.length o)) :: (V.sl n3 0 kl.length 1, 1, intsE kl) ::
              (u1, 1, strsE (o.map fun x => g.nons.getD x.toNat ⟨#[]⟩)) :: (u0, 3, g.terms.map encT) :: (u2, 3, builtE bs) :: (V.sl b2 0 1 4, 4, [[V.emp 1, V.emp 1, V.emp 1, gi 0]]) :: builtL bs : List Ent) = L at hoB
            have hL1 : L[1]? = some (.sl b8 0 g.nons.length 1, 1, intsE (toL g.nons.length o)) := by rw [← hL]; rfl
            try simp (disch := omega) only [↓wr, ↓reduceIte, wq, eq_self, ne_eq, implies_true, oneV, intOp, goI, splice, sBuild, fillE, nilB, isNil, Nat.reduceEqDiff, Nat.reduceAdd, Nat.reduceLT, Nat.reduceLeDiff, Int.reduceNeg, Int.reduceToNat, reduceCtorEq, decide_true, decide_false, t1, t2, t7, t8, t10, t13, set_set]
            refine LoopG.up r.right.length (RedK g b2 b7 b8 b14 b15 (.sl n3 0 kl.length 1) o r L i) ?_ ?_
            · exact ⟨⟨.emp 1, by rw [set_set, set_set]; exact hoB⟩, t1, t2, t7, t8, t10, t13, rfl, rfl, rfl⟩
            clear hoA hoB f8 g8 hb14 hb15 t1 t2 t7 t8 t10 t13
            rintro k k2 T H3 hk2 ⟨⟨v, hoC⟩, t1, t2, t7, t8, t10, t13, t14, t15, t16⟩
            have f14 := hoC.is 2 rfl (by simp)
            have f15 := hoC.is 0 rfl (by simp)
            have f8 : H3 b8 = .arr 1 (intsE (toL g.nons.length o)) := hoC.is 4 (by simpa using hL1) (by simp [toL]; omega)
            simp only [encR] at f14
            simp (disch := omega) only [↓wr, ↓reduceIte, wq, eq_self, ne_eq, implies_true, oneV, intOp, goI, splice, sBuild, fillE, nilB, isNil, Nat.reduceEqDiff, Nat.reduceAdd, Nat.reduceLT, Nat.reduceLeDiff, Int.reduceNeg, Int.reduceToNat, reduceCtorEq, decide_true, decide_false, B_gerundref11_Reduce_2, t1, t2, t7, t8, t10, t13, t14, t15, t16, f14, encI]
            refine GoB.dec (fun hcc => ?_) (fun hcc => ?_)
            · have hgs : r.right[k]? = some (r.right[k]'(by omega)) := List.getElem?_eq_getElem (by omega)
              have hms : r.right[k]'(by omega) ∈ r.right := List.getElem_mem _
              have hts : (redRule (numO o) r).right.take (k + 1) = (redRule (numO o) r).right.take k ++ [if r.right[k]'(by omega) < 0 then -1 - numO o (-1 - r.right[k]'(by omega)) else r.right[k]'(by omega)] := by
                rw [List.take_add_one]; simp [redRule, hgs]
              have hlk : ((redRule (numO o) r).right.take k).length ≤ 6 := by
                have h1 : (redRule (numO o) r).right.length = r.right.length := by simp [redRule]
                have h2 : ((redRule (numO o) r).right.take k).length ≤ (redRule (numO o) r).right.length := by rw [List.length_take]; omega
                omega
              generalize r.right[k]'(by omega) = s at hgs hms hts
              obtain ⟨⟨s1, s2⟩, s3⟩ := hsy s hms
              simp (disch := omega) only [↓wr, ↓reduceIte, wq, eq_self, ne_eq, implies_true, oneV, intOp, goI, splice, sBuild, fillE, nilB, isNil, Nat.reduceEqDiff, Nat.reduceAdd, Nat.reduceLT, Nat.reduceLeDiff, Int.reduceNeg, Int.reduceToNat, reduceCtorEq, decide_true, decide_false, t1, t2, t7, t8, t10, t13, t14, t15, t16, f14, encI, List.getElem?_map, hgs]
              have hbd := numO_bd o (-1 - s)
              have hob : o.length ≤ 40 := by omega
              refine GoB.dec (fun hneg => ?_) (fun hneg => ?_)
              · rw [if_pos hneg] at hts
                have hin1 := s3 hneg
                have hbg3 := ints_get (l := toL g.nons.length o) (i := (-1 - s).toNat) (by simp [toL]; omega)
                rw [toL_get (by omega) hin1] at hbg3
                simp (disch := omega) only [↓wr, ↓reduceIte, wq, eq_self, ne_eq, implies_true, oneV, intOp, goI, splice, sBuild, fillE, nilB, isNil, Nat.reduceEqDiff, Nat.reduceAdd, Nat.reduceLT, Nat.reduceLeDiff, Int.reduceNeg, Int.reduceToNat, reduceCtorEq, decide_true, decide_false, t1, t2, t7, t8, t10, t13, t14, t15, t16, f14, f15, f8, hbg3, List.length_map]
                refine ⟨by omega, by simp [toL]; omega, ?_⟩
                intro m hm
                try simp (disch := omega) only [↓wr, ↓reduceIte, wq, eq_self, ne_eq, implies_true, oneV, intOp, goI, splice, sBuild, fillE, nilB, isNil, Nat.reduceEqDiff, Nat.reduceAdd, Nat.reduceLT, Nat.reduceLeDiff, Int.reduceNeg, Int.reduceToNat, reduceCtorEq, decide_true, decide_false, t1, t2, t7, t8, t10, t13, t14, t15, t16, elemsOf_new]
                have hoD := (hoC.fresh (o := .arr 1 [[gi (-1 - numO o (-1 - s))]]) hm).at 1 (by simp)
                refine goApp_owns hoD (by simp [cellOk]) (by unfold limit; simp at hlk ⊢; omega) (by unfold limit; simp at hlk ⊢; omega) ?_
                intro v' H4 hoE _
                have cv := hoE.head.cells
                have kv := hoE.head.cok
                have f15' := hoE.is 1 rfl (by simp)
                simp (disch := omega) only [↓wr, ↓reduceIte, wq, eq_self, ne_eq, implies_true, oneV, intOp, goI, splice, sBuild, fillE, nilB, isNil, Nat.reduceEqDiff, Nat.reduceAdd, Nat.reduceLT, Nat.reduceLeDiff, Int.reduceNeg, Int.reduceToNat, reduceCtorEq, decide_true, decide_false, t1, t2, t7, t8, t10, t13, t14, t15, t16, f15', cv, kv]
                have hoF := (hoE.at 1 (by simp)).put (es' := [[gi (numO o r.left), v', gi r.prec]]) rfl rfl
                refine up_next hk2 (by omega) ⟨⟨v', ?_⟩, t1, t2, t7, t8, t10, t13, t14, t15, rfl⟩
                rw [hts]
                simp only [List.map_append, List.map_cons, List.map_nil]
                exact hoF
              · rw [if_neg hneg] at hts
                simp (disch := omega) only [↓wr, ↓reduceIte, wq, eq_self, ne_eq, implies_true, oneV, intOp, goI, splice, sBuild, fillE, nilB, isNil, Nat.reduceEqDiff, Nat.reduceAdd, Nat.reduceLT, Nat.reduceLeDiff, Int.reduceNeg, Int.reduceToNat, reduceCtorEq, decide_true, decide_false, t1, t2, t7, t8, t10, t13, t14, t15, t16, f14, f15, f8]
                intro m hm
                try simp (disch := omega) only [↓wr, ↓reduceIte, wq, eq_self, ne_eq, implies_true, oneV, intOp, goI, splice, sBuild, fillE, nilB, isNil, Nat.reduceEqDiff, Nat.reduceAdd, Nat.reduceLT, Nat.reduceLeDiff, Int.reduceNeg, Int.reduceToNat, reduceCtorEq, decide_true, decide_false, t1, t2, t7, t8, t10, t13, t14, t15, t16, elemsOf_new]
                have hoD := (hoC.fresh (o := .arr 1 [[gi s]]) hm).at 1 (by simp)
                refine goApp_owns hoD (by simp [cellOk]) (by unfold limit; simp at hlk ⊢; omega) (by unfold limit; simp at hlk ⊢; omega) ?_
                intro v' H4 hoE _
                have cv := hoE.head.cells
                have kv := hoE.head.cok
                have f15' := hoE.is 1 rfl (by simp)
                simp (disch := omega) only [↓wr, ↓reduceIte, wq, eq_self, ne_eq, implies_true, oneV, intOp, goI, splice, sBuild, fillE, nilB, isNil, Nat.reduceEqDiff, Nat.reduceAdd, Nat.reduceLT, Nat.reduceLeDiff, Int.reduceNeg, Int.reduceToNat, reduceCtorEq, decide_true, decide_false, t1, t2, t7, t8, t10, t13, t14, t15, t16, f15', cv, kv]
                have hoF := (hoE.at 1 (by simp)).put (es' := [[gi (numO o r.left), v', gi r.prec]]) rfl rfl
                refine up_next hk2 (by omega) ⟨⟨v', ?_⟩, t1, t2, t7, t8, t10, t13, t14, t15, rfl⟩
                rw [hts]
                simp only [List.map_append, List.map_cons, List.map_nil]
                exact hoF
            · rw [List.take_of_length_le (by simp [redRule]; omega)] at hoC
              subst hL
              have f7 := hoC.is 3 rfl (by simp)
              have cv := (hoC.own 1 rfl).cells
              have kv := (hoC.own 1 rfl).cok
              have hbl : (builtE bs).length ≤ 40 := by
                have h1 := congrArg List.length hbs
                simp only [List.length_map, List.length_take] at h1
                simp only [builtE, List.length_map]
                omega
              simp (disch := omega) only [↓wr, ↓reduceIte, wq, eq_self, ne_eq, implies_true, oneV, intOp, goI, splice, sBuild, fillE, nilB, isNil, Nat.reduceEqDiff, Nat.reduceAdd, Nat.reduceLT, Nat.reduceLeDiff, Int.reduceNeg, Int.reduceToNat, reduceCtorEq, decide_true, decide_false, t1, t2, t7, t8, t10, t13, t14, t15, t16, f7, f15, cv, kv]
              intro m hm
              try simp (disch := omega) only [↓wr, ↓reduceIte, wq, eq_self, ne_eq, implies_true, oneV, intOp, goI, splice, sBuild, fillE, nilB, isNil, Nat.reduceEqDiff, Nat.reduceAdd, Nat.reduceLT, Nat.reduceLeDiff, Int.reduceNeg, Int.reduceToNat, reduceCtorEq, decide_true, decide_false, t1, t2, t7, t8, t10, t13, t14, t15, t16, elemsOf_new]
              have hoD := (hoC.fresh (o := .arr 3 [[gi (numO o r.left), v, gi r.prec]]) hm).at 8 (by simp)
              refine goApp_owns hoD (by simp [cok_val, kv]) (by unfold limit; simp at hbl ⊢; omega) (by unfold limit; simp at hbl ⊢; omega) ?_
              intro u2' H4 hoE _
              have cu := hoE.head.cells
              have ku := hoE.head.cok
              have f7' := hoE.is 4 rfl (by simp)
              simp (disch := omega) only [↓wr, ↓reduceIte, wq, eq_self, ne_eq, implies_true, oneV, intOp, goI, splice, sBuild, fillE, nilB, isNil, Nat.reduceEqDiff, Nat.reduceAdd, Nat.reduceLT, Nat.reduceLeDiff, Int.reduceNeg, Int.reduceToNat, reduceCtorEq, decide_true, decide_false, t1, t2, t7, t8, t10, t13, t14, t15, t16, f7', cu, ku]
              have hoF := (hoE.at 4 (by simp)).put (es' := [[u0, u1, u2', gi 0]]) rfl rfl
              have hoG := ((((hoF.at 2 (by simp)).tail).at 3 (by simp)).tail)
              refine up_next hk (by omega) ⟨⟨u2', bs ++ [(v, redRule (numO o) r)], ?_, ?_⟩, t1, t2, t7, t8, t10, rfl⟩
              · rw [List.map_append, hbs, htk, List.map_append]; rfl
              · refine hoG.perm (.cons _ ?_)
                simp only [builtL, builtE, List.map_append, List.map_cons, List.map_nil]
                refine .trans ?_ (perm_at _ 4 (by simp)).symm
                refine .cons _ ?_
                exact (List.perm_append_singleton (v, 1, intsE (redRule (numO o) r).right) ((.sl b8 0 g.nons.length 1, 1, intsE (toL g.nons.length o)) :: (.sl n3 0 kl.length 1, 1, intsE kl) :: (u1, 1, strsE (o.map fun x => g.nons.getD x.toNat ⟨#[]⟩)) :: (u0, 3, g.terms.map encT) :: (.sl b2 0 1 4, 4, [[.emp 1, .emp 1, .emp 1, gi 0]]) :: builtL bs)).symm
          · rw [List.take_of_length_le (by omega)] at hbs
            have f7 := ho.is 0 rfl (by simp)
            have f8 : H2 b8 = .arr 1 (intsE (toL g.nons.length o)) := ho.is 1 rfl (by simp [toL]; omega)
            have f2 := ho.is 6 rfl (by simp)
            have n72 : b7 ≠ b2 := ho.dif 0 6 rfl rfl (by omega)
            have c1 := (ho.own 3 rfl).cells
            have k1 := (ho.own 3 rfl).cok
            have c2 := (ho.own 5 rfl).cells
            have k2 := (ho.own 5 rfl).cok
            simp (disch := omega) only [↓wr, ↓reduceIte, wq, eq_self, ne_eq, implies_true, oneV, intOp, goI, splice, sBuild, fillE, nilB, isNil, Nat.reduceEqDiff, Nat.reduceAdd, Nat.reduceLT, Nat.reduceLeDiff, Int.reduceNeg, Int.reduceToNat, reduceCtorEq, decide_true, decide_false, t1, t2, t7, t8, t10, t13, f7, f8, f2, n72, n72.symm, hstb, c0, k0, c1, k1, c2, k2, encG, List.length_map]
            refine ⟨by omega, by simp [toL]; omega, fun h' hh => ?_⟩
            have hoA := ho.put (es' := [[u0, u1, u2, gi (numO o g.start)]]) rfl rfl
            have hoB := (hoA.at 6 (by simp)).put (es' := [[u0, u1, u2, gi (numO o g.start)]]) rfl rfl
            have hv : h'.view = (H2.set b7 (.arr 4 [[u0, u1, u2, gi (numO o g.start)]])).set b2 (.arr 4 [[u0, u1, u2, gi (numO o g.start)]]) := hh
            rw [← hv] at hoB
            rw [hred]
            exact frn_out (x := (⟨g.terms, o.map fun x => g.nons.getD x.toNat ⟨#[]⟩, (g.rules.filter (keepR p q)).map (redRule (numO o)), numO o g.start⟩, kl, 0)) (b := bs) (hoB.own 5 rfl) (hoB.own 4 rfl) (hoB.own 6 rfl) (fun y hy => hoB.1 y (by
              refine List.mem_cons_of_mem _ (List.mem_cons_of_mem _ (List.mem_cons_of_mem _ (List.mem_cons_of_mem _ (List.mem_cons_of_mem _ (List.mem_cons_of_mem _ (List.mem_cons_of_mem _ ?_))))))
              exact hy)) hbs (hoB.own 3 rfl)
  · rename_i hr
    intro h' hh
    rw [reduce09, if_neg (by simp [hr])]
    exact frn_none
end Gv

/-
  What a grammar is, reduced: the program's own function.
  Conditions: lists that are no longer than an int says, numbers that are ints, no more than a thousand names.
-/
set_option linter.unusedSimpArgs false
set_option maxRecDepth 100000
namespace Gv
open Go Go.Proofs

def B_trim_Reduce_0 : SC :=
  .seq (.region false [⟨none, [((some 44), .op (.arith .lss (.tmp 43) (.tmp 42)))]⟩]) <|
  .seq (.cond (.tmp 44) (.skip) (.exit 0)) <|
  .seq (.block 1 (.seq (.region false [⟨none, [((some 45), .op (.mov (.tmp 43))), ((some 46), .op (.idx 3 (.tmp 41) (.tmp 43))), ((some 47), .op (.load (some 3) (.tmp 46))), ((some 11), .op (.alloc [(.val (.int .i64 0)), (.emp 1), (.val (.int .i64 0))])), ((some 10), .op (.mov (.tmp 45))), (none, .op (.store 3 (.tmp 11) (.tmp 47)))]⟩]) <|
  .seq (.seq (.region false [⟨none, [((some 48), .op (.mov (.tmp 6))), ((some 49), .op (.addr 0 (.tmp 11))), ((some 50), .op (.load none (.tmp 49))), ((some 51), .op (.idx 1 (.tmp 48) (.tmp 50))), ((some 52), .op (.load none (.tmp 51))), ((some 53), .op (.not (.tmp 52))), ((some 54), .op (.mov (.tmp 53)))]⟩, ⟨(some (54, false)), [((some 55), .op (.load (some 3) (.tmp 11))), ((some 56), .op (.mov (.tmp 5))), ((some 57), .call (.val (.fn 45 [] [])) [(.tmp 55), (.tmp 56)]), ((some 58), .op (.not (.tmp 57)))]⟩, ⟨none, [((some 59), .op (.pick (.tmp 54) (.val (.val (.bool true))) (.tmp 58)))]⟩]) <|
  .cond (.tmp 59) (.exit 1) (.skip)) <|
  .seq (.region false [⟨none, [((some 60), .op (.mov (.tmp 7))), ((some 61), .op (.mov (.tmp 10))), ((some 62), .op (.bslice 1 1 [(.val (.int .i64 0))] [(0, (.tmp 61))])), ((some 63), .op (.app 1 8 (.tmp 60) (.tmp 62))), ((some 7), .op (.mov (.tmp 63)))]⟩]) <|
  .seq (.region false [⟨none, [((some 65), .op (.mov (.tmp 9))), ((some 66), .op (.addr 0 (.tmp 11))), ((some 67), .op (.load none (.tmp 66))), ((some 68), .op (.old (.lookup 64 (.tmp 65) (.tmp 67) true) 65)), ((some 64), .op (.mov (.tmp 68))), ((some 69), .op (.ext 0 (.tmp 64))), ((some 70), .op (.ext 1 (.tmp 64))), ((some 12), .op (.mov (.tmp 69))), ((some 13), .op (.mov (.tmp 70)))]⟩]) <|
  .seq (.region false [⟨none, [((some 71), .op (.mov (.tmp 13))), ((some 72), .op (.not (.tmp 71)))]⟩]) <|
  .cond (.tmp 72) (.seq (.region false [⟨none, [((some 73), .op (.mov (.tmp 9))), ((some 74), .op (.addr 0 (.tmp 11))), ((some 75), .op (.load none (.tmp 74))), ((some 76), .op (.addr 1 (.tmp 8))), ((some 77), .op (.load none (.tmp 76))), ((some 78), .op (.len (.tmp 77))), (none, .op (.old (.mapUpdate 64 (.tmp 73) (.tmp 75) (.tmp 78)) 0))]⟩]) <|
  .region false [⟨none, [((some 79), .op (.addr 1 (.tmp 8))), ((some 80), .op (.load none (.tmp 79))), ((some 81), .op (.addr 1 (.tmp 1))), ((some 82), .op (.load none (.tmp 81))), ((some 83), .op (.addr 0 (.tmp 11))), ((some 84), .op (.load none (.tmp 83))), ((some 85), .op (.idx 1 (.tmp 82) (.tmp 84))), ((some 86), .op (.load none (.tmp 85))), ((some 87), .op (.bslice 1 1 [(.val (.string ⟨#[]⟩))] [(0, (.tmp 86))])), ((some 88), .op (.app 1 16 (.tmp 80) (.tmp 87))), ((some 89), .op (.addr 1 (.tmp 8))), (none, .op (.store 1 (.tmp 89) (.tmp 88)))]⟩]) (.skip))) <|
  .region false [⟨none, [((some 90), .op (.arith .add (.tmp 43) (.val (.val (.int .i64 1))))), ((some 43), .op (.mov (.tmp 90)))]⟩]
def B_trim_Reduce_1 : SC :=
  .seq (.region false [⟨none, [((some 116), .op (.arith .lss (.tmp 115) (.tmp 114)))]⟩]) <|
  .seq (.cond (.tmp 116) (.skip) (.exit 4)) <|
  .seq (.block 5 (.seq (.region false [⟨none, [((some 117), .op (.mov (.tmp 115))), ((some 118), .op (.idx 1 (.tmp 113) (.tmp 115))), ((some 119), .op (.load none (.tmp 118))), ((some 18), .op (.mov (.tmp 117))), ((some 19), .op (.mov (.tmp 119)))]⟩]) <|
  .seq (.region false [⟨none, [((some 120), .op (.mov (.tmp 19))), ((some 121), .op (.arith .lss (.tmp 120) (.val (.val (.int .i64 0)))))]⟩]) <|
  .cond (.tmp 121) (.region false [⟨none, [((some 122), .op (.addr 1 (.tmp 17))), ((some 123), .op (.load none (.tmp 122))), ((some 124), .op (.mov (.tmp 18))), ((some 125), .op (.mov (.tmp 9))), ((some 126), .op (.mov (.tmp 19))), ((some 127), .op (.arith .sub (.val (.val (.int .i64 (-1)))) (.tmp 126))), ((some 128), .op (.old (.lookup 64 (.tmp 125) (.tmp 127) false) 3)), ((some 129), .op (.arith .sub (.val (.val (.int .i64 (-1)))) (.tmp 128))), ((some 130), .op (.idx 1 (.tmp 123) (.tmp 124))), (none, .op (.store 1 (.tmp 130) (.tmp 129)))]⟩]) (.skip))) <|
  .region false [⟨none, [((some 131), .op (.arith .add (.tmp 115) (.val (.val (.int .i64 1))))), ((some 115), .op (.mov (.tmp 131)))]⟩]
def B_trim_Reduce_2 : SC :=
  .seq (.region false [⟨none, [((some 94), .op (.arith .lss (.tmp 93) (.tmp 92)))]⟩]) <|
  .seq (.cond (.tmp 94) (.skip) (.exit 2)) <|
  .seq (.block 3 (.seq (.region false [⟨none, [((some 95), .op (.idx 1 (.tmp 91) (.tmp 93))), ((some 96), .op (.load none (.tmp 95))), ((some 15), .op (.mov (.tmp 96)))]⟩]) <|
  .seq (.region false [⟨none, [((some 97), .op (.addr 2 (.tmp 1))), ((some 98), .op (.load none (.tmp 97))), ((some 99), .op (.mov (.tmp 15))), ((some 100), .op (.idx 3 (.tmp 98) (.tmp 99))), ((some 101), .op (.load (some 3) (.tmp 100))), ((some 16), .op (.alloc [(.val (.int .i64 0)), (.emp 1), (.val (.int .i64 0))])), (none, .op (.store 3 (.tmp 16) (.tmp 101)))]⟩]) <|
  .seq (.region true [⟨none, [((some 102), .op (.mov (.tmp 9))), ((some 103), .op (.addr 0 (.tmp 16))), ((some 104), .op (.load none (.tmp 103))), ((some 105), .op (.old (.lookup 64 (.tmp 102) (.tmp 104) false) 3)), ((some 106), .op (.addr 1 (.tmp 16))), ((some 107), .op (.load none (.tmp 106))), ((some 108), .call (.val (.fn 53 [] [])) [(.tmp 107)]), ((some 109), .op (.addr 2 (.tmp 16))), ((some 110), .op (.load none (.tmp 109))), ((some 111), .op (.build [(.val (.int .i64 0)), (.emp 1), (.val (.int .i64 0))] [(0, 1, (.tmp 105)), (1, 1, (.tmp 108)), (2, 1, (.tmp 110))])), ((some 17), .op (.alloc [(.val (.int .i64 0)), (.emp 1), (.val (.int .i64 0))])), (none, .op (.store 3 (.tmp 17) (.tmp 111)))]⟩]) <|
  .seq (.seq (.region false [⟨none, [((some 112), .op (.addr 1 (.tmp 17))), ((some 113), .op (.load none (.tmp 112))), ((some 114), .op (.len (.tmp 113))), ((some 115), .op (.mov (.val (.val (.int .i64 0)))))]⟩]) <|
  .block 4 (.loop B_trim_Reduce_1)) <|
  .region false [⟨none, [((some 132), .op (.addr 2 (.tmp 8))), ((some 133), .op (.load none (.tmp 132))), ((some 134), .op (.load (some 3) (.tmp 17))), ((some 135), .op (.bslice 1 3 [(.val (.int .i64 0)), (.emp 1), (.val (.int .i64 0))] [(0, (.tmp 134))])), ((some 136), .op (.app 3 40 (.tmp 133) (.tmp 135))), ((some 137), .op (.addr 2 (.tmp 8))), (none, .op (.store 1 (.tmp 137) (.tmp 136)))]⟩])) <|
  .region false [⟨none, [((some 138), .op (.arith .add (.tmp 93) (.val (.val (.int .i64 1))))), ((some 93), .op (.mov (.tmp 138)))]⟩]
def S_trim_Reduce : SF := ⟨.seq (.region false [⟨none, [((some 1), .op (.frz (.tmp 0))), ((some 2), .op (.alloc [(.emp 1), (.emp 1), (.emp 1), (.val (.int .i64 0))])), ((some 3), .op (.mov (.val (.emp 1)))), ((some 4), .op (.mov (.val (.val (.int .i64 0)))))]⟩]) <|
  .seq (.seq (.region false [⟨none, [((some 20), .op (.load (some 4) (.tmp 1))), ((some 21), .call (.val (.fn 41 [] [])) [(.tmp 20)]), ((some 22), .op (.not (.tmp 21)))]⟩]) <|
  .cond (.tmp 22) (.seq (.region false [⟨none, [((some 23), .op (.build [(.emp 1), (.emp 1), (.emp 1), (.val (.int .i64 0))] [])), (none, .op (.store 4 (.tmp 2) (.tmp 23))), ((some 3), .op (.mov (.val (.emp 1)))), ((some 4), .op (.mov (.val (.val (.int .i64 1)))))]⟩]) <|
  .ret) (.skip)) <|
  .seq (.region true [⟨none, [((some 24), .op (.load (some 4) (.tmp 1))), ((some 25), .call (.val (.fn 17 [] [])) [(.tmp 24)]), ((some 26), .op (.load (some 4) (.tmp 1))), ((some 27), .call (.val (.fn 19 [] [])) [(.tmp 26)]), ((some 5), .op (.mov (.tmp 25))), ((some 6), .op (.mov (.tmp 27)))]⟩]) <|
  .seq (.seq (.region false [⟨none, [((some 28), .op (.mov (.tmp 5))), ((some 29), .op (.addr 3 (.tmp 1))), ((some 30), .op (.load none (.tmp 29))), ((some 31), .op (.idx 1 (.tmp 28) (.tmp 30))), ((some 32), .op (.load none (.tmp 31))), ((some 33), .op (.not (.tmp 32)))]⟩]) <|
  .cond (.tmp 33) (.seq (.region false [⟨none, [((some 34), .op (.build [(.emp 1), (.emp 1), (.emp 1), (.val (.int .i64 0))] [])), (none, .op (.store 4 (.tmp 2) (.tmp 34))), ((some 3), .op (.mov (.val (.emp 1)))), ((some 4), .op (.mov (.val (.val (.int .i64 9)))))]⟩]) <|
  .ret) (.skip)) <|
  .seq (.region false [⟨none, [((some 7), .op (.mov (.val (.emp 1))))]⟩]) <|
  .seq (.region false [⟨none, [((some 35), .op (.addr 0 (.tmp 1))), ((some 36), .op (.load none (.tmp 35))), ((some 37), .call (.val (.fn 52 [] [])) [(.tmp 36)]), ((some 38), .op (.build [(.emp 1), (.emp 1), (.emp 1), (.val (.int .i64 0))] [(0, 1, (.tmp 37))])), ((some 8), .op (.alloc [(.emp 1), (.emp 1), (.emp 1), (.val (.int .i64 0))])), (none, .op (.store 4 (.tmp 8) (.tmp 38)))]⟩]) <|
  .seq (.region false [⟨none, [((some 39), .op (.mkmap)), ((some 9), .op (.mov (.tmp 39)))]⟩]) <|
  .seq (.seq (.region false [⟨none, [((some 40), .op (.addr 2 (.tmp 1))), ((some 41), .op (.load none (.tmp 40))), ((some 42), .op (.len (.tmp 41))), ((some 43), .op (.mov (.val (.val (.int .i64 0)))))]⟩]) <|
  .block 0 (.loop B_trim_Reduce_0)) <|
  .seq (.seq (.region false [⟨none, [((some 91), .op (.mov (.tmp 7))), ((some 92), .op (.len (.tmp 91))), ((some 93), .op (.mov (.val (.val (.int .i64 0)))))]⟩]) <|
  .block 2 (.loop B_trim_Reduce_2)) <|
  .seq (.region false [⟨none, [((some 139), .op (.mov (.tmp 9))), ((some 140), .op (.addr 3 (.tmp 1))), ((some 141), .op (.load none (.tmp 140))), ((some 142), .op (.old (.lookup 64 (.tmp 139) (.tmp 141) false) 3)), ((some 143), .op (.addr 3 (.tmp 8))), (none, .op (.store 1 (.tmp 143) (.tmp 142)))]⟩]) <|
  .seq (.region false [⟨none, [((some 144), .op (.load (some 4) (.tmp 8))), ((some 145), .op (.mov (.tmp 7))), (none, .op (.store 4 (.tmp 2) (.tmp 144))), ((some 3), .op (.mov (.tmp 145))), ((some 4), .op (.mov (.val (.val (.int .i64 0)))))]⟩]) <|
  .ret,
  [.cell 2 (some 4), .tmp 3, .tmp 4], 146⟩
theorem S_trim_Reduce_ok : compF Tryz.prog 24 [1] = some S_trim_Reduce := by kernel_rfl


abbrev mapE (m : MapL Int) : List (V × V × Nat) := encM (Value.int .i64) m

/-- What holds between two rules of the first walk through them. -/
def TedI (g : Gram) (p q : List Bool) (b2 b8 b9 : Nat) (u0 : V) (i : Nat) (T : Env) (H : View) : Prop :=
  (∃ u1 u3 : V, T 7 = u3 ∧ (∀ x ∈ ordO p q (g.rules.take i), 0 ≤ x ∧ x < g.nons.length) ∧ (ordO p q (g.rules.take i)).length ≤ i ∧
    Owns H [(.sl b8 0 1 4, 4, [[u0, u1, .emp 1, gi 0]]), (u3, 1, intsE (keptI p q (g.rules.take i) 0)),
      (u1, 1, strsE ((ordO p q (g.rules.take i)).map fun x => g.nons.getD x.toNat ⟨#[]⟩)), (u0, 3, g.terms.map encT), (.sl b2 0 1 4, 4, [[.emp 1, .emp 1, .emp 1, gi 0]])] ∧
    ∃ m c, H b9 = .map (mapE m) c ∧ MRel gi (pairF (ordO p q (g.rules.take i)) 0) m) ∧
  T 1 = .fptr (encG g) 0 ∧ T 2 = .ptr b2 0 0 ∧ T 5 = encB p ∧ T 6 = encB q ∧ T 8 = .ptr b8 0 0 ∧ T 9 = .mp b9 ∧ T 41 = .fro (g.rules.map encR) ∧ T 42 = gi g.rules.length ∧ T 43 = gi i

theorem set_mid {α : Type} {x s : α} : ∀ {a d : List α} {k : Nat}, a.length = k → (a ++ s :: d).set k x = a ++ x :: d
  | [], d, k, h => by simp at h; subst h; rfl
  | y :: a, d, k, h => by
    cases k with
    | zero => simp at h
    | succ k => simp only [List.cons_append, List.set_cons_succ]; rw [set_mid (by simpa using h)]

/-- What holds between two rules of the second walk. -/
def TedJ (g : Gram) (p q : List Bool) (b2 b8 b9 : Nat) (u0 u1 u3 : V) (o kl : List Int) (mm : MapL Int) (cc : Nat) (i : Nat) (T : Env) (H : View) : Prop :=
  (∃ (u2 : V) (bs : Built), bs.map (·.2) = ((g.rules.filter (keepR p q)).take i).map (redRule (numP o)) ∧
    Owns H ((.sl b8 0 1 4, 4, [[u0, u1, u2, gi 0]]) :: (u3, 1, intsE kl) ::
      (u1, 1, strsE (o.map fun x => g.nons.getD x.toNat ⟨#[]⟩)) :: (u0, 3, g.terms.map encT) :: (u2, 3, builtE bs) :: (.sl b2 0 1 4, 4, [[.emp 1, .emp 1, .emp 1, gi 0]]) :: builtL bs) ∧
    H b9 = .map (mapE mm) cc) ∧
  T 1 = .fptr (encG g) 0 ∧ T 2 = .ptr b2 0 0 ∧ T 7 = u3 ∧ T 8 = .ptr b8 0 0 ∧ T 9 = .mp b9 ∧ T 91 = u3 ∧ T 92 = gi kl.length ∧ T 93 = gi i

/-- .. and between two symbols. -/
def TedK (g : Gram) (b2 b8 b9 b16 b17 : Nat) (u3 v : V) (o kl : List Int) (mm : MapL Int) (cc : Nat) (r : Rule) (L : List Ent) (i k : Nat) (T : Env) (H : View) : Prop :=
  Owns H ((.sl b17 0 1 3, 3, [[gi (numP o r.left), v, gi r.prec]]) :: (v, 1, intsE ((redRule (numP o) r).right.take k ++ r.right.drop k)) :: (.sl b16 0 1 3, 3, [encR r]) :: L) ∧
  H b9 = .map (mapE mm) cc ∧ T 1 = .fptr (encG g) 0 ∧ T 2 = .ptr b2 0 0 ∧ T 7 = u3 ∧ T 8 = .ptr b8 0 0 ∧ T 9 = .mp b9 ∧ T 91 = u3 ∧ T 92 = gi kl.length ∧ T 93 = gi i ∧ T 17 = .ptr b17 0 0 ∧ T 113 = v ∧ T 114 = gi r.right.length ∧ T 115 = gi k

set_option maxHeartbeats 8000000 in
theorem pn_tReduce0 (g : Gram) (hg : g.Ok) (hs : g.Small) : PNew Tryz.prog 24 [.agg (encG g)] (outR (if right09 g = true then
    if (grown09 g true).getD g.start.toNat false = true then (redG g (numP (ordO (grown09 g true) (reach09 g) g.rules)) (grown09 g true) (reach09 g), keptI (grown09 g true) (reach09 g) g.rules 0, 0)
    else (noG, [], 9)
  else (noG, [], 1))) := by
  refine PNew.of (gg_tree g) ?_
  refine MCall.of mixed S_trim_Reduce_ok ?_
  simp (disch := omega) only [↓wr, ↓reduceIte, wq, eq_self, ne_eq, implies_true, oneV, intOp, goI, splice, sBuild, fillE, nilB, isNil, Nat.reduceEqDiff, Nat.reduceAdd, Nat.reduceLT, Nat.reduceLeDiff, Int.reduceNeg, Int.reduceToNat, reduceCtorEq, decide_true, decide_false, S_trim_Reduce, encG, encS]
  intro b2
  try simp (disch := omega) only [↓wr, ↓reduceIte, wq, eq_self, ne_eq, implies_true, oneV, intOp, goI, splice, sBuild, fillE, nilB, isNil, Nat.reduceEqDiff, Nat.reduceAdd, Nat.reduceLT, Nat.reduceLeDiff, Int.reduceNeg, Int.reduceToNat, reduceCtorEq, decide_true, decide_false, encG, encS]
  refine CallG.pure (pc_cRight g hg hs.names) (by kernel_rfl) ?_
  repeat' (first | (refine GoB.dec (fun _ => ?_) (fun _ => ?_)) | (refine GoB.eq (fun _ => ?_) (fun _ => ?_)) | (refine GoB.ne (fun _ => ?_) (fun _ => ?_)) | (refine GoB.split (fun _ => ?_) (fun _ => ?_)) | (simp (disch := omega) only [↓wr, ↓reduceIte, wq, eq_self, ne_eq, implies_true, oneV, intOp, goI, splice, sBuild, fillE, nilB, isNil, Nat.reduceEqDiff, Nat.reduceAdd, Nat.reduceLT, Nat.reduceLeDiff, Int.reduceNeg, Int.reduceToNat, reduceCtorEq, decide_true, decide_false, encG, encS, set_set]))
  · rename_i hr
    rw [if_pos hr]
    refine CallG.pure (pn_tProductive g hg hs).pure (by kernel_rfl) ?_
    simp (disch := omega) only [↓wr, ↓reduceIte, wq, eq_self, ne_eq, implies_true, oneV, intOp, goI, splice, sBuild, fillE, nilB, isNil, Nat.reduceEqDiff, Nat.reduceAdd, Nat.reduceLT, Nat.reduceLeDiff, Int.reduceNeg, Int.reduceToNat, reduceCtorEq, decide_true, decide_false, encG, encS]
    refine CallG.pure (pn_tReachable g hg hs).pure (by kernel_rfl) ?_
    have hf := right09_fine hr
    have h3 := hf.start0
    have h4 := hf.start
    have hpl := grown09_len hr true
    have hql := reach09_len hr
    generalize grown09 g true = p at hpl ⊢
    generalize reach09 g = q at hql ⊢
    have hps : p[g.start.toNat]? = some (p[g.start.toNat]'(by omega)) := List.getElem?_eq_getElem (by omega)
    have hpd : p.getD g.start.toNat false = p[g.start.toNat]'(by omega) := by simp [List.getD_eq_getElem?_getD, hps]
    generalize p[g.start.toNat]'(by omega) = s at hps hpd
    rw [hpd]
    simp (disch := omega) only [↓wr, ↓reduceIte, wq, eq_self, ne_eq, implies_true, oneV, intOp, goI, splice, sBuild, fillE, nilB, isNil, Nat.reduceEqDiff, Nat.reduceAdd, Nat.reduceLT, Nat.reduceLeDiff, Int.reduceNeg, Int.reduceToNat, reduceCtorEq, decide_true, decide_false, encG, encS, encB, List.getElem?_map, hps]
    cases s with
    | false =>
      simp (disch := omega) only [↓wr, ↓reduceIte, wq, eq_self, ne_eq, implies_true, oneV, intOp, goI, splice, sBuild, fillE, nilB, isNil, Nat.reduceEqDiff, Nat.reduceAdd, Nat.reduceLT, Nat.reduceLeDiff, Int.reduceNeg, Int.reduceToNat, reduceCtorEq, decide_true, decide_false, encG, encS, set_set]
      rintro h' hh
      exact frn_none
    | true =>
      simp (disch := omega) only [↓wr, ↓reduceIte, wq, eq_self, ne_eq, implies_true, oneV, intOp, goI, splice, sBuild, fillE, nilB, isNil, Nat.reduceEqDiff, Nat.reduceAdd, Nat.reduceLT, Nat.reduceLeDiff, Int.reduceNeg, Int.reduceToNat, reduceCtorEq, decide_true, decide_false, encG, encS, set_set]
      have hN := hf.nons
      have hN1 := hf.nons1
      have hT := hf.terms
      have hR := hf.rules
      refine CallG.loud ((mo_CloneT g.terms (by omega) _).mono ?_)
      rintro u0 H1 ⟨hu0, hfr⟩
      have ho1 := (Owns.nil.new (H := fun _ => AObj.dead) (n := b2) rfl 4 [[.emp 1, .emp 1, .emp 1, gi 0]]).come hu0 hfr
      have c0 := ho1.head.cells
      have k0 := ho1.head.cok
      simp (disch := omega) only [↓wr, ↓reduceIte, wq, eq_self, ne_eq, implies_true, oneV, intOp, goI, splice, sBuild, fillE, nilB, isNil, Nat.reduceEqDiff, Nat.reduceAdd, Nat.reduceLT, Nat.reduceLeDiff, Int.reduceNeg, Int.reduceToNat, reduceCtorEq, decide_true, decide_false, encG, encS, c0, k0]
      intro b8 hb8
      have ho2 := ho1.new hb8 4 [[u0, .emp 1, .emp 1, gi 0]]
      try simp (disch := omega) only [↓wr, ↓reduceIte, wq, eq_self, ne_eq, implies_true, oneV, intOp, goI, splice, sBuild, fillE, nilB, isNil, Nat.reduceEqDiff, Nat.reduceAdd, Nat.reduceLT, Nat.reduceLeDiff, Int.reduceNeg, Int.reduceToNat, reduceCtorEq, decide_true, decide_false, encG, encS, c0, k0, set_set]
      intro b9 hb9
      have hb98 := (dead_if hb9 arr_live).1
      have hb9 := (dead_if (dead_if hb9 arr_live).2 arr_live).2
      have ho3 := (((ho2.fresh (n := b9) (o := .map [] 0) (by simp only [View.set, if_neg hb98]; exact hb9)).emp (k := 1) (sz := 1)).emp (k := 1) (sz := 1)).perm rot3.symm
      try simp (disch := omega) only [↓wr, ↓reduceIte, wq, eq_self, ne_eq, implies_true, oneV, intOp, goI, splice, sBuild, fillE, nilB, isNil, Nat.reduceEqDiff, Nat.reduceAdd, Nat.reduceLT, Nat.reduceLeDiff, Int.reduceNeg, Int.reduceToNat, reduceCtorEq, decide_true, decide_false, encG, encS, c0, k0, set_set]
      refine LoopG.up g.rules.length (TedI g p q b2 b8 b9 u0) ?_ ?_
      · refine ⟨⟨.emp 1, .emp 1, rfl, by simp [ordO], by simp [ordO], by rw [set_set]; exact ho3, [], 0, by simp [View.set, encM], trivial⟩, rfl, rfl, rfl, rfl, rfl, rfl, rfl, rfl, rfl⟩
      clear ho1 ho2 ho3 hb8 hb9 hb98
      rintro i k T H2 hk ⟨⟨u1, u3, t7, hin, holen, ho, mm, cc, h9, hm9⟩, t1, t2, t5, t6, t8, t9, t41, t42, t43⟩
      simp (disch := omega) only [↓wr, ↓reduceIte, wq, eq_self, ne_eq, implies_true, oneV, intOp, goI, splice, sBuild, fillE, nilB, isNil, Nat.reduceEqDiff, Nat.reduceAdd, Nat.reduceLT, Nat.reduceLeDiff, Int.reduceNeg, Int.reduceToNat, reduceCtorEq, decide_true, decide_false, B_trim_Reduce_0, t1, t2, t5, t6, t7, t8, t9, t41, t42, t43, encG]
      refine GoB.dec (fun hc => ?_) (fun hc => ?_)
      · have hg2 : g.rules[i]? = some (g.rules[i]'(by omega)) := List.getElem?_eq_getElem (by omega)
        have hmem : g.rules[i]'(by omega) ∈ g.rules := List.getElem_mem _
        have htk : g.rules.take (i + 1) = g.rules.take i ++ [g.rules[i]'(by omega)] := by rw [List.take_add_one, hg2]; rfl
        generalize g.rules[i]'(by omega) = r at hg2 hmem htk
        obtain ⟨hl1, hl2, hl3, hr6, hsy⟩ := hf.ruleIn hg hmem
        have hqs : q[r.left.toNat]? = some (q[r.left.toNat]'(by omega)) := List.getElem?_eq_getElem (by omega)
        have hqd : q.getD r.left.toNat false = q[r.left.toNat]'(by omega) := by simp [List.getD_eq_getElem?_getD, hqs]
        generalize q[r.left.toNat]'(by omega) = qs at hqs hqd
        simp (disch := omega) only [↓wr, ↓reduceIte, wq, eq_self, ne_eq, implies_true, oneV, intOp, goI, splice, sBuild, fillE, nilB, isNil, Nat.reduceEqDiff, Nat.reduceAdd, Nat.reduceLT, Nat.reduceLeDiff, Int.reduceNeg, Int.reduceToNat, reduceCtorEq, decide_true, decide_false, t1, t2, t5, t6, t7, t8, t9, t41, t42, t43, encR, encI, List.getElem?_map, hg2]
        intro b11 hb11
        have hoA := ho.new hb11 3 [encR r]
        have n911 : b9 ≠ b11 := by rintro rfl; rw [h9] at hb11; simp at hb11
        try simp (disch := omega) only [↓wr, ↓reduceIte, wq, eq_self, ne_eq, implies_true, oneV, intOp, goI, splice, sBuild, fillE, nilB, isNil, Nat.reduceEqDiff, Nat.reduceAdd, Nat.reduceLT, Nat.reduceLeDiff, Int.reduceNeg, Int.reduceToNat, reduceCtorEq, decide_true, decide_false, t1, t2, t5, t6, t7, t8, t9, t41, t42, t43, encR, encI, encB, List.getElem?_map, hqs, set_set]
        have hskip : ∀ (T2 : Env) (H' : View), keepR p q r = false → H' = H2.set b11 (.arr 3 [encR r]) → T2 7 = u3 → T2 1 = .fptr (encG g) 0 → T2 2 = .ptr b2 0 0 → T2 5 = encB p → T2 6 = encB q → T2 8 = .ptr b8 0 0 → T2 9 = .mp b9 → T2 41 = .fro (g.rules.map encR) → T2 42 = gi g.rules.length → T2 43 = gi ((i : Int) + 1) →
            ∃ k', k' < k ∧ UpN g.rules.length k' (TedI g p q b2 b8 b9 u0) T2 H' := by
          intro T2 H' hkr hH' a7 a1 a2 a5 a6 a8 a9 a41 a42 a43
          have e1 : ordO p q (g.rules.take (i + 1)) = ordO p q (g.rules.take i) := by rw [htk, ordO_snoc, if_neg (by simp [hkr])]
          have e2 : keptI p q (g.rules.take (i + 1)) 0 = keptI p q (g.rules.take i) 0 := by rw [htk, keptI_append]; simp [keptI, hkr]
          refine up_next hk (by omega) ⟨⟨u1, u3, a7, by rw [e1]; exact hin, by rw [e1]; omega, by rw [e1, e2, hH']; exact hoA.tail, mm, cc, by rw [hH']; simp [View.set, n911, h9], by rw [e1]; exact hm9⟩, a1, a2, a5, a6, a8, a9, a41, a42, by rw [a43]; rfl⟩
        cases qs with
        | false =>
          simp (disch := omega) only [↓wr, ↓reduceIte, wq, eq_self, ne_eq, implies_true, oneV, intOp, goI, splice, sBuild, fillE, nilB, isNil, Nat.reduceEqDiff, Nat.reduceAdd, Nat.reduceLT, Nat.reduceLeDiff, Int.reduceNeg, Int.reduceToNat, reduceCtorEq, decide_true, decide_false, t1, t2, t5, t6, t7, t8, t9, t41, t42, t43]
          refine hskip _ _ (by rw [keepR, hqd]; rfl) ?_ ?_ ?_ ?_ ?_ ?_ ?_ ?_ ?_ ?_ ?_
          all_goals first | exact t7 | exact t1 | exact t2 | exact t5 | exact t6 | exact t8 | exact t9 | exact t41 | exact t42 | rfl | (rw [set_set]; rfl)
        | true =>
          simp (disch := omega) only [↓wr, ↓reduceIte, wq, eq_self, ne_eq, implies_true, oneV, intOp, goI, splice, sBuild, fillE, nilB, isNil, Nat.reduceEqDiff, Nat.reduceAdd, Nat.reduceLT, Nat.reduceLeDiff, Int.reduceNeg, Int.reduceToNat, reduceCtorEq, decide_true, decide_false, t1, t2, t5, t6, t7, t8, t9, t41, t42, t43, encR, encI, encB]
          refine CallG.pure (pc_within r p (hg.rule r hmem).2.2.1 (fun s hs' => ⟨(hsy s hs').1, fun h => by rw [hpl]; exact (hsy s hs').2 h⟩)) (by kernel_rfl) ?_
          simp (disch := omega) only [↓wr, ↓reduceIte, wq, eq_self, ne_eq, implies_true, oneV, intOp, goI, splice, sBuild, fillE, nilB, isNil, Nat.reduceEqDiff, Nat.reduceAdd, Nat.reduceLT, Nat.reduceLeDiff, Int.reduceNeg, Int.reduceToNat, reduceCtorEq, decide_true, decide_false, t1, t2, t5, t6, t7, t8, t9, t41, t42, t43]
          refine GoB.split (fun hal => ?_) (fun hal => ?_)
          · simp (disch := omega) only [↓wr, ↓reduceIte, wq, eq_self, ne_eq, implies_true, oneV, intOp, goI, splice, sBuild, fillE, nilB, isNil, Nat.reduceEqDiff, Nat.reduceAdd, Nat.reduceLT, Nat.reduceLeDiff, Int.reduceNeg, Int.reduceToNat, reduceCtorEq, decide_true, decide_false, t1, t2, t5, t6, t7, t8, t9, t41, t42, t43]
            have hkr : keepR p q r = true := by rw [keepR, hqd, hal]; rfl
            intro m hm
            try simp (disch := omega) only [↓wr, ↓reduceIte, wq, eq_self, ne_eq, implies_true, oneV, intOp, goI, splice, sBuild, fillE, nilB, isNil, Nat.reduceEqDiff, Nat.reduceAdd, Nat.reduceLT, Nat.reduceLeDiff, Int.reduceNeg, Int.reduceToNat, reduceCtorEq, decide_true, decide_false, t1, t2, t5, t6, t7, t8, t9, t41, t42, t43, elemsOf_new]
            have hm11 := (dead_if hm arr_live).1
            have hm := (dead_if (dead_if hm arr_live).2 arr_live).2
            have hoB := (hoA.fresh (n := m) (o := .arr 1 [[gi i]]) (by simp only [View.set, if_neg hm11]; exact hm)).at 2 (by simp)
            have n9m : b9 ≠ m := by rintro rfl; rw [h9] at hm; simp at hm
            have hkl : (keptI p q (g.rules.take i) 0).length ≤ 40 := by
              rw [keptI_len]
              have h1 := List.length_filter_le (keepR p q) (g.rules.take i)
              have h2 : (g.rules.take i).length ≤ i := List.length_take_le _ _
              omega
            refine goApp_owns (by rw [set_set]; exact hoB) (by simp [cellOk]) (by unfold limit; simp at hkl ⊢; omega) (by unfold limit; simp at hkl ⊢; omega) ?_
            intro u3' H3 ho3 hleft
            have f11 := ho3.is 1 rfl (by simp)
            have f8 := ho3.is 2 rfl (by simp)
            have hleft' : Left ((H2.set b11 (.arr 3 [encR r])).set m (.arr 1 [[gi i]])) H3 u3 u3' := by rw [set_set] at hleft; exact hleft
            have f9 : H3 b9 = .map (mapE mm) cc := hleft'.map (b := b9) hoB.head (by simp [View.set, n911, n9m, h9])
            have hu1 : lenV u1 = some (strsE ((ordO p q (g.rules.take i)).map fun x => g.nons.getD x.toNat ⟨#[]⟩)).length := (ho3.own 3 rfl).len
            simp only [encR, encI] at f11
            have e2 : keptI p q (g.rules.take (i + 1)) 0 = keptI p q (g.rules.take i) 0 ++ [(i : Int)] := by
              rw [htk, keptI_append]; simp [keptI, hkr, show i ≤ g.rules.length by omega]
            have e1 : ordO p q (g.rules.take (i + 1)) = addO (ordO p q (g.rules.take i)) r := by rw [htk, ordO_snoc, if_pos hkr]
            generalize ordO p q (g.rules.take i) = o at *
            generalize keptI p q (g.rules.take i) 0 = kl at *
            simp (disch := omega) only [↓wr, ↓reduceIte, wq, eq_self, ne_eq, implies_true, oneV, intOp, goI, splice, sBuild, fillE, nilB, isNil, Nat.reduceEqDiff, Nat.reduceAdd, Nat.reduceLT, Nat.reduceLeDiff, Int.reduceNeg, Int.reduceToNat, reduceCtorEq, decide_true, decide_false, t1, t2, t5, t6, t8, t9, t41, t42, t43, f11, f8]
            refine look2 (kt := 3) (et := 3) (z := gi 0) (by kernel_rfl) (by kernel_rfl) (keyInt .i64 Tryz.underlying3) (id := b9) (c := cc) (m := mm) (k := r.left) (by simp (disch := omega) only [↓wr, ↓reduceIte, wq, eq_self, ne_eq, implies_true, oneV, intOp, goI, splice, sBuild, fillE, nilB, isNil, Nat.reduceEqDiff, Nat.reduceAdd, Nat.reduceLT, Nat.reduceLeDiff, Int.reduceNeg, Int.reduceToNat, reduceCtorEq, decide_true, decide_false, t9]) (by simp (disch := omega) only [↓wr, ↓reduceIte, wq, eq_self, ne_eq, implies_true, oneV, intOp, goI, splice, sBuild, fillE, nilB, isNil, Nat.reduceEqDiff, Nat.reduceAdd, Nat.reduceLT, Nat.reduceLeDiff, Int.reduceNeg, Int.reduceToNat, reduceCtorEq, decide_true, decide_false]) f9 ?_
            rw [hm9.get, pairF_get]
            have hob : o.length ≤ 40 := by omega
            by_cases hx : r.left ∈ o
            · have e1' : addO o r = o := by rw [addO, if_pos hx]
              rw [if_pos hx]
              simp (disch := omega) only [↓wr, ↓reduceIte, wq, eq_self, ne_eq, implies_true, oneV, intOp, goI, splice, sBuild, fillE, nilB, isNil, Nat.reduceEqDiff, Nat.reduceAdd, Nat.reduceLT, Nat.reduceLeDiff, Int.reduceNeg, Int.reduceToNat, reduceCtorEq, decide_true, decide_false, t1, t2, t5, t6, t8, t9, t41, t42, t43, Option.isSome_some]
              have ho4 := (((ho3.at 1 (by simp)).tail).perm (.swap _ _ _))
              refine up_next hk (by omega) ⟨⟨u1, u3', rfl, by rw [e1, e1']; exact hin, by rw [e1, e1']; omega, ?_, mm, cc, f9, by rw [e1, e1']; exact hm9⟩, t1, t2, t5, t6, t8, t9, t41, t42, rfl⟩
              rw [e1, e1', e2]
              simp only [List.map_append, List.map_cons, List.map_nil]
              exact ho4
            · have e1' : addO o r = o ++ [r.left] := by rw [addO, if_neg hx]
              rw [if_neg hx]
              have hgn : g.nons[r.left.toNat]? = some (g.nons[r.left.toNat]'(by omega)) := List.getElem?_eq_getElem (by omega)
              have hgnd : g.nons.getD r.left.toNat ⟨#[]⟩ = g.nons[r.left.toNat]'(by omega) := by simp [List.getD_eq_getElem?_getD, hgn]
              generalize g.nons[r.left.toNat]'(by omega) = nm at hgn hgnd
              simp (disch := omega) only [↓wr, ↓reduceIte, wq, eq_self, ne_eq, implies_true, oneV, intOp, goI, splice, sBuild, fillE, nilB, isNil, Nat.reduceEqDiff, Nat.reduceAdd, Nat.reduceLT, Nat.reduceLeDiff, Int.reduceNeg, Int.reduceToNat, reduceCtorEq, decide_true, decide_false, t1, t2, t5, t6, t8, t9, t41, t42, t43, Option.isSome_none, f11, f8, hu1, List.length_map]
              refine mapPut (kt := 3) (et := 3) (by kernel_rfl) (keyInt .i64 Tryz.underlying3) (id := b9) (c := cc) (m := mm) (k := r.left) (v := gi o.length) (by simp (disch := omega) only [↓wr, ↓reduceIte, wq, eq_self, ne_eq, implies_true, oneV, intOp, goI, splice, sBuild, fillE, nilB, isNil, Nat.reduceEqDiff, Nat.reduceAdd, Nat.reduceLT, Nat.reduceLeDiff, Int.reduceNeg, Int.reduceToNat, reduceCtorEq, decide_true, decide_false, t9]) (by simp (disch := omega) only [↓wr, ↓reduceIte, wq, eq_self, ne_eq, implies_true, oneV, intOp, goI, splice, sBuild, fillE, nilB, isNil, Nat.reduceEqDiff, Nat.reduceAdd, Nat.reduceLT, Nat.reduceLeDiff, Int.reduceNeg, Int.reduceToNat, reduceCtorEq, decide_true, decide_false]) (by simp (disch := omega) only [↓wr, ↓reduceIte, wq, eq_self, ne_eq, implies_true, oneV, intOp, goI, splice, sBuild, fillE, nilB, isNil, Nat.reduceEqDiff, Nat.reduceAdd, Nat.reduceLT, Nat.reduceLeDiff, Int.reduceNeg, Int.reduceToNat, reduceCtorEq, decide_true, decide_false]) f9 ?_
              intro c'
              have n89 : b8 ≠ b9 := ne_map ho3 2 rfl f9
              have n119 : b11 ≠ b9 := ne_map ho3 1 rfl f9
              simp (disch := omega) only [↓wr, ↓reduceIte, wq, eq_self, ne_eq, implies_true, oneV, intOp, goI, splice, sBuild, fillE, nilB, isNil, Nat.reduceEqDiff, Nat.reduceAdd, Nat.reduceLT, Nat.reduceLeDiff, Int.reduceNeg, Int.reduceToNat, reduceCtorEq, decide_true, decide_false, t1, t2, t5, t6, t8, t9, t41, t42, t43, f11, f8, n89, n119, encG, encS, List.getElem?_map, hgn]
              intro m2 hm2
              have hm29 := (dead_if hm2 (by simp)).1
              have hm2 := (dead_if hm2 (by simp)).2
              have ho5 := ((ho3.setmap f9 (o := .map (mapE (putM r.left (gi o.length) cc mm)) c')).fresh (n := m2) (o := .arr 1 [[gs nm]]) (by simp only [View.set, if_neg hm29]; exact hm2)).at 3 (by simp)
              try simp (disch := omega) only [↓wr, ↓reduceIte, wq, eq_self, ne_eq, implies_true, oneV, intOp, goI, splice, sBuild, fillE, nilB, isNil, Nat.reduceEqDiff, Nat.reduceAdd, Nat.reduceLT, Nat.reduceLeDiff, Int.reduceNeg, Int.reduceToNat, reduceCtorEq, decide_true, decide_false, t1, t2, t5, t6, t8, t9, t41, t42, t43, elemsOf_new]
              refine goApp_owns ho5 (by simp [cellOk]) (by unfold limit; simp; omega) (by unfold limit; simp; omega) ?_
              intro u1' H5 ho6 hleft2
              have c1 := ho6.head.cells
              have k1 := ho6.head.cok
              have f8' := ho6.is 3 rfl (by simp)
              have f9' := hleft2.map (b := b9) (es := mapE (putM r.left (gi o.length) cc mm)) (c := c') ho5.head (by simp [View.set, Ne.symm hm29])
              have n89' : b9 ≠ b8 := n89.symm
              simp (disch := omega) only [↓wr, ↓reduceIte, wq, eq_self, ne_eq, implies_true, oneV, intOp, goI, splice, sBuild, fillE, nilB, isNil, Nat.reduceEqDiff, Nat.reduceAdd, Nat.reduceLT, Nat.reduceLeDiff, Int.reduceNeg, Int.reduceToNat, reduceCtorEq, decide_true, decide_false, t1, t2, t5, t6, t8, t9, t41, t42, t43, f8', c1, k1]
              have ho7 := (ho6.at 3 (by simp)).put (es' := [[u0, u1', .emp 1, gi 0]]) rfl rfl
              have ho8 := (((ho7.at 3 (by simp)).tail).perm (.cons _ (.swap _ _ _)))
              refine up_next hk (by omega) ⟨⟨u1', u3', rfl, ?_, ?_, ?_, _, c', (by simp only [View.set, if_neg n89']; exact f9'), ?_⟩, t1, t2, t5, t6, t8, t9, t41, t42, rfl⟩
              · rw [e1, e1']; intro x hx'; rcases List.mem_append.1 hx' with h | h
                · exact hin x h
                · simp at h; subst h; exact ⟨hl2, hl3⟩
              · rw [e1, e1']; simp; omega
              · rw [e1, e1', e2]
                simp only [List.map_append, List.map_cons, List.map_nil, hgnd]
                exact ho8
              · rw [e1, e1', pairF_snoc, Int.zero_add, ← pairF_put hx]
                exact hm9.put r.left (o.length : Int) cc
          · simp (disch := omega) only [↓wr, ↓reduceIte, wq, eq_self, ne_eq, implies_true, oneV, intOp, goI, splice, sBuild, fillE, nilB, isNil, Nat.reduceEqDiff, Nat.reduceAdd, Nat.reduceLT, Nat.reduceLeDiff, Int.reduceNeg, Int.reduceToNat, reduceCtorEq, decide_true, decide_false, t1, t2, t5, t6, t7, t8, t9, t41, t42, t43]
            refine hskip _ _ (by rw [keepR, hqd, hal]; rfl) ?_ ?_ ?_ ?_ ?_ ?_ ?_ ?_ ?_ ?_ ?_
            all_goals first | exact t7 | exact t1 | exact t2 | exact t5 | exact t6 | exact t8 | exact t9 | exact t41 | exact t42 | rfl | (rw [set_set]; rfl)
      · rw [List.take_of_length_le (by omega)] at ho hin holen hm9
        have hkl40 : (keptI p q g.rules 0).length ≤ 40 := by
          rw [keptI_len]; have h1 := List.length_filter_le (keepR p q) g.rules; omega
        have hkg := keptI_get p q g.rules 0
        have hkln := keptI_len p q g.rules 0
        have hrg : redG g (numP (ordO p q g.rules)) p q = ⟨g.terms, (ordO p q g.rules).map fun x => g.nons.getD x.toNat ⟨#[]⟩, (g.rules.filter (keepR p q)).map (redRule (numP (ordO p q g.rules))), numP (ordO p q g.rules) g.start⟩ := rfl
        rw [hrg, if_pos rfl]
        clear hrg
        generalize ordO p q g.rules = o at *
        generalize keptI p q g.rules 0 = kl at *
        have hob : o.length ≤ 40 := by omega
        have hu3 : lenV u3 = some (intsE kl).length := (ho.own 1 rfl).len
        simp (disch := omega) only [↓wr, ↓reduceIte, wq, eq_self, ne_eq, implies_true, oneV, intOp, goI, splice, sBuild, fillE, nilB, isNil, Nat.reduceEqDiff, Nat.reduceAdd, Nat.reduceLT, Nat.reduceLeDiff, Int.reduceNeg, Int.reduceToNat, reduceCtorEq, decide_true, decide_false, t1, t2, t5, t6, t7, t8, t9, hu3, List.length_map]
        refine LoopG.up kl.length (TedJ g p q b2 b8 b9 u0 u1 u3 o kl mm cc) ?_ ?_
        · refine ⟨⟨.emp 1, [], by simp, ?_, h9⟩, t1, t2, t7, t8, t9, t7, rfl, rfl⟩
          exact (ho.emp (k := 1) (sz := 3)).perm (perm_at [(.sl b8 0 1 4, 4, [[u0, u1, .emp 1, gi 0]]), (u3, 1, intsE kl), (u1, 1, strsE (o.map fun x => g.nons.getD x.toNat ⟨#[]⟩)), (u0, 3, g.terms.map encT), (.emp 1, 3, []), (.sl b2 0 1 4, 4, [[.emp 1, .emp 1, .emp 1, gi 0]])] 4 (by simp)).symm
        clear ho h9 t1 t2 t5 t6 t7 t8 t9 t41 t42 t43
        rintro i k T H2 hk ⟨⟨u2, bs, hbs, ho, h9⟩, t1, t2, t7, t8, t9, t91, t92, t93⟩
        simp (disch := omega) only [↓wr, ↓reduceIte, wq, eq_self, ne_eq, implies_true, oneV, intOp, goI, splice, sBuild, fillE, nilB, isNil, Nat.reduceEqDiff, Nat.reduceAdd, Nat.reduceLT, Nat.reduceLeDiff, Int.reduceNeg, Int.reduceToNat, reduceCtorEq, decide_true, decide_false, B_trim_Reduce_2, t1, t2, t7, t8, t9, t91, t92, t93]
        refine GoB.dec (fun hc => ?_) (fun hc => ?_)
        · obtain ⟨n3, e3, hn3⟩ := (ho.own 1 rfl).sl (by simp; omega)
          rw [List.length_map] at e3
          subst e3
          obtain ⟨m, hm1, hm2, hm3⟩ := hkg i (by omega)
          have hbg := ints_get (show i < kl.length by omega)
          rw [Int.zero_add] at hm1
          have hki : kl[i]'(by omega) = (m : Int) := by
            rw [List.getElem?_eq_getElem (show i < kl.length by omega)] at hm1; simpa using hm1
          rw [hki] at hbg
          have hg2 : g.rules[m]? = some (g.rules[m]'hm3) := List.getElem?_eq_getElem hm3
          have hmem : g.rules[m]'hm3 ∈ g.rules := List.getElem_mem _
          have htk : (g.rules.filter (keepR p q)).take (i + 1) = (g.rules.filter (keepR p q)).take i ++ [g.rules[m]'hm3] := by
            rw [List.take_add_one, ← hm2, hg2]; rfl
          generalize g.rules[m]'hm3 = r at hg2 hmem htk
          obtain ⟨hl1, hl2, hl3, hr6, hsy⟩ := hf.ruleIn hg hmem
          simp (disch := omega) only [↓wr, ↓reduceIte, wq, eq_self, ne_eq, implies_true, oneV, intOp, goI, splice, sBuild, fillE, nilB, isNil, Nat.reduceEqDiff, Nat.reduceAdd, Nat.reduceLT, Nat.reduceLeDiff, Int.reduceNeg, Int.reduceToNat, reduceCtorEq, decide_true, decide_false, t1, t2, t7, t8, t9, t91, t92, t93, hn3, hbg, List.length_map, encG, encR, encI, List.getElem?_map, hg2]
          refine ⟨by omega, by omega, ?_⟩
          intro b16 hb16
          have hoA := ho.new hb16 3 [encR r]
          have n916 : b9 ≠ b16 := by rintro rfl; rw [h9] at hb16; simp at hb16
          try simp (disch := omega) only [↓wr, ↓reduceIte, wq, eq_self, ne_eq, implies_true, oneV, intOp, goI, splice, sBuild, fillE, nilB, isNil, Nat.reduceEqDiff, Nat.reduceAdd, Nat.reduceLT, Nat.reduceLeDiff, Int.reduceNeg, Int.reduceToNat, reduceCtorEq, decide_true, decide_false, t1, t2, t7, t8, t9, t91, t92, t93, set_set]
          refine look1 (kt := 3) (et := 3) (z := gi 0) (by kernel_rfl) (by kernel_rfl) (keyInt .i64 Tryz.underlying3) (id := b9) (c := cc) (m := mm) (k := r.left) (by simp (disch := omega) only [↓wr, ↓reduceIte, wq, eq_self, ne_eq, implies_true, oneV, intOp, goI, splice, sBuild, fillE, nilB, isNil, Nat.reduceEqDiff, Nat.reduceAdd, Nat.reduceLT, Nat.reduceLeDiff, Int.reduceNeg, Int.reduceToNat, reduceCtorEq, decide_true, decide_false, t9]) (by simp (disch := omega) only [↓wr, ↓reduceIte, wq, eq_self, ne_eq, implies_true, oneV, intOp, goI, splice, sBuild, fillE, nilB, isNil, Nat.reduceEqDiff, Nat.reduceAdd, Nat.reduceLT, Nat.reduceLeDiff, Int.reduceNeg, Int.reduceToNat, reduceCtorEq, decide_true, decide_false]) (by simp [View.set, n916, h9]) ?_
          have hgt : ∀ x, (getM mm x).getD (gi 0) = gi (numP o x) := fun x => by
            rw [hm9.get, numP]; cases pget (pairF o 0) x <;> rfl
          rw [hgt]
          simp (disch := omega) only [↓wr, ↓reduceIte, wq, eq_self, ne_eq, implies_true, oneV, intOp, goI, splice, sBuild, fillE, nilB, isNil, Nat.reduceEqDiff, Nat.reduceAdd, Nat.reduceLT, Nat.reduceLeDiff, Int.reduceNeg, Int.reduceToNat, reduceCtorEq, decide_true, decide_false, t1, t2, t7, t8, t9, t91, t92, t93]
          refine CallG.quietly (mo_CloneI r.right (by omega) _) ?_
          intro v H3 hv hfr
          have hoB := Owns.come (H := H2.set b16 (.arr 3 [encR r])) hoA hv (by rw [set_set] at hfr; exact hfr)
          have h9B : H3 b9 = .map (mapE mm) cc := by
            rw [(hfr b9 (by simp [View.set, n916, h9])).1]; simp [View.set, n916, h9]
          have cv := hv.cells
          have kv := hv.cok
          have lv := hv.len
          have f16 := hoB.is 1 rfl (by simp)
          simp only [encR, encI] at f16
          simp (disch := omega) only [↓wr, ↓reduceIte, wq, eq_self, ne_eq, implies_true, oneV, intOp, goI, splice, sBuild, fillE, nilB, isNil, Nat.reduceEqDiff, Nat.reduceAdd, Nat.reduceLT, Nat.reduceLeDiff, Int.reduceNeg, Int.reduceToNat, reduceCtorEq, decide_true, decide_false, t1, t2, t7, t8, t9, t91, t92, t93, f16, cv, kv]
          intro b17 hb17
          have hoC := hoB.new hb17 3 [[gi (numP o r.left), v, gi r.prec]]
          have n917 : b9 ≠ b17 := by rintro rfl; rw [h9B] at hb17; simp at hb17
          try simp (disch := omega) only [↓wr, ↓reduceIte, wq, eq_self, ne_eq, implies_true, oneV, intOp, goI, splice, sBuild, fillE, nilB, isNil, Nat.reduceEqDiff, Nat.reduceAdd, Nat.reduceLT, Nat.reduceLeDiff, Int.reduceNeg, Int.reduceToNat, reduceCtorEq, decide_true, decide_false, t1, t2, t7, t8, t9, t91, t92, t93, cv, kv, lv, set_set, List.length_map]
          generalize hL : ((V.sl b8 0 1 4, 4, [[u0, u1, u2, gi 0]]) :: (V.sl n3 0 kl.length 1, 1, intsE kl) ::
              (u1, 1, strsE (o.map fun x => g.nons.getD x.toNat ⟨#[]⟩)) :: (u0, 3, g.terms.map encT) :: (u2, 3, builtE bs) :: (V.sl b2 0 1 4, 4, [[V.emp 1, V.emp 1, V.emp 1, gi 0]]) :: builtL bs : List Ent) = L at hoC
          refine LoopG.up r.right.length (TedK g b2 b8 b9 b16 b17 (.sl n3 0 kl.length 1) v o kl mm cc r L i) ?_ ?_
          · exact ⟨by rw [set_set]; exact hoC, by simp [View.set, n917, h9B], t1, t2, t7, t8, t9, t91, t92, t93, rfl, rfl, rfl, rfl⟩
          clear hoA hoB hoC hb16 hb17 h9 h9B f16 hv hfr t1 t2 t7 t8 t9 t91 t92 t93
          rintro k k2 T H3 hk2 ⟨hoC, h9, t1, t2, t7, t8, t9, t91, t92, t93, t17, t113, t114, t115⟩
          have f17 := hoC.is 0 rfl (by simp)
          simp (disch := omega) only [↓wr, ↓reduceIte, wq, eq_self, ne_eq, implies_true, oneV, intOp, goI, splice, sBuild, fillE, nilB, isNil, Nat.reduceEqDiff, Nat.reduceAdd, Nat.reduceLT, Nat.reduceLeDiff, Int.reduceNeg, Int.reduceToNat, reduceCtorEq, decide_true, decide_false, B_trim_Reduce_1, t1, t2, t7, t8, t9, t91, t92, t93, t17, t113, t114, t115]
          refine GoB.dec (fun hcc => ?_) (fun hcc => ?_)
          · have hgs : r.right[k]? = some (r.right[k]'(by omega)) := List.getElem?_eq_getElem (by omega)
            have hms : r.right[k]'(by omega) ∈ r.right := List.getElem_mem _
            have hrl : (redRule (numP o) r).right.length = r.right.length := by simp [redRule]
            have hts : (redRule (numP o) r).right.take (k + 1) = (redRule (numP o) r).right.take k ++ [if r.right[k]'(by omega) < 0 then -1 - numP o (-1 - r.right[k]'(by omega)) else r.right[k]'(by omega)] := by
              rw [List.take_add_one]; simp [redRule, hgs]
            have hdr := drop_at (show k < r.right.length by omega)
            generalize r.right[k]'(by omega) = s at hgs hms hts hdr
            obtain ⟨⟨s1, s2⟩, s3⟩ := hsy s hms
            have hbd := numP_bd o (-1 - s)
            rw [hdr] at hoC
            have hlen : (((redRule (numP o) r).right.take k ++ s :: r.right.drop (k + 1)).map fun x => [gi x]).length = r.right.length := by simp; omega
            obtain ⟨nv, ev, hnv⟩ := (hoC.own 1 rfl).sl (by rw [hlen]; omega)
            rw [hlen] at ev
            subst ev
            have hlt : k < ((redRule (numP o) r).right.take k ++ s :: r.right.drop (k + 1)).length := by simp; omega
            have hbg2 := ints_get hlt
            have hel : ((redRule (numP o) r).right.take k ++ s :: r.right.drop (k + 1))[k]'hlt = s := by
              rw [List.getElem_append_right (by simp; omega)]
              simp [show k - min k r.right.length = 0 by omega, hrl]
            rw [hel] at hbg2
            simp (disch := omega) only [↓wr, ↓reduceIte, wq, eq_self, ne_eq, implies_true, oneV, intOp, goI, splice, sBuild, fillE, nilB, isNil, Nat.reduceEqDiff, Nat.reduceAdd, Nat.reduceLT, Nat.reduceLeDiff, Int.reduceNeg, Int.reduceToNat, reduceCtorEq, decide_true, decide_false, t1, t2, t7, t8, t9, t91, t92, t93, t17, t113, t114, t115, hnv, hbg2, List.length_map]
            refine ⟨by omega, hlt, ?_⟩
            have hlk : ((redRule (numP o) r).right.take k).length = k := by rw [List.length_take]; omega
            have nv9 : nv ≠ b9 := ne_map hoC 1 rfl h9
            refine GoB.dec (fun hneg => ?_) (fun hneg => ?_)
            · rw [if_pos hneg] at hts
              simp (disch := omega) only [↓wr, ↓reduceIte, wq, eq_self, ne_eq, implies_true, oneV, intOp, goI, splice, sBuild, fillE, nilB, isNil, Nat.reduceEqDiff, Nat.reduceAdd, Nat.reduceLT, Nat.reduceLeDiff, Int.reduceNeg, Int.reduceToNat, reduceCtorEq, decide_true, decide_false, t1, t2, t7, t8, t9, t91, t92, t93, t17, t113, t114, t115, f17]
              refine look1 (kt := 3) (et := 3) (z := gi 0) (by kernel_rfl) (by kernel_rfl) (keyInt .i64 Tryz.underlying3) (id := b9) (c := cc) (m := mm) (k := -1 - s) (by simp (disch := omega) only [↓wr, ↓reduceIte, wq, eq_self, ne_eq, implies_true, oneV, intOp, goI, splice, sBuild, fillE, nilB, isNil, Nat.reduceEqDiff, Nat.reduceAdd, Nat.reduceLT, Nat.reduceLeDiff, Int.reduceNeg, Int.reduceToNat, reduceCtorEq, decide_true, decide_false, t9]) (by simp (disch := omega) only [↓wr, ↓reduceIte, wq, eq_self, ne_eq, implies_true, oneV, intOp, goI, splice, sBuild, fillE, nilB, isNil, Nat.reduceEqDiff, Nat.reduceAdd, Nat.reduceLT, Nat.reduceLeDiff, Int.reduceNeg, Int.reduceToNat, reduceCtorEq, decide_true, decide_false]) h9 ?_
              rw [hgt]
              simp (disch := omega) only [↓wr, ↓reduceIte, wq, eq_self, ne_eq, implies_true, oneV, intOp, goI, splice, sBuild, fillE, nilB, isNil, Nat.reduceEqDiff, Nat.reduceAdd, Nat.reduceLT, Nat.reduceLeDiff, Int.reduceNeg, Int.reduceToNat, reduceCtorEq, decide_true, decide_false, t1, t2, t7, t8, t9, t91, t92, t93, t17, t113, t114, t115, f17, hnv, hbg2, List.length_map]
              refine ⟨by omega, hlt, ?_⟩
              have hoD := ((hoC.at 1 (by simp)).put (es' := ((((redRule (numP o) r).right.take k ++ s :: r.right.drop (k + 1)).map fun x => [gi x]).set k [gi (-1 - numP o (-1 - s))])) (by simp) (by rw [hlen])).perm (.swap _ _ _)
              refine up_next hk2 (by omega) ⟨?_, by simp only [View.set, if_neg nv9.symm]; exact h9, t1, t2, t7, t8, t9, t91, t92, t93, t17, t113, t114, rfl⟩
              rw [ints_set, set_mid hlk] at hoD
              rw [hts, List.append_assoc]
              rw [ints_set, set_mid hlk]
              exact hoD
            · rw [if_neg hneg] at hts
              simp (disch := omega) only [↓wr, ↓reduceIte, wq, eq_self, ne_eq, implies_true, oneV, intOp, goI, splice, sBuild, fillE, nilB, isNil, Nat.reduceEqDiff, Nat.reduceAdd, Nat.reduceLT, Nat.reduceLeDiff, Int.reduceNeg, Int.reduceToNat, reduceCtorEq, decide_true, decide_false, t1, t2, t7, t8, t9, t91, t92, t93, t17, t113, t114, t115]
              refine up_next hk2 (by omega) ⟨?_, h9, t1, t2, t7, t8, t9, t91, t92, t93, t17, t113, t114, rfl⟩
              rw [hts, List.append_assoc]
              exact hoC
          · rw [List.take_of_length_le (by simp [redRule]; omega), List.drop_eq_nil_of_le (by omega), List.append_nil] at hoC
            subst hL
            have f8 := hoC.is 3 rfl (by simp)
            have cv := (hoC.own 1 rfl).cells
            have kv := (hoC.own 1 rfl).cok
            have hbl : (builtE bs).length ≤ 40 := by
              have h1 := congrArg List.length hbs
              simp only [List.length_map, List.length_take] at h1
              simp only [builtE, List.length_map]
              omega
            simp (disch := omega) only [↓wr, ↓reduceIte, wq, eq_self, ne_eq, implies_true, oneV, intOp, goI, splice, sBuild, fillE, nilB, isNil, Nat.reduceEqDiff, Nat.reduceAdd, Nat.reduceLT, Nat.reduceLeDiff, Int.reduceNeg, Int.reduceToNat, reduceCtorEq, decide_true, decide_false, t1, t2, t7, t8, t9, t91, t92, t93, t17, t113, t114, t115, f8, f17, cv, kv]
            intro m hm
            have n9m : b9 ≠ m := by rintro rfl; rw [h9] at hm; simp at hm
            try simp (disch := omega) only [↓wr, ↓reduceIte, wq, eq_self, ne_eq, implies_true, oneV, intOp, goI, splice, sBuild, fillE, nilB, isNil, Nat.reduceEqDiff, Nat.reduceAdd, Nat.reduceLT, Nat.reduceLeDiff, Int.reduceNeg, Int.reduceToNat, reduceCtorEq, decide_true, decide_false, t1, t2, t7, t8, t9, t91, t92, t93, t17, elemsOf_new]
            have hoD := (hoC.fresh (o := .arr 3 [[gi (numP o r.left), v, gi r.prec]]) hm).at 7 (by simp)
            refine goApp_owns hoD (by simp [cok_val, kv]) (by unfold limit; simp at hbl ⊢; omega) (by unfold limit; simp at hbl ⊢; omega) ?_
            intro u2' H4 hoE hleft
            have cu := hoE.head.cells
            have ku := hoE.head.cok
            have f8' := hoE.is 4 rfl (by simp)
            have h9' : H4 b9 = .map (mapE mm) cc := hleft.map (b := b9) hoD.head (by simp [View.set, n9m, h9])
            have n98 : b9 ≠ b8 := (ne_map hoE 4 rfl h9').symm
            simp (disch := omega) only [↓wr, ↓reduceIte, wq, eq_self, ne_eq, implies_true, oneV, intOp, goI, splice, sBuild, fillE, nilB, isNil, Nat.reduceEqDiff, Nat.reduceAdd, Nat.reduceLT, Nat.reduceLeDiff, Int.reduceNeg, Int.reduceToNat, reduceCtorEq, decide_true, decide_false, t1, t2, t7, t8, t9, t91, t92, t93, t17, f8', cu, ku]
            have hoF := (hoE.at 4 (by simp)).put (es' := [[u0, u1, u2', gi 0]]) rfl rfl
            have hoG := ((((hoF.at 2 (by simp)).tail).at 3 (by simp)).tail)
            refine up_next hk (by omega) ⟨⟨u2', bs ++ [(v, redRule (numP o) r)], ?_, ?_, by simp only [View.set, if_neg n98]; exact h9'⟩, t1, t2, t7, t8, t9, t91, t92, rfl⟩
            · rw [List.map_append, hbs, htk, List.map_append]; rfl
            · refine hoG.perm (.cons _ ?_)
              simp only [builtL, builtE, List.map_append, List.map_cons, List.map_nil]
              refine .trans ?_ (perm_at _ 3 (by simp)).symm
              refine .cons _ ?_
              exact (List.perm_append_singleton (v, 1, intsE (redRule (numP o) r).right) ((.sl n3 0 kl.length 1, 1, intsE kl) :: (u1, 1, strsE (o.map fun x => g.nons.getD x.toNat ⟨#[]⟩)) :: (u0, 3, g.terms.map encT) :: (.sl b2 0 1 4, 4, [[.emp 1, .emp 1, .emp 1, gi 0]]) :: builtL bs)).symm
        · rw [List.take_of_length_le (by omega)] at hbs
          have f8 := ho.is 0 rfl (by simp)
          have f2 := ho.is 5 rfl (by simp)
          have n82 : b8 ≠ b2 := ho.dif 0 5 rfl rfl (by omega)
          have c1 := (ho.own 2 rfl).cells
          have k1 := (ho.own 2 rfl).cok
          have c2 := (ho.own 4 rfl).cells
          have k2 := (ho.own 4 rfl).cok
          have hgt : ∀ x, (getM mm x).getD (gi 0) = gi (numP o x) := fun x => by
            rw [hm9.get, numP]; cases pget (pairF o 0) x <;> rfl
          simp (disch := omega) only [↓wr, ↓reduceIte, wq, eq_self, ne_eq, implies_true, oneV, intOp, goI, splice, sBuild, fillE, nilB, isNil, Nat.reduceEqDiff, Nat.reduceAdd, Nat.reduceLT, Nat.reduceLeDiff, Int.reduceNeg, Int.reduceToNat, reduceCtorEq, decide_true, decide_false, t1, t2, t7, t8, t9, t91, t92, t93, encG]
          refine look1 (kt := 3) (et := 3) (z := gi 0) (by kernel_rfl) (by kernel_rfl) (keyInt .i64 Tryz.underlying3) (id := b9) (c := cc) (m := mm) (k := g.start) (by simp (disch := omega) only [↓wr, ↓reduceIte, wq, eq_self, ne_eq, implies_true, oneV, intOp, goI, splice, sBuild, fillE, nilB, isNil, Nat.reduceEqDiff, Nat.reduceAdd, Nat.reduceLT, Nat.reduceLeDiff, Int.reduceNeg, Int.reduceToNat, reduceCtorEq, decide_true, decide_false, t9]) (by simp (disch := omega) only [↓wr, ↓reduceIte, wq, eq_self, ne_eq, implies_true, oneV, intOp, goI, splice, sBuild, fillE, nilB, isNil, Nat.reduceEqDiff, Nat.reduceAdd, Nat.reduceLT, Nat.reduceLeDiff, Int.reduceNeg, Int.reduceToNat, reduceCtorEq, decide_true, decide_false]) h9 ?_
          rw [hgt]
          simp (disch := omega) only [↓wr, ↓reduceIte, wq, eq_self, ne_eq, implies_true, oneV, intOp, goI, splice, sBuild, fillE, nilB, isNil, Nat.reduceEqDiff, Nat.reduceAdd, Nat.reduceLT, Nat.reduceLeDiff, Int.reduceNeg, Int.reduceToNat, reduceCtorEq, decide_true, decide_false, t1, t2, t7, t8, t9, t91, t92, t93, f8, f2, n82, n82.symm, c0, k0, c1, k1, c2, k2]
          intro h' hh
          have hoA := ho.put (es' := [[u0, u1, u2, gi (numP o g.start)]]) rfl rfl
          have hoB := (hoA.at 5 (by simp)).put (es' := [[u0, u1, u2, gi (numP o g.start)]]) rfl rfl
          have hv : h'.view = (H2.set b8 (.arr 4 [[u0, u1, u2, gi (numP o g.start)]])).set b2 (.arr 4 [[u0, u1, u2, gi (numP o g.start)]]) := hh
          rw [← hv] at hoB
          exact frn_out (x := (⟨g.terms, o.map fun x => g.nons.getD x.toNat ⟨#[]⟩, (g.rules.filter (keepR p q)).map (redRule (numP o)), numP o g.start⟩, kl, 0)) (b := bs) (hoB.own 4 rfl) (hoB.own 3 rfl) (hoB.own 5 rfl) (fun y hy => hoB.1 y (by
            refine List.mem_cons_of_mem _ (List.mem_cons_of_mem _ (List.mem_cons_of_mem _ (List.mem_cons_of_mem _ (List.mem_cons_of_mem _ (List.mem_cons_of_mem _ ?_)))))
            exact hy)) hbs (hoB.own 2 rfl)
  · rename_i hr
    intro h' hh
    rw [if_neg (by simp [hr])]
    exact frn_none
end Gv

/-
  What a grammar is, reduced: what is looked up is there.
  Conditions: none.
-/
set_option linter.unusedSimpArgs false
namespace Gv
open Go Go.Proofs

theorem allG_le {l : List Int} {a b : List Bool} {t : Bool} (h : LeB a b) (k : allG l a t = true) : allG l b t = true := by
  simp only [allG, List.all_eq_true] at k ⊢
  intro s hs
  have := k s hs
  by_cases h0 : 0 ≤ s
  · rw [if_pos h0] at this ⊢; exact this
  · rw [if_neg h0] at this ⊢; exact h.2 _ this

theorem LeB.anti {a b : List Bool} (h : LeB a b) (k : LeB b a) : a = b := by
  have h1 := h.trues
  have h2 := k.trues
  exact h1.2 (by omega)

/-- Each that is there comes of a rule. -/
def Just (g : Gram) (t : Bool) (is : List Bool) : Prop := ∀ i, is.getD i false = true → ∃ r ∈ g.rules, r.left.toNat = i ∧ allG r.right is t = true

theorem Just.step {g : Gram} {t : Bool} {is : List Bool} {r : Rule} (h : Just g t is) (hr : r ∈ g.rules) : Just g t (step11 t is r) := by
  have hle : LeB is (step11 t is r) := by
    unfold step11
    split
    · exact .set _ _
    · exact .refl _
  intro i hi
  by_cases e : is.getD i false = true
  · obtain ⟨r', h1, h2, h3⟩ := h i e
    exact ⟨r', h1, h2, allG_le hle h3⟩
  · unfold step11 at hi
    by_cases ha : allG r.right is t = true
    · rw [if_pos ha] at hi
      have : r.left.toNat = i := by
        refine Classical.byContradiction fun hne => e ?_
        simp only [List.getD_eq_getElem?_getD, List.getElem?_set, if_neg hne] at hi ⊢
        exact hi
      exact ⟨r, hr, this, allG_le hle ha⟩
    · rw [if_neg ha] at hi; exact absurd hi e

theorem Just.fold {g : Gram} {t : Bool} : ∀ (l : List Rule) (is : List Bool), (∀ r ∈ l, r ∈ g.rules) → Just g t is → Just g t (l.foldl (step11 t) is)
  | [], is, _, h => h
  | r :: l, is, hl, h => Just.fold l _ (fun x hx => hl x (by simp [hx])) (h.step (hl r (by simp)))

theorem Just.iter {g : Gram} {t : Bool} : ∀ (n : Nat) (is : List Bool), Just g t is → Just g t (iter (round11 g t) n is)
  | 0, _, h => h
  | n + 1, is, h => Just.iter n _ (Just.fold g.rules is (fun _ h => h) h)

theorem just_grown (g : Gram) (t : Bool) : Just g t (grown09 g t) := by
  unfold grown09
  split
  · refine Just.iter _ _ ?_
    intro i hi
    simp only [none11, List.getD_eq_getElem?_getD, List.getElem?_replicate] at hi
    split at hi <;> simp at hi
  · intro i hi; simp at hi

theorem mark_le (is : List Bool) (s : Int) : LeB is (mark is s) := by
  unfold mark
  split
  · exact .set _ _
  · exact .refl _
theorem marks_le : ∀ (l : List Int) (is : List Bool), LeB is (l.foldl mark is)
  | [], is => .refl _
  | s :: l, is => (mark_le is s).trans (marks_le l _)
theorem stepR_le (p is : List Bool) (r : Rule) : LeB is (stepR p is r) := by
  unfold stepR
  split
  · exact marks_le _ _
  · exact .refl _
theorem foldR_le (p : List Bool) : ∀ (l : List Rule) (is : List Bool), LeB is (l.foldl (stepR p) is)
  | [], is => .refl _
  | r :: l, is => (stepR_le p is r).trans (foldR_le p l _)

theorem fixR_step {p : List Bool} : ∀ {l : List Rule} {is : List Bool}, l.foldl (stepR p) is = is → ∀ r ∈ l, stepR p is r = is
  | [], _, _, _, h => by simp at h
  | r :: l, is, h, x, hx => by
    rw [List.foldl_cons] at h
    have h1 := foldR_le p l (stepR p is r)
    rw [h] at h1
    have h2 := (h1.anti (stepR_le p is r))
    rcases List.mem_cons.1 hx with rfl | hx
    · exact h2
    · rw [h2] at h; exact fixR_step h x hx
theorem fixM_step : ∀ {l : List Int} {is : List Bool}, l.foldl mark is = is → ∀ s ∈ l, mark is s = is
  | [], _, _, _, h => by simp at h
  | r :: l, is, h, x, hx => by
    rw [List.foldl_cons] at h
    have h1 := marks_le l (mark is r)
    rw [h] at h1
    have h2 := (h1.anti (mark_le is r))
    rcases List.mem_cons.1 hx with rfl | hx
    · exact h2
    · rw [h2] at h; exact fixM_step h x hx

theorem reach_fix {g : Gram} (hr : right09 g = true) : roundR g (grown09 g true) (reach09 g) = reach09 g ∧ LeB ((none11 g).set g.start.toNat true) (reach09 g) := by
  have hf := right09_fine hr
  have h := growG_fix (comesR (grown09 g true)) g.rules 16 ((none11 g).set g.start.toNat true) (by have := hf.nons; simp [none11]; omega)
  rw [round_R, grow_R hr] at h
  exact h

theorem reach_start {g : Gram} (hr : right09 g = true) : (reach09 g).getD g.start.toNat false = true := by
  have hf := right09_fine hr
  refine (reach_fix hr).2.2 _ ?_
  have h3 := hf.start0
  have h4 := hf.start
  simp only [List.getD_eq_getElem?_getD]
  rw [List.getElem?_set_self (by simp [none11]; omega)]
  rfl

theorem reach_next {g : Gram} (hr : right09 g = true) {r : Rule} (hm : r ∈ g.rules) (hk : keepR (grown09 g true) (reach09 g) r = true) {s : Int} (hs : s ∈ r.right) (hn : s < 0) : (reach09 g).getD (-1 - s).toNat false = true := by
  have hf := right09_fine hr
  have h1 := fixR_step (reach_fix hr).1 r hm
  unfold stepR at h1
  rw [keepR] at hk
  rw [if_pos hk] at h1
  have h2 := fixM_step h1 s hs
  unfold mark at h2
  rw [if_pos hn] at h2
  rw [← h2]
  have hl := reach09_len hr
  have := hf.neg hm hs hn
  simp only [List.getD_eq_getElem?_getD]
  rw [List.getElem?_set_self (by omega)]
  rfl

theorem in_ord {g : Gram} (hr : right09 g = true) {x : Int} (h0 : 0 ≤ x) (hp : (grown09 g true).getD x.toNat false = true) (hq : (reach09 g).getD x.toNat false = true) : x ∈ ordO (grown09 g true) (reach09 g) g.rules := by
  obtain ⟨r, h1, h2, h3⟩ := just_grown g true _ hp
  have hf := right09_fine hr
  have h4 := hf.left r h1
  have : r.left = x := by omega
  refine mem_ordO.2 ⟨r, h1, ?_, this⟩
  rw [keepR, this, hq, h3]; rfl

theorem reduce09_P (g : Gram) : (if right09 g = true then
    if (grown09 g true).getD g.start.toNat false = true then (redG g (numP (ordO (grown09 g true) (reach09 g) g.rules)) (grown09 g true) (reach09 g), keptI (grown09 g true) (reach09 g) g.rules 0, 0)
    else (noG, [], 9)
  else (noG, [], 1)) = reduce09 g := by
  unfold reduce09
  by_cases hr : right09 g = true
  · rw [if_pos hr, if_pos hr]
    by_cases hp : (grown09 g true).getD g.start.toNat false = true
    · rw [if_pos hp, if_pos hp]
      have hf := right09_fine hr
      rw [redG_same]
      · exact in_ord hr hf.start0 hp (reach_start hr)
      · intro r hm
        obtain ⟨h1, h2⟩ := List.mem_filter.1 hm
        refine ⟨mem_ordO.2 ⟨r, h1, h2, rfl⟩, fun s hs hn => ?_⟩
        refine in_ord hr (by omega) ?_ (reach_next hr h1 h2 hs hn)
        rw [keepR, Bool.and_eq_true] at h2
        have := h2.2
        simp only [allG, List.all_eq_true] at this
        have := this s hs
        rwa [if_neg (by omega)] at this
    · rw [if_neg hp, if_neg hp]
  · rw [if_neg hr, if_neg hr]

/-- The program reduces as the document does. -/
theorem pn_tReduce (g : Gram) (hg : g.Ok) (hs : g.Small) : PNew Tryz.prog 24 [.agg (encG g)] (outR (reduce09 g)) := by
  rw [← reduce09_P]; exact pn_tReduce0 g hg hs

end Gv

/-
  Structs are equal if their fields are.
  Conditions: the fields are numbers or strings.
-/
set_option linter.unusedSimpArgs false
namespace Gv
open Go

theorem pureRun_part {P : Program} {t : TypeId} {d : TypeDesc} (hu : P.underlying t = some d) (hd : d = .string ∨ ∃ k, d = .int k) (cs : Array Value) (off : Nat) {v : Value} (hv : cs[off]? = some v) : pureRun P (part t cs off) = some v := by
  have h0 : pureRun P (isAgg t) = some false := by
    rcases hd with rfl | ⟨k, rfl⟩
    all_goals simp only [isAgg, pureRun_bind, pureRun_under hu, Option.bind_some]; rfl
  simp only [part, pureRun_bind, h0, Option.bind_some, Bool.false_eq_true, if_false, hv]
  rfl

/-- Field by field. -/
inductive FieldsEq (P : Program) (d : Nat) (xs ys : Array Value) : List Field → Bool → Prop
  | nil : FieldsEq P d xs ys [] true
  | str (f : Field) (l : List Field) (c : Bool) (a b : ByteArray) : (f.name ≠ "_") → P.underlying f.type = some .string → xs[f.offset]? = some (.string a) → ys[f.offset]? = some (.string b) → FieldsEq P d xs ys l c → FieldsEq P d xs ys (f :: l) (a == b && c)
  | int (f : Field) (l : List Field) (c : Bool) (k : IntKind) (a b : Int) : (f.name ≠ "_") → P.underlying f.type = some (.int k) → xs[f.offset]? = some (.int k a) → ys[f.offset]? = some (.int k b) → FieldsEq P d xs ys l c → FieldsEq P d xs ys (f :: l) (a == b && c)

theorem FieldsEq.forIn {P : Program} {d e : Nat} {xs ys : Array Value} {l : List Field} {c : Bool} (h : FieldsEq P d xs ys l c) (hd : e = d + 1) :
    pureRun P (forIn l ((none : Option Bool), ()) fun f _ =>
        if f.name ≠ "_" then do
          let a ← part f.type xs f.offset
          let b ← part f.type ys f.offset
          let e ← Op.equalIn e f.type a b
          if (!e) = true then pure (ForInStep.done (some false, ())) else pure (ForInStep.yield (none, ()))
        else pure (ForInStep.yield (none, ()))) = some (if c = true then (none, ()) else (some false, ())) := by
  subst hd
  induction h with
  | nil => rfl
  | str f l c a b hn hu hx hy _ ih =>
    have he : pureRun P (Op.equalIn (d + 1) f.type (.string a) (.string b)) = some (a == b) := by
      simp only [Op.equalIn, pureRun_bind, pureRun_under hu, Option.bind_some]; rfl
    rw [List.forIn_cons, pureRun_bind, if_pos hn, pureRun_bind, pureRun_part hu (.inl rfl) xs _ hx, Option.bind_some, pureRun_bind, pureRun_part hu (.inl rfl) ys _ hy, Option.bind_some, pureRun_bind, he, Option.bind_some]
    cases a == b with
    | false => rfl
    | true => exact ih
  | int f l c k a b hn hu hx hy _ ih =>
    have he : pureRun P (Op.equalIn (d + 1) f.type (.int k a) (.int k b)) = some (a == b) := by
      simp only [Op.equalIn, pureRun_bind, pureRun_under hu, Option.bind_some]; rfl
    rw [List.forIn_cons, pureRun_bind, if_pos hn, pureRun_bind, pureRun_part hu (.inr ⟨k, rfl⟩) xs _ hx, Option.bind_some, pureRun_bind, pureRun_part hu (.inr ⟨k, rfl⟩) ys _ hy, Option.bind_some, pureRun_bind, he, Option.bind_some]
    cases a == b with
    | false => rfl
    | true => exact ih

theorem pureRun_structEq {P : Program} {t : TypeId} {fs : Array Field} {xs ys : Array Value} {c : Bool} (hu : P.underlying t = some (.struct fs)) (hs : P.stoodInHeld t = false) (h : FieldsEq P 9998 xs ys fs.toList c) :
    pureRun P (Op.equal t (.agg xs) (.agg ys)) = some c := by
  rw [equal_succ]
  rw [Op.equalIn, pureRun_bind, pureRun_under hu, Option.bind_some]
  have hst : (pureRun P program) = some P := rfl
  rw [pureRun_bind, hst, Option.bind_some, hs]
  simp only [← Array.forIn_toList, Bool.false_eq_true, if_false]
  rw [pureRun_bind, h.forIn (e := 9999) rfl, Option.bind_some]
  cases c <;> rfl

theorem aPure_structEq {P : Program} {o : Oper} {T : Env} {op : BinOp} {t u : TypeId} {x y : Operand} {fs : Array Field} {xs ys : Array Value} {c r : Bool} (ho : o.op = .binOp op t x y u) (hu : P.underlying t = some (.struct fs)) (hs : P.stoodInHeld t = false) (hg : P.eqGuardType P.depth t = false)
    (hx : toVal (ev T x) = some (.agg xs)) (hy : toVal (ev T y) = some (.agg ys)) (h : FieldsEq P 9998 xs ys fs.toList c) (hr : (op = .eql ∧ r = c) ∨ (op = .neq ∧ r = !c)) :
    aPure P o T = some (.val (.bool r), .none, []) := by
  have he := pureRun_structEq hu hs h
  have hst : (pureRun P program) = some P := rfl
  unfold aPure
  simp only [ho, Op.operands, hx, hy]
  rcases hr with ⟨rfl, rfl⟩ | ⟨rfl, rfl⟩
  · simp [execOp, ho, hx, hy, eqGuard, binOp, pureRun_map, pureRun_bind, hst, hg, he, plain]
    try simp [pureRun, pure, plain]
  · simp [execOp, ho, hx, hy, eqGuard, binOp, pureRun_map, pureRun_bind, hst, hg, he, plain]
    try simp [pureRun, pure, plain, bne]

theorem oldStructEq {P : Program} {T : Env} {H : View} {K : V → View → Prop} {w : Veil (T, H, K)} {op : BinOp} {t u ty : TypeId} {x y : Operand} {fs : Array Field} {xs ys : Array Value} {c r : Bool} (hu : P.underlying t = some (.struct fs)) (hs : P.stoodInHeld t = false) (hg : P.eqGuardType P.depth t = false)
    (hx : toVal (ev T x) = some (.agg xs)) (hy : toVal (ev T y) = some (.agg ys)) (h : FieldsEq P 9998 xs ys fs.toList c) (hr : (op = .eql ∧ r = c) ∨ (op = .neq ∧ r = !c)) (hk : K (.val (.bool r)) H) : GoOld P (.binOp op t x y u) ty T H K w := by
  intro n _
  refine ⟨.val (.bool r), .none, [], ?_, hk⟩
  have hn : nilKind P t = none := by simp [nilKind, hu]
  simp only [sI, aop, oper, hn]
  simp only [Option.isSome_none, Bool.false_eq_true, if_false]
  exact aPure_structEq rfl hu hs hg hx hy h hr

end Gv
