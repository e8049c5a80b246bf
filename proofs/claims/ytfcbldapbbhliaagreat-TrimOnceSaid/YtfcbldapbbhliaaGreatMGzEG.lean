/-
  Part 7 of the proof: what the machine does and what the functions answer.
  Conditions: those that each lemma names.
-/
import Derived.Shelf.SlIter.Sorted
import Derived.Shelf.SortM.Plain
import Derived.Shelf.SortM.SortNone
import Derived.Shelf.SlicesG.CompactS
import Derived.Test.YtfcbldapbbhliaaGreatMGzEF
set_option linter.unusedSimpArgs false
set_option linter.unusedVariables false

/-
  Maps whose keys are numbers or texts: what looking up, writing, counting answer.
  Conditions: none beyond those that each lemma names.
-/
set_option linter.unusedSimpArgs false
namespace Gv
open Go

/-- What a map holds: keys, values, when each was put there. -/
abbrev MapL (κ : Type) := List (κ × V × Nat)
def encM {κ : Type} (key : κ → Value) (m : MapL κ) : List (V × V × Nat) := m.map fun x => (.val (key x.1), x.2.1, x.2.2)
def getM {κ : Type} [BEq κ] (m : MapL κ) (k : κ) : Option V := (m.find? fun x => k == x.1).map (·.2.1)
def putM {κ : Type} [BEq κ] (k : κ) (v : V) (c : Nat) : MapL κ → MapL κ
  | [] => [(k, v, c)]
  | x :: r => if k == x.1 then (k, v, x.2.2) :: r else x :: putM k v c r
def hasM {κ : Type} [BEq κ] (m : MapL κ) (k : κ) : Bool := m.any fun x => k == x.1

/-- Keys that the model compares at once. -/
structure KeyK {κ : Type} [BEq κ] (P : Program) (kt : TypeId) (key : κ → Value) : Prop where
  ty : ∃ d, P.underlying kt = some d ∧ (∀ a b, Instr.sameNow d (key a) (key b) = some (a == b)) ∧ (∀ a e, pureRun P (Instr.checkKey e 10000 kt (key a)) = some ())
  bits : ∀ a b, (a == b) = true → Instr.sameBits 10000 (key b) (key a) = true

theorem entriesFor_enc {κ : Type} (key : κ → Value) : ∀ m : MapL κ, entriesFor (encM key m) = some (m.map fun x => { key := key x.1, val := .nilFunc, born := x.2.2 })
  | [] => rfl
  | x :: r => by
    have := entriesFor_enc key r
    simp only [encM] at this
    simp [encM, entriesFor, toVal, this]

def idxM {κ : Type} [BEq κ] (k : κ) : MapL κ → Option Nat
  | [] => none
  | x :: r => if k == x.1 then some 0 else (idxM k r).map (· + 1)

theorem findNow_enc {κ : Type} [BEq κ] {key : κ → Value} {d : TypeDesc} (h : ∀ a b, Instr.sameNow d (key a) (key b) = some (a == b)) (k : κ) : ∀ (m : MapL κ) (i : Nat),
    Instr.findNow d (key k) (m.map fun x => { key := key x.1, val := .nilFunc, born := x.2.2 }) i = some ((idxM k m).map fun j => (i + j, .nilFunc))
  | [], i => rfl
  | x :: r, i => by
    simp only [List.map_cons, Instr.findNow, h, idxM]
    cases hk : k == x.1 with
    | true => simp
    | false =>
      simp only [findNow_enc h k r (i + 1), Bool.false_eq_true, if_false, Option.map_map]
      congr 2
      funext j
      simp only [Function.comp]
      congr 1
      omega

theorem findV_enc {κ : Type} [BEq κ] {P : Program} {kt : TypeId} {key : κ → Value} (h : KeyK P kt key) (k : κ) (e : Bool) (m : MapL κ) : findV P kt (.val (key k)) e (encM key m) = some (idxM k m) := by
  obtain ⟨d, hd, hn, hc⟩ := h.ty
  have hu : pureRun P (underlying kt) = some d := pureRun_under hd
  simp only [findV, toVal, entriesFor_enc, pureRun_bind, hc, Option.bind_some]
  have : pureRun P (Instr.findKey kt (key k) (m.map fun x => { key := key x.1, val := .nilFunc, born := x.2.2 })) = some ((idxM k m).map fun j => (0 + j, .nilFunc)) := by
    unfold Instr.findKey
    rw [pureRun_bind, hu, Option.bind_some, findNow_enc hn]
    rfl
  rw [this]
  cases idxM k m with
  | none => rfl
  | some j => simp

theorem pure_check {P : Program} {kt : TypeId} {d : TypeDesc} (h : P.underlying kt = some d) (hd : match d with | .int _ | .string | .bool => True | _ => False) (e : Bool) (n : Nat) (v : Value) : pureRun P (Instr.checkKey e (n + 1) kt v) = some () := by
  unfold Instr.checkKey
  rw [pureRun_bind, pureRun_under h, Option.bind_some]
  cases d <;> first | exact hd.elim | rfl

theorem keyInt {P : Program} {kt : TypeId} (k : IntKind) (h : P.underlying kt = some (.int k)) : KeyK P kt (Value.int k) where
  ty := ⟨_, h, fun a b => by simp [Instr.sameNow], fun a e => pure_check h trivial e 9999 _⟩
  bits := fun a b hab => by
    have : a = b := by simpa using hab
    subst this
    simp [Instr.sameBits]

theorem idxM_get {κ : Type} [BEq κ] {key : κ → Value} (k : κ) : ∀ m : MapL κ, match idxM k m with
    | some i => ∃ x, m[i]? = some x ∧ (k == x.1) = true ∧ getM m k = some x.2.1 ∧ (encM key m)[i]? = some (.val (key x.1), x.2.1, x.2.2) ∧ ∀ v c, (encM key m).set i (.val (key k), v, x.2.2) = encM key (putM k v c m) ∧ (putM k v c m).length = m.length
    | none => getM m k = none ∧ ∀ v c, encM key m ++ [(.val (key k), v, c)] = encM key (putM k v c m) ∧ (putM k v c m).length = m.length + 1
  | [] => ⟨rfl, fun v c => ⟨rfl, rfl⟩⟩
  | x :: r => by
    have ih := idxM_get (key := key) k r
    simp only [idxM]
    cases hk : k == x.1 with
    | true => exact ⟨x, rfl, hk, by simp [getM, hk], rfl, fun v c => by simp [putM, hk, encM]⟩
    | false =>
      simp only [Bool.false_eq_true, if_false]
      cases hi : idxM k r with
      | some i =>
        rw [hi] at ih
        obtain ⟨y, h1, h2, h3, h4, h5⟩ := ih
        refine ⟨y, by simpa using h1, h2, by simpa [getM, hk] using h3, by simpa [encM] using h4, fun v c => ?_⟩
        obtain ⟨g1, g2⟩ := h5 v c
        exact ⟨by simp only [encM] at g1 ⊢; simp [putM, hk, g1], by simp [putM, hk, g2]⟩
      | none =>
        rw [hi] at ih
        refine ⟨by simpa [getM, hk] using ih.1, fun v c => ?_⟩
        obtain ⟨g1, g2⟩ := ih.2 v c
        exact ⟨by simp only [encM] at g1 ⊢; simp [putM, hk, g1], by simp [putM, hk, g2]⟩

section
variable {P : Program} {T : Env} {H : View} {κ : Type} [BEq κ] {key : κ → Value} {kt et t ty : TypeId}

/-- Looking up, the zero value where there is none. -/
theorem look1 {K : V → View → Prop} {w : Veil (T, H, K)} {x i : Operand} {z : V} {id c : Nat} {m : MapL κ} {k : κ} (hm : mapTypes P t = some (kt, et)) (hz : zeroV P et = some z) (hk : KeyK P kt key)
    (hx : ev T x = .mp id) (hi : ev T i = .val (key k)) (hH : H id = .map (encM key m) c) (h : K ((getM m k).getD z) H) : GoOld P (.lookup t x i false) ty T H K w := by
  intro n _
  have hf := findV_enc hk k (encM key m).isEmpty m
  have hg := idxM_get (key := key) k m
  refine ⟨(getM m k).getD z, .none, [id], ?_, h⟩
  simp only [sI, aop, oper, aLookup, hm, hz, hx, hi, hH, hf]
  cases hj : idxM k m with
  | some j =>
    rw [hj] at hg
    obtain ⟨y, h1, h2, h3, h4, _⟩ := hg
    simp [h4, h3]
  | none =>
    rw [hj] at hg
    simp [hg.1]

/-- Looking up, and whether there is one. -/
theorem look2 {K : V → View → Prop} {w : Veil (T, H, K)} {x i : Operand} {z : V} {id c : Nat} {m : MapL κ} {k : κ} (hm : mapTypes P t = some (kt, et)) (hz : zeroV P et = some z) (hk : KeyK P kt key)
    (hx : ev T x = .mp id) (hi : ev T i = .val (key k)) (hH : H id = .map (encM key m) c) (h : K (.tup [(getM m k).getD z, .val (.bool (getM m k).isSome)]) H) : GoOld P (.lookup t x i true) ty T H K w := by
  intro n _
  have hf := findV_enc hk k (encM key m).isEmpty m
  have hg := idxM_get (key := key) k m
  refine ⟨_, .none, [id], ?_, h⟩
  simp only [sI, aop, oper, aLookup, hm, hz, hx, hi, hH, hf]
  cases hj : idxM k m with
  | some j =>
    rw [hj] at hg
    obtain ⟨y, h1, h2, h3, h4, _⟩ := hg
    simp [h4, h3]
  | none =>
    rw [hj] at hg
    simp [hg.1]

theorem keyPlain (hk : KeyK P kt key) (k k' : κ) (h : (k == k') = true) : sameKey (.val (key k')) (.val (key k)) = true := by
  simp only [sameKey, toVal]; exact hk.bits _ _ h

/-- Writing. -/
theorem mapPut {K : V → View → Prop} {w : Veil (T, H, K)} {x i y : Operand} {id c : Nat} {m : MapL κ} {k : κ} {v : V} (hm : mapTypes P t = some (kt, et)) (hk : KeyK P kt key)
    (hx : ev T x = .mp id) (hi : ev T i = .val (key k)) (hy : ev T y = v) (hH : H id = .map (encM key m) c)
    (h : ∀ c', K .any (H.set id (.map (encM key (putM k v c m)) c'))) : GoOld P (.mapUpdate t x i y) ty T H K w := by
  intro n _
  have hf := findV_enc hk k false m
  have hg := idxM_get (key := key) k m
  cases hj : idxM k m with
  | some j =>
    rw [hj] at hg hf
    obtain ⟨z, h1, h2, h3, h4, h5⟩ := hg
    refine ⟨.any, .upd id (.map ((encM key m).set j (.val (key k), v, z.2.2)) c), [id], ?_, ?_⟩
    · simp only [sI, aop, oper, aMapUpdate, hm, hx, hi, hy, hH, hf, h4, keyPlain hk k z.1 h2, if_true]
    · rw [(h5 v c).1]; exact h c
  | none =>
    rw [hj] at hg hf
    refine ⟨.any, .upd id (.map (encM key m ++ [(.val (key k), v, c)]) (c + 1)), [id], ?_, ?_⟩
    · simp only [sI, aop, oper, aMapUpdate, hm, hx, hi, hy, hH, hf]
    · rw [(hg.2 v c).1]; exact h (c + 1)

omit [BEq κ] in
/-- How many. -/
theorem mapLen {K : V → View → Prop} {w : Veil (T, H, K)} {x : Operand} {id c : Nat} {m : MapL κ} (hm : mapTypes P t = some (kt, et)) (hx : ev T x = .mp id) (hH : H id = .map (encM key m) c) (h : K (goI m.length) H) :
    GoOld P (.call { callee := .builtin .len, args := #[x], argTypes := #[t] }) ty T H K w := by
  intro n _
  have hu : ∃ a b, P.underlying t = some (.map a b) := by
    unfold mapTypes at hm
    split at hm
    · rename_i a b h1; exact ⟨a, b, h1⟩
    · simp at hm
  obtain ⟨a, b, hu⟩ := hu
  refine ⟨goI m.length, .none, [id], ?_, h⟩
  have hl : (encM key m).length = m.length := by simp [encM]
  simp only [sI, aop, oper, List.size_toArray, List.length_cons, List.length_nil, aLen, hu, hx, hH, hl]
  simp [hu, hx, hH, hl, aLen]
end

theorem getM_put {κ : Type} [BEq κ] [LawfulBEq κ] (k k' : κ) (v : V) (c : Nat) : ∀ m : MapL κ, getM (putM k v c m) k' = if k' == k then some v else getM m k'
  | [] => by
    by_cases h : k' = k
    · subst h; simp [putM, getM]
    · simp [putM, getM, h]
  | x :: r => by
    have ih := getM_put k k' v c r
    simp only [putM]
    by_cases hk : k = x.1
    · by_cases h : k' = k
      · subst h; simp [hk, getM]
      · have : ¬ k' = x.1 := fun e => h (e.trans hk.symm)
        simp [hk, getM, this]
    · simp only [beq_iff_eq, hk, if_false]
      by_cases h : k' = x.1
      · have : ¬ k' = k := fun e => hk (e.symm.trans h)
        simp [getM, h]
        subst h
        simp [this]
      · simp only [getM, List.find?_cons, beq_eq_false_iff_ne.2 h] at ih ⊢
        exact ih

theorem length_put {κ : Type} [BEq κ] (k : κ) (v : V) (c : Nat) (m : MapL κ) : (putM k v c m).length = if (getM m k).isSome then m.length else m.length + 1 := by
  have hg := idxM_get (key := fun _ => Value.nilFunc) k m
  cases hj : idxM k m with
  | some j =>
    rw [hj] at hg
    obtain ⟨z, h1, h2, h3, h4, h5⟩ := hg
    rw [(h5 v c).2, h3]; rfl
  | none =>
    rw [hj] at hg
    rw [(hg.2 v c).2, hg.1]; rfl

/-! maps as plain lists of pairs -/
def pget {κ β : Type} [BEq κ] (a : List (κ × β)) (k : κ) : Option β := (a.find? fun x => k == x.1).map (·.2)
def pput {κ β : Type} [BEq κ] (k : κ) (v : β) : List (κ × β) → List (κ × β)
  | [] => [(k, v)]
  | x :: r => if k == x.1 then (k, v) :: r else x :: pput k v r

def MRel {κ β : Type} (encV : β → V) : List (κ × β) → MapL κ → Prop
  | [], [] => True
  | x :: a, y :: m => y.1 = x.1 ∧ y.2.1 = encV x.2 ∧ MRel encV a m
  | _, _ => False

theorem MRel.get {κ β : Type} [BEq κ] {encV : β → V} (k : κ) : ∀ {a : List (κ × β)} {m : MapL κ}, MRel encV a m → getM m k = (pget a k).map encV
  | [], [], _ => rfl
  | x :: a, y :: m, ⟨h1, h2, h3⟩ => by
    have ih := MRel.get k h3
    simp only [getM, pget, List.find?_cons, h1] at ih ⊢
    cases k == x.1 with
    | true => simp [h2]
    | false => simpa using ih

theorem MRel.put {κ β : Type} [BEq κ] {encV : β → V} (k : κ) (v : β) (c : Nat) : ∀ {a : List (κ × β)} {m : MapL κ}, MRel encV a m → MRel encV (pput k v a) (putM k (encV v) c m)
  | [], [], _ => ⟨rfl, rfl, trivial⟩
  | x :: a, y :: m, ⟨h1, h2, h3⟩ => by
    have ih := MRel.put k v c h3
    simp only [pput, putM, h1]
    cases k == x.1 with
    | true => exact ⟨rfl, rfl, h3⟩
    | false => exact ⟨h1, h2, ih⟩

theorem MRel.len {κ β : Type} {encV : β → V} : ∀ {a : List (κ × β)} {m : MapL κ}, MRel encV a m → m.length = a.length
  | [], [], _ => rfl
  | x :: a, y :: m, ⟨_, _, h3⟩ => by simp [MRel.len h3]

theorem pget_put {κ β : Type} [BEq κ] [LawfulBEq κ] (k k' : κ) (v : β) : ∀ a : List (κ × β), pget (pput k v a) k' = if k' == k then some v else pget a k'
  | [] => by
    by_cases h : k' = k
    · subst h; simp [pput, pget]
    · simp [pput, pget, h]
  | x :: r => by
    have ih := pget_put k k' v r
    simp only [pput]
    by_cases hk : k = x.1
    · by_cases h : k' = k
      · subst h; simp [hk, pget]
      · have : ¬ k' = x.1 := fun e => h (e.trans hk.symm)
        simp [hk, pget, this]
    · simp only [beq_iff_eq, hk, if_false]
      by_cases h : k' = x.1
      · have : ¬ k' = k := fun e => hk (e.symm.trans h)
        simp [pget, h]
        subst h
        simp [this]
      · simp only [pget, List.find?_cons, beq_eq_false_iff_ne.2 h] at ih ⊢
        exact ih

/-! loops that count up -/
def UpN (n k : Nat) (J : Nat → Env → View → Prop) (T : Env) (H : View) : Prop := ∃ i, i + k = n ∧ J i T H

theorem LoopG.up {P : Program} {T : Env} {H : View} {c : SC} {Q : Exit → Env → View → Prop} {v : Veil (T, H, Q)} (n : Nat) (J : Nat → Env → View → Prop) (h0 : J 0 T H)
    (hs : ∀ i k T H, i + k = n → J i T H → wS P c T H fun e T' H' => ifN e (∃ k', k' < k ∧ UpN n k' J T' H') (Q e T' H')) : LoopG P c T H Q v :=
  LoopG.intro (fun k T H => UpN n k J T H) n ⟨0, by omega, h0⟩ fun k T H ⟨i, hk, hj⟩ => hs i k T H hk hj

theorem up_next {n i k : Nat} {J : Nat → Env → View → Prop} {T : Env} {H : View} (hk : i + k = n) (hlt : i < n) (hJ : J (i + 1) T H) : ∃ k', k' < k ∧ UpN n k' J T H := ⟨k - 1, by omega, i + 1, by omega, hJ⟩

end Gv

/-
  Lists asked element by element; names; what the program's own functions on grammars answer.
  Conditions: lists that are no longer than an int says, numbers that are ints.
-/
set_option linter.unusedSimpArgs false
set_option maxRecDepth 100000
namespace Gv
open Go Go.Proofs

/-- The place of the first that is so; -1: there is none. -/
def idxF {α : Type} (p : α → Bool) : List α → Int → Int
  | [], _ => -1
  | x :: l, i => if p x then i else idxF p l (i + 1)

theorem idxF_any {α : Type} (p : α → Bool) : ∀ (l : List α) (i : Int), 0 ≤ i → decide (0 ≤ idxF p l i) = l.any p
  | [], _, _ => by simp [idxF]
  | x :: l, i, h => by
    have ih := idxF_any p l (i + 1) (by omega)
    rw [List.any_cons, idxF]
    by_cases hp : p x = true
    · rw [if_pos hp, hp]; simp [h]
    · rw [if_neg hp, ih]; simp [hp]

theorem fn_tree {f : FuncId} {xs cap : List V} (h : ∀ v ∈ xs, Tree v) (h2 : ∀ v ∈ cap, Tree v) : Tree (.fn f xs cap) := by
  refine .fn _ _ _ (fun i hi => ?_) (fun i hi => ?_)
  · have e2 : xs.getD i .any = xs[i] := by simp [List.getD_eq_getElem?_getD, hi]
    rw [e2]; exact h _ (List.getElem_mem _)
  · have e2 : cap.getD i .any = cap[i] := by simp [List.getD_eq_getElem?_getD, hi]
    rw [e2]; exact h2 _ (List.getElem_mem _)

def B_slices_IndexFunc___int_int__0 : SC :=
  .seq (.region false [⟨none, [((some 9), .op (.arith .lss (.tmp 8) (.tmp 7)))]⟩]) <|
  .seq (.cond (.tmp 9) (.skip) (.exit 0)) <|
  .seq (.block 1 (.seq (.region false [⟨none, [((some 10), .op (.mov (.tmp 8))), ((some 5), .op (.mov (.tmp 10)))]⟩]) <|
  .seq (.region false [⟨none, [((some 11), .op (.mov (.tmp 1))), ((some 12), .op (.mov (.tmp 0))), ((some 13), .op (.mov (.tmp 5))), ((some 14), .op (.idx 1 (.tmp 12) (.tmp 13))), ((some 15), .op (.load none (.tmp 14))), ((some 16), .call (.tmp 11) [(.tmp 15)])]⟩]) <|
  .cond (.tmp 16) (.seq (.region false [⟨none, [((some 17), .op (.mov (.tmp 5))), ((some 4), .op (.mov (.tmp 17)))]⟩]) <|
  .ret) (.skip))) <|
  .region false [⟨none, [((some 18), .op (.arith .add (.tmp 8) (.val (.val (.int .i64 1))))), ((some 8), .op (.mov (.tmp 18)))]⟩]
def S_slices_IndexFunc___int_int_ : SF := ⟨.seq (.region false [⟨none, [((some 4), .op (.mov (.val (.val (.int .i64 0)))))]⟩]) <|
  .seq (.seq (.region false [⟨none, [((some 6), .op (.mov (.tmp 0))), ((some 7), .op (.len (.tmp 6))), ((some 8), .op (.mov (.val (.val (.int .i64 0)))))]⟩]) <|
  .block 0 (.loop B_slices_IndexFunc___int_int__0)) <|
  .seq (.region false [⟨none, [((some 4), .op (.mov (.val (.val (.int .i64 (-1))))))]⟩]) <|
  .ret,
  [.tmp 4], 19⟩
theorem S_slices_IndexFunc___int_int__ok : compF Tryz.prog 93 [] = some S_slices_IndexFunc___int_int_ := by kernel_rfl

def S_slices_ContainsFunc___int_int_ : SF := ⟨.seq (.region false [⟨none, [((some 4), .op (.mov (.val (.val (.bool false)))))]⟩]) <|
  .seq (.region false [⟨none, [((some 5), .op (.mov (.tmp 0))), ((some 6), .op (.mov (.tmp 1))), ((some 7), .call (.val (.fn 93 [] [])) [(.tmp 5), (.tmp 6)]), ((some 8), .op (.arith .geq (.tmp 7) (.val (.val (.int .i64 0))))), ((some 4), .op (.mov (.tmp 8)))]⟩]) <|
  .ret,
  [.tmp 4], 9⟩
theorem S_slices_ContainsFunc___int_int__ok : compF Tryz.prog 62 [] = some S_slices_ContainsFunc___int_int_ := by kernel_rfl

def B_slices_IndexFunc___string_string__0 : SC :=
  .seq (.region false [⟨none, [((some 9), .op (.arith .lss (.tmp 8) (.tmp 7)))]⟩]) <|
  .seq (.cond (.tmp 9) (.skip) (.exit 0)) <|
  .seq (.block 1 (.seq (.region false [⟨none, [((some 10), .op (.mov (.tmp 8))), ((some 5), .op (.mov (.tmp 10)))]⟩]) <|
  .seq (.region false [⟨none, [((some 11), .op (.mov (.tmp 1))), ((some 12), .op (.mov (.tmp 0))), ((some 13), .op (.mov (.tmp 5))), ((some 14), .op (.idx 1 (.tmp 12) (.tmp 13))), ((some 15), .op (.load none (.tmp 14))), ((some 16), .call (.tmp 11) [(.tmp 15)])]⟩]) <|
  .cond (.tmp 16) (.seq (.region false [⟨none, [((some 17), .op (.mov (.tmp 5))), ((some 4), .op (.mov (.tmp 17)))]⟩]) <|
  .ret) (.skip))) <|
  .region false [⟨none, [((some 18), .op (.arith .add (.tmp 8) (.val (.val (.int .i64 1))))), ((some 8), .op (.mov (.tmp 18)))]⟩]
def S_slices_IndexFunc___string_string_ : SF := ⟨.seq (.region false [⟨none, [((some 4), .op (.mov (.val (.val (.int .i64 0)))))]⟩]) <|
  .seq (.seq (.region false [⟨none, [((some 6), .op (.mov (.tmp 0))), ((some 7), .op (.len (.tmp 6))), ((some 8), .op (.mov (.val (.val (.int .i64 0)))))]⟩]) <|
  .block 0 (.loop B_slices_IndexFunc___string_string__0)) <|
  .seq (.region false [⟨none, [((some 4), .op (.mov (.val (.val (.int .i64 (-1))))))]⟩]) <|
  .ret,
  [.tmp 4], 19⟩
theorem S_slices_IndexFunc___string_string__ok : compF Tryz.prog 106 [] = some S_slices_IndexFunc___string_string_ := by kernel_rfl

def S_slices_ContainsFunc___string_string_ : SF := ⟨.seq (.region false [⟨none, [((some 4), .op (.mov (.val (.val (.bool false)))))]⟩]) <|
  .seq (.region false [⟨none, [((some 5), .op (.mov (.tmp 0))), ((some 6), .op (.mov (.tmp 1))), ((some 7), .call (.val (.fn 106 [] [])) [(.tmp 5), (.tmp 6)]), ((some 8), .op (.arith .geq (.tmp 7) (.val (.val (.int .i64 0))))), ((some 4), .op (.mov (.tmp 8)))]⟩]) <|
  .ret,
  [.tmp 4], 9⟩
theorem S_slices_ContainsFunc___string_string__ok : compF Tryz.prog 73 [] = some S_slices_ContainsFunc___string_string_ := by kernel_rfl


theorem mc_IndexFuncI (l : List Int) (hl : Short l) (f : FuncId) (cap : List V) (p : Int → Bool) (hf : ∀ x ∈ l, PCall Tryz.prog f (gi x :: cap) (gb (p x))) (hok : calleeOk Tryz.prog f = true) (H : View) :
    MCall Tryz.prog 93 [encI l, .fn f [] cap] H fun r _ => r = gi (idxF p l 0) := by
  refine MCall.of mixed S_slices_IndexFunc___int_int__ok ?_
  unfold Short at hl
  simp (disch := omega) only [↓wr, ↓reduceIte, wq, eq_self, ne_eq, implies_true, oneV, intOp, goI, splice, sBuild, fillE, nilB, isNil, Nat.reduceEqDiff, Nat.reduceAdd, Nat.reduceLT, Nat.reduceLeDiff, Int.reduceNeg, Int.reduceToNat, reduceCtorEq, decide_true, decide_false, S_slices_IndexFunc___int_int_, encI]
  refine LoopG.up l.length (fun i T _ => idxF p (l.drop i) i = idxF p l 0 ∧ T 0 = encI l ∧ T 1 = .fn f [] cap ∧ T 7 = gi l.length ∧ T 8 = gi i) ⟨rfl, rfl, rfl, rfl, rfl⟩ ?_
  rintro i k T H hk ⟨hi, h0, h1, h7, h8⟩
  simp (disch := omega) only [↓wr, ↓reduceIte, wq, eq_self, ne_eq, implies_true, oneV, intOp, goI, splice, sBuild, fillE, nilB, isNil, Nat.reduceEqDiff, Nat.reduceAdd, Nat.reduceLT, Nat.reduceLeDiff, Int.reduceNeg, Int.reduceToNat, reduceCtorEq, decide_true, decide_false, B_slices_IndexFunc___int_int__0, h0, h1, h7, h8, encI]
  refine GoB.dec (fun hc => ?_) (fun hc => ?_)
  · have hg : l[i]? = some (l[i]'(by omega)) := List.getElem?_eq_getElem (by omega)
    have hm : l[i]'(by omega) ∈ l := List.getElem_mem _
    rw [drop_at (show i < l.length by omega)] at hi
    generalize l[i]'(by omega) = x at hg hm hi
    simp (disch := omega) only [↓wr, ↓reduceIte, wq, eq_self, ne_eq, implies_true, oneV, intOp, goI, splice, sBuild, fillE, nilB, isNil, Nat.reduceEqDiff, Nat.reduceAdd, Nat.reduceLT, Nat.reduceLeDiff, Int.reduceNeg, Int.reduceToNat, reduceCtorEq, decide_true, decide_false, h0, h1, h7, h8, encI, List.getElem?_map, hg]
    refine CallG.pure (hf x hm) hok ?_
    simp only [idxF] at hi
    repeat' (first | (refine GoB.dec (fun _ => ?_) (fun _ => ?_)) | (refine GoB.eq (fun _ => ?_) (fun _ => ?_)) | (refine GoB.ne (fun _ => ?_) (fun _ => ?_)) | (refine GoB.split (fun _ => ?_) (fun _ => ?_)) | (simp (disch := omega) only [↓wr, ↓reduceIte, wq, eq_self, ne_eq, implies_true, oneV, intOp, goI, splice, sBuild, fillE, nilB, isNil, Nat.reduceEqDiff, Nat.reduceAdd, Nat.reduceLT, Nat.reduceLeDiff, Int.reduceNeg, Int.reduceToNat, reduceCtorEq, decide_true, decide_false, h0, h1, h7, h8]))
    · rename_i hp
      rw [← hi, if_pos hp]
    · rename_i hp
      refine up_next hk (by omega) ⟨?_, h0, h1, h7, rfl⟩
      rw [if_neg (by simp [hp])] at hi
      push_cast; exact hi
  · rw [List.drop_eq_nil_of_le (by omega)] at hi
    simp (disch := omega) only [↓wr, ↓reduceIte, wq, eq_self, ne_eq, implies_true, oneV, intOp, goI, splice, sBuild, fillE, nilB, isNil, Nat.reduceEqDiff, Nat.reduceAdd, Nat.reduceLT, Nat.reduceLeDiff, Int.reduceNeg, Int.reduceToNat, reduceCtorEq, decide_true, decide_false, h0, h1, h7, h8]
    rw [← hi]; rfl

theorem ints_fn_tree {l : List Int} {f : FuncId} {cap : List V} (hcap : ∀ v ∈ cap, Tree v) : ∀ v ∈ [encI l, .fn f [] cap], Tree v := by
  intro v hv; simp at hv
  rcases hv with rfl | rfl
  · exact encI_tree l
  · exact fn_tree (by simp) hcap

theorem pc_ContainsFuncI (l : List Int) (hl : Short l) (f : FuncId) (cap : List V) (hcap : ∀ v ∈ cap, Tree v) (p : Int → Bool) (hf : ∀ x ∈ l, PCall Tryz.prog f (gi x :: cap) (gb (p x))) (hok : calleeOk Tryz.prog f = true) :
    PCall Tryz.prog 62 [encI l, .fn f [] cap] (gb (l.any p)) := by
  refine PCall.val (ints_fn_tree hcap) fun H => ?_
  refine MCall.of mixed S_slices_ContainsFunc___int_int__ok ?_
  simp (disch := omega) only [↓wr, ↓reduceIte, wq, eq_self, ne_eq, implies_true, oneV, intOp, goI, splice, sBuild, fillE, nilB, isNil, Nat.reduceEqDiff, Nat.reduceAdd, Nat.reduceLT, Nat.reduceLeDiff, Int.reduceNeg, Int.reduceToNat, reduceCtorEq, decide_true, decide_false, S_slices_ContainsFunc___int_int_]
  refine CallG.pure (PCall.val (ints_fn_tree hcap) (mc_IndexFuncI l hl f cap p hf hok)) (by kernel_rfl) ?_
  simp (disch := omega) only [↓wr, ↓reduceIte, wq, eq_self, ne_eq, implies_true, oneV, intOp, goI, splice, sBuild, fillE, nilB, isNil, Nat.reduceEqDiff, Nat.reduceAdd, Nat.reduceLT, Nat.reduceLeDiff, Int.reduceNeg, Int.reduceToNat, reduceCtorEq, decide_true, decide_false]
  rw [← idxF_any p l 0 (by omega)]

theorem mc_IndexFuncS (l : List ByteArray) (hl : Short l) (f : FuncId) (cap : List V) (p : ByteArray → Bool) (hf : ∀ x ∈ l, PCall Tryz.prog f (gs x :: cap) (gb (p x))) (hok : calleeOk Tryz.prog f = true) (H : View) :
    MCall Tryz.prog 106 [encS l, .fn f [] cap] H fun r _ => r = gi (idxF p l 0) := by
  refine MCall.of mixed S_slices_IndexFunc___string_string__ok ?_
  unfold Short at hl
  simp (disch := omega) only [↓wr, ↓reduceIte, wq, eq_self, ne_eq, implies_true, oneV, intOp, goI, splice, sBuild, fillE, nilB, isNil, Nat.reduceEqDiff, Nat.reduceAdd, Nat.reduceLT, Nat.reduceLeDiff, Int.reduceNeg, Int.reduceToNat, reduceCtorEq, decide_true, decide_false, S_slices_IndexFunc___string_string_, encS]
  refine LoopG.up l.length (fun i T _ => idxF p (l.drop i) i = idxF p l 0 ∧ T 0 = encS l ∧ T 1 = .fn f [] cap ∧ T 7 = gi l.length ∧ T 8 = gi i) ⟨rfl, rfl, rfl, rfl, rfl⟩ ?_
  rintro i k T H hk ⟨hi, h0, h1, h7, h8⟩
  simp (disch := omega) only [↓wr, ↓reduceIte, wq, eq_self, ne_eq, implies_true, oneV, intOp, goI, splice, sBuild, fillE, nilB, isNil, Nat.reduceEqDiff, Nat.reduceAdd, Nat.reduceLT, Nat.reduceLeDiff, Int.reduceNeg, Int.reduceToNat, reduceCtorEq, decide_true, decide_false, B_slices_IndexFunc___string_string__0, h0, h1, h7, h8, encS]
  refine GoB.dec (fun hc => ?_) (fun hc => ?_)
  · have hg : l[i]? = some (l[i]'(by omega)) := List.getElem?_eq_getElem (by omega)
    have hm : l[i]'(by omega) ∈ l := List.getElem_mem _
    rw [drop_at (show i < l.length by omega)] at hi
    generalize l[i]'(by omega) = x at hg hm hi
    simp (disch := omega) only [↓wr, ↓reduceIte, wq, eq_self, ne_eq, implies_true, oneV, intOp, goI, splice, sBuild, fillE, nilB, isNil, Nat.reduceEqDiff, Nat.reduceAdd, Nat.reduceLT, Nat.reduceLeDiff, Int.reduceNeg, Int.reduceToNat, reduceCtorEq, decide_true, decide_false, h0, h1, h7, h8, encS, List.getElem?_map, hg]
    refine CallG.pure (hf x hm) hok ?_
    simp only [idxF] at hi
    repeat' (first | (refine GoB.dec (fun _ => ?_) (fun _ => ?_)) | (refine GoB.eq (fun _ => ?_) (fun _ => ?_)) | (refine GoB.ne (fun _ => ?_) (fun _ => ?_)) | (refine GoB.split (fun _ => ?_) (fun _ => ?_)) | (simp (disch := omega) only [↓wr, ↓reduceIte, wq, eq_self, ne_eq, implies_true, oneV, intOp, goI, splice, sBuild, fillE, nilB, isNil, Nat.reduceEqDiff, Nat.reduceAdd, Nat.reduceLT, Nat.reduceLeDiff, Int.reduceNeg, Int.reduceToNat, reduceCtorEq, decide_true, decide_false, h0, h1, h7, h8]))
    · rename_i hp
      rw [← hi, if_pos hp]
    · rename_i hp
      refine up_next hk (by omega) ⟨?_, h0, h1, h7, rfl⟩
      rw [if_neg (by simp [hp])] at hi
      push_cast; exact hi
  · rw [List.drop_eq_nil_of_le (by omega)] at hi
    simp (disch := omega) only [↓wr, ↓reduceIte, wq, eq_self, ne_eq, implies_true, oneV, intOp, goI, splice, sBuild, fillE, nilB, isNil, Nat.reduceEqDiff, Nat.reduceAdd, Nat.reduceLT, Nat.reduceLeDiff, Int.reduceNeg, Int.reduceToNat, reduceCtorEq, decide_true, decide_false, h0, h1, h7, h8]
    rw [← hi]; rfl

theorem strs_fn_tree {l : List ByteArray} {f : FuncId} {cap : List V} (hcap : ∀ v ∈ cap, Tree v) : ∀ v ∈ [encS l, .fn f [] cap], Tree v := by
  intro v hv; simp at hv
  rcases hv with rfl | rfl
  · exact encS_tree l
  · exact fn_tree (by simp) hcap

theorem pc_ContainsFuncS (l : List ByteArray) (hl : Short l) (f : FuncId) (cap : List V) (hcap : ∀ v ∈ cap, Tree v) (p : ByteArray → Bool) (hf : ∀ x ∈ l, PCall Tryz.prog f (gs x :: cap) (gb (p x))) (hok : calleeOk Tryz.prog f = true) :
    PCall Tryz.prog 73 [encS l, .fn f [] cap] (gb (l.any p)) := by
  refine PCall.val (strs_fn_tree hcap) fun H => ?_
  refine MCall.of mixed S_slices_ContainsFunc___string_string__ok ?_
  simp (disch := omega) only [↓wr, ↓reduceIte, wq, eq_self, ne_eq, implies_true, oneV, intOp, goI, splice, sBuild, fillE, nilB, isNil, Nat.reduceEqDiff, Nat.reduceAdd, Nat.reduceLT, Nat.reduceLeDiff, Int.reduceNeg, Int.reduceToNat, reduceCtorEq, decide_true, decide_false, S_slices_ContainsFunc___string_string_]
  refine CallG.pure (PCall.val (strs_fn_tree hcap) (mc_IndexFuncS l hl f cap p hf hok)) (by kernel_rfl) ?_
  simp (disch := omega) only [↓wr, ↓reduceIte, wq, eq_self, ne_eq, implies_true, oneV, intOp, goI, splice, sBuild, fillE, nilB, isNil, Nat.reduceEqDiff, Nat.reduceAdd, Nat.reduceLT, Nat.reduceLeDiff, Int.reduceNeg, Int.reduceToNat, reduceCtorEq, decide_true, decide_false]
  rw [← idxF_any p l 0 (by omega)]

/-! small ones -/
theorem vals_tree {l : List Value} : ∀ v ∈ l.map V.val, Tree v := by
  intro v hv; obtain ⟨x, _, rfl⟩ := List.mem_map.1 hv; exact .val _

def S_cfg_within : SF := ⟨.seq (.region false [⟨none, [((some 6), .op (.mov (.val (.val (.bool false)))))]⟩]) <|
  .seq (.region false [⟨none, [((some 7), .op (.mov (.tmp 0))), ((some 8), .op (.mov (.tmp 1))), ((some 9), .op (.arith .geq (.tmp 7) (.tmp 8))), ((some 10), .op (.mov (.tmp 9)))]⟩, ⟨(some (10, true)), [((some 11), .op (.mov (.tmp 0))), ((some 12), .op (.mov (.tmp 2))), ((some 13), .op (.arith .leq (.tmp 11) (.tmp 12)))]⟩, ⟨none, [((some 14), .op (.pick (.tmp 10) (.tmp 13) (.val (.val (.bool false))))), ((some 6), .op (.mov (.tmp 14)))]⟩]) <|
  .ret,
  [.tmp 6], 15⟩
theorem S_cfg_within_ok : compF Tryz.prog 71 [] = some S_cfg_within := by kernel_rfl

def S_cfg_non : SF := ⟨.seq (.region false [⟨none, [((some 2), .op (.mov (.val (.val (.int .i64 0)))))]⟩]) <|
  .seq (.region false [⟨none, [((some 3), .op (.mov (.tmp 0))), ((some 4), .op (.arith .sub (.val (.val (.int .i64 (-1)))) (.tmp 3))), ((some 2), .op (.mov (.tmp 4)))]⟩]) <|
  .ret,
  [.tmp 2], 5⟩
theorem S_cfg_non_ok : compF Tryz.prog 94 [] = some S_cfg_non := by kernel_rfl

def S_cfg_Has : SF := ⟨.seq (.region false [⟨none, [((some 2), .op (.frz (.tmp 0))), ((some 4), .op (.mov (.val (.val (.bool false)))))]⟩]) <|
  .seq (.seq (.region false [⟨none, [((some 5), .op (.mov (.tmp 1))), ((some 6), .op (.arith .lss (.tmp 5) (.val (.val (.int .i64 0)))))]⟩]) <|
  .cond (.tmp 6) (.seq (.region true [⟨none, [((some 7), .op (.mov (.tmp 1))), ((some 8), .call (.val (.fn 94 [] [])) [(.tmp 7)]), ((some 9), .op (.addr 1 (.tmp 2))), ((some 10), .op (.load none (.tmp 9))), ((some 11), .op (.len (.tmp 10))), ((some 12), .op (.arith .lss (.tmp 8) (.tmp 11))), ((some 4), .op (.mov (.tmp 12)))]⟩]) <|
  .ret) (.skip)) <|
  .seq (.region false [⟨none, [((some 13), .op (.mov (.tmp 1))), ((some 14), .op (.addr 0 (.tmp 2))), ((some 15), .op (.load none (.tmp 14))), ((some 16), .op (.len (.tmp 15))), ((some 17), .op (.arith .lss (.tmp 13) (.tmp 16))), ((some 4), .op (.mov (.tmp 17)))]⟩]) <|
  .ret,
  [.tmp 4], 18⟩
theorem S_cfg_Has_ok : compF Tryz.prog 64 [2] = some S_cfg_Has := by kernel_rfl

def S_cfg_rule_1 : SF := ⟨.seq (.region false [⟨none, [((some 4), .op (.mov (.val (.val (.bool false)))))]⟩]) <|
  .seq (.region false [⟨none, [((some 5), .op (.load (some 4) (.tmp 1))), ((some 6), .op (.mov (.tmp 0))), ((some 7), .call (.val (.fn 64 [] [])) [(.tmp 5), (.tmp 6)]), ((some 8), .op (.not (.tmp 7))), ((some 9), .op (.mov (.tmp 8)))]⟩, ⟨(some (9, false)), [((some 10), .op (.mov (.tmp 0))), ((some 11), .op (.arith .geq (.tmp 10) (.val (.val (.int .i64 0))))), ((some 12), .op (.mov (.tmp 11)))]⟩, ⟨(some (12, true)), [((some 13), .op (.addr 2 (.tmp 2))), ((some 14), .op (.load none (.tmp 13))), ((some 15), .op (.arith .eql (.tmp 14) (.val (.val (.int .i64 (-1))))))]⟩, ⟨(some (9, false)), [((some 16), .op (.pick (.tmp 12) (.tmp 15) (.val (.val (.bool false)))))]⟩, ⟨none, [((some 17), .op (.pick (.tmp 9) (.val (.val (.bool true))) (.tmp 16))), ((some 4), .op (.mov (.tmp 17)))]⟩]) <|
  .ret,
  [.tmp 4], 18⟩
theorem S_cfg_rule_1_ok : compF Tryz.prog 109 [] = some S_cfg_rule_1 := by kernel_rfl

def S_cfg_rule : SF := ⟨.seq (.region false [⟨none, [((some 2), .op (.frz (.tmp 0))), ((some 3), .op (.frz (.tmp 1))), ((some 4), .op (.mov (.val (.val (.bool false)))))]⟩]) <|
  .seq (.seq (.region false [⟨none, [((some 5), .op (.addr 1 (.tmp 3))), ((some 6), .op (.load none (.tmp 5))), ((some 7), .op (.len (.tmp 6))), ((some 8), .op (.arith .gtr (.tmp 7) (.val (.val (.int .i64 6))))), ((some 9), .op (.mov (.tmp 8)))]⟩, ⟨(some (9, false)), [((some 10), .op (.addr 2 (.tmp 3))), ((some 11), .op (.load none (.tmp 10))), ((some 12), .op (.addr 0 (.tmp 2))), ((some 13), .op (.load none (.tmp 12))), ((some 14), .op (.len (.tmp 13))), ((some 15), .op (.arith .sub (.tmp 14) (.val (.val (.int .i64 1))))), ((some 16), .call (.val (.fn 71 [] [])) [(.tmp 11), (.val (.val (.int .i64 (-1)))), (.tmp 15)]), ((some 17), .op (.not (.tmp 16)))]⟩, ⟨none, [((some 18), .op (.pick (.tmp 9) (.val (.val (.bool true))) (.tmp 17)))]⟩]) <|
  .cond (.tmp 18) (.seq (.region false [⟨none, [((some 4), .op (.mov (.val (.val (.bool false)))))]⟩]) <|
  .ret) (.skip)) <|
  .seq (.region false [⟨none, [((some 19), .op (.addr 1 (.tmp 3))), ((some 20), .op (.load none (.tmp 19))), ((some 21), .op (.mkfn 109 [] [(.tmp 2), (.tmp 3)])), ((some 22), .call (.val (.fn 62 [] [])) [(.tmp 20), (.tmp 21)]), ((some 23), .op (.not (.tmp 22))), ((some 4), .op (.mov (.tmp 23)))]⟩]) <|
  .ret,
  [.tmp 4], 24⟩
theorem S_cfg_rule_ok : compF Tryz.prog 76 [2, 3] = some S_cfg_rule := by kernel_rfl


theorem pc_cwithin (a b c : Int) : PCall Tryz.prog 71 [gi a, gi b, gi c] (gb (decide (b ≤ a) && decide (a ≤ c))) := by
  refine PCall.val (vals_tree (l := [.int .i64 a, .int .i64 b, .int .i64 c])) fun H => ?_
  refine MCall.of mixed S_cfg_within_ok ?_
  repeat' (first | (refine GoB.dec (fun _ => ?_) (fun _ => ?_)) | (refine GoB.eq (fun _ => ?_) (fun _ => ?_)) | (refine GoB.ne (fun _ => ?_) (fun _ => ?_)) | (refine GoB.split (fun _ => ?_) (fun _ => ?_)) | (simp (disch := omega) only [↓wr, ↓reduceIte, wq, eq_self, ne_eq, implies_true, oneV, intOp, goI, splice, sBuild, fillE, nilB, isNil, Nat.reduceEqDiff, Nat.reduceAdd, Nat.reduceLT, Nat.reduceLeDiff, Int.reduceNeg, Int.reduceToNat, reduceCtorEq, decide_true, decide_false, S_cfg_within]))
  all_goals simp [*]

theorem pc_cnon (s : Int) (hs : In64 s) : PCall Tryz.prog 94 [gi s] (gi (-1 - s)) := by
  refine PCall.val (vals_tree (l := [.int .i64 s])) fun H => ?_
  obtain ⟨h1, h2⟩ := hs
  refine MCall.of mixed S_cfg_non_ok ?_
  repeat' (first | (refine GoB.dec (fun _ => ?_) (fun _ => ?_)) | (refine GoB.eq (fun _ => ?_) (fun _ => ?_)) | (refine GoB.ne (fun _ => ?_) (fun _ => ?_)) | (refine GoB.split (fun _ => ?_) (fun _ => ?_)) | (simp (disch := omega) only [↓wr, ↓reduceIte, wq, eq_self, ne_eq, implies_true, oneV, intOp, goI, splice, sBuild, fillE, nilB, isNil, Nat.reduceEqDiff, Nat.reduceAdd, Nat.reduceLT, Nat.reduceLeDiff, Int.reduceNeg, Int.reduceToNat, reduceCtorEq, decide_true, decide_false, S_cfg_non]))

theorem pc_cHas (g : Gram) (s : Int) (hs : In64 s) : PCall Tryz.prog 64 [.agg (encG g), gi s] (gb (hasG g s)) := by
  refine PCall.val (gi_trees g s) fun H => ?_
  refine MCall.of mixed S_cfg_Has_ok ?_
  repeat' (first | (refine GoB.dec (fun _ => ?_) (fun _ => ?_)) | (refine GoB.eq (fun _ => ?_) (fun _ => ?_)) | (refine GoB.ne (fun _ => ?_) (fun _ => ?_)) | (refine GoB.split (fun _ => ?_) (fun _ => ?_)) | (refine CallG.pure (pc_cnon s hs) (by kernel_rfl) ?_) | (simp (disch := omega) only [↓wr, ↓reduceIte, wq, eq_self, ne_eq, implies_true, oneV, intOp, goI, splice, sBuild, fillE, nilB, isNil, Nat.reduceEqDiff, Nat.reduceAdd, Nat.reduceLT, Nat.reduceLeDiff, Int.reduceNeg, Int.reduceToNat, reduceCtorEq, decide_true, decide_false, S_cfg_Has, encG, encS]))
  · rename_i h; simp [hasG, show ¬ (0 : Int) ≤ s by omega]
  · rename_i h; simp [hasG, show (0 : Int) ≤ s by omega]

theorem PCall.bool {f : FuncId} {vs : List V} {a b : Bool} (h : PCall Tryz.prog f vs (gb a)) (e : a = b) : PCall Tryz.prog f vs (gb b) := e ▸ h

theorem fptr_tree {cs : List V} {j : Nat} (h : ∀ v ∈ cs, Tree v) : Tree (.fptr cs j) := by
  refine .fptr _ _ fun i hi => ?_
  have e2 : cs.getD i .any = cs[i] := by simp [List.getD_eq_getElem?_getD, hi]
  rw [e2]; exact h _ (List.getElem_mem _)

theorem pc_crule1 (g : Gram) (r : Rule) (s : Int) (hs : In64 s) : PCall Tryz.prog 109 [gi s, .fptr (encG g) 0, .fptr (encR r) 0] (gb (!symB g r.prec s)) := by
  refine PCall.val ?_ fun H => ?_
  · intro v hv; simp at hv
    rcases hv with rfl | rfl | rfl
    · exact .val _
    · exact fptr_tree (encG_tree g)
    · exact fptr_tree (encR_tree r)
  refine MCall.of mixed S_cfg_rule_1_ok ?_
  simp (disch := omega) only [↓wr, ↓reduceIte, wq, eq_self, ne_eq, implies_true, oneV, intOp, goI, splice, sBuild, fillE, nilB, isNil, Nat.reduceEqDiff, Nat.reduceAdd, Nat.reduceLT, Nat.reduceLeDiff, Int.reduceNeg, Int.reduceToNat, reduceCtorEq, decide_true, decide_false, S_cfg_rule_1, encG]
  refine CallG.pure (pc_cHas g s hs) (by kernel_rfl) ?_
  repeat' (first | (refine GoB.dec (fun _ => ?_) (fun _ => ?_)) | (refine GoB.eq (fun _ => ?_) (fun _ => ?_)) | (refine GoB.ne (fun _ => ?_) (fun _ => ?_)) | (refine GoB.split (fun _ => ?_) (fun _ => ?_)) | (simp (disch := omega) only [↓wr, ↓reduceIte, wq, eq_self, ne_eq, implies_true, oneV, intOp, goI, splice, sBuild, fillE, nilB, isNil, Nat.reduceEqDiff, Nat.reduceAdd, Nat.reduceLT, Nat.reduceLeDiff, Int.reduceNeg, Int.reduceToNat, reduceCtorEq, decide_true, decide_false, encR]))
  all_goals simp [symB, *]

theorem pc_crule (g : Gram) (r : Rule) (hg : g.Ok) (hr : Short r.right ∧ ∀ x ∈ r.right, In64 x) : PCall Tryz.prog 76 [.agg (encG g), .agg (encR r)] (gb (ruleB g r)) := by
  refine PCall.val (gr_trees g r) fun H => ?_
  have ht := hg.terms
  unfold Short at ht
  refine MCall.of mixed S_cfg_rule_ok ?_
  repeat' (first | (refine GoB.dec (fun _ => ?_) (fun _ => ?_)) | (refine GoB.eq (fun _ => ?_) (fun _ => ?_)) | (refine GoB.ne (fun _ => ?_) (fun _ => ?_)) | (refine GoB.split (fun _ => ?_) (fun _ => ?_)) | (refine CallG.pure (pc_cwithin _ _ _) (by kernel_rfl) ?_) | (simp (disch := omega) only [↓wr, ↓reduceIte, wq, eq_self, ne_eq, implies_true, oneV, intOp, goI, splice, sBuild, fillE, nilB, isNil, Nat.reduceEqDiff, Nat.reduceAdd, Nat.reduceLT, Nat.reduceLeDiff, Int.reduceNeg, Int.reduceToNat, reduceCtorEq, decide_true, decide_false, S_cfg_rule, encG, encR, encI, encS]))
  · rename_i h; simp [ruleB, show ¬ r.right.length ≤ 6 by omega]
  · rename_i h1 h2
    have h3 : r.right.length ≤ 6 := by omega
    have h2' : -1 ≤ r.prec ∧ r.prec < g.terms.length := by simp at h2; omega
    refine CallG.pure (pc_ContainsFuncI r.right hr.1 109 [.fptr (encG g) 0, .fptr (encR r) 0] ?_ (fun s => !symB g r.prec s) (fun x hx => pc_crule1 g r x (hr.2 x hx)) (by kernel_rfl)) (by kernel_rfl) ?_
    · intro v hv; simp at hv
      rcases hv with rfl | rfl
      · exact fptr_tree (encG_tree g)
      · exact fptr_tree (encR_tree r)
    simp (disch := omega) only [↓wr, ↓reduceIte, wq, eq_self, ne_eq, implies_true, oneV, intOp, goI, splice, sBuild, fillE, nilB, isNil, Nat.reduceEqDiff, Nat.reduceAdd, Nat.reduceLT, Nat.reduceLeDiff, Int.reduceNeg, Int.reduceToNat, reduceCtorEq, decide_true, decide_false]
    simp [ruleB, h3, h2'.1, h2'.2]
    rw [Bool.eq_iff_iff]
    simp
  · rename_i h1 h2
    have h3 : ¬ (-1 ≤ r.prec ∧ r.prec < g.terms.length) := by simp at h2; omega
    have : (decide (-1 ≤ r.prec) && decide (r.prec < (g.terms.length : Int))) = false := by
      rw [← Bool.decide_and]; simpa using h3
    simp only [ruleB, Bool.and_assoc]
    rw [← Bool.and_assoc (decide (-1 ≤ r.prec)), this]; simp

theorem litP_snd (l : List Int) (h0 : l.getD 0 0 = 39) : ((litP l).2 == 0 && (litP l).1 == (l.length : Int)) = litB l := by
  match l, h0 with
  | [], h => simp at h
  | [a], _ => rfl
  | [a, b], _ =>
    simp only [litP, litN, litB, List.length_cons, List.length_nil, List.getD_cons_succ, List.getD_cons_zero]
    repeat' split
    all_goals simp_all
  | [a, b, c], h0 =>
    have ha : a = 39 := by simpa using h0
    subst ha
    simp only [litP, litN, litB, plainB, escB, List.length_cons, List.length_nil, List.getD_cons_succ, List.getD_cons_zero]
    repeat' split
    all_goals simp_all
    all_goals grind
  | [a, b, c, d], h0 =>
    have ha : a = 39 := by simpa using h0
    subst ha
    simp only [litP, litN, litB, plainB, escB, List.length_cons, List.length_nil, List.getD_cons_succ, List.getD_cons_zero]
    repeat' split
    all_goals simp_all
    all_goals grind
  | a :: b :: c :: d :: e :: r, h0 =>
    simp only [litP, litN, litB, plainB, escB, List.length_cons, List.getD_cons_succ, List.getD_cons_zero]
    repeat' split
    all_goals simp_all
    all_goals (try omega)
    all_goals grind

theorem litB_first {c : Int} {l : List Int} (h : ¬ c = 39) : litB (c :: l) = false := by
  match l with
  | [] => rfl
  | [_] => rfl
  | [_, _] => simp [litB, h]
  | [_, _, _] => simp [litB, h]
  | _ :: _ :: _ :: _ :: _ => rfl

theorem pc_lexLit (s : ByteArray) : PCall Tryz.prog 125 [gs s] (gb (litB (bts s))) := by
  refine PCall.val (gs_tree s) fun H => ?_
  refine MCall.of mixed S_lex_Literal_ok ?_
  have hcr := fun d (hd : d ∈ bts s) => bts_range (s := s) (c := d) hd
  have hP : PCall Tryz.prog 143 [.fro (bytesE s)] (.tup [gi (litP (bts s)).1, gi (litP (bts s)).2]) := by
    rw [bytesE_eq]
    refine PCall.of ?_ ((mc_literal (bts s) hcr _).mono fun r H' h h' _ => by rw [h]; exact .tree _ (.tup _ fun i hi => by
      match i, hi with
      | 0, _ => exact .val _
      | 1, _ => exact .val _))
    intro v hv; simp at hv; subst hv
    exact tree_fro _ _ fun x _ v hv => by simp at hv; subst hv; exact .val _
  cases hb : bts s with
  | nil =>
    repeat' (first | (refine GoB.dec (fun _ => ?_) (fun _ => ?_)) | (refine GoB.eq (fun _ => ?_) (fun _ => ?_)) | (refine GoB.ne (fun _ => ?_) (fun _ => ?_)) | (refine GoB.split (fun _ => ?_) (fun _ => ?_)) | (simp (disch := omega) only [↓wr, ↓reduceIte, wq, eq_self, ne_eq, implies_true, oneV, intOp, goI, splice, sBuild, fillE, nilB, isNil, Nat.reduceEqDiff, Nat.reduceAdd, Nat.reduceLT, Nat.reduceLeDiff, Int.reduceNeg, Int.reduceToNat, reduceCtorEq, decide_true, decide_false, S_lex_Literal, bts_len, strEq_nil, hb]))
    rfl
  | cons c l =>
    have hl := litP_snd (bts s)
    rw [hb] at hP hl
    repeat' (first | (refine GoB.dec (fun _ => ?_) (fun _ => ?_)) | (refine GoB.eq (fun _ => ?_) (fun _ => ?_)) | (refine GoB.ne (fun _ => ?_) (fun _ => ?_)) | (refine GoB.split (fun _ => ?_) (fun _ => ?_)) | (simp (disch := omega) only [↓wr, ↓reduceIte, wq, eq_self, ne_eq, implies_true, oneV, intOp, goI, splice, sBuild, fillE, nilB, isNil, Nat.reduceEqDiff, Nat.reduceAdd, Nat.reduceLT, Nat.reduceLeDiff, Int.reduceNeg, Int.reduceToNat, reduceCtorEq, decide_true, decide_false, S_lex_Literal, bts_len, strEq_nil, hb, List.getElem?_cons_zero]))
    · rename_i h
      rw [litB_first h]
    · rename_i h
      refine CallG.pure hP (by kernel_rfl) ?_
      have hl := hl (by simpa using h)
      repeat' (first | (refine GoB.dec (fun _ => ?_) (fun _ => ?_)) | (refine GoB.eq (fun _ => ?_) (fun _ => ?_)) | (refine GoB.ne (fun _ => ?_) (fun _ => ?_)) | (refine GoB.split (fun _ => ?_) (fun _ => ?_)) | (simp (disch := omega) only [↓wr, ↓reduceIte, wq, eq_self, ne_eq, implies_true, oneV, intOp, goI, splice, sBuild, fillE, nilB, isNil, Nat.reduceEqDiff, Nat.reduceAdd, Nat.reduceLT, Nat.reduceLeDiff, Int.reduceNeg, Int.reduceToNat, reduceCtorEq, decide_true, decide_false, bts_len, hb]))
      · rename_i h2
        rw [← hl]; simp [h2]
      · rename_i h2
        rw [← hl]; simp [h2]

end Gv

/-
  May a grammar be: what the program's own functions answer, but for names that stand twice.
  Conditions: lists that are no longer than an int says, numbers that are ints.
-/
set_option linter.unusedSimpArgs false
set_option maxRecDepth 100000
namespace Gv
open Go Go.Proofs

theorem pc_cnamed (s : ByteArray) : PCall Tryz.prog 101 [gs s] (gb (namedB (bts s))) := by
  refine PCall.val (gs_tree s) fun H => ?_
  refine MCall.of mixed S_cfg_named_ok ?_
  repeat' (first | (refine GoB.dec (fun _ => ?_) (fun _ => ?_)) | (refine GoB.eq (fun _ => ?_) (fun _ => ?_)) | (refine GoB.ne (fun _ => ?_) (fun _ => ?_)) | (refine GoB.split (fun _ => ?_) (fun _ => ?_)) | (refine CallG.pure (pc_NameL s) (by kernel_rfl) ?_) | (refine CallG.pure (pc_lexLit s) (by kernel_rfl) ?_) | (simp (disch := omega) only [↓wr, ↓reduceIte, wq, eq_self, ne_eq, implies_true, oneV, intOp, goI, splice, sBuild, fillE, nilB, isNil, Nat.reduceEqDiff, Nat.reduceAdd, Nat.reduceLT, Nat.reduceLeDiff, Int.reduceNeg, Int.reduceToNat, reduceCtorEq, decide_true, decide_false, S_cfg_named]))
  all_goals simp [namedB, *]

theorem pc_cRight1 (s : ByteArray) : PCall Tryz.prog 74 [gs s] (gb (!nameB (bts s))) := by
  refine PCall.val (gs_tree s) fun H => ?_
  refine MCall.of mixed S_cfg_Right_1_ok ?_
  repeat' (first | (refine GoB.dec (fun _ => ?_) (fun _ => ?_)) | (refine GoB.eq (fun _ => ?_) (fun _ => ?_)) | (refine GoB.ne (fun _ => ?_) (fun _ => ?_)) | (refine GoB.split (fun _ => ?_) (fun _ => ?_)) | (refine CallG.pure (pc_NameL s) (by kernel_rfl) ?_) | (simp (disch := omega) only [↓wr, ↓reduceIte, wq, eq_self, ne_eq, implies_true, oneV, intOp, goI, splice, sBuild, fillE, nilB, isNil, Nat.reduceEqDiff, Nat.reduceAdd, Nat.reduceLT, Nat.reduceLeDiff, Int.reduceNeg, Int.reduceToNat, reduceCtorEq, decide_true, decide_false, S_cfg_Right_1]))

def B_cfg_levels_0 : SC :=
  .seq (.region false [⟨none, [((some 12), .op (.arith .lss (.tmp 11) (.tmp 10)))]⟩]) <|
  .seq (.cond (.tmp 12) (.skip) (.exit 0)) <|
  .seq (.block 1 (.seq (.region false [⟨none, [((some 13), .op (.idx 3 (.tmp 9) (.tmp 11))), ((some 14), .op (.load (some 3) (.tmp 13))), ((some 6), .op (.alloc [(.val (.string ⟨#[]⟩)), (.val (.int .i64 0)), (.val (.int .i64 0))])), (none, .op (.store 3 (.tmp 6) (.tmp 14)))]⟩]) <|
  .seq (.seq (.region false [⟨none, [((some 15), .op (.addr 1 (.tmp 6))), ((some 16), .op (.load none (.tmp 15))), ((some 17), .op (.arith .eql (.tmp 16) (.val (.val (.int .i64 0)))))]⟩]) <|
  .cond (.tmp 17) (.exit 1) (.skip)) <|
  .seq (.seq (.region false [⟨none, [((some 18), .op (.mov (.tmp 3))), ((some 19), .op (.addr 1 (.tmp 6))), ((some 20), .op (.load none (.tmp 19))), ((some 21), .op (.old (.lookup 64 (.tmp 18) (.tmp 20) false) 3)), ((some 7), .op (.mov (.tmp 21)))]⟩]) <|
  .seq (.region false [⟨none, [((some 22), .op (.mov (.tmp 7))), ((some 23), .op (.arith .neq (.tmp 22) (.val (.val (.int .i64 0))))), ((some 24), .op (.mov (.tmp 23)))]⟩, ⟨(some (24, true)), [((some 25), .op (.mov (.tmp 7))), ((some 26), .op (.addr 2 (.tmp 6))), ((some 27), .op (.load none (.tmp 26))), ((some 28), .op (.arith .neq (.tmp 25) (.tmp 27)))]⟩, ⟨none, [((some 29), .op (.pick (.tmp 24) (.tmp 28) (.val (.val (.bool false)))))]⟩]) <|
  .cond (.tmp 29) (.seq (.region false [⟨none, [((some 2), .op (.mov (.val (.val (.bool false)))))]⟩]) <|
  .ret) (.skip)) <|
  .seq (.region false [⟨none, [((some 30), .op (.mov (.tmp 3))), ((some 31), .op (.addr 1 (.tmp 6))), ((some 32), .op (.load none (.tmp 31))), ((some 33), .op (.addr 2 (.tmp 6))), ((some 34), .op (.load none (.tmp 33))), (none, .op (.old (.mapUpdate 64 (.tmp 30) (.tmp 32) (.tmp 34)) 0))]⟩]) <|
  .region false [⟨none, [((some 35), .op (.mov (.tmp 4))), ((some 36), .op (.addr 1 (.tmp 6))), ((some 37), .op (.load none (.tmp 36))), ((some 38), .op (.mm true (.tmp 35) (.tmp 37))), ((some 4), .op (.mov (.tmp 38)))]⟩])) <|
  .region false [⟨none, [((some 39), .op (.arith .add (.tmp 11) (.val (.val (.int .i64 1))))), ((some 11), .op (.mov (.tmp 39)))]⟩]
def S_cfg_levels : SF := ⟨.seq (.region false [⟨none, [((some 2), .op (.mov (.val (.val (.bool false)))))]⟩]) <|
  .seq (.region false [⟨none, [((some 8), .op (.mkmap)), ((some 3), .op (.mov (.tmp 8)))]⟩]) <|
  .seq (.region false [⟨none, [((some 4), .op (.mov (.val (.val (.int .i64 0)))))]⟩]) <|
  .seq (.seq (.region false [⟨none, [((some 9), .op (.mov (.tmp 0))), ((some 10), .op (.len (.tmp 9))), ((some 11), .op (.mov (.val (.val (.int .i64 0)))))]⟩]) <|
  .block 0 (.loop B_cfg_levels_0)) <|
  .seq (.region false [⟨none, [((some 40), .op (.mov (.tmp 3))), ((some 41), .op (.old (.call { callee := .builtin .len, args := #[(.tmp 40)], argTypes := #[64] }) 3)), ((some 42), .op (.mov (.tmp 4))), ((some 43), .op (.arith .eql (.tmp 41) (.tmp 42))), ((some 2), .op (.mov (.tmp 43)))]⟩]) <|
  .ret,
  [.tmp 2], 44⟩
theorem S_cfg_levels_ok : compF Tryz.prog 102 [] = some S_cfg_levels := by kernel_rfl

def B_cfg_terms_0 : SC :=
  .seq (.region false [⟨none, [((some 8), .op (.arith .lss (.tmp 7) (.tmp 6)))]⟩]) <|
  .seq (.cond (.tmp 8) (.skip) (.exit 0)) <|
  .seq (.block 1 (.seq (.region false [⟨none, [((some 9), .op (.idx 3 (.tmp 5) (.tmp 7))), ((some 10), .op (.load (some 3) (.tmp 9))), ((some 4), .op (.alloc [(.val (.string ⟨#[]⟩)), (.val (.int .i64 0)), (.val (.int .i64 0))])), (none, .op (.store 3 (.tmp 4) (.tmp 10)))]⟩]) <|
  .seq (.region false [⟨none, [((some 11), .op (.addr 0 (.tmp 4))), ((some 12), .op (.load none (.tmp 11))), ((some 13), .call (.val (.fn 101 [] [])) [(.tmp 12)]), ((some 14), .op (.not (.tmp 13))), ((some 15), .op (.mov (.tmp 14)))]⟩, ⟨(some (15, false)), [((some 16), .op (.addr 1 (.tmp 4))), ((some 17), .op (.load none (.tmp 16))), ((some 18), .call (.val (.fn 71 [] [])) [(.tmp 17), (.val (.val (.int .i64 0))), (.val (.val (.int .i64 24)))]), ((some 19), .op (.not (.tmp 18)))]⟩, ⟨none, [((some 20), .op (.pick (.tmp 15) (.val (.val (.bool true))) (.tmp 19))), ((some 21), .op (.mov (.tmp 20)))]⟩, ⟨(some (21, false)), [((some 22), .op (.addr 2 (.tmp 4))), ((some 23), .op (.load none (.tmp 22))), ((some 24), .call (.val (.fn 71 [] [])) [(.tmp 23), (.val (.val (.int .i64 0))), (.val (.val (.int .i64 3)))]), ((some 25), .op (.not (.tmp 24)))]⟩, ⟨none, [((some 26), .op (.pick (.tmp 21) (.val (.val (.bool true))) (.tmp 25))), ((some 27), .op (.mov (.tmp 26)))]⟩, ⟨(some (27, false)), [((some 28), .op (.addr 1 (.tmp 4))), ((some 29), .op (.load none (.tmp 28))), ((some 30), .op (.arith .eql (.tmp 29) (.val (.val (.int .i64 0))))), ((some 31), .op (.addr 2 (.tmp 4))), ((some 32), .op (.load none (.tmp 31))), ((some 33), .op (.arith .eql (.tmp 32) (.val (.val (.int .i64 0))))), ((some 34), .op (.beq false (.tmp 30) (.tmp 33)))]⟩, ⟨none, [((some 35), .op (.pick (.tmp 27) (.val (.val (.bool true))) (.tmp 34)))]⟩]) <|
  .cond (.tmp 35) (.seq (.region false [⟨none, [((some 2), .op (.mov (.val (.val (.bool false)))))]⟩]) <|
  .ret) (.skip))) <|
  .region false [⟨none, [((some 36), .op (.arith .add (.tmp 7) (.val (.val (.int .i64 1))))), ((some 7), .op (.mov (.tmp 36)))]⟩]
def S_cfg_terms : SF := ⟨.seq (.region false [⟨none, [((some 2), .op (.mov (.val (.val (.bool false)))))]⟩]) <|
  .seq (.seq (.region false [⟨none, [((some 5), .op (.mov (.tmp 0))), ((some 6), .op (.len (.tmp 5))), ((some 7), .op (.mov (.val (.val (.int .i64 0)))))]⟩]) <|
  .block 0 (.loop B_cfg_terms_0)) <|
  .seq (.region false [⟨none, [((some 37), .op (.mov (.tmp 0))), ((some 38), .op (.len (.tmp 37))), ((some 39), .op (.arith .leq (.tmp 38) (.val (.val (.int .i64 24))))), ((some 40), .op (.mov (.tmp 39)))]⟩, ⟨(some (40, true)), [((some 41), .op (.mov (.tmp 0))), ((some 42), .call (.val (.fn 102 [] [])) [(.tmp 41)])]⟩, ⟨none, [((some 43), .op (.pick (.tmp 40) (.tmp 42) (.val (.val (.bool false))))), ((some 2), .op (.mov (.tmp 43)))]⟩]) <|
  .ret,
  [.tmp 2], 44⟩
theorem S_cfg_terms_ok : compF Tryz.prog 70 [] = some S_cfg_terms := by kernel_rfl

def B_cfg_Right_0 : SC :=
  .seq (.region false [⟨none, [((some 16), .op (.arith .lss (.tmp 15) (.tmp 14)))]⟩]) <|
  .seq (.cond (.tmp 16) (.skip) (.exit 0)) <|
  .seq (.block 1 (.seq (.region false [⟨none, [((some 17), .op (.idx 3 (.tmp 13) (.tmp 15))), ((some 18), .op (.load (some 3) (.tmp 17))), ((some 5), .op (.alloc [(.val (.string ⟨#[]⟩)), (.val (.int .i64 0)), (.val (.int .i64 0))])), (none, .op (.store 3 (.tmp 5) (.tmp 18)))]⟩]) <|
  .region false [⟨none, [((some 19), .op (.mov (.tmp 3))), ((some 20), .op (.addr 0 (.tmp 5))), ((some 21), .op (.load none (.tmp 20))), ((some 22), .op (.bslice 1 1 [(.val (.string ⟨#[]⟩))] [(0, (.tmp 21))])), ((some 23), .op (.app 1 16 (.tmp 19) (.tmp 22))), ((some 3), .op (.mov (.tmp 23)))]⟩])) <|
  .region false [⟨none, [((some 24), .op (.arith .add (.tmp 15) (.val (.val (.int .i64 1))))), ((some 15), .op (.mov (.tmp 24)))]⟩]
def B_cfg_Right_1 : SC :=
  .seq (.region false [⟨none, [((some 65), .op (.arith .lss (.tmp 64) (.tmp 63)))]⟩]) <|
  .seq (.cond (.tmp 65) (.skip) (.exit 2)) <|
  .seq (.block 3 (.seq (.region false [⟨none, [((some 66), .op (.idx 3 (.tmp 62) (.tmp 64))), ((some 67), .op (.load (some 3) (.tmp 66))), ((some 8), .op (.alloc [(.val (.int .i64 0)), (.emp 1), (.val (.int .i64 0))])), (none, .op (.store 3 (.tmp 8) (.tmp 67)))]⟩]) <|
  .seq (.seq (.region false [⟨none, [((some 68), .op (.addr 0 (.tmp 8))), ((some 69), .op (.load none (.tmp 68))), ((some 70), .op (.mov (.tmp 6))), ((some 71), .call (.val (.fn 71 [] [])) [(.tmp 69), (.val (.val (.int .i64 0))), (.tmp 70)]), ((some 72), .op (.not (.tmp 71))), ((some 73), .op (.mov (.tmp 72)))]⟩, ⟨(some (73, false)), [((some 74), .op (.load (some 4) (.tmp 1))), ((some 75), .op (.load (some 3) (.tmp 8))), ((some 76), .call (.val (.fn 76 [] [])) [(.tmp 74), (.tmp 75)]), ((some 77), .op (.not (.tmp 76)))]⟩, ⟨none, [((some 78), .op (.pick (.tmp 73) (.val (.val (.bool true))) (.tmp 77)))]⟩]) <|
  .cond (.tmp 78) (.seq (.region false [⟨none, [((some 2), .op (.mov (.val (.val (.bool false)))))]⟩]) <|
  .ret) (.skip)) <|
  .region false [⟨none, [((some 79), .op (.mov (.tmp 6))), ((some 80), .op (.addr 0 (.tmp 8))), ((some 81), .op (.load none (.tmp 80))), ((some 82), .op (.arith .add (.tmp 81) (.val (.val (.int .i64 1))))), ((some 83), .op (.mm true (.tmp 79) (.tmp 82))), ((some 6), .op (.mov (.tmp 83)))]⟩])) <|
  .region false [⟨none, [((some 84), .op (.arith .add (.tmp 64) (.val (.val (.int .i64 1))))), ((some 64), .op (.mov (.tmp 84)))]⟩]
def S_cfg_Right : SF := ⟨.seq (.region false [⟨none, [((some 1), .op (.frz (.tmp 0))), ((some 2), .op (.mov (.val (.val (.bool false)))))]⟩]) <|
  .seq (.region false [⟨none, [((some 9), .op (.addr 1 (.tmp 1))), ((some 10), .op (.load none (.tmp 9))), ((some 11), .call (.val (.fn 69 [] [])) [(.tmp 10)]), ((some 3), .op (.mov (.tmp 11)))]⟩]) <|
  .seq (.seq (.region false [⟨none, [((some 12), .op (.addr 0 (.tmp 1))), ((some 13), .op (.load none (.tmp 12))), ((some 14), .op (.len (.tmp 13))), ((some 15), .op (.mov (.val (.val (.int .i64 0)))))]⟩]) <|
  .block 0 (.loop B_cfg_Right_0)) <|
  .seq (.seq (.region false [⟨none, [((some 25), .op (.addr 0 (.tmp 1))), ((some 26), .op (.load none (.tmp 25))), ((some 27), .call (.val (.fn 70 [] [])) [(.tmp 26)]), ((some 28), .op (.not (.tmp 27))), ((some 29), .op (.mov (.tmp 28)))]⟩, ⟨(some (29, false)), [((some 30), .op (.addr 1 (.tmp 1))), ((some 31), .op (.load none (.tmp 30))), ((some 32), .op (.len (.tmp 31))), ((some 33), .call (.val (.fn 71 [] [])) [(.tmp 32), (.val (.val (.int .i64 1))), (.val (.val (.int .i64 16)))]), ((some 34), .op (.not (.tmp 33)))]⟩, ⟨none, [((some 35), .op (.pick (.tmp 29) (.val (.val (.bool true))) (.tmp 34))), ((some 36), .op (.mov (.tmp 35)))]⟩, ⟨(some (36, false)), [((some 37), .op (.addr 2 (.tmp 1))), ((some 38), .op (.load none (.tmp 37))), ((some 39), .op (.len (.tmp 38))), ((some 40), .call (.val (.fn 71 [] [])) [(.tmp 39), (.val (.val (.int .i64 1))), (.val (.val (.int .i64 40)))]), ((some 41), .op (.not (.tmp 40)))]⟩, ⟨none, [((some 42), .op (.pick (.tmp 36) (.val (.val (.bool true))) (.tmp 41))), ((some 43), .op (.mov (.tmp 42)))]⟩, ⟨(some (43, false)), [((some 44), .op (.mov (.tmp 3))), ((some 45), .call (.val (.fn 72 [] [])) [(.tmp 44)]), ((some 46), .op (.not (.tmp 45)))]⟩, ⟨none, [((some 47), .op (.pick (.tmp 43) (.val (.val (.bool true))) (.tmp 46))), ((some 48), .op (.mov (.tmp 47)))]⟩, ⟨(some (48, false)), [((some 49), .op (.addr 3 (.tmp 1))), ((some 50), .op (.load none (.tmp 49))), ((some 51), .op (.addr 1 (.tmp 1))), ((some 52), .op (.load none (.tmp 51))), ((some 53), .op (.len (.tmp 52))), ((some 54), .op (.arith .sub (.tmp 53) (.val (.val (.int .i64 1))))), ((some 55), .call (.val (.fn 71 [] [])) [(.tmp 50), (.val (.val (.int .i64 0))), (.tmp 54)]), ((some 56), .op (.not (.tmp 55)))]⟩, ⟨none, [((some 57), .op (.pick (.tmp 48) (.val (.val (.bool true))) (.tmp 56)))]⟩]) <|
  .cond (.tmp 57) (.seq (.region false [⟨none, [((some 2), .op (.mov (.val (.val (.bool false)))))]⟩]) <|
  .ret) (.skip)) <|
  .seq (.seq (.region false [⟨none, [((some 58), .op (.addr 1 (.tmp 1))), ((some 59), .op (.load none (.tmp 58))), ((some 60), .call (.val (.fn 73 [] [])) [(.tmp 59), (.val (.fn 74 [] []))])]⟩]) <|
  .cond (.tmp 60) (.seq (.region false [⟨none, [((some 2), .op (.mov (.val (.val (.bool false)))))]⟩]) <|
  .ret) (.skip)) <|
  .seq (.region false [⟨none, [((some 6), .op (.mov (.val (.val (.int .i64 0)))))]⟩]) <|
  .seq (.seq (.region false [⟨none, [((some 61), .op (.addr 2 (.tmp 1))), ((some 62), .op (.load none (.tmp 61))), ((some 63), .op (.len (.tmp 62))), ((some 64), .op (.mov (.val (.val (.int .i64 0)))))]⟩]) <|
  .block 2 (.loop B_cfg_Right_1)) <|
  .seq (.region false [⟨none, [((some 85), .op (.mov (.tmp 6))), ((some 86), .op (.addr 1 (.tmp 1))), ((some 87), .op (.load none (.tmp 86))), ((some 88), .op (.len (.tmp 87))), ((some 89), .op (.arith .eql (.tmp 85) (.tmp 88))), ((some 2), .op (.mov (.tmp 89)))]⟩]) <|
  .ret,
  [.tmp 2], 90⟩
theorem S_cfg_Right_ok : compF Tryz.prog 41 [1] = some S_cfg_Right := by kernel_rfl


def encTs (l : List Term) : V := .fro (l.map encT)
theorem encTs_tree (l : List Term) : ∀ v ∈ [encTs l], Tree v := by intro v hv; simp at hv; subst hv; exact tree_fro _ _ fun x _ => encT_tree x

/-- The ways of the levels met so far, the greatest level: none: a level has two ways. -/
def levS : List Term → List (Int × Int) → Int → Option (List (Int × Int) × Int)
  | [], a, top => some (a, top)
  | t :: r, a, top => if t.level = 0 then levS r a top else
      if (pget a t.level).getD 0 ≠ 0 ∧ (pget a t.level).getD 0 ≠ t.assoc then none else levS r (pput t.level t.assoc a) (if t.level > top then t.level else top)
def levelsB (l : List Term) : Bool := match levS l [] 0 with
  | some (a, top) => (a.length : Int) == top
  | none => false

set_option maxHeartbeats 1000000 in
theorem pc_clevels (l : List Term) (hl : Short l) : PCall Tryz.prog 102 [encTs l] (gb (levelsB l)) := by
  refine PCall.val (encTs_tree l) fun H => ?_
  refine MCall.of mixed S_cfg_levels_ok ?_
  unfold Short at hl
  simp (disch := omega) only [↓wr, ↓reduceIte, wq, eq_self, ne_eq, implies_true, oneV, intOp, goI, splice, sBuild, fillE, nilB, isNil, Nat.reduceEqDiff, Nat.reduceAdd, Nat.reduceLT, Nat.reduceLeDiff, Int.reduceNeg, Int.reduceToNat, reduceCtorEq, decide_true, decide_false, S_cfg_levels, encTs]
  intro q hq
  try simp (disch := omega) only [↓wr, ↓reduceIte, wq, eq_self, ne_eq, implies_true, oneV, intOp, goI, splice, sBuild, fillE, nilB, isNil, Nat.reduceEqDiff, Nat.reduceAdd, Nat.reduceLT, Nat.reduceLeDiff, Int.reduceNeg, Int.reduceToNat, reduceCtorEq, decide_true, decide_false]
  refine LoopG.up l.length (fun i T H => (∃ a m c top, H q = .map (encM (Value.int .i64) m) c ∧ MRel gi a m ∧ T 4 = gi top ∧ levS (l.drop i) a top = levS l [] 0) ∧ T 0 = encTs l ∧ T 3 = .mp q ∧ T 9 = encTs l ∧ T 10 = gi l.length ∧ T 11 = gi i) ?_ ?_
  · refine ⟨⟨[], [], 0, 0, ?_, trivial, rfl, rfl⟩, rfl, rfl, rfl, rfl, rfl⟩
    simp [View.set, encM]
  rintro i k T H hk ⟨⟨a, m, c, top, hq, hm, h4, hi⟩, h0, h3, h9, h10, h11⟩
  simp (disch := omega) only [↓wr, ↓reduceIte, wq, eq_self, ne_eq, implies_true, oneV, intOp, goI, splice, sBuild, fillE, nilB, isNil, Nat.reduceEqDiff, Nat.reduceAdd, Nat.reduceLT, Nat.reduceLeDiff, Int.reduceNeg, Int.reduceToNat, reduceCtorEq, decide_true, decide_false, B_cfg_levels_0, h0, h3, h4, h9, h10, h11, encTs]
  refine GoB.dec (fun hc => ?_) (fun hc => ?_)
  · have hg : l[i]? = some (l[i]'(by omega)) := List.getElem?_eq_getElem (by omega)
    rw [drop_at (show i < l.length by omega)] at hi
    generalize l[i]'(by omega) = t at hg hi
    simp only [levS] at hi
    simp (disch := omega) only [↓wr, ↓reduceIte, wq, eq_self, ne_eq, implies_true, oneV, intOp, goI, splice, sBuild, fillE, nilB, isNil, Nat.reduceEqDiff, Nat.reduceAdd, Nat.reduceLT, Nat.reduceLeDiff, Int.reduceNeg, Int.reduceToNat, reduceCtorEq, decide_true, decide_false, h0, h3, h4, h9, h10, h11, encTs, encT, List.getElem?_map, hg]
    intro b hb
    have hbq : b ≠ q := by rintro rfl; rw [hq] at hb; simp at hb
    try simp (disch := omega) only [↓wr, ↓reduceIte, wq, eq_self, ne_eq, implies_true, oneV, intOp, goI, splice, sBuild, fillE, nilB, isNil, Nat.reduceEqDiff, Nat.reduceAdd, Nat.reduceLT, Nat.reduceLeDiff, Int.reduceNeg, Int.reduceToNat, reduceCtorEq, decide_true, decide_false]
    refine GoB.eq (fun hz => ?_) (fun hz => ?_)
    · rw [if_pos hz] at hi
      simp (disch := omega) only [↓wr, ↓reduceIte, wq, eq_self, ne_eq, implies_true, oneV, intOp, goI, splice, sBuild, fillE, nilB, isNil, Nat.reduceEqDiff, Nat.reduceAdd, Nat.reduceLT, Nat.reduceLeDiff, Int.reduceNeg, Int.reduceToNat, reduceCtorEq, decide_true, decide_false, h0, h3, h4, h9, h10, h11]
      refine up_next hk (by omega) ⟨⟨a, m, c, top, ?_, hm, h4, hi⟩, h0, h3, h9, h10, rfl⟩
      simp [View.set, hbq.symm, hq]
    · rw [if_neg hz] at hi
      simp (disch := omega) only [↓wr, ↓reduceIte, wq, eq_self, ne_eq, implies_true, oneV, intOp, goI, splice, sBuild, fillE, nilB, isNil, Nat.reduceEqDiff, Nat.reduceAdd, Nat.reduceLT, Nat.reduceLeDiff, Int.reduceNeg, Int.reduceToNat, reduceCtorEq, decide_true, decide_false, h0, h3, h4, h9, h10, h11]
      refine look1 (kt := 3) (et := 3) (z := gi 0) (by kernel_rfl) (by kernel_rfl) (keyInt .i64 Tryz.underlying3) (id := q) (c := c) (m := m) (k := t.level) (by simp (disch := omega) only [↓wr, ↓reduceIte, wq, eq_self, ne_eq, implies_true, oneV, intOp, goI, splice, sBuild, fillE, nilB, isNil, Nat.reduceEqDiff, Nat.reduceAdd, Nat.reduceLT, Nat.reduceLeDiff, Int.reduceNeg, Int.reduceToNat, reduceCtorEq, decide_true, decide_false, h3]) (by simp (disch := omega) only [↓wr, ↓reduceIte, wq, eq_self, ne_eq, implies_true, oneV, intOp, goI, splice, sBuild, fillE, nilB, isNil, Nat.reduceEqDiff, Nat.reduceAdd, Nat.reduceLT, Nat.reduceLeDiff, Int.reduceNeg, Int.reduceToNat, reduceCtorEq, decide_true, decide_false, h3]) (by simp [View.set, hbq.symm, hq]) ?_
      have hgt : (getM m t.level).getD (gi 0) = gi ((pget a t.level).getD 0) := by
        rw [hm.get]; cases pget a t.level <;> rfl
      have hput : ∀ (H2 : View) (c' : Nat) (T2 : Env), (¬ ((pget a t.level).getD 0 ≠ 0 ∧ (pget a t.level).getD 0 ≠ t.assoc)) →
          H2 q = .map (encM (Value.int .i64) (putM t.level (gi t.assoc) c m)) c' → T2 0 = encTs l → T2 3 = .mp q → T2 4 = gi (if t.level > top then t.level else top) → T2 9 = encTs l → T2 10 = gi l.length → T2 11 = gi ((i : Int) + 1) →
          ∃ k', k' < k ∧ UpN l.length k' (fun i T H => (∃ a m c top, H q = .map (encM (Value.int .i64) m) c ∧ MRel gi a m ∧ T 4 = gi top ∧ levS (l.drop i) a top = levS l [] 0) ∧ T 0 = encTs l ∧ T 3 = .mp q ∧ T 9 = encTs l ∧ T 10 = gi l.length ∧ T 11 = gi i) T2 H2 := by
        intro H2 c' T2 hn g1 g2 g3 g4 g5 g6 g7
        rw [if_neg hn] at hi
        exact up_next hk (by omega) ⟨⟨_, _, c', _, g1, hm.put t.level t.assoc c, g4, hi⟩, g2, g3, g5, g6, by rw [g7]; rfl⟩
      repeat' (first | (refine GoB.dec (fun _ => ?_) (fun _ => ?_)) | (refine GoB.eq (fun _ => ?_) (fun _ => ?_)) | (refine GoB.ne (fun _ => ?_) (fun _ => ?_)) | (refine GoB.split (fun _ => ?_) (fun _ => ?_)) | (simp (disch := omega) only [↓wr, ↓reduceIte, wq, eq_self, ne_eq, implies_true, oneV, intOp, goI, splice, sBuild, fillE, nilB, isNil, Nat.reduceEqDiff, Nat.reduceAdd, Nat.reduceLT, Nat.reduceLeDiff, Int.reduceNeg, Int.reduceToNat, reduceCtorEq, decide_true, decide_false, h0, h3, h4, h9, h10, h11, hgt]))
      · rename_i n1 n2
        rw [if_pos ⟨n1, n2⟩] at hi
        simp only [levelsB, ← hi]
      · rename_i n1 n2
        refine mapPut (kt := 3) (et := 3) (by kernel_rfl) (keyInt .i64 Tryz.underlying3) (id := q) (c := c) (m := m) (k := t.level) (v := gi t.assoc) (by simp (disch := omega) only [↓wr, ↓reduceIte, wq, eq_self, ne_eq, implies_true, oneV, intOp, goI, splice, sBuild, fillE, nilB, isNil, Nat.reduceEqDiff, Nat.reduceAdd, Nat.reduceLT, Nat.reduceLeDiff, Int.reduceNeg, Int.reduceToNat, reduceCtorEq, decide_true, decide_false, h3]) (by simp (disch := omega) only [↓wr, ↓reduceIte, wq, eq_self, ne_eq, implies_true, oneV, intOp, goI, splice, sBuild, fillE, nilB, isNil, Nat.reduceEqDiff, Nat.reduceAdd, Nat.reduceLT, Nat.reduceLeDiff, Int.reduceNeg, Int.reduceToNat, reduceCtorEq, decide_true, decide_false, h3]) (by simp (disch := omega) only [↓wr, ↓reduceIte, wq, eq_self, ne_eq, implies_true, oneV, intOp, goI, splice, sBuild, fillE, nilB, isNil, Nat.reduceEqDiff, Nat.reduceAdd, Nat.reduceLT, Nat.reduceLeDiff, Int.reduceNeg, Int.reduceToNat, reduceCtorEq, decide_true, decide_false, h3]) (by simp [View.set, hbq.symm, hq]) ?_
        intro c'
        simp (disch := omega) only [↓wr, ↓reduceIte, wq, eq_self, ne_eq, implies_true, oneV, intOp, goI, splice, sBuild, fillE, nilB, isNil, Nat.reduceEqDiff, Nat.reduceAdd, Nat.reduceLT, Nat.reduceLeDiff, Int.reduceNeg, Int.reduceToNat, reduceCtorEq, decide_true, decide_false, h0, h3, h4, h9, h10, h11, hbq]
        exact hput _ c' _ (fun e => e.2 n2) (by simp [View.set]) h0 h3 rfl h9 h10 rfl
      · rename_i n1
        refine mapPut (kt := 3) (et := 3) (by kernel_rfl) (keyInt .i64 Tryz.underlying3) (id := q) (c := c) (m := m) (k := t.level) (v := gi t.assoc) (by simp (disch := omega) only [↓wr, ↓reduceIte, wq, eq_self, ne_eq, implies_true, oneV, intOp, goI, splice, sBuild, fillE, nilB, isNil, Nat.reduceEqDiff, Nat.reduceAdd, Nat.reduceLT, Nat.reduceLeDiff, Int.reduceNeg, Int.reduceToNat, reduceCtorEq, decide_true, decide_false, h3]) (by simp (disch := omega) only [↓wr, ↓reduceIte, wq, eq_self, ne_eq, implies_true, oneV, intOp, goI, splice, sBuild, fillE, nilB, isNil, Nat.reduceEqDiff, Nat.reduceAdd, Nat.reduceLT, Nat.reduceLeDiff, Int.reduceNeg, Int.reduceToNat, reduceCtorEq, decide_true, decide_false, h3]) (by simp (disch := omega) only [↓wr, ↓reduceIte, wq, eq_self, ne_eq, implies_true, oneV, intOp, goI, splice, sBuild, fillE, nilB, isNil, Nat.reduceEqDiff, Nat.reduceAdd, Nat.reduceLT, Nat.reduceLeDiff, Int.reduceNeg, Int.reduceToNat, reduceCtorEq, decide_true, decide_false, h3]) (by simp [View.set, hbq.symm, hq]) ?_
        intro c'
        simp (disch := omega) only [↓wr, ↓reduceIte, wq, eq_self, ne_eq, implies_true, oneV, intOp, goI, splice, sBuild, fillE, nilB, isNil, Nat.reduceEqDiff, Nat.reduceAdd, Nat.reduceLT, Nat.reduceLeDiff, Int.reduceNeg, Int.reduceToNat, reduceCtorEq, decide_true, decide_false, h0, h3, h4, h9, h10, h11, hbq]
        exact hput _ c' _ (fun e => e.1 n1) (by simp [View.set]) h0 h3 rfl h9 h10 rfl
  · rw [List.drop_eq_nil_of_le (by omega)] at hi
    simp only [levS] at hi
    simp (disch := omega) only [↓wr, ↓reduceIte, wq, eq_self, ne_eq, implies_true, oneV, intOp, goI, splice, sBuild, fillE, nilB, isNil, Nat.reduceEqDiff, Nat.reduceAdd, Nat.reduceLT, Nat.reduceLeDiff, Int.reduceNeg, Int.reduceToNat, reduceCtorEq, decide_true, decide_false, h0, h3, h4, h9, h10, h11]
    refine mapLen (kt := 3) (et := 3) (by kernel_rfl) (id := q) (c := c) (m := m) (by simp (disch := omega) only [↓wr, ↓reduceIte, wq, eq_self, ne_eq, implies_true, oneV, intOp, goI, splice, sBuild, fillE, nilB, isNil, Nat.reduceEqDiff, Nat.reduceAdd, Nat.reduceLT, Nat.reduceLeDiff, Int.reduceNeg, Int.reduceToNat, reduceCtorEq, decide_true, decide_false, h3]) hq ?_
    simp (disch := omega) only [↓wr, ↓reduceIte, wq, eq_self, ne_eq, implies_true, oneV, intOp, goI, splice, sBuild, fillE, nilB, isNil, Nat.reduceEqDiff, Nat.reduceAdd, Nat.reduceLT, Nat.reduceLeDiff, Int.reduceNeg, Int.reduceToNat, reduceCtorEq, decide_true, decide_false, h0, h3, h4, h9, h10, h11, hm.len]
    simp only [levelsB, ← hi]

def termC (t : Term) : Bool := namedB (bts t.name) && decide (0 ≤ t.level) && decide (t.level ≤ 24) && decide (0 ≤ t.assoc) && decide (t.assoc ≤ 3) && ((t.level == 0) == (t.assoc == 0))
def termsC (l : List Term) : Bool := l.all termC && decide (l.length ≤ 24) && levelsB l

set_option maxHeartbeats 1000000 in
theorem pc_cterms (l : List Term) (hl : Short l) : PCall Tryz.prog 70 [encTs l] (gb (termsC l)) := by
  refine PCall.val (encTs_tree l) fun H => ?_
  refine MCall.of mixed S_cfg_terms_ok ?_
  have hl2 := hl
  unfold Short at hl
  simp (disch := omega) only [↓wr, ↓reduceIte, wq, eq_self, ne_eq, implies_true, oneV, intOp, goI, splice, sBuild, fillE, nilB, isNil, Nat.reduceEqDiff, Nat.reduceAdd, Nat.reduceLT, Nat.reduceLeDiff, Int.reduceNeg, Int.reduceToNat, reduceCtorEq, decide_true, decide_false, S_cfg_terms, encTs]
  refine LoopG.up l.length (fun i T H => (l.drop i).all termC = l.all termC ∧ T 0 = encTs l ∧ T 5 = encTs l ∧ T 6 = gi l.length ∧ T 7 = gi i) ?_ ?_
  · exact ⟨rfl, rfl, rfl, rfl, rfl⟩
  rintro i k T H hk ⟨hi, h0, h5, h6, h7⟩
  simp (disch := omega) only [↓wr, ↓reduceIte, wq, eq_self, ne_eq, implies_true, oneV, intOp, goI, splice, sBuild, fillE, nilB, isNil, Nat.reduceEqDiff, Nat.reduceAdd, Nat.reduceLT, Nat.reduceLeDiff, Int.reduceNeg, Int.reduceToNat, reduceCtorEq, decide_true, decide_false, B_cfg_terms_0, h0, h5, h6, h7, encTs]
  refine GoB.dec (fun hc => ?_) (fun hc => ?_)
  · have hg : l[i]? = some (l[i]'(by omega)) := List.getElem?_eq_getElem (by omega)
    rw [drop_at (show i < l.length by omega)] at hi
    generalize l[i]'(by omega) = t at hg hi
    rw [List.all_cons] at hi
    have hbad : termC t = false → gb false = gb (termsC l) := fun e => by rw [e, Bool.false_and] at hi; simp [termsC, ← hi]
    simp (disch := omega) only [↓wr, ↓reduceIte, wq, eq_self, ne_eq, implies_true, oneV, intOp, goI, splice, sBuild, fillE, nilB, isNil, Nat.reduceEqDiff, Nat.reduceAdd, Nat.reduceLT, Nat.reduceLeDiff, Int.reduceNeg, Int.reduceToNat, reduceCtorEq, decide_true, decide_false, h0, h5, h6, h7, encTs, encT, List.getElem?_map, hg]
    intro b hb
    repeat' (first | (refine GoB.dec (fun _ => ?_) (fun _ => ?_)) | (refine GoB.eq (fun _ => ?_) (fun _ => ?_)) | (refine GoB.ne (fun _ => ?_) (fun _ => ?_)) | (refine GoB.split (fun _ => ?_) (fun _ => ?_)) | (refine CallG.pure (pc_cnamed t.name) (by kernel_rfl) ?_) | (refine CallG.pure (pc_cwithin _ _ _) (by kernel_rfl) ?_) | (simp (disch := omega) only [↓wr, ↓reduceIte, wq, eq_self, ne_eq, implies_true, oneV, intOp, goI, splice, sBuild, fillE, nilB, isNil, Nat.reduceEqDiff, Nat.reduceAdd, Nat.reduceLT, Nat.reduceLeDiff, Int.reduceNeg, Int.reduceToNat, reduceCtorEq, decide_true, decide_false, h0, h5, h6, h7, encTs]))
    all_goals first
      | (refine hbad ?_; simp [termC, *]; done)
      | (refine hbad ?_; simp_all [termC]; done)
      | skip
    rename_i e1 e2 e3 e4
    refine up_next hk (by omega) ⟨?_, h0, h5, h6, rfl⟩
    have : termC t = true := by
      simp only [Bool.and_eq_true, decide_eq_true_eq] at e2 e3
      have e4' : ((t.level == 0) == (t.assoc == 0)) = true := by simpa [bne] using e4
      simp [termC, e1, e2.1, e2.2, e3.1, e3.2, e4']
    rw [this, Bool.true_and] at hi
    exact hi
  · rw [List.drop_eq_nil_of_le (by omega), List.all_nil] at hi
    simp (disch := omega) only [↓wr, ↓reduceIte, wq, eq_self, ne_eq, implies_true, oneV, intOp, goI, splice, sBuild, fillE, nilB, isNil, Nat.reduceEqDiff, Nat.reduceAdd, Nat.reduceLT, Nat.reduceLeDiff, Int.reduceNeg, Int.reduceToNat, reduceCtorEq, decide_true, decide_false, h0, h5, h6, h7, encTs]
    repeat' (first | (refine GoB.dec (fun _ => ?_) (fun _ => ?_)) | (refine GoB.eq (fun _ => ?_) (fun _ => ?_)) | (refine GoB.ne (fun _ => ?_) (fun _ => ?_)) | (refine GoB.split (fun _ => ?_) (fun _ => ?_)) | (refine CallG.pure (pc_clevels l hl2) (by kernel_rfl) ?_) | (simp (disch := omega) only [↓wr, ↓reduceIte, wq, eq_self, ne_eq, implies_true, oneV, intOp, goI, splice, sBuild, fillE, nilB, isNil, Nat.reduceEqDiff, Nat.reduceAdd, Nat.reduceLT, Nat.reduceLeDiff, Int.reduceNeg, Int.reduceToNat, reduceCtorEq, decide_true, decide_false, h0, h5, h6, h7, encTs]))
    · rename_i h
      simp [termsC, ← hi, show l.length ≤ 24 by omega]
    · rename_i h
      simp [termsC, ← hi, show ¬ l.length ≤ 24 by omega]
end Gv

/-
  A list of texts, sorted by the library: what comes back; whether each text stands once.
  Conditions: texts whose list takes no more memory than the reach.
-/
set_option linter.unusedSimpArgs false
set_option maxRecDepth 100000
namespace Gv
open Go Go.Proofs Go.Shelf Go.RowKit Go.Sort

attribute [local go_sem] Oper.semAt_some

def sortedL_ren : Ren where
  f := fun
    | 6 => 103
    | 8 => 126
    | 9 => 127
    | 11 => 144
    | 13 => 146
    | 12 => 145
    | 23 => 159
    | 24 => 160
    | 14 => 150
    | 15 => 151
    | 16 => 152
    | 17 => 153
    | 18 => 154
    | 19 => 155
    | 20 => 156
    | 21 => 157
    | 22 => 158
    | 25 => 161
    | 26 => 162
    | 27 => 163
    | 28 => 164
    | 29 => 165
    | 30 => 166
    | 31 => 167
    | n => n
  t := fun
    | 26 => 9
    | 28 => 129
    | 24 => 23
    | 0 => 0
    | 3 => 3
    | 37 => 133
    | 48 => 154
    | 50 => 157
    | 4 => 4
    | 40 => 179
    | 39 => 178
    | 45 => 65
    | 5 => 5
    | 9 => 9
    | 51 => 187
    | 55 => 191
    | 57 => 193
    | 58 => 194
    | 33 => 97
    | n => n
  g := fun n => n
theorem sortedL : Go.Proofs.SlLaysZ.n6 Tryz.prog sortedL_ren where
  mixed := by kernel_rfl
  f6 := ⟨Tryz.f103.name, by kernel_rfl, by kernel_rfl⟩
  f8 := ⟨Tryz.f126.name, by kernel_rfl, by kernel_rfl⟩
  f11 := ⟨Tryz.f144.name, by kernel_rfl, by kernel_rfl⟩
  t0 := Tryz.underlying0
  a0 := Tryz.isAgg0
  z0 := Tryz.sizeOf0
  v0 := Tryz.zeroValue0
  t24 := Tryz.underlying23
  a24 := Tryz.isAgg23
  z24 := Tryz.sizeOf23
  v24 := Tryz.zeroValue23
  t26 := Tryz.underlying9
  a26 := Tryz.isAgg9
  z26 := Tryz.sizeOf9
  v26 := Tryz.zeroValue9
  t28 := Tryz.underlying129
  a28 := Tryz.isAgg129
  z28 := Tryz.sizeOf129
  v28 := Tryz.zeroValue129
  i26 := by kernel_rfl
def sortL_ren : Ren where
  f := fun
    | 6 => 127
    | 8 => 146
    | 9 => 145
    | 19 => 159
    | 20 => 160
    | 21 => 150
    | 22 => 151
    | 23 => 152
    | 24 => 153
    | 25 => 154
    | 26 => 155
    | 27 => 156
    | 28 => 157
    | 29 => 158
    | 36 => 161
    | 31 => 162
    | 32 => 163
    | 37 => 164
    | 38 => 165
    | 39 => 166
    | 41 => 167
    | n => n
  t := fun
    | 27 => 23
    | 29 => 9
    | 3 => 3
    | 32 => 133
    | 26 => 23
    | 0 => 0
    | 44 => 154
    | 46 => 157
    | 4 => 4
    | 36 => 179
    | 35 => 178
    | 41 => 65
    | 5 => 5
    | 9 => 9
    | 53 => 187
    | 57 => 191
    | 63 => 193
    | 64 => 194
    | n => n
  g := fun n => n
theorem sortL : Go.Proofs.SlLaysM.n6 Tryz.prog sortL_ren where
  mixed := by kernel_rfl
  f6 := ⟨Tryz.f127.name, by kernel_rfl, by kernel_rfl⟩
  f8 := by kernel_rfl
  f9 := ⟨Tryz.f145.name, by kernel_rfl, by kernel_rfl⟩
  f19 := by kernel_rfl
  f20 := by kernel_rfl
  f21 := ⟨Tryz.f150.name, by kernel_rfl, by kernel_rfl⟩
  f22 := ⟨Tryz.f151.name, by kernel_rfl, by kernel_rfl⟩
  f23 := ⟨Tryz.f152.name, by kernel_rfl, by kernel_rfl⟩
  f24 := ⟨Tryz.f153.name, by kernel_rfl, by kernel_rfl⟩
  f25 := ⟨Tryz.f154.name, by kernel_rfl, by kernel_rfl⟩
  f26 := ⟨Tryz.f155.name, by kernel_rfl, by kernel_rfl⟩
  f27 := ⟨Tryz.f156.name, by kernel_rfl, by kernel_rfl⟩
  f28 := ⟨Tryz.f157.name, by kernel_rfl, by kernel_rfl⟩
  f29 := ⟨Tryz.f158.name, by kernel_rfl, by kernel_rfl⟩
  f31 := by kernel_rfl
  f32 := by kernel_rfl
  f36 := ⟨Tryz.f161.name, by kernel_rfl, by kernel_rfl⟩
  f37 := ⟨Tryz.f164.name, by kernel_rfl, by kernel_rfl⟩
  f38 := ⟨Tryz.f165.name, by kernel_rfl, by kernel_rfl⟩
  f39 := ⟨Tryz.f166.name, by kernel_rfl, by kernel_rfl⟩
  f41 := ⟨Tryz.f167.name, by kernel_rfl, by kernel_rfl⟩
  t0 := Tryz.underlying0
  a0 := Tryz.isAgg0
  z0 := Tryz.sizeOf0
  v0 := Tryz.zeroValue0
  t3 := Tryz.underlying3
  a3 := Tryz.isAgg3
  z3 := Tryz.sizeOf3
  v3 := Tryz.zeroValue3
  t4 := Tryz.underlying4
  a4 := Tryz.isAgg4
  z4 := Tryz.sizeOf4
  v4 := Tryz.zeroValue4
  t5 := Tryz.underlying5
  a5 := Tryz.isAgg5
  z5 := Tryz.sizeOf5
  v5 := Tryz.zeroValue5
  t9 := Tryz.underlying9
  a9 := Tryz.isAgg9
  z9 := Tryz.sizeOf9
  v9 := Tryz.zeroValue9
  t26 := Tryz.underlying23
  a26 := Tryz.isAgg23
  z26 := Tryz.sizeOf23
  v26 := Tryz.zeroValue23
  t27 := Tryz.underlying23
  a27 := Tryz.isAgg23
  z27 := Tryz.sizeOf23
  v27 := Tryz.zeroValue23
  t29 := Tryz.underlying9
  a29 := Tryz.isAgg9
  z29 := Tryz.sizeOf9
  v29 := Tryz.zeroValue9
  t32 := Tryz.underlying133
  a32 := Tryz.isAgg133
  z32 := Tryz.sizeOf133
  v32 := Tryz.zeroValue133
  t35 := Tryz.underlying178
  a35 := Tryz.isAgg178
  z35 := Tryz.sizeOf178
  v35 := Tryz.zeroValue178
  t36 := Tryz.underlying179
  a36 := Tryz.isAgg179
  z36 := Tryz.sizeOf179
  v36 := Tryz.zeroValue179
  t41 := Tryz.underlying65
  a41 := Tryz.isAgg65
  z41 := Tryz.sizeOf65
  v41 := Tryz.zeroValue65
  t44 := Tryz.underlying154
  a44 := Tryz.isAgg154
  z44 := Tryz.sizeOf154
  v44 := Tryz.zeroValue154
  t46 := Tryz.underlying157
  a46 := Tryz.isAgg157
  z46 := Tryz.sizeOf157
  v46 := Tryz.zeroValue157
  t53 := Tryz.underlying187
  a53 := Tryz.isAgg187
  z53 := Tryz.sizeOf187
  v53 := Tryz.zeroValue187
  t57 := Tryz.underlying191
  a57 := Tryz.isAgg191
  z57 := Tryz.sizeOf191
  v57 := Tryz.zeroValue191
  t63 := Tryz.underlying193
  a63 := Tryz.isAgg193
  z63 := Tryz.sizeOf193
  v63 := Tryz.zeroValue193
  t64 := Tryz.underlying194
  a64 := Tryz.isAgg194
  z64 := Tryz.sizeOf194
  v64 := Tryz.zeroValue194
def compL_ren : Ren where
  f := fun
    | 44 => 105
    | n => n
  t := fun
    | 25 => 23
    | 26 => 9
    | 3 => 3
    | 4 => 4
    | 0 => 0
    | n => n
  g := fun n => n
theorem compL : Go.Proofs.SlLaysN.n44 Tryz.prog compL_ren where
  mixed := by kernel_rfl
  f44 := ⟨Tryz.f105.name, by kernel_rfl, by kernel_rfl⟩
  t0 := Tryz.underlying0
  a0 := Tryz.isAgg0
  z0 := Tryz.sizeOf0
  v0 := Tryz.zeroValue0
  t3 := Tryz.underlying3
  a3 := Tryz.isAgg3
  z3 := Tryz.sizeOf3
  v3 := Tryz.zeroValue3
  t4 := Tryz.underlying4
  a4 := Tryz.isAgg4
  z4 := Tryz.sizeOf4
  v4 := Tryz.zeroValue4
  t25 := Tryz.underlying23
  a25 := Tryz.isAgg23
  z25 := Tryz.sizeOf23
  v25 := Tryz.zeroValue23
  t26 := Tryz.underlying9
  a26 := Tryz.isAgg9
  z26 := Tryz.sizeOf9
  v26 := Tryz.zeroValue9
  i26 := by kernel_rfl


/-- An iterator over what nobody turns while it runs. -/
def SeqIn (n : Nat) (P : Program) (g : Nat) (lb : Array Value) (S : List (List UInt8) → Prop) (N : Nat) (w : World) : Prop :=
  ∀ (l : Nat) (J : List (List UInt8) → World → Prop) (W : World), (∀ pre W', J pre W' → Below w.heap.size w W') →
    (∀ pre x W1, J pre W1 → pre.length < N → YieldAt Fence.wide (n - 1) P l #[encStr x] W1 fun e W' => e = .returned (.bool true) ∧ J (pre ++ [x]) W' ∧ KeepsWalks W1 W') →
    J [] W → CallsIn Fence.wide n P g (#[.func (.yield l) #[] #[]] ++ lb) W fun e W' => (∃ v, e = .returned v) ∧ ∃ xs, S xs ∧ J xs W'

theorem take_next {zs : List (List UInt8)} {k : Nat} (h : k < zs.length) : zs.take k ++ [zs.getD k []] = zs.take (k + 1) := by
  rw [List.take_add_one]; simp [List.getD_eq_getElem?_getD, h]

set_option maxHeartbeats 2000000 in
/-- The iterator over a slice's texts. -/
theorem values_seq (n : Nat) (hn : 1 ≤ n) (Bs b off cap : Nat) (zs : List (List UInt8)) (hreach : zs.length * 16 ≤ 140737488351232) (w : World)
    (hBs : w.cell? ⟨Bs, 0, none⟩ = some (.slice (some ⟨b, off, none⟩) zs.length cap)) (hBl : Bs < w.heap.size) (hbl : b < w.heap.size)
    (hc : ∀ j, j < zs.length → w.cell? ⟨b, off + j, none⟩ = some (encStr (zs.getD j []))) :
    SeqIn n Tryz.prog 128 #[.pointer (some ⟨Bs, 0, none⟩)] (fun xs => xs = zs) zs.length w := by
  intro l J W hJ hY h0
  have hbw := hJ _ _ h0
  have hBs' := (hbw.cell (p := ⟨Bs, 0, none⟩) hBl).trans hBs
  have hf : Fence.wide.fn 128 := trivial
  refine callsIn_of_wp Tryz.func128 rfl hf ?_ rfl
  simp only [Tryz.ntmps128, List.size_toArray, List.length_cons, List.length_nil, Nat.reduceAdd, Nat.reduceSub, Array.replicate_succ, Array.replicate_zero, List.push_toArray, List.append_toArray, List.nil_append, List.cons_append]
  gi_wp2
  gi_loopw [7] (fun i wr => ∃ k : Nat, k ≤ zs.length ∧ i = .int .i64 k ∧ J (zs.take k) wr) (fun i _ => zs.length - (RowKit.intOf i).toNat)
  case atStart => exact ⟨0, Nat.zero_le _, rfl, by simpa using h0⟩
  case round =>
    obtain ⟨k, hk, rfl, hJs⟩ := hrel
    have hnx := hJ _ _ hJs
    have hcx : k < zs.length → wr.cell? ⟨b, off + k, none⟩ = some (encStr (zs.getD k [])) := fun h => (hnx.cell (p := ⟨b, off + k, none⟩) hbl).trans (hc k h)
    by_cases hlt : k < zs.length
    · obtain ⟨x, hx1, hcx'⟩ : ∃ x, zs.take k ++ [x] = zs.take (k + 1) ∧ wr.cell? ⟨b, off + k, none⟩ = some (encStr x) := ⟨_, take_next hlt, hcx hlt⟩
      obtain ⟨fn, tmps, assign, body, hy, hR⟩ := hY _ x wr hJs (by simp; omega)
      clear hcx hJs
      gi_wp2
      refine hR.mono ?_
      rintro e W3 ⟨rfl, hJ3, hk3⟩
      gi_wp2
      go_roundw
      case rel => exact ⟨k + 1, by omega, by simp, by rw [← hx1]; exact hJ3⟩
      case measure => simp [RowKit.intOf]; omega
    · obtain rfl : k = zs.length := by omega
      clear hcx
      gi_wp2
      go_end0
      exact ⟨⟨_, rfl⟩, _, rfl, by simpa using hJs⟩

set_option maxHeartbeats 2000000 in
/-- What is appended to nothing of what such an iterator gives. -/
theorem appendSeq_of (n : Nat) (hn : 2 ≤ n) (g : Nat) (lb : Array Value) (eg : ∀ args w, (callFunc g args).run Tryz.prog w = .ok (.enter g args) w)
    (S : List (List UInt8) → Prop) (N : Nat) (hN : N ≤ maxLen) (hNb : N * 16 ≤ 140737488355328) (w : World) (hseq : SeqIn (n - 1) Tryz.prog g lb S N w) :
    CallsIn Fence.wide n Tryz.prog 144 #[.slice none 0 0, .func (.func g) #[] lb] w fun e w' => ∃ (v : Value) (ss : List (List UInt8)), e = .returned v ∧ S ss ∧ w'.ownsRow w.heap.size 9 1 v ss.length (ss.map encStr) ∧ Below w.heap.size w w' := by
  have h11 : Fence.wide.fn 144 := trivial
  refine callsIn_of_wp_marks Tryz.func144 rfl h11 ?_ rfl
  simp only [Tryz.ntmps144, List.size_toArray, List.length_cons, List.length_nil, Nat.reduceAdd, Nat.reduceSub, Array.replicate_succ, Array.replicate_zero, List.push_toArray, List.append_toArray, List.nil_append, List.cons_append]
  gi_wp2
  refine wpIn_rangeFunc ?_
  intro fn hfn
  let sv : Value := .func (.func g) #[] lb
  have hz : (w.alloc (.cells #[.slice none 0 0] 23)).heap.size = w.heap.size + 1 := by simp
  have hv0 := World.alloc_heap_new w (.cells #[.slice none 0 0] 23)
  have hb0 : Below w.heap.size w (w.alloc (.cells #[.slice none 0 0] 23)) := (Below.refl _ w).alloc (Nat.le_refl _) _
  revert hz hv0 hb0
  generalize w.alloc (.cells #[.slice none 0 0] 23) = W0
  intro hz hv0 hb0
  obtain ⟨W1, hW1⟩ : ∃ W1, (W0.alloc (.deferred (some []))).alloc (.loop (AnyZ.apRec sortedL_ren fn sv w.heap.size W0.heap.size .ready none)) = W1 := ⟨_, rfl⟩
  have hold : ∀ k, k < W0.heap.size → W1.heap[k]? = W0.heap[k]? := fun k hk => by
    rw [← hW1]; exact (Below.heap_alloc _ _ k (by simp; omega)).trans (Below.heap_alloc _ _ k hk)
  have hb1 : Below w.heap.size w W1 := by rw [← hW1]; exact (hb0.alloc (by omega) _).alloc (by simp; omega) _
  have hM : AnyZ.ApAt sortedL_ren w fn sv w.heap.size (W0.heap.size + 1) W0.heap.size [] W1 := by
    refine ⟨⟨_, (hold w.heap.size (by omega)).trans hv0, ⟨rfl, .inl ⟨rfl, rfl⟩⟩, by simp⟩, ?_, ?_, hb1⟩
    · rw [← hW1]
      have h := World.alloc_heap_new (W0.alloc (.deferred (some []))) (.loop (AnyZ.apRec sortedL_ren fn sv w.heap.size W0.heap.size .ready none))
      rwa [World.size_alloc] at h
    · rw [← hW1]; exact (Below.heap_alloc _ _ _ (by simp)).trans (World.alloc_heap_new W0 _)
  refine ⟨W0.heap.size + 1, [{ target := .collected W0.heap.size, args := #[] }], W1, { target := .fn (.func g) lb, args := #[.func (.yield (W0.heap.size + 1)) #[] #[]] }, W1, g,
    #[.func (.yield (W0.heap.size + 1)) #[] #[]] ++ lb, W1, by rw [← hW1]; exact run_enterLoop_outer _ _ _ _ _, ?_, ?_, ?_, fun _ => by omega, ?_⟩
  · simp [resolve, go_sem]
  · intro f' hf'; trivial
  · simp [invoke, go_sem, eg]
  · refine (hseq (W0.heap.size + 1) (AnyZ.ApAt sortedL_ren w fn sv w.heap.size (W0.heap.size + 1) W0.heap.size) W1 (fun _ _ h => h.below)
      (fun pre x W hJ hl => AnyZ.apYield { sortedL with } Fence.wide (n - 1 - 1) w fn hfn _ w.heap.size (W0.heap.size + 1) W0.heap.size (by omega) (by omega) (by omega) (Nat.le_refl _) (by omega) N hN hNb pre x W hJ hl) hM).mono ?_
    rintro e W2 ⟨⟨v0, rfl⟩, ss, hS, h2⟩
    obtain ⟨v, hv, hrow, _⟩ := h2.box
    have hend := run_endLoop (P := Tryz.prog) h2.L (by simp [AnyZ.apRec])
    have hne : ∀ (cur : Array Value), Obj.cells #[v] 23 (0, 0) ≠ .cells cur 9 (0, 0) := fun cur e => by cases e
    obtain ⟨W3, hW3⟩ : ∃ W3, W2.putObj (W0.heap.size + 1) (.loop { AnyZ.apRec sortedL_ren fn sv w.heap.size W0.heap.size .ready none with state := .exhausted }) = W3 := ⟨_, rfl⟩
    have hg3 : W2.grownBy W3 (some (W0.heap.size + 1)) := by rw [← hW3]; exact grownBy_putObj_a _ _ _
    have hv3 : W3.heap[w.heap.size]? = some (.cells #[v] 23 (0, 0)) := by rw [← hW3]; exact (World.putObj_heap_other (by omega)).trans hv
    have hK3 : W3.heap[W0.heap.size]? = some (.deferred (some [])) := by rw [← hW3]; exact (World.putObj_heap_other (by omega)).trans h2.K
    have hrow3 := hrow.kept hg3 (ownsRow_ne_a hrow h2.L (fun cur e => by cases e))
    have hb3 : Below w.heap.size w W3 := h2.below.grown hg3 h2.below.size (fun k e => by cases e; omega)
    obtain ⟨hc3, hf3⟩ := cell_of_box_a hv3
    refine ⟨none, W3, by rw [← hW3]; exact hend, ?_⟩
    clear hW3 hW1 hold hM hend hseq
    gi_wp2
    rw [← hz]
    refine ⟨by simp, .inl ⟨_, _, rfl, run_takeDeferred hK3, ?_⟩⟩
    exact ⟨_, results_tmp rfl _ _ _, v, ss, rfl, hS, hrow3.kept (grownBy_putObj_a _ _ _) (ownsRow_ne_a hrow3 hK3 (fun cur e => by cases e)), hb3.grown (grownBy_putObj_a _ _ _) hb3.size (fun k e => by cases e; omega)⟩

set_option maxHeartbeats 2000000 in
theorem sorted_of (n : Nat) (hn : 4 ≤ n) (g : Nat) (lb : Array Value) (eg : ∀ args w, (callFunc g args).run Tryz.prog w = .ok (.enter g args) w)
    (S : List (List UInt8) → Prop) (N : Nat) (hN : N ≤ maxLen) (hNb : N * 16 ≤ 140737488355328) (w : World) (hseq : SeqIn (n - 1 - 1 - 1) Tryz.prog g lb S N w) (hS : ∀ xs, S xs → xs.length < 4611686018427387904) :
    CallsIn Fence.wide n Tryz.prog 103 #[.func (.func g) #[] lb] w fun e w' => ∃ (v : Value) (ss : List (List UInt8)), e = .returned v ∧ S ss ∧
      w'.ownsRow w.heap.size 9 1 v ss.length ((ss.mergeSort (fun x y => decide (x ≤ y))).map encStr) ∧ Below w.heap.size w w' := by
  have h6 : Fence.wide.fn 103 := trivial
  have h8 : Fence.wide.fn 126 := trivial
  have h9 : Fence.wide.fn 127 := trivial
  have h11 : Fence.wide.fn 144 := trivial
  have h1 : 1 ≤ n - 1 := by omega
  have h1' : 1 ≤ n := by omega
  have hcol : CallsIn Fence.wide (n - 1) Tryz.prog 126 #[.func (.func g) #[] lb] w fun e w' => ∃ (v : Value) (ss : List (List UInt8)), e = .returned v ∧ S ss ∧ w'.ownsRow w.heap.size 9 1 v ss.length (ss.map encStr) ∧ Below w.heap.size w w' := by
    have happ := appendSeq_of (n - 1 - 1) (by omega) g lb eg S N hN hNb w hseq
    refine callsIn_of_wp Tryz.func126 rfl h8 ?_ rfl
    simp only [Tryz.ntmps126, List.size_toArray, List.length_cons, List.length_nil, Nat.reduceAdd, Nat.reduceSub, Array.replicate_succ, Array.replicate_zero, List.push_toArray, List.append_toArray, List.nil_append, List.cons_append]
    gi_wp2_with (gi_at_call 144; refine happ.mono ?_; rintro e w' ⟨v, ss, rfl, hS, hrow, hb⟩)
    go_ret
    exact ⟨v, ss, rfl, hS, hrow, hb⟩
  refine callsIn_of_wp Tryz.func103 rfl h6 ?_ rfl
  simp only [Tryz.ntmps103, List.size_toArray, List.length_cons, List.length_nil, Nat.reduceAdd, Nat.reduceSub, Array.replicate_succ, Array.replicate_zero, List.push_toArray, List.append_toArray, List.nil_append, List.cons_append]
  gi_wp2_with (gi_at_call 126; refine hcol.mono ?_; rintro e W ⟨v, ss, rfl, hSs, hrow, hb⟩)
  have hlen := hS ss hSs
  rcases hrow.2 with ⟨rfl, hz⟩ | ⟨gb, cap, cur, rfl, hbase, hgb, r1, r2, r3, r4⟩
  · have hss : ss = [] := List.eq_nil_of_length_eq_zero hz
    subst hss
    have cN : CallsIn Fence.wide (n - 1) Tryz.prog 127 #[.slice none 0 0] W fun e w' => e = .returned (.tuple #[]) ∧ w' = W := callsIn_wide.2 (AnyM.slices_Sort_string_none sortL none 0 W)
    gi_wp2_with (gi_at_call 127; refine cN.mono ?_; rintro e w' ⟨rfl, rfl⟩)
    go_ret
    exact ⟨.slice none 0 0, [], rfl, hSs, by simpa using hrow, hb⟩
  · have hH : Holds encStr W gb 0 ss.toArray := holds_of_block hgb (by simpa using r4)
    have hgl : gb < W.heap.size := (Array.getElem?_eq_some_iff.1 hgb).1
    have cS : CallsIn Fence.wide (n - 1) Tryz.prog 127 #[.slice (some ⟨gb, 0, none⟩) ss.length cap] W fun e w' => e = .returned (.tuple #[]) ∧ ∃ k os, w' = grow (putRow encStr (Sort.ahead W k) gb 0 (ss.mergeSort fun x y => decide (x ≤ y)).toArray) os :=
      callsIn_wide.2 (AnyM.slices_Sort_string sortL gb 0 cap ss W hH hgl hlen)
    gi_wp2_with (gi_at_call 127; refine cS.mono ?_; rintro e w' ⟨rfl, nn, os, rfl⟩)
    go_ret
    exact ⟨_, ss, rfl, hSs, ownsRow_sorted (by simp) hbase hgb r1 r2 r3, hb.grown (grownBy_sorted _) hb.size (fun j hj => by cases hj; exact hbase)⟩
end Gv

/-
  Does each text of a list stand once: what the program's own function answers.
  Conditions: no more than a thousand texts.
-/
set_option linter.unusedSimpArgs false
set_option maxRecDepth 100000
namespace Gv
open Go Go.Proofs Go.Shelf Go.RowKit Go.Sort

theorem le_of_steps {l : List (List UInt8)} (hs : l.Pairwise (fun a b => decide (a ≤ b) = true)) (h : ∀ j, j + 1 < l.length → l.getD (j + 1) [] ≠ l.getD j []) : l.Nodup := by
  induction l with
  | nil => exact List.nodup_nil
  | cons x r ih =>
    rw [List.pairwise_cons] at hs
    refine List.nodup_cons.2 ⟨fun hx => ?_, ih hs.2 fun j hj => by simpa using h (j + 1) (by simpa using hj)⟩
    cases r with
    | nil => simp at hx
    | cons y r =>
      have h0 := h 0 (by simp)
      simp only [List.getD_cons_succ, List.getD_cons_zero, Nat.zero_add] at h0
      rcases List.mem_cons.1 hx with e | hm
      · exact h0 e.symm
      · have h1 : x ≤ y := by simpa using hs.1 y (by simp)
        have h2 : y ≤ x := by simpa using (List.pairwise_cons.1 hs.2).1 x hm
        exact h0 (List.le_antisymm h2 h1)

theorem keeps_iff (l : List (List UInt8)) : (Lib.compact l).length = l.length ↔ ∀ j, j + 1 < l.length → l.getD (j + 1) [] ≠ l.getD j [] := by
  have hl : (Lib.compact l).length = ((List.range l.length).filter (Lib.keeps l.toArray)).length := by simp [Lib.compact, Lib.compactUpTo]
  rw [hl]
  have hr : (List.range l.length).length = l.length := by simp
  conv => lhs; rhs; rw [← hr]
  rw [List.length_filter_eq_length_iff]
  have hg : ∀ j, j < l.length → l.toArray[j]! = l.getD j [] := fun j hj => by simp [List.getD_eq_getElem?_getD, hj]
  constructor
  · intro h j hj
    have := h (j + 1) (by simpa using hj)
    simp only [Lib.keeps, decide_eq_true_eq, Nat.add_sub_cancel] at this
    rcases this with e | e
    · omega
    · rw [hg _ hj, hg _ (by omega)] at e; exact e
  · intro h j hj
    simp only [List.mem_range] at hj
    simp only [Lib.keeps, decide_eq_true_eq]
    by_cases e : j = 0
    · exact .inl e
    · right
      obtain ⟨k, rfl⟩ : ∃ k, j = k + 1 := ⟨j - 1, by omega⟩
      rw [hg _ hj, Nat.add_sub_cancel, hg _ (by omega)]
      exact h k hj

def leS (x y : List UInt8) : Bool := decide (x ≤ y)
theorem sorted_compact (zs : List (List UInt8)) : (Lib.compact (zs.mergeSort fun x y => decide (x ≤ y))).length = zs.length ↔ zs.Nodup := by
  have hp := List.mergeSort_perm zs (fun x y => decide (x ≤ y))
  have hs := List.pairwise_mergeSort (le := fun x y : List UInt8 => decide (x ≤ y)) (fun a b c h k => by simp at h k ⊢; exact List.le_trans h k) (fun a b => by simpa using List.le_total a b) zs
  rw [← hp.nodup_iff, ← hp.length_eq, keeps_iff]
  constructor
  · exact le_of_steps hs
  · intro hn j hj e
    have h1 : (zs.mergeSort fun x y => decide (x ≤ y))[j + 1]'hj = (zs.mergeSort fun x y => decide (x ≤ y))[j]'(by omega) := by
      simp only [List.getD_eq_getElem?_getD, List.getElem?_eq_getElem hj, List.getElem?_eq_getElem (show j < (zs.mergeSort fun x y => decide (x ≤ y)).length by omega), Option.getD_some] at e
      exact e
    have := (List.getElem_inj hn).1 h1
    omega

theorem grow_nil (w : World) : grow w #[] = w := by simp [grow]

set_option maxHeartbeats 2000000 in
/-- The iterator over no texts. -/
theorem values_none (n : Nat) (hn : 1 ≤ n) (Bs cap : Nat) (a : Option Addr) (w : World) (hBs : w.cell? ⟨Bs, 0, none⟩ = some (.slice a 0 cap)) (hBl : Bs < w.heap.size) :
    SeqIn n Tryz.prog 128 #[.pointer (some ⟨Bs, 0, none⟩)] (fun xs => xs = []) 0 w := by
  intro l J W hJ hY h0
  have hbw := hJ _ _ h0
  have hBs' := (hbw.cell (p := ⟨Bs, 0, none⟩) hBl).trans hBs
  have hf : Fence.wide.fn 128 := trivial
  refine callsIn_of_wp Tryz.func128 rfl hf ?_ rfl
  simp only [Tryz.ntmps128, List.size_toArray, List.length_cons, List.length_nil, Nat.reduceAdd, Nat.reduceSub, Array.replicate_succ, Array.replicate_zero, List.push_toArray, List.append_toArray, List.nil_append, List.cons_append]
  gi_wp2
  gi_loopw [7] (fun i wr => i = .int .i64 0 ∧ J [] wr) (fun _ _ => 0)
  case atStart => exact ⟨rfl, h0⟩
  case round =>
    obtain ⟨rfl, hJs⟩ := hrel
    gi_wp2
    go_end0
    exact ⟨⟨_, rfl⟩, _, rfl, hJs⟩

set_option maxHeartbeats 2000000 in
theorem values_box (n : Nat) (a : Option Addr) (len cap : Nat) (w : World) :
    CallsIn Fence.wide n Tryz.prog 104 #[.slice a len cap] w fun e w' => e = .returned (.func (.func 128) #[] #[.pointer (some ⟨w.heap.size, 0, none⟩)]) ∧ w' = w.alloc (.cells #[.slice a len cap] 23) := by
  have hf : Fence.wide.fn 104 := trivial
  refine callsIn_of_wp Tryz.func104 rfl hf ?_ rfl
  simp only [Tryz.ntmps104, List.size_toArray, List.length_cons, List.length_nil, Nat.reduceAdd, Nat.reduceSub, Array.replicate_succ, Array.replicate_zero, List.push_toArray, List.append_toArray, List.nil_append, List.cons_append]
  gi_wp2
  go_ret
  exact ⟨rfl, rfl⟩

set_option maxHeartbeats 4000000 in
theorem alone_calls (a : Option Addr) (cap : Nat) (zs : List (List UInt8)) (hz : zs.length ≤ 1000) (w : World)
    (hseq : ∀ n Bs, 1 ≤ n → w.heap.size = Bs → SeqIn n Tryz.prog 128 #[.pointer (some ⟨Bs, 0, none⟩)] (fun xs => xs = zs) zs.length (w.alloc (.cells #[.slice a zs.length cap] 23))) :
    Calls Tryz.prog 72 #[.slice a zs.length cap] w fun e w' => e = .returned (.bool (decide zs.Nodup)) ∧ Below w.heap.size w w' := by
  refine (callsIn_wide (n := 7)).1 ?_
  have hf : Fence.wide.fn 72 := trivial
  have hfv : Fence.wide.fn 104 := trivial
  have hfs : Fence.wide.fn 103 := trivial
  have hfc : Fence.wide.fn 105 := trivial
  have eg := enters_of Tryz.func128 (by kernel_rfl) rfl
  have cV := values_box 6 a zs.length cap w
  have cS := sorted_of 6 (by omega) 128 #[.pointer (some ⟨w.heap.size, 0, none⟩)] eg _ zs.length (by unfold maxLen; omega) (by omega) (w.alloc (.cells #[.slice a zs.length cap] 23)) (hseq _ _ (by omega) rfl) (fun xs e => by subst e; omega)
  refine callsIn_of_wp Tryz.func72 rfl hf ?_ rfl
  simp only [Tryz.ntmps72, List.size_toArray, List.length_cons, List.length_nil, Nat.reduceAdd, Nat.reduceSub, Array.replicate_succ, Array.replicate_zero, List.push_toArray, List.append_toArray, List.nil_append, List.cons_append]
  clear hseq
  gi_wp2_with (first
    | (gi_at_call 104; refine cV.mono ?_; rintro e w' ⟨rfl, rfl⟩)
    | (gi_at_call 103; refine cS.mono ?_; rintro e W ⟨v, ss, rfl, rfl, hrow, hb⟩)
    | fail)
  have hsz : (ss.mergeSort fun x y => decide (x ≤ y)).length = ss.length := by simp
  have hBw : Below w.heap.size w W := ((Below.refl _ w).alloc (Nat.le_refl _) _).trans (hb.mono (by simp))
  rcases hrow.2 with ⟨rfl, h0⟩ | ⟨gb, cap', cur, rfl, hbase, hgb, r1, r2, r3, r4⟩
  · have hss : ss = [] := List.eq_nil_of_length_eq_zero h0
    subst hss
    have cC : CallsIn Fence.wide 6 Tryz.prog 105 #[.slice none 0 0] W fun e w' => e = .returned (.slice none 0 0) ∧ w' = W := callsIn_wide.2 (AnyG.slices_Compact_string_empty compL none 0 W)
    clear cS cV hrow
    gi_wp2_with (gi_at_call 105; refine cC.mono ?_; rintro e w' ⟨rfl, rfl⟩)
    go_ret
    exact ⟨rfl, hBw⟩
  · have hH : Holds encStr W gb 0 (ss.mergeSort fun x y => decide (x ≤ y)).toArray := holds_of_block hgb (by simpa using r4)
    have hgl : gb < W.heap.size := (Array.getElem?_eq_some_iff.1 hgb).1
    have cC : CallsIn Fence.wide 6 Tryz.prog 105 #[.slice (some ⟨gb, 0, none⟩) ss.length cap'] W fun e w' => ∃ m : Nat, e = .returned (.slice (some ⟨gb, 0, none⟩) m cap') ∧ ((m = ss.length) ↔ ss.Nodup) ∧ Below w.heap.size w w' := by
      have := AnyG.slices_Compact_string compL gb 0 cap' (ss.mergeSort fun x y => decide (x ≤ y)) W hH (by rw [hsz]; omega) (by rw [hsz]; omega)
      rw [hsz] at this
      refine callsIn_wide.2 (this.mono ?_)
      rintro e w' ⟨rfl, q, rfl⟩
      refine ⟨_, rfl, sorted_compact ss, ?_⟩
      have hg := grownBy_sorted (w := W) (g := gb) (n := q) (os := #[]) (Lib.compact (ss.mergeSort fun x y => decide (x ≤ y)) ++ List.replicate (ss.length - (Lib.compact (ss.mergeSort fun x y => decide (x ≤ y))).length) []).toArray
      rw [grow_nil] at hg
      exact hBw.grown hg hBw.size (fun j e => by cases e; have h := hbase; rw [World.size_alloc] at h; omega)
    clear cS cV hrow hH
    gi_wp2_with (gi_at_call 105; refine cC.mono ?_; rintro e w' ⟨m, rfl, hm, hb'⟩)
    go_ret
    refine ⟨?_, hb'⟩
    show Ending.returned (.bool ((m : Int) == (ss.length : Int))) = _
    have : ((m : Int) == (ss.length : Int)) = decide ss.Nodup := by
      rw [Bool.eq_iff_iff]
      simp only [beq_iff_eq, decide_eq_true_eq, ← hm]
      omega
    rw [this]

theorem encStr_bytes (s : ByteArray) : encStr s.data.toList = .string s := by
  cases s; simp [encStr]

def names (l : List ByteArray) : List (List UInt8) := l.map fun s => s.data.toList

theorem fro_inv {Z : Nat → Prop} {μ : Mu} {hp : Array Obj} {es : List (List V)} {x : Value} (h : VRel Z μ hp (.fro es) x) :
    (es = [] ∧ ∃ a cap, x = .slice a 0 cap ∧ (a = none → cap = 0)) ∨ (∃ b off esz cap, ∃ c : Nat → Nat → Value, x = .slice (some ⟨b, off, none⟩) es.length cap ∧ Z b ∧ es.length ≤ cap ∧
      (∀ i, i < es.length → (es.getD i []).length = esz) ∧ (∀ i j, i < es.length → j < esz → cellAt hp b (off + i * esz + j) = some (c i j)) ∧
      (∀ i j, i < es.length → j < esz → VRel Z μ hp ((es.getD i []).getD j .any) (c i j))) := by
  cases h with
  | fro0 a cap hz => exact .inl ⟨rfl, a, cap, rfl, hz⟩
  | fro _ b off esz cap c h1 h2 h3 h4 h5 => exact .inr ⟨b, off, esz, cap, c, rfl, h1, h2, h3, h4, h5⟩

theorem pc_alone (l : List ByteArray) (hl : l.length ≤ 1000) : PCall Tryz.prog 72 [encS l] (gb (decide (names l).Nodup)) := by
  intro Z μ w xs hrel hzl
  obtain ⟨hlen, hx⟩ := hrel
  obtain ⟨x, rfl⟩ : ∃ x, xs = [x] := by
    match xs, hlen with
    | [x], _ => exact ⟨x, rfl⟩
  have h0 : VRel Z μ w.heap (encS l) x := hx 0 (by simp)
  have hnl : (names l).length = l.length := by simp [names]
  have fin : ∀ e w', (e = Ending.returned (.bool (decide (names l).Nodup)) ∧ RowKit.Below w.heap.size w w') → ∃ x Z', e = .returned x ∧ (∀ ν, VRel Z' ν w'.heap (gb (decide (names l).Nodup)) x) ∧ Same w w' ∧ (∀ b, Z b → Z' b) ∧ (∀ b, Z' b → Z b ∨ (w.heap.size ≤ b ∧ b < w'.heap.size)) ∧ OldBut w.heap w'.heap (fun _ => False) := by
    rintro e w' ⟨rfl, hb⟩
    exact ⟨_, Z, rfl, fun ν => .val _ rfl, ⟨hb.os, hb.tape, hb.output, hb.size⟩, fun _ h => h, fun _ h => .inl h, fun b hb' _ => hb.block b hb'⟩
  have box : ∀ (v : Value), (w.alloc (.cells #[v] 23)).cell? ⟨w.heap.size, 0, none⟩ = some v := fun v => by
    have := World.alloc_heap_new w (.cells #[v] 23)
    simp only [World.cell?, this]; rfl
  rcases fro_inv h0 with ⟨he, a, cap, rfl, _⟩ | ⟨b, off, esz, cap, c, rfl, hz, hle, hes, hc, hv⟩
  · have hl0 : l = [] := by simpa using he
    subst hl0
    refine (alone_calls a cap (names []) (by simp [names]) w (fun n Bs hn hB => ?_)).mono fin
    subst hB
    exact values_none n hn w.heap.size cap a _ (box _) (by simp)
  · have hel : ∀ i, (hi : i < l.length) → (l.map fun s => [gs s]).getD i [] = [gs l[i]] := fun i hi => by simp [List.getD_eq_getElem?_getD, hi]
    have hcell : ∀ i, (hi : i < l.length) → cellAt w.heap b (off + i) = some (.string l[i]) := fun i hi => by
      have h1 := hes i (by simpa using hi)
      rw [hel i hi] at h1
      simp only [List.length_cons, List.length_nil] at h1
      subst h1
      have h2 := hc i 0 (by simpa using hi) (by omega)
      have h3 := hv i 0 (by simpa using hi) (by omega)
      rw [hel i hi] at h3
      simp only [List.getD_cons_zero] at h3
      generalize c i 0 = y at h2 h3
      cases h3
      simpa using h2
    have hlen2 : (l.map fun s => [gs s]).length = (names l).length := by simp [names]
    rw [hlen2]
    refine (alone_calls (some ⟨b, off, none⟩) cap (names l) (by rw [hnl]; exact hl) w (fun n Bs hn hB => ?_)).mono fin
    subst hB
    have hbl := hzl b hz
    refine values_seq n hn w.heap.size b off cap (names l) (by rw [hnl]; omega) _ (box _) (by simp) (by simp; omega) (fun j hj => ?_)
    have hj' : j < l.length := by omega
    have e1 : (w.alloc (.cells #[.slice (some ⟨b, off, none⟩) (names l).length cap] 23)).cell? ⟨b, off + j, none⟩ = w.cell? ⟨b, off + j, none⟩ := by
      have := Below.heap_alloc w (.cells #[.slice (some ⟨b, off, none⟩) (names l).length cap] 23) b hbl
      simp only [World.cell?, this]
    rw [e1, cell_eq, hcell j hj']
    have e2 : (names l).getD j [] = l[j].data.toList := by simp [names, List.getD_eq_getElem?_getD, hj']
    rw [e2, encStr_bytes]
end Gv

/-
  Lists that a function owns: what appending, writing, reading make of them.
  Conditions: none beyond those that each lemma names.
-/
set_option linter.unusedSimpArgs false
namespace Gv
open Go

/-- The object that a list lies in. -/
def owner : V → Option Nat
  | .sl id _ _ _ => some id
  | _ => none

/-- A list that a function owns, whole. -/
def OwnA (H : View) (u : V) (sz : Nat) (es : List (List V)) : Prop :=
  (es = [] ∧ ∃ k, u = .emp k) ∨ (∃ n, u = .sl n 0 es.length sz ∧ H n = .arr sz es)

theorem OwnA.nil {H : View} {sz k : Nat} : OwnA H (.emp k) sz [] := .inl ⟨rfl, k, rfl⟩
theorem OwnA.len {H : View} {u : V} {sz : Nat} {es : List (List V)} (h : OwnA H u sz es) : lenV u = some es.length := by
  rcases h with ⟨rfl, k, rfl⟩ | ⟨n, rfl, _⟩ <;> rfl
theorem OwnA.live {H : View} {u : V} {sz : Nat} {es : List (List V)} (h : OwnA H u sz es) {id : Nat} (hid : owner u = some id) : H id = .arr sz es ∧ u = .sl id 0 es.length sz := by
  rcases h with ⟨rfl, k, rfl⟩ | ⟨n, rfl, hn⟩
  · simp [owner] at hid
  · simp [owner] at hid; subst hid; exact ⟨hn, rfl⟩
theorem OwnA.keep {H H' : View} {u : V} {sz : Nat} {es : List (List V)} (h : OwnA H u sz es) (hk : ∀ id, owner u = some id → H' id = H id) : OwnA H' u sz es := by
  rcases h with ⟨rfl, k, rfl⟩ | ⟨n, rfl, hn⟩
  · exact .inl ⟨rfl, k, rfl⟩
  · exact .inr ⟨n, rfl, by rw [hk n rfl]; exact hn⟩
theorem OwnA.fresh {H : View} {u : V} {sz m : Nat} {es : List (List V)} {o : AObj} (h : OwnA H u sz es) (hm : H m = .dead) : OwnA (H.set m o) u sz es :=
  h.keep fun id hid => by
    have := (h.live hid).1
    have e : id ≠ m := by rintro rfl; rw [hm] at this; simp at this
    simp [View.set, e]
theorem OwnA.ne {H : View} {u : V} {sz m : Nat} {es : List (List V)} (h : OwnA H u sz es) (hm : H m = .dead) : owner u ≠ some m := fun e => by
  have := (h.live e).1; rw [hm] at this; simp at this
theorem OwnA.other {H : View} {u : V} {sz m : Nat} {es : List (List V)} {o : AObj} (h : OwnA H u sz es) (hm : owner u ≠ some m) : OwnA (H.set m o) u sz es :=
  h.keep fun id hid => by
    have e : id ≠ m := by rintro rfl; exact hm hid
    simp [View.set, e]
theorem OwnA.new {H : View} {n sz : Nat} {es : List (List V)} : OwnA (H.set n (.arr sz es)) (.sl n 0 es.length sz) sz es := .inr ⟨n, rfl, by simp [View.set]⟩

theorem elemsOf_new {H : View} {m z sz : Nat} {e : List V} : elemsOf (View.set H m (.arr z [e])) (.sl m 0 1 sz) = some ([e], [m]) := by
  simp [elemsOf, View.set]

/-- What a step leaves of the objects but for one list's. -/
def Left (H H' : View) (u u' : V) : Prop := ∀ id, H id ≠ .dead → owner u ≠ some id → H' id = H id ∧ owner u' ≠ some id

theorem goApp_own {sz bytes : Nat} {u : V} {es xs : List (List V)} {H : View} {K : V → View → Prop} {w : Veil (H, K)} (ho : OwnA H u sz es) (hx : xs ≠ []) (hok : (xs.all fun e => e.length == sz && e.all cellOk) = true)
    (hl : (es.length + xs.length) * bytes < limit) (hl2 : es.length + xs.length < limit) (hk : ∀ u' H', OwnA H' u' sz (es ++ xs) → Left H H' u u' → K u' H') : GoApp sz bytes u xs H K w := by
  have he : xs.isEmpty = false := by cases xs with | nil => exact absurd rfl hx | cons => rfl
  rcases ho with ⟨rfl, k, rfl⟩ | ⟨n, rfl, hn⟩
  · rw [goApp_emp _ _ _ _ _ _ _ he]
    refine ⟨hok, ⟨by simpa using hl, by simpa using hl2⟩, fun m hm => hk _ _ ?_ ?_⟩
    · exact .inr ⟨m, rfl, by simp [View.set]⟩
    · intro id hid _
      have e : id ≠ m := by rintro rfl; exact hid hm
      exact ⟨by simp [View.set, e], by simp [owner, Ne.symm e]⟩
  · rw [goApp_sl _ _ _ _ _ _ _ _ _ _ he, hn]
    refine ⟨hok, ⟨by simp, rfl, hl, hl2⟩, fun m hm => hk _ _ ?_ ?_⟩
    · refine .inr ⟨m, by simp, by simp [View.set]⟩
    · intro id hid ho
      have e : id ≠ m := by rintro rfl; exact hid hm
      have e2 : id ≠ n := by rintro rfl; exact ho rfl
      exact ⟨by simp [View.set, e, e2], by simp [owner, Ne.symm e]⟩

theorem Left.refl {H : View} {u : V} : Left H H u u := fun _ _ h => ⟨rfl, h⟩
/-- The same, nothing may be appended too. -/
theorem goApp_all {sz bytes : Nat} {u : V} {es xs : List (List V)} {H : View} {K : V → View → Prop} {w : Veil (H, K)} (ho : OwnA H u sz es) (hok : (xs.all fun e => e.length == sz && e.all cellOk) = true)
    (hl : (es.length + xs.length) * bytes < limit) (hl2 : es.length + xs.length < limit) (hk : ∀ u' H', OwnA H' u' sz (es ++ xs) → Left H H' u u' → K u' H') : GoApp sz bytes u xs H K w := by
  cases xs with
  | nil =>
    have := hk u H (by simpa using ho) .refl
    rcases ho with ⟨rfl, k, rfl⟩ | ⟨n, rfl, hn⟩
    · exact this
    · exact this
  | cons x xs => exact goApp_own ho (by simp) hok hl hl2 hk

theorem Lent.own {H : View} {u : V} {sz : Nat} {es : List (List V)} (h : OwnA H u sz es) (ht : ∀ e ∈ es, ∀ v ∈ e, Tree v) : Lent H u (.fro es) := by
  rcases h with ⟨rfl, k, rfl⟩ | ⟨n, rfl, hn⟩
  · exact fun h _ => .emp k
  · have := Lent.sl (off := 0) (len := es.length) (esz := sz) hn (by simp) ht
    rwa [List.drop_zero, List.take_of_length_le (by simp)] at this

theorem FrN.own {h : Heap} {u : V} {sz : Nat} {es : List (List V)} {es' : List (List V)} (ho : OwnA h.view u sz es) (hl : es'.length = es.length) (hi : ∀ i, i < es.length → (es'.getD i []).length = (es.getD i []).length)
    (hv : ∀ i j, i < es.length → j < (es'.getD i []).length → FrN h ((es.getD i []).getD j .any) ((es'.getD i []).getD j .any)) : FrN h u (.fro es') := by
  rcases ho with ⟨rfl, k, rfl⟩ | ⟨n, rfl, hn⟩
  · have : es' = [] := List.length_eq_zero_iff.1 (by simpa using hl)
    subst this
    exact .emp k
  · exact .sl n 0 es.length sz sz es es' hn (by simp) hl (fun i h => by rw [Nat.zero_add]; exact hi i h) (fun i j h1 h2 => by rw [Nat.zero_add]; exact hv i j h1 h2)

/-- Plain values, new. -/
theorem FrN.vals {h : Heap} {α : Type} {u : V} {sz : Nat} {l : List α} {f : α → Value} (ho : OwnA h.view u sz (l.map fun x => [V.val (f x)])) : FrN h u (.fro (l.map fun x => [V.val (f x)])) := by
  refine FrN.own ho rfl (fun i _ => rfl) (fun i j hi hj => ?_)
  simp only [List.length_map] at hi
  have e : (l.map fun x => [V.val (f x)]).getD i [] = [V.val (f l[i])] := by simp [List.getD_eq_getElem?_getD, hi]
  rw [e] at hj ⊢
  have : j = 0 := by simp at hj; omega
  subst this
  exact .val _

/-- What was there is as it was; what came is new. -/
def Fresh (H H' : View) (r : V) : Prop := ∀ id, H id ≠ .dead → H' id = H id ∧ owner r ≠ some id
theorem Fresh.emp {H : View} {k : Nat} : Fresh H H (.emp k) := fun _ _ => ⟨rfl, by simp [owner]⟩
theorem Fresh.new {H : View} {n a b c : Nat} {o : AObj} (hn : H n = .dead) : Fresh H (H.set n o) (.sl n a b c) := fun id hid => by
  have e : id ≠ n := by rintro rfl; exact hid hn
  exact ⟨by simp [View.set, e], by simp [owner, Ne.symm e]⟩
theorem OwnA.left {H H' : View} {u u' x : V} {sz : Nat} {es : List (List V)} (h : OwnA H x sz es) (hl : Left H H' u u') (hd : ∀ id, owner x = some id → owner u ≠ some id) : OwnA H' x sz es :=
  h.keep fun id hid => (hl id (by rw [(h.live hid).1]; simp) (hd id hid)).1
theorem OwnA.fresh' {H H' : View} {x r : V} {sz : Nat} {es : List (List V)} (h : OwnA H x sz es) (hl : Fresh H H' r) : OwnA H' x sz es :=
  h.keep fun id hid => (hl id (by rw [(h.live hid).1]; simp)).1

theorem set_set {H : View} {n : Nat} {a b : AObj} : View.set (View.set H n a) n b = View.set H n b := by
  funext id; simp only [View.set]; split <;> rfl
theorem dead_if {m b : Nat} {o x : AObj} (h : (if m = b then o else x) = .dead) (ho : o ≠ .dead) : m ≠ b ∧ x = .dead := by
  split at h
  · exact absurd h ho
  · rename_i e; exact ⟨e, h⟩
theorem arr_live {z : Nat} {es : List (List V)} : AObj.arr z es ≠ .dead := by simp

/-! what is lent, one by one -/
def Lents (H : View) : List V → List V → Prop
  | [], [] => True
  | v :: vs, t :: ts => Lent H v t ∧ Lents H vs ts
  | _, _ => False
theorem Lents.len {H : View} : ∀ {vs ts : List V}, Lents H vs ts → ts.length = vs.length
  | [], [], _ => rfl
  | _ :: _, _ :: _, h => by simp [Lents.len h.2]
theorem Lents.get {H : View} : ∀ {vs ts : List V}, Lents H vs ts → ∀ i, i < vs.length → Lent H (vs.getD i .any) (ts.getD i .any)
  | [], [], _, i, hi => by simp at hi
  | _ :: _, _ :: _, h, 0, _ => h.1
  | _ :: _, _ :: _, h, i + 1, hi => Lents.get h.2 i (by simpa using hi)
theorem CallG.lend {P : Program} {q : Bool} {f : FuncId} {H : View} {vs ts : List V} {K : V → View → Prop} {v : Veil (H, K)} {t : V} (hc : PCall P f ts t) (hok : calleeOk P f = true) (hf : Bare t) (hl : Lents H vs ts) (hk : K t H) : CallG P q f vs H K v :=
  CallG.borrow hc hok hf hl.len hl.get hk
theorem CallG.lendN {P : Program} {q : Bool} {f : FuncId} {H : View} {vs ts : List V} {K : V → View → Prop} {v : Veil (H, K)} {t : V} (hc : PNew P f ts t) (hok : calleeOk P f = true) (hl : Lents H vs ts) (hk : K t H) : CallG P q f vs H K v :=
  CallG.borrowN hc hok hl.len hl.get hk

/-- A variable's box is lent. -/
theorem Lent.box {H : View} {q z : Nat} {e : List V} (hq : H q = .arr z [e]) (ht : ∀ v ∈ e, Tree v) : Lent H (.ptr q 0 0) (.fptr e 0) := by
  rintro h rfl
  refine .ptr q 0 0 z [e] e hq (by simp) (by simp) (fun k hk => ?_)
  simp only [List.getD_cons_zero]
  have e2 : e.getD k .any = e[k] := by simp [List.getD_eq_getElem?_getD, hk]
  rw [e2]
  exact .tree _ (ht _ (List.getElem_mem _))

theorem OwnA.sl {H : View} {u : V} {sz : Nat} {es : List (List V)} (h : OwnA H u sz es) (hne : 0 < es.length) : ∃ n, u = .sl n 0 es.length sz ∧ H n = .arr sz es := by
  rcases h with ⟨rfl, _⟩ | h
  · simp at hne
  · exact h

end Gv

/-
  A copy of a list; may a grammar be: what the program's own function answers.
  Conditions: lists that are no longer than an int says, numbers that are ints, no more than a thousand names.
-/
set_option linter.unusedSimpArgs false
set_option maxRecDepth 100000
namespace Gv
open Go Go.Proofs

/-- A call that is handed an empty list of which nobody knows whether it is nil. -/
theorem ACall.fro0 {P : Program} {f : FuncId} {h : Heap} (h1 : ACall P f [.emp 1] h (.emp 1) h) (h2 : ACall P f [.emp 2] h (.emp 2) h) (h3 : ACall P f [.nem] h (.emp 2) h) : ACall P f [.fro []] h (.emp 0) h := by
  refine ⟨Nat.le_refl _, fun Z μ F w xs hrel hr hfree => ?_⟩
  obtain ⟨hl, hv⟩ := hrel
  obtain ⟨x, rfl⟩ : ∃ x, xs = [x] := by
    match xs, hl with
    | [x], _ => exact ⟨x, rfl⟩
  have h0 : VRel Z μ w.heap (.fro []) x := hv 0 (by simp)
  have one : ∀ v, VRel Z μ w.heap v x → VRels Z μ w.heap [v] [x] := fun v h => ⟨rfl, fun i hi => by
    simp at hi; subst hi; exact h⟩
  have weak : ∀ k, ACall P f [if k = 3 then .nem else .emp k] h (if k = 3 then .emp 2 else .emp k) h → VRel Z μ w.heap (if k = 3 then .nem else .emp k) x → Calls P f [x].toArray w fun e w' => ∃ x Z' μ', e = .returned x ∧ VRel Z' μ' w'.heap (.emp 0) x ∧ HRel Z' μ' w'.heap (cat h F) ∧ Ext Z μ w h.length Z' μ' w' ∧ (∀ id, id < h.length ∨ h.length ≤ id → μ' id = μ id) := by
    intro k hk hx
    refine (hk.2 Z μ F w [x] (one _ hx) hr hfree).mono ?_
    rintro e w' ⟨y, Z', μ', rfl, hy, rest⟩
    refine ⟨y, Z', μ', rfl, ?_, rest⟩
    have : ∀ k', VRel Z' μ' w'.heap (.emp k') y → VRel Z' μ' w'.heap (.emp 0) y := fun k' h => by
      cases h with | emp _ a _ _ => exact .emp 0 a (by simp) (by simp)
    split at hy <;> exact this _ hy
  rcases fro_inv h0 with ⟨_, a, cap, rfl, hz⟩ | ⟨b, off, esz, cap, c, rfl, _, _, _⟩
  · cases a with
    | none =>
      have := hz rfl
      subst this
      exact weak 1 (by simpa using h1) (.emp 1 none (by simp) (by simp))
    | some a =>
      cases cap with
      | zero => exact weak 2 (by simpa using h2) (.emp 2 (some a) (by simp) (by simp))
      | succ c => exact weak 3 (by simpa using h3) (.nem a (c + 1))
  · cases cap with
    | zero => exact weak 2 (by simpa using h2) (.emp 2 (some ⟨b, off, none⟩) (by simp) (by simp))
    | succ c => exact weak 3 (by simpa using h3) (.nem ⟨b, off, none⟩ (c + 1))

/-- What a copy of a list is: nothing, or a new object. -/
def CopyOf (sz : Nat) (es : List (List V)) (H : View) (K : V → View → Prop) : Prop :=
  (es = [] → ∀ k, K (.emp k) H) ∧ (es ≠ [] → ∀ n, H n = .dead → K (.sl n 0 es.length sz) (H.set n (.arr sz es)))

def S_slices_Clone___string_string_ : SF := ⟨.seq (.region false [⟨none, [((some 2), .op (.mov (.val (.emp 1))))]⟩]) <|
  .seq (.seq (.region false [⟨none, [((some 3), .op (.mov (.tmp 0))), ((some 4), .op (.nil true 0 (.tmp 3) (.val (.emp 1))))]⟩]) <|
  .cond (.tmp 4) (.seq (.region false [⟨none, [((some 2), .op (.mov (.val (.emp 1))))]⟩]) <|
  .ret) (.skip)) <|
  .seq (.region false [⟨none, [((some 5), .op (.mov (.val (.emp 2)))), ((some 6), .op (.mov (.tmp 0))), ((some 7), .op (.app 1 16 (.tmp 5) (.tmp 6))), ((some 2), .op (.mov (.tmp 7)))]⟩]) <|
  .ret,
  [.tmp 2], 8⟩
theorem S_slices_Clone___string_string__ok : compF Tryz.prog 69 [] = some S_slices_Clone___string_string_ := by kernel_rfl

def S_slices_Clone___int_int_ : SF := ⟨.seq (.region false [⟨none, [((some 2), .op (.mov (.val (.emp 1))))]⟩]) <|
  .seq (.seq (.region false [⟨none, [((some 3), .op (.mov (.tmp 0))), ((some 4), .op (.nil true 0 (.tmp 3) (.val (.emp 1))))]⟩]) <|
  .cond (.tmp 4) (.seq (.region false [⟨none, [((some 2), .op (.mov (.val (.emp 1))))]⟩]) <|
  .ret) (.skip)) <|
  .seq (.region false [⟨none, [((some 5), .op (.mov (.val (.emp 2)))), ((some 6), .op (.mov (.tmp 0))), ((some 7), .op (.app 1 8 (.tmp 5) (.tmp 6))), ((some 2), .op (.mov (.tmp 7)))]⟩]) <|
  .ret,
  [.tmp 2], 8⟩
theorem S_slices_Clone___int_int__ok : compF Tryz.prog 53 [] = some S_slices_Clone___int_int_ := by kernel_rfl

def S_slices_Clone___api_Term_api_Term_ : SF := ⟨.seq (.region false [⟨none, [((some 2), .op (.mov (.val (.emp 1))))]⟩]) <|
  .seq (.seq (.region false [⟨none, [((some 3), .op (.mov (.tmp 0))), ((some 4), .op (.nil true 0 (.tmp 3) (.val (.emp 1))))]⟩]) <|
  .cond (.tmp 4) (.seq (.region false [⟨none, [((some 2), .op (.mov (.val (.emp 1))))]⟩]) <|
  .ret) (.skip)) <|
  .seq (.region false [⟨none, [((some 5), .op (.mov (.val (.emp 2)))), ((some 6), .op (.mov (.tmp 0))), ((some 7), .op (.app 3 32 (.tmp 5) (.tmp 6))), ((some 2), .op (.mov (.tmp 7)))]⟩]) <|
  .ret,
  [.tmp 2], 8⟩
theorem S_slices_Clone___api_Term_api_Term__ok : compF Tryz.prog 52 [] = some S_slices_Clone___api_Term_api_Term_ := by kernel_rfl


theorem PCall.tree {P : Program} {f : FuncId} {vs : List V} {t : V} (hv : ∀ v ∈ vs, Tree v) (ht : Tree t) (h : ∀ H, MCall P f vs H fun r _ => r = t) : PCall P f vs t :=
  PCall.of hv ((h _).mono fun r H' e h' _ => by rw [e]; exact .tree _ ht)

theorem elemsOf_nem {H : View} : elemsOf H .nem = some ([], []) := id rfl
theorem goApp_none {H : View} (sz bytes k : Nat) (K : V → View → Prop) (w : Veil (H, K)) : GoApp sz bytes (.emp k) [] H K w = K (.emp k) H := propext Iff.rfl

theorem mc_CloneS (l : List ByteArray) (hl : l.length ≤ 100000) (H : View) (K : V → View → Prop) (hk : CopyOf 1 (l.map fun s => [gs s]) H K) : MCall Tryz.prog 69 [encS l] H K := by
  cases l with
  | nil =>
    have hp : ∀ v t, Tree v → Tree t → (∀ H, MCall Tryz.prog 69 [v] H fun r _ => r = t) → PCall Tryz.prog 69 [v] t := fun v t hv ht h => PCall.tree (by intro x hx; simp at hx; subst hx; exact hv) ht h
    have h1 := hp (.emp 1) (.emp 1) (.emp 1) (.emp 1) (fun H => by
      refine MCall.of mixed S_slices_Clone___string_string__ok ?_
      simp (disch := omega) only [↓wr, ↓reduceIte, wq, eq_self, ne_eq, implies_true, oneV, intOp, goI, splice, sBuild, fillE, nilB, isNil, Nat.reduceEqDiff, Nat.reduceAdd, Nat.reduceLT, Nat.reduceLeDiff, Int.reduceNeg, Int.reduceToNat, reduceCtorEq, decide_true, decide_false, S_slices_Clone___string_string_])
    have h2 := hp (.emp 2) (.emp 2) (.emp 2) (.emp 2) (fun H => by
      refine MCall.of mixed S_slices_Clone___string_string__ok ?_
      simp (disch := omega) only [↓wr, ↓reduceIte, wq, eq_self, ne_eq, implies_true, oneV, intOp, goI, splice, sBuild, fillE, nilB, isNil, Nat.reduceEqDiff, Nat.reduceAdd, Nat.reduceLT, Nat.reduceLeDiff, Int.reduceNeg, Int.reduceToNat, reduceCtorEq, decide_true, decide_false, S_slices_Clone___string_string_, goApp_none, List.isEmpty_nil])
    have h3 := hp .nem (.emp 2) .nem (.emp 2) (fun H => by
      refine MCall.of mixed S_slices_Clone___string_string__ok ?_
      simp (disch := omega) only [↓wr, ↓reduceIte, wq, eq_self, ne_eq, implies_true, oneV, intOp, goI, splice, sBuild, fillE, nilB, isNil, Nat.reduceEqDiff, Nat.reduceAdd, Nat.reduceLT, Nat.reduceLeDiff, Int.reduceNeg, Int.reduceToNat, reduceCtorEq, decide_true, decide_false, S_slices_Clone___string_string_, elemsOf_nem, goApp_none, List.isEmpty_nil])
    refine ⟨by kernel_rfl, ?_⟩
    rintro h rfl
    exact ⟨.emp 0, h, ACall.fro0 (ACall.of_pure h1 h) (ACall.of_pure h2 h) (ACall.of_pure h3 h), .refl _, hk.1 rfl 0⟩
  | cons x r =>
    refine MCall.of mixed S_slices_Clone___string_string__ok ?_
    simp only [List.length_cons] at hl
    simp (disch := omega) only [↓wr, ↓reduceIte, wq, eq_self, ne_eq, implies_true, oneV, intOp, goI, splice, sBuild, fillE, nilB, isNil, Nat.reduceEqDiff, Nat.reduceAdd, Nat.reduceLT, Nat.reduceLeDiff, Int.reduceNeg, Int.reduceToNat, reduceCtorEq, decide_true, decide_false, S_slices_Clone___string_string_, encS]
    refine ⟨?_, ?_, ?_⟩
    · simp [List.all_map, encS, cellOk]
    · unfold limit; simp; omega
    · intro n hn
      have := hk.2 (by simp) n hn
      simp (disch := omega) only [↓wr, ↓reduceIte, wq, eq_self, ne_eq, implies_true, oneV, intOp, goI, splice, sBuild, fillE, nilB, isNil, Nat.reduceEqDiff, Nat.reduceAdd, Nat.reduceLT, Nat.reduceLeDiff, Int.reduceNeg, Int.reduceToNat, reduceCtorEq, decide_true, decide_false]
      simpa [encT] using this

theorem mc_CloneI (l : List Int) (hl : l.length ≤ 100000) (H : View) (K : V → View → Prop) (hk : CopyOf 1 (l.map fun s => [gi s]) H K) : MCall Tryz.prog 53 [encI l] H K := by
  cases l with
  | nil =>
    have hp : ∀ v t, Tree v → Tree t → (∀ H, MCall Tryz.prog 53 [v] H fun r _ => r = t) → PCall Tryz.prog 53 [v] t := fun v t hv ht h => PCall.tree (by intro x hx; simp at hx; subst hx; exact hv) ht h
    have h1 := hp (.emp 1) (.emp 1) (.emp 1) (.emp 1) (fun H => by
      refine MCall.of mixed S_slices_Clone___int_int__ok ?_
      simp (disch := omega) only [↓wr, ↓reduceIte, wq, eq_self, ne_eq, implies_true, oneV, intOp, goI, splice, sBuild, fillE, nilB, isNil, Nat.reduceEqDiff, Nat.reduceAdd, Nat.reduceLT, Nat.reduceLeDiff, Int.reduceNeg, Int.reduceToNat, reduceCtorEq, decide_true, decide_false, S_slices_Clone___int_int_])
    have h2 := hp (.emp 2) (.emp 2) (.emp 2) (.emp 2) (fun H => by
      refine MCall.of mixed S_slices_Clone___int_int__ok ?_
      simp (disch := omega) only [↓wr, ↓reduceIte, wq, eq_self, ne_eq, implies_true, oneV, intOp, goI, splice, sBuild, fillE, nilB, isNil, Nat.reduceEqDiff, Nat.reduceAdd, Nat.reduceLT, Nat.reduceLeDiff, Int.reduceNeg, Int.reduceToNat, reduceCtorEq, decide_true, decide_false, S_slices_Clone___int_int_, goApp_none, List.isEmpty_nil])
    have h3 := hp .nem (.emp 2) .nem (.emp 2) (fun H => by
      refine MCall.of mixed S_slices_Clone___int_int__ok ?_
      simp (disch := omega) only [↓wr, ↓reduceIte, wq, eq_self, ne_eq, implies_true, oneV, intOp, goI, splice, sBuild, fillE, nilB, isNil, Nat.reduceEqDiff, Nat.reduceAdd, Nat.reduceLT, Nat.reduceLeDiff, Int.reduceNeg, Int.reduceToNat, reduceCtorEq, decide_true, decide_false, S_slices_Clone___int_int_, elemsOf_nem, goApp_none, List.isEmpty_nil])
    refine ⟨by kernel_rfl, ?_⟩
    rintro h rfl
    exact ⟨.emp 0, h, ACall.fro0 (ACall.of_pure h1 h) (ACall.of_pure h2 h) (ACall.of_pure h3 h), .refl _, hk.1 rfl 0⟩
  | cons x r =>
    refine MCall.of mixed S_slices_Clone___int_int__ok ?_
    simp only [List.length_cons] at hl
    simp (disch := omega) only [↓wr, ↓reduceIte, wq, eq_self, ne_eq, implies_true, oneV, intOp, goI, splice, sBuild, fillE, nilB, isNil, Nat.reduceEqDiff, Nat.reduceAdd, Nat.reduceLT, Nat.reduceLeDiff, Int.reduceNeg, Int.reduceToNat, reduceCtorEq, decide_true, decide_false, S_slices_Clone___int_int_, encI]
    refine ⟨?_, ?_, ?_⟩
    · simp [List.all_map, encI, cellOk]
    · unfold limit; simp; omega
    · intro n hn
      have := hk.2 (by simp) n hn
      simp (disch := omega) only [↓wr, ↓reduceIte, wq, eq_self, ne_eq, implies_true, oneV, intOp, goI, splice, sBuild, fillE, nilB, isNil, Nat.reduceEqDiff, Nat.reduceAdd, Nat.reduceLT, Nat.reduceLeDiff, Int.reduceNeg, Int.reduceToNat, reduceCtorEq, decide_true, decide_false]
      simpa [encT] using this

theorem mc_CloneT (l : List Term) (hl : l.length ≤ 100000) (H : View) (K : V → View → Prop) (hk : CopyOf 3 (l.map encT) H K) : MCall Tryz.prog 52 [encTs l] H K := by
  cases l with
  | nil =>
    have hp : ∀ v t, Tree v → Tree t → (∀ H, MCall Tryz.prog 52 [v] H fun r _ => r = t) → PCall Tryz.prog 52 [v] t := fun v t hv ht h => PCall.tree (by intro x hx; simp at hx; subst hx; exact hv) ht h
    have h1 := hp (.emp 1) (.emp 1) (.emp 1) (.emp 1) (fun H => by
      refine MCall.of mixed S_slices_Clone___api_Term_api_Term__ok ?_
      simp (disch := omega) only [↓wr, ↓reduceIte, wq, eq_self, ne_eq, implies_true, oneV, intOp, goI, splice, sBuild, fillE, nilB, isNil, Nat.reduceEqDiff, Nat.reduceAdd, Nat.reduceLT, Nat.reduceLeDiff, Int.reduceNeg, Int.reduceToNat, reduceCtorEq, decide_true, decide_false, S_slices_Clone___api_Term_api_Term_])
    have h2 := hp (.emp 2) (.emp 2) (.emp 2) (.emp 2) (fun H => by
      refine MCall.of mixed S_slices_Clone___api_Term_api_Term__ok ?_
      simp (disch := omega) only [↓wr, ↓reduceIte, wq, eq_self, ne_eq, implies_true, oneV, intOp, goI, splice, sBuild, fillE, nilB, isNil, Nat.reduceEqDiff, Nat.reduceAdd, Nat.reduceLT, Nat.reduceLeDiff, Int.reduceNeg, Int.reduceToNat, reduceCtorEq, decide_true, decide_false, S_slices_Clone___api_Term_api_Term_, goApp_none, List.isEmpty_nil])
    have h3 := hp .nem (.emp 2) .nem (.emp 2) (fun H => by
      refine MCall.of mixed S_slices_Clone___api_Term_api_Term__ok ?_
      simp (disch := omega) only [↓wr, ↓reduceIte, wq, eq_self, ne_eq, implies_true, oneV, intOp, goI, splice, sBuild, fillE, nilB, isNil, Nat.reduceEqDiff, Nat.reduceAdd, Nat.reduceLT, Nat.reduceLeDiff, Int.reduceNeg, Int.reduceToNat, reduceCtorEq, decide_true, decide_false, S_slices_Clone___api_Term_api_Term_, elemsOf_nem, goApp_none, List.isEmpty_nil])
    refine ⟨by kernel_rfl, ?_⟩
    rintro h rfl
    exact ⟨.emp 0, h, ACall.fro0 (ACall.of_pure h1 h) (ACall.of_pure h2 h) (ACall.of_pure h3 h), .refl _, hk.1 rfl 0⟩
  | cons x r =>
    refine MCall.of mixed S_slices_Clone___api_Term_api_Term__ok ?_
    simp only [List.length_cons] at hl
    simp (disch := omega) only [↓wr, ↓reduceIte, wq, eq_self, ne_eq, implies_true, oneV, intOp, goI, splice, sBuild, fillE, nilB, isNil, Nat.reduceEqDiff, Nat.reduceAdd, Nat.reduceLT, Nat.reduceLeDiff, Int.reduceNeg, Int.reduceToNat, reduceCtorEq, decide_true, decide_false, S_slices_Clone___api_Term_api_Term_, encTs, encT]
    refine ⟨?_, ?_, ?_⟩
    · simp [List.all_map, encTs, encT, cellOk]
    · unfold limit; simp; omega
    · intro n hn
      have := hk.2 (by simp) n hn
      simp (disch := omega) only [↓wr, ↓reduceIte, wq, eq_self, ne_eq, implies_true, oneV, intOp, goI, splice, sBuild, fillE, nilB, isNil, Nat.reduceEqDiff, Nat.reduceAdd, Nat.reduceLT, Nat.reduceLeDiff, Int.reduceNeg, Int.reduceToNat, reduceCtorEq, decide_true, decide_false]
      simpa [encT] using this

theorem CopyOf.own {sz : Nat} {es : List (List V)} {H : View} : CopyOf sz es H fun r H' => OwnA H' r sz es ∧ Fresh H H' r :=
  ⟨fun he k => ⟨by rw [he]; exact .nil, .emp⟩, fun _ n hn => ⟨.new, .new hn⟩⟩
theorem mo_CloneS (l : List ByteArray) (hl : l.length ≤ 100000) (H : View) : MCall Tryz.prog 69 [encS l] H fun r H' => OwnA H' r 1 (l.map fun s => [gs s]) ∧ Fresh H H' r := mc_CloneS l hl H _ .own
theorem mo_CloneI (l : List Int) (hl : l.length ≤ 100000) (H : View) : MCall Tryz.prog 53 [encI l] H fun r H' => OwnA H' r 1 (l.map fun s => [gi s]) ∧ Fresh H H' r := mc_CloneI l hl H _ .own
theorem mo_CloneT (l : List Term) (hl : l.length ≤ 100000) (H : View) : MCall Tryz.prog 52 [encTs l] H fun r H' => OwnA H' r 3 (l.map encT) ∧ Fresh H H' r := mc_CloneT l hl H _ .own

end Gv
