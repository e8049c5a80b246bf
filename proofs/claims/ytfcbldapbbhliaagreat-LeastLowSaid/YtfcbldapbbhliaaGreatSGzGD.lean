/-
  Part 4 of the proof: what the machine does and what the functions answer.
  Conditions: those that each lemma names.
-/
import Derived.Test.YtfcbldapbbhliaaGreatProg
import Derived.KernelRfl
import Derived.Test.YtfcbldapbbhliaaGreatSGzGC
set_option linter.unusedSimpArgs false
set_option linter.unusedVariables false

/-
  Code with its types looked up, and what is to be shown that it runs to what is wanted of it.
  Conditions: none beyond those that each lemma names.
-/
namespace Gv
open Go

inductive SB where
  | op (s : SI)
  | call (f : SX) (args : List SX)
  deriving Inhabited

/-- An operation of a region: where it goes, by what it is guarded (a slot, what it must hold), what it is. -/
structure SO where
  dst : Option Nat
  guard : Option (Nat × Bool)
  b : SB
  deriving Inhabited

/-- Operations under one guard. -/
structure SG where
  guard : Option (Nat × Bool)
  ops : List (Option Nat × SB)
  deriving Inhabited

inductive SC where
  | skip
  | region (quiet : Bool) (gs : List SG)
  | regionA (aps : List (Nat × Nat)) (gs : List SG)
  | seq (x y : SC)
  | cond (c : SX) (x y : SC)
  | block (id : Nat) (c : SC)
  | loop (c : SC)
  | exit (id : Nat)
  | ret
  deriving Inhabited

inductive SR where
  | tmp (t : Nat)
  | cell (t : Nat) (sz : Option Nat)
  deriving Inhabited

/-! how loud an operation is: 0: it touches nothing; 1: it reads, or makes something new; 2: it may write -/
def loudOld (P : Program) (op : Op) : Nat := match op with
  | .convert s d _ => if bytesConv P s d = true then 2 else 0
  | .call { callee := .builtin b, .. } => match b with
    | .min | .max | .complex | .real | .imag => 0
    | .len => 1
    | _ => 2
  | .lookup .. => 1
  | .binOp .. | .unOp .. | .index .. => 0
  | _ => 2

def loudI (P : Program) : SI → Nat
  | .mov _ | .pick .. | .frz _ | .nilc _ | .addr .. | .field .. | .idx .. | .slice .. | .mkfn .. | .ext .. | .len _ | .lenS _ | .arith .. | .sh .. | .sop .. | .sidx .. | .not _ | .nil .. | .build .. | .loadF .. | .beq .. | .mm .. | .conv .. | .strF _ | .frzB _ => 0
  | .load .. | .box _ | .alloc _ | .bslice .. | .make .. | .mkmap => 1
  | .store .. | .app .. => 2
  | .old op _ => loudOld P op

def loudB (P : Program) (quiet : Bool) : SB → Nat
  | .op s => loudI P s
  | .call .. => if quiet then 1 else 2

/-- Which boxes are frozen; whether all loads are from what is frozen. -/
structure Fz where
  l : List Nat
  fr : Bool

def froz (P : Program) (fr : Bool) : SI → SI
  | .load k a => if fr then .loadF k a else .load k a
  | .old (.convert s d x) ty => if fr && toStr P s d then .strF (SX.of x) else .old (.convert s d x) ty
  | s => s

/-! looking the types up -/
def compB (P : Program) (fz : Fz) (o : Oper) : SB := match o.op with
  | .call { callee := .value f, args, .. } => .call (SX.of f) (args.toList.map SX.of)
  | .box _ x => if (match o.dst with | some d => fz.l.contains d | none => false) then .op (.frz (SX.of x)) else .op (.box (SX.of x))
  | .convert s d x => if (match o.dst with | some t => fz.l.contains t | none => false) && toBytes P s d then .op (.frzB (SX.of x)) else .op (froz P fz.fr (comp P o))
  | _ => .op (froz P fz.fr (comp P o))

def guardS (n : Nat) (all : List Oper) (o : Oper) : Option (Option (Nat × Bool)) := match o.guard with
  | none => some none
  | some (j, want) => match (all[j]?).bind (·.dst) with
    | some d => if d < n then some (some (d, want)) else none
    | none => none

def compO (P : Program) (n : Nat) (all : List Oper) (fz : Fz) (o : Oper) : Option SO :=
  if dstOk n o then (guardS n all o).map fun g => ⟨o.dst, g, compB P fz o⟩ else none

def compOs (P : Program) (n : Nat) (all : List Oper) (fz : Fz) : List Oper → Option (List SO)
  | [] => some []
  | o :: r => match compO P n all fz o, compOs P n all fz r with
    | some s, some l => some (s :: l)
    | _, _ => none

def SG.flat (g : SG) : List SO := g.ops.map fun (d, b) => ⟨d, g.guard, b⟩
def flatG (gs : List SG) : List SO := (gs.map SG.flat).flatten

/-- May an operation stand with others under a guard? -/
def joins (g : Option (Nat × Bool)) (s : SO) : Bool := match g, s.guard with
  | none, none => true
  | some (d, w), some (d', w') => d == d' && w == w' && s.dst != some d
  | _, _ => false

def group : List SO → List SG
  | [] => []
  | s :: r => match group r with
    | g :: gs => if joins g.guard s then ⟨g.guard, (s.dst, s.b) :: g.ops⟩ :: gs else ⟨s.guard, [(s.dst, s.b)]⟩ :: g :: gs
    | [] => [⟨s.guard, [(s.dst, s.b)]⟩]

theorem joins_ok {g : Option (Nat × Bool)} {s : SO} (h : joins g s = true) : s.guard = g := by
  unfold joins at h
  split at h
  · rename_i h1; exact h1
  · rename_i d w d' w' h1
    simp at h; rw [h1, h.1.1, h.1.2]
  · simp at h

theorem group_flat : ∀ l : List SO, flatG (group l) = l
  | [] => rfl
  | s :: r => by
    have ih := group_flat r
    simp only [group]
    split
    · rename_i g gs hg
      rw [hg] at ih
      split
      · rename_i hj
        have := joins_ok hj
        rw [← ih]
        cases s with
        | mk d gd b => simp only at this; subst this; simp [flatG, SG.flat]
      · rw [← ih]; simp [flatG, SG.flat]
    · rename_i hg
      rw [hg] at ih
      rw [← ih]; simp [flatG, SG.flat]

def isLoadO (o : Oper) : Bool := match o.op with
  | .load .. => true
  | _ => false
def isAllocO (o : Oper) : Bool := match o.op with
  | .alloc _ => true
  | _ => false
/-- The temp by which an operation stores, if it is never passed over. -/
def storeTmp (o : Oper) : Option Nat := match o.op, o.guard with
  | .store _ (.tmp t) _, none => some t
  | _, _ => none
/-- Operation j makes what operation k stores into by this temp. -/
def ownB (all : List Oper) (j k t : Nat) : Bool := match all[j]? with
  | some o => o.dst == some t && o.guard.isNone && isAllocO o && ((all.drop (j + 1)).take (k - (j + 1))).all fun o' => o'.dst != some t
  | none => false
/-- A load, and a store into what is made behind that load. -/
def newPair (all : List Oper) (i k : Nat) : Bool := match all[i]?, all[k]? with
  | some a, some b => isLoadO a && (match storeTmp b with
    | some t => (List.range k).any fun j => decide (i < j) && ownB all j k t
    | none => false)
  | _, _ => false

/-- No two that may change places, one of which may write, unless the other one touches nothing, or loads ahead of what the writing one writes into is made. -/
def confS (all : List Oper) (ls : List Nat) : Bool :=
  let b := befs all []
  ls.zipIdx.all fun (x, i) => ls.zipIdx.all fun (y, k) => !decide (i < k) || ordered b i k || x == 0 || y == 0 || (decide (x ≤ 1) && decide (y ≤ 1)) || newPair all i k

/-- The temp by which an operation loads. -/
def loadTmp (o : Oper) : Option Nat := match o.op with
  | .load _ (.tmp t) => some t
  | _ => none
def stays (all : List Oper) (i t : Nat) : Bool := (all.drop i).all fun o => o.dst != some t
/-- A load and a store: the temps by which they do so, which stay as they are. -/
def apPair (all : List Oper) (i k : Nat) : Option (Nat × Nat) := match all[i]?, all[k]? with
  | some a, some b => match loadTmp a, storeTmp b with
    | some s, some t => if stays all i s && stays all k t then some (s, t) else none
    | _, _ => match storeTmp a, loadTmp b with
      | some t, some s => if stays all i t && stays all k s then some (s, t) else none
      | _, _ => none
  | _, _ => none
def pairOk (all : List Oper) (x i y k : Nat) : Bool := !decide (i < k) || ordered (befs all []) i k || x == 0 || y == 0 || (decide (x ≤ 1) && decide (y ≤ 1)) || newPair all i k
def badPairs (all : List Oper) (ls : List Nat) : List (Nat × Nat) := ls.zipIdx.flatMap fun (x, i) => ls.zipIdx.filterMap fun (y, k) => if pairOk all x i y k then none else some (i, k)
def apAll (all : List Oper) : List (Nat × Nat) → Option (List (Nat × Nat))
  | [] => some []
  | (i, k) :: r => match apPair all i k, apAll all r with
    | some p, some l => some (p :: l)
    | _, _ => none

/-- What a group is guarded by is not written in it. -/
def okG (g : SG) : Bool := match g.guard with
  | none => true
  | some (d, _) => g.ops.all fun x => x.1 != some d

def compT (P : Program) (n : Nat) (fz : Fz) (ops : List Oper) (draw quiet : Bool) : Option SC := match compOs P n ops fz ops with
  | none => none
  | some l => if !(group l).all okG then none else
    if draw then (if tmpsOk ops && confS ops (l.map fun s => loudB P quiet s.b) then some (.region quiet (group l)) else none)
    else some (.region quiet (group l))

/-- A region that stands where some loads and stores are of different objects. -/
def compA (P : Program) (n : Nat) (fz : Fz) (ops : List Oper) : Option SC := match compOs P n ops fz ops with
  | none => none
  | some l => if !(group l).all okG then none else
    if tmpsOk ops then (apAll ops (badPairs ops (l.map fun s => loudB P false s.b))).map fun aps => .regionA aps (group l) else none

def orElse' : Option SC → Option SC → Option SC
  | some x, _ => some x
  | none, y => y

def compR (P : Program) (n : Nat) (fz : List Nat) (ops : List Oper) (draw : Bool) : Option SC :=
  orElse' (compT P n ⟨fz, false⟩ ops draw false) (if draw then orElse' (compA P n ⟨fz, false⟩ ops) (orElse' (compT P n ⟨fz, false⟩ ops true true) (orElse' (compT P n ⟨fz, true⟩ ops true false) (compT P n ⟨fz, true⟩ ops true true))) else none)

def compC (P : Program) (n : Nat) (fz : List Nat) : Code → Option SC
  | .skip => some .skip
  | .region _ ops draw => compR P n fz ops.toList draw
  | .seq x y => match compC P n fz x, compC P n fz y with
    | some a, some b => some (.seq a b)
    | _, _ => none
  | .cond c x y => match compC P n fz x, compC P n fz y with
    | some a, some b => some (.cond (SX.of c) a b)
    | _, _ => none
  | .block id c => (compC P n fz c).map (.block id)
  | .loop c => (compC P n fz c).map .loop
  | .exit id => some (.exit id)
  | .ret => some .ret
  | _ => none

/-! what is to be shown -/
/-- What is dead stays dead. -/
def Stay (h h' : Heap) : Prop := ∀ id, id < h.length → h.view id = .dead → h'.view id = .dead
theorem Stay.refl (h : Heap) : Stay h h := fun _ _ e => e
theorem Stay.trans {a b c : Heap} (h : Stay a b) (k : Stay b c) (hl : a.length ≤ b.length) : Stay a c := fun id hid e => k id (Nat.lt_of_lt_of_le hid hl) (h id hid e)

def MCall (P : Program) (f : FuncId) (vs : List V) (H : View) (K : V → View → Prop) : Prop :=
  calleeOk P f = true ∧ ∀ h : Heap, h.view = H → ∃ r h', ACall P f vs h r h' ∧ Stay h h' ∧ K r h'.view

/-- A call that leaves what there was as it was. -/
def QCall (P : Program) (f : FuncId) (vs : List V) (H : View) (K : V → View → Prop) : Prop :=
  calleeOk P f = true ∧ ∀ h : Heap, h.view = H → ∃ r h', ACall P f vs h r h' ∧ (∀ id, id < h.length → h'.view id = h.view id) ∧ K r h'.view

def wPart (sz : Option Nat) (e : List V) (j : Nat) (K : V → Prop) : Prop := match sz with
  | some n => j + n ≤ e.length ∧ K (.agg ((e.drop j).take n))
  | none => j < e.length ∧ K (e.getD j .any)

def wI (P : Program) (s : SI) (T : Env) (H : View) (K : V → View → Prop) : Prop := match s with
  | .mov x => K (x.at T) H
  | .pick c a b => match c.at T with
    | .val (.bool t) => K (if t then a.at T else b.at T) H
    | _ => False
  | .box x => (x.at T).cells.all cellOk = true ∧ ∀ n, H n = .dead → K (.ptr n 0 0) (H.set n (.arr (x.at T).cells.length [(x.at T).cells]))
  | .frz x => (x.at T).cells.all cellOk = true ∧ K (.fptr (x.at T).cells 0) H
  | .alloc z => z.all cellOk = true ∧ ∀ n, H n = .dead → K (.ptr n 0 0) (H.set n (.arr z.length [z]))
  | .load sz a => match a.at T with
    | .ptr id i j => match H id with
      | .arr _ es => i < es.length ∧ wPart sz (es.getD i []) j fun v => K v H
      | _ => False
    | .fptr e j => wPart sz e j fun v => K v H
    | _ => False
  | .loadF sz a => match a.at T with
    | .fptr e j => wPart sz e j fun v => K v H
    | _ => False
  | .store sz a x => match a.at T with
    | .ptr id i j => match H id with
      | .arr esz es => (i < es.length ∧ (x.at T).cells.length = sz ∧ j + (x.at T).cells.length ≤ esz ∧ (x.at T).cells.all cellOk = true) ∧
          K .any (H.set id (.arr esz (es.set i (splice (es.getD i []) j (x.at T).cells))))
      | _ => False
    | _ => False
  | .nilc x => match x.at T with
    | .ptr id i j => K (.ptr id i j) H
    | .fptr e j => K (.fptr e j) H
    | .fn f a b => K (.fn f a b) H
    | _ => False
  | .addr off x => match x.at T with
    | .ptr id i j => K (.ptr id i (j + off)) H
    | .fptr e j => K (.fptr e (j + off)) H
    | _ => False
  | .field off sz x => match x.at T with
    | .agg cs => wPart sz cs off fun v => K v H
    | _ => False
  | .idx sz x i => match asNat (i.at T) with
    | none => False
    | some q => match x.at T with
      | .sl id off len esz => (q < len ∧ esz = sz) ∧ K (.ptr id (off + q) 0) H
      | .fro es => ∃ e, es[q]? = some e ∧ e.length = sz ∧ K (.fptr e 0) H
      | _ => False
  | .mkfn f first cap => K (.fn f (first.map (SX.at T)) (cap.map (SX.at T))) H
  | .mkmap => ∀ n, H n = .dead → K (.mp n) (H.set n (.map [] 0))
  | .ext i x => match x.at T with
    | .tup vs => i < vs.length ∧ K (vs.getD i .any) H
    | _ => False
  | .len x => match lenV (x.at T) with
    | some n => K (goI n) H
    | none => False
  | .lenS x => match x.at T with
    | .val (.string s) => K (goI s.size) H
    | _ => False
  | .arith op x y => match x.at T, y.at T with
    | .val (.int k a), .val (.int k' b) => k = k' ∧ (match intOp op k a b with | some v => K (.val v) H | none => False)
    | _, _ => False
  | .sop op x y => match x.at T, y.at T with
    | .val (.string a), .val (.string b) => (match op with
      | .eql => K (.val (.bool (strEq a b))) H
      | .neq => K (.val (.bool (!strEq a b))) H
      | _ => False)
    | _, _ => False
  | .sidx x i => match x.at T, asNat (i.at T) with
    | .val (.string s), some q => ∃ b, s.data.toList[q]? = some b ∧ K (.val (.int .u8 b.toNat)) H
    | _, _ => False
  | .not x => match x.at T with
    | .val (.bool t) => K (.val (.bool (!t))) H
    | _ => False
  | .nil eq k x y => match nilB (isNil k (x.at T)) (isNil k (y.at T)) with
    | some b => K (.val (.bool (if eq then b else !b))) H
    | none => False
  | .beq eq x y => match x.at T, y.at T with
    | .val (.bool a), .val (.bool b) => K (.val (.bool (if eq then a == b else a != b))) H
    | _, _ => False
  | .mm mx x y => match x.at T, y.at T with
    | .val (.int k a), .val (.int _ b) => K (.val (.int k (if mx then (if b > a then b else a) else (if b < a then b else a)))) H
    | _, _ => False
  | .conv k x => match x.at T with
    | .val (.int _ a) => K (.val (.int k (k.wrap a))) H
    | _ => False
  | .sh l x y => match x.at T, y.at T with
    | .val (.int k a), .val (.int _ b) => 0 ≤ b ∧ K (.val (.int k (shOp l k a b))) H
    | _, _ => False
  | .build z parts => match sBuild z (parts.map fun (a, b, x) => (a, b, x.at T)) with
    | some cs => K (.agg cs) H
    | none => False
  | .bslice len sz z parts => match fillE sz (List.replicate len z) (parts.map fun (i, x) => (i, x.at T)) with
    | some es => ∀ n, H n = .dead → K (.sl n 0 len sz) (H.set n (.arr sz es))
    | none => False
  | .slice sz x lo hi => match sSlice sz (x.at T) (lo.map (SX.at T)) (hi.map (SX.at T)) with
    | some (v, .none, _) => K v H
    | _ => False
  | .make sz bytes z l c => match asNat (l.at T), asNat (c.at T) with
    | some l, some c => (l ≤ c ∧ c < limit ∧ bytes * c < limit) ∧ (c = 0 → K (.emp 2) H) ∧ (c ≠ 0 → ∀ n, H n = .dead → K (.sl n 0 l sz) (H.set n (.arr sz (List.replicate l z))))
    | _, _ => False
  | .app sz bytes x y => match elemsOf H (y.at T) with
    | some (xs, _) => if xs.isEmpty = true then (match x.at T with
        | .emp k => K (.emp k) H
        | .nem => K .nem H
        | .fro es => K (.fro es) H
        | .sl a b c d => K (.sl a b c d) H
        | _ => False)
      else (xs.all fun e => e.length == sz && e.all cellOk) = true ∧ (match x.at T with
        | .emp _ => (xs.length * bytes < limit ∧ xs.length < limit) ∧ ∀ n, H n = .dead → K (.sl n 0 xs.length sz) (H.set n (.arr sz xs))
        | .sl id off len esz => match H id with
          | .arr _ es => (off + len ≤ es.length ∧ esz = sz ∧ (len + xs.length) * bytes < limit ∧ len + xs.length < limit) ∧
              ∀ n, H n = .dead → K (.sl n 0 (len + xs.length) esz) ((H.set id .dead).set n (.arr esz ((es.drop off).take len ++ xs)))
          | _ => False
        | _ => False)
    | none => False
  | .strF x => match x.at T with
    | .fro es => (match textOf es with
      | some l => K (.val (.string ⟨l.toArray⟩)) H
      | none => False)
    | _ => False
  | .frzB x => match x.at T with
    | .val (.string s) => K (.fro (bytesE s)) H
    | _ => False
  | s => ∀ n, H n = .dead → ∃ v eff rd, sI P s T H n = some (v, eff, rd) ∧ K v (eff.view H n)

def wB (P : Program) (quiet : Bool) (b : SB) (T : Env) (H : View) (K : V → View → Prop) : Prop := match b with
  | .op s => wI P s T H K
  | .call f args => match f.at T with
    | .fn g first cap => if quiet then QCall P g (first ++ args.map (SX.at T) ++ cap) H K else MCall P g (first ++ args.map (SX.at T) ++ cap) H K
    | _ => False

def wBs (P : Program) (quiet : Bool) : List (Option Nat × SB) → Env → View → (Env → View → Prop) → Prop
  | [], T, H, K => K T H
  | (d, b) :: r, T, H, K => wB P quiet b T H fun v H' => wBs P quiet r (T.put d v) H' K

def skipAll : List (Option Nat × SB) → Env → Env
  | [], T => T
  | (d, _) :: r, T => skipAll r (T.put d (.tup []))

def wG (P : Program) (quiet : Bool) (g : SG) (T : Env) (H : View) (K : Env → View → Prop) : Prop := match g.guard with
  | none => wBs P quiet g.ops T H K
  | some (d, want) => match T d with
    | .val (.bool b) => (b = want → wBs P quiet g.ops (T.put (some d) (.val (.bool want))) H K) ∧ (b = !want → K (skipAll g.ops (T.put (some d) (.val (.bool (!want))))) H)
    | .tup [] => K (skipAll g.ops T) H
    | _ => False

def wGs (P : Program) (quiet : Bool) : List SG → Env → View → (Env → View → Prop) → Prop
  | [], T, H, K => K T H
  | g :: r, T, H, K => wG P quiet g T H fun T' H' => wGs P quiet r T' H' K

def condT (c : SX) (b : Bool) (T : Env) : Env := match c with
  | .tmp t => T.put (some t) (.val (.bool b))
  | _ => T

/-- The one where the run goes on, the other one where it leaves. -/
def ifN : Exit → Prop → Prop → Prop
  | .normal, a, _ => a
  | _, _, b => b

/-- Not the same object. -/
def ApV (a b : V) : Prop := match a, b with
  | .ptr i _ _, .ptr j _ _ => i ≠ j
  | .fptr _ _, _ => True
  | _, _ => False
def Aps : List (Nat × Nat) → Env → Prop → Prop
  | [], _, K => K
  | p :: l, T, K => ApV (T p.1) (T p.2) ∧ Aps l T K

def wS (P : Program) : SC → Env → View → (Exit → Env → View → Prop) → Prop
  | .skip, T, H, Q => Q .normal T H
  | .region quiet gs, T, H, Q => wGs P quiet gs T H (Q .normal)
  | .regionA aps gs, T, H, Q => wGs P false gs T H fun T' H' => Aps aps T' (Q .normal T' H')
  | .seq x y, T, H, Q => wS P x T H fun e T' H' => ifN e (wS P y T' H' Q) (Q e T' H')
  | .cond c x y, T, H, Q => match c.at T with
    | .val (.bool b) => (b = true → wS P x (condT c true T) H Q) ∧ (b = false → wS P y (condT c false T) H Q)
    | _ => False
  | .block id c, T, H, Q => wS P c T H fun e => Q (outOf id e)
  | .loop c, T, H, Q => ∃ I : Nat → Env → View → Prop, (∃ k, I k T H) ∧ ∀ k T H, I k T H → wS P c T H fun e T' H' => ifN e (∃ k', k' < k ∧ I k' T' H') (Q e T' H')
  | .exit id, T, H, Q => Q (.exit id) T H
  | .ret, T, H, Q => Q .ret T H

def wR (T : Env) (H : View) (r : SR) (K : V → Prop) : Prop := match r with
  | .tmp t => K (T t)
  | .cell t sz => match T t with
    | .ptr id i j => match H id with
      | .arr _ es => i < es.length ∧ wPart sz (es.getD i []) j K
      | _ => False
    | .fptr e j => wPart sz e j K
    | _ => False

def wRs (T : Env) (H : View) : List SR → List V → (List V → Prop) → Prop
  | [], acc, K => K acc
  | r :: l, acc, K => wR T H r fun v => wRs T H l (acc ++ [v]) K

def oneV : List V → V
  | [v] => v
  | vs => .tup vs

def compRes (P : Program) : List ResultVar → Option (List SR)
  | [] => some []
  | .tmp t :: r => (compRes P r).map (.tmp t :: ·)
  | .cell a t :: r => match partK P t, compRes P r with
    | some k, some l => some (.cell a k :: l)
    | _, _ => none

/-- A function with its types looked up: its code, its results, how many slots, how many parameters. -/
structure SF where
  code : SC
  res : List SR
  n : Nat

def compF (P : Program) (f : FuncId) (fz : List Nat) : Option SF := match P.funcs[f]? with
  | some fn => match fn.body with
    | some c => match compC P fn.ntmps fz c, compRes P fn.results.toList, calleeOk P f with
      | some sc, some rs, true => some ⟨sc, rs, fn.ntmps⟩
      | _, _, _ => none
    | none => none
  | none => none

end Gv

/-
  What is shown of the code with its types looked up holds of running the code.
  Conditions: none beyond those that each lemma names.
-/
namespace Gv
open Go

theorem wPart_ok {sz : Option Nat} {e : List V} {j : Nat} {K : V → Prop} (h : wPart sz e j K) : ∃ v, partS sz e j = some v ∧ K v := by
  cases sz with
  | none => exact ⟨_, by simp only [partS]; rw [if_pos h.1], h.2⟩
  | some n => exact ⟨_, by simp only [partS]; rw [if_pos h.1], h.2⟩

theorem wI_ok {P : Program} {s : SI} {T : Env} {H : View} {K : V → View → Prop} (h : wI P s T H K) {n : Nat} (hn : H n = .dead) :
    ∃ v eff rd, sI P s T H n = some (v, eff, rd) ∧ K v (eff.view H n) := by
  unfold wI at h
  split at h
  · exact ⟨_, _, _, rfl, h⟩
  · split at h
    · rename_i t ht; exact ⟨_, _, _, by simp only [sI, ht]; rfl, h⟩
    · exact h.elim
  · exact ⟨_, _, _, by simp only [sI, aBox]; rw [if_pos h.1], h.2 n hn⟩
  · exact ⟨_, _, _, by simp only [sI]; rw [if_pos h.1], h.2⟩
  · exact ⟨_, _, _, by simp only [sI, aBox]; rw [if_pos h.1], h.2 n hn⟩
  · split at h
    · rename_i id i j ha
      split at h
      · rename_i es hH
        obtain ⟨h1, h2⟩ := h
        obtain ⟨v, hv, hk⟩ := wPart_ok h2
        exact ⟨_, _, _, by simp only [sI, sLoad, ha, hH]; rw [if_pos h1, hv]; rfl, hk⟩
      · exact h.elim
    · rename_i e j ha
      obtain ⟨v, hv, hk⟩ := wPart_ok h
      exact ⟨_, _, _, by simp only [sI, sLoad, ha]; rw [hv]; rfl, hk⟩
    · exact h.elim
  · split at h
    · rename_i e j ha
      obtain ⟨v, hv, hk⟩ := wPart_ok h
      exact ⟨_, _, _, by simp only [sI, ha]; rw [hv]; rfl, hk⟩
    · exact h.elim
  · split at h
    · rename_i id i j ha
      split at h
      · rename_i esz es hH
        exact ⟨_, _, _, by simp only [sI, sStore, ha, hH]; rw [if_pos h.1], h.2⟩
      · exact h.elim
    · exact h.elim
  · split at h
    · rename_i hx; exact ⟨_, _, _, by simp only [sI, hx]; rfl, h⟩
    · rename_i hx; exact ⟨_, _, _, by simp only [sI, hx]; rfl, h⟩
    · rename_i hx; exact ⟨_, _, _, by simp only [sI, hx]; rfl, h⟩
    · exact h.elim
  · split at h
    · rename_i hx; exact ⟨_, _, _, by simp only [sI, sAddr, hx]; rfl, h⟩
    · rename_i hx; exact ⟨_, _, _, by simp only [sI, sAddr, hx]; rfl, h⟩
    · exact h.elim
  · split at h
    · rename_i cs hx
      obtain ⟨v, hv, hk⟩ := wPart_ok h
      exact ⟨_, _, _, by simp only [sI, hx, hv]; rfl, hk⟩
    · exact h.elim
  · split at h
    · exact h.elim
    · rename_i q hq
      split at h
      · rename_i hx; exact ⟨_, _, _, by simp only [sI, sIdx, hq, hx]; rw [if_pos h.1], h.2⟩
      · rename_i es hx
        obtain ⟨e, he, hl, hk⟩ := h
        have hlt : q < es.length := (List.getElem?_eq_some_iff.1 he).1
        have hge : es.getD q [] = e := by simp [List.getD_eq_getElem?_getD, he]
        exact ⟨_, _, _, by simp only [sI, sIdx, hq, hx]; rw [hge, if_pos ⟨hlt, hl⟩], hk⟩
      · exact h.elim
  · exact ⟨_, _, _, rfl, h⟩
  · exact ⟨_, _, _, rfl, h n hn⟩
  · split at h
    · rename_i vs hx; exact ⟨_, _, _, by simp only [sI, hx]; rw [if_pos h.1], h.2⟩
    · exact h.elim
  · split at h
    · rename_i m hx; exact ⟨_, _, _, by simp only [sI, hx]; rfl, h⟩
    · exact h.elim
  · split at h
    · rename_i s hx; exact ⟨_, _, _, by simp only [sI, hx]; rfl, h⟩
    · exact h.elim
  · split at h
    · rename_i k a k' b hx hy
      obtain ⟨rfl, h⟩ := h
      split at h
      · rename_i v hv; exact ⟨_, _, _, by simp only [sI, sArith, hx, hy, if_true, hv]; rfl, h⟩
      · exact h.elim
    · exact h.elim
  · split at h
    · rename_i a b hx hy
      split at h
      · exact ⟨_, _, _, by simp only [sI, sSop, hx, hy]; rfl, h⟩
      · exact ⟨_, _, _, by simp only [sI, sSop, hx, hy]; rfl, h⟩
      · exact h.elim
    · exact h.elim
  · split at h
    · rename_i s q hx hq
      obtain ⟨b, hb, hk⟩ := h
      exact ⟨_, _, _, by simp only [sI, sSidx, hx, hq, hb]; rfl, hk⟩
    · exact h.elim
  · split at h
    · rename_i t hx; exact ⟨_, _, _, by simp only [sI, hx]; rfl, h⟩
    · exact h.elim
  · split at h
    · rename_i b hb; exact ⟨_, _, _, by simp only [sI, hb]; rfl, h⟩
    · exact h.elim
  · split at h
    · rename_i hx hy; exact ⟨_, _, _, by simp only [sI, hx, hy]; rfl, h⟩
    · exact h.elim
  · split at h
    · rename_i hx hy; exact ⟨_, _, _, by simp only [sI, hx, hy]; rfl, h⟩
    · exact h.elim
  · split at h
    · rename_i hx; exact ⟨_, _, _, by simp only [sI, hx]; rfl, h⟩
    · exact h.elim
  · split at h
    · rename_i hx hy; exact ⟨_, _, _, by simp only [sI, sSh, hx, hy]; rw [if_neg (by omega)], h.2⟩
    · exact h.elim
  · split at h
    · rename_i cs hb; exact ⟨_, _, _, by simp only [sI, hb]; rfl, h⟩
    · exact h.elim
  · split at h
    · rename_i es hb; exact ⟨_, _, _, by simp only [sI, sBslice, hb]; rfl, h n hn⟩
    · exact h.elim
  · split at h
    · rename_i v rd hb; exact ⟨_, _, _, by simp only [sI, hb]; rfl, h⟩
    · exact h.elim
  · split at h
    · rename_i l c hl hc
      obtain ⟨h1, h2, h3⟩ := h
      by_cases e : c = 0
      · exact ⟨.emp 2, .none, [], by simp only [sI, sMake, hl, hc]; rw [if_pos h1, if_pos e], h2 e⟩
      · exact ⟨_, _, _, by simp only [sI, sMake, hl, hc]; rw [if_pos h1, if_neg e], h3 e n hn⟩
    · exact h.elim
  · split at h
    · rename_i xs rd hel
      split at h
      · rename_i he
        split at h
        all_goals first
          | (rename_i hx; exact ⟨_, _, _, by simp only [sI, sApp, hel]; rw [if_pos he, hx], h⟩)
          | exact h.elim
      · rename_i he
        obtain ⟨h1, h2⟩ := h
        split at h2
        · rename_i hx
          exact ⟨_, _, _, by simp only [sI, sApp, hel]; rw [if_neg he, if_neg (by rw [h1]; simp), hx]; simp only; rw [if_pos h2.1], h2.2 n hn⟩
        · rename_i id off len esz hx
          split at h2
          · rename_i z es hH
            exact ⟨_, _, _, by simp only [sI, sApp, hel]; rw [if_neg he, if_neg (by rw [h1]; simp), hx]; simp only [hH]; rw [if_pos h2.1], h2.2 n hn⟩
          · exact h2.elim
        · exact h2.elim
    · exact h.elim
  · split at h
    · rename_i hx
      split at h
      · rename_i l hl; exact ⟨_, _, _, by simp only [sI, hx, hl]; rfl, h⟩
      · exact h.elim
    · exact h.elim
  · split at h
    · rename_i hx; exact ⟨_, _, _, by simp only [sI, hx]; rfl, h⟩
    · exact h.elim
  · exact h n hn

/-- How loud what is done is. -/
def LoudOk (k : Nat) (rd wr : List Nat) (call : Bool) (n n' : Nat) : Prop :=
  (k = 0 → rd = [] ∧ wr = [] ∧ call = false ∧ n' = n) ∧ (k ≤ 1 → wr = [])

theorem loud2 {k : Nat} (h : k = 2) {rd wr : List Nat} {call : Bool} {n n' : Nat} : LoudOk k rd wr call n n' := ⟨fun h' => by omega, fun h' => by omega⟩

theorem aPure_eff {P : Program} {o : Oper} {T : Env} {v : V} {eff : Eff} {rd : List Nat} (h : aPure P o T = some (v, eff, rd)) : eff = .none ∧ rd = [] := by
  unfold aPure at h
  split at h
  · split at h
    · split at h
      · simp at h; exact ⟨h.2.1.symm, h.2.2⟩
      · simp at h
    · simp at h
  · simp at h

theorem old_loud {P : Program} {o : Oper} {T : Env} {H : View} {n : Nat} {v : V} {eff : Eff} {rd : List Nat} (h : aop P o T H n = some (v, eff, rd)) :
    (loudOld P o.op = 0 → eff = .none ∧ rd = []) ∧ (loudOld P o.op = 1 → eff.wr = []) := by
  unfold loudOld
  split
  · rename_i s d x ho
    simp only [aop, ho] at h
    split
    · exact ⟨fun h => by simp at h, fun h => by simp at h⟩
    · rename_i hb
      rw [if_neg hb] at h
      exact ⟨fun _ => aPure_eff h, fun h => by simp at h⟩
  · rename_i b args ats ho
    simp only [aop, ho] at h
    split
    any_goals exact ⟨fun _ => aPure_eff h, fun h => by simp at h⟩
    · refine ⟨fun h => by simp at h, fun _ => ?_⟩
      split at h
      · rename_i hargs
        split at h
        · simp only [aLen] at h
          have nn : ∀ {v' : V} {r : List Nat}, some (v', Eff.none, r) = some (v, eff, rd) → eff.wr = [] := fun e => by
            simp only [Option.some.injEq, Prod.mk.injEq] at e; rw [← e.2.1]; rfl
          split at h
          · simp only [Option.map_eq_some_iff] at h
            obtain ⟨_, _, h⟩ := h
            exact nn (congrArg some h)
          · split at h
            · split at h
              · exact nn h
              · simp at h
            · exact nn h
            · simp at h
          · split at h
            · exact nn h
            · simp at h
          · exact nn h
          · simp at h
        · simp at h
      any_goals simp at h
      all_goals contradiction
    · exact ⟨fun h => by simp at h, fun h => by simp at h⟩
  · rename_i t m k ok ho
    refine ⟨fun h => by simp at h, fun _ => ?_⟩
    simp only [aop, ho, aLookup] at h
    have nn : ∀ {v' : V} {r : List Nat}, some (v', Eff.none, r) = some (v, eff, rd) → eff.wr = [] := fun e => by
      simp only [Option.some.injEq, Prod.mk.injEq] at e; rw [← e.2.1]; rfl
    split at h
    · simp at h
    · split at h
      · simp at h
      · split at h
        · split at h
          · split at h
            · split at h
              · exact nn h
              · simp at h
            · exact nn h
            · simp at h
          · simp at h
        · simp at h
  · rename_i op t x y u ho
    refine ⟨fun _ => ?_, fun h => by simp at h⟩
    simp only [aop, ho] at h
    split at h
    · split at h
      · simp at h; exact ⟨h.2.1.symm, h.2.2⟩
      · simp at h; exact ⟨h.2.1.symm, h.2.2⟩
      · simp at h
    · exact aPure_eff h
  · rename_i op t x ho
    exact ⟨fun _ => aPure_eff (by simpa only [aop, ho] using h), fun h => by simp at h⟩
  · rename_i t x i ho
    exact ⟨fun _ => aPure_eff (by simpa only [aop, ho] using h), fun h => by simp at h⟩
  · exact ⟨fun h => by simp at h, fun h => by simp at h⟩

theorem sI_loud {P : Program} {s : SI} {T : Env} {H : View} {n : Nat} {v : V} {eff : Eff} {rd : List Nat} (h : sI P s T H n = some (v, eff, rd)) :
    (loudI P s = 0 → eff = .none ∧ rd = []) ∧ (loudI P s = 1 → eff.wr = []) := by
  have nn : ∀ {v' : V}, some (v', Eff.none, ([] : List Nat)) = some (v, eff, rd) → eff = .none ∧ rd = [] := fun e => by
    simp only [Option.some.injEq, Prod.mk.injEq] at e; exact ⟨e.2.1.symm, e.2.2.symm⟩
  have mp : ∀ {α : Type} {x : Option α} {f : α → V}, (x.map fun a => (f a, Eff.none, ([] : List Nat))) = some (v, eff, rd) → eff = .none ∧ rd = [] := by
    intro α x f h
    simp only [Option.map_eq_some_iff] at h
    obtain ⟨a, _, h⟩ := h
    simp only [Prod.mk.injEq] at h; exact ⟨h.2.1.symm, h.2.2.symm⟩
  have nw : ∀ {v' : V} {o : AObj} {r : List Nat}, some (v', Eff.new o, r) = some (v, eff, rd) → eff.wr = [] := fun e => by
    simp only [Option.some.injEq, Prod.mk.injEq] at e; rw [← e.2.1]; rfl
  have n1 : ∀ {v' : V} {r : List Nat}, some (v', Eff.none, r) = some (v, eff, rd) → eff.wr = [] := fun e => by
    simp only [Option.some.injEq, Prod.mk.injEq] at e; rw [← e.2.1]; rfl
  unfold loudI
  cases s <;> simp only [sI] at h
  case old op ty => exact old_loud (o := oper op ty) h
  all_goals
    constructor <;> intro hk <;> first
      | (exfalso; revert hk; simp; done)
      | skip
  all_goals try simp only [sLoad, aBox, sAddr, sIdx, sSlice, sMake, sBslice, sArith, sSh, sSop, sSidx] at h
  all_goals first
    | exact nn h
    | exact mp h
    | exact nw h
    | exact n1 h
    | skip
  all_goals repeat' (split at h)
  all_goals first
    | exact nn h
    | exact mp h
    | exact nw h
    | exact n1 h
    | (simp at h; done)
    | (simp only [Option.map_eq_some_iff, Prod.mk.injEq] at h; obtain ⟨_, _, _, rfl, _⟩ := h; rfl)

end Gv

/-
  What is shown of the code with its types looked up holds of running the code: regions, code, calls.
  Conditions: none beyond those that each lemma names.
-/
namespace Gv
open Go

section
variable {P : Program} {n : Nat} {all : List Oper}

theorem view_end (h : Heap) : h.view h.length = .dead := by simp [Heap.view, List.getD_eq_getElem?_getD]

theorem op_ok {o : Oper} {T : Env} {h : Heap} {s : SI} {K : V → View → Prop} (hg : guardV n all T o = some true) (hc : ∀ v eff rd, sI P s T h.view h.length = some (v, eff, rd) → aop P o T h.view h.length = some (v, eff, rd)) (hw : wI P s T h.view K) :
    ∃ v h' rd wr, OStep P n all o T h v h' rd wr false ∧ Stay h h' ∧ K v h'.view ∧ LoudOk (loudI P s) rd wr false h.length h'.length := by
  obtain ⟨v, eff, rd, hs, hk⟩ := wI_ok hw (view_end h)
  have ha := hc _ _ _ hs
  have hlive : ∀ id, id ∈ eff.wr → h.view id ≠ .dead := fun id hid => (aop_live ha id hid).1
  refine ⟨v, eff.apply h, rd, eff.wr, .op hg ha, ?_, ?_, ?_, ?_⟩
  · intro id hid hd
    rw [apply_view hlive]
    cases eff with
    | none => exact hd
    | new o => simp only [Eff.view, View.set]; rw [if_neg (by omega)]; exact hd
    | upd k o =>
      simp only [Eff.view, View.set]
      rw [if_neg (by rintro rfl; exact hlive id (by simp [Eff.wr]) hd)]; exact hd
    | mov k o =>
      simp only [Eff.view, View.set]
      rw [if_neg (by omega)]
      split
      · rfl
      · exact hd
  · rw [apply_view (fun id hid => (aop_live ha id hid).1)]; exact hk
  · intro h0
    obtain ⟨rfl, rfl⟩ := (sI_loud hs).1 h0
    exact ⟨rfl, rfl, rfl, rfl⟩
  · intro h1
    rcases Nat.lt_or_ge (loudI P s) 1 with h2 | h2
    · obtain ⟨rfl, rfl⟩ := (sI_loud hs).1 (by omega); rfl
    · exact (sI_loud hs).2 (by omega)

theorem froz_ok {P : Program} {fr : Bool} {s : SI} {T : Env} {H : View} {n : Nat} {v : V} {eff : Eff} {rd : List Nat} (h : sI P (froz P fr s) T H n = some (v, eff, rd)) : sI P s T H n = some (v, eff, rd) := by
  unfold froz at h
  split at h
  · split at h
    · exact loadF_ok h
    · exact h
  · split at h
    · rename_i hc
      simp only [Bool.and_eq_true] at hc
      exact strF_ok hc.2 h
    · exact h
  · exact h

theorem compB_cases (P : Program) (fz : Fz) (o : Oper) :
    (∃ f args ats, o.op = .call { callee := .value f, args := args, argTypes := ats } ∧ compB P fz o = .call (SX.of f) (args.toList.map SX.of)) ∨
    (∃ t x, o.op = .box t x ∧ compB P fz o = .op (.frz (SX.of x))) ∨ (∃ s d x, o.op = .convert s d x ∧ toBytes P s d = true ∧ compB P fz o = .op (.frzB (SX.of x))) ∨ compB P fz o = .op (froz P fz.fr (comp P o)) := by
  unfold compB
  split
  · rename_i f args ats ho; exact .inl ⟨f, args, ats, ho, rfl⟩
  · rename_i t x ho
    by_cases hd : (match o.dst with | some d => fz.l.contains d | none => false) = true
    · exact .inr (.inl ⟨t, x, ho, if_pos hd⟩)
    · refine .inr (.inr (.inr ?_))
      refine (if_neg hd).trans ?_
      simp only [comp, ho, froz]
  · rename_i s d x ho
    by_cases hd : ((match o.dst with | some d => fz.l.contains d | none => false) && toBytes P s d) = true
    · exact .inr (.inr (.inl ⟨s, d, x, ho, by simp only [Bool.and_eq_true] at hd; exact hd.2, if_pos hd⟩))
    · exact .inr (.inr (.inr (if_neg hd)))
  · exact .inr (.inr (.inr rfl))

theorem OStep.len {o : Oper} {T : Env} {h h' : Heap} {v : V} {rd wr : List Nat} {call : Bool} (st : OStep P n all o T h v h' rd wr call) : h.length ≤ h'.length := by
  cases st with
  | skip => exact Nat.le_refl _
  | op _ _ => rename_i eff _ _ ; cases eff <;> simp [Eff.apply]
  | frz _ _ _ => exact Nat.le_refl _
  | frzB _ _ _ _ _ _ => exact Nat.le_refl _
  | call _ _ _ _ ha _ _ => exact ha.1

theorem body_ok {fz : Fz} {o : Oper} {T : Env} {h : Heap} {quiet : Bool} {K : V → View → Prop} (hg : guardV n all T o = some true) (hw : wB P quiet (compB P fz o) T h.view K) :
    ∃ v h' rd wr call, OStep P n all o T h v h' rd wr call ∧ Stay h h' ∧ K v h'.view ∧ LoudOk (loudB P quiet (compB P fz o)) rd wr call h.length h'.length := by
  rcases compB_cases P fz o with ⟨f, args, ats, ho, hc⟩ | ⟨t, x, ho, hc⟩ | ⟨s, d, x, ho, hcv, hc⟩ | hc
  · rw [hc] at hw ⊢
    simp only [wB] at hw
    split at hw
    · rename_i g first cap hf
      rw [map_of] at hw
      rw [SX.of_at] at hf
      split at hw
      · rename_i hq
        obtain ⟨hok, hq'⟩ := hw
        obtain ⟨r, h', hr, hold, hk⟩ := hq' h rfl
        refine ⟨r, h', [], [], true, .call hg ho hf hok hr (fun id hid _ => hold id hid) (fun id hid => by simp at hid), fun id hid hd => (hold id hid).trans hd, hk, ?_, ?_⟩
        · intro h0; simp [loudB, hq] at h0
        · intro _; rfl
      · rename_i hq
        obtain ⟨hok, hq'⟩ := hw
        obtain ⟨r, h', hr, hst, hk⟩ := hq' h rfl
        refine ⟨r, h', [], List.range h.length, true, .call hg ho hf hok hr (fun id hid hn => ?_) (fun id hid => by simpa using hid), hst, hk, loud2 (by simp [loudB, hq])⟩
        exact absurd (by simpa using hid) hn
    · exact hw.elim
  · rw [hc] at hw ⊢
    simp only [wB, wI, SX.of_at] at hw
    exact ⟨_, h, [], [], false, .frz hg ho hw.1, .refl _, hw.2, fun _ => ⟨rfl, rfl, rfl, rfl⟩, fun _ => rfl⟩
  · rw [hc] at hw ⊢
    simp only [wB, wI, SX.of_at] at hw
    obtain ⟨e, h1, h2, h3⟩ := toBytes_inv hcv
    split at hw
    · rename_i st hx
      exact ⟨_, h, [], [], false, .frzB hg ho h1 h2 h3 hx, .refl _, hw, fun _ => ⟨rfl, rfl, rfl, rfl⟩, fun _ => rfl⟩
    · exact hw.elim
  · rw [hc] at hw ⊢
    obtain ⟨v, h', rd, wr, h1, h0, h2, h3⟩ := op_ok (s := froz P fz.fr (comp P o)) hg (fun v eff rd hs => comp_ok (froz_ok hs)) hw
    exact ⟨v, h', rd, wr, false, h1, h0, h2, h3⟩

def RecsOk (P : Program) (quiet : Bool) (l : List SO) (recs : List Rec) : Prop :=
  l.length = recs.length ∧ ∀ (i : Nat) (s : SO) (r : Rec), l[i]? = some s → recs[i]? = some r → LoudOk (loudB P quiet s.b) r.rd r.wr r.call r.lo r.hi

theorem RecsOk.nil {quiet : Bool} : RecsOk P quiet [] [] := ⟨rfl, fun i s r h => by simp at h⟩

theorem RecsOk.cons {quiet : Bool} {l : List SO} {recs : List Rec} {s : SO} {r : Rec} (h : RecsOk P quiet l recs) (hr : LoudOk (loudB P quiet s.b) r.rd r.wr r.call r.lo r.hi) : RecsOk P quiet (s :: l) (r :: recs) := by
  refine ⟨by simp [h.1], fun i s' r' hs hr' => ?_⟩
  cases i with
  | zero => simp at hs hr'; subst hs hr'; exact hr
  | succ i => exact h.2 i s' r' (by simpa using hs) (by simpa using hr')

theorem RecsOk.append {quiet : Bool} {l l' : List SO} {recs recs' : List Rec} (h : RecsOk P quiet l recs) (h' : RecsOk P quiet l' recs') : RecsOk P quiet (l ++ l') (recs ++ recs') := by
  refine ⟨by simp [h.1, h'.1], fun i s r hs hr => ?_⟩
  by_cases hi : i < l.length
  · rw [List.getElem?_append_left hi] at hs
    rw [List.getElem?_append_left (h.1 ▸ hi)] at hr
    exact h.2 i s r hs hr
  · rw [List.getElem?_append_right (by omega)] at hs
    rw [List.getElem?_append_right (by have := h.1; omega)] at hr
    exact h'.2 (i - l.length) s r hs (by rw [h.1]; exact hr)

theorem compO_inv {fz : Fz} {o : Oper} {s : SO} (h : compO P n all fz o = some s) : dstOk n o = true ∧ s.dst = o.dst ∧ s.b = compB P fz o ∧ guardS n all o = some s.guard := by
  unfold compO at h
  split at h
  · rename_i hd
    simp only [Option.map_eq_some_iff] at h
    obtain ⟨g, hg, rfl⟩ := h
    exact ⟨hd, rfl, rfl, hg⟩
  · simp at h

theorem guard_none {o : Oper} {T : Env} (h : guardS n all o = some none) : guardV n all T o = some true := by
  unfold guardS at h
  unfold guardV
  split at h
  · rename_i hg; rw [hg]
  · split at h
    · split at h
      · simp at h
      · simp at h
    · simp at h

theorem guard_some {o : Oper} {T : Env} {d : Nat} {want : Bool} (h : guardS n all o = some (some (d, want))) :
    (∀ b, T d = .val (.bool b) → guardV n all T o = some (b == want)) ∧ (T d = .tup [] → guardV n all T o = some false) := by
  unfold guardS at h
  unfold guardV
  split at h
  · simp at h
  · rename_i j w hg
    rw [hg]
    split at h
    · rename_i d' hd
      split at h
      · rename_i hlt
        simp at h
        obtain ⟨rfl, rfl⟩ := h
        simp only [hd, hlt, if_true]
        exact ⟨fun b hb => by rw [hb], fun hb => by rw [hb]⟩
      · simp at h
    · simp at h

theorem compOs_nil {fz : Fz} {os : List Oper} (h : compOs P n all fz os = some []) : os = [] := by
  cases os with
  | nil => rfl
  | cons o r =>
    simp only [compOs] at h
    split at h <;> simp at h

theorem compOs_cons {fz : Fz} {os : List Oper} {s : SO} {l : List SO} (h : compOs P n all fz os = some (s :: l)) : ∃ o r, os = o :: r ∧ compO P n all fz o = some s ∧ compOs P n all fz r = some l := by
  cases os with
  | nil => simp [compOs] at h
  | cons o r =>
    simp only [compOs] at h
    split at h
    · rename_i s' l' h1 h2
      simp at h
      obtain ⟨rfl, rfl⟩ := h
      exact ⟨o, r, rfl, h1, h2⟩
    · simp at h

theorem compOs_append {fz : Fz} : ∀ {l l' : List SO} {os : List Oper}, compOs P n all fz os = some (l ++ l') → ∃ a b, os = a ++ b ∧ compOs P n all fz a = some l ∧ compOs P n all fz b = some l'
  | [], l', os, h => ⟨[], os, rfl, rfl, h⟩
  | s :: l, l', os, h => by
    obtain ⟨o, r, rfl, h1, h2⟩ := compOs_cons h
    obtain ⟨a, b, rfl, h3, h4⟩ := compOs_append h2
    exact ⟨o :: a, b, rfl, by simp [compOs, h1, h3], h4⟩

theorem Tr.append {a b : List Oper} {T T1 T2 : Env} {h h1 h2 : Heap} {r1 r2 : List Rec} (x : Tr P n all a T h r1 T1 h1) (y : Tr P n all b T1 h1 r2 T2 h2) : Tr P n all (a ++ b) T h (r1 ++ r2) T2 h2 := by
  induction x with
  | nil => exact y
  | cons st hd _ ih => exact .cons st hd (ih y)

theorem put_same {T : Env} {d : Nat} {v : V} (h : T d = v) : T.put (some d) v = T := by
  funext t
  simp only [Env.put]
  split
  · rename_i e; subst e; exact h.symm
  · rfl

/-- Operations that run. -/
theorem wBs_ok {fz : Fz} {quiet : Bool} {K : Env → View → Prop} (g : Option (Nat × Bool)) : ∀ (l : List (Option Nat × SB)) (os : List Oper) (T : Env) (h : Heap),
    compOs P n all fz os = some (l.map fun (d, b) => ⟨d, g, b⟩) → (∀ d w, g = some (d, w) → T d = .val (.bool w) ∧ (l.all fun x => x.1 != some d) = true) → wBs P quiet l T h.view K →
    ∃ recs T' h', Tr P n all os T h recs T' h' ∧ (Stay h h' ∧ h.length ≤ h'.length) ∧ K T' h'.view ∧ RecsOk P quiet (l.map fun (d, b) => ⟨d, g, b⟩) recs
  | [], os, T, h, hc, hg, hw => by
    have := compOs_nil hc; subst this
    exact ⟨[], T, h, .nil, ⟨.refl _, Nat.le_refl _⟩, hw, .nil⟩
  | (d, b) :: l, os, T, h, hc, hg, hw => by
    obtain ⟨o, r, rfl, h1, h2⟩ := compOs_cons hc
    obtain ⟨hd, hd1, hb1, hg1⟩ := compO_inv h1
    simp only at hd1 hb1 hg1
    have hgv : guardV n all T o = some true := by
      cases g with
      | none => exact guard_none hg1
      | some p =>
        obtain ⟨d', w⟩ := p
        have := (guard_some (T := T) hg1).1 w (hg d' w rfl).1
        rw [this]; simp
    simp only [wBs] at hw
    rw [hb1] at hw
    obtain ⟨v, h', rd, wr, call, st, hst, hk, hl⟩ := body_ok hgv hw
    obtain ⟨recs, T', h'', tr, hst', hk', hro⟩ := wBs_ok g l r (T.put d v) h' h2 (fun d' w e => by
      have := hg d' w e
      simp only [List.all_cons, Bool.and_eq_true, bne_iff_ne, ne_eq] at this
      refine ⟨?_, this.2.2⟩
      rw [← this.1]
      cases d with
      | none => rfl
      | some t => simp only [Env.put]; rw [if_neg]; intro e; subst e; exact this.2.1 rfl) hk
    rw [hd1] at tr
    have hlen := st.len
    exact ⟨_, T', h'', .cons st hd tr, ⟨hst.trans hst'.1 hlen, Nat.le_trans hlen hst'.2⟩, hk', hro.cons (by rw [hb1]; exact hl)⟩

/-- Operations that are passed over. -/
theorem skip_ok {fz : Fz} {quiet : Bool} (d : Nat) (w : Bool) (h : Heap) : ∀ (l : List (Option Nat × SB)) (os : List Oper) (T : Env),
    compOs P n all fz os = some (l.map fun (d', b) => ⟨d', some (d, w), b⟩) → (T d = .val (.bool !w) ∨ T d = .tup []) → (l.all fun x => x.1 != some d) = true →
    ∃ recs, Tr P n all os T h recs (skipAll l T) h ∧ RecsOk P quiet (l.map fun (d', b) => ⟨d', some (d, w), b⟩) recs
  | [], os, T, hc, hd, hl => by
    have := compOs_nil hc; subst this
    exact ⟨[], .nil, .nil⟩
  | (d', b) :: l, os, T, hc, hd, hl => by
    obtain ⟨o, r, rfl, h1, h2⟩ := compOs_cons hc
    obtain ⟨hd0, hd1, hb1, hg1⟩ := compO_inv h1
    simp only at hd1 hb1 hg1
    have hgv : guardV n all T o = some false := by
      rcases hd with hd | hd
      · rw [(guard_some (T := T) hg1).1 _ hd]; cases w <;> rfl
      · exact (guard_some (T := T) hg1).2 hd
    simp only [List.all_cons, Bool.and_eq_true, bne_iff_ne, ne_eq] at hl
    obtain ⟨recs, tr, hro⟩ := skip_ok d w h l r (T.put d' (.tup [])) h2 (by
      have : (T.put d' (.tup [])) d = T d := by
        cases d' with
        | none => rfl
        | some t => simp only [Env.put]; rw [if_neg]; intro e; subst e; exact hl.1 rfl
      rw [this]; exact hd) hl.2
    rw [hd1] at tr
    refine ⟨_, ?_, hro.cons (r := ⟨[], [], false, h.length, h.length⟩) ⟨fun _ => ⟨rfl, rfl, rfl, rfl⟩, fun _ => rfl⟩⟩
    have := Tr.cons (.skip hgv) hd0 tr
    rw [skipAll, hd1]
    exact this

theorem wG_ok {fz : Fz} {quiet : Bool} {K : Env → View → Prop} {g : SG} {os : List Oper} {T : Env} {h : Heap} (hc : compOs P n all fz os = some g.flat) (hok : okG g = true) (hw : wG P quiet g T h.view K) :
    ∃ recs T' h', Tr P n all os T h recs T' h' ∧ (Stay h h' ∧ h.length ≤ h'.length) ∧ K T' h'.view ∧ RecsOk P quiet g.flat recs := by
  unfold wG at hw
  unfold SG.flat at hc ⊢
  unfold okG at hok
  split at hw
  · rename_i hg
    rw [hg] at hc ⊢
    exact wBs_ok none g.ops os T h hc (fun d w e => by simp at e) hw
  · rename_i d want hg
    rw [hg] at hc hok ⊢
    simp only at hok
    split at hw
    · rename_i b hb
      by_cases e : b = want
      · subst e
        have := hw.1 rfl
        rw [put_same hb] at this
        exact wBs_ok (some (d, b)) g.ops os T h hc (fun d' w e => by simp at e; obtain ⟨rfl, rfl⟩ := e; exact ⟨hb, hok⟩) this
      · have e' : b = !want := by cases b <;> cases want <;> simp_all
        have := hw.2 e'
        subst e'
        rw [put_same hb] at this
        obtain ⟨recs, tr, hro⟩ := skip_ok (quiet := quiet) d want h g.ops os T hc (.inl hb) hok
        exact ⟨recs, _, h, tr, ⟨.refl _, Nat.le_refl _⟩, this, hro⟩
    · rename_i hb
      obtain ⟨recs, tr, hro⟩ := skip_ok (quiet := quiet) d want h g.ops os T hc (.inr hb) hok
      exact ⟨recs, _, h, tr, ⟨.refl _, Nat.le_refl _⟩, hw, hro⟩
    · exact hw.elim

theorem wGs_ok {fz : Fz} {quiet : Bool} {K : Env → View → Prop} : ∀ (gs : List SG) (os : List Oper) (T : Env) (h : Heap), compOs P n all fz os = some (flatG gs) → gs.all okG = true → wGs P quiet gs T h.view K →
    ∃ recs T' h', Tr P n all os T h recs T' h' ∧ (Stay h h' ∧ h.length ≤ h'.length) ∧ K T' h'.view ∧ RecsOk P quiet (flatG gs) recs
  | [], os, T, h, hc, _, hw => by
    have := compOs_nil hc; subst this
    exact ⟨[], T, h, .nil, ⟨.refl _, Nat.le_refl _⟩, hw, .nil⟩
  | g :: gs, os, T, h, hc, hok, hw => by
    simp only [flatG, List.map_cons, List.flatten_cons] at hc ⊢
    simp only [List.all_cons, Bool.and_eq_true] at hok
    obtain ⟨a, b, rfl, h1, h2⟩ := compOs_append hc
    obtain ⟨r1, T1, h1', tr1, st1, hk1, ro1⟩ := wG_ok h1 hok.1 hw
    obtain ⟨r2, T2, h2', tr2, st2, hk2, ro2⟩ := wGs_ok gs b T1 h1' h2 hok.2 hk1
    exact ⟨_, T2, h2', tr1.append tr2, ⟨st1.1.trans st2.1 st1.2, Nat.le_trans st1.2 st2.2⟩, hk2, ro1.append ro2⟩

theorem Tr.at_ {os : List Oper} {T T' : Env} {h h' : Heap} {recs : List Rec} (tr : Tr P n all os T h recs T' h') : ∀ (i : Nat) (o : Oper), os[i]? = some o →
    ∃ T1 h1 v h2 rd wr call recs2, recs[i]? = some ⟨rd, wr, call, h1.length, h2.length⟩ ∧ OStep P n all o T1 h1 v h2 rd wr call ∧ h.length ≤ h1.length ∧ Tr P n all (os.drop (i + 1)) (T1.put o.dst v) h2 recs2 T' h' ∧ (∀ m, recs2[m]? = recs[i + 1 + m]?) ∧
      (∀ t, (∀ o' ∈ os.take i, o'.dst ≠ some t) → T1 t = T t) := by
  induction tr with
  | nil => intro i o hi; simp at hi
  | @cons o0 rest T T' h h1 h' v rd wr call recs st hd tr ih =>
    intro i o hi
    cases i with
    | zero =>
      simp at hi; subst hi
      exact ⟨T, h, v, h1, rd, wr, call, recs, rfl, st, Nat.le_refl _, by simpa using tr, fun m => by rw [show 0 + 1 + m = m + 1 by omega, List.getElem?_cons_succ], fun t _ => rfl⟩
    | succ i =>
      simp at hi
      obtain ⟨T1, h2, v2, h3, rd2, wr2, call2, recs2, e1, e2, e3, e4, e5, e6⟩ := ih i o hi
      have hlen : h.length ≤ h1.length := by
        cases st with
        | skip => exact Nat.le_refl _
        | op _ _ => rename_i eff _ _; cases eff <;> simp [Eff.apply]
        | frz _ _ _ => exact Nat.le_refl _
        | frzB _ _ _ _ _ _ => exact Nat.le_refl _
        | call _ _ _ _ ha _ _ => exact ha.1
      refine ⟨T1, h2, v2, h3, rd2, wr2, call2, recs2, by simpa using e1, e2, Nat.le_trans hlen e3, by simpa using e4, fun m => ?_, fun t ht => ?_⟩
      · rw [e5, show i + 1 + 1 + m = (i + 1 + m) + 1 by omega, List.getElem?_cons_succ]
      · simp only [List.take_succ_cons, List.mem_cons] at ht
        rw [e6 t fun o' ho' => ht o' (.inr ho')]
        have := ht o0 (.inl rfl)
        cases hdst : o0.dst with
        | none => rfl
        | some d => simp only [Env.put]; rw [if_neg]; rintro rfl; exact this hdst

theorem step_alloc {o : Oper} {T : Env} {h h' : Heap} {v : V} {rd wr : List Nat} {call : Bool} (st : OStep P n all o T h v h' rd wr call) (ha : isAllocO o = true) (hg : o.guard = none) : v = .ptr h.length 0 0 := by
  unfold isAllocO at ha
  have hgv : guardV n all T o = some true := by unfold guardV; rw [hg]
  cases st with
  | skip hs => rw [hgv] at hs; simp at hs
  | op _ hop =>
    split at ha
    · rename_i e ho
      simp only [aop, ho] at hop
      split at hop
      · unfold aBox at hop
        split at hop
        · simp at hop; exact hop.1.symm
        · simp at hop
      · simp at hop
    · simp at ha
  | frz _ ho _ => rw [ho] at ha; simp at ha
  | frzB _ ho _ _ _ _ => rw [ho] at ha; simp at ha
  | call _ ho _ _ _ _ _ => rw [ho] at ha; simp at ha

theorem step_store {o : Oper} {T : Env} {h h' : Heap} {v : V} {rd wr : List Nat} {call : Bool} {t id i j : Nat} (st : OStep P n all o T h v h' rd wr call) (ha : storeTmp o = some t) (ht : T t = .ptr id i j) : wr = [id] ∧ call = false := by
  unfold storeTmp at ha
  split at ha
  · rename_i ty t' x ho hg
    simp at ha; subst ha
    have hgv : guardV n all T o = some true := by unfold guardV; rw [hg]
    cases st with
    | skip hs => rw [hgv] at hs; simp at hs
    | op _ hop =>
      have e1 : ev T (.tmp t') = .ptr id i j := ht
      simp only [aop, ho, e1, aStore] at hop
      split at hop
      · split at hop
        · simp only [Option.some.injEq, Prod.mk.injEq] at hop
          obtain ⟨_, he, _⟩ := hop
          rw [← he]; exact ⟨rfl, rfl⟩
        · simp at hop
      · simp at hop
    | frz _ ho' _ => rw [ho] at ho'; simp at ho'
    | frzB _ ho' _ _ _ _ => rw [ho] at ho'; simp at ho'
    | call _ ho' _ _ _ _ _ => rw [ho] at ho'; simp at ho'
  · simp at ha

theorem step_load {o : Oper} {T : Env} {h h' : Heap} {v : V} {rd wr : List Nat} {call : Bool} (st : OStep P n all o T h v h' rd wr call) (ha : isLoadO o = true) : wr = [] ∧ call = false ∧ ∀ id, id ∈ rd → id < h.length := by
  unfold isLoadO at ha
  cases st with
  | skip _ => exact ⟨rfl, rfl, fun id hid => by simp at hid⟩
  | op _ hop =>
    split at ha
    · rename_i e a ho
      simp only [aop, ho, aLoad] at hop
      split at hop
      · rename_i id i j hx
        split at hop
        · rename_i z es hH
          split at hop
          · simp only [Option.map_eq_some_iff] at hop
            obtain ⟨_, _, hop⟩ := hop
            simp at hop
            obtain ⟨_, rfl, rfl⟩ := hop
            refine ⟨rfl, rfl, fun id' hid => ?_⟩
            simp at hid; subst hid
            exact view_ne (by rw [hH]; simp)
          · simp at hop
        · simp at hop
      · simp only [Option.map_eq_some_iff] at hop
        obtain ⟨_, _, hop⟩ := hop
        simp at hop
        obtain ⟨_, rfl, rfl⟩ := hop
        exact ⟨rfl, rfl, fun id hid => by simp at hid⟩
      · simp at hop
    · simp at ha
  | frz _ ho _ => rw [ho] at ha; simp at ha
  | frzB _ ho _ _ _ _ => rw [ho] at ha; simp at ha
  | call _ ho _ _ _ _ _ => rw [ho] at ha; simp at ha

theorem newPair_ok {T T' : Env} {h h' : Heap} {recs : List Rec} (tr : Tr P n all all T h recs T' h') {i k : Nat} {a b : Rec} (hp : newPair all i k = true) (ha : recs[i]? = some a) (hb : recs[k]? = some b) : NoConf a b := by
  unfold newPair at hp
  split at hp
  · rename_i oa ob hoa hob
    rw [Bool.and_eq_true] at hp
    obtain ⟨hl, hp⟩ := hp
    split at hp
    · rename_i t hst
      rw [List.any_eq_true] at hp
      obtain ⟨j, hj, hp⟩ := hp
      rw [List.mem_range] at hj
      rw [Bool.and_eq_true, decide_eq_true_eq] at hp
      obtain ⟨hij, hown⟩ := hp
      unfold ownB at hown
      split at hown
      · rename_i oj hoj
        simp only [Bool.and_eq_true, beq_iff_eq, List.all_eq_true, bne_iff_ne, ne_eq, Option.isNone_iff_eq_none] at hown
        obtain ⟨⟨⟨w1, w2⟩, w3⟩, w4⟩ := hown
        obtain ⟨T1, h1, v1, h2, rd1, wr1, c1, recs1, e1, e2, e3, e4, e5, _⟩ := tr.at_ i oa hoa
        obtain ⟨Tj, hj1, vj, hj2, rdj, wrj, cj, recsj, f1, f2, f3, f4, f5, _⟩ := e4.at_ (j - (i + 1)) oj (by rw [List.getElem?_drop, show i + 1 + (j - (i + 1)) = j by omega]; exact hoj)
        have hdr : (all.drop (i + 1)).drop (j - (i + 1) + 1) = all.drop (j + 1) := by rw [List.drop_drop]; congr 1; omega
        rw [hdr] at f4
        obtain ⟨Tk, hk1, vk, hk2, rdk, wrk, ck, recsk, g1, g2, g3, _, _, g6⟩ := f4.at_ (k - (j + 1)) ob (by rw [List.getElem?_drop, show j + 1 + (k - (j + 1)) = k by omega]; exact hob)
        rw [ha] at e1
        have hae := (Option.some.inj e1)
        have hbe : recs[k]? = some ⟨rdk, wrk, ck, hk1.length, hk2.length⟩ := by
          rw [← g1, f5, e5]; congr 1; omega
        rw [hb] at hbe
        have hbe := Option.some.inj hbe
        have hv := step_alloc f2 w3 w2
        have hTk : Tk t = .ptr hj1.length 0 0 := by
          rw [g6 t fun o' ho' => w4 o' ho', w1, hv]
          simp [Env.put]
        obtain ⟨s1, s2⟩ := step_store g2 hst hTk
        obtain ⟨l1, l2, l3⟩ := step_load e2 hl
        rw [hae, hbe]
        have hlen : h1.length ≤ h2.length := by
          cases e2 with
          | skip => exact Nat.le_refl _
          | op _ _ => rename_i eff _ _; cases eff <;> simp [Eff.apply]
          | frz _ _ _ => exact Nat.le_refl _
          | frzB _ _ _ _ _ _ => exact Nat.le_refl _
          | call _ _ _ _ ha _ _ => exact ha.1
        refine ⟨fun id hid => by simp [l1] at hid, fun id hid => ?_, fun hc => by simp [l2] at hc, fun _ => l1, fun id hid => ?_⟩
        · simp only [s1, List.mem_singleton] at hid
          subst hid
          intro hr
          have := l3 _ hr
          omega
        · simp only [s1, List.mem_singleton] at hid
          subst hid
          simp only
          omega
      · simp at hown
    · simp at hp
  · simp at hp

theorem confS_ok {ls : List Nat} {recs : List Rec} {T T' : Env} {hp hp' : Heap} (tr : Tr P n all all T hp recs T' hp') (h : confS all ls = true) (hl : ls.length = recs.length) (hr : ∀ (i x : Nat) (r : Rec), ls[i]? = some x → recs[i]? = some r → LoudOk x r.rd r.wr r.call r.lo r.hi) : Conf all recs := by
  intro i k a b hik ha hb ho
  have hi : i < recs.length := (List.getElem?_eq_some_iff.1 ha).1
  have hk : k < recs.length := (List.getElem?_eq_some_iff.1 hb).1
  unfold confS at h
  simp only [List.all_eq_true] at h
  have h1 := h (ls[i]'(by omega), i) (by rw [List.mem_zipIdx_iff_getElem?]; simp [List.getElem?_eq_getElem (show i < ls.length by omega)])
    (ls[k]'(by omega), k) (by rw [List.mem_zipIdx_iff_getElem?]; simp [List.getElem?_eq_getElem (show k < ls.length by omega)])
  have la := hr i _ a (List.getElem?_eq_getElem (by omega)) ha
  have lb := hr k _ b (List.getElem?_eq_getElem (by omega)) hb
  simp only [hik, decide_true, Bool.not_true, ho, Bool.false_or, Bool.or_eq_true, beq_iff_eq, Bool.and_eq_true, decide_eq_true_eq] at h1
  rcases h1 with ((h1 | h1) | h1) | h1
  · obtain ⟨e1, e2, e3, e4⟩ := la.1 h1
    exact ⟨fun id hid => by simp [e2] at hid, fun id _ => by simp [e1], fun hc => by simp [e3] at hc, fun _ => e2, fun id _ hx => by omega⟩
  · obtain ⟨e1, e2, e3, e4⟩ := lb.1 h1
    exact ⟨fun id _ => by simp [e1], fun id hid => by simp [e2] at hid, fun _ => e2, fun hc => by simp [e3] at hc, fun id hid => by simp [e2] at hid⟩
  · have e1 := la.2 h1.1
    have e2 := lb.2 h1.2
    exact ⟨fun id hid => by simp [e1] at hid, fun id hid => by simp [e2] at hid, fun _ => e2, fun _ => e1, fun id hid => by simp [e2] at hid⟩
  · exact newPair_ok tr h1 ha hb

theorem Tr.keep {os : List Oper} {T T' : Env} {h h' : Heap} {recs : List Rec} (tr : Tr P n all os T h recs T' h') {t : Nat} (ht : ∀ o ∈ os, o.dst ≠ some t) : T' t = T t := by
  induction tr with
  | nil => rfl
  | @cons o0 rest T T' h h1 h' v rd wr call recs st hd tr ih =>
    rw [ih fun o ho => ht o (by simp [ho])]
    have := ht o0 (by simp)
    cases hdst : o0.dst with
    | none => rfl
    | some d => simp only [Env.put]; rw [if_neg]; rintro rfl; exact this hdst

theorem step_len {o : Oper} {T : Env} {h h' : Heap} {v : V} {rd wr : List Nat} {call : Bool} {t : Nat} (st : OStep P n all o T h v h' rd wr call) (ha : loadTmp o = some t) : wr = [] ∧ call = false ∧ h'.length = h.length ∧ ∀ id, id ∈ rd → ∃ i j, T t = .ptr id i j := by
  unfold loadTmp at ha
  split at ha
  · rename_i e t' ho
    simp at ha; subst ha
    cases st with
    | skip _ => exact ⟨rfl, rfl, rfl, fun id hid => by simp at hid⟩
    | op _ hop =>
      simp only [aop, ho, aLoad] at hop
      split at hop
      · rename_i id i j hx
        split at hop
        · split at hop
          · simp only [Option.map_eq_some_iff] at hop
            obtain ⟨_, _, hop⟩ := hop
            simp at hop
            obtain ⟨_, rfl, rfl⟩ := hop
            refine ⟨rfl, rfl, rfl, fun id' hid => ?_⟩
            simp at hid; subst hid
            exact ⟨i, j, hx⟩
          · simp at hop
        · simp at hop
      · simp only [Option.map_eq_some_iff] at hop
        obtain ⟨_, _, hop⟩ := hop
        simp at hop
        obtain ⟨_, rfl, rfl⟩ := hop
        exact ⟨rfl, rfl, rfl, fun id hid => by simp at hid⟩
      · simp at hop
    | frz _ ho' _ => rw [ho] at ho'; simp at ho'
    | frzB _ ho' _ _ _ _ => rw [ho] at ho'; simp at ho'
    | call _ ho' _ _ _ _ _ => rw [ho] at ho'; simp at ho'
  · simp at ha

theorem stays_ok {i t : Nat} (h : stays all i t = true) : ∀ o ∈ all.drop i, o.dst ≠ some t := by
  intro o ho
  have := List.all_eq_true.1 h o ho
  simpa using this

theorem apAll_ok {aps : List (Nat × Nat)} {T : Env} {K : Prop} (hA : Aps aps T K) : ∀ p ∈ aps, ApV (T p.1) (T p.2) := by
  induction aps with
  | nil => intro p hp; simp at hp
  | cons q l ih =>
    intro p hp
    rcases List.mem_cons.1 hp with rfl | hp
    · exact hA.1
    · exact ih hA.2 p hp
theorem Aps.rest {aps : List (Nat × Nat)} {T : Env} {K : Prop} (hA : Aps aps T K) : K := by
  induction aps with
  | nil => exact hA
  | cons q l ih => exact ih hA.2

theorem at_end {T T' : Env} {h h' : Heap} {recs : List Rec} (tr : Tr P n all all T h recs T' h') {i t : Nat} {o : Oper} (ho : all[i]? = some o) (hs : stays all i t = true) {r : Rec} (hr : recs[i]? = some r) :
    ∃ T1 h1 v h2, OStep P n all o T1 h1 v h2 r.rd r.wr r.call ∧ r.lo = h1.length ∧ r.hi = h2.length ∧ T1 t = T' t := by
  obtain ⟨T1, h1, v, h2, rd, wr, call, recs2, e1, e2, e3, e4, e5, e6⟩ := tr.at_ i o ho
  rw [hr] at e1
  have e1 := Option.some.inj e1
  subst e1
  refine ⟨T1, h1, v, h2, e2, rfl, rfl, ?_⟩
  have hk := stays_ok hs
  have hi : i < all.length := (List.getElem?_eq_some_iff.1 ho).1
  have ho' : all[i] = o := (List.getElem?_eq_some_iff.1 ho).2
  rw [List.drop_eq_getElem_cons hi, ho'] at hk
  rw [e4.keep fun o' ho' => hk o' (by simp [ho'])]
  have := hk o (by simp)
  cases hdst : o.dst with
  | none => rfl
  | some d => simp only [Env.put]; rw [if_neg]; rintro rfl; exact this hdst

theorem apV_inv {i a b : Nat} {v : V} (h : ApV (.ptr i a b) v) : ∃ j c d, v = .ptr j c d ∧ i ≠ j := by
  cases v <;> first | exact ⟨_, _, _, rfl, h⟩ | exact h.elim

theorem apPair_ok {T T' : Env} {h h' : Heap} {recs : List Rec} (tr : Tr P n all all T h recs T' h') {i k : Nat} {a b : Rec} {p : Nat × Nat} (hp : apPair all i k = some p) (hA : ApV (T' p.1) (T' p.2)) (ha : recs[i]? = some a) (hb : recs[k]? = some b) : NoConf a b := by
  have store : ∀ {o : Oper} {T1 : Env} {h1 : Heap} {v : V} {h2 : Heap} {r : Rec} {t : Nat}, OStep P n all o T1 h1 v h2 r.rd r.wr r.call → storeTmp o = some t → (∀ e j, T1 t ≠ .fptr e j) → (∃ id i j, T1 t = .ptr id i j) → ∃ id i j, T1 t = .ptr id i j ∧ r.wr = [id] ∧ r.call = false := by
    intro o T1 h1 v h2 r t st hs _ hx
    obtain ⟨id, i, j, e⟩ := hx
    obtain ⟨s1, s2⟩ := step_store st hs e
    exact ⟨id, i, j, e, s1, s2⟩
  unfold apPair at hp
  split at hp
  · rename_i oa ob hoa hob
    split at hp
    · rename_i s t hl hs
      split at hp
      · rename_i hst
        simp only [Bool.and_eq_true] at hst
        simp at hp; subst hp
        obtain ⟨Ta, ha1, va, ha2, sa, la1, la2, ea⟩ := at_end tr hoa hst.1 ha
        obtain ⟨Tb, hb1, vb, hb2, sb, _, _, eb⟩ := at_end tr hob hst.2 hb
        obtain ⟨l1, l2, l3, l4⟩ := step_len sa hl
        have hA : ApV (Ta s) (Tb t) := by rw [ea, eb]; exact hA
        refine ⟨fun id hid => by simp [l1] at hid, fun id hid hr => ?_, fun hc => by simp [l2] at hc, fun _ => l1, fun id _ hx => by omega⟩
        obtain ⟨i', j', e1⟩ := l4 id hr
        rw [e1] at hA
        obtain ⟨j, c, d, hy, hne⟩ := apV_inv hA
        obtain ⟨s1, _⟩ := step_store sb hs hy
        rw [s1] at hid
        simp at hid
        exact hne hid
      · simp at hp
    · split at hp
      · rename_i t s hs hl
        split at hp
        · rename_i hst
          simp only [Bool.and_eq_true] at hst
          simp at hp; subst hp
          obtain ⟨Ta, ha1, va, ha2, sa, la1, la2, ea⟩ := at_end tr hoa hst.1 ha
          obtain ⟨Tb, hb1, vb, hb2, sb, lb1, lb2, eb⟩ := at_end tr hob hst.2 hb
          obtain ⟨l1, l2, l3, l4⟩ := step_len sb hl
          have hA : ApV (Tb s) (Ta t) := by rw [ea, eb]; exact hA
          refine ⟨fun id hid hr => ?_, fun id hid => by simp [l1] at hid, fun hc => l1, fun hc => by simp [l2] at hc, fun id hid => by simp [l1] at hid⟩
          obtain ⟨i', j', e1⟩ := l4 id hr
          rw [e1] at hA
          obtain ⟨j, c, d, hy, hne⟩ := apV_inv hA
          obtain ⟨s1, _⟩ := step_store sa hs hy
          rw [s1] at hid
          simp at hid
          exact hne hid
        · simp at hp
      · simp at hp
  · simp at hp

theorem apAll_mem {l : List (Nat × Nat)} {aps : List (Nat × Nat)} (h : apAll all l = some aps) : ∀ q ∈ l, ∃ p ∈ aps, apPair all q.1 q.2 = some p := by
  induction l generalizing aps with
  | nil => intro q hq; simp at hq
  | cons x r ih =>
    obtain ⟨i, k⟩ := x
    simp only [apAll] at h
    split at h
    · rename_i p l' h1 h2
      simp at h; subst h
      intro q hq
      rcases List.mem_cons.1 hq with rfl | hq
      · exact ⟨p, by simp, h1⟩
      · obtain ⟨p', hp', e⟩ := ih h2 q hq
        exact ⟨p', by simp [hp'], e⟩
    · simp at h

theorem confA_ok {ls : List Nat} {recs : List Rec} {T T' : Env} {hp hp' : Heap} {aps : List (Nat × Nat)} (tr : Tr P n all all T hp recs T' hp') (h : apAll all (badPairs all ls) = some aps) (hA : ∀ p ∈ aps, ApV (T' p.1) (T' p.2)) (hl : ls.length = recs.length)
    (hr : ∀ (i x : Nat) (r : Rec), ls[i]? = some x → recs[i]? = some r → LoudOk x r.rd r.wr r.call r.lo r.hi) : Conf all recs := by
  intro i k a b hik ha hb ho
  have hi : i < recs.length := (List.getElem?_eq_some_iff.1 ha).1
  have hk : k < recs.length := (List.getElem?_eq_some_iff.1 hb).1
  have la := hr i _ a (List.getElem?_eq_getElem (by omega)) ha
  have lb := hr k _ b (List.getElem?_eq_getElem (by omega)) hb
  have mi : (ls[i]'(by omega), i) ∈ ls.zipIdx := by rw [List.mem_zipIdx_iff_getElem?]; simp [List.getElem?_eq_getElem (show i < ls.length by omega)]
  have mk : (ls[k]'(by omega), k) ∈ ls.zipIdx := by rw [List.mem_zipIdx_iff_getElem?]; simp [List.getElem?_eq_getElem (show k < ls.length by omega)]
  by_cases h1 : pairOk all (ls[i]'(by omega)) i (ls[k]'(by omega)) k = true
  · unfold pairOk at h1
    simp only [hik, decide_true, Bool.not_true, ho, Bool.false_or, Bool.or_eq_true, beq_iff_eq, Bool.and_eq_true, decide_eq_true_eq] at h1
    rcases h1 with ((h1 | h1) | h1) | h1
    · obtain ⟨e1, e2, e3, e4⟩ := la.1 h1
      exact ⟨fun id hid => by simp [e2] at hid, fun id _ => by simp [e1], fun hc => by simp [e3] at hc, fun _ => e2, fun id _ hx => by omega⟩
    · obtain ⟨e1, e2, e3, e4⟩ := lb.1 h1
      exact ⟨fun id _ => by simp [e1], fun id hid => by simp [e2] at hid, fun _ => e2, fun hc => by simp [e3] at hc, fun id hid => by simp [e2] at hid⟩
    · have e1 := la.2 h1.1
      have e2 := lb.2 h1.2
      exact ⟨fun id hid => by simp [e1] at hid, fun id hid => by simp [e2] at hid, fun _ => e2, fun _ => e1, fun id hid => by simp [e2] at hid⟩
    · exact newPair_ok tr h1 ha hb
  · have hm : (i, k) ∈ badPairs all ls := by
      unfold badPairs
      rw [List.mem_flatMap]
      refine ⟨_, mi, ?_⟩
      rw [List.mem_filterMap]
      exact ⟨_, mk, by simp only; rw [if_neg h1]⟩
    obtain ⟨p, hp, e⟩ := apAll_mem h (i, k) hm
    exact apPair_ok tr e (hA p hp) ha hb

theorem compA_ok (hm : P.follows .mixedOrders = true) {fz : Fz} {id : Nat} {ops : Array Oper} {sc : SC} {T : Env} {h : Heap} {Q : Exit → Env → View → Prop} (hc : compA P n fz ops.toList = some sc) (hw : wS P sc T h.view Q) :
    ∃ e T' h', Exec P n (.region id ops true) T h e T' h' ∧ (Stay h h' ∧ h.length ≤ h'.length) ∧ Q e T' h'.view := by
  unfold compA at hc
  split at hc
  · simp at hc
  · rename_i l hl
    split at hc
    · simp at hc
    · rename_i hok
      have hok : (group l).all okG = true := by simpa using hok
      have hl' : compOs P n ops.toList fz ops.toList = some (flatG (group l)) := by rw [group_flat]; exact hl
      split at hc
      · rename_i ht
        simp only [Option.map_eq_some_iff] at hc
        obtain ⟨aps, hap, rfl⟩ := hc
        obtain ⟨recs, T', h', tr, hst, hk, hro⟩ := wGs_ok (group l) ops.toList T h hl' hok hw
        rw [group_flat] at hro
        refine ⟨.normal, T', h', ?_, hst, hk.rest⟩
        have hcf : Conf ops.toList recs := confA_ok tr hap (apAll_ok hk) (by simpa using hro.1) (fun i x r hx hr => by
          simp only [List.getElem?_map, Option.map_eq_some_iff] at hx
          obtain ⟨s, hs, rfl⟩ := hx
          exact hro.2 i s r hs hr)
        simpa using draw_exec hm (id := id) tr ht hcf
      · simp at hc

theorem compT_ok (hm : P.follows .mixedOrders = true) {fz : Fz} {id : Nat} {ops : Array Oper} {draw quiet : Bool} {sc : SC} {T : Env} {h : Heap} {Q : Exit → Env → View → Prop} (hc : compT P n fz ops.toList draw quiet = some sc) (hw : wS P sc T h.view Q) :
    ∃ e T' h', Exec P n (.region id ops draw) T h e T' h' ∧ (Stay h h' ∧ h.length ≤ h'.length) ∧ Q e T' h'.view := by
  unfold compT at hc
  split at hc
  · simp at hc
  · rename_i l hl
    split at hc
    · simp at hc
    · rename_i hok
      have hok : (group l).all okG = true := by simpa using hok
      have hl' : compOs P n ops.toList fz ops.toList = some (flatG (group l)) := by rw [group_flat]; exact hl
      have key : wGs P quiet (group l) T h.view (Q .normal) → (draw = true → tmpsOk ops.toList = true ∧ confS ops.toList (l.map fun s => loudB P quiet s.b) = true) →
          ∃ e T' h', Exec P n (.region id ops draw) T h e T' h' ∧ (Stay h h' ∧ h.length ≤ h'.length) ∧ Q e T' h'.view := by
        intro hw hdr
        obtain ⟨recs, T', h', tr, hst, hk, hro⟩ := wGs_ok (group l) ops.toList T h hl' hok hw
        rw [group_flat] at hro
        refine ⟨.normal, T', h', ?_, hst, hk⟩
        cases hd : draw with
        | false => simpa using seq_exec (id := id) tr
        | true =>
          obtain ⟨h1, h2⟩ := hdr hd
          have hcf : Conf ops.toList recs := confS_ok tr h2 (by simpa using hro.1) (fun i x r hx hr => by
            simp only [List.getElem?_map, Option.map_eq_some_iff] at hx
            obtain ⟨s, hs, rfl⟩ := hx
            exact hro.2 i s r hs hr)
          simpa using draw_exec hm (id := id) tr h1 hcf
      split at hc
      · rename_i hd
        split at hc
        · rename_i ht
          simp at hc; subst hc
          exact key hw (fun _ => by simpa using ht)
        · simp at hc
      · rename_i hd
        simp at hc; subst hc
        exact key hw (fun e => absurd e hd)

theorem orElse_inv {a b : Option SC} {sc : SC} (h : orElse' a b = some sc) : a = some sc ∨ b = some sc := by
  cases a with
  | none => exact .inr h
  | some x => exact .inl h

theorem region_ok (hm : P.follows .mixedOrders = true) {fz : List Nat} {id : Nat} {ops : Array Oper} {draw : Bool} {sc : SC} {T : Env} {h : Heap} {Q : Exit → Env → View → Prop} (hc : compR P n fz ops.toList draw = some sc) (hw : wS P sc T h.view Q) :
    ∃ e T' h', Exec P n (.region id ops draw) T h e T' h' ∧ (Stay h h' ∧ h.length ≤ h'.length) ∧ Q e T' h'.view := by
  unfold compR at hc
  rcases orElse_inv hc with h1 | h1
  · exact compT_ok hm h1 hw
  · clear hc
    split at h1
    · rename_i hd
      subst hd
      rcases orElse_inv h1 with h2 | h2
      · exact compA_ok hm h2 hw
      · rcases orElse_inv h2 with h3 | h3
        · exact compT_ok hm h3 hw
        · rcases orElse_inv h3 with h4 | h4
          · exact compT_ok hm h4 hw
          · exact compT_ok hm h4 hw
    · simp at h1

theorem ifN_split {e : Exit} {a b : Prop} (h : ifN e a b) : (e = .normal ∧ a) ∨ (e ≠ .normal ∧ b) := by
  cases e with
  | normal => exact .inl ⟨rfl, h⟩
  | _ => exact .inr ⟨by simp, h⟩

theorem wS_ok (hm : P.follows .mixedOrders = true) {fz : List Nat} : ∀ (c : Code) (sc : SC), compC P n fz c = some sc → ∀ (T : Env) (h : Heap) (Q : Exit → Env → View → Prop), wS P sc T h.view Q →
    ∃ e T' h', Exec P n c T h e T' h' ∧ (Stay h h' ∧ h.length ≤ h'.length) ∧ Q e T' h'.view := by
  intro c
  induction c with
  | skip => intro sc hc T h Q hw; simp [compC] at hc; subst hc; exact ⟨_, T, h, .skip, ⟨.refl _, Nat.le_refl _⟩, hw⟩
  | region id ops draw => intro sc hc T h Q hw; exact region_ok hm hc hw
  | seq x y ihx ihy =>
    intro sc hc T h Q hw
    simp only [compC] at hc
    split at hc
    · rename_i a b h1 h2
      simp at hc; subst hc
      simp only [wS] at hw
      obtain ⟨e, T1, h1', hx, st1, hq⟩ := ihx a h1 T h _ hw
      rcases ifN_split hq with ⟨rfl, hq⟩ | ⟨hne, hq⟩
      · obtain ⟨e2, T2, h2', hy, st2, hq2⟩ := ihy b h2 T1 h1' _ hq
        exact ⟨e2, T2, h2', hx.seq hy, ⟨st1.1.trans st2.1 st1.2, Nat.le_trans st1.2 st2.2⟩, hq2⟩
      · exact ⟨e, T1, h1', hx.seq_out hne, st1, hq⟩
    · simp at hc
  | cond c x y ihx ihy =>
    intro sc hc T h Q hw
    simp only [compC] at hc
    split at hc
    · rename_i a b h1 h2
      simp at hc; subst hc
      simp only [wS] at hw
      split at hw
      · rename_i t ht
        have hT : condT (SX.of c) t T = T := by
          unfold condT
          split
          · rename_i k hk
            rw [hk] at ht
            exact put_same ht
          · rfl
        rw [SX.of_at] at ht
        cases t with
        | true =>
          have := hw.1 rfl
          rw [hT] at this
          obtain ⟨e, T', h', hx, st, hq⟩ := ihx a h1 T h Q this
          exact ⟨e, T', h', .cond ht hx, st, hq⟩
        | false =>
          have := hw.2 rfl
          rw [hT] at this
          obtain ⟨e, T', h', hx, st, hq⟩ := ihy b h2 T h Q this
          exact ⟨e, T', h', .cond ht hx, st, hq⟩
      · exact hw.elim
    · simp at hc
  | block id c ih =>
    intro sc hc T h Q hw
    simp only [compC, Option.map_eq_some_iff] at hc
    obtain ⟨a, h1, rfl⟩ := hc
    simp only [wS] at hw
    obtain ⟨e, T', h', hx, st, hq⟩ := ih a h1 T h _ hw
    exact ⟨_, T', h', hx.block, st, hq⟩
  | loop c ih =>
    intro sc hc T h Q hw
    simp only [compC, Option.map_eq_some_iff] at hc
    obtain ⟨a, h1, rfl⟩ := hc
    simp only [wS] at hw
    obtain ⟨I, ⟨k, hk⟩, hstep⟩ := hw
    have go : ∀ k T (h : Heap), I k T h.view → ∃ e T' h', ExecL P n c T h e T' h' ∧ (Stay h h' ∧ h.length ≤ h'.length) ∧ Q e T' h'.view := by
      intro k
      induction k using Nat.strongRecOn with
      | ind k ihk =>
        intro T h hI
        obtain ⟨e, T1, h1', hx, st1, hq⟩ := ih a h1 T h _ (hstep k T h.view hI)
        rcases ifN_split hq with ⟨rfl, k', hlt, hI'⟩ | ⟨hne, hq⟩
        · obtain ⟨e2, T2, h2', hy, st2, hq2⟩ := ihk k' hlt T1 h1' hI'
          exact ⟨e2, T2, h2', .step hx hy, ⟨st1.1.trans st2.1 st1.2, Nat.le_trans st1.2 st2.2⟩, hq2⟩
        · exact ⟨e, T1, h1', .out hx hne, st1, hq⟩
    obtain ⟨e, T', h', hx, st, hq⟩ := go k T h hk
    exact ⟨e, T', h', .loop hx, st, hq⟩
  | exit id => intro sc hc T h Q hw; simp [compC] at hc; subst hc; exact ⟨_, T, h, .exit, ⟨.refl _, Nat.le_refl _⟩, hw⟩
  | ret => intro sc hc T h Q hw; simp [compC] at hc; subst hc; exact ⟨_, T, h, .ret, ⟨.refl _, Nat.le_refl _⟩, hw⟩
  | _ => intro sc hc; simp [compC] at hc

theorem wR_ok {T : Env} {h : Heap} {r : ResultVar} {l : List SR} {rest : List ResultVar} (hc : compRes P (r :: rest) = some l) : ∃ s l', l = s :: l' ∧ compRes P rest = some l' ∧ ∀ K : V → Prop, wR T h.view s K → ∃ v, resOne P T h r = some v ∧ K v := by
  cases r with
  | tmp t =>
    simp only [compRes, Option.map_eq_some_iff] at hc
    obtain ⟨l', h1, rfl⟩ := hc
    exact ⟨.tmp t, l', rfl, h1, fun K hk => ⟨_, rfl, hk⟩⟩
  | cell a t =>
    simp only [compRes] at hc
    split at hc
    · rename_i k l' h1 h2
      simp at hc; subst hc
      refine ⟨.cell a k, l', rfl, h2, fun K hk => ?_⟩
      simp only [wR] at hk
      simp only [resOne, aLoad, partK_ok h1]
      split at hk
      · rename_i id i j ha
        split at hk
        · rename_i es hH
          obtain ⟨hlt, hk⟩ := hk
          obtain ⟨v, hv, hk⟩ := wPart_ok hk
          exact ⟨v, by rw [ha]; simp only [hH]; rw [if_pos hlt, hv]; rfl, hk⟩
        · exact hk.elim
      · rename_i e j ha
        obtain ⟨v, hv, hk⟩ := wPart_ok hk
        exact ⟨v, by rw [ha]; simp only; rw [hv]; rfl, hk⟩
      · exact hk.elim
    · simp at hc

theorem wRs_ok {T : Env} {h : Heap} {K : List V → Prop} : ∀ (rs : List ResultVar) (l : List SR) (acc : List V), compRes P rs = some l → wRs T h.view l acc K → ∃ vs, resAll P T h rs = some vs ∧ K (acc ++ vs)
  | [], l, acc, hc, hw => by simp [compRes] at hc; subst hc; exact ⟨[], rfl, by simpa [wRs] using hw⟩
  | r :: rest, l, acc, hc, hw => by
    obtain ⟨s, l', rfl, h1, h2⟩ := wR_ok (T := T) (h := h) hc
    simp only [wRs] at hw
    obtain ⟨v, hv, hk⟩ := h2 _ hw
    obtain ⟨vs, hvs, hk⟩ := wRs_ok rest l' (acc ++ [v]) h1 hk
    exact ⟨v :: vs, by simp [resAll, hv, hvs], by simpa using hk⟩

/-- What is to be shown of a call. -/
def wF (P : Program) (F : SF) (vs : List V) (H : View) (K : V → View → Prop) : Prop :=
  vs.length ≤ F.n ∧ wS P F.code (argsEnv vs) H fun e T' H' => (e = .ret ∨ e = .normal) ∧ wRs T' H' F.res [] fun l => K (oneV l) H'

theorem MCall.of (hm : P.follows .mixedOrders = true) {f : FuncId} {fz : List Nat} {F : SF} (hF : compF P f fz = some F) {vs : List V} {H : View} {K : V → View → Prop} (hw : wF P F vs H K) : MCall P f vs H K := by
  unfold compF at hF
  split at hF
  · rename_i fn hfn
    split at hF
    · rename_i c hb
      split at hF
      · rename_i sc rs h1 h2 h3
        simp at hF; subst hF
        refine ⟨h3, ?_⟩
        rintro h rfl
        obtain ⟨e, T', h', hx, st, he, hr⟩ := wS_ok hm c sc h1 _ h _ hw.2
        obtain ⟨vs', hvs, hk⟩ := wRs_ok _ _ [] h2 hr
        refine ⟨oneV vs', h', ACall.of_exec hfn hb hw.1 hx he ?_, st.1, by simpa using hk⟩
        unfold resV
        rw [hvs]
        cases vs' with
        | nil => rfl
        | cons a l => cases l <;> rfl
      · simp at hF
    · simp at hF
  · simp at hF

theorem MCall.mono {f : FuncId} {vs : List V} {H : View} {K K' : V → View → Prop} (h : MCall P f vs H K) (hk : ∀ r H', K r H' → K' r H') : MCall P f vs H K' :=
  ⟨h.1, fun h0 e => let ⟨r, h', a, s, b⟩ := h.2 h0 e; ⟨r, h', a, s, hk _ _ b⟩⟩

/-- A call that leaves nothing but its answer, made in any memory. -/
theorem PCall.to_q {f : FuncId} {vs : List V} {H : View} {t : V} {K : V → View → Prop} (h : PCall P f vs t) (hok : calleeOk P f = true) (hk : K t H) : QCall P f vs H K :=
  ⟨hok, fun h0 e => ⟨t, h0, ACall.of_pure h h0, fun _ _ => rfl, e ▸ hk⟩⟩

/-- A call that leaves what lives as it was leaves all that was there as it was. -/
theorem MCall.to_q {f : FuncId} {vs : List V} {H : View} {K : V → View → Prop} (h : MCall P f vs H fun r H' => (∀ id, H id ≠ .dead → H' id = H id) ∧ K r H') : QCall P f vs H K :=
  ⟨h.1, fun h0 e => by
    obtain ⟨r, h', ha, st, hf, hk⟩ := h.2 h0 e
    refine ⟨r, h', ha, fun id hid => ?_, hk⟩
    by_cases hd : h0.view id = .dead
    · rw [hd]; exact st id hid hd
    · rw [← e] at hf; exact hf id hd⟩
end
end Gv

/-
  The rules by which it is shown that code runs to what is wanted, one for each kind of code and operation.
  Conditions: none beyond those that each lemma names.
-/
namespace Gv
open Go

inductive Veil {α : Type} (x : α) : Type where
  | mk

/-- The bytes of a text, as numbers. -/
def bts (s : ByteArray) : List Int := s.data.toList.map fun b => (b.toNat : Int)

theorem bts_len (s : ByteArray) : s.size = (bts s).length := by rw [bts, List.length_map, bsize]

/-- A loop that is still to be shown. -/
def LoopG (P : Program) (c : SC) (T : Env) (H : View) (Q : Exit → Env → View → Prop) (_ : Veil (T, H, Q)) : Prop := wS P (.loop c) T H Q

/-- A call that is still to be shown. -/
def CallG (P : Program) (quiet : Bool) (f : FuncId) (vs : List V) (H : View) (K : V → View → Prop) (_ : Veil (H, K)) : Prop :=
  if quiet then QCall P f vs H K else MCall P f vs H K

/-- What goes on with a value: with any; with one whose kind is known; with an object; with an answer; by a truth. -/
def Go0 {α : Type} (v : α) (F : α → Prop) (_ : Veil F) : Prop := F v
def Go1 (v : V) (F : V → Prop) (_ : Veil F) : Prop := F v
def GoA (o : AObj) (F : AObj → Prop) (_ : Veil F) : Prop := F o
def GoO {α : Type} (o : Option α) (F : Option α → Prop) (_ : Veil F) : Prop := F o
def GoB (b : Bool) (A B : Prop) (_ : Veil (A, B)) : Prop := (b = true → A) ∧ (b = false → B)

theorem go0 {α : Type} (v : α) (F : α → Prop) (w : Veil F) : Go0 v F w = F v := propext Iff.rfl
section
variable (F : V → Prop) (w : Veil F)
theorem go1_val (v : Value) : Go1 (.val v) F w = F (.val v) := propext Iff.rfl
theorem go1_emp (k : Nat) : Go1 (.emp k) F w = F (.emp k) := propext Iff.rfl
theorem go1_nem : Go1 .nem F w = F .nem := propext Iff.rfl
theorem go1_fro (es : List (List V)) : Go1 (.fro es) F w = F (.fro es) := propext Iff.rfl
theorem go1_sl (a b c d : Nat) : Go1 (.sl a b c d) F w = F (.sl a b c d) := propext Iff.rfl
theorem go1_ptr (a b c : Nat) : Go1 (.ptr a b c) F w = F (.ptr a b c) := propext Iff.rfl
theorem go1_fptr (e : List V) (j : Nat) : Go1 (.fptr e j) F w = F (.fptr e j) := propext Iff.rfl
theorem go1_mp (a : Nat) : Go1 (.mp a) F w = F (.mp a) := propext Iff.rfl
theorem go1_fn (f : FuncId) (a b : List V) : Go1 (.fn f a b) F w = F (.fn f a b) := propext Iff.rfl
theorem go1_agg (cs : List V) : Go1 (.agg cs) F w = F (.agg cs) := propext Iff.rfl
theorem go1_tup (cs : List V) : Go1 (.tup cs) F w = F (.tup cs) := propext Iff.rfl
end
theorem goA_arr (F : AObj → Prop) (w : Veil F) (k : Nat) (es : List (List V)) : GoA (.arr k es) F w = F (.arr k es) := propext Iff.rfl
theorem goA_map (F : AObj → Prop) (w : Veil F) (es : List (V × V × Nat)) (k : Nat) : GoA (.map es k) F w = F (.map es k) := propext Iff.rfl
theorem goO_some {α : Type} (F : Option α → Prop) (w : Veil F) (x : α) : GoO (some x) F w = F (some x) := propext Iff.rfl
theorem goB_true (A B : Prop) (w : Veil (A, B)) : GoB true A B w = A := by simp [GoB]
theorem goB_false (A B : Prop) (w : Veil (A, B)) : GoB false A B w = B := by simp [GoB]
theorem goB_not (b : Bool) (A B : Prop) (w : Veil (A, B)) : GoB (!b) A B w = GoB b B A .mk := by cases b <;> simp [GoB]
theorem GoB.split {b : Bool} {A B : Prop} {w : Veil (A, B)} (h1 : b = true → A) (h2 : b = false → B) : GoB b A B w := ⟨h1, h2⟩
theorem GoB.dec {p : Prop} [Decidable p] {A B : Prop} {w : Veil (A, B)} (h1 : p → A) (h2 : ¬ p → B) : GoB (decide p) A B w := ⟨fun h => h1 (by simpa using h), fun h => h2 (by simpa using h)⟩
theorem GoB.eq {a b : Int} {A B : Prop} {w : Veil (A, B)} (h1 : a = b → A) (h2 : ¬ a = b → B) : GoB (a == b) A B w := ⟨fun h => h1 (by simpa using h), fun h => h2 (by simpa using h)⟩
theorem GoB.ne {a b : Int} {A B : Prop} {w : Veil (A, B)} (h1 : ¬ a = b → A) (h2 : a = b → B) : GoB (a != b) A B w := ⟨fun h => h1 (by simpa using h), fun h => h2 (by simpa using h)⟩

section
variable (P : Program) (T : Env) (H : View)

theorem wF_eq (F : SF) (vs : List V) (K : V → View → Prop) : wF P F vs H K = (vs.length ≤ F.n ∧ wS P F.code (argsEnv vs) H fun e T' H' => (e = .ret ∨ e = .normal) ∧ wRs T' H' F.res [] fun l => Go0 (oneV l) (fun v => K v H') .mk) := propext Iff.rfl
theorem wS_skip (Q : Exit → Env → View → Prop) : wS P .skip T H Q = Q .normal T H := propext Iff.rfl
theorem wS_region (q : Bool) (gs : List SG) (Q : Exit → Env → View → Prop) : wS P (.region q gs) T H Q = wGs P q gs T H (Q .normal) := propext Iff.rfl
theorem wS_regionA (aps : List (Nat × Nat)) (gs : List SG) (Q : Exit → Env → View → Prop) : wS P (.regionA aps gs) T H Q = wGs P false gs T H (fun T' H' => Aps aps T' (Q .normal T' H')) := propext Iff.rfl
theorem aps_nil (K : Prop) : Aps [] T K = K := propext Iff.rfl
theorem aps_cons (a b : Nat) (l : List (Nat × Nat)) (K : Prop) : Aps ((a, b) :: l) T K = (ApV (T a) (T b) ∧ Aps l T K) := propext Iff.rfl
theorem apV_ptr (i j k i' j' k' : Nat) : ApV (.ptr i j k) (.ptr i' j' k') = (i ≠ i') := propext Iff.rfl
theorem apV_fptr (e : List V) (j : Nat) (v : V) : ApV (.fptr e j) v = True := by cases v <;> rfl
theorem wS_seq (x y : SC) (Q : Exit → Env → View → Prop) : wS P (.seq x y) T H Q = wS P x T H fun e T' H' => ifN e (wS P y T' H' Q) (Q e T' H') := propext Iff.rfl
theorem wS_cond (c : SX) (x y : SC) (Q : Exit → Env → View → Prop) : wS P (.cond c x y) T H Q = Go1 (c.at T) (fun v => match v with
    | .val (.bool b) => GoB b (wS P x (condT c true T) H Q) (wS P y (condT c false T) H Q) .mk
    | _ => False) .mk := propext Iff.rfl
theorem wS_block (id : Nat) (c : SC) (Q : Exit → Env → View → Prop) : wS P (.block id c) T H Q = wS P c T H fun e => Q (outOf id e) := propext Iff.rfl
theorem wS_exit (id : Nat) (Q : Exit → Env → View → Prop) : wS P (.exit id) T H Q = Q (.exit id) T H := propext Iff.rfl
theorem wS_ret (Q : Exit → Env → View → Prop) : wS P .ret T H Q = Q .ret T H := propext Iff.rfl
theorem wS_loop (c : SC) (Q : Exit → Env → View → Prop) : wS P (.loop c) T H Q = LoopG P c T H Q .mk := propext Iff.rfl
theorem wGs_nil (q : Bool) (K : Env → View → Prop) : wGs P q [] T H K = K T H := propext Iff.rfl
theorem wGs_cons (q : Bool) (g : SG) (r : List SG) (K : Env → View → Prop) : wGs P q (g :: r) T H K = wG P q g T H fun T' H' => wGs P q r T' H' K := propext Iff.rfl
theorem wG_none (q : Bool) (ops : List (Option Nat × SB)) (K : Env → View → Prop) : wG P q ⟨none, ops⟩ T H K = wBs P q ops T H K := propext Iff.rfl
theorem wG_true (q : Bool) (d : Nat) (ops : List (Option Nat × SB)) (K : Env → View → Prop) : wG P q ⟨some (d, true), ops⟩ T H K = Go1 (T d) (fun v => match v with
    | .val (.bool b) => GoB b (wBs P q ops (T.put (some d) (.val (.bool true))) H K) (K (skipAll ops (T.put (some d) (.val (.bool false)))) H) .mk
    | .tup [] => K (skipAll ops T) H
    | _ => False) .mk := propext Iff.rfl
theorem wG_false (q : Bool) (d : Nat) (ops : List (Option Nat × SB)) (K : Env → View → Prop) : wG P q ⟨some (d, false), ops⟩ T H K = Go1 (T d) (fun v => match v with
    | .val (.bool b) => GoB b (K (skipAll ops (T.put (some d) (.val (.bool true)))) H) (wBs P q ops (T.put (some d) (.val (.bool false))) H K) .mk
    | .tup [] => K (skipAll ops T) H
    | _ => False) .mk := by
  simp only [wG, Go1]
  generalize T d = v
  cases v with
  | val x => cases x <;> simp [GoB, and_comm]
  | tup l => cases l <;> simp
  | _ => simp
theorem skipAll_nil : skipAll [] T = T := id rfl
theorem skipAll_cons (d : Option Nat) (b : SB) (r : List (Option Nat × SB)) : skipAll ((d, b) :: r) T = skipAll r (T.put d (.tup [])) := id rfl
theorem wBs_nil (q : Bool) (K : Env → View → Prop) : wBs P q [] T H K = K T H := propext Iff.rfl
theorem wBs_cons (q : Bool) (d : Option Nat) (b : SB) (r : List (Option Nat × SB)) (K : Env → View → Prop) : wBs P q ((d, b) :: r) T H K = wB P q b T H fun v H' => Go0 v (fun v' => wBs P q r (T.put d v') H' K) .mk := propext Iff.rfl
theorem wB_op (q : Bool) (s : SI) (K : V → View → Prop) : wB P q (.op s) T H K = wI P s T H K := propext Iff.rfl
theorem wB_call (q : Bool) (f : SX) (args : List SX) (K : V → View → Prop) : wB P q (.call f args) T H K = Go1 (f.at T) (fun v => match v with
    | .fn g first cap => CallG P q g (first ++ args.map (SX.at T) ++ cap) H K .mk
    | _ => False) .mk := propext Iff.rfl
theorem wI_mov (x : SX) (K : V → View → Prop) : wI P (.mov x) T H K = K (x.at T) H := propext Iff.rfl
theorem wI_pick (c a b : SX) (K : V → View → Prop) : wI P (.pick c a b) T H K = Go1 (c.at T) (fun v => match v with
    | .val (.bool t) => GoB t (K (a.at T) H) (K (b.at T) H) .mk
    | _ => False) .mk := by
  simp only [wI, Go1]
  generalize c.at T = v
  cases v with
  | val x =>
    cases x with
    | bool t => cases t <;> simp [GoB]
    | _ => simp
  | _ => simp
theorem wI_box (x : SX) (K : V → View → Prop) : wI P (.box x) T H K = Go1 (x.at T) (fun v => v.cells.all cellOk = true ∧ Go0 v.cells (fun cs => ∀ n, H n = .dead → K (.ptr n 0 0) (H.set n (.arr cs.length [cs]))) .mk) .mk := propext Iff.rfl
theorem wI_frz (x : SX) (K : V → View → Prop) : wI P (.frz x) T H K = Go1 (x.at T) (fun v => v.cells.all cellOk = true ∧ Go0 v.cells (fun cs => K (.fptr cs 0) H) .mk) .mk := propext Iff.rfl
theorem wI_alloc (z : List V) (K : V → View → Prop) : wI P (.alloc z) T H K = (z.all cellOk = true ∧ ∀ n, H n = .dead → K (.ptr n 0 0) (H.set n (.arr z.length [z]))) := propext Iff.rfl
theorem wI_load (sz : Option Nat) (a : SX) (K : V → View → Prop) : wI P (.load sz a) T H K = Go1 (a.at T) (fun v => match v with
    | .ptr id i j => GoA (H id) (fun o => match o with
      | .arr _ es => i < es.length ∧ Go0 (es.getD i []) (fun e => wPart sz e j fun v => K v H) .mk
      | _ => False) .mk
    | .fptr e j => wPart sz e j fun v => K v H
    | _ => False) .mk := propext Iff.rfl
theorem wI_loadF (sz : Option Nat) (a : SX) (K : V → View → Prop) : wI P (.loadF sz a) T H K = Go1 (a.at T) (fun v => match v with
    | .fptr e j => wPart sz e j fun v => K v H
    | _ => False) .mk := propext Iff.rfl
theorem wI_store (sz : Nat) (a x : SX) (K : V → View → Prop) : wI P (.store sz a x) T H K = Go1 (a.at T) (fun v => match v with
    | .ptr id i j => GoA (H id) (fun o => match o with
      | .arr esz es => Go0 (x.at T).cells (fun cs => (i < es.length ∧ cs.length = sz ∧ j + cs.length ≤ esz ∧ cs.all cellOk = true) ∧
          Go0 (es.set i (splice (es.getD i []) j cs)) (fun es' => K .any (H.set id (.arr esz es'))) .mk) .mk
      | _ => False) .mk
    | _ => False) .mk := propext Iff.rfl
theorem wI_nilc (x : SX) (K : V → View → Prop) : wI P (.nilc x) T H K = Go1 (x.at T) (fun v => match v with
    | .ptr id i j => K (.ptr id i j) H
    | .fptr e j => K (.fptr e j) H
    | .fn f a b => K (.fn f a b) H
    | _ => False) .mk := propext Iff.rfl
theorem wI_addr (off : Nat) (x : SX) (K : V → View → Prop) : wI P (.addr off x) T H K = Go1 (x.at T) (fun v => match v with
    | .ptr id i j => K (.ptr id i (j + off)) H
    | .fptr e j => K (.fptr e (j + off)) H
    | _ => False) .mk := propext Iff.rfl
theorem wI_field (off : Nat) (sz : Option Nat) (x : SX) (K : V → View → Prop) : wI P (.field off sz x) T H K = Go1 (x.at T) (fun v => match v with
    | .agg cs => wPart sz cs off fun v => K v H
    | _ => False) .mk := propext Iff.rfl
theorem wI_idx (sz : Nat) (x i : SX) (K : V → View → Prop) : wI P (.idx sz x i) T H K = GoO (asNat (i.at T)) (fun o => match o with
    | none => False
    | some q => Go1 (x.at T) (fun v => match v with
      | .sl id off len esz => (q < len ∧ esz = sz) ∧ K (.ptr id (off + q) 0) H
      | .fro es => GoO es[q]? (fun o => match o with
        | some e => e.length = sz ∧ K (.fptr e 0) H
        | none => False) .mk
      | _ => False) .mk) .mk := by
  simp only [wI, GoO, Go1]
  cases asNat (i.at T) with
  | none => rfl
  | some q =>
    simp only
    cases x.at T with
    | fro es =>
      simp only
      cases h : es[q]? with
      | none => simp
      | some e => simp
    | _ => rfl
theorem wI_mkfn (f : FuncId) (first cap : List SX) (K : V → View → Prop) : wI P (.mkfn f first cap) T H K = K (.fn f (first.map (SX.at T)) (cap.map (SX.at T))) H := propext Iff.rfl
theorem wI_mkmap (K : V → View → Prop) : wI P .mkmap T H K = (∀ n, H n = .dead → K (.mp n) (H.set n (.map [] 0))) := propext Iff.rfl
theorem wI_ext (i : Nat) (x : SX) (K : V → View → Prop) : wI P (.ext i x) T H K = Go1 (x.at T) (fun v => match v with
    | .tup vs => i < vs.length ∧ K (vs.getD i .any) H
    | _ => False) .mk := propext Iff.rfl
theorem wI_len (x : SX) (K : V → View → Prop) : wI P (.len x) T H K = GoO (lenV (x.at T)) (fun o => match o with
    | some n => K (goI n) H
    | none => False) .mk := propext Iff.rfl
theorem wI_lenS (x : SX) (K : V → View → Prop) : wI P (.lenS x) T H K = Go1 (x.at T) (fun v => match v with
    | .val (.string s) => K (goI s.size) H
    | _ => False) .mk := propext Iff.rfl
theorem wI_arith (op : BinOp) (x y : SX) (K : V → View → Prop) : wI P (.arith op x y) T H K = Go1 (x.at T) (fun v => Go1 (y.at T) (fun v' => match v, v' with
    | .val (.int k a), .val (.int k' b) => k = k' ∧ GoO (intOp op k a b) (fun o => match o with | some v => K (.val v) H | none => False) .mk
    | _, _ => False) .mk) .mk := propext Iff.rfl
theorem wI_sh (l : Bool) (x y : SX) (K : V → View → Prop) : wI P (.sh l x y) T H K = Go1 (x.at T) (fun v => Go1 (y.at T) (fun v' => match v, v' with
    | .val (.int k a), .val (.int _ b) => 0 ≤ b ∧ K (.val (.int k (shOp l k a b))) H
    | _, _ => False) .mk) .mk := propext Iff.rfl
theorem wI_sop (op : BinOp) (x y : SX) (K : V → View → Prop) : wI P (.sop op x y) T H K = Go1 (x.at T) (fun v => Go1 (y.at T) (fun v' => match v, v' with
    | .val (.string a), .val (.string b) => (match op with
      | .eql => K (.val (.bool (strEq a b))) H
      | .neq => K (.val (.bool (!strEq a b))) H
      | _ => False)
    | _, _ => False) .mk) .mk := propext Iff.rfl
theorem wI_sidx (x i : SX) (K : V → View → Prop) : wI P (.sidx x i) T H K = Go1 (x.at T) (fun v => GoO (asNat (i.at T)) (fun o => match v, o with
    | .val (.string s), some q => GoO (bts s)[q]? (fun o => match o with
      | some c => K (.val (.int .u8 c)) H
      | none => False) .mk
    | _, _ => False) .mk) .mk := by
  simp only [wI, GoO, Go1]
  generalize x.at T = v
  generalize asNat (i.at T) = o
  cases v with
  | val u =>
    cases u with
    | string s =>
      cases o with
      | none => rfl
      | some q =>
        simp only [bts, List.getElem?_map]
        cases h : s.data.toList[q]? with
        | none => simp
        | some e => simp
    | _ => rfl
  | _ => rfl
theorem wI_not (x : SX) (K : V → View → Prop) : wI P (.not x) T H K = Go1 (x.at T) (fun v => match v with
    | .val (.bool t) => K (.val (.bool (!t))) H
    | _ => False) .mk := propext Iff.rfl
theorem wI_nil (eq : Bool) (k : Nat) (x y : SX) (K : V → View → Prop) : wI P (.nil eq k x y) T H K = GoO (nilB (isNil k (x.at T)) (isNil k (y.at T))) (fun o => match o with
    | some b => K (.val (.bool (if eq = true then b else !b))) H
    | none => False) .mk := propext Iff.rfl
theorem wI_beqT (x y : SX) (K : V → View → Prop) : wI P (.beq true x y) T H K = Go1 (x.at T) (fun v => Go1 (y.at T) (fun v' => match v, v' with
    | .val (.bool a), .val (.bool b) => K (.val (.bool (a == b))) H
    | _, _ => False) .mk) .mk := propext Iff.rfl
theorem wI_beqF (x y : SX) (K : V → View → Prop) : wI P (.beq false x y) T H K = Go1 (x.at T) (fun v => Go1 (y.at T) (fun v' => match v, v' with
    | .val (.bool a), .val (.bool b) => K (.val (.bool (a != b))) H
    | _, _ => False) .mk) .mk := propext Iff.rfl
theorem wI_max (x y : SX) (K : V → View → Prop) : wI P (.mm true x y) T H K = Go1 (x.at T) (fun v => Go1 (y.at T) (fun v' => match v, v' with
    | .val (.int k a), .val (.int _ b) => K (.val (.int k (if b > a then b else a))) H
    | _, _ => False) .mk) .mk := propext Iff.rfl
theorem wI_min (x y : SX) (K : V → View → Prop) : wI P (.mm false x y) T H K = Go1 (x.at T) (fun v => Go1 (y.at T) (fun v' => match v, v' with
    | .val (.int k a), .val (.int _ b) => K (.val (.int k (if b < a then b else a))) H
    | _, _ => False) .mk) .mk := propext Iff.rfl
theorem wI_conv (k : IntKind) (x : SX) (K : V → View → Prop) : wI P (.conv k x) T H K = Go1 (x.at T) (fun v => match v with
    | .val (.int _ a) => K (.val (.int k (k.wrap a))) H
    | _ => False) .mk := propext Iff.rfl
theorem vset_get (n k : Nat) (o : AObj) : View.set H n o k = if k = n then o else H k := id rfl
theorem wI_build (z : List V) (parts : List (Nat × Nat × SX)) (K : V → View → Prop) : wI P (.build z parts) T H K = GoO (sBuild z (parts.map fun p => (p.1, p.2.1, p.2.2.at T))) (fun o => match o with
    | some cs => K (.agg cs) H
    | none => False) .mk := propext Iff.rfl
theorem wI_bslice (len sz : Nat) (z : List V) (parts : List (Nat × SX)) (K : V → View → Prop) : wI P (.bslice len sz z parts) T H K = GoO (fillE sz (List.replicate len z) (parts.map fun p => (p.1, p.2.at T))) (fun o => match o with
    | some es => ∀ n, H n = .dead → K (.sl n 0 len sz) (H.set n (.arr sz es))
    | none => False) .mk := propext Iff.rfl
theorem wI_slice (sz : Nat) (x : SX) (lo hi : Option SX) (K : V → View → Prop) : wI P (.slice sz x lo hi) T H K = GoO (sSlice sz (x.at T) (lo.map (SX.at T)) (hi.map (SX.at T))) (fun o => match o with
    | some (v, .none, _) => K v H
    | _ => False) .mk := propext Iff.rfl
theorem wI_make (sz bytes : Nat) (z : List V) (l c : SX) (K : V → View → Prop) : wI P (.make sz bytes z l c) T H K = GoO (asNat (l.at T)) (fun a => GoO (asNat (c.at T)) (fun b => match a, b with
    | some l, some c => (l ≤ c ∧ c < limit ∧ bytes * c < limit) ∧ (c = 0 → K (.emp 2) H) ∧ (c ≠ 0 → ∀ n, H n = .dead → K (.sl n 0 l sz) (H.set n (.arr sz (List.replicate l z))))
    | _, _ => False) .mk) .mk := propext Iff.rfl
/-- What is appended, the elements known. -/
def GoApp (sz bytes : Nat) (x : V) (xs : List (List V)) (H : View) (K : V → View → Prop) (_ : Veil (H, K)) : Prop := if xs.isEmpty = true then (match x with
        | .emp k => K (.emp k) H
        | .nem => K .nem H
        | .fro es => K (.fro es) H
        | .sl a b c d => K (.sl a b c d) H
        | _ => False)
      else (xs.all fun e => e.length == sz && e.all cellOk) = true ∧ (match x with
        | .emp _ => (xs.length * bytes < limit ∧ xs.length < limit) ∧ ∀ n, H n = .dead → K (.sl n 0 xs.length sz) (H.set n (.arr sz xs))
        | .sl id off len esz => match H id with
          | .arr _ es => (off + len ≤ es.length ∧ esz = sz ∧ (len + xs.length) * bytes < limit ∧ len + xs.length < limit) ∧
              ∀ n, H n = .dead → K (.sl n 0 (len + xs.length) esz) ((H.set id .dead).set n (.arr esz ((es.drop off).take len ++ xs)))
          | _ => False
        | _ => False)
theorem wI_app (sz bytes : Nat) (x y : SX) (K : V → View → Prop) : wI P (.app sz bytes x y) T H K = GoO (elemsOf H (y.at T)) (fun o => match o with
    | some (xs, _) => GoApp sz bytes (x.at T) xs H K .mk
    | none => False) .mk := propext Iff.rfl
theorem goApp_emp (sz bytes k : Nat) (xs : List (List V)) (K : V → View → Prop) (w : Veil (H, K)) (h0 : xs.isEmpty = false) : GoApp sz bytes (.emp k) xs H K w = ((xs.all fun e => e.length == sz && e.all cellOk) = true ∧ (xs.length * bytes < limit ∧ xs.length < limit) ∧ ∀ n, H n = .dead → K (.sl n 0 xs.length sz) (H.set n (.arr sz xs))) := by
  unfold GoApp; rw [if_neg (by rw [h0]; simp)]
theorem goApp_sl (sz bytes id off len esz : Nat) (xs : List (List V)) (K : V → View → Prop) (w : Veil (H, K)) (h0 : xs.isEmpty = false) : GoApp sz bytes (.sl id off len esz) xs H K w = ((xs.all fun e => e.length == sz && e.all cellOk) = true ∧ GoA (H id) (fun o => match o with
          | .arr _ es => (off + len ≤ es.length ∧ esz = sz ∧ (len + xs.length) * bytes < limit ∧ len + xs.length < limit) ∧
              ∀ n, H n = .dead → K (.sl n 0 (len + xs.length) esz) ((H.set id .dead).set n (.arr esz ((es.drop off).take len ++ xs)))
          | _ => False) .mk) := by
  unfold GoApp GoA; rw [if_neg (by rw [h0]; simp)]
theorem elemsOf_sl (id off len esz z : Nat) (es : List (List V)) (hH : H id = .arr z es) (hl : off + (len + 1) ≤ es.length) : elemsOf H (.sl id off (len + 1) esz) = some ((es.drop off).take (len + 1), [id]) := by
  simp only [elemsOf, hH]; rw [if_pos hl]
theorem elemsOf_fro (es : List (List V)) : elemsOf H (.fro es) = some (es, []) := id rfl
theorem elemsOf_emp (k : Nat) : elemsOf H (.emp k) = some ([], []) := id rfl
theorem wI_strF (x : SX) (K : V → View → Prop) : wI P (.strF x) T H K = Go1 (x.at T) (fun v => match v with
    | .fro es => GoO (textOf es) (fun o => match o with
      | some l => K (.val (.string ⟨l.toArray⟩)) H
      | none => False) .mk
    | _ => False) .mk := propext Iff.rfl
theorem wI_frzB (x : SX) (K : V → View → Prop) : wI P (.frzB x) T H K = Go1 (x.at T) (fun v => match v with
    | .val (.string s) => K (.fro (bytesE s)) H
    | _ => False) .mk := propext Iff.rfl
/-- An operation of the elder kind. -/
def GoOld (P : Program) (op : Op) (ty : TypeId) (T : Env) (H : View) (K : V → View → Prop) (_ : Veil (T, H, K)) : Prop := wI P (.old op ty) T H K
theorem wI_old (op : Op) (ty : TypeId) (K : V → View → Prop) : wI P (.old op ty) T H K = GoOld P op ty T H K .mk := propext Iff.rfl
theorem ev_tmp (t : Nat) : ev T (.tmp t) = T t := id rfl
theorem ev_const (v : Value) : ev T (.const v) = ofVal v := id rfl
theorem at_tmp (t : Nat) : (SX.tmp t).at T = T t := id rfl
theorem at_val (v : V) : (SX.val v).at T = v := id rfl
theorem put_get (d t : Nat) (v : V) : (T.put (some d) v) t = if t = d then v else T t := id rfl
theorem put_none (v : V) : T.put none v = T := id rfl
theorem args_get (vs : List V) (t : Nat) : argsEnv vs t = vs.getD t .any := id rfl
theorem wPart_none (e : List V) (j : Nat) (K : V → Prop) : wPart none e j K = (j < e.length ∧ K (e.getD j .any)) := propext Iff.rfl
theorem wPart_some (n : Nat) (e : List V) (j : Nat) (K : V → Prop) : wPart (some n) e j K = (j + n ≤ e.length ∧ K (.agg ((e.drop j).take n))) := propext Iff.rfl
theorem ifN_normal (a b : Prop) : ifN .normal a b = a := propext Iff.rfl
theorem ifN_exit (i : Nat) (a b : Prop) : ifN (.exit i) a b = b := propext Iff.rfl
theorem ifN_ret (a b : Prop) : ifN .ret a b = b := propext Iff.rfl
theorem outOf_normal (i : Nat) : outOf i .normal = .normal := id rfl
theorem outOf_ret (i : Nat) : outOf i .ret = .ret := id rfl
theorem outOf_exit (i j : Nat) : outOf i (.exit j) = if j = i then .normal else .exit j := by simp only [outOf]
theorem wRs_nil (acc : List V) (K : List V → Prop) : wRs T H [] acc K = K acc := propext Iff.rfl
theorem wRs_cons (r : SR) (l : List SR) (acc : List V) (K : List V → Prop) : wRs T H (r :: l) acc K = wR T H r fun v => wRs T H l (acc ++ [v]) K := propext Iff.rfl
theorem wR_tmp (t : Nat) (K : V → Prop) : wR T H (.tmp t) K = K (T t) := propext Iff.rfl
theorem wR_cell (t : Nat) (sz : Option Nat) (K : V → Prop) : wR T H (.cell t sz) K = Go1 (T t) (fun v => match v with
    | .ptr id i j => GoA (H id) (fun o => match o with
      | .arr _ es => i < es.length ∧ Go0 (es.getD i []) (fun e => wPart sz e j K) .mk
      | _ => False) .mk
    | .fptr e j => wPart sz e j K
    | _ => False) .mk := propext Iff.rfl
theorem condT_tmp (t : Nat) (b : Bool) : condT (.tmp t) b T = T.put (some t) (.val (.bool b)) := id rfl
theorem condT_val (v : V) (b : Bool) : condT (.val v) b T = T := id rfl
theorem ret_or : (Exit.ret = Exit.ret ∨ Exit.ret = Exit.normal) = True := by simp
theorem normal_or : (Exit.normal = Exit.ret ∨ Exit.normal = Exit.normal) = True := by simp
end

section
variable {P : Program} {T : Env} {H : View}

/-- A loop, by what holds ahead of each round, and a number that falls. -/
theorem LoopG.intro {c : SC} {Q : Exit → Env → View → Prop} {v : Veil (T, H, Q)} (I : Nat → Env → View → Prop) (k : Nat) (h0 : I k T H)
    (hs : ∀ k T H, I k T H → wS P c T H fun e T' H' => ifN e (∃ k', k' < k ∧ I k' T' H') (Q e T' H')) : LoopG P c T H Q v := by
  simp only [LoopG, wS]
  exact ⟨I, ⟨k, h0⟩, hs⟩

theorem CallG.pure {q : Bool} {f : FuncId} {vs : List V} {K : V → View → Prop} {v : Veil (H, K)} {t : V} (hc : PCall P f vs t) (hok : calleeOk P f = true) (hk : K t H) : CallG P q f vs H K v := by
  unfold CallG
  cases q with
  | true => exact hc.to_q hok hk
  | false =>
    refine ⟨hok, ?_⟩
    rintro h rfl
    exact ⟨t, h, ACall.of_pure hc h, .refl _, hk⟩

theorem CallG.loud {f : FuncId} {vs : List V} {K : V → View → Prop} {v : Veil (H, K)} (hc : MCall P f vs H K) : CallG P false f vs H K v := hc

theorem dead_view : Heap.view [] = fun _ => AObj.dead := by funext id; simp [Heap.view]

/-- What is pure: what is handed over has no objects of its own; what comes back neither. -/
theorem PCall.of {f : FuncId} {vs : List V} {t : V} (ht : ∀ v ∈ vs, Tree v) (h : MCall P f vs (fun _ => .dead) fun r H' => ∀ h' : Heap, h'.view = H' → Fr h' r t) : PCall P f vs t := by
  obtain ⟨r, h', ha, _, hf⟩ := h.2 [] dead_view
  exact PCall.of_acall ht ha (hf h' rfl)

theorem wrap64 {x : Int} (h1 : -9223372036854775808 ≤ x) (h2 : x ≤ 9223372036854775807) : IntKind.wrap .i64 x = x := by
  unfold IntKind.wrap
  have e1 : (2 : Int) ^ IntKind.i64.bits = 18446744073709551616 := by rfl
  have e2 : (2 : Int) ^ (IntKind.i64.bits - 1) = 9223372036854775808 := by rfl
  have e3 : IntKind.i64.signed = true := by rfl
  simp only [e1, e2, e3, Bool.true_and, decide_eq_true_eq]
  split <;> omega

theorem asNat_int {k : IntKind} {i : Int} (h : 0 ≤ i) : asNat (.val (.int k i)) = some i.toNat := by simp [asNat, h]
end

theorem cells_val (v : Value) : V.cells (.val v) = [.val v] := id rfl
theorem cok_val (v : Value) : cellOk (.val v) = true := id rfl
theorem cells_emp (k : Nat) : V.cells (.emp k) = [.emp k] := id rfl
theorem cok_emp (k : Nat) : cellOk (.emp k) = true := id rfl
theorem cells_nem  : V.cells .nem = [.nem] := id rfl
theorem cok_nem  : cellOk .nem = true := id rfl
theorem cells_fro (es : List (List V)) : V.cells (.fro es) = [.fro es] := id rfl
theorem cok_fro (es : List (List V)) : cellOk (.fro es) = true := id rfl
theorem cells_sl (a b c d : Nat) : V.cells (.sl a b c d) = [.sl a b c d] := id rfl
theorem cok_sl (a b c d : Nat) : cellOk (.sl a b c d) = true := id rfl
theorem cells_ptr (a b c : Nat) : V.cells (.ptr a b c) = [.ptr a b c] := id rfl
theorem cok_ptr (a b c : Nat) : cellOk (.ptr a b c) = true := id rfl
theorem cells_fptr (e : List V) (j : Nat) : V.cells (.fptr e j) = [.fptr e j] := id rfl
theorem cok_fptr (e : List V) (j : Nat) : cellOk (.fptr e j) = true := id rfl
theorem cells_mp (a : Nat) : V.cells (.mp a) = [.mp a] := id rfl
theorem cok_mp (a : Nat) : cellOk (.mp a) = true := id rfl
theorem cells_fn (f : FuncId) (a b : List V) : V.cells (.fn f a b) = [.fn f a b] := id rfl
theorem cok_fn (f : FuncId) (a b : List V) : cellOk (.fn f a b) = true := id rfl
theorem cells_agg (cs : List V) : V.cells (.agg cs) = cs := id rfl
theorem len_emp (k : Nat) : lenV (.emp k) = some 0 := id rfl
theorem len_nem : lenV .nem = some 0 := id rfl
theorem len_fro (es : List (List V)) : lenV (.fro es) = some es.length := id rfl
theorem len_sl (a b c d : Nat) : lenV (.sl a b c d) = some c := id rfl

/-! the rules, tied together: 'wr' fire ahead of the parts, 'wq' behind them -/
abbrev OfP {p : Prop} (_ : p) : Prop := p
abbrev Wr : Prop := OfP (And.intro @wF_eq <| And.intro @wS_skip <| And.intro @wS_region <| And.intro @wS_regionA <| And.intro @aps_nil <| And.intro @aps_cons <| And.intro @wS_seq <| 
    And.intro @wS_cond <| And.intro @wS_block <| And.intro @wS_exit <| And.intro @wS_ret <| 
    And.intro @wS_loop <| And.intro @wGs_nil <| And.intro @wGs_cons <| And.intro @wG_none <| 
    And.intro @wG_true <| And.intro @wG_false <| And.intro @skipAll_nil <| And.intro @skipAll_cons <| 
    And.intro @wBs_nil <| And.intro @wBs_cons <| And.intro @wB_op <| And.intro @wB_call <| 
    And.intro @wI_mov <| And.intro @wI_pick <| And.intro @wI_box <| And.intro @wI_frz <| 
    And.intro @wI_alloc <| And.intro @wI_load <| And.intro @wI_loadF <| And.intro @wI_store <| 
    And.intro @wI_nilc <| And.intro @wI_addr <| And.intro @wI_field <| And.intro @wI_idx <| 
    And.intro @wI_mkfn <| And.intro @wI_mkmap <| And.intro @wI_ext <| And.intro @wI_len <| 
    And.intro @wI_lenS <| And.intro @wI_arith <| And.intro @wI_sh <| And.intro @wI_sop <| And.intro @wI_sidx <| 
    And.intro @wI_not <| And.intro @wI_nil <| And.intro @wI_beqT <| And.intro @wI_beqF <| 
    And.intro @wI_max <| And.intro @wI_min <| And.intro @wI_conv <| And.intro @wI_strF <| 
    And.intro @wI_frzB <| And.intro @wI_build <| And.intro @wI_bslice <| And.intro @wI_slice <| 
    And.intro @wI_make <| And.intro @wI_app <| And.intro @wI_old <| And.intro @ev_tmp <| And.intro @ev_const <| And.intro @at_tmp <| And.intro @at_val <| 
    And.intro @put_get <| And.intro @put_none <| And.intro @args_get <| And.intro @wPart_none <| 
    And.intro @wPart_some <| And.intro @ifN_normal <| And.intro @ifN_exit <| And.intro @ifN_ret <| 
    And.intro @outOf_normal <| And.intro @outOf_ret <| And.intro @outOf_exit <| And.intro @wRs_nil <| 
    And.intro @wRs_cons <| And.intro @wR_tmp <| And.intro @wR_cell <| And.intro @condT_tmp @condT_val)
theorem wr : Wr := (And.intro @wF_eq <| And.intro @wS_skip <| And.intro @wS_region <| And.intro @wS_regionA <| And.intro @aps_nil <| And.intro @aps_cons <| And.intro @wS_seq <| 
    And.intro @wS_cond <| And.intro @wS_block <| And.intro @wS_exit <| And.intro @wS_ret <| 
    And.intro @wS_loop <| And.intro @wGs_nil <| And.intro @wGs_cons <| And.intro @wG_none <| 
    And.intro @wG_true <| And.intro @wG_false <| And.intro @skipAll_nil <| And.intro @skipAll_cons <| 
    And.intro @wBs_nil <| And.intro @wBs_cons <| And.intro @wB_op <| And.intro @wB_call <| 
    And.intro @wI_mov <| And.intro @wI_pick <| And.intro @wI_box <| And.intro @wI_frz <| 
    And.intro @wI_alloc <| And.intro @wI_load <| And.intro @wI_loadF <| And.intro @wI_store <| 
    And.intro @wI_nilc <| And.intro @wI_addr <| And.intro @wI_field <| And.intro @wI_idx <| 
    And.intro @wI_mkfn <| And.intro @wI_mkmap <| And.intro @wI_ext <| And.intro @wI_len <| 
    And.intro @wI_lenS <| And.intro @wI_arith <| And.intro @wI_sh <| And.intro @wI_sop <| And.intro @wI_sidx <| 
    And.intro @wI_not <| And.intro @wI_nil <| And.intro @wI_beqT <| And.intro @wI_beqF <| 
    And.intro @wI_max <| And.intro @wI_min <| And.intro @wI_conv <| And.intro @wI_strF <| 
    And.intro @wI_frzB <| And.intro @wI_build <| And.intro @wI_bslice <| And.intro @wI_slice <| 
    And.intro @wI_make <| And.intro @wI_app <| And.intro @wI_old <| And.intro @ev_tmp <| And.intro @ev_const <| And.intro @at_tmp <| And.intro @at_val <| 
    And.intro @put_get <| And.intro @put_none <| And.intro @args_get <| And.intro @wPart_none <| 
    And.intro @wPart_some <| And.intro @ifN_normal <| And.intro @ifN_exit <| And.intro @ifN_ret <| 
    And.intro @outOf_normal <| And.intro @outOf_ret <| And.intro @outOf_exit <| And.intro @wRs_nil <| 
    And.intro @wRs_cons <| And.intro @wR_tmp <| And.intro @wR_cell <| And.intro @condT_tmp @condT_val)
abbrev Wq : Prop := OfP (And.intro @apV_ptr <| And.intro @apV_fptr <| And.intro @cells_val <| And.intro @cok_val <| And.intro @cells_emp <| And.intro @cok_emp <| And.intro @cells_nem <| And.intro @cok_nem <| And.intro @cells_fro <| And.intro @cok_fro <| And.intro @cells_sl <| And.intro @cok_sl <| And.intro @cells_ptr <| And.intro @cok_ptr <| And.intro @cells_fptr <| And.intro @cok_fptr <| And.intro @cells_mp <| And.intro @cok_mp <| And.intro @cells_fn <| And.intro @cok_fn <| And.intro @cells_agg <| And.intro @len_emp <| And.intro @len_nem <| And.intro @len_fro <| And.intro @len_sl <| And.intro @true_or <| And.intro @or_true <| And.intro @or_false <| And.intro @false_or <| 
    And.intro @go0 <| And.intro @go1_val <| And.intro @go1_emp <| And.intro @go1_nem <| 
    And.intro @go1_fro <| And.intro @go1_sl <| And.intro @go1_ptr <| And.intro @go1_fptr <| 
    And.intro @go1_mp <| And.intro @go1_fn <| And.intro @go1_agg <| And.intro @go1_tup <| 
    And.intro @goA_arr <| And.intro @goA_map <| And.intro @goO_some <| And.intro @goB_true <| 
    And.intro @goB_false <| And.intro @goB_not <| And.intro @List.getD_cons_zero.{0} <| And.intro @List.getD_cons_succ.{0} <| 
    And.intro @List.length_cons.{0} <| And.intro @List.length_nil.{0} <| And.intro @List.length_map.{0,0} <| And.intro @wrap64 <| 
    And.intro @true_and <| And.intro @and_true <| And.intro @and_self <| And.intro @decide_eq_true_eq <| 
    And.intro @decide_eq_false_iff_not <| And.intro @List.all_cons.{0} <| And.intro @List.all_nil.{0} <| And.intro @Bool.and_self <| 
    And.intro @List.nil_append.{0} <| And.intro @List.cons_append.{0} <| And.intro @Nat.zero_add <| And.intro @asNat_int <| 
    And.intro @Int.toNat_natCast <| And.intro @ret_or <| And.intro @normal_or <| And.intro @bne_iff_ne.{0} <| 
    And.intro @beq_iff_eq.{0} <| And.intro @Bool.not_eq_true <| And.intro @Bool.not_true <| And.intro @Bool.not_false <| 
    And.intro @List.append_nil.{0} <| And.intro @List.map_cons.{0,0} <| And.intro @List.map_nil.{0,0} <| And.intro @Bool.true_eq_false <| 
    And.intro @Bool.false_eq_true <| And.intro @false_implies <| And.intro @true_implies <| And.intro @Bool.not_not <| 
    And.intro @List.drop_zero.{0} <| And.intro @vset_get <| And.intro @List.set_cons_zero.{0} <| And.intro @List.set_cons_succ.{0} <| 
    And.intro @List.drop_nil.{0} <| And.intro @Nat.add_zero <| And.intro @List.replicate_zero.{0} <| And.intro @List.replicate_succ.{0} <| 
    And.intro @elemsOf_fro <| And.intro @elemsOf_emp <| And.intro @goApp_emp <| And.intro @goApp_sl <| 
    And.intro @List.isEmpty_cons.{0} <| And.intro @Option.map_none.{0,0} <| And.intro @Option.map_some.{0,0} <| And.intro @Nat.succ_ne_zero <| 
    And.intro @List.take_succ_cons.{0} <| And.intro @List.take_zero.{0} <| And.intro @List.drop_succ_cons.{0} <| And.intro @bne_eq_false_iff_eq.{0} <| 
    And.intro @beq_eq_false_iff_ne.{0} <| And.intro @not_true_eq_false <| And.intro @not_false_eq_true @Decidable.not_not)
theorem wq : Wq := (And.intro @apV_ptr <| And.intro @apV_fptr <| And.intro @cells_val <| And.intro @cok_val <| And.intro @cells_emp <| And.intro @cok_emp <| And.intro @cells_nem <| And.intro @cok_nem <| And.intro @cells_fro <| And.intro @cok_fro <| And.intro @cells_sl <| And.intro @cok_sl <| And.intro @cells_ptr <| And.intro @cok_ptr <| And.intro @cells_fptr <| And.intro @cok_fptr <| And.intro @cells_mp <| And.intro @cok_mp <| And.intro @cells_fn <| And.intro @cok_fn <| And.intro @cells_agg <| And.intro @len_emp <| And.intro @len_nem <| And.intro @len_fro <| And.intro @len_sl <| And.intro @true_or <| And.intro @or_true <| And.intro @or_false <| And.intro @false_or <| 
    And.intro @go0 <| And.intro @go1_val <| And.intro @go1_emp <| And.intro @go1_nem <| 
    And.intro @go1_fro <| And.intro @go1_sl <| And.intro @go1_ptr <| And.intro @go1_fptr <| 
    And.intro @go1_mp <| And.intro @go1_fn <| And.intro @go1_agg <| And.intro @go1_tup <| 
    And.intro @goA_arr <| And.intro @goA_map <| And.intro @goO_some <| And.intro @goB_true <| 
    And.intro @goB_false <| And.intro @goB_not <| And.intro @List.getD_cons_zero.{0} <| And.intro @List.getD_cons_succ.{0} <| 
    And.intro @List.length_cons.{0} <| And.intro @List.length_nil.{0} <| And.intro @List.length_map.{0,0} <| And.intro @wrap64 <| 
    And.intro @true_and <| And.intro @and_true <| And.intro @and_self <| And.intro @decide_eq_true_eq <| 
    And.intro @decide_eq_false_iff_not <| And.intro @List.all_cons.{0} <| And.intro @List.all_nil.{0} <| And.intro @Bool.and_self <| 
    And.intro @List.nil_append.{0} <| And.intro @List.cons_append.{0} <| And.intro @Nat.zero_add <| And.intro @asNat_int <| 
    And.intro @Int.toNat_natCast <| And.intro @ret_or <| And.intro @normal_or <| And.intro @bne_iff_ne.{0} <| 
    And.intro @beq_iff_eq.{0} <| And.intro @Bool.not_eq_true <| And.intro @Bool.not_true <| And.intro @Bool.not_false <| 
    And.intro @List.append_nil.{0} <| And.intro @List.map_cons.{0,0} <| And.intro @List.map_nil.{0,0} <| And.intro @Bool.true_eq_false <| 
    And.intro @Bool.false_eq_true <| And.intro @false_implies <| And.intro @true_implies <| And.intro @Bool.not_not <| 
    And.intro @List.drop_zero.{0} <| And.intro @vset_get <| And.intro @List.set_cons_zero.{0} <| And.intro @List.set_cons_succ.{0} <| 
    And.intro @List.drop_nil.{0} <| And.intro @Nat.add_zero <| And.intro @List.replicate_zero.{0} <| And.intro @List.replicate_succ.{0} <| 
    And.intro @elemsOf_fro <| And.intro @elemsOf_emp <| And.intro @goApp_emp <| And.intro @goApp_sl <| 
    And.intro @List.isEmpty_cons.{0} <| And.intro @Option.map_none.{0,0} <| And.intro @Option.map_some.{0,0} <| And.intro @Nat.succ_ne_zero <| 
    And.intro @List.take_succ_cons.{0} <| And.intro @List.take_zero.{0} <| And.intro @List.drop_succ_cons.{0} <| And.intro @bne_eq_false_iff_eq.{0} <| 
    And.intro @beq_eq_false_iff_ne.{0} <| And.intro @not_true_eq_false <| And.intro @not_false_eq_true @Decidable.not_not)
end Gv

/-
  A call that leaves nothing but its answer may be handed what the caller owns.
  Conditions: none beyond those that each lemma names.
-/
namespace Gv
open Go

/-- Values without memory. -/
inductive Bare : V → Prop
  | val (v : Value) : Bare (.val v)
  | tup (cs : List V) : (∀ i, i < cs.length → ∃ v, cs.getD i .any = .val v) → Bare (.tup cs)

theorem flat_rel {Z Z' : Nat → Prop} {μ μ' : Mu} {hp hp' : Array Obj} {t : V} {x : Value} (hf : Bare t) (h : VRel Z μ hp t x) : VRel Z' μ' hp' t x := by
  cases hf with
  | val => cases h with | val _ hv => exact .val _ hv
  | tup cs hc =>
    cases h with
    | tup _ aas h1 h2 =>
      refine .tup _ _ h1 fun i hi => ?_
      have := h2 i hi
      obtain ⟨v, hv⟩ := hc i hi
      rw [hv] at this ⊢
      generalize aas.getD i undef = y at this ⊢
      cases this with | val _ hv => exact .val _ hv

theorem ACall.borrow {P : Program} {f : FuncId} {ts vs : List V} {t : V} {h : Heap} (hc : PCall P f ts t) (hf : Bare t) (hl : ts.length = vs.length)
    (hfr : ∀ i, i < vs.length → Fr h (vs.getD i .any) (ts.getD i .any)) : ACall P f vs h t h := by
  refine ⟨Nat.le_refl _, fun Z μ F w xs hrel hr hfree => ?_⟩
  have hts : VRels (fun b => Z b ∨ hasMu μ b) μ w.heap ts xs := ⟨by rw [hl, hrel.1], fun i hi => fr_rel hr (hfr i (by omega)) (hrel.2 i (by omega))⟩
  have hzl : ∀ b, (Z b ∨ hasMu μ b) → b < w.heap.size := by
    rintro b (hb | ⟨id, o, s, hb⟩)
    · exact hr.zlt b hb
    · exact hr.lt _ _ _ _ hb
  refine (hc _ μ w xs hts hzl).mono ?_
  rintro e w' ⟨x, Z', rfl, hv, hs, hz, hz', ho⟩
  have hm : Mono Z Z μ μ w.heap w'.heap := ⟨fun _ h => h, fun b hb => ho b (hr.zlt b hb) (fun x => x), fun _ _ h => h, ho.shapes⟩
  exact ⟨x, Z, μ, rfl, flat_rel hf (hv μ), ⟨fun id => (hr.obj id).mono hm rfl (fun b o s hx => ho b (hr.lt _ _ _ _ hx) (fun x => x)), hr.inj, fun id b o s hx => Nat.lt_of_lt_of_le (hr.lt _ _ _ _ hx) hs.size, fun b hb => Nat.lt_of_lt_of_le (hr.zlt b hb) hs.size, hr.zmu⟩,
    ⟨hs, hm, fun b hb _ => ho b hb (fun x => x), fun b hb => .inl hb, fun _ _ _ _ h => .inl h⟩, fun _ _ => rfl⟩

/-- What a value is when nobody writes to the objects for a while. -/
def Lent (H : View) (v t : V) : Prop := ∀ h : Heap, h.view = H → Fr h v t

theorem Lent.tree {H : View} {v : V} (h : Tree v) : Lent H v v := fun _ _ => .tree _ h

theorem Lent.sl {H : View} {id off len esz z : Nat} {es : List (List V)} (hH : H id = .arr z es) (hle : off + len ≤ es.length) (ht : ∀ e ∈ es, ∀ v ∈ e, Tree v) :
    Lent H (.sl id off len esz) (.fro ((es.drop off).take len)) := by
  rintro h rfl
  have hg : ∀ i, i < len → ((es.drop off).take len).getD i [] = es.getD (off + i) [] := fun i hi => by
    simp [List.getD_eq_getElem?_getD, List.getElem?_take, hi]
  refine .sl id off len esz z es _ hH hle (by simp; omega) (fun i hi => by rw [hg i hi]) (fun i j hi hj => ?_)
  rw [hg i hi] at hj ⊢
  refine .tree _ ?_
  have h1 : off + i < es.length := by omega
  have e1 : es.getD (off + i) [] = es[off + i] := by simp [List.getD_eq_getElem?_getD, h1]
  rw [e1] at hj ⊢
  have e2 : (es[off + i]).getD j .any = (es[off + i])[j] := by simp [List.getD_eq_getElem?_getD, hj]
  rw [e2]
  exact ht _ (List.getElem_mem _) _ (List.getElem_mem _)

theorem CallG.borrow {P : Program} {q : Bool} {f : FuncId} {H : View} {vs ts : List V} {K : V → View → Prop} {v : Veil (H, K)} {t : V} (hc : PCall P f ts t) (hok : calleeOk P f = true) (hf : Bare t) (hl : ts.length = vs.length)
    (hfr : ∀ i, i < vs.length → Lent H (vs.getD i .any) (ts.getD i .any)) (hk : K t H) : CallG P q f vs H K v := by
  unfold CallG
  cases q with
  | true => exact ⟨hok, fun h e => ⟨t, h, ACall.borrow hc hf hl (fun i hi => hfr i hi h e), fun _ _ => rfl, e ▸ hk⟩⟩
  | false =>
    refine ⟨hok, ?_⟩
    rintro h rfl
    exact ⟨t, h, ACall.borrow hc hf hl (fun i hi => hfr i hi h rfl), .refl _, hk⟩

end Gv

/-
  Comparing lists: what these functions answer.
  Conditions: lists that are no longer than an int says.
-/
set_option linter.unusedSimpArgs false
set_option maxRecDepth 100000
namespace Gv
open Go Go.Proofs

abbrev gi (x : Int) : V := .val (.int .i64 x)
abbrev gb (x : Bool) : V := .val (.bool x)
abbrev gs (x : ByteArray) : V := .val (.string x)

theorem mixed : (Tryz.prog).follows .mixedOrders = true := by kernel_rfl

def encI (l : List Int) : V := .fro (l.map fun x => [gi x])
def encB (l : List Bool) : V := .fro (l.map fun x => [gb x])

theorem encI_tree (l : List Int) : Tree (encI l) := by
  refine .fro _ fun i j hi hj => ?_
  simp only [List.length_map] at hi
  simp [List.getD_eq_getElem?_getD, hi] at hj ⊢
  subst hj
  exact .val _

def Short {α : Type} (l : List α) : Prop := l.length < 4611686018427387904

def B_gerundref03_Ints_0 : SC :=
  .seq (.seq (.region false [⟨none, [((some 11), .op (.mov (.tmp 5))), ((some 12), .op (.mov (.tmp 0))), ((some 13), .op (.len (.tmp 12))), ((some 14), .op (.arith .lss (.tmp 11) (.tmp 13)))]⟩]) <|
  .cond (.tmp 14) (.skip) (.exit 0)) <|
  .seq (.block 1 (.seq (.region false [⟨none, [((some 17), .op (.mov (.tmp 0))), ((some 18), .op (.mov (.tmp 5))), ((some 19), .op (.idx 1 (.tmp 17) (.tmp 18))), ((some 20), .op (.load none (.tmp 19))), ((some 21), .op (.mov (.tmp 1))), ((some 22), .op (.mov (.tmp 5))), ((some 23), .op (.idx 1 (.tmp 21) (.tmp 22))), ((some 24), .op (.load none (.tmp 23))), ((some 25), .op (.arith .neq (.tmp 20) (.tmp 24)))]⟩]) <|
  .cond (.tmp 25) (.seq (.region false [⟨none, [((some 4), .op (.mov (.val (.val (.bool false)))))]⟩]) <|
  .ret) (.skip))) <|
  .region false [⟨none, [((some 15), .op (.mov (.tmp 5))), ((some 16), .op (.arith .add (.tmp 15) (.val (.val (.int .i64 1))))), ((some 5), .op (.mov (.tmp 16)))]⟩]
def S_gerundref03_Ints : SF := ⟨.seq (.region false [⟨none, [((some 4), .op (.mov (.val (.val (.bool false)))))]⟩]) <|
  .seq (.seq (.region false [⟨none, [((some 6), .op (.mov (.tmp 0))), ((some 7), .op (.len (.tmp 6))), ((some 8), .op (.mov (.tmp 1))), ((some 9), .op (.len (.tmp 8))), ((some 10), .op (.arith .neq (.tmp 7) (.tmp 9)))]⟩]) <|
  .cond (.tmp 10) (.seq (.region false [⟨none, [((some 4), .op (.mov (.val (.val (.bool false)))))]⟩]) <|
  .ret) (.skip)) <|
  .seq (.seq (.region false [⟨none, [((some 5), .op (.mov (.val (.val (.int .i64 0)))))]⟩]) <|
  .block 0 (.loop B_gerundref03_Ints_0)) <|
  .seq (.region false [⟨none, [((some 4), .op (.mov (.val (.val (.bool true)))))]⟩]) <|
  .ret,
  [.tmp 4], 26⟩
theorem S_gerundref03_Ints_ok : compF Tryz.prog 27 [] = some S_gerundref03_Ints := by kernel_rfl

theorem beq_off {α : Type} [BEq α] [LawfulBEq α] {a b : List α} (h : a.length ≠ b.length) : (a == b) = false := by
  simp only [beq_eq_false_iff_ne]; intro e; exact h (by rw [e])

theorem mc_Ints (a b : List Int) (ha : Short a) (H : View) : MCall Tryz.prog 27 [encI a, encI b] H fun r H' => r = gb (a == b) ∧ H' = H := by
  refine MCall.of mixed S_gerundref03_Ints_ok ?_
  unfold Short at ha
  simp (disch := omega) only [↓wr, ↓reduceIte, wq, eq_self, ne_eq, implies_true, oneV, intOp, goI, splice, sBuild, fillE, nilB, isNil, Nat.reduceEqDiff, Nat.reduceAdd, Nat.reduceLT, Nat.reduceLeDiff, Int.reduceNeg, Int.reduceToNat, reduceCtorEq, decide_true, decide_false, S_gerundref03_Ints, encI]
  refine GoB.ne (fun h => ?_) (fun h => ?_)
  · simp (disch := omega) only [↓wr, ↓reduceIte, wq, eq_self, ne_eq, implies_true, oneV, intOp, goI, splice, sBuild, fillE, nilB, isNil, Nat.reduceEqDiff, Nat.reduceAdd, Nat.reduceLT, Nat.reduceLeDiff, Int.reduceNeg, Int.reduceToNat, reduceCtorEq, decide_true, decide_false]
    rw [beq_off (by omega)]
  · simp (disch := omega) only [↓wr, ↓reduceIte, wq, eq_self, ne_eq, implies_true, oneV, intOp, goI, splice, sBuild, fillE, nilB, isNil, Nat.reduceEqDiff, Nat.reduceAdd, Nat.reduceLT, Nat.reduceLeDiff, Int.reduceNeg, Int.reduceToNat, reduceCtorEq, decide_true, decide_false]
    refine LoopG.intro (fun k T H' => ∃ i : Nat, i + k = a.length ∧ a.take i = b.take i ∧ T 0 = encI a ∧ T 1 = encI b ∧ T 5 = gi i ∧ H' = H) a.length ?_ ?_
    · exact ⟨0, by omega, by simp, rfl, rfl, rfl, rfl⟩
    · rintro k T H' ⟨i, hk, hi, h0, h1, h5, rfl⟩
      simp (disch := omega) only [↓wr, ↓reduceIte, wq, eq_self, ne_eq, implies_true, oneV, intOp, goI, splice, sBuild, fillE, nilB, isNil, Nat.reduceEqDiff, Nat.reduceAdd, Nat.reduceLT, Nat.reduceLeDiff, Int.reduceNeg, Int.reduceToNat, reduceCtorEq, decide_true, decide_false, B_gerundref03_Ints_0, h0, h1, h5, encI]
      refine GoB.dec (fun hc => ?_) (fun hc => ?_)
      · have h2 : a[i]? = some (a[i]'(by omega)) := List.getElem?_eq_getElem (by omega)
        have h3 : b[i]? = some (b[i]'(by omega)) := List.getElem?_eq_getElem (by omega)
        simp (disch := omega) only [↓wr, ↓reduceIte, wq, eq_self, ne_eq, implies_true, oneV, intOp, goI, splice, sBuild, fillE, nilB, isNil, Nat.reduceEqDiff, Nat.reduceAdd, Nat.reduceLT, Nat.reduceLeDiff, Int.reduceNeg, Int.reduceToNat, reduceCtorEq, decide_true, decide_false, h0, h1, h5, encI, List.getElem?_map, h2, h3, Option.map_some]
        refine GoB.ne (fun hd => ?_) (fun hd => ?_)
        · simp (disch := omega) only [↓wr, ↓reduceIte, wq, eq_self, ne_eq, implies_true, oneV, intOp, goI, splice, sBuild, fillE, nilB, isNil, Nat.reduceEqDiff, Nat.reduceAdd, Nat.reduceLT, Nat.reduceLeDiff, Int.reduceNeg, Int.reduceToNat, reduceCtorEq, decide_true, decide_false]
          have : (a == b) = false := by
            simp only [beq_eq_false_iff_ne]; rintro rfl; exact hd rfl
          rw [this]
        · simp (disch := omega) only [↓wr, ↓reduceIte, wq, eq_self, ne_eq, implies_true, oneV, intOp, goI, splice, sBuild, fillE, nilB, isNil, Nat.reduceEqDiff, Nat.reduceAdd, Nat.reduceLT, Nat.reduceLeDiff, Int.reduceNeg, Int.reduceToNat, reduceCtorEq, decide_true, decide_false, h0, h1, h5, encI]
          refine ⟨k - 1, by omega, i + 1, by omega, ?_, rfl⟩
          rw [List.take_add_one, List.take_add_one, hi, h2, h3, hd]
      · simp (disch := omega) only [↓wr, ↓reduceIte, wq, eq_self, ne_eq, implies_true, oneV, intOp, goI, splice, sBuild, fillE, nilB, isNil, Nat.reduceEqDiff, Nat.reduceAdd, Nat.reduceLT, Nat.reduceLeDiff, Int.reduceNeg, Int.reduceToNat, reduceCtorEq, decide_true, decide_false, h0, h1, h5, encI]
        have : a = b := by
          have e : i = a.length := by omega
          rw [List.take_of_length_le (by omega), List.take_of_length_le (by omega)] at hi
          exact hi
        rw [this]; simp

theorem pc_Ints (a b : List Int) (ha : Short a) : PCall Tryz.prog 27 [encI a, encI b] (gb (a == b)) :=
  PCall.of (by simp [encI_tree]) ((mc_Ints a b ha _).mono fun r H' h h' _ => by rw [h.1]; exact .tree _ (.val _))

theorem encB_tree (l : List Bool) : Tree (encB l) := by
  refine .fro _ fun i j hi hj => ?_
  simp only [List.length_map] at hi
  simp [List.getD_eq_getElem?_getD, hi] at hj ⊢
  subst hj
  exact .val _

end Gv
