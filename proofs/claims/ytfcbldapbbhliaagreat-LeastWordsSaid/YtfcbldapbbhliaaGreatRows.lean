/-
  No cell of these rows narrows 'for every input' (looked for: loops, veiled, ifaces, maps, wideKeys, modest, calm, conditions, laid).
  DERIVED. THE GIVEN ROWS OF THIS SEAT. 9 by the template 'for every input the law returns true; each argument reads behind the call as it read before'; 0 by the template 'total and deterministic' (their statements: YtfcbldapbbhliaaGreatTotals.lean).
  GIVEN WITH THE SEED: the statements are not yours to turn. If you find one false, say at which input.
  Laid BY PROGRAM, IN A SANDBOX (cutbox-rows.mjs): the forced cells as the released guide's own fill.sh prints them over the translation bdca07b2141c593d… (all of the seat's roots in one cut). By AI agents, Wed Nov 11 2026. No macro, syntax, notation, axiom, sorry.
-/
import Derived.Test.YtfcbldapbbhliaaGreatChecked
import GoSem.Claim
import GoSem.ClaimJoined
import GoSem.ClaimMapViews
import Derived.JoinedTies
import Derived.KernelRfl
namespace Go.Proofs.YtfcbldapbbhliaaGreat
/- THE CELL 'sum', in the pinned program and in every row, IS THE sha256 OF THE DUMP (.gsa) THAT YtfcbldapbbhliaaGreatProg.lean LOADS. Nothing in Lean hashes anything: it is a label: what it is worth is what the hold of that sum in a sandbox is worth. -/
noncomputable def Tryz.pinned : Pinned := { name := "ytfcbldapbbhliaagreat", sum := "bdca07b2141c593dd8f89bec2f5912eeb4af22a3c0bbab02544eaa4e67815e05", checked := Tryz.checked }
namespace Rows
def none {H : Type} : Left H := { results := [], args := [] }

/-- 'gerundlaw11.TrimTells': WHATEVER THE INPUT: true; the input reads as it did. -/
def trimTellsSpec : ChangeSpec := { name := "trimTells", fn := fun _ => fun
  | [d] => { results := [.lit (.bool true)], args := [d] }
  | _ => none }
def trimTellsRow : OpenClaim := { program := "ytfcbldapbbhliaagreat", sum := "bdca07b2141c593dd8f89bec2f5912eeb4af22a3c0bbab02544eaa4e67815e05", func := "gerund/gerundlaw11.TrimTells", spec := "trimTells", unfollowed := true, recurses := true, apart := false }
def TrimTellsSaid : Prop := trimTellsRow.holds Tryz.pinned (OpenSpec.ofChange trimTellsSpec)

/-- ITS FALSE NEIGHBOUR: 'it returns false'. Refute it at one input. -/
def trimTellsWrong : ChangeSpec := { name := "trimTells", fn := fun _ => fun
  | [d] => { results := [.lit (.bool false)], args := [d] }
  | _ => none }
def TrimTellsWrongFalsely : Prop := trimTellsRow.holds Tryz.pinned (OpenSpec.ofChange trimTellsWrong)

/-- 'gerundlaw11.TrimReduces': WHATEVER THE INPUT: true; the input reads as it did. -/
def trimReducesSpec : ChangeSpec := { name := "trimReduces", fn := fun _ => fun
  | [d] => { results := [.lit (.bool true)], args := [d] }
  | _ => none }
def trimReducesRow : OpenClaim := { program := "ytfcbldapbbhliaagreat", sum := "bdca07b2141c593dd8f89bec2f5912eeb4af22a3c0bbab02544eaa4e67815e05", func := "gerund/gerundlaw11.TrimReduces", spec := "trimReduces", unfollowed := true, recurses := true, apart := false }
def TrimReducesSaid : Prop := trimReducesRow.holds Tryz.pinned (OpenSpec.ofChange trimReducesSpec)

/-- ITS FALSE NEIGHBOUR: 'it returns false'. Refute it at one input. -/
def trimReducesWrong : ChangeSpec := { name := "trimReduces", fn := fun _ => fun
  | [d] => { results := [.lit (.bool false)], args := [d] }
  | _ => none }
def TrimReducesWrongFalsely : Prop := trimReducesRow.holds Tryz.pinned (OpenSpec.ofChange trimReducesWrong)

/-- 'gerundlaw11.TrimOnce': WHATEVER THE INPUT: true; the input reads as it did. -/
def trimOnceSpec : ChangeSpec := { name := "trimOnce", fn := fun _ => fun
  | [d] => { results := [.lit (.bool true)], args := [d] }
  | _ => none }
def trimOnceRow : OpenClaim := { program := "ytfcbldapbbhliaagreat", sum := "bdca07b2141c593dd8f89bec2f5912eeb4af22a3c0bbab02544eaa4e67815e05", func := "gerund/gerundlaw11.TrimOnce", spec := "trimOnce", unfollowed := true, recurses := true, apart := false }
def TrimOnceSaid : Prop := trimOnceRow.holds Tryz.pinned (OpenSpec.ofChange trimOnceSpec)

/-- ITS FALSE NEIGHBOUR: 'it returns false'. Refute it at one input. -/
def trimOnceWrong : ChangeSpec := { name := "trimOnce", fn := fun _ => fun
  | [d] => { results := [.lit (.bool false)], args := [d] }
  | _ => none }
def TrimOnceWrongFalsely : Prop := trimOnceRow.holds Tryz.pinned (OpenSpec.ofChange trimOnceWrong)

/-- 'gerundlaw11.TrimMore': WHATEVER THE INPUT: true; the input reads as it did. -/
def trimMoreSpec : ChangeSpec := { name := "trimMore", fn := fun _ => fun
  | [d1, d2, d3] => { results := [.lit (.bool true)], args := [d1, d2, d3] }
  | _ => none }
def trimMoreRow : OpenClaim := { program := "ytfcbldapbbhliaagreat", sum := "bdca07b2141c593dd8f89bec2f5912eeb4af22a3c0bbab02544eaa4e67815e05", func := "gerund/gerundlaw11.TrimMore", spec := "trimMore", unfollowed := true, recurses := true, apart := false }
def TrimMoreSaid : Prop := trimMoreRow.holds Tryz.pinned (OpenSpec.ofChange trimMoreSpec)

/-- ITS FALSE NEIGHBOUR: 'it returns false'. Refute it at one input. -/
def trimMoreWrong : ChangeSpec := { name := "trimMore", fn := fun _ => fun
  | [d1, d2, d3] => { results := [.lit (.bool false)], args := [d1, d2, d3] }
  | _ => none }
def TrimMoreWrongFalsely : Prop := trimMoreRow.holds Tryz.pinned (OpenSpec.ofChange trimMoreWrong)

/-- 'gerundlaw14.LeastTells': WHATEVER THE INPUT: true; the input reads as it did. -/
def leastTellsSpec : ChangeSpec := { name := "leastTells", fn := fun _ => fun
  | [d] => { results := [.lit (.bool true)], args := [d] }
  | _ => none }
def leastTellsRow : OpenClaim := { program := "ytfcbldapbbhliaagreat", sum := "bdca07b2141c593dd8f89bec2f5912eeb4af22a3c0bbab02544eaa4e67815e05", func := "gerund/gerundlaw14.LeastTells", spec := "leastTells", unfollowed := true, recurses := true, apart := false }
def LeastTellsSaid : Prop := leastTellsRow.holds Tryz.pinned (OpenSpec.ofChange leastTellsSpec)

/-- ITS FALSE NEIGHBOUR: 'it returns false'. Refute it at one input. -/
def leastTellsWrong : ChangeSpec := { name := "leastTells", fn := fun _ => fun
  | [d] => { results := [.lit (.bool false)], args := [d] }
  | _ => none }
def LeastTellsWrongFalsely : Prop := leastTellsRow.holds Tryz.pinned (OpenSpec.ofChange leastTellsWrong)

/-- 'gerundlaw14.LeastTrees': WHATEVER THE INPUT: true; the input reads as it did. -/
def leastTreesSpec : ChangeSpec := { name := "leastTrees", fn := fun _ => fun
  | [d1, d2] => { results := [.lit (.bool true)], args := [d1, d2] }
  | _ => none }
def leastTreesRow : OpenClaim := { program := "ytfcbldapbbhliaagreat", sum := "bdca07b2141c593dd8f89bec2f5912eeb4af22a3c0bbab02544eaa4e67815e05", func := "gerund/gerundlaw14.LeastTrees", spec := "leastTrees", unfollowed := true, recurses := true, apart := false }
def LeastTreesSaid : Prop := leastTreesRow.holds Tryz.pinned (OpenSpec.ofChange leastTreesSpec)

/-- ITS FALSE NEIGHBOUR: 'it returns false'. Refute it at one input. -/
def leastTreesWrong : ChangeSpec := { name := "leastTrees", fn := fun _ => fun
  | [d1, d2] => { results := [.lit (.bool false)], args := [d1, d2] }
  | _ => none }
def LeastTreesWrongFalsely : Prop := leastTreesRow.holds Tryz.pinned (OpenSpec.ofChange leastTreesWrong)

/-- 'gerundlaw14.LeastWords': WHATEVER THE INPUT: true; the input reads as it did. -/
def leastWordsSpec : ChangeSpec := { name := "leastWords", fn := fun _ => fun
  | [d1, d2] => { results := [.lit (.bool true)], args := [d1, d2] }
  | _ => none }
def leastWordsRow : OpenClaim := { program := "ytfcbldapbbhliaagreat", sum := "bdca07b2141c593dd8f89bec2f5912eeb4af22a3c0bbab02544eaa4e67815e05", func := "gerund/gerundlaw14.LeastWords", spec := "leastWords", unfollowed := true, recurses := true, apart := false }
def LeastWordsSaid : Prop := leastWordsRow.holds Tryz.pinned (OpenSpec.ofChange leastWordsSpec)

/-- ITS FALSE NEIGHBOUR: 'it returns false'. Refute it at one input. -/
def leastWordsWrong : ChangeSpec := { name := "leastWords", fn := fun _ => fun
  | [d1, d2] => { results := [.lit (.bool false)], args := [d1, d2] }
  | _ => none }
def LeastWordsWrongFalsely : Prop := leastWordsRow.holds Tryz.pinned (OpenSpec.ofChange leastWordsWrong)

/-- 'gerundlaw14.LeastLow': WHATEVER THE INPUT: true; the input reads as it did. -/
def leastLowSpec : ChangeSpec := { name := "leastLow", fn := fun _ => fun
  | [d] => { results := [.lit (.bool true)], args := [d] }
  | _ => none }
def leastLowRow : OpenClaim := { program := "ytfcbldapbbhliaagreat", sum := "bdca07b2141c593dd8f89bec2f5912eeb4af22a3c0bbab02544eaa4e67815e05", func := "gerund/gerundlaw14.LeastLow", spec := "leastLow", unfollowed := true, recurses := true, apart := false }
def LeastLowSaid : Prop := leastLowRow.holds Tryz.pinned (OpenSpec.ofChange leastLowSpec)

/-- ITS FALSE NEIGHBOUR: 'it returns false'. Refute it at one input. -/
def leastLowWrong : ChangeSpec := { name := "leastLow", fn := fun _ => fun
  | [d] => { results := [.lit (.bool false)], args := [d] }
  | _ => none }
def LeastLowWrongFalsely : Prop := leastLowRow.holds Tryz.pinned (OpenSpec.ofChange leastLowWrong)

/-- 'gerundlaw14.LeastParts': WHATEVER THE INPUT: true; the input reads as it did. -/
def leastPartsSpec : ChangeSpec := { name := "leastParts", fn := fun _ => fun
  | [d1, d2, d3] => { results := [.lit (.bool true)], args := [d1, d2, d3] }
  | _ => none }
def leastPartsRow : OpenClaim := { program := "ytfcbldapbbhliaagreat", sum := "bdca07b2141c593dd8f89bec2f5912eeb4af22a3c0bbab02544eaa4e67815e05", func := "gerund/gerundlaw14.LeastParts", spec := "leastParts", unfollowed := true, recurses := true, apart := false }
def LeastPartsSaid : Prop := leastPartsRow.holds Tryz.pinned (OpenSpec.ofChange leastPartsSpec)

/-- ITS FALSE NEIGHBOUR: 'it returns false'. Refute it at one input. -/
def leastPartsWrong : ChangeSpec := { name := "leastParts", fn := fun _ => fun
  | [d1, d2, d3] => { results := [.lit (.bool false)], args := [d1, d2, d3] }
  | _ => none }
def LeastPartsWrongFalsely : Prop := leastPartsRow.holds Tryz.pinned (OpenSpec.ofChange leastPartsWrong)

/- THE SECOND FORM. 'bulk': how many values and letters a reading holds, each counted each time it is reached (what is shared counts as often as it is met; a slice's spare places count too). A statement '..UptoSaid' is the law's where the arguments, and the package variables that the reading takes, are together of bulk at most 1048576: NARROWER than '..Said'. Prove '..Said' where nothing that the law and all that it calls make is longer than what came in: it says more and counts as full. Else prove '..UptoSaid'. A law counts once. -/
mutual
def uptoBulk {H : Type} : DataW H → Nat
  | .lit (.string bytes) => bytes.length + 1
  | .lit _ => 1
  | .nil => 1
  | .ptr d => uptoBulk d + 1
  | .slice elems spare => uptoBulkAll elems + uptoBulkAll spare + 1
  | .agg parts => uptoBulkAll parts + 1
  | .iface _ d => uptoBulk d + 1
  | .map entries => uptoBulkEntries entries + 1
  | .held _ => 1
def uptoBulkAll {H : Type} : List (DataW H) → Nat
  | [] => 0
  | d :: r => uptoBulk d + uptoBulkAll r
def uptoBulkEntries {H : Type} : List (Lit × DataW H) → Nat
  | [] => 0
  | x :: r => uptoBulkEntry x + uptoBulkEntries r
def uptoBulkEntry {H : Type} : Lit × DataW H → Nat
  | (.string bytes, d) => bytes.length + uptoBulk d + 1
  | (_, d) => uptoBulk d + 1
 end
def uptoSmall : (H : Type) → List (DataW H) → Bool := fun _ ds => decide (uptoBulkAll ds ≤ 1048576)
def OpenSpec.upto (s : _root_.Go.ChangeSpec) : _root_.Go.OpenSpec := { _root_.Go.OpenSpec.ofChange s with cond := some uptoSmall }

/-- 'gerundlaw11.TrimTells', WHERE WHAT IT READS IS OF BULK AT MOST 1048576: true; the input reads as it did. -/
def trimTellsUptoRow : OpenClaim := { program := "ytfcbldapbbhliaagreat", sum := "bdca07b2141c593dd8f89bec2f5912eeb4af22a3c0bbab02544eaa4e67815e05", func := "gerund/gerundlaw11.TrimTells", spec := "trimTells", unfollowed := true, recurses := true, apart := false, narrowed := true }
def TrimTellsUptoSaid : Prop := trimTellsUptoRow.holds Tryz.pinned (OpenSpec.upto trimTellsSpec)

/-- 'gerundlaw11.TrimReduces', WHERE WHAT IT READS IS OF BULK AT MOST 1048576: true; the input reads as it did. -/
def trimReducesUptoRow : OpenClaim := { program := "ytfcbldapbbhliaagreat", sum := "bdca07b2141c593dd8f89bec2f5912eeb4af22a3c0bbab02544eaa4e67815e05", func := "gerund/gerundlaw11.TrimReduces", spec := "trimReduces", unfollowed := true, recurses := true, apart := false, narrowed := true }
def TrimReducesUptoSaid : Prop := trimReducesUptoRow.holds Tryz.pinned (OpenSpec.upto trimReducesSpec)

/-- 'gerundlaw11.TrimOnce', WHERE WHAT IT READS IS OF BULK AT MOST 1048576: true; the input reads as it did. -/
def trimOnceUptoRow : OpenClaim := { program := "ytfcbldapbbhliaagreat", sum := "bdca07b2141c593dd8f89bec2f5912eeb4af22a3c0bbab02544eaa4e67815e05", func := "gerund/gerundlaw11.TrimOnce", spec := "trimOnce", unfollowed := true, recurses := true, apart := false, narrowed := true }
def TrimOnceUptoSaid : Prop := trimOnceUptoRow.holds Tryz.pinned (OpenSpec.upto trimOnceSpec)

/-- 'gerundlaw11.TrimMore', WHERE WHAT IT READS IS OF BULK AT MOST 1048576: true; the input reads as it did. -/
def trimMoreUptoRow : OpenClaim := { program := "ytfcbldapbbhliaagreat", sum := "bdca07b2141c593dd8f89bec2f5912eeb4af22a3c0bbab02544eaa4e67815e05", func := "gerund/gerundlaw11.TrimMore", spec := "trimMore", unfollowed := true, recurses := true, apart := false, narrowed := true }
def TrimMoreUptoSaid : Prop := trimMoreUptoRow.holds Tryz.pinned (OpenSpec.upto trimMoreSpec)

/-- 'gerundlaw14.LeastTells', WHERE WHAT IT READS IS OF BULK AT MOST 1048576: true; the input reads as it did. -/
def leastTellsUptoRow : OpenClaim := { program := "ytfcbldapbbhliaagreat", sum := "bdca07b2141c593dd8f89bec2f5912eeb4af22a3c0bbab02544eaa4e67815e05", func := "gerund/gerundlaw14.LeastTells", spec := "leastTells", unfollowed := true, recurses := true, apart := false, narrowed := true }
def LeastTellsUptoSaid : Prop := leastTellsUptoRow.holds Tryz.pinned (OpenSpec.upto leastTellsSpec)

/-- 'gerundlaw14.LeastTrees', WHERE WHAT IT READS IS OF BULK AT MOST 1048576: true; the input reads as it did. -/
def leastTreesUptoRow : OpenClaim := { program := "ytfcbldapbbhliaagreat", sum := "bdca07b2141c593dd8f89bec2f5912eeb4af22a3c0bbab02544eaa4e67815e05", func := "gerund/gerundlaw14.LeastTrees", spec := "leastTrees", unfollowed := true, recurses := true, apart := false, narrowed := true }
def LeastTreesUptoSaid : Prop := leastTreesUptoRow.holds Tryz.pinned (OpenSpec.upto leastTreesSpec)

/-- 'gerundlaw14.LeastWords', WHERE WHAT IT READS IS OF BULK AT MOST 1048576: true; the input reads as it did. -/
def leastWordsUptoRow : OpenClaim := { program := "ytfcbldapbbhliaagreat", sum := "bdca07b2141c593dd8f89bec2f5912eeb4af22a3c0bbab02544eaa4e67815e05", func := "gerund/gerundlaw14.LeastWords", spec := "leastWords", unfollowed := true, recurses := true, apart := false, narrowed := true }
def LeastWordsUptoSaid : Prop := leastWordsUptoRow.holds Tryz.pinned (OpenSpec.upto leastWordsSpec)

/-- 'gerundlaw14.LeastLow', WHERE WHAT IT READS IS OF BULK AT MOST 1048576: true; the input reads as it did. -/
def leastLowUptoRow : OpenClaim := { program := "ytfcbldapbbhliaagreat", sum := "bdca07b2141c593dd8f89bec2f5912eeb4af22a3c0bbab02544eaa4e67815e05", func := "gerund/gerundlaw14.LeastLow", spec := "leastLow", unfollowed := true, recurses := true, apart := false, narrowed := true }
def LeastLowUptoSaid : Prop := leastLowUptoRow.holds Tryz.pinned (OpenSpec.upto leastLowSpec)

/-- 'gerundlaw14.LeastParts', WHERE WHAT IT READS IS OF BULK AT MOST 1048576: true; the input reads as it did. -/
def leastPartsUptoRow : OpenClaim := { program := "ytfcbldapbbhliaagreat", sum := "bdca07b2141c593dd8f89bec2f5912eeb4af22a3c0bbab02544eaa4e67815e05", func := "gerund/gerundlaw14.LeastParts", spec := "leastParts", unfollowed := true, recurses := true, apart := false, narrowed := true }
def LeastPartsUptoSaid : Prop := leastPartsUptoRow.holds Tryz.pinned (OpenSpec.upto leastPartsSpec)

end Rows
end Go.Proofs.YtfcbldapbbhliaaGreat
