/-
  No cell of these rows narrows 'for every input' (looked for: loops, veiled, ifaces, maps, wideKeys, modest, calm, conditions, laid).
  DERIVED. THE GIVEN ROWS OF THIS SEAT. 10 by the template 'for every input the law returns true; each argument reads behind the call as it read before'; 0 by the template 'total and deterministic' (their statements: YtiophifnkakjgaaGreatTotals.lean).
  GIVEN WITH THE SEED: the statements are not yours to turn. If you find one false, say at which input.
  Laid BY PROGRAM, IN A SANDBOX (cutbox-rows.mjs): the forced cells as the released guide's own fill.sh prints them over the translation d3d60b57b3760b32… (all of the seat's roots in one cut). By AI agents, Wed Nov 11 2026. No macro, syntax, notation, axiom, sorry.
-/
import Derived.Test.YtiophifnkakjgaaGreatChecked
import GoSem.Claim
import GoSem.ClaimJoined
import GoSem.ClaimMapViews
import Derived.JoinedTies
import Derived.KernelRfl
namespace Go.Proofs.YtiophifnkakjgaaGreat
/- THE CELL 'sum', in the pinned program and in every row, IS THE sha256 OF THE DUMP (.gsa) THAT YtiophifnkakjgaaGreatProg.lean LOADS. Nothing in Lean hashes anything: it is a label: what it is worth is what the hold of that sum in a sandbox is worth. -/
noncomputable def Tryz.pinned : Pinned := { name := "ytiophifnkakjgaagreat", sum := "d3d60b57b3760b322a66d3be6da3e0fb24680060987a17fd773fa73dc0ee8c9a", checked := Tryz.checked }
namespace Rows
def none {H : Type} : Left H := { results := [], args := [] }

/-- 'gerundlaw20.OracleDrives': WHATEVER THE INPUT: true; the input reads as it did. -/
def oracleDrivesSpec : ChangeSpec := { name := "oracleDrives", fn := fun _ => fun
  | [d1, d2] => { results := [.lit (.bool true)], args := [d1, d2] }
  | _ => none }
def oracleDrivesRow : OpenClaim := { program := "ytiophifnkakjgaagreat", sum := "d3d60b57b3760b322a66d3be6da3e0fb24680060987a17fd773fa73dc0ee8c9a", func := "gerund/gerundlaw20.OracleDrives", spec := "oracleDrives", unfollowed := true, recurses := true, plainKeys := false, apart := false }
def OracleDrivesSaid : Prop := oracleDrivesRow.holds Tryz.pinned (OpenSpec.ofChange oracleDrivesSpec)

/-- ITS FALSE NEIGHBOUR: 'it returns false'. Refute it at one input. -/
def oracleDrivesWrong : ChangeSpec := { name := "oracleDrives", fn := fun _ => fun
  | [d1, d2] => { results := [.lit (.bool false)], args := [d1, d2] }
  | _ => none }
def OracleDrivesWrongFalsely : Prop := oracleDrivesRow.holds Tryz.pinned (OpenSpec.ofChange oracleDrivesWrong)

/-- 'gerundlaw26.WordsCount': WHATEVER THE INPUT: true; the input reads as it did. -/
def wordsCountSpec : ChangeSpec := { name := "wordsCount", fn := fun _ => fun
  | [d1, d2, d3] => { results := [.lit (.bool true)], args := [d1, d2, d3] }
  | _ => none }
def wordsCountRow : OpenClaim := { program := "ytiophifnkakjgaagreat", sum := "d3d60b57b3760b322a66d3be6da3e0fb24680060987a17fd773fa73dc0ee8c9a", func := "gerund/gerundlaw26.WordsCount", spec := "wordsCount", unfollowed := true, recurses := true, plainKeys := false, apart := false }
def WordsCountSaid : Prop := wordsCountRow.holds Tryz.pinned (OpenSpec.ofChange wordsCountSpec)

/-- ITS FALSE NEIGHBOUR: 'it returns false'. Refute it at one input. -/
def wordsCountWrong : ChangeSpec := { name := "wordsCount", fn := fun _ => fun
  | [d1, d2, d3] => { results := [.lit (.bool false)], args := [d1, d2, d3] }
  | _ => none }
def WordsCountWrongFalsely : Prop := wordsCountRow.holds Tryz.pinned (OpenSpec.ofChange wordsCountWrong)

/-- 'gerundlaw27.AccessWays': WHATEVER THE INPUT: true; the input reads as it did. -/
def accessWaysSpec : ChangeSpec := { name := "accessWays", fn := fun _ => fun
  | [d1, d2] => { results := [.lit (.bool true)], args := [d1, d2] }
  | _ => none }
def accessWaysRow : OpenClaim := { program := "ytiophifnkakjgaagreat", sum := "d3d60b57b3760b322a66d3be6da3e0fb24680060987a17fd773fa73dc0ee8c9a", func := "gerund/gerundlaw27.AccessWays", spec := "accessWays", unfollowed := true, recurses := true, plainKeys := false, apart := false }
def AccessWaysSaid : Prop := accessWaysRow.holds Tryz.pinned (OpenSpec.ofChange accessWaysSpec)

/-- ITS FALSE NEIGHBOUR: 'it returns false'. Refute it at one input. -/
def accessWaysWrong : ChangeSpec := { name := "accessWays", fn := fun _ => fun
  | [d1, d2] => { results := [.lit (.bool false)], args := [d1, d2] }
  | _ => none }
def AccessWaysWrongFalsely : Prop := accessWaysRow.holds Tryz.pinned (OpenSpec.ofChange accessWaysWrong)

/-- 'gerundlaw27.AccessBases': WHATEVER THE INPUT: true; the input reads as it did. -/
def accessBasesSpec : ChangeSpec := { name := "accessBases", fn := fun _ => fun
  | [d] => { results := [.lit (.bool true)], args := [d] }
  | _ => none }
def accessBasesRow : OpenClaim := { program := "ytiophifnkakjgaagreat", sum := "d3d60b57b3760b322a66d3be6da3e0fb24680060987a17fd773fa73dc0ee8c9a", func := "gerund/gerundlaw27.AccessBases", spec := "accessBases", unfollowed := true, recurses := true, plainKeys := false, apart := false }
def AccessBasesSaid : Prop := accessBasesRow.holds Tryz.pinned (OpenSpec.ofChange accessBasesSpec)

/-- ITS FALSE NEIGHBOUR: 'it returns false'. Refute it at one input. -/
def accessBasesWrong : ChangeSpec := { name := "accessBases", fn := fun _ => fun
  | [d] => { results := [.lit (.bool false)], args := [d] }
  | _ => none }
def AccessBasesWrongFalsely : Prop := accessBasesRow.holds Tryz.pinned (OpenSpec.ofChange accessBasesWrong)

/-- 'gerundlaw27.AccessLeads': WHATEVER THE INPUT: true; the input reads as it did. -/
def accessLeadsSpec : ChangeSpec := { name := "accessLeads", fn := fun _ => fun
  | [d1, d2] => { results := [.lit (.bool true)], args := [d1, d2] }
  | _ => none }
def accessLeadsRow : OpenClaim := { program := "ytiophifnkakjgaagreat", sum := "d3d60b57b3760b322a66d3be6da3e0fb24680060987a17fd773fa73dc0ee8c9a", func := "gerund/gerundlaw27.AccessLeads", spec := "accessLeads", unfollowed := true, recurses := true, plainKeys := false, apart := false }
def AccessLeadsSaid : Prop := accessLeadsRow.holds Tryz.pinned (OpenSpec.ofChange accessLeadsSpec)

/-- ITS FALSE NEIGHBOUR: 'it returns false'. Refute it at one input. -/
def accessLeadsWrong : ChangeSpec := { name := "accessLeads", fn := fun _ => fun
  | [d1, d2] => { results := [.lit (.bool false)], args := [d1, d2] }
  | _ => none }
def AccessLeadsWrongFalsely : Prop := accessLeadsRow.holds Tryz.pinned (OpenSpec.ofChange accessLeadsWrong)

/-- 'gerundlaw27.AccessSentences': WHATEVER THE INPUT: true; the input reads as it did. -/
def accessSentencesSpec : ChangeSpec := { name := "accessSentences", fn := fun _ => fun
  | [d] => { results := [.lit (.bool true)], args := [d] }
  | _ => none }
def accessSentencesRow : OpenClaim := { program := "ytiophifnkakjgaagreat", sum := "d3d60b57b3760b322a66d3be6da3e0fb24680060987a17fd773fa73dc0ee8c9a", func := "gerund/gerundlaw27.AccessSentences", spec := "accessSentences", unfollowed := true, recurses := true, plainKeys := false, apart := false }
def AccessSentencesSaid : Prop := accessSentencesRow.holds Tryz.pinned (OpenSpec.ofChange accessSentencesSpec)

/-- ITS FALSE NEIGHBOUR: 'it returns false'. Refute it at one input. -/
def accessSentencesWrong : ChangeSpec := { name := "accessSentences", fn := fun _ => fun
  | [d] => { results := [.lit (.bool false)], args := [d] }
  | _ => none }
def AccessSentencesWrongFalsely : Prop := accessSentencesRow.holds Tryz.pinned (OpenSpec.ofChange accessSentencesWrong)

/-- 'gerundlaw28.MutantTurns': WHATEVER THE INPUT: true; the input reads as it did. -/
def mutantTurnsSpec : ChangeSpec := { name := "mutantTurns", fn := fun _ => fun
  | [d1, d2, d3] => { results := [.lit (.bool true)], args := [d1, d2, d3] }
  | _ => none }
def mutantTurnsRow : OpenClaim := { program := "ytiophifnkakjgaagreat", sum := "d3d60b57b3760b322a66d3be6da3e0fb24680060987a17fd773fa73dc0ee8c9a", func := "gerund/gerundlaw28.MutantTurns", spec := "mutantTurns", inPlace := ["slices.overlaps[int]"], unfollowed := true, recurses := true, plainKeys := false, apart := false }
def MutantTurnsSaid : Prop := mutantTurnsRow.holds Tryz.pinned (OpenSpec.ofChange mutantTurnsSpec)

/-- ITS FALSE NEIGHBOUR: 'it returns false'. Refute it at one input. -/
def mutantTurnsWrong : ChangeSpec := { name := "mutantTurns", fn := fun _ => fun
  | [d1, d2, d3] => { results := [.lit (.bool false)], args := [d1, d2, d3] }
  | _ => none }
def MutantTurnsWrongFalsely : Prop := mutantTurnsRow.holds Tryz.pinned (OpenSpec.ofChange mutantTurnsWrong)

/-- 'gerundlaw28.MutantLists': WHATEVER THE INPUT: true; the input reads as it did. -/
def mutantListsSpec : ChangeSpec := { name := "mutantLists", fn := fun _ => fun
  | [d1, d2] => { results := [.lit (.bool true)], args := [d1, d2] }
  | _ => none }
def mutantListsRow : OpenClaim := { program := "ytiophifnkakjgaagreat", sum := "d3d60b57b3760b322a66d3be6da3e0fb24680060987a17fd773fa73dc0ee8c9a", func := "gerund/gerundlaw28.MutantLists", spec := "mutantLists", inPlace := ["slices.overlaps[int]"], unfollowed := true, recurses := true, plainKeys := false, apart := false }
def MutantListsSaid : Prop := mutantListsRow.holds Tryz.pinned (OpenSpec.ofChange mutantListsSpec)

/-- ITS FALSE NEIGHBOUR: 'it returns false'. Refute it at one input. -/
def mutantListsWrong : ChangeSpec := { name := "mutantLists", fn := fun _ => fun
  | [d1, d2] => { results := [.lit (.bool false)], args := [d1, d2] }
  | _ => none }
def MutantListsWrongFalsely : Prop := mutantListsRow.holds Tryz.pinned (OpenSpec.ofChange mutantListsWrong)

/-- 'gerundlaw28.MutantBad': WHATEVER THE INPUT: true; the input reads as it did. -/
def mutantBadSpec : ChangeSpec := { name := "mutantBad", fn := fun _ => fun
  | [d1, d2] => { results := [.lit (.bool true)], args := [d1, d2] }
  | _ => none }
def mutantBadRow : OpenClaim := { program := "ytiophifnkakjgaagreat", sum := "d3d60b57b3760b322a66d3be6da3e0fb24680060987a17fd773fa73dc0ee8c9a", func := "gerund/gerundlaw28.MutantBad", spec := "mutantBad", inPlace := ["slices.overlaps[int]"], unfollowed := true, recurses := true, plainKeys := false, apart := false }
def MutantBadSaid : Prop := mutantBadRow.holds Tryz.pinned (OpenSpec.ofChange mutantBadSpec)

/-- ITS FALSE NEIGHBOUR: 'it returns false'. Refute it at one input. -/
def mutantBadWrong : ChangeSpec := { name := "mutantBad", fn := fun _ => fun
  | [d1, d2] => { results := [.lit (.bool false)], args := [d1, d2] }
  | _ => none }
def MutantBadWrongFalsely : Prop := mutantBadRow.holds Tryz.pinned (OpenSpec.ofChange mutantBadWrong)

/-- 'gerundlaw28.MutantAll': WHATEVER THE INPUT: true; the input reads as it did. -/
def mutantAllSpec : ChangeSpec := { name := "mutantAll", fn := fun _ => fun
  | [d1, d2, d3] => { results := [.lit (.bool true)], args := [d1, d2, d3] }
  | _ => none }
def mutantAllRow : OpenClaim := { program := "ytiophifnkakjgaagreat", sum := "d3d60b57b3760b322a66d3be6da3e0fb24680060987a17fd773fa73dc0ee8c9a", func := "gerund/gerundlaw28.MutantAll", spec := "mutantAll", inPlace := ["slices.overlaps[int]"], unfollowed := true, recurses := true, plainKeys := false, apart := false }
def MutantAllSaid : Prop := mutantAllRow.holds Tryz.pinned (OpenSpec.ofChange mutantAllSpec)

/-- ITS FALSE NEIGHBOUR: 'it returns false'. Refute it at one input. -/
def mutantAllWrong : ChangeSpec := { name := "mutantAll", fn := fun _ => fun
  | [d1, d2, d3] => { results := [.lit (.bool false)], args := [d1, d2, d3] }
  | _ => none }
def MutantAllWrongFalsely : Prop := mutantAllRow.holds Tryz.pinned (OpenSpec.ofChange mutantAllWrong)

/- THE SECOND FORM. 'bulk': how many values and letters a reading holds, each counted each time it is reached (what is shared counts as often as it is met; a slice's spare places count too). A statement '..UptoSaid' is the law's where the arguments, and the package variables that the reading takes, are together of bulk at most 1048576: NARROWER than '..Said'. Prove '..Said' where nothing that the law and all that it calls make is longer than what came in: it says more and counts as full. Else prove '..UptoSaid'. A law counts once. -/
mutual
def uptoBulk {H : Type} : DataW H → Nat
  | .lit (.string bytes) => bytes.length + 1
  | .lit _ => 1
  | .nil => 1
  | .ptr d => uptoBulk d + 1
  | .slice elems spare => uptoBulkAll elems + uptoBulkAll spare + 1
  | .agg parts => uptoBulkAll parts + 1
  | .iface _ d => uptoBulk d + 1
  | .map entries => uptoBulkEntries entries + 1
  | .held _ => 1
def uptoBulkAll {H : Type} : List (DataW H) → Nat
  | [] => 0
  | d :: r => uptoBulk d + uptoBulkAll r
def uptoBulkEntries {H : Type} : List (Lit × DataW H) → Nat
  | [] => 0
  | x :: r => uptoBulkEntry x + uptoBulkEntries r
def uptoBulkEntry {H : Type} : Lit × DataW H → Nat
  | (.string bytes, d) => bytes.length + uptoBulk d + 1
  | (_, d) => uptoBulk d + 1
 end
def uptoSmall : (H : Type) → List (DataW H) → Bool := fun _ ds => decide (uptoBulkAll ds ≤ 1048576)
def OpenSpec.upto (s : _root_.Go.ChangeSpec) : _root_.Go.OpenSpec := { _root_.Go.OpenSpec.ofChange s with cond := some uptoSmall }

/-- 'gerundlaw20.OracleDrives', WHERE WHAT IT READS IS OF BULK AT MOST 1048576: true; the input reads as it did. -/
def oracleDrivesUptoRow : OpenClaim := { program := "ytiophifnkakjgaagreat", sum := "d3d60b57b3760b322a66d3be6da3e0fb24680060987a17fd773fa73dc0ee8c9a", func := "gerund/gerundlaw20.OracleDrives", spec := "oracleDrives", unfollowed := true, recurses := true, plainKeys := false, apart := false, narrowed := true }
def OracleDrivesUptoSaid : Prop := oracleDrivesUptoRow.holds Tryz.pinned (OpenSpec.upto oracleDrivesSpec)

/-- 'gerundlaw26.WordsCount', WHERE WHAT IT READS IS OF BULK AT MOST 1048576: true; the input reads as it did. -/
def wordsCountUptoRow : OpenClaim := { program := "ytiophifnkakjgaagreat", sum := "d3d60b57b3760b322a66d3be6da3e0fb24680060987a17fd773fa73dc0ee8c9a", func := "gerund/gerundlaw26.WordsCount", spec := "wordsCount", unfollowed := true, recurses := true, plainKeys := false, apart := false, narrowed := true }
def WordsCountUptoSaid : Prop := wordsCountUptoRow.holds Tryz.pinned (OpenSpec.upto wordsCountSpec)

/-- 'gerundlaw27.AccessWays', WHERE WHAT IT READS IS OF BULK AT MOST 1048576: true; the input reads as it did. -/
def accessWaysUptoRow : OpenClaim := { program := "ytiophifnkakjgaagreat", sum := "d3d60b57b3760b322a66d3be6da3e0fb24680060987a17fd773fa73dc0ee8c9a", func := "gerund/gerundlaw27.AccessWays", spec := "accessWays", unfollowed := true, recurses := true, plainKeys := false, apart := false, narrowed := true }
def AccessWaysUptoSaid : Prop := accessWaysUptoRow.holds Tryz.pinned (OpenSpec.upto accessWaysSpec)

/-- 'gerundlaw27.AccessBases', WHERE WHAT IT READS IS OF BULK AT MOST 1048576: true; the input reads as it did. -/
def accessBasesUptoRow : OpenClaim := { program := "ytiophifnkakjgaagreat", sum := "d3d60b57b3760b322a66d3be6da3e0fb24680060987a17fd773fa73dc0ee8c9a", func := "gerund/gerundlaw27.AccessBases", spec := "accessBases", unfollowed := true, recurses := true, plainKeys := false, apart := false, narrowed := true }
def AccessBasesUptoSaid : Prop := accessBasesUptoRow.holds Tryz.pinned (OpenSpec.upto accessBasesSpec)

/-- 'gerundlaw27.AccessLeads', WHERE WHAT IT READS IS OF BULK AT MOST 1048576: true; the input reads as it did. -/
def accessLeadsUptoRow : OpenClaim := { program := "ytiophifnkakjgaagreat", sum := "d3d60b57b3760b322a66d3be6da3e0fb24680060987a17fd773fa73dc0ee8c9a", func := "gerund/gerundlaw27.AccessLeads", spec := "accessLeads", unfollowed := true, recurses := true, plainKeys := false, apart := false, narrowed := true }
def AccessLeadsUptoSaid : Prop := accessLeadsUptoRow.holds Tryz.pinned (OpenSpec.upto accessLeadsSpec)

/-- 'gerundlaw27.AccessSentences', WHERE WHAT IT READS IS OF BULK AT MOST 1048576: true; the input reads as it did. -/
def accessSentencesUptoRow : OpenClaim := { program := "ytiophifnkakjgaagreat", sum := "d3d60b57b3760b322a66d3be6da3e0fb24680060987a17fd773fa73dc0ee8c9a", func := "gerund/gerundlaw27.AccessSentences", spec := "accessSentences", unfollowed := true, recurses := true, plainKeys := false, apart := false, narrowed := true }
def AccessSentencesUptoSaid : Prop := accessSentencesUptoRow.holds Tryz.pinned (OpenSpec.upto accessSentencesSpec)

/-- 'gerundlaw28.MutantTurns', WHERE WHAT IT READS IS OF BULK AT MOST 1048576: true; the input reads as it did. -/
def mutantTurnsUptoRow : OpenClaim := { program := "ytiophifnkakjgaagreat", sum := "d3d60b57b3760b322a66d3be6da3e0fb24680060987a17fd773fa73dc0ee8c9a", func := "gerund/gerundlaw28.MutantTurns", spec := "mutantTurns", inPlace := ["slices.overlaps[int]"], unfollowed := true, recurses := true, plainKeys := false, apart := false, narrowed := true }
def MutantTurnsUptoSaid : Prop := mutantTurnsUptoRow.holds Tryz.pinned (OpenSpec.upto mutantTurnsSpec)

/-- 'gerundlaw28.MutantLists', WHERE WHAT IT READS IS OF BULK AT MOST 1048576: true; the input reads as it did. -/
def mutantListsUptoRow : OpenClaim := { program := "ytiophifnkakjgaagreat", sum := "d3d60b57b3760b322a66d3be6da3e0fb24680060987a17fd773fa73dc0ee8c9a", func := "gerund/gerundlaw28.MutantLists", spec := "mutantLists", inPlace := ["slices.overlaps[int]"], unfollowed := true, recurses := true, plainKeys := false, apart := false, narrowed := true }
def MutantListsUptoSaid : Prop := mutantListsUptoRow.holds Tryz.pinned (OpenSpec.upto mutantListsSpec)

/-- 'gerundlaw28.MutantBad', WHERE WHAT IT READS IS OF BULK AT MOST 1048576: true; the input reads as it did. -/
def mutantBadUptoRow : OpenClaim := { program := "ytiophifnkakjgaagreat", sum := "d3d60b57b3760b322a66d3be6da3e0fb24680060987a17fd773fa73dc0ee8c9a", func := "gerund/gerundlaw28.MutantBad", spec := "mutantBad", inPlace := ["slices.overlaps[int]"], unfollowed := true, recurses := true, plainKeys := false, apart := false, narrowed := true }
def MutantBadUptoSaid : Prop := mutantBadUptoRow.holds Tryz.pinned (OpenSpec.upto mutantBadSpec)

/-- 'gerundlaw28.MutantAll', WHERE WHAT IT READS IS OF BULK AT MOST 1048576: true; the input reads as it did. -/
def mutantAllUptoRow : OpenClaim := { program := "ytiophifnkakjgaagreat", sum := "d3d60b57b3760b322a66d3be6da3e0fb24680060987a17fd773fa73dc0ee8c9a", func := "gerund/gerundlaw28.MutantAll", spec := "mutantAll", inPlace := ["slices.overlaps[int]"], unfollowed := true, recurses := true, plainKeys := false, apart := false, narrowed := true }
def MutantAllUptoSaid : Prop := mutantAllUptoRow.holds Tryz.pinned (OpenSpec.upto mutantAllSpec)

end Rows
end Go.Proofs.YtiophifnkakjgaaGreat
