/-
  No cell of these rows narrows 'for every input' (looked for: loops, veiled, ifaces, maps, wideKeys, modest, calm, conditions, laid).
  DERIVED. THE GIVEN ROWS OF THIS SEAT. 9 by the template 'for every input the law returns true; each argument reads behind the call as it read before'; 0 by the template 'total and deterministic' (their statements: YtgniimkconobpaaGreatTotals.lean).
  GIVEN WITH THE SEED: the statements are not yours to turn. If you find one false, say at which input.
  Laid BY PROGRAM, IN A SANDBOX (cutbox-rows.mjs): the forced cells as the released guide's own fill.sh prints them over the translation b912a20b17161a46… (all of the seat's roots in one cut). By AI agents, Wed Nov 11 2026. No macro, syntax, notation, axiom, sorry.
-/
import Derived.Test.YtgniimkconobpaaGreatChecked
import GoSem.Claim
import GoSem.ClaimJoined
import GoSem.ClaimMapViews
import Derived.JoinedTies
import Derived.KernelRfl
namespace Go.Proofs.YtgniimkconobpaaGreat
/- THE CELL 'sum', in the pinned program and in every row, IS THE sha256 OF THE DUMP (.gsa) THAT YtgniimkconobpaaGreatProg.lean LOADS. Nothing in Lean hashes anything: it is a label: what it is worth is what the hold of that sum in a sandbox is worth. -/
noncomputable def Tryz.pinned : Pinned := { name := "ytgniimkconobpaagreat", sum := "b912a20b17161a46f234aef5d27075767f85f0dc5667b2c8f5b11b7ebb70345d", checked := Tryz.checked }
namespace Rows
def none {H : Type} : Left H := { results := [], args := [] }

/-- 'gerundlaw20.OracleTells': WHATEVER THE INPUT: true; the input reads as it did. -/
def oracleTellsSpec : ChangeSpec := { name := "oracleTells", fn := fun _ => fun
  | [d1, d2] => { results := [.lit (.bool true)], args := [d1, d2] }
  | _ => none }
def oracleTellsRow : OpenClaim := { program := "ytgniimkconobpaagreat", sum := "b912a20b17161a46f234aef5d27075767f85f0dc5667b2c8f5b11b7ebb70345d", func := "gerund/gerundlaw20.OracleTells", spec := "oracleTells", unfollowed := true, recurses := true, plainKeys := false, apart := false }
def OracleTellsSaid : Prop := oracleTellsRow.holds Tryz.pinned (OpenSpec.ofChange oracleTellsSpec)

/-- ITS FALSE NEIGHBOUR: 'it returns false'. Refute it at one input. -/
def oracleTellsWrong : ChangeSpec := { name := "oracleTells", fn := fun _ => fun
  | [d1, d2] => { results := [.lit (.bool false)], args := [d1, d2] }
  | _ => none }
def OracleTellsWrongFalsely : Prop := oracleTellsRow.holds Tryz.pinned (OpenSpec.ofChange oracleTellsWrong)

/-- 'gerundlaw20.OracleStarts': WHATEVER THE INPUT: true; the input reads as it did. -/
def oracleStartsSpec : ChangeSpec := { name := "oracleStarts", fn := fun _ => fun
  | [d1, d2] => { results := [.lit (.bool true)], args := [d1, d2] }
  | _ => none }
def oracleStartsRow : OpenClaim := { program := "ytgniimkconobpaagreat", sum := "b912a20b17161a46f234aef5d27075767f85f0dc5667b2c8f5b11b7ebb70345d", func := "gerund/gerundlaw20.OracleStarts", spec := "oracleStarts", unfollowed := true, recurses := true, plainKeys := false, apart := false }
def OracleStartsSaid : Prop := oracleStartsRow.holds Tryz.pinned (OpenSpec.ofChange oracleStartsSpec)

/-- ITS FALSE NEIGHBOUR: 'it returns false'. Refute it at one input. -/
def oracleStartsWrong : ChangeSpec := { name := "oracleStarts", fn := fun _ => fun
  | [d1, d2] => { results := [.lit (.bool false)], args := [d1, d2] }
  | _ => none }
def OracleStartsWrongFalsely : Prop := oracleStartsRow.holds Tryz.pinned (OpenSpec.ofChange oracleStartsWrong)

/-- 'gerundlaw20.OracleWider': WHATEVER THE INPUT: true; the input reads as it did. -/
def oracleWiderSpec : ChangeSpec := { name := "oracleWider", fn := fun _ => fun
  | [d1, d2, d3] => { results := [.lit (.bool true)], args := [d1, d2, d3] }
  | _ => none }
def oracleWiderRow : OpenClaim := { program := "ytgniimkconobpaagreat", sum := "b912a20b17161a46f234aef5d27075767f85f0dc5667b2c8f5b11b7ebb70345d", func := "gerund/gerundlaw20.OracleWider", spec := "oracleWider", unfollowed := true, recurses := true, plainKeys := false, apart := false }
def OracleWiderSaid : Prop := oracleWiderRow.holds Tryz.pinned (OpenSpec.ofChange oracleWiderSpec)

/-- ITS FALSE NEIGHBOUR: 'it returns false'. Refute it at one input. -/
def oracleWiderWrong : ChangeSpec := { name := "oracleWider", fn := fun _ => fun
  | [d1, d2, d3] => { results := [.lit (.bool false)], args := [d1, d2, d3] }
  | _ => none }
def OracleWiderWrongFalsely : Prop := oracleWiderRow.holds Tryz.pinned (OpenSpec.ofChange oracleWiderWrong)

/-- 'gerundlaw20.OracleBegins': WHATEVER THE INPUT: true; the input reads as it did. -/
def oracleBeginsSpec : ChangeSpec := { name := "oracleBegins", fn := fun _ => fun
  | [d1, d2, d3] => { results := [.lit (.bool true)], args := [d1, d2, d3] }
  | _ => none }
def oracleBeginsRow : OpenClaim := { program := "ytgniimkconobpaagreat", sum := "b912a20b17161a46f234aef5d27075767f85f0dc5667b2c8f5b11b7ebb70345d", func := "gerund/gerundlaw20.OracleBegins", spec := "oracleBegins", unfollowed := true, recurses := true, plainKeys := false, apart := false }
def OracleBeginsSaid : Prop := oracleBeginsRow.holds Tryz.pinned (OpenSpec.ofChange oracleBeginsSpec)

/-- ITS FALSE NEIGHBOUR: 'it returns false'. Refute it at one input. -/
def oracleBeginsWrong : ChangeSpec := { name := "oracleBegins", fn := fun _ => fun
  | [d1, d2, d3] => { results := [.lit (.bool false)], args := [d1, d2, d3] }
  | _ => none }
def OracleBeginsWrongFalsely : Prop := oracleBeginsRow.holds Tryz.pinned (OpenSpec.ofChange oracleBeginsWrong)

/-- 'gerundlaw26.WordsList': WHATEVER THE INPUT: true; the input reads as it did. -/
def wordsListSpec : ChangeSpec := { name := "wordsList", fn := fun _ => fun
  | [d1, d2] => { results := [.lit (.bool true)], args := [d1, d2] }
  | _ => none }
def wordsListRow : OpenClaim := { program := "ytgniimkconobpaagreat", sum := "b912a20b17161a46f234aef5d27075767f85f0dc5667b2c8f5b11b7ebb70345d", func := "gerund/gerundlaw26.WordsList", spec := "wordsList", unfollowed := true, recurses := true, plainKeys := false, apart := false }
def WordsListSaid : Prop := wordsListRow.holds Tryz.pinned (OpenSpec.ofChange wordsListSpec)

/-- ITS FALSE NEIGHBOUR: 'it returns false'. Refute it at one input. -/
def wordsListWrong : ChangeSpec := { name := "wordsList", fn := fun _ => fun
  | [d1, d2] => { results := [.lit (.bool false)], args := [d1, d2] }
  | _ => none }
def WordsListWrongFalsely : Prop := wordsListRow.holds Tryz.pinned (OpenSpec.ofChange wordsListWrong)

/-- 'gerundlaw26.WordsUpto': WHATEVER THE INPUT: true; the input reads as it did. -/
def wordsUptoSpec : ChangeSpec := { name := "wordsUpto", fn := fun _ => fun
  | [d1, d2] => { results := [.lit (.bool true)], args := [d1, d2] }
  | _ => none }
def wordsUptoRow : OpenClaim := { program := "ytgniimkconobpaagreat", sum := "b912a20b17161a46f234aef5d27075767f85f0dc5667b2c8f5b11b7ebb70345d", func := "gerund/gerundlaw26.WordsUpto", spec := "wordsUpto", unfollowed := true, recurses := true, plainKeys := false, apart := false }
def WordsUptoSaid : Prop := wordsUptoRow.holds Tryz.pinned (OpenSpec.ofChange wordsUptoSpec)

/-- ITS FALSE NEIGHBOUR: 'it returns false'. Refute it at one input. -/
def wordsUptoWrong : ChangeSpec := { name := "wordsUpto", fn := fun _ => fun
  | [d1, d2] => { results := [.lit (.bool false)], args := [d1, d2] }
  | _ => none }
def WordsUptoWrongFalsely : Prop := wordsUptoRow.holds Tryz.pinned (OpenSpec.ofChange wordsUptoWrong)

/-- 'gerundlaw26.WordsAre': WHATEVER THE INPUT: true; the input reads as it did. -/
def wordsAreSpec : ChangeSpec := { name := "wordsAre", fn := fun _ => fun
  | [d1, d2] => { results := [.lit (.bool true)], args := [d1, d2] }
  | _ => none }
def wordsAreRow : OpenClaim := { program := "ytgniimkconobpaagreat", sum := "b912a20b17161a46f234aef5d27075767f85f0dc5667b2c8f5b11b7ebb70345d", func := "gerund/gerundlaw26.WordsAre", spec := "wordsAre", unfollowed := true, recurses := true, plainKeys := false, apart := false }
def WordsAreSaid : Prop := wordsAreRow.holds Tryz.pinned (OpenSpec.ofChange wordsAreSpec)

/-- ITS FALSE NEIGHBOUR: 'it returns false'. Refute it at one input. -/
def wordsAreWrong : ChangeSpec := { name := "wordsAre", fn := fun _ => fun
  | [d1, d2] => { results := [.lit (.bool false)], args := [d1, d2] }
  | _ => none }
def WordsAreWrongFalsely : Prop := wordsAreRow.holds Tryz.pinned (OpenSpec.ofChange wordsAreWrong)

/-- 'gerundlaw26.WordsHave': WHATEVER THE INPUT: true; the input reads as it did. -/
def wordsHaveSpec : ChangeSpec := { name := "wordsHave", fn := fun _ => fun
  | [d1, d2, d3] => { results := [.lit (.bool true)], args := [d1, d2, d3] }
  | _ => none }
def wordsHaveRow : OpenClaim := { program := "ytgniimkconobpaagreat", sum := "b912a20b17161a46f234aef5d27075767f85f0dc5667b2c8f5b11b7ebb70345d", func := "gerund/gerundlaw26.WordsHave", spec := "wordsHave", unfollowed := true, recurses := true, plainKeys := false, apart := false }
def WordsHaveSaid : Prop := wordsHaveRow.holds Tryz.pinned (OpenSpec.ofChange wordsHaveSpec)

/-- ITS FALSE NEIGHBOUR: 'it returns false'. Refute it at one input. -/
def wordsHaveWrong : ChangeSpec := { name := "wordsHave", fn := fun _ => fun
  | [d1, d2, d3] => { results := [.lit (.bool false)], args := [d1, d2, d3] }
  | _ => none }
def WordsHaveWrongFalsely : Prop := wordsHaveRow.holds Tryz.pinned (OpenSpec.ofChange wordsHaveWrong)

/-- 'gerundlaw26.WordsCount': WHATEVER THE INPUT: true; the input reads as it did. -/
def wordsCountSpec : ChangeSpec := { name := "wordsCount", fn := fun _ => fun
  | [d1, d2, d3] => { results := [.lit (.bool true)], args := [d1, d2, d3] }
  | _ => none }
def wordsCountRow : OpenClaim := { program := "ytgniimkconobpaagreat", sum := "b912a20b17161a46f234aef5d27075767f85f0dc5667b2c8f5b11b7ebb70345d", func := "gerund/gerundlaw26.WordsCount", spec := "wordsCount", unfollowed := true, recurses := true, plainKeys := false, apart := false }
def WordsCountSaid : Prop := wordsCountRow.holds Tryz.pinned (OpenSpec.ofChange wordsCountSpec)

/-- ITS FALSE NEIGHBOUR: 'it returns false'. Refute it at one input. -/
def wordsCountWrong : ChangeSpec := { name := "wordsCount", fn := fun _ => fun
  | [d1, d2, d3] => { results := [.lit (.bool false)], args := [d1, d2, d3] }
  | _ => none }
def WordsCountWrongFalsely : Prop := wordsCountRow.holds Tryz.pinned (OpenSpec.ofChange wordsCountWrong)

/- THE SECOND FORM. 'bulk': how many values and letters a reading holds, each counted each time it is reached (what is shared counts as often as it is met; a slice's spare places count too). A statement '..UptoSaid' is the law's where the arguments, and the package variables that the reading takes, are together of bulk at most 1048576: NARROWER than '..Said'. Prove '..Said' where nothing that the law and all that it calls make is longer than what came in: it says more and counts as full. Else prove '..UptoSaid'. A law counts once. -/
mutual
def uptoBulk {H : Type} : DataW H → Nat
  | .lit (.string bytes) => bytes.length + 1
  | .lit _ => 1
  | .nil => 1
  | .ptr d => uptoBulk d + 1
  | .slice elems spare => uptoBulkAll elems + uptoBulkAll spare + 1
  | .agg parts => uptoBulkAll parts + 1
  | .iface _ d => uptoBulk d + 1
  | .map entries => uptoBulkEntries entries + 1
  | .held _ => 1
def uptoBulkAll {H : Type} : List (DataW H) → Nat
  | [] => 0
  | d :: r => uptoBulk d + uptoBulkAll r
def uptoBulkEntries {H : Type} : List (Lit × DataW H) → Nat
  | [] => 0
  | x :: r => uptoBulkEntry x + uptoBulkEntries r
def uptoBulkEntry {H : Type} : Lit × DataW H → Nat
  | (.string bytes, d) => bytes.length + uptoBulk d + 1
  | (_, d) => uptoBulk d + 1
 end
def uptoSmall : (H : Type) → List (DataW H) → Bool := fun _ ds => decide (uptoBulkAll ds ≤ 1048576)
def OpenSpec.upto (s : _root_.Go.ChangeSpec) : _root_.Go.OpenSpec := { _root_.Go.OpenSpec.ofChange s with cond := some uptoSmall }

/-- 'gerundlaw20.OracleTells', WHERE WHAT IT READS IS OF BULK AT MOST 1048576: true; the input reads as it did. -/
def oracleTellsUptoRow : OpenClaim := { program := "ytgniimkconobpaagreat", sum := "b912a20b17161a46f234aef5d27075767f85f0dc5667b2c8f5b11b7ebb70345d", func := "gerund/gerundlaw20.OracleTells", spec := "oracleTells", unfollowed := true, recurses := true, plainKeys := false, apart := false, narrowed := true }
def OracleTellsUptoSaid : Prop := oracleTellsUptoRow.holds Tryz.pinned (OpenSpec.upto oracleTellsSpec)

/-- 'gerundlaw20.OracleStarts', WHERE WHAT IT READS IS OF BULK AT MOST 1048576: true; the input reads as it did. -/
def oracleStartsUptoRow : OpenClaim := { program := "ytgniimkconobpaagreat", sum := "b912a20b17161a46f234aef5d27075767f85f0dc5667b2c8f5b11b7ebb70345d", func := "gerund/gerundlaw20.OracleStarts", spec := "oracleStarts", unfollowed := true, recurses := true, plainKeys := false, apart := false, narrowed := true }
def OracleStartsUptoSaid : Prop := oracleStartsUptoRow.holds Tryz.pinned (OpenSpec.upto oracleStartsSpec)

/-- 'gerundlaw20.OracleWider', WHERE WHAT IT READS IS OF BULK AT MOST 1048576: true; the input reads as it did. -/
def oracleWiderUptoRow : OpenClaim := { program := "ytgniimkconobpaagreat", sum := "b912a20b17161a46f234aef5d27075767f85f0dc5667b2c8f5b11b7ebb70345d", func := "gerund/gerundlaw20.OracleWider", spec := "oracleWider", unfollowed := true, recurses := true, plainKeys := false, apart := false, narrowed := true }
def OracleWiderUptoSaid : Prop := oracleWiderUptoRow.holds Tryz.pinned (OpenSpec.upto oracleWiderSpec)

/-- 'gerundlaw20.OracleBegins', WHERE WHAT IT READS IS OF BULK AT MOST 1048576: true; the input reads as it did. -/
def oracleBeginsUptoRow : OpenClaim := { program := "ytgniimkconobpaagreat", sum := "b912a20b17161a46f234aef5d27075767f85f0dc5667b2c8f5b11b7ebb70345d", func := "gerund/gerundlaw20.OracleBegins", spec := "oracleBegins", unfollowed := true, recurses := true, plainKeys := false, apart := false, narrowed := true }
def OracleBeginsUptoSaid : Prop := oracleBeginsUptoRow.holds Tryz.pinned (OpenSpec.upto oracleBeginsSpec)

/-- 'gerundlaw26.WordsList', WHERE WHAT IT READS IS OF BULK AT MOST 1048576: true; the input reads as it did. -/
def wordsListUptoRow : OpenClaim := { program := "ytgniimkconobpaagreat", sum := "b912a20b17161a46f234aef5d27075767f85f0dc5667b2c8f5b11b7ebb70345d", func := "gerund/gerundlaw26.WordsList", spec := "wordsList", unfollowed := true, recurses := true, plainKeys := false, apart := false, narrowed := true }
def WordsListUptoSaid : Prop := wordsListUptoRow.holds Tryz.pinned (OpenSpec.upto wordsListSpec)

/-- 'gerundlaw26.WordsUpto', WHERE WHAT IT READS IS OF BULK AT MOST 1048576: true; the input reads as it did. -/
def wordsUptoUptoRow : OpenClaim := { program := "ytgniimkconobpaagreat", sum := "b912a20b17161a46f234aef5d27075767f85f0dc5667b2c8f5b11b7ebb70345d", func := "gerund/gerundlaw26.WordsUpto", spec := "wordsUpto", unfollowed := true, recurses := true, plainKeys := false, apart := false, narrowed := true }
def WordsUptoUptoSaid : Prop := wordsUptoUptoRow.holds Tryz.pinned (OpenSpec.upto wordsUptoSpec)

/-- 'gerundlaw26.WordsAre', WHERE WHAT IT READS IS OF BULK AT MOST 1048576: true; the input reads as it did. -/
def wordsAreUptoRow : OpenClaim := { program := "ytgniimkconobpaagreat", sum := "b912a20b17161a46f234aef5d27075767f85f0dc5667b2c8f5b11b7ebb70345d", func := "gerund/gerundlaw26.WordsAre", spec := "wordsAre", unfollowed := true, recurses := true, plainKeys := false, apart := false, narrowed := true }
def WordsAreUptoSaid : Prop := wordsAreUptoRow.holds Tryz.pinned (OpenSpec.upto wordsAreSpec)

/-- 'gerundlaw26.WordsHave', WHERE WHAT IT READS IS OF BULK AT MOST 1048576: true; the input reads as it did. -/
def wordsHaveUptoRow : OpenClaim := { program := "ytgniimkconobpaagreat", sum := "b912a20b17161a46f234aef5d27075767f85f0dc5667b2c8f5b11b7ebb70345d", func := "gerund/gerundlaw26.WordsHave", spec := "wordsHave", unfollowed := true, recurses := true, plainKeys := false, apart := false, narrowed := true }
def WordsHaveUptoSaid : Prop := wordsHaveUptoRow.holds Tryz.pinned (OpenSpec.upto wordsHaveSpec)

/-- 'gerundlaw26.WordsCount', WHERE WHAT IT READS IS OF BULK AT MOST 1048576: true; the input reads as it did. -/
def wordsCountUptoRow : OpenClaim := { program := "ytgniimkconobpaagreat", sum := "b912a20b17161a46f234aef5d27075767f85f0dc5667b2c8f5b11b7ebb70345d", func := "gerund/gerundlaw26.WordsCount", spec := "wordsCount", unfollowed := true, recurses := true, plainKeys := false, apart := false, narrowed := true }
def WordsCountUptoSaid : Prop := wordsCountUptoRow.holds Tryz.pinned (OpenSpec.upto wordsCountSpec)

end Rows
end Go.Proofs.YtgniimkconobpaaGreat
