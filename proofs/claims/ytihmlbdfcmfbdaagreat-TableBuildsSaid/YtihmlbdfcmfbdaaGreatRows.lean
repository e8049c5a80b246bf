/-
  No cell of these rows narrows 'for every input' (looked for: loops, veiled, ifaces, maps, wideKeys, modest, calm, conditions, laid).
  DERIVED. THE GIVEN ROWS OF THIS SEAT. 12 by the template 'for every input the law returns true; each argument reads behind the call as it read before'; 0 by the template 'total and deterministic' (their statements: YtihmlbdfcmfbdaaGreatTotals.lean).
  GIVEN WITH THE SEED: the statements are not yours to turn. If you find one false, say at which input.
  Laid BY PROGRAM, IN A SANDBOX (cutbox-rows.mjs): the forced cells as the released guide's own fill.sh prints them over the translation c83c890aa654e05f… (all of the seat's roots in one cut). By AI agents, Wed Nov 11 2026. No macro, syntax, notation, axiom, sorry.
-/
import Derived.Test.YtihmlbdfcmfbdaaGreatChecked
import GoSem.Claim
import GoSem.ClaimJoined
import GoSem.ClaimMapViews
import Derived.JoinedTies
import Derived.KernelRfl
namespace Go.Proofs.YtihmlbdfcmfbdaaGreat
/- THE CELL 'sum', in the pinned program and in every row, IS THE sha256 OF THE DUMP (.gsa) THAT YtihmlbdfcmfbdaaGreatProg.lean LOADS. Nothing in Lean hashes anything: it is a label: what it is worth is what the hold of that sum in a sandbox is worth. -/
noncomputable def Tryz.pinned : Pinned := { name := "ytihmlbdfcmfbdaagreat", sum := "c83c890aa654e05f7ec9664cf53f26bb389bb4546834f9f83a0590923c162dcb", checked := Tryz.checked }
namespace Rows
def none {H : Type} : Left H := { results := [], args := [] }

/-- 'gerundlaw15.AutoItems': WHATEVER THE INPUT: true; the input reads as it did. -/
def autoItemsSpec : ChangeSpec := { name := "autoItems", fn := fun _ => fun
  | [d1, d2] => { results := [.lit (.bool true)], args := [d1, d2] }
  | _ => none }
def autoItemsRow : OpenClaim := { program := "ytihmlbdfcmfbdaagreat", sum := "c83c890aa654e05f7ec9664cf53f26bb389bb4546834f9f83a0590923c162dcb", func := "gerund/gerundlaw15.AutoItems", spec := "autoItems", unfollowed := true, recurses := true, plainKeys := false, apart := false }
def AutoItemsSaid : Prop := autoItemsRow.holds Tryz.pinned (OpenSpec.ofChange autoItemsSpec)

/-- ITS FALSE NEIGHBOUR: 'it returns false'. Refute it at one input. -/
def autoItemsWrong : ChangeSpec := { name := "autoItems", fn := fun _ => fun
  | [d1, d2] => { results := [.lit (.bool false)], args := [d1, d2] }
  | _ => none }
def AutoItemsWrongFalsely : Prop := autoItemsRow.holds Tryz.pinned (OpenSpec.ofChange autoItemsWrong)

/-- 'gerundlaw15.AutoBuilds': WHATEVER THE INPUT: true; the input reads as it did. -/
def autoBuildsSpec : ChangeSpec := { name := "autoBuilds", fn := fun _ => fun
  | [d] => { results := [.lit (.bool true)], args := [d] }
  | _ => none }
def autoBuildsRow : OpenClaim := { program := "ytihmlbdfcmfbdaagreat", sum := "c83c890aa654e05f7ec9664cf53f26bb389bb4546834f9f83a0590923c162dcb", func := "gerund/gerundlaw15.AutoBuilds", spec := "autoBuilds", unfollowed := true, recurses := true, plainKeys := false, apart := false }
def AutoBuildsSaid : Prop := autoBuildsRow.holds Tryz.pinned (OpenSpec.ofChange autoBuildsSpec)

/-- ITS FALSE NEIGHBOUR: 'it returns false'. Refute it at one input. -/
def autoBuildsWrong : ChangeSpec := { name := "autoBuilds", fn := fun _ => fun
  | [d] => { results := [.lit (.bool false)], args := [d] }
  | _ => none }
def AutoBuildsWrongFalsely : Prop := autoBuildsRow.holds Tryz.pinned (OpenSpec.ofChange autoBuildsWrong)

/-- 'gerundlaw15.AutoWalks': WHATEVER THE INPUT: true; the input reads as it did. -/
def autoWalksSpec : ChangeSpec := { name := "autoWalks", fn := fun _ => fun
  | [d1, d2, d3] => { results := [.lit (.bool true)], args := [d1, d2, d3] }
  | _ => none }
def autoWalksRow : OpenClaim := { program := "ytihmlbdfcmfbdaagreat", sum := "c83c890aa654e05f7ec9664cf53f26bb389bb4546834f9f83a0590923c162dcb", func := "gerund/gerundlaw15.AutoWalks", spec := "autoWalks", unfollowed := true, recurses := true, plainKeys := false, apart := false }
def AutoWalksSaid : Prop := autoWalksRow.holds Tryz.pinned (OpenSpec.ofChange autoWalksSpec)

/-- ITS FALSE NEIGHBOUR: 'it returns false'. Refute it at one input. -/
def autoWalksWrong : ChangeSpec := { name := "autoWalks", fn := fun _ => fun
  | [d1, d2, d3] => { results := [.lit (.bool false)], args := [d1, d2, d3] }
  | _ => none }
def AutoWalksWrongFalsely : Prop := autoWalksRow.holds Tryz.pinned (OpenSpec.ofChange autoWalksWrong)

/-- 'gerundlaw15.AutoOnce': WHATEVER THE INPUT: true; the input reads as it did. -/
def autoOnceSpec : ChangeSpec := { name := "autoOnce", fn := fun _ => fun
  | [d] => { results := [.lit (.bool true)], args := [d] }
  | _ => none }
def autoOnceRow : OpenClaim := { program := "ytihmlbdfcmfbdaagreat", sum := "c83c890aa654e05f7ec9664cf53f26bb389bb4546834f9f83a0590923c162dcb", func := "gerund/gerundlaw15.AutoOnce", spec := "autoOnce", unfollowed := true, recurses := true, plainKeys := false, apart := false }
def AutoOnceSaid : Prop := autoOnceRow.holds Tryz.pinned (OpenSpec.ofChange autoOnceSpec)

/-- ITS FALSE NEIGHBOUR: 'it returns false'. Refute it at one input. -/
def autoOnceWrong : ChangeSpec := { name := "autoOnce", fn := fun _ => fun
  | [d] => { results := [.lit (.bool false)], args := [d] }
  | _ => none }
def AutoOnceWrongFalsely : Prop := autoOnceRow.holds Tryz.pinned (OpenSpec.ofChange autoOnceWrong)

/-- 'gerundlaw15.AutoMoves': WHATEVER THE INPUT: true; the input reads as it did. -/
def autoMovesSpec : ChangeSpec := { name := "autoMoves", fn := fun _ => fun
  | [d1, d2] => { results := [.lit (.bool true)], args := [d1, d2] }
  | _ => none }
def autoMovesRow : OpenClaim := { program := "ytihmlbdfcmfbdaagreat", sum := "c83c890aa654e05f7ec9664cf53f26bb389bb4546834f9f83a0590923c162dcb", func := "gerund/gerundlaw15.AutoMoves", spec := "autoMoves", unfollowed := true, recurses := true, plainKeys := false, apart := false }
def AutoMovesSaid : Prop := autoMovesRow.holds Tryz.pinned (OpenSpec.ofChange autoMovesSpec)

/-- ITS FALSE NEIGHBOUR: 'it returns false'. Refute it at one input. -/
def autoMovesWrong : ChangeSpec := { name := "autoMoves", fn := fun _ => fun
  | [d1, d2] => { results := [.lit (.bool false)], args := [d1, d2] }
  | _ => none }
def AutoMovesWrongFalsely : Prop := autoMovesRow.holds Tryz.pinned (OpenSpec.ofChange autoMovesWrong)

/-- 'gerundlaw16.LookOf': WHATEVER THE INPUT: true; the input reads as it did. -/
def lookOfSpec : ChangeSpec := { name := "lookOf", fn := fun _ => fun
  | [d] => { results := [.lit (.bool true)], args := [d] }
  | _ => none }
def lookOfRow : OpenClaim := { program := "ytihmlbdfcmfbdaagreat", sum := "c83c890aa654e05f7ec9664cf53f26bb389bb4546834f9f83a0590923c162dcb", func := "gerund/gerundlaw16.LookOf", spec := "lookOf", unfollowed := true, recurses := true, plainKeys := false, apart := false }
def LookOfSaid : Prop := lookOfRow.holds Tryz.pinned (OpenSpec.ofChange lookOfSpec)

/-- ITS FALSE NEIGHBOUR: 'it returns false'. Refute it at one input. -/
def lookOfWrong : ChangeSpec := { name := "lookOf", fn := fun _ => fun
  | [d] => { results := [.lit (.bool false)], args := [d] }
  | _ => none }
def LookOfWrongFalsely : Prop := lookOfRow.holds Tryz.pinned (OpenSpec.ofChange lookOfWrong)

/-- 'gerundlaw16.LookRules': WHATEVER THE INPUT: true; the input reads as it did. -/
def lookRulesSpec : ChangeSpec := { name := "lookRules", fn := fun _ => fun
  | [d1, d2] => { results := [.lit (.bool true)], args := [d1, d2] }
  | _ => none }
def lookRulesRow : OpenClaim := { program := "ytihmlbdfcmfbdaagreat", sum := "c83c890aa654e05f7ec9664cf53f26bb389bb4546834f9f83a0590923c162dcb", func := "gerund/gerundlaw16.LookRules", spec := "lookRules", unfollowed := true, recurses := true, plainKeys := false, apart := false }
def LookRulesSaid : Prop := lookRulesRow.holds Tryz.pinned (OpenSpec.ofChange lookRulesSpec)

/-- ITS FALSE NEIGHBOUR: 'it returns false'. Refute it at one input. -/
def lookRulesWrong : ChangeSpec := { name := "lookRules", fn := fun _ => fun
  | [d1, d2] => { results := [.lit (.bool false)], args := [d1, d2] }
  | _ => none }
def LookRulesWrongFalsely : Prop := lookRulesRow.holds Tryz.pinned (OpenSpec.ofChange lookRulesWrong)

/-- 'gerundlaw16.LookFollows': WHATEVER THE INPUT: true; the input reads as it did. -/
def lookFollowsSpec : ChangeSpec := { name := "lookFollows", fn := fun _ => fun
  | [d] => { results := [.lit (.bool true)], args := [d] }
  | _ => none }
def lookFollowsRow : OpenClaim := { program := "ytihmlbdfcmfbdaagreat", sum := "c83c890aa654e05f7ec9664cf53f26bb389bb4546834f9f83a0590923c162dcb", func := "gerund/gerundlaw16.LookFollows", spec := "lookFollows", unfollowed := true, recurses := true, plainKeys := false, apart := false }
def LookFollowsSaid : Prop := lookFollowsRow.holds Tryz.pinned (OpenSpec.ofChange lookFollowsSpec)

/-- ITS FALSE NEIGHBOUR: 'it returns false'. Refute it at one input. -/
def lookFollowsWrong : ChangeSpec := { name := "lookFollows", fn := fun _ => fun
  | [d] => { results := [.lit (.bool false)], args := [d] }
  | _ => none }
def LookFollowsWrongFalsely : Prop := lookFollowsRow.holds Tryz.pinned (OpenSpec.ofChange lookFollowsWrong)

/-- 'gerundlaw16.LookStands': WHATEVER THE INPUT: true; the input reads as it did. -/
def lookStandsSpec : ChangeSpec := { name := "lookStands", fn := fun _ => fun
  | [d] => { results := [.lit (.bool true)], args := [d] }
  | _ => none }
def lookStandsRow : OpenClaim := { program := "ytihmlbdfcmfbdaagreat", sum := "c83c890aa654e05f7ec9664cf53f26bb389bb4546834f9f83a0590923c162dcb", func := "gerund/gerundlaw16.LookStands", spec := "lookStands", unfollowed := true, recurses := true, plainKeys := false, apart := false }
def LookStandsSaid : Prop := lookStandsRow.holds Tryz.pinned (OpenSpec.ofChange lookStandsSpec)

/-- ITS FALSE NEIGHBOUR: 'it returns false'. Refute it at one input. -/
def lookStandsWrong : ChangeSpec := { name := "lookStands", fn := fun _ => fun
  | [d] => { results := [.lit (.bool false)], args := [d] }
  | _ => none }
def LookStandsWrongFalsely : Prop := lookStandsRow.holds Tryz.pinned (OpenSpec.ofChange lookStandsWrong)

/-- 'gerundlaw17.TableBuilds': WHATEVER THE INPUT: true; the input reads as it did. -/
def tableBuildsSpec : ChangeSpec := { name := "tableBuilds", fn := fun _ => fun
  | [d] => { results := [.lit (.bool true)], args := [d] }
  | _ => none }
def tableBuildsRow : OpenClaim := { program := "ytihmlbdfcmfbdaagreat", sum := "c83c890aa654e05f7ec9664cf53f26bb389bb4546834f9f83a0590923c162dcb", func := "gerund/gerundlaw17.TableBuilds", spec := "tableBuilds", unfollowed := true, recurses := true, plainKeys := false, apart := false }
def TableBuildsSaid : Prop := tableBuildsRow.holds Tryz.pinned (OpenSpec.ofChange tableBuildsSpec)

/-- ITS FALSE NEIGHBOUR: 'it returns false'. Refute it at one input. -/
def tableBuildsWrong : ChangeSpec := { name := "tableBuilds", fn := fun _ => fun
  | [d] => { results := [.lit (.bool false)], args := [d] }
  | _ => none }
def TableBuildsWrongFalsely : Prop := tableBuildsRow.holds Tryz.pinned (OpenSpec.ofChange tableBuildsWrong)

/-- 'gerundlaw17.TableClear': WHATEVER THE INPUT: true; the input reads as it did. -/
def tableClearSpec : ChangeSpec := { name := "tableClear", fn := fun _ => fun
  | [d] => { results := [.lit (.bool true)], args := [d] }
  | _ => none }
def tableClearRow : OpenClaim := { program := "ytihmlbdfcmfbdaagreat", sum := "c83c890aa654e05f7ec9664cf53f26bb389bb4546834f9f83a0590923c162dcb", func := "gerund/gerundlaw17.TableClear", spec := "tableClear", unfollowed := true, recurses := true, plainKeys := false, apart := false }
def TableClearSaid : Prop := tableClearRow.holds Tryz.pinned (OpenSpec.ofChange tableClearSpec)

/-- ITS FALSE NEIGHBOUR: 'it returns false'. Refute it at one input. -/
def tableClearWrong : ChangeSpec := { name := "tableClear", fn := fun _ => fun
  | [d] => { results := [.lit (.bool false)], args := [d] }
  | _ => none }
def TableClearWrongFalsely : Prop := tableClearRow.holds Tryz.pinned (OpenSpec.ofChange tableClearWrong)

/-- 'gerundlaw17.TableShifts': WHATEVER THE INPUT: true; the input reads as it did. -/
def tableShiftsSpec : ChangeSpec := { name := "tableShifts", fn := fun _ => fun
  | [d1, d2] => { results := [.lit (.bool true)], args := [d1, d2] }
  | _ => none }
def tableShiftsRow : OpenClaim := { program := "ytihmlbdfcmfbdaagreat", sum := "c83c890aa654e05f7ec9664cf53f26bb389bb4546834f9f83a0590923c162dcb", func := "gerund/gerundlaw17.TableShifts", spec := "tableShifts", unfollowed := true, recurses := true, plainKeys := false, apart := false }
def TableShiftsSaid : Prop := tableShiftsRow.holds Tryz.pinned (OpenSpec.ofChange tableShiftsSpec)

/-- ITS FALSE NEIGHBOUR: 'it returns false'. Refute it at one input. -/
def tableShiftsWrong : ChangeSpec := { name := "tableShifts", fn := fun _ => fun
  | [d1, d2] => { results := [.lit (.bool false)], args := [d1, d2] }
  | _ => none }
def TableShiftsWrongFalsely : Prop := tableShiftsRow.holds Tryz.pinned (OpenSpec.ofChange tableShiftsWrong)

/- THE SECOND FORM. 'bulk': how many values and letters a reading holds, each counted each time it is reached (what is shared counts as often as it is met; a slice's spare places count too). A statement '..UptoSaid' is the law's where the arguments, and the package variables that the reading takes, are together of bulk at most 1048576: NARROWER than '..Said'. Prove '..Said' where nothing that the law and all that it calls make is longer than what came in: it says more and counts as full. Else prove '..UptoSaid'. A law counts once. -/
mutual
def uptoBulk {H : Type} : DataW H → Nat
  | .lit (.string bytes) => bytes.length + 1
  | .lit _ => 1
  | .nil => 1
  | .ptr d => uptoBulk d + 1
  | .slice elems spare => uptoBulkAll elems + uptoBulkAll spare + 1
  | .agg parts => uptoBulkAll parts + 1
  | .iface _ d => uptoBulk d + 1
  | .map entries => uptoBulkEntries entries + 1
  | .held _ => 1
def uptoBulkAll {H : Type} : List (DataW H) → Nat
  | [] => 0
  | d :: r => uptoBulk d + uptoBulkAll r
def uptoBulkEntries {H : Type} : List (Lit × DataW H) → Nat
  | [] => 0
  | x :: r => uptoBulkEntry x + uptoBulkEntries r
def uptoBulkEntry {H : Type} : Lit × DataW H → Nat
  | (.string bytes, d) => bytes.length + uptoBulk d + 1
  | (_, d) => uptoBulk d + 1
 end
def uptoSmall : (H : Type) → List (DataW H) → Bool := fun _ ds => decide (uptoBulkAll ds ≤ 1048576)
def OpenSpec.upto (s : _root_.Go.ChangeSpec) : _root_.Go.OpenSpec := { _root_.Go.OpenSpec.ofChange s with cond := some uptoSmall }

/-- 'gerundlaw15.AutoItems', WHERE WHAT IT READS IS OF BULK AT MOST 1048576: true; the input reads as it did. -/
def autoItemsUptoRow : OpenClaim := { program := "ytihmlbdfcmfbdaagreat", sum := "c83c890aa654e05f7ec9664cf53f26bb389bb4546834f9f83a0590923c162dcb", func := "gerund/gerundlaw15.AutoItems", spec := "autoItems", unfollowed := true, recurses := true, plainKeys := false, apart := false, narrowed := true }
def AutoItemsUptoSaid : Prop := autoItemsUptoRow.holds Tryz.pinned (OpenSpec.upto autoItemsSpec)

/-- 'gerundlaw15.AutoBuilds', WHERE WHAT IT READS IS OF BULK AT MOST 1048576: true; the input reads as it did. -/
def autoBuildsUptoRow : OpenClaim := { program := "ytihmlbdfcmfbdaagreat", sum := "c83c890aa654e05f7ec9664cf53f26bb389bb4546834f9f83a0590923c162dcb", func := "gerund/gerundlaw15.AutoBuilds", spec := "autoBuilds", unfollowed := true, recurses := true, plainKeys := false, apart := false, narrowed := true }
def AutoBuildsUptoSaid : Prop := autoBuildsUptoRow.holds Tryz.pinned (OpenSpec.upto autoBuildsSpec)

/-- 'gerundlaw15.AutoWalks', WHERE WHAT IT READS IS OF BULK AT MOST 1048576: true; the input reads as it did. -/
def autoWalksUptoRow : OpenClaim := { program := "ytihmlbdfcmfbdaagreat", sum := "c83c890aa654e05f7ec9664cf53f26bb389bb4546834f9f83a0590923c162dcb", func := "gerund/gerundlaw15.AutoWalks", spec := "autoWalks", unfollowed := true, recurses := true, plainKeys := false, apart := false, narrowed := true }
def AutoWalksUptoSaid : Prop := autoWalksUptoRow.holds Tryz.pinned (OpenSpec.upto autoWalksSpec)

/-- 'gerundlaw15.AutoOnce', WHERE WHAT IT READS IS OF BULK AT MOST 1048576: true; the input reads as it did. -/
def autoOnceUptoRow : OpenClaim := { program := "ytihmlbdfcmfbdaagreat", sum := "c83c890aa654e05f7ec9664cf53f26bb389bb4546834f9f83a0590923c162dcb", func := "gerund/gerundlaw15.AutoOnce", spec := "autoOnce", unfollowed := true, recurses := true, plainKeys := false, apart := false, narrowed := true }
def AutoOnceUptoSaid : Prop := autoOnceUptoRow.holds Tryz.pinned (OpenSpec.upto autoOnceSpec)

/-- 'gerundlaw15.AutoMoves', WHERE WHAT IT READS IS OF BULK AT MOST 1048576: true; the input reads as it did. -/
def autoMovesUptoRow : OpenClaim := { program := "ytihmlbdfcmfbdaagreat", sum := "c83c890aa654e05f7ec9664cf53f26bb389bb4546834f9f83a0590923c162dcb", func := "gerund/gerundlaw15.AutoMoves", spec := "autoMoves", unfollowed := true, recurses := true, plainKeys := false, apart := false, narrowed := true }
def AutoMovesUptoSaid : Prop := autoMovesUptoRow.holds Tryz.pinned (OpenSpec.upto autoMovesSpec)

/-- 'gerundlaw16.LookOf', WHERE WHAT IT READS IS OF BULK AT MOST 1048576: true; the input reads as it did. -/
def lookOfUptoRow : OpenClaim := { program := "ytihmlbdfcmfbdaagreat", sum := "c83c890aa654e05f7ec9664cf53f26bb389bb4546834f9f83a0590923c162dcb", func := "gerund/gerundlaw16.LookOf", spec := "lookOf", unfollowed := true, recurses := true, plainKeys := false, apart := false, narrowed := true }
def LookOfUptoSaid : Prop := lookOfUptoRow.holds Tryz.pinned (OpenSpec.upto lookOfSpec)

/-- 'gerundlaw16.LookRules', WHERE WHAT IT READS IS OF BULK AT MOST 1048576: true; the input reads as it did. -/
def lookRulesUptoRow : OpenClaim := { program := "ytihmlbdfcmfbdaagreat", sum := "c83c890aa654e05f7ec9664cf53f26bb389bb4546834f9f83a0590923c162dcb", func := "gerund/gerundlaw16.LookRules", spec := "lookRules", unfollowed := true, recurses := true, plainKeys := false, apart := false, narrowed := true }
def LookRulesUptoSaid : Prop := lookRulesUptoRow.holds Tryz.pinned (OpenSpec.upto lookRulesSpec)

/-- 'gerundlaw16.LookFollows', WHERE WHAT IT READS IS OF BULK AT MOST 1048576: true; the input reads as it did. -/
def lookFollowsUptoRow : OpenClaim := { program := "ytihmlbdfcmfbdaagreat", sum := "c83c890aa654e05f7ec9664cf53f26bb389bb4546834f9f83a0590923c162dcb", func := "gerund/gerundlaw16.LookFollows", spec := "lookFollows", unfollowed := true, recurses := true, plainKeys := false, apart := false, narrowed := true }
def LookFollowsUptoSaid : Prop := lookFollowsUptoRow.holds Tryz.pinned (OpenSpec.upto lookFollowsSpec)

/-- 'gerundlaw16.LookStands', WHERE WHAT IT READS IS OF BULK AT MOST 1048576: true; the input reads as it did. -/
def lookStandsUptoRow : OpenClaim := { program := "ytihmlbdfcmfbdaagreat", sum := "c83c890aa654e05f7ec9664cf53f26bb389bb4546834f9f83a0590923c162dcb", func := "gerund/gerundlaw16.LookStands", spec := "lookStands", unfollowed := true, recurses := true, plainKeys := false, apart := false, narrowed := true }
def LookStandsUptoSaid : Prop := lookStandsUptoRow.holds Tryz.pinned (OpenSpec.upto lookStandsSpec)

/-- 'gerundlaw17.TableBuilds', WHERE WHAT IT READS IS OF BULK AT MOST 1048576: true; the input reads as it did. -/
def tableBuildsUptoRow : OpenClaim := { program := "ytihmlbdfcmfbdaagreat", sum := "c83c890aa654e05f7ec9664cf53f26bb389bb4546834f9f83a0590923c162dcb", func := "gerund/gerundlaw17.TableBuilds", spec := "tableBuilds", unfollowed := true, recurses := true, plainKeys := false, apart := false, narrowed := true }
def TableBuildsUptoSaid : Prop := tableBuildsUptoRow.holds Tryz.pinned (OpenSpec.upto tableBuildsSpec)

/-- 'gerundlaw17.TableClear', WHERE WHAT IT READS IS OF BULK AT MOST 1048576: true; the input reads as it did. -/
def tableClearUptoRow : OpenClaim := { program := "ytihmlbdfcmfbdaagreat", sum := "c83c890aa654e05f7ec9664cf53f26bb389bb4546834f9f83a0590923c162dcb", func := "gerund/gerundlaw17.TableClear", spec := "tableClear", unfollowed := true, recurses := true, plainKeys := false, apart := false, narrowed := true }
def TableClearUptoSaid : Prop := tableClearUptoRow.holds Tryz.pinned (OpenSpec.upto tableClearSpec)

/-- 'gerundlaw17.TableShifts', WHERE WHAT IT READS IS OF BULK AT MOST 1048576: true; the input reads as it did. -/
def tableShiftsUptoRow : OpenClaim := { program := "ytihmlbdfcmfbdaagreat", sum := "c83c890aa654e05f7ec9664cf53f26bb389bb4546834f9f83a0590923c162dcb", func := "gerund/gerundlaw17.TableShifts", spec := "tableShifts", unfollowed := true, recurses := true, plainKeys := false, apart := false, narrowed := true }
def TableShiftsUptoSaid : Prop := tableShiftsUptoRow.holds Tryz.pinned (OpenSpec.upto tableShiftsSpec)

end Rows
end Go.Proofs.YtihmlbdfcmfbdaaGreat
