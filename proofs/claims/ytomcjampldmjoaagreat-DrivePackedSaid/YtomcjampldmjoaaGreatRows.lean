/-
  No cell of these rows narrows 'for every input' (looked for: loops, veiled, ifaces, maps, wideKeys, modest, calm, conditions, laid).
  DERIVED. THE GIVEN ROWS OF THIS SEAT. 8 by the template 'for every input the law returns true; each argument reads behind the call as it read before'; 0 by the template 'total and deterministic' (their statements: YtomcjampldmjoaaGreatTotals.lean).
  GIVEN WITH THE SEED: the statements are not yours to turn. If you find one false, say at which input.
  Laid BY PROGRAM, IN A SANDBOX (cutbox-rows.mjs): the forced cells as the released guide's own fill.sh prints them over the translation af6e38963022f2a5… (all of the seat's roots in one cut). By AI agents, Wed Nov 11 2026. No macro, syntax, notation, axiom, sorry.
-/
import Derived.Test.YtomcjampldmjoaaGreatChecked
import GoSem.Claim
import GoSem.ClaimJoined
import GoSem.ClaimMapViews
import Derived.JoinedTies
import Derived.KernelRfl
namespace Go.Proofs.YtomcjampldmjoaaGreat
/- THE CELL 'sum', in the pinned program and in every row, IS THE sha256 OF THE DUMP (.gsa) THAT YtomcjampldmjoaaGreatProg.lean LOADS. Nothing in Lean hashes anything: it is a label: what it is worth is what the hold of that sum in a sandbox is worth. -/
noncomputable def Tryz.pinned : Pinned := { name := "ytomcjampldmjoaagreat", sum := "af6e38963022f2a55f098469732f756f052a754c6ecde59b931d35fac5155d4f", checked := Tryz.checked }
namespace Rows
def none {H : Type} : Left H := { results := [], args := [] }

/-- 'gerundlaw19.DriveRuns': WHATEVER THE INPUT: true; the input reads as it did. -/
def driveRunsSpec : ChangeSpec := { name := "driveRuns", fn := fun _ => fun
  | [d1, d2, d3] => { results := [.lit (.bool true)], args := [d1, d2, d3] }
  | _ => none }
def driveRunsRow : OpenClaim := { program := "ytomcjampldmjoaagreat", sum := "af6e38963022f2a55f098469732f756f052a754c6ecde59b931d35fac5155d4f", func := "gerund/gerundlaw19.DriveRuns", spec := "driveRuns", unfollowed := true, recurses := true, apart := false }
def DriveRunsSaid : Prop := driveRunsRow.holds Tryz.pinned (OpenSpec.ofChange driveRunsSpec)

/-- ITS FALSE NEIGHBOUR: 'it returns false'. Refute it at one input. -/
def driveRunsWrong : ChangeSpec := { name := "driveRuns", fn := fun _ => fun
  | [d1, d2, d3] => { results := [.lit (.bool false)], args := [d1, d2, d3] }
  | _ => none }
def DriveRunsWrongFalsely : Prop := driveRunsRow.holds Tryz.pinned (OpenSpec.ofChange driveRunsWrong)

/-- 'gerundlaw19.DrivePacked': WHATEVER THE INPUT: true; the input reads as it did. -/
def drivePackedSpec : ChangeSpec := { name := "drivePacked", fn := fun _ => fun
  | [d1, d2, d3] => { results := [.lit (.bool true)], args := [d1, d2, d3] }
  | _ => none }
def drivePackedRow : OpenClaim := { program := "ytomcjampldmjoaagreat", sum := "af6e38963022f2a55f098469732f756f052a754c6ecde59b931d35fac5155d4f", func := "gerund/gerundlaw19.DrivePacked", spec := "drivePacked", unfollowed := true, recurses := true, apart := false }
def DrivePackedSaid : Prop := drivePackedRow.holds Tryz.pinned (OpenSpec.ofChange drivePackedSpec)

/-- ITS FALSE NEIGHBOUR: 'it returns false'. Refute it at one input. -/
def drivePackedWrong : ChangeSpec := { name := "drivePacked", fn := fun _ => fun
  | [d1, d2, d3] => { results := [.lit (.bool false)], args := [d1, d2, d3] }
  | _ => none }
def DrivePackedWrongFalsely : Prop := drivePackedRow.holds Tryz.pinned (OpenSpec.ofChange drivePackedWrong)

/-- 'gerundlaw19.DriveSame': WHATEVER THE INPUT: true; the input reads as it did. -/
def driveSameSpec : ChangeSpec := { name := "driveSame", fn := fun _ => fun
  | [d1, d2] => { results := [.lit (.bool true)], args := [d1, d2] }
  | _ => none }
def driveSameRow : OpenClaim := { program := "ytomcjampldmjoaagreat", sum := "af6e38963022f2a55f098469732f756f052a754c6ecde59b931d35fac5155d4f", func := "gerund/gerundlaw19.DriveSame", spec := "driveSame", unfollowed := true, recurses := true, apart := false }
def DriveSameSaid : Prop := driveSameRow.holds Tryz.pinned (OpenSpec.ofChange driveSameSpec)

/-- ITS FALSE NEIGHBOUR: 'it returns false'. Refute it at one input. -/
def driveSameWrong : ChangeSpec := { name := "driveSame", fn := fun _ => fun
  | [d1, d2] => { results := [.lit (.bool false)], args := [d1, d2] }
  | _ => none }
def DriveSameWrongFalsely : Prop := driveSameRow.holds Tryz.pinned (OpenSpec.ofChange driveSameWrong)

/-- 'gerundlaw19.DriveDerives': WHATEVER THE INPUT: true; the input reads as it did. -/
def driveDerivesSpec : ChangeSpec := { name := "driveDerives", fn := fun _ => fun
  | [d1, d2] => { results := [.lit (.bool true)], args := [d1, d2] }
  | _ => none }
def driveDerivesRow : OpenClaim := { program := "ytomcjampldmjoaagreat", sum := "af6e38963022f2a55f098469732f756f052a754c6ecde59b931d35fac5155d4f", func := "gerund/gerundlaw19.DriveDerives", spec := "driveDerives", unfollowed := true, recurses := true, apart := false }
def DriveDerivesSaid : Prop := driveDerivesRow.holds Tryz.pinned (OpenSpec.ofChange driveDerivesSpec)

/-- ITS FALSE NEIGHBOUR: 'it returns false'. Refute it at one input. -/
def driveDerivesWrong : ChangeSpec := { name := "driveDerives", fn := fun _ => fun
  | [d1, d2] => { results := [.lit (.bool false)], args := [d1, d2] }
  | _ => none }
def DriveDerivesWrongFalsely : Prop := driveDerivesRow.holds Tryz.pinned (OpenSpec.ofChange driveDerivesWrong)

/-- 'gerundlaw25.CoverThrough': WHATEVER THE INPUT: true; the input reads as it did. -/
def coverThroughSpec : ChangeSpec := { name := "coverThrough", fn := fun _ => fun
  | [d1, d2] => { results := [.lit (.bool true)], args := [d1, d2] }
  | _ => none }
def coverThroughRow : OpenClaim := { program := "ytomcjampldmjoaagreat", sum := "af6e38963022f2a55f098469732f756f052a754c6ecde59b931d35fac5155d4f", func := "gerund/gerundlaw25.CoverThrough", spec := "coverThrough", unfollowed := true, recurses := true, apart := false }
def CoverThroughSaid : Prop := coverThroughRow.holds Tryz.pinned (OpenSpec.ofChange coverThroughSpec)

/-- ITS FALSE NEIGHBOUR: 'it returns false'. Refute it at one input. -/
def coverThroughWrong : ChangeSpec := { name := "coverThrough", fn := fun _ => fun
  | [d1, d2] => { results := [.lit (.bool false)], args := [d1, d2] }
  | _ => none }
def CoverThroughWrongFalsely : Prop := coverThroughRow.holds Tryz.pinned (OpenSpec.ofChange coverThroughWrong)

/-- 'gerundlaw25.CoverTrees': WHATEVER THE INPUT: true; the input reads as it did. -/
def coverTreesSpec : ChangeSpec := { name := "coverTrees", fn := fun _ => fun
  | [d] => { results := [.lit (.bool true)], args := [d] }
  | _ => none }
def coverTreesRow : OpenClaim := { program := "ytomcjampldmjoaagreat", sum := "af6e38963022f2a55f098469732f756f052a754c6ecde59b931d35fac5155d4f", func := "gerund/gerundlaw25.CoverTrees", spec := "coverTrees", unfollowed := true, recurses := true, apart := false }
def CoverTreesSaid : Prop := coverTreesRow.holds Tryz.pinned (OpenSpec.ofChange coverTreesSpec)

/-- ITS FALSE NEIGHBOUR: 'it returns false'. Refute it at one input. -/
def coverTreesWrong : ChangeSpec := { name := "coverTrees", fn := fun _ => fun
  | [d] => { results := [.lit (.bool false)], args := [d] }
  | _ => none }
def CoverTreesWrongFalsely : Prop := coverTreesRow.holds Tryz.pinned (OpenSpec.ofChange coverTreesWrong)

/-- 'gerundlaw25.CoverUses': WHATEVER THE INPUT: true; the input reads as it did. -/
def coverUsesSpec : ChangeSpec := { name := "coverUses", fn := fun _ => fun
  | [d1, d2] => { results := [.lit (.bool true)], args := [d1, d2] }
  | _ => none }
def coverUsesRow : OpenClaim := { program := "ytomcjampldmjoaagreat", sum := "af6e38963022f2a55f098469732f756f052a754c6ecde59b931d35fac5155d4f", func := "gerund/gerundlaw25.CoverUses", spec := "coverUses", unfollowed := true, recurses := true, apart := false }
def CoverUsesSaid : Prop := coverUsesRow.holds Tryz.pinned (OpenSpec.ofChange coverUsesSpec)

/-- ITS FALSE NEIGHBOUR: 'it returns false'. Refute it at one input. -/
def coverUsesWrong : ChangeSpec := { name := "coverUses", fn := fun _ => fun
  | [d1, d2] => { results := [.lit (.bool false)], args := [d1, d2] }
  | _ => none }
def CoverUsesWrongFalsely : Prop := coverUsesRow.holds Tryz.pinned (OpenSpec.ofChange coverUsesWrong)

/-- 'gerundlaw25.CoverAll': WHATEVER THE INPUT: true; the input reads as it did. -/
def coverAllSpec : ChangeSpec := { name := "coverAll", fn := fun _ => fun
  | [d] => { results := [.lit (.bool true)], args := [d] }
  | _ => none }
def coverAllRow : OpenClaim := { program := "ytomcjampldmjoaagreat", sum := "af6e38963022f2a55f098469732f756f052a754c6ecde59b931d35fac5155d4f", func := "gerund/gerundlaw25.CoverAll", spec := "coverAll", unfollowed := true, recurses := true, apart := false }
def CoverAllSaid : Prop := coverAllRow.holds Tryz.pinned (OpenSpec.ofChange coverAllSpec)

/-- ITS FALSE NEIGHBOUR: 'it returns false'. Refute it at one input. -/
def coverAllWrong : ChangeSpec := { name := "coverAll", fn := fun _ => fun
  | [d] => { results := [.lit (.bool false)], args := [d] }
  | _ => none }
def CoverAllWrongFalsely : Prop := coverAllRow.holds Tryz.pinned (OpenSpec.ofChange coverAllWrong)

/- THE SECOND FORM. 'bulk': how many values and letters a reading holds, each counted each time it is reached (what is shared counts as often as it is met; a slice's spare places count too). A statement '..UptoSaid' is the law's where the arguments, and the package variables that the reading takes, are together of bulk at most 1048576: NARROWER than '..Said'. Prove '..Said' where nothing that the law and all that it calls make is longer than what came in: it says more and counts as full. Else prove '..UptoSaid'. A law counts once. -/
mutual
def uptoBulk {H : Type} : DataW H → Nat
  | .lit (.string bytes) => bytes.length + 1
  | .lit _ => 1
  | .nil => 1
  | .ptr d => uptoBulk d + 1
  | .slice elems spare => uptoBulkAll elems + uptoBulkAll spare + 1
  | .agg parts => uptoBulkAll parts + 1
  | .iface _ d => uptoBulk d + 1
  | .map entries => uptoBulkEntries entries + 1
  | .held _ => 1
def uptoBulkAll {H : Type} : List (DataW H) → Nat
  | [] => 0
  | d :: r => uptoBulk d + uptoBulkAll r
def uptoBulkEntries {H : Type} : List (Lit × DataW H) → Nat
  | [] => 0
  | x :: r => uptoBulkEntry x + uptoBulkEntries r
def uptoBulkEntry {H : Type} : Lit × DataW H → Nat
  | (.string bytes, d) => bytes.length + uptoBulk d + 1
  | (_, d) => uptoBulk d + 1
 end
def uptoSmall : (H : Type) → List (DataW H) → Bool := fun _ ds => decide (uptoBulkAll ds ≤ 1048576)
def OpenSpec.upto (s : _root_.Go.ChangeSpec) : _root_.Go.OpenSpec := { _root_.Go.OpenSpec.ofChange s with cond := some uptoSmall }

/-- 'gerundlaw19.DriveRuns', WHERE WHAT IT READS IS OF BULK AT MOST 1048576: true; the input reads as it did. -/
def driveRunsUptoRow : OpenClaim := { program := "ytomcjampldmjoaagreat", sum := "af6e38963022f2a55f098469732f756f052a754c6ecde59b931d35fac5155d4f", func := "gerund/gerundlaw19.DriveRuns", spec := "driveRuns", unfollowed := true, recurses := true, apart := false, narrowed := true }
def DriveRunsUptoSaid : Prop := driveRunsUptoRow.holds Tryz.pinned (OpenSpec.upto driveRunsSpec)

/-- 'gerundlaw19.DrivePacked', WHERE WHAT IT READS IS OF BULK AT MOST 1048576: true; the input reads as it did. -/
def drivePackedUptoRow : OpenClaim := { program := "ytomcjampldmjoaagreat", sum := "af6e38963022f2a55f098469732f756f052a754c6ecde59b931d35fac5155d4f", func := "gerund/gerundlaw19.DrivePacked", spec := "drivePacked", unfollowed := true, recurses := true, apart := false, narrowed := true }
def DrivePackedUptoSaid : Prop := drivePackedUptoRow.holds Tryz.pinned (OpenSpec.upto drivePackedSpec)

/-- 'gerundlaw19.DriveSame', WHERE WHAT IT READS IS OF BULK AT MOST 1048576: true; the input reads as it did. -/
def driveSameUptoRow : OpenClaim := { program := "ytomcjampldmjoaagreat", sum := "af6e38963022f2a55f098469732f756f052a754c6ecde59b931d35fac5155d4f", func := "gerund/gerundlaw19.DriveSame", spec := "driveSame", unfollowed := true, recurses := true, apart := false, narrowed := true }
def DriveSameUptoSaid : Prop := driveSameUptoRow.holds Tryz.pinned (OpenSpec.upto driveSameSpec)

/-- 'gerundlaw19.DriveDerives', WHERE WHAT IT READS IS OF BULK AT MOST 1048576: true; the input reads as it did. -/
def driveDerivesUptoRow : OpenClaim := { program := "ytomcjampldmjoaagreat", sum := "af6e38963022f2a55f098469732f756f052a754c6ecde59b931d35fac5155d4f", func := "gerund/gerundlaw19.DriveDerives", spec := "driveDerives", unfollowed := true, recurses := true, apart := false, narrowed := true }
def DriveDerivesUptoSaid : Prop := driveDerivesUptoRow.holds Tryz.pinned (OpenSpec.upto driveDerivesSpec)

/-- 'gerundlaw25.CoverThrough', WHERE WHAT IT READS IS OF BULK AT MOST 1048576: true; the input reads as it did. -/
def coverThroughUptoRow : OpenClaim := { program := "ytomcjampldmjoaagreat", sum := "af6e38963022f2a55f098469732f756f052a754c6ecde59b931d35fac5155d4f", func := "gerund/gerundlaw25.CoverThrough", spec := "coverThrough", unfollowed := true, recurses := true, apart := false, narrowed := true }
def CoverThroughUptoSaid : Prop := coverThroughUptoRow.holds Tryz.pinned (OpenSpec.upto coverThroughSpec)

/-- 'gerundlaw25.CoverTrees', WHERE WHAT IT READS IS OF BULK AT MOST 1048576: true; the input reads as it did. -/
def coverTreesUptoRow : OpenClaim := { program := "ytomcjampldmjoaagreat", sum := "af6e38963022f2a55f098469732f756f052a754c6ecde59b931d35fac5155d4f", func := "gerund/gerundlaw25.CoverTrees", spec := "coverTrees", unfollowed := true, recurses := true, apart := false, narrowed := true }
def CoverTreesUptoSaid : Prop := coverTreesUptoRow.holds Tryz.pinned (OpenSpec.upto coverTreesSpec)

/-- 'gerundlaw25.CoverUses', WHERE WHAT IT READS IS OF BULK AT MOST 1048576: true; the input reads as it did. -/
def coverUsesUptoRow : OpenClaim := { program := "ytomcjampldmjoaagreat", sum := "af6e38963022f2a55f098469732f756f052a754c6ecde59b931d35fac5155d4f", func := "gerund/gerundlaw25.CoverUses", spec := "coverUses", unfollowed := true, recurses := true, apart := false, narrowed := true }
def CoverUsesUptoSaid : Prop := coverUsesUptoRow.holds Tryz.pinned (OpenSpec.upto coverUsesSpec)

/-- 'gerundlaw25.CoverAll', WHERE WHAT IT READS IS OF BULK AT MOST 1048576: true; the input reads as it did. -/
def coverAllUptoRow : OpenClaim := { program := "ytomcjampldmjoaagreat", sum := "af6e38963022f2a55f098469732f756f052a754c6ecde59b931d35fac5155d4f", func := "gerund/gerundlaw25.CoverAll", spec := "coverAll", unfollowed := true, recurses := true, apart := false, narrowed := true }
def CoverAllUptoSaid : Prop := coverAllUptoRow.holds Tryz.pinned (OpenSpec.upto coverAllSpec)

end Rows
end Go.Proofs.YtomcjampldmjoaaGreat
