/-
  The tied card of ReplayHalves.
  Conditions: none beyond those of the row.
-/
import Derived.Test.YtoamakccoedejaaGreatDoorCards
import Derived.Test.YtoamakccoedejaaGreatDoorTie
import Derived.Test.YtoamakccoedejaaGreatDoorSGjSJ
set_option linter.unusedSimpArgs false
set_option linter.unusedVariables false
set_option linter.unusedSimpArgs false
set_option maxRecDepth 100000
namespace Go.Proofs.YtoamakccoedejaaGreatDoor
open Go
theorem FD:false=Rows.replayHalvesRow.goesBy Tryz.pinned.checked.prog:=by kernel_rfl
theorem Fe:false=Tryz.pinned.checked.prog.looks []:=by kernel_rfl
theorem FB:Rows.replayHalvesRow.wfByText (OpenSpec.ofChange Rows.replayHalvesSpec)=true:=by kernel_rfl
theorem replayHalvesCard_holds:Rows.ReplayHalvesCardSaid:=
 Claim7.holds_tied_plain_at .later [] [.data] true (true,"bf8c8ecdc7c03bd63e9e8c1b9646bd50c4ef3bd3a43f79386fba2a5bc55b9df9") false
  replayHalves_holds (λ_ h=>by cases h) FB (λ_ h=>by cases h) replayHalves_row_tie rfl ⟨rfl,rfl⟩ (by kernel_rfl) rfl
  (λf fn d b=>by
   obtain rfl:f=3:=Option.some.inj ((show Tryz.prog.funcNamed "gerund/gerundlaw30.ReplayHalves" = some 3 by kernel_rfl).symm.trans d) |>.symm
   obtain rfl:fn=Tryz.f3:=(Option.some.inj (Tryz.func3.symm.trans b)).symm
   exact⟨Fe,λj t c=>by
    rw[Tryz.params3] at c
    have hm:t∈[23]:=by simpa using Array.mem_of_getElem? c
    have a:([23].all λu=>!Tryz.prog.wantsStandIn u)=true:=by kernel_rfl
    exact(show Tryz.prog.wantsStandIn t=false by simpa using List.all_eq_true.1 a t hm)⟩)
  FD
end Go.Proofs.YtoamakccoedejaaGreatDoor
