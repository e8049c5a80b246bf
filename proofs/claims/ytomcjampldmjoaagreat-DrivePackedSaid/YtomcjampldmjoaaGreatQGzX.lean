/-
  For every grammar, packed table, list of numbers that are handed in, gerundlaw19.DrivePacked returns true, and each argument reads afterwards as it read before.
  Conditions: none beyond those of the row.
-/
import Derived.Test.YtomcjampldmjoaaGreatRows
import Derived.Test.YtomcjampldmjoaaGreatSGzXP
set_option linter.unusedSimpArgs false
set_option linter.unusedVariables false
set_option linter.unusedSimpArgs false
set_option maxRecDepth 100000
namespace Go.Proofs.YtomcjampldmjoaaGreat
open Go Go.ChangeShapes Go.WideShapes Go.ChangeAt Go.RowKit Gv
theorem own:ownKnob Tryz.prog.godebug=none:=by kernel_rfl
theorem laidOut:laidOutB Tryz.prog=true:=by kernel_rfl
theorem Nb {w w':World} (h:dc w w') (k:eu w.heap w'.heap (fun _=>False)):Below w.heap.size w w' :=
  ⟨h.os,h.tape,h.output,h.size,fun b hb=>k b hb id⟩
set_option maxHeartbeats 2000000 in
theorem xS (os:Os) (started:os.Started) (H:Type) (enc:TypeId × Value→H) :
    ReturnsInHanded {} Tryz.checked os 4 .any (Rows.drivePackedSpec.pre6 enc Tryz.prog Tryz.f4 Rows.drivePackedRow.domain false) (Rows.drivePackedSpec.post enc Tryz.prog Tryz.f4 false true false false):=by
  refine returnsInHanded_of_change_sized (C:=Tryz.checked) own started (by kernel_rfl) Tryz.func4
    (ChangeSpec.witness6 (enc:=enc) (C:=Tryz.checked) false ⟨#[],#[.agg #[.slice none 0 0,.slice none 0 0,.slice none 0 0,.int .i64 0],.agg #[.int .i64 0,.int .i64 0,.slice none 0 0,.slice none 0 0,.slice none 0 0,.slice none 0 0],.slice none 0 0],[]⟩ 8 (by kernel_rfl) (by kernel_rfl) (by kernel_rfl) (by kernel_rfl)) ?_
  intro W base args ds gs before hval0 hW _ hwt _
  have hval:∀ (j:Nat) t v,Tryz.f4.params[j]?=some t→args[j]?=some v→Value.okWide Tryz.prog W .any base t v:=hval0
  have hW':=hW
  obtain ⟨p,q,hA0,hV,rfl,hfz,hnd⟩:=hW
  have hA:DataW.TrodAll enc Tryz.prog W 0 (fun _=>true) true Tryz.f4.params.toList args.toList ds p:=hA0
  have hlt:=hW'.lt
  rw[Tryz.params4] at hA hval
  obtain ⟨v0,v1,v2,d0,d1,d2,p0,p1,p2,rfl,rfl,rfl,h0,h1,h2⟩:=trodAll_three hA
  obtain ⟨rfl,rfl⟩:=trodVars_none hV
  obtain ⟨cs0,rfl,hcs0⟩:=okWide_struct Tryz.underlying26 (hval 0 26 v0 rfl rfl)
  obtain ⟨cs1,rfl,hcs1⟩:=okWide_struct Tryz.underlying45 (hval 1 45 v1 rfl rfl)
  obtain ⟨sa2,sl2,sc2,rfl⟩:=okWide_slice Tryz.underlying31 (hval 2 31 v2 rfl rfl)
  obtain ⟨fuel0,hf0⟩:=h0
  have hw0:Wt Tryz.prog 26 d0:=fun n hn=>by
    have:=List.all_eq_true.1 hwt n (DataW.weights_mem_each (j:=0) (t:=26) (d:=d0) rfl rfl n hn)
    simpa using this
  obtain ⟨g0,hg0,hrel0⟩:=OM enc W 0 (fun _=>true) true fuel0 cs0.toList (d0,p0) hf0 hw0
  obtain ⟨fuel1,hf1⟩:=h1
  have hw1:Wt Tryz.prog 45 d1:=fun n hn=>by
    have:=List.all_eq_true.1 hwt n (DataW.weights_mem_each (j:=1) (t:=45) (d:=d1) rfl rfl n hn)
    simpa using this
  obtain ⟨g1,hg1,hrel1⟩:=Lc enc W 0 (fun _=>true) true fuel1 cs1.toList (d1,p1) hf1 hw1
  obtain ⟨fuel2,hf2⟩:=h2
  have hw2:Wt Tryz.prog 31 d2:=fun n hn=>by
    have:=List.all_eq_true.1 hwt n (DataW.weights_mem_each (j:=2) (t:=31) (d:=d2) rfl rfl n hn)
    simpa using this
  obtain ⟨l2,hl2,hrel2⟩:=za enc W 0 (fun _=>true) true fuel2 [.slice sa2 sl2 sc2] (d2,p2) hf2 hw2
  have hc:=B2 g0 hg0 g1 hg1 l2 hl2.1 hl2.2 (fun b=>b < W.heap.size) (fun _=>none) W [.agg cs0,.agg cs1,.slice sa2 sl2 sc2] ⟨rfl,fun i hi=>by
    match i,hi with
    | 0,_ =>
      refine .agg _ _ (by rw[hrel0.1]; simp) fun j hj=>?_
      have:=hrel0.2 (fun _=>none) j hj
      simpa [Array.getD_eq_getD_getElem?,List.getD_eq_getElem?_getD] using this
    | 1,_ =>
      refine .agg _ _ (by rw[hrel1.1]; simp) fun j hj=>?_
      have:=hrel1.2 (fun _=>none) j hj
      simpa [Array.getD_eq_getD_getElem?,List.getD_eq_getElem?_getD] using this
    | 2,_=>exact hrel2.2 (fun _=>none) 0 (by simp)⟩ (fun _ h=>h)
  refine hc.mono ?_
  rintro e W' ⟨x,Z',rfl,hx,hsame,_,_,hold⟩
  have hb:=Nb hsame hold
  have hxv:x=.bool true:=by
    have:=hx fun _=>none
    cases this
    rfl
  subst hxv
  simp only[List.append_nil] at hW' hlt
  have hread0:DataW.Trod enc Tryz.prog W' 0 (fun b=>decide (b < W.heap.size)) true 26 (.agg cs0) d0 p0 :=
    Below.trod laidOut (by kernel_rfl) (of_decide_eq_true (by kernel_rfl)) ⟨fuel0,hf0⟩ hb (fun y hy=>hlt y (by simp[hy]))
  have hread1:DataW.Trod enc Tryz.prog W' 0 (fun b=>decide (b < W.heap.size)) true 45 (.agg cs1) d1 p1 :=
    Below.trod laidOut (by kernel_rfl) (of_decide_eq_true (by kernel_rfl)) ⟨fuel1,hf1⟩ hb (fun y hy=>hlt y (by simp[hy]))
  have hread2:DataW.Trod enc Tryz.prog W' 0 (fun b=>decide (b < W.heap.size)) true 31 (.slice sa2 sl2 sc2) d2 p2 :=
    Below.trod laidOut (by kernel_rfl) (of_decide_eq_true (by kernel_rfl)) ⟨fuel2,hf2⟩ hb (fun y hy=>hlt y (by simp[hy]))
  refine ⟨_,rfl,_,_,_,[],p0 ++ (p1 ++ p2),[],hW',trodAll_mk1 (shut_bool (by kernel_rfl) true),trodAll_mk3 hread0 hread1 hread2,rfl,hb.frame _,fun h=>by cases h⟩
theorem drivePacked_holds:Rows.DrivePackedSaid :=
  OpenClaim.holds_of_wide 4 Tryz.f4 rfl rfl rfl rfl rfl rfl rfl ⟨rfl,rfl,rfl,rfl,rfl⟩ rfl rfl rfl rfl rfl (by kernel_rfl) Tryz.func4 (by kernel_rfl)
    (of_decide_eq_true (by kernel_rfl)) (by unfold Func.isWrapper; rw[if_neg (by decide +kernel)]; exact ⟨rfl,rfl⟩)
    (fun os started H enc _=>xS os started H enc)
end Go.Proofs.YtomcjampldmjoaaGreat
