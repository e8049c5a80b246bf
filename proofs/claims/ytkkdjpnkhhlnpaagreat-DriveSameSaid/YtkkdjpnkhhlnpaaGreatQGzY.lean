/-
  For every grammar, list of numbers that are handed in, gerundlaw19.DriveSame returns true, and each argument reads afterwards as it read before.
  Conditions: none beyond those of the row.
-/
import Derived.Test.YtkkdjpnkhhlnpaaGreatRows
import Derived.Test.YtkkdjpnkhhlnpaaGreatSGzYR
set_option linter.unusedSimpArgs false
set_option linter.unusedVariables false
set_option linter.unusedSimpArgs false
set_option maxRecDepth 100000
namespace Go.Proofs.YtkkdjpnkhhlnpaaGreat
open Go Go.ChangeShapes Go.WideShapes Go.ChangeAt Go.RowKit Gv
theorem own:ownKnob Tryz.prog.godebug=none:=by kernel_rfl
theorem laidOut:laidOutB Tryz.prog=true:=by kernel_rfl
theorem O3 {w w':World} (h:dV w w') (k:fq w.heap w'.heap (fun _=>False)):Below w.heap.size w w' :=
  ⟨h.os,h.tape,h.output,h.size,fun b hb=>k b hb id⟩
set_option maxHeartbeats 2000000 in
theorem AF (os:Os) (started:os.Started) (H:Type) (enc:TypeId × Value→H) :
    ReturnsInHanded {} Tryz.checked os 3 .any (Rows.driveSameSpec.pre6 enc Tryz.prog Tryz.f3 Rows.driveSameRow.domain false) (Rows.driveSameSpec.post enc Tryz.prog Tryz.f3 false true false false):=by
  refine returnsInHanded_of_change_sized (C:=Tryz.checked) own started (by kernel_rfl) Tryz.func3
    (ChangeSpec.witness6 (enc:=enc) (C:=Tryz.checked) false ⟨#[],#[.agg #[.slice none 0 0,.slice none 0 0,.slice none 0 0,.int .i64 0],.slice none 0 0],[]⟩ 8 (by kernel_rfl) (by kernel_rfl) (by kernel_rfl) (by kernel_rfl)) ?_
  intro W base args ds gs before hval0 hW _ hwt _
  have hval:∀ (j:Nat) t v,Tryz.f3.params[j]?=some t→args[j]?=some v→Value.okWide Tryz.prog W .any base t v:=hval0
  have hW':=hW
  obtain ⟨p,q,hA0,hV,rfl,hfz,hnd⟩:=hW
  have hA:DataW.TrodAll enc Tryz.prog W 0 (fun _=>true) true Tryz.f3.params.toList args.toList ds p:=hA0
  have hlt:=hW'.lt
  rw[Tryz.params3] at hA hval
  obtain ⟨v0,v1,d0,d1,p0,p1,rfl,rfl,rfl,h0,h1⟩:=trodAll_two hA
  obtain ⟨rfl,rfl⟩:=trodVars_none hV
  obtain ⟨cs0,rfl,hcs0⟩:=okWide_struct Tryz.underlying26 (hval 0 26 v0 rfl rfl)
  obtain ⟨sa1,sl1,sc1,rfl⟩:=okWide_slice Tryz.underlying27 (hval 1 27 v1 rfl rfl)
  obtain ⟨fuel0,hf0⟩:=h0
  have hw0:Wt Tryz.prog 26 d0:=fun n hn=>by
    have:=List.all_eq_true.1 hwt n (DataW.weights_mem_each (j:=0) (t:=26) (d:=d0) rfl rfl n hn)
    simpa using this
  obtain ⟨g0,hg0,hrel0⟩:=QH enc W 0 (fun _=>true) true fuel0 cs0.toList (d0,p0) hf0 hw0
  obtain ⟨fuel1,hf1⟩:=h1
  have hw1:Wt Tryz.prog 27 d1:=fun n hn=>by
    have:=List.all_eq_true.1 hwt n (DataW.weights_mem_each (j:=1) (t:=27) (d:=d1) rfl rfl n hn)
    simpa using this
  obtain ⟨l1,hl1,hrel1⟩:=IZ enc W 0 (fun _=>true) true fuel1 [.slice sa1 sl1 sc1] (d1,p1) hf1 hw1
  have hc:=He g0 hg0 l1 hl1.1 hl1.2 (fun b=>b < W.heap.size) (fun _=>none) W [.agg cs0,.slice sa1 sl1 sc1] ⟨rfl,fun i hi=>by
    match i,hi with
    | 0,_ =>
      refine .agg _ _ (by rw[hrel0.1]; simp) fun j hj=>?_
      have:=hrel0.2 (fun _=>none) j hj
      simpa [Array.getD_eq_getD_getElem?,List.getD_eq_getElem?_getD] using this
    | 1,_=>exact hrel1.2 (fun _=>none) 0 (by simp)⟩ (fun _ h=>h)
  refine hc.mono ?_
  rintro e W' ⟨x,Z',rfl,hx,hsame,_,_,hold⟩
  have hb:=O3 hsame hold
  have hxv:x=.bool true:=by
    have:=hx fun _=>none
    cases this
    rfl
  subst hxv
  simp only[List.append_nil] at hW' hlt
  have hread0:DataW.Trod enc Tryz.prog W' 0 (fun b=>decide (b < W.heap.size)) true 26 (.agg cs0) d0 p0 :=
    Below.trod laidOut (by kernel_rfl) (of_decide_eq_true (by kernel_rfl)) ⟨fuel0,hf0⟩ hb (fun y hy=>hlt y (by simp[hy]))
  have hread1:DataW.Trod enc Tryz.prog W' 0 (fun b=>decide (b < W.heap.size)) true 27 (.slice sa1 sl1 sc1) d1 p1 :=
    Below.trod laidOut (by kernel_rfl) (of_decide_eq_true (by kernel_rfl)) ⟨fuel1,hf1⟩ hb (fun y hy=>hlt y (by simp[hy]))
  refine ⟨_,rfl,_,_,_,[],p0 ++ p1,[],hW',trodAll_mk1 (shut_bool (by kernel_rfl) true),trodAll_mk2 hread0 hread1,rfl,hb.frame _,fun h=>by cases h⟩
noncomputable abbrev jP:Program:=Tryz.checked.prog
noncomputable abbrev jN:Nat:=3
noncomputable abbrev jF:Func:=Tryz.f3
noncomputable abbrev jS:ChangeSpec:=Rows.driveSameSpec
noncomputable abbrev jC:OpenClaim:=Rows.driveSameRow
theorem eu {a b:Bool} (h:a=true) (k:b=true):(a && b)=true:=by rw[h,k]; rfl
theorem S7:(jC.wf (OpenSpec.ofChange jS))=true:=by kernel_rfl
theorem S3:(laidOutB jP)=true:=by kernel_rfl
theorem Ti:(mapsRowed jP)=true:=by kernel_rfl
theorem SY:(jF.params.all (jP.readableRec ·))=true:=by kernel_rfl
theorem S5:(namedTie jP jC.named jS.vars)=true:=by kernel_rfl
theorem Tc:((jC.stops == []))=true:=by kernel_rfl
theorem Te:((jP.stops == []))=true:=by kernel_rfl
theorem S8:((jC.knobs == []))=true:=by kernel_rfl
theorem S4:((jP.stopKnobs == []))=true:=by kernel_rfl
theorem S0:((jC.inPlace == jP.inPlace jN))=true:=by kernel_rfl
theorem Sf:((jC.unfollowed == jP.unfollowed jN))=true:=by kernel_rfl
theorem SP:((jC.recurses == jP.recurses jN))=true:=by kernel_rfl
theorem Sr:((jC.named == jP.varsNamed jN))=true:=by kernel_rfl
theorem Sm:((jC.maps == (jF.params.toList ++ jS.plain.varTypes jP).any (jP.mapsRec ·)))=true:=by kernel_rfl
theorem Sv:((jC.ifaces == (jF.params.toList ++ jS.plain.varTypes jP).any (jP.ifacesRec ·)))=true:=by kernel_rfl
theorem St:((jC.mapsOut == jP.mapsAmong jF.resultTypes.toList))=true:=by kernel_rfl
theorem SQ:((jC.loops == (jF.params.toList ++ jS.plain.varTypes jP).any (jP.loopsFrom ·)))=true:=by kernel_rfl
theorem SD:((jC.wideKeys == (jF.params.toList ++ jS.plain.varTypes jP ++ jF.resultTypes.toList).any (jP.wideKeysFrom ·)))=true:=by kernel_rfl
theorem Sy:(jS.vars.all (jP.varReadable ·))=true:=by kernel_rfl
theorem SW:(jF.resultTypes.all (fun t=>jP.readableRec t && decide (t < jP.types.size)))=true:=by kernel_rfl
theorem SK:((jC.ifacesOut == jF.resultTypes.toList.any (jP.ifacesRec ·)))=true:=by kernel_rfl
theorem Se:((jC.loopsOut == jF.resultTypes.toList.any (jP.loopsFrom ·)))=true:=by kernel_rfl
theorem Sd:((jC.plainKeys == jP.plainKeys))=true:=by kernel_rfl
theorem Sl:(jC.shortTexts.isNone)=true:=by kernel_rfl
theorem Sh:(jP.stopsHeard)=true:=by kernel_rfl
theorem SE:(jP.mayEnter)=true:=by kernel_rfl
theorem SV:((jC.lifted == jP.liftsFinal))=true:=by kernel_rfl
theorem SN:((jP.make == some jC.make))=true:=by kernel_rfl
theorem Sk:((jC.kinds == (if jC.domain.isEmpty then [] else jF.params.toList.map fun t=>match jP.underlying t with | some (.int k)=>some k | _=>none)))=true:=by kernel_rfl
theorem Su:((jC.pinned == jC.pinnedBy))=true:=by kernel_rfl
theorem Sn:((jC.veiled == (jF.params.toList ++ jS.plain.varTypes jP ++ jF.resultTypes.toList).any (jP.veiledRec ·)))=true:=by kernel_rfl
theorem SA:(jC.veiledFits jP jF.params.toList (jF.params.toList ++ jS.plain.varTypes jP ++ jF.resultTypes.toList))=true:=by kernel_rfl
theorem SL:joinedFacts jP jN jF jS jC=true:=eu (eu (eu (eu (eu (eu (eu (eu (eu (eu (eu (eu (eu (eu (eu (eu (eu (eu (eu (eu (eu (eu (eu (eu (eu (eu (eu (eu (eu (eu (eu (S7) S3) Ti) SY) S5) Tc) Te) S8) S4) S0) Sf) SP) Sr) Sm) Sv) St) SQ) SD) Sy) SW) SK) Se) Sd) Sl) Sh) SE) SV) SN) Sk) Su) Sn) SA
theorem driveSame_holds:Rows.DriveSameSaid :=
  OpenClaim.holds_of_wide 3 Tryz.f3 rfl rfl rfl rfl rfl rfl rfl ⟨rfl,rfl,rfl,rfl,rfl⟩ rfl rfl rfl rfl rfl (by kernel_rfl) Tryz.func3 SL
    (of_decide_eq_true (by kernel_rfl)) (by unfold Func.isWrapper; rw[if_neg (by decide +kernel)]; exact ⟨rfl,rfl⟩)
    (fun os started H enc _=>AF os started H enc)
end Go.Proofs.YtkkdjpnkhhlnpaaGreat
