/-
  For every grammar, list of items that are handed in, gerundlaw15.AutoItems returns true, and each argument reads afterwards as it read before.
  Conditions: none beyond those of the row.
-/
import Derived.Test.YtihmlbdfcmfbdaaGreatRows
import Derived.Test.YtihmlbdfcmfbdaaGreatSGzA5O
set_option linter.unusedSimpArgs false
set_option linter.unusedVariables false
set_option linter.unusedSimpArgs false
set_option maxRecDepth 100000
namespace Go.Proofs.YtihmlbdfcmfbdaaGreat
open Go Go.ChangeShapes Go.WideShapes Go.ChangeAt Go.RowKit Gv
theorem own:ownKnob Tryz.prog.godebug=none:=by kernel_rfl
theorem laidOut:laidOutB Tryz.prog=true:=by kernel_rfl
theorem Kv {w w':World} (h:dx w w') (k:eL w.heap w'.heap (fun _=>False)):Below w.heap.size w w' :=
  ⟨h.os,h.tape,h.output,h.size,fun b hb=>k b hb id⟩
set_option maxHeartbeats 2000000 in
theorem xx (os:Os) (started:os.Started) (H:Type) (enc:TypeId × Value→H) :
    ReturnsInHanded {} Tryz.checked os 3 .any (Rows.autoItemsSpec.pre6 enc Tryz.prog Tryz.f3 Rows.autoItemsRow.domain false) (Rows.autoItemsSpec.post enc Tryz.prog Tryz.f3 false true false false):=by
  refine returnsInHanded_of_change_sized (C:=Tryz.checked) own started (by kernel_rfl) Tryz.func3
    (ChangeSpec.witness6 (enc:=enc) (C:=Tryz.checked) false ⟨#[],#[.agg #[.slice none 0 0,.slice none 0 0,.slice none 0 0,.int .i64 0],.slice none 0 0],[]⟩ 8 (by kernel_rfl) (by kernel_rfl) (by kernel_rfl) (by kernel_rfl)) ?_
  intro W base args ds gs before hval0 hW _ hwt _
  have hval:∀ (j:Nat) t v,Tryz.f3.params[j]?=some t→args[j]?=some v→Value.okWide Tryz.prog W .any base t v:=hval0
  have hW':=hW
  obtain ⟨p,q,hA0,hV,rfl,hfz,hnd⟩:=hW
  have hA:DataW.TrodAll enc Tryz.prog W 0 (fun _=>true) true Tryz.f3.params.toList args.toList ds p:=hA0
  have hlt:=hW'.lt
  rw[Tryz.params3] at hA hval
  obtain ⟨v0,v1,d0,d1,p0,p1,rfl,rfl,rfl,h0,h1⟩:=trodAll_two hA
  obtain ⟨rfl,rfl⟩:=trodVars_none hV
  obtain ⟨cs0,rfl,hcs0⟩:=okWide_struct Tryz.underlying26 (hval 0 26 v0 rfl rfl)
  obtain ⟨sa1,sl1,sc1,rfl⟩:=okWide_slice Tryz.underlying27 (hval 1 27 v1 rfl rfl)
  obtain ⟨fuel0,hf0⟩:=h0
  have hw0:Wt Tryz.prog 26 d0:=fun n hn=>by
    have:=List.all_eq_true.1 hwt n (DataW.weights_mem_each (j:=0) (t:=26) (d:=d0) rfl rfl n hn)
    simpa using this
  obtain ⟨g0,hg0,hrel0⟩:=Mv enc W 0 (fun _=>true) true fuel0 cs0.toList (d0,p0) hf0 hw0
  obtain ⟨fuel1,hf1⟩:=h1
  have hw1:Wt Tryz.prog 27 d1:=fun n hn=>by
    have:=List.all_eq_true.1 hwt n (DataW.weights_mem_each (j:=1) (t:=27) (d:=d1) rfl rfl n hn)
    simpa using this
  obtain ⟨l1,hl1,hrel1⟩:=Kc enc W 0 (fun _=>true) true fuel1 [.slice sa1 sl1 sc1] (d1,p1) hf1 hw1
  have hc:=D8 g0 hg0 l1 hl1.1 hl1.2 (fun b=>b < W.heap.size) (fun _=>none) W [.agg cs0,.slice sa1 sl1 sc1] ⟨rfl,fun i hi=>by
    match i,hi with
    | 0,_ =>
      refine .agg _ _ (by rw[hrel0.1]; simp) fun j hj=>?_
      have:=hrel0.2 (fun _=>none) j hj
      simpa [Array.getD_eq_getD_getElem?,List.getD_eq_getElem?_getD] using this
    | 1,_=>exact hrel1.2 (fun _=>none) 0 (by simp)⟩ (fun _ h=>h)
  refine hc.mono ?_
  rintro e W' ⟨x,Z',rfl,hx,hsame,_,_,hold⟩
  have hb:=Kv hsame hold
  have hxv:x=.bool true:=by
    have:=hx fun _=>none
    cases this
    rfl
  subst hxv
  simp only[List.append_nil] at hW' hlt
  have hread0:DataW.Trod enc Tryz.prog W' 0 (fun b=>decide (b < W.heap.size)) true 26 (.agg cs0) d0 p0 :=
    Below.trod laidOut (by kernel_rfl) (of_decide_eq_true (by kernel_rfl)) ⟨fuel0,hf0⟩ hb (fun y hy=>hlt y (by simp[hy]))
  have hread1:DataW.Trod enc Tryz.prog W' 0 (fun b=>decide (b < W.heap.size)) true 27 (.slice sa1 sl1 sc1) d1 p1 :=
    Below.trod laidOut (by kernel_rfl) (of_decide_eq_true (by kernel_rfl)) ⟨fuel1,hf1⟩ hb (fun y hy=>hlt y (by simp[hy]))
  refine ⟨_,rfl,_,_,_,[],p0 ++ p1,[],hW',trodAll_mk1 (shut_bool (by kernel_rfl) true),trodAll_mk2 hread0 hread1,rfl,hb.frame _,fun h=>by cases h⟩
noncomputable abbrev jP:Program:=Tryz.checked.prog
noncomputable abbrev jN:Nat:=3
noncomputable abbrev jF:Func:=Tryz.f3
noncomputable abbrev jS:ChangeSpec:=Rows.autoItemsSpec
noncomputable abbrev jC:OpenClaim:=Rows.autoItemsRow
theorem dT {a b:Bool} (h:a=true) (k:b=true):(a && b)=true:=by rw[h,k]; rfl
theorem OV:(jC.wf (OpenSpec.ofChange jS))=true:=by kernel_rfl
theorem OQ:(laidOutB jP)=true:=by kernel_rfl
theorem OO:(mapsRowed jP)=true:=by kernel_rfl
theorem OX:(jF.params.all (jP.readableRec ·))=true:=by kernel_rfl
theorem O2:(namedTie jP jC.named jS.vars)=true:=by kernel_rfl
theorem ON:((jC.stops == []))=true:=by kernel_rfl
theorem OW:((jP.stops == []))=true:=by kernel_rfl
theorem O3:((jC.knobs == []))=true:=by kernel_rfl
theorem OR:((jP.stopKnobs == []))=true:=by kernel_rfl
theorem OM:((jC.inPlace == jP.inPlace jN))=true:=by kernel_rfl
theorem OA:((jC.unfollowed == jP.unfollowed jN))=true:=by kernel_rfl
theorem Oq:((jC.recurses == jP.recurses jN))=true:=by kernel_rfl
theorem N4:((jC.named == jP.varsNamed jN))=true:=by kernel_rfl
theorem Ow:((jC.maps == (jF.params.toList ++ jS.plain.varTypes jP).any (jP.mapsRec ·)))=true:=by kernel_rfl
theorem OH:((jC.ifaces == (jF.params.toList ++ jS.plain.varTypes jP).any (jP.ifacesRec ·)))=true:=by kernel_rfl
theorem OD:((jC.mapsOut == jP.mapsAmong jF.resultTypes.toList))=true:=by kernel_rfl
theorem Oj:((jC.loops == (jF.params.toList ++ jS.plain.varTypes jP).any (jP.loopsFrom ·)))=true:=by kernel_rfl
theorem N5:((jC.wideKeys == (jF.params.toList ++ jS.plain.varTypes jP ++ jF.resultTypes.toList).any (jP.wideKeysFrom ·)))=true:=by kernel_rfl
theorem Ot:(jS.vars.all (jP.varReadable ·))=true:=by kernel_rfl
theorem On:(jF.resultTypes.all (fun t=>jP.readableRec t && decide (t < jP.types.size)))=true:=by kernel_rfl
theorem N2:((jC.ifacesOut == jF.resultTypes.toList.any (jP.ifacesRec ·)))=true:=by kernel_rfl
theorem N1:((jC.loopsOut == jF.resultTypes.toList.any (jP.loopsFrom ·)))=true:=by kernel_rfl
theorem Oh:((jC.plainKeys == jP.plainKeys))=true:=by kernel_rfl
theorem Og:(jC.shortTexts.isNone)=true:=by kernel_rfl
theorem N7:(jP.stopsHeard)=true:=by kernel_rfl
theorem Oo:(jP.mayEnter)=true:=by kernel_rfl
theorem N9:((jC.lifted == jP.liftsFinal))=true:=by kernel_rfl
theorem Oe:((jP.make == some jC.make))=true:=by kernel_rfl
theorem N8:((jC.kinds == (if jC.domain.isEmpty then [] else jF.params.toList.map fun t=>match jP.underlying t with | some (.int k)=>some k | _=>none)))=true:=by kernel_rfl
theorem OG:((jC.pinned == jC.pinnedBy))=true:=by kernel_rfl
theorem OJ:((jC.veiled == (jF.params.toList ++ jS.plain.varTypes jP ++ jF.resultTypes.toList).any (jP.veiledRec ·)))=true:=by kernel_rfl
theorem Ob:(jC.veiledFits jP jF.params.toList (jF.params.toList ++ jS.plain.varTypes jP ++ jF.resultTypes.toList))=true:=by kernel_rfl
theorem Oa:joinedFacts jP jN jF jS jC=true:=dT (dT (dT (dT (dT (dT (dT (dT (dT (dT (dT (dT (dT (dT (dT (dT (dT (dT (dT (dT (dT (dT (dT (dT (dT (dT (dT (dT (dT (dT (dT (OV) OQ) OO) OX) O2) ON) OW) O3) OR) OM) OA) Oq) N4) Ow) OH) OD) Oj) N5) Ot) On) N2) N1) Oh) Og) N7) Oo) N9) Oe) N8) OG) OJ) Ob
theorem autoItems_holds:Rows.AutoItemsSaid :=
  OpenClaim.holds_of_wide 3 Tryz.f3 rfl rfl rfl rfl rfl rfl rfl ⟨rfl,rfl,rfl,rfl,rfl⟩ rfl rfl rfl rfl rfl (by kernel_rfl) Tryz.func3 Oa
    (of_decide_eq_true (by kernel_rfl)) (by unfold Func.isWrapper; rw[if_neg (by decide +kernel)]; exact ⟨rfl,rfl⟩)
    (fun os started H enc _=>xx os started H enc)
end Go.Proofs.YtihmlbdfcmfbdaaGreat
