/-
  For every grammar, table that are handed in, gerundlaw17.TableMay returns true, and each argument reads afterwards as it read before.
  Conditions: none beyond those of the row.
-/
import Derived.Test.YtkkdjpnkhhlnpaaGreatRows
import Derived.Test.YtkkdjpnkhhlnpaaGreatSGzA1N
set_option linter.unusedSimpArgs false
set_option linter.unusedVariables false
set_option linter.unusedSimpArgs false
set_option maxRecDepth 100000
namespace Go.Proofs.YtkkdjpnkhhlnpaaGreat
open Go Go.ChangeShapes Go.WideShapes Go.ChangeAt Go.RowKit Gv
theorem own:ownKnob Tryz.prog.godebug=none:=by kernel_rfl
theorem laidOut:laidOutB Tryz.prog=true:=by kernel_rfl
theorem F3 {w w':World} (h:cA w w') (k:df w.heap w'.heap (fun _=>False)):Below w.heap.size w w' :=
  ⟨h.os,h.tape,h.output,h.size,fun b hb=>k b hb id⟩
set_option maxHeartbeats 2000000 in
theorem vq (os:Os) (started:os.Started) (H:Type) (enc:TypeId × Value→H) :
    ReturnsInHanded {} Tryz.checked os 11 .any (Rows.tableMaySpec.pre6 enc Tryz.prog Tryz.f11 Rows.tableMayRow.domain false) (Rows.tableMaySpec.post enc Tryz.prog Tryz.f11 false true false false):=by
  refine returnsInHanded_of_change_sized (C:=Tryz.checked) own started (by kernel_rfl) Tryz.func11
    (ChangeSpec.witness6 (enc:=enc) (C:=Tryz.checked) false ⟨#[],#[.agg #[.slice none 0 0,.slice none 0 0,.slice none 0 0,.int .i64 0],.agg #[.slice none 0 0,.slice none 0 0]],[]⟩ 8 (by kernel_rfl) (by kernel_rfl) (by kernel_rfl) (by kernel_rfl)) ?_
  intro W base args ds gs before hval0 hW _ hwt _
  have hval:∀ (j:Nat) t v,Tryz.f11.params[j]?=some t→args[j]?=some v→Value.okWide Tryz.prog W .any base t v:=hval0
  have hW':=hW
  obtain ⟨p,q,hA0,hV,rfl,hfz,hnd⟩:=hW
  have hA:DataW.TrodAll enc Tryz.prog W 0 (fun _=>true) true Tryz.f11.params.toList args.toList ds p:=hA0
  have hlt:=hW'.lt
  rw[Tryz.params11] at hA hval
  obtain ⟨v0,v1,d0,d1,p0,p1,rfl,rfl,rfl,h0,h1⟩:=trodAll_two hA
  obtain ⟨rfl,rfl⟩:=trodVars_none hV
  obtain ⟨cs0,rfl,hcs0⟩:=okWide_struct Tryz.underlying26 (hval 0 26 v0 rfl rfl)
  obtain ⟨cs1,rfl,hcs1⟩:=okWide_struct Tryz.underlying33 (hval 1 33 v1 rfl rfl)
  obtain ⟨fuel0,hf0⟩:=h0
  have hw0:Wt Tryz.prog 26 d0:=fun n hn=>by
    have:=List.all_eq_true.1 hwt n (DataW.weights_mem_each (j:=0) (t:=26) (d:=d0) rfl rfl n hn)
    simpa using this
  obtain ⟨g0,hg0,hrel0⟩:=He enc W 0 (fun _=>true) true fuel0 cs0.toList (d0,p0) hf0 hw0
  obtain ⟨fuel1,hf1⟩:=h1
  have hw1:Wt Tryz.prog 33 d1:=fun n hn=>by
    have:=List.all_eq_true.1 hwt n (DataW.weights_mem_each (j:=1) (t:=33) (d:=d1) rfl rfl n hn)
    simpa using this
  obtain ⟨g1,hg1,hrel1⟩:=Hv enc W 0 (fun _=>true) true fuel1 cs1.toList (d1,p1) hf1 hw1
  have hc:=AO g0 hg0 g1 hg1 (fun b=>b < W.heap.size) (fun _=>none) W [.agg cs0,.agg cs1] ⟨rfl,fun i hi=>by
    match i,hi with
    | 0,_ =>
      refine .agg _ _ (by rw[hrel0.1]; simp) fun j hj=>?_
      have:=hrel0.2 (fun _=>none) j hj
      simpa [Array.getD_eq_getD_getElem?,List.getD_eq_getElem?_getD] using this
    | 1,_ =>
      refine .agg _ _ (by rw[hrel1.1]; simp) fun j hj=>?_
      have:=hrel1.2 (fun _=>none) j hj
      simpa [Array.getD_eq_getD_getElem?,List.getD_eq_getElem?_getD] using this⟩ (fun _ h=>h)
  refine hc.mono ?_
  rintro e W' ⟨x,Z',rfl,hx,hsame,_,_,hold⟩
  have hb:=F3 hsame hold
  have hxv:x=.bool true:=by
    have:=hx fun _=>none
    cases this
    rfl
  subst hxv
  simp only[List.append_nil] at hW' hlt
  have hread0:DataW.Trod enc Tryz.prog W' 0 (fun b=>decide (b < W.heap.size)) true 26 (.agg cs0) d0 p0 :=
    Below.trod laidOut (by kernel_rfl) (of_decide_eq_true (by kernel_rfl)) ⟨fuel0,hf0⟩ hb (fun y hy=>hlt y (by simp[hy]))
  have hread1:DataW.Trod enc Tryz.prog W' 0 (fun b=>decide (b < W.heap.size)) true 33 (.agg cs1) d1 p1 :=
    Below.trod laidOut (by kernel_rfl) (of_decide_eq_true (by kernel_rfl)) ⟨fuel1,hf1⟩ hb (fun y hy=>hlt y (by simp[hy]))
  refine ⟨_,rfl,_,_,_,[],p0 ++ p1,[],hW',trodAll_mk1 (shut_bool (by kernel_rfl) true),trodAll_mk2 hread0 hread1,rfl,hb.frame _,fun h=>by cases h⟩
noncomputable abbrev jP:Program:=Tryz.checked.prog
noncomputable abbrev jN:Nat:=11
noncomputable abbrev jF:Func:=Tryz.f11
noncomputable abbrev jS:ChangeSpec:=Rows.tableMaySpec
noncomputable abbrev jC:OpenClaim:=Rows.tableMayRow
theorem cM {a b:Bool} (h:a=true) (k:b=true):(a && b)=true:=by rw[h,k]; rfl
theorem I6:(jC.wf (OpenSpec.ofChange jS))=true:=by kernel_rfl
theorem I8:(laidOutB jP)=true:=by kernel_rfl
theorem Jc:(mapsRowed jP)=true:=by kernel_rfl
theorem Jb:(jF.params.all (jP.readableRec ·))=true:=by kernel_rfl
theorem I3:(namedTie jP jC.named jS.vars)=true:=by kernel_rfl
theorem I9:((jC.stops == []))=true:=by kernel_rfl
theorem Ja:((jP.stops == []))=true:=by kernel_rfl
theorem Jf:((jC.knobs == []))=true:=by kernel_rfl
theorem I7:((jP.stopKnobs == []))=true:=by kernel_rfl
theorem I4:((jC.inPlace == jP.inPlace jN))=true:=by kernel_rfl
theorem IX:((jC.unfollowed == jP.unfollowed jN))=true:=by kernel_rfl
theorem IS:((jC.recurses == jP.recurses jN))=true:=by kernel_rfl
theorem II:((jC.named == jP.varsNamed jN))=true:=by kernel_rfl
theorem IP:((jC.maps == (jF.params.toList ++ jS.plain.varTypes jP).any (jP.mapsRec ·)))=true:=by kernel_rfl
theorem IB:((jC.ifaces == (jF.params.toList ++ jS.plain.varTypes jP).any (jP.ifacesRec ·)))=true:=by kernel_rfl
theorem IC:((jC.mapsOut == jP.mapsAmong jF.resultTypes.toList))=true:=by kernel_rfl
theorem IL:((jC.loops == (jF.params.toList ++ jS.plain.varTypes jP).any (jP.loopsFrom ·)))=true:=by kernel_rfl
theorem IG:((jC.wideKeys == (jF.params.toList ++ jS.plain.varTypes jP ++ jF.resultTypes.toList).any (jP.wideKeysFrom ·)))=true:=by kernel_rfl
theorem Iy:(jS.vars.all (jP.varReadable ·))=true:=by kernel_rfl
theorem IZ:(jF.resultTypes.all (fun t=>jP.readableRec t && decide (t < jP.types.size)))=true:=by kernel_rfl
theorem Iw:((jC.ifacesOut == jF.resultTypes.toList.any (jP.ifacesRec ·)))=true:=by kernel_rfl
theorem Ix:((jC.loopsOut == jF.resultTypes.toList.any (jP.loopsFrom ·)))=true:=by kernel_rfl
theorem IF:((jC.plainKeys == jP.plainKeys))=true:=by kernel_rfl
theorem ID:(jC.shortTexts.isNone)=true:=by kernel_rfl
theorem IW:(jP.stopsHeard)=true:=by kernel_rfl
theorem IJ:(jP.mayEnter)=true:=by kernel_rfl
theorem Iv:((jC.lifted == jP.liftsFinal))=true:=by kernel_rfl
theorem Iu:((jP.make == some jC.make))=true:=by kernel_rfl
theorem IA:((jC.kinds == (if jC.domain.isEmpty then [] else jF.params.toList.map fun t=>match jP.underlying t with | some (.int k)=>some k | _=>none)))=true:=by kernel_rfl
theorem Iz:((jC.pinned == jC.pinnedBy))=true:=by kernel_rfl
theorem I0:((jC.veiled == (jF.params.toList ++ jS.plain.varTypes jP ++ jF.resultTypes.toList).any (jP.veiledRec ·)))=true:=by kernel_rfl
theorem IH:(jC.veiledFits jP jF.params.toList (jF.params.toList ++ jS.plain.varTypes jP ++ jF.resultTypes.toList))=true:=by kernel_rfl
theorem I1:joinedFacts jP jN jF jS jC=true:=cM (cM (cM (cM (cM (cM (cM (cM (cM (cM (cM (cM (cM (cM (cM (cM (cM (cM (cM (cM (cM (cM (cM (cM (cM (cM (cM (cM (cM (cM (cM (I6) I8) Jc) Jb) I3) I9) Ja) Jf) I7) I4) IX) IS) II) IP) IB) IC) IL) IG) Iy) IZ) Iw) Ix) IF) ID) IW) IJ) Iv) Iu) IA) Iz) I0) IH
theorem tableMay_holds:Rows.TableMaySaid :=
  OpenClaim.holds_of_wide 11 Tryz.f11 rfl rfl rfl rfl rfl rfl rfl ⟨rfl,rfl,rfl,rfl,rfl⟩ rfl rfl rfl rfl rfl (by kernel_rfl) Tryz.func11 I1
    (of_decide_eq_true (by kernel_rfl)) (by unfold Func.isWrapper; rw[if_neg (by decide +kernel)]; exact ⟨rfl,rfl⟩)
    (fun os started H enc _=>vq os started H enc)
end Go.Proofs.YtkkdjpnkhhlnpaaGreat
