/-
  For every grammar, 16-bit number that are handed in, gerundlaw15.AutoMoves returns true, and each argument reads afterwards as it read before.
  Conditions: none beyond those of the row.
-/
import Derived.Test.YtihmlbdfcmfbdaaGreatRows
import Derived.Test.YtihmlbdfcmfbdaaGreatSGzA8P
set_option linter.unusedSimpArgs false
set_option linter.unusedVariables false
set_option linter.unusedSimpArgs false
set_option maxRecDepth 100000
namespace Go.Proofs.YtihmlbdfcmfbdaaGreat
open Go Go.ChangeShapes Go.WideShapes Go.ChangeAt Go.RowKit Gv
theorem own:ownKnob Tryz.prog.godebug=none:=by kernel_rfl
theorem laidOut:laidOutB Tryz.prog=true:=by kernel_rfl
theorem K8 {w w':World} (h:dC w w') (k:eO w.heap w'.heap (fun _=>False)):Below w.heap.size w w' :=
  ⟨h.os,h.tape,h.output,h.size,fun b hb=>k b hb id⟩
set_option maxHeartbeats 2000000 in
theorem xK (os:Os) (started:os.Started) (H:Type) (enc:TypeId × Value→H) :
    ReturnsInHanded {} Tryz.checked os 7 .any (Rows.autoMovesSpec.pre6 enc Tryz.prog Tryz.f7 Rows.autoMovesRow.domain false) (Rows.autoMovesSpec.post enc Tryz.prog Tryz.f7 false true false false):=by
  refine returnsInHanded_of_change_sized (C:=Tryz.checked) own started (by kernel_rfl) Tryz.func7
    (ChangeSpec.witness6 (enc:=enc) (C:=Tryz.checked) false ⟨#[],#[.agg #[.slice none 0 0,.slice none 0 0,.slice none 0 0,.int .i64 0],.int .u16 0],[]⟩ 8 (by kernel_rfl) (by kernel_rfl) (by kernel_rfl) (by kernel_rfl)) ?_
  intro W base args ds gs before hval0 hW _ hwt _
  have hval:∀ (j:Nat) t v,Tryz.f7.params[j]?=some t→args[j]?=some v→Value.okWide Tryz.prog W .any base t v:=hval0
  have hW':=hW
  obtain ⟨p,q,hA0,hV,rfl,hfz,hnd⟩:=hW
  have hA:DataW.TrodAll enc Tryz.prog W 0 (fun _=>true) true Tryz.f7.params.toList args.toList ds p:=hA0
  have hlt:=hW'.lt
  rw[Tryz.params7] at hA hval
  obtain ⟨v0,v1,d0,d1,p0,p1,rfl,rfl,rfl,h0,h1⟩:=trodAll_two hA
  obtain ⟨rfl,rfl⟩:=trodVars_none hV
  obtain ⟨cs0,rfl,hcs0⟩:=okWide_struct Tryz.underlying26 (hval 0 26 v0 rfl rfl)
  obtain ⟨n1,rfl,rfl,rfl,wn1⟩:=open_int Tryz.underlying53 (hval 1 53 v1 rfl rfl) h1
  obtain ⟨fuel0,hf0⟩:=h0
  have hw0:Wt Tryz.prog 26 d0:=fun n hn=>by
    have:=List.all_eq_true.1 hwt n (DataW.weights_mem_each (j:=0) (t:=26) (d:=d0) rfl rfl n hn)
    simpa using this
  obtain ⟨g0,hg0,hrel0⟩:=MA enc W 0 (fun _=>true) true fuel0 cs0.toList (d0,p0) hf0 hw0
  have hb1:0≤n1∧n1≤65535:=by
    simp only[Lit.wf,Bool.and_eq_true,decide_eq_true_eq] at wn1
    exact wn1
  have hc:=EI g0 hg0 n1 hb1.1 hb1.2 (fun b=>b < W.heap.size) (fun _=>none) W [.agg cs0,.int .u16 n1] ⟨rfl,fun i hi=>by
    match i,hi with
    | 0,_ =>
      refine .agg _ _ (by rw[hrel0.1]; simp) fun j hj=>?_
      have:=hrel0.2 (fun _=>none) j hj
      simpa [Array.getD_eq_getD_getElem?,List.getD_eq_getElem?_getD] using this
    | 1,_=>exact .val _ rfl⟩ (fun _ h=>h)
  refine hc.mono ?_
  rintro e W' ⟨x,Z',rfl,hx,hsame,_,_,hold⟩
  have hb:=K8 hsame hold
  have hxv:x=.bool true:=by
    have:=hx fun _=>none
    cases this
    rfl
  subst hxv
  simp only[List.append_nil] at hW' hlt
  have hread0:DataW.Trod enc Tryz.prog W' 0 (fun b=>decide (b < W.heap.size)) true 26 (.agg cs0) d0 p0 :=
    Below.trod laidOut (by kernel_rfl) (of_decide_eq_true (by kernel_rfl)) ⟨fuel0,hf0⟩ hb (fun y hy=>hlt y (by simp[hy]))
  refine ⟨_,rfl,_,_,_,[],p0 ++ [],[],hW',trodAll_mk1 (shut_bool (by kernel_rfl) true),trodAll_mk2 hread0 (shut_int Tryz.underlying53 wn1),rfl,hb.frame _,fun h=>by cases h⟩
noncomputable abbrev jP:Program:=Tryz.checked.prog
noncomputable abbrev jN:Nat:=7
noncomputable abbrev jF:Func:=Tryz.f7
noncomputable abbrev jS:ChangeSpec:=Rows.autoMovesSpec
noncomputable abbrev jC:OpenClaim:=Rows.autoMovesRow
theorem dU {a b:Bool} (h:a=true) (k:b=true):(a && b)=true:=by rw[h,k]; rfl
theorem Px:(jC.wf (OpenSpec.ofChange jS))=true:=by kernel_rfl
theorem Pu:(laidOutB jP)=true:=by kernel_rfl
theorem PD:(mapsRowed jP)=true:=by kernel_rfl
theorem Pp:(jF.params.all (jP.readableRec ·))=true:=by kernel_rfl
theorem Pv:(namedTie jP jC.named jS.vars)=true:=by kernel_rfl
theorem PB:((jC.stops == []))=true:=by kernel_rfl
theorem Pg:((jP.stops == []))=true:=by kernel_rfl
theorem PC:((jC.knobs == []))=true:=by kernel_rfl
theorem Pl:((jP.stopKnobs == []))=true:=by kernel_rfl
theorem Pk:((jC.inPlace == jP.inPlace jN))=true:=by kernel_rfl
theorem OI:((jC.unfollowed == jP.unfollowed jN))=true:=by kernel_rfl
theorem Pb:((jC.recurses == jP.recurses jN))=true:=by kernel_rfl
theorem O8:((jC.named == jP.varsNamed jN))=true:=by kernel_rfl
theorem OS:((jC.maps == (jF.params.toList ++ jS.plain.varTypes jP).any (jP.mapsRec ·)))=true:=by kernel_rfl
theorem O5:((jC.ifaces == (jF.params.toList ++ jS.plain.varTypes jP).any (jP.ifacesRec ·)))=true:=by kernel_rfl
theorem OF:((jC.mapsOut == jP.mapsAmong jF.resultTypes.toList))=true:=by kernel_rfl
theorem OW:((jC.loops == (jF.params.toList ++ jS.plain.varTypes jP).any (jP.loopsFrom ·)))=true:=by kernel_rfl
theorem OX:((jC.wideKeys == (jF.params.toList ++ jS.plain.varTypes jP ++ jF.resultTypes.toList).any (jP.wideKeysFrom ·)))=true:=by kernel_rfl
theorem OY:(jS.vars.all (jP.varReadable ·))=true:=by kernel_rfl
theorem ON:(jF.resultTypes.all (fun t=>jP.readableRec t && decide (t < jP.types.size)))=true:=by kernel_rfl
theorem Pd:((jC.ifacesOut == jF.resultTypes.toList.any (jP.ifacesRec ·)))=true:=by kernel_rfl
theorem OO:((jC.loopsOut == jF.resultTypes.toList.any (jP.loopsFrom ·)))=true:=by kernel_rfl
theorem OC:((jC.plainKeys == jP.plainKeys))=true:=by kernel_rfl
theorem O6:(jC.shortTexts.isNone)=true:=by kernel_rfl
theorem O7:(jP.stopsHeard)=true:=by kernel_rfl
theorem Pf:(jP.mayEnter)=true:=by kernel_rfl
theorem Ox:((jC.lifted == jP.liftsFinal))=true:=by kernel_rfl
theorem OG:((jP.make == some jC.make))=true:=by kernel_rfl
theorem OA:((jC.kinds == (if jC.domain.isEmpty then [] else jF.params.toList.map fun t=>match jP.underlying t with | some (.int k)=>some k | _=>none)))=true:=by kernel_rfl
theorem OM:((jC.pinned == jC.pinnedBy))=true:=by kernel_rfl
theorem OU:((jC.veiled == (jF.params.toList ++ jS.plain.varTypes jP ++ jF.resultTypes.toList).any (jP.veiledRec ·)))=true:=by kernel_rfl
theorem OH:(jC.veiledFits jP jF.params.toList (jF.params.toList ++ jS.plain.varTypes jP ++ jF.resultTypes.toList))=true:=by kernel_rfl
theorem O2:joinedFacts jP jN jF jS jC=true:=dU (dU (dU (dU (dU (dU (dU (dU (dU (dU (dU (dU (dU (dU (dU (dU (dU (dU (dU (dU (dU (dU (dU (dU (dU (dU (dU (dU (dU (dU (dU (Px) Pu) PD) Pp) Pv) PB) Pg) PC) Pl) Pk) OI) Pb) O8) OS) O5) OF) OW) OX) OY) ON) Pd) OO) OC) O6) O7) Pf) Ox) OG) OA) OM) OU) OH
theorem autoMoves_holds:Rows.AutoMovesSaid :=
  OpenClaim.holds_of_wide 7 Tryz.f7 rfl rfl rfl rfl rfl rfl rfl ⟨rfl,rfl,rfl,rfl,rfl⟩ rfl rfl rfl rfl rfl (by kernel_rfl) Tryz.func7 O2
    (of_decide_eq_true (by kernel_rfl)) (by unfold Func.isWrapper; rw[if_neg (by decide +kernel)]; exact ⟨rfl,rfl⟩)
    (fun os started H enc _=>xK os started H enc)
end Go.Proofs.YtihmlbdfcmfbdaaGreat
