/-
  For every list of lookaheads, int that are handed in, gerundlaw16.LookRules returns true, and each argument reads afterwards as it read before.
  Conditions: none beyond those of the row.
-/
import Derived.Test.YtihmlbdfcmfbdaaGreatRows
import Derived.Test.YtihmlbdfcmfbdaaGreatSGzA4M
set_option linter.unusedSimpArgs false
set_option linter.unusedVariables false
set_option linter.unusedSimpArgs false
set_option maxRecDepth 100000
namespace Go.Proofs.YtihmlbdfcmfbdaaGreat
open Go Go.ChangeShapes Go.WideShapes Go.ChangeAt Go.RowKit Gv
theorem own:ownKnob Tryz.prog.godebug=none:=by kernel_rfl
theorem laidOut:laidOutB Tryz.prog=true:=by kernel_rfl
theorem GY {w w':World} (h:cQ w w') (k:dB w.heap w'.heap (fun _=>False)):Below w.heap.size w w' :=
  ⟨h.os,h.tape,h.output,h.size,fun b hb=>k b hb id⟩
set_option maxHeartbeats 2000000 in
theorem uj (os:Os) (started:os.Started) (H:Type) (enc:TypeId × Value→H) :
    ReturnsInHanded {} Tryz.checked os 9 .any (Rows.lookRulesSpec.pre6 enc Tryz.prog Tryz.f9 Rows.lookRulesRow.domain false) (Rows.lookRulesSpec.post enc Tryz.prog Tryz.f9 false true false false):=by
  refine returnsInHanded_of_change_sized (C:=Tryz.checked) own started (by kernel_rfl) Tryz.func9
    (ChangeSpec.witness6 (enc:=enc) (C:=Tryz.checked) false ⟨#[],#[.slice none 0 0,.int .i64 0],[]⟩ 8 (by kernel_rfl) (by kernel_rfl) (by kernel_rfl) (by kernel_rfl)) ?_
  intro W base args ds gs before hval0 hW _ hwt _
  have hval:∀ (j:Nat) t v,Tryz.f9.params[j]?=some t→args[j]?=some v→Value.okWide Tryz.prog W .any base t v:=hval0
  have hW':=hW
  obtain ⟨p,q,hA0,hV,rfl,hfz,hnd⟩:=hW
  have hA:DataW.TrodAll enc Tryz.prog W 0 (fun _=>true) true Tryz.f9.params.toList args.toList ds p:=hA0
  have hlt:=hW'.lt
  rw[Tryz.params9] at hA hval
  obtain ⟨v0,v1,d0,d1,p0,p1,rfl,rfl,rfl,h0,h1⟩:=trodAll_two hA
  obtain ⟨rfl,rfl⟩:=trodVars_none hV
  obtain ⟨sa0,ie,sc0,rfl⟩:=okWide_slice Tryz.underlying61 (hval 0 61 v0 rfl rfl)
  obtain ⟨n1,rfl,rfl,rfl,wn1⟩:=open_int Tryz.underlying3 (hval 1 3 v1 rfl rfl) h1
  obtain ⟨fuel0,hf0⟩:=h0
  have hw0:Wt Tryz.prog 61 d0:=fun n hn=>by
    have:=List.all_eq_true.1 hwt n (DataW.weights_mem_each (j:=0) (t:=61) (d:=d0) rfl rfl n hn)
    simpa using this
  obtain ⟨l0,hl0,hrel0⟩:=HW enc W 0 (fun _=>true) true fuel0 [.slice sa0 ie sc0] (d0,p0) hf0 hw0
  have hb1 : -9223372036854775808≤n1∧n1≤9223372036854775807:=by
    simp only[Lit.wf,Bool.and_eq_true,decide_eq_true_eq] at wn1
    exact wn1
  have hc:=zx l0 hl0.1 hl0.2 n1 hb1 (fun b=>b < W.heap.size) (fun _=>none) W [.slice sa0 ie sc0,.int .i64 n1] ⟨rfl,fun i hi=>by
    match i,hi with
    | 0,_=>exact hrel0.2 (fun _=>none) 0 (by simp)
    | 1,_=>exact .val _ rfl⟩ (fun _ h=>h)
  refine hc.mono ?_
  rintro e W' ⟨x,Z',rfl,hx,hsame,_,_,hold⟩
  have hb:=GY hsame hold
  have hxv:x=.bool true:=by
    have:=hx fun _=>none
    cases this
    rfl
  subst hxv
  simp only[List.append_nil] at hW' hlt
  have hread0:DataW.Trod enc Tryz.prog W' 0 (fun b=>decide (b < W.heap.size)) true 61 (.slice sa0 ie sc0) d0 p0 :=
    Below.trod laidOut (by kernel_rfl) (of_decide_eq_true (by kernel_rfl)) ⟨fuel0,hf0⟩ hb (fun y hy=>hlt y (by simp[hy]))
  refine ⟨_,rfl,_,_,_,[],p0 ++ [],[],hW',trodAll_mk1 (shut_bool (by kernel_rfl) true),trodAll_mk2 hread0 (shut_int Tryz.underlying3 wn1),rfl,hb.frame _,fun h=>by cases h⟩
noncomputable abbrev jP:Program:=Tryz.checked.prog
noncomputable abbrev jN:Nat:=9
noncomputable abbrev jF:Func:=Tryz.f9
noncomputable abbrev jS:ChangeSpec:=Rows.lookRulesSpec
noncomputable abbrev jC:OpenClaim:=Rows.lookRulesRow
theorem c6 {a b:Bool} (h:a=true) (k:b=true):(a && b)=true:=by rw[h,k]; rfl
theorem Li:(jC.wf (OpenSpec.ofChange jS))=true:=by kernel_rfl
theorem Lo:(laidOutB jP)=true:=by kernel_rfl
theorem Le:(mapsRowed jP)=true:=by kernel_rfl
theorem Ll:(jF.params.all (jP.readableRec ·))=true:=by kernel_rfl
theorem Lm:(namedTie jP jC.named jS.vars)=true:=by kernel_rfl
theorem Lc:((jC.stops == []))=true:=by kernel_rfl
theorem Lk:((jP.stops == []))=true:=by kernel_rfl
theorem Lt:((jC.knobs == []))=true:=by kernel_rfl
theorem Lh:((jP.stopKnobs == []))=true:=by kernel_rfl
theorem Lj:((jC.inPlace == jP.inPlace jN))=true:=by kernel_rfl
theorem KK:((jC.unfollowed == jP.unfollowed jN))=true:=by kernel_rfl
theorem KT:((jC.recurses == jP.recurses jN))=true:=by kernel_rfl
theorem KY:((jC.named == jP.varsNamed jN))=true:=by kernel_rfl
theorem KC:((jC.maps == (jF.params.toList ++ jS.plain.varTypes jP).any (jP.mapsRec ·)))=true:=by kernel_rfl
theorem KU:((jC.ifaces == (jF.params.toList ++ jS.plain.varTypes jP).any (jP.ifacesRec ·)))=true:=by kernel_rfl
theorem K6:((jC.mapsOut == jP.mapsAmong jF.resultTypes.toList))=true:=by kernel_rfl
theorem La:((jC.loops == (jF.params.toList ++ jS.plain.varTypes jP).any (jP.loopsFrom ·)))=true:=by kernel_rfl
theorem KJ:((jC.wideKeys == (jF.params.toList ++ jS.plain.varTypes jP ++ jF.resultTypes.toList).any (jP.wideKeysFrom ·)))=true:=by kernel_rfl
theorem KM:(jS.vars.all (jP.varReadable ·))=true:=by kernel_rfl
theorem KL:(jF.resultTypes.all (fun t=>jP.readableRec t && decide (t < jP.types.size)))=true:=by kernel_rfl
theorem KZ:((jC.ifacesOut == jF.resultTypes.toList.any (jP.ifacesRec ·)))=true:=by kernel_rfl
theorem K7:((jC.loopsOut == jF.resultTypes.toList.any (jP.loopsFrom ·)))=true:=by kernel_rfl
theorem KS:((jC.plainKeys == jP.plainKeys))=true:=by kernel_rfl
theorem KA:(jC.shortTexts.isNone)=true:=by kernel_rfl
theorem KB:(jP.stopsHeard)=true:=by kernel_rfl
theorem KD:(jP.mayEnter)=true:=by kernel_rfl
theorem Kw:((jC.lifted == jP.liftsFinal))=true:=by kernel_rfl
theorem Kx:((jP.make == some jC.make))=true:=by kernel_rfl
theorem KG:((jC.kinds == (if jC.domain.isEmpty then [] else jF.params.toList.map fun t=>match jP.underlying t with | some (.int k)=>some k | _=>none)))=true:=by kernel_rfl
theorem K1:((jC.pinned == jC.pinnedBy))=true:=by kernel_rfl
theorem K5:((jC.veiled == (jF.params.toList ++ jS.plain.varTypes jP ++ jF.resultTypes.toList).any (jP.veiledRec ·)))=true:=by kernel_rfl
theorem KQ:(jC.veiledFits jP jF.params.toList (jF.params.toList ++ jS.plain.varTypes jP ++ jF.resultTypes.toList))=true:=by kernel_rfl
theorem K8:joinedFacts jP jN jF jS jC=true:=c6 (c6 (c6 (c6 (c6 (c6 (c6 (c6 (c6 (c6 (c6 (c6 (c6 (c6 (c6 (c6 (c6 (c6 (c6 (c6 (c6 (c6 (c6 (c6 (c6 (c6 (c6 (c6 (c6 (c6 (c6 (Li) Lo) Le) Ll) Lm) Lc) Lk) Lt) Lh) Lj) KK) KT) KY) KC) KU) K6) La) KJ) KM) KL) KZ) K7) KS) KA) KB) KD) Kw) Kx) KG) K1) K5) KQ
theorem lookRules_holds:Rows.LookRulesSaid :=
  OpenClaim.holds_of_wide 9 Tryz.f9 rfl rfl rfl rfl rfl rfl rfl ⟨rfl,rfl,rfl,rfl,rfl⟩ rfl rfl rfl rfl rfl (by kernel_rfl) Tryz.func9 K8
    (of_decide_eq_true (by kernel_rfl)) (by unfold Func.isWrapper; rw[if_neg (by decide +kernel)]; exact ⟨rfl,rfl⟩)
    (fun os started H enc _=>uj os started H enc)
end Go.Proofs.YtihmlbdfcmfbdaaGreat
