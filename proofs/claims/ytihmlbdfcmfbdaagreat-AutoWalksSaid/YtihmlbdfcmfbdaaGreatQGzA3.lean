/-
  For every list of states, int, list of numbers that are handed in, gerundlaw15.AutoWalks returns true, and each argument reads afterwards as it read before.
  Conditions: none beyond those of the row.
-/
import Derived.Test.YtihmlbdfcmfbdaaGreatRows
import Derived.Test.YtihmlbdfcmfbdaaGreatSGzA3L
set_option linter.unusedSimpArgs false
set_option linter.unusedVariables false
set_option linter.unusedSimpArgs false
set_option maxRecDepth 100000
namespace Go.Proofs.YtihmlbdfcmfbdaaGreat
open Go Go.ChangeShapes Go.WideShapes Go.ChangeAt Go.RowKit Gv
theorem own:ownKnob Tryz.prog.godebug=none:=by kernel_rfl
theorem laidOut:laidOutB Tryz.prog=true:=by kernel_rfl
theorem G1 {w w':World} (h:cP w w') (k:dE w.heap w'.heap (fun _=>False)):Below w.heap.size w w' :=
  ⟨h.os,h.tape,h.output,h.size,fun b hb=>k b hb id⟩
set_option maxHeartbeats 2000000 in
theorem tU (os:Os) (started:os.Started) (H:Type) (enc:TypeId × Value→H) :
    ReturnsInHanded {} Tryz.checked os 5 .any (Rows.autoWalksSpec.pre6 enc Tryz.prog Tryz.f5 Rows.autoWalksRow.domain false) (Rows.autoWalksSpec.post enc Tryz.prog Tryz.f5 false true false false):=by
  refine returnsInHanded_of_change_sized (C:=Tryz.checked) own started (by kernel_rfl) Tryz.func5
    (ChangeSpec.witness6 (enc:=enc) (C:=Tryz.checked) false ⟨#[],#[.slice none 0 0,.int .i64 0,.slice none 0 0],[]⟩ 8 (by kernel_rfl) (by kernel_rfl) (by kernel_rfl) (by kernel_rfl)) ?_
  intro W base args ds gs before hval0 hW _ hwt _
  have hval:∀ (j:Nat) t v,Tryz.f5.params[j]?=some t→args[j]?=some v→Value.okWide Tryz.prog W .any base t v:=hval0
  have hW':=hW
  obtain ⟨p,q,hA0,hV,rfl,hfz,hnd⟩:=hW
  have hA:DataW.TrodAll enc Tryz.prog W 0 (fun _=>true) true Tryz.f5.params.toList args.toList ds p:=hA0
  have hlt:=hW'.lt
  rw[Tryz.params5] at hA hval
  obtain ⟨v0,v1,v2,d0,d1,d2,p0,p1,p2,rfl,rfl,rfl,h0,h1,h2⟩:=trodAll_three hA
  obtain ⟨rfl,rfl⟩:=trodVars_none hV
  obtain ⟨sa0,ir,sc0,rfl⟩:=okWide_slice Tryz.underlying38 (hval 0 38 v0 rfl rfl)
  obtain ⟨n1,rfl,rfl,rfl,wn1⟩:=open_int Tryz.underlying3 (hval 1 3 v1 rfl rfl) h1
  obtain ⟨sa2,sl2,sc2,rfl⟩:=okWide_slice Tryz.underlying43 (hval 2 43 v2 rfl rfl)
  obtain ⟨fuel0,hf0⟩:=h0
  have hw0:Wt Tryz.prog 38 d0:=fun n hn=>by
    have:=List.all_eq_true.1 hwt n (DataW.weights_mem_each (j:=0) (t:=38) (d:=d0) rfl rfl n hn)
    simpa using this
  obtain ⟨l0,hl0,hrel0⟩:=Fq enc W 0 (fun _=>true) true fuel0 [.slice sa0 ir sc0] (d0,p0) hf0 hw0
  have hb1 : -9223372036854775808≤n1∧n1≤9223372036854775807:=by
    simp only[Lit.wf,Bool.and_eq_true,decide_eq_true_eq] at wn1
    exact wn1
  obtain ⟨fuel2,hf2⟩:=h2
  have hw2:Wt Tryz.prog 43 d2:=fun n hn=>by
    have:=List.all_eq_true.1 hwt n (DataW.weights_mem_each (j:=2) (t:=43) (d:=d2) rfl rfl n hn)
    simpa using this
  obtain ⟨l2,hl2,hrel2⟩:=HT enc W 0 (fun _=>true) true fuel2 [.slice sa2 sl2 sc2] (d2,p2) hf2 hw2
  have hc:=Ac l0 hl0.1 hl0.2 n1 hb1 l2 hl2.1 hl2.2 (fun b=>b < W.heap.size) (fun _=>none) W [.slice sa0 ir sc0,.int .i64 n1,.slice sa2 sl2 sc2] ⟨rfl,fun i hi=>by
    match i,hi with
    | 0,_=>exact hrel0.2 (fun _=>none) 0 (by simp)
    | 1,_=>exact .val _ rfl
    | 2,_=>exact hrel2.2 (fun _=>none) 0 (by simp)⟩ (fun _ h=>h)
  refine hc.mono ?_
  rintro e W' ⟨x,Z',rfl,hx,hsame,_,_,hold⟩
  have hb:=G1 hsame hold
  have hxv:x=.bool true:=by
    have:=hx fun _=>none
    cases this
    rfl
  subst hxv
  simp only[List.append_nil] at hW' hlt
  have hread0:DataW.Trod enc Tryz.prog W' 0 (fun b=>decide (b < W.heap.size)) true 38 (.slice sa0 ir sc0) d0 p0 :=
    Below.trod laidOut (by kernel_rfl) (of_decide_eq_true (by kernel_rfl)) ⟨fuel0,hf0⟩ hb (fun y hy=>hlt y (by simp[hy]))
  have hread2:DataW.Trod enc Tryz.prog W' 0 (fun b=>decide (b < W.heap.size)) true 43 (.slice sa2 sl2 sc2) d2 p2 :=
    Below.trod laidOut (by kernel_rfl) (of_decide_eq_true (by kernel_rfl)) ⟨fuel2,hf2⟩ hb (fun y hy=>hlt y (by simp[hy]))
  refine ⟨_,rfl,_,_,_,[],p0 ++ ([] ++ p2),[],hW',trodAll_mk1 (shut_bool (by kernel_rfl) true),trodAll_mk3 hread0 (shut_int Tryz.underlying3 wn1) hread2,rfl,hb.frame _,fun h=>by cases h⟩
noncomputable abbrev jP:Program:=Tryz.checked.prog
noncomputable abbrev jN:Nat:=5
noncomputable abbrev jF:Func:=Tryz.f5
noncomputable abbrev jS:ChangeSpec:=Rows.autoWalksSpec
noncomputable abbrev jC:OpenClaim:=Rows.autoWalksRow
theorem c8 {a b:Bool} (h:a=true) (k:b=true):(a && b)=true:=by rw[h,k]; rfl
theorem J9:(jC.wf (OpenSpec.ofChange jS))=true:=by kernel_rfl
theorem Ka:(laidOutB jP)=true:=by kernel_rfl
theorem Ki:(mapsRowed jP)=true:=by kernel_rfl
theorem Kg:(jF.params.all (jP.readableRec ·))=true:=by kernel_rfl
theorem Ke:(namedTie jP jC.named jS.vars)=true:=by kernel_rfl
theorem Kh:((jC.stops == []))=true:=by kernel_rfl
theorem J6:((jP.stops == []))=true:=by kernel_rfl
theorem Kk:((jC.knobs == []))=true:=by kernel_rfl
theorem J5:((jP.stopKnobs == []))=true:=by kernel_rfl
theorem Kc:((jC.inPlace == jP.inPlace jN))=true:=by kernel_rfl
theorem Jt:((jC.unfollowed == jP.unfollowed jN))=true:=by kernel_rfl
theorem Jq:((jC.recurses == jP.recurses jN))=true:=by kernel_rfl
theorem JX:((jC.named == jP.varsNamed jN))=true:=by kernel_rfl
theorem JN:((jC.maps == (jF.params.toList ++ jS.plain.varTypes jP).any (jP.mapsRec ·)))=true:=by kernel_rfl
theorem JU:((jC.ifaces == (jF.params.toList ++ jS.plain.varTypes jP).any (jP.ifacesRec ·)))=true:=by kernel_rfl
theorem JI:((jC.mapsOut == jP.mapsAmong jF.resultTypes.toList))=true:=by kernel_rfl
theorem JC:((jC.loops == (jF.params.toList ++ jS.plain.varTypes jP).any (jP.loopsFrom ·)))=true:=by kernel_rfl
theorem JA:((jC.wideKeys == (jF.params.toList ++ jS.plain.varTypes jP ++ jF.resultTypes.toList).any (jP.wideKeysFrom ·)))=true:=by kernel_rfl
theorem Jv:(jS.vars.all (jP.varReadable ·))=true:=by kernel_rfl
theorem JJ:(jF.resultTypes.all (fun t=>jP.readableRec t && decide (t < jP.types.size)))=true:=by kernel_rfl
theorem Jr:((jC.ifacesOut == jF.resultTypes.toList.any (jP.ifacesRec ·)))=true:=by kernel_rfl
theorem Jx:((jC.loopsOut == jF.resultTypes.toList.any (jP.loopsFrom ·)))=true:=by kernel_rfl
theorem JM:((jC.plainKeys == jP.plainKeys))=true:=by kernel_rfl
theorem JT:(jC.shortTexts.isNone)=true:=by kernel_rfl
theorem J3:(jP.stopsHeard)=true:=by kernel_rfl
theorem Jp:(jP.mayEnter)=true:=by kernel_rfl
theorem JS:((jC.lifted == jP.liftsFinal))=true:=by kernel_rfl
theorem JR:((jP.make == some jC.make))=true:=by kernel_rfl
theorem JH:((jC.kinds == (if jC.domain.isEmpty then [] else jF.params.toList.map fun t=>match jP.underlying t with | some (.int k)=>some k | _=>none)))=true:=by kernel_rfl
theorem JY:((jC.pinned == jC.pinnedBy))=true:=by kernel_rfl
theorem Jz:((jC.veiled == (jF.params.toList ++ jS.plain.varTypes jP ++ jF.resultTypes.toList).any (jP.veiledRec ·)))=true:=by kernel_rfl
theorem J0:(jC.veiledFits jP jF.params.toList (jF.params.toList ++ jS.plain.varTypes jP ++ jF.resultTypes.toList))=true:=by kernel_rfl
theorem JZ:joinedFacts jP jN jF jS jC=true:=c8 (c8 (c8 (c8 (c8 (c8 (c8 (c8 (c8 (c8 (c8 (c8 (c8 (c8 (c8 (c8 (c8 (c8 (c8 (c8 (c8 (c8 (c8 (c8 (c8 (c8 (c8 (c8 (c8 (c8 (c8 (J9) Ka) Ki) Kg) Ke) Kh) J6) Kk) J5) Kc) Jt) Jq) JX) JN) JU) JI) JC) JA) Jv) JJ) Jr) Jx) JM) JT) J3) Jp) JS) JR) JH) JY) Jz) J0
theorem autoWalks_holds:Rows.AutoWalksSaid :=
  OpenClaim.holds_of_wide 5 Tryz.f5 rfl rfl rfl rfl rfl rfl rfl ⟨rfl,rfl,rfl,rfl,rfl⟩ rfl rfl rfl rfl rfl (by kernel_rfl) Tryz.func5 JZ
    (of_decide_eq_true (by kernel_rfl)) (by unfold Func.isWrapper; rw[if_neg (by decide +kernel)]; exact ⟨rfl,rfl⟩)
    (fun os started H enc _=>tU os started H enc)
end Go.Proofs.YtihmlbdfcmfbdaaGreat
