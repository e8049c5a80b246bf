/-
  For every grammar that is handed in, gerundlaw16.LookStands returns true, and each argument reads afterwards as it read before.
  Conditions: none beyond those of the row.
-/
import Derived.Test.YtihmlbdfcmfbdaaGreatRows
import Derived.Test.YtihmlbdfcmfbdaaGreatSGzB2P
set_option linter.unusedSimpArgs false
set_option linter.unusedVariables false
set_option linter.unusedSimpArgs false
set_option maxRecDepth 100000
namespace Go.Proofs.YtihmlbdfcmfbdaaGreat
open Go Go.ChangeShapes Go.WideShapes Go.ChangeAt Go.RowKit Gv
theorem own:ownKnob Tryz.prog.godebug=none:=by kernel_rfl
theorem laidOut:laidOutB Tryz.prog=true:=by kernel_rfl
theorem OS {w w':World} (h:eE w w') (k:fV w.heap w'.heap (fun _=>False)):Below w.heap.size w w' :=
 ⟨h.os,h.tape,h.output,h.size,fun b hb=>k b hb id⟩
set_option maxHeartbeats 2000000 in
theorem zF (os:Os) (started:os.Started) (H:Type) (enc:TypeId × Value→H) :
  ReturnsInHanded {} Tryz.checked os 11 .any (Rows.lookStandsSpec.pre6 enc Tryz.prog Tryz.f11 Rows.lookStandsRow.domain false) (Rows.lookStandsSpec.post enc Tryz.prog Tryz.f11 false true false false):=by
 refine returnsInHanded_of_change_sized (C:=Tryz.checked) own started (by kernel_rfl) Tryz.func11
  (ChangeSpec.witness6 (enc:=enc) (C:=Tryz.checked) false ⟨#[],#[.agg #[.slice none 0 0,.slice none 0 0,.slice none 0 0,.int .i64 0]],[]⟩ 8 (by kernel_rfl) (by kernel_rfl) (by kernel_rfl) (by kernel_rfl)) ?_
 intro W base args ds gs before hval0 hW _ hwt _
 have hval:∀ (j:Nat) t v,Tryz.f11.params[j]?=some t→args[j]?=some v→Value.okWide Tryz.prog W .any base t v:=hval0
 have hW':=hW
 obtain ⟨p,q,hA0,hV,rfl,hfz,hnd⟩:=hW
 have hA:DataW.TrodAll enc Tryz.prog W 0 (fun _=>true) true Tryz.f11.params.toList args.toList ds p:=hA0
 have hlt:=hW'.lt
 rw[Tryz.params11] at hA hval
 obtain ⟨v0,d0,rfl,rfl,h0⟩:=trodAll_one hA
 obtain ⟨rfl,rfl⟩:=trodVars_none hV
 obtain ⟨cs0,rfl,hcs0⟩:=okWide_struct Tryz.underlying26 (hval 0 26 v0 rfl rfl)
 obtain ⟨fuel0,hf0⟩:=h0
 have hw0:Wt Tryz.prog 26 d0:=fun n hn=>by
  have:=List.all_eq_true.1 hwt n (DataW.weights_mem_each (j:=0) (t:=26) (d:=d0) rfl rfl n hn)
  simpa using this
 obtain ⟨g0,hg0,hrel0⟩:=QE enc W 0 (fun _=>true) true fuel0 cs0.toList (d0,p) hf0 hw0
 have hc:=E4 g0 hg0 (fun b=>b < W.heap.size) (fun _=>none) W [.agg cs0] ⟨rfl,fun i hi=>by
  match i,hi with
  | 0,_ =>
   refine .agg _ _ (by rw[hrel0.1]; simp) fun j hj=>?_
   have:=hrel0.2 (fun _=>none) j hj
   simpa [Array.getD_eq_getD_getElem?,List.getD_eq_getElem?_getD] using this⟩ (fun _ h=>h)
 refine hc.mono ?_
 rintro e W' ⟨x,Z',rfl,hx,hsame,_,_,hold⟩
 have hb:=OS hsame hold
 have hxv:x=.bool true:=by
  have:=hx fun _=>none
  cases this
  rfl
 subst hxv
 simp only[List.append_nil] at hW' hlt
 have hread0:DataW.Trod enc Tryz.prog W' 0 (fun b=>decide (b < W.heap.size)) true 26 (.agg cs0) d0 p :=
  Below.trod laidOut (by kernel_rfl) (of_decide_eq_true (by kernel_rfl)) ⟨fuel0,hf0⟩ hb hlt
 refine ⟨_,rfl,_,_,_,[],p,[],hW',trodAll_mk1 (shut_bool (by kernel_rfl) true),trodAll_mk1 hread0,rfl,hb.frame _,fun h=>by cases h⟩
noncomputable abbrev jP:Program:=Tryz.checked.prog
noncomputable abbrev jN:Nat:=11
noncomputable abbrev jF:Func:=Tryz.f11
noncomputable abbrev jS:ChangeSpec:=Rows.lookStandsSpec
noncomputable abbrev jC:OpenClaim:=Rows.lookStandsRow
theorem e9 {a b:Bool} (h:a=true) (k:b=true):(a && b)=true:=by rw[h,k]; rfl
theorem TU:(jC.wf (OpenSpec.ofChange jS))=true:=by kernel_rfl
theorem TQ:(laidOutB jP)=true:=by kernel_rfl
theorem TO:(mapsRowed jP)=true:=by kernel_rfl
theorem TL:(jF.params.all (jP.readableRec ·))=true:=by kernel_rfl
theorem TS:(namedTie jP jC.named jS.vars)=true:=by kernel_rfl
theorem TX:((jC.stops == []))=true:=by kernel_rfl
theorem TM:((jP.stops == []))=true:=by kernel_rfl
theorem TY:((jC.knobs == []))=true:=by kernel_rfl
theorem TF:((jP.stopKnobs == []))=true:=by kernel_rfl
theorem TK:((jC.inPlace == jP.inPlace jN))=true:=by kernel_rfl
theorem SZ:((jC.unfollowed == jP.unfollowed jN))=true:=by kernel_rfl
theorem S7:((jC.recurses == jP.recurses jN))=true:=by kernel_rfl
theorem SV:((jC.named == jP.varsNamed jN))=true:=by kernel_rfl
theorem Tz:((jC.maps == (jF.params.toList ++ jS.plain.varTypes jP).any (jP.mapsRec ·)))=true:=by kernel_rfl
theorem Ti:((jC.ifaces == (jF.params.toList ++ jS.plain.varTypes jP).any (jP.ifacesRec ·)))=true:=by kernel_rfl
theorem SS:((jC.mapsOut == jP.mapsAmong jF.resultTypes.toList))=true:=by kernel_rfl
theorem S5:((jC.loops == (jF.params.toList ++ jS.plain.varTypes jP).any (jP.loopsFrom ·)))=true:=by kernel_rfl
theorem Tg:((jC.wideKeys == (jF.params.toList ++ jS.plain.varTypes jP ++ jF.resultTypes.toList).any (jP.wideKeysFrom ·)))=true:=by kernel_rfl
theorem S4:(jS.vars.all (jP.varReadable ·))=true:=by kernel_rfl
theorem S6:(jF.resultTypes.all (fun t=>jP.readableRec t && decide (t < jP.types.size)))=true:=by kernel_rfl
theorem Tq:((jC.ifacesOut == jF.resultTypes.toList.any (jP.ifacesRec ·)))=true:=by kernel_rfl
theorem Te:((jC.loopsOut == jF.resultTypes.toList.any (jP.loopsFrom ·)))=true:=by kernel_rfl
theorem SL:((jC.plainKeys == jP.plainKeys))=true:=by kernel_rfl
theorem Tu:(jC.shortTexts.isNone)=true:=by kernel_rfl
theorem SU:(jP.stopsHeard)=true:=by kernel_rfl
theorem SN:(jP.mayEnter)=true:=by kernel_rfl
theorem SM:((jC.lifted == jP.liftsFinal))=true:=by kernel_rfl
theorem Th:((jP.make == some jC.make))=true:=by kernel_rfl
theorem Tw:((jC.kinds == (if jC.domain.isEmpty then [] else jF.params.toList.map fun t=>match jP.underlying t with | some (.int k)=>some k | _=>none)))=true:=by kernel_rfl
theorem SY:((jC.pinned == jC.pinnedBy))=true:=by kernel_rfl
theorem S3:((jC.veiled == (jF.params.toList ++ jS.plain.varTypes jP ++ jF.resultTypes.toList).any (jP.veiledRec ·)))=true:=by kernel_rfl
theorem S9:(jC.veiledFits jP jF.params.toList (jF.params.toList ++ jS.plain.varTypes jP ++ jF.resultTypes.toList))=true:=by kernel_rfl
theorem Tt:joinedFacts jP jN jF jS jC=true:=e9 (e9 (e9 (e9 (e9 (e9 (e9 (e9 (e9 (e9 (e9 (e9 (e9 (e9 (e9 (e9 (e9 (e9 (e9 (e9 (e9 (e9 (e9 (e9 (e9 (e9 (e9 (e9 (e9 (e9 (e9 (TU) TQ) TO) TL) TS) TX) TM) TY) TF) TK) SZ) S7) SV) Tz) Ti) SS) S5) Tg) S4) S6) Tq) Te) SL) Tu) SU) SN) SM) Th) Tw) SY) S3) S9
theorem lookStands_holds:Rows.LookStandsSaid :=
 OpenClaim.holds_of_wide 11 Tryz.f11 rfl rfl rfl rfl rfl rfl rfl ⟨rfl,rfl,rfl,rfl,rfl⟩ rfl rfl rfl rfl rfl (by kernel_rfl) Tryz.func11 Tt
  (of_decide_eq_true (by kernel_rfl)) (by unfold Func.isWrapper; rw[if_neg (by decide +kernel)]; exact ⟨rfl,rfl⟩)
  (fun os started H enc _=>zF os started H enc)
end Go.Proofs.YtihmlbdfcmfbdaaGreat
