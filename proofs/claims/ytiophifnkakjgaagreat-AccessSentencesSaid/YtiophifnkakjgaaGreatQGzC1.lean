/-
  For every grammar that is handed in, gerundlaw27.AccessSentences returns true, and each argument reads afterwards as it read before.
  Conditions: none beyond those of the row.
-/
import Derived.Test.YtiophifnkakjgaaGreatRows
import Derived.Test.YtiophifnkakjgaaGreatSGzC1R
set_option linter.unusedSimpArgs false
set_option linter.unusedVariables false
set_option linter.unusedSimpArgs false
set_option maxRecDepth 100000
namespace Go.Proofs.YtiophifnkakjgaaGreat
open Go Go.ChangeShapes Go.WideShapes Go.ChangeAt Go.RowKit Gv
theorem own:ownKnob Tryz.prog.godebug=none:=by kernel_rfl
theorem laidOut:laidOutB Tryz.prog=true:=by kernel_rfl
theorem Ux {w w':World} (h:fB w w') (k:gN w.heap w'.heap (λ_=>False)):Below w.heap.size w w' :=
 ⟨h.os,h.tape,h.output,h.size,λb a=>k b a id⟩
set_option maxHeartbeats 2000000 in
theorem xo (os:Os) (started:os.Started) (H:Type) (enc:TypeId × Value->H) :
  ReturnsInHanded {} Tryz.checked os 8 .any (Rows.accessSentencesSpec.pre6 enc Tryz.prog Tryz.f8 Rows.accessSentencesRow.domain false) (Rows.accessSentencesSpec.post enc Tryz.prog Tryz.f8 false true false false):=by
 refine returnsInHanded_of_change_sized (C:=Tryz.checked) own started (by kernel_rfl) Tryz.func8
  (ChangeSpec.witness6 (enc:=enc) (C:=Tryz.checked) false ⟨#[],#[.agg #[.slice none 0 0,.slice none 0 0,.slice none 0 0,.int .i64 0]],[]⟩ 8 (by kernel_rfl) (by kernel_rfl) (by kernel_rfl) (by kernel_rfl)) ?_
 intro W base args G gs before k B _ u _
 have g:∀ (j:Nat) t v,Tryz.f8.params[j]?=some t->args[j]?=some v->Value.okWide Tryz.prog W .any base t v:=k
 have l:=B
 obtain⟨p,q,w,I,rfl,J,K⟩:=B
 have D:DataW.TrodAll enc Tryz.prog W 0 (λ_=>true) true Tryz.f8.params.toList args.toList G p:=w
 have r:=l.lt
 rw[Tryz.params8] at D g
 obtain⟨v0,d0,rfl,rfl,L⟩:=trodAll_one D
 obtain⟨rfl,rfl⟩:=trodVars_none I
 obtain⟨m,rfl,E⟩:=okWide_struct Tryz.underlying26 (g 0 26 v0 rfl rfl)
 obtain⟨a,s⟩:=L
 have y:Wt Tryz.prog 26 d0:=λn M=>by
  have:=List.all_eq_true.1 u n (DataW.weights_mem_each (j:=0) (t:=26) (d:=d0) rfl rfl n M)
  simpa using this
 obtain⟨g0,z,c⟩:=Xu enc W 0 (λ_=>true) true a m.toList (d0,p) s y
 have N:=BY g0 z (λb=>b < W.heap.size) (λ_=>none) W [.agg m] ⟨rfl,λi hi=>by
  match i,hi with
  | 0,_ =>
   refine .agg _ _ (by rw[c.1];simp) λj O=>?_
   have:=c.2 (λ_=>none) j O
   simpa [Array.getD_eq_getD_getElem?,List.getD_eq_getElem?_getD] using this⟩ (λ_ h=>h)
 refine N.mono ?_
 rintro e P ⟨x,R,rfl,Q,o,_,_,hold⟩
 have F:=Ux o hold
 have A:x=.bool true:=by
  have:=Q λ_=>none
  cases this
  rfl
 subst A
 simp only[List.append_nil] at l r
 have f:DataW.Trod enc Tryz.prog P 0 (λb=>decide (b < W.heap.size)) true 26 (.agg m) d0 p :=
  Below.trod laidOut (by kernel_rfl) (of_decide_eq_true (by kernel_rfl)) ⟨a,s⟩ F r
 refine⟨_,rfl,_,_,_,[],p,[],l,trodAll_mk1 (shut_bool (by kernel_rfl) true),trodAll_mk1 f,rfl,F.frame _,λh=>by cases h⟩
noncomputable abbrev jP:Program:=Tryz.checked.prog
noncomputable abbrev jN:Nat:=8
noncomputable abbrev jF:Func:=Tryz.f8
noncomputable abbrev jS:ChangeSpec:=Rows.accessSentencesSpec
noncomputable abbrev jC:OpenClaim:=Rows.accessSentencesRow
theorem ga {a b:Bool} (h:a=true) (k:b=true):(a && b)=true:=by rw[h,k];rfl
theorem jK0:(jC.wf (OpenSpec.ofChange jS))=true:=by kernel_rfl
theorem jK1:(laidOutB jP)=true:=by kernel_rfl
theorem jK2:(mapsRowed jP)=true:=by kernel_rfl
theorem jK3:(jF.params.all (jP.readableRec ·))=true:=by kernel_rfl
theorem jK4:(namedTie jP jC.named jS.vars)=true:=by kernel_rfl
theorem jK5:((jC.stops == []))=true:=by kernel_rfl
theorem jK6:((jP.stops == []))=true:=by kernel_rfl
theorem jK7:((jC.knobs == []))=true:=by kernel_rfl
theorem jK8:((jP.stopKnobs == []))=true:=by kernel_rfl
theorem jK9:((jC.inPlace == jP.inPlace jN))=true:=by kernel_rfl
theorem ZX:((jC.unfollowed == jP.unfollowed jN))=true:=by kernel_rfl
theorem ZZ:((jC.recurses == jP.recurses jN))=true:=by kernel_rfl
theorem ZO:((jC.named == jP.varsNamed jN))=true:=by kernel_rfl
theorem ZC:((jC.maps == (jF.params.toList ++ jS.plain.varTypes jP).any (jP.mapsRec ·)))=true:=by kernel_rfl
theorem Z2:((jC.ifaces == (jF.params.toList ++ jS.plain.varTypes jP).any (jP.ifacesRec ·)))=true:=by kernel_rfl
theorem Zt:((jC.mapsOut == jP.mapsAmong jF.resultTypes.toList))=true:=by kernel_rfl
theorem ZM:((jC.loops == (jF.params.toList ++ jS.plain.varTypes jP).any (jP.loopsFrom ·)))=true:=by kernel_rfl
theorem ZU:((jC.wideKeys == (jF.params.toList ++ jS.plain.varTypes jP ++ jF.resultTypes.toList).any (jP.wideKeysFrom ·)))=true:=by kernel_rfl
theorem ZA:(jS.vars.all (jP.varReadable ·))=true:=by kernel_rfl
theorem Z3:(jF.resultTypes.all (λt=>jP.readableRec t && decide (t < jP.types.size)))=true:=by kernel_rfl
theorem ZP:((jC.ifacesOut == jF.resultTypes.toList.any (jP.ifacesRec ·)))=true:=by kernel_rfl
theorem aaa:((jC.loopsOut == jF.resultTypes.toList.any (jP.loopsFrom ·)))=true:=by kernel_rfl
theorem Z7:((jC.plainKeys == jP.plainKeys))=true:=by kernel_rfl
theorem ZF:(jC.shortTexts.isNone)=true:=by kernel_rfl
theorem ZW:(jP.stopsHeard)=true:=by kernel_rfl
theorem ZD:(jP.mayEnter)=true:=by kernel_rfl
theorem ZB:((jC.lifted == jP.liftsFinal))=true:=by kernel_rfl
theorem Z9:((jP.make == some jC.make))=true:=by kernel_rfl
theorem ZR:((jC.kinds == (if jC.domain.isEmpty then [] else jF.params.toList.map λt=>match jP.underlying t with | some (.int k)=>some k | _=>none)))=true:=by kernel_rfl
theorem ZK:((jC.pinned == jC.pinnedBy))=true:=by kernel_rfl
theorem ZH:((jC.veiled == (jF.params.toList ++ jS.plain.varTypes jP ++ jF.resultTypes.toList).any (jP.veiledRec ·)))=true:=by kernel_rfl
theorem Z4:(jC.veiledFits jP jF.params.toList (jF.params.toList ++ jS.plain.varTypes jP ++ jF.resultTypes.toList))=true:=by kernel_rfl
theorem ZJ:joinedFacts jP jN jF jS jC=true:=ga (ga (ga (ga (ga (ga (ga (ga (ga (ga (ga (ga (ga (ga (ga (ga (ga (ga (ga (ga (ga (ga (ga (ga (ga (ga (ga (ga (ga (ga (ga (jK0) jK1) jK2) jK3) jK4) jK5) jK6) jK7) jK8) jK9) ZX) ZZ) ZO) ZC) Z2) Zt) ZM) ZU) ZA) Z3) ZP) aaa) Z7) ZF) ZW) ZD) ZB) Z9) ZR) ZK) ZH) Z4
theorem accessSentences_holds:Rows.AccessSentencesSaid :=
 OpenClaim.holds_of_wide 8 Tryz.f8 rfl rfl rfl rfl rfl rfl rfl ⟨rfl,rfl,rfl,rfl,rfl⟩ rfl rfl rfl rfl rfl (by kernel_rfl) Tryz.func8 ZJ
  (of_decide_eq_true (by kernel_rfl)) (by unfold Func.isWrapper;rw[if_neg (by decide +kernel)];exact⟨rfl,rfl⟩)
  (λos started H enc _=>xo os started H enc)
end Go.Proofs.YtiophifnkakjgaaGreat
