/-
  For every grammar that is handed in, gerundlaw27.AccessBases returns true, and each argument reads afterwards as it read before.
  Conditions: none beyond those of the row.
-/
import Derived.Test.YtiophifnkakjgaaGreatRows
import Derived.Test.YtiophifnkakjgaaGreatSGzB8P
set_option linter.unusedSimpArgs false
set_option linter.unusedVariables false
set_option linter.unusedSimpArgs false
set_option maxRecDepth 100000
namespace Go.Proofs.YtiophifnkakjgaaGreat
open Go Go.ChangeShapes Go.WideShapes Go.ChangeAt Go.RowKit Gv
theorem own:ownKnob Tryz.prog.godebug=none:=by kernel_rfl
theorem laidOut:laidOutB Tryz.prog=true:=by kernel_rfl
theorem Qa {w w':World} (h:eO w w') (k:fY w.heap w'.heap (λ_=>False)):Below w.heap.size w w' :=
 ⟨h.os,h.tape,h.output,h.size,λb a=>k b a id⟩
set_option maxHeartbeats 2000000 in
theorem yC (os:Os) (started:os.Started) (H:Type) (enc:TypeId × Value->H) :
  ReturnsInHanded {} Tryz.checked os 6 .any (Rows.accessBasesSpec.pre6 enc Tryz.prog Tryz.f6 Rows.accessBasesRow.domain false) (Rows.accessBasesSpec.post enc Tryz.prog Tryz.f6 false true false false):=by
 refine returnsInHanded_of_change_sized (C:=Tryz.checked) own started (by kernel_rfl) Tryz.func6
  (ChangeSpec.witness6 (enc:=enc) (C:=Tryz.checked) false ⟨#[],#[.agg #[.slice none 0 0,.slice none 0 0,.slice none 0 0,.int .i64 0]],[]⟩ 8 (by kernel_rfl) (by kernel_rfl) (by kernel_rfl) (by kernel_rfl)) ?_
 intro W base args G gs before k B _ u _
 have g:∀ (j:Nat) t v,Tryz.f6.params[j]?=some t->args[j]?=some v->Value.okWide Tryz.prog W .any base t v:=k
 have l:=B
 obtain⟨p,q,w,I,rfl,J,K⟩:=B
 have D:DataW.TrodAll enc Tryz.prog W 0 (λ_=>true) true Tryz.f6.params.toList args.toList G p:=w
 have r:=l.lt
 rw[Tryz.params6] at D g
 obtain⟨v0,d0,rfl,rfl,L⟩:=trodAll_one D
 obtain⟨rfl,rfl⟩:=trodVars_none I
 obtain⟨m,rfl,E⟩:=okWide_struct Tryz.underlying26 (g 0 26 v0 rfl rfl)
 obtain⟨a,s⟩:=L
 have y:Wt Tryz.prog 26 d0:=λn M=>by
  have:=List.all_eq_true.1 u n (DataW.weights_mem_each (j:=0) (t:=26) (d:=d0) rfl rfl n M)
  simpa using this
 obtain⟨g0,z,c⟩:=Rv enc W 0 (λ_=>true) true a m.toList (d0,p) s y
 have N:=Dn g0 z (λb=>b < W.heap.size) (λ_=>none) W [.agg m] ⟨rfl,λi hi=>by
  match i,hi with
  | 0,_ =>
   refine .agg _ _ (by rw[c.1];simp) λj O=>?_
   have:=c.2 (λ_=>none) j O
   simpa [Array.getD_eq_getD_getElem?,List.getD_eq_getElem?_getD] using this⟩ (λ_ h=>h)
 refine N.mono ?_
 rintro e P ⟨x,R,rfl,Q,o,_,_,hold⟩
 have F:=Qa o hold
 have A:x=.bool true:=by
  have:=Q λ_=>none
  cases this
  rfl
 subst A
 simp only[List.append_nil] at l r
 have f:DataW.Trod enc Tryz.prog P 0 (λb=>decide (b < W.heap.size)) true 26 (.agg m) d0 p :=
  Below.trod laidOut (by kernel_rfl) (of_decide_eq_true (by kernel_rfl)) ⟨a,s⟩ F r
 refine⟨_,rfl,_,_,_,[],p,[],l,trodAll_mk1 (shut_bool (by kernel_rfl) true),trodAll_mk1 f,rfl,F.frame _,λh=>by cases h⟩
noncomputable abbrev jP:Program:=Tryz.checked.prog
noncomputable abbrev jN:Nat:=6
noncomputable abbrev jF:Func:=Tryz.f6
noncomputable abbrev jS:ChangeSpec:=Rows.accessBasesSpec
noncomputable abbrev jC:OpenClaim:=Rows.accessBasesRow
theorem fo {a b:Bool} (h:a=true) (k:b=true):(a && b)=true:=by rw[h,k];rfl
theorem Uq:(jC.wf (OpenSpec.ofChange jS))=true:=by kernel_rfl
theorem Um:(laidOutB jP)=true:=by kernel_rfl
theorem Un:(mapsRowed jP)=true:=by kernel_rfl
theorem Ue:(jF.params.all (jP.readableRec ·))=true:=by kernel_rfl
theorem Uh:(namedTie jP jC.named jS.vars)=true:=by kernel_rfl
theorem Up:((jC.stops == []))=true:=by kernel_rfl
theorem Ur:((jP.stops == []))=true:=by kernel_rfl
theorem Ug:((jC.knobs == []))=true:=by kernel_rfl
theorem Ul:((jP.stopKnobs == []))=true:=by kernel_rfl
theorem Uj:((jC.inPlace == jP.inPlace jN))=true:=by kernel_rfl
theorem TC:((jC.unfollowed == jP.unfollowed jN))=true:=by kernel_rfl
theorem TT:((jC.recurses == jP.recurses jN))=true:=by kernel_rfl
theorem Tn:((jC.named == jP.varsNamed jN))=true:=by kernel_rfl
theorem TD:((jC.maps == (jF.params.toList ++ jS.plain.varTypes jP).any (jP.mapsRec ·)))=true:=by kernel_rfl
theorem TQ:((jC.ifaces == (jF.params.toList ++ jS.plain.varTypes jP).any (jP.ifacesRec ·)))=true:=by kernel_rfl
theorem Tx:((jC.mapsOut == jP.mapsAmong jF.resultTypes.toList))=true:=by kernel_rfl
theorem TH:((jC.loops == (jF.params.toList ++ jS.plain.varTypes jP).any (jP.loopsFrom ·)))=true:=by kernel_rfl
theorem T6:((jC.wideKeys == (jF.params.toList ++ jS.plain.varTypes jP ++ jF.resultTypes.toList).any (jP.wideKeysFrom ·)))=true:=by kernel_rfl
theorem TU:(jS.vars.all (jP.varReadable ·))=true:=by kernel_rfl
theorem TR:(jF.resultTypes.all (λt=>jP.readableRec t && decide (t < jP.types.size)))=true:=by kernel_rfl
theorem TJ:((jC.ifacesOut == jF.resultTypes.toList.any (jP.ifacesRec ·)))=true:=by kernel_rfl
theorem TG:((jC.loopsOut == jF.resultTypes.toList.any (jP.loopsFrom ·)))=true:=by kernel_rfl
theorem Ty:((jC.plainKeys == jP.plainKeys))=true:=by kernel_rfl
theorem To:(jC.shortTexts.isNone)=true:=by kernel_rfl
theorem Tm:(jP.stopsHeard)=true:=by kernel_rfl
theorem TM:(jP.mayEnter)=true:=by kernel_rfl
theorem TO:((jC.lifted == jP.liftsFinal))=true:=by kernel_rfl
theorem TX:((jP.make == some jC.make))=true:=by kernel_rfl
theorem T9:((jC.kinds == (if jC.domain.isEmpty then [] else jF.params.toList.map λt=>match jP.underlying t with | some (.int k)=>some k | _=>none)))=true:=by kernel_rfl
theorem TF:((jC.pinned == jC.pinnedBy))=true:=by kernel_rfl
theorem TS:((jC.veiled == (jF.params.toList ++ jS.plain.varTypes jP ++ jF.resultTypes.toList).any (jP.veiledRec ·)))=true:=by kernel_rfl
theorem Tu:(jC.veiledFits jP jF.params.toList (jF.params.toList ++ jS.plain.varTypes jP ++ jF.resultTypes.toList))=true:=by kernel_rfl
theorem TW:joinedFacts jP jN jF jS jC=true:=fo (fo (fo (fo (fo (fo (fo (fo (fo (fo (fo (fo (fo (fo (fo (fo (fo (fo (fo (fo (fo (fo (fo (fo (fo (fo (fo (fo (fo (fo (fo (Uq) Um) Un) Ue) Uh) Up) Ur) Ug) Ul) Uj) TC) TT) Tn) TD) TQ) Tx) TH) T6) TU) TR) TJ) TG) Ty) To) Tm) TM) TO) TX) T9) TF) TS) Tu
theorem accessBases_holds:Rows.AccessBasesSaid :=
 OpenClaim.holds_of_wide 6 Tryz.f6 rfl rfl rfl rfl rfl rfl rfl ⟨rfl,rfl,rfl,rfl,rfl⟩ rfl rfl rfl rfl rfl (by kernel_rfl) Tryz.func6 TW
  (of_decide_eq_true (by kernel_rfl)) (by unfold Func.isWrapper;rw[if_neg (by decide +kernel)];exact⟨rfl,rfl⟩)
  (λos started H enc _=>yC os started H enc)
end Go.Proofs.YtiophifnkakjgaaGreat
