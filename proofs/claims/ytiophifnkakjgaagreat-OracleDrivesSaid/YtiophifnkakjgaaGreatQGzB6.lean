/-
  For every grammar, list of numbers that are handed in, gerundlaw20.OracleDrives returns true, and each argument reads afterwards as it read before.
  Conditions: none beyond those of the row.
-/
import Derived.Test.YtiophifnkakjgaaGreatRows
import Derived.Test.YtiophifnkakjgaaGreatSGzB6P
set_option linter.unusedSimpArgs false
set_option linter.unusedVariables false
set_option linter.unusedSimpArgs false
set_option maxRecDepth 100000
namespace Go.Proofs.YtiophifnkakjgaaGreat
open Go Go.ChangeShapes Go.WideShapes Go.ChangeAt Go.RowKit Gv
theorem own:ownKnob Tryz.prog.godebug=none:=by kernel_rfl
theorem laidOut:laidOutB Tryz.prog=true:=by kernel_rfl
theorem Pv {w w':World} (h:ey w w') (k:fG w.heap w'.heap (λ_=>False)):Below w.heap.size w w' :=
 ⟨h.os,h.tape,h.output,h.size,λb a=>k b a id⟩
set_option maxHeartbeats 2000000 in
theorem xo (os:Os) (started:os.Started) (H:Type) (enc:TypeId × Value->H) :
  ReturnsInHanded {} Tryz.checked os 3 .any (Rows.oracleDrivesSpec.pre6 enc Tryz.prog Tryz.f3 Rows.oracleDrivesRow.domain false) (Rows.oracleDrivesSpec.post enc Tryz.prog Tryz.f3 false true false false):=by
 refine returnsInHanded_of_change_sized (C:=Tryz.checked) own started (by kernel_rfl) Tryz.func3
  (ChangeSpec.witness6 (enc:=enc) (C:=Tryz.checked) false ⟨#[],#[.agg #[.slice none 0 0,.slice none 0 0,.slice none 0 0,.int .i64 0],.slice none 0 0],[]⟩ 8 (by kernel_rfl) (by kernel_rfl) (by kernel_rfl) (by kernel_rfl)) ?_
 intro W base args X gs before m S _ D _
 have a:∀ (j:Nat) t v,Tryz.f3.params[j]?=some t->args[j]?=some v->Value.okWide Tryz.prog W .any base t v:=m
 have o:=S
 obtain⟨p,q,I,Y,rfl,Z,an⟩:=S
 have T:DataW.TrodAll enc Tryz.prog W 0 (λ_=>true) true Tryz.f3.params.toList args.toList X p:=I
 have r:=o.lt
 rw[Tryz.params3] at T a
 obtain⟨v0,v1,d0,d1,J,K,rfl,rfl,rfl,h0,h1⟩:=trodAll_two T
 obtain⟨rfl,rfl⟩:=trodVars_none Y
 obtain⟨s,rfl,U⟩:=okWide_struct Tryz.underlying26 (a 0 26 v0 rfl rfl)
 obtain⟨u,w,z,rfl⟩:=okWide_slice Tryz.underlying27 (a 1 27 v1 rfl rfl)
 obtain⟨c,E⟩:=h0
 have L:Wt Tryz.prog 26 d0:=λn M=>by
  have:=List.all_eq_true.1 D n (DataW.weights_mem_each (j:=0) (t:=26) (d:=d0) rfl rfl n M)
  simpa using this
 obtain⟨g0,N,f⟩:=R8 enc W 0 (λ_=>true) true c s.toList (d0,J) E L
 obtain⟨g,F⟩:=h1
 have O:Wt Tryz.prog 27 d1:=λn M=>by
  have:=List.all_eq_true.1 D n (DataW.weights_mem_each (j:=1) (t:=27) (d:=d1) rfl rfl n M)
  simpa using this
 obtain⟨l1,G,A⟩:=JL enc W 0 (λ_=>true) true g [.slice u w z] (d1,K) F O
 have hc:=AN g0 N l1 G.1 G.2 (λb=>b < W.heap.size) (λ_=>none) W [.agg s,.slice u w z] ⟨rfl,λi hi=>by
  match i,hi with
  | 0,_ =>
   refine .agg _ _ (by rw[f.1];simp) λj hj=>?_
   have:=f.2 (λ_=>none) j hj
   simpa [Array.getD_eq_getD_getElem?,List.getD_eq_getElem?_getD] using this
  | 1,_=>exact A.2 (λ_=>none) 0 (by simp)⟩ (λ_ h=>h)
 refine hc.mono ?_
 rintro e V ⟨x,Z',rfl,hx,B,_,_,hold⟩
 have P:=Pv B hold
 have Q:x=.bool true:=by
  have:=hx λ_=>none
  cases this
  rfl
 subst Q
 simp only[List.append_nil] at o r
 have k:DataW.Trod enc Tryz.prog V 0 (λb=>decide (b < W.heap.size)) true 26 (.agg s) d0 J :=
  Below.trod laidOut (by kernel_rfl) (of_decide_eq_true (by kernel_rfl)) ⟨c,E⟩ P (λy R=>r y (by simp[R]))
 have l:DataW.Trod enc Tryz.prog V 0 (λb=>decide (b < W.heap.size)) true 27 (.slice u w z) d1 K :=
  Below.trod laidOut (by kernel_rfl) (of_decide_eq_true (by kernel_rfl)) ⟨g,F⟩ P (λy R=>r y (by simp[R]))
 refine⟨_,rfl,_,_,_,[],J ++ K,[],o,trodAll_mk1 (shut_bool (by kernel_rfl) true),trodAll_mk2 k l,rfl,P.frame _,λh=>by cases h⟩
noncomputable abbrev jP:Program:=Tryz.checked.prog
noncomputable abbrev jN:Nat:=3
noncomputable abbrev jF:Func:=Tryz.f3
noncomputable abbrev jS:ChangeSpec:=Rows.oracleDrivesSpec
noncomputable abbrev jC:OpenClaim:=Rows.oracleDrivesRow
theorem eW {a b:Bool} (h:a=true) (k:b=true):(a && b)=true:=by rw[h,k];rfl
theorem UT:(jC.wf (OpenSpec.ofChange jS))=true:=by kernel_rfl
theorem UF:(laidOutB jP)=true:=by kernel_rfl
theorem U0:(mapsRowed jP)=true:=by kernel_rfl
theorem UC:(jF.params.all (jP.readableRec ·))=true:=by kernel_rfl
theorem US:(namedTie jP jC.named jS.vars)=true:=by kernel_rfl
theorem UJ:((jC.stops == []))=true:=by kernel_rfl
theorem UE:((jP.stops == []))=true:=by kernel_rfl
theorem UK:((jC.knobs == []))=true:=by kernel_rfl
theorem UD:((jP.stopKnobs == []))=true:=by kernel_rfl
theorem UI:((jC.inPlace == jP.inPlace jN))=true:=by kernel_rfl
theorem Uw:((jC.unfollowed == jP.unfollowed jN))=true:=by kernel_rfl
theorem T8:((jC.recurses == jP.recurses jN))=true:=by kernel_rfl
theorem TZ:((jC.named == jP.varsNamed jN))=true:=by kernel_rfl
theorem Ug:((jC.maps == (jF.params.toList ++ jS.plain.varTypes jP).any (jP.mapsRec ·)))=true:=by kernel_rfl
theorem Uj:((jC.ifaces == (jF.params.toList ++ jS.plain.varTypes jP).any (jP.ifacesRec ·)))=true:=by kernel_rfl
theorem Ut:((jC.mapsOut == jP.mapsAmong jF.resultTypes.toList))=true:=by kernel_rfl
theorem Us:((jC.loops == (jF.params.toList ++ jS.plain.varTypes jP).any (jP.loopsFrom ·)))=true:=by kernel_rfl
theorem Un:((jC.wideKeys == (jF.params.toList ++ jS.plain.varTypes jP ++ jF.resultTypes.toList).any (jP.wideKeysFrom ·)))=true:=by kernel_rfl
theorem Ue:(jS.vars.all (jP.varReadable ·))=true:=by kernel_rfl
theorem Up:(jF.resultTypes.all (λt=>jP.readableRec t && decide (t < jP.types.size)))=true:=by kernel_rfl
theorem Uf:((jC.ifacesOut == jF.resultTypes.toList.any (jP.ifacesRec ·)))=true:=by kernel_rfl
theorem TX:((jC.loopsOut == jF.resultTypes.toList.any (jP.loopsFrom ·)))=true:=by kernel_rfl
theorem Ua:((jC.plainKeys == jP.plainKeys))=true:=by kernel_rfl
theorem T9:(jC.shortTexts.isNone)=true:=by kernel_rfl
theorem Uk:(jP.stopsHeard)=true:=by kernel_rfl
theorem TT:(jP.mayEnter)=true:=by kernel_rfl
theorem Uc:((jC.lifted == jP.liftsFinal))=true:=by kernel_rfl
theorem Uq:((jP.make == some jC.make))=true:=by kernel_rfl
theorem TU:((jC.kinds == (if jC.domain.isEmpty then [] else jF.params.toList.map λt=>match jP.underlying t with | some (.int k)=>some k | _=>none)))=true:=by kernel_rfl
theorem T6:((jC.pinned == jC.pinnedBy))=true:=by kernel_rfl
theorem Ud:((jC.veiled == (jF.params.toList ++ jS.plain.varTypes jP ++ jF.resultTypes.toList).any (jP.veiledRec ·)))=true:=by kernel_rfl
theorem Um:(jC.veiledFits jP jF.params.toList (jF.params.toList ++ jS.plain.varTypes jP ++ jF.resultTypes.toList))=true:=by kernel_rfl
theorem UA:joinedFacts jP jN jF jS jC=true:=eW (eW (eW (eW (eW (eW (eW (eW (eW (eW (eW (eW (eW (eW (eW (eW (eW (eW (eW (eW (eW (eW (eW (eW (eW (eW (eW (eW (eW (eW (eW (UT) UF) U0) UC) US) UJ) UE) UK) UD) UI) Uw) T8) TZ) Ug) Uj) Ut) Us) Un) Ue) Up) Uf) TX) Ua) T9) Uk) TT) Uc) Uq) TU) T6) Ud) Um
theorem oracleDrives_holds:Rows.OracleDrivesSaid :=
 OpenClaim.holds_of_wide 3 Tryz.f3 rfl rfl rfl rfl rfl rfl rfl ⟨rfl,rfl,rfl,rfl,rfl⟩ rfl rfl rfl rfl rfl (by kernel_rfl) Tryz.func3 UA
  (of_decide_eq_true (by kernel_rfl)) (by unfold Func.isWrapper;rw[if_neg (by decide +kernel)];exact⟨rfl,rfl⟩)
  (λos started H enc _=>xo os started H enc)
end Go.Proofs.YtiophifnkakjgaaGreat
