/-
  For every grammar that is handed in, gerundlaw17.TableBuilds returns true, and each argument reads afterwards as it read before.
  Conditions: none beyond those of the row.
-/
import Derived.Test.YtihmlbdfcmfbdaaGreatRows
import Derived.Test.YtihmlbdfcmfbdaaGreatSGzB3R
set_option linter.unusedSimpArgs false
set_option linter.unusedVariables false
set_option linter.unusedSimpArgs false
set_option maxRecDepth 100000
namespace Go.Proofs.YtihmlbdfcmfbdaaGreat
open Go Go.ChangeShapes Go.WideShapes Go.ChangeAt Go.RowKit Gv
theorem own:ownKnob Tryz.prog.godebug=none:=by kernel_rfl
theorem laidOut:laidOutB Tryz.prog=true:=by kernel_rfl
theorem TM {w w':World} (h:fk w w') (k:gX w.heap w'.heap (λ_=>False)):Below w.heap.size w w' :=
 ⟨h.os,h.tape,h.output,h.size,λb a=>k b a id⟩
set_option maxHeartbeats 2000000 in
theorem AY (os:Os) (started:os.Started) (H:Type) (enc:TypeId × Value->H) :
  ReturnsInHanded {} Tryz.checked os 12 .any (Rows.tableBuildsSpec.pre6 enc Tryz.prog Tryz.f12 Rows.tableBuildsRow.domain false) (Rows.tableBuildsSpec.post enc Tryz.prog Tryz.f12 false true false false):=by
 refine returnsInHanded_of_change_sized (C:=Tryz.checked) own started (by kernel_rfl) Tryz.func12
  (ChangeSpec.witness6 (enc:=enc) (C:=Tryz.checked) false ⟨#[],#[.agg #[.slice none 0 0,.slice none 0 0,.slice none 0 0,.int .i64 0]],[]⟩ 8 (by kernel_rfl) (by kernel_rfl) (by kernel_rfl) (by kernel_rfl)) ?_
 intro W base args F gs before k hW _ u _
 have g:∀ (j:Nat) t v,Tryz.f12.params[j]?=some t->args[j]?=some v->Value.okWide Tryz.prog W .any base t v:=k
 have l:=hW
 obtain⟨p,q,w,G,rfl,I,J⟩:=hW
 have B:DataW.TrodAll enc Tryz.prog W 0 (λ_=>true) true Tryz.f12.params.toList args.toList F p:=w
 have r:=l.lt
 rw[Tryz.params12] at B g
 obtain⟨v0,d0,rfl,rfl,K⟩:=trodAll_one B
 obtain⟨rfl,rfl⟩:=trodVars_none G
 obtain⟨m,rfl,D⟩:=okWide_struct Tryz.underlying26 (g 0 26 v0 rfl rfl)
 obtain⟨a,s⟩:=K
 have y:Wt Tryz.prog 26 d0:=λn L=>by
  have:=List.all_eq_true.1 u n (DataW.weights_mem_each (j:=0) (t:=26) (d:=d0) rfl rfl n L)
  simpa using this
 obtain⟨g0,z,c⟩:=VR enc W 0 (λ_=>true) true a m.toList (d0,p) s y
 have M:=Gt g0 z (λb=>b < W.heap.size) (λ_=>none) W [.agg m] ⟨rfl,λi hi=>by
  match i,hi with
  | 0,_ =>
   refine .agg _ _ (by rw[c.1];simp) λj N=>?_
   have:=c.2 (λ_=>none) j N
   simpa [Array.getD_eq_getD_getElem?,List.getD_eq_getElem?_getD] using this⟩ (λ_ h=>h)
 refine M.mono ?_
 rintro e O ⟨x,Q,rfl,P,o,_,_,hold⟩
 have E:=TM o hold
 have A:x=.bool true:=by
  have:=P λ_=>none
  cases this
  rfl
 subst A
 simp only[List.append_nil] at l r
 have f:DataW.Trod enc Tryz.prog O 0 (λb=>decide (b < W.heap.size)) true 26 (.agg m) d0 p :=
  Below.trod laidOut (by kernel_rfl) (of_decide_eq_true (by kernel_rfl)) ⟨a,s⟩ E r
 refine⟨_,rfl,_,_,_,[],p,[],l,trodAll_mk1 (shut_bool (by kernel_rfl) true),trodAll_mk1 f,rfl,E.frame _,λh=>by cases h⟩
noncomputable abbrev jP:Program:=Tryz.checked.prog
noncomputable abbrev jN:Nat:=12
noncomputable abbrev jF:Func:=Tryz.f12
noncomputable abbrev jS:ChangeSpec:=Rows.tableBuildsSpec
noncomputable abbrev jC:OpenClaim:=Rows.tableBuildsRow
theorem fZ {a b:Bool} (h:a=true) (k:b=true):(a && b)=true:=by rw[h,k];rfl
theorem Zb:(jC.wf (OpenSpec.ofChange jS))=true:=by kernel_rfl
theorem Y8:(laidOutB jP)=true:=by kernel_rfl
theorem Y4:(mapsRowed jP)=true:=by kernel_rfl
theorem Y2:(jF.params.all (jP.readableRec ·))=true:=by kernel_rfl
theorem Zd:(namedTie jP jC.named jS.vars)=true:=by kernel_rfl
theorem Y0:((jC.stops == []))=true:=by kernel_rfl
theorem Za:((jP.stops == []))=true:=by kernel_rfl
theorem Y7:((jC.knobs == []))=true:=by kernel_rfl
theorem Y5:((jP.stopKnobs == []))=true:=by kernel_rfl
theorem Ze:((jC.inPlace == jP.inPlace jN))=true:=by kernel_rfl
theorem YN:((jC.unfollowed == jP.unfollowed jN))=true:=by kernel_rfl
theorem Yp:((jC.recurses == jP.recurses jN))=true:=by kernel_rfl
theorem YG:((jC.named == jP.varsNamed jN))=true:=by kernel_rfl
theorem YA:((jC.maps == (jF.params.toList ++ jS.plain.varTypes jP).any (jP.mapsRec ·)))=true:=by kernel_rfl
theorem Yy:((jC.ifaces == (jF.params.toList ++ jS.plain.varTypes jP).any (jP.ifacesRec ·)))=true:=by kernel_rfl
theorem Yx:((jC.mapsOut == jP.mapsAmong jF.resultTypes.toList))=true:=by kernel_rfl
theorem YI:((jC.loops == (jF.params.toList ++ jS.plain.varTypes jP).any (jP.loopsFrom ·)))=true:=by kernel_rfl
theorem YU:((jC.wideKeys == (jF.params.toList ++ jS.plain.varTypes jP ++ jF.resultTypes.toList).any (jP.wideKeysFrom ·)))=true:=by kernel_rfl
theorem Yh:(jS.vars.all (jP.varReadable ·))=true:=by kernel_rfl
theorem Ys:(jF.resultTypes.all (λt=>jP.readableRec t && decide (t < jP.types.size)))=true:=by kernel_rfl
theorem Yu:((jC.ifacesOut == jF.resultTypes.toList.any (jP.ifacesRec ·)))=true:=by kernel_rfl
theorem YJ:((jC.loopsOut == jF.resultTypes.toList.any (jP.loopsFrom ·)))=true:=by kernel_rfl
theorem Yw:((jC.plainKeys == jP.plainKeys))=true:=by kernel_rfl
theorem Yr:(jC.shortTexts.isNone)=true:=by kernel_rfl
theorem Yk:(jP.stopsHeard)=true:=by kernel_rfl
theorem Yl:(jP.mayEnter)=true:=by kernel_rfl
theorem Ym:((jC.lifted == jP.liftsFinal))=true:=by kernel_rfl
theorem YC:((jP.make == some jC.make))=true:=by kernel_rfl
theorem YP:((jC.kinds == (if jC.domain.isEmpty then [] else jF.params.toList.map λt=>match jP.underlying t with | some (.int k)=>some k | _=>none)))=true:=by kernel_rfl
theorem YS:((jC.pinned == jC.pinnedBy))=true:=by kernel_rfl
theorem Yq:((jC.veiled == (jF.params.toList ++ jS.plain.varTypes jP ++ jF.resultTypes.toList).any (jP.veiledRec ·)))=true:=by kernel_rfl
theorem YB:(jC.veiledFits jP jF.params.toList (jF.params.toList ++ jS.plain.varTypes jP ++ jF.resultTypes.toList))=true:=by kernel_rfl
theorem Yt:joinedFacts jP jN jF jS jC=true:=fZ (fZ (fZ (fZ (fZ (fZ (fZ (fZ (fZ (fZ (fZ (fZ (fZ (fZ (fZ (fZ (fZ (fZ (fZ (fZ (fZ (fZ (fZ (fZ (fZ (fZ (fZ (fZ (fZ (fZ (fZ (Zb) Y8) Y4) Y2) Zd) Y0) Za) Y7) Y5) Ze) YN) Yp) YG) YA) Yy) Yx) YI) YU) Yh) Ys) Yu) YJ) Yw) Yr) Yk) Yl) Ym) YC) YP) YS) Yq) YB
theorem tableBuilds_holds:Rows.TableBuildsSaid :=
 OpenClaim.holds_of_wide 12 Tryz.f12 rfl rfl rfl rfl rfl rfl rfl ⟨rfl,rfl,rfl,rfl,rfl⟩ rfl rfl rfl rfl rfl (by kernel_rfl) Tryz.func12 Yt
  (of_decide_eq_true (by kernel_rfl)) (by unfold Func.isWrapper;rw[if_neg (by decide +kernel)];exact⟨rfl,rfl⟩)
  (λos started H enc _=>AY os started H enc)
end Go.Proofs.YtihmlbdfcmfbdaaGreat
