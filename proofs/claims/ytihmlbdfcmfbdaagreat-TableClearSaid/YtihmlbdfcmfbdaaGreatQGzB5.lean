/-
  For every grammar that is handed in, gerundlaw17.TableClear returns true, and each argument reads afterwards as it read before.
  Conditions: none beyond those of the row.
-/
import Derived.Test.YtihmlbdfcmfbdaaGreatRows
import Derived.Test.YtihmlbdfcmfbdaaGreatSGzB5R
set_option linter.unusedSimpArgs false
set_option linter.unusedVariables false
set_option linter.unusedSimpArgs false
set_option maxRecDepth 100000
namespace Go.Proofs.YtihmlbdfcmfbdaaGreat
open Go Go.ChangeShapes Go.WideShapes Go.ChangeAt Go.RowKit Gv
theorem own:ownKnob Tryz.prog.godebug=none:=by kernel_rfl
theorem laidOut:laidOutB Tryz.prog=true:=by kernel_rfl
theorem UN {w w':World} (h:fv w w') (k:ie w.heap w'.heap (λ_=>False)):Below w.heap.size w w' :=
 ⟨h.os,h.tape,h.output,h.size,λb a=>k b a id⟩
set_option maxHeartbeats 2000000 in
theorem C0 (os:Os) (started:os.Started) (H:Type) (enc:TypeId × Value->H) :
  ReturnsInHanded {} Tryz.checked os 13 .any (Rows.tableClearSpec.pre6 enc Tryz.prog Tryz.f13 Rows.tableClearRow.domain false) (Rows.tableClearSpec.post enc Tryz.prog Tryz.f13 false true false false):=by
 refine returnsInHanded_of_change_sized (C:=Tryz.checked) own started (by kernel_rfl) Tryz.func13
  (ChangeSpec.witness6 (enc:=enc) (C:=Tryz.checked) false ⟨#[],#[.agg #[.slice none 0 0,.slice none 0 0,.slice none 0 0,.int .i64 0]],[]⟩ 8 (by kernel_rfl) (by kernel_rfl) (by kernel_rfl) (by kernel_rfl)) ?_
 intro W base args F gs before k hW _ u _
 have g:∀ (j:Nat) t v,Tryz.f13.params[j]?=some t->args[j]?=some v->Value.okWide Tryz.prog W .any base t v:=k
 have l:=hW
 obtain⟨p,q,w,G,rfl,I,J⟩:=hW
 have B:DataW.TrodAll enc Tryz.prog W 0 (λ_=>true) true Tryz.f13.params.toList args.toList F p:=w
 have r:=l.lt
 rw[Tryz.params13] at B g
 obtain⟨v0,d0,rfl,rfl,K⟩:=trodAll_one B
 obtain⟨rfl,rfl⟩:=trodVars_none G
 obtain⟨m,rfl,D⟩:=okWide_struct Tryz.underlying26 (g 0 26 v0 rfl rfl)
 obtain⟨a,s⟩:=K
 have y:Wt Tryz.prog 26 d0:=λn L=>by
  have:=List.all_eq_true.1 u n (DataW.weights_mem_each (j:=0) (t:=26) (d:=d0) rfl rfl n L)
  simpa using this
 obtain⟨g0,z,c⟩:=Xt enc W 0 (λ_=>true) true a m.toList (d0,p) s y
 have M:=Jc g0 z (λb=>b < W.heap.size) (λ_=>none) W [.agg m] ⟨rfl,λi hi=>by
  match i,hi with
  | 0,_ =>
   refine .agg _ _ (by rw[c.1];simp) λj N=>?_
   have:=c.2 (λ_=>none) j N
   simpa [Array.getD_eq_getD_getElem?,List.getD_eq_getElem?_getD] using this⟩ (λ_ h=>h)
 refine M.mono ?_
 rintro e O ⟨x,Q,rfl,P,o,_,_,hold⟩
 have E:=UN o hold
 have A:x=.bool true:=by
  have:=P λ_=>none
  cases this
  rfl
 subst A
 simp only[List.append_nil] at l r
 have f:DataW.Trod enc Tryz.prog O 0 (λb=>decide (b < W.heap.size)) true 26 (.agg m) d0 p :=
  Below.trod laidOut (by kernel_rfl) (of_decide_eq_true (by kernel_rfl)) ⟨a,s⟩ E r
 refine⟨_,rfl,_,_,_,[],p,[],l,trodAll_mk1 (shut_bool (by kernel_rfl) true),trodAll_mk1 f,rfl,E.frame _,λh=>by cases h⟩
noncomputable abbrev jP:Program:=Tryz.checked.prog
noncomputable abbrev jN:Nat:=13
noncomputable abbrev jF:Func:=Tryz.f13
noncomputable abbrev jS:ChangeSpec:=Rows.tableClearSpec
noncomputable abbrev jC:OpenClaim:=Rows.tableClearRow
theorem gm {a b:Bool} (h:a=true) (k:b=true):(a && b)=true:=by rw[h,k];rfl
theorem jK0:(jC.wf (OpenSpec.ofChange jS))=true:=by kernel_rfl
theorem jK1:(laidOutB jP)=true:=by kernel_rfl
theorem jK2:(mapsRowed jP)=true:=by kernel_rfl
theorem jK3:(jF.params.all (jP.readableRec ·))=true:=by kernel_rfl
theorem jK4:(namedTie jP jC.named jS.vars)=true:=by kernel_rfl
theorem jK5:((jC.stops == []))=true:=by kernel_rfl
theorem Z5:((jP.stops == []))=true:=by kernel_rfl
theorem Z3:((jC.knobs == []))=true:=by kernel_rfl
theorem Z6:((jP.stopKnobs == []))=true:=by kernel_rfl
theorem Z8:((jC.inPlace == jP.inPlace jN))=true:=by kernel_rfl
theorem ZF:((jC.unfollowed == jP.unfollowed jN))=true:=by kernel_rfl
theorem ZV:((jC.recurses == jP.recurses jN))=true:=by kernel_rfl
theorem ZY:((jC.named == jP.varsNamed jN))=true:=by kernel_rfl
theorem ZA:((jC.maps == (jF.params.toList ++ jS.plain.varTypes jP).any (jP.mapsRec ·)))=true:=by kernel_rfl
theorem ZL:((jC.ifaces == (jF.params.toList ++ jS.plain.varTypes jP).any (jP.ifacesRec ·)))=true:=by kernel_rfl
theorem Zu:((jC.mapsOut == jP.mapsAmong jF.resultTypes.toList))=true:=by kernel_rfl
theorem ZE:((jC.loops == (jF.params.toList ++ jS.plain.varTypes jP).any (jP.loopsFrom ·)))=true:=by kernel_rfl
theorem ZW:((jC.wideKeys == (jF.params.toList ++ jS.plain.varTypes jP ++ jF.resultTypes.toList).any (jP.wideKeysFrom ·)))=true:=by kernel_rfl
theorem ZJ:(jS.vars.all (jP.varReadable ·))=true:=by kernel_rfl
theorem ZN:(jF.resultTypes.all (λt=>jP.readableRec t && decide (t < jP.types.size)))=true:=by kernel_rfl
theorem ZP:((jC.ifacesOut == jF.resultTypes.toList.any (jP.ifacesRec ·)))=true:=by kernel_rfl
theorem Zo:((jC.loopsOut == jF.resultTypes.toList.any (jP.loopsFrom ·)))=true:=by kernel_rfl
theorem ZB:((jC.plainKeys == jP.plainKeys))=true:=by kernel_rfl
theorem Zr:(jC.shortTexts.isNone)=true:=by kernel_rfl
theorem Zw:(jP.stopsHeard)=true:=by kernel_rfl
theorem ZZ:(jP.mayEnter)=true:=by kernel_rfl
theorem ZU:((jC.lifted == jP.liftsFinal))=true:=by kernel_rfl
theorem ZX:((jP.make == some jC.make))=true:=by kernel_rfl
theorem ZO:((jC.kinds == (if jC.domain.isEmpty then [] else jF.params.toList.map λt=>match jP.underlying t with | some (.int k)=>some k | _=>none)))=true:=by kernel_rfl
theorem ZT:((jC.pinned == jC.pinnedBy))=true:=by kernel_rfl
theorem Z2:((jC.veiled == (jF.params.toList ++ jS.plain.varTypes jP ++ jF.resultTypes.toList).any (jP.veiledRec ·)))=true:=by kernel_rfl
theorem Zq:(jC.veiledFits jP jF.params.toList (jF.params.toList ++ jS.plain.varTypes jP ++ jF.resultTypes.toList))=true:=by kernel_rfl
theorem Zx:joinedFacts jP jN jF jS jC=true:=gm (gm (gm (gm (gm (gm (gm (gm (gm (gm (gm (gm (gm (gm (gm (gm (gm (gm (gm (gm (gm (gm (gm (gm (gm (gm (gm (gm (gm (gm (gm (jK0) jK1) jK2) jK3) jK4) jK5) Z5) Z3) Z6) Z8) ZF) ZV) ZY) ZA) ZL) Zu) ZE) ZW) ZJ) ZN) ZP) Zo) ZB) Zr) Zw) ZZ) ZU) ZX) ZO) ZT) Z2) Zq
theorem tableClear_holds:Rows.TableClearSaid :=
 OpenClaim.holds_of_wide 13 Tryz.f13 rfl rfl rfl rfl rfl rfl rfl ⟨rfl,rfl,rfl,rfl,rfl⟩ rfl rfl rfl rfl rfl (by kernel_rfl) Tryz.func13 Zx
  (of_decide_eq_true (by kernel_rfl)) (by unfold Func.isWrapper;rw[if_neg (by decide +kernel)];exact⟨rfl,rfl⟩)
  (λos started H enc _=>C0 os started H enc)
end Go.Proofs.YtihmlbdfcmfbdaaGreat
