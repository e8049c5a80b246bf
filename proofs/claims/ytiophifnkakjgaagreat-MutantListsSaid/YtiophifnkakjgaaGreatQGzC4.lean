/-
  For every grammar, int that are handed in, gerundlaw28.MutantLists returns true, and each argument reads afterwards as it read before.
  Conditions: none beyond those of the row.
-/
import Derived.Test.YtiophifnkakjgaaGreatRows
import Derived.Test.YtiophifnkakjgaaGreatSGzC4S
set_option linter.unusedSimpArgs false
set_option linter.unusedVariables false
set_option linter.unusedSimpArgs false
set_option maxRecDepth 100000
namespace Go.Proofs.YtiophifnkakjgaaGreat
open Go Go.ChangeShapes Go.WideShapes Go.ChangeAt Go.RowKit Gv
theorem own:ownKnob Tryz.prog.godebug=none:=by kernel_rfl
theorem laidOut:laidOutB Tryz.prog=true:=by kernel_rfl
theorem WB {w w':World} (h:fa w w') (k:hU w.heap w'.heap (λ_=>False)):Below w.heap.size w w':=
 ⟨h.os,h.tape,h.output,h.size,λb a=>k b a id⟩
set_option maxHeartbeats 2000000 in
theorem Cg (os:Os) (started:os.Started) (H:Type) (enc:TypeId × Value->H):
  ReturnsInHanded {} Tryz.checked os 10 .any (Rows.mutantListsSpec.pre6 enc Tryz.prog Tryz.f10 Rows.mutantListsRow.domain false) (Rows.mutantListsSpec.post enc Tryz.prog Tryz.f10 false true false false):=by
 refine returnsInHanded_of_change_sized (C:=Tryz.checked) own started (by kernel_rfl) Tryz.func10
  (ChangeSpec.witness6 (enc:=enc) (C:=Tryz.checked) false ⟨#[],#[.agg #[.slice none 0 0,.slice none 0 0,.slice none 0 0,.int .i64 0],.int .i64 0],[]⟩ 8 (by kernel_rfl) (by kernel_rfl) (by kernel_rfl) (by kernel_rfl)) ?_
 intro W base args M gs before k I _ z _
 have a:∀(j:Nat) t v,Tryz.f10.params[j]?=some t->args[j]?=some v->Value.okWide Tryz.prog W .any base t v:=k
 have l:=I
 obtain⟨p,q,A,N,rfl,O,P⟩:=I
 have J:DataW.TrodAll enc Tryz.prog W 0 (λ_=>true) true Tryz.f10.params.toList args.toList M p:=A
 have s:=l.lt
 rw[Tryz.params10] at J a
 obtain⟨v0,v1,d0,d1,B,Y,rfl,rfl,rfl,Q,h1⟩:=trodAll_two J
 obtain⟨rfl,rfl⟩:=trodVars_none N
 obtain⟨m,rfl,K⟩:=okWide_struct Tryz.underlying26 (a 0 26 v0 rfl rfl)
 obtain⟨w,rfl,rfl,rfl,o⟩:=open_int Tryz.underlying3 (a 1 3 v1 rfl rfl) h1
 obtain⟨c,u⟩:=Q
 have D:Wt Tryz.prog 26 d0:=λn R=>by
  have:=List.all_eq_true.1 z n (DataW.weights_mem_each (j:=0) (t:=26) (d:=d0) rfl rfl n R)
  simpa using this
 obtain⟨g0,E,f⟩:=Xt enc W 0 (λ_=>true) true c m.toList (d0,B) u D
 have F : -9223372036854775808<=w/\w<=9223372036854775807:=by
  simp only[Lit.wf,Bool.and_eq_true,decide_eq_true_eq] at o
  exact o
 have S:=Hr g0 E w F (λb=>b<W.heap.size) (λ_=>none) W [.agg m,.int .i64 w] ⟨rfl,λi hi=>by
  match i,hi with
  | 0,_ =>
   refine .agg _ _ (by rw[f.1];simp) λj T=>?_
   have:=f.2 (λ_=>none) j T
   simpa [Array.getD_eq_getD_getElem?,List.getD_eq_getElem?_getD] using this
  | 1,_=>exact .val _ rfl⟩ (λ_ h=>h)
 refine S.mono ?_
 rintro e U ⟨x,Z,rfl,V,r,_,_,hold⟩
 have L:=WB r hold
 have G:x=.bool true:=by
  have:=V λ_=>none
  cases this
  rfl
 subst G
 simp only[List.append_nil] at l s
 have g:DataW.Trod enc Tryz.prog U 0 (λb=>decide (b<W.heap.size)) true 26 (.agg m) d0 B:=
  Below.trod laidOut (by kernel_rfl) (of_decide_eq_true (by kernel_rfl)) ⟨c,u⟩ L (λy X=>s y (by simp[X]))
 refine⟨_,rfl,_,_,_,[],B++[],[],l,trodAll_mk1 (shut_bool (by kernel_rfl) true),trodAll_mk2 g (shut_int Tryz.underlying3 o),rfl,L.frame _,λh=>by cases h⟩
noncomputable abbrev jP:Program:=Tryz.checked.prog
noncomputable abbrev jN:Nat:=10
noncomputable abbrev jF:Func:=Tryz.f10
noncomputable abbrev jS:ChangeSpec:=Rows.mutantListsSpec
noncomputable abbrev jC:OpenClaim:=Rows.mutantListsRow
theorem gg {a b:Bool} (h:a=true) (k:b=true):(a&&b)=true:=by rw[h,k];rfl
theorem jK0:(jC.wf (OpenSpec.ofChange jS))=true:=by kernel_rfl
theorem jK1:(laidOutB jP)=true:=by kernel_rfl
theorem jK2:(mapsRowed jP)=true:=by kernel_rfl
theorem jK3:(jF.params.all (jP.readableRec ·))=true:=by kernel_rfl
theorem jK4:(namedTie jP jC.named jS.vars)=true:=by kernel_rfl
theorem jK5:((jC.stops==[]))=true:=by kernel_rfl
theorem jK6:((jP.stops==[]))=true:=by kernel_rfl
theorem jK7:((jC.knobs==[]))=true:=by kernel_rfl
theorem jK8:((jP.stopKnobs==[]))=true:=by kernel_rfl
theorem jK9:((jC.inPlace==jP.inPlace jN))=true:=by kernel_rfl
theorem Z3:((jC.unfollowed==jP.unfollowed jN))=true:=by kernel_rfl
theorem Z2:((jC.recurses==jP.recurses jN))=true:=by kernel_rfl
theorem aav:((jC.named==jP.varsNamed jN))=true:=by kernel_rfl
theorem Z6:((jC.maps==(jF.params.toList++jS.plain.varTypes jP).any (jP.mapsRec ·)))=true:=by kernel_rfl
theorem aaE:((jC.ifaces==(jF.params.toList++jS.plain.varTypes jP).any (jP.ifacesRec ·)))=true:=by kernel_rfl
theorem aaN:((jC.mapsOut==jP.mapsAmong jF.resultTypes.toList))=true:=by kernel_rfl
theorem aag:((jC.loops==(jF.params.toList++jS.plain.varTypes jP).any (jP.loopsFrom ·)))=true:=by kernel_rfl
theorem aaz:((jC.wideKeys==(jF.params.toList++jS.plain.varTypes jP++jF.resultTypes.toList).any (jP.wideKeysFrom ·)))=true:=by kernel_rfl
theorem aaa:(jS.vars.all (jP.varReadable ·))=true:=by kernel_rfl
theorem Z5:(jF.resultTypes.all (λt=>jP.readableRec t&&decide (t<jP.types.size)))=true:=by kernel_rfl
theorem aaA:((jC.ifacesOut==jF.resultTypes.toList.any (jP.ifacesRec ·)))=true:=by kernel_rfl
theorem ZZ:((jC.loopsOut==jF.resultTypes.toList.any (jP.loopsFrom ·)))=true:=by kernel_rfl
theorem aaO:((jC.plainKeys==jP.plainKeys))=true:=by kernel_rfl
theorem aaM:(jC.shortTexts.isNone)=true:=by kernel_rfl
theorem Z8:(jP.stopsHeard)=true:=by kernel_rfl
theorem aam:(jP.mayEnter)=true:=by kernel_rfl
theorem aao:((jC.lifted==jP.liftsFinal))=true:=by kernel_rfl
theorem Z7:((jP.make==some jC.make))=true:=by kernel_rfl
theorem aaF:((jC.kinds==(if jC.domain.isEmpty then [] else jF.params.toList.map λt=>match jP.underlying t with | some (.int k)=>some k | _=>none)))=true:=by kernel_rfl
theorem aaG:((jC.pinned==jC.pinnedBy))=true:=by kernel_rfl
theorem aaK:((jC.veiled==(jF.params.toList++jS.plain.varTypes jP++jF.resultTypes.toList).any (jP.veiledRec ·)))=true:=by kernel_rfl
theorem aad:(jC.veiledFits jP jF.params.toList (jF.params.toList++jS.plain.varTypes jP++jF.resultTypes.toList))=true:=by kernel_rfl
theorem aau:joinedFacts jP jN jF jS jC=true:=gg (gg (gg (gg (gg (gg (gg (gg (gg (gg (gg (gg (gg (gg (gg (gg (gg (gg (gg (gg (gg (gg (gg (gg (gg (gg (gg (gg (gg (gg (gg (jK0) jK1) jK2) jK3) jK4) jK5) jK6) jK7) jK8) jK9) Z3) Z2) aav) Z6) aaE) aaN) aag) aaz) aaa) Z5) aaA) ZZ) aaO) aaM) Z8) aam) aao) Z7) aaF) aaG) aaK) aad
theorem mutantLists_holds:Rows.MutantListsSaid:=
 OpenClaim.holds_of_wide 10 Tryz.f10 rfl rfl rfl rfl rfl rfl rfl ⟨rfl,rfl,rfl,rfl,rfl⟩ rfl rfl rfl rfl rfl (by kernel_rfl) Tryz.func10 aau
  (of_decide_eq_true (by kernel_rfl)) (by unfold Func.isWrapper;rw[if_neg (by decide +kernel)];exact⟨rfl,rfl⟩)
  (λos started H enc _=>Cg os started H enc)
end Go.Proofs.YtiophifnkakjgaaGreat
