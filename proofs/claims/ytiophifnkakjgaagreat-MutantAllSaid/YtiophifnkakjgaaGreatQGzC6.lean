/-
  For every grammar, 16-bit number, byte that are handed in, gerundlaw28.MutantAll returns true, and each argument reads afterwards as it read before.
  Conditions: none beyond those of the row.
-/
import Derived.Test.YtiophifnkakjgaaGreatRows
import Derived.Test.YtiophifnkakjgaaGreatSGzC6S
set_option linter.unusedSimpArgs false
set_option linter.unusedVariables false
set_option linter.unusedSimpArgs false
set_option maxRecDepth 100000
namespace Go.Proofs.YtiophifnkakjgaaGreat
open Go Go.ChangeShapes Go.WideShapes Go.ChangeAt Go.RowKit Gv
theorem own:ownKnob Tryz.prog.godebug=none:=by kernel_rfl
theorem laidOut:laidOutB Tryz.prog=true:=by kernel_rfl
theorem Ve {w w':World} (h:fa w w') (k:gY w.heap w'.heap (λ_=>False)):Below w.heap.size w w':=
 ⟨h.os,h.tape,h.output,h.size,λb a=>k b a id⟩
set_option maxHeartbeats 2000000 in
theorem Ek (os:Os) (started:os.Started) (H:Type) (enc:TypeId × Value->H):
  ReturnsInHanded {} Tryz.checked os 12 .any (Rows.mutantAllSpec.pre6 enc Tryz.prog Tryz.f12 Rows.mutantAllRow.domain false) (Rows.mutantAllSpec.post enc Tryz.prog Tryz.f12 false true false false):=by
 refine returnsInHanded_of_change_sized (C:=Tryz.checked) own started (by kernel_rfl) Tryz.func12
  (ChangeSpec.witness6 (enc:=enc) (C:=Tryz.checked) false ⟨#[],#[.agg #[.slice none 0 0,.slice none 0 0,.slice none 0 0,.int .i64 0],.int .u16 0,.int .u8 0],[]⟩ 8 (by kernel_rfl) (by kernel_rfl) (by kernel_rfl) (by kernel_rfl)) ?_
 intro W base args P gs before k L _ E _
 have a:∀(j:Nat) t v,Tryz.f12.params[j]?=some t->args[j]?=some v->Value.okWide Tryz.prog W .any base t v:=k
 have l:=L
 obtain⟨p,q,F,Q,rfl,R,S⟩:=L
 have M:DataW.TrodAll enc Tryz.prog W 0 (λ_=>true) true Tryz.f12.params.toList args.toList P p:=F
 have u:=l.lt
 rw[Tryz.params12] at M a
 obtain⟨v0,v1,v2,d0,d1,d2,G,p1,p2,rfl,rfl,rfl,T,h1,U⟩:=trodAll_three M
 obtain⟨rfl,rfl⟩:=trodVars_none Q
 obtain⟨m,rfl,N⟩:=okWide_struct Tryz.underlying26 (a 0 26 v0 rfl rfl)
 obtain⟨B,rfl,rfl,rfl,o⟩:=open_int Tryz.underlying62 (a 1 62 v1 rfl rfl) h1
 obtain⟨D,rfl,rfl,rfl,r⟩:=open_int Tryz.underlying5 (a 2 5 v2 rfl rfl) U
 obtain⟨c,w⟩:=T
 have I:Wt Tryz.prog 26 d0:=λn V=>by
  have:=List.all_eq_true.1 E n (DataW.weights_mem_each (j:=0) (t:=26) (d:=d0) rfl rfl n V)
  simpa using this
 obtain⟨g0,J,f⟩:=Xo enc W 0 (λ_=>true) true c m.toList (d0,G) w I
 have z:0<=B/\B<=65535:=by
  simp only[Lit.wf,Bool.and_eq_true,decide_eq_true_eq] at o
  exact o
 have A:0<=D/\D<=255:=by
  simp only[Lit.wf,Bool.and_eq_true,decide_eq_true_eq] at r
  exact r
 have X:=LQ g0 J B z.1 z.2 D A.1 A.2 (λb=>b<W.heap.size) (λ_=>none) W [.agg m,.int .u16 B,.int .u8 D] ⟨rfl,λi hi=>by
  match i,hi with
  | 0,_ =>
   refine .agg _ _ (by rw[f.1];simp) λj Y=>?_
   have:=f.2 (λ_=>none) j Y
   simpa [Array.getD_eq_getD_getElem?,List.getD_eq_getElem?_getD] using this
  | 1,_=>exact .val _ rfl
  | 2,_=>exact .val _ rfl⟩ (λ_ h=>h)
 refine X.mono ?_
 rintro e Z ⟨x,Z',rfl,hx,s,_,_,hold⟩
 have O:=Ve s hold
 have K:x=.bool true:=by
  have:=hx λ_=>none
  cases this
  rfl
 subst K
 simp only[List.append_nil] at l u
 have g:DataW.Trod enc Tryz.prog Z 0 (λb=>decide (b<W.heap.size)) true 26 (.agg m) d0 G:=
  Below.trod laidOut (by kernel_rfl) (of_decide_eq_true (by kernel_rfl)) ⟨c,w⟩ O (λy hy=>u y (by simp[hy]))
 refine⟨_,rfl,_,_,_,[],G++([]++[]),[],l,trodAll_mk1 (shut_bool (by kernel_rfl) true),trodAll_mk3 g (shut_int Tryz.underlying62 o) (shut_int Tryz.underlying5 r),rfl,O.frame _,λh=>by cases h⟩
noncomputable abbrev jP:Program:=Tryz.checked.prog
noncomputable abbrev jN:Nat:=12
noncomputable abbrev jF:Func:=Tryz.f12
noncomputable abbrev jS:ChangeSpec:=Rows.mutantAllSpec
noncomputable abbrev jC:OpenClaim:=Rows.mutantAllRow
theorem gh {a b:Bool} (h:a=true) (k:b=true):(a&&b)=true:=by rw[h,k];rfl
theorem jK0:(jC.wf (OpenSpec.ofChange jS))=true:=by kernel_rfl
theorem jK1:(laidOutB jP)=true:=by kernel_rfl
theorem jK2:(mapsRowed jP)=true:=by kernel_rfl
theorem jK3:(jF.params.all (jP.readableRec ·))=true:=by kernel_rfl
theorem jK4:(namedTie jP jC.named jS.vars)=true:=by kernel_rfl
theorem jK5:((jC.stops==[]))=true:=by kernel_rfl
theorem jK6:((jP.stops==[]))=true:=by kernel_rfl
theorem jK7:((jC.knobs==[]))=true:=by kernel_rfl
theorem jK8:((jP.stopKnobs==[]))=true:=by kernel_rfl
theorem jK9:((jC.inPlace==jP.inPlace jN))=true:=by kernel_rfl
theorem aai:((jC.unfollowed==jP.unfollowed jN))=true:=by kernel_rfl
theorem aac:((jC.recurses==jP.recurses jN))=true:=by kernel_rfl
theorem ZP:((jC.named==jP.varsNamed jN))=true:=by kernel_rfl
theorem ZL:((jC.maps==(jF.params.toList++jS.plain.varTypes jP).any (jP.mapsRec ·)))=true:=by kernel_rfl
theorem aae:((jC.ifaces==(jF.params.toList++jS.plain.varTypes jP).any (jP.ifacesRec ·)))=true:=by kernel_rfl
theorem Z4:((jC.mapsOut==jP.mapsAmong jF.resultTypes.toList))=true:=by kernel_rfl
theorem Z6:((jC.loops==(jF.params.toList++jS.plain.varTypes jP).any (jP.loopsFrom ·)))=true:=by kernel_rfl
theorem aam:((jC.wideKeys==(jF.params.toList++jS.plain.varTypes jP++jF.resultTypes.toList).any (jP.wideKeysFrom ·)))=true:=by kernel_rfl
theorem ZK:(jS.vars.all (jP.varReadable ·))=true:=by kernel_rfl
theorem aah:(jF.resultTypes.all (λt=>jP.readableRec t&&decide (t<jP.types.size)))=true:=by kernel_rfl
theorem Z8:((jC.ifacesOut==jF.resultTypes.toList.any (jP.ifacesRec ·)))=true:=by kernel_rfl
theorem aat:((jC.loopsOut==jF.resultTypes.toList.any (jP.loopsFrom ·)))=true:=by kernel_rfl
theorem Z9:((jC.plainKeys==jP.plainKeys))=true:=by kernel_rfl
theorem ZX:(jC.shortTexts.isNone)=true:=by kernel_rfl
theorem ZY:(jP.stopsHeard)=true:=by kernel_rfl
theorem aad:(jP.mayEnter)=true:=by kernel_rfl
theorem aaj:((jC.lifted==jP.liftsFinal))=true:=by kernel_rfl
theorem aaf:((jP.make==some jC.make))=true:=by kernel_rfl
theorem aaa:((jC.kinds==(if jC.domain.isEmpty then [] else jF.params.toList.map λt=>match jP.underlying t with | some (.int k)=>some k | _=>none)))=true:=by kernel_rfl
theorem aan:((jC.pinned==jC.pinnedBy))=true:=by kernel_rfl
theorem Z7:((jC.veiled==(jF.params.toList++jS.plain.varTypes jP++jF.resultTypes.toList).any (jP.veiledRec ·)))=true:=by kernel_rfl
theorem ZR:(jC.veiledFits jP jF.params.toList (jF.params.toList++jS.plain.varTypes jP++jF.resultTypes.toList))=true:=by kernel_rfl
theorem aab:joinedFacts jP jN jF jS jC=true:=gh (gh (gh (gh (gh (gh (gh (gh (gh (gh (gh (gh (gh (gh (gh (gh (gh (gh (gh (gh (gh (gh (gh (gh (gh (gh (gh (gh (gh (gh (gh (jK0) jK1) jK2) jK3) jK4) jK5) jK6) jK7) jK8) jK9) aai) aac) ZP) ZL) aae) Z4) Z6) aam) ZK) aah) Z8) aat) Z9) ZX) ZY) aad) aaj) aaf) aaa) aan) Z7) ZR
theorem mutantAll_holds:Rows.MutantAllSaid:=
 OpenClaim.holds_of_wide 12 Tryz.f12 rfl rfl rfl rfl rfl rfl rfl ⟨rfl,rfl,rfl,rfl,rfl⟩ rfl rfl rfl rfl rfl (by kernel_rfl) Tryz.func12 aab
  (of_decide_eq_true (by kernel_rfl)) (by unfold Func.isWrapper;rw[if_neg (by decide +kernel)];exact⟨rfl,rfl⟩)
  (λos started H enc _=>Ek os started H enc)
end Go.Proofs.YtiophifnkakjgaaGreat
