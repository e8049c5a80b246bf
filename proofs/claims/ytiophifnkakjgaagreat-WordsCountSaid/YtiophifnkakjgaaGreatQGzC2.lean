/-
  For every grammar, byte, byte that are handed in, gerundlaw26.WordsCount returns true, and each argument reads afterwards as it read before.
  Conditions: none beyond those of the row.
-/
import Derived.Test.YtiophifnkakjgaaGreatRows
import Derived.Test.YtiophifnkakjgaaGreatSGzC2N
set_option linter.unusedSimpArgs false
set_option linter.unusedVariables false
set_option linter.unusedSimpArgs false
set_option maxRecDepth 100000
namespace Go.Proofs.YtiophifnkakjgaaGreat
open Go Go.ChangeShapes Go.WideShapes Go.ChangeAt Go.RowKit Gv
theorem own:ownKnob Tryz.prog.godebug=none:=by kernel_rfl
theorem laidOut:laidOutB Tryz.prog=true:=by kernel_rfl
theorem Kz {w w':World} (h:c8 w w') (k:ee w.heap w'.heap (λ_=>False)):Below w.heap.size w w' :=
 ⟨h.os,h.tape,h.output,h.size,λb a=>k b a id⟩
set_option maxHeartbeats 2000000 in
theorem vA (os:Os) (started:os.Started) (H:Type) (enc:TypeId × Value->H) :
  ReturnsInHanded {} Tryz.checked os 4 .any (Rows.wordsCountSpec.pre6 enc Tryz.prog Tryz.f4 Rows.wordsCountRow.domain false) (Rows.wordsCountSpec.post enc Tryz.prog Tryz.f4 false true false false):=by
 refine returnsInHanded_of_change_sized (C:=Tryz.checked) own started (by kernel_rfl) Tryz.func4
  (ChangeSpec.witness6 (enc:=enc) (C:=Tryz.checked) false ⟨#[],#[.agg #[.slice none 0 0,.slice none 0 0,.slice none 0 0,.int .i64 0],.int .u8 0,.int .u8 0],[]⟩ 8 (by kernel_rfl) (by kernel_rfl) (by kernel_rfl) (by kernel_rfl)) ?_
 intro W base args P gs before k L _ E _
 have a:∀ (j:Nat) t v,Tryz.f4.params[j]?=some t->args[j]?=some v->Value.okWide Tryz.prog W .any base t v:=k
 have l:=L
 obtain⟨p,q,F,Q,rfl,R,S⟩:=L
 have M:DataW.TrodAll enc Tryz.prog W 0 (λ_=>true) true Tryz.f4.params.toList args.toList P p:=F
 have u:=l.lt
 rw[Tryz.params4] at M a
 obtain⟨v0,v1,v2,d0,d1,d2,G,p1,p2,rfl,rfl,rfl,T,h1,U⟩:=trodAll_three M
 obtain⟨rfl,rfl⟩:=trodVars_none Q
 obtain⟨m,rfl,N⟩:=okWide_struct Tryz.underlying26 (a 0 26 v0 rfl rfl)
 obtain⟨B,rfl,rfl,rfl,o⟩:=open_int Tryz.underlying5 (a 1 5 v1 rfl rfl) h1
 obtain⟨D,rfl,rfl,rfl,r⟩:=open_int Tryz.underlying5 (a 2 5 v2 rfl rfl) U
 obtain⟨c,w⟩:=T
 have I:Wt Tryz.prog 26 d0:=λn V=>by
  have:=List.all_eq_true.1 E n (DataW.weights_mem_each (j:=0) (t:=26) (d:=d0) rfl rfl n V)
  simpa using this
 obtain⟨g0,J,f⟩:=L2 enc W 0 (λ_=>true) true c m.toList (d0,G) w I
 have z:0<=B/\B<=255:=by
  simp only[Lit.wf,Bool.and_eq_true,decide_eq_true_eq] at o
  exact o
 have A:0<=D/\D<=255:=by
  simp only[Lit.wf,Bool.and_eq_true,decide_eq_true_eq] at r
  exact r
 have X:=AS g0 J B z.1 z.2 D A.1 A.2 (λb=>b < W.heap.size) (λ_=>none) W [.agg m,.int .u8 B,.int .u8 D] ⟨rfl,λi hi=>by
  match i,hi with
  | 0,_ =>
   refine .agg _ _ (by rw[f.1];simp) λj Y=>?_
   have:=f.2 (λ_=>none) j Y
   simpa [Array.getD_eq_getD_getElem?,List.getD_eq_getElem?_getD] using this
  | 1,_=>exact .val _ rfl
  | 2,_=>exact .val _ rfl⟩ (λ_ h=>h)
 refine X.mono ?_
 rintro e Z ⟨x,Z',rfl,hx,s,_,_,hold⟩
 have O:=Kz s hold
 have K:x=.bool true:=by
  have:=hx λ_=>none
  cases this
  rfl
 subst K
 simp only[List.append_nil] at l u
 have g:DataW.Trod enc Tryz.prog Z 0 (λb=>decide (b < W.heap.size)) true 26 (.agg m) d0 G :=
  Below.trod laidOut (by kernel_rfl) (of_decide_eq_true (by kernel_rfl)) ⟨c,w⟩ O (λy hy=>u y (by simp[hy]))
 refine⟨_,rfl,_,_,_,[],G ++ ([] ++ []),[],l,trodAll_mk1 (shut_bool (by kernel_rfl) true),trodAll_mk3 g (shut_int Tryz.underlying5 o) (shut_int Tryz.underlying5 r),rfl,O.frame _,λh=>by cases h⟩
noncomputable abbrev jP:Program:=Tryz.checked.prog
noncomputable abbrev jN:Nat:=4
noncomputable abbrev jF:Func:=Tryz.f4
noncomputable abbrev jS:ChangeSpec:=Rows.wordsCountSpec
noncomputable abbrev jC:OpenClaim:=Rows.wordsCountRow
theorem dy {a b:Bool} (h:a=true) (k:b=true):(a && b)=true:=by rw[h,k];rfl
theorem Oy:(jC.wf (OpenSpec.ofChange jS))=true:=by kernel_rfl
theorem Ou:(laidOutB jP)=true:=by kernel_rfl
theorem Oz:(mapsRowed jP)=true:=by kernel_rfl
theorem Ov:(jF.params.all (jP.readableRec ·))=true:=by kernel_rfl
theorem Oh:(namedTie jP jC.named jS.vars)=true:=by kernel_rfl
theorem Oj:((jC.stops == []))=true:=by kernel_rfl
theorem Ot:((jP.stops == []))=true:=by kernel_rfl
theorem Oq:((jC.knobs == []))=true:=by kernel_rfl
theorem Ol:((jP.stopKnobs == []))=true:=by kernel_rfl
theorem OD:((jC.inPlace == jP.inPlace jN))=true:=by kernel_rfl
theorem NL:((jC.unfollowed == jP.unfollowed jN))=true:=by kernel_rfl
theorem NR:((jC.recurses == jP.recurses jN))=true:=by kernel_rfl
theorem Of:((jC.named == jP.varsNamed jN))=true:=by kernel_rfl
theorem NV:((jC.maps == (jF.params.toList ++ jS.plain.varTypes jP).any (jP.mapsRec ·)))=true:=by kernel_rfl
theorem Ob:((jC.ifaces == (jF.params.toList ++ jS.plain.varTypes jP).any (jP.ifacesRec ·)))=true:=by kernel_rfl
theorem NX:((jC.mapsOut == jP.mapsAmong jF.resultTypes.toList))=true:=by kernel_rfl
theorem N1:((jC.loops == (jF.params.toList ++ jS.plain.varTypes jP).any (jP.loopsFrom ·)))=true:=by kernel_rfl
theorem NQ:((jC.wideKeys == (jF.params.toList ++ jS.plain.varTypes jP ++ jF.resultTypes.toList).any (jP.wideKeysFrom ·)))=true:=by kernel_rfl
theorem NN:(jS.vars.all (jP.varReadable ·))=true:=by kernel_rfl
theorem NY:(jF.resultTypes.all (λt=>jP.readableRec t && decide (t < jP.types.size)))=true:=by kernel_rfl
theorem NO:((jC.ifacesOut == jF.resultTypes.toList.any (jP.ifacesRec ·)))=true:=by kernel_rfl
theorem NW:((jC.loopsOut == jF.resultTypes.toList.any (jP.loopsFrom ·)))=true:=by kernel_rfl
theorem Oc:((jC.plainKeys == jP.plainKeys))=true:=by kernel_rfl
theorem NS:(jC.shortTexts.isNone)=true:=by kernel_rfl
theorem NG:(jP.stopsHeard)=true:=by kernel_rfl
theorem NU:(jP.mayEnter)=true:=by kernel_rfl
theorem Od:((jC.lifted == jP.liftsFinal))=true:=by kernel_rfl
theorem NP:((jP.make == some jC.make))=true:=by kernel_rfl
theorem N4:((jC.kinds == (if jC.domain.isEmpty then [] else jF.params.toList.map λt=>match jP.underlying t with | some (.int k)=>some k | _=>none)))=true:=by kernel_rfl
theorem N6:((jC.pinned == jC.pinnedBy))=true:=by kernel_rfl
theorem N3:((jC.veiled == (jF.params.toList ++ jS.plain.varTypes jP ++ jF.resultTypes.toList).any (jP.veiledRec ·)))=true:=by kernel_rfl
theorem Oe:(jC.veiledFits jP jF.params.toList (jF.params.toList ++ jS.plain.varTypes jP ++ jF.resultTypes.toList))=true:=by kernel_rfl
theorem NT:joinedFacts jP jN jF jS jC=true:=dy (dy (dy (dy (dy (dy (dy (dy (dy (dy (dy (dy (dy (dy (dy (dy (dy (dy (dy (dy (dy (dy (dy (dy (dy (dy (dy (dy (dy (dy (dy (Oy) Ou) Oz) Ov) Oh) Oj) Ot) Oq) Ol) OD) NL) NR) Of) NV) Ob) NX) N1) NQ) NN) NY) NO) NW) Oc) NS) NG) NU) Od) NP) N4) N6) N3) Oe
theorem wordsCount_holds:Rows.WordsCountSaid :=
 OpenClaim.holds_of_wide 4 Tryz.f4 rfl rfl rfl rfl rfl rfl rfl ⟨rfl,rfl,rfl,rfl,rfl⟩ rfl rfl rfl rfl rfl (by kernel_rfl) Tryz.func4 NT
  (of_decide_eq_true (by kernel_rfl)) (by unfold Func.isWrapper;rw[if_neg (by decide +kernel)];exact⟨rfl,rfl⟩)
  (λos started H enc _=>vA os started H enc)
end Go.Proofs.YtiophifnkakjgaaGreat
