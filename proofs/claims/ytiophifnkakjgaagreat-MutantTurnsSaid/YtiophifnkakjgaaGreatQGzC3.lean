/-
  For every grammar, list of numbers, triple of numbers that are handed in, gerundlaw28.MutantTurns returns true, and each argument reads afterwards as it read before.
  Conditions: none beyond those of the row.
-/
import Derived.Test.YtiophifnkakjgaaGreatRows
import Derived.Test.YtiophifnkakjgaaGreatSGzC3P
set_option linter.unusedSimpArgs false
set_option linter.unusedVariables false
set_option linter.unusedSimpArgs false
set_option maxRecDepth 100000
namespace Go.Proofs.YtiophifnkakjgaaGreat
open Go Go.ChangeShapes Go.WideShapes Go.ChangeAt Go.RowKit Gv
theorem own:ownKnob Tryz.prog.godebug=none:=by kernel_rfl
theorem laidOut:laidOutB Tryz.prog=true:=by kernel_rfl
theorem QR {w w':World} (h:ep w w') (k:gh w.heap w'.heap (λ_=>False)):Below w.heap.size w w' :=
 ⟨h.os,h.tape,h.output,h.size,λb a=>k b a id⟩
set_option maxHeartbeats 2000000 in
theorem yk (os:Os) (started:os.Started) (H:Type) (enc:TypeId × Value->H) :
  ReturnsInHanded {} Tryz.checked os 9 .any (Rows.mutantTurnsSpec.pre6 enc Tryz.prog Tryz.f9 Rows.mutantTurnsRow.domain false) (Rows.mutantTurnsSpec.post enc Tryz.prog Tryz.f9 false true false false):=by
 refine returnsInHanded_of_change_sized (C:=Tryz.checked) own started (by kernel_rfl) Tryz.func9
  (ChangeSpec.witness6 (enc:=enc) (C:=Tryz.checked) false ⟨#[],#[.agg #[.slice none 0 0,.slice none 0 0,.slice none 0 0,.int .i64 0],.slice none 0 0,.agg #[.int .i64 0,.int .i64 0,.int .i64 0]],[]⟩ 8 (by kernel_rfl) (by kernel_rfl) (by kernel_rfl) (by kernel_rfl)) ?_
 intro W base args ds gs before u hW _ w _
 have a:∀ (j:Nat) t v,Tryz.f9.params[j]?=some t->args[j]?=some v->Value.okWide Tryz.prog W .any base t v:=u
 have z:=hW
 obtain⟨p,q,P,hV,rfl,ar,a1⟩:=hW
 have hA:DataW.TrodAll enc Tryz.prog W 0 (λ_=>true) true Tryz.f9.params.toList args.toList ds p:=P
 have m:=z.lt
 rw[Tryz.params9] at hA a
 obtain⟨v0,v1,v2,d0,d1,d2,Q,R,S,rfl,rfl,rfl,h0,h1,h2⟩:=trodAll_three hA
 obtain⟨rfl,rfl⟩:=trodVars_none hV
 obtain⟨A,rfl,ae⟩:=okWide_struct Tryz.underlying26 (a 0 26 v0 rfl rfl)
 obtain⟨B,D,E,rfl⟩:=okWide_slice Tryz.underlying27 (a 1 27 v1 rfl rfl)
 obtain⟨Sn,rfl,al⟩:=okWide_struct Tryz.underlying74 (a 2 74 v2 rfl rfl)
 obtain⟨c,I⟩:=h0
 have T:Wt Tryz.prog 26 d0:=λn J=>by
  have:=List.all_eq_true.1 w n (DataW.weights_mem_each (j:=0) (t:=26) (d:=d0) rfl rfl n J)
  simpa using this
 obtain⟨g0,U,f⟩:=SV enc W 0 (λ_=>true) true c A.toList (d0,Q) I T
 obtain⟨g,K⟩:=h1
 have V:Wt Tryz.prog 27 d1:=λn J=>by
  have:=List.all_eq_true.1 w n (DataW.weights_mem_each (j:=1) (t:=27) (d:=d1) rfl rfl n J)
  simpa using this
 obtain⟨l1,L,F⟩:=JV enc W 0 (λ_=>true) true g [.slice B D E] (d1,R) K V
 obtain⟨k,M⟩:=h2
 have X:Wt Tryz.prog 74 d2:=λn J=>by
  have:=List.all_eq_true.1 w n (DataW.weights_mem_each (j:=2) (t:=74) (d:=d2) rfl rfl n J)
  simpa using this
 obtain⟨g2,Y,l⟩:=RL enc W 0 (λ_=>true) true k Sn.toList (d2,S) M X
 have hc:=DW g0 U l1 L.1 L.2 g2 Y (λb=>b < W.heap.size) (λ_=>none) W [.agg A,.slice B D E,.agg Sn] ⟨rfl,λi hi=>by
  match i,hi with
  | 0,_ =>
   refine .agg _ _ (by rw[f.1];simp) λj Z=>?_
   have:=f.2 (λ_=>none) j Z
   simpa [Array.getD_eq_getD_getElem?,List.getD_eq_getElem?_getD] using this
  | 1,_=>exact F.2 (λ_=>none) 0 (by simp)
  | 2,_ =>
   refine .agg _ _ (by rw[l.1];simp) λj Z=>?_
   have:=l.2 (λ_=>none) j Z
   simpa [Array.getD_eq_getD_getElem?,List.getD_eq_getElem?_getD] using this⟩ (λ_ h=>h)
 refine hc.mono ?_
 rintro e W' ⟨x,Z',rfl,hx,G,_,_,hold⟩
 have O:=QR G hold
 have ab:x=.bool true:=by
  have:=hx λ_=>none
  cases this
  rfl
 subst ab
 simp only[List.append_nil] at z m
 have o:DataW.Trod enc Tryz.prog W' 0 (λb=>decide (b < W.heap.size)) true 26 (.agg A) d0 Q :=
  Below.trod laidOut (by kernel_rfl) (of_decide_eq_true (by kernel_rfl)) ⟨c,I⟩ O (λy N=>m y (by simp[N]))
 have r:DataW.Trod enc Tryz.prog W' 0 (λb=>decide (b < W.heap.size)) true 27 (.slice B D E) d1 R :=
  Below.trod laidOut (by kernel_rfl) (of_decide_eq_true (by kernel_rfl)) ⟨g,K⟩ O (λy N=>m y (by simp[N]))
 have s:DataW.Trod enc Tryz.prog W' 0 (λb=>decide (b < W.heap.size)) true 74 (.agg Sn) d2 S :=
  Below.trod laidOut (by kernel_rfl) (of_decide_eq_true (by kernel_rfl)) ⟨k,M⟩ O (λy N=>m y (by simp[N]))
 refine⟨_,rfl,_,_,_,[],Q ++ (R ++ S),[],z,trodAll_mk1 (shut_bool (by kernel_rfl) true),trodAll_mk3 o r s,rfl,O.frame _,λh=>by cases h⟩
noncomputable abbrev jP:Program:=Tryz.checked.prog
noncomputable abbrev jN:Nat:=9
noncomputable abbrev jF:Func:=Tryz.f9
noncomputable abbrev jS:ChangeSpec:=Rows.mutantTurnsSpec
noncomputable abbrev jC:OpenClaim:=Rows.mutantTurnsRow
theorem fo {a b:Bool} (h:a=true) (k:b=true):(a && b)=true:=by rw[h,k];rfl
theorem Wc:(jC.wf (OpenSpec.ofChange jS))=true:=by kernel_rfl
theorem Wk:(laidOutB jP)=true:=by kernel_rfl
theorem We:(mapsRowed jP)=true:=by kernel_rfl
theorem Wb:(jF.params.all (jP.readableRec ·))=true:=by kernel_rfl
theorem Wl:(namedTie jP jC.named jS.vars)=true:=by kernel_rfl
theorem V7:((jC.stops == []))=true:=by kernel_rfl
theorem Wd:((jP.stops == []))=true:=by kernel_rfl
theorem Wh:((jC.knobs == []))=true:=by kernel_rfl
theorem Wf:((jP.stopKnobs == []))=true:=by kernel_rfl
theorem Wj:((jC.inPlace == jP.inPlace jN))=true:=by kernel_rfl
theorem V4:((jC.unfollowed == jP.unfollowed jN))=true:=by kernel_rfl
theorem VX:((jC.recurses == jP.recurses jN))=true:=by kernel_rfl
theorem VO:((jC.named == jP.varsNamed jN))=true:=by kernel_rfl
theorem Vo:((jC.maps == (jF.params.toList ++ jS.plain.varTypes jP).any (jP.mapsRec ·)))=true:=by kernel_rfl
theorem VQ:((jC.ifaces == (jF.params.toList ++ jS.plain.varTypes jP).any (jP.ifacesRec ·)))=true:=by kernel_rfl
theorem VD:((jC.mapsOut == jP.mapsAmong jF.resultTypes.toList))=true:=by kernel_rfl
theorem Vv:((jC.loops == (jF.params.toList ++ jS.plain.varTypes jP).any (jP.loopsFrom ·)))=true:=by kernel_rfl
theorem VR:((jC.wideKeys == (jF.params.toList ++ jS.plain.varTypes jP ++ jF.resultTypes.toList).any (jP.wideKeysFrom ·)))=true:=by kernel_rfl
theorem V1:(jS.vars.all (jP.varReadable ·))=true:=by kernel_rfl
theorem V5:(jF.resultTypes.all (λt=>jP.readableRec t && decide (t < jP.types.size)))=true:=by kernel_rfl
theorem Vn:((jC.ifacesOut == jF.resultTypes.toList.any (jP.ifacesRec ·)))=true:=by kernel_rfl
theorem VL:((jC.loopsOut == jF.resultTypes.toList.any (jP.loopsFrom ·)))=true:=by kernel_rfl
theorem VV:((jC.plainKeys == jP.plainKeys))=true:=by kernel_rfl
theorem VH:(jC.shortTexts.isNone)=true:=by kernel_rfl
theorem V0:(jP.stopsHeard)=true:=by kernel_rfl
theorem Vs:(jP.mayEnter)=true:=by kernel_rfl
theorem VY:((jC.lifted == jP.liftsFinal))=true:=by kernel_rfl
theorem VU:((jP.make == some jC.make))=true:=by kernel_rfl
theorem Vz:((jC.kinds == (if jC.domain.isEmpty then [] else jF.params.toList.map λt=>match jP.underlying t with | some (.int k)=>some k | _=>none)))=true:=by kernel_rfl
theorem Vy:((jC.pinned == jC.pinnedBy))=true:=by kernel_rfl
theorem V2:((jC.veiled == (jF.params.toList ++ jS.plain.varTypes jP ++ jF.resultTypes.toList).any (jP.veiledRec ·)))=true:=by kernel_rfl
theorem VK:(jC.veiledFits jP jF.params.toList (jF.params.toList ++ jS.plain.varTypes jP ++ jF.resultTypes.toList))=true:=by kernel_rfl
theorem V3:joinedFacts jP jN jF jS jC=true:=fo (fo (fo (fo (fo (fo (fo (fo (fo (fo (fo (fo (fo (fo (fo (fo (fo (fo (fo (fo (fo (fo (fo (fo (fo (fo (fo (fo (fo (fo (fo (Wc) Wk) We) Wb) Wl) V7) Wd) Wh) Wf) Wj) V4) VX) VO) Vo) VQ) VD) Vv) VR) V1) V5) Vn) VL) VV) VH) V0) Vs) VY) VU) Vz) Vy) V2) VK
theorem mutantTurns_holds:Rows.MutantTurnsSaid :=
 OpenClaim.holds_of_wide 9 Tryz.f9 rfl rfl rfl rfl rfl rfl rfl ⟨rfl,rfl,rfl,rfl,rfl⟩ rfl rfl rfl rfl rfl (by kernel_rfl) Tryz.func9 V3
  (of_decide_eq_true (by kernel_rfl)) (by unfold Func.isWrapper;rw[if_neg (by decide +kernel)];exact⟨rfl,rfl⟩)
  (λos started H enc _=>yk os started H enc)
end Go.Proofs.YtiophifnkakjgaaGreat
