/-
  For every grammar, 16-bit number that are handed in, gerundlaw17.TableShifts returns true, and each argument reads afterwards as it read before.
  Conditions: none beyond those of the row.
-/
import Derived.Test.YtihmlbdfcmfbdaaGreatRows
import Derived.Test.YtihmlbdfcmfbdaaGreatSGzB4Q
set_option linter.unusedSimpArgs false
set_option linter.unusedVariables false
set_option linter.unusedSimpArgs false
set_option maxRecDepth 100000
namespace Go.Proofs.YtihmlbdfcmfbdaaGreat
open Go Go.ChangeShapes Go.WideShapes Go.ChangeAt Go.RowKit Gv
theorem own:ownKnob Tryz.prog.godebug=none:=by kernel_rfl
theorem laidOut:laidOutB Tryz.prog=true:=by kernel_rfl
theorem SH {w w':World} (h:eM w w') (k:gF w.heap w'.heap (fun _=>False)):Below w.heap.size w w' :=
 ⟨h.os,h.tape,h.output,h.size,fun b a=>k b a id⟩
set_option maxHeartbeats 2000000 in
theorem yX (os:Os) (started:os.Started) (H:Type) (enc:TypeId × Value→H) :
  ReturnsInHanded {} Tryz.checked os 14 .any (Rows.tableShiftsSpec.pre6 enc Tryz.prog Tryz.f14 Rows.tableShiftsRow.domain false) (Rows.tableShiftsSpec.post enc Tryz.prog Tryz.f14 false true false false):=by
 refine returnsInHanded_of_change_sized (C:=Tryz.checked) own started (by kernel_rfl) Tryz.func14
  (ChangeSpec.witness6 (enc:=enc) (C:=Tryz.checked) false ⟨#[],#[.agg #[.slice none 0 0,.slice none 0 0,.slice none 0 0,.int .i64 0],.int .u16 0],[]⟩ 8 (by kernel_rfl) (by kernel_rfl) (by kernel_rfl) (by kernel_rfl)) ?_
 intro W base args K gs before k hW _ z _
 have a:∀ (j:Nat) t v,Tryz.f14.params[j]?=some t→args[j]?=some v→Value.okWide Tryz.prog W .any base t v:=k
 have l:=hW
 obtain ⟨p,q,A,L,rfl,M,N⟩:=hW
 have G:DataW.TrodAll enc Tryz.prog W 0 (fun _=>true) true Tryz.f14.params.toList args.toList K p:=A
 have s:=l.lt
 rw[Tryz.params14] at G a
 obtain ⟨v0,v1,d0,d1,B,V,rfl,rfl,rfl,O,h1⟩:=trodAll_two G
 obtain ⟨rfl,rfl⟩:=trodVars_none L
 obtain ⟨m,rfl,I⟩:=okWide_struct Tryz.underlying26 (a 0 26 v0 rfl rfl)
 obtain ⟨n1,rfl,rfl,rfl,o⟩:=open_int Tryz.underlying53 (a 1 53 v1 rfl rfl) h1
 obtain ⟨c,u⟩:=O
 have D:Wt Tryz.prog 26 d0:=fun n P=>by
  have:=List.all_eq_true.1 z n (DataW.weights_mem_each (j:=0) (t:=26) (d:=d0) rfl rfl n P)
  simpa using this
 obtain ⟨g0,E,f⟩:=Ul enc W 0 (fun _=>true) true c m.toList (d0,B) u D
 have w:0≤n1∧n1≤65535:=by
  simp only[Lit.wf,Bool.and_eq_true,decide_eq_true_eq] at o
  exact o
 have Q:=Ev g0 E n1 w.1 w.2 (fun b=>b < W.heap.size) (fun _=>none) W [.agg m,.int .u16 n1] ⟨rfl,fun i hi=>by
  match i,hi with
  | 0,_ =>
   refine .agg _ _ (by rw[f.1]; simp) fun j R=>?_
   have:=f.2 (fun _=>none) j R
   simpa [Array.getD_eq_getD_getElem?,List.getD_eq_getElem?_getD] using this
  | 1,_=>exact .val _ rfl⟩ (fun _ h=>h)
 refine Q.mono ?_
 rintro e S ⟨x,X,rfl,T,r,_,_,hold⟩
 have J:=SH r hold
 have F:x=.bool true:=by
  have:=T fun _=>none
  cases this
  rfl
 subst F
 simp only[List.append_nil] at l s
 have g:DataW.Trod enc Tryz.prog S 0 (fun b=>decide (b < W.heap.size)) true 26 (.agg m) d0 B :=
  Below.trod laidOut (by kernel_rfl) (of_decide_eq_true (by kernel_rfl)) ⟨c,u⟩ J (fun y U=>s y (by simp[U]))
 refine ⟨_,rfl,_,_,_,[],B ++ [],[],l,trodAll_mk1 (shut_bool (by kernel_rfl) true),trodAll_mk2 g (shut_int Tryz.underlying53 o),rfl,J.frame _,fun h=>by cases h⟩
noncomputable abbrev jP:Program:=Tryz.checked.prog
noncomputable abbrev jN:Nat:=14
noncomputable abbrev jF:Func:=Tryz.f14
noncomputable abbrev jS:ChangeSpec:=Rows.tableShiftsSpec
noncomputable abbrev jC:OpenClaim:=Rows.tableShiftsRow
theorem fE {a b:Bool} (h:a=true) (k:b=true):(a && b)=true:=by rw[h,k]; rfl
theorem W5:(jC.wf (OpenSpec.ofChange jS))=true:=by kernel_rfl
theorem WR:(laidOutB jP)=true:=by kernel_rfl
theorem WL:(mapsRowed jP)=true:=by kernel_rfl
theorem WT:(jF.params.all (jP.readableRec ·))=true:=by kernel_rfl
theorem WN:(namedTie jP jC.named jS.vars)=true:=by kernel_rfl
theorem W8:((jC.stops == []))=true:=by kernel_rfl
theorem WX:((jP.stops == []))=true:=by kernel_rfl
theorem WV:((jC.knobs == []))=true:=by kernel_rfl
theorem W6:((jP.stopKnobs == []))=true:=by kernel_rfl
theorem W7:((jC.inPlace == jP.inPlace jN))=true:=by kernel_rfl
theorem Wn:((jC.unfollowed == jP.unfollowed jN))=true:=by kernel_rfl
theorem Wl:((jC.recurses == jP.recurses jN))=true:=by kernel_rfl
theorem V4:((jC.named == jP.varsNamed jN))=true:=by kernel_rfl
theorem WJ:((jC.maps == (jF.params.toList ++ jS.plain.varTypes jP).any (jP.mapsRec ·)))=true:=by kernel_rfl
theorem Wk:((jC.ifaces == (jF.params.toList ++ jS.plain.varTypes jP).any (jP.ifacesRec ·)))=true:=by kernel_rfl
theorem WB:((jC.mapsOut == jP.mapsAmong jF.resultTypes.toList))=true:=by kernel_rfl
theorem Wo:((jC.loops == (jF.params.toList ++ jS.plain.varTypes jP).any (jP.loopsFrom ·)))=true:=by kernel_rfl
theorem Wu:((jC.wideKeys == (jF.params.toList ++ jS.plain.varTypes jP ++ jF.resultTypes.toList).any (jP.wideKeysFrom ·)))=true:=by kernel_rfl
theorem Wj:(jS.vars.all (jP.varReadable ·))=true:=by kernel_rfl
theorem Wp:(jF.resultTypes.all (fun t=>jP.readableRec t && decide (t < jP.types.size)))=true:=by kernel_rfl
theorem Wc:((jC.ifacesOut == jF.resultTypes.toList.any (jP.ifacesRec ·)))=true:=by kernel_rfl
theorem V3:((jC.loopsOut == jF.resultTypes.toList.any (jP.loopsFrom ·)))=true:=by kernel_rfl
theorem Wb:((jC.plainKeys == jP.plainKeys))=true:=by kernel_rfl
theorem V5:(jC.shortTexts.isNone)=true:=by kernel_rfl
theorem V2:(jP.stopsHeard)=true:=by kernel_rfl
theorem WA:(jP.mayEnter)=true:=by kernel_rfl
theorem Wf:((jC.lifted == jP.liftsFinal))=true:=by kernel_rfl
theorem Wx:((jP.make == some jC.make))=true:=by kernel_rfl
theorem V9:((jC.kinds == (if jC.domain.isEmpty then [] else jF.params.toList.map fun t=>match jP.underlying t with | some (.int k)=>some k | _=>none)))=true:=by kernel_rfl
theorem WH:((jC.pinned == jC.pinnedBy))=true:=by kernel_rfl
theorem Wm:((jC.veiled == (jF.params.toList ++ jS.plain.varTypes jP ++ jF.resultTypes.toList).any (jP.veiledRec ·)))=true:=by kernel_rfl
theorem WD:(jC.veiledFits jP jF.params.toList (jF.params.toList ++ jS.plain.varTypes jP ++ jF.resultTypes.toList))=true:=by kernel_rfl
theorem Wv:joinedFacts jP jN jF jS jC=true:=fE (fE (fE (fE (fE (fE (fE (fE (fE (fE (fE (fE (fE (fE (fE (fE (fE (fE (fE (fE (fE (fE (fE (fE (fE (fE (fE (fE (fE (fE (fE (W5) WR) WL) WT) WN) W8) WX) WV) W6) W7) Wn) Wl) V4) WJ) Wk) WB) Wo) Wu) Wj) Wp) Wc) V3) Wb) V5) V2) WA) Wf) Wx) V9) WH) Wm) WD
theorem tableShifts_holds:Rows.TableShiftsSaid :=
 OpenClaim.holds_of_wide 14 Tryz.f14 rfl rfl rfl rfl rfl rfl rfl ⟨rfl,rfl,rfl,rfl,rfl⟩ rfl rfl rfl rfl rfl (by kernel_rfl) Tryz.func14 Wv
  (of_decide_eq_true (by kernel_rfl)) (by unfold Func.isWrapper; rw[if_neg (by decide +kernel)]; exact ⟨rfl,rfl⟩)
  (fun os started H enc _=>yX os started H enc)
end Go.Proofs.YtihmlbdfcmfbdaaGreat
