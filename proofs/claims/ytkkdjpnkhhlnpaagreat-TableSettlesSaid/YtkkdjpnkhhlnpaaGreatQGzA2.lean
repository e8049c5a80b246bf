/-
  For every grammar, int, int that are handed in, gerundlaw17.TableSettles returns true, and each argument reads afterwards as it read before.
  Conditions: none beyond those of the row.
-/
import Derived.Test.YtkkdjpnkhhlnpaaGreatRows
import Derived.Test.YtkkdjpnkhhlnpaaGreatSGzA2N
set_option linter.unusedSimpArgs false
set_option linter.unusedVariables false
set_option linter.unusedSimpArgs false
set_option maxRecDepth 100000
namespace Go.Proofs.YtkkdjpnkhhlnpaaGreat
open Go Go.ChangeShapes Go.WideShapes Go.ChangeAt Go.RowKit Gv
theorem own:ownKnob Tryz.prog.godebug=none:=by kernel_rfl
theorem laidOut:laidOutB Tryz.prog=true:=by kernel_rfl
theorem E9 {w w':World} (h:cw w w') (k:c9 w.heap w'.heap (fun _=>False)):Below w.heap.size w w' :=
  ⟨h.os,h.tape,h.output,h.size,fun b hb=>k b hb id⟩
set_option maxHeartbeats 2000000 in
theorem qO (os:Os) (started:os.Started) (H:Type) (enc:TypeId × Value→H) :
    ReturnsInHanded {} Tryz.checked os 12 .any (Rows.tableSettlesSpec.pre6 enc Tryz.prog Tryz.f12 Rows.tableSettlesRow.domain false) (Rows.tableSettlesSpec.post enc Tryz.prog Tryz.f12 false true false false):=by
  refine returnsInHanded_of_change_sized (C:=Tryz.checked) own started (by kernel_rfl) Tryz.func12
    (ChangeSpec.witness6 (enc:=enc) (C:=Tryz.checked) false ⟨#[],#[.agg #[.slice none 0 0,.slice none 0 0,.slice none 0 0,.int .i64 0],.int .i64 0,.int .i64 0],[]⟩ 8 (by kernel_rfl) (by kernel_rfl) (by kernel_rfl) (by kernel_rfl)) ?_
  intro W base args ds gs before hval0 hW _ hwt _
  have hval:∀ (j:Nat) t v,Tryz.f12.params[j]?=some t→args[j]?=some v→Value.okWide Tryz.prog W .any base t v:=hval0
  have hW':=hW
  obtain ⟨p,q,hA0,hV,rfl,hfz,hnd⟩:=hW
  have hA:DataW.TrodAll enc Tryz.prog W 0 (fun _=>true) true Tryz.f12.params.toList args.toList ds p:=hA0
  have hlt:=hW'.lt
  rw[Tryz.params12] at hA hval
  obtain ⟨v0,v1,v2,d0,d1,d2,p0,p1,p2,rfl,rfl,rfl,h0,h1,h2⟩:=trodAll_three hA
  obtain ⟨rfl,rfl⟩:=trodVars_none hV
  obtain ⟨cs0,rfl,hcs0⟩:=okWide_struct Tryz.underlying26 (hval 0 26 v0 rfl rfl)
  obtain ⟨n1,rfl,rfl,rfl,wn1⟩:=open_int Tryz.underlying3 (hval 1 3 v1 rfl rfl) h1
  obtain ⟨n2,rfl,rfl,rfl,wn2⟩:=open_int Tryz.underlying3 (hval 2 3 v2 rfl rfl) h2
  obtain ⟨fuel0,hf0⟩:=h0
  have hw0:Wt Tryz.prog 26 d0:=fun n hn=>by
    have:=List.all_eq_true.1 hwt n (DataW.weights_mem_each (j:=0) (t:=26) (d:=d0) rfl rfl n hn)
    simpa using this
  obtain ⟨g0,hg0,hrel0⟩:=Gr enc W 0 (fun _=>true) true fuel0 cs0.toList (d0,p0) hf0 hw0
  have hb1 : -9223372036854775808≤n1∧n1≤9223372036854775807:=by
    simp only[Lit.wf,Bool.and_eq_true,decide_eq_true_eq] at wn1
    exact wn1
  have hb2 : -9223372036854775808≤n2∧n2≤9223372036854775807:=by
    simp only[Lit.wf,Bool.and_eq_true,decide_eq_true_eq] at wn2
    exact wn2
  have hc:=uL g0 hg0 n1 hb1 n2 hb2 (fun b=>b < W.heap.size) (fun _=>none) W [.agg cs0,.int .i64 n1,.int .i64 n2] ⟨rfl,fun i hi=>by
    match i,hi with
    | 0,_ =>
      refine .agg _ _ (by rw[hrel0.1]; simp) fun j hj=>?_
      have:=hrel0.2 (fun _=>none) j hj
      simpa [Array.getD_eq_getD_getElem?,List.getD_eq_getElem?_getD] using this
    | 1,_=>exact .val _ rfl
    | 2,_=>exact .val _ rfl⟩ (fun _ h=>h)
  refine hc.mono ?_
  rintro e W' ⟨x,Z',rfl,hx,hsame,_,_,hold⟩
  have hb:=E9 hsame hold
  have hxv:x=.bool true:=by
    have:=hx fun _=>none
    cases this
    rfl
  subst hxv
  simp only[List.append_nil] at hW' hlt
  have hread0:DataW.Trod enc Tryz.prog W' 0 (fun b=>decide (b < W.heap.size)) true 26 (.agg cs0) d0 p0 :=
    Below.trod laidOut (by kernel_rfl) (of_decide_eq_true (by kernel_rfl)) ⟨fuel0,hf0⟩ hb (fun y hy=>hlt y (by simp[hy]))
  refine ⟨_,rfl,_,_,_,[],p0 ++ ([] ++ []),[],hW',trodAll_mk1 (shut_bool (by kernel_rfl) true),trodAll_mk3 hread0 (shut_int Tryz.underlying3 wn1) (shut_int Tryz.underlying3 wn2),rfl,hb.frame _,fun h=>by cases h⟩
noncomputable abbrev jP:Program:=Tryz.checked.prog
noncomputable abbrev jN:Nat:=12
noncomputable abbrev jF:Func:=Tryz.f12
noncomputable abbrev jS:ChangeSpec:=Rows.tableSettlesSpec
noncomputable abbrev jC:OpenClaim:=Rows.tableSettlesRow
theorem cJ {a b:Bool} (h:a=true) (k:b=true):(a && b)=true:=by rw[h,k]; rfl
theorem Is:(jC.wf (OpenSpec.ofChange jS))=true:=by kernel_rfl
theorem Iz:(laidOutB jP)=true:=by kernel_rfl
theorem Iq:(mapsRowed jP)=true:=by kernel_rfl
theorem It:(jF.params.all (jP.readableRec ·))=true:=by kernel_rfl
theorem Ir:(namedTie jP jC.named jS.vars)=true:=by kernel_rfl
theorem IA:((jC.stops == []))=true:=by kernel_rfl
theorem Iu:((jP.stops == []))=true:=by kernel_rfl
theorem IC:((jC.knobs == []))=true:=by kernel_rfl
theorem Iy:((jP.stopKnobs == []))=true:=by kernel_rfl
theorem IB:((jC.inPlace == jP.inPlace jN))=true:=by kernel_rfl
theorem HK:((jC.unfollowed == jP.unfollowed jN))=true:=by kernel_rfl
theorem H9:((jC.recurses == jP.recurses jN))=true:=by kernel_rfl
theorem HZ:((jC.named == jP.varsNamed jN))=true:=by kernel_rfl
theorem Ij:((jC.maps == (jF.params.toList ++ jS.plain.varTypes jP).any (jP.mapsRec ·)))=true:=by kernel_rfl
theorem HY:((jC.ifaces == (jF.params.toList ++ jS.plain.varTypes jP).any (jP.ifacesRec ·)))=true:=by kernel_rfl
theorem Ik:((jC.mapsOut == jP.mapsAmong jF.resultTypes.toList))=true:=by kernel_rfl
theorem Ip:((jC.loops == (jF.params.toList ++ jS.plain.varTypes jP).any (jP.loopsFrom ·)))=true:=by kernel_rfl
theorem HP:((jC.wideKeys == (jF.params.toList ++ jS.plain.varTypes jP ++ jF.resultTypes.toList).any (jP.wideKeysFrom ·)))=true:=by kernel_rfl
theorem Io:(jS.vars.all (jP.varReadable ·))=true:=by kernel_rfl
theorem Ie:(jF.resultTypes.all (fun t=>jP.readableRec t && decide (t < jP.types.size)))=true:=by kernel_rfl
theorem HW:((jC.ifacesOut == jF.resultTypes.toList.any (jP.ifacesRec ·)))=true:=by kernel_rfl
theorem Ib:((jC.loopsOut == jF.resultTypes.toList.any (jP.loopsFrom ·)))=true:=by kernel_rfl
theorem HT:((jC.plainKeys == jP.plainKeys))=true:=by kernel_rfl
theorem HQ:(jC.shortTexts.isNone)=true:=by kernel_rfl
theorem H8:(jP.stopsHeard)=true:=by kernel_rfl
theorem Il:(jP.mayEnter)=true:=by kernel_rfl
theorem HM:((jC.lifted == jP.liftsFinal))=true:=by kernel_rfl
theorem HR:((jP.make == some jC.make))=true:=by kernel_rfl
theorem HI:((jC.kinds == (if jC.domain.isEmpty then [] else jF.params.toList.map fun t=>match jP.underlying t with | some (.int k)=>some k | _=>none)))=true:=by kernel_rfl
theorem H0:((jC.pinned == jC.pinnedBy))=true:=by kernel_rfl
theorem HN:((jC.veiled == (jF.params.toList ++ jS.plain.varTypes jP ++ jF.resultTypes.toList).any (jP.veiledRec ·)))=true:=by kernel_rfl
theorem Ig:(jC.veiledFits jP jF.params.toList (jF.params.toList ++ jS.plain.varTypes jP ++ jF.resultTypes.toList))=true:=by kernel_rfl
theorem H6:joinedFacts jP jN jF jS jC=true:=cJ (cJ (cJ (cJ (cJ (cJ (cJ (cJ (cJ (cJ (cJ (cJ (cJ (cJ (cJ (cJ (cJ (cJ (cJ (cJ (cJ (cJ (cJ (cJ (cJ (cJ (cJ (cJ (cJ (cJ (cJ (Is) Iz) Iq) It) Ir) IA) Iu) IC) Iy) IB) HK) H9) HZ) Ij) HY) Ik) Ip) HP) Io) Ie) HW) Ib) HT) HQ) H8) Il) HM) HR) HI) H0) HN) Ig
theorem tableSettles_holds:Rows.TableSettlesSaid :=
  OpenClaim.holds_of_wide 12 Tryz.f12 rfl rfl rfl rfl rfl rfl rfl ⟨rfl,rfl,rfl,rfl,rfl⟩ rfl rfl rfl rfl rfl (by kernel_rfl) Tryz.func12 H6
    (of_decide_eq_true (by kernel_rfl)) (by unfold Func.isWrapper; rw[if_neg (by decide +kernel)]; exact ⟨rfl,rfl⟩)
    (fun os started H enc _=>qO os started H enc)
end Go.Proofs.YtkkdjpnkhhlnpaaGreat
