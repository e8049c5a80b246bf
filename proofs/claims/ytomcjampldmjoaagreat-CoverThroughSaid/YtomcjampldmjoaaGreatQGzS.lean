/-
  For every grammar, int that are handed in, gerundlaw25.CoverThrough returns true, and each argument reads afterwards as it read before.
  Conditions: none beyond those of the row.
-/
import Derived.Test.YtomcjampldmjoaaGreatRows
import Derived.Test.YtomcjampldmjoaaGreatSGzSQ
set_option linter.unusedSimpArgs false
set_option linter.unusedVariables false
set_option linter.unusedSimpArgs false
set_option maxRecDepth 100000
namespace Go.Proofs.YtomcjampldmjoaaGreat
open Go Go.ChangeShapes Go.WideShapes Go.ChangeAt Go.RowKit Gv
theorem own:ownKnob Tryz.prog.godebug=none:=by kernel_rfl
theorem laidOut:laidOutB Tryz.prog=true:=by kernel_rfl
theorem KQ {w w':World} (h:dK w w') (k:eR w.heap w'.heap (fun _=>False)):Below w.heap.size w w' :=
  ⟨h.os,h.tape,h.output,h.size,fun b hb=>k b hb id⟩
set_option maxHeartbeats 2000000 in
theorem wu (os:Os) (started:os.Started) (H:Type) (enc:TypeId × Value→H) :
    ReturnsInHanded {} Tryz.checked os 7 .any (Rows.coverThroughSpec.pre6 enc Tryz.prog Tryz.f7 Rows.coverThroughRow.domain false) (Rows.coverThroughSpec.post enc Tryz.prog Tryz.f7 false true false false):=by
  refine returnsInHanded_of_change_sized (C:=Tryz.checked) own started (by kernel_rfl) Tryz.func7
    (ChangeSpec.witness6 (enc:=enc) (C:=Tryz.checked) false ⟨#[],#[.agg #[.slice none 0 0,.slice none 0 0,.slice none 0 0,.int .i64 0],.int .i64 0],[]⟩ 8 (by kernel_rfl) (by kernel_rfl) (by kernel_rfl) (by kernel_rfl)) ?_
  intro W base args ds gs before hval0 hW _ hwt _
  have hval:∀ (j:Nat) t v,Tryz.f7.params[j]?=some t→args[j]?=some v→Value.okWide Tryz.prog W .any base t v:=hval0
  have hW':=hW
  obtain ⟨p,q,hA0,hV,rfl,hfz,hnd⟩:=hW
  have hA:DataW.TrodAll enc Tryz.prog W 0 (fun _=>true) true Tryz.f7.params.toList args.toList ds p:=hA0
  have hlt:=hW'.lt
  rw[Tryz.params7] at hA hval
  obtain ⟨v0,v1,d0,d1,p0,p1,rfl,rfl,rfl,h0,h1⟩:=trodAll_two hA
  obtain ⟨rfl,rfl⟩:=trodVars_none hV
  obtain ⟨cs0,rfl,hcs0⟩:=okWide_struct Tryz.underlying26 (hval 0 26 v0 rfl rfl)
  obtain ⟨n1,rfl,rfl,rfl,wn1⟩:=open_int Tryz.underlying3 (hval 1 3 v1 rfl rfl) h1
  obtain ⟨fuel0,hf0⟩:=h0
  have hw0:Wt Tryz.prog 26 d0:=fun n hn=>by
    have:=List.all_eq_true.1 hwt n (DataW.weights_mem_each (j:=0) (t:=26) (d:=d0) rfl rfl n hn)
    simpa using this
  obtain ⟨g0,hg0,hrel0⟩:=Ob enc W 0 (fun _=>true) true fuel0 cs0.toList (d0,p0) hf0 hw0
  have hb1 : -9223372036854775808≤n1∧n1≤9223372036854775807:=by
    simp only[Lit.wf,Bool.and_eq_true,decide_eq_true_eq] at wn1
    exact wn1
  have hc:=Ah g0 hg0 n1 hb1 (fun b=>b < W.heap.size) (fun _=>none) W [.agg cs0,.int .i64 n1] ⟨rfl,fun i hi=>by
    match i,hi with
    | 0,_ =>
      refine .agg _ _ (by rw[hrel0.1]; simp) fun j hj=>?_
      have:=hrel0.2 (fun _=>none) j hj
      simpa [Array.getD_eq_getD_getElem?,List.getD_eq_getElem?_getD] using this
    | 1,_=>exact .val _ rfl⟩ (fun _ h=>h)
  refine hc.mono ?_
  rintro e W' ⟨x,Z',rfl,hx,hsame,_,_,hold⟩
  have hb:=KQ hsame hold
  have hxv:x=.bool true:=by
    have:=hx fun _=>none
    cases this
    rfl
  subst hxv
  simp only[List.append_nil] at hW' hlt
  have hread0:DataW.Trod enc Tryz.prog W' 0 (fun b=>decide (b < W.heap.size)) true 26 (.agg cs0) d0 p0 :=
    Below.trod laidOut (by kernel_rfl) (of_decide_eq_true (by kernel_rfl)) ⟨fuel0,hf0⟩ hb (fun y hy=>hlt y (by simp[hy]))
  refine ⟨_,rfl,_,_,_,[],p0 ++ [],[],hW',trodAll_mk1 (shut_bool (by kernel_rfl) true),trodAll_mk2 hread0 (shut_int Tryz.underlying3 wn1),rfl,hb.frame _,fun h=>by cases h⟩
theorem coverThrough_holds:Rows.CoverThroughSaid :=
  OpenClaim.holds_of_wide 7 Tryz.f7 rfl rfl rfl rfl rfl rfl rfl ⟨rfl,rfl,rfl,rfl,rfl⟩ rfl rfl rfl rfl rfl (by kernel_rfl) Tryz.func7 (by kernel_rfl)
    (of_decide_eq_true (by kernel_rfl)) (by unfold Func.isWrapper; rw[if_neg (by decide +kernel)]; exact ⟨rfl,rfl⟩)
    (fun os started H enc _=>wu os started H enc)
end Go.Proofs.YtomcjampldmjoaaGreat
