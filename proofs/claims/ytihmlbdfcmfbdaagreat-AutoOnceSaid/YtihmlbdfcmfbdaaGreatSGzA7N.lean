/-
  Part 14 of the proof: what the machine does and what the functions answer.
  Conditions: those that each lemma names.
-/
import Derived.Shelf.SlSortCmp.NoneTotal
import Derived.Shelf.SlicesG.Cmp
import Derived.StillTailTactics
import Derived.Test.YtihmlbdfcmfbdaaGreatSGzA7M
set_option linter.unusedSimpArgs false
set_option linter.unusedVariables false
set_option maxRecDepth 100000
namespace Gv
open Go Go.Proofs
open Go Go.Proofs Go.Shelf Go.RowKit Go.Sort
theorem bA.cut {P:Program} {f:FuncId} {vs:List V} {h h':aB} {r:V} (hc:bA P f vs h r h') {id sz:Nat} {es rest:List (List V)} (hid:h'.view id=.arr sz (es ++ rest)):bA P f vs h r (h'.set id (.arr sz es)):=by
  have hlt:id < h'.length:=ga (by rw[hid]; simp)
  refine ⟨by simpa using hc.1,fun Z μ F w xs hr hh hf=>(hc.2 Z μ F w xs hr hh (by simpa using hf)).mono ?_⟩
  rintro e w' ⟨x,Z',μ',rfl,hv,hh',hex,hmu⟩
  refine ⟨x,Z',μ',rfl,hv,?_,hex,by simpa using hmu⟩
  have e1:∀ k,cat (h'.set id (.arr sz es)) F k=if k=id then .arr sz es else cat h' F k:=fun k=>by
    simp only[cat,List.length_set]
    by_cases hk:k < h'.length
    · rw[if_pos hk,if_pos hk,iv hlt]; rfl
    · rw[if_neg hk,if_neg hk,if_neg (by omega)]
  have e2:cat h' F id=.arr sz (es ++ rest):=by simp only[cat]; rw[if_pos hlt,hid]
  refine ⟨fun k=>?_,fun i j b o s o' s' hne h1 h2=>?_,hh'.lt,hh'.ca,hh'.fE⟩
  · rw[e1]
    split
    · rename_i hk
      subst hk
      have h3:=hh'.obj k
      rw[e2] at h3
      intro b o0 s hm
      obtain ⟨k1,⟨c,e,f,hc,hf,hs⟩,k3,k4⟩:=h3 b o0 s hm
      have hg:∀ i,i < es.length→(es ++ rest).getD i []=es.getD i []:=fun i hi=>by
        simp[List.getD_eq_getElem?_getD,List.getElem?_append_left hi]
      refine ⟨k1,⟨c,e,f,hc,hf,?_⟩,fun i hi=>?_,fun i j hi hj=>?_⟩
      · rw[List.length_append,Nat.add_mul] at hs; omega
      · rw[← hg i hi]; exact k3 i (by rw[List.length_append]; omega)
      · rw[← hg i hi]; exact k4 i j (by rw[List.length_append]; omega) hj
    · exact hh'.obj k
  · have h3:=hh'.inj i j b o s o' s' hne h1 h2
    rw[e1,e1]
    rcases h3 with h3 | h3
    · left
      rw[if_neg (fun e=>by rw[e,e2] at h3; simp at h3)]; exact h3
    · right
      rw[if_neg (fun e=>by rw[e,e2] at h3; simp at h3)]; exact h3
theorem aA.cut {P:Program} {f:FuncId} {vs:List V} {H:View} {K K':V→View→Prop} (h:aA P f vs H K) (hk:∀ r H',K r H'→K' r H'∨∃ id sz es rest,H' id=.arr sz (es ++ rest)∧K' r (H'.set id (.arr sz es))):aA P f vs H K':=by
  refine ⟨h.1,fun h0 hv=>?_⟩
  obtain ⟨r,h',ha,hs,hK⟩:=h.2 h0 hv
  rcases hk r _ hK with h1 | ⟨id,sz,es,rest,hid,h1⟩
  · exact ⟨r,h',ha,hs,h1⟩
  · have hlt:id < h'.length:=ga (by rw[hid]; simp)
    refine ⟨r,h'.set id (.arr sz es),ha.cut hid,fun k hk0 hd=>?_,by rw[iv hlt]; exact h1⟩
    have h2:=hs k hk0 hd
    rw[iv hlt]
    simp only[View.set]
    rw[if_neg (fun e=>by rw[e,hid] at h2; simp at h2)]
    exact h2
instance:Inhabited aR:=⟨⟨0,0⟩⟩
def gq (x:aR):List Value:=[.int .i64 x.aG,.int .i64 x.dot]
def l0 (a b:aR):Int:=if Lib.compareInt a.aG b.aG≠0 then Lib.compareInt a.aG b.aG else Lib.compareInt a.dot b.dot
theorem K7 (a b:aR):(Lib.compareInt a.aG b.aG≠0→l0 a b=Lib.compareInt a.aG b.aG)∧(Lib.compareInt a.aG b.aG=0→l0 a b=Lib.compareInt a.dot b.dot):=by
  unfold l0
  exact ⟨fun h=>by rw[if_pos h],fun h=>by rw[if_neg (by simp[h])]⟩
theorem pP (a b:aR):ltOf l0 a b=cG a b:=by
  have hc:∀ x y:Int,(x < y∧Lib.compareInt x y = -1)∨(x=y∧Lib.compareInt x y=0)∨(y < x∧Lib.compareInt x y=1):=fun x y=>by
    unfold Lib.compareInt; (repeat' split) <;> omega
  rw[Bool.eq_iff_iff,fj]
  simp only[ltOf,decide_eq_true_eq,l0]
  rcases hc a.aG b.aG with ⟨h,e⟩ | ⟨h,e⟩ | ⟨h,e⟩ <;> rcases hc a.dot b.dot with ⟨k,e2⟩ | ⟨k,e2⟩ | ⟨k,e2⟩ <;> simp[e,e2] <;> omega
theorem HY:SWO (ltOf l0) where
  irrefl x:=by rw[pP]; exact ly
  trans x y z h k:=by rw[pP] at *; exact lZ h k
  ntrans x y z h k:=by
    rw[pP] at *
    cases e:cG x z with
    | false=>rfl
    | true =>
      have h1:¬ cG x y=true:=by simp[h]
      have h2:¬ cG y z=true:=by simp[k]
      rw[fj] at h1 h2 e
      omega
def dw (l:List aR):List aR:=l.mergeSort fun x y=>!cG y x
theorem IM (l:List aR):(l.toArray.toList.mergeSort fun x y=>!(ltOf l0) y x)=dw l:=by
  have e:(fun x y=>!(ltOf l0) y x)=fun x y=>!cG y x:=by funext x y; rw[pP]
  rw[e]; rfl
theorem xJ (l:List aR):(dw l).Perm l:=List.mergeSort_perm _ _
theorem gD (l:List aR):(dw l).length=l.length:=(xJ l).length_eq
theorem xV (l:List aR):(dw l).Pairwise fun x y=>cG y x=false:=by
  have:=List.pairwise_mergeSort (le:=fun x y:aR=>!cG y x) (fun a b c h k=>by
      simp only[Bool.not_eq_true',Bool.not_eq_false'] at h k ⊢
      cases e:cG c a with
      | false=>simp
      | true =>
        have h1:¬ cG b a=true:=by simpa using h
        have h2:¬ cG c b=true:=by simpa using k
        rw[fj] at h1 h2 e
        omega) (fun a b=>by
      cases e:cG b a with
      | false=>simp
      | true=>simp[Fg e]) l
  exact this.imp fun h=>by simpa using h
def Kb:Ren where
  f:=fun
    | 6=>112
    | 15=>167
    | 14=>166
    | 28=>207
    | 29=>208
    | 20=>199
    | 21=>200
    | 22=>201
    | 23=>202
    | 24=>203
    | 25=>204
    | 26=>205
    | 27=>206
    | 46=>227
    | 47=>228
    | 48=>229
    | 49=>230
    | 50=>231
    | 57=>244
    | n=>n
  t:=fun
    | 22=>27
    | 24=>33
    | 25=>164
    | 3=>3
    | 39=>212
    | 0=>0
    | 53=>67
    | 55=>249
    | 4=>4
    | 46=>242
    | 45=>241
    | 50=>30
    | 5=>5
    | 9=>9
    | 66=>269
    | 70=>273
    | 76=>282
    | 77=>283
    | n=>n
  g:=fun n=>n
theorem Mt:Go.Proofs.SlLaysF0.n6 Tryz.prog Kb where
  mixed:=by kernel_rfl
  f6:=⟨Tryz.f112.name,by kernel_rfl,by kernel_rfl⟩
  f14:=⟨Tryz.f166.name,by kernel_rfl,by kernel_rfl⟩
  f15:=by kernel_rfl
  f20:=⟨Tryz.f199.name,by kernel_rfl,by kernel_rfl⟩
  f21:=⟨Tryz.f200.name,by kernel_rfl,by kernel_rfl⟩
  f22:=⟨Tryz.f201.name,by kernel_rfl,by kernel_rfl⟩
  f23:=⟨Tryz.f202.name,by kernel_rfl,by kernel_rfl⟩
  f24:=⟨Tryz.f203.name,by kernel_rfl,by kernel_rfl⟩
  f25:=⟨Tryz.f204.name,by kernel_rfl,by kernel_rfl⟩
  f26:=⟨Tryz.f205.name,by kernel_rfl,by kernel_rfl⟩
  f27:=⟨Tryz.f206.name,by kernel_rfl,by kernel_rfl⟩
  f28:=by kernel_rfl
  f29:=by kernel_rfl
  f46:=⟨Tryz.f227.name,by kernel_rfl,by kernel_rfl⟩
  f47:=by kernel_rfl
  f48:=by kernel_rfl
  f49:=⟨Tryz.f230.name,by kernel_rfl,by kernel_rfl⟩
  f50:=⟨Tryz.f231.name,by kernel_rfl,by kernel_rfl⟩
  f57:=⟨Tryz.f244.name,by kernel_rfl,by kernel_rfl⟩
  t0:=Tryz.underlying0
  a0:=Tryz.isAgg0
  z0:=Tryz.sizeOf0
  v0:=Tryz.zeroValue0
  t3:=Tryz.underlying3
  a3:=Tryz.isAgg3
  z3:=Tryz.sizeOf3
  v3:=Tryz.zeroValue3
  t4:=Tryz.underlying4
  a4:=Tryz.isAgg4
  z4:=Tryz.sizeOf4
  v4:=Tryz.zeroValue4
  t5:=Tryz.underlying5
  a5:=Tryz.isAgg5
  z5:=Tryz.sizeOf5
  v5:=Tryz.zeroValue5
  t9:=Tryz.underlying9
  a9:=Tryz.isAgg9
  z9:=Tryz.sizeOf9
  v9:=Tryz.zeroValue9
  t22:=Tryz.underlying27
  a22:=Tryz.isAgg27
  z22:=Tryz.sizeOf27
  v22:=Tryz.zeroValue27
  t25:=Tryz.underlying164
  a25:=Tryz.isAgg164
  z25:=Tryz.sizeOf164
  v25:=Tryz.zeroValue164
  t39:=Tryz.underlying212
  a39:=Tryz.isAgg212
  z39:=Tryz.sizeOf212
  v39:=Tryz.zeroValue212
  t45:=Tryz.underlying241
  a45:=Tryz.isAgg241
  z45:=Tryz.sizeOf241
  v45:=Tryz.zeroValue241
  t46:=Tryz.underlying242
  a46:=Tryz.isAgg242
  z46:=Tryz.sizeOf242
  v46:=Tryz.zeroValue242
  t50:=Tryz.underlying30
  a50:=Tryz.isAgg30
  z50:=Tryz.sizeOf30
  v50:=Tryz.zeroValue30
  t53:=Tryz.underlying67
  a53:=Tryz.isAgg67
  z53:=Tryz.sizeOf67
  v53:=Tryz.zeroValue67
  t55:=Tryz.underlying249
  a55:=Tryz.isAgg249
  z55:=Tryz.sizeOf249
  v55:=Tryz.zeroValue249
  t66:=Tryz.underlying269
  a66:=Tryz.isAgg269
  z66:=Tryz.sizeOf269
  v66:=Tryz.zeroValue269
  t70:=Tryz.underlying273
  a70:=Tryz.isAgg273
  z70:=Tryz.sizeOf273
  v70:=Tryz.zeroValue273
  t76:=Tryz.underlying282
  a76:=Tryz.isAgg282
  z76:=Tryz.sizeOf282
  v76:=Tryz.zeroValue282
  t77:=Tryz.underlying283
  a77:=Tryz.isAgg283
  z77:=Tryz.sizeOf283
  v77:=Tryz.zeroValue283
def KS:Ren where
  f:=fun
    | 5=>126
    | 7=>173
    | n=>n
  t:=fun
    | 22=>3
    | 3=>3
    | 4=>4
    | n=>n
  g:=fun n=>n
theorem NV:Go.Proofs.SlLaysC2.n5 Tryz.prog KS where
  mixed:=by kernel_rfl
  f5:=⟨Tryz.f126.name,by kernel_rfl,by kernel_rfl⟩
  f7:=⟨Tryz.f173.name,by kernel_rfl,by kernel_rfl⟩
  t3:=Tryz.underlying3
  a3:=Tryz.isAgg3
  z3:=Tryz.sizeOf3
  v3:=Tryz.zeroValue3
  t4:=Tryz.underlying4
  a4:=Tryz.isAgg4
  z4:=Tryz.sizeOf4
  v4:=Tryz.zeroValue4
  t22:=Tryz.underlying3
  a22:=Tryz.isAgg3
  z22:=Tryz.sizeOf3
  v22:=Tryz.zeroValue3
section
attribute [local go_sem] Oper.semAt_some
set_option maxHeartbeats 4000000 in
theorem Fw (x y:Int) (b cap:Nat) (W:World) (h0:W.cell? ⟨b,0,none⟩=some (.int .i64 x)) (h1:W.cell? ⟨b,1,none⟩=some (.int .i64 y)) (r:Int) (hr:(x≠0→r=x)∧(x=0→r=y)) :
    Calls Tryz.prog 168 #[.slice (some ⟨b,0,none⟩) 2 cap] W fun e w'=>e=.returned (.int .i64 r)∧w'=W:=by
  go_enter Tryz.func168,Tryz.ntmps168
  go_wp2
  refine wp_loop_rounds 3 ?_
  rw[rounds_succ]
  go_wp2
  · rename_i h
    go_ret
    exact ⟨by rw[hr.1 (by simpa using h)]; rfl,rfl⟩
  · rename_i h
    have hx:x=0:=by simpa using h
    rw[rounds_succ]
    go_wp2
    · rename_i h
      go_ret
      exact ⟨by rw[hr.2 hx]; rfl,rfl⟩
    · rename_i h
      rw[rounds_succ]
      go_wp2
      go_ret
      exact ⟨by rw[hr.2 hx,show y=0 by simpa using h]; rfl,rfl⟩
structure Ot (p:Prop):Prop where
  out:p
set_option maxHeartbeats 4000000 in
theorem Fo (x1 x2 y1 y2:Int) (W:World) (r:Int) (hr:(Lib.compareInt x1 y1≠0→r=Lib.compareInt x1 y1)∧(Lib.compareInt x1 y1=0→r=Lib.compareInt x2 y2)) :
    Calls Tryz.prog 113 #[.agg #[.int .i64 x1,.int .i64 x2],.agg #[.int .i64 y1,.int .i64 y2]] W fun e w'=>e=.returned (.int .i64 r)∧∃ q os',w'=grow (W.drewN q) os':=by
  have hcon1:=fun W'=>AnyG.cmp_Compare_int NV x1 y1 W'
  change ∀ W',Calls Tryz.prog 126 _ _ _ at hcon1
  have hcon2:=fun W'=>AnyG.cmp_Compare_int NV x2 y2 W'
  change ∀ W',Calls Tryz.prog 126 _ _ _ at hcon2
  generalize Lib.compareInt x1 y1=c1 at *
  generalize Lib.compareInt x2 y2=c2 at *
  go_enter Tryz.func113,Tryz.ntmps113
  go_wp2_with (first | (go_at_call 126; refine (hcon1 _).mono ?_; rintro e w' ⟨rfl,rfl⟩) | (go_at_call 126; refine (hcon2 _).mono ?_; rintro e w' ⟨rfl,rfl⟩))
  obtain ⟨b1,hb1⟩:∃ b1,b1=W.heap.size:=⟨_,rfl⟩
  obtain ⟨b2,hb2⟩:∃ b2,b2=W.heap.size+1:=⟨_,rfl⟩
  rw[← hb2,← hb1]
  generalize hW1:(W.alloc (Obj.cells #[Value.int IntKind.i64 x1,Value.int IntKind.i64 x2] 33)).alloc (Obj.cells #[Value.int IntKind.i64 y1,Value.int IntKind.i64 y2] 33)=W1
  have hh1:W1.heap[b1]?=some (.cells #[Value.int IntKind.i64 x1,Value.int IntKind.i64 x2] 33 (0,0)):=by
    rw[← hW1,hb1]; exact (Below.heap_alloc _ _ _ (by simp)).trans (World.alloc_heap_new W _)
  have hh2:W1.heap[b2]?=some (.cells #[Value.int IntKind.i64 y1,Value.int IntKind.i64 y2] 33 (0,0)):=by
    rw[← hW1,hb2]
    have:=World.alloc_heap_new (W.alloc (Obj.cells #[Value.int IntKind.i64 x1,Value.int IntKind.i64 x2] 33)) (Obj.cells #[Value.int IntKind.i64 y1,Value.int IntKind.i64 y2] 33)
    rwa [World.size_alloc] at this
  have k0:W1.cell? ⟨b1,0,none⟩=some (.int .i64 x1):=by unfold World.cell?; rw[hh1]; rfl
  have k1:W1.cell? ⟨b1,1,none⟩=some (.int .i64 x2):=by unfold World.cell?; rw[hh1]; rfl
  have k2:W1.cell? ⟨b2,0,none⟩=some (.int .i64 y1):=by unfold World.cell?; rw[hh2]; rfl
  have k3:W1.cell? ⟨b2,1,none⟩=some (.int .i64 y2):=by unfold World.cell?; rw[hh2]; rfl
  clear hh1 hh2
  refine wp_region_still_tail 10 (by kernel_rfl) (by kernel_rfl) ?_
  change wpStill _ _ W1.drew (fun a'=>wpList _ _ _ _ a' W1.drew) _ _
  generalize hW2:W1.drew=W2
  replace k0:W2.cell? ⟨b1,0,none⟩=some (.int .i64 x1):=by rw[← hW2]; exact k0
  replace k1:W2.cell? ⟨b1,1,none⟩=some (.int .i64 x2):=by rw[← hW2]; exact k1
  replace k2:W2.cell? ⟨b2,0,none⟩=some (.int .i64 y1):=by rw[← hW2]; exact k2
  replace k3:W2.cell? ⟨b2,1,none⟩=some (.int .i64 y2):=by rw[← hW2]; exact k3
  have hgr:Ot (W2=grow (W.drewN 1) #[Obj.cells #[Value.int IntKind.i64 x1,Value.int IntKind.i64 x2] 33,Obj.cells #[Value.int IntKind.i64 y1,Value.int IntKind.i64 y2] 33]):=by
    refine ⟨?_⟩
    rw[← hW2,← hW1,alloc_eq_grow,alloc_eq_grow,grow_grow]; rfl
  clear hW1 hW2 hb1 hb2
  simp only[List.take_succ_cons,List.take_zero,List.drop_succ_cons,List.drop_zero]
  iterate 4 still_step
  still_call (hcon1 _)
  iterate 4 still_step
  still_call (hcon2 _)
  refine wpStill_nil ?_
  go_wp2_with (go_at_call 168; refine (Fw c1 c2 _ _ _ ?_ ?_ r hr).mono ?_)
  · unfold World.cell?; rw[World.alloc_heap_new]; rfl
  · unfold World.cell?; rw[World.alloc_heap_new]; rfl
  · rintro e w' ⟨rfl,rfl⟩
    go_wp2
    go_ret
    refine ⟨rfl,1,#[Obj.cells #[Value.int IntKind.i64 x1,Value.int IntKind.i64 x2] 33,Obj.cells #[Value.int IntKind.i64 y1,Value.int IntKind.i64 y2] 33,Obj.cells #[Value.int IntKind.i64 c1,Value.int IntKind.i64 c2] 3],?_⟩
    rw[hgr.out,alloc_eq_grow,grow_grow]; rfl
end
theorem DL {Z:Nat→Prop} {μ:Mu} {hp:Array Obj} {id off len esz:Nat} {x:Value} (h:az Z μ hp (.sl id off len esz) x) :
    (len=0∧∃ a,x=.slice a 0 0)∨∃ b o0 cap,∃ c:Array Value,∃ e f,x=.slice (some ⟨b,o0+off * esz,none⟩) len cap∧μ id=some (b,o0,esz)∧len≤cap∧hp[b]?=some (.cells c e f)∧o0+(off+cap) * esz≤c.size:=by
  cases h with
  | mR _ _ _ a=>exact .inl ⟨rfl,a,rfl⟩
  | sl _ _ _ _ b o0 cap c e f h1 h2 h3 h4=>exact .inr ⟨b,o0,cap,c,e,f,rfl,h1,h2,h3,h4⟩
theorem NX {Z:Nat→Prop} {μ:Mu} {hp:Array Obj} {f:FuncId} {x:Value} (h:az Z μ hp (.fn f [] []) x):x=.func (.func f) #[] #[]:=by
  cases h with
  | fn _ _ _ aas bs h1 h2 _ _ =>
    rw[Array.eq_empty_of_size_eq_zero h1.symm,Array.eq_empty_of_size_eq_zero h2.symm]
theorem AE (w:World) (b o0 m:Nat) (d:Array aR) (os:Array Obj) {j:Nat} (hj:j < w.heap.size):(sortWorldK gq 2 w b o0 m d os).heap[j]?=if b=j then (w.heap[j]?).map (onCells (putCells id o0 (flatK gq 2 d))) else w.heap[j]?:=by
  unfold sortWorldK grow putRowK putRow mapBlock
  simp only[Sort.ahead]
  rw[Array.getElem?_append_left (by simpa using hj),Array.getElem?_modify]
set_option maxHeartbeats 4000000 in
theorem Lt (l:List aR) (hl:l.length < 1152921504606846976) (u:V) (H:View) (ho:aW H u 2 (bE l)):aA Tryz.prog 112 [u,.fn 113 [] []] H fun r H'=>r=.bk []∧(∀ id,owner u≠some id→H' id=H id)∧aW H' u 2 (bE (dw l)):=by
  refine ⟨by kernel_rfl,?_⟩
  rintro h rfl
  have eg:∀ args w,(callFunc 113 args).run Tryz.prog w=.ok (.enter 113 args) w:=enters_of Tryz.func113 (by kernel_rfl) rfl
  by_cases hnil:l=[]
  · subst hnil
    refine ⟨.bk [],h,⟨Nat.le_refl _,fun Z μ F w xs hrel hr hfree=>?_⟩,.refl _,rfl,fun _ _=>rfl,by simpa [dw] using ho⟩
    obtain ⟨hlen,hv⟩:=hrel
    obtain ⟨x,y,rfl⟩:∃ x y,xs=[x,y]:=by
      match xs,hlen with
      | [x,y],_=>exact ⟨x,y,rfl⟩
    have h0:az Z μ w.heap u x:=hv 0 (by simp)
    obtain ⟨p,cap,rfl⟩:∃ p cap,x=.slice p 0 cap:=by
      rcases ho with ⟨_,k,rfl⟩ | ⟨n,rfl,_⟩
      · cases h0 with | emp _ a _ _=>exact ⟨a,0,rfl⟩
      · rcases DL h0 with ⟨_,a,e⟩ | ⟨b,o0,cap,c,e,f,e2,_⟩
        · exact ⟨a,0,e⟩
        · exact ⟨_,cap,e2⟩
    refine (AnyF.slices_SortFunc_none Mt p cap y w).mono ?_
    rintro e w' ⟨rfl,rfl⟩
    exact ⟨.tuple #[],Z,μ,rfl,.bk [] #[] rfl (fun i hi=>by simp at hi),hr,Ext.refl _ _ _ _,fun _ _=>rfl⟩
  have hpos:0 < l.length:=List.length_pos_iff.2 hnil
  obtain ⟨n,rfl,hn⟩:=ho.sl (by rw[bC]; exact hpos)
  rw[bC]
  have hlt:n < h.length:=ga (by rw[hn]; simp)
  refine ⟨.bk [],h.set n (.arr 2 (bE (dw l))),⟨by simp,fun Z μ F w xs hrel hr hfree=>?_⟩,fun k hk hd=>?_,rfl,fun id hid=>?_,?_⟩
  rotate_left
  · rw[iv hlt]
    simp only[View.set]
    rw[if_neg (fun e=>by rw[e,hn] at hd; simp at hd)]; exact hd
  · rw[iv hlt]
    simp only[View.set]
    rw[if_neg (fun e=>hid (by rw[e]; rfl))]
  · refine .inr ⟨n,by rw[bC,gD],?_⟩
    rw[iv hlt]; simp[View.set]
  obtain ⟨hlen,hv⟩:=hrel
  obtain ⟨x,y,rfl⟩:∃ x y,xs=[x,y]:=by
    match xs,hlen with
    | [x,y],_=>exact ⟨x,y,rfl⟩
  have h0:az Z μ w.heap (.sl n 0 l.length 2) x:=hv 0 (by simp)
  have h1:az Z μ w.heap (.fn 113 [] []) y:=hv 1 (by simp)
  have hy:=NX h1
  subst hy
  rcases DL h0 with ⟨e,_⟩ | ⟨b,o0,cap,c0,e0,f0,rfl,hμ,hcap,_,_⟩
  · omega
  rw[Nat.zero_mul,Nat.add_zero]
  have hcat:cat h F n=.arr 2 (bE l):=by simp only[cat]; rw[if_pos hlt,hn]
  have hob:=hr.obj n
  rw[hcat] at hob
  obtain ⟨_,⟨c,ty,fz,hc,hfz,hsz⟩,hq,hcell⟩:=hob b o0 2 hμ
  rw[bC] at hsz hq hcell
  have hbl:b < w.heap.size:=hr.lt _ _ _ _ hμ
  have hgl:∀ (m:List aR) (i:Nat) (hi:i < m.length),(bE m).getD i []=fN m[i]:=fun m i hi=>by simp[bE,List.getD_eq_getElem?_getD,hi]
  have hH:HoldsK gq 2 w b o0 l.toArray:=by
    intro j hj
    rw[size_flatK] at hj
    have hj':j < l.length * 2:=by simpa using hj
    have hi:j / 2 < l.length:=by omega
    obtain ⟨x,hx,hxv⟩:=hcell (j / 2) (j % 2) hi (by omega)
    rw[show o0+j / 2 * 2+j % 2=o0+j by omega] at hx
    have hxe:x=(flatK gq 2 l.toArray)[j]!:=by
      rw[get_flatK _ _ _ _ hj]
      rw[hgl l _ hi] at hxv
      have e1:l.toArray[j / 2]! = l[j / 2]:=by simp[hi]
      rw[e1]
      rcases Nat.lt_or_ge (j % 2) 1 with h2 | h2
      · rw[show j % 2=0 by omega] at hxv ⊢
        simp only[fN,List.getD_cons_zero] at hxv
        cases hxv; rfl
      · rw[show j % 2=1 by omega] at hxv ⊢
        simp only[fN,List.getD_cons_succ,List.getD_cons_zero] at hxv
        cases hxv; rfl
    refine ⟨by rw[lj,hx,hxe]; rfl,?_⟩
    simp only[World.frozen?,hc]
    rcases hfz with e | e
    · simp only[e,Bool.and_eq_false_iff,decide_eq_false_iff_not]; omega
    · simp only[Bool.and_eq_false_iff,decide_eq_false_iff_not]; omega
  have hT:∀ x y,(ltOf l0) x y=false→(ltOf l0) y x=false→x=y:=fun x y h1 h2=>by
    rw[pP] at h1 h2
    exact Decidable.byContradiction fun hne=>by rw[tG h1 hne] at h2; simp at h2
  have hrun:=AnyQ.slices_SortFunc_total Mt 2 Tryz.isAgg33 Tryz.sizeOf33 gq (fun _=>rfl) (fun x v hv=>by simp[gq] at hv; rcases hv with rfl | rfl <;> rfl) l0 HY 113 #[] b o0 cap l.toArray w eg (fun _ _ _ _ x y=>Fo x.aG x.dot y.aG y.dot _ _ (K7 x y)) hH hbl (by simp; omega) hT
  rw[IM] at hrun
  refine Calls.mono (show Calls Tryz.prog 112 _ w _ from hrun) ?_
  rintro e w' ⟨rfl,m,os,rfl⟩
  have hsl:=gD l
  have hheap:=fun {j:Nat} (hj:j < w.heap.size)=>AE w b o0 m (dw l).toArray os hj
  have hafter:HoldsK gq 2 (sortWorldK gq 2 w b o0 m (dw l).toArray os) b o0 (dw l).toArray:=SWK.holds ⟨m,os,rfl⟩ hbl hH (by simp[hsl])
  have hsize:w.heap.size≤(sortWorldK gq 2 w b o0 m (dw l).toArray os).heap.size:=SWK.le (dk:=(dw l).toArray) ⟨m,os,rfl⟩
  have hsame:dG w (sortWorldK gq 2 w b o0 m (dw l).toArray os):=⟨rfl,rfl,rfl,hsize⟩
  generalize sortWorldK gq 2 w b o0 m (dw l).toArray os=w' at *
  have hb':w'.heap[b]?=some (.cells (putCells id o0 (flatK gq 2 (dw l).toArray) c) ty fz):=by
    rw[hheap hbl,if_pos rfl,hc]; rfl
  have heff:kB Z μ μ w.heap w'.heap h.length (.eH n (.arr 2 (bE (dw l)))):=by
    refine ⟨b,o0,2,hμ,rfl,fun j hj hne=>by rw[hheap hj,if_neg (fun e=>hne e.symm)],fun j cc ee ff hjj=>?_,?_⟩
    · have hjl:j < w.heap.size:=by
        rcases Nat.lt_or_ge j w.heap.size with q | q
        · exact q
        · simp[Array.getElem?_eq_none q] at hjj
      by_cases e:b=j
      · subst e
        rw[hc] at hjj
        simp only[Option.some.injEq,Obj.cells.injEq] at hjj
        obtain ⟨rfl,rfl,rfl⟩:=hjj
        exact ⟨_,_,hb',by simp[putCells]⟩
      · exact ⟨cc,ff,by rw[hheap hjl,if_neg e]; exact hjj,rfl⟩
    · intro b1 o1 s1 h1
      rw[hμ] at h1
      simp only[Option.some.injEq,Prod.mk.injEq] at h1
      obtain ⟨rfl,rfl,rfl⟩:=h1
      refine ⟨rfl,⟨_,ty,fz,hb',?_,?_⟩,fun i hi=>?_,fun i j hi hj=>?_⟩
      · simpa [putCells] using hfz
      · rw[bC,hsl]; simpa [putCells] using hsz
      · rw[bC] at hi; rw[hgl _ i hi]; rfl
      · rw[bC] at hi
        have:=(hafter.cell (i:=i) (c:=j) (by simpa using hi) hj).1
        rw[lj] at this
        refine ⟨_,this,?_⟩
        rw[hgl _ i hi]
        have e1:(dw l).toArray[i]! = (dw l)[i]:=by simp[hi]
        rw[e1]
        match j,hj with
        | 0,_=>exact .val _ rfl
        | 1,_=>exact .val _ rfl
  have hne:cat h F n≠.dead:=by rw[hcat]; simp
  have hrel':=hr.eff (n:=h.length) (eff:=.eH n (.arr 2 (bE (dw l)))) (by trivial) hsize heff (fun id o e=>by cases e; exact hne) (fun id o e=>by cases e)
  obtain ⟨hext,hmu⟩:=heff.ext hsame (by trivial) hr.ca hr.fE
  refine ⟨.tuple #[],Z,μ,rfl,.bk [] #[] rfl (fun i hi=>by simp at hi),?_,hext,fun _ _=>rfl⟩
  have ev:cat (h.set n (.arr 2 (bE (dw l)))) F=aZ.view (cat h F) h.length (.eH n (.arr 2 (bE (dw l)))):=by
    funext k
    simp only[cat,aZ.view,View.set,List.length_set]
    by_cases hk:k < h.length
    · rw[if_pos hk,if_pos hk,iv hlt]; rfl
    · rw[if_neg hk,if_neg hk,if_neg (by omega)]
  rw[ev]
  exact hrel'
abbrev fH:aR:=⟨0,0⟩
def ej (l:List aR):Nat→List aR
  | 0=>[]
  | n+1=>if n=0∨l.getD n fH≠l.getD (n - 1) fH then ej l n ++ [l.getD n fH] else ej l n
theorem wz (l:List aR):∀ n,n≤l.length→(∀ j,0 < j→j < n→l.getD j fH≠l.getD (j - 1) fH)→ej l n=l.take n
  | 0,_,_=>by simp[ej]
  | n+1,hn,h=>by
    have ih:=wz l n (by omega) fun j h1 h2=>h j h1 (by omega)
    have hx:l[n]?=some (l.getD n fH):=getD_some (by omega)
    rw[ej,if_pos,ih,List.take_add_one,hx]
    · rfl
    · by_cases e:n=0
      · exact .inl e
      · exact .inr (h n (by omega) (by omega))
def wU (l:List aR):List aR:=ej (dw l) l.length
theorem uk {l:List aR} (hp:l.Pairwise fun x y=>cG y x=false):∀ n,n≤l.length→cI (ej l n)∧(∀ x,x∈ej l n↔∃ i,i < n∧l.getD i fH=x)
  | 0,_=>by simp[ej,cI]
  | n+1,hn=>by
    obtain ⟨h1,h2⟩:=uk hp n (by omega)
    have hge:∀ i j,i < j→j < l.length→cG (l.getD j fH) (l.getD i fH)=false:=fun i j hij hj=>by
      have:=List.pairwise_iff_getElem.1 hp i j (by omega) hj hij
      simpa [List.getD_eq_getElem?_getD,List.getElem?_eq_getElem hj,List.getElem?_eq_getElem (show i < l.length by omega)] using this
    rw[ej]
    split
    · rename_i hc
      refine ⟨?_,fun x=>?_⟩
      · rw[cI,List.pairwise_append]
        refine ⟨h1,by simp,fun a ha b hb=>?_⟩
        rw[List.mem_singleton] at hb; subst hb
        obtain ⟨i,hi,rfl⟩:=(h2 a).1 ha
        have hc:l.getD n fH≠l.getD (n - 1) fH:=hc.resolve_left (by omega)
        have k1:=tG (hge (n - 1) n (by omega) (by omega)) hc
        rcases Nat.lt_or_ge i (n - 1) with h | h
        · have k2:=hge i (n - 1) h (by omega)
          have k3:¬ cG (l.getD (n - 1) fH) (l.getD i fH)=true:=by rw[k2]; simp
          rw[fj] at k1 k3 ⊢
          omega
        · have:i=n - 1:=by omega
          subst this; exact k1
      · rw[List.mem_append,h2,List.mem_singleton]
        constructor
        · rintro (⟨i,hi,e⟩ | e)
          · exact ⟨i,by omega,e⟩
          · exact ⟨n,by omega,e.symm⟩
        · rintro ⟨i,hi,e⟩
          rcases Nat.lt_or_ge i n with h | h
          · exact .inl ⟨i,h,e⟩
          · have:i=n:=by omega
            subst this; exact .inr e.symm
    · rename_i hc
      simp only[not_or,Decidable.not_not] at hc
      refine ⟨h1,fun x=>?_⟩
      rw[h2]
      constructor
      · rintro ⟨i,hi,e⟩; exact ⟨i,by omega,e⟩
      · rintro ⟨i,hi,e⟩
        rcases Nat.lt_or_ge i n with h | h
        · exact ⟨i,h,e⟩
        · have:i=n:=by omega
          subst this
          exact ⟨i - 1,by omega,by rw[← hc.2]; exact e⟩
theorem Ah (l:List aR):cI (wU l):=(uk (xV l) _ (by rw[gD]; exact Nat.le_refl _)).1
theorem om {l:List aR} {x:aR} : x∈wU l↔x∈l:=by
  rw[wU,(uk (xV l) _ (by rw[gD]; exact Nat.le_refl _)).2,← (xJ l).mem_iff,List.mem_iff_getElem]
  constructor
  · rintro ⟨i,hi,e⟩
    have hi':i < (dw l).length:=by rw[gD]; exact hi
    exact ⟨i,hi',by rw[List.getD_eq_getElem?_getD,List.getElem?_eq_getElem hi'] at e; exact e⟩
  · rintro ⟨i,hi,e⟩
    exact ⟨i,by rw[gD] at hi; exact hi,by rw[List.getD_eq_getElem?_getD,List.getElem?_eq_getElem hi]; exact e⟩
theorem HK {l:List aR} (h:cI l):wU l=l:=vI (Ah l) h fun _=>om
def lN (g:an) (s:Int):Int:=if s < 0 then (g.ax.length:Int) - 1 - s else s
theorem D6 (g:an) (k:Nat):lN g (ba g k)=k:=by
  unfold lN ba; split <;> split <;> omega
theorem Ll {g:an} {s:Int} (h1:s < g.ax.length):0≤lN g s∧ba g (lN g s).toNat=s:=by
  unfold lN ba; split
  · rw[if_neg (by omega)]; omega
  · rw[if_pos (by omega)]; omega
theorem M4 {g:an} {s:Int} (h:gX g s=true):s < g.ax.length∧lN g s < g.ax.length+g.au.length:=by
  unfold gX at h
  unfold lN
  by_cases h0:0≤s
  · rw[if_pos h0] at h
    rw[if_neg (by omega)]
    simp at h
    omega
  · rw[if_neg h0] at h
    rw[if_pos (by omega)]
    simp at h
    omega
def eP (l:List aR):List UInt8:=l.flatMap fun x=>[UInt8.ofNat (x.aG+1).toNat,UInt8.ofNat x.dot.toNat]
theorem KJ {a b:Nat} (ha:a < 256) (hb:b < 256) (h:UInt8.ofNat a=UInt8.ofNat b):a=b:=by
  have:=congrArg UInt8.toNat h
  simp at this
  omega
theorem Dn {g:an} (hf:g.dM):∀ {a b:List aR},(∀ x∈a,dB g x)→(∀ x∈b,dB g x)→eP a=eP b→a=b
  | [],[],_,_,_=>rfl
  | [],y :: b,_,_,h=>by simp[eP] at h
  | x :: a,[],_,_,h=>by simp[eP] at h
  | x :: a,y :: b,ha,hb,h=>by
    simp only[eP,List.flatMap_cons,List.cons_append,List.nil_append,List.cons.injEq] at h
    obtain ⟨h1,h2,h3⟩:=h
    have hx:=ha x (by simp)
    have hy:=hb y (by simp)
    have hr:=hf.rules
    have e1:=gJ hf hx.1
    have e2:=gJ hf hy.1
    have:=hx.1; have:=hx.2; have:=hy.1; have:=hy.2
    have k1:=KJ (by omega) (by omega) h1
    have k2:=KJ (by omega) (by omega) h2
    have ih:=Dn hf (fun z hz=>ha z (by simp[hz])) (fun z hz=>hb z (by simp[hz])) h3
    obtain ⟨xr,xd⟩:=x
    obtain ⟨yr,yd⟩:=y
    simp only at *
    have:xr=yr:=by omega
    have:xd=yd:=by omega
    subst_vars; rfl
section
variable {P:Program} {T:Env} {H:View} {K:V→View→Prop} {w:cw (T,H,K)} {t ty:TypeId}
theorem KW {d:Operand} {id off len sz bytes s:Nat} {z:List V} {es:List (List V)} (he:qK P t=some (sz,bytes,z)) (hd:ev T d=.sl id off len sz) (hH:H id=.arr s es) (hl:off+len≤es.length) (h0:len≠0)
    (hk:K (.bk []) (H.set id (.arr sz (eV es off (List.replicate len z))))):nq P (.call { callee:=.builtin .clear,args:=#[d],argTypes:=#[t] }) ty T H K w:=by
  obtain ⟨e,ti,hse,hi,hti,hz,hzl,hzok,hs0,rfl,rfl⟩:=nb he
  intro n _
  refine ⟨.bk [],.eH id (.arr ti.size (eV es off (List.replicate len z))),[id],?_,hk⟩
  simp only[sI,bU,oper]
  simp only[List.all_eq_true] at hzok
  simp[sQ,hse,hd,cT,hti,h0,hH,hl,hs0,hz,hzl,hzok]
  exact hzok
end
theorem vm:∀ (xs A B:List (List V)),xs.length≤B.length→eV (A ++ B) A.length xs=A ++ xs ++ B.drop xs.length
  | [],A,B,_=>by simp[eV]
  | x :: r,A,[],h=>by simp at h
  | x :: r,A,b :: B,h=>by
    rw[eV,List.set_append_right _ _ (Nat.le_refl _),Nat.sub_self,List.set_cons_zero]
    have:=vm r (A ++ [x]) B (by simpa using h)
    simpa using this
theorem vD {id off k m:Nat} (hm:m≤k):ke 2 (.sl id off k 2) (some (gi m)) none=some (.sl id (off+m) (k - m) 2,.none,[]):=by
  simp[ke,bound,asNat,hm]
theorem DZ {id off k m:Nat} (hm:m≤k):ke 2 (.sl id off k 2) none (some (gi m))=some (.sl id off m 2,.none,[]):=by
  simp[ke,bound,asNat,hm]
def eN:SC :=
  .seq (.seq (ak [aa 29 5,aa 30 4,aI 31 30,aK 32 .lss 29 31]) <|
  .cond (.tmp 32) (.skip) (.exit 2)) <|
  .seq (.block 3 (.seq (ak [aa 35 4,aa 36 5,aL 37 2 35 36,aJ 38 2 37,aa 39 4,aa 40 5,ay 41 .sub 40 1,aL 42 2 39 41,aJ 43 2 42,((some 44),.op (.old (.binOp .neq 33 (.tmp 38) (.tmp 43) 33) 4))]) <|
  .cond (.tmp 44) (.seq (ak [aa 45 0,aa 46 3,aa 47 4,aa 48 5,aL 49 2 47 48,aJ 50 2 49,aL 51 2 45 46,(none,.op (.store 2 (.tmp 51) (.tmp 50)))]) <|
  ak [aa 52 3,ay 53 .add 52 1,aa 3 53]) (.skip))) <|
  ak [aa 33 5,ay 34 .add 33 1,aa 5 34]
def eL:SC :=
  .seq (.seq (ak [aa 10 3,aa 11 0,aI 12 11,aK 13 .lss 10 12]) <|
  .cond (.tmp 13) (.skip) (.exit 0)) <|
  .seq (.block 1 (.seq (ak [aa 16 0,aa 17 3,aL 18 2 16 17,aJ 19 2 18,aa 20 0,aa 21 3,ay 22 .sub 21 1,aL 23 2 20 22,aJ 24 2 23,((some 25),.op (.old (.binOp .eql 33 (.tmp 19) (.tmp 24) 33) 4))]) <|
  .cond (.tmp 25) (.seq (ak [aa 26 0,aa 27 3,((some 28),.op (.slice 2 (.tmp 26) (some (.tmp 27)) none)),aa 4 28]) <|
  .seq (.seq (ak [aD 5 1]) <|
  .block 2 (.loop eN)) <|
  .seq (ak [aa 54 0,aa 55 3,((some 56),.op (.slice 2 (.tmp 54) (some (.tmp 55)) none)),(none,.op (.old (.call { callee:=.builtin .clear,args:=#[(.tmp 56)],argTypes:=#[27] }) 0))]) <|
  .seq (ak [aa 57 0,aa 58 3,((some 59),.op (.slice 2 (.tmp 57) none (some (.tmp 58)))),aa 2 59]) <|
  .ret) (.skip))) <|
  ak [aa 14 3,ay 15 .add 14 1,aa 3 15]
def fg:SF:=⟨.seq (ak [((some 2),.op (.bg (.val (.emp 1))))]) <|
  .seq (.seq (ak [aa 6 0,aI 7 6,ay 8 .lss 7 2]) <|
  .cond (.tmp 8) (.seq (ak [aa 9 0,aa 2 9]) <|
  .ret) (.skip)) <|
  .seq (.seq (ak [aD 3 1]) <|
  .block 0 (.loop eL)) <|
  .seq (ak [aa 60 0,aa 2 60]) <|
  .ret,
  [.tmp 2],61⟩
theorem ir:bh Tryz.prog 114 []=some fg:=by kernel_rfl
def xC:SF:=⟨.seq (ak [((some 2),.op (.bg (.val (.emp 1))))]) <|
  .seq (ak [aa 3 0,cU 4 112 [(.tmp 3),(.val (.fn 113 [] []))]]) <|
  .seq (ak [aa 5 0,aF 6 114 [5],aa 2 6]) <|
  .ret,
  [.tmp 2],7⟩
theorem Ba:bh Tryz.prog 64 []=some xC:=by kernel_rfl
theorem pD {l:List aR} {i:Nat} (h:i < l.length):(bE l).getD i []=[gi (l.getD i fH).aG,gi (l.getD i fH).dot]:=z1 (getD_some h)
theorem IB (l:List aR) (i j:Nat) (x d:aR) (hi:i < l.length):(l.set i x).getD j d=if i=j then x else l.getD j d:=by
  rw[nN]
  by_cases e:i=j
  · rw[if_pos ⟨e,hi⟩,if_pos e]
  · rw[if_neg (fun h=>e h.1),if_neg e]
set_option maxHeartbeats 16000000 in
theorem IE (l:List aR) (hn:l.length≤100000) (u:V) (H:View) (ho:aW H u 2 (bE l)):aA Tryz.prog 114 [u] H fun r H'=>(∀ id,owner u≠some id→H' id=H id)∧aW H' r 2 (bE (ej l l.length))∧owner r=owner u:=by
  refine aA.cut (K:=fun r H'=>(H'=H∧r=u∧ej l l.length=l)∨∃ id rest,u=.sl id 0 l.length 2∧r=.sl id 0 (ej l l.length).length 2∧H'=H.set id (.arr 2 (bE (ej l l.length) ++ rest))) ?_ ?_
  rotate_left
  · rintro r H' (⟨rfl,rfl,e⟩ | ⟨id,rest,rfl,rfl,rfl⟩)
    · exact .inl ⟨fun _ _=>rfl,by rw[e]; exact ho,rfl⟩
    · refine .inr ⟨id,2,bE (ej l l.length),rest,by simp[View.set],fun j hj=>?_,?_,rfl⟩
      · rw[set_set]
        simp only[View.set]
        rw[if_neg (fun e=>hj (by rw[e]; rfl))]
      · rw[set_set]
        exact .inr ⟨id,by rw[bC],by simp[View.set]⟩
  refine aA.of mixed ir ?_
  have hlen:cT u=some l.length:=by rw[ho.len,bC]
  simp (disch:=omega) only [↓wr,↓reduceIte,wq,ah,ag,aj,ab,ae,af,ai,isNil,Nat.reduceEqDiff,Nat.reduceAdd,Nat.reduceLT,Nat.reduceLeDiff,Int.reduceNeg,Int.reduceToNat,reduceCtorEq,fg,hlen]
  refine av.dec (fun h2=>?_) (fun h2=>?_)
  · simp (disch:=omega) only [↓wr,↓reduceIte,wq,ah,ag,aj,ab,ae,af,ai,isNil,Nat.reduceEqDiff,Nat.reduceAdd,Nat.reduceLT,Nat.reduceLeDiff,Int.reduceNeg,Int.reduceToNat,reduceCtorEq]
    left
    try refine ⟨rfl,rfl,?_⟩
    match l,h2 with
    | [],_=>rfl
    | [x],_=>rfl
    | _ :: _ :: _,h2=>simp at h2; omega
  obtain ⟨id,hu,hid⟩:=ho.sl (by rw[bC]; omega)
  rw[bC] at hu
  subst hu
  simp (disch:=omega) only [↓wr,↓reduceIte,wq,ah,ag,aj,ab,ae,af,ai,isNil,Nat.reduceEqDiff,Nat.reduceAdd,Nat.reduceLT,Nat.reduceLeDiff,Int.reduceNeg,Int.reduceToNat,reduceCtorEq]
  refine bw.up (l.length - 1) (fun i T H'=>H=H'∧(∀ j,0 < j→j < i+1→l.getD j fH≠l.getD (j - 1) fH)∧T 0=.sl id 0 l.length 2∧T 3=gi ((i+1:Nat):Int)) ⟨rfl,fun j h1 h2=>by omega,rfl,rfl⟩ ?_
  rintro i k T _ hk ⟨rfl,hne,t0,t3⟩
  simp (disch:=omega) only [↓wr,↓reduceIte,wq,ah,ag,aj,ab,ae,af,ai,isNil,Nat.reduceEqDiff,Nat.reduceAdd,Nat.reduceLT,Nat.reduceLeDiff,Int.reduceNeg,Int.reduceToNat,reduceCtorEq,eL,t0,t3]
  refine av.dec (fun hc=>?_) (fun hc=>?_)
  rotate_left
  · simp (disch:=omega) only [↓wr,↓reduceIte,wq,ah,ag,aj,ab,ae,af,ai,isNil,Nat.reduceEqDiff,Nat.reduceAdd,Nat.reduceLT,Nat.reduceLeDiff,Int.reduceNeg,Int.reduceToNat,reduceCtorEq,t0]
    left
    try refine ⟨rfl,rfl,?_⟩
    rw[wz l _ (Nat.le_refl _) (fun j h1 h2=>hne j h1 (by omega)),List.take_length]
  have hi1:i+1 < l.length:=by omega
  have e1:(((i+1:Nat):Int) - 1)=(i:Int):=by omega
  simp (disch:=omega) only [↓wr,↓reduceIte,wq,ah,ag,aj,ab,ae,af,ai,isNil,Nat.reduceEqDiff,Nat.reduceAdd,Nat.reduceLT,Nat.reduceLeDiff,Int.reduceNeg,Int.reduceToNat,reduceCtorEq,t0,t3,hid,pD hi1,pD (show i < l.length by omega),e1]
  refine ⟨by omega,by rw[bC]; omega,?_⟩
  refine ⟨by omega,by rw[bC]; omega,?_⟩
  generalize hx:l.getD (i+1) fH=x
  generalize hy:l.getD i fH=y
  refine ki (xs:=#[.int .i64 x.aG,.int .i64 x.dot]) (ys:=#[.int .i64 y.aG,.int .i64 y.dot]) Tryz.underlying33 (by kernel_rfl) (by kernel_rfl) ?_ ?_ (vX x y) (.inl ⟨rfl,rfl⟩) ?_
  · rfl
  · rfl
  rw[D9]
  simp (disch:=omega) only [↓wr,↓reduceIte,wq,ah,ag,aj,ab,ae,af,ai,isNil,Nat.reduceEqDiff,Nat.reduceAdd,Nat.reduceLT,Nat.reduceLeDiff,Int.reduceNeg,Int.reduceToNat,reduceCtorEq,t0,t3]
  refine av.dec (fun heq=>?_) (fun heq=>?_)
  rotate_left
  · simp (disch:=omega) only [↓wr,↓reduceIte,wq,ah,ag,aj,ab,ae,af,ai,isNil,Nat.reduceEqDiff,Nat.reduceAdd,Nat.reduceLT,Nat.reduceLeDiff,Int.reduceNeg,Int.reduceToNat,reduceCtorEq,t0,t3]
    refine bt hk (by omega) ⟨rfl,fun j h1 h2=>?_,t0,by push_cast; rfl⟩
    rcases Nat.lt_or_ge j (i+1) with q | q
    · exact hne j h1 q
    · have:j=i+1:=by omega
      subst this
      rw[Nat.add_sub_cancel,hx,hy]; exact heq
  have hstart:ej l (i+1+1)=l.take (i+1):=by
    rw[ej,if_neg,wz l (i+1) (by omega) hne]
    rw[Nat.add_sub_cancel,hx,hy]
    simp[heq]
  simp (disch:=omega) only [↓wr,↓reduceIte,wq,ah,ag,aj,ab,ae,af,ai,isNil,Nat.reduceEqDiff,Nat.reduceAdd,Nat.reduceLT,Nat.reduceLeDiff,Int.reduceNeg,Int.reduceToNat,reduceCtorEq,t0,t3,vD (id:=id) (off:=0) (k:=l.length) (m:=i+1) (by omega)]
  refine bw.up (l.length - (i+1) - 1) (fun i2 T H'=>∃ (kk:Nat) (cur:List aR),H'=H.set id (.arr 2 (bE cur))∧cur.length=l.length∧i+1≤kk∧kk≤i+1+i2∧cur.take kk=ej l (i+1+(i2+1))∧(∀ j,kk≤j→cur.getD j fH=l.getD j fH) ∧
    T 0=.sl id 0 l.length 2∧T 3=gi kk∧T 4=.sl id (i+1) (l.length - (i+1)) 2∧T 5=gi ((i2+1:Nat):Int)) ⟨i+1,l,?_,rfl,Nat.le_refl _,by omega,by rw[hstart],fun _ _=>rfl,t0,t3,?_,rfl⟩ ?_
  · funext j; simp only[View.set]; split
    · rename_i e; rw[e,hid]
    · rfl
  · rfl
  clear t0 t3 hk
  rintro i2 k2 T2 _ hk2 ⟨kk,cur,rfl,hcl,k1,k3,hct,hcj,t0,t3,t4,t5⟩
  have hset:(H.set id (.arr 2 (bE cur))) id=.arr 2 (bE cur):=by simp[View.set]
  simp (disch:=omega) only [↓wr,↓reduceIte,wq,ah,ag,aj,ab,ae,af,ai,isNil,Nat.reduceEqDiff,Nat.reduceAdd,Nat.reduceLT,Nat.reduceLeDiff,Int.reduceNeg,Int.reduceToNat,reduceCtorEq,eN,t0,t3,t4,t5]
  refine av.dec (fun hc2=>?_) (fun hc2=>?_)
  · have hp:i+1+(i2+1) < l.length:=by omega
    have e2:(((i2+1:Nat):Int) - 1)=(i2:Int):=by omega
    simp (disch:=omega) only [↓wr,↓reduceIte,wq,ah,ag,aj,ab,ae,af,ai,isNil,Nat.reduceEqDiff,Nat.reduceAdd,Nat.reduceLT,Nat.reduceLeDiff,Int.reduceNeg,Int.reduceToNat,reduceCtorEq,t0,t3,t4,t5,hset,e2,pD (l:=cur) (show i+1+(i2+1) < cur.length by omega),pD (l:=cur) (show i+1+i2 < cur.length by omega)]
    refine ⟨by omega,by rw[bC]; omega,?_⟩
    refine ⟨by omega,by rw[bC]; omega,?_⟩
    rw[hcj _ (show kk≤i+1+(i2+1) by omega),hcj _ (show kk≤i+1+i2 by omega)]
    generalize hx2:l.getD (i+1+(i2+1)) fH=x2
    generalize hy2:l.getD (i+1+i2) fH=y2
    refine ki (xs:=#[.int .i64 x2.aG,.int .i64 x2.dot]) (ys:=#[.int .i64 y2.aG,.int .i64 y2.dot]) Tryz.underlying33 (by kernel_rfl) (by kernel_rfl) ?_ ?_ (vX x2 y2) (.inr ⟨rfl,rfl⟩) ?_
    · rfl
    · rfl
    rw[D9]
    simp (disch:=omega) only [↓wr,↓reduceIte,wq,ah,ag,aj,ab,ae,af,ai,isNil,Nat.reduceEqDiff,Nat.reduceAdd,Nat.reduceLT,Nat.reduceLeDiff,Int.reduceNeg,Int.reduceToNat,reduceCtorEq,t0,t3,t4,t5]
    have hcu:ej l (i+1+(i2+1+1))=if x2=y2 then ej l (i+1+(i2+1)) else ej l (i+1+(i2+1)) ++ [x2]:=by
      rw[show i+1+(i2+1+1)=(i+1+(i2+1))+1 by omega,ej,hx2,show i+1+(i2+1) - 1=i+1+i2 by omega,hy2]
      by_cases e:x2=y2
      · rw[if_pos e,if_neg (by simp[e])]
      · rw[if_neg e,if_pos (.inr e)]
    refine av.dec (fun he=>?_) (fun he=>?_)
    · simp (disch:=omega) only [↓wr,↓reduceIte,wq,ah,ag,aj,ab,ae,af,ai,isNil,Nat.reduceEqDiff,Nat.reduceAdd,Nat.reduceLT,Nat.reduceLeDiff,Int.reduceNeg,Int.reduceToNat,reduceCtorEq,t0,t3,t4,t5]
      rw[if_pos he] at hcu
      exact bt hk2 (by omega) ⟨kk,cur,rfl,hcl,k1,by omega,by rw[hcu]; exact hct,hcj,t0,t3,t4,by push_cast; rfl⟩
    · simp (disch:=omega) only [↓wr,↓reduceIte,wq,ah,ag,aj,ab,ae,af,ai,isNil,Nat.reduceEqDiff,Nat.reduceAdd,Nat.reduceLT,Nat.reduceLeDiff,Int.reduceNeg,Int.reduceToNat,reduceCtorEq,t0,t3,t4,t5,hset,pD (l:=cur) (show i+1+(i2+1) < cur.length by omega)]
      rw[hcj _ (show kk≤i+1+(i2+1) by omega),hx2]
      have hkl:(bE cur).getD kk []=[gi (cur.getD kk fH).aG,gi (cur.getD kk fH).dot]:=pD (by omega)
      have hse:(bE cur).set kk [gi x2.aG,gi x2.dot]=bE (cur.set kk x2):=by simp[bE,List.map_set,fN]
      simp (disch:=omega) only [↓wr,↓reduceIte,wq,ah,ag,aj,ab,ae,af,ai,isNil,Nat.reduceEqDiff,Nat.reduceAdd,Nat.reduceLT,Nat.reduceLeDiff,Int.reduceNeg,Int.reduceToNat,reduceCtorEq,t0,t3,t4,t5,hset,hkl,hse]
      rw[set_set]
      rw[if_neg he] at hcu
      refine ⟨by omega,by rw[bC]; omega,?_⟩
      refine ⟨by omega,by rw[bC]; omega,?_⟩
      refine bt hk2 (by omega) ⟨kk+1,cur.set kk x2,rfl,by simp[hcl],by omega,by omega,?_,fun j hj=>?_,t0,by push_cast; rfl,t4,by push_cast; rfl⟩
      · rw[hcu,← hct,List.take_add_one,List.take_set_of_le (Nat.le_refl _),List.getElem?_set_self (by omega)]; rfl
      · rw[IB _ _ _ _ _ (by omega),if_neg (by omega)]
        exact hcj j (by omega)
  · have hi2:i+1+(i2+1)=l.length:=by omega
    rw[hi2] at hct
    have hz:l.length - kk≠0:=by omega
    have hkl:kk=(ej l l.length).length:=by rw[← hct,List.length_take]; omega
    simp (disch:=omega) only [↓wr,↓reduceIte,wq,ah,ag,aj,ab,ae,af,ai,isNil,Nat.reduceEqDiff,Nat.reduceAdd,Nat.reduceLT,Nat.reduceLeDiff,Int.reduceNeg,Int.reduceToNat,reduceCtorEq,t0,t3,vD (id:=id) (off:=0) (k:=l.length) (m:=kk) (by omega)]
    refine KW (id:=id) (off:=kk) (len:=l.length - kk) (sz:=2) (bytes:=16) (s:=2) (z:=[gi 0,gi 0]) (es:=bE cur) (by kernel_rfl) (by simp (disch:=omega) only [↓wr,↓reduceIte,wq,ah,ag,aj,ab,ae,af,ai,isNil,Nat.reduceEqDiff,Nat.reduceAdd,Nat.reduceLT,Nat.reduceLeDiff,Int.reduceNeg,Int.reduceToNat,reduceCtorEq]; try rw[Nat.zero_add]) hset (by rw[bC]; omega) hz ?_
    rw[set_set]
    have hsr:eV (bE cur) kk (List.replicate (l.length - kk) [gi 0,gi 0])=bE (ej l l.length) ++ List.replicate (l.length - kk) [gi 0,gi 0]:=by
      have h1:=vm (List.replicate (l.length - kk) [gi 0,gi 0]) (bE (cur.take kk)) (bE (cur.drop kk)) (by simp[bE]; omega)
      rw[show bE (cur.take kk) ++ bE (cur.drop kk)=bE cur by rw[bE,bE,← List.map_append,List.take_append_drop]; rfl] at h1
      rw[show (bE (cur.take kk)).length=kk by rw[bC,List.length_take]; omega] at h1
      rw[h1,hct,List.drop_eq_nil_of_le (by simp[bE]; omega),List.append_nil]
    rw[hsr]
    simp (disch:=omega) only [↓wr,↓reduceIte,wq,ah,ag,aj,ab,ae,af,ai,isNil,Nat.reduceEqDiff,Nat.reduceAdd,Nat.reduceLT,Nat.reduceLeDiff,Int.reduceNeg,Int.reduceToNat,reduceCtorEq,t0,t3,DZ (id:=id) (off:=0) (k:=l.length) (m:=kk) (by omega)]
    right
    exact ⟨id,List.replicate (l.length - kk) [gi 0,gi 0],rfl,by rw[hkl],rfl⟩
set_option maxHeartbeats 4000000 in
theorem Gt (l:List aR) (hn:l.length≤100000) (u:V) (H:View) (ho:aW H u 2 (bE l)):aA Tryz.prog 64 [u] H fun r H'=>(∀ id,owner u≠some id→H' id=H id)∧aW H' r 2 (bE (wU l))∧owner r=owner u:=by
  refine aA.of mixed Ba ?_
  simp (disch:=omega) only [↓wr,↓reduceIte,wq,ah,ag,aj,ab,ae,af,ai,isNil,Nat.reduceEqDiff,Nat.reduceAdd,Nat.reduceLT,Nat.reduceLeDiff,Int.reduceNeg,Int.reduceToNat,reduceCtorEq,xC]
  refine aE.oO ((Lt l (by omega) u H ho).mono ?_)
  rintro r H2 ⟨rfl,k2,o2⟩
  simp (disch:=omega) only [↓wr,↓reduceIte,wq,ah,ag,aj,ab,ae,af,ai,isNil,Nat.reduceEqDiff,Nat.reduceAdd,Nat.reduceLT,Nat.reduceLeDiff,Int.reduceNeg,Int.reduceToNat,reduceCtorEq]
  refine aE.oO ((IE (dw l) (by rw[gD]; omega) u H2 o2).mono ?_)
  rintro r H3 ⟨k3,o3,e3⟩
  simp (disch:=omega) only [↓wr,↓reduceIte,wq,ah,ag,aj,ab,ae,af,ai,isNil,Nat.reduceEqDiff,Nat.reduceAdd,Nat.reduceLT,Nat.reduceLeDiff,Int.reduceNeg,Int.reduceToNat,reduceCtorEq]
  rw[gD] at o3
  exact ⟨fun id hid=>by rw[k3 id hid,k2 id hid],o3,e3⟩
structure kI (g:an) (a:List bo):Prop where
  first:(a.getD 0 bX).bq=[⟨-1,0⟩]
  Lq:∀ s∈a,∀ e∈s.bO,(a.getD e.to.toNat bX).bq=bp g (c4 g s.bq) e.sym
theorem jL (l:List bo) (i:Nat) (c:fT) (j:Nat):((l.modify i fun x=>(⟨x.bq,x.bO ++ [c]⟩:bo)).getD j bX).bq=(l.getD j bX).bq:=by
  simp only[List.getD_eq_getElem?_getD,List.getElem?_modify]
  cases l[j]? with
  | none=>rfl
  | some x =>
    by_cases e:i=j
    · subst e; simp
    · simp[e]
theorem kI.put {g:an} {out:List bo} (h:kI g out) {at_:Nat} {s to:Int} (ht:(out.getD to.toNat bX).bq=bp g (c4 g (out.getD at_ bX).bq) s):kI g (out.modify at_ fun x=>(⟨x.bq,x.bO ++ [⟨s,to⟩]⟩:bo)):=by
  refine ⟨by rw[jL]; exact h.first,fun y hy e he=>?_⟩
  rw[jL]
  rcases mem_modify hy with hy | ⟨x,hx,rfl⟩
  · exact h.Lq y hy e he
  · rcases List.mem_append.1 he with he | he
    · exact h.Lq x (List.mem_of_getElem? hx) e he
    · simp at he; subst he
      rw[ht,List.getD_eq_getElem?_getD,hx]; rfl
theorem kI.add {g:an} {out:List bo} (h:kI g out) (h1:1≤out.length) (ht:∀ s∈out,∀ e∈s.bO,0≤e.to∧e.to < out.length) (k:List aR):kI g (out ++ [⟨k,[]⟩]):=by
  have hg:∀ j:Nat,j < out.length→((out ++ [(⟨k,[]⟩:bo)]).getD j bX)=out.getD j bX:=fun j hj=>by
    simp[List.getD_eq_getElem?_getD,List.getElem?_append_left hj]
  refine ⟨by rw[hg 0 (by omega)]; exact h.first,fun y hy e he=>?_⟩
  rcases List.mem_append.1 hy with hy | hy
  · have:=ht y hy e he
    rw[hg _ (by omega)]; exact h.Lq y hy e he
  · simp at hy; subst hy; simp at he
theorem Ks (g:an) (l:List aR) (at_:Nat) (out:List bo) (i:Nat) {j:Nat} (hj:j < out.length):((dt g l at_ out i).getD j bX).bq=(out.getD j bX).bq:=by
  unfold dt
  split
  · rfl
  · split
    · rw[jL]
      simp[List.getD_eq_getElem?_getD,List.getElem?_append_left hj]
    · rw[jL]
theorem kI.step {g:an} {l:List aR} {at_ i:Nat} {out:List bo} (h:kI g out) (hi:dz g at_ i out) (ha:at_ < out.length) (hl:c4 g (out.getD at_ bX).bq=l):kI g (dt g l at_ out i):=by
  unfold dt
  split
  · exact h
  · split
    · refine (h.add (by omega) hi.to _).put ?_
      rw[Int.toNat_natCast]
      have e1:((out ++ [(⟨bp g l (ba g i),[]⟩:bo)]).getD out.length bX).bq=bp g l (ba g i):=by
        simp[List.getD_eq_getElem?_getD]
      have e2:(out ++ [(⟨bp g l (ba g i),[]⟩:bo)]).getD at_ bX=out.getD at_ bX:=by
        simp[List.getD_eq_getElem?_getD,List.getElem?_append_left ha]
      rw[e1,e2,hl]
    · rename_i hf
      refine h.put ?_
      obtain ⟨n,hn⟩:∃ n:Nat,findD out (bp g l (ba g i))=n:=⟨(findD out (bp g l (ba g i))).toNat,by omega⟩
      obtain ⟨s,h1,h2⟩:=D7 _ _ _ hn
      rw[hn,Int.toNat_natCast,List.getD_eq_getElem?_getD,h1,hl]
      exact h2
theorem kI.row {g:an} (hf:g.dM) {at_:Nat} {out:List bo} (h:kI g out) (hi:dz g at_ 0 out) (ha:at_ < out.length):∀ n:Nat,n≤40→kI g ((List.range n).foldl (dt g (c4 g (out.getD at_ bX).bq) at_) out)∧(((List.range n).foldl (dt g (c4 g (out.getD at_ bX).bq) at_) out).getD at_ bX).bq=(out.getD at_ bX).bq
  | 0,_=>⟨h,rfl⟩
  | n+1,hn=>by
    obtain ⟨h1,h2⟩:=kI.row hf h hi ha n (by omega)
    obtain ⟨i1,i2,i3⟩:=dz.row (hi.ry hf ha).1 (hi.ry hf ha).2 hi n (by omega)
    rw[List.range_succ,List.foldl_append]
    simp only[List.foldl_cons,List.foldl_nil]
    refine ⟨h1.step i1 (by omega) (by rw[h2]),?_⟩
    rw[Ks _ _ _ _ _ (by omega),h2]
inductive nz (a:List bo):List Int→List Int→Prop
  | nil:nz a [] [0]
  | snoc {X st:List Int} {e:fT} : nz a X st→e∈(a.getD (AN st).toNat bX).bO→nz a (X ++ [e.sym]) (st ++ [e.to])
theorem nz.len {a:List bo} {X st:List Int} (h:nz a X st):st.length=X.length+1:=by
  induction h with
  | nil=>rfl
  | snoc _ _ ih=>simp[ih]
theorem nz.take {a:List bo} {X st:List Int} (h:nz a X st):∀ k:Nat,k≤X.length→nz a (X.take k) (st.take (k+1)):=by
  induction h with
  | nil =>
           intro k hk; have:k=0:=by simpa using hk
           subst this; exact .nil
  | @snoc X st e h he ih =>
    intro k hk
    have hl:=h.len
    simp only[List.length_append,List.length_cons,List.length_nil] at hk
    by_cases hk2:k≤X.length
    · rw[List.take_append_of_le_length hk2,List.take_append_of_le_length (by omega)]
      exact ih k hk2
    · rw[List.take_of_length_le (by simp; omega),List.take_of_length_le (by simp; omega)]
      exact .snoc h he
theorem Nw {a:List bo} {i:Nat} {e:fT} (h:e∈(a.getD i bX).bO):i < a.length∧a.getD i bX∈a:=by
  rcases Nat.lt_or_ge i a.length with hi | hi
  · exact ⟨hi,List.mem_of_getElem? (getD_some hi)⟩
  · rw[List.getD_eq_getElem?_getD,List.getElem?_eq_none hi] at h; simp at h
theorem nz.top {g:an} {a:List bo} (ha:CW g a) (h1:1≤a.length) {X st:List Int} (h:nz a X st):0≤AN st∧AN st < a.length:=by
  cases h with
  | nil=>simp[AN]; omega
  | snoc h he =>
    rw[LL]
    exact ha.to _ (Nw he).2 _ he
theorem pQ.bq {g:an} {l:List aR} {x:aR} (h:pQ g l x) (hd:x.dot≠0∨x.aG < 0):x∈l:=by
  cases h with
  | base h=>exact h
  | step=>simp at hd; omega
def mf (g:an) (l:List aR) (n:Nat):List Int:=((List.range n).filter fun i=>decide (bp g l (ba g i)≠[])).map fun (i:Nat)=>ba g i
theorem Ae (g:an) (l:List aR) (n:Nat):mf g l (n+1)=if bp g l (ba g n)=[] then mf g l n else mf g l n ++ [ba g n]:=by
  unfold mf
  rw[List.range_succ,List.filter_append,List.map_append]
  by_cases h:bp g l (ba g n)=[]
  · rw[if_pos h]; simp[h]
  · rw[if_neg h]; simp[h]
structure kH (g:an) (at_ i:Nat) (out:List bo):Prop where
  one:(out.map bo.bq).Nodup
  back:∀ j:Nat,0 < j→j < out.length→∃ (i:Nat) (e:fT),i < j∧e∈(out.getD i bX).bO∧e.to=j
  done:∀ j:Nat,j < at_→j < out.length→(out.getD j bX).bO.map fT.sym=mf g (c4 g (out.getD j bX).bq) (g.ax.length+g.au.length)
  here:at_ < out.length→(out.getD at_ bX).bO.map fT.sym=mf g (c4 g (out.getD at_ bX).bq) i
theorem pj (l:List bo) (i:Nat) (c:fT) (j:Nat) (hi:i < l.length):((l.modify i fun x=>(⟨x.bq,x.bO ++ [c]⟩:bo)).getD j bX).bO=if i=j then (l.getD j bX).bO ++ [c] else (l.getD j bX).bO:=by
  simp only[List.getD_eq_getElem?_getD,List.getElem?_modify]
  by_cases e:i=j
  · subst e; simp[hi]
  · cases l[j]? with
    | none=>simp[e]
    | some x=>simp[e]
theorem A6 (l:List bo) (i:Nat) (c:fT):(l.modify i fun x=>(⟨x.bq,x.bO ++ [c]⟩:bo)).map bo.bq=l.map bo.bq:=by
  apply List.ext_getElem?
  intro j
  simp only[List.getElem?_map,List.getElem?_modify]
  cases l[j]? with
  | none=>rfl
  | some x=>by_cases e:i=j <;> simp[e]
theorem kH.put {g:an} {at_ i:Nat} {out:List bo} {to:Int} (ha:at_ < out.length) (h1:(out.map bo.bq).Nodup) (h2:∀ j:Nat,0 < j→j < out.length→(∃ (i:Nat) (e:fT),i < j∧e∈(out.getD i bX).bO∧e.to=j)∨(at_ < j∧to=j))
    (h3:∀ j:Nat,j < at_→j < out.length→(out.getD j bX).bO.map fT.sym=mf g (c4 g (out.getD j bX).bq) (g.ax.length+g.au.length)) (h4:(out.getD at_ bX).bO.map fT.sym=mf g (c4 g (out.getD at_ bX).bq) i)
    (hne:bp g (c4 g (out.getD at_ bX).bq) (ba g i)≠[]):kH g at_ (i+1) (out.modify at_ fun x=>(⟨x.bq,x.bO ++ [⟨ba g i,to⟩]⟩:bo)):=by
  refine ⟨by rw[A6]; exact h1,fun j hj hl=>?_,fun j hj hl=>?_,fun _=>?_⟩
  · rw[List.length_modify] at hl
    rcases h2 j hj hl with ⟨k,e,a1,a2,a3⟩ | ⟨a1,a2⟩
    · refine ⟨k,e,a1,?_,a3⟩
      rw[pj _ _ _ _ ha]
      split
      · exact List.mem_append_left _ a2
      · exact a2
    · refine ⟨at_,⟨ba g i,to⟩,a1,?_,a2⟩
      rw[pj _ _ _ _ ha,if_pos rfl]
      simp
  · rw[List.length_modify] at hl
    rw[pj _ _ _ _ ha,if_neg (by omega),jL]
    exact h3 j hj hl
  · rw[pj _ _ _ _ ha,if_pos rfl,jL,List.map_append,h4,Ae,if_neg hne]; rfl
theorem kH.step {g:an} {at_ i:Nat} {out:List bo} (h:kH g at_ i out) (ha:at_ < out.length):kH g at_ (i+1) (dt g (c4 g (out.getD at_ bX).bq) at_ out i):=by
  unfold dt
  split
  · rename_i hm
    exact ⟨h.one,h.back,h.done,fun _=>by rw[Ae,if_pos hm]; exact h.here ha⟩
  · rename_i hm
    split
    · rename_i hf
      have hg:∀ j:Nat,j < out.length→((out ++ [(⟨bp g (c4 g (out.getD at_ bX).bq) (ba g i),[]⟩:bo)]).getD j bX)=out.getD j bX:=fun j hj=>by
        simp[List.getD_eq_getElem?_getD,List.getElem?_append_left hj]
      refine kH.put (by simp; omega) ?_ (fun j hj hl=>?_) (fun j hj hl=>?_) ?_ ?_
      · rw[List.map_append,List.nodup_append]
        refine ⟨h.one,by simp,fun a hA b hB=>?_⟩
        obtain ⟨s,hs,rfl⟩:=List.mem_map.1 hA
        simp at hB; subst hB
        exact EF _ _ hf s hs
      · rcases Nat.lt_or_ge j out.length with q | q
        · obtain ⟨k,e,a1,a2,a3⟩:=h.back j hj q
          exact .inl ⟨k,e,a1,by rw[hg k (by omega)]; exact a2,a3⟩
        · right
          simp at hl
          exact ⟨by omega,by omega⟩
      · rw[hg j (by omega)]; exact h.done j hj (by omega)
      · rw[hg at_ ha]; exact h.here ha
      · rw[hg at_ ha]; exact hm
    · exact kH.put ha h.one (fun j hj hl=>.inl (h.back j hj hl)) h.done (h.here ha) hm
theorem kH.row {g:an} (hf:g.dM) {at_:Nat} {out:List bo} (h:kH g at_ 0 out) (hi:dz g at_ 0 out) (he:kI g out) (ha:at_ < out.length):∀ n:Nat,n≤40→kH g at_ n ((List.range n).foldl (dt g (c4 g (out.getD at_ bX).bq) at_) out)
  | 0,_=>h
  | n+1,hn=>by
    have h1:=kH.row hf h hi he ha n (by omega)
    obtain ⟨i1,i2,i3⟩:=dz.row (hi.ry hf ha).1 (hi.ry hf ha).2 hi n (by omega)
    obtain ⟨e1,e2⟩:=he.row hf hi ha n (by omega)
    rw[List.range_succ,List.foldl_append]
    simp only[List.foldl_cons,List.foldl_nil]
    have:=h1.step (by omega)
    rw[e2] at this
    exact this
theorem kH.next {g:an} {at_:Nat} {out:List bo} (h:kH g at_ (g.ax.length+g.au.length) out) (hi:dz g at_ (g.ax.length+g.au.length) out):kH g (at_+1) 0 out:=by
  refine ⟨h.one,h.back,fun j hj hl=>?_,fun hl=>?_⟩
  · rcases Nat.lt_or_ge j at_ with q | q
    · exact h.done j q hl
    · have:j=at_:=by omega
      subst this
      exact h.here hl
  · have:=(hi.bO (at_+1) _ (getD_some (d:=bX) hl)).2.2 (by omega)
    rw[this]; simp[mf]
structure C4 (g:an) (a:List bo):Prop where
  one:(a.map bo.bq).Nodup
  back:∀ j:Nat,0 < j→j < a.length→∃ (i:Nat) (e:fT),i < j∧e∈(a.getD i bX).bO∧e.to=j
  all:∀ s∈a,s.bO.map fT.sym=mf g (c4 g s.bq) (g.ax.length+g.au.length)
theorem yV {g:an} (hf:g.dM):∀ (f at_:Nat) (out:List bo),302≤f+at_→dz g at_ 0 out→kI g out→kH g at_ 0 out→out.length≤300→(gG g f at_ out).2=0→C4 g (gG g f at_ out).1
  | 0,at_,out,h0,_,_,h,hl,_=>⟨h.one,h.back,fun s hs=>by
      change s∈out at hs
      obtain ⟨j,hj,e⟩:=List.mem_iff_getElem.1 hs
      have:=h.done j (by omega) hj
      rwa [show out.getD j bX=s by rw[List.getD_eq_getElem?_getD,List.getElem?_eq_getElem hj]; exact e] at this⟩
  | f+1,at_,out,h0,hi,he,h,hl,h3=>by
    have hT:=hf.ax
    have hN:=hf.au
    rw[gG] at h3 ⊢
    split
    · rename_i ha
      rw[if_pos ha] at h3
      have hr:=dz.row (hi.ry hf ha).1 (hi.ry hf ha).2 hi (g.ax.length+g.au.length) (by omega)
      have hE:=he.row hf hi ha (g.ax.length+g.au.length) (by omega)
      have hF:=h.row hf hi he ha (g.ax.length+g.au.length) (by omega)
      rw[show (List.range (g.ax.length+g.au.length)).foldl (dt g (c4 g (out.getD at_ bX).bq) at_) out=DD g at_ out (g.ax.length+g.au.length) from rfl] at hr hE hF
      split
      · rename_i hc; rw[if_pos hc] at h3; simp at h3
      · rename_i hc
        rw[if_neg hc] at h3
        exact yV hf f (at_+1) _ (by omega) hr.1.next hE.1 (hF.next hr.1) (by omega) h3
    · rename_i ha
      exact ⟨h.one,h.back,fun s hs=>by
        change s∈out at hs
        obtain ⟨j,hj,e⟩:=List.mem_iff_getElem.1 hs
        have:=h.done j (by omega) hj
        rwa [show out.getD j bX=s by rw[List.getD_eq_getElem?_getD,List.getElem?_eq_getElem hj]; exact e] at this⟩
theorem HN {g:an} (hf:g.dM) (h:(eu g).2=0):C4 g (eu g).1:=by
  unfold eu at h ⊢
  split
  · rename_i hr
    rw[if_pos hr] at h
    refine yV hf 302 0 dR (by omega) qH ⟨rfl,fun s hs e he=>by simp[dR] at hs; subst hs; simp at he⟩ ⟨by simp[dR],fun j h1 h2=>by simp[dR] at h2; omega,fun j h1=>by omega,fun _=>?_⟩ (by simp[dR]) h
    simp[dR,mf]
  · rename_i hr
    rw[if_neg hr] at h
    simp at h
theorem BL (g:an):∀ (f at_:Nat) (out:List bo),(gG g f at_ out).2=0∨gG g f at_ out=([],5)
  | 0,_,_=>.inl rfl
  | f+1,at_,out=>by
    rw[gG]
    split
    · split
      · exact .inr rfl
      · exact BL g f _ _
    · exact .inl rfl
theorem BF (g:an):((eu g).2=0∧isRed g=true)∨(eu g=([],5)∧isRed g=true)∨(eu g=([],1)∧isRed g=false):=by
  unfold eu
  cases h:isRed g with
  | false=>exact .inr (.inr ⟨by simp,rfl⟩)
  | true =>
    rw[if_pos rfl]
    rcases BL g 302 0 dR with h | h
    · exact .inl ⟨h,rfl⟩
    · exact .inr (.inl ⟨h,rfl⟩)
theorem Eo {g:an} (hf:g.dM) {x:aR} (hx:dB g x) {s:Int} (h:ec g x=(s,true)):gX g s=true:=by
  obtain ⟨h1,h2⟩:=xI h
  have hlt:x.dot.toNat < (ef g x.aG).length:=by have:=hx.2; omega
  have hm:s∈ef g x.aG:=by
    rw[← h2,List.getD_eq_getElem?_getD,List.getElem?_eq_getElem hlt]; exact List.getElem_mem _
  unfold ef at hm
  split at hm
  · simp at hm; subst hm
    have:=hf.jo; have:=hf.start
    unfold gX
    rw[if_neg (by omega)]
    simp; omega
  · have hR:g.rules[x.aG.toNat]?=some (dJ g x.aG):=by unfold dJ; exact getD_some (by have:=hx.1; omega)
    exact hf.sym _ (List.mem_of_getElem? hR) s hm
def vG:SF:=⟨.seq (ak [cr 2 0,((some 4),.op (.bg (.val (.emp 1))))]) <|
  .seq (.seq (ak [aa 5 1,ay 6 .eql 5 (-1)]) <|
  .cond (.tmp 6) (.seq (ak [aq 7 3 2,ao 8 7,((some 9),.op (.arith .sub (.val (.val (.int .i64 (-1)))) (.tmp 8))),((some 10),.op (.bD 1 1 [(.val (.int .i64 0))] [(0,(.tmp 9))])),aa 4 10]) <|
  .ret) (.skip)) <|
  .seq (ak [aq 11 2 2,ao 12 11,aa 13 1,aL 14 3 12 13,aq 15 1 14,ao 16 15,aa 4 16]) <|
  .ret,
  [.tmp 4],17⟩
theorem y8:bh Tryz.prog 53 [2]=some vG:=by kernel_rfl
def xH:SF:=⟨.seq (ak [cr 2 0,cr 3 1,aD 4 0,aQ 5 false]) <|
  .seq (.seq (ak [aJ 7 4 2,aq 8 0 3,ao 9 8,aF 10 53 [7,9],aa 6 10]) <|
  .seq (ak [aq 11 1 3,ao 12 11,aa 13 6,aI 14 13,aK 15 .lss 12 14]) <|
  .cond (.tmp 15) (.seq (ak [aa 16 6,aq 17 1 3,ao 18 17,aL 19 1 16 18,ao 20 19,aa 4 20,aQ 5 true]) <|
  .ret) (.skip)) <|
  .seq (ak [aD 4 0,aQ 5 false]) <|
  .ret,
  [.tmp 4,.tmp 5],21⟩
theorem AI:bh Tryz.prog 50 [2,3]=some xH:=by kernel_rfl
def xt:SF:=⟨.seq (ak [cr 2 0,aD 4 0]) <|
  .seq (.seq (ak [aa 5 1,ay 6 .lss 5 0]) <|
  .cond (.tmp 6) (.seq (ak [aq 7 0 2,ao 8 7,aI 9 8,ay 10 .sub 9 1,aa 11 1,aK 12 .sub 10 11,aa 4 12]) <|
  .ret) (.skip)) <|
  .seq (ak [aa 13 1,aa 4 13]) <|
  .ret,
  [.tmp 4],14⟩
theorem AK:bh Tryz.prog 111 [2]=some xt:=by kernel_rfl
def cd:SF:=⟨.seq (ak [((some 2),.op (.bg (.val (.emp 1))))]) <|
  .seq (.seq (ak [aa 3 0,((some 4),.op (.nil true 0 (.tmp 3) (.val (.emp 1))))]) <|
  .cond (.tmp 4) (.seq (ak [((some 2),.op (.bg (.val (.emp 1))))]) <|
  .ret) (.skip)) <|
  .seq (ak [((some 5),.op (.bg (.val (.emp 2)))),aa 6 0,((some 7),.op (.app 2 16 (.tmp 5) (.tmp 6))),aa 2 7]) <|
  .ret,
  [.tmp 2],8⟩
theorem cB:bh Tryz.prog 58 []=some cd:=by kernel_rfl
def qp:SC :=
  .seq (ak [aK 54 .lss 53 52]) <|
  .seq (.cond (.tmp 54) (.skip) (.exit 2)) <|
  .seq (.block 3 (.seq (ak [aa 55 53,aL 56 3 51 53,aJ 57 3 56,((some 11),.op (.alloc [(.val (.int .i64 0)),(.emp 1),(.val (.int .i64 0))])),aa 10 55,(none,.op (.store 3 (.tmp 11) (.tmp 57)))]) <|
  .seq (ak [aq 58 0 11,ao 59 58,aa 60 8,((some 61),.op (.arith .sub (.val (.val (.int .i64 (-1)))) (.tmp 60))),aK 62 .eql 59 61]) <|
  .cond (.tmp 62) (ak [aa 63 5,aa 64 10,((some 65),.op (.build [(.val (.int .i64 0)),(.val (.int .i64 0))] [(0,1,(.tmp 64))])),((some 66),.op (.bD 1 2 [(.val (.int .i64 0)),(.val (.int .i64 0))] [(0,(.tmp 65))])),((some 67),.op (.app 2 16 (.tmp 63) (.tmp 66))),aa 5 67]) (.skip))) <|
  ak [ay 68 .add 53 1,aa 53 68]
def p9:SC :=
  .seq (.seq (ak [aa 18 7,aa 19 5,aI 20 19,aK 21 .lss 18 20]) <|
  .cond (.tmp 21) (.skip) (.exit 0)) <|
  .seq (.block 1 (.seq (ak [aJ 25 4 2,aa 26 5,aa 27 7,aL 28 2 26 27,aJ 29 2 28,aF 30 50 [25,29],aa 24 30,cM 31 0 24,cM 32 1 24,aa 8 31,aa 9 32]) <|
  .seq (.seq (.region false [⟨none,[aa 33 9,bW 34 33,aa 35 34]⟩,⟨(some (35,false)),[aa 36 8,ay 37 .geq 36 0]⟩,⟨none,[bF 38 35 37,aa 39 38]⟩,⟨(some (39,false)),[aa 40 6,aa 41 8,((some 42),.op (.arith .sub (.val (.val (.int .i64 (-1)))) (.tmp 41))),aL 43 1 40 42,ao 44 43]⟩,⟨none,[bF 45 39 44]⟩]) <|
  .cond (.tmp 45) (.exit 1) (.skip)) <|
  .seq (ak [aa 46 6,aa 47 8,((some 48),.op (.arith .sub (.val (.val (.int .i64 (-1)))) (.tmp 47))),aL 49 1 46 48,(none,.op (.store 1 (.tmp 49) (.val (.val (.bool true)))))]) <|
  .seq (ak [aq 50 2 2,ao 51 50,aI 52 51,aD 53 0]) <|
  .block 2 (.loop qp))) <|
  ak [aa 22 7,ay 23 .add 22 1,aa 7 23]
def sZ:SF:=⟨.seq (ak [cr 2 0,((some 4),.op (.bg (.val (.emp 1))))]) <|
  .seq (ak [aa 12 1,aF 13 58 [12],aa 5 13]) <|
  .seq (ak [aq 14 1 2,ao 15 14,aI 16 15,((some 17),.op (.make 1 1 [(.val (.bool false))] (.tmp 16) (.tmp 16))),aa 6 17]) <|
  .seq (.seq (ak [aD 7 0]) <|
  .block 0 (.loop p9)) <|
  .seq (ak [aa 69 5,aF 70 64 [69],aa 4 70]) <|
  .ret,
  [.tmp 4],71⟩
theorem xl:bh Tryz.prog 56 [2]=some sZ:=by kernel_rfl
theorem Jc (g:an) (hs : -100≤g.start∧g.start≤100) (r:Int) (hr : -1≤r∧r < (g.rules.length:Int)):aC Tryz.prog 53 [.agg (aw g),gi r] (encI (ef g r)):=by
  refine aC.of (by
    intro v hv; simp at hv
    rcases hv with rfl | rfl
    · exact dL _ (eM g)
    · exact .val _) ?_
  refine aA.of mixed y8 ?_
  unfold ef
  simp (disch:=omega) only [↓wr,↓reduceIte,wq,ah,ag,aj,ab,ae,af,ai,isNil,Nat.reduceEqDiff,Nat.reduceAdd,Nat.reduceLT,Nat.reduceLeDiff,Int.reduceNeg,Int.reduceToNat,reduceCtorEq,vG,aw,encS]
  refine av.eq (fun h1=>?_) (fun h1=>?_)
  · simp (disch:=omega) only [↓wr,↓reduceIte,wq,ah,ag,aj,ab,ae,af,ai,isNil,Nat.reduceEqDiff,Nat.reduceAdd,Nat.reduceLT,Nat.reduceLeDiff,Int.reduceNeg,Int.reduceToNat,reduceCtorEq,aw,encS]
    intro n
    rw[if_pos h1]
    rintro h' hv
    refine dA.fr (qk (l:=[-1 - g.start]) (.inr ⟨n,rfl,?_⟩))
    rw[hv]; simp[View.set]
  · have hR:g.rules[r.toNat]?=some (dJ g r):=by unfold dJ; exact getD_some (by omega)
    rw[if_neg h1]
    generalize dJ g r=R at hR
    simp (disch:=omega) only [↓wr,↓reduceIte,wq,ah,ag,aj,ab,ae,af,ai,isNil,Nat.reduceEqDiff,Nat.reduceAdd,Nat.reduceLT,Nat.reduceLeDiff,Int.reduceNeg,Int.reduceToNat,reduceCtorEq,aw,encS,List.getElem?_map,hR,Option.map_some,aU]
    intro h' _
    exact .tree _ (gz R.right)
theorem EZ (g:an) (hf:g.dM) (x:aR) (hx:dB g x):aC Tryz.prog 50 [.agg (aw g),.agg (fN x)] (.bk [gi (ec g x).1,gb (ec g x).2]):=by
  have h1:=Jc g (yR hf) x.aG hx.1
  have hl:=gJ hf hx.1
  have hd:=hx.2
  refine aC.tree (by
    intro v hv; simp at hv
    rcases hv with rfl | rfl
    · exact dL _ (eM g)
    · exact dL _ fun v hv=>by simp[fN] at hv; rcases hv with rfl | rfl <;> exact .val _) (.bk _ fun i hi=>by
      match i,hi with
      | 0,_=>exact .val _
      | 1,_=>exact .val _) fun H=>?_
  refine aA.of mixed AI ?_
  simp only[aw,encS,encI] at h1
  unfold ec
  simp (disch:=omega) only [↓wr,↓reduceIte,wq,ah,ag,aj,ab,ae,af,ai,isNil,Nat.reduceEqDiff,Nat.reduceAdd,Nat.reduceLT,Nat.reduceLeDiff,Int.reduceNeg,Int.reduceToNat,reduceCtorEq,xH,aw,encS,fN]
  refine aE.pure h1 (by kernel_rfl) ?_
  generalize ef g x.aG=R at hd hl ⊢
  simp (disch:=omega) only [↓wr,↓reduceIte,wq,ah,ag,aj,ab,ae,af,ai,isNil,Nat.reduceEqDiff,Nat.reduceAdd,Nat.reduceLT,Nat.reduceLeDiff,Int.reduceNeg,Int.reduceToNat,reduceCtorEq,fN]
  refine av.dec (fun h2=>?_) (fun h2=>?_)
  · have hg:R[x.dot.toNat]?=some (R.getD x.dot.toNat 0):=getD_some (by omega)
    simp (disch:=omega) only [↓wr,↓reduceIte,wq,ah,ag,aj,ab,ae,af,ai,isNil,Nat.reduceEqDiff,Nat.reduceAdd,Nat.reduceLT,Nat.reduceLeDiff,Int.reduceNeg,Int.reduceToNat,reduceCtorEq,fN,List.getElem?_map,hg,Option.map_some]
    rw[if_neg (by omega)]
  · simp (disch:=omega) only [↓wr,↓reduceIte,wq,ah,ag,aj,ab,ae,af,ai,isNil,Nat.reduceEqDiff,Nat.reduceAdd,Nat.reduceLT,Nat.reduceLeDiff,Int.reduceNeg,Int.reduceToNat,reduceCtorEq]
    rw[if_pos (by omega)]
theorem K2 (g:an) (hf:g.dM) (s:Int) (hs : -1000≤s∧s≤1000):aC Tryz.prog 111 [.agg (aw g),gi s] (gi (lN g s)):=by
  have hT:=hf.ax
  refine aC.val (by
    intro v hv; simp at hv
    rcases hv with rfl | rfl
    · exact dL _ (eM g)
    · exact .val _) fun H=>?_
  refine aA.of mixed AK ?_
  unfold lN
  simp (disch:=omega) only [↓wr,↓reduceIte,wq,ah,ag,aj,ab,ae,af,ai,isNil,Nat.reduceEqDiff,Nat.reduceAdd,Nat.reduceLT,Nat.reduceLeDiff,Int.reduceNeg,Int.reduceToNat,reduceCtorEq,xt,aw,encS]
  refine av.dec (fun h1=>?_) (fun h1=>?_)
  · simp (disch:=omega) only [↓wr,↓reduceIte,wq,ah,ag,aj,ab,ae,af,ai,isNil,Nat.reduceEqDiff,Nat.reduceAdd,Nat.reduceLT,Nat.reduceLeDiff,Int.reduceNeg,Int.reduceToNat,reduceCtorEq,aw]
    rw[if_pos h1]
  · simp (disch:=omega) only [↓wr,↓reduceIte,wq,ah,ag,aj,ab,ae,af,ai,isNil,Nat.reduceEqDiff,Nat.reduceAdd,Nat.reduceLT,Nat.reduceLeDiff,Int.reduceNeg,Int.reduceToNat,reduceCtorEq]
    rw[if_neg h1]
theorem bA.O1 {P:Program} {f:FuncId} {h:aB} {u:V} (hu:∀ Z μ hp x,az Z μ hp u x→∃ a cap,x=.slice a 0 cap∧(a=none→cap=0)) (h1:bA P f [.emp 1] h (.emp 1) h) (h2:bA P f [.emp 2] h (.emp 2) h) (h3:bA P f [.dc] h (.emp 2) h):bA P f [u] h (.emp 0) h:=by
  refine ⟨Nat.le_refl _,fun Z μ F w xs hrel hr hfree=>?_⟩
  obtain ⟨hl,hv⟩:=hrel
  obtain ⟨x,rfl⟩:∃ x,xs=[x]:=by
    match xs,hl with
    | [x],_=>exact ⟨x,rfl⟩
  have h0:az Z μ w.heap u x:=hv 0 (by simp)
  have one:∀ v,az Z μ w.heap v x→dT Z μ w.heap [v] [x]:=fun v h=>⟨rfl,fun i hi=>by
    simp at hi; subst hi; exact h⟩
  have weak:∀ k,bA P f [if k=3 then .dc else .emp k] h (if k=3 then .emp 2 else .emp k) h→az Z μ w.heap (if k=3 then .dc else .emp k) x→Calls P f [x].toArray w fun e w'=>∃ x Z' μ',e=.returned x∧az Z' μ' w'.heap (.emp 0) x∧fS Z' μ' w'.heap (cat h F)∧Ext Z μ w h.length Z' μ' w'∧(∀ id,id < h.length∨h.length≤id→μ' id=μ id):=by
    intro k hk hx
    refine (hk.2 Z μ F w [x] (one _ hx) hr hfree).mono ?_
    rintro e w' ⟨y,Z',μ',rfl,hy,rest⟩
    refine ⟨y,Z',μ',rfl,?_,rest⟩
    have:∀ k',az Z' μ' w'.heap (.emp k') y→az Z' μ' w'.heap (.emp 0) y:=fun k' h=>by
      cases h with | emp _ a _ _=>exact .emp 0 a (by simp) (by simp)
    split at hy <;> exact this _ hy
  obtain ⟨a,cap,rfl,hz⟩:=hu Z μ w.heap x h0
  cases a with
  | none =>
    have:=hz rfl
    subst this
    exact weak 1 (by simpa using h1) (.emp 1 none (by simp) (by simp))
  | some a =>
    cases cap with
    | zero=>exact weak 2 (by simpa using h2) (.emp 2 (some a) (by simp) (by simp))
    | succ c=>exact weak 3 (by simpa using h3) (.dc a (c+1))
theorem Ki {Z:Nat→Prop} {μ:Mu} {hp:Array Obj} {k:Nat} {x:Value} (h:az Z μ hp (.emp k) x):∃ a cap,x=.slice a 0 cap∧(a=none→cap=0):=by
  cases h with | emp _ a _ _=>exact ⟨a,0,rfl,fun _=>rfl⟩
theorem KC {Z:Nat→Prop} {μ:Mu} {hp:Array Obj} {id off esz:Nat} {x:Value} (h:az Z μ hp (.sl id off 0 esz) x):∃ a cap,x=.slice a 0 cap∧(a=none→cap=0):=by
  rcases DL h with ⟨_,a,e⟩ | ⟨b,o0,cap,c,e,f,e2,_⟩
  · exact ⟨a,0,e,fun _=>rfl⟩
  · exact ⟨_,cap,e2,fun h=>by simp at h⟩
theorem Fk (u:V) (hu:∀ Z μ hp x,az Z μ hp u x→∃ a cap,x=.slice a 0 cap∧(a=none→cap=0)) (h:aB):bA Tryz.prog 58 [u] h (.emp 0) h:=by
  have hp:∀ v t,Tree v→Tree t→(∀ H,aA Tryz.prog 58 [v] H fun r _=>r=t)→aC Tryz.prog 58 [v] t:=fun v t hv ht h=>aC.tree (by intro x hx; simp at hx; subst hx; exact hv) ht h
  have h1:=hp (.emp 1) (.emp 1) (.emp 1) (.emp 1) (fun H=>by
    refine aA.of mixed cB ?_
    simp (disch:=omega) only [↓wr,↓reduceIte,wq,ah,ag,aj,ab,ae,af,ai,isNil,Nat.reduceEqDiff,Nat.reduceAdd,Nat.reduceLT,Nat.reduceLeDiff,Int.reduceNeg,Int.reduceToNat,reduceCtorEq,cd])
  have h2:=hp (.emp 2) (.emp 2) (.emp 2) (.emp 2) (fun H=>by
    refine aA.of mixed cB ?_
    simp (disch:=omega) only [↓wr,↓reduceIte,wq,ah,ag,aj,ab,ae,af,ai,isNil,Nat.reduceEqDiff,Nat.reduceAdd,Nat.reduceLT,Nat.reduceLeDiff,Int.reduceNeg,Int.reduceToNat,reduceCtorEq,cd,gF,List.isEmpty_nil])
  have h3:=hp .dc (.emp 2) .dc (.emp 2) (fun H=>by
    refine aA.of mixed cB ?_
    simp (disch:=omega) only [↓wr,↓reduceIte,wq,ah,ag,aj,ab,ae,af,ai,isNil,Nat.reduceEqDiff,Nat.reduceAdd,Nat.reduceLT,Nat.reduceLeDiff,Int.reduceNeg,Int.reduceToNat,reduceCtorEq,cd,nA,gF,List.isEmpty_nil])
  exact bA.O1 hu (bA.eX h1 h) (bA.eX h2 h) (bA.eX h3 h)
set_option maxHeartbeats 2000000 in
theorem Hd (l:List aR) (hl:l.length≤100000) (u:V) (H:View) (ho:aW H u 2 (bE l)):aA Tryz.prog 58 [u] H fun r H'=>aW H' r 2 (bE l)∧cL H H' r:=by
  cases l with
  | nil =>
    refine ⟨by kernel_rfl,?_⟩
    rintro h rfl
    refine ⟨.emp 0,h,Fk u (fun Z μ hp x hx=>?_) h,.refl _,.nil,.emp⟩
    rcases ho with ⟨_,k,rfl⟩ | ⟨n,rfl,_⟩
    · exact Ki hx
    · exact KC hx
  | cons x r =>
    obtain ⟨id,hu,hid⟩:=ho.sl (by rw[bC]; simp)
    subst hu
    refine aA.of mixed cB ?_
    have he:=pk (H:=H) id 0 r.length 2 2 (bE (x :: r)) hid (by rw[bC]; simp)
    rw[List.drop_zero,List.take_of_length_le (by rw[bC]; simp)] at he
    simp only[List.length_cons] at hl
    have hlen:(bE (x :: r)).length=r.length+1:=by rw[bC]; rfl
    rw[hlen]
    simp (disch:=omega) only [↓wr,↓reduceIte,wq,ah,ag,aj,ab,ae,af,ai,isNil,Nat.reduceEqDiff,Nat.reduceAdd,Nat.reduceLT,Nat.reduceLeDiff,Int.reduceNeg,Int.reduceToNat,reduceCtorEq,cd,he]
    refine qJ (es:=[]) (.inl ⟨rfl,2,rfl⟩) (by simp[bE,fN,List.all_map,aP]) (by unfold aN; rw[hlen]; simp; omega) (by unfold aN; rw[hlen]; simp; omega) ?_
    intro u2 H2 o2 l2
    simp (disch:=omega) only [↓wr,↓reduceIte,wq,ah,ag,aj,ab,ae,af,ai,isNil,Nat.reduceEqDiff,Nat.reduceAdd,Nat.reduceLT,Nat.reduceLeDiff,Int.reduceNeg,Int.reduceToNat,reduceCtorEq]
    refine ⟨by simpa using o2,fun j hj=>?_⟩
    exact l2 j hj (by simp[owner])
def cR (ks:List Nat):List aR:=ks.map fun (k:Nat)=>(⟨k,0⟩:aR)
theorem vA {ks:List Nat} {n:Nat} (h:ks.Nodup) (hk:∀ k∈ks,k < n):ks.length≤n:=by
  have:=kW ks (List.range n) h fun x hx=>List.mem_range.2 (hk x hx)
  simpa using this
theorem vE {l:List Bool} {i:Nat} (h:i < l.length):(bV l).getD i []=[gb (l.getD i false)]:=by
  simp[List.getD_eq_getElem?_getD,h]
structure Kp (g:an) (l:List aR) (H H':View) (i:Nat) (r su:V) (ks:List Nat) (seen:List Bool):Prop where
  own:bc H' [(r,2,bE (l ++ cR ks)),(su,1,bV seen)]
  f1:cL H H' r
  f2:cL H H' su
  nd:ks.Nodup
  kl:∀ k∈ks,k < g.rules.length
  sl:seen.length=g.au.length
  s1:∀ (n k:Nat) (R:aM),seen.getD n false=true→g.rules[k]?=some R→R.left=n→k∈ks
  s2:∀ (k:Nat) (R:aM),k∈ks→g.rules[k]?=some R→seen.getD R.left.toNat false=true
  cl:∀ x∈l ++ cR ks,pQ g l x
  dn:∀ (j:Nat) (x:aR) (s:Int),j < i→(l ++ cR ks)[j]?=some x→ec g x=(s,true)→s < 0→seen.getD (-1 - s).toNat false=true
  il:i≤(l ++ cR ks).length
theorem Kp.len {g:an} {l:List aR} {H H':View} {i:Nat} {r su:V} {ks:List Nat} {seen:List Bool} (h:Kp g l H H' i r su ks seen):ks.length≤g.rules.length∧(l ++ cR ks).length=l.length+ks.length:=by
  refine ⟨vA h.nd h.kl,by simp[cR]⟩
def PY (g:an) (l:List aR) (H:View) (m:Nat) (T:Env) (H':View):Prop:=∃ (i:Nat) (r su:V) (ks:List Nat) (seen:List Bool),m=l.length+g.rules.length - i∧Kp g l H H' i r su ks seen∧T 2=.aO (aw g) 0∧T 5=r∧T 6=su∧T 7=gi i
set_option maxHeartbeats 16000000 in
theorem Fv (g:an) (hf:g.dM) (l:List aR) (hl:∀ x∈l,dB g x) (hn:l.length≤10000) (u:V) (H:View) (ho:aW H u 2 (bE l)):aA Tryz.prog 56 [.agg (aw g),u] H fun r H'=>aW H' r 2 (bE (c4 g l))∧cL H H' r:=by
  refine aA.of mixed xl ?_
  have hru:=hf.rules
  have hno:=hf.au
  simp (disch:=omega) only [↓wr,↓reduceIte,wq,ah,ag,aj,ab,ae,af,ai,isNil,Nat.reduceEqDiff,Nat.reduceAdd,Nat.reduceLT,Nat.reduceLeDiff,Int.reduceNeg,Int.reduceToNat,reduceCtorEq,sZ,aw,encS]
  refine aE.oO ((Hd l (by omega) u H ho).mono ?_)
  rintro r H1 ⟨o1,f1⟩
  simp (disch:=omega) only [↓wr,↓reduceIte,wq,ah,ag,aj,ab,ae,af,ai,isNil,Nat.reduceEqDiff,Nat.reduceAdd,Nat.reduceLT,Nat.reduceLeDiff,Int.reduceNeg,Int.reduceToNat,reduceCtorEq,aw,encS]
  refine ⟨⟨Nat.le_refl _,by unfold aN; omega,by unfold aN; omega⟩,fun h0=>?_,fun h0 q hq=>?_⟩
  · exact absurd (by have:=hf.q8; omega) (show ¬ g.au.length=0 by have:=hf.q8; omega)
  have hst:Kp g l H (H1.set q (.arr 1 (List.replicate g.au.length [gb false]))) 0 r (.sl q 0 g.au.length 1) [] (List.replicate g.au.length false):=by
    have e:List.replicate g.au.length [gb false]=bV (List.replicate g.au.length false):=by simp
    have hr1:bc H1 [(r,2,bE l)]:=⟨fun x hx=>by simp at hx; subst hx; exact o1,by
      cases hr:owner r <;> simp[List.filterMap_cons,hr]⟩
    have hqd:H q=.dead∨H q≠.dead:=by cases H q <;> simp
    have hqH:H q=.dead:=by
      rcases hqd with h | h
      · exact h
      · have:=(f1 q h).1; rw[hq] at this; exact absurd this.symm h
    refine ⟨?_,fun id hid=>?_,fun id hid=>?_,.nil,by simp,by simp,fun n k R h=>?_,by simp,fun x hx=>.base (by simpa [cR] using hx),fun j x s h=>by omega,Nat.zero_le _⟩
    · have h2:=(hr1.new hq 1 (List.replicate g.au.length [gb false])).perm (.swap _ _ _)
      rw[List.length_replicate] at h2
      rw[e] at h2 ⊢
      simpa [cR] using h2
    · have hne:id≠q:=by rintro rfl; exact hid hqH
      exact ⟨by simp only[View.set]; rw[if_neg hne]; exact (f1 id hid).1,(f1 id hid).2⟩
    · have hne:id≠q:=by rintro rfl; exact hid hqH
      exact ⟨by simp only[View.set]; rw[if_neg hne]; exact (f1 id hid).1,by simp[owner,Ne.symm hne]⟩
    · simp only[List.getD_eq_getElem?_getD,List.getElem?_replicate] at h
      split at h <;> simp at h
  generalize H1.set q (.arr 1 (List.replicate g.au.length [gb false]))=H2 at hst ⊢
  refine bw.intro (PY g l H) (l.length+g.rules.length) ⟨0,r,_,[],_,by omega,hst,rfl,rfl,rfl,rfl⟩ ?_
  clear hst o1 f1 hq
  rintro m T H' ⟨i,r,su,ks,seen,rfl,hI,t2,t5,t6,t7⟩
  obtain ⟨hk1,hk2⟩:=hI.len
  have hlr:cT r=some (l ++ cR ks).length:=by rw[hI.own.head.len,bC]
  simp (disch:=omega) only [↓wr,↓reduceIte,wq,ah,ag,aj,ab,ae,af,ai,isNil,Nat.reduceEqDiff,Nat.reduceAdd,Nat.reduceLT,Nat.reduceLeDiff,Int.reduceNeg,Int.reduceToNat,reduceCtorEq,p9,t2,t5,t6,t7,hlr]
  refine av.dec (fun hc=>?_) (fun hc=>?_)
  rotate_left
  ·
    have hi:i=(l ++ cR ks).length:=by have:=hI.il; omega
    simp (disch:=omega) only [↓wr,↓reduceIte,wq,ah,ag,aj,ab,ae,af,ai,isNil,Nat.reduceEqDiff,Nat.reduceAdd,Nat.reduceLT,Nat.reduceLeDiff,Int.reduceNeg,Int.reduceToNat,reduceCtorEq,t5]
    refine aE.oO ((Gt (l ++ cR ks) (by omega) r H' hI.own.head).mono ?_)
    rintro r2 H3 ⟨k3,o3,e3⟩
    simp (disch:=omega) only [↓wr,↓reduceIte,wq,ah,ag,aj,ab,ae,af,ai,isNil,Nat.reduceEqDiff,Nat.reduceAdd,Nat.reduceLT,Nat.reduceLeDiff,Int.reduceNeg,Int.reduceToNat,reduceCtorEq]
    have hcl:c4 g l=wU (l ++ cR ks):=Ld hf hl (Ah _) (fun x hx=>hI.cl x (om.1 hx)) (fun x hx=>om.2 (by simp[hx])) (fun x hx s k R h1 h2 h3 h4=>by
      obtain ⟨j,hj,e⟩:=List.mem_iff_getElem.1 (om.1 hx)
      have h5:=hI.dn j x s (by omega) (by rw[List.getElem?_eq_getElem hj,e]) h1 h2
      have h6:=hI.s1 _ k R h5 h3 (by omega)
      exact om.2 (List.mem_append_right _ (List.mem_map.2 ⟨k,h6,rfl⟩)))
    rw[hcl]
    refine ⟨o3,fun id hid=>?_⟩
    obtain ⟨q1,q2⟩:=hI.f1 id hid
    exact ⟨by rw[k3 id q2,q1],by rw[e3]; exact q2⟩
  have hx:(l ++ cR ks)[i]?=some ((l ++ cR ks)[i]'(by omega)):=List.getElem?_eq_getElem (by omega)
  have hxm:=List.getElem_mem (show i < (l ++ cR ks).length by omega)
  have hdn:=hI.dn
  generalize (l ++ cR ks)[i]'(by omega)=x at hx hxm
  have hxC:=hI.cl x hxm
  have hxH:=hxC.has hl
  have h1:=EZ g hf x hxH
  cases hny:ec g x with
  | mk s okb =>
  have hsb:=zW hf hxH hny
  rw[hny] at h1
  obtain ⟨id,hu,hid⟩:=hI.own.head.sl (by rw[bC]; omega)
  simp only at hu hid
  rw[bC] at hu
  simp only[aw,encS,fN] at h1
  simp (disch:=omega) only [↓wr,↓reduceIte,wq,ah,ag,aj,ab,ae,af,ai,isNil,Nat.reduceEqDiff,Nat.reduceAdd,Nat.reduceLT,Nat.reduceLeDiff,Int.reduceNeg,Int.reduceToNat,reduceCtorEq,t2,t5,t6,t7,hu,hid,z1 hx,aw,encS]
  refine ⟨by omega,by rw[bC]; omega,?_⟩
  refine aE.pure h1 (by kernel_rfl) ?_
  have skip:(okb=true→s < 0→seen.getD (-1 - s).toNat false=true)→Kp g l H H' (i+1) r su ks seen:=fun h =>
    ⟨hI.own,hI.f1,hI.f2,hI.nd,hI.kl,hI.sl,hI.s1,hI.s2,hI.cl,fun j y t hj hy hn h0=>by
      rcases Nat.lt_or_ge j i with q | q
      · exact hI.dn j y t q hy hn h0
      · have:j=i:=by omega
        subst this
        rw[hx] at hy
        simp only[Option.some.injEq] at hy
        subst hy
        rw[hny] at hn
        simp only[Prod.mk.injEq] at hn
        obtain ⟨rfl,rfl⟩:=hn
        exact h rfl h0,by omega⟩
  cases okb with
  | false =>
    simp (disch:=omega) only [↓wr,↓reduceIte,wq,ah,ag,aj,ab,ae,af,ai,isNil,Nat.reduceEqDiff,Nat.reduceAdd,Nat.reduceLT,Nat.reduceLeDiff,Int.reduceNeg,Int.reduceToNat,reduceCtorEq,t2,t5,t6,t7]
    exact ⟨l.length+g.rules.length - (i+1),by omega,i+1,r,su,ks,seen,rfl,skip (by simp),t2,by rw[← hu]; exact t5,t6,rfl⟩
  | true =>
  simp (disch:=omega) only [↓wr,↓reduceIte,wq,ah,ag,aj,ab,ae,af,ai,isNil,Nat.reduceEqDiff,Nat.reduceAdd,Nat.reduceLT,Nat.reduceLeDiff,Int.reduceNeg,Int.reduceToNat,reduceCtorEq]
  refine av.dec (fun h0=>?_) (fun h0=>?_)
  · simp (disch:=omega) only [↓wr,↓reduceIte,wq,ah,ag,aj,ab,ae,af,ai,isNil,Nat.reduceEqDiff,Nat.reduceAdd,Nat.reduceLT,Nat.reduceLeDiff,Int.reduceNeg,Int.reduceToNat,reduceCtorEq,t2,t5,t6,t7]
    exact ⟨l.length+g.rules.length - (i+1),by omega,i+1,r,su,ks,seen,rfl,skip (fun _ h=>by omega),t2,by rw[← hu]; exact t5,t6,rfl⟩
  have hG:=Eo hf hxH hny
  have hnl:(-1 - s).toNat < g.au.length:=by
    unfold gX at hG
    rw[if_neg (by omega)] at hG
    simp at hG; omega
  obtain ⟨id2,hu2,hid2⟩:=hI.own.tail.head.sl (by simp[hI.sl]; omega)
  simp only at hu2 hid2
  rw[List.length_map,hI.sl] at hu2
  have hsn:(-1 - s).toNat < seen.length:=by rw[hI.sl]; exact hnl
  simp (disch:=omega) only [↓wr,↓reduceIte,wq,ah,ag,aj,ab,ae,af,ai,isNil,Nat.reduceEqDiff,Nat.reduceAdd,Nat.reduceLT,Nat.reduceLeDiff,Int.reduceNeg,Int.reduceToNat,reduceCtorEq,t6,hu2,hid2,vE hsn]
  refine ⟨by omega,by simp[hI.sl]; omega,?_⟩
  refine av.split (fun h2=>?_) (fun h2=>?_)
  · simp (disch:=omega) only [↓wr,↓reduceIte,wq,ah,ag,aj,ab,ae,af,ai,isNil,Nat.reduceEqDiff,Nat.reduceAdd,Nat.reduceLT,Nat.reduceLeDiff,Int.reduceNeg,Int.reduceToNat,reduceCtorEq,t2,t5,t6,t7]
    exact ⟨l.length+g.rules.length - (i+1),by omega,i+1,r,su,ks,seen,rfl,skip (fun _ _=>h2),t2,by rw[← hu]; exact t5,by rw[← hu2]; exact t6,rfl⟩
  obtain ⟨n,hn⟩:∃ n:Nat,-1 - s=(n:Int):=⟨(-1 - s).toNat,by omega⟩
  have hnn:(-1 - s).toNat=n:=by omega
  rw[hnn] at hnl hsn h2
  have hse:(bV seen).set n [gb true]=bV (seen.set n true):=by simp[List.map_set]
  simp (disch:=omega) only [↓wr,↓reduceIte,wq,ah,ag,aj,ab,ae,af,ai,isNil,Nat.reduceEqDiff,Nat.reduceAdd,Nat.reduceLT,Nat.reduceLeDiff,Int.reduceNeg,Int.reduceToNat,reduceCtorEq,t2,t5,t6,t7,hu2,hid2,aw,encS,hn,vE hsn,hse]
  refine ⟨by omega,by simp[hI.sl]; omega,?_⟩
  have hsg:∀ m,(seen.set n true).getD m false=if n=m then true else seen.getD m false:=fun m=>by
    rw[nN]
    by_cases e:n=m
    · rw[if_pos ⟨e,hsn⟩,if_pos e]
    · rw[if_neg (fun h=>e h.1),if_neg e]
  have o2:bc (H'.set id2 (.arr 1 (bV (seen.set n true)))) [(r,2,bE (l ++ cR ks)),(su,1,bV (seen.set n true))]:=by
    have h3:=hI.own.perm (.swap _ _ _)
    rw[hu2] at h3 ⊢
    exact (h3.put (es':=bV (seen.set n true)) (by simp) (by simp[hI.sl])).perm (.swap _ _ _)
  have hdead:∀ id,H id≠.dead→id≠id2:=fun id hid e=>by
    have:=(hI.f2 id hid).2
    rw[hu2,e] at this
    exact this rfl
  have f1':cL H (H'.set id2 (.arr 1 (bV (seen.set n true)))) r:=fun id hid=>⟨by simp only[View.set]; rw[if_neg (hdead id hid)]; exact (hI.f1 id hid).1,(hI.f1 id hid).2⟩
  have f2':cL H (H'.set id2 (.arr 1 (bV (seen.set n true)))) su:=fun id hid=>⟨by simp only[View.set]; rw[if_neg (hdead id hid)]; exact (hI.f2 id hid).1,(hI.f2 id hid).2⟩
  generalize H'.set id2 (.arr 1 (bV (seen.set n true)))=H4 at o2 f1' f2' ⊢
  refine bw.up g.rules.length (fun k T H5=>∃ (r2:V) (ks2:List Nat),ks2=ks ++ (List.range k).filter (fun (q:Nat)=>decide ((dJ g q).left=n))∧bc H5 [(r2,2,bE (l ++ cR ks2)),(su,1,bV (seen.set n true))]∧cL H H5 r2∧cL H H5 su ∧
    T 2=.aO (aw g) 0∧T 5=r2∧T 6=su∧T 7=gi i∧T 8=gi s∧T 51=.aV (g.rules.map aU)∧T 52=gi g.rules.length∧T 53=gi k) ⟨r,ks,by simp,o2,f1',f2',t2,by rw[← hu]; exact t5,by rw[← hu2]; exact t6,t7,rfl,rfl,rfl,rfl⟩ ?_
  clear t2 t5 t6 t7 o2 f1' f2'
  rintro k j T5 H5 hk ⟨r2,ks2,hks,o5,f5,g5,t2,t5,t6,t7,t8,t51,t52,t53⟩
  have hdis:∀ q,q∈ks→¬ (dJ g q).left=n:=fun q hq e=>by
    have hR:g.rules[q]?=some (dJ g q):=by unfold dJ; exact getD_some (hI.kl q hq)
    have:=hI.s2 q _ hq hR
    rw[e] at this
    simp only[Int.toNat_natCast] at this
    rw[h2] at this; simp at this
  have hnd2:ks2.Nodup:=by
    rw[hks,List.nodup_append]
    refine ⟨hI.nd,(List.nodup_range).filter _,fun a ha b hb e=>?_⟩
    subst e
    exact hdis a ha (by simpa using (List.mem_filter.1 hb).2)
  simp (disch:=omega) only [↓wr,↓reduceIte,wq,ah,ag,aj,ab,ae,af,ai,isNil,Nat.reduceEqDiff,Nat.reduceAdd,Nat.reduceLT,Nat.reduceLeDiff,Int.reduceNeg,Int.reduceToNat,reduceCtorEq,qp,t2,t5,t6,t7,t8,t51,t52,t53]
  refine av.dec (fun hc5=>?_) (fun hc5=>?_)
  · have hR:g.rules[k]?=some (dJ g k):=by unfold dJ; exact getD_some (by omega)
    have hkl2:∀ q∈ks2,q < g.rules.length:=fun q hq=>by
      rw[hks] at hq
      rcases List.mem_append.1 hq with h | h
      · exact hI.kl q h
      · have:=List.mem_range.1 (List.mem_filter.1 h).1; omega
    have hl2:=vA hnd2 hkl2
    have hstep:ks ++ (List.range (k+1)).filter (fun (q:Nat)=>decide ((dJ g q).left=n))=if (dJ g k).left=n then ks2 ++ [k] else ks2:=by
      rw[List.range_succ,List.filter_append,← List.append_assoc,← hks]
      by_cases e:(dJ g k).left=n <;> simp[e]
    generalize dJ g k=R at hR hstep
    simp (disch:=omega) only [↓wr,↓reduceIte,wq,ah,ag,aj,ab,ae,af,ai,isNil,Nat.reduceEqDiff,Nat.reduceAdd,Nat.reduceLT,Nat.reduceLeDiff,Int.reduceNeg,Int.reduceToNat,reduceCtorEq,t2,t5,t6,t7,t8,t51,t52,t53,List.getElem?_map,hR,Option.map_some,aU]
    intro q hq
    rw[set_set]
    have hqq:(H5.set q (.arr 3 [[gi R.left,encI R.right,gi R.prec]])) q=.arr 3 [[gi R.left,encI R.right,gi R.prec]]:=by simp[View.set]
    have hqH:∀ id,H id≠.dead→id≠q:=fun id hid e=>by
      have:=(f5 id hid).1
      rw[e,hq] at this
      exact hid (by rw[e]; exact this.symm)
    have o6:=o5.fresh (o:=.arr 3 [[gi R.left,encI R.right,gi R.prec]]) hq
    have f6:cL H (H5.set q (.arr 3 [[gi R.left,encI R.right,gi R.prec]])) r2:=fun id hid=>⟨by simp only[View.set]; rw[if_neg (hqH id hid)]; exact (f5 id hid).1,(f5 id hid).2⟩
    have g6:cL H (H5.set q (.arr 3 [[gi R.left,encI R.right,gi R.prec]])) su:=fun id hid=>⟨by simp only[View.set]; rw[if_neg (hqH id hid)]; exact (g5 id hid).1,(g5 id hid).2⟩
    generalize H5.set q (.arr 3 [[gi R.left,encI R.right,gi R.prec]])=H6 at hqq o6 f6 g6
    clear o5 f5 g5 hq hqH
    simp (disch:=omega) only [↓wr,↓reduceIte,wq,ah,ag,aj,ab,ae,af,ai,isNil,Nat.reduceEqDiff,Nat.reduceAdd,Nat.reduceLT,Nat.reduceLeDiff,Int.reduceNeg,Int.reduceToNat,reduceCtorEq,t2,t5,t6,t7,t8,hqq,hn]
    refine ⟨rfl,?_⟩
    refine av.eq (fun he=>?_) (fun he=>?_)
    · simp (disch:=omega) only [↓wr,↓reduceIte,wq,ah,ag,aj,ab,ae,af,ai,isNil,Nat.reduceEqDiff,Nat.reduceAdd,Nat.reduceLT,Nat.reduceLeDiff,Int.reduceNeg,Int.reduceToNat,reduceCtorEq,t2,t5,t6,t7,t8]
      intro q2 hq2
      simp (disch:=omega) only [↓wr,↓reduceIte,wq,ah,ag,aj,ab,ae,af,ai,isNil,Nat.reduceEqDiff,Nat.reduceAdd,Nat.reduceLT,Nat.reduceLeDiff,Int.reduceNeg,Int.reduceToNat,reduceCtorEq,dp]
      have hqH2:∀ id,H id≠.dead→id≠q2:=fun id hid e=>by
        have:=(f6 id hid).1
        rw[e,hq2] at this
        exact hid (by rw[e]; exact this.symm)
      refine dU (o6.fresh hq2) (by simp[aP]) (by unfold aN; rw[bC]; simp[cR]; omega) (by unfold aN; rw[bC]; simp[cR]; omega) ?_
      intro r3 H7 o7 l7
      simp (disch:=omega) only [↓wr,↓reduceIte,wq,ah,ag,aj,ab,ae,af,ai,isNil,Nat.reduceEqDiff,Nat.reduceAdd,Nat.reduceLT,Nat.reduceLeDiff,Int.reduceNeg,Int.reduceToNat,reduceCtorEq,t2,t6,t7,t8,t51,t52,t53]
      rw[if_pos he] at hstep
      have f7:∀ v,cL H H6 v→(∀ id,owner v=some id→owner r2≠some id∧owner r3≠some id)→cL H H7 v:=fun v hv hvo id hid=>by
        obtain ⟨e1,e2⟩:=hv id hid
        obtain ⟨k1,k2⟩:=l7 id (by simp only[View.set]; rw[if_neg (hqH2 id hid),e1]; exact hid) (f6 id hid).2
        refine ⟨?_,e2⟩
        rw[k1]
        simp only[View.set]
        rw[if_neg (hqH2 id hid),e1]
      have f8:cL H H7 r3:=fun id hid=>by
        obtain ⟨e1,e2⟩:=f6 id hid
        obtain ⟨k1,k2⟩:=l7 id (by simp only[View.set]; rw[if_neg (hqH2 id hid),e1]; exact hid) e2
        refine ⟨?_,k2⟩
        rw[k1]
        simp only[View.set]
        rw[if_neg (hqH2 id hid),e1]
      refine bt hk (by omega) ⟨r3,ks2 ++ [k],hstep.symm,?_,f8,fun id hid=>⟨(f8 id hid).1,(g6 id hid).2⟩,t2,rfl,t6,t7,t8,t51,t52,rfl⟩
      have e1:bE (l ++ cR (ks2 ++ [k]))=bE (l ++ cR ks2) ++ [[gi k,gi 0]]:=by simp[bE,cR,fN]
      rw[e1]
      exact o7
    · simp (disch:=omega) only [↓wr,↓reduceIte,wq,ah,ag,aj,ab,ae,af,ai,isNil,Nat.reduceEqDiff,Nat.reduceAdd,Nat.reduceLT,Nat.reduceLeDiff,Int.reduceNeg,Int.reduceToNat,reduceCtorEq,t2,t5,t6,t7,t8,t51,t52,t53]
      rw[if_neg he] at hstep
      exact bt hk (by omega) ⟨r2,ks2,hstep.symm,o6,f6,g6,t2,t5,t6,t7,t8,t51,t52,rfl⟩
  · have hke:k=g.rules.length:=by omega
    subst hke
    simp (disch:=omega) only [↓wr,↓reduceIte,wq,ah,ag,aj,ab,ae,af,ai,isNil,Nat.reduceEqDiff,Nat.reduceAdd,Nat.reduceLT,Nat.reduceLeDiff,Int.reduceNeg,Int.reduceToNat,reduceCtorEq,t2,t5,t6,t7]
    have hmem:∀ q,q∈ks2↔q∈ks∨(q < g.rules.length∧(dJ g q).left=n):=fun q=>by
      rw[hks,List.mem_append,List.mem_filter,List.mem_range,decide_eq_true_eq]
    have hRD:∀ (q:Nat) (R:aM),g.rules[q]?=some R→dJ g q=R:=fun q R h=>by
      unfold dJ
      rw[Int.toNat_natCast,List.getD_eq_getElem?_getD,h]; rfl
    have hpre:∀ (j:Nat),j≤i→(l ++ cR ks2)[j]?=(l ++ cR ks)[j]?:=fun j hj=>by
      rw[hks,cR,List.map_append,← List.append_assoc]
      exact List.getElem?_append_left (by simp only[cR] at hc; omega)
    refine ⟨l.length+g.rules.length - (i+1),by omega,i+1,r2,su,ks2,seen.set n true,rfl,⟨o5,f5,g5,hnd2,fun q hq=>?_,by rw[List.length_set]; exact hI.sl,fun m q R h3 h4 h5=>?_,fun q R h3 h4=>?_,fun y hy=>?_,fun j y t hj hy hn2 h0=>?_,?_⟩,t2,t5,t6,rfl⟩
    · rcases (hmem q).1 hq with h | h
      · exact hI.kl q h
      · exact h.1
    · rw[hsg] at h3
      split at h3
      · rename_i e
        subst e
        exact (hmem q).2 (.inr ⟨(List.getElem?_eq_some_iff.1 h4).1,by rw[hRD q R h4]; exact h5⟩)
      · exact (hmem q).2 (.inl (hI.s1 m q R h3 h4 h5))
    · rw[hsg]
      rcases (hmem q).1 h3 with h | h
      · split
        · rfl
        · exact hI.s2 q R h h4
      · rw[hRD q R h4] at h
        rw[h.2,Int.toNat_natCast,if_pos rfl]
    · rcases List.mem_append.1 hy with h | h
      · exact hI.cl y (List.mem_append_left _ h)
      · obtain ⟨q,hq,rfl⟩:=List.mem_map.1 h
        rcases (hmem q).1 hq with h | h
        · exact hI.cl _ (List.mem_append_right _ (List.mem_map.2 ⟨q,h,rfl⟩))
        · have hR:g.rules[q]?=some (dJ g q):=by unfold dJ; exact getD_some h.1
          exact .step hxC hny (by omega) hR (by rw[h.2,hn])
    · rw[hpre j (by omega)] at hy
      rw[hsg]
      rcases Nat.lt_or_ge j i with q | q
      · split
        · rfl
        · exact hI.dn j y t q hy hn2 h0
      · have:j=i:=by omega
        subst this
        rw[hx] at hy
        simp only[Option.some.injEq] at hy
        subst hy
        rw[hny] at hn2
        simp only[Prod.mk.injEq,and_true] at hn2
        subst hn2
        rw[hnn,if_pos rfl]
    · rw[hks,cR,List.map_append,← List.append_assoc,List.length_append]
      simp only[cR] at hc
      omega
end Gv
