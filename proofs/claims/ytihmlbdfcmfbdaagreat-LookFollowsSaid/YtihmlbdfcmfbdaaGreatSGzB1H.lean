/-
  Part 8 of the proof: what the machine does and what the functions answer.
  Conditions: those that each lemma names.
-/
import Derived.Shelf.SlIter.Sorted
import Derived.Shelf.SortM.Plain
import Derived.Shelf.SortM.SortNone
import Derived.Shelf.SlicesG.CompactS
import Derived.Test.YtihmlbdfcmfbdaaGreatSGzB1G
set_option linter.unusedSimpArgs false
set_option linter.unusedVariables false
set_option maxRecDepth 100000
namespace Gv
open Go Go.Proofs
open Go Go.Proofs Go.Shelf Go.RowKit Go.Sort
attribute [local go_sem] Oper.semAt_some
def jq:Ren where
 f:=fun
  | 6=>143
  | 8=>188
  | 9=>189
  | 11=>225
  | 13=>167
  | 12=>226
  | 23=>207
  | 24=>208
  | 14=>235
  | 15=>236
  | 16=>237
  | 17=>238
  | 18=>239
  | 19=>240
  | 20=>241
  | 21=>242
  | 22=>243
  | 25=>245
  | 26=>228
  | 27=>229
  | 28=>246
  | 29=>247
  | 30=>248
  | 31=>249
  | n=>n
 t:=fun
  | 26=>9
  | 28=>197
  | 24=>23
  | 0=>0
  | 3=>3
  | 37=>212
  | 48=>67
  | 50=>249
  | 4=>4
  | 40=>242
  | 39=>241
  | 45=>30
  | 5=>5
  | 9=>9
  | 51=>269
  | 55=>273
  | 57=>282
  | 58=>283
  | 33=>159
  | n=>n
 g:=fun n=>n
theorem Ox:Go.Proofs.SlLaysZ.n6 Tryz.prog jq where
 mixed:=by kernel_rfl
 f6:=⟨Tryz.f143.name,by kernel_rfl,by kernel_rfl⟩
 f8:=⟨Tryz.f188.name,by kernel_rfl,by kernel_rfl⟩
 f11:=⟨Tryz.f225.name,by kernel_rfl,by kernel_rfl⟩
 t0:=Tryz.underlying0
 a0:=Tryz.isAgg0
 z0:=Tryz.sizeOf0
 v0:=Tryz.zeroValue0
 t24:=Tryz.underlying23
 a24:=Tryz.isAgg23
 z24:=Tryz.sizeOf23
 v24:=Tryz.zeroValue23
 t26:=Tryz.underlying9
 a26:=Tryz.isAgg9
 z26:=Tryz.sizeOf9
 v26:=Tryz.zeroValue9
 t28:=Tryz.underlying197
 a28:=Tryz.isAgg197
 z28:=Tryz.sizeOf197
 v28:=Tryz.zeroValue197
 i26:=by kernel_rfl
def Ke:Ren where
 f:=fun
  | 6=>189
  | 8=>167
  | 9=>226
  | 19=>207
  | 20=>208
  | 21=>235
  | 22=>236
  | 23=>237
  | 24=>238
  | 25=>239
  | 26=>240
  | 27=>241
  | 28=>242
  | 29=>243
  | 36=>245
  | 31=>228
  | 32=>229
  | 37=>246
  | 38=>247
  | 39=>248
  | 41=>249
  | n=>n
 t:=fun
  | 27=>23
  | 29=>9
  | 3=>3
  | 32=>212
  | 26=>23
  | 0=>0
  | 44=>67
  | 46=>249
  | 4=>4
  | 36=>242
  | 35=>241
  | 41=>30
  | 5=>5
  | 9=>9
  | 53=>269
  | 57=>273
  | 63=>282
  | 64=>283
  | n=>n
 g:=fun n=>n
theorem NW:Go.Proofs.SlLaysM.n6 Tryz.prog Ke where
 mixed:=by kernel_rfl
 f6:=⟨Tryz.f189.name,by kernel_rfl,by kernel_rfl⟩
 f8:=by kernel_rfl
 f9:=⟨Tryz.f226.name,by kernel_rfl,by kernel_rfl⟩
 f19:=by kernel_rfl
 f20:=by kernel_rfl
 f21:=⟨Tryz.f235.name,by kernel_rfl,by kernel_rfl⟩
 f22:=⟨Tryz.f236.name,by kernel_rfl,by kernel_rfl⟩
 f23:=⟨Tryz.f237.name,by kernel_rfl,by kernel_rfl⟩
 f24:=⟨Tryz.f238.name,by kernel_rfl,by kernel_rfl⟩
 f25:=⟨Tryz.f239.name,by kernel_rfl,by kernel_rfl⟩
 f26:=⟨Tryz.f240.name,by kernel_rfl,by kernel_rfl⟩
 f27:=⟨Tryz.f241.name,by kernel_rfl,by kernel_rfl⟩
 f28:=⟨Tryz.f242.name,by kernel_rfl,by kernel_rfl⟩
 f29:=⟨Tryz.f243.name,by kernel_rfl,by kernel_rfl⟩
 f31:=by kernel_rfl
 f32:=by kernel_rfl
 f36:=⟨Tryz.f245.name,by kernel_rfl,by kernel_rfl⟩
 f37:=⟨Tryz.f246.name,by kernel_rfl,by kernel_rfl⟩
 f38:=⟨Tryz.f247.name,by kernel_rfl,by kernel_rfl⟩
 f39:=⟨Tryz.f248.name,by kernel_rfl,by kernel_rfl⟩
 f41:=⟨Tryz.f249.name,by kernel_rfl,by kernel_rfl⟩
 t0:=Tryz.underlying0
 a0:=Tryz.isAgg0
 z0:=Tryz.sizeOf0
 v0:=Tryz.zeroValue0
 t3:=Tryz.underlying3
 a3:=Tryz.isAgg3
 z3:=Tryz.sizeOf3
 v3:=Tryz.zeroValue3
 t4:=Tryz.underlying4
 a4:=Tryz.isAgg4
 z4:=Tryz.sizeOf4
 v4:=Tryz.zeroValue4
 t5:=Tryz.underlying5
 a5:=Tryz.isAgg5
 z5:=Tryz.sizeOf5
 v5:=Tryz.zeroValue5
 t9:=Tryz.underlying9
 a9:=Tryz.isAgg9
 z9:=Tryz.sizeOf9
 v9:=Tryz.zeroValue9
 t26:=Tryz.underlying23
 a26:=Tryz.isAgg23
 z26:=Tryz.sizeOf23
 v26:=Tryz.zeroValue23
 t27:=Tryz.underlying23
 a27:=Tryz.isAgg23
 z27:=Tryz.sizeOf23
 v27:=Tryz.zeroValue23
 t29:=Tryz.underlying9
 a29:=Tryz.isAgg9
 z29:=Tryz.sizeOf9
 v29:=Tryz.zeroValue9
 t32:=Tryz.underlying212
 a32:=Tryz.isAgg212
 z32:=Tryz.sizeOf212
 v32:=Tryz.zeroValue212
 t35:=Tryz.underlying241
 a35:=Tryz.isAgg241
 z35:=Tryz.sizeOf241
 v35:=Tryz.zeroValue241
 t36:=Tryz.underlying242
 a36:=Tryz.isAgg242
 z36:=Tryz.sizeOf242
 v36:=Tryz.zeroValue242
 t41:=Tryz.underlying30
 a41:=Tryz.isAgg30
 z41:=Tryz.sizeOf30
 v41:=Tryz.zeroValue30
 t44:=Tryz.underlying67
 a44:=Tryz.isAgg67
 z44:=Tryz.sizeOf67
 v44:=Tryz.zeroValue67
 t46:=Tryz.underlying249
 a46:=Tryz.isAgg249
 z46:=Tryz.sizeOf249
 v46:=Tryz.zeroValue249
 t53:=Tryz.underlying269
 a53:=Tryz.isAgg269
 z53:=Tryz.sizeOf269
 v53:=Tryz.zeroValue269
 t57:=Tryz.underlying273
 a57:=Tryz.isAgg273
 z57:=Tryz.sizeOf273
 v57:=Tryz.zeroValue273
 t63:=Tryz.underlying282
 a63:=Tryz.isAgg282
 z63:=Tryz.sizeOf282
 v63:=Tryz.zeroValue282
 t64:=Tryz.underlying283
 a64:=Tryz.isAgg283
 z64:=Tryz.sizeOf283
 v64:=Tryz.zeroValue283
def J5:Ren where
 f:=fun
  | 44=>145
  | n=>n
 t:=fun
  | 25=>23
  | 26=>9
  | 3=>3
  | 4=>4
  | 0=>0
  | n=>n
 g:=fun n=>n
theorem NI:Go.Proofs.SlLaysN.n44 Tryz.prog J5 where
 mixed:=by kernel_rfl
 f44:=⟨Tryz.f145.name,by kernel_rfl,by kernel_rfl⟩
 t0:=Tryz.underlying0
 a0:=Tryz.isAgg0
 z0:=Tryz.sizeOf0
 v0:=Tryz.zeroValue0
 t3:=Tryz.underlying3
 a3:=Tryz.isAgg3
 z3:=Tryz.sizeOf3
 v3:=Tryz.zeroValue3
 t4:=Tryz.underlying4
 a4:=Tryz.isAgg4
 z4:=Tryz.sizeOf4
 v4:=Tryz.zeroValue4
 t25:=Tryz.underlying23
 a25:=Tryz.isAgg23
 z25:=Tryz.sizeOf23
 v25:=Tryz.zeroValue23
 t26:=Tryz.underlying9
 a26:=Tryz.isAgg9
 z26:=Tryz.sizeOf9
 v26:=Tryz.zeroValue9
 i26:=by kernel_rfl
def Ab (n:Nat) (P:Program) (g:Nat) (lb:Array Value) (S:List (List UInt8)→Prop) (N:Nat) (w:World):Prop :=
 ∀ (l:Nat) (J:List (List UInt8)→World→Prop) (W:World),(∀ pre W',J pre W'→Below w.heap.size w W') →
  (∀ pre x W1,J pre W1→pre.length < N→YieldAt Fence.wide (n - 1) P l #[encStr x] W1 fun e W'=>e=.returned (.bool true)∧J (pre ++ [x]) W'∧KeepsWalks W1 W') →
  J [] W→CallsIn Fence.wide n P g (#[.func (.yield l) #[] #[]] ++ lb) W fun e W'=>(∃ v,e=.returned v)∧∃ xs,S xs∧J xs W'
theorem Le {zs:List (List UInt8)} {k:Nat} (h:k < zs.length):zs.take k ++ [zs.getD k []]=zs.take (k+1):=by
 rw[RG]; simp[Q6,h]
set_option maxHeartbeats 2000000 in
theorem IW (n:Nat) (hn:1≤n) (Bs b off cap:Nat) (zs:List (List UInt8)) (hreach:zs.length * 16≤140737488351232) (w:World)
  (hBs:w.cell? ⟨Bs,0,none⟩=some (.slice (some ⟨b,off,none⟩) zs.length cap)) (hBl:Bs < w.heap.size) (hbl:b < w.heap.size)
  (hc:∀ j,j < zs.length→w.cell? ⟨b,off+j,none⟩=some (encStr (zs.getD j []))) :
  Ab n Tryz.prog 190 #[.pointer (some ⟨Bs,0,none⟩)] (fun xs=>xs=zs) zs.length w:=by
 intro l J W hJ hY h0
 have hbw:=hJ _ _ h0
 have hBs':=(hbw.cell (p:=⟨Bs,0,none⟩) hBl).trans hBs
 have hf:Fence.wide.fn 190:=trivial
 refine callsIn_of_wp Tryz.func190 rfl hf ?_ rfl
 simp only[Tryz.ntmps190,SA,Rp,RF,Nat.reduceAdd,Nat.reduceSub,SS,SU,Ti,S5,Sm,RM]
 gi_wp2
 gi_loopw [7] (fun i wr=>∃ k:Nat,k≤zs.length∧i=.int .i64 k∧J (zs.take k) wr) (fun i _=>zs.length - (RowKit.intOf i).toNat)
 case atStart=>exact ⟨0,SQ _,rfl,by simpa using h0⟩
 case round =>
  obtain ⟨k,hk,rfl,hJs⟩:=hrel
  have hnx:=hJ _ _ hJs
  have hcx:k < zs.length→wr.cell? ⟨b,off+k,none⟩=some (encStr (zs.getD k [])):=fun h=>(hnx.cell (p:=⟨b,off+k,none⟩) hbl).trans (hc k h)
  by_cases hlt:k < zs.length
  ·obtain ⟨x,hx1,hcx'⟩:∃ x,zs.take k ++ [x]=zs.take (k+1)∧wr.cell? ⟨b,off+k,none⟩=some (encStr x):=⟨_,Le hlt,hcx hlt⟩
   obtain ⟨fn,tmps,assign,body,hy,hR⟩:=hY _ x wr hJs (by simp; omega)
   clear hcx hJs
   gi_wp2
   refine hR.mono ?_
   rintro e W3 ⟨rfl,hJ3,hk3⟩
   gi_wp2
   go_roundw
   case rel=>exact ⟨k+1,by omega,by simp,by rw[← hx1]; exact hJ3⟩
   case measure=>simp[RowKit.intOf]; omega
  ·obtain rfl:k=zs.length:=by omega
   clear hcx
   gi_wp2
   go_end0
   exact ⟨⟨_,rfl⟩,_,rfl,by simpa using hJs⟩
set_option maxHeartbeats 2000000 in
theorem Ej (n:Nat) (hn:2≤n) (g:Nat) (lb:Array Value) (eg:∀ args w,(callFunc g args).run Tryz.prog w=.ok (.enter g args) w)
  (S:List (List UInt8)→Prop) (N:Nat) (hN:N≤maxLen) (hNb:N * 16≤140737488355328) (w:World) (hseq:Ab (n - 1) Tryz.prog g lb S N w) :
  CallsIn Fence.wide n Tryz.prog 225 #[.slice none 0 0,.func (.func g) #[] lb] w fun e w'=>∃ (v:Value) (ss:List (List UInt8)),e=.returned v∧S ss∧w'.ownsRow w.heap.size 9 1 v ss.length (ss.map encStr)∧Below w.heap.size w w':=by
 have h11:Fence.wide.fn 225:=trivial
 refine callsIn_of_wp_marks Tryz.func225 rfl h11 ?_ rfl
 simp only[Tryz.ntmps225,SA,Rp,RF,Nat.reduceAdd,Nat.reduceSub,SS,SU,Ti,S5,Sm,RM]
 gi_wp2
 refine wpIn_rangeFunc ?_
 intro fn hfn
 let sv:Value:=.func (.func g) #[] lb
 have hz:(w.alloc (.cells #[.slice none 0 0] 23)).heap.size=w.heap.size+1:=by simp
 have hv0:=World.alloc_heap_new w (.cells #[.slice none 0 0] 23)
 have hb0:Below w.heap.size w (w.alloc (.cells #[.slice none 0 0] 23)):=(Below.refl _ w).alloc (Ri _) _
 revert hz hv0 hb0
 generalize w.alloc (.cells #[.slice none 0 0] 23)=W0
 intro hz hv0 hb0
 obtain ⟨W1,hW1⟩:∃ W1,(W0.alloc (.deferred (some []))).alloc (.loop (AnyZ.apRec jq fn sv w.heap.size W0.heap.size .ready none))=W1:=⟨_,rfl⟩
 have hold:∀ k,k < W0.heap.size→W1.heap[k]?=W0.heap[k]?:=fun k hk=>by
  rw[← hW1]; exact (Below.heap_alloc _ _ k (by simp; omega)).trans (Below.heap_alloc _ _ k hk)
 have hb1:Below w.heap.size w W1:=by rw[← hW1]; exact (hb0.alloc (by omega) _).alloc (by simp; omega) _
 have hM:AnyZ.ApAt jq w fn sv w.heap.size (W0.heap.size+1) W0.heap.size [] W1:=by
  refine ⟨⟨_,(hold w.heap.size (by omega)).trans hv0,⟨rfl,.inl ⟨rfl,rfl⟩⟩,by simp⟩,?_,?_,hb1⟩
  ·rw[← hW1]
   have h:=World.alloc_heap_new (W0.alloc (.deferred (some []))) (.loop (AnyZ.apRec jq fn sv w.heap.size W0.heap.size .ready none))
   rwa [World.size_alloc] at h
  ·rw[← hW1]; exact (Below.heap_alloc _ _ _ (by simp)).trans (World.alloc_heap_new W0 _)
 refine ⟨W0.heap.size+1,[{ target:=.collected W0.heap.size,args:=#[] }],W1,{ target:=.fn (.func g) lb,args:=#[.func (.yield (W0.heap.size+1)) #[] #[]] },W1,g,
  #[.func (.yield (W0.heap.size+1)) #[] #[]] ++ lb,W1,by rw[← hW1]; exact run_enterLoop_outer _ _ _ _ _,?_,?_,?_,fun _=>by omega,?_⟩
 ·simp[resolve,go_sem]
 ·intro f' hf'; trivial
 ·simp[invoke,go_sem,eg]
 ·refine (hseq (W0.heap.size+1) (AnyZ.ApAt jq w fn sv w.heap.size (W0.heap.size+1) W0.heap.size) W1 (fun _ _ h=>h.below)
   (fun pre x W hJ hl=>AnyZ.apYield { Ox with } Fence.wide (n - 1 - 1) w fn hfn _ w.heap.size (W0.heap.size+1) W0.heap.size (by omega) (by omega) (by omega) (Ri _) (by omega) N hN hNb pre x W hJ hl) hM).mono ?_
  rintro e W2 ⟨⟨v0,rfl⟩,ss,hS,h2⟩
  obtain ⟨v,hv,hrow,_⟩:=h2.box
  have hend:=run_endLoop (P:=Tryz.prog) h2.L (by simp[AnyZ.apRec])
  have hne:∀ (cur:Array Value),Obj.cells #[v] 23 (0,0)≠.cells cur 9 (0,0):=fun cur e=>by cases e
  obtain ⟨W3,hW3⟩:∃ W3,W2.putObj (W0.heap.size+1) (.loop { AnyZ.apRec jq fn sv w.heap.size W0.heap.size .ready none with state:=.exhausted })=W3:=⟨_,rfl⟩
  have hg3:W2.grownBy W3 (some (W0.heap.size+1)):=by rw[← hW3]; exact grownBy_putObj_a _ _ _
  have hv3:W3.heap[w.heap.size]?=some (.cells #[v] 23 (0,0)):=by rw[← hW3]; exact (World.putObj_heap_other (by omega)).trans hv
  have hK3:W3.heap[W0.heap.size]?=some (.deferred (some [])):=by rw[← hW3]; exact (World.putObj_heap_other (by omega)).trans h2.K
  have hrow3:=hrow.kept hg3 (ownsRow_ne_a hrow h2.L (fun cur e=>by cases e))
  have hb3:Below w.heap.size w W3:=h2.below.grown hg3 h2.below.size (fun k e=>by cases e; omega)
  obtain ⟨hc3,hf3⟩:=cell_of_box_a hv3
  refine ⟨none,W3,by rw[← hW3]; exact hend,?_⟩
  clear hW3 hW1 hold hM hend hseq
  gi_wp2
  rw[← hz]
  refine ⟨by simp,.inl ⟨_,_,rfl,run_takeDeferred hK3,?_⟩⟩
  exact ⟨_,results_tmp rfl _ _ _,v,ss,rfl,hS,hrow3.kept (grownBy_putObj_a _ _ _) (ownsRow_ne_a hrow3 hK3 (fun cur e=>by cases e)),hb3.grown (grownBy_putObj_a _ _ _) hb3.size (fun k e=>by cases e; omega)⟩
set_option maxHeartbeats 2000000 in
theorem JO (n:Nat) (hn:4≤n) (g:Nat) (lb:Array Value) (eg:∀ args w,(callFunc g args).run Tryz.prog w=.ok (.enter g args) w)
  (S:List (List UInt8)→Prop) (N:Nat) (hN:N≤maxLen) (hNb:N * 16≤140737488355328) (w:World) (hseq:Ab (n - 1 - 1 - 1) Tryz.prog g lb S N w) (hS:∀ xs,S xs→xs.length < 4611686018427387904) :
  CallsIn Fence.wide n Tryz.prog 143 #[.func (.func g) #[] lb] w fun e w'=>∃ (v:Value) (ss:List (List UInt8)),e=.returned v∧S ss ∧
   w'.ownsRow w.heap.size 9 1 v ss.length ((ss.mergeSort (fun x y=>decide (x≤y))).map encStr)∧Below w.heap.size w w':=by
 have h6:Fence.wide.fn 143:=trivial
 have h8:Fence.wide.fn 188:=trivial
 have h9:Fence.wide.fn 189:=trivial
 have h11:Fence.wide.fn 225:=trivial
 have h1:1≤n - 1:=by omega
 have h1':1≤n:=by omega
 have hcol:CallsIn Fence.wide (n - 1) Tryz.prog 188 #[.func (.func g) #[] lb] w fun e w'=>∃ (v:Value) (ss:List (List UInt8)),e=.returned v∧S ss∧w'.ownsRow w.heap.size 9 1 v ss.length (ss.map encStr)∧Below w.heap.size w w':=by
  have happ:=Ej (n - 1 - 1) (by omega) g lb eg S N hN hNb w hseq
  refine callsIn_of_wp Tryz.func188 rfl h8 ?_ rfl
  simp only[Tryz.ntmps188,SA,Rp,RF,Nat.reduceAdd,Nat.reduceSub,SS,SU,Ti,S5,Sm,RM]
  gi_wp2_with (gi_at_call 225; refine happ.mono ?_; rintro e w' ⟨v,ss,rfl,hS,hrow,hb⟩)
  go_ret
  exact ⟨v,ss,rfl,hS,hrow,hb⟩
 refine callsIn_of_wp Tryz.func143 rfl h6 ?_ rfl
 simp only[Tryz.ntmps143,SA,Rp,RF,Nat.reduceAdd,Nat.reduceSub,SS,SU,Ti,S5,Sm,RM]
 gi_wp2_with (gi_at_call 188; refine hcol.mono ?_; rintro e W ⟨v,ss,rfl,hSs,hrow,hb⟩)
 have hlen:=hS ss hSs
 rcases hrow.2 with ⟨rfl,hz⟩ | ⟨gb,cap,cur,rfl,hbase,hgb,r1,r2,r3,r4⟩
 ·have hss:ss=[]:=List.eq_nil_of_length_eq_zero hz
  subst hss
  have cN:CallsIn Fence.wide (n - 1) Tryz.prog 189 #[.slice none 0 0] W fun e w'=>e=.returned (.tuple #[])∧w'=W:=callsIn_wide.2 (AnyM.slices_Sort_string_none NW none 0 W)
  gi_wp2_with (gi_at_call 189; refine cN.mono ?_; rintro e w' ⟨rfl,rfl⟩)
  go_ret
  exact ⟨.slice none 0 0,[],rfl,hSs,by simpa using hrow,hb⟩
 ·have hH:Holds encStr W gb 0 ss.toArray:=holds_of_block hgb (by simpa using r4)
  have hgl:gb < W.heap.size:=(Array.getElem?_eq_some_iff.1 hgb).1
  have cS:CallsIn Fence.wide (n - 1) Tryz.prog 189 #[.slice (some ⟨gb,0,none⟩) ss.length cap] W fun e w'=>e=.returned (.tuple #[])∧∃ k os,w'=grow (putRow encStr (Sort.ahead W k) gb 0 (ss.mergeSort fun x y=>decide (x≤y)).toArray) os :=
   callsIn_wide.2 (AnyM.slices_Sort_string NW gb 0 cap ss W hH hgl hlen)
  gi_wp2_with (gi_at_call 189; refine cS.mono ?_; rintro e w' ⟨rfl,nn,os,rfl⟩)
  go_ret
  exact ⟨_,ss,rfl,hSs,ownsRow_sorted (by simp) hbase hgb r1 r2 r3,hb.grown (grownBy_sorted _) hb.size (fun j hj=>by cases hj; exact hbase)⟩
open Go Go.Proofs Go.Shelf Go.RowKit Go.Sort
theorem FU {l:List (List UInt8)} (hs:l.Pairwise (fun a b=>decide (a≤b)=true)) (h:∀ j,j+1 < l.length→l.getD (j+1) []≠l.getD j []):l.Nodup:=by
 induction l with
 | nil=>exact List.nodup_nil
 | cons x r ih =>
  rw[Sv] at hs
  refine RW.2 ⟨fun hx=>?_,ih hs.2 fun j hj=>by simpa using h (j+1) (by simpa using hj)⟩
  cases r with
  | nil=>simp at hx
  | cons y r =>
   have h0:=h 0 (by simp)
   simp only[S4,Sh,R8] at h0
   rcases Rm.1 hx with e | hm
   ·exact h0 e.symm
   ·have h1:x≤y:=by simpa using hs.1 y (by simp)
    have h2:y≤x:=by simpa using (Sv.1 hs.2).1 x hm
    exact h0 (List.le_antisymm h2 h1)
theorem Lu (l:List (List UInt8)):(Lib.compact l).length=l.length↔∀ j,j+1 < l.length→l.getD (j+1) []≠l.getD j []:=by
 have hl:(Lib.compact l).length=((List.range l.length).filter (Lib.keeps l.toArray)).length:=by simp[Lib.compact,Lib.compactUpTo]
 rw[hl]
 have hr:(List.range l.length).length=l.length:=by simp
 conv=>lhs; rhs; rw[← hr]
 rw[List.length_filter_eq_length_iff]
 have hg:∀ j,j < l.length→l.toArray[j]! = l.getD j []:=fun j hj=>by simp[Q6,hj]
 constructor
 ·intro h j hj
  have:=h (j+1) (by simpa using hj)
  simp only[Lib.keeps,Rn,Nat.add_sub_cancel] at this
  rcases this with e | e
  ·omega
  ·rw[hg _ hj,hg _ (by omega)] at e; exact e
 ·intro h j hj
  simp only[R3] at hj
  simp only[Lib.keeps,Rn]
  by_cases e:j=0
  ·exact .inl e
  ·right
   obtain ⟨k,rfl⟩:∃ k,j=k+1:=⟨j - 1,by omega⟩
   rw[hg _ hj,Nat.add_sub_cancel,hg _ (by omega)]
   exact h k hj
theorem AK (zs:List (List UInt8)):(Lib.compact (zs.mergeSort fun x y=>decide (x≤y))).length=zs.length↔zs.Nodup:=by
 have hp:=List.mergeSort_perm zs (fun x y=>decide (x≤y))
 have hs:=List.pairwise_mergeSort (le:=fun x y:List UInt8=>decide (x≤y)) (fun a b c h k=>by simp at h k ⊢; exact List.le_trans h k) (fun a b=>by simpa using List.le_total a b) zs
 rw[← hp.nodup_iff,← hp.length_eq,Lu]
 constructor
 ·exact FU hs
 ·intro hn j hj e
  have h1:(zs.mergeSort fun x y=>decide (x≤y))[j+1]'hj=(zs.mergeSort fun x y=>decide (x≤y))[j]'(by omega):=by
   simp only[Q6,Q7 hj,Q7 (show j < (zs.mergeSort fun x y=>decide (x≤y)).length by omega),Rq] at e
   exact e
  have:=(List.getElem_inj hn).1 h1
  omega
theorem Mf (w:World):grow w #[]=w:=by simp[grow]
set_option maxHeartbeats 2000000 in
theorem FL (n:Nat) (hn:1≤n) (Bs cap:Nat) (a:Option Addr) (w:World) (hBs:w.cell? ⟨Bs,0,none⟩=some (.slice a 0 cap)) (hBl:Bs < w.heap.size) :
  Ab n Tryz.prog 190 #[.pointer (some ⟨Bs,0,none⟩)] (fun xs=>xs=[]) 0 w:=by
 intro l J W hJ hY h0
 have hbw:=hJ _ _ h0
 have hBs':=(hbw.cell (p:=⟨Bs,0,none⟩) hBl).trans hBs
 have hf:Fence.wide.fn 190:=trivial
 refine callsIn_of_wp Tryz.func190 rfl hf ?_ rfl
 simp only[Tryz.ntmps190,SA,Rp,RF,Nat.reduceAdd,Nat.reduceSub,SS,SU,Ti,S5,Sm,RM]
 gi_wp2
 gi_loopw [7] (fun i wr=>i=.int .i64 0∧J [] wr) (fun _ _=>0)
 case atStart=>exact ⟨rfl,h0⟩
 case round =>
  obtain ⟨rfl,hJs⟩:=hrel
  gi_wp2
  go_end0
  exact ⟨⟨_,rfl⟩,_,rfl,hJs⟩
set_option maxHeartbeats 2000000 in
theorem IK (n:Nat) (a:Option Addr) (len cap:Nat) (w:World) :
  CallsIn Fence.wide n Tryz.prog 144 #[.slice a len cap] w fun e w'=>e=.returned (.func (.func 190) #[] #[.pointer (some ⟨w.heap.size,0,none⟩)])∧w'=w.alloc (.cells #[.slice a len cap] 23):=by
 have hf:Fence.wide.fn 144:=trivial
 refine callsIn_of_wp Tryz.func144 rfl hf ?_ rfl
 simp only[Tryz.ntmps144,SA,Rp,RF,Nat.reduceAdd,Nat.reduceSub,SS,SU,Ti,S5,Sm,RM]
 gi_wp2
 go_ret
 exact ⟨rfl,rfl⟩
set_option maxHeartbeats 4000000 in
theorem xS (a:Option Addr) (cap:Nat) (zs:List (List UInt8)) (hz:zs.length≤1000) (w:World)
  (hseq:∀ n Bs,1≤n→w.heap.size=Bs→Ab n Tryz.prog 190 #[.pointer (some ⟨Bs,0,none⟩)] (fun xs=>xs=zs) zs.length (w.alloc (.cells #[.slice a zs.length cap] 23))) :
  Calls Tryz.prog 99 #[.slice a zs.length cap] w fun e w'=>e=.returned (.bool (decide zs.Nodup))∧Below w.heap.size w w':=by
 refine (callsIn_wide (n:=7)).1 ?_
 have hf:Fence.wide.fn 99:=trivial
 have hfv:Fence.wide.fn 144:=trivial
 have hfs:Fence.wide.fn 143:=trivial
 have hfc:Fence.wide.fn 145:=trivial
 have eg:=enters_of Tryz.func190 (by kernel_rfl) rfl
 have cV:=IK 6 a zs.length cap w
 have cS:=JO 6 (by omega) 190 #[.pointer (some ⟨w.heap.size,0,none⟩)] eg _ zs.length (by unfold maxLen; omega) (by omega) (w.alloc (.cells #[.slice a zs.length cap] 23)) (hseq _ _ (by omega) rfl) (fun xs e=>by subst e; omega)
 refine callsIn_of_wp Tryz.func99 rfl hf ?_ rfl
 simp only[Tryz.ntmps99,SA,Rp,RF,Nat.reduceAdd,Nat.reduceSub,SS,SU,Ti,S5,Sm,RM]
 clear hseq
 gi_wp2_with (first
  | (gi_at_call 144; refine cV.mono ?_; rintro e w' ⟨rfl,rfl⟩)
  | (gi_at_call 143; refine cS.mono ?_; rintro e W ⟨v,ss,rfl,rfl,hrow,hb⟩)
  | fail)
 have hsz:(ss.mergeSort fun x y=>decide (x≤y)).length=ss.length:=by simp
 have hBw:Below w.heap.size w W:=((Below.refl _ w).alloc (Ri _) _).trans (hb.mono (by simp))
 rcases hrow.2 with ⟨rfl,h0⟩ | ⟨gb,cap',cur,rfl,hbase,hgb,r1,r2,r3,r4⟩
 ·have hss:ss=[]:=List.eq_nil_of_length_eq_zero h0
  subst hss
  have cC:CallsIn Fence.wide 6 Tryz.prog 145 #[.slice none 0 0] W fun e w'=>e=.returned (.slice none 0 0)∧w'=W:=callsIn_wide.2 (AnyG.slices_Compact_string_empty NI none 0 W)
  clear cS cV hrow
  gi_wp2_with (gi_at_call 145; refine cC.mono ?_; rintro e w' ⟨rfl,rfl⟩)
  go_ret
  exact ⟨rfl,hBw⟩
 ·have hH:Holds encStr W gb 0 (ss.mergeSort fun x y=>decide (x≤y)).toArray:=holds_of_block hgb (by simpa using r4)
  have hgl:gb < W.heap.size:=(Array.getElem?_eq_some_iff.1 hgb).1
  have cC:CallsIn Fence.wide 6 Tryz.prog 145 #[.slice (some ⟨gb,0,none⟩) ss.length cap'] W fun e w'=>∃ m:Nat,e=.returned (.slice (some ⟨gb,0,none⟩) m cap')∧((m=ss.length)↔ss.Nodup)∧Below w.heap.size w w':=by
   have:=AnyG.slices_Compact_string NI gb 0 cap' (ss.mergeSort fun x y=>decide (x≤y)) W hH (by rw[hsz]; omega) (by rw[hsz]; omega)
   rw[hsz] at this
   refine callsIn_wide.2 (this.mono ?_)
   rintro e w' ⟨rfl,q,rfl⟩
   refine ⟨_,rfl,AK ss,?_⟩
   have hg:=grownBy_sorted (w:=W) (g:=gb) (n:=q) (os:=#[]) (Lib.compact (ss.mergeSort fun x y=>decide (x≤y)) ++ List.replicate (ss.length - (Lib.compact (ss.mergeSort fun x y=>decide (x≤y))).length) []).toArray
   rw[Mf] at hg
   exact hBw.grown hg hBw.size (fun j e=>by cases e; have h:=hbase; rw[World.size_alloc] at h; omega)
  clear cS cV hrow hH
  gi_wp2_with (gi_at_call 145; refine cC.mono ?_; rintro e w' ⟨m,rfl,hm,hb'⟩)
  go_ret
  refine ⟨?_,hb'⟩
  show Ending.returned (.bool ((m:Int) == (ss.length:Int)))=_
  have:((m:Int) == (ss.length:Int))=decide ss.Nodup:=by
   rw[Si]
   simp only[Sd,Rn,← hm]
   omega
  rw[this]
theorem FD (s:ByteArray):encStr s.data.toList=.string s:=by
 cases s; simp[encStr]
def names (l:List ByteArray):List (List UInt8):=l.map fun s=>s.data.toList
theorem Hx {Z:Nat→Prop} {μ:Mu} {hp:Array Obj} {es:List (List V)} {x:Value} (h:aA Z μ hp (.aH es) x) :
  (es=[]∧∃ a cap,x=.slice a 0 cap∧(a=none→cap=0))∨(∃ b off esz cap,∃ c:Nat→Nat→Value,x=.slice (some ⟨b,off,none⟩) es.length cap∧Z b∧es.length≤cap ∧
   (∀ i,i < es.length→(es.getD i []).length=esz)∧(∀ i j,i < es.length→j < esz→cellAt hp b (off+i * esz+j)=some (c i j)) ∧
   (∀ i j,i < es.length→j < esz→aA Z μ hp ((es.getD i []).getD j .any) (c i j))):=by
 cases h with
 | gM a cap hz=>exact .inl ⟨rfl,a,cap,rfl,hz⟩
 | aH _ b off esz cap c h1 h2 h3 h4 h5=>exact .inr ⟨b,off,esz,cap,c,rfl,h1,h2,h3,h4,h5⟩
theorem L3 (l:List ByteArray) (hl:l.length≤1000):aG Tryz.prog 99 [encS l] (gb (decide (names l).Nodup)):=by
 intro Z μ w xs hrel hzl
 obtain ⟨hlen,hx⟩:=hrel
 obtain ⟨x,rfl⟩:∃ x,xs=[x]:=by
  match xs,hlen with
  | [x],_=>exact ⟨x,rfl⟩
 have h0:aA Z μ w.heap (encS l) x:=hx 0 (by simp)
 have hnl:(names l).length=l.length:=by simp[names]
 have fin:∀ e w',(e=Ending.returned (.bool (decide (names l).Nodup))∧RowKit.Below w.heap.size w w')→∃ x Z',e=.returned x∧(∀ ν,aA Z' ν w'.heap (gb (decide (names l).Nodup)) x)∧dT w w'∧(∀ b,Z b→Z' b)∧(∀ b,Z' b→Z b∨(w.heap.size≤b∧b < w'.heap.size))∧fq w.heap w'.heap (fun _=>False):=by
  rintro e w' ⟨rfl,hb⟩
  exact ⟨_,Z,rfl,fun ν=>.val _ rfl,⟨hb.os,hb.tape,hb.output,hb.size⟩,fun _ h=>h,fun _ h=>.inl h,fun b hb' _=>hb.block b hb'⟩
 have box:∀ (v:Value),(w.alloc (.cells #[v] 23)).cell? ⟨w.heap.size,0,none⟩=some v:=fun v=>by
  have:=World.alloc_heap_new w (.cells #[v] 23)
  simp only[World.cell?,this]; rfl
 rcases Hx h0 with ⟨he,a,cap,rfl,_⟩ | ⟨b,off,esz,cap,c,rfl,hz,hle,hes,hc,hv⟩
 ·have hl0:l=[]:=by simpa using he
  subst hl0
  refine (xS a cap (names []) (by simp[names]) w (fun n Bs hn hB=>?_)).mono fin
  subst hB
  exact FL n hn w.heap.size cap a _ (box _) (by simp)
 ·have hel:∀ i,(hi:i < l.length)→(l.map fun s=>[gs s]).getD i []=[gs l[i]]:=fun i hi=>by simp[Q6,hi]
  have hcell:∀ i,(hi:i < l.length)→cellAt w.heap b (off+i)=some (.string l[i]):=fun i hi=>by
   have h1:=hes i (by simpa using hi)
   rw[hel i hi] at h1
   simp only[Rp,RF] at h1
   subst h1
   have h2:=hc i 0 (by simpa using hi) (by omega)
   have h3:=hv i 0 (by simpa using hi) (by omega)
   rw[hel i hi] at h3
   simp only[Sh] at h3
   generalize c i 0=y at h2 h3
   cases h3
   simpa using h2
  have hlen2:(l.map fun s=>[gs s]).length=(names l).length:=by simp[names]
  rw[hlen2]
  refine (xS (some ⟨b,off,none⟩) cap (names l) (by rw[hnl]; exact hl) w (fun n Bs hn hB=>?_)).mono fin
  subst hB
  have hbl:=hzl b hz
  refine IW n hn w.heap.size b off cap (names l) (by rw[hnl]; omega) _ (box _) (by simp) (by simp; omega) (fun j hj=>?_)
  have hj':j < l.length:=by omega
  have e1:(w.alloc (.cells #[.slice (some ⟨b,off,none⟩) (names l).length cap] 23)).cell? ⟨b,off+j,none⟩=w.cell? ⟨b,off+j,none⟩:=by
   have:=Below.heap_alloc w (.cells #[.slice (some ⟨b,off,none⟩) (names l).length cap] 23) b hbl
   simp only[World.cell?,this]
  rw[e1,lO,hcell j hj']
  have e2:(names l).getD j []=l[j].data.toList:=by simp[names,Q6,hj']
  rw[e2,FD]
theorem bH.gM {P:Program} {f:FuncId} {h:aE} (h1:bH P f [.emp 1] h (.emp 1) h) (h2:bH P f [.emp 2] h (.emp 2) h) (h3:bH P f [.dt] h (.emp 2) h):bH P f [.aH []] h (.emp 0) h:=by
 refine ⟨Ri _,fun Z μ F w xs hrel hr hfree=>?_⟩
 obtain ⟨hl,hv⟩:=hrel
 obtain ⟨x,rfl⟩:∃ x,xs=[x]:=by
  match xs,hl with
  | [x],_=>exact ⟨x,rfl⟩
 have h0:aA Z μ w.heap (.aH []) x:=hv 0 (by simp)
 have one:∀ v,aA Z μ w.heap v x→fi Z μ w.heap [v] [x]:=fun v h=>⟨rfl,fun i hi=>by
  simp at hi; subst hi; exact h⟩
 have weak:∀ k,bH P f [if k=3 then .dt else .emp k] h (if k=3 then .emp 2 else .emp k) h→aA Z μ w.heap (if k=3 then .dt else .emp k) x→Calls P f [x].toArray w fun e w'=>∃ x Z' μ',e=.returned x∧aA Z' μ' w'.heap (.emp 0) x∧gu Z' μ' w'.heap (cat h F)∧Ext Z μ w h.length Z' μ' w'∧(∀ id,id < h.length∨h.length≤id→μ' id=μ id):=by
  intro k hk hx
  refine (hk.2 Z μ F w [x] (one _ hx) hr hfree).mono ?_
  rintro e w' ⟨y,Z',μ',rfl,hy,rest⟩
  refine ⟨y,Z',μ',rfl,?_,rest⟩
  have:∀ k',aA Z' μ' w'.heap (.emp k') y→aA Z' μ' w'.heap (.emp 0) y:=fun k' h=>by
   cases h with | emp _ a _ _=>exact .emp 0 a (by simp) (by simp)
  split at hy <;> exact this _ hy
 rcases Hx h0 with ⟨_,a,cap,rfl,hz⟩ | ⟨b,off,esz,cap,c,rfl,_,_,_⟩
 ·cases a with
  | none =>
   have:=hz rfl
   subst this
   exact weak 1 (by simpa using h1) (.emp 1 none (by simp) (by simp))
  | some a =>
   cases cap with
   | zero=>exact weak 2 (by simpa using h2) (.emp 2 (some a) (by simp) (by simp))
   | succ c=>exact weak 3 (by simpa using h3) (.dt a (c+1))
 ·cases cap with
  | zero=>exact weak 2 (by simpa using h2) (.emp 2 (some ⟨b,off,none⟩) (by simp) (by simp))
  | succ c=>exact weak 3 (by simpa using h3) (.dt ⟨b,off,none⟩ (c+1))
def vL (sz:Nat) (es:List (List V)) (H:View) (K:V→View→Prop):Prop :=
 (es=[]→∀ k,K (.emp k) H)∧(es≠[]→∀ n,H n=.dead→K (.sl n 0 es.length sz) (H.set n (.arr sz es)))
def cO:SF:=⟨.seq (an [((some 2),.op (.bN (.val (.emp 1))))]) <|
 .seq (.seq (an [aj 3 0,((some 4),.op (.nil true 0 (.tmp 3) (.val (.emp 1))))]) <|
 .cond (.tmp 4) (.seq (an [((some 2),.op (.bN (.val (.emp 1))))]) <|
 .ret) (.skip)) <|
 .seq (an [((some 5),.op (.bN (.val (.emp 2)))),aj 6 0,((some 7),.op (.app 1 16 (.tmp 5) (.tmp 6))),aj 2 7]) <|
 .ret,
 [.tmp 2],8⟩
theorem dg:aU Tryz.prog 96 []=some cO:=by kernel_rfl
def dO:SF:=⟨.seq (an [((some 2),.op (.bN (.val (.emp 1))))]) <|
 .seq (.seq (an [aj 3 0,((some 4),.op (.nil true 0 (.tmp 3) (.val (.emp 1))))]) <|
 .cond (.tmp 4) (.seq (an [((some 2),.op (.bN (.val (.emp 1))))]) <|
 .ret) (.skip)) <|
 .seq (an [((some 5),.op (.bN (.val (.emp 2)))),aj 6 0,((some 7),.op (.app 1 8 (.tmp 5) (.tmp 6))),aj 2 7]) <|
 .ret,
 [.tmp 2],8⟩
theorem ed:aU Tryz.prog 161 []=some dO:=by kernel_rfl
def cq:SF:=⟨.seq (an [((some 2),.op (.bN (.val (.emp 1))))]) <|
 .seq (.seq (an [aj 3 0,((some 4),.op (.nil true 0 (.tmp 3) (.val (.emp 1))))]) <|
 .cond (.tmp 4) (.seq (an [((some 2),.op (.bN (.val (.emp 1))))]) <|
 .ret) (.skip)) <|
 .seq (an [((some 5),.op (.bN (.val (.emp 2)))),aj 6 0,((some 7),.op (.app 3 32 (.tmp 5) (.tmp 6))),aj 2 7]) <|
 .ret,
 [.tmp 2],8⟩
theorem cF:aU Tryz.prog 159 []=some cq:=by kernel_rfl
theorem aG.tree {P:Program} {f:FuncId} {vs:List V} {t:V} (hv:∀ v∈vs,Tree v) (ht:Tree t) (h:∀ H,aB P f vs H fun r _=>r=t):aG P f vs t :=
 aG.of hv ((h _).mono fun r H' e h' _=>by rw[e]; exact .tree _ ht)
theorem ou {H:View} : bR H .dt=some ([],[]):=id rfl
theorem iv {H:View} (sz bytes k:Nat) (K:V→View→Prop) (w:bX (H,K)):px sz bytes (.emp k) [] H K w=K (.emp k) H:=propext Iff.rfl
theorem KE (l:List ByteArray) (hl:l.length≤100000) (H:View) (K:V→View→Prop) (hk:vL 1 (l.map fun s=>[gs s]) H K):aB Tryz.prog 96 [encS l] H K:=by
 cases l with
 | nil =>
  have hp:∀ v t,Tree v→Tree t→(∀ H,aB Tryz.prog 96 [v] H fun r _=>r=t)→aG Tryz.prog 96 [v] t:=fun v t hv ht h=>aG.tree (by intro x hx; simp at hx; subst hx; exact hv) ht h
  have h1:=hp (.emp 1) (.emp 1) (.emp 1) (.emp 1) (fun H=>by
   refine aB.of mixed dg ?_
   simp (disch:=omega) only [↓wr,seval,wq,ah,ag,ak,aa,ab,af,ai,ae,cO])
  have h2:=hp (.emp 2) (.emp 2) (.emp 2) (.emp 2) (fun H=>by
   refine aB.of mixed dg ?_
   simp (disch:=omega) only [↓wr,seval,wq,ah,ag,ak,aa,ab,af,ai,ae,cO,iv,Tc])
  have h3:=hp .dt (.emp 2) .dt (.emp 2) (fun H=>by
   refine aB.of mixed dg ?_
   simp (disch:=omega) only [↓wr,seval,wq,ah,ag,ak,aa,ab,af,ai,ae,cO,ou,iv,Tc])
  refine ⟨by kernel_rfl,?_⟩
  rintro h rfl
  exact ⟨.emp 0,h,bH.gM (bH.fy h1 h) (bH.fy h2 h) (bH.fy h3 h),.refl _,hk.1 rfl 0⟩
 | cons x r =>
  refine aB.of mixed dg ?_
  simp only[Rp] at hl
  simp (disch:=omega) only [↓wr,seval,wq,ah,ag,ak,aa,ab,af,ai,ae,cO,encS]
  refine ⟨?_,?_,?_⟩
  ·simp[List.all_map,encS,aS]
  ·unfold aK; simp; omega
  ·intro n hn
   have:=hk.2 (by simp) n hn
   simp (disch:=omega) only [↓wr,seval,wq,ah,ag,ak,aa,ab,af,ai,ae]
   simpa [ca] using this
theorem JH (l:List Int) (hl:l.length≤100000) (H:View) (K:V→View→Prop) (hk:vL 1 (l.map fun s=>[gi s]) H K):aB Tryz.prog 161 [encI l] H K:=by
 cases l with
 | nil =>
  have hp:∀ v t,Tree v→Tree t→(∀ H,aB Tryz.prog 161 [v] H fun r _=>r=t)→aG Tryz.prog 161 [v] t:=fun v t hv ht h=>aG.tree (by intro x hx; simp at hx; subst hx; exact hv) ht h
  have h1:=hp (.emp 1) (.emp 1) (.emp 1) (.emp 1) (fun H=>by
   refine aB.of mixed ed ?_
   simp (disch:=omega) only [↓wr,seval,wq,ah,ag,ak,aa,ab,af,ai,ae,dO])
  have h2:=hp (.emp 2) (.emp 2) (.emp 2) (.emp 2) (fun H=>by
   refine aB.of mixed ed ?_
   simp (disch:=omega) only [↓wr,seval,wq,ah,ag,ak,aa,ab,af,ai,ae,dO,iv,Tc])
  have h3:=hp .dt (.emp 2) .dt (.emp 2) (fun H=>by
   refine aB.of mixed ed ?_
   simp (disch:=omega) only [↓wr,seval,wq,ah,ag,ak,aa,ab,af,ai,ae,dO,ou,iv,Tc])
  refine ⟨by kernel_rfl,?_⟩
  rintro h rfl
  exact ⟨.emp 0,h,bH.gM (bH.fy h1 h) (bH.fy h2 h) (bH.fy h3 h),.refl _,hk.1 rfl 0⟩
 | cons x r =>
  refine aB.of mixed ed ?_
  simp only[Rp] at hl
  simp (disch:=omega) only [↓wr,seval,wq,ah,ag,ak,aa,ab,af,ai,ae,dO,encI]
  refine ⟨?_,?_,?_⟩
  ·simp[List.all_map,encI,aS]
  ·unfold aK; simp; omega
  ·intro n hn
   have:=hk.2 (by simp) n hn
   simp (disch:=omega) only [↓wr,seval,wq,ah,ag,ak,aa,ab,af,ai,ae]
   simpa [ca] using this
theorem LO (l:List Term) (hl:l.length≤100000) (H:View) (K:V→View→Prop) (hk:vL 3 (l.map ca) H K):aB Tryz.prog 159 [dR l] H K:=by
 cases l with
 | nil =>
  have hp:∀ v t,Tree v→Tree t→(∀ H,aB Tryz.prog 159 [v] H fun r _=>r=t)→aG Tryz.prog 159 [v] t:=fun v t hv ht h=>aG.tree (by intro x hx; simp at hx; subst hx; exact hv) ht h
  have h1:=hp (.emp 1) (.emp 1) (.emp 1) (.emp 1) (fun H=>by
   refine aB.of mixed cF ?_
   simp (disch:=omega) only [↓wr,seval,wq,ah,ag,ak,aa,ab,af,ai,ae,cq])
  have h2:=hp (.emp 2) (.emp 2) (.emp 2) (.emp 2) (fun H=>by
   refine aB.of mixed cF ?_
   simp (disch:=omega) only [↓wr,seval,wq,ah,ag,ak,aa,ab,af,ai,ae,cq,iv,Tc])
  have h3:=hp .dt (.emp 2) .dt (.emp 2) (fun H=>by
   refine aB.of mixed cF ?_
   simp (disch:=omega) only [↓wr,seval,wq,ah,ag,ak,aa,ab,af,ai,ae,cq,ou,iv,Tc])
  refine ⟨by kernel_rfl,?_⟩
  rintro h rfl
  exact ⟨.emp 0,h,bH.gM (bH.fy h1 h) (bH.fy h2 h) (bH.fy h3 h),.refl _,hk.1 rfl 0⟩
 | cons x r =>
  refine aB.of mixed cF ?_
  simp only[Rp] at hl
  simp (disch:=omega) only [↓wr,seval,wq,ah,ag,ak,aa,ab,af,ai,ae,cq,dR,ca]
  refine ⟨?_,?_,?_⟩
  ·simp[List.all_map,dR,ca,aS]
  ·unfold aK; simp; omega
  ·intro n hn
   have:=hk.2 (by simp) n hn
   simp (disch:=omega) only [↓wr,seval,wq,ah,ag,ak,aa,ab,af,ai,ae]
   simpa [ca] using this
theorem vL.own {sz:Nat} {es:List (List V)} {H:View} : vL sz es H fun r H'=>bc H' r sz es∧ei H H' r :=
 ⟨fun he k=>⟨by rw[he]; exact .nil,.emp⟩,fun _ n hn=>⟨.new,.new hn⟩⟩
theorem JR (l:List ByteArray) (hl:l.length≤100000) (H:View):aB Tryz.prog 96 [encS l] H fun r H'=>bc H' r 1 (l.map fun s=>[gs s])∧ei H H' r:=KE l hl H _ .own
theorem Ks (l:List Int) (hl:l.length≤100000) (H:View):aB Tryz.prog 161 [encI l] H fun r H'=>bc H' r 1 (l.map fun s=>[gi s])∧ei H H' r:=JH l hl H _ .own
theorem LV (l:List Term) (hl:l.length≤100000) (H:View):aB Tryz.prog 159 [dR l] H fun r H'=>bc H' r 3 (l.map ca)∧ei H H' r:=LO l hl H _ .own
def kG (g:ao):List aM→Int→Bool
 | [],next=>next == g.az.length
 | r :: l,next=>decide (0≤r.left) && decide (r.left≤next) && gZ g r && kG g l (if r.left+1 > next then r.left+1 else next)
def qc (g:ao):List ByteArray:=g.az ++ g.av.map Term.name
def oD (g:ao):Bool :=
 qI g.av && (decide ((1:Int)≤g.az.length) && decide ((g.az.length:Int)≤16)) && (decide ((1:Int)≤g.rules.length) && decide ((g.rules.length:Int)≤40)) && decide (names (qc g)).Nodup && (decide (0≤g.start) && decide (g.start≤(g.az.length:Int) - 1)) &&
  !(g.az.any fun s=>!fI (eO s)) && kG g g.rules 0
theorem DL {l:List ByteArray} : ∀ e∈(l.map fun s=>[gs s]),∀ v∈e,Tree v:=by
 intro e he v hv
 obtain ⟨a,_,rfl⟩:=Rv.1 he
 rw[RU] at hv
 subst hv
 exact .val _
set_option maxHeartbeats 4000000 in
theorem JV (g:ao) (hg:g.Ok) (hs:g.az.length+g.av.length≤1000) (H:View):aB Tryz.prog 52 [.agg (aw g)] H fun r _=>r=gb (oD g):=by
 refine aB.of mixed A3 ?_
 have hn:=hg.az
 have ht:=hg.av
 have hr:=hg.rules
 unfold aV at hn ht hr
 simp (disch:=omega) only [↓wr,seval,wq,ah,ag,ak,aa,ab,af,ai,ae,xy,aw,encS]
 refine aF.eJ ((JR g.az (by omega) H).mono ?_)
 rintro u H1 ⟨hu,hf⟩
 simp (disch:=omega) only [↓wr,seval,wq,ah,ag,ak,aa,ab,af,ai,ae,aw,encS]
 refine bg.up g.av.length (fun i T H=>T 1=.aL (aw g) 0∧(∃ u,T 3=u∧bc H u 1 ((g.az ++ (g.av.take i).map Term.name).map fun s=>[gs s]))∧T 13=dR g.av∧T 14=gi g.av.length∧T 15=gi i) ?_ ?_
 ·exact ⟨rfl,⟨u,rfl,by simpa using hu⟩,rfl,rfl,rfl⟩
 rintro i k T H' hk ⟨h1,⟨u,h3,hu⟩,h13,h14,h15⟩
 simp (disch:=omega) only [↓wr,seval,wq,ah,ag,ak,aa,ab,af,ai,ae,uq,h1,h13,h14,h15,dR]
 refine aq.dec (fun hc=>?_) (fun hc=>?_)
 ·have hg2:g.av[i]?=some (g.av[i]'(by omega)):=Q7 (by omega)
  have htk:(g.av.take (i+1)).map Term.name=(g.av.take i).map Term.name ++ [(g.av[i]'(by omega)).name]:=by
   rw[RG,hg2,RI]; rfl
  generalize g.av[i]'(by omega)=t at hg2 htk
  simp (disch:=omega) only [↓wr,seval,wq,ah,ag,ak,aa,ab,af,ai,ae,h1,h3,h13,h14,h15,dR,ca,Rc,hg2]
  intro b hb
  try simp (disch:=omega) only [↓wr,seval,wq,ah,ag,ak,aa,ab,af,ai,ae,h1,h3,h13,h14,h15,set_set]
  intro m hm
  have hmb:=(fZ hm gV).1
  have hm:=(fZ (fZ hm gV).2 gV).2
  try simp (disch:=omega) only [↓wr,seval,wq,ah,ag,ak,aa,ab,af,ai,ae,h1,h3,h13,h14,h15,dW]
  have hl:((g.az ++ (g.av.take i).map Term.name).map fun s=>[gs s]).length≤1000:=by simp; omega
  refine wa (((hu.fresh hb).other (hu.ne hb)).fresh (by simp[View.set,hm,hmb])) (by simp) (by simp[aS]) (by unfold aK; simp at hl ⊢; omega) (by unfold aK; simp at hl ⊢; omega) ?_
  intro u' H2 hu' _
  simp (disch:=omega) only [↓wr,seval,wq,ah,ag,ak,aa,ab,af,ai,ae,h1,h3,h13,h14,h15]
  refine aQ hk (by omega) ⟨h1,⟨u',rfl,?_⟩,h13,h14,rfl⟩
  rw[htk]
  simpa using hu'
 ·rw[Rz (by omega)] at hu
  have hal:H'=H':=rfl
  have hall:(qc g).length≤1000:=by simp[qc]; omega
  repeat' (first | (refine aq.dec (fun _=>?_) (fun _=>?_)) | (refine aq.eq (fun _=>?_) (fun _=>?_)) | (refine aq.ne (fun _=>?_) (fun _=>?_)) | (refine aq.split (fun _=>?_) (fun _=>?_)) | (refine aF.pure (LB g.av hg.av) (by kernel_rfl) ?_) | (refine aF.pure (pI _ _ _) (by kernel_rfl) ?_) | (refine aF.Ds (L3 (qc g) hall) (by kernel_rfl) (.val _) ⟨fh.own hu DL,trivial⟩ ?_) | (simp (disch:=omega) only [↓wr,seval,wq,ah,ag,ak,aa,ab,af,ai,ae,h1,h3,h13,h14,h15,aw,encS]))
  all_goals try (simp[oD, *]; done)
  rename_i e1 e2 e3 e4 e5
  refine aF.pure (yK g.az hg.az 101 [] (by simp) (fun s=>!fI (eO s)) (fun x _=>IE x) (by kernel_rfl)) (by kernel_rfl) ?_
  repeat' (first | (refine aq.dec (fun _=>?_) (fun _=>?_)) | (refine aq.eq (fun _=>?_) (fun _=>?_)) | (refine aq.ne (fun _=>?_) (fun _=>?_)) | (refine aq.split (fun _=>?_) (fun _=>?_)) | (simp (disch:=omega) only [↓wr,seval,wq,ah,ag,ak,aa,ab,af,ai,ae,h1,h3,h13,h14,h15,aw,encS]))
  all_goals try (simp[oD, *]; done)
  rename_i e6
  have hle:g.rules.length≤40:=by simp at e3; omega
  have hpre:∀ b,kG g g.rules 0=b→gb b=gb (oD g):=fun b e=>by
   simp only[oD,e1,e2,e3,e4,e5,e6,e,decide_true,Sq,Bool.not_false]
  refine bg.up g.rules.length (fun i T _=>∃ w:Int,0≤w∧w≤i∧kG g (g.rules.drop i) w=kG g g.rules 0∧T 1=.aL (aw g) 0∧T 6=gi w∧T 62=.aH (g.rules.map aO)∧T 63=gi g.rules.length∧T 64=gi i) ?_ ?_
  ·exact ⟨0,by omega,by omega,rfl,h1,rfl,rfl,rfl,rfl⟩
  rintro i k T H' hk ⟨w,hw1,hw2,hi,h1,h6,h62,h63,h64⟩
  simp (disch:=omega) only [↓wr,seval,wq,ah,ag,ak,aa,ab,af,ai,ae,uB,h1,h6,h62,h63,h64,aw]
  refine aq.dec (fun hc=>?_) (fun hc=>?_)
  ·have hg2:g.rules[i]?=some (g.rules[i]'(by omega)):=Q7 (by omega)
   rw[eC (show i < g.rules.length by omega)] at hi
   have hmem:g.rules[i]'(by omega)∈g.rules:=Rj _
   generalize g.rules[i]'(by omega)=t at hg2 hi hmem
   obtain ⟨⟨hl1,hl2⟩,hp,hr1,hr2⟩:=hg.aD t hmem
   simp only[kG] at hi
   simp (disch:=omega) only [↓wr,seval,wq,ah,ag,ak,aa,ab,af,ai,ae,h1,h6,h62,h63,h64,aO,encI,Rc,hg2]
   intro b hb
   repeat' (first | (refine aq.dec (fun _=>?_) (fun _=>?_)) | (refine aq.eq (fun _=>?_) (fun _=>?_)) | (refine aq.ne (fun _=>?_) (fun _=>?_)) | (refine aq.split (fun _=>?_) (fun _=>?_)) | (refine aF.pure (pI _ _ _) (by kernel_rfl) ?_) | (refine aF.pure (MI g t hg ⟨hr1,hr2⟩) (by kernel_rfl) ?_) | (simp (disch:=omega) only [↓wr,seval,wq,ah,ag,ak,aa,ab,af,ai,ae,h1,h6,h62,h63,h64,aw,aO,encI,encS,set_set]))
   ·rename_i e7 e8
    have e7':0≤t.left∧t.left≤w:=by simpa using e7
    rw[e7,e8,Sq,Sq] at hi
    have hw:IntKind.wrap .i64 (t.left+1)=t.left+1:=wrap64 (by omega) (by omega)
    refine aQ hk (by omega) ⟨_,by split <;> omega,by split <;> (push_cast; omega),hi,h1,?_,h62,h63,rfl⟩
    show gi (if IntKind.wrap .i64 (t.left+1) > w then IntKind.wrap .i64 (t.left+1) else w)=_
    rw[hw]
   ·rename_i e7 e8
    rw[e8,Bool.and_false,SL] at hi
    exact hpre _ hi.symm
   ·rename_i e7
    rw[e7,SL,SL] at hi
    exact hpre _ hi.symm
  ·rw[RB (by omega)] at hi
   simp only[kG] at hi
   simp (disch:=omega) only [↓wr,seval,wq,ah,ag,ak,aa,ab,af,ai,ae,h1,h6,h62,h63,h64,aw,encS]
   exact hpre _ hi.symm
theorem HZ (g:ao) (hg:g.Ok) (hs:g.az.length+g.av.length≤1000):aG Tryz.prog 52 [.agg (aw g)] (gb (oD g)):=aG.val (eU g) (JV g hg hs)
theorem DD (g:ao):∀ (l:List aM) (next:Int),kG g l next=gm g l (next - 1)
 | [],next=>by
  simp only[kG,gm]
  rw[Si]; simp
 | r :: l,next=>by
  simp only[kG,gm,DD g l]
  have e1:(if r.left+1 > next then r.left+1 else next) - 1=if r.left > next - 1 then r.left else next - 1:=by
   split <;> split <;> omega
  have e2:next - 1+1=next:=by omega
  rw[e1,e2]
theorem wA (s:ByteArray):∀ (l:List ByteArray) (i:Int),0≤i→(mB s l i < 0∧s ∉ l)∨∃ k:Nat,mB s l i=i+k∧l[k]?=some s∧∀ j < k,l[j]?≠some s
 | [],i,h=>.inl ⟨by simp[mB],by simp⟩
 | x :: l,i,h=>by
  have hx:ir x s=true↔x=s:=by
   unfold ir
   rw[Sd]
   constructor
   ·intro e; cases x; cases s; simp at e; simp[e]
   ·rintro rfl; rfl
  simp only[mB]
  by_cases e:x=s
  ·rw[Ra (hx.2 e)]
   exact .inr ⟨0,by simp,by simp[e],by simp⟩
  ·rw[Q9 (fun h=>e (hx.1 h))]
   rcases wA s l (i+1) (by omega) with ⟨h1,h2⟩ | ⟨k,h1,h2,h3⟩
   ·exact .inl ⟨h1,by simp[h2,Ne.symm e]⟩
   ·refine .inr ⟨k+1,by rw[h1]; push_cast; omega,by simpa using h2,fun j hj=>?_⟩
    cases j with
    | zero=>simp[e]
    | succ j=>simpa using h3 j (by omega)
theorem qT (l:List ByteArray):(∀ (k:Nat) (s:ByteArray),l[k]?=some s→mB s l 0=k)↔l.Nodup:=by
 constructor
 ·intro h
  rw[S9,List.pairwise_iff_getElem]
  intro i j hi hj hij e
  have h1:=h i l[i] (by simp[hi])
  have h2:=h j l[j] (by simp[hj])
  rw[e] at h1
  omega
 ·intro hn k s hk
  rcases wA s l 0 (by omega) with ⟨_,h2⟩ | ⟨j,h1,h2,h3⟩
  ·exact absurd (Re hk) h2
  ·have hj:j < l.length:=by
    rcases Rw j l.length with h | h
    ·exact h
    ·simp[RH h] at h2
   have hk':k < l.length:=by
    rcases Rw k l.length with h | h
    ·exact h
    ·simp[RH h] at hk
   have:j=k:=(List.getElem_inj hn).1 (by
    rw[Q7 hj] at h2; rw[Q7 hk'] at hk
    simp at h2 hk; rw[h2,hk])
   rw[h1,this]; simp
theorem bytes_inj {a b:ByteArray} : a.data.toList=b.data.toList↔a=b:=by
 constructor
 ·intro h; cases a; cases b; simp at h; simp[h]
 ·rintro rfl; rfl
theorem J9 {l:List ByteArray} : (names l).Nodup↔l.Nodup:=by
 unfold names
 rw[S9,Tm,S9]
 constructor
 ·exact fun h=>h.imp fun h e=>h (bytes_inj.2 e)
 ·exact fun h=>h.imp fun h e=>h (bytes_inj.1 e)
theorem lI {α:Type} [BEq α] [LawfulBEq α]:∀ (l m:List α),l.Nodup→(∀ x∈l,x∈m)→l.length≤m.length
 | [],m,_,_=>by simp
 | x :: l,m,hn,hs=>by
  rw[RW] at hn
  have hx:x∈m:=hs x (by simp)
  have:=lI l (m.erase x) hn.2 (fun y hy=>by
   have hne:y≠x:=by rintro rfl; exact hn.1 hy
   exact (List.mem_erase_of_ne hne).2 (hs y (by simp[hy])))
  rw[List.length_erase_of_mem hx] at this
  have:0 < m.length:=List.length_pos_of_mem hx
  simp only[Rp]
  omega
def kL (n:Nat):List Int:=(List.range n).map fun (k:Nat)=>(k:Int)+1
theorem uk {n:Nat} {x:Int} : x∈kL n↔1≤x∧x≤n:=by
 simp only[kL,Rv,R3]
 constructor
 ·rintro ⟨k,hk,rfl⟩; omega
 ·rintro ⟨h1,h2⟩; exact ⟨(x - 1).toNat,by omega,by omega⟩
theorem Fl (n:Nat):(kL n).Nodup:=by
 rw[kL,S9,Tm]
 exact (List.nodup_range (n:=n)).imp fun h e=>h (by omega)
theorem OM {l:List Int} {n:Nat} (hn:l.Nodup) (hs:∀ x∈l,1≤x∧x≤n) (hl:l.length=n) {x:Int} (h1:1≤x) (h2:x≤n):x∈l:=by
 refine Th fun hx=>?_
 have:=lI (x :: l) (kL n) (RW.2 ⟨hx,hn⟩) (fun y hy=>by
  rw[uk]
  rcases Rm.1 hy with rfl | hy
  ·exact ⟨h1,h2⟩
  ·exact hs y hy)
 simp[kL] at this
 omega
theorem uc (n:Int):∀ (l:List Term) (w:Int),w≠0→iH n l w=if (∀ t∈l,t.level=n→t.assoc=w) then some w else none
 | [],w,_=>by simp[iH]
 | t :: r,w,hw=>by
  simp only[iH]
  by_cases ht:t.level=n
  ·rw[Ra ht]
   by_cases ha:w=t.assoc
   ·rw[Q9 (by simp[ha]),← ha,uc n r w hw]
    congr 1
    simp[ht,ha]
   ·rw[Ra ⟨hw,ha⟩,Q9 (fun h=>ha (h t (by simp) ht).symm)]
  ·rw[Q9 ht,uc n r w hw]
   congr 1
   simp[ht]
theorem zx (n:Int):∀ (l:List Term),(∀ t∈l,t.level=n→t.assoc≠0)→(gn l n=true↔∃ a,(∃ t∈l,t.level=n)∧∀ t∈l,t.level=n→t.assoc=a)
 | [],_=>by simp[gn,iH]
 | t :: r,h=>by
  by_cases ht:t.level=n
  ·have ha:=h t (by simp) ht
   have e:gn (t :: r) n=match (if (∀ u∈r,u.level=n→u.assoc=t.assoc) then some t.assoc else none) with | some w=>w != 0 | none=>false:=by
    simp only[gn,iH]
    rw[Ra ht,Q9 (by simp),uc n r _ ha]
    rfl
   rw[e]
   by_cases hr:∀ u∈r,u.level=n→u.assoc=t.assoc
   ·rw[Ra hr]
    simp only[bne_iff_ne,ne_eq,ha,not_false_eq_true,true_iff]
    refine ⟨t.assoc,⟨t,by simp,ht⟩,fun u hu hl=>?_⟩
    rcases Rm.1 hu with rfl | hu
    ·rfl
    ·exact hr u hu hl
   ·rw[Q9 hr]
    simp only[Ru,false_iff]
    rintro ⟨a,_,h2⟩
    exact hr fun u hu hl=>(h2 u (by simp[hu]) hl).trans (h2 t (by simp) ht).symm
  ·have ih:=zx n r (fun u hu=>h u (by simp[hu]))
   have e:gn (t :: r) n=gn r n:=by
    simp only[gn,iH,Q9 ht]
   rw[e,ih]
   constructor
   ·rintro ⟨a,⟨u,hu,hl⟩,h2⟩
    refine ⟨a,⟨u,by simp[hu],hl⟩,fun v hv hl=>?_⟩
    rcases Rm.1 hv with rfl | hv
    ·exact absurd hl ht
    ·exact h2 v hv hl
   ·rintro ⟨a,⟨u,hu,hl⟩,h2⟩
    rcases Rm.1 hu with rfl | hu
    ·exact absurd hl ht
    ·exact ⟨a,⟨u,hu,hl⟩,fun v hv=>h2 v (by simp[hv])⟩
def sA (l:List Term):Prop:=∀ t∈l,∀ u∈l,t.level=u.level→t.level≠0→t.assoc=u.assoc
theorem FC {κ β:Type} [BEq κ] [LawfulBEq κ] {k:κ} {v:β} : ∀ {a:List (κ × β)},(a.map (·.1)).Nodup→((jt k v a).map (·.1)).Nodup∧∀ x,x∈(jt k v a).map (·.1)↔x=k∨x∈a.map (·.1)
 | [],_=>by simp[jt]
 | y :: a,h=>by
  simp only[RE,RW] at h
  obtain ⟨h1,h2⟩:=FC (k:=k) (v:=v) h.2
  simp only[jt]
  by_cases e:k=y.1
  ·simp only[e,SP,if_true,RE,RW]
   refine ⟨h,fun x=>by simp[e]⟩
  ·have:(k == y.1)=false:=by simp[e]
   rw[this]
   simp only[Ru,if_false,RE,RW,Rm]
   refine ⟨⟨fun hm=>?_,h1⟩,fun x=>?_⟩
   ·rcases (h2 _).1 hm with e' | hm
    ·exact e e'.symm
    ·exact h.1 hm
   ·rw[h2]
    constructor
    ·rintro (h | h | h) <;> simp[h]
    ·rintro (h | h | h) <;> simp[h]
theorem wC:∀ (l:List Term) (a:List (Int × Int)) (top:Int),(∀ t∈l,t.level≠0→t.assoc≠0)→(∀ n v,dJ a n=some v→v≠0)→(a.map (·.1)).Nodup →
  match lu l a top with
  | some (a',top')=>sA l∧(∀ t∈l,∀ v,t.level≠0→dJ a t.level=some v→t.assoc=v)∧(a'.map (·.1)).Nodup∧(∀ n,n∈a'.map (·.1)↔n∈a.map (·.1)∨(n≠0∧∃ t∈l,t.level=n)) ∧
    top≤top'∧(∀ t∈l,t.level≠0→t.level≤top')∧(top'=top∨∃ t∈l,t.level=top'∧t.level≠0)
  | none=>¬ (sA l∧∀ t∈l,∀ v,t.level≠0→dJ a t.level=some v→t.assoc=v)
 | [],a,top,_,_,hn=>by
  simp only[lu]
  exact ⟨fun t ht=>by simp at ht,fun t ht=>by simp at ht,hn,fun n=>by simp,by omega,fun t ht=>by simp at ht,by simp⟩
 | t :: r,a,top,h0,hv,hn=>by
  have h0r:∀ u∈r,u.level≠0→u.assoc≠0:=fun u hu=>h0 u (by simp[hu])
  simp only[lu]
  by_cases ht:t.level=0
  ·rw[Ra ht]
   have ih:=wC r a top h0r hv hn
   have one:sA (t :: r)↔sA r:=by
    constructor
    ·exact fun h u hu w hw=>h u (by simp[hu]) w (by simp[hw])
    ·intro h u hu w hw e hz
     rcases Rm.1 hu with rfl | hu
     ·exact absurd ht hz
     ·rcases Rm.1 hw with rfl | hw
      ·exact absurd (e.trans ht) hz
      ·exact h u hu w hw e hz
   have con:(∀ u∈t :: r,∀ v,u.level≠0→dJ a u.level=some v→u.assoc=v)↔∀ u∈r,∀ v,u.level≠0→dJ a u.level=some v→u.assoc=v:=by
    simp[ht]
   have mem:∀ n,(n≠0∧∃ u∈t :: r,u.level=n)↔(n≠0∧∃ u∈r,u.level=n):=fun n=>by
    constructor
    ·rintro ⟨h1,u,hu,rfl⟩
     rcases Rm.1 hu with rfl | hu
     ·exact absurd ht h1
     ·exact ⟨h1,u,hu,rfl⟩
    ·rintro ⟨h1,u,hu,rfl⟩; exact ⟨h1,u,by simp[hu],rfl⟩
   cases hs:lu r a top with
   | none=>rw[hs] at ih; rw[one,con]; exact ih
   | some x =>
    obtain ⟨a',top'⟩:=x
    rw[hs] at ih
    obtain ⟨i1,i2,i3,i4,i5,i6,i7⟩:=ih
    refine ⟨one.2 i1,con.2 i2,i3,fun n=>by rw[i4,mem],i5,?_,?_⟩
    ·intro u hu hz
     rcases Rm.1 hu with rfl | hu
     ·exact absurd ht hz
     ·exact i6 u hu hz
    ·rcases i7 with h | ⟨u,hu,h⟩
     ·exact .inl h
     ·exact .inr ⟨u,by simp[hu],h⟩
  ·rw[Q9 ht]
   have ha:=h0 t (by simp) ht
   by_cases hc:(dJ a t.level).getD 0≠0∧(dJ a t.level).getD 0≠t.assoc
   ·rw[Ra hc]
    simp only
    rintro ⟨_,h2⟩
    cases hp:dJ a t.level with
    | none=>simp[hp] at hc
    | some v =>
     have:=h2 t (by simp) v ht hp
     simp[hp] at hc
     exact hc.2 this.symm
   ·rw[Q9 hc]
    have hcon:∀ v,dJ a t.level=some v→t.assoc=v:=fun v hp=>by
     have:=hv _ _ hp
     simp[hp] at hc
     exact (hc this).symm
    have hput:∀ n,dJ (jt t.level t.assoc a) n=if n=t.level then some t.assoc else dJ a n:=fun n=>by
     rw[D6]; simp
    have hk:=FC (k:=t.level) (v:=t.assoc) hn
    have ih:=wC r (jt t.level t.assoc a) (if t.level > top then t.level else top) h0r (fun n v hp=>by
     rw[hput] at hp
     split at hp
     ·simp at hp; rw[← hp]; exact ha
     ·exact hv n v hp) hk.1
    have both:(sA (t :: r)∧∀ u∈t :: r,∀ v,u.level≠0→dJ a u.level=some v→u.assoc=v)↔(sA r∧∀ u∈r,∀ v,u.level≠0→dJ (jt t.level t.assoc a) u.level=some v→u.assoc=v):=by
     constructor
     ·rintro ⟨h1,h2⟩
      refine ⟨fun u hu w hw=>h1 u (by simp[hu]) w (by simp[hw]),fun u hu v hz hp=>?_⟩
      rw[hput] at hp
      split at hp
      ·rename_i e
       simp at hp; rw[← hp]
       exact h1 u (by simp[hu]) t (by simp) e hz
      ·exact h2 u (by simp[hu]) v hz hp
     ·rintro ⟨h1,h2⟩
      have h3:∀ u∈r,u.level=t.level→u.assoc=t.assoc:=fun u hu e=>h2 u hu t.assoc (by rw[e]; exact ht) (by rw[hput,Ra e])
      refine ⟨fun u hu w hw e hz=>?_,fun u hu v hz hp=>?_⟩
      ·rcases Rm.1 hu with e1 | hu2
       ·rcases Rm.1 hw with e2 | hw2
        ·rw[e1,e2]
        ·rw[e1] at e ⊢
         exact (h3 w hw2 e.symm).symm
       ·rcases Rm.1 hw with e2 | hw2
        ·rw[e2] at e ⊢
         exact h3 u hu2 e
        ·exact h1 u hu2 w hw2 e hz
      ·rcases Rm.1 hu with rfl | hu
       ·exact hcon v hp
       ·by_cases e:u.level=t.level
        ·rw[h3 u hu e]; exact hcon v (by rw[← e]; exact hp)
        ·exact h2 u hu v hz (by rw[hput,Q9 e]; exact hp)
    have htop:top≤(if t.level > top then t.level else top)∧t.level≤(if t.level > top then t.level else top):=by split <;> omega
    cases hs:lu r (jt t.level t.assoc a) (if t.level > top then t.level else top) with
    | none=>rw[hs] at ih; simp only; rw[both]; exact ih
    | some x =>
     obtain ⟨a',top'⟩:=x
     rw[hs] at ih
     obtain ⟨i1,i2,i3,i4,i5,i6,i7⟩:=ih
     obtain ⟨b1,b2⟩:=both.2 ⟨i1,i2⟩
     refine ⟨b1,b2,i3,fun n=>?_,by omega,?_,?_⟩
     ·rw[i4,hk.2]
      constructor
      ·rintro ((rfl | h) | ⟨h1,u,hu,h⟩)
       ·exact .inr ⟨ht,t,by simp,rfl⟩
       ·exact .inl h
       ·exact .inr ⟨h1,u,by simp[hu],h⟩
      ·rintro (h | ⟨h1,u,hu,h⟩)
       ·exact .inl (.inr h)
       ·rcases Rm.1 hu with rfl | hu
        ·exact .inl (.inl h.symm)
        ·exact .inr ⟨h1,u,hu,h⟩
     ·intro u hu hz
      rcases Rm.1 hu with rfl | hu
      ·omega
      ·exact i6 u hu hz
     ·rcases i7 with h | ⟨u,hu,h⟩
      ·by_cases e:t.level > top
       ·rw[Ra e] at h; exact .inr ⟨t,by simp,h.symm,ht⟩
       ·rw[Q9 e] at h; exact .inl h
      ·exact .inr ⟨u,by simp[hu],h⟩
theorem yQ (l:List Term) (h:∀ t∈l,ke t=true):pV l=true↔∀ t∈l,∀ n:Int,1≤n→n≤t.level→gn l n=true:=by
 have hb:∀ t∈l,0≤t.level∧(t.level≠0→t.assoc≠0):=fun t ht=>by
  have:=h t ht
  simp only[ke,Rg,Rn,Sd] at this
  refine ⟨this.1.1.1.1.2,fun h1 h2=>?_⟩
  have e:=this.2
  simp[h1,h2] at e
 have hs:=wC l [] 0 (fun t ht=>(hb t ht).2) (by simp[dJ]) (by simp)
 have hL:∀ n:Int,1≤n→(gn l n=true↔∃ a,(∃ t∈l,t.level=n)∧∀ t∈l,t.level=n→t.assoc=a):=fun n hn=>zx n l (fun t ht e=>(hb t ht).2 (by omega))
 unfold pV
 cases hx:lu l [] 0 with
 | none =>
  rw[hx] at hs
  simp only[Ru,false_iff]
  intro hall
  refine hs ⟨fun t ht u hu e hz=>?_,fun t ht v _ hp=>by simp[dJ] at hp⟩
  have h1:=hb t ht
  obtain ⟨a,_,h2⟩:=(hL t.level (by omega)).1 (hall t ht t.level (by omega) (by omega))
  exact (h2 t ht rfl).trans (h2 u hu e.symm).symm
 | some x =>
  obtain ⟨a,top⟩:=x
  rw[hx] at hs
  obtain ⟨i1,_,i3,i4,i5,i6,i7⟩:=hs
  simp only[Sd]
  have hmem:∀ n,n∈a.map (·.1)↔n≠0∧∃ t∈l,t.level=n:=fun n=>by rw[i4]; simp
  have hin:∀ x∈a.map (·.1),1≤x∧x≤(top.toNat:Int):=fun x hx=>by
   obtain ⟨h1,t,ht,rfl⟩:=(hmem x).1 hx
   have:=(hb t ht).1
   have:=i6 t ht h1
   omega
  constructor
  ·intro hlen t ht n hn1 hn2
   have htop:t.level≤top:=i6 t ht (by omega)
   have hm:=OM i3 hin (by simp; omega) hn1 (show n≤(top.toNat:Int) by omega)
   obtain ⟨hz,u,hu,rfl⟩:=(hmem n).1 hm
   exact (hL _ hn1).2 ⟨u.assoc,⟨u,hu,rfl⟩,fun w hw e=>i1 w hw u hu e (by omega)⟩
  ·intro hall
   have h1:a.length≤top.toNat:=by
    have:=lI _ (kL top.toNat) i3 (fun x hx=>uk.2 (hin x hx))
    simpa [kL] using this
   have h2:top.toNat≤a.length:=by
    rcases i7 with e | ⟨t,ht,e,hz⟩
    ·subst e; simp
    ·have:=lI (kL top.toNat) (a.map (·.1)) (Fl _) (fun x hx=>by
      rw[uk] at hx
      have:=(hb t ht).1
      obtain ⟨_,⟨u,hu,hl⟩,_⟩:=(hL x hx.1).1 (hall t ht x hx.1 (by omega))
      exact (hmem x).2 ⟨by omega,u,hu,hl⟩)
     simpa [kL] using this
   omega
theorem zR (g:ao):∀ (l:List Term) (i:Int),jm g l i=true↔∀ (k:Nat) (t:Term),l[k]?=some t→jy g (i+k) t=true
 | [],i=>by simp[jm]
 | t :: r,i=>by
  simp only[jm,Rg,zR g r (i+1)]
  constructor
  ·rintro ⟨h1,h2⟩ k u hk
   cases k with
   | zero=>simp at hk; subst hk; simpa using h1
   | succ k =>
    have:=h2 k u (by simpa using hk)
    rw[show i+((k+1:Nat):Int)=i+1+k by push_cast; omega]; exact this
  ·intro h
   refine ⟨by simpa using h 0 t rfl,fun k u hk=>?_⟩
   have:=h (k+1) u (by simpa using hk)
   rw[show i+1+(k:Int)=i+((k+1:Nat):Int) by push_cast; omega]; exact this
theorem qZ (g:ao):∀ (l:List ByteArray) (i:Int),pH g l i=true↔∀ (k:Nat) (s:ByteArray),l[k]?=some s→kA g (i+k) s=true
 | [],i=>by simp[pH]
 | t :: r,i=>by
  simp only[pH,Rg,qZ g r (i+1)]
  constructor
  ·rintro ⟨h1,h2⟩ k u hk
   cases k with
   | zero=>simp at hk; subst hk; simpa using h1
   | succ k =>
    have:=h2 k u (by simpa using hk)
    rw[show i+((k+1:Nat):Int)=i+1+k by push_cast; omega]; exact this
  ·intro h
   refine ⟨by simpa using h 0 t rfl,fun k u hk=>?_⟩
   have:=h (k+1) u (by simpa using hk)
   rw[show i+1+(k:Int)=i+((k+1:Nat):Int) by push_cast; omega]; exact this
theorem B3 (g:ao) (s:ByteArray):lh g s < 0↔s ∉ g.av.map Term.name:=by
 unfold lh
 rcases wA s (g.av.map Term.name) 0 (by omega) with ⟨h1,h2⟩ | ⟨k,h1,h2,_⟩
 ·exact ⟨fun _=>h2,fun _=>h1⟩
 ·constructor
  ·intro h; omega
  ·intro h; exact absurd (Re h2) h
theorem BJ (g:ao) (t:Term):pL g t=true↔∀ n:Int,1≤n→n≤t.level→gn g.av n=true:=by
 simp only[pL,RD,R3]
 constructor
 ·intro h n h1 h2
  have:=h (n - 1).toNat (by omega)
  rwa [show (((n - 1).toNat:Nat):Int)+1=n by omega] at this
 ·intro h k hk
  exact h _ (by omega) (by omega)
theorem HR (g:ao):oD g=bE g:=by
 rw[Si]
 simp only[oD,bE,jr,jQ,qI,Rg,Rn,zR,qZ,DD,RD,Tx,List.any_eq_false,Bool.not_eq_true,J9,qc,RV,Int.zero_add,Int.zero_sub,Bool.not_not]
 have hT:(∀ (k:Nat) (t:Term),g.av[k]?=some t→jy g k t=true)↔(∀ t∈g.av,ke t=true)∧(g.av.map Term.name).Nodup∧(∀ t∈g.av,pL g t=true):=by
  rw[← qT]
  constructor
  ·intro h
   have h':∀ t∈g.av,∃ k:Nat,g.av[k]?=some t:=fun t ht=>List.getElem?_of_mem ht
   refine ⟨fun t ht=>?_,fun k s hk=>?_,fun t ht=>?_⟩
   ·obtain ⟨k,hk⟩:=h' t ht
    have:=h k t hk
    simp only[jy,ke,Rg,Rn] at this ⊢
    simp[this]
   ·rw[Rc,Rf] at hk
    obtain ⟨t,hk,rfl⟩:=hk
    have:=h k t hk
    simp only[jy,Rg,Sd] at this
    exact this.1.1.1.1.1.1.2
   ·obtain ⟨k,hk⟩:=h' t ht
    have:=h k t hk
    simp only[jy,Rg] at this
    exact this.2
  ·rintro ⟨h1,h2,h3⟩ k t hk
   have hm:=Re hk
   have a:=h1 t hm
   have b:=h2 k t.name (by rw[Rc,hk]; rfl)
   have c:=h3 t hm
   simp only[jy,ke,lh,Rg,Rn] at a ⊢
   simp[a,b,c]
 have hN:(∀ (k:Nat) (s:ByteArray),g.az[k]?=some s→kA g k s=true)↔(∀ s∈g.az,fI (eO s)=true)∧g.az.Nodup∧(∀ s∈g.az,s ∉ g.av.map Term.name):=by
  rw[← qT]
  constructor
  ·intro h
   have h':∀ t∈g.az,∃ k:Nat,g.az[k]?=some t:=fun t ht=>List.getElem?_of_mem ht
   refine ⟨fun t ht=>?_,fun k s hk=>?_,fun t ht=>?_⟩
   ·obtain ⟨k,hk⟩:=h' t ht
    have:=h k t hk
    simp only[kA,Rg] at this
    exact this.1.1
   ·have:=h k s hk
    simp only[kA,vM,Rg,Sd] at this
    exact this.1.2
   ·obtain ⟨k,hk⟩:=h' t ht
    have:=h k t hk
    simp only[kA,Rg,Rn] at this
    exact (B3 g t).1 this.2
  ·rintro ⟨h1,h2,h3⟩ k s hk
   have hm:=Re hk
   have a:=h1 s hm
   have b:=h2 k s hk
   have c:=(B3 g s).2 (h3 s hm)
   simp[kA,vM,a,b,c]
 rw[hT,hN]
 constructor
 ·rintro ⟨⟨⟨⟨⟨⟨⟨⟨t1,t2⟩,t3⟩,n1,n2⟩,r1,r2⟩,a1,a2,a3⟩,s1,s2⟩,n3⟩,ru⟩
  have hl:=(yQ g.av t1).1 t3
  exact ⟨⟨⟨⟨⟨⟨⟨t2,t1,a2,fun t ht=>(BJ g t).2 (hl t ht)⟩,⟨by omega,by omega⟩,fun s hs=>by simpa using n3 s hs,a1,fun s hs hm=>a3 s hs s hm rfl⟩,by omega⟩,by omega⟩,s1⟩,by omega⟩,ru⟩
 ·rintro ⟨⟨⟨⟨⟨⟨⟨t2,t1,a2,t3⟩,⟨n1,n2⟩,n3,a1,a3⟩,r1⟩,r2⟩,s1⟩,s2⟩,ru⟩
  have hl:=(yQ g.av t1).2 (fun t ht=>(BJ g t).1 (t3 t ht))
  exact ⟨⟨⟨⟨⟨⟨⟨⟨t1,t2⟩,hl⟩,by omega,by omega⟩,by omega,by omega⟩,a1,a2,fun s hs u hu e=>a3 s hs (e ▸ hu)⟩,s1,by omega⟩,fun s hs=>by simp[n3 s hs]⟩,ru⟩
theorem rp (g:ao) (hg:g.Ok) (hs:g.az.length+g.av.length≤1000):aG Tryz.prog 52 [.agg (aw g)] (gb (bE g)):=by
 rw[← HR]; exact HZ g hg hs
def yZ (n:Nat) (r:aM):Prop:=cm r.left∧0≤r.left∧r.left < n∧r.right.length≤6∧∀ s∈r.right,cm s∧(s < 0→-1 - s < n)
theorem ao.dL.vJ {g:ao} (hg:g.Ok) (h:g.dL) {r:aM} (hr:r∈g.rules):yZ g.az.length r :=
 ⟨(hg.aD r hr).1,(h.left r hr).1,(h.left r hr).2,h.right r hr,fun s hs=>⟨(hg.aD r hr).2.2.2 s hs,fun hn=>h.neg hr hs hn⟩⟩
def uC:SF:=⟨.seq (an [bK 2 false]) <|
 .seq (an [aj 3 0,aR 4 .geq 3 0,aj 2 4]) <|
 .ret,
 [.tmp 2],5⟩
theorem x7:aU Tryz.prog 209 []=some uC:=by kernel_rfl
def xT:SF:=⟨.seq (an [dN 1 0,bK 2 false]) <|
 .seq (an [aC 3 1 1,ay 4 3,p7 5 91 [(.tmp 4),(.val (.fn 209 [] []))],dm 6 5,aj 2 6]) <|
 .ret,
 [.tmp 2],7⟩
theorem Bk:aU Tryz.prog 171 [1]=some xT:=by kernel_rfl
def rb:SF:=⟨.seq (an [bK 3 false]) <|
 .seq (.region false [⟨none,[aj 4 0,aR 5 .lss 4 0,aj 6 5]⟩,⟨(some (6,true)),[ay 7 1,aj 8 0,((some 9),.op (.arith .sub (.val (.val (.int .i64 (-1)))) (.tmp 8))),aY 10 1 7 9,ay 11 10,dm 12 11]⟩,⟨none,[gA 13 6 12,aj 3 13]⟩]) <|
 .ret,
 [.tmp 3],14⟩
theorem wO:aU Tryz.prog 197 []=some rb:=by kernel_rfl
def uA:SF:=⟨.seq (an [dN 2 0,dN 3 1,bK 4 false]) <|
 .seq (an [aC 5 1 2,ay 6 5,((some 7),.op (.qk 197 [] [(.tmp 3)])),bJ 8 91 [6,7],dm 9 8,aj 4 9]) <|
 .ret,
 [.tmp 4],10⟩
theorem yp:aU Tryz.prog 160 [2,3]=some uA:=by kernel_rfl
def po:SF:=⟨.seq (an [dN 2 0,((some 4),.op (.bN (.val (.emp 1))))]) <|
 .seq (.seq (.region false [⟨none,[bM 5 3 2,bJ 6 171 [5],aj 7 6]⟩,⟨(some (7,true)),[bM 8 3 2,aj 9 1,bJ 10 160 [8,9]]⟩,⟨none,[gA 11 7 10]⟩]) <|
 .cond (.tmp 11) (.seq (an [aC 12 0 2,ay 13 12,((some 14),.op (.c4 1 1 [(.val (.int .i64 0))] [(0,(.tmp 13))])),aj 4 14]) <|
 .ret) (.skip)) <|
 .seq (an [((some 4),.op (.bN (.val (.emp 1))))]) <|
 .ret,
 [.tmp 4],15⟩
theorem tq:aU Tryz.prog 170 [2]=some po:=by kernel_rfl
def mT:SF:=⟨.seq (an [dN 2 0,((some 4),.op (.bN (.val (.emp 1))))]) <|
 .seq (.seq (an [bM 5 3 2,aj 6 1,bJ 7 160 [5,6]]) <|
 .cond (.tmp 7) (.seq (an [aC 8 0 2,ay 9 8,((some 10),.op (.c4 1 1 [(.val (.int .i64 0))] [(0,(.tmp 9))])),aj 4 10]) <|
 .ret) (.skip)) <|
 .seq (an [((some 4),.op (.bN (.val (.emp 1))))]) <|
 .ret,
 [.tmp 4],11⟩
theorem r8:aU Tryz.prog 195 [2]=some mT:=by kernel_rfl
def mc:SC :=
 .seq (an [bz 24 .lss 23 22]) <|
 .seq (.cond (.tmp 24) (.skip) (.exit 0)) <|
 .seq (.block 1 (.seq (an [aY 25 1 21 23,ay 26 25,aj 7 26]) <|
 .seq (an [aj 27 7,aR 28 .lss 27 0]) <|
 .cond (.tmp 28) (an [aj 29 5,aj 30 7,((some 31),.op (.arith .sub (.val (.val (.int .i64 (-1)))) (.tmp 30))),((some 32),.op (.c4 1 1 [(.val (.int .i64 0))] [(0,(.tmp 31))])),((some 33),.op (.app 1 8 (.tmp 29) (.tmp 32))),aj 5 33]) (.skip))) <|
 an [aR 34 .add 23 1,aj 23 34]
def oy:SF:=⟨.seq (an [dN 3 0,((some 5),.op (.bN (.val (.emp 1))))]) <|
 .seq (.seq (.region false [⟨none,[aj 8 1,aC 9 0 3,ay 10 9,aY 11 1 8 10,ay 12 11,dm 13 12,aj 14 13]⟩,⟨(some (14,false)),[bM 15 3 3,ay 16 2,bJ 17 160 [15,16],dm 18 17]⟩,⟨none,[cU 19 14 18]⟩]) <|
 .cond (.tmp 19) (.seq (an [((some 5),.op (.bN (.val (.emp 1))))]) <|
 .ret) (.skip)) <|
 .seq (.seq (an [aC 20 1 3,ay 21 20,bj 22 21,bA 23 0]) <|
 .block 0 (.loop mc)) <|
 .seq (an [aj 35 5,aj 5 35]) <|
 .ret,
 [.tmp 5],36⟩
theorem se:aU Tryz.prog 196 [3]=some oy:=by kernel_rfl
theorem JT (r:aM):∀ v∈[V.agg (aO r)],Tree v:=by intro v hv; simp at hv; subst hv; exact dS _ (fO r)
theorem yl (r:aM) (is:List Bool):∀ v∈[V.agg (aO r),bG is],Tree v:=by
 intro v hv; simp at hv
 rcases hv with rfl | rfl
 ·exact dS _ (fO r)
 ·exact gG is
theorem L5 (x:Int):aG Tryz.prog 209 [gi x] (gb (decide (0≤x))):=by
 refine aG.val (wi (l:=[.int .i64 x])) fun H=>?_
 refine aB.of mixed x7 ?_
 simp (disch:=omega) only [↓wr,seval,wq,ah,ag,ak,aa,ab,af,ai,ae,uC]
theorem Ou (r:aM) (hr:aV r.right):aG Tryz.prog 171 [.agg (aO r)] (gb (!r.right.any fun s=>decide (0≤s))):=by
 refine aG.val (JT r) fun H=>?_
 refine aB.of mixed Bk ?_
 simp (disch:=omega) only [↓wr,seval,wq,ah,ag,ak,aa,ab,af,ai,ae,xT,aO,encI]
 refine aF.pure (ln r.right hr 209 [] (by simp) (fun s=>decide (0≤s)) (fun x _=>L5 x) (by kernel_rfl)) (by kernel_rfl) ?_
 simp (disch:=omega) only [↓wr,seval,wq,ah,ag,ak,aa,ab,af,ai,ae]
def AD (is:List Bool) (s:Int):Bool:=decide (s < 0) && !is.getD (-1 - s).toNat false
theorem I4 (is:List Bool) (s:Int) (hs:cm s∧(s < 0→-1 - s < is.length)):aG Tryz.prog 197 [gi s,.aL [bG is] 0] (gb (AD is s)):=by
 refine aG.val ?_ fun H=>?_
 ·intro v hv; simp at hv
  rcases hv with rfl | rfl
  ·exact .val _
  ·exact j8 (by intro v hv; simp at hv; subst hv; exact gG is)
 obtain ⟨⟨h1,h2⟩,h3⟩:=hs
 refine aB.of mixed wO ?_
 simp (disch:=omega) only [↓wr,seval,wq,ah,ag,ak,aa,ab,af,ai,ae,rb,bG]
 refine aq.dec (fun h=>?_) (fun h=>?_)
 ·have hb:is[(-1 - s).toNat]?=some (is[(-1 - s).toNat]'(by omega)):=Q7 (by omega)
  have hbd:is.getD (-1 - s).toNat false=is[(-1 - s).toNat]'(by omega):=by simp[Q6,hb]
  generalize is[(-1 - s).toNat]'(by omega)=b at hb hbd
  simp (disch:=omega) only [↓wr,seval,wq,ah,ag,ak,aa,ab,af,ai,ae,Rc,hb]
  simp only[AD,hbd,h,decide_true,Sq]
 ·simp (disch:=omega) only [↓wr,seval,wq,ah,ag,ak,aa,ab,af,ai,ae]
  simp[AD,h]
theorem IN {is:List Bool} {l:List Int} : (!l.any (AD is))=bZ l is true:=by
 simp only[bZ,List.not_any_eq_all_not]
 congr 1
 funext s
 simp only[AD]
 by_cases h:0≤s
 ·simp[h,show ¬ s < 0 by omega]
 ·simp[h,show s < 0 by omega]
theorem rC (r:aM) (is:List Bool) (hr:aV r.right) (hs:∀ s∈r.right,cm s∧(s < 0→-1 - s < is.length)):aG Tryz.prog 160 [.agg (aO r),bG is] (gb (bZ r.right is true)):=by
 rw[← IN]
 refine aG.val (yl r is) fun H=>?_
 refine aB.of mixed yp ?_
 simp (disch:=omega) only [↓wr,seval,wq,ah,ag,ak,aa,ab,af,ai,ae,uA,aO,bG,encI]
 refine aF.pure (ln r.right hr 197 [.aL [bG is] 0] (by
  intro v hv; simp at hv; subst hv
  exact j8 (by intro v hv; simp at hv; subst hv; exact gG is)) (AD is) (fun x hx=>I4 is x (hs x hx)) (by kernel_rfl)) (by kernel_rfl) ?_
 simp (disch:=omega) only [↓wr,seval,wq,ah,ag,ak,aa,ab,af,ai,ae]
theorem FM {is:List Bool} {l:List Int} : ((!l.any fun s=>decide (0≤s)) && bZ l is true)=bZ l is false:=by
 induction l with
 | nil=>rfl
 | cons s l ih =>
  simp only[bZ,Sn,List.any_cons] at ih ⊢
  rw[← ih]
  by_cases h:0≤s
  ·simp[h]
  ·simp only[h,decide_false,Bool.false_or,if_false]
   cases (l.any fun s=>decide (0≤s)) <;> simp
theorem nD {h:aE} {u:V} {l:List Int} (ho:bc h.view u 1 (l.map fun x=>[gi x])):eh h u (encI l):=eh.Ng (f:=Value.int .i64) ho
theorem DS (r:aM) (is:List Bool) (hr:yZ is.length r):de Tryz.prog 170 [.agg (aO r),bG is] (encI (if bZ r.right is false=true then [r.left] else [])):=by
 obtain ⟨hl,_,_,hr6,hs⟩:=hr
 have hsh:aV r.right:=by unfold aV; omega
 refine de.of (yl r is) ?_
 refine aB.of mixed tq ?_
 rw[← FM]
 simp (disch:=omega) only [↓wr,seval,wq,ah,ag,ak,aa,ab,af,ai,ae,po,aO,encI]
 refine aF.pure (Ou r hsh) (by kernel_rfl) ?_
 repeat' (first | (refine aq.dec (fun _=>?_) (fun _=>?_)) | (refine aq.eq (fun _=>?_) (fun _=>?_)) | (refine aq.ne (fun _=>?_) (fun _=>?_)) | (refine aq.split (fun _=>?_) (fun _=>?_)) | (refine aF.pure (rC r is hsh hs) (by kernel_rfl) ?_) | (simp (disch:=omega) only [↓wr,seval,wq,ah,ag,ak,aa,ab,af,ai,ae,aO,encI]))
 all_goals first
  | (intro n h' hh; rw[Ra (by simp[*])]; exact nD (l:=[r.left]) (.inr ⟨n,rfl,by rw[hh]; simp[View.set]⟩))
  | (intro h' hh; rw[Q9 (by simp[*])]; exact .emp _)
theorem AP (r:aM) (is:List Bool) (hr:yZ is.length r):de Tryz.prog 195 [.agg (aO r),bG is] (encI (if bZ r.right is true=true then [r.left] else [])):=by
 obtain ⟨hl,_,_,hr6,hs⟩:=hr
 have hsh:aV r.right:=by unfold aV; omega
 refine de.of (yl r is) ?_
 refine aB.of mixed r8 ?_
 simp (disch:=omega) only [↓wr,seval,wq,ah,ag,ak,aa,ab,af,ai,ae,mT,aO,encI]
 refine aF.pure (rC r is hsh hs) (by kernel_rfl) ?_
 repeat' (first | (refine aq.dec (fun _=>?_) (fun _=>?_)) | (refine aq.eq (fun _=>?_) (fun _=>?_)) | (refine aq.ne (fun _=>?_) (fun _=>?_)) | (refine aq.split (fun _=>?_) (fun _=>?_)) | (simp (disch:=omega) only [↓wr,seval,wq,ah,ag,ak,aa,ab,af,ai,ae,aO,encI]))
 all_goals first
  | (intro n h' hh; rw[Ra (by simp[*])]; exact nD (l:=[r.left]) (.inr ⟨n,rfl,by rw[hh]; simp[View.set]⟩))
  | (intro h' hh; rw[Q9 (by simp[*])]; exact .emp _)
def fP (l:List Int):List Int:=(l.filter fun s=>decide (s < 0)).map fun s=>-1 - s
theorem Kk (r:aM) (is p:List Bool):∀ v∈[V.agg (aO r),bG is,.aL [bG p] 0],Tree v:=by
 intro v hv; simp at hv
 rcases hv with rfl | rfl | rfl
 ·exact dS _ (fO r)
 ·exact gG is
 ·exact j8 (by intro v hv; simp at hv; subst hv; exact gG p)
set_option maxHeartbeats 1000000 in
theorem CS (r:aM) (is p:List Bool) (hr:yZ is.length r) (hp:p.length=is.length) :
  de Tryz.prog 196 [.agg (aO r),bG is,.aL [bG p] 0] (encI (if (is.getD r.left.toNat false && bZ r.right p true)=true then fP r.right else [])):=by
 obtain ⟨hl,hl0,hl1,hr6,hs⟩:=hr
 have hsh:aV r.right:=by unfold aV; omega
 refine de.of (Kk r is p) ?_
 refine aB.of mixed se ?_
 have hb:is[r.left.toNat]?=some (is[r.left.toNat]'(by omega)):=Q7 (by omega)
 have hbd:is.getD r.left.toNat false=is[r.left.toNat]'(by omega):=by simp[Q6,hb]
 generalize is[r.left.toNat]'(by omega)=b at hb hbd
 rw[hbd]
 simp (disch:=omega) only [↓wr,seval,wq,ah,ag,ak,aa,ab,af,ai,ae,oy,aO,encI,bG,Rc,hb]
 cases b with
 | false =>
  simp (disch:=omega) only [↓wr,seval,wq,ah,ag,ak,aa,ab,af,ai,ae]
  intro h' hh
  exact .emp _
 | true =>
  simp (disch:=omega) only [↓wr,seval,wq,ah,ag,ak,aa,ab,af,ai,ae,aO,encI,bG]
  refine aF.pure (rC r p hsh (fun s hs'=>⟨(hs s hs').1,fun h=>by rw[hp]; exact (hs s hs').2 h⟩)) (by kernel_rfl) ?_
  repeat' (first | (refine aq.dec (fun _=>?_) (fun _=>?_)) | (refine aq.eq (fun _=>?_) (fun _=>?_)) | (refine aq.ne (fun _=>?_) (fun _=>?_)) | (refine aq.split (fun _=>?_) (fun _=>?_)) | (simp (disch:=omega) only [↓wr,seval,wq,ah,ag,ak,aa,ab,af,ai,ae,aO,encI,bG]))
  ·rename_i ha
   rw[Ra (by simp[ha])]
   refine bg.up r.right.length (fun i T H=>(∃ u,T 5=u∧bc H u 1 ((fP (r.right.take i)).map fun x=>[gi x]))∧T 21=encI r.right∧T 22=gi r.right.length∧T 23=gi i) ?_ ?_
   ·exact ⟨⟨_,rfl,.nil⟩,rfl,rfl,rfl⟩
   rintro i k T H' hk ⟨⟨u,h5,hu⟩,h21,h22,h23⟩
   simp (disch:=omega) only [↓wr,seval,wq,ah,ag,ak,aa,ab,af,ai,ae,mc,h5,h21,h22,h23,encI]
   refine aq.dec (fun hc=>?_) (fun hc=>?_)
   ·have hg:r.right[i]?=some (r.right[i]'(by omega)):=Q7 (by omega)
    have hm:r.right[i]'(by omega)∈r.right:=Rj _
    have htk:fP (r.right.take (i+1))=fP (r.right.take i) ++ fP [r.right[i]'(by omega)]:=by
     rw[RG,hg,fP,Sw,RI]; rfl
    have hlen:(fP (r.right.take i)).length≤6:=by
     have h1:(fP (r.right.take i)).length≤(r.right.take i).length:=by simp only[fP,Ro]; exact Sg _ _
     have h2:(r.right.take i).length≤i:=List.length_take_le _ _
     omega
    generalize r.right[i]'(by omega)=s at hg hm htk
    obtain ⟨⟨s1,s2⟩,s3⟩:=hs s hm
    simp (disch:=omega) only [↓wr,seval,wq,ah,ag,ak,aa,ab,af,ai,ae,h5,h21,h22,h23,encI,Rc,hg]
    refine aq.dec (fun hd=>?_) (fun hd=>?_)
    ·simp (disch:=omega) only [↓wr,seval,wq,ah,ag,ak,aa,ab,af,ai,ae,h5,h21,h22,h23]
     intro m hm
     try simp (disch:=omega) only [↓wr,seval,wq,ah,ag,ak,aa,ab,af,ai,ae,h5,h21,h22,h23,dW]
     refine wa (hu.fresh hm) (by simp) (by simp[aS]) (by unfold aK; simp at hlen ⊢; omega) (by unfold aK; simp at hlen ⊢; omega) ?_
     intro u' H2 hu' _
     simp (disch:=omega) only [↓wr,seval,wq,ah,ag,ak,aa,ab,af,ai,ae,h21,h22,h23]
     refine aQ hk (by omega) ⟨⟨u',rfl,?_⟩,h21,h22,rfl⟩
     rw[htk]
     simpa [fP,hd] using hu'
    ·simp (disch:=omega) only [↓wr,seval,wq,ah,ag,ak,aa,ab,af,ai,ae,h5,h21,h22,h23]
     refine aQ hk (by omega) ⟨⟨u,h5,?_⟩,h21,h22,rfl⟩
     rw[htk]
     simpa [fP,hd] using hu
   ·rw[Rz (by omega)] at hu
    simp (disch:=omega) only [↓wr,seval,wq,ah,ag,ak,aa,ab,af,ai,ae,h5,h21,h22,h23]
    intro h' hh
    exact nD (by rw[hh]; exact hu)
  ·rename_i ha
   intro h' hh
   rw[Q9 (by simp[ha])]
   exact .emp _
def pA (is:List Bool) (l:List Int):List Bool:=l.foldl (fun is n=>is.set n.toNat true) is
def stepG (comes:aM→List Bool→List Int) (is:List Bool) (r:aM):List Bool:=pA is (comes r is)
def dA (comes:aM→List Bool→List Int) (rules:List aM) (is:List Bool):List Bool:=rules.foldl (stepG comes) is
def eM (a b:List Bool):Prop:=a.length=b.length∧∀ i,a.getD i false=true→b.getD i false=true
theorem eM.refl (a:List Bool):eM a a:=⟨rfl,fun _ h=>h⟩
theorem eM.trans {a b c:List Bool} (h:eM a b) (k:eM b c):eM a c:=⟨h.1.trans k.1,fun i hi=>k.2 i (h.2 i hi)⟩
theorem eM.set (a:List Bool) (i:Nat):eM a (a.set i true):=by
 refine ⟨by simp,fun j h=>?_⟩
 simp only[Q6,Sz] at h ⊢
 split
 ·split
  ·rfl
  ·rename_i e h2; rw[← e,RH (by omega)] at h; simp at h
 ·exact h
theorem Dx:∀ (l:List Int) (is:List Bool),eM is (pA is l)
 | [],is=>.refl _
 | n :: l,is=>(eM.set is n.toNat).trans (Dx l _)
theorem rf (comes:aM→List Bool→List Int):∀ (rules:List aM) (is:List Bool),eM is (dA comes rules is)
 | [],is=>.refl _
 | r :: rs,is=>(Dx _ _).trans (rf comes rs _)
def dE (a:List Bool):Nat:=a.countP fun x=>x
theorem qm (a:List Bool):dE a≤a.length:=List.countP_le_length
theorem eM.dE:∀ {a b:List Bool},eM a b→dE a≤dE b∧(dE a=dE b→a=b)
 | [],[],_=>⟨Ri _,fun _=>rfl⟩
 | [],_ :: _,h=>by simp[eM] at h
 | _ :: _,[],h=>by simp[eM] at h
 | x :: a,y :: b,h=>by
  have hxy:x=true→y=true:=fun e=>by have:=h.2 0 (by simpa using e); simpa using this
  obtain ⟨h1,h2⟩:=eM.dE (a:=a) (b:=b) ⟨by simpa using h.1,fun i hi=>by have:=h.2 (i+1) (by simpa using hi); simpa using this⟩
  unfold Gv.dE at h1 h2 ⊢
  simp only[List.countP_cons]
  cases x with
  | true =>
   have:=hxy rfl; subst this
   simp only[if_true]
   exact ⟨by omega,fun e=>by rw[h2 (by omega)]⟩
  | false =>
   cases y with
   | false=>simp only[Ru,if_false]; exact ⟨by omega,fun e=>by rw[h2 (by omega)]⟩
   | true=>simp only[Ru,if_false,if_true]; exact ⟨by omega,fun e=>by omega⟩
def gq (comes:aM→List Bool→List Int) (rules:List aM):Nat→List Bool→List Bool
 | 0,is=>is
 | k+1,is=>if dA comes rules is=is then is else gq comes rules k (dA comes rules is)
theorem rr (comes:aM→List Bool→List Int) (rules:List aM):∀ (k:Nat) (is:List Bool),is.length≤dE is+k→dA comes rules (gq comes rules k is)=gq comes rules k is∧eM is (gq comes rules k is)
 | 0,is,h=>by
  have h1:=rf comes rules is
  have h2:=qm (dA comes rules is)
  have h3:=h1.dE
  rw[← h1.1] at h2
  have h4:=qm is
  exact ⟨(h3.2 (by omega)).symm,.refl _⟩
 | k+1,is,h=>by
  simp only[gq]
  by_cases e:dA comes rules is=is
  ·rw[Ra e]; exact ⟨e,.refl _⟩
  ·rw[Q9 e]
   have h1:=rf comes rules is
   have h3:=h1.dE
   have:dE is < dE (dA comes rules is):=by
    rcases Rw (dE is) (dE (dA comes rules is)) with h | h
    ·exact h
    ·exact absurd (h3.2 (by omega)).symm e
   obtain ⟨g1,g2⟩:=rr comes rules k (dA comes rules is) (by rw[← h1.1]; omega)
   exact ⟨g1,h1.trans g2⟩
def uy:SC :=
 .seq (an [bz 26 .lss 25 24]) <|
 .seq (.cond (.tmp 26) (.skip) (.exit 4)) <|
 .seq (.block 5 (.seq (an [aY 27 1 23 25,ay 28 27,aj 11 28]) <|
 .seq (.region false [⟨none,[aj 29 7,aj 30 29]⟩,⟨(some (30,false)),[aj 31 1,aj 32 11,aY 33 1 31 32,ay 34 33,dm 35 34]⟩,⟨none,[cU 36 30 35,aj 7 36]⟩]) <|
 an [aj 37 1,aj 38 11,aY 39 1 37 38,(none,.op (.store 1 (.tmp 39) (.val (.val (.bool true)))))])) <|
 an [aR 40 .add 25 1,aj 25 40]
def uM:SC :=
 .seq (an [bz 17 .lss 16 15]) <|
 .seq (.cond (.tmp 17) (.skip) (.exit 2)) <|
 .seq (.block 3 (.seq (an [aY 18 3 14 16,bM 19 3 18,((some 9),.op (.alloc [(.val (.int .i64 0)),(.emp 1),(.val (.int .i64 0))])),(none,.op (.store 3 (.tmp 9) (.tmp 19)))]) <|
 .seq (an [aj 20 2,bM 21 3 9,aj 22 1,((some 23),.call (.tmp 20) [(.tmp 21),(.tmp 22)]),bj 24 23,bA 25 0]) <|
 .block 4 (.loop uy))) <|
 an [aR 41 .add 16 1,aj 16 41]
def oW:SC :=
 .seq (.seq (an [aj 12 7]) <|
 .cond (.tmp 12) (.skip) (.exit 0)) <|
 .block 1 (.seq (an [bK 7 false]) <|
 .seq (an [aC 13 2 3,ay 14 13,bj 15 14,bA 16 0]) <|
 .block 2 (.loop uM))
def xH:SF:=⟨.seq (an [dN 3 0,((some 6),.op (.bN (.val (.emp 1))))]) <|
 .seq (.seq (an [bK 7 true]) <|
 .block 0 (.loop oW)) <|
 .seq (an [aj 42 1,aj 6 42]) <|
 .ret,
 [.tmp 6],43⟩
theorem Bo:aU Tryz.prog 169 [3]=some xH:=by kernel_rfl
theorem Mp {is:List Bool} {i:Nat} (h:is.getD i false=true):is.set i true=is:=by
 apply List.ext_getElem?
 intro j
 simp only[Q6] at h
 rw[Sz]
 split
 ·rename_i e; subst e
  split
  ·rename_i hl; rw[Q7 hl] at h ⊢; simp at h; simp[h]
  ·rename_i hl; rw[RH (by omega)] at h; simp at h
 ·rfl
theorem I8 {comes:aM→List Bool→List Int} {rules:List aM} {k:Nat} {is:List Bool} (h:dA comes rules is=is):gq comes rules k is=is:=by
 cases k with
 | zero=>rfl
 | succ k=>simp only[gq,h,if_true]
theorem Jg {comes:aM→List Bool→List Int} {rules:List aM} {k:Nat} {is:List Bool} (h:¬ dA comes rules is=is) (hk:is.length≤dE is+k):∃ j,k=j+1∧gq comes rules k is=gq comes rules j (dA comes rules is)∧(dA comes rules is).length≤dE (dA comes rules is)+j:=by
 have h1:=rf comes rules is
 have h3:=h1.dE
 have h5:=qm (dA comes rules is)
 have:dE is < dE (dA comes rules is):=by
  rcases Rw (dE is) (dE (dA comes rules is)) with h | h
  ·exact h
  ·exact absurd (h3.2 (by omega)).symm (by assumption)
 have hl:=h1.1
 obtain ⟨j,rfl⟩:∃ j,k=j+1:=⟨k - 1,by omega⟩
 exact ⟨j,rfl,by simp only[gq]; rw[Q9 h],by omega⟩
theorem Mk {a is:List Bool} {i:Nat} {b:Bool} (hle:eM a is) (hi:i < is.length) (hb:b = !decide (is=a)):(b || !is.getD i false) = !decide (is.set i true=a):=by
 cases hx:is.getD i false with
 | true=>rw[Mp hx,hb]; simp
 | false =>
  have:¬ is.set i true=a:=fun e=>by
   have h1:(is.set i true).getD i false=true:=by simp[Q6,hi]
   rw[e] at h1
   have:=hle.2 i h1
   rw[hx] at this; simp at this
  simp[this]
set_option maxHeartbeats 8000000 in
theorem Bb (g:ao) (hr:g.rules.length≤40) (comes:aM→List Bool→List Int) (f:FuncId) (capt capt':List V) (hok:db Tryz.prog f=true) (N:Nat) (hN:N≤16)
  (hc:∀ r∈g.rules,∀ is:List Bool,is.length=N→de Tryz.prog f (.agg (aO r) :: bG is :: capt') (encI (comes r is))∧(comes r is).length≤100∧∀ n∈comes r is,cm n∧0≤n∧n < N)
  (id:Nat) (is0:List Bool) (his:is0.length=N) (H:View) (hH:H id=.arr 1 (cR is0)) (hlent:∀ H':View,(∀ k,H k≠.dead→k≠id→H' k=H k)→nW H' capt capt') :
  aB Tryz.prog 169 [.agg (aw g),.sl id 0 N 1,.fn f [] capt] H fun r H'=>r=.sl id 0 N 1∧H' id=.arr 1 (cR (gq comes g.rules 16 is0))∧∀ k,H k≠.dead→k≠id→H' k=H k:=by
 refine aB.of mixed Bo ?_
 simp (disch:=omega) only [↓wr,seval,wq,ah,ag,ak,aa,ab,af,ai,ae,xH,aw,encS]
 refine bg.intro (fun k T H'=>∃ is:List Bool,is.length=N∧H' id=.arr 1 (cR is)∧(∀ k,H k≠.dead→k≠id→H' k=H k)∧T 1=.sl id 0 N 1∧T 2=.fn f [] capt∧T 3=.aL (aw g) 0 ∧
  ((T 7=gb true∧∃ j,k=j+1∧gq comes g.rules j is=gq comes g.rules 16 is0∧N≤dE is+j)∨(T 7=gb false∧is=gq comes g.rules 16 is0))) 17 ?_ ?_
 ·exact ⟨is0,his,hH,fun _ _ _=>rfl,rfl,rfl,rfl,.inl ⟨rfl,16,rfl,rfl,by omega⟩⟩
 rintro k T H1 ⟨is,hlen,hid,hfr,t1,t2,t3,h7⟩
 rcases h7 with ⟨h7,j,rfl,hgr,hj⟩ | ⟨h7,hgr⟩
 ·simp (disch:=omega) only [↓wr,seval,wq,ah,ag,ak,aa,ab,af,ai,ae,oW,t1,t2,t3,h7,aw,encS]
  refine bg.up g.rules.length (fun i T H'=>∃ ni:List Bool,ni.length=N∧eM is ni∧ni=(g.rules.take i).foldl (stepG comes) is∧H' id=.arr 1 (cR ni)∧(∀ k,H k≠.dead→k≠id→H' k=H k)∧T 1=.sl id 0 N 1∧T 2=.fn f [] capt∧T 3=.aL (aw g) 0 ∧
   T 7=gb (!decide (ni=is))∧T 14=.aH (g.rules.map aO)∧T 15=gi g.rules.length∧T 16=gi i) ?_ ?_
  ·exact ⟨is,hlen,.refl _,rfl,hid,hfr,t1,t2,t3,by simp; rfl,rfl,rfl,rfl⟩
  clear t1 t2 t3 h7 hid hfr
  rintro i k T H1 hk ⟨ni,hlen2,hle2,hst,hid,hfr,t1,t2,t3,h7,h14,h15,h16⟩
  simp (disch:=omega) only [↓wr,seval,wq,ah,ag,ak,aa,ab,af,ai,ae,uM,t1,t2,t3,h7,h14,h15,h16,aw,encS]
  refine aq.dec (fun hcc=>?_) (fun hcc=>?_)
  ·have hg2:g.rules[i]?=some (g.rules[i]'(by omega)):=Q7 (by omega)
   have hmem:g.rules[i]'(by omega)∈g.rules:=Rj _
   have htk:(g.rules.take (i+1)).foldl (stepG comes) is=stepG comes ((g.rules.take i).foldl (stepG comes) is) (g.rules[i]'(by omega)):=by
    rw[RG,hg2,RR]; rfl
   generalize g.rules[i]'(by omega)=r at hg2 hmem htk
   obtain ⟨hcp,hcl,hcn⟩:=hc r hmem ni hlen2
   simp (disch:=omega) only [↓wr,seval,wq,ah,ag,ak,aa,ab,af,ai,ae,t1,t2,t3,h7,h14,h15,h16,aO,encI,Rc,hg2]
   intro b hb
   have hbid:b≠id:=by rintro rfl; rw[hid] at hb; simp at hb
   try simp (disch:=omega) only [↓wr,seval,wq,ah,ag,ak,aa,ab,af,ai,ae,t1,t2,t3,h7,h14,h15,h16]
   refine aF.P0 hcp hok ⟨fh.tree (dS _ (fO r)),zI (by simp[View.set,hbid.symm,hid]) hlen2.symm,hlent _ (fun k hk hki=>?_)⟩ ?_
   ·have hkb:k≠b:=by
     rintro rfl
     rw[hfr k hk hki] at hb
     exact hk hb
    simp[View.set,hkb,hfr k hk hki]
   generalize hl:comes r ni=l at hcl hcn
   simp (disch:=omega) only [↓wr,seval,wq,ah,ag,ak,aa,ab,af,ai,ae,t1,t2,t3,h7,h14,h15,h16,encI]
   refine bg.up l.length (fun q T H'=>∃ is3:List Bool,is3.length=N∧eM is is3∧is3=pA ni (l.take q)∧H' id=.arr 1 (cR is3)∧(∀ k,H k≠.dead→k≠id→H' k=H k)∧T 1=.sl id 0 N 1∧T 2=.fn f [] capt∧T 3=.aL (aw g) 0 ∧
    T 7=gb (!decide (is3=is))∧T 14=.aH (g.rules.map aO)∧T 15=gi g.rules.length∧T 16=gi i∧T 23=encI l∧T 24=gi l.length∧T 25=gi q) ?_ ?_
   ·refine ⟨ni,hlen2,hle2,rfl,by simp[View.set,hbid.symm,hid],fun k hk hki=>?_,t1,t2,t3,h7,h14,h15,h16,rfl,rfl,rfl⟩
    have hkb:k≠b:=by
     rintro rfl
     rw[hfr k hk hki] at hb
     exact hk hb
    simp[View.set,hkb,hfr k hk hki]
   clear t1 t2 t3 h7 h14 h15 h16 hid hfr hb hbid
   rintro q k2 T H1 hk2 ⟨is3,hlen3,hle3,hst3,hid,hfr,t1,t2,t3,h7,h14,h15,h16,h23,h24,h25⟩
   simp (disch:=omega) only [↓wr,seval,wq,ah,ag,ak,aa,ab,af,ai,ae,uy,t1,t2,t3,h7,h14,h15,h16,h23,h24,h25,encI]
   refine aq.dec (fun hqc=>?_) (fun hqc=>?_)
   ·have hgq:l[q]?=some (l[q]'(by omega)):=Q7 (by omega)
    have hmq:l[q]'(by omega)∈l:=Rj _
    have htq:pA ni (l.take (q+1))=(pA ni (l.take q)).set (l[q]'(by omega)).toNat true:=by
     unfold pA; rw[RG,hgq,RR]; rfl
    generalize l[q]'(by omega)=n at hgq hmq htq
    obtain ⟨⟨n1,n2⟩,n3,n4⟩:=hcn n hmq
    have hbn:is3.getD n.toNat false=is3[n.toNat]'(by omega):=by simp[Q6,show n.toNat < is3.length by omega]
    have hnew:=Mk hle3 (show n.toNat < is3.length by omega) (b:=!decide (is3=is)) rfl
    rw[hbn] at hnew
    have hbg:=wj (show n.toNat < is3.length by omega)
    generalize is3[n.toNat]'(by omega)=x at hnew hbg hbn
    have fin:∀ (T2:Env),T2 7=gb (!decide (is3.set n.toNat true=is))→T2 1=.sl id 0 N 1→T2 2=.fn f [] capt→T2 3=.aL (aw g) 0→T2 14=.aH (g.rules.map aO)→T2 15=gi g.rules.length→T2 16=gi i→T2 23=encI l→T2 24=gi l.length→T2 25=gi ((q:Int)+1) →
      ∃ k',k' < k2∧Gz l.length k' (fun q T H'=>∃ is3:List Bool,is3.length=N∧eM is is3∧is3=pA ni (l.take q)∧H' id=.arr 1 (cR is3)∧(∀ k,H k≠.dead→k≠id→H' k=H k)∧T 1=.sl id 0 N 1∧T 2=.fn f [] capt∧T 3=.aL (aw g) 0 ∧
       T 7=gb (!decide (is3=is))∧T 14=.aH (g.rules.map aO)∧T 15=gi g.rules.length∧T 16=gi i∧T 23=encI l∧T 24=gi l.length∧T 25=gi q) T2 (H1.set id (.arr 1 (cR (is3.set n.toNat true)))):=by
     intro T2 a7 a1 a2 a3 a14 a15 a16 a23 a24 a25
     refine aQ hk2 (by omega) ⟨is3.set n.toNat true,by simp[hlen3],hle3.trans (.set _ _),by rw[htq,← hst3],by simp[View.set],fun k hk hki=>by simp[View.set,hki,hfr k hk hki],a1,a2,a3,a7,a14,a15,a16,a23,a24,by rw[a25]; rfl⟩
    simp (disch:=omega) only [↓wr,seval,wq,ah,ag,ak,aa,ab,af,ai,ae,t1,t2,t3,h7,h14,h15,h16,h23,h24,h25,encI,Rc,hgq]
    refine aq.dec (fun e=>?_) (fun e=>?_)
    ·simp (disch:=omega) only [↓wr,seval,wq,ah,ag,ak,aa,ab,af,ai,ae,t1,t2,t3,h7,h14,h15,h16,h23,h24,h25,encI,hid,hbg,Ro]
     refine ⟨by omega,by omega,?_⟩
     try simp (disch:=omega) only [↓wr,seval,wq,ah,ag,ak,aa,ab,af,ai,ae,t1,t2,t3,h7,h14,h15,h16,h23,h24,h25,encI,hid,hbg,Ro]
     refine ⟨by omega,by omega,?_⟩
     rw[qU]
     exact fin _ (by rw[← hnew]; simp[e]; rfl) t1 t2 t3 h14 h15 h16 h23 h24 rfl
    ·simp (disch:=omega) only [↓wr,seval,wq,ah,ag,ak,aa,ab,af,ai,ae,t1,t2,t3,h7,h14,h15,h16,h23,h24,h25,encI,hid,hbg,Ro]
     refine ⟨by omega,by omega,?_⟩
     rw[qU]
     exact fin _ (by rw[← hnew]; simp[e]; rfl) t1 t2 t3 h14 h15 h16 h23 h24 rfl
   ·rw[Rz (by omega)] at hst3
    simp (disch:=omega) only [↓wr,seval,wq,ah,ag,ak,aa,ab,af,ai,ae,t1,t2,t3,h7,h14,h15,h16,h23,h24,h25]
    refine aQ hk (by omega) ⟨is3,hlen3,hle3,?_,hid,hfr,t1,t2,t3,h7,h14,h15,rfl⟩
    rw[htk,← hst,stepG,hl,← hst3]
  ·rw[Rz (by omega)] at hst
   simp (disch:=omega) only [↓wr,seval,wq,ah,ag,ak,aa,ab,af,ai,ae,t1,t2,t3,h7,h14,h15,h16]
   have hrd:ni=dA comes g.rules is:=hst
   by_cases e:ni=is
   ·refine ⟨0,by omega,ni,hlen2,hid,hfr,rfl,.inr ⟨by simp[e],?_⟩⟩
    rw[← hgr,e]
    exact (I8 (by rw[← hrd]; exact e)).symm
   ·obtain ⟨j2,rfl,e2,e3⟩:=Jg (k:=j) (fun h=>e (hrd.trans h)) (by rw[hlen]; exact hj)
    refine ⟨j2+1,by omega,ni,hlen2,hid,hfr,rfl,.inl ⟨by simp[e],j2,rfl,?_,?_⟩⟩
    ·rw[← hgr,e2,hrd]
    ·rw[← hrd,hlen2] at e3; exact e3
 ·simp (disch:=omega) only [↓wr,seval,wq,ah,ag,ak,aa,ab,af,ai,ae,oW,t1,t2,t3,h7,aw,encS]
  exact ⟨hgr ▸ hid,hfr⟩
theorem tF {α:Type} {f:α→α} {x:α} (h:f x=x):∀ n,iter f n x=x
 | 0=>rfl
 | n+1=>by rw[iter,h,tF h n]
theorem Fh {α:Type} (f:α→α):∀ (a b:Nat) (x:α),iter f (a+b) x=iter f b (iter f a x)
 | 0,b,x=>by rw[R8]; rfl
 | a+1,b,x=>by rw[Nat.add_right_comm,iter,iter,Fh f a b]
theorem Ah (comes:aM→List Bool→List Int) (rules:List aM):∀ (k:Nat) (is:List Bool),gq comes rules k is=iter (dA comes rules) k is
 | 0,is=>rfl
 | k+1,is=>by
  simp only[gq,iter]
  by_cases e:dA comes rules is=is
  ·rw[Ra e,e,tF e]
  ·rw[Q9 e,Ah comes rules k]
theorem vS (comes:aM→List Bool→List Int) (rules:List aM) (is:List Bool) (h:is.length≤16):gq comes rules 16 is=iter (dA comes rules) is.length is:=by
 have h1:=(rr comes rules is.length is (by omega)).1
 rw[Ah] at h1 ⊢
 obtain ⟨m,hm⟩:∃ m,16=is.length+m:=⟨16 - is.length,by omega⟩
 rw[hm,Fh,tF h1]
def kR (t:Bool) (r:aM) (is:List Bool):List Int:=if bZ r.right is t=true then [r.left] else []
def qt (p:List Bool) (r:aM) (is:List Bool):List Int:=if (is.getD r.left.toNat false && bZ r.right p true)=true then fP r.right else []
theorem Gs (g:ao) (t:Bool):dA (kR t) g.rules=js g t:=by
 funext is
 unfold dA js
 congr 1
 funext is r
 unfold stepG kR dP
 split <;> rfl
theorem zn:∀ (l:List Int) (is:List Bool),pA is (fP l)=l.foldl mark is
 | [],is=>rfl
 | s :: l,is=>by
  have ih:=zn l
  unfold pA fP at ih ⊢
  rw[Rx,← ih]
  unfold mark
  by_cases h:s < 0
  ·rw[Ra h,List.filter_cons_of_pos (by simpa using h)]; rfl
  ·rw[Q9 h,List.filter_cons_of_neg (by simpa using h)]
theorem Gu (g:ao) (p:List Bool):dA (qt p) g.rules=sw g p:=by
 funext is
 unfold dA sw
 congr 1
 funext is r
 unfold stepG qt jE
 split
 ·exact zn _ _
 ·rfl
theorem Dm {g:ao} (h:bE g=true) (t:Bool):gq (kR t) g.rules 16 (cn g)=au g t:=by
 have hf:=bL h
 have hl:(cn g).length=g.az.length:=by simp[cn]
 have:=hf.az
 rw[vS _ _ _ (by rw[hl]; exact hf.az),Gs,hl,au,Ra h]
theorem LU {g:ao} (h:bE g=true):gq (qt (au g true)) g.rules 16 ((cn g).set g.start.toNat true)=bP g:=by
 have hf:=bL h
 have hl:((cn g).set g.start.toNat true).length=g.az.length:=by simp[cn]
 rw[vS _ _ _ (by rw[hl]; exact hf.az),Gu,hl,bP,Ra h]
def qW:SF:=⟨.seq (an [dN 1 0,((some 2),.op (.bN (.val (.emp 1))))]) <|
 .seq (.seq (an [bM 3 4 1,bJ 4 52 [3],dm 5 4]) <|
 .cond (.tmp 5) (.seq (an [((some 2),.op (.bN (.val (.emp 1))))]) <|
 .ret) (.skip)) <|
 .seq (an [bM 6 4 1,aC 7 1 1,ay 8 7,bj 9 8,((some 10),.op (.make 1 1 [(.val (.bool false))] (.tmp 9) (.tmp 9))),p7 11 169 [(.tmp 6),(.tmp 10),(.val (.fn 170 [] []))],aj 2 11]) <|
 .ret,
 [.tmp 2],12⟩
theorem vR:aU Tryz.prog 118 [1]=some qW:=by kernel_rfl
def pk:SF:=⟨.seq (an [dN 1 0,((some 2),.op (.bN (.val (.emp 1))))]) <|
 .seq (.seq (an [bM 3 4 1,bJ 4 52 [3],dm 5 4]) <|
 .cond (.tmp 5) (.seq (an [((some 2),.op (.bN (.val (.emp 1))))]) <|
 .ret) (.skip)) <|
 .seq (an [bM 6 4 1,aC 7 1 1,ay 8 7,bj 9 8,((some 10),.op (.make 1 1 [(.val (.bool false))] (.tmp 9) (.tmp 9))),p7 11 169 [(.tmp 6),(.tmp 10),(.val (.fn 195 [] []))],aj 2 11]) <|
 .ret,
 [.tmp 2],12⟩
theorem ug:aU Tryz.prog 157 [1]=some pk:=by kernel_rfl
def pY:SF:=⟨.seq (an [dN 1 0,((some 2),.op (.bN (.val (.emp 1))))]) <|
 .seq (.seq (an [bM 5 4 1,bJ 6 52 [5],dm 7 6]) <|
 .cond (.tmp 7) (.seq (an [((some 2),.op (.bN (.val (.emp 1))))]) <|
 .ret) (.skip)) <|
 .seq (an [bM 8 4 1,bJ 9 157 [8],((some 3),.op (.alloc [(.emp 1)])),(none,.op (.store 1 (.tmp 3) (.tmp 9)))]) <|
 .seq (an [aC 10 1 1,ay 11 10,bj 12 11,((some 13),.op (.make 1 1 [(.val (.bool false))] (.tmp 12) (.tmp 12))),aj 4 13]) <|
 .seq (an [aj 14 4,aC 15 3 1,ay 16 15,aY 17 1 14 16,(none,.op (.store 1 (.tmp 17) (.val (.val (.bool true)))))]) <|
 .seq (an [bM 18 4 1,aj 19 4,((some 20),.op (.qk 196 [] [(.tmp 3)])),bJ 21 169 [18,19,20],aj 2 21]) <|
 .ret,
 [.tmp 2],22⟩
theorem uR:aU Tryz.prog 158 [1]=some pY:=by kernel_rfl
structure ao.Small (g:ao):Prop where
 names:g.az.length+g.av.length≤1000
theorem vU {h':aE} {id n:Nat} {is:List Bool} (hv:h'.view id=.arr 1 (cR is)) (hn:n=is.length):eh h' (.sl id 0 n 1) (bG is):=by
 subst hn; exact BR hv
set_option maxHeartbeats 2000000 in
theorem vH (g:ao) (hg:g.Ok) (hs:g.Small):de Tryz.prog 118 [.agg (aw g)] (bG (au g false)):=by
 refine de.of (eU g) ?_
 refine aB.of mixed vR ?_
 have hn:=hg.az
 unfold aV at hn
 simp (disch:=omega) only [↓wr,seval,wq,ah,ag,ak,aa,ab,af,ai,ae,qW,aw,encS]
 refine aF.pure (rp g hg hs.names) (by kernel_rfl) ?_
 repeat' (first | (refine aq.dec (fun _=>?_) (fun _=>?_)) | (refine aq.eq (fun _=>?_) (fun _=>?_)) | (refine aq.ne (fun _=>?_) (fun _=>?_)) | (refine aq.split (fun _=>?_) (fun _=>?_)) | (simp (disch:=omega) only [↓wr,seval,wq,ah,ag,ak,aa,ab,af,ai,ae,aw,encS]))
 ·rename_i hr
  have hf:=bL hr
  have h1:=hf.pN
  have h2:=hf.az
  try simp (disch:=omega) only [↓wr,seval,wq,ah,ag,ak,aa,ab,af,ai,ae,aw,encS]
  refine ⟨⟨by omega,by unfold aK; omega,by unfold aK; omega⟩,fun h=>by omega,?_⟩
  intro _ n
  try simp (disch:=omega) only [↓wr,seval,wq,ah,ag,ak,aa,ab,af,ai,ae,aw,encS]
  refine aF.eJ ((Bb g hf.rules (kR false) 170 [] [] (by kernel_rfl) g.az.length h2 (fun r hr' is his=>⟨DS r is (by rw[his]; exact hf.vJ hg hr'),?_,?_⟩) n (cn g) (by simp[cn]) _ (by simp[View.set,cn]) (fun H' _=>trivial)).mono ?_)
  ·unfold kR; split <;> simp
  ·intro m hm
   unfold kR at hm
   split at hm
   ·simp only[RU] at hm; subst hm
    exact ⟨(hg.aD r hr').1,hf.left r hr'⟩
   ·simp at hm
  ·rintro r H' ⟨rfl,hid,_⟩
   simp (disch:=omega) only [↓wr,seval,wq,ah,ag,ak,aa,ab,af,ai,ae]
   intro h' hh
   rw[Dm hr] at hid
   exact vU (by rw[hh]; exact hid) (fG hr _).symm
 ·rename_i hr
  intro h' hh
  simp only[au,hr]
  exact .emp _
set_option maxHeartbeats 2000000 in
theorem sH (g:ao) (hg:g.Ok) (hs:g.Small):de Tryz.prog 157 [.agg (aw g)] (bG (au g true)):=by
 refine de.of (eU g) ?_
 refine aB.of mixed ug ?_
 have hn:=hg.az
 unfold aV at hn
 simp (disch:=omega) only [↓wr,seval,wq,ah,ag,ak,aa,ab,af,ai,ae,pk,aw,encS]
 refine aF.pure (rp g hg hs.names) (by kernel_rfl) ?_
 repeat' (first | (refine aq.dec (fun _=>?_) (fun _=>?_)) | (refine aq.eq (fun _=>?_) (fun _=>?_)) | (refine aq.ne (fun _=>?_) (fun _=>?_)) | (refine aq.split (fun _=>?_) (fun _=>?_)) | (simp (disch:=omega) only [↓wr,seval,wq,ah,ag,ak,aa,ab,af,ai,ae,aw,encS]))
 ·rename_i hr
  have hf:=bL hr
  have h1:=hf.pN
  have h2:=hf.az
  try simp (disch:=omega) only [↓wr,seval,wq,ah,ag,ak,aa,ab,af,ai,ae,aw,encS]
  refine ⟨⟨by omega,by unfold aK; omega,by unfold aK; omega⟩,fun h=>by omega,?_⟩
  intro _ n
  try simp (disch:=omega) only [↓wr,seval,wq,ah,ag,ak,aa,ab,af,ai,ae,aw,encS]
  refine aF.eJ ((Bb g hf.rules (kR true) 195 [] [] (by kernel_rfl) g.az.length h2 (fun r hr' is his=>⟨AP r is (by rw[his]; exact hf.vJ hg hr'),?_,?_⟩) n (cn g) (by simp[cn]) _ (by simp[View.set,cn]) (fun H' _=>trivial)).mono ?_)
  ·unfold kR; split <;> simp
  ·intro m hm
   unfold kR at hm
   split at hm
   ·simp only[RU] at hm; subst hm
    exact ⟨(hg.aD r hr').1,hf.left r hr'⟩
   ·simp at hm
  ·rintro r H' ⟨rfl,hid,_⟩
   simp (disch:=omega) only [↓wr,seval,wq,ah,ag,ak,aa,ab,af,ai,ae]
   intro h' hh
   rw[Dm hr] at hid
   exact vU (by rw[hh]; exact hid) (fG hr _).symm
 ·rename_i hr
  intro h' hh
  simp only[au,hr]
  exact .emp _
theorem rI {g:ao} (hr:bE g=true):(bP g).length=g.az.length:=by
 rw[bP,Ra hr,yc (f:=sw g (au g true)) (fun is=>x6 (fun is x=>KO _ is x) g.rules is)]
 simp[cn]
set_option maxHeartbeats 2000000 in
theorem CX (g:ao) (hg:g.Ok) (hs:g.Small):de Tryz.prog 158 [.agg (aw g)] (bG (bP g)):=by
 refine de.of (eU g) ?_
 refine aB.of mixed uR ?_
 have hn:=hg.az
 unfold aV at hn
 simp (disch:=omega) only [↓wr,seval,wq,ah,ag,ak,aa,ab,af,ai,ae,pY,aw,encS]
 refine aF.pure (rp g hg hs.names) (by kernel_rfl) ?_
 repeat' (first | (refine aq.dec (fun _=>?_) (fun _=>?_)) | (refine aq.eq (fun _=>?_) (fun _=>?_)) | (refine aq.ne (fun _=>?_) (fun _=>?_)) | (refine aq.split (fun _=>?_) (fun _=>?_)) | (simp (disch:=omega) only [↓wr,seval,wq,ah,ag,ak,aa,ab,af,ai,ae,aw,encS]))
 ·rename_i hr
  have hf:=bL hr
  have h1:=hf.pN
  have h2:=hf.az
  have h3:=hf.jT
  have h4:=hf.start
  have hpl:=fG hr true
  try simp (disch:=omega) only [↓wr,seval,wq,ah,ag,ak,aa,ab,af,ai,ae,aw,encS]
  refine aF.pure (sH g hg hs).pure (by kernel_rfl) ?_
  simp (disch:=omega) only [↓wr,seval,wq,ah,ag,ak,aa,ab,af,ai,ae,aw,encS,bG]
  intro q
  try simp (disch:=omega) only [↓wr,seval,wq,ah,ag,ak,aa,ab,af,ai,ae,aw,encS,set_set]
  refine ⟨⟨by omega,by unfold aK; omega,by unfold aK; omega⟩,fun h=>by omega,?_⟩
  intro _ n hn'
  have hnq:=(fZ hn' gV).1
  try simp (disch:=omega) only [↓wr,seval,wq,ah,ag,ak,aa,ab,af,ai,ae,aw,encS,set_set]
  have hbg:=wj (is:=cn g) (show g.start.toNat < (cn g).length by simp[cn]; omega)
  refine ⟨by omega,by simp; omega,?_⟩
  refine aF.eJ ((Bb g hf.rules (qt (au g true)) 196 [.ptr q 0 0] [.aL [bG (au g true)] 0] (by kernel_rfl) g.az.length h2 (fun r hr' is his=>⟨CS r is (au g true) (by rw[his]; exact hf.vJ hg hr') (by rw[his,hpl]),?_,?_⟩) n ((cn g).set g.start.toNat true) (by simp[cn]) _ ?_ (fun H' hfr=>⟨fh.box (z:=1) ?_ ?_,trivial⟩)).mono ?_)
  ·have h6:=hf.right r hr'
   unfold qt
   split
   ·have:(fP r.right).length≤r.right.length:=by simp only[fP,Ro]; exact Sg _ _
    omega
   ·simp
  ·intro m hm
   unfold qt at hm
   split at hm
   ·simp only[fP,Rv,RQ,Rn] at hm
    obtain ⟨s,⟨hs',hneg⟩,rfl⟩:=hm
    have a:=hf.neg hr' hs' hneg
    have b:=((hg.aD r hr').2.2.2 s hs').1
    exact ⟨⟨by omega,by omega⟩,by omega,a⟩
   ·simp at hm
  ·simp only[View.set,if_true]
   congr 1
   rw[← qU]
   unfold cn at hbg ⊢
   rw[BW,hbg]
   rfl
  ·rw[hfr q (by simp[View.set,Ne.symm hnq]) (Ne.symm hnq)]
   simp[View.set,Ne.symm hnq]
   rfl
  ·intro v hv; simp at hv; subst hv; exact gG _
  ·rintro r H' ⟨rfl,hid,_⟩
   simp (disch:=omega) only [↓wr,seval,wq,ah,ag,ak,aa,ab,af,ai,ae]
   intro h' hh
   rw[LU hr] at hid
   exact vU (by rw[hh]; exact hid) (by rw[rI hr])
 ·rename_i hr
  intro h' hh
  simp only[bP,hr]
  exact .emp _
def cp (p q:List Bool) (r:aM):Bool:=q.getD r.left.toNat false && bZ r.right p true
def dQ (p q:List Bool):List aM→Int→List Int
 | [],_=>[]
 | r :: l,i=>if cp p q r=true then i :: dQ p q l (i+1) else dQ p q l (i+1)
def gO (acc:List Int) (r:aM):List Int:=if r.left∈acc then acc else acc ++ [r.left]
def dr (p q:List Bool) (l:List aM):List Int:=(l.filter (cp p q)).foldl gO []
def cE (o:List Int) (x:Int):Int:=cB (fun y=>y == x) o 0
def bY (f:Int→Int) (r:aM):aM:=⟨f r.left,r.right.map fun s=>if s < 0 then -1 - f (-1 - s) else s,r.prec⟩
def oX (g:ao) (f:Int→Int) (p q:List Bool):ao :=
 ⟨g.av,(dr p q g.rules).map fun x=>g.az.getD x.toNat ⟨#[]⟩,(g.rules.filter (cp p q)).map (bY f),f g.start⟩
def ta:ao:=⟨[],[],[],0⟩
instance:DecidableEq Term:=fun a b=>decidable_of_iff (a.name=b.name∧a.level=b.level∧a.assoc=b.assoc) (by cases a; cases b; simp)
instance:DecidableEq aM:=fun a b=>decidable_of_iff (a.left=b.left∧a.prec=b.prec∧a.right=b.right) (by cases a; cases b; simp[and_comm])
instance:DecidableEq ao:=fun a b=>decidable_of_iff (a.av=b.av∧a.az=b.az∧a.rules=b.rules∧a.start=b.start) (by cases a; cases b; simp)
def gL (g:ao):ao × List Int × Int :=
 if bE g=true then
  if (au g true).getD g.start.toNat false=true then (oX g (cE (dr (au g true) (bP g) g.rules)) (au g true) (bP g),dQ (au g true) (bP g) g.rules 0,0)
  else (ta,[],9)
 else (ta,[],1)
theorem mF {g:ao} (hr:bE g=true):gL g=if (au g true).getD g.start.toNat false=true then (oX g (cE (dr (au g true) (bP g) g.rules)) (au g true) (bP g),dQ (au g true) (bP g) g.rules 0,0) else (ta,[],9):=by
 rw[gL,Ra hr]
theorem qh (p q:List Bool):∀ (a b:List aM) (i:Int),dQ p q (a ++ b) i=dQ p q a i ++ dQ p q b (i+a.length)
 | [],b,i=>by simp[dQ]
 | r :: a,b,i=>by
  simp only[RM,dQ,qh p q a b (i+1),Rp]
  have:i+1+(a.length:Int)=i+((a.length+1:Nat):Int):=by push_cast; omega
  rw[this]
  split <;> simp
theorem rz (p q:List Bool):∀ (a:List aM) (i:Int),(dQ p q a i).length=(a.filter (cp p q)).length
 | [],i=>rfl
 | r :: a,i=>by
  simp only[dQ,Td]
  split <;> simp[rz p q a]
theorem vm (p q:List Bool):∀ (a:List aM) (i:Int) (k:Nat),k < (dQ p q a i).length→∃ m:Nat,(dQ p q a i)[k]?=some (i+m)∧a[m]?=(a.filter (cp p q))[k]?∧m < a.length
 | [],i,k,h=>by simp[dQ] at h
 | r :: a,i,k,h=>by
  simp only[dQ,Td] at h ⊢
  by_cases hr:cp p q r=true
  ·rw[Ra hr] at h ⊢
   rw[Ra hr]
   cases k with
   | zero=>exact ⟨0,by simp,by simp,by simp⟩
   | succ k =>
    obtain ⟨m,h1,h2,h3⟩:=vm p q a (i+1) k (by simpa using h)
    exact ⟨m+1,by rw[RS,h1]; congr 1; push_cast; omega,by simpa using h2,by simpa using h3⟩
  ·rw[Q9 hr] at h ⊢
   rw[Q9 hr]
   obtain ⟨m,h1,h2,h3⟩:=vm p q a (i+1) k h
   exact ⟨m+1,by rw[h1]; congr 1; push_cast; omega,by simpa using h2,by simpa using h3⟩
theorem B4 (p q:List Bool) (l:List aM) (r:aM):dr p q (l ++ [r])=if cp p q r=true then gO (dr p q l) r else dr p q l:=by
 unfold dr
 rw[Sw]
 by_cases h:cp p q r=true
 ·rw[Ra h,List.filter_cons_of_pos h,RR]; rfl
 ·rw[Q9 h,List.filter_cons_of_neg h]; simp
theorem Jb {acc:List Int} {r:aM} (h:acc.Nodup):(gO acc r).Nodup:=by
 unfold gO
 split
 ·exact h
 ·rename_i hn
  rw[RV]
  exact ⟨h,by simp,fun a ha b hb e=>hn (by simp at hb; rw[← hb,← e]; exact ha)⟩
theorem M7 {o:List Int} {x:Int} : cE o x < 0↔x ∉ o:=by
 have:=qb (fun y=>y == x) o 0 (by omega)
 unfold cE
 rw[← Int.not_le]
 constructor
 ·intro h hx
  have e:(o.any fun y=>y == x)=true:=List.any_eq_true.2 ⟨x,hx,by simp⟩
  rw[e] at this; exact h (by simpa using this)
 ·intro h hx
  have e:(o.any fun y=>y == x)=true:=by rw[← this]; simpa using hx
  obtain ⟨y,hy,e⟩:=List.any_eq_true.1 e
  simp at e; subst e; exact h hy
theorem xt {α:Type} (p:α→Bool):∀ (a b:List α) (i:Int),0≤i→cB p (a ++ b) i=if 0≤cB p a i then cB p a i else cB p b (i+a.length)
 | [],b,i,_=>by simp[cB]
 | x :: a,b,i,h=>by
  by_cases hp:p x=true
  ·simp[cB,hp,h]
  ·simp only[RM,cB,Q9 hp]
   rw[xt p a b (i+1) (by omega)]
   have:i+1+(a.length:Int)=i+(((x :: a).length:Nat):Int):=by simp; omega
   rw[this]
theorem nC {o:List Int} {x:Int} (h:x∈o):0≤cE o x∧cE o x < o.length:=by
 have h0:¬ cE o x < 0:=fun e=>M7.1 e h
 refine ⟨by omega,?_⟩
 unfold cE
 have:∀ (l:List Int) (i:Int),cB (fun z=>z == x) l i < i+l.length∨cB (fun z=>z == x) l i = -1:=by
  intro l
  induction l with
  | nil=>intro i; right; rfl
  | cons z l ih =>
   intro i
   simp only[cB]
   split
   ·left; simp; omega
   ·rcases ih (i+1) with h | h
    ·left; simp at h ⊢; omega
    ·right; exact h
 rcases this o 0 with h1 | h1
 ·simpa using h1
 ·unfold cE at h0; omega
def jk:List Int→Int→List (Int × Int)
 | [],_=>[]
 | x :: l,i=>(x,i) :: jk l (i+1)
theorem qQ (x:Int):∀ (o:List Int) (i:Int),dJ (jk o i) x=if x∈o then some (cB (fun y=>y == x) o i) else none
 | [],i=>by simp[jk,dJ]
 | y :: o,i=>by
  have ih:=qQ x o (i+1)
  unfold dJ at ih ⊢
  simp only[jk,SZ,cB]
  by_cases e:x=y
  ·subst e; simp
  ·have e2:¬ ((y == x)=true):=by simp[Ne.symm e]
   rw[show (x == y)=false by simp[e],Q9 e2]
   simp only
   rw[ih]
   simp[e]
theorem CQ {x v:Int} : ∀ {o:List Int} {i:Int},x ∉ o→jt x v (jk o i)=jk o i ++ [(x,v)]
 | [],i,_=>rfl
 | y :: o,i,h=>by
  simp only[Rm,not_or] at h
  simp only[jk,jt,show (x == y)=false by simp[h.1],Ru,if_false,CQ h.2,RM]
theorem zN {x:Int} : ∀ {o:List Int} {i:Int},jk (o ++ [x]) i=jk o i ++ [(x,i+o.length)]
 | [],i=>by simp[jk]
 | y :: o,i=>by
  simp only[RM,jk,zN (o:=o),Rp]
  congr 4
  push_cast; omega
def dz (o:List Int) (x:Int):Int:=(dJ (jk o 0) x).getD 0
theorem wY {o:List Int} {x:Int} (h:x∈o):dz o x=cE o x:=by
 simp[dz,qQ,h,cE]
theorem N7 (o:List Int) (x:Int):0≤dz o x∧dz o x≤o.length:=by
 by_cases h:x∈o
 ·rw[wY h]; have:=nC h; omega
 ·simp[dz,qQ,h]
theorem JU {g:ao} {p q:List Bool} (hst:g.start∈dr p q g.rules) (hin:∀ r∈g.rules.filter (cp p q),r.left∈dr p q g.rules∧∀ s∈r.right,s < 0→-1 - s∈dr p q g.rules) :
  oX g (dz (dr p q g.rules)) p q=oX g (cE (dr p q g.rules)) p q:=by
 unfold oX
 congr 1
 ·apply Tp
  intro r hr
  obtain ⟨h1,h2⟩:=hin r hr
  unfold bY
  congr 1
  ·exact wY h1
  ·apply Tp
   intro s hs
   split
   ·rename_i h; rw[wY (h2 s hs h)]
   ·rfl
 ·exact wY hst
theorem sg:∀ (l:List aM) (acc:List Int) (x:Int),x∈l.foldl gO acc↔x∈acc∨∃ r∈l,r.left=x
 | [],acc,x=>by simp
 | r :: l,acc,x=>by
  rw[Rx,sg l]
  have:x∈gO acc r↔x∈acc∨r.left=x:=by
   unfold gO
   split
   ·rename_i h
    constructor
    ·exact .inl
    ·rintro (h' | rfl)
     ·exact h'
     ·exact h
   ·simp[eq_comm]
  rw[this]
  simp only[Rm,exists_eq_or_imp]
  constructor
  ·rintro ((h | h) | h)
   ·exact .inl h
   ·exact .inr (.inl h)
   ·exact .inr (.inr h)
  ·rintro (h | h | h)
   ·exact .inl (.inl h)
   ·exact .inl (.inr h)
   ·exact .inr h
theorem qA {p q:List Bool} {l:List aM} {x:Int} : x∈dr p q l↔∃ r∈l,cp p q r=true∧r.left=x:=by
 unfold dr
 rw[sg]
 simp[RQ,and_assoc]
end Gv
