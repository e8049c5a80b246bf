/-
  Part 8 of the proof: what the machine does and what the functions answer.
  Conditions: those that each lemma names.
-/
import Derived.Shelf.SlIter.Sorted
import Derived.Shelf.SortM.Plain
import Derived.Shelf.SortM.SortNone
import Derived.Shelf.SlicesG.CompactS
import Derived.Test.YtiophifnkakjgaaGreatSGzC3G
set_option linter.unusedSimpArgs false
set_option linter.unusedVariables false
set_option maxRecDepth 100000
set_option maxHeartbeats 20000000
namespace Gv
open Go Go.Proofs
open Go Go.Proofs Go.Shelf Go.RowKit Go.Sort
attribute [local go_sem] Oper.semAt_some
def kr:Ren where
 f:=fun
  | 6=>219
  | 8=>268
  | 9=>269
  | 11=>288
  | 13=>246
  | 12=>289
  | 23=>282
  | 24=>283
  | 14=>298
  | 15=>299
  | 16=>300
  | 17=>301
  | 18=>302
  | 19=>303
  | 20=>304
  | 21=>305
  | 22=>306
  | 25=>308
  | 26=>292
  | 27=>293
  | 28=>309
  | 29=>310
  | 30=>311
  | 31=>312
  | n=>n
 t:=fun
  | 26=>9
  | 28=>319
  | 24=>23
  | 0=>0
  | 3=>3
  | 37=>276
  | 48=>50
  | 50=>49
  | 4=>4
  | 40=>356
  | 39=>355
  | 45=>66
  | 5=>5
  | 9=>9
  | 51=>369
  | 55=>373
  | 57=>381
  | 58=>382
  | 33=>262
  | n=>n
 g:=λn=>n
theorem Tc:Go.Proofs.SlLaysZ.n6 Tryz.prog kr where
 mixed:=by kernel_rfl
 f6:=⟨Tryz.f219.name,by kernel_rfl,by kernel_rfl⟩
 f8:=⟨Tryz.f268.name,by kernel_rfl,by kernel_rfl⟩
 f11:=⟨Tryz.f288.name,by kernel_rfl,by kernel_rfl⟩
 t0:=Tryz.underlying0
 a0:=Tryz.isAgg0
 z0:=Tryz.sizeOf0
 v0:=Tryz.zeroValue0
 t24:=Tryz.underlying23
 a24:=Tryz.isAgg23
 z24:=Tryz.sizeOf23
 v24:=Tryz.zeroValue23
 t26:=Tryz.underlying9
 a26:=Tryz.isAgg9
 z26:=Tryz.sizeOf9
 v26:=Tryz.zeroValue9
 t28:=Tryz.underlying319
 a28:=Tryz.isAgg319
 z28:=Tryz.sizeOf319
 v28:=Tryz.zeroValue319
 i26:=by kernel_rfl
def NG:Ren where
 f:=fun
  | 6=>269
  | 8=>246
  | 9=>289
  | 19=>282
  | 20=>283
  | 21=>298
  | 22=>299
  | 23=>300
  | 24=>301
  | 25=>302
  | 26=>303
  | 27=>304
  | 28=>305
  | 29=>306
  | 36=>308
  | 31=>292
  | 32=>293
  | 37=>309
  | 38=>310
  | 39=>311
  | 41=>312
  | n=>n
 t:=fun
  | 27=>23
  | 29=>9
  | 3=>3
  | 32=>276
  | 26=>23
  | 0=>0
  | 44=>50
  | 46=>49
  | 4=>4
  | 36=>356
  | 35=>355
  | 41=>66
  | 5=>5
  | 9=>9
  | 53=>369
  | 57=>373
  | 63=>381
  | 64=>382
  | n=>n
 g:=λn=>n
theorem Sl:Go.Proofs.SlLaysM.n6 Tryz.prog NG where
 mixed:=by kernel_rfl
 f6:=⟨Tryz.f269.name,by kernel_rfl,by kernel_rfl⟩
 f8:=by kernel_rfl
 f9:=⟨Tryz.f289.name,by kernel_rfl,by kernel_rfl⟩
 f19:=by kernel_rfl
 f20:=by kernel_rfl
 f21:=⟨Tryz.f298.name,by kernel_rfl,by kernel_rfl⟩
 f22:=⟨Tryz.f299.name,by kernel_rfl,by kernel_rfl⟩
 f23:=⟨Tryz.f300.name,by kernel_rfl,by kernel_rfl⟩
 f24:=⟨Tryz.f301.name,by kernel_rfl,by kernel_rfl⟩
 f25:=⟨Tryz.f302.name,by kernel_rfl,by kernel_rfl⟩
 f26:=⟨Tryz.f303.name,by kernel_rfl,by kernel_rfl⟩
 f27:=⟨Tryz.f304.name,by kernel_rfl,by kernel_rfl⟩
 f28:=⟨Tryz.f305.name,by kernel_rfl,by kernel_rfl⟩
 f29:=⟨Tryz.f306.name,by kernel_rfl,by kernel_rfl⟩
 f31:=by kernel_rfl
 f32:=by kernel_rfl
 f36:=⟨Tryz.f308.name,by kernel_rfl,by kernel_rfl⟩
 f37:=⟨Tryz.f309.name,by kernel_rfl,by kernel_rfl⟩
 f38:=⟨Tryz.f310.name,by kernel_rfl,by kernel_rfl⟩
 f39:=⟨Tryz.f311.name,by kernel_rfl,by kernel_rfl⟩
 f41:=⟨Tryz.f312.name,by kernel_rfl,by kernel_rfl⟩
 t0:=Tryz.underlying0
 a0:=Tryz.isAgg0
 z0:=Tryz.sizeOf0
 v0:=Tryz.zeroValue0
 t3:=Tryz.underlying3
 a3:=Tryz.isAgg3
 z3:=Tryz.sizeOf3
 v3:=Tryz.zeroValue3
 t4:=Tryz.underlying4
 a4:=Tryz.isAgg4
 z4:=Tryz.sizeOf4
 v4:=Tryz.zeroValue4
 t5:=Tryz.underlying5
 a5:=Tryz.isAgg5
 z5:=Tryz.sizeOf5
 v5:=Tryz.zeroValue5
 t9:=Tryz.underlying9
 a9:=Tryz.isAgg9
 z9:=Tryz.sizeOf9
 v9:=Tryz.zeroValue9
 t26:=Tryz.underlying23
 a26:=Tryz.isAgg23
 z26:=Tryz.sizeOf23
 v26:=Tryz.zeroValue23
 t27:=Tryz.underlying23
 a27:=Tryz.isAgg23
 z27:=Tryz.sizeOf23
 v27:=Tryz.zeroValue23
 t29:=Tryz.underlying9
 a29:=Tryz.isAgg9
 z29:=Tryz.sizeOf9
 v29:=Tryz.zeroValue9
 t32:=Tryz.underlying276
 a32:=Tryz.isAgg276
 z32:=Tryz.sizeOf276
 v32:=Tryz.zeroValue276
 t35:=Tryz.underlying355
 a35:=Tryz.isAgg355
 z35:=Tryz.sizeOf355
 v35:=Tryz.zeroValue355
 t36:=Tryz.underlying356
 a36:=Tryz.isAgg356
 z36:=Tryz.sizeOf356
 v36:=Tryz.zeroValue356
 t41:=Tryz.underlying66
 a41:=Tryz.isAgg66
 z41:=Tryz.sizeOf66
 v41:=Tryz.zeroValue66
 t44:=Tryz.underlying50
 a44:=Tryz.isAgg50
 z44:=Tryz.sizeOf50
 v44:=Tryz.zeroValue50
 t46:=Tryz.underlying49
 a46:=Tryz.isAgg49
 z46:=Tryz.sizeOf49
 v46:=Tryz.zeroValue49
 t53:=Tryz.underlying369
 a53:=Tryz.isAgg369
 z53:=Tryz.sizeOf369
 v53:=Tryz.zeroValue369
 t57:=Tryz.underlying373
 a57:=Tryz.isAgg373
 z57:=Tryz.sizeOf373
 v57:=Tryz.zeroValue373
 t63:=Tryz.underlying381
 a63:=Tryz.isAgg381
 z63:=Tryz.sizeOf381
 v63:=Tryz.zeroValue381
 t64:=Tryz.underlying382
 a64:=Tryz.isAgg382
 z64:=Tryz.sizeOf382
 v64:=Tryz.zeroValue382
def PR:Ren where
 f:=fun
  | 44=>221
  | n=>n
 t:=fun
  | 25=>23
  | 26=>9
  | 3=>3
  | 4=>4
  | 0=>0
  | n=>n
 g:=λn=>n
theorem Ss:Go.Proofs.SlLaysN.n44 Tryz.prog PR where
 mixed:=by kernel_rfl
 f44:=⟨Tryz.f221.name,by kernel_rfl,by kernel_rfl⟩
 t0:=Tryz.underlying0
 a0:=Tryz.isAgg0
 z0:=Tryz.sizeOf0
 v0:=Tryz.zeroValue0
 t3:=Tryz.underlying3
 a3:=Tryz.isAgg3
 z3:=Tryz.sizeOf3
 v3:=Tryz.zeroValue3
 t4:=Tryz.underlying4
 a4:=Tryz.isAgg4
 z4:=Tryz.sizeOf4
 v4:=Tryz.zeroValue4
 t25:=Tryz.underlying23
 a25:=Tryz.isAgg23
 z25:=Tryz.sizeOf23
 v25:=Tryz.zeroValue23
 t26:=Tryz.underlying9
 a26:=Tryz.isAgg9
 z26:=Tryz.sizeOf9
 v26:=Tryz.zeroValue9
 i26:=by kernel_rfl
def BD (n:Nat) (P:Program) (g:Nat) (lb:Array Value) (S:List (List UInt8)->Prop) (N:Nat) (w:World):Prop :=
 ∀ (l:Nat) (J:List (List UInt8)->World->Prop) (W:World),(∀ pre W',J pre W'->Below w.heap.size w W') ->
  (∀ pre x W1,J pre W1->pre.length < N->YieldAt Fence.wide (n - 1) P l #[encStr x] W1 λe W'=>e=.returned (.bool true)/\J (pre ++ [x]) W'/\KeepsWalks W1 W') ->
  J [] W->CallsIn Fence.wide n P g (#[.func (.yield l) #[] #[]] ++ lb) W λe W'=>(∃ v,e=.returned v)/\∃ xs,S xs/\J xs W'
theorem Pz {a:List (List UInt8)} {k:Nat} (h:k < a.length):a.take k ++ [a.getD k []]=a.take (k+1):=by
 rw[WY];simp[Wo,h]
theorem Mh (n:Nat) (hn:1<=n) (Bs b off cap:Nat) (zs:List (List UInt8)) (hreach:zs.length * 16<=140737488351232) (w:World)
  (hBs:w.cell? ⟨Bs,0,none⟩=some (.slice (some ⟨b,off,none⟩) zs.length cap)) (hBl:Bs < w.heap.size) (hbl:b < w.heap.size)
  (hc:∀ j,j < zs.length->w.cell? ⟨b,off+j,none⟩=some (encStr (zs.getD j []))) :
  BD n Tryz.prog 270 #[.pointer (some ⟨Bs,0,none⟩)] (λxs=>xs=zs) zs.length w:=by
 intro l J W hJ hY h0
 have hbw:=hJ _ _ h0
 have hBs':=(hbw.cell (p:=⟨Bs,0,none⟩) hBl).trans hBs
 have hf:Fence.wide.fn 270:=trivial
 refine callsIn_of_wp Tryz.func270 rfl hf ?_ rfl
 simp only[Tryz.ntmps270,XN,WD,WW,Nat.reduceAdd,Nat.reduceSub,X9,Ya,Yv,Yf,Xt,Xh]
 gi_wp2
 gi_loopw [7] (λi wr=>∃ k:Nat,k<=zs.length/\i=.int .i64 k/\J (zs.take k) wr) (λi _=>zs.length - (RowKit.intOf i).toNat)
 case atStart=>exact⟨0,XT _,rfl,by simpa using h0⟩
 case round =>
  obtain⟨k,hk,rfl,hJs⟩:=hrel
  have hnx:=hJ _ _ hJs
  have hcx:k < zs.length->wr.cell? ⟨b,off+k,none⟩=some (encStr (zs.getD k [])):=λh=>(hnx.cell (p:=⟨b,off+k,none⟩) hbl).trans (hc k h)
  by_cases hlt:k < zs.length
  .obtain⟨x,hx1,hcx'⟩:∃ x,zs.take k ++ [x]=zs.take (k+1)/\wr.cell? ⟨b,off+k,none⟩=some (encStr x):=⟨_,Pz hlt,hcx hlt⟩
   obtain⟨fn,tmps,assign,body,hy,hR⟩:=hY _ x wr hJs (by simp;omega)
   clear hcx hJs
   gi_wp2
   refine hR.mono ?_
   rintro e W3 ⟨rfl,hJ3,hk3⟩
   gi_wp2
   go_roundw
   case rel=>exact⟨k+1,by omega,by simp,by rw[<-hx1];exact hJ3⟩
   case measure=>simp[RowKit.intOf];omega
  .obtain rfl:k=zs.length:=by omega
   clear hcx
   gi_wp2
   go_end0
   exact⟨⟨_,rfl⟩,_,rfl,by simpa using hJs⟩
theorem Hm (n:Nat) (hn:2<=n) (g:Nat) (lb:Array Value) (eg:∀ args w,(callFunc g args).run Tryz.prog w=.ok (.enter g args) w)
  (S:List (List UInt8)->Prop) (N:Nat) (hN:N<=maxLen) (hNb:N * 16<=140737488355328) (w:World) (hseq:BD (n - 1) Tryz.prog g lb S N w) :
  CallsIn Fence.wide n Tryz.prog 288 #[.slice none 0 0,.func (.func g) #[] lb] w λe w'=>∃ (v:Value) (ss:List (List UInt8)),e=.returned v/\S ss/\w'.ownsRow w.heap.size 9 1 v ss.length (ss.map encStr)/\Below w.heap.size w w':=by
 have h11:Fence.wide.fn 288:=trivial
 refine callsIn_of_wp_marks Tryz.func288 rfl h11 ?_ rfl
 simp only[Tryz.ntmps288,XN,WD,WW,Nat.reduceAdd,Nat.reduceSub,X9,Ya,Yv,Yf,Xt,Xh]
 gi_wp2
 refine wpIn_rangeFunc ?_
 intro fn hfn
 let sv:Value:=.func (.func g) #[] lb
 have hz:(w.alloc (.cells #[.slice none 0 0] 23)).heap.size=w.heap.size+1:=by simp
 have hv0:=World.alloc_heap_new w (.cells #[.slice none 0 0] 23)
 have hb0:Below w.heap.size w (w.alloc (.cells #[.slice none 0 0] 23)):=(Below.refl _ w).alloc (Wz _) _
 revert hz hv0 hb0
 generalize w.alloc (.cells #[.slice none 0 0] 23)=W0
 intro hz hv0 hb0
 obtain⟨W1,hW1⟩:∃ W1,(W0.alloc (.deferred (some []))).alloc (.loop (AnyZ.apRec kr fn sv w.heap.size W0.heap.size .ready none))=W1:=⟨_,rfl⟩
 have hold:∀ k,k < W0.heap.size->W1.heap[k]?=W0.heap[k]?:=λk hk=>by
  rw[<-hW1];exact(Below.heap_alloc _ _ k (by simp;omega)).trans (Below.heap_alloc _ _ k hk)
 have hb1:Below w.heap.size w W1:=by rw[<-hW1];exact(hb0.alloc (by omega) _).alloc (by simp;omega) _
 have hM:AnyZ.ApAt kr w fn sv w.heap.size (W0.heap.size+1) W0.heap.size [] W1:=by
  refine⟨⟨_,(hold w.heap.size (by omega)).trans hv0,⟨rfl,.inl ⟨rfl,rfl⟩⟩,by simp⟩,?_,?_,hb1⟩
  .rw[<-hW1]
   have h:=World.alloc_heap_new (W0.alloc (.deferred (some []))) (.loop (AnyZ.apRec kr fn sv w.heap.size W0.heap.size .ready none))
   rwa [World.size_alloc] at h
  .rw[<-hW1];exact(Below.heap_alloc _ _ _ (by simp)).trans (World.alloc_heap_new W0 _)
 refine⟨W0.heap.size+1,[{ target:=.collected W0.heap.size,args:=#[] }],W1,{ target:=.fn (.func g) lb,args:=#[.func (.yield (W0.heap.size+1)) #[] #[]] },W1,g,
  #[.func (.yield (W0.heap.size+1)) #[] #[]] ++ lb,W1,by rw[<-hW1];exact run_enterLoop_outer _ _ _ _ _,?_,?_,?_,λ_=>by omega,?_⟩
 .simp[resolve,go_sem]
 .intro f' hf';trivial
 .simp[invoke,go_sem,eg]
 .refine(hseq (W0.heap.size+1) (AnyZ.ApAt kr w fn sv w.heap.size (W0.heap.size+1) W0.heap.size) W1 (λ_ _ h=>h.below)
   (λpre x W hJ hl=>AnyZ.apYield { Tc with } Fence.wide (n - 1 - 1) w fn hfn _ w.heap.size (W0.heap.size+1) W0.heap.size (by omega) (by omega) (by omega) (Wz _) (by omega) N hN hNb pre x W hJ hl) hM).mono ?_
  rintro e W2 ⟨⟨v0,rfl⟩,ss,hS,h2⟩
  obtain⟨v,hv,hrow,_⟩:=h2.box
  have hend:=run_endLoop (P:=Tryz.prog) h2.L (by simp[AnyZ.apRec])
  have hne:∀ (cur:Array Value),Obj.cells #[v] 23 (0,0)≠.cells cur 9 (0,0):=λcur e=>by cases e
  obtain⟨W3,hW3⟩:∃ W3,W2.putObj (W0.heap.size+1) (.loop { AnyZ.apRec kr fn sv w.heap.size W0.heap.size .ready none with state:=.exhausted })=W3:=⟨_,rfl⟩
  have hg3:W2.grownBy W3 (some (W0.heap.size+1)):=by rw[<-hW3];exact grownBy_putObj_a _ _ _
  have hv3:W3.heap[w.heap.size]?=some (.cells #[v] 23 (0,0)):=by rw[<-hW3];exact(World.putObj_heap_other (by omega)).trans hv
  have hK3:W3.heap[W0.heap.size]?=some (.deferred (some [])):=by rw[<-hW3];exact(World.putObj_heap_other (by omega)).trans h2.K
  have hrow3:=hrow.kept hg3 (ownsRow_ne_a hrow h2.L (λcur e=>by cases e))
  have hb3:Below w.heap.size w W3:=h2.below.grown hg3 h2.below.size (λk e=>by cases e;omega)
  obtain⟨hc3,hf3⟩:=cell_of_box_a hv3
  refine⟨none,W3,by rw[<-hW3];exact hend,?_⟩
  clear hW3 hW1 hold hM hend hseq
  gi_wp2
  rw[<-hz]
  refine⟨by simp,.inl ⟨_,_,rfl,run_takeDeferred hK3,?_⟩⟩
  exact⟨_,results_tmp rfl _ _ _,v,ss,rfl,hS,hrow3.kept (grownBy_putObj_a _ _ _) (ownsRow_ne_a hrow3 hK3 (λcur e=>by cases e)),hb3.grown (grownBy_putObj_a _ _ _) hb3.size (λk e=>by cases e;omega)⟩
theorem Qg (n:Nat) (hn:4<=n) (g:Nat) (lb:Array Value) (eg:∀ args w,(callFunc g args).run Tryz.prog w=.ok (.enter g args) w)
  (S:List (List UInt8)->Prop) (N:Nat) (hN:N<=maxLen) (hNb:N * 16<=140737488355328) (w:World) (hseq:BD (n - 1 - 1 - 1) Tryz.prog g lb S N w) (hS:∀ xs,S xs->xs.length < 4611686018427387904) :
  CallsIn Fence.wide n Tryz.prog 219 #[.func (.func g) #[] lb] w λe w'=>∃ (v:Value) (ss:List (List UInt8)),e=.returned v/\S ss /\
   w'.ownsRow w.heap.size 9 1 v ss.length ((ss.mergeSort (λx y=>decide (x<=y))).map encStr)/\Below w.heap.size w w':=by
 have h6:Fence.wide.fn 219:=trivial
 have h8:Fence.wide.fn 268:=trivial
 have h9:Fence.wide.fn 269:=trivial
 have h11:Fence.wide.fn 288:=trivial
 have h1:1<=n - 1:=by omega
 have h1':1<=n:=by omega
 have hcol:CallsIn Fence.wide (n - 1) Tryz.prog 268 #[.func (.func g) #[] lb] w λe w'=>∃ (v:Value) (ss:List (List UInt8)),e=.returned v/\S ss/\w'.ownsRow w.heap.size 9 1 v ss.length (ss.map encStr)/\Below w.heap.size w w':=by
  have happ:=Hm (n - 1 - 1) (by omega) g lb eg S N hN hNb w hseq
  refine callsIn_of_wp Tryz.func268 rfl h8 ?_ rfl
  simp only[Tryz.ntmps268,XN,WD,WW,Nat.reduceAdd,Nat.reduceSub,X9,Ya,Yv,Yf,Xt,Xh]
  gi_wp2_with (gi_at_call 288;refine happ.mono ?_;rintro e w' ⟨v,ss,rfl,hS,hrow,hb⟩)
  go_ret
  exact⟨v,ss,rfl,hS,hrow,hb⟩
 refine callsIn_of_wp Tryz.func219 rfl h6 ?_ rfl
 simp only[Tryz.ntmps219,XN,WD,WW,Nat.reduceAdd,Nat.reduceSub,X9,Ya,Yv,Yf,Xt,Xh]
 gi_wp2_with (gi_at_call 268;refine hcol.mono ?_;rintro e W ⟨v,ss,rfl,hSs,hrow,hb⟩)
 have hlen:=hS ss hSs
 rcases hrow.2 with ⟨rfl,hz⟩ | ⟨gb,cap,cur,rfl,hbase,hgb,r1,r2,r3,r4⟩
 .have hss:ss=[]:=List.eq_nil_of_length_eq_zero hz
  subst hss
  have cN:CallsIn Fence.wide (n - 1) Tryz.prog 269 #[.slice none 0 0] W λe w'=>e=.returned (.tuple #[])/\w'=W:=callsIn_wide.2 (AnyM.slices_Sort_string_none Sl none 0 W)
  gi_wp2_with (gi_at_call 269;refine cN.mono ?_;rintro e w' ⟨rfl,rfl⟩)
  go_ret
  exact⟨.slice none 0 0,[],rfl,hSs,by simpa using hrow,hb⟩
 .have hH:Holds encStr W gb 0 ss.toArray:=holds_of_block hgb (by simpa using r4)
  have hgl:gb < W.heap.size:=(Array.getElem?_eq_some_iff.1 hgb).1
  have cS:CallsIn Fence.wide (n - 1) Tryz.prog 269 #[.slice (some ⟨gb,0,none⟩) ss.length cap] W λe w'=>e=.returned (.tuple #[])/\∃ k os,w'=grow (putRow encStr (Sort.ahead W k) gb 0 (ss.mergeSort λx y=>decide (x<=y)).toArray) os :=
   callsIn_wide.2 (AnyM.slices_Sort_string Sl gb 0 cap ss W hH hgl hlen)
  gi_wp2_with (gi_at_call 269;refine cS.mono ?_;rintro e w' ⟨rfl,nn,os,rfl⟩)
  go_ret
  exact⟨_,ss,rfl,hSs,ownsRow_sorted (by simp) hbase hgb r1 r2 r3,hb.grown (grownBy_sorted _) hb.size (λj hj=>by cases hj;exact hbase)⟩
open Go Go.Proofs Go.Shelf Go.RowKit Go.Sort
theorem Jq {l:List (List UInt8)} (c:l.Pairwise (λa b=>decide (a<=b)=true)) (h:∀ j,j+1 < l.length->l.getD (j+1) []≠l.getD j []):l.Nodup:=by
 induction l with
 | nil=>exact List.nodup_nil
 | cons x r g =>
  rw[XX] at c
  refine Xq.2 ⟨λf=>?_,g c.2 λj i=>by simpa using h (j+1) (by simpa using i)⟩
  cases r with
  | nil=>simp at f
  | cons y r =>
   have d:=h 0 (by simp)
   simp only[Ye,Xx,Xk] at d
   rcases WK.1 f with e | hm
   .exact d e.symm
   .have h1:x<=y:=by simpa using c.1 y (by simp)
    have k:y<=x:=by simpa using (XX.1 c.2).1 x hm
    exact d (List.le_antisymm k h1)
theorem O7 (l:List (List UInt8)):(Lib.compact l).length=l.length↔∀ j,j+1 < l.length->l.getD (j+1) []≠l.getD j []:=by
 have c:(Lib.compact l).length=((List.range l.length).filter (Lib.keeps l.toArray)).length:=by simp[Lib.compact,Lib.compactUpTo]
 rw[c]
 have hr:(List.range l.length).length=l.length:=by simp
 conv=>lhs;rhs;rw[<-hr]
 rw[List.length_filter_eq_length_iff]
 have b:∀ j,j < l.length->l.toArray[j]! = l.getD j []:=λj a=>by simp[Wo,a]
 constructor
 .intro h j a
  have:=h (j+1) (by simpa using a)
  simp only[Lib.keeps,WH,Nat.add_sub_cancel] at this
  rcases this with e | e
  .omega
  .rw[b _ a,b _ (by omega)] at e;exact e
 .intro h j a
  simp only[XA] at a
  simp only[Lib.keeps,WH]
  by_cases e:j=0
  .exact .inl e
  .right
   obtain⟨k,rfl⟩:∃ k,j=k+1:=⟨j - 1,by omega⟩
   rw[b _ a,Nat.add_sub_cancel,b _ (by omega)]
   exact h k a
theorem Dh (d:List (List UInt8)):(Lib.compact (d.mergeSort λx y=>decide (x<=y))).length=d.length↔d.Nodup:=by
 have hp:=List.mergeSort_perm d (λx y=>decide (x<=y))
 have g:=List.pairwise_mergeSort (le:=λx y:List UInt8=>decide (x<=y)) (λa b c h k=>by simp at h k ⊢;exact List.le_trans h k) (λa b=>by simpa using List.le_total a b) d
 rw[<-hp.nodup_iff,<-hp.length_eq,O7]
 constructor
 .exact Jq g
 .intro i j f e
  have h1:(d.mergeSort λx y=>decide (x<=y))[j+1]'f=(d.mergeSort λx y=>decide (x<=y))[j]'(by omega):=by
   simp only[Wo,Wp f,Wp (show j < (d.mergeSort λx y=>decide (x<=y)).length by omega),WJ] at e
   exact e
  have:=(List.getElem_inj i).1 h1
  omega
theorem QG (w:World):grow w #[]=w:=by simp[grow]
theorem I5 (n:Nat) (hn:1<=n) (Bs cap:Nat) (a:Option Addr) (w:World) (hBs:w.cell? ⟨Bs,0,none⟩=some (.slice a 0 cap)) (hBl:Bs < w.heap.size) :
  BD n Tryz.prog 270 #[.pointer (some ⟨Bs,0,none⟩)] (λxs=>xs=[]) 0 w:=by
 intro l J W hJ hY h0
 have hbw:=hJ _ _ h0
 have hBs':=(hbw.cell (p:=⟨Bs,0,none⟩) hBl).trans hBs
 have hf:Fence.wide.fn 270:=trivial
 refine callsIn_of_wp Tryz.func270 rfl hf ?_ rfl
 simp only[Tryz.ntmps270,XN,WD,WW,Nat.reduceAdd,Nat.reduceSub,X9,Ya,Yv,Yf,Xt,Xh]
 gi_wp2
 gi_loopw [7] (λi wr=>i=.int .i64 0/\J [] wr) (λ_ _=>0)
 case atStart=>exact⟨rfl,h0⟩
 case round =>
  obtain⟨rfl,hJs⟩:=hrel
  gi_wp2
  go_end0
  exact⟨⟨_,rfl⟩,_,rfl,hJs⟩
theorem Mg (n:Nat) (a:Option Addr) (len cap:Nat) (w:World) :
  CallsIn Fence.wide n Tryz.prog 220 #[.slice a len cap] w λe w'=>e=.returned (.func (.func 270) #[] #[.pointer (some ⟨w.heap.size,0,none⟩)])/\w'=w.alloc (.cells #[.slice a len cap] 23):=by
 have hf:Fence.wide.fn 220:=trivial
 refine callsIn_of_wp Tryz.func220 rfl hf ?_ rfl
 simp only[Tryz.ntmps220,XN,WD,WW,Nat.reduceAdd,Nat.reduceSub,X9,Ya,Yv,Yf,Xt,Xh]
 gi_wp2
 go_ret
 exact⟨rfl,rfl⟩
theorem Ap (a:Option Addr) (cap:Nat) (zs:List (List UInt8)) (hz:zs.length<=1000) (w:World)
  (hseq:∀ n Bs,1<=n->w.heap.size=Bs->BD n Tryz.prog 270 #[.pointer (some ⟨Bs,0,none⟩)] (λxs=>xs=zs) zs.length (w.alloc (.cells #[.slice a zs.length cap] 23))) :
  Calls Tryz.prog 155 #[.slice a zs.length cap] w λe w'=>e=.returned (.bool (decide zs.Nodup))/\Below w.heap.size w w':=by
 refine(callsIn_wide (n:=7)).1 ?_
 have hf:Fence.wide.fn 155:=trivial
 have hfv:Fence.wide.fn 220:=trivial
 have hfs:Fence.wide.fn 219:=trivial
 have hfc:Fence.wide.fn 221:=trivial
 have eg:=enters_of Tryz.func270 (by kernel_rfl) rfl
 have cV:=Mg 6 a zs.length cap w
 have cS:=Qg 6 (by omega) 270 #[.pointer (some ⟨w.heap.size,0,none⟩)] eg _ zs.length (by unfold maxLen;omega) (by omega) (w.alloc (.cells #[.slice a zs.length cap] 23)) (hseq _ _ (by omega) rfl) (λxs e=>by subst e;omega)
 refine callsIn_of_wp Tryz.func155 rfl hf ?_ rfl
 simp only[Tryz.ntmps155,XN,WD,WW,Nat.reduceAdd,Nat.reduceSub,X9,Ya,Yv,Yf,Xt,Xh]
 clear hseq
 gi_wp2_with (first
  | (gi_at_call 220;refine cV.mono ?_;rintro e w' ⟨rfl,rfl⟩)
  | (gi_at_call 219;refine cS.mono ?_;rintro e W ⟨v,ss,rfl,rfl,hrow,hb⟩)
  | fail)
 have hsz:(ss.mergeSort λx y=>decide (x<=y)).length=ss.length:=by simp
 have hBw:Below w.heap.size w W:=((Below.refl _ w).alloc (Wz _) _).trans (hb.mono (by simp))
 rcases hrow.2 with ⟨rfl,h0⟩ | ⟨gb,cap',cur,rfl,hbase,hgb,r1,r2,r3,r4⟩
 .have hss:ss=[]:=List.eq_nil_of_length_eq_zero h0
  subst hss
  have cC:CallsIn Fence.wide 6 Tryz.prog 221 #[.slice none 0 0] W λe w'=>e=.returned (.slice none 0 0)/\w'=W:=callsIn_wide.2 (AnyG.slices_Compact_string_empty Ss none 0 W)
  clear cS cV hrow
  gi_wp2_with (gi_at_call 221;refine cC.mono ?_;rintro e w' ⟨rfl,rfl⟩)
  go_ret
  exact⟨rfl,hBw⟩
 .have hH:Holds encStr W gb 0 (ss.mergeSort λx y=>decide (x<=y)).toArray:=holds_of_block hgb (by simpa using r4)
  have hgl:gb < W.heap.size:=(Array.getElem?_eq_some_iff.1 hgb).1
  have cC:CallsIn Fence.wide 6 Tryz.prog 221 #[.slice (some ⟨gb,0,none⟩) ss.length cap'] W λe w'=>∃ m:Nat,e=.returned (.slice (some ⟨gb,0,none⟩) m cap')/\((m=ss.length)↔ss.Nodup)/\Below w.heap.size w w':=by
   have:=AnyG.slices_Compact_string Ss gb 0 cap' (ss.mergeSort λx y=>decide (x<=y)) W hH (by rw[hsz];omega) (by rw[hsz];omega)
   rw[hsz] at this
   refine callsIn_wide.2 (this.mono ?_)
   rintro e w' ⟨rfl,q,rfl⟩
   refine⟨_,rfl,Dh ss,?_⟩
   have hg:=grownBy_sorted (w:=W) (g:=gb) (n:=q) (os:=#[]) (Lib.compact (ss.mergeSort λx y=>decide (x<=y)) ++ List.replicate (ss.length - (Lib.compact (ss.mergeSort λx y=>decide (x<=y))).length) []).toArray
   rw[QG] at hg
   exact hBw.grown hg hBw.size (λj e=>by cases e;have h:=hbase;rw[World.size_alloc] at h;omega)
  clear cS cV hrow hH
  gi_wp2_with (gi_at_call 221;refine cC.mono ?_;rintro e w' ⟨m,rfl,hm,hb'⟩)
  go_ret
  refine⟨?_,hb'⟩
  show Ending.returned (.bool ((m:Int) == (ss.length:Int)))=_
  have:((m:Int) == (ss.length:Int))=decide ss.Nodup:=by
   rw[Xm]
   simp only[Xw,WH,<-hm]
   omega
  rw[this]
theorem HZ (s:ByteArray):encStr s.data.toList=.string s:=by
 cases s;simp[encStr]
def names (l:List ByteArray):List (List UInt8):=l.map λs=>s.data.toList
theorem J4 {Z:Nat->Prop} {μ:Mu} {hp:Array Obj} {es:List (List V)} {x:Value} (h:aw Z μ hp (.aL es) x) :
  (es=[]/\∃ a cap,x=.slice a 0 cap/\(a=none->cap=0))∨(∃ b off esz cap,∃ c:Nat->Nat->Value,x=.slice (some ⟨b,off,none⟩) es.length cap/\Z b/\es.length<=cap /\
   (∀ i,i < es.length->(es.getD i []).length=esz)/\(∀ i j,i < es.length->j < esz->cellAt hp b (off+i * esz+j)=some (c i j)) /\
   (∀ i j,i < es.length->j < esz->aw Z μ hp ((es.getD i []).getD j .any) (c i j))):=by
 cases h with
 | iC a cap d=>exact .inl ⟨rfl,a,cap,rfl,d⟩
 | aL _ b off esz cap c h1 e f g k=>exact .inr ⟨b,off,esz,cap,c,rfl,h1,e,f,g,k⟩
theorem Rs (l:List ByteArray) (G:l.length<=1000):az Tryz.prog 155 [encS l] (gb (decide (names l).Nodup)):=by
 intro Z μ w xs g r
 obtain⟨hlen,H⟩:=g
 obtain⟨x,rfl⟩:∃ x,xs=[x]:=by
  match xs,hlen with
  | [x],_=>exact⟨x,rfl⟩
 have I:aw Z μ w.heap (encS l) x:=H 0 (by simp)
 have k:(names l).length=l.length:=by simp[names]
 have fin:∀ e w',(e=Ending.returned (.bool (decide (names l).Nodup))/\RowKit.Below w.heap.size w w')->∃ x t,e=.returned x/\(∀ E,aw t E w'.heap (gb (decide (names l).Nodup)) x)/\ep w w'/\(∀ b,Z b->t b)/\(∀ b,t b->Z b∨(w.heap.size<=b/\b < w'.heap.size))/\gh w.heap w'.heap (λ_=>False):=by
  rintro e w' ⟨rfl,m⟩
  exact⟨_,Z,rfl,λE=>.val _ rfl,⟨m.os,m.tape,m.output,m.size⟩,λ_ h=>h,λ_ h=>.inl h,λb u _=>m.block b u⟩
 have box:∀ (v:Value),(w.alloc (.cells #[v] 23)).cell? ⟨w.heap.size,0,none⟩=some v:=λv=>by
  have:=World.alloc_heap_new w (.cells #[v] 23)
  simp only[World.cell?,this];rfl
 rcases J4 I with ⟨he,a,cap,rfl,_⟩ | ⟨b,off,esz,cap,c,rfl,J,hle,z,K,L⟩
 .have A:l=[]:=by simpa using he
  subst A
  refine(Ap a cap (names []) (by simp[names]) w (λn M B C=>?_)).mono fin
  subst C
  exact I5 n B w.heap.size cap a _ (box _) (by simp)
 .have o:∀ i,(hi:i < l.length)->(l.map λs=>[gs s]).getD i []=[gs l[i]]:=λi hi=>by simp[Wo,hi]
  have d:∀ i,(hi:i < l.length)->cellAt w.heap b (off+i)=some (.string l[i]):=λi hi=>by
   have h1:=z i (by simpa using hi)
   rw[o i hi] at h1
   simp only[WD,WW] at h1
   subst h1
   have F:=K i 0 (by simpa using hi) (by omega)
   have q:=L i 0 (by simpa using hi) (by omega)
   rw[o i hi] at q
   simp only[Xx] at q
   generalize c i 0=y at F q
   cases q
   simpa using F
  have f:(l.map λs=>[gs s]).length=(names l).length:=by simp[names]
  rw[f]
  refine(Ap (some ⟨b,off,none⟩) cap (names l) (by rw[k];exact G) w (λn M B C=>?_)).mono fin
  subst C
  have D:=r b J
  refine Mh n B w.heap.size b off cap (names l) (by rw[k];omega) _ (box _) (by simp) (by simp;omega) (λj P=>?_)
  have p:j < l.length:=by omega
  have N:(w.alloc (.cells #[.slice (some ⟨b,off,none⟩) (names l).length cap] 23)).cell? ⟨b,off+j,none⟩=w.cell? ⟨b,off+j,none⟩:=by
   have:=Below.heap_alloc w (.cells #[.slice (some ⟨b,off,none⟩) (names l).length cap] 23) b D
   simp only[World.cell?,this]
  rw[N,iz,d j p]
  have O:(names l).getD j []=l[j].data.toList:=by simp[names,Wo,p]
  rw[O,HZ]
theorem bC.iC {P:Program} {f:FuncId} {h:Heap} (h1:bC P f [.emp 1] h (.emp 1) h) (m:bC P f [.emp 2] h (.emp 2) h) (n:bC P f [.dM] h (.emp 2) h):bC P f [.aL []] h (.emp 0) h:=by
 refine⟨Wz _,λZ μ F w xs l hr g=>?_⟩
 obtain⟨q,r⟩:=l
 obtain⟨x,rfl⟩:∃ x,xs=[x]:=by
  match xs,q with
  | [x],_=>exact⟨x,rfl⟩
 have s:aw Z μ w.heap (.aL []) x:=r 0 (by simp)
 have one:∀ v,aw Z μ w.heap v x->fO Z μ w.heap [v] [x]:=λv h=>⟨rfl,λi hi=>by
  simp at hi;subst hi;exact h⟩
 have d:∀ k,bC P f [if k=3 then .dM else .emp k] h (if k=3 then .emp 2 else .emp k) h->aw Z μ w.heap (if k=3 then .dM else .emp k) x->Calls P f [x].toArray w λe w'=>∃ x j μ',e=.returned x/\aw j μ' w'.heap (.emp 0) x/\dT j μ' w'.heap (cat h F)/\Ext Z μ w h.length j μ' w'/\(∀ id,id < h.length∨h.length<=id->μ' id=μ id):=by
  intro k hk t
  refine(hk.2 Z μ F w [x] (one _ t) hr g).mono ?_
  rintro e w' ⟨y,j,μ',rfl,o,rest⟩
  refine⟨y,j,μ',rfl,?_,rest⟩
  have:∀ p,aw j μ' w'.heap (.emp p) y->aw j μ' w'.heap (.emp 0) y:=λp h=>by
   cases h with | emp _ a _ _=>exact .emp 0 a (by simp) (by simp)
  split at o <;> exact this _ o
 rcases J4 s with ⟨_,a,cap,rfl,u⟩ | ⟨b,off,esz,cap,c,rfl,_,_,_⟩
 .cases a with
  | none =>
   have:=u rfl
   subst this
   exact d 1 (by simpa using h1) (.emp 1 none (by simp) (by simp))
  | some a =>
   cases cap with
   | zero=>exact d 2 (by simpa using m) (.emp 2 (some a) (by simp) (by simp))
   | succ c=>exact d 3 (by simpa using n) (.dM a (c+1))
 .cases cap with
  | zero=>exact d 2 (by simpa using m) (.emp 2 (some ⟨b,off,none⟩) (by simp) (by simp))
  | succ c=>exact d 3 (by simpa using n) (.dM ⟨b,off,none⟩ (c+1))
def xV (sz:Nat) (es:List (List V)) (H:View) (K:V->View->Prop):Prop :=
 (es=[]->∀ k,K (.emp k) H)/\(es≠[]->∀ n,H n=.dead->K (.sl n 0 es.length sz) (H.set n (.arr sz es)))
def di:SF:=⟨ai [af [b7 2 1],ai [af [aa 3 0,((some 4),.op (.nil true 0 (.tmp 3) (.val (.emp 1))))],bf 4 (ai [af [b7 2 1],.ret])],af [b7 5 2,aa 6 0,iR 7 1 16 5 6,aa 2 7],.ret],
 [.tmp 2],8⟩
theorem dC:aG Tryz.prog 152 []=some di:=by kernel_rfl
def dz:SF:=⟨ai [af [b7 2 1],ai [af [aa 3 0,((some 4),.op (.nil true 0 (.tmp 3) (.val (.emp 1))))],bf 4 (ai [af [b7 2 1],.ret])],af [b7 5 2,aa 6 0,iR 7 1 8 5 6,aa 2 7],.ret],
 [.tmp 2],8⟩
theorem dD:aG Tryz.prog 140 []=some dz:=by kernel_rfl
def cG:SF:=⟨ai [af [b7 2 1],ai [af [aa 3 0,((some 4),.op (.nil true 0 (.tmp 3) (.val (.emp 1))))],bf 4 (ai [af [b7 2 1],.ret])],af [b7 5 2,aa 6 0,iR 7 3 32 5 6,aa 2 7],.ret],
 [.tmp 2],8⟩
theorem de:aG Tryz.prog 163 []=some cG:=by kernel_rfl
theorem az.tree {P:Program} {f:FuncId} {vs:List V} {t:V} (a:∀ v∈vs,Tree v) (b:Tree t) (h:∀ H,ao P f vs H λr _=>r=t):az P f vs t :=
 az.of a ((h _).mono λr H' e c _=>by rw[e];exact .tree _ b)
theorem pG {H:View} : bD H .dM=some ([],[]):=id rfl
theorem jb {H:View} (sz bytes k:Nat) (K:V->View->Prop) (w:ct (H,K)):nS sz bytes (.emp k) [] H K w=K (.emp k) H:=propext Iff.rfl
theorem PA (l:List ByteArray) (b:l.length<=100000) (H:View) (K:V->View->Prop) (hk:xV 1 (l.map λs=>[gs s]) H K):ao Tryz.prog 152 [encS l] H K:=by
 cases l with
 | nil =>
  have hp:∀ v t,Tree v->Tree t->(∀ H,ao Tryz.prog 152 [v] H λr _=>r=t)->az Tryz.prog 152 [v] t:=λv t c d h=>az.tree (by intro x a;simp at a;subst a;exact c) d h
  have h1:=hp (.emp 1) (.emp 1) (.emp 1) (.emp 1) (λH=>by
   refine ao.of mixed dC ?_
   simp(disch:=omega)only[↓wr,seval,wq,di])
  have e:=hp (.emp 2) (.emp 2) (.emp 2) (.emp 2) (λH=>by
   refine ao.of mixed dC ?_
   simp(disch:=omega)only[↓wr,seval,wq,di,jb,Yi])
  have f:=hp .dM (.emp 2) .dM (.emp 2) (λH=>by
   refine ao.of mixed dC ?_
   simp(disch:=omega)only[↓wr,seval,wq,di,pG,jb,Yi])
  refine⟨by kernel_rfl,?_⟩
  rintro h rfl
  exact⟨.emp 0,h,bC.iC (bC.gn h1 h) (bC.gn e h) (bC.gn f h),.refl _,hk.1 rfl 0⟩
 | cons x r =>
  refine ao.of mixed dC ?_
  simp only[WD] at b
  simp(disch:=omega)only[↓wr,seval,wq,di,encS]
  refine⟨?_,?_,?_⟩
  .simp[Yg,encS,aE]
  .unfold aD;simp;omega
  .intro n g
   have:=hk.2 (by simp) n g
   simp(disch:=omega)only[↓wr,seval,wq]
   simpa [dp] using this
theorem PH (l:List Int) (b:l.length<=100000) (H:View) (K:V->View->Prop) (hk:xV 1 (l.map λs=>[gi s]) H K):ao Tryz.prog 140 [encI l] H K:=by
 cases l with
 | nil =>
  have hp:∀ v t,Tree v->Tree t->(∀ H,ao Tryz.prog 140 [v] H λr _=>r=t)->az Tryz.prog 140 [v] t:=λv t c d h=>az.tree (by intro x a;simp at a;subst a;exact c) d h
  have h1:=hp (.emp 1) (.emp 1) (.emp 1) (.emp 1) (λH=>by
   refine ao.of mixed dD ?_
   simp(disch:=omega)only[↓wr,seval,wq,dz])
  have e:=hp (.emp 2) (.emp 2) (.emp 2) (.emp 2) (λH=>by
   refine ao.of mixed dD ?_
   simp(disch:=omega)only[↓wr,seval,wq,dz,jb,Yi])
  have f:=hp .dM (.emp 2) .dM (.emp 2) (λH=>by
   refine ao.of mixed dD ?_
   simp(disch:=omega)only[↓wr,seval,wq,dz,pG,jb,Yi])
  refine⟨by kernel_rfl,?_⟩
  rintro h rfl
  exact⟨.emp 0,h,bC.iC (bC.gn h1 h) (bC.gn e h) (bC.gn f h),.refl _,hk.1 rfl 0⟩
 | cons x r =>
  refine ao.of mixed dD ?_
  simp only[WD] at b
  simp(disch:=omega)only[↓wr,seval,wq,dz,encI]
  refine⟨?_,?_,?_⟩
  .simp[Yg,encI,aE]
  .unfold aD;simp;omega
  .intro n g
   have:=hk.2 (by simp) n g
   simp(disch:=omega)only[↓wr,seval,wq]
   simpa [dp] using this
theorem Ov (l:List Term) (b:l.length<=100000) (H:View) (K:V->View->Prop) (hk:xV 3 (l.map dp) H K):ao Tryz.prog 163 [eH l] H K:=by
 cases l with
 | nil =>
  have hp:∀ v t,Tree v->Tree t->(∀ H,ao Tryz.prog 163 [v] H λr _=>r=t)->az Tryz.prog 163 [v] t:=λv t c d h=>az.tree (by intro x a;simp at a;subst a;exact c) d h
  have h1:=hp (.emp 1) (.emp 1) (.emp 1) (.emp 1) (λH=>by
   refine ao.of mixed de ?_
   simp(disch:=omega)only[↓wr,seval,wq,cG])
  have e:=hp (.emp 2) (.emp 2) (.emp 2) (.emp 2) (λH=>by
   refine ao.of mixed de ?_
   simp(disch:=omega)only[↓wr,seval,wq,cG,jb,Yi])
  have f:=hp .dM (.emp 2) .dM (.emp 2) (λH=>by
   refine ao.of mixed de ?_
   simp(disch:=omega)only[↓wr,seval,wq,cG,pG,jb,Yi])
  refine⟨by kernel_rfl,?_⟩
  rintro h rfl
  exact⟨.emp 0,h,bC.iC (bC.gn h1 h) (bC.gn e h) (bC.gn f h),.refl _,hk.1 rfl 0⟩
 | cons x r =>
  refine ao.of mixed de ?_
  simp only[WD] at b
  simp(disch:=omega)only[↓wr,seval,wq,cG,eH,dp]
  refine⟨?_,?_,?_⟩
  .simp[Yg,eH,dp,aE]
  .unfold aD;simp;omega
  .intro n g
   have:=hk.2 (by simp) n g
   simp(disch:=omega)only[↓wr,seval,wq]
   simpa [dp] using this
theorem xV.own {sz:Nat} {es:List (List V)} {H:View} : xV sz es H λr H'=>aH H' r sz es/\cM H H' r :=
 ⟨λhe k=>⟨by rw[he];exact .nil,.emp⟩,λ_ n a=>⟨.new,.new a⟩⟩
theorem P5 (l:List ByteArray) (a:l.length<=100000) (H:View):ao Tryz.prog 152 [encS l] H λr H'=>aH H' r 1 (l.map λs=>[gs s])/\cM H H' r:=PA l a H _ .own
theorem Fx (l:List Int) (a:l.length<=100000) (H:View):ao Tryz.prog 140 [encI l] H λr H'=>aH H' r 1 (l.map λs=>[gi s])/\cM H H' r:=PH l a H _ .own
theorem PE (l:List Term) (a:l.length<=100000) (H:View):ao Tryz.prog 163 [eH l] H λr H'=>aH H' r 3 (l.map dp)/\cM H H' r:=Ov l a H _ .own
def mb (g:ag):List aW->Int->Bool
 | [],next=>next == g.ax.length
 | r :: l,next=>decide (0<=r.left) && decide (r.left<=next) && ju g r && mb g l (if r.left+1 > next then r.left+1 else next)
def rP (g:ag):List ByteArray:=g.ax ++ g.an.map Term.name
def qn (g:ag):Bool :=
 sm g.an && (decide ((1:Int)<=g.ax.length) && decide ((g.ax.length:Int)<=16)) && (decide ((1:Int)<=g.rules.length) && decide ((g.rules.length:Int)<=40)) && decide (names (rP g)).Nodup && (decide (0<=g.start) && decide (g.start<=(g.ax.length:Int) - 1)) &&
  !(g.ax.any λs=>!gZ (fP s)) && mb g g.rules 0
theorem Gi {l:List ByteArray} : ∀ e∈(l.map λs=>[gs s]),∀ v∈e,Tree v:=by
 intro e he v b
 obtain⟨a,_,rfl⟩:=WQ.1 he
 rw[XB] at b
 subst b
 exact .val _
theorem Ol (g:ag) (p:g.Ok) (Z:g.ax.length+g.an.length<=1000) (H:View):ao Tryz.prog 89 [.agg (ak g)] H λr _=>r=gb (qn g):=by
 refine ao.of mixed Dl ?_
 have L:=p.ax
 have M:=p.an
 have hr:=p.rules
 unfold aC at L M hr
 simp(disch:=omega)only[↓wr,seval,wq,Ai,ak,encS]
 refine aq.bX ((P5 g.ax (by omega) H).mono ?_)
 rintro u H1 ⟨hu,hf⟩
 simp(disch:=omega)only[↓wr,seval,wq,ak,encS]
 refine bk.up g.an.length (λi T H=>T 1=.aN (ak g) 0/\(∃ u,T 3=u/\aH H u 1 ((g.ax ++ (g.an.take i).map Term.name).map λs=>[gs s]))/\T 13=eH g.an/\T 14=gi g.an.length/\T 15=gi i) ?_ ?_
 .exact⟨rfl,⟨u,rfl,by simpa using hu⟩,rfl,rfl,rfl⟩
 rintro i k T H' hk ⟨h1,⟨u,q,hu⟩,a,c,d⟩
 simp(disch:=omega)only[↓wr,seval,wq,wU,h1,a,c,d,eH]
 apply aj.dec<;>intro B
 .have f:g.an[i]?=some (g.an[i]'(by omega)):=Wp (by omega)
  have v:(g.an.take (i+1)).map Term.name=(g.an.take i).map Term.name ++ [(g.an[i]'(by omega)).name]:=by
   rw[WY,f,W6];rfl
  generalize g.an[i]'(by omega)=t at f v
  simp(disch:=omega)only[↓wr,seval,wq,h1,q,a,c,d,eH,dp,Ww,f]
  intro b C
  try simp(disch:=omega)only[↓wr,seval,wq,h1,q,a,c,d,set_set]
  intro m hm
  have D:=(dg hm dG).1
  have hm:=(dg (dg hm dG).2 dG).2
  try simp(disch:=omega)only[↓wr,seval,wq,h1,q,a,c,d,bY]
  have J:((g.ax ++ (g.an.take i).map Term.name).map λs=>[gs s]).length<=1000:=by simp;omega
  refine kT (((hu.fresh C).other (hu.ne C)).fresh (by simp[View.set,hm,D])) (by simp) (by simp[aE]) (by unfold aD;simp at J ⊢;omega) (by unfold aD;simp at J ⊢;omega) ?_
  intro u' H2 E _
  simp(disch:=omega)only[↓wr,seval,wq,h1,q,a,c,d]
  refine aJ hk (by omega) ⟨h1,⟨u',rfl,?_⟩,a,c,rfl⟩
  rw[v]
  simpa using E
 .rw[WT (by omega)] at hu
  have N:H'=H':=rfl
  have y:(rP g).length<=1000:=by simp[rP];omega
  repeat' (first | ((first|apply aj.dec|apply aj.eq|apply aj.ne|apply aj.split)<;>intro)|(refine aq.pure (Pm g.an p.an) ?_)|(refine aq.pure (rh _ _ _) ?_)|(refine aq.tQ (Rs (rP g) y) (by kernel_rfl) (.val _) ⟨cg.own hu Gi,trivial⟩ ?_)|(simp(disch:=omega)only[↓wr,seval,wq,h1,q,a,c,d,ak,encS]))
  all_goals try (simp[qn, *];done)
  rename_i O P K Q R
  refine aq.pure (AJ g.ax p.ax 157 [] (by simp) (λs=>!gZ (fP s)) (λx _=>L3 x) (by kernel_rfl)) ?_
  repeat' (first | ((first|apply aj.dec|apply aj.eq|apply aj.ne|apply aj.split)<;>intro)|(simp(disch:=omega)only[↓wr,seval,wq,h1,q,a,c,d,ak,encS]))
  all_goals try (simp[qn, *];done)
  rename_i S
  have hle:g.rules.length<=40:=by simp at K;omega
  have h:∀ b,mb g g.rules 0=b->gb b=gb (qn g):=λb e=>by
   simp only[qn,O,P,K,Q,R,S,e,decide_true,Xj,Bool.not_false]
  refine bk.up g.rules.length (λi T _=>∃ w:Int,0<=w/\w<=i/\mb g (g.rules.drop i) w=mb g g.rules 0/\T 1=.aN (ak g) 0/\T 6=gi w/\T 62=.aL (g.rules.map aU)/\T 63=gi g.rules.length/\T 64=gi i) ?_ ?_
  .exact⟨0,by omega,by omega,rfl,h1,rfl,rfl,rfl,rfl⟩
  rintro i k T H' hk ⟨w,U,V,hi,h1,A,j,l,n⟩
  simp(disch:=omega)only[↓wr,seval,wq,xt,h1,A,j,l,n,ak]
  apply aj.dec<;>intro B
  .have f:g.rules[i]?=some (g.rules[i]'(by omega)):=Wp (by omega)
   rw[fS (show i < g.rules.length by omega)] at hi
   have o:g.rules[i]'(by omega)∈g.rules:=WA _
   generalize g.rules[i]'(by omega)=t at f hi o
   obtain⟨⟨W,X⟩,hp,F,G⟩:=p.av t o
   simp only[mb] at hi
   simp(disch:=omega)only[↓wr,seval,wq,h1,A,j,l,n,aU,encI,Ww,f]
   intro b C
   repeat' (first | ((first|apply aj.dec|apply aj.eq|apply aj.ne|apply aj.split)<;>intro)|(refine aq.pure (rh _ _ _) ?_)|(refine aq.pure (Rx g t p ⟨F,G⟩) ?_)|(simp(disch:=omega)only[↓wr,seval,wq,h1,A,j,l,n,ak,aU,encI,encS,set_set]))
   .rename_i z I
    have Y:0<=t.left/\t.left<=w:=by simpa using z
    rw[z,I,Xj,Xj] at hi
    have hw:IntKind.wrap .i64 (t.left+1)=t.left+1:=wrap64 (by omega) (by omega)
    refine aJ hk (by omega) ⟨_,by split <;> omega,by split <;> (push_cast;omega),hi,h1,?_,j,l,rfl⟩
    show gi (if IntKind.wrap .i64 (t.left+1) > w then IntKind.wrap .i64 (t.left+1) else w)=_
    rw[hw]
   .rename_i z I
    rw[I,X8,XQ] at hi
    exact h _ hi.symm
   .rename_i z
    rw[z,XQ,XQ] at hi
    exact h _ hi.symm
  .rw[Xb (by omega)] at hi
   simp only[mb] at hi
   simp(disch:=omega)only[↓wr,seval,wq,h1,A,j,l,n,ak,encS]
   exact h _ hi.symm
theorem LW (g:ag) (a:g.Ok) (b:g.ax.length+g.an.length<=1000):az Tryz.prog 89 [.agg (ak g)] (gb (qn g)):=az.val (eR g) (Ol g a b)
theorem HU (g:ag):∀ (l:List aW) (next:Int),mb g l next=jE g l (next - 1)
 | [],next=>by
  simp only[mb,jE]
  rw[Xm];simp
 | r :: l,next=>by
  simp only[mb,jE,HU g l]
  have a:(if r.left+1 > next then r.left+1 else next) - 1=if r.left > next - 1 then r.left else next - 1:=by
   split <;> split <;> omega
  have b:next - 1+1=next:=by omega
  rw[a,b]
theorem xM (s:ByteArray):∀ (l:List ByteArray) (i:Int),0<=i->(nW s l i < 0/\s ∉ l)∨∃ k:Nat,nW s l i=i+k/\l[k]?=some s/\∀ j < k,l[j]?≠some s
 | [],i,h=>.inl ⟨by simp[nW],by simp⟩
 | x :: l,i,h=>by
  have b:iX x s=true↔x=s:=by
   unfold iX
   rw[Xw]
   constructor
   .intro e;cases x;cases s;simp at e;simp[e]
   .rintro rfl;rfl
  simp only[nW]
  by_cases e:x=s
  .rw[Wv (b.2 e)]
   exact .inr ⟨0,by simp,by simp[e],by simp⟩
  .rw[Ws (λh=>e (b.1 h))]
   rcases xM s l (i+1) (by omega) with ⟨h1,a⟩ | ⟨k,h1,a,c⟩
   .exact .inl ⟨h1,by simp[a,Ne.symm e]⟩
   .refine .inr ⟨k+1,by rw[h1];push_cast;omega,by simpa using a,λj d=>?_⟩
    cases j with
    | zero=>simp[e]
    | succ j=>simpa using c j (by omega)
theorem EA (l:List ByteArray):(∀ (k:Nat) (s:ByteArray),l[k]?=some s->nW s l 0=k)↔l.Nodup:=by
 constructor
 .intro h
  rw[List.nodup_iff_pairwise_ne,List.pairwise_iff_getElem]
  intro i j hi b d e
  have h1:=h i l[i] (by simp[hi])
  have a:=h j l[j] (by simp[b])
  rw[e] at h1
  omega
 .intro f k s hk
  rcases xM s l 0 (by omega) with ⟨_,a⟩ | ⟨j,h1,a,g⟩
  .exact absurd (WI hk) a
  .have b:j < l.length:=by
    rcases W5 j l.length with h | h
    .exact h
    .simp[Xa h] at a
   have c:k < l.length:=by
    rcases W5 k l.length with h | h
    .exact h
    .simp[Xa h] at hk
   have:j=k:=(List.getElem_inj f).1 (by
    rw[Wp b] at a;rw[Wp c] at hk
    simp at a hk;rw[a,hk])
   rw[h1,this];simp
theorem bytes_inj {a b:ByteArray} : a.data.toList=b.data.toList↔a=b:=by
 constructor
 .intro h;cases a;cases b;simp at h;simp[h]
 .rintro rfl;rfl
theorem NY {l:List ByteArray} : (names l).Nodup↔l.Nodup:=by
 unfold names
 rw[List.nodup_iff_pairwise_ne,List.pairwise_map,List.nodup_iff_pairwise_ne]
 constructor
 .exact λh=>h.imp λh e=>h (bytes_inj.2 e)
 .exact λh=>h.imp λh e=>h (bytes_inj.1 e)
theorem pT {α:Type} [BEq α] [LawfulBEq α]:∀ (l m:List α),l.Nodup->(∀ x∈l,x∈m)->l.length<=m.length
 | [],m,_,_=>by simp
 | x :: l,m,a,c=>by
  rw[Xq] at a
  have d:x∈m:=c x (by simp)
  have:=pT l (m.erase x) a.2 (λy e=>by
   have b:y≠x:=by rintro rfl;exact a.1 e
   exact(List.mem_erase_of_ne b).2 (c y (by simp[e])))
  rw[List.length_erase_of_mem d] at this
  have:0 < m.length:=List.length_pos_of_mem d
  simp only[WD]
  omega
def mn (n:Nat):List Int:=(List.range n).map λ(k:Nat)=>(k:Int)+1
theorem vN {n:Nat} {x:Int} : x∈mn n↔1<=x/\x<=n:=by
 simp only[mn,WQ,XA]
 constructor
 .rintro⟨k,hk,rfl⟩;omega
 .rintro⟨h1,a⟩;exact⟨(x - 1).toNat,by omega,by omega⟩
theorem F9 (n:Nat):(mn n).Nodup:=by
 rw[mn,List.nodup_iff_pairwise_ne,List.pairwise_map]
 exact(List.nodup_range (n:=n)).imp λh e=>h (by omega)
theorem Tz {l:List Int} {n:Nat} (b:l.Nodup) (c:∀ x∈l,1<=x/\x<=n) (f:l.length=n) {x:Int} (h1:1<=x) (d:x<=n):x∈l:=by
 refine Yp λe=>?_
 have:=pT (x :: l) (mn n) (Xq.2 ⟨e,b⟩) (λy a=>by
  rw[vN]
  rcases WK.1 a with rfl | a
  .exact⟨h1,d⟩
  .exact c y a)
 simp[mn] at this
 omega
theorem wK (n:Int):∀ (l:List Term) (w:Int),w≠0->jz n l w=if (∀ t∈l,t.level=n->t.assoc=w) then some w else none
 | [],w,_=>by simp[jz]
 | t :: r,w,hw=>by
  simp only[jz]
  by_cases a:t.level=n
  .rw[Wv a]
   by_cases b:w=t.assoc
   .rw[Ws (by simp[b]),<-b,wK n r w hw]
    congr 1
    simp[a,b]
   .rw[Wv ⟨hw,b⟩,Ws (λh=>b (h t (by simp) a).symm)]
  .rw[Ws a,wK n r w hw]
   congr 1
   simp[a]
theorem CP (n:Int):∀ (l:List Term),(∀ t∈l,t.level=n->t.assoc≠0)->(ig l n=true↔∃ a,(∃ t∈l,t.level=n)/\∀ t∈l,t.level=n->t.assoc=a)
 | [],_=>by simp[ig,jz]
 | t :: r,h=>by
  by_cases c:t.level=n
  .have g:=h t (by simp) c
   have e:ig (t :: r) n=match (if (∀ u∈r,u.level=n->u.assoc=t.assoc) then some t.assoc else none) with | some w=>w != 0 | none=>false:=by
    simp only[ig,jz]
    rw[Wv c,Ws (by simp),wK n r _ g]
    rfl
   rw[e]
   by_cases hr:∀ u∈r,u.level=n->u.assoc=t.assoc
   .rw[Wv hr]
    simp only[bne_iff_ne,ne_eq,g,not_false_eq_true,true_iff]
    refine⟨t.assoc,⟨t,by simp,c⟩,λu hu b=>?_⟩
    rcases WK.1 hu with rfl | hu
    .rfl
    .exact hr u hu b
   .rw[Ws hr]
    simp only[WR,false_iff]
    rintro⟨a,_,d⟩
    exact hr λu hu b=>(d u (by simp[hu]) b).trans (d t (by simp) c).symm
  .have i:=CP n r (λu hu=>h u (by simp[hu]))
   have e:ig (t :: r) n=ig r n:=by
    simp only[ig,jz,Ws c]
   rw[e,i]
   constructor
   .rintro⟨a,⟨u,hu,b⟩,d⟩
    refine⟨a,⟨u,by simp[hu],b⟩,λv f b=>?_⟩
    rcases WK.1 f with rfl | f
    .exact absurd b c
    .exact d v f b
   .rintro⟨a,⟨u,hu,b⟩,d⟩
    rcases WK.1 hu with rfl | hu
    .exact absurd b c
    .exact⟨a,⟨u,hu,b⟩,λv f=>d v (by simp[f])⟩
def uO (l:List Term):Prop:=∀ t∈l,∀ u∈l,t.level=u.level->t.level≠0->t.assoc=u.assoc
theorem Hq {κ β:Type} [BEq κ] [LawfulBEq κ] {k:κ} {v:β} : ∀ {a:List (κ × β)},(a.map (·.1)).Nodup->((kD k v a).map (·.1)).Nodup/\∀ x,x∈(kD k v a).map (·.1)↔x=k∨x∈a.map (·.1)
 | [],_=>by simp[kD]
 | y :: a,h=>by
  simp only[WZ,Xq] at h
  obtain⟨h1,b⟩:=Hq (k:=k) (v:=v) h.2
  simp only[kD]
  by_cases e:k=y.1
  .simp only[e,beq_self_eq_true,if_true,WZ,Xq]
   refine⟨h,λx=>by simp[e]⟩
  .have:(k == y.1)=false:=by simp[e]
   rw[this]
   simp only[WR,if_false,WZ,Xq,WK]
   refine⟨⟨λhm=>?_,h1⟩,λx=>?_⟩
   .rcases (b _).1 hm with e' | hm
    .exact e e'.symm
    .exact h.1 hm
   .rw[b]
    constructor
    .rintro (h | h | h) <;> simp[h]
    .rintro (h | h | h) <;> simp[h]
theorem zi:∀ (l:List Term) (a:List (Int × Int)) (top:Int),(∀ t∈l,t.level≠0->t.assoc≠0)->(∀ n v,eA a n=some v->v≠0)->(a.map (·.1)).Nodup ->
  match mP l a top with
  | some (z,b)=>uO l/\(∀ t∈l,∀ v,t.level≠0->eA a t.level=some v->t.assoc=v)/\(z.map (·.1)).Nodup/\(∀ n,n∈z.map (·.1)↔n∈a.map (·.1)∨(n≠0/\∃ t∈l,t.level=n)) /\
    top<=b/\(∀ t∈l,t.level≠0->t.level<=b)/\(b=top∨∃ t∈l,t.level=b/\t.level≠0)
  | none=>¬ (uO l/\∀ t∈l,∀ v,t.level≠0->eA a t.level=some v->t.assoc=v)
 | [],a,top,_,_,A=>by
  simp only[mP]
  exact⟨λt c=>by simp at c,λt c=>by simp at c,A,λn=>by simp,by omega,λt c=>by simp at c,by simp⟩
 | t :: r,a,top,E,B,A=>by
  have p:∀ u∈r,u.level≠0->u.assoc≠0:=λu hu=>E u (by simp[hu])
  simp only[mP]
  by_cases c:t.level=0
  .rw[Wv c]
   have g:=zi r a top p B A
   have one:uO (t :: r)↔uO r:=by
    constructor
    .exact λh u hu w hw=>h u (by simp[hu]) w (by simp[hw])
    .intro h u hu w hw e d
     rcases WK.1 hu with rfl | hu
     .exact absurd c d
     .rcases WK.1 hw with rfl | hw
      .exact absurd (e.trans c) d
      .exact h u hu w hw e d
   have q:(∀ u∈t :: r,∀ v,u.level≠0->eA a u.level=some v->u.assoc=v)↔∀ u∈r,∀ v,u.level≠0->eA a u.level=some v->u.assoc=v:=by
    simp[c]
   have mem:∀ n,(n≠0/\∃ u∈t :: r,u.level=n)↔(n≠0/\∃ u∈r,u.level=n):=λn=>by
    constructor
    .rintro⟨h1,u,hu,rfl⟩
     rcases WK.1 hu with rfl | hu
     .exact absurd c h1
     .exact⟨h1,u,hu,rfl⟩
    .rintro⟨h1,u,hu,rfl⟩;exact⟨h1,u,by simp[hu],rfl⟩
   cases s:mP r a top with
   | none=>rw[s] at g;rw[one,q];exact g
   | some x =>
    obtain⟨z,b⟩:=x
    rw[s] at g
    obtain⟨i1,i2,i3,i4,i5,i6,i7⟩:=g
    refine⟨one.2 i1,q.2 i2,i3,λn=>by rw[i4,mem],i5,?_,?_⟩
    .intro u hu d
     rcases WK.1 hu with rfl | hu
     .exact absurd c d
     .exact i6 u hu d
    .rcases i7 with h | ⟨u,hu,h⟩
     .exact .inl h
     .exact .inr ⟨u,by simp[hu],h⟩
  .rw[Ws c]
   have H:=E t (by simp) c
   by_cases j:(eA a t.level).getD 0≠0/\(eA a t.level).getD 0≠t.assoc
   .rw[Wv j]
    simp only
    rintro⟨_,o⟩
    cases hp:eA a t.level with
    | none=>simp[hp] at j
    | some v =>
     have:=o t (by simp) v c hp
     simp[hp] at j
     exact j.2 this.symm
   .rw[Ws j]
    have i:∀ v,eA a t.level=some v->t.assoc=v:=λv hp=>by
     have:=B _ _ hp
     simp[hp] at j
     exact(j this).symm
    have f:∀ n,eA (kD t.level t.assoc a) n=if n=t.level then some t.assoc else eA a n:=λn=>by
     rw[G6];simp
    have hk:=Hq (k:=t.level) (v:=t.assoc) A
    have g:=zi r (kD t.level t.assoc a) (if t.level > top then t.level else top) p (λn v hp=>by
     rw[f] at hp
     split at hp
     .simp at hp;rw[<-hp];exact H
     .exact B n v hp) hk.1
    have both:(uO (t :: r)/\∀ u∈t :: r,∀ v,u.level≠0->eA a u.level=some v->u.assoc=v)↔(uO r/\∀ u∈r,∀ v,u.level≠0->eA (kD t.level t.assoc a) u.level=some v->u.assoc=v):=by
     constructor
     .rintro⟨h1,o⟩
      refine⟨λu hu w hw=>h1 u (by simp[hu]) w (by simp[hw]),λu hu v d hp=>?_⟩
      rw[f] at hp
      split at hp
      .rename_i e
       simp at hp;rw[<-hp]
       exact h1 u (by simp[hu]) t (by simp) e d
      .exact o u (by simp[hu]) v d hp
     .rintro⟨h1,o⟩
      have C:∀ u∈r,u.level=t.level->u.assoc=t.assoc:=λu hu e=>o u hu t.assoc (by rw[e];exact c) (by rw[f,Wv e])
      refine⟨λu hu w hw e d=>?_,λu hu v d hp=>?_⟩
      .rcases WK.1 hu with F | y
       .rcases WK.1 hw with D | m
        .rw[F,D]
        .rw[F] at e ⊢
         exact(C w m e.symm).symm
       .rcases WK.1 hw with D | m
        .rw[D] at e ⊢
         exact C u y e
        .exact h1 u y w m e d
      .rcases WK.1 hu with rfl | hu
       .exact i v hp
       .by_cases e:u.level=t.level
        .rw[C u hu e];exact i v (by rw[<-e];exact hp)
        .exact o u hu v d (by rw[f,Ws e];exact hp)
    have G:top<=(if t.level > top then t.level else top)/\t.level<=(if t.level > top then t.level else top):=by split <;> omega
    cases s:mP r (kD t.level t.assoc a) (if t.level > top then t.level else top) with
    | none=>rw[s] at g;simp only;rw[both];exact g
    | some x =>
     obtain⟨z,b⟩:=x
     rw[s] at g
     obtain⟨i1,i2,i3,i4,i5,i6,i7⟩:=g
     obtain⟨I,J⟩:=both.2 ⟨i1,i2⟩
     refine⟨I,J,i3,λn=>?_,by omega,?_,?_⟩
     .rw[i4,hk.2]
      constructor
      .rintro ((rfl | h) | ⟨h1,u,hu,h⟩)
       .exact .inr ⟨c,t,by simp,rfl⟩
       .exact .inl h
       .exact .inr ⟨h1,u,by simp[hu],h⟩
      .rintro (h | ⟨h1,u,hu,h⟩)
       .exact .inl (.inr h)
       .rcases WK.1 hu with rfl | hu
        .exact .inl (.inl h.symm)
        .exact .inr ⟨h1,u,hu,h⟩
     .intro u hu d
      rcases WK.1 hu with rfl | hu
      .omega
      .exact i6 u hu d
     .rcases i7 with h | ⟨u,hu,h⟩
      .by_cases e:t.level > top
       .rw[Wv e] at h;exact .inr ⟨t,by simp,h.symm,c⟩
       .rw[Ws e] at h;exact .inl h
      .exact .inr ⟨u,by simp[hu],h⟩
theorem B7 (l:List Term) (h:∀ t∈l,lN t=true):rE l=true↔∀ t∈l,∀ n:Int,1<=n->n<=t.level->ig l n=true:=by
 have g:∀ t∈l,0<=t.level/\(t.level≠0->t.assoc≠0):=λt b=>by
  have:=h t b
  simp only[lN,WC,WH,Xw] at this
  refine⟨this.1.1.1.1.2,λh1 i=>?_⟩
  have e:=this.2
  simp[h1,i] at e
 have m:=zi l [] 0 (λt b=>(g t b).2) (by simp[eA]) (by simp)
 have o:∀ n:Int,1<=n->(ig l n=true↔∃ a,(∃ t∈l,t.level=n)/\∀ t∈l,t.level=n->t.assoc=a):=λn y=>CP n l (λt b e=>(g t b).2 (by omega))
 unfold rE
 cases f:mP l [] 0 with
 | none =>
  rw[f] at m
  simp only[WR,false_iff]
  intro c
  refine m ⟨λt b u hu e p=>?_,λt b v _ hp=>by simp[eA] at hp⟩
  have h1:=g t b
  obtain⟨a,_,i⟩:=(o t.level (by omega)).1 (c t b t.level (by omega) (by omega))
  exact(i t b rfl).trans (i u hu e.symm).symm
 | some x =>
  obtain⟨a,top⟩:=x
  rw[f] at m
  obtain⟨i1,_,i3,i4,i5,i6,i7⟩:=m
  simp only[Xw]
  have d:∀ n,n∈a.map (·.1)↔n≠0/\∃ t∈l,t.level=n:=λn=>by rw[i4];simp
  have j:∀ x∈a.map (·.1),1<=x/\x<=(top.toNat:Int):=λx f=>by
   obtain⟨h1,t,b,rfl⟩:=(d x).1 f
   have:=(g t b).1
   have:=i6 t b h1
   omega
  constructor
  .intro hlen t b n k r
   have q:t.level<=top:=i6 t b (by omega)
   have hm:=Tz i3 j (by simp;omega) k (show n<=(top.toNat:Int) by omega)
   obtain⟨p,u,hu,rfl⟩:=(d n).1 hm
   exact(o _ k).2 ⟨u.assoc,⟨u,hu,rfl⟩,λw hw e=>i1 w hw u hu e (by omega)⟩
  .intro c
   have h1:a.length<=top.toNat:=by
    have:=pT _ (mn top.toNat) i3 (λx f=>vN.2 (j x f))
    simpa [mn] using this
   have i:top.toNat<=a.length:=by
    rcases i7 with e | ⟨t,b,e,p⟩
    .subst e;simp
    .have:=pT (mn top.toNat) (a.map (·.1)) (F9 _) (λx f=>by
      rw[vN] at f
      have:=(g t b).1
      obtain⟨_,⟨u,hu,s⟩,_⟩:=(o x f.1).1 (c t b x f.1 (by omega))
      exact(d x).2 ⟨by omega,u,hu,s⟩)
     simpa [mn] using this
   omega
theorem CY (g:ag):∀ (l:List Term) (i:Int),oL g l i=true↔∀ (k:Nat) (t:Term),l[k]?=some t->lH g (i+k) t=true
 | [],i=>by simp[oL]
 | t :: r,i=>by
  simp only[oL,WC,CY g r (i+1)]
  constructor
  .rintro⟨h1,a⟩ k u hk
   cases k with
   | zero=>simp at hk;subst hk;simpa using h1
   | succ k =>
    have:=a k u (by simpa using hk)
    rw[show i+((k+1:Nat):Int)=i+1+k by push_cast;omega];exact this
  .intro h
   refine⟨by simpa using h 0 t rfl,λk u hk=>?_⟩
   have:=h (k+1) u (by simpa using hk)
   rw[show i+1+(k:Int)=i+((k+1:Nat):Int) by push_cast;omega];exact this
theorem EC (g:ag):∀ (l:List ByteArray) (i:Int),re g l i=true↔∀ (k:Nat) (s:ByteArray),l[k]?=some s->ph g (i+k) s=true
 | [],i=>by simp[re]
 | t :: r,i=>by
  simp only[re,WC,EC g r (i+1)]
  constructor
  .rintro⟨h1,a⟩ k u hk
   cases k with
   | zero=>simp at hk;subst hk;simpa using h1
   | succ k =>
    have:=a k u (by simpa using hk)
    rw[show i+((k+1:Nat):Int)=i+1+k by push_cast;omega];exact this
  .intro h
   refine⟨by simpa using h 0 t rfl,λk u hk=>?_⟩
   have:=h (k+1) u (by simpa using hk)
   rw[show i+1+(k:Int)=i+((k+1:Nat):Int) by push_cast;omega];exact this
theorem Eo (g:ag) (s:ByteArray):qY g s < 0↔s ∉ g.an.map Term.name:=by
 unfold qY
 rcases xM s (g.an.map Term.name) 0 (by omega) with ⟨h1,a⟩ | ⟨k,h1,a,_⟩
 .exact⟨λ_=>a,λ_=>h1⟩
 .constructor
  .intro h;omega
  .intro h;exact absurd (WI a) h
theorem EJ (g:ag) (t:Term):te g t=true↔∀ n:Int,1<=n->n<=t.level->ig g.an n=true:=by
 simp only[te,WU,XA]
 constructor
 .intro h n h1 a
  have:=h (n - 1).toNat (by omega)
  rwa [show (((n - 1).toNat:Nat):Int)+1=n by omega] at this
 .intro h k hk
  exact h _ (by omega) (by omega)
theorem L6 (g:ag):qn g=bq g:=by
 rw[Xm]
 simp only[qn,bq,ly,mr,sm,WC,WH,CY,EC,HU,WU,Yt,List.any_eq_false,Bool.not_eq_true,NY,rP,XV,Int.zero_add,Int.zero_sub,Bool.not_not]
 have q:(∀ (k:Nat) (t:Term),g.an[k]?=some t->lH g k t=true)↔(∀ t∈g.an,lN t=true)/\(g.an.map Term.name).Nodup/\(∀ t∈g.an,te g t=true):=by
  rw[<-EA]
  constructor
  .intro h
   have i:∀ t∈g.an,∃ k:Nat,g.an[k]?=some t:=λt d=>List.getElem?_of_mem d
   refine⟨λt d=>?_,λk s hk=>?_,λt d=>?_⟩
   .obtain⟨k,hk⟩:=i t d
    have:=h k t hk
    simp only[lH,lN,WC,WH] at this ⊢
    simp[this]
   .rw[Ww,WB] at hk
    obtain⟨t,hk,rfl⟩:=hk
    have:=h k t hk
    simp only[lH,WC,Xw] at this
    exact this.1.1.1.1.1.1.2
   .obtain⟨k,hk⟩:=i t d
    have:=h k t hk
    simp only[lH,WC] at this
    exact this.2
  .rintro⟨h1,j,l⟩ k t hk
   have hm:=WI hk
   have a:=h1 t hm
   have b:=j k t.name (by rw[Ww,hk];rfl)
   have c:=l t hm
   simp only[lH,lN,qY,WC,WH] at a ⊢
   simp[a,b,c]
 have r:(∀ (k:Nat) (s:ByteArray),g.ax[k]?=some s->ph g k s=true)↔(∀ s∈g.ax,gZ (fP s)=true)/\g.ax.Nodup/\(∀ s∈g.ax,s ∉ g.an.map Term.name):=by
  rw[<-EA]
  constructor
  .intro h
   have i:∀ t∈g.ax,∃ k:Nat,g.ax[k]?=some t:=λt d=>List.getElem?_of_mem d
   refine⟨λt d=>?_,λk s hk=>?_,λt d=>?_⟩
   .obtain⟨k,hk⟩:=i t d
    have:=h k t hk
    simp only[ph,WC] at this
    exact this.1.1
   .have:=h k s hk
    simp only[ph,Dy,WC,Xw] at this
    exact this.1.2
   .obtain⟨k,hk⟩:=i t d
    have:=h k t hk
    simp only[ph,WC,WH] at this
    exact(Eo g t).1 this.2
  .rintro⟨h1,j,l⟩ k s hk
   have hm:=WI hk
   have a:=h1 s hm
   have b:=j k s hk
   have c:=(Eo g s).2 (l s hm)
   simp[ph,Dy,a,b,c]
 rw[q,r]
 constructor
 .rintro⟨⟨⟨⟨⟨⟨⟨⟨t1,t2⟩,t3⟩,v,w⟩,x,y⟩,m,a2,a3⟩,s1,s2⟩,n⟩,o⟩
  have p:=(B7 g.an t1).1 t3
  exact⟨⟨⟨⟨⟨⟨⟨t2,t1,a2,λt d=>(EJ g t).2 (p t d)⟩,⟨by omega,by omega⟩,λs f=>by simpa using n s f,m,λs f hm=>a3 s f s hm rfl⟩,by omega⟩,by omega⟩,s1⟩,by omega⟩,o⟩
 .rintro⟨⟨⟨⟨⟨⟨⟨t2,t1,a2,t3⟩,⟨v,w⟩,n,m,a3⟩,x⟩,y⟩,s1⟩,s2⟩,o⟩
  have p:=(B7 g.an t1).2 (λt d=>(EJ g t).1 (t3 t d))
  exact⟨⟨⟨⟨⟨⟨⟨⟨t1,t2⟩,p⟩,by omega,by omega⟩,by omega,by omega⟩,m,a2,λs f u hu e=>a3 s f (e ▸ hu)⟩,s1,by omega⟩,λs f=>by simp[n s f]⟩,o⟩
theorem ni (g:ag) (a:g.Ok) (b:g.ax.length+g.an.length<=1000):az Tryz.prog 89 [.agg (ak g)] (gb (bq g)):=by
 rw[<-L6];exact LW g a b
def BQ (n:Nat) (r:aW):Prop:=ba r.left/\0<=r.left/\r.left < n/\r.right.length<=6/\∀ s∈r.right,ba s/\(s < 0->-1 - s < n)
theorem ag.cP.zd {g:ag} (a:g.Ok) (h:g.cP) {r:aW} (hr:r∈g.rules):BQ g.ax.length r :=
 ⟨(a.av r hr).1,(h.left r hr).1,(h.left r hr).2,h.right r hr,λs b=>⟨(a.av r hr).2.2.2 s b,λc=>h.neg hr b c⟩⟩
def xi:SF:=⟨ai [af [bc 2 false],af [aa 3 0,aF 4 .geq 3 0,aa 2 4],.ret],
 [.tmp 2],5⟩
theorem A9:aG Tryz.prog 235 []=some xi:=by kernel_rfl
def zT:SF:=⟨ai [af [cJ 1 0,bc 2 false],af [ay 3 1 1,au 4 3,nr 5 90 [(.tmp 4),(.val (.fn 235 [] []))],cW 6 5,aa 2 6],.ret],
 [.tmp 2],7⟩
theorem Di:aG Tryz.prog 175 [1]=some zT:=by kernel_rfl
def tt:SF:=⟨ai [af [bc 3 false],.region false [⟨none,[aa 4 0,aF 5 .lss 4 0,aa 6 5]⟩,⟨(some (6,true)),[au 7 1,aa 8 0,((some 9),.op (.arith .sub (.val (.val (.int .i64 (-1)))) (.tmp 8))),aY 10 1 7 9,au 11 10,cW 12 11]⟩,⟨none,[fe 13 6 12,aa 3 13]⟩],.ret],
 [.tmp 3],14⟩
theorem yC:aG Tryz.prog 228 []=some tt:=by kernel_rfl
def xo:SF:=⟨ai [af [cJ 2 0,cJ 3 1,bc 4 false],af [ay 5 1 2,au 6 5,((some 7),.op (.qH 228 [] [(.tmp 3)])),aT 8 90 [6,7],cW 9 8,aa 4 9],.ret],
 [.tmp 4],10⟩
theorem AK:aG Tryz.prog 164 [2,3]=some xo:=by kernel_rfl
def qR:SF:=⟨ai [af [cJ 2 0,b7 4 1],ai [.region false [⟨none,[bj 5 3 2,aT 6 175 [5],aa 7 6]⟩,⟨(some (7,true)),[bj 8 3 2,aa 9 1,aT 10 164 [8,9]]⟩,⟨none,[fe 11 7 10]⟩],bf 11 (ai [af [ay 12 0 2,au 13 12,((some 14),.op (.bS 1 1 [(.val (.int .i64 0))] [(0,(.tmp 13))])),aa 4 14],.ret])],af [b7 4 1],.ret],
 [.tmp 4],15⟩
theorem vO:aG Tryz.prog 174 [2]=some qR:=by kernel_rfl
def oW:SF:=⟨ai [af [cJ 2 0,b7 4 1],ai [af [bj 5 3 2,aa 6 1,aT 7 164 [5,6]],bf 7 (ai [af [ay 8 0 2,au 9 8,((some 10),.op (.bS 1 1 [(.val (.int .i64 0))] [(0,(.tmp 9))])),aa 4 10],.ret])],af [b7 4 1],.ret],
 [.tmp 4],11⟩
theorem tF:aG Tryz.prog 226 [2]=some oW:=by kernel_rfl
def oF:SC :=
 ai [af [aZ 24 .lss 23 22],cp 24 (.exit 0),.block 1 (ai [af [aY 25 1 21 23,au 26 25,aa 7 26],af [aa 27 7,aF 28 .lss 27 0],bf 28 (af [aa 29 5,aa 30 7,((some 31),.op (.arith .sub (.val (.val (.int .i64 (-1)))) (.tmp 30))),((some 32),.op (.bS 1 1 [(.val (.int .i64 0))] [(0,(.tmp 31))])),iR 33 1 8 29 32,aa 5 33])]),af [aF 34 .add 23 1,aa 23 34]]
def qA:SF:=⟨ai [af [cJ 3 0,b7 5 1],ai [.region false [⟨none,[aa 8 1,ay 9 0 3,au 10 9,aY 11 1 8 10,au 12 11,cW 13 12,aa 14 13]⟩,⟨(some (14,false)),[bj 15 3 3,au 16 2,aT 17 164 [15,16],cW 18 17]⟩,⟨none,[b6 19 14 18]⟩],bf 19 (ai [af [b7 5 1],.ret])],ai [af [ay 20 1 3,au 21 20,aQ 22 21,bb 23 0],cz 0 oF],af [aa 35 5,aa 5 35],.ret],
 [.tmp 5],36⟩
theorem uA:aG Tryz.prog 227 [3]=some qA:=by kernel_rfl
theorem NR (r:aW):∀ v∈[V.agg (aU r)],Tree v:=by intro v a;simp at a;subst a;exact cX _ (gI r)
theorem AH (r:aW) (is:List Bool):∀ v∈[V.agg (aU r),cB is],Tree v:=by
 intro v a;simp at a
 rcases a with rfl | rfl
 .exact cX _ (gI r)
 .exact kW is
theorem Rv (x:Int):az Tryz.prog 235 [gi x] (gb (decide (0<=x))):=by
 refine az.val (zh (l:=[.int .i64 x])) λH=>?_
 refine ao.of mixed A9 ?_
 simp(disch:=omega)only[↓wr,seval,wq,xi]
theorem Tt (r:aW) (hr:aC r.right):az Tryz.prog 175 [.agg (aU r)] (gb (!r.right.any λs=>decide (0<=s))):=by
 refine az.val (NR r) λH=>?_
 refine ao.of mixed Di ?_
 simp(disch:=omega)only[↓wr,seval,wq,zT,aU,encI]
 refine aq.pure (iJ r.right hr 235 [] (by simp) (λs=>decide (0<=s)) (λx _=>Rv x) (by kernel_rfl)) ?_
 simp(disch:=omega)only[↓wr,seval,wq]
def DV (is:List Bool) (s:Int):Bool:=decide (s < 0) && !is.getD (-1 - s).toNat false
theorem Lv (is:List Bool) (s:Int) (e:ba s/\(s < 0->-1 - s < is.length)):az Tryz.prog 228 [gi s,.aN [cB is] 0] (gb (DV is s)):=by
 refine az.val ?_ λH=>?_
 .intro v a;simp at a
  rcases a with rfl | rfl
  .exact .val _
  .exact gS (by intro v a;simp at a;subst a;exact kW is)
 obtain⟨⟨h1,f⟩,g⟩:=e
 refine ao.of mixed yC ?_
 simp(disch:=omega)only[↓wr,seval,wq,tt,cB]
 apply aj.dec<;>intro h
 .have d:is[(-1 - s).toNat]?=some (is[(-1 - s).toNat]'(by omega)):=Wp (by omega)
  have c:is.getD (-1 - s).toNat false=is[(-1 - s).toNat]'(by omega):=by simp[Wo,d]
  generalize is[(-1 - s).toNat]'(by omega)=b at d c
  simp(disch:=omega)only[↓wr,seval,wq,Ww,d]
  simp only[DV,c,h,decide_true,Xj]
 .simp(disch:=omega)only[↓wr,seval,wq]
  simp[DV,h]
theorem LZ {is:List Bool} {l:List Int} : (!l.any (DV is))=hX l is true:=by
 simp only[hX,List.not_any_eq_all_not]
 congr 1
 funext s
 simp only[DV]
 by_cases h:0<=s
 .simp[h,show ¬ s < 0 by omega]
 .simp[h,show s < 0 by omega]
theorem sO (r:aW) (is:List Bool) (hr:aC r.right) (b:∀ s∈r.right,ba s/\(s < 0->-1 - s < is.length)):az Tryz.prog 164 [.agg (aU r),cB is] (gb (hX r.right is true)):=by
 rw[<-LZ]
 refine az.val (AH r is) λH=>?_
 refine ao.of mixed AK ?_
 simp(disch:=omega)only[↓wr,seval,wq,xo,aU,cB,encI]
 refine aq.pure (iJ r.right hr 228 [.aN [cB is] 0] (by
  intro v a;simp at a;subst a
  exact gS (by intro v a;simp at a;subst a;exact kW is)) (DV is) (λx c=>Lv is x (b x c)) (by kernel_rfl)) ?_
 simp(disch:=omega)only[↓wr,seval,wq]
theorem Js {is:List Bool} {l:List Int} : ((!l.any λs=>decide (0<=s)) && hX l is true)=hX l is false:=by
 induction l with
 | nil=>rfl
 | cons s l a =>
  simp only[hX,XK,List.any_cons] at a ⊢
  rw[<-a]
  by_cases h:0<=s
  .simp[h]
  .simp only[h,decide_false,YA,if_false]
   cases (l.any λs=>decide (0<=s)) <;> simp
theorem mN {h:Heap} {u:V} {l:List Int} (a:aH h.view u 1 (l.map λx=>[gi x])):du h u (encI l):=du.DJ (f:=Value.int .i64) a
theorem Hv (r:aW) (is:List Bool) (hr:BQ is.length r):cd Tryz.prog 174 [.agg (aU r),cB is] (encI (if hX r.right is false=true then [r.left] else [])):=by
 obtain⟨f,_,_,c,d⟩:=hr
 have a:aC r.right:=by unfold aC;omega
 refine cd.of (AH r is) ?_
 refine ao.of mixed vO ?_
 rw[<-Js]
 simp(disch:=omega)only[↓wr,seval,wq,qR,aU,encI]
 refine aq.pure (Tt r a) ?_
 repeat' (first | ((first|apply aj.dec|apply aj.eq|apply aj.ne|apply aj.split)<;>intro)|(refine aq.pure (sO r is a d) ?_)|(simp(disch:=omega)only[↓wr,seval,wq,aU,encI]))
 all_goals first
  | (intro n e b;rw[Wv (by simp[*])];exact mN (l:=[r.left]) (.inr ⟨n,rfl,by rw[b];simp[View.set]⟩))
  | (intro e b;rw[Ws (by simp[*])];exact .emp _)
theorem DZ (r:aW) (is:List Bool) (hr:BQ is.length r):cd Tryz.prog 226 [.agg (aU r),cB is] (encI (if hX r.right is true=true then [r.left] else [])):=by
 obtain⟨f,_,_,c,d⟩:=hr
 have a:aC r.right:=by unfold aC;omega
 refine cd.of (AH r is) ?_
 refine ao.of mixed tF ?_
 simp(disch:=omega)only[↓wr,seval,wq,oW,aU,encI]
 refine aq.pure (sO r is a d) ?_
 repeat' (first | ((first|apply aj.dec|apply aj.eq|apply aj.ne|apply aj.split)<;>intro)|(simp(disch:=omega)only[↓wr,seval,wq,aU,encI]))
 all_goals first
  | (intro n e b;rw[Wv (by simp[*])];exact mN (l:=[r.left]) (.inr ⟨n,rfl,by rw[b];simp[View.set]⟩))
  | (intro e b;rw[Ws (by simp[*])];exact .emp _)
def gQ (l:List Int):List Int:=(l.filter λs=>decide (s < 0)).map λs=>-1 - s
theorem Nr (r:aW) (is p:List Bool):∀ v∈[V.agg (aU r),cB is,.aN [cB p] 0],Tree v:=by
 intro v a;simp at a
 rcases a with rfl | rfl | rfl
 .exact cX _ (gI r)
 .exact kW is
 .exact gS (by intro v a;simp at a;subst a;exact kW p)
theorem FK (r:aW) (is p:List Bool) (hr:BQ is.length r) (hp:p.length=is.length) :
  cd Tryz.prog 227 [.agg (aU r),cB is,.aN [cB p] 0] (encI (if (is.getD r.left.toNat false && hX r.right p true)=true then gQ r.right else [])):=by
 obtain⟨E,A,B,C,l⟩:=hr
 have n:aC r.right:=by unfold aC;omega
 refine cd.of (Nr r is p) ?_
 refine ao.of mixed uA ?_
 have o:is[r.left.toNat]?=some (is[r.left.toNat]'(by omega)):=Wp (by omega)
 have g:is.getD r.left.toNat false=is[r.left.toNat]'(by omega):=by simp[Wo,o]
 generalize is[r.left.toNat]'(by omega)=b at o g
 rw[g]
 simp(disch:=omega)only[↓wr,seval,wq,qA,aU,encI,cB,Ww,o]
 cases b with
 | false =>
  simp(disch:=omega)only[↓wr,seval,wq]
  intro z q
  exact .emp _
 | true =>
  simp(disch:=omega)only[↓wr,seval,wq,aU,encI,cB]
  refine aq.pure (sO r p n (λs j=>⟨(l s j).1,λh=>by rw[hp];exact(l s j).2 h⟩)) ?_
  repeat' (first | ((first|apply aj.dec|apply aj.eq|apply aj.ne|apply aj.split)<;>intro)|(simp(disch:=omega)only[↓wr,seval,wq,aU,encI,cB]))
  .rename_i t
   rw[Wv (by simp[t])]
   refine bk.up r.right.length (λi T H=>(∃ u,T 5=u/\aH H u 1 ((gQ (r.right.take i)).map λx=>[gi x]))/\T 21=encI r.right/\T 22=gi r.right.length/\T 23=gi i) ?_ ?_
   .exact⟨⟨_,rfl,.nil⟩,rfl,rfl,rfl⟩
   rintro i k T H' hk ⟨⟨u,e,hu⟩,a,c,d⟩
   simp(disch:=omega)only[↓wr,seval,wq,oF,e,a,c,d,encI]
   apply aj.dec<;>intro D
   .have v:r.right[i]?=some (r.right[i]'(by omega)):=Wp (by omega)
    have hm:r.right[i]'(by omega)∈r.right:=WA _
    have f:gQ (r.right.take (i+1))=gQ (r.right.take i) ++ gQ [r.right[i]'(by omega)]:=by
     rw[WY,v,gQ,Yn,W6];rfl
    have hlen:(gQ (r.right.take i)).length<=6:=by
     have h1:(gQ (r.right.take i)).length<=(r.right.take i).length:=by simp only[gQ,WG];exact List.length_filter_le _ _
     have F:(r.right.take i).length<=i:=List.length_take_le _ _
     omega
    generalize r.right[i]'(by omega)=s at v hm f
    obtain⟨⟨s1,s2⟩,G⟩:=l s hm
    simp(disch:=omega)only[↓wr,seval,wq,e,a,c,d,encI,Ww,v]
    apply aj.dec<;>intro w
    .simp(disch:=omega)only[↓wr,seval,wq,e,a,c,d]
     intro m hm
     try simp(disch:=omega)only[↓wr,seval,wq,e,a,c,d,bY]
     refine kT (hu.fresh hm) (by simp) (by simp[aE]) (by unfold aD;simp at hlen ⊢;omega) (by unfold aD;simp at hlen ⊢;omega) ?_
     intro u' I y _
     simp(disch:=omega)only[↓wr,seval,wq,a,c,d]
     refine aJ hk (by omega) ⟨⟨u',rfl,?_⟩,a,c,rfl⟩
     rw[f]
     simpa [gQ,w] using y
    .simp(disch:=omega)only[↓wr,seval,wq,e,a,c,d]
     refine aJ hk (by omega) ⟨⟨u,e,?_⟩,a,c,rfl⟩
     rw[f]
     simpa [gQ,w] using hu
   .rw[WT (by omega)] at hu
    simp(disch:=omega)only[↓wr,seval,wq,e,a,c,d]
    intro z q
    exact mN (by rw[q];exact hu)
  .rename_i t
   intro z q
   rw[Ws (by simp[t])]
   exact .emp _
def qW (is:List Bool) (l:List Int):List Bool:=l.foldl (λis n=>is.set n.toNat true) is
def stepG (comes:aW->List Bool->List Int) (is:List Bool) (r:aW):List Bool:=qW is (comes r is)
def eh (comes:aW->List Bool->List Int) (rules:List aW) (is:List Bool):List Bool:=rules.foldl (stepG comes) is
def gT (a b:List Bool):Prop:=a.length=b.length/\∀ i,a.getD i false=true->b.getD i false=true
theorem gT.refl (a:List Bool):gT a a:=⟨rfl,λ_ h=>h⟩
theorem gT.trans {a b c:List Bool} (h:gT a b) (k:gT b c):gT a c:=⟨h.1.trans k.1,λi hi=>k.2 i (h.2 i hi)⟩
theorem gT.set (a:List Bool) (i:Nat):gT a (a.set i true):=by
 refine⟨by simp,λj h=>?_⟩
 simp only[Wo,Xs] at h ⊢
 split
 .split
  .rfl
  .rename_i e b;rw[<-e,Xa (by omega)] at h;simp at h
 .exact h
theorem Ik:∀ (l:List Int) (is:List Bool),gT is (qW is l)
 | [],is=>.refl _
 | n :: l,is=>(gT.set is n.toNat).trans (Ik l _)
theorem tj (comes:aW->List Bool->List Int):∀ (rules:List aW) (is:List Bool),gT is (eh comes rules is)
 | [],is=>.refl _
 | r :: rs,is=>(Ik _ _).trans (tj comes rs _)
def cy (a:List Bool):Nat:=a.countP λx=>x
theorem rQ (a:List Bool):cy a<=a.length:=List.countP_le_length
theorem gT.cy:∀ {a b:List Bool},gT a b->cy a<=cy b/\(cy a=cy b->a=b)
 | [],[],_=>⟨Wz _,λ_=>rfl⟩
 | [],_ :: _,h=>by simp[gT] at h
 | _ :: _,[],h=>by simp[gT] at h
 | x :: a,y :: b,h=>by
  have c:x=true->y=true:=λe=>by have:=h.2 0 (by simpa using e);simpa using this
  obtain⟨h1,d⟩:=gT.cy (a:=a) (b:=b) ⟨by simpa using h.1,λi hi=>by have:=h.2 (i+1) (by simpa using hi);simpa using this⟩
  unfold Gv.cy at h1 d ⊢
  simp only[List.countP_cons]
  cases x with
  | true =>
   have:=c rfl;subst this
   simp only[if_true]
   exact⟨by omega,λe=>by rw[d (by omega)]⟩
  | false =>
   cases y with
   | false=>simp only[WR,if_false];exact⟨by omega,λe=>by rw[d (by omega)]⟩
   | true=>simp only[WR,if_false,if_true];exact⟨by omega,λe=>by omega⟩
def iu (comes:aW->List Bool->List Int) (rules:List aW):Nat->List Bool->List Bool
 | 0,is=>is
 | k+1,is=>if eh comes rules is=is then is else iu comes rules k (eh comes rules is)
theorem sN (comes:aW->List Bool->List Int) (rules:List aW):∀ (k:Nat) (is:List Bool),is.length<=cy is+k->eh comes rules (iu comes rules k is)=iu comes rules k is/\gT is (iu comes rules k is)
 | 0,is,h=>by
  have h1:=tj comes rules is
  have b:=rQ (eh comes rules is)
  have a:=h1.cy
  rw[<-h1.1] at b
  have c:=rQ is
  exact⟨(a.2 (by omega)).symm,.refl _⟩
 | k+1,is,h=>by
  simp only[iu]
  by_cases e:eh comes rules is=is
  .rw[Wv e];exact⟨e,.refl _⟩
  .rw[Ws e]
   have h1:=tj comes rules is
   have a:=h1.cy
   have:cy is < cy (eh comes rules is):=by
    rcases W5 (cy is) (cy (eh comes rules is)) with h | h
    .exact h
    .exact absurd (a.2 (by omega)).symm e
   obtain⟨g1,g2⟩:=sN comes rules k (eh comes rules is) (by rw[<-h1.1];omega)
   exact⟨g1,h1.trans g2⟩
def xn:SC :=
 ai [af [aZ 26 .lss 25 24],cp 26 (.exit 4),.block 5 (ai [af [aY 27 1 23 25,au 28 27,aa 11 28],.region false [⟨none,[aa 29 7,aa 30 29]⟩,⟨(some (30,false)),[aa 31 1,aa 32 11,aY 33 1 31 32,au 34 33,cW 35 34]⟩,⟨none,[b6 36 30 35,aa 7 36]⟩],af [aa 37 1,aa 38 11,aY 39 1 37 38,(none,.op (.store 1 (.tmp 39) (.val (.val (.bool true)))))]]),af [aF 40 .add 25 1,aa 25 40]]
def xm:SC :=
 ai [af [aZ 17 .lss 16 15],cp 17 (.exit 2),.block 3 (ai [af [aY 18 3 14 16,bj 19 3 18,((some 9),.op (.alloc [(.val (.int .i64 0)),(.emp 1),(.val (.int .i64 0))])),df 3 9 19],af [aa 20 2,bj 21 3 9,aa 22 1,((some 23),.call (.tmp 20) [(.tmp 21),(.tmp 22)]),aQ 24 23,bb 25 0],cz 4 xn]),af [aF 41 .add 16 1,aa 16 41]]
def qI:SC :=
 ai [ai [af [aa 12 7],cp 12 (.exit 0)],.block 1 (ai [af [bc 7 false],af [ay 13 2 3,au 14 13,aQ 15 14,bb 16 0],cz 2 xm])]
def Ad:SF:=⟨ai [af [cJ 3 0,b7 6 1],ai [af [bc 7 true],cz 0 qI],af [aa 42 1,aa 6 42],.ret],
 [.tmp 6],43⟩
theorem DX:aG Tryz.prog 173 [3]=some Ad:=by kernel_rfl
theorem RV {is:List Bool} {i:Nat} (h:is.getD i false=true):is.set i true=is:=by
 apply List.ext_getElem?
 intro j
 simp only[Wo] at h
 rw[Xs]
 split
 .rename_i e;subst e
  split
  .rename_i a;rw[Wp a] at h ⊢;simp at h;simp[h]
  .rename_i a;rw[Xa (by omega)] at h;simp at h
 .rfl
theorem Mb {comes:aW->List Bool->List Int} {rules:List aW} {k:Nat} {is:List Bool} (h:eh comes rules is=is):iu comes rules k is=is:=by
 cases k with
 | zero=>rfl
 | succ k=>simp only[iu,h,if_true]
theorem LH {comes:aW->List Bool->List Int} {rules:List aW} {k:Nat} {is:List Bool} (h:¬ eh comes rules is=is) (hk:is.length<=cy is+k):∃ j,k=j+1/\iu comes rules k is=iu comes rules j (eh comes rules is)/\(eh comes rules is).length<=cy (eh comes rules is)+j:=by
 have h1:=tj comes rules is
 have a:=h1.cy
 have b:=rQ (eh comes rules is)
 have:cy is < cy (eh comes rules is):=by
  rcases W5 (cy is) (cy (eh comes rules is)) with h | h
  .exact h
  .exact absurd (a.2 (by omega)).symm (by assumption)
 have c:=h1.1
 obtain⟨j,rfl⟩:∃ j,k=j+1:=⟨k - 1,by omega⟩
 exact⟨j,rfl,by simp only[iu];rw[Ws h],by omega⟩
theorem RR {a is:List Bool} {i:Nat} {b:Bool} (hle:gT a is) (hi:i < is.length) (d:b = !decide (is=a)):(b || !is.getD i false) = !decide (is.set i true=a):=by
 cases c:is.getD i false with
 | true=>rw[RV c,d];simp
 | false =>
  have:¬ is.set i true=a:=λe=>by
   have h1:(is.set i true).getD i false=true:=by simp[Wo,hi]
   rw[e] at h1
   have:=hle.2 i h1
   rw[c] at this;simp at this
  simp[this]
theorem DB (g:ag) (hr:g.rules.length<=40) (comes:aW->List Bool->List Int) (f:FuncId) (t D:List V) (al:dw Tryz.prog f=true) (N:Nat) (hN:N<=16)
  (hc:∀ r∈g.rules,∀ is:List Bool,is.length=N->cd Tryz.prog f (.agg (aU r) :: cB is :: D) (encI (comes r is))/\(comes r is).length<=100/\∀ n∈comes r is,ba n/\0<=n/\n < N)
  (id:Nat) (A:List Bool) (ar:A.length=N) (H:View) (hH:H id=.arr 1 (bH A)) (O:∀ H':View,(∀ k,H k≠.dead->k≠id->H' k=H k)->pF H' t D) :
  ao Tryz.prog 173 [.agg (ak g),.sl id 0 N 1,.fn f [] t] H λr H'=>r=.sl id 0 N 1/\H' id=.arr 1 (bH (iu comes g.rules 16 A))/\∀ k,H k≠.dead->k≠id->H' k=H k:=by
 refine ao.of mixed DX ?_
 simp(disch:=omega)only[↓wr,seval,wq,Ad,ak,encS]
 refine bk.intro (λk T H'=>∃ is:List Bool,is.length=N/\H' id=.arr 1 (bH is)/\(∀ k,H k≠.dead->k≠id->H' k=H k)/\T 1=.sl id 0 N 1/\T 2=.fn f [] t/\T 3=.aN (ak g) 0 /\
  ((T 7=gb true/\∃ j,k=j+1/\iu comes g.rules j is=iu comes g.rules 16 A/\N<=cy is+j)∨(T 7=gb false/\is=iu comes g.rules 16 A))) 17 ?_ ?_
 .exact⟨A,ar,hH,λ_ _ _=>rfl,rfl,rfl,rfl,.inl ⟨rfl,16,rfl,rfl,by omega⟩⟩
 rintro k T H1 ⟨is,hlen,o,p,t1,t2,t3,u⟩
 rcases u with ⟨u,j,rfl,J,hj⟩ | ⟨u,J⟩
 .simp(disch:=omega)only[↓wr,seval,wq,qI,t1,t2,t3,u,ak,encS]
  refine bk.up g.rules.length (λi T H'=>∃ o8:List Bool,o8.length=N/\gT is o8/\o8=(g.rules.take i).foldl (stepG comes) is/\H' id=.arr 1 (bH o8)/\(∀ k,H k≠.dead->k≠id->H' k=H k)/\T 1=.sl id 0 N 1/\T 2=.fn f [] t/\T 3=.aN (ak g) 0 /\
   T 7=gb (!decide (o8=is))/\T 14=.aL (g.rules.map aU)/\T 15=gi g.rules.length/\T 16=gi i) ?_ ?_
  .exact⟨is,hlen,.refl _,rfl,o,p,t1,t2,t3,by simp;rfl,rfl,rfl,rfl⟩
  clear t1 t2 t3 u o p
  rintro i k T H1 hk ⟨o8,s,W,P,o,p,t1,t2,t3,u,c,d,m⟩
  simp(disch:=omega)only[↓wr,seval,wq,xm,t1,t2,t3,u,c,d,m,ak,encS]
  apply aj.dec<;>intro a6
  .have Q:g.rules[i]?=some (g.rules[i]'(by omega)):=Wp (by omega)
   have M:g.rules[i]'(by omega)∈g.rules:=WA _
   have X:(g.rules.take (i+1)).foldl (stepG comes) is=stepG comes ((g.rules.take i).foldl (stepG comes) is) (g.rules[i]'(by omega)):=by
    rw[WY,Q,X2];rfl
   generalize g.rules[i]'(by omega)=r at Q M X
   obtain⟨a8,bd,Y⟩:=hc r M o8 s
   simp(disch:=omega)only[↓wr,seval,wq,t1,t2,t3,u,c,d,m,aU,encI,Ww,Q]
   intro b R
   have E:b≠id:=by rintro rfl;rw[o] at R;simp at R
   try simp(disch:=omega)only[↓wr,seval,wq,t1,t2,t3,u,c,d,m]
   refine aq.iM a8 al ⟨cg.tree (cX _ (gI r)),Lp (by simp[View.set,E.symm,o]) s.symm,O _ (λk hk v=>?_)⟩ ?_
   .have S:k≠b:=by
     rintro rfl
     rw[p k hk v] at R
     exact hk R
    simp[View.set,S,p k hk v]
   generalize hl:comes r o8=l at bd Y
   simp(disch:=omega)only[↓wr,seval,wq,t1,t2,t3,u,c,d,m,encI]
   refine bk.up l.length (λq T H'=>∃ a:List Bool,a.length=N/\gT is a/\a=qW o8 (l.take q)/\H' id=.arr 1 (bH a)/\(∀ k,H k≠.dead->k≠id->H' k=H k)/\T 1=.sl id 0 N 1/\T 2=.fn f [] t/\T 3=.aN (ak g) 0 /\
    T 7=gb (!decide (a=is))/\T 14=.aL (g.rules.map aU)/\T 15=gi g.rules.length/\T 16=gi i/\T 23=encI l/\T 24=gi l.length/\T 25=gi q) ?_ ?_
   .refine⟨o8,s,W,rfl,by simp[View.set,E.symm,o],λk hk v=>?_,t1,t2,t3,u,c,d,m,rfl,rfl,rfl⟩
    have S:k≠b:=by
     rintro rfl
     rw[p k hk v] at R
     exact hk R
    simp[View.set,S,p k hk v]
   clear t1 t2 t3 u c d m o p R E
   rintro q k2 T H1 bl ⟨a,F,G,I,o,p,t1,t2,t3,u,c,d,m,w,y,B⟩
   simp(disch:=omega)only[↓wr,seval,wq,xn,t1,t2,t3,u,c,d,m,w,y,B,encI]
   apply aj.dec<;>intro bn
   .have U:l[q]?=some (l[q]'(by omega)):=Wp (by omega)
    have Z:l[q]'(by omega)∈l:=WA _
    have ab:qW o8 (l.take (q+1))=(qW o8 (l.take q)).set (l[q]'(by omega)).toNat true:=by
     unfold qW;rw[WY,U,X2];rfl
    generalize l[q]'(by omega)=n at U Z ab
    obtain⟨⟨n1,n2⟩,n3,n4⟩:=Y n Z
    have ae:a.getD n.toNat false=a[n.toNat]'(by omega):=by simp[Wo,show n.toNat < a.length by omega]
    have z:=RR G (show n.toNat < a.length by omega) (b:=!decide (a=is)) rfl
    rw[ae] at z
    have K:=Ew (show n.toNat < a.length by omega)
    generalize a[n.toNat]'(by omega)=x at z K ae
    have fin:∀ (C:Env),C 7=gb (!decide (a.set n.toNat true=is))->C 1=.sl id 0 N 1->C 2=.fn f [] t->C 3=.aN (ak g) 0->C 14=.aL (g.rules.map aU)->C 15=gi g.rules.length->C 16=gi i->C 23=encI l->C 24=gi l.length->C 25=gi ((q:Int)+1) ->
      ∃ k',k' < k2/\Is l.length k' (λq T H'=>∃ a:List Bool,a.length=N/\gT is a/\a=qW o8 (l.take q)/\H' id=.arr 1 (bH a)/\(∀ k,H k≠.dead->k≠id->H' k=H k)/\T 1=.sl id 0 N 1/\T 2=.fn f [] t/\T 3=.aN (ak g) 0 /\
       T 7=gb (!decide (a=is))/\T 14=.aL (g.rules.map aU)/\T 15=gi g.rules.length/\T 16=gi i/\T 23=encI l/\T 24=gi l.length/\T 25=gi q) C (H1.set id (.arr 1 (bH (a.set n.toNat true)))):=by
     intro C a7 a1 a2 a3 br bs bx a23 a24 a25
     refine aJ bl (by omega) ⟨a.set n.toNat true,by simp[F],G.trans (.set _ _),by rw[ab,<-I],by simp[View.set],λk hk v=>by simp[View.set,v,p k hk v],a1,a2,a3,a7,br,bs,bx,a23,a24,by rw[a25];rfl⟩
    simp(disch:=omega)only[↓wr,seval,wq,t1,t2,t3,u,c,d,m,w,y,B,encI,Ww,U]
    apply aj.dec<;>intro e
    .simp(disch:=omega)only[↓wr,seval,wq,t1,t2,t3,u,c,d,m,w,y,B,encI,o,K,WG]
     refine⟨by omega,by omega,?_⟩
     try simp(disch:=omega)only[↓wr,seval,wq,t1,t2,t3,u,c,d,m,w,y,B,encI,o,K,WG]
     refine⟨by omega,by omega,?_⟩
     rw[lu]
     exact fin _ (by rw[<-z];simp[e];rfl) t1 t2 t3 c d m w y rfl
    .simp(disch:=omega)only[↓wr,seval,wq,t1,t2,t3,u,c,d,m,w,y,B,encI,o,K,WG]
     refine⟨by omega,by omega,?_⟩
     rw[lu]
     exact fin _ (by rw[<-z];simp[e];rfl) t1 t2 t3 c d m w y rfl
   .rw[WT (by omega)] at I
    simp(disch:=omega)only[↓wr,seval,wq,t1,t2,t3,u,c,d,m,w,y,B]
    refine aJ hk (by omega) ⟨a,F,G,?_,o,p,t1,t2,t3,u,c,d,rfl⟩
    rw[X,<-P,stepG,hl,<-I]
  .rw[WT (by omega)] at P
   simp(disch:=omega)only[↓wr,seval,wq,t1,t2,t3,u,c,d,m]
   have L:o8=eh comes g.rules is:=P
   by_cases e:o8=is
   .refine⟨0,by omega,o8,s,o,p,rfl,.inr ⟨by simp[e],?_⟩⟩
    rw[<-J,e]
    exact(Mb (by rw[<-L];exact e)).symm
   .obtain⟨j2,rfl,e2,e3⟩:=LH (k:=j) (λh=>e (L.trans h)) (by rw[hlen];exact hj)
    refine⟨j2+1,by omega,o8,s,o,p,rfl,.inl ⟨by simp[e],j2,rfl,?_,?_⟩⟩
    .rw[<-J,e2,L]
    .rw[<-L,s] at e3;exact e3
 .simp(disch:=omega)only[↓wr,seval,wq,qI,t1,t2,t3,u,ak,encS]
  exact⟨J ▸ o,p⟩
theorem AG {α:Type} {f:α->α} {x:α} (h:f x=x):∀ n,iter f n x=x
 | 0=>rfl
 | n+1=>by rw[iter,h,AG h n]
theorem Ga {α:Type} (f:α->α):∀ (a b:Nat) (x:α),iter f (a+b) x=iter f b (iter f a x)
 | 0,b,x=>by rw[Xk];rfl
 | a+1,b,x=>by rw[Nat.add_right_comm,iter,iter,Ga f a b]
theorem BO (comes:aW->List Bool->List Int) (rules:List aW):∀ (k:Nat) (is:List Bool),iu comes rules k is=iter (eh comes rules) k is
 | 0,is=>rfl
 | k+1,is=>by
  simp only[iu,iter]
  by_cases e:eh comes rules is=is
  .rw[Wv e,e,AG e]
  .rw[Ws e,BO comes rules k]
theorem ye (comes:aW->List Bool->List Int) (rules:List aW) (is:List Bool) (h:is.length<=16):iu comes rules 16 is=iter (eh comes rules) is.length is:=by
 have h1:=(sN comes rules is.length is (by omega)).1
 rw[BO] at h1 ⊢
 obtain⟨m,hm⟩:∃ m,16=is.length+m:=⟨16 - is.length,by omega⟩
 rw[hm,Ga,AG h1]
def mg (t:Bool) (r:aW) (is:List Bool):List Int:=if hX r.right is t=true then [r.left] else []
def sq (p:List Bool) (r:aW) (is:List Bool):List Int:=if (is.getD r.left.toNat false && hX r.right p true)=true then gQ r.right else []
theorem Km (g:ag) (t:Bool):eh (mg t) g.rules=pt g t:=by
 funext is
 unfold eh pt
 congr 1
 funext is r
 unfold stepG mg fI
 split <;> rfl
theorem Bk:∀ (l:List Int) (is:List Bool),qW is (gQ l)=l.foldl mark is
 | [],is=>rfl
 | s :: l,is=>by
  have a:=Bk l
  unfold qW gQ at a ⊢
  rw[Xz,<-a]
  unfold mark
  by_cases h:s < 0
  .rw[Wv h,List.filter_cons_of_pos (by simpa using h)];rfl
  .rw[Ws h,List.filter_cons_of_neg (by simpa using h)]
theorem K7 (g:ag) (p:List Bool):eh (sq p) g.rules=y0 g p:=by
 funext is
 unfold eh y0
 congr 1
 funext is r
 unfold stepG sq oM
 split
 .exact Bk _ _
 .rfl
theorem GV {g:ag} (h:bq g=true) (t:Bool):iu (mg t) g.rules 16 (cZ g)=bm g t:=by
 have a:=bK h
 have b:(cZ g).length=g.ax.length:=by simp[cZ]
 have:=a.ax
 rw[ye _ _ _ (by rw[b];exact a.ax),Km,b,bm,Wv h]
theorem Ou {g:ag} (h:bq g=true):iu (sq (bm g true)) g.rules 16 ((cZ g).set g.start.toNat true)=dy g:=by
 have b:=bK h
 have a:((cZ g).set g.start.toNat true).length=g.ax.length:=by simp[cZ]
 rw[ye _ _ _ (by rw[a];exact b.ax),K7,a,dy,Wv h]
def sC:SF:=⟨ai [af [cJ 1 0,b7 2 1],ai [af [bj 3 4 1,aT 4 89 [3],cW 5 4],bf 5 (ai [af [b7 2 1],.ret])],af [bj 6 4 1,ay 7 1 1,au 8 7,aQ 9 8,((some 10),.op (.make 1 1 [(.val (.bool false))] (.tmp 9) (.tmp 9))),nr 11 173 [(.tmp 6),(.tmp 10),(.val (.fn 174 [] []))],aa 2 11],.ret],
 [.tmp 2],12⟩
theorem yU:aG Tryz.prog 109 [1]=some sC:=by kernel_rfl
def qN:SF:=⟨ai [af [cJ 1 0,b7 2 1],ai [af [bj 3 4 1,aT 4 89 [3],cW 5 4],bf 5 (ai [af [b7 2 1],.ret])],af [bj 6 4 1,ay 7 1 1,au 8 7,aQ 9 8,((some 10),.op (.make 1 1 [(.val (.bool false))] (.tmp 9) (.tmp 9))),nr 11 173 [(.tmp 6),(.tmp 10),(.val (.fn 226 [] []))],aa 2 11],.ret],
 [.tmp 2],12⟩
theorem wE:aG Tryz.prog 161 [1]=some qN:=by kernel_rfl
def rO:SF:=⟨ai [af [cJ 1 0,b7 2 1],ai [af [bj 5 4 1,aT 6 89 [5],cW 7 6],bf 7 (ai [af [b7 2 1],.ret])],af [bj 8 4 1,aT 9 161 [8],((some 3),.op (.alloc [(.emp 1)])),df 1 3 9],af [ay 10 1 1,au 11 10,aQ 12 11,((some 13),.op (.make 1 1 [(.val (.bool false))] (.tmp 12) (.tmp 12))),aa 4 13],af [aa 14 4,ay 15 3 1,au 16 15,aY 17 1 14 16,(none,.op (.store 1 (.tmp 17) (.val (.val (.bool true)))))],af [bj 18 4 1,aa 19 4,((some 20),.op (.qH 227 [] [(.tmp 3)])),aT 21 173 [18,19,20],aa 2 21],.ret],
 [.tmp 2],22⟩
theorem xy:aG Tryz.prog 162 [1]=some rO:=by kernel_rfl
structure ag.Small (g:ag):Prop where
 names:g.ax.length+g.an.length<=1000
theorem yP {a:Heap} {id n:Nat} {is:List Bool} (b:a.view id=.arr 1 (bH is)) (c:n=is.length):du a (.sl id 0 n 1) (cB is):=by
 subst c;exact yH b
theorem G9 (g:ag) (d:g.Ok) (i:g.Small):cd Tryz.prog 109 [.agg (ak g)] (cB (bm g false)):=by
 refine cd.of (eR g) ?_
 refine ao.of mixed yU ?_
 have j:=d.ax
 unfold aC at j
 simp(disch:=omega)only[↓wr,seval,wq,sC,ak,encS]
 refine aq.pure (ni g d i.names) ?_
 repeat' (first | ((first|apply aj.dec|apply aj.eq|apply aj.ne|apply aj.split)<;>intro)|(simp(disch:=omega)only[↓wr,seval,wq,ak,encS]))
 .rename_i hr
  have b:=bK hr
  have h1:=b.th
  have k:=b.ax
  try simp(disch:=omega)only[↓wr,seval,wq,ak,encS]
  refine⟨⟨by omega,by unfold aD;omega,by unfold aD;omega⟩,λh=>by omega,?_⟩
  intro _ n
  try simp(disch:=omega)only[↓wr,seval,wq,ak,encS]
  refine aq.bX ((DB g b.rules (mg false) 174 [] [] (by kernel_rfl) g.ax.length k (λr a is e=>⟨Hv r is (by rw[e];exact b.zd d a),?_,?_⟩) n (cZ g) (by simp[cZ]) _ (by simp[View.set,cZ]) (λH' _=>trivial)).mono ?_)
  .unfold mg;split <;> simp
  .intro m hm
   unfold mg at hm
   split at hm
   .simp only[XB] at hm;subst hm
    exact⟨(d.av r a).1,b.left r a⟩
   .simp at hm
  .rintro r H' ⟨rfl,c,_⟩
   simp(disch:=omega)only[↓wr,seval,wq]
   intro l f
   rw[GV hr] at c
   exact yP (by rw[f];exact c) (ky hr _).symm
 .rename_i hr
  intro l f
  simp only[bm,hr]
  exact .emp _
theorem uz (g:ag) (d:g.Ok) (i:g.Small):cd Tryz.prog 161 [.agg (ak g)] (cB (bm g true)):=by
 refine cd.of (eR g) ?_
 refine ao.of mixed wE ?_
 have j:=d.ax
 unfold aC at j
 simp(disch:=omega)only[↓wr,seval,wq,qN,ak,encS]
 refine aq.pure (ni g d i.names) ?_
 repeat' (first | ((first|apply aj.dec|apply aj.eq|apply aj.ne|apply aj.split)<;>intro)|(simp(disch:=omega)only[↓wr,seval,wq,ak,encS]))
 .rename_i hr
  have b:=bK hr
  have h1:=b.th
  have k:=b.ax
  try simp(disch:=omega)only[↓wr,seval,wq,ak,encS]
  refine⟨⟨by omega,by unfold aD;omega,by unfold aD;omega⟩,λh=>by omega,?_⟩
  intro _ n
  try simp(disch:=omega)only[↓wr,seval,wq,ak,encS]
  refine aq.bX ((DB g b.rules (mg true) 226 [] [] (by kernel_rfl) g.ax.length k (λr a is e=>⟨DZ r is (by rw[e];exact b.zd d a),?_,?_⟩) n (cZ g) (by simp[cZ]) _ (by simp[View.set,cZ]) (λH' _=>trivial)).mono ?_)
  .unfold mg;split <;> simp
  .intro m hm
   unfold mg at hm
   split at hm
   .simp only[XB] at hm;subst hm
    exact⟨(d.av r a).1,b.left r a⟩
   .simp at hm
  .rintro r H' ⟨rfl,c,_⟩
   simp(disch:=omega)only[↓wr,seval,wq]
   intro l f
   rw[GV hr] at c
   exact yP (by rw[f];exact c) (ky hr _).symm
 .rename_i hr
  intro l f
  simp only[bm,hr]
  exact .emp _
theorem tU {g:ag} (hr:bq g=true):(dy g).length=g.ax.length:=by
 rw[dy,Wv hr,Au (f:=y0 g (bm g true)) (λis=>AT (λis x=>PY _ is x) g.rules is)]
 simp[cZ]
theorem FH (g:ag) (f:g.Ok) (w:g.Small):cd Tryz.prog 162 [.agg (ak g)] (cB (dy g)):=by
 refine cd.of (eR g) ?_
 refine ao.of mixed xy ?_
 have A:=f.ax
 unfold aC at A
 simp(disch:=omega)only[↓wr,seval,wq,rO,ak,encS]
 refine aq.pure (ni g f w.names) ?_
 repeat' (first | ((first|apply aj.dec|apply aj.eq|apply aj.ne|apply aj.split)<;>intro)|(simp(disch:=omega)only[↓wr,seval,wq,ak,encS]))
 .rename_i hr
  have d:=bK hr
  have h1:=d.th
  have B:=d.ax
  have D:=d.lX
  have E:=d.start
  have p:=ky hr true
  try simp(disch:=omega)only[↓wr,seval,wq,ak,encS]
  refine aq.pure (uz g f w).pure ?_
  simp(disch:=omega)only[↓wr,seval,wq,ak,encS,cB]
  intro q
  try simp(disch:=omega)only[↓wr,seval,wq,ak,encS,set_set]
  refine⟨⟨by omega,by unfold aD;omega,by unfold aD;omega⟩,λh=>by omega,?_⟩
  intro _ n t
  have e:=(dg t dG).1
  try simp(disch:=omega)only[↓wr,seval,wq,ak,encS,set_set]
  have i:=Ew (is:=cZ g) (show g.start.toNat < (cZ g).length by simp[cZ];omega)
  refine⟨by omega,by simp;omega,?_⟩
  refine aq.bX ((DB g d.rules (sq (bm g true)) 227 [.ptr q 0 0] [.aN [cB (bm g true)] 0] (by kernel_rfl) g.ax.length B (λr c is j=>⟨FK r is (bm g true) (by rw[j];exact d.zd f c) (by rw[j,p]),?_,?_⟩) n ((cZ g).set g.start.toNat true) (by simp[cZ]) _ ?_ (λH' u=>⟨cg.box (z:=1) ?_ ?_,trivial⟩)).mono ?_)
  .have F:=d.right r c
   unfold sq
   split
   .have:(gQ r.right).length<=r.right.length:=by simp only[gQ,WG];exact List.length_filter_le _ _
    omega
   .simp
  .intro m hm
   unfold sq at hm
   split at hm
   .simp only[gQ,WQ,XF,WH] at hm
    obtain⟨s,⟨k,l⟩,rfl⟩:=hm
    have a:=d.neg c k l
    have b:=((f.av r c).2.2.2 s k).1
    exact⟨⟨by omega,by omega⟩,by omega,a⟩
   .simp at hm
  .simp only[View.set,if_true]
   congr 1
   rw[<-lu]
   unfold cZ at i ⊢
   rw[Nl,i]
   rfl
  .rw[u q (by simp[View.set,Ne.symm e]) (Ne.symm e)]
   simp[View.set,Ne.symm e]
   rfl
  .intro v x;simp at x;subst x;exact kW _
  .rintro r H' ⟨rfl,o,_⟩
   simp(disch:=omega)only[↓wr,seval,wq]
   intro C y
   rw[Ou hr] at o
   exact yP (by rw[y];exact o) (by rw[tU hr])
 .rename_i hr
  intro C y
  simp only[dy,hr]
  exact .emp _
def fa (p q:List Bool) (r:aW):Bool:=q.getD r.left.toNat false && hX r.right p true
def eQ (p q:List Bool):List aW->Int->List Int
 | [],_=>[]
 | r :: l,i=>if fa p q r=true then i :: eQ p q l (i+1) else eQ p q l (i+1)
def tI (acc:List Int) (r:aW):List Int:=if r.left∈acc then acc else acc ++ [r.left]
def eV (p q:List Bool) (l:List aW):List Int:=(l.filter (fa p q)).foldl tI []
def rR (o:List Int) (x:Int):Int:=gq (λy=>y == x) o 0
def eS (f:Int->Int) (r:aW):aW:=⟨f r.left,r.right.map λs=>if s < 0 then -1 - f (-1 - s) else s,r.prec⟩
def AS (g:ag) (f:Int->Int) (p q:List Bool):ag :=
 ⟨g.an,(eV p q g.rules).map λx=>g.ax.getD x.toNat ⟨#[]⟩,(g.rules.filter (fa p q)).map (eS f),f g.start⟩
def tg:ag:=⟨[],[],[],0⟩
instance:DecidableEq Term:=λa b=>decidable_of_iff (a.name=b.name/\a.level=b.level/\a.assoc=b.assoc) (by cases a;cases b;simp)
instance:DecidableEq aW:=λa b=>decidable_of_iff (a.left=b.left/\a.prec=b.prec/\a.right=b.right) (by cases a;cases b;simp[and_comm])
instance:DecidableEq ag:=λa b=>decidable_of_iff (a.an=b.an/\a.ax=b.ax/\a.rules=b.rules/\a.start=b.start) (by cases a;cases b;simp)
def mJ (g:ag):ag × List Int × Int :=
 if bq g=true then
  if (bm g true).getD g.start.toNat false=true then (AS g (rR (eV (bm g true) (dy g) g.rules)) (bm g true) (dy g),eQ (bm g true) (dy g) g.rules 0,0)
  else (tg,[],9)
 else (tg,[],1)
theorem rL (p q:List Bool):∀ (a b:List aW) (i:Int),eQ p q (a ++ b) i=eQ p q a i ++ eQ p q b (i+a.length)
 | [],b,i=>by simp[eQ]
 | r :: a,b,i=>by
  simp only[Xh,eQ,rL p q a b (i+1),WD]
  have:i+1+(a.length:Int)=i+((a.length+1:Nat):Int):=by push_cast;omega
  rw[this]
  split <;> simp
theorem s9 (p q:List Bool):∀ (a:List aW) (i:Int),(eQ p q a i).length=(a.filter (fa p q)).length
 | [],i=>rfl
 | r :: a,i=>by
  simp only[eQ,List.filter_cons]
  split <;> simp[s9 p q a]
theorem yp (p q:List Bool):∀ (a:List aW) (i:Int) (k:Nat),k < (eQ p q a i).length->∃ m:Nat,(eQ p q a i)[k]?=some (i+m)/\a[m]?=(a.filter (fa p q))[k]?/\m < a.length
 | [],i,k,h=>by simp[eQ] at h
 | r :: a,i,k,h=>by
  simp only[eQ,List.filter_cons] at h ⊢
  by_cases hr:fa p q r=true
  .rw[Wv hr] at h ⊢
   rw[Wv hr]
   cases k with
   | zero=>exact⟨0,by simp,by simp,by simp⟩
   | succ k =>
    obtain⟨m,h1,b,c⟩:=yp p q a (i+1) k (by simpa using h)
    exact⟨m+1,by rw[Xl,h1];congr 1;push_cast;omega,by simpa using b,by simpa using c⟩
  .rw[Ws hr] at h ⊢
   rw[Ws hr]
   obtain⟨m,h1,b,c⟩:=yp p q a (i+1) k h
   exact⟨m+1,by rw[h1];congr 1;push_cast;omega,by simpa using b,by simpa using c⟩
theorem Ea (p q:List Bool) (l:List aW) (r:aW):eV p q (l ++ [r])=if fa p q r=true then tI (eV p q l) r else eV p q l:=by
 unfold eV
 rw[Yn]
 by_cases h:fa p q r=true
 .rw[Wv h,List.filter_cons_of_pos h,X2];rfl
 .rw[Ws h,List.filter_cons_of_neg h];simp
theorem Rn {o:List Int} {x:Int} : rR o x < 0↔x ∉ o:=by
 have:=vA (λy=>y == x) o 0 (by omega)
 unfold rR
 rw[<-Int.not_le]
 constructor
 .intro h a
  have e:(o.any λy=>y == x)=true:=XZ.2 ⟨x,a,by simp⟩
  rw[e] at this;exact h (by simpa using this)
 .intro h a
  have e:(o.any λy=>y == x)=true:=by rw[<-this];simpa using a
  obtain⟨y,b,e⟩:=XZ.1 e
  simp at e;subst e;exact h b
theorem S6 {o:List Int} {x:Int} (h:x∈o):0<=rR o x/\rR o x < o.length:=by
 have a:¬ rR o x < 0:=λe=>Rn.1 e h
 refine⟨by omega,?_⟩
 unfold rR
 have:∀ (l:List Int) (i:Int),gq (λz=>z == x) l i < i+l.length∨gq (λz=>z == x) l i = -1:=by
  intro l
  induction l with
  | nil=>intro i;right;rfl
  | cons z l b =>
   intro i
   simp only[gq]
   split
   .left;simp;omega
   .rcases b (i+1) with h | h
    .left;simp at h ⊢;omega
    .right;exact h
 rcases this o 0 with h1 | h1
 .simpa using h1
 .unfold rR at a;omega
def jZ:List Int->Int->List (Int × Int)
 | [],_=>[]
 | x :: l,i=>(x,i) :: jZ l (i+1)
theorem sT (x:Int):∀ (o:List Int) (i:Int),eA (jZ o i) x=if x∈o then some (gq (λy=>y == x) o i) else none
 | [],i=>by simp[jZ,eA]
 | y :: o,i=>by
  have a:=sT x o (i+1)
  unfold eA at a ⊢
  simp only[jZ,List.find?_cons,gq]
  by_cases e:x=y
  .subst e;simp
  .have b:¬ ((y == x)=true):=by simp[Ne.symm e]
   rw[show (x == y)=false by simp[e],Ws b]
   simp only
   rw[a]
   simp[e]
theorem EM {x v:Int} : ∀ {o:List Int} {i:Int},x ∉ o->kD x v (jZ o i)=jZ o i ++ [(x,v)]
 | [],i,_=>rfl
 | y :: o,i,h=>by
  simp only[WK,not_or] at h
  simp only[jZ,kD,show (x == y)=false by simp[h.1],WR,if_false,EM h.2,Xh]
theorem CC {x:Int} : ∀ {o:List Int} {i:Int},jZ (o ++ [x]) i=jZ o i ++ [(x,i+o.length)]
 | [],i=>by simp[jZ]
 | y :: o,i=>by
  simp only[Xh,jZ,CC (o:=o),WD]
  congr 4
  push_cast;omega
def eo (o:List Int) (x:Int):Int:=(eA (jZ o 0) x).getD 0
theorem zn {o:List Int} {x:Int} (h:x∈o):eo o x=rR o x:=by
 simp[eo,sT,h,rR]
theorem SH (o:List Int) (x:Int):0<=eo o x/\eo o x<=o.length:=by
 by_cases h:x∈o
 .rw[zn h];have:=S6 h;omega
 .simp[eo,sT,h]
theorem OV {g:ag} {p q:List Bool} (a:g.start∈eV p q g.rules) (b:∀ r∈g.rules.filter (fa p q),r.left∈eV p q g.rules/\∀ s∈r.right,s < 0->-1 - s∈eV p q g.rules) :
  AS g (eo (eV p q g.rules)) p q=AS g (rR (eV p q g.rules)) p q:=by
 unfold AS
 congr 1
 .apply Xy
  intro r hr
  obtain⟨h1,c⟩:=b r hr
  unfold eS
  congr 1
  .exact zn h1
  .apply Xy
   intro s d
   split
   .rename_i h;rw[zn (c s d h)]
   .rfl
 .exact zn a
theorem um:∀ (l:List aW) (acc:List Int) (x:Int),x∈l.foldl tI acc↔x∈acc∨∃ r∈l,r.left=x
 | [],acc,x=>by simp
 | r :: l,acc,x=>by
  rw[Xz,um l]
  have:x∈tI acc r↔x∈acc∨r.left=x:=by
   unfold tI
   split
   .rename_i h
    constructor
    .exact .inl
    .rintro (a | rfl)
     .exact a
     .exact h
   .simp[eq_comm]
  rw[this]
  simp only[WK,exists_eq_or_imp]
  constructor
  .rintro ((h | h) | h)
   .exact .inl h
   .exact .inr (.inl h)
   .exact .inr (.inr h)
  .rintro (h | h | h)
   .exact .inl (.inl h)
   .exact .inl (.inr h)
   .exact .inr h
theorem GZ {p q:List Bool} {l:List aW} {x:Int} : x∈eV p q l↔∃ r∈l,fa p q r=true/\r.left=x:=by
 unfold eV
 rw[um]
 simp[XF,and_assoc]
end Gv
