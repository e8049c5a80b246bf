/-
  Part 13 of the proof: what the machine does and what the functions answer.
  Conditions: those that each lemma names.
-/
import Derived.Shelf.SlSortCmp.NoneTotal
import Derived.Shelf.SlicesG.Cmp
import Derived.StillTailTactics
import Derived.Test.YtihmlbdfcmfbdaaGreatSGzB4L
set_option linter.unusedSimpArgs false
set_option linter.unusedVariables false
set_option maxRecDepth 100000
set_option maxHeartbeats 20000000
namespace Gv
open Go Go.Proofs
open Go Go.Proofs Go.Shelf Go.RowKit Go.Sort
theorem bS.cut {P:Program} {f:FuncId} {vs:List V} {h g:aC} {r:V} (n:bS P f vs h r g) {id sz:Nat} {es rest:List (List V)} (l:g.view id=.arr sz (es ++ rest)):bS P f vs h r (g.set id (.arr sz es)):=by
 have m:id < g.length:=iS (by rw[l]; simp)
 refine ⟨by simpa using n.1,fun Z μ F w xs hr z p=>(n.2 Z μ F w xs hr z (by simpa using p)).mono ?_⟩
 rintro e w' ⟨x,A,μ',rfl,B,a,hex,q⟩
 refine ⟨x,A,μ',rfl,B,?_,hex,by simpa using q⟩
 have t:∀ k,cat (g.set id (.arr sz es)) F k=if k=id then .arr sz es else cat g F k:=fun k=>by
  simp only[cat,List.length_set]
  by_cases hk:k < g.length
  ·rw[Xg hk,Xg hk,kf m]; rfl
  ·rw[Xd hk,Xd hk,Xd (by omega)]
 have u:cat g F id=.arr sz (es ++ rest):=by simp only[cat]; rw[Xg m,l]
 refine ⟨fun k=>?_,fun i j b o s C D v h1 E=>?_,a.lt,a.cQ,a.ie⟩
 ·rw[t]
  split
  ·rename_i hk
   subst hk
   have d:=a.obj k
   rw[u] at d
   intro b o0 s hm
   obtain ⟨G,⟨c,e,f,n,p,hs⟩,H,I⟩:=d b o0 s hm
   have y:∀ i,i < es.length→(es ++ rest).getD i []=es.getD i []:=fun i hi=>by
    simp[Xb,XA hi]
   refine ⟨G,⟨c,e,f,n,p,?_⟩,fun i hi=>?_,fun i j hi J=>?_⟩
   ·rw[XV,X5] at hs; omega
   ·rw[← y i hi]; exact H i (by rw[XV]; omega)
   ·rw[← y i hi]; exact I i j (by rw[XV]; omega) J
  ·exact a.obj k
 ·have d:=a.inj i j b o s C D v h1 E
  rw[t,t]
  rcases d with d | d
  ·left
   rw[Xd (fun e=>by rw[e,u] at d; simp at d)]; exact d
  ·right
   rw[Xd (fun e=>by rw[e,u] at d; simp at d)]; exact d
theorem aw.cut {P:Program} {f:FuncId} {vs:List V} {H:View} {K c:V→View→Prop} (h:aw P f vs H K) (hk:∀ r H',K r H'→c r H'∨∃ id sz es rest,H' id=.arr sz (es ++ rest)∧c r (H'.set id (.arr sz es))):aw P f vs H c:=by
 refine ⟨h.1,fun l m=>?_⟩
 obtain ⟨r,d,j,hs,n⟩:=h.2 l m
 rcases hk r _ n with h1 | ⟨id,sz,es,rest,a,h1⟩
 ·exact ⟨r,d,j,hs,h1⟩
 ·have b:id < d.length:=iS (by rw[a]; simp)
  refine ⟨r,d.set id (.arr sz es),j.cut a,fun k g hd=>?_,by rw[kf b]; exact h1⟩
  have i:=hs k g hd
  rw[kf b]
  simp only[View.set]
  rw[Xd (fun e=>by rw[e,a] at i; simp at i)]
  exact i
instance:Inhabited aD:=⟨⟨0,0⟩⟩
def ji (x:aD):List Value:=[.int .i64 x.ax,.int .i64 x.dot]
def oQ (a b:aD):Int:=if Lib.compareInt a.ax b.ax≠0 then Lib.compareInt a.ax b.ax else Lib.compareInt a.dot b.dot
theorem Sv (a b:aD):(Lib.compareInt a.ax b.ax≠0→oQ a b=Lib.compareInt a.ax b.ax)∧(Lib.compareInt a.ax b.ax=0→oQ a b=Lib.compareInt a.dot b.dot):=by
 unfold oQ
 exact ⟨fun h=>by rw[Xg h],fun h=>by rw[Xd (by simp[h])]⟩
theorem s8 (a b:aD):ltOf oQ a b=cL a b:=by
 have d:∀ x y:Int,(x < y∧Lib.compareInt x y = -1)∨(x=y∧Lib.compareInt x y=0)∨(y < x∧Lib.compareInt x y=1):=fun x y=>by
  unfold Lib.compareInt; (repeat' split) <;> omega
 rw[Yl,eU]
 simp only[ltOf,Xr,oQ]
 rcases d a.ax b.ax with ⟨h,e⟩ | ⟨h,e⟩ | ⟨h,e⟩ <;> rcases d a.dot b.dot with ⟨k,c⟩ | ⟨k,c⟩ | ⟨k,c⟩ <;> simp[e,c] <;> omega
theorem Nq:SWO (ltOf oQ) where
 irrefl x:=by rw[s8]; exact me
 trans x y z h k:=by rw[s8] at *; exact oU h k
 ntrans x y z h k:=by
  rw[s8] at *
  cases e:cL x z with
  | false=>rfl
  | true =>
   have h1:¬ cL x y=true:=by simp[h]
   have a:¬ cL y z=true:=by simp[k]
   rw[eU] at h1 a e
   omega
def eF (l:List aD):List aD:=l.mergeSort fun x y=>!cL y x
theorem N3 (l:List aD):(l.toArray.toList.mergeSort fun x y=>!(ltOf oQ) y x)=eF l:=by
 have e:(fun x y=>!(ltOf oQ) y x)=fun x y=>!cL y x:=by funext x y; rw[s8]
 rw[e]; rfl
theorem Bk (l:List aD):(eF l).Perm l:=List.mergeSort_perm _ _
theorem jy (l:List aD):(eF l).length=l.length:=(Bk l).length_eq
theorem Bm (l:List aD):(eF l).Pairwise fun x y=>cL y x=false:=by
 have:=List.pairwise_mergeSort (le:=fun x y:aD=>!cL y x) (fun a b c h k=>by
  simp only[Zj,Bool.not_eq_false'] at h k ⊢
  cases e:cL c a with
  | false=>simp
  | true =>
   have h1:¬ cL b a=true:=by simpa using h
   have d:¬ cL c b=true:=by simpa using k
   rw[eU] at h1 d e
   omega) (fun a b=>by
  cases e:cL b a with
  | false=>simp
  | true=>simp[JY e]) l
 exact this.imp fun h=>by simpa using h
def P3:Ren where
 f:=fun
  | 6=>112
  | 15=>167
  | 14=>166
  | 28=>207
  | 29=>208
  | 20=>199
  | 21=>200
  | 22=>201
  | 23=>202
  | 24=>203
  | 25=>204
  | 26=>205
  | 27=>206
  | 46=>227
  | 47=>228
  | 48=>229
  | 49=>230
  | 50=>231
  | 57=>244
  | n=>n
 t:=fun
  | 22=>27
  | 24=>33
  | 25=>164
  | 3=>3
  | 39=>212
  | 0=>0
  | 53=>67
  | 55=>249
  | 4=>4
  | 46=>242
  | 45=>241
  | 50=>30
  | 5=>5
  | 9=>9
  | 66=>269
  | 70=>273
  | 76=>282
  | 77=>283
  | n=>n
 g:=fun n=>n
theorem Tp:Go.Proofs.SlLaysF0.n6 Tryz.prog P3 where
 mixed:=by kernel_rfl
 f6:=⟨Tryz.f112.name,by kernel_rfl,by kernel_rfl⟩
 f14:=⟨Tryz.f166.name,by kernel_rfl,by kernel_rfl⟩
 f15:=by kernel_rfl
 f20:=⟨Tryz.f199.name,by kernel_rfl,by kernel_rfl⟩
 f21:=⟨Tryz.f200.name,by kernel_rfl,by kernel_rfl⟩
 f22:=⟨Tryz.f201.name,by kernel_rfl,by kernel_rfl⟩
 f23:=⟨Tryz.f202.name,by kernel_rfl,by kernel_rfl⟩
 f24:=⟨Tryz.f203.name,by kernel_rfl,by kernel_rfl⟩
 f25:=⟨Tryz.f204.name,by kernel_rfl,by kernel_rfl⟩
 f26:=⟨Tryz.f205.name,by kernel_rfl,by kernel_rfl⟩
 f27:=⟨Tryz.f206.name,by kernel_rfl,by kernel_rfl⟩
 f28:=by kernel_rfl
 f29:=by kernel_rfl
 f46:=⟨Tryz.f227.name,by kernel_rfl,by kernel_rfl⟩
 f47:=by kernel_rfl
 f48:=by kernel_rfl
 f49:=⟨Tryz.f230.name,by kernel_rfl,by kernel_rfl⟩
 f50:=⟨Tryz.f231.name,by kernel_rfl,by kernel_rfl⟩
 f57:=⟨Tryz.f244.name,by kernel_rfl,by kernel_rfl⟩
 t0:=Tryz.underlying0
 a0:=Tryz.isAgg0
 z0:=Tryz.sizeOf0
 v0:=Tryz.zeroValue0
 t3:=Tryz.underlying3
 a3:=Tryz.isAgg3
 z3:=Tryz.sizeOf3
 v3:=Tryz.zeroValue3
 t4:=Tryz.underlying4
 a4:=Tryz.isAgg4
 z4:=Tryz.sizeOf4
 v4:=Tryz.zeroValue4
 t5:=Tryz.underlying5
 a5:=Tryz.isAgg5
 z5:=Tryz.sizeOf5
 v5:=Tryz.zeroValue5
 t9:=Tryz.underlying9
 a9:=Tryz.isAgg9
 z9:=Tryz.sizeOf9
 v9:=Tryz.zeroValue9
 t22:=Tryz.underlying27
 a22:=Tryz.isAgg27
 z22:=Tryz.sizeOf27
 v22:=Tryz.zeroValue27
 t25:=Tryz.underlying164
 a25:=Tryz.isAgg164
 z25:=Tryz.sizeOf164
 v25:=Tryz.zeroValue164
 t39:=Tryz.underlying212
 a39:=Tryz.isAgg212
 z39:=Tryz.sizeOf212
 v39:=Tryz.zeroValue212
 t45:=Tryz.underlying241
 a45:=Tryz.isAgg241
 z45:=Tryz.sizeOf241
 v45:=Tryz.zeroValue241
 t46:=Tryz.underlying242
 a46:=Tryz.isAgg242
 z46:=Tryz.sizeOf242
 v46:=Tryz.zeroValue242
 t50:=Tryz.underlying30
 a50:=Tryz.isAgg30
 z50:=Tryz.sizeOf30
 v50:=Tryz.zeroValue30
 t53:=Tryz.underlying67
 a53:=Tryz.isAgg67
 z53:=Tryz.sizeOf67
 v53:=Tryz.zeroValue67
 t55:=Tryz.underlying249
 a55:=Tryz.isAgg249
 z55:=Tryz.sizeOf249
 v55:=Tryz.zeroValue249
 t66:=Tryz.underlying269
 a66:=Tryz.isAgg269
 z66:=Tryz.sizeOf269
 v66:=Tryz.zeroValue269
 t70:=Tryz.underlying273
 a70:=Tryz.isAgg273
 z70:=Tryz.sizeOf273
 v70:=Tryz.zeroValue273
 t76:=Tryz.underlying282
 a76:=Tryz.isAgg282
 z76:=Tryz.sizeOf282
 v76:=Tryz.zeroValue282
 t77:=Tryz.underlying283
 a77:=Tryz.isAgg283
 z77:=Tryz.sizeOf283
 v77:=Tryz.zeroValue283
def QW:Ren where
 f:=fun
  | 5=>126
  | 7=>173
  | n=>n
 t:=fun
  | 22=>3
  | 3=>3
  | 4=>4
  | n=>n
 g:=fun n=>n
theorem UP:Go.Proofs.SlLaysC2.n5 Tryz.prog QW where
 mixed:=by kernel_rfl
 f5:=⟨Tryz.f126.name,by kernel_rfl,by kernel_rfl⟩
 f7:=⟨Tryz.f173.name,by kernel_rfl,by kernel_rfl⟩
 t3:=Tryz.underlying3
 a3:=Tryz.isAgg3
 z3:=Tryz.sizeOf3
 v3:=Tryz.zeroValue3
 t4:=Tryz.underlying4
 a4:=Tryz.isAgg4
 z4:=Tryz.sizeOf4
 v4:=Tryz.zeroValue4
 t22:=Tryz.underlying3
 a22:=Tryz.isAgg3
 z22:=Tryz.sizeOf3
 v22:=Tryz.zeroValue3
section
attribute [local go_sem] Oper.semAt_some
theorem JN (x y:Int) (b cap:Nat) (W:World) (h0:W.cell? ⟨b,0,none⟩=some (.int .i64 x)) (h1:W.cell? ⟨b,1,none⟩=some (.int .i64 y)) (r:Int) (hr:(x≠0→r=x)∧(x=0→r=y)) :
  Calls Tryz.prog 168 #[.slice (some ⟨b,0,none⟩) 2 cap] W fun e w'=>e=.returned (.int .i64 r)∧w'=W:=by
 go_enter Tryz.func168,Tryz.ntmps168
 go_wp2
 refine wp_loop_rounds 3 ?_
 rw[rounds_succ]
 go_wp2
 ·rename_i h
  go_ret
  exact ⟨by rw[hr.1 (by simpa using h)]; rfl,rfl⟩
 ·rename_i h
  have hx:x=0:=by simpa using h
  rw[rounds_succ]
  go_wp2
  ·rename_i h
   go_ret
   exact ⟨by rw[hr.2 hx]; rfl,rfl⟩
  ·rename_i h
   rw[rounds_succ]
   go_wp2
   go_ret
   exact ⟨by rw[hr.2 hx,show y=0 by simpa using h]; rfl,rfl⟩
structure VA (p:Prop):Prop where
 out:p
theorem JA (x1 x2 y1 y2:Int) (W:World) (r:Int) (hr:(Lib.compareInt x1 y1≠0→r=Lib.compareInt x1 y1)∧(Lib.compareInt x1 y1=0→r=Lib.compareInt x2 y2)) :
  Calls Tryz.prog 113 #[.agg #[.int .i64 x1,.int .i64 x2],.agg #[.int .i64 y1,.int .i64 y2]] W fun e w'=>e=.returned (.int .i64 r)∧∃ q os',w'=grow (W.drewN q) os':=by
 have hcon1:=fun W'=>AnyG.cmp_Compare_int UP x1 y1 W'
 change ∀ W',Calls Tryz.prog 126 _ _ _ at hcon1
 have hcon2:=fun W'=>AnyG.cmp_Compare_int UP x2 y2 W'
 change ∀ W',Calls Tryz.prog 126 _ _ _ at hcon2
 generalize Lib.compareInt x1 y1=c1 at *
 generalize Lib.compareInt x2 y2=c2 at *
 go_enter Tryz.func113,Tryz.ntmps113
 go_wp2_with (first | (go_at_call 126; refine (hcon1 _).mono ?_; rintro e w' ⟨rfl,rfl⟩) | (go_at_call 126; refine (hcon2 _).mono ?_; rintro e w' ⟨rfl,rfl⟩))
 obtain ⟨b1,hb1⟩:∃ b1,b1=W.heap.size:=⟨_,rfl⟩
 obtain ⟨b2,hb2⟩:∃ b2,b2=W.heap.size+1:=⟨_,rfl⟩
 rw[← hb2,← hb1]
 generalize hW1:(W.alloc (Obj.cells #[Value.int IntKind.i64 x1,Value.int IntKind.i64 x2] 33)).alloc (Obj.cells #[Value.int IntKind.i64 y1,Value.int IntKind.i64 y2] 33)=W1
 have hh1:W1.heap[b1]?=some (.cells #[Value.int IntKind.i64 x1,Value.int IntKind.i64 x2] 33 (0,0)):=by
  rw[← hW1,hb1]; exact (Below.heap_alloc _ _ _ (by simp)).trans (World.alloc_heap_new W _)
 have hh2:W1.heap[b2]?=some (.cells #[Value.int IntKind.i64 y1,Value.int IntKind.i64 y2] 33 (0,0)):=by
  rw[← hW1,hb2]
  have:=World.alloc_heap_new (W.alloc (Obj.cells #[Value.int IntKind.i64 x1,Value.int IntKind.i64 x2] 33)) (Obj.cells #[Value.int IntKind.i64 y1,Value.int IntKind.i64 y2] 33)
  rwa [World.size_alloc] at this
 have k0:W1.cell? ⟨b1,0,none⟩=some (.int .i64 x1):=by unfold World.cell?; rw[hh1]; rfl
 have k1:W1.cell? ⟨b1,1,none⟩=some (.int .i64 x2):=by unfold World.cell?; rw[hh1]; rfl
 have k2:W1.cell? ⟨b2,0,none⟩=some (.int .i64 y1):=by unfold World.cell?; rw[hh2]; rfl
 have k3:W1.cell? ⟨b2,1,none⟩=some (.int .i64 y2):=by unfold World.cell?; rw[hh2]; rfl
 clear hh1 hh2
 refine wp_region_still_tail 10 (by kernel_rfl) (by kernel_rfl) ?_
 change wpStill _ _ W1.drew (fun a'=>wpList _ _ _ _ a' W1.drew) _ _
 generalize hW2:W1.drew=W2
 replace k0:W2.cell? ⟨b1,0,none⟩=some (.int .i64 x1):=by rw[← hW2]; exact k0
 replace k1:W2.cell? ⟨b1,1,none⟩=some (.int .i64 x2):=by rw[← hW2]; exact k1
 replace k2:W2.cell? ⟨b2,0,none⟩=some (.int .i64 y1):=by rw[← hW2]; exact k2
 replace k3:W2.cell? ⟨b2,1,none⟩=some (.int .i64 y2):=by rw[← hW2]; exact k3
 have hgr:VA (W2=grow (W.drewN 1) #[Obj.cells #[Value.int IntKind.i64 x1,Value.int IntKind.i64 x2] 33,Obj.cells #[Value.int IntKind.i64 y1,Value.int IntKind.i64 y2] 33]):=by
  refine ⟨?_⟩
  rw[← hW2,← hW1,alloc_eq_grow,alloc_eq_grow,grow_grow]; rfl
 clear hW1 hW2 hb1 hb2
 simp only[YZ,List.take_zero,List.drop_succ_cons,Yt]
 iterate 4 still_step
 still_call (hcon1 _)
 iterate 4 still_step
 still_call (hcon2 _)
 refine wpStill_nil ?_
 go_wp2_with (go_at_call 168; refine (JN c1 c2 _ _ _ ?_ ?_ r hr).mono ?_)
 ·unfold World.cell?; rw[World.alloc_heap_new]; rfl
 ·unfold World.cell?; rw[World.alloc_heap_new]; rfl
 ·rintro e w' ⟨rfl,rfl⟩
  go_wp2
  go_ret
  refine ⟨rfl,1,#[Obj.cells #[Value.int IntKind.i64 x1,Value.int IntKind.i64 x2] 33,Obj.cells #[Value.int IntKind.i64 y1,Value.int IntKind.i64 y2] 33,Obj.cells #[Value.int IntKind.i64 c1,Value.int IntKind.i64 c2] 3],?_⟩
  rw[hgr.out,alloc_eq_grow,grow_grow]; rfl
end
theorem Jn {Z:Nat→Prop} {μ:Mu} {hp:Array Obj} {id off len esz:Nat} {x:Value} (h:az Z μ hp (.sl id off len esz) x) :
  (len=0∧∃ a,x=.slice a 0 0)∨∃ b o0 cap,∃ c:Array Value,∃ e f,x=.slice (some ⟨b,o0+off * esz,none⟩) len cap∧μ id=some (b,o0,esz)∧len≤cap∧hp[b]?=some (.cells c e f)∧o0+(off+cap) * esz≤c.size:=by
 cases h with
 | pO _ _ _ a=>exact .inl ⟨rfl,a,rfl⟩
 | sl _ _ _ _ b o0 cap c e f h1 d g i=>exact .inr ⟨b,o0,cap,c,e,f,rfl,h1,d,g,i⟩
theorem UH {Z:Nat→Prop} {μ:Mu} {hp:Array Obj} {f:FuncId} {x:Value} (h:az Z μ hp (.fn f [] []) x):x=.func (.func f) #[] #[]:=by
 cases h with
 | fn _ _ _ a c h1 b _ _ =>
  rw[Array.eq_empty_of_size_eq_zero h1.symm,Array.eq_empty_of_size_eq_zero b.symm]
theorem EB (w:World) (b o0 m:Nat) (d:Array aD) (os:Array Obj) {j:Nat} (a:j < w.heap.size):(sortWorldK ji 2 w b o0 m d os).heap[j]?=if b=j then (w.heap[j]?).map (onCells (putCells id o0 (flatK ji 2 d))) else w.heap[j]?:=by
 unfold sortWorldK grow putRowK putRow mapBlock
 simp only[Sort.ahead]
 rw[YE (by simpa using a),Array.getElem?_modify]
theorem Sr (l:List aD) (hl:l.length < 1152921504606846976) (u:V) (H:View) (ho:aX H u 2 (aT l)):aw Tryz.prog 112 [u,.fn 113 [] []] H fun r H'=>r=.bp []∧(∀ id,owner u≠some id→H' id=H id)∧aX H' u 2 (aT (eF l)):=by
 refine ⟨by kernel_rfl,?_⟩
 rintro h rfl
 have eg:∀ args w,(callFunc 113 args).run Tryz.prog w=.ok (.enter 113 args) w:=enters_of Tryz.func113 (by kernel_rfl) rfl
 by_cases I:l=[]
 ·subst I
  refine ⟨.bp [],h,⟨Xo _,fun Z μ F w xs s hr M=>?_⟩,.refl _,rfl,fun _ _=>rfl,by simpa [eF] using ho⟩
  obtain ⟨hlen,N⟩:=s
  obtain ⟨x,y,rfl⟩:∃ x y,xs=[x,y]:=by
   match xs,hlen with
   | [x,y],_=>exact ⟨x,y,rfl⟩
  have h0:az Z μ w.heap u x:=N 0 (by simp)
  obtain ⟨p,cap,rfl⟩:∃ p cap,x=.slice p 0 cap:=by
   rcases ho with ⟨_,k,rfl⟩ | ⟨n,rfl,_⟩
   ·cases h0 with | emp _ a _ _=>exact ⟨a,0,rfl⟩
   ·rcases Jn h0 with ⟨_,a,e⟩ | ⟨b,o0,cap,c,e,f,e2,_⟩
    ·exact ⟨a,0,e⟩
    ·exact ⟨_,cap,e2⟩
  refine (AnyF.slices_SortFunc_none Tp p cap y w).mono ?_
  rintro e w' ⟨rfl,rfl⟩
  exact ⟨.tuple #[],Z,μ,rfl,.bp [] #[] rfl (fun i hi=>by simp at hi),hr,Ext.refl _ _ _ _,fun _ _=>rfl⟩
 have S:0 < l.length:=Zc.2 I
 obtain ⟨n,rfl,hn⟩:=ho.sl (by rw[bM]; exact S)
 rw[bM]
 have t:n < h.length:=iS (by rw[hn]; simp)
 refine ⟨.bp [],h.set n (.arr 2 (aT (eF l))),⟨by simp,fun Z μ F w xs s hr M=>?_⟩,fun k hk hd=>?_,rfl,fun id ar=>?_,?_⟩
 rotate_left
 ·rw[kf t]
  simp only[View.set]
  rw[Xd (fun e=>by rw[e,hn] at hd; simp at hd)]; exact hd
 ·rw[kf t]
  simp only[View.set]
  rw[Xd (fun e=>ar (by rw[e]; rfl))]
 ·refine .inr ⟨n,by rw[bM,jy],?_⟩
  rw[kf t]; simp[View.set]
 obtain ⟨hlen,N⟩:=s
 obtain ⟨x,y,rfl⟩:∃ x y,xs=[x,y]:=by
  match xs,hlen with
  | [x,y],_=>exact ⟨x,y,rfl⟩
 have h0:az Z μ w.heap (.sl n 0 l.length 2) x:=N 0 (by simp)
 have h1:az Z μ w.heap (.fn 113 [] []) y:=N 1 (by simp)
 have hy:=UH h1
 subst hy
 rcases Jn h0 with ⟨e,_⟩ | ⟨b,o0,cap,c0,e0,f0,rfl,E,a7,_,_⟩
 ·omega
 rw[Nat.zero_mul,Y2]
 have J:cat h F n=.arr 2 (aT l):=by simp only[cat]; rw[Xg t,hn]
 have T:=hr.obj n
 rw[J] at T
 obtain ⟨_,⟨c,ty,fz,hc,U,W⟩,hq,z⟩:=T b o0 2 E
 rw[bM] at W hq z
 have O:b < w.heap.size:=hr.lt _ _ _ _ E
 have P:∀ (m:List aD) (i:Nat) (hi:i < m.length),(aT m).getD i []=cr m[i]:=fun m i hi=>by simp[aT,Xb,hi]
 have hH:HoldsK ji 2 w b o0 l.toArray:=by
  intro j D
  rw[size_flatK] at D
  have a8:j < l.length * 2:=by simpa using D
  have hi:j / 2 < l.length:=by omega
  obtain ⟨x,hx,d⟩:=z (j / 2) (j % 2) hi (by omega)
  rw[show o0+j / 2 * 2+j % 2=o0+j by omega] at hx
  have a1:x=(flatK ji 2 l.toArray)[j]!:=by
   rw[get_flatK _ _ _ _ D]
   rw[P l _ hi] at d
   have e1:l.toArray[j / 2]! = l[j / 2]:=by simp[hi]
   rw[e1]
   rcases XB (j % 2) 1 with X | X
   ·rw[show j % 2=0 by omega] at d ⊢
    simp only[cr,Yk] at d
    cases d; rfl
   ·rw[show j % 2=1 by omega] at d ⊢
    simp only[cr,Y0,Yk] at d
    cases d; rfl
  refine ⟨by rw[ox,hx,a1]; rfl,?_⟩
  simp only[World.frozen?,hc]
  rcases U with e | e
  ·simp only[e,Bool.and_eq_false_iff,YO]; omega
  ·simp only[Bool.and_eq_false_iff,YO]; omega
 have hT:∀ x y,(ltOf oQ) x y=false→(ltOf oQ) y x=false→x=y:=fun x y h1 X=>by
  rw[s8] at h1 X
  exact Yj fun A=>by rw[xO h1 A] at X; simp at X
 have K:=AnyQ.slices_SortFunc_total Tp 2 Tryz.isAgg33 Tryz.sizeOf33 ji (fun _=>rfl) (fun x v N=>by simp[ji] at N; rcases N with rfl | rfl <;> rfl) oQ Nq 113 #[] b o0 cap l.toArray w eg (fun _ _ _ _ x y=>JA x.ax x.dot y.ax y.dot _ _ (Sv x y)) hH O (by simp; omega) hT
 rw[N3] at K
 refine Calls.mono (show Calls Tryz.prog 112 _ w _ from K) ?_
 rintro e w' ⟨rfl,m,os,rfl⟩
 have Y:=jy l
 have g:=fun {j:Nat} (D:j < w.heap.size)=>EB w b o0 m (eF l).toArray os D
 have G:HoldsK ji 2 (sortWorldK ji 2 w b o0 m (eF l).toArray os) b o0 (eF l).toArray:=SWK.holds ⟨m,os,rfl⟩ O hH (by simp[Y])
 have B:w.heap.size≤(sortWorldK ji 2 w b o0 m (eF l).toArray os).heap.size:=SWK.le (dk:=(eF l).toArray) ⟨m,os,rfl⟩
 have Q:eM w (sortWorldK ji 2 w b o0 m (eF l).toArray os):=⟨rfl,rfl,rfl,B⟩
 generalize sortWorldK ji 2 w b o0 m (eF l).toArray os=w' at *
 have an:w'.heap[b]?=some (.cells (putCells id o0 (flatK ji 2 (eF l).toArray) c) ty fz):=by
  rw[g O,Xg rfl,hc]; rfl
 have L:nj Z μ μ w.heap w'.heap h.length (.fk n (.arr 2 (aT (eF l)))):=by
  refine ⟨b,o0,2,E,rfl,fun j D A=>by rw[g D,Xd (fun e=>A e.symm)],fun j cc ee ff C=>?_,?_⟩
  ·have a6:j < w.heap.size:=by
    rcases XB j w.heap.size with q | q
    ·exact q
    ·simp[YH q] at C
   by_cases e:b=j
   ·subst e
    rw[hc] at C
    simp only[Xe,Obj.cells.injEq] at C
    obtain ⟨rfl,rfl,rfl⟩:=C
    exact ⟨_,_,an,by simp[putCells]⟩
   ·exact ⟨cc,ff,by rw[g a6,Xd e]; exact C,rfl⟩
  ·intro b1 o1 s1 h1
   rw[E] at h1
   simp only[Xe,Xh] at h1
   obtain ⟨rfl,rfl,rfl⟩:=h1
   refine ⟨rfl,⟨_,ty,fz,an,?_,?_⟩,fun i hi=>?_,fun i j hi D=>?_⟩
   ·simpa [putCells] using U
   ·rw[bM,Y]; simpa [putCells] using W
   ·rw[bM] at hi; rw[P _ i hi]; rfl
   ·rw[bM] at hi
    have:=(G.cell (i:=i) (c:=j) (by simpa using hi) D).1
    rw[ox] at this
    refine ⟨_,this,?_⟩
    rw[P _ i hi]
    have e1:(eF l).toArray[i]! = (eF l)[i]:=by simp[hi]
    rw[e1]
    match j,D with
    | 0,_=>exact .val _ rfl
    | 1,_=>exact .val _ rfl
 have A:cat h F n≠.dead:=by rw[J]; simp
 have R:=hr.eff (n:=h.length) (eff:=.fk n (.arr 2 (aT (eF l)))) (by trivial) B L (fun id o e=>by cases e; exact A) (fun id o e=>by cases e)
 obtain ⟨aq,bb⟩:=L.ext Q (by trivial) hr.cQ hr.ie
 refine ⟨.tuple #[],Z,μ,rfl,.bp [] #[] rfl (fun i hi=>by simp at hi),?_,aq,fun _ _=>rfl⟩
 have ev:cat (h.set n (.arr 2 (aT (eF l)))) F=bA.view (cat h F) h.length (.fk n (.arr 2 (aT (eF l)))):=by
  funext k
  simp only[cat,bA.view,View.set,List.length_set]
  by_cases hk:k < h.length
  ·rw[Xg hk,Xg hk,kf t]; rfl
  ·rw[Xd hk,Xd hk,Xd (by omega)]
 rw[ev]
 exact R
abbrev iw:aD:=⟨0,0⟩
def fL (l:List aD):Nat→List aD
 | 0=>[]
 | n+1=>if n=0∨l.getD n iw≠l.getD (n - 1) iw then fL l n ++ [l.getD n iw] else fL l n
theorem Ab (l:List aD):∀ n,n≤l.length→(∀ j,0 < j→j < n→l.getD j iw≠l.getD (j - 1) iw)→fL l n=l.take n
 | 0,_,_=>by simp[fL]
 | n+1,c,h=>by
  have a:=Ab l n (by omega) fun j h1 d=>h j h1 (by omega)
  have b:l[n]?=some (l.getD n iw):=getD_some (by omega)
  rw[fL,Xg,a,XH,b]
  ·rfl
  ·by_cases e:n=0
   ·exact .inl e
   ·exact .inr (h n (by omega) (by omega))
def AA (l:List aD):List aD:=fL (eF l) l.length
theorem wP {l:List aD} (hp:l.Pairwise fun x y=>cL y x=false):∀ n,n≤l.length→cm (fL l n)∧(∀ x,x∈fL l n↔∃ i,i < n∧l.getD i iw=x)
 | 0,_=>by simp[fL,cm]
 | n+1,r=>by
  obtain ⟨h1,f⟩:=wP hp n (by omega)
  have d:∀ i j,i < j→j < l.length→cL (l.getD j iw) (l.getD i iw)=false:=fun i j g k=>by
   have:=List.pairwise_iff_getElem.1 hp i j (by omega) k g
   simpa [Xb,Xc k,Xc (show i < l.length by omega)] using this
  rw[fL]
  split
  ·rename_i c
   refine ⟨?_,fun x=>?_⟩
   ·rw[cm,List.pairwise_append]
    refine ⟨h1,by simp,fun a p b m=>?_⟩
    rw[X8] at m; subst m
    obtain ⟨i,hi,rfl⟩:=(f a).1 p
    have c:l.getD n iw≠l.getD (n - 1) iw:=c.resolve_left (by omega)
    have o:=xO (d (n - 1) n (by omega) (by omega)) c
    rcases XB i (n - 1) with h | h
    ·have k2:=d i (n - 1) h (by omega)
     have q:¬ cL (l.getD (n - 1) iw) (l.getD i iw)=true:=by rw[k2]; simp
     rw[eU] at o q ⊢
     omega
    ·have:i=n - 1:=by omega
     subst this; exact o
   ·rw[XE,f,X8]
    constructor
    ·rintro (⟨i,hi,e⟩ | e)
     ·exact ⟨i,by omega,e⟩
     ·exact ⟨n,by omega,e.symm⟩
    ·rintro ⟨i,hi,e⟩
     rcases XB i n with h | h
     ·exact .inl ⟨i,h,e⟩
     ·have:i=n:=by omega
      subst this; exact .inr e.symm
  ·rename_i c
   simp only[not_or,Decidable.not_not] at c
   refine ⟨h1,fun x=>?_⟩
   rw[f]
   constructor
   ·rintro ⟨i,hi,e⟩; exact ⟨i,by omega,e⟩
   ·rintro ⟨i,hi,e⟩
    rcases XB i n with h | h
    ·exact ⟨i,h,e⟩
    ·have:i=n:=by omega
     subst this
     exact ⟨i - 1,by omega,by rw[← c.2]; exact e⟩
theorem Cq (l:List aD):cm (AA l):=(wP (Bm l) _ (by rw[jy]; exact Xo _)).1
theorem ry {l:List aD} {x:aD} : x∈AA l↔x∈l:=by
 rw[AA,(wP (Bm l) _ (by rw[jy]; exact Xo _)).2,← (Bk l).mem_iff,Yh]
 constructor
 ·rintro ⟨i,hi,e⟩
  have a:i < (eF l).length:=by rw[jy]; exact hi
  exact ⟨i,a,by rw[Xb,Xc a] at e; exact e⟩
 ·rintro ⟨i,hi,e⟩
  exact ⟨i,by rw[jy] at hi; exact hi,by rw[Xb,Xc hi]; exact e⟩
theorem M8 {l:List aD} (h:cm l):AA l=l:=yJ (Cq l) h fun _=>ry
def kb (g:ag) (s:Int):Int:=if s < 0 then (g.af.length:Int) - 1 - s else s
theorem xQ (g:ag) (k:Nat):kb g (aY g k)=k:=by
 unfold kb aY; split <;> split <;> omega
theorem HB {g:ag} {s:Int} (h1:s < g.af.length):0≤kb g s∧aY g (kb g s).toNat=s:=by
 unfold kb aY; split
 ·rw[Xd (by omega)]; omega
 ·rw[Xg (by omega)]; omega
theorem qC {g:ag} {s:Int} (h:gu g s=true):s < g.af.length∧kb g s < g.af.length+g.ak.length:=by
 unfold gu at h
 unfold kb
 by_cases a:0≤s
 ·rw[Xg a] at h
  rw[Xd (by omega)]
  simp at h
  omega
 ·rw[Xd a] at h
  rw[Xg (by omega)]
  simp at h
  omega
def gv (l:List aD):List UInt8:=l.flatMap fun x=>[UInt8.ofNat (x.ax+1).toNat,UInt8.ofNat x.dot.toNat]
theorem Pw {a b:Nat} (c:a < 256) (d:b < 256) (h:UInt8.ofNat a=UInt8.ofNat b):a=b:=by
 have:=YA UInt8.toNat h
 simp at this
 omega
theorem IB {g:ag} (c:g.dD):∀ {a b:List aD},(∀ x∈a,cU g x)→(∀ x∈b,cU g x)→gv a=gv b→a=b
 | [],[],_,_,_=>rfl
 | [],y :: b,_,_,h=>by simp[gv] at h
 | x :: a,[],_,_,h=>by simp[gv] at h
 | x :: a,y :: b,i,j,h=>by
  simp only[gv,List.flatMap_cons,XQ,Yq,Zg] at h
  obtain ⟨h1,k,l⟩:=h
  have d:=i x (by simp)
  have e:=j y (by simp)
  have hr:=c.rules
  have q:=gP c d.1
  have r:=gP c e.1
  have:=d.1; have:=d.2; have:=e.1; have:=e.2
  have s:=Pw (by omega) (by omega) h1
  have k2:=Pw (by omega) (by omega) k
  have t:=IB c (fun z f=>i z (by simp[f])) (fun z f=>j z (by simp[f])) l
  obtain ⟨m,n⟩:=x
  obtain ⟨o,p⟩:=y
  simp only at *
  have:m=o:=by omega
  have:n=p:=by omega
  subst_vars; rfl
structure kc (g:ag) (a:List aI):Prop where
 first:(a.getD 0 aM).bc=[⟨-1,0⟩]
 lJ:∀ s∈a,∀ e∈s.aG,(a.getD e.to.toNat aM).bc=bk g (cR g s.bc) e.sym
theorem mj (l:List aI) (i:Nat) (c:bX) (j:Nat):((l.modify i fun x=>(⟨x.bc,x.aG ++ [c]⟩:aI)).getD j aM).bc=(l.getD j aM).bc:=by
 simp only[Xb,List.getElem?_modify]
 cases l[j]? with
 | none=>rfl
 | some x =>
  by_cases e:i=j
  ·subst e; simp
  ·simp[e]
theorem kc.put {g:ag} {out:List aI} (h:kc g out) {at_:Nat} {s to:Int} (c:(out.getD to.toNat aM).bc=bk g (cR g (out.getD at_ aM).bc) s):kc g (out.modify at_ fun x=>(⟨x.bc,x.aG ++ [⟨s,to⟩]⟩:aI)):=by
 refine ⟨by rw[mj]; exact h.first,fun y a e he=>?_⟩
 rw[mj]
 rcases mem_modify a with a | ⟨x,b,rfl⟩
 ·exact h.lJ y a e he
 ·rcases XE.1 he with he | he
  ·exact h.lJ x (Xi b) e he
  ·simp at he; subst he
   rw[c,Xb,b]; rfl
theorem kc.add {g:ag} {out:List aI} (h:kc g out) (h1:1≤out.length) (c:∀ s∈out,∀ e∈s.aG,0≤e.to∧e.to < out.length) (k:List aD):kc g (out ++ [⟨k,[]⟩]):=by
 have b:∀ j:Nat,j < out.length→((out ++ [(⟨k,[]⟩:aI)]).getD j aM)=out.getD j aM:=fun j d=>by
  simp[Xb,XA d]
 refine ⟨by rw[b 0 (by omega)]; exact h.first,fun y a e he=>?_⟩
 rcases XE.1 a with a | a
 ·have:=c y a e he
  rw[b _ (by omega)]; exact h.lJ y a e he
 ·simp at a; subst a; simp at he
theorem Px (g:ag) (l:List aD) (at_:Nat) (out:List aI) (i:Nat) {j:Nat} (a:j < out.length):((dd g l at_ out i).getD j aM).bc=(out.getD j aM).bc:=by
 unfold dd
 split
 ·rfl
 ·split
  ·rw[mj]
   simp[Xb,XA a]
  ·rw[mj]
theorem kc.step {g:ag} {l:List aD} {at_ i:Nat} {out:List aI} (h:kc g out) (hi:dU g at_ i out) (b:at_ < out.length) (hl:cR g (out.getD at_ aM).bc=l):kc g (dd g l at_ out i):=by
 unfold dd
 split
 ·exact h
 ·split
  ·refine (h.add (by omega) hi.to _).put ?_
   rw[Xy]
   have c:((out ++ [(⟨bk g l (aY g i),[]⟩:aI)]).getD out.length aM).bc=bk g l (aY g i):=by
    simp[Xb]
   have d:(out ++ [(⟨bk g l (aY g i),[]⟩:aI)]).getD at_ aM=out.getD at_ aM:=by
    simp[Xb,XA b]
   rw[c,d,hl]
  ·rename_i f
   refine h.put ?_
   obtain ⟨n,a⟩:∃ n:Nat,findD out (bk g l (aY g i))=n:=⟨(findD out (bk g l (aY g i))).toNat,by omega⟩
   obtain ⟨s,h1,e⟩:=Im _ _ _ a
   rw[a,Xy,Xb,h1,hl]
   exact e
theorem kc.row {g:ag} (a:g.dD) {at_:Nat} {out:List aI} (h:kc g out) (hi:dU g at_ 0 out) (b:at_ < out.length):∀ n:Nat,n≤40→kc g ((List.range n).foldl (dd g (cR g (out.getD at_ aM).bc) at_) out)∧(((List.range n).foldl (dd g (cR g (out.getD at_ aM).bc) at_) out).getD at_ aM).bc=(out.getD at_ aM).bc
 | 0,_=>⟨h,rfl⟩
 | n+1,d=>by
  obtain ⟨h1,c⟩:=kc.row a h hi b n (by omega)
  obtain ⟨i1,i2,i3⟩:=dU.row (hi.pb a b).1 (hi.pb a b).2 hi n (by omega)
  rw[Ya,XZ]
  simp only[XC,YF]
  refine ⟨h1.step i1 (by omega) (by rw[c]),?_⟩
  rw[Px _ _ _ _ _ (by omega),c]
theorem DD {g:ag} (a:g.dD):∀ (f at_:Nat) (out:List aI),dU g at_ 0 out→kc g out→(fM g f at_ out).2=0→kc g (fM g f at_ out).1
 | 0,_,out,_,h,_=>h
 | f+1,at_,out,hi,h,b=>by
  rw[fM] at b ⊢
  split
  ·rename_i c
   rw[Xg c] at b
   have hr:=dU.row (hi.pb a c).1 (hi.pb a c).2 hi (g.af.length+g.ak.length) (by have:=a.af; have:=a.ak; omega)
   have he:=h.row a hi c (g.af.length+g.ak.length) (by have:=a.af; have:=a.ak; omega)
   rw[show (List.range (g.af.length+g.ak.length)).foldl (dd g (cR g (out.getD at_ aM).bc) at_) out=BO g at_ out (g.af.length+g.ak.length) from rfl] at hr he
   split
   ·rename_i d; rw[Xg d] at b; simp at b
   ·rename_i d
    rw[Xd d] at b
    exact DD a f (at_+1) _ hr.1.next he.1 b
  ·exact h
theorem Dv {g:ag} (a:g.dD) (h:(bR g).2=0):kc g (bR g).1:=by
 unfold bR at h ⊢
 split
 ·rename_i hr
  rw[Xg hr] at h
  exact DD a 302 0 dV oh ⟨rfl,fun s hs e he=>by simp[dV] at hs; subst hs; simp at he⟩ h
 ·rename_i hr
  rw[Xd hr] at h
  simp at h
theorem AO {a:List aI} {i:Nat} {e:bX} (h:e∈(a.getD i aM).aG):i < a.length∧a.getD i aM∈a:=by
 rcases XB i a.length with hi | hi
 ·exact ⟨hi,Xi (getD_some hi)⟩
 ·rw[Xb,XL hi] at h; simp at h
theorem pk.bc {g:ag} {l:List aD} {x:aD} (h:pk g l x) (hd:x.dot≠0∨x.ax < 0):x∈l:=by
 cases h with
 | base h=>exact h
 | step=>simp at hd; omega
theorem tf {l:List bX} {s:Int} {c:Cell} (h:fC l s=some c):∃ e∈l,e.sym=s∧c=⟨1,e.to⟩:=by
 induction l with
 | nil=>simp[fC] at h
 | cons e l a =>
  rw[fC] at h
  split at h
  ·rename_i hs
   simp at h
   exact ⟨e,by simp,hs,h.symm⟩
  ·obtain ⟨b,h1,d⟩:=a h
   exact ⟨b,by simp[h1],d⟩
theorem Rx {l:List bX} {s:Int} (h:0≤c7 l s):∃ e∈l,e.sym=s∧c7 l s=e.to:=by
 induction l with
 | nil=>simp[c7] at h
 | cons e l a =>
  rw[c7] at h ⊢
  split
  ·rename_i hs; exact ⟨e,by simp,hs,rfl⟩
  ·rename_i hs
   rw[Xd hs] at h
   obtain ⟨b,h1,c⟩:=a h
   exact ⟨b,by simp[h1],c⟩
def kU (g:ag) (l:List aD) (n:Nat):List Int:=((List.range n).filter fun i=>decide (bk g l (aY g i)≠[])).map fun (i:Nat)=>aY g i
theorem DQ (g:ag) (l:List aD) (n:Nat):kU g l (n+1)=if bk g l (aY g n)=[] then kU g l n else kU g l n ++ [aY g n]:=by
 unfold kU
 rw[Ya,YG,XD]
 by_cases h:bk g l (aY g n)=[]
 ·rw[Xg h]; simp[h]
 ·rw[Xd h]; simp[h]
structure nt (g:ag) (at_ i:Nat) (out:List aI):Prop where
 one:(out.map aI.bc).Nodup
 back:∀ j:Nat,0 < j→j < out.length→∃ (i:Nat) (e:bX),i < j∧e∈(out.getD i aM).aG∧e.to=j
 done:∀ j:Nat,j < at_→j < out.length→(out.getD j aM).aG.map bX.sym=kU g (cR g (out.getD j aM).bc) (g.af.length+g.ak.length)
 here:at_ < out.length→(out.getD at_ aM).aG.map bX.sym=kU g (cR g (out.getD at_ aM).bc) i
theorem sx (l:List aI) (i:Nat) (c:bX) (j:Nat) (hi:i < l.length):((l.modify i fun x=>(⟨x.bc,x.aG ++ [c]⟩:aI)).getD j aM).aG=if i=j then (l.getD j aM).aG ++ [c] else (l.getD j aM).aG:=by
 simp only[Xb,List.getElem?_modify]
 by_cases e:i=j
 ·subst e; simp[hi]
 ·cases l[j]? with
  | none=>simp[e]
  | some x=>simp[e]
theorem Eb (l:List aI) (i:Nat) (c:bX):(l.modify i fun x=>(⟨x.bc,x.aG ++ [c]⟩:aI)).map aI.bc=l.map aI.bc:=by
 apply List.ext_getElem?
 intro j
 simp only[Xf,List.getElem?_modify]
 cases l[j]? with
 | none=>rfl
 | some x=>by_cases e:i=j <;> simp[e]
theorem nt.put {g:ag} {at_ i:Nat} {out:List aI} {to:Int} (a:at_ < out.length) (h1:(out.map aI.bc).Nodup) (f:∀ j:Nat,0 < j→j < out.length→(∃ (i:Nat) (e:bX),i < j∧e∈(out.getD i aM).aG∧e.to=j)∨(at_ < j∧to=j))
  (h:∀ j:Nat,j < at_→j < out.length→(out.getD j aM).aG.map bX.sym=kU g (cR g (out.getD j aM).bc) (g.af.length+g.ak.length)) (l:(out.getD at_ aM).aG.map bX.sym=kU g (cR g (out.getD at_ aM).bc) i)
  (b:bk g (cR g (out.getD at_ aM).bc) (aY g i)≠[]):nt g at_ (i+1) (out.modify at_ fun x=>(⟨x.bc,x.aG ++ [⟨aY g i,to⟩]⟩:aI)):=by
 refine ⟨by rw[Eb]; exact h1,fun j c hl=>?_,fun j c hl=>?_,fun _=>?_⟩
 ·rw[List.length_modify] at hl
  rcases f j c hl with ⟨k,e,d,a2,a3⟩ | ⟨d,a2⟩
  ·refine ⟨k,e,d,?_,a3⟩
   rw[sx _ _ _ _ a]
   split
   ·exact YR _ a2
   ·exact a2
  ·refine ⟨at_,⟨aY g i,to⟩,d,?_,a2⟩
   rw[sx _ _ _ _ a,Xg rfl]
   simp
 ·rw[List.length_modify] at hl
  rw[sx _ _ _ _ a,Xd (by omega),mj]
  exact h j c hl
 ·rw[sx _ _ _ _ a,Xg rfl,mj,XD,l,DQ,Xd b]; rfl
theorem nt.step {g:ag} {at_ i:Nat} {out:List aI} (h:nt g at_ i out) (d:at_ < out.length):nt g at_ (i+1) (dd g (cR g (out.getD at_ aM).bc) at_ out i):=by
 unfold dd
 split
 ·rename_i hm
  exact ⟨h.one,h.back,h.done,fun _=>by rw[DQ,Xg hm]; exact h.here d⟩
 ·rename_i hm
  split
  ·rename_i m
   have f:∀ j:Nat,j < out.length→((out ++ [(⟨bk g (cR g (out.getD at_ aM).bc) (aY g i),[]⟩:aI)]).getD j aM)=out.getD j aM:=fun j c=>by
    simp[Xb,XA c]
   refine nt.put (by simp; omega) ?_ (fun j c hl=>?_) (fun j c hl=>?_) ?_ ?_
   ·rw[XD,Yc]
    refine ⟨h.one,by simp,fun a n b l=>?_⟩
    obtain ⟨s,hs,rfl⟩:=Xw.1 n
    simp at l; subst l
    exact Iq _ _ m s hs
   ·rcases XB j out.length with q | q
    ·obtain ⟨k,e,o,a2,a3⟩:=h.back j c q
     exact .inl ⟨k,e,o,by rw[f k (by omega)]; exact a2,a3⟩
    ·right
     simp at hl
     exact ⟨by omega,by omega⟩
   ·rw[f j (by omega)]; exact h.done j c (by omega)
   ·rw[f at_ d]; exact h.here d
   ·rw[f at_ d]; exact hm
  ·exact nt.put d h.one (fun j c hl=>.inl (h.back j c hl)) h.done (h.here d) hm
theorem nt.row {g:ag} (a:g.dD) {at_:Nat} {out:List aI} (h:nt g at_ 0 out) (hi:dU g at_ 0 out) (he:kc g out) (b:at_ < out.length):∀ n:Nat,n≤40→nt g at_ n ((List.range n).foldl (dd g (cR g (out.getD at_ aM).bc) at_) out)
 | 0,_=>h
 | n+1,d=>by
  have h1:=nt.row a h hi he b n (by omega)
  obtain ⟨i1,i2,i3⟩:=dU.row (hi.pb a b).1 (hi.pb a b).2 hi n (by omega)
  obtain ⟨e,c⟩:=he.row a hi b n (by omega)
  rw[Ya,XZ]
  simp only[XC,YF]
  have:=h1.step (by omega)
  rw[c] at this
  exact this
theorem nt.next {g:ag} {at_:Nat} {out:List aI} (h:nt g at_ (g.af.length+g.ak.length) out) (hi:dU g at_ (g.af.length+g.ak.length) out):nt g (at_+1) 0 out:=by
 refine ⟨h.one,h.back,fun j a hl=>?_,fun hl=>?_⟩
 ·rcases XB j at_ with q | q
  ·exact h.done j q hl
  ·have:j=at_:=by omega
   subst this
   exact h.here hl
 ·have:=(hi.aG (at_+1) _ (getD_some (d:=aM) hl)).2.2 (by omega)
  rw[this]; simp[kU]
structure Rw (g:ag) (a:List aI):Prop where
 one:(a.map aI.bc).Nodup
 back:∀ j:Nat,0 < j→j < a.length→∃ (i:Nat) (e:bX),i < j∧e∈(a.getD i aM).aG∧e.to=j
 all:∀ s∈a,s.aG.map bX.sym=kU g (cR g s.bc) (g.af.length+g.ak.length)
theorem C9 {g:ag} (a:g.dD):∀ (f at_:Nat) (out:List aI),302≤f+at_→dU g at_ 0 out→kc g out→nt g at_ 0 out→out.length≤300→(fM g f at_ out).2=0→Rw g (fM g f at_ out).1
 | 0,at_,out,l,_,_,h,hl,_=>⟨h.one,h.back,fun s hs=>by
   change s∈out at hs
   obtain ⟨j,d,e⟩:=Yh.1 hs
   have:=h.done j (by omega) d
   rwa [show out.getD j aM=s by rw[Xb,Xc d]; exact e] at this⟩
 | f+1,at_,out,l,hi,he,h,hl,b=>by
  have m:=a.af
  have n:=a.ak
  rw[fM] at b ⊢
  split
  ·rename_i c
   rw[Xg c] at b
   have hr:=dU.row (hi.pb a c).1 (hi.pb a c).2 hi (g.af.length+g.ak.length) (by omega)
   have hE:=he.row a hi c (g.af.length+g.ak.length) (by omega)
   have k:=h.row a hi he c (g.af.length+g.ak.length) (by omega)
   rw[show (List.range (g.af.length+g.ak.length)).foldl (dd g (cR g (out.getD at_ aM).bc) at_) out=BO g at_ out (g.af.length+g.ak.length) from rfl] at hr hE k
   split
   ·rename_i i; rw[Xg i] at b; simp at b
   ·rename_i i
    rw[Xd i] at b
    exact C9 a f (at_+1) _ (by omega) hr.1.next hE.1 (k.next hr.1) (by omega) b
  ·rename_i c
   exact ⟨h.one,h.back,fun s hs=>by
    change s∈out at hs
    obtain ⟨j,d,e⟩:=Yh.1 hs
    have:=h.done j (by omega) d
    rwa [show out.getD j aM=s by rw[Xb,Xc d]; exact e] at this⟩
theorem Cp {g:ag} (a:g.dD) (h:(bR g).2=0):Rw g (bR g).1:=by
 unfold bR at h ⊢
 split
 ·rename_i hr
  rw[Xg hr] at h
  refine C9 a 302 0 dV (by omega) oh ⟨rfl,fun s hs e he=>by simp[dV] at hs; subst hs; simp at he⟩ ⟨by simp[dV],fun j h1 b=>by simp[dV] at b; omega,fun j h1=>by omega,fun _=>?_⟩ (by simp[dV]) h
  simp[dV,kU]
 ·rename_i hr
  rw[Xd hr] at h
  simp at h
theorem FX (g:ag):∀ (f at_:Nat) (out:List aI),(fM g f at_ out).2=0∨fM g f at_ out=([],5)
 | 0,_,_=>.inl rfl
 | f+1,at_,out=>by
  rw[fM]
  split
  ·split
   ·exact .inr rfl
   ·exact FX g f _ _
  ·exact .inl rfl
theorem F3 (g:ag):((bR g).2=0∧isRed g=true)∨(bR g=([],5)∧isRed g=true)∨(bR g=([],1)∧isRed g=false):=by
 unfold bR
 cases h:isRed g with
 | false=>exact .inr (.inr ⟨by simp,rfl⟩)
 | true =>
  rw[Xg rfl]
  rcases FX g 302 0 dV with h | h
  ·exact .inl ⟨h,rfl⟩
  ·exact .inr (.inl ⟨h,rfl⟩)
theorem nr {g:ag} (a:g.dD) {x:aD} (c:cU g x) {s:Int} (h:bK g x=(s,true)):gu g s=true:=by
 obtain ⟨h1,d⟩:=uP h
 have b:x.dot.toNat < (aK g x.ax).length:=by have:=c.2; omega
 have hm:s∈aK g x.ax:=by
  rw[← d,Xb,Xc b]; exact Xm _
 unfold aK at hm
 split at hm
 ·simp at hm; subst hm
  have:=a.kA; have:=a.start
  unfold gu
  rw[Xd (by omega)]
  simp; omega
 ·have e:g.rules[x.ax.toNat]?=some (av g x.ax):=by unfold av; exact getD_some (by have:=c.1; omega)
  exact a.sym _ (Xi e) s hm
def eu (a:List aI) (p:Nat) (s:Int):Nat:=(eT a p [s]).1.toNat
def dT (a:List aI) (p:Nat) (s:Int):Prop:=∃ e∈(a.getD p aM).aG,e.sym=s
noncomputable abbrev iR (g:ag) (a:List aI) (p:Nat):List aD:=cR g (a.getD p aM).bc
inductive iY (a:List aI):Nat→List Int→Nat→Prop
 | nil {p:Nat} : iY a p [] p
 | cons {p q:Nat} {s:Int} {X:List Int} : dT a p s→iY a (eu a p s) X q→iY a p (s :: X) q
theorem iY.snoc {a:List aI} {p q:Nat} {X:List Int} (h:iY a p X q) {s:Int} (he:dT a q s):iY a p (X ++ [s]) (eu a q s):=by
 induction h with
 | nil=>exact .cons he .nil
 | cons h1 _ b=>exact .cons h1 (b he)
theorem iY.one {a:List aI} {p q r:Nat} {X:List Int} (h:iY a p X q) (k:iY a p X r):q=r:=by
 induction h with
 | nil=>cases k; rfl
 | cons h1 _ b=>cases k with | cons _ k=>exact b k
theorem eY {a:List aI} {p:Nat} {s:Int} (h:dT a p s):p < a.length:=by
 obtain ⟨e,he,_⟩:=h; exact (AO he).1
theorem J1 {l:List bX} {s:Int} (h:∃ e∈l,e.sym=s):∃ e∈l,e.sym=s∧c7 l s=e.to:=by
 induction l with
 | nil=>obtain ⟨e,he,_⟩:=h; simp at he
 | cons e l b =>
  rw[c7]
  by_cases hs:e.sym=s
  ·rw[Xg hs]; exact ⟨e,by simp,hs,rfl⟩
  ·rw[Xd hs]
   obtain ⟨c,h1,a⟩:=h
   rcases Xs.1 h1 with rfl | h1
   ·exact absurd a hs
   ·obtain ⟨d,f,k2⟩:=b ⟨c,h1,a⟩
    exact ⟨d,by simp[f],k2⟩
theorem RK {g:ag} {i j:Nat} (h:aY g i=aY g j):i=j:=by
 have h1:=xQ g i
 rw[h,xQ] at h1
 omega
theorem ve (g:ag) (l:List aD) (n:Nat):(kU g l n).Nodup:=by
 unfold kU
 unfold List.Nodup
 rw[Zb]
 exact ((List.nodup_range (n:=n)).filter _).imp fun a e=>a (RK e)
theorem Rf {l:List bX} (h:(l.map bX.sym).Nodup) {e:bX} (he:e∈l):c7 l e.sym=e.to:=by
 induction l with
 | nil=>simp at he
 | cons x l a =>
  simp only[XF,X6] at h
  rw[c7]
  rcases Xs.1 he with rfl | he
  ·rw[Xg rfl]
  ·rw[Xd (fun b=>h.1 (by rw[b]; exact List.mem_map_of_mem he))]
   exact a h.2 he
structure bZ (g:ag) (a:List aI):Prop where
 cF:g.dD
 ok:ni g a
 e:kc g a
 x:Rw g a
 pos:1≤a.length
section
variable {g:ag} {a:List aI}
theorem bZ.bc (h:bZ g a) {p:Nat} (hp:p < a.length):∀ x∈(a.getD p aM).bc,cU g x:=(h.ok.bc _ (Xi (getD_some hp))).2.2
theorem bZ.has (h:bZ g a) {p:Nat} (hp:p < a.length) {x:aD} (b:x∈iR g a p):cU g x:=((dt h.cF (h.bc hp)).1 b).has (h.bc hp)
theorem bZ.lJ (h:bZ g a) {p:Nat} (hp:p < a.length) {s:Int} : dT a p s↔∃ x∈iR g a p,bK g x=(s,true):=by
 have hs:=h.x.all _ (Xi (getD_some (d:=aM) hp))
 have e:dT a p s↔s∈((a.getD p aM).aG.map bX.sym):=by
  simp only[dT,Xw]
 rw[e,hs]
 simp only[kU,Xw,XY,XU,Xr]
 constructor
 ·rintro ⟨i,⟨hi,f⟩,rfl⟩
  obtain ⟨y,k⟩:=List.exists_mem_of_ne_nil _ f
  obtain ⟨x,b,c,_⟩:=lT.1 k
  exact ⟨x,b,c⟩
 ·rintro ⟨x,b,c⟩
  obtain ⟨l,m⟩:=qC (nr h.cF (h.has hp b) c)
  obtain ⟨n,j⟩:=HB l
  refine ⟨(kb g s).toNat,⟨by omega,?_⟩,j⟩
  rw[j]
  exact List.ne_nil_of_mem (lT.2 ⟨x,b,c,rfl⟩)
theorem bZ.eu (h:bZ g a) {p:Nat} {s:Int} (he:dT a p s):∃ e∈(a.getD p aM).aG,e.sym=s∧e.to=eu a p s∧eu a p s < a.length∧eT a p [s]=((eu a p s:Int),true):=by
 have hp:=eY he
 have hm:=Xi (getD_some (d:=aM) hp)
 obtain ⟨e,h1,c,f⟩:=J1 he
 obtain ⟨t1,t2⟩:=h.ok.to _ hm _ h1
 have hw:eT a p [s]=(e.to,true):=by
  unfold eT
  rw[Xd (by omega),eZ,Xy,f,Xg ⟨t1,t2⟩,eZ]
 have b:((Gv.eu a p s:Nat):Int)=e.to:=by unfold Gv.eu; rw[hw]; simp; omega
 exact ⟨e,h1,c,b.symm,by omega,by rw[hw,b]⟩
theorem bZ.RY (h:bZ g a) {p:Nat} {s:Int} (he:dT a p s):(a.getD (Gv.eu a p s) aM).bc=bk g (iR g a p) s:=by
 have hm:=Xi (getD_some (d:=aM) (eY he))
 obtain ⟨e,h1,b,c,_⟩:=h.eu he
 have:=h.e.lJ _ hm e h1
 rw[c,Xy,b] at this
 exact this
theorem bZ.step (h:bZ g a) {p:Nat} (hp:p < a.length) {x:aD} (b:x∈iR g a p) {s:Int} (c:bK g x=(s,true)):dT a p s∧(⟨x.ax,x.dot+1⟩:aD)∈(a.getD (Gv.eu a p s) aM).bc∧(⟨x.ax,x.dot+1⟩:aD)∈iR g a (Gv.eu a p s)∧Gv.eu a p s < a.length:=by
 have he:=(h.lJ hp).2 ⟨x,b,c⟩
 obtain ⟨_,_,_,_,hl,_⟩:=h.eu he
 have hk:(⟨x.ax,x.dot+1⟩:aD)∈(a.getD (Gv.eu a p s) aM).bc:=by
  rw[h.RY he]; exact lT.2 ⟨x,b,c,rfl⟩
 exact ⟨he,hk,(dt h.cF (h.bc hl)).2 (.base hk),hl⟩
theorem bZ.WE (h:bZ g a) {p:Nat} {s:Int} (he:dT a p s):∀ y∈(a.getD (Gv.eu a p s) aM).bc,1≤y.dot:=by
 intro y b
 rw[h.RY he] at b
 obtain ⟨x,c,_,rfl⟩:=lT.1 b
 have:=(h.has (eY he) c).2
 simp only; omega
theorem bZ.WS (h:bZ g a) {p:Nat} {s:Int} (he:dT a p s):Gv.eu a p s≠0:=fun e=>by
 have:=h.WE he ⟨-1,0⟩ (by rw[e,h.e.first]; simp)
 simp at this
theorem bZ.prev (h:bZ g a) {i:Nat} (hi:i < a.length) {x:aD} (c:x∈(a.getD i aM).bc) (f:0 < i):∃ (p:Nat) (y:aD) (s:Int),p < i∧p < a.length∧y∈iR g a p∧bK g y=(s,true)∧x=⟨y.ax,y.dot+1⟩∧dT a p s∧Gv.eu a p s=i:=by
 obtain ⟨p,e,hp,he,d⟩:=h.x.back i f hi
 obtain ⟨b,hm⟩:=AO he
 have hk:=h.e.lJ _ hm e he
 rw[d,Xy] at hk
 rw[hk] at c
 obtain ⟨y,j,k,rfl⟩:=lT.1 c
 have hE:dT a p e.sym:=⟨e,he,rfl⟩
 refine ⟨p,y,e.sym,hp,b,j,k,rfl,hE,?_⟩
 have h1:=Rf (by rw[h.x.all _ hm]; exact ve _ _ _) he
 have hw:eT a p [e.sym]=(e.to,true):=by
  have:=h.ok.to _ hm _ he
  unfold eT
  rw[Xd (by omega),eZ,Xy,h1,Xg this,eZ]
 unfold Gv.eu
 rw[hw,d]; rfl
theorem wo {x:aD} {s:Int} (b:cU g x) (h:bK g x=(s,true)):∃ d:Nat,x.dot=d∧d < (aK g x.ax).length∧(aK g x.ax).drop d=s :: (aK g x.ax).drop (d+1):=by
 obtain ⟨h1,a⟩:=uP h
 have:=b.2
 refine ⟨x.dot.toNat,by omega,by omega,?_⟩
 rw[XW (show x.dot.toNat < (aK g x.ax).length by omega)]
 rw[Xb,Xc (show x.dot.toNat < (aK g x.ax).length by omega)] at a
 simp at a
 rw[a]
theorem qh {r:Int} {d:Nat} {s:Int} {l:List Int} (h:(aK g r).drop d=s :: l):bK g ⟨r,d⟩=(s,true)∧(aK g r).drop (d+1)=l∧d < (aK g r).length:=by
 have a:d < (aK g r).length:=by
  rcases XB d (aK g r).length with q | q
  ·exact q
  ·rw[XK q] at h; simp at h
 rw[XW a] at h
 simp only[Zg] at h
 refine ⟨?_,h.2,a⟩
 unfold bK
 rw[Xd (by simp only; omega)]
 simp only[Xy,Xb,Xc a,Xu,h.1]
theorem bZ.fwd (h:bZ g a) (r:Int):∀ (X:List Int) (d:Nat) (p:Nat),p < a.length→(⟨r,d⟩:aD)∈iR g a p→(∃ l,(aK g r).drop d=X ++ l)→∃ q,q < a.length∧iY a p X q∧(⟨r,((d+X.length:Nat):Int)⟩:aD)∈iR g a q
 | [],d,p,hp,b,_=>⟨p,hp,.nil,by simpa using b⟩
 | s :: X,d,p,hp,b,⟨l,hl⟩=>by
  obtain ⟨n1,c,m⟩:=qh hl
  obtain ⟨s1,s2,e,f⟩:=h.step hp b n1
  obtain ⟨q,i,j,k⟩:=bZ.fwd h r X (d+1) (Gv.eu a p s) f (by simpa using e) ⟨l,c⟩
  refine ⟨q,i,.cons s1 j,?_⟩
  rw[show d+(s :: X).length=d+1+X.length by simp; omega]
  exact k
theorem bZ.bwd (h:bZ g a) (r:Int):∀ (d:Nat) (i:Nat),i < a.length→(⟨r,d⟩:aD)∈iR g a i→∃ p,p < a.length∧iY a p ((aK g r).take d) i∧(⟨r,0⟩:aD)∈iR g a p
 | 0,i,hi,c=>⟨i,hi,by simpa using iY.nil,c⟩
 | d+1,i,hi,c=>by
  have hk:=((dt h.cF (h.bc hi)).1 c).bc (.inl (by simp only; omega))
  have n:0 < i:=Nat.pos_of_ne_zero fun e=>by
   subst e
   rw[h.e.first] at hk
   simp at hk
   omega
  obtain ⟨p,y,s,_,k,l,o,b,q,t⟩:=h.prev hi hk n
  simp only[aD.mk.injEq] at b
  obtain ⟨C,u⟩:=y
  simp only at b
  obtain ⟨rfl,b⟩:=b
  have f:u=(d:Int):=by omega
  subst f
  obtain ⟨v,w,k2,x⟩:=bZ.bwd h r d p k l
  obtain ⟨j,z,A,m⟩:=wo (h.has k l) o
  simp only at z A m
  have:j=d:=by omega
  subst this
  refine ⟨v,w,?_,x⟩
  have B:(aK g r).take (j+1)=(aK g r).take j ++ [s]:=by
   rw[XH]
   congr 1
   have:=YA (·[0]?) m
   simp at this
   simp[this]
  rw[B,← t]
  exact k2.snoc q
end
inductive oE (g:ag) (a:List aI):Nat→Int→Nat→Prop
 | fin:oE g a 0 g.start g.af.length
 | term {p:Nat} {B:Int} {t:Nat} : t < g.af.length→dT a (eu a p (-1 - B)) t→oE g a p B t
 | null {p:Nat} {B C:Int} {t:Nat} : 0≤C→dT a (eu a p (-1 - B)) (-1 - C)→(au g false).getD C.toNat false=true→oE g a (eu a p (-1 - B)) C t→oE g a p B t
inductive vd (g:ag) (a:List aI):Nat→Int→Nat→Prop
 | read {p:Nat} {B:Int} {t:Nat} : oE g a p B t→vd g a p B t
 | HT {p p' k d:Nat} {B:Int} {t:Nat} : vd g a p' (av g k).left t→k < g.rules.length→dT a p' (-1 - (av g k).left)→0≤B→(av g k).right[d]?=some (-1 - B)→iY a p' ((av g k).right.take d) p→cE ((av g k).right.drop (d+1)) (au g false) false=true→vd g a p B t
theorem rO (null:List Bool) (first:List BV) (b:BV):∀ (l:List Int) (t:Nat),(ik null first b l).getLsbD t=true↔(ik null first 0 l).getLsbD t=true∨(cE l null false=true∧b.getLsbD t=true)
 | [],t=>by simp[ik,cE]
 | s :: l,t=>by
  have c:=rO null first b l t
  rw[ik,ik]
  by_cases a:0≤s
  ·rw[Xg a,Xg a]; simp[cE,a]
  ·rw[Xd a,Xd a]
   by_cases h1:null.getD (-1 - s).toNat false=true
   ·rw[Xg h1,Xg h1,Ye,Ye,Yp,Yp,c]
    have:cE (s :: l) null false=cE l null false:=by
     rw[cE,Yv,Xd a,h1]; rfl
    rw[this]
    constructor
    ·rintro (h | h | h)
     ·exact .inl (.inl h)
     ·exact .inl (.inr h)
     ·exact .inr h
    ·rintro ((h | h) | h)
     ·exact .inl h
     ·exact .inr (.inl h)
     ·exact .inr (.inr h)
   ·rw[Xd h1,Xd h1]
    have:cE (s :: l) null false=false:=by
     rw[cE,Yv,Xd a]
     simp only[Bool.not_eq_true] at h1
     rw[h1]; rfl
    rw[this]; simp
theorem z7 {F:List Bool→List Bool} (a:∀ is,fT is (F is)):∀ (k:Nat) (is:List Bool),is.length≤ew is+k→F (iter F k is)=iter F k is
 | 0,is,h=>by
  have h1:=a is
  have c:=tC (F is)
  have b:=h1.ew
  rw[← h1.1] at c
  have d:=tC is
  exact (b.2 (by omega)).symm
 | k+1,is,h=>by
  rw[iter]
  by_cases e:F is=is
  ·rw[e]
   have:iter F k is=is:=wZ e k
   rw[this,e]
  ·refine z7 a k (F is) ?_
   have h1:=a is
   have b:=h1.ew
   have:ew is≠ew (F is):=fun q=>e (b.2 q).symm
   rw[← h1.1]; omega
def pt (t:Nat) (fs:List BV):List Bool:=fs.map fun b=>b.getLsbD t
def NY (null:List Bool) (t:Nat) (is:List Bool):List Int→Bool
 | []=>false
 | s :: l=>if 0≤s then (fG s).getLsbD t else if null.getD (-1 - s).toNat false=true then is.getD (-1 - s).toNat false || NY null t is l else is.getD (-1 - s).toNat false
theorem rI (t:Nat) (a:List BV) (i:Nat):(pt t a).getD i false=(a.getD i 0).getLsbD t:=by
 simp only[pt,Xb,Xf]
 cases a[i]? with
 | none=>simp
 | some x=>rfl
theorem Hb (null:List Bool) (t:Nat) (a:List BV):∀ l:List Int,(ik null a 0 l).getLsbD t=NY null t (pt t a) l
 | []=>by simp[ik,NY]
 | s :: l=>by
  rw[ik,NY]
  split
  ·rfl
  ·split
   ·rw[Ye,Hb null t a l,rI]
   ·rw[rI]
def kX (null:List Bool) (t:Nat) (is:List Bool) (r:aW):List Bool:=is.set r.left.toNat (is.getD r.left.toNat false || NY null t is r.right)
theorem Q5 (null:List Bool) (t:Nat) (a:List BV) (r:aW):pt t (qP null a r)=kX null t (pt t a) r:=by
 unfold qP kX
 rw[rI,← Hb,← Ye]
 simp[pt,YL]
theorem IK (null:List Bool) (t:Nat):∀ (l:List aW) (a:List BV),pt t (l.foldl (qP null) a)=l.foldl (kX null t) (pt t a)
 | [],_=>rfl
 | r :: l,a=>by rw[XC,IK null t l,Q5]; rfl
theorem Ir (g:ag) (null:List Bool) (t:Nat):∀ (n:Nat) (a:List BV),pt t (iter (DM g null) n a)=iter (fun is=>g.rules.foldl (kX null t) is) n (pt t a)
 | 0,_=>rfl
 | n+1,a=>by rw[iter,iter,Ir g null t n]; exact YA _ (IK null t g.rules a)
theorem IH (null:List Bool) (t:Nat) (is:List Bool) (r:aW):fT is (kX null t is r):=by
 refine ⟨by simp[kX],fun i hi=>?_⟩
 unfold kX
 simp only[Xb,YC] at hi ⊢
 split
 ·rename_i e
  subst e
  split
  ·simp[hi]
  ·rename_i h; rw[XL (by omega)] at hi; simp at hi
 ·exact hi
theorem B7 (null:List Bool) (t:Nat):∀ (l:List aW) (is:List Bool),fT is (l.foldl (kX null t) is)
 | [],is=>.refl _
 | r :: l,is=>(IH null t is r).trans (B7 null t l _)
theorem E0 {null:List Bool} {t:Nat} : ∀ {l:List aW} {is:List Bool},l.foldl (kX null t) is=is→∀ R∈l,kX null t is R=is
 | [],_,_,_,h=>by simp at h
 | R :: l,is,h,x,a=>by
  rw[XC] at h
  have h1:=B7 null t l (kX null t is R)
  rw[h] at h1
  have b:=(h1.HJ (IH null t is R))
  rcases Xs.1 a with rfl | a
  ·exact b
  ·rw[b] at h; exact E0 h x a
theorem zL {g:ag} (d:g.dD) (null:List Bool) {R:aW} (b:R∈g.rules):nG (ik null (dM g null) 0 R.right) ((dM g null).getD R.left.toNat 0):=by
 intro t c
 have e:=Ir g null t g.ak.length (List.replicate g.ak.length 0)
 have a:=z7 (F:=fun is=>g.rules.foldl (kX null t) is) (fun is=>B7 null t g.rules is) g.ak.length (pt t (List.replicate g.ak.length 0)) (by simp[pt])
 rw[← e] at a
 have h1:=E0 a R b
 rw[Hb] at c
 rw[← rI]
 have f:=d.left R b
 have hl:R.left.toNat < (pt t (dM g null)).length:=by simp[pt,Nl]; omega
 change kX null t (pt t (dM g null)) R=pt t (dM g null) at h1
 rw[← h1]
 unfold kX
 rw[Xb,Y3 hl,c,Bool.or_true]; rfl
theorem rf {t:Nat} (h:t≤31) (i:Nat):(fG (t:Int)).getLsbD i=true↔i=t:=by
 unfold fG
 rw[Xg ⟨by omega,by omega⟩,Y9,Xy]
 simp only[Xl,Xr]
 omega
theorem Qb {g:ag} (h:isRed g=true):∀ i:Nat,i < g.ak.length→(au g true).getD i false=true:=by
 have hr:=iJ h
 unfold isRed at h
 simp only[Xl,Yo,Xr] at h
 obtain ⟨h1,b⟩:=h
 have hp:(au g true).getD g.start.toNat false=true:=by
  refine Yj fun c=>?_
  rw[lj hr,Xd c] at h1
  simp at h1
 have a:=QK hr hp
 have e:(fX g).1=qB g (bL (ct (au g true) (bN g) g.rules)) (au g true) (bN g):=by rw[lj hr,Xg hp]
 rw[← e,← b] at a
 intro i hi
 rw[a.len] at hi
 exact a.FU hi
theorem MM {g:ag} (h:isRed g=true) {x:Int} (hd:tX g x):(au g false).getD x.toNat false=true∨∃ t,((dM g (au g false)).getD x.toNat 0).getLsbD t=true:=by
 have hr:=iJ h
 have c:=bJ hr
 induction hd with
 | mk R d _ e =>
  have key:∀ l:List Int,(∀ s∈l,s∈R.right)→cE l (au g false) false=true∨∃ t,(ik (au g false) (dM g (au g false)) 0 l).getLsbD t=true:=by
   intro l
   induction l with
   | nil=>intro _; exact .inl rfl
   | cons s l il =>
    intro hs
    rw[ik]
    by_cases b:0≤s
    ·rw[Xg b]
     have h1:=c.sym R d s (hs s (by simp))
     have:=c.af
     unfold gu at h1
     rw[Xg b] at h1
     simp at h1
     obtain ⟨t,rfl⟩:∃ t:Nat,s=t:=⟨s.toNat,by omega⟩
     exact .inr ⟨t,(rf (by omega) t).2 rfl⟩
    ·rw[Xd b]
     rcases e s (hs s (by simp)) (by omega) with h1 | ⟨t,a⟩
     ·rw[Xg h1]
      rcases il fun x f=>hs x (by simp[f]) with i | ⟨t,a⟩
      ·left
       rw[cE,Yv,Xd b,h1]; exact i
      ·exact .inr ⟨t,by rw[Ye,a,Bool.or_true]⟩
     ·right
      split
      ·exact ⟨t,by rw[Ye,a,Bool.true_or]⟩
      ·exact ⟨t,a⟩
  rcases key R.right (fun _ h=>h) with h1 | ⟨t,a⟩
  ·exact .inl (tq hr d h1)
  ·exact .inr ⟨t,zL c _ d t a⟩
theorem CF {g:ag} (h:isRed g=true) {t0:Nat} (d:t0 < 32):∀ l:List Int,(∀ s∈l,gu g s=true)→∃ t,(ik (au g false) (dM g (au g false)) (BitVec.twoPow 32 t0) l).getLsbD t=true
 | [],_=>⟨t0,by rw[ik,Y9]; simp[d]⟩
 | s :: l,hs=>by
  have hr:=iJ h
  have e:=bJ hr
  have h1:=hs s (by simp)
  have:=e.af
  rw[ik]
  unfold gu at h1
  by_cases b:0≤s
  ·rw[Xg b]
   rw[Xg b] at h1
   simp at h1
   obtain ⟨t,rfl⟩:∃ t:Nat,s=t:=⟨s.toNat,by omega⟩
   exact ⟨t,(rf (by omega) t).2 rfl⟩
  ·rw[Xd b]
   rw[Xd b] at h1
   simp at h1
   have hd:=zd hr (-1 - s).toNat (Qb h _ (by omega))
   obtain ⟨t2,c⟩:=CF h d l fun x f=>hs x (by simp[f])
   split
   ·exact ⟨t2,by rw[Ye,c,Bool.or_true]⟩
   ·rename_i i
    rcases MM h hd with a | ⟨t,a⟩
    ·rw[Xy] at a; exact absurd a i
    ·rw[Xy] at a; exact ⟨t,a⟩
section
variable {g:ag} {a:List aI}
theorem gW {i:Nat} {x:aD} : x∈(fY g a).getD i []↔i < a.length∧x∈iR g a i:=by
 unfold fY
 rw[Xb,Xf]
 rcases XB i a.length with h | h
 ·rw[Xc h]
  simp[h,iR,Xb,Xc h]
 ·rw[XL h]
  simp; omega
theorem qm {x:aD} {s:Int} (a:cU g x) (h:bK g x=(s,true)):∃ d:Nat,x.dot=d∧(aK g x.ax).drop d=s :: jU g x∧(aK g x.ax).drop (d+1)=jU g x:=by
 obtain ⟨d,h1,b,f⟩:=wo a h
 have e:(aK g x.ax).drop (d+1)=jU g x:=by
  unfold jU
  by_cases c:0≤x.ax
  ·rw[Xg c,h1,aK,Xd (by omega)]; rfl
  ·rw[Xd c]
   have hr:x.ax = -1:=by have:=a.1; omega
   rw[hr] at b ⊢
   simp only[aK,if_true] at b ⊢
   exact XK (by simp)
 exact ⟨d,h1,by rw[f,e],e⟩
theorem xX {null:List Bool} {a:List BV} {s:Int} {l:List Int} {u:Nat} : (ik null a 0 (s :: l)).getLsbD u=true↔(0≤s∧(fG s).getLsbD u=true)∨(s < 0∧((a.getD (-1 - s).toNat 0).getLsbD u=true∨(null.getD (-1 - s).toNat false=true∧(ik null a 0 l).getLsbD u=true))):=by
 rw[ik]
 by_cases b:0≤s
 ·rw[Xg b]
  constructor
  ·intro h; exact .inl ⟨b,h⟩
  ·rintro (h | h)
   ·exact h.2
   ·omega
 ·rw[Xd b]
  split
  ·rename_i c
   rw[Ye,Yp]
   constructor
   ·rintro (h | h)
    ·exact .inr ⟨by omega,.inl h⟩
    ·exact .inr ⟨by omega,.inr ⟨c,h⟩⟩
   ·rintro (h | ⟨_,h | h⟩)
    ·omega
    ·exact .inl h
    ·exact .inr h.2
  ·rename_i c
   constructor
   ·intro h; exact .inr ⟨by omega,.inl h⟩
   ·rintro (h | ⟨_,h | h⟩)
    ·omega
    ·exact h
    ·exact absurd h.1 c
def LV (g:ag) (a:List aI) (q u:Nat):Prop:=(u < g.af.length∧dT a q u)∨∃ C:Int,0≤C∧dT a q (-1 - C)∧(au g false).getD C.toNat false=true∧oE g a q C u
theorem LV.read {p u:Nat} {B:Int} (h:LV g a (eu a p (-1 - B)) u):oE g a p B u:=by
 rcases h with ⟨h1,b⟩ | ⟨C,h1,b,c,d⟩
 ·exact .term h1 b
 ·exact .null h1 b c d
def uA (g:ag) (a:List aI) (fs:List BV):Prop:=∀ (C:Int) (q u:Nat),0≤C→(fs.getD C.toNat 0).getLsbD u=true→dT a q (-1 - C)→LV g a q u
theorem Mn (b:bZ g a) {c:List BV} (f:uA g a c) {r:Int} {u:Nat} : ∀ (l:List Int) (d q:Nat),q < a.length→(⟨r,d⟩:aD)∈iR g a q→(aK g r).drop d=l→(ik (au g false) c 0 l).getLsbD u=true→LV g a q u
 | [],_,_,_,_,_,h=>by simp[ik] at h
 | s :: l,d,q,hq,i,hl,h=>by
  obtain ⟨n1,k,p⟩:=qh hl
  obtain ⟨s1,s2,m,n⟩:=b.step hq i n1
  rcases xX.1 h with ⟨o,h1⟩ | ⟨o,h1⟩
  ·have j:=qC (nr b.cF (b.has hq i) n1)
   have:=b.cF.af
   obtain ⟨t,rfl⟩:∃ t:Nat,s=t:=⟨s.toNat,by omega⟩
   have:=(rf (by omega) u).1 h1
   subst this
   exact .inl ⟨by omega,s1⟩
  ·have e : -1 - (-1 - s)=s:=by omega
   rcases h1 with h1 | ⟨h1,j⟩
   ·exact f (-1 - s) q u (by omega) h1 (by rw[e]; exact s1)
   ·refine .inr ⟨-1 - s,by omega,by rw[e]; exact s1,h1,LV.read ?_⟩
    rw[e]
    exact Mn b f l (d+1) _ n (by simpa using m) k j
theorem kF (b:bZ g a) {q:Nat} (hq:q < a.length) {C:Int} {k:Nat} (f:0≤C) (hk:k < g.rules.length) (hl:(av g k).left=C) (he:dT a q (-1 - C)):(⟨k,0⟩:aD)∈iR g a q:=by
 obtain ⟨x,c,d⟩:=(b.lJ hq).1 he
 have e:g.rules[k]?=some (av g k):=by unfold av; exact getD_some hk
 exact (dt b.cF (b.bc hq)).2 (.step ((dt b.cF (b.bc hq)).1 c) d (by omega) e (by omega))
theorem Oj (b:bZ g a) {e:List BV} (c:uA g a e) {k:Nat} (hk:k < g.rules.length):uA g a (qP (au g false) e (av g k)):=by
 intro C q u d hu he
 have f:g.rules[k]?=some (av g k):=by unfold av; exact getD_some hk
 have h:=(b.cF.left _ (Xi f)).1
 unfold qP at hu
 rw[fj] at hu
 split at hu
 ·rename_i i
  rw[Ye,Yp] at hu
  have hl:(av g k).left=C:=by omega
  rcases hu with hu | hu
  ·exact c C q u d (by rw[← hl]; exact hu) he
  ·have hq:=eY he
   have hm:=kF b hq d hk hl he
   refine Mn b c _ 0 q hq hm ?_ hu
   rw[Yt,aK,Xd (by omega)]
 ·exact c C q u d hu he
theorem Gd (c:bZ g a):∀ (l:List aW) (b:List BV),(∀ R∈l,R∈g.rules)→uA g a b→uA g a (l.foldl (qP (au g false)) b)
 | [],_,_,h=>h
 | R :: l,b,hl,h=>by
  obtain ⟨k,hk,e⟩:=Yh.1 (hl R (by simp))
  have f:R=av g k:=by
   have d:g.rules[k]?=some (av g k):=by unfold av; exact getD_some hk
   rw[Xc hk,e] at d
   simpa using d
  rw[XC]
  refine Gd c l _ (fun x i=>hl x (by simp[i])) ?_
  rw[f]
  exact Oj c h hk
theorem E7 (c:bZ g a):∀ (n:Nat) (b:List BV),uA g a b→uA g a (iter (DM g (au g false)) n b)
 | 0,_,h=>h
 | n+1,b,h=>by
  rw[iter]
  exact E7 c n _ (Gd c g.rules b (fun _ h=>h) h)
theorem Ns (b:bZ g a):uA g a (dM g (au g false)):=by
 refine E7 b _ _ fun C q u c hu he=>?_
 simp only[Xb,YP] at hu
 split at hu <;> simp at hu
theorem U1 (b:bZ g a) {i:Nat} {x:aD} {t:Nat} (h:pM g (au g false) a (fY g a) i x t) :
  (x.ax < 0→t=g.af.length)∧(0≤x.ax→∃ p,iY a p ((aK g x.ax).take x.dot.toNat) i∧dT a p (-1 - (av g x.ax).left)∧vd g a p (av g x.ax).left t):=by
 induction h with
 | start=>exact ⟨fun _=>rfl,fun h=>by simp at h⟩
 | @move i x t s hl c hm l =>
  obtain ⟨hi,f⟩:=gW.1 hl.mem
  have hH:=b.has hi f
  refine ⟨l.1,fun m=>?_⟩
  obtain ⟨p,j,r,v⟩:=l.2 m
  obtain ⟨d,d1,d2,d3⟩:=qm hH c
  refine ⟨p,?_,r,v⟩
  have hE:=((b.lJ hi).2 ⟨x,f,c⟩)
  have:=j.snoc hE
  rw[d1] at this ⊢
  rw[show ((d:Int)+1).toNat=d+1 by omega,XH]
  have N:(aK g x.ax)[d]?=some s:=by
   have:=YA (·[0]?) d2
   simpa using this
  rw[N]
  exact this
 | @begin i x t u s k hl c H hk I hm hu l =>
  obtain ⟨hi,f⟩:=gW.1 hl.mem
  have hH:=b.has hi f
  refine ⟨fun h=>by simp only at h; omega,fun _=>?_⟩
  obtain ⟨d,d1,d2,d3⟩:=qm hH c
  obtain ⟨s1,s2,J,O⟩:=b.step hi f c
  have e : -1 - (-1 - s)=s:=by omega
  refine ⟨i,by simpa using iY.nil,by simp only; rw[I,e]; exact s1,?_⟩
  simp only
  rw[I]
  rcases (rO _ _ _ _ _).1 hu with h1 | ⟨h1,K⟩
  ·refine .read (LV.read ?_)
   rw[e]
   refine Mn b (Ns b) (jU g x) (d+1) _ O (by rw[d1] at J; simpa using J) d3 h1
  ·have w:u=t:=by
    rw[Y9] at K
    simp at K; omega
   subst w
   by_cases m:0≤x.ax
   ·obtain ⟨p,j,r,v⟩:=l.2 m
    obtain ⟨n,z⟩:∃ n:Nat,x.ax=n:=⟨x.ax.toNat,by omega⟩
    have A:n < g.rules.length:=by have:=hH.1; omega
    rw[z] at j r v d2 d3
    have B:aK g (n:Int)=(av g n).right:=by rw[aK,Xd (by omega)]
    rw[B] at j d2 d3
    rw[d1] at j
    refine .HT v A r (by omega) (d:=d) ?_ (by simpa using j) (by rw[d3]; exact h1)
    have:=YA (·[0]?) d2
    rw[e]
    simpa using this
   ·have P:=l.1 (by omega)
    have hr:x.ax = -1:=by have:=hH.1; omega
    have C:=((dt b.cF (b.bc hi)).1 f).bc (.inr (by omega))
    have D:i=0:=Nat.eq_zero_of_not_pos fun m=>by
     obtain ⟨p,y,V,_,Q,R,S,L,W,X⟩:=b.prev hi C m
     have o:=YA aD.ax L
     have E:=YA aD.dot L
     simp only at o E
     obtain ⟨Y,Z,M,e3⟩:=wo (b.has Q R) S
     obtain ⟨F,T,q,U⟩:=wo hH c
     rw[← o,hr] at M
     rw[hr] at q
     simp only[aK,if_true,List.length_singleton] at M q
     omega
    have G:d=0:=by
     obtain ⟨F,T,q,U⟩:=wo hH c
     rw[hr] at q
     simp only[aK,if_true,List.length_singleton] at q
     omega
    subst G
    rw[hr] at d2
    simp only[aK,if_true,Yt,Zg] at d2
    rw[D,P,show -1 - s=g.start by omega]
    exact .read .fin
theorem Po (f:bZ g a) {q:Nat} (hq:q < a.length) {u:Nat} {z:aD} (m:z∈iR g a q):∀ d:Nat,z.dot=d→(ik (au g false) (dM g (au g false)) 0 ((aK g z.ax).drop d)).getLsbD u=true →
  ∃ (y:aD) (e:Nat),y∈(a.getD q aM).bc∧y.dot=e∧(ik (au g false) (dM g (au g false)) 0 ((aK g y.ax).drop e)).getLsbD u=true:=by
 have i:=(dt f.cF (f.bc hq)).1 m
 clear m
 induction i with
 | base h=>exact fun d h1 b=>⟨_,d,h,h1,b⟩
 | @step x s k R n o c j hl p =>
  intro d h1 b
  have hd:d=0:=by simp only at h1; omega
  subst hd
  obtain ⟨r,t,v,w⟩:=qm (n.has (f.bc hq)) o
  refine p r t ?_
  rw[v]
  refine xX.2 (.inr ⟨c,.inl ?_⟩)
  have hk:k < g.rules.length:=(Xq.1 j).1
  have l:av g k=R:=by unfold av; rw[Xb,Xy,j]; rfl
  rw[← hl]
  refine zL f.cF _ (Xi j) u ?_
  rw[Yt,aK,Xd (by simp only; omega)] at b
  simp only at b
  rw[l] at b
  exact b
theorem F2 (b:bZ g a) {p:Nat} {s:Int} {u:Nat} (he:dT a p s) (h:∃ y∈iR g a (eu a p s),∃ d:Nat,y.dot=d∧(ik (au g false) (dM g (au g false)) 0 ((aK g y.ax).drop d)).getLsbD u=true) :
  ∃ x∈iR g a p,bK g x=(s,true)∧(ik (au g false) (dM g (au g false)) 0 (jU g x)).getLsbD u=true:=by
 obtain ⟨y,j,d,h1,k⟩:=h
 obtain ⟨_,_,_,_,hl,_⟩:=b.eu he
 obtain ⟨z,e,c,z2,z3⟩:=Po b hl j d h1 k
 rw[b.RY he] at c
 obtain ⟨x,f,i,rfl⟩:=lT.1 c
 refine ⟨x,f,i,?_⟩
 obtain ⟨l,n,o,m⟩:=qm (b.has (eY he) f) i
 simp only at z2 z3
 rw[← m,show l+1=e by omega]
 exact z3
theorem Cf (b:bZ g a) {p u:Nat} {B:Int} (h:oE g a p B u):dT a p (-1 - B)→(p=0∧B=g.start∧u=g.af.length)∨∃ x∈iR g a p,bK g x=(-1 - B,true)∧(ik (au g false) (dM g (au g false)) 0 (jU g x)).getLsbD u=true:=by
 induction h with
 | fin=>exact fun _=>.inl ⟨rfl,rfl,rfl⟩
 | @term p B t q he =>
  intro c
  right
  refine F2 b c ?_
  have hq:=eY he
  obtain ⟨y,j,e⟩:=(b.lJ hq).1 he
  obtain ⟨d,f,i,l⟩:=qm (b.has hq j) e
  refine ⟨y,j,d,f,?_⟩
  have:=b.cF.af
  rw[i]
  exact xX.2 (.inl ⟨by omega,(rf (by omega) _).2 rfl⟩)
 | @null p B C t r he e hr m =>
  intro c
  rcases m he with ⟨h1,_,_⟩ | ⟨y,k,n,o⟩
  ·exact absurd h1 (b.WS c)
  ·right
   refine F2 b c ?_
   obtain ⟨d,f,i,l⟩:=qm (b.has (eY he) k) n
   refine ⟨y,k,d,f,?_⟩
   rw[i]
   refine xX.2 (.inr ⟨by omega,.inr ⟨?_,o⟩⟩)
   rw[show -1 - (-1 - C)=C by omega]; exact e
theorem Nt (b:bZ g a) (hr:isRed g=true):∀ (n i:Nat),i < n→i < a.length→∀ x∈iR g a i,∃ t,t < 32∧pM g (au g false) a (fY g a) i x t
 | 0,_,h,_,_,_=>by omega
 | n+1,i,_,hi,x,d=>by
  have j:=(dt b.cF (b.bc hi)).1 d
  clear d
  induction j with
  | @base x h =>
   by_cases v:0 < i
   ·obtain ⟨p,y,s,I,w,z,A,C,J,D⟩:=b.prev hi h v
    obtain ⟨t,l,m⟩:=Nt b hr n p (by omega) w y z
    refine ⟨t,l,?_⟩
    obtain ⟨s1,s2,E,F⟩:=b.step w z A
    have hm:(⟨y.ax,y.dot+1⟩:aD)∈(fY g a).getD (eT a p [s]).1.toNat []:=gW.2 ⟨F,E⟩
    have:=pM.move m A hm
    rw[C,← D]
    exact this
   ·have o:i=0:=by omega
    subst o
    rw[b.e.first] at h
    simp at h; subst h
    have:=b.cF.af
    exact ⟨g.af.length,by omega,.start (gW.2 ⟨hi,(dt b.cF (b.bc hi)).2 (.base (by rw[b.e.first]; simp))⟩)⟩
  | @step x s k R d B c q hl G =>
   obtain ⟨t,l,m⟩:=G
   have hH:=d.has (b.bc hi)
   have hk:k < g.rules.length:=(Xq.1 q).1
   have r:av g k=R:=by unfold av; rw[Xb,Xy,q]; rfl
   obtain ⟨u,hu⟩:=CF hr l (jU g x) (fun s hs=>by
    unfold jU at hs
    split at hs
    ·rename_i v
     have H:g.rules[x.ax.toNat]?=some (av g x.ax):=by
      have:=hH.1
      unfold av; exact getD_some (by omega)
     exact b.cF.sym _ (Xi H) s (List.mem_of_mem_drop hs)
    ·simp at hs)
   have f:u < 32:=Nat.lt_of_not_le fun h=>by rw[BitVec.getLsbD_of_ge _ _ h] at hu; simp at hu
   exact ⟨u,f,.begin m B c hk (by rw[r]; omega) (gW.2 ⟨hi,(dt b.cF (b.bc hi)).2 (.step d B c q hl)⟩) hu⟩
theorem I3 (b:bZ g a) {k:Nat} {t:Nat} : ∀ (X:List Int) (d p i:Nat),iY a p X i→pM g (au g false) a (fY g a) p ⟨k,d⟩ t→(∃ l,(aK g k).drop d=X ++ l)→pM g (au g false) a (fY g a) i ⟨k,((d+X.length:Nat):Int)⟩ t
 | [],d,p,i,hw,h,_=>by cases hw; simpa using h
 | s :: X,d,p,i,hw,h,⟨l,hl⟩=>by
  cases hw with
  | cons h1 c =>
   obtain ⟨n1,e,q⟩:=qh hl
   obtain ⟨hp,f⟩:=gW.1 h.mem
   obtain ⟨s1,s2,j,m⟩:=b.step hp f n1
   have hm:(⟨(⟨k,d⟩:aD).ax,(⟨k,d⟩:aD).dot+1⟩:aD)∈(fY g a).getD (eT a p [s]).1.toNat []:=gW.2 ⟨m,j⟩
   have n:=pM.move h n1 hm
   have o:=I3 b X (d+1) _ i c (by rw[show (((d+1:Nat):Int))=(d:Int)+1 by omega]; exact n) ⟨l,e⟩
   rw[show d+(s :: X).length=d+1+X.length by simp; omega]
   exact o
theorem Vd (b:bZ g a) (hr:isRed g=true) {p t:Nat} {B:Int} (h:vd g a p B t):0≤B→dT a p (-1 - B)→∀ k:Nat,k < g.rules.length→(av g k).left=B→pM g (au g false) a (fY g a) p ⟨k,0⟩ t:=by
 induction h with
 | @read p B t h =>
  intro q he k hk hl
  have hp:=eY he
  have hm:=gW.2 ⟨hp,kF b hp q hk hl he⟩
  rcases Cf b h he with ⟨rfl,rfl,rfl⟩ | ⟨x,y,z,A⟩
  ·have C:(⟨-1,0⟩:aD)∈iR g a 0:=(dt b.cF (b.bc hp)).2 (.base (by rw[b.e.first]; simp))
   refine .begin (.start (gW.2 ⟨hp,C⟩)) (s:=-1 - g.start) ?_ (by omega) hk (by omega) hm ?_
   ·unfold bK; rw[Xd (by simp[aK])]; simp[aK]
   ·have:=b.cF.af
    rw[jU,Xd (by simp),ik,Y9]
    simp; omega
  ·obtain ⟨t0,w,D⟩:=Nt b hr (p+1) p (by omega) hp x y
   refine .begin D z (by omega) hk (by omega) hm ((rO _ _ _ _ _).2 (.inl A))
 | @HT p E c d B t H j r F hd hw f u =>
  intro q he k hk hl
  have G:g.rules[c]?=some (av g c):=by unfold av; exact getD_some j
  have h1:=u (b.cF.left _ (Xi G)).1 r c j rfl
  have m:aK g (c:Int)=(av g c).right:=by rw[aK,Xd (by omega)]
  have n:=(Xq.1 hd).1
  have o:=I3 b _ 0 E p hw (by simpa using h1) ⟨(av g c).right.drop d,by rw[m,Yt,List.take_append_drop]⟩
  rw[X0,Yi,Nat.min_eq_left (by omega)] at o
  have hp:=eY he
  have v:bK g ⟨c,d⟩=(-1 - B,true):=(qh (l:=(av g c).right.drop (d+1)) (by
   rw[m,XW n]
   congr 1
   rw[Xc n] at hd
   simpa using hd)).1
  refine .begin o v (by omega) hk (by omega) (gW.2 ⟨hp,kF b hp q hk hl he⟩) ((rO _ _ _ _ _).2 (.inr ⟨?_,?_⟩))
  ·rw[jU,Xg (by simp only; omega)]
   simpa using f
  ·obtain ⟨i3,_⟩:=gW.1 o.mem
   have w:t < 32:=by
    have key:∀ {i:Nat} {x:aD} {t:Nat},pM g (au g false) a (fY g a) i x t→t < 32:=by
     intro i x t h
     have:=b.cF.af
     induction h with
     | start=>omega
     | move _ _ _ u=>exact u
     | begin _ _ _ _ _ _ hu _=>exact Nat.lt_of_not_le fun h=>by rw[BitVec.getLsbD_of_ge _ _ h] at hu; simp at hu
    exact key o
   rw[Y9]
   simp[w]
theorem PH (d:bZ g a) (hr:isRed g=true) {i k t:Nat} (hk:k < g.rules.length):pM g (au g false) a (fY g a) i ⟨k,((av g k).right.length:Nat)⟩ t↔∃ p,iY a p (av g k).right i∧dT a p (-1 - (av g k).left)∧vd g a p (av g k).left t:=by
 have l:g.rules[k]?=some (av g k):=by unfold av; exact getD_some hk
 have b:aK g (k:Int)=(av g k).right:=by rw[aK,Xd (by omega)]
 constructor
 ·intro h
  obtain ⟨p,c,e,f⟩:=(U1 d h).2 (by simp only; omega)
  simp only at c e f
  rw[b,Xy,List.take_length] at c
  exact ⟨p,c,e,f⟩
 ·rintro ⟨p,c,e,f⟩
  have h1:=Vd d hr f (d.cF.left _ (Xi l)).1 e k hk rfl
  have j:=I3 d _ 0 p i c (by simpa using h1) ⟨[],by rw[b]; simp⟩
  rw[Yi] at j
  exact j
theorem UF (b:bZ g a) {i k:Nat} (hi:i < a.length) (hk:k < g.rules.length):(⟨k,((av g k).right.length:Nat)⟩:aD)∈iR g a i↔∃ p,iY a p (av g k).right i∧dT a p (-1 - (av g k).left):=by
 have l:g.rules[k]?=some (av g k):=by unfold av; exact getD_some hk
 have f:aK g (k:Int)=(av g k).right:=by rw[aK,Xd (by omega)]
 constructor
 ·intro h
  obtain ⟨p,d,j,n⟩:=b.bwd k _ i hi h
  rw[f,List.take_length] at j
  refine ⟨p,j,?_⟩
  cases (dt b.cF (b.bc d)).1 n with
  | base h =>
   exfalso
   by_cases o:0 < p
   ·obtain ⟨_,y,s,B,r,t,C,u,_,_⟩:=b.prev d h o
    have:=YA aD.dot u
    simp only at this
    have:=(b.has r t).2
    omega
   ·have:p=0:=by omega
    subst this
    rw[b.e.first] at h
    simp at h
  | @step x s k2 R v w m c hl =>
   rw[l] at c
   simp only[Xe] at c
   rw[c,hl,show -1 - (-1 - s)=s by omega]
   exact (b.lJ d).2 ⟨x,(dt b.cF (b.bc d)).2 v,w⟩
 ·rintro ⟨p,d,j⟩
  have hp:=eY j
  have hm:=kF b hp (b.cF.left _ (Xi l)).1 hk rfl j
  obtain ⟨q,D,z,A⟩:=b.fwd k (av g k).right 0 p hp hm ⟨[],by rw[f]; simp⟩
  rw[d.one z]
  simpa using A
end
def oT (null:List Bool) (first:List BV) (R:aW) (out:List BV) (k:Nat):List BV :=
 if R.right.getD k 0 < 0 then out.set (-1 - R.right.getD k 0).toNat (out.getD (-1 - R.right.getD k 0).toNat 0 ||| ik null first (out.getD R.left.toNat 0) (R.right.drop (k+1))) else out
def vy (null:List Bool) (first:List BV) (out:List BV) (R:aW):List BV:=(List.range R.right.length).foldl (oT null first R) out
def AE (g:ag) (null:List Bool) (first:List BV) (out:List BV):List BV:=g.rules.foldl (vy null first) out
def qz (g:ag):List BV:=(List.replicate g.ak.length 0).set g.start.toNat (fG g.af.length)
def kI (g:ag) (null:List Bool):List BV:=iter (AE g null (dM g null)) g.ak.length (qz g)
theorem L0 (null:List Bool) (first:List BV) (R:aW) (out:List BV) (k:Nat):(oT null first R out k).length=out.length:=by
 unfold oT; split <;> simp
theorem Ci (null:List Bool) (first:List BV) (R:aW):∀ (l:List Nat) (out:List BV),(l.foldl (oT null first R) out).length=out.length
 | [],_=>rfl
 | k :: l,out=>by rw[XC,Ci null first R l,L0]
theorem AV (null:List Bool) (first:List BV):∀ (l:List aW) (out:List BV),(l.foldl (vy null first) out).length=out.length
 | [],_=>rfl
 | R :: l,out=>by rw[XC,AV null first l,vy,Ci]
theorem JJ (g:ag) (null:List Bool):(kI g null).length=g.ak.length:=by
 rw[kI,yI (f:=AE g null (dM g null)) fun l=>AV _ _ g.rules l]; simp[qz]
theorem sY {α:Type} {F:List Bool→α→List Bool} (a:∀ is x,fT is (F is x)):∀ (l:List α) (is:List Bool),fT is (l.foldl F is)
 | [],is=>.refl _
 | x :: l,is=>(a is x).trans (sY a l _)
theorem yL {α:Type} {F:List Bool→α→List Bool} (a:∀ is x,fT is (F is x)):∀ {l:List α} {is:List Bool},l.foldl F is=is→∀ x∈l,F is x=is
 | [],_,_,_,h=>by simp at h
 | y :: l,is,h,x,b=>by
  rw[XC] at h
  have h1:=sY a l (F is y)
  rw[h] at h1
  have c:=h1.HJ (a is y)
  rcases Xs.1 b with rfl | b
  ·exact c
  ·rw[c] at h; exact yL a h x b
def rD (null:List Bool) (first:List BV) (t:Nat) (R:aW) (is:List Bool) (k:Nat):List Bool :=
 if R.right.getD k 0 < 0 then is.set (-1 - R.right.getD k 0).toNat (is.getD (-1 - R.right.getD k 0).toNat false || ((ik null first 0 (R.right.drop (k+1))).getLsbD t || (cE (R.right.drop (k+1)) null false && is.getD R.left.toNat false))) else is
theorem O1 (null:List Bool) (first:List BV) (t:Nat) (R:aW) (out:List BV) (k:Nat):pt t (oT null first R out k)=rD null first t R (pt t out) k:=by
 unfold oT rD
 have e:∀ b:BV,(ik null first b (R.right.drop (k+1))).getLsbD t=((ik null first 0 (R.right.drop (k+1))).getLsbD t || (cE (R.right.drop (k+1)) null false && b.getLsbD t)):=fun b=>by
  rw[Yl,rO]; simp
 split
 ·rw[rI,rI,← e,← Ye]
  simp[pt,YL]
 ·rfl
theorem Gt (null:List Bool) (first:List BV) (t:Nat) (R:aW):∀ (l:List Nat) (out:List BV),pt t (l.foldl (oT null first R) out)=l.foldl (rD null first t R) (pt t out)
 | [],_=>rfl
 | k :: l,out=>by rw[XC,Gt null first t R l,O1]; rfl
def Jt (null:List Bool) (first:List BV) (t:Nat) (is:List Bool) (R:aW):List Bool:=(List.range R.right.length).foldl (rD null first t R) is
theorem CE (null:List Bool) (first:List BV) (t:Nat):∀ (l:List aW) (out:List BV),pt t (l.foldl (vy null first) out)=l.foldl (Jt null first t) (pt t out)
 | [],_=>rfl
 | R :: l,out=>by rw[XC,CE null first t l,vy,Gt]; rfl
theorem Gj (g:ag) (null:List Bool) (first:List BV) (t:Nat):∀ (n:Nat) (out:List BV),pt t (iter (AE g null first) n out)=iter (fun is=>g.rules.foldl (Jt null first t) is) n (pt t out)
 | 0,_=>rfl
 | n+1,out=>by rw[iter,iter,Gj g null first t n]; exact YA _ (CE null first t g.rules out)
theorem Ak (null:List Bool) (first:List BV) (t:Nat) (R:aW) (is:List Bool) (k:Nat):fT is (rD null first t R is k):=by
 unfold rD
 split
 ·refine ⟨by simp,fun i hi=>?_⟩
  simp only[Xb,YC] at hi ⊢
  split
  ·rename_i e
   subst e
   split
   ·simp[hi]
   ·rename_i h; rw[XL (by omega)] at hi; simp at hi
  ·exact hi
 ·exact .refl _
theorem yp {g:ag} (f:g.dD) (null:List Bool) {R:aW} (c:R∈g.rules) {k:Nat} {s:Int} (hk:R.right[k]?=some s) (hs:s < 0) {t:Nat}
  (h:(ik null (dM g null) 0 (R.right.drop (k+1))).getLsbD t=true∨(cE (R.right.drop (k+1)) null false=true∧((kI g null).getD R.left.toNat 0).getLsbD t=true)):((kI g null).getD (-1 - s).toNat 0).getLsbD t=true:=by
 have e:=Gj g null (dM g null) t g.ak.length (qz g)
 have a:=z7 (F:=fun is=>g.rules.foldl (Jt null (dM g null) t) is) (fun is=>sY (fun is R=>sY (fun is k=>Ak _ _ _ _ _ _) _ _) g.rules is) g.ak.length (pt t (qz g)) (by simp[pt,qz])
 rw[← e] at a
 have h1:=yL (fun is R=>sY (fun is k=>Ak null (dM g null) t R _ _) _ _) a R c
 have b:=(Xq.1 hk).1
 have d:=yL (fun is k=>Ak null (dM g null) t R _ _) h1 k (XU.2 b)
 have i:R.right.getD k 0=s:=by rw[Xb,hk]; rfl
 change rD null (dM g null) t R (pt t (kI g null)) k=pt t (kI g null) at d
 have j:=f.neg c (Xi hk) hs
 rw[← rI,← d]
 unfold rD
 rw[i,Xg hs,Xb,Y3 (by simp[pt,JJ]; omega)]
 simp only[Xu,Yp,Xl]
 rw[rI t _ R.left.toNat]
 exact .inr h
theorem JP {out:List BV} {a i t:Nat} {x:BV} (h:(out.getD i 0).getLsbD t=true):((out.set a (out.getD a 0 ||| x)).getD i 0).getLsbD t=true:=by
 rw[fj]
 split
 ·rename_i e
  rw[Ye,e.1,h]; rfl
 ·exact h
theorem Hm {g:ag} (b:g.dD) (null:List Bool):((kI g null).getD g.start.toNat 0).getLsbD g.af.length=true:=by
 have c:((qz g).getD g.start.toNat 0).getLsbD g.af.length=true:=by
  unfold qz
  have:=b.start; have:=b.kA
  rw[fj,Xg ⟨rfl,by simp; omega⟩]
  have:=b.af
  exact (rf (by omega) _).2 rfl
 have d:∀ (R:aW) (l:List Nat) (out:List BV),(out.getD g.start.toNat 0).getLsbD g.af.length=true→((l.foldl (oT null (dM g null) R) out).getD g.start.toNat 0).getLsbD g.af.length=true:=fun R l=>by
  induction l with
  | nil=>exact fun _ h=>h
  | cons k l a =>
   intro out h
   rw[XC]
   refine a _ ?_
   unfold oT
   split
   ·exact JP h
   ·exact h
 have e:∀ (l:List aW) (out:List BV),(out.getD g.start.toNat 0).getLsbD g.af.length=true→((l.foldl (vy null (dM g null)) out).getD g.start.toNat 0).getLsbD g.af.length=true:=fun l=>by
  induction l with
  | nil=>exact fun _ h=>h
  | cons R l a=>exact fun out h=>a _ (d R _ out h)
 have f:∀ (n:Nat) (out:List BV),(out.getD g.start.toNat 0).getLsbD g.af.length=true→((iter (AE g null (dM g null)) n out).getD g.start.toNat 0).getLsbD g.af.length=true:=fun n=>by
  induction n with
  | zero=>exact fun _ h=>h
  | succ n a=>exact fun out h=>a _ (e g.rules out h)
 exact f _ _ c
theorem N0 {g:ag} (h:isRed g=true):∀ i:Nat,i < g.ak.length→oO g (au g true) i:=by
 have hr:=iJ h
 unfold isRed at h
 simp only[Xl,Yo,Xr] at h
 obtain ⟨h1,b⟩:=h
 have hp:(au g true).getD g.start.toNat false=true:=by
  refine Yj fun c=>?_
  rw[lj hr,Xd c] at h1
  simp at h1
 have a:=QK hr hp
 have e:(fX g).1=qB g (bL (ct (au g true) (bN g) g.rules)) (au g true) (bN g):=by rw[lj hr,Xg hp]
 rw[← e,← b] at a
 intro i hi
 rw[a.len] at hi
 exact za hr i (a.OU hi)
section
variable {g:ag} {a:List aI}
theorem Sq (b:bZ g a) (hr:isRed g=true) {x:Int} (h:oO g (au g true) x):∃ p,dT a p (-1 - x):=by
 have hp:=b.pos
 induction h with
 | start =>
  refine ⟨0,(b.lJ (by omega)).2 ⟨⟨-1,0⟩,(dt b.cF (b.bc (by omega))).2 (.base (by rw[b.e.first]; simp)),?_⟩⟩
  unfold bK; rw[Xd (by simp[aK])]; simp[aK]
 | next R s m _ _ hs u n =>
  obtain ⟨p,hE⟩:=n
  obtain ⟨k,hk,e⟩:=Yh.1 m
  have c:av g k=R:=by unfold av; rw[Xb,Xy,Xc hk,e]; rfl
  obtain ⟨d,hd,o⟩:=Yh.1 hs
  have f:=eY hE
  have i:aK g (k:Int)=R.right:=by rw[aK,Xd (by omega),c]
  have hm:=kF b f (b.cF.left _ m).1 hk (by rw[c]) hE
  obtain ⟨q,r,v,t⟩:=b.fwd k (R.right.take d) 0 p f hm ⟨R.right.drop d,by rw[i]; simp⟩
  have j:bK g ⟨k,((0+(R.right.take d).length:Nat):Int)⟩=(s,true):=(qh (l:=R.right.drop (d+1)) (by
   rw[i,Yi,X0,Nat.min_eq_left (by omega),XW hd,o])).1
  refine ⟨q,?_⟩
  rw[show -1 - (-1 - s)=s by omega]
  exact (b.lJ r).2 ⟨_,t,j⟩
theorem Ny (c:bZ g a) {p t:Nat} {B:Int} (h:vd g a p B t):0≤B→dT a p (-1 - B)→((kI g (au g false)).getD B.toNat 0).getLsbD t=true:=by
 induction h with
 | @read p B t h =>
  intro j he
  rcases Cf c h he with ⟨_,rfl,rfl⟩ | ⟨x,l,m,f⟩
  ·exact Hm c.cF _
  ·by_cases n:0≤x.ax
   ·have hH:=c.has (eY he) l
    obtain ⟨d,d1,d2,d3⟩:=qm hH m
    rw[aK,Xd (by omega)] at d2 d3
    have hk:x.ax.toNat < g.rules.length:=by have:=hH.1; omega
    have e:g.rules[x.ax.toNat]?=some (av g x.ax):=by unfold av; exact getD_some hk
    have hd:(av g x.ax).right[d]?=some (-1 - B):=by
     have:=YA (·[0]?) d2
     simpa using this
    have:=yp c.cF (au g false) (Xi e) hd (by omega) (t:=t) (.inl (by rw[d3]; exact f))
    rw[show -1 - (-1 - B)=B by omega] at this
    exact this
   ·rw[jU,Xd n] at f
    simp[ik] at f
 | @HT p r k d B t s hk i o hd hw b q =>
  intro j he
  have e:g.rules[k]?=some (av g k):=by unfold av; exact getD_some hk
  have h1:=q (c.cF.left _ (Xi e)).1 i
  have:=yp c.cF (au g false) (Xi e) hd (by omega) (t:=t) (.inr ⟨b,h1⟩)
  rw[show -1 - (-1 - B)=B by omega] at this
  exact this
end
def fe (z:List Cell) (e:bX):List Cell:=if e.sym < 0 then z else z.set e.sym.toNat ⟨1,e.to⟩
def iB (z:List Int) (e:bX):List Int:=if e.sym < 0 then z.set (-1 - e.sym).toNat e.to else z
theorem CZ (z:List Cell) (e:bX):(fe z e).length=z.length:=by unfold fe; split <;> simp
theorem CB (z:List Int) (e:bX):(iB z e).length=z.length:=by unfold iB; split <;> simp
theorem pn:∀ (l:List bX) (z:List Cell),(l.foldl fe z).length=z.length
 | [],_=>rfl
 | e :: l,z=>by rw[XC,pn l,CZ]
theorem w9:∀ (l:List bX) (z:List Int),(l.foldl iB z).length=z.length
 | [],_=>rfl
 | e :: l,z=>by rw[XC,w9 l,CB]
theorem Bt {l:List bX} {s:Int} (h:s ∉ l.map bX.sym):fC l s=none:=by
 cases a:fC l s with
 | none=>rfl
 | some c =>
  obtain ⟨e,he,h1,_⟩:=tf a
  exact absurd (Xw.2 ⟨e,he,h1⟩) h
def Bb (c:Option Cell) (d:Cell):Cell:=match c with
 | some c=>c
 | none=>d
theorem DP:∀ (l:List bX) (z:List Cell) (k:Nat),(l.map bX.sym).Nodup→k < z.length→(l.foldl fe z).getD k ⟨0,0⟩=Bb (fC l k) (z.getD k ⟨0,0⟩)
 | [],z,k,_,_=>rfl
 | e :: l,z,k,a,hk=>by
  rw[XF,X6] at a
  rw[XC,DP l _ k a.2 (by rw[CZ]; exact hk),fC]
  by_cases h:e.sym=k
  ·rw[Xg h,Bt (h ▸ a.1)]
   simp only[Bb,fe]
   rw[Xd (by omega),fj,Xg ⟨by omega,by omega⟩]
  ·rw[Xd h]
   congr 1
   unfold fe
   split
   ·rfl
   ·rw[fj,Xd (by omega)]
theorem Di:∀ (l:List bX) (z:List Int) (k:Nat),(l.map bX.sym).Nodup→k < z.length→(l.foldl iB z).getD k (-1)=(Bb (fC l (-1 - k)) ⟨1,z.getD k (-1)⟩).n
 | [],z,k,_,_=>rfl
 | e :: l,z,k,a,hk=>by
  rw[XF,X6] at a
  rw[XC,Di l _ k a.2 (by rw[CB]; exact hk),fC]
  by_cases h:e.sym = -1 - k
  ·rw[Xg h,Bt (h ▸ a.1)]
   simp only[Bb,iB]
   rw[Xg (by omega),fj,Xg ⟨by omega,by omega⟩]
  ·rw[Xd h]
   congr 2
   unfold iB
   split
   ·rw[fj,Xd (by omega)]
   ·rfl
theorem zB (s:Int):∀ l:List bX,c7 l s=(Bb (fC l s) ⟨1,-1⟩).n
 | []=>rfl
 | e :: l=>by
  rw[c7,fC]
  split
  ·rfl
  ·exact zB s l
section
variable {g:ag} {a:List aI}
theorem TZ (b:ni g a) {i:Nat} (hi:i < a.length) (k:Int):uE a i k=(Bb (fC (a.getD i aM).aG (-1 - k)) ⟨1,-1⟩).n:=by
 have d:eT a i [-1 - k]=eZ a i [-1 - k]:=by unfold eT; rw[Xd (by omega)]
 have f:eZ a i [-1 - k]=if 0≤c7 (a.getD i aM).aG (-1 - k)∧c7 (a.getD i aM).aG (-1 - k) < a.length then (c7 (a.getD i aM).aG (-1 - k),true) else (0,false):=by
  rw[eZ,Xy]; simp only[eZ]
 rw[uE,d,f,← zB]
 by_cases h:0≤c7 (a.getD i aM).aG (-1 - k)
 ·obtain ⟨e,he,_,o⟩:=Rx h
  have:=b.to _ (Xi (getD_some hi)) e he
  rw[Xg (c:=0≤c7 (a.getD i aM).aG (-1 - k)∧_) ⟨h,by omega⟩]
  simp
 ·rw[Xd (c:=0≤c7 (a.getD i aM).aG (-1 - k)∧_) (fun q=>h q.1)]
  simp only[Xz,if_false]
  have:∀ l:List bX,(∀ e∈l,0≤e.to)→-1≤c7 l (-1 - k):=fun l=>by
   induction l with
   | nil=>intro _; simp[c7]
   | cons e l j =>
    intro hl
    rw[c7]
    split
    ·have:=hl e (by simp); omega
    ·exact j fun x m=>hl x (by simp[m])
  have:=this (a.getD i aM).aG fun e he=>(b.to _ (Xi (getD_some hi)) e he).1
  omega
theorem VM (b:ni g a) {i:Nat} (hi:i < a.length) (c:((a.getD i aM).aG.map bX.sym).Nodup):(a.getD i aM).aG.foldl iB (List.replicate g.ak.length (-1))=mF g a i:=by
 refine List.ext_getElem (by rw[w9]; simp[mF]) fun k h1 d=>?_
 have hk:k < g.ak.length:=by simpa [mF] using d
 have e:=Di (a.getD i aM).aG (List.replicate g.ak.length (-1)) k c (by simpa using hk)
 rw[Xb,Xc h1] at e
 simp only[Xu] at e
 rw[e]
 simp only[mF,List.getElem_map,List.getElem_range,TZ b hi]
 congr 3
 simp[Xb,YP,hk]
def AD (g:ag) (s:aI):List Cell:=if (⟨-1,1⟩:aD)∈s.bc then (s.aG.foldl fe (List.replicate (g.af.length+1) ⟨0,0⟩)).set g.af.length ⟨3,0⟩ else s.aG.foldl fe (List.replicate (g.af.length+1) ⟨0,0⟩)
theorem Fl (g:ag) (s:aI):(AD g s).length=g.af.length+1:=by
 unfold AD
 split
 ·rw[List.length_set,pn]; simp
 ·rw[pn]; simp
theorem N5 {g:ag} {s:aI} (b:(s.aG.map bX.sym).Nodup) (f:∀ e∈s.aG,e.sym < g.af.length) {k:Nat} (hk:k < g.af.length+1):(AD g s)[k]?=some (eL g s k):=by
 have e:=DP s.aG (List.replicate (g.af.length+1) ⟨0,0⟩) k b (by simpa using hk)
 have i:(List.replicate (g.af.length+1) (⟨0,0⟩:Cell)).getD k ⟨0,0⟩=⟨0,0⟩:=by simp[Xb,YP,hk]
 rw[i] at e
 rw[getD_some (d:=⟨0,0⟩) (by rw[Fl]; exact hk)]
 congr 1
 have j:fC s.aG (g.af.length:Nat)=none:=Bt fun h=>by
  obtain ⟨x,l,h1⟩:=Xw.1 h
  have:=f x l; omega
 unfold AD eL
 split
 ·rename_i hm
  rw[fj,pn,Ym]
  by_cases a:k=g.af.length
  ·subst a
   rw[Xg ⟨rfl,by omega⟩,j]
   simp only
   rw[Xg ⟨trivial,hm⟩]
  ·rw[Xd (fun h=>a h.1.symm),e]
   cases fC s.aG k with
   | some c=>rfl
   | none=>simp only[Bb]; rw[Xd (fun h=>a (by have:=h.1; omega))]
 ·rename_i hm
  rw[e]
  cases fC s.aG k with
  | some c=>rfl
  | none=>simp only[Bb]; rw[Xd (fun h=>hm h.2)]
theorem RW {g:ag} {s:aI} (a:(s.aG.map bX.sym).Nodup) (b:∀ e∈s.aG,e.sym < g.af.length):AD g s=(List.range (g.af.length+1)).map fun (k:Nat)=>eL g s k:=by
 refine List.ext_getElem? fun k=>?_
 by_cases hk:k < g.af.length+1
 ·rw[N5 a b hk,Xf,Yu hk]; rfl
 ·rw[XL (by rw[Fl]; omega),XL (by simp; omega)]
end
section
variable {P:Program} {T:Env} {H:View} {K:V→View→Prop} {w:cD (T,H,K)} {t t1 e ty:TypeId}
theorem Lh {d x:Operand} {id off len sz bytes s:Nat} {z:List V} {es xs:List (List V)} {rd:List Nat} (he:qY P t=some (sz,bytes,z)) (hd:ev T d=.sl id off len sz) (g:bI H (ev T x)=some (xs,rd)) (hH:H id=.arr s es) (hl:off+len≤es.length)
  (h:(xs.all fun e=>e.length == sz && e.all aO)=true) (i:(xs.take len).isEmpty=false) (hk:K (iL (xs.take len).length) (H.set id (.arr sz (dY es off (xs.take len))))) :
  jH P (.call { callee:=.builtin .copy,args:=#[d,x],argTypes:=#[t,t1] }) ty T H K w:=by
 obtain ⟨e,ti,a,hi,b,k,j,f,c,rfl,rfl⟩:=lO he
 intro n _
 refine ⟨iL (xs.take len).length,.fk id (.arr ti.size (dY es off (xs.take len))),id :: rd,?_,hk⟩
 simp only[sI,cp,oper]
 simp[xH,a,hd,g,cH,b,i,hH,hl,c,h]
theorem QY {d x:Operand} {k:Nat} {sz bytes:Nat} {z:List V} {xs:List (List V)} {rd:List Nat} (he:qY P t=some (sz,bytes,z)) (hd:ev T d=.emp k) (f:bI H (ev T x)=some (xs,rd)) (hk:K (iL 0) H) :
  jH P (.call { callee:=.builtin .copy,args:=#[d,x],argTypes:=#[t,t1] }) ty T H K w:=by
 obtain ⟨e,ti,a,hi,b,i,g,c,h,rfl,rfl⟩:=lO he
 intro n _
 refine ⟨iL 0,.none,[],?_,hk⟩
 simp only[sI,cp,oper]
 simp[xH,a,hd,f,cH,b]
end
theorem uR:∀ (xs A B:List (List V)),xs.length≤B.length→dY (A ++ B) A.length xs=A ++ xs ++ B.drop xs.length
 | [],A,B,_=>by simp[dY]
 | x :: r,A,[],h=>by simp at h
 | x :: r,A,b :: B,h=>by
  rw[dY,List.set_append_right _ _ (Xo _),Nat.sub_self,List.set_cons_zero]
  have:=uR r (A ++ [x]) B (by simpa using h)
  simpa using this
theorem JD {id off k m:Nat} (hm:m≤k):dx 1 (.sl id off k 1) (some (gi m)) none=some (.sl id (off+m) (k - m) 1,.none,[]):=by
 simp[dx,bound,asNat,hm]
def u64 (n:Int):V:=.val (.int .u64 n)
noncomputable def OC:List (FuncId × DF):=Aq Tryz.prog [(174,[]),(211,[])]
theorem Pj:sj Tryz.prog OC:=xU _ _
theorem Ug {n:Nat} (h:n≤16):aA Tryz.prog 174 [u64 1,u64 n] (.bp [u64 0,u64 n]):=by
 have key:∀ {n:Nat},vR Tryz.prog OC (Mv []) 174 [u64 1,u64 n]=some (.bp [u64 0,u64 n])→aA Tryz.prog 174 [u64 1,u64 n] (.bp [u64 0,u64 n]):=fun h =>
  (sE mixed Pj (IL (l:=[]) (by simp)) (by intro v a; simp at a; rcases a with rfl | rfl <;> exact .val _) h).pure
 have:n=0∨n=1∨n=2∨n=3∨n=4∨n=5∨n=6∨n=7∨n=8∨n=9∨n=10∨n=11∨n=12∨n=13∨n=14∨n=15∨n=16:=by omega
 rcases this with rfl | rfl | rfl | rfl | rfl | rfl | rfl | rfl | rfl | rfl | rfl | rfl | rfl | rfl | rfl | rfl | rfl <;> exact key (by kernel_rfl)
def gG:SC :=
 ae [ae [ab [aa 34 8,aa 35 7,aN 36 35,aV 37 .lss 34 36],bY 37 (.exit 0)],.block 1 (ab [aa 38 8,aa 39 7,aa 40 8,((some 41),.op (.slice 1 (.tmp 39) (some (.tmp 40)) none)),aa 42 7,aa 43 8,((some 44),.op (.slice 1 (.tmp 42) none (some (.tmp 43)))),((some 45),.op (.old (.call { callee:=.builtin .copy,args:=#[(.tmp 41),(.tmp 44)],argTypes:=#[43,43] }) 3)),aV 46 .add 38 45,aa 8 46])]
def kx:SF:=⟨ae [ab [df 4 1],ae [ab [aa 9 1,aH 10 .lss 9 0],bf 10 (.region false [⟨none,[((some 11),.op (.old (.makeInterface 9 (.const (.string ⟨#[99,97,110,110,111,116,32,98,101,32,110,101,103,97,116,105,118,101]⟩))) 20)),(none,.op (.old (.panic (.tmp 11)) 0))]⟩])],ab [aa 13 0,aN 14 13,((some 15),.op (.conv .u64 (.tmp 14))),aa 16 1,((some 17),.op (.conv .u64 (.tmp 16))),bz 18 174 [15,17],aa 12 18,fI 19 0 12,fI 20 1 12,aa 5 19,aa 6 20],ae [.region false [⟨none,[aa 21 5,((some 22),.op (.arith .gtr (.tmp 21) (.val (.val (.int .u64 0))))),aa 23 22]⟩,⟨(some (23,false)),[aa 24 6,((some 25),.op (.arith .gtr (.tmp 24) (.val (.val (.int .u64 9223372036854775807)))))]⟩,⟨none,[cz 26 23 25]⟩],bf 26 (.region false [⟨none,[((some 27),.op (.old (.makeInterface 9 (.const (.string ⟨#[116,104,101,32,114,101,115,117,108,116,32,111,102,32,40,108,101,110,40,120,41,32,42,32,99,111,117,110,116,41,32,111,118,101,114,102,108,111,119,115]⟩))) 20)),(none,.op (.old (.panic (.tmp 27)) 0))]⟩])],ab [aa 28 6,((some 29),.op (.conv .i64 (.tmp 28))),((some 30),.op (.make 1 8 [(.val (.int .i64 0))] (.tmp 29) (.tmp 29))),aa 7 30],ab [aa 31 7,aa 32 0,((some 33),.op (.old (.call { callee:=.builtin .copy,args:=#[(.tmp 31),(.tmp 32)],argTypes:=#[43,43] }) 3)),aa 8 33],b6 0 gG,ab [aa 47 7,aa 4 47],.ret],
 [.tmp 4],48⟩
theorem pH:aR Tryz.prog 127 []=some kx:=by kernel_rfl
theorem M6 (n:Nat) (t:n≤16) (m:Nat) (H:View) (hm:H m=.arr 1 [[gi (-1)]]):aw Tryz.prog 127 [.sl m 0 1 1,gi n] H fun r H'=>aX H' r 1 (bE (List.replicate n (-1)))∧dr H H' r:=by
 refine aw.of mixed pH ?_
 have hmul:=Ug t
 unfold u64 at hmul
 have i:IntKind.u64.wrap 1=1:=by decide
 have j:IntKind.u64.wrap (n:Int)=n:=by
  have:n=0∨n=1∨n=2∨n=3∨n=4∨n=5∨n=6∨n=7∨n=8∨n=9∨n=10∨n=11∨n=12∨n=13∨n=14∨n=15∨n=16:=by omega
  rcases this with rfl | rfl | rfl | rfl | rfl | rfl | rfl | rfl | rfl | rfl | rfl | rfl | rfl | rfl | rfl | rfl | rfl <;> decide
 have f:IntKind.i64.wrap (n:Int)=n:=by
  have:n=0∨n=1∨n=2∨n=3∨n=4∨n=5∨n=6∨n=7∨n=8∨n=9∨n=10∨n=11∨n=12∨n=13∨n=14∨n=15∨n=16:=by omega
  rcases this with rfl | rfl | rfl | rfl | rfl | rfl | rfl | rfl | rfl | rfl | rfl | rfl | rfl | rfl | rfl | rfl | rfl <;> decide
 simp (disch:=omega)only[↓wr,seval,wq,kx]
 refine ah.dec (fun h=>absurd h (by omega)) (fun _=>?_)
 simp (disch:=omega)only[↓wr,seval,wq]
 rw[i,j]
 refine ay.pure hmul ?_
 simp (disch:=omega)only[↓wr,seval,wq,f]
 refine ah.dec (fun h=>absurd h (by omega)) (fun _=>?_)
 simp (disch:=omega)only[↓wr,seval,wq,f]
 refine ⟨⟨by omega,by unfold aB; omega,by unfold aB; omega⟩,fun p=>?_,fun p b g=>?_⟩
 ·refine QY (k:=2) (sz:=1) (bytes:=8) (z:=[gi 0]) (xs:=[[gi (-1)]]) (rd:=[m]) (by kernel_rfl) (by simp (disch:=omega)only[↓wr,seval,wq]) (by simp (disch:=omega)only[↓wr,seval,wq]; simp[bI,hm]) ?_
  simp (disch:=omega)only[↓wr,seval,wq]
  refine aU.intro (fun k T H'=>H'=H∧T 7=.emp 2∧T 8=iL 0) 0 ⟨rfl,rfl,rfl⟩ ?_
  rintro k T _ ⟨rfl,t7,t8⟩
  simp (disch:=omega)only[↓wr,seval,wq,gG,t7,t8]
  refine ⟨?_,fun id a=>⟨rfl,by simp[owner]⟩⟩
  rw[p]; exact .nil
 have l:¬ m=b:=by rintro rfl; rw[hm] at g; simp at g
 refine Lh (id:=b) (off:=0) (len:=n) (sz:=1) (bytes:=8) (z:=[gi 0]) (s:=1) (es:=List.replicate n [gi 0]) (xs:=[[gi (-1)]]) (rd:=[m]) (by kernel_rfl) (by simp (disch:=omega)only[↓wr,seval,wq]) (by simp (disch:=omega)only[↓wr,seval,wq]; simp[bI,View.set,l,hm]) (by simp[View.set]) (by simp) (by simp[aO]) (by obtain ⟨q,rfl⟩:∃ q,n=q+1:=⟨n - 1,by omega⟩; rfl) ?_
 rw[show ([[gi (-1)]]:List (List V)).take n=List.replicate 1 [gi (-1)] by obtain ⟨q,rfl⟩:∃ q,n=q+1:=⟨n - 1,by omega⟩; simp,
  show dY (List.replicate n [gi 0]) 0 (List.replicate 1 [gi (-1)])=List.replicate 1 [gi (-1)] ++ List.replicate (n - 1) [gi 0] by
   have:=uR (List.replicate 1 [gi (-1)]) [] (List.replicate n [gi 0]) (by simp; omega)
   simpa using this,Ym]
 simp (disch:=omega)only[↓wr,seval,wq]
 rw[set_set]
 refine aU.intro (fun k T H'=>∃ c:Nat,1≤c∧c+k=n∧H' b=.arr 1 (List.replicate c [gi (-1)] ++ List.replicate (n - c) [gi 0])∧(∀ id,H id≠.dead→H' id=H id)∧T 7=.sl b 0 n 1∧T 8=gi c) (n - 1) ⟨1,by omega,by omega,by simp[View.set],fun id a=>?_,rfl,rfl⟩ ?_
 ·have:¬ id=b:=by rintro rfl; exact a g
  simp[View.set,this]
 rintro k T H' ⟨c,c1,v,hH,e,t7,t8⟩
 simp (disch:=omega)only[↓wr,seval,wq,gG,t7,t8]
 apply ah.dec<;>intro u
 ·simp (disch:=omega)only[↓wr,seval,wq,t7,t8,JD (id:=b) (off:=0) (k:=n) (m:=c) (by omega),JE (id:=b) (off:=0) (k:=n) (m:=c) (by omega)]
  have o:bI H' (.sl b 0 c 1)=some (List.replicate c [gi (-1)],[b]):=by
   obtain ⟨q,rfl⟩:∃ q,c=q+1:=⟨c - 1,by omega⟩
   simp only[bI,hH]
   rw[Xg (by simp)]
   simp
  obtain ⟨d,hd⟩:∃ d,d=min (n - c) c:=⟨_,rfl⟩
  refine Lh (id:=b) (off:=c) (len:=n - c) (sz:=1) (bytes:=8) (z:=[gi 0]) (s:=1) (es:=List.replicate c [gi (-1)] ++ List.replicate (n - c) [gi 0]) (xs:=List.replicate c [gi (-1)]) (rd:=[b]) (by kernel_rfl) (by simp (disch:=omega)only[↓wr,seval,wq]) (by simp (disch:=omega)only[↓wr,seval,wq]; exact o) hH (by simp) (by simp[aO]) ?_ ?_
  ·rw[List.take_replicate,← hd]
   obtain ⟨q,hq⟩:∃ q,d=q+1:=⟨d - 1,by omega⟩
   rw[hq]; rfl
  have hs:=uR (List.replicate d [gi (-1)]) (List.replicate c [gi (-1)]) (List.replicate (n - c) [gi 0]) (by simp; omega)
  rw[Ym] at hs
  rw[List.take_replicate,← hd,hs,Ym]
  simp (disch:=omega)only[↓wr,seval,wq,t7,t8]
  refine ⟨n - (c+d),by omega,c+d,by omega,by omega,?_,fun id a=>?_,rfl⟩
  ·simp[View.set,List.drop_replicate,← List.replicate_append_replicate,show n - c - d=n - (c+d) by omega]
  ·have:¬ id=b:=by rintro rfl; exact a g
   simp[View.set,this]; exact e id a
 ·simp (disch:=omega)only[↓wr,seval,wq,t7]
  obtain rfl:c=n:=by omega
  refine ⟨.inr ⟨b,by simp,by rw[hH]; simp[bE]⟩,fun id a=>⟨e id a,?_⟩⟩
  simp only[owner,ne_eq,Xe]
  rintro rfl; exact a g
def E8:SF:=⟨ae [ab [((some 2),.op (.fa (.val (.val (.int .u32 0)))))],ae [.region false [⟨none,[aa 3 0,aH 4 .lss 3 0,aa 5 4]⟩,⟨(some (5,false)),[aa 6 0,aH 7 .geq 6 32]⟩,⟨none,[cz 8 5 7]⟩],bf 8 (ae [ab [((some 2),.op (.fa (.val (.val (.int .u32 0)))))],.ret])],ab [aa 9 0,((some 10),.op (.sh true (.val (.val (.int .u32 1))) (.tmp 9))),aa 2 10],.ret],
 [.tmp 2],11⟩
theorem I1:aR Tryz.prog 124 []=some E8:=by kernel_rfl
def Gn:SF:=⟨ae [ab [bu 4 false],ab [aa 5 0,aa 6 1,bz 7 124 [6],aV 8 .and 5 7,((some 9),.op (.arith .neq (.tmp 8) (.val (.val (.int .u32 0))))),aa 4 9],.ret],
 [.tmp 4],10⟩
theorem HR:aR Tryz.prog 79 []=some Gn:=by kernel_rfl
def wy:SC :=
 ae [ab [aV 10 .lss 9 8],bY 10 (.exit 0),.block 1 (ae [ab [aQ 11 2 7 9,bg 12 2 11,((some 6),.op (.alloc [(.val (.int .i64 0)),(.val (.int .u32 0))])),bU 2 6 12],ab [ao 13 1 6,aj 14 13,aa 15 1,bz 16 79 [14,15]],bf 16 (ab [aa 17 4,ao 18 0 6,aj 19 18,((some 20),.op (.bV 1 1 [(.val (.int .i64 0))] [(0,(.tmp 19))])),gY 21 1 8 17 20,aa 4 21])]),ab [aH 22 .add 9 1,aa 9 22]]
def z8:SF:=⟨ae [ab [df 4 1],ae [ab [aa 7 0,aN 8 7,aS 9 0],b6 0 wy],ab [aa 23 4,aa 4 23],.ret],
 [.tmp 4],24⟩
theorem Co:aR Tryz.prog 38 []=some z8:=by kernel_rfl
theorem GA (n:Int):aA Tryz.prog 124 [gi n] (gw (fG n)):=by
 refine aA.val (by intro v b; simp at b; subst b; exact .val _) fun H=>?_
 have bad:¬ (0≤n∧n≤31)→fG n=0:=fun h=>by rw[fG,Xd h]
 refine aw.of mixed I1 ?_
 simp (disch:=omega)only[↓wr,seval,wq,E8]
 apply ah.dec<;>intro h1
 ·simp (disch:=omega)only[↓wr,seval,wq]
  rw[bad (by omega)]; rfl
 simp (disch:=omega)only[↓wr,seval,wq]
 apply ah.dec<;>intro c
 ·simp (disch:=omega)only[↓wr,seval,wq]
  rw[bad (by omega)]; rfl
 simp (disch:=omega)only[↓wr,seval,wq]
 have a:(2:Nat) ^ n.toNat≤2 ^ 31:=Nat.pow_le_pow_right (by omega) (by omega)
 have e:El true .u32 1 n=(((fG n).toNat:Nat):Int):=by
  rw[R5 (by omega)]
  unfold El
  rw[Xg rfl,show min n.toNat IntKind.u32.bits=n.toNat by rw[show IntKind.u32.bits=32 from rfl]; omega]
  have d:((1:Int) * 2 ^ n.toNat)=((2 ^ n.toNat:Nat):Int):=by rw[Int.one_mul]; push_cast; rfl
  rw[d]
  generalize (2:Nat) ^ n.toNat=z at a
  exact Tm (by omega) (by omega)
 rw[e]
 first | rfl | exact ⟨by omega,rfl⟩
theorem Pt (s:BV) (n:Int):aA Tryz.prog 79 [gw s,gi n] (gb (hasB s n)):=by
 refine aA.val (by
  intro v a; simp at a
  rcases a with rfl | rfl <;> exact .val _) fun H=>?_
 refine aw.of mixed HR ?_
 simp (disch:=omega)only[↓wr,seval,wq,Gn]
 refine ay.pure (GA n) ?_
 simp (disch:=omega)only[↓wr,seval,wq,VH]
 congr 2
 unfold hasB
 rw[Yl]
 simp only[Zk,ne_eq,Xr,toNat_zero]
theorem JW {l:List cd} {i:Nat} {x:cd} (a:l[i]?=some x) (n:Int):fv (l.take (i+1)) n=if hasB x.set n=true then fv (l.take i) n ++ [x.ax] else fv (l.take i) n:=by
 unfold fv
 rw[FG a]
 split <;> simp
theorem NF (l:List cd) (i:Nat) (n:Int):(fv (l.take i) n).length≤i:=by
 unfold fv
 have:=X9 (fun x:cd=>hasB x.set n) (l.take i)
 simp only[Xj,X0] at this ⊢
 omega
theorem Mi (l:List cd) (hl:l.length≤10000) (n:Int):dc Tryz.prog 38 [.aE (kB l),gi n] (encI (fv l n)):=by
 refine dc.of (by
  intro v f; simp at f
  rcases f with rfl | rfl
  ·exact TX _
  ·exact .val _) ?_
 refine aw.of mixed Co ?_
 simp (disch:=omega)only[↓wr,seval,wq,z8,kB]
 refine aU.up l.length (fun i T H'=>∃ u:V,aX H' u 1 (bE (fv (l.take i) n))∧T 1=gi n∧T 4=u∧T 7=.aE (kB l)∧T 8=gi l.length∧T 9=gi i) ⟨.emp 1,.nil,rfl,rfl,rfl,rfl,rfl⟩ ?_
 rintro i k T H hk ⟨u,b,t1,t4,t7,t8,t9⟩
 simp (disch:=omega)only[↓wr,seval,wq,wy,t1,t4,t7,t8,t9,kB]
 apply ah.dec<;>intro g
 ·have d:l[i]?=some (l[i]'(by omega)):=Xc (by omega)
  generalize l[i]'(by omega)=x at d
  have a:=JW d n
  have h:=NF l i n
  simp (disch:=omega)only[↓wr,seval,wq,t1,t4,t7,t8,t9,kB,Xf,d,Xk,C2]
  intro q hq
  rw[set_set]
  have c:(H.set q (.arr 2 [[gi x.ax,gw x.set]])) q=.arr 2 [[gi x.ax,gw x.set]]:=by simp[View.set]
  have b:=b.fresh (o:=.arr 2 [[gi x.ax,gw x.set]]) hq
  generalize H.set q (.arr 2 [[gi x.ax,gw x.set]])=p at c b
  refine ay.pure (Pt x.set n) ?_
  simp (disch:=omega)only[↓wr,seval,wq,t1,t4,t7,t8,t9]
  apply ah.split<;>intro he
  ·simp (disch:=omega)only[↓wr,seval,wq,t1,t4,c]
   intro r e
   simp (disch:=omega)only[↓wr,seval,wq,bT]
   refine iQ (b.fresh e) (by simp[aO]) (by unfold aB; simp; omega) (by unfold aB; simp; omega) ?_
   intro j s m _
   simp (disch:=omega)only[↓wr,seval,wq,t1,t7,t8,t9]
   rw[Xg he] at a
   exact aF hk (by omega) ⟨j,by rw[a]; simpa using m,t1,rfl,t7,t8,rfl⟩
  ·simp (disch:=omega)only[↓wr,seval,wq,t1,t4,t7,t8,t9]
   rw[Xd (by rw[he]; simp)] at a
   exact aF hk (by omega) ⟨u,by rw[a]; exact b,t1,t4,t7,t8,rfl⟩
 ·rw[Xv (by omega)] at b
  simp (disch:=omega)only[↓wr,seval,wq,t4]
  rintro t rfl
  exact lQ b
def gM:SC :=
 ae [ab [aV 9 .lss 8 7],bY 9 (.exit 0),.block 1 (ae [ab [aa 10 8,aa 5 10],ab [bg 11 2 3,aa 12 0,aa 13 5,aQ 14 2 12 13,bg 15 2 14,((some 16),.op (.old (.binOp .eql 33 (.tmp 11) (.tmp 15) 33) 4))],bf 16 (ae [ab [aa 17 5,aa 4 17],.ret])]),ab [aH 18 .add 8 1,aa 8 18]]
def ir:SF:=⟨ae [ab [cI 3 1,aS 4 0],ae [ab [aa 6 0,aN 7 6,aS 8 0],b6 0 gM],ab [aS 4 (-1)],.ret],
 [.tmp 4],19⟩
theorem kM:aR Tryz.prog 175 [3]=some ir:=by kernel_rfl
def gE:SF:=⟨ae [ab [cI 3 1,bu 4 false],ab [aa 5 0,bg 6 2 3,bz 7 175 [5,6],aH 8 .geq 7 0,aa 4 8],.ret],
 [.tmp 4],9⟩
theorem jZ:aR Tryz.prog 128 [3]=some gE:=by kernel_rfl
def ue:List aD→aD→Int→Int
 | [],_,_=>-1
 | y :: l,x,i=>if x=y then i else ue l x (i+1)
theorem FP:∀ (l:List aD) (x:aD) (i:Int),0≤i→(0≤ue l x i↔x∈l)
 | [],x,i,_=>by simp[ue]
 | y :: l,x,i,h=>by
  rw[ue]
  split
  ·rename_i e; subst e; simp[h]
  ·rename_i e; rw[FP l x (i+1) (by omega)]; simp[e]
theorem L6 (l:List aD) (hl:aL l) (x:aD):aA Tryz.prog 175 [.aE (aT l),.agg [gi x.ax,gi x.dot]] (gi (ue l x 0)):=by
 unfold aL at hl
 refine aA.val (by
  intro v a; simp at a
  rcases a with rfl | rfl
  ·exact vF l
  ·exact cq _ fun v a=>by simp at a; rcases a with rfl | rfl <;> exact .val _) fun H=>?_
 refine aw.of mixed kM ?_
 simp (disch:=omega)only[↓wr,seval,wq,ir,bM]
 refine aU.up l.length (fun i T H'=>T 0=.aE (aT l)∧T 3=.aJ [gi x.ax,gi x.dot] 0∧T 7=gi l.length∧T 8=gi i∧ue l x 0=ue (l.drop i) x i) ⟨rfl,rfl,rfl,rfl,by simp⟩ ?_
 rintro i k T H' hk ⟨t0,t3,t7,t8,hi⟩
 simp (disch:=omega)only[↓wr,seval,wq,gM,t0,t3,t7,t8]
 apply ah.dec<;>intro c
 ·have b:l[i]?=some (l[i]'(by omega)):=Xc (by omega)
  rw[XW (by omega:i < l.length),ue] at hi
  generalize l[i]'(by omega)=y at b hi
  simp (disch:=omega)only[↓wr,seval,wq,t0,t3,t7,t8,aT,Xf,b,Xk,cr]
  refine jB (xs:=#[.int .i64 x.ax,.int .i64 x.dot]) (ys:=#[.int .i64 y.ax,.int .i64 y.dot]) Tryz.underlying33 (by kernel_rfl) (by kernel_rfl) ?_ ?_ (rz x y) (.inl ⟨rfl,rfl⟩) ?_
  ·rfl
  ·rfl
  rw[Ai]
  simp (disch:=omega)only[↓wr,seval,wq]
  apply ah.dec<;>intro e
  ·simp (disch:=omega)only[↓wr,seval,wq]
   rw[Xg e] at hi
   rw[hi]
  ·simp (disch:=omega)only[↓wr,seval,wq,t0,t3,t7,t8]
   rw[Xd e] at hi
   exact aF hk (by omega) ⟨t0,t3,t7,rfl,hi⟩
 ·simp (disch:=omega)only[↓wr,seval,wq]
  rw[hi,XK (by omega)]
  rfl
theorem GL (l:List aD) (hl:aL l) (x:aD):aA Tryz.prog 128 [.aE (aT l),.agg [gi x.ax,gi x.dot]] (gb (decide (x∈l))):=by
 refine aA.val (by
  intro v a; simp at a
  rcases a with rfl | rfl
  ·exact vF l
  ·exact cq _ fun v a=>by simp at a; rcases a with rfl | rfl <;> exact .val _) fun H=>?_
 refine aw.of mixed jZ ?_
 simp (disch:=omega)only[↓wr,seval,wq,gE]
 refine ay.pure (L6 l hl x) ?_
 simp (disch:=omega)only[↓wr,seval,wq]
 congr 2
 rw[Yl]
 simp only[Xr,ge_iff_le]
 exact FP l x 0 (Int.le_refl _)
end Gv
